/- A part of the proof. -/
import Derived.Test.YteldimffglchkaaGreatDoorQ27
import Derived.Test.YteldimffglchkaaGreatDoorQ28
import Derived.Test.YteldimffglchkaaGreatDoorQ25
import Derived.Test.YteldimffglchkaaGreatDoorQ24
import Derived.Test.YteldimffglchkaaGreatDoorQ22
import Derived.Test.YteldimffglchkaaGreatDoorQ14
import Derived.Test.YteldimffglchkaaGreatDoorQ23
import Derived.Test.YteldimffglchkaaGreatDoorQ11
set_option linter.all false
namespace Go.DL
open Go.Proofs.Tryz
open Go Go.Proofs
set_option maxHeartbeats 8000000
def Ek(h:GoH):List D:=[dI h.kind,dI h.val.kind,dI h.val.n,dI h.gen,sl (h.args.map cVal),dI h.fin,dI h.pos,sl (h.stk.map cVal),sl (h.env.map cVal),sl (h.objs.map cTh),sl (h.evs.map cEv)]
def IF:GoH:=⟨0,vZ,0,[],0,0,[],[],[],[]⟩
abbrev cFr(pos:Int)(stk env:List MVal):List D:=[dI pos,sl (stk.map cVal),sl (env.map cVal)]
theorem Dm:WkD (.agg [dI 0,dI 0,dI 0,dI 0,.nils,dI 0,dI 0,.nils,.nils,.nils,.nils]) (.agg (Ek IF)):=
 Dn ⟨A8 _,A8 _,A8 _,A8 _,Ak _ (.inl rfl),A8 _,A8 _,Ak _ (.inl rfl),Ak _ (.inl rfl),Ak _ (.inl rfl),Ak _ (.inl rfl),trivial⟩
theorem JI{n:Nat}{γ:Fr}{df:List DDf}{O:Sig}{i:Nat}{xs ys:List D}{d d':D}(hi:O i=some (.cells (xs++d::ys)))(h:WkD d d'): ∃U',Wk prog n ⟨γ,O,df⟩ ⟨γ,U',df⟩/\U' i=some (.cells (xs++d'::ys)) /\ ∀j o,O j=some o->j≠i->U' j=some o:=
 ⟨_,Gu hi h,w6 .., fun j o hj ai=>by rw[w7 _ _ ai];exact hj⟩
section
variable {ir:Nat}{p:BProg}{R:Nat->RW}{s:GoS}{O:Sig}
theorem haltFz{n:Nat}{γ:Fr}{df:List DDf}{av:D}{b:Bool}{h:GoH}(hH:HaltS ir p R s av b h O): ∃U' tl,Wk prog n ⟨γ,O,df⟩ ⟨γ,U',df⟩/\U' ir=some (.cells (Ek h++tl)) /\ ∀j o,O j=some o->j≠ir->(∀a, ¬(R a).is j)->U' j=some o:=by
 obtain⟨aI,ac,ak,bp,ay,ax,aL,aT⟩:=hH
 have dj:∀{a b:Nat},a≠b->∀{j:Nat},(R a).is j->¬(R b).is j:=fun {a b} bT {j} ha hb=>bT (ac.dj a b j ha hb)
 have nir:∀{a j:Nat},(R a).is j->j≠ir:=fun {a j} h e=>ak a (e ▸ h)
 cases b with
 |false=>
  obtain⟨e1,e2,e3⟩:=aT
  obtain⟨S1,w1,o1,k1⟩:=Mi (n:=n) (γ:=γ) (df:=df) (a0:=[dI h.kind,dI h.val.kind,dI h.val.n,dI h.gen,av,dI h.fin,dI 0,.nils,.nils]) (b0:=(R 2).d s.evs.length::(Ag p++[dI s.pos,(R 0).d s.stk.length,(R 1).d s.env.length])) ac ak (bp 3) (by rw[aI];rfl)
  have q2:RWAt S1 3 (R 2) (s.evs.map cEv):=(ac.ok 2).keep fun j o hj ag=>k1 j o hj (nir ag) fun q hq=>dj (by omega) ag
  obtain⟨U2,w2,o2,k2⟩:=BC (P:=prog) (n:=n) (γ:=γ) (df:=df) (i:=ir) (az:=[dI h.kind,dI h.val.kind,dI h.val.n,dI h.gen,av,dI h.fin,dI 0,.nils,.nils,.slice (s.objs.map cTh) .no]) (bs:=Ag p++[dI s.pos,(R 0).d s.stk.length,(R 1).d s.env.length]) q2 (by rw[o1,List.length_map];rfl) (ak 2)
  obtain⟨S3,w3,o3,k3⟩:=JI (n:=n) (γ:=γ) (df:=df) (xs:=[dI h.kind,dI h.val.kind,dI h.val.n,dI h.gen]) (ys:=[dI h.fin,dI 0,.nils,.nils,.slice (s.objs.map cTh) .no,.slice (s.evs.map cEv) .no]++(Ag p++[dI s.pos,(R 0).d s.stk.length,(R 1).d s.env.length])) o2 ay
  obtain⟨S4,w4,o4,k4⟩:=JI (n:=n) (γ:=γ) (df:=df) (xs:=[dI h.kind,dI h.val.kind,dI h.val.n,dI h.gen,sl (h.args.map cVal),dI h.fin,dI 0]) (ys:=[.nils,.slice (s.objs.map cTh) .no,.slice (s.evs.map cEv) .no]++(Ag p++[dI s.pos,(R 0).d s.stk.length,(R 1).d s.env.length])) o3 (Ak .no (.inl rfl))
  obtain⟨S5,w5,o5,k5⟩:=JI (n:=n) (γ:=γ) (df:=df) (xs:=[dI h.kind,dI h.val.kind,dI h.val.n,dI h.gen,sl (h.args.map cVal),dI h.fin,dI 0,sl []]) (ys:=[.slice (s.objs.map cTh) .no,.slice (s.evs.map cEv) .no]++(Ag p++[dI s.pos,(R 0).d s.stk.length,(R 1).d s.env.length])) o4 (Ak .no (.inl rfl))
  refine⟨S5,Ag p++[dI s.pos,(R 0).d s.stk.length,(R 1).d s.env.length],(((w1.trans w2).trans w3).trans w4).trans w5,?_,fun j o hj ai hn=>k5 j o (k4 j o (k3 j o (k2 j o (k1 j o hj ai fun q _=>hn q) ai (hn 2)) ai) ai) ai⟩
  rw[o5,Ek,e1,e2,e3,ax,aL];rfl
 | true =>
  obtain⟨e1,e2,e3⟩:=aT
  obtain⟨S1,w1,o1,k1⟩:=Mi (n:=n) (γ:=γ) (df:=df) (a0:=[dI h.kind,dI h.val.kind,dI h.val.n,dI h.gen,av,dI h.fin,dI s.pos,(R 0).d s.stk.length,(R 1).d s.env.length]) (b0:=(R 2).d s.evs.length::(Ag p++[dI s.pos,(R 0).d s.stk.length,(R 1).d s.env.length])) ac ak (bp 3) (by rw[aI];rfl)
  have q2:RWAt S1 3 (R 2) (s.evs.map cEv):=(ac.ok 2).keep fun j o hj ag=>k1 j o hj (nir ag) fun q hq=>dj (by omega) ag
  obtain⟨U2,w2,o2,k2⟩:=BC (P:=prog) (n:=n) (γ:=γ) (df:=df) (i:=ir) (az:=[dI h.kind,dI h.val.kind,dI h.val.n,dI h.gen,av,dI h.fin,dI s.pos,(R 0).d s.stk.length,(R 1).d s.env.length,.slice (s.objs.map cTh) .no]) (bs:=Ag p++[dI s.pos,(R 0).d s.stk.length,(R 1).d s.env.length]) q2 (by rw[o1,List.length_map];rfl) (ak 2)
  have q0:RWAt U2 2 (R 0) (s.stk.map cVal):=(ac.ok 0).keep fun j o hj ag=>k2 j o (k1 j o hj (nir ag) fun q hq=>dj (by omega) ag) (nir ag) (dj (by decide) ag)
  obtain⟨S3,w3,o3,k3⟩:=BC (P:=prog) (n:=n) (γ:=γ) (df:=df) (i:=ir) (az:=[dI h.kind,dI h.val.kind,dI h.val.n,dI h.gen,av,dI h.fin,dI s.pos]) (bs:=[(R 1).d s.env.length,.slice (s.objs.map cTh) .no,.slice (s.evs.map cEv) .no]++(Ag p++[dI s.pos,(R 0).d s.stk.length,(R 1).d s.env.length])) q0 (by rw[o2,List.length_map];rfl) (ak 0)
  have q1:RWAt S3 2 (R 1) (s.env.map cVal):=(ac.ok 1).keep fun j o hj ag=>k3 j o (k2 j o (k1 j o hj (nir ag) fun q hq=>dj (by omega) ag) (nir ag) (dj (by decide) ag)) (nir ag) (dj (by decide) ag)
  obtain⟨S4,w4,o4,k4⟩:=BC (P:=prog) (n:=n) (γ:=γ) (df:=df) (i:=ir) (az:=[dI h.kind,dI h.val.kind,dI h.val.n,dI h.gen,av,dI h.fin,dI s.pos,.slice (s.stk.map cVal) .no]) (bs:=[.slice (s.objs.map cTh) .no,.slice (s.evs.map cEv) .no]++(Ag p++[dI s.pos,(R 0).d s.stk.length,(R 1).d s.env.length])) q1 (by rw[o3,List.length_map];rfl) (ak 1)
  have w5:=Gu (P:=prog) (n:=n) (γ:=γ) (df:=df) (az:=[dI h.kind,dI h.val.kind,dI h.val.n,dI h.gen]) (bs:=[dI h.fin,dI s.pos,.slice (s.stk.map cVal) .no,.slice (s.env.map cVal) .no,.slice (s.objs.map cTh) .no,.slice (s.evs.map cEv) .no]++(Ag p++[dI s.pos,(R 0).d s.stk.length,(R 1).d s.env.length])) (d:=av) o4 ay
  refine⟨_,Ag p++[dI s.pos,(R 0).d s.stk.length,(R 1).d s.env.length],(((w1.trans w2).trans w3).trans w4).trans w5,?_,fun j o hj ai hn=>?_⟩
  ·rw[w6,Ek,e1,e2,e3,ax,aL];rfl
  ·rw[w7 _ _ ai]
   exact k4 j o (k3 j o (k2 j o (k1 j o hj ai fun q _=>hn q) ai (hn 2)) ai (hn 0)) ai (hn 1)
theorem haltD{ro:Ro}{n:Nat}{Q:DX->St->Prop}{c:Code}{γ:Fr}{df:List DDf}{av:D}{b:Bool}{h:GoH}(hH:HaltS ir p R s av b h O)
  (k:∀U' tl,U' ir=some (.cells (Ek h++tl))->(∀j o,O j=some o->j≠ir->(∀a, ¬(R a).is j)->U' j=some o)->DWp prog ro n c Q ⟨γ,U',df⟩):DWp prog ro n c Q ⟨γ,O,df⟩:=by
 obtain⟨U2,tl,w,a,b⟩:=haltFz (n:=n) (γ:=γ) (df:=df) hH
 exact Jp w (k U2 tl a b)
def R01(r0 r1:RW):Nat->RW:=updF (updF (fun _=>.nil) 0 r0) 1 r1
theorem RunS.init{S1 U2:Sig}{r0 r1:RW}{stk env:List MVal}{pos:Int}(h0:FrV O r0 stk S1)(h1:FrV S1 r1 env U2)(hi:U2 ir=none):RunS ir p (R01 r0 r1) ⟨[],[],pos,stk,env⟩ (U2.set ir (.cells (AM p (R01 r0 r1) ⟨[],[],pos,stk,env⟩))):=by
 have a:Rows O (fun _=>RW.nil) rSz (fun _=>[]):=⟨fun _=>rfl,fun _ _ _ h=>h.elim⟩
 have b:Rows S1 (updF (fun _=>RW.nil) 0 r0) rSz (updF (fun _=>[]) 0 (stk.map cVal)):=a.upd (a:=0) h0.1 h0.2.1
 have c:=b.upd (a:=1) (r':=r1) (es':=env.map cVal) (U':=U2) h1.1 (by rw[A7 _ _ (by omega)];exact h1.2.1)
 have d:=c.retell (ct':=rCt (R01 r0 r1) ⟨[],[],pos,stk,env⟩) fun a=>by
  match a with
  |0=>rw[A7 _ _ (by omega),Ah];rfl
  |1=>rw[Ah];rfl
  |2=>rw[A7 _ _ (by omega),A7 _ _ (by omega)];rfl
  |3=>rw[A7 _ _ (by omega),A7 _ _ (by omega)];rfl
  |k+4=>rw[A7 _ _ (by omega),A7 _ _ (by omega)];simp[rCt]
 have ak:∀a, ¬(R01 r0 r1 a).is ir:=fun a ha=>by
  obtain⟨z,hz⟩:=(d.ok a).cells ha
  rw[hi]at hz;cases hz
 refine⟨w6 .., d.keep fun j o hj ⟨b,hb⟩=>by rw[w7 _ _ fun e=>ak b (by rw[<-e];exact hb)];exact hj,ak,fun a es ha=>?_⟩
 unfold R01 at ha
 by_cases e1:a=1
 ·subst e1;rw[Ah]at ha;exact h1.2.2 es ha
 ·rw[A7 _ _ e1]at ha
  by_cases e0:a=0
  ·subst e0;rw[Ah]at ha;exact h0.2.2 es ha
  ·rw[A7 _ _ e0]at ha;cases ha
theorem Sp{ds:List D}{r:RW}{n k:Nat}(h:O ir=some (.cells ds))(hl:k<ds.length):DG tab O 31 (.ptr ir k) (r.d n)=some (.any,O.set ir (.cells (ds.take k++[r.d n]++ds.drop (k+1)))):=by
 have hf:¬ds.length<k+1:=by omega
 cases r<;>simp[DG,h,RW.d,hf]
theorem storeRw{ro:Ro}{n:Nat}{ops:Array Oper}{Q:DX->St->Prop}{df:List DDf}{rest:List Oper}{γ Sr:Fr}{ty:TypeId}{pos:String}{after:Array Edge}{x y:Operand}{ds:List D}{r:RW}{m k:Nat}(hc:O ir=some (.cells ds))(h:DOps prog ro n ops Q rest ⟨γ,O.set ir (.cells (ds.take k++[r.d m]++ds.drop (k+1))),df⟩)
  (hl:A0 γ (A4 [x,y])=some Sr:=by exact tdR) (h1:ev Sr x=.ptr ir k:=by exact tdR) (h2:ev Sr y=r.d m:=by exact tdR) (hlen:k<ds.length:=by simp) :
  DOps prog ro n ops Q (⟨none,.store 31 x y,ty,pos,after,none⟩::rest) ⟨γ,O,df⟩:=
 DH Ab (d:=.any) hl (by show DG tab O 31 (ev Sr x) (ev Sr y)=_;rw[h1,h2];exact Sp hc hlen) h
end
section
variable {ro:Ro}{n:Nat}{ops:Array Oper}{N:Nat}{S0:Sig}{Q:DX->St->Prop}{df:List DDf}{γ Sr:List (Nat×D)}{O:Sig}{t:Nat}{ty:TypeId}{pos:String}{after:Array Edge}{e1:Bool}{l:List (Bool×Oper)}
theorem moRr(d:D){op:Op}(h:MO prog ro n ops N S0 Q df l ((t,d)::γ) O)(hr:CT op=true:=by rfl)(ap:decide (t<n)=true:=by exact tdR)(hl:A0 γ (A4 op.operands.toList)=some Sr:=by exact tdR)(hd:dopX tab Sr S0 op=some d:=by first|with_unfolding_all rfl|(simp;done)|(simp;rfl)):MO prog ro n ops N S0 Q df ((e1,⟨some t,op,ty,pos,after,none⟩)::l) γ O:=
 K4 Ab hr ap hl hd h
theorem moBox{T:Nat}{x:Operand}(cs:List D)(h:∀i,O i=none->MO prog ro n ops N S0 Q df l ((t,.ptr i 0)::γ) (O.set i (.cells cs)))(hl:A0 γ (A4 [x])=some Sr:=by exact tdR)(hc:(ev Sr x).cells=cs:=by exact tdR)(ht:(ev Sr x).told=true:=by exact tdR)(ap:decide (t<n)=true:=by exact tdR)(hC:Sub S0 O:=by first|exact Sub.refl _|assumption):
  MO prog ro n ops N S0 Q df ((true,⟨some t,.box T x,ty,pos,after,none⟩)::l) γ O:=
 mo1 (fun V2 hx=>by
  have e:ev V2 x=ev Sr x:=by rw[hx x (by simp[Op.operands]),Bu hl]
  exact dops_box (by rw[e];exact ht) (by simpa using ap) (fun i hi=>Av ⟨rfl,by simp only[A6,if_true];rw[e,hc];exact⟨hC.set (hC.none hi),h i hi⟩⟩)) ap
end
def SQ(s:GoS)(r:GoS ⊕ GoH):Prop:= ∀t,r=.inl t->t.stk.length<=s.stk.length+1/\t.env.length<=s.env.length+1/\t.evs.length<=s.evs.length+1
theorem len_ite{s:GoS}{c:Prop}[Decidable c]{a b:GoS ⊕ GoH}(h1:SQ s a)(h2:SQ s b):SQ s (if c then a else b):=by split<;>assumption
theorem Pi{p:BProg}{w:CWorld}{x:CIns}{s t:GoS}(h:HY p w x s=.inl t):t.stk.length<=s.stk.length+1/\t.env.length<=s.env.length+1/\t.evs.length<=s.evs.length+1:=by
 have key:SQ s (HY p w x s):=by
  rw[HY]
  repeat' (refine len_ite ?_ ?_)
  all_goals
   intro t h
   first|(cases h;done)|(cases h;simp only[List.length_append,List.length_dropLast,List.length_singleton];omega)
 exact key t h
theorem actAt{j:Nat}(h1:1<=j)(h2:j<=21):cActs[j]? = some (.func (.func (actF j)) [] []):=by
 have h:j=1\/j=2\/j=3\/j=4\/j=5\/j=6\/j=7\/j=8\/j=9\/j=10\/j=11\/j=12\/j=13\/j=14\/j=15\/j=16\/j=17\/j=18\/j=19\/j=20\/j=21:=by omega
 rcases h with rfl|rfl|rfl|rfl|rfl|rfl|rfl|rfl|rfl|rfl|rfl|rfl|rfl|rfl|rfl|rfl|rfl|rfl|rfl|rfl|rfl<;>rfl
theorem N3(c:CProg)(W:MetL){k:Nat}(hk:k<c.ins.length):(DQ c W)[k]? = some (getM ⟨0,0⟩ (k:Int) W):=by
 unfold DQ;rw[List.getElem?_map,List.getElem?_range hk];rfl
theorem N2(c:CProg)(W:MetL):(DQ c W).length=c.ins.length:=by unfold DQ;simp
theorem HZ(p:BProg)(c:CProg):Ec p c=(BX p c).map (DQ c):=by rw[<-PI,NY];rfl
theorem fits_rg{p:BProg}{N q:Nat}{x:CIns}(ah:fitsC p N q x=true):1<=x.op/\x.op<=21:=by
 unfold fitsC at ah
 refine Classical.byContradiction fun h=>?_
 rw[if_neg (by omega),if_neg (by omega),if_neg (by omega),if_neg (by omega),if_neg (by omega),if_neg (by omega)]at ah
 simp at ah
 omega
theorem Pj{p:BProg}{w:CWorld}{c:CProg}{m:Met}{nx:Bool}(hg:∀n:Nat,0<=p.gens.getD n 0)(hw:WldOK p w)(hL:LevOK p c m nx){s:GoS}(hs:GInv w m s):mRun p w c c.ins.length s=match HY p w (AD c s.pos.toNat) { s with pos:=s.pos+1 } with
  |.inl t=>mRun p w c c.ins.length t
  |.inr h=>h:=by
 rw[KJ hg hw hL c.ins.length (c.ins.length+1) s hs (by omega) (by omega),mRun]
 rfl
@[simp] theorem cActs_len:cActs.length=22:=rfl
@[simp] theorem cActs_all:cActs.all D.flat=true:=rfl
@[simp] theorem cActs_tk:List.take 22 cActs=cActs:=rfl
theorem RunS.newO{ir:Nat}{p:BProg}{R:Nat->RW}{s:GoS}{O:Sig}(h:RunS ir p R s O){i:Nat}(hi:O i=none)(o:DObj):RunS ir p R s (O.set i o):=by
 have hn:∀j x,O j=some x->j≠i:=fun j x hj e=>by rw[e,hi]at hj;cases hj
 exact⟨by rw[w7 _ _ (hn _ _ h.obj)];exact h.obj,h.rows.keep fun j x hj _=>by rw[w7 _ _ (hn j x hj)];exact hj,h.ni,h.nf⟩
theorem Ih (p:BProg) (c:CProg) (objs:List MThing) (pos:Int) (stk env:List MVal) (o1:Own) (O:Sig) (hp:p.wt<=1073741824) (bR:c.ins.length<=1073741824) (bQ:c.starts.length<=1073741824) (bK:objs.length<=1000000) (aE : ∀ x ∈ objs,x.slots.length<=1000000) (b9:stk.length<=900000) (cd:env.length<=900000) :
  DCall prog 13 [.agg (Ag p),.agg (cCPg c),.slice (objs.map cTh) o1,.agg (cFr pos stk env)] O (rS (.tup [.agg (Ek ((goC p (A2 p) c objs pos stk env).getD IF)),dI (if(goC p (A2 p) c objs pos stk env).isSome then 0 else 2)]) O):=by
 have br:=HZ p c
 have aj:=fun O:Sig=>Kb p objs o1 O hp (by omega) (fun x hx=>by have:=aE x hx;omega)
 obtain⟨H,hH⟩:∃H,H=goC p (A2 p) c objs pos stk env:=⟨_,rfl⟩
 rw[<-hH]
 refine en func13 ntmps13 ?_
 refine gz ?_ o13 [8]
 refine newV (fun i8 aK=>?_)
 have o8:(O.set i8 (.cells [dI 0,dI 0,dI 0,dI 0,.nils,dI 0,dI 0,.nils,.nils,.nils,.nils])) i8=_:=w6 ..
 have aV:Sub O (O.set i8 (.cells [dI 0,dI 0,dI 0,dI 0,.nils,dI 0,dI 0,.nils,.nils,.nils,.nils])):=(Sub.refl _).set aK
 generalize O.set i8 (.cells [dI 0,dI 0,dI 0,dI 0,.nils,dI 0,dI 0,.nils,.nils,.nils,.nils])=Sa at*
 refine gz ?_ o13 [8]
 refine A3 (L3 p c Sa hp bR bQ) (fun d U' hr=>?_) (fun d U' hr=>?_)
 rotate_left
 ·unfold LokR at hr
  split at hr
  ·cases hr.1
  ·obtain⟨_,_,h,_⟩:=hr;cases h
 unfold LokR at hr
 cases hL:BX p c with
 |none=>
  rw[hL]at hr
  obtain⟨e,rfl⟩:=hr
  cases e
  have hn:H=none:=by rw[hH];unfold goC;rw[br,hL];rfl
  refine gf o8 ?_ o13 [8]
  refine finC (U':=O) (d:=.tup [.agg (Ek IF),dI 2]) ⟨by rw[hn];rfl,rfl⟩ (hw:=?_) (hU:=?_)
  ·exact Ct ⟨Dm,A8 _,trivial⟩
  ·exact fun j o hj=>by rw[w7 _ _ (An hj aK)];exact aV j o hj
 | some W =>
  rw[hL]at hr
  obtain⟨im,bc,e,rfl⟩:=hr
  cases e
  have n8m:i8≠im:=An o8 bc
  have om:(Sa.set im (.map (eIL W))) im=some (.map (eIL W)):=w6 ..
  have o8':=(w7 Sa (.map (eIL W)) n8m).trans o8
  have aN:Sub O (Sa.set im (.map (eIL W))):=aV.set (aV.none bc)
  generalize Sa.set im (.map (eIL W))=S0 at*
  clear o8 aV bc
  have bq:Ec p c=some (DQ c W):=by rw[br,hL];rfl
  obtain⟨aH,hlen,ar⟩:=PH bq
  have bZ:c.ins.length<=300:=by
   unfold BX at hL
   split at hL
   ·rename_i h;simp only[Bool.and_eq_true,decide_eq_true_eq]at h;exact h.2.1
   ·cases hL
  have bf:H=if B8 (A2 p) objs&&FA (DQ c W) objs.length pos stk env then some (mRun p (A2 p) c c.ins.length ⟨objs,[],pos,stk,env⟩) else none:=by rw[hH];unfold goC;rw[bq]
  by_cases hg:(B8 (A2 p) objs&&FA (DQ c W) objs.length pos stk env)=true
  rotate_left
  ·have hn:H=none:=by rw [bf,if_neg hg]
   have fin0:∀z,Sub O (S0.set i8 z):=fun z j o hj=>by rw[w7 _ _ (An hj aK)];exact aN j o hj
   have fin1:∀i z1 z2,S0 i=none->Sub O ((S0.set i z1).set i8 z2):=fun i z1 z2 hi j o hj=>by rw[w7 _ _ (An hj aK),w7 _ _ (An (aN j o hj) hi)];exact aN j o hj
   have bh:B8 (A2 p) objs=false\/(B8 (A2 p) objs=true/\(pos < 0\/(c.ins.length:Int)<=pos))\/(B8 (A2 p) objs=true /\ ∃ k:Nat,pos=k/\k < c.ins.length/\((stk.length:Int) ≠ (getM ⟨0,0⟩ (k:Int) W).st\/((stk.length:Int)=(getM ⟨0,0⟩ (k:Int) W).st/\(env.length:Int) ≠ (getM ⟨0,0⟩ (k:Int) W).env)\/((stk.length:Int)=(getM ⟨0,0⟩ (k:Int) W).st/\(env.length:Int)=(getM ⟨0,0⟩ (k:Int) W).env/\(okVs objs.length stk=false\/(okVs objs.length stk=true/\okVs objs.length env=false))))):=by
    cases hO:B8 (A2 p) objs with
    |false=>exact .inl rfl
    | true =>
     refine .inr ?_
     rw[hO,Bool.true_and]at hg
     by_cases h0:pos<0\/(c.ins.length:Int)<=pos
     ·exact .inl ⟨rfl,h0⟩
     obtain⟨k,hk⟩:∃k:Nat,pos=k:=⟨pos.toNat,by omega⟩
     have aC:k<c.ins.length:=by omega
     refine .inr ⟨rfl,k,hk,aC,?_⟩
     subst hk
     unfold FA at hg
     rw[N2,Int.toNat_natCast,N3 c W aC,Option.getD_some]at hg
     by_cases a1:(stk.length:Int)=(getM ⟨0,0⟩ (k:Int) W).st
     ·refine .inr ?_
      by_cases a2:(env.length:Int)=(getM ⟨0,0⟩ (k:Int) W).env
      ·refine .inr ⟨a1,a2,?_⟩
       cases a3:okVs objs.length stk with
       |false=>exact .inl rfl
       |true=>
        cases a4:okVs objs.length env with
        |false=>exact .inr ⟨rfl,rfl⟩
        |true=>exact absurd (by rw[a3,a4,decide_eq_true (by omega)];rfl) hg
      ·exact .inl ⟨a1,a2⟩
     ·exact .inl a1
   rcases bh with hO|⟨hO,h0|h0⟩|⟨hO,k,rfl,aC,a|⟨a1,a2⟩|⟨a1,a2,a3|⟨a3,a4⟩⟩⟩
   ·have ae:(okP p&&B8 (A2 p) objs)=false:=by rw[hO];simp
    repeat' first|refine gf (gi ae o8') ?_ [] [8]|refine CP (aj _) ?_|refine callPG (aj _) ?_|refine gf (gi ae o8') ?_ o13 [8]|apply gy<;>intro hh
    refine finC (U':=O) (d:=.tup [.agg (Ek IF),dI 2]) ⟨by rw[hn];rfl,rfl⟩ (hw:=?_) (hU:=fin0 _)
    exact Ct ⟨Dm,A8 _,trivial⟩
   all_goals have ae:(okP p&&B8 (A2 p) objs)=true:=by rw[hO,aH];rfl
   ·repeat' first|refine gf (gi ae o8') ?_ [] [8]|refine CP (aj _) ?_|refine callPG (aj _) ?_|refine gf (gi ae o8') ?_ o13 [8]|apply gy<;>intro hh
    refine finC (U':=O) (d:=.tup [.agg (Ek IF),dI 2]) ⟨by rw[hn];rfl,rfl⟩ (hw:=?_) (hU:=fin0 _)
    exact Ct ⟨Dm,A8 _,trivial⟩
   ·repeat' first|refine gf (gi ae o8') ?_ [] [8]|refine CP (aj _) ?_|refine callPG (aj _) ?_|refine gf (gi ae o8') ?_ o13 [8]|apply gy<;>intro hh
    refine finC (U':=O) (d:=.tup [.agg (Ek IF),dI 2]) ⟨by rw[hn];rfl,rfl⟩ (hw:=?_) (hU:=fin0 _)
    exact Ct ⟨Dm,A8 _,trivial⟩
   ·repeat' first|refine gf (gi ae (gi o8' om)) ?_ [] [8]|refine CP (aj _) ?_|refine callPG (aj _) ?_|refine gf (gi ae (gi o8' om)) ?_ o13 [8]|apply gy<;>intro hh
    refine HT (fun i11 aa=>?_)
    have n11:=An o8' aa
    refine gf (gi o8' (gi n11 a)) ?_ o13 [8]
    refine finC (U':=O) (d:=.tup [.agg (Ek IF),dI 2]) ⟨by rw[hn];rfl,rfl⟩ (hw:=?_) (hU:=fin1 i11 _ _ aa)
    exact Ct ⟨Dm,A8 _,trivial⟩
   ·repeat' first|refine gf (gi ae (gi o8' om)) ?_ [] [8]|refine CP (aj _) ?_|refine callPG (aj _) ?_|refine gf (gi ae (gi o8' om)) ?_ o13 [8]|apply gy<;>intro hh
    refine HT (fun i11 aa=>?_)
    have n11:=An o8' aa
    refine gf (gi o8' (gi n11 (gi a1 a2))) ?_ o13 [8]
    refine finC (U':=O) (d:=.tup [.agg (Ek IF),dI 2]) ⟨by rw[hn];rfl,rfl⟩ (hw:=?_) (hU:=fin1 i11 _ _ aa)
    exact Ct ⟨Dm,A8 _,trivial⟩
   ·repeat' first|refine gf (gi ae (gi o8' om)) ?_ [] [8]|refine CP (aj _) ?_|refine callPG (aj _) ?_|refine gf (gi ae (gi o8' om)) ?_ o13 [8]|apply gy<;>intro hh
    refine HT (fun i11 aa=>?_)
    have n11:=An o8' aa
    refine gf (gi o8' (gi n11 (gi a1 (gi a2 a3)))) ?_ o13 [8]
    refine finC (U':=O) (d:=.tup [.agg (Ek IF),dI 2]) ⟨by rw[hn];rfl,rfl⟩ (hw:=?_) (hU:=fin1 i11 _ _ aa)
    exact Ct ⟨Dm,A8 _,trivial⟩
   ·repeat' first|refine gf (gi ae (gi o8' om)) ?_ [] [8]|refine CP (aj _) ?_|refine callPG (aj _) ?_|refine gf (gi ae (gi o8' om)) ?_ o13 [8]|apply gy<;>intro hh
    refine HT (fun i11 aa=>?_)
    have n11:=An o8' aa
    refine gf (gi o8' (gi n11 (gi a1 (gi a2 (gi a3 a4))))) ?_ o13 [8]
    refine finC (U':=O) (d:=.tup [.agg (Ek IF),dI 2]) ⟨by rw[hn];rfl,rfl⟩ (hw:=?_) (hU:=fin1 i11 _ _ aa)
    exact Ct ⟨Dm,A8 _,trivial⟩
  rw[if_pos hg]at bf
  simp only[Bool.and_eq_true]at hg
  obtain⟨hO,hF⟩:=hg
  have bX:=(PU (evs:=[]) hO).1 hF
  have ae:(okP p&&B8 (A2 p) objs)=true:=by rw[hO,aH];rfl
  unfold FA at hF
  simp only[Bool.and_eq_true,decide_eq_true_eq]at hF
  obtain⟨⟨f1,f2,f3,f4⟩,f5,f6⟩:=hF
  rw[N2]at f2
  obtain⟨k,rfl⟩:∃k:Nat,pos=k:=⟨pos.toNat,by omega⟩
  have aC:k<c.ins.length:=by omega
  rw[Int.toNat_natCast,N3 c W aC,Option.getD_some]at f3 f4
  repeat' first|refine gf (gi ae (gi o8' om)) ?_ [] [8]|refine CP (aj _) ?_|refine callPG (aj _) ?_|refine gf (gi ae (gi o8' om)) ?_ o13 [8]|apply gy<;>intro hh
  refine HT (fun i11 aa=>?_)
  have n11:=An o8' aa
  refine gf (gi f3 (gi f4 (gi f5 f6))) ?_ (delO 7 o13) [8]
  have o8:=(w7 S0 (.cells [D.int .i64 (getM ⟨0,0⟩ (k:Int) W).st,D.int .i64 (getM ⟨0,0⟩ (k:Int) W).env]) n11).trans o8'
  have hS:Sub O (S0.set i11 (.cells [D.int .i64 (getM ⟨0,0⟩ (k:Int) W).st,D.int .i64 (getM ⟨0,0⟩ (k:Int) W).env])):=fun j o hj=>by
   rw[w7 _ _ (An (aN j o hj) aa)];exact aN j o hj
  generalize S0.set i11 (.cells [D.int .i64 (getM ⟨0,0⟩ (k:Int) W).st,D.int .i64 (getM ⟨0,0⟩ (k:Int) W).env])=Sb at*
  refine Hf (id:=7) [0,1,2,3,4,6,7,5,8,9,10,11,12] [5,8,11] (fun _=>none) (fun _ _ h=>by cases h) ?_
  refine gz ?_ o13 [8]
  refine Bt (Ic stk .no Sb (by omega)) (fun d S1 hr=>?_) (fun d S1 hr=>by obtain⟨_,h,_⟩:=hr;cases h)
  obtain⟨r0,hd,aQ⟩:=hr
  replace aQ:FrV Sb r0 stk S1:=aQ
  cases hd
  refine⟨(fun _ _ h=>by cases h),?_⟩
  refine Bt (Ic env .no S1 (by omega)) (fun d U2 hr=>?_) (fun d U2 hr=>by obtain⟨_,h,_⟩:=hr;cases h)
  obtain⟨r1,hd,aD⟩:=hr
  replace aD:FrV S1 r1 env U2:=aD
  cases hd
  refine⟨(fun _ _ h=>by cases h),?_⟩
  refine moRr (.agg [dI k,r0.d stk.length,r1.d env.length]) ?_ (hd:=by cases r0<;>cases r1<;>simp)
  refine moRr (.agg ([dI 0,dI 0,dI 0,dI 0,.nils,dI 0,dI 0,.nils,.nils,.nils,.nils]++Ag p++[dI k,r0.d stk.length,r1.d env.length])) ?_ (hd:=by cases r0<;>cases r1<;>simp)
  refine moBox (AM p (R01 r0 r1) ⟨[],[],k,stk,env⟩) (fun ir bu=>?_) (hC:=fun _ _ h=>by cases h)
  have am:=RunS.init (p:=p) (pos:=(k:Int)) aQ aD bu
  have bA:∀j o,Sb j=some o->(U2.set ir (.cells (AM p (R01 r0 r1) ⟨[],[],k,stk,env⟩))) j=some o/\j≠ir /\ ∀a, ¬(R01 r0 r1 a).is j:=fun j o hj=>by
   have a1:=aQ.2.1 j o hj id
   have a2:=aD.2.1 j o a1.1 id
   have ai:=An a2.1 bu
   refine⟨by rw[w7 _ _ ai];exact a2.1,ai,fun a ha=>?_⟩
   unfold R01 at ha
   by_cases e1:a=1
   ·subst e1;rw[Ah]at ha;exact a2.2 ha
   ·rw[A7 _ _ e1]at ha
    by_cases e0:a=0
    ·subst e0;rw[Ah]at ha;exact(aD.2.1 j o a1.1 id).2 (absurd ha a1.2)
    ·rw[A7 _ _ e0]at ha;exact ha
  generalize U2.set ir (.cells (AM p (R01 r0 r1) ⟨[],[],k,stk,env⟩))=S3 at*
  refine gz ?_ o13 [8]
  refine A3 (Tj objs o1 S3 bK aE) (fun d S4 hr=>?_) (fun d S4 hr=>by obtain⟨_,h,_⟩:=hr;cases h)
  obtain⟨R',hd,hT⟩:=hr
  cases hd
  have o4:=(hT.keep ir _ am.obj).1
  refine gz ?_ o13 [8]
  refine storeRw (r:=R' 3) (k:=9) o4 ?_
  obtain⟨p1,p2⟩:=am.swap (R':=R') (l:=objs) (fun j o h _ _=>h) am.obj hT rfl
  have bk:∀j o,Sb j=some o->(S4.set ir (.cells (AM p (Ep (R01 r0 r1) R') ⟨objs,[],k,stk,env⟩))) j=some o/\j≠ir /\ ∀a, ¬(Ep (R01 r0 r1) R' a).is j:=fun j o hj=>by
   obtain⟨a1,a2,a3⟩:=bA j o hj
   exact⟨(p2 j o a1 a2 a3).1,a2,(p2 j o a1 a2 a3).2⟩
  refine drp (S4.set ir (.cells (AM p (Ep (R01 r0 r1) R') ⟨objs,[],k,stk,env⟩))) ?_ (by exact Sub.refl _)
  generalize S4.set ir (.cells (AM p (Ep (R01 r0 r1) R') ⟨objs,[],k,stk,env⟩))=S5 at p1 bk⊢
  generalize Ep (R01 r0 r1) R'=R5 at p1 bk
  clear p2 bA am aQ aD hT o4
  have hW:=RZ aH
  have bx:∀n:Nat,0<=p.gens.getD n 0:=fun n=>(GP aH n).1
  refine gz ?_ o13 [8]
  refine Fw [5,8,9,12,13,122,123,124,125] (fun (s:GoS) (R:Nat->RW) (S1:Sig)=>GInv (A2 p) (fun j=>(DQ c W)[j]?) s/\RunS ir p R s S1/\(∀j o,Sb j=some o->S1 j=some o/\j≠ir /\ ∀a, ¬(R a).is j)/\H=some (mRun p (A2 p) c c.ins.length s)/\(s.stk.length:Int)<=900000+s.pos/\(s.env.length:Int)<=900000+s.pos/\(s.evs.length:Int)<=s.pos) (fun _ _ _=>[]) (fun _ _ S1=>S1) (fun s _ _=>c.ins.length-s.pos.toNat) (⟨objs,[],k,stk,env⟩) (R5) (S5) (by exact⟨bX,p1,bk,bf,by simp only;omega,by simp only;omega,by simp only[List.length_nil];omega⟩) (fun s R S1 hI=>?_)
  obtain⟨hG,hR,hK,aF,b1,b2,b3⟩:=hI
  obtain⟨h0,⟨l,hl,aT,bN⟩,aY,ca,bI⟩:=id hG
  have ba:=ar.dom _ _ hl
  obtain⟨env',next,aW,g1,g2,g3,g4⟩:=ar.ok _ _ hl
  have aw:=J2 bx hW ar hG
  have au:=Pj bx hW ar hG
  obtain⟨q,hq⟩:∃q:Nat,s.pos=q:=⟨s.pos.toNat,by omega⟩
  have hx:AD c s.pos.toNat=c.ins[s.pos.toNat]:=by unfold AD;rw[List.getElem?_eq_getElem ba];rfl
  rw[hx]at aW aw au
  have ah:=ar.fits _ _ (List.getElem?_eq_getElem ba)
  simp only[hq,Int.toNat_natCast]at ba aW aw au ah b1 b2 b3
  obtain⟨x,aX⟩:∃x,x=c.ins[q]:=⟨_,rfl⟩
  rw[<-aX]at aW aw au ah
  obtain⟨u1,u2⟩:=fits_rg ah
  obtain⟨j,hj⟩:∃j:Nat,x.op=j:=⟨x.op.toNat,by omega⟩
  have bi:=actAt (j:=j) (by omega) (by omega)
  have q1:=hR.obj
  refine gf (gi q1 (gi hq aX.symm)) ?_ o13 [8]
  refine HT (fun i14 aq=>?_)
  have n14:=An q1 aq
  refine gf (gi q1 (gi hq aX.symm)) ?_ (delO 12 o13) [8]
  have aO:=hR.newO aq (.cells (cIns x))
  obtain⟨p3,p4⟩:=aO.at ((q:Int)+1) rfl
  have o14:((S1.set i14 (.cells (cIns x))).set ir (.cells (AM p R { s with pos:=(q:Int)+1 }))) i14=some (.cells (cIns x)):=by rw[w7 _ _ n14.symm,w6]
  refine Jp (TP (U':=(S1.set i14 (.cells (cIns x))).set ir (.cells (AM p R { s with pos:=(q:Int)+1 }))) (by exact Sub.refl _)) ?_
  have bz:∀j o,Sb j=some o->((S1.set i14 (.cells (cIns x))).set ir (.cells (AM p R { s with pos:=(q:Int)+1 }))) j=some o/\j≠ir /\ ∀a, ¬(R a).is j:=fun j o hj=>by
   obtain⟨a1,a2,a3⟩:=hK j o hj
   exact⟨by rw[w7 _ _ a2,w7 _ _ (An a1 aq)];exact a1,a2,a3⟩
  have nr14:∀a, ¬(R a).is i14:=fun a ha=>by
   obtain⟨z,hz⟩:=(hR.rows.ok a).cells ha
   rw[aq]at hz;cases hz
  have n14':i14≠ir:=n14.symm
  generalize (S1.set i14 (.cells (cIns x))).set ir (.cells (AM p R { s with pos:=(q:Int)+1 }))=S6 at p3 o14 bz⊢
  clear p4 aO q1 n14 aq
  refine Hf (id:=12) [0,1,2,3,4,5,6] [6] (S6.out fun j=>j≠i14) (Cm _ _) ?_
  have u14:=Da (touch:=fun j=>j≠i14) o14 (by simp)
  have bm:=TM (t:={ s with pos:=(q:Int)+1 }) hp aH aW ah g3 aT bN aY bI (by simp only;omega) (by simp only;omega) (by simp only;omega) p3
  refine gf (gi hj (gi bi u14)) ?_ o13 [8]
  rw[hj]at bm
  refine Bt bm (fun d S7 hr=>?_) (fun d S7 hr=>?_)
  rotate_left
  ·obtain⟨_,_,h⟩:=hr
   split at h<;>cases h.1
  obtain⟨R2,bj,h⟩:=hr
  refine⟨fun y o hy=>?_,?_⟩
  ·obtain⟨y1,y2⟩:=Cn hy
   obtain rfl:y=i14:=Classical.byContradiction y2
   exact(bj _ _ y1 n14' nr14).1
  have aP:∀j o,Sb j=some o->S7 j=some o/\j≠ir /\ ∀a, ¬(R2 a).is j:=fun j o hj=>by
   obtain⟨a1,a2,a3⟩:=bz j o hj
   exact⟨(bj j o a1 a2 a3).1,a2,(bj j o a1 a2 a3).2⟩
  cases a8:HY p (A2 p) x { s with pos:=(q:Int)+1 } with
  |inl t'=>
   have bL:=Pi a8
   rw[a8]at h aw au
   obtain⟨hd,bW⟩:=h
   obtain⟨k1,k2⟩:=aw
   have k3:=k1.lo
   cases hd
   simp only at bL au
   refine gz ?_ o13 [8]
   exact⟨t',R2,S7,⟨k1,bW,aP,by rw[aF,au],by omega,by omega,by omega⟩,td1,wkR⟩
  | inr h' =>
   rw[a8]at h au
   obtain⟨hd,s',av,b,bB⟩:=h
   cases hd
   simp only at au
   repeat ((fail_if_success (first|(refine haltD bB (fun S8 tl o9 k9=>?_))|fail));(refine goX1 trivial ?_))
   refine haltD bB (fun S8 tl o9 k9=>?_)
   have o8b:S8 i8=_:=k9 i8 _ (aP i8 _ o8).1 (aP i8 _ o8).2.1 (aP i8 _ o8).2.2
   have bV:Sub O S8:=fun j o hj=>by
    obtain⟨a1,a2,a3⟩:=aP j o (hS j o hj)
    exact k9 j o a1 a2 a3
   simp only[Ek,List.cons_append,List.nil_append]at o9
   refine gf (gi o9 o8b) ?_ o13 [8]
   refine finC (U':=O) (d:=.tup [.agg (Ek h'),dI 0]) ⟨by rw[aF,au];rfl,rfl⟩ (hw:=?_) (hU:=fun j o hj=>by rw[w7 _ _ (An hj aK)];exact bV j o hj)
   exact A8 _
def exB:BProg:=⟨[⟨[],[0],[⟨0,7⟩]⟩,⟨[3],[1],[]⟩,⟨[4,3],[],[⟨0,1⟩]⟩],2,[1],[⟨1,0,.mk 2 0 [] 3 0 [],0⟩,⟨2,0,.mk 3 0 [0] 0 5 [],3⟩],
 [⟨17,0,[1]⟩,⟨4,0,[2]⟩,⟨3,0,[]⟩,⟨9,0,[4,5]⟩,⟨3,0,[]⟩,⟨3,1,[]⟩,⟨5,0,[7]⟩,⟨6,5,[]⟩],6⟩
def exC:CProg:=⟨[⟨3,0⟩,⟨5,0⟩,⟨7,0⟩,⟨21,0⟩,⟨3,0⟩,⟨14,0⟩,⟨3,1⟩,⟨15,0⟩,⟨21,0⟩,⟨4,5⟩,⟨19,0⟩,⟨21,0⟩],[0,4],9⟩
def exL:List CLev:=[⟨0,1⟩,⟨1,1⟩,⟨1,1⟩,⟨1,1⟩,⟨0,1⟩,⟨1,1⟩,⟨0,2⟩,⟨1,2⟩,⟨1,1⟩,⟨0,0⟩,⟨1,0⟩,⟨1,0⟩]
theorem Jb{l m:List Int}(h:∀x,x∈l ↔ x∈m): ∀(a:List Init) (seen:List Int),DR l seen a=DR m seen a
 |[],_=>rfl
 |x::r,seen=>by rw[DR,DR,Jb h r,decide_eq_decide.2 (h x.slot)]
def I4(p:BProg):Nat->List BClass->Bool
 |_,[]=>true
 |i,c::r=>decide (linE (p.classes.map (·.parents)) ((i:Int)+3)=0)&&DR (hasG p.classes (((i:Int)+3)-2).toNat [((i:Int)+3)] []) [] c.inits&&I4 p (i+1) r
theorem H8(p:BProg): ∀(l:List BClass) (i:Nat),Bd p i l=I4 p i l
 |[],_=>rfl
 |c::r,i=>by
  rw[Bd,I4,H8 p r]
  congr 2
  exact Jb (fun x=>by unfold hasP Es;exact List.mem_mergeSort) _ _
theorem Tt:Bd exB 0 exB.classes=true:=by rw[H8];decide +kernel
theorem Oo:AC exB=true:=by
 unfold AC
 have h1:BZ 0 exB.classes=some 2:=by decide +kernel
 have h2:Cp (exB.classes.map (·.parents))=true:=by decide +kernel
 have h3:decide (exB.classes.length<=10)=true:=by decide +kernel
 have h4:decide ((2:Int)=exB.slots)=true:=by decide +kernel
 rw[h1,h3]
 simp only[h2,h4,Tt,Bool.and_self,Bool.and_true]
theorem Ts:okP exB=true:=by
 unfold okP Di
 rw[Oo]
 decide +kernel
theorem TQ:Es [1,0]=[0,1]:=by simp[Es,List.mergeSort,List.MergeSort.Internal.splitInTwo,List.merge]
theorem ex_has5:hasP exB 5=[0,1]:=by
 unfold hasP
 rw[show hasG exB.classes ((5:Int)-2).toNat [5] []=[1,0] by decide +kernel,TQ]
theorem ex_has4:hasP exB 4=[0,1]:=by
 unfold hasP
 rw[show hasG exB.classes ((4:Int)-2).toNat [4] []=[1,0] by decide +kernel,TQ]
theorem ex_has3:hasP exB 3=[0]:=by
 unfold hasP
 rw[show hasG exB.classes ((3:Int)-2).toNat [3] []=[0] by decide +kernel]
 simp[Es]
theorem Rs:DZ exB 5=[⟨0,1⟩]:=by unfold DZ;rw[ex_has5];decide +kernel
theorem Rt:DZ exB 4=[⟨0,7⟩]:=by unfold DZ;rw[ex_has4];decide +kernel
theorem Ru:DZ exB 3=[⟨0,7⟩]:=by unfold DZ;rw[ex_has3];decide +kernel
def exW:CWorld:=⟨fun c=>decide (3<=c)&&decide (c<6),fun c=>if c=3 then [0] else if c=4 then [0,1] else if c=5 then [0,1] else hasP exB c,
 fun c=>if c=3 then [vInt 7] else if c=4 then [vInt 7,E4] else if c=5 then [vInt 1,E4] else(hasP exB c).map (frV (DZ exB c))⟩
theorem Kc:A2 exB=exW:=by
 unfold A2 exW
 rw[Ts]
 congr 1
 ·funext c
  unfold ownF
  simp[exB]
 ·funext c
  split
  ·rename_i e;subst e;exact ex_has3
  split
  ·rename_i e;subst e;exact ex_has4
  split
  ·rename_i e;subst e;exact ex_has5
  rfl
 ·funext c
  split
  ·rename_i e;subst e;rw[ex_has3,Ru];rfl
  split
  ·rename_i e;subst e;rw[ex_has4,Rt];rfl
  split
  ·rename_i e;subst e;rw[ex_has5,Rs];rfl
  rfl
theorem ex_code:Mx exB=exC:=by unfold Mx;rw[if_pos Ts];kernel_rfl
theorem Gi:Ec exB exC=some exL:=by
 unfold Ec
 rw[Ts]
 kernel_rfl
theorem Rq:(BX exB exC).map (DQ exC)=some exL:=by rw[<-HZ,Gi]
def exH1:GoH:=⟨2,vZ,0,[vObj 0],0,11,[],[],[⟨5,[vInt 1,E4]⟩],[]⟩
def exH2:GoH:=⟨1,vInt 1,0,[],0,0,[],[],[⟨5,[vInt 1,E4]⟩],[⟨2,0,[vInt 1]⟩]⟩
def exH3:GoH:=⟨4,vZ,0,[],5,0,[],[],[],[]⟩
theorem ex_go1:goC exB (A2 exB) exC [] 9 [] []=some exH1:=by
 unfold goC
 rw[Gi,Kc]
 kernel_rfl
theorem ex_go2:goC exB (A2 exB) exC [⟨5,[vInt 1,E4]⟩] 0 [] [vObj 0]=some exH2:=by
 unfold goC
 rw[Gi,Kc]
 kernel_rfl
theorem ex_go3:goC exB (A2 exB) exC [] 0 [] [vInt 3]=some exH3:=by
 unfold goC
 rw[Gi,Kc]
 kernel_rfl
theorem Tr:CG exC=true:=by decide +kernel
theorem Rn:Kx exC=[48,32,52,32,58,32,57,10,110,97,109,101,32,48,10,115,108,111,116,32,48,10,111,117,116,10,101,110,100,10,110,97,109,101,32,48,10,108,101,116,10,110,97,109,101,32,49,10,100,114,111,112,10,101,110,100,10,110,101,119,32,53,10,99,97,108,108,32,48,10,101,110,100,10]:=by decide +kernel
theorem U4:exL.length=12:=rfl
theorem Nl:(Dg exC).length=25:=by decide +kernel
theorem Nh(n:Int)(O:Sig):DCall prog 19 [dI n] O (rS (.agg (cVal (vInt n))) O):=by
 refine en func19 ntmps19 ?_
 refine gz ?_ [] [2]
 refine newV (fun i hi=>?_)
 refine gz ?_ [] [2]
 exact finC (U':=O) ⟨rfl,rfl⟩
@[reducible,instance] def a19:=fun n O=>ah0 (@Nh n O)
theorem Th(a b:List MVal)(o o':Own)(O:Sig)(h1:a.length<=1073741824:=by exact sd)(h2:b.length<=1073741824:=by exact sd):DCall prog 53 [.slice (a.map cVal) o,.slice (b.map cVal) o'] O (rS (.bool (decide (a=b))) O):=by
 refine en func53 ntmps53 ?_
 by_cases hc:a.length=b.length
 ·refine gf hc ?_ o53
  refine CJ [0,1] (fun (k:Nat)=>k<=a.length /\ ∀j (h1:j<a.length) (h2:j<b.length),j<k->a[j]=b[j]) (fun k=>[(5,dI k)]) (fun _=>O) (fun k=>a.length-k) (0) (by exact⟨by omega,fun j _ _ h=>by omega⟩) (fun k hI=>?_)
  obtain⟨hk,hE⟩:=hI
  by_cases aC:k<a.length
  ·have cb:k<b.length:=by omega
   refine gf hc ?_ o53
   refine HS (r:=decide (a[k]=b[k])) (xs:=cVal a[k]) (ys:=cVal b[k]) Ab Nm rfl rfl rfl rfl N4 (Tu _ _) ?_
   by_cases hx:a[k]=b[k]
   ·refine gf hx ?_ o53
    exact⟨k+1,⟨by omega,fun j h1 h2 h3=>by by_cases e:j=k;(subst e;exact hx);exact hE j h1 h2 (by omega)⟩,td1,wkR⟩
   ·have hne:¬a=b:=fun e=>hx (by simp[e])
    refine gf hx ?_ o53
    exact fe1 hne
  ·have bO:a=b:=List.ext_getElem hc fun j h1 h2=>hE j h1 h2 (by omega)
   refine gz ?_ o53
   exact fin1 (U':=O) ⟨by rw[decide_eq_true bO],rfl⟩
 ·have hne:¬a=b:=fun e=>hc (by rw[e])
  refine gz ?_ o53
  exact fe1 hne
section
variable {P:Program}{ro:Ro}{n:Nat}{ops:Array Oper}{N:Nat}{S0:Sig}{Q:DX->St->Prop}{df:List DDf}{γ Sr:List (Nat×D)}{O:Sig}{t:Nat}{ty:TypeId}{pos:String}{after:Array Edge}{l:List (Bool×Oper)}{e:Bool}
theorem mo_eqlG{tab:Nat->Ty}(ht:AX P tab){T u:Nat}{x y:Operand}{xs ys:List D}{gd:Option (Nat×Bool)}(fs:List (Nat×Nat))(r:Bool)(hE:EqTy P T)(hk:(tab T).k=.struct fs)(hd:eqFs tab xs ys fs=some r)
  (h:MO P ro n ops N S0 Q df l ((t,.bool r)::γ) O) (hw:AA ops γ ⟨some t,.binOp .eql T x y u,ty,pos,after,gd⟩=some true) (ap:decide (t<n)=true) (hl:A0 γ (A4 [x,y])=some Sr) (hx:ev Sr x=.agg xs) (hy:ev Sr y=.agg ys):MO P ro n ops N S0 Q df ((e,⟨some t,.binOp .eql T x y u,ty,pos,after,gd⟩)::l) γ O:=by
 have hc:∀z∈[x,y],ev Sr z=ev γ z:=fun z hz=>B4 fun t ht=>At hl t (AB (by rw[<-ht];exact hz))
 have bn:∀z∈[x,y],ev (only (Oper.looksAt ops ⟨some t,.binOp .eql T x y u,ty,pos,after,gd⟩) γ) z=ev γ z:=fun z hz=>Bk (o:=⟨some t,.binOp .eql T x y u,ty,pos,after,gd⟩) (by simp at hz;rcases hz with rfl|rfl<;>simp[Op.operands])
 refine .inl ⟨.bool r,⟨ap,.inl ⟨by rw[Aj];exact hw,(fun c e=>by cases e),A9 (fun c e=>by cases e),fun U' hU g w a hs hT=>?_⟩⟩,h⟩
 have:=Hk (dst:=some t) (ty:=ty) (pos:=pos) (after:=after) (guard:=gd) (u:=u) ht hs hT hE hk (by rw[bn x (by simp),<-hc x (by simp)];exact hx) (by rw[bn y (by simp),<-hc y (by simp)];exact hy) hd false
 simpa using this
end
theorem Tg(O:Sig):DCall prog 56 [] O (rS (.agg (Ag exB)) O):=by
 refine en func56 ntmps56 ?_
 refine gz ?_ [] [0]
 refine newV (fun i hi=>?_)
 refine gz ?_ [] [0]
 have e:Ag exB=[sl [[sl [],sl [[dI 0]],sl [[dI 0,dI 7]]],[sl [[dI 3]],sl [[dI 1]],sl []],[sl [[dI 4],[dI 3]],sl [],sl [[dI 0,dI 1]]]],dI 2,sl [[dI 1]],sl [[dI 1,dI 0,dI 2,dI 0,sl [],dI 3,dI 0,sl [],dI 0],[dI 2,dI 0,dI 3,dI 0,sl [[dI 0]],dI 0,dI 5,sl [],dI 3]],sl [[dI 17,dI 0,sl [[dI 1]]],[dI 4,dI 0,sl [[dI 2]]],[dI 3,dI 0,sl []],[dI 9,dI 0,sl [[dI 4],[dI 5]]],[dI 3,dI 0,sl []],[dI 3,dI 1,sl []],[dI 5,dI 0,sl [[dI 7]]],[dI 6,dI 5,sl []]],dI 6]:=by
  simp[exB,cI,F6,Fact.op,Fact.arg,Fact.path,Fact.cls,Fact.n,Fact.kids]
 refine finC (U':=O) ⟨rfl,rfl⟩ (hw:=?_)
 rw[e]
 refine OL ?_
 repeat' (first|exact A8 _|exact Ak _ (.inl rfl)|exact trivial|refine IQ _ ?_|refine⟨?_,?_⟩)
@[reducible,instance] def a56:=fun O=>ah0 (@Tg O)
theorem Ni(O:Sig):E0 prog 16 [] O (rS (.bool true) O):=by
 have w3:exB.wt<=1073741824:=by decide +kernel
 have bH:(BX exB exC).isSome=true:=by
  have h:=Rq
  cases e:BX exB exC with
  |none=>rw[e]at h;cases h
  |some W=>rfl
 have bF:=fun O:Sig=>Tp exB O w3
 have bE:=fun O:Sig=>To exB exC O w3 (by decide) (by decide)
 have aS:=fun O:Sig=>Ng exC O (by decide) (by decide)
 have bC:=fun O:Sig=>Tl exC O (by decide) (by decide)
 rw[ex_code,Ts]at bF
 rw[Rq,bH]at bE
 rw[Tr]at aS bC
 have i18:∀O,Ans 18 [.agg (Ag exB)] O True (.tup [.agg (cCPg exC),dI 0]):=fun O=>ah0 (bF O)
 have i25:∀O,Ans 25 [.agg (Ag exB),.agg (cCPg exC)] O True (.tup [sl (exL.map cLev),dI 0]):=fun O=>ah0 (bE O)
 have i36:∀O,Ans 36 [.agg (cCPg exC)] O True (.tup [.str (Dg exC),dI 0]):=fun O=>ah0 (aS O)
 refine enW func16 ntmps16 ?_
 refine gz ?_ o16
 refine Dy (bC O) (fun d S1 hr=>?_) (fun d S1 hr=>by cases hr.1)
 obtain⟨hd,rfl⟩:=hr
 cases hd
 refine gf (gi Rn (gi Nl U4)) ?_ o16
 refine neqS _ (decide ((⟨0,2⟩:CLev)=⟨0,2⟩)) Rv PM (eqLev ⟨0,2⟩ ⟨0,2⟩) ?_
 refine gf (gi Rn (gi Nl U4)) ?_ o16
 have g1:=fun O:Sig=>Ih exB exC [] 9 [] [] .no O w3 (by decide) (by decide) (by decide) (by simp) (by decide) (by decide)
 have g2:=fun (o:Own) (O:Sig)=>Ih exB exC [⟨5,[vInt 1,E4]⟩] 0 [] [vObj 0] o O w3 (by decide) (by decide) (by decide) (by simp) (by decide) (by decide)
 have g3:=fun O:Sig=>Ih exB exC [] 0 [] [vInt 3] .no O w3 (by decide) (by decide) (by decide) (by simp) (by decide) (by decide)
 rw[ex_go1]at g1
 rw[ex_go2]at g2
 rw[ex_go3]at g3
 have e1:Ek exH1=[dI 2,dI 0,dI 0,dI 0,sl [[dI 3,dI 0]],dI 0,dI 11,sl [],sl [],sl [[dI 5,sl [[dI 1,dI 1],[dI 2,dI 0]]]],sl []]:=rfl
 have e2:Ek exH2=[dI 1,dI 1,dI 1,dI 0,sl [],dI 0,dI 0,sl [],sl [],sl [[dI 5,sl [[dI 1,dI 1],[dI 2,dI 0]]]],sl [[dI 2,dI 0,.slice [[dI 1,dI 1]] .clip]]]:=rfl
 have e3:Ek exH3=[dI 4,dI 0,dI 0,dI 0,sl [],dI 5,dI 0,sl [],sl [],sl [],sl []]:=rfl
 simp only[Option.getD_some,Option.isSome_some,if_true,e1]at g1
 simp only[Option.getD_some,Option.isSome_some,if_true,e2]at g2
 simp only[Option.getD_some,Option.isSome_some,if_true,e3]at g3
 have bY:=fun (O:Sig)=>Th [vObj 0] [vObj 0] .no .clip O (by decide) (by decide)
 have aR:∀O,DCall prog 53 [sl [[dI 3,dI 0]],.slice [[dI 3,dI 0]] .clip] O (rS (.bool true) O):=fun O=>(bY O).mono fun x U' ⟨h1,h2⟩=>⟨by rw[h1];simp,h2⟩
 refine rtl 73 (.agg (cFr 9 [] [])) ?_ (hw:=Dn ⟨A8 _,Ak _ (.inl rfl),Ak _ (.inl rfl),trivial⟩)
 refine RN (g1 S1) (fun d U2 hr=>?_) (fun d U2 hr=>by cases hr.1)
 obtain⟨hd,rfl⟩:=hr
 cases hd
 repeat' first|refine gz ?_|refine CP (aR _) ?_|refine callPG (aR _) ?_|refine gz ?_ o16|apply gy<;>intro hh
 refine rtl 111 (.agg (cFr 0 [] [vObj 0])) ?_ (hw:=Dn ⟨A8 _,Ak _ (.inl rfl),A8 _,trivial⟩)
 refine RN (g2 .no U2) (fun d S3 hr=>?_) (fun d S3 hr=>by cases hr.1)
 obtain⟨hd,rfl⟩:=hr
 cases hd
 have g3':∀O,DCall prog 13 [.agg (Ag exB),.agg (cCPg exC),.nils,.agg [dI 0,.nils,.slice [[dI 1,dI 3]] .clip]] O (rS (.tup [.agg [dI 4,dI 0,dI 0,dI 0,sl [],dI 5,dI 0,sl [],sl [],sl [],sl []],dI 0]) O):=fun O=>(g3 O).wk ⟨A8 _,A8 _,Ak _ (.inl rfl),Dn ⟨A8 _,Ak _ (.inl rfl),BD _ _,trivial⟩,trivial⟩
 refine gz ?_ (delO 12 o16)
 refine mix (id:=12) [0,1,2,3,4,5,6,7,8,9,10,11] [9,10] ?_
 refine gz ?_ o16
 refine moQWR (fun U' _=>(Nh 3 U').mono fun x S'' hx=>⟨hx.1,hx.2 ▸ Sub.refl _⟩) ?_
 refine gz ?_ o16
 refine moQWR (fun U' _=>(g3' U').mono fun x S'' hx=>⟨hx.1,hx.2 ▸ Sub.refl _⟩) ?_
 refine gz ?_ o16
 refine HT (fun i12 be=>?_)
 have aY:Sub S3 ((S3.set i12 (.cells [.int .i64 0,.int .i64 0,.int .i64 0,.int .i64 0,.nils,.int .i64 0,.int .i64 0,.nils,.nils,.nils,.nils])).set i12 (.cells [dI 4,dI 0,dI 0,dI 0,sl [],dI 5,dI 0,sl [],sl [],sl [],sl []])):=fun j o hj=>by
  have:=An hj be
  rw[w7 _ _ this,w7 _ _ this];exact hj
 refine Fv Ab tdR (by simp;rfl) aY ?_
 simp only[w8]
 refine gz ?_ o16
 refine mo_eqlG Ab _ (decide (vInt 1=vInt 1)) Nm N4 (Tu (vInt 1) (vInt 1)) ?_ tdR tdR tdR tdR tdR
 refine gz ?_ o16
 exact fin1 (U':=S3) ⟨rfl,rfl⟩
def zC:CProg:=⟨[],[],0⟩
def rdC(s:Str):CProg×Int:=if s.length<=5000 then(match Fb s with
 |none=>(zC,4)
 |some c=>(c,0)) else(zC,3)
theorem wk_zC(e:D):WkD (.tup [.agg [.nils,.nils,dI 0],e]) (.tup [.agg (cCPg zC),e]):=
 Ct ⟨Dn ⟨Ak _ (.inl rfl),Ak _ (.inl rfl),A8 _,trivial⟩,A8 _,trivial⟩
theorem Tm(s:Str)(O:Sig)(hs:s.length<=1073741824):DCall prog 38 [.str s] O (rS (.tup [.agg (cCPg (rdC s).1),dI (rdC s).2]) O):=by
 refine en func38 ntmps38 ?_
 by_cases hl:s.length<=5000
 rotate_left
 ·have hr:rdC s=(zC,3):=by unfold rdC;rw[if_neg hl]
  rw[hr]
  refine gz ?_ [] [2,4]
  refine newV (fun i hi=>?_)
  refine gf hl ?_ [] [2,4]
  refine finC (U':=O) (d:=.tup [.agg (cCPg zC),dI 3]) ⟨rfl,rfl⟩ (hw:=?_)
  exact wk_zC _
 ·refine gz ?_ [] [2,4]
  refine newV (fun i2 bd=>?_)
  refine gf hl ?_ [] [2,4]
  refine newV (fun i4 bM=>?_)
  refine gz ?_ [] [2,4]
  obtain⟨n24,aB⟩:=Bm bM
  have o4:((O.set i2 (.cells [.nils,.nils,dI 0])).set i4 (.cells [.nils,.nils,dI 0])) i4=some (.cells [.nils,.nils,dI 0]):=w6 ..
  have o2:((O.set i2 (.cells [.nils,.nils,dI 0])).set i4 (.cells [.nils,.nils,dI 0])) i2=some (.cells [.nils,.nils,dI 0]):=by rw[w7 _ _ n24.symm,w6]
  have hS:Sub O ((O.set i2 (.cells [.nils,.nils,dI 0])).set i4 (.cells [.nils,.nils,dI 0])):=((Sub.refl _).set bd).set aB
  have hr:rdC s=match Fb s with
   |none=>(zC,4)
   |some c=>(c,0):=by unfold rdC;rw[if_pos hl]
  change DOps _ _ _ _ _ _ ⟨_,(O.set i2 (.cells [.nils,.nils,dI 0])).set i4 (.cells [.nils,.nils,dI 0]),_⟩
  generalize (O.set i2 (.cells [.nils,.nils,dI 0])).set i4 (.cells [.nils,.nils,dI 0])=S0 at*
  have ak:∀i,S0 i=none->i≠i4:=fun i hi e=>by rw[e,o4]at hi;cases hi
  refine A3 (Nd 77 [.cptr [.str s] 0,.ptr i4 0] S0 (fun S1=>RdR s i4 S1) (fun i hi=>Tb s i4 _ hl (by rw[w7 _ _ (ak i hi).symm];exact o4)) (fun S1 d U2 h=>?_) (fun i U2 x hi h=>h.1 i _ (w6 ..) (ak i hi))) (fun d U' aA=>?_) (fun d U' aA=>?_)
  ·obtain⟨_,h⟩:=h
   split at h
   ·simpa using h
   ·exact absurd h.1 (by simp)
  ·obtain⟨i,U2,hi,rfl,aA⟩:=aA
   have aM:∀j o,S0 j=some o->j≠i4->(S0.set i (.cells [.bool false])) j=some o/\j≠i:=fun j o hj e=>by
    have e2:j≠i:=fun e2=>by rw[e2,hi]at hj;cases hj
    exact⟨by rw[w7 _ _ e2];exact hj,e2⟩
   rcases aA with⟨e,⟨hK,h⟩,h2⟩|⟨⟨hK,h⟩,h2⟩
   ·cases h2
    split at h
    ·cases h
    ·rename_i c hc
     obtain⟨_,ho⟩:=h
     rw[hc]at hr
     have aJ:∀j o,S0 j=some o->j≠i4->(U2.del i) j=some o:=fun j o hj e=>by
      obtain⟨q1,q2⟩:=aM j o hj e
      simp only[Sig.del,q2,if_false];exact hK j o q1 e
     have p2:=aJ _ _ o2 n24.symm
     have p4:(U2.del i) i4=some (.cells (cCPg c)):=by simp only[Sig.del,(ak i hi).symm,if_false];exact ho
     have pS:∀j o,O j=some o->j≠i4->(U2.del i) j=some o:=fun j o hj e=>aJ j o (hS j o hj) e
     generalize U2.del i=S3 at*
     refine gf (gi p2 p4) ?_ [] [2,4]
     refine finC (U':=O) (d:=.tup [.agg (cCPg (rdC s).1),dI (rdC s).2]) ⟨rfl,rfl⟩ (hw:=?_) (hU:=fun j o hj=>?_)
     ·rw[hr];exact A8 _
     ·have e2:=An hj bd
      have e4:=An hj aB
      rw[w7 _ _ e2];exact pS j o hj e4
   ·cases h2
    split at h
    ·rename_i hc
     rw[hc]at hr
     have aJ:∀j o,S0 j=some o->j≠i4->(U2.del i) j=some o:=fun j o hj e=>by
      obtain⟨q1,q2⟩:=aM j o hj e
      simp only[Sig.del,q2,if_false];exact hK j o q1 e
     have p2:=aJ _ _ o2 n24.symm
     have pS:∀j o,O j=some o->j≠i4->(U2.del i) j=some o:=fun j o hj e=>aJ j o (hS j o hj) e
     generalize U2.del i=S3 at*
     refine gf p2 ?_ [] [2,4]
     refine finC (U':=O) (d:=.tup [.agg (cCPg (rdC s).1),dI (rdC s).2]) ⟨rfl,rfl⟩ (hw:=?_) (hU:=fun j o hj=>?_)
     ·rw[hr];exact wk_zC _
     ·have e2:=An hj bd
      have e4:=An hj aB
      rw[w7 _ _ e2];exact pS j o hj e4
    ·exact absurd h.1 (by simp)
  ·obtain⟨i,U2,hi,rfl,aA⟩:=aA
   rcases aA with⟨e,_,h2⟩|⟨_,h2⟩<;>cases h2
section
variable {ro:Ro}{n:Nat}{ops:Array Oper}{Q:DX->St->Prop}{df:List DDf}{rest:List Oper}{γ Sr:List (Nat×D)}{O:Sig}{t:Nat}{ty:TypeId}{pos:String}{after:Array Edge}
theorem bytesMX{T T' e:Nat}{x:Operand}{s:Str}(h:∀i cap r,O i=none->s.length<=cap->DOps prog ro n ops Q rest ⟨(t,.sref i 0 s.length cap)::γ,O.set i (.mcells (s.map byteC++r)),df⟩)(hl:A0 γ (A4 [x])=some Sr:=by exact tdR)(hx:ev Sr x=.str s:=by exact tdR)(ap:decide (t<n)=true:=by exact tdR)
  (hk:(tab T).k=.str:=by(simp<;>rfl)) (bb:(tab T').k=.slice e:=by(simp<;>rfl)) (aw:(tab e).k=.int .u8:=by(simp<;>rfl)) :
  DOps prog ro n ops Q (⟨some t,.convert T T' x,ty,pos,after,none⟩::rest) ⟨γ,O,df⟩:=
 Ms Ab h (by simpa using ap) hk bb aw (by rw[<-Bu hl];exact hx)
theorem loadMX{T i off:Nat}{x:Operand}{ds:List D}{d:D}(h:DOps prog ro n ops Q rest ⟨(t,d)::γ,O,df⟩)(hi:O i=some (.mcells ds))(hd:ds[off]? = some d)(hl:A0 γ (A4 [x])=some Sr:=by exact tdR)(hx:ev Sr x=.ptr i off:=by exact tdR)(ap:decide (t<n)=true:=by exact tdR)
  (hk:(tab T).k=.int .u8:=by(simp<;>rfl)) (bS:(tab T).agg=false:=by(simp<;>rfl)) :
  DOps prog ro n ops Q (⟨some t,.load T x,ty,pos,after,none⟩::rest) ⟨γ,O,df⟩:=
 Oy Ab h (by simpa using ap) hk bS (by rw[<-Bu hl];exact hx) hi hd
theorem storeMX{T i off:Nat}{x y:Operand}{ds:List D}{k:IntKind}{z:Int}(h:DOps prog ro n ops Q rest ⟨γ,O.set i (.mcells (ds.set off (.int k z))),df⟩)(hi:O i=some (.mcells ds))(aZ:off<ds.length)(hl:A0 γ (A4 [x,y])=some Sr:=by exact tdR)(hx:ev Sr x=.ptr i off:=by exact tdR)(hy:ev Sr y=.int k z:=by exact tdR)
  (hk:(tab T).k=.int .u8:=by(simp<;>rfl)) (hsz:(tab T).size=1:=by(simp<;>rfl)) :
  DOps prog ro n ops Q (⟨none,.store T x y,ty,pos,after,none⟩::rest) ⟨γ,O,df⟩:=by
 obtain⟨e1,e2⟩:=evs hl
 exact Mp Ab h hk hsz (by rw[<-e1];exact hx) (by rw[<-e2];exact hy) hi aZ
theorem strMX{T T' e i cap:Nat}{x:Operand}{s:Str}{r:List D}(h:DOps prog ro n ops Q rest ⟨(t,.str s)::γ,O,df⟩)(hi:O i=some (.mcells (s.map byteC++r)))(hl:A0 γ (A4 [x])=some Sr:=by exact tdR)(hx:ev Sr x=.sref i 0 s.length cap:=by exact tdR)(ap:decide (t<n)=true:=by exact tdR)
  (hk:(tab T).k=.slice e:=by(simp<;>rfl)) (bb:(tab T').k=.str:=by(simp<;>rfl)) (aw:(tab e).k=.int .u8:=by(simp<;>rfl)) :
  DOps prog ro n ops Q (⟨some t,.convert T T' x,ty,pos,after,none⟩::rest) ⟨γ,O,df⟩:=
 RB Ab h (by simpa using ap) hk bb aw (by rw[<-Bu hl];exact hx) hi
end
theorem wk_zC1:WkD (.agg [.nils,.nils,dI 0]) (.agg (cCPg zC)):=Dn ⟨Ak _ (.inl rfl),Ak _ (.inl rfl),A8 _,trivial⟩
theorem Tq(c:CProg)(a b:Nat)(O:Sig)(h1:c.ins.length<=1073741824)(h2:c.starts.length<=1073741824)(ha:a<=65535)(hb:b<=255):E0 prog 10 [.agg (cCPg c),.int .u16 (a:Int),.int .u8 (b:Int)] O fun x _=>x=.ret (.bool true):=by
 have aS:=fun O:Sig=>Ng c O h1 h2
 refine enW func10 ntmps10 ?_
 cases hp:CG c with
 |false=>
  have i36:∀O,Ans 36 [.agg (cCPg c)] O True (.tup [.str [],dI 2]):=fun O=>ah0 (by have:=aS O;rw[hp]at this;exact this)
  refine gz ?_
  refine My (Ni O) (fun d S3 hr=>?_) (fun d S3 hr=>by cases hr.1)
  obtain⟨hd,rfl⟩:=hr
  cases hd
  refine gz ?_
  exact fin1 (U':=S3) rfl (hU:=Sub.refl _)
 | true =>
  have i36:∀O,Ans 36 [.agg (cCPg c)] O True (.tup [.str (Dg c),dI 0]):=fun O=>ah0 (by have:=aS O;rw[hp]at this;exact this)
  have bt:=LK hp
  have aU:0<(Dg c).length:=by unfold Dg;simp
  obtain⟨S,hS⟩:∃S,S=Dg c:=⟨_,rfl⟩
  obtain⟨q,hq⟩:∃q,q=a % S.length:=⟨_,rfl⟩
  rw[<-hS]at bt aU i36
  have aG:q<S.length:=by rw[hq];exact Nat.mod_lt _ aU
  have e1:(a:Int).tmod (S.length:Int)=(q:Int):=by rw[hq];rfl
  have e2:(b:Int).tmod 255=((b % 255:Nat):Int):=rfl
  have ea:IntKind.i64.wrap (a:Int)=(a:Int):=As (by omega) (by omega)
  have eb:IntKind.i64.wrap (b:Int)=(b:Int):=As (by omega) (by omega)
  have bU:¬S=[]:=fun e=>by rw[e]at aU;simp at aU
  refine gf bU ?_
  refine bytesMX (s:=S) (fun ib cap r bw bP=>?_)
  have o1:(O.set ib (.mcells (S.map byteC++r))) ib=some (.mcells (S.map byteC++r)):=w6 ..
  have k1:Sub O (O.set ib (.mcells (S.map byteC++r))):=(Sub.refl _).set bw
  generalize O.set ib (.mcells (S.map byteC++r))=S1 at*
  refine gf (gi e1 ea) ?_
  have hg:(S.map byteC++r)[q]? = some (.int .u8 (S[q].toNat:Int)):=by rw[List.getElem?_append_left (by simpa using aG),List.getElem?_map,List.getElem?_eq_getElem aG];rfl
  refine loadMX (d:=.int .u8 (S[q].toNat:Int)) ?_ o1 hg
  have b8:=S[q].toNat_lt
  obtain⟨y,hy⟩:∃y:UInt8,y=UInt8.ofNat ((S[q].toNat+1+b % 255) % 256):=⟨_,rfl⟩
  have bl:y.toNat=(S[q].toNat+1+b % 255) % 256:=by rw[hy,JM (by omega)]
  have bG:y≠S[q]:=fun e=>by rw[e]at bl;omega
  have ec:IntKind.u8.wrap ((S[q].toNat:Int)+1+(b:Int) % 255)=(y.toNat:Int):=by rw[Gt,bl];omega
  have bJ:Fb (S.set q y)=none:=by
   have:=Pa (c:=c) (k:=q) (x:=y) (by rw[<-hS];exact aG) (by subst hS;exact bG)
   rw[<-hS]at this;exact this
  have e38:rdC (S.set q y)=(zC,4):=by unfold rdC;rw[if_pos (by rw[List.length_set];exact bt),bJ]
  have e57:(S.map byteC++r).set q (.int .u8 (y.toNat:Int))=(S.set q y).map byteC++r:=by rw[List.set_append_left _ _ (by simpa using aG),List.map_set];rfl
  generalize (S[q]'aG).toNat=y0 at*
  refine gf (gi e2 eb) ?_
  simp only[ec]
  refine storeMX (i:=ib) (off:=q) (k:=.u8) (z:=(y.toNat:Int)) ?_ o1 (by rw[List.length_append,List.length_map];omega)
  rw[e57]
  have o2:(S1.set ib (.mcells ((S.set q y).map byteC++r))) ib=some (.mcells ((S.set q y).map byteC++r)):=w6 ..
  have k2:Sub O (S1.set ib (.mcells ((S.set q y).map byteC++r))):=fun j o hj=>by rw[w7 _ _ (An hj bw)];exact k1 j o hj
  generalize S1.set ib (.mcells ((S.set q y).map byteC++r))=U2 at*
  have aE:(S.set q y).length=S.length:=List.length_set
  have bD:=fun O:Sig=>Tm (S.set q y) O (by rw[aE];omega)
  rw[e38]at bD
  generalize S.set q y=S2 at*
  have i38:∀O,Ans 38 [.str S2] O True (.tup [.agg (cCPg zC),dI 4]):=fun O=>ah0 (bD O)
  refine gz ?_
  rw[<-aE]
  refine strMX (i:=ib) (cap:=cap) (s:=S2) ?_ o2
  refine gz ?_
  refine BQ (Bv (t:=65) (d:=.agg (cCPg zC)) (by rw[Ar tdR];exact wk_zC1)) ?_
  have i31:∀O,Ans 31 [.agg (cCPg zC),.agg (cCPg zC)] O True (.bool true):=fun O=>ah0 (by have:=Tn zC zC O (by simp[zC]) (by simp[zC]) (by simp[zC]) (by simp[zC]);rw[NN]at this;exact this)
  refine gz ?_
  refine My (Ni U2) (fun d S3 hr=>?_) (fun d S3 hr=>by cases hr.1)
  obtain⟨hd,rfl⟩:=hr
  cases hd
  refine gz ?_
  exact fin1 (U':=S3) rfl (hU:=Sub.refl _)
end Go.DL
