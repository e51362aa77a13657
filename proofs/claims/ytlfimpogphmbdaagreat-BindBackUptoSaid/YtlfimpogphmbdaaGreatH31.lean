/- A part of the proof. -/
import Derived.Test.YtlfimpogphmbdaaGreatH30
import Derived.OpenShut
import Derived.JoinedCond
import Derived.WalkKit
import Derived.ProofKit
set_option linter.all false
namespace Go.DL
open Go.Proofs.Tryz
open Go Go.Proofs Go.ChangeShapes Go.WideShapes Go.ChangeAt Go.RowKit
open Go.Proofs.YtlfimpogphmbdaaGreat.Rows (uptoBulk uptoBulkAll)
set_option maxRecDepth 100000
theorem Vc{N:Nat}{us:fQ}(h:aB prog N us (fun _=>none) fun x _=>x=.ret (.bool true))(W:Go.World){vs:List Value}(hr:kI (g0 W) us vs):
  Calls prog N vs.toArray W fun e W'=>e=.returned (.bool true)/\(∀(k:Nat) (o:Obj),W.heap[k]? = some o->W'.heap[k]? = some o)/\W'.os=W.os/\W'.output=W.output:=by
 refine CallsIn.calls (F:=FX prog none) (n:=0) ((h.run (g0 W) W vs (sim0 _ W) hr).mono ?_) fun k d hd=>by cases hd
 rintro e W' ⟨g',x,U',f8,hs,hE,rfl⟩
 obtain⟨v,rfl,rfl⟩:=hE;have fY:=hs.io.trans f8.io;simp only[g0,dC]at fY;exact⟨rfl,fun k o hk=>hs.keep k o (f8.keep k o hk),fY.1,fY.2⟩
theorem laidOut:laidOutB prog=true:=by kernel_rfl
section
variable {H:Type}{enc:TypeId×Value->H}{W W':Go.World}
theorem HK{sp:Nat->Bool}: ∀{ts:List TypeId}{vs:List Value}{ds:List (DataW H)}{ps:List MemPlace},(∀t∈ts,prog.readableRec t=true/\t<prog.types.size)->DataW.TrodAll enc prog W 0 (fun _=>true) true ts vs ds ps->(∀p∈ps,W.sameAt W' p)->(∀p∈ps,sp p.block=true)->DataW.TrodAll enc prog W' 0 sp true ts vs ds ps
 |[],vs,ds,ps,_,h,_,_=>by
  obtain⟨rfl,rfl,rfl⟩:=trodAll_nil h;exact h
 | t::ts,vs,ds,ps,ht,h,h1,h2=>by
  obtain⟨v,vs1,d,ds1,a,b,rfl,rfl,rfl,k1,k2⟩:=trodAll_cons h
  exact⟨a,b,WideElems.Trod_stays laidOut (ht t k7).1 (ht t k7).2 k1 (fun p hp=>h1 p (by simp[hp])) (fun p hp=>h2 p (by simp[hp])),
   HK (fun t hx=>ht t (by simp[hx])) k2 (fun p hp=>h1 p (by simp[hp])) (fun p hp=>h2 p (by simp[hp])),rfl⟩
theorem same_of{p:MemPlace}(d6:∀(k:Nat) (o:Obj),W.heap[k]? = some o->W'.heap[k]? = some o)(hp:p.block<W.heap.size):W.sameAt W' p:=by
 have hk:∀b,b<W.heap.size->W'.heap[b]? = W.heap[b]? :=fun b hb=>by
  rw[bO hb];exact d6 b _ (bO hb)
 cases p with
 |cell b off=>
  show W'.cell? ⟨b,off,none⟩=W.cell? ⟨b,off,none⟩;unfold World.cell?;rw[hk b hp]
 |map b=>exact hk b hp
theorem kept_of{may:MemPlace->Prop}(d6:∀(k:Nat) (o:Obj),W.heap[k]? = some o->W'.heap[k]? = some o)(e7:W'.os=W.os)(d7:W'.output=W.output):W.keptBut W' may:=by
 refine⟨e7,d7,fun i hi=>?_⟩;have h:=bO hi;rw[h,d6 i _ h];cases W.heap[i]<;>simp
theorem YC{f:Func}{s:ChangeSpec}{args:Array Value}{ds gs:List (DataW H)}{before:List MemPlace}(hv:s.vars=[])(fX:f.resultTypes=#[4])(gb:∀t∈f.params.toList,prog.readableRec t=true/\t<prog.types.size)
  (hW:DataW.Whole enc prog f.params.toList s.vars false W args.toList ds gs before) (e8:s.fn H (ds++gs)={ results:=[.lit (.bool true)],args:=ds })
  (d6:∀(k:Nat) (o:Obj),W.heap[k]? = some o->W'.heap[k]? = some o) (e7:W'.os=W.os) (d7:W'.output=W.output):s.post enc prog f false true false false W args (.bool true) W':=by
 have f0:=hW.lt;have fZ:=hW;obtain⟨p,q,hA,hV,rfl,gg,gc⟩:=hW;rw[hv]at hV;obtain⟨rfl,rfl⟩:=trodVars_none hV;have d9:∀x∈p,W.sameAt W' x:=fun x hx=>same_of d6 (by simpa using f0 x (by simp[hx]))
 refine⟨ds,[],p++[],[],p,[],fZ,?_,?_,?_,kept_of d6 e7 d7,fun h=>by cases h⟩
 ·rw[fX,e8];exact trodAll_cons_mk (shut_bool underlying4 _) trodAll_mk0
 ·rw[e8];exact HK gb hA d9 fun x hx=>by simpa using f0 x (by simp[hx])
 ·rw[e8,hv];rfl
end
end Go.DL
namespace Go.DL
open Go.Proofs.Tryz
open Go Go.Proofs Go.ChangeShapes Go.WideShapes Go.ChangeAt Go.RowKit
open Go.Proofs.YtlfimpogphmbdaaGreat
set_option maxRecDepth 100000
theorem own:ownKnob prog.godebug=none:=by kernel_rfl
end Go.DL
namespace Go.DL
open Go.Proofs.Tryz
open Go Go.Proofs Go.ChangeShapes Go.WideShapes Go.ChangeAt Go.RowKit
open Go.Proofs.YtlfimpogphmbdaaGreat
open Go.Proofs.YtlfimpogphmbdaaGreat.Rows (uptoBulk uptoBulkAll)
set_option maxRecDepth 100000
section
variable {H:Type}{enc:TypeId×Value->H}{W:Go.World}{base:Nat}
theorem Xt(n:Nat):Dec enc W n 150 Dz aM.wt:=fun cs x h=>by
 obtain⟨xs,m,hm,hb,hl,hx,hf⟩:=F4 underlying150 h;rw[show prog.cellsOf 150=2 by kernel_rfl]at hl
 match cs,hl with
 | [v0,v1],_ =>
  match xs,hx with
  |[x0,x1],_=>
   obtain⟨a0,r0,w0⟩:=Hy underlying9 [v0] x0 (Ea (hf 0 _ rfl) cellsS rfl);obtain⟨a1,r1,w1⟩:=IX underlying3 [v1] x1 (Ea (hf 1 _ rfl) cellsI rfl);refine⟨⟨a0,a1⟩,r0.append r1,?_⟩;rw[hb];clear hf hx hl;dsimp only at*; simp only[aM.wt,uptoBulkAll,bg,cq];omega
theorem U3(n:Nat):Dec enc W n 83 kL aJ.wt:=fun cs x h=>by
 obtain⟨xs,m,hm,hb,hl,hx,hf⟩:=F4 underlying83 h;rw[show prog.cellsOf 83=4 by kernel_rfl]at hl
 match cs,hl with
 | [v0,v1,v2,v3],_ =>
  match xs,hx with
  |[x0,x1,x2,x3],_=>
   obtain⟨a0,r0,w0⟩:=Hy underlying9 [v0] x0 (Ea (hf 0 _ rfl) cellsS rfl);obtain⟨a1,r1,w1⟩:=JH _ [v1] x1 (Ea (hf 1 _ rfl) (show prog.cellsOf 80=1 by kernel_rfl) rfl);obtain⟨a2,r2,w2⟩:=JH _ [v2] x2 (Ea (hf 2 _ rfl) (show prog.cellsOf 80=1 by kernel_rfl) rfl);obtain⟨a3,r3,w3⟩:=Fj underlying81 (by kernel_rfl:prog.cellsOf 150=2) k0 (fun _=>rfl) (fun _ _=>Xt _) [v3] x3 (Ea (hf 3 _ rfl) (show prog.cellsOf 81=1 by kernel_rfl) rfl);refine⟨⟨a0,a1,a2,a3⟩,r0.append (r1.append (r2.append r3)),?_⟩;rw[hb];clear hf hx hl;dsimp only at*; simp only[aJ.wt,uptoBulkAll,bg,cq];omega
theorem Rs(e:aH):(Af e).length=4:=by cases e;rfl
theorem OH(e:aI):(AE e).length=6:=by cases e;rfl
theorem Sp: ∀n:Nat,Dec enc W n 40 Af aH.wt:=fun n=>by
 induction n using Nat.strongRecOn with
 |ind n ih=>
 intro cs x h;obtain⟨xs,m,hm,hb,hl,hx,hf⟩:=F4 underlying40 h;rw[show prog.cellsOf 40=4 by kernel_rfl]at hl
 match cs,hl with
 | [v0,v1,v2,v3],_ =>
  match xs,hx with
  |[x0,x1,x2,x3],_=>
   obtain⟨a0,r0,w0⟩:=IX underlying37 [v0] x0 (Ea (hf 0 _ rfl) (show prog.cellsOf 37=1 by kernel_rfl) rfl);obtain⟨a1,r1,w1⟩:=IX underlying3 [v1] x1 (Ea (hf 1 _ rfl) cellsI rfl);obtain⟨a2,r2,w2⟩:=Hy underlying9 [v2] x2 (Ea (hf 2 _ rfl) cellsS rfl);obtain⟨a3,r3,w3⟩:=(Fj (c:=Af) (wt:=aH.wt) (t:=38) (e:=40) (n:=m) underlying38 (by kernel_rfl:prog.cellsOf 40=4) k0 Rs fun k hk=>ih k k0) [v3] x3 (Ea (hf 3 _ rfl) (show prog.cellsOf 38=1 by kernel_rfl) rfl);refine⟨.mk a0 a1 a2 a3,by rw[Cl];exact r0.append (r1.append (r2.append r3)),?_⟩;rw[hb];clear hf hx hl;dsimp only at*; rw[aH.wt_eq];simp only[aH.text,aH.aq,uptoBulkAll,bg,cq];omega
theorem Xu: ∀n:Nat,Dec enc W n 88 AE aI.wt:=fun n=>by
 induction n using Nat.strongRecOn with
 |ind n ih=>
 intro cs x h;obtain⟨xs,m,hm,hb,hl,hx,hf⟩:=F4 underlying88 h;rw[show prog.cellsOf 88=6 by kernel_rfl]at hl
 match cs,hl with
 | [v0,v1,v2,v3,v4,v5],_ =>
  match xs,hx with
  |[x0,x1,x2,x3,x4,x5],_=>
   obtain⟨a0,r0,w0⟩:=IX underlying85 [v0] x0 (Ea (hf 0 _ rfl) (show prog.cellsOf 85=1 by kernel_rfl) rfl);obtain⟨a1,r1,w1⟩:=Hy underlying9 [v1] x1 (Ea (hf 1 _ rfl) cellsS rfl);obtain⟨a2,r2,w2⟩:=JH _ [v2] x2 (Ea (hf 2 _ rfl) (show prog.cellsOf 80=1 by kernel_rfl) rfl);obtain⟨a3,r3,w3⟩:=Hy underlying9 [v3] x3 (Ea (hf 3 _ rfl) cellsS rfl);obtain⟨a4,r4,w4⟩:=IX underlying3 [v4] x4 (Ea (hf 4 _ rfl) cellsI rfl);obtain⟨a5,r5,w5⟩:=(Fj (c:=AE) (wt:=aI.wt) (t:=86) (e:=88) (n:=m) underlying86 (by kernel_rfl:prog.cellsOf 88=6) k0 OH fun k hk=>ih k k0) [v5] x5 (Ea (hf 5 _ rfl) (show prog.cellsOf 86=1 by kernel_rfl) rfl);refine⟨.mk a0 a1 a2 a3 a4 a5,by rw[Cp];exact r0.append (r1.append (r2.append (r3.append (r4.append r5)))),?_⟩;rw[hb];clear hf hx hl;dsimp only at*; rw[aI.wt_eq];simp only[aI.name,aI.path,aI.cls,aI.aq,uptoBulkAll,bg,cq];omega
theorem Xs(n:Nat):Dec enc W n 90 BQ aK.wt:=fun cs x h=>by
 obtain⟨xs,m,hm,hb,hl,hx,hf⟩:=F4 underlying90 h;rw[show prog.cellsOf 90=13 by kernel_rfl]at hl
 match cs,hl with
 | [v0,v1,v2,v3,v4,v5,v6,v7,v8,v9,v10,v11,v12],_ =>
  match xs,hx with
  |[x0,x1,x2,x3,x4],_=>
   obtain⟨a0,r0,w0⟩:=IX underlying84 [v0] x0 (Ea (hf 0 _ rfl) (show prog.cellsOf 84=1 by kernel_rfl) rfl);obtain⟨a1,r1,w1⟩:=Hy underlying9 [v1] x1 (Ea (hf 1 _ rfl) cellsS rfl);obtain⟨a2,r2,w2⟩:=JH _ [v2] x2 (Ea (hf 2 _ rfl) (show prog.cellsOf 80=1 by kernel_rfl) rfl);obtain⟨a3,r3,w3⟩:=Xu _ [v3,v4,v5,v6,v7,v8] x3 (Ea (hf 3 _ rfl) (show prog.cellsOf 88=6 by kernel_rfl) rfl);obtain⟨a4,r4,w4⟩:=Sp _ [v9,v10,v11,v12] x4 (Ea (hf 4 _ rfl) (show prog.cellsOf 40=4 by kernel_rfl) rfl);refine⟨⟨a0,a1,a2,a3,a4⟩,((r0.append (r1.append r2)).append r3).append r4,?_⟩;rw[hb];clear hf hx hl;dsimp only at*; simp only[aK.wt,uptoBulkAll,bg,cq];omega
theorem Vb(m:aK):(BQ m).length=13:=by simp[BQ,OH,Rs]
theorem Xr(n:Nat):Dec enc W n 42 AS aL.wt:=fun cs x h=>by
 obtain⟨xs,m,hm,hb,hl,hx,hf⟩:=F4 underlying42 h;rw[show prog.cellsOf 42=6 by kernel_rfl]at hl
 match cs,hl with
 | [v0,v1,v2,v3,v4,v5],_ =>
  match xs,hx with
  |[x0,x1,x2],_=>
   obtain⟨a0,r0,w0⟩:=Fj underlying35 (by kernel_rfl:prog.cellsOf 83=4) k0 (fun _=>rfl) (fun _ _=>U3 _) [v0] x0 (Ea (hf 0 _ rfl) (show prog.cellsOf 35=1 by kernel_rfl) rfl);obtain⟨a1,r1,w1⟩:=Fj underlying36 (by kernel_rfl:prog.cellsOf 90=13) k0 Vb (fun _ _=>Xs _) [v1] x1 (Ea (hf 1 _ rfl) (show prog.cellsOf 36=1 by kernel_rfl) rfl);obtain⟨a2,r2,w2⟩:=Sp _ [v2,v3,v4,v5] x2 (Ea (hf 2 _ rfl) (show prog.cellsOf 40=4 by kernel_rfl) rfl);refine⟨⟨a0,a1,a2⟩,(r0.append r1).append r2,?_⟩;rw[hb];clear hf hx hl;dsimp only at*; simp only[aL.wt,uptoBulkAll,bg,cq];omega
theorem T1{v:Value}{d:DataW H}{ps:List MemPlace}(d8:Value.okWide prog W .any base 42 v)(h:DataW.Trod enc prog W 0 (fun _=>true) true 42 v d ps): ∃p:aL,Rep (g0 W) (.agg (AS p)) v/\p.wt<=Rows.uptoBulk d:=by
 obtain⟨cs,rfl,_⟩:=okWide_struct underlying42 d8;obtain⟨n,hn⟩:=h;obtain⟨p,h1,h2⟩:=Xr n _ _ hn;exact⟨p,⟨cs.toList,k7,h1⟩,h2⟩
theorem SZ:prog.readableRec 42=true:=by kernel_rfl
theorem O7:42<prog.types.size:=bx (by kernel_rfl)
theorem law1F{N:Nat}{f:Func}(hf:f.params=#[42])(fX:f.resultTypes=#[4])(hN:∀p:aL,p.wt<=1048576->aB prog N [.agg (AS p)] (fun _=>none) fun x _=>x=.ret (.bool true))
  {s:ChangeSpec} (hv:s.vars=[]) (e8:∀d,s.fn H [d]={ results:=[.lit (.bool true)],args:=[d] }) {args:Array Value}{ds gs:List (DataW H)}{before:List MemPlace}
  (d8:∀(j:Nat) t v,f.params[j]? = some t->args[j]? = some v->Value.okWide prog W .any base t v)
  (hW:DataW.Whole enc prog f.params.toList s.vars false W args.toList ds gs before) (hk:Rows.uptoSmall H (ds++gs)=true) :
  Calls prog N args W fun e W'=> ∃v,e=.returned v/\s.post enc prog f false true false false W args v W':=by
 have fZ:=hW;obtain⟨p,q,hA,hV,rfl,gg,gc⟩:=hW;rw[hv]at hV;obtain⟨rfl,rfl⟩:=trodVars_none hV;rw[hf]at hA d8;obtain⟨v0,vs0,d0,ds0,p0,q0,ga,rfl,rfl,h0,r0⟩:=trodAll_cons hA;obtain⟨rfl,rfl,rfl⟩:=trodAll_nil r0;obtain rfl:args=#[v0]:=by cases args;simp_all
 have hb:Rows.uptoBulk d0+0<=1048576:=bx hk;obtain⟨pr,hr,hw⟩:=T1 (d8 0 42 v0 rfl rfl) h0;refine(Vc (hN pr k0) W (vs:=[v0]) ⟨v0,[],rfl,hr,rfl⟩).mono fun e W' ⟨he,d6,e7,d7⟩=>?_;refine⟨_,he,YC hv fX (fun t ht=>?_) fZ (e8 d0) d6 e7 d7⟩;rw[hf]at ht;obtain rfl:t=42:=by simpa using ht
 exact⟨SZ,O7⟩
end
end Go.DL
