/- Part of the proof that the last text ends. -/
import Derived.Test.YtlfimpogphmbdaaGreatM35
import Derived.OpenShut
import Derived.JoinedCond
import Derived.WalkKit
import Derived.ProofKit
set_option linter.all false
namespace Go.DL
open Go.Proofs.Tryz
open Go Go.Proofs Go.ChangeShapes Go.WideShapes Go.ChangeAt Go.RowKit
open Go.Proofs.YtlfimpogphmbdaaGreat.Rows (uptoBulk uptoBulkAll)
set_option maxRecDepth 100000
theorem SK{N:Nat}{us:List D}(h:DCall prog N us (fun _=>none) fun x _=>x=.ret (.bool true))(W:Go.World){vs:List Value}(hr:RepL (g0 W) us vs):
  Calls prog N vs.toArray W fun e W'=>e=.returned (.bool true)/\(∀(k:Nat) (o:Obj),W.heap[k]? = some o->W'.heap[k]? = some o)/\W'.os=W.os/\W'.output=W.output:=by
 refine CallsIn.calls (F:=FX prog none) (n:=0) ((h.run (g0 W) W vs (sim0 _ W) hr).mono ?_) fun k d hd=>by cases hd
 rintro e W' ⟨g',x,S',hle,hs,hE,rfl⟩
 obtain⟨v,rfl,rfl⟩:=hE
 have hio:=hs.io.trans hle.io
 simp only[g0,Prod.mk.injEq]at hio
 exact⟨rfl,fun k o hk=>hs.keep k o (hle.keep k o hk),hio.1,hio.2⟩
theorem laidOut:laidOutB prog=true:=by kernel_rfl
section
variable {H:Type}{enc:TypeId×Value->H}{W W':Go.World}
theorem GW{sp:Nat->Bool}: ∀{ts:List TypeId}{vs:List Value}{ds:List (DataW H)}{ps:List MemPlace},(∀t∈ts,prog.readableRec t=true/\t<prog.types.size)->DataW.TrodAll enc prog W 0 (fun _=>true) true ts vs ds ps->(∀p∈ps,W.sameAt W' p)->(∀p∈ps,sp p.block=true)->DataW.TrodAll enc prog W' 0 sp true ts vs ds ps
 |[],vs,ds,ps,_,h,_,_=>by
  obtain⟨rfl,rfl,rfl⟩:=trodAll_nil h
  exact h
 | t::ts,vs,ds,ps,ht,h,h1,h2=>by
  obtain⟨v,vs1,d,ds1,a,b,rfl,rfl,rfl,k1,k2⟩:=trodAll_cons h
  exact⟨a,b,WideElems.Trod_stays laidOut (ht t (by simp)).1 (ht t (by simp)).2 k1 (fun p hp=>h1 p (by simp[hp])) (fun p hp=>h2 p (by simp[hp])),
   GW (fun t hx=>ht t (by simp[hx])) k2 (fun p hp=>h1 p (by simp[hp])) (fun p hp=>h2 p (by simp[hp])),rfl⟩
theorem same_of{p:MemPlace}(hold:∀(k:Nat) (o:Obj),W.heap[k]? = some o->W'.heap[k]? = some o)(hp:p.block<W.heap.size):W.sameAt W' p:=by
 have hk:∀b,b<W.heap.size->W'.heap[b]? = W.heap[b]? :=fun b hb=>by
  rw[Array.getElem?_eq_getElem hb];exact hold b _ (Array.getElem?_eq_getElem hb)
 cases p with
 |cell b off =>
  show W'.cell? ⟨b,off,none⟩=W.cell? ⟨b,off,none⟩
  unfold World.cell?
  rw[hk b hp]
 |map b=>exact hk b hp
theorem kept_of{may:MemPlace->Prop}(hold:∀(k:Nat) (o:Obj),W.heap[k]? = some o->W'.heap[k]? = some o)(hos:W'.os=W.os)(hout:W'.output=W.output):W.keptBut W' may:=by
 refine⟨hos,hout,fun i hi=>?_⟩
 have h:=Array.getElem?_eq_getElem hi
 rw[h,hold i _ h]
 cases W.heap[i]<;>simp
theorem VH{f:Func}{s:ChangeSpec}{args:Array Value}{ds gs:List (DataW H)}{before:List MemPlace}(hv:s.vars=[])(hrt:f.resultTypes=#[4])(hts:∀t∈f.params.toList,prog.readableRec t=true/\t<prog.types.size)
  (hW:DataW.Whole enc prog f.params.toList s.vars false W args.toList ds gs before) (hfn:s.fn H (ds++gs)={ results:=[.lit (.bool true)],args:=ds })
  (hold:∀(k:Nat) (o:Obj),W.heap[k]? = some o->W'.heap[k]? = some o) (hos:W'.os=W.os) (hout:W'.output=W.output):s.post enc prog f false true false false W args (.bool true) W':=by
 have hlt:=hW.lt
 have hW':=hW
 obtain⟨p,q,hA,hV,rfl,hfz,hnd⟩:=hW
 rw[hv]at hV
 obtain⟨rfl,rfl⟩:=trodVars_none hV
 have hsame:∀x∈p,W.sameAt W' x:=fun x hx=>same_of hold (by simpa using hlt x (by simp[hx]))
 refine⟨ds,[],p++[],[],p,[],hW',?_,?_,?_,kept_of hold hos hout,fun h=>by cases h⟩
 ·rw[hrt,hfn]
  exact trodAll_cons_mk (shut_bool underlying4 _) trodAll_mk0
 ·rw[hfn]
  exact GW hts hA hsame fun x hx=>by simpa using hlt x (by simp[hx])
 ·rw[hfn,hv]
  rfl
end
end Go.DL
namespace Go.DL
open Go.Proofs.Tryz
open Go Go.Proofs Go.ChangeShapes Go.WideShapes Go.ChangeAt Go.RowKit
open Go.Proofs.YtlfimpogphmbdaaGreat
set_option maxRecDepth 100000
theorem own:ownKnob prog.godebug=none:=by kernel_rfl
section
variable {H:Type}{enc:TypeId×Value->H}{W:Go.World}{base:Nat}
theorem RY{v:Value}{d:DataW H}{ps:List MemPlace}(hval:Value.okWide prog W .any base 27 v)(h:DataW.Trod enc prog W 0 (fun _=>true) true 27 v d ps): ∃p:BProg,Rep (g0 W) (.agg (Am p)) v/\p.wt<=Rows.uptoBulk d:=by
 obtain⟨cs,rfl,_⟩:=okWide_struct underlying27 hval
 obtain⟨n,hn⟩:=h
 obtain⟨p,h1,h2⟩:=UX n _ _ hn
 exact⟨p,⟨cs.toList,by simp,h1⟩,h2⟩
theorem Qn:prog.readableRec 27=true:=by kernel_rfl
theorem Qf:27<prog.types.size:=of_decide_eq_true (by kernel_rfl)
theorem law1{N:Nat}{f:Func}(hf:f.params=#[27])(hrt:f.resultTypes=#[4])(hN:∀p:BProg,p.wt<=1048576->DCall prog N [.agg (Am p)] (fun _=>none) fun x _=>x=.ret (.bool true))
  {s:ChangeSpec} (hv:s.vars=[]) (hfn:∀d,s.fn H [d]={ results:=[.lit (.bool true)],args:=[d] }) {args:Array Value}{ds gs:List (DataW H)}{before:List MemPlace}
  (hval:∀(j:Nat) t v,f.params[j]? = some t->args[j]? = some v->Value.okWide prog W .any base t v)
  (hW:DataW.Whole enc prog f.params.toList s.vars false W args.toList ds gs before) (hk:Rows.uptoSmall H (ds++gs)=true) :
  Calls prog N args W fun e W'=> ∃v,e=.returned v/\s.post enc prog f false true false false W args v W':=by
 have hW':=hW
 obtain⟨p,q,hA,hV,rfl,hfz,hnd⟩:=hW
 rw[hv]at hV
 obtain⟨rfl,rfl⟩:=trodVars_none hV
 rw[hf]at hA hval
 obtain⟨v0,vs0,d0,ds0,p0,q0,hargs,rfl,rfl,h0,r0⟩:=trodAll_cons hA
 obtain⟨rfl,rfl,rfl⟩:=trodAll_nil r0
 obtain rfl:args=#[v0]:=by cases args;simp_all
 have hb:Rows.uptoBulk d0+0<=1048576:=of_decide_eq_true hk
 obtain⟨pr,hr,hw⟩:=RY (hval 0 27 v0 rfl rfl) h0
 refine(SK (hN pr (by omega)) W (vs:=[v0]) ⟨v0,[],rfl,hr,rfl⟩).mono fun e W' ⟨he,hold,hos,hout⟩=>?_
 refine⟨_,he,VH hv hrt (fun t ht=>?_) hW' (hfn d0) hold hos hout⟩
 rw[hf]at ht
 obtain rfl:t=27:=by simpa using ht
 exact⟨Qn,Qf⟩
end
end Go.DL
