/- A part of the proof. -/
import Derived.Test.YteldimffglchkaaGreatDoorM19
import Derived.Test.YteldimffglchkaaGreatDoorM22
import Derived.Test.YteldimffglchkaaGreatDoorM11
import Derived.Test.YteldimffglchkaaGreatDoorM18
import Derived.Test.YteldimffglchkaaGreatDoorM16
import Derived.Test.YteldimffglchkaaGreatDoorM20
set_option linter.all false
namespace Go.DL
open Go.Proofs.Tryz
open Go Go.Proofs
set_option maxHeartbeats 8000000
def Gg(p:BProg):CProg:=if okP p then D2 p else⟨[],[],0⟩
theorem OY(p:BProg)(O:Sig)(hp:p.wt<=1073741824):DCall prog 18 [.agg (Ae p)] O (rS (.tup [.agg (cCPg (Gg p)),dI (if okP p then 0 else 2)]) O):=by
 obtain⟨p1,p2,p3,p4,p5,p6,p7⟩:=p.wt_le
 refine en func18 ntmps18 ?_
 cases hk:okP p with
 |false=>
  have hc:Gg p=⟨[],[],0⟩:=by unfold Gg;rw[hk];rfl
  rw[hc]
  refine gz ?_ o18 [2,15]
  refine newV (fun i hi=>?_)
  refine gf hk ?_ o18 [2,15]
  refine finC (U':=O) (d:=.tup [.agg (cCPg ⟨[],[],0⟩),dI 2]) ⟨rfl,rfl⟩ (hw:=?_)
  exact Di ⟨FU ⟨Ak _ (.inl rfl),Ak _ (.inl rfl),Ab _,trivial⟩,Ab _,trivial⟩
 | true =>
  have hc:Gg p=D2 p:=by unfold Gg;rw[hk];rfl
  rw[hc]
  have bV:=LT hk
  have dy:=LQ hk
  have bt:=Dz hk
  refine gz ?_ o18 [2,15]
  refine newV (fun i2 cf=>?_)
  repeat ((fail_if_success (first|(refine boxV (T:=127) (fun ib ce=>?_))|fail));(refine goX1 hk ?_))
  refine boxV (T:=127) (fun ib ce=>?_)
  obtain⟨n2b,aE⟩:=Bw ce
  refine gz ?_ o18 [2,15]
  refine EZ ib 1 1 (ds:=[.nils,.nils,dI 0]) (w6 ..) rfl (fun it br=>?_)
  obtain⟨nbt,bK⟩:=Bw br
  obtain⟨n2t,bc⟩:=Bw bK
  simp only[List.set_cons_succ,List.set_cons_zero]
  generalize aF:Sig.set (Sig.set (Sig.set (Sig.set O i2 _) ib _) it _) ib _=S0
  have o0:S0 ib=some (.cells [mD none ([]:List CIns).length,.slice (cI []) (.tag it),dI 0]):=by rw[<-aF,w6];rfl
  have t0:S0 it=some (.tail 1 ([]:List Int).length):=by rw[<-aF,w7 _ _ nbt,w6];rfl
  have c0:S0 i2=some (.cells [.nils,.nils,dI 0]):=by rw[<-aF,w7 _ _ n2b.symm,w7 _ _ n2t.symm,w7 _ _ n2b.symm,w6]
  have s0:Sub O S0:=fun j x hj=>by
   have k1:=B8 hj cf
   have k2:=B8 hj aE
   have k3:=B8 hj bc
   rw[<-aF,w7 _ _ k2,w7 _ _ k3,w7 _ _ k2,w7 _ _ k1];exact hj
  have B0:BlkS ib (.slice (cI []) (.tag it)) (dI 0) none [] S0:=⟨o0,rfl,id⟩
  clear aF
  have b8:(Bf p).length=p.methods.length:=by unfold Bf;simp
  refine loop5 [1,2,3,5,17,18,40,41,42,43,44,45,46,47,48,49,50,51,52] (fun (j:Nat) (out:List CIns) (l:List Int) (st:MR) (S1:Sig)=>j<=p.methods.length/\l.length=j/\out++AN p 12 ((Bf p).drop j) out.length=AN p 12 (Bf p) 0/\l++(startsC p 12 ((Bf p).drop j) out.length).map (·.pos)=(startsC p 12 (Bf p) 0).map (·.pos)/\BlkS ib (.slice (cI l) (.tag it)) (dI 0) st out S1/\S1 it=some (.tail 1 l.length) /\ ¬Ga st it/\S1 i2=some (.cells [.nils,.nils,dI 0]) /\ ¬Ga st i2/\(∀k x,O k=some x->S1 k=some x /\ ¬Ga st k)) (fun j _ _ _ _=>[(19,dI j)]) (fun _ _ _ _ S1=>S1) (fun j _ _ _ _=>p.methods.length-j) (0) ([]) ([]) (none) (S0) (by exact⟨by omega,rfl,rfl,rfl,B0,t0,id,c0,id,fun k x hk=>⟨s0 _ _ hk,id⟩⟩) (fun j out l st S1 hI=>?_)
  obtain⟨hj,cP,hR,aR,hB,cB,cE,aQ,bY,hS⟩:=hI
  by_cases bb:j<p.methods.length
  ·have cK:(Bf p).drop j=⟨(p.methods[j]).node,(p.gens.getD (p.methods[j]).gen.toNat 0).toNat,JR p.methods[j]⟩::(Bf p).drop (j+1):=by
    rw[List.drop_eq_getElem_cons (by omega)];unfold Bf;simp
   have cy:=bV ⟨(p.methods[j]).node,(p.gens.getD (p.methods[j]).gen.toNat 0).toNat,JR p.methods[j]⟩ (by unfold bodsP;rw[List.mem_append];left;exact List.mem_map.2 ⟨p.methods[j],List.getElem_mem bb,rfl⟩)
   rw[cK]at hR aR
   have q1:=hB.env
   refine gz ?_ [] [2,15]
   refine mixI (id:=8) [0,1,2,3,4,5,6,7,8,9,10,11,12,13,14,15,16] [10,12,16] [5] [16] (fun s=> ∃a,s ib=some (.cells [a,.slice (cI l) (.tag it),dI 0])) ⟨_,q1⟩ ?_
   refine iP (.ptr ib 0) ?_
   refine iP (.ptr ib 0) ?_
   refine iP (.ptr ib 0) ?_
   refine iP (.ptr ib 0) ?_
   refine iP (.ptr ib 1) ?_
   refine iR (.slice (cI l) (.tag it)) (fun s ⟨a,hs⟩=>?_) ?_
   ·simp[hs]
   refine iP (.ptr ib 0) ?_
   refine iP (.agg (Ae p)) ?_
   refine iP _ ?_
   refine iP (dI (p.methods[j]).node) ?_
   have cQ:=congrArg List.length hR
   simp only[AN,List.length_append,Cw]at cQ
   refine iW (fun s=> ∃a,s ib=some (.cells [a,.slice (cI l) (.tag it),dI 0])) (Mz p _ hp 12 _ _ cy ib _ _ st out S1 ?_ hB) (fun d S2 hr=>?_) (fun d S2 hr=>by cases hr.1)
   ·have bN:(D2 p).ins.length=(AN p 12 (Bf p) 0).length+(bodyC p 12 p.main (Kq p)).length:=by unfold D2;rw[List.length_append]
    show out.length+cL p 12 (p.methods[j]).node<=1000000
    omega
   obtain⟨e2,st2,aB,am⟩:=hr
   cases e2
   have nbt':ib≠it:=fun e=>nbt e.symm
   obtain⟨cz,aW⟩:=am _ _ cB (fun e=>nbt e) cE
   obtain⟨bP,bF⟩:=am _ _ aQ (fun e=>n2b e.symm) bY
   refine⟨⟨_,aB.env⟩,?_⟩
   refine iP (.slice [[dI out.length]] .clip) ?_
   refine iE (d:=.slice (cI l++[[dI out.length]]) (.tag it)) (U':=S2.set it (.tail 1 (l.length+1))) (fun s=> ∃a,s ib=some (.cells [a,.slice (cI l) (.tag it),dI 0])) ⟨_,by rw[w7 _ _ nbt'];exact aB.env⟩ ?_ (he:=?_)
   rotate_left
   ·simp[cz];omega
   refine iP (.ptr ib 0) ?_
   refine iP (.ptr ib 0) ?_
   refine iP (.ptr ib 1) ?_
   refine iS (d:=.any) (U':=(S2.set it (.tail 1 (l.length+1))).set ib (.cells [mD st2 (out++bodyC p 12 (p.methods[j]).node out.length).length,.slice (cI l++[[dI out.length]]) (.tag it),dI 0])) (fun _=>True) trivial ?_ (he:=?_)
   rotate_left
   ·simp[aB.env,w7 _ _ nbt']
   refine iN ?_
   refine gz ?_ o18 [2,15]
   rw[AN]at hR
   rw[startsC]at aR
   generalize bh:Sig.set (Sig.set S2 it _) ib _=S3
   have o3:S3 ib=some (.cells [mD st2 (out++bodyC p 12 (p.methods[j]).node out.length).length,.slice (cI (l++[(out.length:Int)])) (.tag it),dI 0]):=by rw[<-bh,w6];simp[cI]
   have t3:S3 it=some (.tail 1 (l++[(out.length:Int)]).length):=by rw[<-bh,w7 _ _ nbt,w6,List.length_append];rfl
   have c3:S3 i2=some (.cells [.nils,.nils,dI 0]):=by rw[<-bh,w7 _ _ n2b.symm,w7 _ _ n2t.symm];exact bP
   have B3:BlkS ib (.slice (cI (l++[(out.length:Int)])) (.tag it)) (dI 0) st2 (out++bodyC p 12 (p.methods[j]).node out.length) S3:=⟨o3,aB.row.keep fun k x hk hr=>by
    rw[<-bh,w7 _ _ fun e=>aB.nr (by rw[<-e];exact hr),w7 _ _ fun e=>aW (by rw[<-e];exact hr)];exact hk,aB.nr⟩
   have s3:∀k x,O k=some x->S3 k=some x /\ ¬Ga st2 k:=fun k x hk=>by
    have k2:=B8 hk aE
    have k3:=B8 hk bc
    obtain⟨h1,h2⟩:=hS _ _ hk
    obtain⟨h3,h4⟩:=am k x h1 k2 h2
    exact⟨by rw[<-bh,w7 _ _ k2,w7 _ _ k3];exact h3,h4⟩
   exact⟨j+1,out++bodyC p 12 (p.methods[j]).node out.length,l++[(out.length:Int)],st2,S3,⟨by omega,by rw[List.length_append,cP];rfl,by rw[List.append_assoc,List.length_append,Cw];exact hR,by rw[List.append_assoc,List.length_append,Cw];exact aR,B3,t3,aW,c3,bF,s3⟩,td1,wkR⟩
  ·rw[List.drop_eq_nil_of_le (by omega),AN,List.append_nil]at hR
   rw[List.drop_eq_nil_of_le (by omega),startsC,List.map_nil,List.append_nil]at aR
   have cw:=bV ⟨p.main,0,false⟩ (by unfold bodsP;simp)
   have bN:(D2 p).ins=out++bodyC p 12 p.main out.length:=by unfold D2 Kq;rw[<-hR]
   have bO:=congrArg List.length bN
   rw[List.length_append,Cw]at bO
   have q1:=hB.env
   refine gz ?_ o18 [2,15]
   refine A7 (Mz p _ hp 12 _ _ cw ib _ _ st out S1 (show out.length+cL p 12 p.main<=1000000 by omega) hB) (fun d S2 hr=>?_) (fun d S2 hr=>by cases hr.1)
   obtain⟨e2,st2,aB,am⟩:=hr
   cases e2
   obtain⟨τ,hτ,hm,ac,du⟩:=aB.row.mS
   obtain⟨bP,bF⟩:=am _ _ aQ (fun e=>n2b e.symm) bY
   have k2:τ i2=some (.cells [.nils,.nils,dI 0]):=ac _ _ bP bF
   have kb:τ ib=some (.cells [mD st2 (out++bodyC p 12 p.main out.length).length,.slice (cI l) (.tag it),dI 0]):=ac _ _ aB.env aB.nr
   have kS:Sub O τ:=fun k x hk=>by
    have e1:=B8 hk aE
    obtain⟨h1,h2⟩:=hS _ _ hk
    obtain⟨h3,h4⟩:=am k x h1 e1 h2
    exact ac _ _ h3 h4
   rw[hτ]
   refine mfrC (i:=ib) [] [.slice (cI l) (.tag it),dI 0] ?_ (by rw[kb,List.length_map];rfl) hm
   simp only[List.nil_append]
   rw[<-bN]
   have n2b':=n2b.symm
   refine gf k2 ?_ o18 [2,15]
   have ag:(D2 p).starts=l:=aR.symm
   have cJ:(D2 p).main=out.length:=by unfold D2 Kq;rw[<-hR]
   refine finC (U':=O) (d:=.tup [.agg (cCPg (D2 p)),dI 0]) ⟨rfl,rfl⟩ (hZ:=(kS.set aE).set cf) (hw:=?_)
   unfold cCPg
   rw[ag,cJ]
   exact Di ⟨FU ⟨Ab _,C0 _ _,Ab _,trivial⟩,Ab _,trivial⟩
end Go.DL
namespace Go.DL
open Go.Proofs.Tryz
open Go Go.Proofs
set_option maxHeartbeats 80000000
@[simp] theorem cSt_len(s:CSt):(cSt s).length=3:=rfl
@[simp] theorem cSt_take(s:CSt):List.take 3 (cSt s)=cSt s:=rfl
@[simp] theorem mem_cSt(y:D)(s:CSt):y∈cSt s ↔ y=dI s.pos\/y=dI s.env\/y=.bool s.next:=by simp[cSt]
theorem TF(p:BProg)(c:CProg)(im:Nat)(s:CSt)(O:Sig):DCall prog 100 [cChk p c im,.agg (cSt s)] O (rS (.func (.func 169) [] [.cptr [cChk p c im] 0,.cptr (cSt s) 0]) O):=by
 refine en func100 ntmps100 ?_
 refine gz ?_
 exact fe1 trivial
@[reducible,instance] def a100:=fun p c im s O=>ah0 (@TF p c im s O)
theorem Mc: ∀(l:List Int) (n m:Int),Cc n l=some m->n<=m/\m<=n+l.length
 |[],n,m,h=>by rw[Cc]at h;cases h;simp
 | s::r,n,m,h=>by
  rw[Cc]at h
  split at h
  ·have:=Mc r _ _ h
   simp only[List.length_cons];omega
  ·cases h
theorem KV: ∀(cs:List BClass) (n m:Int),AJ n cs=some m->n<=m/\m<=n+4*cs.length
 |[],n,m,h=>by rw[AJ]at h;cases h;simp
 | c::r,n,m,h=>by
  rw[AJ]at h
  split at h
  ·cases h
  ·split at h
   ·cases h
   ·rename_i m1 h1
    have:=Mc _ _ _ h1
    have:=KV r _ _ h
    simp only[List.length_cons];omega
theorem UA{p:BProg}(h:okP p=true):0<=p.slots/\p.slots<=40:=by
 have h:=CY h
 unfold Ao at h
 simp only[Bool.and_eq_true,decide_eq_true_eq]at h
 obtain⟨dA,h⟩:=h
 split at h
 ·cases h
 ·rename_i n hn
  simp only[Bool.and_eq_true,decide_eq_true_eq]at h
  have:=KV _ _ _ hn
  omega
theorem Mn(p:BProg): ∀(l:List BMeth) (s s':List Int),Cr p l s=some s'->∀m∈l,0<=m.gen/\m.gen<p.gens.length
 |[],_,_,_,m,hm=>by cases hm
 | a::r,s,s',h,m,hm=>by
  rw[Cr]at h
  split at h
  ·rename_i aH
   rcases List.mem_cons.1 hm with rfl|hm
   ·simp only[GC,Bool.and_eq_true,decide_eq_true_eq]at aH
    exact aH.1.1.2
   ·split at h
    ·cases h
    ·exact Mn p r _ _ h m hm
  ·cases h
theorem gens_in{p:BProg}(h:okP p=true): ∀m∈p.methods,0<=m.gen/\m.gen<p.gens.length:=by
 unfold okP Db at h
 split at h
 ·cases hm:Cr p p.methods (List.replicate p.nodes.length (-1))with
  |none=>rw[hm]at h;simp at h
  |some s=>exact Mn p _ _ _ hm
 ·cases h
def LS(p:BProg)(c:CProg):Option MetL:=if Co p c.ins.length c.ins 0 then IF p c else none
def LkR(p:BProg)(c:CProg)(im:Nat)(O:Sig)(x:DE)(U':Sig):Prop:=Keep (· = im) O U'/\match LS p c with
 |none=>x=.panic unfC
 |some W=>x=.ret (.tup [])/\U' im=some (.map (eIL W))
theorem finMN{P:Program}{n:Nat}{fn:Func}{R:DE->Sig->Prop}{γ:Fr}{O U':Sig}{d d':D}(js:List Nat)(hR:R (.ret d') U')(hZ:Sub U' (dels js O))(hn:js.Nodup:=by simp)(hd:∀j∈js,O j=some .defs:=by simp)(h:resD fn γ=some d:=by exact tdR)(hw:WkD d d'): ∃s',Wk P n ⟨γ,O,js.map .coll⟩ s'/\Ql P n fn (Weak R) .normal s':=
 ⟨_,Wk.refl _ _ _,js,rfl,hn,hd,d,Dr h,.ret d',U',hw,hZ,hR⟩
theorem Ve (p:BProg) (c:CProg) (im:Nat) (O:Sig) (hp:p.wt<=1073741824) (hk:okP p=true) (hc:c.ins.length<=300) (ag:c.starts.length=p.methods.length) (hm:O im=some (.map (eIL []))):DCall prog 98 [.cptr (cCPg c) 0, .cptr [cChk p c im] 0, .cptr (Ae p) 0] O (LkR p c im O):=by
 obtain⟨p1,p2,p3,p4,p5,p6,p7⟩:=p.wt_le
 have bE:=UA hk
 have ci:=Eg hk
 obtain⟨g1,g2,g3,g4,g5⟩:=Dz hk
 have cT:=gens_in hk
 refine F2 func98 rfl (by decide) ntmps98 (by simp) ?_
 refine gz ?_ o98
 refine BU [0,1,2,5,6,7,8,10,11,12,13,14,16,17,28,29,30,31,32,33,34,35,36,37,38,39,40,41,42,43,44,45,46,47,48,49,50,51,52,53,54,55,56,57,58,59,60,61,62,63,64,65,66,67,68,69,70,71,72,73,74,75,76,77,78,79,80,81,82,83,84,85,86,87,88,89,90,91,92,93,94,95,96,97,98,99,100,101,102,103,104,105,106,107,108,109,110,111,112] (fun (q:Nat)=>q<=c.ins.length/\Co p c.ins.length c.ins 0=Co p c.ins.length (c.ins.drop q) q) (fun q=>[(18,dI q)]) (fun _=>O) (fun q=>c.ins.length-q) (0) (by exact⟨by omega,rfl⟩) (fun q hI=>?_)
 obtain⟨hq,hA⟩:=hI
 by_cases aX:q<c.ins.length
 ·rw[A4 aX,Co]at hA
  generalize hx:c.ins[q]=x at*
  repeat' first|refine gf hx ?_ o98|apply gy<;>intro hh
  ·rw[hh,Bool.true_and]at hA
   exact⟨q+1,⟨by omega,hA⟩,td1,wkR⟩
  ·rw[hh,Bool.false_and]at hA
   have hL:LS p c=none:=by unfold LS;rw[hA];rfl
   exact finMP [] (U':=O) ⟨Keep.refl _ _,by rw[hL]⟩ (Sub.refl _)
 ·rw [Aa aX,Co] at hA
  have cn:LS p c=IF p c:=by unfold LS;rw[hA];rfl
  have bD:stsQ p c=⟨c.main,0,false⟩::List.zipWith (Dl p) p.methods c.starts:=rfl
  refine gz ?_ o98
  clear aX hq
  refine Rn [0,1,2,10,11,12,13,14,33,34,68,69,70,71,72,73,74,75,76,77,78,79,80,81,82,83,84,85,86,87,88,89,90,91,92,93,94,95,96,97,98,99,100,101,102,103,104,105,106,107,108,109,110,111,112] (fun (q:Nat) (out:List CSt) (o:Own) (S1:Sig)=>q<=c.starts.length/\out.length=q+1/\out++List.zipWith (Dl p) (p.methods.drop q) (c.starts.drop q)=stsQ p c/\RowR 3 O S1 (out.map cSt) o) (fun q out o _=>[(35,dI q),(5,.slice (out.map cSt) o)]) (fun _ _ _ S1=>S1) (fun q _ _ _=>c.starts.length-q) (0) ([⟨c.main,0,false⟩]) (.clip) (O) (by exact⟨by omega,rfl,rfl,.inl ⟨rfl,rfl⟩⟩) (fun q out o S1 hI=>?_)
  obtain⟨hq,bG,hO,bi⟩:=hI
  by_cases aX:q<c.starts.length
  ·have bZ:q<p.methods.length:=by omega
   rw[A4 aX,A4 bZ,List.zipWith_cons_cons]at hO
   have dv:=cT _ (List.getElem_mem bZ)
   generalize b9:p.methods[q]=m at*
   have cV:p.gens.getD m.gen.toNat 0=p.gens[m.gen.toNat]'(by omega):=by rw[List.getD_eq_getElem?_getD,List.getElem?_eq_getElem (by omega)];rfl
   have b6:JR m=(decide (m.kind=1)||decide (m.kind=4)):=rfl
   have aT:Dl p m c.starts[q]=⟨c.starts[q],p.gens[m.gen.toNat]'(by omega),JR m⟩:=by unfold Dl;rw[cV]
   refine gf b9 ?_ (delO 10 o98)
   refine Gc (id:=10) [0,1,2,3,4,5,6,7,8,9,10,11,12,13,14,15,16,17,18,19,20,21] [20] O bi.sub ?_
   repeat' first|refine gf b9 ?_ o98|apply gy<;>intro hh
   ·have aO:cSt (Dl p m c.starts[q])=[dI c.starts[q],dI (p.gens[m.gen.toNat]'(by omega)),.bool true]:=by rw[aT,b6];simp[cSt,hh]
    refine W2 (sz:=3) bi (Sub.refl _) (fun j hj=>?_)
    have cu:WkD (.slice (out.map cSt++[[dI c.starts[q],dI (p.gens[m.gen.toNat]'(by omega)),.bool true]]) (.tag j)) (.slice ((out++[Dl p m c.starts[q]]).map cSt) (.tag j)):=C8 (by rw[<-aO];simp)
    refine gz ?_ o98
    exact⟨q+1,out++[Dl p m c.starts[q]],.tag j,O.set j (.tail 3 ((out++[Dl p m c.starts[q]]).map cSt).length),⟨by omega,by rw[List.length_append,bG];rfl,by rw[List.append_assoc];exact hO,.inr ⟨j,hj,rfl,rfl⟩⟩,td1,wkR⟩
   ·have aO:cSt (Dl p m c.starts[q])=[dI c.starts[q],dI (p.gens[m.gen.toNat]'(by omega)),.bool (decide (m.kind=4))]:=by rw[aT,b6];simp[cSt,hh]
    refine W2 (sz:=3) bi (Sub.refl _) (fun j hj=>?_)
    have cu:WkD (.slice (out.map cSt++[[dI c.starts[q],dI (p.gens[m.gen.toNat]'(by omega)),.bool (decide (m.kind=4))]]) (.tag j)) (.slice ((out++[Dl p m c.starts[q]]).map cSt) (.tag j)):=C8 (by rw[<-aO];simp)
    refine gz ?_ o98
    exact⟨q+1,out++[Dl p m c.starts[q]],.tag j,O.set j (.tail 3 ((out++[Dl p m c.starts[q]]).map cSt).length),⟨by omega,by rw[List.length_append,bG];rfl,by rw[List.append_assoc];exact hO,.inr ⟨j,hj,rfl,rfl⟩⟩,td1,wkR⟩
  ·rw [List.drop_eq_nil_of_le (by omega),List.drop_eq_nil_of_le (by omega),List.zipWith_nil_left,List.append_nil] at hO
   have cO:S1 im=some (.map (eIL [])):=bi.sub _ _ hm
   have de:Sub O S1:=bi.sub
   have cF:out.length<=17:=by omega
   have bL:∀s∈out,0<=s.env/\s.env<=1000:=fun s hs=>by
    rw[hO,bD]at hs
    rcases List.mem_cons.1 hs with rfl|hs
    ·simp
    ·obtain⟨k,ac,rfl⟩:=List.getElem_of_mem hs
     rw[List.getElem_zipWith]
     have:=ci (p.methods[k]'(by simp at ac;omega)).gen.toNat
     show 0<=p.gens.getD _ 0/\p.gens.getD _ 0<=1000
     omega
   have bk:MonoG (fun (O:Sig) (W:MetL)=>O im=some (.map (eIL W))):=fun O U' s hg hj=>hj _ _ hg rfl
   refine gz ?_ o98
   refine loopD4 [0,1,68,69,77,78,103,104,105,106,107,108,109,110,111,112] (fun (j:Nat) (W:MetL) (S2:Sig) (js:List Nat)=>j<=out.length/\allL p c out []=allL p c (out.drop j) W/\S2 im=some (.map (eIL W))/\Keep (· = im) O S2/\js.Nodup/\(∀i∈js,O i=none/\S2 i=some .defs)) (fun j _ _ _=>[(70,dI j)]) (fun _ _ S2 _=>S2) (fun _ _ _ js=>js.map .coll) (fun j _ _ _=>out.length-j) (0) ([]) (S1) ([]) (by exact⟨by omega,rfl,cO,fun k x hk _=>de _ _ hk,by simp,by simp⟩) (fun j W S2 js hI=>?_)
   obtain⟨hj,hR,hm2,am,bp,aL⟩:=hI
   by_cases bb:j<out.length
   ·rw [A4 bb,allL] at hR
    have cW:=bL _ (List.getElem_mem bb)
    generalize hs:out[j]=s at*
    refine gf hs ?_ o98
    have bd:∀i:Nat,i=im->S2 i≠none:=fun i hi=>by rw[hi,hm2];simp
    refine rangeG unfC (fun (O:Sig) (W:MetL)=>O im=some (.map (eIL W))) (· = im) (· = im) (BI p c s FD W) W (bk.indep _) bk.fresh hm2 bd bd rfl (fun l did LO SL bx hd hl bW dz bA cH=>?_) (fun did W' U' ho ar bM dn ba=>?_) (fun did U' ho ar bM ba=>?_)
    ·have dk:SL l=some LO:=bA.1
     have di:SL im=some (.map (eIL W)):=bA.2.1
     refine Te p c im s l _ _ _ FD hp hc hA ci cW (fun k lv S3 W3 aK au=>?_) SL W bA (fun a ha S3 W3 o au=>?_) cH (fun S3 W3 au=>au.2.2)
     ·have aZ:(S3.set l (CR LO)) im=some (.map (eIL W3)):=au.busy bx (bk.indep _) hl
      obtain⟨la,lz⟩:=lv
      have bT:∀x,Keep (· = im) (S3.set l (CR LO)) ((S3.set l (CR LO)).set im x):=fun x j y hj hn=>by rw[w7 _ _ hn];exact hj
      have cX:=fun (ag:FD k ⟨la,lz⟩ W3=some (putM (k:Int) ⟨la,lz⟩ W3))=>ag
      refine O0 bx au.1 ?_
      refine gz ?_ o98
      refine⟨au.1,?_⟩
      have co:=au.bad hl (fun j h=>h) (Keep.refl (· = im) (S3.set l (CR LO)))
      generalize cm:S3.set l (CR LO)=Sb at aZ bT co⊢
      cases hh:hasM (k:Int) W3 with
      |false=>
       have ag:FD k ⟨la,lz⟩ W3=some (putM (k:Int) ⟨la,lz⟩ W3):=by unfold FD;exact if_neg fun h=>by rw[hh]at h;cases h.1
       refine gf (gi aZ hh) ?_ o98
       exact endRN ag bx (bk.indep _) au bW hl (w6 ..) (by rw[cm];exact bT _)
      | true =>
       refine gf (gi aZ hh) ?_ o98
       refine eqlS _ (decide (getM ⟨0,0⟩ (k:Int) W3=(⟨la,lz⟩:CLev))) TL Rz (eqLev _ _) ?_
       by_cases he:getM ⟨0,0⟩ (k:Int) W3=(⟨la,lz⟩:CLev)
       ·have ag:FD k ⟨la,lz⟩ W3=some (putM (k:Int) ⟨la,lz⟩ W3):=by unfold FD;exact if_neg fun h=>h.2 he
        refine gf (gi aZ he) ?_ o98
        exact endRN ag bx (bk.indep _) au bW hl (w6 ..) (by rw[cm];exact bT _)
       ·have ag:FD k ⟨la,lz⟩ W3=none:=by unfold FD;exact if_pos ⟨hh,he⟩
        refine gf (gi aZ he) ?_ o98
        exact endRP ag co
     ·have e1:l≠a:=fun e=>by rw[<-e,dk]at ha;cases ha
      have e2:im≠a:=fun e=>by rw[<-e,di]at ha;cases ha
      refine⟨by rw[w7 _ _ e1];exact au.1,by show(S3.set a o) im=_;rw[w7 _ _ e2];exact au.2.1,fun j x hj hn=>?_⟩
      rw[w7 _ _ fun e=>?_]
      ·exact au.2.2 j x hj hn
      ·have:=bA.2.2 j x hj hn
       rw[e,ha]at this;cases this
    ·rw [ho] at hR
     simp only at hR
     refine gz ?_ o98
     have bJ:Keep (· = im) O U':=fun k x ac hn=>(ba k x (am k x ac hn) hn).1
     have bI:(did::js).Nodup:=List.nodup_cons.2 ⟨fun aD=>(by rw[(aL did aD).2]at ar;cases ar),bp⟩
     have bq:∀i∈did::js,O i=none/\U' i=some .defs:=fun i hi=>by
      rcases List.mem_cons.1 hi with rfl|hi
      ·refine⟨?_,bM⟩
       cases bS:O i with
       |none=>rfl
       |some x=>
        by_cases e:i=im
        ·rw[e,hm2]at ar;cases ar
        ·rw[am _ _ bS e]at ar;cases ar
      ·obtain⟨h1,h2⟩:=aL i hi
       exact⟨h1,(ba i _ h2 fun e=>by rw[e,hm2]at h2;cases h2).1⟩
     exact⟨j+1,W',U',did::js,⟨by omega,hR,dn,bJ,bI,bq⟩,td1,wkR⟩
    ·rw [ho] at hR
     simp only at hR
     have hL:LS p c=none:=by rw[cn];unfold IF;rw[<-hO,hR]
     have bJ:Keep (· = im) O U':=fun k x ac hn=>(ba k x (am k x ac hn) hn).1
     have bI:(did::js).Nodup:=List.nodup_cons.2 ⟨fun aD=>(by rw[(aL did aD).2]at ar;cases ar),bp⟩
     have bq:∀i∈did::js,O i=none/\U' i=some .defs:=fun i hi=>by
      rcases List.mem_cons.1 hi with rfl|hi
      ·refine⟨?_,bM⟩
       cases bS:O i with
       |none=>rfl
       |some x=>
        by_cases e:i=im
        ·rw[e,hm2]at ar;cases ar
        ·rw[am _ _ bS e]at ar;cases ar
      ·obtain⟨h1,h2⟩:=aL i hi
       exact⟨h1,(ba i _ h2 fun e=>by rw[e,hm2]at h2;cases h2).1⟩
     exact finMP (did::js) (U':=dels (did::js) U') ⟨fun k x ac hn=>by
      rw[LL _ U' k fun aD=>by rw[(bq k aD).1]at ac;cases ac];exact bJ k x ac hn,by rw[hL]⟩ (Sub.refl _) bI fun i hi=>(bq i hi).2
   ·rw[Aa bb,allL]at hR
    have hlen:(eIL W).length=W.length:=by unfold eIL eM;simp
    have hw:LS p c=if W.length=c.ins.length then some W else none:=by rw[cn];unfold IF;rw[<-hO,hR]
    have ck:Keep (· = im) O (dels js S2):=fun k x ac hn=>by
     rw[LL _ S2 k fun aD=>by rw[(aL k aD).1]at ac;cases ac];exact am k x ac hn
    have c9:(dels js S2) im=some (.map (eIL W)):=by
     rw[LL _ S2 im fun aD=>by rw[(aL im aD).1]at hm;cases hm];exact hm2
    by_cases he:W.length=c.ins.length
    ·rw[if_pos he]at hw
     refine gf (gi hm2 (gi hlen he)) ?_ o98
     exact finMN js (U':=dels js S2) (d':=.tup []) ⟨ck,by rw[hw];exact⟨rfl,c9⟩⟩ (Sub.refl _) bp (fun i hi=>(aL i hi).2) (hw:=Ab _)
    ·rw[if_neg he]at hw
     refine gf (gi hm2 (gi hlen he)) ?_ o98
     exact finMP js (U':=dels js S2) ⟨ck,by rw[hw]⟩ (Sub.refl _) bp fun i hi=>(aL i hi).2
def LokR(p:BProg)(c:CProg)(O:Sig)(x:DE)(U':Sig):Prop:=match C1 p c with
 |none=>x=.ret .nilp/\U'=O
 |some W=> ∃im,O im=none/\x=.ret (cChk p c im)/\U'=O.set im (.map (eIL W))
theorem MB(p:BProg)(c:CProg)(O:Sig)(hp:p.wt<=1073741824)(bu:c.ins.length<=1073741824)(aQ:c.starts.length<=1073741824):DCall prog 44 [.agg (Ae p),.agg (cCPg c)] O (LokR p c O):=by
 obtain⟨p1,p2,p3,p4,p5,p6,p7⟩:=p.wt_le
 refine en func44 ntmps44 ?_
 by_cases aw:okP p=true/\c.ins.length<=300/\c.starts.length=p.methods.length
 ·obtain⟨hk,aS,ag⟩:=aw
  have hL:C1 p c=LS p c:=by
   unfold C1 LS
   rw[hk,decide_eq_true aS,decide_eq_true ag]
   simp
  refine gf (gi hk ag) ?_
  refine newIL (fun im aM=>?_)
  refine gf (gi hk ag) ?_
  generalize aF:O.set im (.map (eIL []))=S0
  have aJ:S0 im=some (.map (eIL [])):=by rw[<-aF,w6]
  refine A7 (Vi 98 [.cptr (cCPg c) 0,.cptr [cChk p c im] 0,.cptr (Ae p) 0] S0 (fun S1=>LkR p c im S1) (fun i hi=>Ve p c im _ hp hk aS ag (by rw[w7 _ _ fun e=>by rw[<-e,aJ]at hi;cases hi];exact aJ)) (fun S1 d S2 h=>?_) (fun i S2 x hi h=>h.1 i _ (w6 ..) (fun e=>by rw[e,aJ]at hi;cases hi))) (fun d U' hr=>?_) (fun d U' hr=>?_)
  ·obtain⟨_,h⟩:=h
   split at h
   ·simpa using h
   ·exact absurd h.1 (by simp)
  ·obtain⟨i,S2,hi,rfl,hr⟩:=hr
   have cR:im≠i:=fun e=>by rw[<-e,aJ]at hi;cases hi
   have bC:∀(S3:Sig) (W:MetL),Keep (· = im) (S0.set i (.cells [.bool false])) S3->S3 im=some (.map (eIL W))->Sub (O.set im (.map (eIL W))) (S3.del i):=fun S3 W hK hW k x ac=>by
    by_cases e:k=im
    ·subst e
     rw[w6]at ac
     simp only[Sig.del,cR,if_false];rw[hW];exact ac
    ·rw[w7 _ _ e]at ac
     have e0:S0 k=some x:=by rw[<-aF,w7 _ _ e];exact ac
     have e2:k≠i:=fun e2=>by rw[e2,hi]at e0;cases e0
     simp only[Sig.del,e2,if_false]
     exact hK k x (by rw[w7 _ _ e2];exact e0) e
   rcases hr with⟨e,⟨hK,h⟩,h2⟩|⟨⟨hK,h⟩,h2⟩
   ·cases h2
    split at h
    ·cases h
    ·rename_i W hW
     obtain⟨_,cM⟩:=h
     refine gz ?_
     refine fin1 (U':=O.set im (.map (eIL W))) ?_ (hZ:=bC _ _ hK cM)
     unfold LokR;rw[hL,hW];exact⟨im,aM,rfl,rfl⟩
   ·cases h2
    split at h
    ·rename_i hW
     refine gz ?_
     refine fin1 (U':=O) (by unfold LokR;rw[hL,hW];exact⟨rfl,rfl⟩) (hZ:=fun k x ac=>?_)
     have e:=B8 ac aM
     have e0:S0 k=some x:=by rw[<-aF,w7 _ _ e];exact ac
     have e2:k≠i:=fun e2=>by rw[e2,hi]at e0;cases e0
     simp only[Sig.del,e2,if_false]
     exact hK k x (by rw[w7 _ _ e2];exact e0) e
    ·exact absurd h.1 (by simp)
  ·obtain⟨i,S2,hi,rfl,hr⟩:=hr
   rcases hr with⟨e,_,h2⟩|⟨_,h2⟩<;>cases h2
 ·have hL:C1 p c=none:=by
   unfold C1
   exact if_neg fun h=>by
    simp only[Bool.and_eq_true,decide_eq_true_eq]at h
    exact aw ⟨h.1,h.2.1,h.2.2.1⟩
  repeat' first|refine gz ?_|apply gy<;>intro hh
  all_goals first|exact fin1 (U':=O) (by unfold LokR;rw[hL];exact⟨rfl,rfl⟩)|exact absurd ⟨by assumption,by omega,by omega⟩ aw
def Ev(c:CProg)(W:MetL):List CLev:=(List.range c.ins.length).map fun k:Nat=>getM ⟨0,0⟩ (k:Int) W
theorem OW(p:BProg)(c:CProg)(O:Sig)(hp:p.wt<=1073741824)(bu:c.ins.length<=1073741824)(aQ:c.starts.length<=1073741824):DCall prog 25 [.agg (Ae p),.agg (cCPg c)] O (rS (.tup [sl (((C1 p c).map (Ev c)).getD [] |>.map cLev),dI (if(C1 p c).isSome then 0 else 2)]) O):=by
 refine en func25 ntmps25 ?_
 refine gz ?_
 refine A7 (MB p c O hp bu aQ) (fun d U' hr=>?_) (fun d U' hr=>?_)
 ·unfold LokR at hr
  cases hL:C1 p c with
  |none=>
   rw[hL]at hr
   obtain⟨e,rfl⟩:=hr
   cases e
   refine gz ?_
   refine fin2 (U':=U') (d':=sl []) (e':=dI 2) ⟨rfl,rfl⟩ (hw:=?_)
   exact Ak _ (.inl rfl)
  | some W =>
   rw[hL]at hr
   obtain⟨im,aM,e,rfl⟩:=hr
   cases e
   have aJ:(O.set im (.map (eIL W))) im=some (.map (eIL W)):=w6 ..
   have aG:Sub O (O.set im (.map (eIL W))):=(Sub.refl _).set aM
   generalize O.set im (.map (eIL W))=S0 at aJ aG
   refine gz ?_
   refine Eh 7 2 (fun it br=>?_)
   have nit:im≠it:=B8 aJ br
   refine BS [4,5,6,16,30] (fun (k:Nat) (out:List CLev)=>k<=c.ins.length/\out=(List.range k).map fun k:Nat=>getM ⟨0,0⟩ (k:Int) W) (fun k out=>[(17,dI k),(7,.slice (out.map cLev) (.tag it))]) (fun _ out=>S0.set it (.tail 2 out.length)) (fun k _=>c.ins.length-k) (0) ([]) (by exact⟨by omega,rfl⟩) (fun k out hI=>?_)
   obtain⟨hk,hO⟩:=hI
   have bG:out.length=k:=by rw[hO];simp
   by_cases aK:k<c.ins.length
   ·refine gf (gi aJ nit) ?_
    exact⟨k+1,out++[getM ⟨0,0⟩ (k:Int) W],⟨by omega,by rw[List.range_succ,List.map_append,<-hO];rfl⟩,td1,wkR⟩
   ·have aP:k=c.ins.length:=by omega
    have dh:out=Ev c W:=by rw[hO,aP];rfl
    refine gz ?_
    refine fin2 (U':=O) (d':=sl ((Ev c W).map cLev)) (e':=dI 0) ⟨rfl,rfl⟩ (hZ:=aG.set (aG.none br)) (hw:=?_)
    rw[dh];exact C0 _ _
 ·unfold LokR at hr
  split at hr
  ·cases hr.1
  ·obtain⟨_,_,h,_⟩:=hr;cases h
end Go.DL
namespace Go.DL
open Go.Proofs.Tryz
open Go Go.Proofs
set_option maxHeartbeats 8000000
def EA(h:GoH):List D:=[dI h.kind,dI h.val.kind,dI h.val.n,dI h.gen,sl (h.args.map cVal),dI h.fin,dI h.pos,sl (h.stk.map cVal),sl (h.env.map cVal),sl (h.objs.map cTh),sl (h.evs.map cEv)]
def JX:GoH:=⟨0,vZ,0,[],0,0,[],[],[],[]⟩
abbrev cFr(pos:Int)(stk env:List MVal):List D:=[dI pos,sl (stk.map cVal),sl (env.map cVal)]
theorem E1:WkD (.agg [dI 0,dI 0,dI 0,dI 0,.nils,dI 0,dI 0,.nils,.nils,.nils,.nils]) (.agg (EA JX)):=
 FU ⟨Ab _,Ab _,Ab _,Ab _,Ak _ (.inl rfl),Ab _,Ab _,Ak _ (.inl rfl),Ak _ (.inl rfl),Ak _ (.inl rfl),Ak _ (.inl rfl),trivial⟩
theorem L5{n:Nat}{γ:Fr}{df:List DDf}{O:Sig}{i:Nat}{xs ys:List D}{d d':D}(hi:O i=some (.cells (xs++d::ys)))(h:WkD d d'): ∃U',Wk prog n ⟨γ,O,df⟩ ⟨γ,U',df⟩/\U' i=some (.cells (xs++d'::ys)) /\ ∀j o,O j=some o->j≠i->U' j=some o:=
 ⟨_,Fe hi h,w6 .., fun j o hj ak=>by rw[w7 _ _ ak];exact hj⟩
section
variable {ir:Nat}{p:BProg}{R:Nat->RW}{s:GoS}{O:Sig}
theorem haltFz{n:Nat}{γ:Fr}{df:List DDf}{av:D}{b:Bool}{h:GoH}(hH:HaltS ir p R s av b h O): ∃U' tl,Wk prog n ⟨γ,O,df⟩ ⟨γ,U',df⟩/\U' ir=some (.cells (EA h++tl)) /\ ∀j o,O j=some o->j≠ir->(∀a, ¬(R a).is j)->U' j=some o:=by
 obtain⟨aY,ae,aA,b7,aN,aI,bf,ag⟩:=hH
 have dj:∀{a b:Nat},a≠b->∀{j:Nat},(R a).is j->¬(R b).is j:=fun {a b} da {j} ha hb=>da (ae.dj a b j ha hb)
 have nir:∀{a j:Nat},(R a).is j->j≠ir:=fun {a j} h e=>aA a (e ▸ h)
 cases b with
 |false=>
  obtain⟨e1,e2,e3⟩:=ag
  obtain⟨S1,w1,o1,k1⟩:=NV (n:=n) (γ:=γ) (df:=df) (a0:=[dI h.kind,dI h.val.kind,dI h.val.n,dI h.gen,av,dI h.fin,dI 0,.nils,.nils]) (b0:=(R 2).d s.evs.length::(Ae p++[dI s.pos,(R 0).d s.stk.length,(R 1).d s.env.length])) ae aA (b7 3) (by rw[aY];rfl)
  have q2:RWAt S1 3 (R 2) (s.evs.map cEv):=(ae.ok 2).keep fun j o hj ai=>k1 j o hj (nir ai) fun q hq=>dj (by omega) ai
  obtain⟨S2,w2,o2,k2⟩:=BT (P:=prog) (n:=n) (γ:=γ) (df:=df) (i:=ir) (az:=[dI h.kind,dI h.val.kind,dI h.val.n,dI h.gen,av,dI h.fin,dI 0,.nils,.nils,.slice (s.objs.map cTh) .no]) (bs:=Ae p++[dI s.pos,(R 0).d s.stk.length,(R 1).d s.env.length]) q2 (by rw[o1,List.length_map];rfl) (aA 2)
  obtain⟨S3,w3,o3,k3⟩:=L5 (n:=n) (γ:=γ) (df:=df) (xs:=[dI h.kind,dI h.val.kind,dI h.val.n,dI h.gen]) (ys:=[dI h.fin,dI 0,.nils,.nils,.slice (s.objs.map cTh) .no,.slice (s.evs.map cEv) .no]++(Ae p++[dI s.pos,(R 0).d s.stk.length,(R 1).d s.env.length])) o2 aN
  obtain⟨S4,w4,o4,k4⟩:=L5 (n:=n) (γ:=γ) (df:=df) (xs:=[dI h.kind,dI h.val.kind,dI h.val.n,dI h.gen,sl (h.args.map cVal),dI h.fin,dI 0]) (ys:=[.nils,.slice (s.objs.map cTh) .no,.slice (s.evs.map cEv) .no]++(Ae p++[dI s.pos,(R 0).d s.stk.length,(R 1).d s.env.length])) o3 (Ak .no (.inl rfl))
  obtain⟨S5,w5,o5,k5⟩:=L5 (n:=n) (γ:=γ) (df:=df) (xs:=[dI h.kind,dI h.val.kind,dI h.val.n,dI h.gen,sl (h.args.map cVal),dI h.fin,dI 0,sl []]) (ys:=[.slice (s.objs.map cTh) .no,.slice (s.evs.map cEv) .no]++(Ae p++[dI s.pos,(R 0).d s.stk.length,(R 1).d s.env.length])) o4 (Ak .no (.inl rfl))
  refine⟨S5,Ae p++[dI s.pos,(R 0).d s.stk.length,(R 1).d s.env.length],(((w1.trans w2).trans w3).trans w4).trans w5,?_,fun j o hj ak hn=>k5 j o (k4 j o (k3 j o (k2 j o (k1 j o hj ak fun q _=>hn q) ak (hn 2)) ak) ak) ak⟩
  rw[o5,EA,e1,e2,e3,aI,bf];rfl
 | true =>
  obtain⟨e1,e2,e3⟩:=ag
  obtain⟨S1,w1,o1,k1⟩:=NV (n:=n) (γ:=γ) (df:=df) (a0:=[dI h.kind,dI h.val.kind,dI h.val.n,dI h.gen,av,dI h.fin,dI s.pos,(R 0).d s.stk.length,(R 1).d s.env.length]) (b0:=(R 2).d s.evs.length::(Ae p++[dI s.pos,(R 0).d s.stk.length,(R 1).d s.env.length])) ae aA (b7 3) (by rw[aY];rfl)
  have q2:RWAt S1 3 (R 2) (s.evs.map cEv):=(ae.ok 2).keep fun j o hj ai=>k1 j o hj (nir ai) fun q hq=>dj (by omega) ai
  obtain⟨S2,w2,o2,k2⟩:=BT (P:=prog) (n:=n) (γ:=γ) (df:=df) (i:=ir) (az:=[dI h.kind,dI h.val.kind,dI h.val.n,dI h.gen,av,dI h.fin,dI s.pos,(R 0).d s.stk.length,(R 1).d s.env.length,.slice (s.objs.map cTh) .no]) (bs:=Ae p++[dI s.pos,(R 0).d s.stk.length,(R 1).d s.env.length]) q2 (by rw[o1,List.length_map];rfl) (aA 2)
  have q0:RWAt S2 2 (R 0) (s.stk.map cVal):=(ae.ok 0).keep fun j o hj ai=>k2 j o (k1 j o hj (nir ai) fun q hq=>dj (by omega) ai) (nir ai) (dj (by decide) ai)
  obtain⟨S3,w3,o3,k3⟩:=BT (P:=prog) (n:=n) (γ:=γ) (df:=df) (i:=ir) (az:=[dI h.kind,dI h.val.kind,dI h.val.n,dI h.gen,av,dI h.fin,dI s.pos]) (bs:=[(R 1).d s.env.length,.slice (s.objs.map cTh) .no,.slice (s.evs.map cEv) .no]++(Ae p++[dI s.pos,(R 0).d s.stk.length,(R 1).d s.env.length])) q0 (by rw[o2,List.length_map];rfl) (aA 0)
  have q1:RWAt S3 2 (R 1) (s.env.map cVal):=(ae.ok 1).keep fun j o hj ai=>k3 j o (k2 j o (k1 j o hj (nir ai) fun q hq=>dj (by omega) ai) (nir ai) (dj (by decide) ai)) (nir ai) (dj (by decide) ai)
  obtain⟨S4,w4,o4,k4⟩:=BT (P:=prog) (n:=n) (γ:=γ) (df:=df) (i:=ir) (az:=[dI h.kind,dI h.val.kind,dI h.val.n,dI h.gen,av,dI h.fin,dI s.pos,.slice (s.stk.map cVal) .no]) (bs:=[.slice (s.objs.map cTh) .no,.slice (s.evs.map cEv) .no]++(Ae p++[dI s.pos,(R 0).d s.stk.length,(R 1).d s.env.length])) q1 (by rw[o3,List.length_map];rfl) (aA 1)
  have w5:=Fe (P:=prog) (n:=n) (γ:=γ) (df:=df) (az:=[dI h.kind,dI h.val.kind,dI h.val.n,dI h.gen]) (bs:=[dI h.fin,dI s.pos,.slice (s.stk.map cVal) .no,.slice (s.env.map cVal) .no,.slice (s.objs.map cTh) .no,.slice (s.evs.map cEv) .no]++(Ae p++[dI s.pos,(R 0).d s.stk.length,(R 1).d s.env.length])) (d:=av) o4 aN
  refine⟨_,Ae p++[dI s.pos,(R 0).d s.stk.length,(R 1).d s.env.length],(((w1.trans w2).trans w3).trans w4).trans w5,?_,fun j o hj ak hn=>?_⟩
  ·rw[w6,EA,e1,e2,e3,aI,bf];rfl
  ·rw[w7 _ _ ak]
   exact k4 j o (k3 j o (k2 j o (k1 j o hj ak fun q _=>hn q) ak (hn 2)) ak (hn 0)) ak (hn 1)
theorem haltD{ro:Ro}{n:Nat}{Q:DX->St->Prop}{c:Code}{γ:Fr}{df:List DDf}{av:D}{b:Bool}{h:GoH}(hH:HaltS ir p R s av b h O)
  (k:∀U' tl,U' ir=some (.cells (EA h++tl))->(∀j o,O j=some o->j≠ir->(∀a, ¬(R a).is j)->U' j=some o)->DWp prog ro n c Q ⟨γ,U',df⟩):DWp prog ro n c Q ⟨γ,O,df⟩:=by
 obtain⟨S2,tl,w,a,b⟩:=haltFz (n:=n) (γ:=γ) (df:=df) hH
 exact FJ w (k S2 tl a b)
def R01(r0 r1:RW):Nat->RW:=updF (updF (fun _=>.nil) 0 r0) 1 r1
theorem RunS.init{S1 S2:Sig}{r0 r1:RW}{stk env:List MVal}{pos:Int}(h0:FrV O r0 stk S1)(h1:FrV S1 r1 env S2)(hi:S2 ir=none):RunS ir p (R01 r0 r1) ⟨[],[],pos,stk,env⟩ (S2.set ir (.cells (AO p (R01 r0 r1) ⟨[],[],pos,stk,env⟩))):=by
 have a:Rows O (fun _=>RW.nil) rSz (fun _=>[]):=⟨fun _=>rfl,fun _ _ _ h=>h.elim⟩
 have b:Rows S1 (updF (fun _=>RW.nil) 0 r0) rSz (updF (fun _=>[]) 0 (stk.map cVal)):=a.upd (a:=0) h0.1 h0.2.1
 have c:=b.upd (a:=1) (r':=r1) (es':=env.map cVal) (U':=S2) h1.1 (by rw[A8 _ _ (by omega)];exact h1.2.1)
 have d:=c.retell (ct':=rCt (R01 r0 r1) ⟨[],[],pos,stk,env⟩) fun a=>by
  match a with
  |0=>rw[A8 _ _ (by omega),Aj];rfl
  |1=>rw[Aj];rfl
  |2=>rw[A8 _ _ (by omega),A8 _ _ (by omega)];rfl
  |3=>rw[A8 _ _ (by omega),A8 _ _ (by omega)];rfl
  |k+4=>rw[A8 _ _ (by omega),A8 _ _ (by omega)];simp[rCt]
 have aA:∀a, ¬(R01 r0 r1 a).is ir:=fun a ha=>by
  obtain⟨z,hz⟩:=(d.ok a).cells ha
  rw[hi]at hz;cases hz
 refine⟨w6 .., d.keep fun j o hj ⟨b,hb⟩=>by rw[w7 _ _ fun e=>aA b (by rw[<-e];exact hb)];exact hj,aA,fun a es ha=>?_⟩
 unfold R01 at ha
 by_cases e1:a=1
 ·subst e1;rw[Aj]at ha;exact h1.2.2 es ha
 ·rw[A8 _ _ e1]at ha
  by_cases e0:a=0
  ·subst e0;rw[Aj]at ha;exact h0.2.2 es ha
  ·rw[A8 _ _ e0]at ha;cases ha
theorem Us{ds:List D}{r:RW}{n k:Nat}(h:O ir=some (.cells ds))(hl:k<ds.length):Ei tab O 31 (.ptr ir k) (r.d n)=some (.any,O.set ir (.cells (ds.take k++[r.d n]++ds.drop (k+1)))):=by
 have hf:¬ds.length<k+1:=by omega
 cases r<;>simp[Ei,h,RW.d,hf]
theorem storeRw{ro:Ro}{n:Nat}{ops:Array Oper}{Q:DX->St->Prop}{df:List DDf}{rest:List Oper}{γ Sr:Fr}{ty:TypeId}{pos:String}{after:Array Edge}{x y:Operand}{ds:List D}{r:RW}{m k:Nat}(hc:O ir=some (.cells ds))(h:DOps prog ro n ops Q rest ⟨γ,O.set ir (.cells (ds.take k++[r.d m]++ds.drop (k+1))),df⟩)
  (hl:A3 γ (A9 [x,y])=some Sr:=by exact tdR) (h1:ev Sr x=.ptr ir k:=by exact tdR) (h2:ev Sr y=r.d m:=by exact tdR) (hlen:k<ds.length:=by simp) :
  DOps prog ro n ops Q (⟨none,.store 31 x y,ty,pos,after,none⟩::rest) ⟨γ,O,df⟩:=
 Ej Af (d:=.any) hl (by show Ei tab O 31 (ev Sr x) (ev Sr y)=_;rw[h1,h2];exact Us hc hlen) h
end
section
variable {ro:Ro}{n:Nat}{ops:Array Oper}{N:Nat}{S0:Sig}{Q:DX->St->Prop}{df:List DDf}{γ Sr:List (Nat×D)}{O:Sig}{t:Nat}{ty:TypeId}{pos:String}{after:Array Edge}{e1:Bool}{l:List (Bool×Oper)}
theorem moRr(d:D){op:Op}(h:MO prog ro n ops N S0 Q df l ((t,d)::γ) O)(hr:DO op=true:=by rfl)(bn:decide (t<n)=true:=by exact tdR)(hl:A3 γ (A9 op.operands.toList)=some Sr:=by exact tdR)(hd:dopX tab Sr S0 op=some d:=by first|with_unfolding_all rfl|(simp;done)|(simp;rfl)):MO prog ro n ops N S0 Q df ((e1,⟨some t,op,ty,pos,after,none⟩)::l) γ O:=
 Lt Af hr bn hl hd h
theorem moBox{T:Nat}{x:Operand}(cs:List D)(h:∀i,O i=none->MO prog ro n ops N S0 Q df l ((t,.ptr i 0)::γ) (O.set i (.cells cs)))(hl:A3 γ (A9 [x])=some Sr:=by exact tdR)(hc:(ev Sr x).cells=cs:=by exact tdR)(ht:(ev Sr x).told=true:=by exact tdR)(bn:decide (t<n)=true:=by exact tdR)(hC:Sub S0 O:=by first|exact Sub.refl _|assumption):
  MO prog ro n ops N S0 Q df ((true,⟨some t,.box T x,ty,pos,after,none⟩)::l) γ O:=
 mo1 (fun U2 hx=>by
  have e:ev U2 x=ev Sr x:=by rw[hx x (by simp[Op.operands]),Cx hl]
  exact dops_box (by rw[e];exact ht) (by simpa using bn) (fun i hi=>Ax ⟨rfl,by simp only[A6,if_true];rw[e,hc];exact⟨hC.set (hC.none hi),h i hi⟩⟩)) bn
end
def UW(s:GoS)(r:GoS ⊕ GoH):Prop:= ∀t,r=.inl t->t.stk.length<=s.stk.length+1/\t.env.length<=s.env.length+1/\t.evs.length<=s.evs.length+1
theorem len_ite{s:GoS}{c:Prop}[Decidable c]{a b:GoS ⊕ GoH}(h1:UW s a)(h2:UW s b):UW s (if c then a else b):=by split<;>assumption
theorem Mi{p:BProg}{w:CWorld}{x:CIns}{s t:GoS}(h:Gd p w x s=.inl t):t.stk.length<=s.stk.length+1/\t.env.length<=s.env.length+1/\t.evs.length<=s.evs.length+1:=by
 have key:UW s (Gd p w x s):=by
  rw[Gd]
  repeat' (refine len_ite ?_ ?_)
  all_goals
   intro t h
   first|(cases h;done)|(cases h;simp only[List.length_append,List.length_dropLast,List.length_singleton];omega)
 exact key t h
theorem actAt{j:Nat}(h1:1<=j)(h2:j<=21):cActs[j]? = some (.func (.func (actF j)) [] []):=by
 have h:j=1\/j=2\/j=3\/j=4\/j=5\/j=6\/j=7\/j=8\/j=9\/j=10\/j=11\/j=12\/j=13\/j=14\/j=15\/j=16\/j=17\/j=18\/j=19\/j=20\/j=21:=by omega
 rcases h with rfl|rfl|rfl|rfl|rfl|rfl|rfl|rfl|rfl|rfl|rfl|rfl|rfl|rfl|rfl|rfl|rfl|rfl|rfl|rfl|rfl<;>rfl
theorem OF(c:CProg)(W:MetL){k:Nat}(hk:k<c.ins.length):(Ev c W)[k]? = some (getM ⟨0,0⟩ (k:Int) W):=by
 unfold Ev;rw[List.getElem?_map,List.getElem?_range hk];rfl
theorem OE(c:CProg)(W:MetL):(Ev c W).length=c.ins.length:=by unfold Ev;simp
theorem EP(p:BProg)(c:CProg):CZ p c=(C1 p c).map (Ev c):=by rw[<-Rt,PE];rfl
theorem fits_rg{p:BProg}{N q:Nat}{x:CIns}(aj:fitsC p N q x=true):1<=x.op/\x.op<=21:=by
 unfold fitsC at aj
 refine Classical.byContradiction fun h=>?_
 rw[if_neg (by omega),if_neg (by omega),if_neg (by omega),if_neg (by omega),if_neg (by omega),if_neg (by omega)]at aj
 simp at aj
 omega
theorem QV{p:BProg}{w:CWorld}{c:CProg}{m:Met}{nx:Bool}(hg:∀n:Nat,0<=p.gens.getD n 0)(hw:WldOK p w)(hL:LevOK p c m nx){s:GoS}(hs:GInv w m s):mRun p w c c.ins.length s=match Gd p w (Ay c s.pos.toNat) { s with pos:=s.pos+1 } with
  |.inl t=>mRun p w c c.ins.length t
  |.inr h=>h:=by
 rw[Mk hg hw hL c.ins.length (c.ins.length+1) s hs (by omega) (by omega),mRun]
 rfl
@[simp] theorem cActs_len:cActs.length=22:=rfl
@[simp] theorem cActs_all:cActs.all D.flat=true:=rfl
@[simp] theorem cActs_tk:List.take 22 cActs=cActs:=rfl
theorem RunS.newO{ir:Nat}{p:BProg}{R:Nat->RW}{s:GoS}{O:Sig}(h:RunS ir p R s O){i:Nat}(hi:O i=none)(o:DObj):RunS ir p R s (O.set i o):=by
 have hn:∀j x,O j=some x->j≠i:=fun j x hj e=>by rw[e,hi]at hj;cases hj
 exact⟨by rw[w7 _ _ (hn _ _ h.obj)];exact h.obj,h.rows.keep fun j x hj _=>by rw[w7 _ _ (hn j x hj)];exact hj,h.ni,h.nf⟩
theorem Hm (p:BProg) (c:CProg) (objs:List MThing) (pos:Int) (stk env:List MVal) (o1:Own) (O:Sig) (hp:p.wt<=1073741824) (bu:c.ins.length<=1073741824) (aQ:c.starts.length<=1073741824) (cG:objs.length<=1000000) (bE : ∀ x ∈ objs,x.slots.length<=1000000) (dp:stk.length<=900000) (dw:env.length<=900000) :
  DCall prog 13 [.agg (Ae p),.agg (cCPg c),.slice (objs.map cTh) o1,.agg (cFr pos stk env)] O (rS (.tup [.agg (EA ((goC p (A2 p) c objs pos stk env).getD JX)),dI (if(goC p (A2 p) c objs pos stk env).isSome then 0 else 2)]) O):=by
 have cb:=EP p c
 have ap:=fun O:Sig=>LE p objs o1 O hp (by omega) (fun x hx=>by have:=bE x hx;omega)
 obtain⟨H,hH⟩:∃H,H=goC p (A2 p) c objs pos stk env:=⟨_,rfl⟩
 rw[<-hH]
 refine en func13 ntmps13 ?_
 refine gz ?_ o13 [8]
 refine newV (fun i8 be=>?_)
 have o8:(O.set i8 (.cells [dI 0,dI 0,dI 0,dI 0,.nils,dI 0,dI 0,.nils,.nils,.nils,.nils])) i8=_:=w6 ..
 have bw:Sub O (O.set i8 (.cells [dI 0,dI 0,dI 0,dI 0,.nils,dI 0,dI 0,.nils,.nils,.nils,.nils])):=(Sub.refl _).set be
 generalize O.set i8 (.cells [dI 0,dI 0,dI 0,dI 0,.nils,dI 0,dI 0,.nils,.nils,.nils,.nils])=Sa at*
 refine gz ?_ o13 [8]
 refine A7 (MB p c Sa hp bu aQ) (fun d U' hr=>?_) (fun d U' hr=>?_)
 rotate_left
 ·unfold LokR at hr
  split at hr
  ·cases hr.1
  ·obtain⟨_,_,h,_⟩:=hr;cases h
 unfold LokR at hr
 cases hL:C1 p c with
 |none=>
  rw[hL]at hr
  obtain⟨e,rfl⟩:=hr
  cases e
  have hn:H=none:=by rw[hH];unfold goC;rw[cb,hL];rfl
  refine gf o8 ?_ o13 [8]
  refine finC (U':=O) (d:=.tup [.agg (EA JX),dI 2]) ⟨by rw[hn];rfl,rfl⟩ (hw:=?_) (hZ:=?_)
  ·exact Di ⟨E1,Ab _,trivial⟩
  ·exact fun j o hj=>by rw[w7 _ _ (B8 hj be)];exact bw j o hj
 | some W =>
  rw[hL]at hr
  obtain⟨im,aM,e,rfl⟩:=hr
  cases e
  have n8m:i8≠im:=B8 o8 aM
  have om:(Sa.set im (.map (eIL W))) im=some (.map (eIL W)):=w6 ..
  have o8':=(w7 Sa (.map (eIL W)) n8m).trans o8
  have aG:Sub O (Sa.set im (.map (eIL W))):=bw.set (bw.none aM)
  generalize Sa.set im (.map (eIL W))=S0 at*
  clear o8 bw aM
  have ca:CZ p c=some (Ev c W):=by rw[cb,hL];rfl
  obtain⟨aH,hlen,ay⟩:=Mp ca
  have aS:c.ins.length<=300:=by
   unfold C1 at hL
   split at hL
   ·rename_i h;simp only[Bool.and_eq_true,decide_eq_true_eq]at h;exact h.2.1
   ·cases hL
  have bt:H=if AQ (A2 p) objs&&GH (Ev c W) objs.length pos stk env then some (mRun p (A2 p) c c.ins.length ⟨objs,[],pos,stk,env⟩) else none:=by rw[hH];unfold goC;rw[ca]
  by_cases hg:(AQ (A2 p) objs&&GH (Ev c W) objs.length pos stk env)=true
  rotate_left
  ·have hn:H=none:=by rw [bt,if_neg hg]
   have fin0:∀z,Sub O (S0.set i8 z):=fun z j o hj=>by rw[w7 _ _ (B8 hj be)];exact aG j o hj
   have fin1:∀i z1 z2,S0 i=none->Sub O ((S0.set i z1).set i8 z2):=fun i z1 z2 hi j o hj=>by rw[w7 _ _ (B8 hj be),w7 _ _ (B8 (aG j o hj) hi)];exact aG j o hj
   have bQ:AQ (A2 p) objs=false\/(AQ (A2 p) objs=true/\(pos < 0\/(c.ins.length:Int)<=pos))\/(AQ (A2 p) objs=true /\ ∃ k:Nat,pos=k/\k < c.ins.length/\((stk.length:Int) ≠ (getM ⟨0,0⟩ (k:Int) W).st\/((stk.length:Int)=(getM ⟨0,0⟩ (k:Int) W).st/\(env.length:Int) ≠ (getM ⟨0,0⟩ (k:Int) W).env)\/((stk.length:Int)=(getM ⟨0,0⟩ (k:Int) W).st/\(env.length:Int)=(getM ⟨0,0⟩ (k:Int) W).env/\(okVs objs.length stk=false\/(okVs objs.length stk=true/\okVs objs.length env=false))))):=by
    cases hO:AQ (A2 p) objs with
    |false=>exact .inl rfl
    | true =>
     refine .inr ?_
     rw[hO,Bool.true_and]at hg
     by_cases h0:pos<0\/(c.ins.length:Int)<=pos
     ·exact .inl ⟨rfl,h0⟩
     obtain⟨k,hk⟩:∃k:Nat,pos=k:=⟨pos.toNat,by omega⟩
     have aK:k<c.ins.length:=by omega
     refine .inr ⟨rfl,k,hk,aK,?_⟩
     subst hk
     unfold GH at hg
     rw[OE,Int.toNat_natCast,OF c W aK,Option.getD_some]at hg
     by_cases a1:(stk.length:Int)=(getM ⟨0,0⟩ (k:Int) W).st
     ·refine .inr ?_
      by_cases a2:(env.length:Int)=(getM ⟨0,0⟩ (k:Int) W).env
      ·refine .inr ⟨a1,a2,?_⟩
       cases a3:okVs objs.length stk with
       |false=>exact .inl rfl
       |true=>
        cases a4:okVs objs.length env with
        |false=>exact .inr ⟨rfl,rfl⟩
        |true=>exact absurd (by rw[a3,a4,decide_eq_true (by omega)];rfl) hg
      ·exact .inl ⟨a1,a2⟩
     ·exact .inl a1
   rcases bQ with hO|⟨hO,h0|h0⟩|⟨hO,k,rfl,aK,a|⟨a1,a2⟩|⟨a1,a2,a3|⟨a3,a4⟩⟩⟩
   ·have ah:(okP p&&AQ (A2 p) objs)=false:=by rw[hO];simp
    repeat' first|refine gf (gi ah o8') ?_ [] [8]|refine BX (ap _) ?_|refine callPG (ap _) ?_|refine gf (gi ah o8') ?_ o13 [8]|apply gy<;>intro hh
    refine finC (U':=O) (d:=.tup [.agg (EA JX),dI 2]) ⟨by rw[hn];rfl,rfl⟩ (hw:=?_) (hZ:=fin0 _)
    exact Di ⟨E1,Ab _,trivial⟩
   all_goals have ah:(okP p&&AQ (A2 p) objs)=true:=by rw[hO,aH];rfl
   ·repeat' first|refine gf (gi ah o8') ?_ [] [8]|refine BX (ap _) ?_|refine callPG (ap _) ?_|refine gf (gi ah o8') ?_ o13 [8]|apply gy<;>intro hh
    refine finC (U':=O) (d:=.tup [.agg (EA JX),dI 2]) ⟨by rw[hn];rfl,rfl⟩ (hw:=?_) (hZ:=fin0 _)
    exact Di ⟨E1,Ab _,trivial⟩
   ·repeat' first|refine gf (gi ah o8') ?_ [] [8]|refine BX (ap _) ?_|refine callPG (ap _) ?_|refine gf (gi ah o8') ?_ o13 [8]|apply gy<;>intro hh
    refine finC (U':=O) (d:=.tup [.agg (EA JX),dI 2]) ⟨by rw[hn];rfl,rfl⟩ (hw:=?_) (hZ:=fin0 _)
    exact Di ⟨E1,Ab _,trivial⟩
   ·repeat' first|refine gf (gi ah (gi o8' om)) ?_ [] [8]|refine BX (ap _) ?_|refine callPG (ap _) ?_|refine gf (gi ah (gi o8' om)) ?_ o13 [8]|apply gy<;>intro hh
    refine J7 (fun i11 aa=>?_)
    have n11:=B8 o8' aa
    refine gf (gi o8' (gi n11 a)) ?_ o13 [8]
    refine finC (U':=O) (d:=.tup [.agg (EA JX),dI 2]) ⟨by rw[hn];rfl,rfl⟩ (hw:=?_) (hZ:=fin1 i11 _ _ aa)
    exact Di ⟨E1,Ab _,trivial⟩
   ·repeat' first|refine gf (gi ah (gi o8' om)) ?_ [] [8]|refine BX (ap _) ?_|refine callPG (ap _) ?_|refine gf (gi ah (gi o8' om)) ?_ o13 [8]|apply gy<;>intro hh
    refine J7 (fun i11 aa=>?_)
    have n11:=B8 o8' aa
    refine gf (gi o8' (gi n11 (gi a1 a2))) ?_ o13 [8]
    refine finC (U':=O) (d:=.tup [.agg (EA JX),dI 2]) ⟨by rw[hn];rfl,rfl⟩ (hw:=?_) (hZ:=fin1 i11 _ _ aa)
    exact Di ⟨E1,Ab _,trivial⟩
   ·repeat' first|refine gf (gi ah (gi o8' om)) ?_ [] [8]|refine BX (ap _) ?_|refine callPG (ap _) ?_|refine gf (gi ah (gi o8' om)) ?_ o13 [8]|apply gy<;>intro hh
    refine J7 (fun i11 aa=>?_)
    have n11:=B8 o8' aa
    refine gf (gi o8' (gi n11 (gi a1 (gi a2 a3)))) ?_ o13 [8]
    refine finC (U':=O) (d:=.tup [.agg (EA JX),dI 2]) ⟨by rw[hn];rfl,rfl⟩ (hw:=?_) (hZ:=fin1 i11 _ _ aa)
    exact Di ⟨E1,Ab _,trivial⟩
   ·repeat' first|refine gf (gi ah (gi o8' om)) ?_ [] [8]|refine BX (ap _) ?_|refine callPG (ap _) ?_|refine gf (gi ah (gi o8' om)) ?_ o13 [8]|apply gy<;>intro hh
    refine J7 (fun i11 aa=>?_)
    have n11:=B8 o8' aa
    refine gf (gi o8' (gi n11 (gi a1 (gi a2 (gi a3 a4))))) ?_ o13 [8]
    refine finC (U':=O) (d:=.tup [.agg (EA JX),dI 2]) ⟨by rw[hn];rfl,rfl⟩ (hw:=?_) (hZ:=fin1 i11 _ _ aa)
    exact Di ⟨E1,Ab _,trivial⟩
  rw[if_pos hg]at bt
  simp only[Bool.and_eq_true]at hg
  obtain⟨hO,hF⟩:=hg
  have dm:=(Mw (evs:=[]) hO).1 hF
  have ah:(okP p&&AQ (A2 p) objs)=true:=by rw[hO,aH];rfl
  unfold GH at hF
  simp only[Bool.and_eq_true,decide_eq_true_eq]at hF
  obtain⟨⟨f1,f2,f3,f4⟩,f5,f6⟩:=hF
  rw[OE]at f2
  obtain⟨k,rfl⟩:∃k:Nat,pos=k:=⟨pos.toNat,by omega⟩
  have aK:k<c.ins.length:=by omega
  rw[Int.toNat_natCast,OF c W aK,Option.getD_some]at f3 f4
  repeat' first|refine gf (gi ah (gi o8' om)) ?_ [] [8]|refine BX (ap _) ?_|refine callPG (ap _) ?_|refine gf (gi ah (gi o8' om)) ?_ o13 [8]|apply gy<;>intro hh
  refine J7 (fun i11 aa=>?_)
  have n11:=B8 o8' aa
  refine gf (gi f3 (gi f4 (gi f5 f6))) ?_ (delO 7 o13) [8]
  have o8:=(w7 S0 (.cells [D.int .i64 (getM ⟨0,0⟩ (k:Int) W).st,D.int .i64 (getM ⟨0,0⟩ (k:Int) W).env]) n11).trans o8'
  have hS:Sub O (S0.set i11 (.cells [D.int .i64 (getM ⟨0,0⟩ (k:Int) W).st,D.int .i64 (getM ⟨0,0⟩ (k:Int) W).env])):=fun j o hj=>by
   rw[w7 _ _ (B8 (aG j o hj) aa)];exact aG j o hj
  generalize S0.set i11 (.cells [D.int .i64 (getM ⟨0,0⟩ (k:Int) W).st,D.int .i64 (getM ⟨0,0⟩ (k:Int) W).env])=Sb at*
  refine Gc (id:=7) [0,1,2,3,4,6,7,5,8,9,10,11,12] [5,8,11] (fun _=>none) (fun _ _ h=>by cases h) ?_
  refine gz ?_ o13 [8]
  refine Be (Jp stk .no Sb (by omega)) (fun d S1 hr=>?_) (fun d S1 hr=>by obtain⟨_,h,_⟩:=hr;cases h)
  obtain⟨r0,hd,bm⟩:=hr
  replace bm:FrV Sb r0 stk S1:=bm
  cases hd
  refine⟨(fun _ _ h=>by cases h),?_⟩
  refine Be (Jp env .no S1 (by omega)) (fun d S2 hr=>?_) (fun d S2 hr=>by obtain⟨_,h,_⟩:=hr;cases h)
  obtain⟨r1,hd,aU⟩:=hr
  replace aU:FrV S1 r1 env S2:=aU
  cases hd
  refine⟨(fun _ _ h=>by cases h),?_⟩
  refine moRr (.agg [dI k,r0.d stk.length,r1.d env.length]) ?_ (hd:=by cases r0<;>cases r1<;>simp)
  refine moRr (.agg ([dI 0,dI 0,dI 0,dI 0,.nils,dI 0,dI 0,.nils,.nils,.nils,.nils]++Ae p++[dI k,r0.d stk.length,r1.d env.length])) ?_ (hd:=by cases r0<;>cases r1<;>simp)
  refine moBox (AO p (R01 r0 r1) ⟨[],[],k,stk,env⟩) (fun ir cd=>?_) (hC:=fun _ _ h=>by cases h)
  have aq:=RunS.init (p:=p) (pos:=(k:Int)) bm aU cd
  have cq:∀j o,Sb j=some o->(S2.set ir (.cells (AO p (R01 r0 r1) ⟨[],[],k,stk,env⟩))) j=some o/\j≠ir /\ ∀a, ¬(R01 r0 r1 a).is j:=fun j o hj=>by
   have a1:=bm.2.1 j o hj id
   have a2:=aU.2.1 j o a1.1 id
   have ak:=B8 a2.1 cd
   refine⟨by rw[w7 _ _ ak];exact a2.1,ak,fun a ha=>?_⟩
   unfold R01 at ha
   by_cases e1:a=1
   ·subst e1;rw[Aj]at ha;exact a2.2 ha
   ·rw[A8 _ _ e1]at ha
    by_cases e0:a=0
    ·subst e0;rw[Aj]at ha;exact(aU.2.1 j o a1.1 id).2 (absurd ha a1.2)
    ·rw[A8 _ _ e0]at ha;exact ha
  generalize S2.set ir (.cells (AO p (R01 r0 r1) ⟨[],[],k,stk,env⟩))=S3 at*
  refine gz ?_ o13 [8]
  refine A7 (Vs objs o1 S3 cG bE) (fun d S4 hr=>?_) (fun d S4 hr=>by obtain⟨_,h,_⟩:=hr;cases h)
  obtain⟨R',hd,hT⟩:=hr
  cases hd
  have o4:=(hT.keep ir _ aq.obj).1
  refine gz ?_ o13 [8]
  refine storeRw (r:=R' 3) (k:=9) o4 ?_
  obtain⟨p1,p2⟩:=aq.swap (R':=R') (l:=objs) (fun j o h _ _=>h) aq.obj hT rfl
  have bU:∀j o,Sb j=some o->(S4.set ir (.cells (AO p (Fc (R01 r0 r1) R') ⟨objs,[],k,stk,env⟩))) j=some o/\j≠ir /\ ∀a, ¬(Fc (R01 r0 r1) R' a).is j:=fun j o hj=>by
   obtain⟨a1,a2,a3⟩:=cq j o hj
   exact⟨(p2 j o a1 a2 a3).1,a2,(p2 j o a1 a2 a3).2⟩
  refine drp (S4.set ir (.cells (AO p (Fc (R01 r0 r1) R') ⟨objs,[],k,stk,env⟩))) ?_ (by exact Sub.refl _)
  generalize S4.set ir (.cells (AO p (Fc (R01 r0 r1) R') ⟨objs,[],k,stk,env⟩))=S5 at p1 bU⊢
  generalize Fc (R01 r0 r1) R'=R5 at p1 bU
  clear p2 cq aq bm aU hT o4
  have hW:=Oc aH
  have cg:∀n:Nat,0<=p.gens.getD n 0:=fun n=>(Eg aH n).1
  refine gz ?_ o13 [8]
  refine Ge [5,8,9,12,13,122,123,124,125] (fun (s:GoS) (R:Nat->RW) (S1:Sig)=>GInv (A2 p) (fun j=>(Ev c W)[j]?) s/\RunS ir p R s S1/\(∀j o,Sb j=some o->S1 j=some o/\j≠ir /\ ∀a, ¬(R a).is j)/\H=some (mRun p (A2 p) c c.ins.length s)/\(s.stk.length:Int)<=900000+s.pos/\(s.env.length:Int)<=900000+s.pos/\(s.evs.length:Int)<=s.pos) (fun _ _ _=>[]) (fun _ _ S1=>S1) (fun s _ _=>c.ins.length-s.pos.toNat) (⟨objs,[],k,stk,env⟩) (R5) (S5) (by exact⟨dm,p1,bU,bt,by simp only;omega,by simp only;omega,by simp only[List.length_nil];omega⟩) (fun s R S1 hI=>?_)
  obtain⟨hG,hR,hK,aV,b1,b2,b3⟩:=hI
  obtain⟨h0,⟨l,hl,ag,cY⟩,cD,dq,cC⟩:=id hG
  have bH:=ay.dom _ _ hl
  obtain⟨env',next,bz,g1,g2,g3,g4⟩:=ay.ok _ _ hl
  have aP:=HP cg hW ay hG
  have aC:=QV cg hW ay hG
  obtain⟨q,hq⟩:∃q:Nat,s.pos=q:=⟨s.pos.toNat,by omega⟩
  have hx:Ay c s.pos.toNat=c.ins[s.pos.toNat]:=by unfold Ay;rw[List.getElem?_eq_getElem bH];rfl
  rw[hx]at bz aP aC
  have aj:=ay.fits _ _ (List.getElem?_eq_getElem bH)
  simp only[hq,Int.toNat_natCast]at bH bz aP aC aj b1 b2 b3
  obtain⟨x,bB⟩:∃x,x=c.ins[q]:=⟨_,rfl⟩
  rw[<-bB]at bz aP aC aj
  obtain⟨u1,u2⟩:=fits_rg aj
  obtain⟨j,hj⟩:∃j:Nat,x.op=j:=⟨x.op.toNat,by omega⟩
  have bR:=actAt (j:=j) (by omega) (by omega)
  have q1:=hR.obj
  refine gf (gi q1 (gi hq bB.symm)) ?_ o13 [8]
  refine J7 (fun i14 ax=>?_)
  have n14:=B8 q1 ax
  refine gf (gi q1 (gi hq bB.symm)) ?_ (delO 12 o13) [8]
  have bj:=hR.newO ax (.cells (cIns x))
  obtain⟨p3,p4⟩:=bj.at ((q:Int)+1) rfl
  have o14:((S1.set i14 (.cells (cIns x))).set ir (.cells (AO p R { s with pos:=(q:Int)+1 }))) i14=some (.cells (cIns x)):=by rw[w7 _ _ n14.symm,w6]
  refine FJ (VW (U':=(S1.set i14 (.cells (cIns x))).set ir (.cells (AO p R { s with pos:=(q:Int)+1 }))) (by exact Sub.refl _)) ?_
  have cp:∀j o,Sb j=some o->((S1.set i14 (.cells (cIns x))).set ir (.cells (AO p R { s with pos:=(q:Int)+1 }))) j=some o/\j≠ir /\ ∀a, ¬(R a).is j:=fun j o hj=>by
   obtain⟨a1,a2,a3⟩:=hK j o hj
   exact⟨by rw[w7 _ _ a2,w7 _ _ (B8 a1 ax)];exact a1,a2,a3⟩
  have nr14:∀a, ¬(R a).is i14:=fun a ha=>by
   obtain⟨z,hz⟩:=(hR.rows.ok a).cells ha
   rw[ax]at hz;cases hz
  have n14':i14≠ir:=n14.symm
  generalize (S1.set i14 (.cells (cIns x))).set ir (.cells (AO p R { s with pos:=(q:Int)+1 }))=S6 at p3 o14 cp⊢
  clear p4 bj q1 n14 ax
  refine Gc (id:=12) [0,1,2,3,4,5,6] [6] (S6.out fun j=>j≠i14) (CX _ _) ?_
  have u14:=E8 (touch:=fun j=>j≠i14) o14 (by simp)
  have bX:=VU (t:={ s with pos:=(q:Int)+1 }) hp aH bz aj g3 ag cY cD cC (by simp only;omega) (by simp only;omega) (by simp only;omega) p3
  refine gf (gi hj (gi bR u14)) ?_ o13 [8]
  rw[hj]at bX
  refine Be bX (fun d S7 hr=>?_) (fun d S7 hr=>?_)
  rotate_left
  ·obtain⟨_,_,h⟩:=hr
   split at h<;>cases h.1
  obtain⟨R2,am,h⟩:=hr
  refine⟨fun y o hy=>?_,?_⟩
  ·obtain⟨y1,y2⟩:=Ed hy
   obtain rfl:y=i14:=Classical.byContradiction y2
   exact(am _ _ y1 n14' nr14).1
  have bl:∀j o,Sb j=some o->S7 j=some o/\j≠ir /\ ∀a, ¬(R2 a).is j:=fun j o hj=>by
   obtain⟨a1,a2,a3⟩:=cp j o hj
   exact⟨(am j o a1 a2 a3).1,a2,(am j o a1 a2 a3).2⟩
  cases aT:Gd p (A2 p) x { s with pos:=(q:Int)+1 } with
  |inl t'=>
   have b8:=Mi aT
   rw[aT]at h aP aC
   obtain⟨hd,aR⟩:=h
   obtain⟨k1,k2⟩:=aP
   have k3:=k1.lo
   cases hd
   simp only at b8 aC
   refine gz ?_ o13 [8]
   exact⟨t',R2,S7,⟨k1,aR,bl,by rw[aV,aC],by omega,by omega,by omega⟩,td1,wkR⟩
  | inr h' =>
   rw[aT]at h aC
   obtain⟨hd,s',av,b,cr⟩:=h
   cases hd
   simp only at aC
   repeat ((fail_if_success (first|(refine haltD cr (fun S8 tl o9 k9=>?_))|fail));(refine goX1 trivial ?_))
   refine haltD cr (fun S8 tl o9 k9=>?_)
   have o8b:S8 i8=_:=k9 i8 _ (bl i8 _ o8).1 (bl i8 _ o8).2.1 (bl i8 _ o8).2.2
   have dc:Sub O S8:=fun j o hj=>by
    obtain⟨a1,a2,a3⟩:=bl j o (hS j o hj)
    exact k9 j o a1 a2 a3
   simp only[EA,List.cons_append,List.nil_append]at o9
   refine gf (gi o9 o8b) ?_ o13 [8]
   refine finC (U':=O) (d:=.tup [.agg (EA h'),dI 0]) ⟨by rw[aV,aC];rfl,rfl⟩ (hw:=?_) (hZ:=fun j o hj=>by rw[w7 _ _ (B8 hj be)];exact dc j o hj)
   exact Ab _
def exB:BProg:=⟨[⟨[],[0],[⟨0,7⟩]⟩,⟨[3],[1],[]⟩,⟨[4,3],[],[⟨0,1⟩]⟩],2,[1],[⟨1,0,.mk 2 0 [] 3 0 [],0⟩,⟨2,0,.mk 3 0 [0] 0 5 [],3⟩],
 [⟨17,0,[1]⟩,⟨4,0,[2]⟩,⟨3,0,[]⟩,⟨9,0,[4,5]⟩,⟨3,0,[]⟩,⟨3,1,[]⟩,⟨5,0,[7]⟩,⟨6,5,[]⟩],6⟩
def exC:CProg:=⟨[⟨3,0⟩,⟨5,0⟩,⟨7,0⟩,⟨21,0⟩,⟨3,0⟩,⟨14,0⟩,⟨3,1⟩,⟨15,0⟩,⟨21,0⟩,⟨4,5⟩,⟨19,0⟩,⟨21,0⟩],[0,4],9⟩
def exL:List CLev:=[⟨0,1⟩,⟨1,1⟩,⟨1,1⟩,⟨1,1⟩,⟨0,1⟩,⟨1,1⟩,⟨0,2⟩,⟨1,2⟩,⟨1,1⟩,⟨0,0⟩,⟨1,0⟩,⟨1,0⟩]
theorem Ky{l m:List Int}(h:∀x,x∈l ↔ x∈m): ∀(a:List Init) (seen:List Int),DR l seen a=DR m seen a
 |[],_=>rfl
 |x::r,seen=>by rw[DR,DR,Ky h r,decide_eq_decide.2 (h x.slot)]
def Jh(p:BProg):Nat->List BClass->Bool
 |_,[]=>true
 |i,c::r=>decide (linE (p.classes.map (·.parents)) ((i:Int)+3)=0)&&DR (hasG p.classes (((i:Int)+3)-2).toNat [((i:Int)+3)] []) [] c.inits&&Jh p (i+1) r
theorem Ii(p:BProg): ∀(l:List BClass) (i:Nat),AS p i l=Jh p i l
 |[],_=>rfl
 |c::r,i=>by
  rw[AS,Jh,Ii p r]
  congr 2
  exact Ky (fun x=>by unfold hasP EI;exact List.mem_mergeSort) _ _
theorem VB:AS exB 0 exB.classes=true:=by rw[Ii];decide +kernel
theorem Q2:Ao exB=true:=by
 unfold Ao
 have h1:AJ 0 exB.classes=some 2:=by decide +kernel
 have h2:B6 (exB.classes.map (·.parents))=true:=by decide +kernel
 have h3:decide (exB.classes.length<=10)=true:=by decide +kernel
 have h4:decide ((2:Int)=exB.slots)=true:=by decide +kernel
 rw[h1,h3]
 simp only[h2,h4,VB,Bool.and_self,Bool.and_true]
theorem VA:okP exB=true:=by
 unfold okP Db
 rw[Q2]
 decide +kernel
theorem W0:EI [1,0]=[0,1]:=by simp[EI,List.mergeSort,List.MergeSort.Internal.splitInTwo,List.merge]
theorem ex_has5:hasP exB 5=[0,1]:=by
 unfold hasP
 rw[show hasG exB.classes ((5:Int)-2).toNat [5] []=[1,0] by decide +kernel,W0]
theorem ex_has4:hasP exB 4=[0,1]:=by
 unfold hasP
 rw[show hasG exB.classes ((4:Int)-2).toNat [4] []=[1,0] by decide +kernel,W0]
theorem ex_has3:hasP exB 3=[0]:=by
 unfold hasP
 rw[show hasG exB.classes ((3:Int)-2).toNat [3] []=[0] by decide +kernel]
 simp[EI]
theorem TI:EB exB 5=[⟨0,1⟩]:=by unfold EB;rw[ex_has5];decide +kernel
theorem TJ:EB exB 4=[⟨0,7⟩]:=by unfold EB;rw[ex_has4];decide +kernel
theorem TK:EB exB 3=[⟨0,7⟩]:=by unfold EB;rw[ex_has3];decide +kernel
def exW:CWorld:=⟨fun c=>decide (3<=c)&&decide (c<6),fun c=>if c=3 then [0] else if c=4 then [0,1] else if c=5 then [0,1] else hasP exB c,
 fun c=>if c=3 then [vInt 7] else if c=4 then [vInt 7,EG] else if c=5 then [vInt 1,EG] else(hasP exB c).map (frV (EB exB c))⟩
theorem LH:A2 exB=exW:=by
 unfold A2 exW
 rw[VA]
 congr 1
 ·funext c
  unfold ownF
  simp[exB]
 ·funext c
  split
  ·rename_i e;subst e;exact ex_has3
  split
  ·rename_i e;subst e;exact ex_has4
  split
  ·rename_i e;subst e;exact ex_has5
  rfl
 ·funext c
  split
  ·rename_i e;subst e;rw[ex_has3,TK];rfl
  split
  ·rename_i e;subst e;rw[ex_has4,TJ];rfl
  split
  ·rename_i e;subst e;rw[ex_has5,TI];rfl
  rfl
theorem ex_code:Gg exB=exC:=by unfold Gg;rw[if_pos VA];kernel_rfl
theorem Hp:CZ exB exC=some exL:=by
 unfold CZ
 rw[VA]
 kernel_rfl
theorem TH:(C1 exB exC).map (Ev exC)=some exL:=by rw[<-EP,Hp]
def exH1:GoH:=⟨2,vZ,0,[vObj 0],0,11,[],[],[⟨5,[vInt 1,EG]⟩],[]⟩
def exH2:GoH:=⟨1,vInt 1,0,[],0,0,[],[],[⟨5,[vInt 1,EG]⟩],[⟨2,0,[vInt 1]⟩]⟩
def exH3:GoH:=⟨4,vZ,0,[],5,0,[],[],[],[]⟩
theorem ex_go1:goC exB (A2 exB) exC [] 9 [] []=some exH1:=by
 unfold goC
 rw[Hp,LH]
 kernel_rfl
theorem ex_go2:goC exB (A2 exB) exC [⟨5,[vInt 1,EG]⟩] 0 [] [vObj 0]=some exH2:=by
 unfold goC
 rw[Hp,LH]
 kernel_rfl
theorem ex_go3:goC exB (A2 exB) exC [] 0 [] [vInt 3]=some exH3:=by
 unfold goC
 rw[Hp,LH]
 kernel_rfl
theorem Vz:Er exC=true:=by decide +kernel
theorem TG:M6 exC=[48,32,52,32,58,32,57,10,110,97,109,101,32,48,10,115,108,111,116,32,48,10,111,117,116,10,101,110,100,10,110,97,109,101,32,48,10,108,101,116,10,110,97,109,101,32,49,10,100,114,111,112,10,101,110,100,10,110,101,119,32,53,10,99,97,108,108,32,48,10,101,110,100,10]:=by decide +kernel
theorem Wb:exL.length=12:=rfl
theorem P1:(JM exC).length=25:=by decide +kernel
theorem OX(n:Int)(O:Sig):DCall prog 19 [dI n] O (rS (.agg (cVal (vInt n))) O):=by
 refine en func19 ntmps19 ?_
 refine gz ?_ [] [2]
 refine newV (fun i hi=>?_)
 refine gz ?_ [] [2]
 exact finC (U':=O) ⟨rfl,rfl⟩
@[reducible,instance] def a19:=fun n O=>ah0 (@OX n O)
theorem Sx(l:List MVal)(o:Own)(O:Sig)(hl:l.length<=1000000):DCall prog 27 [.slice (l.map cVal) o] O fun x U'=> ∃r,x=.ret (r.d l.length)/\FrV O r l U':=by
 refine en func27 ntmps27 ?_
 refine gz ?_
 refine xappB (r:=.nil) (es:=[]) (new:=l.map cVal) (fun r' S1 h1 h2 h3=>?_) rfl (GT rfl B9) (fun c hc=>by obtain⟨v,_,rfl⟩:=List.mem_map.1 hc;rfl) B9
 rw[show([]:List (List D)).length+(l.map cVal).length=l.length by simp]
 refine gz ?_
 refine fin1 (U':=S1) ⟨r',rfl,h1,fun j o hj _=>h2 j o hj id,fun es h=>?_⟩
 rcases h3 with h3|⟨i,c,cs,h3⟩
 ·subst h
  have:=h1.1
  rw[h3]at this
  exact this.symm
 ·rw[h3]at h;cases h
theorem Vx(n:Int)(O:Sig):DCall prog 28 [dI n] O (rS (dI (Ct n)) O):=by
 refine en func28 ntmps28 ?_
 refine gz ?_
 exact fin1 (U':=O) ⟨congrArg (fun z=>DE.ret (dI z)) (U4 n),rfl⟩
@[reducible,instance] def a28:=fun n O=>ah0 (@Vx n O)
theorem Vn(v:MVal)(N:Int)(O:Sig):DCall prog 66 [.agg (cVal v),dI N] O (rS (.bool (okV N v)) O):=by
 refine en func66 ntmps66 ?_
 repeat' first|refine gz ?_|apply gy<;>intro hh
 any_goals (first|(refine fin1 (U':=O) ?_;exact⟨by first|rfl|(simp[okV,hh];done)|(simp_all [okV,hh];done)|(rw[Ac,Bool.eq_iff_iff];simp_all [okV,hh]<;>omega),rfl⟩)|fail)
@[reducible,instance] def a66:=fun v N O=>ah0 (@Vn v N O)
theorem Vy(l:List MVal)(N:Int)(o:Own)(O:Sig)(hl:l.length<=1073741824:=by exact sd):DCall prog 26 [.slice (l.map cVal) o,dI N] O (rS (.bool (okVs N l)) O):=by
 refine en func26 ntmps26 ?_
 refine gz ?_
 refine BU [1,7,8] (fun (k:Nat)=>k<=l.length/\okVs N l=okVs N (l.drop k)) (fun k=>[(9,dI k)]) (fun _=>O) (fun k=>l.length-k) (0) (by simp) (fun k hI=>?_)
 obtain⟨hk,hR⟩:=hI
 by_cases h:k<l.length
 ·rw[A4 h,show okVs N (l[k]::l.drop (k+1))=(okV N l[k]&&okVs N (l.drop (k+1))) from rfl]at hR
  cases hv:okV N l[k]with
  |false=>
   rw[hv,Bool.false_and]at hR
   refine gf hv ?_
   exact fe1 hR
  |true=>
   rw[hv,Bool.true_and]at hR
   refine gf hv ?_
   exact⟨k+1,⟨by omega,hR⟩,td1,wkR⟩
 ·rw[Aa h]at hR
  refine gz ?_
  exact fin1 (U':=O) ⟨by rw[hR],rfl⟩
@[reducible,instance] def a26:=fun l N o O=>ah1 (@Vy l N o O)
theorem Vq(a b:List MVal)(o o':Own)(O:Sig)(h1:a.length<=1073741824:=by exact sd)(h2:b.length<=1073741824:=by exact sd):DCall prog 53 [.slice (a.map cVal) o,.slice (b.map cVal) o'] O (rS (.bool (decide (a=b))) O):=by
 refine en func53 ntmps53 ?_
 by_cases hc:a.length=b.length
 ·refine gf hc ?_ o53
  refine BU [0,1] (fun (k:Nat)=>k<=a.length /\ ∀j (h1:j<a.length) (h2:j<b.length),j<k->a[j]=b[j]) (fun k=>[(5,dI k)]) (fun _=>O) (fun k=>a.length-k) (0) (by exact⟨by omega,fun j _ _ h=>by omega⟩) (fun k hI=>?_)
  obtain⟨hk,hE⟩:=hI
  by_cases aK:k<a.length
  ·have dt:k<b.length:=by omega
   refine gf hc ?_ o53
   refine Lu (r:=decide (a[k]=b[k])) (xs:=cVal a[k]) (ys:=cVal b[k]) Af P2 rfl rfl rfl rfl OG (VC _ _) ?_
   by_cases hx:a[k]=b[k]
   ·refine gf hx ?_ o53
    exact⟨k+1,⟨by omega,fun j h1 h2 h3=>by by_cases e:j=k;(subst e;exact hx);exact hE j h1 h2 (by omega)⟩,td1,wkR⟩
   ·have hne:¬a=b:=fun e=>hx (by simp[e])
    refine gf hx ?_ o53
    exact fe1 hne
  ·have cZ:a=b:=List.ext_getElem hc fun j h1 h2=>hE j h1 h2 (by omega)
   refine gz ?_ o53
   exact fin1 (U':=O) ⟨by rw[decide_eq_true cZ],rfl⟩
 ·have hne:¬a=b:=fun e=>hc (by rw[e])
  refine gz ?_ o53
  exact fe1 hne
end Go.DL
