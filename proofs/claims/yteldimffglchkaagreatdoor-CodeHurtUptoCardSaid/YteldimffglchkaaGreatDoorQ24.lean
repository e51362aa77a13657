/- A part of the proof. -/
import Derived.Test.YteldimffglchkaaGreatDoorQ21
import Derived.Test.YteldimffglchkaaGreatDoorQ23
import Derived.Test.YteldimffglchkaaGreatDoorQ14
import Derived.Test.YteldimffglchkaaGreatDoorQ19
import Derived.Test.YteldimffglchkaaGreatDoorQ18
import Derived.Test.YteldimffglchkaaGreatDoorQ20
import Derived.Test.YteldimffglchkaaGreatDoorQ10
set_option linter.all false
namespace Go.DL
open Go.Proofs.Tryz
open Go Go.Proofs
set_option maxHeartbeats 8000000
def Mx(p:BProg):CProg:=if okP p then GT p else⟨[],[],0⟩
theorem Tp(p:BProg)(O:Sig)(hp:p.wt<=1073741824):DCall prog 18 [.agg (Ag p)] O (rS (.tup [.agg (cCPg (Mx p)),dI (if okP p then 0 else 2)]) O):=by
 obtain⟨p1,p2,p3,p4,p5,p6,p7⟩:=p.wt_le
 refine en func18 ntmps18 ?_
 cases hk:okP p with
 |false=>
  have hc:Mx p=⟨[],[],0⟩:=by unfold Mx;rw[hk];rfl
  rw[hc]
  refine gz ?_ o18 [2,15]
  refine newV (fun i hi=>?_)
  refine gf hk ?_ o18 [2,15]
  refine finC (U':=O) (d:=.tup [.agg (cCPg ⟨[],[],0⟩),dI 2]) ⟨rfl,rfl⟩ (hw:=?_)
  exact Ct ⟨Dn ⟨Ak _ (.inl rfl),Ak _ (.inl rfl),A8 _,trivial⟩,A8 _,trivial⟩
 | true =>
  have hc:Mx p=GT p:=by unfold Mx;rw[hk];rfl
  rw[hc]
  have aR:=RV hk
  have bt:=TH hk
  have bq:=GO hk
  refine gz ?_ o18 [2,15]
  refine newV (fun i2 aq=>?_)
  repeat ((fail_if_success (first|(refine boxV (T:=127) (fun ib aS=>?_))|fail));(refine goX1 hk ?_))
  refine boxV (T:=127) (fun ib aS=>?_)
  obtain⟨n2b,am⟩:=Bm aS
  refine gz ?_ o18 [2,15]
  refine Df ib 1 1 (ds:=[.nils,.nils,dI 0]) (w6 ..) rfl (fun it bh=>?_)
  obtain⟨nbt,aM⟩:=Bm bh
  obtain⟨n2t,aC⟩:=Bm aM
  simp only[List.set_cons_succ,List.set_cons_zero]
  generalize aE:Sig.set (Sig.set (Sig.set (Sig.set O i2 _) ib _) it _) ib _=S0
  have o0:S0 ib=some (.cells [mD none ([]:List CIns).length,.slice (cI []) (.tag it),dI 0]):=by rw[<-aE,w6];rfl
  have t0:S0 it=some (.tail 1 ([]:List Int).length):=by rw[<-aE,w7 _ _ nbt,w6];rfl
  have c0:S0 i2=some (.cells [.nils,.nils,dI 0]):=by rw[<-aE,w7 _ _ n2b.symm,w7 _ _ n2t.symm,w7 _ _ n2b.symm,w6]
  have s0:Sub O S0:=fun j x hj=>by
   have k1:=An hj aq
   have k2:=An hj am
   have k3:=An hj aC
   rw[<-aE,w7 _ _ k2,w7 _ _ k3,w7 _ _ k2,w7 _ _ k1];exact hj
  have B0:BlkS ib (.slice (cI []) (.tag it)) (dI 0) none [] S0:=⟨o0,rfl,id⟩
  clear aE
  have bl:(Bq p).length=p.methods.length:=by unfold Bq;simp
  refine loop5 [1,2,3,5,17,18,40,41,42,43,44,45,46,47,48,49,50,51,52] (fun (j:Nat) (out:List CIns) (l:List Int) (st:MR) (S1:Sig)=>j<=p.methods.length/\l.length=j/\out++BB p 12 ((Bq p).drop j) out.length=BB p 12 (Bq p) 0/\l++(GD p 12 ((Bq p).drop j) out.length).map (·.pos)=(GD p 12 (Bq p) 0).map (·.pos)/\BlkS ib (.slice (cI l) (.tag it)) (dI 0) st out S1/\S1 it=some (.tail 1 l.length) /\ ¬Fa st it/\S1 i2=some (.cells [.nils,.nils,dI 0]) /\ ¬Fa st i2/\(∀k x,O k=some x->S1 k=some x /\ ¬Fa st k)) (fun j _ _ _ _=>[(19,dI j)]) (fun _ _ _ _ S1=>S1) (fun j _ _ _ _=>p.methods.length-j) (0) ([]) ([]) (none) (S0) (by exact⟨by omega,rfl,rfl,rfl,B0,t0,id,c0,id,fun k x hk=>⟨s0 _ _ hk,id⟩⟩) (fun j out l st S1 hI=>?_)
  obtain⟨hj,be,hR,ai,hB,aZ,ba,aU,ap,hS⟩:=hI
  by_cases bf:j<p.methods.length
  ·have bd:(Bq p).drop j=⟨(p.methods[j]).node,(p.gens.getD (p.methods[j]).gen.toNat 0).toNat,KI p.methods[j]⟩::(Bq p).drop (j+1):=by
    rw[List.drop_eq_getElem_cons (by omega)];unfold Bq;simp
   have aX:=aR ⟨(p.methods[j]).node,(p.gens.getD (p.methods[j]).gen.toNat 0).toNat,KI p.methods[j]⟩ (by unfold bodsP;rw[List.mem_append];left;exact List.mem_map.2 ⟨p.methods[j],List.getElem_mem bf,rfl⟩)
   rw[bd]at hR ai
   have q1:=hB.env
   refine gz ?_ [] [2,15]
   refine mixI (id:=8) [0,1,2,3,4,5,6,7,8,9,10,11,12,13,14,15,16] [10,12,16] [5] [16] (fun s=> ∃a,s ib=some (.cells [a,.slice (cI l) (.tag it),dI 0])) ⟨_,q1⟩ ?_
   refine iP (.ptr ib 0) ?_
   refine iP (.ptr ib 0) ?_
   refine iP (.ptr ib 0) ?_
   refine iP (.ptr ib 0) ?_
   refine iP (.ptr ib 1) ?_
   refine iR (.slice (cI l) (.tag it)) (fun s ⟨a,hs⟩=>?_) ?_
   ·simp[hs]
   refine iP (.ptr ib 0) ?_
   refine iP (.agg (Ag p)) ?_
   refine iP _ ?_
   refine iP (dI (p.methods[j]).node) ?_
   have aK:=congrArg List.length hR
   simp only[BB,List.length_append,DY]at aK
   refine iW (fun s=> ∃a,s ib=some (.cells [a,.slice (cI l) (.tag it),dI 0])) (L1 p _ hp 12 _ _ aX ib _ _ st out S1 ?_ hB) (fun d U2 hr=>?_) (fun d U2 hr=>by cases hr.1)
   ·have aO:(GT p).ins.length=(BB p 12 (Bq p) 0).length+(bodyC p 12 p.main (KM p)).length:=by unfold GT;rw[List.length_append]
    show out.length+cL p 12 (p.methods[j]).node<=1000000
    omega
   obtain⟨e2,st2,ak,ag⟩:=hr
   cases e2
   have nbt':ib≠it:=fun e=>nbt e.symm
   obtain⟨aY,aA⟩:=ag _ _ aZ (fun e=>nbt e) ba
   obtain⟨aQ,aI⟩:=ag _ _ aU (fun e=>n2b e.symm) ap
   refine⟨⟨_,ak.env⟩,?_⟩
   refine iP (.slice [[dI out.length]] .clip) ?_
   refine iE (d:=.slice (cI l++[[dI out.length]]) (.tag it)) (U':=U2.set it (.tail 1 (l.length+1))) (fun s=> ∃a,s ib=some (.cells [a,.slice (cI l) (.tag it),dI 0])) ⟨_,by rw[w7 _ _ nbt'];exact ak.env⟩ ?_ (he:=?_)
   rotate_left
   ·simp[aY];omega
   refine iP (.ptr ib 0) ?_
   refine iP (.ptr ib 0) ?_
   refine iP (.ptr ib 1) ?_
   refine iS (d:=.any) (U':=(U2.set it (.tail 1 (l.length+1))).set ib (.cells [mD st2 (out++bodyC p 12 (p.methods[j]).node out.length).length,.slice (cI l++[[dI out.length]]) (.tag it),dI 0])) (fun _=>True) trivial ?_ (he:=?_)
   rotate_left
   ·simp[ak.env,w7 _ _ nbt']
   refine iN ?_
   refine gz ?_ o18 [2,15]
   rw[BB]at hR
   rw[GD]at ai
   generalize aD:Sig.set (Sig.set U2 it _) ib _=S3
   have o3:S3 ib=some (.cells [mD st2 (out++bodyC p 12 (p.methods[j]).node out.length).length,.slice (cI (l++[(out.length:Int)])) (.tag it),dI 0]):=by rw[<-aD,w6];simp[cI]
   have t3:S3 it=some (.tail 1 (l++[(out.length:Int)]).length):=by rw[<-aD,w7 _ _ nbt,w6,List.length_append];rfl
   have c3:S3 i2=some (.cells [.nils,.nils,dI 0]):=by rw[<-aD,w7 _ _ n2b.symm,w7 _ _ n2t.symm];exact aQ
   have B3:BlkS ib (.slice (cI (l++[(out.length:Int)])) (.tag it)) (dI 0) st2 (out++bodyC p 12 (p.methods[j]).node out.length) S3:=⟨o3,ak.row.keep fun k x hk hr=>by
    rw[<-aD,w7 _ _ fun e=>ak.nr (by rw[<-e];exact hr),w7 _ _ fun e=>aA (by rw[<-e];exact hr)];exact hk,ak.nr⟩
   have s3:∀k x,O k=some x->S3 k=some x /\ ¬Fa st2 k:=fun k x hk=>by
    have k2:=An hk am
    have k3:=An hk aC
    obtain⟨h1,h2⟩:=hS _ _ hk
    obtain⟨h3,h4⟩:=ag k x h1 k2 h2
    exact⟨by rw[<-aD,w7 _ _ k2,w7 _ _ k3];exact h3,h4⟩
   exact⟨j+1,out++bodyC p 12 (p.methods[j]).node out.length,l++[(out.length:Int)],st2,S3,⟨by omega,by rw[List.length_append,be];rfl,by rw[List.append_assoc,List.length_append,DY];exact hR,by rw[List.append_assoc,List.length_append,DY];exact ai,B3,t3,aA,c3,aI,s3⟩,td1,wkR⟩
  ·rw[List.drop_eq_nil_of_le (by omega),BB,List.append_nil]at hR
   rw[List.drop_eq_nil_of_le (by omega),GD,List.map_nil,List.append_nil]at ai
   have aW:=aR ⟨p.main,0,false⟩ (by unfold bodsP;simp)
   have aO:(GT p).ins=out++bodyC p 12 p.main out.length:=by unfold GT KM;rw[<-hR]
   have aP:=congrArg List.length aO
   rw[List.length_append,DY]at aP
   have q1:=hB.env
   refine gz ?_ o18 [2,15]
   refine A3 (L1 p _ hp 12 _ _ aW ib _ _ st out S1 (show out.length+cL p 12 p.main<=1000000 by omega) hB) (fun d U2 hr=>?_) (fun d U2 hr=>by cases hr.1)
   obtain⟨e2,st2,ak,ag⟩:=hr
   cases e2
   obtain⟨τ,hD,hm,aL,ay⟩:=ak.row.mS
   obtain⟨aQ,aI⟩:=ag _ _ aU (fun e=>n2b e.symm) ap
   have k2:τ i2=some (.cells [.nils,.nils,dI 0]):=aL _ _ aQ aI
   have kb:τ ib=some (.cells [mD st2 (out++bodyC p 12 p.main out.length).length,.slice (cI l) (.tag it),dI 0]):=aL _ _ ak.env ak.nr
   have kS:Sub O τ:=fun k x hk=>by
    have e1:=An hk am
    obtain⟨h1,h2⟩:=hS _ _ hk
    obtain⟨h3,h4⟩:=ag k x h1 e1 h2
    exact aL _ _ h3 h4
   rw[hD]
   refine mfrC (i:=ib) [] [.slice (cI l) (.tag it),dI 0] ?_ (by rw[kb,List.length_map];rfl) hm
   simp only[List.nil_append]
   rw[<-aO]
   have n2b':=n2b.symm
   refine gf k2 ?_ o18 [2,15]
   have a8:(GT p).starts=l:=ai.symm
   have bc:(GT p).main=out.length:=by unfold GT KM;rw[<-hR]
   refine finC (U':=O) (d:=.tup [.agg (cCPg (GT p)),dI 0]) ⟨rfl,rfl⟩ (hU:=(kS.set am).set aq) (hw:=?_)
   unfold cCPg
   rw[a8,bc]
   exact Ct ⟨Dn ⟨A8 _,BD _ _,A8 _,trivial⟩,A8 _,trivial⟩
def KA(a b:CProg):Bool:=decide (a.ins=b.ins)&&(decide (a.starts=b.starts)&&decide (a.main=b.main))
theorem Tn(a b:CProg)(O:Sig)(h1:a.ins.length<=1073741824)(h2:b.ins.length<=1073741824)(h3:a.starts.length<=1073741824)(h4:b.starts.length<=1073741824):DCall prog 31 [.agg (cCPg a),.agg (cCPg b)] O (rS (.bool (KA a b)) O):=by
 have hs:∀l m:List CIns,(h:l.length=m.length)->(∀k (h1:k<l.length) (h2:k<m.length),l[k]=m[k])->l=m:=fun l m h h2=>List.ext_getElem h fun k h3 h4=>h2 k h3 h4
 refine en func31 ntmps31 ?_
 by_cases hc:a.ins.length=b.ins.length/\a.starts=b.starts/\a.main=b.main
 ·obtain⟨c1,c2,c3⟩:=hc
  have hS:KA a b=decide (a.ins=b.ins):=by unfold KA;rw[c2,c3];simp
  have bj:(a.starts==b.starts)=true:=by rw[c2];simp
  rw[hS]
  refine gf (gi c1 (gi c2 (gi c3 bj))) ?_ o31
  refine CJ [2,3] (fun (k:Nat)=>k<=a.ins.length /\ ∀j (h1:j<a.ins.length) (h2:j<b.ins.length),j<k->a.ins[j]=b.ins[j]) (fun k=>[(5,dI k)]) (fun _=>O) (fun k=>a.ins.length-k) (0) (by exact⟨by omega,fun j _ _ h=>by omega⟩) (fun k hI=>?_)
  obtain⟨hk,hE⟩:=hI
  by_cases ar:k<a.ins.length
  ·have bn:k<b.ins.length:=by omega
   refine gf c1 ?_ o31
   refine HS (r:=decide (a.ins[k]=b.ins[k])) (xs:=cIns a.ins[k]) (ys:=cIns b.ins[k]) Ab U5 rfl rfl rfl rfl TV (eqIns _ _) ?_
   by_cases hx:a.ins[k]=b.ins[k]
   ·refine gf hx ?_ o31
    exact⟨k+1,⟨by omega,fun j h1 h2 h3=>by by_cases e:j=k;(subst e;exact hx);exact hE j h1 h2 (by omega)⟩,td1,wkR⟩
   ·have hne:¬a.ins=b.ins:=fun e=>hx (by simp[e])
    refine gf hx ?_ o31
    exact fe1 hne
  ·have aT:a.ins=b.ins:=hs _ _ c1 fun j h1 h2=>hE j h1 h2 (by omega)
   refine gf aT ?_ o31
   exact fe1 aT
 ·have hS:KA a b=false:=by
   unfold KA
   rw[Bool.and_eq_false_iff,Bool.and_eq_false_iff,decide_eq_false_iff_not,decide_eq_false_iff_not,decide_eq_false_iff_not]
   by_cases c1:a.ins=b.ins
   ·by_cases c2:a.starts=b.starts
    ·exact .inr (.inr fun c3=>hc ⟨by rw[c1],c2,c3⟩)
    ·exact .inr (.inl c2)
   ·exact .inl c1
  rw[hS]
  repeat' first|refine gz ?_ o31|apply gy<;>intro hh
  any_goals (first|exact fe1 trivial|fail)
  all_goals exact absurd ⟨‹a.ins.length=b.ins.length›, by simpa using ‹(a.starts==b.starts)=true›, ‹a.main=b.main›⟩ hc
theorem P2(a b:CProg):KA a b=true ↔ a=b:=by
 cases a;cases b
 unfold KA
 simp
theorem NN(a:CProg):KA a a=true:=(P2 a a).2 rfl
def cVal(v:MVal):List D:=[dI v.kind,dI v.n]
@[simp] theorem cVal_len(v:MVal):(cVal v).length=2:=rfl
@[simp] theorem cVal_flat(v:MVal):Bz (cVal v)=true:=rfl
theorem Nm:EqTy prog 40:=⟨by kernel_rfl,by kernel_rfl,by kernel_rfl⟩
theorem N4:(tab 40).k=.struct [(0,38),(1,3)]:=rfl
theorem Tu(a b:MVal):eqFs tab (cVal a) (cVal b) [(0,38),(1,3)]=some (decide (a=b)):=by
 cases a;cases b
 simp[cVal,MVal.mk.injEq,Bool.decide_and]
theorem QP(v:MVal)(O:Sig):DCall prog 183 [.agg (cVal v)] O (rS (dI (AI v)) O):=by
 refine en func183 ntmps183 ?_
 repeat' first|refine gz ?_|apply gy<;>intro hh
 any_goals (first|(refine fin1 (U':=O) ?_;exact⟨by first|rfl|(simp[AI,hh];done)|(simp_all [AI,hh];done)|(rw[Am,Bool.eq_iff_iff];simp_all [AI,hh]<;>omega),rfl⟩)|fail)
@[reducible,instance] def a183:=fun v O=>ah0 (@QP v O)
theorem QO(b:Bool)(O:Sig):DCall prog 184 [.bool b] O (rS (dI (Do b)) O):=by
 refine en func184 ntmps184 ?_
 repeat' first|refine gz ?_|apply gy<;>intro hh
 any_goals (first|(refine fin1 (U':=O) ?_;exact⟨by first|rfl|(simp[Do,hh];done)|(simp_all [Do,hh];done)|(rw[Am,Bool.eq_iff_iff];simp_all [Do,hh]<;>omega),rfl⟩)|fail)
@[reducible,instance] def a184:=fun b O=>ah0 (@QO b O)
theorem Lh(v:MVal)(N:Int)(O:Sig):DCall prog 175 [.agg (cVal v),dI N] O (rS (.bool (okV N v)) O):=by
 refine en func175 ntmps175 ?_
 repeat' first|refine gz ?_|apply gy<;>intro hh
 any_goals (first|(refine fin1 (U':=O) ?_;exact⟨by first|rfl|(simp[okV,hh];done)|(simp_all [okV,hh];done)|(rw[Am,Bool.eq_iff_iff];simp_all [okV,hh]<;>omega),rfl⟩)|fail)
theorem Li(v:MVal)(N:Int)(O:Sig):DCall prog 174 [.agg (cVal v),.cptr [dI N] 0] O (rS (.bool (!okV N v)) O):=by
 refine en func174 ntmps174 ?_
 repeat' first|refine gz ?_|refine C3 (Lh v N O) ?_|refine callP (Lh v N O) ?_|refine gz ?_|apply gy<;>intro hh
 exact fe1 trivial
theorem Lo(v:MVal)(N:Int)(O:Sig):DCall prog 104 [.agg (cVal v),.cptr [dI N] 0] O (rS (.bool (!okV N v)) O):=by
 refine en func104 ntmps104 ?_
 repeat' first|refine gz ?_|apply gy<;>intro hh
 rotate_left 4
 ·refine neqS _ (decide (v=E4)) Nm N4 (Tu v E4) ?_
  refine gz ?_
  refine fin1 (U':=O) ?_
  refine⟨?_,rfl⟩
  rw[Am,Bool.eq_iff_iff]
  obtain⟨k,m⟩:=v
  unfold okV E4
  simp_all
 all_goals
  refine fin1 (U':=O) ?_
  refine⟨?_,rfl⟩
  rw[Am,Bool.eq_iff_iff]
  unfold okV
  simp_all
  try omega
theorem Lg(l:List MVal)(p:MVal->Bool)(g:Nat)(cap:List D)(o:Own)(O:Sig)(hl:l.length<=1073741824)(hg:∀v∈l,DCall prog g ([]++[.agg (cVal v)]++cap) O (rS (.bool (p v)) O)):DCall prog 176 [.slice (l.map cVal) o,.func (.func g) [] cap] O (rS (dI (idxF p l 0)) O):=by
 refine en func176 ntmps176 ?_
 refine gz ?_
 refine CJ [0,1,7] (fun (k:Nat)=>k<=l.length/\idxF p l 0=idxF p (l.drop k) k) (fun k=>[(8,dI k)]) (fun _=>O) (fun k=>l.length-k) (0) (by simp) (fun k hI=>?_)
 obtain⟨hk,hR⟩:=hI
 by_cases h:k<l.length
 ·rw[Ac h,idxF]at hR
  repeat' first|refine C3 (hg (l[k]) (List.getElem_mem h)) ?_|refine callP (hg (l[k]) (List.getElem_mem h)) ?_|refine gz ?_|apply gy<;>intro hh
  ·rw[hh]at hR
   exact fe1 hR
  ·rw[hh]at hR
   exact⟨k+1,⟨by omega,hR⟩,td1,wkR⟩
 ·rw[Ai h,idxF]at hR
  refine gz ?_
  exact fe1 hR
theorem Gg(l:List MVal)(p:MVal->Bool)(g:Nat)(cap:List D)(o:Own)(O:Sig)(hl:l.length<=1073741824)(hg:∀v∈l,DCall prog g ([]++[.agg (cVal v)]++cap) O (rS (.bool (p v)) O)):DCall prog 103 [.slice (l.map cVal) o,.func (.func g) [] cap] O (rS (.bool (l.any p)) O):=by
 refine en func103 ntmps103 ?_
 repeat' first|refine gz ?_|refine C3 (Lg l p g cap _ _ hl hg) ?_|refine callP (Lg l p g cap _ _ hl hg) ?_|refine gz ?_|apply gy<;>intro hh
 rw[<-CZ p l 0]
 exact fe1 trivial
theorem Rk(l:List MVal)(N:Int)(o:Own)(O:Sig)(hl:l.length<=1073741824):DCall prog 102 [.slice (l.map cVal) o,dI N] O (rS (.bool (okVs N l)) O):=by
 refine en func102 ntmps102 ?_
 repeat' first|refine gz ?_|refine C3 (Gg l (fun v=> !okV N v) 174 [.cptr [dI N] 0] _ _ hl (fun v _=>Li v N _)) ?_|refine callP (Gg l (fun v=> !okV N v) 174 [.cptr [dI N] 0] _ _ hl (fun v _=>Li v N _)) ?_|refine gz ?_|apply gy<;>intro hh
 (refine fin1 (U':=O) ?_;exact⟨by first|rfl|(simp[okVs];done)|(simp_all [okVs];done)|(rw[Am,Bool.eq_iff_iff];simp_all [okVs]<;>omega),rfl⟩)
@[reducible,instance] def a102:=fun l N o O=>ah1 (@Rk l N o O)
theorem Tk(l:List MVal)(N:Int)(o:Own)(O:Sig)(hl:l.length<=1073741824):DCall prog 46 [.slice (l.map cVal) o,dI N] O (rS (.bool (okVs N l)) O):=by
 refine en func46 ntmps46 ?_
 repeat' first|refine gz ?_|refine C3 (Gg l (fun v=> !okV N v) 104 [.cptr [dI N] 0] _ _ hl (fun v _=>Lo v N _)) ?_|refine callP (Gg l (fun v=> !okV N v) 104 [.cptr [dI N] 0] _ _ hl (fun v _=>Lo v N _)) ?_|refine gz ?_|apply gy<;>intro hh
 (refine fin1 (U':=O) ?_;exact⟨by first|rfl|(simp[okVs];done)|(simp_all [okVs];done)|(rw[Am,Bool.eq_iff_iff];simp_all [okVs]<;>omega),rfl⟩)
@[reducible,instance] def a46:=fun l N o O=>ah1 (@Tk l N o O)
section
variable {ro:Ro}{n:Nat}{ops:Array Oper}{N:Nat}{S0:Sig}{Q:DX->St->Prop}{df:List DDf}{rest:List Oper}{γ Sr:List (Nat×D)}{O:Sig}{t:Nat}{ty:TypeId}{pos:String}{after:Array Edge}{d:D}
theorem cutH{T e i off len cap hi:Nat}{k:IntKind}{x y:Operand}(h:DOps prog ro n ops Q rest ⟨(t,.sref i off hi cap)::γ,O,df⟩)(bi:hi<=cap)
  (hl:A0 γ (A4 [x,y])=some Sr:=by exact tdR) (h1:ev Sr x=.sref i off len cap:=by exact tdR) (h2:ev Sr y=.int k hi:=by exact tdR) (hk:(tab T).k=.slice e:=by(simp<;>rfl)) (he:A1 (tab e).k=false:=by simp) (aV:decide (t<n)=true:=by exact tdR) :
  DOps prog ro n ops Q (⟨some t,.slice T x none (some y) none,ty,pos,after,none⟩::rest) ⟨γ,O,df⟩:=by
 obtain⟨e1,e2⟩:=evs hl
 refine B5 (fun d U'=>d=.sref i off hi cap/\U'=O) rfl (fun c e=>by cases e) (A9 fun c e=>by cases e) (by simp only[Ap];exact aV) ?_
  (fun d U' ⟨a2,a3⟩=>by subst a2 a3;exact h)
 intro g w a hs hT
 have hx:=Ae hT x
 have hy:=Ae hT y
 rw[<-e1,h1]at hx
 rw[<-e2,h2]at hy
 obtain⟨r,h4,h5⟩:=MQ (w:=w) Ab hk he hx hy bi
 exact⟨g,w,r,_,O,by simp only[execOp,Option.map_some,Option.map_none,Sem.run_bind,h4,Result.andThen_ok,Sem.run_pure],.refl g,hs,h5,rfl,rfl⟩
end
def cEv(e:MEv):List D:=[dI e.deed,dI e.n,.slice (e.vals.map cVal) .clip]
def tCells(S:Nat->RW)(l:List MThing):List (List D):=l.mapIdx fun k o=>[dI o.cls,(S k).d o.slots.length]
def rCt(R:Nat->RW)(s:GoS):Nat->List (List D)
 |0=>s.stk.map cVal
 |1=>s.env.map cVal
 |2=>s.evs.map cEv
 |3=>tCells (fun k=>R (k+4)) s.objs
 |k+4=>((s.objs[k]?).getD ⟨0,[]⟩).slots.map cVal
def rSz(a:Nat):Nat:=if a=2 then 3 else 2
abbrev AM(p:BProg)(R:Nat->RW)(s:GoS):List D:=[dI 0,dI 0,dI 0,dI 0,.nils,dI 0,dI 0,.nils,.nils,(R 3).d s.objs.length,(R 2).d s.evs.length]++Ag p++[dI s.pos,(R 0).d s.stk.length,(R 1).d s.env.length]
structure RunS(ir:Nat)(p:BProg)(R:Nat->RW)(s:GoS)(O:Sig):Prop where
 obj:O ir=some (.cells (AM p R s))
 rows:Rows O R rSz (rCt R s)
 ni:∀a, ¬(R a).is ir
 nf:∀a es,R a=.full es->es=[]
def RunK(ir:Nat)(R:Nat->RW)(O:Sig)(R':Nat->RW)(U':Sig):Prop:= ∀j o,O j=some o->j≠ir->(∀a, ¬(R a).is j)->U' j=some o /\ ∀a, ¬(R' a).is j
theorem RunK.refl(ir:Nat)(R:Nat->RW)(O:Sig):RunK ir R O R O:=fun _ _ h _ k=>⟨h,k⟩
theorem RunK.trans{ir:Nat}{R R1 R2:Nat->RW}{O S1 U2:Sig}(h:RunK ir R O R1 S1)(k:RunK ir R1 S1 R2 U2):RunK ir R O R2 U2:=fun j o hj hi hn=>k j o (h j o hj hi hn).1 hi (h j o hj hi hn).2
section
variable {ir:Nat}{p:BProg}{R:Nat->RW}{s:GoS}{O:Sig}
theorem RunS.row(h:RunS ir p R s O)(a:Nat)(hne:rCt R s a≠[]): ∃i c cs,R a=.row i c cs:=by
 have hk:=h.rows.ok a
 cases hR:R a with
 |nil=>rw[hR]at hk;exact absurd hk hne
 |full es=>rw[hR]at hk;obtain⟨h1,_⟩:=hk;rw[h.nf a es hR]at h1;exact absurd h1 hne
 |row i c cs=>exact⟨i,c,cs,rfl⟩
theorem RunS.put(h:RunS ir p R s O){a:Nat}{i c:Nat}{cs:List D}{es':List (List D)}{s':GoS}{S1:Sig}{ds:List D}(hr:RWAt S1 (rSz a) (.row i c cs) es')(hk:RWK O (R a) S1 (.row i c cs))(aw:∀b,rCt (updF R a (.row i c cs)) s' b=updF (rCt R s) a es' b)(hd:ds=AM p (updF R a (.row i c cs)) s'):
  RunS ir p (updF R a (.row i c cs)) s' (S1.set ir (.cells ds))/\RunK ir R O (updF R a (.row i c cs)) (S1.set ir (.cells ds)):=by
 obtain⟨k1,k2⟩:=hk ir _ h.obj (h.ni a)
 have hR:=(h.rows.upd hr hk).retell aw
 have aG:∀b, ¬(updF R a (.row i c cs) b).is ir:=fun b=>by
  by_cases e:b=a
  ·subst e;rw[Ah];exact k2
  ·rw[A7 _ _ e];exact h.ni b
 refine⟨⟨by rw[w6,hd],hR.keep fun j o hj ⟨b,hb⟩=>by rw[w7 _ _ fun e=>aG b (by rw[<-e];exact hb)];exact hj,aG,fun b es hb=>?_⟩,fun j o hj au hn=>⟨by rw[w7 _ _ au];exact(hk j o hj (hn a)).1,fun b=>?_⟩⟩
 ·by_cases e:b=a
  ·subst e;rw[Ah]at hb;cases hb
  ·rw[A7 _ _ e]at hb;exact h.nf b es hb
 ·by_cases e:b=a
  ·subst e;rw[Ah];exact(hk j o hj (hn b)).2
  ·rw[A7 _ _ e];exact hn b
theorem RunS.re(h:RunS ir p R s O){a:Nat}{i c:Nat}{cs:List D}{es':List (List D)}{s':GoS}{ds:List D}(hr:RWAt O (rSz a) (.row i c cs) es')(hi:∀j,(RW.row i c cs).is j->(R a).is j)(aw:∀b,rCt (updF R a (.row i c cs)) s' b=updF (rCt R s) a es' b)(hd:ds=AM p (updF R a (.row i c cs)) s'):
  RunS ir p (updF R a (.row i c cs)) s' (O.set ir (.cells ds))/\RunK ir R O (updF R a (.row i c cs)) (O.set ir (.cells ds)):=by
 have hR:=(h.rows.re hr hi).retell aw
 have aN:∀b j,(updF R a (.row i c cs) b).is j->(R b).is j:=fun b j hb=>by
  by_cases e:b=a
  ·subst e;rw[Ah]at hb;exact hi j hb
  ·rwa [A7 _ _ e]at hb
 refine⟨⟨by rw[w6,hd],hR.keep fun j o hj ⟨b,hb⟩=>by rw[w7 _ _ fun e=>h.ni b (by rw[<-e];exact aN b j hb)];exact hj,fun b hb=>h.ni b (aN b _ hb),fun b es hb=>?_⟩,fun j o hj au hn=>⟨by rw[w7 _ _ au];exact hj,fun b hb=>hn b (aN b j hb)⟩⟩
 by_cases e:b=a
 ·subst e;rw[Ah]at hb;cases hb
 ·rw[A7 _ _ e]at hb;exact h.nf b es hb
@[simp] theorem Et(i c n:Nat)(cs:List D):(RW.row i c cs).d n=.sref i 0 n c:=rfl
@[simp] theorem cVal_tk(v:MVal):List.take 2 (cVal v)=cVal v:=rfl
@[simp] theorem cVal_mem(v:MVal)(d:D):(d∈cVal v)=(d=dI v.kind\/d=dI v.n):=by simp[cVal]
theorem Bi{l:List MVal}: ∀c∈l.map cVal,c.length=2:=fun c h=>by obtain⟨v,_,rfl⟩:=List.mem_map.1 h;rfl
theorem EX(R:Nat->RW)(a:Nat)(r:RW)(ha:a<4)(l:List MThing):tCells (fun k=>updF R a r (k+4)) l=tCells (fun k=>R (k+4)) l:=by
 unfold tCells
 congr 1
 funext k o
 simp only[A7 R r (show k+4≠a by omega)]
theorem rCt_0(R:Nat->RW)(r:RW)(s:GoS)(l:List MVal)(b:Nat):rCt (updF R 0 r) { s with stk:=l } b=updF (rCt R s) 0 (l.map cVal) b:=by
 match b with
 |0=>rfl
 |1=>rfl
 |2=>rfl
 |3=>exact EX R 0 r (by omega) _
 |k+4=>rfl
theorem rCt_1(R:Nat->RW)(r:RW)(s:GoS)(l:List MVal)(b:Nat):rCt (updF R 1 r) { s with env:=l } b=updF (rCt R s) 1 (l.map cVal) b:=by
 match b with
 |0=>rfl
 |1=>rfl
 |2=>rfl
 |3=>exact EX R 1 r (by omega) _
 |k+4=>rfl
theorem rCt_2(R:Nat->RW)(r:RW)(s:GoS)(l:List MEv)(b:Nat):rCt (updF R 2 r) { s with evs:=l } b=updF (rCt R s) 2 (l.map cEv) b:=by
 match b with
 |0=>rfl
 |1=>rfl
 |2=>rfl
 |3=>exact EX R 2 r (by omega) _
 |k+4=>rfl
theorem Bh(v:MVal)(hR:RunS ir p R s O)(hn:s.stk.length<=1000000):DCall prog 177 [.ptr ir 0,.agg (cVal v)] O fun x U'=>x=.ret (.bool false) /\ ∃R',RunS ir p R' { s with stk:=s.stk++[v] } U'/\RunK ir R O R' U':=by
 have q1:=hR.obj
 have q0:RWAt O 2 (R 0) (s.stk.map cVal):=hR.rows.ok 0
 have u1:(O.out (R 0).is) ir=some (.cells (AM p R s)):=Da q1 (hR.ni 0)
 refine en func177 ntmps177 ?_
 refine gf q1 ?_
 refine Fg (id:=1) [0,1,2,3,4,5,6,7,8,9,10,11] [8] (O.out (R 0).is) (Cm _ _) ?_
 refine gf u1 ?_ o177
 refine FW (es:=s.stk.map cVal) (fun i c cs U2 ap ay=>?_) (fun j o h=>Cn h) (hm:=q0)
 obtain⟨v1,v2⟩:=ay _ _ q1 (hR.ni 0)
 refine gf v1 ?_ o177
 rw[show s.stk.map cVal++[cVal v]=(s.stk++[v]).map cVal by simp]at ap
 obtain⟨p1,p2⟩:=hR.put (a:=0) (s':={ s with stk:=s.stk++[v] }) ap ay (rCt_0 R _ s _) rfl
 refine fin1 (U':=_) ⟨rfl,_,p1,p2⟩ (hU:=?_)
 simp[AM,Ag]
 exact Sub.refl _
theorem JK(l:List MVal)(v:MVal)(m:List MVal)(cs:List D):List.take 2 (List.drop (l.length*2) (((l++v::m).map cVal).flatten++cs))=cVal v:=by
 have e:((l++v::m).map cVal).flatten++cs=(l.map cVal).flatten++(cVal v++((m.map cVal).flatten++cs)):=by simp
 have h:(l.map cVal).flatten.length=l.length*2:=by rw[Au Bi];simp
 rw[e,<-h,List.drop_left];rfl
theorem Fo(l:List MVal)(cs:List D):((l.map cVal).flatten++cs).length=l.length*2+cs.length:=by
 rw[List.length_append,Au Bi];simp
theorem BO(r:List MVal)(v:MVal)(hR:RunS ir p R s O)(hs:s.stk=r++[v])(hn:s.stk.length<=1000000):DCall prog 181 [.ptr ir 0] O fun x U'=>x=.ret (.agg (cVal v)) /\ ∃R',RunS ir p R' { s with stk:=r } U'/\RunK ir R O R' U':=by
 have q1:=hR.obj
 obtain⟨i,c,cs,h0⟩:=hR.row 0 (by rw[rCt,hs];simp)
 have q0:RWAt O 2 (R 0) (s.stk.map cVal):=hR.rows.ok 0
 have aG:=hR.ni 0
 rw[h0,hs]at q0
 rw[h0]at aG
 have hl:s.stk.length=r.length+1:=by rw[hs];simp
 unfold AM at q1
 rw[h0,hl]at q1
 simp only[Et]at q1
 obtain⟨z1,z2,z3,z4⟩:=q0
 have hv:=JK r v [] cs
 have bk:((List.map cVal (r++[v])).flatten++cs).length=(r.length+1)*2+cs.length:=by rw[Fo];simp
 refine en func181 ntmps181 ?_
 refine gz ?_ [] [2]
 refine newV (fun i2 aq=>?_)
 have n1:ir≠i2:=fun e=>by rw[<-e,hR.obj]at aq;cases aq
 have n2:i≠i2:=fun e=>by rw[<-e,z1]at aq;cases aq
 have q2:(O.set i2 (.cells [.int .i64 0,.int .i64 0])) ir=_:=(w7 _ _ n1).trans q1
 have q3:(O.set i2 (.cells [.int .i64 0,.int .i64 0])) i=_:=(w7 _ _ n2).trans z1
 have hr:RWAt O 2 (.row i c (cVal v++cs)) (r.map cVal):=⟨by rw[z1];simp,by rw[<-List.append_assoc];simpa using z2,by simp only[List.length_map,List.length_append,List.length_singleton]at z3⊢; omega,Bi⟩
 generalize (List.map cVal (r++[v])).flatten++cs=L at*
 have aK:r.length*2+2<=L.length:=by omega
 refine gf (gi q1 (gi z1 (gi hv aK))) ?_ [] [2]
 simp only[List.length_map,List.length_append,List.length_singleton]at z3
 refine cutH (i:=i) (off:=0) (len:=r.length+1) (cap:=c) (hi:=r.length) ?_ (by omega)
 refine gf q1 ?_ [] [2]
 obtain⟨p1,p2⟩:=hR.re (a:=0) (s':={ s with stk:=r }) hr (by rw[h0];exact fun j h=>h) (rCt_0 R _ s _) rfl
 refine finC (U':=_) ⟨rfl,_,p1,p2⟩ (hU:=fun j o hj=>?_)
 by_cases e:j=ir
 ·subst e;rw[w6]at hj;rw[w7 _ _ n1,w6,<-hj];rfl
 ·rw[w7 _ _ e]at hj
  have e2:j≠i2:=fun h=>by rw[h,aq]at hj;cases hj
  rw[w7 _ _ e2,w7 _ _ e,w7 _ _ e2];exact hj
end
abbrev Na(p:BProg)(R:Nat->RW)(s:GoS)(av:D)(b:Bool)(h:GoH):List D:=
 [dI h.kind,dI h.val.kind,dI h.val.n,dI h.gen,av,dI h.fin]++(if b then [dI s.pos,(R 0).d s.stk.length,(R 1).d s.env.length] else [dI 0,.nils,.nils])++[(R 3).d s.objs.length,(R 2).d s.evs.length]++Ag p++[dI s.pos,(R 0).d s.stk.length,(R 1).d s.env.length]
structure HaltS(ir:Nat)(p:BProg)(R:Nat->RW)(s:GoS)(av:D)(b:Bool)(h:GoH)(O:Sig):Prop where
 obj:O ir=some (.cells (Na p R s av b h))
 rows:Rows O R rSz (rCt R s)
 ni:∀a, ¬(R a).is ir
 nf:∀a es,R a=.full es->es=[]
 args:WkD av (sl (h.args.map cVal))
 objs:h.objs=s.objs
 evs:h.evs=s.evs
 st:if b then h.pos=s.pos/\h.stk=s.stk/\h.env=s.env else h.pos=0/\h.stk=[]/\h.env=[]
section
variable {ir:Nat}{p:BProg}{R:Nat->RW}{s:GoS}{O:Sig}
theorem RunS.halt(h:RunS ir p R s O){av:D}{b:Bool}{k:GoH}{ds:List D}(hd:ds=Na p R s av b k)(ha:WkD av (sl (k.args.map cVal)))(ho:k.objs=s.objs)(he:k.evs=s.evs)(hs:if b then k.pos=s.pos/\k.stk=s.stk/\k.env=s.env else k.pos=0/\k.stk=[]/\k.env=[]):
  HaltS ir p R s av b k (O.set ir (.cells ds))/\RunK ir R O R (O.set ir (.cells ds)):=
 ⟨⟨by rw[w6,hd],h.rows.keep fun j o hj ⟨b,hb⟩=>by rw[w7 _ _ fun e=>h.ni b (by rw[<-e];exact hb)];exact hj,h.ni,h.nf,ha,ho,he,hs⟩,fun j o hj au hn=>⟨by rw[w7 _ _ au];exact hj,hn⟩⟩
theorem rCt_pos(R:Nat->RW)(s:GoS)(q:Int)(b:Nat):rCt R { s with pos:=q } b=rCt R s b:=by
 match b with
 |0=>rfl
 |1=>rfl
 |2=>rfl
 |3=>rfl
 |k+4=>rfl
theorem RunS.at(h:RunS ir p R s O)(q:Int){ds:List D}(hd:ds=AM p R { s with pos:=q }):RunS ir p R { s with pos:=q } (O.set ir (.cells ds))/\RunK ir R O R (O.set ir (.cells ds)):=
 ⟨⟨by rw[w6,hd],(h.rows.retell (rCt_pos R s q)).keep fun j o hj ⟨b,hb⟩=>by rw[w7 _ _ fun e=>h.ni b (by rw[<-e];exact hb)];exact hj,h.ni,h.nf⟩,fun j o hj au hn=>⟨by rw[w7 _ _ au];exact hj,hn⟩⟩
theorem Sq{ds:List D}{r0 r1:RW}{a:Int}{n m k:Nat}(h:O ir=some (.cells ds))(hl:k+3<=ds.length):DG tab O 34 (.ptr ir k) (.agg [dI a,r0.d n,r1.d m])=some (.any,O.set ir (.cells (ds.take k++[dI a,r0.d n,r1.d m]++ds.drop (k+3)))):=by
 have hf:¬ds.length<k+3:=by omega
 cases r0<;>cases r1<;>simp[DG,h,RW.d,hf]
theorem JP{ro:Ro}{n:Nat}{ops:Array Oper}{Q:DX->St->Prop}{df:List DDf}{rest:List Oper}{γ Sr:Fr}{ty:TypeId}{pos:String}{after:Array Edge}{x y:Operand}{ds:List D}{r0 r1:RW}{a:Int}{m m' k:Nat}(hc:O ir=some (.cells ds))(h:DOps prog ro n ops Q rest ⟨γ,O.set ir (.cells (ds.take k++[dI a,r0.d m,r1.d m']++ds.drop (k+3))),df⟩)
  (hl:A0 γ (A4 [x,y])=some Sr:=by exact tdR) (h1:ev Sr x=.ptr ir k:=by exact tdR) (h2:ev Sr y=.agg [dI a,r0.d m,r1.d m']:=by exact tdR) (hlen:k+3<=ds.length:=by simp) :
  DOps prog ro n ops Q (⟨none,.store 34 x y,ty,pos,after,none⟩::rest) ⟨γ,O,df⟩:=
 DH Ab (d:=.any) hl (by show DG tab O 34 (ev Sr x) (ev Sr y)=_;rw[h1,h2];exact Sq hc hlen) h
theorem Gf(e:Int)(stk:List MVal)(hR:RunS ir p R s O):DCall prog 178 [.ptr ir 0,dI e] O fun x U'=>x=.ret (.bool true)/\HaltS ir p R s .nils false (Fz s e stk) U'/\RunK ir R O R U':=by
 have q1:=hR.obj
 refine en func178 ntmps178 ?_
 refine gf q1 ?_
 obtain⟨p1,p2⟩:=hR.halt (av:=.nils) (b:=false) (k:=Fz s e stk) rfl (Ak _ (.inl rfl)) rfl rfl ⟨rfl,rfl,rfl⟩
 exact fin1 (U':=_) ⟨rfl,p1,p2⟩
theorem Rj(x:CIns)(hR:RunS ir p R s O)(hn:s.stk.length<=1000000):DCall prog 105 [.ptr ir 0,.agg (cIns x)] O fun r U'=>r=.ret (.bool false) /\ ∃R',RunS ir p R' { s with stk:=s.stk++[vInt x.a] } U'/\RunK ir R O R' U':=by
 refine en func105 ntmps105 ?_
 refine gz ?_
 refine A3 (Bh (vInt x.a) hR hn) (fun d S1 hr=>?_) (fun d S1 hr=>by cases hr.1)
 obtain⟨hd,hr⟩:=hr
 cases hd
 refine gz ?_
 exact fin1 (U':=S1) ⟨rfl,hr⟩
theorem Ri(x:CIns)(hR:RunS ir p R s O)(hn:s.stk.length<=1000000):DCall prog 106 [.ptr ir 0,.agg (cIns x)] O fun r U'=>r=.ret (.bool false) /\ ∃R',RunS ir p R' { s with stk:=s.stk++[E4] } U'/\RunK ir R O R' U':=by
 refine en func106 ntmps106 ?_
 refine gz ?_
 refine A3 (Bh E4 hR hn) (fun d S1 hr=>?_) (fun d S1 hr=>by cases hr.1)
 obtain⟨hd,hr⟩:=hr
 cases hd
 refine gz ?_
 exact fin1 (U':=S1) ⟨rfl,hr⟩
theorem R8(x:CIns)(r:List MVal)(v:MVal)(hR:RunS ir p R s O)(hs:s.stk=r++[v])(hn:s.stk.length<=1000000):DCall prog 116 [.ptr ir 0,.agg (cIns x)] O fun y U'=>y=.ret (.bool false) /\ ∃R',RunS ir p R' { s with stk:=r } U'/\RunK ir R O R' U':=by
 refine en func116 ntmps116 ?_
 refine gz ?_
 refine A3 (BO r v hR hs hn) (fun d S1 hr=>?_) (fun d S1 hr=>by cases hr.1)
 obtain⟨hd,hr⟩:=hr
 cases hd
 refine gz ?_
 exact fin1 (U':=S1) ⟨rfl,hr⟩
theorem R6(x:CIns)(hR:RunS ir p R s O):DCall prog 118 [.ptr ir 0,.agg (cIns x)] O fun y U'=>y=.ret (.bool false) /\ ∃R',RunS ir p R' { s with pos:=x.a } U'/\RunK ir R O R' U':=by
 have q1:=hR.obj
 refine en func118 ntmps118 ?_
 refine gf q1 ?_
 obtain⟨p1,p2⟩:=hR.at x.a rfl
 exact fin1 (U':=_) ⟨rfl,_,p1,p2⟩
theorem QY(x:CIns)(hR:RunS ir p R s O):DCall prog 120 [.ptr ir 0,.agg (cIns x)] O fun y U'=>y=.ret (.bool true)/\HaltS ir p R s .nils true ⟨3,vZ,0,[],0,s.pos,s.stk,s.env,s.objs,s.evs⟩ U'/\RunK ir R O R U':=by
 have q1:=hR.obj
 refine en func120 ntmps120 ?_
 refine gf q1 ?_
 obtain⟨p1,p2⟩:=hR.halt (av:=.nils) (b:=true) (k:=⟨3,vZ,0,[],0,s.pos,s.stk,s.env,s.objs,s.evs⟩) rfl (Ak _ (.inl rfl)) rfl rfl ⟨rfl,rfl,rfl⟩
 refine JP (w6 ..) ?_
 simp only[w8]
 refine gz ?_
 exact fin1 (U':=_) ⟨rfl,p1,p2⟩
theorem rowV{a:Nat}{l:List MVal}(h:RWAt O 2 (R a) (l.map cVal))(hne:R a≠.nil)(hf:∀es,R a=.full es->es=[]){n:Nat}(hn:n<l.length): ∃i c cs,R a=.row i c cs /\ ∃L,O i=some (.cells L)/\n*2+2<=L.length/\List.take 2 (List.drop (n*2) L)=cVal l[n]:=by
 cases hR:R a with
 |nil=>exact absurd hR hne
 |full es=>
  rw[hR]at h
  have:=hf es hR
  subst this
  obtain⟨h1,_⟩:=h
  simp at h1
  rw[h1]at hn
  simp at hn
 |row i c cs=>
  rw[hR]at h
  refine⟨i,c,cs,rfl,_,h.1,by rw[Fo];omega,?_⟩
  have e:l=l.take n++l[n]::l.drop (n+1):=by rw[<-Ac hn,List.take_append_drop]
  have hv:=JK (l.take n) l[n] (l.drop (n+1)) cs
  rw[<-e,List.length_take_of_le (by omega)]at hv
  exact hv
theorem Rh(x:CIns)(n:Nat)(hx:x.a=n)(hn:n<s.env.length)(hR:RunS ir p R s O)(hs:s.stk.length<=1000000)(br:s.env.length<=1000000):DCall prog 107 [.ptr ir 0,.agg (cIns x)] O fun y U'=>y=.ret (.bool false) /\ ∃R',RunS ir p R' { s with stk:=s.stk++[s.env[n]] } U'/\RunK ir R O R' U':=by
 have q1:=hR.obj
 have q0:RWAt O 2 (R 1) (s.env.map cVal):=hR.rows.ok 1
 obtain⟨i,c,cs,h0,L,z1,z2,z3⟩:=rowV q0 (fun e=>by rw[e]at q0;have:s.env.map cVal=[]:=q0;simp at this;rw[this]at hn;simp at hn) (hR.nf 1) hn
 unfold AM at q1
 rw[h0]at q1
 simp only[Et]at q1
 refine en func107 ntmps107 ?_
 refine gz ?_
 refine mixI (id:=1) [0,1,2,3,4,5,6,7,8,9,10,11] [10] [5,9] [10] (fun s=>s=O) rfl ?_
 refine iP _ ?_
 refine iP _ ?_
 refine iP _ ?_
 refine iP _ ?_
 refine iP _ ?_
 refine iR (.sref i 0 s.env.length c) (fun s hs=>?_) ?_
 ·rw[hs];simp[q1]
 refine iP _ ?_
 refine iP (dI n) ?_ (hd:=by rw[<-hx];with_unfolding_all rfl)
 refine iP (.ptr i (n*2)) ?_ (hd:=by simp;omega)
 refine iR (.agg (cVal s.env[n])) (fun s hs=>?_) ?_
 ·rw[hs];simp[z1,z2,z3]
 refine iW (fun _=>True) (Bh s.env[n] hR hs) (fun d S1 hr=>⟨trivial,?_⟩) (fun d S1 hr=>by cases hr.1)
 obtain⟨hd,hr⟩:=hr
 cases hd
 refine iP (.bool false) ?_
 refine iN ?_
 refine gz ?_ o107
 exact fin1 (U':=S1) ⟨rfl,hr⟩
end
section
variable {ir:Nat}{p:BProg}{R:Nat->RW}{s:GoS}{O:Sig}
theorem R7(x:CIns)(r:List MVal)(v:MVal)(hR:RunS ir p R s O)(hs:s.stk=r++[v])(hn:s.stk.length<=1000000):DCall prog 117 [.ptr ir 0,.agg (cIns x)] O fun y U'=>y=.ret (.bool false) /\ ∃R',RunS ir p R' { s with stk:=r,pos:=if AI v=0 then x.a else s.pos } U'/\RunK ir R O R' U':=by
 refine en func117 ntmps117 ?_
 refine gz ?_
 refine A3 (BO r v hR hs hn) (fun d S1 hr=>?_) (fun d S1 hr=>by cases hr.1)
 obtain⟨hd,R1,aa,ac⟩:=hr
 cases hd
 have q1:=aa.obj
 by_cases h:AI v=0
 ·rw[if_pos h]
  refine gf (gi q1 h) ?_
  obtain⟨p1,p2⟩:=aa.at x.a rfl
  exact fin1 (U':=_) ⟨rfl,_,p1,ac.trans p2⟩
 ·rw[if_neg h]
  refine gf (gi q1 h) ?_
  exact fin1 (U':=S1) ⟨rfl,_,aa,ac⟩
theorem QX(x:CIns)(r:List MVal)(v:MVal)(hR:RunS ir p R s O)(hs:s.stk=r++[v])(hn:s.stk.length<=1000000):DCall prog 121 [.ptr ir 0,.agg (cIns x)] O fun y U'=>y=.ret (.bool true) /\ ∃R',HaltS ir p R' { s with stk:=r } .nils false ⟨1,v,0,[],0,0,[],[],s.objs,s.evs⟩ U'/\RunK ir R O R' U':=by
 refine en func121 ntmps121 ?_
 refine gz ?_
 refine A3 (BO r v hR hs hn) (fun d S1 hr=>?_) (fun d S1 hr=>by cases hr.1)
 obtain⟨hd,R1,aa,ac⟩:=hr
 cases hd
 have q1:=aa.obj
 obtain⟨p1,p2⟩:=aa.halt (av:=.nils) (b:=false) (k:=⟨1,v,0,[],0,0,[],[],s.objs,s.evs⟩) rfl (Ak _ (.inl rfl)) rfl rfl ⟨rfl,rfl,rfl⟩
 refine gf q1 ?_
 exact fin1 (U':=_) ⟨rfl,_,p1,ac.trans p2⟩
theorem Ra(x:CIns)(r:List MVal)(v:MVal)(hR:RunS ir p R s O)(hs:s.stk=r++[v])(hn:s.stk.length<=1000000)(he:s.env.length<=1000000):DCall prog 114 [.ptr ir 0,.agg (cIns x)] O fun y U'=>y=.ret (.bool false) /\ ∃R',RunS ir p R' { s with stk:=r,env:=s.env++[v] } U'/\RunK ir R O R' U':=by
 refine en func114 ntmps114 ?_
 refine gz ?_ o114
 refine A3 (BO r v hR hs hn) (fun d S1 hr=>?_) (fun d S1 hr=>by cases hr.1)
 obtain⟨hd,R1,aa,ac⟩:=hr
 cases hd
 have q1:=aa.obj
 have q0:RWAt S1 2 (R1 1) (s.env.map cVal):=aa.rows.ok 1
 have u1:=Da q1 (aa.ni 1)
 refine gz ?_
 refine Fg (id:=2) [0,1,2,3,4,5,6,7,8,9,10,11] [8] (S1.out (R1 1).is) (Cm _ _) ?_
 refine gf u1 ?_ o114
 refine FW (es:=s.env.map cVal) (fun i c cs U2 ap ay=>?_) (fun j o h=>Cn h) (hm:=q0)
 obtain⟨v1,v2⟩:=ay _ _ q1 (aa.ni 1)
 refine gf v1 ?_ o114
 rw[show s.env.map cVal++[cVal v]=(s.env++[v]).map cVal by simp]at ap
 obtain⟨p1,p2⟩:=aa.put (a:=1) (s':={ s with stk:=r,env:=s.env++[v] }) ap ay (rCt_1 R1 _ { s with stk:=r } _) rfl
 refine fin1 (U':=_) ⟨rfl,_,p1,ac.trans p2⟩ (hU:=?_)
 simp[AM,Ag]
 exact Sub.refl _
theorem R9(x:CIns)(r:List MVal)(v:MVal)(hR:RunS ir p R s O)(hs:s.env=r++[v])(hn:s.env.length<=1000000):DCall prog 115 [.ptr ir 0,.agg (cIns x)] O fun y U'=>y=.ret (.bool false) /\ ∃R',RunS ir p R' { s with env:=r } U'/\RunK ir R O R' U':=by
 have q1:=hR.obj
 obtain⟨i,c,cs,h0⟩:=hR.row 1 (by rw[rCt,hs];simp)
 have q0:RWAt O 2 (R 1) (s.env.map cVal):=hR.rows.ok 1
 rw[h0,hs]at q0
 have hl:s.env.length=r.length+1:=by rw[hs];simp
 unfold AM at q1
 rw[h0,hl]at q1
 simp only[Et]at q1
 obtain⟨z1,z2,z3,z4⟩:=q0
 have hr:RWAt O 2 (.row i c (cVal v++cs)) (r.map cVal):=⟨by rw[z1];simp,by rw[<-List.append_assoc];simpa using z2,by simp only[List.length_map,List.length_append,List.length_singleton]at z3⊢; omega,Bi⟩
 simp only[List.length_map,List.length_append,List.length_singleton]at z3
 refine en func115 ntmps115 ?_
 refine gz ?_
 refine Fg (id:=1) [0,1,2,3,4,5,6,7,8,9,10,11,12,13,14,15,16] [] O (Sub.refl _) ?_
 refine gf q1 ?_ o115
 refine Pt Ab (i:=i) (off:=0) (len:=r.length+1) (cap:=c) (hi:=r.length) (e:=40) (k:=.i64) ?_ (by decide) (by simp<;>rfl) (by simp) tdR tdR (by omega)
 refine gf q1 ?_ o115
 obtain⟨p1,p2⟩:=hR.re (a:=1) (s':={ s with env:=r }) hr (by rw[h0];exact fun j h=>h) (rCt_1 R _ s _) rfl
 exact fin1 (U':=_) ⟨rfl,_,p1,p2⟩
theorem U7(n:Int):(if 1000000000<(if n < -1000000000 then -1000000000 else n) then(1000000000:Int) else if n < -1000000000 then -1000000000 else n)=Dx n:=by
 unfold Dx;rw[Int.min_def,Int.max_def];split<;>split<;>(repeat' split)<;>omega
theorem U6(b:Bool):Dx (Do b)=Do b:=by cases b<;>rfl
theorem mul_bnd{a b:Int}(ha : -1000000000<=a/\a<=1000000000)(hb : -1000000000<=b/\b<=1000000000): -1000000000000000000<=a*b/\a*b<=1000000000000000000:=by
 have h:=Int.natAbs_mul a b
 have h2:a.natAbs*b.natAbs<=1000000000*1000000000:=Nat.mul_le_mul (by omega) (by omega)
 omega
theorem Rb(x:CIns)(r:List MVal)(v w:MVal)(hx:9<=x.op/\x.op<=13)(hR:RunS ir p R s O)(hs:s.stk=r++[v,w])(hn:s.stk.length<=1000000)(hv : -1000000000<=AI v/\AI v<=1000000000)(hw : -1000000000<=AI w/\AI w<=1000000000):DCall prog 113 [.ptr ir 0,.agg (cIns x)] O fun y U'=>y=.ret (.bool false) /\ ∃R',RunS ir p R' { s with stk:=r++[Gq x.op v w] } U'/\RunK ir R O R' U':=by
 refine en func113 ntmps113 ?_
 refine gz ?_ o113
 refine A3 (BO (r++[v]) w hR (by rw[hs];simp) hn) (fun d S1 hr=>?_) (fun d S1 hr=>by cases hr.1)
 obtain⟨hd,R1,aa,ac⟩:=hr
 cases hd
 have hl:s.stk.length=r.length+2:=by rw[hs];simp
 refine gz ?_ o113
 refine A3 (BO r v aa rfl (by simp;omega)) (fun d U2 hr=>?_) (fun d U2 hr=>by cases hr.1)
 obtain⟨hd,R2,ai,ag⟩:=hr
 cases hd
 have bm:=mul_bnd hv hw
 have bb:IntKind.i64.wrap (AI v*AI w)=AI v*AI w:=As (by omega) (by omega)
 repeat' first|refine gz ?_ o113|apply gy<;>intro hh
 rotate_left 4
 ·refine eqlS _ (decide (v=w)) Nm N4 (Tu v w) ?_
  refine gz ?_ o113
  simp only[U7,U6]
  have e:Gq x.op v w=vInt (Do (decide (v=w))):=by unfold Gq;rw[if_neg (by assumption),if_neg (by assumption),if_neg (by assumption),if_neg (by assumption)]
  rw[e]
  refine A3 (Bh (vInt (Do (decide (v=w)))) ai (by simp;omega)) (fun d S3 hr=>?_) (fun d S3 hr=>by cases hr.1)
  obtain⟨hd,R3,ah,aj⟩:=hr
  cases hd
  refine gz ?_ o113
  exact fin1 (U':=S3) ⟨rfl,R3,ah,(ac.trans ag).trans aj⟩
 all_goals
  simp only[bb,U7,U6]
 ·have e:Gq x.op v w=vInt (Dx (AI v+AI w)):=by unfold Gq;rw[if_pos (by assumption)]
  rw[e]
  refine A3 (Bh (vInt (Dx (AI v+AI w))) ai (by simp;omega)) (fun d S3 hr=>?_) (fun d S3 hr=>by cases hr.1)
  obtain⟨hd,R3,ah,aj⟩:=hr
  cases hd
  refine gz ?_ o113
  exact fin1 (U':=S3) ⟨rfl,R3,ah,(ac.trans ag).trans aj⟩
 ·have e:Gq x.op v w=vInt (Dx (AI v-AI w)):=by unfold Gq;rw[if_neg (by assumption),if_pos (by assumption)]
  rw[e]
  refine A3 (Bh (vInt (Dx (AI v-AI w))) ai (by simp;omega)) (fun d S3 hr=>?_) (fun d S3 hr=>by cases hr.1)
  obtain⟨hd,R3,ah,aj⟩:=hr
  cases hd
  refine gz ?_ o113
  exact fin1 (U':=S3) ⟨rfl,R3,ah,(ac.trans ag).trans aj⟩
 ·have e:Gq x.op v w=vInt (Dx (AI v*AI w)):=by unfold Gq;rw[if_neg (by assumption),if_neg (by assumption),if_pos (by assumption)]
  rw[e]
  refine A3 (Bh (vInt (Dx (AI v*AI w))) ai (by simp;omega)) (fun d S3 hr=>?_) (fun d S3 hr=>by cases hr.1)
  obtain⟨hd,R3,ah,aj⟩:=hr
  cases hd
  refine gz ?_ o113
  exact fin1 (U':=S3) ⟨rfl,R3,ah,(ac.trans ag).trans aj⟩
 ·have e:Gq x.op v w=vInt (Do (decide (AI v<AI w))):=by unfold Gq;rw[if_neg (by assumption),if_neg (by assumption),if_neg (by assumption),if_pos (by assumption)]
  rw[e]
  refine A3 (Bh (vInt (Do (decide (AI v<AI w)))) ai (by simp;omega)) (fun d S3 hr=>?_) (fun d S3 hr=>by cases hr.1)
  obtain⟨hd,R3,ah,aj⟩:=hr
  cases hd
  refine gz ?_ o113
  exact fin1 (U':=S3) ⟨rfl,R3,ah,(ac.trans ag).trans aj⟩
end
def frV(l:List Init)(s:Int):MVal:=match l.find? (fun i=>decide (i.slot=s))with
 |some i=>vInt i.n
 |none=>E4
def A2(p:BProg):CWorld:=⟨fun c=>ownF p c&&okP p,hasP p,fun c=>(hasP p c).map (frV (DZ p c))⟩
theorem A5(S:Nat->RW)(l:List MThing):(tCells S l).length=l.length:=by unfold tCells;simp
theorem Bx(S:Nat->RW)(l:List MThing)(k:Nat)(h:k<l.length):(tCells S l)[k]? = some [dI (l[k]).cls,(S k).d (l[k]).slots.length]:=by
 unfold tCells;rw[List.getElem?_mapIdx,List.getElem?_eq_getElem h];rfl
theorem CD{S:Nat->RW}{l:List MThing}: ∀c∈tCells S l,c.length=2:=fun c h=>by
 obtain⟨k,hk⟩:=List.getElem?_of_mem h
 have hl:=(List.getElem?_eq_some_iff.1 hk).1
 rw[A5]at hl
 rw[Bx S l k hl]at hk
 cases hk;rfl
theorem Nb{es:List (List D)}(h2:∀c∈es,c.length=2){k:Nat}{a b:D}(hk:es[k]? = some [a,b])(cs:List D):(es.flatten++cs)[k*2]? = some a/\(es.flatten++cs)[k*2+1]? = some b:=by
 have hl:=(List.getElem?_eq_some_iff.1 hk).1
 have e:es=es.take k++[a,b]::es.drop (k+1):=by
  have:=(List.getElem?_eq_some_iff.1 hk).2
  rw[<-this,<-Ac hl,List.take_append_drop]
 have hf:(es.take k).flatten.length=k*2:=by rw[Au fun c hc=>h2 c (List.mem_of_mem_take hc),List.length_take_of_le (by omega)]
 rw[e,List.flatten_append,List.flatten_cons]
 simp only[List.append_assoc]
 constructor
 ·rw[List.getElem?_append_right (by omega),hf,Nat.sub_self];rfl
 ·rw[List.getElem?_append_right (by omega),hf,show k*2+1-k*2=1 by omega];rfl
section
variable {ir:Nat}{p:BProg}{R:Nat->RW}{s:GoS}{O:Sig}{v:MVal}
theorem Lf(v:MVal)(x:Int)(hp:p.wt<=1073741824)(hR:RunS ir p R s O)(hv:okV s.objs.length v=true)(ho:B8 (A2 p) s.objs=true):
  DCall prog 180 [.ptr ir 0,.agg (cVal v),dI x] O fun y U'=>U'=O/\((Bb (A2 p) s.objs v x<0/\y=.ret .nilp)\/(0<=Bb (A2 p) s.objs v x/\v.kind=3 /\ ∃i c cs,R (v.n.toNat+4)=.row i c cs/\y=.ret (.ptr i ((Bb (A2 p) s.objs v x).toNat*2)))):=by
 have q1:=hR.obj
 by_cases h3:v.kind=3
 rotate_left
 ·have hn:Bb (A2 p) s.objs v x<0:=by unfold Bb;rw[if_neg h3];omega
  refine en func180 ntmps180 ?_
  refine gf h3 ?_ o180
  exact fin1 (U':=O) ⟨rfl,.inl ⟨hn,rfl⟩⟩
 obtain⟨w1,w2,w3⟩:=EZ ho hv h3
 obtain⟨u1,u2,u3⟩:=(By.1 ho).2 _ w1
 obtain⟨n,hn⟩:∃n:Nat,v.n=n:=⟨v.n.toNat,by omega⟩
 have ae:n<s.objs.length:=by omega
 have ax:CH s.objs v.n=s.objs[n]:=by unfold CH;rw[hn,Int.toNat_natCast,List.getElem?_eq_getElem ae];rfl
 rw[ax]at u1 u2 u3
 have aF:Bb (A2 p) s.objs v x=idxG x (hasP p (s.objs[n]).cls) 0:=by unfold Bb;rw[if_pos h3,ax];rfl
 rw[aF]
 obtain⟨i,c,cs,h0⟩:=hR.row 3 (fun e=>by rw[rCt]at e;have:=congrArg List.length e;rw[A5]at this;simp at this;rw[this]at ae;simp at ae)
 have q0:=hR.rows.ok 3
 rw[h0]at q0
 obtain⟨z1,z2,z3,z4⟩:=q0
 obtain⟨y1,y2⟩:=Nb (CD (S:=fun k=>R (k+4)) (l:=s.objs)) (Bx _ _ n ae) cs
 rw[show rCt R s 3=tCells (fun k=>R (k+4)) s.objs from rfl]at z1
 generalize (tCells (fun k=>R (k+4)) s.objs).flatten++cs=L at*
 unfold AM at q1
 rw[h0]at q1
 simp only[Et]at q1
 have aB:(ownF p (s.objs[n]).cls&&okP p)=true:=u1
 have bp:(hasP p (s.objs[n]).cls).length<=1073741824:=by have a:=C8 p (s.objs[n]).cls;have b:=E1 p;omega
 have aH:(s.objs[n]).slots.length=(hasP p (s.objs[n]).cls).length:=u2
 by_cases aJ:idxG x (hasP p (s.objs[n]).cls) 0<0
 ·refine en func180 ntmps180 ?_
  refine gf (gi q1 (gi z1 (gi hn (gi y1 (gi y2 aB))))) ?_ o180
  exact fin1 (U':=O) ⟨rfl,.inl ⟨aJ,rfl⟩⟩
 ·obtain⟨m1,m2⟩:=GN (s:=x) (hasP p (s.objs[n]).cls) 0 (by omega)
  obtain⟨k,hk⟩:∃k:Nat,idxG x (hasP p (s.objs[n]).cls) 0=k:=⟨(idxG x (hasP p (s.objs[n]).cls) 0).toNat,by omega⟩
  have aw:rCt R s (n+4)=(s.objs[n]).slots.map cVal:=by show(((s.objs[n]?).getD ⟨0,[]⟩).slots.map cVal)=_;rw[List.getElem?_eq_getElem ae];rfl
  obtain⟨j,cj,csj,hj⟩:=hR.row (n+4) (fun e=>by rw[aw]at e;have:=congrArg List.length e;simp at this;rw[this]at aH;simp at aH;omega)
  rw[hj]at y2
  simp only[Et]at y2
  rw[hk]at m2
  refine en func180 ntmps180 ?_
  refine gf (gi q1 (gi z1 (gi hn (gi y1 (gi y2 (gi aB hk)))))) ?_ o180
  refine fin1 (U':=O) ⟨rfl,.inr ⟨by omega,h3,j,cj,csj,by rw[hn];exact hj,?_⟩⟩
  rw[hk];rfl
theorem OZ(hR:RunS ir p R s O)(hv:okV s.objs.length v=true)(ho:B8 (A2 p) s.objs=true){x:Int}(h0:0<=Bb (A2 p) s.objs v x)(h3:v.kind=3){i c:Nat}{cs:List D}(hi:R (v.n.toNat+4)=.row i c cs):
  ∃n k:Nat,v.n=n/\Bb (A2 p) s.objs v x=k /\ ∃(hn:n<s.objs.length) (hk:k<(s.objs[n]).slots.length),CH s.objs v.n=s.objs[n] /\ ∃L,L=((s.objs[n]).slots.map cVal).flatten++cs/\O i=some (.cells L)/\k*2+2<=L.length/\List.take 2 (List.drop (k*2) L)=cVal ((s.objs[n]).slots[k]):=by
 obtain⟨w1,w2,w3⟩:=EZ ho hv h3
 obtain⟨u1,u2,u3⟩:=(By.1 ho).2 _ w1
 obtain⟨n,hn⟩:∃n:Nat,v.n=n:=⟨v.n.toNat,by omega⟩
 have ae:n<s.objs.length:=by omega
 have ax:CH s.objs v.n=s.objs[n]:=by unfold CH;rw[hn,Int.toNat_natCast,List.getElem?_eq_getElem ae];rfl
 rw[ax]at u1 u2 u3
 have aF:Bb (A2 p) s.objs v x=idxG x (hasP p (s.objs[n]).cls) 0:=by unfold Bb;rw[if_pos h3,ax];rfl
 have aH:(s.objs[n]).slots.length=(hasP p (s.objs[n]).cls).length:=u2
 obtain⟨m1,m2⟩:=GN (s:=x) (hasP p (s.objs[n]).cls) 0 (by omega)
 obtain⟨k,hk⟩:∃k:Nat,idxG x (hasP p (s.objs[n]).cls) 0=k:=⟨(idxG x (hasP p (s.objs[n]).cls) 0).toNat,by omega⟩
 rw[hk]at m2 aF
 have ar:k<(s.objs[n]).slots.length:=by omega
 have aw:rCt R s (n+4)=(s.objs[n]).slots.map cVal:=by show(((s.objs[n]?).getD ⟨0,[]⟩).slots.map cVal)=_;rw[List.getElem?_eq_getElem ae];rfl
 have q:=hR.rows.ok (n+4)
 rw[show n=v.n.toNat by omega,hi]at q
 have z:=q.1
 rw[show v.n.toNat=n by omega,aw]at z
 refine⟨n,k,hn,aF,ae,ar,ax,_,rfl,z,by rw[Fo];omega,?_⟩
 have e:(s.objs[n]).slots=(s.objs[n]).slots.take k++(s.objs[n]).slots[k]::(s.objs[n]).slots.drop (k+1):=by rw[<-Ac ar,List.take_append_drop]
 have hv:=JK ((s.objs[n]).slots.take k) (s.objs[n]).slots[k] ((s.objs[n]).slots.drop (k+1)) cs
 rw[<-e,List.length_take_of_le (by omega)]at hv
 exact hv
theorem Rf(x:CIns)(r:List MVal)(v:MVal)(hp:p.wt<=1073741824)(hR:RunS ir p R s O)(hs:s.stk=r++[v])(hn:s.stk.length<=1000000)(hv:okV s.objs.length v=true)(ho:B8 (A2 p) s.objs=true):DCall prog 109 [.ptr ir 0,.agg (cIns x)] O fun y U'=> ∃R',RunK ir R O R' U' /\
  if Bb (A2 p) s.objs v x.a<0 then y=.ret (.bool true)/\HaltS ir p R' { s with stk:=r } .nils false (Fz s 5 r) U' else y=.ret (.bool false)/\RunS ir p R' { s with stk:=r++[((CH s.objs v.n).slots[(Bb (A2 p) s.objs v x.a).toNat]?).getD vZ] } U':=by
 have hl:s.stk.length=r.length+1:=by rw[hs];simp
 refine en func109 ntmps109 ?_
 refine gz ?_
 refine Hf (id:=1) [0,1,3,4,2,5,6] [2,5] (fun _=>none) (fun _ _ h=>by cases h) ?_
 refine gz ?_ o109
 refine Bt (BO r v hR hs hn) (fun d S1 hr=>?_) (fun d S1 hr=>by cases hr.1)
 obtain⟨hd,R1,aa,ac⟩:=hr
 cases hd
 refine⟨(fun _ _ h=>by cases h),?_⟩
 refine Bt (Lf v x.a hp aa hv ho) (fun d U2 hr=>?_) (fun d U2 hr=>by rcases hr.2 with⟨_,h⟩|⟨_,_,_,_,_,_,h⟩<;>cases h)
 obtain⟨rfl,hr⟩:=hr
 refine⟨(fun _ _ h=>by cases h),?_⟩
 rcases hr with⟨h0,hd⟩|⟨h0,h3,i,c,cs,hi,hd⟩
 ·cases hd
  refine gz ?_ o109
  refine A3 (Gf 5 r aa) (fun d S3 hr=>?_) (fun d S3 hr=>by cases hr.1)
  obtain⟨hd,h1,h2⟩:=hr
  cases hd
  refine gz ?_ o109
  exact fin1 (U':=S3) ⟨R1,ac.trans h2,by rw[if_pos h0];exact⟨rfl,h1⟩⟩
 ·obtain⟨n,k,e1,e2,ae,ar,e3,L,hL,z1,z2,z3⟩:=OZ aa hv ho h0 h3 hi
  have e4:Bb (A2 p) s.objs v x.a=k:=e2
  obtain rfl:d=.ptr i (k*2):=by cases hd;show D.ptr i ((Bb (A2 p) s.objs v x.a).toNat*2)=_;rw[e4];rfl
  have e5:((CH s.objs v.n).slots[(Bb (A2 p) s.objs v x.a).toNat]?).getD vZ=(s.objs[n]'ae).slots[k]'ar:=by
   rw[e4,show CH s.objs v.n=s.objs[n]'ae from e3,Int.toNat_natCast,List.getElem?_eq_getElem ar];rfl
  refine gf (gi z1 (gi z2 z3)) ?_ o109
  refine A3 (Bh ((s.objs[n]'ae).slots[k]'ar) aa (by simp;omega)) (fun d S3 hr=>?_) (fun d S3 hr=>by cases hr.1)
  obtain⟨hd,R3,ah,aj⟩:=hr
  cases hd
  refine gz ?_ o109
  exact fin1 (U':=S3) ⟨R3,ac.trans aj,by rw[if_neg (by omega),e5];exact⟨rfl,ah⟩⟩
end
end Go.DL
