/- A part of the proof. -/
import Derived.Test.YtlfimpogphmbdaaGreatQ19
set_option linter.all false
namespace Go.DL
open Go.Proofs.Tryz
open Go Go.Proofs
set_option maxHeartbeats 8000000
theorem MA(op:Int)(s:Str)(l:fH)(o:Own)(V:Sig):au prog 95 [dI op,.str s,.slice l o] V (rS (.agg [dI op,dI 0,.str s,.slice l o]) V):=by
 refine en func95 ntmps95 ?_
 refine gz ?_ [] [6]
 refine newV (fun i hi=>?_)
 refine gz ?_ [] [6]
 exact finC (S':=V) ⟨rfl,rfl⟩
@[reducible,instance] def a95:=fun op s l o V=>ah0 (@MA op s l o V)
def shpB(e:aB):Bool:=BT (hasM e.op shapesL) (getM ⟨false,0,0⟩ e.op shapesL) e
theorem Uy(e:aB)(V:Sig)(hw:e.wt<=1073741824):au prog 249 [.agg (Al e)] V (rS (.bool (shpB e)) V):=by
 obtain⟨w1,w2,fJ⟩:=e.wt_le
 have iF:inB 0=true:=by decide
 have f9:((e.ah.length:Int)=0)=(e.ah=[]):=by rw[<-bC];exact propext ⟨fun h=>by omega,fun h=>by omega⟩
 refine en func249 ntmps249 ?_
 rcases bK (e.op=1)with h1|h1
 ·have hB:shpB e=BT true ⟨false,0,0⟩ e:=by unfold shpB;rw[h1];rfl
  rw[hB]
  unfold BT
  have iI:(decide (e.n=0)||(decide (e.op=1)&&inB e.n))=inB e.n:=by rw[h1];by_cases hn:e.n=0<;>simp[hn,iF]
  rw[iI]
  repeat' first|refine gf h1 ?_|apply gy<;>intro hh
  all_goals refine fin1 (S':=V) ⟨?_,rfl⟩
  all_goals first|(simp_all;done)|(rw[A5,aO];simp_all<;>omega)
 rcases bK (e.op=2)with h2|h2
 ·have hB:shpB e=BT true ⟨false,0,0⟩ e:=by unfold shpB;rw[h2];rfl
  rw[hB]
  unfold BT
  repeat' first|refine gf h2 ?_|apply gy<;>intro hh
  all_goals refine fin1 (S':=V) ⟨?_,rfl⟩
  all_goals first|(simp_all;done)|(rw[A5,aO];simp_all<;>omega)
 rcases bK (e.op=18)with fN|fN
 ·have hB:shpB e=BT true ⟨false,0,0⟩ e:=by unfold shpB;rw[fN];rfl
  rw[hB]
  unfold BT
  repeat' first|refine gf fN ?_|apply gy<;>intro hh
  all_goals refine fin1 (S':=V) ⟨?_,rfl⟩
  all_goals first|(simp_all;done)|(rw[A5,aO];simp_all<;>omega)
 rcases bK (e.op=3)with h3|h3
 ·have hB:shpB e=BT true ⟨true,0,0⟩ e:=by unfold shpB;rw[h3];rfl
  rw[hB]
  unfold BT
  repeat' first|refine gf h3 ?_|apply gy<;>intro hh
  all_goals refine fin1 (S':=V) ⟨?_,rfl⟩
  all_goals first|(simp_all;done)|(rw[A5,aO];simp_all<;>omega)
 rcases bK (e.op=6)with h6|h6
 ·have hB:shpB e=BT true ⟨true,0,0⟩ e:=by unfold shpB;rw[h6];rfl
  rw[hB]
  unfold BT
  repeat' first|refine gf h6 ?_|apply gy<;>intro hh
  all_goals refine fin1 (S':=V) ⟨?_,rfl⟩
  all_goals first|(simp_all;done)|(rw[A5,aO];simp_all<;>omega)
 rcases bK (e.op=4)with h4|h4
 ·have hB:shpB e=BT true ⟨true,1,1⟩ e:=by unfold shpB;rw[h4];rfl
  rw[hB]
  unfold BT
  repeat' first|refine gf h4 ?_|apply gy<;>intro hh
  all_goals refine fin1 (S':=V) ⟨?_,rfl⟩
  all_goals first|(simp_all;done)|(rw[A5,aO];simp_all<;>omega)
 rcases bK (e.op=8)with h8|h8
 ·have hB:shpB e=BT true ⟨true,1,1⟩ e:=by unfold shpB;rw[h8];rfl
  rw[hB]
  unfold BT
  repeat' first|refine gf h8 ?_|apply gy<;>intro hh
  all_goals refine fin1 (S':=V) ⟨?_,rfl⟩
  all_goals first|(simp_all;done)|(rw[A5,aO];simp_all<;>omega)
 rcases bK (e.op=7)with h7|h7
 ·have hB:shpB e=BT true ⟨true,2,2⟩ e:=by unfold shpB;rw[h7];rfl
  rw[hB]
  unfold BT
  repeat' first|refine gf h7 ?_|apply gy<;>intro hh
  all_goals refine fin1 (S':=V) ⟨?_,rfl⟩
  all_goals first|(simp_all;done)|(rw[A5,aO];simp_all<;>omega)
 rcases bK (e.op=9)with h9|h9
 ·have hB:shpB e=BT true ⟨true,2,2⟩ e:=by unfold shpB;rw[h9];rfl
  rw[hB]
  unfold BT
  repeat' first|refine gf h9 ?_|apply gy<;>intro hh
  all_goals refine fin1 (S':=V) ⟨?_,rfl⟩
  all_goals first|(simp_all;done)|(rw[A5,aO];simp_all<;>omega)
 rcases bK (e.op=5)with h5|h5
 ·have hB:shpB e=BT true ⟨true,1,3⟩ e:=by unfold shpB;rw[h5];rfl
  rw[hB]
  unfold BT
  have jc:decide (e.op=1)=false:=by rw[h5];rfl
  obtain hq|hq|hq|hq|hq:e.ah.length=0\/e.ah.length=1\/e.ah.length=2\/e.ah.length=3\/4<=e.ah.length:=by omega
  ·repeat' first|refine gf (gi h5 hq) ?_|apply gy<;>intro hh
   all_goals refine fin1 (S':=V) ⟨?_,rfl⟩
   all_goals (clear fJ f9;first|(simp_all;done)|(rw[A5,aO];simp[h5,hq];omega)|skip)
  ·repeat' first|refine gf (gi h5 hq) ?_|apply gy<;>intro hh
   all_goals refine fin1 (S':=V) ⟨?_,rfl⟩
   all_goals (clear fJ f9;first|(simp_all;done)|(rw[A5,aO];simp[h5,hq];omega)|skip)
  ·repeat' first|refine gf (gi h5 hq) ?_|apply gy<;>intro hh
   all_goals refine fin1 (S':=V) ⟨?_,rfl⟩
   all_goals (clear fJ f9;first|(simp_all;done)|(rw[A5,aO];simp[h5,hq];omega)|skip)
  ·repeat' first|refine gf (gi h5 hq) ?_|apply gy<;>intro hh
   all_goals refine fin1 (S':=V) ⟨?_,rfl⟩
   all_goals (clear fJ f9;first|(simp_all;done)|(rw[A5,aO];simp[h5,hq];omega)|skip)
  ·repeat' first|refine gf h5 ?_|apply gy<;>intro hh
   all_goals refine fin1 (S':=V) ⟨?_,rfl⟩
   all_goals (clear fJ f9;first|(simp_all;done)|(rw[A5,aO];simp[h5,hq];omega)|skip)
 rcases bK (e.op=10)with fL|fL
 ·have hB:shpB e=BT true ⟨false,3,3⟩ e:=by unfold shpB;rw[fL];rfl
  rw[hB]
  unfold BT
  repeat' first|refine gf fL ?_|apply gy<;>intro hh
  all_goals refine fin1 (S':=V) ⟨?_,rfl⟩
  all_goals first|(simp_all;done)|(rw[A5,aO];simp_all<;>omega)
 rcases bK (e.op=17)with gk|gk
 ·have hB:shpB e=BT true ⟨false,1,1⟩ e:=by unfold shpB;rw[gk];rfl
  rw[hB]
  unfold BT
  repeat' first|refine gf gk ?_|apply gy<;>intro hh
  all_goals refine fin1 (S':=V) ⟨?_,rfl⟩
  all_goals first|(simp_all;done)|(rw[A5,aO];simp_all<;>omega)
 rcases bK (e.op=11)with gw|gw
 ·have hB:shpB e=BT true ⟨false,2,2⟩ e:=by unfold shpB;rw[gw];rfl
  rw[hB]
  unfold BT
  repeat' first|refine gf gw ?_|apply gy<;>intro hh
  all_goals refine fin1 (S':=V) ⟨?_,rfl⟩
  all_goals first|(simp_all;done)|(rw[A5,aO];simp_all<;>omega)
 rcases bK (e.op=12)with gv|gv
 ·have hB:shpB e=BT true ⟨false,2,2⟩ e:=by unfold shpB;rw[gv];rfl
  rw[hB]
  unfold BT
  repeat' first|refine gf gv ?_|apply gy<;>intro hh
  all_goals refine fin1 (S':=V) ⟨?_,rfl⟩
  all_goals first|(simp_all;done)|(rw[A5,aO];simp_all<;>omega)
 rcases bK (e.op=13)with gu|gu
 ·have hB:shpB e=BT true ⟨false,2,2⟩ e:=by unfold shpB;rw[gu];rfl
  rw[hB]
  unfold BT
  repeat' first|refine gf gu ?_|apply gy<;>intro hh
  all_goals refine fin1 (S':=V) ⟨?_,rfl⟩
  all_goals first|(simp_all;done)|(rw[A5,aO];simp_all<;>omega)
 rcases bK (e.op=14)with gr|gr
 ·have hB:shpB e=BT true ⟨false,2,2⟩ e:=by unfold shpB;rw[gr];rfl
  rw[hB]
  unfold BT
  repeat' first|refine gf gr ?_|apply gy<;>intro hh
  all_goals refine fin1 (S':=V) ⟨?_,rfl⟩
  all_goals first|(simp_all;done)|(rw[A5,aO];simp_all<;>omega)
 rcases bK (e.op=15)with go|go
 ·have hB:shpB e=BT true ⟨false,2,2⟩ e:=by unfold shpB;rw[go];rfl
  rw[hB]
  unfold BT
  repeat' first|refine gf go ?_|apply gy<;>intro hh
  all_goals refine fin1 (S':=V) ⟨?_,rfl⟩
  all_goals first|(simp_all;done)|(rw[A5,aO];simp_all<;>omega)
 rcases bK (e.op=16)with gn|gn
 ·have hB:shpB e=BT true ⟨false,2,2⟩ e:=by unfold shpB;rw[gn];rfl
  rw[hB]
  unfold BT
  repeat' first|refine gf gn ?_|apply gy<;>intro hh
  all_goals refine fin1 (S':=V) ⟨?_,rfl⟩
  all_goals first|(simp_all;done)|(rw[A5,aO];simp_all<;>omega)
 have hB:shpB e=false:=by
  have hh:hasM e.op shapesL=false:=by
   show(decide (e.op=1)||(decide (e.op=2)||(decide (e.op=18)||(decide (e.op=3)||(decide (e.op=6)||(decide (e.op=4)||(decide (e.op=8)||(decide (e.op=7)||(decide (e.op=9)||(decide (e.op=5)||(decide (e.op=10)||(decide (e.op=17)||(decide (e.op=11)||(decide (e.op=12)||(decide (e.op=13)||(decide (e.op=14)||(decide (e.op=15)||(decide (e.op=16)||false))))))))))))))))))=false
   rw[aV h1,aV h2,aV fN,aV h3,aV h6,aV h4,aV h8,aV h7,aV h9,aV h5,aV fL,aV gk,aV gw,aV gv,aV gu,aV gr,aV go,aV gn]
   rfl
  unfold shpB BT;rw[hh];rfl
 rw[hB]
 repeat' first|refine gz ?_|apply gy<;>intro hh
 any_goals (first|exact fe1 trivial|fail)
@[reducible,instance] def a249:=fun e V=>ah1 (@Uy e V)
mutual
def cntE:aB->Int->Int->Bool×Int
 |.mk o n t k,d,b=>if b-1<0\/12<d\/shpB (.mk o n t k)=false then(false,b-1) else Fm k (d+1) (b-1)
def Fm:List aB->Int->Int->Bool×Int
 |[],_,b=>(true,b)
 |x::r,d,b=>if(cntE x d b).1=true then Fm r d (cntE x d b).2 else(false,(cntE x d b).2)
end
theorem W9(e:aB)(d b:Int):cntE e d b=if b-1<0\/12<d\/shpB e=false then(false,b-1) else Fm e.ah (d+1) (b-1):=by cases e;rw[cntE];rfl
mutual
theorem W8: ∀(e:aB) (d b:Int),(cntE e d b).2<=b/\(0<=b-> -1<=(cntE e d b).2)/\((cntE e d b).1=true->0<=(cntE e d b).2)
 | .mk o n t k,d,b=>by
  rw[cntE]
  split
  ·refine⟨?_,?_,?_⟩<;>simp<;>omega
  ·have:=QV k (d+1) (b-1)
   exact⟨by omega,fun h=>this.2.1 (by omega),fun h=>this.2.2 (by omega) h⟩
theorem QV: ∀(l:List aB) (d b:Int),(Fm l d b).2<=b/\(0<=b-> -1<=(Fm l d b).2)/\(0<=b->(Fm l d b).1=true->0<=(Fm l d b).2)
 |[],d,b=>by rw[Fm];exact⟨dC _,fun h=>by simp;omega,fun h _=>h⟩
 | x::r,d,b=>by
  have h1:=W8 x d b
  rw[Fm]
  split
  ·rename_i h
   have h2:=QV r d (cntE x d b).2
   have:=h1.2.2 h
   exact⟨by omega,fun _=>h2.2.1 this,fun _ h3=>h2.2.2 this h3⟩
  ·exact⟨h1.1,h1.2.1,fun _ h3=>by cases h3⟩
end
theorem RR(ib:Nat): ∀(n:Nat) (e:aB) (d b:Int) (V:Sig),e.wt<=n->n<=1073741824->0<=d->d+n<=2000000000->0<=b->b<=1000->V ib=some (.cells [dI b])->
  au prog 208 [.agg (Al e),dI d,.ptr ib 0] V fun x S'=>x=.ret (.bool (cntE e d b).1)/\S'=V.set ib (.cells [dI (cntE e d b).2]):=by
 intro n
 induction n with
 |zero=>
  intro e d b V hx
  have:=e.wt_pos
  omega
 | succ n ih =>
  intro e d b V hx hn hd iJ fY d9 o1
  obtain⟨w1,w2,fJ⟩:=e.wt_le
  have iX:e.wt<=1073741824:=by omega
  refine en func208 ntmps208 ?_
  by_cases fX:b-1<0\/12<d\/shpB e=false
  ·have hc:cntE e d b=(false,b-1):=by rw[W9,aS fX]
   rw[hc]
   by_cases h1:b-1<0
   ·refine gf o1 ?_
    exact fin1 (S':=V.set ib (.cells [dI (b-1)])) ⟨rfl,rfl⟩
   ·by_cases h2:12<d
    ·refine gf o1 ?_
     exact fin1 (S':=V.set ib (.cells [dI (b-1)])) ⟨rfl,rfl⟩
    ·have h3:shpB e=false:=by grind
     refine gf (gi o1 h3) ?_
     exact fin1 (S':=V.set ib (.cells [dI (b-1)])) ⟨rfl,rfl⟩
  ·have hc:cntE e d b=Fm e.ah (d+1) (b-1):=by rw[W9,aN fX]
   have h1:0<=b-1:=by omega
   have h2:d<=12:=by omega
   have h3:shpB e=true:=by cases h:shpB e;exact absurd (.inr (.inr h)) fX;rfl
   rw[hc]
   refine gf (gi o1 h3) ?_
   refine AB [1,2,3] (fun (k:Nat) (c:Int)=>k<=e.ah.length/\0<=c/\c<=b/\Fm e.ah (d+1) (b-1)=Fm (e.ah.drop k) (d+1) c) (fun k _=>[(7,dI k)]) (fun _ c=>V.set ib (.cells [dI c])) (fun k _=>e.ah.length-k) (0) (b-1) (by exact⟨by omega,by omega,by omega,rfl⟩) (fun k c hI=>?_)
   obtain⟨hk,iO,jd,hR⟩:=hI
   by_cases d6:k<e.ah.length
   ·rw[A2 d6,Fm]at hR
    have gG:=W8 e.ah[k] (d+1) c
    refine gz ?_
    refine Ac (ih e.ah[k] (d+1) c _ (by have:=fJ k d6;omega) (by omega) (by omega) (by omega) iO (by omega) (w7 ..)) (fun x S' hr=>?_) (fun x S' hr=>by cases hr.1)
    obtain⟨e1,rfl⟩:=hr
    cases e1
    cases hq:(cntE e.ah[k] (d+1) c).1
    ·rw[aN (by rw[hq];simp)]at hR
     rw[hR]
     refine gz ?_
     exact fin1 (S':=V.set ib (.cells [dI (cntE e.ah[k] (d+1) c).2])) ⟨rfl,rfl⟩ (by rw[w9];exact Sub.refl _)
    ·rw[aS hq]at hR
     refine gz ?_
     exact⟨k+1,(cntE e.ah[k] (d+1) c).2,⟨by omega,gG.2.2 hq,by omega,hR⟩,td1,wkR⟩
   ·rw[A1 d6,Fm]at hR
    rw[hR]
    refine gz ?_
    exact fin1 (S':=V.set ib (.cells [dI c])) ⟨rfl,rfl⟩
theorem VA(e:aB)(V:Sig)(hw:e.wt<=1073741824):au prog 122 [.agg (Al e)] V (rS (.bool (cntE e 1 120).1) V):=by
 refine en func122 ntmps122 ?_
 refine gz ?_ [] [3]
 refine newV (fun ib gV=>?_)
 refine gz ?_ [] [3]
 refine Ac (RR ib _ e 1 120 _ (bm _) hw (by omega) (by omega) (by omega) (by omega) (w7 ..)) (fun x S' hr=>?_) (fun x S' hr=>by cases hr.1)
 obtain⟨e1,rfl⟩:=hr
 cases e1
 refine gz ?_ [] [3]
 exact fin1 (S':=V) ⟨rfl,rfl⟩ (by rw[w9];exact(Sub.refl _).set gV)
@[reducible,instance] def a122:=fun e V=>ah1 (@VA e V)
theorem Uq(l:fD)(s:Str)(o:Own)(V:Sig)(hl:l.length<=1073741824):au prog 285 [.slice (cS l) o,.str s] V (rS (sl (cS (ins s l))) V):=by
 refine en func285 ntmps285 ?_
 by_cases hs:s∈l
 ·have hi:ins s l=l:=by unfold ins;rw[aS hs]
  rw[hi]
  refine gf hs ?_
  exact fin1 (S':=V) ⟨rfl,rfl⟩
 ·have hi:ins s l=l++[s]:=by unfold ins;rw[aN hs]
  rw[hi]
  refine gf hs ?_
  refine appN (fun i hi=>?_)
  refine gz ?_
  refine fin1 (S':=V) ⟨rfl,rfl⟩ ?_ (hw:=?_)
  ·exact(Sub.refl _).set hi
  ·refine C3 _ ?_;simp[cS]
@[reducible,instance] def a285:=fun l s o V=>ah1 (@Uq l s o V)
@[simp] theorem binD_lssS(a b:Str):binD .lss (.str a) (.str b)=some (.bool (Op.bytesLess a b)):=rfl
theorem RH(l:fD)(o:Own)(V:Sig)(hl:l.length<=1073741824):au prog 250 [.slice (cS l) o] V fun x S'=>(∃l':fD,x=.ret (sl (cS l'))/\(∀x,x∈l' ↔ x∈l)/\l'.length<=l.length)/\S'=V:=by
 refine en func250 ntmps250 ?_
 refine gz ?_ o250
 refine AB [0,2,58] (fun (k:Nat) (out:fD)=>k<=l.length/\out.length<=k/\(∀x,x∈out ↔ x∈l.take k)) (fun k out=>[(4,dI k),(3,sl (cS out))]) (fun _ _=>V) (fun k _=>l.length-k) (0) ([]) (by simp) (fun k out hI=>?_)
 obtain⟨hk,gc,hR⟩:=hI
 by_cases d6:k<l.length
 ·have fP:=bE d6
  generalize gg:l[k]=s at*
  refine gz ?_ o250
  refine B5 [0,2,3,4,6,7,8,9,10,11,29,30,31,32,33,34,35,36,37,38,39,40,41,42,43,44,45,46,47,48,49,50,51,52,53,54,55,56,57,58] (fun (j:Nat)=>j<=out.length) (fun j=>[(5,dI j)]) (fun _=>V) (fun j=>out.length-j) (0) (by omega) (fun j hI=>?_)
  have gR:∀x:Str,x∈out.take j++s::out.drop j ↔ x=s\/x∈out:=fun x=>by
   rw[bk,aY]
   conv=>rhs;rw[<-dA j out,bk]
   exact⟨fun h=>by rcases h with h|h|h<;>simp[h],fun h=>by rcases h with h|h|h<;>simp[h]⟩
  by_cases hj:j<out.length
  ·generalize gQ:out[j]=y at*
   repeat' first|refine gf (gi gg gQ) ?_ o250|apply gy<;>intro hh
   ·exact⟨j+1,by omega,td1,wkR⟩
   ·refine Qd (fun i hi=>?_)
    refine gf gg ?_ o250
    exact⟨k+1,out.take j++s::out.drop j,⟨by omega,by simp;omega,fun x=>by rw[gR,fP,bk,<-hR];simp only[bM];exact or_comm⟩,td1,wkR⟩
   ·have gF:y∈out:=by rw[<-gQ];exact aJ hj
    exact⟨k+1,out,⟨by omega,by omega,fun x=>by rw[fP,bk,<-hR];simp only[bM];exact⟨.inl,fun h=>h.elim id fun e=>by rw[e,<-hh];exact gF⟩⟩,td1,wkR⟩
  ·refine gf gg ?_ o250
   refine Qd (fun i hi=>?_)
   refine gf gg ?_ o250
   exact⟨k+1,out.take j++s::out.drop j,⟨by omega,by simp;omega,fun x=>by rw[gR,fP,bk,<-hR];simp only[bM];exact or_comm⟩,td1,wkR⟩
 ·refine gz ?_ o250
  have e:l.take k=l:=bA (by omega)
  rw[e]at hR
  refine fin1 (S':=V) (d':=sl (cS out)) ⟨⟨out,rfl,hR,by omega⟩,rfl⟩
mutual
def D9:aB->fD->fD
 |.mk o n t k,b=>if o=3/\t∉b then [t] else C6 o t k 0 b
def C6(o:Int)(t:Str):List aB->Nat->fD->fD
 |[],_,_=>[]
 |x::r,i,b=>D9 x (if o=9/\i=1 then ins t b else b)++C6 o t r (i+1) b
end
theorem TL(e:aB)(b:fD):D9 e b=if e.op=3/\e.text∉b then [e.text] else C6 e.op e.text e.ah 0 b:=by cases e;rw[D9];rfl
mutual
theorem EN: ∀(e:aB) (b:fD),(D9 e b).length<=e.wt
 |.mk o n t k,b=>by
  have hw:(aB.mk o n t k).wt=1+t.length+wtL aB.wt k:=aB.wt_eq _
  rw[D9]
  split
  ·simp;omega
  ·have:=JI o t k 0 b;omega
theorem JI(o:Int)(t:Str): ∀(l:List aB) (i:Nat) (b:fD),(C6 o t l i b).length<=wtL aB.wt l
 |[],_,_=>by rw[C6];simp
 |x::r,i,b=>by
  have h1:=EN x (if o=9/\i=1 then ins t b else b)
  have h2:=JI o t r (i+1) b
  rw[C6,aH,wtL];omega
end
theorem TQ{α:Type}[DecidableEq α](k:α)(s:List α):(ins k s).length<=s.length+1:=by unfold ins;split<;>simp
theorem Ux: ∀(n:Nat) (e:aB) (b:fD) (o:Own) (V:Sig),e.wt<=n->b.length+n<=1073741824->au prog 251 [.agg (Al e),.slice (cS b) o] V (rS (sl (cS (D9 e b))) V):=by
 intro n
 induction n with
 |zero=>
  intro e b o V hx
  have:=e.wt_pos
  omega
 | succ n ih =>
  intro e b o V hx hn
  obtain⟨w1,w2,fJ⟩:=e.wt_le
  have hlen:=EN e b
  have fW:b.length<=1073741824:=by omega
  rw[TL]at hlen⊢
  refine en func251 ntmps251 ?_
  by_cases h3:e.op=3/\e.text∉b
  ·rw[aS h3]
   obtain⟨h3,h4⟩:=h3
   refine gf (gi h3 h4) ?_
   exact fin1 (S':=V) ⟨rfl,rfl⟩
  ·rw [aN h3] at hlen ⊢
   have hq:e.op=3->e.text∈b:=fun h=>Decidable.byContradiction fun h4=>h3 ⟨h,h4⟩
   by_cases gL:e.op=3
   ·have h4:=hq gL
    refine gf (gi gL h4) ?_
    refine Bv 5 1 (fun i hi=>?_)
    refine AB [1,2,4,49] (fun (k:Nat) (out:fD)=>k<=e.ah.length/\C6 e.op e.text e.ah 0 b=out++C6 e.op e.text (e.ah.drop k) k b) (fun k out=>[(6,dI k),(5,.slice (cS out) (.tag i))]) (fun _ out=>V.set i (.tail 1 out.length)) (fun k _=>e.ah.length-k) (0) ([]) (by simp) (fun k out hI=>?_)
    obtain⟨hk,hR⟩:=hI
    have gc:out.length<=(C6 e.op e.text e.ah 0 b).length:=by rw[hR,aH];omega
    by_cases d6:k<e.ah.length
    ·rw[A2 d6,C6]at hR
     have gM:=fJ k d6
     have f6:=EN (e.ah[k]) (if e.op=9/\k=1 then ins e.text b else b)
     generalize e9:e.ah[k]=x at*
     have i251:∀(b':fD) (o:Own) (V:Sig),Ans 251 [.agg (Al x),.slice (cS b') o] V (b'.length<=b.length+1) (sl (cS (D9 x b'))):=fun b' o V=>ah1 fun h=>ih x b' o V (by omega) (by omega)
     by_cases h9:e.op=9/\k=1
     ·have f0:=TQ e.text b
      rw[aS h9]at hR f6
      exact absurd h9.1 (by omega)
     ·rw[aN h9]at hR f6
      by_cases fZ:e.op=9
      ·have gH:¬k=1:=fun h=>h9 ⟨fZ,h⟩
       refine gf (gi fZ (gi gH e9)) ?_
       exact⟨k+1,out++D9 x b,⟨by omega,by rw[hR,aT]⟩,td1,wkR⟩
      ·refine gf (gi fZ e9) ?_
       exact⟨k+1,out++D9 x b,⟨by omega,by rw[hR,aT]⟩,td1,wkR⟩
    ·rw[A1 d6,C6,bb]at hR
     refine gz ?_
     exact finS (S':=V) (es:=cS out) ⟨by rw[hR],rfl⟩
   ·refine gf gL ?_
    refine Bv 5 1 (fun i hi=>?_)
    refine AB [1,2,4,49] (fun (k:Nat) (out:fD)=>k<=e.ah.length/\C6 e.op e.text e.ah 0 b=out++C6 e.op e.text (e.ah.drop k) k b) (fun k out=>[(6,dI k),(5,.slice (cS out) (.tag i))]) (fun _ out=>V.set i (.tail 1 out.length)) (fun k _=>e.ah.length-k) (0) ([]) (by simp) (fun k out hI=>?_)
    obtain⟨hk,hR⟩:=hI
    have gc:out.length<=(C6 e.op e.text e.ah 0 b).length:=by rw[hR,aH];omega
    by_cases d6:k<e.ah.length
    ·rw[A2 d6,C6]at hR
     have gM:=fJ k d6
     have f6:=EN (e.ah[k]) (if e.op=9/\k=1 then ins e.text b else b)
     generalize e9:e.ah[k]=x at*
     have i251:∀(b':fD) (o:Own) (V:Sig),Ans 251 [.agg (Al x),.slice (cS b') o] V (b'.length<=b.length+1) (sl (cS (D9 x b'))):=fun b' o V=>ah1 fun h=>ih x b' o V (by omega) (by omega)
     by_cases h9:e.op=9/\k=1
     ·have f0:=TQ e.text b
      rw[aS h9]at hR f6
      obtain⟨iV,rfl⟩:=h9
      refine gf (gi iV e9) ?_
      exact⟨1+1,out++D9 x (ins e.text b),⟨by omega,by rw[hR,aT]⟩,td1,wkR⟩
     ·rw[aN h9]at hR f6
      by_cases fZ:e.op=9
      ·have gH:¬k=1:=fun h=>h9 ⟨fZ,h⟩
       refine gf (gi fZ (gi gH e9)) ?_
       exact⟨k+1,out++D9 x b,⟨by omega,by rw[hR,aT]⟩,td1,wkR⟩
      ·refine gf (gi fZ e9) ?_
       exact⟨k+1,out++D9 x b,⟨by omega,by rw[hR,aT]⟩,td1,wkR⟩
    ·rw[A1 d6,C6,bb]at hR
     refine gz ?_
     exact finS (S':=V) (es:=cS out) ⟨by rw[hR],rfl⟩
theorem RQ(e:aB)(V:Sig)(hw:e.wt<=1073741824):au prog 209 [.agg (Al e)] V fun x S'=>(∃l':fD,x=.ret (sl (cS l'))/\(∀x,x∈l' ↔ x∈D9 e [])/\l'.length<=e.wt)/\S'=V:=by
 have hl:=EN e []
 have i251:∀V:Sig,Ans 251 [.agg (Al e),.slice [] .no] V True (sl (cS (D9 e []))):=fun V=>ah0 (Ux e.wt e [] .no V (bm _) (by simpa using hw))
 refine en func209 ntmps209 ?_
 refine gz ?_
 refine Ac (RH (D9 e []) .no _ (by omega)) (fun d S' hr=>?_) (fun d S' hr=>by obtain⟨⟨_,h,_⟩,_⟩:=hr;cases h)
 obtain⟨⟨l',h1,h2,h3⟩,rfl⟩:=hr
 cases h1
 refine gz ?_
 refine fin1 (S':=S') (d':=sl (cS l')) ⟨⟨l',rfl,h2,by omega⟩,rfl⟩
def EC(free ae own:fD)(next:Bool)(e:aB):Bool:=(allE e).all (nodK own ae next)&&(D9 e []).all fun x=>decide (x∈free)
theorem Ou(e:aB)(free ae own:fD)(next:Bool)(o1 o2 o3:Own)(V:Sig)(hw:e.wt<=1073741824)(hf:free.length<=1073741824)(hs:ae.length<=1073741824)(ho:own.length<=1073741824):
  au prog 124 [.agg (Al e),.slice (cS free) o1,.slice (cS ae) o2,.slice (cS own) o3,.bool next] V (rS (.bool (EC free ae own next e)) V):=by
 have iQ:=Er e
 have i76:∀V:Sig,Ans 76 [.agg (Al e)] V True (sl ((allE e).map Al)):=fun V=>ah0 (IU e.wt e V (bm _) hw)
 refine en func124 ntmps124 ?_
 refine gz ?_
 generalize hl:allE e=l at*
 refine B5 [1,2,3,4,5,11,13,14,54,55,56,57,58,59,60,61,62,63,64,65,66,67,68] (fun (k:Nat)=>k<=l.length/\l.all (nodK own ae next)=(l.drop k).all (nodK own ae next)) (fun k=>[(12,dI k)]) (fun _=>V) (fun k=>l.length-k) (0) (by simp) (fun k hI=>?_)
 obtain⟨hk,hR⟩:=hI
 have d7:(l.drop k).all (nodK own ae next)=false->EC free ae own next e=false:=fun h=>by unfold EC;rw[hl,hR,h];rfl
 by_cases d6:k<l.length
 ·rw[A2 d6,bV]at hR d7
  generalize e9:l[k]=x at*
  by_cases h4:x.op=4
  ·have hN:nodK own ae next x=decide (x.text∈ae):=by unfold nodK;rw[aS (.inl h4)]
   rw[hN]at hR d7
   repeat' first|refine gf (gi e9 h4) ?_|apply gy<;>intro hh
   ·have hq:=d7 (by rw[aV hh];rfl)
    exact fe1 hq
   ·exact⟨k+1,⟨by omega,by rw[hR,aX hh,aW]⟩,td1,wkR⟩
  by_cases h7:x.op=7
  ·have hN:nodK own ae next x=decide (x.text∈ae):=by unfold nodK;rw[aS (.inr h7)]
   rw[hN]at hR d7
   repeat' first|refine gf (gi e9 h7) ?_|apply gy<;>intro hh
   ·have hq:=d7 (by rw[aV hh];rfl)
    exact fe1 hq
   ·exact⟨k+1,⟨by omega,by rw[hR,aX hh,aW]⟩,td1,wkR⟩
  by_cases h6:x.op=6
  ·have hN:nodK own ae next x=decide (x.text∈own):=by unfold nodK;rw[aN (by omega),aS (.inl h6)]
   rw[hN]at hR d7
   repeat' first|refine gf (gi e9 h6) ?_|apply gy<;>intro hh
   ·have hq:=d7 (by rw[aV hh];rfl)
    exact fe1 hq
   ·exact⟨k+1,⟨by omega,by rw[hR,aX hh,aW]⟩,td1,wkR⟩
  by_cases h8:x.op=8
  ·have hN:nodK own ae next x=decide (x.text∈own):=by unfold nodK;rw[aN (by omega),aS (.inr h8)]
   rw[hN]at hR d7
   repeat' first|refine gf (gi e9 h8) ?_|apply gy<;>intro hh
   ·have hq:=d7 (by rw[aV hh];rfl)
    exact fe1 hq
   ·exact⟨k+1,⟨by omega,by rw[hR,aX hh,aW]⟩,td1,wkR⟩
  by_cases fN:x.op=18
  ·have hN:nodK own ae next x=next:=by unfold nodK;rw[aN (by omega),aN (by omega),aS fN]
   rw[hN]at hR d7
   repeat' first|refine gf (gi e9 fN) ?_|apply gy<;>intro hh
   ·have hq:=d7 (by rw[hh];rfl)
    exact fe1 hq
   ·exact⟨k+1,⟨by omega,by rw[hR,hh,aW]⟩,td1,wkR⟩
  ·have hN:nodK own ae next x=true:=by unfold nodK;rw[aN (by omega),aN (by omega),aN fN]
   rw[hN]at hR
   refine gf (gi e9 (gi h4 (gi h7 (gi h6 (gi h8 fN))))) ?_
   exact⟨k+1,⟨by omega,by rw[hR,aW]⟩,td1,wkR⟩
 ·rw [A1 d6,ek] at hR
  refine gz ?_
  refine Ac (RQ e _ hw) (fun d S' hr=>?_) (fun d S' hr=>by obtain⟨⟨_,h,_⟩,_⟩:=hr;cases h)
  obtain⟨⟨l',h1,h2,h3⟩,rfl⟩:=hr
  cases h1
  refine gz ?_
  refine B5 [1,13] (fun (m:Nat)=>m<=l'.length /\ ∀x∈l'.take m,x∈free) (fun m=>[(14,dI m)]) (fun _=>S') (fun m=>l'.length-m) (0) (by simp) (fun m hI=>?_)
  obtain⟨hm,hM⟩:=hI
  by_cases gE:m<l'.length
  ·have fP:=bE gE
   have iv:=(h2 _).1 (aJ gE)
   generalize gX:l'[m]=x at*
   repeat' first|refine gf gX ?_|apply gy<;>intro hh
   ·have hq:EC free ae own next e=false:=by
     unfold EC
     rw[eP]
     refine .inr (dQ.2 fun h=>hh ?_)
     have:=bc.1 h x iv
     simpa using this
    exact fe1 hq
   ·have ij:∀y∈l'.take (m+1),y∈free:=fun y hy=>by
     rw[fP]at hy
     rcases bk.1 hy with h|h
     ·exact hM y h
     ·rw[bM.1 h];exact hh
    exact⟨m+1,⟨by omega,ij⟩,td1,wkR⟩
  ·have hq:EC free ae own next e=true:=by
    unfold EC
    rw[hl,hR,aW,bc]
    intro x hx
    rw[aL]
    refine hM x ?_
    rw[bA (by omega)];exact(h2 x).2 hx
   refine gz ?_
   exact fe1 hq
@[reducible,instance] def a124:=fun e free ae own next o1 o2 o3 V=>ah4 (@Ou e free ae own next o1 o2 o3 V)
def D4:fD->List aD->Bool
 |_,[]=>true
 |own,c::r=>(!decide (3<c.ag.length)&&!decide (4<c.ae.length)&&difE [] c.ag)&&(c.ag.all (fun s=>decide (s∈own))&&D4 (own++[c.name]) r)
def Ep(f:aF):Bool:= !decide (10<f.aa.length)&&(D4 [] f.aa&&(Dy (f.aa.map (·.name))&&Dy (f.aa.flatMap (·.ae))))
theorem VC(f:aF)(V:Sig)(hw:f.wt<=1073741824):au prog 120 [.agg (Bd f)] V (rS (.bool (Ep f)) V):=by
 obtain⟨p1,p2,p3,p4,p5⟩:=f.wt_le
 have gB:∀c∈f.aa,c.ag.length<=1073741824/\c.ae.length<=1073741824/\c.name.length<=1073741824 /\ ∀s∈c.ae,s.length<=1073741824:=fun c hc=>by
  obtain⟨k,hk,rfl⟩:=bh hc
  have:=p4 k hk
  obtain⟨q1,q2,q3,_⟩:=(f.aa[k]).wt_le
  have:=Bb (f.aa[k]).ag
  have:=Bb (f.aa[k]).ae
  refine⟨by omega,by omega,by omega,fun s hs=>?_⟩
  obtain⟨j,hj,rfl⟩:=bh hs
  have:=J2 _ j hj
  omega
 have gY:(f.aa.flatMap (·.ae)).length<=1073741824:=by
  have h:∀l:List aD,(l.flatMap (·.ae)).length<=wtL aD.wt l:=by
   intro l
   induction l with
   |nil=>simp[wtL]
   |cons c l ih=>simp only[cz,aH,wtL];have:=Bb c.ae;have:=c.wt_le;omega
  have:=h f.aa
  unfold aF.wt at hw;omega
 have iq:∀x∈f.aa.map (·.name),x.length<=1073741824:=fun x hx=>by obtain⟨c,hc,rfl⟩:=bO.1 hx;exact(gB c hc).2.2.1
 have jb:∀x∈f.aa.flatMap (·.ae),x.length<=1073741824:=fun x hx=>by obtain⟨c,hc,hx⟩:=dX.1 hx;exact(gB c hc).2.2.2 x hx
 refine en func120 ntmps120 ?_
 by_cases fL:10<f.aa.length
 ·refine gz ?_ o120
  (refine fin1 (S':=V) ?_;exact⟨by first|rfl|(simp[Ep,fL];done)|(simp_all [Ep,fL];done)|(rw[A5,aO];simp_all [Ep,fL]<;>omega),rfl⟩)
 have hN:Ep f=(D4 [] f.aa&&(Dy (f.aa.map (·.name))&&Dy (f.aa.flatMap (·.ae)))):=by unfold Ep;rw[aV fL];rfl
 rw[hN]
 refine gz ?_ o120
 refine Bv 3 1 (fun i hi=>?_)
 refine AB [1,61,62,63,64,65,66,67] (fun (k:Nat) (own:fD)=>k<=f.aa.length/\own=(f.aa.take k).map (·.name)/\D4 [] f.aa=D4 own (f.aa.drop k)) (fun k own=>[(4,dI k),(3,.slice (cS own) (.tag i))]) (fun _ own=>V.set i (.tail 1 own.length)) (fun k _=>f.aa.length-k) (0) ([]) (by simp) (fun k own hI=>?_)
 obtain⟨hk,fU,hR⟩:=hI
 have gc:own.length=k:=by rw[fU];simp;omega
 by_cases d6:k<f.aa.length
 ·rw [A2 d6,D4] at hR
  have hq:=gB _ (aJ d6)
  obtain⟨q1,q2,q3,q4⟩:=hq
  generalize hc:f.aa[k]=c at*
  have iK:(cS own).length=k:=by simp[cS,gc]
  have fP:List.take k (cS own++[[D.str c.name]])=cS own:=by rw[eb (by omega),bA (by omega)]
  by_cases b1:3<c.ag.length
  ·have hq:D4 [] f.aa=false:=by rw[hR,aX b1];rfl
   refine gf hc ?_ o120
   exact fe1 hq
  by_cases b2:4<c.ae.length
  ·have hq:D4 [] f.aa=false:=by rw[hR,aV b1,aX b2];rfl
   refine gf hc ?_ o120
   exact fe1 hq
  rw[aV b1,aV b2]at hR
  simp only[eU,aW]at hR
  cases b3:difE [] c.ag with
  |false=>
   have hq:D4 [] f.aa=false:=by rw[hR,b3];rfl
   refine gf (gi hc b3) ?_ o120
   exact fe1 hq
  | true =>
   rw[b3,aW]at hR
   refine gf (gi hc b3) ?_ o120
   refine B5 [1,3,4,5,11,12,13,14,15,16,17,18,19,20,21,22,23,24,25,26,27,28,29,30,31,32,33,34,35,36,37,38,39,40,41,42,43,61,62,63,64,65,66,67] (fun (j:Nat)=>j<=c.ag.length/\c.ag.all (fun s=>decide (s∈own))=(c.ag.drop j).all fun s=>decide (s∈own)) (fun j=>[(6,dI j)]) (fun _=>V.set i (.tail 1 (own.length+1))) (fun j=>c.ag.length-j) (0) (by simp) (fun j hI=>?_)
   obtain⟨hj,hP⟩:=hI
   by_cases fM:j<c.ag.length
   ·rw[A2 fM,bV]at hP
    generalize hs:c.ag[j]=s at*
    repeat' first|refine gf (gi hc (gi hs fP)) ?_ o120|apply gy<;>intro hh
    ·have hq:D4 [] f.aa=false:=by rw[hR,hP,aV hh];rfl
     exact fe1 hq
    ·exact⟨j+1,⟨by omega,by rw[hP,aX hh,aW]⟩,td1,wkR⟩
   ·rw[A1 fM,ek]at hP
    rw[hP,aW]at hR
    refine gf hc ?_ o120
    exact⟨k+1,own++[c.name],⟨by omega,by rw[fU,bE d6,bI,hc];rfl,hR⟩,td1,wkR⟩
 ·rw[A1 d6,D4]at hR
  have e:own=f.aa.map (·.name):=by rw[fU,bA (by omega)]
  rw[hR,aW,<-e]
  rw[<-e]at iq
  repeat' first|refine gz ?_ o120|apply gy<;>intro hh
  ·exact fe1 hh
  ·exact fe1 hh
@[reducible,instance] def a120:=fun f V=>ah1 (@VC f V)
theorem idxF_lt{α:Type}(q:α->Bool): ∀(l:List α) (k:Nat),idxF q l k = -1\/((k:Int)<=idxF q l k/\idxF q l k<k+l.length)
 |[],k=>.inl rfl
 | x::r,k=>by
  rw[idxF]
  split
  ·right;simp only[aP];omega
  ·rcases idxF_lt q r (k+1)with h|h
   ·exact .inl h
   ·right;simp only[aP];omega
def Dk(f:aF):fD->List Bool->List Bool
 |[],b=>b
 |s::r,b=>Dk f r (b.set (idxF (fun c:aD=>decide (c.name=s)) f.aa 0).toNat true)
def abvD(f:aF)(n:Nat):Nat->List Bool->List Bool
 |0,b=>b
 |i+1,b=>abvD f n i (if i≠n/\b.getD i false=false then b else Dk f (((f.aa[i]?).map (·.ag)).getD []) b)
def abvF(f:aF)(n:Nat):List Bool:=abvD f n (n+1) (List.replicate f.aa.length false)
def ParOK(f:aF):Prop:= ∀c∈f.aa, ∀s∈c.ag,0<=idxF (fun c:aD=>decide (c.name=s)) f.aa 0
theorem UQ(f:aF)(n:Nat)(V:Sig)(hw:f.wt<=1073741824)(hn:n<f.aa.length)(hp:ParOK f):au prog 206 [.agg (Bd f),dI n] V fun x S'=> ∃r,x=.ret (.ap r 0 f.aa.length f.aa.length)/\V r=none/\S'=V.set r (.cells (Be (abvF f n))):=by
 obtain⟨p1,p2,p3,p4,p5⟩:=f.wt_le
 have iK:f.aa.length<=1073741824:=by omega
 refine en func206 ntmps206 ?_
 refine gz ?_ o206
 refine TD (k:=f.aa.length) (c:=f.aa.length) (z:=[.bool false]) (sz:=1) (fun i hi hm=>?_)
 have e0:mS V (some (i,f.aa.length,(List.replicate (f.aa.length-f.aa.length) [D.bool false]).flatten)) (List.replicate f.aa.length [D.bool false])=V.set i (.cells (Be (List.replicate f.aa.length false))):=by
  simp only[mS,eg,eV,eB,bb]
  congr 2
  generalize f.aa.length=m
  induction m with
  |zero=>rfl
  |succ m ih=>rw[cO,cO,cy,ih];rfl
 rw[e0]
 generalize fY:List.replicate f.aa.length false=b0
 have gT:b0.length=f.aa.length:=by rw[<-fY];simp
 refine gf gT ?_ o206
 refine AB [1,2,4,5,48] (fun (m:Nat) (bs:List Bool)=>m<=n+1/\bs.length=f.aa.length/\abvD f n m bs=abvF f n) (fun m _=>[(6,dI ((m:Int)-1))]) (fun _ bs=>V.set i (.cells (Be bs))) (fun m _=>m) (n+1) (b0) (by exact⟨bm _,gT,by unfold abvF;rw[fY]⟩) (fun m bs hI=>?_)
 obtain⟨hm,fW,hU⟩:=hI
 have gW:(V.set i (.cells (Be bs))) i=some (.cells (Be bs)):=w7 ..
 cases m with
 |zero=>
  rw[abvD]at hU
  subst hU
  refine gz ?_ o206
  exact fin1 (S':=V.set i (.cells (Be (abvF f n)))) ⟨i,rfl,hi,rfl⟩
 | succ j =>
  have hj:j<f.aa.length:=by omega
  have iB:j<bs.length:=by omega
  have ej:((j+1:Nat):Int)-1=j:=by omega
  have iH:bs.getD j false=bs[j]:=by rw[bg,aM iB];rfl
  rw[abvD,iH,aM hj]at hU
  simp only[bG,bP]at hU
  have gO:=hp _ (aJ hj)
  have gC:(f.aa[j]).ag.length<=1073741824:=by have:=p4 j hj;have:=(f.aa[j]).wt_le;have:=Bb (f.aa[j]).ag;omega
  by_cases e8:j≠n/\bs[j]=false
  ·rw[aS e8]at hU
   obtain⟨c1,c2⟩:=e8
   refine gf (gi ej c2) ?_ o206
   exact⟨j,bs,⟨by omega,fW,hU⟩,td1,wkR⟩
  ·rw[aN e8]at hU
   generalize gN:(f.aa[j]).ag=ps at*
   by_cases c1:j=n
   ·subst c1
    refine gf (gi ej gN) ?_ o206
    refine AB [1,2,4,5,6,7,14,15,16,17,18,19,20,21,22,23,24,25,26,27,28,29,30,31,32,33,48] (fun (q:Nat) (b2:List Bool)=>q<=ps.length/\b2.length=f.aa.length/\Dk f ps bs=Dk f (ps.drop q) b2) (fun q _=>[(8,dI q)]) (fun _ b2=>V.set i (.cells (Be b2))) (fun q _=>ps.length-q) (0) (bs) (by exact⟨by omega,fW,rfl⟩) (fun q b2 hI=>?_)
    obtain⟨hq,fK,hR⟩:=hI
    have iE:(V.set i (.cells (Be b2))) i=some (.cells (Be b2)):=w7 ..
    by_cases fQ:q<ps.length
    ·have gA:=gO _ (aJ fQ)
     have fO:=idxF_lt (fun c:aD=>decide (c.name=ps[q])) f.aa 0
     rw[A2 fQ,Dk]at hR
     generalize gx:ps[q]=s at*
     obtain⟨p,fR⟩:∃p:Nat,idxF (fun c:aD=>decide (c.name=s)) f.aa 0=(p:Int):=⟨_,(Int.toNat_of_nonneg gA).symm⟩
     rw[fR,show((p:Int)).toNat=p by omega]at hR
     rw[fR]at fO
     have g9:p<b2.length:=by omega
     refine gf (gi gx fR) ?_ o206
     exact⟨q+1,b2.set p true,⟨by omega,by simpa using fK,hR⟩,td1,wkR⟩
    ·rw[A1 fQ,Dk]at hR
     rw[hR]at hU
     refine gz ?_ o206
     exact⟨j,b2,⟨by omega,fK,hU⟩,td1,wkR⟩
   ·have c2:bs[j]=true:=by cases h:bs[j];exact absurd ⟨c1,h⟩ e8;rfl
    refine gf (gi ej (gi c2 gN)) ?_ o206
    refine AB [1,2,4,5,6,7,14,15,16,17,18,19,20,21,22,23,24,25,26,27,28,29,30,31,32,33,48] (fun (q:Nat) (b2:List Bool)=>q<=ps.length/\b2.length=f.aa.length/\Dk f ps bs=Dk f (ps.drop q) b2) (fun q _=>[(8,dI q)]) (fun _ b2=>V.set i (.cells (Be b2))) (fun q _=>ps.length-q) (0) (bs) (by exact⟨by omega,fW,rfl⟩) (fun q b2 hI=>?_)
    obtain⟨hq,fK,hR⟩:=hI
    have iE:(V.set i (.cells (Be b2))) i=some (.cells (Be b2)):=w7 ..
    by_cases fQ:q<ps.length
    ·have gA:=gO _ (aJ fQ)
     have fO:=idxF_lt (fun c:aD=>decide (c.name=ps[q])) f.aa 0
     rw[A2 fQ,Dk]at hR
     generalize gx:ps[q]=s at*
     obtain⟨p,fR⟩:∃p:Nat,idxF (fun c:aD=>decide (c.name=s)) f.aa 0=(p:Int):=⟨_,(Int.toNat_of_nonneg gA).symm⟩
     rw[fR,show((p:Int)).toNat=p by omega]at hR
     rw[fR]at fO
     have g9:p<b2.length:=by omega
     refine gf (gi gx fR) ?_ o206
     exact⟨q+1,b2.set p true,⟨by omega,by simpa using fK,hR⟩,td1,wkR⟩
    ·rw[A1 fQ,Dk]at hR
     rw[hR]at hU
     refine gz ?_ o206
     exact⟨j,b2,⟨by omega,fK,hU⟩,td1,wkR⟩
def IB:List aD->List Bool->fD
 |c::cs,b::bs=>(if b=true then c.ae else [])++IB cs bs
 |_,_=>[]
def iniR(mine:fD):fD->List aG->Bool
 |_,[]=>true
 |seen,x::r=>(decide (x.slot∈mine)&&(!decide (x.slot∈seen)&&inB x.n))&&iniR mine (seen++[x.slot]) r
def inisR(f:aF):Nat->List aD->Bool
 |_,[]=>true
 |i,c::r=>iniR (IB f.aa ((abvF f i).set i true)) [] c.ai&&inisR f (i+1) r
theorem Fq(f:aF): ∀(ps:fD) (b:List Bool),(Dk f ps b).length=b.length
 |[],_=>rfl
 |s::r,b=>by rw[Dk,Fq f r,ce]
theorem Ks(f:aF)(n:Nat): ∀(i:Nat) (b:List Bool),(abvD f n i b).length=b.length
 |0,_=>rfl
 |i+1,b=>by
  rw[abvD,Ks f n i]
  split
  ·rfl
  ·rw[Fq]
theorem Kr(f:aF)(n:Nat):(abvF f n).length=f.aa.length:=by rw[abvF,Ks,bu]
theorem VB(f:aF)(V:Sig)(hw:f.wt<=1073741824)(hp:ParOK f)(fL:f.aa.length<=10)(h4:∀c∈f.aa,c.ae.length<=4):
  au prog 121 [.agg (Bd f)] V (rS (.bool (inisR f 0 f.aa)) V):=by
 obtain⟨p1,p2,p3,p4,p5⟩:=f.wt_le
 refine en func121 ntmps121 ?_
 refine gz ?_
 refine B5 [1] (fun (i:Nat)=>i<=f.aa.length/\inisR f 0 f.aa=inisR f i (f.aa.drop i)) (fun i=>[(3,dI i)]) (fun _=>V) (fun i=>f.aa.length-i) (0) (by simp) (fun i hI=>?_)
 obtain⟨hi,hR⟩:=hI
 by_cases f0:i<f.aa.length
 ·rw [A2 f0,inisR] at hR
  have iY:=p4 i f0
  have iC:((f.aa[i]).ai).length<=1073741824:=by have:=(f.aa[i]).wt_le;omega
  refine gz ?_
  refine Ac (UQ f i _ hw f0 hp) (fun d S' hr=>?_) (fun d S' hr=>by obtain⟨_,h,_⟩:=hr;cases h)
  obtain⟨r,h1,g6,rfl⟩:=hr
  cases h1
  have fW:=Kr f i
  generalize fY:abvF f i=b0 at*
  have gW:(V.set r (.cells (Be b0))) r=some (.cells (Be b0)):=w7 ..
  have gV:i<b0.length:=by omega
  simp only[putD]
  refine gf (gi fW gW) ?_
  generalize d9:b0.set i true=b1 at*
  have fV:b1.length=f.aa.length:=by rw[<-d9,ce];exact fW
  refine Bv 5 1 (fun ia gh=>?_)
  have gZ:r≠ia:=fun e=>by rw[<-e,w7]at gh;cases gh
  have iR:V ia=none:=by rw[w8 _ _ (aQ gZ)]at gh;exact gh
  have f7:(V.set r (.cells (Be b1))) r=some (.cells (Be b1)):=w7 ..
  have fO:∀o:DObj,Sub V ((V.set r (.cells (Be b1))).set ia o):=fun o=>((Sub.refl _).set g6).set iR
  generalize jf:V.set r (.cells (Be b1))=S1 at*
  refine AB [1,2,3,4,6,8,9,10,11,12,13,14,15,16,17,18,19,20,21,22,41,42,43,44,45,46,47,48,49,50,51,52,53,54,55,56,57,58,59,60,61,62,63,64,65,66,67,68,69,70,71,72,73,74,75,76,77,78,79,80,81,82,83,84,85,86] (fun (k:Nat) (mine:fD)=>k<=f.aa.length/\mine.length<=4*k/\IB f.aa b1=mine++IB (f.aa.drop k) (b1.drop k)) (fun k mine=>[(7,dI k),(5,.slice (cS mine) (.tag ia))]) (fun _ mine=>S1.set ia (.tail 1 mine.length)) (fun k _=>f.aa.length-k) (0) ([]) (by simp) (fun k mine hI=>?_)
  obtain⟨hk,gE,hM⟩:=hI
  by_cases d6:k<f.aa.length
  ·have iz:k<b1.length:=by omega
   rw[A2 d6,A2 iz,IB]at hM
   have jh:=h4 _ (aJ d6)
   generalize iL:f.aa[k]=c at*
   cases gj:b1[k]with
   |true=>
    rw[gj,aS rfl]at hM
    refine gf (gi f7 (gi fV (gi gj iL))) ?_
    exact⟨k+1,mine++c.ae,⟨by omega,by rw[aH];omega,by rw[hM,aT]⟩,td1,wkR⟩
   |false=>
    rw[gj,aN (by simp),br]at hM
    refine gf (gi f7 (gi fV gj)) ?_
    exact⟨k+1,mine,⟨by omega,by omega,hM⟩,td1,wkR⟩
  ·rw [A1 d6,show IB [] (b1.drop k)=[] by simp [IB],bb] at hM
   generalize iM:f.aa[i]=c at*
   generalize iy:c.ai=l at*
   refine gf (gi fV (gi iM iy)) ?_
   refine Bv 6 1 (fun ib gI=>?_)
   have gJ:V ib=none:=(fO _).none gI
   refine AB [1,3,4,5,7,8,10,11,12,13,14,15,16,17,18,19,20,21,22,23,24,25,26,27,28,29,30,31,32,33,34,35,36,37,38,39,40,41,42,43,44,45,46] (fun (j:Nat) (seen:fD)=>j<=l.length/\seen.length<=j/\iniR mine [] l=iniR mine seen (l.drop j)) (fun j seen=>[(9,dI j),(6,.slice (cS seen) (.tag ib))]) (fun _ seen=>(S1.set ia (.tail 1 mine.length)).set ib (.tail 1 seen.length)) (fun j _=>l.length-j) (0) ([]) (by simp) (fun j seen hI=>?_)
   obtain⟨hj,gY,hL⟩:=hI
   have i0:Sub V ((S1.set ia (.tail 1 mine.length)).set ib (.tail 1 seen.length)):=(fO _).set gJ
   rw[hM,hL]at hR
   by_cases fM:j<l.length
   ·rw [A2 fM,iniR] at hR hL
    generalize gb:l[j]=x at*
    by_cases m1:x.slot∈mine
    ·by_cases m2:x.slot∈seen
     ·have hq:inisR f 0 f.aa=false:=by rw[hR,aX m1,aX m2];rfl
      refine gf (gi gb (gi m1 m2)) ?_
      exact fe1 hq
     ·cases m3:inB x.n with
      |false=>
       have hq:inisR f 0 f.aa=false:=by rw[hR,aX m1,aV m2,m3];rfl
       refine gf (gi gb (gi m1 (gi m2 m3))) ?_
       exact fe1 hq
      |true=>
       rw[aX m1,aV m2,m3]at hL
       simp only[eU,aW]at hL
       refine gf (gi gb (gi m1 (gi m2 m3))) ?_
       exact⟨j+1,seen++[x.slot],⟨by omega,by simp;omega,hL⟩,td1,wkR⟩
    ·have hq:inisR f 0 f.aa=false:=by rw[hR,aV m1];rfl
     refine gf (gi gb m1) ?_
     exact fe1 hq
   ·rw[A1 fM,iniR,aW]at hR
    refine gz ?_
    exact⟨i+1,⟨by omega,hR⟩,td1,wkR⟩
 ·rw[A1 f0,inisR]at hR
  refine gz ?_
  exact fe1 hR
def fctC(P C:fD)(x:aC):Bool:=
 (decide ((x.ah.length:Int)=arF x.op)&&(if AO x.op=true then decide (x.name∈P) else(decide (x.name=[])&&decide (x.path=[])))&&decide (x.path.length<=2)) &&
 (((decide (x.op=2) == !decide (x.cls=[]))&&(!decide (x.op=2)||decide (x.cls∈C)))&&((decide (x.op=3\/x.op=4)||decide (x.n=0))&&inB x.n))
def fctB(P S C:fD)(x:aC):Bool:=decide (1<=x.op/\x.op<=7)&&(fctC P C x&&x.path.all (fun s=>decide (s∈S)))
mutual
def fctE(P S C:fD):aC->Int->Int->Bool×Int
 |.mk o s p c n k,d,b=>if b-1<0\/12<d\/fctB P S C (.mk o s p c n k)=false then(false,b-1) else Fg P S C k (d+1) (b-1)
def Fg(P S C:fD):List aC->Int->Int->Bool×Int
 |[],_,b=>(true,b)
 |x::r,d,b=>if(fctE P S C x d b).1=true then Fg P S C r d (fctE P S C x d b).2 else(false,(fctE P S C x d b).2)
end
section
variable {P S C:fD}
theorem U6(e:aC)(d b:Int):fctE P S C e d b=if b-1<0\/12<d\/fctB P S C e=false then(false,b-1) else Fg P S C e.ah (d+1) (b-1):=by cases e;rw[fctE];rfl
mutual
theorem K0: ∀(e:aC) (d b:Int),(fctE P S C e d b).2<=b/\(0<=b-> -1<=(fctE P S C e d b).2)/\((fctE P S C e d b).1=true->0<=(fctE P S C e d b).2)
 | .mk o s p c n k,d,b=>by
  rw[fctE]
  split
  ·refine⟨?_,?_,?_⟩<;>simp<;>omega
  ·have:=Qu k (d+1) (b-1)
   exact⟨by omega,fun h=>this.2.1 (by omega),fun h=>this.2.2 (by omega) h⟩
theorem Qu: ∀(l:List aC) (d b:Int),(Fg P S C l d b).2<=b/\(0<=b-> -1<=(Fg P S C l d b).2)/\(0<=b->(Fg P S C l d b).1=true->0<=(Fg P S C l d b).2)
 |[],d,b=>by rw[Fg];exact⟨dC _,fun h=>by simp;omega,fun h _=>h⟩
 | x::r,d,b=>by
  have h1:=K0 x d b
  rw[Fg]
  split
  ·rename_i h
   have h2:=Qu r d (fctE P S C x d b).2
   have:=h1.2.2 h
   exact⟨by omega,fun _=>h2.2.1 this,fun _ h3=>h2.2.2 this h3⟩
  ·exact⟨h1.1,h1.2.1,fun _ h3=>by cases h3⟩
end
theorem IT(x:aC):fctC P C x=true ↔
  ((x.ah.length:Int)=arF x.op/\((AO x.op=true/\x.name∈P)\/(AO x.op=false/\x.name=[]/\x.path=[]))/\x.path.length<=2) /\
  ((x.op=2/\x.cls≠[]/\x.cls∈C)\/(x.op≠2/\x.cls=[]))/\(((x.op=3\/x.op=4)\/x.n=0)/\inB x.n=true):=by
 unfold fctC
 cases AO x.op<;>by_cases h2:x.op=2<;>by_cases hc:x.cls=[]<;>simp[h2,hc,and_assoc]
theorem RP (ib:Nat) (hP:P.length<=1073741824) (hS:S.length<=1073741824) (hC:C.length<=1073741824) : ∀ (n:Nat) (f:aC) (d b:Int) (V:Sig),f.wt<=n->n<=1073741824->0<=d->d+n<=2000000000->0<=b->b<=1000->V ib=some (.cells [dI b]) ->
  au prog 211 [.agg [sl (cS P),sl (cS S),sl (cS C)],.agg (B6 f),dI d,.ptr ib 0] V fun x S'=>x=.ret (.bool (fctE P S C f d b).1)/\S'=V.set ib (.cells [dI (fctE P S C f d b).2]):=by
 intro n
 induction n with
 |zero=>
  intro f d b V hx
  have:=f.wt_pos
  omega
 | succ n ih =>
  intro f d b V hx hn hd iJ fY d9 o1
  obtain⟨w1,w2,w3,w4,fJ⟩:=f.wt_le
  have gC:f.path.length<=1073741824:=by have:=Bb f.path;omega
  have iW:f.wt<=1073741824:=by omega
  have e7:(b-1<0\/12<d\/fctB P S C f=false)->fctE P S C f d b=(false,b-1):=fun h=>by rw[U6,aS h]
  have gK:¬fctC P C f=true->fctB P S C f=false:=fun h=>by unfold fctB;rw[dQ.2 h];simp
  refine en func211 ntmps211 ?_
  by_cases h1:b-1<0
  ·rw[e7 (.inl h1)]
   refine gf o1 ?_ o211
   exact fin1 (S':=V.set ib (.cells [dI (b-1)])) ⟨rfl,rfl⟩
  by_cases h2:12<d
  ·rw[e7 (.inr (.inl h2))]
   refine gf o1 ?_ o211
   exact fin1 (S':=V.set ib (.cells [dI (b-1)])) ⟨rfl,rfl⟩
  by_cases gP:1<=f.op/\f.op<=7
  ·refine Xz [(4, .am [sl (cS P),sl (cS S),sl (cS C)] 0),(5, .am (B6 f) 0),(8, .bool false),(9, .bool (AO f.op)),(10,dI (arF f.op))] (V.set ib (.cells [dI (b-1)])) ?_ (fun _ hK => ?_)
   ·by_cases hA:(f.ah.length:Int)=arF f.op/\((AO f.op=true/\f.name ∈ P)\/(AO f.op=false/\f.name=[]/\f.path=[]))/\f.path.length<=2
    ·refine dwp_cut1 [] (V.set ib (.cells [dI (b-1)])) ?_ (fun _ hK => ?_)
     ·by_cases hB:(f.op=2/\f.cls≠[]/\f.cls∈C)\/(f.op≠2/\f.cls=[])
      ·refine dwp_cut1 [] (V.set ib (.cells [dI (b-1)])) ?_ (fun _ hK=>?_)
       ·by_cases hN:((f.op=3\/f.op=4)\/f.n=0)/\inB f.n=true
        ·refine dwp_cut1 [] (V.set ib (.cells [dI (b-1)])) ?_ (fun _ hK=>?_)
         ·have iU:fctC P C f=true:=(IT f).2 ⟨hA,hB,hN⟩
          refine gz ?_ o211
          refine B5 [2,3,4,5,12,144,145,146,147,148,149,150,151,152,153,154,155,156,157,158,159,160,161] (fun (k:Nat)=>k<=f.path.length/\f.path.all (fun s=>decide (s∈S))=(f.path.drop k).all fun s=>decide (s∈S)) (fun k=>[(11,dI k)]) (fun _=>V.set ib (.cells [dI (b-1)])) (fun k=>f.path.length-k) (0) (by simp) (fun k hI=>?_)
          obtain⟨hk,ga⟩:=hI
          by_cases d6:k<f.path.length
          ·rw[A2 d6,bV]at ga
           generalize g8:f.path[k]=s at*
           repeat' first|refine gf g8 ?_ o211|apply gy<;>intro hh
           ·have hq:fctB P S C f=false:=by unfold fctB;rw[ga,aV hh];simp
            rw[e7 (.inr (.inr hq))]
            exact fin1 (S':=V.set ib (.cells [dI (b-1)])) ⟨rfl,rfl⟩
           ·exact⟨k+1,⟨by omega,by rw[ga,aX hh,aW]⟩,td1,wkR⟩
          ·rw[A1 d6,ek]at ga
           have hq:fctB P S C f=true:=by unfold fctB;rw[ga,iU,aX gP];rfl
           have hE:fctE P S C f d b=Fg P S C f.ah (d+1) (b-1):=by rw[U6,aN (by rw[hq];simp;omega)]
           rw[hE]
           refine gz ?_ o211
           refine AB [2,3,4,5] (fun (j:Nat) (b2:Int)=>j<=f.ah.length/\0<=b2/\b2<=b/\Fg P S C f.ah (d+1) (b-1)=Fg P S C (f.ah.drop j) (d+1) b2) (fun j _=>[(12,dI j)]) (fun _ b2=>V.set ib (.cells [dI b2])) (fun j _=>f.ah.length-j) (0) (b-1) (by exact⟨by omega,by omega,by omega,rfl⟩) (fun j b2 hI=>?_)
           obtain⟨hj,iP,je,hR⟩:=hI
           by_cases fM:j<f.ah.length
           ·rw[A2 fM,Fg]at hR
            have gM:=fJ j fM
            generalize gU:f.ah[j]=x at*
            have gG:=K0 (P:=P) (S:=S) (C:=C) x (d+1) b2
            refine gf gU ?_ (delO 31 o211)
            refine NB (id:=31) [0,1,2,3,4,5,6,7,8,9,10] [9] (fun _=>none) (fun _ _ h=>by cases h) ?_
            refine gf gU ?_ (delO 31 o211)
            refine C1 (ih x (d+1) b2 _ (by omega) (by omega) (by omega) (by omega) iP (by omega) (w7 ..)) (fun dd S' hr=>?_) (fun dd S' hr=>by cases hr.1)
            obtain⟨g7,rfl⟩:=hr
            cases g7
            rw[w9]
            refine⟨fun _ _ h=>(by cases h),?_⟩
            simp only[putD]
            cases hq:(fctE P S C x (d+1) b2).1
            ·rw[aN (by rw[hq];simp)]at hR
             rw[hR]
             refine gz ?_ o211
             exact fin1 (S':=V.set ib (.cells [dI (fctE P S C x (d+1) b2).2])) ⟨rfl,rfl⟩
            ·rw[aS hq]at hR
             refine gz ?_ o211
             exact⟨j+1,(fctE P S C x (d+1) b2).2,⟨by omega,gG.2.2 hq,by omega,hR⟩,td1,wkR⟩
           ·rw[A1 fM,Fg]at hR
            rw[hR]
            refine gz ?_ o211
            exact fin1 (S':=V.set ib (.cells [dI b2])) ⟨rfl,rfl⟩
         ·obtain⟨n1,n2⟩:=hN
          by_cases h3:f.op=3
          ·refine gf (gi h3 n2) ?_ o211
           exact dwp_wk (Ae (by first|(simp;done)|(simp_all;done)) (Sub.refl _)) hK
          ·by_cases h4:f.op=4
           ·refine gf (gi h3 (gi h4 n2)) ?_ o211
            exact dwp_wk (Ae (by first|(simp;done)|(simp_all;done)) (Sub.refl _)) hK
           ·have n0:f.n=0:=n1.resolve_left fun h=>h.elim h3 h4
            refine gf (gi h3 (gi h4 n2)) ?_ o211
            exact dwp_wk (Ae (by first|(simp;done)|(simp_all;done)) (Sub.refl _)) hK
        ·rw [e7 (.inr (.inr (gK fun h=>hN ((IT f).1 h).2.2)))]
         by_cases h3:f.op=3
         ·have n2:inB f.n=false:=by cases h:inB f.n;rfl;exact absurd ⟨.inl (.inl h3),h⟩ hN
          refine gf (gi h3 n2) ?_ o211
          exact fin1 (S':=V.set ib (.cells [dI (b-1)])) ⟨rfl,rfl⟩
         ·by_cases h4:f.op=4
          ·have n2:inB f.n=false:=by cases h:inB f.n;rfl;exact absurd ⟨.inl (.inr h4),h⟩ hN
           refine gf (gi h3 (gi h4 n2)) ?_ o211
           exact fin1 (S':=V.set ib (.cells [dI (b-1)])) ⟨rfl,rfl⟩
          ·cases n2:inB f.n with
           |false=>
            repeat' first|refine gf (gi h3 (gi h4 n2)) ?_ o211|apply gy<;>intro hh
            ·exact fin1 (S':=V.set ib (.cells [dI (b-1)])) ⟨rfl,rfl⟩
            ·exact fin1 (S':=V.set ib (.cells [dI (b-1)])) ⟨rfl,rfl⟩
           |true=>
            repeat' first|refine gf (gi h3 (gi h4 n2)) ?_ o211|apply gy<;>intro hh
            ·exact fin1 (S':=V.set ib (.cells [dI (b-1)])) ⟨rfl,rfl⟩
            ·exact absurd ⟨.inr hh,n2⟩ hN
       ·rcases hB with⟨h2,hc,hm⟩|⟨h2,hc⟩
        ·refine gf (gi h2 (gi hc hm)) ?_ o211
         exact dwp_wk (Ae (by first|(simp;done)|(simp_all;done)) (Sub.refl _)) hK
        ·refine gf (gi h2 hc) ?_ o211
         exact dwp_wk (Ae (by first|(simp;done)|(simp_all;done)) (Sub.refl _)) hK
      ·rw[e7 (.inr (.inr (gK fun h=>hB ((IT f).1 h).2.1)))]
       by_cases h2:f.op=2
       ·by_cases hc:f.cls=[]
        ·refine gf (gi h2 hc) ?_ o211
         exact fin1 (S':=V.set ib (.cells [dI (b-1)])) ⟨rfl,rfl⟩
        ·have hm:¬f.cls∈C:=fun h=>hB (.inl ⟨h2,hc,h⟩)
         refine gf (gi h2 (gi hc hm)) ?_ o211
         exact fin1 (S':=V.set ib (.cells [dI (b-1)])) ⟨rfl,rfl⟩
       ·have hc:¬f.cls=[]:=fun h=>hB (.inr ⟨h2,h⟩)
        refine gf (gi h2 hc) ?_ o211
        exact fin1 (S':=V.set ib (.cells [dI (b-1)])) ⟨rfl,rfl⟩
     ·obtain⟨c1,c2,c4⟩:=hA
      rcases c2 with⟨ha,hn⟩|⟨ha,hn,hp⟩
      ·refine gf (gi c1 (gi ha hn)) ?_ o211
       exact dwp_wk (Ae (by first|(simp;done)|(simp_all;done)) (Sub.refl _)) hK
      ·refine gf (gi c1 (gi ha (gi hn hp))) ?_ o211
       exact dwp_wk (Ae (by first|(simp;done)|(simp_all;done)) (Sub.refl _)) hK
    ·rw [e7 (.inr (.inr (gK fun h=>hA ((IT f).1 h).1)))]
     by_cases c1:(f.ah.length:Int)=arF f.op
     ·cases ha:AO f.op with
      | true =>
       by_cases hn:f.name∈P
       ·have c4:¬f.path.length<=2:=fun h=>hA ⟨c1,.inl ⟨ha,hn⟩,h⟩
        refine gf (gi c1 (gi ha hn)) ?_ o211
        exact fin1 (S':=V.set ib (.cells [dI (b-1)])) ⟨rfl,rfl⟩
       ·refine gf (gi c1 (gi ha hn)) ?_ o211
        exact fin1 (S':=V.set ib (.cells [dI (b-1)])) ⟨rfl,rfl⟩
      | false =>
       by_cases hn:f.name=[]
       ·have hp:¬f.path.length<=0:=fun h=>hA ⟨c1,.inr ⟨ha,hn,bC.1 (by omega)⟩,by omega⟩
        refine gf (gi c1 (gi ha hn)) ?_ o211
        exact fin1 (S':=V.set ib (.cells [dI (b-1)])) ⟨rfl,rfl⟩
       ·refine gf (gi c1 (gi ha hn)) ?_ o211
        exact fin1 (S':=V.set ib (.cells [dI (b-1)])) ⟨rfl,rfl⟩
     ·refine gf c1 ?_ o211
      exact fin1 (S':=V.set ib (.cells [dI (b-1)])) ⟨rfl,rfl⟩
   ·have gD:f.op=1\/f.op=2\/f.op=3\/f.op=4\/f.op=5\/f.op=6\/f.op=7:=by omega
    rcases gD with h|h|h|h|h|h|h
    ·repeat' first|refine gf (gi o1 h) ?_ o211|apply gy<;>intro hh
     any_goals (first|exact dwp_wk (Ae (by first|(simp[h,AO,arF];done)|(simp_all [h,AO,arF];done)) (Sub.refl _)) hK|fail)
    ·repeat' first|refine gf (gi o1 h) ?_ o211|apply gy<;>intro hh
     any_goals (first|exact dwp_wk (Ae (by first|(simp[h,AO,arF];done)|(simp_all [h,AO,arF];done)) (Sub.refl _)) hK|fail)
    ·repeat' first|refine gf (gi o1 h) ?_ o211|apply gy<;>intro hh
     any_goals (first|exact dwp_wk (Ae (by first|(simp[h,AO,arF];done)|(simp_all [h,AO,arF];done)) (Sub.refl _)) hK|fail)
    ·repeat' first|refine gf (gi o1 h) ?_ o211|apply gy<;>intro hh
     any_goals (first|exact dwp_wk (Ae (by first|(simp[h,AO,arF];done)|(simp_all [h,AO,arF];done)) (Sub.refl _)) hK|fail)
    ·repeat' first|refine gf (gi o1 h) ?_ o211|apply gy<;>intro hh
     any_goals (first|exact dwp_wk (Ae (by first|(simp[h,AO,arF];done)|(simp_all [h,AO,arF];done)) (Sub.refl _)) hK|fail)
    ·repeat' first|refine gf (gi o1 h) ?_ o211|apply gy<;>intro hh
     any_goals (first|exact dwp_wk (Ae (by first|(simp[h,AO,arF];done)|(simp_all [h,AO,arF];done)) (Sub.refl _)) hK|fail)
    ·repeat' first|refine gf (gi o1 h) ?_ o211|apply gy<;>intro hh
     any_goals (first|exact dwp_wk (Ae (by first|(simp[h,AO,arF];done)|(simp_all [h,AO,arF];done)) (Sub.refl _)) hK|fail)
  ·rw[e7 (.inr (.inr (by unfold fctB;rw[aV gP];rfl)))]
   refine gf o1 ?_ o211
   exact fin1 (S':=V.set ib (.cells [dI (b-1)])) ⟨rfl,rfl⟩
end
def lits3:fD:=[wAny,wInt,H9]
def CQ(m:aE):Bool:=(decide (1<=m.kind)&&decide (m.kind<=4))&&(AJ m.name&&(decide (1<=m.params.length)&&(decide (m.params.length<=3)&&Dy m.params)))
def D6(ae own:fD)(m:aE)(b:Int):Bool×Int:=
 if CQ m=true then
  if(fctE m.params ae (own++lits3) m.fact 1 b).1=true/\(cntE m.body 1 120).1=true then
   (decide (0<=(fctE m.params ae (own++lits3) m.fact 1 b).2-(allE m.body).length)&&EC m.params ae own (decide (m.kind=1\/m.kind=4)) m.body,(fctE m.params ae (own++lits3) m.fact 1 b).2-(allE m.body).length)
  else(false,(fctE m.params ae (own++lits3) m.fact 1 b).2)
 else(false,b)
theorem Si (m:aE) (ae own:fD) (o2 o3:Own) (ib:Nat) (b:Int) (V:Sig) (hw:m.wt<=1073741824) (hs:ae.length<=1073741824) (ho:own.length<=1000000000) (fY:0<=b) (d9:b<=1000) (o1:V ib=some (.cells [dI b])) :
  au prog 125 [.agg (BZ m),.slice (cS ae) o2,.slice (cS own) o3,.ptr ib 0] V fun x S'=>x=.ret (.bool (D6 ae own m b).1)/\S'=V.set ib (.cells [dI (D6 ae own m b).2]):=by
 have d8:V.set ib (.cells [dI b])=V:=Sig.set_self _ o1
 have m1:m.name.length<m.wt/\wtS m.params<m.wt/\m.fact.wt<m.wt/\m.body.wt<m.wt:=by unfold aE.wt;omega
 obtain⟨m1,m2,m3,m4⟩:=m1
 have gS:lits3.length=3:=rfl
 have i76:∀V:Sig,Ans 76 [.agg (Al m.body)] V True (sl ((allE m.body).map Al)):=fun V=>ah0 (IU m.body.wt m.body V (bm _) (by omega))
 have gC:m.params.length<=1073741824:=by have:=Bb m.params;omega
 have ja:∀x∈m.params,x.length<=1073741824:=fun x hx=>by
  obtain⟨j,hj,rfl⟩:=bh hx
  have:=J2 _ j hj
  omega
 refine en func125 ntmps125 ?_
 by_cases k1:1<=m.kind
 ·by_cases k2:m.kind<=4
  ·cases hn:AJ m.name with
   |false=>
    refine gf (gi k1 (gi k2 hn)) ?_ (delO 3 o125) [9]
    refine fin1 (S':=V) ?_
    exact⟨by simp[D6,CQ,hn],by simp[D6,CQ,hn,d8]⟩
   | true =>
    by_cases q1:1<=m.params.length
    ·by_cases q2:m.params.length<=3
     ·cases hq:Dy m.params with
      |false=>
       refine gf (gi k1 (gi k2 (gi hn hq))) ?_ (delO 3 o125) [9]
       refine fin1 (S':=V) ?_
       exact⟨by simp[D6,CQ,hq],by simp[D6,CQ,hq,d8]⟩
      | true =>
       refine gf (gi k1 (gi k2 (gi hn hq))) ?_ (delO 3 o125) [9]
       refine mixU (id:=3) [0,1,2,3,5,4,6,7,8,9] [9] [4,6] ?_
       refine u3R (.am (BZ m) 2) ?_
       refine u3R (sl (cS m.params)) ?_
       refine u3R (.slice (cS ae) o2) ?_
       refine u3R (.slice (cS own) o3) ?_
       refine u3R (.slice (cS lits3) .clip) ?_
       refine u3N 1 own.length (fun i hi=>?_)
       refine u3E i (d:=.slice (cS own++cS lits3) (.tag i)) (x:=.tail 1 (own.length+3)) (w7 ..) hi ?_ (he:=by
        intro τ hO
        simp[hO,gS]
        omega)
       refine u3R (.agg [sl (cS m.params),.slice (cS ae) o2,.slice (cS own++cS lits3) (.tag i)]) ?_
       refine u3A [.ak,.ak,.ak] (fun i9 iD=>?_)
       have fO:Sub V ((((V.set i (.tail 1 own.length)).set i (.tail 1 (own.length+3))).set i9 (.cells [.ak,.ak,.ak])).set i9 (.cells [sl (cS m.params),.slice (cS ae) o2,.slice (cS own++cS lits3) (.tag i)])):=by
        intro k x hk
        simp only[Sig.set]at iD hk⊢
        grind
       refine u3M ?_
       simp only[List.map]
       refine Mn Af tdR (by simp[w8];rfl) fO ?_
       refine gz ?_ o125 [9]
       refine rtl 50 (.agg [sl (cS m.params),sl (cS ae),sl (cS (own++lits3))]) ?_ (hw:=E7 (AL (A9 _) (AL (Ao _ _) (AL (C3 _ (by simp[cS])) GJ))))
       refine drp V ?_
       refine Ac (RP ib gC hs (C:=own++lits3) (by simp[gS];omega) m.fact.wt m.fact 1 b V (bm _) (by omega) (by omega) (by omega) fY d9 o1) (fun d S' hr=>?_) (fun d S' hr=>by obtain⟨h,_⟩:=hr;cases h)
       obtain⟨hd,hZ⟩:=hr
       cases hd
       subst hZ
       have hg:D6 ae own m b=(if(fctE m.params ae (own++lits3) m.fact 1 b).1=true/\(cntE m.body 1 120).1=true then
   (decide (0<=(fctE m.params ae (own++lits3) m.fact 1 b).2-(allE m.body).length)&&EC m.params ae own (decide (m.kind=1\/m.kind=4)) m.body,(fctE m.params ae (own++lits3) m.fact 1 b).2-(allE m.body).length)
  else (false,(fctE m.params ae (own++lits3) m.fact 1 b).2)):=by simp [D6,CQ,k1,k2,hn,q1,q2,hq]
       rw[hg]
       generalize hF:fctE m.params ae (own++lits3) m.fact 1 b=F at*
       have jg : -1<=F.2/\F.2<=1000:=by
        have:=K0 (P:=m.params) (S:=ae) (C:=own++lits3) m.fact 1 b
        rw[hF]at this
        omega
       have iZ:V.set ib (.cells [dI F.2]) ib=some (.cells [dI F.2]):=w7 ..
       have iQ:=Er m.body
       cases d9:F.1 with
       |false=>
        refine gf d9 ?_ o125 [9]
        refine fin1 (S':=V.set ib (.cells [dI F.2])) ?_
        exact⟨by simp[d9],by simp[d9]⟩
       | true =>
        cases hc:(cntE m.body 1 120).1 with
        |false=>
         refine gf (gi d9 hc) ?_ o125 [9]
         refine fin1 (S':=V.set ib (.cells [dI F.2])) ?_
         exact⟨by simp[d9,hc],by simp[d9,hc]⟩
        | true =>
         repeat' first|refine gf (gi d9 hc) ?_ o125 [9]|apply gy<;>intro hh
         all_goals (refine fin1 (S':=(V.set ib (.cells [dI F.2])).set ib (.cells [dI (F.2-(allE m.body).length)])) ?_;refine⟨?_,by simp[d9,hc]⟩)
         ·simp[d9,hc,hh]
          intro _;omega
         ·simp[d9,hc,hh]
          intro _;omega
         ·simp[d9,hc]
          intro _;omega
     ·refine gf (gi k1 (gi k2 hn)) ?_ (delO 3 o125) [9]
      refine fin1 (S':=V) ?_
      exact⟨by simp[D6,CQ,q2],by simp[D6,CQ,q2,d8]⟩
    ·refine gf (gi k1 (gi k2 hn)) ?_ (delO 3 o125) [9]
     refine fin1 (S':=V) ?_
     exact⟨by simp[D6,CQ,q1],by simp[D6,CQ,q1,d8]⟩
  ·refine gz ?_ (delO 3 o125) [9]
   refine fin1 (S':=V) ?_
   exact⟨by simp[D6,CQ,k2],by simp[D6,CQ,k2,d8]⟩
 ·refine gz ?_ (delO 3 o125) [9]
  refine fin1 (S':=V) ?_
  exact⟨by simp[D6,CQ,k1],by simp[D6,CQ,k1,d8]⟩
end Go.DL
