/- Part of the proof that the last text ends. -/
import Derived.Test.YtlfimpogphmbdaaGreatM21
import Derived.Test.YtlfimpogphmbdaaGreatM26
import Derived.Test.YtlfimpogphmbdaaGreatM23
import Derived.Test.YtlfimpogphmbdaaGreatM17
import Derived.Test.YtlfimpogphmbdaaGreatM25
set_option linter.all false
namespace Go.DL
open Go.Proofs.Tryz
open Go Go.Proofs
set_option maxHeartbeats 8000000
def CQ:List Str->List FClass->Bool
 |_,[]=>true
 |own,c::r=>(!decide (3<c.parents.length)&&!decide (4<c.slots.length)&&difE [] c.parents)&&(c.parents.all (fun s=>decide (s∈own))&&CQ (own++[c.name]) r)
def EJ(f:FProg):Bool := !decide (10<f.classes.length)&&(CQ [] f.classes&&(Ef (f.classes.map (·.name))&&Ef (f.classes.flatMap (·.slots))))
theorem Uy(f:FProg)(V:Sig)(hw:f.wt<=1073741824):DCall prog 120 [.agg (B7 f)] V (rS (.bool (EJ f)) V):=by
 obtain⟨p1,p2,p3,p4,p5⟩:=f.wt_le
 have hpw:∀c∈f.classes,c.parents.length<=1073741824/\c.slots.length<=1073741824/\c.name.length<=1073741824 /\ ∀s∈c.slots,s.length<=1073741824:=fun c hc=>by
  obtain⟨k,hk,rfl⟩:=List.getElem_of_mem hc
  have:=p4 k hk
  obtain⟨q1,q2,q3,_⟩:=(f.classes[k]).wt_le
  have:=Bu (f.classes[k]).parents
  have:=Bu (f.classes[k]).slots
  refine⟨by omega,by omega,by omega,fun s hs =>?_⟩
  obtain⟨j,hj,rfl⟩:=List.getElem_of_mem hs
  have:=Ix _ j hj
  omega
 have hsl:(f.classes.flatMap (·.slots)).length<=1073741824:=by
  have h:∀l:List FClass,(l.flatMap (·.slots)).length<=wtL FClass.wt l:=by
   intro l
   induction l with
   |nil=>simp[wtL]
   |cons c l ih=>simp only[List.flatMap_cons,List.length_append,wtL];have:=Bu c.slots;have:=c.wt_le;omega
  have:=h f.classes
  unfold FProg.wt at hw;omega
 have hn1:∀x∈f.classes.map (·.name),x.length<=1073741824:=fun x hx=>by obtain⟨c,hc,rfl⟩:=List.mem_map.1 hx;exact(hpw c hc).2.2.1
 have hn2:∀x∈f.classes.flatMap (·.slots),x.length<=1073741824:=fun x hx=>by obtain⟨c,hc,hx⟩:=List.mem_flatMap.1 hx;exact(hpw c hc).2.2.2 x hx
 refine en func120 ntmps120 ?_
 by_cases h10:10<f.classes.length
 ·refine gz ?_ o120
  (refine fin1 (S':=V) ?_;exact⟨by first|rfl|(simp[EJ,h10];done)|(simp_all [EJ,h10];done)|(rw[A7,Bool.eq_iff_iff];simp_all [EJ,h10]<;>omega),rfl⟩)
 have hN:EJ f=(CQ [] f.classes&&(Ef (f.classes.map (·.name))&&Ef (f.classes.flatMap (·.slots)))):=by unfold EJ;rw[decide_eq_false h10];rfl
 rw[hN]
 refine gz ?_ o120
 refine Bz 3 1 (fun i hi =>?_)
 refine AA [1,61,62,63,64,65,66,67] (fun (k:Nat) (own:List Str)=>k<=f.classes.length/\own=(f.classes.take k).map (·.name)/\CQ [] f.classes=CQ own (f.classes.drop k)) (fun k own=>[(4,dI k),(3,.slice (cS own) (.tag i))]) (fun _ own=>V.set i (.tail 1 own.length)) (fun k _=>f.classes.length-k) (0) ([]) (by simp) (fun k own hI =>?_)
 obtain⟨hk,hown,hR⟩:=hI
 have hol:own.length=k:=by rw[hown];simp;omega
 by_cases hkl:k<f.classes.length
 ·rw [A0 hkl,CQ] at hR
  have hq:=hpw _ (List.getElem_mem hkl)
  obtain⟨q1,q2,q3,q4⟩:=hq
  generalize hc:f.classes[k]=c at *
  have hcl:(cS own).length=k:=by simp[cS,hol]
  have htk:List.take k (cS own++[[D.str c.name]])=cS own:=by rw[List.take_append_of_le_length (by omega),List.take_of_length_le (by omega)]
  by_cases b1:3<c.parents.length
  ·have hq:CQ [] f.classes=false:=by rw[hR,decide_eq_true b1];rfl
   refine gf hc ?_ o120
   exact fe1 hq
  by_cases b2:4<c.slots.length
  ·have hq:CQ [] f.classes=false:=by rw[hR,decide_eq_false b1,decide_eq_true b2];rfl
   refine gf hc ?_ o120
   exact fe1 hq
  rw[decide_eq_false b1,decide_eq_false b2]at hR
  simp only[Bool.not_false,Bool.true_and]at hR
  cases b3:difE [] c.parents with
  |false =>
   have hq:CQ [] f.classes=false:=by rw[hR,b3];rfl
   refine gf (gi hc b3) ?_ o120
   exact fe1 hq
  | true =>
   rw[b3,Bool.true_and]at hR
   refine gf (gi hc b3) ?_ o120
   refine B2 [1,3,4,5,11,12,13,14,15,16,17,18,19,20,21,22,23,24,25,26,27,28,29,30,31,32,33,34,35,36,37,38,39,40,41,42,43,61,62,63,64,65,66,67] (fun (j:Nat)=>j<=c.parents.length/\c.parents.all (fun s=>decide (s∈own))=(c.parents.drop j).all fun s=>decide (s∈own)) (fun j=>[(6,dI j)]) (fun _=>V.set i (.tail 1 (own.length+1))) (fun j=>c.parents.length-j) (0) (by simp) (fun j hI =>?_)
   obtain⟨hj,hP⟩:=hI
   by_cases hjl:j<c.parents.length
   ·rw[A0 hjl,List.all_cons]at hP
    generalize hs:c.parents[j]=s at *
    repeat' first|refine gf (gi hc (gi hs htk)) ?_ o120|apply gy<;>intro hh
    ·have hq:CQ [] f.classes=false:=by rw[hR,hP,decide_eq_false hh];rfl
     exact fe1 hq
    ·exact⟨j+1,⟨by omega,by rw[hP,decide_eq_true hh,Bool.true_and]⟩,td1,wkR⟩
   ·rw[A1 hjl,List.all_nil]at hP
    rw[hP,Bool.true_and]at hR
    refine gf hc ?_ o120
    exact⟨k+1,own++[c.name],⟨by omega,by rw[hown,List.take_succ_eq_append_getElem hkl,List.map_append,hc];rfl,hR⟩,td1,wkR⟩
 ·rw[A1 hkl,CQ]at hR
  have e:own=f.classes.map (·.name):=by rw[hown,List.take_of_length_le (by omega)]
  rw[hR,Bool.true_and, <-e]
  rw[<-e]at hn1
  repeat' first|refine gz ?_ o120|apply gy<;>intro hh
  ·exact fe1 hh
  ·exact fe1 hh
@[reducible,instance] def a120:=fun f V=>ah1 (@Uy f V)
theorem idxF_lt{α:Type}(q:α->Bool): ∀(l:List α) (k:Nat),idxF q l k = -1\/((k:Int)<=idxF q l k/\idxF q l k<k+l.length)
 |[],k => .inl rfl
 | x::r,k=>by
  rw[idxF]
  split
  ·right;simp only[List.length_cons];omega
  ·rcases idxF_lt q r (k+1)with h|h
   ·exact .inl h
   ·right;simp only[List.length_cons];omega
def Dc(f:FProg):List Str->List Bool->List Bool
 |[],b=>b
 |s::r,b=>Dc f r (b.set (idxF (fun c:FClass=>decide (c.name=s)) f.classes 0).toNat true)
def abvD(f:FProg)(n:Nat):Nat->List Bool->List Bool
 |0,b=>b
 |i+1,b=>abvD f n i (if i≠n/\b.getD i false=false then b else Dc f (((f.classes[i]?).map (·.parents)).getD []) b)
def abvF(f:FProg)(n:Nat):List Bool:=abvD f n (n+1) (List.replicate f.classes.length false)
def ParOK(f:FProg):Prop := ∀c∈f.classes, ∀s∈c.parents,0<=idxF (fun c:FClass=>decide (c.name=s)) f.classes 0
theorem TP(f:FProg)(n:Nat)(V:Sig)(hw:f.wt<=1073741824)(hn:n<f.classes.length)(hp:ParOK f):DCall prog 206 [.agg (B7 f),dI n] V fun x S' => ∃r,x=.ret (.sref r 0 f.classes.length f.classes.length)/\V r=none/\S'=V.set r (.cells (B9 (abvF f n))):=by
 obtain⟨p1,p2,p3,p4,p5⟩:=f.wt_le
 have hcl:f.classes.length<=1073741824:=by omega
 refine en func206 ntmps206 ?_
 refine gz ?_ o206
 refine Sy (k:=f.classes.length) (c:=f.classes.length) (z:=[.bool false]) (sz:=1) (fun i hi hm =>?_)
 have e0:mS V (some (i,f.classes.length,(List.replicate (f.classes.length-f.classes.length) [D.bool false]).flatten)) (List.replicate f.classes.length [D.bool false])=V.set i (.cells (B9 (List.replicate f.classes.length false))):=by
  simp only[mS,Nat.sub_self,List.replicate_zero,List.flatten_nil,List.append_nil]
  congr 2
  generalize f.classes.length=m
  induction m with
  |zero=>rfl
  |succ m ih=>rw[List.replicate_succ,List.replicate_succ,List.flatten_cons,ih];rfl
 rw[e0]
 generalize hb0:List.replicate f.classes.length false=b0
 have hl0:b0.length=f.classes.length:=by rw[<-hb0];simp
 refine gf hl0 ?_ o206
 refine AA [1,2,4,5,48] (fun (m:Nat) (bs:List Bool)=>m<=n+1/\bs.length=f.classes.length/\abvD f n m bs=abvF f n) (fun m _=>[(6,dI ((m:Int)-1))]) (fun _ bs=>V.set i (.cells (B9 bs))) (fun m _=>m) (n+1) (b0) (by exact⟨Nat.le_refl _,hl0,by unfold abvF;rw[hb0]⟩) (fun m bs hI =>?_)
 obtain⟨hm,hbl,hU⟩:=hI
 have hi3:(V.set i (.cells (B9 bs))) i=some (.cells (B9 bs)):=w7 ..
 cases m with
 |zero =>
  rw[abvD]at hU
  subst hU
  refine gz ?_ o206
  exact fin1 (S':=V.set i (.cells (B9 (abvF f n)))) ⟨i,rfl,hi,rfl⟩
 | succ j =>
  have hj:j<f.classes.length:=by omega
  have hjb:j<bs.length:=by omega
  have ej:((j+1:Nat):Int)-1=j:=by omega
  have hgd:bs.getD j false=bs[j]:=by rw[List.getD_eq_getElem?_getD,List.getElem?_eq_getElem hjb];rfl
  rw[abvD,hgd,List.getElem?_eq_getElem hj]at hU
  simp only[Option.map_some,Option.getD_some]at hU
  have hpj:=hp _ (List.getElem_mem hj)
  have hpl:(f.classes[j]).parents.length<=1073741824:=by have:=p4 j hj;have:=(f.classes[j]).wt_le;have:=Bu (f.classes[j]).parents;omega
  by_cases hcont:j≠n/\bs[j]=false
  ·rw[if_pos hcont]at hU
   obtain⟨c1,c2⟩:=hcont
   refine gf (gi ej c2) ?_ o206
   exact⟨j,bs,⟨by omega,hbl,hU⟩,td1,wkR⟩
  ·rw[if_neg hcont]at hU
   generalize hps:(f.classes[j]).parents=ps at *
   by_cases c1:j=n
   ·subst c1
    refine gf (gi ej hps) ?_ o206
    refine AA [1,2,4,5,6,7,14,15,16,17,18,19,20,21,22,23,24,25,26,27,28,29,30,31,32,33,48] (fun (q:Nat) (b2:List Bool)=>q<=ps.length/\b2.length=f.classes.length/\Dc f ps bs=Dc f (ps.drop q) b2) (fun q _=>[(8,dI q)]) (fun _ b2=>V.set i (.cells (B9 b2))) (fun q _=>ps.length-q) (0) (bs) (by exact⟨by omega,hbl,rfl⟩) (fun q b2 hI =>?_)
    obtain⟨hq,hbl2,hR⟩:=hI
    have hi4:(V.set i (.cells (B9 b2))) i=some (.cells (B9 b2)):=w7 ..
    by_cases hq':q<ps.length
    ·have hs0:=hpj _ (List.getElem_mem hq')
     have hs1:=idxF_lt (fun c:FClass=>decide (c.name=ps[q])) f.classes 0
     rw[A0 hq',Dc]at hR
     generalize hsq:ps[q]=s at *
     obtain⟨p,hpe⟩:∃p:Nat,idxF (fun c:FClass=>decide (c.name=s)) f.classes 0=(p:Int):=⟨_,(Int.toNat_of_nonneg hs0).symm⟩
     rw[hpe,show((p:Int)).toNat=p by omega]at hR
     rw[hpe]at hs1
     have hp2:p<b2.length:=by omega
     refine gf (gi hsq hpe) ?_ o206
     exact⟨q+1,b2.set p true,⟨by omega,by simpa using hbl2,hR⟩,td1,wkR⟩
    ·rw[A1 hq',Dc]at hR
     rw[hR]at hU
     refine gz ?_ o206
     exact⟨j,b2,⟨by omega,hbl2,hU⟩,td1,wkR⟩
   ·have c2:bs[j]=true:=by cases h:bs[j];exact absurd ⟨c1,h⟩ hcont;rfl
    refine gf (gi ej (gi c2 hps)) ?_ o206
    refine AA [1,2,4,5,6,7,14,15,16,17,18,19,20,21,22,23,24,25,26,27,28,29,30,31,32,33,48] (fun (q:Nat) (b2:List Bool)=>q<=ps.length/\b2.length=f.classes.length/\Dc f ps bs=Dc f (ps.drop q) b2) (fun q _=>[(8,dI q)]) (fun _ b2=>V.set i (.cells (B9 b2))) (fun q _=>ps.length-q) (0) (bs) (by exact⟨by omega,hbl,rfl⟩) (fun q b2 hI =>?_)
    obtain⟨hq,hbl2,hR⟩:=hI
    have hi4:(V.set i (.cells (B9 b2))) i=some (.cells (B9 b2)):=w7 ..
    by_cases hq':q<ps.length
    ·have hs0:=hpj _ (List.getElem_mem hq')
     have hs1:=idxF_lt (fun c:FClass=>decide (c.name=ps[q])) f.classes 0
     rw[A0 hq',Dc]at hR
     generalize hsq:ps[q]=s at *
     obtain⟨p,hpe⟩:∃p:Nat,idxF (fun c:FClass=>decide (c.name=s)) f.classes 0=(p:Int):=⟨_,(Int.toNat_of_nonneg hs0).symm⟩
     rw[hpe,show((p:Int)).toNat=p by omega]at hR
     rw[hpe]at hs1
     have hp2:p<b2.length:=by omega
     refine gf (gi hsq hpe) ?_ o206
     exact⟨q+1,b2.set p true,⟨by omega,by simpa using hbl2,hR⟩,td1,wkR⟩
    ·rw[A1 hq',Dc]at hR
     rw[hR]at hU
     refine gz ?_ o206
     exact⟨j,b2,⟨by omega,hbl2,hU⟩,td1,wkR⟩
def Ih:List FClass->List Bool->List Str
 |c::cs,b::bs=>(if b=true then c.slots else [])++Ih cs bs
 |_,_=>[]
def iniR(mine:List Str):List Str->List FInit->Bool
 |_,[]=>true
 |seen,x::r=>(decide (x.slot∈mine)&&(!decide (x.slot∈seen)&&inB x.n))&&iniR mine (seen++[x.slot]) r
def inisR(f:FProg):Nat->List FClass->Bool
 |_,[]=>true
 |i,c::r=>iniR (Ih f.classes ((abvF f i).set i true)) [] c.inits&&inisR f (i+1) r
theorem Fa(f:FProg): ∀(ps:List Str) (b:List Bool),(Dc f ps b).length=b.length
 |[],_=>rfl
 |s::r,b=>by rw[Dc,Fa f r,List.length_set]
theorem JX(f:FProg)(n:Nat): ∀(i:Nat) (b:List Bool),(abvD f n i b).length=b.length
 |0,_=>rfl
 |i+1,b=>by
  rw[abvD,JX f n i]
  split
  ·rfl
  ·rw[Fa]
theorem JW(f:FProg)(n:Nat):(abvF f n).length=f.classes.length:=by rw[abvF,JX,List.length_replicate]
theorem Ux(f:FProg)(V:Sig)(hw:f.wt<=1073741824)(hp:ParOK f)(h10:f.classes.length<=10)(h4:∀c∈f.classes,c.slots.length<=4):
  DCall prog 121 [.agg (B7 f)] V (rS (.bool (inisR f 0 f.classes)) V):=by
 obtain⟨p1,p2,p3,p4,p5⟩:=f.wt_le
 refine en func121 ntmps121 ?_
 refine gz ?_
 refine B2 [1] (fun (i:Nat)=>i<=f.classes.length/\inisR f 0 f.classes=inisR f i (f.classes.drop i)) (fun i=>[(3,dI i)]) (fun _=>V) (fun i=>f.classes.length-i) (0) (by simp) (fun i hI =>?_)
 obtain⟨hi,hR⟩:=hI
 by_cases hil:i<f.classes.length
 ·rw [A0 hil,inisR] at hR
  have hwc:=p4 i hil
  have hil2:((f.classes[i]).inits).length<=1073741824:=by have:=(f.classes[i]).wt_le;omega
  refine gz ?_
  refine Ab (TP f i _ hw hil hp) (fun d S' hr =>?_) (fun d S' hr=>by obtain⟨_,h,_⟩:=hr;cases h)
  obtain⟨r,h1,hr0,rfl⟩:=hr
  cases h1
  have hbl:=JW f i
  generalize hb0:abvF f i=b0 at *
  have hi3:(V.set r (.cells (B9 b0))) r=some (.cells (B9 b0)):=w7 ..
  have hib:i<b0.length:=by omega
  simp only[putD]
  refine gf (gi hbl hi3) ?_
  generalize hb1:b0.set i true=b1 at *
  have hbl1:b1.length=f.classes.length:=by rw[<-hb1,List.length_set];exact hbl
  refine Bz 5 1 (fun ia hia =>?_)
  have hra:r≠ia:=fun e=>by rw[<-e,w7]at hia;cases hia
  have ha0:V ia=none:=by rw[w8 _ _ (Ne.symm hra)]at hia;exact hia
  have hrd2:(V.set r (.cells (B9 b1))) r=some (.cells (B9 b1)):=w7 ..
  have hs1:∀o:DObj,Sub V ((V.set r (.cells (B9 b1))).set ia o):=fun o=>((Sub.refl _).set hr0).set ha0
  generalize hS1:V.set r (.cells (B9 b1))=S1 at *
  refine AA [1,2,3,4,6,8,9,10,11,12,13,14,15,16,17,18,19,20,21,22,41,42,43,44,45,46,47,48,49,50,51,52,53,54,55,56,57,58,59,60,61,62,63,64,65,66,67,68,69,70,71,72,73,74,75,76,77,78,79,80,81,82,83,84,85,86] (fun (k:Nat) (mine:List Str)=>k<=f.classes.length/\mine.length<=4*k/\Ih f.classes b1=mine++Ih (f.classes.drop k) (b1.drop k)) (fun k mine=>[(7,dI k),(5,.slice (cS mine) (.tag ia))]) (fun _ mine=>S1.set ia (.tail 1 mine.length)) (fun k _=>f.classes.length-k) (0) ([]) (by simp) (fun k mine hI =>?_)
  obtain⟨hk,hml,hM⟩:=hI
  by_cases hkl:k<f.classes.length
  ·have hkb:k<b1.length:=by omega
   rw[A0 hkl,A0 hkb,Ih]at hM
   have h4k:=h4 _ (List.getElem_mem hkl)
   generalize hck:f.classes[k]=c at *
   cases hbk:b1[k]with
   |true =>
    rw[hbk,if_pos rfl]at hM
    refine gf (gi hrd2 (gi hbl1 (gi hbk hck))) ?_
    exact⟨k+1,mine++c.slots,⟨by omega,by rw[List.length_append];omega,by rw[hM,List.append_assoc]⟩,td1,wkR⟩
   |false =>
    rw[hbk,if_neg (by simp),List.nil_append]at hM
    refine gf (gi hrd2 (gi hbl1 hbk)) ?_
    exact⟨k+1,mine,⟨by omega,by omega,hM⟩,td1,wkR⟩
  ·rw [A1 hkl,show Ih [] (b1.drop k)=[] by simp [Ih],List.append_nil] at hM
   generalize hci:f.classes[i]=c at *
   generalize hli:c.inits=l at *
   refine gf (gi hbl1 (gi hci hli)) ?_
   refine Bz 6 1 (fun ib hib2 =>?_)
   have hb00:V ib=none:=(hs1 _).none hib2
   refine AA [1,3,4,5,7,8,10,11,12,13,14,15,16,17,18,19,20,21,22,23,24,25,26,27,28,29,30,31,32,33,34,35,36,37,38,39,40,41,42,43,44,45,46] (fun (j:Nat) (seen:List Str)=>j<=l.length/\seen.length<=j/\iniR mine [] l=iniR mine seen (l.drop j)) (fun j seen=>[(9,dI j),(6,.slice (cS seen) (.tag ib))]) (fun _ seen=>(S1.set ia (.tail 1 mine.length)).set ib (.tail 1 seen.length)) (fun j _=>l.length-j) (0) ([]) (by simp) (fun j seen hI =>?_)
   obtain⟨hj,hsl,hL⟩:=hI
   have hs3:Sub V ((S1.set ia (.tail 1 mine.length)).set ib (.tail 1 seen.length)):=(hs1 _).set hb00
   rw[hM,hL]at hR
   by_cases hjl:j<l.length
   ·rw [A0 hjl,iniR] at hR hL
    generalize hxj:l[j]=x at *
    by_cases m1:x.slot∈mine
    ·by_cases m2:x.slot∈seen
     ·have hq:inisR f 0 f.classes=false:=by rw[hR,decide_eq_true m1,decide_eq_true m2];rfl
      refine gf (gi hxj (gi m1 m2)) ?_
      exact fe1 hq
     ·cases m3:inB x.n with
      |false =>
       have hq:inisR f 0 f.classes=false:=by rw[hR,decide_eq_true m1,decide_eq_false m2,m3];rfl
       refine gf (gi hxj (gi m1 (gi m2 m3))) ?_
       exact fe1 hq
      |true =>
       rw[decide_eq_true m1,decide_eq_false m2,m3]at hL
       simp only[Bool.not_false,Bool.true_and]at hL
       refine gf (gi hxj (gi m1 (gi m2 m3))) ?_
       exact⟨j+1,seen++[x.slot],⟨by omega,by simp;omega,hL⟩,td1,wkR⟩
    ·have hq:inisR f 0 f.classes=false:=by rw[hR,decide_eq_false m1];rfl
     refine gf (gi hxj m1) ?_
     exact fe1 hq
   ·rw[A1 hjl,iniR,Bool.true_and]at hR
    refine gz ?_
    exact⟨i+1,⟨by omega,hR⟩,td1,wkR⟩
 ·rw[A1 hil,inisR]at hR
  refine gz ?_
  exact fe1 hR
def fctC(P C:List Str)(x:FFact):Bool :=
 (decide ((x.kids.length:Int)=arF x.op)&&(if AO x.op=true then decide (x.name∈P) else(decide (x.name=[])&&decide (x.path=[])))&&decide (x.path.length<=2)) &&
 (((decide (x.op=2) == !decide (x.cls=[]))&&(!decide (x.op=2)||decide (x.cls∈C)))&&((decide (x.op=3\/x.op=4)||decide (x.n=0))&&inB x.n))
def fctB(P S C:List Str)(x:FFact):Bool:=decide (1<=x.op/\x.op<=7)&&(fctC P C x&&x.path.all (fun s=>decide (s∈S)))
mutual
def fctE(P S C:List Str):FFact->Int->Int->Bool×Int
 |.mk o s p c n k,d,b=>if b-1<0\/12<d\/fctB P S C (.mk o s p c n k)=false then(false,b-1) else F1 P S C k (d+1) (b-1)
def F1(P S C:List Str):List FFact->Int->Int->Bool×Int
 |[],_,b=>(true,b)
 |x::r,d,b=>if(fctE P S C x d b).1=true then F1 P S C r d (fctE P S C x d b).2 else(false,(fctE P S C x d b).2)
end
section
variable {P S C:List Str}
theorem T0(e:FFact)(d b:Int):fctE P S C e d b=if b-1<0\/12<d\/fctB P S C e=false then(false,b-1) else F1 P S C e.kids (d+1) (b-1):=by cases e;rw[fctE];rfl
mutual
theorem Jv: ∀(e:FFact) (d b:Int),(fctE P S C e d b).2<=b/\(0<=b-> -1<=(fctE P S C e d b).2)/\((fctE P S C e d b).1=true->0<=(fctE P S C e d b).2)
 | .mk o s p c n k,d,b=>by
  rw[fctE]
  split
  ·refine⟨?_,?_,?_⟩<;>simp<;>omega
  ·have:=Pz k (d+1) (b-1)
   exact⟨by omega,fun h=>this.2.1 (by omega),fun h=>this.2.2 (by omega) h⟩
theorem Pz: ∀(l:List FFact) (d b:Int),(F1 P S C l d b).2<=b/\(0<=b-> -1<=(F1 P S C l d b).2)/\(0<=b->(F1 P S C l d b).1=true->0<=(F1 P S C l d b).2)
 |[],d,b=>by rw[F1];exact⟨Int.le_refl _,fun h=>by simp;omega,fun h _=>h⟩
 | x::r,d,b=>by
  have h1:=Jv x d b
  rw[F1]
  split
  ·rename_i h
   have h2:=Pz r d (fctE P S C x d b).2
   have:=h1.2.2 h
   exact⟨by omega,fun _=>h2.2.1 this,fun _ h3=>h2.2.2 this h3⟩
  ·exact⟨h1.1,h1.2.1,fun _ h3=>by cases h3⟩
end
theorem It(x:FFact):fctC P C x=true ↔
  ((x.kids.length:Int)=arF x.op/\((AO x.op=true/\x.name∈P)\/(AO x.op=false/\x.name=[]/\x.path=[]))/\x.path.length<=2) /\
  ((x.op=2/\x.cls≠[]/\x.cls∈C)\/(x.op≠2/\x.cls=[]))/\(((x.op=3\/x.op=4)\/x.n=0)/\inB x.n=true):=by
 unfold fctC
 cases AO x.op<;>by_cases h2:x.op=2<;>by_cases hc:x.cls=[]<;>simp[h2,hc,and_assoc]
theorem QW (ib:Nat) (hP:P.length<=1073741824) (hS:S.length<=1073741824) (hC:C.length<=1073741824) : ∀ (n:Nat) (f:FFact) (d b:Int) (V:Sig),f.wt<=n->n<=1073741824->0<=d->d+n<=2000000000->0<=b->b<=1000->V ib=some (.cells [dI b]) ->
  DCall prog 211 [.agg [sl (cS P),sl (cS S),sl (cS C)],.agg (AM f),dI d,.ptr ib 0] V fun x S'=>x=.ret (.bool (fctE P S C f d b).1)/\S'=V.set ib (.cells [dI (fctE P S C f d b).2]):=by
 intro n
 induction n with
 |zero =>
  intro f d b V hx
  have:=f.wt_pos
  omega
 | succ n ih =>
  intro f d b V hx hn hd hd2 hb0 hb1 o1
  obtain⟨w1,w2,w3,w4,hw3⟩:=f.wt_le
  have hpl:f.path.length<=1073741824:=by have:=Bu f.path;omega
  have hwf:f.wt<=1073741824:=by omega
  have hfin:(b-1<0\/12<d\/fctB P S C f=false)->fctE P S C f d b=(false,b-1):=fun h=>by rw[T0,if_pos h]
  have hBf:¬fctC P C f=true->fctB P S C f=false:=fun h=>by unfold fctB;rw[Bool.eq_false_iff.2 h];simp
  refine en func211 ntmps211 ?_
  by_cases h1:b-1<0
  ·rw[hfin (.inl h1)]
   refine gf o1 ?_ o211
   exact fin1 (S':=V.set ib (.cells [dI (b-1)])) ⟨rfl,rfl⟩
  by_cases h2:12<d
  ·rw[hfin (.inr (.inl h2))]
   refine gf o1 ?_ o211
   exact fin1 (S':=V.set ib (.cells [dI (b-1)])) ⟨rfl,rfl⟩
  by_cases hop:1<=f.op/\f.op<=7
  ·refine Wr [(4, .cptr [sl (cS P),sl (cS S),sl (cS C)] 0),(5, .cptr (AM f) 0),(8, .bool false),(9, .bool (AO f.op)),(10,dI (arF f.op))] (V.set ib (.cells [dI (b-1)])) ?_ (fun _ hK => ?_)
   ·by_cases hA:(f.kids.length:Int)=arF f.op/\((AO f.op=true/\f.name ∈ P)\/(AO f.op=false/\f.name=[]/\f.path=[]))/\f.path.length<=2
    ·refine dwp_cut1 [] (V.set ib (.cells [dI (b-1)])) ?_ (fun _ hK => ?_)
     ·by_cases hB:(f.op=2/\f.cls≠[]/\f.cls∈C)\/(f.op≠2/\f.cls=[])
      ·refine dwp_cut1 [] (V.set ib (.cells [dI (b-1)])) ?_ (fun _ hK =>?_)
       ·by_cases hN:((f.op=3\/f.op=4)\/f.n=0)/\inB f.n=true
        ·refine dwp_cut1 [] (V.set ib (.cells [dI (b-1)])) ?_ (fun _ hK =>?_)
         ·have hCt:fctC P C f=true:=(It f).2 ⟨hA,hB,hN⟩
          refine gz ?_ o211
          refine B2 [2,3,4,5,12,144,145,146,147,148,149,150,151,152,153,154,155,156,157,158,159,160,161] (fun (k:Nat)=>k<=f.path.length/\f.path.all (fun s=>decide (s∈S))=(f.path.drop k).all fun s=>decide (s∈S)) (fun k=>[(11,dI k)]) (fun _=>V.set ib (.cells [dI (b-1)])) (fun k=>f.path.length-k) (0) (by simp) (fun k hI =>?_)
          obtain⟨hk,hP1⟩:=hI
          by_cases hkl:k<f.path.length
          ·rw[A0 hkl,List.all_cons]at hP1
           generalize hpk:f.path[k]=s at *
           repeat' first|refine gf hpk ?_ o211|apply gy<;>intro hh
           ·have hq:fctB P S C f=false:=by unfold fctB;rw[hP1,decide_eq_false hh];simp
            rw[hfin (.inr (.inr hq))]
            exact fin1 (S':=V.set ib (.cells [dI (b-1)])) ⟨rfl,rfl⟩
           ·exact⟨k+1,⟨by omega,by rw[hP1,decide_eq_true hh,Bool.true_and]⟩,td1,wkR⟩
          ·rw[A1 hkl,List.all_nil]at hP1
           have hq:fctB P S C f=true:=by unfold fctB;rw[hP1,hCt,decide_eq_true hop];rfl
           have hE:fctE P S C f d b=F1 P S C f.kids (d+1) (b-1):=by rw[T0,if_neg (by rw[hq];simp;omega)]
           rw[hE]
           refine gz ?_ o211
           refine AA [2,3,4,5] (fun (j:Nat) (b2:Int)=>j<=f.kids.length/\0<=b2/\b2<=b/\F1 P S C f.kids (d+1) (b-1)=F1 P S C (f.kids.drop j) (d+1) b2) (fun j _=>[(12,dI j)]) (fun _ b2=>V.set ib (.cells [dI b2])) (fun j _=>f.kids.length-j) (0) (b-1) (by exact⟨by omega,by omega,by omega,rfl⟩) (fun j b2 hI =>?_)
           obtain⟨hj,hb2,hbb,hR⟩:=hI
           by_cases hjl:j<f.kids.length
           ·rw[A0 hjl,F1]at hR
            have hxw:=hw3 j hjl
            generalize hkx:f.kids[j]=x at *
            have hle:=Jv (P:=P) (S:=S) (C:=C) x (d+1) b2
            refine gf hkx ?_ (delO 31 o211)
            refine MP (id:=31) [0,1,2,3,4,5,6,7,8,9,10] [9] (fun _=>none) (fun _ _ h=>by cases h) ?_
            refine gf hkx ?_ (delO 31 o211)
            refine BF (ih x (d+1) b2 _ (by omega) (by omega) (by omega) (by omega) hb2 (by omega) (w7 ..)) (fun dd S' hr =>?_) (fun dd S' hr=>by cases hr.1)
            obtain⟨hr',rfl⟩:=hr
            cases hr'
            rw[w9]
            refine⟨fun _ _ h=>(by cases h),?_⟩
            simp only[putD]
            cases hq:(fctE P S C x (d+1) b2).1
            ·rw[if_neg (by rw[hq];simp)]at hR
             rw[hR]
             refine gz ?_ o211
             exact fin1 (S':=V.set ib (.cells [dI (fctE P S C x (d+1) b2).2])) ⟨rfl,rfl⟩
            ·rw[if_pos hq]at hR
             refine gz ?_ o211
             exact⟨j+1,(fctE P S C x (d+1) b2).2,⟨by omega,hle.2.2 hq,by omega,hR⟩,td1,wkR⟩
           ·rw[A1 hjl,F1]at hR
            rw[hR]
            refine gz ?_ o211
            exact fin1 (S':=V.set ib (.cells [dI b2])) ⟨rfl,rfl⟩
         ·obtain⟨n1,n2⟩:=hN
          by_cases h3:f.op=3
          ·refine gf (gi h3 n2) ?_ o211
           exact dwp_wk (Ag (by first|(simp;done)|(simp_all;done)) (Sub.refl _)) hK
          ·by_cases h4:f.op=4
           ·refine gf (gi h3 (gi h4 n2)) ?_ o211
            exact dwp_wk (Ag (by first|(simp;done)|(simp_all;done)) (Sub.refl _)) hK
           ·have n0:f.n=0:=n1.resolve_left fun h=>h.elim h3 h4
            refine gf (gi h3 (gi h4 n2)) ?_ o211
            exact dwp_wk (Ag (by first|(simp;done)|(simp_all;done)) (Sub.refl _)) hK
        ·rw [hfin (.inr (.inr (hBf fun h=>hN ((It f).1 h).2.2)))]
         by_cases h3:f.op=3
         ·have n2:inB f.n=false:=by cases h:inB f.n;rfl;exact absurd ⟨.inl (.inl h3),h⟩ hN
          refine gf (gi h3 n2) ?_ o211
          exact fin1 (S':=V.set ib (.cells [dI (b-1)])) ⟨rfl,rfl⟩
         ·by_cases h4:f.op=4
          ·have n2:inB f.n=false:=by cases h:inB f.n;rfl;exact absurd ⟨.inl (.inr h4),h⟩ hN
           refine gf (gi h3 (gi h4 n2)) ?_ o211
           exact fin1 (S':=V.set ib (.cells [dI (b-1)])) ⟨rfl,rfl⟩
          ·cases n2:inB f.n with
           |false =>
            repeat' first|refine gf (gi h3 (gi h4 n2)) ?_ o211|apply gy<;>intro hh
            ·exact fin1 (S':=V.set ib (.cells [dI (b-1)])) ⟨rfl,rfl⟩
            ·exact fin1 (S':=V.set ib (.cells [dI (b-1)])) ⟨rfl,rfl⟩
           |true =>
            repeat' first|refine gf (gi h3 (gi h4 n2)) ?_ o211|apply gy<;>intro hh
            ·exact fin1 (S':=V.set ib (.cells [dI (b-1)])) ⟨rfl,rfl⟩
            ·exact absurd ⟨.inr hh,n2⟩ hN
       ·rcases hB with⟨h2,hc,hm⟩|⟨h2,hc⟩
        ·refine gf (gi h2 (gi hc hm)) ?_ o211
         exact dwp_wk (Ag (by first|(simp;done)|(simp_all;done)) (Sub.refl _)) hK
        ·refine gf (gi h2 hc) ?_ o211
         exact dwp_wk (Ag (by first|(simp;done)|(simp_all;done)) (Sub.refl _)) hK
      ·rw[hfin (.inr (.inr (hBf fun h=>hB ((It f).1 h).2.1)))]
       by_cases h2:f.op=2
       ·by_cases hc:f.cls=[]
        ·refine gf (gi h2 hc) ?_ o211
         exact fin1 (S':=V.set ib (.cells [dI (b-1)])) ⟨rfl,rfl⟩
        ·have hm:¬f.cls∈C:=fun h=>hB (.inl ⟨h2,hc,h⟩)
         refine gf (gi h2 (gi hc hm)) ?_ o211
         exact fin1 (S':=V.set ib (.cells [dI (b-1)])) ⟨rfl,rfl⟩
       ·have hc:¬f.cls=[]:=fun h=>hB (.inr ⟨h2,h⟩)
        refine gf (gi h2 hc) ?_ o211
        exact fin1 (S':=V.set ib (.cells [dI (b-1)])) ⟨rfl,rfl⟩
     ·obtain⟨c1,c2,c4⟩:=hA
      rcases c2 with⟨ha,hn⟩|⟨ha,hn,hp⟩
      ·refine gf (gi c1 (gi ha hn)) ?_ o211
       exact dwp_wk (Ag (by first|(simp;done)|(simp_all;done)) (Sub.refl _)) hK
      ·refine gf (gi c1 (gi ha (gi hn hp))) ?_ o211
       exact dwp_wk (Ag (by first|(simp;done)|(simp_all;done)) (Sub.refl _)) hK
    ·rw [hfin (.inr (.inr (hBf fun h=>hA ((It f).1 h).1)))]
     by_cases c1:(f.kids.length:Int)=arF f.op
     ·cases ha:AO f.op with
      | true =>
       by_cases hn:f.name∈P
       ·have c4:¬f.path.length<=2:=fun h=>hA ⟨c1,.inl ⟨ha,hn⟩,h⟩
        refine gf (gi c1 (gi ha hn)) ?_ o211
        exact fin1 (S':=V.set ib (.cells [dI (b-1)])) ⟨rfl,rfl⟩
       ·refine gf (gi c1 (gi ha hn)) ?_ o211
        exact fin1 (S':=V.set ib (.cells [dI (b-1)])) ⟨rfl,rfl⟩
      | false =>
       by_cases hn:f.name=[]
       ·have hp:¬f.path.length<=0:=fun h=>hA ⟨c1,.inr ⟨ha,hn,List.length_eq_zero_iff.1 (by omega)⟩,by omega⟩
        refine gf (gi c1 (gi ha hn)) ?_ o211
        exact fin1 (S':=V.set ib (.cells [dI (b-1)])) ⟨rfl,rfl⟩
       ·refine gf (gi c1 (gi ha hn)) ?_ o211
        exact fin1 (S':=V.set ib (.cells [dI (b-1)])) ⟨rfl,rfl⟩
     ·refine gf c1 ?_ o211
      exact fin1 (S':=V.set ib (.cells [dI (b-1)])) ⟨rfl,rfl⟩
   ·have hops:f.op=1\/f.op=2\/f.op=3\/f.op=4\/f.op=5\/f.op=6\/f.op=7:=by omega
    rcases hops with h|h|h|h|h|h|h
    ·repeat' first|refine gf (gi o1 h) ?_ o211|apply gy<;>intro hh
     any_goals (first|exact dwp_wk (Ag (by first|(simp[h,AO,arF];done)|(simp_all [h,AO,arF];done)) (Sub.refl _)) hK|fail)
    ·repeat' first|refine gf (gi o1 h) ?_ o211|apply gy<;>intro hh
     any_goals (first|exact dwp_wk (Ag (by first|(simp[h,AO,arF];done)|(simp_all [h,AO,arF];done)) (Sub.refl _)) hK|fail)
    ·repeat' first|refine gf (gi o1 h) ?_ o211|apply gy<;>intro hh
     any_goals (first|exact dwp_wk (Ag (by first|(simp[h,AO,arF];done)|(simp_all [h,AO,arF];done)) (Sub.refl _)) hK|fail)
    ·repeat' first|refine gf (gi o1 h) ?_ o211|apply gy<;>intro hh
     any_goals (first|exact dwp_wk (Ag (by first|(simp[h,AO,arF];done)|(simp_all [h,AO,arF];done)) (Sub.refl _)) hK|fail)
    ·repeat' first|refine gf (gi o1 h) ?_ o211|apply gy<;>intro hh
     any_goals (first|exact dwp_wk (Ag (by first|(simp[h,AO,arF];done)|(simp_all [h,AO,arF];done)) (Sub.refl _)) hK|fail)
    ·repeat' first|refine gf (gi o1 h) ?_ o211|apply gy<;>intro hh
     any_goals (first|exact dwp_wk (Ag (by first|(simp[h,AO,arF];done)|(simp_all [h,AO,arF];done)) (Sub.refl _)) hK|fail)
    ·repeat' first|refine gf (gi o1 h) ?_ o211|apply gy<;>intro hh
     any_goals (first|exact dwp_wk (Ag (by first|(simp[h,AO,arF];done)|(simp_all [h,AO,arF];done)) (Sub.refl _)) hK|fail)
  ·rw[hfin (.inr (.inr (by unfold fctB;rw[decide_eq_false hop];rfl)))]
   refine gf o1 ?_ o211
   exact fin1 (S':=V.set ib (.cells [dI (b-1)])) ⟨rfl,rfl⟩
end
def lits3:List Str:=[wAny,wInt,IF]
def D9(m:FMeth):Bool:=(decide (1<=m.kind)&&decide (m.kind<=4))&&(AP m.name&&(decide (1<=m.params.length)&&(decide (m.params.length<=3)&&Ef m.params)))
def CY(slots own:List Str)(m:FMeth)(b:Int):Bool×Int :=
 if D9 m=true then
  if(fctE m.params slots (own++lits3) m.fact 1 b).1=true/\(cntE m.body 1 120).1=true then
   (decide (0<=(fctE m.params slots (own++lits3) m.fact 1 b).2-(allE m.body).length)&&Gz m.params slots own (decide (m.kind=1\/m.kind=4)) m.body,(fctE m.params slots (own++lits3) m.fact 1 b).2-(allE m.body).length)
  else(false,(fctE m.params slots (own++lits3) m.fact 1 b).2)
 else(false,b)
theorem R9 (m:FMeth) (slots own:List Str) (o2 o3:Own) (ib:Nat) (b:Int) (V:Sig) (hw:m.wt<=1073741824) (hs:slots.length<=1073741824) (ho:own.length<=1000000000) (hb0:0<=b) (hb1:b<=1000) (o1:V ib=some (.cells [dI b])) :
  DCall prog 125 [.agg (BC m),.slice (cS slots) o2,.slice (cS own) o3,.ptr ib 0] V fun x S'=>x=.ret (.bool (CY slots own m b).1)/\S'=V.set ib (.cells [dI (CY slots own m b).2]):=by
 have hself:V.set ib (.cells [dI b])=V:=Sig.set_self _ o1
 have m1:m.name.length<m.wt/\wtS m.params<m.wt/\m.fact.wt<m.wt/\m.body.wt<m.wt:=by unfold FMeth.wt;omega
 obtain⟨m1,m2,m3,m4⟩:=m1
 have hl3:lits3.length=3:=rfl
 have i76:∀V:Sig,Ans 76 [.agg (Ah m.body)] V True (sl ((allE m.body).map Ah)):=fun V=>ah0 (Iu m.body.wt m.body V (Nat.le_refl _) (by omega))
 have hpl:m.params.length<=1073741824:=by have:=Bu m.params;omega
 have hpx:∀x∈m.params,x.length<=1073741824:=fun x hx=>by
  obtain⟨j,hj,rfl⟩:=List.getElem_of_mem hx
  have:=Ix _ j hj
  omega
 refine en func125 ntmps125 ?_
 by_cases k1:1<=m.kind
 ·by_cases k2:m.kind<=4
  ·cases hn:AP m.name with
   |false =>
    refine gf (gi k1 (gi k2 hn)) ?_ (delO 3 o125) [9]
    refine fin1 (S':=V) ?_
    exact⟨by simp[CY,D9,hn],by simp[CY,D9,hn,hself]⟩
   | true =>
    by_cases q1:1<=m.params.length
    ·by_cases q2:m.params.length<=3
     ·cases hq:Ef m.params with
      |false =>
       refine gf (gi k1 (gi k2 (gi hn hq))) ?_ (delO 3 o125) [9]
       refine fin1 (S':=V) ?_
       exact⟨by simp[CY,D9,hq],by simp[CY,D9,hq,hself]⟩
      | true =>
       refine gf (gi k1 (gi k2 (gi hn hq))) ?_ (delO 3 o125) [9]
       refine mixU (id:=3) [0,1,2,3,5,4,6,7,8,9] [9] [4,6] ?_
       refine u3R (.cptr (BC m) 2) ?_
       refine u3R (sl (cS m.params)) ?_
       refine u3R (.slice (cS slots) o2) ?_
       refine u3R (.slice (cS own) o3) ?_
       refine u3R (.slice (cS lits3) .clip) ?_
       refine u3N 1 own.length (fun i hi =>?_)
       refine u3E i (d := .slice (cS own++cS lits3) (.tag i)) (x := .tail 1 (own.length+3)) (w7 ..) hi ?_ (he:=by
        intro τ hO
        simp[hO,hl3]
        omega)
       refine u3R (.agg [sl (cS m.params),.slice (cS slots) o2,.slice (cS own++cS lits3) (.tag i)]) ?_
       refine u3A [.nils,.nils,.nils] (fun i9 hi9 =>?_)
       have hs1:Sub V ((((V.set i (.tail 1 own.length)).set i (.tail 1 (own.length+3))).set i9 (.cells [.nils,.nils,.nils])).set i9 (.cells [sl (cS m.params),.slice (cS slots) o2,.slice (cS own++cS lits3) (.tag i)])):=by
        intro k x hk
        simp only[Sig.set]at hi9 hk⊢
        grind
       refine u3M ?_
       simp only[List.map]
       refine LM Ad tdR (by simp[w8];rfl) hs1 ?_
       refine gz ?_ o125 [9]
       refine rtl 50 (.agg [sl (cS m.params),sl (cS slots),sl (cS (own++lits3))]) ?_ (hw:=E3 (BL (A8 _) (BL (AE _ _) (BL (Cj _ (by simp[cS])) IA))))
       refine drp V ?_
       refine Ab (QW ib hpl hs (C:=own++lits3) (by simp[hl3];omega) m.fact.wt m.fact 1 b V (Nat.le_refl _) (by omega) (by omega) (by omega) hb0 hb1 o1) (fun d S' hr =>?_) (fun d S' hr=>by obtain⟨h,_⟩:=hr;cases h)
       obtain⟨hd,hZ⟩:=hr
       cases hd
       subst hZ
       have hg:CY slots own m b=(if(fctE m.params slots (own++lits3) m.fact 1 b).1=true/\(cntE m.body 1 120).1=true then
   (decide (0<=(fctE m.params slots (own++lits3) m.fact 1 b).2-(allE m.body).length)&&Gz m.params slots own (decide (m.kind=1\/m.kind=4)) m.body,(fctE m.params slots (own++lits3) m.fact 1 b).2-(allE m.body).length)
  else (false,(fctE m.params slots (own++lits3) m.fact 1 b).2)):=by simp [CY,D9,k1,k2,hn,q1,q2,hq]
       rw[hg]
       generalize hF:fctE m.params slots (own++lits3) m.fact 1 b=F at *
       have hF2 : -1<=F.2/\F.2<=1000:=by
        have:=Jv (P:=m.params) (S:=slots) (C:=own++lits3) m.fact 1 b
        rw[hF]at this
        omega
       have hst:V.set ib (.cells [dI F.2]) ib=some (.cells [dI F.2]):=w7 ..
       have hal:=El m.body
       cases hb1:F.1 with
       |false =>
        refine gf hb1 ?_ o125 [9]
        refine fin1 (S':=V.set ib (.cells [dI F.2])) ?_
        exact⟨by simp[hb1],by simp[hb1]⟩
       | true =>
        cases hc:(cntE m.body 1 120).1 with
        |false =>
         refine gf (gi hb1 hc) ?_ o125 [9]
         refine fin1 (S':=V.set ib (.cells [dI F.2])) ?_
         exact⟨by simp[hb1,hc],by simp[hb1,hc]⟩
        | true =>
         repeat' first|refine gf (gi hb1 hc) ?_ o125 [9]|apply gy<;>intro hh
         all_goals (refine fin1 (S':=(V.set ib (.cells [dI F.2])).set ib (.cells [dI (F.2-(allE m.body).length)])) ?_;refine⟨?_,by simp[hb1,hc]⟩)
         ·simp[hb1,hc,hh]
          intro _;omega
         ·simp[hb1,hc,hh]
          intro _;omega
         ·simp[hb1,hc]
          intro _;omega
     ·refine gf (gi k1 (gi k2 hn)) ?_ (delO 3 o125) [9]
      refine fin1 (S':=V) ?_
      exact⟨by simp[CY,D9,q2],by simp[CY,D9,q2,hself]⟩
    ·refine gf (gi k1 (gi k2 hn)) ?_ (delO 3 o125) [9]
     refine fin1 (S':=V) ?_
     exact⟨by simp[CY,D9,q1],by simp[CY,D9,q1,hself]⟩
  ·refine gz ?_ (delO 3 o125) [9]
   refine fin1 (S':=V) ?_
   exact⟨by simp[CY,D9,k2],by simp[CY,D9,k2,hself]⟩
 ·refine gz ?_ (delO 3 o125) [9]
  refine fin1 (S':=V) ?_
  exact⟨by simp[CY,D9,k1],by simp[CY,D9,k1,hself]⟩
structure NotS(io i1 i2:Nat)(V:Sig)(s:GenT):Prop where
 oo:V io=some (.cells [.slice (cS (s.1.map (·.1))) (.tag i1),.slice (cI (s.1.map (·.2))) (.tag i2),.bool (!s.2)])
 o1:V i1=some (.tail 1 s.1.length)
 o2:V i2=some (.tail 1 s.1.length)
def tN(io i1 i2:Nat):Nat->Prop:=fun j=>j=io\/j=i1\/j=i2
theorem SQ(x:Str): ∀(l:List (Str×Int)) (k:Nat),hasM x l=false->idxG x (l.map (·.1)) k = -1
 |[],_,_=>rfl
 |(a,b)::r,k,h=>by
  simp only[hasM,Bool.or_eq_false_iff,decide_eq_false_iff_not]at h
  simp only[List.map_cons,idxG]
  rw[if_neg fun e=>h.1 e.symm,SQ x r _ h.2]
theorem Pp(x:Str): ∀(l:List (Str×Int)) (k:Nat),hasM x l=true->∃j, ∃hj:j<l.length,idxG x (l.map (·.1)) k=(k:Int)+j/\(l[j]'hj).2=getM 0 x l
 |[],_,h=>by cases h
 | (a,b)::r,k,h=>by
  simp only[List.map_cons,idxG,getM]
  by_cases e:a=x
  ·exact⟨0,by simp,by rw[if_pos e];simp,by rw[if_pos e.symm];rfl⟩
  ·have h2:hasM x r=true:=by
    simp only[hasM,Bool.or_eq_true,decide_eq_true_eq]at h
    exact h.resolve_left fun h=>e h.symm
   obtain⟨j,hj,h3,h4⟩:=Pp x r (k+1) h2
   exact⟨j+1,by simp;omega,by rw[if_neg e,h3];omega,by rw[if_neg fun h=>e h.symm];exact h4⟩
theorem KX(name:Str)(n:Int)(io i1 i2:Nat)(s:GenT)(V:Sig)(hl:s.1.length<=100000000)(hG:NotS io i1 i2 V s)(h12:i1≠i2):
  DCall prog 212 [.ptr io 0,.str name,dI n] V fun x S'=>x=.ret (.tup [])/\NotS io i1 i2 S' (seeG name n s)/\Keep (tN io i1 i2) V S':=by
 obtain⟨acc,ok⟩:=s
 obtain⟨oo,o1,o2⟩:=hG
 simp only at oo o1 o2 hl
 have e1:i1≠io:=Ac o1 oo (by simp)
 have e2:i2≠io:=Ac o2 oo (by simp)
 refine en func212 ntmps212 ?_
 cases hh:hasM name acc
 ·have hix:=SQ name acc 0 hh
  have hs:seeG name n (acc,ok)=(acc++[(name,n)],ok):=by unfold seeG;rw[if_neg (by rw[hh];simp)]
  have hc:cS (acc.map (·.1))++[[D.str name]]=cS ((acc++[(name,n)]).map (·.1)):=by simp[cS]
  have hc2:cI (acc.map (·.2))++[[dI n]]=cI ((acc++[(name,n)]).map (·.2)):=by simp[cI]
  rw[hs]
  refine gf (gi oo hix) ?_ [] [6]
  generalize hA:cS (acc.map (·.1))=A at *
  generalize hB:cI (acc.map (·.2))=B at *
  have lA:A.length=acc.length:=by rw[<-hA];simp
  have lB:B.length=acc.length:=by rw[<-hB];simp
  have mA:∀c∈A,c.length=1:=by rw[<-hA];exact Db _
  have mB:∀c∈B,c.length=1:=by rw[<-hB];exact BQ _
  have hb0:(V.out fun j=>j=i1\/j=i2) io=some (.cells [.slice A (.tag i1),.slice B (.tag i2),.bool (!ok)]):=DG oo fun h=>h.elim (fun h=>e1 h.symm) fun h=>e2 h.symm
  have hs1:Sub (V.out fun j=>j=i1\/j=i2) (V.set i1 (.tail 1 (acc.length+1))):=fun j o hj=>by
   obtain⟨h1,h2⟩:=C1 hj
   rw[w8 _ _ fun h=>h2 (.inl h)];exact h1
  have hs2:Sub (V.out fun j=>j=i1\/j=i2) ((V.set i1 (.tail 1 (acc.length+1))).set i2 (.tail 1 (acc.length+1))):=fun j o hj=>by
   obtain⟨h1,h2⟩:=C1 hj
   rw[w8 _ _ fun h=>h2 (.inr h),w8 _ _ fun h=>h2 (.inl h)];exact h1
  refine mixK (id:=2) [0,1,2,3,4,5,6,7,9,10,11,12,13,14,8,15,16,17,18,19,20,21] [8,15,18,21] [5,12] [18,21] (V.out fun j=>j=i1\/j=i2) (Bv _ _) ?_
  refine k4R (.ptr io 0) ?_
  refine k4R (.ptr io 0) ?_
  refine k4R (.ptr io 0) ?_
  refine k4R (.ptr io 0) ?_
  refine k4R (.ptr io 0) ?_
  refine k4R (.slice A (.tag i1)) ?_ (hd:=by simp[hb0])
  refine k4R (.str name) ?_
  refine k4R (.slice [[.str name]] .clip) ?_
  refine k4R (.ptr io 0) ?_
  refine k4R (.ptr io 0) ?_
  refine k4R (.ptr io 1) ?_
  refine k4R (.slice B (.tag i2)) ?_ (hd:=by simp[hb0])
  refine k4R (dI n) ?_
  refine k4R (.slice [[dI n]] .clip) ?_
  refine k4E (d := .slice (A++[[.str name]]) (.tag i1)) _ hs1 ?_ (he:=by simp[o1,lA];exact⟨⟨mA,by omega⟩,by omega⟩)
  refine k4E (d := .slice (B++[[dI n]]) (.tag i2)) _ hs2 ?_ (he:=by simp[o2,lB,w8,Ne.symm h12];exact⟨⟨mB,by omega⟩,by omega⟩)
  refine k4R (.ptr io 0) ?_
  refine k4R (.ptr io 0) ?_
  refine k4S (d := .any) (S':=((V.set i1 (.tail 1 (acc.length+1))).set i2 (.tail 1 (acc.length+1))).set io (.cells [.slice (A++[[.str name]]) (.tag i1),.slice B (.tag i2),.bool (!ok)])) (fun _=>none) (fun _ _ h=>by cases h) ?_ (he:=by simp[oo,w8,Ne.symm e1,Ne.symm e2])
  refine k4R (.ptr io 0) ?_
  refine k4R (.ptr io 1) ?_
  refine k4S (d := .any) (S':=((((V.set i1 (.tail 1 (acc.length+1))).set i2 (.tail 1 (acc.length+1))).set io (.cells [.slice (A++[[.str name]]) (.tag i1),.slice B (.tag i2),.bool (!ok)])).set io (.cells [.slice (A++[[.str name]]) (.tag i1),.slice (B++[[dI n]]) (.tag i2),.bool (!ok)]))) (fun _=>none) (fun _ _ h=>by cases h) ?_ (he:=by simp[oo,w8,Ne.symm e1,Ne.symm e2])
  refine k4N ?_
  subst hA hB
  have n1:=Ne.symm e1
  have n2:=Ne.symm e2
  refine fin0 (S':=((V.set i1 (.tail 1 (acc.length+1))).set i2 (.tail 1 (acc.length+1))).set io (.cells [.slice (cS ((acc++[(name,n)]).map (·.1))) (.tag i1),.slice (cI ((acc++[(name,n)]).map (·.2))) (.tag i2),.bool (!ok)])) ⟨rfl,⟨by rw[w7],?_,?_⟩,fun j o hj hn =>?_⟩ (hZ:=by rw[w9,hc,hc2];exact Sub.refl _)
  ·rw[w8 _ _ e1,w8 _ _ h12,w7,List.length_append];rfl
  ·rw[w8 _ _ e2,w7,List.length_append];rfl
  ·rw[w8 _ _ fun e=>hn (.inl e),w8 _ _ fun e=>hn (.inr (.inr e)),w8 _ _ fun e=>hn (.inr (.inl e))];exact hj
 ·obtain⟨j,hj,hix,hgm⟩:=Pp name acc 0 hh
  have hs:seeG name n (acc,ok)=(acc,ok&&decide (getM 0 name acc=n)):=by unfold seeG;rw[if_pos hh]
  rw[hs, <-hgm]
  repeat' first|refine gf (gi oo hix) ?_ [] [6]|apply gy<;>intro hh
  ·exact fin0 (S':=V.set io (.cells [.slice (cS (acc.map (·.1))) (.tag i1),.slice (cI (acc.map (·.2))) (.tag i2),.bool true])) ⟨rfl,⟨by rw[w7];simp[hh],by rw[w8 _ _ e1];exact o1,by rw[w8 _ _ e2];exact o2⟩,fun j o hj hn=>by rw[w8 _ _ fun e=>hn (.inl e)];exact hj⟩
  ·exact fin0 (S':=V) ⟨rfl,⟨by simp[hh,oo],o1,o2⟩,fun j o hj hn=>hj⟩
def K0(s:GenT)(x:FExp):GenT:=if x.op=5 then seeG x.text x.kids.length s else s
mutual
theorem Pv: ∀(e:FExp) (s:GenT),genE e s=(allE e).foldl K0 s
 |.mk o n t k,s=>by rw[genE,allE,List.foldl_cons,Nb k];rfl
theorem Nb: ∀(l:List FExp) (s:GenT),Dr l s=(Dz l).foldl K0 s
 |[],s=>by rw[Dr,Dz];rfl
 |x::r,s=>by rw[Dr,Dz,List.foldl_append,Nb r,Pv x]
end
theorem RH(s:GenT)(x:FExp):(K0 s x).1.length<=s.1.length+1:=by
 unfold K0
 split
 ·exact H3 ..
 ·omega
section
variable {P:Program}{n:Nat}{O:List (Nat×D)}{V:Sig}
theorem fin3{fn:Func}{R:DE->Sig->Prop}{S':Sig}{t u v:Nat}{d d' e e' f f':D}(hR:R (.ret (.tup [d',e',f'])) S')(hZ:Sub S' V:=by exact tdU)(hr:fn.results=#[.tmp t,.tmp u,.tmp v]:=by exact tdR)(hl:O.lookup t=some d:=by exact tdR)(hl2:O.lookup u=some e:=by exact tdR)(hl3:O.lookup v=some f:=by exact tdR)(htu:decide (u=t)=false:=by exact tdR)(htv:decide (v=t)=false:=by exact tdR)(huv:decide (v=u)=false:=by exact tdR)(hw:WkD d d':=by exact tdW)(hw2:WkD e e':=by exact tdW)(hw3:WkD f f':=by exact tdW):EM P n fn R .ret ⟨O,V,[]⟩ :=
 ⟨⟨[(t,d'),(u,e'),(v,f')],S',[]⟩,Ve (show Tells O [(t,d'),(u,e'),(v,f')] from ⟨by rw [An hl];exact hw,by rw [An hl2];exact hw2,by rw [An hl3];exact hw3,trivial⟩) hZ,rfl, .tup [d',e',f'],Ed (by
  have h1:u≠t:=by simpa using htu
  have h2:v≠t:=by simpa using htv
  have h3:v≠u:=by simpa using huv
  simp[resD,hr,h1,h2,h3]),EO hR⟩
end
theorem NotS.fresh{io i1 i2 k:Nat}{V:Sig}{s:GenT}{o:DObj}(h:NotS io i1 i2 V s)(hk:V k=none):NotS io i1 i2 (V.set k o) s :=
 ⟨by rw[w8 _ _ (A3 h.oo hk)];exact h.oo,by rw[w8 _ _ (A3 h.o1 hk)];exact h.o1,by rw[w8 _ _ (A3 h.o2 hk)];exact h.o2⟩
theorem R8(f:FProg)(V:Sig)(hw:f.wt<=100000000):DCall prog 126 [.agg (B7 f)] V (rS (.tup [sl (cS ((CK f).1.map (·.1))),sl (cI ((CK f).1.map (·.2))),.bool (CK f).2]) V):=by
 obtain⟨p1,p2,p3,p4,p5⟩:=f.wt_le
 have hbw:=JS f
 refine en func126 ntmps126 ?_
 repeat ((fail_if_success (first|(refine boxV (T:=284) (fun io hio =>?_))|fail));(refine goX1 trivial ?_))
 refine boxV (T:=284) (fun io hio =>?_)
 refine gz ?_ o126 [8]
 refine AD io 0 1 (ds:=[.nils,.nils,.bool false]) (w7 ..) rfl (fun i1 hi1 =>?_)
 obtain⟨a1,b1⟩:=A4 hi1
 refine AD io 1 1 (ds:=[.slice [] (.tag i1),.nils,.bool false]) (w7 ..) rfl (fun i2 hi2 =>?_)
 obtain⟨a2,b2⟩:=A4 hi2
 obtain⟨a3,b3⟩:=A4 b2
 obtain⟨a4,b4⟩:=A4 b3
 generalize hU1:Sig.set (Sig.set _ i2 _) io _=S1
 have hG1:NotS io i1 i2 S1 ([],true):=by
  rw[<-hU1]
  exact⟨by simp[cS,cI],by rw[w8 _ _ a1,w8 _ _ (Ne.symm a3),w8 _ _ a1];simp,by rw[w8 _ _ a2];simp⟩
 have ht0:∀j,tN io i1 i2 j->V j=none:=fun j hj=>by
  rcases hj with rfl|rfl|rfl
  ·exact hio
  ·exact b1
  ·exact b4
 have hS1:Sub V S1:=fun j x hj=>by
  have e1:j≠io:=A3 hj hio
  have e2:j≠i1:=A3 hj b1
  have e3:j≠i2:=A3 hj b4
  rw[<-hU1]
  simp only[w8 _ _ e1,w8 _ _ e2,w8 _ _ e3]
  exact hj
 have hKS:∀{τ V':Sig},Sub V τ->Keep (tN io i1 i2) τ V'->Sub V V':=fun hs hk j x hj=>hk j x (hs j x hj) fun ht=>by rw[ht0 j ht]at hj;cases hj
 have h12:i1≠i2:=Ne.symm a3
 clear hU1
 refine D6 [1,2,3,4,5,7,8,9,10,35,36,37,38,39,40,41,42,43,44,45,46,47,48,49,50,51,52,53,54,55,56,57,58,59,60,61,62,63,64,65,66,67,68,69,70,71,72,73,74,75,76,77,78,79,80,81,82,83,84,85,86,87,88,89,90,91,92,93,94] (fun (k:Nat) (s:GenT) (S1:Sig)=>k<=f.methods.length/\s.1.length<=k/\metG f.methods ([],true)=metG (f.methods.drop k) s/\NotS io i1 i2 S1 s/\Sub V S1) (fun k _ _=>[(6,dI k)]) (fun _ _ S1=>S1) (fun k _ _=>f.methods.length-k) (0) (([],true)) (_) (by exact⟨by omega,Nat.le_refl _,rfl,hG1,hS1⟩) (fun k s S1 hI =>?_)
 obtain⟨hk,hsl,hR,hG,hS⟩:=hI
 by_cases hkl:k<f.methods.length
 ·rw[A0 hkl,metG]at hR
  have hwm:=p5 k hkl
  have hwb:f.methods[k].params.length<=1073741824/\f.methods[k].name.length<=1073741824:=by have:=hwm;unfold FMeth.wt at this;have:=Bu f.methods[k].params;omega
  refine gz ?_ o126 [8]
  refine Ab (KX f.methods[k].name f.methods[k].params.length io i1 i2 s S1 (by omega) hG h12) (fun x S2 hr =>?_) (fun x S2 hr=>by cases hr.1)
  obtain⟨e1,hG2,hK2⟩:=hr
  cases e1
  refine gz ?_ o126 [8]
  exact⟨k+1,seeG f.methods[k].name f.methods[k].params.length s,S2,⟨by omega,by have:=H3 f.methods[k].name f.methods[k].params.length s;omega,hR,hG2,hKS hS hK2⟩,td1,wkR⟩
 ·rw [A1 hkl,metG] at hR
  refine gz ?_ o126 [8]
  have hbl:(BY f).length=f.methods.length+1:=by simp[BY]
  have hgp:CK f=Dr (BY f) s:=by unfold CK;rw[hR]
  have hs0:s.1.length<=f.methods.length:=by omega
  clear hR hk hkl hsl
  refine D6 [1,2,3,4,5,82,83,84,85,86,87,88,89,90,91,92,93,94] (fun (k:Nat) (s1:GenT) (S2:Sig)=>k<=f.methods.length+1/\s1.1.length+wtL FExp.wt ((BY f).drop k)<=f.wt/\CK f=Dr ((BY f).drop k) s1/\NotS io i1 i2 S2 s1/\Sub V S2) (fun k _ _=>[(7,dI k)]) (fun _ _ S2=>S2) (fun k _ _=>f.methods.length+1-k) (0) (s) (_) (by exact⟨by omega,by simp only[List.drop_zero];omega,hgp,hG,hS⟩) (fun k s1 S2 hI =>?_)
  obtain⟨hk,hbud,hR,hG3,hS3⟩:=hI
  by_cases hkl:k<(BY f).length
  ·rw [A0 hkl,Dr] at hR
   rw[A0 hkl,wtL]at hbud
   refine gz ?_ o126 [8]
   refine newV (fun ie hie =>?_)
   have hwe:((BY f)[k]).wt<=f.wt:=by omega
   generalize he:(BY f)[k]=e at *
   repeat ((fail_if_success (first|(refine dwp_cut1 (x1 := .seq _ _) [(8,.ptr ie 0)] (S2.set ie (.cells (Ah e))) ?_ (fun _ hK =>?_))|fail));(refine goX1 trivial ?_))
   refine dwp_cut1 (x1 := .seq _ _) [(8,.ptr ie 0)] (S2.set ie (.cells (Ah e))) ?_ (fun _ hK =>?_)
   ·have i76:∀V:Sig,Ans 76 [.agg (Ah e)] V True (sl ((allE e).map Ah)):=fun V=>ah0 (Iu e.wt e V (Nat.le_refl _) (by omega))
    refine gz ?_ o126 [8]
    have hlen:=El e
    have hf0:Sub V (S2.set ie (.cells (Ah e))):=fun j x hj=>(Sub.refl _).set hie j x (hS3 j x hj)
    have hG4:=hG3.fresh (o := .cells (Ah e)) hie
    rw[Pv]at hR
    refine D6 [1,2,3,4,5,7,8,9,35,36,37,38,39,40,41,42,43,44,45,46,47,48,49,50,51,52,53,54,55,56,82,83,84,85,86,87,88,89,90,91,92,93,94] (fun (j:Nat) (s2:GenT) (S3:Sig)=>j<=(allE e).length/\s2.1.length+((allE e).length-j)<=s1.1.length+e.wt/\(allE e).foldl K0 s1=((allE e).drop j).foldl K0 s2/\NotS io i1 i2 S3 s2/\Sub V S3) (fun j _ _=>[(10,dI j)]) (fun _ _ S3=>S3) (fun j _ _=>(allE e).length-j) (0) (s1) (_) (by exact⟨by omega,by omega,rfl,hG4,hf0⟩) (fun j s2 S3 hI =>?_)
    obtain⟨hj,hbd,hR2,hG5,hS5⟩:=hI
    by_cases hjl:j<(allE e).length
    ·rw[A0 hjl,List.foldl_cons]at hR2
     have hl2:=RH s2 (allE e)[j]
     by_cases h5:(allE e)[j].op=5
     ·have hst:K0 s2 (allE e)[j]=seeG (allE e)[j].text (allE e)[j].kids.length s2:=by unfold K0;rw[if_pos h5]
      rw[hst]at hR2 hl2
      refine gf h5 ?_ o126 [8]
      refine Ab (KX (allE e)[j].text (allE e)[j].kids.length io i1 i2 s2 S3 (by omega) hG5 h12) (fun x S4 hr =>?_) (fun x S4 hr=>by cases hr.1)
      obtain⟨e1,hG6,hK6⟩:=hr
      cases e1
      refine gz ?_ o126 [8]
      exact⟨j+1,seeG (allE e)[j].text (allE e)[j].kids.length s2,S4,⟨by omega,by omega,hR2,hG6,hKS hS5 hK6⟩,td1,wkR⟩
     ·have hst:K0 s2 (allE e)[j]=s2:=by unfold K0;rw[if_neg h5]
      rw[hst]at hR2 hl2
      refine gf h5 ?_ o126 [8]
      exact⟨j+1,s2,S3,⟨by omega,by omega,hR2,hG5,hS5⟩,td1,wkR⟩
    ·rw[A1 hjl,List.foldl_nil]at hR2
     refine gz ?_ o126 [8]
     exact⟨k+1,s2,S3,⟨by omega,by omega,by rw[<-hR2];exact hR,hG5,hS5⟩,td1,wkR⟩
   ·by_cases hkm:k<f.methods.length
    ·have hbk:f.methods[k].body=e:=by rw[<-he];simp[BY,List.getElem_append_left,hkm]
     refine gf hbk ?_ o126 [8]
     exact dwp_wk (Ag (by first|(simp;done)|(simp_all;done)) (by rw[Cz e];exact Sub.refl _)) hK
    ·have hbk:f.main=e:=by rw[<-he];simp only[BY];rw[List.getElem_append_right (by simp;omega)];simp
     refine gf hbk ?_ o126 [8]
     exact dwp_wk (Ag (by first|(simp;done)|(simp_all;done)) (by rw[<-hbk,Cz f.main];exact Sub.refl _)) hK
  ·rw[A1 hkl,Dr]at hR
   have oo:=hG3.oo
   refine gf oo ?_ o126 [8]
   rw[hR]
   exact fin3 (S':=V) ⟨rfl,rfl⟩ (hZ:=hS3)
end Go.DL
