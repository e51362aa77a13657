/- Part of the proof that the last text ends. -/
import Derived.Test.YtlfimpogphmbdaaGreatM28
import Derived.Test.YtlfimpogphmbdaaGreatM22
import Derived.Test.YtlfimpogphmbdaaGreatM24
import Derived.Test.YtlfimpogphmbdaaGreatM27
set_option linter.all false
namespace Go.DL
open Go.Proofs.Tryz
open Go Go.Proofs
set_option maxHeartbeats 8000000
def argM (gm:List (Str × Int)):List FMeth->List Int->List Int
 | [],a=>a
 | m::r,a=>argM gm r (argE gm m.body (a.set (getM 0 m.name gm).toNat m.params.length))
def GC (gm:List (Str × Int)) (f:FProg):List Int:=argE gm f.main (argM gm f.methods (List.replicate gm.length 0))
theorem Is (gm:List (Str × Int)) : ∀ (l:List FMeth) (a:List Int),(argM gm l a).length=a.length
 | [],a=>rfl
 | m::r,a=>by rw [argM,Is gm r,D2,List.length_set]
theorem QV (f:FProg) (gm:List (Str × Int)) (ig:Nat) (V:Sig) (hw:f.wt<=1073741824) (hg:gm.length<=1073741824) (o3:V ig=some (.map (eSN gm)))
  (hM : ∀ m ∈ f.methods,(0<=getM 0 m.name gm/\getM 0 m.name gm < gm.length)/\AllX (QA gm gm.length) m.body) (hA:AllX (QA gm gm.length) f.main) :
  DCall prog 104 [.agg (B3 f), .map ig] V fun x S' => ∃ r,V r=none/\x = .ret (.sref r 0 gm.length gm.length)/\S'=V.set r (.cells ((GC gm f).map dI)):=by
 obtain ⟨p1,p2,p3,p4,p5⟩:=f.wt_le
 have hel:(eSN gm).length=gm.length:=by simp [eSN,eM]
 refine en func104 ntmps104 ?_
 refine gf (gi o3 hel) ?_ [] [5,6]
 refine Vd (k:=gm.length) (c:=gm.length) (z:=[dI 0]) (sz:=1) (fun r hr hm => ?_)
 have hms:mS V (some (r,gm.length,(List.replicate (gm.length-gm.length) [dI 0]).flatten)) (List.replicate gm.length [dI 0])=V.set r (.cells ((List.replicate gm.length (0:Int)).map dI)):=by
  have h1:(List.replicate gm.length [dI 0]).flatten=(List.replicate gm.length (0:Int)).map dI:=by
   rw [List.map_replicate]
   induction gm.length with
   | zero=>rfl
   | succ n ih=>rw [List.replicate_succ,List.flatten_cons,ih,List.replicate_succ];rfl
  simp only [mS,Nat.sub_self,List.replicate_zero,List.flatten_nil,List.append_nil,h1]
 rw [hms]
 generalize hA0:List.replicate gm.length (0:Int)=a0
 have hal:a0.length=gm.length:=by rw [<- hA0];simp
 refine newV (fun ia hia => ?_)
 refine gz ?_ [] [5,6]
 refine newV (fun i6 hi6 => ?_)
 refine gz ?_ [] [5,6]
 have n1:ia ≠ r:=fun e=>by rw [e,w7] at hia;cases hia
 have n2:i6 ≠ ia:=fun e=>by rw [e,w7] at hi6;cases hi6
 have n3:i6 ≠ r:=fun e=>by rw [e,w8 _ _ (Ne.symm n1),w7] at hi6;cases hi6
 have n4:ig ≠ r:=fun e=>by rw [e,hr] at o3;cases o3
 have n5:ig ≠ ia:=fun e=>by rw [<- e,w8 _ _ n4,o3] at hia;cases hia
 have n6:ig ≠ i6:=fun e=>by rw [<- e,w8 _ _ n5,w8 _ _ n4,o3] at hi6;cases hi6
 generalize hU1:((V.set r _).set ia _).set i6 _=S1
 have q1:S1 ia=some (.cells [.sref r 0 gm.length gm.length]):=by rw [<- hU1,w8 _ _ (Ne.symm n2),w7]
 have q2:S1 r=some (.cells (a0.map dI)):=by rw [<- hU1,w8 _ _ (Ne.symm n3),w8 _ _ (Ne.symm n1),w7]
 have q3:S1 ig=some (.map (eSN gm)):=by rw [<- hU1,w8 _ _ n6,w8 _ _ n5,w8 _ _ n4];exact o3
 have q4:S1 i6=some (.cells [.func (.func 193) [] [.ptr ia 0, .cptr [.map ig] 0, .ptr i6 0]]):=by rw [<- hU1,w7]
 have hfin : ∀ b:List Int,Sub (V.set r (.cells (b.map dI))) (S1.set r (.cells (b.map dI))):=fun b j x hj=>by
  by_cases e:j=r
  ·rw [e,w7] at hj ⊢; exact hj
  ·rw [w8 _ _ e] at hj ⊢
   have z1:j ≠ ia:=fun e2=>by rw [<- e2,w8 _ _ e,hj] at hia;cases hia
   have z2:j ≠ i6:=fun e2=>by rw [<- e2,w8 _ _ z1,w8 _ _ e,hj] at hi6;cases hi6
   rw [<- hU1,w8 _ _ z2,w8 _ _ z1,w8 _ _ e];exact hj
 have hself:Sub (S1.set r (.cells (a0.map dI))) S1:=by rw [Sig.set_self _ q2];exact Sub.refl _
 have u1 : ∀ X,(S1.set r X) ia=some (.cells [.sref r 0 gm.length gm.length]):=fun X=>by rw [w8 _ _ n1];exact q1
 have u3 : ∀ X,(S1.set r X) ig=some (.map (eSN gm)):=fun X=>by rw [w8 _ _ n4];exact q3
 have u4 : ∀ X,(S1.set r X) i6=some (.cells [.func (.func 193) [] [.ptr ia 0, .cptr [.map ig] 0, .ptr i6 0]]):=fun X=>by rw [w8 _ _ n3];exact q4
 refine AQ [2,3,4,5,6,14,15,34,35,36,37,38] (fun (k:Nat) (b:List Int)=>k<=f.methods.length/\b.length=gm.length/\argM gm f.methods a0=argM gm (f.methods.drop k) b) (fun k _=>[(16,dI k)]) (fun _ b=>S1.set r (.cells (b.map dI))) (fun k _=>f.methods.length-k) (0) (a0) (by exact ⟨by omega,hal,rfl⟩) (fun k b hI => ?_)
 obtain ⟨hk,hb,hR⟩:=hI
 by_cases hkl:k < f.methods.length
 ·rw [A3 hkl,argM] at hR
  obtain ⟨⟨g1,g2⟩,g3⟩:=hM _ (List.getElem_mem hkl)
  obtain ⟨p,hp⟩ : ∃ p:Nat,getM 0 f.methods[k].name gm=p:=⟨(getM 0 f.methods[k].name gm).toNat,by omega⟩
  have hpN:p < gm.length:=by omega
  have hwm:=p5 k hkl
  have hwb:f.methods[k].body.wt<=1073741824/\f.methods[k].params.length<=1073741824:=by have:=hwm;unfold FMeth.wt at this;have:=AZ f.methods[k].params;omega
  have hbs:(List.take p (List.map dI b)++D.int IntKind.i64 f.methods[k].params.length::List.drop (p+1) (List.map dI b))=(b.set p f.methods[k].params.length).map dI:=by
   rw [List.map_set,List.set_eq_take_append_cons_drop,if_pos (by rw [List.length_map];omega)]
  rw [hp] at hR
  refine gf (gi q1 (gi q3 (gi q4 (gi hp hbs)))) ?_ [] [5,6]
  refine Ab (KV gm gm.length ia r ig i6 _ f.methods[k].body (b.set p f.methods[k].params.length) _ (Nat.le_refl _) hwb.1 g3 (by rw [List.length_set];exact hb) hg (u1 _) (by rw [w7,List.map_set]) (u3 _) (u4 _) n1 n3) (fun d S' hr => ?_) (fun d S' hr=>by cases hr.1)
  obtain ⟨e1,rfl⟩:=hr
  cases e1
  refine gz ?_ [] [5,6]
  exact ⟨k+1,argE gm f.methods[k].body (b.set p f.methods[k].params.length),⟨by omega,by rw [D2,List.length_set];exact hb,hR⟩,td1,wkR⟩
 ·rw [A2 hkl,argM] at hR
  refine gf (gi q1 q4) ?_ [] [5,6]
  refine Ab (KV gm gm.length ia r ig i6 _ f.main b _ (Nat.le_refl _) (by omega) hA hb hg (u1 _) (w7 ..) (u3 _) (u4 _) n1 n3) (fun d S' hr => ?_) (fun d S' hr=>by cases hr.1)
  obtain ⟨e1,rfl⟩:=hr
  cases e1
  refine gf q1 ?_ [] [5,6]
  refine fin1 (S':=V.set r (.cells ((GC gm f).map dI))) ⟨r,hr,rfl,rfl⟩ ?_
  rw [w9]
  unfold GC
  rw [hA0,hR]
  exact hfin _
section
variable {ops:Array Oper} {n N:Nat} {ro:Option Nat} {S0:Sig} {Q:DX->St->Prop} {df:List DDf} {γ Sr:List (Nat × D)} {V:Sig} {t:Nat} {ty:TypeId} {pos:String} {after:Array Edge} {d:D}
theorem moRd {op:Op} {l:List (Bool × Oper)} (h:MO prog ro n ops N S0 Q df l ((t,d)::γ) V) (hd:dopX tab Sr V op=some d) (hC:Sub S0 V) (hr:DB op=true:=by rfl) (hl:A5 γ (A8 op.operands.toList)=some Sr:=by exact tdR) (htn:decide (t < n)=true:=by exact tdR) :
  MO prog ro n ops N S0 Q df ((true,⟨some t,op,ty,pos,after,none⟩)::l) γ V :=
 mo1 (fun U2 hx=>FB Ae hr rfl (by rw [B8 hx];exact (B8 (BT hl)) ▸ hd) htn (AJ ⟨rfl,by simp only [putD,A7,if_true];exact ⟨hC,h⟩⟩)) htn
end
def Bd (f:FProg):List (Str × Int):=putM G6 2 (putM wInt 1 (putM wAny 0 (numM (f.classes.map (·.name)) 3 [])))
def Bn (f:FProg):List (Str × Int):=numM (AH f) 0 []
def gensN (f:FProg):List Str:=(Bu f).1.map (·.1)
def Ay (f:FProg):List (Str × Int):=numM (gensN f) 0 []
def Eh (m:FMeth):Str->Int:=fun y=>getM 0 y (numM m.params 0 [])
def Hl (cm sm gm:List (Str × Int)):List FMeth->Nat->List BNode
 | [],_=>[]
 | m::r,k=>bndE cm sm gm m.body (Eh m) m.params.length k++Hl cm sm gm r (k+m.body.cnt)
def bndMM (cm sm gm:List (Str × Int)):List FMeth->Nat->List BMeth
 | [],_=>[]
 | m::r,k=>⟨m.kind,getM 0 m.name gm,bndF cm sm (Eh m) m.fact,k⟩::bndMM cm sm gm r (k+m.body.cnt)
def Af (f:FProg):BProg :=
 ⟨f.classes.map (GB (Bd f) (Bn f)),(AH f).length,GC (Ay f) f,bndMM (Bd f) (Bn f) (Ay f) f.methods 0,
  Hl (Bd f) (Bn f) (Ay f) f.methods 0++bndE (Bd f) (Bn f) (Ay f) f.main (fun _=>0) 0 (Hl (Bd f) (Bn f) (Ay f) f.methods 0).length,(Hl (Bd f) (Bn f) (Ay f) f.methods 0).length⟩
theorem Ie : ∀ (l:List Str) (b:Int) (m:List (Str × Int)) (s:Str),(s ∈ l->b<=getM 0 s (numM l b m)/\getM 0 s (numM l b m) < b+l.length)/\(s ∉ l->getM 0 s (numM l b m)=getM 0 s m)
 | [],b,m,s=>by simp [numM]
 | x::r,b,m,s=>by
  obtain ⟨h1,h2⟩:=Ie r (b+1) (putM x b m) s
  rw [numM]
  refine ⟨fun h => ?_,fun h => ?_⟩
  ·by_cases hr:s ∈ r
   ·have:=h1 hr;simp only [List.length_cons];omega
   ·rw [h2 hr,BP]
    have:s=x:=(List.mem_cons.1 h).resolve_right hr
    rw [if_pos this];simp only [List.length_cons];omega
  ·rw [List.mem_cons,not_or] at h
   rw [h2 h.2,BP,if_neg h.1]
theorem P5 : ∀ (l:List Str) (b:Int) (m:List (Str × Int)),l.Nodup->(∀ s ∈ l,hasM s m=false)->(numM l b m).length=m.length+l.length
 | [],b,m,_,_=>by simp [numM]
 | x::r,b,m,hn,hm=>by
  rw [List.nodup_cons] at hn
  rw [numM,P5 r _ _ hn.2 fun s hs => ?_,LC x b m (hm x (by simp))]
  ·simp only [List.length_append,List.length_cons,List.length_nil];omega
  ·rw [Pi,hm s (by simp [hs])]
   have:s ≠ x:=fun e=>hn.1 (e ▸ hs)
   simp [this]
theorem Ge : ∀ (l:List Str) (b:Int) (m:List (Str × Int)),(m.map (·.1)).Nodup->((numM l b m).map (·.1)).Nodup
 | [],_,m,h=>h
 | x::r,b,m,h=>Ge r _ _ (J1 x b h)
theorem My (name:Str) (n:Int) (s:GenT) (h:(s.1.map (·.1)).Nodup):((seeG name n s).1.map (·.1)).Nodup/\name ∈ (seeG name n s).1.map (·.1) /\ ∀ x ∈ s.1.map (·.1),x ∈ (seeG name n s).1.map (·.1):=by
 unfold seeG
 split
 ·rename_i hh
  exact ⟨h,(EO _ _).1 hh,fun x hx=>hx⟩
 ·rename_i hh
  simp only [List.map_append,List.map_cons,List.map_nil]
  refine ⟨List.nodup_append.2 ⟨h,by simp,fun a ha b hb e => ?_⟩,by simp,fun x hx=>by simp [hx]⟩
  simp only [List.mem_singleton] at hb
  exact hh ((EO _ _).2 (by rw [<- hb, <- e];exact ha))
def CallsIn (ks:List Str) (x:FExp):Prop:=x.op=5->x.text ∈ ks
mutual
theorem FG {Q R:FExp->Prop} (h : ∀ x,Q x->R x) : ∀ e,AllX Q e->AllX R e
 | .mk o n t k,he=>by rw [AllX] at he ⊢; exact ⟨h _ he.1,Ln h k he.2⟩
theorem Ln {Q R:FExp->Prop} (h : ∀ x,Q x->R x) : ∀ l,DP Q l->DP R l
 | [],_=>by rw [DP];trivial
 | x::r,he=>by rw [DP] at he ⊢; exact ⟨FG h x he.1,Ln h r he.2⟩
end
mutual
theorem SE : ∀ (e:FExp) (s:GenT),(s.1.map (·.1)).Nodup->((genE e s).1.map (·.1)).Nodup/\(∀ x ∈ s.1.map (·.1),x ∈ (genE e s).1.map (·.1))/\AllX (CallsIn ((genE e s).1.map (·.1))) e
 | .mk o n t k,s,h=>by
  rw [genE,AllX]
  by_cases h5:o=5
  ·rw [if_pos h5]
   obtain ⟨a1,a2,a3⟩:=My t k.length s h
   obtain ⟨b1,b2,b3⟩:=FV k _ a1
   exact ⟨b1,fun x hx=>b2 x (a3 x hx),fun _=>b2 _ a2,b3⟩
  ·rw [if_neg h5]
   obtain ⟨b1,b2,b3⟩:=FV k _ h
   exact ⟨b1,b2,fun h=>absurd h h5,b3⟩
theorem FV : ∀ (l:List FExp) (s:GenT),(s.1.map (·.1)).Nodup->((Cp l s).1.map (·.1)).Nodup/\(∀ x ∈ s.1.map (·.1),x ∈ (Cp l s).1.map (·.1))/\DP (CallsIn ((Cp l s).1.map (·.1))) l
 | [],s,h=>by rw [Cp,DP];exact ⟨h,fun _ h=>h,trivial⟩
 | x::r,s,h=>by
  rw [Cp,DP]
  obtain ⟨a1,a2,a3⟩:=SE x s h
  obtain ⟨b1,b2,b3⟩:=FV r _ a1
  exact ⟨b1,fun y hy=>b2 y (a2 y hy),FG (fun y hq h5=>b2 _ (hq h5)) x a3,b3⟩
end
theorem MM : ∀ (l:List FMeth) (s:GenT),(s.1.map (·.1)).Nodup->((metG l s).1.map (·.1)).Nodup/\(∀ x ∈ s.1.map (·.1),x ∈ (metG l s).1.map (·.1)) /\ ∀ m ∈ l,m.name ∈ (metG l s).1.map (·.1)
 | [],s,h=>⟨h,fun _ h=>h,by simp⟩
 | m::r,s,h=>by
  obtain ⟨a1,a2,a3⟩:=My m.name m.params.length s h
  obtain ⟨b1,b2,b3⟩:=MM r _ a1
  rw [metG]
  refine ⟨b1,fun x hx=>b2 x (a3 x hx),fun y hy => ?_⟩
  rcases List.mem_cons.1 hy with rfl | hy
  ·exact b2 _ a2
  ·exact b3 y hy
theorem K0 {Q:FExp->Prop} : ∀ (l:List FExp),DP Q l -> ∀ x ∈ l,AllX Q x
 | [],_,x,hx=>by simp at hx
 | y::r,h,x,hx=>by
  rw [DP] at h
  rcases List.mem_cons.1 hx with rfl | hx
  ·exact h.1
  ·exact K0 r h.2 x hx
theorem Ds (f:FProg):(gensN f).Nodup/\(∀ m ∈ f.methods,m.name ∈ gensN f/\AllX (CallsIn (gensN f)) m.body)/\AllX (CallsIn (gensN f)) f.main:=by
 obtain ⟨a1,a2,a3⟩:=MM f.methods ([],true) (by simp)
 obtain ⟨b1,b2,b3⟩:=FV (Bv f) _ a1
 have hm:=K0 _ b3
 exact ⟨b1,fun m hmm=>⟨b2 _ (a3 m hmm),hm _ (by unfold Bv;exact List.mem_append_left _ (List.mem_map_of_mem hmm))⟩,hm _ (by unfold Bv;simp)⟩
theorem Ij (f:FProg):(Ay f).length=(gensN f).length:=by
 unfold Ay
 rw [P5 _ _ _ (Ds f).1 (fun _ _=>rfl)];simp
theorem args_ok (f:FProg):(∀ m ∈ f.methods,(0<=getM 0 m.name (Ay f)/\getM 0 m.name (Ay f) < (Ay f).length)/\AllX (QA (Ay f) (Ay f).length) m.body)/\AllX (QA (Ay f) (Ay f).length) f.main:=by
 obtain ⟨h1,h2,h3⟩:=Ds f
 have key : ∀ s ∈ gensN f,0<=getM 0 s (Ay f)/\getM 0 s (Ay f) < (Ay f).length:=fun s hs=>by
  have:=(Ie (gensN f) 0 [] s).1 hs
  rw [Ij];unfold Ay;omega
 have hq : ∀ x,CallsIn (gensN f) x->QA (Ay f) (Ay f).length x:=fun x hx h5=>key _ (hx h5)
 exact ⟨fun m hm=>⟨key _ (h2 m hm).1,FG hq _ (h2 m hm).2⟩,FG hq _ h3⟩
theorem BS.envS {ib ia is ig:Nat} {a b c d f:D} {cm sm gm:List (Str × Int)} {st:MR} {ns:List BNode} {V:Sig} (h:BS ib ia is ig a b c d f cm sm gm st ns V):EnvS ib ia is ig [a,b,c,d,mD st ns.length,f] cm sm gm V:=⟨⟨_,_,_,_,_,_,rfl,h.env⟩,h.oa,h.os,h.og⟩
section
variable {ops:Array Oper} {n N:Nat} {ro:Option Nat} {S0:Sig} {Q:DX->St->Prop} {df:List DDf} {γ Sr:List (Nat × D)} {V:Sig} {ty:TypeId} {pos:String} {after:Array Edge} {d:D}
theorem moSt {op:Op} {l:List (Bool × Oper)} {S' S'':Sig} (h:MO prog ro n ops N S0 Q df l γ S'') (he:eopD tab Sr V op=some (d,S')) (hw : ∀ γ,Wk prog n ⟨γ,S',df⟩ ⟨γ,S'',df⟩) (hC:Sub S0 S'') (hl:A5 γ (A8 op.operands.toList)=some Sr:=by exact tdR) :
  MO prog ro n ops N S0 Q df ((true,⟨none,op,ty,pos,after,none⟩)::l) γ V :=
 Wf (o:=⟨none,op,ty,pos,after,none⟩) rfl rfl rfl (EU Ae rfl (by rw [Bm (U':=γ) fun x hx=>C2 (o:=⟨none,op,ty,pos,after,none⟩) hx];exact (Bm (BT hl)) ▸ he) rfl (BF (hw _) (AJ ⟨rfl,hC,h⟩)))
end
theorem VF (f:FProg) (V:Sig) (hw:f.wt<=10000000) (hs:(Bw f).isSome=true):DCall prog 48 [.agg (B3 f)] V (rS (.agg (AC (Af f))) V):=by
 obtain ⟨p1,p2,p3,p4,p5⟩:=f.wt_le
 have hsl:=Kl f
 have hgl:(gensN f).length<=f.wt:=by have:=Fs f;unfold gensN;rw [List.length_map];exact this
 have hcl:(f.classes.map (·.name)).length<=1073741824:=by rw [List.length_map];omega
 have hgn:(Bu f).1.map (·.1)=gensN f:=rfl
 refine en func48 ntmps48 ?_
 try refine gz ?_ o48 [2]
 refine newV (fun i2 hi2 => ?_)
 repeat ((fail_if_success (first | (refine callWP (Nx f.classes (·.name) 103 [] .no _ (by omega) (fun x hx S' _=>Nw x S')) (fun x S1 hr => ?_) (fun x S1 hr=>by cases hr.1)) | fail));(refine goX1 (gi hgn hs) ?_))
 refine callWP (Nx f.classes (·.name) 103 [] .no _ (by omega) (fun x hx S' _=>Nw x S')) (fun x S1 hr => ?_) (fun x S1 hr=>by cases hr.1)
 obtain ⟨e1,e2⟩:=hr
 cases e1
 rw [e2]
 clear e2 S1
 repeat ((fail_if_success (first | (refine Ab (Du (f.classes.map (·.name)) 3 .no _ hcl ⟨by omega,by omega⟩) (fun x S1 hr => ?_) (fun x S1 hr=>by obtain ⟨_,_,h,_⟩:=hr;cases h)) | fail));(refine goX1 trivial ?_))
 refine Ab (Du (f.classes.map (·.name)) 3 .no _ hcl ⟨by omega,by omega⟩) (fun x S1 hr => ?_) (fun x S1 hr=>by obtain ⟨_,_,h,_⟩:=hr;cases h)
 obtain ⟨ia,hia,e1,e2⟩:=hr
 cases e1
 rw [e2]
 clear e2 S1
 repeat ((fail_if_success (first | (refine Ab (Du (AH f) 0 .no _ (by omega) ⟨by omega,by omega⟩) (fun x S1 hr => ?_) (fun x S1 hr=>by obtain ⟨_,_,h,_⟩:=hr;cases h)) | fail));(refine goX1 trivial ?_))
 refine Ab (Du (AH f) 0 .no _ (by omega) ⟨by omega,by omega⟩) (fun x S1 hr => ?_) (fun x S1 hr=>by obtain ⟨_,_,h,_⟩:=hr;cases h)
 obtain ⟨is,his,e1,e2⟩:=hr
 cases e1
 rw [e2]
 clear e2 S1
 repeat ((fail_if_success (first | (refine Ab (Du (gensN f) 0 .no _ (by omega) ⟨by omega,by omega⟩) (fun x S1 hr => ?_) (fun x S1 hr=>by obtain ⟨_,_,h,_⟩:=hr;cases h)) | fail));(refine goX1 trivial ?_))
 refine Ab (Du (gensN f) 0 .no _ (by omega) ⟨by omega,by omega⟩) (fun x S1 hr => ?_) (fun x S1 hr=>by obtain ⟨_,_,h,_⟩:=hr;cases h)
 obtain ⟨ig,hig,e1,e2⟩:=hr
 cases e1
 rw [e2]
 clear e2 S1
 repeat ((fail_if_success (first | (refine boxV (T:=163) (fun ib hib => ?_)) | fail));(refine goX1 trivial ?_))
 refine boxV (T:=163) (fun ib hib => ?_)
 try refine gz ?_ (delO 4 o48) [2]
 obtain ⟨a1,b1⟩:=A4 hia
 obtain ⟨a2,b2⟩:=A4 his
 obtain ⟨a3,b3⟩:=A4 b2
 obtain ⟨a4,b4⟩:=A4 hig
 obtain ⟨a5,b5⟩:=A4 b4
 obtain ⟨a6,b6⟩:=A4 b5
 obtain ⟨a7,b7⟩:=A4 hib
 obtain ⟨a8,b8⟩:=A4 b7
 obtain ⟨a9,b9⟩:=A4 b8
 obtain ⟨a10,b10⟩:=A4 b9
 generalize hU4:Sig.set _ ib _=S4
 have o1:S4 ib=some (.cells [.nils,dI 0, .nils, .nils, .nils,dI 0, .map ia, .map is, .map ig]):=by rw [<- hU4];exact w7 ..
 have o2:S4 ia=some (.map (eSN (numM (f.classes.map (·.name)) 3 []))):=by rw [<- hU4,w8 _ _ (Ne.symm a9),w8 _ _ (Ne.symm a5),w8 _ _ (Ne.symm a2)];exact w7 ..
 have o3:S4 is=some (.map (eSN (Bn f))):=by rw [<- hU4,w8 _ _ (Ne.symm a8),w8 _ _ (Ne.symm a4)];exact w7 ..
 have o4:S4 ig=some (.map (eSN (Ay f))):=by rw [<- hU4,w8 _ _ (Ne.symm a7)];exact w7 ..
 have o5:S4 i2=some (.cells [.nils,dI 0, .nils, .nils, .nils,dI 0]):=by rw [<- hU4,w8 _ _ (Ne.symm a10),w8 _ _ (Ne.symm a6),w8 _ _ (Ne.symm a3),w8 _ _ (Ne.symm a1)];exact w7 ..
 have hS:Sub V S4:=fun j x hj=>by rw [<- hU4,w8 _ _ (A1 hj b10),w8 _ _ (A1 hj b6),w8 _ _ (A1 hj b3),w8 _ _ (A1 hj b1),w8 _ _ (A1 hj hi2)];exact hj
 clear hU4
 refine mixT 12 [0,1,2,3,4,5,6,7,8,9,10,11] [] ?_
 try refine gf o1 ?_ o48 [2]
 refine ent3 ?_ o2
 refine ent3 ?_ (w7 ..)
 refine ent3 ?_ (w7 ..)
 rw [w9,w9]
 generalize hU5:Sig.set _ ia _=S5
 have q1:S5 ib=some (.cells [.nils,dI 0, .nils, .nils, .nils,dI 0, .map ia, .map is, .map ig]):=by rw [<- hU5,w8 _ _ a9];exact o1
 have q2:S5 ia=some (.map (eSN (Bd f))):=by rw [<- hU5];exact w7 ..
 have q3:S5 is=some (.map (eSN (Bn f))):=by rw [<- hU5,w8 _ _ a2];exact o3
 have q4:S5 ig=some (.map (eSN (Ay f))):=by rw [<- hU5,w8 _ _ a5];exact o4
 have q5:S5 i2=some (.cells [.nils,dI 0, .nils, .nils, .nils,dI 0]):=by rw [<- hU5,w8 _ _ (Ne.symm a1)];exact o5
 have hS5:Sub V S5:=fun j x hj=>by rw [<- hU5,w8 _ _ (A1 hj b1)];exact hS _ _ hj
 clear hU5 hS o1 o2 o3 o4 o5 hia his hig hib b2 b4 b5 b7 b8 b9
 try refine gz ?_ (delO 5 o48) [2]
 have hgm:=Ij f
 obtain ⟨hM,hA⟩:=args_ok f
 have h104:=fun S' (h:S' ig=some (.map (eSN (Ay f))))=>QV f (Ay f) ig S' (by omega) (by omega) h hM hA
 refine DC [0,1,2,3,4,5,6,7,8,9,10,11,12,13,14,15,16] [8,9,13] (S5.out (· = ib)) (By _ _) ?_
 try refine gz ?_ o48 [2]
 refine moRd (d := .map ig) ?_ ?hd (By _ _)
 case hd=>simp [q1]
 refine Dn (h104 S5 q4) (fun x S6 hr => ?_) (fun x S6 hr=>by obtain ⟨_,_,h,_⟩:=hr;cases h)
 obtain ⟨r,hr0,e1,e2⟩:=hr
 cases e1
 rw [e2]
 have nr:ib ≠ r:=A1 q1 hr0
 have hout : ∀ X,Sub (S5.out (· = ib)) ((S5.set r X).set ib (.cells [.nils,dI (AH f).length, .nils, .nils, .nils,dI 0, .map ia, .map is, .map ig])):=fun X j x hj=>by
  obtain ⟨h1,h2⟩:=C9 hj
  rw [w8 _ _ h2,w8 _ _ (A1 h1 hr0)];exact h1
 refine ⟨(By _ _).trans ((Sub.refl _).set hr0), ?_⟩
 have w1:(S5.set r (.cells ((GC (Ay f) f).map dI))) ib=some (.cells [.nils,dI 0, .nils, .nils, .nils,dI 0, .map ia, .map is, .map ig]):=by rw [w8 _ _ nr];exact q1
 have hout1:=hout (.cells ((GC (Ay f) f).map dI))
 try refine gf q1 ?_ (delO 6 o48) [2]
 generalize hgs:GC (Ay f) f=gs at *
 have hgsl:gs.length=(Ay f).length:=by rw [<- hgs];unfold GC;rw [D2,Is,List.length_replicate]
 have hfr : ∀ C,(S5.set r (.cells (gs.map dI))).set ib C=mS (S5.set ib C) (some (r,(Ay f).length,[])) (cI gs):=fun C=>by
  rw [set_comm _ (Ne.symm nr)]
  show _=(S5.set ib C).set r (.cells ((cI gs).flatten++[]))
  rw [List.append_nil,G3]
 rw [hfr]
 have hmok : ∀ C,mOK (S5.set ib C) 1 (some (r,(Ay f).length,[])) (cI gs):=fun C=>by
  refine ⟨by rw [w8 _ _ (Ne.symm nr)];exact hr0, ?_,by simp [hgsl],BN _⟩
  rw [List.append_nil,G3,List.length_map,hgsl];omega
 refine dwp_wk (EC (az:=[.nils,dI (AH f).length]) (bs:=[.nils, .nils,dI 0, .map ia, .map is, .map ig]) (hmok _) (by rw [w7,Lf,hgsl];rfl)) ?_
 rw [w9]
 have z1:(S5.set ib (.cells [.nils,dI (AH f).length,sl (cI gs), .nils, .nils,dI 0, .map ia, .map is, .map ig])) ib=some (.cells [.nils,dI (AH f).length,sl (cI gs), .nils, .nils,dI 0, .map ia, .map is, .map ig]):=w7 ..
 have z2:(S5.set ib (.cells [.nils,dI (AH f).length,sl (cI gs), .nils, .nils,dI 0, .map ia, .map is, .map ig])) ia=some (.map (eSN (Bd f))):=by rw [w8 _ _ (Ne.symm a9)];exact q2
 have z3:(S5.set ib (.cells [.nils,dI (AH f).length,sl (cI gs), .nils, .nils,dI 0, .map ia, .map is, .map ig])) is=some (.map (eSN (Bn f))):=by rw [w8 _ _ (Ne.symm a8)];exact q3
 have z4:(S5.set ib (.cells [.nils,dI (AH f).length,sl (cI gs), .nils, .nils,dI 0, .map ia, .map is, .map ig])) ig=some (.map (eSN (Ay f))):=by rw [w8 _ _ (Ne.symm a7)];exact q4
 have z5:(S5.set ib (.cells [.nils,dI (AH f).length,sl (cI gs), .nils, .nils,dI 0, .map ia, .map is, .map ig])) i2=some (.cells [.nils,dI 0, .nils, .nils, .nils,dI 0]):=by rw [w8 _ _ (Ne.symm a10)];exact q5
 have zS:Sub V (S5.set ib (.cells [.nils,dI (AH f).length,sl (cI gs), .nils, .nils,dI 0, .map ia, .map is, .map ig])):=hS5.set b10
 generalize hU6:S5.set ib (.cells ([D.nils,dI (AH f).length]++sl (cI gs)::[D.nils, .nils,dI 0, .map ia, .map is, .map ig]))=S6
 have hU6:S5.set ib (.cells [.nils,dI (AH f).length,sl (cI gs), .nils, .nils,dI 0, .map ia, .map is, .map ig])=S6:=hU6
 rw [hU6] at z1 z2 z3 z4 z5 zS
 clear hU6 hfr hmok hout hout1 w1
 have hwc : ∀ c ∈ f.classes,c.parents.length<=1073741824/\c.slots.length<=1073741824/\c.inits.length<=1073741824:=fun c hc=>by
  obtain ⟨k,hk,rfl⟩:=List.getElem_of_mem hc
  have:=p4 k hk
  obtain ⟨_,y2,y3,y4,_⟩:=(f.classes[k]).wt_le
  have:=AZ (f.classes[k]).parents
  have:=AZ (f.classes[k]).slots
  omega
 have hE6:EnvS ib ia is ig [.nils,dI (AH f).length,sl (cI gs), .nils, .nils,dI 0] (Bd f) (Bn f) (Ay f) S6:=⟨⟨_,_,_,_,_,_,rfl,z1⟩,z2,z3,z4⟩
 have h105:=Uc f.classes (GB (Bd f) (Bn f)) 106 [.cptr [.ptr ib 0] 0] .no S6 (by omega) (fun x hx S' hs=>QU x (hwc x hx) (hE6.sub hs))
 generalize hbc:f.classes.map (GB (Bd f) (Bn f))=bcs at *
 repeat' first | refine gf z1 ?_ [] [2] | refine moR (h105) ?_ | refine moP (h105) ?_ | refine gf z1 ?_ o48 [2] | apply gy<;>intro hh
 generalize hU7:Sig.set S6 ib _=S7
 have y1:S7 ib=some (.cells [sl (bcs.map cBClass),dI (AH f).length,sl (cI gs), .nils, .nils,dI 0, .map ia, .map is, .map ig]):=by rw [<- hU7];exact w7 ..
 have y2:S7 ia=some (.map (eSN (Bd f))):=by rw [<- hU7,w8 _ _ (Ne.symm a9)];exact z2
 have y3:S7 is=some (.map (eSN (Bn f))):=by rw [<- hU7,w8 _ _ (Ne.symm a8)];exact z3
 have y4:S7 ig=some (.map (eSN (Ay f))):=by rw [<- hU7,w8 _ _ (Ne.symm a7)];exact z4
 have y5:S7 i2=some (.cells [.nils,dI 0, .nils, .nils, .nils,dI 0]):=by rw [<- hU7,w8 _ _ (Ne.symm a10)];exact z5
 have yS:Sub V S7:=by rw [<- hU7];exact zS.set b10
 clear hU7 z1 z2 z3 z4 z5 zS h105 hE6 h104 q1 q2 q3 q4 q5 hS5 hr0 nr
 refine AO ib 3 9 (ds:=[sl (bcs.map cBClass),dI (AH f).length,sl (cI gs), .nils, .nils,dI 0, .map ia, .map is, .map ig]) y1 rfl (fun im him => ?_)
 have m1:ib ≠ im:=A1 y1 him
 have m2:ia ≠ im:=A1 y2 him
 have m3:is ≠ im:=A1 y3 him
 have m4:ig ≠ im:=A1 y4 him
 have m5:i2 ≠ im:=A1 y5 him
 generalize hS8:Sig.set (Sig.set S7 im _) ib _=S8
 have hB8:BS ib ia is ig (sl (bcs.map cBClass)) (dI (AH f).length) (sl (cI gs)) (.slice (([]:List BMeth).map Ai) (.tag im)) (dI 0) (Bd f) (Bn f) (Ay f) none [] S8:=by
  rw [<- hS8]
  refine ⟨w7 .., ?_, ?_, ?_,rfl,id⟩
  ·rw [w8 _ _ (Ne.symm a9),w8 _ _ m2];exact y2
  ·rw [w8 _ _ (Ne.symm a8),w8 _ _ m3];exact y3
  ·rw [w8 _ _ (Ne.symm a7),w8 _ _ m4];exact y4
 have x1:S8 im=some (.tail 9 ([]:List BMeth).length):=by rw [<- hS8,w8 _ _ (Ne.symm m1)];exact w7 ..
 have x5:S8 i2=some (.cells [.nils,dI 0, .nils, .nils, .nils,dI 0]):=by rw [<- hS8,w8 _ _ (Ne.symm a10),w8 _ _ m5];exact y5
 have xS:Sub V S8:=by rw [<- hS8];exact (yS.set (yS.none him)).set b10
 have him0:V im=none:=yS.none him
 clear hS8 y1 y2 y3 y4 y5 yS him
 have hcm : ∀ m ∈ f.methods,m.body.cnt<=FMeth.wt m:=fun m _=>by have:=FExp.cnt_le m.body;unfold FMeth.wt;omega
 have hwl:wtL FMeth.wt f.methods<=f.wt:=by unfold FProg.wt;omega
 refine Qd [1,2,7,12,76,77,121,122,123,124,125,126,127,128,129,130,131,132,133,134,135,136,137,138,139,140,141,142,143,144,145,146,147,148,149,150,151,152,153,154] (fun (k:Nat) (ms:List BMeth) (st:MR) (ns:List BNode) (S1:Sig)=>k<=f.methods.length/\ms.length=k/\ns++Hl (Bd f) (Bn f) (Ay f) (f.methods.drop k) ns.length=Hl (Bd f) (Bn f) (Ay f) f.methods 0/\ms++bndMM (Bd f) (Bn f) (Ay f) (f.methods.drop k) ns.length=bndMM (Bd f) (Bn f) (Ay f) f.methods 0/\ns.length+wtL FMeth.wt (f.methods.drop k)<=f.wt/\BS ib ia is ig (sl (bcs.map cBClass)) (dI (AH f).length) (sl (cI gs)) (.slice (ms.map Ai) (.tag im)) (dI 0) (Bd f) (Bn f) (Ay f) st ns S1/\S1 im=some (.tail 9 ms.length)/\S1 i2=some (.cells [.nils,dI 0, .nils, .nils, .nils,dI 0]) /\ ¬ Bl st i2/\Sub V S1/\(∀ j x,V j=some x -> ¬ Bl st j)) (fun k _ _ _ _=>[(78,dI k)]) (fun _ _ _ _ S1=>S1) (fun k _ _ _ _=>f.methods.length-k) (0) ([]) (none) ([]) (S8) (by exact ⟨by omega,rfl,rfl,rfl,by simpa using hwl,hB8,x1,x5,id,xS,fun _ _ _=>id⟩) (fun k ms st ns S1 hI => ?_)
 obtain ⟨hk,hml,hRn,hRm,hbud,hB,o1,o5,o6,oS,oR⟩:=hI
 by_cases hkl:k < f.methods.length
 ·rw [A3 hkl] at hRn hRm hbud
  rw [Hl] at hRn
  rw [bndMM] at hRm
  rw [wtL] at hbud
  have hwm:=p5 k hkl
  generalize hmm:f.methods[k]=m at *
  have hpl:m.params.length<=f.wt/\m.body.wt<=f.wt/\m.fact.wt<=f.wt:=by have:=hwm;unfold FMeth.wt at this;have:=AZ m.params;omega
  obtain ⟨g1,g2,g3⟩:=hpl
  try refine gf (gi hB.env hmm) ?_ (delO 10 o48) [2]
  refine mix (id:=10) [0,1,2,4,5,6,3,7,8,9] [8,9] ?_
  try refine gf hmm ?_ o48 [2]
  refine moQR ?_
  obtain ⟨ks,vs,hcn⟩ : ∃ ks vs,cNum (numM m.params 0 []) = .cmap ks vs:=⟨_,_,rfl⟩
  rw [hcn]
  try refine gf hmm ?_ o48 [2]
  refine MJ (fun i10 hi10 => ?_)
  try refine gf hmm ?_ o48 [2]
  have hnm:NmD (.cmap ks vs) (numM m.params 0 []):=⟨.inl hcn.symm,Ge _ _ _ (by simp)⟩
  have hBn:=hB.fresh (o := .cells [.ptr ib 0, .cmap ks vs,dI m.params.length]) hi10
  have hi10':i10 ≠ im:=fun e=>by rw [e,o1] at hi10;cases hi10
  have hlm0:m.body.wt<=FMeth.wt m:=by unfold FMeth.wt;omega
  have hlm:ns.length+m.body.wt<=100000000:=by omega
  have hrow : ∀ {j x},(∀ c,x ≠ .cells c)->S1 j=some x -> ¬ Bl st j:=fun hx hj hr=>by obtain ⟨cs,hc⟩:=hB.row.cells hr;rw [hj] at hc;cases hc;exact hx _ rfl
  refine Ab (Nu m.body.wt m.body (.cmap ks vs) (numM m.params 0 []) m.params.length st ns _ (Nat.le_refl _) hlm (by omega) (by omega) hnm hBn) (fun x S2 hr => ?_) (fun x S2 hr=>by cases hr.1)
  obtain ⟨e1,st2,hB2,hK2⟩:=hr
  cases e1
  have kp : ∀ {j x},S1 j=some x->j ≠ ib -> ¬ Bl st j->S2 j=some x /\ ¬ Bl st2 j:=fun hj hb hr=>hK2 _ _ (by rw [w8 _ _ (A1 hj hi10)];exact hj) hb hr
  obtain ⟨t1,t1r⟩:=kp o1 (Ne.symm m1) (hrow (by simp) o1)
  obtain ⟨t5,t5r⟩:=kp o5 (Ne.symm a10) o6
  have tS : ∀ j x,V j=some x->S2 j=some x /\ ¬ Bl st2 j:=fun j x hj=>kp (oS _ _ hj) (A1 hj b10) (oR _ _ hj)
  obtain ⟨t10,_⟩:=hK2 i10 _ (w7 ..) (fun e=>by rw [e,hB.env] at hi10;cases hi10) (hB.notrow hi10)
  have hE2:=hB2.envS
  have h113:=Ub (.cmap ks vs) (numM m.params 0 []) m.params.length hnm m.fact.wt m.fact S2 (Nat.le_refl _) (by omega) hE2
  have u1:(S2.out (· = im)) ib=_:=C8 hB2.env m1
  have u4:(S2.out (· = im)) ig=_:=C8 hB2.og m4
  have u10:(S2.out (· = im)) i10=_:=C8 t10 hi10'
  have hsub:Sub (S2.out (· = im)) (S2.set im (.tail 9 (ms.length+1))):=fun j x hj=>by
   obtain ⟨h1,h2⟩:=C9 hj
   rw [w8 _ _ h2];exact h1
  have hout0:Sub (S2.out (· = im)) S2:=By _ _
  try refine gf hmm ?_ (delO 12 o48) [2]
  refine DC [0,1,2,3,4,5,6,7,8,9,10,11,12,13,14,15,16,17,19,18,20,21,22,23,24,25] [18,22] (S2.out (· = im)) (By _ _) ?_
  repeat' first | refine gf (gi u1 (gi u4 (gi u10 (gi hmm (gi t1 hB2.env))))) ?_ [] [2] | refine moR (h113) ?_ | refine moP (h113) ?_ | refine gf (gi u1 (gi u4 (gi u10 (gi hmm (gi t1 hB2.env))))) ?_ o48 [2] | apply gy<;>intro hh
  generalize hqq:Sig.set _ ib _=qq
  have hbe:bndE (Bd f) (Bn f) (Ay f) m.body (fun y=>getM 0 y (numM m.params 0 [])) m.params.length ns.length=bndE (Bd f) (Bn f) (Ay f) m.body (Eh m) m.params.length ns.length:=rfl
  have hbl:=G5 (cm:=Bd f) (sm:=Bn f) (gm:=Ay f) m.body (Eh m) m.params.length ns.length
  rw [hbe] at hB2 hqq
  have c1:qq ib=some (.cells [sl (bcs.map cBClass),dI (AH f).length,sl (cI gs), .slice ((ms++[(⟨m.kind,getM 0 m.name (Ay f),bndF (Bd f) (Bn f) (Eh m) m.fact,ns.length⟩:BMeth)]).map Ai) (.tag im),mD st2 (ns++bndE (Bd f) (Bn f) (Ay f) m.body (Eh m) m.params.length ns.length).length,dI 0, .map ia, .map is, .map ig]):=by
   rw [<- hqq,w7,List.length_append]
   simp only [List.map_append,List.map_cons,List.map_nil,Ai,Dr,List.cons_append,List.nil_append]
   rfl
  have kq : ∀ {j x},S2 j=some x->j ≠ ib->j ≠ im->qq j=some x:=fun hj h1 h2=>by rw [<- hqq,w8 _ _ h1,w8 _ _ h2];exact hj
  have hBq:BS ib ia is ig (sl (bcs.map cBClass)) (dI (AH f).length) (sl (cI gs)) (.slice ((ms++[(⟨m.kind,getM 0 m.name (Ay f),bndF (Bd f) (Bn f) (Eh m) m.fact,ns.length⟩:BMeth)]).map Ai) (.tag im)) (dI 0) (Bd f) (Bn f) (Ay f) st2 (ns++bndE (Bd f) (Bn f) (Ay f) m.body (Eh m) m.params.length ns.length) qq :=
   ⟨c1,kq hB2.oa (Ne.symm a9) m2,kq hB2.os (Ne.symm a8) m3,kq hB2.og (Ne.symm a7) m4,hB2.row.keep fun j x hj hr=>kq hj (fun e=>hB2.nr (by rw [<- e];exact hr)) (fun e=>t1r (by rw [<- e];exact hr)),hB2.nr⟩
  have cim:qq im=some (.tail 9 (ms++[(⟨m.kind,getM 0 m.name (Ay f),bndF (Bd f) (Bn f) (Eh m) m.fact,ns.length⟩:BMeth)]).length):=by rw [<- hqq,w8 _ _ (Ne.symm m1),w7,List.length_append];rfl
  have c5:=kq t5 (Ne.symm a10) m5
  have cS:Sub V qq:=fun j x hj=>kq (tS j x hj).1 (A1 hj b10) (A1 hj him0)
  clear hqq
  exact ⟨k+1,ms++[⟨m.kind,getM 0 m.name (Ay f),bndF (Bd f) (Bn f) (Eh m) m.fact,ns.length⟩],st2,ns++bndE (Bd f) (Bn f) (Ay f) m.body (Eh m) m.params.length ns.length,qq,⟨by omega,by rw [List.length_append,hml];rfl,by rw [List.append_assoc,List.length_append,hbl];exact hRn,by rw [List.append_assoc,List.length_append,hbl];exact hRm,by rw [List.length_append,hbl];have:=FExp.cnt_le m.body;omega,hBq,cim,c5,t5r,cS,fun j x hj=>(tS j x hj).2⟩,td1,wkR⟩
 ·rw [A2 hkl,Hl,List.append_nil] at hRn
  rw [A2 hkl,bndMM,List.append_nil] at hRm
  have hmw:=FExp.cnt_le f.main
  try refine gf hB.env ?_ o48 [2]
  refine Ab (Nu f.main.wt f.main .nilmap [] 0 st ns _ (Nat.le_refl _) (by omega) (by omega) (by omega) ⟨.inr ⟨rfl,rfl⟩,by simp⟩ hB) (fun x S2 hr => ?_) (fun x S2 hr=>by cases hr.1)
  obtain ⟨e1,st2,hB2,hK2⟩:=hr
  cases e1
  have hbe:bndE (Bd f) (Bn f) (Ay f) f.main (fun y=>getM 0 y []) 0 ns.length=bndE (Bd f) (Bn f) (Ay f) f.main (fun _=>0) 0 ns.length:=rfl
  rw [hbe] at hB2
  obtain ⟨t5,t5r⟩:=hK2 _ _ o5 (Ne.symm a10) o6
  have tS : ∀ j x,V j=some x->S2 j=some x /\ ¬ Bl st2 j:=fun j x hj=>hK2 _ _ (oS _ _ hj) (A1 hj b10) (oR _ _ hj)
  have hbo:Af f=⟨bcs,(AH f).length,gs,ms,ns++bndE (Bd f) (Bn f) (Ay f) f.main (fun _=>0) 0 ns.length,ns.length⟩:=by unfold Af;rw [hbc,hgs, <- hRn, <- hRm]
  generalize hnn:ns++bndE (Bd f) (Bn f) (Ay f) f.main (fun _=>0) 0 ns.length=nn at *
  try refine gf hB2.env ?_ (delO 16 o48) [2]
  generalize hU3:Sig.set S2 ib _=S3
  have c1:S3 ib=some (.cells [sl (bcs.map cBClass),dI (AH f).length,sl (cI gs), .slice (ms.map Ai) (.tag im),mD st2 nn.length,dI ns.length, .map ia, .map is, .map ig]):=by rw [<- hU3];exact w7 ..
  have c5:S3 i2=some (.cells [.nils,dI 0, .nils, .nils, .nils,dI 0]):=by rw [<- hU3,w8 _ _ (Ne.symm a10)];exact t5
  have cS : ∀ j x,V j=some x->S3 j=some x /\ ¬ Bl st2 j:=fun j x hj=>⟨by rw [<- hU3,w8 _ _ (A1 hj b10)];exact (tS j x hj).1,(tS j x hj).2⟩
  have cR:RowAt S3 3 st2 (nn.map Ad):=hB2.row.keep fun j x hj hr=>by rw [<- hU3,w8 _ _ fun e=>hB2.nr (by rw [<- e];exact hr)];exact hj
  clear hU3
  obtain ⟨S4,rfl,hm4,hk4,_⟩:=cR.mS
  have d1:=hk4 _ _ c1 hB2.nr
  have d5:=hk4 _ _ c5 t5r
  have dS:Sub V S4:=fun j x hj=>hk4 _ _ (cS j x hj).1 (cS j x hj).2
  refine dwp_wk (EC (az:=[sl (bcs.map cBClass),dI (AH f).length,sl (cI gs), .slice (ms.map Ai) (.tag im)]) (bs:=[dI ns.length, .map ia, .map is, .map ig]) hm4 (by rw [List.length_map];exact d1)) ?_
  refine dwp_wk (Cx (az:=[sl (bcs.map cBClass),dI (AH f).length,sl (cI gs)]) (d := .slice (ms.map Ai) (.tag im)) (d':=sl (ms.map Ai)) (bs:=[sl (nn.map Ad),dI ns.length, .map ia, .map is, .map ig]) (w7 ..) (Az _ _)) ?_
  rw [w9]
  have e1:(S4.set ib (.cells [sl (bcs.map cBClass),dI (AH f).length,sl (cI gs),sl (ms.map Ai),sl (nn.map Ad),dI ns.length, .map ia, .map is, .map ig])) ib=some (.cells [sl (bcs.map cBClass),dI (AH f).length,sl (cI gs),sl (ms.map Ai),sl (nn.map Ad),dI ns.length, .map ia, .map is, .map ig]):=w7 ..
  have e5:(S4.set ib (.cells [sl (bcs.map cBClass),dI (AH f).length,sl (cI gs),sl (ms.map Ai),sl (nn.map Ad),dI ns.length, .map ia, .map is, .map ig])) i2=some (.cells [.nils,dI 0, .nils, .nils, .nils,dI 0]):=by rw [w8 _ _ (Ne.symm a10)];exact d5
  have eS:Sub V (S4.set ib (.cells [sl (bcs.map cBClass),dI (AH f).length,sl (cI gs),sl (ms.map Ai),sl (nn.map Ad),dI ns.length, .map ia, .map is, .map ig])):=dS.set b10
  generalize hU5:S4.set ib (.cells ([sl (bcs.map cBClass),dI (AH f).length,sl (cI gs)]++sl (ms.map Ai)::[sl (nn.map Ad),dI ns.length, .map ia, .map is, .map ig]))=S5
  have hU5:S4.set ib (.cells [sl (bcs.map cBClass),dI (AH f).length,sl (cI gs),sl (ms.map Ai),sl (nn.map Ad),dI ns.length, .map ia, .map is, .map ig])=S5:=hU5
  rw [hU5] at e1 e5 eS
  clear hU5
  refine mixL [0,1,2,3,4,5,6,8,9,10,11,12,7,13,14,15,16,17,18,19,20] [17] ?_
  try refine gf e1 ?_ o48 [2]
  refine moQR ?_
  try refine gf e1 ?_ o48 [2]
  refine moQR ?_
  try refine gf e1 ?_ o48 [2]
  refine moSt (d := .any) (S':=S5.set ib (.cells [sl (bcs.map cBClass),dI (AH f).length,sl (cI gs), .slice (ms.map Ai) .clip,sl (nn.map Ad),dI ns.length, .map ia, .map is, .map ig])) (S'':=S5) ?_ ?he (fun γ => ?hw) (Sub.refl _)
  case he=>simp [e1]
  case hw =>
   have:=Cx (P:=prog) (n:=155) (γ:=γ) (df:=[]) (az:=[sl (bcs.map cBClass),dI (AH f).length,sl (cI gs)]) (d := .slice (ms.map Ai) .clip) (d':=sl (ms.map Ai)) (bs:=[sl (nn.map Ad),dI ns.length, .map ia, .map is, .map ig]) (V:=S5.set ib (.cells [sl (bcs.map cBClass),dI (AH f).length,sl (cI gs), .slice (ms.map Ai) .clip,sl (nn.map Ad),dI ns.length, .map ia, .map is, .map ig])) (w7 ..) (Az _ _)
   rw [w9] at this
   have h2:=Sig.set_self _ e1
   rw [show S5.set ib (.cells ([sl (bcs.map cBClass),dI (AH f).length,sl (cI gs)]++sl (ms.map Ai)::[sl (nn.map Ad),dI ns.length, .map ia, .map is, .map ig]))=S5 from h2] at this
   exact this
  try refine gf (gi e1 e5) ?_ o48 [2]
  rw [hbo]
  have hwk:WkD (.agg [sl (bcs.map cBClass),dI (AH f).length,sl (cI gs),sl (ms.map Ai), .slice (nn.map Ad) .clip,dI ns.length]) (.agg [sl (bcs.map cBClass),dI (AH f).length,sl (cI gs),sl (ms.map Ai),sl (nn.map Ad),dI ns.length]):=E2 (show WkL _ _ from ⟨A9 _,A9 _,A9 _,A9 _,Az _ _,A9 _,trivial⟩)
  refine finC (S':=V) (d := .agg [sl (bcs.map cBClass),dI (AH f).length,sl (cI gs),sl (ms.map Ai),sl (nn.map Ad),dI ns.length]) ⟨rfl,rfl⟩ (hZ:=(eS.set b10).set hi2) (hw := ?_)
  exact hwk
@[reducible,instance] def a48:=fun f V=>ah2 (@VF f V)
end Go.DL
