/- Part of the proof that the last text ends. -/
import Derived.Test.YtlfimpogphmbdaaGreatM27
import Derived.Test.YtlfimpogphmbdaaGreatM30
import Derived.Test.YtlfimpogphmbdaaGreatM29
import Derived.Test.YtlfimpogphmbdaaGreatM20
import Derived.Test.YtlfimpogphmbdaaGreatM21
import Derived.Test.YtlfimpogphmbdaaGreatM18
import Derived.Test.YtlfimpogphmbdaaGreatM15
import Derived.Test.YtlfimpogphmbdaaGreatM22
import Derived.Test.YtlfimpogphmbdaaGreatM17
set_option linter.all false
namespace Go.DL
open Go.Proofs.Tryz
open Go Go.Proofs
theorem HK : ∀ (l seen:List Str),difE seen l=true ↔ l.Nodup /\ ∀ x ∈ l,x ∉ seen
 | [],seen=>by simp [difE]
 | x::r,seen=>by
  rw [difE,Bool.and_eq_true,HK r,List.nodup_cons]
  simp only [Bool.not_eq_true',decide_eq_false_iff_not,List.mem_append,List.mem_cons,List.not_mem_nil,or_false]
  grind
theorem HA (l:List Str):D5 l=true ↔ (∀ s ∈ l,AM s=true)/\l.Nodup:=by
 unfold D5
 rw [Bool.and_eq_true,List.all_eq_true,HK];simp
theorem LS (x:Str) : ∀ (pre t:List Str) (k:Nat),x ∉ pre->idxG x (pre++x::t) k=(k:Int)+pre.length
 | [],t,k,_=>by rw [List.nil_append,idxG,if_pos rfl];simp
 | y::r,t,k,h=>by
  rw [List.mem_cons,not_or] at h
  rw [List.cons_append,idxG,if_neg (fun e=>h.1 e.symm),LS x r t (k+1) h.2,List.length_cons];omega
theorem KA (s:Str) (j:Nat) : ∀ (l:List Str) (k:Nat),s ∈ l->idxG s l (k+j)=idxG s l k+j
 | [],_,h=>by cases h
 | x::r,k,h=>by
  rw [idxG,idxG]
  by_cases e:x=s
  ·rw [if_pos e,if_pos e];omega
  ·rw [if_neg e,if_neg e,show k+j+1=k+1+j by omega,KA s j r (k+1) ((List.mem_cons.1 h).resolve_left fun h=>e h.symm)]
theorem Dq (s:Str) : ∀ (l:List Str) (k:Nat) (m:List (Str × Int)),l.Nodup->s ∈ l->getM 0 s (numM l k m)=idxG s l k
 | [],_,_,_,h=>by cases h
 | x::r,k,m,hn,h=>by
  rw [List.nodup_cons] at hn
  rw [numM,idxG]
  by_cases e:x=s
  ·subst e
   rw [if_pos rfl,(Ie r _ _ x).2 hn.1,BP,if_pos rfl]
  ·rw [if_neg e]
   exact Dq s r (k+1) _ hn.2 ((List.mem_cons.1 h).resolve_left fun h=>e h.symm)
theorem Jt (s:Str) (l:List Str) (k:Int) (h:s ∉ l):getM 0 s (numM l k [])=0:=(Ie l k [] s).2 h
theorem Ir (f:FProg) (hn:(ownR f).Nodup) (s:Str) (hs:s ∈ ownR f++lits3):getM 0 s (Bd f)=clsN (ownR f) s:=by
 unfold Bd clsN
 rw [BP,BP,BP]
 have e1:idxG s lits3 0=if wAny=s then 0 else if wInt=s then 1 else if G6=s then 2 else -1:=rfl
 rw [e1]
 by_cases h1:s=G6
 ·subst h1;rw [if_pos rfl];rfl
 ·by_cases h2:s=wInt
  ·subst h2;rw [if_neg (by decide),if_pos rfl];rfl
  ·by_cases h3:s=wAny
   ·subst h3;rw [if_neg (by decide),if_neg (by decide),if_pos rfl];rfl
   ·rw [if_neg h1,if_neg h2,if_neg h3,if_neg (fun e:wAny=s=>h3 e.symm),if_neg (fun e:wInt=s=>h2 e.symm),if_neg (fun e:G6=s=>h1 e.symm),if_neg (by omega)]
    have hm:s ∈ ownR f:=by
     rcases List.mem_append.1 hs with h | h
     ·exact h
     ·simp [lits3,h1,h2,h3] at h
    have:=Dq s (ownR f) 3 [] hn hm
    have h4:=KA s 3 (ownR f) 0 hm
    rw [Nat.zero_add] at h4
    rw [show f.classes.map (·.name)=ownR f from rfl,show (3:Int)=((3:Nat):Int) from rfl,this,h4]
theorem VX (f:FProg) (h:[] ∉ ownR f):getM 0 [] (Bd f)=0:=by
 unfold Bd
 rw [BP,BP,BP,if_neg (by decide),if_neg (by decide),if_neg (by decide)]
 exact Jt [] _ 3 h
theorem RA : ∀ (xs pre post:List Str),(pre++xs++post).Nodup->xs.map (fun s=>idxG s (pre++xs++post) 0)=seqI pre.length xs.length
 | [],pre,post,_=>rfl
 | x::r,pre,post,h=>by
  have h1:x ∉ pre:=fun hx=>by
   rw [List.append_assoc,List.nodup_append] at h
   exact h.2.2 x hx x (by simp) rfl
  have h2:=LS x pre (r++post) 0 h1
  have ih:=RA r (pre++[x]) post (by simpa [List.append_assoc] using h)
  rw [List.map_cons,List.length_cons,seqI]
  have e:pre++x::r++post=pre++[x]++r++post:=by simp
  have e2:pre++x::r++post=pre++x::(r++post):=by simp
  congr 1
  ·rw [e2,h2];simp
  ·rw [e,ih];simp
structure FOK (f:FProg):Prop where
 own:(ownR f).Nodup
 ownB : ∀ s ∈ ownR f,AM s=true
 slo:(slotsR f).Nodup
 sloB : ∀ s ∈ slotsR f,AM s=true
 par : ∀ c ∈ f.classes, ∀ s ∈ c.parents,s ∈ ownR f
 ini : ∀ c ∈ f.classes, ∀ x ∈ c.inits,x.slot ∈ slotsR f
 mainC:(cntE f.main 1 120).1=true
 mainS:Ed [] (slotsR f) (ownR f) false f.main=true
 met : ∀ m ∈ f.methods,Cs m=true/\(∃ b,0<=b/\(fctE m.params (slotsR f) (ownR f++lits3) m.fact 1 b).1=true)/\(cntE m.body 1 120).1=true /\ ∃ t,Ed m.params (slotsR f) (ownR f) t m.body=true
 gen:(Bu f).2=true
theorem Pg {mine:List Str} : ∀ {l:List FInit} {seen:List Str},iniR mine seen l=true -> ∀ x ∈ l,x.slot ∈ mine
 | [],_,_,x,hx=>by cases hx
 | y::r,seen,h,x,hx=>by
  rw [iniR] at h
  simp only [Bool.and_eq_true,decide_eq_true_eq] at h
  rcases List.mem_cons.1 hx with rfl | hx
  ·exact h.1.1
  ·exact Pg h.2 x hx
theorem MX {f:FProg} : ∀ {l:List FClass} {i:Nat},inisR f i l=true -> ∀ c ∈ l, ∀ x ∈ c.inits,x.slot ∈ slotsR f
 | [],_,_,c,hc=>by cases hc
 | y::r,i,h,c,hc=>by
  rw [inisR,Bool.and_eq_true] at h
  rcases List.mem_cons.1 hc with rfl | hc
  ·intro x hx
   obtain ⟨j,hj,_,h2⟩:=(Ja _ _).1 (Pg h.1 x hx)
   exact List.mem_flatMap.2 ⟨_,List.getElem_mem hj,h2⟩
  ·exact MX h.2 c hc
theorem Kt {S O:List Str} : ∀ {l:List FMeth} {b:Int},0<=b->Gc S O l b=true -> ∀ m ∈ l,Cs m=true/\(∃ b,0<=b/\(fctE m.params S (O++lits3) m.fact 1 b).1=true)/\(cntE m.body 1 120).1=true /\ ∃ t,Ed m.params S O t m.body=true
 | [],_,_,_,m,hm=>by cases hm
 | y::r,b,hb,h,m,hm=>by
  rw [Gc,Bool.and_eq_true] at h
  rcases List.mem_cons.1 hm with rfl | hm
  ·have h1:=h.1
   unfold CH at h1
   split at h1
   ·rename_i q1
    split at h1
    ·rename_i q2
     simp only [Bool.and_eq_true] at h1
     exact ⟨q1,⟨b,hb,q2.1⟩,q2.2,_,h1.2⟩
    ·cases h1
   ·cases h1
  ·exact Kt (LM S O y b hb h.1).1 h.2 m hm
theorem Wq {f:FProg} (h:F7 f=true):FOK f:=by
 unfold F7 K8 DN at h
 simp only [Bool.and_eq_true,decide_eq_true_eq] at h
 obtain ⟨⟨h1,⟨h2,h3,h4,h5⟩,h6,h7⟩,⟨h8,h9⟩,h10,h11,h12⟩:=h
 obtain ⟨a1,a2⟩:=(HA _).1 h4
 obtain ⟨b1,b2⟩:=(HA _).1 h5
 refine ⟨a2,a1,b2,b1,fun c hc s hs => ?_,MX h6,h7,h9,Kt h8 h10,h11⟩
 have:=(EW _ _ h3 c hc).2 s hs
 rw [List.nil_append] at this
 exact this
theorem NX {f:FProg} (h:FOK f) : ∀ (l pre:List FClass),f.classes=pre++l->Gi f l (pre.flatMap (·.slots)).length=l.map (GB (Bd f) (Bn f))
 | [],_,_=>rfl
 | c::r,pre,hf=>by
  have hc:c ∈ f.classes:=by rw [hf];simp
  have hs:slotsR f=pre.flatMap (·.slots)++c.slots++r.flatMap (·.slots):=by unfold slotsR;rw [hf];simp
  have hsm : ∀ s ∈ slotsR f,getM 0 s (Bn f)=idxG s (slotsR f) 0:=fun s hs=>Dq s (slotsR f) 0 [] h.slo hs
  have ih:=NX h r (pre++[c]) (by rw [hf];simp)
  rw [List.flatMap_append,List.length_append] at ih
  simp only [List.flatMap_cons,List.flatMap_nil,List.append_nil] at ih
  rw [Gi,ih,List.map_cons]
  congr 1
  unfold W5 GB
  have e1:c.parents.map (clsN (ownR f))=c.parents.map fun s=>getM 0 s (Bd f):=List.map_congr_left fun s hs=>(Ir f h.own s (List.mem_append_left _ (h.par c hc s hs))).symm
  have e2:(c.slots.map fun s=>getM 0 s (Bn f))=seqI (pre.flatMap (·.slots)).length c.slots.length:=by
   rw [<- RA c.slots (pre.flatMap (·.slots)) (r.flatMap (·.slots)) (by rw [<- hs];exact h.slo), <- hs]
   exact List.map_congr_left fun s hx=>hsm s (by rw [hs];simp [hx])
  have e3:(c.inits.map fun x=>(⟨idxG x.slot (slotsR f) 0,x.n⟩:Init))=c.inits.map fun x=>⟨getM 0 x.slot (Bn f),x.n⟩:=List.map_congr_left fun x hx=>by rw [hsm _ (h.ini c hc x hx)]
  rw [e1,e2,e3]
theorem SB {P:List Str} (hP:P.Nodup) {y:Str} (hy:y ∈ P):getM 0 y (numM P 0 [])=idxG y P 0:=Dq y P 0 [] hP hy
mutual
theorem Ww {f:FProg} (h:FOK f) {m:FMeth} (hP:m.params.Nodup) (hP0:[] ∉ m.params) : ∀ (x:FFact) (d:Int),FF (fctQ m.params (slotsR f) (ownR f++lits3)) x d=true->bndF (Bd f) (Bn f) (Eh m) x=FE (ownR f) (slotsR f) m.params x
 | .mk o s p c n k,d,hx=>by
  rw [FF,Bool.and_eq_true] at hx
  obtain ⟨h1,h2⟩:=hx
  have hO0:[] ∉ ownR f:=fun hm=>by have:=h.ownB _ hm;rw [J3] at this;cases this
  unfold fctQ fctB fctC at h1
  simp only [Bool.and_eq_true,decide_eq_true_eq] at h1
  obtain ⟨_,_,⟨⟨⟨⟨_,q1⟩,_⟩,⟨q2,q3⟩,_⟩,q4⟩⟩:=h1
  have q1:(if AI o=true then decide (s ∈ m.params) else (decide (s=[]) && decide (p=[])))=true:=q1
  have q2:(decide (o=2) == !decide (c=[]))=true:=q2
  have q3:(!decide (o=2) || decide (c ∈ ownR f++lits3))=true:=q3
  rw [bndF,FE,UJ h hP hP0 k (d+1) h2]
  congr 1
  ·by_cases hs:s=[]
   ·rw [if_pos hs,hs];exact Jt [] _ 0 hP0
   ·rw [if_neg hs]
    refine SB hP ?_
    by_cases hn:AI o=true
    ·rw [if_pos hn] at q1;exact of_decide_eq_true q1
    ·rw [if_neg hn] at q1;simp [hs] at q1
  ·refine List.map_congr_left fun x hx=>Dq x (slotsR f) 0 [] h.slo ?_
   exact of_decide_eq_true (List.all_eq_true.1 q4 x hx)
  ·by_cases hc:c=[]
   ·rw [if_pos hc,hc];exact VX f hO0
   ·rw [if_neg hc]
    refine Ir f h.own c ?_
    simp [hc] at q2
    simpa [q2] using q3
theorem UJ {f:FProg} (h:FOK f) {m:FMeth} (hP:m.params.Nodup) (hP0:[] ∉ m.params) : ∀ (l:List FFact) (d:Int),Cn (fctQ m.params (slotsR f) (ownR f++lits3)) l d=true->Hm (Bd f) (Bn f) (Eh m) l=I1 (ownR f) (slotsR f) m.params l
 | [],_,_=>by rw [Hm,I1]
 | x::r,d,hx=>by
  rw [Cn,Bool.and_eq_true] at hx
  rw [Hm,I1,Ww h hP hP0 x d hx.1,UJ h hP hP0 r d hx.2]
end
theorem MU (y t:Str) : ∀ (l:List Str) (k:Nat) (n:Int),EL y (l++[t]) k n=if t=y then ((k+l.length:Nat):Int) else EL y l k n
 | [],k,n=>by rw [List.nil_append,EL,EL,EL];simp
 | x::r,k,n=>by
  rw [List.cons_append,EL,EL,MU y t r,List.length_cons,show k+1+r.length=k+(r.length+1) by omega]
theorem MT (y:Str) : ∀ (l:List Str) (k:Nat) (m:List (Str × Int)),getM 0 y (numM l k m)=EL y l k (getM 0 y m)
 | [],_,_=>by rw [numM,EL]
 | x::r,k,m=>by
  rw [numM,EL]
  have:=MT y r (k+1) (putM x k m)
  rw [show ((k:Int)+1)=((k+1:Nat):Int) by omega,this,BP]
  congr 1
  by_cases e:y=x
  ·rw [if_pos e,if_pos e.symm]
  ·rw [if_neg e,if_neg fun h=>e h.symm]
mutual
theorem PT {f:FProg} (h:FOK f) {t0:Bool} : ∀ (e:FExp) (d:Int) (env:Str->Int) (own:List Str) (k:Nat),allD EJ e d=true->(allE e).all (nodK (ownR f) (slotsR f) t0)=true->AllX (CallsIn (gensN f)) e->(∀ y,env y=EL y own 0 0) ->
  bndE (Bd f) (Bn f) (Ay f) e env own.length k=Ey (ownR f) (slotsR f) (gensN f) e own k
 | .mk o n t l,d,env,own,k,h1,h2,h3,he=>by
  rw [allD,Bool.and_eq_true] at h1
  rw [allE,List.all_cons,Bool.and_eq_true] at h2
  rw [AllX] at h3
  rw [bndE,Ey,UL h o t l 0 (d+1) env own (k+1) h1.2 h2.2 h3.2 he]
  congr 1
  congr 1
  unfold bndN OC
  have q2:(if o=4\/o=7 then decide (t ∈ slotsR f) else if o=6\/o=8 then decide (t ∈ ownR f) else if o=18 then t0 else true)=true:=h2.1
  by_cases c3:o=3
  ·rw [if_pos c3,if_pos c3,he t]
   have:n=0:=(Ks h1.1 c3).2
   rw [this]
  ·rw [if_neg c3,if_neg c3]
   by_cases c4:o=4\/o=7
   ·rw [if_pos c4,if_pos c4]
    rw [if_pos c4] at q2
    exact Dq t (slotsR f) 0 [] h.slo (of_decide_eq_true q2)
   ·rw [if_neg c4,if_neg c4]
    rw [if_neg c4] at q2
    by_cases c5:o=5
    ·rw [if_pos c5,if_pos c5]
     exact Dq t (gensN f) 0 [] (Ds f).1 (h3.1 c5)
    ·rw [if_neg c5,if_neg c5]
     by_cases c6:o=6\/o=8
     ·rw [if_pos c6,if_pos c6]
      rw [if_pos c6] at q2
      exact Ir f h.own t (List.mem_append_left _ (of_decide_eq_true q2))
     ·rw [if_neg c6,if_neg c6]
theorem UL {f:FProg} (h:FOK f) {t0:Bool} (o:Int) (t:Str) : ∀ (l:List FExp) (i:Nat) (d:Int) (env:Str->Int) (own:List Str) (k:Nat),I8 EJ l d=true->(B9 l).all (nodK (ownR f) (slotsR f) t0)=true->DP (CallsIn (gensN f)) l->(∀ y,env y=EL y own 0 0) ->
  Ga (Bd f) (Bn f) (Ay f) o t l i env own.length k=Ew (ownR f) (slotsR f) (gensN f) o t l i own k
 | [],_,_,_,_,_,_,_,_,_=>by rw [Ga,Ew]
 | x::r,i,d,env,own,k,h1,h2,h3,he=>by
  rw [I8,Bool.and_eq_true] at h1
  rw [B9,List.all_append,Bool.and_eq_true] at h2
  rw [DP] at h3
  rw [Ga,Ew,UL h o t r (i+1) d env own (k+x.cnt) h1.2 h2.2 h3.2 he]
  congr 1
  by_cases c:o=9/\i=1
  ·rw [if_pos c,if_pos c]
   have:=PT h x d (updE env t own.length) (own++[t]) k h1.1 h2.1 h3.1 (fun y=>by
    rw [MU,Nat.zero_add];unfold updE
    by_cases e:y=t
    ·rw [if_pos e,if_pos e.symm]
    ·rw [if_neg e,if_neg fun h=>e h.symm];exact he y)
   rw [List.length_append] at this
   exact this
  ·rw [if_neg c,if_neg c]
   exact PT h x d env own k h1.1 h2.1 h3.1 he
end
theorem OX {free slots own:List Str} {t:Bool} {e:FExp} (h:Ed free slots own t e=true):(allE e).all (nodK own slots t)=true:=by
 unfold Ed at h;rw [Bool.and_eq_true] at h;exact h.1
theorem Wv {f:FProg} (h:FOK f) : ∀ (l:List FMeth) (k:Nat),(∀ m ∈ l,m ∈ f.methods) ->
  bndMM (Bd f) (Bn f) (Ay f) l k=I0 (ownR f) (slotsR f) (gensN f) l k/\Hl (Bd f) (Bn f) (Ay f) l k=Gh (ownR f) (slotsR f) (gensN f) l k
 | [],_,_=>⟨rfl,rfl⟩
 | m::r,k,hl=>by
  obtain ⟨i1,i2⟩:=Wv h r (k+m.body.cnt) fun m hm=>hl m (by simp [hm])
  have hm:=hl m (by simp)
  obtain ⟨m1,⟨b,hb,m2⟩,m3,t,m4⟩:=h.met m hm
  obtain ⟨g1,g2,g3⟩:=Ds f
  have hp:D5 m.params=true:=by unfold Cs at m1;simp only [Bool.and_eq_true] at m1;exact m1.2.2.2.2
  obtain ⟨p1,p2⟩:=(HA _).1 hp
  have hP0:[] ∉ m.params:=fun hx=>by have:=p1 _ hx;rw [J3] at this;cases this
  have hF:=Ww h p2 hP0 m.fact 1 ((LV m.fact 1 b hb).1.1 m2).1
  have hE:=PT h m.body 1 (Eh m) m.params k ((Iq m.body 1 120 (by omega)).1.1 m3).1 (OX m4) (g2 m hm).2 (fun y=>by unfold Eh;exact MT y m.params 0 [])
  have hG:getM 0 m.name (Ay f)=idxG m.name (gensN f) 0:=Dq m.name (gensN f) 0 [] g1 (g2 m hm).1
  exact ⟨by rw [bndMM,I0,i1,hF,hG],by rw [Hl,Gh,i2,hE]⟩
def Told (G:List (Str × Int)) (s:Str) (n:Int):Prop:=hasM s G=true/\getM 0 s G=n
theorem Ib {G H:List (Str × Int)} {s:Str} {n:Int} (h:Told G s n):Told (G++H) s n:=by
 obtain ⟨h1,h2⟩:=h
 induction G with
 | nil=>cases h1
 | cons a r ih =>
  obtain ⟨x,v⟩:=a
  rw [hasM] at h1
  rw [getM] at h2
  unfold Told
  rw [List.cons_append,hasM,getM]
  by_cases e:s=x
  ·simp [e] at h2 ⊢; exact h2
  ·simp [e] at h1 h2 ⊢; exact ih h1 h2
theorem OS (s:Str) (n:Int) : ∀ G:List (Str × Int),hasM s G=false->Told (G++[(s,n)]) s n
 | [],_=>by unfold Told;rw [List.nil_append,hasM,getM];simp
 | (x,v)::r,h=>by
  rw [hasM] at h
  obtain ⟨i1,i2⟩:=OS s n r (by simp at h;exact h.2)
  unfold Told
  rw [List.cons_append,hasM,getM]
  by_cases e:s=x
  ·simp [e] at h
  ·simp [e,i1,i2]
theorem Mx (s:Str) (n:Int) (g:GenT):(∃ H,(seeG s n g).1=g.1++H)/\(∀ x ∈ (seeG s n g).1.map (·.1),x ∈ g.1.map (·.1)\/x=s)/\((seeG s n g).2=true->g.2=true/\Told (seeG s n g).1 s n):=by
 unfold seeG
 by_cases h:hasM s g.1=true
 ·rw [if_pos h]
  refine ⟨⟨[],by simp⟩,fun x hx => .inl hx,fun hh => ?_⟩
  simp only [Bool.and_eq_true,decide_eq_true_eq] at hh
  exact ⟨hh.1,h,hh.2⟩
 ·rw [if_neg h]
  exact ⟨⟨_,rfl⟩,fun x hx=>by simpa using hx,fun hh=>⟨hh,OS s n _ (by simpa using h)⟩⟩
def O3 (G:List (Str × Int)) (x:FExp):Prop:=x.op=5->Told G x.text x.kids.length
theorem Rq {G:List (Str × Int)} (H:List (Str × Int)) (e:FExp) (h:AllX (O3 G) e):AllX (O3 (G++H)) e:=FG (fun x hx h5=>Ib (hx h5)) e h
def callsL (l:List FExp):List Str:=(l.filter fun x=>decide (x.op=5)).map (·.text)
mutual
theorem SD : ∀ (e:FExp) (g:GenT),(∃ H,(genE e g).1=g.1++H)/\(∀ x ∈ (genE e g).1.map (·.1),x ∈ g.1.map (·.1)\/x ∈ callsL (allE e))/\((genE e g).2=true->g.2=true/\AllX (O3 (genE e g).1) e)
 | .mk o n t k,g=>by
  rw [genE,allE,AllX]
  by_cases h5:o=5
  ·rw [if_pos h5]
   obtain ⟨⟨H1,a1⟩,a2,a3⟩:=Mx t k.length g
   obtain ⟨⟨H2,b1⟩,b2,b3⟩:=FU k (seeG t k.length g)
   have hc:callsL (FExp.mk o n t k::B9 k)=t::callsL (B9 k):=by unfold callsL;rw [List.filter_cons,if_pos (show decide ((FExp.mk o n t k).op=5)=true from decide_eq_true h5)];rfl
   refine ⟨⟨H1++H2,by rw [b1,a1,List.append_assoc]⟩,fun x hx => ?_,fun hh => ?_⟩
   ·rw [hc]
    rcases b2 x hx with h | h
    ·rcases a2 x h with h | h
     ·exact .inl h
     ·exact .inr (by simp [h])
    ·exact .inr (by simp [h])
   ·obtain ⟨c1,c2⟩:=b3 hh
    obtain ⟨d1,d2⟩:=a3 c1
    exact ⟨d1,fun _=>by rw [b1];exact Ib d2,c2⟩
  ·rw [if_neg h5]
   obtain ⟨b1,b2,b3⟩:=FU k g
   have hc:callsL (FExp.mk o n t k::B9 k)=callsL (B9 k):=by unfold callsL;rw [List.filter_cons,if_neg (show ¬ decide ((FExp.mk o n t k).op=5)=true from fun h=>h5 (of_decide_eq_true h))]
   rw [hc]
   exact ⟨b1,b2,fun hh=>⟨(b3 hh).1,fun h=>absurd h h5,(b3 hh).2⟩⟩
theorem FU : ∀ (l:List FExp) (g:GenT),(∃ H,(Cp l g).1=g.1++H)/\(∀ x ∈ (Cp l g).1.map (·.1),x ∈ g.1.map (·.1)\/x ∈ callsL (B9 l))/\((Cp l g).2=true->g.2=true/\DP (O3 (Cp l g).1) l)
 | [],g=>by rw [Cp,B9,DP];exact ⟨⟨[],by simp⟩,fun x hx => .inl hx,fun h=>⟨h,trivial⟩⟩
 | y::r,g=>by
  obtain ⟨⟨H1,a1⟩,a2,a3⟩:=SD y g
  obtain ⟨⟨H2,b1⟩,b2,b3⟩:=FU r (genE y g)
  have hc:callsL (allE y++B9 r)=callsL (allE y)++callsL (B9 r):=by unfold callsL;rw [List.filter_append,List.map_append]
  rw [Cp,B9,DP,hc]
  refine ⟨⟨H1++H2,by rw [b1,a1,List.append_assoc]⟩,fun x hx => ?_,fun hh => ?_⟩
  ·rcases b2 x hx with h | h
   ·rcases a2 x h with h | h
    ·exact .inl h
    ·exact .inr (List.mem_append_left _ h)
   ·exact .inr (List.mem_append_right _ h)
  ·obtain ⟨c1,c2⟩:=b3 hh
   obtain ⟨d1,d2⟩:=a3 c1
   exact ⟨d1,by rw [b1];exact Rq H2 y d2,c2⟩
end
theorem ML : ∀ (l:List FMeth) (g:GenT),(∃ H,(metG l g).1=g.1++H)/\(∀ x ∈ (metG l g).1.map (·.1),x ∈ g.1.map (·.1)\/x ∈ l.map (·.name))/\((metG l g).2=true->g.2=true /\ ∀ m ∈ l,Told (metG l g).1 m.name m.params.length)
 | [],g=>⟨⟨[],by simp [metG]⟩,fun x hx => .inl hx,fun h=>⟨h,fun m hm=>by cases hm⟩⟩
 | y::r,g=>by
  obtain ⟨⟨H1,a1⟩,a2,a3⟩:=Mx y.name y.params.length g
  obtain ⟨⟨H2,b1⟩,b2,b3⟩:=ML r (seeG y.name y.params.length g)
  rw [metG]
  refine ⟨⟨H1++H2,by rw [b1,a1,List.append_assoc]⟩,fun x hx => ?_,fun hh => ?_⟩
  ·rcases b2 x hx with h | h
   ·rcases a2 x h with h | h
    ·exact .inl h
    ·exact .inr (by simp [h])
   ·exact .inr (by rw [List.map_cons];exact List.mem_cons_of_mem _ h)
  ·obtain ⟨c1,c2⟩:=b3 hh
   obtain ⟨d1,d2⟩:=a3 c1
   refine ⟨d1,fun m hm => ?_⟩
   rcases List.mem_cons.1 hm with rfl | hm
   ·rw [b1];exact Ib d2
   ·exact c2 m hm
def OkA (G:List (Str × Int)) (a:List Int) (i:Nat):Prop := ∃ h:i < G.length,a[i]? = some (G[i].2)
theorem RM {G:List (Str × Int)} {gm:List (Str × Int)} (hg : ∀ s,hasM s G=true->getM 0 s gm=idxG s (G.map (·.1)) 0) {a:List Int} {s:Str} {n:Int} (hl:a.length=G.length) (ht:Told G s n) :
  OkA G (a.set (getM 0 s gm).toNat n) (getM 0 s gm).toNat /\ ∀ i,OkA G a i->OkA G (a.set (getM 0 s gm).toNat n) i:=by
 obtain ⟨h1,h2⟩:=ht
 obtain ⟨j,hj,e1,e2⟩:=LR s G 0 h1
 have e3:(getM 0 s gm).toNat=j:=by rw [hg s h1,e1];omega
 rw [e3]
 have key:OkA G (a.set j n) j:=⟨hj,by rw [List.getElem?_set];simp [hl,hj,e2,h2]⟩
 refine ⟨key,fun i ⟨hi,hh⟩ => ?_⟩
 by_cases e:j=i
 ·rw [<- e];exact key
 ·exact ⟨hi,by rw [List.getElem?_set,if_neg e];exact hh⟩
section
variable {G gm:List (Str × Int)} (hg : ∀ s,hasM s G=true->getM 0 s gm=idxG s (G.map (·.1)) 0)
include hg
mutual
theorem OI : ∀ (e:FExp) (a:List Int),a.length=G.length->AllX (O3 G) e->(∀ i,OkA G a i->OkA G (argE gm e a) i) /\ ∀ s ∈ callsL (allE e),OkA G (argE gm e a) (getM 0 s gm).toNat
 | .mk o n t k,a,hl,h=>by
  rw [AllX] at h
  rw [argE,allE]
  by_cases h5:o=5
  ·rw [if_pos h5]
   obtain ⟨s1,s2⟩:=RM hg hl (h.1 h5)
   obtain ⟨b1,b2⟩:=Me k (a.set (getM 0 t gm).toNat k.length) (by rw [List.length_set];exact hl) h.2
   have hc:callsL (FExp.mk o n t k::B9 k)=t::callsL (B9 k):=by unfold callsL;rw [List.filter_cons,if_pos (show decide ((FExp.mk o n t k).op=5)=true from decide_eq_true h5)];rfl
   rw [hc]
   refine ⟨fun i hi=>b1 i (s2 i hi),fun s hs => ?_⟩
   rcases List.mem_cons.1 hs with rfl | hs
   ·exact b1 _ s1
   ·exact b2 s hs
  ·rw [if_neg h5]
   have hc:callsL (FExp.mk o n t k::B9 k)=callsL (B9 k):=by unfold callsL;rw [List.filter_cons,if_neg (show ¬ decide ((FExp.mk o n t k).op=5)=true from fun h=>h5 (of_decide_eq_true h))]
   rw [hc]
   exact Me k a hl h.2
theorem Me : ∀ (l:List FExp) (a:List Int),a.length=G.length->DP (O3 G) l->(∀ i,OkA G a i->OkA G (Ez gm l a) i) /\ ∀ s ∈ callsL (B9 l),OkA G (Ez gm l a) (getM 0 s gm).toNat
 | [],a,hl,h=>by rw [Ez,B9];exact ⟨fun _ h=>h,fun s hs=>by cases hs⟩
 | x::r,a,hl,h=>by
  rw [DP] at h
  obtain ⟨a1,a2⟩:=OI x a hl h.1
  obtain ⟨b1,b2⟩:=Me r (argE gm x a) (by rw [D2];exact hl) h.2
  have hc:callsL (allE x++B9 r)=callsL (allE x)++callsL (B9 r):=by unfold callsL;rw [List.filter_append,List.map_append]
  rw [Ez,B9,hc]
  refine ⟨fun i hi=>b1 i (a1 i hi),fun s hs => ?_⟩
  rcases List.mem_append.1 hs with hs | hs
  ·exact b1 _ (a2 s hs)
  ·exact b2 s hs
end
theorem UN : ∀ (l:List FMeth) (a:List Int),a.length=G.length->(∀ m ∈ l,Told G m.name m.params.length/\AllX (O3 G) m.body)->(∀ i,OkA G a i->OkA G (argM gm l a) i) /\ ∀ m ∈ l,OkA G (argM gm l a) (getM 0 m.name gm).toNat /\ ∀ s ∈ callsL (allE m.body),OkA G (argM gm l a) (getM 0 s gm).toNat
 | [],a,hl,h=>by rw [argM];exact ⟨fun _ h=>h,fun m hm=>by cases hm⟩
 | x::r,a,hl,h=>by
  obtain ⟨t1,t2⟩:=h x (by simp)
  obtain ⟨s1,s2⟩:=RM hg hl t1
  obtain ⟨a1,a2⟩:=OI hg x.body (a.set (getM 0 x.name gm).toNat x.params.length) (by rw [List.length_set];exact hl) t2
  obtain ⟨b1,b2⟩:=UN r (argE gm x.body (a.set (getM 0 x.name gm).toNat x.params.length)) (by rw [D2,List.length_set];exact hl) fun m hm=>h m (by simp [hm])
  rw [argM]
  refine ⟨fun i hi=>b1 i (a1 i (s2 i hi)),fun m hm => ?_⟩
  rcases List.mem_cons.1 hm with rfl | hm
  ·exact ⟨b1 _ (a1 _ s1),fun s hs=>b1 _ (a2 s hs)⟩
  ·exact b2 m hm
end
theorem Hk : ∀ (l:List FMeth) (e:FExp) (s:Str),s ∈ callsL (B9 (l.map (·.body)++[e]))->(∃ m ∈ l,s ∈ callsL (allE m.body))\/s ∈ callsL (allE e)
 | [],e,s,h=>by
  rw [List.map_nil,List.nil_append,B9,B9,List.append_nil] at h
  exact .inr h
 | m::r,e,s,h=>by
  rw [List.map_cons,List.cons_append,B9] at h
  have hc:callsL (allE m.body++B9 (r.map (·.body)++[e]))=callsL (allE m.body)++callsL (B9 (r.map (·.body)++[e])):=by unfold callsL;rw [List.filter_append,List.map_append]
  rw [hc] at h
  rcases List.mem_append.1 h with h | h
  ·exact .inl ⟨m,by simp,h⟩
  ·rcases Hk r e s h with ⟨m',h1,h2⟩ | h
   ·exact .inl ⟨m',by simp [h1],h2⟩
   ·exact .inr h
theorem args_R {f:FProg} (hG:(Bu f).2=true):GC (Ay f) f=(Bu f).1.map (·.2):=by
 obtain ⟨g1,g2,g3⟩:=Ds f
 obtain ⟨⟨H1,a1⟩,a2,a3⟩:=ML f.methods ([],true)
 obtain ⟨⟨H2,b1⟩,b2,b3⟩:=FU (Bv f) (metG f.methods ([],true))
 have eG:Cp (Bv f) (metG f.methods ([],true))=Bu f:=rfl
 rw [eG] at b1 b2 b3
 obtain ⟨c1,c2⟩:=b3 hG
 obtain ⟨_,c3⟩:=a3 c1
 have hmem:=K0 _ c2
 generalize hGG:(Bu f).1=G at *
 have hk:G.map (·.1)=gensN f:=by rw [<- hGG];rfl
 have hg : ∀ s,hasM s G=true->getM 0 s (Ay f)=idxG s (G.map (·.1)) 0:=fun s hs=>by
  rw [hk]
  exact Dq s (gensN f) 0 [] g1 (by rw [<- hk];exact (EO _ _).1 hs)
 have hlen:(Ay f).length=G.length:=by rw [Ij, <- hk,List.length_map]
 have hM : ∀ m ∈ f.methods,Told G m.name m.params.length/\AllX (O3 G) m.body:=fun m hm=>⟨by rw [b1];exact Ib (c3 m hm),hmem _ (by unfold Bv;exact List.mem_append_left _ (List.mem_map_of_mem hm))⟩
 obtain ⟨d1,d2⟩:=UN hg f.methods (List.replicate (Ay f).length 0) (by rw [List.length_replicate,hlen]) hM
 have hAl:(argM (Ay f) f.methods (List.replicate (Ay f).length 0)).length=G.length:=by rw [Is,List.length_replicate,hlen]
 obtain ⟨e1,e2⟩:=OI hg f.main _ hAl (hmem f.main (by unfold Bv;simp))
 have hl:(GC (Ay f) f).length=G.length:=by unfold GC;rw [D2];exact hAl
 refine List.ext_getElem? fun i => ?_
 by_cases hi:i < G.length
 ·have hx:(G[i]).1 ∈ G.map (·.1):=List.mem_map_of_mem (List.getElem_mem hi)
  have hok:OkA G (GC (Ay f) f) (getM 0 (G[i]).1 (Ay f)).toNat:=by
   unfold GC
   rcases b2 _ hx with h | h
   ·rcases a2 _ h with h | h
    ·cases h
    ·obtain ⟨m,h1,h2⟩:=List.mem_map.1 h
     rw [<- h2]
     exact e1 _ (d2 m h1).1
   ·rcases Hk f.methods f.main _ h with ⟨m,h1,h2⟩ | h
    ·exact e1 _ ((d2 m h1).2 _ h2)
    ·exact e2 _ h
  have hnd:(G.map (·.1)).Nodup:=by rw [hk];exact g1
  have hix:(getM 0 (G[i]).1 (Ay f)).toNat=i:=by
   rw [hg _ ((EO _ _).2 hx)]
   have hs:G.map (·.1)=(G.take i).map (·.1)++(G[i]).1::(G.drop (i+1)).map (·.1):=by
    rw [<- List.map_cons, <- List.map_append];simp
   rw [hs] at hnd ⊢
   rw [LS _ _ _ 0 (fun hm=>by
    rw [List.nodup_append] at hnd
    exact hnd.2.2 _ hm _ (by simp) rfl)]
   rw [List.length_map,List.length_take];omega
  rw [hix] at hok
  obtain ⟨_,h⟩:=hok
  rw [h,List.getElem?_map,List.getElem?_eq_getElem hi];rfl
 ·rw [List.getElem?_eq_none (by omega),List.getElem?_eq_none (by rw [List.length_map];omega)]
theorem W1 {f:FProg} (hf:F7 f=true):NT f=Af f:=by
 have h:=Wq hf
 obtain ⟨m1,m2⟩:=Wv h f.methods 0 fun m hm=>hm
 have hC:=NX h f.classes [] rfl
 have hA:=args_R h.gen
 obtain ⟨g1,g2,g3⟩:=Ds f
 have hE:=fun k=>PT h f.main 1 (fun _=>0) [] k ((Iq f.main 1 120 (by omega)).1.1 h.mainC).1 (OX h.mainS) g3 (fun y=>rfl)
 unfold NT Af
 rw [<- m1, <- m2, <- hA, <- hE]
 have hC:Gi f f.classes 0=f.classes.map (GB (Bd f) (Bn f)):=hC
 rw [hC];rfl
end Go.DL
namespace Go.DL
open Go.Proofs.Tryz
open Go Go.Proofs
set_option maxHeartbeats 8000000
def F5 (g:List (List Int)):Nat->Nat->Bool
 | _,0=>true
 | i,n+1=>decide (linE g ((i:Int)+3)=0) && F5 g (i+1) n
def graphB (p:BProg):List (List Int):=p.classes.map (·.parents)
def DO (f:FProg):Int :=
 if (Bw f).isSome=true then (if F5 (graphB (Af f)) 0 (graphB (Af f)).length=true then (if (Af f).methods.all (fun m=>decide (m.fact.size<=24))=true then 0 else 3) else 7) else 2
def progZ:BProg:=⟨[],0,[],[],[],0⟩
def Dc (f:FProg):BProg:=if DO f=0 then Af f else progZ
mutual
theorem NV (cm sm:List (Str × Int)) (env:Str->Int) : ∀ x:FFact,(bndF cm sm env x).size<=x.wt
 | .mk o s p c n k=>by
  have hw:(FFact.mk o s p c n k).wt=1+s.length+wtS p+c.length+wtL FFact.wt k:=FFact.wt_eq _
  have:=Li cm sm env k
  rw [bndF,Fact.size];omega
theorem Li (cm sm:List (Str × Int)) (env:Str->Int) : ∀ l:List FFact,Fact.sizes (Hm cm sm env l)<=wtL FFact.wt l
 | []=>by rw [Hm,Fact.sizes,wtL];omega
 | x::r=>by
  have h1:=NV cm sm env x
  have h2:=Li cm sm env r
  rw [Hm,Fact.sizes,wtL];omega
end
theorem JT (cm sm gm:List (Str × Int)) : ∀ (l:List FMeth) (k:Nat),(bndMM cm sm gm l k).length=l.length
 | [],_=>rfl
 | m::r,k=>by rw [bndMM,List.length_cons,JT cm sm gm r,List.length_cons]
theorem HO (cm sm gm:List (Str × Int)) : ∀ (l:List FMeth) (k:Nat), ∀ x ∈ bndMM cm sm gm l k,x.fact.size<=wtL FMeth.wt l
 | [],_,x,hx=>by simp [bndMM] at hx
 | m::r,k,x,hx=>by
  rw [bndMM] at hx
  rw [wtL]
  rcases List.mem_cons.1 hx with rfl | hx
  ·have:=NV cm sm (Eh m) m.fact
   unfold FMeth.wt;simp only;omega
  ·have:=HO cm sm gm r _ x hx;omega
theorem Im (f:FProg) (V:Sig) (hw:f.wt<=10000000):DCall prog 17 [.agg (B3 f)] V (rS (.tup [.agg (AC (Dc f)),dI (DO f)]) V):=by
 obtain ⟨p1,p2,p3,p4,p5⟩:=f.wt_le
 have hzero:WkD (.tup [.agg [.nils,dI 0, .nils, .nils, .nils,dI 0],dI (DO f)]) (.tup [.agg (AC progZ),dI (DO f)]) :=
  Gl (show WkL _ _ from ⟨E2 (show WkL _ (AC progZ) from ⟨Al _ (.inl rfl),A9 _,Al _ (.inl rfl),Al _ (.inl rfl),Al _ (.inl rfl),A9 _,trivial⟩),A9 _,trivial⟩)
 refine en func17 ntmps17 ?_
 try refine gz ?_ [] [2]
 refine newV (fun i2 hi2 => ?_)
 cases hs:(Bw f).isSome with
 | false =>
  have hE:DO f=2:=by unfold DO;rw [hs];rfl
  have hP:Dc f=progZ:=by unfold Dc;rw [hE];rfl
  rw [hP]
  rw [hE] at hzero ⊢
  try refine gf hs ?_ [] [2]
  refine finC (S':=V) ⟨rfl,rfl⟩ (hw := ?_)
  exact hzero
 | true =>
  have hE0:DO f=if F5 (graphB (Af f)) 0 (graphB (Af f)).length=true then (if (Af f).methods.all (fun m=>decide (m.fact.size<=24))=true then 0 else 3) else 7:=by unfold DO;rw [hs];rfl
  have hcls:(Af f).classes=f.classes.map (GB (Bd f) (Bn f)):=rfl
  have hcl:(Af f).classes.length<=10000000:=by rw [hcls,List.length_map];omega
  have hcp : ∀ c ∈ (Af f).classes,c.parents.length<=1073741824:=fun c hc=>by
   rw [hcls] at hc
   obtain ⟨d,hd,rfl⟩:=List.mem_map.1 hc
   obtain ⟨k,hk,rfl⟩:=List.getElem_of_mem hd
   have:=p4 k hk
   obtain ⟨_,y2,_⟩:=(f.classes[k]).wt_le
   have:=AZ (f.classes[k]).parents
   unfold GB;simp only [List.length_map];omega
  have hml:(Af f).methods.length<=10000000:=by show (bndMM _ _ _ _ _).length<=_;rw [JT];omega
  have hms : ∀ x ∈ (Af f).methods,x.fact.size<=1073741824:=fun x hx=>by have:=HO _ _ _ _ _ x hx;unfold FProg.wt at hw;omega
  have hgl:(graphB (Af f)).length<=10000000:=by unfold graphB;rw [List.length_map];exact hcl
  have hgp : ∀ x ∈ graphB (Af f),x.length<=1073741824:=fun x hx=>by obtain ⟨c,hc,rfl⟩:=List.mem_map.1 hx;exact hcp c hc
  have hgr:(Af f).classes.map (·.parents)=graphB (Af f):=rfl
  have hgc:(Af f).classes.length=(graphB (Af f)).length:=by unfold graphB;rw [List.length_map]
  try refine gf (gi hs (gi hgr hgc)) ?_ [] [2]
  refine Bz [2,4,5,10,20,35,36,37,38,39,40,41,42,43,44,45,46,47,48] (fun (k:Nat)=>k<=(graphB (Af f)).length/\F5 (graphB (Af f)) 0 (graphB (Af f)).length=F5 (graphB (Af f)) k ((graphB (Af f)).length-k)) (fun k=>[(21,dI k)]) (fun _=>V.set i2 (.cells [.nils,dI 0, .nils, .nils, .nils,dI 0])) (fun k=>(graphB (Af f)).length-k) (0) (by simp) (fun k hI => ?_)
  obtain ⟨hk,hL⟩:=hI
  by_cases hkl:k < (graphB (Af f)).length
  ·rw [show (graphB (Af f)).length-k=((graphB (Af f)).length-(k+1))+1 by omega,F5] at hL
   by_cases h0:linE (graphB (Af f)) ((k:Int)+3)=0
   ·rw [decide_eq_true h0,Bool.true_and] at hL
    try refine gf h0 ?_ [] [2]
    exact ⟨k+1,⟨by omega,hL⟩,td1,wkR⟩
   ·rw [decide_eq_false h0,Bool.false_and] at hL
    have hE:DO f=7:=by rw [hE0,hL];rfl
    have hP:Dc f=progZ:=by unfold Dc;rw [hE];rfl
    rw [hP]
    rw [hE] at hzero ⊢
    try refine gf h0 ?_ [] [2]
    refine finC (S':=V) ⟨rfl,rfl⟩ (hw := ?_)
    exact hzero
  ·have hke:k=(graphB (Af f)).length:=by omega
   rw [hke,Nat.sub_self,F5] at hL
   rw [if_pos hL] at hE0
   try refine gz ?_ [] [2]
   refine Bz [2,4,36,37,48] (fun (j:Nat)=>j<=(Af f).methods.length/\(Af f).methods.all (fun m=>decide (m.fact.size<=24))=((Af f).methods.drop j).all (fun m=>decide (m.fact.size<=24))) (fun j=>[(38,dI j)]) (fun _=>V.set i2 (.cells [.nils,dI 0, .nils, .nils, .nils,dI 0])) (fun j=>(Af f).methods.length-j) (0) (by simp) (fun j hI => ?_)
   obtain ⟨hj,hA⟩:=hI
   by_cases hjl:j < (Af f).methods.length
   ·rw [A3 hjl,List.all_cons] at hA
    have hmj:=hms _ (List.getElem_mem hjl)
    by_cases h24:((Af f).methods[j]).fact.size<=24
    ·rw [decide_eq_true h24,Bool.true_and] at hA
     try refine gz ?_ [] [2]
     exact ⟨j+1,⟨by omega,hA⟩,td1,wkR⟩
    ·rw [decide_eq_false h24,Bool.false_and] at hA
     have hE:DO f=3:=by rw [hE0,if_neg (by rw [hA];simp)]
     have hP:Dc f=progZ:=by unfold Dc;rw [hE];rfl
     rw [hP]
     rw [hE] at hzero ⊢
     try refine gz ?_ [] [2]
     refine finC (S':=V) ⟨rfl,rfl⟩ (hw := ?_)
     exact hzero
   ·rw [A2 hjl] at hA
    have hE:DO f=0:=by rw [hE0,if_pos (by rw [hA];rfl)]
    have hP:Dc f=Af f:=by unfold Dc;rw [hE];rfl
    rw [hP,hE]
    try refine gz ?_ [] [2]
    exact finC (S':=V) ⟨rfl,rfl⟩
@[reducible,instance] def a17:=fun f V=>ah1 (@Im f V)
theorem Vg {g:List (List Int)} (hg:Ck g=true) {c:Int} (hc:0<=c/\c < 3+g.length):decide (linE g c=0)=decide (0 < (G9 g c).length):=by
 unfold linE
 rw [if_pos ⟨hg,hc⟩]
 by_cases h:G9 g c=[]
 ·rw [if_pos h,h];rfl
 ·rw [if_neg h]
  have:=List.length_pos_iff.2 h
  simp [this]
def EntOK (s:List Int):Prop := ∀ x ∈ s,x = -1\/0<=x
theorem EntOK.set {s:List Int} (h:EntOK s) (n:Nat) {v:Int} (hv:0<=v):EntOK (s.set n v):=fun x hx=>by
 rcases List.mem_or_eq_of_mem_set hx with hx | rfl
 ·exact h x hx
 ·exact .inr hv
mutual
theorem UA : ∀ (f:Fact) (most:Int),((f.size:Int)<=most->f.cnt most=f.size)/\(most < f.size->most < f.cnt most)
 | .mk o a p c n k,most=>by
  have:=PO k most 1
  rw [Fact.cnt,Fact.size]
  omega
theorem PO : ∀ (l:List Fact) (most n:Int),(n+(Fact.sizes l:Int)<=most->Fact.cnts l most n=n+Fact.sizes l)/\(most < n+Fact.sizes l->most < Fact.cnts l most n)
 | [],most,n=>by rw [Fact.cnts,Fact.sizes];omega
 | f::l,most,n=>by
  rw [Fact.cnts,Fact.sizes]
  have h1:=UA f (most-n)
  have h2:=Fact.cnts_le l most (n+f.cnt (most-n))
  have h3:=PO l most (n+f.cnt (most-n))
  split
  ·by_cases hs:(f.size:Int)<=most-n
   ·rw [h1.1 hs] at h2 h3 ⊢
    omega
   ·have:=h1.2 (by omega)
    omega
  ·omega
end
theorem KB (i:Nat) : ∀ (ps seen:List Int),(∀ p ∈ ps,3<=p/\p < 3+i)->ps.Nodup->(∀ p ∈ ps,p ∉ seen)->DH i seen ps=true
 | [],_,_,_,_=>rfl
 | p::r,seen,h,hn,hs=>by
  rw [List.nodup_cons] at hn
  rw [DH,KB i r _ (fun x hx=>h x (by simp [hx])) hn.2 (fun x hx hm => ?_),decide_eq_true (h p (by simp)),decide_eq_false (hs p (by simp))]
  ·rfl
  ·rcases List.mem_append.1 hm with hm | hm
   ·exact hs x (by simp [hx]) hm
   ·rw [List.mem_singleton.1 hm] at hx;exact hn.1 hx
theorem Jr : ∀ (l:List (List Int)) (i:Nat),(∀ (k:Nat) (h:k < l.length),Gx (i+k) l[k]=true)->Cw i l=true
 | [],_,_=>rfl
 | x::r,i,h=>by
  rw [Cw,Jr r (i+1) fun k hk=>by have:=h (k+1) (by simp only [List.length_cons];omega);rw [show i+1+k=i+(k+1) by omega];simpa using this]
  have:=h 0 (by simp)
  simpa using this
theorem JN : ∀ (l:List FClass) (own:List Str),Ch own l=true -> ∀ c ∈ l,c.parents.length<=3/\c.parents.Nodup
 | [],_,_,c,hc=>by cases hc
 | x::r,own,h,c,hc=>by
  rw [Ch] at h
  simp only [Bool.and_eq_true] at h
  rcases List.mem_cons.1 hc with rfl | hc
  ·obtain ⟨⟨⟨a,_⟩,b⟩,_⟩:=h
   rw [Bool.not_eq_true',decide_eq_false_iff_not] at a
   exact ⟨by omega,((HK _ _).1 b).1⟩
  ·exact JN r _ h.2.2 c hc
theorem Ph {s t:Str} : ∀ (l:List Str) (k:Nat),s ∈ l->t ∈ l->idxG s l k=idxG t l k->s=t
 | [],_,h,_,_=>by cases h
 | x::r,k,hs,ht,h=>by
  rw [idxG,idxG] at h
  by_cases e1:x=s
  ·by_cases e2:x=t
   ·rw [<- e1,e2]
   ·rw [if_pos e1,if_neg e2] at h
    have:=(HH t r (k+1) ((List.mem_cons.1 ht).resolve_left fun h=>e2 h.symm)).2
    omega
  ·by_cases e2:x=t
   ·rw [if_neg e1,if_pos e2] at h
    have:=(HH s r (k+1) ((List.mem_cons.1 hs).resolve_left fun h=>e1 h.symm)).2
    omega
   ·rw [if_neg e1,if_neg e2] at h
    exact Ph r (k+1) ((List.mem_cons.1 hs).resolve_left fun h=>e1 h.symm) ((List.mem_cons.1 ht).resolve_left fun h=>e2 h.symm) h
theorem VY {f:FProg} (h:FOK f) {s:Str} (hs:s ∈ ownR f):clsN (ownR f) s=idxG s (ownR f) 0+3:=by
 have hb:=h.ownB s hs
 unfold clsN
 have e1:idxG s lits3 0=if wAny=s then 0 else if wInt=s then 1 else if G6=s then 2 else -1:=rfl
 have h1:wAny ≠ s:=fun e=>by rw [<- e] at hb;exact absurd hb (by decide)
 have h2:wInt ≠ s:=fun e=>by rw [<- e] at hb;exact absurd hb (by decide)
 have h3:G6 ≠ s:=fun e=>by rw [<- e] at hb;exact absurd hb (by decide)
 rw [e1,if_neg h1,if_neg h2,if_neg h3,if_neg (by omega)]
theorem Qj {f:FProg} (hf:F7 f=true):Ck (graphB (Af f))=true:=by
 have h:=Wq hf
 have hr:Ch [] f.classes=true/\f.classes.length<=10:=by
  unfold F7 K8 DN at hf
  simp only [Bool.and_eq_true,Bool.not_eq_true',decide_eq_false_iff_not] at hf
  exact ⟨hf.1.2.1.2.1,by omega⟩
 have hgr:graphB (Af f)=f.classes.map fun c=>c.parents.map fun s=>getM 0 s (Bd f):=by unfold graphB Af;simp only [List.map_map];rfl
 rw [hgr]
 unfold Ck
 rw [Bool.and_eq_true,decide_eq_true_eq,List.length_map]
 refine ⟨by omega,Jr _ 0 fun k hk => ?_⟩
 rw [List.length_map] at hk
 rw [List.getElem_map,Nat.zero_add]
 have hc:f.classes[k] ∈ f.classes:=List.getElem_mem hk
 obtain ⟨g1,g2⟩:=JN _ _ hr.1 _ hc
 have hin : ∀ s ∈ (f.classes[k]).parents,s ∈ ownR f:=h.par _ hc
 have hv : ∀ s ∈ (f.classes[k]).parents,getM 0 s (Bd f)=idxG s (ownR f) 0+3:=fun s hs=>by
  rw [Ir f h.own s (List.mem_append_left _ (hin s hs)),VY h (hin s hs)]
 have hlt : ∀ s ∈ (f.classes[k]).parents,0<=idxG s (ownR f) 0/\idxG s (ownR f) 0 < k:=fun s hs=>by
  have h1:=GA _ _ hr.1 k s (by rw [List.getElem?_eq_getElem hk];exact hs)
  rw [List.nil_append] at h1
  have h3:=(HH s ((f.classes.take k).map (·.name)) 0 h1).2
  have h2:idxG s (ownR f) 0=idxG s ((f.classes.take k).map (·.name)) 0:=by
   unfold ownR
   conv=>lhs;rw [<- List.take_append_drop k f.classes,List.map_append]
   exact LT s _ _ 0 h1
  rw [List.length_map,List.length_take] at h3
  rw [h2];omega
 unfold Gx
 rw [Bool.and_eq_true,decide_eq_true_eq,List.length_map]
 refine ⟨g1,KB k _ _ (fun p hp => ?_) ?_ (fun p hp hm=>by cases hm)⟩
 ·obtain ⟨s,hs,rfl⟩:=List.mem_map.1 hp
  rw [hv s hs]
  have:=hlt s hs
  omega
 ·unfold List.Nodup
  rw [List.pairwise_map]
  refine List.Pairwise.imp_of_mem (fun {a b} ha hb hne he => ?_) g2
  rw [hv a ha,hv b hb] at he
  exact hne (Ph (ownR f) 0 (hin a ha) (hin b hb) (by omega))
theorem Pw (f:FProg) (V:Sig) (hw:f.wt<=10000000):DCall prog 18 [.agg (B3 f)] V (rS (.tup [.agg (AC (Dc f)),dI (DO f)]) V):=by
 obtain ⟨p1,p2,p3,p4,p5⟩:=f.wt_le
 have hzero:WkD (.tup [.agg [.nils,dI 0, .nils, .nils, .nils,dI 0],dI (DO f)]) (.tup [.agg (AC progZ),dI (DO f)]) :=
  Gl (show WkL _ _ from ⟨E2 (show WkL _ (AC progZ) from ⟨Al _ (.inl rfl),A9 _,Al _ (.inl rfl),Al _ (.inl rfl),Al _ (.inl rfl),A9 _,trivial⟩),A9 _,trivial⟩)
 have i52 : ∀ V:Sig,Ans 52 [.agg (B3 f)] V True (.bool (Bw f).isSome):=fun V=>ah0 (by rw [<- RI];exact SR f V (by omega))
 refine en func18 ntmps18 ?_
 refine gz ?_ [] [2]
 refine newV (fun i2 hi2 => ?_)
 cases hs:(Bw f).isSome with
 | false =>
  have hE:DO f=2:=by unfold DO;rw [hs];rfl
  have hP:Dc f=progZ:=by unfold Dc;rw [hE];rfl
  rw [hP]
  rw [hE] at hzero ⊢
  refine gf hs ?_ [] [2]
  refine finC (S':=V) ⟨rfl,rfl⟩ (hw := ?_)
  exact hzero
 | true =>
  have hpr:F7 f=true:=by rw [RI];exact hs
  have hgood:=Qj hpr
  have i53 : ∀ V:Sig,Ans 53 [.agg (B3 f)] V True (.agg (AC (Af f))):=fun V=>ah0 (by rw [<- W1 hpr];exact SQ f V (by omega))
  have hE0:DO f=if F5 (graphB (Af f)) 0 (graphB (Af f)).length=true then (if (Af f).methods.all (fun m=>decide (m.fact.size<=24))=true then 0 else 3) else 7:=by unfold DO;rw [hs];rfl
  have hcls:(Af f).classes=f.classes.map (GB (Bd f) (Bn f)):=rfl
  have hcl:(Af f).classes.length<=10000000:=by rw [hcls,List.length_map];omega
  have hcp : ∀ c ∈ (Af f).classes,c.parents.length<=1073741824:=fun c hc=>by
   rw [hcls] at hc
   obtain ⟨d,hd,rfl⟩:=List.mem_map.1 hc
   obtain ⟨k,hk,rfl⟩:=List.getElem_of_mem hd
   have:=p4 k hk
   obtain ⟨_,y2,_⟩:=(f.classes[k]).wt_le
   have:=AZ (f.classes[k]).parents
   unfold GB;simp only [List.length_map];omega
  have hml:(Af f).methods.length<=10000000:=by show (bndMM _ _ _ _ _).length<=_;rw [JT];omega
  have hms : ∀ x ∈ (Af f).methods,x.fact.size<=1073741824:=fun x hx=>by have:=HO _ _ _ _ _ x hx;unfold FProg.wt at hw;omega
  have hgl:(graphB (Af f)).length<=10000000:=by unfold graphB;rw [List.length_map];exact hcl
  have hgp : ∀ x ∈ graphB (Af f),x.length<=1073741824:=fun x hx=>by obtain ⟨c,hc,rfl⟩:=List.mem_map.1 hx;exact hcp c hc
  have hgr:(Af f).classes.map (·.parents)=graphB (Af f):=rfl
  have hgc:(Af f).classes.length=(graphB (Af f)).length:=by unfold graphB;rw [List.length_map]
  refine gf (gi hs (gi hgr hgc)) ?_ [] [2]
  refine Bz [2,4,5,9,34,35,36,37,38,39,40,41,42,43,44,45,46,47,48,49,50] (fun (k:Nat)=>k<=(graphB (Af f)).length/\F5 (graphB (Af f)) 0 (graphB (Af f)).length=F5 (graphB (Af f)) k ((graphB (Af f)).length-k)) (fun k=>[(6,dI k)]) (fun _=>V.set i2 (.cells [.nils,dI 0, .nils, .nils, .nils,dI 0])) (fun k=>(graphB (Af f)).length-k) (0) (by simp) (fun k hI => ?_)
  obtain ⟨hk,hL⟩:=hI
  by_cases hkl:k < (graphB (Af f)).length
  ·rw [show (graphB (Af f)).length-k=((graphB (Af f)).length-(k+1))+1 by omega,F5] at hL
   have i33 : ∀ V:Sig,Ans 33 [.slice (cII (graphB (Af f))) .no,dI ((k:Int)+3)] V True (.tup [sl (cI (G9 (graphB (Af f)) ((k:Int)+3))), .bool (decide (linE (graphB (Af f)) ((k:Int)+3)=0))]):=fun V=>ah0 (by rw [Vg hgood (by omega)];exact VI _ _ _ V hgood (by omega) hgp)
   by_cases h0:linE (graphB (Af f)) ((k:Int)+3)=0
   ·rw [decide_eq_true h0,Bool.true_and] at hL
    refine gf h0 ?_ [] [2]
    exact ⟨k+1,⟨by omega,hL⟩,td1,wkR⟩
   ·rw [decide_eq_false h0,Bool.false_and] at hL
    have hE:DO f=7:=by rw [hE0,hL];rfl
    have hP:Dc f=progZ:=by unfold Dc;rw [hE];rfl
    rw [hP]
    rw [hE] at hzero ⊢
    refine gf h0 ?_ [] [2]
    refine finC (S':=V) ⟨rfl,rfl⟩ (hw := ?_)
    exact hzero
  ·have hke:k=(graphB (Af f)).length:=by omega
   rw [hke,Nat.sub_self,F5] at hL
   rw [if_pos hL] at hE0
   refine gz ?_ [] [2]
   refine Bz [2,4,50] (fun (j:Nat)=>j<=(Af f).methods.length/\(Af f).methods.all (fun m=>decide (m.fact.size<=24))=((Af f).methods.drop j).all (fun m=>decide (m.fact.size<=24))) (fun j=>[(9,dI j)]) (fun _=>V.set i2 (.cells [.nils,dI 0, .nils, .nils, .nils,dI 0])) (fun j=>(Af f).methods.length-j) (0) (by simp) (fun j hI => ?_)
   obtain ⟨hj,hA⟩:=hI
   by_cases hjl:j < (Af f).methods.length
   ·rw [A3 hjl,List.all_cons] at hA
    have hmj:=hms _ (List.getElem_mem hjl)
    obtain ⟨hc1,hc2⟩:=UA ((Af f).methods[j]).fact 24
    by_cases h24:((Af f).methods[j]).fact.size<=24
    ·rw [decide_eq_true h24,Bool.true_and] at hA
     have hc:=hc1 (by omega)
     refine gz ?_ [] [2]
     exact ⟨j+1,⟨by omega,hA⟩,td1,wkR⟩
    ·rw [decide_eq_false h24,Bool.false_and] at hA
     have hc:=hc2 (by omega)
     have hE:DO f=3:=by rw [hE0,if_neg (by rw [hA];simp)]
     have hP:Dc f=progZ:=by unfold Dc;rw [hE];rfl
     rw [hP]
     rw [hE] at hzero ⊢
     refine gz ?_ [] [2]
     refine finC (S':=V) ⟨rfl,rfl⟩ (hw := ?_)
     exact hzero
   ·rw [A2 hjl] at hA
    have hE:DO f=0:=by rw [hE0,if_pos (by rw [hA];rfl)]
    have hP:Dc f=Af f:=by unfold Dc;rw [hE];rfl
    rw [hP,hE]
    refine gz ?_ [] [2]
    exact finC (S':=V) ⟨rfl,rfl⟩
@[reducible,instance] def a18:=fun f V=>ah1 (@Pw f V)
def setL:List Str->List Str->List Str
 | [],a=>a
 | s::r,a=>setL r (ins s a)
theorem Qw (l:List Str) (o:Own) (V:Sig) (hl:l.length<=1073741824):DCall prog 254 [.slice (cS l) o] V fun x S' => ∃ im,V im=none/\x = .ret (.map im)/\S'=V.set im (.map (eSS (setL l []))):=by
 refine en func254 ntmps254 ?_
 refine gz ?_
 refine LE (fun im him => ?_)
 refine gz ?_
 refine AQ [2,3,7,8,16] (fun (k:Nat) (m:List Str)=>k<=l.length/\setL l []=setL (l.drop k) m) (fun k _=>[(9,dI k)]) (fun _ m=>V.set im (.map (eSS m))) (fun k _=>l.length-k) (0) ([]) (by simp) (fun k m hI => ?_)
 obtain ⟨hk,hR⟩:=hI
 by_cases hkl:k < l.length
 ·rw [A3 hkl,setL] at hR
  refine gz ?_
  exact ⟨k+1,ins l[k] m,⟨by omega,hR⟩,td1,wkR⟩
 ·rw [A2 hkl,setL] at hR
  refine gz ?_
  exact fin1 (S':=V.set im (.map (eSS m))) ⟨im,him,rfl,by rw [hR]⟩
def DY (f:Nat->Option Str):Nat->Nat->Option Str
 | 0,_=>none
 | k+1,j=>match f j with
  | some w=>some w
  | none=>DY f k (j+1)
theorem DJ (f:Nat->Option Str) (k j:Nat):DY f (k+1) j=match f j with
 | some w=>some w
 | none=>DY f k (j+1):=rfl
def Dp (tk:List Str):Nat->Str->Option Str
 | 0,s=>if s ∈ kwds\/s ∈ tk then none else some s
 | n+1,s=>DY (fun c=>Dp tk n (s++[UInt8.ofNat c])) 26 97
def Ju (tk:List Str):Option Str:=DY (fun k=>Dp tk k []) 8 1
def DoneY (l i2:Nat) (LO:DObj) (w:Str) (V S':Sig):Prop:=S' l=some (VW .ret LO)/\S' i2=some (.cells [.str w]) /\ ∀ j o,V j=some o->j ≠ l->j ≠ i2->S' j=some o
def YR (tk:List Str) (l i2:Nat) (LO:DObj) (w:Str) (V:Sig) (x:DE) (S':Sig):Prop :=
 if w ∈ tk then x = .ret (.bool true)/\Sub V S' else x = .ret (.bool false)/\DoneY l i2 LO w V S'
def GR (o:Option Str) (l i2:Nat) (LO:DObj) (V:Sig) (x:DE) (S':Sig):Prop:=match o with
 | none=>x = .ret (.bool true)/\Sub V S'
 | some w=>x = .ret (.bool false)/\DoneY l i2 LO w V S'
theorem DoneY.sub {l i2:Nat} {LO:DObj} {w:Str} {V S1 S2:Sig} (h:Sub V S1) (k:DoneY l i2 LO w S1 S2):DoneY l i2 LO w V S2:=⟨k.1,k.2.1,fun j o hj h1 h2=>k.2.2 j o (h j o hj) h1 h2⟩
theorem SZ (tk:List Str) (l i2:Nat) (LO:DObj) (Sb:Sig) (hl:Sb l=some LO) (hLO:isLD LO=true) (h2:Sb i2=some (.cells [.str []])) (hy : ∀ (w:Str) V,Sub Sb V->w.length<=8->DYield prog l [.str w] V (YR tk l i2 LO w V)) (is ik i4:Nat) :
  ∀ (n:Nat) (s:Str) (o:Own) (V:Sig),s.length+n<=8->Sub Sb V->V is=some (.cells [dI ((s.length+n:Nat):Int)])->V ik=some (.map (eSS kwds))->V i4=some (.cells [.func (.func 306) [] [.ptr is 0, .cptr [.map ik] 0, .cptr [.yld l] 0, .ptr i4 0]]) ->
   DCall prog 306 [.slice (cB8 s) o, .ptr is 0, .cptr [.map ik] 0, .cptr [.yld l] 0, .ptr i4 0] V (GR (Dp tk n s) l i2 LO V):=by
 intro n
 induction n with
 | zero =>
  intro s o V hn hS o1 o2 o3
  have e0:((s.length+0:Nat):Int)=s.length:=by omega
  rw [e0] at o1
  refine en func306 ntmps306 ?_
  try refine gf (gi o1 o2) ?_ o306
  refine strR s ?_
  by_cases hk:s ∈ kwds
  ·have hg:Dp tk 0 s=none:=by rw [Dp,if_pos (.inl hk)]
   rw [hg]
   try refine gf (gi o2 hk) ?_ o306
   refine skpV ?_
   try refine gz ?_ o306
   exact fin1 (S':=V) ⟨rfl,Sub.refl _⟩
  ·try refine gf (gi o2 hk) ?_ o306
   refine strR s ?_
   try refine gz ?_ o306
   refine yldWG (hy s V hS (by omega)) (fun e S' hr => ?_) (fun e S' hr => ?_)
   ·by_cases ht:s ∈ tk
    ·have hg:Dp tk 0 s=none:=by rw [Dp,if_pos (.inr ht)]
     unfold YR at hr
     rw [if_pos ht] at hr
     obtain ⟨e1,hr⟩:=hr
     cases e1
     rw [hg]
     try refine gz ?_ o306
     exact fin1 (S':=S') ⟨rfl,hr⟩
    ·have hg:Dp tk 0 s=some s:=by rw [Dp,if_neg fun h=>h.elim hk ht]
     unfold YR at hr
     rw [if_neg ht] at hr
     obtain ⟨e1,hr⟩:=hr
     cases e1
     rw [hg]
     try refine gz ?_ o306
     exact fin1 (S':=S') ⟨rfl,hr⟩
   ·unfold YR at hr
    split at hr<;>cases hr.1
 | succ n ih =>
  intro s o V hn hS o1 o2 o3
  rw [Dp]
  have nl : ∀ {j x},Sb j=some x->Sb j=some x:=fun h=>h
  have hcl : ∀ {j f c1 c2 V},V j=some (.cells [.func f c1 c2])->Sub Sb V->j ≠ l/\j ≠ i2:=fun {j f c1 c2 V} h hS=>⟨fun e=>(by rw [e,hS _ _ hl] at h;cases h;cases hLO),fun e=>(by rw [e,hS _ _ h2] at h;cases h)⟩
  refine en func306 ntmps306 ?_
  try refine gf o1 ?_ o306
  refine AQ [0,4] (fun (j:Nat) (S1:Sig)=>j<=26/\Sub V S1/\DY (fun c=>Dp tk n (s++[UInt8.ofNat c])) 26 97=DY (fun c=>Dp tk n (s++[UInt8.ofNat c])) (26-j) (97+j)) (fun j _=>[(7, .int .u8 ((97+j:Nat):Int))]) (fun _ S1=>S1) (fun j _=>26-j) (0) (V) (by exact ⟨by omega,Sub.refl _,rfl⟩) (fun j S1 hI => ?_)
  obtain ⟨hj,hS1,hR⟩:=hI
  have q1:=hS1 _ _ o1
  have q2:=hS1 _ _ o2
  have q3:=hS1 _ _ o3
  obtain ⟨r1,r2⟩:=hcl q3 (hS.trans hS1)
  by_cases hjl:j < 26
  ·rw [show 26-j=(26-(j+1))+1 by omega,DJ _ (26-(j+1))] at hR
   have u3:(S1.out (fun x=>x=l\/x=i2)) i4=_:=C8 q3 (fun h=>h.elim r1 r2)
   have hout:Sub (S1.out (fun x=>x=l\/x=i2)) S1:=By _ _
   try refine gf q3 ?_
   refine mixAt (id:=6) [0,1,3,4,2,5,6,7] [2,5,6] (S1.out (fun x=>x=l\/x=i2)) (By _ _) ?_
   try refine gf u3 ?_ o306
   refine Wi (fun a ha => ?_) (hlen:=cB8_mem _)
   try refine gf u3 ?_ o306
   have hb:(UInt8.ofNat (97+j)).toNat=97+j:=by rw [UInt8.toNat_ofNat'];omega
   have hcb:cB8 (s++[UInt8.ofNat (97+j)])=cB8 s++[[D.int .u8 (97+(j:Int))]]:=by unfold cB8;rw [List.map_append,List.map_cons,List.map_nil,hb];simp
   have hS2:Sub V (S1.set a (.tail (tab 5).size ((cB8 s).length+[[D.int IntKind.u8 (97+(j:Int))]].length))):=hS1.trans ((Sub.refl _).set ha)
   have hlen:((s++[UInt8.ofNat (97+j)]).length+n:Nat)=s.length+(n+1):=by simp;omega
   have hih:=ih (s++[UInt8.ofNat (97+j)]) (.tag a) _ (by omega) (hS.trans hS2) (by rw [hlen];exact hS2 _ _ o1) (hS2 _ _ o2) (hS2 _ _ o3)
   rw [hcb] at hih
   have hs0:Sub (S1.out (fun x=>x=l\/x=i2)) (S1.set a (.tail (tab 5).size ((cB8 s).length+[[D.int IntKind.u8 (97+(j:Int))]].length))):=hout.trans ((Sub.refl _).set ha)
   have hwr:IntKind.wrap .u8 (97+(j:Int)+1)=97+(j:Int)+1:=by rw [IntKind.wrap_u8];omega
   refine Dn hih (fun d S' hr => ?_) (fun d S' hr=>by unfold GR at hr;split at hr<;>cases hr.1)
   cases hg:Dp tk n (s++[UInt8.ofNat (97+j)]) with
   | none =>
    rw [hg] at hr
    obtain ⟨e1,hr⟩:=hr
    cases e1
    rw [hg] at hR
    refine ⟨hs0.trans hr, ?_⟩
    try refine gf hwr ?_ o306
    exact ⟨j+1,S',⟨by omega,hS2.trans hr,hR⟩,td1,wkR⟩
   | some w =>
    rw [hg] at hr
    obtain ⟨e1,hr⟩:=hr
    cases e1
    rw [hg] at hR
    refine ⟨fun q x hq => ?_, ?_⟩
    ·obtain ⟨h1,h2⟩:=C9 hq
     exact hr.2.2 _ _ (hs0 _ _ hq) (fun e=>h2 (.inl e)) (fun e=>h2 (.inr e))
    ·rw [hR]
     try refine gz ?_ o306
     exact fin1 (S':=S') ⟨rfl,hr.sub hS2⟩
  ·have h0 : ∀ f:Nat->Option Str,DY f 0 (97+j)=none:=fun _=>rfl
   rw [show 26-j=0 by omega,h0] at hR
   rw [hR]
   try refine gz ?_ o306
   exact fin1 (S':=S1) ⟨rfl,hS1⟩
end Go.DL
