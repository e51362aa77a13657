/- Part of a proof in texts M01 on: a layer of pure values over the fenced walk, the walks of the functions, the plain laws. -/
import Derived.Test.YtlfimpogphmbdaaGreatM31
import Derived.Test.YtlfimpogphmbdaaGreatM29
set_option linter.all false
namespace Go.DL
open Go.Proofs.Tryz
open Go Go.Proofs
inductive Up (g:List (List Int)):Nat->Nat->Prop
 | refl (c:Nat):Up g c c
 | step {c k:Nat} (x:Nat) (hx:(x:Int) ∈ parentsF g c) (hu:Up g x k):Up g c k
theorem Up.trans {g:List (List Int)} {a b c:Nat} (h:Up g a b) (h2:Up g b c):Up g a c:=by
 induction h with
 | refl=>exact h2
 | step x hx _ ih=>exact .step x hx (ih h2)
theorem Uy {g:List (List Int)} (hg:AT g=true) : ∀ (j:Nat) (bs:List Bool) (k:Nat),bs.length=3+g.length->j<=g.length->((upD g j bs).getD k false=true ↔ ∃ c,bs.getD c false=true/\(c=k\/(c<=j+2/\Up g c k)))
 | 0,bs,k,_,_=>by
  rw [upD]
  constructor
  ·exact fun h=>⟨k,h, .inl rfl⟩
  ·rintro ⟨c,h,rfl | ⟨hc,hu⟩⟩
   ·exact h
   ·cases hu with
    | refl=>exact h
    | step x hx _=>unfold parentsF at hx;rw [if_pos (by omega)] at hx;cases hx
 | j+1,bs,k,hl,hj=>by
  have hp:=AK hg (j+3)
  rw [upD,Uy hg j _ k (by rw [Cs];exact hl) (by omega)]
  have hget:=fun c=>F4 (j+3) (parentsF g (j+3:Nat)) bs c fun x hx=>by have:=hp.2 x hx;omega
  constructor
  ·rintro ⟨c,hc,h⟩
   rw [hget,Bool.or_eq_true,Bool.and_eq_true,decide_eq_true_eq] at hc
   rcases hc with hc | ⟨hc,hm⟩
   ·exact ⟨c,hc,h.imp id fun h=>⟨by omega,h.2⟩⟩
   ·refine ⟨j+3,hc, .inr ⟨by omega, .step c hm ?_⟩⟩
    rcases h with rfl | h
    ·exact .refl _
    ·exact h.2
  ·rintro ⟨c,hc,h⟩
   rcases h with rfl | ⟨hcj,hu⟩
   ·exact ⟨c,by rw [hget,hc];rfl, .inl rfl⟩
   ·by_cases hcj':c<=j+2
    ·exact ⟨c,by rw [hget,hc];rfl, .inr ⟨hcj',hu⟩⟩
    ·obtain rfl:c=j+3:=by omega
     cases hu with
     | refl=>exact ⟨j+3,by rw [hget,hc];rfl, .inl rfl⟩
     | step x hx hu =>
      have:=hp.2 _ hx
      exact ⟨x,by rw [hget,hc,decide_eq_true hx];simp, .inr ⟨by omega,hu⟩⟩
theorem Qs {g:List (List Int)} (hg:AT g=true) {c:Int} (h1:3<=c) (h2:c < 3+g.length) (k:Nat):(upF g c).getD k false=true ↔ Up g c.toNat k:=by
 unfold upF
 rw [Uy hg _ _ _ (by rw [List.length_set,List.length_replicate]) (by omega)]
 have hb : ∀ j:Nat,((List.replicate (3+g.length) false).set c.toNat true).getD j false=decide (c.toNat=j):=fun j=>by
  rw [FH]
  by_cases h:c.toNat=j
  ·rw [if_pos ⟨h,by rw [List.length_replicate];omega⟩,decide_eq_true h]
  ·rw [if_neg (fun hh=>h hh.1),decide_eq_false h,List.getD_eq_getElem?_getD,List.getElem?_replicate]
   split<;>rfl
 constructor
 ·rintro ⟨d,hd,h⟩
  rw [hb,decide_eq_true_eq] at hd
  subst hd
  rcases h with rfl | h
  ·exact .refl _
  ·exact h.2
 ·exact fun h=>⟨c.toNat,by rw [hb];simp, .inr ⟨by omega,h⟩⟩
theorem hasW_up {w:World} (hg:AT w.parents=true) {a b s:Int} (ha:3<=a) (ha2:a < 3+w.parents.length) (hb2:b < 3+w.parents.length) (hu:Up w.parents a.toNat b.toNat) (ho:0<=(w.owner[s.toNat]?).getD 0) (h:hasW w b s=true):hasW w a s=true:=by
 unfold hasW H2 at h ⊢
 simp only [Bool.and_eq_true,Bool.or_eq_true,decide_eq_true_eq] at h ⊢
 obtain ⟨hb,h⟩:=h
 generalize (w.owner[s.toNat]?).getD 0=o at *
 refine ⟨ha, ?_⟩
 rcases h with (rfl | h) | ⟨_,h⟩
 ·exact .inr ⟨ha,(Qs hg ha ha2 _).2 hu⟩
 ·exact .inl (.inr h)
 ·exact .inr ⟨ha,(Qs hg ha ha2 _).2 (hu.trans ((Qs hg hb hb2 _).1 h))⟩
def Ip:List Int->List Bool->List Bool
 | [],bs=>bs
 | p::r,bs=>Ip r (bs.set p.toNat true)
def upB (g:List (List Int)):Nat->Nat->List Bool->List Bool
 | 0,_,bs=>bs
 | n+1,c,bs=>upB g n (c-1) (if bs.getD c false then Ip (parentsF g c) bs else bs)
theorem JH : ∀ (ps:List Int) (bs:List Bool) (k:Nat),(Ip ps bs).getD k false=true->bs.getD k false=true \/ ∃ x ∈ ps,x.toNat=k
 | [],_,_,h => .inl h
 | p::r,bs,k,h=>by
  rcases JH r _ k h with h | ⟨x,hx,e⟩
  ·rw [FH] at h
   split at h
   ·rename_i hh;exact .inr ⟨p,by simp,hh.1⟩
   ·exact .inl h
  ·exact .inr ⟨x,by simp [hx],e⟩
theorem Uz {g:List (List Int)} (hg:AT g=true) (a:Nat) : ∀ (n c:Nat) (bs:List Bool),(∀ k,bs.getD k false=true->Up g a k) -> ∀ k,(upB g n c bs).getD k false=true->Up g a k
 | 0,_,_,h,k,hk=>h k hk
 | n+1,c,bs,h,k,hk=>by
  rw [upB] at hk
  refine Uz hg a n _ _ (fun j hj => ?_) k hk
  split at hj
  ·rename_i hc
   rcases JH _ _ _ hj with hj | ⟨x,hx,rfl⟩
   ·exact h j hj
   ·have:=(AK hg c).2 x hx
    exact (h c hc).trans (.step x.toNat (by rw [show ((x.toNat:Nat):Int)=x by omega];exact hx) (.refl _))
  ·exact h j hj
def belB (g:List (List Int)) (a b:Int):Bool:=decide (a=b) || (upB g (a-b).toNat a.toNat ((List.replicate 19 false).set a.toNat true)).getD b.toNat false
theorem belB_up {g:List (List Int)} (hg:AT g=true) {a b:Int} (ha:0<=a/\a < 19) (h:belB g a b=true):Up g a.toNat b.toNat:=by
 unfold belB at h
 simp only [Bool.or_eq_true,decide_eq_true_eq] at h
 rcases h with rfl | h
 ·exact .refl _
 ·refine Uz hg _ _ _ _ (fun k hk => ?_) _ h
  rw [FH] at hk
  split at hk
  ·rename_i hh;rw [<- hh.1];exact .refl _
  ·rw [List.getD_eq_getElem?_getD,List.getElem?_replicate] at hk
   split at hk<;>cases hk
theorem Tk {p:BProg} (h:Ag p=true) {a b:Int} (ha:3<=a/\a < 3+p.classes.length) (hb:3<=b/\b < 3+p.classes.length) (hu:belB (p.classes.map (·.parents)) a b=true) (s:Int) (hs:s ∈ hasP p b):s ∈ hasP p a:=by
 obtain ⟨N,hc,_,hg,_⟩:=Bu h
 have hgl:(Aj p).parents.length=p.classes.length:=List.length_map _
 have hgw:AT (Aj p).parents=true:=hg
 have hlen:=Cz hg
 rw [List.length_map] at hlen
 obtain ⟨i,rfl⟩ : ∃ i:Nat,a=(i:Int)+3:=⟨(a-3).toNat,by omega⟩
 obtain ⟨j,rfl⟩ : ∃ j:Nat,b=(j:Int)+3:=⟨(b-3).toNat,by omega⟩
 rw [L8 hg hc (by omega)] at hs ⊢
 refine ⟨hs.1,hasW_up hgw (by omega) (by rw [hgl];omega) (by rw [hgl];omega) (belB_up hg (by omega) hu) ?_ hs.2⟩
 have hwo:(Aj p).owner=ownersF p.classes 0:=rfl
 cases ho:(Aj p).owner[s.toNat]? with
 | none=>simp
 | some x =>
  have:=List.mem_of_getElem? ho
  rw [hwo] at this
  have:=DA this
  simp only [Option.getD_some];omega
def begT (p:BProg) (x:Init):List Int->Bool
 | []=>false
 | c::r=>match begI p x.slot c with
  | []=>begT p x r
  | y::_=>decide (y.n=x.n)
theorem T8 {p:BProg} (h:Ag p=true) {x:Init} {s:Int} : ∀ {order:List Int},x ∈ begO p s order->begT p x order=true
 | [],hx=>by simp [begO] at hx
 | c::r,hx=>by
  rw [begO] at hx
  rw [begT]
  have hs : ∀ d,x ∈ begI p s d->x.slot=s:=fun d hd=>by
   unfold begI at hd
   split at hd
   ·have:=(List.mem_filter.1 hd).2;simpa using this
   ·cases hd
  have hxs:x.slot=s:=by
   have : ∀ l:List Int,x ∈ begO p s l->x.slot=s:=fun l=>by
    induction l with
    | nil=>intro h;simp [begO] at h
    | cons d l ih =>
     intro h;rw [begO] at h
     split at h
     ·exact ih h
     ·exact hs d h
   refine this (c::r) ?_
   rw [begO];exact hx
  rw [hxs]
  split at hx
  ·rename_i he
   rw [he];exact T8 h hx
  ·have hu:(begI p s c).length<=1:=by
    have:=Lu h s [c]
    rw [begO] at this
    split at this
    ·rename_i he;rw [he];simp
    ·exact this
   match hb:begI p s c,hu with
   | [],_=>rw [hb] at hx;cases hx
   | [y],_ =>
    rw [hb] at hx
    obtain rfl:=List.mem_singleton.1 hx
    simp
end Go.DL
namespace Go.DL
open Go.Proofs.Tryz
open Go Go.Proofs
set_option maxHeartbeats 8000000
theorem U9 (g:List (List Int)) (a b:Int) (σ:Sig) (hb:AT g=true) (ha:3<=a/\a < 3+g.length) (hb':3<=b/\b < 3+g.length) :
  DCall prog 30 [sl (cII g),dI a,dI b] σ fun x σ'=>x = .ret (.bool (belB g a b))/\σ'=σ:=by
 have hlen:=Cz hb
 obtain ⟨k,rfl⟩ : ∃ k:Nat,a=(k:Int):=⟨a.toNat,by omega⟩
 obtain ⟨m,rfl⟩ : ∃ m:Nat,b=(m:Int):=⟨b.toNat,by omega⟩
 refine en func30 ntmps30 ?_
 by_cases hkm:(k:Int)=m
 ·have e:belB g k m=true:=by unfold belB;rw [decide_eq_true hkm];rfl
  try refine gf hkm ?_ [] [7]
  exact fe1 e
 ·have e:belB g k m=(upB g (k-m) k ((List.replicate 19 false).set k true)).getD m false:=by
   unfold belB;rw [decide_eq_false hkm,show ((k:Int)-m).toNat=k-m by omega];rfl
  try refine gf hkm ?_ [] [7]
  refine newV (fun i hi => ?_)
  rw [show ([.bool false, .bool false, .bool false, .bool false, .bool false, .bool false, .bool false, .bool false, .bool false, .bool false, .bool false, .bool false, .bool false, .bool false, .bool false, .bool false, .bool false, .bool false, .bool false]:List D)=BB (List.replicate 19 false) from rfl]
  generalize hb0:List.replicate 19 false=b0
  have hl0:b0.length=19:=by rw [<- hb0];simp
  try refine gf hl0 ?_ [] [7]
  refine AJ [0,2,6,7,55,56,57] (fun (c:Nat) (bs:List Bool)=>c<=k/\(m<=c\/c=k)/\bs.length=19/\upB g (k-m) k (b0.set k true)=upB g (c-m) c bs) (fun c _=>[(8,dI c)]) (fun _ bs=>σ.set i (.cells (BB bs))) (fun c _=>c) (k) (b0.set k true) (by exact ⟨Nat.le_refl _, .inr rfl,by simpa using hl0,rfl⟩) (fun c bs hI => ?_)
  obtain ⟨hc,hmc,hbl,hU⟩:=hI
  have hi3:(σ.set i (.cells (BB bs))) i=some (.cells (BB bs)):=w7 ..
  by_cases h3:m < c
  ·obtain ⟨j,hj⟩ : ∃ j,c=j+3:=⟨c-3,by omega⟩
   have hpar:g[j]'(by omega)=parentsF g c:=by
    unfold parentsF
    rw [if_neg (by omega),show ((c:Int)-3).toNat=j by omega,List.getElem?_eq_getElem (by omega)];rfl
   have hpp:=AK hb c
   rw [show c-m=(c-1-m)+1 by omega,upB] at hU
   rw [<- hpar] at hU hpp
   have e3:(c:Int)-3=j:=by omega
   have hcb:c < bs.length:=by omega
   have hgc:bs.getD c false=bs[c]:=by rw [List.getD_eq_getElem?_getD,List.getElem?_eq_getElem hcb];rfl
   rw [hgc] at hU
   generalize hps:g[j]'(by omega)=ps at hU hpp
   cases hbc:bs[c] with
   | false =>
    rw [hbc] at hU
    try refine gz ?_ [] [7]
    refine Bh [0,2,6,7,8,26,27,28,29,30,55,56,57] (fun (q:Nat)=>q=0) (fun q=>[(9,dI q)]) (fun _=>σ.set i (.cells (BB bs))) (fun _=>0) (0) (by rfl) (fun q hI => ?_)
    subst hI
    try refine gf hbc ?_ [] [7]
    exact ⟨c-1,bs,⟨by omega, .inl (by omega),hbl,hU⟩,td1,wkR⟩
   | true =>
    rw [hbc] at hU
    simp only [if_true] at hU
    try refine gz ?_ [] [7]
    refine AJ [0,2,6,7,8,26,27,28,29,30,55,56,57] (fun (q:Nat) (b2:List Bool)=>q<=ps.length/\b2.length=19/\b2[c]? = some true/\Ip ps bs=Ip (ps.drop q) b2) (fun q _=>[(9,dI q)]) (fun _ b2=>σ.set i (.cells (BB b2))) (fun q _=>ps.length-q) (0) (bs) (by exact ⟨by omega,hbl,by rw [List.getElem?_eq_getElem hcb,hbc],rfl⟩) (fun q b2 hI => ?_)
    obtain ⟨hq,hbl2,hb2,hR⟩:=hI
    have hi4:(σ.set i (.cells (BB b2))) i=some (.cells (BB b2)):=w7 ..
    have hcb2:c < b2.length:=by omega
    have hb3:b2[c]=true:=by rw [List.getElem?_eq_getElem hcb2] at hb2;exact Option.some.inj hb2
    by_cases hq':q < ps.length
    ·have hp:=hpp.2 _ (List.getElem_mem hq')
     rw [A2 hq',Ip] at hR
     obtain ⟨p,hpe⟩ : ∃ p:Nat,ps[q]=(p:Int):=⟨(ps[q]).toNat,by omega⟩
     rw [hpe] at hR hp
     rw [show ((p:Int)).toNat=p by omega] at hR
     try refine gf (gi hb3 (gi e3 (gi hps hpe))) ?_ [] [7]
     exact ⟨q+1,b2.set p true,⟨by omega,by simpa using hbl2,by rw [List.getElem?_set_ne (by omega)];exact hb2,hR⟩,td1,wkR⟩
    ·rw [A1 hq',Ip] at hR
     rw [hR] at hU
     try refine gf (gi hb3 (gi e3 hps)) ?_ [] [7]
     exact ⟨c-1,b2,⟨by omega, .inl (by omega),hbl2,hU⟩,td1,wkR⟩
  ·rw [show c-m=0 by omega,upB] at hU
   have hmb:m < bs.length:=by omega
   have hgm:bs.getD m false=bs[m]:=by rw [List.getD_eq_getElem?_getD,List.getElem?_eq_getElem hmb];rfl
   rw [hb0,hU,hgm] at e
   try refine gz ?_ [] [7]
   exact fe1 e
theorem U8 (p:BProg) (x:Init) (order:List Int) (o:Own) (σ:Sig) (hp:p.wt<=1073741824) (ho : ∀ y ∈ order,0<=y/\y < 3+p.classes.length) (hl:order.length<=1073741824) :
  DCall prog 34 [.agg (Af p), .slice (cI order) o, .agg (Cm x)] σ fun r σ'=>r = .ret (.bool (begT p x order))/\σ'=σ:=by
 obtain ⟨p1,p2,p3,p4,p5,p6,p7⟩:=p.wt_le
 have hwc : ∀ c ∈ p.classes,c.inits.length<=1073741824:=fun c hc=>by
  obtain ⟨k,hk,rfl⟩:=List.getElem_of_mem hc
  have:=p5 k hk
  unfold BClass.wt at this;omega
 refine en func34 ntmps34 ?_
 refine gz ?_ o34
 refine Bh [1,3,5] (fun (j:Nat)=>j<=order.length/\begT p x order=begT p x (order.drop j)) (fun j=>[(7,dI j)]) (fun _=>σ) (fun j=>order.length-j) (0) (by simp) (fun j hI => ?_)
 obtain ⟨hj,hR⟩:=hI
 by_cases hjl:j < order.length
 ·rw [A2 hjl,begT] at hR
  have hy:=ho _ (List.getElem_mem hjl)
  generalize hyj:order[j]=y at *
  by_cases hy3:3<=y
  ·obtain ⟨q,rfl⟩ : ∃ q:Nat,y=3+(q:Int):=⟨(y-3).toNat,by omega⟩
   have hq:q < p.classes.length:=by omega
   have hown:ownF p (3+(q:Int))=true:=by simp only [ownF,Bool.and_eq_true,decide_eq_true_eq];omega
   have hbi:begI p x.slot (3+q)=((p.classes[q]).inits).filter fun z=>decide (z.slot=x.slot):=by
    unfold begI;rw [if_pos hown,show (3+(q:Int)-3).toNat=q by omega,List.getElem?_eq_getElem hq];rfl
   have hinl:=hwc _ (List.getElem_mem hq)
   have hq3:3+(q:Int)-3=q:=by omega
   rw [hbi] at hR
   generalize hin:(p.classes[q]).inits=ins at *
   refine gf (gi hyj (gi hown (gi hq3 hin))) ?_ o34
   refine Bh [1,3,5,7,8,10,11,12,13,14,15,16,17,18,19,20,21,22,23,24,25,26,27,28,29,30,31,32] (fun (m:Nat)=>m<=ins.length/\(ins.take m).filter (fun z=>decide (z.slot=x.slot))=[]) (fun m=>[(9,dI m)]) (fun _=>σ) (fun m=>ins.length-m) (0) (by simp) (fun m hI => ?_)
   obtain ⟨hm,hM⟩:=hI
   by_cases hml:m < ins.length
   ·have hsp:ins=ins.take m++ins[m]::ins.drop (m+1):=by
     rw [<- List.drop_eq_getElem_cons hml,List.take_append_drop]
    have htk:=List.take_succ_eq_append_getElem hml
    generalize hx:ins[m]=z at *
    repeat' first | refine gf (gi hin hx) ?_ o34 | apply gy<;>intro hh
    ·have e:ins.filter (fun z=>decide (z.slot=x.slot))=z::(ins.drop (m+1)).filter (fun z=>decide (z.slot=x.slot)):=by
      conv=>lhs;rw [hsp]
      rw [List.filter_append,hM,List.nil_append,List.filter_cons,if_pos (by simpa using hh)]
     rw [e] at hR
     simp only at hR
     exact fe1 hR
    ·have e:(ins.take (m+1)).filter (fun z=>decide (z.slot=x.slot))=[]:=by
      rw [htk,List.filter_append,hM];simp [hh]
     exact ⟨m+1,⟨by omega,e⟩,td1,wkR⟩
   ·have htk:ins.take m=ins:=List.take_of_length_le (by omega)
    rw [htk] at hM
    rw [hM] at hR
    simp only at hR
    refine gf hin ?_ o34
    exact ⟨j+1,⟨by omega,hR⟩,td1,wkR⟩
  ·have hown:ownF p y=false:=by simp only [ownF,Bool.and_eq_false_iff,decide_eq_false_iff_not];exact .inl hy3
   have hbi:begI p x.slot y=[]:=by unfold begI;rw [hown];rfl
   rw [hbi] at hR
   simp only at hR
   refine gf (gi hyj hown) ?_ o34
   exact ⟨j+1,⟨by omega,hR⟩,td1,wkR⟩
 ·rw [A1 hjl,begT] at hR
  refine gz ?_ o34
  exact fe1 hR
theorem Hy {p:BProg} {x:Init} {order:List Int} : ∀ {hs:List Int},x ∈ DU p order hs -> ∃ s ∈ hs,x ∈ begO p s order
 | [],h=>by simp [DU] at h
 | s::r,h=>by
  rw [DU] at h
  rcases List.mem_append.1 h with h | h
  ·exact ⟨s,by simp,h⟩
  ·obtain ⟨t,ht,hx⟩:=Hy h
   exact ⟨t,by simp [ht],hx⟩
theorem Na {p:BProg} {x:Init} {s:Int} : ∀ {order:List Int},x ∈ begO p s order->x.slot=s
 | [],h=>by simp [begO] at h
 | c::r,h=>by
  rw [begO] at h
  split at h
  ·exact Na h
  ·unfold begI at h
   split at h
   ·have:=(List.mem_filter.1 h).2;simpa using this
   ·cases h
theorem Rq (p:BProg) (a b:Int) (σ:Sig) (hp:p.wt<=1048576):DCall prog 7 [.agg (Af p),dI a,dI b] σ fun x σ'=>x = .ret (.bool true)/\σ'=σ:=by
 obtain ⟨p1,p2,p3,p4,p5,p6,p7⟩:=p.wt_le
 have hla:=DG p a
 have hlb:=DG p b
 have ws:=Ep p
 have hwc : ∀ c ∈ p.classes,c.parents.length<=1073741824:=fun c hc=>by
  obtain ⟨k,hk,rfl⟩:=List.getElem_of_mem hc
  have:=p5 k hk
  unfold BClass.wt at this;omega
 have hwg : ∀ x ∈ p.classes.map (·.parents),x.length<=1073741824:=fun x hx=>by obtain ⟨c,hc,rfl⟩:=List.mem_map.1 hx;exact hwc c hc
 have hp':p.wt<=1073741824:=by omega
 have h23:=fun (c:Int) (σ:Sig)=>I3 p c σ hp'
 by_cases hka:(ownF p a && okP p)=true
 ·by_cases hkb:(ownF p b && okP p)=true
  ·have i23a : ∀ σ:Sig,Ans 23 [.agg (Af p),dI a] σ True (.tup [sl (cI (hasP p a)),dI 0]):=fun σ=>ah0 (by have:=h23 a σ;rw [hka] at this;exact this)
   have i23b : ∀ σ:Sig,Ans 23 [.agg (Af p),dI b] σ True (.tup [sl (cI (hasP p b)),dI 0]):=fun σ=>ah0 (by have:=h23 b σ;rw [hkb] at this;exact this)
   have i25 : ∀ σ:Sig,Ans 25 [.agg (Af p),dI a] σ True (.tup [sl ((beginP p a).map Cm),dI 0]):=fun σ=>ah0 (by have:=GQ p a σ hp';rw [hka] at this;exact this)
   simp only [Bool.and_eq_true] at hka hkb
   obtain ⟨hoa,hok⟩:=hka
   have hob:=hkb.1
   have hca:3<=a/\a < 3+p.classes.length:=by simp only [ownF,Bool.and_eq_true,decide_eq_true_eq] at hoa;exact hoa
   have hcb:3<=b/\b < 3+p.classes.length:=by simp only [ownF,Bool.and_eq_true,decide_eq_true_eq] at hob;exact hob
   have hcl:=Cp hok
   obtain ⟨hlin,hg⟩:=QM hok hca.1 hca.2
   have hgl:(p.classes.map (·.parents)).length=p.classes.length:=List.length_map _
   have hkF:(CU p).isSome=true:=by rw [<- HY];exact hok
   have i30 : ∀ σ:Sig,Ans 30 [sl (cII (p.classes.map (·.parents))),dI a,dI b] σ True (.bool (belB (p.classes.map (·.parents)) a b)):=fun σ=>ah0 (U9 (p.classes.map (·.parents)) a b σ hg (by rw [hgl];exact hca) (by rw [hgl];exact hcb))
   have h33:=fun (σ:Sig)=>I2 (p.classes.map (·.parents)) a .no σ hg (by rw [hgl];omega) hwg
   have hpos:0 < (lineF (p.classes.map (·.parents)) a).length:=by
    have:=Ov hg (c:=a) (by rw [hgl];omega)
    rw [decide_eq_true hlin] at this
    exact of_decide_eq_true this.symm
   have hlb2:(lineF (p.classes.map (·.parents)) a).length<=80000000:=BI hg (Nat.le_refl _) (by omega)
   have hmem : ∀ y ∈ lineF (p.classes.map (·.parents)) a,0<=y/\y < 3+p.classes.length:=fun y hy=>by
    obtain ⟨x,hx,hy⟩:=CT hy
    have:=CS hg _ x hx y hy
    rw [List.length_map] at this;omega
   have hup:=fun s=>Tk hcl hca hcb (s:=s)
   have hbl:(beginP p a).length<=1073741824:=by
    have:=Hx (De p (linF (p.classes.map (·.parents)) a)) (hasP p a)
    unfold beginP;omega
   have hbe:=P9 hcl hca.1 hca.2
   have hhe:=Rc hcl hca.1 hca.2
   have hB1 : ∀ x ∈ beginP p a,x.slot ∈ hasP p a:=fun x hx=>by
    rw [hbe] at hx
    obtain ⟨s,hs,hx⟩:=Hy hx
    rw [Na hx,hhe];exact hs
   have hB2 : ∀ x ∈ beginP p a,begT p x (lineF (p.classes.map (·.parents)) a)=true:=fun x hx=>by
    rw [hbe] at hx
    obtain ⟨s,hs,hx⟩:=Hy hx
    exact T8 hcl hx
   have i34 : ∀ (x:Init) (o:Own) (σ:Sig),Ans 34 [.agg (Af p), .slice (cI (lineF (p.classes.map (·.parents)) a)) o, .agg (Cm x)] σ True (.bool (begT p x (lineF (p.classes.map (·.parents)) a))):=fun x o σ=>ah0 (U8 p x (lineF (p.classes.map (·.parents)) a) o σ hp' hmem (by omega))
   have hpc:decide (0 < (lineF (p.classes.map (·.parents)) a).length)=true:=decide_eq_true hpos
   have i33 : ∀ σ:Sig,Ans 33 [sl (cII (p.classes.map (·.parents))),dI a] σ True (.tup [sl (cI (lineF (p.classes.map (·.parents)) a)), .bool true]):=fun σ=>ah0 (by have:=h33 σ;rw [hpc] at this;exact this)
   clear h33 h23
   clear hbe hhe hpc hpos hlin
   have i32 : ∀ (s:Int) (o:Own) (σ:Sig),Ans 32 [.slice (cI (hasP p a)) o,dI s] σ (s ∈ hasP p a) (.bool true):=fun s o σ=>ah1 fun hs=>by
    have:=OK (hasP p a) s o σ (by omega)
    rw [List.contains_iff_mem.2 hs] at this
    exact this
   generalize hasP p a=la at *
   generalize hasP p b=lb at *
   generalize beginP p a=ba at *
   generalize lineF (p.classes.map (·.parents)) a=order at *
   refine en func7 ntmps7 ?_
   repeat' first | refine gf (gi hkF (gi hoa hob)) ?_ o7 | apply gy<;>intro hh
   ·refine Bh [1,3,7,8,9,12,13,14,15,68,69,70,71,72,73,74,75,76,77,78,79,80,81,82,83,84,85,86,87,88,89,90,91,92,93,94,95,96,97,98,99,100,101,102,103,104,105,106,107,108,109,110,111] (fun (k:Nat)=>k<=lb.length) (fun k=>[(11,dI k)]) (fun _=>σ) (fun k=>lb.length-k) (0) (by omega) (fun k hI => ?_)
    by_cases hkl:k < lb.length
    ·have h1:=hup _ hh (List.getElem_mem hkl)
     refine gz ?_ o7
     exact ⟨k+1,by exact hkl,td1,wkR⟩
    ·have hk0:=hkl
     refine gz ?_ o7
     refine Bh [3,7,12,13,111] (fun (k:Nat)=>k<=ba.length) (fun k=>[(15,dI k)]) (fun _=>σ) (fun k=>ba.length-k) (0) (by omega) (fun k hI => ?_)
     by_cases hkl:k < ba.length
     ·have h1:=hB1 _ (List.getElem_mem hkl)
      have h2:=hB2 _ (List.getElem_mem hkl)
      generalize hx:ba[k]=x at *
      refine gf (gi hx h2) ?_ o7
      exact ⟨k+1,by exact hkl,td1,wkR⟩
     ·refine gz ?_ o7
      exact fe1 trivial
   ·refine Bh [3,7,12,13,111] (fun (k:Nat)=>k<=ba.length) (fun k=>[(15,dI k)]) (fun _=>σ) (fun k=>ba.length-k) (0) (by omega) (fun k hI => ?_)
    by_cases hkl:k < ba.length
    ·have h1:=hB1 _ (List.getElem_mem hkl)
     have h2:=hB2 _ (List.getElem_mem hkl)
     generalize hx:ba[k]=x at *
     refine gf (gi hx h2) ?_ o7
     exact ⟨k+1,by exact hkl,td1,wkR⟩
    ·refine gz ?_ o7
     exact fe1 trivial
  ·simp only [Bool.not_eq_true] at hkb
   have i23a : ∀ σ:Sig,Ans 23 [.agg (Af p),dI a] σ True (.tup [sl (cI (hasP p a)),dI 0]):=fun σ=>ah0 (by have:=h23 a σ;rw [hka] at this;exact this)
   have i23b : ∀ σ:Sig,Ans 23 [.agg (Af p),dI b] σ True (.tup [sl (cI []),dI 2]):=fun σ=>ah0 (by have:=h23 b σ;rw [hkb] at this;exact this)
   clear h23
   refine en func7 ntmps7 ?_
   refine gz ?_ o7
   exact fe1 trivial
 ·simp only [Bool.not_eq_true] at hka
  have i23a : ∀ σ:Sig,Ans 23 [.agg (Af p),dI a] σ True (.tup [sl (cI []),dI 2]):=fun σ=>ah0 (by have:=h23 a σ;rw [hka] at this;exact this)
  clear h23
  refine en func7 ntmps7 ?_
  refine gz ?_ o7
  exact fe1 trivial
@[reducible,instance] def a7:=fun p a b σ=>ah1 (@Rq p a b σ)
end Go.DL
