/- Part of a proof in texts M01 on: a layer of pure values over the fenced walk, the walks of the functions, the plain laws. -/
import Derived.Test.YtlfimpogphmbdaaGreatM21
import Derived.Test.YtlfimpogphmbdaaGreatM26
import Derived.Test.YtlfimpogphmbdaaGreatM19
import Derived.Test.YtlfimpogphmbdaaGreatM29
set_option linter.all false
namespace Go.DL
open Go.Proofs.Tryz
open Go Go.Proofs
def Dz (w:World) (c:Int):Nat->Nat->List Int
 | 0,_=>[]
 | n+1,k=>if hasW w c k=true then (k:Int)::Dz w c n (k+1) else Dz w c n (k+1)
def DP (w:World) (c:Int):List Int:=Dz w c w.owner.length 0
theorem Hg (w:World) (c:Int) : ∀ (n k:Nat) (s:Int),s ∈ Dz w c n k ↔ (k:Int)<=s/\s < k+n/\hasW w c s=true
 | 0,k,s=>by rw [Dz];simp;omega
 | n+1,k,s=>by
  rw [Dz]
  have h:=Hg w c n (k+1) s
  split
  ·rename_i hw
   rw [List.mem_cons,h]
   constructor
   ·rintro (rfl | ⟨a,b,d⟩)
    ·exact ⟨by omega,by omega,hw⟩
    ·exact ⟨by omega,by omega,d⟩
   ·rintro ⟨a,b,d⟩
    by_cases e:s=k
    ·exact .inl e
    ·exact .inr ⟨by omega,by omega,d⟩
  ·rename_i hw
   rw [h]
   constructor
   ·rintro ⟨a,b,d⟩;exact ⟨by omega,by omega,d⟩
   ·rintro ⟨a,b,d⟩
    exact ⟨by have:s ≠ k:=fun e=>hw (e ▸ d);omega,by omega,d⟩
theorem Ev (w:World) (c:Int) : ∀ (n k:Nat),(Dz w c n k).Pairwise (· < ·)
 | 0,_=>by rw [Dz];exact .nil
 | n+1,k=>by
  rw [Dz]
  split
  ·exact .cons (fun s hs=>by have:=(Hg w c n (k+1) s).1 hs;omega) (Ev w c n (k+1))
  ·exact Ev w c n (k+1)
theorem JG (w:World) (c:Int) : ∀ (n k:Nat),(Dz w c n k).length<=n
 | 0,_=>by simp [Dz]
 | n+1,k=>by
  have:=JG w c n (k+1)
  rw [Dz];split<;>simp<;>omega
theorem JE : ∀ (a b:List Int),a.Pairwise (· < ·)->b.Pairwise (· < ·)->(∀ x,x ∈ a ↔ x ∈ b)->a=b
 | [],[],_,_,_=>rfl
 | [],y::b,_,_,h=>absurd ((h y).2 (by simp)) (by simp)
 | x::a,[],_,_,h=>absurd ((h x).1 (by simp)) (by simp)
 | x::a,y::b,ha,hb,h=>by
  rw [List.pairwise_cons] at ha hb
  have e:x=y:=by
   rcases List.mem_cons.1 ((h x).1 (by simp)) with e | h1
   ·exact e
   ·rcases List.mem_cons.1 ((h y).2 (by simp)) with e | h2
    ·exact e.symm
    ·have:=ha.1 y h2;have:=hb.1 x h1;omega
  subst e
  rw [JE a b ha.2 hb.2 fun z=>⟨fun hz => ?_,fun hz => ?_⟩]
  ·rcases List.mem_cons.1 ((h z).1 (List.mem_cons_of_mem _ hz)) with e | h1
   ·have:=ha.1 z hz;omega
   ·exact h1
  ·rcases List.mem_cons.1 ((h z).2 (List.mem_cons_of_mem _ hz)) with e | h1
   ·have:=hb.1 z hz;omega
   ·exact h1
theorem Gs : ∀ (l:List Int) (n m:Int),Cu n l=some m->l.Pairwise (· < ·)
 | [],_,_,_ => .nil
 | x::r,n,m,h=>by
  rw [Cu] at h
  split at h
  ·rename_i hx
   exact .cons (fun s hs=>by have:=(Hi r _ _ h s).1 hs;omega) (Gs r _ _ h)
  ·cases h
theorem HJ : ∀ (cs:List BClass) (n m:Int),B0 n cs=some m -> ∀ c ∈ cs,c.slots.Nodup
 | [],_,_,_,c,hc=>by simp at hc
 | x::r,n,m,h,c,hc=>by
  rw [B0] at h
  split at h
  ·cases h
  ·split at h
   ·cases h
   ·rename_i m1 hm
    rcases List.mem_cons.1 hc with rfl | hc
    ·exact (Gs _ _ _ hm).imp fun {a b} (hab:a < b)=>by omega
    ·exact HJ r _ _ h c hc
theorem Hq {cs:List BClass} {N:Int} (hc:B0 0 cs=some N) : ∀ (n:Nat) (up out:List Int),n<=cs.length->out.Nodup->(∀ s ∈ out, ∀ (k:Nat) (hk:k < cs.length),k < n->s ∉ (cs[k]).slots)->(hasG cs n up out).Nodup
 | 0,_,_,_,ho,_=>by rw [hasG];exact ho
 | n+1,up,out,hn,ho,hd=>by
  rw [hasG,List.getElem?_eq_getElem (by omega)]
  simp only
  split
  ·refine Hq hc n _ _ (by omega) (List.nodup_append.2 ⟨ho,HJ _ _ _ hc _ (List.getElem_mem _),fun a ha b hb e=>hd a ha n (by omega) (by omega) (e ▸ hb)⟩) fun s hs k hk hkn hsk => ?_
   rcases List.mem_append.1 hs with hs | hs
   ·exact hd s hs k hk (by omega) hsk
   ·have h1:=((Gx cs 0 0 N hc s k hk).1 hsk).2.2
    have h2:=((Gx cs 0 0 N hc s n (by omega)).1 hs).2.2
    rw [h1] at h2;omega
  ·exact Hq hc n _ _ (by omega) ho fun s hs k hk hkn=>hd s hs k hk (by omega)
theorem Bu {p:BProg} (h:Ag p=true) : ∃ N,B0 0 p.classes=some N/\N=p.slots/\AT (p.classes.map (·.parents))=true/\AH p 0 p.classes=true:=by
 unfold Ag at h
 simp only [Bool.and_eq_true,decide_eq_true_eq] at h
 obtain ⟨_,h⟩:=h
 split at h
 ·cases h
 ·simp only [Bool.and_eq_true,decide_eq_true_eq] at h
  exact ⟨_,by assumption,h.1.1,h.1.2,h.2⟩
theorem NJ {p:BProg} {N:Int} (hc:B0 0 p.classes=some N) {c:Int} (h:c < 3+p.classes.length):(hasP p c).Pairwise (· < ·):=by
 have h1:(hasP p c).Pairwise (fun a b=>decide (a<=b)=true):=List.pairwise_mergeSort (fun a b c=>by simp only [decide_eq_true_eq];omega) (fun a b=>by simp only [Bool.or_eq_true,decide_eq_true_eq];omega) _
 have h2:(hasP p c).Nodup:=(List.mergeSort_perm _ _).nodup_iff.2 (Hq hc _ _ [] (by omega) (by simp) (by simp))
 exact (h1.and h2).imp fun {a b} h=>by have:=h.1;have:=h.2;simp only [decide_eq_true_eq] at *; omega
theorem Rc {p:BProg} (h:Ag p=true) {c:Int} (h1:3<=c) (h2:c < 3+p.classes.length):hasP p c=DP (Aj p) c:=by
 obtain ⟨N,hc,_,hg,_⟩:=Bu h
 refine JE _ _ (NJ hc h2) (Ev _ _ _ _) fun s => ?_
 obtain ⟨i,rfl⟩ : ∃ i:Nat,c=(i:Int)+3:=⟨(c-3).toNat,by omega⟩
 have hol:=DB p.classes 0
 obtain ⟨hN,_,_⟩:=Em _ _ _ hc
 have hwo:(Aj p).owner=ownersF p.classes 0:=rfl
 unfold DP
 rw [L8 hg hc (by omega),Hg,hwo]
 constructor
 ·rintro ⟨⟨a,b⟩,d⟩;exact ⟨by omega,by omega,d⟩
 ·rintro ⟨a,b,d⟩;exact ⟨⟨by omega,by omega⟩,d⟩
def begI (p:BProg) (s c:Int):List Init:=if ownF p c=true then ((((p.classes[(c-3).toNat]?).map (·.inits)).getD []).filter fun x=>decide (x.slot=s)) else []
def begO (p:BProg) (s:Int):List Int->List Init
 | []=>[]
 | c::r=>if begI p s c=[] then begO p s r else begI p s c
def DU (p:BProg) (order:List Int):List Int->List Init
 | []=>[]
 | s::r=>begO p s order++DU p order r
theorem Ez (has:List Int) : ∀ (l:List Init) (seen:List Int),Cy has seen l=true -> ∀ s,(s ∈ seen->l.filter (fun x=>decide (x.slot=s))=[])/\(l.filter (fun x=>decide (x.slot=s))).length<=1
 | [],_,_,_=>by simp
 | x::r,seen,h,s=>by
  rw [Cy] at h
  simp only [Bool.and_eq_true,Bool.not_eq_true',decide_eq_true_eq,decide_eq_false_iff_not] at h
  obtain ⟨⟨⟨_,hx⟩,_⟩,hr⟩:=h
  obtain ⟨h1,h2⟩:=Ez has r _ hr s
  rw [List.filter_cons]
  by_cases e:x.slot=s
  ·rw [if_pos (by simpa using e)]
   have:=h1 (by rw [<- e];simp)
   rw [this]
   exact ⟨fun hs=>absurd (e ▸ hs) hx,by simp⟩
  ·rw [if_neg (by simpa using e)]
   exact ⟨fun hs=>h1 (by simp [hs]),h2⟩
theorem Dj {p:BProg} : ∀ {cs:List BClass} {i:Nat},AH p i cs=true -> ∀ (k:Nat) (hk:k < cs.length), ∃ has,Cy has [] (cs[k]).inits=true
 | c::r,i,h,0,_=>by rw [AH] at h;simp only [Bool.and_eq_true,decide_eq_true_eq] at h;exact ⟨_,h.1.2⟩
 | c::r,i,h,k+1,hk=>by
  rw [AH] at h;simp only [Bool.and_eq_true,decide_eq_true_eq] at h
  exact Dj h.2 k (by simpa using hk)
theorem Fb (s:Int) : ∀ (l:List Init) (m:List (Int × Int)),(l.filter (fun x=>decide (x.slot=s))).length<=1 ->
  hasM s (Bq l m)=(hasM s m || decide (l.filter (fun x=>decide (x.slot=s)) ≠ [])) /\ ∀ x,l.filter (fun x=>decide (x.slot=s))=[x]->getM 0 s (Bq l m)=x.n
   /\ True
 | [],m,_=>by simp [Bq]
 | y::r,m,h=>by
  rw [Bq]
  have hz : ∀ (l:List Init) (m:List (Int × Int)),l.filter (fun x=>decide (x.slot=s))=[]->getM 0 s (Bq l m)=getM 0 s m:=fun l=>by
   induction l with
   | nil=>intro m _;rfl
   | cons z l ih =>
    intro m hl
    rw [List.filter_cons] at hl
    split at hl
    ·cases hl
    ·rename_i hz
     rw [Bq,ih _ hl,CZ,if_neg fun e=>hz (by simpa using e.symm)]
  rw [List.filter_cons] at h ⊢
  by_cases e:y.slot=s
  ·rw [if_pos (by simpa using e)] at h ⊢
   have hr:r.filter (fun x=>decide (x.slot=s))=[]:=by
    rw [List.length_cons] at h
    exact List.length_eq_zero_iff.1 (by omega)
   obtain ⟨h1,h2⟩:=Fb s r (putM y.slot y.n m) (by rw [hr];simp)
   rw [h1,hr,HZ,e]
   refine ⟨by simp,fun x hx => ?_⟩
   cases hx
   rw [hz _ _ hr,CZ,if_pos rfl]
   exact ⟨rfl,trivial⟩
  ·rw [if_neg (by simpa using e)] at h ⊢
   obtain ⟨h1,h2⟩:=Fb s r (putM y.slot y.n m) h
   rw [h1,HZ,decide_eq_false (p:=s=y.slot) fun e'=>e e'.symm,Bool.false_or]
   exact ⟨rfl,h2⟩
theorem Gw (s:Int) : ∀ (l:List Init) (m:List (Int × Int)),l.filter (fun x=>decide (x.slot=s))=[]->getM 0 s (Bq l m)=getM 0 s m
 | [],_,_=>rfl
 | z::l,m,hl=>by
  rw [List.filter_cons] at hl
  split at hl
  ·cases hl
  ·rename_i hz
   rw [Bq,Gw s l _ hl,CZ,if_neg fun e=>hz (by simpa using e.symm)]
theorem NL {s:Int} {l:List Init} {x:Init} (h:l.filter (fun x=>decide (x.slot=s))=[x]):x=⟨s,x.n⟩:=by
 have:x ∈ l.filter (fun x=>decide (x.slot=s)):=by rw [h];simp
 have:=(List.mem_filter.1 this).2
 simp only [decide_eq_true_eq] at this
 rw [<- this]
theorem Mf {p:BProg} (h:Ag p=true) (s:Int) : ∀ order:List Int,(∀ y ∈ order,y < 3+p.classes.length)->(if hasM s (De p order)=true then [(⟨s,getM 0 s (De p order)⟩:Init)] else [])=begO p s order
 | [],_=>rfl
 | c::r,ho=>by
  have ih:=Mf h s r fun y hy=>ho y (List.mem_cons_of_mem _ hy)
  have e:De p (c::r)=D4 p c (De p r):=rfl
  rw [e,begO]
  unfold D4 begI
  by_cases h3:3<=c
  ·have hc:=ho c (by simp)
   have hown:ownF p c=true:=by simp only [ownF,Bool.and_eq_true,decide_eq_true_eq];exact ⟨h3,hc⟩
   obtain ⟨N,_,_,_,hi⟩:=Bu h
   have hk:(c-3).toNat < p.classes.length:=by omega
   obtain ⟨has,hI⟩:=Dj hi _ hk
   have hu:=(Ez has _ _ hI s).2
   rw [if_pos h3,if_pos hown,List.getElem?_eq_getElem hk]
   simp only [Option.map_some,Option.getD_some]
   generalize (p.classes[(c-3).toNat]).inits=l at *
   obtain ⟨g1,g2⟩:=Fb s l (De p r) hu
   rcases hf:l.filter (fun x=>decide (x.slot=s)) with _ | ⟨x,_ | ⟨x2,r2⟩⟩
   ·have g3:hasM s (Bq l (De p r))=hasM s (De p r):=by rw [g1,hf];simp
    rw [g3,Gw s l _ hf,if_pos hf]
    exact ih
   ·have g3:hasM s (Bq l (De p r))=true:=by rw [g1,hf];simp
    rw [if_pos g3,(g2 x hf).1,if_neg (by rw [hf];simp),hf, <- NL hf]
   ·rw [hf] at hu;simp at hu
  ·have hown:ownF p c=false:=by simp only [ownF,Bool.and_eq_false_iff,decide_eq_false_iff_not];exact .inl h3
   rw [if_neg h3]
   simp only [hown,Bool.false_eq_true,if_false,if_true]
   exact ih
theorem N9 {p:BProg} (h:Ag p=true) {order:List Int} (ho : ∀ y ∈ order,y < 3+p.classes.length) : ∀ hs:List Int,En (De p order) hs=DU p order hs
 | []=>rfl
 | s::r=>by
  rw [En,DU, <- Mf h s order ho, <- N9 h ho r]
  split<;>simp
theorem P9 {p:BProg} (h:Ag p=true) {c:Int} (h1:3<=c) (h2:c < 3+p.classes.length):beginP p c=DU p (lineF (p.classes.map (·.parents)) c) (DP (Aj p) c):=by
 obtain ⟨N,_,_,hg,_⟩:=Bu h
 unfold beginP
 have e:linF (p.classes.map (·.parents)) c=lineF (p.classes.map (·.parents)) c:=by
  unfold linF;rw [if_pos ⟨hg,by omega,by rw [List.length_map];omega⟩]
 rw [e,Rc h h1 h2]
 refine N9 h (fun y hy => ?_) _
 obtain ⟨x,hx,hy⟩:=CT hy
 have:=CS hg _ x hx y hy
 rw [List.length_map] at this;omega
theorem Lu {p:BProg} (hk:Ag p=true) (s:Int) : ∀ order:List Int,(begO p s order).length<=1
 | []=>by simp [begO]
 | c::r=>by
  rw [begO]
  split
  ·exact Lu hk s r
  ·unfold begI
   split
   ·rename_i ho
    simp only [ownF,Bool.and_eq_true,decide_eq_true_eq] at ho
    obtain ⟨N,_,_,_,hi⟩:=Bu hk
    have hkc:(c-3).toNat < p.classes.length:=by omega
    obtain ⟨has,hI⟩:=Dj hi _ hkc
    rw [List.getElem?_eq_getElem hkc]
    exact (Ez has _ _ hI s).2
   ·simp
theorem Hx (m:List (Int × Int)) : ∀ l:List Int,(En m l).length<=l.length
 | []=>by simp [En]
 | s::r=>by
  have:=Hx m r
  rw [En];split<;>simp<;>omega
end Go.DL
namespace Go.DL
open Go.Proofs.Tryz
open Go Go.Proofs
set_option maxHeartbeats 8000000
theorem So (w:World) (c:Int) (σ:Sig) (hb:AT w.parents=true) (hc:0<=c/\c < 3+w.parents.length) (ho : ∀ x ∈ w.owner,0<=x/\x < 3+w.parents.length) (hl:w.owner.length<=1073741824) :
  DCall prog 151 [.agg (CE w),dI c] σ fun x σ'=>x = .ret (sl (cI (DP w c)))/\σ'=σ:=by
 refine en func151 ntmps151 ?_
 try refine gz ?_
 refine BD 5 1 (fun i hi => ?_)
 refine AJ [1,2,4,9,22] (fun (k:Nat) (out:List Int)=>k<=w.owner.length/\out.length<=k/\DP w c=out++Dz w c (w.owner.length-k) k) (fun k out=>[(10,dI k),(5, .slice (cI out) (.tag i))]) (fun _ out=>σ.set i (.tail 1 out.length)) (fun k _=>w.owner.length-k) (0) ([]) (by (refine ⟨by omega,by simp,rfl⟩)) (fun k out hI => ?_)
 obtain ⟨hk,hlen,hR⟩:=hI
 by_cases hkl:k < w.owner.length
 ·obtain ⟨n,hn⟩ : ∃ n,w.owner.length-k=n+1:=⟨w.owner.length-k-1,by omega⟩
  have hn':w.owner.length-(k+1)=n:=by omega
  rw [hn,Dz] at hR
  have h176:=fun (σ:Sig)=>Mx w c k σ hb hc (by omega) ho
  repeat' first | refine gz ?_ | refine An (h176 _) ?_ | refine callP (h176 _) ?_ | refine gz ?_ | apply gy<;>intro hh
  ·rw [if_pos hh] at hR
   exact ⟨k+1,out++[(k:Int)],⟨by omega,by simp;omega,by rw [hR,hn'];simp⟩,td1,wkR⟩
  ·rw [if_neg (by rw [hh];simp)] at hR
   exact ⟨k+1,out,⟨by omega,by omega,by rw [hR,hn']⟩,td1,wkR⟩
 ·rw [show w.owner.length-k=0 by omega,Dz,List.append_nil] at hR
  try refine gz ?_
  exact finS (σ':=σ) (es:=cI out) ⟨by rw [hR],rfl⟩
theorem Lf (p:BProg) (c:Int) (σ:Sig) (hp:p.wt<=1073741824) (hk:Ag p=true) (hc:3<=c/\c < 3+p.classes.length):DCall prog 63 [.agg (Af p),dI c] σ fun x σ'=>x = .ret (sl (cI (DP (Aj p) c)))/\σ'=σ:=by
 obtain ⟨p1,p2,p3,p4,p5,p6,p7⟩:=p.wt_le
 have hW:=KE hp hk
 have hof:(ownersF p.classes 0).length<=40:=hW.few
 have hwc : ∀ c ∈ p.classes,c.parents.length<=1073741824/\c.slots.length<=1073741824:=fun c hc=>by
  obtain ⟨k,hk,rfl⟩:=List.getElem_of_mem hc
  have:=p5 k hk
  unfold BClass.wt at this;omega
 have hwp : ∀ c ∈ p.classes,c.parents.length<=1073741824:=fun c hc=>(hwc c hc).1
 have hws : ∀ c ∈ p.classes,c.slots.length<=1073741824:=fun c hc=>(hwc c hc).2
 obtain ⟨N,hcs,_,hg,_⟩:=Bu hk
 have hgl:(Aj p).parents.length=p.classes.length:=List.length_map _
 have h151:=fun (σ:Sig)=>So (Aj p) c σ hg (by rw [hgl];omega) (fun x hx=>by have:=DA hx;rw [hgl];omega) (by have:(Aj p).owner=ownersF p.classes 0:=rfl;rw [this];omega)
 refine en func63 ntmps63 ?_
 repeat' first | refine gz ?_ | refine An (h151 _) ?_ | refine callP (h151 _) ?_ | refine gz ?_ | apply gy<;>intro hh
 exact fe1 trivial
@[reducible,instance] def a63:=fun p c σ=>ah3 (@Lf p c σ)
theorem Uc (p:BProg) (c:Int) (σ:Sig) (hp:p.wt<=1073741824):DCall prog 24 [.agg (Af p),dI c] σ fun x σ'=>x = .ret (.tup [sl (cI (if ownF p c && okP p then DP (Aj p) c else [])),dI (if ownF p c && okP p then 0 else 2)])/\σ'=σ:=by
 obtain ⟨p1,p2,p3,p4,p5,p6,p7⟩:=p.wt_le
 have hkF:(CU p).isSome=okP p:=by unfold okP;rw [HY]
 refine en func24 ntmps24 ?_
 cases hk:okP p
 ·try refine gf (gi hkF hk) ?_
  exact fe2 (d':=sl []) hk
 ·cases ho:ownF p c
  ·try refine gf (gi hkF (gi hk ho)) ?_
   exact fe2 (d':=sl []) (gi hk ho)
  ·have ho':3<=c/\c < 3+p.classes.length:=by simp only [ownF,Bool.and_eq_true,decide_eq_true_eq] at ho;exact ho
   have h63:=fun (σ:Sig)=>Lf p c σ hp (Cp hk) ho'
   repeat' first | refine gf (gi hkF (gi hk ho)) ?_ | refine An (h63 _) ?_ | refine callP (h63 _) ?_ | refine gf (gi hkF (gi hk ho)) ?_ | apply gy<;>intro hh
   exact fe2 (gi hk ho)
theorem TX (p:BProg) (c:Int) (σ:Sig) (hp:p.wt<=1073741824) (hk:Ag p=true) (hc:3<=c/\c < 3+p.classes.length) :
  DCall prog 66 [.agg (Af p),dI c] σ fun x σ'=>x = .ret (sl ((DU p (lineF (p.classes.map (·.parents)) c) (DP (Aj p) c)).map Cm))/\σ'=σ:=by
 obtain ⟨p1,p2,p3,p4,p5,p6,p7⟩:=p.wt_le
 have hwc : ∀ c ∈ p.classes,c.parents.length<=1073741824/\c.inits.length<=1073741824:=fun c hc=>by
  obtain ⟨k,hk,rfl⟩:=List.getElem_of_mem hc
  have:=p5 k hk
  unfold BClass.wt at this;omega
 have hwp : ∀ c ∈ p.classes,c.parents.length<=1073741824:=fun c hc=>(hwc c hc).1
 have hwg : ∀ x ∈ p.classes.map (·.parents),x.length<=1073741824:=fun x hx=>by obtain ⟨c,hc,rfl⟩:=List.mem_map.1 hx;exact (hwc c hc).1
 obtain ⟨N,hcs,_,hg,hia⟩:=Bu hk
 have hgl:(p.classes.map (·.parents)).length=p.classes.length:=List.length_map _
 have hW:=KE hp hk
 have hof:(ownersF p.classes 0).length<=40:=hW.few
 have hlb:(lineF (p.classes.map (·.parents)) c).length<=80000000:=BI hg (Nat.le_refl _) (by omega)
 have hsb:(DP (Aj p) c).length<=40:=by
  have:=JG (Aj p) c (Aj p).owner.length 0
  have e:(Aj p).owner=ownersF p.classes 0:=rfl
  rw [e] at this
  unfold DP;rw [e];omega
 have hbl:=fun s=>Lu hk s (lineF (p.classes.map (·.parents)) c)
 have h33:=fun (σ:Sig)=>I2 (p.classes.map (·.parents)) c .no σ hg (by rw [hgl];omega) hwg
 have h63:=fun (σ:Sig)=>Lf p c σ hp hk hc
 have hmem : ∀ y ∈ lineF (p.classes.map (·.parents)) c,0<=y/\y < 3+p.classes.length:=fun y hy=>by
  obtain ⟨x,hx,hy⟩:=CT hy
  have:=CS hg _ x hx y hy
  rw [List.length_map] at this;omega
 refine en func66 ntmps66 ?_
 repeat' first | refine gz ?_ | refine An (h33 _) ?_ | refine callP (h33 _) ?_ | refine An (h63 _) ?_ | refine callP (h63 _) ?_ | refine gz ?_ o66 | apply gy<;>intro hh
 generalize lineF (p.classes.map (·.parents)) c=order at *
 generalize DP (Aj p) c=hs at *
 refine BD 8 2 (fun ix hix => ?_)
 refine AJ [2,4,5,7,80] (fun (k:Nat) (out:List Init)=>k<=hs.length/\out.length<=k/\DU p order hs=out++DU p order (hs.drop k)) (fun k out=>[(9,dI k),(8, .slice (out.map Cm) (.tag ix))]) (fun _ out=>σ.set ix (.tail 2 out.length)) (fun k _=>hs.length-k) (0) ([]) (by simp) (fun k out hI => ?_)
 obtain ⟨hkk,hlen,hR⟩:=hI
 by_cases hkl:k < hs.length
 ·rw [A2 hkl,DU] at hR
  have hb1:=hbl hs[k]
  generalize hsk:hs[k]=s at *
  try refine gz ?_ o66
  refine EV [2,4,5,7,9,24,25,26,27,28,29,80] (fun (j:Nat) (fd:Bool) (o2:List Init)=>j<=order.length/\(fd=false->o2=out/\begO p s order=begO p s (order.drop j))/\(fd=true->o2=out++begO p s order)) (fun j fd o2=>[(11,dI j),(10, .bool fd),(8, .slice (o2.map Cm) (.tag ix))]) (fun _ _ o2=>σ.set ix (.tail 2 o2.length)) (fun j _ _=>order.length-j) (0) (false) (out) (by simp) (fun j fd o2 hI => ?_)
  obtain ⟨hj,hF,hT⟩:=hI
  cases hfd:fd with
  | true =>
   have e2:=hT hfd
   subst e2
   by_cases hjl:j < order.length
   ·try refine gz ?_ o66
    exact ⟨k+1,out++begO p s order,⟨by omega,by rw [List.length_append];omega,by rw [hR,List.append_assoc]⟩,td1,wkR⟩
   ·try refine gz ?_ o66
    exact ⟨k+1,out++begO p s order,⟨by omega,by rw [List.length_append];omega,by rw [hR,List.append_assoc]⟩,td1,wkR⟩
  | false =>
   obtain ⟨e2,hB⟩:=hF hfd
   subst e2
   by_cases hjl:j < order.length
   ·rw [A2 hjl,begO] at hB
    have hy:=hmem _ (List.getElem_mem hjl)
    generalize hyj:order[j]=y at *
    by_cases hy3:3<=y
    ·obtain ⟨q,rfl⟩ : ∃ q:Nat,y=3+(q:Int):=⟨(y-3).toNat,by omega⟩
     have hq:q < p.classes.length:=by omega
     have hown:ownF p (3+(q:Int))=true:=by simp only [ownF,Bool.and_eq_true,decide_eq_true_eq];omega
     have hbi:begI p s (3+q)=((p.classes[q]).inits).filter fun x=>decide (x.slot=s):=by
      unfold begI;rw [if_pos hown,show (3+(q:Int)-3).toNat=q by omega,List.getElem?_eq_getElem hq];rfl
     have hinl:=(hwc _ (List.getElem_mem hq)).2
     have hq3:3+(q:Int)-3=q:=by omega
     obtain ⟨has,hI⟩:=Dj hia q hq
     have hu:=(Ez has _ _ hI s).2
     rw [hbi] at hB
     generalize hin:(p.classes[q]).inits=ins at *
     try refine gf (gi hyj (gi hown (gi hq3 hin))) ?_ o66
     refine AJ [2,4,5,7,9,11,12,24,25,26,27,28,29,30,31,32,33,34,35,36,37,38,39,40,41,42,43,44,45,46,47,48,49,50,51,52,53,54,55,56,80] (fun (m:Nat) (o3:List Init)=>m<=ins.length/\o3=o2++(ins.take m).filter (fun x=>decide (x.slot=s))) (fun m o3=>[(13,dI m),(10, .bool (decide ((ins.take m).filter (fun x=>decide (x.slot=s)) ≠ []))),(8, .slice (o3.map Cm) (.tag ix))]) (fun _ o3=>σ.set ix (.tail 2 o3.length)) (fun m _=>ins.length-m) (0) (o2) (by simp) (fun m o3 hI => ?_)
     obtain ⟨hm,hO⟩:=hI
     have hfl:((ins.take m).filter (fun x=>decide (x.slot=s))).length<=1:=Nat.le_trans ((List.take_sublist m ins).filter _).length_le hu
     have ho3:o3.length<=o2.length+1:=by rw [hO,List.length_append];omega
     by_cases hml:m < ins.length
     ·have htk:=List.take_succ_eq_append_getElem hml
      generalize hx:ins[m]=x at *
      repeat' first | refine gf (gi hin (gi hx hsk)) ?_ o66 | apply gy<;>intro hh
      ·have e:(ins.take (m+1)).filter (fun x=>decide (x.slot=s))=(ins.take m).filter (fun x=>decide (x.slot=s))++[x]:=by
        rw [htk,List.filter_append];congr 1;simp [hh]
       exact ⟨m+1,o3++[x],⟨by omega,by rw [e,hO,List.append_assoc]⟩,td1,wkR⟩
      ·have e:(ins.take (m+1)).filter (fun x=>decide (x.slot=s))=(ins.take m).filter (fun x=>decide (x.slot=s)):=by
        rw [htk,List.filter_append];simp [hh]
       exact ⟨m+1,o3,⟨by omega,by rw [e,hO]⟩,td1,wkR⟩
     ·have htk:ins.take m=ins:=List.take_of_length_le (by omega)
      rw [htk] at hO ⊢
      try refine gf hin ?_ o66
      by_cases he:ins.filter (fun x=>decide (x.slot=s))=[]
      ·rw [he] at hO ⊢
       rw [he,if_pos rfl] at hB
       rw [List.append_nil] at hO
       subst hO
       exact ⟨j+1,false,o3,⟨by omega,fun _=>⟨rfl,hB⟩,by simp⟩,td1,wkR⟩
      ·rw [if_neg he] at hB
       exact ⟨j+1,true,o3,⟨by omega,by simp,fun _=>by rw [hO,hB]⟩,td1,wkR⟩
    ·have hown:ownF p y=false:=by simp only [ownF,Bool.and_eq_false_iff,decide_eq_false_iff_not];exact .inl hy3
     have hbi:begI p s y=[]:=by unfold begI;rw [hown];rfl
     rw [hbi,if_pos rfl] at hB
     try refine gf (gi hyj hown) ?_ o66
     exact ⟨j+1,false,o2,⟨by omega,fun _=>⟨rfl,hB⟩,by simp⟩,td1,wkR⟩
   ·rw [A1 hjl,begO] at hB
    try refine gz ?_ o66
    exact ⟨k+1,o2,⟨by omega,by omega,by rw [hR,hB,List.nil_append]⟩,td1,wkR⟩
 ·rw [A1 hkl,DU,List.append_nil] at hR
  try refine gz ?_ o66
  exact finS (σ':=σ) (es:=out.map Cm) ⟨by rw [hR],rfl⟩
theorem Ub (p:BProg) (c:Int) (σ:Sig) (hp:p.wt<=1073741824):DCall prog 26 [.agg (Af p),dI c] σ fun x σ'=>x = .ret (.tup [sl ((if ownF p c && okP p then DU p (lineF (p.classes.map (·.parents)) c) (DP (Aj p) c) else []).map Cm),dI (if ownF p c && okP p then 0 else 2)])/\σ'=σ:=by
 obtain ⟨p1,p2,p3,p4,p5,p6,p7⟩:=p.wt_le
 have hkF:(CU p).isSome=okP p:=by unfold okP;rw [HY]
 refine en func26 ntmps26 ?_
 cases hk:okP p
 ·try refine gf (gi hkF hk) ?_
  exact fe2 (d':=sl []) hk
 ·cases ho:ownF p c
  ·try refine gf (gi hkF (gi hk ho)) ?_
   exact fe2 (d':=sl []) (gi hk ho)
  ·have ho':3<=c/\c < 3+p.classes.length:=by simp only [ownF,Bool.and_eq_true,decide_eq_true_eq] at ho;exact ho
   have h66:=fun (σ:Sig)=>TX p c σ hp (Cp hk) ho'
   repeat' first | refine gf (gi hkF (gi hk ho)) ?_ | refine An (h66 _) ?_ | refine callP (h66 _) ?_ | refine gf (gi hkF (gi hk ho)) ?_ | apply gy<;>intro hh
   exact fe2 (gi hk ho)
theorem Rs (p:BProg) (c:Int) (σ:Sig) (hp:p.wt<=1048576):DCall prog 6 [.agg (Af p),dI c] σ fun x σ'=>x = .ret (.bool true)/\σ'=σ:=by
 have hhl:=DG p c
 have ws:=Ep p
 obtain ⟨E,hE⟩ : ∃ E:Int,E=if ownF p c && okP p then 0 else 2:=⟨_,rfl⟩
 obtain ⟨L,hL⟩ : ∃ L,L=if ownF p c && okP p then hasP p c else []:=⟨_,rfl⟩
 obtain ⟨B,hB⟩ : ∃ B,B=if ownF p c && okP p then beginP p c else []:=⟨_,rfl⟩
 have hl:L.length<=1073741824:=by
  rw [hL];split
  ·omega
  ·exact Nat.zero_le _
 have hbl:B.length<=1073741824:=by
  have:=Hx (De p (linF (p.classes.map (·.parents)) c)) (hasP p c)
  rw [hB];unfold beginP;split
  ·omega
  ·exact Nat.zero_le _
 have hL2:L=if ownF p c && okP p then DP (Aj p) c else []:=by
  rw [hL];split
  ·rename_i h
   simp only [ownF,Bool.and_eq_true,decide_eq_true_eq] at h
   exact Rc (Cp h.2) h.1.1 h.1.2
  ·rfl
 have hB2:B=if ownF p c && okP p then DU p (lineF (p.classes.map (·.parents)) c) (DP (Aj p) c) else []:=by
  rw [hB];split
  ·rename_i h
   simp only [ownF,Bool.and_eq_true,decide_eq_true_eq] at h
   exact P9 (Cp h.2) h.1.1 h.1.2
  ·rfl
 have i23 : ∀ σ:Sig,Ans 23 [.agg (Af p),dI c] σ True (.tup [sl (cI L),dI E]):=fun σ=>ah0 (by rw [hL,hE];exact I3 p c σ (by omega))
 have i24 : ∀ σ:Sig,Ans 24 [.agg (Af p),dI c] σ True (.tup [sl (cI L),dI E]):=fun σ=>ah0 (by rw [hL2,hE];exact Uc p c σ (by omega))
 have i25 : ∀ σ:Sig,Ans 25 [.agg (Af p),dI c] σ True (.tup [sl (B.map Cm),dI E]):=fun σ=>ah0 (by rw [hB,hE];exact GQ p c σ (by omega))
 have i26 : ∀ σ:Sig,Ans 26 [.agg (Af p),dI c] σ True (.tup [sl (B.map Cm),dI E]):=fun σ=>ah0 (by rw [hB2,hE];exact Ub p c σ (by omega))
 have i15 : ∀ σ:Sig,Ans 15 [.slice (cI L) .no, .slice (cI L) .no] σ True (.bool true):=fun σ=>ah0 (by
  have:=I4 L L .no .no σ (by omega)
  simpa using this)
 have i27 : ∀ σ:Sig,Ans 27 [.slice (B.map Cm) .no, .slice (B.map Cm) .no] σ True (.bool true):=fun σ=>ah0 (by
  have:=Li B B .no .no σ (by omega) (by omega)
  simpa using this)
 clear hL hL2 hB hB2 hE hhl ws
 refine en func6 ntmps6 ?_
 try refine gz ?_
 exact fe1 trivial
@[reducible,instance] def a6:=fun p c σ=>ah1 (@Rs p c σ)
end Go.DL
