/- Part of the proof that the last text ends. -/
import Derived.Test.YtlfimpogphmbdaaGreatM19
import Derived.Test.YtlfimpogphmbdaaGreatM18
import Derived.Test.YtlfimpogphmbdaaGreatM15
import Derived.Test.YtlfimpogphmbdaaGreatM08
set_option linter.all false
namespace Go.DL
open Go.Proofs.Tryz
open Go Go.Proofs
set_option maxHeartbeats 8000000
def BI:List Str->Int->List (Str × Int)
 | [],_=>[]
 | s::r,k=>(s,k)::BI r (k+1)
theorem EN (s:Str) : ∀ (l:List Str) (k:Int),hasM s (BI l k)=decide (s ∈ l)
 | [],_=>by simp [BI,hasM]
 | x::r,k=>by rw [BI,hasM,EN s r];by_cases h:s=x<;>simp [h]
theorem HH (s:Str) : ∀ (l:List Str) (k:Nat),s ∈ l->getM 0 s (BI l k)=idxG s l k/\(k:Int)<=idxG s l k/\idxG s l k < k+l.length
 | [],_,h=>by simp at h
 | x::r,k,h=>by
  by_cases e:s=x
  ·subst e;simp [BI,getM,idxG];omega
  ·have:=HH s r (k+1) ((List.mem_cons.1 h).resolve_left e)
   rw [BI,getM,if_neg e,idxG,if_neg (fun h=>e h.symm)]
   rw [show ((k:Int)+1)=((k+1:Nat):Int) by omega]
   simp only [List.length_cons]
   refine ⟨this.1, ?_, ?_⟩<;>omega
theorem Vk {s:Str} {l:List Str} (h:s ∈ l):getM 0 s (BI l 0)=idxG s l 0/\0<=idxG s l 0/\idxG s l 0 < l.length:=by
 have:=HH s l 0 h
 simpa using this
theorem RH (s:Str) : ∀ (l:List Str) (k:Int), ¬ s ∈ l->putM s (k+l.length) (BI l k)=BI (l++[s]) k
 | [],k,_=>by simp [BI,putM]
 | x::r,k,h=>by
  have h1 : ¬ s=x:=fun e=>h (by simp [e])
  have:=RH s r (k+1) fun e=>h (by simp [e])
  rw [BI,putM,if_neg h1,List.cons_append,BI, <- this]
  congr 2;simp only [List.length_cons];omega
def cM (s:List Str):List D:=[.cmap (s.map .str) (s.map fun _ => .bool true)]
def cMs (hs:List (List Str)):List (List D):=hs.map cM
@[simp] theorem cMs_len (hs:List (List Str)):(cMs hs).length=hs.length:=by simp [cMs]
@[simp] theorem cMs_get (hs:List (List Str)) (k:Nat):(cMs hs)[k]? = (hs[k]?).map cM:=by simp [cMs]
@[simp] theorem cMs_all (hs:List (List Str)):(cMs hs).all (fun c=>c.length==1)=true:=by simp [cMs,cM]
theorem cMs_app (hs:List (List Str)) (u:List Str):cMs hs++[cM u]=cMs (hs++[u]):=by simp [cMs]
abbrev pObj (f:FProg) (ic is:Nat) (d:D) (n:Int):DObj := .cells [sl (f.classes.map An),sl (f.methods.map Di),dI f.main.op,dI f.main.n, .str f.main.text,sl (f.main.kids.map Am), .map ic,d, .map is,dI n]
def HasD (S0 V:Sig) (d:D) (hs:List (List Str)):Prop:=(hs=[]/\d = .nils) \/ ∃ ih,d = .slice (cMs hs) (.tag ih)/\V ih=some (.tail 1 hs.length)/\S0 ih=none
theorem HasD.set {S0 V:Sig} {d:D} {hs:List (List Str)} (h:HasD S0 V d hs) {k:Nat} {o:DObj} (hk : ∀ n,V k ≠ some (.tail 1 n)):HasD S0 (V.set k o) d hs:=by
 rcases h with h | ⟨ih,h1,h2,h3⟩
 ·exact .inl h
 ·refine .inr ⟨ih,h1, ?_,h3⟩
  rw [w8 _ _ fun e=>hk _ (e ▸ h2)];exact h2
theorem Ri (s:List Str):(s.map D.str).zip (s.map fun _=>D.bool true)=eSS s:=by
 unfold eSS eS
 induction s with
 | nil=>rfl
 | cons x s ih=>simp only [List.map_cons,List.zip_cons_cons,ih]
theorem NE (s:List Str) (j:Nat):(eSS s).eraseIdx j=eSS (s.eraseIdx j):=by
 unfold eSS eS
 induction s generalizing j with
 | nil=>simp
 | cons x s ih=>cases j with
  | zero=>simp
  | succ j=>simp [ih]
theorem Um {s:List Str} {j:Nat} {k v:D} (h:(eSS s)[j]? = some (k,v)) : ∃ hj:j < s.length,k = .str s[j]/\v = .bool true:=by
 unfold eSS eS at h
 rw [List.getElem?_map] at h
 by_cases hj:j < s.length
 ·rw [List.getElem?_eq_getElem hj] at h
  simp only [Option.map_some,Option.some.injEq,Prod.mk.injEq] at h
  exact ⟨hj,h.1.symm,h.2.symm⟩
 ·rw [List.getElem?_eq_none (by omega)] at h;cases h
theorem Je {s:List Str} {j:Nat} (hj:j < s.length) (x:Str):x ∈ s ↔ x=s[j]\/x ∈ s.eraseIdx j:=by
 have e:s=s.take j++s[j]::s.drop (j+1):=by rw [<- List.drop_eq_getElem_cons hj,List.take_append_drop]
 rw [List.eraseIdx_eq_take_drop_succ]
 constructor
 ·intro h;rw [e] at h;simp only [List.mem_append,List.mem_cons] at h ⊢; grind
 ·rintro (rfl | h)
  ·exact List.getElem_mem hj
  ·rw [e];simp only [List.mem_append,List.mem_cons] at h ⊢; grind
structure PS (f:FProg) (ip ic is:Nat) (S0 V:Sig) (names slots:List Str) (hs:List (List Str)) (d:D) (n:Int):Prop where
 prg:V ip=some (pObj f ic is d n)
 cls:V ic=some (.map (eSN (BI names 0)))
 slo:V is=some (.map (eSS slots))
 has:HasD S0 V d hs
 keep:Keep (fun j=>j=ip\/j=ic\/j=is) S0 V
theorem PS.non {f:FProg} {ip ic is:Nat} {S0 V:Sig} {names slots:List Str} {hs:List (List Str)} {d:D} {n:Int} (h:PS f ip ic is S0 V names slots hs d n) (k:Nat) (hk:V k=none):S0 k=none:=by
 cases hc:S0 k with
 | none=>rfl
 | some o =>
  by_cases ht:k=ip\/k=ic\/k=is
  ·rcases ht with rfl | rfl | rfl
   ·rw [h.prg] at hk;cases hk
   ·rw [h.cls] at hk;cases hk
   ·rw [h.slo] at hk;cases hk
  ·rw [h.keep k o hc ht] at hk;cases hk
theorem PS.fresh {f:FProg} {ip ic is:Nat} {S0 V:Sig} {names slots:List Str} {hs:List (List Str)} {d:D} {n:Int} (h:PS f ip ic is S0 V names slots hs d n) {k:Nat} {o:DObj} (hk:V k=none):PS f ip ic is S0 (V.set k o) names slots hs d n:=by
 have e : ∀ j x,V j=some x->j ≠ k:=fun j x h e=>by rw [e,hk] at h;cases h
 refine ⟨by rw [w8 _ _ (e _ _ h.prg)];exact h.prg,by rw [w8 _ _ (e _ _ h.cls)];exact h.cls,by rw [w8 _ _ (e _ _ h.slo)];exact h.slo,h.has.set (by rw [hk];simp),fun j x h1 h2 => ?_⟩
 have:=h.keep j x h1 h2
 rw [w8 _ _ (e _ _ this)];exact this
theorem PS.other {f:FProg} {ip ic is:Nat} {S0 V:Sig} {names slots:List Str} {hs:List (List Str)} {d:D} {n:Int} (h:PS f ip ic is S0 V names slots hs d n) {k:Nat} {o:DObj} (h0:S0 k=none) (hk : ∀ n,V k ≠ some (.tail 1 n)) (h1:ip ≠ k) (h2:ic ≠ k) (h3:is ≠ k):PS f ip ic is S0 (V.set k o) names slots hs d n :=
 ⟨by rw [w8 _ _ h1];exact h.prg,by rw [w8 _ _ h2];exact h.cls,by rw [w8 _ _ h3];exact h.slo,h.has.set hk,fun j x h4 h5=>by
  rw [w8 _ _ fun e=>by rw [e,h0] at h4;cases h4];exact h.keep j x h4 h5⟩
def parE (names:List Str):List Str->List Str->Bool
 | _,[]=>true
 | seen,s::r=>decide (s ∈ names) && ((AM s && !decide (s ∈ seen)) && parE names (seen++[s]) r)
def sloE:List Str->List Str->Bool
 | _,[]=>true
 | seen,s::r=>(AM s && !decide (s ∈ seen)) && sloE (seen++[s]) r
def iniE (mine:List Str):List Str->List FInit->Bool
 | _,[]=>true
 | seen,x::r=>(decide (x.slot ∈ mine) && inB x.n) && ((AM x.slot && !decide (x.slot ∈ seen)) && iniE mine (seen++[x.slot]) r)
def N1 (names:List Str) (hs:List (List Str)) (s:Str):List Str:=(hs[(idxG s names 0).toNat]?).getD []
def E5 (names:List Str) (hs:List (List Str)) (c:FClass):List Str:=c.parents.flatMap (N1 names hs)++c.slots
def clsE:List Str->List Str->List (List Str)->List FClass->Bool
 | _,_,_,[]=>true
 | names,slots,hs,c::r=>decide (c.parents.length<=3/\c.slots.length<=4) && (parE names [] c.parents && (sloE slots c.slots && (iniE (E5 names hs c) [] c.inits && ((AM c.name && !decide (c.name ∈ names)) &&
   clsE (names++[c.name]) (slots++c.slots) (hs++[E5 names hs c]) r))))
def SameE (a b:List (List Str)):Prop:=a.length=b.length /\ ∀ (k:Nat) (x:Str),(x ∈ (a[k]?).getD [] ↔ x ∈ (b[k]?).getD [])
theorem HF {m m':List Str} (h : ∀ x,x ∈ m ↔ x ∈ m') : ∀ (l:List FInit) (seen:List Str),iniE m seen l=iniE m' seen l
 | [],_=>rfl
 | x::r,seen=>by rw [iniE,iniE,HF h r,decide_eq_decide.2 (h x.slot)]
theorem Ld : ∀ (cs:List FClass) (names slots:List Str) (a b:List (List Str)),SameE a b->clsE names slots a cs=clsE names slots b cs
 | [],_,_,_,_,_=>rfl
 | c::r,names,slots,a,b,h=>by
  have hm : ∀ x,x ∈ E5 names a c ↔ x ∈ E5 names b c:=fun x=>by
   simp only [E5,List.mem_append,List.mem_flatMap,N1]
   exact or_congr (exists_congr fun s=>and_congr_right fun _=>h.2 _ x) Iff.rfl
  rw [clsE,clsE,HF hm,Ld r _ _ (a++[E5 names a c]) (b++[E5 names b c])]
  refine ⟨by simp [h.1],fun k x => ?_⟩
  by_cases h1:k < a.length
  ·rw [List.getElem?_append_left h1,List.getElem?_append_left (by rw [<- h.1];exact h1)];exact h.2 k x
  ·rw [List.getElem?_append_right (by omega),List.getElem?_append_right (by rw [<- h.1];omega),h.1]
   by_cases h2:k-b.length=0
   ·rw [h2];simpa using hm x
   ·rw [List.getElem?_eq_none (by simp;omega),List.getElem?_eq_none (by simp;omega)]
def clsB (f:FProg):Bool:=decide (f.classes.length<=10) && clsE [] [] [] f.classes
theorem A1 {V:Sig} {a b:Nat} {o:DObj} (h:V a=some o) (k:V b=none):a ≠ b:=fun e=>by rw [e,k] at h;cases h
theorem Ac {V:Sig} {a b:Nat} {o x:DObj} (h:V a=some o) (k:V b=some x) (hx:o ≠ x):a ≠ b:=fun e=>by rw [e,k] at h;cases h;exact hx rfl
structure Dst (ip ic is isn im ia ii:Nat):Prop where
 a1:ip ≠ ic
 a2:ip ≠ is
 a3:ip ≠ isn
 a4:ip ≠ im
 a5:ip ≠ ia
 a6:ip ≠ ii
 b1:ic ≠ is
 b2:ic ≠ isn
 b3:ic ≠ im
 b4:ic ≠ ia
 b5:ic ≠ ii
 c1:is ≠ isn
 c2:is ≠ im
 c3:is ≠ ia
 c4:is ≠ ii
 d1:isn ≠ im
 d2:isn ≠ ia
 d3:isn ≠ ii
 e1:im ≠ ia
 e2:im ≠ ii
 e3:ia ≠ ii
structure IS (f:FProg) (ip ic is isn im ia ii:Nat) (S0 V:Sig) (names slots:List Str) (hs:List (List Str)) (d:D) (sn t a b:List Str):Prop where
 ps:PS f ip ic is S0 V names slots hs d 0
 osn:V isn=some (.map (eSS sn))
 om:V im=some (.map (eSS t))
 oa:V ia=some (.map (eSS a))
 oi:V ii=some (.map (eSS b))
section
variable {f:FProg} {ip ic is isn im ia ii:Nat} {S0 V:Sig} {names slots:List Str} {hs:List (List Str)} {d:D} {sn t a b:List Str}
theorem FN {k:Nat} {m:List (D × D)} (h:V k=some (.map m)) : ∀ n,V k ≠ some (.tail 1 n):=fun n e=>by rw [h] at e;cases e
theorem RN {k:Nat} {l:List (D × D)} {la:Option (D × D)} (h:V k=some (.iter l la)) : ∀ n,V k ≠ some (.tail 1 n):=fun n e=>by rw [h] at e;cases e
theorem IS.setm (h:IS f ip ic is isn im ia ii S0 V names slots hs d sn t a b) (D:Dst ip ic is isn im ia ii) (h0:S0 im=none) (t':List Str):IS f ip ic is isn im ia ii S0 (V.set im (.map (eSS t'))) names slots hs d sn t' a b :=
 ⟨h.ps.other h0 (FN h.om) D.a4 D.b3 D.c2,by rw [w8 _ _ D.d1];exact h.osn,w7 .., by rw [w8 _ _ (Ne.symm D.e1)];exact h.oa,by rw [w8 _ _ (Ne.symm D.e2)];exact h.oi⟩
theorem IS.seta (h:IS f ip ic is isn im ia ii S0 V names slots hs d sn t a b) (D:Dst ip ic is isn im ia ii) (h0:S0 ia=none) (a':List Str):IS f ip ic is isn im ia ii S0 (V.set ia (.map (eSS a'))) names slots hs d sn t a' b :=
 ⟨h.ps.other h0 (FN h.oa) D.a5 D.b4 D.c3,by rw [w8 _ _ D.d2];exact h.osn,by rw [w8 _ _ D.e1];exact h.om,w7 .., by rw [w8 _ _ (Ne.symm D.e3)];exact h.oi⟩
theorem IS.seti (h:IS f ip ic is isn im ia ii S0 V names slots hs d sn t a b) (D:Dst ip ic is isn im ia ii) (h0:S0 ii=none) (b':List Str):IS f ip ic is isn im ia ii S0 (V.set ii (.map (eSS b'))) names slots hs d sn t a b' :=
 ⟨h.ps.other h0 (FN h.oi) D.a6 D.b5 D.c4,by rw [w8 _ _ D.d3];exact h.osn,by rw [w8 _ _ D.e2];exact h.om,by rw [w8 _ _ D.e3];exact h.oa,w7 ..⟩
theorem IS.setn (h:IS f ip ic is isn im ia ii S0 V names slots hs d sn t a b) (D:Dst ip ic is isn im ia ii) (h0:S0 isn=none) (n':List Str):IS f ip ic is isn im ia ii S0 (V.set isn (.map (eSS n'))) names slots hs d n' t a b :=
 ⟨h.ps.other h0 (FN h.osn) D.a3 D.b2 D.c1,w7 .., by rw [w8 _ _ (Ne.symm D.d1)];exact h.om,by rw [w8 _ _ (Ne.symm D.d2)];exact h.oa,by rw [w8 _ _ (Ne.symm D.d3)];exact h.oi⟩
theorem IS.sets (h:IS f ip ic is isn im ia ii S0 V names slots hs d sn t a b) (D:Dst ip ic is isn im ia ii) (s':List Str):IS f ip ic is isn im ia ii S0 (V.set is (.map (eSS s'))) names s' hs d sn t a b :=
 ⟨⟨by rw [w8 _ _ D.a2];exact h.ps.prg,by rw [w8 _ _ D.b1];exact h.ps.cls,w7 .., h.ps.has.set (FN h.ps.slo),fun j x h1 h2=>by rw [w8 _ _ fun e=>h2 (.inr (.inr e))];exact h.ps.keep j x h1 h2⟩,
  by rw [w8 _ _ (Ne.symm D.c1)];exact h.osn,by rw [w8 _ _ (Ne.symm D.c2)];exact h.om,by rw [w8 _ _ (Ne.symm D.c3)];exact h.oa,by rw [w8 _ _ (Ne.symm D.c4)];exact h.oi⟩
theorem IS.fresh (h:IS f ip ic is isn im ia ii S0 V names slots hs d sn t a b) {k:Nat} {o:DObj} (hk:V k=none):IS f ip ic is isn im ia ii S0 (V.set k o) names slots hs d sn t a b :=
 ⟨h.ps.fresh hk,by rw [w8 _ _ (A1 h.osn hk)];exact h.osn,by rw [w8 _ _ (A1 h.om hk)];exact h.om,by rw [w8 _ _ (A1 h.oa hk)];exact h.oa,by rw [w8 _ _ (A1 h.oi hk)];exact h.oi⟩
theorem IS.iter (h:IS f ip ic is isn im ia ii S0 V names slots hs d sn t a b) {k:Nat} {o:DObj} {l:List (D × D)} {la:Option (D × D)} (h0:S0 k=none) (hk:V k=some (.iter l la)):IS f ip ic is isn im ia ii S0 (V.set k o) names slots hs d sn t a b :=
 have e : ∀ j m,V j=some (.map m)->j ≠ k:=fun j m hj=>Ac hj hk (by simp)
 ⟨h.ps.other h0 (RN hk) (Ac h.ps.prg hk (by simp)) (e _ _ h.ps.cls) (e _ _ h.ps.slo),by rw [w8 _ _ (e _ _ h.osn)];exact h.osn,by rw [w8 _ _ (e _ _ h.om)];exact h.om,by rw [w8 _ _ (e _ _ h.oa)];exact h.oa,by rw [w8 _ _ (e _ _ h.oi)];exact h.oi⟩
theorem IS.delm (h:IS f ip ic is isn im ia ii S0 V names slots hs d sn t a b) (D:Dst ip ic is isn im ia ii) (h0:S0 im=none):PS f ip ic is S0 (V.del im) names slots hs d 0:=by
 have e : ∀ j,j ≠ im->(V.del im) j=V j:=fun j hj=>by simp [Sig.del,hj]
 refine ⟨by rw [e _ D.a4];exact h.ps.prg,by rw [e _ D.b3];exact h.ps.cls,by rw [e _ D.c2];exact h.ps.slo, ?_,fun j x h1 h2 => ?_⟩
 ·rcases h.ps.has with h1 | ⟨ih,h1,h2,h3⟩
  ·exact .inl h1
  ·exact .inr ⟨ih,h1,by rw [e _ (Ac h2 h.om (by simp))];exact h2,h3⟩
 ·rw [e _ fun e=>by rw [e,h0] at h1;cases h1];exact h.ps.keep j x h1 h2
theorem PS.setc {n:Int} (h:PS f ip ic is S0 V names slots hs d n) (a1:ip ≠ ic) (b1:ic ≠ is) {s:Str} (_ : ¬ s ∈ names):PS f ip ic is S0 (V.set ic (.map (eSN (BI (names++[s]) 0)))) (names++[s]) slots hs d n :=
 ⟨by rw [w8 _ _ a1];exact h.prg,w7 .., by rw [w8 _ _ (Ne.symm b1)];exact h.slo,h.has.set (FN h.cls),fun j x h1 h2=>by rw [w8 _ _ fun e=>h2 (.inr (.inl e))];exact h.keep j x h1 h2⟩
theorem PS.setp {n n':Int} {d':D} {hs':List (List Str)} (h:PS f ip ic is S0 V names slots hs d n) (a1:ip ≠ ic) (a2:ip ≠ is) (hd:HasD S0 (V.set ip (pObj f ic is d' n')) d' hs'):PS f ip ic is S0 (V.set ip (pObj f ic is d' n')) names slots hs' d' n' :=
 ⟨w7 .., by rw [w8 _ _ (Ne.symm a1)];exact h.cls,by rw [w8 _ _ (Ne.symm a2)];exact h.slo,hd,fun j x h1 h2=>by rw [w8 _ _ fun e=>h2 (.inl e)];exact h.keep j x h1 h2⟩
end
theorem Un (u:List Str):(eSS u).map (·.1)=u.map D.str:=by simp [eSS,eS]
theorem Ul (u:List Str):(eSS u).map (·.2)=u.map fun _=>D.bool true:=by simp [eSS,eS]
def ClsR (f:FProg) (ip ic is:Nat) (V:Sig) (x:DE) (S':Sig):Prop :=
 if clsB f then x = .ret (.tup []) /\ ∃ hs d,PS f ip ic is V S' (f.classes.map (·.name)) (f.classes.flatMap (·.slots)) hs d f.classes.length
 else x = .panic unf2 /\ ∃ names slots hs d n,PS f ip ic is V S' names slots hs d n
theorem KY (f:FProg) (ip ic is:Nat) (V:Sig) (hp:f.wt<=1073741824) (h0:PS f ip ic is V V [] [] [] .nils 0) (hcs:ic ≠ is):DCall prog 185 [.ptr ip 0] V (ClsR f ip ic is V):=by
 obtain ⟨p1,p2,p3,p4,p5⟩:=f.wt_le
 have hpan:clsB f=false -> ∀ S' names slots hs d n,PS f ip ic is V S' names slots hs d n->ClsR f ip ic is V (.panic unf2) S':=fun h S' names slots hs d n hP=>by
  unfold ClsR;rw [h,if_neg (by simp)];exact ⟨rfl,_,_,_,_,_,hP⟩
 have hip:=h0.prg
 refine en func185 ntmps185 ?_
 by_cases h10:f.classes.length<=10
 ·refine gf hip ?_ o185
  refine LE (fun isn hsn => ?_)
  have hn0:=h0.keep isn
  have hPn:=h0.fresh (o := .map (eSS [])) hsn
  have hip2:=hPn.prg
  refine gf hip2 ?_ o185
  have d1:isn ≠ ip:=fun e=>by rw [e,hip] at hsn;cases hsn
  have d2:isn ≠ ic:=fun e=>by rw [e,h0.cls] at hsn;cases hsn
  have d3:isn ≠ is:=fun e=>by rw [e,h0.slo] at hsn;cases hsn
  have hn0':=A1 h0.prg hsn
  have hB0:clsB f=clsE [] [] [] f.classes:=by unfold clsB;rw [decide_eq_true h10,Bool.true_and]
  refine Qe [0,2,30,31,147,148,149,150,151,152,153,154,155] (fun (i:Nat) (S1:Sig) (hs:List (List Str)) (d:D)=>i<=f.classes.length/\hs.length=i/\S1 isn=some (.map (eSS ((f.classes.take i).map (·.name))))/\PS f ip ic is V S1 ((f.classes.take i).map (·.name)) ((f.classes.take i).flatMap (·.slots)) hs d 0/\clsB f=clsE ((f.classes.take i).map (·.name)) ((f.classes.take i).flatMap (·.slots)) hs (f.classes.drop i)) (fun i _ _ _=>[(32,dI i)]) (fun _ S1 _ _=>S1) (fun i _ _ _=>f.classes.length-i) (0) (_) ([]) (.nils) (by exact ⟨by omega,rfl,w7 .., hPn,hB0⟩) (fun i S1 hs d hI => ?_)
  obtain ⟨hi,hhl,hsn1,hP,hB⟩:=hI
  have hip1:=hP.prg
  by_cases hil:i < f.classes.length
  ·rw [A3 hil,clsE] at hB
   have hcw:=p4 i hil
   have hnl:((f.classes.take i).map (·.name)).length=i:=by simp;omega
   generalize hcl:f.classes[i]=c at *
   obtain ⟨c1,c2,c3,c4,c5⟩:=c.wt_le
   have c2':=AZ c.parents
   have c3':=AZ c.slots
   generalize hnm:(f.classes.take i).map (·.name)=names at *
   generalize hsl:(f.classes.take i).flatMap (·.slots)=slots at *
   by_cases hlen:c.parents.length<=3/\c.slots.length<=4
   ·rw [decide_eq_true hlen,Bool.true_and] at hB
    refine gf hcl ?_ o185
    refine LE (fun im him => ?_)
    refine LE (fun ia hia => ?_)
    refine LE (fun ii hii => ?_)
    have hi0' : ∀ {S':Sig} {names slots hs d n},PS f ip ic is V S' names slots hs d n -> ∀ k,S' k=none->V k=none:=fun h=>h.non
    have hi0:=hi0' hP
    obtain ⟨ea,ha1⟩:=A4 hia
    obtain ⟨ei,hi1⟩:=A4 hii
    obtain ⟨ei2,hi2⟩:=A4 hi1
    have hD:Dst ip ic is isn im ia ii:=⟨Ac hP.prg hP.cls (by simp),Ac hP.prg hP.slo (by simp),Ac hP.prg hsn1 (by simp),A1 hP.prg him,A1 hP.prg ha1,A1 hP.prg hi2,
     hcs,Ne.symm d2,A1 hP.cls him,A1 hP.cls ha1,A1 hP.cls hi2,Ne.symm d3,A1 hP.slo him,A1 hP.slo ha1,A1 hP.slo hi2,A1 hsn1 him,A1 hsn1 ha1,A1 hsn1 hi2,Ne.symm ea,Ne.symm ei2,Ne.symm ei⟩
    have hS0:IS f ip ic is isn im ia ii V (((S1.set im (.map (eSS []))).set ia (.map (eSS []))).set ii (.map (eSS []))) names slots hs d names [] [] [] :=
     ⟨((hP.fresh him).fresh hia).fresh hii,by rw [w8 _ _ hD.d3,w8 _ _ hD.d2,w8 _ _ hD.d1];exact hsn1,by rw [w8 _ _ hD.e2,w8 _ _ hD.e1,w7],by rw [w8 _ _ hD.e3,w7],w7 ..⟩
    have z1:=hi0 im him
    have z2:=hi0 ia ha1
    have z3:=hi0 ii hi2
    have z4:V isn=none:=hsn
    clear hn0
    generalize (((S1.set im (.map (eSS []))).set ia (.map (eSS []))).set ii (.map (eSS [])))=S2 at *
    refine gf hcl ?_ o185
    refine De [0,2,3,4,5,6,7,14,16,30,31,32,33,34,35,36,37,38,39,40,41,42,43,44,45,46,47,48,49,50,51,52,53,87,88,89,90,91,92,93,94,95,96,97,98,99,100,101,102,103,104,105,106,107,108,109,110,111,112,113,114,115,116,117,118,119,120,121,122,123,124,125,126,127,128,129,130,131,132,133,134,135,136,137,138,139,140,141,142,143,144,145,146,147,148,149,150,151,152,153,154,155] (fun (j:Nat) (S3:Sig) (t:List Str)=>j<=c.parents.length/\IS f ip ic is isn im ia ii V S3 names slots hs d names t (c.parents.take j) []/\(∀ x,x ∈ t ↔ x ∈ (c.parents.take j).flatMap (N1 names hs))/\clsB f=(parE names (c.parents.take j) (c.parents.drop j) && (sloE slots c.slots && (iniE (E5 names hs c) [] c.inits && ((AM c.name && !decide (c.name ∈ names)) && clsE (names++[c.name]) (slots++c.slots) (hs++[E5 names hs c]) (f.classes.drop (i+1))))))) (fun j _ _=>[(54,dI j)]) (fun _ S3 _=>S3) (fun j _ _=>c.parents.length-j) (0) (S2) ([]) (by exact ⟨by omega,hS0,by simp,hB⟩) (fun j S3 t hI => ?_)
    clear hB
    obtain ⟨hj,hS,ht,hB⟩:=hI
    by_cases hjl:j < c.parents.length
    ·rw [A3 hjl,parE] at hB
     have o1:=hS.ps.prg
     have o2:=hS.ps.cls
     have hpl:(c.parents[j]).length<=1073741824:=by have:=Iv c.parents j hjl;omega
     by_cases hmem:c.parents[j] ∈ names
     ·rw [decide_eq_true hmem,Bool.true_and] at hB
      obtain ⟨g1,g2,g3⟩:=Vk hmem
      refine gf (gi hcl (gi o1 (gi o2 (gi EN hmem)))) ?_ o185
      refine Ab (Et c.parents[j] ia (c.parents.take j) S3 hS.oa hpl) (fun e S4 hr => ?_) (fun e S4 hr => ?_)
      ·rcases hr with ⟨q1,q2,hU4⟩ | ⟨_,q2,_⟩
       ·simp only [DE.ret.injEq] at q2
        subst q2
        rw [q1,Bool.true_and] at hB
        have hS4:=hS.seta hD z2 (c.parents.take j++[c.parents[j]])
        rw [<- hU4, <- AP hjl] at hS4
        rw [<- AP hjl] at hB
        clear hU4
        have o3:=hS4.ps.prg
        rcases hS4.ps.has with ⟨hh0,_⟩ | ⟨ih,hd,hih,_⟩
        ·rw [hh0] at hhl;simp at hhl;omega
        ·obtain ⟨q,hq⟩ : ∃ q:Nat,getM 0 c.parents[j] (BI names 0)=(q:Int):=⟨(getM 0 c.parents[j] (BI names 0)).toNat,by omega⟩
         have hqh:q < hs.length:=by omega
         have hat:N1 names hs c.parents[j]=hs[q]:=by unfold N1;rw [show (idxG c.parents[j] names 0).toNat=q by omega,List.getElem?_eq_getElem hqh];rfl
         have hcm:cM hs[q]=[.cmap (hs[q].map .str) (hs[q].map fun _ => .bool true)]:=rfl
         rw [hd] at o3
         refine gf (gi o3 (gi hq hcm)) ?_ o185
         refine rng (kt:=9) (et:=4) (l:=eSS hs[q]) (fun it hit => ?_) (hx:=by rw [<- Ri];with_unfolding_all rfl)
         have hS5:=hS4.fresh (o := .iter (eSS hs[q]) none) hit
         have z5:=hi0' hS4.ps it hit
         refine gz ?_ o185
         refine Qe [0,2,3,4,5,6,7,9,10,11,14,16,30,31,32,33,34,35,36,37,38,39,40,41,42,43,44,45,46,47,48,49,50,51,52,53,54,55,56,57,58,59,60,61,62,63,64,65,66,67,68,69,70,71,72,73,74,75,76,77,78,79,86,87,88,89,90,91,92,93,94,95,96,97,98,99,100,101,102,103,104,105,106,107,108,109,110,111,112,113,114,115,116,117,118,119,120,121,122,123,124,125,126,127,128,129,130,131,132,133,134,135,136,137,138,139,140,141,142,143,144,145,146,147,148,149,150,151,152,153,154,155] (fun (L:List Str) (u:List Str) (S5:Sig) (la:Option (D × D))=>(∀ x,(x ∈ u\/x ∈ L) ↔ (x ∈ t\/x ∈ hs[q]))/\IS f ip ic is isn im ia ii V S5 names slots hs d names u (c.parents.take (j+1)) []/\S5 it=some (.iter (eSS L) la)) (fun _ _ _ _=>[]) (fun _ _ S5 _=>S5) (fun L _ _ _=>L.length) (hs[q]) (t) (_) (none) (by exact ⟨fun x=>Iff.rfl,hS5,w7 ..⟩) (fun L u S5 la hI => ?_)
         obtain ⟨hL,hS6,hit6⟩:=hI
         refine gz ?_ o185
         refine nxt (fun hL0 => ?_) (fun jj k v hkv => ?_) (hi:=hit6)
         ·have hL1:L=[]:=by unfold eSS eS at hL0;simpa using hL0
          subst hL1
          refine gz ?_ o185
          exact ⟨j+1,S5,u,by refine ⟨by omega,hS6,fun x => ?_,hB⟩;rw [AP hjl,List.flatMap_append,List.mem_append, <- ht x,List.flatMap_cons,List.flatMap_nil,List.append_nil,hat, <- hL x];simp,td1,wkR⟩
         ·obtain ⟨hjj,rfl,rfl⟩:=Um hkv
          rw [NE]
          have hS7:=hS6.iter (o := .iter (eSS (L.eraseIdx jj)) (some (D.str L[jj],D.bool true))) z5 hit6
          have o7:=hS7.om
          refine gz ?_ o185
          refine ent ?_
          refine gf o7 ?_ o185
          have hle:(L.eraseIdx jj).length < L.length:=by rw [List.length_eraseIdx,if_pos hjj];omega
          have hti:it ≠ im:=fun e=>by rw [e,hS6.om] at hit6;cases hit6
          exact ⟨L.eraseIdx jj,ins L[jj] u,_,_,by refine ⟨fun x => ?_,hS7.setm hD z1 _,by rw [w8 _ _ hti];exact w7 ..⟩;rw [Jd, <- hL x,Je hjj x];grind,td1,wkR⟩
       ·cases q2
      ·rcases hr with ⟨_,q2,_⟩ | ⟨q1,q2,hU4⟩
       ·cases q2
       ·have hF:clsB f=false:=by rw [hB,q1];rfl
        simp only [DE.panic.injEq] at q2
        subst q2 hU4
        exact finP (S':=_) (hpan hF _ _ _ _ _ _ hS.ps)
     ·have hF:clsB f=false:=by rw [hB,decide_eq_false hmem];rfl
      repeat' first | (exact finP (S':=S3) (hpan hF _ _ _ _ _ _ hS.ps)) | refine gf (gi hcl (gi o1 (gi o2 (gi EN hmem)))) ?_ o185 | apply gy<;>intro hh
    ·rw [A2 hjl,parE,Bool.true_and] at hB
     rw [List.take_of_length_le (by omega)] at hS ht
     refine gf hcl ?_ o185
     refine De [0,2,3,4,5,6,7,9,10,11,12,16,30,31,32,33,34,35,36,37,38,39,40,41,42,43,44,45,46,47,48,49,50,51,52,53,54,55,56,57,58,59,60,61,62,63,64,65,66,67,68,69,70,71,72,73,74,75,76,77,78,79,80,81,82,83,84,85,86,87,88,89,103,104,105,106,107,108,109,110,111,112,113,114,115,116,117,118,119,120,121,122,123,124,125,126,127,128,129,130,131,132,133,134,135,136,137,138,139,140,141,142,143,144,145,146,147,148,149,150,151,152,153,154,155] (fun (k:Nat) (S4:Sig) (u:List Str)=>k<=c.slots.length/\IS f ip ic is isn im ia ii V S4 names (slots++c.slots.take k) hs d names u c.parents []/\(∀ x,x ∈ u ↔ (x ∈ c.parents.flatMap (N1 names hs)\/x ∈ c.slots.take k))/\clsB f=(sloE (slots++c.slots.take k) (c.slots.drop k) && (iniE (E5 names hs c) [] c.inits && ((AM c.name && !decide (c.name ∈ names)) && clsE (names++[c.name]) (slots++c.slots) (hs++[E5 names hs c]) (f.classes.drop (i+1)))))) (fun k _ _=>[(90,dI k)]) (fun _ S4 _=>S4) (fun k _ _=>c.slots.length-k) (0) (S3) (t) (by exact ⟨by omega,by simpa using hS,by simpa using ht,by simpa using hB⟩) (fun k S4 u hI => ?_)
     clear hB hS ht
     obtain ⟨hk,hS,ht,hB⟩:=hI
     by_cases hkl:k < c.slots.length
     ·rw [A3 hkl,sloE] at hB
      have o1:=hS.ps.prg
      have hpl:(c.slots[k]).length<=1073741824:=by have:=Iv c.slots k hkl;omega
      refine gf (gi hcl o1) ?_ o185
      refine Ab (Et c.slots[k] is (slots++c.slots.take k) S4 hS.ps.slo hpl) (fun e S5 hr => ?_) (fun e S5 hr => ?_)
      ·rcases hr with ⟨q1,q2,hU5⟩ | ⟨_,q2,_⟩
       ·simp only [DE.ret.injEq] at q2
        subst q2
        have hS5:=hS.sets hD (slots++c.slots.take k++[c.slots[k]])
        rw [<- hU5,List.append_assoc, <- AP hkl] at hS5
        rw [q1,Bool.true_and,List.append_assoc, <- AP hkl] at hB
        clear hU5
        have o3:=hS5.om
        refine gf o3 ?_ o185
        exact ⟨k+1,_,ins c.slots[k] u,by refine ⟨by omega,hS5.setm hD z1 _,fun x => ?_,hB⟩;rw [Jd,ht x,AP hkl,List.mem_append,List.mem_singleton];grind,td1,wkR⟩
       ·cases q2
      ·rcases hr with ⟨_,q2,_⟩ | ⟨q1,q2,hU5⟩
       ·cases q2
       ·have hF:clsB f=false:=by rw [hB,q1];rfl
        simp only [DE.panic.injEq] at q2
        subst q2 hU5
        exact finP (S':=_) (hpan hF _ _ _ _ _ _ hS.ps)
     ·rw [A2 hkl,sloE,Bool.true_and] at hB
      rw [List.take_of_length_le (by omega)] at hS ht
      have htm : ∀ x,x ∈ u ↔ x ∈ E5 names hs c:=fun x=>by rw [ht x,E5,List.mem_append]
      rw [<- HF htm] at hB
      refine gf hcl ?_ o185
      refine AQ [0,2,3,4,5,6,7,9,10,11,12,14,30,31,32,33,34,35,36,37,38,39,40,41,42,43,44,45,46,47,48,49,50,51,52,53,54,55,56,57,58,59,60,61,62,63,64,65,66,67,68,69,70,71,72,73,74,75,76,77,78,79,80,81,82,83,84,85,86,87,88,89,90,91,92,93,94,95,96,97,98,99,100,101,102,103,104,105,125,126,127,128,129,130,131,132,133,134,135,136,137,138,139,140,141,142,143,144,145,146,147,148,149,150,151,152,153,154,155] (fun (q:Nat) (S5:Sig)=>q<=c.inits.length/\IS f ip ic is isn im ia ii V S5 names (slots++c.slots) hs d names u c.parents ((c.inits.take q).map (·.slot))/\clsB f=(iniE u ((c.inits.take q).map (·.slot)) (c.inits.drop q) && ((AM c.name && !decide (c.name ∈ names)) && clsE (names++[c.name]) (slots++c.slots) (hs++[E5 names hs c]) (f.classes.drop (i+1))))) (fun q _=>[(106,dI q)]) (fun _ S5=>S5) (fun q _=>c.inits.length-q) (0) (S4) (by exact ⟨by omega,by simpa using hS,by simpa using hB⟩) (fun q S5 hI => ?_)
      clear hB hS
      obtain ⟨hq,hS,hB⟩:=hI
      by_cases hql:q < c.inits.length
      ·rw [A3 hql,iniE] at hB
       have o1:=hS.om
       have hpl:(c.inits[q]).slot.length<=1073741824:=by have:=c5 q hql;omega
       generalize hx:c.inits[q]=x at *
       cases hc1:decide (x.slot ∈ u) && inB x.n with
       | false =>
        have hF:clsB f=false:=by rw [hB,hc1];rfl
        repeat' first | (exact finP (S':=_) (hpan hF _ _ _ _ _ _ hS.ps)) | refine gf (gi hcl (gi o1 hx)) ?_ o185 | apply gy<;>intro hh
        rename_i k1
        rw [decide_eq_true k1,hh] at hc1;cases hc1
       | true =>
        rw [hc1,Bool.true_and] at hB
        simp only [Bool.and_eq_true,decide_eq_true_eq] at hc1
        refine gf (gi hcl (gi o1 (gi hx (gi hc1.1 hc1.2)))) ?_ o185
        refine Ab (Et x.slot ii ((c.inits.take q).map (·.slot)) S5 hS.oi hpl) (fun e S6 hr => ?_) (fun e S6 hr => ?_)
        ·rcases hr with ⟨q1,q2,hU6⟩ | ⟨_,q2,_⟩
         ·simp only [DE.ret.injEq] at q2
          subst q2
          have e3:(c.inits.take (q+1)).map (·.slot)=(c.inits.take q).map (·.slot)++[x.slot]:=by rw [AP hql,List.map_append,hx];rfl
          have hS6:=hS.seti hD z3 ((c.inits.take q).map (·.slot)++[x.slot])
          rw [<- hU6, <- e3] at hS6
          rw [q1,Bool.true_and, <- e3] at hB
          clear hU6
          refine gz ?_ o185
          exact ⟨q+1,_,⟨by omega,hS6,hB⟩,td1,wkR⟩
         ·cases q2
        ·rcases hr with ⟨_,q2,_⟩ | ⟨q1,q2,hU6⟩
         ·cases q2
         ·have hF:clsB f=false:=by rw [hB,q1];rfl
          simp only [DE.panic.injEq] at q2
          subst q2 hU6
          exact finP (S':=_) (hpan hF _ _ _ _ _ _ hS.ps)
      ·rw [A2 hql,iniE,Bool.true_and] at hB
       refine gz ?_ o185
       refine Ab (Et c.name isn names S5 hS.osn (by omega)) (fun e S6 hr => ?_) (fun e S6 hr => ?_)
       ·rcases hr with ⟨q1,q2,hU6⟩ | ⟨_,q2,_⟩
        ·simp only [DE.ret.injEq] at q2
         subst q2
         have hS6:=hS.setn hD z4 (names++[c.name])
         rw [<- hU6] at hS6
         rw [q1,Bool.true_and] at hB
         have hnn : ¬ c.name ∈ names:=by simp only [Bool.and_eq_true,Bool.not_eq_true',decide_eq_false_iff_not] at q1;exact q1.2
         clear hU6
         refine gz ?_
         have hdl:=hS6.delm hD z1
         refine dwp_wk (Ix (t:=5) hS6.om (by exact Ao tdR)) ?_
         rw [Un,Ul]
         have hsn7:(S6.del im) isn=some (.map (eSS (names++[c.name]))):=by simp only [Sig.del,hD.d1,if_false];exact hS6.osn
         clear hS hS6
         generalize S6.del im=S7 at *
         have o1:=hdl.prg
         have o2:=hdl.cls
         have hP8:=hdl.setc hD.a1 hD.b1 hnn
         have hpx:putM c.name (i:Int) (BI names 0)=BI (names++[c.name]) 0:=by have:=RH c.name names 0 hnn;rw [hnl] at this;simpa using this
         have hsn8:(S7.set ic (.map (eSN (BI (names++[c.name]) 0)))) isn=some (.map (eSS (names++[c.name]))):=by rw [w8 _ _ (Ne.symm hD.b2)];exact hsn7
         have o3:=hP8.prg
         have hmu:SameE (hs++[E5 names hs c]) (hs++[u]):=by
          refine ⟨by simp,fun k x => ?_⟩
          by_cases h1:k < hs.length
          ·rw [List.getElem?_append_left h1,List.getElem?_append_left h1]
          ·rw [List.getElem?_append_right (by omega),List.getElem?_append_right (by omega)]
           by_cases h2:k-hs.length=0
           ·rw [h2];simpa using (htm x).symm
           ·rw [List.getElem?_eq_none (by simp;omega),List.getElem?_eq_none (by simp;omega)]
         rw [Ld _ _ _ _ _ hmu] at hB
         have hn2:(f.classes.take (i+1)).map (·.name)=names++[c.name]:=by rw [AP hil,List.map_append,hnm,hcl];rfl
         have hs2:(f.classes.take (i+1)).flatMap (·.slots)=slots++c.slots:=by rw [AP hil,List.flatMap_append,hsl,hcl];simp
         rcases hP8.has with ⟨hh0,hd0⟩ | ⟨ih,hd0,hih,hih0⟩
         ·subst hh0
          rw [hd0] at o1 o3 hP8 hdl
          refine gf (gi o1 (gi o2 (gi o3 hpx))) ?_ o185
          refine appN (fun ih hih => ?_)
          have hpi:ip ≠ ih:=A1 hP8.prg hih
          have hP9:=hP8.fresh (o := .tail 1 1) hih
          have o4:=hP9.prg
          rw [show DObj.tail (tab 253).size ([[D.cmap (u.map D.str) (u.map fun _=>D.bool true)]]:List (List D)).length = .tail 1 1 by simp]
          refine gf (gi o4 o3) ?_ o185
          have hP10:=hP9.setp (d' := .slice (cMs ([]++[u])) (.tag ih)) (n':=0) (hs':=[]++[u]) hD.a1 hD.a2 (.inr ⟨ih,rfl,by rw [w8 _ _ (Ne.symm hpi),w7];rfl,hP8.non ih hih⟩)
          exact ⟨i+1,_,[]++[u],_,by refine ⟨by omega,by simp at hhl ⊢; omega, ?_,by rw [hn2,hs2];exact hP10,by rw [hn2,hs2];exact hB⟩;rw [hn2,w8 _ _ (Ne.symm hD.a3),w8 _ _ (A1 hsn8 hih)];exact hsn8,td1,wkR⟩
         ·have hpi:ip ≠ ih:=Ac hP8.prg hih (by simp)
          rw [hd0] at o1 o3 hP8
          refine gf (gi o1 (gi o2 (gi o3 (gi hpx (gi hih hpi))))) ?_ o185
          have hci:ic ≠ ih:=Ac hP8.cls hih (by simp)
          have hsi:is ≠ ih:=Ac hP8.slo hih (by simp)
          have hni:isn ≠ ih:=Ac hsn8 hih (by simp)
          have hP10:PS f ip ic is V (((S7.set ic (.map (eSN (BI (names++[c.name]) 0)))).set ih (.tail 1 (hs.length+1))).set ip (pObj f ic is (.slice (cMs (hs++[u])) (.tag ih)) 0)) (names++[c.name]) (slots++c.slots) (hs++[u]) (.slice (cMs (hs++[u])) (.tag ih)) 0 :=
           ⟨w7 .., by rw [w8 _ _ (Ne.symm hD.a1),w8 _ _ hci];exact hP8.cls,by rw [w8 _ _ (Ne.symm hD.a2),w8 _ _ hsi];exact hP8.slo, .inr ⟨ih,rfl,by rw [w8 _ _ (Ne.symm hpi),w7,List.length_append];rfl,hih0⟩,fun j x h1 h2=>by
            rw [w8 _ _ fun e=>h2 (.inl e),w8 _ _ fun e=>by rw [e,hih0] at h1;cases h1];exact hP8.keep j x h1 h2⟩
          rw [<- cMs_app] at hP10
          exact ⟨i+1,_,hs++[u],_,by refine ⟨by omega,by rw [List.length_append,hhl];rfl, ?_,by rw [hn2,hs2];exact hP10,by rw [hn2,hs2];exact hB⟩;rw [hn2,w8 _ _ (Ne.symm hD.a3),w8 _ _ hni];exact hsn8,td1,wkR⟩
        ·cases q2
       ·rcases hr with ⟨_,q2,_⟩ | ⟨q1,q2,hU6⟩
        ·cases q2
        ·have hF:clsB f=false:=by rw [hB,q1];rfl
         simp only [DE.panic.injEq] at q2
         subst q2 hU6
         exact finP (S':=_) (hpan hF _ _ _ _ _ _ hS.ps)
   ·have hF:clsB f=false:=by rw [hB,decide_eq_false hlen];rfl
    repeat' first | (exact finP (S':=S1) (hpan hF _ _ _ _ _ _ hP)) | refine gf hcl ?_ o185 | apply gy<;>intro hh
    all_goals (exfalso;omega)
  ·have hil2:i=f.classes.length:=by omega
   subst hil2
   rw [A2 hil,clsE] at hB
   rw [List.take_length] at hP
   have hdd:=hP.has
   refine gf hip1 ?_ o185
   refine DM (S':=_) ?_
   unfold ClsR
   rw [hB,if_pos rfl]
   exact ⟨rfl,hs,d,hP.setp (Ac hP.prg hP.cls (by simp)) (Ac hP.prg hP.slo (by simp)) (hP.has.set (by rw [hip1];simp))⟩
 ·have hF:clsB f=false:=by unfold clsB;rw [decide_eq_false h10];rfl
  repeat' first | (exact finP (S':=V) (hpan hF _ _ _ _ _ _ h0)) | refine gf hip ?_ o185 | apply gy<;>intro hh
theorem TQ (g:List (List Int)) (o:Own) (V:Sig) (hl:g.length<=1073741824:=by exact sd) (hl2 : ∀ x ∈ g,x.length<=1073741824:=by exact sd) :
  DCall prog 167 [.slice (cII g) o] V (rS (dI (if Ck g then 0 else 2)) V):=by
 refine en func167 ntmps167 ?_
 cases h:Ck g with
 | false =>
  try refine gf h ?_
  exact fe1 trivial
 | true =>
  try refine gf h ?_
  exact fe1 trivial
@[reducible,instance] def a167:=fun g o V=>ah2 (@TQ g o V)
def CP:Int->List BClass->Option Int
 | n,[]=>some n
 | n,c::r=>if 4 < c.slots.length then none else match GV n c.slots with
  | none=>none
  | some m=>CP m r
def DV (has:List Int):List Int->List Init->Bool
 | _,[]=>true
 | seen,x::r=>(decide (x.slot ∈ has) && !decide (x.slot ∈ seen) && inB x.n) && DV has (seen++[x.slot]) r
def Bt (p:BProg):Nat->List BClass->Bool
 | _,[]=>true
 | i,c::r=>decide (linE (p.classes.map (·.parents)) ((i:Int)+3)=0) && DV (hasP p ((i:Int)+3)) [] c.inits && Bt p (i+1) r
def AK (p:BProg):Bool:=decide (p.classes.length<=10) && match CP 0 p.classes with
 | none=>false
 | some n=>decide (n=p.slots) && Ck (p.classes.map (·.parents)) && Bt p 0 p.classes
theorem EP (cs:List BClass) : ∀ (n:Nat) (up out:List Int),(hasG cs n up out).length<=out.length+wtL (fun c:BClass=>c.slots.length) (cs.take n)
 | 0,_,out=>by rw [hasG];omega
 | n+1,up,out=>by
  rw [hasG]
  by_cases h:n < cs.length
  ·rw [List.getElem?_eq_getElem h,Lp _ _ _ h]
   simp only
   split
   ·have:=EP cs n (Jk (cs[n]).parents up) (out++(cs[n]).slots)
    rw [List.length_append] at this;omega
   ·have:=EP cs n up out;omega
  ·rw [List.getElem?_eq_none (by omega)]
   have:=EP cs n up out
   rw [List.take_of_length_le (by omega)] at this ⊢
   exact this
theorem Jp (p:BProg) (c:Int):(hasP p c).length<=wtL (fun c:BClass=>c.slots.length) p.classes:=by
 unfold hasP
 have h1:=GQ (hasG p.classes (c-2).toNat [c] [])
 have h2:=EP p.classes (c-2).toNat [c] []
 have h3:=Gj (fun c:BClass=>c.slots.length) p.classes (c-2).toNat
 simp only [List.length_nil] at h2
 omega
theorem ins_new {k:Int} {s:List Int} (h:k ∉ s):ins k s=s++[k]:=by unfold ins;rw [if_neg h]
theorem Vv (p:BProg) (V:Sig) (hp:p.wt<=1073741824:=by exact sd):DCall prog 80 [.agg (AC p)] V fun x S'=>x=(if AK p then .ret (.tup []) else .panic unf)/\S'=V:=by
 obtain ⟨p1,p2,p3,p4,p5,p6,p7⟩:=p.wt_le
 have ws:=Lo p
 have hwc : ∀ c ∈ p.classes,c.parents.length<=1073741824/\c.slots.length<=1073741824/\c.inits.length<=1073741824:=fun c hc=>by
  obtain ⟨k,hk,rfl⟩:=List.getElem_of_mem hc
  have:=p5 k hk
  have hwu:(p.classes[k]).wt=1+(p.classes[k]).parents.length+(p.classes[k]).slots.length+(p.classes[k]).inits.length:=rfl
  omega
 have hwp : ∀ c ∈ p.classes,c.parents.length<=1073741824:=fun c hc=>(hwc c hc).1
 have hwg : ∀ x ∈ p.classes.map (·.parents),x.length<=1073741824:=fun x hx=>by obtain ⟨c,hc,rfl⟩:=List.mem_map.1 hx;exact (hwc c hc).1
 refine en func80 ntmps80 ?_
 by_cases h10:p.classes.length<=10
 ·repeat' first | refine gz ?_ | apply gy<;>intro hh
  ·refine AQ [1,7,8,9,10,11,12,13,15,22,23,48,49,50,51,52,53,54,55,56,57,58,59,60,61,62,63,64,65,66,67,68,69,70,71,72,73,74,75,76,77,78,79,80,81,82,83,84,85,86,87,88,89,90,91,92,93,94,95,96,97,98,99,100,101,102,103,104,105,106,107,108,109,110,111] (fun (i:Nat) (n:Int)=>i<=p.classes.length/\n=wtL (fun c:BClass=>c.slots.length) (p.classes.take i)/\CP 0 p.classes=CP n (p.classes.drop i)) (fun i n=>[(24,dI i),(2,dI n)]) (fun _ _=>V) (fun i _=>p.classes.length-i) (0) (0) (by simp [wtL]) (fun i n hI => ?_)
   obtain ⟨hi,hn,hR⟩:=hI
   by_cases h:i < p.classes.length
   ·have hx:=hwc _ (List.getElem_mem h)
    have hT:=Lp (fun c:BClass=>c.slots.length) p.classes i h
    have hT2:=Gj (fun c:BClass=>c.slots.length) p.classes (i+1)
    rw [A3 h,CP] at hR
    by_cases h4:4 < (p.classes[i]).slots.length
    ·have hc:CP 0 p.classes=none:=by rw [hR,if_pos h4]
     have hF:AK p=false:=by unfold AK;rw [hc];simp
     repeat' first | ((with_reducible refine finP (S':=V) ?_);exact ⟨by first | (simp [hF];done) | (simp_all [hF];done),rfl⟩) | refine gz ?_ | apply gy<;>intro hh
    ·rw [if_neg h4] at hR
     generalize hsl:(p.classes[i]).slots=sl' at *
     try refine gf hsl ?_
     refine Bz [1,4,7,8,9,10,11,12,13,15,22,23,24,25,26,27,28,29,30,31,32,33,34,35,47,48,49,50,51,52,53,54,55,56,57,58,59,60,61,62,63,64,65,66,67,68,69,70,71,72,73,74,75,76,77,78,79,80,81,82,83,84,85,86,87,88,89,90,91,92,93,94,95,96,97,98,99,100,101,102,103,104,105,106,107,108,109,110,111] (fun (q:Nat)=>q<=sl'.length/\GV n sl'=GV (n+q) (sl'.drop q)) (fun q=>[(36,dI q),(2,dI (n+q))]) (fun _=>V) (fun q=>sl'.length-q) (0) (by simp) (fun q hI => ?_)
     obtain ⟨hq,hQ⟩:=hI
     by_cases hq':q < sl'.length
     ·rw [A3 hq',GV] at hQ
      have hsm:=hx.2.1
      have hn0:0<=n:=by omega
      have hnb:n<=1073741824:=by omega
      by_cases hqn:sl'[q]=n+q
      ·rw [if_pos hqn] at hQ
       try refine gf hqn ?_
       exact ⟨q+1,⟨by omega,by rw [hQ,Int.add_assoc];rfl⟩,td1,wkR⟩
      ·rw [if_neg hqn] at hQ
       have hc:CP 0 p.classes=none:=by rw [hR,hQ]
       have hF:AK p=false:=by unfold AK;rw [hc];simp
       repeat' first | ((with_reducible refine finP (S':=V) ?_);exact ⟨by first | (simp [hF];done) | (simp_all [hF];done),rfl⟩) | refine gz ?_ | apply gy<;>intro hh
     ·rw [A2 hq',GV] at hQ
      rw [hQ] at hR
      have hq2:q=sl'.length:=by omega
      try refine gz ?_
      exact ⟨i+1,n+q,⟨by omega,by rw [hT];omega,hR⟩,td1,wkR⟩
   ·rw [A2 h,CP] at hR
    by_cases hs:n=p.slots
    ·cases hg:Ck (p.classes.map (·.parents)) with
     | false =>
      have hF:AK p=false:=by unfold AK;rw [hR,hg];simp
      repeat' first | ((with_reducible refine finP (S':=V) ?_);exact ⟨by first | (simp [hF];done) | (simp_all [hF];done),rfl⟩) | refine gf hg ?_ | apply gy<;>intro hh
     | true =>
      have hcl:AK p=Bt p 0 p.classes:=by unfold AK;rw [hR];simp [hs,hg,h10]
      try refine gf hg ?_
      refine Bz [1,7,61,62] (fun (j:Nat)=>j<=p.classes.length/\Bt p 0 p.classes=Bt p j (p.classes.drop j)) (fun j=>[(63,dI j)]) (fun _=>V) (fun j=>p.classes.length-j) (0) (by simp) (fun j hI => ?_)
      obtain ⟨hj,hJ⟩:=hI
      by_cases h':j < p.classes.length
      ·have hx:=hwc _ (List.getElem_mem h')
       have hhl:=Jp p ((j:Int)+3)
       rw [A3 h',Bt] at hJ
       by_cases hl:linE (p.classes.map (·.parents)) ((j:Int)+3)=0
       ·rw [decide_eq_true hl,Bool.true_and] at hJ
        generalize hin:(p.classes[j]).inits=ins' at hJ hx
        try refine gf (gi hin hl) ?_
        refine newSI (fun im him => ?_)
        try refine gf hin ?_
        refine Bz [1,7,8,9,10,11,12,13,61,62,63,64,65,66,67,68,69,70,71,72,73,74,75,76,77,78,79,80,81,82,83,84,85,111] (fun (k:Nat)=>k<=ins'.length/\DV (hasP p ((j:Int)+3)) [] ins'=DV (hasP p ((j:Int)+3)) ((ins'.take k).map (·.slot)) (ins'.drop k)) (fun k=>[(86,dI k)]) (fun k=>V.set im (.map (eSI ((ins'.take k).map (·.slot))))) (fun k=>ins'.length-k) (0) (by simp) (fun k hI => ?_)
        obtain ⟨hk,hK⟩:=hI
        by_cases hk':k < ins'.length
        ·have hil:=hx.2.2
         rw [A3 hk',DV] at hK
         repeat' first | ((with_reducible refine finP (S':=V) ?_);exact ⟨by first | (simp [hcl,hJ,hK];done) | (simp_all [hcl,hJ,hK];done),rfl⟩) | refine gz ?_ | apply gy<;>intro hh
         rename_i q1 q2
         have q3 : ¬ ins'[k].slot ∈ (ins'.take k).map (·.slot):=by simpa using q2
         have q4:(ins'.take (k+1)).map (·.slot)=(ins'.take k).map (·.slot)++[ins'[k].slot]:=by rw [List.take_succ_eq_append_getElem hk',List.map_append];rfl
         have q5:=ins_new q3
         simp only [<- List.map_take,q5, <- q4]
         exact ⟨k+1,by refine ⟨by omega, ?_⟩;rw [hK,hh,decide_eq_true q1,decide_eq_false q3,q4];rfl,td1,wkR⟩
        ·rw [A2 hk',DV] at hK
         rw [hK,Bool.true_and] at hJ
         try refine gz ?_
         exact ⟨j+1,⟨by omega,hJ⟩,td1,wkR⟩
       ·rw [decide_eq_false hl,Bool.false_and,Bool.false_and] at hJ
        have hF:AK p=false:=by rw [hcl,hJ]
        repeat' first | ((with_reducible refine finP (S':=V) ?_);exact ⟨by first | (simp [hF];done) | (simp_all [hF];done),rfl⟩) | refine gz ?_ | apply gy<;>intro hh
      ·rw [A2 h',Bt] at hJ
       have hF:AK p=true:=by rw [hcl,hJ]
       try refine gz ?_
       exact fe0 hF
    ·have hF:AK p=false:=by unfold AK;rw [hR];simp [hs]
     repeat' first | ((with_reducible refine finP (S':=V) ?_);exact ⟨by first | (simp [hF];done) | (simp_all [hF];done),rfl⟩) | refine gz ?_ | apply gy<;>intro hh
 ·have hF:AK p=false:=by unfold AK;rw [decide_eq_false h10];rfl
  repeat' first | ((with_reducible refine finP (S':=V) ?_);exact ⟨by first | (simp [hF];done) | (simp_all [hF];done),rfl⟩) | refine gz ?_ | apply gy<;>intro hh
@[reducible,instance] def a80:=fun p V=>gh1 (@Vv p V)
theorem Rj {x:Int} (h0:0<=x) (h1:x < 18446744073709551616):IntKind.u64.wrap x=x:=by
 have e1:(2:Int) ^ IntKind.u64.bits=18446744073709551616:=by decide
 have e3:IntKind.u64.signed=false:=rfl
 simp only [IntKind.wrap,e1,e3,Bool.false_and,Bool.false_eq_true,if_false]
 omega
theorem andU (n:Nat) (h:n<=1073741824):binD .and (.int .u64 n) (.int .u64 4294967295)=some (.int .u64 n):=by
 simp only [binD,if_true]
 have e:((BitVec.ofInt IntKind.u64.bits (n:Int) &&& BitVec.ofInt IntKind.u64.bits 4294967295).toNat)=n:=by
  rw [BitVec.toNat_and]
  show (BitVec.ofInt 64 (n:Int)).toNat &&& (BitVec.ofInt 64 4294967295).toNat=n
  rw [show (4294967295:Int)=((2 ^ 32-1:Nat):Int) from rfl,BitVec.ofInt_natCast,BitVec.ofInt_natCast,BitVec.toNat_ofNat,BitVec.toNat_ofNat]
  rw [Nat.mod_eq_of_lt (by omega),Nat.mod_eq_of_lt (by omega),Nat.and_two_pow_sub_one_eq_mod,Nat.mod_eq_of_lt (by omega)]
 rw [e,Rj (by omega) (by omega)]
theorem shrU (k:IntKind) (n:Nat) (h:n<=1073741824):binD .shr (.int .u64 n) (.int k 32)=some (.int .u64 0):=by
 simp only [binD]
 rw [if_pos (by decide)]
 congr 2
 show (n:Int).fdiv (2 ^ 32)=0
 rw [Int.fdiv_eq_ediv_of_nonneg _ (by decide)]
 omega
theorem Tl (n:Nat) (V:Sig) (hn:n<=1073741824:=by exact sd):DCall prog 227 [.int .u64 1, .int .u64 n] V (rS (.tup [.int .u64 0, .int .u64 n]) V):=by
 have a1:binD .and (.int .u64 1) (.int .u64 4294967295)=some (.int .u64 1):=andU 1 (by omega)
 have a0:binD .and (.int .u64 0) (.int .u64 4294967295)=some (.int .u64 0):=andU 0 (by omega)
 have an:=andU n hn
 have s1 : ∀ k,binD .shr (.int .u64 1) (.int k 32)=some (.int .u64 0):=fun k=>shrU k 1 (by omega)
 have s0 : ∀ k,binD .shr (.int .u64 0) (.int k 32)=some (.int .u64 0):=fun k=>shrU k 0 (by omega)
 have sn:=fun k=>shrU k n hn
 have wn:IntKind.u64.wrap (n:Int)=n:=Rj (by omega) (by omega)
 have w0:IntKind.u64.wrap 0=0:=Rj (by omega) (by omega)
 refine en func227 ntmps227 ?_
 refine gf (gi a1 (gi a0 (gi an (gi s1 (gi s0 (gi sn (gi wn w0))))))) ?_
 exact fe2 trivial
@[reducible,instance] def a227:=fun n V=>ah1 (@Tl n V)
theorem TO (n:Nat) (V:Sig) (hn:n<=1073741824:=by exact sd):DCall prog 169 [.int .u64 1, .int .u64 n] V (rS (.tup [.int .u64 0, .int .u64 n]) V):=by
 refine en func169 ntmps169 ?_
 refine gz ?_
 exact fe2 trivial
@[reducible,instance] def a169:=fun n V=>ah1 (@TO n V)
theorem Vt (n:Nat) (V:Sig) (h1:1<=n) (hn:n<=1048576):DCall prog 82 [.slice [[dI (-1)]] .no,dI n] V fun x S' => ∃ r,V r=none/\x = .ret (.sref r 0 n n)/\S'=V.set r (.cells ((List.replicate n (-1:Int)).map dI)):=by
 have wn:IntKind.u64.wrap (n:Int)=n:=Rj (by omega) (by omega)
 have w1:IntKind.u64.wrap 1=1:=Rj (by omega) (by omega)
 refine en func82 ntmps82 ?_
 refine gf (gi wn w1) ?_ o82
 refine Vd (k:=n) (c:=n) (sz:=1) (z:=[dI 0]) (fun i hi hm => ?_)
 have e0:mS V (some (i,n,(List.replicate (n-n) [dI 0]).flatten)) (List.replicate n [dI 0])=V.set i (.cells (List.replicate n (dI 0))):=by simp [mS]
 rw [e0]
 refine gz ?_ o82
 refine L9 Ae (m:=1) (cs:=[dI (-1)]) (e:=3) (i:=i) (off:=0) (len:=n) (cap:=n) (ds:=List.replicate n (dI 0)) (by decide) (by simp<;>rfl) (by simp) (by simp) tdR (w7 ..) (by simp) (Ru (es:=[[dI (-1)]]) tdR (by simp)) (by rfl) ?_
 have e1:(V.set i (.cells (List.replicate n (dI 0)))).set i (.cells (List.take 0 (List.replicate n (dI 0))++(List.take (min 1 n) [dI (-1)]++List.drop (0+min 1 n) (List.replicate n (dI 0)))))=V.set i (.cells (List.replicate 1 (dI (-1))++List.replicate (n-1) (dI 0))):=by
  rw [w9,show min 1 n=1 by omega];simp
 rw [e1,show ((min 1 n:Nat):Int)=1 by omega]
 refine gz ?_ o82
 refine Bz [4,7,47] (fun (b:Nat)=>1<=b/\b<=n) (fun b=>[(8,dI b)]) (fun b=>V.set i (.cells (List.replicate b (dI (-1))++List.replicate (n-b) (dI 0)))) (fun b=>n-b) (1) (by omega) (fun b hI => ?_)
 obtain ⟨hb1,hbn⟩:=hI
 by_cases h:b < n
 ·refine gz ?_
  refine mixAt (id:=9) [0,1,2,3,4,5,6,7,8,9] [7] V ((Sub.refl _).set hi) ?_
  refine gz ?_ o82
  refine mo_cutL Ae (i:=i) (off:=0) (len:=n) (cap:=n) (lo:=b) (e:=3) (k := .i64) ?_ (by decide) (by simp<;>rfl) (by simp) tdR tdR (by omega) (by omega)
  rw [show 0+b*(tab 3).size=b by simp]
  refine gz ?_ o82
  refine mo_cutH Ae (i:=i) (off:=0) (len:=n) (cap:=n) (hi:=b) (e:=3) (k := .i64) ?_ (by decide) (by simp<;>rfl) (by simp) tdR tdR (by omega)
  refine mo1 (fun U2 hγ => ?_) rfl
  have v1:=hγ (.tmp 41) (by simp [Op.operands,Call.operands])
  have v2:=hγ (.tmp 44) (by simp [Op.operands,Call.operands])
  have hds:(List.replicate b (dI (-1))++List.replicate (n-b) (dI 0)).length=n:=by simp;omega
  refine L9 Ae (m:=b) (cs:=((List.replicate b (dI (-1))++List.replicate (n-b) (dI 0)).drop 0).take b) (e:=3) (i:=i) (off:=b) (len:=n-b) (cap:=n-b) (ds:=List.replicate b (dI (-1))++List.replicate (n-b) (dI 0)) (by decide) (by simp<;>rfl) (by simp) (by simp) (by rw [v1];with_unfolding_all rfl) (w7 ..) (by omega) (by rw [v2];exact UY (off:=0) (w7 ..) (by omega)) (by simp [CL,D.flat]) ?_
  have e2:List.take b (List.replicate b (dI (-1))++List.replicate (n-b) (dI 0))++(List.take (min b (n-b)) (List.take b (List.drop 0 (List.replicate b (dI (-1))++List.replicate (n-b) (dI 0))))++List.drop (b+min b (n-b)) (List.replicate b (dI (-1))++List.replicate (n-b) (dI 0)))=List.replicate (b+min b (n-b)) (dI (-1))++List.replicate (n-(b+min b (n-b))) (dI 0):=by
   have t1:List.take b (List.replicate b (dI (-1))++List.replicate (n-b) (dI 0))=List.replicate b (dI (-1)):=by rw [List.take_append_of_le_length (by simp)];simp
   have t2:List.drop (b+min b (n-b)) (List.replicate b (dI (-1))++List.replicate (n-b) (dI 0))=List.replicate (n-(b+min b (n-b))) (dI 0):=by
    rw [List.drop_append,List.drop_of_length_le (by simp),List.nil_append,List.drop_replicate];congr 1;simp;omega
   rw [List.drop_zero,t1,t2, <- List.append_assoc]
   congr 1
   rw [List.take_replicate,List.replicate_append_replicate];congr 1;omega
  rw [w9,e2]
  refine AJ ⟨rfl, ?_⟩
  refine ⟨(Sub.refl _).set hi, ?_⟩
  refine gz ?_ o82
  exact ⟨b+min b (n-b),by omega,td1,wkR⟩
 ·have hb:b=n:=by omega
  subst hb
  refine gz ?_ o82
  refine fin1 (S':=V.set i (.cells ((List.replicate b (-1)).map dI))) ?_ (hZ:=by simp;exact Sub.refl _)
  exact ⟨i,hi,rfl,rfl⟩
end Go.DL
