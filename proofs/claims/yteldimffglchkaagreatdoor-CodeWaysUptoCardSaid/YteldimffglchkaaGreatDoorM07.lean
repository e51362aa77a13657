/- A part of the proof. -/
import Derived.Test.YteldimffglchkaaGreatDoorM06
import Derived.Laws.StructEq
set_option linter.all false
namespace Go.DL
open Go
def nthO:List Oper->Nat->Option Oper
 |[],_=>none
 |o::_,0=>some o
 |_::l,i+1=>nthO l i
theorem GX: ∀(l:List Oper) (i:Nat),nthO l i=l[i]?
 |[],_=>rfl
 |_::_,0=>rfl
 |_::l,i+1=>by rw[nthO,GX l i];rfl
def If (ops:List Oper) (E:List Nat):List Nat->Option (List (Bool × Oper))
 |[]=>some []
 | i::r=>match nthO ops i with
  | some o=>match If ops E r with
   |some l=>match E.contains i with
    |true=>some ((true,o)::l)
    |false=>some ((false,o)::l)
   |none=>none
  |none=>none
theorem Na{ops:List Oper}{E:List Nat}: ∀{ord:List Nat}{lp:List (Bool×Oper)},If ops E ord=some lp->pick ops.toArray E ord=lp
 |[],_,h=>by cases h;rfl
 |i::r,lp,h=>by
  simp only[If]at h
  split at h<;>(try (cases h;done))
  rename_i o ho
  rw[GX]at ho
  split at h<;>(try (cases h;done))
  rename_i l hl
  have ih:=Na hl
  unfold pick at ih⊢
  rw[List.filterMap_cons,List.getElem?_toArray,ho]
  simp only[Option.map_some]
  rw[ih]
  split at h<;>(cases h;rename_i he;rw[he])
section
variable {P:Program}{ro:Ro}{n:Nat}{ops:Array Oper}{N:Nat}{S0:Sig}{Q:DX->St->Prop}{df:List DDf}{γ Sr:List (Nat×D)}{O U':Sig}{t:Nat}{op:Op}{ty:TypeId}{pos:String}{after:Array Edge}{d:D}{e:Bool}{l:List (Bool×Oper)}
theorem Oz(hN:P.funcs.size=N)(hm:P.follows .mixedOrders=true){lo:List Oper}{id:Nat}(ord E:List Nat)(S0:Sig)(hB:Ew lo.toArray E ord=true)(hC:Sub S0 O)
  {lp:List (Bool×Oper)} (hl:If lo E ord=some lp) (h:MO P ro n lo.toArray N S0 Q df lp γ O):DWp P ro n (.region id lo.toArray true) Q ⟨γ,O,df⟩:=
 UZ hN hm ord E S0 hB hC (Na hl) h
theorem HD: ∀(l:List (Bool×Oper)) {γ V':Fr}{O:Sig},Alike γ V'->MO P ro n ops N S0 Q df l γ O->MO P ro n ops N S0 Q df l V' O
 |[],_,_,_,h,k=>C0 h k
 |(e,o)::r,_,_,_,h,k=>(match k with
  |.inl ⟨d,h2,h3⟩=>.inl ⟨d,h2.congr fun t _=>h t,HD r (h.put _ _) h3⟩
  |.inr ⟨h1,h2⟩=>.inr ⟨h1,h2.congr (fun t _=>h t) fun d U' ⟨h3,h4⟩=>⟨h3,HD r (h.put _ _) h4⟩⟩)
theorem QP{tab:Nat->Ty}(ht:B2 P tab){o:Oper}(hr:D1 o.op=true)(ho:Ap n o=true)(hw:Ax ops γ o=some true)(hd:dopX tab γ S0 o.op=some d)
  (h:MO P ro n ops N S0 Q df l (putD o.dst d γ) O):MO P ro n ops N S0 Q df ((e,o)::l) γ O:=by
 refine .inl ⟨d,⟨ho,.inl ⟨by rw[Ak];exact hw,C8 hr,Jc ht hd,fun U' hU g w a hs hT=>?_⟩⟩,h⟩
 refine F7 ht hs hT (?_:dopX tab (only (o.looksAt ops) γ) U' o.op=some d)
 rw[Be (V':=γ) fun x hx=>Bo hx]
 exact F8 hU hd
theorem KL{tab:Nat->Ty}(ht:B2 P tab)(hr:D1 op=true)(ae:decide (t<n)=true)(hl:A0 γ (A5 op.operands.toList)=some Sr)(hd:dopX tab Sr S0 op=some d)
  (h:MO P ro n ops N S0 Q df l ((t,d)::γ) O):MO P ro n ops N S0 Q df ((e,⟨some t,op,ty,pos,after,none⟩)::l) γ O:=
 QP (o:=⟨some t,op,ty,pos,after,none⟩) ht hr ae rfl ((Be (C3 hl)) ▸ hd) h
theorem KK{tab:Nat->Ty}(ht:B2 P tab){j:Nat}{want:Bool}{k:Nat}(hr:D1 op=true)(ae:decide (t<n)=true)(hk:(ops[j]?).bind (·.dst)=some k)(hb:γ.lookup k=some (.bool want))(hl:A0 γ (A5 op.operands.toList)=some Sr)(hd:dopX tab Sr S0 op=some d)
  (h:MO P ro n ops N S0 Q df l ((t,d)::γ) O):MO P ro n ops N S0 Q df ((e,⟨some t,op,ty,pos,after,some (j,want)⟩)::l) γ O:=
 QP (o:=⟨some t,op,ty,pos,after,some (j,want)⟩) ht hr ae (by simp only[Ax,Cj hk hb];simp) ((Be (C3 hl)) ▸ hd) h
theorem KJ{j:Nat}{want:Bool}{k:Nat}(hk:(ops[j]?).bind (·.dst)=some k)(hb:γ.lookup k=some (.bool (!want)))(hs:DP N op=true)(ae:decide (t<n)=true)
  (h:MO P ro n ops N S0 Q df l ((t,.tup [])::γ) O):MO P ro n ops N S0 Q df ((e,⟨some t,op,ty,pos,after,some (j,want)⟩)::l) γ O:=
 mo_skip (o:=⟨some t,op,ty,pos,after,some (j,want)⟩) (by simp only[Ax,Cj hk hb];simp) ae hs h
theorem Ud{dst:Option Tmp}{j:Nat}{want b:Bool}{k:Nat}(hk:(ops[j]?).bind (·.dst)=some k)(hb:γ.lookup k=some (.bool b))
  (h1:b=true->MO P ro n ops N S0 Q df ((e,⟨dst,op,ty,pos,after,some (j,want)⟩)::l) ((k,.bool true)::γ) O) (h2:b=false->MO P ro n ops N S0 Q df ((e,⟨dst,op,ty,pos,after,some (j,want)⟩)::l) ((k,.bool false)::γ) O) :
  MO P ro n ops N S0 Q df ((e,⟨dst,op,ty,pos,after,some (j,want)⟩)::l) γ O:=by
 have al:∀c,b=c->Alike ((k,.bool c)::γ) γ:=by
  rintro c rfl t
  rw[A6]
  by_cases ht:t=k
  ·subst ht;rw[if_pos rfl,Ar hb]
  ·rw[if_neg ht]
 cases b with
 |true=>exact HD _ (al true rfl) (h1 rfl)
 |false=>exact HD _ (al false rfl) (h2 rfl)
theorem QN{tab:Nat->Ty}(ht:B2 P tab){o:Oper}(ho:Ap n o=true)(hw:Ax ops γ o=some true)(he:eopD tab γ O o.op=some (d,U'))(hC:Sub S0 U')
  (h:MO P ro n ops N S0 Q df l (putD o.dst d γ) U'):MO P ro n ops N S0 Q df ((true,o)::l) γ O:=by
 refine .inr ⟨rfl,ho,by rw[Ak];exact hw,?_⟩
 refine Fo ht (by rw[Ak];exact hw) (by rw[Bp (V':=γ) fun x hx=>Bo hx];exact he) ho (Aw ⟨rfl,?_⟩)
 cases hd:o.dst with
 |none=>rw[hd]at h;exact⟨hC,h⟩
 |some t=>
  rw[hd]at h
  simp only[putD,A6,if_true]
  exact⟨hC,h⟩
theorem Nd{tab:Nat->Ty}(ht:B2 P tab)(hl:A0 γ (A5 op.operands.toList)=some Sr)(he:eopD tab Sr O op=some (d,U'))(ae:decide (t<n)=true)(hC:Sub S0 U')
  (h:MO P ro n ops N S0 Q df l ((t,d)::γ) U'):MO P ro n ops N S0 Q df ((true,⟨some t,op,ty,pos,after,none⟩)::l) γ O:=
 QN (o:=⟨some t,op,ty,pos,after,none⟩) ht ae rfl ((Bp (C3 hl)) ▸ he) hC h
theorem FL{tab:Nat->Ty}(ht:B2 P tab)(hl:A0 γ (A5 op.operands.toList)=some Sr)(he:eopD tab Sr O op=some (d,U'))(hC:Sub S0 U')
  (h:MO P ro n ops N S0 Q df l γ U'):MO P ro n ops N S0 Q df ((true,⟨none,op,ty,pos,after,none⟩)::l) γ O:=
 QN (o:=⟨none,op,ty,pos,after,none⟩) ht rfl rfl ((Bp (C3 hl)) ▸ he) hC h
theorem HC{fop:Operand}{args:Array Operand}{ats:Array TypeId}{f:Nat}{first cap us bs:List D}{R:DE->Sig->Prop}{dst:Option Tmp}{guard:Option (Nat×Bool)}
  (hw:Ax ops γ ⟨dst,(cv fop args ats),ty,pos,after,guard⟩=some true)
  (hl:A0 γ (A5 (fop::args.toList))=some Sr) (hf:ev Sr fop=.func (.func f) first cap) (ha:first++args.toList.map (ev Sr)++cap=us) (hb:bs=us\/bs=us.map D.plain) (h:DCall P f bs O R)
  (ho:Ap n ⟨dst,(cv fop args ats),ty,pos,after,guard⟩=true)
  (aS:∀d U',R (.ret d) U'->Sub S0 U'/\MO P ro n ops N S0 Q df l (putD dst d γ) U')
  (aT:∀d U',R (.panic d) U'->∀V',Q (.panic d) ⟨V',U',df⟩) :
  MO P ro n ops N S0 Q df ((true,⟨dst,(cv fop args ats),ty,pos,after,guard⟩)::l) γ O:=by
 have hx:∀x∈fop::args.toList,ev Sr x=ev γ x:=fun x hx=>B9 fun t ht=>At hl t (Az (by rw[<-ht];exact hx))
 have aA:∀x∈((cv fop args ats)).operands,ev (only (Oper.looksAt ops ⟨dst,(cv fop args ats),ty,pos,after,guard⟩) γ) x=ev γ x:=fun x hx=>Bo (o:=⟨dst,(cv fop args ats),ty,pos,after,guard⟩) hx
 refine .inr ⟨rfl,ho,by rw[Ak];exact hw,?_⟩
 refine Dd (first:=first) (cap:=cap) (f:=f) (R:=R) ?_ ?_ h ?_ ho ?_ ?_
 ·show Ax ops (only _ γ) _=some true
  rw[Ak];exact hw
 ·rw[aA fop (by simp[Op.operands,Call.operands]),<-hx fop (by simp)];exact hf
 ·simp only
  rw[show args.toList.map (ev (only (Oper.looksAt ops ⟨dst,(cv fop args ats),ty,pos,after,guard⟩) γ))=args.toList.map (ev Sr) from List.map_congr_left fun x hm=>by
   rw[aA x (by simp at hm;simp[Op.operands,Call.operands,hm]),<-hx x (by simp[hm])],ha]
  rcases hb with rfl|rfl
  ·exact Co _
  ·exact Cp _
 ·intro d U' hR
  obtain⟨h1,h2⟩:=aS d U' hR
  refine Aw ⟨rfl,?_⟩
  cases dst with
  |none=>exact⟨h1,h2⟩
  |some t=>simp only[putD,A6,if_true];exact⟨h1,h2⟩
 ·intro d U' hR
  exact⟨rfl,aT d U' hR⟩
theorem Ue{fop:Operand}{args:Array Operand}{ats:Array TypeId}{f:Nat}{first cap us bs:List D}
  (hl:A0 γ (A5 (fop::args.toList))=some Sr) (hf:ev Sr fop=.func (.func f) first cap) (ha:first++args.toList.map (ev Sr)++cap=us) (hw:bs=us\/bs=us.map D.plain) (h:DCall P f bs O (rS d O))
  (ae:decide (t<n)=true) (hC:Sub S0 O) (k:MO P ro n ops N S0 Q df l ((t,d)::γ) O) :
  MO P ro n ops N S0 Q df ((true,⟨some t,(cv fop args ats),ty,pos,after,none⟩)::l) γ O:=
 HC rfl hl hf ha hw h ae (fun d' U' ⟨e1,e2⟩=>by cases e1;subst e2;exact⟨hC,k⟩) (fun d' U' ⟨e1,e2⟩=>by cases e1)
theorem QQ{fop:Operand}{args:Array Operand}{ats:Array TypeId}{f:Nat}{first cap us bs:List D}{j:Nat}{want:Bool}{k:Nat}(hk:(ops[j]?).bind (·.dst)=some k)(hb:γ.lookup k=some (.bool want))
  (hl:A0 γ (A5 (fop::args.toList))=some Sr) (hf:ev Sr fop=.func (.func f) first cap) (ha:first++args.toList.map (ev Sr)++cap=us) (hw:bs=us\/bs=us.map D.plain) (h:DCall P f bs O (rS d O))
  (ae:decide (t<n)=true) (hC:Sub S0 O) (kk:MO P ro n ops N S0 Q df l ((t,d)::γ) O) :
  MO P ro n ops N S0 Q df ((true,⟨some t,(cv fop args ats),ty,pos,after,some (j,want)⟩)::l) γ O:=
 HC (by simp only[Ax,Cj hk hb];simp) hl hf ha hw h ae (fun d' U' ⟨e1,e2⟩=>by cases e1;subst e2;exact⟨hC,kk⟩) (fun d' U' ⟨e1,e2⟩=>by cases e1)
end
section
variable {P:Program}{ro:Ro}{n:Nat}{ops:Array Oper}{Q:DX->St->Prop}{df:List DDf}{rest:List Oper}{γ Sr Sr2:List (Nat×D)}{O:Sig}{t t2:Nat}{d d2:D}
theorem Qd{tab:Nat->Ty}(ht:B2 P tab)(vars:List Nat){T T' ty ty' ty2:Nat}{x y:Operand}{pos pos' pos2:String}{after after' after2:Array Edge}{cs:List D}(hv:vars.contains t=false)(hT:T'=T)(ae:decide (t<n)=true)(aO:decide (t2<n)=true)(hx:Ev t x=true)(hy:Ev t y=true)(aN:Ev t2 x=true)(aK:decide (t2=t)=false)(ho:A1 (tab T).k=false)
  (bD:A0 γ (A5 [y])=some Sr2) (bc:ev Sr2 y=d2) (hl:A0 γ (A5 [x])=some Sr) (he:ev Sr x=d) (ay:d.told=true) (hc:d.cells=cs) (hlen:cs.length=(tab T).size) (aE:BC cs=true)
  (h:DOps P ro n ops Q rest ⟨(t,.cptr cs 0)::(t2,d2)::γ,O,df⟩) :
  DOps P ro n ops Q (⟨some t,.alloc T,ty,pos,after,none⟩::⟨some t2,.assign y,ty2,pos2,after2,none⟩::⟨none,.store T' (.tmp t) x,ty',pos',after',none⟩::rest) ⟨γ,O,df⟩:=by
 rw[BY hl]at he
 rw[BY bD]at bc
 subst he;subst bc;subst hT;subst hc
 have aK:t2≠t:=by simpa using aK
 have hx:=G9 ht hx
 have hy:=G9 ht hy
 have aN:=G9 ht aN
 refine E0 ht ho (by simpa using ae) fun i hi=>?_
 have bI:ev ((t,.ptr i 0)::γ) y=ev γ y:=by
  cases y with
  |tmp k=>simp only[ev,A6];rw[if_neg fun e=>hy (by rw[e])]
  |_=>rfl
 refine GF (d:=ev γ y) ht rfl rfl (by rw[<-bI];rfl) aO ?_
 simp only[putD]
 have aF:ev ((t2,ev γ y)::(t,.ptr i 0)::γ) x=ev γ x:=by
  cases x with
  |tmp k=>simp only[ev,A6];rw[if_neg fun e=>aN (by rw[e]),if_neg fun e=>hx (by rw[e])]
  |_=>rfl
 have hz:(tab T').zero.length=(tab T').size:=by
  obtain⟨_,_,_,_,_,_,_,_,_,_,h8,_⟩:=BJ (ht T') (Ae ho)
  exact h8
 refine K8 ht rfl ho (x:=.tmp t) (i:=i) (off:=0) (by simp[ev,A6,Ne.symm aK]) (w6 ..) (by rw[aF];exact ay) (by rw[aF];exact hlen) (by rw[aF];exact aE) (by rw[aF];omega) ?_
 rw[aF]
 refine C4 (Li (i:=i) (t:=t) (w6 ..) (by simp[A6,Ne.symm aK])) ?_
 have e1:(tab T').zero.take 0++(ev γ x).cells++(tab T').zero.drop (0+(ev γ x).cells.length)=(ev γ x).cells:=by
  rw[List.drop_of_length_le (by omega)];simp
 rw[w8,Sig.set_del _ _ hi,e1]
 refine C0 (γ:=(t,.cptr (ev γ x).cells 0)::(t2,ev γ y)::γ) (fun k=>?_) h
 simp only[A6]
 split
 ·rfl
 ·split<;>rfl
end
def eqD1:TyK->D->D->Option Bool
 |.int _,.int k a,.int k' b=>if k=k' then some (decide (a=b)) else none
 |.str,.str a,.str b=>some (decide (a=b))
 |.bool,.bool a,.bool b=>some (decide (a=b))
 |_,_,_=>none
@[simp] theorem eqD1_i(q k:IntKind)(a b:Int):eqD1 (.int q) (.int k a) (.int k b)=some (decide (a=b)):=by simp[eqD1]
@[simp] theorem eqD1_s(a b:List UInt8):eqD1 .str (.str a) (.str b)=some (decide (a=b)):=rfl
@[simp] theorem eqD1_b(a b:Bool):eqD1 .bool (.bool a) (.bool b)=some (decide (a=b)):=rfl
@[simp] def eqFs (tab:Nat->Ty) (xs ys:List D):List (Nat × Nat)->Option Bool
 |[]=>some true
 | (off,ft)::fs=>match A1 (tab ft).k || (tab ft).agg with
  |true=>none
  | false=>match KH (tab ft) xs off,KH (tab ft) ys off with
   |some a,some b=>match eqD1 (tab ft).k a b,eqFs tab xs ys fs with
    |some r,some q=>some (r&&q)
    |_,_=>none
   |_,_=>none
def EqTy (P : Program) (t : Nat) : Prop := P.eqGuardType P.depth t = false /\ P.stoodInHeld t = false /\ (P.fieldsOf t).toList.all (fun f => !(f.name == "_")) = true
section
variable {P:Program}{tab:Nat->Ty}(ht:B2 P tab){g:G}{w:World}
include ht
theorem Tj{t d:Nat}{a b:D}{r:Bool}{u v:Value}(hk:A1 (tab t).k=false)(h:eqD1 (tab t).k a b=some r)(hu:Rep g a u)(hv:Rep g b v):(Op.equalIn (d+1) t u v).run P w=.ok r w:=by
 have ai:=ht t
 unfold eqD1 at h
 split at h<;>(try (cases h;done))
 ·rename_i q k x k' y hq
  split at h<;>(try (cases h;done))
  rename_i aH
  cases h;subst aH
  rw[B4 hu,B4 hv]
  unfold TyOK at ai
  rw[hq]at ai
  obtain⟨_,desc,_,_,h2,h3,_⟩:=ai
  cases desc<;>simp only[KOK]at h3<;>(try (exact h3.elim))
  rw[run_equalIn_int w d t k _ x y h2,Et]
 ·rename_i x y hq
  cases h
  rw[EG hu,EG hv]
  unfold TyOK at ai
  rw[hq]at ai
  obtain⟨_,desc,_,_,h2,h3,_⟩:=ai
  cases desc<;>simp only[KOK]at h3<;>(try (exact h3.elim))
  rw[run_equalIn_string w d t _ _ h2]
  simp[ByteArray.toList_eq,Et]
 ·rename_i x y hq
  cases h
  rw[G4 hu,G4 hv]
  unfold TyOK at ai
  rw[hq]at ai
  obtain⟨_,desc,_,_,h2,h3,_⟩:=ai
  cases desc<;>simp only[KOK]at h3<;>(try (exact h3.elim))
  rw[run_equalIn_bool' w d t x y h2,Et]
theorem Ig{t:Nat}{cs:List D}{off:Nat}{d:D}{vs:List Value}(hk:A1 (tab t).k=false)(ha:(tab t).agg=false)(h:KH (tab t) cs off=some d)(hr:RepL g cs vs):
  ∃v,(part t vs.toArray off).run P w=.ok v w/\Rep g d v:=by
 unfold KH at h
 rw[ha]at h
 simp only[Bool.false_eq_true,if_false]at h
 have hl:=RepL.length hr
 have bC:off<cs.length:=by
  rcases Nat.lt_or_ge off cs.length with h'|h'
  ·exact h'
  ·rw[List.getElem?_eq_none h']at h;cases h
 have hv:vs[off]? = some vs[off]:=List.getElem?_eq_getElem (by omega)
 refine⟨vs[off],?_,?_⟩
 ·unfold part
  simp only[Sem.run_bind,Ib (ht t) (Ae hk),Result.andThen_ok,ha,Bool.false_eq_true,if_false,List.getElem?_toArray,hv,Sem.run_pure]
 ·have:=RepL.get hr off
  rw[h,hv]at this
  exact this
theorem Ms {d : Nat} {xs ys : List D} {us vs : List Value} (hx : RepL g xs us) (hy : RepL g ys vs) : ∀ {fs : List Field} {r : Bool}, fs.all (fun f => !(f.name == "_")) = true -> eqFs tab xs ys (fs.map fun f => (f.offset, f.type)) = some r ->
  (Op.eqFields (d+1) us.toArray vs.toArray fs).run P w=.ok r w
 |[],r,_,h=>by simp only[List.map_nil,eqFs]at h;cases h;simp[Op.eqFields]
 | f::fs,r,hn,h=>by
  simp only[List.all_cons,Bool.and_eq_true]at hn
  simp only[List.map_cons,eqFs]at h
  split at h<;>(try (cases h;done))
  rename_i aH
  simp only[Bool.or_eq_false_iff]at aH
  obtain⟨hk,be⟩:=aH
  split at h<;>(try (cases h;done))
  rename_i a b ha hb
  split at h<;>(try (cases h;done))
  rename_i r1 q h1 h2
  cases h
  obtain⟨u,bn,bm⟩:=Ig ht (w:=w) hk be ha hx
  obtain⟨v,bl,bk⟩:=Ig ht (w:=w) hk be hb hy
  have bu : f.name ≠ "_" := by simpa using hn.1
  simp only[Op.eqFields,bu,ne_eq,not_false_eq_true,if_true,Sem.run_bind,bn,bl,Result.andThen_ok,Tj ht hk h1 bm bk]
  cases r1
  ·simp
  ·simp only[Bool.not_true,Bool.false_eq_true,if_false,Bool.true_and]
   exact Ms hx hy hn.2 h2
theorem eqS_run{T:Nat}{fs:List (Nat×Nat)}{xs ys:List D}{r:Bool}{us vs:List Value}(hE:EqTy P T)(hk:(tab T).k=.struct fs)(h:eqFs tab xs ys fs=some r)(hx:RepL g xs us)(hy:RepL g ys vs):
  (Op.equalIn 10000 T (.agg us.toArray) (.agg vs.toArray)).run P w=.ok r w:=by
 obtain⟨h1,h2,h3⟩:=hE
 have ai:=ht T
 unfold TyOK at ai
 rw[hk]at ai
 obtain⟨_,desc,_,_,h4,h5,_⟩:=ai
 cases desc<;>simp only[KOK]at h5<;>(try (exact h5.elim))
 rename_i fl _
 have hf:P.fieldsOf T=fl:=by unfold Program.fieldsOf;rw[h4]
 rw[run_equalIn_agg w 9999 T us.toArray vs.toArray (by rw[h4,hf]) h2,hf]
 rw[hf]at h3
 rw[<-h5]at h
 exact Ms (d:=9998) ht hx hy h3 h
theorem HH{O:Sig}(hs:Sim P g O w){T u:Nat}{fs:List (Nat×Nat)}{xs ys:List D}{r:Bool}{x y:Operand}{dst:Option Tmp}{ty:TypeId}{pos:String}{after:Array Edge}{guard:Option (Nat×Bool)}{γ:Fr}{n:Nat}{a:Act}(hT:RepT g γ n a.tmps)
  (hE:EqTy P T) (hk:(tab T).k=.struct fs) (hx:ev γ x=.agg xs) (hy:ev γ y=.agg ys) (h:eqFs tab xs ys fs=some r) (neg:Bool) :
  ORun P g O (.bool (neg != r)) (execOp a.eval ⟨dst,.binOp (match neg with|true=>.neq|false=>.eql) T x y u,ty,pos,after,guard⟩) w:=by
 have h1:=Ai hT x
 have h2:=Ai hT y
 rw[hx]at h1;rw[hy]at h2
 obtain⟨us,e1,r1⟩:=h1
 obtain⟨vs,e2,r2⟩:=h2
 have aj:=eqS_run ht (w:=w) hE hk h r1 r2
 refine⟨g,w,.bool (neg != r),?_,.refl g,hs,rfl⟩
 have hg:∀o,(eqGuard o T x y (.agg us.toArray) (.agg vs.toArray)).run P w=.ok () w:=fun o=>run_eqGuard_agg w o T x y _ _ hE.1
 simp only[execOp,Sem.run_bind,e1,e2,hg,Result.andThen_ok]
 cases neg
 ·simp only[run_eql_struct,aj,Result.andThen_ok]
  cases r<;>rfl
 ·simp only[run_neq_struct,aj,Result.andThen_ok]
  cases r<;>rfl
end
section
variable {P:Program}{ro:Ro}{n:Nat}{ops:Array Oper}{N:Nat}{S0:Sig}{Q:DX->St->Prop}{df:List DDf}{rest:List Oper}{γ Sr:List (Nat×D)}{O:Sig}{t:Nat}{ty:TypeId}{pos:String}{after:Array Edge}{l:List (Bool×Oper)}{e:Bool}
theorem In{tab:Nat->Ty}(ht:B2 P tab){T u:Nat}{x y:Operand}{fs:List (Nat×Nat)}{xs ys:List D}{r:Bool}(hE:EqTy P T)(ae:decide (t<n)=true)(hl:A0 γ (A5 [x,y])=some Sr)(hx:ev Sr x=.agg xs)(hy:ev Sr y=.agg ys)(hk:(tab T).k=.struct fs)(hd:eqFs tab xs ys fs=some r)
  (h:MO P ro n ops N S0 Q df l ((t,.bool (!r))::γ) O):MO P ro n ops N S0 Q df ((e,⟨some t,.binOp .neq T x y u,ty,pos,after,none⟩)::l) γ O:=by
 have hc:∀z∈[x,y],ev Sr z=ev γ z:=fun z hz=>B9 fun t ht=>At hl t (Az (by rw[<-ht];exact hz))
 have aA:∀z∈[x,y],ev (only (Oper.looksAt ops ⟨some t,.binOp .neq T x y u,ty,pos,after,none⟩) γ) z=ev γ z:=fun z hz=>Bo (o:=⟨some t,.binOp .neq T x y u,ty,pos,after,none⟩) (by simp at hz;rcases hz with rfl|rfl<;>simp[Op.operands])
 refine .inl ⟨.bool (!r),⟨ae,.inl ⟨rfl,(fun c e=>by cases e),Aa (fun c e=>by cases e),fun U' hU g w a hs hT=>?_⟩⟩,h⟩
 have:=HH (dst:=some t) (ty:=ty) (pos:=pos) (after:=after) (guard:=none) (u:=u) ht hs hT hE hk (by rw[aA x (by simp),<-hc x (by simp)];exact hx) (by rw[aA y (by simp),<-hc y (by simp)];exact hy) hd true
 simpa using this
end
abbrev MR:=Option (Nat×Nat×List D)
def mD:MR->Nat->D
 |none,_=>.nils
 |some (i,cap,_),n=>.sref i 0 n cap
def mS(O:Sig):MR->List (List D)->Sig
 |none,_=>O
 |some (i,_,rest),es=>O.set i (.cells (es.flatten++rest))
def mOK(O:Sig)(sz:Nat):MR->List (List D)->Prop
 |none,es=>es=[]
 |some (i,cap,rest),es=>O i=none/\(es.flatten++rest).length=cap*sz/\es.length<=cap /\ ∀e∈es,e.length=sz
theorem mOK.len{O:Sig}{sz:Nat}{st:MR}{es:List (List D)}(h:mOK O sz st es): ∀e∈es,e.length=sz:=by
 cases st with
 |none=>obtain rfl:es=[]:=h;simp
 |some x=>exact h.2.2.2
theorem Av{sz:Nat}: ∀{es:List (List D)},(∀e∈es,e.length=sz)->es.flatten.length=es.length*sz
 |[],_=>by simp
 |e::es,h=>by
  have:=Av (es:=es) fun x hx=>h x (by simp[hx])
  simp only[List.flatten_cons,List.length_append,List.length_cons,Nat.add_mul,this,h e (by simp)];omega
theorem Sub.setD{a b:Sig}{i j:Nat}{o x:DObj}(h:Sub a b)(hi:a i=Option.none)(bO:i≠j):Sub (a.set j o) ((b.set i x).set j o):=fun k y hk=>by
 by_cases h1:k=j
 ·subst h1;rw[w6]at hk⊢; exact hk
 ·rw[w7 _ _ h1]at hk⊢
  rw[w7 _ _ fun e=>by rw[e,hi]at hk;cases hk]
  exact h k y hk
section
variable {P:Program}{ro:Ro}{n:Nat}{ops:Array Oper}{Q:DX->St->Prop}{rest:List Oper}{tab:Nat->Ty}{γ:List (Nat×D)}{O:Sig}{df:List DDf}
theorem By{o:Oper}(R:D->Sig->Prop)(hw:Ax ops γ o=some true)(bz:∀c,o.op≠.defer c)(bK:∀(w:World) (ρ:Operand->Value) f,o.about P w ρ=some f->False)(ho:Ap n o=true)
  (hr:∀g w (a:Act),Sim P g O w->RepT g γ n a.tmps->∃g' w' v d U',(execOp a.eval o).run P w=.ok (.value v) w'/\g.le g'/\Sim P g' U' w'/\Rep g' d v/\R d U')
  (h:∀d U',R d U'->DOps P ro n ops Q rest ⟨putD o.dst d γ,U',df⟩):DOps P ro n ops Q (o::rest) ⟨γ,O,df⟩:=by
 intro g w a r bq hs
 unfold wpListIn
 rw[AH hs.tmps hw,if_pos rfl]
 refine⟨fun f hf=>(bK _ _ f hf).elim,?_⟩
 obtain⟨g',w',v,d,U',h1,h2,h3,h4,h5⟩:=hr g w a hs.sim hs.tmps
 rw[Oper.semAt_eq _ _ _ bz,h1]
 exact AE h2 _ (h d U' h5 _ _ _ r (bq.mono h2) (hs.put h2 h3 h4 ho))
theorem Sim.drew{g:G}{w:World}(hs:Sim P g O w):Sim P g O w.drew:=
 ⟨hs.imm,hs.keep,fun i o h=>by have:=hs.obj i o h;cases o<;>exact this,hs.inj,hs.free,hs.htop,hs.hdom,hs.fin,hs.io,hs.tab⟩
theorem Ff{g:G}{i b len cap:Nat}(h:g.rho i=some b):Rep g (.sref i 0 len cap) (.slice (some ⟨b,0,none⟩) len cap):=⟨b,h,rfl⟩
theorem Nc{g:G}{w:World}{sz:Nat}{st:MR}{es:List (List D)}{v:Value}(hs:Sim P g (mS O st es) w)(hm:mOK O sz st es)(hv:Rep g (mD st es.length) v):
  ∃a cap,v=.slice a es.length cap/\es.length<=cap /\ ∃us,RepL g es.flatten us/\us.length=es.length*sz/\(es.length=0 \/ ∃b o,a=some ⟨b,o,none⟩ /\ ∀j v,us[j]? = some v->w.cell? ⟨b,o+j,none⟩=some v):=by
 cases st with
 |none=>
  obtain rfl:es=[]:=hm
  exact⟨none,0,hv,by simp,[],rfl,by simp,.inl rfl⟩
 |some x=>
  obtain⟨i,cap,rest⟩:=x
  obtain⟨h1,h2,h3,h4⟩:=hm
  obtain⟨b,hb,hv⟩:=hv
  obtain⟨b',vs,ty,aq,aa,hr⟩:=hs.obj i _ (w6 ..)
  obtain rfl:b'=b:=by rw[hb]at aq;cases aq;rfl
  obtain⟨u,v',e1,e2,e3⟩:=hr.split
  refine⟨_,cap,hv,h3,u,e2,by rw[RepL.length e2,Av h4],.inr ⟨b',0,rfl,fun j x hx=>?_⟩⟩
  have:j<u.length:=(List.getElem?_eq_some_iff.1 hx).1
  simp only[World.cell?, aa,Nat.zero_add]
  have:vs.toList[j]? = some x:=by rw[e1,List.getElem?_append_left this];exact hx
  simpa using this
variable (ht:B2 P tab)
include ht
theorem My{t T T' ty e e' sz:Nat}{s x:Operand}{pos:String}{after:Array Edge}{es new:List (List D)}{st:MR}
  (ae:t<n) (hk:(tab T).k=.slice e) (bF:(tab T').k=.slice e') (he:A1 (tab e).k=false) (hsz:(tab e).size=sz) (h1:ev γ s=mD st es.length) (hm:mOK O sz st es) (h2:esOf (ev γ x)=some new)
  (hlen':∀c∈new,c.length=sz) (aJ:∀c∈new,BC c=true)
  (hb:(es.length+new.length)*(tab e).bytes<=140737488355328) (hm2:es.length+new.length<=9223372036854775807)
  (h:∀st',mOK O sz st' (es++new)->DOps P ro n ops Q rest ⟨(t,mD st' (es++new).length)::γ,mS O st' (es++new),df⟩) :
  DOps P ro n ops Q (⟨some t,(cA s x T T'),ty,pos,after,none⟩::rest) ⟨γ,mS O st es,df⟩:=by
 subst hsz
 refine By (fun d U'=> ∃st',mOK O (tab e).size st' (es++new)/\d=mD st' (es++new).length/\U'=mS O st' (es++new)) rfl (fun c e=>by cases e) (AZ rfl rfl) (by simp[Ap,ae]) ?_
  (fun d U' ⟨st',a1,a2,a3⟩=>by subst a2 a3;exact h st' a1)
 intro g w a hs hT
 have aG:=Ai hT s
 have bi:=Ai hT x
 rw[h1]at aG
 obtain⟨base,cap,r1,r2,us,r3,r4,r5⟩:=Nc hs hm aG
 obtain⟨xa,xc,q1,q2,q3⟩:=BT h2 bi
 obtain⟨news,v1,v2,v3⟩:=BL hs hlen' q3
 obtain⟨inf,z,t1,t2,t3,t4,t5,t6,t7⟩:=Bd ht hk bF he
 have aC:=hm.len
 have am:∀c∈es++new,c.length=(tab e).size:=fun c hc=>(List.mem_append.1 hc).elim (aC c) (hlen' c)
 by_cases ah:es.length+new.length<=cap
 ·
  cases st with
  | none =>
   obtain rfl:es=[]:=hm
   obtain⟨rfl,rfl⟩:base=none/\cap=0:=by
    have e1:a.eval s=.slice none 0 0:=aG
    rw[e1]at r1;injection r1 with f1 f2 f3;exact⟨f1.symm,f3.symm⟩
   have bB:new.length=0:=by simpa using ah
   have bA:new=[]:=List.length_eq_zero_iff.1 bB
   subst bA
   have bw:news=[]:=List.length_eq_zero_iff.1 (by rw[v2];simp)
   refine⟨g,w,.slice none 0 0,.nils,O,Aq ?_,.refl g,hs,rfl,none,rfl,rfl,rfl⟩
   rw[r1,q1]
   have:=Bb (ty:=ty) t1 t2 t3 (w:=w) (w2:=w) (base:=none) (xa:=xa) (n:=0) (cap:=0) (m:=0) (xc:=xc) (news:=[]) (Al (by simp) (.inl rfl)) (by omega) (fun b hb=>by cases hb) (fun _=>rfl)
   simpa using this
  | some y =>
   obtain⟨i,cap',rest'⟩:=y
   obtain⟨m1,m2,m3,m4⟩:=hm
   obtain⟨b,aq,hv⟩:=aG
   rw[hv]at r1;injection r1 with f1 f2 f3
   subst f3
   subst f1
   obtain⟨b2,vs,ty',bd,aa,hr⟩:=hs.obj i _ (w6 ..)
   obtain rfl:b2=b:=by rw[aq]at bd;cases bd;rfl
   have aB:=RepL.length hr
   simp only[Array.length_toList]at aB
   have bQ:=Av m4
   have bP:=Av hlen'
   have bw:=RepL.length v1
   simp only[List.length_append]at m2 aB
   have aY:(es.length+new.length)*(tab e).size<=cap'*(tab e).size:=Nat.mul_le_mul_right _ ah
   rw[Nat.add_mul]at aY
   have bp:=Bw (P:=P) news 0 w vs aa (CJ v1 (F2 aJ)) (o:=es.length*(tab e).size) (by omega)
   have aj:=Bb (ty:=ty) t1 t2 t3 (w:=w) (base:=some ⟨b2,0,none⟩) (xa:=xa) (n:=es.length) (cap:=cap') (m:=new.length) (xc:=xc) (news:=news) (w2:=if news=[] then w else setB w b2 (.cells (Ba vs (0+es.length*(tab e).size) news) ty' (0,0)))
    (Al (by rw[t5];exact v2) v3) ah (fun a ha=>by cases ha;rw[Bu,t5];simpa using bp) (fun h=>by cases h)
   have aW:RepL g (es.flatten++(new.flatten++rest'.drop (new.length*(tab e).size))) (Ba vs (0+es.length*(tab e).size) news).toList:=by
    refine AF (by simp only[List.length_append,List.length_drop,Array.length_toList,Cd];omega) fun j d v h1 h2=>?_
    have aw:(Ba vs (0+es.length*(tab e).size) news)[j]? = some v:=by simpa using h2
    rw[CB _ _ _ _ (by omega)]at aw
    simp only[List.getElem?_append]at h1
    have hg:=RepL.get hr j
    by_cases c1:j<es.flatten.length
    ·rw[if_neg (by omega)]at aw
     rw[if_pos c1]at h1
     rw[List.getElem?_append_left c1,h1]at hg
     simp only[Array.getElem?_toList,aw,Option.getD_some]at hg
     exact hg
    ·rw[if_neg c1]at h1
     by_cases c2:j-es.flatten.length<new.flatten.length
     ·rw[if_pos (by omega)]at aw
      rw[if_pos c2]at h1
      have:=RepL.get v1 (j-es.flatten.length)
      rw[h1,show j-es.flatten.length=j-(0+es.length*(tab e).size) by omega,aw]at this
      exact this
     ·rw[if_neg (by omega)]at aw
      rw[if_neg c2,List.getElem?_drop]at h1
      rw[List.getElem?_append_right (by omega),show j-es.flatten.length=new.length*(tab e).size+(j-es.flatten.length-new.flatten.length) by omega,h1]at hg
      simp only[Array.getElem?_toList,aw,Option.getD_some]at hg
      exact hg
   refine⟨g,_,.slice (some ⟨b2,0,none⟩) (es.length+new.length) cap',mD (some (i,cap',rest'.drop (new.length*(tab e).size))) (es++new).length,_,Aq (by rw[hv,q1];exact aj),.refl g,?_,?_,some (i,cap',rest'.drop (new.length*(tab e).size)),⟨m1,?_,by simpa using ah,am⟩,rfl,rfl⟩
   ·have ak:=hs.setObj (i:=i) (b:=b2) (ds':=es.flatten++(new.flatten++rest'.drop (new.length*(tab e).size))) (vs':=Ba vs (0+es.length*(tab e).size) news) (ty:=ty') (w6 ..) aq aW ⟨vs,aa⟩
    simp only[mS,w8]at ak
    have e1:es.flatten++(new.flatten++rest'.drop (new.length*(tab e).size))=(es++new).flatten++rest'.drop (new.length*(tab e).size):=by simp
    rw[e1]at ak
    by_cases hne:news=[]
    ·rw[if_pos hne]
     subst hne
     have bj:setB w b2 (.cells (Ba vs (0+es.length*(tab e).size) []) ty' (0,0))=w:=by
      obtain⟨bC,bH⟩:=Array.getElem?_eq_some_iff.1 aa
      have e:w.heap.setIfInBounds b2 (.cells vs ty' (0,0))=w.heap:=by
       apply Array.ext (by simp);intro k h1 h2;by_cases hk:b2=k
       ·subst hk;simp[bH]
       ·rw[Array.getElem_setIfInBounds_ne _ hk]
      show { w with heap:=w.heap.setIfInBounds b2 (.cells vs ty' (0,0)) }=w
      rw[e]
     rw[bj]at ak;exact ak
    ·rw[if_neg hne];exact ak
   ·rw[mD,List.length_append];exact Ff aq
   ·simp only[List.flatten_append,List.length_append,List.length_drop];omega
 ·
  obtain⟨c,hc,aj⟩:=Dg (ty:=ty) t1 t2 t3 t4 (w:=w) (base:=base) (xa:=xa) (n:=es.length) (cap:=cap) (m:=new.length) (xc:=xc) (olds:=us) (news:=news)
   (Al (by rw[t5];exact r4) r5) (Al (by rw[t5];exact v2) v3) (by omega) hm2 (by rw[t6];exact hb)
  obtain⟨i',aI,ax⟩:=hs.fresh
  let zs:=(Builtin.zeroCells z.cells (c-(es.length+new.length))).toList
  have aR:RepL (g.bind i' w.heap.size) ((es++new).flatten++zs.map B7) (us++news++zs):=by
   rw[List.flatten_append]
   exact((RepL.mono (G.bind_le aI) _ r3).append (RepL.mono (G.bind_le aI) _ v1)).append (BM _ _)
  have aV:ObjRep P (g.bind i' w.drew.heap.size) { w.drew with heap:=w.drew.heap.push (.cells (us++news++zs).toArray e (0,0)) } i' (.cells ((es++new).flatten++zs.map B7)):=
   ⟨w.drew.heap.size,(us++news++zs).toArray,e,by simp[G.bind],by exact Array.getElem?_push_size,by simpa using aR⟩
  have aP:=hs.drew.newObj aI ax rfl aV
  have bL:O i'=none:=by
   cases st with
   |none=>exact ax
   |some y=>
    obtain⟨i,cap',rest'⟩:=y
    simp only[mS]at ax
    exact(set_none' ax).2
  refine⟨_,_,_,mD (some (i',c,zs.map B7)) (es++new).length,_,Aq (by rw[r1,q1];exact aj),G.bind_le aI,aP.sub (U':=mS O (some (i',c,zs.map B7)) (es++new)) ?_,?_,some (i',c,zs.map B7),⟨bL,?_,by simpa using hc,am⟩,rfl,rfl⟩
  ·cases st with
   |none=>exact Sub.refl _
   |some y=>
    obtain⟨i,cap',rest'⟩:=y
    simp only[mS]at ax⊢
    exact(Sub.refl O).setD hm.1 fun e=>(set_none' ax).1 e.symm
  ·rw[mD,List.length_append];exact Ff (by simp[G.bind])
  ·have hz:zs.length=(c-(es.length+new.length))*(tab e).size:=by simp[zs,size_zeroCells,t7]
   simp only[List.length_append,List.length_map,hz,Av am,<-Nat.add_mul]
   congr 1;omega
where
 set_none' {O:Sig}{i j:Nat}{o:DObj} (h:O.set i o j=none):j≠i/\O j=none:=by
  by_cases hj:j=i
  ·subst hj;rw[w6]at h;cases h
  ·rw[w7 _ _ hj]at h;exact⟨hj,h⟩
omit ht in
theorem LM{zs:Array Value}{sz:Nat}(hz:zs.size=sz)(h0:0<sz): ∀k:Nat,((List.range (k*sz)).map fun j=>zs[j % zs.size]!)=(List.replicate k zs.toList).flatten
 |0=>by simp
 |k+1=>by
  rw[List.replicate_succ',List.flatten_append,<-LM hz h0 k,Nat.add_mul,Nat.one_mul,List.range_add,List.map_append]
  congr 1
  simp only[List.map_map,List.flatten_cons,List.flatten_nil,List.append_nil]
  apply List.ext_getElem (by simp[hz])
  intro j h1 h2
  have hj:j<sz:=by simpa using h1
  simp only[List.getElem_map,Function.comp,List.getElem_range,hz,Array.getElem_toList]
  rw[Nat.mul_comm,Nat.mul_add_mod,Nat.mod_eq_of_lt hj,getElem!_pos zs j (by omega)]
theorem PK{t T ty e k sz c:Nat}{l m:Operand}{pos:String}{after:Array Edge}{z:List D}
  (ae:t<n) (hk:(tab T).k=.slice e) (he:A1 (tab e).k=false) (hsz:(tab e).size=sz) (h0:0<sz) (hz:(tab e).zero=z)
  (h1:ev γ l=.int .i64 k) (h2:ev γ m=.int .i64 c) (bE:k<=c) (hb:c*(tab e).bytes<=140737488355328) (hm:c<=9223372036854775807)
  (h:∀i,O i=none->mOK O sz (some (i,c,(List.replicate (c-k) z).flatten)) (List.replicate k z)->DOps P ro n ops Q rest ⟨(t,.sref i 0 k c)::γ,mS O (some (i,c,(List.replicate (c-k) z).flatten)) (List.replicate k z),df⟩) :
  DOps P ro n ops Q (⟨some t,.makeSlice T l m,ty,pos,after,none⟩::rest) ⟨γ,O,df⟩:=by
 subst hsz hz
 obtain⟨inf,z,t1,t2,t3,t4,t5,t6,t7⟩:=Bd ht hk hk he
 obtain⟨z',hz,bN,bM⟩:=Ct (ht e) (Ae he) (default:World)
 have bf:(tab e).zero.length=(tab e).size:=by
  obtain⟨_,_,_,_,_,_,_,_,_,_,h8,_⟩:=BJ (ht e) (Ae he)
  exact h8
 have aJ:(List.replicate k (tab e).zero).flatten++(List.replicate (c-k) (tab e).zero).flatten=(List.replicate c (tab e).zero).flatten:=by
  rw[<-List.flatten_append,List.replicate_append_replicate];congr 2;omega
 have aU:∀i,O i=none->mOK O (tab e).size (some (i,c,(List.replicate (c-k) (tab e).zero).flatten)) (List.replicate k (tab e).zero):=by
  intro i hi
  have hl:∀(m:Nat), ∀x∈List.replicate m (tab e).zero,x.length=(tab e).size:=fun m x hx=>by rw[List.eq_of_mem_replicate hx,bf]
  refine⟨hi,?_,by simpa using bE,hl k⟩
  rw[aJ,Av (hl c),List.length_replicate]
 refine GG (mk:=fun i=>.sref i 0 k c) (d:=.cells ((List.replicate k (tab e).zero).flatten++(List.replicate (c-k) (tab e).zero).flatten)) rfl (fun c e=>by cases e) (Aa fun c e=>by cases e) (by simp[Ap,ae]) rfl ?_
  (fun i hi=>h i hi (aU i hi))
 intro g w a hs hT
 have aB:=Ai hT l
 have ba:=Ai hT m
 rw[h1]at aB
 rw[h2]at ba
 have aZ:a.eval l=.int .i64 (k:Int):=aB
 have aX:a.eval m=.int .i64 (c:Int):=ba
 obtain⟨z'',bh,aM,aL⟩:=Ct (ht e) (Ae he) w
 let cs:Array Value:=(Array.range (c*(tab e).size)).map (z''.cells[· % z''.cells.size]!)
 refine⟨.cells cs e,.slice (some ⟨w.heap.size,0,none⟩) k c,?_,fun i hi=>⟨⟨w.heap.size,cs,e,by simp[G.bind],by simp,?_⟩,w.heap.size,by simp[G.bind],rfl⟩⟩
 ·have w1:IntKind.i64.wrap (k:Int)=k:=As (by omega) (by omega)
  have w2:IntKind.i64.wrap (c:Int)=c:=As (by omega) (by omega)
  have bR:((tab e).bytes:Int)*(c:Int)<=140737488355328:=by rw[Int.mul_comm,<-Int.natCast_mul];omega
  have c1:¬(281474976710656<((tab e).bytes:Int)*(c:Int)):=by omega
  have c2:¬((c:Int)<0):=by omega
  have c3:¬((k:Int)<0):=by omega
  have c4:¬((c:Int)<(k:Int)):=by omega
  unfold execOp Instr.makeSlice
  simp only[aZ,aX,Sem.run_bind,run_underlying t1,Result.andThen_ok,asInt,asIntOf,Sem.run_pure,run_program,typeInfo,t3,w1,w2,t6]
  have d1:decide ((c:Int)<0)=false:=by simp
  have d2:decide ((tab e).bytes*(c:Int)>2 ^ 48)=false:=by simp;omega
  have d3:decide ((k:Int)<0)=false:=by simp
  have d4:decide ((k:Int)>c)=false:=by simp;omega
  simp only[d1,d2,d3,d4,Bool.or_false,Bool.false_eq_true,if_false,run_askRoom,Sem.run_bind,Result.andThen_ok,Ay (ht e) (Ae he),Int.toNat_natCast]
  by_cases a8:c*(tab e).size=0
  ·have bJ:cs=#[]:=by simp[cs,a8]
   have bt:Array.map (fun (x:Nat)=>(default:Value)) (Array.range 0)=#[]:=by simp
   simp[a8,Ck,bJ]
   exact congrArg (fun (z:Array Value)=>w.alloc (Obj.cells z e)) bt
  ·simp[a8,bh,Ck,cs]
 ·rw[aJ]
  have e1:cs.toList=(List.replicate c z''.cells.toList).flatten:=by
   simp only[cs,Array.toList_map,Array.toList_range]
   exact LM aL h0 c
  rw[e1,aM]
  have:(List.replicate c (z''.cells.toList.map B7)).flatten=((List.replicate c z''.cells.toList).flatten).map B7:=by
   rw[List.map_flatten,List.map_replicate]
  rw[this]
  exact BM _ _
omit ht in
theorem Sim.freeze{g:G}{w:World}(ag:Sim P g O w){i b:Nat}{ds:List D}(hi:O i=some (.cells ds))(hb:g.rho i=some b): ∃g',g.le g'/\Sim P g' (O.del i) w/\RepI g' b 0 ds:=by
 obtain⟨b',vs,ty,aq,aa,hr⟩:=ag.obj i _ hi
 obtain rfl:b'=b:=by rw[hb]at aq;cases aq;rfl
 have au:blk g O i=some b':=by simp[blk,hi,hb]
 have aD:=ag.free i b' au
 have bx:∀o,g.imm b' o=none:=aD.2 fun o ho=>by rw[hi]at ho;cases ho;rfl
 have ar:g.le (g.addImm b' vs.toList):=
  {imm:=fun c o v h=>by
    simp only[G.addImm]
    by_cases hc:c=b'
    ·rw[hc,bx o]at h;cases h
    ·rw[if_neg hc];exact h
   rho:=fun _ _ h=>h,hist:=fun _ _ _ h=>h,keep:=fun _ _ h=>h,io:=rfl }
 have ap:∀j c,blk (g.addImm b' vs.toList) (O.del i) j=some c->j≠i/\blk g O j=some c:=by
  intro j c h
  by_cases hj:j=i
  ·subst hj;simp[blk,Sig.del]at h
  ·refine⟨hj,?_⟩
   unfold blk at h⊢
   simp only[Sig.del,hj,if_false]at h
   exact h
 refine⟨g.addImm b' vs.toList,ar,?_,FJ hr ar⟩
 exact {
   imm:=fun c o v h=>by
    simp only[G.addImm]at h
    by_cases hc:c=b'
    ·rw[if_pos hc]at h
     subst hc
     simp only[World.cell?, aa]
     simpa using h
    ·rw[if_neg hc]at h;exact ag.imm c o v h
   keep:=ag.keep
   obj:=fun j o h=>by
    have hj:j≠i:=fun e=>by rw[e]at h;simp[Sig.del]at h
    simp only[Sig.del,hj,if_false]at h
    refine(ag.obj j o h).mono ar ?_
    intro sz m c o' cap e1 e2 e3 k _ hk
    simp only[G.addImm]
    by_cases hc:c=b'
    ·exfalso
     subst hc
     exact hj (ag.inj j i c (by rw[e1]at h;simp[blk,h,e2]) au)
    ·rw[if_neg hc];exact hk
   inj:=fun j k c h1 h2=>ag.inj j k c (ap j c h1).2 (ap k c h2).2
   free:=fun j c h=>by
    obtain⟨hj,h'⟩:=ap j c h
    obtain⟨h1,h2⟩:=ag.free j c h'
    refine⟨h1,fun hh o=>?_⟩
    have hc:c≠b':=fun e=>hj (ag.inj j i b' (e ▸ h') au)
    simp only[G.addImm];rw[if_neg hc]
    exact h2 (fun x hx=>hh x (by simp only[Sig.del,hj,if_false];exact hx)) o
   htop:=fun j sz n k h hk=>by
    have hj:j≠i:=fun e=>by rw[e]at h;simp[Sig.del]at h
    simp only[Sig.del,hj,if_false]at h
    exact ag.htop j sz n k h hk
   hdom:=ag.hdom
   io:=ag.io
   tab:=ag.tab
   fin:=ag.fin }
omit ht in
theorem Lz{g:G}{b:Nat}: ∀{a c:List D}{o:Nat},RepI g b o (a++c)->RepI g b o a
 |[],_,_,_=>trivial
 |_::_,_,_,⟨h1,h2⟩=>⟨h1,Lz h2⟩
omit ht in
theorem JF{g:G}{b:Nat}: ∀{a c:List D}{o:Nat},RepI g b o (a++c)->RepI g b (o+a.length) c
 |[],_,_,h=>by simpa using h
 |x::a,_,o,⟨_,h2⟩=>by have:=JF h2;rwa [List.length_cons,Nat.add_comm a.length 1,<-Nat.add_assoc]
omit ht in
theorem DR{g:G}{b sz:Nat}: ∀{es:List (List D)}{o:Nat}{r:List D},(∀e∈es,e.length=sz)->RepI g b o (es.flatten++r)->RepE g b sz o es
 |[],_,_,_,_=>trivial
 |e::es,o,r,h,h2=>by
  rw[List.flatten_cons,List.append_assoc]at h2
  refine⟨⟨h e (by simp),Lz h2⟩,?_⟩
  have:=JF h2
  rw[h e (by simp)]at this
  exact DR (fun x hx=>h x (by simp[hx])) this
omit ht in
theorem OO{t sz:Nat}{st:MR}{es:List (List D)}(hm:mOK O sz st es)(hg:getD γ t=mD st es.length):Wk P n ⟨γ,mS O st es,df⟩ ⟨(t,.slice es .no)::γ,O,df⟩:=by
 cases st with
 |none=>
  obtain rfl:es=[]:=hm
  exact BF (by rw[hg];exact An _ (.inl rfl))
 | some x =>
  obtain⟨i,cap,rest⟩:=x
  obtain⟨m1,m2,m3,m4⟩:=hm
  intro g w a hs
  have bb:=hs.tmps.2 t
  rw[hg]at bb
  obtain⟨b,hb,hv⟩:=bb
  obtain⟨g',ar,aQ,br⟩:=hs.sim.freeze (i:=i) (w6 O i _) hb
  refine⟨g',ar,⟨?_,⟨hs.tmps.1,fun k=>?_⟩,hs.df.mono ar⟩⟩
  ·have:(mS O (some (i,cap,rest)) es).del i=O:=Sig.set_del _ _ m1
   simp only at aQ
   rw[this]at aQ;exact aQ
  ·rw[A6]
   by_cases hk:k=t
   ·rw[if_pos hk,hk]
    exact⟨_,cap,hv,m3,.inr ⟨sz,b,0,rfl,DR m4 br⟩,trivial⟩
   ·rw[if_neg hk];exact Rep.mono ar _ (hs.tmps.2 k)
end
theorem Sim.later{P:Program}{g:G}{O:Sig}{w w':World}(hs:Sim P g O w)(h:∀(k:Nat) x,w.heap[k]? = some x->w'.heap[k]? = some x)(bG:(w'.os,w'.output)=(w.os,w.output)):Sim P g O w' where
 imm:=fun b o v hb=>by
  have:=hs.imm b o v hb
  unfold Go.World.cell? at this⊢
  simp only at this⊢
  cases hx:w.heap[b]? with
  |none=>rw[hx]at this;simp at this
  |some x=>rw[hx]at this;rw[h _ _ hx];exact this
 keep:=fun k o hk=>h _ _ (hs.keep k o hk)
 obj:=fun i o ho=>by
  have:=hs.obj i o ho
  cases o with
  |cells ds=>obtain⟨b,vs,ty,h1,h2,h3⟩:=this;exact⟨b,vs,ty,h1,h _ _ h2,h3⟩
  |tcells ty ds=>obtain⟨b,vs,h1,h2,h3⟩:=this;exact⟨b,vs,h1,h _ _ h2,h3⟩
  |mcells ds=>obtain⟨b,vs,ty,h1,h2,h3⟩:=this;exact⟨b,vs,ty,h1,h _ _ h2,h3⟩
  |map l=>obtain⟨b,es,c,h1,h2,h3⟩:=this;exact⟨b,es,c,h1,h _ _ h2,h3⟩
  |tail sz n=>
   rcases this with h1|⟨b,o,cap,vs,ty,h1,h2,h3,h4⟩
   ·exact .inl h1
   ·exact .inr ⟨b,o,cap,vs,ty,h1,h2,h _ _ h3,h4⟩
  |loop st pe ps asg bo n γ did=>obtain⟨b,db,fn,tmps,h1,h2,h3,h4,h5⟩:=this;exact⟨b,db,fn,tmps,h1,h2,h3,h4,h _ _ h5⟩
  |defs=>obtain⟨b,h1,h2⟩:=this;exact⟨b,h1,h _ _ h2⟩
  |iter l la=>obtain⟨b,h1,h2⟩:=this;exact⟨b,h1,h2.imp (fun ⟨a,c,d⟩=>⟨a,c,h _ _ d⟩) (fun ⟨mb,es,c,seen,e1,r⟩=>⟨mb,es,c,seen,h _ _ e1,r⟩)⟩
 inj:=hs.inj
 free:=hs.free
 htop:=hs.htop
 hdom:=hs.hdom
 io:=bG.trans hs.io
 tab:=hs.tab
 fin:=hs.fin
theorem Kf{P:Program}{L:List FuncId}{n f:Nat}{args:Array Value}{w:World}{R:Ending->World->Prop}(h:∀D,CallsIn (Fence.list L (some D)) n P f args w R)(hL:∀f∈L,f<P.funcs.size)(r:Rx):
  CallsIn (FX P r) 0 P f args w R:=by
 refine⟨EA (hL f (h 0).1) _,fun cs _=>?_⟩
 obtain⟨e,w',fr,h1,h2,h3,h4⟩:=(h (cs.length+1+n)).2 cs (fun d hd=>by cases hd;omega)
 refine⟨e,w',fr,h1,?_,h3,h4⟩
 have key:∀m m',StepsIn (Machine.fenced P (Fence.list L (some (cs.length+1+n)))) P m m'->StepsIn (Machine.fenced P (FX P r)) P m m':=fun m m' hs=>by
  refine StepsIn.mono (fun m hm g hg=>?_) hs
  obtain⟨a1,a2,a3,a4⟩:=hm g hg
  exact⟨(fun e=>by cases e),a2.imp (fun h=>EA (hL _ h) _) id,fun f hf=>EA (hL _ (a3 f hf)) _,Ee P r _⟩
 cases e with
 |returned v=>exact key _ _ h2
 |panicked c=>exact key _ _ h2
 |outgrown=>exact h2
end Go.DL
