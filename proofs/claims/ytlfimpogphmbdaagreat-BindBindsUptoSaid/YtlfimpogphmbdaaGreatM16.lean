/- Part of the proof that the last text ends. -/
import Derived.Test.YtlfimpogphmbdaaGreatM15
import Derived.Test.YtlfimpogphmbdaaGreatM10
import Derived.Test.YtlfimpogphmbdaaGreatM11
set_option linter.all false
namespace Go.DL
open Go.Proofs.Tryz
open Go Go.Proofs
section
variable {P:Program} {ro:Option Nat} {n:Nat} {ops:Array Oper} {N:Nat} {S0:Sig} {Q:DX->St->Prop} {df:List DDf} {rest:List Oper} {γ Sr:List (Nat × D)} {V:Sig} {t:Nat} {ty:TypeId} {pos:String} {after:Array Edge} {l:List (Bool × Oper)} {d:D} {e:Bool}
theorem MH {P:Program} {fop:Operand} {args:Array Operand} {ats:Array TypeId} {f:Nat} {first cap us bs:List D} (hl:A5 γ (A8 (fop::args.toList))=some Sr) (hf:ev Sr fop = .func (.func f) first cap) (ha:first++args.toList.map (ev Sr)++cap=us) (hb:bs=us\/bs=us.map D.plain)
  (h : ∀ S',Sub S0 S'->DCall P f bs S' fun x S''=>x = .ret d/\Sub S' S'') (htn:decide (t < n)=true) (k:MO P ro n ops N S0 Q df l ((t,d)::γ) V) :
  MO P ro n ops N S0 Q df ((e,⟨some t,(cv fop args ats),ty,pos,after,none⟩)::l) γ V:=by
 have hx : ∀ x ∈ fop::args.toList,ev Sr x=ev γ x:=fun x hx=>BU fun t ht=>AN hl t (B7 (by rw [<- ht];exact hx))
 have hop : ∀ x ∈ ((cv fop args ats)).operands,ev (only (Oper.looksAt ops ⟨some t,(cv fop args ats),ty,pos,after,none⟩) γ) x=ev γ x:=fun x hx=>C2 (o:=⟨some t,(cv fop args ats),ty,pos,after,none⟩) hx
 refine P9 d htn rfl (by rw [B1];rfl) (fun S' hS' ro' df' => ?_) k
 refine G1 (first:=first) (cap:=cap) (f:=f) ?_ ?_ (h S' hS') ?_ htn ?_ ?_
 ·show AG ops (only _ γ) _=some true
  rw [B1];rfl
 ·rw [hop fop (by simp [Op.operands,Call.operands]), <- hx fop (by simp)];exact hf
 ·simp only
  rw [show args.toList.map (ev (only (Oper.looksAt ops ⟨some t,(cv fop args ats),ty,pos,after,none⟩) γ))=args.toList.map (ev Sr) from List.map_congr_left fun x hm=>by
   rw [hop x (by simp at hm;simp [Op.operands,Call.operands,hm]), <- hx x (by simp [hm])],ha]
  rcases hb with rfl | rfl
  ·exact DR _
  ·exact F9 _
 ·rintro d' S'' ⟨h1,h2⟩
  cases h1
  exact AJ ⟨rfl,by simp [putD,A7],h2⟩
 ·rintro d' S'' ⟨h1,h2⟩
  cases h1
theorem moQR {fop:Operand} {args:Array Operand} {ats:Array TypeId} {f:Nat} {first cap us:List D} {H:Prop} (k1:MO prog ro n ops N S0 Q df l ((t,d)::γ) V) (hl:A5 γ (A8 (fop::args.toList))=some Sr:=by rfl) (hf:ev Sr fop = .func (.func f) first cap:=by rfl) (ha:first++args.toList.map (ev Sr)++cap=us:=by (simp (disch:=first | omega | assumption) [Ap,big1,big2,w8]<;>(try simp only [Bi,Bj,AV,Bh,AB,AY,AX,AW,AU,AA,AT,AS,AR])<;>with_unfolding_all rfl))  (hs : ∀ S',Ans f us S' H d:=by intro S';infer_instance) (hH:H:=by (and_intros<;>first | trivial | assumption | omega | (simp;done) | (simp;omega))) (htn:decide (t < n)=true:=by exact tdR):MO prog ro n ops N S0 Q df ((e,⟨some t,(cv fop args ats),ty,pos,after,none⟩)::l) γ V:=MH hl hf ha (.inl rfl) (fun S' _=>by have h:=(hs S').call hH;exact h.mono fun x S'' hx=>⟨hx.1,hx.2 ▸ Sub.refl _⟩) htn k1
theorem V7 {fop:Operand} {args:Array Operand} {ats:Array TypeId} {f:Nat} {first cap us bs:List D} (h : ∀ S',Sub S0 S'->DCall prog f bs S' fun x S''=>x = .ret d/\Sub S' S'') (k1:MO prog ro n ops N S0 Q df l ((t,d)::γ) V) (hl:A5 γ (A8 (fop::args.toList))=some Sr:=by rfl) (hf:ev Sr fop = .func (.func f) first cap:=by rfl) (ha:first++args.toList.map (ev Sr)++cap=us:=by (simp (disch:=first | omega | assumption) [Ap,big1,big2,w8]<;>(try simp only [Bi,Bj,AV,Bh,AB,AY,AX,AW,AU,AA,AT,AS,AR])<;>with_unfolding_all rfl)) (hp:bs=us:=by exact tdR) (htn:decide (t < n)=true:=by exact tdR):MO prog ro n ops N S0 Q df ((e,⟨some t,(cv fop args ats),ty,pos,after,none⟩)::l) γ V:=MH hl hf ha (.inl hp) h htn k1
theorem mixA {lo:List Oper} {id:Nat} (ord E:List Nat) {lp:List (Bool × Oper)} (h:MO2 prog ro n lo.toArray 334 V Q df tab lp γ V) (hB:HD lo.toArray E ord=true:=by kernel_rfl) (hA:Rg tab n lo.toArray=true:=by exact tdR) (hl:Gs lo E ord=some lp:=by exact tdR):DWp prog ro n (.region id lo.toArray true) Q ⟨γ,V,df⟩ :=
 VR Ae Ak mixed ord E V hB hA (Sub.refl _) hl h
end
section
variable {ro:Option Nat} {n:Nat} {ops:Array Oper} {N:Nat} {S0:Sig} {Q:DX->St->Prop} {df:List DDf} {γ Sr:List (Nat × D)} {V:Sig} {t:Nat} {ty:TypeId} {pos:String} {after:Array Edge} {e1 u1:Bool} {l:List (Bool × Bool × Oper)}
theorem mixU {lo:List Oper} {id:Nat} (ord E U:List Nat) {lp:List (Bool × Bool × Oper)} (h:MO3 prog ro n lo.toArray 334 V Q df tab lp γ V) (hB:HC lo.toArray E U ord=true:=by kernel_rfl) (hA:Rg tab n lo.toArray=true:=by exact tdR) (hl:RJ lo E U ord=some lp:=by exact tdR):DWp prog ro n (.region id lo.toArray true) Q ⟨γ,V,df⟩ :=
 VO Ae Ak mixed ord E U V hB hA (Sub.refl _) hl h
theorem u3R (d:D) {op:Op} (h:MO3 prog ro n ops N S0 Q df tab l ((t,d)::γ) V) (hr:DB op=true:=by rfl) (htn:decide (t < n)=true:=by exact tdR) (hl:A5 γ (A8 op.operands.toList)=some Sr:=by exact tdR) (hd:dopX tab Sr S0 op=some d:=by first | with_unfolding_all rfl | (simp;done) | (simp;rfl)):MO3 prog ro n ops N S0 Q df tab ((e1,u1,⟨some t,op,ty,pos,after,none⟩)::l) γ V :=
 Vb Ae hr htn hl hd h
theorem u3A (z:List D) {T:Nat} (h : ∀ k,V k=none->MO3 prog ro n ops N S0 Q df tab l ((t, .ptr k 0)::γ) (V.set k (.cells z))) (hz:(tab T).zero=z:=by (simp<;>rfl)):MO3 prog ro n ops N S0 Q df tab ((e1,u1,⟨some t, .alloc T,ty,pos,after,none⟩)::l) γ V:=by
 subst hz;exact Sf h
theorem u3N (sz m:Nat) {s x:Operand} {T T' e e':Nat} {new:List (List D)} (h : ∀ i,V i=none->MO3 prog ro n ops N S0 Q df tab l ((t, .slice new (.tag i))::γ) (V.set i (.tail sz m))) (hl:A5 γ (A8 [s,x])=some Sr:=by exact tdR) (hk:(tab T).k = .slice e:=by (simp<;>rfl)) (hk':(tab T').k = .slice e':=by (simp<;>rfl)) (he:A6 (tab e).k=false:=by simp)
  (h1:ev Sr s = .nils:=by exact tdR) (h2:esOf (ev Sr x)=some new:=by (simp<;>with_unfolding_all rfl)) (hlen : ∀ c ∈ new,c.length=(tab e).size:=by first | exact BN _ | exact CT _ | exact BB _ | simp)
  (hb:new.length*(tab e).bytes<=140737488355328:=by first | (simp;done) | (simp;omega)) (hm:new.length<=9223372036854775807:=by first | (simp;done) | (simp;omega)) (htn:decide (t < n)=true:=by exact tdR) (hz:(tab e).size=sz:=by (simp<;>rfl)) (hn:new.length=m:=by simp) :
  MO3 prog ro n ops N S0 Q df tab ((e1,true,⟨some t, .call { callee := .builtin .append,args := #[s,x],argTypes := #[T,T'] },ty,pos,after,none⟩)::l) γ V:=by
 subst hz hn
 refine mo3_u rfl (.inl ⟨fun i => .slice new (.tag i), .tail (tab e).size new.length,fun τ=>⟨htn,rfl, ?_⟩,h⟩)
 obtain ⟨k1,k2⟩:=HP (T:=T) (T':=T') hl fun _ hx=>C2 (ops:=ops) (o:=⟨some t, .call { callee := .builtin .append,args := #[s,x],argTypes := #[T,T'] },ty,pos,after,none⟩) hx
 exact CO Ae rfl (by simpa using htn) hk hk' he (by rw [k1];exact h1) (by rw [k2];exact h2) hlen hb hm (fun i hi=>AJ ⟨rfl,i,hi,by simp [A7],rfl⟩)
theorem u3E (i:Nat) {y x:DObj} {d:D} {op:Op} (hj:V i=some y) (h0:S0 i=none) (h:MO3 prog ro n ops N S0 Q df tab l ((t,d)::γ) (V.set i x)) (hl:A5 γ (A8 op.operands.toList)=some Sr:=by exact tdR)
  (he : ∀ τ:Sig,τ i=some y->eopD tab Sr τ op=some (d,τ.set i x):=by (intro τ hO;simp (disch:=first | omega | assumption) [Ap,big1,big2,hO]<;>first | rfl | (and_intros<;>rfl) | omega)) (hn:isAl ⟨some t,op,ty,pos,after,none⟩=none:=by rfl) (htn:decide (t < n)=true:=by exact tdR):MO3 prog ro n ops N S0 Q df tab ((e1,true,⟨some t,op,ty,pos,after,none⟩)::l) γ V:=by
 refine mo3_u hn (.inr ⟨i,y,x,d,hj,h0,fun τ hO=>⟨htn,rfl, ?_⟩,h⟩)
 refine EU Ae rfl (by rw [Bm (U':=γ) fun x hx=>C2 (o:=⟨some t,op,ty,pos,after,none⟩) hx, <- Bm (BT hl)];exact he τ hO) htn (AJ ⟨rfl,by simp [A7,putD],rfl⟩)
theorem u3M (h:MO prog ro n ops N S0 Q df (l.map fun p=>(p.1,p.2.2)) γ V) (hl:(l.all fun p => !(isAl p.2.2).isSome)=true:=by rfl):MO3 prog ro n ops N S0 Q df tab l γ V:=J8 hl h
end
section
variable {ro:Option Nat} {n:Nat} {ops:Array Oper} {N:Nat} {S0:Sig} {Q:DX->St->Prop} {df:List DDf} {γ Sr:List (Nat × D)} {V:Sig} {t:Nat} {ty:TypeId} {pos:String} {after:Array Edge} {e1 c1 k1:Bool} {l:List (Bool × Bool × Bool × Oper)}
theorem mixK {lo:List Oper} {id:Nat} (ord E C K:List Nat) (S0:Sig) (hC:Sub S0 V) {lp:List (Bool × Bool × Bool × Oper)} (h:MO4 prog ro n lo.toArray 334 Q df lp S0 γ V) (hB:HB lo.toArray E C K ord=true:=by kernel_rfl) (hl:RK lo E C K ord=some lp:=by exact tdR):DWp prog ro n (.region id lo.toArray true) Q ⟨γ,V,df⟩ :=
 VQ Ak mixed ord E C K S0 hB hC hl h
theorem k4R (d:D) {op:Op} (h:MO4 prog ro n ops N Q df l S0 ((t,d)::γ) V) (hr:DB op=true:=by rfl) (htn:decide (t < n)=true:=by exact tdR) (hl:A5 γ (A8 op.operands.toList)=some Sr:=by exact tdR) (hd:dopX tab Sr (if c1=true then S0 else fun _=>none) op=some d:=by first | with_unfolding_all rfl | (simp;done) | (simp;rfl)):MO4 prog ro n ops N Q df ((e1,c1,k1,⟨some t,op,ty,pos,after,none⟩)::l) S0 γ V :=
 Va Ae hr htn hl hd h
theorem k4E (S1:Sig) {op:Op} {d:D} {S':Sig} (hC:Sub S1 S') (h:MO4 prog ro n ops N Q df l S1 ((t,d)::γ) S') (hl:A5 γ (A8 op.operands.toList)=some Sr:=by exact tdR) (he:eopD tab Sr V op=some (d,S')) (hk:k1=false->S1=S0:=by first | (intro;rfl) | exact fun h=>absurd h (by decide)) (htn:decide (t < n)=true:=by exact tdR):MO4 prog ro n ops N Q df ((true,c1,k1,⟨some t,op,ty,pos,after,none⟩)::l) S0 γ V :=
 RZ (o:=⟨some t,op,ty,pos,after,none⟩) Ae S1 htn rfl ((Bm (BT hl)) ▸ he) hC hk h
theorem k4S (S1:Sig) {op:Op} {d:D} {S':Sig} (hC:Sub S1 S') (h:MO4 prog ro n ops N Q df l S1 γ S') (hl:A5 γ (A8 op.operands.toList)=some Sr:=by exact tdR) (he:eopD tab Sr V op=some (d,S')) (hk:k1=false->S1=S0:=by first | (intro;rfl) | exact fun h=>absurd h (by decide)):MO4 prog ro n ops N Q df ((true,c1,k1,⟨none,op,ty,pos,after,none⟩)::l) S0 γ V :=
 RZ (o:=⟨none,op,ty,pos,after,none⟩) Ae S1 rfl rfl ((Bm (BT hl)) ▸ he) hC hk h
theorem k4N {Q':DX->St->Prop} (h:Q' .normal ⟨γ,V,df⟩):MO4 prog ro n ops N Q' df [] S0 γ V:=AJ h
end
end Go.DL
namespace Go.DL
open Go.Proofs.Tryz
open Go Go.Proofs
set_option maxHeartbeats 8000000
def unf:D := .iface 236 (.agg [])
theorem Vu (b:Bool) (V:Sig):DCall prog 81 [.bool b] V fun x S'=>x=(if b then .ret (.tup []) else .panic unf)/\S'=V:=by
 refine en func81 ntmps81 ?_
 cases b
 ·refine gz ?_
  refine pan ?_
  exact finP (S':=V) ⟨rfl,rfl⟩
 ·refine gz ?_
  exact DM (S':=V) ⟨rfl,rfl⟩
@[reducible,instance] def a81:=fun b V=>gh0 (@Vu b V)
theorem TV (l:List Str) (o:Own) (V:Sig) (hl:l.length<=1073741824:=by exact sd) :
  DCall prog 142 [.slice (cS l) o] V (rS (sl (cS l)) V):=by
 refine en func142 ntmps142 ?_
 refine gz ?_
 refine isN (fun b hb => ?_)
 repeat' first | refine gz ?_ | apply gy<;>intro hh
 ·exact fe1 (d':=sl []) (hb hh)
 ·by_cases h:l=[]
  ·refine app0 ?_
   refine gz ?_
   exact fe1 (d':=sl []) h
  ·refine appC (fun i hi => ?_) (hne:=by simp [cS,h])
   refine gz ?_
   exact finS (S':=V) (es:=cS l) ⟨rfl,rfl⟩ ((Sub.refl _).set hi)
@[reducible,instance] def a142:=fun l o V=>ah1 (@TV l o V)
theorem Hc (l:List Int) (q:Int->Bool) (g:Nat) (cap:List D) (o:Own) (V:Sig) (hl:l.length<=1073741824)
  (hg : ∀ x ∈ l, ∀ S',Sub V S'->DCall prog g ([]++[dI x]++cap) S' fun r S''=>r = .ret (.bool (q x))/\S''=S') :
  DCall prog 283 [.slice (cI l) o, .func (.func g) [] cap] V (rS (sl (cI (l.filter q))) V):=by
 refine en func283 ntmps283 ?_
 refine gz ?_
 refine Bo 5 1 (fun i hi => ?_)
 refine AQ [1,4,8,9,22] (fun (k:Nat) (out:List Int)=>k<=l.length/\out.length<=k/\out++(l.drop k).filter q=l.filter q) (fun k out=>[(10,dI k),(5, .slice (cI out) (.tag i))]) (fun _ out=>V.set i (.tail 1 out.length)) (fun k _=>l.length-k) (0) ([]) (by simp) (fun k out hI => ?_)
 obtain ⟨hk,hlen,hR⟩:=hI
 by_cases h:k < l.length
 ·rw [A3 h,List.filter_cons] at hR
  repeat' first | refine AE (hg (l[k]) (List.getElem_mem h) _ ((Sub.refl _).set hi)) ?_ | refine callP (hg (l[k]) (List.getElem_mem h) _ ((Sub.refl _).set hi)) ?_ | refine gz ?_ | apply gy<;>intro hh
  ·exact ⟨k+1,out++[l[k]],by refine ⟨by omega,by simp;omega, ?_⟩;rw [<- hR];simp [hh],td1,wkR⟩
  ·exact ⟨k+1,out,by refine ⟨by omega,by omega, ?_⟩;rw [<- hR];simp [hh],td1,wkR⟩
 ·rw [A2 h] at hR
  simp at hR
  refine gz ?_
  exact finS (S':=V) (es:=cI out) ⟨by rw [hR],rfl⟩
theorem Ng (c:Int) (V:Sig):DCall prog 305 [dI c] V (rS (.bool (!decide (c=0))) V):=by
 refine en func305 ntmps305 ?_
 refine gz ?_
 exact fe1 trivial
theorem T9 (l:List Int) (o:Own) (V:Sig) (hl:l.length<=1073741824:=by exact sd):DCall prog 282 [.slice (cI l) o] V (rS (sl (cI (l.filter fun c => !decide (c=0)))) V):=by
 refine en func282 ntmps282 ?_
 repeat' first | refine gz ?_ | refine AE (Hc l (fun c => !decide (c=0)) 305 [] o V hl (fun x _ S' _=>Ng x S')) ?_ | refine callP (Hc l (fun c => !decide (c=0)) 305 [] o V hl (fun x _ S' _=>Ng x S')) ?_ | refine gz ?_ | apply gy<;>intro hh
 exact fe1 trivial
@[reducible,instance] def a282:=fun l o V=>ah1 (@T9 l o V)
theorem Ni (c x:Int) (V:Sig):DCall prog 284 [dI c, .cptr [dI x] 0] V (rS (.bool (!decide (c=x))) V):=by
 refine en func284 ntmps284 ?_
 refine gz ?_
 exact fe1 trivial
def idxG {α:Type} [DecidableEq α] (s:α):List α->Nat->Int
 | [],_ => -1
 | x::r,k=>if x=s then k else idxG s r (k+1)
theorem Ns (l:List Str) (s:Str) (o:Own) (V:Sig) (hl:l.length<=1073741824:=by exact sd) :
  DCall prog 130 [.slice (cS l) o, .str s] V (rS (dI (idxG s l 0)) V):=by
 refine en func130 ntmps130 ?_
 refine gz ?_
 refine Bz [0,1] (fun (k:Nat)=>k<=l.length/\idxG s l 0=idxG s (l.drop k) k) (fun k=>[(5,dI k)]) (fun _=>V) (fun k=>l.length-k) (0) (by simp) (fun k hI => ?_)
 obtain ⟨hk,hR⟩:=hI
 by_cases h:k < l.length
 ·rw [A3 h,idxG] at hR
  repeat' first | refine gz ?_ | apply gy<;>intro hh
  ·exact fe1 (gi hR hh)
  ·exact ⟨k+1,⟨by omega,by rw [hR,if_neg hh]⟩,td1,wkR⟩
 ·rw [A2 h,idxG] at hR
  refine gz ?_
  exact fe1 hR
@[reducible,instance] def a130:=fun l s o V=>ah1 (@Ns l s o V)
theorem TK (l:List Int) (s:Int) (o:Own) (V:Sig) (hl:l.length<=1073741824:=by exact sd) :
  DCall prog 174 [.slice (cI l) o,dI s] V (rS (dI (idxG s l 0)) V):=by
 refine en func174 ntmps174 ?_
 refine gz ?_
 refine Bz [0,1,7] (fun (k:Nat)=>k<=l.length/\idxG s l 0=idxG s (l.drop k) k) (fun k=>[(8,dI k)]) (fun _=>V) (fun k=>l.length-k) (0) (by simp) (fun k hI => ?_)
 obtain ⟨hk,hR⟩:=hI
 by_cases h:k < l.length
 ·rw [A3 h,idxG] at hR
  repeat' first | refine gz ?_ | apply gy<;>intro hh
  ·rw [if_pos hh.symm] at hR
   exact fe1 hR
  ·exact ⟨k+1,⟨by omega,by rw [hR,if_neg (fun e=>hh e.symm)]⟩,td1,wkR⟩
 ·rw [A2 h,idxG] at hR
  refine gz ?_
  exact fe1 hR
@[reducible,instance] def a174:=fun l s o V=>ah1 (@TK l s o V)
theorem Vo (l:List Int) (s:Int) (o:Own) (V:Sig) (hl:l.length<=1073741824:=by exact sd) :
  DCall prog 89 [.slice (cI l) o,dI s] V (rS (.bool (decide (0<=idxG s l 0))) V):=by
 refine en func89 ntmps89 ?_
 refine gz ?_
 exact fe1 trivial
theorem VH (l:List (List D)) (o:Own) (V:Sig) :
  DCall prog 43 [.slice l o] V (rS (.slice l .clip) V):=by
 refine en func43 ntmps43 ?_
 refine gz ?_
 exact fe1 trivial
@[reducible,instance] def a43:=fun l o V=>ah0 (@VH l o V)
theorem Py (a b:List Int) (o o':Own) (V:Sig) (hl:a.length<=1073741824:=by exact sd) :
  DCall prog 15 [.slice (cI a) o, .slice (cI b) o'] V (rS (.bool (a==b)) V):=by
 refine en func15 ntmps15 ?_
 by_cases hab:a.length=b.length
 ·refine gz ?_ o15
  refine Bz [0,1,12] (fun (k:Nat)=>k<=a.length/\(a=b ↔ a.drop k=b.drop k)) (fun k=>[(13,dI k)]) (fun _=>V) (fun k=>a.length-k) (0) (by simp) (fun k hI => ?_)
  obtain ⟨hk,hR⟩:=hI
  by_cases h:k < a.length
  ·rw [A3 h,A3 (l:=b) (by omega),List.cons.injEq] at hR
   repeat' first | refine gz ?_ o15 | apply gy<;>intro hh
   ·have:a ≠ b:=fun e=>hh (hR.1 e).1
    exact fe1 this
   ·exact ⟨k+1,⟨by omega,by rw [hR];simp_all⟩,td1,wkR⟩
  ·have:a=b:=hR.2 (by rw [A2 (by omega),A2 (by omega)])
   refine gz ?_ o15
   exact fe1 this
 ·have:a ≠ b:=fun e=>hab (by rw [e])
  refine gz ?_ o15
  exact fe1 this
@[reducible,instance] def a15:=fun a b o o' V=>ah1 (@Py a b o o' V)
theorem Hd (l:List (List D)) (o:Own) (V:Sig) (hl:l.length<=1073741824:=by exact sd) (hs : ∀ c ∈ l,c.length=1:=by exact sd) :
  DCall prog 118 [.slice l o] V (rS (sl l) V):=by
 refine en func118 ntmps118 ?_
 refine gz ?_
 refine isN (fun b hb => ?_)
 repeat' first | refine gz ?_ | apply gy<;>intro hh
 ·exact fe1 (d':=sl []) (hb hh)
 ·by_cases h:l=[]
  ·refine app0 ?_
   refine gz ?_
   exact fe1 (d':=sl []) h
  ·refine appC (fun i hi => ?_) (hne:=by simp [h]) (hlen':=hs)
   refine gz ?_
   exact finS (S':=V) (es:=l) ⟨rfl,rfl⟩ ((Sub.refl _).set hi)
theorem VJ (l:List Int) (s:Int) (o:Own) (V:Sig) (hl:l.length<=1073741824:=by exact sd) :
  DCall prog 32 [.slice (cI l) o,dI s] V (rS (.bool (l.contains s)) V):=by
 refine en func32 ntmps32 ?_
 refine gz ?_
 refine Bz [0,1] (fun (k:Nat)=>k<=l.length/\(s ∈ l ↔ s ∈ l.drop k)) (fun k=>[(5,dI k)]) (fun _=>V) (fun k=>l.length-k) (0) (by simp) (fun k hI => ?_)
 obtain ⟨hk,hR⟩:=hI
 by_cases h:k < l.length
 ·rw [A3 h,List.mem_cons] at hR
  repeat' first | refine gz ?_ | apply gy<;>intro hh
  ·have:=hR.2 (.inl hh.symm)
   exact fe1 this
  ·exact ⟨k+1,⟨by omega,by rw [hR];exact ⟨fun e=>e.resolve_left fun e=>hh e.symm, .inr⟩⟩,td1,wkR⟩
 ·rw [A2 h] at hR
  refine gz ?_
  exact fe1 hR
def inB (n:Int):Bool:=decide (-1000000000<=n) && decide (n<=1000000000)
theorem TP (n:Int) (V:Sig):DCall prog 168 [dI n] V (rS (.bool (inB n)) V):=by
 refine en func168 ntmps168 ?_
 by_cases h : -1000000000<=n
 ·refine gz ?_
  (refine fin1 (S':=V) ?_;exact ⟨by first | rfl | (simp [inB,h];done) | (simp_all [inB,h];done) | (rw [Aa,Bool.eq_iff_iff];simp_all [inB,h]<;>omega),rfl⟩)
 ·refine gz ?_
  (refine fin1 (S':=V) ?_;exact ⟨by first | rfl | (simp [inB,h];done) | (simp_all [inB,h];done) | (rw [Aa,Bool.eq_iff_iff];simp_all [inB,h]<;>omega),rfl⟩)
@[reducible,instance] def a168:=fun n V=>ah0 (@TP n V)
mutual
def Fact.size:Fact->Nat
 | .mk _ _ _ _ _ k=>1+Fact.sizes k
def Fact.sizes:List Fact->Nat
 | []=>0
 | f::l=>f.size+Fact.sizes l
end
theorem Fact.size_eq (f:Fact):f.size=1+Fact.sizes f.kids:=by cases f;rw [Fact.size];rfl
theorem Fact.sizes_len : ∀ l:List Fact,l.length<=Fact.sizes l
 | []=>by simp
 | f::l=>by
  have:=Fact.sizes_len l
  rw [Fact.sizes,Fact.size_eq];simp;omega
theorem Fact.sizes_mem : ∀ {l:List Fact} {x:Fact},x ∈ l->x.size<=Fact.sizes l
 | [],_,h=>by cases h
 | f::l,x,h=>by
  rw [Fact.sizes]
  rcases List.mem_cons.1 h with rfl | h
  ·omega
  ·have:=Fact.sizes_mem h;omega
theorem Fact.kid_size {f:Fact} {k:Nat} (h:k < f.kids.length):(f.kids[k]).size < f.size:=by
 have:=Fact.sizes_mem (List.getElem_mem h)
 rw [Fact.size_eq f];omega
theorem M2 (f:Fact) (V:Sig) (hf:f.size<=1073741824:=by exact sd) :
  DCall prog 51 [.agg (Br f)] V (rS (dI f.size) V):=by
 have hsz:=Fact.size_eq f
 have hkl:=Fact.sizes_len f.kids
 refine en func51 ntmps51 ?_
 refine gz ?_
 refine AQ [2,7,8,18] (fun (k:Nat) (m:Nat)=>k<=f.kids.length/\m+Fact.sizes (f.kids.drop k)=f.size) (fun k m=>[(9,dI k),(3,dI m)]) (fun _ _=>V) (fun k _=>f.kids.length-k) (0) (1) (by simp;omega) (fun k m hI => ?_)
 obtain ⟨hk,hR⟩:=hI
 by_cases h:k < f.kids.length
 ·rw [A3 h,Fact.sizes] at hR
  repeat' first | refine gz ?_ | refine AE (M2 (f.kids[k]) V (by omega)) ?_ | refine callP (M2 (f.kids[k]) V (by omega)) ?_ | refine gz ?_ | apply gy<;>intro hh
  exact ⟨k+1,m+(f.kids[k]).size,by omega,td1,wkR⟩
 ·rw [A2 h,Fact.sizes] at hR
  refine gz ?_
  (refine fin1 (S':=V) ?_;exact ⟨by first | rfl | (simp [hR.symm];done) | (simp_all [hR.symm];done) | (rw [Aa,Bool.eq_iff_iff];simp_all [hR.symm]<;>omega),rfl⟩)
termination_by SizeOf.sizeOf f
decreasing_by exact Fact.lt (List.getElem_mem _)
@[reducible,instance] def a51:=fun f V=>ah1 (@M2 f V)
def mx (x y:Int):Int:=if y > x then y else x
def DG (o:Int):Bool:=decide (o=2) || decide (o=3) || decide (o=4)
mutual
def Fact.speaks:Fact->Int
 | .mk o a _ _ _ k=>Fact.speakss k (if DG o then IntKind.i64.wrap (a+1) else 0)
def Fact.speakss:List Fact->Int->Int
 | [],n=>n
 | f::l,n=>Fact.speakss l (mx n f.speaks)
end
theorem Fact.speaks_eq (f:Fact):f.speaks=Fact.speakss f.kids (if DG f.op then IntKind.i64.wrap (f.arg+1) else 0):=by cases f;rw [Fact.speaks];rfl
theorem LY (f:Fact) (V:Sig) (hf:f.size<=1073741824:=by exact sd) :
  DCall prog 88 [.agg (Br f)] V (rS (dI f.speaks) V):=by
 have hsz:=Fact.size_eq f
 have hkl:=Fact.sizes_len f.kids
 have hse:=(Fact.speaks_eq f).symm
 have hL:DG f.op=(decide (f.op=2) || decide (f.op=3) || decide (f.op=4)):=rfl
 refine en func88 ntmps88 ?_
 repeat' first | refine gz ?_ | apply gy<;>intro hh
 all_goals
  refine AQ [2,23,24,34] (fun (k:Nat) (m:Int)=>k<=f.kids.length/\Fact.speakss (f.kids.drop k) m=f.speaks) (fun k m=>[(25,dI k),(3,dI m)]) (fun _ _=>V) (fun k _=>f.kids.length-k) (0) ((if DG f.op then IntKind.i64.wrap (f.arg+1) else 0)) (by exact ⟨by omega,hse⟩) (fun k m hI => ?_)
  obtain ⟨hk,hR⟩:=hI
  clear hL
  by_cases h:k < f.kids.length
  ·rw [A3 h,Fact.speakss] at hR
   have hks:=Fact.kid_size h
   repeat' first | refine gz ?_ | refine AE (LY (f.kids[k]) V (by omega)) ?_ | refine callP (LY (f.kids[k]) V (by omega)) ?_ | refine gz ?_ | apply gy<;>intro hh
   have hm:mx m (f.kids[k]).speaks=if m < (f.kids[k]).speaks then (f.kids[k]).speaks else m:=rfl
   exact ⟨k+1,mx m (f.kids[k]).speaks,⟨by omega,hR⟩,td1,wkR⟩
  ·rw [A2 h,Fact.speakss] at hR
   refine gz ?_
   exact fe1 hR
termination_by SizeOf.sizeOf f
decreasing_by all_goals exact Fact.lt (List.getElem_mem _)
@[reducible,instance] def a88:=fun f V=>ah1 (@LY f V)
mutual
def Fact.depth:Fact->Int
 | .mk _ _ _ _ _ k=>Fact.depths k 0+1
def Fact.depths:List Fact->Int->Int
 | [],n=>n
 | f::l,n=>Fact.depths l (mx n f.depth)
end
theorem U1 (p:FProg) (V:Sig) (hl:p.classes.length<=1073741824:=by exact sd) :
  DCall prog 128 [.agg (B3 p)] V (rS (sl (cS (p.classes.map (·.name)))) V):=by
 refine en func128 ntmps128 ?_
 refine gz ?_
 refine Bo 3 1 (fun i hi => ?_)
 refine AQ [1,2,21] (fun (k:Nat) (out:List Str)=>k<=p.classes.length/\out.length=k/\out++(p.classes.drop k).map (·.name)=p.classes.map (·.name)) (fun k out=>[(4,dI k),(3, .slice (cS out) (.tag i))]) (fun _ out=>V.set i (.tail 1 out.length)) (fun k _=>p.classes.length-k) (0) ([]) (by simp) (fun k out hI => ?_)
 obtain ⟨hk,ho,hR⟩:=hI
 by_cases h:k < p.classes.length
 ·rw [A3 h] at hR
  refine gz ?_
  exact ⟨k+1,out++[(p.classes[k]).name],⟨by omega,by simp [ho],by rw [List.append_assoc];exact hR⟩,td1,wkR⟩
 ·rw [A2 h] at hR
  simp at hR
  refine gz ?_
  exact finS (S':=V) (es:=cS out) ⟨by rw [hR],rfl⟩
@[reducible,instance] def a128:=fun p V=>ah1 (@U1 p V)
theorem VK (p:BProg) (V:Sig) (hl:p.classes.length<=1073741824:=by exact sd) (hp : ∀ c ∈ p.classes,c.parents.length<=1073741824:=by exact sd) :
  DCall prog 31 [.agg (AC p)] V (rS (sl (cII (p.classes.map (·.parents)))) V):=by
 refine en func31 ntmps31 ?_
 refine gz ?_
 refine Bo 3 1 (fun i hi => ?_)
 refine AQ [1,2,22] (fun (k:Nat) (out:List (List Int))=>k<=p.classes.length/\out.length=k/\out++(p.classes.drop k).map (·.parents)=p.classes.map (·.parents)) (fun k out=>[(4,dI k),(3, .slice (cII out) (.tag i))]) (fun _ out=>V.set i (.tail 1 out.length)) (fun k _=>p.classes.length-k) (0) ([]) (by simp) (fun k out hI => ?_)
 obtain ⟨hk,ho,hR⟩:=hI
 by_cases h:k < p.classes.length
 ·rw [A3 h] at hR
  have hpl:=hp _ (List.getElem_mem h)
  refine gz ?_
  refine appK ?_
  refine gz ?_
  exact ⟨k+1,out++[(p.classes[k]).parents],⟨by omega,by simp [ho],by rw [List.append_assoc];exact hR⟩,td1,wkR⟩
 ·rw [A2 h] at hR
  simp at hR
  refine gz ?_
  exact finS (S':=V) (es:=cII out) ⟨by rw [hR],rfl⟩
@[reducible,instance] def a31:=fun p V=>ah2 (@VK p V)
theorem Tk (n:Int) (V:Sig):DCall prog 234 [dI n] V (rS (.bool (inB n)) V):=by
 refine en func234 ntmps234 ?_
 repeat' first | refine gz ?_ | apply gy<;>intro hh
 any_goals (first | (refine fin1 (S':=V) ?_;exact ⟨by first | rfl | (simp [inB];done) | (simp_all [inB];done) | (rw [Aa,Bool.eq_iff_iff];simp_all [inB]<;>omega),rfl⟩) | fail)
@[reducible,instance] def a234:=fun n V=>ah0 (@Tk n V)
theorem Tt (n:Int) (V:Sig):DCall prog 207 [dI n] V (rS (.bool (inB n)) V):=by
 refine en func207 ntmps207 ?_
 repeat' first | refine gz ?_ | apply gy<;>intro hh
 any_goals (first | (refine fin1 (S':=V) ?_;exact ⟨by first | rfl | (simp [inB];done) | (simp_all [inB];done) | (rw [Aa,Bool.eq_iff_iff];simp_all [inB]<;>omega),rfl⟩) | fail)
@[reducible,instance] def a207:=fun n V=>ah0 (@Tt n V)
theorem T3 (f:Fact) (V:Sig):DCall prog 298 [.agg (Br f)] V (rS (.bool (DG f.op)) V):=by
 refine en func298 ntmps298 ?_
 repeat' first | refine gz ?_ | apply gy<;>intro hh
 any_goals (first | (refine fin1 (S':=V) ?_;exact ⟨by first | rfl | (simp [DG];done) | (simp_all [DG];done) | (rw [Aa,Bool.eq_iff_iff];simp_all [DG]<;>omega),rfl⟩) | fail)
@[reducible,instance] def a298:=fun f V=>ah0 (@T3 f V)
def BQ (op:Int):Nat:=if op=5 then 1 else if op=6\/op=7 then 2 else 0
theorem T4 (o:Int) (V:Sig):DCall prog 297 [dI o] V (rS (dI (BQ o)) V):=by
 refine en func297 ntmps297 ?_
 repeat' first | refine gz ?_ | apply gy<;>intro hh
 any_goals (first | (refine fin1 (S':=V) ?_;exact ⟨by first | rfl | (simp [BQ];done) | (simp_all [BQ];done) | (rw [Aa,Bool.eq_iff_iff];simp_all [BQ]<;>omega),rfl⟩) | fail)
@[reducible,instance] def a297:=fun o V=>ah0 (@T4 o V)
theorem TL (b:Bool) (V:Sig):DCall prog 173 [.bool b] V (rS (dI (if b then 0 else 2)) V):=by
 refine en func173 ntmps173 ?_
 repeat' first | refine gz ?_ | apply gy<;>intro hh
 any_goals (first | exact fe1 trivial | fail)
@[reducible,instance] def a173:=fun b V=>ah0 (@TL b V)
theorem JD (l:List (List Int)) (c:Int) (o:Own) (V:Sig) (hl:l.length<=1073741824:=by exact sd) (hc:c < 3+l.length:=by exact sd) :
  DCall prog 221 [.slice (cII l) o,dI c] V (rS (sl (cI (if c < 3 then [] else (l[(c-3).toNat]?).getD []))) V):=by
 refine en func221 ntmps221 ?_
 by_cases h:c < 3
 ·repeat' first | refine gz ?_ | apply gy<;>intro hh
  all_goals first | omega | skip
  exact fe1 (d':=sl []) h
 ·have h2:(c-3).toNat < l.length:=by omega
  repeat' first | refine gz ?_ | apply gy<;>intro hh
  all_goals first | omega | skip
  exact fe1 (gi h h2)
@[reducible,instance] def a221:=fun l c o V=>ah2 (@JD l c o V)
def Qi (op:Int):Option Int :=
 if op=1\/op=2\/op=3\/op=6\/op=18 then some 0 else if op=4\/op=8\/op=17 then some 1 else
 if op=7\/op=9\/op=11\/op=12\/op=13\/op=14\/op=15\/op=16 then some 2 else if op=10 then some 3 else none
def E7 (p:BProg) (x:BNode):Int:=match Qi x.op with
 | some k=>k
 | none=>if x.op=5/\0<=x.n/\x.n < p.gens.length then p.gens.getD x.n.toNat 0 else -1
def Ca (p:BProg) (x:BNode) (size:Int):Bool :=
 if x.op=1 then inB x.n else if x.op=3 then decide (0<=x.n/\x.n < size) else if x.op=4\/x.op=7 then decide (0<=x.n/\x.n < p.slots) else
 if x.op=5 then decide (0<=x.n/\x.n < p.gens.length) else if x.op=6\/x.op=8 then decide (3<=x.n/\x.n < 3+p.classes.length) else decide (x.n=0)
theorem Vr (p:BProg) (x:BNode) (size:Int) (V:Sig) (hl:p.gens.length<=1073741824:=by exact sd) (hc:p.classes.length<=1073741824:=by exact sd) :
  DCall prog 85 [.agg (AC p), .agg (Ad x),dI size] V (rS (.bool (Ca p x size)) V):=by
 refine en func85 ntmps85 ?_
 repeat' first | refine gz ?_ | apply gy<;>intro hh
 any_goals (first | (refine fin1 (S':=V) ?_;exact ⟨by first | rfl | (simp [Ca];done) | (simp_all [Ca];done) | (rw [Aa,Bool.eq_iff_iff];simp_all [Ca]<;>omega),rfl⟩) | fail)
@[reducible,instance] def a85:=fun p x size V=>ah2 (@Vr p x size V)
def E8 (op:Int):D:=match Qi op with
 | some k => .iface 140 (dI k)
 | none=>if op=5 then .iface 142 (.agg []) else .niliface
theorem Vq (op:Int) (V:Sig):DCall prog 86 [dI op] V (rS (E8 op) V):=by
 refine en func86 ntmps86 ?_
 repeat' first | refine gz ?_ | apply gy<;>intro hh
 any_goals (first | (refine fin1 (S':=V) ?_;exact ⟨by first | rfl | (simp [E8,Qi];done) | (simp_all [E8,Qi];done) | (rw [Aa,Bool.eq_iff_iff];simp_all [E8,Qi]<;>omega),rfl⟩) | fail)
@[reducible,instance] def a86:=fun op V=>ah0 (@Vq op V)
theorem Ans.of {f:Nat} {us:List D} {V:Sig} {d:D} (h:DCall prog f us V (rS d V)):Ans f us V True d:=⟨fun _=>h⟩
def EE (f:Int->Int->List Int->Bool × List Int) (x:BNode) (size:Int):Nat->List Int->List Int->Bool × List Int
 | _,[],s=>(true,s)
 | j,c::r,s=>match f c (if x.op=9/\j=1 then size+1 else size) s with
  | (false,s')=>(false,s')
  | (true,s')=>EE f x size (j+1) r s'
def Au (p:BProg) (n:Int):BNode:=(p.nodes[n.toNat]?).getD ⟨0,0,[]⟩
def GH (p:BProg) (inM:Bool):Nat->Int->Int->List Int->Bool × List Int
 | 0,_,_,s=>(false,s)
 | k+1,node,size,s =>
  if node < 0\/(p.nodes.length:Int)<=node\/0<=s.getD node.toNat 0 then (false,s) else
  if ((Au p node).kids.length:Int) ≠ E7 p (Au p node)\/Ca p (Au p node) size=false\/((Au p node).op=18/\inM=false) then (false,s.set node.toNat size) else
  EE (GH p inM k) (Au p node) size 0 (Au p node).kids (s.set node.toNat size)
theorem Sig.set_self (V:Sig) {i:Nat} {o:DObj} (h:V i=some o):V.set i o=V:=by
 funext k;simp only [Sig.set];split
 ·rename_i e;rw [e,h]
 ·rfl
end Go.DL
namespace Go.DL
open Go.Proofs.Tryz
open Go Go.Proofs
set_option maxHeartbeats 4000000
theorem Nq (i:Nat) (b:Bool) (V:Sig) (hi:V i=some (.cells [.bool b])):O5 prog 166 [.ptr i 0] V none V/\O5 prog 166 [.ptr i 0] V (some unf) (V.set i (.cells [.bool false])):=by
 constructor
 ·refine Ip func166 rfl ntmps166 (by simp) (by decide) (by decide) rfl ?_
  simp only [Option.getD_none]
  repeat' first | refine gz ?_ | apply gy<;>intro hh
  exact ⟨.inl rfl,rfl,Sub.refl _⟩
 ·refine Ip func166 rfl ntmps166 (by simp) (by decide) (by decide) rfl ?_
  simp only [Option.getD_some]
  repeat' first | refine gf hi ?_ | apply gy<;>intro hh
  exact ⟨.inl rfl,rfl,Sub.refl _⟩
theorem Lx {V:Sig} {i:Nat} {o:DObj}:Sub (V.del i) (V.set i o):=fun j x h=>by
 by_cases hj:j=i
 ·subst hj;simp [Sig.del] at h
 ·rw [w8 _ _ hj];simpa [Sig.del,hj] using h
theorem Vw (g:Nat) (cap:List D) (V:Sig) (R:Sig->DE->Sig->Prop)
  (hg : ∀ i,V i=none->DCall prog g cap (V.set i (.cells [.bool false])) (R (V.set i (.cells [.bool false]))))
  (hR : ∀ S' d S'',R S' (.panic d) S''->d=unf) (hk : ∀ i S'' x,V i=none->R (V.set i (.cells [.bool false])) x S''->S'' i=some (.cells [.bool false])) :
  DCall prog 78 [.func (.func g) [] cap] V fun x S' => ∃ i S'',V i=none/\S'=S''.del i /\
   ((∃ d,R (V.set i (.cells [.bool false])) (.ret d) S''/\x = .ret (.bool true))\/(R (V.set i (.cells [.bool false])) (.panic unf) S''/\x = .ret (.bool false))):=by
 refine Hj (fd:=166) func78 rfl (Dv func166 (by rfl) (by rfl)) (by rw [Ak];decide) (by decide) ntmps78 (by simp) ?_
 refine gz ?_ [] [2]
 refine newV (fun i hi => ?_)
 refine gz ?_ [] [2]
 refine L8 (f:=166) (by rw [Ak];decide) rfl rfl ?_
 refine gz ?_ [] [2]
 refine Ab (hg i hi) (fun d S' hr => ?_) (fun d S' hp => ?_)
 ·have hi':=hk i S' _ hi hr
  refine gf hi' ?_ [] [2]
  refine ⟨_,Wk.refl _ _ _,[.ptr i 0],S'.set i (.cells [.bool true]), .bool true,rfl,(Nq i true _ (w7 ..)).1,CY (ds:=[.bool true]) Ae ?_, .ret (.bool true),S'.del i,A9 _,Lx,i,S',hi,rfl, .inl ⟨d,hr,rfl⟩⟩
  simp [resL]
 ·have hi':=hk i S' _ hi hp
  obtain rfl:=hR _ _ _ hp
  refine gz ?_ [] [2]
  refine ⟨_,Wk.refl _ _ _,[.ptr i 0],S'.set i (.cells [.bool false]), .bool false,rfl,(Nq i false _ hi').2,CY (ds:=[.bool false]) Ae ?_, .ret (.bool false),S'.del i,A9 _,Lx,i,S',hi,rfl, .inr ⟨hp,rfl⟩⟩
  simp [resL]
def unf2:D := .iface 304 (.agg [])
theorem TI (b:Bool) (V:Sig):DCall prog 186 [.bool b] V fun x S'=>x=(if b then .ret (.tup []) else .panic unf2)/\S'=V:=by
 refine en func186 ntmps186 ?_
 cases b
 ·refine gz ?_
  refine pan ?_
  exact finP (S':=V) ⟨rfl,rfl⟩
 ·refine gz ?_
  exact DM (S':=V) ⟨rfl,rfl⟩
@[reducible,instance] def a186:=fun b V=>gh0 (@TI b V)
theorem No (i:Nat) (b:Bool) (V:Sig) (hi:V i=some (.cells [.bool b])):O5 prog 233 [.ptr i 0] V none V/\O5 prog 233 [.ptr i 0] V (some unf2) (V.set i (.cells [.bool false])):=by
 constructor
 ·refine Ip func233 rfl ntmps233 (by simp) (by decide) (by decide) rfl ?_
  simp only [Option.getD_none]
  repeat' first | refine gz ?_ | apply gy<;>intro hh
  exact ⟨.inl rfl,rfl,Sub.refl _⟩
 ·refine Ip func233 rfl ntmps233 (by simp) (by decide) (by decide) rfl ?_
  simp only [Option.getD_some]
  repeat' first | refine gf hi ?_ | apply gy<;>intro hh
  exact ⟨.inl rfl,rfl,Sub.refl _⟩
theorem TJ (g:Nat) (cap:List D) (V:Sig) (R:Sig->DE->Sig->Prop)
  (hg : ∀ i,V i=none->DCall prog g cap (V.set i (.cells [.bool false])) (R (V.set i (.cells [.bool false]))))
  (hR : ∀ S' d S'',R S' (.panic d) S''->d=unf2) (hk : ∀ i S'' x,V i=none->R (V.set i (.cells [.bool false])) x S''->S'' i=some (.cells [.bool false])) :
  DCall prog 183 [.func (.func g) [] cap] V fun x S' => ∃ i S'',V i=none/\S'=S''.del i /\
   ((∃ d,R (V.set i (.cells [.bool false])) (.ret d) S''/\x = .ret (.bool true))\/(R (V.set i (.cells [.bool false])) (.panic unf2) S''/\x = .ret (.bool false))):=by
 refine Hj (fd:=233) func183 rfl (Dv func233 (by rfl) (by rfl)) (by rw [Ak];decide) (by decide) ntmps183 (by simp) ?_
 refine gz ?_ [] [2]
 refine newV (fun i hi => ?_)
 refine gz ?_ [] [2]
 refine L8 (f:=233) (by rw [Ak];decide) rfl rfl ?_
 refine gz ?_ [] [2]
 refine Ab (hg i hi) (fun d S' hr => ?_) (fun d S' hp => ?_)
 ·have hi':=hk i S' _ hi hr
  refine gf hi' ?_ [] [2]
  refine ⟨_,Wk.refl _ _ _,[.ptr i 0],S'.set i (.cells [.bool true]), .bool true,rfl,(No i true _ (w7 ..)).1,CY (ds:=[.bool true]) Ae ?_, .ret (.bool true),S'.del i,A9 _,Lx,i,S',hi,rfl, .inl ⟨d,hr,rfl⟩⟩
  simp [resL]
 ·have hi':=hk i S' _ hi hp
  obtain rfl:=hR _ _ _ hp
  refine gz ?_ [] [2]
  refine ⟨_,Wk.refl _ _ _,[.ptr i 0],S'.set i (.cells [.bool false]), .bool false,rfl,(No i false _ hi').2,CY (ds:=[.bool false]) Ae ?_, .ret (.bool false),S'.del i,A9 _,Lx,i,S',hi,rfl, .inr ⟨hp,rfl⟩⟩
  simp [resL]
theorem Vy (l:List (List D)) (o:Own) (V:Sig) :
  DCall prog 65 [.slice l o] V (rS (.slice l .clip) V):=by
 refine en func65 ntmps65 ?_
 refine gz ?_
 exact fe1 trivial
@[reducible,instance] def a65:=fun l o V=>ah0 (@Vy l o V)
theorem Ua (l:List (List D)) (o:Own) (V:Sig) :
  DCall prog 114 [.slice l o] V (rS (.slice l .clip) V):=by
 refine en func114 ntmps114 ?_
 refine gz ?_
 exact fe1 trivial
@[reducible,instance] def a114:=fun l o V=>ah0 (@Ua l o V)
theorem U9 (l:List (List D)) (o:Own) (V:Sig) :
  DCall prog 115 [.slice l o] V (rS (.slice l .clip) V):=by
 refine en func115 ntmps115 ?_
 refine gz ?_
 exact fe1 trivial
@[reducible,instance] def a115:=fun l o V=>ah0 (@U9 l o V)
theorem TG (l:List (List D)) (o:Own) (V:Sig) :
  DCall prog 192 [.slice l o] V (rS (.slice l .clip) V):=by
 refine en func192 ntmps192 ?_
 refine gz ?_
 exact fe1 trivial
@[reducible,instance] def a192:=fun l o V=>ah0 (@TG l o V)
theorem TF (l:List (List D)) (o:Own) (V:Sig) :
  DCall prog 194 [.slice l o] V (rS (.slice l .clip) V):=by
 refine en func194 ntmps194 ?_
 refine gz ?_
 exact fe1 trivial
@[reducible,instance] def a194:=fun l o V=>ah0 (@TF l o V)
theorem Tq (l:List (List D)) (o:Own) (V:Sig) :
  DCall prog 215 [.slice l o] V (rS (.slice l .clip) V):=by
 refine en func215 ntmps215 ?_
 refine gz ?_
 exact fe1 trivial
@[reducible,instance] def a215:=fun l o V=>ah0 (@Tq l o V)
theorem Th (l:List (List D)) (o:Own) (V:Sig) :
  DCall prog 245 [.slice l o] V (rS (.slice l .clip) V):=by
 refine en func245 ntmps245 ?_
 refine gz ?_
 exact fe1 trivial
@[reducible,instance] def a245:=fun l o V=>ah0 (@Th l o V)
theorem Tc (l:List (List D)) (o:Own) (V:Sig) :
  DCall prog 255 [.slice l o] V (rS (.slice l .clip) V):=by
 refine en func255 ntmps255 ?_
 refine gz ?_
 exact fe1 trivial
@[reducible,instance] def a255:=fun l o V=>ah0 (@Tc l o V)
theorem SY (l:List (List D)) (o:Own) (V:Sig) :
  DCall prog 307 [.slice l o] V (rS (.slice l .clip) V):=by
 refine en func307 ntmps307 ?_
 refine gz ?_
 exact fe1 trivial
@[reducible,instance] def a307:=fun l o V=>ah0 (@SY l o V)
theorem Nx (l:List FClass) (h:FClass->Str) (g:Nat) (cap:List D) (o:Own) (V:Sig) (hl:l.length<=1073741824)
  (hg : ∀ x ∈ l, ∀ S',Sub V S'->DCall prog g ([]++[.agg (An x)]++cap) S' fun r S''=>r = .ret (.str (h x))/\S''=S') :
  DCall prog 102 [.slice (l.map An) o, .func (.func g) [] cap] V (rS (sl (cS (l.map h))) V):=by
 refine en func102 ntmps102 ?_
 refine gz ?_
 refine Bo 5 1 (fun i hi => ?_)
 refine AQ [1,4,8,9,21,22] (fun (k:Nat) (out:List Str)=>k<=l.length/\out++(l.drop k).map h=l.map h) (fun k out=>[(10,dI k),(5, .slice (cS out) (.tag i))]) (fun _ out=>V.set i (.tail 1 out.length)) (fun k _=>l.length-k) (0) ([]) (by simp) (fun k out hI => ?_)
 obtain ⟨hk,hR⟩:=hI
 have hlen:=congrArg List.length hR
 simp at hlen
 by_cases hh:k < l.length
 ·rw [A3 hh] at hR
  repeat' first | refine AE (hg (l[k]) (List.getElem_mem hh) _ ((Sub.refl _).set hi)) ?_ | refine callP (hg (l[k]) (List.getElem_mem hh) _ ((Sub.refl _).set hi)) ?_ | refine gf hh ?_ | apply gy<;>intro hh
  exact ⟨k+1,out++[h l[k]],⟨by omega,by rw [List.append_assoc];exact hR⟩,td1,wkR⟩
 ·refine gf hh ?_
  rw [A2 hh] at hR
  simp at hR
  exact finS (S':=V) (es:=cS out) ⟨by rw [hR],rfl⟩
theorem Uc (l:List FClass) (h:FClass->BClass) (g:Nat) (cap:List D) (o:Own) (V:Sig) (hl:l.length<=1073741824)
  (hg : ∀ x ∈ l, ∀ S',Sub V S'->DCall prog g ([]++[.agg (An x)]++cap) S' fun r S''=>r = .ret (.agg (cBClass (h x)))/\S''=S') :
  DCall prog 105 [.slice (l.map An) o, .func (.func g) [] cap] V (rS (sl ((l.map h).map cBClass)) V):=by
 refine en func105 ntmps105 ?_
 refine gz ?_
 refine Bo 5 3 (fun i hi => ?_)
 refine AQ [1,4,8,9,21,22] (fun (k:Nat) (out:List BClass)=>k<=l.length/\out++(l.drop k).map h=l.map h) (fun k out=>[(10,dI k),(5, .slice (out.map cBClass) (.tag i))]) (fun _ out=>V.set i (.tail 3 out.length)) (fun k _=>l.length-k) (0) ([]) (by simp) (fun k out hI => ?_)
 obtain ⟨hk,hR⟩:=hI
 have hlen:=congrArg List.length hR
 simp at hlen
 by_cases hh:k < l.length
 ·rw [A3 hh] at hR
  repeat' first | refine AE (hg (l[k]) (List.getElem_mem hh) _ ((Sub.refl _).set hi)) ?_ | refine callP (hg (l[k]) (List.getElem_mem hh) _ ((Sub.refl _).set hi)) ?_ | refine gf hh ?_ | apply gy<;>intro hh
  exact ⟨k+1,out++[h l[k]],⟨by omega,by rw [List.append_assoc];exact hR⟩,td1,wkR⟩
 ·refine gf hh ?_
  rw [A2 hh] at hR
  simp at hR
  exact finS (S':=V) (es:=out.map cBClass) ⟨by rw [hR],rfl⟩
theorem Fz (l:List Str) (h:Str->Int) (g:Nat) (cap:List D) (o:Own) (V:Sig) (hl:l.length<=1073741824)
  (hg : ∀ x ∈ l, ∀ S',Sub V S'->DCall prog g ([]++[.str x]++cap) S' fun r S''=>r = .ret (dI (h x))/\S''=S') :
  DCall prog 107 [.slice (cS l) o, .func (.func g) [] cap] V (rS (sl (cI (l.map h))) V):=by
 refine en func107 ntmps107 ?_
 refine gz ?_
 refine Bo 5 1 (fun i hi => ?_)
 refine AQ [1,4,8,9,21,22] (fun (k:Nat) (out:List Int)=>k<=l.length/\out++(l.drop k).map h=l.map h) (fun k out=>[(10,dI k),(5, .slice (cI out) (.tag i))]) (fun _ out=>V.set i (.tail 1 out.length)) (fun k _=>l.length-k) (0) ([]) (by simp) (fun k out hI => ?_)
 obtain ⟨hk,hR⟩:=hI
 have hlen:=congrArg List.length hR
 simp at hlen
 by_cases hh:k < l.length
 ·rw [A3 hh] at hR
  repeat' first | refine AE (hg (l[k]) (List.getElem_mem hh) _ ((Sub.refl _).set hi)) ?_ | refine callP (hg (l[k]) (List.getElem_mem hh) _ ((Sub.refl _).set hi)) ?_ | refine gf hh ?_ | apply gy<;>intro hh
  exact ⟨k+1,out++[h l[k]],⟨by omega,by rw [List.append_assoc];exact hR⟩,td1,wkR⟩
 ·refine gf hh ?_
  rw [A2 hh] at hR
  simp at hR
  exact finS (S':=V) (es:=cI out) ⟨by rw [hR],rfl⟩
theorem Nv (l:List FInit) (h:FInit->Init) (g:Nat) (cap:List D) (o:Own) (V:Sig) (hl:l.length<=1073741824)
  (hg : ∀ x ∈ l, ∀ S',Sub V S'->DCall prog g ([]++[.agg (F6 x)]++cap) S' fun r S''=>r = .ret (.agg (Dg (h x)))/\S''=S') :
  DCall prog 110 [.slice (l.map F6) o, .func (.func g) [] cap] V (rS (sl ((l.map h).map Dg)) V):=by
 refine en func110 ntmps110 ?_
 refine gz ?_
 refine Bo 5 2 (fun i hi => ?_)
 refine AQ [1,4,8,9,21,22] (fun (k:Nat) (out:List Init)=>k<=l.length/\out++(l.drop k).map h=l.map h) (fun k out=>[(10,dI k),(5, .slice (out.map Dg) (.tag i))]) (fun _ out=>V.set i (.tail 2 out.length)) (fun k _=>l.length-k) (0) ([]) (by simp) (fun k out hI => ?_)
 obtain ⟨hk,hR⟩:=hI
 have hlen:=congrArg List.length hR
 simp at hlen
 by_cases hh:k < l.length
 ·rw [A3 hh] at hR
  repeat' first | refine AE (hg (l[k]) (List.getElem_mem hh) _ ((Sub.refl _).set hi)) ?_ | refine callP (hg (l[k]) (List.getElem_mem hh) _ ((Sub.refl _).set hi)) ?_ | refine gf hh ?_ | apply gy<;>intro hh
  exact ⟨k+1,out++[h l[k]],⟨by omega,by rw [List.append_assoc];exact hR⟩,td1,wkR⟩
 ·refine gf hh ?_
  rw [A2 hh] at hR
  simp at hR
  exact finS (S':=V) (es:=out.map Dg) ⟨by rw [hR],rfl⟩
theorem JE (l:List Int) (h:Int->Str) (g:Nat) (cap:List D) (o:Own) (V:Sig) (hl:l.length<=1073741824)
  (hg : ∀ x ∈ l, ∀ S',Sub V S'->DCall prog g ([]++[dI x]++cap) S' fun r S''=>r = .ret (.str (h x))/\S''=S') :
  DCall prog 137 [.slice (cI l) o, .func (.func g) [] cap] V (rS (sl (cS (l.map h))) V):=by
 refine en func137 ntmps137 ?_
 refine gz ?_
 refine Bo 5 1 (fun i hi => ?_)
 refine AQ [1,4,8,9,21,22] (fun (k:Nat) (out:List Str)=>k<=l.length/\out++(l.drop k).map h=l.map h) (fun k out=>[(10,dI k),(5, .slice (cS out) (.tag i))]) (fun _ out=>V.set i (.tail 1 out.length)) (fun k _=>l.length-k) (0) ([]) (by simp) (fun k out hI => ?_)
 obtain ⟨hk,hR⟩:=hI
 have hlen:=congrArg List.length hR
 simp at hlen
 by_cases hh:k < l.length
 ·rw [A3 hh] at hR
  repeat' first | refine AE (hg (l[k]) (List.getElem_mem hh) _ ((Sub.refl _).set hi)) ?_ | refine callP (hg (l[k]) (List.getElem_mem hh) _ ((Sub.refl _).set hi)) ?_ | refine gf hh ?_ | apply gy<;>intro hh
  exact ⟨k+1,out++[h l[k]],⟨by omega,by rw [List.append_assoc];exact hR⟩,td1,wkR⟩
 ·refine gf hh ?_
  rw [A2 hh] at hR
  simp at hR
  exact finS (S':=V) (es:=cS out) ⟨by rw [hR],rfl⟩
theorem TX (l:List Init) (h:Init->FInit) (g:Nat) (cap:List D) (o:Own) (V:Sig) (hl:l.length<=1073741824)
  (hg : ∀ x ∈ l, ∀ S',Sub V S'->DCall prog g ([]++[.agg (Dg x)]++cap) S' fun r S''=>r = .ret (.agg (F6 (h x)))/\S''=S') :
  DCall prog 140 [.slice (l.map Dg) o, .func (.func g) [] cap] V (rS (sl ((l.map h).map F6)) V):=by
 refine en func140 ntmps140 ?_
 refine gz ?_
 refine Bo 5 2 (fun i hi => ?_)
 refine AQ [1,4,8,9,21,22] (fun (k:Nat) (out:List FInit)=>k<=l.length/\out++(l.drop k).map h=l.map h) (fun k out=>[(10,dI k),(5, .slice (out.map F6) (.tag i))]) (fun _ out=>V.set i (.tail 2 out.length)) (fun k _=>l.length-k) (0) ([]) (by simp) (fun k out hI => ?_)
 obtain ⟨hk,hR⟩:=hI
 have hlen:=congrArg List.length hR
 simp at hlen
 by_cases hh:k < l.length
 ·rw [A3 hh] at hR
  repeat' first | refine AE (hg (l[k]) (List.getElem_mem hh) _ ((Sub.refl _).set hi)) ?_ | refine callP (hg (l[k]) (List.getElem_mem hh) _ ((Sub.refl _).set hi)) ?_ | refine gf hh ?_ | apply gy<;>intro hh
  exact ⟨k+1,out++[h l[k]],⟨by omega,by rw [List.append_assoc];exact hR⟩,td1,wkR⟩
 ·refine gf hh ?_
  rw [A2 hh] at hR
  simp at hR
  exact finS (S':=V) (es:=out.map F6) ⟨by rw [hR],rfl⟩
theorem To (l:List Fact) (h:Fact->FFact) (g:Nat) (cap:List D) (o:Own) (V:Sig) (hl:l.length<=1073741824)
  (hg : ∀ x ∈ l, ∀ S',Sub V S'->DCall prog g ([]++[.agg (Br x)]++cap) S' fun r S''=>r = .ret (.agg (Bk (h x)))/\S''=S') :
  DCall prog 217 [.slice (l.map Br) o, .func (.func g) [] cap] V (rS (sl ((l.map h).map Bk)) V):=by
 refine en func217 ntmps217 ?_
 refine gz ?_
 refine Bo 5 6 (fun i hi => ?_)
 refine AQ [1,4,8,9,21,22] (fun (k:Nat) (out:List FFact)=>k<=l.length/\out++(l.drop k).map h=l.map h) (fun k out=>[(10,dI k),(5, .slice (out.map Bk) (.tag i))]) (fun _ out=>V.set i (.tail 6 out.length)) (fun k _=>l.length-k) (0) ([]) (by simp) (fun k out hI => ?_)
 obtain ⟨hk,hR⟩:=hI
 have hlen:=congrArg List.length hR
 simp at hlen
 by_cases hh:k < l.length
 ·rw [A3 hh] at hR
  repeat' first | refine AE (hg (l[k]) (List.getElem_mem hh) _ ((Sub.refl _).set hi)) ?_ | refine callP (hg (l[k]) (List.getElem_mem hh) _ ((Sub.refl _).set hi)) ?_ | refine gf hh ?_ | apply gy<;>intro hh
  exact ⟨k+1,out++[h l[k]],⟨by omega,by rw [List.append_assoc];exact hR⟩,td1,wkR⟩
 ·refine gf hh ?_
  rw [A2 hh] at hR
  simp at hR
  exact finS (S':=V) (es:=out.map Bk) ⟨by rw [hR],rfl⟩
theorem Ta (l:List Str) (s:Str) (o:Own) (V:Sig) (hl:l.length<=1073741824) :
  DCall prog 277 [.slice (cS l) o, .str s] V (rS (dI (idxG s l 0)) V):=by
 refine en func277 ntmps277 ?_
 refine gz ?_
 refine Bz [0,1,7] (fun (k:Nat)=>k<=l.length/\idxG s l 0=idxG s (l.drop k) k) (fun k=>[(8,dI k)]) (fun _=>V) (fun k=>l.length-k) (0) td3 (fun k hI => ?_)
 obtain ⟨hk,hR⟩:=hI
 by_cases hh:k < l.length
 ·rw [A3 hh,idxG] at hR
  repeat' first | refine gf hh ?_ | apply gy<;>intro hh
  ·exact fe1 hR
  ·exact ⟨k+1,⟨by omega,by rw [hR,if_neg (Ne.symm (by assumption))]⟩,td1,wkR⟩
 ·refine gf hh ?_
  (refine fin1 (S':=V) ?_;exact ⟨by first | rfl | (simp [hR,A2 hh,idxG];done) | (simp_all [hR,A2 hh,idxG];done) | (rw [Aa,Bool.eq_iff_iff];simp_all [hR,A2 hh,idxG]<;>omega),rfl⟩)
@[reducible,instance] def a277:=fun l s o V=>ah1 (@Ta l s o V)
theorem Ti (l:List Str) (s:Str) (o:Own) (V:Sig) (hl:l.length<=1073741824) :
  DCall prog 238 [.slice (cS l) o, .str s] V (rS (.bool (decide (0<=idxG s l 0))) V):=by
 refine en func238 ntmps238 ?_
 refine gz ?_
 exact fe1 trivial
theorem Tw (l:List Str) (s:Str) (o:Own) (V:Sig) (hl:l.length<=1073741824) :
  DCall prog 204 [.slice (cS l) o, .str s] V (rS (.bool (decide (0<=idxG s l 0))) V):=by
 refine en func204 ntmps204 ?_
 refine gz ?_
 exact fe1 trivial
theorem Ih {α:Type} [DecidableEq α] (s:α) : ∀ (l:List α) (k:Nat),(0<=idxG s l k) ↔ s ∈ l
 | [],_=>by simp [idxG]
 | x::r,k=>by
  rw [idxG]
  by_cases h:x=s
  ·simp [h]
  ·rw [if_neg h,Ih s r (k+1)]
   simp [Ne.symm h]
end Go.DL
