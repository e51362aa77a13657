/- Part of a proof in texts M01 on: a layer of pure values over the fenced walk, the walks of the functions, the plain laws. -/
import Derived.Test.YtlfimpogphmbdaaGreatM14
import Derived.Test.YtlfimpogphmbdaaGreatM10
set_option linter.all false
namespace Go.DL
open Go.Proofs.Tryz
open Go Go.Proofs
def o3:OT:=[(3,false,[(0,1),(2,1),(1,1),(3,16)],[1,3,8,16])]
def o7:OT:=[(20,false,[(0,18)],[6,15])]
def o15:OT:=[(6,false,[(0,9)],[])]
def o16:OT:=[(4,false,[(0,49)],[12,13,17,18])]
def o19:OT:=[(6,true,[(0,14)],[10,11,12,13]),(12,true,[(0,14)],[10,11,12,13]),(18,true,[(0,14)],[10,11,12,13])]
def o27:OT:=[(6,false,[(0,9)],[])]
def o34:OT:=[(4,false,[(0,7)],[5]),(5,false,[(0,11)],[]),(9,false,[(0,8)],[]),(10,false,[(0,9)],[])]
def o44:OT:=[(18,false,[(0,31),(32,6),(31,1),(38,2)],[25,31]),(20,false,[(0,11),(12,1),(11,1),(13,2)],[11,13])]
def o48:OT:=[(4,true,[(0,21)],[12,14,15,17,18,20]),(5,true,[(0,18)],[9,13,17]),(6,true,[(0,9)],[4,8]),(10,true,[(0,3),(4,3),(3,1),(7,3)],[3,8,9]),(12,true,[(0,18),(19,1),(18,1),(20,7)],[18,22,26]),(16,true,[(0,7),(8,5),(7,1),(13,9)],[7,13,17,21])]
def o55:OT:=[(6,false,[(0,12)],[10])]
def o56:OT:=[(2,true,[(0,3),(4,2),(7,3),(3,1),(6,1),(10,5)],[3,6,10,13,14]),(8,true,[(0,10)],[9]),(15,true,[(0,17),(18,4),(17,1),(22,6)],[17,22,25,27])]
def o66:OT:=[(11,false,[(0,7)],[5]),(12,false,[(0,11)],[]),(16,false,[(0,10)],[])]
def o79:OT:=[(14,true,[(0,8),(9,6),(8,1),(15,3)],[3,8,17]),(15,true,[(0,18)],[17])]
def o82:OT:=[(9,false,[(0,10)],[7])]
def o83:OT:=[(13,true,[(0,9)],[6,8])]
def o90:OT:=[(31,false,[(0,35)],[23,32]),(36,false,[(0,11)],[])]
def o93:OT:=[(5,false,[(0,23)],[5,11]),(13,false,[(0,13)],[11])]
def o106:OT:=[(1,true,[(0,3),(4,3),(8,3),(3,1),(7,1),(11,3)],[3,7,11,13])]
def o111:OT:=[(1,true,[(0,11)],[10])]
def o112:OT:=[(8,true,[(0,10)],[9]),(10,true,[(0,10)],[9]),(13,true,[(0,10)],[9]),(14,true,[(0,15)],[10,14]),(25,true,[(0,12)],[8,11])]
def o113:OT:=[(1,true,[(0,20),(21,4),(20,1),(25,3)],[20,25,27])]
def o119:OT:=[(18,true,[(0,10)],[8,9]),(20,true,[(0,11)],[7,10])]
def o136:OT:=[(1,true,[(0,3),(4,3),(8,3),(3,1),(7,1),(11,3)],[3,7,11,13])]
def o141:OT:=[(1,true,[(0,12)],[11])]
def o143:OT:=[(1,true,[(0,11)],[7,9,10]),(4,true,[(0,10)],[9])]
def o144:OT:=[(10,true,[(0,13)],[12]),(12,true,[(0,13)],[12]),(15,true,[(0,13)],[12]),(17,true,[(0,12)],[11]),(24,false,[(0,1),(2,3),(1,1),(5,2)],[1,5]),(25,true,[(0,10)],[5,7,9])]
def o175:OT:=[(11,false,[(0,36)],[34])]
def o176:OT:=[(1,false,[(0,13)],[10])]
def o184:OT:=[(2,true,[(0,7)],[6])]
def o185:OT:=[(31,true,[(0,8)],[7])]
def o187:OT:=[(1,true,[(0,12)],[7,11]),(8,true,[(0,8)],[7]),(11,false,[(0,12)],[])]
def o190:OT:=[(1,true,[(0,12)],[7,11]),(9,false,[(0,13)],[])]
def o191:OT:=[(19,true,[(0,6)],[3,4,5])]
def o200:OT:=[(1,true,[(0,7)],[6])]
def o202:OT:=[(6,true,[(0,8),(9,1),(8,1),(10,2)],[8,10,11])]
def o228:OT:=[(7,true,[(0,3),(4,2),(3,1),(6,2)],[3,7])]
def o247:OT:=[(11,false,[(0,11)],[9])]
def o272:OT:=[(2,false,[(0,27)],[24])]
def o274:OT:=[(4,false,[(1,3),(0,1),(4,7)],[0,8,9])]
def o306:OT:=[(6,false,[(0,2),(3,2),(2,1),(5,3)],[2,5,6])]
section
variable {P:Program} {ro:Option Nat} {n:Nat} {ops:Array Oper} {N:Nat} {σ0:Sig} {Q:DX->St->Prop} {df:List DDf} {rest:List Oper} {γ γr:List (Nat × D)} {σ:Sig} {t:Nat} {ty:TypeId} {pos:String} {after:Array Edge} {l:List (Bool × Oper)} {d:D} {e:Bool}
theorem M0 {P:Program} {fop:Operand} {args:Array Operand} {ats:Array TypeId} {f:Nat} {first cap us bs:List D} (hl:A4 γ (A6 (fop::args.toList))=some γr) (hf:ev γr fop = .func (.func f) first cap) (ha:first++args.toList.map (ev γr)++cap=us) (hb:bs=us\/bs=us.map D.plain)
  (h : ∀ σ',Sub σ0 σ'->DCall P f bs σ' fun x σ''=>x = .ret d/\Sub σ' σ'') (htn:decide (t < n)=true) (k:MO P ro n ops N σ0 Q df l ((t,d)::γ) σ) :
  MO P ro n ops N σ0 Q df ((e,⟨some t, .call { callee := .value fop,args,argTypes:=ats },ty,pos,after,none⟩)::l) γ σ:=by
 have hx : ∀ x ∈ fop::args.toList,ev γr x=ev γ x:=fun x hx=>BL fun t ht=>AI hl t (AY (by rw [<- ht];exact hx))
 have hop : ∀ x ∈ (Op.call { callee := .value fop,args,argTypes:=ats }).operands,ev (only (Oper.looksAt ops ⟨some t, .call { callee := .value fop,args,argTypes:=ats },ty,pos,after,none⟩) γ) x=ev γ x:=fun x hx=>CX (o:=⟨some t, .call { callee := .value fop,args,argTypes:=ats },ty,pos,after,none⟩) hx
 refine Oo d htn rfl (by rw [Bp];rfl) (fun σ' hσ' ro' df' => ?_) k
 refine FN (first:=first) (cap:=cap) (f:=f) ?_ ?_ (h σ' hσ') ?_ htn ?_ ?_
 ·show AE ops (only _ γ) _=some true
  rw [Bp];rfl
 ·rw [hop fop (by simp [Op.operands,Call.operands]), <- hx fop (by simp)];exact hf
 ·simp only
  rw [show args.toList.map (ev (only (Oper.looksAt ops ⟨some t, .call { callee := .value fop,args,argTypes:=ats },ty,pos,after,none⟩) γ))=args.toList.map (ev γr) from List.map_congr_left fun x hm=>by
   rw [hop x (by simp at hm;simp [Op.operands,Call.operands,hm]), <- hx x (by simp [hm])],ha]
  rcases hb with rfl | rfl
  ·exact DO _
  ·exact F0 _
 ·rintro d' σ'' ⟨h1,h2⟩
  cases h1
  exact Be ⟨rfl,by simp [putD,A7],h2⟩
 ·rintro d' σ'' ⟨h1,h2⟩
  cases h1
theorem moQR {fop:Operand} {args:Array Operand} {ats:Array TypeId} {f:Nat} {first cap us:List D} {H:Prop} (k1:MO prog ro n ops N σ0 Q df l ((t,d)::γ) σ) (hl:A4 γ (A6 (fop::args.toList))=some γr:=by rfl) (hf:ev γr fop = .func (.func f) first cap:=by rfl) (ha:first++args.toList.map (ev γr)++cap=us:=by (simp (disch:=first | omega | assumption) [Am,big1,big2,w8]<;>(try simp only [B9,Ba,AP,B8,Az,AS,AR,AQ,AO,Ay,AN,AM,AL])<;>with_unfolding_all rfl))  (hs : ∀ σ',Ans f us σ' H d:=by intro σ';infer_instance) (hH:H:=by (and_intros<;>first | trivial | assumption | omega | (simp;done) | (simp;omega))) (htn:decide (t < n)=true:=by with_unfolding_all rfl):MO prog ro n ops N σ0 Q df ((e,⟨some t, .call { callee := .value fop,args,argTypes:=ats },ty,pos,after,none⟩)::l) γ σ:=M0 hl hf ha (.inl rfl) (fun σ' _=>by have h:=(hs σ').call hH;exact h.mono fun x σ'' hx=>⟨hx.1,hx.2 ▸ Sub.refl _⟩) htn k1
theorem Ts {fop:Operand} {args:Array Operand} {ats:Array TypeId} {f:Nat} {first cap us bs:List D} (h : ∀ σ',Sub σ0 σ'->DCall prog f bs σ' fun x σ''=>x = .ret d/\Sub σ' σ'') (k1:MO prog ro n ops N σ0 Q df l ((t,d)::γ) σ) (hl:A4 γ (A6 (fop::args.toList))=some γr:=by rfl) (hf:ev γr fop = .func (.func f) first cap:=by rfl) (ha:first++args.toList.map (ev γr)++cap=us:=by (simp (disch:=first | omega | assumption) [Am,big1,big2,w8]<;>(try simp only [B9,Ba,AP,B8,Az,AS,AR,AQ,AO,Ay,AN,AM,AL])<;>with_unfolding_all rfl)) (hp:bs=us:=by with_unfolding_all rfl) (htn:decide (t < n)=true:=by with_unfolding_all rfl):MO prog ro n ops N σ0 Q df ((e,⟨some t, .call { callee := .value fop,args,argTypes:=ats },ty,pos,after,none⟩)::l) γ σ:=M0 hl hf ha (.inl hp) h htn k1
theorem mixA {lo:List Oper} {id:Nat} (ord E:List Nat) {lp:List (Bool × Oper)} (h:MO2 prog ro n lo.toArray 334 σ Q df tab lp γ σ) (hB:Hl lo.toArray E ord=true:=by kernel_rfl) (hA:allOK tab n lo.toArray=true:=by with_unfolding_all rfl) (hl:Ga lo E ord=some lp:=by with_unfolding_all rfl):DWp prog ro n (.region id lo.toArray true) Q ⟨γ,σ,df⟩ :=
 Ui Ad Ak mixed ord E σ hB hA (Sub.refl _) hl h
end
end Go.DL
namespace Go.DL
open Go.Proofs.Tryz
open Go Go.Proofs
set_option maxHeartbeats 8000000
def idxG {α:Type} [DecidableEq α] (s:α):List α->Nat->Int
 | [],_ => -1
 | x::r,k=>if x=s then k else idxG s r (k+1)
theorem Se (l:List Int) (s:Int) (o:Own) (σ:Sig) (hl:l.length<=1073741824:=by exact sd) :
  DCall prog 174 [.slice (cI l) o,dI s] σ fun x σ'=>x = .ret (dI (idxG s l 0))/\σ'=σ:=by
 refine en func174 ntmps174 ?_
 refine gz ?_
 refine Bh [0,1,7] (fun (k:Nat)=>k<=l.length/\idxG s l 0=idxG s (l.drop k) k) (fun k=>[(8,dI k)]) (fun _=>σ) (fun k=>l.length-k) (0) (by simp) (fun k hI => ?_)
 obtain ⟨hk,hR⟩:=hI
 by_cases h:k < l.length
 ·rw [A2 h,idxG] at hR
  repeat' first | refine gz ?_ | apply gy<;>intro hh
  ·rw [if_pos hh.symm] at hR
   exact fe1 hR
  ·exact ⟨k+1,⟨by omega,by rw [hR,if_neg (fun e=>hh e.symm)]⟩,td1,wkR⟩
 ·rw [A1 h,idxG] at hR
  refine gz ?_
  exact fe1 hR
@[reducible,instance] def a174:=fun l s o σ=>ah1 (@Se l s o σ)
theorem TN (l:List Int) (s:Int) (o:Own) (σ:Sig) (hl:l.length<=1073741824:=by exact sd) :
  DCall prog 89 [.slice (cI l) o,dI s] σ fun x σ'=>x = .ret (.bool (decide (0<=idxG s l 0)))/\σ'=σ:=by
 refine en func89 ntmps89 ?_
 refine gz ?_
 exact fe1 trivial
theorem U7 (l:List (List D)) (o:Own) (σ:Sig) :
  DCall prog 43 [.slice l o] σ fun x σ'=>x = .ret (.slice l .clip)/\σ'=σ:=by
 refine en func43 ntmps43 ?_
 refine gz ?_
 exact fe1 trivial
@[reducible,instance] def a43:=fun l o σ=>ah0 (@U7 l o σ)
theorem I4 (a b:List Int) (o o':Own) (σ:Sig) (hl:a.length<=1073741824:=by exact sd) :
  DCall prog 15 [.slice (cI a) o, .slice (cI b) o'] σ fun x σ'=>x = .ret (.bool (a==b))/\σ'=σ:=by
 refine en func15 ntmps15 ?_
 by_cases hab:a.length=b.length
 ·refine gz ?_ o15
  refine Bh [0,1,12] (fun (k:Nat)=>k<=a.length/\(a=b ↔ a.drop k=b.drop k)) (fun k=>[(13,dI k)]) (fun _=>σ) (fun k=>a.length-k) (0) (by simp) (fun k hI => ?_)
  obtain ⟨hk,hR⟩:=hI
  by_cases h:k < a.length
  ·rw [A2 h,A2 (l:=b) (by omega),List.cons.injEq] at hR
   repeat' first | refine gz ?_ o15 | apply gy<;>intro hh
   ·have:a ≠ b:=fun e=>hh (hR.1 e).1
    exact fe1 this
   ·exact ⟨k+1,⟨by omega,by rw [hR];simp_all⟩,td1,wkR⟩
  ·have:a=b:=hR.2 (by rw [A1 (by omega),A1 (by omega)])
   refine gz ?_ o15
   exact fe1 this
 ·have:a ≠ b:=fun e=>hab (by rw [e])
  refine gz ?_ o15
  exact fe1 this
@[reducible,instance] def a15:=fun a b o o' σ=>ah1 (@I4 a b o o' σ)
theorem GS (l:List (List D)) (o:Own) (σ:Sig) (hl:l.length<=1073741824:=by exact sd) (hs : ∀ c ∈ l,c.length=1:=by exact sd) :
  DCall prog 118 [.slice l o] σ fun x σ'=>x = .ret (sl l)/\σ'=σ:=by
 refine en func118 ntmps118 ?_
 refine gz ?_
 refine isN (fun b hb => ?_)
 repeat' first | refine gz ?_ | apply gy<;>intro hh
 ·exact fe1 (d':=sl []) (hb hh)
 ·by_cases h:l=[]
  ·refine app0 ?_
   refine gz ?_
   exact fe1 (d':=sl []) h
  ·refine appC (fun i hi => ?_) (hne:=by simp [h]) (hlen':=hs)
   refine gz ?_
   exact finS (σ':=σ) (es:=l) ⟨rfl,rfl⟩ ((Sub.refl _).set hi)
theorem OK (l:List Int) (s:Int) (o:Own) (σ:Sig) (hl:l.length<=1073741824:=by exact sd) :
  DCall prog 32 [.slice (cI l) o,dI s] σ fun x σ'=>x = .ret (.bool (l.contains s))/\σ'=σ:=by
 refine en func32 ntmps32 ?_
 refine gz ?_
 refine Bh [0,1] (fun (k:Nat)=>k<=l.length/\(s ∈ l ↔ s ∈ l.drop k)) (fun k=>[(5,dI k)]) (fun _=>σ) (fun k=>l.length-k) (0) (by simp) (fun k hI => ?_)
 obtain ⟨hk,hR⟩:=hI
 by_cases h:k < l.length
 ·rw [A2 h,List.mem_cons] at hR
  repeat' first | refine gz ?_ | apply gy<;>intro hh
  ·have:=hR.2 (.inl hh.symm)
   exact fe1 this
  ·exact ⟨k+1,⟨by omega,by rw [hR];exact ⟨fun e=>e.resolve_left fun e=>hh e.symm, .inr⟩⟩,td1,wkR⟩
 ·rw [A1 h] at hR
  refine gz ?_
  exact fe1 hR
def inB (n:Int):Bool:=decide (-1000000000<=n) && decide (n<=1000000000)
theorem Sk (n:Int) (σ:Sig):DCall prog 168 [dI n] σ fun x σ'=>x = .ret (.bool (inB n))/\σ'=σ:=by
 refine en func168 ntmps168 ?_
 by_cases h : -1000000000<=n
 ·refine gz ?_
  (refine fin1 (σ':=σ) ?_;exact ⟨by first | rfl | (simp [inB,h];done) | (simp_all [inB,h];done) | (rw [Aa,Bool.eq_iff_iff];simp_all [inB,h]<;>omega),rfl⟩)
 ·refine gz ?_
  (refine fin1 (σ':=σ) ?_;exact ⟨by first | rfl | (simp [inB,h];done) | (simp_all [inB,h];done) | (rw [Aa,Bool.eq_iff_iff];simp_all [inB,h]<;>omega),rfl⟩)
@[reducible,instance] def a168:=fun n σ=>ah0 (@Sk n σ)
theorem Sc (n:Int) (σ:Sig):DCall prog 177 [dI n] σ fun x σ'=>x = .ret (.bool (inB n))/\σ'=σ:=by
 refine en func177 ntmps177 ?_
 by_cases h : -1000000000<=n
 ·refine gz ?_
  (refine fin1 (σ':=σ) ?_;exact ⟨by first | rfl | (simp [inB,h];done) | (simp_all [inB,h];done) | (rw [Aa,Bool.eq_iff_iff];simp_all [inB,h]<;>omega),rfl⟩)
 ·refine gz ?_
  (refine fin1 (σ':=σ) ?_;exact ⟨by first | rfl | (simp [inB,h];done) | (simp_all [inB,h];done) | (rw [Aa,Bool.eq_iff_iff];simp_all [inB,h]<;>omega),rfl⟩)
@[reducible,instance] def a177:=fun n σ=>ah0 (@Sc n σ)
theorem TK (n:Int) (σ:Sig):DCall prog 94 [dI n] σ fun x σ'=>x = .ret (.bool (decide (n=1\/n=4)))/\σ'=σ:=by
 refine en func94 ntmps94 ?_
 by_cases h:n=1
 ·refine gz ?_
  exact fe1 h
 ·refine gz ?_
  exact fe1 h
@[reducible,instance] def a94:=fun n σ=>ah0 (@TK n σ)
mutual
def Fact.size:Fact->Nat
 | .mk _ _ _ _ _ k=>1+Fact.sizes k
def Fact.sizes:List Fact->Nat
 | []=>0
 | f::l=>f.size+Fact.sizes l
end
theorem Fact.size_eq (f:Fact):f.size=1+Fact.sizes f.kids:=by cases f;rw [Fact.size];rfl
theorem Fact.sizes_len : ∀ l:List Fact,l.length<=Fact.sizes l
 | []=>by simp
 | f::l=>by
  have:=Fact.sizes_len l
  rw [Fact.sizes,Fact.size_eq];simp;omega
theorem Fact.sizes_mem : ∀ {l:List Fact} {x:Fact},x ∈ l->x.size<=Fact.sizes l
 | [],_,h=>by cases h
 | f::l,x,h=>by
  rw [Fact.sizes]
  rcases List.mem_cons.1 h with rfl | h
  ·omega
  ·have:=Fact.sizes_mem h;omega
theorem Fact.kid_size {f:Fact} {k:Nat} (h:k < f.kids.length):(f.kids[k]).size < f.size:=by
 have:=Fact.sizes_mem (List.getElem_mem h)
 rw [Fact.size_eq f];omega
theorem Lh (f:Fact) (σ:Sig) (hf:f.size<=1073741824:=by exact sd) :
  DCall prog 51 [.agg (Bk f)] σ fun x σ'=>x = .ret (dI f.size)/\σ'=σ:=by
 have hsz:=Fact.size_eq f
 have hkl:=Fact.sizes_len f.kids
 refine en func51 ntmps51 ?_
 refine gz ?_
 refine AJ [2,7,8,18] (fun (k:Nat) (m:Nat)=>k<=f.kids.length/\m+Fact.sizes (f.kids.drop k)=f.size) (fun k m=>[(9,dI k),(3,dI m)]) (fun _ _=>σ) (fun k _=>f.kids.length-k) (0) (1) (by simp;omega) (fun k m hI => ?_)
 obtain ⟨hk,hR⟩:=hI
 by_cases h:k < f.kids.length
 ·rw [A2 h,Fact.sizes] at hR
  repeat' first | refine gz ?_ | refine An (Lh (f.kids[k]) σ (by omega)) ?_ | refine callP (Lh (f.kids[k]) σ (by omega)) ?_ | refine gz ?_ | apply gy<;>intro hh
  exact ⟨k+1,m+(f.kids[k]).size,by omega,td1,wkR⟩
 ·rw [A1 h,Fact.sizes] at hR
  refine gz ?_
  (refine fin1 (σ':=σ) ?_;exact ⟨by first | rfl | (simp [hR.symm];done) | (simp_all [hR.symm];done) | (rw [Aa,Bool.eq_iff_iff];simp_all [hR.symm]<;>omega),rfl⟩)
termination_by SizeOf.sizeOf f
decreasing_by exact Fact.lt (List.getElem_mem _)
@[reducible,instance] def a51:=fun f σ=>ah1 (@Lh f σ)
def mx (x y:Int):Int:=if y > x then y else x
theorem mx_eq (x y:Int):mx x y=max x y:=by unfold mx;split<;>omega
def BF (o:Int):Bool:=decide (o=2) || decide (o=3) || decide (o=4)
mutual
def Fact.speaks:Fact->Int
 | .mk o a _ _ _ k=>Fact.speakss k (if BF o then IntKind.i64.wrap (a+1) else 0)
def Fact.speakss:List Fact->Int->Int
 | [],n=>n
 | f::l,n=>Fact.speakss l (mx n f.speaks)
end
theorem Fact.speaks_eq (f:Fact):f.speaks=Fact.speakss f.kids (if BF f.op then IntKind.i64.wrap (f.arg+1) else 0):=by cases f;rw [Fact.speaks];rfl
theorem Mv (f:Fact) (σ:Sig):DCall prog 180 [.agg (Bk f)] σ fun x σ'=>x = .ret (.bool (BF f.op))/\σ'=σ:=by
 refine en func180 ntmps180 ?_
 repeat' first | refine gz ?_ | apply gy<;>intro hh
 any_goals (first | (refine fin1 (σ':=σ) ?_;exact ⟨by first | rfl | (simp [BF,hh];done) | (simp_all [BF,hh];done) | (rw [Aa,Bool.eq_iff_iff];simp_all [BF,hh]<;>omega),rfl⟩) | fail)
@[reducible,instance] def a180:=fun f σ=>ah0 (@Mv f σ)
theorem Lc (f:Fact) (σ:Sig) (hf:f.size<=1073741824:=by exact sd) :
  DCall prog 88 [.agg (Bk f)] σ fun x σ'=>x = .ret (dI f.speaks)/\σ'=σ:=by
 have hsz:=Fact.size_eq f
 have hkl:=Fact.sizes_len f.kids
 have hse:=(Fact.speaks_eq f).symm
 have hL:BF f.op=(decide (f.op=2) || decide (f.op=3) || decide (f.op=4)):=rfl
 refine en func88 ntmps88 ?_
 repeat' first | refine gz ?_ | apply gy<;>intro hh
 all_goals
  refine AJ [2,23,24,34] (fun (k:Nat) (m:Int)=>k<=f.kids.length/\Fact.speakss (f.kids.drop k) m=f.speaks) (fun k m=>[(25,dI k),(3,dI m)]) (fun _ _=>σ) (fun k _=>f.kids.length-k) (0) ((if BF f.op then IntKind.i64.wrap (f.arg+1) else 0)) (by exact ⟨by omega,hse⟩) (fun k m hI => ?_)
  obtain ⟨hk,hR⟩:=hI
  clear hL
  by_cases h:k < f.kids.length
  ·rw [A2 h,Fact.speakss] at hR
   have hks:=Fact.kid_size h
   repeat' first | refine gz ?_ | refine An (Lc (f.kids[k]) σ (by omega)) ?_ | refine callP (Lc (f.kids[k]) σ (by omega)) ?_ | refine gz ?_ | apply gy<;>intro hh
   have hm:mx m (f.kids[k]).speaks=if m < (f.kids[k]).speaks then (f.kids[k]).speaks else m:=rfl
   exact ⟨k+1,mx m (f.kids[k]).speaks,⟨by omega,hR⟩,td1,wkR⟩
  ·rw [A1 h,Fact.speakss] at hR
   refine gz ?_
   exact fe1 hR
termination_by SizeOf.sizeOf f
decreasing_by all_goals exact Fact.lt (List.getElem_mem _)
@[reducible,instance] def a88:=fun f σ=>ah1 (@Lc f σ)
theorem Lb (f:Fact) (σ:Sig) (hf:f.size<=1073741824:=by exact sd) :
  DCall prog 92 [.agg (Bk f)] σ fun x σ'=>x = .ret (dI f.speaks)/\σ'=σ:=by
 have hsz:=Fact.size_eq f
 have hkl:=Fact.sizes_len f.kids
 have hse:=(Fact.speaks_eq f).symm
 refine en func92 ntmps92 ?_
 cases hL:BF f.op
 all_goals
  refine gf hL ?_
  refine AJ [2,12,13,23] (fun (k:Nat) (m:Int)=>k<=f.kids.length/\Fact.speakss (f.kids.drop k) m=f.speaks) (fun k m=>[(14,dI k),(3,dI m)]) (fun _ _=>σ) (fun k _=>f.kids.length-k) (0) ((if BF f.op then IntKind.i64.wrap (f.arg+1) else 0)) (by exact ⟨by omega,hse⟩) (fun k m hI => ?_)
  obtain ⟨hk,hR⟩:=hI
  by_cases h:k < f.kids.length
  ·rw [A2 h,Fact.speakss] at hR
   have hks:=Fact.kid_size h
   repeat' first | refine gz ?_ | refine An (Lb (f.kids[k]) σ (by omega)) ?_ | refine callP (Lb (f.kids[k]) σ (by omega)) ?_ | refine gz ?_ | apply gy<;>intro hh
   have hm:mx m (f.kids[k]).speaks=if m < (f.kids[k]).speaks then (f.kids[k]).speaks else m:=rfl
   exact ⟨k+1,mx m (f.kids[k]).speaks,⟨by omega,hR⟩,td1,wkR⟩
  ·rw [A1 h,Fact.speakss] at hR
   refine gz ?_
   exact fe1 hR
termination_by SizeOf.sizeOf f
decreasing_by all_goals exact Fact.lt (List.getElem_mem _)
@[reducible,instance] def a92:=fun f σ=>ah1 (@Lb f σ)
mutual
def Fact.depth:Fact->Int
 | .mk _ _ _ _ _ k=>Fact.depths k 0+1
def Fact.depths:List Fact->Int->Int
 | [],n=>n
 | f::l,n=>Fact.depths l (mx n f.depth)
end
theorem Fact.depth_eq (f:Fact):f.depth=Fact.depths f.kids 0+1:=by cases f;rw [Fact.depth];rfl
mutual
theorem Fact.depth_le : ∀ f:Fact,1<=f.depth/\f.depth<=f.size
 | .mk _ _ _ _ _ k=>by
  have:=Fact.depths_le k 0 (Int.le_refl 0)
  rw [Fact.depth,Fact.size]
  simp;omega
theorem Fact.depths_le : ∀ (l:List Fact) (n:Int),0<=n->n<=Fact.depths l n/\Fact.depths l n<=max n (Fact.sizes l)
 | [],n,h=>by simp [Fact.depths,Fact.sizes];omega
 | f::l,n,h=>by
  have h1:=Fact.depth_le f
  have h2:=Fact.depths_le l (mx n f.depth) (by rw [mx_eq];omega)
  rw [Fact.depths,Fact.sizes]
  rw [mx_eq] at h2 ⊢
  simp only [Int.natCast_add]
  omega
end
theorem J4 (f:Fact) (σ:Sig) (hf:f.size<=1073741824:=by exact sd) :
  DCall prog 178 [.agg (Bk f)] σ fun x σ'=>x = .ret (dI f.depth)/\σ'=σ:=by
 have hsz:=Fact.size_eq f
 have hkl:=Fact.sizes_len f.kids
 have hd:=Fact.depth_le f
 have hde:=(Fact.depth_eq f).symm
 refine en func178 ntmps178 ?_
 refine gz ?_
 refine AJ [2,7,8,18,19] (fun (k:Nat) (m:Int)=>k<=f.kids.length/\Fact.depths (f.kids.drop k) m+1=f.depth) (fun k m=>[(9,dI k),(3,dI m)]) (fun _ _=>σ) (fun k _=>f.kids.length-k) (0) (0) (by exact ⟨by omega,hde⟩) (fun k m hI => ?_)
 obtain ⟨hk,hR⟩:=hI
 by_cases h:k < f.kids.length
 ·rw [A2 h,Fact.depths] at hR
  have hks:=Fact.kid_size h
  repeat' first | refine gz ?_ | refine An (J4 (f.kids[k]) σ (by omega)) ?_ | refine callP (J4 (f.kids[k]) σ (by omega)) ?_ | refine gz ?_ | apply gy<;>intro hh
  have hm:mx m (f.kids[k]).depth=if m < (f.kids[k]).depth then (f.kids[k]).depth else m:=rfl
  exact ⟨k+1,mx m (f.kids[k]).depth,⟨by omega,hR⟩,td1,wkR⟩
 ·rw [A1 h,Fact.depths] at hR
  refine gz ?_
  exact fe1 hR
termination_by SizeOf.sizeOf f
decreasing_by all_goals exact Fact.lt (List.getElem_mem _)
@[reducible,instance] def a178:=fun f σ=>ah1 (@J4 f σ)
theorem OL (p:BProg) (σ:Sig) (hl:p.classes.length<=1073741824:=by exact sd) (hp : ∀ c ∈ p.classes,c.parents.length<=1073741824:=by exact sd) :
  DCall prog 31 [.agg (Af p)] σ fun x σ'=>x = .ret (sl (cII (p.classes.map (·.parents))))/\σ'=σ:=by
 refine en func31 ntmps31 ?_
 refine gz ?_
 refine BD 3 1 (fun i hi => ?_)
 refine AJ [1,2,22] (fun (k:Nat) (out:List (List Int))=>k<=p.classes.length/\out.length=k/\out++(p.classes.drop k).map (·.parents)=p.classes.map (·.parents)) (fun k out=>[(4,dI k),(3, .slice (cII out) (.tag i))]) (fun _ out=>σ.set i (.tail 1 out.length)) (fun k _=>p.classes.length-k) (0) ([]) (by simp) (fun k out hI => ?_)
 obtain ⟨hk,ho,hR⟩:=hI
 by_cases h:k < p.classes.length
 ·rw [A2 h] at hR
  have hpl:=hp _ (List.getElem_mem h)
  refine gz ?_
  refine appK ?_
  refine gz ?_
  exact ⟨k+1,out++[(p.classes[k]).parents],⟨by omega,by simp [ho],by rw [List.append_assoc];exact hR⟩,td1,wkR⟩
 ·rw [A1 h] at hR
  simp at hR
  refine gz ?_
  exact finS (σ':=σ) (es:=cII out) ⟨by rw [hR],rfl⟩
@[reducible,instance] def a31:=fun p σ=>ah2 (@OL p σ)
theorem F1 {xs bs:List D} (h:WkL xs bs):WkD (.agg xs) (.agg bs):=by
 rintro g v ⟨vs,e,r⟩
 exact ⟨vs,e,h.rep r⟩
def ownersF:List BClass->Nat->List Int
 | [],_=>[]
 | c::r,i=>List.replicate c.slots.length ((i:Int)+3)++ownersF r (i+1)
def Aj (p:BProg):World:=⟨p.classes.map (·.parents),ownersF p.classes 0⟩
theorem S3 (l:List (List D)) (o:Own) (σ:Sig) :
  DCall prog 198 [.slice l o] σ fun x σ'=>x = .ret (.slice l .clip)/\σ'=σ:=by
 refine en func198 ntmps198 ?_
 refine gz ?_
 exact fe1 trivial
@[reducible,instance] def a198:=fun l o σ=>ah0 (@S3 l o σ)
theorem J7 (c:BClass) (σ:Sig) (hl:c.parents.length<=1073741824:=by exact sd) :
  DCall prog 117 [.agg (Ae c)] σ fun x σ'=>x = .ret (sl (cI c.parents))/\σ'=σ:=by
 refine en func117 ntmps117 ?_
 repeat' first | refine gz ?_ | refine An (GS (cI c.parents) .no σ (by simpa using hl) (BR _)) ?_ | refine callP (GS (cI c.parents) .no σ (by simpa using hl) (BR _)) ?_ | refine gz ?_ | apply gy<;>intro hh
 exact fe1 trivial
@[reducible,instance] def a117:=fun c σ=>ah1 (@J7 c σ)
theorem Sz (l:List BClass) (σ:Sig) (hl:l.length<=1073741824:=by exact sd) (hp : ∀ c ∈ l,c.parents.length<=1073741824:=by exact sd) :
  DCall prog 116 [sl (l.map Ae), .func (.func 117) [] []] σ fun x σ'=>x = .ret (sl (cII (l.map (·.parents))))/\σ'=σ:=by
 refine en func116 ntmps116 ?_
 refine gz ?_
 refine BD 5 1 (fun i hi => ?_)
 refine AJ [1,4,8,9,21,22] (fun (k:Nat) (out:List (List Int))=>k<=l.length/\out.length=k/\out++(l.drop k).map (·.parents)=l.map (·.parents)) (fun k out=>[(10,dI k),(5, .slice (cII out) (.tag i))]) (fun _ out=>σ.set i (.tail 1 out.length)) (fun k _=>l.length-k) (0) ([]) (by simp) (fun k out hI => ?_)
 obtain ⟨hk,ho,hR⟩:=hI
 by_cases h:k < l.length
 ·rw [A2 h] at hR
  have hpl:=hp _ (List.getElem_mem h)
  repeat' first | refine An (J7 (l[k]) _ hpl) ?_ | refine callP (J7 (l[k]) _ hpl) ?_ | refine gz ?_ | apply gy<;>intro hh
  exact ⟨k+1,out++[(l[k]).parents],⟨by omega,by simp [ho],by rw [List.append_assoc];exact hR⟩,td1,wkR⟩
 ·rw [A1 h] at hR
  simp at hR
  refine gz ?_
  exact finS (σ':=σ) (es:=cII out) ⟨by rw [hR],rfl⟩ ((Sub.refl _).set hi)
@[reducible,instance] def a116:=fun l σ=>ah2 (@Sz l σ)
theorem U4 (p:BProg) (σ:Sig) (hl:p.classes.length<=1073741824:=by exact sd) (hp : ∀ c ∈ p.classes,c.parents.length<=1073741824:=by exact sd) :
  DCall prog 49 [.agg (Af p)] σ fun x σ'=>x = .ret (sl (cII (p.classes.map (·.parents))))/\σ'=σ:=by
 refine en func49 ntmps49 ?_
 refine gz ?_
 exact fe1 trivial
@[reducible,instance] def a49:=fun p σ=>ah2 (@U4 p σ)
def ownF (p:BProg) (c:Int):Bool:=decide (3<=c) && decide (c < 3+p.classes.length)
theorem Ua (p:BProg) (c:Int) (σ:Sig) (hl:p.classes.length<=1073741824:=by exact sd) :
  DCall prog 29 [.agg (Af p),dI c] σ fun x σ'=>x = .ret (.bool (ownF p c))/\σ'=σ:=by
 refine en func29 ntmps29 ?_
 by_cases h:3<=c
 ·refine gz ?_
  (refine fin1 (σ':=σ) ?_;exact ⟨by first | rfl | (simp [ownF,h];done) | (simp_all [ownF,h];done) | (rw [Aa,Bool.eq_iff_iff];simp_all [ownF,h]<;>omega),rfl⟩)
 ·refine gz ?_
  (refine fin1 (σ':=σ) ?_;exact ⟨by first | rfl | (simp [ownF,h];done) | (simp_all [ownF,h];done) | (rw [Aa,Bool.eq_iff_iff];simp_all [ownF,h]<;>omega),rfl⟩)
@[reducible,instance] def a29:=fun p c σ=>ah1 (@Ua p c σ)
mutual
def Fact.cnt:Fact->Int->Int
 | .mk _ _ _ _ _ k,most=>Fact.cnts k most 1
def Fact.cnts:List Fact->Int->Int->Int
 | [],_,n=>n
 | f::l,most,n=>if n<=most then Fact.cnts l most (n+f.cnt (most-n)) else n
end
theorem Fact.cnt_eq (f:Fact) (most:Int):f.cnt most=Fact.cnts f.kids most 1:=by cases f;rw [Fact.cnt];rfl
mutual
theorem Fact.cnt_le : ∀ (f:Fact) (most:Int),1<=f.cnt most/\f.cnt most<=f.size
 | .mk _ _ _ _ _ k,most=>by
  have:=Fact.cnts_le k most 1
  rw [Fact.cnt,Fact.size]
  simp only [Int.natCast_add]
  omega
theorem Fact.cnts_le : ∀ (l:List Fact) (most n:Int),n<=Fact.cnts l most n/\Fact.cnts l most n<=n+Fact.sizes l
 | [],most,n=>by simp [Fact.cnts,Fact.sizes]
 | f::l,most,n=>by
  have h1:=Fact.cnt_le f (most-n)
  have h2:=Fact.cnts_le l most (n+f.cnt (most-n))
  rw [Fact.cnts,Fact.sizes]
  simp only [Int.natCast_add]
  split<;>omega
end
theorem J6 (f:Fact) (most:Int) (σ:Sig) (hf:f.size<=1073741824:=by exact sd) (h1 : -2147483648<=most:=by exact sd) (h2:most<=1073741824:=by exact sd) :
  DCall prog 133 [.agg (Bk f),dI most] σ fun x σ'=>x = .ret (dI (f.cnt most))/\σ'=σ:=by
 have hsz:=Fact.size_eq f
 have hkl:=Fact.sizes_len f.kids
 have hall:=Fact.cnt_le f most
 have hce:=(Fact.cnt_eq f most).symm
 refine en func133 ntmps133 ?_
 refine gz ?_
 refine AJ [1,2,4,30] (fun (k:Nat) (m:Int)=>k<=f.kids.length/\1<=m/\Fact.cnts (f.kids.drop k) most m=f.cnt most) (fun k m=>[(6,dI k),(5,dI m)]) (fun _ _=>σ) (fun k _=>f.kids.length-k) (0) (1) (by exact ⟨by omega,by omega,hce⟩) (fun k m hI => ?_)
 obtain ⟨hk,hm,hR⟩:=hI
 have hmR:=Fact.cnts_le (f.kids.drop k) most m
 by_cases h:k < f.kids.length
 ·rw [A2 h,Fact.cnts] at hR
  have hks:=Fact.kid_size h
  have hkc:=Fact.cnt_le (f.kids[k]) (most-m)
  by_cases hmost:m<=most
  ·rw [if_pos hmost] at hR
   have hmR2:=Fact.cnts_le (f.kids.drop (k+1)) most (m+(f.kids[k]).cnt (most-m))
   repeat' first | refine gz ?_ | refine An (J6 (f.kids[k]) (most-m) σ (by omega) (by omega) (by omega)) ?_ | refine callP (J6 (f.kids[k]) (most-m) σ (by omega) (by omega) (by omega)) ?_ | refine gz ?_ | apply gy<;>intro hh
   exact ⟨k+1,m+(f.kids[k]).cnt (most-m),⟨by omega,by omega,hR⟩,td1,wkR⟩
  ·rw [if_neg hmost] at hR
   refine gz ?_
   exact fe1 hR
 ·rw [A1 h,Fact.cnts] at hR
  refine gz ?_
  exact fe1 hR
termination_by SizeOf.sizeOf f
decreasing_by exact Fact.lt (List.getElem_mem _)
@[reducible,instance] def a133:=fun f most σ=>ah3 (@J6 f most σ)
theorem U2 (f:Fact) (σ:Sig) (hf:f.size<=1073741824:=by exact sd):DCall prog 54 [.agg (Bk f)] σ fun x σ'=>x = .ret (dI (f.cnt 24))/\σ'=σ:=by
 refine en func54 ntmps54 ?_
 refine gz ?_
 exact fe1 trivial
@[reducible,instance] def a54:=fun f σ=>ah1 (@U2 f σ)
section
variable {σ:Sig} {r i j:Nat} {a:D}
def wS (σ:Sig) (r i j:Nat) (a:D) (out:List Int):Sig:=((σ.set r (.cells [.nils, .nils])).set i (.tail 1 out.length)).set j (.cells [a, .slice (cI out) (.tag i)])
theorem wS_j (out:List Int):wS σ r i j a out j=some (.cells [a, .slice (cI out) (.tag i)]):=w7 ..
theorem wS_i (hij:i ≠ j) (out:List Int):wS σ r i j a out i=some (.tail 1 out.length):=by unfold wS;rw [w8 _ _ hij,w7]
theorem wS_r (hjr:j ≠ r) (hir:i ≠ r) (out:List Int):wS σ r i j a out r=some (.cells [.nils, .nils]):=by unfold wS;rw [w8 _ _ (Ne.symm hjr),w8 _ _ (Ne.symm hir),w7]
theorem Qq (hij:i ≠ j) (out:List Int) (x:Int):((wS σ r i j a out).set i (.tail 1 (out.length+1))).set j (.cells [a, .slice (cI out++[[dI x]]) (.tag i)])=wS σ r i j a (out++[x]):=by
 unfold wS
 rw [Sig.set_comm _ _ _ (Ne.symm hij),w9,w9]
 simp [cI]
theorem Ux (hij:i ≠ j) {x:DObj}:(((σ.set r (.cells [.nils, .nils])).set j x).set i (.tail 1 0)).set j (.cells [a, .slice [] (.tag i)])=wS σ r i j a []:=by
 unfold wS
 rw [Sig.set_comm _ _ _ (Ne.symm hij),w9]
 simp [cI]
theorem Uw (hr:σ r=none) (hi:σ i=none) (hj:σ j=none) (out:List Int):Sub σ (wS σ r i j a out):=by unfold wS;exact (((Sub.refl _).set hr).set hi).set hj
end
theorem I1 (p:BProg) (σ:Sig) (hl:p.classes.length<=1073741824:=by exact sd) (hp : ∀ c ∈ p.classes,c.parents.length<=1073741824:=by exact sd) (hss : ∀ c ∈ p.classes,c.slots.length<=1073741824:=by exact sd) (ho:(ownersF p.classes 0).length<=1073741824:=by exact sd) :
  DCall prog 71 [.agg (Af p)] σ fun x σ'=>x = .ret (.agg (CE (Aj p)))/\σ'=σ:=by
 refine en func71 ntmps71 ?_
 refine gz ?_ [] [2,3]
 refine newV (fun r hr => ?_)
 refine gz ?_ [] [2,3]
 refine newV (fun j hj => ?_)
 obtain ⟨hjr,hj⟩:=A8 hj
 refine gz ?_ [] [2,3]
 refine Cr j 1 1 (w7 ..) rfl fun i hi => ?_
 obtain ⟨hij,hi⟩:=A8 hi
 obtain ⟨hir,hi⟩:=A8 hi
 simp only [w9,List.set_cons_succ,List.set_cons_zero]
 rw [Ux hij]
 have hS:=fun out=>wS_j (σ:=σ) (r:=r) (i:=i) (j:=j) (a:=sl (cII (p.classes.map (·.parents)))) out
 have hSi:=fun out=>wS_i (σ:=σ) (r:=r) (a:=sl (cII (p.classes.map (·.parents)))) hij out
 have hSr:=fun out=>wS_r (σ:=σ) (a:=sl (cII (p.classes.map (·.parents)))) hjr hir out
 have hnx:=fun out x=>Qq (σ:=σ) (r:=r) (a:=sl (cII (p.classes.map (·.parents)))) hij out x
 have hne:=fun (s:Sig) (o:DObj)=>w8 s o (Ne.symm hij)
 refine AJ [1,2,3,34] (fun (k:Nat) (out:List Int)=>k<=p.classes.length/\out++ownersF (p.classes.drop k) k=ownersF p.classes 0) (fun k _=>[(4,dI k)]) (fun _ out=>wS σ r i j (sl (cII (p.classes.map (·.parents)))) out) (fun k _=>p.classes.length-k) (0) ([]) (by simp) (fun k out hI => ?_)
 obtain ⟨hk,hR⟩:=hI
 by_cases h:k < p.classes.length
 ·rw [A2 h,ownersF] at hR
  have hsl:=hss _ (List.getElem_mem h)
  refine gf hS ?_ [] [2,3]
  refine AJ [1,2,3,4,9,10,11,12,13,14,15,34] (fun (q:Nat) (out:List Int)=>q<=(p.classes[k]).slots.length/\out++(List.replicate ((p.classes[k]).slots.length-q) ((k:Int)+3)++ownersF (p.classes.drop (k+1)) (k+1))=ownersF p.classes 0) (fun q _=>[(5,dI q)]) (fun _ out=>wS σ r i j (sl (cII (p.classes.map (·.parents)))) out) (fun q _=>(p.classes[k]).slots.length-q) (0) (out) (by simpa using hR) (fun q out hI => ?_)
  obtain ⟨hq,hR⟩:=hI
  have hlen:out.length+((p.classes[k]).slots.length-q)<=1073741824:=by
   have:=congrArg List.length hR
   simp only [List.length_append,List.length_replicate] at this
   omega
  by_cases h':q < (p.classes[k]).slots.length
  ·refine gf (gi hS (gi hSi (gi hne hnx))) ?_ [] [2,3]
   exact ⟨q+1,out++[(k:Int)+3],by refine ⟨by omega, ?_⟩;rw [<- hR];obtain ⟨m,hm⟩ : ∃ m,(p.classes[k]).slots.length-q=m+1:=⟨(p.classes[k]).slots.length-q-1,by omega⟩;rw [hm,show (p.classes[k]).slots.length-(q+1)=m by omega,List.replicate_succ];simp,td1,wkR⟩
  ·rw [show (p.classes[k]).slots.length-q=0 by omega] at hR
   refine gf hS ?_ [] [2,3]
   exact ⟨k+1,out,⟨by omega,by simpa using hR⟩,td1,wkR⟩
 ·rw [A1 h,ownersF,List.append_nil] at hR
  refine gf (gi hS hSr) ?_ [] [2,3]
  refine GV Ad (ds:=[.agg [sl (cII (p.classes.map (·.parents))), .slice (cI out) (.tag i)]]) ?_ (F1 (by rw [hR];simp [Aj])) (σ':=σ) (.set (Uw hr hi hj out) hr) ⟨rfl,rfl⟩
  simp [f71]
@[reducible,instance] def a71:=fun p σ=>ah4 (@I1 p σ)
theorem TW (p:BProg) (σ:Sig) (hl:p.classes.length<=1073741824:=by exact sd) (hp : ∀ c ∈ p.classes,c.parents.length<=1073741824:=by exact sd) (hss : ∀ c ∈ p.classes,c.slots.length<=1073741824:=by exact sd) (ho:(ownersF p.classes 0).length<=1073741824:=by exact sd) :
  DCall prog 70 [.agg (Af p)] σ fun x σ'=>x = .ret (.agg (CE (Aj p)))/\σ'=σ:=by
 refine en func70 ntmps70 ?_
 refine gz ?_ [] [2,3]
 refine newV (fun r hr => ?_)
 refine gz ?_ [] [2,3]
 refine newV (fun j hj => ?_)
 obtain ⟨hjr,hj⟩:=A8 hj
 refine gz ?_ [] [2,3]
 refine Cr j 1 1 (w7 ..) rfl fun i hi => ?_
 obtain ⟨hij,hi⟩:=A8 hi
 obtain ⟨hir,hi⟩:=A8 hi
 simp only [w9,List.set_cons_succ,List.set_cons_zero]
 rw [Ux hij]
 have hS:=fun out=>wS_j (σ:=σ) (r:=r) (i:=i) (j:=j) (a:=sl (cII (p.classes.map (·.parents)))) out
 have hSi:=fun out=>wS_i (σ:=σ) (r:=r) (a:=sl (cII (p.classes.map (·.parents)))) hij out
 have hSr:=fun out=>wS_r (σ:=σ) (a:=sl (cII (p.classes.map (·.parents)))) hjr hir out
 have hnx:=fun out x=>Qq (σ:=σ) (r:=r) (a:=sl (cII (p.classes.map (·.parents)))) hij out x
 have hne:=fun (s:Sig) (o:DObj)=>w8 s o (Ne.symm hij)
 refine AJ [2,3,10,11,31] (fun (k:Nat) (out:List Int)=>k<=p.classes.length/\out++ownersF (p.classes.drop k) k=ownersF p.classes 0) (fun k _=>[(12,dI k)]) (fun _ out=>wS σ r i j (sl (cII (p.classes.map (·.parents)))) out) (fun k _=>p.classes.length-k) (0) ([]) (by simp) (fun k out hI => ?_)
 obtain ⟨hk,hR⟩:=hI
 by_cases h:k < p.classes.length
 ·rw [A2 h,ownersF] at hR
  have hsl:=hss _ (List.getElem_mem h)
  refine gf hS ?_ [] [2,3]
  refine AJ [2,3,4,5,10,11,12,13,14,15,16,17,18,19,30,31] (fun (q:Nat) (out:List Int)=>q<=(p.classes[k]).slots.length/\out++(List.replicate ((p.classes[k]).slots.length-q) ((k:Int)+3)++ownersF (p.classes.drop (k+1)) (k+1))=ownersF p.classes 0) (fun q _=>[(20,dI q)]) (fun _ out=>wS σ r i j (sl (cII (p.classes.map (·.parents)))) out) (fun q _=>(p.classes[k]).slots.length-q) (0) (out) (by simpa using hR) (fun q out hI => ?_)
  obtain ⟨hq,hR⟩:=hI
  have hlen:out.length+((p.classes[k]).slots.length-q)<=1073741824:=by
   have:=congrArg List.length hR
   simp only [List.length_append,List.length_replicate] at this
   omega
  by_cases h':q < (p.classes[k]).slots.length
  ·refine gf (gi hS (gi hSi (gi hne hnx))) ?_ [] [2,3]
   exact ⟨q+1,out++[(k:Int)+3],by refine ⟨by omega, ?_⟩;rw [<- hR];obtain ⟨m,hm⟩ : ∃ m,(p.classes[k]).slots.length-q=m+1:=⟨(p.classes[k]).slots.length-q-1,by omega⟩;rw [hm,show (p.classes[k]).slots.length-(q+1)=m by omega,List.replicate_succ];simp,td1,wkR⟩
  ·rw [show (p.classes[k]).slots.length-q=0 by omega] at hR
   refine gf hS ?_ [] [2,3]
   exact ⟨k+1,out,⟨by omega,by simpa using hR⟩,td1,wkR⟩
 ·rw [A1 h,ownersF,List.append_nil] at hR
  refine gf (gi hS hSr) ?_ [] [2,3]
  refine GV Ad (ds:=[.agg [sl (cII (p.classes.map (·.parents))), .slice (cI out) (.tag i)]]) ?_ (F1 (by rw [hR];simp [Aj])) (σ':=σ) (.set (Uw hr hi hj out) hr) ⟨rfl,rfl⟩
  simp [f70]
@[reducible,instance] def a70:=fun p σ=>ah4 (@TW p σ)
def G0 {α:Type} [DecidableEq α] (l:List α) (s:List α):List α:=l.foldl (fun s x=>ins x s) s
def hasG (cs:List BClass):Nat->List Int->List Int->List Int
 | 0,_,out=>out
 | n+1,up,out=>match cs[n]? with
  | some c=>if (n:Int)+3 ∈ up then hasG cs n (G0 c.parents up) (out++c.slots) else hasG cs n up out
  | none=>hasG cs n up out
def hasP (p:BProg) (c:Int):List Int:=Eu (hasG p.classes (c-2).toNat [c] [])
theorem Ep (p:BProg):wtL (fun c:BClass=>c.slots.length) p.classes < p.wt:=by
 have : ∀ l:List BClass,wtL (fun c:BClass=>c.slots.length) l<=wtL BClass.wt l:=fun l=>by
  induction l with
  | nil=>exact Nat.le_refl _
  | cons c l ih=>simp only [wtL,BClass.wt];omega
 have:=this p.classes
 unfold BProg.wt;omega
theorem HP {α:Type} (f:α->Nat) (l:List α) (n:Nat) (h:n < l.length):wtL f (l.take (n+1))=wtL f (l.take n)+f l[n]:=by
 rw [List.take_succ_eq_append_getElem h,KD];simp [wtL]
theorem Er {α:Type} (f:α->Nat) (l:List α) (n:Nat):wtL f (l.take n)<=wtL f l:=by
 have:=KD f (l.take n) (l.drop n)
 rw [List.take_append_drop] at this;omega
theorem Tx {σ:Sig} {st:MR} {l:List Int} (h:mOK σ 1 st (cI l)):mOK σ 1 st (cI (Eu l)):=by
 cases st with
 | none =>
  have:cI l=[]:=h
  have:l=[]:=by simpa [cI] using this
  subst this;rw [show Eu []=[] by simp [Eu]];exact h
 | some x =>
  obtain ⟨h1,h2,h3,h4⟩:=h
  have e:=Gp l
  refine ⟨h1, ?_,by simpa [e] using h3,BR _⟩
  rw [List.length_append,D5 (BR _),HK] at h2 ⊢
  omega
theorem U0 (p:BProg) (c:Int) (σ:Sig) (hp:p.wt<=1073741824:=by exact sd) (hc:3<=c:=by exact sd) (hc2:c < 3+p.classes.length:=by exact sd):DCall prog 62 [.agg (Af p),dI c] σ fun x σ'=>x = .ret (sl (cI (hasP p c)))/\σ'=σ:=by
 obtain ⟨p1,p2,p3,p4,p5,p6,p7⟩:=p.wt_le
 have ws:=Ep p
 refine en func62 ntmps62 ?_
 refine gz ?_
 refine newSI (fun i hi => ?_)
 refine gz ?_
 refine TA [2,4,5,45,46,47,48] (fun (n:Nat) (up:List Int) (out:List Int) (st:MR)=>n<=p.classes.length/\out.length+wtL (fun c:BClass=>c.slots.length) (p.classes.take n)<=1073741824/\mOK (σ.set i (.map (eSI up))) 1 st (cI out)/\Eu (hasG p.classes n up out)=hasP p c) (fun n _ out st=>[(7,dI (n+2)),(6,mD st out.length)]) (fun _ up out st=>mS (σ.set i (.map (eSI up))) st (cI out)) (fun n _ _ _=>n) ((c-2).toNat) ([c]) ([]) (none) (by (refine ⟨by omega, ?_,rfl,rfl⟩;have:=Er (fun c:BClass=>c.slots.length) p.classes (c-2).toNat;simp;omega)) (fun n up out st hI => ?_)
 obtain ⟨hn,hlen,hm,hR⟩:=hI
 have hT:=fun k (h:k < p.classes.length)=>HP (fun c:BClass=>c.slots.length) p.classes k h
 obtain ⟨hmY,hmi,hms⟩:=mS_at hm
 rcases n with _ | n
 ·rw [hasG] at hR
  refine gz ?_
  refine Ab (Sp out st _ hm (by simp [wtL] at hlen;omega)) (fun d σ' hr => ?_) (fun d σ' hr=>by cases hr.1)
  obtain ⟨hr1,rfl⟩:=hr
  cases hr1
  have hm':=Tx hm
  rw [<- Gp out]
  rw [hR] at hm' ⊢
  refine mfr 6 ?_ (hm:=hm')
  refine gz ?_
  exact fe1 (d':=sl (cI (hasP p c))) trivial
 ·have h:n < p.classes.length:=by omega
  have hTn:=hT n h
  have hw:=p5 n h
  have hwu:(p.classes[n]).wt=1+(p.classes[n]).parents.length+(p.classes[n]).slots.length+(p.classes[n]).inits.length:=rfl
  rw [hasG,List.getElem?_eq_getElem h] at hR
  by_cases hup:(n:Int)+3 ∈ up
  ·simp only [hup,if_true] at hR
   have e3:(n:Int)+1+2=n+3:=by omega
   have hn3:((n:Int)+1+2-3).toNat=n:=by omega
   refine gf (gi hmi (gi hms (gi hup (gi e3 hn3)))) ?_
   refine mappI (fun st' hm' => ?_)
   obtain ⟨hmY',hmi',hms'⟩:=mS_at hm'
   refine gf (gi hmi' (gi hms' (gi hup (gi e3 hn3)))) ?_
   refine Bh [2,4,5,6,7,14,15,16,17,18,19,20,21,22,23,24,25,26,27,28,29,30,31,32,33,34,35,36,37,45,46,47,48] (fun (k:Nat)=>k<=(p.classes[n]).parents.length) (fun k=>[(38,dI k)]) (fun k=>mS (σ.set i (.map (eSI (G0 ((p.classes[n]).parents.take k) up)))) st' (cI (out++(p.classes[n]).slots))) (fun k=>(p.classes[n]).parents.length-k) (0) td3 (fun k hI => ?_)
   by_cases hk:k < (p.classes[n]).parents.length
   ·have hs:G0 ((p.classes[n]).parents.take (k+1)) up=ins (p.classes[n]).parents[k] (G0 ((p.classes[n]).parents.take k) up):=by unfold G0;rw [List.take_succ_eq_append_getElem hk,List.foldl_append];rfl
    refine gf (gi hmi' hms') ?_
    rw [<- hs]
    exact ⟨k+1,td2,td1,wkR⟩
   ·have hs:(p.classes[n]).parents.take k=(p.classes[n]).parents:=List.take_of_length_le (by omega)
    rw [hs]
    have e2:(n:Int)+3-1=n+2:=by omega
    refine gf (gi e3 e2) ?_
    exact ⟨n,G0 (p.classes[n]).parents up,out++(p.classes[n]).slots,st',⟨by omega,by rw [List.length_append];omega,hmY' _,hR⟩,td1,wkR⟩
  ·simp only [hup,if_false] at hR
   have e3:(n:Int)+1+2=n+3:=by omega
   have e2:(n:Int)+3-1=n+2:=by omega
   refine gf (gi hmi (gi hms (gi hup (gi e3 e2)))) ?_
   exact ⟨n,up,out,st,⟨by omega,by omega,hm,hR⟩,td1,wkR⟩
@[reducible,instance] def a62:=fun p c σ=>ah3 (@U0 p c σ)
end Go.DL
namespace Go.DL
open Go.Proofs.Tryz
open Go Go.Proofs
set_option maxHeartbeats 4000000
theorem TY (l:List (List D)) (o:Own) (σ:Sig) :
  DCall prog 65 [.slice l o] σ fun x σ'=>x = .ret (.slice l .clip)/\σ'=σ:=by
 refine en func65 ntmps65 ?_
 refine gz ?_
 exact fe1 trivial
@[reducible,instance] def a65:=fun l o σ=>ah0 (@TY l o σ)
theorem SB (l:List (List D)) (o:Own) (σ:Sig) :
  DCall prog 114 [.slice l o] σ fun x σ'=>x = .ret (.slice l .clip)/\σ'=σ:=by
 refine en func114 ntmps114 ?_
 refine gz ?_
 exact fe1 trivial
@[reducible,instance] def a114:=fun l o σ=>ah0 (@SB l o σ)
theorem SA (l:List (List D)) (o:Own) (σ:Sig) :
  DCall prog 115 [.slice l o] σ fun x σ'=>x = .ret (.slice l .clip)/\σ'=σ:=by
 refine en func115 ntmps115 ?_
 refine gz ?_
 exact fe1 trivial
@[reducible,instance] def a115:=fun l o σ=>ah0 (@SA l o σ)
theorem S7 (l:List (List D)) (o:Own) (σ:Sig) :
  DCall prog 192 [.slice l o] σ fun x σ'=>x = .ret (.slice l .clip)/\σ'=σ:=by
 refine en func192 ntmps192 ?_
 refine gz ?_
 exact fe1 trivial
@[reducible,instance] def a192:=fun l o σ=>ah0 (@S7 l o σ)
theorem S6 (l:List (List D)) (o:Own) (σ:Sig) :
  DCall prog 194 [.slice l o] σ fun x σ'=>x = .ret (.slice l .clip)/\σ'=σ:=by
 refine en func194 ntmps194 ?_
 refine gz ?_
 exact fe1 trivial
@[reducible,instance] def a194:=fun l o σ=>ah0 (@S6 l o σ)
theorem RY (l:List (List D)) (o:Own) (σ:Sig) :
  DCall prog 215 [.slice l o] σ fun x σ'=>x = .ret (.slice l .clip)/\σ'=σ:=by
 refine en func215 ntmps215 ?_
 refine gz ?_
 exact fe1 trivial
@[reducible,instance] def a215:=fun l o σ=>ah0 (@RY l o σ)
theorem RN (l:List (List D)) (o:Own) (σ:Sig) :
  DCall prog 245 [.slice l o] σ fun x σ'=>x = .ret (.slice l .clip)/\σ'=σ:=by
 refine en func245 ntmps245 ?_
 refine gz ?_
 exact fe1 trivial
@[reducible,instance] def a245:=fun l o σ=>ah0 (@RN l o σ)
theorem RM (l:List (List D)) (o:Own) (σ:Sig) :
  DCall prog 255 [.slice l o] σ fun x σ'=>x = .ret (.slice l .clip)/\σ'=σ:=by
 refine en func255 ntmps255 ?_
 refine gz ?_
 exact fe1 trivial
@[reducible,instance] def a255:=fun l o σ=>ah0 (@RM l o σ)
theorem Rz (l:List (List D)) (o:Own) (σ:Sig) :
  DCall prog 307 [.slice l o] σ fun x σ'=>x = .ret (.slice l .clip)/\σ'=σ:=by
 refine en func307 ntmps307 ?_
 refine gz ?_
 exact fe1 trivial
@[reducible,instance] def a307:=fun l o σ=>ah0 (@Rz l o σ)
theorem MD (l:List FClass) (h:FClass->Str) (g:Nat) (cap:List D) (o:Own) (σ:Sig) (hl:l.length<=1073741824)
  (hg : ∀ x ∈ l, ∀ σ',Sub σ σ'->DCall prog g ([]++[.agg (Al x)]++cap) σ' fun r σ''=>r = .ret (.str (h x))/\σ''=σ') :
  DCall prog 102 [.slice (l.map Al) o, .func (.func g) [] cap] σ fun x σ'=>x = .ret (sl (cS (l.map h)))/\σ'=σ:=by
 refine en func102 ntmps102 ?_
 refine gz ?_
 refine BD 5 1 (fun i hi => ?_)
 refine AJ [1,4,8,9,21,22] (fun (k:Nat) (out:List Str)=>k<=l.length/\out++(l.drop k).map h=l.map h) (fun k out=>[(10,dI k),(5, .slice (cS out) (.tag i))]) (fun _ out=>σ.set i (.tail 1 out.length)) (fun k _=>l.length-k) (0) ([]) (by simp) (fun k out hI => ?_)
 obtain ⟨hk,hR⟩:=hI
 have hlen:=congrArg List.length hR
 simp at hlen
 by_cases hh:k < l.length
 ·rw [A2 hh] at hR
  repeat' first | refine An (hg (l[k]) (List.getElem_mem hh) _ ((Sub.refl _).set hi)) ?_ | refine callP (hg (l[k]) (List.getElem_mem hh) _ ((Sub.refl _).set hi)) ?_ | refine gf hh ?_ | apply gy<;>intro hh
  exact ⟨k+1,out++[h l[k]],⟨by omega,by rw [List.append_assoc];exact hR⟩,td1,wkR⟩
 ·refine gf hh ?_
  rw [A1 hh] at hR
  simp at hR
  exact finS (σ':=σ) (es:=cS out) ⟨by rw [hR],rfl⟩
theorem SD (l:List FClass) (h:FClass->BClass) (g:Nat) (cap:List D) (o:Own) (σ:Sig) (hl:l.length<=1073741824)
  (hg : ∀ x ∈ l, ∀ σ',Sub σ σ'->DCall prog g ([]++[.agg (Al x)]++cap) σ' fun r σ''=>r = .ret (.agg (Ae (h x)))/\σ''=σ') :
  DCall prog 105 [.slice (l.map Al) o, .func (.func g) [] cap] σ fun x σ'=>x = .ret (sl ((l.map h).map Ae))/\σ'=σ:=by
 refine en func105 ntmps105 ?_
 refine gz ?_
 refine BD 5 3 (fun i hi => ?_)
 refine AJ [1,4,8,9,21,22] (fun (k:Nat) (out:List BClass)=>k<=l.length/\out++(l.drop k).map h=l.map h) (fun k out=>[(10,dI k),(5, .slice (out.map Ae) (.tag i))]) (fun _ out=>σ.set i (.tail 3 out.length)) (fun k _=>l.length-k) (0) ([]) (by simp) (fun k out hI => ?_)
 obtain ⟨hk,hR⟩:=hI
 have hlen:=congrArg List.length hR
 simp at hlen
 by_cases hh:k < l.length
 ·rw [A2 hh] at hR
  repeat' first | refine An (hg (l[k]) (List.getElem_mem hh) _ ((Sub.refl _).set hi)) ?_ | refine callP (hg (l[k]) (List.getElem_mem hh) _ ((Sub.refl _).set hi)) ?_ | refine gf hh ?_ | apply gy<;>intro hh
  exact ⟨k+1,out++[h l[k]],⟨by omega,by rw [List.append_assoc];exact hR⟩,td1,wkR⟩
 ·refine gf hh ?_
  rw [A1 hh] at hR
  simp at hR
  exact finS (σ':=σ) (es:=out.map Ae) ⟨by rw [hR],rfl⟩
theorem Fs (l:List Str) (h:Str->Int) (g:Nat) (cap:List D) (o:Own) (σ:Sig) (hl:l.length<=1073741824)
  (hg : ∀ x ∈ l, ∀ σ',Sub σ σ'->DCall prog g ([]++[.str x]++cap) σ' fun r σ''=>r = .ret (dI (h x))/\σ''=σ') :
  DCall prog 107 [.slice (cS l) o, .func (.func g) [] cap] σ fun x σ'=>x = .ret (sl (cI (l.map h)))/\σ'=σ:=by
 refine en func107 ntmps107 ?_
 refine gz ?_
 refine BD 5 1 (fun i hi => ?_)
 refine AJ [1,4,8,9,21,22] (fun (k:Nat) (out:List Int)=>k<=l.length/\out++(l.drop k).map h=l.map h) (fun k out=>[(10,dI k),(5, .slice (cI out) (.tag i))]) (fun _ out=>σ.set i (.tail 1 out.length)) (fun k _=>l.length-k) (0) ([]) (by simp) (fun k out hI => ?_)
 obtain ⟨hk,hR⟩:=hI
 have hlen:=congrArg List.length hR
 simp at hlen
 by_cases hh:k < l.length
 ·rw [A2 hh] at hR
  repeat' first | refine An (hg (l[k]) (List.getElem_mem hh) _ ((Sub.refl _).set hi)) ?_ | refine callP (hg (l[k]) (List.getElem_mem hh) _ ((Sub.refl _).set hi)) ?_ | refine gf hh ?_ | apply gy<;>intro hh
  exact ⟨k+1,out++[h l[k]],⟨by omega,by rw [List.append_assoc];exact hR⟩,td1,wkR⟩
 ·refine gf hh ?_
  rw [A1 hh] at hR
  simp at hR
  exact finS (σ':=σ) (es:=cI out) ⟨by rw [hR],rfl⟩
theorem MB (l:List FInit) (h:FInit->Init) (g:Nat) (cap:List D) (o:Own) (σ:Sig) (hl:l.length<=1073741824)
  (hg : ∀ x ∈ l, ∀ σ',Sub σ σ'->DCall prog g ([]++[.agg (Fy x)]++cap) σ' fun r σ''=>r = .ret (.agg (Cm (h x)))/\σ''=σ') :
  DCall prog 110 [.slice (l.map Fy) o, .func (.func g) [] cap] σ fun x σ'=>x = .ret (sl ((l.map h).map Cm))/\σ'=σ:=by
 refine en func110 ntmps110 ?_
 refine gz ?_
 refine BD 5 2 (fun i hi => ?_)
 refine AJ [1,4,8,9,21,22] (fun (k:Nat) (out:List Init)=>k<=l.length/\out++(l.drop k).map h=l.map h) (fun k out=>[(10,dI k),(5, .slice (out.map Cm) (.tag i))]) (fun _ out=>σ.set i (.tail 2 out.length)) (fun k _=>l.length-k) (0) ([]) (by simp) (fun k out hI => ?_)
 obtain ⟨hk,hR⟩:=hI
 have hlen:=congrArg List.length hR
 simp at hlen
 by_cases hh:k < l.length
 ·rw [A2 hh] at hR
  repeat' first | refine An (hg (l[k]) (List.getElem_mem hh) _ ((Sub.refl _).set hi)) ?_ | refine callP (hg (l[k]) (List.getElem_mem hh) _ ((Sub.refl _).set hi)) ?_ | refine gf hh ?_ | apply gy<;>intro hh
  exact ⟨k+1,out++[h l[k]],⟨by omega,by rw [List.append_assoc];exact hR⟩,td1,wkR⟩
 ·refine gf hh ?_
  rw [A1 hh] at hR
  simp at hR
  exact finS (σ':=σ) (es:=out.map Cm) ⟨by rw [hR],rfl⟩
theorem J5 (l:List Int) (h:Int->Str) (g:Nat) (cap:List D) (o:Own) (σ:Sig) (hl:l.length<=1073741824)
  (hg : ∀ x ∈ l, ∀ σ',Sub σ σ'->DCall prog g ([]++[dI x]++cap) σ' fun r σ''=>r = .ret (.str (h x))/\σ''=σ') :
  DCall prog 137 [.slice (cI l) o, .func (.func g) [] cap] σ fun x σ'=>x = .ret (sl (cS (l.map h)))/\σ'=σ:=by
 refine en func137 ntmps137 ?_
 refine gz ?_
 refine BD 5 1 (fun i hi => ?_)
 refine AJ [1,4,8,9,21,22] (fun (k:Nat) (out:List Str)=>k<=l.length/\out++(l.drop k).map h=l.map h) (fun k out=>[(10,dI k),(5, .slice (cS out) (.tag i))]) (fun _ out=>σ.set i (.tail 1 out.length)) (fun k _=>l.length-k) (0) ([]) (by simp) (fun k out hI => ?_)
 obtain ⟨hk,hR⟩:=hI
 have hlen:=congrArg List.length hR
 simp at hlen
 by_cases hh:k < l.length
 ·rw [A2 hh] at hR
  repeat' first | refine An (hg (l[k]) (List.getElem_mem hh) _ ((Sub.refl _).set hi)) ?_ | refine callP (hg (l[k]) (List.getElem_mem hh) _ ((Sub.refl _).set hi)) ?_ | refine gf hh ?_ | apply gy<;>intro hh
  exact ⟨k+1,out++[h l[k]],⟨by omega,by rw [List.append_assoc];exact hR⟩,td1,wkR⟩
 ·refine gf hh ?_
  rw [A1 hh] at hR
  simp at hR
  exact finS (σ':=σ) (es:=cS out) ⟨by rw [hR],rfl⟩
theorem Su (l:List Init) (h:Init->FInit) (g:Nat) (cap:List D) (o:Own) (σ:Sig) (hl:l.length<=1073741824)
  (hg : ∀ x ∈ l, ∀ σ',Sub σ σ'->DCall prog g ([]++[.agg (Cm x)]++cap) σ' fun r σ''=>r = .ret (.agg (Fy (h x)))/\σ''=σ') :
  DCall prog 140 [.slice (l.map Cm) o, .func (.func g) [] cap] σ fun x σ'=>x = .ret (sl ((l.map h).map Fy))/\σ'=σ:=by
 refine en func140 ntmps140 ?_
 refine gz ?_
 refine BD 5 2 (fun i hi => ?_)
 refine AJ [1,4,8,9,21,22] (fun (k:Nat) (out:List FInit)=>k<=l.length/\out++(l.drop k).map h=l.map h) (fun k out=>[(10,dI k),(5, .slice (out.map Fy) (.tag i))]) (fun _ out=>σ.set i (.tail 2 out.length)) (fun k _=>l.length-k) (0) ([]) (by simp) (fun k out hI => ?_)
 obtain ⟨hk,hR⟩:=hI
 have hlen:=congrArg List.length hR
 simp at hlen
 by_cases hh:k < l.length
 ·rw [A2 hh] at hR
  repeat' first | refine An (hg (l[k]) (List.getElem_mem hh) _ ((Sub.refl _).set hi)) ?_ | refine callP (hg (l[k]) (List.getElem_mem hh) _ ((Sub.refl _).set hi)) ?_ | refine gf hh ?_ | apply gy<;>intro hh
  exact ⟨k+1,out++[h l[k]],⟨by omega,by rw [List.append_assoc];exact hR⟩,td1,wkR⟩
 ·refine gf hh ?_
  rw [A1 hh] at hR
  simp at hR
  exact finS (σ':=σ) (es:=out.map Fy) ⟨by rw [hR],rfl⟩
theorem RW (l:List Fact) (h:Fact->FFact) (g:Nat) (cap:List D) (o:Own) (σ:Sig) (hl:l.length<=1073741824)
  (hg : ∀ x ∈ l, ∀ σ',Sub σ σ'->DCall prog g ([]++[.agg (Bk x)]++cap) σ' fun r σ''=>r = .ret (.agg (Bv (h x)))/\σ''=σ') :
  DCall prog 217 [.slice (l.map Bk) o, .func (.func g) [] cap] σ fun x σ'=>x = .ret (sl ((l.map h).map Bv))/\σ'=σ:=by
 refine en func217 ntmps217 ?_
 refine gz ?_
 refine BD 5 6 (fun i hi => ?_)
 refine AJ [1,4,8,9,21,22] (fun (k:Nat) (out:List FFact)=>k<=l.length/\out++(l.drop k).map h=l.map h) (fun k out=>[(10,dI k),(5, .slice (out.map Bv) (.tag i))]) (fun _ out=>σ.set i (.tail 6 out.length)) (fun k _=>l.length-k) (0) ([]) (by simp) (fun k out hI => ?_)
 obtain ⟨hk,hR⟩:=hI
 have hlen:=congrArg List.length hR
 simp at hlen
 by_cases hh:k < l.length
 ·rw [A2 hh] at hR
  repeat' first | refine An (hg (l[k]) (List.getElem_mem hh) _ ((Sub.refl _).set hi)) ?_ | refine callP (hg (l[k]) (List.getElem_mem hh) _ ((Sub.refl _).set hi)) ?_ | refine gf hh ?_ | apply gy<;>intro hh
  exact ⟨k+1,out++[h l[k]],⟨by omega,by rw [List.append_assoc];exact hR⟩,td1,wkR⟩
 ·refine gf hh ?_
  rw [A1 hh] at hR
  simp at hR
  exact finS (σ':=σ) (es:=out.map Bv) ⟨by rw [hR],rfl⟩
theorem RJ (l:List Str) (s:Str) (o:Own) (σ:Sig) (hl:l.length<=1073741824) :
  DCall prog 277 [.slice (cS l) o, .str s] σ fun x σ'=>x = .ret (dI (idxG s l 0))/\σ'=σ:=by
 refine en func277 ntmps277 ?_
 refine gz ?_
 refine Bh [0,1,7] (fun (k:Nat)=>k<=l.length/\idxG s l 0=idxG s (l.drop k) k) (fun k=>[(8,dI k)]) (fun _=>σ) (fun k=>l.length-k) (0) td3 (fun k hI => ?_)
 obtain ⟨hk,hR⟩:=hI
 by_cases hh:k < l.length
 ·rw [A2 hh,idxG] at hR
  repeat' first | refine gf hh ?_ | apply gy<;>intro hh
  ·exact fe1 hR
  ·exact ⟨k+1,⟨by omega,by rw [hR,if_neg (Ne.symm (by assumption))]⟩,td1,wkR⟩
 ·refine gf hh ?_
  (refine fin1 (σ':=σ) ?_;exact ⟨by first | rfl | (simp [hR,A1 hh,idxG];done) | (simp_all [hR,A1 hh,idxG];done) | (rw [Aa,Bool.eq_iff_iff];simp_all [hR,A1 hh,idxG]<;>omega),rfl⟩)
@[reducible,instance] def a277:=fun l s o σ=>ah1 (@RJ l s o σ)
theorem RO (l:List Str) (s:Str) (o:Own) (σ:Sig) (hl:l.length<=1073741824) :
  DCall prog 238 [.slice (cS l) o, .str s] σ fun x σ'=>x = .ret (.bool (decide (0<=idxG s l 0)))/\σ'=σ:=by
 refine en func238 ntmps238 ?_
 refine gz ?_
 exact fe1 trivial
theorem L6 {α:Type} [DecidableEq α] (s:α) : ∀ (l:List α) (k:Nat),(0<=idxG s l k) ↔ s ∈ l
 | [],_=>by simp [idxG]
 | x::r,k=>by
  rw [idxG]
  by_cases h:x=s
  ·simp [h]
  ·rw [if_neg h,L6 s r (k+1)]
   simp [Ne.symm h]
end Go.DL
