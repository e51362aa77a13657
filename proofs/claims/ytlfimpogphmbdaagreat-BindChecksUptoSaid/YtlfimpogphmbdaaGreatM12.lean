/- Part of a proof in texts M01 on: a layer of pure values over the fenced walk, the walks of the functions, the plain laws. -/
import Derived.Test.YtlfimpogphmbdaaGreatM07
import Derived.Test.YtlfimpogphmbdaaGreatM11
import Derived.Shelf.Slices.In.SortAlone
import Derived.Shelf.Slices.In.SortNone
set_option linter.all false
namespace Go.Proofs
open Go.Proofs.Tryz
open Go.Shelf
def laysSort_ren:Go.Shelf.Ren:=⟨fun x=>match x with | 189=>150 | 125=>220 | 257=>219 | 128=>265 | 129=>266 | 294=>256 | 295=>257 | 296=>258 | 297=>259 | 298=>260 | 299=>261 | 216=>262 | 300=>263 | 301=>264 | 328=>287 | 329=>288 | 330=>289 | 331=>290 | 332=>291 | 215=>292 | 343=>308 | n=>n,fun x=>match x with | 28=>23 | 3=>3 | 46=>240 | 0=>0 | 51=>295 | 53=>267 | 4=>4 | 183=>334 | 182=>333 | 131=>114 | 5=>5 | 9=>9 | 218=>361 | 222=>124 | 228=>379 | 229=>380 | n=>n,fun n=>n⟩
theorem laysSort:Lays.n189 prog laysSort_ren :=
 {mixed:=Eq.refl true,f125:=func220.trans (congrArg some (by kernel_rfl)),f128:=func265.trans (congrArg some (by kernel_rfl)),f129:=func266.trans (congrArg some (by kernel_rfl)),f189:=func150.trans (congrArg some (by kernel_rfl)),f215:=func292.trans (congrArg some (by kernel_rfl)),f216:=func262.trans (congrArg some (by kernel_rfl)),f257:=func219.trans (congrArg some (by kernel_rfl)),f294:=func256.trans (congrArg some (by kernel_rfl)),f295:=func257.trans (congrArg some (by kernel_rfl)),f296:=func258.trans (congrArg some (by kernel_rfl)),f297:=func259.trans (congrArg some (by kernel_rfl)),f298:=func260.trans (congrArg some (by kernel_rfl)),f299:=func261.trans (congrArg some (by kernel_rfl)),f300:=func263.trans (congrArg some (by kernel_rfl)),f301:=func264.trans (congrArg some (by kernel_rfl)),f328:=func287.trans (congrArg some (by kernel_rfl)),f329:=func288.trans (congrArg some (by kernel_rfl)),f330:=func289.trans (congrArg some (by kernel_rfl)),f331:=func290.trans (congrArg some (by kernel_rfl)),f332:=func291.trans (congrArg some (by kernel_rfl)),f343:=func308.trans (congrArg some (by kernel_rfl)),t0:=underlying0,a0:=isAgg0,z0:=sizeOf0,v0:=zeroValue0,t3:=underlying3,a3:=isAgg3,z3:=sizeOf3,v3:=zeroValue3,t4:=underlying4,a4:=isAgg4,z4:=sizeOf4,v4:=zeroValue4,t5:=underlying5,a5:=isAgg5,z5:=sizeOf5,v5:=zeroValue5,t9:=underlying9,a9:=isAgg9,z9:=sizeOf9,v9:=zeroValue9,t28:=underlying23,a28:=isAgg23,z28:=sizeOf23,v28:=zeroValue23,t46:=underlying240,a46:=isAgg240,z46:=sizeOf240,v46:=zeroValue240,t51:=underlying295,a51:=isAgg295,z51:=sizeOf295,v51:=zeroValue295,t53:=underlying267,a53:=isAgg267,z53:=sizeOf267,v53:=zeroValue267,t131:=underlying114,a131:=isAgg114,z131:=sizeOf114,v131:=zeroValue114,t182:=underlying333,a182:=isAgg333,z182:=sizeOf333,v182:=zeroValue333,t183:=underlying334,a183:=isAgg334,z183:=sizeOf334,v183:=zeroValue334,t218:=underlying361,a218:=isAgg361,z218:=sizeOf361,v218:=zeroValue361,t222:=underlying124,a222:=isAgg124,z222:=sizeOf124,v222:=zeroValue124,t228:=underlying379,a228:=isAgg379,z228:=sizeOf379,v228:=zeroValue379,t229:=underlying380,a229:=isAgg380,z229:=sizeOf380,v229:=zeroValue380 }
end Go.Proofs
namespace Go.DL
open Go.Proofs.Tryz
open Go Go.Proofs Go.Sort
def Eu (l:List Int):List Int:=l.mergeSort fun x y=>decide (x<=y)
theorem Gp (l:List Int):(Eu l).length=l.length:=by unfold Eu;exact List.length_mergeSort _
theorem Ma (l:List Int) (j:Nat) (h:j < l.length):l.toArray[j]! = l[j]:=by simp [getElem!_pos,h]
theorem Sp (l:List Int) (st:MR) (σ:Sig) (hm:mOK σ 1 st (cI l)) (hl:l.length<=1073741824) :
  DCall prog 150 [mD st l.length] (mS σ st (cI l)) fun x σ'=>x = .ret (.tup [])/\σ'=mS σ st (cI (Eu l)):=by
 have hL : ∀ f ∈ [laysSort_ren.f 189,laysSort_ren.f 257,laysSort_ren.f 125,laysSort_ren.f 294,laysSort_ren.f 295,laysSort_ren.f 296,laysSort_ren.f 297,laysSort_ren.f 298,laysSort_ren.f 299,laysSort_ren.f 216,laysSort_ren.f 300,laysSort_ren.f 301,laysSort_ren.f 129,laysSort_ren.f 328,laysSort_ren.f 329,laysSort_ren.f 330,laysSort_ren.f 331,laysSort_ren.f 332,laysSort_ren.f 215,laysSort_ren.f 343],f < prog.funcs.size:=by
  rw [Ak];decide
 refine ⟨by rw [Ak];decide,Dq func150 (by rfl) (by rfl),fun g w vs hs ha => ?_⟩
 obtain ⟨v,r,rfl,hv,rfl⟩:=ha
 cases st with
 | none =>
  have hl0:l=[]:=by have:cI l=[]:=hm;simpa [cI] using this
  subst hl0
  have hv':v = .slice none 0 0:=hv
  subst hv'
  refine (Kx (fun D=>AnyS.slices_Sort_int_none_alone laysSort D none 0 w) hL none).mono ?_
  rintro e w' ⟨rfl,rfl⟩
  refine ⟨g, .ret (.tup []),_, .refl g,hs,⟨_,rfl,[],rfl,rfl⟩,rfl, ?_⟩
  simp [mS]
 | some x =>
  obtain ⟨i,cap,rest⟩:=x
  obtain ⟨h1,h2,h3,h4⟩:=hm
  obtain ⟨b,hb,hv⟩:=hv
  subst hv
  obtain ⟨b',vs,ty,hb',hheap,hr⟩:=hs.obj i _ (w7 ..)
  obtain rfl:b'=b:=by rw [hb] at hb';cases hb';rfl
  have hfl : ∀ m:List Int,(cI m).flatten=m.map (D.int .i64):=fun m=>by induction m with
   | nil=>rfl
   | cons x m ih=>simp only [cI,List.map_cons,List.flatten_cons] at ih ⊢; rw [ih];rfl
  have hlen:=RepL.length hr
  simp only [Array.length_toList,List.length_append,hfl,List.length_map] at hlen
  have hget : ∀ j (hj:j < l.length),vs[j]? = some (.int .i64 l[j]):=by
   intro j hj
   have:=RepL.get hr j
   rw [List.getElem?_append_left (by simp [hfl,hj]),hfl] at this
   simp only [List.getElem?_map,List.getElem?_eq_getElem hj,Option.map_some,Option.getD_some,Array.getElem?_toList] at this
   have hjv:j < vs.size:=by omega
   rw [Array.getElem?_eq_getElem hjv] at this ⊢
   have this':vs[j] = .int .i64 l[j]:=this
   rw [this']
  have hH:Holds (Value.int .i64) w b' 0 l.toArray:=by
   intro j hj
   have hj':j < l.length:=by simpa using hj
   refine ⟨?_,by simp [Go.World.frozen?, hheap]⟩
   simp only [Go.World.cell?, hheap,Nat.zero_add]
   rw [Ma l j hj'];exact hget j hj'
  have hbl:b' < w.heap.size:=(Array.getElem?_eq_some_iff.1 hheap).1
  refine (Kx (fun D=>AnyS.slices_Sort_int_alone laysSort D b' 0 cap l w hH hbl (by omega)) hL none).mono ?_
  rintro e w' ⟨rfl,q,os,rfl⟩
  refine ⟨g, .ret (.tup []),_, .refl g, ?_,⟨_,rfl,[],rfl,rfl⟩,rfl,rfl⟩
  have hsl:=Gp l
  have hset:=hs.setObj (i:=i) (b:=b') (ds':=(cI (Eu l)).flatten++rest) (vs':=putCells (Value.int .i64) 0 (Eu l).toArray vs) (ty:=ty) (w7 ..) hb ?_ ⟨vs,hheap⟩
  ·have e1:(mS σ (some (i,cap,rest)) (cI l)).set i (.cells ((cI (Eu l)).flatten++rest))=mS σ (some (i,cap,rest)) (cI (Eu l)):=w9 ..
   rw [e1] at hset
   refine hset.later (fun k x hx => ?_) rfl
   have hk:k < w.heap.size:=by have:=(Array.getElem?_eq_some_iff.1 hx).1;simpa [setB] using this
   simp only [grow,putRow,mapBlock]
   have ea:(Sort.ahead w q).heap=w.heap:=rfl
   rw [ea]
   rw [Array.getElem?_append_left (by simpa using hk)]
   by_cases hkb:k=b'
   ·subst hkb
    rw [CN hheap] at hx
    rw [Array.getElem?_modify,if_pos rfl,hheap, <- hx]
    rfl
   ·rw [Ew hkb] at hx
    rw [Array.getElem?_modify,if_neg (fun e=>hkb e.symm),hx]
  ·refine AX (by simp [putCells,hfl];omega) fun j d u hd hu => ?_
   rw [hfl] at hd
   simp only [putCells,Array.getElem?_toList,Array.getElem?_mapIdx,Nat.zero_le,true_and,Nat.zero_add,List.size_toArray,Nat.sub_zero] at hu
   have hjv:j < vs.size:=by
    rcases Nat.lt_or_ge j vs.size with h | h
    ·exact h
    ·rw [Array.getElem?_eq_none h] at hu;cases hu
   rw [Array.getElem?_eq_getElem hjv] at hu
   simp only [Option.map_some,Option.some.injEq] at hu
   by_cases hj:j < (Eu l).length
   ·rw [if_pos hj,Ma _ _ hj] at hu
    rw [List.getElem?_append_left (by simpa using hj),List.getElem?_map,List.getElem?_eq_getElem hj] at hd
    simp only [Option.map_some,Option.some.injEq] at hd
    subst hd hu
    exact rfl
   ·rw [if_neg hj] at hu
    rw [List.getElem?_append_right (by simpa using hj)] at hd
    have:=RepL.get hr j
    rw [List.getElem?_append_right (by simp [hfl];omega),hfl] at this
    simp only [List.length_map] at hd this
    rw [hsl] at hd
    rw [hd,Array.getElem?_toList,Array.getElem?_eq_getElem hjv,hu] at this
    exact this
end Go.DL
namespace Go.DL
open Go.Proofs.Tryz
open Go Go.Proofs
theorem Ko:EqTy prog 63:=⟨by kernel_rfl,by kernel_rfl,by kernel_rfl⟩
theorem Hs:EqTy prog 150:=⟨by kernel_rfl,by kernel_rfl,by kernel_rfl⟩
structure Hold (F:Prop):Prop where
 get:F
theorem D8 {a b:Int} (h:a<=b):decide (a<=b)=true:=by simp [h]
theorem Cc {a b:Int} (h:b < a):decide (a<=b)=false:=by simp;omega
theorem D7 {a b:Int} (h:a < b):decide (a < b)=true:=by simp [h]
theorem Cb {a b:Int} (h:b<=a):decide (a < b)=false:=by simp;omega
theorem Fj {p:Prop} [Decidable p] {α:Type} {a b:α} (h:p):(if p then a else b)=a:=if_pos h
theorem D9 {a b:Int} (h:a=b):decide (a=b)=true:=by simp [h]
theorem D6 {a b:Int} (h : ¬a=b):decide (a=b)=false:=by simp [h]
theorem C8 {a b:Nat} (h:a<=b):decide (a<=b)=true:=by simp [h]
theorem Bs {a b:Nat} (h:b < a):decide (a<=b)=false:=by simp;omega
theorem C7 {a b:Nat} (h:a < b):decide (a < b)=true:=by simp [h]
theorem Br {a b:Nat} (h:b<=a):decide (a < b)=false:=by simp;omega
theorem C9 {a b:Nat} (h:a=b):decide (a=b)=true:=by simp [h]
theorem C6 {a b:Nat} (h : ¬a=b):decide (a=b)=false:=by simp [h]
theorem Aa (a b:Bool):(DE.ret (.bool a)=DE.ret (.bool b))=(a=b):=by simp
structure VarsAre (vars:List Nat):Prop
theorem Il {P:Program} {ro:Option Nat} {n:Nat} {ops:Array Oper} {Q:DX->St->Prop} {df:List DDf} {rest:List Oper} {γ γr:List (Nat × D)} {σ:Sig} {t:Nat} {ty:TypeId} {pos:String} {after:Array Edge} {d:D} {vars:List Nat} (_:VarsAre vars) {tab:Nat->Ty} (ht:Bf P tab) {T T' ty':Nat} {x:Operand} {pos':String} {after':Array Edge} {cs:List D} (hv:vars.contains t=false) (hT:T'=T) (htn:decide (t < n)=true) (hx:EN t x=true) (ho:A5 (tab T).k=false)
  (hl:A4 γ (A6 [x])=some γr) (he:ev γr x=d) (htold:d.told=true) (hc:d.cells=cs) (hlen:cs.length=(tab T).size) (hflat:CB cs=true)
  (h:DOps P ro n ops Q rest ⟨(t, .cptr cs 0)::γ,σ,df⟩) :
  DOps P ro n ops Q (⟨some t, .alloc T,ty,pos,after,none⟩::⟨none, .store T' (.tmp t) x,ty',pos',after',none⟩::rest) ⟨γ,σ,df⟩ :=
 Th ht vars hv hT htn hx ho hl he htold hc hlen hflat h
theorem Hd {P:Program} {ro:Option Nat} {n:Nat} {ops:Array Oper} {Q:DX->St->Prop} {df:List DDf} {rest:List Oper} {γ γr γr2:List (Nat × D)} {σ:Sig} {t t2:Nat} {d d2:D} {vars:List Nat} (_:VarsAre vars) {tab:Nat->Ty} (ht:Bf P tab) {T T' ty ty' ty2:Nat} {x y:Operand} {pos pos' pos2:String} {after after' after2:Array Edge} {cs:List D} (hv:vars.contains t=false) (hT:T'=T) (htn:decide (t < n)=true) (htn2:decide (t2 < n)=true) (hx:EN t x=true) (hy:EN t y=true) (hxy:EN t2 x=true) (h12:decide (t2=t)=false) (ho:A5 (tab T).k=false)
  (hl2:A4 γ (A6 [y])=some γr2) (he2:ev γr2 y=d2) (hl:A4 γ (A6 [x])=some γr) (he:ev γr x=d) (htold:d.told=true) (hc:d.cells=cs) (hlen:cs.length=(tab T).size) (hflat:CB cs=true)
  (h:DOps P ro n ops Q rest ⟨(t, .cptr cs 0)::(t2,d2)::γ,σ,df⟩) :
  DOps P ro n ops Q (⟨some t, .alloc T,ty,pos,after,none⟩::⟨some t2, .assign y,ty2,pos2,after2,none⟩::⟨none, .store T' (.tmp t) x,ty',pos',after',none⟩::rest) ⟨γ,σ,df⟩ :=
 Qv ht vars hv hT htn htn2 hx hy hxy h12 ho hl2 he2 hl he htold hc hlen hflat h
theorem td0 {p:Prop} (h:p:=by simp (disch:=first | omega | assumption) [Am,big1,big2,w8]<;>(try simp only [B9,Ba,AP,B8,Az,AS,AR,AQ,AO,Ay,AN,AM,AL])<;>with_unfolding_all rfl):p:=h
theorem tdW {p:Prop} (h:p:=by first | exact A9 _ | exact B4 _ _ | exact At _ (.inl rfl) | exact DV _ | (refine Ib _ ?_;first | omega | (simp;done) | (simp;omega)) | (refine B5 ?_;(simp;done)) | (refine B5 ?_;(simp [cI,cS,cII,Dn,Cn,EJ];done)) | (refine Dy _ ?_;(simp [cI,cS,cII];done)) | (refine B5 ?_;(simp_all;done)) | assumption):p:=h
theorem tdT {p:Prop} (h:p:=by (first | refine Gl ?_ ?_ | skip)<;>(repeat' first | exact Gk | refine Fz (by with_unfolding_all rfl) ?_ ?_ | (first | exact A9 _ | exact B4 _ _ | exact At _ (.inl rfl) | exact DV _ | (refine Ib _ ?_;first | omega | (simp;done) | (simp;omega)) | (refine B5 ?_;(simp;done)) | (refine B5 ?_;(simp [cI,cS,cII,Dn,Cn,EJ];done)) | (refine Dy _ ?_;(simp [cI,cS,cII];done)) | (refine B5 ?_;(simp_all;done)) | assumption))):p:=h
theorem tdU {p:Prop} (h:p:=by first | exact Sub.refl _ | (refine Bl ?_;simp;done) | assumption | exact (Sub.refl _).set (by assumption)):p:=h
section
variable {P:Program} {ro:Option Nat} {n:Nat} {ops:Array Oper} {N:Nat} {σ0:Sig} {Q:DX->St->Prop} {df:List DDf} {rest:List Oper} {γ γr:List (Nat × D)} {σ:Sig} {t:Nat} {ty:TypeId} {pos:String} {after:Array Edge} {l:List (Bool × Oper)} {d:D}
theorem An {fop:Operand} {args:Array Operand} {ats:Array TypeId} {f:Nat} {first cap us bs:List D}  (h:DCall P f bs σ fun x σ'=>x = .ret d/\σ'=σ) (k1:DOps P ro n ops Q rest ⟨(t,d)::γ,σ,df⟩)  (hl:A4 γ (A6 (fop::args.toList))=some γr:=by with_unfolding_all rfl) (hf:ev γr fop = .func (.func f) first cap:=by with_unfolding_all rfl) (ha:first++args.toList.map (ev γr)++cap=us:=by exact td0) (hp:bs=us:=by with_unfolding_all rfl) (htn:decide (t < n)=true:=by with_unfolding_all rfl):DOps P ro n ops Q (⟨some t, .call { callee := .value fop,args,argTypes:=ats },ty,pos,after,none⟩::rest) ⟨γ,σ,df⟩:=FB hl hf ha (.inl hp) h htn k1
theorem ET {fop:Operand} {args:Array Operand} {ats:Array TypeId} {f:Nat} {first cap us bs:List D} {j:Nat} {want:Bool} {k:Nat} (h:DCall P f bs σ fun x σ'=>x = .ret d/\σ'=σ) (k1:DOps P ro n ops Q rest ⟨(t,d)::γ,σ,df⟩) (hk:(ops[j]?).bind (·.dst)=some k:=by with_unfolding_all rfl) (hb:γ.lookup k=some (.bool want):=by with_unfolding_all rfl) (hl:A4 γ (A6 (fop::args.toList))=some γr:=by with_unfolding_all rfl) (hf:ev γr fop = .func (.func f) first cap:=by with_unfolding_all rfl) (ha:first++args.toList.map (ev γr)++cap=us:=by exact td0) (hp:bs=us:=by with_unfolding_all rfl) (htn:decide (t < n)=true:=by with_unfolding_all rfl):DOps P ro n ops Q (⟨some t, .call { callee := .value fop,args,argTypes:=ats },ty,pos,after,some (j,want)⟩::rest) ⟨γ,σ,df⟩:=Et hk hb hl hf ha (.inl hp) h htn k1
theorem moR {fop:Operand} {args:Array Operand} {ats:Array TypeId} {f:Nat} {first cap us bs:List D}  (h:DCall P f bs σ fun x σ'=>x = .ret d/\σ'=σ) (k1:MO P ro n ops N σ0 Q df l ((t,d)::γ) σ)  (hl:A4 γ (A6 (fop::args.toList))=some γr:=by with_unfolding_all rfl) (hf:ev γr fop = .func (.func f) first cap:=by with_unfolding_all rfl) (ha:first++args.toList.map (ev γr)++cap=us:=by exact td0) (hp:bs=us:=by with_unfolding_all rfl) (htn:decide (t < n)=true:=by with_unfolding_all rfl) (hC:Sub σ0 σ:=by first | exact Sub.refl _ | assumption):MO P ro n ops N σ0 Q df ((true,⟨some t, .call { callee := .value fop,args,argTypes:=ats },ty,pos,after,none⟩)::l) γ σ:=HV hl hf ha (.inl hp) h htn hC k1
theorem moRG {fop:Operand} {args:Array Operand} {ats:Array TypeId} {f:Nat} {first cap us bs:List D} {j:Nat} {want:Bool} {k:Nat} (h:DCall P f bs σ fun x σ'=>x = .ret d/\σ'=σ) (k1:MO P ro n ops N σ0 Q df l ((t,d)::γ) σ) (hk:(ops[j]?).bind (·.dst)=some k:=by with_unfolding_all rfl) (hb:γ.lookup k=some (.bool want):=by with_unfolding_all rfl) (hl:A4 γ (A6 (fop::args.toList))=some γr:=by with_unfolding_all rfl) (hf:ev γr fop = .func (.func f) first cap:=by with_unfolding_all rfl) (ha:first++args.toList.map (ev γr)++cap=us:=by exact td0) (hp:bs=us:=by with_unfolding_all rfl) (htn:decide (t < n)=true:=by with_unfolding_all rfl) (hC:Sub σ0 σ:=by first | exact Sub.refl _ | assumption):MO P ro n ops N σ0 Q df ((true,⟨some t, .call { callee := .value fop,args,argTypes:=ats },ty,pos,after,some (j,want)⟩)::l) γ σ:=GE hk hb hl hf ha (.inl hp) h htn hC k1
theorem callP {fop:Operand} {args:Array Operand} {ats:Array TypeId} {f:Nat} {first cap us bs:List D}  (h:DCall P f bs σ fun x σ'=>x = .ret d/\σ'=σ) (k1:DOps P ro n ops Q rest ⟨(t,d)::γ,σ,df⟩)  (hl:A4 γ (A6 (fop::args.toList))=some γr:=by with_unfolding_all rfl) (hf:ev γr fop = .func (.func f) first cap:=by with_unfolding_all rfl) (ha:first++args.toList.map (ev γr)++cap=us:=by exact td0) (hp:bs=us.map D.plain:=by with_unfolding_all rfl) (htn:decide (t < n)=true:=by with_unfolding_all rfl):DOps P ro n ops Q (⟨some t, .call { callee := .value fop,args,argTypes:=ats },ty,pos,after,none⟩::rest) ⟨γ,σ,df⟩:=FB hl hf ha (.inr hp) h htn k1
theorem EU {fop:Operand} {args:Array Operand} {ats:Array TypeId} {f:Nat} {first cap us bs:List D} {j:Nat} {want:Bool} {k:Nat} (h:DCall P f bs σ fun x σ'=>x = .ret d/\σ'=σ) (k1:DOps P ro n ops Q rest ⟨(t,d)::γ,σ,df⟩) (hk:(ops[j]?).bind (·.dst)=some k:=by with_unfolding_all rfl) (hb:γ.lookup k=some (.bool want):=by with_unfolding_all rfl) (hl:A4 γ (A6 (fop::args.toList))=some γr:=by with_unfolding_all rfl) (hf:ev γr fop = .func (.func f) first cap:=by with_unfolding_all rfl) (ha:first++args.toList.map (ev γr)++cap=us:=by exact td0) (hp:bs=us.map D.plain:=by with_unfolding_all rfl) (htn:decide (t < n)=true:=by with_unfolding_all rfl):DOps P ro n ops Q (⟨some t, .call { callee := .value fop,args,argTypes:=ats },ty,pos,after,some (j,want)⟩::rest) ⟨γ,σ,df⟩:=Et hk hb hl hf ha (.inr hp) h htn k1
theorem moP {fop:Operand} {args:Array Operand} {ats:Array TypeId} {f:Nat} {first cap us bs:List D}  (h:DCall P f bs σ fun x σ'=>x = .ret d/\σ'=σ) (k1:MO P ro n ops N σ0 Q df l ((t,d)::γ) σ)  (hl:A4 γ (A6 (fop::args.toList))=some γr:=by with_unfolding_all rfl) (hf:ev γr fop = .func (.func f) first cap:=by with_unfolding_all rfl) (ha:first++args.toList.map (ev γr)++cap=us:=by exact td0) (hp:bs=us.map D.plain:=by with_unfolding_all rfl) (htn:decide (t < n)=true:=by with_unfolding_all rfl) (hC:Sub σ0 σ:=by first | exact Sub.refl _ | assumption):MO P ro n ops N σ0 Q df ((true,⟨some t, .call { callee := .value fop,args,argTypes:=ats },ty,pos,after,none⟩)::l) γ σ:=HV hl hf ha (.inr hp) h htn hC k1
theorem moPG {fop:Operand} {args:Array Operand} {ats:Array TypeId} {f:Nat} {first cap us bs:List D} {j:Nat} {want:Bool} {k:Nat} (h:DCall P f bs σ fun x σ'=>x = .ret d/\σ'=σ) (k1:MO P ro n ops N σ0 Q df l ((t,d)::γ) σ) (hk:(ops[j]?).bind (·.dst)=some k:=by with_unfolding_all rfl) (hb:γ.lookup k=some (.bool want):=by with_unfolding_all rfl) (hl:A4 γ (A6 (fop::args.toList))=some γr:=by with_unfolding_all rfl) (hf:ev γr fop = .func (.func f) first cap:=by with_unfolding_all rfl) (ha:first++args.toList.map (ev γr)++cap=us:=by exact td0) (hp:bs=us.map D.plain:=by with_unfolding_all rfl) (htn:decide (t < n)=true:=by with_unfolding_all rfl) (hC:Sub σ0 σ:=by first | exact Sub.refl _ | assumption):MO P ro n ops N σ0 Q df ((true,⟨some t, .call { callee := .value fop,args,argTypes:=ats },ty,pos,after,some (j,want)⟩)::l) γ σ:=GE hk hb hl hf ha (.inr hp) h htn hC k1
theorem Ab {fop:Operand} {args:Array Operand} {ats:Array TypeId} {f:Nat} {first cap us bs:List D} {R:DE->Sig->Prop} {dst:Option Tmp} (h:DCall P f bs σ R) (hret : ∀ d σ',R (.ret d) σ'->DOps P ro n ops Q rest ⟨putD dst d γ,σ',df⟩) (hpan : ∀ d σ',R (.panic d) σ'->Q (.panic d) ⟨γ,σ',df⟩) (hl:A4 γ (A6 (fop::args.toList))=some γr:=by with_unfolding_all rfl) (hf:ev γr fop = .func (.func f) first cap:=by with_unfolding_all rfl) (ha:first++args.toList.map (ev γr)++cap=us:=by exact td0) (hp:bs=us:=by with_unfolding_all rfl)
  (ho:Av n ⟨dst, .call { callee := .value fop,args,argTypes:=ats },ty,pos,after,none⟩=true:=by with_unfolding_all rfl):DOps P ro n ops Q (⟨dst, .call { callee := .value fop,args,argTypes:=ats },ty,pos,after,none⟩::rest) ⟨γ,σ,df⟩:=F5 hl hf ha (.inl hp) h ho hret hpan
theorem callWP {fop:Operand} {args:Array Operand} {ats:Array TypeId} {f:Nat} {first cap us bs:List D} {R:DE->Sig->Prop} {dst:Option Tmp} (h:DCall P f bs σ R) (hret : ∀ d σ',R (.ret d) σ'->DOps P ro n ops Q rest ⟨putD dst d γ,σ',df⟩) (hpan : ∀ d σ',R (.panic d) σ'->Q (.panic d) ⟨γ,σ',df⟩) (hl:A4 γ (A6 (fop::args.toList))=some γr:=by with_unfolding_all rfl) (hf:ev γr fop = .func (.func f) first cap:=by with_unfolding_all rfl) (ha:first++args.toList.map (ev γr)++cap=us:=by exact td0) (hp:bs=us.map D.plain:=by with_unfolding_all rfl)
  (ho:Av n ⟨dst, .call { callee := .value fop,args,argTypes:=ats },ty,pos,after,none⟩=true:=by with_unfolding_all rfl):DOps P ro n ops Q (⟨dst, .call { callee := .value fop,args,argTypes:=ats },ty,pos,after,none⟩::rest) ⟨γ,σ,df⟩:=F5 hl hf ha (.inr hp) h ho hret hpan
theorem cndB {c:Nat} {x y:Code} {b:Bool} (ht:b=true->DWp P ro n x Q ⟨(c, .bool true)::γ,σ,df⟩) (hf:b=false->DWp P ro n y Q ⟨(c, .bool false)::γ,σ,df⟩) (hl:γ.lookup c=some (.bool b):=by with_unfolding_all rfl):DWp P ro n (.cond (.tmp c) x y) Q ⟨γ,σ,df⟩:=by
 refine P2 (s:=⟨γ,σ,df⟩) (t:=b) (Ax hl) (fun h => ?_) (fun h => ?_)
 ·exact dwp_wk (Bw (by rw [Ax hl,h];exact A9 _)) (ht h)
 ·exact dwp_wk (Bw (by rw [Ax hl,h];exact A9 _)) (hf h)
theorem mix {lo:List Oper} {id:Nat} (ord E:List Nat) {lp:List (Bool × Oper)} (h:MO prog ro n lo.toArray 334 σ Q df lp γ σ) (hB:EO lo.toArray E ord=true:=by kernel_rfl) (hl:Ga lo E ord=some lp:=by with_unfolding_all rfl):DWp prog ro n (.region id lo.toArray true) Q ⟨γ,σ,df⟩ :=
 OZ Ak mixed ord E σ hB (Sub.refl _) hl h
theorem NE {lo:List Oper} {id:Nat} (ord E:List Nat) (σ0:Sig) (hC:Sub σ0 σ) {lp:List (Bool × Oper)} (h:MO prog ro n lo.toArray 334 σ0 Q df lp γ σ) (hB:EO lo.toArray E ord=true:=by kernel_rfl) (hl:Ga lo E ord=some lp:=by with_unfolding_all rfl):DWp prog ro n (.region id lo.toArray true) Q ⟨γ,σ,df⟩ :=
 OZ Ak mixed ord E σ0 hB hC hl h
theorem wkR {γ':List (Nat × D)} {σ':Sig} (h:TellsR γ γ':=by exact tdT) (hσ:Sub σ' σ:=by exact tdU):Wk P n ⟨γ,σ,df⟩ ⟨γ',σ',df⟩:=KF h hσ
theorem Bh {γk:List (Nat × D)} {α:Type} {c:Code} (keep:List Nat) (I:α->Prop) (ov:α->List (Nat × D)) (sg:α->Sig) (μ:α->Nat) (x0:α) (h0:I x0)
  (round : ∀ x,I x->DWp P ro n c (Then (fun s' => ∃ x',I x'/\μ x' < μ x/\Wk P n s' ⟨ov x'++γk,sg x',df⟩) Q) ⟨ov x++γk,sg x,df⟩) (hk:DD γ keep=some γk:=by with_unfolding_all rfl) (h1:TellsR γ (ov x0++γk):=by exact tdT) (h2:Sub (sg x0) σ:=by exact tdU):DWp P ro n (.loop c) Q ⟨γ,σ,df⟩:=Ft keep I ov sg μ x0 hk h0 h1 h2 round
theorem AJ {γk:List (Nat × D)} {α β:Type} {c:Code} (keep:List Nat) (I:α->β->Prop) (ov:α->β->List (Nat × D)) (sg:α->β->Sig) (μ:α->β->Nat) (x0:α) (y0:β) (h0:I x0 y0)
  (round : ∀ x y,I x y->DWp P ro n c (Then (fun s' => ∃ x' y',I x' y'/\μ x' y' < μ x y/\Wk P n s' ⟨ov x' y'++γk,sg x' y',df⟩) Q) ⟨ov x y++γk,sg x y,df⟩) (hk:DD γ keep=some γk:=by with_unfolding_all rfl) (h1:TellsR γ (ov x0 y0++γk):=by exact tdT) (h2:Sub (sg x0 y0) σ:=by exact tdU):DWp P ro n (.loop c) Q ⟨γ,σ,df⟩:=Q6 keep I ov sg μ x0 y0 hk h0 h1 h2 round
theorem EV {γk:List (Nat × D)} {α β δ:Type} {c:Code} (keep:List Nat) (I:α->β->δ->Prop) (ov:α->β->δ->List (Nat × D)) (sg:α->β->δ->Sig) (μ:α->β->δ->Nat) (x0:α) (y0:β) (z0:δ) (h0:I x0 y0 z0)
  (round : ∀ x y z,I x y z->DWp P ro n c (Then (fun s' => ∃ x' y' z',I x' y' z'/\μ x' y' z' < μ x y z/\Wk P n s' ⟨ov x' y' z'++γk,sg x' y' z',df⟩) Q) ⟨ov x y z++γk,sg x y z,df⟩) (hk:DD γ keep=some γk:=by with_unfolding_all rfl) (h1:TellsR γ (ov x0 y0 z0++γk):=by exact tdT) (h2:Sub (sg x0 y0 z0) σ:=by exact tdU):DWp P ro n (.loop c) Q ⟨γ,σ,df⟩:=Q5 keep I ov sg μ x0 y0 z0 hk h0 h1 h2 round
theorem fin {fn:Func} {R:DE->Sig->Prop} {σ':Sig} {d:D} (hR:R (.ret d) σ') (hσ:Sub σ' σ:=by exact tdU) (h:resD fn γ=some d:=by with_unfolding_all rfl):EL P n fn R .ret ⟨γ,σ,[]⟩:=OY hσ h hR
theorem finS {fn:Func} {R:DE->Sig->Prop} {σ':Sig} {es:List (List D)} {o:Own} {t:Nat} (hR:R (.ret (.slice es .no)) σ') (hσ:Sub σ' σ:=by exact tdU) (hr:fn.results = #[.tmp t]:=by with_unfolding_all rfl) (h:getD γ t = .slice es o:=by exact Ax (by with_unfolding_all rfl)):EL P n fn R .ret ⟨γ,σ,[]⟩:=SK hσ hr h hR
theorem fin1 {fn:Func} {R:DE->Sig->Prop} {σ':Sig} {t:Nat} {d d':D} (hR:R (.ret d') σ') (hσ:Sub σ' σ:=by exact tdU) (hr:fn.results = #[.tmp t]:=by with_unfolding_all rfl) (hl:γ.lookup t=some d:=by with_unfolding_all rfl) (hw:WkD d d':=by exact tdW):EL P n fn R .ret ⟨γ,σ,[]⟩ :=
 ⟨⟨[(t,d')],σ',[]⟩,wk_to (show Tells γ [(t,d')] from ⟨by rw [Ax hl];exact hw,trivial⟩) hσ,rfl,d',Ex (by simp [resD,hr]),F2 hR⟩
theorem fin2 {fn:Func} {R:DE->Sig->Prop} {σ':Sig} {t u:Nat} {d d' e e':D} (hR:R (.ret (.tup [d',e'])) σ') (hσ:Sub σ' σ:=by exact tdU) (hr:fn.results = #[.tmp t, .tmp u]:=by with_unfolding_all rfl) (hl:γ.lookup t=some d:=by with_unfolding_all rfl) (hl2:γ.lookup u=some e:=by with_unfolding_all rfl) (htu:decide (u=t)=false:=by with_unfolding_all rfl) (hw:WkD d d':=by exact tdW) (hw2:WkD e e':=by exact tdW):EL P n fn R .ret ⟨γ,σ,[]⟩ :=
 ⟨⟨[(t,d'),(u,e')],σ',[]⟩,wk_to (show Tells γ [(t,d'),(u,e')] from ⟨by rw [Ax hl];exact hw,by rw [Ax hl2];exact hw2,trivial⟩) hσ,rfl, .tup [d',e'],Ex (by
  have:u ≠ t:=by simpa using htu
  simp [resD,hr,this]),F2 hR⟩
theorem fin0 {fn:Func} {R:DE->Sig->Prop} {σ':Sig} (hR:R (.ret (.tup [])) σ') (hσ:Sub σ' σ:=by exact tdU) (hr:fn.results = #[]:=by with_unfolding_all rfl):EL P n fn R .ret ⟨γ,σ,[]⟩:=OY hσ (by simp [resD,hr]) hR
theorem DM {fn:Func} {R:DE->Sig->Prop} {σ':Sig} (hR:R (.ret (.tup [])) σ') (hσ:Sub σ' σ:=by exact tdU) (hr:fn.results = #[]:=by with_unfolding_all rfl):EL P n fn R .normal ⟨γ,σ,[]⟩:=NP hσ (by simp [resD,hr]) hR
theorem finP {fn:Func} {R:DE->Sig->Prop} {σ':Sig} {d:D} (hR:R (.panic d) σ') (hσ:Sub σ' σ:=by exact tdU):EL P n fn R (.panic d) ⟨γ,σ,[]⟩:=SL hσ hR
theorem BD {c:Code} (t sz:Nat) (h : ∀ i,σ i=none->DWp P ro n c Q ⟨(t, .slice [] (.tag i))::γ,σ.set i (.tail sz 0),df⟩) (ht:getD γ t = .nils:=by exact Ax (by with_unfolding_all rfl)):DWp P ro n c Q ⟨γ,σ,df⟩:=dwp_tag t sz ht h
end
section
variable {ro:Option Nat} {n:Nat} {ops:Array Oper} {N:Nat} {σ0:Sig} {Q:DX->St->Prop} {df:List DDf} {rest:List Oper} {γ γr:List (Nat × D)} {σ:Sig} {t:Nat} {ty:TypeId} {pos:String} {after:Array Edge} {d:D} {s x:Operand} {T T' e e':Nat}
theorem evs {s x:Operand} (hl:A4 γ (A6 [s,x])=some γr):ev γr s=ev γ s/\ev γr x=ev γ x :=
 have h : ∀ z ∈ [s,x],ev γr z=ev γ z:=fun z hz=>BL fun t ht=>AI hl t (AY (by rw [<- ht];exact hz))
 ⟨h s (by simp),h x (by simp)⟩
theorem appN {new:List (List D)} (h : ∀ i,σ i=none->DOps prog ro n ops Q rest ⟨(t, .slice new (.tag i))::γ,σ.set i (.tail (tab e).size new.length),df⟩)
  (hl:A4 γ (A6 [s,x])=some γr:=by with_unfolding_all rfl) (hk:(tab T).k = .slice e:=by (simp<;>rfl)) (hk':(tab T').k = .slice e':=by (simp<;>rfl)) (he:A5 (tab e).k=false:=by simp)
  (h1:ev γr s = .nils:=by with_unfolding_all rfl) (h2:esOf (ev γr x)=some new:=by (simp<;>with_unfolding_all rfl)) (hlen : ∀ c ∈ new,c.length=(tab e).size:=by first | exact BR _ | exact DN _ | exact BA _ | simp)
  (hb:new.length*(tab e).bytes<=140737488355328:=by first | (simp;done) | (simp;omega)) (hm:new.length<=9223372036854775807:=by first | (simp;done) | (simp;omega)) (htn:decide (t < n)=true:=by with_unfolding_all rfl) :
  DOps prog ro n ops Q (⟨some t, .call { callee := .builtin .append,args := #[s,x],argTypes := #[T,T'] },ty,pos,after,none⟩::rest) ⟨γ,σ,df⟩:=by
 obtain ⟨e1,e2⟩:=evs hl
 exact Fv Ad rfl (by simpa using htn) hk hk' he (by rw [<- e1];exact h1) (by rw [<- e2];exact h2) hlen hb hm h
theorem appK {new:List (List D)} (h:DOps prog ro n ops Q rest ⟨(t, .slice new .no)::γ,σ,df⟩)
  (hl:A4 γ (A6 [s,x])=some γr:=by with_unfolding_all rfl) (hk:(tab T).k = .slice e:=by (simp<;>rfl)) (hk':(tab T').k = .slice e':=by (simp<;>rfl)) (he:A5 (tab e).k=false:=by simp)
  (h1:ev γr s = .nils:=by with_unfolding_all rfl) (h2:esOf (ev γr x)=some new:=by (simp<;>with_unfolding_all rfl)) (hlen : ∀ c ∈ new,c.length=(tab e).size:=by first | exact BR _ | exact DN _ | exact BA _ | simp)
  (hb:new.length*(tab e).bytes<=140737488355328:=by first | (simp;done) | (simp;omega)) (hm:new.length<=9223372036854775807:=by first | (simp;done) | (simp;omega)) (htn:decide (t < n)=true:=by with_unfolding_all rfl) :
  DOps prog ro n ops Q (⟨some t, .call { callee := .builtin .append,args := #[s,x],argTypes := #[T,T'] },ty,pos,after,none⟩::rest) ⟨γ,σ,df⟩:=by
 obtain ⟨e1,e2⟩:=evs hl
 exact Qd Ad rfl (by simpa using htn) hk hk' he (by rw [<- e1];exact h1) (by rw [<- e2];exact h2) hlen hb hm h
theorem appC {es new:List (List D)} (h : ∀ i,σ i=none->DOps prog ro n ops Q rest ⟨(t, .slice (es++new) (.tag i))::γ,σ.set i (.tail (tab e).size (es.length+new.length)),df⟩)
  (hl:A4 γ (A6 [s,x])=some γr:=by with_unfolding_all rfl) (hk:(tab T).k = .slice e:=by (simp<;>rfl)) (hk':(tab T').k = .slice e':=by (simp<;>rfl)) (he:A5 (tab e).k=false:=by simp)
  (h1:ev γr s = .slice es .clip:=by with_unfolding_all rfl) (h2:esOf (ev γr x)=some new:=by (simp<;>with_unfolding_all rfl)) (hne:new ≠ []:=by simp)
  (hlen : ∀ c ∈ es,c.length=(tab e).size:=by first | exact BR _ | exact DN _ | exact BA _ | simp) (hlen' : ∀ c ∈ new,c.length=(tab e).size:=by first | exact BR _ | exact DN _ | exact BA _ | simp)
  (hb:(es.length+new.length)*(tab e).bytes<=140737488355328:=by first | (simp;done) | (simp;omega)) (hm:es.length+new.length<=9223372036854775807:=by first | (simp;done) | (simp;omega)) (htn:decide (t < n)=true:=by with_unfolding_all rfl) :
  DOps prog ro n ops Q (⟨some t, .call { callee := .builtin .append,args := #[s,x],argTypes := #[T,T'] },ty,pos,after,none⟩::rest) ⟨γ,σ,df⟩:=by
 obtain ⟨e1,e2⟩:=evs hl
 exact BQ Ad rfl (by simpa using htn) hk hk' he (by rw [<- e1];exact h1) (by rw [<- e2];exact h2) hne hlen hlen' hb hm h
theorem app0 {es:List (List D)} (h:DOps prog ro n ops Q rest ⟨(t,d)::γ,σ,df⟩)
  (hl:A4 γ (A6 [s,x])=some γr:=by with_unfolding_all rfl) (hd:ev γr s=d:=by with_unfolding_all rfl) (hk:(tab T).k = .slice e:=by (simp<;>rfl)) (hk':(tab T').k = .slice e':=by (simp<;>rfl)) (he:A5 (tab e).k=false:=by simp)
  (h1:esOf d=some es:=by with_unfolding_all rfl) (h2:esOf (ev γr x)=some []:=by first | with_unfolding_all rfl | (simp_all;done)) (htn:decide (t < n)=true:=by with_unfolding_all rfl) :
  DOps prog ro n ops Q (⟨some t, .call { callee := .builtin .append,args := #[s,x],argTypes := #[T,T'] },ty,pos,after,none⟩::rest) ⟨γ,σ,df⟩:=by
 obtain ⟨e1,e2⟩:=evs hl
 have:=Dd (ops:=ops) (Q:=Q) (rest:=rest) (df:=df) (σ:=σ) (γ:=γ) (ty:=ty) (pos:=pos) (after:=after) (guard:=none) (es:=es) (ro:=ro) (n:=n) Ad (T:=T) (T':=T') (s:=s) (x:=x) rfl (by simpa using htn) hk hk' he (by rw [<- e1,hd];exact h1) (by rw [<- e2];exact h2) (by rw [<- e1,hd];exact h)
 exact this
theorem newM {T:Nat} (h : ∀ i,σ i=none->DOps prog ro n ops Q rest ⟨(t, .map i)::γ,σ.set i (.map []),df⟩) (htn:decide (t < n)=true:=by with_unfolding_all rfl) :
  DOps prog ro n ops Q (⟨some t, .makeMap T none,ty,pos,after,none⟩::rest) ⟨γ,σ,df⟩ :=
 MP Ad rfl (.inl rfl) (by simpa using htn) h
theorem newV {T:Nat} {z:List D} (h : ∀ i,σ i=none->DOps prog ro n ops Q rest ⟨(t, .ptr i 0)::γ,σ.set i (.cells z),df⟩) (hk:A5 (tab T).k=false:=by simp) (hz:(tab T).zero=z:=by (simp<;>rfl)) (htn:decide (t < n)=true:=by with_unfolding_all rfl) :
  DOps prog ro n ops Q (⟨some t, .alloc T,ty,pos,after,none⟩::rest) ⟨γ,σ,df⟩:=by
 subst hz;exact Ek Ad hk (by simpa using htn) h
theorem pan {T:Nat} {dst:Option Tmp} (h:Q (.panic (.iface T d)) ⟨γ,σ,df⟩) (hl:A4 γ (A6 [x])=some γr:=by with_unfolding_all rfl) (hx:ev γr x = .iface T d:=by with_unfolding_all rfl) :
  DOps prog ro n ops Q (⟨dst, .panic x,ty,pos,after,none⟩::rest) ⟨γ,σ,df⟩:=Q8 rfl (by rw [<- BJ hl];exact hx) h
theorem isN {es:List (List D)} {o:Own} (h : ∀ b,(b=true->es=[])->DOps prog ro n ops Q rest ⟨(t, .bool b)::γ,σ,df⟩) (hl:A4 γ (A6 [x])=some γr:=by with_unfolding_all rfl) (hx:ev γr x = .slice es o:=by with_unfolding_all rfl) (hk:(tab T).k = .slice e:=by (simp<;>rfl)) (htn:decide (t < n)=true:=by with_unfolding_all rfl) :
  DOps prog ro n ops Q (⟨some t, .binOp .eql T x (.const (.slice none 0 0)) T',ty,pos,after,none⟩::rest) ⟨γ,σ,df⟩ :=
 Qa Ad hk rfl (by rw [<- BJ hl];exact hx) (by simpa using htn) h
end
end Go.DL
