/- Part of the proof that the last text ends. -/
import Derived.Test.YtlfimpogphmbdaaGreatM17
import Derived.Test.YtlfimpogphmbdaaGreatM16
import Derived.Test.YtlfimpogphmbdaaGreatM15
set_option linter.all false
namespace Go.DL
open Go.Proofs.Tryz
open Go Go.Proofs
set_option maxHeartbeats 8000000
theorem Js {i:Nat} : ∀ {l seen:List Int},DH i seen l=true -> ∀ p ∈ l,3<=p/\p < 3+i
 | [],_,_,p,hp=>by simp at hp
 | q::r,seen,h,p,hp=>by
  simp only [DH,Bool.and_eq_true,decide_eq_true_eq] at h
  rcases List.mem_cons.1 hp with rfl | hp
  ·exact h.1.1
  ·exact Js h.2 p hp
theorem Fq : ∀ {g:List (List Int)} {i:Nat},Cw i g=true -> ∀ k (hk:k < g.length),Gx (i+k) g[k]=true
 | l::r,i,h,0,_=>by simp only [Cw,Bool.and_eq_true] at h;exact h.1
 | l::r,i,h,k+1,hk=>by
  simp only [Cw,Bool.and_eq_true] at h
  have:=Fq h.2 k (by simpa using hk)
  rw [show i+(k+1)=i+1+k by omega];exact this
theorem CE {g:List (List Int)} (h:Ck g=true) (c:Nat):(parentsF g c).length<=3 /\ ∀ p ∈ parentsF g c,3<=p/\p < c:=by
 simp only [Ck,Bool.and_eq_true] at h
 unfold parentsF
 split
 ·simp
 ·rename_i hc
  by_cases hk:(((c:Int)-3).toNat) < g.length
  ·have:=Fq h.2 _ hk
   rw [List.getElem?_eq_getElem hk,Option.getD_some]
   simp only [Gx,Bool.and_eq_true,decide_eq_true_eq] at this
   refine ⟨this.1,fun p hp => ?_⟩
   have:=Js this.2 p hp
   omega
  ·rw [List.getElem?_eq_none (by omega)];simp
theorem FT {g:List (List Int)} (h:Ck g=true):g.length<=16:=by
 simp only [Ck,Bool.and_eq_true,decide_eq_true_eq] at h;exact h.1
def ordersN (g:List (List Int)):Nat->List (List Int)
 | 0=>[]
 | n+1=>ordersN g n++[if n=0 then [0] else Bq (ordersN g n) n (parentsF g n)]
theorem Bb (g:List (List Int)) : ∀ n,(ordersN g n).length=n
 | 0=>rfl
 | n+1=>by rw [ordersN,List.length_append,Bb g n];rfl
theorem Fh (os:List (List Int)) (x:List Int) {p:Int} (hp:0<=p):At (os++[x]) p=if p=os.length then x else At os p:=by
 unfold At
 by_cases h:p.toNat < os.length
 ·rw [List.getElem?_append_left h,if_neg (by omega)]
 ·by_cases h2:p=os.length
  ·rw [if_pos h2,h2];simp
  ·rw [if_neg h2,List.getElem?_eq_none (by simp;omega),List.getElem?_eq_none (by omega)]
theorem Jh {os:List (List Int)} {M:Nat} : ∀ {ps:List Int} {ls:List (List Int)},CC os ps=some ls->(∀ p ∈ ps,(At os p).length<=M)->totL ls<=ps.length*M/\ls.length=ps.length
 | [],ls,h,_=>by simp only [CC,Option.some.injEq] at h;subst h;simp [totL]
 | p::r,ls,h,hM=>by
  rw [CC] at h
  split at h
  ·cases h
  ·cases hr:CC os r with
   | none=>rw [hr] at h;cases h
   | some l2 =>
    rw [hr] at h
    simp only [Option.map_some,Option.some.injEq] at h
    subst h
    obtain ⟨h1,h2⟩:=Jh hr fun q hq=>hM q (List.mem_cons_of_mem _ hq)
    have h3:=hM p (List.mem_cons_self ..)
    have h4:((At os p).filter fun x => !decide (x=0)).length<=(At os p).length:=List.length_filter_le ..
    simp only [totL,List.length_cons,Nat.add_mul]
    omega
theorem UU (a b:List (List Int)):totL (a++b)=totL a+totL b:=by
 induction a with
 | nil=>simp [totL]
 | cons x a ih=>simp only [List.cons_append,totL,ih];omega
theorem Fm {os:List (List Int)} {M:Nat} {ps:List Int} {ls:List (List Int)} (h:BA os ps=some ls) (hM : ∀ p ∈ ps,(At os p).length<=M):totL ls<=ps.length*M+ps.length/\ls.length=ps.length+1:=by
 unfold BA at h
 cases hr:CC os ps with
 | none=>rw [hr] at h;cases h
 | some l2 =>
  rw [hr] at h
  simp only [Option.map_some,Option.some.injEq] at h
  subst h
  obtain ⟨h1,h2⟩:=Jh hr hM
  rw [UU];simp [totL];omega
theorem GY {os:List (List Int)} {M:Nat} {c:Int} {ps:List Int} (hM : ∀ p ∈ ps,(At os p).length<=M):(Bq os c ps).length<=ps.length*M+ps.length+2:=by
 unfold Bq
 cases h:BA os ps with
 | none=>simp
 | some ls =>
  have h1:=(Fm h hM).1
  have h2:=E6 ls
  simp only
  split
  ·simp only [List.length_append,List.length_cons,List.length_nil];omega
  ·simp
theorem GX {g:List (List Int)} (h:Ck g=true) : ∀ n, ∀ p:Int,0<=p->(At (ordersN g n) p).length+3<=5*3 ^ (n-4)
 | 0,p,_=>by simp [ordersN,At]
 | n+1,p,hp=>by
  have ih:=GX h n
  have hmono:5*3 ^ (n-4)<=5*3 ^ (n+1-4):=Nat.mul_le_mul_left _ (Nat.pow_le_pow_right (by decide) (by omega))
  have hpos:1<=3 ^ (n+1-4):=Nat.one_le_pow _ _ (by decide)
  rw [ordersN,Fh _ _ hp,Bb]
  split
  ·split
   ·rw [List.length_singleton];omega
   ·obtain ⟨g1,g2⟩:=CE h n
    by_cases hn:n < 4
    ·have he:parentsF g n=[]:=by
      cases hq:parentsF g n with
      | nil=>rfl
      | cons q r=>have:=g2 q (by rw [hq];simp);omega
     have:=GY (os:=ordersN g n) (M:=0) (c:=n) (ps:=parentsF g n) (by rw [he];simp)
     rw [he] at this ⊢
     simp at this
     omega
    ·have:=GY (os:=ordersN g n) (M:=5*3 ^ (n-4)-3) (c:=n) (ps:=parentsF g n) (fun q hq=>by have:=ih q (by have:=g2 q hq;omega);omega)
     have e:3 ^ (n+1-4)=3 ^ (n-4)*3:=by rw [show n+1-4=(n-4)+1 by omega,Nat.pow_succ]
     have hh:(parentsF g n).length*(5*3 ^ (n-4)-3)<=3*(5*3 ^ (n-4)-3):=Nat.mul_le_mul_right _ g1
     have hpos':1<=3 ^ (n-4):=Nat.one_le_pow _ _ (by decide)
     rw [e];omega
  ·exact Nat.le_trans (ih p hp) hmono
theorem CI {g:List (List Int)} (h:Ck g=true) {n:Nat} (hn:n<=3+g.length) {p:Int} (hp:0<=p):(At (ordersN g n) p).length<=80000000:=by
 have h1:=GX h n p hp
 have h2:3 ^ (n-4)<=3 ^ 15:=Nat.pow_le_pow_right (by decide) (by have:=FT h;omega)
 have h3:(3:Nat) ^ 15=14348907:=by decide
 omega
theorem QK (ig im:Nat) (a b:D) (om:List (Int × List Int)) (V:Sig) (hg:V ig=some (.cells [a,b, .map im])) (hm:V im=some (.map (eIO om))) :
  DCall prog 202 [.ptr ig 0,dI 0] V fun x S'=>x = .ret (.tup [])/\S'=V.set im (.map (eIO (putM 0 [0] om))):=by
 refine en func202 ntmps202 ?_
 refine gf (gi hg hm) ?_ o202
 refine rtl 14 (sl (cI [0])) ?_
 refine gf (gi hg hm) ?_ o202
 exact fin0 (S':=V.set im (.map (eIO (putM 0 [0] om)))) ⟨rfl,rfl⟩
theorem PB (ps:List (List Int)) (cs:List Int) (o o':Own) (V:Sig) (hb:Ck ps=false) (hl:ps.length<=1073741824:=by exact sd) (hl2 : ∀ x ∈ ps,x.length<=1073741824:=by exact sd) (hc:cs.length<=1073741824:=by exact sd) :
  DCall prog 119 [.slice (cII ps) o, .slice (cI cs) o'] V (rS (.tup [.nilp, .bool false]) V):=by
 refine en func119 ntmps119 ?_
 repeat' first | refine gf hb ?_ o119 | apply gy<;>intro hh
 any_goals (first | exact fe2 trivial | fail)
theorem PA (ps:List (List Int)) (cs:List Int) (o o':Own) (V:Sig) (hb:Ck ps=true) (hx : ¬∀ c ∈ cs,0<=c/\c < 3+ps.length) (hl:ps.length<=1073741824:=by exact sd) (hl2 : ∀ x ∈ ps,x.length<=1073741824:=by exact sd) (hc:cs.length<=1073741824:=by exact sd) :
  DCall prog 119 [.slice (cII ps) o, .slice (cI cs) o'] V (rS (.tup [.nilp, .bool false]) V):=by
 refine en func119 ntmps119 ?_
 refine gf hb ?_ o119
 refine Bz [0,8,9,10,11,13,14,18,19,34,35,36,37,38,39,40,41,42,43,44,45,46,47,48,49,50,51,52,53,54,55,56,57,58,59,60,61,62,63,64,65,66,67,68,69,70,71,72,73,74,75,76,77,78,79,80,81,82,83,84,85,86,87,88,89,90,91,92,93,94,95,96,97,98,99,100,101,102,103] (fun (k:Nat)=>k<=cs.length /\ ∀ c ∈ cs.take k,0<=c/\c < 3+ps.length) (fun k=>[(20,dI k)]) (fun _=>V) (fun k=>cs.length-k) (0) (by simp) (fun k hI => ?_)
 obtain ⟨hk,hI⟩:=hI
 by_cases h:k < cs.length
 ·repeat' first | refine gf hb ?_ o119 | apply gy<;>intro hh
  ·exact fe2 trivial
  ·exact fe2 trivial
  ·have hI' : ∀ c ∈ cs.take (k+1),0<=c/\c < 3+ps.length:=fun c hc=>by
    rw [AP h] at hc
    rcases List.mem_append.1 hc with hc | hc
    ·exact hI c hc
    ·obtain rfl:=List.mem_singleton.1 hc;omega
   exact ⟨k+1,⟨by omega,hI'⟩,td1,wkR⟩
 ·exfalso
  rw [List.take_of_length_le (by omega)] at hI
  exact hx hI
def cU (us:List Int):List (List D):=us.map fun n=>[.int .u64 n]
@[simp] theorem cU_length (us:List Int):(cU us).length=us.length:=by simp [cU]
@[simp] theorem cU_all (l:List Int):(cU l).all (fun c=>c.length==1)=true:=by simp [cU]
theorem UG (a b:List Int):cU (a++b)=cU a++cU b:=by simp [cU]
@[simp] theorem cU_get (us:List Int) (k:Nat):(cU us)[k]? = (us[k]?).map fun n=>[.int .u64 n]:=by simp [cU]
theorem U7 (ps:List (List Int)) (cs:List Int) (o o':Own) (V:Sig) (hb:Ck ps=true) (hx : ∀ c ∈ cs,0<=c/\c < 3+ps.length) (hl:ps.length<=1073741824:=by exact sd) (hl2 : ∀ x ∈ ps,x.length<=1073741824:=by exact sd) (hc:cs.length<=1073741824:=by exact sd) :
  DCall prog 119 [.slice (cII ps) o, .slice (cI cs) o'] V fun x S' => ∃ ig im a b om,ig ≠ im/\x = .ret (.tup [.ptr ig 0, .bool true])/\S'=(V.set im (.map (eIO om))).set ig (.cells [a,b, .map im])/\V ig=none/\V im=none /\ ∀ p:Int,0<=p->getM [] p om=At (ordersN ps (3+ps.length)) p:=by
 have hlen:=FT hb
 refine en func119 ntmps119 ?_
 refine gf hb ?_ o119 [40,11]
 refine Bz [0,8,9,10,11,13,14,18,19,34,35,36,37,38,39,40,41,42,43,44,45,46,47,48,49,50,51,52,53,54,55,56,57,58,59,60,61,62,63,64,65,66,67,68,69,70,71,72,73,74,75,76,77,78,79,80,81,82,83,84,85,86,87,88,89,90,91,92,93,94,95,96,97,98,99,100,101,102,103] (fun (k:Nat)=>k<=cs.length) (fun k=>[(20,dI k)]) (fun _=>V) (fun k=>cs.length-k) (0) (by simp) (fun k hI => ?_)
 by_cases h:k < cs.length
 ·have hxk:=hx _ (List.getElem_mem h)
  refine gf hb ?_ o119 [40,11]
  exact ⟨k+1,by omega,td1,wkR⟩
 ·refine gf hb ?_ o119 [40,11]
  refine Vd (k:=3) (c:=3+ps.length) (z:=[.nils]) (sz:=1) (fun ir hir hm0 => ?_)
  obtain ⟨st0,hst0⟩ : ∃ st0:MR,st0=some (ir,3+ps.length,(List.replicate (3+ps.length-3) [D.nils]).flatten):=⟨_,rfl⟩
  obtain ⟨es0,hes0⟩ : ∃ es0,es0=List.replicate 3 [D.nils]:=⟨_,rfl⟩
  rw [<- hst0, <- hes0] at hm0 ⊢
  have hmd:mD st0 es0.length = .sref ir 0 3 (3+ps.length):=by rw [hst0,hes0];rfl
  have hel:es0.length=3:=by rw [hes0];rfl
  refine newIO (fun im him => ?_)
  obtain ⟨e1,hm1⟩:=Wj (o := .map (eIO [])) hm0 him
  have him':=Sm him
  rw [e1]
  refine go1 trivial ?_
  refine boxV (fun ig hig => ?_)
  obtain ⟨e2,hm2⟩:=Wj (o := .cells [.sref ir 0 3 (3+ps.length), .nils, .map im]) hm1 hig
  have hig':=Sm hig
  have hgi:ig ≠ im:=fun h=>by rw [h,w7] at hig';cases hig'
  have hgr:ig ≠ ir:=fun h=>by subst h;simp [mS,hst0,w7] at hig
  rw [e2]
  have hld:=Sn hm2 (w7 ..)
  refine gf (gi hgr hld) ?_ o119 [40,11]
  refine mapp (new:=cII ps) (sz:=1) (h1:=by exact hmd.symm) (fun st hm3 => ?_) hm2
  clear hm2 hm1 hm0 e1 e2 hld hig him
  obtain ⟨es1,hes1⟩ : ∃ es1,es1=es0++cII ps:=⟨_,rfl⟩
  have hN:es0.length+(cII ps).length=es1.length:=by rw [hes1,List.length_append]
  have hel1:es1.length=3+ps.length:=by rw [hes1,List.length_append,hel];simp
  rw [<- hes1] at hm3 ⊢
  rw [hN]
  obtain ⟨i1,c1,hmd1⟩ : ∃ i1 c1,mD st es1.length = .sref i1 0 es1.length c1:=by
   cases st with
   | none=>exact absurd (show es1=[] from hm3) (fun h=>by rw [h] at hel1;simp at hel1;omega)
   | some x=>exact ⟨_,_,rfl⟩
  have hld:=Sn hm3 (w7 ..)
  obtain ⟨e3,hm4⟩:=mS_put (o := .cells [mD st es1.length, .nils, .map im]) hm3 (w7 ..)
  rw [hmd1] at e3 hm4 ⊢
  rw [w9] at e3 hm4
  refine gf (gi hgr (gi hld e3)) ?_ o119 [40,11]
  refine mfrC (i:=ig) [] [.nils, .map im] ?_ (by rw [hmd1];exact w7 ..) hm4
  rw [w9]
  refine celW (i:=ig) [] [.nils, .map im] (.slice es1 .no) (.slice (cII ([]::[]::[]::ps)) .no) ?_ (w7 ..) (Ho _ ?_)
  rw [w9]
  simp only [List.nil_append]
  obtain ⟨P,hP⟩ : ∃ P,P=[]::[]::[]::ps:=⟨_,rfl⟩
  have hPl:P.length=3+ps.length:=by rw [hP];simp;omega
  have hPx : ∀ x ∈ P,x.length<=1073741824:=by rw [hP];simpa using hl2
  have hpar : ∀ c (hc:c < P.length),P[c]=parentsF ps c:=by
   intro c hc
   subst hP
   unfold parentsF
   rcases c with _ | _ | _ | c
   ·rfl
   ·rfl
   ·rfl
   ·simp only [List.length_cons] at hc
    rw [if_neg (by omega),show ((((c+1+1+1:Nat)):Int)-3).toNat=c by omega,List.getElem?_eq_getElem (by omega)];rfl
  rw [<- hP]
  refine gf hPl ?_ o119 [40,11]
  refine AO ig 1 1 (w7 ..) rfl fun iu hiu => ?_
  obtain ⟨hug,hiu'⟩:=A4 hiu
  obtain ⟨hum,hiu''⟩:=A4 hiu'
  clear hm3 hm4 hld e3 hN hiu hiu'
  have hgu:ig ≠ iu:=fun e=>hug e.symm
  have hmu:im ≠ iu:=fun e=>hum e.symm
  have hmg:im ≠ ig:=fun e=>hgi e.symm
  have hgn:V ig=none:=(A4 hig').2
  have hS:Sub ((((V.set iu (.tail 1 0)).set im (.map (eIO []))).set ig (.cells [.slice (cII P) .no, .slice [] (.tag iu), .map im]))) ((((V.set im (.map (eIO []))).set ig (.cells [.slice (cII P) .no, .nils, .map im])).set iu (.tail 1 0)).set ig (.cells ([.slice (cII P) .no, .nils, .map im].set 1 (.slice [] (.tag iu))))):=by
   intro k x hk;simp only [Sig.set,List.set] at hk ⊢; grind
  refine AQ [4,5,8,14,53,54,91,92,93,94,95,96,97,98,99,100,101,102,103] (fun (c:Nat) (us:List Int)=>c<=P.length/\us.length=c) (fun c _=>[(55,dI c)]) (fun _ us=>((V.set iu (.tail 1 us.length)).set im (.map (eIO []))).set ig (.cells [.slice (cII P) .no, .slice (cU us) (.tag iu), .map im])) (fun c _=>P.length-c) (0) ([]) (by simp) (fun c us hI => ?_)
  obtain ⟨hcP,hus⟩:=hI
  by_cases hc':c < P.length
  ·have hxc:=hPx _ (List.getElem_mem hc')
   have hpc:=hpar c hc'
   refine gf hPl ?_ o119 [40,11]
   refine bldZ ?_
   refine gz ?_ o119 [40,11]
   refine Ab (Np 0 c _) (fun d S' hx => ?_) (fun d S' hx=>by obtain ⟨⟨_,hx⟩,_⟩:=hx;cases hx)
   obtain ⟨⟨n1,hx⟩,rfl⟩:=hx
   cases hx
   repeat' first | refine gz ?_ o119 [40,11] | apply gy<;>intro hh
   refine Ab (Np n1 0 _) (fun d S' hx => ?_) (fun d S' hx=>by obtain ⟨⟨_,hx⟩,_⟩:=hx;cases hx)
   obtain ⟨⟨n2,hx⟩,rfl⟩:=hx
   cases hx
   repeat' first | refine gz ?_ o119 [40,11] | apply gy<;>intro hh
   simp only [putD]
   refine newV (fun ia hia => ?_)
   obtain ⟨hag,hia1⟩:=A4 hia
   obtain ⟨ham,hia2⟩:=A4 hia1
   obtain ⟨hau,hia3⟩:=A4 hia2
   have hga:ig ≠ ia:=fun e=>hag e.symm
   have hma:im ≠ ia:=fun e=>ham e.symm
   have hua:iu ≠ ia:=fun e=>hau e.symm
   refine gf (gi hag (gi ham (gi hau (gi hga (gi hma hua))))) ?_ o119 [40,11]
   refine AQ [4,5,8,9,10,11,14,53,54,55,56,57,58,59,60,61,62,63,64,65,80,81,82,83,84,85,86,87,88,89,90,91,92,93,94,95,96,97,98,99,100,101,102,103] (fun (q:Nat) (n:Int)=>q<=(P[c]).length) (fun q _=>[(66,dI q)]) (fun _ n=>(((V.set iu (.tail 1 us.length)).set im (.map (eIO []))).set ig (.cells [.slice (cII P) .no, .slice (cU us) (.tag iu), .map im])).set ia (.cells [.int .u64 n])) (fun q _=>(P[c]).length-q) (0) (n2) (by simp) (fun q n hI => ?_)
   by_cases hq:q < (P[c]).length
   ·have hp:=(CE hb c).2 (P[c][q]) (by rw [<- hpc];exact List.getElem_mem hq)
    obtain ⟨p,hpe⟩ : ∃ p:Nat,P[c][q]=(p:Int):=⟨(P[c][q]).toNat,by omega⟩
    have hpl:p < us.length:=by omega
    refine gf (gi hag (gi ham (gi hau (gi hga (gi hma (gi hua hpe)))))) ?_ o119 [40,11]
    refine Dn (TA n (us[p]) _) (fun d S' hx => ?_) (fun d S' hx=>by obtain ⟨⟨_,hx⟩,_⟩:=hx;cases hx)
    obtain ⟨⟨n3,hx⟩,rfl⟩:=hx
    cases hx
    refine ⟨Sub.refl _, ?_⟩
    simp only [putD]
    refine gf (gi hag (gi ham (gi hau (gi hga (gi hma hua))))) ?_ o119 [40,11]
    exact ⟨q+1,n3,by omega,td1,wkR⟩
   ·refine gf (gi hag (gi ham (gi hau (gi hga (gi hma hua))))) ?_ (delO 20 o119) [40,11]
    refine DC (id:=20) [0,1,2,3,4,5,6,7,8,9] [7] (((V.set im (.map (eIO []))).set ig (.cells [.slice (cII P) .no, .slice (cU us) (.tag iu), .map im])).set ia (.cells [.int .u64 n])) ?_ ?_
    ·intro k x hk;simp only [Sig.set] at hk ⊢; grind
    have hsub:Sub (((V.set im (.map (eIO []))).set ig (.cells [.slice (cII P) .no, .slice (cU us) (.tag iu), .map im])).set ia (.cells [.int .u64 n])) (((((V.set iu (.tail 1 us.length)).set im (.map (eIO []))).set ig (.cells [.slice (cII P) .no, .slice (cU us) (.tag iu), .map im])).set ia (.cells [.int .u64 n])).set iu (.tail 1 (us.length+1))):=by
     intro k x hk;simp only [Sig.set] at hk ⊢; grind
    iterate 7 refine go1 (And.intro hgu (And.intro hga (And.intro hma hua))) ?_
    refine moEffW (.slice (cU (us++[n])) (.tag iu)) ?_ (he:=by simp (disch:=first | omega | assumption) [w8];and_intros<;>first | rfl | omega) (hC:=hsub) (hw:=B0 (by rw [UG];rfl))
    refine gf (gi hag (gi ham (gi hau (gi hga (gi hma (gi hua hgu)))))) ?_ (delO 20 o119) [40,11]
    have hsub2:Sub (((V.set iu (.tail 1 (us++[n]).length)).set im (.map (eIO []))).set ig (.cells [.slice (cII P) .no, .slice (cU (us++[n])) (.tag iu), .map im])) ((((((V.set iu (.tail 1 us.length)).set im (.map (eIO []))).set ig (.cells [.slice (cII P) .no, .slice (cU us) (.tag iu), .map im])).set ia (.cells [.int .u64 n])).set iu (.tail 1 (us.length+1))).set ig (.cells [.slice (cII P) .no, .slice (cU (us++[n])) (.tag iu), .map im])):=by
     intro k x hk;rw [List.length_append,List.length_singleton] at hk;simp only [Sig.set] at hk ⊢; grind
    exact ⟨c+1,(us++[n]),⟨by omega,by rw [List.length_append,List.length_singleton];omega⟩,td1,wkR⟩
  ·refine gf (gi hPl (gi hgi (gi hgu (gi hmu hmg)))) ?_ o119 [40,11]
   generalize hups:D.slice (cU us) (.tag iu)=ups
   have hsub3:Sub ((V.set im (.map (eIO []))).set ig (.cells [.slice (cII P) .no,ups, .map im])) (((V.set iu (.tail 1 us.length)).set im (.map (eIO []))).set ig (.cells [.slice (cII P) .no,ups, .map im])):=by
    intro k x hk;simp only [Sig.set] at hk ⊢; grind
   refine AQ [4,5,8,95,103] (fun (c:Nat) (om:List (Int × List Int))=>c<=P.length /\ ∀ p:Int,0<=p->getM [] p om=At (ordersN ps c) p) (fun c _=>[(96,dI c)]) (fun _ om=>(V.set im (.map (eIO om))).set ig (.cells [.slice (cII P) .no,ups, .map im])) (fun c _=>P.length-c) (0) ([]) (by exact ⟨by omega,fun p _=>by simp [getM,ordersN,At]⟩) (fun c om hI => ?_)
   obtain ⟨hcP,hom⟩:=hI
   by_cases hc':c < P.length
   ·have hg1:((V.set im (.map (eIO om))).set ig (.cells [.slice (cII P) .no,ups, .map im])) ig=some (.cells [.slice (cII P) .no,ups, .map im]):=w7 ..
    have hm1:((V.set im (.map (eIO om))).set ig (.cells [.slice (cII P) .no,ups, .map im])) im=some (.map (eIO om)):=by rw [w8 _ _ hmg,w7]
    rcases Nat.eq_zero_or_pos c with rfl | hc0
    ·refine gf hPl ?_ o119 [40,11]
     refine Ab (QK ig im _ _ om _ hg1 hm1) (fun d S' hx => ?_) (fun d S' hx=>by cases hx.1)
     obtain ⟨hx,rfl⟩:=hx
     cases hx
     simp only [putD]
     refine gf hPl ?_ o119 [40,11]
     have hsub4:Sub ((V.set im (.map (eIO (putM 0 [0] om)))).set ig (.cells [.slice (cII P) .no,ups, .map im])) (((V.set im (.map (eIO om))).set ig (.cells [.slice (cII P) .no,ups, .map im])).set im (.map (eIO (putM 0 [0] om)))):=by
      intro k x hk;simp only [Sig.set] at hk ⊢; grind
     have hom' : ∀ p:Int,0<=p->getM [] p (putM 0 [0] om)=At (ordersN ps (0+1)) p:=fun p hp=>by
      rw [BP,ordersN,Fh _ _ hp,hom p hp];rfl
     exact ⟨0+1,putM 0 [0] om,⟨by omega,hom'⟩,td1,wkR⟩
    ·have hpc:P[c]=parentsF ps c:=hpar c hc'
     have hpp:=CE hb c
     rw [<- hpc] at hpp
     have hB : ∀ p:Int,0<=p->(At (ordersN ps c) p).length<=80000000:=fun p hp=>CI hb (by omega) hp
     have hcall:=Tz ig im P (ordersN ps c) ups om c .no ((V.set im (.map (eIO om))).set ig (.cells [.slice (cII P) .no,ups, .map im])) hgi hg1 hm1 hc' (by omega) (by omega) (by omega)
      (fun p hp=>hom p (by have:=hpp.2 p hp;omega)) (fun p hp=>by have:=hB p (by have:=hpp.2 p hp;omega);omega)
      (fun ls hls=>by
       have h1:=Fm hls (fun p hp=>hB p (by have:=hpp.2 p hp;omega))
       have h2:=hpp.1
       have h3:(P[c]).length*80000000<=3*80000000:=Nat.mul_le_mul_right _ h2
       omega)
     refine gf hPl ?_ o119 [40,11]
     refine Ab hcall (fun d S' hx => ?_) (fun d S' hx=>by cases hx.1)
     obtain ⟨hx,rfl⟩:=hx
     cases hx
     simp only [putD]
     have hstep : ∀ p:Int,0<=p->At (ordersN ps (c+1)) p=if p=c then Bq (ordersN ps c) c P[c] else At (ordersN ps c) p:=fun p hp=>by
      rw [ordersN,Fh _ _ hp,Bb,if_neg (by omega : ¬c=0), <- hpc]
     have hsub4 : ∀ om',Sub ((V.set im (.map (eIO om'))).set ig (.cells [.slice (cII P) .no,ups, .map im])) (((V.set im (.map (eIO om))).set ig (.cells [.slice (cII P) .no,ups, .map im])).set im (.map (eIO om'))):=by
      intro om' k x hk;simp only [Sig.set] at hk ⊢; grind
     by_cases he:Bq (ordersN ps c) c P[c]=[]
     ·rw [if_pos he]
      have hom' : ∀ p:Int,0<=p->getM [] p om=At (ordersN ps (c+1)) p:=fun p hp=>by
       rw [hstep p hp,hom p hp,he]
       split
       ·rename_i hpe
        unfold At;rw [List.getElem?_eq_none (by rw [Bb];omega)];rfl
       ·rfl
      refine gf hPl ?_ o119 [40,11]
      exact ⟨c+1,om,⟨by omega,hom'⟩,td1,wkR⟩
     ·rw [if_neg he]
      have hom' : ∀ p:Int,0<=p->getM [] p (putM c (Bq (ordersN ps c) c P[c]) om)=At (ordersN ps (c+1)) p:=fun p hp=>by
       rw [hstep p hp,BP,hom p hp]
      have hsub5:=hsub4 (putM c (Bq (ordersN ps c) c P[c]) om)
      refine gf hPl ?_ o119 [40,11]
      exact ⟨c+1,putM c (Bq (ordersN ps c) c P[c]) om,⟨by omega,hom'⟩,td1,wkR⟩
   ·have hce:c=3+ps.length:=by omega
    subst hce
    refine gf hPl ?_ o119 [40,11]
    exact fin2 (S':=(V.set im (.map (eIO om))).set ig (.cells [.slice (cII P) .no,ups, .map im])) ⟨ig,im,_,_,om,hgi,rfl,rfl,hgn,him',hom⟩
  rw [hes1,hes0]
  exact ⟨⟨Al _ (.inl rfl),trivial⟩,⟨Al _ (.inl rfl),trivial⟩,⟨Al _ (.inl rfl),trivial⟩,OO _⟩
def G9 (g:List (List Int)) (c:Int):List Int:=At (ordersN g (3+g.length)) c
def linE (g:List (List Int)) (c:Int):Int:=if Ck g=true/\0<=c/\c < 3+g.length then (if G9 g c=[] then 7 else 0) else 2
def linF (g:List (List Int)) (c:Int):List Int:=if Ck g=true/\0<=c/\c < 3+g.length then G9 g c else []
theorem VD (g:List (List Int)) (c:Int) (o:Own) (V:Sig) (hl:g.length<=1073741824:=by exact sd) (hl2 : ∀ x ∈ g,x.length<=1073741824:=by exact sd) :
  DCall prog 50 [.slice (cII g) o,dI c] V (rS (.tup [sl (cI (linF g c)),dI (linE g c)]) V):=by
 refine en func50 ntmps50 ?_
 by_cases hb:Ck g=true
 ·by_cases hc:0<=c/\c < 3+g.length
  ·try refine gz ?_
   refine Ab (U7 g [c] o .clip _ hb (by simpa using hc) hl hl2 (by simp)) (fun d S' hx => ?_) (fun d S' hx=>by obtain ⟨_,_,_,_,_,_,hx,_⟩:=hx;cases hx)
   obtain ⟨ig,im,a,b,om,hne,hx,rfl,hig,him,hom⟩:=hx
   cases hx
   simp only [putD]
   have hmg:im ≠ ig:=fun e=>hne e.symm
   have hsub:Sub V ((V.set im (.map (eIO om))).set ig (.cells [a,b, .map im])):=((Sub.refl _).set him).set hig
   have hlb:(G9 g c).length<=80000000:=CI hb (by omega) hc.1
   have hL:getM [] c om=G9 g c:=hom c hc.1
   try refine gf hmg ?_
   refine lkO ?_ (hi:=by rw [w8 _ _ hmg,w7])
   rw [hL]
   by_cases he:G9 g c=[]
   ·try refine gf (gi hmg he) ?_
    (refine fin2 (S':=V) (d':=sl []) ?_;exact ⟨by first | rfl | (simp [linF,linE,hb,hc,he];done) | (simp_all [linF,linE,hb,hc,he];done) | (rw [Aa,Bool.eq_iff_iff];simp_all [linF,linE,hb,hc,he]<;>omega),rfl⟩)
   ·repeat' first | refine gf hmg ?_ | apply gy<;>intro hh
    ·exfalso;exact he (by simpa using hh)
    ·refine lkO ?_ (hi:=by rw [w8 _ _ hmg,w7])
     rw [hL]
     repeat' first | refine gf hmg ?_ | refine AE (Hd (cI (G9 g c)) .no _ (by simp;omega) (BN _)) ?_ | refine callP (Hd (cI (G9 g c)) .no _ (by simp;omega) (BN _)) ?_ | refine gf hmg ?_ | apply gy<;>intro hh
     (refine fin2 (S':=V) ?_;exact ⟨by first | rfl | (simp [linF,linE,hb,hc,he];done) | (simp_all [linF,linE,hb,hc,he];done) | (rw [Aa,Bool.eq_iff_iff];simp_all [linF,linE,hb,hc,he]<;>omega),rfl⟩)
  ·repeat' first | refine gz ?_ | refine AE (PA g [c] o .clip _ hb (by simpa using hc) hl hl2 (by simp)) ?_ | refine callP (PA g [c] o .clip _ hb (by simpa using hc) hl hl2 (by simp)) ?_ | refine gz ?_ | apply gy<;>intro hh
   (refine fin2 (S':=V) (d':=sl []) ?_;exact ⟨by first | rfl | (simp [linF,linE,hb,hc];done) | (simp_all [linF,linE,hb,hc];done) | (rw [Aa,Bool.eq_iff_iff];simp_all [linF,linE,hb,hc]<;>omega),rfl⟩)
 ·repeat' first | refine gz ?_ | refine AE (PB g [c] o .clip _ (by simpa using hb) hl hl2 (by simp)) ?_ | refine callP (PB g [c] o .clip _ (by simpa using hb) hl hl2 (by simp)) ?_ | refine gz ?_ | apply gy<;>intro hh
  (refine fin2 (S':=V) (d':=sl []) ?_;exact ⟨by first | rfl | (simp [linF,linE,hb];done) | (simp_all [linF,linE,hb];done) | (rw [Aa,Bool.eq_iff_iff];simp_all [linF,linE,hb]<;>omega),rfl⟩)
@[reducible,instance] def a50:=fun g c o V=>ah2 (@VD g c o V)
theorem Ku : ∀ (n:Nat) (ls:List (List Int)) (out:List Int) (y:Int),y ∈ (En n ls out).1->y ∈ out \/ ∃ l ∈ ls,y ∈ l
 | 0,_,_,y,h => .inl h
 | n+1,ls,out,y,h=>by
  rw [En] at h
  cases hn:Ek ls false ls with
  | mk a s =>
   rw [hn] at h
   cases a with
   | none=>exact .inl h
   | some c =>
    obtain ⟨e,he,hce⟩:=Ej hn
    rcases Ku n _ _ y h with h | ⟨l,hl,hy⟩
    ·rcases List.mem_append.1 h with h | h
     ·exact .inl h
     ·rw [List.mem_singleton] at h;exact .inr ⟨e,he,h ▸ hce⟩
    ·obtain ⟨l',hl',rfl⟩:=List.mem_map.1 hl
     exact .inr ⟨l',hl',(List.mem_filter.1 hy).1⟩
theorem Kw {os:List (List Int)} : ∀ {ps:List Int} {ls:List (List Int)},CC os ps=some ls -> ∀ l ∈ ls, ∃ p ∈ ps,l=(At os p).filter fun x => !decide (x=0)
 | [],ls,h,l,hl=>by simp only [CC,Option.some.injEq] at h;subst h;cases hl
 | p::r,ls,h,l,hl=>by
  rw [CC] at h
  split at h
  ·cases h
  ·cases hr:CC os r with
   | none=>rw [hr] at h;cases h
   | some l2 =>
    rw [hr] at h
    simp only [Option.map_some,Option.some.injEq] at h
    subst h
    rcases List.mem_cons.1 hl with rfl | hl
    ·exact ⟨p,by simp,rfl⟩
    ·obtain ⟨q,hq,e⟩:=Kw hr l hl
     exact ⟨q,List.mem_cons_of_mem _ hq,e⟩
theorem Jg {os:List (List Int)} {ps:List Int} {ls:List (List Int)} (h:BA os ps=some ls) : ∀ l ∈ ls, ∀ y ∈ l,(∃ p ∈ ps,y ∈ At os p)\/y ∈ ps:=by
 unfold BA at h
 cases hr:CC os ps with
 | none=>rw [hr] at h;cases h
 | some l2 =>
  rw [hr] at h
  simp only [Option.map_some,Option.some.injEq] at h
  subst h
  intro l hl y hy
  rcases List.mem_append.1 hl with hl | hl
  ·obtain ⟨p,hp,rfl⟩:=Kw hr l hl
   exact .inl ⟨p,hp,(List.mem_filter.1 hy).1⟩
  ·rw [List.mem_singleton] at hl;exact .inr (hl ▸ hy)
theorem Gu {os:List (List Int)} {p:Int} {y:Int} (h:y ∈ At os p) : ∃ x ∈ os,y ∈ x:=by
 unfold At at h
 cases hx:os[p.toNat]? with
 | none=>rw [hx] at h;cases h
 | some x=>rw [hx] at h;exact ⟨x,List.mem_of_getElem? hx,h⟩
theorem Gt {g:List (List Int)} (hg:Ck g=true) : ∀ n, ∀ x ∈ ordersN g n, ∀ y ∈ x,0<=y/\y < (n:Int)
 | 0,x,hx=>by cases hx
 | n+1,x,hx=>by
  have ih:=Gt hg n
  rw [ordersN] at hx
  intro y hy
  rcases List.mem_append.1 hx with hx | hx
  ·have:=ih x hx y hy;omega
  ·rw [List.mem_singleton] at hx
   subst hx
   split at hy
   ·rw [List.mem_singleton] at hy;omega
   ·unfold Bq at hy
    cases hls:BA (ordersN g n) (parentsF g n) with
    | none=>rw [hls] at hy;cases hy
    | some ls =>
     rw [hls] at hy
     simp only at hy
     split at hy
     ·simp only [List.cons_append,List.mem_cons,List.mem_append,List.not_mem_nil,or_false] at hy
      rcases hy with rfl | hy | rfl
      ·omega
      ·rcases Ku _ _ _ y hy with h | ⟨l,hl,hyl⟩
       ·cases h
       ·rcases Jg hls l hl y hyl with ⟨p,_,h⟩ | h
        ·obtain ⟨z,hz,h⟩:=Gu h;have:=ih z hz y h;omega
        ·have:=(CE hg n).2 y h;omega
      ·omega
     ·cases hy
def ownO:Option Nat->Own
 | none => .clip
 | some i => .tag i
def sgO (V:Sig) (n:Nat):Option Nat->Sig
 | none=>V
 | some i=>V.set i (.tail 1 n)
attribute [simp] Bb
@[simp] theorem ownO_none:ownO none = .clip:=rfl
@[simp] theorem Fg (i:Nat):ownO (some i) = .tag i:=rfl
@[simp] theorem sgO_none (V:Sig) (n:Nat):sgO V n none=V:=rfl
@[simp] theorem GS (V:Sig) (n i:Nat):sgO V n (some i)=V.set i (.tail 1 n):=rfl
theorem M0 (g:List (List Int)) (o:Own) (V:Sig) (hb:Ck g=true) (hl : ∀ x ∈ g,x.length<=1073741824:=by exact sd) :
  DCall prog 67 [.slice (cII g) o] V (rS (sl (cII (ordersN g (3+g.length)))) V):=by
 have hlen:=FT hb
 refine en func67 ntmps67 ?_
 try refine gz ?_
 refine rtw 3 (.slice (cII (ordersN g 1)) .clip) ?_ (DA _ ⟨⟨Az _ _,trivial⟩,trivial⟩)
 refine AQ [0,2,43] (fun (n:Nat) (ow:Option Nat)=>1<=n/\n<=3+g.length /\ ∀ i,ow=some i->V i=none) (fun n ow=>[(4,dI n),(3, .slice (cII (ordersN g n)) (ownO ow))]) (fun n ow=>sgO V n ow) (fun n _=>3+g.length-n) (1) (none) (by exact ⟨by omega,by omega,by simp⟩) (fun n ow hI => ?_)
 obtain ⟨h1,h2,hi⟩:=hI
 by_cases hn:n < 3+g.length
 ·have hol:=Bb g n
  have hpp:=CE hb n
  have hB : ∀ p:Int,0<=p->(At (ordersN g n) p).length<=80000000:=fun p hp=>CI hb (by omega) hp
  have hBx : ∀ x ∈ ordersN g n,x.length<=1073741824:=fun x hx=>by
   obtain ⟨k,hk,rfl⟩:=List.getElem_of_mem hx
   have:=hB k (by omega)
   unfold At at this
   rw [show ((k:Int)).toNat=k by omega,List.getElem?_eq_getElem hk] at this
   simp only [Option.getD_some] at this
   omega
  have h153:=TS g (ordersN g n) n o (ownO ow) (sgO V n ow) (by omega) (by omega) (by have:=hpp.1;omega) (fun p hp=>by have:=hpp.2 p hp;rw [Bb];omega) (by rw [Bb];omega) hBx
  have hstep:ordersN g (n+1)=ordersN g n++[Bq (ordersN g n) n (parentsF g n)]:=by rw [ordersN,if_neg (by omega)]
  cases hls:BA (ordersN g n) (parentsF g n) with
  | none =>
   rw [hls] at h153
   have hx:Bq (ordersN g n) n (parentsF g n)=[]:=by rw [Bq,hls]
   repeat' first | refine gz ?_ | refine AE (h153) ?_ | refine callP (h153) ?_ | refine gz ?_ | apply gy<;>intro hh
   refine rtl 41 (.slice [[sl (cI [])]] .clip) ?_ (DA _ ⟨⟨Al _ (.inl rfl),trivial⟩,trivial⟩)
   have hw' : ∀ i,WkD (.slice (cII (ordersN g n)++[[sl (cI (Bq (ordersN g n) n (parentsF g n)))]]) (.tag i)) (.slice (cII (ordersN g (n+1))) (ownO (some i))):=fun i=>B0 (by rw [hstep];simp [cII])
   rw [hx] at hw'
   rcases ow with _ | i
   ·refine appC (fun i hi' => ?_) (hlen:=BB _)
    have hw:=hw' i
    have hsub:Sub (sgO V (n+1) (some i)) ((sgO V n none).set i (.tail (tab 23).size ((cII (ordersN g n)).length+[[sl (cI [])]].length))):=Be (by simp [hol])
    try refine gz ?_
    exact ⟨n+1,some i,⟨by omega,by omega,fun _ e=>by cases e;exact hi'⟩,td1,wkR⟩
   ·have hw:=hw' i
    simp only [Fg,GS]
    try refine gz ?_
    exact ⟨n+1,some i,⟨by omega,by omega,fun _ e=>by cases e;exact hi i rfl⟩,td1,wkR⟩
  | some ls =>
   rw [hls] at h153
   have hT:=Fm hls (fun p hp=>hB p (by have:=hpp.2 p hp;omega))
   have h3:(parentsF g n).length*80000000<=3*80000000:=Nat.mul_le_mul_right _ hpp.1
   have h4:=hpp.1
   have h154:=TR ls .no (sgO V n ow) (fun x hx y hy=>by
    rcases Jg hls x hx y hy with ⟨p,_,h⟩ | h
    ·obtain ⟨z,hz,h⟩:=Gu h;exact (Gt hb n z hz y h).1
    ·have:=hpp.2 y h;omega) (by omega) (by omega)
   have hml:=E6 ls
   by_cases hm0:(BJ ls).1=[]
   ·repeat' first | refine gz ?_ | refine AE (h153) ?_ | refine callP (h153) ?_ | refine AE (h154) ?_ | refine callP (h154) ?_ | refine gz ?_ | apply gy<;>intro hh
    ·have hx:Bq (ordersN g n) n (parentsF g n)=[(n:Int),0]:=by rw [Bq,hls];simp [hh,hm0]
     refine app0 ?_
     try refine gz ?_
     refine appCW (fun j hj => ?_)
     try refine gz ?_
     refine rtl 41 (.slice [[sl (cI [(n:Int),0])]] .clip) ?_
     refine drp (sgO V n ow) ?_ ((Sub.refl _).set hj)
     have hw' : ∀ i,WkD (.slice (cII (ordersN g n)++[[sl (cI (Bq (ordersN g n) n (parentsF g n)))]]) (.tag i)) (.slice (cII (ordersN g (n+1))) (ownO (some i))):=fun i=>B0 (by rw [hstep];simp [cII])
     rw [hx] at hw'
     rcases ow with _ | i
     ·refine appC (fun i hi' => ?_) (hlen:=BB _)
      have hw:=hw' i
      have hsub:Sub (sgO V (n+1) (some i)) ((sgO V n none).set i (.tail (tab 23).size ((cII (ordersN g n)).length+[[sl (cI [])]].length))):=Be (by simp [hol])
      try refine gz ?_
      exact ⟨n+1,some i,⟨by omega,by omega,fun _ e=>by cases e;exact hi'⟩,td1,wkR⟩
     ·have hw:=hw' i
      simp only [Fg,GS]
      try refine gz ?_
      exact ⟨n+1,some i,⟨by omega,by omega,fun _ e=>by cases e;exact hi i rfl⟩,td1,wkR⟩
    ·have hx:Bq (ordersN g n) n (parentsF g n)=[]:=by rw [Bq,hls];simp [hh]
     refine rtl 41 (.slice [[sl (cI [])]] .clip) ?_ (DA _ ⟨⟨Al _ (.inl rfl),trivial⟩,trivial⟩)
     have hw' : ∀ i,WkD (.slice (cII (ordersN g n)++[[sl (cI (Bq (ordersN g n) n (parentsF g n)))]]) (.tag i)) (.slice (cII (ordersN g (n+1))) (ownO (some i))):=fun i=>B0 (by rw [hstep];simp [cII])
     rw [hx] at hw'
     rcases ow with _ | i
     ·refine appC (fun i hi' => ?_) (hlen:=BB _)
      have hw:=hw' i
      have hsub:Sub (sgO V (n+1) (some i)) ((sgO V n none).set i (.tail (tab 23).size ((cII (ordersN g n)).length+[[sl (cI [])]].length))):=Be (by simp [hol])
      try refine gz ?_
      exact ⟨n+1,some i,⟨by omega,by omega,fun _ e=>by cases e;exact hi'⟩,td1,wkR⟩
     ·have hw:=hw' i
      simp only [Fg,GS]
      try refine gz ?_
      exact ⟨n+1,some i,⟨by omega,by omega,fun _ e=>by cases e;exact hi i rfl⟩,td1,wkR⟩
   ·repeat' first | refine gz ?_ | refine AE (h153) ?_ | refine callP (h153) ?_ | refine AE (h154) ?_ | refine callP (h154) ?_ | refine gz ?_ | apply gy<;>intro hh
    ·have hx:Bq (ordersN g n) n (parentsF g n)=(n:Int)::(BJ ls).1++[0]:=by rw [Bq,hls];simp [hh]
     refine appC (fun j hj => ?_) (hne:=by simp [cI];exact hm0)
     try refine gz ?_
     refine rtl 41 (.slice [[sl (cI ((n:Int)::(BJ ls).1++[0]))]] .clip) ?_ (DA _ ⟨⟨C6 _ (by simp [cI]),trivial⟩,trivial⟩)
     refine drp (sgO V n ow) ?_ ((Sub.refl _).set hj)
     have hw' : ∀ i,WkD (.slice (cII (ordersN g n)++[[sl (cI (Bq (ordersN g n) n (parentsF g n)))]]) (.tag i)) (.slice (cII (ordersN g (n+1))) (ownO (some i))):=fun i=>B0 (by rw [hstep];simp [cII])
     rw [hx] at hw'
     rcases ow with _ | i
     ·refine appC (fun i hi' => ?_) (hlen:=BB _)
      have hw:=hw' i
      have hsub:Sub (sgO V (n+1) (some i)) ((sgO V n none).set i (.tail (tab 23).size ((cII (ordersN g n)).length+[[sl (cI [])]].length))):=Be (by simp [hol])
      try refine gz ?_
      exact ⟨n+1,some i,⟨by omega,by omega,fun _ e=>by cases e;exact hi'⟩,td1,wkR⟩
     ·have hw:=hw' i
      simp only [Fg,GS]
      try refine gz ?_
      exact ⟨n+1,some i,⟨by omega,by omega,fun _ e=>by cases e;exact hi i rfl⟩,td1,wkR⟩
    ·have hx:Bq (ordersN g n) n (parentsF g n)=[]:=by rw [Bq,hls];simp [hh]
     refine rtl 41 (.slice [[sl (cI [])]] .clip) ?_ (DA _ ⟨⟨Al _ (.inl rfl),trivial⟩,trivial⟩)
     have hw' : ∀ i,WkD (.slice (cII (ordersN g n)++[[sl (cI (Bq (ordersN g n) n (parentsF g n)))]]) (.tag i)) (.slice (cII (ordersN g (n+1))) (ownO (some i))):=fun i=>B0 (by rw [hstep];simp [cII])
     rw [hx] at hw'
     rcases ow with _ | i
     ·refine appC (fun i hi' => ?_) (hlen:=BB _)
      have hw:=hw' i
      have hsub:Sub (sgO V (n+1) (some i)) ((sgO V n none).set i (.tail (tab 23).size ((cII (ordersN g n)).length+[[sl (cI [])]].length))):=Be (by simp [hol])
      try refine gz ?_
      exact ⟨n+1,some i,⟨by omega,by omega,fun _ e=>by cases e;exact hi'⟩,td1,wkR⟩
     ·have hw:=hw' i
      simp only [Fg,GS]
      try refine gz ?_
      exact ⟨n+1,some i,⟨by omega,by omega,fun _ e=>by cases e;exact hi i rfl⟩,td1,wkR⟩
 ·have hne:n=3+g.length:=by omega
  subst hne
  have hsub:Sub V (sgO V (3+g.length) ow):=by
   rcases ow with _ | i
   ·exact Sub.refl _
   ·exact (Sub.refl _).set (hi i rfl)
  try refine gz ?_
  exact fe1 (d':=sl (cII (ordersN g (3+g.length)))) trivial
@[reducible,instance] def a67:=fun g o V=>ah2 (@M0 g o V)
theorem VI (g:List (List Int)) (c:Int) (o:Own) (V:Sig) (hb:Ck g=true) (hc:0<=c/\c < 3+g.length) (hl : ∀ x ∈ g,x.length<=1073741824:=by exact sd) :
  DCall prog 33 [.slice (cII g) o,dI c] V (rS (.tup [sl (cI (G9 g c)), .bool (decide (0 < (G9 g c).length))]) V):=by
 obtain ⟨k,rfl⟩ : ∃ k:Nat,c=(k:Int):=⟨c.toNat,by omega⟩
 have hk:k < 3+g.length:=by omega
 have hlen:=FT hb
 have hL:(ordersN g (3+g.length))[k]'(by simpa using hk)=G9 g k:=by
  unfold G9 At
  rw [show ((k:Int)).toNat=k by omega,List.getElem?_eq_getElem (by simpa using hk)];rfl
 have hlb:(G9 g k).length<=80000000:=CI hb (by omega) hc.1
 have hol:=Bb g (3+g.length)
 refine en func33 ntmps33 ?_
 repeat' first | refine gf hL ?_ | refine AE (M0 g o V hb hl) ?_ | refine callP (M0 g o V hb hl) ?_ | refine gf hL ?_ | apply gy<;>intro hh
 exact fe2 trivial
def BG (bs:List Bool):List D:=bs.map .bool
@[simp] theorem W2 (bs:List Bool):(BG bs).length=bs.length:=by simp [BG]
@[simp] theorem boolsD_get (bs:List Bool) (k:Nat):(BG bs)[k]? = (bs[k]?).map .bool:=by simp [BG]
theorem Rd (bs:List Bool) (k:Nat) (b:Bool):(BG bs).set k (.bool b)=BG (bs.set k b):=by simp [BG]
@[simp] theorem boolsD_put (bs:List Bool) (k:Nat) (b:Bool) (h:k < bs.length):(BG bs).take k ++ .bool b::(BG bs).drop (k+1)=BG (bs.set k b):=by
 rw [<- Rd,List.set_eq_take_append_cons_drop,if_pos (by simpa using h)]
def GV:Int->List Int->Option Int
 | n,[]=>some n
 | n,s::r=>if s=n then GV (n+1) r else none
mutual
theorem Fact.size_le : ∀ f:Fact,f.size<=f.wt
 | .mk o a p c n k=>by
  have:=Fact.sizes_le k
  rw [Fact.size,Fact.wt];omega
theorem Fact.sizes_le : ∀ l:List Fact,Fact.sizes l<=Fact.wts l
 | []=>Nat.le_refl _
 | f::l=>by
  have h1:=Fact.size_le f
  have h2:=Fact.sizes_le l
  rw [Fact.sizes,Fact.wts];omega
end
theorem G3 (s:List Int):(cI s).flatten=s.map dI:=by
 induction s with
 | nil=>rfl
 | cons x s ih=>rw [show cI (x::s)=[dI x]::cI s from rfl,List.flatten_cons,ih];rfl
end Go.DL
namespace Go.DL
open Go.Proofs.Tryz
open Go Go.Proofs
set_option maxHeartbeats 4000000
theorem W9 {x y:Init} (h1:x.slot=y.slot) (h2:x.n=y.n):x=y:=by cases x;cases y;simp_all
theorem Pt (a b:List Init) (o o':Own) (V:Sig) (hl:a.length<=1073741824:=by exact sd) (hl':b.length<=1073741824:=by exact sd) :
  DCall prog 27 [.slice (a.map Dg) o, .slice (b.map Dg) o'] V (rS (.bool (decide (a=b))) V):=by
 refine en func27 ntmps27 ?_
 repeat' first | refine gz ?_ o27 | apply gy<;>intro hh
 ·have hne:a ≠ b:=fun e=>hh (by rw [e])
  exact fe1 hne
 have hab:=hh
 refine Bz [0,1] (fun (k:Nat)=>k<=a.length/\(a=b ↔ a.drop k=b.drop k)) (fun k=>[(5,dI k)]) (fun _=>V) (fun k=>a.length-k) (0) (by simp) (fun k hI => ?_)
 obtain ⟨hk,hR⟩:=hI
 by_cases h:k < a.length
 ·have hb:k < b.length:=by omega
  rw [A3 h,A3 hb] at hR
  repeat' first | refine gf h ?_ o27 | apply gy<;>intro hh
  ·have hne:a ≠ b:=fun e=>by
    subst e
    simp at hh
   exact fe1 hne
  ·exact ⟨k+1,by (try simp at hh);exact ⟨by omega,by rw [hR];simp only [List.cons.injEq];exact ⟨fun e=>e.2,fun e=>⟨W9 hh.1 hh.2,e⟩⟩⟩,td1,wkR⟩
 ·have he:a=b:=hR.2 (by rw [A2 (by omega),A2 (by omega)])
  refine gf h ?_ o27
  exact fe1 he
@[reducible,instance] def a27:=fun a b o o' V=>ah2 (@Pt a b o o' V)
def idxF {α:Type} (q:α->Bool):List α->Nat->Int
 | [],_ => -1
 | x::r,k=>if q x then k else idxF q r (k+1)
theorem DW {α:Type} (q:α->Bool) : ∀ (l:List α) (k:Nat),decide (0<=idxF q l k)=l.any q
 | [],_=>rfl
 | x::r,k=>by
  rw [idxF,List.any_cons]
  cases hq:q x
  ·simp only [Bool.false_eq_true,if_false,Bool.false_or];exact DW q r (k+1)
  ·simp
theorem Nh (l:List Str) (q:Str->Bool) (g:Nat) (cap:List D) (o:Own) (V:Sig) (hl:l.length<=1073741824)
  (hg : ∀ x ∈ l,DCall prog g ([]++[.str x]++cap) V fun r S''=>r = .ret (.bool (q x))/\S''=V) :
  DCall prog 304 [.slice (cS l) o, .func (.func g) [] cap] V (rS (dI (idxF q l 0)) V):=by
 refine en func304 ntmps304 ?_
 refine gz ?_
 refine Bz [0,1,7] (fun (k:Nat)=>k<=l.length/\idxF q l 0=idxF q (l.drop k) k) (fun k=>[(8,dI k)]) (fun _=>V) (fun k=>l.length-k) (0) td3 (fun k hI => ?_)
 obtain ⟨hk,hR⟩:=hI
 by_cases h:k < l.length
 ·rw [A3 h,idxF] at hR
  repeat' first | refine AE (hg (l[k]) (List.getElem_mem h)) ?_ | refine callP (hg (l[k]) (List.getElem_mem h)) ?_ | refine gf h ?_ | apply gy<;>intro hh
  ·exact fe1 hR
  ·exact ⟨k+1,⟨by omega,by rw [hR,hh];rfl⟩,td1,wkR⟩
 ·refine gf h ?_
  (refine fin1 (S':=V) ?_;exact ⟨by first | rfl | (simp [hR,A2 h,idxF];done) | (simp_all [hR,A2 h,idxF];done) | (rw [Aa,Bool.eq_iff_iff];simp_all [hR,A2 h,idxF]<;>omega),rfl⟩)
theorem Nk (l:List Str) (q:Str->Bool) (g:Nat) (cap:List D) (o:Own) (V:Sig) (hl:l.length<=1073741824)
  (hg : ∀ x ∈ l,DCall prog g ([]++[.str x]++cap) V fun r S''=>r = .ret (.bool (q x))/\S''=V) :
  DCall prog 280 [.slice (cS l) o, .func (.func g) [] cap] V (rS (.bool (l.any q)) V):=by
 refine en func280 ntmps280 ?_
 repeat' first | refine gz ?_ | refine AE (Nh l q g cap o V hl hg) ?_ | refine callP (Nh l q g cap o V hl hg) ?_ | refine gz ?_ | apply gy<;>intro hh
 (refine fin1 (S':=V) ?_;exact ⟨by first | rfl | (simp [DW];done) | (simp_all [DW];done) | (rw [Aa,Bool.eq_iff_iff];simp_all [DW]<;>omega),rfl⟩)
theorem Nj (q:Str->Bool) (g:Nat) (cap:List D) (x:Str) (V:Sig)
  (hg:DCall prog g ([]++[.str x]++cap) V fun r S''=>r = .ret (.bool (q x))/\S''=V) :
  DCall prog 281 [.str x, .cptr [.func (.func g) [] cap] 0] V (rS (.bool (!q x)) V):=by
 refine en func281 ntmps281 ?_
 repeat' first | refine AE (hg) ?_ | refine callP (hg) ?_ | refine gz ?_ | apply gy<;>intro hh
 exact fe1 trivial
theorem Nn (l:List Str) (q:Str->Bool) (g:Nat) (cap:List D) (o:Own) (V:Sig) (hl:l.length<=1073741824)
  (hg : ∀ x ∈ l,DCall prog g ([]++[.str x]++cap) V fun r S''=>r = .ret (.bool (q x))/\S''=V) :
  DCall prog 242 [.slice (cS l) o, .func (.func g) [] cap] V (rS (.bool (l.all q)) V):=by
 refine en func242 ntmps242 ?_
 repeat' first | refine gz ?_ | refine AE (Nk l (fun x => !q x) 281 [.cptr [.func (.func g) [] cap] 0] o V hl (fun x hx=>Nj q g cap x V (hg x hx))) ?_ | refine callP (Nk l (fun x => !q x) 281 [.cptr [.func (.func g) [] cap] 0] o V hl (fun x hx=>Nj q g cap x V (hg x hx))) ?_ | refine gz ?_ | apply gy<;>intro hh
 (refine fin1 (S':=V) ?_;exact ⟨by first | rfl | (simp [List.not_all_eq_any_not];done) | (simp_all [List.not_all_eq_any_not];done) | (rw [Aa,Bool.eq_iff_iff];simp_all [List.not_all_eq_any_not]<;>omega),rfl⟩)
end Go.DL
namespace Go.DL
open Go.Proofs.Tryz
open Go Go.Proofs
set_option maxHeartbeats 8000000
def NB {α:Type}:Option α->Int
 | some _=>0
 | none=>2
theorem Tg (p:FProg) (s:Str) (V:Sig) (hp:p.wt<=1073741824:=by exact sd):DCall prog 248 [.agg (B3 p), .str s] V (rS (dI (idxF (fun c:FClass=>decide (c.name=s)) p.classes 0)) V):=by
 obtain ⟨p1,p2,p3,p4,p5⟩:=p.wt_le
 refine en func248 ntmps248 ?_
 refine gz ?_
 refine Bz [1,2] (fun (k:Nat)=>k<=p.classes.length/\idxF (fun c:FClass=>decide (c.name=s)) p.classes 0=idxF (fun c:FClass=>decide (c.name=s)) (p.classes.drop k) k) (fun k=>[(5,dI k)]) (fun _=>V) (fun k=>p.classes.length-k) (0) td3 (fun k hI => ?_)
 obtain ⟨hk,hR⟩:=hI
 by_cases h:k < p.classes.length
 ·rw [A3 h,idxF] at hR
  repeat' first | refine gz ?_ | apply gy<;>intro hh
  ·exact fe1 hR
  ·exact ⟨k+1,⟨by omega,by rw [hR];simp_all⟩,td1,wkR⟩
 ·rw [A2 h,idxF] at hR
  refine gz ?_
  exact fe1 hR
@[reducible,instance] def a248:=fun p s V=>ah1 (@Tg p s V)
def difE:List Str->List Str->Bool
 | _,[]=>true
 | seen,x::r => !decide (x ∈ seen) && difE (seen++[x]) r
theorem Tx (l:List Str) (o:Own) (V:Sig) (hl:l.length<=1073741824:=by exact sd):DCall prog 203 [.slice (cS l) o] V (rS (.bool (difE [] l)) V):=by
 refine en func203 ntmps203 ?_
 refine gz ?_ o203
 refine Bz [0] (fun (k:Nat)=>k<=l.length/\difE [] l=difE (l.take k) (l.drop k)) (fun k=>[(3,dI k)]) (fun _=>V) (fun k=>l.length-k) (0) (by simp) (fun k hI => ?_)
 obtain ⟨hk,hR⟩:=hI
 by_cases h:k < l.length
 ·rw [A3 h,difE, <- AP h] at hR
  repeat' first | refine gz ?_ o203 | apply gy<;>intro hh
  ·exact fe1 hR
  ·exact ⟨k+1,⟨by omega,by rw [hR];simp_all⟩,td1,wkR⟩
 ·rw [A2 h,difE] at hR
  refine gz ?_ o203
  exact fe1 hR
@[reducible,instance] def a203:=fun l o V=>ah1 (@Tx l o V)
def D5 (l:List Str):Bool:=l.all AM && difE [] l
theorem Tv (l:List Str) (o:Own) (V:Sig) (hl:l.length<=1073741824:=by exact sd) (hx : ∀ x ∈ l,x.length<=1073741824):DCall prog 205 [.slice (cS l) o] V (rS (.bool (D5 l)) V):=by
 refine en func205 ntmps205 ?_
 refine gz ?_
 refine Bz [0,16,17] (fun (k:Nat)=>k<=l.length/\l.all AM=(l.drop k).all AM) (fun k=>[(3,dI k)]) (fun _=>V) (fun k=>l.length-k) (0) (by simp) (fun k hI => ?_)
 obtain ⟨hk,hR⟩:=hI
 by_cases h:k < l.length
 ·have hxk:=hx _ (List.getElem_mem h)
  rw [A3 h,List.all_cons] at hR
  repeat' first | refine gz ?_ | apply gy<;>intro hh
  ·rw [hh,Bool.false_and] at hR
   (refine fin1 (S':=V) ?_;exact ⟨by unfold D5;rw [hR];rfl,rfl⟩)
  ·exact ⟨k+1,⟨by omega,by rw [hR];simp_all⟩,td1,wkR⟩
 ·rw [A2 h] at hR
  refine gz ?_
  (refine fin1 (S':=V) ?_;exact ⟨by first | rfl | (simp [D5,hR];done) | (simp_all [D5,hR];done) | (rw [Aa,Bool.eq_iff_iff];simp_all [D5,hR]<;>omega),rfl⟩)
@[reducible,instance] def a205:=fun l o V=>ah2 (@Tv l o V)
end Go.DL
namespace Go.DL
open Go.Proofs.Tryz
open Go Go.Proofs
set_option maxHeartbeats 4000000
mutual
def Fact.beq:Fact->Fact->Bool
 | .mk o a p c n k,g=>decide (o=g.op) && decide (a=g.arg) && decide (c=g.cls) && decide (n=g.n) && (p==g.path) && decide (k.length=g.kids.length) && Fact.beqs k g.kids
def Fact.beqs:List Fact->List Fact->Bool
 | f::l,g::m=>f.beq g && Fact.beqs l m
 | _,_=>true
end
theorem Fact.beq_eq (f g:Fact):f.beq g=(decide (f.op=g.op) && decide (f.arg=g.arg) && decide (f.cls=g.cls) && decide (f.n=g.n) && (f.path==g.path) && decide (f.kids.length=g.kids.length) && Fact.beqs f.kids g.kids):=by cases f;rw [Fact.beq];rfl
theorem M1 (f g:Fact) (V:Sig) (hf:f.wt<=1073741824:=by exact sd) :
  DCall prog 55 [.agg (Br f), .agg (Br g)] V (rS (.bool (f.beq g)) V):=by
 obtain ⟨hw1,hw2,hw3⟩:=f.wt_le
 have hp1:f.path.length<=1073741824:=by omega
 refine en func55 ntmps55 ?_
 repeat' first | refine gz ?_ o55 | apply gy<;>intro hh
 any_goals (first | (refine fin1 (S':=V) ?_;exact ⟨by first | rfl | (simp [Fact.beq_eq];done) | (simp_all [Fact.beq_eq];done) | (rw [Aa,Bool.eq_iff_iff];simp_all [Fact.beq_eq]<;>omega),rfl⟩) | fail)
 refine Bz [2,3,51] (fun (k:Nat)=>k<=f.kids.length/\f.beq g=Fact.beqs (f.kids.drop k) (g.kids.drop k)) (fun k=>[(52,dI k)]) (fun _=>V) (fun k=>f.kids.length-k) (0) (by simp_all [Fact.beq_eq]) (fun k hI => ?_)
 obtain ⟨hk,hR⟩:=hI
 have hgk:f.kids.length=g.kids.length:=by assumption
 by_cases h:k < f.kids.length
 ·rw [A3 h,A3 (l:=g.kids) (by omega),Fact.beqs] at hR
  have hks:=hw3 k h
  repeat' first | refine gf h ?_ | refine moR (M1 (f.kids[k]) (g.kids[k]) V (by omega)) ?_ | refine moP (M1 (f.kids[k]) (g.kids[k]) V (by omega)) ?_ | refine gf h ?_ o55 | apply gy<;>intro hh
  ·exact fe1 hR
  ·exact ⟨k+1,by simp_all;omega,td1,wkR⟩
 ·refine gf h ?_ o55
  (refine fin1 (S':=V) ?_;exact ⟨by first | rfl | (simp [hR,A2 h,Fact.beqs];done) | (simp_all [hR,A2 h,Fact.beqs];done) | (rw [Aa,Bool.eq_iff_iff];simp_all [hR,A2 h,Fact.beqs]<;>omega),rfl⟩)
termination_by SizeOf.sizeOf f
decreasing_by exact Fact.lt (List.getElem_mem _)
@[reducible,instance] def a55:=fun f g V=>ah1 (@M1 f g V)
end Go.DL
namespace Go.DL
open Go.Proofs.Tryz
open Go Go.Proofs
set_option maxHeartbeats 8000000
def OutO {S:Type} (u r:D) (Good:Sig->S->Prop) (Bad:Sig->Prop) (touch:Nat->Prop) (V:Sig):Option S->DE->Sig->Prop
 | none,x,S'=>x = .panic u/\Bad S'
 | some s,x,S'=>x = .ret r/\Good S' s /\ ∀ j o,V j=some o -> ¬ touch j->S' j=some o
theorem OutO.ret {S:Type} {u r d:D} {Good:Sig->S->Prop} {Bad:Sig->Prop} {touch:Nat->Prop} {V S':Sig} {o:Option S} (h:OutO u r Good Bad touch V o (.ret d) S') : ∃ s,o=some s/\d=r/\Good S' s /\ ∀ j o,V j=some o -> ¬ touch j->S' j=some o:=by
 cases o with
 | none=>exact absurd h.1 (by simp)
 | some s=>exact ⟨s,rfl,by simpa using h.1,h.2⟩
theorem OutO.pan {S:Type} {u r d:D} {Good:Sig->S->Prop} {Bad:Sig->Prop} {touch:Nat->Prop} {V S':Sig} {o:Option S} (h:OutO u r Good Bad touch V o (.panic d) S'):o=none/\d=u/\Bad S':=by
 cases o with
 | none=>exact ⟨rfl,by simpa using h.1,h.2⟩
 | some s=>exact absurd h.1 (by simp)
section
variable {S:Type}
def LP (f:Int->Int->S->Option S) (x:BNode) (size:Int):Nat->List Int->S->Option S
 | _,[],s=>some s
 | j,c::r,s=>match f c (if x.op=9/\j=1 then size+1 else size) s with
  | none=>none
  | some s'=>LP f x size (j+1) r s'
def GG (p:BProg) (step:Nat->Int->Int->S->Option S):Nat->Int->Int->S->Option S
 | 0,_,_,_=>none
 | k+1,node,size,s=>match step (k+1) node size s with
  | none=>none
  | some s'=>LP (GG p step k) (Au p node) size 0 (Au p node).kids s'
end
theorem TM {S:Type} (p:BProg) (l i:Nat) (Good:Sig->S->Prop) (Bad:Sig->Prop) (touch:Nat->Prop) (step:Nat->Int->Int->S->Option S) (hp:p.wt<=1073741824) (hti : ¬ touch i)
  (hs0 : ∀ node size s,step 0 node size s=none) (hsn : ∀ k node size s s',step k node size s=some s'->0<=node/\node < p.nodes.length)
  (hy : ∀ (k:Nat) (d node size:Int) V s,d=13-(k:Int)->0<=size->size+k<=1000->Good V s->DYield prog l [dI node, .agg [dI size,dI d]] V (OutO unf (.bool true) Good Bad touch V (step k node size s))) :
  ∀ (k:Nat) (d node size:Int) V s,d=13-(k:Int)->0<=size->size+k<=1000->k<=13->Good V s->V i=some (.cells [.func (.func 171) [] [.cptr [.yld l] 0, .cptr (AC p) 0, .ptr i 0]]) ->
   DCall prog 171 [dI node, .agg [dI size,dI d], .cptr [.yld l] 0, .cptr (AC p) 0, .ptr i 0] V (OutO unf (.bool true) Good Bad touch V (GG p step k node size s)):=by
 obtain ⟨p1,p2,p3,p4,p5,p6,p7⟩:=p.wt_le
 intro k
 induction k with
 | zero =>
  intro d node size V s hd h0 hsz hk hG hi
  refine en func171 ntmps171 ?_
  refine gz ?_
  refine yldW (hy 0 d node size V s hd h0 hsz hG) (fun e S' hr => ?_) (fun e S' hr => ?_)
  ·rw [hs0] at hr;obtain ⟨_,h,_⟩:=hr.ret;cases h
  ·obtain ⟨_,rfl,hb⟩:=hr.pan
   exact finP (S':=S') ⟨rfl,hb⟩
 | succ k ih =>
  intro d node size V s hd h0 hsz hk hG hi
  refine en func171 ntmps171 ?_
  refine gz ?_ [] [10]
  refine yldW (hy (k+1) d node size V s hd h0 hsz hG) (fun e S' hr => ?_) (fun e S' hr => ?_)
  ·obtain ⟨s',hst,rfl,hG',hK⟩:=hr.ret
   obtain ⟨hn0,hn1⟩:=hsn _ _ _ _ _ hst
   obtain ⟨q,rfl⟩ : ∃ q:Nat,node=(q:Int):=⟨node.toNat,by omega⟩
   have hq:q < p.nodes.length:=by omega
   have hi':=hK i _ hi hti
   have hna:Au p q=p.nodes[q]:=by unfold Au;simp [List.getElem?_eq_getElem hq]
   have hW:GG p step (k+1) q size s=LP (GG p step k) p.nodes[q] size 0 (p.nodes[q]).kids s':=by rw [GG,hst];simp only;rw [hna]
   rw [hW]
   have hkl:(p.nodes[q]).kids.length<=1073741824:=by have:=p7 q hq;unfold BNode.wt at this;omega
   generalize hx:p.nodes[q]=x at *
   refine gf hx ?_ [] [10]
   refine De [0,3,4,6,21,22] (fun (j:Nat) (s1:S) (S1:Sig)=>j<=x.kids.length/\Good S1 s1/\LP (GG p step k) x size 0 x.kids s'=LP (GG p step k) x size j (x.kids.drop j) s1/\(∀ j o,V j=some o -> ¬ touch j->S1 j=some o)) (fun j _ _=>[(23,dI j)]) (fun _ _ S1=>S1) (fun j _ _=>x.kids.length-j) (0) (s') (S') (by exact ⟨by omega,hG',by simp,hK⟩) (fun j s1 S1 hI => ?_)
   obtain ⟨hj,hG1,hR,hK1⟩:=hI
   have hi1:=hK1 i _ hi hti
   by_cases hj':j < x.kids.length
   ·rw [A3 hj',LP] at hR
    have hkb:(k:Int)<=12:=by omega
    refine gf (gi hx hi1) ?_ [] [10]
    refine newV (fun a ha => ?_)
    have hia:i ≠ a:=fun e=>by rw [e,ha] at hi1;cases hi1
    have hz:0<=(if x.op=9/\j=1 then size+1 else size)/\(if x.op=9/\j=1 then size+1 else size)+(k:Int)<=1000:=by split<;>omega
    have hc:=ih (d+1) x.kids[j] (if x.op=9/\j=1 then size+1 else size) S1 s1 (by omega) hz.1 hz.2 (by omega) hG1 hi1
    by_cases hl:x.op=9/\j=1
    ·rw [if_pos hl] at hR hc
     obtain ⟨hl1,rfl⟩:=hl
     refine gf (gi hx (gi hi1 (gi hl1 hia))) ?_ [] [10]
     refine drp S1 ?_
     refine Ab hc (fun e S2 hr => ?_) (fun e S2 hr => ?_)
     ·obtain ⟨s2,hs2,rfl,hG2,hK2⟩:=hr.ret
      rw [hs2] at hR
      refine gz ?_ [] [10]
      exact ⟨1+1,s2,S2,⟨by omega,hG2,hR,fun j o h1 h2=>hK2 _ _ (hK1 _ _ h1 h2) h2⟩,td1,wkR⟩
     ·obtain ⟨hn,rfl,hb⟩:=hr.pan
      rw [hn] at hR;rw [hR]
      exact finP (S':=S2) ⟨rfl,hb⟩
    ·rw [if_neg hl] at hR hc
     have hl2 : ¬ (x.op=9/\(j:Int)=1):=by omega
     repeat' first | refine gf (gi hx (gi hi1 hia)) ?_ [] [10] | apply gy<;>intro hh
     all_goals
      refine drp S1 ?_
      refine Ab hc (fun e S2 hr => ?_) (fun e S2 hr => ?_)
      ·obtain ⟨s2,hs2,rfl,hG2,hK2⟩:=hr.ret
       rw [hs2] at hR
       refine gz ?_ [] [10]
       exact ⟨j+1,s2,S2,⟨by omega,hG2,hR,fun j o h1 h2=>hK2 _ _ (hK1 _ _ h1 h2) h2⟩,td1,wkR⟩
      ·obtain ⟨hn,rfl,hb⟩:=hr.pan
       rw [hn] at hR;rw [hR]
       exact finP (S':=S2) ⟨rfl,hb⟩
   ·rw [A2 hj',LP] at hR
    rw [hR]
    refine gf hx ?_ [] [10]
    refine fin1 (S':=S1) ?_
    exact ⟨rfl,hG1,hK1⟩
  ·obtain ⟨hst,rfl,hb⟩:=hr.pan
   have hW:GG p step (k+1) node size s=none:=by rw [GG,hst]
   rw [hW]
   exact finP (S':=S') ⟨rfl,hb⟩
end Go.DL
