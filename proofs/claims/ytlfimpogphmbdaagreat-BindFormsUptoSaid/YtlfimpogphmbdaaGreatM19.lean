/- Part of the proof that the last text ends. -/
import Derived.Test.YtlfimpogphmbdaaGreatM18
set_option linter.all false
namespace Go.DL
open Go.Proofs.Tryz
open Go Go.Proofs
set_option maxHeartbeats 8000000
theorem Jq{i:Nat}: ∀{l seen:List Int},DA i seen l=true->∀p∈l,3<=p/\p<3+i
 |[],_,_,p,hp=>by simp at hp
 |q::r,seen,h,p,hp=>by
  simp only[DA,Bool.and_eq_true,decide_eq_true_eq]at h
  rcases List.mem_cons.1 hp with rfl|hp
  ·exact h.1.1
  ·exact Jq h.2 p hp
theorem FI: ∀{g:List (List Int)} {i:Nat},Cg i g=true->∀k (hk:k<g.length),HS (i+k) g[k]=true
 |l::r,i,h,0,_=>by simp only[Cg,Bool.and_eq_true]at h;exact h.1
 |l::r,i,h,k+1,hk=>by
  simp only[Cg,Bool.and_eq_true]at h
  have:=FI h.2 k (by simpa using hk)
  rw[show i+(k+1)=i+1+k by omega];exact this
theorem BB{g:List (List Int)}(h:Bq g=true)(c:Nat):(parentsF g c).length<=3 /\ ∀p∈parentsF g c,3<=p/\p<c:=by
 simp only[Bq,Bool.and_eq_true]at h
 unfold parentsF
 split
 ·simp
 ·rename_i hc
  by_cases hk:(((c:Int)-3).toNat)<g.length
  ·have:=FI h.2 _ hk
   rw[List.getElem?_eq_getElem hk,Option.getD_some]
   simp only[HS,Bool.and_eq_true,decide_eq_true_eq]at this
   refine⟨this.1,fun p hp =>?_⟩
   have:=Jq this.2 p hp
   omega
  ·rw[List.getElem?_eq_none (by omega)];simp
theorem DQ{g:List (List Int)}(h:Bq g=true):g.length<=16:=by
 simp only[Bq,Bool.and_eq_true,decide_eq_true_eq]at h;exact h.1
def ordersN(g:List (List Int)):Nat->List (List Int)
 |0=>[]
 |n+1=>ordersN g n++[if n=0 then [0] else BA (ordersN g n) n (parentsF g n)]
theorem Bg(g:List (List Int)): ∀n,(ordersN g n).length=n
 |0=>rfl
 |n+1=>by rw[ordersN,List.length_append,Bg g n];rfl
theorem Fy(os:List (List Int))(x:List Int){p:Int}(hp:0<=p):Av (os++[x]) p=if p=os.length then x else Av os p:=by
 unfold Av
 by_cases h:p.toNat<os.length
 ·rw[List.getElem?_append_left h,if_neg (by omega)]
 ·by_cases h2:p=os.length
  ·rw[if_pos h2,h2];simp
  ·rw[if_neg h2,List.getElem?_eq_none (by simp;omega),List.getElem?_eq_none (by omega)]
theorem Jg{os:List (List Int)}{M:Nat}: ∀{ps:List Int} {ls:List (List Int)},CN os ps=some ls->(∀p∈ps,(Av os p).length<=M)->totL ls<=ps.length*M/\ls.length=ps.length
 |[],ls,h,_=>by simp only[CN,Option.some.injEq]at h;subst h;simp[totL]
 | p::r,ls,h,hM=>by
  rw[CN]at h
  split at h
  ·cases h
  ·cases hr:CN os r with
   |none=>rw[hr]at h;cases h
   |some l2 =>
    rw[hr]at h
    simp only[Option.map_some,Option.some.injEq]at h
    subst h
    obtain⟨h1,h2⟩:=Jg hr fun q hq=>hM q (List.mem_cons_of_mem _ hq)
    have h3:=hM p (List.mem_cons_self ..)
    have h4:((Av os p).filter fun x => !decide (x=0)).length<=(Av os p).length:=List.length_filter_le ..
    simp only[totL,List.length_cons,Nat.add_mul]
    omega
theorem Vi(a b:List (List Int)):totL (a++b)=totL a+totL b:=by
 induction a with
 |nil=>simp[totL]
 |cons x a ih=>simp only[List.cons_append,totL,ih];omega
theorem FD{os:List (List Int)}{M:Nat}{ps:List Int}{ls:List (List Int)}(h:BI os ps=some ls)(hM:∀p∈ps,(Av os p).length<=M):totL ls<=ps.length*M+ps.length/\ls.length=ps.length+1:=by
 unfold BI at h
 cases hr:CN os ps with
 |none=>rw[hr]at h;cases h
 |some l2 =>
  rw[hr]at h
  simp only[Option.map_some,Option.some.injEq]at h
  subst h
  obtain⟨h1,h2⟩:=Jg hr hM
  rw[Vi];simp[totL];omega
theorem H8{os:List (List Int)}{M:Nat}{c:Int}{ps:List Int}(hM:∀p∈ps,(Av os p).length<=M):(BA os c ps).length<=ps.length*M+ps.length+2:=by
 unfold BA
 cases h:BI os ps with
 |none=>simp
 |some ls =>
  have h1:=(FD h hM).1
  have h2:=Er ls
  simp only
  split
  ·simp only[List.length_append,List.length_cons,List.length_nil];omega
  ·simp
theorem H7{g:List (List Int)}(h:Bq g=true): ∀n, ∀p:Int,0<=p->(Av (ordersN g n) p).length+3<=5*3 ^ (n-4)
 |0,p,_=>by simp[ordersN,Av]
 | n+1,p,hp=>by
  have ih:=H7 h n
  have hmono:5*3 ^ (n-4)<=5*3 ^ (n+1-4):=Nat.mul_le_mul_left _ (Nat.pow_le_pow_right (by decide) (by omega))
  have hpos:1<=3 ^ (n+1-4):=Nat.one_le_pow _ _ (by decide)
  rw[ordersN,Fy _ _ hp,Bg]
  split
  ·split
   ·rw[List.length_singleton];omega
   ·obtain⟨g1,g2⟩:=BB h n
    by_cases hn:n<4
    ·have he:parentsF g n=[]:=by
      cases hq:parentsF g n with
      |nil=>rfl
      |cons q r=>have:=g2 q (by rw[hq];simp);omega
     have:=H8 (os:=ordersN g n) (M:=0) (c:=n) (ps:=parentsF g n) (by rw[he];simp)
     rw[he]at this⊢
     simp at this
     omega
    ·have:=H8 (os:=ordersN g n) (M:=5*3 ^ (n-4)-3) (c:=n) (ps:=parentsF g n) (fun q hq=>by have:=ih q (by have:=g2 q hq;omega);omega)
     have e:3 ^ (n+1-4)=3 ^ (n-4)*3:=by rw[show n+1-4=(n-4)+1 by omega,Nat.pow_succ]
     have hh:(parentsF g n).length*(5*3 ^ (n-4)-3)<=3*(5*3 ^ (n-4)-3):=Nat.mul_le_mul_right _ g1
     have hpos':1<=3 ^ (n-4):=Nat.one_le_pow _ _ (by decide)
     rw[e];omega
  ·exact Nat.le_trans (ih p hp) hmono
theorem CW{g:List (List Int)}(h:Bq g=true){n:Nat}(hn:n<=3+g.length){p:Int}(hp:0<=p):(Av (ordersN g n) p).length<=80000000:=by
 have h1:=H7 h n p hp
 have h2:3 ^ (n-4)<=3 ^ 15:=Nat.pow_le_pow_right (by decide) (by have:=DQ h;omega)
 have h3:(3:Nat) ^ 15=14348907:=by decide
 omega
theorem R0(ig im:Nat)(a b:D)(om:List (Int×List Int))(V:Sig)(hg:V ig=some (.cells [a,b,.map im]))(hm:V im=some (.map (eIO om))):
  DCall prog 202 [.ptr ig 0,dI 0] V fun x S'=>x=.ret (.tup [])/\S'=V.set im (.map (eIO (putM 0 [0] om))):=by
 refine en func202 ntmps202 ?_
 refine gf (gi hg hm) ?_ o202
 refine rtl 14 (sl (cI [0])) ?_
 refine gf (gi hg hm) ?_ o202
 exact fin0 (S':=V.set im (.map (eIO (putM 0 [0] om)))) ⟨rfl,rfl⟩
theorem PO(ps:List (List Int))(cs:List Int)(o o':Own)(V:Sig)(hb:Bq ps=false)(hl:ps.length<=1073741824:=by exact sd)(hl2:∀x∈ps,x.length<=1073741824:=by exact sd)(hc:cs.length<=1073741824:=by exact sd):
  DCall prog 119 [.slice (cII ps) o,.slice (cI cs) o'] V (rS (.tup [.nilp,.bool false]) V):=by
 refine en func119 ntmps119 ?_
 repeat' first|refine gf hb ?_ o119|apply gy<;>intro hh
 any_goals (first|exact fe2 trivial|fail)
theorem PN(ps:List (List Int))(cs:List Int)(o o':Own)(V:Sig)(hb:Bq ps=true)(hx:¬∀c∈cs,0<=c/\c<3+ps.length)(hl:ps.length<=1073741824:=by exact sd)(hl2:∀x∈ps,x.length<=1073741824:=by exact sd)(hc:cs.length<=1073741824:=by exact sd):
  DCall prog 119 [.slice (cII ps) o,.slice (cI cs) o'] V (rS (.tup [.nilp,.bool false]) V):=by
 refine en func119 ntmps119 ?_
 refine gf hb ?_ o119
 refine B2 [0,8,9,10,11,13,14,18,19,34,35,36,37,38,39,40,41,42,43,44,45,46,47,48,49,50,51,52,53,54,55,56,57,58,59,60,61,62,63,64,65,66,67,68,69,70,71,72,73,74,75,76,77,78,79,80,81,82,83,84,85,86,87,88,89,90,91,92,93,94,95,96,97,98,99,100,101,102,103] (fun (k:Nat)=>k<=cs.length /\ ∀c∈cs.take k,0<=c/\c<3+ps.length) (fun k=>[(20,dI k)]) (fun _=>V) (fun k=>cs.length-k) (0) (by simp) (fun k hI =>?_)
 obtain⟨hk,hI⟩:=hI
 by_cases h:k<cs.length
 ·repeat' first|refine gf hb ?_ o119|apply gy<;>intro hh
  ·exact fe2 trivial
  ·exact fe2 trivial
  ·have hI':∀c∈cs.take (k+1),0<=c/\c<3+ps.length:=fun c hc=>by
    rw[AH h]at hc
    rcases List.mem_append.1 hc with hc|hc
    ·exact hI c hc
    ·obtain rfl:=List.mem_singleton.1 hc;omega
   exact⟨k+1,⟨by omega,hI'⟩,td1,wkR⟩
 ·exfalso
  rw[List.take_of_length_le (by omega)]at hI
  exact hx hI
def cU(us:List Int):List (List D):=us.map fun n=>[.int .u64 n]
@[simp] theorem cU_length(us:List Int):(cU us).length=us.length:=by simp[cU]
@[simp] theorem cU_all(l:List Int):(cU l).all (fun c=>c.length==1)=true:=by simp[cU]
theorem V8(a b:List Int):cU (a++b)=cU a++cU b:=by simp[cU]
@[simp] theorem cU_get(us:List Int)(k:Nat):(cU us)[k]? = (us[k]?).map fun n=>[.int .u64 n]:=by simp[cU]
theorem Uz (ps:List (List Int)) (cs:List Int) (o o':Own) (V:Sig) (hb:Bq ps=true) (hx : ∀ c ∈ cs,0<=c/\c < 3+ps.length) (hl:ps.length<=1073741824:=by exact sd) (hl2 : ∀ x ∈ ps,x.length<=1073741824:=by exact sd) (hc:cs.length<=1073741824:=by exact sd) :
  DCall prog 119 [.slice (cII ps) o,.slice (cI cs) o'] V fun x S' => ∃ig im a b om,ig≠im/\x=.ret (.tup [.ptr ig 0,.bool true])/\S'=(V.set im (.map (eIO om))).set ig (.cells [a,b,.map im])/\V ig=none/\V im=none /\ ∀p:Int,0<=p->getM [] p om=Av (ordersN ps (3+ps.length)) p:=by
 have hlen:=DQ hb
 refine en func119 ntmps119 ?_
 refine gf hb ?_ o119 [40,11]
 refine B2 [0,8,9,10,11,13,14,18,19,34,35,36,37,38,39,40,41,42,43,44,45,46,47,48,49,50,51,52,53,54,55,56,57,58,59,60,61,62,63,64,65,66,67,68,69,70,71,72,73,74,75,76,77,78,79,80,81,82,83,84,85,86,87,88,89,90,91,92,93,94,95,96,97,98,99,100,101,102,103] (fun (k:Nat)=>k<=cs.length) (fun k=>[(20,dI k)]) (fun _=>V) (fun k=>cs.length-k) (0) (by simp) (fun k hI =>?_)
 by_cases h:k<cs.length
 ·have hxk:=hx _ (List.getElem_mem h)
  refine gf hb ?_ o119 [40,11]
  exact⟨k+1,by omega,td1,wkR⟩
 ·refine gf hb ?_ o119 [40,11]
  refine Sy (k:=3) (c:=3+ps.length) (z:=[.nils]) (sz:=1) (fun ir hir hm0 =>?_)
  obtain⟨st0,hst0⟩:∃st0:MR,st0=some (ir,3+ps.length,(List.replicate (3+ps.length-3) [D.nils]).flatten):=⟨_,rfl⟩
  obtain⟨es0,hes0⟩:∃es0,es0=List.replicate 3 [D.nils]:=⟨_,rfl⟩
  rw[<-hst0, <-hes0]at hm0⊢
  have hmd:mD st0 es0.length=.sref ir 0 3 (3+ps.length):=by rw[hst0,hes0];rfl
  have hel:es0.length=3:=by rw[hes0];rfl
  refine newIO (fun im him =>?_)
  obtain⟨e1,hm1⟩:=WP (o := .map (eIO [])) hm0 him
  have him':=SF him
  rw[e1]
  refine go1 trivial ?_
  refine boxV (fun ig hig =>?_)
  obtain⟨e2,hm2⟩:=WP (o := .cells [.sref ir 0 3 (3+ps.length),.nils,.map im]) hm1 hig
  have hig':=SF hig
  have hgi:ig≠im:=fun h=>by rw[h,w7]at hig';cases hig'
  have hgr:ig≠ir:=fun h=>by subst h;simp[mS,hst0,w7]at hig
  rw[e2]
  have hld:=SG hm2 (w7 ..)
  refine gf (gi hgr hld) ?_ o119 [40,11]
  refine mapp (new:=cII ps) (sz:=1) (h1:=by exact hmd.symm) (fun st hm3 =>?_) hm2
  clear hm2 hm1 hm0 e1 e2 hld hig him
  obtain⟨es1,hes1⟩:∃es1,es1=es0++cII ps:=⟨_,rfl⟩
  have hN:es0.length+(cII ps).length=es1.length:=by rw[hes1,List.length_append]
  have hel1:es1.length=3+ps.length:=by rw[hes1,List.length_append,hel];simp
  rw[<-hes1]at hm3⊢
  rw[hN]
  obtain⟨i1,c1,hmd1⟩:∃i1 c1,mD st es1.length=.sref i1 0 es1.length c1:=by
   cases st with
   |none=>exact absurd (show es1=[] from hm3) (fun h=>by rw[h]at hel1;simp at hel1;omega)
   |some x=>exact⟨_,_,rfl⟩
  have hld:=SG hm3 (w7 ..)
  obtain⟨e3,hm4⟩:=mS_put (o := .cells [mD st es1.length,.nils,.map im]) hm3 (w7 ..)
  rw[hmd1]at e3 hm4⊢
  rw[w9]at e3 hm4
  refine gf (gi hgr (gi hld e3)) ?_ o119 [40,11]
  refine mfrC (i:=ig) [] [.nils,.map im] ?_ (by rw[hmd1];exact w7 ..) hm4
  rw[w9]
  refine celW (i:=ig) [] [.nils,.map im] (.slice es1 .no) (.slice (cII ([]::[]::[]::ps)) .no) ?_ (w7 ..) (Hy _ ?_)
  rw[w9]
  simp only[List.nil_append]
  obtain⟨P,hP⟩:∃P,P=[]::[]::[]::ps:=⟨_,rfl⟩
  have hPl:P.length=3+ps.length:=by rw[hP];simp;omega
  have hPx:∀x∈P,x.length<=1073741824:=by rw[hP];simpa using hl2
  have hpar:∀c (hc:c<P.length),P[c]=parentsF ps c:=by
   intro c hc
   subst hP
   unfold parentsF
   rcases c with _|_|_|c
   ·rfl
   ·rfl
   ·rfl
   ·simp only[List.length_cons]at hc
    rw[if_neg (by omega),show((((c+1+1+1:Nat)):Int)-3).toNat=c by omega,List.getElem?_eq_getElem (by omega)];rfl
  rw[<-hP]
  refine gf hPl ?_ o119 [40,11]
  refine AD ig 1 1 (w7 ..) rfl fun iu hiu =>?_
  obtain⟨hug,hiu'⟩:=A4 hiu
  obtain⟨hum,hiu''⟩:=A4 hiu'
  clear hm3 hm4 hld e3 hN hiu hiu'
  have hgu:ig≠iu:=fun e=>hug e.symm
  have hmu:im≠iu:=fun e=>hum e.symm
  have hmg:im≠ig:=fun e=>hgi e.symm
  have hgn:V ig=none:=(A4 hig').2
  have hS:Sub ((((V.set iu (.tail 1 0)).set im (.map (eIO []))).set ig (.cells [.slice (cII P) .no,.slice [] (.tag iu),.map im]))) ((((V.set im (.map (eIO []))).set ig (.cells [.slice (cII P) .no,.nils,.map im])).set iu (.tail 1 0)).set ig (.cells ([.slice (cII P) .no,.nils,.map im].set 1 (.slice [] (.tag iu))))):=by
   intro k x hk;simp only[Sig.set,List.set]at hk⊢; grind
  refine AA [4,5,8,14,53,54,91,92,93,94,95,96,97,98,99,100,101,102,103] (fun (c:Nat) (us:List Int)=>c<=P.length/\us.length=c) (fun c _=>[(55,dI c)]) (fun _ us=>((V.set iu (.tail 1 us.length)).set im (.map (eIO []))).set ig (.cells [.slice (cII P) .no,.slice (cU us) (.tag iu),.map im])) (fun c _=>P.length-c) (0) ([]) (by simp) (fun c us hI =>?_)
  obtain⟨hcP,hus⟩:=hI
  by_cases hc':c<P.length
  ·have hxc:=hPx _ (List.getElem_mem hc')
   have hpc:=hpar c hc'
   refine gf hPl ?_ o119 [40,11]
   refine bldZ ?_
   refine gz ?_ o119 [40,11]
   refine Ab (Nv 0 c _) (fun d S' hx =>?_) (fun d S' hx=>by obtain⟨⟨_,hx⟩,_⟩:=hx;cases hx)
   obtain⟨⟨n1,hx⟩,rfl⟩:=hx
   cases hx
   repeat' first|refine gz ?_ o119 [40,11]|apply gy<;>intro hh
   refine Ab (Nv n1 0 _) (fun d S' hx =>?_) (fun d S' hx=>by obtain⟨⟨_,hx⟩,_⟩:=hx;cases hx)
   obtain⟨⟨n2,hx⟩,rfl⟩:=hx
   cases hx
   repeat' first|refine gz ?_ o119 [40,11]|apply gy<;>intro hh
   simp only[putD]
   refine newV (fun ia hia =>?_)
   obtain⟨hag,hia1⟩:=A4 hia
   obtain⟨ham,hia2⟩:=A4 hia1
   obtain⟨hau,hia3⟩:=A4 hia2
   have hga:ig≠ia:=fun e=>hag e.symm
   have hma:im≠ia:=fun e=>ham e.symm
   have hua:iu≠ia:=fun e=>hau e.symm
   refine gf (gi hag (gi ham (gi hau (gi hga (gi hma hua))))) ?_ o119 [40,11]
   refine AA [4,5,8,9,10,11,14,53,54,55,56,57,58,59,60,61,62,63,64,65,80,81,82,83,84,85,86,87,88,89,90,91,92,93,94,95,96,97,98,99,100,101,102,103] (fun (q:Nat) (n:Int)=>q<=(P[c]).length) (fun q _=>[(66,dI q)]) (fun _ n=>(((V.set iu (.tail 1 us.length)).set im (.map (eIO []))).set ig (.cells [.slice (cII P) .no,.slice (cU us) (.tag iu),.map im])).set ia (.cells [.int .u64 n])) (fun q _=>(P[c]).length-q) (0) (n2) (by simp) (fun q n hI =>?_)
   by_cases hq:q<(P[c]).length
   ·have hp:=(BB hb c).2 (P[c][q]) (by rw[<-hpc];exact List.getElem_mem hq)
    obtain⟨p,hpe⟩:∃p:Nat,P[c][q]=(p:Int):=⟨(P[c][q]).toNat,by omega⟩
    have hpl:p<us.length:=by omega
    refine gf (gi hag (gi ham (gi hau (gi hga (gi hma (gi hua hpe)))))) ?_ o119 [40,11]
    refine BF (TU n (us[p]) _) (fun d S' hx =>?_) (fun d S' hx=>by obtain⟨⟨_,hx⟩,_⟩:=hx;cases hx)
    obtain⟨⟨n3,hx⟩,rfl⟩:=hx
    cases hx
    refine⟨Sub.refl _,?_⟩
    simp only[putD]
    refine gf (gi hag (gi ham (gi hau (gi hga (gi hma hua))))) ?_ o119 [40,11]
    exact⟨q+1,n3,by omega,td1,wkR⟩
   ·refine gf (gi hag (gi ham (gi hau (gi hga (gi hma hua))))) ?_ (delO 20 o119) [40,11]
    refine Do (id:=20) [0,1,2,3,4,5,6,7,8,9] [7] (((V.set im (.map (eIO []))).set ig (.cells [.slice (cII P) .no,.slice (cU us) (.tag iu),.map im])).set ia (.cells [.int .u64 n])) ?_ ?_
    ·intro k x hk;simp only[Sig.set]at hk⊢; grind
    have hsub:Sub (((V.set im (.map (eIO []))).set ig (.cells [.slice (cII P) .no,.slice (cU us) (.tag iu),.map im])).set ia (.cells [.int .u64 n])) (((((V.set iu (.tail 1 us.length)).set im (.map (eIO []))).set ig (.cells [.slice (cII P) .no,.slice (cU us) (.tag iu),.map im])).set ia (.cells [.int .u64 n])).set iu (.tail 1 (us.length+1))):=by
     intro k x hk;simp only[Sig.set]at hk⊢; grind
    iterate 7 refine go1 (And.intro hgu (And.intro hga (And.intro hma hua))) ?_
    refine moEffW (.slice (cU (us++[n])) (.tag iu)) ?_ (he:=by simp(disch:=first|omega|assumption) [w8];and_intros<;>first|rfl|omega) (hC:=hsub) (hw:=AS (by rw[V8];rfl))
    refine gf (gi hag (gi ham (gi hau (gi hga (gi hma (gi hua hgu)))))) ?_ (delO 20 o119) [40,11]
    have hsub2:Sub (((V.set iu (.tail 1 (us++[n]).length)).set im (.map (eIO []))).set ig (.cells [.slice (cII P) .no,.slice (cU (us++[n])) (.tag iu),.map im])) ((((((V.set iu (.tail 1 us.length)).set im (.map (eIO []))).set ig (.cells [.slice (cII P) .no,.slice (cU us) (.tag iu),.map im])).set ia (.cells [.int .u64 n])).set iu (.tail 1 (us.length+1))).set ig (.cells [.slice (cII P) .no,.slice (cU (us++[n])) (.tag iu),.map im])):=by
     intro k x hk;rw[List.length_append,List.length_singleton]at hk;simp only[Sig.set]at hk⊢; grind
    exact⟨c+1,(us++[n]),⟨by omega,by rw[List.length_append,List.length_singleton];omega⟩,td1,wkR⟩
  ·refine gf (gi hPl (gi hgi (gi hgu (gi hmu hmg)))) ?_ o119 [40,11]
   generalize hups:D.slice (cU us) (.tag iu)=ups
   have hsub3:Sub ((V.set im (.map (eIO []))).set ig (.cells [.slice (cII P) .no,ups,.map im])) (((V.set iu (.tail 1 us.length)).set im (.map (eIO []))).set ig (.cells [.slice (cII P) .no,ups,.map im])):=by
    intro k x hk;simp only[Sig.set]at hk⊢; grind
   refine AA [4,5,8,95,103] (fun (c:Nat) (om:List (Int×List Int))=>c<=P.length /\ ∀p:Int,0<=p->getM [] p om=Av (ordersN ps c) p) (fun c _=>[(96,dI c)]) (fun _ om=>(V.set im (.map (eIO om))).set ig (.cells [.slice (cII P) .no,ups,.map im])) (fun c _=>P.length-c) (0) ([]) (by exact⟨by omega,fun p _=>by simp[getM,ordersN,Av]⟩) (fun c om hI =>?_)
   obtain⟨hcP,hom⟩:=hI
   by_cases hc':c<P.length
   ·have hg1:((V.set im (.map (eIO om))).set ig (.cells [.slice (cII P) .no,ups,.map im])) ig=some (.cells [.slice (cII P) .no,ups,.map im]):=w7 ..
    have hm1:((V.set im (.map (eIO om))).set ig (.cells [.slice (cII P) .no,ups,.map im])) im=some (.map (eIO om)):=by rw[w8 _ _ hmg,w7]
    rcases Nat.eq_zero_or_pos c with rfl|hc0
    ·refine gf hPl ?_ o119 [40,11]
     refine Ab (R0 ig im _ _ om _ hg1 hm1) (fun d S' hx =>?_) (fun d S' hx=>by cases hx.1)
     obtain⟨hx,rfl⟩:=hx
     cases hx
     simp only[putD]
     refine gf hPl ?_ o119 [40,11]
     have hsub4:Sub ((V.set im (.map (eIO (putM 0 [0] om)))).set ig (.cells [.slice (cII P) .no,ups,.map im])) (((V.set im (.map (eIO om))).set ig (.cells [.slice (cII P) .no,ups,.map im])).set im (.map (eIO (putM 0 [0] om)))):=by
      intro k x hk;simp only[Sig.set]at hk⊢; grind
     have hom':∀p:Int,0<=p->getM [] p (putM 0 [0] om)=Av (ordersN ps (0+1)) p:=fun p hp=>by
      rw[F0,ordersN,Fy _ _ hp,hom p hp];rfl
     exact⟨0+1,putM 0 [0] om,⟨by omega,hom'⟩,td1,wkR⟩
    ·have hpc:P[c]=parentsF ps c:=hpar c hc'
     have hpp:=BB hb c
     rw[<-hpc]at hpp
     have hB:∀p:Int,0<=p->(Av (ordersN ps c) p).length<=80000000:=fun p hp=>CW hb (by omega) hp
     have hcall:=TT ig im P (ordersN ps c) ups om c .no ((V.set im (.map (eIO om))).set ig (.cells [.slice (cII P) .no,ups,.map im])) hgi hg1 hm1 hc' (by omega) (by omega) (by omega)
      (fun p hp=>hom p (by have:=hpp.2 p hp;omega)) (fun p hp=>by have:=hB p (by have:=hpp.2 p hp;omega);omega)
      (fun ls hls=>by
       have h1:=FD hls (fun p hp=>hB p (by have:=hpp.2 p hp;omega))
       have h2:=hpp.1
       have h3:(P[c]).length*80000000<=3*80000000:=Nat.mul_le_mul_right _ h2
       omega)
     refine gf hPl ?_ o119 [40,11]
     refine Ab hcall (fun d S' hx =>?_) (fun d S' hx=>by cases hx.1)
     obtain⟨hx,rfl⟩:=hx
     cases hx
     simp only[putD]
     have hstep:∀p:Int,0<=p->Av (ordersN ps (c+1)) p=if p=c then BA (ordersN ps c) c P[c] else Av (ordersN ps c) p:=fun p hp=>by
      rw[ordersN,Fy _ _ hp,Bg,if_neg (by omega:¬c=0), <-hpc]
     have hsub4:∀om',Sub ((V.set im (.map (eIO om'))).set ig (.cells [.slice (cII P) .no,ups,.map im])) (((V.set im (.map (eIO om))).set ig (.cells [.slice (cII P) .no,ups,.map im])).set im (.map (eIO om'))):=by
      intro om' k x hk;simp only[Sig.set]at hk⊢; grind
     by_cases he:BA (ordersN ps c) c P[c]=[]
     ·rw[if_pos he]
      have hom':∀p:Int,0<=p->getM [] p om=Av (ordersN ps (c+1)) p:=fun p hp=>by
       rw[hstep p hp,hom p hp,he]
       split
       ·rename_i hpe
        unfold Av;rw[List.getElem?_eq_none (by rw[Bg];omega)];rfl
       ·rfl
      refine gf hPl ?_ o119 [40,11]
      exact⟨c+1,om,⟨by omega,hom'⟩,td1,wkR⟩
     ·rw[if_neg he]
      have hom':∀p:Int,0<=p->getM [] p (putM c (BA (ordersN ps c) c P[c]) om)=Av (ordersN ps (c+1)) p:=fun p hp=>by
       rw[hstep p hp,F0,hom p hp]
      have hsub5:=hsub4 (putM c (BA (ordersN ps c) c P[c]) om)
      refine gf hPl ?_ o119 [40,11]
      exact⟨c+1,putM c (BA (ordersN ps c) c P[c]) om,⟨by omega,hom'⟩,td1,wkR⟩
   ·have hce:c=3+ps.length:=by omega
    subst hce
    refine gf hPl ?_ o119 [40,11]
    exact fin2 (S':=(V.set im (.map (eIO om))).set ig (.cells [.slice (cII P) .no,ups,.map im])) ⟨ig,im,_,_,om,hgi,rfl,rfl,hgn,him',hom⟩
  rw[hes1,hes0]
  exact⟨⟨Al _ (.inl rfl),trivial⟩,⟨Al _ (.inl rfl),trivial⟩,⟨Al _ (.inl rfl),trivial⟩,OW _⟩
def FE(g:List (List Int))(c:Int):List Int:=Av (ordersN g (3+g.length)) c
def linE(g:List (List Int))(c:Int):Int:=if Bq g=true/\0<=c/\c<3+g.length then(if FE g c=[] then 7 else 0) else 2
def linF(g:List (List Int))(c:Int):List Int:=if Bq g=true/\0<=c/\c<3+g.length then FE g c else []
theorem W9(g:List (List Int))(c:Int)(o:Own)(V:Sig)(hl:g.length<=1073741824:=by exact sd)(hl2:∀x∈g,x.length<=1073741824:=by exact sd):
  DCall prog 50 [.slice (cII g) o,dI c] V (rS (.tup [sl (cI (linF g c)),dI (linE g c)]) V):=by
 refine en func50 ntmps50 ?_
 by_cases hb:Bq g=true
 ·by_cases hc:0<=c/\c<3+g.length
  ·try refine gz ?_
   refine Ab (Uz g [c] o .clip _ hb (by simpa using hc) hl hl2 (by simp)) (fun d S' hx =>?_) (fun d S' hx=>by obtain⟨_,_,_,_,_,_,hx,_⟩:=hx;cases hx)
   obtain⟨ig,im,a,b,om,hne,hx,rfl,hig,him,hom⟩:=hx
   cases hx
   simp only[putD]
   have hmg:im≠ig:=fun e=>hne e.symm
   have hsub:Sub V ((V.set im (.map (eIO om))).set ig (.cells [a,b,.map im])):=((Sub.refl _).set him).set hig
   have hlb:(FE g c).length<=80000000:=CW hb (by omega) hc.1
   have hL:getM [] c om=FE g c:=hom c hc.1
   try refine gf hmg ?_
   refine lkO ?_ (hi:=by rw[w8 _ _ hmg,w7])
   rw[hL]
   by_cases he:FE g c=[]
   ·try refine gf (gi hmg he) ?_
    (refine fin2 (S':=V) (d':=sl []) ?_;exact⟨by first|rfl|(simp[linF,linE,hb,hc,he];done)|(simp_all [linF,linE,hb,hc,he];done)|(rw[A7,Bool.eq_iff_iff];simp_all [linF,linE,hb,hc,he]<;>omega),rfl⟩)
   ·repeat' first|refine gf hmg ?_|apply gy<;>intro hh
    ·exfalso;exact he (by simpa using hh)
    ·refine lkO ?_ (hi:=by rw[w8 _ _ hmg,w7])
     rw[hL]
     repeat' first|refine gf hmg ?_|refine Ax (Ho (cI (FE g c)) .no _ (by simp;omega) (BQ _)) ?_|refine callP (Ho (cI (FE g c)) .no _ (by simp;omega) (BQ _)) ?_|refine gf hmg ?_|apply gy<;>intro hh
     (refine fin2 (S':=V) ?_;exact⟨by first|rfl|(simp[linF,linE,hb,hc,he];done)|(simp_all [linF,linE,hb,hc,he];done)|(rw[A7,Bool.eq_iff_iff];simp_all [linF,linE,hb,hc,he]<;>omega),rfl⟩)
  ·repeat' first|refine gz ?_|refine Ax (PN g [c] o .clip _ hb (by simpa using hc) hl hl2 (by simp)) ?_|refine callP (PN g [c] o .clip _ hb (by simpa using hc) hl hl2 (by simp)) ?_|refine gz ?_|apply gy<;>intro hh
   (refine fin2 (S':=V) (d':=sl []) ?_;exact⟨by first|rfl|(simp[linF,linE,hb,hc];done)|(simp_all [linF,linE,hb,hc];done)|(rw[A7,Bool.eq_iff_iff];simp_all [linF,linE,hb,hc]<;>omega),rfl⟩)
 ·repeat' first|refine gz ?_|refine Ax (PO g [c] o .clip _ (by simpa using hb) hl hl2 (by simp)) ?_|refine callP (PO g [c] o .clip _ (by simpa using hb) hl hl2 (by simp)) ?_|refine gz ?_|apply gy<;>intro hh
  (refine fin2 (S':=V) (d':=sl []) ?_;exact⟨by first|rfl|(simp[linF,linE,hb];done)|(simp_all [linF,linE,hb];done)|(rw[A7,Bool.eq_iff_iff];simp_all [linF,linE,hb]<;>omega),rfl⟩)
@[reducible,instance] def a50:=fun g c o V=>ah2 (@W9 g c o V)
theorem Kv: ∀(n:Nat) (ls:List (List Int)) (out:List Int) (y:Int),y∈(ED n ls out).1->y∈out \/ ∃l∈ls,y∈l
 |0,_,_,y,h => .inl h
 | n+1,ls,out,y,h=>by
  rw[ED]at h
  cases hn:EA ls false ls with
  | mk a s =>
   rw[hn]at h
   cases a with
   |none=>exact .inl h
   | some c =>
    obtain⟨e,he,hce⟩:=Ez hn
    rcases Kv n _ _ y h with h|⟨l,hl,hy⟩
    ·rcases List.mem_append.1 h with h|h
     ·exact .inl h
     ·rw[List.mem_singleton]at h;exact .inr ⟨e,he,h ▸ hce⟩
    ·obtain⟨l',hl',rfl⟩:=List.mem_map.1 hl
     exact .inr ⟨l',hl',(List.mem_filter.1 hy).1⟩
theorem Ky{os:List (List Int)}: ∀{ps:List Int} {ls:List (List Int)},CN os ps=some ls->∀l∈ls, ∃p∈ps,l=(Av os p).filter fun x => !decide (x=0)
 |[],ls,h,l,hl=>by simp only[CN,Option.some.injEq]at h;subst h;cases hl
 | p::r,ls,h,l,hl=>by
  rw[CN]at h
  split at h
  ·cases h
  ·cases hr:CN os r with
   |none=>rw[hr]at h;cases h
   | some l2 =>
    rw[hr]at h
    simp only[Option.map_some,Option.some.injEq]at h
    subst h
    rcases List.mem_cons.1 hl with rfl|hl
    ·exact⟨p,by simp,rfl⟩
    ·obtain⟨q,hq,e⟩:=Ky hr l hl
     exact⟨q,List.mem_cons_of_mem _ hq,e⟩
theorem Jf{os:List (List Int)}{ps:List Int}{ls:List (List Int)}(h:BI os ps=some ls): ∀l∈ls, ∀y∈l,(∃p∈ps,y∈Av os p)\/y∈ps:=by
 unfold BI at h
 cases hr:CN os ps with
 |none=>rw[hr]at h;cases h
 | some l2 =>
  rw[hr]at h
  simp only[Option.map_some,Option.some.injEq]at h
  subst h
  intro l hl y hy
  rcases List.mem_append.1 hl with hl|hl
  ·obtain⟨p,hp,rfl⟩:=Ky hr l hl
   exact .inl ⟨p,hp,(List.mem_filter.1 hy).1⟩
  ·rw[List.mem_singleton]at hl;exact .inr (hl ▸ hy)
theorem GE{os:List (List Int)}{p:Int}{y:Int}(h:y∈Av os p): ∃x∈os,y∈x:=by
 unfold Av at h
 cases hx:os[p.toNat]? with
 |none=>rw[hx]at h;cases h
 |some x=>rw[hx]at h;exact⟨x,List.mem_of_getElem? hx,h⟩
theorem GD {g:List (List Int)} (hg:Bq g=true) : ∀ n, ∀ x ∈ ordersN g n, ∀ y ∈ x,0<=y/\y < (n:Int)
 |0,x,hx=>by cases hx
 | n+1,x,hx=>by
  have ih:=GD hg n
  rw[ordersN]at hx
  intro y hy
  rcases List.mem_append.1 hx with hx|hx
  ·have:=ih x hx y hy;omega
  ·rw [List.mem_singleton] at hx
   subst hx
   split at hy
   ·rw[List.mem_singleton]at hy;omega
   ·unfold BA at hy
    cases hls:BI (ordersN g n) (parentsF g n)with
    |none=>rw[hls]at hy;cases hy
    | some ls =>
     rw[hls]at hy
     simp only at hy
     split at hy
     ·simp only[List.cons_append,List.mem_cons,List.mem_append,List.not_mem_nil,or_false]at hy
      rcases hy with rfl|hy|rfl
      ·omega
      ·rcases Kv _ _ _ y hy with h|⟨l,hl,hyl⟩
       ·cases h
       ·rcases Jf hls l hl y hyl with⟨p,_,h⟩|h
        ·obtain⟨z,hz,h⟩:=GE h;have:=ih z hz y h;omega
        ·have:=(BB hg n).2 y h;omega
      ·omega
     ·cases hy
def ownO:Option Nat->Own
 |none => .clip
 |some i => .tag i
def sgO(V:Sig)(n:Nat):Option Nat->Sig
 |none=>V
 |some i=>V.set i (.tail 1 n)
attribute [simp] Bg
@[simp] theorem ownO_none:ownO none=.clip:=rfl
@[simp] theorem Fx(i:Nat):ownO (some i)=.tag i:=rfl
@[simp] theorem sgO_none(V:Sig)(n:Nat):sgO V n none=V:=rfl
@[simp] theorem H2(V:Sig)(n i:Nat):sgO V n (some i)=V.set i (.tail 1 n):=rfl
theorem M0(g:List (List Int))(o:Own)(V:Sig)(hb:Bq g=true)(hl:∀x∈g,x.length<=1073741824:=by exact sd):
  DCall prog 67 [.slice (cII g) o] V (rS (sl (cII (ordersN g (3+g.length)))) V):=by
 have hlen:=DQ hb
 refine en func67 ntmps67 ?_
 try refine gz ?_
 refine rtw 3 (.slice (cII (ordersN g 1)) .clip) ?_ (E2 _ ⟨⟨AE _ _,trivial⟩,trivial⟩)
 refine AA [0,2,43] (fun (n:Nat) (ow:Option Nat)=>1<=n/\n<=3+g.length /\ ∀i,ow=some i->V i=none) (fun n ow=>[(4,dI n),(3,.slice (cII (ordersN g n)) (ownO ow))]) (fun n ow=>sgO V n ow) (fun n _=>3+g.length-n) (1) (none) (by exact⟨by omega,by omega,by simp⟩) (fun n ow hI =>?_)
 obtain⟨h1,h2,hi⟩:=hI
 by_cases hn:n<3+g.length
 ·have hol:=Bg g n
  have hpp:=BB hb n
  have hB:∀p:Int,0<=p->(Av (ordersN g n) p).length<=80000000:=fun p hp=>CW hb (by omega) hp
  have hBx:∀x∈ordersN g n,x.length<=1073741824:=fun x hx=>by
   obtain⟨k,hk,rfl⟩:=List.getElem_of_mem hx
   have:=hB k (by omega)
   unfold Av at this
   rw[show((k:Int)).toNat=k by omega,List.getElem?_eq_getElem hk]at this
   simp only[Option.getD_some]at this
   omega
  have h153:=Uj g (ordersN g n) n o (ownO ow) (sgO V n ow) (by omega) (by omega) (by have:=hpp.1;omega) (fun p hp=>by have:=hpp.2 p hp;rw[Bg];omega) (by rw[Bg];omega) hBx
  have hstep:ordersN g (n+1)=ordersN g n++[BA (ordersN g n) n (parentsF g n)]:=by rw[ordersN,if_neg (by omega)]
  cases hls:BI (ordersN g n) (parentsF g n)with
  | none =>
   rw[hls]at h153
   have hx:BA (ordersN g n) n (parentsF g n)=[]:=by rw[BA,hls]
   repeat' first|refine gz ?_|refine Ax (h153) ?_|refine callP (h153) ?_|refine gz ?_|apply gy<;>intro hh
   refine rtl 41 (.slice [[sl (cI [])]] .clip) ?_ (E2 _ ⟨⟨Al _ (.inl rfl),trivial⟩,trivial⟩)
   have hw':∀i,WkD (.slice (cII (ordersN g n)++[[sl (cI (BA (ordersN g n) n (parentsF g n)))]]) (.tag i)) (.slice (cII (ordersN g (n+1))) (ownO (some i))):=fun i=>AS (by rw[hstep];simp[cII])
   rw[hx]at hw'
   rcases ow with _|i
   ·refine appC (fun i hi' =>?_) (hlen:=BJ _)
    have hw:=hw' i
    have hsub:Sub (sgO V (n+1) (some i)) ((sgO V n none).set i (.tail (tab 23).size ((cII (ordersN g n)).length+[[sl (cI [])]].length))):=B3 (by simp[hol])
    try refine gz ?_
    exact⟨n+1,some i,⟨by omega,by omega,fun _ e=>by cases e;exact hi'⟩,td1,wkR⟩
   ·have hw:=hw' i
    simp only[Fx,H2]
    try refine gz ?_
    exact⟨n+1,some i,⟨by omega,by omega,fun _ e=>by cases e;exact hi i rfl⟩,td1,wkR⟩
  | some ls =>
   rw[hls]at h153
   have hT:=FD hls (fun p hp=>hB p (by have:=hpp.2 p hp;omega))
   have h3:(parentsF g n).length*80000000<=3*80000000:=Nat.mul_le_mul_right _ hpp.1
   have h4:=hpp.1
   have h154:=Ui ls .no (sgO V n ow) (fun x hx y hy=>by
    rcases Jf hls x hx y hy with⟨p,_,h⟩|h
    ·obtain⟨z,hz,h⟩:=GE h;exact(GD hb n z hz y h).1
    ·have:=hpp.2 y h;omega) (by omega) (by omega)
   have hml:=Er ls
   by_cases hm0:(BV ls).1=[]
   ·repeat' first|refine gz ?_|refine Ax (h153) ?_|refine callP (h153) ?_|refine Ax (h154) ?_|refine callP (h154) ?_|refine gz ?_|apply gy<;>intro hh
    ·have hx:BA (ordersN g n) n (parentsF g n)=[(n:Int),0]:=by rw[BA,hls];simp[hh,hm0]
     refine app0 ?_
     try refine gz ?_
     refine appCW (fun j hj =>?_)
     try refine gz ?_
     refine rtl 41 (.slice [[sl (cI [(n:Int),0])]] .clip) ?_
     refine drp (sgO V n ow) ?_ ((Sub.refl _).set hj)
     have hw':∀i,WkD (.slice (cII (ordersN g n)++[[sl (cI (BA (ordersN g n) n (parentsF g n)))]]) (.tag i)) (.slice (cII (ordersN g (n+1))) (ownO (some i))):=fun i=>AS (by rw[hstep];simp[cII])
     rw[hx]at hw'
     rcases ow with _|i
     ·refine appC (fun i hi' =>?_) (hlen:=BJ _)
      have hw:=hw' i
      have hsub:Sub (sgO V (n+1) (some i)) ((sgO V n none).set i (.tail (tab 23).size ((cII (ordersN g n)).length+[[sl (cI [])]].length))):=B3 (by simp[hol])
      try refine gz ?_
      exact⟨n+1,some i,⟨by omega,by omega,fun _ e=>by cases e;exact hi'⟩,td1,wkR⟩
     ·have hw:=hw' i
      simp only[Fx,H2]
      try refine gz ?_
      exact⟨n+1,some i,⟨by omega,by omega,fun _ e=>by cases e;exact hi i rfl⟩,td1,wkR⟩
    ·have hx:BA (ordersN g n) n (parentsF g n)=[]:=by rw[BA,hls];simp[hh]
     refine rtl 41 (.slice [[sl (cI [])]] .clip) ?_ (E2 _ ⟨⟨Al _ (.inl rfl),trivial⟩,trivial⟩)
     have hw':∀i,WkD (.slice (cII (ordersN g n)++[[sl (cI (BA (ordersN g n) n (parentsF g n)))]]) (.tag i)) (.slice (cII (ordersN g (n+1))) (ownO (some i))):=fun i=>AS (by rw[hstep];simp[cII])
     rw[hx]at hw'
     rcases ow with _|i
     ·refine appC (fun i hi' =>?_) (hlen:=BJ _)
      have hw:=hw' i
      have hsub:Sub (sgO V (n+1) (some i)) ((sgO V n none).set i (.tail (tab 23).size ((cII (ordersN g n)).length+[[sl (cI [])]].length))):=B3 (by simp[hol])
      try refine gz ?_
      exact⟨n+1,some i,⟨by omega,by omega,fun _ e=>by cases e;exact hi'⟩,td1,wkR⟩
     ·have hw:=hw' i
      simp only[Fx,H2]
      try refine gz ?_
      exact⟨n+1,some i,⟨by omega,by omega,fun _ e=>by cases e;exact hi i rfl⟩,td1,wkR⟩
   ·repeat' first|refine gz ?_|refine Ax (h153) ?_|refine callP (h153) ?_|refine Ax (h154) ?_|refine callP (h154) ?_|refine gz ?_|apply gy<;>intro hh
    ·have hx:BA (ordersN g n) n (parentsF g n)=(n:Int)::(BV ls).1++[0]:=by rw[BA,hls];simp[hh]
     refine appC (fun j hj =>?_) (hne:=by simp[cI];exact hm0)
     try refine gz ?_
     refine rtl 41 (.slice [[sl (cI ((n:Int)::(BV ls).1++[0]))]] .clip) ?_ (E2 _ ⟨⟨Cj _ (by simp[cI]),trivial⟩,trivial⟩)
     refine drp (sgO V n ow) ?_ ((Sub.refl _).set hj)
     have hw':∀i,WkD (.slice (cII (ordersN g n)++[[sl (cI (BA (ordersN g n) n (parentsF g n)))]]) (.tag i)) (.slice (cII (ordersN g (n+1))) (ownO (some i))):=fun i=>AS (by rw[hstep];simp[cII])
     rw[hx]at hw'
     rcases ow with _|i
     ·refine appC (fun i hi' =>?_) (hlen:=BJ _)
      have hw:=hw' i
      have hsub:Sub (sgO V (n+1) (some i)) ((sgO V n none).set i (.tail (tab 23).size ((cII (ordersN g n)).length+[[sl (cI [])]].length))):=B3 (by simp[hol])
      try refine gz ?_
      exact⟨n+1,some i,⟨by omega,by omega,fun _ e=>by cases e;exact hi'⟩,td1,wkR⟩
     ·have hw:=hw' i
      simp only[Fx,H2]
      try refine gz ?_
      exact⟨n+1,some i,⟨by omega,by omega,fun _ e=>by cases e;exact hi i rfl⟩,td1,wkR⟩
    ·have hx:BA (ordersN g n) n (parentsF g n)=[]:=by rw[BA,hls];simp[hh]
     refine rtl 41 (.slice [[sl (cI [])]] .clip) ?_ (E2 _ ⟨⟨Al _ (.inl rfl),trivial⟩,trivial⟩)
     have hw':∀i,WkD (.slice (cII (ordersN g n)++[[sl (cI (BA (ordersN g n) n (parentsF g n)))]]) (.tag i)) (.slice (cII (ordersN g (n+1))) (ownO (some i))):=fun i=>AS (by rw[hstep];simp[cII])
     rw[hx]at hw'
     rcases ow with _|i
     ·refine appC (fun i hi' =>?_) (hlen:=BJ _)
      have hw:=hw' i
      have hsub:Sub (sgO V (n+1) (some i)) ((sgO V n none).set i (.tail (tab 23).size ((cII (ordersN g n)).length+[[sl (cI [])]].length))):=B3 (by simp[hol])
      try refine gz ?_
      exact⟨n+1,some i,⟨by omega,by omega,fun _ e=>by cases e;exact hi'⟩,td1,wkR⟩
     ·have hw:=hw' i
      simp only[Fx,H2]
      try refine gz ?_
      exact⟨n+1,some i,⟨by omega,by omega,fun _ e=>by cases e;exact hi i rfl⟩,td1,wkR⟩
 ·have hne:n=3+g.length:=by omega
  subst hne
  have hsub:Sub V (sgO V (3+g.length) ow):=by
   rcases ow with _|i
   ·exact Sub.refl _
   ·exact(Sub.refl _).set (hi i rfl)
  try refine gz ?_
  exact fe1 (d':=sl (cII (ordersN g (3+g.length)))) trivial
@[reducible,instance] def a67:=fun g o V=>ah2 (@M0 g o V)
theorem Wf(g:List (List Int))(c:Int)(o:Own)(V:Sig)(hb:Bq g=true)(hc:0<=c/\c<3+g.length)(hl:∀x∈g,x.length<=1073741824:=by exact sd):
  DCall prog 33 [.slice (cII g) o,dI c] V (rS (.tup [sl (cI (FE g c)),.bool (decide (0<(FE g c).length))]) V):=by
 obtain⟨k,rfl⟩:∃k:Nat,c=(k:Int):=⟨c.toNat,by omega⟩
 have hk:k<3+g.length:=by omega
 have hlen:=DQ hb
 have hL:(ordersN g (3+g.length))[k]'(by simpa using hk)=FE g k:=by
  unfold FE Av
  rw[show((k:Int)).toNat=k by omega,List.getElem?_eq_getElem (by simpa using hk)];rfl
 have hlb:(FE g k).length<=80000000:=CW hb (by omega) hc.1
 have hol:=Bg g (3+g.length)
 refine en func33 ntmps33 ?_
 repeat' first|refine gf hL ?_|refine Ax (M0 g o V hb hl) ?_|refine callP (M0 g o V hb hl) ?_|refine gf hL ?_|apply gy<;>intro hh
 exact fe2 trivial
def B9(bs:List Bool):List D:=bs.map .bool
@[simp] theorem WA(bs:List Bool):(B9 bs).length=bs.length:=by simp[B9]
@[simp] theorem boolsD_get(bs:List Bool)(k:Nat):(B9 bs)[k]? = (bs[k]?).map .bool:=by simp[B9]
theorem Rv(bs:List Bool)(k:Nat)(b:Bool):(B9 bs).set k (.bool b)=B9 (bs.set k b):=by simp[B9]
@[simp] theorem boolsD_put(bs:List Bool)(k:Nat)(b:Bool)(h:k<bs.length):(B9 bs).take k ++ .bool b::(B9 bs).drop (k+1)=B9 (bs.set k b):=by
 rw[<-Rv,List.set_eq_take_append_cons_drop,if_pos (by simpa using h)]
def Gi(k:Nat):List Int->List Bool->List Bool
 |[],bs=>bs
 |p::r,bs=>Gi k r (bs.set p.toNat (bs.getD p.toNat false||bs.getD k false))
def upD(g:List (List Int)):Nat->List Bool->List Bool
 |0,bs=>bs
 |j+1,bs=>upD g j (Gi (j+3) (parentsF g (j+3:Nat)) bs)
def upF(g:List (List Int))(c:Int):List Bool:=upD g (c.toNat-2) ((List.replicate (3+g.length) false).set c.toNat true)
theorem Tq(w:World)(c:Int)(V:Sig)(hb:Bq w.parents=true)(hc:0<=c/\c<3+w.parents.length):
  DCall prog 273 [.agg (Da w),dI c] V fun x S' => ∃i,x=.ret (.sref i 0 (3+w.parents.length) (3+w.parents.length))/\V i=none/\S'=V.set i (.cells (B9 (upF w.parents c))):=by
 have hlen:=DQ hb
 obtain⟨k,rfl⟩:∃k:Nat,c=(k:Int):=⟨c.toNat,by omega⟩
 refine en func273 ntmps273 ?_
 try refine gz ?_
 refine Sy (k:=3+w.parents.length) (c:=3+w.parents.length) (z:=[.bool false]) (sz:=1) (fun i hi hm =>?_)
 have e0:mS V (some (i,3+w.parents.length,(List.replicate (3+w.parents.length-(3+w.parents.length)) [D.bool false]).flatten)) (List.replicate (3+w.parents.length) [D.bool false])=V.set i (.cells (B9 (List.replicate (3+w.parents.length) false))):=by
  simp only[mS,Nat.sub_self,List.replicate_zero,List.flatten_nil,List.append_nil]
  congr 2
  generalize 3+w.parents.length=m
  induction m with
  |zero=>rfl
  |succ m ih=>rw[List.replicate_succ,List.replicate_succ,List.flatten_cons,ih];rfl
 rw[e0]
 generalize hb0:List.replicate (3+w.parents.length) false=b0
 have hl0:b0.length=3+w.parents.length:=by rw[<-hb0];simp
 try refine gf hl0 ?_
 refine AA [2,4,5,47] (fun (m:Nat) (bs:List Bool)=>m<=k/\bs.length=3+w.parents.length/\upD w.parents (m-2) bs=upF w.parents k) (fun m _=>[(6,dI m)]) (fun _ bs=>V.set i (.cells (B9 bs))) (fun m _=>m) (k) (b0.set k true) (by exact⟨Nat.le_refl _,by simpa using hl0,by rw[upF, <-hb0];rfl⟩) (fun m bs hI =>?_)
 obtain⟨hm,hbl,hU⟩:=hI
 have hi3:(V.set i (.cells (B9 bs))) i=some (.cells (B9 bs)):=w7 ..
 by_cases h3:3<=m
 ·obtain⟨j,hj⟩:∃j,m=j+3:=⟨m-3,by omega⟩
  have hpar:w.parents[j]'(by omega)=parentsF w.parents m:=by
   unfold parentsF
   rw[if_neg (by omega),show((m:Int)-3).toNat=j by omega,List.getElem?_eq_getElem (by omega)];rfl
  have hpp:=BB hb m
  rw[show m-2=j+1 by omega,upD, <-hj]at hU
  rw[<-hpar]at hU hpp
  have e3:(m:Int)-3=j:=by omega
  generalize hps:w.parents[j]'(by omega)=ps at hU hpp
  try refine gf (gi e3 hps) ?_
  refine AA [2,4,5,6,18,19,20,21,22,23,24,25,26,27,28,47] (fun (q:Nat) (b2:List Bool)=>q<=ps.length/\b2.length=3+w.parents.length/\Gi m ps bs=Gi m (ps.drop q) b2) (fun q _=>[(29,dI q)]) (fun _ b2=>V.set i (.cells (B9 b2))) (fun q _=>ps.length-q) (0) (bs) (by exact⟨by omega,hbl,rfl⟩) (fun q b2 hI =>?_)
  obtain⟨hq,hbl2,hR⟩:=hI
  have hi4:(V.set i (.cells (B9 b2))) i=some (.cells (B9 b2)):=w7 ..
  by_cases hq':q<ps.length
  ·have hp:=hpp.2 _ (List.getElem_mem hq')
   rw[A0 hq',Gi]at hR
   obtain⟨p,hpe⟩:∃p:Nat,ps[q]=(p:Int):=⟨(ps[q]).toNat,by omega⟩
   rw[hpe]at hR hp
   have hm2:m<b2.length:=by omega
   have hp2:p<b2.length:=by omega
   rw[show((p:Int)).toNat=p by omega,List.getD_eq_getElem?_getD,List.getD_eq_getElem?_getD,List.getElem?_eq_getElem hm2,List.getElem?_eq_getElem hp2,Option.getD_some,Option.getD_some]at hR
   repeat' first|refine gf (gi e3 (gi hps hpe)) ?_|apply gy<;>intro hh
   ·rw[hh,Bool.true_or]at hR
    exact⟨q+1,b2.set p true,⟨by omega,by simpa using hbl2,hR⟩,td1,wkR⟩
   ·rw[hh,Bool.false_or]at hR
    exact⟨q+1,b2.set p b2[m],⟨by omega,by simpa using hbl2,hR⟩,td1,wkR⟩
  ·rw[A1 hq',Gi]at hR
   rw[hR]at hU
   try refine gz ?_
   exact⟨m-1,b2,⟨by omega,hbl2,by rw[show m-1-2=j by omega];exact hU⟩,td1,wkR⟩
 ·rw[show m-2=0 by omega,upD]at hU
  subst hU
  try refine gz ?_
  exact fin1 (S':=V.set i (.cells (B9 (upF w.parents k)))) ⟨i,rfl,hi,rfl⟩
theorem Dl(k:Nat): ∀(ps:List Int) (bs:List Bool),(Gi k ps bs).length=bs.length
 |[],_=>rfl
 |p::r,bs=>by rw[Gi,Dl k r,List.length_set]
theorem Kk(g:List (List Int)): ∀(j:Nat) (bs:List Bool),(upD g j bs).length=bs.length
 |0,_=>rfl
 |j+1,bs=>by rw[upD,Kk g j,Dl]
theorem Qe(g:List (List Int))(c:Int):(upF g c).length=3+g.length:=by rw[upF,Kk,List.length_set,List.length_replicate]
def Ib(g:List (List Int))(a b:Int):Bool:=decide (a=b)||decide (b=0)||(decide (3<=a)&&(upF g a).getD b.toNat false)
theorem JB(w:World)(a b:Int)(V:Sig)(hb:Bq w.parents=true)(ha:0<=a/\a<3+w.parents.length)(hb':0<=b/\b<3+w.parents.length):
  DCall prog 230 [.agg (Da w),dI a,dI b] V (rS (.bool (Ib w.parents a b)) V):=by
 have hlen:=DQ hb
 obtain⟨k,rfl⟩:∃k:Nat,b=(k:Int):=⟨b.toNat,by omega⟩
 have hul:=Qe w.parents a
 have hk:k<(upF w.parents a).length:=by omega
 have hget:(upF w.parents a).getD k false=(upF w.parents a)[k]:=by rw[List.getD_eq_getElem?_getD,List.getElem?_eq_getElem hk];rfl
 refine en func230 ntmps230 ?_
 by_cases h1:a=(k:Int)\/(k:Int)=0
 ·have e:Ib w.parents a k=true:=by
   unfold Ib
   rcases h1 with h1|h1<;>simp[h1]
  repeat' first|refine gz ?_|apply gy<;>intro hh
  any_goals (first|exact fe1 e|fail)
 ·have e:Ib w.parents a k=(decide (3<=a)&&(upF w.parents a)[k]):=by
   unfold Ib
   rw[show((k:Int)).toNat=k by omega,hget]
   simp only[not_or]at h1
   rw[decide_eq_false h1.1,decide_eq_false h1.2];rfl
  by_cases h3:3<=a
  ·try refine gz ?_
   refine Ab (Tq w a _ hb ha) (fun d S' hx =>?_) (fun d S' hx=>by obtain⟨_,hx,_⟩:=hx;cases hx)
   obtain⟨i,hx,hi,rfl⟩:=hx
   cases hx
   simp only[putD]
   try refine gz ?_
   exact fe1 (gi e h3)
  ·try refine gz ?_
   exact fe1 (gi e h3)
@[reducible,instance] def a230:=fun w a b V=>ah3 (@JB w a b V)
def hasW(w:World)(c s:Int):Bool:=decide (3<=c)&&Ib w.parents c ((w.owner[s.toNat]?).getD 0)
theorem U8(w:World)(c s:Int)(V:Sig)(hb:Bq w.parents=true)(hc:0<=c/\c<3+w.parents.length)(hs:0<=s/\s<w.owner.length)(ho:∀x∈w.owner,0<=x/\x<3+w.parents.length):
  DCall prog 176 [.agg (Da w),dI c,dI s] V (rS (.bool (hasW w c s)) V):=by
 have hlen:=DQ hb
 obtain⟨k,rfl⟩:∃k:Nat,s=(k:Int):=⟨s.toNat,by omega⟩
 have hk:k<w.owner.length:=by omega
 have hok:=ho _ (List.getElem_mem hk)
 have e:hasW w c k=(decide (3<=c)&&Ib w.parents c (w.owner[k])):=by
  unfold hasW;rw[show((k:Int)).toNat=k by omega,List.getElem?_eq_getElem hk];rfl
 refine en func176 ntmps176 ?_
 by_cases h3:3<=c
 ·repeat' first|refine gz ?_|refine moRG (JB w c (w.owner[k]) V hb hc hok) ?_|refine moPG (JB w c (w.owner[k]) V hb hc hok) ?_|refine gz ?_ o176|apply gy<;>intro hh
  exact fe1 (gi e h3)
 ·try refine gz ?_ o176
  exact fe1 (gi e h3)
@[reducible,instance] def a176:=fun w c s V=>ah4 (@U8 w c s V)
end Go.DL
