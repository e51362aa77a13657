/- A part of the proof. -/
import Derived.Test.YtlfimpogphmbdaaGreatM16
import Derived.Test.YtlfimpogphmbdaaGreatM15
set_option linter.all false
namespace Go.DL
open Go.Proofs.Tryz
open Go Go.Proofs
set_option maxHeartbeats 8000000
theorem ID{i:Nat}: ∀{l seen:List Int},E9 i seen l=true->∀p∈l,3<=p/\p<3+i
 |[],_,_,p,hp=>by simp at hp
 |q::r,seen,h,p,hp=>by
  simp only[E9,Bool.and_eq_true,decide_eq_true_eq]at h;rcases List.mem_cons.1 hp with rfl|hp
  ·exact h.1.1
  ·exact ID h.2 p hp
theorem EN: ∀{g:List (List Int)}{i:Nat},CD i g=true->∀k (hk:k<g.length),IC (i+k) g[k]=true
 |l::r,i,h,0,_=>by simp only[CD,Bool.and_eq_true]at h;exact h.1
 |l::r,i,h,k+1,hk=>by
  simp only[CD,Bool.and_eq_true]at h;have:=EN h.2 k (by simpa using hk);rw[show i+(k+1)=i+1+k by omega];exact this
theorem Cg{g:List (List Int)}(h:Ca g=true)(c:Nat):(parentsF g c).length<=3 /\ ∀p∈parentsF g c,3<=p/\p<c:=by
 simp only[Ca,Bool.and_eq_true]at h;unfold parentsF;split
 ·simp
 ·rename_i hc
  by_cases hk:(((c:Int)-3).toNat)<g.length
  ·have:=EN h.2 _ hk;rw[List.getElem?_eq_getElem hk,Option.getD_some];simp only[IC,Bool.and_eq_true,decide_eq_true_eq]at this;refine⟨this.1,fun p hp=>?_⟩;have:=ID this.2 p hp;omega
  ·rw[List.getElem?_eq_none (by omega)];simp
theorem Hy{g:List (List Int)}(h:Ca g=true):g.length<=16:=by
 simp only[Ca,Bool.and_eq_true,decide_eq_true_eq]at h;exact h.1
def ordersN(g:List (List Int)):Nat->List (List Int)
 |0=>[]
 |n+1=>ordersN g n++[if n=0 then [0] else CX (ordersN g n) n (parentsF g n)]
theorem C0(g:List (List Int)): ∀n,(ordersN g n).length=n
 |0=>rfl
 |n+1=>by rw[ordersN,List.length_append,C0 g n];rfl
theorem EG(os:List (List Int))(x:List Int){p:Int}(hp:0<=p):AA (os++[x]) p=if p=os.length then x else AA os p:=by
 unfold AA
 by_cases h:p.toNat<os.length
 ·rw[List.getElem?_append_left h,if_neg (by omega)]
 ·by_cases h2:p=os.length
  ·rw[if_pos h2,h2];simp
  ·rw[if_neg h2,List.getElem?_eq_none (by simp;omega),List.getElem?_eq_none (by omega)]
theorem It{os:List (List Int)}{M:Nat}: ∀{ps:List Int}{ls:List (List Int)},CZ os ps=some ls->(∀p∈ps,(AA os p).length<=M)->totL ls<=ps.length*M/\ls.length=ps.length
 |[],ls,h,_=>by simp only[CZ,Option.some.injEq]at h;subst h;simp[totL]
 | p::r,ls,h,hM=>by
  rw[CZ]at h;split at h
  ·cases h
  ·cases hr:CZ os r with
   |none=>rw[hr]at h;cases h
   |some l2=>
    rw[hr]at h;simp only[Option.map_some,Option.some.injEq]at h;subst h;obtain⟨h1,h2⟩:=It hr fun q hq=>hM q (List.mem_cons_of_mem _ hq);have h3:=hM p (List.mem_cons_self ..);have h4:((AA os p).filter fun x=> !decide (x=0)).length<=(AA os p).length:=List.length_filter_le ..;simp only[totL,List.length_cons,Nat.add_mul];omega
theorem TN(a b:List (List Int)):totL (a++b)=totL a+totL b:=by
 induction a with
 |nil=>simp[totL]
 |cons x a ih=>simp only[List.cons_append,totL,ih];omega
theorem He{os:List (List Int)}{M:Nat}{ps:List Int}{ls:List (List Int)}(h:C9 os ps=some ls)(hM:∀p∈ps,(AA os p).length<=M):totL ls<=ps.length*M+ps.length/\ls.length=ps.length+1:=by
 unfold C9 at h;cases hr:CZ os ps with
 |none=>rw[hr]at h;cases h
 |some l2=>
  rw[hr]at h;simp only[Option.map_some,Option.some.injEq]at h;subst h;obtain⟨h1,h2⟩:=It hr hM;rw[TN];simp[totL];omega
theorem G6{os:List (List Int)}{M:Nat}{c:Int}{ps:List Int}(hM:∀p∈ps,(AA os p).length<=M):(CX os c ps).length<=ps.length*M+ps.length+2:=by
 unfold CX;cases h:C9 os ps with
 |none=>simp
 |some ls=>
  have h1:=(He h hM).1;have h2:=Fs ls;simp only;split
  ·simp only[List.length_append,List.length_cons,List.length_nil];omega
  ·simp
theorem G5{g:List (List Int)}(h:Ca g=true): ∀n, ∀p:Int,0<=p->(AA (ordersN g n) p).length+3<=5*3 ^ (n-4)
 |0,p,_=>by simp[ordersN,AA]
 | n+1,p,hp=>by
  have ih:=G5 h n;have hmono:5*3 ^ (n-4)<=5*3 ^ (n+1-4):=Nat.mul_le_mul_left _ (Nat.pow_le_pow_right (by decide) (by omega));have hpos:1<=3 ^ (n+1-4):=Nat.one_le_pow _ _ (by decide);rw[ordersN,EG _ _ hp,C0];split
  ·split
   ·rw[List.length_singleton];omega
   ·obtain⟨g1,g2⟩:=Cg h n
    by_cases hn:n<4
    ·have he:parentsF g n=[]:=by
      cases hq:parentsF g n with
      |nil=>rfl
      |cons q r=>have:=g2 q (by rw[hq];simp);omega
     have:=G6 (os:=ordersN g n) (M:=0) (c:=n) (ps:=parentsF g n) (by rw[he];simp);rw[he]at this⊢;simp at this;omega
    ·have:=G6 (os:=ordersN g n) (M:=5*3 ^ (n-4)-3) (c:=n) (ps:=parentsF g n) (fun q hq=>by have:=ih q (by have:=g2 q hq;omega);omega);have e:3 ^ (n+1-4)=3 ^ (n-4)*3:=by rw[show n+1-4=(n-4)+1 by omega,Nat.pow_succ]
     have hh:(parentsF g n).length*(5*3 ^ (n-4)-3)<=3*(5*3 ^ (n-4)-3):=Nat.mul_le_mul_right _ g1;have hpos':1<=3 ^ (n-4):=Nat.one_le_pow _ _ (by decide);rw[e];omega
  ·exact Nat.le_trans (ih p hp) hmono
theorem E3{g:List (List Int)}(h:Ca g=true){n:Nat}(hn:n<=3+g.length){p:Int}(hp:0<=p):(AA (ordersN g n) p).length<=80000000:=by
 have h1:=G5 h n p hp;have h2:3 ^ (n-4)<=3 ^ 15:=Nat.pow_le_pow_right (by decide) (by have:=Hy h;omega);have h3:(3:Nat) ^ 15=14348907:=by decide
 omega
theorem Qe(ig im:Nat)(a b:D)(om:List (Int×List Int))(V:Sig)(hg:V ig=some (.cells [a,b,.map im]))(hm:V im=some (.map (eIO om))):
  DCall prog 202 [.ptr ig 0,dI 0] V fun x S'=>x=.ret (.tup [])/\S'=V.set im (.map (eIO (putM 0 [0] om))):=by
 refine en func202 ntmps202 ?_;refine gf (gi hg hm) ?_ o202;refine rtl 14 (sl (cI [0])) ?_;refine gf (gi hg hm) ?_ o202;exact fin0 (S':=V.set im (.map (eIO (putM 0 [0] om)))) ⟨rfl,rfl⟩
theorem P5(ps:List (List Int))(cs:List Int)(o o':Own)(V:Sig)(hb:Ca ps=false)(hl:ps.length<=1073741824:=by exact sd)(hl2:∀x∈ps,x.length<=1073741824:=by exact sd)(hc:cs.length<=1073741824:=by exact sd):
  DCall prog 119 [.slice (cII ps) o,.slice (cI cs) o'] V (rS (.tup [.nilp,.bool false]) V):=by
 refine en func119 ntmps119 ?_
 repeat' first|refine gf hb ?_ o119|apply gy<;>intro hh
 any_goals (first|exact fe2 trivial|fail)
theorem P4(ps:List (List Int))(cs:List Int)(o o':Own)(V:Sig)(hb:Ca ps=true)(hx:¬∀c∈cs,0<=c/\c<3+ps.length)(hl:ps.length<=1073741824:=by exact sd)(hl2:∀x∈ps,x.length<=1073741824:=by exact sd)(hc:cs.length<=1073741824:=by exact sd):
  DCall prog 119 [.slice (cII ps) o,.slice (cI cs) o'] V (rS (.tup [.nilp,.bool false]) V):=by
 refine en func119 ntmps119 ?_;refine gf hb ?_ o119;refine Bj [0,8,9,10,11,13,14,18,19,34,35,36,37,38,39,40,41,42,43,44,45,46,47,48,49,50,51,52,53,54,55,56,57,58,59,60,61,62,63,64,65,66,67,68,69,70,71,72,73,74,75,76,77,78,79,80,81,82,83,84,85,86,87,88,89,90,91,92,93,94,95,96,97,98,99,100,101,102,103] (fun (k:Nat)=>k<=cs.length /\ ∀c∈cs.take k,0<=c/\c<3+ps.length) (fun k=>[(20,dI k)]) (fun _=>V) (fun k=>cs.length-k) (0) (by simp) (fun k hI=>?_);obtain⟨hk,hI⟩:=hI
 by_cases h:k<cs.length
 ·repeat' first|refine gf hb ?_ o119|apply gy<;>intro hh
  ·exact fe2 trivial
  ·exact fe2 trivial
  ·have hI':∀c∈cs.take (k+1),0<=c/\c<3+ps.length:=fun c hc=>by
    rw[AR h]at hc;rcases List.mem_append.1 hc with hc|hc
    ·exact hI c hc
    ·obtain rfl:=List.mem_singleton.1 hc;omega
   exact⟨k+1,⟨by omega,hI'⟩,td1,wkR⟩
 ·exfalso
  rw[List.take_of_length_le (by omega)]at hI;exact hx hI
def cU(us:List Int):List (List D):=us.map fun n=>[.int .u64 n]
@[simp] theorem cU_length(us:List Int):(cU us).length=us.length:=by simp[cU]
@[simp] theorem cU_all(l:List Int):(cU l).all (fun c=>c.length==1)=true:=by simp[cU]
theorem TE(a b:List Int):cU (a++b)=cU a++cU b:=by simp[cU]
@[simp] theorem cU_get(us:List Int)(k:Nat):(cU us)[k]? = (us[k]?).map fun n=>[.int .u64 n]:=by simp[cU]
theorem T7 (ps:List (List Int)) (cs:List Int) (o o':Own) (V:Sig) (hb:Ca ps=true) (hx : ∀ c ∈ cs,0<=c/\c < 3+ps.length) (hl:ps.length<=1073741824:=by exact sd) (hl2 : ∀ x ∈ ps,x.length<=1073741824:=by exact sd) (hc:cs.length<=1073741824:=by exact sd) :
  DCall prog 119 [.slice (cII ps) o,.slice (cI cs) o'] V fun x S'=> ∃ig im a b om,ig≠im/\x=.ret (.tup [.ptr ig 0,.bool true])/\S'=(V.set im (.map (eIO om))).set ig (.cells [a,b,.map im])/\V ig=none/\V im=none /\ ∀p:Int,0<=p->getM [] p om=AA (ordersN ps (3+ps.length)) p:=by
 have hlen:=Hy hb;refine en func119 ntmps119 ?_;refine gf hb ?_ o119 [40,11];refine Bj [0,8,9,10,11,13,14,18,19,34,35,36,37,38,39,40,41,42,43,44,45,46,47,48,49,50,51,52,53,54,55,56,57,58,59,60,61,62,63,64,65,66,67,68,69,70,71,72,73,74,75,76,77,78,79,80,81,82,83,84,85,86,87,88,89,90,91,92,93,94,95,96,97,98,99,100,101,102,103] (fun (k:Nat)=>k<=cs.length) (fun k=>[(20,dI k)]) (fun _=>V) (fun k=>cs.length-k) (0) (by simp) (fun k hI=>?_)
 by_cases h:k<cs.length
 ·have hxk:=hx _ (List.getElem_mem h);refine gf hb ?_ o119 [40,11];exact⟨k+1,by omega,td1,wkR⟩
 ·refine gf hb ?_ o119 [40,11];refine mmake (k:=3) (c:=3+ps.length) (z:=[.nils]) (sz:=1) (fun ir hir hm0=>?_);obtain⟨st0,hst0⟩:∃st0:MR,st0=some (ir,3+ps.length,(List.replicate (3+ps.length-3) [D.nils]).flatten):=⟨_,rfl⟩;obtain⟨es0,hes0⟩:∃es0,es0=List.replicate 3 [D.nils]:=⟨_,rfl⟩;rw[<-hst0,<-hes0]at hm0⊢;have hmd:mD st0 es0.length=.sref ir 0 3 (3+ps.length):=by rw[hst0,hes0];rfl
  have hel:es0.length=3:=by rw[hes0];rfl
  refine newIO (fun im him=>?_);obtain⟨e1,hm1⟩:=Va (o:=.map (eIO [])) hm0 him;have him':=Ro him;rw[e1];refine go1 trivial ?_;refine boxV (fun ig hig=>?_);obtain⟨e2,hm2⟩:=Va (o:=.cells [.sref ir 0 3 (3+ps.length),.nils,.map im]) hm1 hig;have hig':=Ro hig;have hgi:ig≠im:=fun h=>by rw[h,w7]at hig';cases hig'
  have hgr:ig≠ir:=fun h=>by subst h;simp[mS,hst0,w7]at hig
  rw[e2];have hld:=Rq hm2 (w7 ..);refine gf (gi hgr hld) ?_ o119 [40,11];refine mapp (new:=cII ps) (sz:=1) (h1:=by exact hmd.symm) (fun st hm3=>?_) hm2;clear hm2 hm1 hm0 e1 e2 hld hig him;obtain⟨es1,hes1⟩:∃es1,es1=es0++cII ps:=⟨_,rfl⟩;have hN:es0.length+(cII ps).length=es1.length:=by rw[hes1,List.length_append]
  have hel1:es1.length=3+ps.length:=by rw[hes1,List.length_append,hel];simp
  rw[<-hes1]at hm3⊢;rw[hN]
  obtain⟨i1,c1,hmd1⟩:∃i1 c1,mD st es1.length=.sref i1 0 es1.length c1:=by
   cases st with
   |none=>exact absurd (show es1=[] from hm3) (fun h=>by rw[h]at hel1;simp at hel1;omega)
   |some x=>exact⟨_,_,rfl⟩
  have hld:=Rq hm3 (w7 ..);obtain⟨e3,hm4⟩:=mS_put (o:=.cells [mD st es1.length,.nils,.map im]) hm3 (w7 ..);rw[hmd1]at e3 hm4⊢;rw[Sig.set_set]at e3 hm4;refine gf (gi hgr (gi hld e3)) ?_ o119 [40,11];refine mfrC (i:=ig) [] [.nils,.map im] ?_ (by rw[hmd1];exact w7 ..) hm4;rw[Sig.set_set];refine celW (i:=ig) [] [.nils,.map im] (.slice es1 .no) (.slice (cII ([]::[]::[]::ps)) .no) ?_ (w7 ..) (GC _ ?_);rw[Sig.set_set];simp only[List.nil_append];obtain⟨P,hP⟩:∃P,P=[]::[]::[]::ps:=⟨_,rfl⟩;have hPl:P.length=3+ps.length:=by rw[hP];simp;omega
  have hPx:∀x∈P,x.length<=1073741824:=by rw[hP];simpa using hl2
  have hpar:∀c (hc:c<P.length),P[c]=parentsF ps c:=by
   intro c hc;subst hP;unfold parentsF;rcases c with _|_|_|c
   ·rfl
   ·rfl
   ·rfl
   ·simp only[List.length_cons]at hc;rw[if_neg (by omega),show((((c+1+1+1:Nat)):Int)-3).toNat=c by omega,List.getElem?_eq_getElem (by omega)];rfl
  rw[<-hP];refine gf hPl ?_ o119 [40,11];refine CB ig 1 1 (w7 ..) rfl fun iu hiu=>?_;obtain⟨hug,hiu'⟩:=Aa hiu;obtain⟨hum,hiu''⟩:=Aa hiu';clear hm3 hm4 hld e3 hN hiu hiu';have hgu:ig≠iu:=fun e=>hug e.symm;have hmu:im≠iu:=fun e=>hum e.symm;have hmg:im≠ig:=fun e=>hgi e.symm;have hgn:V ig=none:=(Aa hig').2
  have hS:Sub ((((V.set iu (.tail 1 0)).set im (.map (eIO []))).set ig (.cells [.slice (cII P) .no,.slice [] (.tag iu),.map im]))) ((((V.set im (.map (eIO []))).set ig (.cells [.slice (cII P) .no,.nils,.map im])).set iu (.tail 1 0)).set ig (.cells ([.slice (cII P) .no,.nils,.map im].set 1 (.slice [] (.tag iu))))):=by
   intro k x hk;simp only[Sig.set,List.set]at hk⊢; grind
  refine Br [4,5,8,14,53,54,91,92,93,94,95,96,97,98,99,100,101,102,103] (fun (c:Nat) (us:List Int)=>c<=P.length/\us.length=c) (fun c _=>[(55,dI c)]) (fun _ us=>((V.set iu (.tail 1 us.length)).set im (.map (eIO []))).set ig (.cells [.slice (cII P) .no,.slice (cU us) (.tag iu),.map im])) (fun c _=>P.length-c) (0) ([]) (by simp) (fun c us hI=>?_);obtain⟨hcP,hus⟩:=hI
  by_cases hc':c<P.length
  ·have hxc:=hPx _ (List.getElem_mem hc');have hpc:=hpar c hc';refine gf hPl ?_ o119 [40,11];refine bldZ ?_;refine gz ?_ o119 [40,11];refine Ab (Mv 0 c _) (fun d S' hx=>?_) (fun d S' hx=>by obtain⟨⟨_,hx⟩,_⟩:=hx;cases hx);obtain⟨⟨n1,hx⟩,rfl⟩:=hx;cases hx
   repeat' first|refine gz ?_ o119 [40,11]|apply gy<;>intro hh
   refine Ab (Mv n1 0 _) (fun d S' hx=>?_) (fun d S' hx=>by obtain⟨⟨_,hx⟩,_⟩:=hx;cases hx);obtain⟨⟨n2,hx⟩,rfl⟩:=hx;cases hx
   repeat' first|refine gz ?_ o119 [40,11]|apply gy<;>intro hh
   simp only[putD];refine newV (fun ia hia=>?_);obtain⟨hag,hia1⟩:=Aa hia;obtain⟨ham,hia2⟩:=Aa hia1;obtain⟨hau,hia3⟩:=Aa hia2;have hga:ig≠ia:=fun e=>hag e.symm;have hma:im≠ia:=fun e=>ham e.symm;have hua:iu≠ia:=fun e=>hau e.symm;refine gf (gi hag (gi ham (gi hau (gi hga (gi hma hua))))) ?_ o119 [40,11];refine Br [4,5,8,9,10,11,14,53,54,55,56,57,58,59,60,61,62,63,64,65,80,81,82,83,84,85,86,87,88,89,90,91,92,93,94,95,96,97,98,99,100,101,102,103] (fun (q:Nat) (n:Int)=>q<=(P[c]).length) (fun q _=>[(66,dI q)]) (fun _ n=>(((V.set iu (.tail 1 us.length)).set im (.map (eIO []))).set ig (.cells [.slice (cII P) .no,.slice (cU us) (.tag iu),.map im])).set ia (.cells [.int .u64 n])) (fun q _=>(P[c]).length-q) (0) (n2) (by simp) (fun q n hI=>?_)
   by_cases hq:q<(P[c]).length
   ·have hp:=(Cg hb c).2 (P[c][q]) (by rw[<-hpc];exact List.getElem_mem hq);obtain⟨p,hpe⟩:∃p:Nat,P[c][q]=(p:Int):=⟨(P[c][q]).toNat,by omega⟩;have hpl:p<us.length:=by omega
    refine gf (gi hag (gi ham (gi hau (gi hga (gi hma (gi hua hpe)))))) ?_ o119 [40,11];refine E4 (Sz n (us[p]) _) (fun d S' hx=>?_) (fun d S' hx=>by obtain⟨⟨_,hx⟩,_⟩:=hx;cases hx);obtain⟨⟨n3,hx⟩,rfl⟩:=hx;cases hx;refine⟨Sub.refl _,?_⟩;simp only[putD];refine gf (gi hag (gi ham (gi hau (gi hga (gi hma hua))))) ?_ o119 [40,11];exact⟨q+1,n3,by omega,td1,wkR⟩
   ·refine gf (gi hag (gi ham (gi hau (gi hga (gi hma hua))))) ?_ (delO 20 o119) [40,11];refine Im (id:=20) [0,1,2,3,4,5,6,7,8,9] [7] (((V.set im (.map (eIO []))).set ig (.cells [.slice (cII P) .no,.slice (cU us) (.tag iu),.map im])).set ia (.cells [.int .u64 n])) ?_ ?_
    ·intro k x hk;simp only[Sig.set]at hk⊢; grind
    have hsub:Sub (((V.set im (.map (eIO []))).set ig (.cells [.slice (cII P) .no,.slice (cU us) (.tag iu),.map im])).set ia (.cells [.int .u64 n])) (((((V.set iu (.tail 1 us.length)).set im (.map (eIO []))).set ig (.cells [.slice (cII P) .no,.slice (cU us) (.tag iu),.map im])).set ia (.cells [.int .u64 n])).set iu (.tail 1 (us.length+1))):=by
     intro k x hk;simp only[Sig.set]at hk⊢; grind
    iterate 7 refine go1 (And.intro hgu (And.intro hga (And.intro hma hua))) ?_
    refine moEffW (.slice (cU (us++[n])) (.tag iu)) ?_ (he:=by simp(disch:=first|omega|assumption) [w8];and_intros<;>first|rfl|omega) (hC:=hsub) (hw:=Bd (by rw[TE];rfl));refine gf (gi hag (gi ham (gi hau (gi hga (gi hma (gi hua hgu)))))) ?_ (delO 20 o119) [40,11]
    have hsub2:Sub (((V.set iu (.tail 1 (us++[n]).length)).set im (.map (eIO []))).set ig (.cells [.slice (cII P) .no,.slice (cU (us++[n])) (.tag iu),.map im])) ((((((V.set iu (.tail 1 us.length)).set im (.map (eIO []))).set ig (.cells [.slice (cII P) .no,.slice (cU us) (.tag iu),.map im])).set ia (.cells [.int .u64 n])).set iu (.tail 1 (us.length+1))).set ig (.cells [.slice (cII P) .no,.slice (cU (us++[n])) (.tag iu),.map im])):=by
     intro k x hk;rw[List.length_append,List.length_singleton]at hk;simp only[Sig.set]at hk⊢; grind
    exact⟨c+1,(us++[n]),⟨by omega,by rw[List.length_append,List.length_singleton];omega⟩,td1,wkR⟩
  ·refine gf (gi hPl (gi hgi (gi hgu (gi hmu hmg)))) ?_ o119 [40,11];generalize hups:D.slice (cU us) (.tag iu)=ups
   have hsub3:Sub ((V.set im (.map (eIO []))).set ig (.cells [.slice (cII P) .no,ups,.map im])) (((V.set iu (.tail 1 us.length)).set im (.map (eIO []))).set ig (.cells [.slice (cII P) .no,ups,.map im])):=by
    intro k x hk;simp only[Sig.set]at hk⊢; grind
   refine Br [4,5,8,95,103] (fun (c:Nat) (om:List (Int×List Int))=>c<=P.length /\ ∀p:Int,0<=p->getM [] p om=AA (ordersN ps c) p) (fun c _=>[(96,dI c)]) (fun _ om=>(V.set im (.map (eIO om))).set ig (.cells [.slice (cII P) .no,ups,.map im])) (fun c _=>P.length-c) (0) ([]) (by exact⟨by omega,fun p _=>by simp[getM,ordersN,AA]⟩) (fun c om hI=>?_);obtain⟨hcP,hom⟩:=hI
   by_cases hc':c<P.length
   ·have hg1:((V.set im (.map (eIO om))).set ig (.cells [.slice (cII P) .no,ups,.map im])) ig=some (.cells [.slice (cII P) .no,ups,.map im]):=w7 ..;have hm1:((V.set im (.map (eIO om))).set ig (.cells [.slice (cII P) .no,ups,.map im])) im=some (.map (eIO om)):=by rw[w8 _ _ hmg,w7]
    rcases Nat.eq_zero_or_pos c with rfl|hc0
    ·refine gf hPl ?_ o119 [40,11];refine Ab (Qe ig im _ _ om _ hg1 hm1) (fun d S' hx=>?_) (fun d S' hx=>by cases hx.1);obtain⟨hx,rfl⟩:=hx;cases hx;simp only[putD];refine gf hPl ?_ o119 [40,11]
     have hsub4:Sub ((V.set im (.map (eIO (putM 0 [0] om)))).set ig (.cells [.slice (cII P) .no,ups,.map im])) (((V.set im (.map (eIO om))).set ig (.cells [.slice (cII P) .no,ups,.map im])).set im (.map (eIO (putM 0 [0] om)))):=by
      intro k x hk;simp only[Sig.set]at hk⊢; grind
     have hom':∀p:Int,0<=p->getM [] p (putM 0 [0] om)=AA (ordersN ps (0+1)) p:=fun p hp=>by
      rw[Cn,ordersN,EG _ _ hp,hom p hp];rfl
     exact⟨0+1,putM 0 [0] om,⟨by omega,hom'⟩,td1,wkR⟩
    ·have hpc:P[c]=parentsF ps c:=hpar c hc';have hpp:=Cg hb c;rw[<-hpc]at hpp;have hB:∀p:Int,0<=p->(AA (ordersN ps c) p).length<=80000000:=fun p hp=>E3 hb (by omega) hp
     have hcall:=Sy ig im P (ordersN ps c) ups om c .no ((V.set im (.map (eIO om))).set ig (.cells [.slice (cII P) .no,ups,.map im])) hgi hg1 hm1 hc' (by omega) (by omega) (by omega)
      (fun p hp=>hom p (by have:=hpp.2 p hp;omega)) (fun p hp=>by have:=hB p (by have:=hpp.2 p hp;omega);omega)
      (fun ls hls=>by
       have h1:=He hls (fun p hp=>hB p (by have:=hpp.2 p hp;omega))
       have h2:=hpp.1
       have h3:(P[c]).length*80000000<=3*80000000:=Nat.mul_le_mul_right _ h2
       omega)
     refine gf hPl ?_ o119 [40,11];refine Ab hcall (fun d S' hx=>?_) (fun d S' hx=>by cases hx.1);obtain⟨hx,rfl⟩:=hx;cases hx;simp only[putD]
     have hstep:∀p:Int,0<=p->AA (ordersN ps (c+1)) p=if p=c then CX (ordersN ps c) c P[c] else AA (ordersN ps c) p:=fun p hp=>by
      rw[ordersN,EG _ _ hp,C0,if_neg (by omega:¬c=0),<-hpc]
     have hsub4:∀om',Sub ((V.set im (.map (eIO om'))).set ig (.cells [.slice (cII P) .no,ups,.map im])) (((V.set im (.map (eIO om))).set ig (.cells [.slice (cII P) .no,ups,.map im])).set im (.map (eIO om'))):=by
      intro om' k x hk;simp only[Sig.set]at hk⊢; grind
     by_cases he:CX (ordersN ps c) c P[c]=[]
     ·rw[if_pos he]
      have hom':∀p:Int,0<=p->getM [] p om=AA (ordersN ps (c+1)) p:=fun p hp=>by
       rw[hstep p hp,hom p hp,he];split
       ·rename_i hpe;unfold AA;rw[List.getElem?_eq_none (by rw[C0];omega)];rfl
       ·rfl
      refine gf hPl ?_ o119 [40,11];exact⟨c+1,om,⟨by omega,hom'⟩,td1,wkR⟩
     ·rw[if_neg he]
      have hom':∀p:Int,0<=p->getM [] p (putM c (CX (ordersN ps c) c P[c]) om)=AA (ordersN ps (c+1)) p:=fun p hp=>by
       rw[hstep p hp,Cn,hom p hp]
      have hsub5:=hsub4 (putM c (CX (ordersN ps c) c P[c]) om);refine gf hPl ?_ o119 [40,11];exact⟨c+1,putM c (CX (ordersN ps c) c P[c]) om,⟨by omega,hom'⟩,td1,wkR⟩
   ·have hce:c=3+ps.length:=by omega
    subst hce;refine gf hPl ?_ o119 [40,11];exact fin2 (S':=(V.set im (.map (eIO om))).set ig (.cells [.slice (cII P) .no,ups,.map im])) ⟨ig,im,_,_,om,hgi,rfl,rfl,hgn,him',hom⟩
  rw[hes1,hes0];exact⟨⟨Aq _ (.inl rfl),trivial⟩,⟨Aq _ (.inl rfl),trivial⟩,⟨Aq _ (.inl rfl),trivial⟩,Oa _⟩
def LX(g:List (List Int))(c:Int):List Int:=AA (ordersN g (3+g.length)) c
def linE(g:List (List Int))(c:Int):Int:=if Ca g=true/\0<=c/\c<3+g.length then(if LX g c=[] then 7 else 0) else 2
def linF(g:List (List Int))(c:Int):List Int:=if Ca g=true/\0<=c/\c<3+g.length then LX g c else []
theorem UD(g:List (List Int))(c:Int)(o:Own)(V:Sig)(hl:g.length<=1073741824:=by exact sd)(hl2:∀x∈g,x.length<=1073741824:=by exact sd):
  DCall prog 50 [.slice (cII g) o,dI c] V (rS (.tup [sl (cI (linF g c)),dI (linE g c)]) V):=by
 refine en func50 ntmps50 ?_
 by_cases hb:Ca g=true
 ·by_cases hc:0<=c/\c<3+g.length
  ·try refine gz ?_
   refine Ab (T7 g [c] o .clip _ hb (by simpa using hc) hl hl2 (by simp)) (fun d S' hx=>?_) (fun d S' hx=>by obtain⟨_,_,_,_,_,_,hx,_⟩:=hx;cases hx);obtain⟨ig,im,a,b,om,hne,hx,rfl,hig,him,hom⟩:=hx;cases hx;simp only[putD];have hmg:im≠ig:=fun e=>hne e.symm;have hsub:Sub V ((V.set im (.map (eIO om))).set ig (.cells [a,b,.map im])):=((Sub.refl _).set him).set hig;have hlb:(LX g c).length<=80000000:=E3 hb (by omega) hc.1;have hL:getM [] c om=LX g c:=hom c hc.1
   try refine gf hmg ?_
   refine lkO ?_ (hi:=by rw[w8 _ _ hmg,w7]);rw[hL]
   by_cases he:LX g c=[]
   ·try refine gf (gi hmg he) ?_
    (refine fin2 (S':=V) (d':=sl []) ?_;exact⟨by first|rfl|(simp[linF,linE,hb,hc,he];done)|(simp_all [linF,linE,hb,hc,he];done)|(rw[Ae,Bool.eq_iff_iff];simp_all [linF,linE,hb,hc,he]<;>omega),rfl⟩)
   ·repeat' first|refine gf hmg ?_|apply gy<;>intro hh
    ·exfalso;exact he (by simpa using hh)
    ·refine lkO ?_ (hi:=by rw[w8 _ _ hmg,w7]);rw[hL]
     repeat' first|refine gf hmg ?_|refine AE (Gp (cI (LX g c)) .no _ (by simp;omega) (C4 _)) ?_|refine callP (Gp (cI (LX g c)) .no _ (by simp;omega) (C4 _)) ?_|refine gf hmg ?_|apply gy<;>intro hh
     (refine fin2 (S':=V) ?_;exact⟨by first|rfl|(simp[linF,linE,hb,hc,he];done)|(simp_all [linF,linE,hb,hc,he];done)|(rw[Ae,Bool.eq_iff_iff];simp_all [linF,linE,hb,hc,he]<;>omega),rfl⟩)
  ·repeat' first|refine gz ?_|refine AE (P4 g [c] o .clip _ hb (by simpa using hc) hl hl2 (by simp)) ?_|refine callP (P4 g [c] o .clip _ hb (by simpa using hc) hl hl2 (by simp)) ?_|refine gz ?_|apply gy<;>intro hh
   (refine fin2 (S':=V) (d':=sl []) ?_;exact⟨by first|rfl|(simp[linF,linE,hb,hc];done)|(simp_all [linF,linE,hb,hc];done)|(rw[Ae,Bool.eq_iff_iff];simp_all [linF,linE,hb,hc]<;>omega),rfl⟩)
 ·repeat' first|refine gz ?_|refine AE (P5 g [c] o .clip _ (by simpa using hb) hl hl2 (by simp)) ?_|refine callP (P5 g [c] o .clip _ (by simpa using hb) hl hl2 (by simp)) ?_|refine gz ?_|apply gy<;>intro hh
  (refine fin2 (S':=V) (d':=sl []) ?_;exact⟨by first|rfl|(simp[linF,linE,hb];done)|(simp_all [linF,linE,hb];done)|(rw[Ae,Bool.eq_iff_iff];simp_all [linF,linE,hb]<;>omega),rfl⟩)
@[reducible,instance] def a50:=fun g c o V=>ah2 (@UD g c o V)
theorem JE: ∀(n:Nat) (ls:List (List Int)) (out:List Int) (y:Int),y∈(Ge n ls out).1->y∈out \/ ∃l∈ls,y∈l
 |0,_,_,y,h=>.inl h
 | n+1,ls,out,y,h=>by
  rw[Ge]at h;cases hn:G9 ls false ls with
  | mk a s =>
   rw[hn]at h;cases a with
   |none=>exact .inl h
   | some c =>
    obtain⟨e,he,hce⟩:=EI hn;rcases JE n _ _ y h with h|⟨l,hl,hy⟩
    ·rcases List.mem_append.1 h with h|h
     ·exact .inl h
     ·rw[List.mem_singleton]at h;exact .inr ⟨e,he,h ▸ hce⟩
    ·obtain⟨l',hl',rfl⟩:=List.mem_map.1 hl;exact .inr ⟨l',hl',(List.mem_filter.1 hy).1⟩
theorem JG{os:List (List Int)}: ∀{ps:List Int}{ls:List (List Int)},CZ os ps=some ls->∀l∈ls, ∃p∈ps,l=(AA os p).filter fun x=> !decide (x=0)
 |[],ls,h,l,hl=>by simp only[CZ,Option.some.injEq]at h;subst h;cases hl
 | p::r,ls,h,l,hl=>by
  rw[CZ]at h;split at h
  ·cases h
  ·cases hr:CZ os r with
   |none=>rw[hr]at h;cases h
   | some l2 =>
    rw[hr]at h;simp only[Option.map_some,Option.some.injEq]at h;subst h;rcases List.mem_cons.1 hl with rfl|hl
    ·exact⟨p,by simp,rfl⟩
    ·obtain⟨q,hq,e⟩:=JG hr l hl;exact⟨q,List.mem_cons_of_mem _ hq,e⟩
theorem NI{os:List (List Int)}{ps:List Int}{ls:List (List Int)}(h:C9 os ps=some ls): ∀l∈ls, ∀y∈l,(∃p∈ps,y∈AA os p)\/y∈ps:=by
 unfold C9 at h;cases hr:CZ os ps with
 |none=>rw[hr]at h;cases h
 | some l2 =>
  rw[hr]at h;simp only[Option.map_some,Option.some.injEq]at h;subst h;intro l hl y hy;rcases List.mem_append.1 hl with hl|hl
  ·obtain⟨p,hp,rfl⟩:=JG hr l hl;exact .inl ⟨p,hp,(List.mem_filter.1 hy).1⟩
  ·rw[List.mem_singleton]at hl;exact .inr (hl ▸ hy)
theorem Id{os:List (List Int)}{p:Int}{y:Int}(h:y∈AA os p): ∃x∈os,y∈x:=by
 unfold AA at h;cases hx:os[p.toNat]? with
 |none=>rw[hx]at h;cases h
 |some x=>rw[hx]at h;exact⟨x,List.mem_of_getElem? hx,h⟩
theorem Ic {g:List (List Int)} (hg:Ca g=true) : ∀ n, ∀ x ∈ ordersN g n, ∀ y ∈ x,0<=y/\y < (n:Int)
 |0,x,hx=>by cases hx
 | n+1,x,hx=>by
  have ih:=Ic hg n;rw[ordersN]at hx;intro y hy;rcases List.mem_append.1 hx with hx|hx
  ·have:=ih x hx y hy;omega
  ·rw [List.mem_singleton] at hx;subst hx;split at hy
   ·rw[List.mem_singleton]at hy;omega
   ·unfold CX at hy;cases hls:C9 (ordersN g n) (parentsF g n)with
    |none=>rw[hls]at hy;cases hy
    | some ls =>
     rw[hls]at hy;simp only at hy;split at hy
     ·simp only[List.cons_append,List.mem_cons,List.mem_append,List.not_mem_nil,or_false]at hy;rcases hy with rfl|hy|rfl
      ·omega
      ·rcases JE _ _ _ y hy with h|⟨l,hl,hyl⟩
       ·cases h
       ·rcases NI hls l hl y hyl with⟨p,_,h⟩|h
        ·obtain⟨z,hz,h⟩:=Id h;have:=ih z hz y h;omega
        ·have:=(Cg hg n).2 y h;omega
      ·omega
     ·cases hy
def ownO:Option Nat->Own
 |none=>.clip
 |some i=>.tag i
def sgO(V:Sig)(n:Nat):Option Nat->Sig
 |none=>V
 |some i=>V.set i (.tail 1 n)
attribute [simp] C0
@[simp] theorem ownO_none:ownO none=.clip:=rfl
@[simp] theorem ownO_some(i:Nat):ownO (some i)=.tag i:=rfl
@[simp] theorem sgO_none(V:Sig)(n:Nat):sgO V n none=V:=rfl
@[simp] theorem sgO_some(V:Sig)(n i:Nat):sgO V n (some i)=V.set i (.tail 1 n):=rfl
def G1:Int->List Int->Option Int
 |n,[]=>some n
 |n,s::r=>if s=n then G1 (n+1) r else none
def pathF(w:World)(l:List Int):Bool:=l.all (fun s=>decide (0<=s/\s<w.owner.length))&&decide (l.length<=2)
def wantF(op:Int):Int:=if op=5 then 1 else if op=6\/op=7 then 2 else 0
def OS(w:World)(f:Fact):Bool:=
 if f.op=2 then decide (f.n=0)&&decide (0<=f.cls/\f.cls<3+w.parents.length)
 else if f.op=3\/f.op=4 then decide (f.cls=0)&&decide (-1000000000<=f.n/\f.n<=1000000000)
 else decide (f.op=1\/f.op=5\/f.op=6\/f.op=7)
def HA(w:World)(f:Fact):Bool:=
 decide ((f.kids.length:Int)=wantF f.op)&&decide (0<=f.arg/\f.arg<3)&&pathF w f.path&&(Cm f.op||(decide (f.arg=0)&&decide (f.path.length=0)&&decide (f.cls=0)&&decide (f.n=0)))
mutual
def Ra(w:World):Fact->Bool
 |.mk o a p c n k=>OS w (.mk o a p c n k)&&HA w (.mk o a p c n k)&&Ig w k
def Ig(w:World):List Fact->Bool
 |[]=>true
 |f::l=>Ra w f&&Ig w l
end
theorem TY(w:World)(f:Fact):Ra w f=(OS w f&&HA w f&&Ig w f.kids):=by cases f;rw[Ra];rfl
theorem Ans.of{f:Nat}{us:List D}{V:Sig}{d:D}(h:DCall prog f us V (rS d V)):Ans f us V True d:=⟨fun _=>h⟩
def C6(f:Int->Int->List Int->Bool×List Int)(x:BNode)(size:Int):Nat->List Int->List Int->Bool×List Int
 |_,[],s=>(true,s)
 |j,c::r,s=>match f c (if x.op=9/\j=1 then size+1 else size) s with
  |(false,s')=>(false,s')
  |(true,s')=>C6 f x size (j+1) r s'
def Aj(p:BProg)(n:Int):BNode:=(p.nodes[n.toNat]?).getD ⟨0,0,[]⟩
def Dm(p:BProg)(inM:Bool):Nat->Int->Int->List Int->Bool×List Int
 |0,_,_,s=>(false,s)
 |k+1,node,size,s=>
  if node<0\/(p.nodes.length:Int)<=node\/0<=s.getD node.toNat 0 then(false,s) else
  if((Aj p node).kids.length:Int)≠DA p (Aj p node)\/BF p (Aj p node) size=false\/((Aj p node).op=18/\inM=false) then(false,s.set node.toNat size) else
  C6 (Dm p inM k) (Aj p node) size 0 (Aj p node).kids (s.set node.toNat size)
theorem Sig.set_self(V:Sig){i:Nat}{o:DObj}(h:V i=some o):V.set i o=V:=by
 funext k;simp only[Sig.set];split
 ·rename_i e;rw[e,h]
 ·rfl
mutual
theorem Fact.size_le: ∀f:Fact,f.size<=f.wt
 |.mk o a p c n k=>by
  have:=Fact.sizes_le k;rw[Fact.size,Fact.wt];omega
theorem Fact.sizes_le: ∀l:List Fact,Fact.sizes l<=Fact.wts l
 |[]=>Nat.le_refl _
 |f::l=>by
  have h1:=Fact.size_le f;have h2:=Fact.sizes_le l;rw[Fact.sizes,Fact.wts];omega
end
theorem Fi(s:List Int):(cI s).flatten=s.map dI:=by
 induction s with
 |nil=>rfl
 |cons x s ih=>rw[show cI (x::s)=[dI x]::cI s from rfl,List.flatten_cons,ih];rfl
end Go.DL
namespace Go.DL
open Go.Proofs.Tryz
open Go Go.Proofs
set_option maxHeartbeats 4000000
theorem Pt{x y:Init}(h1:x.slot=y.slot)(h2:x.n=y.n):x=y:=by cases x;cases y;simp_all
def eqFn{α β:Type}(eq:α->β->Bool):List α->List β->Bool
 |[],[]=>true
 |x::xs,y::ys=>eq x y&&eqFn eq xs ys
 |_,_=>false
theorem BT{α β:Type}{eq:α->β->Bool}: ∀{a:List α}{b:List β},a.length≠b.length->eqFn eq a b=false
 |[],[],h=>absurd rfl h
 |_::_,[],_=>rfl
 |[],_::_,_=>rfl
 |x::xs,y::ys,h=>by rw[eqFn,BT (fun e=>h (by simp[e])),Bool.and_false]
theorem SV(a b:List Int)(o o':Own)(V:Sig)(hl:a.length<=1073741824:=by exact sd)(hl':b.length<=1073741824:=by exact sd):
  DCall prog 157 [.slice (cI a) o,.slice (cI b) o'] V (rS (.bool (decide (a=b))) V):=by
 refine en func157 ntmps157 ?_
 repeat' first|refine gz ?_ o157|apply gy<;>intro hh
 ·have hne:a≠b:=fun e=>hh (by rw[e])
  exact fe1 hne
 have hab:=hh;refine Bj [0,1,12] (fun (k:Nat)=>k<=a.length/\(a=b ↔ a.drop k=b.drop k)) (fun k=>[(13,dI k)]) (fun _=>V) (fun k=>a.length-k) (0) (by simp) (fun k hI=>?_);obtain⟨hk,hR⟩:=hI
 by_cases h:k<a.length
 ·have hb:k<b.length:=by omega
  rw[A3 h,A3 hb]at hR
  repeat' first|refine gf h ?_ o157|apply gy<;>intro hh
  ·have hne:a≠b:=fun e=>by
    subst e;simp at hh
   exact fe1 hne
  ·exact⟨k+1,⟨by omega,by rw[hR,List.cons.injEq];exact⟨fun e=>e.2,fun e=>⟨hh,e⟩⟩⟩,td1,wkR⟩
 ·have he:a=b:=hR.2 (by rw[A2 (by omega),A2 (by omega)]);refine gf h ?_ o157;exact fe1 he
@[reducible,instance] def a157:=fun a b o o' V=>ah2 (@SV a b o o' V)
theorem SU(a b:List Init)(o o':Own)(V:Sig)(hl:a.length<=1073741824:=by exact sd)(hl':b.length<=1073741824:=by exact sd):
  DCall prog 158 [.slice (a.map CP) o,.slice (b.map CP) o'] V (rS (.bool (decide (a=b))) V):=by
 refine en func158 ntmps158 ?_
 repeat' first|refine gz ?_ o158|apply gy<;>intro hh
 ·have hne:a≠b:=fun e=>hh (by rw[e])
  exact fe1 hne
 have hab:=hh;refine Bj [0,1,12] (fun (k:Nat)=>k<=a.length/\(a=b ↔ a.drop k=b.drop k)) (fun k=>[(13,dI k)]) (fun _=>V) (fun k=>a.length-k) (0) (by simp) (fun k hI=>?_);obtain⟨hk,hR⟩:=hI
 by_cases h:k<a.length
 ·have hb:k<b.length:=by omega
  rw[A3 h,A3 hb]at hR
  repeat' first|refine gf h ?_ o158|apply gy<;>intro hh
  ·have hne:a≠b:=fun e=>by
    subst e;simp at hh
   exact fe1 hne
  ·exact⟨k+1,by(try simp at hh);exact⟨by omega,by rw[hR];simp only[List.cons.injEq];exact⟨fun e=>e.2,fun e=>⟨Pt hh.1 hh.2,e⟩⟩⟩,td1,wkR⟩
 ·have he:a=b:=hR.2 (by rw[A2 (by omega),A2 (by omega)]);refine gf h ?_ o158;exact fe1 he
@[reducible,instance] def a158:=fun a b o o' V=>ah2 (@SU a b o o' V)
theorem OZ(a b:List Init)(o o':Own)(V:Sig)(hl:a.length<=1073741824:=by exact sd)(hl':b.length<=1073741824:=by exact sd):
  DCall prog 27 [.slice (a.map CP) o,.slice (b.map CP) o'] V (rS (.bool (decide (a=b))) V):=by
 refine en func27 ntmps27 ?_
 repeat' first|refine gz ?_ o27|apply gy<;>intro hh
 ·have hne:a≠b:=fun e=>hh (by rw[e])
  exact fe1 hne
 have hab:=hh;refine Bj [0,1] (fun (k:Nat)=>k<=a.length/\(a=b ↔ a.drop k=b.drop k)) (fun k=>[(5,dI k)]) (fun _=>V) (fun k=>a.length-k) (0) (by simp) (fun k hI=>?_);obtain⟨hk,hR⟩:=hI
 by_cases h:k<a.length
 ·have hb:k<b.length:=by omega
  rw[A3 h,A3 hb]at hR
  repeat' first|refine gf h ?_ o27|apply gy<;>intro hh
  ·have hne:a≠b:=fun e=>by
    subst e;simp at hh
   exact fe1 hne
  ·exact⟨k+1,by(try simp at hh);exact⟨by omega,by rw[hR];simp only[List.cons.injEq];exact⟨fun e=>e.2,fun e=>⟨Pt hh.1 hh.2,e⟩⟩⟩,td1,wkR⟩
 ·have he:a=b:=hR.2 (by rw[A2 (by omega),A2 (by omega)]);refine gf h ?_ o27;exact fe1 he
@[reducible,instance] def a27:=fun a b o o' V=>ah2 (@OZ a b o o' V)
theorem MA(a b:List BClass)(eq:BClass->BClass->Bool)(g:Nat)(cap:List D)(o o':Own)(V:Sig)(hl:a.length<=1073741824)(hl':b.length<=1073741824)
  (hg:∀x∈a, ∀y∈b,DCall prog g ([]++[.agg (cBClass x),.agg (cBClass y)]++cap) V fun r S''=>r=.ret (.bool (eq x y))/\S''=V) :
  DCall prog 155 [.slice (a.map cBClass) o,.slice (b.map cBClass) o',.func (.func g) [] cap] V (rS (.bool (eqFn eq a b)) V):=by
 refine en func155 ntmps155 ?_
 repeat' first|refine gz ?_|apply gy<;>intro hh
 ·(refine fin1 (S':=V) ?_;exact⟨by first|rfl|(simp[BT hh];done)|(simp_all [BT hh];done)|(rw[Ae,Bool.eq_iff_iff];simp_all [BT hh]<;>omega),rfl⟩)
 have hab:=hh;refine Bj [1,2,15,16] (fun (k:Nat)=>k<=a.length/\eqFn eq a b=eqFn eq (a.drop k) (b.drop k)) (fun k=>[(17,dI k)]) (fun _=>V) (fun k=>a.length-k) (0) (by simp) (fun k hI=>?_);obtain⟨hk,hR⟩:=hI
 by_cases h:k<a.length
 ·have hb:k<b.length:=by omega
  rw[A3 h,A3 hb,eqFn]at hR
  repeat' first|refine AE (hg (a[k]) (List.getElem_mem h) (b[k]) (List.getElem_mem hb)) ?_|refine callP (hg (a[k]) (List.getElem_mem h) (b[k]) (List.getElem_mem hb)) ?_|refine gf h ?_|apply gy<;>intro hh
  ·exact fe1 hR
  ·exact⟨k+1,by(try simp at hh);exact⟨by omega,by rw[hR,hh];rfl⟩,td1,wkR⟩
 ·refine gf h ?_;rw[A2 (by omega),A2 (by omega),eqFn]at hR;exact fe1 hR
theorem Mz(a b:List BMeth)(eq:BMeth->BMeth->Bool)(g:Nat)(cap:List D)(o o':Own)(V:Sig)(hl:a.length<=1073741824)(hl':b.length<=1073741824)
  (hg:∀x∈a, ∀y∈b,DCall prog g ([]++[.agg (Ak x),.agg (Ak y)]++cap) V fun r S''=>r=.ret (.bool (eq x y))/\S''=V) :
  DCall prog 159 [.slice (a.map Ak) o,.slice (b.map Ak) o',.func (.func g) [] cap] V (rS (.bool (eqFn eq a b)) V):=by
 refine en func159 ntmps159 ?_
 repeat' first|refine gz ?_|apply gy<;>intro hh
 ·(refine fin1 (S':=V) ?_;exact⟨by first|rfl|(simp[BT hh];done)|(simp_all [BT hh];done)|(rw[Ae,Bool.eq_iff_iff];simp_all [BT hh]<;>omega),rfl⟩)
 have hab:=hh;refine Bj [1,2,15,16] (fun (k:Nat)=>k<=a.length/\eqFn eq a b=eqFn eq (a.drop k) (b.drop k)) (fun k=>[(17,dI k)]) (fun _=>V) (fun k=>a.length-k) (0) (by simp) (fun k hI=>?_);obtain⟨hk,hR⟩:=hI
 by_cases h:k<a.length
 ·have hb:k<b.length:=by omega
  rw[A3 h,A3 hb,eqFn]at hR
  repeat' first|refine AE (hg (a[k]) (List.getElem_mem h) (b[k]) (List.getElem_mem hb)) ?_|refine callP (hg (a[k]) (List.getElem_mem h) (b[k]) (List.getElem_mem hb)) ?_|refine gf h ?_|apply gy<;>intro hh
  ·exact fe1 hR
  ·exact⟨k+1,by(try simp at hh);exact⟨by omega,by rw[hR,hh];rfl⟩,td1,wkR⟩
 ·refine gf h ?_;rw[A2 (by omega),A2 (by omega),eqFn]at hR;exact fe1 hR
theorem Mx(a b:List BNode)(eq:BNode->BNode->Bool)(g:Nat)(cap:List D)(o o':Own)(V:Sig)(hl:a.length<=1073741824)(hl':b.length<=1073741824)
  (hg:∀x∈a, ∀y∈b,DCall prog g ([]++[.agg (Af x),.agg (Af y)]++cap) V fun r S''=>r=.ret (.bool (eq x y))/\S''=V) :
  DCall prog 162 [.slice (a.map Af) o,.slice (b.map Af) o',.func (.func g) [] cap] V (rS (.bool (eqFn eq a b)) V):=by
 refine en func162 ntmps162 ?_
 repeat' first|refine gz ?_|apply gy<;>intro hh
 ·(refine fin1 (S':=V) ?_;exact⟨by first|rfl|(simp[BT hh];done)|(simp_all [BT hh];done)|(rw[Ae,Bool.eq_iff_iff];simp_all [BT hh]<;>omega),rfl⟩)
 have hab:=hh;refine Bj [1,2,15,16] (fun (k:Nat)=>k<=a.length/\eqFn eq a b=eqFn eq (a.drop k) (b.drop k)) (fun k=>[(17,dI k)]) (fun _=>V) (fun k=>a.length-k) (0) (by simp) (fun k hI=>?_);obtain⟨hk,hR⟩:=hI
 by_cases h:k<a.length
 ·have hb:k<b.length:=by omega
  rw[A3 h,A3 hb,eqFn]at hR
  repeat' first|refine AE (hg (a[k]) (List.getElem_mem h) (b[k]) (List.getElem_mem hb)) ?_|refine callP (hg (a[k]) (List.getElem_mem h) (b[k]) (List.getElem_mem hb)) ?_|refine gf h ?_|apply gy<;>intro hh
  ·exact fe1 hR
  ·exact⟨k+1,by(try simp at hh);exact⟨by omega,by rw[hR,hh];rfl⟩,td1,wkR⟩
 ·refine gf h ?_;rw[A2 (by omega),A2 (by omega),eqFn]at hR;exact fe1 hR
theorem Mu(a b:List Fact)(eq:Fact->Fact->Bool)(g:Nat)(cap:List D)(o o':Own)(V:Sig)(hl:a.length<=1073741824)(hl':b.length<=1073741824)
  (hg:∀x∈a, ∀y∈b,DCall prog g ([]++[.agg (Ba x),.agg (Ba y)]++cap) V fun r S''=>r=.ret (.bool (eq x y))/\S''=V) :
  DCall prog 224 [.slice (a.map Ba) o,.slice (b.map Ba) o',.func (.func g) [] cap] V (rS (.bool (eqFn eq a b)) V):=by
 refine en func224 ntmps224 ?_
 repeat' first|refine gz ?_|apply gy<;>intro hh
 ·(refine fin1 (S':=V) ?_;exact⟨by first|rfl|(simp[BT hh];done)|(simp_all [BT hh];done)|(rw[Ae,Bool.eq_iff_iff];simp_all [BT hh]<;>omega),rfl⟩)
 have hab:=hh;refine Bj [1,2,15,16] (fun (k:Nat)=>k<=a.length/\eqFn eq a b=eqFn eq (a.drop k) (b.drop k)) (fun k=>[(17,dI k)]) (fun _=>V) (fun k=>a.length-k) (0) (by simp) (fun k hI=>?_);obtain⟨hk,hR⟩:=hI
 by_cases h:k<a.length
 ·have hb:k<b.length:=by omega
  rw[A3 h,A3 hb,eqFn]at hR
  repeat' first|refine AE (hg (a[k]) (List.getElem_mem h) (b[k]) (List.getElem_mem hb)) ?_|refine callP (hg (a[k]) (List.getElem_mem h) (b[k]) (List.getElem_mem hb)) ?_|refine gf h ?_|apply gy<;>intro hh
  ·exact fe1 hR
  ·exact⟨k+1,by(try simp at hh);exact⟨by omega,by rw[hR,hh];rfl⟩,td1,wkR⟩
 ·refine gf h ?_;rw[A2 (by omega),A2 (by omega),eqFn]at hR;exact fe1 hR
def idxF{α:Type}(q:α->Bool):List α->Nat->Int
 |[],_=> -1
 |x::r,k=>if q x then k else idxF q r (k+1)
theorem E6{α:Type}(q:α->Bool): ∀(l:List α) (k:Nat),decide (0<=idxF q l k)=l.any q
 |[],_=>rfl
 |x::r,k=>by
  rw[idxF,List.any_cons];cases hq:q x
  ·simp only[Bool.false_eq_true,if_false,Bool.false_or];exact E6 q r (k+1)
  ·simp
theorem Mm(l:List Str)(q:Str->Bool)(g:Nat)(cap:List D)(o:Own)(V:Sig)(hl:l.length<=1073741824)
  (hg:∀x∈l,DCall prog g ([]++[.str x]++cap) V fun r S''=>r=.ret (.bool (q x))/\S''=V) :
  DCall prog 304 [.slice (cS l) o,.func (.func g) [] cap] V (rS (dI (idxF q l 0)) V):=by
 refine en func304 ntmps304 ?_;refine gz ?_;refine Bj [0,1,7] (fun (k:Nat)=>k<=l.length/\idxF q l 0=idxF q (l.drop k) k) (fun k=>[(8,dI k)]) (fun _=>V) (fun k=>l.length-k) (0) td3 (fun k hI=>?_);obtain⟨hk,hR⟩:=hI
 by_cases h:k<l.length
 ·rw[A3 h,idxF]at hR
  repeat' first|refine AE (hg (l[k]) (List.getElem_mem h)) ?_|refine callP (hg (l[k]) (List.getElem_mem h)) ?_|refine gf h ?_|apply gy<;>intro hh
  ·exact fe1 hR
  ·exact⟨k+1,⟨by omega,by rw[hR,hh];rfl⟩,td1,wkR⟩
 ·refine gf h ?_
  (refine fin1 (S':=V) ?_;exact⟨by first|rfl|(simp[hR,A2 h,idxF];done)|(simp_all [hR,A2 h,idxF];done)|(rw[Ae,Bool.eq_iff_iff];simp_all [hR,A2 h,idxF]<;>omega),rfl⟩)
theorem Mp(l:List Str)(q:Str->Bool)(g:Nat)(cap:List D)(o:Own)(V:Sig)(hl:l.length<=1073741824)
  (hg:∀x∈l,DCall prog g ([]++[.str x]++cap) V fun r S''=>r=.ret (.bool (q x))/\S''=V) :
  DCall prog 280 [.slice (cS l) o,.func (.func g) [] cap] V (rS (.bool (l.any q)) V):=by
 refine en func280 ntmps280 ?_
 repeat' first|refine gz ?_|refine AE (Mm l q g cap o V hl hg) ?_|refine callP (Mm l q g cap o V hl hg) ?_|refine gz ?_|apply gy<;>intro hh
 (refine fin1 (S':=V) ?_;exact⟨by first|rfl|(simp[E6];done)|(simp_all [E6];done)|(rw[Ae,Bool.eq_iff_iff];simp_all [E6]<;>omega),rfl⟩)
theorem Mo(q:Str->Bool)(g:Nat)(cap:List D)(x:Str)(V:Sig)
  (hg:DCall prog g ([]++[.str x]++cap) V fun r S''=>r=.ret (.bool (q x))/\S''=V) :
  DCall prog 281 [.str x,.cptr [.func (.func g) [] cap] 0] V (rS (.bool (!q x)) V):=by
 refine en func281 ntmps281 ?_
 repeat' first|refine AE (hg) ?_|refine callP (hg) ?_|refine gz ?_|apply gy<;>intro hh
 exact fe1 trivial
theorem Ms(l:List Str)(q:Str->Bool)(g:Nat)(cap:List D)(o:Own)(V:Sig)(hl:l.length<=1073741824)
  (hg:∀x∈l,DCall prog g ([]++[.str x]++cap) V fun r S''=>r=.ret (.bool (q x))/\S''=V) :
  DCall prog 242 [.slice (cS l) o,.func (.func g) [] cap] V (rS (.bool (l.all q)) V):=by
 refine en func242 ntmps242 ?_
 repeat' first|refine gz ?_|refine AE (Mp l (fun x=> !q x) 281 [.cptr [.func (.func g) [] cap] 0] o V hl (fun x hx=>Mo q g cap x V (hg x hx))) ?_|refine callP (Mp l (fun x=> !q x) 281 [.cptr [.func (.func g) [] cap] 0] o V hl (fun x hx=>Mo q g cap x V (hg x hx))) ?_|refine gz ?_|apply gy<;>intro hh
 (refine fin1 (S':=V) ?_;exact⟨by first|rfl|(simp[List.not_all_eq_any_not];done)|(simp_all [List.not_all_eq_any_not];done)|(rw[Ae,Bool.eq_iff_iff];simp_all [List.not_all_eq_any_not]<;>omega),rfl⟩)
theorem Mw(i:Nat)(b:Bool)(V:Sig)(hi:V i=some (.cells [.bool b])):Nh prog 166 [.ptr i 0] V none V/\Nh prog 166 [.ptr i 0] V (some unf) (V.set i (.cells [.bool false])):=by
 constructor
 ·refine HF func166 rfl ntmps166 (by simp) (by decide) (by decide) rfl ?_;simp only[Option.getD_none]
  repeat' first|refine gz ?_|apply gy<;>intro hh
  exact⟨.inl rfl,rfl,Sub.refl _⟩
 ·refine HF func166 rfl ntmps166 (by simp) (by decide) (by decide) rfl ?_;simp only[Option.getD_some]
  repeat' first|refine gf hi ?_|apply gy<;>intro hh
  exact⟨.inl rfl,rfl,Sub.refl _⟩
theorem KE{V:Sig}{i:Nat}{o:DObj}:Sub (V.del i) (V.set i o):=fun j x h=>by
 by_cases hj:j=i
 ·subst hj;simp[Sig.del]at h
 ·rw[w8 _ _ hj];simpa[Sig.del,hj] using h
theorem Uw(g:Nat)(cap:List D)(V:Sig)(R:Sig->DE->Sig->Prop)
  (hg:∀i,V i=none->DCall prog g cap (V.set i (.cells [.bool false])) (R (V.set i (.cells [.bool false]))))
  (hR:∀S' d S'',R S' (.panic d) S''->d=unf) (hk:∀i S'' x,V i=none->R (V.set i (.cells [.bool false])) x S''->S'' i=some (.cells [.bool false])) :
  DCall prog 78 [.func (.func g) [] cap] V fun x S'=> ∃i S'',V i=none/\S'=S''.del i /\
   ((∃d,R (V.set i (.cells [.bool false])) (.ret d) S''/\x=.ret (.bool true))\/(R (V.set i (.cells [.bool false])) (.panic unf) S''/\x=.ret (.bool false))):=by
 refine Gw (fd:=166) func78 rfl (Db func166 (by rfl) (by rfl)) (by rw[Al];decide) (by decide) ntmps78 (by simp) ?_;refine gz ?_ [] [2];refine newV (fun i hi=>?_);refine gz ?_ [] [2];refine Ke (f:=166) (by rw[Al];decide) rfl rfl ?_;refine gz ?_ [] [2];refine Ab (hg i hi) (fun d S' hr=>?_) (fun d S' hp=>?_)
 ·have hi':=hk i S' _ hi hr;refine gf hi' ?_ [] [2];refine⟨_,Wk.refl _ _ _,[.ptr i 0],S'.set i (.cells [.bool true]),.bool true,rfl,(Mw i true _ (w7 ..)).1,Cy (ds:=[.bool true]) Ad ?_,.ret (.bool true),S'.del i,A7 _,KE,i,S',hi,rfl,.inl ⟨d,hr,rfl⟩⟩;simp[resL]
 ·have hi':=hk i S' _ hi hp;obtain rfl:=hR _ _ _ hp;refine gz ?_ [] [2];refine⟨_,Wk.refl _ _ _,[.ptr i 0],S'.set i (.cells [.bool false]),.bool false,rfl,(Mw i false _ hi').2,Cy (ds:=[.bool false]) Ad ?_,.ret (.bool false),S'.del i,A7 _,KE,i,S',hi,rfl,.inr ⟨hp,rfl⟩⟩;simp[resL]
def unf2:D:=.iface 304 (.agg [])
theorem SI(b:Bool)(V:Sig):DCall prog 186 [.bool b] V fun x S'=>x=(if b then .ret (.tup []) else .panic unf2)/\S'=V:=by
 refine en func186 ntmps186 ?_;cases b
 ·refine gz ?_;refine pan ?_;exact finP (S':=V) ⟨rfl,rfl⟩
 ·refine gz ?_;exact Dl (S':=V) ⟨rfl,rfl⟩
@[reducible,instance] def a186:=fun b V=>gh0 (@SI b V)
theorem Mt(i:Nat)(b:Bool)(V:Sig)(hi:V i=some (.cells [.bool b])):Nh prog 233 [.ptr i 0] V none V/\Nh prog 233 [.ptr i 0] V (some unf2) (V.set i (.cells [.bool false])):=by
 constructor
 ·refine HF func233 rfl ntmps233 (by simp) (by decide) (by decide) rfl ?_;simp only[Option.getD_none]
  repeat' first|refine gz ?_|apply gy<;>intro hh
  exact⟨.inl rfl,rfl,Sub.refl _⟩
 ·refine HF func233 rfl ntmps233 (by simp) (by decide) (by decide) rfl ?_;simp only[Option.getD_some]
  repeat' first|refine gf hi ?_|apply gy<;>intro hh
  exact⟨.inl rfl,rfl,Sub.refl _⟩
theorem SJ(g:Nat)(cap:List D)(V:Sig)(R:Sig->DE->Sig->Prop)
  (hg:∀i,V i=none->DCall prog g cap (V.set i (.cells [.bool false])) (R (V.set i (.cells [.bool false]))))
  (hR:∀S' d S'',R S' (.panic d) S''->d=unf2) (hk:∀i S'' x,V i=none->R (V.set i (.cells [.bool false])) x S''->S'' i=some (.cells [.bool false])) :
  DCall prog 183 [.func (.func g) [] cap] V fun x S'=> ∃i S'',V i=none/\S'=S''.del i /\
   ((∃d,R (V.set i (.cells [.bool false])) (.ret d) S''/\x=.ret (.bool true))\/(R (V.set i (.cells [.bool false])) (.panic unf2) S''/\x=.ret (.bool false))):=by
 refine Gw (fd:=233) func183 rfl (Db func233 (by rfl) (by rfl)) (by rw[Al];decide) (by decide) ntmps183 (by simp) ?_;refine gz ?_ [] [2];refine newV (fun i hi=>?_);refine gz ?_ [] [2];refine Ke (f:=233) (by rw[Al];decide) rfl rfl ?_;refine gz ?_ [] [2];refine Ab (hg i hi) (fun d S' hr=>?_) (fun d S' hp=>?_)
 ·have hi':=hk i S' _ hi hr;refine gf hi' ?_ [] [2];refine⟨_,Wk.refl _ _ _,[.ptr i 0],S'.set i (.cells [.bool true]),.bool true,rfl,(Mt i true _ (w7 ..)).1,Cy (ds:=[.bool true]) Ad ?_,.ret (.bool true),S'.del i,A7 _,KE,i,S',hi,rfl,.inl ⟨d,hr,rfl⟩⟩;simp[resL]
 ·have hi':=hk i S' _ hi hp;obtain rfl:=hR _ _ _ hp;refine gz ?_ [] [2];refine⟨_,Wk.refl _ _ _,[.ptr i 0],S'.set i (.cells [.bool false]),.bool false,rfl,(Mt i false _ hi').2,Cy (ds:=[.bool false]) Ad ?_,.ret (.bool false),S'.del i,A7 _,KE,i,S',hi,rfl,.inr ⟨hp,rfl⟩⟩;simp[resL]
end Go.DL
namespace Go.DL
open Go.Proofs.Tryz
open Go Go.Proofs
set_option maxHeartbeats 8000000
def MJ{α:Type}:Option α->Int
 |some _=>0
 |none=>2
def kwds:List Str:=[[97,102,116,101,114],[97,110,100],[97,110,121],[97,114,111,117,110,100],[98,101,102,111,114,101],[99,108,97,115,115],[101,108,115,101],[105,102],[105,110],[105,110,116],[105,115],[108,101,116],[109,101,116,104,111,100],[110,101,119],[110,101,120,116],[110,111,110,101],[110,111,116],[111,114],[111,117,116],[115,101,116],[116,104,101,110],[116,114,117,101],[116,117,114,110],[119,104,101,114,101]]
def Gg(b:UInt8):Bool:=decide (97<=b.toNat/\b.toNat<=122)
def B7(s:Str):Bool:=s.all Gg&&(decide (1<=s.length/\s.length<=8)&&!decide (s∈kwds))
def difE:List Str->List Str->Bool
 |_,[]=>true
 |seen,x::r=> !decide (x∈seen)&&difE (seen++[x]) r
def Hc(l:List Str):Bool:=l.all B7&&difE [] l
end Go.DL
namespace Go.DL
open Go.Proofs.Tryz
open Go Go.Proofs
set_option maxHeartbeats 4000000
mutual
def Fact.beq:Fact->Fact->Bool
 |.mk o a p c n k,g=>decide (o=g.op)&&decide (a=g.arg)&&decide (c=g.cls)&&decide (n=g.n)&&(p==g.path)&&decide (k.length=g.kids.length)&&Fact.beqs k g.kids
def Fact.beqs:List Fact->List Fact->Bool
 |f::l,g::m=>f.beq g&&Fact.beqs l m
 |_,_=>true
end
theorem Fact.beq_eq(f g:Fact):f.beq g=(decide (f.op=g.op)&&decide (f.arg=g.arg)&&decide (f.cls=g.cls)&&decide (f.n=g.n)&&(f.path==g.path)&&decide (f.kids.length=g.kids.length)&&Fact.beqs f.kids g.kids):=by cases f;rw[Fact.beq];rfl
theorem L8(f g:Fact)(V:Sig)(hf:f.wt<=1073741824:=by exact sd):
  DCall prog 55 [.agg (Ba f),.agg (Ba g)] V (rS (.bool (f.beq g)) V):=by
 obtain⟨hw1,hw2,hw3⟩:=f.wt_le;have hp1:f.path.length<=1073741824:=by omega
 refine en func55 ntmps55 ?_
 repeat' first|refine gz ?_ o55|apply gy<;>intro hh
 any_goals (first|(refine fin1 (S':=V) ?_;exact⟨by first|rfl|(simp[Fact.beq_eq];done)|(simp_all [Fact.beq_eq];done)|(rw[Ae,Bool.eq_iff_iff];simp_all [Fact.beq_eq]<;>omega),rfl⟩)|fail)
 refine Bj [2,3,51] (fun (k:Nat)=>k<=f.kids.length/\f.beq g=Fact.beqs (f.kids.drop k) (g.kids.drop k)) (fun k=>[(52,dI k)]) (fun _=>V) (fun k=>f.kids.length-k) (0) (by simp_all [Fact.beq_eq]) (fun k hI=>?_);obtain⟨hk,hR⟩:=hI;have hgk:f.kids.length=g.kids.length:=by assumption
 by_cases h:k<f.kids.length
 ·rw[A3 h,A3 (l:=g.kids) (by omega),Fact.beqs]at hR;have hks:=hw3 k h
  repeat' first|refine gf h ?_|refine moR (L8 (f.kids[k]) (g.kids[k]) V (by omega)) ?_|refine moP (L8 (f.kids[k]) (g.kids[k]) V (by omega)) ?_|refine gf h ?_ o55|apply gy<;>intro hh
  ·exact fe1 hR
  ·exact⟨k+1,by simp_all;omega,td1,wkR⟩
 ·refine gf h ?_ o55
  (refine fin1 (S':=V) ?_;exact⟨by first|rfl|(simp[hR,A2 h,Fact.beqs];done)|(simp_all [hR,A2 h,Fact.beqs];done)|(rw[Ae,Bool.eq_iff_iff];simp_all [hR,A2 h,Fact.beqs]<;>omega),rfl⟩)
termination_by SizeOf.sizeOf f
decreasing_by exact Fact.lt (List.getElem_mem _)
@[reducible,instance] def a55:=fun f g V=>ah1 (@L8 f g V)
end Go.DL
