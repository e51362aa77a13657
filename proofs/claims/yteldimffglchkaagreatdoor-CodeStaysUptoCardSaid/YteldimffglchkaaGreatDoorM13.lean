/- A part of the proof. -/
import Derived.Test.YteldimffglchkaaGreatDoorM12
set_option linter.all false
namespace Go.DL
open Go.Proofs.Tryz
open Go Go.Proofs
set_option maxHeartbeats 8000000
theorem Jl{i:Nat}: ∀{l seen:List Int},Dk i seen l=true->∀p∈l,3<=p/\p<3+i
 |[],_,_,p,hp=>by simp at hp
 |q::r,seen,h,p,hp=>by
  simp only[Dk,Bool.and_eq_true,decide_eq_true_eq]at h
  rcases List.mem_cons.1 hp with rfl|hp
  ·exact h.1.1
  ·exact Jl h.2 p hp
theorem FC: ∀{g:List (List Int)}{i:Nat},C3 i g=true->∀k (hk:k<g.length),HZ (i+k) g[k]=true
 |l::r,i,h,0,_=>by simp only[C3,Bool.and_eq_true]at h;exact h.1
 |l::r,i,h,k+1,hk=>by
  simp only[C3,Bool.and_eq_true]at h
  have:=FC h.2 k (by simpa using hk)
  rw[show i+(k+1)=i+1+k by omega];exact this
theorem BA{g:List (List Int)}(h:B6 g=true)(c:Nat):(parentsF g c).length<=3 /\ ∀p∈parentsF g c,3<=p/\p<c:=by
 simp only[B6,Bool.and_eq_true]at h
 unfold parentsF
 split
 ·simp
 ·rename_i hc
  by_cases hk:(((c:Int)-3).toNat)<g.length
  ·have:=FC h.2 _ hk
   rw[List.getElem?_eq_getElem hk,Option.getD_some]
   simp only[HZ,Bool.and_eq_true,decide_eq_true_eq]at this
   refine⟨this.1,fun p hp=>?_⟩
   have:=Jl this.2 p hp
   omega
  ·rw[List.getElem?_eq_none (by omega)];simp
theorem Dw{g:List (List Int)}(h:B6 g=true):g.length<=16:=by
 simp only[B6,Bool.and_eq_true,decide_eq_true_eq]at h;exact h.1
def ordersN(g:List (List Int)):Nat->List (List Int)
 |0=>[]
 |n+1=>ordersN g n++[if n=0 then [0] else Bj (ordersN g n) n (parentsF g n)]
theorem B5(g:List (List Int)): ∀n,(ordersN g n).length=n
 |0=>rfl
 |n+1=>by rw[ordersN,List.length_append,B5 g n];rfl
theorem Fm(os:List (List Int))(x:List Int){p:Int}(hp:0<=p):At (os++[x]) p=if p=os.length then x else At os p:=by
 unfold At
 by_cases h:p.toNat<os.length
 ·rw[List.getElem?_append_left h,if_neg (by omega)]
 ·by_cases h2:p=os.length
  ·rw[if_pos h2,h2];simp
  ·rw[if_neg h2,List.getElem?_eq_none (by simp;omega),List.getElem?_eq_none (by omega)]
theorem Jc{os:List (List Int)}{M:Nat}: ∀{ps:List Int}{ls:List (List Int)},CF os ps=some ls->(∀p∈ps,(At os p).length<=M)->totL ls<=ps.length*M/\ls.length=ps.length
 |[],ls,h,_=>by simp only[CF,Option.some.injEq]at h;subst h;simp[totL]
 | p::r,ls,h,hM=>by
  rw[CF]at h
  split at h
  ·cases h
  ·cases hr:CF os r with
   |none=>rw[hr]at h;cases h
   |some l2=>
    rw[hr]at h
    simp only[Option.map_some,Option.some.injEq]at h
    subst h
    obtain⟨h1,h2⟩:=Jc hr fun q hq=>hM q (List.mem_cons_of_mem _ hq)
    have h3:=hM p (List.mem_cons_self ..)
    have h4:((At os p).filter fun x=> !decide (x=0)).length<=(At os p).length:=List.length_filter_le ..
    simp only[totL,List.length_cons,Nat.add_mul]
    omega
theorem Ul(a b:List (List Int)):totL (a++b)=totL a+totL b:=by
 induction a with
 |nil=>simp[totL]
 |cons x a ih=>simp only[List.cons_append,totL,ih];omega
theorem Fw{os:List (List Int)}{M:Nat}{ps:List Int}{ls:List (List Int)}(h:Bt os ps=some ls)(hM:∀p∈ps,(At os p).length<=M):totL ls<=ps.length*M+ps.length/\ls.length=ps.length+1:=by
 unfold Bt at h
 cases hr:CF os ps with
 |none=>rw[hr]at h;cases h
 |some l2=>
  rw[hr]at h
  simp only[Option.map_some,Option.some.injEq]at h
  subst h
  obtain⟨h1,h2⟩:=Jc hr hM
  rw[Ul];simp[totL];omega
theorem H2{os:List (List Int)}{M:Nat}{c:Int}{ps:List Int}(hM:∀p∈ps,(At os p).length<=M):(Bj os c ps).length<=ps.length*M+ps.length+2:=by
 unfold Bj
 cases h:Bt os ps with
 |none=>simp
 |some ls=>
  have h1:=(Fw h hM).1
  have h2:=Ee ls
  simp only
  split
  ·simp only[List.length_append,List.length_cons,List.length_nil];omega
  ·simp
theorem H1{g:List (List Int)}(h:B6 g=true): ∀n, ∀p:Int,0<=p->(At (ordersN g n) p).length+3<=5*3 ^ (n-4)
 |0,p,_=>by simp[ordersN,At]
 | n+1,p,hp=>by
  have ih:=H1 h n
  have bc:5*3 ^ (n-4)<=5*3 ^ (n+1-4):=Nat.mul_le_mul_left _ (Nat.pow_le_pow_right (by decide) (by omega))
  have bY:1<=3 ^ (n+1-4):=Nat.one_le_pow _ _ (by decide)
  rw[ordersN,Fm _ _ hp,B5]
  split
  ·split
   ·rw[List.length_singleton];omega
   ·obtain⟨g1,g2⟩:=BA h n
    by_cases hn:n<4
    ·have he:parentsF g n=[]:=by
      cases hq:parentsF g n with
      |nil=>rfl
      |cons q r=>have:=g2 q (by rw[hq];simp);omega
     have:=H2 (os:=ordersN g n) (M:=0) (c:=n) (ps:=parentsF g n) (by rw[he];simp)
     rw[he]at this⊢
     simp at this
     omega
    ·have:=H2 (os:=ordersN g n) (M:=5*3 ^ (n-4)-3) (c:=n) (ps:=parentsF g n) (fun q hq=>by have:=ih q (by have:=g2 q hq;omega);omega)
     have e:3 ^ (n+1-4)=3 ^ (n-4)*3:=by rw[show n+1-4=(n-4)+1 by omega,Nat.pow_succ]
     have hh:(parentsF g n).length*(5*3 ^ (n-4)-3)<=3*(5*3 ^ (n-4)-3):=Nat.mul_le_mul_right _ g1
     have bH:1<=3 ^ (n-4):=Nat.one_le_pow _ _ (by decide)
     rw[e];omega
  ·exact Nat.le_trans (ih p hp) bc
theorem CL{g:List (List Int)}(h:B6 g=true){n:Nat}(hn:n<=3+g.length){p:Int}(hp:0<=p):(At (ordersN g n) p).length<=80000000:=by
 have h1:=H1 h n p hp
 have h2:3 ^ (n-4)<=3 ^ 15:=Nat.pow_le_pow_right (by decide) (by have:=Dw h;omega)
 have h3:(3:Nat) ^ 15=14348907:=by decide
 omega
theorem PR(ig im:Nat)(a b:D)(om:List (Int×List Int))(O:Sig)(hg:O ig=some (.cells [a,b,.map im]))(hm:O im=some (.map (eIO om))):
  DCall prog 344 [.ptr ig 0,dI 0] O fun x U'=>x=.ret (.tup [])/\U'=O.set im (.map (eIO (putM 0 [0] om))):=by
 refine en func344 ntmps344 ?_
 refine gf (gi hg hm) ?_ o344
 refine rtl 14 (sl (cI [0])) ?_
 refine gf (gi hg hm) ?_ o344
 exact fin0 (U':=O.set im (.map (eIO (putM 0 [0] om)))) ⟨rfl,rfl⟩
theorem P0(ps:List (List Int))(cs:List Int)(o o':Own)(O:Sig)(hb:B6 ps=false)(hl:ps.length<=1073741824:=by exact sd)(aA:∀x∈ps,x.length<=1073741824:=by exact sd)(hc:cs.length<=1073741824:=by exact sd):
  DCall prog 301 [.slice (cII ps) o,.slice (cI cs) o'] O (rS (.tup [.nilp,.bool false]) O):=by
 refine en func301 ntmps301 ?_
 repeat' first|refine gf hb ?_ o301|apply gy<;>intro hh
 any_goals (first|exact fe2 trivial|fail)
theorem OZ(ps:List (List Int))(cs:List Int)(o o':Own)(O:Sig)(hb:B6 ps=true)(hx:¬∀c∈cs,0<=c/\c<3+ps.length)(hl:ps.length<=1073741824:=by exact sd)(aA:∀x∈ps,x.length<=1073741824:=by exact sd)(hc:cs.length<=1073741824:=by exact sd):
  DCall prog 301 [.slice (cII ps) o,.slice (cI cs) o'] O (rS (.tup [.nilp,.bool false]) O):=by
 refine en func301 ntmps301 ?_
 refine gf hb ?_ o301
 refine BU [0,8,9,10,11,13,14,18,19,34,35,36,37,38,39,40,41,42,43,44,45,46,47,48,49,50,51,52,53,54,55,56,57,58,59,60,61,62,63,64,65,66,67,68,69,70,71,72,73,74,75,76,77,78,79,80,81,82,83,84,85,86,87,88,89,90,91,92,93,94,95,96,97,98,99,100,101,102,103] (fun (k:Nat)=>k<=cs.length /\ ∀c∈cs.take k,0<=c/\c<3+ps.length) (fun k=>[(20,dI k)]) (fun _=>O) (fun k=>cs.length-k) (0) (by simp) (fun k hI=>?_)
 obtain⟨hk,hI⟩:=hI
 by_cases h:k<cs.length
 ·repeat' first|refine gf hb ?_ o301|apply gy<;>intro hh
  ·exact fe2 trivial
  ·exact fe2 trivial
  ·have cp:∀c∈cs.take (k+1),0<=c/\c<3+ps.length:=fun c hc=>by
    rw[DJ h]at hc
    rcases List.mem_append.1 hc with hc|hc
    ·exact hI c hc
    ·obtain rfl:=List.mem_singleton.1 hc;omega
   exact⟨k+1,⟨by omega,cp⟩,td1,wkR⟩
 ·exfalso
  rw[List.take_of_length_le (by omega)]at hI
  exact hx hI
def cU(us:List Int):List (List D):=us.map fun n=>[.int .u64 n]
@[simp] theorem cU_length(us:List Int):(cU us).length=us.length:=by simp[cU]
@[simp] theorem cU_all(l:List Int):(cU l).all (fun c=>c.length==1)=true:=by simp[cU]
theorem U8(a b:List Int):cU (a++b)=cU a++cU b:=by simp[cU]
@[simp] theorem cU_get(us:List Int)(k:Nat):(cU us)[k]? = (us[k]?).map fun n=>[.int .u64 n]:=by simp[cU]
theorem So (ps:List (List Int)) (cs:List Int) (o o':Own) (O:Sig) (hb:B6 ps=true) (hx : ∀ c ∈ cs,0<=c/\c < 3+ps.length) (hl:ps.length<=1073741824:=by exact sd) (aA : ∀ x ∈ ps,x.length<=1073741824:=by exact sd) (hc:cs.length<=1073741824:=by exact sd) :
  DCall prog 301 [.slice (cII ps) o,.slice (cI cs) o'] O fun x U'=> ∃ig im a b om,ig≠im/\x=.ret (.tup [.ptr ig 0,.bool true])/\U'=(O.set im (.map (eIO om))).set ig (.cells [a,b,.map im])/\O ig=none/\O im=none /\ ∀p:Int,0<=p->getM [] p om=At (ordersN ps (3+ps.length)) p:=by
 have hlen:=Dw hb
 refine en func301 ntmps301 ?_
 refine gf hb ?_ o301 [40,11]
 refine BU [0,8,9,10,11,13,14,18,19,34,35,36,37,38,39,40,41,42,43,44,45,46,47,48,49,50,51,52,53,54,55,56,57,58,59,60,61,62,63,64,65,66,67,68,69,70,71,72,73,74,75,76,77,78,79,80,81,82,83,84,85,86,87,88,89,90,91,92,93,94,95,96,97,98,99,100,101,102,103] (fun (k:Nat)=>k<=cs.length) (fun k=>[(20,dI k)]) (fun _=>O) (fun k=>cs.length-k) (0) (by simp) (fun k hI=>?_)
 by_cases h:k<cs.length
 ·have cr:=hx _ (List.getElem_mem h)
  refine gf hb ?_ o301 [40,11]
  exact⟨k+1,by omega,td1,wkR⟩
 ·refine gf hb ?_ o301 [40,11]
  refine mmake (k:=3) (c:=3+ps.length) (z:=[.nils]) (sz:=1) (fun ir cP aV=>?_)
  obtain⟨st0,aK⟩:∃st0:MR,st0=some (ir,3+ps.length,(List.replicate (3+ps.length-3) [D.nils]).flatten):=⟨_,rfl⟩
  obtain⟨es0,aE⟩:∃es0,es0=List.replicate 3 [D.nils]:=⟨_,rfl⟩
  rw[<-aK,<-aE]at aV⊢
  have ca:mD st0 es0.length=.sref ir 0 3 (3+ps.length):=by rw[aK,aE];rfl
  have ck:es0.length=3:=by rw[aE];rfl
  refine newIO (fun im bj=>?_)
  obtain⟨e1,bf⟩:=W4 (o:=.map (eIO [])) aV bj
  have br:=Rl bj
  rw[e1]
  refine go1 trivial ?_
  refine boxV (fun ig aW=>?_)
  obtain⟨e2,hm2⟩:=W4 (o:=.cells [.sref ir 0 3 (3+ps.length),.nils,.map im]) bf aW
  have aM:=Rl aW
  have bq:ig≠im:=fun h=>by rw[h,w6]at aM;cases aM
  have bP:ig≠ir:=fun h=>by subst h;simp[mS,aK,w6]at aW
  rw[e2]
  have bh:=Rm hm2 (w6 ..)
  refine gf (gi bP bh) ?_ o301 [40,11]
  refine mapp (new:=cII ps) (sz:=1) (h1:=by exact ca.symm) (fun st be=>?_) hm2
  clear hm2 bf aV e1 e2 bh aW bj
  obtain⟨es1,aD⟩:∃es1,es1=es0++cII ps:=⟨_,rfl⟩
  have hN:es0.length+(cII ps).length=es1.length:=by rw[aD,List.length_append]
  have bk:es1.length=3+ps.length:=by rw[aD,List.length_append,ck];simp
  rw[<-aD]at be⊢
  rw[hN]
  obtain⟨i1,c1,bd⟩:∃i1 c1,mD st es1.length=.sref i1 0 es1.length c1:=by
   cases st with
   |none=>exact absurd (show es1=[] from be) (fun h=>by rw[h]at bk;simp at bk;omega)
   |some x=>exact⟨_,_,rfl⟩
  have bh:=Rm be (w6 ..)
  obtain⟨e3,bp⟩:=mS_put (o:=.cells [mD st es1.length,.nils,.map im]) be (w6 ..)
  rw[bd]at e3 bp⊢
  rw[w8]at e3 bp
  refine gf (gi bP (gi bh e3)) ?_ o301 [40,11]
  refine mfrC (i:=ig) [] [.nils,.map im] ?_ (by rw[bd];exact w6 ..) bp
  rw[w8]
  refine celW (i:=ig) [] [.nils,.map im] (.slice es1 .no) (.slice (cII ([]::[]::[]::ps)) .no) ?_ (w6 ..) (K8 _ ?_)
  rw[w8]
  simp only[List.nil_append]
  obtain⟨P,hP⟩:∃P,P=[]::[]::[]::ps:=⟨_,rfl⟩
  have aF:P.length=3+ps.length:=by rw[hP];simp;omega
  have co:∀x∈P,x.length<=1073741824:=by rw[hP];simpa using aA
  have ax:∀c (hc:c<P.length),P[c]=parentsF ps c:=by
   intro c hc
   subst hP
   unfold parentsF
   rcases c with _|_|_|c
   ·rfl
   ·rfl
   ·rfl
   ·simp only[List.length_cons]at hc
    rw[if_neg (by omega),show((((c+1+1+1:Nat)):Int)-3).toNat=c by omega,List.getElem?_eq_getElem (by omega)];rfl
  rw[<-hP]
  refine gf aF ?_ o301 [40,11]
  refine EZ ig 1 1 (w6 ..) rfl fun iu bN=>?_
  obtain⟨bV,bi⟩:=Bw bN
  obtain⟨bU,bM⟩:=Bw bi
  clear be bp bh e3 hN bN bi
  have bw:ig≠iu:=fun e=>bV e.symm
  have b8:im≠iu:=fun e=>bU e.symm
  have aw:im≠ig:=fun e=>bq e.symm
  have ci:O ig=none:=(Bw aM).2
  have hS:Sub ((((O.set iu (.tail 1 0)).set im (.map (eIO []))).set ig (.cells [.slice (cII P) .no,.slice [] (.tag iu),.map im]))) ((((O.set im (.map (eIO []))).set ig (.cells [.slice (cII P) .no,.nils,.map im])).set iu (.tail 1 0)).set ig (.cells ([.slice (cII P) .no,.nils,.map im].set 1 (.slice [] (.tag iu))))):=by
   intro k x hk;simp only[Sig.set,List.set]at hk⊢; grind
  refine BS [4,5,8,14,53,54,91,92,93,94,95,96,97,98,99,100,101,102,103] (fun (c:Nat) (us:List Int)=>c<=P.length/\us.length=c) (fun c _=>[(55,dI c)]) (fun _ us=>((O.set iu (.tail 1 us.length)).set im (.map (eIO []))).set ig (.cells [.slice (cII P) .no,.slice (cU us) (.tag iu),.map im])) (fun c _=>P.length-c) (0) ([]) (by simp) (fun c us hI=>?_)
  obtain⟨cm,cB⟩:=hI
  by_cases bm:c<P.length
  ·have cu:=co _ (List.getElem_mem bm)
   have bn:=ax c bm
   refine gf aF ?_ o301 [40,11]
   refine bldZ ?_
   refine gz ?_ o301 [40,11]
   refine A7 (MF 0 c _) (fun d U' hx=>?_) (fun d U' hx=>by obtain⟨⟨_,hx⟩,_⟩:=hx;cases hx)
   obtain⟨⟨n1,hx⟩,rfl⟩:=hx
   cases hx
   repeat' first|refine gz ?_ o301 [40,11]|apply gy<;>intro hh
   refine A7 (MF n1 0 _) (fun d U' hx=>?_) (fun d U' hx=>by obtain⟨⟨_,hx⟩,_⟩:=hx;cases hx)
   obtain⟨⟨n2,hx⟩,rfl⟩:=hx
   cases hx
   repeat' first|refine gz ?_ o301 [40,11]|apply gy<;>intro hh
   simp only[putD]
   refine newV (fun ia cf=>?_)
   obtain⟨ba,bu⟩:=Bw cf
   obtain⟨aZ,bt⟩:=Bw bu
   obtain⟨aY,ce⟩:=Bw bt
   have aX:ig≠ia:=fun e=>ba e.symm
   have aU:im≠ia:=fun e=>aZ e.symm
   have aS:iu≠ia:=fun e=>aY e.symm
   refine gf (gi ba (gi aZ (gi aY (gi aX (gi aU aS))))) ?_ o301 [40,11]
   refine BS [4,5,8,9,10,11,14,53,54,55,56,57,58,59,60,61,62,63,64,65,80,81,82,83,84,85,86,87,88,89,90,91,92,93,94,95,96,97,98,99,100,101,102,103] (fun (q:Nat) (n:Int)=>q<=(P[c]).length) (fun q _=>[(66,dI q)]) (fun _ n=>(((O.set iu (.tail 1 us.length)).set im (.map (eIO []))).set ig (.cells [.slice (cII P) .no,.slice (cU us) (.tag iu),.map im])).set ia (.cells [.int .u64 n])) (fun q _=>(P[c]).length-q) (0) (n2) (by simp) (fun q n hI=>?_)
   by_cases hq:q<(P[c]).length
   ·have hp:=(BA hb c).2 (P[c][q]) (by rw[<-bn];exact List.getElem_mem hq)
    obtain⟨p,bb⟩:∃p:Nat,P[c][q]=(p:Int):=⟨(P[c][q]).toNat,by omega⟩
    have cH:p<us.length:=by omega
    refine gf (gi ba (gi aZ (gi aY (gi aX (gi aU (gi aS bb)))))) ?_ o301 [40,11]
    refine Be (S9 n (us[p]) _) (fun d U' hx=>?_) (fun d U' hx=>by obtain⟨⟨_,hx⟩,_⟩:=hx;cases hx)
    obtain⟨⟨n3,hx⟩,rfl⟩:=hx
    cases hx
    refine⟨Sub.refl _,?_⟩
    simp only[putD]
    refine gf (gi ba (gi aZ (gi aY (gi aX (gi aU aS))))) ?_ o301 [40,11]
    exact⟨q+1,n3,by omega,td1,wkR⟩
   ·refine gf (gi ba (gi aZ (gi aY (gi aX (gi aU aS))))) ?_ (delO 20 o301) [40,11]
    refine H7 (id:=20) [0,1,2,3,4,5,6,7,8,9] [7] (((O.set im (.map (eIO []))).set ig (.cells [.slice (cII P) .no,.slice (cU us) (.tag iu),.map im])).set ia (.cells [.int .u64 n])) ?_ ?_
    ·intro k x hk;simp only[Sig.set]at hk⊢; grind
    have ag:Sub (((O.set im (.map (eIO []))).set ig (.cells [.slice (cII P) .no,.slice (cU us) (.tag iu),.map im])).set ia (.cells [.int .u64 n])) (((((O.set iu (.tail 1 us.length)).set im (.map (eIO []))).set ig (.cells [.slice (cII P) .no,.slice (cU us) (.tag iu),.map im])).set ia (.cells [.int .u64 n])).set iu (.tail 1 (us.length+1))):=by
     intro k x hk;simp only[Sig.set]at hk⊢; grind
    iterate 7 refine go1 (And.intro bw (And.intro aX (And.intro aU aS))) ?_
    refine moEffW (.slice (cU (us++[n])) (.tag iu)) ?_ (he:=by simp(disch:=first|omega|assumption) [w7];and_intros<;>first|rfl|omega) (hC:=ag) (hw:=C8 (by rw[U8];rfl))
    refine gf (gi ba (gi aZ (gi aY (gi aX (gi aU (gi aS bw)))))) ?_ (delO 20 o301) [40,11]
    have bE:Sub (((O.set iu (.tail 1 (us++[n]).length)).set im (.map (eIO []))).set ig (.cells [.slice (cII P) .no,.slice (cU (us++[n])) (.tag iu),.map im])) ((((((O.set iu (.tail 1 us.length)).set im (.map (eIO []))).set ig (.cells [.slice (cII P) .no,.slice (cU us) (.tag iu),.map im])).set ia (.cells [.int .u64 n])).set iu (.tail 1 (us.length+1))).set ig (.cells [.slice (cII P) .no,.slice (cU (us++[n])) (.tag iu),.map im])):=by
     intro k x hk;rw[List.length_append,List.length_singleton]at hk;simp only[Sig.set]at hk⊢; grind
    exact⟨c+1,(us++[n]),⟨by omega,by rw[List.length_append,List.length_singleton];omega⟩,td1,wkR⟩
  ·refine gf (gi aF (gi bq (gi bw (gi b8 aw)))) ?_ o301 [40,11]
   generalize bT:D.slice (cU us) (.tag iu)=ups
   have bD:Sub ((O.set im (.map (eIO []))).set ig (.cells [.slice (cII P) .no,ups,.map im])) (((O.set iu (.tail 1 us.length)).set im (.map (eIO []))).set ig (.cells [.slice (cII P) .no,ups,.map im])):=by
    intro k x hk;simp only[Sig.set]at hk⊢; grind
   refine BS [4,5,8,95,103] (fun (c:Nat) (om:List (Int×List Int))=>c<=P.length /\ ∀p:Int,0<=p->getM [] p om=At (ordersN ps c) p) (fun c _=>[(96,dI c)]) (fun _ om=>(O.set im (.map (eIO om))).set ig (.cells [.slice (cII P) .no,ups,.map im])) (fun c _=>P.length-c) (0) ([]) (by exact⟨by omega,fun p _=>by simp[getM,ordersN,At]⟩) (fun c om hI=>?_)
   obtain⟨cm,aL⟩:=hI
   by_cases bm:c<P.length
   ·have bQ:((O.set im (.map (eIO om))).set ig (.cells [.slice (cII P) .no,ups,.map im])) ig=some (.cells [.slice (cII P) .no,ups,.map im]):=w6 ..
    have bf:((O.set im (.map (eIO om))).set ig (.cells [.slice (cII P) .no,ups,.map im])) im=some (.map (eIO om)):=by rw[w7 _ _ aw,w6]
    rcases Nat.eq_zero_or_pos c with rfl|cV
    ·refine gf aF ?_ o301 [40,11]
     refine A7 (PR ig im _ _ om _ bQ bf) (fun d U' hx=>?_) (fun d U' hx=>by cases hx.1)
     obtain⟨hx,rfl⟩:=hx
     cases hx
     simp only[putD]
     refine gf aF ?_ o301 [40,11]
     have aI:Sub ((O.set im (.map (eIO (putM 0 [0] om)))).set ig (.cells [.slice (cII P) .no,ups,.map im])) (((O.set im (.map (eIO om))).set ig (.cells [.slice (cII P) .no,ups,.map im])).set im (.map (eIO (putM 0 [0] om)))):=by
      intro k x hk;simp only[Sig.set]at hk⊢; grind
     have au:∀p:Int,0<=p->getM [] p (putM 0 [0] om)=At (ordersN ps (0+1)) p:=fun p hp=>by
      rw[ET,ordersN,Fm _ _ hp,aL p hp];rfl
     exact⟨0+1,putM 0 [0] om,⟨by omega,au⟩,td1,wkR⟩
    ·have bn:P[c]=parentsF ps c:=ax c bm
     have ai:=BA hb c
     rw[<-bn]at ai
     have hB:∀p:Int,0<=p->(At (ordersN ps c) p).length<=80000000:=fun p hp=>CL hb (by omega) hp
     have bl:=RZ ig im P (ordersN ps c) ups om c .no ((O.set im (.map (eIO om))).set ig (.cells [.slice (cII P) .no,ups,.map im])) bq bQ bf bm (by omega) (by omega) (by omega)
      (fun p hp=>aL p (by have:=ai.2 p hp;omega)) (fun p hp=>by have:=hB p (by have:=ai.2 p hp;omega);omega)
      (fun ls aj=>by
       have h1:=Fw aj (fun p hp=>hB p (by have:=ai.2 p hp;omega))
       have h2:=ai.1
       have h3:(P[c]).length*80000000<=3*80000000:=Nat.mul_le_mul_right _ h2
       omega)
     refine gf aF ?_ o301 [40,11]
     refine A7 bl (fun d U' hx=>?_) (fun d U' hx=>by cases hx.1)
     obtain⟨hx,rfl⟩:=hx
     cases hx
     simp only[putD]
     have aa:∀p:Int,0<=p->At (ordersN ps (c+1)) p=if p=c then Bj (ordersN ps c) c P[c] else At (ordersN ps c) p:=fun p hp=>by
      rw[ordersN,Fm _ _ hp,B5,if_neg (by omega:¬c=0),<-bn]
     have aI:∀om',Sub ((O.set im (.map (eIO om'))).set ig (.cells [.slice (cII P) .no,ups,.map im])) (((O.set im (.map (eIO om))).set ig (.cells [.slice (cII P) .no,ups,.map im])).set im (.map (eIO om'))):=by
      intro om' k x hk;simp only[Sig.set]at hk⊢; grind
     by_cases he:Bj (ordersN ps c) c P[c]=[]
     ·rw[if_pos he]
      have au:∀p:Int,0<=p->getM [] p om=At (ordersN ps (c+1)) p:=fun p hp=>by
       rw[aa p hp,aL p hp,he]
       split
       ·rename_i bb
        unfold At;rw[List.getElem?_eq_none (by rw[B5];omega)];rfl
       ·rfl
      refine gf aF ?_ o301 [40,11]
      exact⟨c+1,om,⟨by omega,au⟩,td1,wkR⟩
     ·rw[if_neg he]
      have au:∀p:Int,0<=p->getM [] p (putM c (Bj (ordersN ps c) c P[c]) om)=At (ordersN ps (c+1)) p:=fun p hp=>by
       rw[aa p hp,ET,aL p hp]
      have bC:=aI (putM c (Bj (ordersN ps c) c P[c]) om)
      refine gf aF ?_ o301 [40,11]
      exact⟨c+1,putM c (Bj (ordersN ps c) c P[c]) om,⟨by omega,au⟩,td1,wkR⟩
   ·have bz:c=3+ps.length:=by omega
    subst bz
    refine gf aF ?_ o301 [40,11]
    exact fin2 (U':=(O.set im (.map (eIO om))).set ig (.cells [.slice (cII P) .no,ups,.map im])) ⟨ig,im,_,_,om,bq,rfl,rfl,ci,br,aL⟩
  rw[aD,aE]
  exact⟨⟨Ak _ (.inl rfl),trivial⟩,⟨Ak _ (.inl rfl),trivial⟩,⟨Ak _ (.inl rfl),trivial⟩,Od _⟩
def Fx(g:List (List Int))(c:Int):List Int:=At (ordersN g (3+g.length)) c
def linE(g:List (List Int))(c:Int):Int:=if B6 g=true/\0<=c/\c<3+g.length then(if Fx g c=[] then 7 else 0) else 2
def linF(g:List (List Int))(c:Int):List Int:=if B6 g=true/\0<=c/\c<3+g.length then Fx g c else []
theorem SG(g:List (List Int))(c:Int)(o:Own)(O:Sig)(hl:g.length<=1073741824:=by exact sd)(aA:∀x∈g,x.length<=1073741824:=by exact sd):
  DCall prog 252 [.slice (cII g) o,dI c] O (rS (.tup [sl (cI (linF g c)),dI (linE g c)]) O):=by
 refine en func252 ntmps252 ?_
 by_cases hb:B6 g=true
 ·by_cases hc:0<=c/\c<3+g.length
  ·try refine gz ?_
   refine A7 (So g [c] o .clip _ hb (by simpa using hc) hl aA (by simp)) (fun d U' hx=>?_) (fun d U' hx=>by obtain⟨_,_,_,_,_,_,hx,_⟩:=hx;cases hx)
   obtain⟨ig,im,a,b,om,hne,hx,rfl,aW,bj,aL⟩:=hx
   cases hx
   simp only[putD]
   have aw:im≠ig:=fun e=>hne e.symm
   have ag:Sub O ((O.set im (.map (eIO om))).set ig (.cells [a,b,.map im])):=((Sub.refl _).set bj).set aW
   have cb:(Fx g c).length<=80000000:=CL hb (by omega) hc.1
   have hL:getM [] c om=Fx g c:=aL c hc.1
   try refine gf aw ?_
   refine lkO ?_ (hi:=by rw[w7 _ _ aw,w6])
   rw[hL]
   by_cases he:Fx g c=[]
   ·try refine gf (gi aw he) ?_
    (refine fin2 (U':=O) (d':=sl []) ?_;exact⟨by first|rfl|(simp[linF,linE,hb,hc,he];done)|(simp_all [linF,linE,hb,hc,he];done)|(rw[Ac,Bool.eq_iff_iff];simp_all [linF,linE,hb,hc,he]<;>omega),rfl⟩)
   ·repeat' first|refine gf aw ?_|apply gy<;>intro hh
    ·exfalso;exact he (by simpa using hh)
    ·refine lkO ?_ (hi:=by rw[w7 _ _ aw,w6])
     rw[hL]
     repeat' first|refine gf aw ?_|refine AR (Hi (cI (Fx g c)) .no _ (by simp;omega) (BY _)) ?_|refine callP (Hi (cI (Fx g c)) .no _ (by simp;omega) (BY _)) ?_|refine gf aw ?_|apply gy<;>intro hh
     (refine fin2 (U':=O) ?_;exact⟨by first|rfl|(simp[linF,linE,hb,hc,he];done)|(simp_all [linF,linE,hb,hc,he];done)|(rw[Ac,Bool.eq_iff_iff];simp_all [linF,linE,hb,hc,he]<;>omega),rfl⟩)
  ·repeat' first|refine gz ?_|refine AR (OZ g [c] o .clip _ hb (by simpa using hc) hl aA (by simp)) ?_|refine callP (OZ g [c] o .clip _ hb (by simpa using hc) hl aA (by simp)) ?_|refine gz ?_|apply gy<;>intro hh
   (refine fin2 (U':=O) (d':=sl []) ?_;exact⟨by first|rfl|(simp[linF,linE,hb,hc];done)|(simp_all [linF,linE,hb,hc];done)|(rw[Ac,Bool.eq_iff_iff];simp_all [linF,linE,hb,hc]<;>omega),rfl⟩)
 ·repeat' first|refine gz ?_|refine AR (P0 g [c] o .clip _ (by simpa using hb) hl aA (by simp)) ?_|refine callP (P0 g [c] o .clip _ (by simpa using hb) hl aA (by simp)) ?_|refine gz ?_|apply gy<;>intro hh
  (refine fin2 (U':=O) (d':=sl []) ?_;exact⟨by first|rfl|(simp[linF,linE,hb];done)|(simp_all [linF,linE,hb];done)|(rw[Ac,Bool.eq_iff_iff];simp_all [linF,linE,hb]<;>omega),rfl⟩)
@[reducible,instance] def a252:=fun g c o O=>ah2 (@SG g c o O)
theorem Ko: ∀(n:Nat) (ls:List (List Int)) (out:List Int) (y:Int),y∈(Eu n ls out).1->y∈out \/ ∃l∈ls,y∈l
 |0,_,_,y,h=>.inl h
 | n+1,ls,out,y,h=>by
  rw[Eu]at h
  cases hn:Et ls false ls with
  | mk a s =>
   rw[hn]at h
   cases a with
   |none=>exact .inl h
   | some c =>
    obtain⟨e,he,bz⟩:=Es hn
    rcases Ko n _ _ y h with h|⟨l,hl,hy⟩
    ·rcases List.mem_append.1 h with h|h
     ·exact .inl h
     ·rw[List.mem_singleton]at h;exact .inr ⟨e,he,h ▸ bz⟩
    ·obtain⟨l',cd,rfl⟩:=List.mem_map.1 hl
     exact .inr ⟨l',cd,(List.mem_filter.1 hy).1⟩
theorem Kv{os:List (List Int)}: ∀{ps:List Int}{ls:List (List Int)},CF os ps=some ls->∀l∈ls, ∃p∈ps,l=(At os p).filter fun x=> !decide (x=0)
 |[],ls,h,l,hl=>by simp only[CF,Option.some.injEq]at h;subst h;cases hl
 | p::r,ls,h,l,hl=>by
  rw[CF]at h
  split at h
  ·cases h
  ·cases hr:CF os r with
   |none=>rw[hr]at h;cases h
   | some l2 =>
    rw[hr]at h
    simp only[Option.map_some,Option.some.injEq]at h
    subst h
    rcases List.mem_cons.1 hl with rfl|hl
    ·exact⟨p,by simp,rfl⟩
    ·obtain⟨q,hq,e⟩:=Kv hr l hl
     exact⟨q,List.mem_cons_of_mem _ hq,e⟩
theorem Jb{os:List (List Int)}{ps:List Int}{ls:List (List Int)}(h:Bt os ps=some ls): ∀l∈ls, ∀y∈l,(∃p∈ps,y∈At os p)\/y∈ps:=by
 unfold Bt at h
 cases hr:CF os ps with
 |none=>rw[hr]at h;cases h
 | some l2 =>
  rw[hr]at h
  simp only[Option.map_some,Option.some.injEq]at h
  subst h
  intro l hl y hy
  rcases List.mem_append.1 hl with hl|hl
  ·obtain⟨p,hp,rfl⟩:=Kv hr l hl
   exact .inl ⟨p,hp,(List.mem_filter.1 hy).1⟩
  ·rw[List.mem_singleton]at hl;exact .inr (hl ▸ hy)
theorem GA{os:List (List Int)}{p:Int}{y:Int}(h:y∈At os p): ∃x∈os,y∈x:=by
 unfold At at h
 cases hx:os[p.toNat]? with
 |none=>rw[hx]at h;cases h
 |some x=>rw[hx]at h;exact⟨x,List.mem_of_getElem? hx,h⟩
theorem Gz {g:List (List Int)} (hg:B6 g=true) : ∀ n, ∀ x ∈ ordersN g n, ∀ y ∈ x,0<=y/\y < (n:Int)
 |0,x,hx=>by cases hx
 | n+1,x,hx=>by
  have ih:=Gz hg n
  rw[ordersN]at hx
  intro y hy
  rcases List.mem_append.1 hx with hx|hx
  ·have:=ih x hx y hy;omega
  ·rw [List.mem_singleton] at hx
   subst hx
   split at hy
   ·rw[List.mem_singleton]at hy;omega
   ·unfold Bj at hy
    cases aj:Bt (ordersN g n) (parentsF g n)with
    |none=>rw[aj]at hy;cases hy
    | some ls =>
     rw[aj]at hy
     simp only at hy
     split at hy
     ·simp only[List.cons_append,List.mem_cons,List.mem_append,List.not_mem_nil,or_false]at hy
      rcases hy with rfl|hy|rfl
      ·omega
      ·rcases Ko _ _ _ y hy with h|⟨l,hl,bS⟩
       ·cases h
       ·rcases Jb aj l hl y bS with⟨p,_,h⟩|h
        ·obtain⟨z,hz,h⟩:=GA h;have:=ih z hz y h;omega
        ·have:=(BA hg n).2 y h;omega
      ·omega
     ·cases hy
def ownO:Option Nat->Own
 |none=>.clip
 |some i=>.tag i
def sgO(O:Sig)(n:Nat):Option Nat->Sig
 |none=>O
 |some i=>O.set i (.tail 1 n)
attribute [simp] B5
@[simp] theorem ownO_none:ownO none=.clip:=rfl
@[simp] theorem Fl(i:Nat):ownO (some i)=.tag i:=rfl
@[simp] theorem sgO_none(O:Sig)(n:Nat):sgO O n none=O:=rfl
@[simp] theorem GV(O:Sig)(n i:Nat):sgO O n (some i)=O.set i (.tail 1 n):=rfl
theorem Jt(g:List (List Int))(o:Own)(O:Sig)(hb:B6 g=true)(hl:∀x∈g,x.length<=1073741824:=by exact sd):
  DCall prog 268 [.slice (cII g) o] O (rS (sl (cII (ordersN g (3+g.length)))) O):=by
 have hlen:=Dw hb
 refine en func268 ntmps268 ?_
 try refine gz ?_
 refine rtw 3 (.slice (cII (ordersN g 1)) .clip) ?_ (DH _ ⟨⟨C0 _ _,trivial⟩,trivial⟩)
 refine BS [0,2,43] (fun (n:Nat) (ow:Option Nat)=>1<=n/\n<=3+g.length /\ ∀i,ow=some i->O i=none) (fun n ow=>[(4,dI n),(3,.slice (cII (ordersN g n)) (ownO ow))]) (fun n ow=>sgO O n ow) (fun n _=>3+g.length-n) (1) (none) (by exact⟨by omega,by omega,by simp⟩) (fun n ow hI=>?_)
 obtain⟨h1,h2,hi⟩:=hI
 by_cases hn:n<3+g.length
 ·have ay:=B5 g n
  have ai:=BA hb n
  have hB:∀p:Int,0<=p->(At (ordersN g n) p).length<=80000000:=fun p hp=>CL hb (by omega) hp
  have cq:∀x∈ordersN g n,x.length<=1073741824:=fun x hx=>by
   obtain⟨k,hk,rfl⟩:=List.getElem_of_mem hx
   have:=hB k (by omega)
   unfold At at this
   rw[show((k:Int)).toNat=k by omega,List.getElem?_eq_getElem hk]at this
   simp only[Option.getD_some]at this
   omega
  have ah:=Sm g (ordersN g n) n o (ownO ow) (sgO O n ow) (by omega) (by omega) (by have:=ai.1;omega) (fun p hp=>by have:=ai.2 p hp;rw[B5];omega) (by rw[B5];omega) cq
  have aa:ordersN g (n+1)=ordersN g n++[Bj (ordersN g n) n (parentsF g n)]:=by rw[ordersN,if_neg (by omega)]
  cases aj:Bt (ordersN g n) (parentsF g n)with
  | none =>
   rw[aj]at ah
   have hx:Bj (ordersN g n) n (parentsF g n)=[]:=by rw[Bj,aj]
   repeat' first|refine gz ?_|refine AR (ah) ?_|refine callP (ah) ?_|refine gz ?_|apply gy<;>intro hh
   refine rtl 41 (.slice [[sl (cI [])]] .clip) ?_ (DH _ ⟨⟨Ak _ (.inl rfl),trivial⟩,trivial⟩)
   have ae:∀i,WkD (.slice (cII (ordersN g n)++[[sl (cI (Bj (ordersN g n) n (parentsF g n)))]]) (.tag i)) (.slice (cII (ordersN g (n+1))) (ownO (some i))):=fun i=>C8 (by rw[aa];simp[cII])
   rw[hx]at ae
   rcases ow with _|i
   ·refine appC (fun i aC=>?_) (hlen:=BG _)
    have hw:=ae i
    have ag:Sub (sgO O (n+1) (some i)) ((sgO O n none).set i (.tail (tab 23).size ((cII (ordersN g n)).length+[[sl (cI [])]].length))):=BV (by simp[ay])
    try refine gz ?_
    exact⟨n+1,some i,⟨by omega,by omega,fun _ e=>by cases e;exact aC⟩,td1,wkR⟩
   ·have hw:=ae i
    simp only[Fl,GV]
    try refine gz ?_
    exact⟨n+1,some i,⟨by omega,by omega,fun _ e=>by cases e;exact hi i rfl⟩,td1,wkR⟩
  | some ls =>
   rw[aj]at ah
   have hT:=Fw aj (fun p hp=>hB p (by have:=ai.2 p hp;omega))
   have h3:(parentsF g n).length*80000000<=3*80000000:=Nat.mul_le_mul_right _ ai.1
   have h4:=ai.1
   have aH:=Sj ls .no (sgO O n ow) (fun x hx y hy=>by
    rcases Jb aj x hx y hy with⟨p,_,h⟩|h
    ·obtain⟨z,hz,h⟩:=GA h;exact(Gz hb n z hz y h).1
    ·have:=ai.2 y h;omega) (by omega) (by omega)
   have bJ:=Ee ls
   by_cases aV:(BM ls).1=[]
   ·repeat' first|refine gz ?_|refine AR (ah) ?_|refine callP (ah) ?_|refine AR (aH) ?_|refine callP (aH) ?_|refine gz ?_|apply gy<;>intro hh
    ·have hx:Bj (ordersN g n) n (parentsF g n)=[(n:Int),0]:=by rw[Bj,aj];simp[hh,aV]
     refine app0 ?_
     try refine gz ?_
     refine appCW (fun j hj=>?_)
     try refine gz ?_
     refine rtl 41 (.slice [[sl (cI [(n:Int),0])]] .clip) ?_
     refine drp (sgO O n ow) ?_ ((Sub.refl _).set hj)
     have ae:∀i,WkD (.slice (cII (ordersN g n)++[[sl (cI (Bj (ordersN g n) n (parentsF g n)))]]) (.tag i)) (.slice (cII (ordersN g (n+1))) (ownO (some i))):=fun i=>C8 (by rw[aa];simp[cII])
     rw[hx]at ae
     rcases ow with _|i
     ·refine appC (fun i aC=>?_) (hlen:=BG _)
      have hw:=ae i
      have ag:Sub (sgO O (n+1) (some i)) ((sgO O n none).set i (.tail (tab 23).size ((cII (ordersN g n)).length+[[sl (cI [])]].length))):=BV (by simp[ay])
      try refine gz ?_
      exact⟨n+1,some i,⟨by omega,by omega,fun _ e=>by cases e;exact aC⟩,td1,wkR⟩
     ·have hw:=ae i
      simp only[Fl,GV]
      try refine gz ?_
      exact⟨n+1,some i,⟨by omega,by omega,fun _ e=>by cases e;exact hi i rfl⟩,td1,wkR⟩
    ·have hx:Bj (ordersN g n) n (parentsF g n)=[]:=by rw[Bj,aj];simp[hh]
     refine rtl 41 (.slice [[sl (cI [])]] .clip) ?_ (DH _ ⟨⟨Ak _ (.inl rfl),trivial⟩,trivial⟩)
     have ae:∀i,WkD (.slice (cII (ordersN g n)++[[sl (cI (Bj (ordersN g n) n (parentsF g n)))]]) (.tag i)) (.slice (cII (ordersN g (n+1))) (ownO (some i))):=fun i=>C8 (by rw[aa];simp[cII])
     rw[hx]at ae
     rcases ow with _|i
     ·refine appC (fun i aC=>?_) (hlen:=BG _)
      have hw:=ae i
      have ag:Sub (sgO O (n+1) (some i)) ((sgO O n none).set i (.tail (tab 23).size ((cII (ordersN g n)).length+[[sl (cI [])]].length))):=BV (by simp[ay])
      try refine gz ?_
      exact⟨n+1,some i,⟨by omega,by omega,fun _ e=>by cases e;exact aC⟩,td1,wkR⟩
     ·have hw:=ae i
      simp only[Fl,GV]
      try refine gz ?_
      exact⟨n+1,some i,⟨by omega,by omega,fun _ e=>by cases e;exact hi i rfl⟩,td1,wkR⟩
   ·repeat' first|refine gz ?_|refine AR (ah) ?_|refine callP (ah) ?_|refine AR (aH) ?_|refine callP (aH) ?_|refine gz ?_|apply gy<;>intro hh
    ·have hx:Bj (ordersN g n) n (parentsF g n)=(n:Int)::(BM ls).1++[0]:=by rw[Bj,aj];simp[hh]
     refine appC (fun j hj=>?_) (hne:=by simp[cI];exact aV)
     try refine gz ?_
     refine rtl 41 (.slice [[sl (cI ((n:Int)::(BM ls).1++[0]))]] .clip) ?_ (DH _ ⟨⟨DI _ (by simp[cI]),trivial⟩,trivial⟩)
     refine drp (sgO O n ow) ?_ ((Sub.refl _).set hj)
     have ae:∀i,WkD (.slice (cII (ordersN g n)++[[sl (cI (Bj (ordersN g n) n (parentsF g n)))]]) (.tag i)) (.slice (cII (ordersN g (n+1))) (ownO (some i))):=fun i=>C8 (by rw[aa];simp[cII])
     rw[hx]at ae
     rcases ow with _|i
     ·refine appC (fun i aC=>?_) (hlen:=BG _)
      have hw:=ae i
      have ag:Sub (sgO O (n+1) (some i)) ((sgO O n none).set i (.tail (tab 23).size ((cII (ordersN g n)).length+[[sl (cI [])]].length))):=BV (by simp[ay])
      try refine gz ?_
      exact⟨n+1,some i,⟨by omega,by omega,fun _ e=>by cases e;exact aC⟩,td1,wkR⟩
     ·have hw:=ae i
      simp only[Fl,GV]
      try refine gz ?_
      exact⟨n+1,some i,⟨by omega,by omega,fun _ e=>by cases e;exact hi i rfl⟩,td1,wkR⟩
    ·have hx:Bj (ordersN g n) n (parentsF g n)=[]:=by rw[Bj,aj];simp[hh]
     refine rtl 41 (.slice [[sl (cI [])]] .clip) ?_ (DH _ ⟨⟨Ak _ (.inl rfl),trivial⟩,trivial⟩)
     have ae:∀i,WkD (.slice (cII (ordersN g n)++[[sl (cI (Bj (ordersN g n) n (parentsF g n)))]]) (.tag i)) (.slice (cII (ordersN g (n+1))) (ownO (some i))):=fun i=>C8 (by rw[aa];simp[cII])
     rw[hx]at ae
     rcases ow with _|i
     ·refine appC (fun i aC=>?_) (hlen:=BG _)
      have hw:=ae i
      have ag:Sub (sgO O (n+1) (some i)) ((sgO O n none).set i (.tail (tab 23).size ((cII (ordersN g n)).length+[[sl (cI [])]].length))):=BV (by simp[ay])
      try refine gz ?_
      exact⟨n+1,some i,⟨by omega,by omega,fun _ e=>by cases e;exact aC⟩,td1,wkR⟩
     ·have hw:=ae i
      simp only[Fl,GV]
      try refine gz ?_
      exact⟨n+1,some i,⟨by omega,by omega,fun _ e=>by cases e;exact hi i rfl⟩,td1,wkR⟩
 ·have hne:n=3+g.length:=by omega
  subst hne
  have ag:Sub O (sgO O (3+g.length) ow):=by
   rcases ow with _|i
   ·exact Sub.refl _
   ·exact(Sub.refl _).set (hi i rfl)
  try refine gz ?_
  exact fe1 (d':=sl (cII (ordersN g (3+g.length)))) trivial
@[reducible,instance] def a268:=fun g o O=>ah2 (@Jt g o O)
theorem ST(g:List (List Int))(c:Int)(o:Own)(O:Sig)(hb:B6 g=true)(hc:0<=c/\c<3+g.length)(hl:∀x∈g,x.length<=1073741824:=by exact sd):
  DCall prog 220 [.slice (cII g) o,dI c] O (rS (.tup [sl (cI (Fx g c)),.bool (decide (0<(Fx g c).length))]) O):=by
 obtain⟨k,rfl⟩:∃k:Nat,c=(k:Int):=⟨c.toNat,by omega⟩
 have hk:k<3+g.length:=by omega
 have hlen:=Dw hb
 have hL:(ordersN g (3+g.length))[k]'(by simpa using hk)=Fx g k:=by
  unfold Fx At
  rw[show((k:Int)).toNat=k by omega,List.getElem?_eq_getElem (by simpa using hk)];rfl
 have cb:(Fx g k).length<=80000000:=CL hb (by omega) hc.1
 have ay:=B5 g (3+g.length)
 refine en func220 ntmps220 ?_
 repeat' first|refine gf hL ?_|refine AR (Jt g o O hb hl) ?_|refine callP (Jt g o O hb hl) ?_|refine gf hL ?_|apply gy<;>intro hh
 exact fe2 trivial
def CP(bs:List Bool):List D:=bs.map .bool
@[simp] theorem VS(bs:List Bool):(CP bs).length=bs.length:=by simp[CP]
@[simp] theorem boolsD_get(bs:List Bool)(k:Nat):(CP bs)[k]? = (bs[k]?).map .bool:=by simp[CP]
theorem Qi(bs:List Bool)(k:Nat)(b:Bool):(CP bs).set k (.bool b)=CP (bs.set k b):=by simp[CP]
@[simp] theorem boolsD_put(bs:List Bool)(k:Nat)(b:Bool)(h:k<bs.length):(CP bs).take k ++ .bool b::(CP bs).drop (k+1)=CP (bs.set k b):=by
 rw[<-Qi,List.set_eq_take_append_cons_drop,if_pos (by simpa using h)]
def G9(k:Nat):List Int->List Bool->List Bool
 |[],bs=>bs
 |p::r,bs=>G9 k r (bs.set p.toNat (bs.getD p.toNat false||bs.getD k false))
def upD(g:List (List Int)):Nat->List Bool->List Bool
 |0,bs=>bs
 |j+1,bs=>upD g j (G9 (j+3) (parentsF g (j+3:Nat)) bs)
def upF(g:List (List Int))(c:Int):List Bool:=upD g (c.toNat-2) ((List.replicate (3+g.length) false).set c.toNat true)
theorem Ss(w:World)(c:Int)(O:Sig)(hb:B6 w.parents=true)(hc:0<=c/\c<3+w.parents.length):
  DCall prog 296 [.agg (CO w),dI c] O fun x U'=> ∃i,x=.ret (.sref i 0 (3+w.parents.length) (3+w.parents.length))/\O i=none/\U'=O.set i (.cells (CP (upF w.parents c))):=by
 have hlen:=Dw hb
 obtain⟨k,rfl⟩:∃k:Nat,c=(k:Int):=⟨c.toNat,by omega⟩
 refine en func296 ntmps296 ?_
 try refine gz ?_
 refine mmake (k:=3+w.parents.length) (c:=3+w.parents.length) (z:=[.bool false]) (sz:=1) (fun i hi hm=>?_)
 have e0:mS O (some (i,3+w.parents.length,(List.replicate (3+w.parents.length-(3+w.parents.length)) [D.bool false]).flatten)) (List.replicate (3+w.parents.length) [D.bool false])=O.set i (.cells (CP (List.replicate (3+w.parents.length) false))):=by
  simp only[mS,Nat.sub_self,List.replicate_zero,List.flatten_nil,List.append_nil]
  congr 2
  generalize 3+w.parents.length=m
  induction m with
  |zero=>rfl
  |succ m ih=>rw[List.replicate_succ,List.replicate_succ,List.flatten_cons,ih];rfl
 rw[e0]
 generalize bR:List.replicate (3+w.parents.length) false=b0
 have bL:b0.length=3+w.parents.length:=by rw[<-bR];simp
 try refine gf bL ?_
 refine BS [2,4,5,47] (fun (m:Nat) (bs:List Bool)=>m<=k/\bs.length=3+w.parents.length/\upD w.parents (m-2) bs=upF w.parents k) (fun m _=>[(6,dI m)]) (fun _ bs=>O.set i (.cells (CP bs))) (fun m _=>m) (k) (b0.set k true) (by exact⟨Nat.le_refl _,by simpa using bL,by rw[upF,<-bR];rfl⟩) (fun m bs hI=>?_)
 obtain⟨hm,cn,hU⟩:=hI
 have cT:(O.set i (.cells (CP bs))) i=some (.cells (CP bs)):=w6 ..
 by_cases h3:3<=m
 ·obtain⟨j,hj⟩:∃j,m=j+3:=⟨m-3,by omega⟩
  have ax:w.parents[j]'(by omega)=parentsF w.parents m:=by
   unfold parentsF
   rw[if_neg (by omega),show((m:Int)-3).toNat=j by omega,List.getElem?_eq_getElem (by omega)];rfl
  have ai:=BA hb m
  rw[show m-2=j+1 by omega,upD,<-hj]at hU
  rw[<-ax]at hU ai
  have e3:(m:Int)-3=j:=by omega
  generalize bG:w.parents[j]'(by omega)=ps at hU ai
  try refine gf (gi e3 bG) ?_
  refine BS [2,4,5,6,18,19,20,21,22,23,24,25,26,27,28,47] (fun (q:Nat) (b2:List Bool)=>q<=ps.length/\b2.length=3+w.parents.length/\G9 m ps bs=G9 m (ps.drop q) b2) (fun q _=>[(29,dI q)]) (fun _ b2=>O.set i (.cells (CP b2))) (fun q _=>ps.length-q) (0) (bs) (by exact⟨by omega,cn,rfl⟩) (fun q b2 hI=>?_)
  obtain⟨hq,aO,hR⟩:=hI
  have cR:(O.set i (.cells (CP b2))) i=some (.cells (CP b2)):=w6 ..
  by_cases aT:q<ps.length
  ·have hp:=ai.2 _ (List.getElem_mem aT)
   rw[A4 aT,G9]at hR
   obtain⟨p,bb⟩:∃p:Nat,ps[q]=(p:Int):=⟨(ps[q]).toNat,by omega⟩
   rw[bb]at hR hp
   have hm2:m<b2.length:=by omega
   have bZ:p<b2.length:=by omega
   rw[show((p:Int)).toNat=p by omega,List.getD_eq_getElem?_getD,List.getD_eq_getElem?_getD,List.getElem?_eq_getElem hm2,List.getElem?_eq_getElem bZ,Option.getD_some,Option.getD_some]at hR
   repeat' first|refine gf (gi e3 (gi bG bb)) ?_|apply gy<;>intro hh
   ·rw[hh,Bool.true_or]at hR
    exact⟨q+1,b2.set p true,⟨by omega,by simpa using aO,hR⟩,td1,wkR⟩
   ·rw[hh,Bool.false_or]at hR
    exact⟨q+1,b2.set p b2[m],⟨by omega,by simpa using aO,hR⟩,td1,wkR⟩
  ·rw[Aa aT,G9]at hR
   rw[hR]at hU
   try refine gz ?_
   exact⟨m-1,b2,⟨by omega,aO,by rw[show m-1-2=j by omega];exact hU⟩,td1,wkR⟩
 ·rw[show m-2=0 by omega,upD]at hU
  subst hU
  try refine gz ?_
  exact fin1 (U':=O.set i (.cells (CP (upF w.parents k)))) ⟨i,rfl,hi,rfl⟩
theorem D7(k:Nat): ∀(ps:List Int) (bs:List Bool),(G9 k ps bs).length=bs.length
 |[],_=>rfl
 |p::r,bs=>by rw[G9,D7 k r,List.length_set]
theorem Kb(g:List (List Int)): ∀(j:Nat) (bs:List Bool),(upD g j bs).length=bs.length
 |0,_=>rfl
 |j+1,bs=>by rw[upD,Kb g j,D7]
theorem Pn(g:List (List Int))(c:Int):(upF g c).length=3+g.length:=by rw[upF,Kb,List.length_set,List.length_replicate]
def Im(g:List (List Int))(a b:Int):Bool:=decide (a=b)||decide (b=0)||(decide (3<=a)&&(upF g a).getD b.toNat false)
theorem Ju(w:World)(a b:Int)(O:Sig)(hb:B6 w.parents=true)(ha:0<=a/\a<3+w.parents.length)(cW:0<=b/\b<3+w.parents.length):
  DCall prog 248 [.agg (CO w),dI a,dI b] O (rS (.bool (Im w.parents a b)) O):=by
 have hlen:=Dw hb
 obtain⟨k,rfl⟩:∃k:Nat,b=(k:Int):=⟨b.toNat,by omega⟩
 have cC:=Pn w.parents a
 have hk:k<(upF w.parents a).length:=by omega
 have bx:(upF w.parents a).getD k false=(upF w.parents a)[k]:=by rw[List.getD_eq_getElem?_getD,List.getElem?_eq_getElem hk];rfl
 refine en func248 ntmps248 ?_
 by_cases h1:a=(k:Int)\/(k:Int)=0
 ·have e:Im w.parents a k=true:=by
   unfold Im
   rcases h1 with h1|h1<;>simp[h1]
  repeat' first|refine gz ?_|apply gy<;>intro hh
  any_goals (first|exact fe1 e|fail)
 ·have e:Im w.parents a k=(decide (3<=a)&&(upF w.parents a)[k]):=by
   unfold Im
   rw[show((k:Int)).toNat=k by omega,bx]
   simp only[not_or]at h1
   rw[decide_eq_false h1.1,decide_eq_false h1.2];rfl
  by_cases h3:3<=a
  ·try refine gz ?_
   refine A7 (Ss w a _ hb ha) (fun d U' hx=>?_) (fun d U' hx=>by obtain⟨_,hx,_⟩:=hx;cases hx)
   obtain⟨i,hx,hi,rfl⟩:=hx
   cases hx
   simp only[putD]
   try refine gz ?_
   exact fe1 (gi e h3)
  ·try refine gz ?_
   exact fe1 (gi e h3)
@[reducible,instance] def a248:=fun w a b O=>ah3 (@Ju w a b O)
def hasW(w:World)(c s:Int):Bool:=decide (3<=c)&&Im w.parents c ((w.owner[s.toNat]?).getD 0)
theorem MQ(w:World)(c s:Int)(O:Sig)(hb:B6 w.parents=true)(hc:0<=c/\c<3+w.parents.length)(hs:0<=s/\s<w.owner.length)(ho:∀x∈w.owner,0<=x/\x<3+w.parents.length):
  DCall prog 193 [.agg (CO w),dI c,dI s] O (rS (.bool (hasW w c s)) O):=by
 have hlen:=Dw hb
 obtain⟨k,rfl⟩:∃k:Nat,s=(k:Int):=⟨s.toNat,by omega⟩
 have hk:k<w.owner.length:=by omega
 have bI:=ho _ (List.getElem_mem hk)
 have e:hasW w c k=(decide (3<=c)&&Im w.parents c (w.owner[k])):=by
  unfold hasW;rw[show((k:Int)).toNat=k by omega,List.getElem?_eq_getElem hk];rfl
 refine en func193 ntmps193 ?_
 by_cases h3:3<=c
 ·repeat' first|refine gz ?_|refine moRG (Ju w c (w.owner[k]) O hb hc bI) ?_|refine moPG (Ju w c (w.owner[k]) O hb hc bI) ?_|refine gz ?_ o193|apply gy<;>intro hh
  exact fe1 (gi e h3)
 ·try refine gz ?_ o193
  exact fe1 (gi e h3)
@[reducible,instance] def a193:=fun w c s O=>ah4 (@MQ w c s O)
def Cc:Int->List Int->Option Int
 |n,[]=>some n
 |n,s::r=>if s=n then Cc (n+1) r else none
def Fb:Int->List BClass->Option Int
 |n,[]=>some n
 |n,c::r=>if 4<c.slots.length\/3<c.parents.length then none else match Cc n c.slots with
  |none=>none
  |some m=>Fb m r
def F9(w:World)(N c:Int)(x:Init):Bool:=decide (0<=x.slot/\x.slot<N)&&hasW w c x.slot&&inB x.n
def FA(w:World)(N c:Int):List Init->List Init->Bool
 |_,[]=>true
 |seen,x::r=>F9 w N c x&&(seen.all fun y=> !decide (y.slot=x.slot))&&FA w N c (seen++[x]) r
def Du(w:World)(N:Int):Nat->List BClass->Bool
 |_,[]=>true
 |i,c::r=>decide (0<(Fx w.parents ((i:Int)+3)).length)&&FA w N ((i:Int)+3) [] c.inits&&Du w N (i+1) r
def AA(p:BProg):Bool:=decide (p.classes.length<=10)&&match Fb 0 p.classes with
 |none=>false
 |some n=>decide (n=p.slots)&&B6 (p.classes.map (·.parents))&&Du (AP p) n 0 p.classes
theorem BZ: ∀(l:List BClass) (i:Nat),(ownersF l i).length=wtL (fun c:BClass=>c.slots.length) l
 |[],_=>rfl
 |c::r,i=>by rw[ownersF,List.length_append,List.length_replicate,BZ r];rfl
theorem EM: ∀{l:List BClass}{i:Nat}{x:Int},x∈ownersF l i->3+(i:Int)<=x/\x<3+i+l.length
 |[],_,_,h=>by cases h
 |c::r,i,x,h=>by
  rw[ownersF]at h
  rcases List.mem_append.1 h with h|h
  ·have:=List.eq_of_mem_replicate h;rw[List.length_cons];omega
  ·have:=EM h;rw[List.length_cons];omega
theorem Th (p:BProg) (O:Sig) (hp:p.wt<=1073741824:=by exact sd):DCall prog 144 [.agg (Ae p)] O (rS (.bool (AA p)) O):=by
 obtain⟨p1,p2,p3,p4,p5,p6,p7⟩:=p.wt_le
 have ws:=Do p
 have aJ:∀c∈p.classes,c.parents.length<=1073741824/\c.slots.length<=1073741824/\c.inits.length<=1073741824:=fun c hc=>by
  obtain⟨k,hk,rfl⟩:=List.getElem_of_mem hc
  have:=p5 k hk
  have cw:(p.classes[k]).wt=1+(p.classes[k]).parents.length+(p.classes[k]).slots.length+(p.classes[k]).inits.length:=rfl
  omega
 refine en func144 ntmps144 ?_
 repeat' first|refine gz ?_ o144|apply gy<;>intro hh
 ·(refine fin1 (U':=O) ?_;exact⟨by first|rfl|(simp[AA];done)|(simp_all [AA];done)|(rw[Ac,Bool.eq_iff_iff];simp_all [AA]<;>omega),rfl⟩)
 refine BS [1,7,8,9,10,11,12,13,14,15,60,61,62,63,64,65,66,67,68,69,70,71,72,73,74,75,76,77,78,79,80,81,82,83,84,85,86,87,88,89,90,91,92,93,94,95,96,97,98,99,100,101,102,103,104,105,106,107,108,109,110,111,112,113,114,115,116,117,118,119,120,121,122,123,124,125,126,127,128,129,130,131,132,133,134,135,136,137,138,139,140,141,142,143,144,145,146,147,148,149,150,151,152] (fun (i:Nat) (n:Int)=>i<=p.classes.length/\n=wtL (fun c:BClass=>c.slots.length) (p.classes.take i)/\Fb 0 p.classes=Fb n (p.classes.drop i)) (fun i n=>[(4,dI i),(3,dI n)]) (fun _ _=>O) (fun i _=>p.classes.length-i) (0) (0) (by simp[wtL]) (fun i n hI=>?_)
 obtain⟨hi,hn,hR⟩:=hI
 by_cases h:i<p.classes.length
 ·have hx:=aJ _ (List.getElem_mem h)
  have hT:=ED (fun c:BClass=>c.slots.length) p.classes i h
  have cZ:=Cy (fun c:BClass=>c.slots.length) p.classes (i+1)
  rw[A4 h,Fb]at hR
  repeat' first|refine gz ?_ o144|apply gy<;>intro hh
  ·have hc:Fb 0 p.classes=none:=by rw[hR,if_pos (.inl (by omega))]
   (refine fin1 (U':=O) ?_;exact⟨by first|rfl|(simp[AA,hc];done)|(simp_all [AA,hc];done)|(rw[Ac,Bool.eq_iff_iff];simp_all [AA,hc]<;>omega),rfl⟩)
  ·have hc:Fb 0 p.classes=none:=by rw[hR,if_pos (.inr (by omega))]
   (refine fin1 (U':=O) ?_;exact⟨by first|rfl|(simp[AA,hc];done)|(simp_all [AA,hc];done)|(rw[Ac,Bool.eq_iff_iff];simp_all [AA,hc]<;>omega),rfl⟩)
  ·rw[if_neg (by omega)]at hR
   generalize cE:(p.classes[i]).slots=sl' at*
   refine BU [1,4,5,7,8,9,10,11,12,13,14,15,20,21,22,23,24,25,26,27,28,29,30,31,32,33,34,35,36,37,38,39,40,41,42,43,44,45,60,61,62,63,64,65,66,67,68,69,70,71,72,73,74,75,76,77,78,79,80,81,82,83,84,85,86,87,88,89,90,91,92,93,94,95,96,97,98,99,100,101,102,103,104,105,106,107,108,109,110,111,112,113,114,115,116,117,118,119,120,121,122,123,124,125,126,127,128,129,130,131,132,133,134,135,136,137,138,139,140,141,142,143,144,145,146,147,148,149,150,151,152] (fun (q:Nat)=>q<=sl'.length/\Cc n sl'=Cc (n+q) (sl'.drop q)) (fun q=>[(6,dI q),(3,dI (n+q))]) (fun _=>O) (fun q=>sl'.length-q) (0) (by simp) (fun q hI=>?_)
   obtain⟨hq,hQ⟩:=hI
   by_cases aT:q<sl'.length
   ·rw[A4 aT,Cc]at hQ
    have cD:=hx.2.1
    have cM:0<=n:=by omega
    have cK:n<=1073741824:=by omega
    repeat' first|refine gz ?_ o144|apply gy<;>intro hh
    ·rw[if_neg hh]at hQ
     have hc:Fb 0 p.classes=none:=by rw[hR,hQ]
     (refine fin1 (U':=O) ?_;exact⟨by first|rfl|(simp[AA,hc];done)|(simp_all [AA,hc];done)|(rw[Ac,Bool.eq_iff_iff];simp_all [AA,hc]<;>omega),rfl⟩)
    ·rw[if_pos hh]at hQ
     exact⟨q+1,⟨by omega,by rw[hQ,Int.add_assoc];rfl⟩,td1,wkR⟩
   ·rw[Aa aT,Cc]at hQ
    rw[hQ]at hR
    have bF:q=sl'.length:=by omega
    try refine gz ?_ o144
    exact⟨i+1,n+q,⟨by omega,by rw[hT];omega,hR⟩,td1,wkR⟩
 ·rw [Aa h,Fb] at hR
  have aR:(AP p).parents=p.classes.map (·.parents):=rfl
  have ay:(AP p).owner.length=wtL (fun c:BClass=>c.slots.length) p.classes:=BZ _ _
  have b7:n=wtL (fun c:BClass=>c.slots.length) p.classes:=by rw[hn,List.take_of_length_le (by omega)]
  have aQ:=N1 p O (by omega) (fun c hc=>(aJ c hc).1)
  have bA:=Iw p O (by omega) (fun c hc=>(aJ c hc).1) (fun c hc=>(aJ c hc).2.1) (by rw[BZ];omega)
  have ak:=SU (p.classes.map (·.parents)) .no O (by simp;omega) (fun x hx=>by obtain⟨c,hc,rfl⟩:=List.mem_map.1 hx;exact(aJ c hc).1)
  by_cases hs:n=p.slots
  ·cases hg:B6 (p.classes.map (·.parents)) with
   |false=>
    rw[hg]at ak
    repeat' first|refine gz ?_|refine AR (aQ) ?_|refine callP (aQ) ?_|refine BX (ak) ?_|refine callPG (ak) ?_|refine gz ?_ o144|apply gy<;>intro hh
    (refine fin1 (U':=O) ?_;exact⟨by first|rfl|(simp[AA,hR,hg];done)|(simp_all [AA,hR,hg];done)|(rw[Ac,Bool.eq_iff_iff];simp_all [AA,hR,hg]<;>omega),rfl⟩)
   | true =>
    rw[hg]at ak
    have aN:AA p=Du (AP p) n 0 p.classes:=by unfold AA;rw[hR];simp[hs,hg];omega
    repeat' first|refine gz ?_|refine AR (aQ) ?_|refine callP (aQ) ?_|refine BX (ak) ?_|refine callPG (ak) ?_|refine AR (bA) ?_|refine callP (bA) ?_|refine gz ?_ o144|apply gy<;>intro hh
    have b6:∀x∈(AP p).owner,0<=x/\x<3+(AP p).parents.length:=fun x hx=>by
     have:=EM hx
     rw[aR,List.length_map];omega
    have cg:B6 (AP p).parents=true:=hg
    have cy:(AP p).parents.length=p.classes.length:=by rw[aR,List.length_map]
    have ay:((AP p).owner.length:Int)=n:=by rw[b7];exact_mod_cast ay
    clear aQ bA ak
    generalize hw:AP p=w at*
    refine BU [1,3,7,8] (fun (j:Nat)=>j<=p.classes.length/\Du w n 0 p.classes=Du w n j (p.classes.drop j)) (fun j=>[(9,dI j)]) (fun _=>O) (fun j=>p.classes.length-j) (0) (by simp) (fun j hI=>?_)
    obtain⟨hj,hJ⟩:=hI
    by_cases h':j<p.classes.length
    ·have hx:=aJ _ (List.getElem_mem h')
     rw[A4 h',Du]at hJ
     have aP:=ST w.parents ((j:Int)+3) .no O cg (by omega) (fun x hx=>by rw[aR]at hx;obtain⟨c,hc,rfl⟩:=List.mem_map.1 hx;exact(aJ c hc).1)
     rw[aR]at aP
     by_cases hl:0<(Fx w.parents ((j:Int)+3)).length
     ·rw [decide_eq_true hl,Bool.true_and] at hJ
      rw[aR]at hl
      rw[decide_eq_true hl]at aP
      generalize bO:(p.classes[j]).inits=ins at hJ hx
      repeat' first|refine gf bO ?_|refine AR (aP) ?_|refine callP (aP) ?_|refine gf bO ?_ o144|apply gy<;>intro hh
      refine BU [1,3,7,8,9,10,11,12,13,73,74,75,76,77,78,79,80,81,82,83,84,85,86,87,88,89,90,91,92,93,94,95] (fun (k:Nat)=>k<=ins.length/\FA w n ((j:Int)+3) [] ins=FA w n ((j:Int)+3) (ins.take k) (ins.drop k)) (fun k=>[(14,dI k)]) (fun _=>O) (fun k=>ins.length-k) (0) (by simp) (fun k hI=>?_)
      obtain⟨hk,hK⟩:=hI
      by_cases ap:k<ins.length
      ·have cQ:=hx.2.2
       rw[A4 ap,FA]at hK
       repeat' first|refine gz ?_ o144|apply gy<;>intro hh
       ·have hf:F9 w n ((j:Int)+3) ins[k]=false:=by unfold F9;rw[decide_eq_false (by omega)];rfl
        rw[hf,Bool.false_and,Bool.false_and]at hK
        rw[hK,Bool.false_and]at hJ
        exact fe1 (gi aN hJ)
       ·have hf:F9 w n ((j:Int)+3) ins[k]=false:=by unfold F9;rw[decide_eq_false (by omega)];rfl
        rw[hf,Bool.false_and,Bool.false_and]at hK
        rw[hK,Bool.false_and]at hJ
        exact fe1 (gi aN hJ)
       ·have hf:F9 w n ((j:Int)+3) ins[k]=false:=by unfold F9;simp_all
        rw[hf,Bool.false_and,Bool.false_and]at hK
        rw[hK,Bool.false_and]at hJ
        exact fe1 (gi aN hJ)
       ·have hf:F9 w n ((j:Int)+3) ins[k]=false:=by unfold F9;simp_all
        rw[hf,Bool.false_and,Bool.false_and]at hK
        rw[hK,Bool.false_and]at hJ
        exact fe1 (gi aN hJ)
       ·have ht:F9 w n ((j:Int)+3) ins[k]=true:=by unfold F9;rw[decide_eq_true (by omega)];simp_all
        rw[ht,Bool.true_and]at hK
        refine BU [1,3,7,8,9,10,11,12,13,14,73,74,75,76,77,78,79,80,81,82,83,84,85,86,87,88,89,90,91,92,93,94,95,96,97,98,99,100,101,102,103,104,105,106,107,108,109,110,111,112,113,114,115,116,117,118,119,120,121,122,123,124,125,126,127,128,129,130,131,132,133,134,135,136] (fun (m:Nat)=>m<=k/\((ins.take m).all fun y=> !decide (y.slot=(ins[k]).slot))=true) (fun m=>[(15,dI m)]) (fun _=>O) (fun m=>k-m) (0) (by simp) (fun m hI=>?_)
        obtain⟨hm,hM⟩:=hI
        by_cases cO:m<k
        ·have bJ:m<ins.length:=by omega
         repeat' first|refine gz ?_ o144|apply gy<;>intro hh
         ·have hf:((ins.take k).all fun y=> !decide (y.slot=(ins[k]).slot))=false:=by
           rw[List.all_eq_false]
           exact⟨ins[m],List.mem_take_iff_getElem.2 ⟨m,by omega,rfl⟩,by simp[hh]⟩
          rw[hf,Bool.false_and]at hK
          rw[hK,Bool.false_and]at hJ
          exact fe1 (gi aN hJ)
         ·exact⟨m+1,⟨by omega,by rw[List.take_succ_eq_append_getElem bJ,List.all_append,hM];simp[hh]⟩,td1,wkR⟩
        ·have b9:m=k:=by omega
         subst b9
         rw[hM,Bool.true_and]at hK
         try refine gz ?_ o144
         exact⟨m+1,⟨by omega,by rw[hK,DJ ap]⟩,td1,wkR⟩
      ·rw[Aa ap,FA]at hK
       rw[hK,Bool.true_and]at hJ
       try refine gz ?_ o144
       exact⟨j+1,⟨by omega,hJ⟩,td1,wkR⟩
     ·rw[decide_eq_false hl,Bool.false_and,Bool.false_and]at hJ
      rw[aR]at hl
      rw[decide_eq_false hl]at aP
      repeat' first|refine gz ?_|refine AR (aP) ?_|refine callP (aP) ?_|refine gz ?_ o144|apply gy<;>intro hh
      exact fe1 (gi aN hJ)
    ·rw[Aa h',Du]at hJ
     try refine gz ?_ o144
     exact fe1 (gi aN hJ)
  ·repeat' first|refine gz ?_|refine AR (aQ) ?_|refine callP (aQ) ?_|refine gz ?_ o144|apply gy<;>intro hh
   (refine fin1 (U':=O) ?_;exact⟨by first|rfl|(simp[AA,hR,hs];done)|(simp_all [AA,hR,hs];done)|(rw[Ac,Bool.eq_iff_iff];simp_all [AA,hR,hs]<;>omega),rfl⟩)
def UH(w:World)(l:List Int):Bool:=l.all (fun s=>decide (0<=s/\s<w.owner.length))&&decide (l.length<=2)
def Gs(op:Int):Int:=if op=5 then 1 else if op=6\/op=7 then 2 else 0
def Jo(w:World)(f:Fact):Bool:=
 if f.op=2 then decide (f.n=0)&&decide (0<=f.cls/\f.cls<3+w.parents.length)
 else if f.op=3\/f.op=4 then decide (f.cls=0)&&decide (-1000000000<=f.n/\f.n<=1000000000)
 else decide (f.op=1\/f.op=5\/f.op=6\/f.op=7)
def EW(w:World)(f:Fact):Bool:=
 decide ((f.kids.length:Int)=Gs f.op)&&decide (0<=f.arg/\f.arg<3)&&UH w f.path&&(Cs f.op||(decide (f.arg=0)&&decide (f.path.length=0)&&decide (f.cls=0)&&decide (f.n=0)))
mutual
def J3(w:World):Fact->Bool
 |.mk o a p c n k=>Jo w (.mk o a p c n k)&&EW w (.mk o a p c n k)&&DP w k
def DP(w:World):List Fact->Bool
 |[]=>true
 |f::l=>J3 w f&&DP w l
end
theorem Ow(w:World)(f:Fact):J3 w f=(Jo w f&&EW w f&&DP w f.kids):=by cases f;rw[J3];rfl
theorem Ans.of{f:Nat}{us:List D}{O:Sig}{d:D}(h:DCall prog f us O (rS d O)):Ans f us O True d:=⟨fun _=>h⟩
theorem MN (w:World) (f:Fact) (O:Sig) (hw:w.parents.length<=1073741824:=by exact sd) (bB:w.owner.length<=1073741824:=by exact sd) (hf:f.wt<=1073741824:=by exact sd) :
  DCall prog 224 [.agg (CO w),.agg (C6 f)] O (rS (.bool (J3 w f)) O):=by
 obtain⟨f1,f2,f3⟩:=f.wt_le
 have aB:∀(k:Nat) (hk:k<f.kids.length),DCall prog 224 [.agg (CO w),.agg (C6 (f.kids[k]))] O (rS (.bool (J3 w (f.kids[k]))) O):=fun k hk=>MN w (f.kids[k]) O hw bB (by have:=f3 k hk;omega)
 have ac:=Ow w f
 refine en func224 ntmps224 ?_
 cases ho:Jo w f with
 | false =>
  rw[ho,Bool.false_and,Bool.false_and]at ac
  unfold Jo at ho
  by_cases h2:f.op=2
  ·rw[if_pos h2,Bool.and_eq_false_iff,decide_eq_false_iff_not]at ho
   by_cases hn:f.n=0
   ·have hc:decide (0<=f.cls/\f.cls<3+(w.parents.length:Int))=false:=ho.resolve_left (fun h=>h hn)
    refine gf (gi h2 hc) ?_
    exact fe1 ac
   ·refine gf h2 ?_
    exact fe1 ac
  ·rw [if_neg h2] at ho
   by_cases aG:f.op=3\/f.op=4
   ·rw [if_pos aG,Bool.and_eq_false_iff,decide_eq_false_iff_not,decide_eq_false_iff_not] at ho
    by_cases hc:f.cls=0
    ·by_cases hn:f.n < -1000000000
     ·rcases aG with h3|h4
      ·refine gz ?_
       exact fe1 ac
      ·refine gz ?_
       exact fe1 ac
     ·rcases aG with h3|h4
      ·refine gz ?_
       exact fe1 ac
      ·refine gz ?_
       exact fe1 ac
    ·rcases aG with h3|h4
     ·refine gz ?_
      exact fe1 ac
     ·refine gz ?_
      exact fe1 ac
   ·rw[if_neg aG]at ho
    have cJ:=of_decide_eq_false ho
    refine gz ?_
    exact fe1 ac
 | true =>
  rw[ho,Bool.true_and]at ac
  unfold Jo at ho
  repeat ((fail_if_success refine dwp_join (c:=.block 0 _) 5 (dI 0) ?_ ?_);(refine go1 trivial ?_))
  refine dwp_join (c:=.block 0 _) 5 (dI (Gs f.op)) ?_ ?_
  ·by_cases h2:f.op=2
   ·rw[if_pos h2,Bool.and_eq_true,decide_eq_true_eq]at ho
    have am:Gs f.op=0:=by rw[h2];rfl
    refine gf (gi h2 ho.2) ?_
    refine Gq ?_ (Sub.refl _);simp[am]
   ·rw[if_neg h2]at ho
    by_cases aG:f.op=3\/f.op=4
    ·rw[if_pos aG,Bool.and_eq_true,decide_eq_true_eq,decide_eq_true_eq]at ho
     rcases aG with h3|h4
     ·have am:Gs f.op=0:=by rw[h3];rfl
      refine gz ?_
      refine Gq ?_ (Sub.refl _);simp[am]
     ·have am:Gs f.op=0:=by rw[h4];rfl
      refine gz ?_
      refine Gq ?_ (Sub.refl _);simp[am]
    ·rw[if_neg aG]at ho
     rcases of_decide_eq_true ho with h1|h1|h1|h1
     ·have am:Gs f.op=0:=by rw[h1];rfl
      refine gz ?_
      refine Gq ?_ (Sub.refl _);simp[am]
     ·have am:Gs f.op=1:=by rw[h1];rfl
      refine gz ?_
      refine Gq ?_ (Sub.refl _);simp[am]
     ·have am:Gs f.op=2:=by rw[h1];rfl
      refine gz ?_
      refine Gq ?_ (Sub.refl _);simp[am]
     ·have am:Gs f.op=2:=by rw[h1];rfl
      refine gz ?_
      refine Gq ?_ (Sub.refl _);simp[am]
  ·clear ho
   have cz:Gs f.op=0\/Gs f.op=1\/Gs f.op=2:=by
    unfold Gs;split
    ·exact .inr (.inl rfl)
    ·split
     ·exact .inr (.inr rfl)
     ·exact .inl rfl
   have aq:DCall prog 271 [.agg (CO w),.slice (cI f.path) .no] O (rS (.bool (UH w f.path)) O):=Sy w f.path .no O bB (by omega)
   have ar:=MM f O
   cases hr:EW w f with
   | false =>
    rw[hr,Bool.false_and]at ac
    unfold EW at hr
    by_cases hk:(f.kids.length:Int)=Gs f.op
    ·rw [decide_eq_true hk,Bool.true_and] at hr
     by_cases cY:f.arg<0
     ·refine gz ?_
      exact fe1 ac
     ·by_cases cX:3<=f.arg
      ·refine gz ?_
       exact fe1 ac
      ·rw [decide_eq_true (by omega),Bool.true_and] at hr
       cases hp:UH w f.path with
       |false=>
        rw[hp]at aq
        have i232:=Ans.of aq
        refine gz ?_
        exact fe1 ac
       | true =>
        rw[hp]at aq
        have i232:=Ans.of aq
        rw[hp,Bool.true_and,Bool.or_eq_false_iff]at hr
        rw[hr.1]at ar
        have i180:=Ans.of ar
        have cF:¬(f.arg=0/\(f.path.length=0)/\f.cls=0/\f.n=0):=fun h=>by
         have:=hr.2;rw[decide_eq_true h.1,decide_eq_true h.2.1,decide_eq_true h.2.2.1,decide_eq_true h.2.2.2]at this;cases this
        by_cases bX:f.arg=0
        ·by_cases bF:f.path.length=0
         ·by_cases bW:f.cls=0
          ·refine gz ?_
           exact fe1 ac
          ·refine gz ?_
           exact fe1 ac
         ·refine gz ?_
          exact fe1 ac
        ·refine gz ?_
         exact fe1 ac
    ·refine gz ?_
     exact fe1 ac
   | true =>
    rw[hr,Bool.true_and]at ac
    unfold EW at hr
    simp only[Bool.and_eq_true,decide_eq_true_eq]at hr
    obtain⟨⟨⟨hk,ha⟩,hp⟩,hl⟩:=hr
    rw[hp]at aq
    have i232:=Ans.of aq
    cases bK:Cs f.op with
    | true =>
     rw[bK]at ar
     have i180:=Ans.of ar
     refine gz ?_
     refine BU [2,92,93] (fun (k:Nat)=>k<=f.kids.length/\DP w f.kids=DP w (f.kids.drop k)) (fun k=>[(94,dI k)]) (fun _=>O) (fun k=>f.kids.length-k) (0) (by simp) (fun k hI=>?_)
     obtain⟨hk,hK⟩:=hI
     by_cases ap:k<f.kids.length
     ·rw[A4 ap,DP]at hK
      repeat' first|refine gz ?_|refine AR (aB k ap) ?_|refine callP (aB k ap) ?_|refine gz ?_|apply gy<;>intro hh
      ·exact fe1 (gi ac hK)
      ·rw[show J3 w f.kids[k]=true by simpa using hh,Bool.true_and]at hK
       exact⟨k+1,⟨by omega,hK⟩,td1,wkR⟩
     ·rw[Aa ap,DP]at hK
      refine gz ?_
      exact fe1 (gi ac hK)
    | false =>
     rw[bK]at ar hl
     have i180:=Ans.of ar
     simp only[Bool.false_or,Bool.and_eq_true,decide_eq_true_eq]at hl
     obtain⟨⟨⟨bX,bF⟩,bW⟩,cG⟩:=hl
     refine gz ?_
     refine BU [2,92,93] (fun (k:Nat)=>k<=f.kids.length/\DP w f.kids=DP w (f.kids.drop k)) (fun k=>[(94,dI k)]) (fun _=>O) (fun k=>f.kids.length-k) (0) (by simp) (fun k hI=>?_)
     obtain⟨hk,hK⟩:=hI
     by_cases ap:k<f.kids.length
     ·rw[A4 ap,DP]at hK
      repeat' first|refine gz ?_|refine AR (aB k ap) ?_|refine callP (aB k ap) ?_|refine gz ?_|apply gy<;>intro hh
      ·exact fe1 (gi ac hK)
      ·rw[show J3 w f.kids[k]=true by simpa using hh,Bool.true_and]at hK
       exact⟨k+1,⟨by omega,hK⟩,td1,wkR⟩
     ·rw[Aa ap,DP]at hK
      refine gz ?_
      exact fe1 (gi ac hK)
termination_by SizeOf.sizeOf f
decreasing_by exact Fact.lt (List.getElem_mem _)
@[reducible,instance] def a224:=fun w f O=>ah3 (@MN w f O)
end Go.DL
