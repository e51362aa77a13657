/- A part of the proof. -/
import Derived.Test.YteldimffglchkaaGreatDoorR13
set_option linter.all false
namespace Go.DL
open Go.Proofs.Tryz
open Go Go.Proofs
set_option maxHeartbeats 8000000
theorem Jb{i:Nat}: ∀{l seen:List Int},Dp i seen l=true->∀p∈l,3<=p/\p<3+i
 |[],_,_,p,hp=>by simp at hp
 |q::r,seen,h,p,hp=>by
  simp only[Dp,Bool.and_eq_true,decide_eq_true_eq]at h
  rcases List.mem_cons.1 hp with rfl|hp
  ·exact h.1.1
  ·exact Jb h.2 p hp
theorem FE: ∀{g:List (List Int)}{i:Nat},C8 i g=true->∀k (hk:k<g.length),HO (i+k) g[k]=true
 |l::r,i,h,0,_=>by simp only[C8,Bool.and_eq_true]at h;exact h.1
 |l::r,i,h,k+1,hk=>by
  simp only[C8,Bool.and_eq_true]at h
  have:=FE h.2 k (by simpa using hk)
  rw[show i+(k+1)=i+1+k by omega];exact this
theorem BE{g:List (List Int)}(h:Bb g=true)(c:Nat):(parentsF g c).length<=3 /\ ∀p∈parentsF g c,3<=p/\p<c:=by
 simp only[Bb,Bool.and_eq_true]at h
 unfold parentsF
 split
 ·simp
 ·rename_i hc
  by_cases hk:(((c:Int)-3).toNat)<g.length
  ·have:=FE h.2 _ hk
   rw[List.getElem?_eq_getElem hk,Option.getD_some]
   simp only[HO,Bool.and_eq_true,decide_eq_true_eq]at this
   refine⟨this.1,fun p hp=>?_⟩
   have:=Jb this.2 p hp
   omega
  ·rw[List.getElem?_eq_none (by omega)];simp
theorem Dx{g:List (List Int)}(h:Bb g=true):g.length<=16:=by
 simp only[Bb,Bool.and_eq_true,decide_eq_true_eq]at h;exact h.1
def ordersN(g:List (List Int)):Nat->List (List Int)
 |0=>[]
 |n+1=>ordersN g n++[if n=0 then [0] else Bm (ordersN g n) n (parentsF g n)]
theorem B7(g:List (List Int)): ∀n,(ordersN g n).length=n
 |0=>rfl
 |n+1=>by rw[ordersN,List.length_append,B7 g n];rfl
theorem Fp(os:List (List Int))(x:List Int){p:Int}(hp:0<=p):Az (os++[x]) p=if p=os.length then x else Az os p:=by
 unfold Az
 by_cases h:p.toNat<os.length
 ·rw[List.getElem?_append_left h,if_neg (by omega)]
 ·by_cases h2:p=os.length
  ·rw[if_pos h2,h2];simp
  ·rw[if_neg h2,List.getElem?_eq_none (by simp;omega),List.getElem?_eq_none (by omega)]
theorem J3{os:List (List Int)}{M:Nat}: ∀{ps:List Int}{ls:List (List Int)},CH os ps=some ls->(∀p∈ps,(Az os p).length<=M)->totL ls<=ps.length*M/\ls.length=ps.length
 |[],ls,h,_=>by simp only[CH,Option.some.injEq]at h;subst h;simp[totL]
 | p::r,ls,h,hM=>by
  rw[CH]at h
  split at h
  ·cases h
  ·cases hr:CH os r with
   |none=>rw[hr]at h;cases h
   |some l2=>
    rw[hr]at h
    simp only[Option.map_some,Option.some.injEq]at h
    subst h
    obtain⟨h1,h2⟩:=J3 hr fun q hq=>hM q (List.mem_cons_of_mem _ hq)
    have h3:=hM p (List.mem_cons_self ..)
    have h4:((Az os p).filter fun x=> !decide (x=0)).length<=(Az os p).length:=List.length_filter_le ..
    simp only[totL,List.length_cons,Nat.add_mul]
    omega
theorem Uh(a b:List (List Int)):totL (a++b)=totL a+totL b:=by
 induction a with
 |nil=>simp[totL]
 |cons x a ih=>simp only[List.cons_append,totL,ih];omega
theorem Fz{os:List (List Int)}{M:Nat}{ps:List Int}{ls:List (List Int)}(h:Bz os ps=some ls)(hM:∀p∈ps,(Az os p).length<=M):totL ls<=ps.length*M+ps.length/\ls.length=ps.length+1:=by
 unfold Bz at h
 cases hr:CH os ps with
 |none=>rw[hr]at h;cases h
 |some l2=>
  rw[hr]at h
  simp only[Option.map_some,Option.some.injEq]at h
  subst h
  obtain⟨h1,h2⟩:=J3 hr hM
  rw[Uh];simp[totL];omega
theorem GU{os:List (List Int)}{M:Nat}{c:Int}{ps:List Int}(hM:∀p∈ps,(Az os p).length<=M):(Bm os c ps).length<=ps.length*M+ps.length+2:=by
 unfold Bm
 cases h:Bz os ps with
 |none=>simp
 |some ls=>
  have h1:=(Fz h hM).1
  have h2:=Ek ls
  simp only
  split
  ·simp only[List.length_append,List.length_cons,List.length_nil];omega
  ·simp
theorem GT{g:List (List Int)}(h:Bb g=true): ∀n, ∀p:Int,0<=p->(Az (ordersN g n) p).length+3<=5*3 ^ (n-4)
 |0,p,_=>by simp[ordersN,Az]
 | n+1,p,hp=>by
  have ih:=GT h n
  have be:5*3 ^ (n-4)<=5*3 ^ (n+1-4):=Nat.mul_le_mul_left _ (Nat.pow_le_pow_right (by decide) (by omega))
  have b6:1<=3 ^ (n+1-4):=Nat.one_le_pow _ _ (by decide)
  rw[ordersN,Fp _ _ hp,B7]
  split
  ·split
   ·rw[List.length_singleton];omega
   ·obtain⟨g1,g2⟩:=BE h n
    by_cases hn:n<4
    ·have he:parentsF g n=[]:=by
      cases hq:parentsF g n with
      |nil=>rfl
      |cons q r=>have:=g2 q (by rw[hq];simp);omega
     have:=GU (os:=ordersN g n) (M:=0) (c:=n) (ps:=parentsF g n) (by rw[he];simp)
     rw[he]at this⊢
     simp at this
     omega
    ·have:=GU (os:=ordersN g n) (M:=5*3 ^ (n-4)-3) (c:=n) (ps:=parentsF g n) (fun q hq=>by have:=ih q (by have:=g2 q hq;omega);omega)
     have e:3 ^ (n+1-4)=3 ^ (n-4)*3:=by rw[show n+1-4=(n-4)+1 by omega,Nat.pow_succ]
     have hh:(parentsF g n).length*(5*3 ^ (n-4)-3)<=3*(5*3 ^ (n-4)-3):=Nat.mul_le_mul_right _ g1
     have bJ:1<=3 ^ (n-4):=Nat.one_le_pow _ _ (by decide)
     rw[e];omega
  ·exact Nat.le_trans (ih p hp) be
theorem CO{g:List (List Int)}(h:Bb g=true){n:Nat}(hn:n<=3+g.length){p:Int}(hp:0<=p):(Az (ordersN g n) p).length<=80000000:=by
 have h1:=GT h n p hp
 have h2:3 ^ (n-4)<=3 ^ 15:=Nat.pow_le_pow_right (by decide) (by have:=Dx h;omega)
 have h3:(3:Nat) ^ 15=14348907:=by decide
 omega
theorem Py(ig im:Nat)(a b:D)(om:List (Int×List Int))(O:Sig)(hg:O ig=some (.cells [a,b,.map im]))(hm:O im=some (.map (eIO om))):
  DCall prog 344 [.ptr ig 0,dI 0] O fun x U'=>x=.ret (.tup [])/\U'=O.set im (.map (eIO (putM 0 [0] om))):=by
 refine en func344 ntmps344 ?_
 refine gf (gi hg hm) ?_ o344
 refine rtl 14 (sl (cI [0])) ?_
 refine gf (gi hg hm) ?_ o344
 exact fin0 (U':=O.set im (.map (eIO (putM 0 [0] om)))) ⟨rfl,rfl⟩
theorem OC(ps:List (List Int))(cs:List Int)(o o':Own)(O:Sig)(hb:Bb ps=false)(hl:ps.length<=1073741824:=by exact sd)(aA:∀x∈ps,x.length<=1073741824:=by exact sd)(hc:cs.length<=1073741824:=by exact sd):
  DCall prog 301 [.slice (cII ps) o,.slice (cI cs) o'] O (rS (.tup [.nilp,.bool false]) O):=by
 refine en func301 ntmps301 ?_
 repeat' first|refine gf hb ?_ o301|apply gy<;>intro hh
 any_goals (first|exact fe2 trivial|fail)
theorem OB(ps:List (List Int))(cs:List Int)(o o':Own)(O:Sig)(hb:Bb ps=true)(hx:¬∀c∈cs,0<=c/\c<3+ps.length)(hl:ps.length<=1073741824:=by exact sd)(aA:∀x∈ps,x.length<=1073741824:=by exact sd)(hc:cs.length<=1073741824:=by exact sd):
  DCall prog 301 [.slice (cII ps) o,.slice (cI cs) o'] O (rS (.tup [.nilp,.bool false]) O):=by
 refine en func301 ntmps301 ?_
 refine gf hb ?_ o301
 refine BV [0,8,9,10,11,13,14,18,19,34,35,36,37,38,39,40,41,42,43,44,45,46,47,48,49,50,51,52,53,54,55,56,57,58,59,60,61,62,63,64,65,66,67,68,69,70,71,72,73,74,75,76,77,78,79,80,81,82,83,84,85,86,87,88,89,90,91,92,93,94,95,96,97,98,99,100,101,102,103] (fun (k:Nat)=>k<=cs.length /\ ∀c∈cs.take k,0<=c/\c<3+ps.length) (fun k=>[(20,dI k)]) (fun _=>O) (fun k=>cs.length-k) (0) (by simp) (fun k hI=>?_)
 obtain⟨hk,hI⟩:=hI
 by_cases h:k<cs.length
 ·repeat' first|refine gf hb ?_ o301|apply gy<;>intro hh
  ·exact fe2 trivial
  ·exact fe2 trivial
  ·have cr:∀c∈cs.take (k+1),0<=c/\c<3+ps.length:=fun c hc=>by
    rw[DG h]at hc
    rcases List.mem_append.1 hc with hc|hc
    ·exact hI c hc
    ·obtain rfl:=List.mem_singleton.1 hc;omega
   exact⟨k+1,⟨by omega,cr⟩,td1,wkR⟩
 ·exfalso
  rw[List.take_of_length_le (by omega)]at hI
  exact hx hI
def cU(us:List Int):List (List D):=us.map fun n=>[.int .u64 n]
@[simp] theorem cU_length(us:List Int):(cU us).length=us.length:=by simp[cU]
@[simp] theorem cU_all(l:List Int):(cU l).all (fun c=>c.length==1)=true:=by simp[cU]
theorem U3(a b:List Int):cU (a++b)=cU a++cU b:=by simp[cU]
@[simp] theorem cU_get(us:List Int)(k:Nat):(cU us)[k]? = (us[k]?).map fun n=>[.int .u64 n]:=by simp[cU]
theorem RZ (ps:List (List Int)) (cs:List Int) (o o':Own) (O:Sig) (hb:Bb ps=true) (hx : ∀ c ∈ cs,0<=c/\c < 3+ps.length) (hl:ps.length<=1073741824:=by exact sd) (aA : ∀ x ∈ ps,x.length<=1073741824:=by exact sd) (hc:cs.length<=1073741824:=by exact sd) :
  DCall prog 301 [.slice (cII ps) o,.slice (cI cs) o'] O fun x U'=> ∃ig im a b om,ig≠im/\x=.ret (.tup [.ptr ig 0,.bool true])/\U'=(O.set im (.map (eIO om))).set ig (.cells [a,b,.map im])/\O ig=none/\O im=none /\ ∀p:Int,0<=p->getM [] p om=Az (ordersN ps (3+ps.length)) p:=by
 have hlen:=Dx hb
 refine en func301 ntmps301 ?_
 refine gf hb ?_ o301 [40,11]
 refine BV [0,8,9,10,11,13,14,18,19,34,35,36,37,38,39,40,41,42,43,44,45,46,47,48,49,50,51,52,53,54,55,56,57,58,59,60,61,62,63,64,65,66,67,68,69,70,71,72,73,74,75,76,77,78,79,80,81,82,83,84,85,86,87,88,89,90,91,92,93,94,95,96,97,98,99,100,101,102,103] (fun (k:Nat)=>k<=cs.length) (fun k=>[(20,dI k)]) (fun _=>O) (fun k=>cs.length-k) (0) (by simp) (fun k hI=>?_)
 by_cases h:k<cs.length
 ·have cw:=hx _ (List.getElem_mem h)
  refine gf hb ?_ o301 [40,11]
  exact⟨k+1,by omega,td1,wkR⟩
 ·refine gf hb ?_ o301 [40,11]
  refine mmake (k:=3) (c:=3+ps.length) (z:=[.nils]) (sz:=1) (fun ir cR aX=>?_)
  obtain⟨st0,aK⟩:∃st0:MR,st0=some (ir,3+ps.length,(List.replicate (3+ps.length-3) [D.nils]).flatten):=⟨_,rfl⟩
  obtain⟨es0,aE⟩:∃es0,es0=List.replicate 3 [D.nils]:=⟨_,rfl⟩
  rw[<-aK,<-aE]at aX⊢
  have cd:mD st0 es0.length=.sref ir 0 3 (3+ps.length):=by rw[aK,aE];rfl
  have cn:es0.length=3:=by rw[aE];rfl
  refine newIO (fun im bl=>?_)
  obtain⟨e1,bi⟩:=W9 (o:=.map (eIO [])) aX bl
  have bu:=R6 bl
  rw[e1]
  refine go1 trivial ?_
  refine boxV (fun ig aY=>?_)
  obtain⟨e2,hm2⟩:=W9 (o:=.cells [.sref ir 0 3 (3+ps.length),.nils,.map im]) bi aY
  have aO:=R6 aY
  have bt:ig≠im:=fun h=>by rw[h,w6]at aO;cases aO
  have bR:ig≠ir:=fun h=>by subst h;simp[mS,aK,w6]at aY
  rw[e2]
  have bj:=R7 hm2 (w6 ..)
  refine gf (gi bR bj) ?_ o301 [40,11]
  refine mapp (new:=cII ps) (sz:=1) (h1:=by exact cd.symm) (fun st bh=>?_) hm2
  clear hm2 bi aX e1 e2 bj aY bl
  obtain⟨es1,aD⟩:∃es1,es1=es0++cII ps:=⟨_,rfl⟩
  have hN:es0.length+(cII ps).length=es1.length:=by rw[aD,List.length_append]
  have bm:es1.length=3+ps.length:=by rw[aD,List.length_append,cn];simp
  rw[<-aD]at bh⊢
  rw[hN]
  obtain⟨i1,c1,bf⟩:∃i1 c1,mD st es1.length=.sref i1 0 es1.length c1:=by
   cases st with
   |none=>exact absurd (show es1=[] from bh) (fun h=>by rw[h]at bm;simp at bm;omega)
   |some x=>exact⟨_,_,rfl⟩
  have bj:=R7 bh (w6 ..)
  obtain⟨e3,br⟩:=mS_put (o:=.cells [mD st es1.length,.nils,.map im]) bh (w6 ..)
  rw[bf]at e3 br⊢
  rw[w8]at e3 br
  refine gf (gi bR (gi bj e3)) ?_ o301 [40,11]
  refine mfrC (i:=ig) [] [.nils,.map im] ?_ (by rw[bf];exact w6 ..) br
  rw[w8]
  refine celW (i:=ig) [] [.nils,.map im] (.slice es1 .no) (.slice (cII ([]::[]::[]::ps)) .no) ?_ (w6 ..) (K1 _ ?_)
  rw[w8]
  simp only[List.nil_append]
  obtain⟨P,hP⟩:∃P,P=[]::[]::[]::ps:=⟨_,rfl⟩
  have aF:P.length=3+ps.length:=by rw[hP];simp;omega
  have cq:∀x∈P,x.length<=1073741824:=by rw[hP];simpa using aA
  have ax:∀c (hc:c<P.length),P[c]=parentsF ps c:=by
   intro c hc
   subst hP
   unfold parentsF
   rcases c with _|_|_|c
   ·rfl
   ·rfl
   ·rfl
   ·simp only[List.length_cons]at hc
    rw[if_neg (by omega),show((((c+1+1+1:Nat)):Int)-3).toNat=c by omega,List.getElem?_eq_getElem (by omega)];rfl
  rw[<-hP]
  refine gf aF ?_ o301 [40,11]
  refine F0 ig 1 1 (w6 ..) rfl fun iu bP=>?_
  obtain⟨bX,bk⟩:=Bc bP
  obtain⟨bW,bO⟩:=Bc bk
  clear bh br bj e3 hN bP bk
  have bz:ig≠iu:=fun e=>bX e.symm
  have ca:im≠iu:=fun e=>bW e.symm
  have aw:im≠ig:=fun e=>bt e.symm
  have cm:O ig=none:=(Bc aO).2
  have hS:Sub ((((O.set iu (.tail 1 0)).set im (.map (eIO []))).set ig (.cells [.slice (cII P) .no,.slice [] (.tag iu),.map im]))) ((((O.set im (.map (eIO []))).set ig (.cells [.slice (cII P) .no,.nils,.map im])).set iu (.tail 1 0)).set ig (.cells ([.slice (cII P) .no,.nils,.map im].set 1 (.slice [] (.tag iu))))):=by
   intro k x hk;simp only[Sig.set,List.set]at hk⊢; grind
  refine BZ [4,5,8,14,53,54,91,92,93,94,95,96,97,98,99,100,101,102,103] (fun (c:Nat) (us:List Int)=>c<=P.length/\us.length=c) (fun c _=>[(55,dI c)]) (fun _ us=>((O.set iu (.tail 1 us.length)).set im (.map (eIO []))).set ig (.cells [.slice (cII P) .no,.slice (cU us) (.tag iu),.map im])) (fun c _=>P.length-c) (0) ([]) (by simp) (fun c us hI=>?_)
  obtain⟨co,cD⟩:=hI
  by_cases bp:c<P.length
  ·have cy:=cq _ (List.getElem_mem bp)
   have bq:=ax c bp
   refine gf aF ?_ o301 [40,11]
   refine bldZ ?_
   refine gz ?_ o301 [40,11]
   refine A4 (Mn 0 c _) (fun d U' hx=>?_) (fun d U' hx=>by obtain⟨⟨_,hx⟩,_⟩:=hx;cases hx)
   obtain⟨⟨n1,hx⟩,rfl⟩:=hx
   cases hx
   repeat' first|refine gz ?_ o301 [40,11]|apply gy<;>intro hh
   refine A4 (Mn n1 0 _) (fun d U' hx=>?_) (fun d U' hx=>by obtain⟨⟨_,hx⟩,_⟩:=hx;cases hx)
   obtain⟨⟨n2,hx⟩,rfl⟩:=hx
   cases hx
   repeat' first|refine gz ?_ o301 [40,11]|apply gy<;>intro hh
   simp only[putD]
   refine newV (fun ia ci=>?_)
   obtain⟨bc,bx⟩:=Bc ci
   obtain⟨bb,bw⟩:=Bc bx
   obtain⟨ba,cg⟩:=Bc bw
   have aZ:ig≠ia:=fun e=>bc e.symm
   have aW:im≠ia:=fun e=>bb e.symm
   have aU:iu≠ia:=fun e=>ba e.symm
   refine gf (gi bc (gi bb (gi ba (gi aZ (gi aW aU))))) ?_ o301 [40,11]
   refine BZ [4,5,8,9,10,11,14,53,54,55,56,57,58,59,60,61,62,63,64,65,80,81,82,83,84,85,86,87,88,89,90,91,92,93,94,95,96,97,98,99,100,101,102,103] (fun (q:Nat) (n:Int)=>q<=(P[c]).length) (fun q _=>[(66,dI q)]) (fun _ n=>(((O.set iu (.tail 1 us.length)).set im (.map (eIO []))).set ig (.cells [.slice (cII P) .no,.slice (cU us) (.tag iu),.map im])).set ia (.cells [.int .u64 n])) (fun q _=>(P[c]).length-q) (0) (n2) (by simp) (fun q n hI=>?_)
   by_cases hq:q<(P[c]).length
   ·have hp:=(BE hb c).2 (P[c][q]) (by rw[<-bq];exact List.getElem_mem hq)
    obtain⟨p,bd⟩:∃p:Nat,P[c][q]=(p:Int):=⟨(P[c][q]).toNat,by omega⟩
    have cK:p<us.length:=by omega
    refine gf (gi bc (gi bb (gi ba (gi aZ (gi aW (gi aU bd)))))) ?_ o301 [40,11]
    refine Bd (RO n (us[p]) _) (fun d U' hx=>?_) (fun d U' hx=>by obtain⟨⟨_,hx⟩,_⟩:=hx;cases hx)
    obtain⟨⟨n3,hx⟩,rfl⟩:=hx
    cases hx
    refine⟨Sub.refl _,?_⟩
    simp only[putD]
    refine gf (gi bc (gi bb (gi ba (gi aZ (gi aW aU))))) ?_ o301 [40,11]
    exact⟨q+1,n3,by omega,td1,wkR⟩
   ·refine gf (gi bc (gi bb (gi ba (gi aZ (gi aW aU))))) ?_ (delO 20 o301) [40,11]
    refine Fu (id:=20) [0,1,2,3,4,5,6,7,8,9] [7] (((O.set im (.map (eIO []))).set ig (.cells [.slice (cII P) .no,.slice (cU us) (.tag iu),.map im])).set ia (.cells [.int .u64 n])) ?_ ?_
    ·intro k x hk;simp only[Sig.set]at hk⊢; grind
    have ag:Sub (((O.set im (.map (eIO []))).set ig (.cells [.slice (cII P) .no,.slice (cU us) (.tag iu),.map im])).set ia (.cells [.int .u64 n])) (((((O.set iu (.tail 1 us.length)).set im (.map (eIO []))).set ig (.cells [.slice (cII P) .no,.slice (cU us) (.tag iu),.map im])).set ia (.cells [.int .u64 n])).set iu (.tail 1 (us.length+1))):=by
     intro k x hk;simp only[Sig.set]at hk⊢; grind
    iterate 7 refine go1 (And.intro bz (And.intro aZ (And.intro aW aU))) ?_
    refine moEffW (.slice (cU (us++[n])) (.tag iu)) ?_ (he:=by simp(disch:=first|omega|assumption) [w7];and_intros<;>first|rfl|omega) (hC:=ag) (hw:=BX (by rw[U3];rfl))
    refine gf (gi bc (gi bb (gi ba (gi aZ (gi aW (gi aU bz)))))) ?_ (delO 20 o301) [40,11]
    have bG:Sub (((O.set iu (.tail 1 (us++[n]).length)).set im (.map (eIO []))).set ig (.cells [.slice (cII P) .no,.slice (cU (us++[n])) (.tag iu),.map im])) ((((((O.set iu (.tail 1 us.length)).set im (.map (eIO []))).set ig (.cells [.slice (cII P) .no,.slice (cU us) (.tag iu),.map im])).set ia (.cells [.int .u64 n])).set iu (.tail 1 (us.length+1))).set ig (.cells [.slice (cII P) .no,.slice (cU (us++[n])) (.tag iu),.map im])):=by
     intro k x hk;rw[List.length_append,List.length_singleton]at hk;simp only[Sig.set]at hk⊢; grind
    exact⟨c+1,(us++[n]),⟨by omega,by rw[List.length_append,List.length_singleton];omega⟩,td1,wkR⟩
  ·refine gf (gi aF (gi bt (gi bz (gi ca aw)))) ?_ o301 [40,11]
   generalize bV:D.slice (cU us) (.tag iu)=ups
   have bF:Sub ((O.set im (.map (eIO []))).set ig (.cells [.slice (cII P) .no,ups,.map im])) (((O.set iu (.tail 1 us.length)).set im (.map (eIO []))).set ig (.cells [.slice (cII P) .no,ups,.map im])):=by
    intro k x hk;simp only[Sig.set]at hk⊢; grind
   refine BZ [4,5,8,95,103] (fun (c:Nat) (om:List (Int×List Int))=>c<=P.length /\ ∀p:Int,0<=p->getM [] p om=Az (ordersN ps c) p) (fun c _=>[(96,dI c)]) (fun _ om=>(O.set im (.map (eIO om))).set ig (.cells [.slice (cII P) .no,ups,.map im])) (fun c _=>P.length-c) (0) ([]) (by exact⟨by omega,fun p _=>by simp[getM,ordersN,Az]⟩) (fun c om hI=>?_)
   obtain⟨co,aN⟩:=hI
   by_cases bp:c<P.length
   ·have bS:((O.set im (.map (eIO om))).set ig (.cells [.slice (cII P) .no,ups,.map im])) ig=some (.cells [.slice (cII P) .no,ups,.map im]):=w6 ..
    have bi:((O.set im (.map (eIO om))).set ig (.cells [.slice (cII P) .no,ups,.map im])) im=some (.map (eIO om)):=by rw[w7 _ _ aw,w6]
    rcases Nat.eq_zero_or_pos c with rfl|cX
    ·refine gf aF ?_ o301 [40,11]
     refine A4 (Py ig im _ _ om _ bS bi) (fun d U' hx=>?_) (fun d U' hx=>by cases hx.1)
     obtain⟨hx,rfl⟩:=hx
     cases hx
     simp only[putD]
     refine gf aF ?_ o301 [40,11]
     have aI:Sub ((O.set im (.map (eIO (putM 0 [0] om)))).set ig (.cells [.slice (cII P) .no,ups,.map im])) (((O.set im (.map (eIO om))).set ig (.cells [.slice (cII P) .no,ups,.map im])).set im (.map (eIO (putM 0 [0] om)))):=by
      intro k x hk;simp only[Sig.set]at hk⊢; grind
     have au:∀p:Int,0<=p->getM [] p (putM 0 [0] om)=Az (ordersN ps (0+1)) p:=fun p hp=>by
      rw[EV,ordersN,Fp _ _ hp,aN p hp];rfl
     exact⟨0+1,putM 0 [0] om,⟨by omega,au⟩,td1,wkR⟩
    ·have bq:P[c]=parentsF ps c:=ax c bp
     have ai:=BE hb c
     rw[<-bq]at ai
     have hB:∀p:Int,0<=p->(Az (ordersN ps c) p).length<=80000000:=fun p hp=>CO hb (by omega) hp
     have bn:=RN ig im P (ordersN ps c) ups om c .no ((O.set im (.map (eIO om))).set ig (.cells [.slice (cII P) .no,ups,.map im])) bt bS bi bp (by omega) (by omega) (by omega)
      (fun p hp=>aN p (by have:=ai.2 p hp;omega)) (fun p hp=>by have:=hB p (by have:=ai.2 p hp;omega);omega)
      (fun ls aj=>by
       have h1:=Fz aj (fun p hp=>hB p (by have:=ai.2 p hp;omega))
       have h2:=ai.1
       have h3:(P[c]).length*80000000<=3*80000000:=Nat.mul_le_mul_right _ h2
       omega)
     refine gf aF ?_ o301 [40,11]
     refine A4 bn (fun d U' hx=>?_) (fun d U' hx=>by cases hx.1)
     obtain⟨hx,rfl⟩:=hx
     cases hx
     simp only[putD]
     have aa:∀p:Int,0<=p->Az (ordersN ps (c+1)) p=if p=c then Bm (ordersN ps c) c P[c] else Az (ordersN ps c) p:=fun p hp=>by
      rw[ordersN,Fp _ _ hp,B7,if_neg (by omega:¬c=0),<-bq]
     have aI:∀om',Sub ((O.set im (.map (eIO om'))).set ig (.cells [.slice (cII P) .no,ups,.map im])) (((O.set im (.map (eIO om))).set ig (.cells [.slice (cII P) .no,ups,.map im])).set im (.map (eIO om'))):=by
      intro om' k x hk;simp only[Sig.set]at hk⊢; grind
     by_cases he:Bm (ordersN ps c) c P[c]=[]
     ·rw[if_pos he]
      have au:∀p:Int,0<=p->getM [] p om=Az (ordersN ps (c+1)) p:=fun p hp=>by
       rw[aa p hp,aN p hp,he]
       split
       ·rename_i bd
        unfold Az;rw[List.getElem?_eq_none (by rw[B7];omega)];rfl
       ·rfl
      refine gf aF ?_ o301 [40,11]
      exact⟨c+1,om,⟨by omega,au⟩,td1,wkR⟩
     ·rw[if_neg he]
      have au:∀p:Int,0<=p->getM [] p (putM c (Bm (ordersN ps c) c P[c]) om)=Az (ordersN ps (c+1)) p:=fun p hp=>by
       rw[aa p hp,EV,aN p hp]
      have bE:=aI (putM c (Bm (ordersN ps c) c P[c]) om)
      refine gf aF ?_ o301 [40,11]
      exact⟨c+1,putM c (Bm (ordersN ps c) c P[c]) om,⟨by omega,au⟩,td1,wkR⟩
   ·have bB:c=3+ps.length:=by omega
    subst bB
    refine gf aF ?_ o301 [40,11]
    exact fin2 (U':=(O.set im (.map (eIO om))).set ig (.cells [.slice (cII P) .no,ups,.map im])) ⟨ig,im,_,_,om,bt,rfl,rfl,cm,bu,aN⟩
  rw[aD,aE]
  exact⟨⟨An _ (.inl rfl),trivial⟩,⟨An _ (.inl rfl),trivial⟩,⟨An _ (.inl rfl),trivial⟩,NV _⟩
def FA(g:List (List Int))(c:Int):List Int:=Az (ordersN g (3+g.length)) c
def linE(g:List (List Int))(c:Int):Int:=if Bb g=true/\0<=c/\c<3+g.length then(if FA g c=[] then 7 else 0) else 2
def linF(g:List (List Int))(c:Int):List Int:=if Bb g=true/\0<=c/\c<3+g.length then FA g c else []
theorem Su(g:List (List Int))(c:Int)(o:Own)(O:Sig)(hl:g.length<=1073741824:=by exact sd)(aA:∀x∈g,x.length<=1073741824:=by exact sd):
  DCall prog 252 [.slice (cII g) o,dI c] O (rS (.tup [sl (cI (linF g c)),dI (linE g c)]) O):=by
 refine en func252 ntmps252 ?_
 by_cases hb:Bb g=true
 ·by_cases hc:0<=c/\c<3+g.length
  ·try refine gz ?_
   refine A4 (RZ g [c] o .clip _ hb (by simpa using hc) hl aA (by simp)) (fun d U' hx=>?_) (fun d U' hx=>by obtain⟨_,_,_,_,_,_,hx,_⟩:=hx;cases hx)
   obtain⟨ig,im,a,b,om,hne,hx,rfl,aY,bl,aN⟩:=hx
   cases hx
   simp only[putD]
   have aw:im≠ig:=fun e=>hne e.symm
   have ag:Sub O ((O.set im (.map (eIO om))).set ig (.cells [a,b,.map im])):=((Sub.refl _).set bl).set aY
   have ce:(FA g c).length<=80000000:=CO hb (by omega) hc.1
   have hL:getM [] c om=FA g c:=aN c hc.1
   try refine gf aw ?_
   refine lkO ?_ (hi:=by rw[w7 _ _ aw,w6])
   rw[hL]
   by_cases he:FA g c=[]
   ·try refine gf (gi aw he) ?_
    (refine fin2 (U':=O) (d':=sl []) ?_;exact⟨by first|rfl|(simp[linF,linE,hb,hc,he];done)|(simp_all [linF,linE,hb,hc,he];done)|(rw[Ac,Bool.eq_iff_iff];simp_all [linF,linE,hb,hc,he]<;>omega),rfl⟩)
   ·repeat' first|refine gf aw ?_|apply gy<;>intro hh
    ·exfalso;exact he (by simpa using hh)
    ·refine lkO ?_ (hi:=by rw[w7 _ _ aw,w6])
     rw[hL]
     repeat' first|refine gf aw ?_|refine Bg (Hb (cI (FA g c)) .no _ (by simp;omega) (C2 _)) ?_|refine callP (Hb (cI (FA g c)) .no _ (by simp;omega) (C2 _)) ?_|refine gf aw ?_|apply gy<;>intro hh
     (refine fin2 (U':=O) ?_;exact⟨by first|rfl|(simp[linF,linE,hb,hc,he];done)|(simp_all [linF,linE,hb,hc,he];done)|(rw[Ac,Bool.eq_iff_iff];simp_all [linF,linE,hb,hc,he]<;>omega),rfl⟩)
  ·repeat' first|refine gz ?_|refine Bg (OB g [c] o .clip _ hb (by simpa using hc) hl aA (by simp)) ?_|refine callP (OB g [c] o .clip _ hb (by simpa using hc) hl aA (by simp)) ?_|refine gz ?_|apply gy<;>intro hh
   (refine fin2 (U':=O) (d':=sl []) ?_;exact⟨by first|rfl|(simp[linF,linE,hb,hc];done)|(simp_all [linF,linE,hb,hc];done)|(rw[Ac,Bool.eq_iff_iff];simp_all [linF,linE,hb,hc]<;>omega),rfl⟩)
 ·repeat' first|refine gz ?_|refine Bg (OC g [c] o .clip _ (by simpa using hb) hl aA (by simp)) ?_|refine callP (OC g [c] o .clip _ (by simpa using hb) hl aA (by simp)) ?_|refine gz ?_|apply gy<;>intro hh
  (refine fin2 (U':=O) (d':=sl []) ?_;exact⟨by first|rfl|(simp[linF,linE,hb];done)|(simp_all [linF,linE,hb];done)|(rw[Ac,Bool.eq_iff_iff];simp_all [linF,linE,hb]<;>omega),rfl⟩)
@[reducible,instance] def a252:=fun g c o O=>ah2 (@Su g c o O)
theorem Ki: ∀(n:Nat) (ls:List (List Int)) (out:List Int) (y:Int),y∈(Ez n ls out).1->y∈out \/ ∃l∈ls,y∈l
 |0,_,_,y,h=>.inl h
 | n+1,ls,out,y,h=>by
  rw[Ez]at h
  cases hn:Ey ls false ls with
  | mk a s =>
   rw[hn]at h
   cases a with
   |none=>exact .inl h
   | some c =>
    obtain⟨e,he,bB⟩:=Ex hn
    rcases Ki n _ _ y h with h|⟨l,hl,hy⟩
    ·rcases List.mem_append.1 h with h|h
     ·exact .inl h
     ·rw[List.mem_singleton]at h;exact .inr ⟨e,he,h ▸ bB⟩
    ·obtain⟨l',cf,rfl⟩:=List.mem_map.1 hl
     exact .inr ⟨l',cf,(List.mem_filter.1 hy).1⟩
theorem Kn{os:List (List Int)}: ∀{ps:List Int}{ls:List (List Int)},CH os ps=some ls->∀l∈ls, ∃p∈ps,l=(Az os p).filter fun x=> !decide (x=0)
 |[],ls,h,l,hl=>by simp only[CH,Option.some.injEq]at h;subst h;cases hl
 | p::r,ls,h,l,hl=>by
  rw[CH]at h
  split at h
  ·cases h
  ·cases hr:CH os r with
   |none=>rw[hr]at h;cases h
   | some l2 =>
    rw[hr]at h
    simp only[Option.map_some,Option.some.injEq]at h
    subst h
    rcases List.mem_cons.1 hl with rfl|hl
    ·exact⟨p,by simp,rfl⟩
    ·obtain⟨q,hq,e⟩:=Kn hr l hl
     exact⟨q,List.mem_cons_of_mem _ hq,e⟩
theorem J2{os:List (List Int)}{ps:List Int}{ls:List (List Int)}(h:Bz os ps=some ls): ∀l∈ls, ∀y∈l,(∃p∈ps,y∈Az os p)\/y∈ps:=by
 unfold Bz at h
 cases hr:CH os ps with
 |none=>rw[hr]at h;cases h
 | some l2 =>
  rw[hr]at h
  simp only[Option.map_some,Option.some.injEq]at h
  subst h
  intro l hl y hy
  rcases List.mem_append.1 hl with hl|hl
  ·obtain⟨p,hp,rfl⟩:=Kn hr l hl
   exact .inl ⟨p,hp,(List.mem_filter.1 hy).1⟩
  ·rw[List.mem_singleton]at hl;exact .inr (hl ▸ hy)
theorem Gw{os:List (List Int)}{p:Int}{y:Int}(h:y∈Az os p): ∃x∈os,y∈x:=by
 unfold Az at h
 cases hx:os[p.toNat]? with
 |none=>rw[hx]at h;cases h
 |some x=>rw[hx]at h;exact⟨x,List.mem_of_getElem? hx,h⟩
theorem Gv {g:List (List Int)} (hg:Bb g=true) : ∀ n, ∀ x ∈ ordersN g n, ∀ y ∈ x,0<=y/\y < (n:Int)
 |0,x,hx=>by cases hx
 | n+1,x,hx=>by
  have ih:=Gv hg n
  rw[ordersN]at hx
  intro y hy
  rcases List.mem_append.1 hx with hx|hx
  ·have:=ih x hx y hy;omega
  ·rw [List.mem_singleton] at hx
   subst hx
   split at hy
   ·rw[List.mem_singleton]at hy;omega
   ·unfold Bm at hy
    cases aj:Bz (ordersN g n) (parentsF g n)with
    |none=>rw[aj]at hy;cases hy
    | some ls =>
     rw[aj]at hy
     simp only at hy
     split at hy
     ·simp only[List.cons_append,List.mem_cons,List.mem_append,List.not_mem_nil,or_false]at hy
      rcases hy with rfl|hy|rfl
      ·omega
      ·rcases Ki _ _ _ y hy with h|⟨l,hl,bU⟩
       ·cases h
       ·rcases J2 aj l hl y bU with⟨p,_,h⟩|h
        ·obtain⟨z,hz,h⟩:=Gw h;have:=ih z hz y h;omega
        ·have:=(BE hg n).2 y h;omega
      ·omega
     ·cases hy
def ownO:Option Nat->Own
 |none=>.clip
 |some i=>.tag i
def sgO(O:Sig)(n:Nat):Option Nat->Sig
 |none=>O
 |some i=>O.set i (.tail 1 n)
attribute [simp] B7
@[simp] theorem ownO_none:ownO none=.clip:=rfl
@[simp] theorem Fo(i:Nat):ownO (some i)=.tag i:=rfl
@[simp] theorem sgO_none(O:Sig)(n:Nat):sgO O n none=O:=rfl
@[simp] theorem GP(O:Sig)(n i:Nat):sgO O n (some i)=O.set i (.tail 1 n):=rfl
theorem Jk(g:List (List Int))(o:Own)(O:Sig)(hb:Bb g=true)(hl:∀x∈g,x.length<=1073741824:=by exact sd):
  DCall prog 268 [.slice (cII g) o] O (rS (sl (cII (ordersN g (3+g.length)))) O):=by
 have hlen:=Dx hb
 refine en func268 ntmps268 ?_
 try refine gz ?_
 refine rtw 3 (.slice (cII (ordersN g 1)) .clip) ?_ (DF _ ⟨⟨BY _ _,trivial⟩,trivial⟩)
 refine BZ [0,2,43] (fun (n:Nat) (ow:Option Nat)=>1<=n/\n<=3+g.length /\ ∀i,ow=some i->O i=none) (fun n ow=>[(4,dI n),(3,.slice (cII (ordersN g n)) (ownO ow))]) (fun n ow=>sgO O n ow) (fun n _=>3+g.length-n) (1) (none) (by exact⟨by omega,by omega,by simp⟩) (fun n ow hI=>?_)
 obtain⟨h1,h2,hi⟩:=hI
 by_cases hn:n<3+g.length
 ·have ay:=B7 g n
  have ai:=BE hb n
  have hB:∀p:Int,0<=p->(Az (ordersN g n) p).length<=80000000:=fun p hp=>CO hb (by omega) hp
  have cu:∀x∈ordersN g n,x.length<=1073741824:=fun x hx=>by
   obtain⟨k,hk,rfl⟩:=List.getElem_of_mem hx
   have:=hB k (by omega)
   unfold Az at this
   rw[show((k:Int)).toNat=k by omega,List.getElem?_eq_getElem hk]at this
   simp only[Option.getD_some]at this
   omega
  have ah:=RX g (ordersN g n) n o (ownO ow) (sgO O n ow) (by omega) (by omega) (by have:=ai.1;omega) (fun p hp=>by have:=ai.2 p hp;rw[B7];omega) (by rw[B7];omega) cu
  have aa:ordersN g (n+1)=ordersN g n++[Bm (ordersN g n) n (parentsF g n)]:=by rw[ordersN,if_neg (by omega)]
  cases aj:Bz (ordersN g n) (parentsF g n)with
  | none =>
   rw[aj]at ah
   have hx:Bm (ordersN g n) n (parentsF g n)=[]:=by rw[Bm,aj]
   repeat' first|refine gz ?_|refine Bg (ah) ?_|refine callP (ah) ?_|refine gz ?_|apply gy<;>intro hh
   refine rtl 41 (.slice [[sl (cI [])]] .clip) ?_ (DF _ ⟨⟨An _ (.inl rfl),trivial⟩,trivial⟩)
   have ae:∀i,WkD (.slice (cII (ordersN g n)++[[sl (cI (Bm (ordersN g n) n (parentsF g n)))]]) (.tag i)) (.slice (cII (ordersN g (n+1))) (ownO (some i))):=fun i=>BX (by rw[aa];simp[cII])
   rw[hx]at ae
   rcases ow with _|i
   ·refine appC (fun i aC=>?_) (hlen:=BJ _)
    have hw:=ae i
    have ag:Sub (sgO O (n+1) (some i)) ((sgO O n none).set i (.tail (tab 23).size ((cII (ordersN g n)).length+[[sl (cI [])]].length))):=BN (by simp[ay])
    try refine gz ?_
    exact⟨n+1,some i,⟨by omega,by omega,fun _ e=>by cases e;exact aC⟩,td1,wkR⟩
   ·have hw:=ae i
    simp only[Fo,GP]
    try refine gz ?_
    exact⟨n+1,some i,⟨by omega,by omega,fun _ e=>by cases e;exact hi i rfl⟩,td1,wkR⟩
  | some ls =>
   rw[aj]at ah
   have hT:=Fz aj (fun p hp=>hB p (by have:=ai.2 p hp;omega))
   have h3:(parentsF g n).length*80000000<=3*80000000:=Nat.mul_le_mul_right _ ai.1
   have h4:=ai.1
   have aH:=RV ls .no (sgO O n ow) (fun x hx y hy=>by
    rcases J2 aj x hx y hy with⟨p,_,h⟩|h
    ·obtain⟨z,hz,h⟩:=Gw h;exact(Gv hb n z hz y h).1
    ·have:=ai.2 y h;omega) (by omega) (by omega)
   have bL:=Ek ls
   by_cases aX:(BP ls).1=[]
   ·repeat' first|refine gz ?_|refine Bg (ah) ?_|refine callP (ah) ?_|refine Bg (aH) ?_|refine callP (aH) ?_|refine gz ?_|apply gy<;>intro hh
    ·have hx:Bm (ordersN g n) n (parentsF g n)=[(n:Int),0]:=by rw[Bm,aj];simp[hh,aX]
     refine app0 ?_
     try refine gz ?_
     refine appCW (fun j hj=>?_)
     try refine gz ?_
     refine rtl 41 (.slice [[sl (cI [(n:Int),0])]] .clip) ?_
     refine drp (sgO O n ow) ?_ ((Sub.refl _).set hj)
     have ae:∀i,WkD (.slice (cII (ordersN g n)++[[sl (cI (Bm (ordersN g n) n (parentsF g n)))]]) (.tag i)) (.slice (cII (ordersN g (n+1))) (ownO (some i))):=fun i=>BX (by rw[aa];simp[cII])
     rw[hx]at ae
     rcases ow with _|i
     ·refine appC (fun i aC=>?_) (hlen:=BJ _)
      have hw:=ae i
      have ag:Sub (sgO O (n+1) (some i)) ((sgO O n none).set i (.tail (tab 23).size ((cII (ordersN g n)).length+[[sl (cI [])]].length))):=BN (by simp[ay])
      try refine gz ?_
      exact⟨n+1,some i,⟨by omega,by omega,fun _ e=>by cases e;exact aC⟩,td1,wkR⟩
     ·have hw:=ae i
      simp only[Fo,GP]
      try refine gz ?_
      exact⟨n+1,some i,⟨by omega,by omega,fun _ e=>by cases e;exact hi i rfl⟩,td1,wkR⟩
    ·have hx:Bm (ordersN g n) n (parentsF g n)=[]:=by rw[Bm,aj];simp[hh]
     refine rtl 41 (.slice [[sl (cI [])]] .clip) ?_ (DF _ ⟨⟨An _ (.inl rfl),trivial⟩,trivial⟩)
     have ae:∀i,WkD (.slice (cII (ordersN g n)++[[sl (cI (Bm (ordersN g n) n (parentsF g n)))]]) (.tag i)) (.slice (cII (ordersN g (n+1))) (ownO (some i))):=fun i=>BX (by rw[aa];simp[cII])
     rw[hx]at ae
     rcases ow with _|i
     ·refine appC (fun i aC=>?_) (hlen:=BJ _)
      have hw:=ae i
      have ag:Sub (sgO O (n+1) (some i)) ((sgO O n none).set i (.tail (tab 23).size ((cII (ordersN g n)).length+[[sl (cI [])]].length))):=BN (by simp[ay])
      try refine gz ?_
      exact⟨n+1,some i,⟨by omega,by omega,fun _ e=>by cases e;exact aC⟩,td1,wkR⟩
     ·have hw:=ae i
      simp only[Fo,GP]
      try refine gz ?_
      exact⟨n+1,some i,⟨by omega,by omega,fun _ e=>by cases e;exact hi i rfl⟩,td1,wkR⟩
   ·repeat' first|refine gz ?_|refine Bg (ah) ?_|refine callP (ah) ?_|refine Bg (aH) ?_|refine callP (aH) ?_|refine gz ?_|apply gy<;>intro hh
    ·have hx:Bm (ordersN g n) n (parentsF g n)=(n:Int)::(BP ls).1++[0]:=by rw[Bm,aj];simp[hh]
     refine appC (fun j hj=>?_) (hne:=by simp[cI];exact aX)
     try refine gz ?_
     refine rtl 41 (.slice [[sl (cI ((n:Int)::(BP ls).1++[0]))]] .clip) ?_ (DF _ ⟨⟨D9 _ (by simp[cI]),trivial⟩,trivial⟩)
     refine drp (sgO O n ow) ?_ ((Sub.refl _).set hj)
     have ae:∀i,WkD (.slice (cII (ordersN g n)++[[sl (cI (Bm (ordersN g n) n (parentsF g n)))]]) (.tag i)) (.slice (cII (ordersN g (n+1))) (ownO (some i))):=fun i=>BX (by rw[aa];simp[cII])
     rw[hx]at ae
     rcases ow with _|i
     ·refine appC (fun i aC=>?_) (hlen:=BJ _)
      have hw:=ae i
      have ag:Sub (sgO O (n+1) (some i)) ((sgO O n none).set i (.tail (tab 23).size ((cII (ordersN g n)).length+[[sl (cI [])]].length))):=BN (by simp[ay])
      try refine gz ?_
      exact⟨n+1,some i,⟨by omega,by omega,fun _ e=>by cases e;exact aC⟩,td1,wkR⟩
     ·have hw:=ae i
      simp only[Fo,GP]
      try refine gz ?_
      exact⟨n+1,some i,⟨by omega,by omega,fun _ e=>by cases e;exact hi i rfl⟩,td1,wkR⟩
    ·have hx:Bm (ordersN g n) n (parentsF g n)=[]:=by rw[Bm,aj];simp[hh]
     refine rtl 41 (.slice [[sl (cI [])]] .clip) ?_ (DF _ ⟨⟨An _ (.inl rfl),trivial⟩,trivial⟩)
     have ae:∀i,WkD (.slice (cII (ordersN g n)++[[sl (cI (Bm (ordersN g n) n (parentsF g n)))]]) (.tag i)) (.slice (cII (ordersN g (n+1))) (ownO (some i))):=fun i=>BX (by rw[aa];simp[cII])
     rw[hx]at ae
     rcases ow with _|i
     ·refine appC (fun i aC=>?_) (hlen:=BJ _)
      have hw:=ae i
      have ag:Sub (sgO O (n+1) (some i)) ((sgO O n none).set i (.tail (tab 23).size ((cII (ordersN g n)).length+[[sl (cI [])]].length))):=BN (by simp[ay])
      try refine gz ?_
      exact⟨n+1,some i,⟨by omega,by omega,fun _ e=>by cases e;exact aC⟩,td1,wkR⟩
     ·have hw:=ae i
      simp only[Fo,GP]
      try refine gz ?_
      exact⟨n+1,some i,⟨by omega,by omega,fun _ e=>by cases e;exact hi i rfl⟩,td1,wkR⟩
 ·have hne:n=3+g.length:=by omega
  subst hne
  have ag:Sub O (sgO O (3+g.length) ow):=by
   rcases ow with _|i
   ·exact Sub.refl _
   ·exact(Sub.refl _).set (hi i rfl)
  try refine gz ?_
  exact fe1 (d':=sl (cII (ordersN g (3+g.length)))) trivial
@[reducible,instance] def a268:=fun g o O=>ah2 (@Jk g o O)
theorem SG(g:List (List Int))(c:Int)(o:Own)(O:Sig)(hb:Bb g=true)(hc:0<=c/\c<3+g.length)(hl:∀x∈g,x.length<=1073741824:=by exact sd):
  DCall prog 220 [.slice (cII g) o,dI c] O (rS (.tup [sl (cI (FA g c)),.bool (decide (0<(FA g c).length))]) O):=by
 obtain⟨k,rfl⟩:∃k:Nat,c=(k:Int):=⟨c.toNat,by omega⟩
 have hk:k<3+g.length:=by omega
 have hlen:=Dx hb
 have hL:(ordersN g (3+g.length))[k]'(by simpa using hk)=FA g k:=by
  unfold FA Az
  rw[show((k:Int)).toNat=k by omega,List.getElem?_eq_getElem (by simpa using hk)];rfl
 have ce:(FA g k).length<=80000000:=CO hb (by omega) hc.1
 have ay:=B7 g (3+g.length)
 refine en func220 ntmps220 ?_
 repeat' first|refine gf hL ?_|refine Bg (Jk g o O hb hl) ?_|refine callP (Jk g o O hb hl) ?_|refine gf hL ?_|apply gy<;>intro hh
 exact fe2 trivial
def CS(bs:List Bool):List D:=bs.map .bool
@[simp] theorem VV(bs:List Bool):(CS bs).length=bs.length:=by simp[CS]
@[simp] theorem boolsD_get(bs:List Bool)(k:Nat):(CS bs)[k]? = (bs[k]?).map .bool:=by simp[CS]
theorem PZ(bs:List Bool)(k:Nat)(b:Bool):(CS bs).set k (.bool b)=CS (bs.set k b):=by simp[CS]
@[simp] theorem boolsD_put(bs:List Bool)(k:Nat)(b:Bool)(h:k<bs.length):(CS bs).take k ++ .bool b::(CS bs).drop (k+1)=CS (bs.set k b):=by
 rw[<-PZ,List.set_eq_take_append_cons_drop,if_pos (by simpa using h)]
def G8(k:Nat):List Int->List Bool->List Bool
 |[],bs=>bs
 |p::r,bs=>G8 k r (bs.set p.toNat (bs.getD p.toNat false||bs.getD k false))
def upD(g:List (List Int)):Nat->List Bool->List Bool
 |0,bs=>bs
 |j+1,bs=>upD g j (G8 (j+3) (parentsF g (j+3:Nat)) bs)
def upF(g:List (List Int))(c:Int):List Bool:=upD g (c.toNat-2) ((List.replicate (3+g.length) false).set c.toNat true)
theorem Se(w:World)(c:Int)(O:Sig)(hb:Bb w.parents=true)(hc:0<=c/\c<3+w.parents.length):
  DCall prog 296 [.agg (DW w),dI c] O fun x U'=> ∃i,x=.ret (.sref i 0 (3+w.parents.length) (3+w.parents.length))/\O i=none/\U'=O.set i (.cells (CS (upF w.parents c))):=by
 have hlen:=Dx hb
 obtain⟨k,rfl⟩:∃k:Nat,c=(k:Int):=⟨c.toNat,by omega⟩
 refine en func296 ntmps296 ?_
 try refine gz ?_
 refine mmake (k:=3+w.parents.length) (c:=3+w.parents.length) (z:=[.bool false]) (sz:=1) (fun i hi hm=>?_)
 have e0:mS O (some (i,3+w.parents.length,(List.replicate (3+w.parents.length-(3+w.parents.length)) [D.bool false]).flatten)) (List.replicate (3+w.parents.length) [D.bool false])=O.set i (.cells (CS (List.replicate (3+w.parents.length) false))):=by
  simp only[mS,Nat.sub_self,List.replicate_zero,List.flatten_nil,List.append_nil]
  congr 2
  generalize 3+w.parents.length=m
  induction m with
  |zero=>rfl
  |succ m ih=>rw[List.replicate_succ,List.replicate_succ,List.flatten_cons,ih];rfl
 rw[e0]
 generalize bT:List.replicate (3+w.parents.length) false=b0
 have bN:b0.length=3+w.parents.length:=by rw[<-bT];simp
 try refine gf bN ?_
 refine BZ [2,4,5,47] (fun (m:Nat) (bs:List Bool)=>m<=k/\bs.length=3+w.parents.length/\upD w.parents (m-2) bs=upF w.parents k) (fun m _=>[(6,dI m)]) (fun _ bs=>O.set i (.cells (CS bs))) (fun m _=>m) (k) (b0.set k true) (by exact⟨Nat.le_refl _,by simpa using bN,by rw[upF,<-bT];rfl⟩) (fun m bs hI=>?_)
 obtain⟨hm,cp,hU⟩:=hI
 have cW:(O.set i (.cells (CS bs))) i=some (.cells (CS bs)):=w6 ..
 by_cases h3:3<=m
 ·obtain⟨j,hj⟩:∃j,m=j+3:=⟨m-3,by omega⟩
  have ax:w.parents[j]'(by omega)=parentsF w.parents m:=by
   unfold parentsF
   rw[if_neg (by omega),show((m:Int)-3).toNat=j by omega,List.getElem?_eq_getElem (by omega)];rfl
  have ai:=BE hb m
  rw[show m-2=j+1 by omega,upD,<-hj]at hU
  rw[<-ax]at hU ai
  have e3:(m:Int)-3=j:=by omega
  generalize bI:w.parents[j]'(by omega)=ps at hU ai
  try refine gf (gi e3 bI) ?_
  refine BZ [2,4,5,6,18,19,20,21,22,23,24,25,26,27,28,47] (fun (q:Nat) (b2:List Bool)=>q<=ps.length/\b2.length=3+w.parents.length/\G8 m ps bs=G8 m (ps.drop q) b2) (fun q _=>[(29,dI q)]) (fun _ b2=>O.set i (.cells (CS b2))) (fun q _=>ps.length-q) (0) (bs) (by exact⟨by omega,cp,rfl⟩) (fun q b2 hI=>?_)
  obtain⟨hq,aQ,hR⟩:=hI
  have cV:(O.set i (.cells (CS b2))) i=some (.cells (CS b2)):=w6 ..
  by_cases aV:q<ps.length
  ·have hp:=ai.2 _ (List.getElem_mem aV)
   rw[A5 aV,G8]at hR
   obtain⟨p,bd⟩:∃p:Nat,ps[q]=(p:Int):=⟨(ps[q]).toNat,by omega⟩
   rw[bd]at hR hp
   have hm2:m<b2.length:=by omega
   have b7:p<b2.length:=by omega
   rw[show((p:Int)).toNat=p by omega,List.getD_eq_getElem?_getD,List.getD_eq_getElem?_getD,List.getElem?_eq_getElem hm2,List.getElem?_eq_getElem b7,Option.getD_some,Option.getD_some]at hR
   repeat' first|refine gf (gi e3 (gi bI bd)) ?_|apply gy<;>intro hh
   ·rw[hh,Bool.true_or]at hR
    exact⟨q+1,b2.set p true,⟨by omega,by simpa using aQ,hR⟩,td1,wkR⟩
   ·rw[hh,Bool.false_or]at hR
    exact⟨q+1,b2.set p b2[m],⟨by omega,by simpa using aQ,hR⟩,td1,wkR⟩
  ·rw[A9 aV,G8]at hR
   rw[hR]at hU
   try refine gz ?_
   exact⟨m-1,b2,⟨by omega,aQ,by rw[show m-1-2=j by omega];exact hU⟩,td1,wkR⟩
 ·rw[show m-2=0 by omega,upD]at hU
  subst hU
  try refine gz ?_
  exact fin1 (U':=O.set i (.cells (CS (upF w.parents k)))) ⟨i,rfl,hi,rfl⟩
theorem Da(k:Nat): ∀(ps:List Int) (bs:List Bool),(G8 k ps bs).length=bs.length
 |[],_=>rfl
 |p::r,bs=>by rw[G8,Da k r,List.length_set]
theorem K4(g:List (List Int)): ∀(j:Nat) (bs:List Bool),(upD g j bs).length=bs.length
 |0,_=>rfl
 |j+1,bs=>by rw[upD,K4 g j,Da]
theorem P1(g:List (List Int))(c:Int):(upF g c).length=3+g.length:=by rw[upF,K4,List.length_set,List.length_replicate]
def Ie(g:List (List Int))(a b:Int):Bool:=decide (a=b)||decide (b=0)||(decide (3<=a)&&(upF g a).getD b.toNat false)
theorem Jl(w:World)(a b:Int)(O:Sig)(hb:Bb w.parents=true)(ha:0<=a/\a<3+w.parents.length)(cY:0<=b/\b<3+w.parents.length):
  DCall prog 248 [.agg (DW w),dI a,dI b] O (rS (.bool (Ie w.parents a b)) O):=by
 have hlen:=Dx hb
 obtain⟨k,rfl⟩:∃k:Nat,b=(k:Int):=⟨b.toNat,by omega⟩
 have cE:=P1 w.parents a
 have hk:k<(upF w.parents a).length:=by omega
 have bA:(upF w.parents a).getD k false=(upF w.parents a)[k]:=by rw[List.getD_eq_getElem?_getD,List.getElem?_eq_getElem hk];rfl
 refine en func248 ntmps248 ?_
 by_cases h1:a=(k:Int)\/(k:Int)=0
 ·have e:Ie w.parents a k=true:=by
   unfold Ie
   rcases h1 with h1|h1<;>simp[h1]
  repeat' first|refine gz ?_|apply gy<;>intro hh
  any_goals (first|exact fe1 e|fail)
 ·have e:Ie w.parents a k=(decide (3<=a)&&(upF w.parents a)[k]):=by
   unfold Ie
   rw[show((k:Int)).toNat=k by omega,bA]
   simp only[not_or]at h1
   rw[decide_eq_false h1.1,decide_eq_false h1.2];rfl
  by_cases h3:3<=a
  ·try refine gz ?_
   refine A4 (Se w a _ hb ha) (fun d U' hx=>?_) (fun d U' hx=>by obtain⟨_,hx,_⟩:=hx;cases hx)
   obtain⟨i,hx,hi,rfl⟩:=hx
   cases hx
   simp only[putD]
   try refine gz ?_
   exact fe1 (gi e h3)
  ·try refine gz ?_
   exact fe1 (gi e h3)
@[reducible,instance] def a248:=fun w a b O=>ah3 (@Jl w a b O)
def hasW(w:World)(c s:Int):Bool:=decide (3<=c)&&Ie w.parents c ((w.owner[s.toNat]?).getD 0)
theorem SU(w:World)(c s:Int)(O:Sig)(hb:Bb w.parents=true)(hc:0<=c/\c<3+w.parents.length)(hs:0<=s/\s<w.owner.length)(ho:∀x∈w.owner,0<=x/\x<3+w.parents.length):
  DCall prog 193 [.agg (DW w),dI c,dI s] O (rS (.bool (hasW w c s)) O):=by
 have hlen:=Dx hb
 obtain⟨k,rfl⟩:∃k:Nat,s=(k:Int):=⟨s.toNat,by omega⟩
 have hk:k<w.owner.length:=by omega
 have bK:=ho _ (List.getElem_mem hk)
 have e:hasW w c k=(decide (3<=c)&&Ie w.parents c (w.owner[k])):=by
  unfold hasW;rw[show((k:Int)).toNat=k by omega,List.getElem?_eq_getElem hk];rfl
 refine en func193 ntmps193 ?_
 by_cases h3:3<=c
 ·repeat' first|refine gz ?_|refine moRG (Jl w c (w.owner[k]) O hb hc bK) ?_|refine moPG (Jl w c (w.owner[k]) O hb hc bK) ?_|refine gz ?_ o193|apply gy<;>intro hh
  exact fe1 (gi e h3)
 ·try refine gz ?_ o193
  exact fe1 (gi e h3)
@[reducible,instance] def a193:=fun w c s O=>ah4 (@SU w c s O)
def Cy:Int->List Int->Option Int
 |n,[]=>some n
 |n,s::r=>if s=n then Cy (n+1) r else none
def Fb:Int->List BClass->Option Int
 |n,[]=>some n
 |n,c::r=>if 4<c.slots.length\/3<c.parents.length then none else match Cy n c.slots with
  |none=>none
  |some m=>Fb m r
def F9(w:World)(N c:Int)(x:Init):Bool:=decide (0<=x.slot/\x.slot<N)&&hasW w c x.slot&&inB x.n
def FD(w:World)(N c:Int):List Init->List Init->Bool
 |_,[]=>true
 |seen,x::r=>F9 w N c x&&(seen.all fun y=> !decide (y.slot=x.slot))&&FD w N c (seen++[x]) r
def Dv(w:World)(N:Int):Nat->List BClass->Bool
 |_,[]=>true
 |i,c::r=>decide (0<(FA w.parents ((i:Int)+3)).length)&&FD w N ((i:Int)+3) [] c.inits&&Dv w N (i+1) r
def AE(p:BProg):Bool:=decide (p.classes.length<=10)&&match Fb 0 p.classes with
 |none=>false
 |some n=>decide (n=p.slots)&&Bb (p.classes.map (·.parents))&&Dv (Bp p) n 0 p.classes
theorem C3: ∀(l:List BClass) (i:Nat),(ownersF l i).length=wtL (fun c:BClass=>c.slots.length) l
 |[],_=>rfl
 |c::r,i=>by rw[ownersF,List.length_append,List.length_replicate,C3 r];rfl
theorem Gt: ∀{l:List BClass}{i:Nat}{x:Int},x∈ownersF l i->3+(i:Int)<=x/\x<3+i+l.length
 |[],_,_,h=>by cases h
 |c::r,i,x,h=>by
  rw[ownersF]at h
  rcases List.mem_append.1 h with h|h
  ·have:=List.eq_of_mem_replicate h;rw[List.length_cons];omega
  ·have:=Gt h;rw[List.length_cons];omega
theorem T8 (p:BProg) (O:Sig) (hp:p.wt<=1073741824:=by exact sd):DCall prog 144 [.agg (Ad p)] O (rS (.bool (AE p)) O):=by
 obtain⟨p1,p2,p3,p4,p5,p6,p7⟩:=p.wt_le
 have ws:=Dr p
 have aJ:∀c∈p.classes,c.parents.length<=1073741824/\c.slots.length<=1073741824/\c.inits.length<=1073741824:=fun c hc=>by
  obtain⟨k,hk,rfl⟩:=List.getElem_of_mem hc
  have:=p5 k hk
  have cz:(p.classes[k]).wt=1+(p.classes[k]).parents.length+(p.classes[k]).slots.length+(p.classes[k]).inits.length:=rfl
  omega
 refine en func144 ntmps144 ?_
 repeat' first|refine gz ?_ o144|apply gy<;>intro hh
 ·(refine fin1 (U':=O) ?_;exact⟨by first|rfl|(simp[AE];done)|(simp_all [AE];done)|(rw[Ac,Bool.eq_iff_iff];simp_all [AE]<;>omega),rfl⟩)
 refine BZ [1,7,8,9,10,11,12,13,14,15,60,61,62,63,64,65,66,67,68,69,70,71,72,73,74,75,76,77,78,79,80,81,82,83,84,85,86,87,88,89,90,91,92,93,94,95,96,97,98,99,100,101,102,103,104,105,106,107,108,109,110,111,112,113,114,115,116,117,118,119,120,121,122,123,124,125,126,127,128,129,130,131,132,133,134,135,136,137,138,139,140,141,142,143,144,145,146,147,148,149,150,151,152] (fun (i:Nat) (n:Int)=>i<=p.classes.length/\n=wtL (fun c:BClass=>c.slots.length) (p.classes.take i)/\Fb 0 p.classes=Fb n (p.classes.drop i)) (fun i n=>[(4,dI i),(3,dI n)]) (fun _ _=>O) (fun i _=>p.classes.length-i) (0) (0) (by simp[wtL]) (fun i n hI=>?_)
 obtain⟨hi,hn,hR⟩:=hI
 by_cases h:i<p.classes.length
 ·have hx:=aJ _ (List.getElem_mem h)
  have hT:=Ik (fun c:BClass=>c.slots.length) p.classes i h
  have da:=EJ (fun c:BClass=>c.slots.length) p.classes (i+1)
  rw[A5 h,Fb]at hR
  repeat' first|refine gz ?_ o144|apply gy<;>intro hh
  ·have hc:Fb 0 p.classes=none:=by rw[hR,if_pos (.inl (by omega))]
   (refine fin1 (U':=O) ?_;exact⟨by first|rfl|(simp[AE,hc];done)|(simp_all [AE,hc];done)|(rw[Ac,Bool.eq_iff_iff];simp_all [AE,hc]<;>omega),rfl⟩)
  ·have hc:Fb 0 p.classes=none:=by rw[hR,if_pos (.inr (by omega))]
   (refine fin1 (U':=O) ?_;exact⟨by first|rfl|(simp[AE,hc];done)|(simp_all [AE,hc];done)|(rw[Ac,Bool.eq_iff_iff];simp_all [AE,hc]<;>omega),rfl⟩)
  ·rw[if_neg (by omega)]at hR
   generalize cG:(p.classes[i]).slots=sl' at*
   refine BV [1,4,5,7,8,9,10,11,12,13,14,15,20,21,22,23,24,25,26,27,28,29,30,31,32,33,34,35,36,37,38,39,40,41,42,43,44,45,60,61,62,63,64,65,66,67,68,69,70,71,72,73,74,75,76,77,78,79,80,81,82,83,84,85,86,87,88,89,90,91,92,93,94,95,96,97,98,99,100,101,102,103,104,105,106,107,108,109,110,111,112,113,114,115,116,117,118,119,120,121,122,123,124,125,126,127,128,129,130,131,132,133,134,135,136,137,138,139,140,141,142,143,144,145,146,147,148,149,150,151,152] (fun (q:Nat)=>q<=sl'.length/\Cy n sl'=Cy (n+q) (sl'.drop q)) (fun q=>[(6,dI q),(3,dI (n+q))]) (fun _=>O) (fun q=>sl'.length-q) (0) (by simp) (fun q hI=>?_)
   obtain⟨hq,hQ⟩:=hI
   by_cases aV:q<sl'.length
   ·rw[A5 aV,Cy]at hQ
    have cF:=hx.2.1
    have cP:0<=n:=by omega
    have cO:n<=1073741824:=by omega
    repeat' first|refine gz ?_ o144|apply gy<;>intro hh
    ·rw[if_neg hh]at hQ
     have hc:Fb 0 p.classes=none:=by rw[hR,hQ]
     (refine fin1 (U':=O) ?_;exact⟨by first|rfl|(simp[AE,hc];done)|(simp_all [AE,hc];done)|(rw[Ac,Bool.eq_iff_iff];simp_all [AE,hc]<;>omega),rfl⟩)
    ·rw[if_pos hh]at hQ
     exact⟨q+1,⟨by omega,by rw[hQ,Int.add_assoc];rfl⟩,td1,wkR⟩
   ·rw[A9 aV,Cy]at hQ
    rw[hQ]at hR
    have bH:q=sl'.length:=by omega
    try refine gz ?_ o144
    exact⟨i+1,n+q,⟨by omega,by rw[hT];omega,hR⟩,td1,wkR⟩
 ·rw [A9 h,Fb] at hR
  have aT:(Bp p).parents=p.classes.map (·.parents):=rfl
  have ay:(Bp p).owner.length=wtL (fun c:BClass=>c.slots.length) p.classes:=C3 _ _
  have b9:n=wtL (fun c:BClass=>c.slots.length) p.classes:=by rw[hn,List.take_of_length_le (by omega)]
  have aS:=MG p O (by omega) (fun c hc=>(aJ c hc).1)
  have bC:=Ls p O (by omega) (fun c hc=>(aJ c hc).1) (fun c hc=>(aJ c hc).2.1) (by rw[C3];omega)
  have ak:=SH (p.classes.map (·.parents)) .no O (by simp;omega) (fun x hx=>by obtain⟨c,hc,rfl⟩:=List.mem_map.1 hx;exact(aJ c hc).1)
  by_cases hs:n=p.slots
  ·cases hg:Bb (p.classes.map (·.parents)) with
   |false=>
    rw[hg]at ak
    repeat' first|refine gz ?_|refine Bg (aS) ?_|refine callP (aS) ?_|refine CR (ak) ?_|refine callPG (ak) ?_|refine gz ?_ o144|apply gy<;>intro hh
    (refine fin1 (U':=O) ?_;exact⟨by first|rfl|(simp[AE,hR,hg];done)|(simp_all [AE,hR,hg];done)|(rw[Ac,Bool.eq_iff_iff];simp_all [AE,hR,hg]<;>omega),rfl⟩)
   | true =>
    rw[hg]at ak
    have aP:AE p=Dv (Bp p) n 0 p.classes:=by unfold AE;rw[hR];simp[hs,hg];omega
    repeat' first|refine gz ?_|refine Bg (aS) ?_|refine callP (aS) ?_|refine CR (ak) ?_|refine callPG (ak) ?_|refine Bg (bC) ?_|refine callP (bC) ?_|refine gz ?_ o144|apply gy<;>intro hh
    have b8:∀x∈(Bp p).owner,0<=x/\x<3+(Bp p).parents.length:=fun x hx=>by
     have:=Gt hx
     rw[aT,List.length_map];omega
    have ck:Bb (Bp p).parents=true:=hg
    have cB:(Bp p).parents.length=p.classes.length:=by rw[aT,List.length_map]
    have ay:((Bp p).owner.length:Int)=n:=by rw[b9];exact_mod_cast ay
    clear aS bC ak
    generalize hw:Bp p=w at*
    refine BV [1,3,7,8] (fun (j:Nat)=>j<=p.classes.length/\Dv w n 0 p.classes=Dv w n j (p.classes.drop j)) (fun j=>[(9,dI j)]) (fun _=>O) (fun j=>p.classes.length-j) (0) (by simp) (fun j hI=>?_)
    obtain⟨hj,hJ⟩:=hI
    by_cases h':j<p.classes.length
    ·have hx:=aJ _ (List.getElem_mem h')
     rw[A5 h',Dv]at hJ
     have aR:=SG w.parents ((j:Int)+3) .no O ck (by omega) (fun x hx=>by rw[aT]at hx;obtain⟨c,hc,rfl⟩:=List.mem_map.1 hx;exact(aJ c hc).1)
     rw[aT]at aR
     by_cases hl:0<(FA w.parents ((j:Int)+3)).length
     ·rw [decide_eq_true hl,Bool.true_and] at hJ
      rw[aT]at hl
      rw[decide_eq_true hl]at aR
      generalize bQ:(p.classes[j]).inits=ins at hJ hx
      repeat' first|refine gf bQ ?_|refine Bg (aR) ?_|refine callP (aR) ?_|refine gf bQ ?_ o144|apply gy<;>intro hh
      refine BV [1,3,7,8,9,10,11,12,13,73,74,75,76,77,78,79,80,81,82,83,84,85,86,87,88,89,90,91,92,93,94,95] (fun (k:Nat)=>k<=ins.length/\FD w n ((j:Int)+3) [] ins=FD w n ((j:Int)+3) (ins.take k) (ins.drop k)) (fun k=>[(14,dI k)]) (fun _=>O) (fun k=>ins.length-k) (0) (by simp) (fun k hI=>?_)
      obtain⟨hk,hK⟩:=hI
      by_cases ap:k<ins.length
      ·have cT:=hx.2.2
       rw[A5 ap,FD]at hK
       repeat' first|refine gz ?_ o144|apply gy<;>intro hh
       ·have hf:F9 w n ((j:Int)+3) ins[k]=false:=by unfold F9;rw[decide_eq_false (by omega)];rfl
        rw[hf,Bool.false_and,Bool.false_and]at hK
        rw[hK,Bool.false_and]at hJ
        exact fe1 (gi aP hJ)
       ·have hf:F9 w n ((j:Int)+3) ins[k]=false:=by unfold F9;rw[decide_eq_false (by omega)];rfl
        rw[hf,Bool.false_and,Bool.false_and]at hK
        rw[hK,Bool.false_and]at hJ
        exact fe1 (gi aP hJ)
       ·have hf:F9 w n ((j:Int)+3) ins[k]=false:=by unfold F9;simp_all
        rw[hf,Bool.false_and,Bool.false_and]at hK
        rw[hK,Bool.false_and]at hJ
        exact fe1 (gi aP hJ)
       ·have hf:F9 w n ((j:Int)+3) ins[k]=false:=by unfold F9;simp_all
        rw[hf,Bool.false_and,Bool.false_and]at hK
        rw[hK,Bool.false_and]at hJ
        exact fe1 (gi aP hJ)
       ·have ht:F9 w n ((j:Int)+3) ins[k]=true:=by unfold F9;rw[decide_eq_true (by omega)];simp_all
        rw[ht,Bool.true_and]at hK
        refine BV [1,3,7,8,9,10,11,12,13,14,73,74,75,76,77,78,79,80,81,82,83,84,85,86,87,88,89,90,91,92,93,94,95,96,97,98,99,100,101,102,103,104,105,106,107,108,109,110,111,112,113,114,115,116,117,118,119,120,121,122,123,124,125,126,127,128,129,130,131,132,133,134,135,136] (fun (m:Nat)=>m<=k/\((ins.take m).all fun y=> !decide (y.slot=(ins[k]).slot))=true) (fun m=>[(15,dI m)]) (fun _=>O) (fun m=>k-m) (0) (by simp) (fun m hI=>?_)
        obtain⟨hm,hM⟩:=hI
        by_cases cQ:m<k
        ·have bL:m<ins.length:=by omega
         repeat' first|refine gz ?_ o144|apply gy<;>intro hh
         ·have hf:((ins.take k).all fun y=> !decide (y.slot=(ins[k]).slot))=false:=by
           rw[List.all_eq_false]
           exact⟨ins[m],List.mem_take_iff_getElem.2 ⟨m,by omega,rfl⟩,by simp[hh]⟩
          rw[hf,Bool.false_and]at hK
          rw[hK,Bool.false_and]at hJ
          exact fe1 (gi aP hJ)
         ·exact⟨m+1,⟨by omega,by rw[List.take_succ_eq_append_getElem bL,List.all_append,hM];simp[hh]⟩,td1,wkR⟩
        ·have cb:m=k:=by omega
         subst cb
         rw[hM,Bool.true_and]at hK
         try refine gz ?_ o144
         exact⟨m+1,⟨by omega,by rw[hK,DG ap]⟩,td1,wkR⟩
      ·rw[A9 ap,FD]at hK
       rw[hK,Bool.true_and]at hJ
       try refine gz ?_ o144
       exact⟨j+1,⟨by omega,hJ⟩,td1,wkR⟩
     ·rw[decide_eq_false hl,Bool.false_and,Bool.false_and]at hJ
      rw[aT]at hl
      rw[decide_eq_false hl]at aR
      repeat' first|refine gz ?_|refine Bg (aR) ?_|refine callP (aR) ?_|refine gz ?_ o144|apply gy<;>intro hh
      exact fe1 (gi aP hJ)
    ·rw[A9 h',Dv]at hJ
     try refine gz ?_ o144
     exact fe1 (gi aP hJ)
  ·repeat' first|refine gz ?_|refine Bg (aS) ?_|refine callP (aS) ?_|refine gz ?_ o144|apply gy<;>intro hh
   (refine fin1 (U':=O) ?_;exact⟨by first|rfl|(simp[AE,hR,hs];done)|(simp_all [AE,hR,hs];done)|(rw[Ac,Bool.eq_iff_iff];simp_all [AE,hR,hs]<;>omega),rfl⟩)
def Uy(w:World)(l:List Int):Bool:=l.all (fun s=>decide (0<=s/\s<w.owner.length))&&decide (l.length<=2)
def Gl(op:Int):Int:=if op=5 then 1 else if op=6\/op=7 then 2 else 0
def Je(w:World)(f:Fact):Bool:=
 if f.op=2 then decide (f.n=0)&&decide (0<=f.cls/\f.cls<3+w.parents.length)
 else if f.op=3\/f.op=4 then decide (f.cls=0)&&decide (-1000000000<=f.n/\f.n<=1000000000)
 else decide (f.op=1\/f.op=5\/f.op=6\/f.op=7)
def EX(w:World)(f:Fact):Bool:=
 decide ((f.kids.length:Int)=Gl f.op)&&decide (0<=f.arg/\f.arg<3)&&Uy w f.path&&(Cx f.op||(decide (f.arg=0)&&decide (f.path.length=0)&&decide (f.cls=0)&&decide (f.n=0)))
mutual
def IR(w:World):Fact->Bool
 |.mk o a p c n k=>Je w (.mk o a p c n k)&&EX w (.mk o a p c n k)&&DK w k
def DK(w:World):List Fact->Bool
 |[]=>true
 |f::l=>IR w f&&DK w l
end
theorem Oa(w:World)(f:Fact):IR w f=(Je w f&&EX w f&&DK w f.kids):=by cases f;rw[IR];rfl
theorem Ans.of{f:Nat}{us:List D}{O:Sig}{d:D}(h:DCall prog f us O (rS d O)):Ans f us O True d:=⟨fun _=>h⟩
theorem Mv (w:World) (f:Fact) (O:Sig) (hw:w.parents.length<=1073741824:=by exact sd) (bD:w.owner.length<=1073741824:=by exact sd) (hf:f.wt<=1073741824:=by exact sd) :
  DCall prog 224 [.agg (DW w),.agg (Cc f)] O (rS (.bool (IR w f)) O):=by
 obtain⟨f1,f2,f3⟩:=f.wt_le
 have aB:∀(k:Nat) (hk:k<f.kids.length),DCall prog 224 [.agg (DW w),.agg (Cc (f.kids[k]))] O (rS (.bool (IR w (f.kids[k]))) O):=fun k hk=>Mv w (f.kids[k]) O hw bD (by have:=f3 k hk;omega)
 have ac:=Oa w f
 refine en func224 ntmps224 ?_
 cases ho:Je w f with
 | false =>
  rw[ho,Bool.false_and,Bool.false_and]at ac
  unfold Je at ho
  by_cases h2:f.op=2
  ·rw[if_pos h2,Bool.and_eq_false_iff,decide_eq_false_iff_not]at ho
   by_cases hn:f.n=0
   ·have hc:decide (0<=f.cls/\f.cls<3+(w.parents.length:Int))=false:=ho.resolve_left (fun h=>h hn)
    refine gf (gi h2 hc) ?_
    exact fe1 ac
   ·refine gf h2 ?_
    exact fe1 ac
  ·rw [if_neg h2] at ho
   by_cases aG:f.op=3\/f.op=4
   ·rw [if_pos aG,Bool.and_eq_false_iff,decide_eq_false_iff_not,decide_eq_false_iff_not] at ho
    by_cases hc:f.cls=0
    ·by_cases hn:f.n < -1000000000
     ·rcases aG with h3|h4
      ·refine gz ?_
       exact fe1 ac
      ·refine gz ?_
       exact fe1 ac
     ·rcases aG with h3|h4
      ·refine gz ?_
       exact fe1 ac
      ·refine gz ?_
       exact fe1 ac
    ·rcases aG with h3|h4
     ·refine gz ?_
      exact fe1 ac
     ·refine gz ?_
      exact fe1 ac
   ·rw[if_neg aG]at ho
    have cM:=of_decide_eq_false ho
    refine gz ?_
    exact fe1 ac
 | true =>
  rw[ho,Bool.true_and]at ac
  unfold Je at ho
  repeat ((fail_if_success refine dwp_join (c:=.block 0 _) 5 (dI 0) ?_ ?_);(refine go1 trivial ?_))
  refine dwp_join (c:=.block 0 _) 5 (dI (Gl f.op)) ?_ ?_
  ·by_cases h2:f.op=2
   ·rw[if_pos h2,Bool.and_eq_true,decide_eq_true_eq]at ho
    have am:Gl f.op=0:=by rw[h2];rfl
    refine gf (gi h2 ho.2) ?_
    refine Fe ?_ (Sub.refl _);simp[am]
   ·rw[if_neg h2]at ho
    by_cases aG:f.op=3\/f.op=4
    ·rw[if_pos aG,Bool.and_eq_true,decide_eq_true_eq,decide_eq_true_eq]at ho
     rcases aG with h3|h4
     ·have am:Gl f.op=0:=by rw[h3];rfl
      refine gz ?_
      refine Fe ?_ (Sub.refl _);simp[am]
     ·have am:Gl f.op=0:=by rw[h4];rfl
      refine gz ?_
      refine Fe ?_ (Sub.refl _);simp[am]
    ·rw[if_neg aG]at ho
     rcases of_decide_eq_true ho with h1|h1|h1|h1
     ·have am:Gl f.op=0:=by rw[h1];rfl
      refine gz ?_
      refine Fe ?_ (Sub.refl _);simp[am]
     ·have am:Gl f.op=1:=by rw[h1];rfl
      refine gz ?_
      refine Fe ?_ (Sub.refl _);simp[am]
     ·have am:Gl f.op=2:=by rw[h1];rfl
      refine gz ?_
      refine Fe ?_ (Sub.refl _);simp[am]
     ·have am:Gl f.op=2:=by rw[h1];rfl
      refine gz ?_
      refine Fe ?_ (Sub.refl _);simp[am]
  ·clear ho
   have cC:Gl f.op=0\/Gl f.op=1\/Gl f.op=2:=by
    unfold Gl;split
    ·exact .inr (.inl rfl)
    ·split
     ·exact .inr (.inr rfl)
     ·exact .inl rfl
   have aq:DCall prog 271 [.agg (DW w),.slice (cI f.path) .no] O (rS (.bool (Uy w f.path)) O):=Si w f.path .no O bD (by omega)
   have ar:=Mu f O
   cases hr:EX w f with
   | false =>
    rw[hr,Bool.false_and]at ac
    unfold EX at hr
    by_cases hk:(f.kids.length:Int)=Gl f.op
    ·rw [decide_eq_true hk,Bool.true_and] at hr
     by_cases c9:f.arg<0
     ·refine gz ?_
      exact fe1 ac
     ·by_cases cZ:3<=f.arg
      ·refine gz ?_
       exact fe1 ac
      ·rw [decide_eq_true (by omega),Bool.true_and] at hr
       cases hp:Uy w f.path with
       |false=>
        rw[hp]at aq
        have i232:=Ans.of aq
        refine gz ?_
        exact fe1 ac
       | true =>
        rw[hp]at aq
        have i232:=Ans.of aq
        rw[hp,Bool.true_and,Bool.or_eq_false_iff]at hr
        rw[hr.1]at ar
        have i180:=Ans.of ar
        have cH:¬(f.arg=0/\(f.path.length=0)/\f.cls=0/\f.n=0):=fun h=>by
         have:=hr.2;rw[decide_eq_true h.1,decide_eq_true h.2.1,decide_eq_true h.2.2.1,decide_eq_true h.2.2.2]at this;cases this
        by_cases bZ:f.arg=0
        ·by_cases bH:f.path.length=0
         ·by_cases bY:f.cls=0
          ·refine gz ?_
           exact fe1 ac
          ·refine gz ?_
           exact fe1 ac
         ·refine gz ?_
          exact fe1 ac
        ·refine gz ?_
         exact fe1 ac
    ·refine gz ?_
     exact fe1 ac
   | true =>
    rw[hr,Bool.true_and]at ac
    unfold EX at hr
    simp only[Bool.and_eq_true,decide_eq_true_eq]at hr
    obtain⟨⟨⟨hk,ha⟩,hp⟩,hl⟩:=hr
    rw[hp]at aq
    have i232:=Ans.of aq
    cases bM:Cx f.op with
    | true =>
     rw[bM]at ar
     have i180:=Ans.of ar
     refine gz ?_
     refine BV [2,92,93] (fun (k:Nat)=>k<=f.kids.length/\DK w f.kids=DK w (f.kids.drop k)) (fun k=>[(94,dI k)]) (fun _=>O) (fun k=>f.kids.length-k) (0) (by simp) (fun k hI=>?_)
     obtain⟨hk,hK⟩:=hI
     by_cases ap:k<f.kids.length
     ·rw[A5 ap,DK]at hK
      repeat' first|refine gz ?_|refine Bg (aB k ap) ?_|refine callP (aB k ap) ?_|refine gz ?_|apply gy<;>intro hh
      ·exact fe1 (gi ac hK)
      ·rw[show IR w f.kids[k]=true by simpa using hh,Bool.true_and]at hK
       exact⟨k+1,⟨by omega,hK⟩,td1,wkR⟩
     ·rw[A9 ap,DK]at hK
      refine gz ?_
      exact fe1 (gi ac hK)
    | false =>
     rw[bM]at ar hl
     have i180:=Ans.of ar
     simp only[Bool.false_or,Bool.and_eq_true,decide_eq_true_eq]at hl
     obtain⟨⟨⟨bZ,bH⟩,bY⟩,cJ⟩:=hl
     refine gz ?_
     refine BV [2,92,93] (fun (k:Nat)=>k<=f.kids.length/\DK w f.kids=DK w (f.kids.drop k)) (fun k=>[(94,dI k)]) (fun _=>O) (fun k=>f.kids.length-k) (0) (by simp) (fun k hI=>?_)
     obtain⟨hk,hK⟩:=hI
     by_cases ap:k<f.kids.length
     ·rw[A5 ap,DK]at hK
      repeat' first|refine gz ?_|refine Bg (aB k ap) ?_|refine callP (aB k ap) ?_|refine gz ?_|apply gy<;>intro hh
      ·exact fe1 (gi ac hK)
      ·rw[show IR w f.kids[k]=true by simpa using hh,Bool.true_and]at hK
       exact⟨k+1,⟨by omega,hK⟩,td1,wkR⟩
     ·rw[A9 ap,DK]at hK
      refine gz ?_
      exact fe1 (gi ac hK)
termination_by SizeOf.sizeOf f
decreasing_by exact Fact.lt (List.getElem_mem _)
@[reducible,instance] def a224:=fun w f O=>ah3 (@Mv w f O)
end Go.DL
