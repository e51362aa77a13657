/- A part of the proof. -/
import Derived.Test.YteldimffglchkaaGreatDoorM15
import Derived.Test.YteldimffglchkaaGreatDoorM14
import Derived.Test.YteldimffglchkaaGreatDoorM09
set_option linter.all false
namespace Go.DL
open Go.Proofs.Tryz
open Go Go.Proofs
set_option maxHeartbeats 8000000
theorem IE{i:Nat}: ∀{l seen:List Int},El i seen l=true->∀p∈l,3<=p/\p<3+i
 |[],_,_,p,hp=>by simp at hp
 |q::r,seen,h,p,hp=>by
  simp only[El,Bool.and_eq_true,decide_eq_true_eq]at h
  rcases List.mem_cons.1 hp with rfl|hp
  ·exact h.1.1
  ·exact IE h.2 p hp
theorem F0: ∀{g:List (List Int)}{i:Nat},CO i g=true->∀k (hk:k<g.length),ID (i+k) g[k]=true
 |l::r,i,h,0,_=>by simp only[CO,Bool.and_eq_true]at h;exact h.1
 |l::r,i,h,k+1,hk=>by
  simp only[CO,Bool.and_eq_true]at h
  have:=F0 h.2 k (by simpa using hk)
  rw[show i+(k+1)=i+1+k by omega];exact this
theorem DB{g:List (List Int)}(h:Cw g=true)(c:Nat):(parentsF g c).length<=3 /\ ∀p∈parentsF g c,3<=p/\p<c:=by
 simp only[Cw,Bool.and_eq_true]at h
 unfold parentsF
 split
 ·simp
 ·rename_i hc
  by_cases hk:(((c:Int)-3).toNat)<g.length
  ·have:=F0 h.2 _ hk
   rw[List.getElem?_eq_getElem hk,Option.getD_some]
   simp only[ID,Bool.and_eq_true,decide_eq_true_eq]at this
   refine⟨this.1,fun p hp=>?_⟩
   have:=IE this.2 p hp
   omega
  ·rw[List.getElem?_eq_none (by omega)];simp
theorem HF{g:List (List Int)}(h:Cw g=true):g.length<=16:=by
 simp only[Cw,Bool.and_eq_true,decide_eq_true_eq]at h;exact h.1
def ordersN(g:List (List Int)):Nat->List (List Int)
 |0=>[]
 |n+1=>ordersN g n++[if n=0 then [0] else D3 (ordersN g n) n (parentsF g n)]
theorem C6(g:List (List Int)): ∀n,(ordersN g n).length=n
 |0=>rfl
 |n+1=>by rw[ordersN,List.length_append,C6 g n];rfl
theorem EK(os:List (List Int))(x:List Int){p:Int}(hp:0<=p):AG (os++[x]) p=if p=os.length then x else AG os p:=by
 unfold AG
 by_cases h:p.toNat<os.length
 ·rw[List.getElem?_append_left h,if_neg (by omega)]
 ·by_cases h2:p=os.length
  ·rw[if_pos h2,h2];simp
  ·rw[if_neg h2,List.getElem?_eq_none (by simp;omega),List.getElem?_eq_none (by omega)]
theorem Iv{os:List (List Int)}{M:Nat}: ∀{ps:List Int}{ls:List (List Int)},D4 os ps=some ls->(∀p∈ps,(AG os p).length<=M)->totL ls<=ps.length*M/\ls.length=ps.length
 |[],ls,h,_=>by simp only[D4,Option.some.injEq]at h;subst h;simp[totL]
 | p::r,ls,h,hM=>by
  rw[D4]at h
  split at h
  ·cases h
  ·cases hr:D4 os r with
   |none=>rw[hr]at h;cases h
   |some l2=>
    rw[hr]at h
    simp only[Option.map_some,Option.some.injEq]at h
    subst h
    obtain⟨h1,h2⟩:=Iv hr fun q hq=>hM q (List.mem_cons_of_mem _ hq)
    have h3:=hM p (List.mem_cons_self ..)
    have h4:((AG os p).filter fun x=> !decide (x=0)).length<=(AG os p).length:=List.length_filter_le ..
    simp only[totL,List.length_cons,Nat.add_mul]
    omega
theorem TT(a b:List (List Int)):totL (a++b)=totL a+totL b:=by
 induction a with
 |nil=>simp[totL]
 |cons x a ih=>simp only[List.cons_append,totL,ih];omega
theorem Hq{os:List (List Int)}{M:Nat}{ps:List Int}{ls:List (List Int)}(h:Cg os ps=some ls)(hM:∀p∈ps,(AG os p).length<=M):totL ls<=ps.length*M+ps.length/\ls.length=ps.length+1:=by
 unfold Cg at h
 cases hr:D4 os ps with
 |none=>rw[hr]at h;cases h
 |some l2=>
  rw[hr]at h
  simp only[Option.map_some,Option.some.injEq]at h
  subst h
  obtain⟨h1,h2⟩:=Iv hr hM
  rw[TT];simp[totL];omega
theorem G7{os:List (List Int)}{M:Nat}{c:Int}{ps:List Int}(hM:∀p∈ps,(AG os p).length<=M):(D3 os c ps).length<=ps.length*M+ps.length+2:=by
 unfold D3
 cases h:Cg os ps with
 |none=>simp
 |some ls=>
  have h1:=(Hq h hM).1
  have h2:=Fx ls
  simp only
  split
  ·simp only[List.length_append,List.length_cons,List.length_nil];omega
  ·simp
theorem G6{g:List (List Int)}(h:Cw g=true): ∀n, ∀p:Int,0<=p->(AG (ordersN g n) p).length+3<=5*3 ^ (n-4)
 |0,p,_=>by simp[ordersN,AG]
 | n+1,p,hp=>by
  have ih:=G6 h n
  have aH:5*3 ^ (n-4)<=5*3 ^ (n+1-4):=Nat.mul_le_mul_left _ (Nat.pow_le_pow_right (by decide) (by omega))
  have bB:1<=3 ^ (n+1-4):=Nat.one_le_pow _ _ (by decide)
  rw[ordersN,EK _ _ hp,C6]
  split
  ·split
   ·rw[List.length_singleton];omega
   ·obtain⟨g1,g2⟩:=DB h n
    by_cases hn:n<4
    ·have he:parentsF g n=[]:=by
      cases hq:parentsF g n with
      |nil=>rfl
      |cons q r=>have:=g2 q (by rw[hq];simp);omega
     have:=G7 (os:=ordersN g n) (M:=0) (c:=n) (ps:=parentsF g n) (by rw[he];simp)
     rw[he]at this⊢
     simp at this
     omega
    ·have:=G7 (os:=ordersN g n) (M:=5*3 ^ (n-4)-3) (c:=n) (ps:=parentsF g n) (fun q hq=>by have:=ih q (by have:=g2 q hq;omega);omega)
     have e:3 ^ (n+1-4)=3 ^ (n-4)*3:=by rw[show n+1-4=(n-4)+1 by omega,Nat.pow_succ]
     have hh:(parentsF g n).length*(5*3 ^ (n-4)-3)<=3*(5*3 ^ (n-4)-3):=Nat.mul_le_mul_right _ g1
     have bj:1<=3 ^ (n-4):=Nat.one_le_pow _ _ (by decide)
     rw[e];omega
  ·exact Nat.le_trans (ih p hp) aH
theorem Eg{g:List (List Int)}(h:Cw g=true){n:Nat}(hn:n<=3+g.length){p:Int}(hp:0<=p):(AG (ordersN g n) p).length<=80000000:=by
 have h1:=G6 h n p hp
 have h2:3 ^ (n-4)<=3 ^ 15:=Nat.pow_le_pow_right (by decide) (by have:=HF h;omega)
 have h3:(3:Nat) ^ 15=14348907:=by decide
 omega
theorem Pt(ig im:Nat)(a b:D)(om:List (Int×List Int))(O:Sig)(hg:O ig=some (.cells [a,b,.map im]))(hm:O im=some (.map (eIO om))):
  DCall prog 344 [.ptr ig 0,dI 0] O fun x U'=>x=.ret (.tup [])/\U'=O.set im (.map (eIO (putM 0 [0] om))):=by
 refine en func344 ntmps344 ?_
 refine gf (gi hg hm) ?_ o344
 refine rtl 14 (sl (cI [0])) ?_
 refine gf (gi hg hm) ?_ o344
 exact fin0 (U':=O.set im (.map (eIO (putM 0 [0] om)))) ⟨rfl,rfl⟩
theorem Ov(ps:List (List Int))(cs:List Int)(o o':Own)(O:Sig)(hb:Cw ps=false)(hl:ps.length<=1073741824:=by exact sd)(ag:∀x∈ps,x.length<=1073741824:=by exact sd)(hc:cs.length<=1073741824:=by exact sd):
  DCall prog 301 [.slice (cII ps) o,.slice (cI cs) o'] O (rS (.tup [.nilp,.bool false]) O):=by
 refine en func301 ntmps301 ?_
 repeat' first|refine gf hb ?_ o301|apply gy<;>intro hh
 any_goals (first|exact fe2 trivial|fail)
theorem Ou(ps:List (List Int))(cs:List Int)(o o':Own)(O:Sig)(hb:Cw ps=true)(hx:¬∀c∈cs,0<=c/\c<3+ps.length)(hl:ps.length<=1073741824:=by exact sd)(ag:∀x∈ps,x.length<=1073741824:=by exact sd)(hc:cs.length<=1073741824:=by exact sd):
  DCall prog 301 [.slice (cII ps) o,.slice (cI cs) o'] O (rS (.tup [.nilp,.bool false]) O):=by
 refine en func301 ntmps301 ?_
 refine gf hb ?_ o301
 refine CG [0,8,9,10,11,13,14,18,19,34,35,36,37,38,39,40,41,42,43,44,45,46,47,48,49,50,51,52,53,54,55,56,57,58,59,60,61,62,63,64,65,66,67,68,69,70,71,72,73,74,75,76,77,78,79,80,81,82,83,84,85,86,87,88,89,90,91,92,93,94,95,96,97,98,99,100,101,102,103] (fun (k:Nat)=>k<=cs.length /\ ∀c∈cs.take k,0<=c/\c<3+ps.length) (fun k=>[(20,dI k)]) (fun _=>O) (fun k=>cs.length-k) (0) (by simp) (fun k hI=>?_)
 obtain⟨hk,hI⟩:=hI
 by_cases h:k<cs.length
 ·repeat' first|refine gf hb ?_ o301|apply gy<;>intro hh
  ·exact fe2 trivial
  ·exact fe2 trivial
  ·have bL:∀c∈cs.take (k+1),0<=c/\c<3+ps.length:=fun c hc=>by
    rw[FY h]at hc
    rcases List.mem_append.1 hc with hc|hc
    ·exact hI c hc
    ·obtain rfl:=List.mem_singleton.1 hc;omega
   exact⟨k+1,⟨by omega,bL⟩,td1,wkR⟩
 ·exfalso
  rw[List.take_of_length_le (by omega)]at hI
  exact hx hI
def cU(us:List Int):List (List D):=us.map fun n=>[.int .u64 n]
@[simp] theorem cU_length(us:List Int):(cU us).length=us.length:=by simp[cU]
@[simp] theorem cU_all(l:List Int):(cU l).all (fun c=>c.length==1)=true:=by simp[cU]
theorem TC(a b:List Int):cU (a++b)=cU a++cU b:=by simp[cU]
@[simp] theorem cU_get(us:List Int)(k:Nat):(cU us)[k]? = (us[k]?).map fun n=>[.int .u64 n]:=by simp[cU]
theorem RU (ps:List (List Int)) (cs:List Int) (o o':Own) (O:Sig) (hb:Cw ps=true) (hx : ∀ c ∈ cs,0<=c/\c < 3+ps.length) (hl:ps.length<=1073741824:=by exact sd) (ag : ∀ x ∈ ps,x.length<=1073741824:=by exact sd) (hc:cs.length<=1073741824:=by exact sd) :
  DCall prog 301 [.slice (cII ps) o,.slice (cI cs) o'] O fun x U'=> ∃ig im a b om,ig≠im/\x=.ret (.tup [.ptr ig 0,.bool true])/\U'=(O.set im (.map (eIO om))).set ig (.cells [a,b,.map im])/\O ig=none/\O im=none /\ ∀p:Int,0<=p->getM [] p om=AG (ordersN ps (3+ps.length)) p:=by
 have hlen:=HF hb
 refine en func301 ntmps301 ?_
 refine gf hb ?_ o301 [40,11]
 refine CG [0,8,9,10,11,13,14,18,19,34,35,36,37,38,39,40,41,42,43,44,45,46,47,48,49,50,51,52,53,54,55,56,57,58,59,60,61,62,63,64,65,66,67,68,69,70,71,72,73,74,75,76,77,78,79,80,81,82,83,84,85,86,87,88,89,90,91,92,93,94,95,96,97,98,99,100,101,102,103] (fun (k:Nat)=>k<=cs.length) (fun k=>[(20,dI k)]) (fun _=>O) (fun k=>cs.length-k) (0) (by simp) (fun k hI=>?_)
 by_cases h:k<cs.length
 ·have bM:=hx _ (List.getElem_mem h)
  refine gf hb ?_ o301 [40,11]
  exact⟨k+1,by omega,td1,wkR⟩
 ·refine gf hb ?_ o301 [40,11]
  refine mmake (k:=3) (c:=3+ps.length) (z:=[.nils]) (sz:=1) (fun ir bY aX=>?_)
  obtain⟨st0,ap⟩:∃st0:MR,st0=some (ir,3+ps.length,(List.replicate (3+ps.length-3) [D.nils]).flatten):=⟨_,rfl⟩
  obtain⟨es0,ai⟩:∃es0,es0=List.replicate 3 [D.nils]:=⟨_,rfl⟩
  rw[<-ap,<-ai]at aX⊢
  have bD:mD st0 es0.length=.sref ir 0 3 (3+ps.length):=by rw[ap,ai];rfl
  have bI:es0.length=3:=by rw[ai];rfl
  refine newIO (fun im ax=>?_)
  obtain⟨e1,aK⟩:=Vr (o:=.map (eIO [])) aX ax
  have aZ:=QY ax
  rw[e1]
  refine go1 trivial ?_
  refine boxV (fun ig ay=>?_)
  obtain⟨e2,hm2⟩:=Vr (o:=.cells [.sref ir 0 3 (3+ps.length),.nils,.map im]) aK ay
  have ar:=QY ay
  have aU:ig≠im:=fun h=>by rw[h,w6]at ar;cases ar
  have bp:ig≠ir:=fun h=>by subst h;simp[mS,ap,w6]at ay
  rw[e2]
  have aM:=QZ hm2 (w6 ..)
  refine gf (gi bp aM) ?_ o301 [40,11]
  refine mapp (new:=cII ps) (sz:=1) (h1:=by exact bD.symm) (fun st aJ=>?_) hm2
  clear hm2 aK aX e1 e2 aM ay ax
  obtain⟨es1,ah⟩:∃es1,es1=es0++cII ps:=⟨_,rfl⟩
  have hN:es0.length+(cII ps).length=es1.length:=by rw[ah,List.length_append]
  have aO:es1.length=3+ps.length:=by rw[ah,List.length_append,bI];simp
  rw[<-ah]at aJ⊢
  rw[hN]
  obtain⟨i1,c1,aI⟩:∃i1 c1,mD st es1.length=.sref i1 0 es1.length c1:=by
   cases st with
   |none=>exact absurd (show es1=[] from aJ) (fun h=>by rw[h]at aO;simp at aO;omega)
   |some x=>exact⟨_,_,rfl⟩
  have aM:=QZ aJ (w6 ..)
  obtain⟨e3,aT⟩:=mS_put (o:=.cells [mD st es1.length,.nils,.map im]) aJ (w6 ..)
  rw[aI]at e3 aT⊢
  rw[w8]at e3 aT
  refine gf (gi bp (gi aM e3)) ?_ o301 [40,11]
  refine mfrC (i:=ig) [] [.nils,.map im] ?_ (by rw[aI];exact w6 ..) aT
  rw[w8]
  refine celW (i:=ig) [] [.nils,.map im] (.slice es1 .no) (.slice (cII ([]::[]::[]::ps)) .no) ?_ (w6 ..) (Jx _ ?_)
  rw[w8]
  simp only[List.nil_append]
  obtain⟨P,hP⟩:∃P,P=[]::[]::[]::ps:=⟨_,rfl⟩
  have aj:P.length=3+ps.length:=by rw[hP];simp;omega
  have bK:∀x∈P,x.length<=1073741824:=by rw[hP];simpa using ag
  have aG:∀c (hc:c<P.length),P[c]=parentsF ps c:=by
   intro c hc
   subst hP
   unfold parentsF
   rcases c with _|_|_|c
   ·rfl
   ·rfl
   ·rfl
   ·simp only[List.length_cons]at hc
    rw[if_neg (by omega),show((((c+1+1+1:Nat)):Int)-3).toNat=c by omega,List.getElem?_eq_getElem (by omega)];rfl
  rw[<-hP]
  refine gf aj ?_ o301 [40,11]
  refine Ci ig 1 1 (w6 ..) rfl fun iu bm=>?_
  obtain⟨bz,aN⟩:=B5 bm
  obtain⟨bx,bl⟩:=B5 aN
  clear aJ aT aM e3 hN bm aN
  have bc:ig≠iu:=fun e=>bz e.symm
  have bC:im≠iu:=fun e=>bx e.symm
  have ae:im≠ig:=fun e=>aU e.symm
  have bH:O ig=none:=(B5 ar).2
  have hS:Sub ((((O.set iu (.tail 1 0)).set im (.map (eIO []))).set ig (.cells [.slice (cII P) .no,.slice [] (.tag iu),.map im]))) ((((O.set im (.map (eIO []))).set ig (.cells [.slice (cII P) .no,.nils,.map im])).set iu (.tail 1 0)).set ig (.cells ([.slice (cII P) .no,.nils,.map im].set 1 (.slice [] (.tag iu))))):=by
   intro k x hk;simp only[Sig.set,List.set]at hk⊢; grind
  refine Di [4,5,8,14,53,54,91,92,93,94,95,96,97,98,99,100,101,102,103] (fun (c:Nat) (us:List Int)=>c<=P.length/\us.length=c) (fun c _=>[(55,dI c)]) (fun _ us=>((O.set iu (.tail 1 us.length)).set im (.map (eIO []))).set ig (.cells [.slice (cII P) .no,.slice (cU us) (.tag iu),.map im])) (fun c _=>P.length-c) (0) ([]) (by simp) (fun c us hI=>?_)
  obtain⟨bJ,bR⟩:=hI
  by_cases aQ:c<P.length
  ·have bN:=bK _ (List.getElem_mem aQ)
   have aS:=aG c aQ
   refine gf aj ?_ o301 [40,11]
   refine bldZ ?_
   refine gz ?_ o301 [40,11]
   refine A3 (M9 0 c _) (fun d U' hx=>?_) (fun d U' hx=>by obtain⟨⟨_,hx⟩,_⟩:=hx;cases hx)
   obtain⟨⟨n1,hx⟩,rfl⟩:=hx
   cases hx
   repeat' first|refine gz ?_ o301 [40,11]|apply gy<;>intro hh
   refine A3 (M9 n1 0 _) (fun d U' hx=>?_) (fun d U' hx=>by obtain⟨⟨_,hx⟩,_⟩:=hx;cases hx)
   obtain⟨⟨n2,hx⟩,rfl⟩:=hx
   cases hx
   repeat' first|refine gz ?_ o301 [40,11]|apply gy<;>intro hh
   simp only[putD]
   refine newV (fun ia bG=>?_)
   obtain⟨aD,ba⟩:=B5 bG
   obtain⟨aC,a8⟩:=B5 ba
   obtain⟨aB,bF⟩:=B5 a8
   have aA:ig≠ia:=fun e=>aD e.symm
   have aw:im≠ia:=fun e=>aC e.symm
   have au:iu≠ia:=fun e=>aB e.symm
   refine gf (gi aD (gi aC (gi aB (gi aA (gi aw au))))) ?_ o301 [40,11]
   refine Di [4,5,8,9,10,11,14,53,54,55,56,57,58,59,60,61,62,63,64,65,80,81,82,83,84,85,86,87,88,89,90,91,92,93,94,95,96,97,98,99,100,101,102,103] (fun (q:Nat) (n:Int)=>q<=(P[c]).length) (fun q _=>[(66,dI q)]) (fun _ n=>(((O.set iu (.tail 1 us.length)).set im (.map (eIO []))).set ig (.cells [.slice (cII P) .no,.slice (cU us) (.tag iu),.map im])).set ia (.cells [.int .u64 n])) (fun q _=>(P[c]).length-q) (0) (n2) (by simp) (fun q n hI=>?_)
   by_cases hq:q<(P[c]).length
   ·have hp:=(DB hb c).2 (P[c][q]) (by rw[<-aS];exact List.getElem_mem hq)
    obtain⟨p,bk⟩:∃p:Nat,P[c][q]=(p:Int):=⟨(P[c][q]).toNat,by omega⟩
    have bU:p<us.length:=by omega
    refine gf (gi aD (gi aC (gi aB (gi aA (gi aw (gi au bk)))))) ?_ o301 [40,11]
    refine Bx (RM n (us[p]) _) (fun d U' hx=>?_) (fun d U' hx=>by obtain⟨⟨_,hx⟩,_⟩:=hx;cases hx)
    obtain⟨⟨n3,hx⟩,rfl⟩:=hx
    cases hx
    refine⟨Sub.refl _,?_⟩
    simp only[putD]
    refine gf (gi aD (gi aC (gi aB (gi aA (gi aw au))))) ?_ o301 [40,11]
    exact⟨q+1,n3,by omega,td1,wkR⟩
   ·refine gf (gi aD (gi aC (gi aB (gi aA (gi aw au))))) ?_ (delO 20 o301) [40,11]
    refine EP (id:=20) [0,1,2,3,4,5,6,7,8,9] [7] (((O.set im (.map (eIO []))).set ig (.cells [.slice (cII P) .no,.slice (cU us) (.tag iu),.map im])).set ia (.cells [.int .u64 n])) ?_ ?_
    ·intro k x hk;simp only[Sig.set]at hk⊢; grind
    have aE:Sub (((O.set im (.map (eIO []))).set ig (.cells [.slice (cII P) .no,.slice (cU us) (.tag iu),.map im])).set ia (.cells [.int .u64 n])) (((((O.set iu (.tail 1 us.length)).set im (.map (eIO []))).set ig (.cells [.slice (cII P) .no,.slice (cU us) (.tag iu),.map im])).set ia (.cells [.int .u64 n])).set iu (.tail 1 (us.length+1))):=by
     intro k x hk;simp only[Sig.set]at hk⊢; grind
    iterate 7 refine go1 (And.intro bc (And.intro aA (And.intro aw au))) ?_
    refine moEffW (.slice (cU (us++[n])) (.tag iu)) ?_ (he:=by simp(disch:=first|omega|assumption) [w7];and_intros<;>first|rfl|omega) (hC:=aE) (hw:=Cq (by rw[TC];rfl))
    refine gf (gi aD (gi aC (gi aB (gi aA (gi aw (gi au bc)))))) ?_ (delO 20 o301) [40,11]
    have bh:Sub (((O.set iu (.tail 1 (us++[n]).length)).set im (.map (eIO []))).set ig (.cells [.slice (cII P) .no,.slice (cU (us++[n])) (.tag iu),.map im])) ((((((O.set iu (.tail 1 us.length)).set im (.map (eIO []))).set ig (.cells [.slice (cII P) .no,.slice (cU us) (.tag iu),.map im])).set ia (.cells [.int .u64 n])).set iu (.tail 1 (us.length+1))).set ig (.cells [.slice (cII P) .no,.slice (cU (us++[n])) (.tag iu),.map im])):=by
     intro k x hk;rw[List.length_append,List.length_singleton]at hk;simp only[Sig.set]at hk⊢; grind
    exact⟨c+1,(us++[n]),⟨by omega,by rw[List.length_append,List.length_singleton];omega⟩,td1,wkR⟩
  ·refine gf (gi aj (gi aU (gi bc (gi bC ae)))) ?_ o301 [40,11]
   generalize bw:D.slice (cU us) (.tag iu)=ups
   have bf:Sub ((O.set im (.map (eIO []))).set ig (.cells [.slice (cII P) .no,ups,.map im])) (((O.set iu (.tail 1 us.length)).set im (.map (eIO []))).set ig (.cells [.slice (cII P) .no,ups,.map im])):=by
    intro k x hk;simp only[Sig.set]at hk⊢; grind
   refine Di [4,5,8,95,103] (fun (c:Nat) (om:List (Int×List Int))=>c<=P.length /\ ∀p:Int,0<=p->getM [] p om=AG (ordersN ps c) p) (fun c _=>[(96,dI c)]) (fun _ om=>(O.set im (.map (eIO om))).set ig (.cells [.slice (cII P) .no,ups,.map im])) (fun c _=>P.length-c) (0) ([]) (by exact⟨by omega,fun p _=>by simp[getM,ordersN,AG]⟩) (fun c om hI=>?_)
   obtain⟨bJ,aq⟩:=hI
   by_cases aQ:c<P.length
   ·have bq:((O.set im (.map (eIO om))).set ig (.cells [.slice (cII P) .no,ups,.map im])) ig=some (.cells [.slice (cII P) .no,ups,.map im]):=w6 ..
    have aK:((O.set im (.map (eIO om))).set ig (.cells [.slice (cII P) .no,ups,.map im])) im=some (.map (eIO om)):=by rw[w7 _ _ ae,w6]
    rcases Nat.eq_zero_or_pos c with rfl|ca
    ·refine gf aj ?_ o301 [40,11]
     refine A3 (Pt ig im _ _ om _ bq aK) (fun d U' hx=>?_) (fun d U' hx=>by cases hx.1)
     obtain⟨hx,rfl⟩:=hx
     cases hx
     simp only[putD]
     refine gf aj ?_ o301 [40,11]
     have ak:Sub ((O.set im (.map (eIO (putM 0 [0] om)))).set ig (.cells [.slice (cII P) .no,ups,.map im])) (((O.set im (.map (eIO om))).set ig (.cells [.slice (cII P) .no,ups,.map im])).set im (.map (eIO (putM 0 [0] om)))):=by
      intro k x hk;simp only[Sig.set]at hk⊢; grind
     have aa:∀p:Int,0<=p->getM [] p (putM 0 [0] om)=AG (ordersN ps (0+1)) p:=fun p hp=>by
      rw[Em,ordersN,EK _ _ hp,aq p hp];rfl
     exact⟨0+1,putM 0 [0] om,⟨by omega,aa⟩,td1,wkR⟩
    ·have aS:P[c]=parentsF ps c:=aG c aQ
     have aF:=DB hb c
     rw[<-aS]at aF
     have hB:∀p:Int,0<=p->(AG (ordersN ps c) p).length<=80000000:=fun p hp=>Eg hb (by omega) hp
     have aP:=RL ig im P (ordersN ps c) ups om c .no ((O.set im (.map (eIO om))).set ig (.cells [.slice (cII P) .no,ups,.map im])) aU bq aK aQ (by omega) (by omega) (by omega)
      (fun p hp=>aq p (by have:=aF.2 p hp;omega)) (fun p hp=>by have:=hB p (by have:=aF.2 p hp;omega);omega)
      (fun ls aL=>by
       have h1:=Hq aL (fun p hp=>hB p (by have:=aF.2 p hp;omega))
       have h2:=aF.1
       have h3:(P[c]).length*80000000<=3*80000000:=Nat.mul_le_mul_right _ h2
       omega)
     refine gf aj ?_ o301 [40,11]
     refine A3 aP (fun d U' hx=>?_) (fun d U' hx=>by cases hx.1)
     obtain⟨hx,rfl⟩:=hx
     cases hx
     simp only[putD]
     have am:∀p:Int,0<=p->AG (ordersN ps (c+1)) p=if p=c then D3 (ordersN ps c) c P[c] else AG (ordersN ps c) p:=fun p hp=>by
      rw[ordersN,EK _ _ hp,C6,if_neg (by omega:¬c=0),<-aS]
     have ak:∀om',Sub ((O.set im (.map (eIO om'))).set ig (.cells [.slice (cII P) .no,ups,.map im])) (((O.set im (.map (eIO om))).set ig (.cells [.slice (cII P) .no,ups,.map im])).set im (.map (eIO om'))):=by
      intro om' k x hk;simp only[Sig.set]at hk⊢; grind
     by_cases he:D3 (ordersN ps c) c P[c]=[]
     ·rw[if_pos he]
      have aa:∀p:Int,0<=p->getM [] p om=AG (ordersN ps (c+1)) p:=fun p hp=>by
       rw[am p hp,aq p hp,he]
       split
       ·rename_i bk
        unfold AG;rw[List.getElem?_eq_none (by rw[C6];omega)];rfl
       ·rfl
      refine gf aj ?_ o301 [40,11]
      exact⟨c+1,om,⟨by omega,aa⟩,td1,wkR⟩
     ·rw[if_neg he]
      have aa:∀p:Int,0<=p->getM [] p (putM c (D3 (ordersN ps c) c P[c]) om)=AG (ordersN ps (c+1)) p:=fun p hp=>by
       rw[am p hp,Em,aq p hp]
      have be:=ak (putM c (D3 (ordersN ps c) c P[c]) om)
      refine gf aj ?_ o301 [40,11]
      exact⟨c+1,putM c (D3 (ordersN ps c) c P[c]) om,⟨by omega,aa⟩,td1,wkR⟩
   ·have bd:c=3+ps.length:=by omega
    subst bd
    refine gf aj ?_ o301 [40,11]
    exact fin2 (U':=(O.set im (.map (eIO om))).set ig (.cells [.slice (cII P) .no,ups,.map im])) ⟨ig,im,_,_,om,aU,rfl,rfl,bH,aZ,aq⟩
  rw[ah,ai]
  exact⟨⟨An _ (.inl rfl),trivial⟩,⟨An _ (.inl rfl),trivial⟩,⟨An _ (.inl rfl),trivial⟩,NN _⟩
def LR(g:List (List Int))(c:Int):List Int:=AG (ordersN g (3+g.length)) c
def linE(g:List (List Int))(c:Int):Int:=if Cw g=true/\0<=c/\c<3+g.length then(if LR g c=[] then 7 else 0) else 2
def linF(g:List (List Int))(c:Int):List Int:=if Cw g=true/\0<=c/\c<3+g.length then LR g c else []
theorem Sj(g:List (List Int))(c:Int)(o:Own)(O:Sig)(hl:g.length<=1073741824:=by exact sd)(ag:∀x∈g,x.length<=1073741824:=by exact sd):
  DCall prog 252 [.slice (cII g) o,dI c] O (rS (.tup [sl (cI (linF g c)),dI (linE g c)]) O):=by
 refine en func252 ntmps252 ?_
 by_cases hb:Cw g=true
 ·by_cases hc:0<=c/\c<3+g.length
  ·try refine gz ?_
   refine A3 (RU g [c] o .clip _ hb (by simpa using hc) hl ag (by simp)) (fun d U' hx=>?_) (fun d U' hx=>by obtain⟨_,_,_,_,_,_,hx,_⟩:=hx;cases hx)
   obtain⟨ig,im,a,b,om,hne,hx,rfl,ay,ax,aq⟩:=hx
   cases hx
   simp only[putD]
   have ae:im≠ig:=fun e=>hne e.symm
   have aE:Sub O ((O.set im (.map (eIO om))).set ig (.cells [a,b,.map im])):=((Sub.refl _).set ax).set ay
   have bX:(LR g c).length<=80000000:=Eg hb (by omega) hc.1
   have hL:getM [] c om=LR g c:=aq c hc.1
   try refine gf ae ?_
   refine lkO ?_ (hi:=by rw[w7 _ _ ae,w6])
   rw[hL]
   by_cases he:LR g c=[]
   ·try refine gf (gi ae he) ?_
    (refine fin2 (U':=O) (d':=sl []) ?_;exact⟨by first|rfl|(simp[linF,linE,hb,hc,he];done)|(simp_all [linF,linE,hb,hc,he];done)|(rw[Am,Bool.eq_iff_iff];simp_all [linF,linE,hb,hc,he]<;>omega),rfl⟩)
   ·repeat' first|refine gf ae ?_|apply gy<;>intro hh
    ·exfalso;exact he (by simpa using hh)
    ·refine lkO ?_ (hi:=by rw[w7 _ _ ae,w6])
     rw[hL]
     repeat' first|refine gf ae ?_|refine Ca (Gt (cI (LR g c)) .no _ (by simp;omega) (Cb _)) ?_|refine callP (Gt (cI (LR g c)) .no _ (by simp;omega) (Cb _)) ?_|refine gf ae ?_|apply gy<;>intro hh
     (refine fin2 (U':=O) ?_;exact⟨by first|rfl|(simp[linF,linE,hb,hc,he];done)|(simp_all [linF,linE,hb,hc,he];done)|(rw[Am,Bool.eq_iff_iff];simp_all [linF,linE,hb,hc,he]<;>omega),rfl⟩)
  ·repeat' first|refine gz ?_|refine Ca (Ou g [c] o .clip _ hb (by simpa using hc) hl ag (by simp)) ?_|refine callP (Ou g [c] o .clip _ hb (by simpa using hc) hl ag (by simp)) ?_|refine gz ?_|apply gy<;>intro hh
   (refine fin2 (U':=O) (d':=sl []) ?_;exact⟨by first|rfl|(simp[linF,linE,hb,hc];done)|(simp_all [linF,linE,hb,hc];done)|(rw[Am,Bool.eq_iff_iff];simp_all [linF,linE,hb,hc]<;>omega),rfl⟩)
 ·repeat' first|refine gz ?_|refine Ca (Ov g [c] o .clip _ (by simpa using hb) hl ag (by simp)) ?_|refine callP (Ov g [c] o .clip _ (by simpa using hb) hl ag (by simp)) ?_|refine gz ?_|apply gy<;>intro hh
  (refine fin2 (U':=O) (d':=sl []) ?_;exact⟨by first|rfl|(simp[linF,linE,hb];done)|(simp_all [linF,linE,hb];done)|(rw[Am,Bool.eq_iff_iff];simp_all [linF,linE,hb]<;>omega),rfl⟩)
@[reducible,instance] def a252:=fun g c o O=>ah2 (@Sj g c o O)
theorem JN: ∀(n:Nat) (ls:List (List Int)) (out:List Int) (y:Int),y∈(Ge n ls out).1->y∈out \/ ∃l∈ls,y∈l
 |0,_,_,y,h=>.inl h
 | n+1,ls,out,y,h=>by
  rw[Ge]at h
  cases hn:Ga ls false ls with
  | mk a s =>
   rw[hn]at h
   cases a with
   |none=>exact .inl h
   | some c =>
    obtain⟨e,he,bd⟩:=EM hn
    rcases JN n _ _ y h with h|⟨l,hl,hy⟩
    ·rcases List.mem_append.1 h with h|h
     ·exact .inl h
     ·rw[List.mem_singleton]at h;exact .inr ⟨e,he,h ▸ bd⟩
    ·obtain⟨l',bE,rfl⟩:=List.mem_map.1 hl
     exact .inr ⟨l',bE,(List.mem_filter.1 hy).1⟩
theorem JR{os:List (List Int)}: ∀{ps:List Int}{ls:List (List Int)},D4 os ps=some ls->∀l∈ls, ∃p∈ps,l=(AG os p).filter fun x=> !decide (x=0)
 |[],ls,h,l,hl=>by simp only[D4,Option.some.injEq]at h;subst h;cases hl
 | p::r,ls,h,l,hl=>by
  rw[D4]at h
  split at h
  ·cases h
  ·cases hr:D4 os r with
   |none=>rw[hr]at h;cases h
   | some l2 =>
    rw[hr]at h
    simp only[Option.map_some,Option.some.injEq]at h
    subst h
    rcases List.mem_cons.1 hl with rfl|hl
    ·exact⟨p,by simp,rfl⟩
    ·obtain⟨q,hq,e⟩:=JR hr l hl
     exact⟨q,List.mem_cons_of_mem _ hq,e⟩
theorem Nh{os:List (List Int)}{ps:List Int}{ls:List (List Int)}(h:Cg os ps=some ls): ∀l∈ls, ∀y∈l,(∃p∈ps,y∈AG os p)\/y∈ps:=by
 unfold Cg at h
 cases hr:D4 os ps with
 |none=>rw[hr]at h;cases h
 | some l2 =>
  rw[hr]at h
  simp only[Option.map_some,Option.some.injEq]at h
  subst h
  intro l hl y hy
  rcases List.mem_append.1 hl with hl|hl
  ·obtain⟨p,hp,rfl⟩:=JR hr l hl
   exact .inl ⟨p,hp,(List.mem_filter.1 hy).1⟩
  ·rw[List.mem_singleton]at hl;exact .inr (hl ▸ hy)
theorem Ii{os:List (List Int)}{p:Int}{y:Int}(h:y∈AG os p): ∃x∈os,y∈x:=by
 unfold AG at h
 cases hx:os[p.toNat]? with
 |none=>rw[hx]at h;cases h
 |some x=>rw[hx]at h;exact⟨x,List.mem_of_getElem? hx,h⟩
theorem Ih {g:List (List Int)} (hg:Cw g=true) : ∀ n, ∀ x ∈ ordersN g n, ∀ y ∈ x,0<=y/\y < (n:Int)
 |0,x,hx=>by cases hx
 | n+1,x,hx=>by
  have ih:=Ih hg n
  rw[ordersN]at hx
  intro y hy
  rcases List.mem_append.1 hx with hx|hx
  ·have:=ih x hx y hy;omega
  ·rw [List.mem_singleton] at hx
   subst hx
   split at hy
   ·rw[List.mem_singleton]at hy;omega
   ·unfold D3 at hy
    cases aL:Cg (ordersN g n) (parentsF g n)with
    |none=>rw[aL]at hy;cases hy
    | some ls =>
     rw[aL]at hy
     simp only at hy
     split at hy
     ·simp only[List.cons_append,List.mem_cons,List.mem_append,List.not_mem_nil,or_false]at hy
      rcases hy with rfl|hy|rfl
      ·omega
      ·rcases JN _ _ _ y hy with h|⟨l,hl,bu⟩
       ·cases h
       ·rcases Nh aL l hl y bu with⟨p,_,h⟩|h
        ·obtain⟨z,hz,h⟩:=Ii h;have:=ih z hz y h;omega
        ·have:=(DB hg n).2 y h;omega
      ·omega
     ·cases hy
def ownO:Option Nat->Own
 |none=>.clip
 |some i=>.tag i
def sgO(O:Sig)(n:Nat):Option Nat->Sig
 |none=>O
 |some i=>O.set i (.tail 1 n)
attribute [simp] C6
@[simp] theorem ownO_none:ownO none=.clip:=rfl
@[simp] theorem ownO_some(i:Nat):ownO (some i)=.tag i:=rfl
@[simp] theorem sgO_none(O:Sig)(n:Nat):sgO O n none=O:=rfl
@[simp] theorem sgO_some(O:Sig)(n i:Nat):sgO O n (some i)=O.set i (.tail 1 n):=rfl
def G3:Int->List Int->Option Int
 |n,[]=>some n
 |n,s::r=>if s=n then G3 (n+1) r else none
theorem Ans.of{f:Nat}{us:List D}{O:Sig}{d:D}(h:DCall prog f us O (rS d O)):Ans f us O True d:=⟨fun _=>h⟩
def Cr(f:Int->Int->List Int->Bool×List Int)(x:BNode)(size:Int):Nat->List Int->List Int->Bool×List Int
 |_,[],s=>(true,s)
 |j,c::r,s=>match f c (if x.op=9/\j=1 then size+1 else size) s with
  |(false,s')=>(false,s')
  |(true,s')=>Cr f x size (j+1) r s'
def A9(p:BProg)(n:Int):BNode:=(p.nodes[n.toNat]?).getD ⟨0,0,[]⟩
def DH(p:BProg)(inM:Bool):Nat->Int->Int->List Int->Bool×List Int
 |0,_,_,s=>(false,s)
 |k+1,node,size,s=>
  if node<0\/(p.nodes.length:Int)<=node\/0<=s.getD node.toNat 0 then(false,s) else
  if((A9 p node).kids.length:Int)≠CH p (A9 p node)\/CF p (A9 p node) size=false\/((A9 p node).op=18/\inM=false) then(false,s.set node.toNat size) else
  Cr (DH p inM k) (A9 p node) size 0 (A9 p node).kids (s.set node.toNat size)
theorem Sig.set_self(O:Sig){i:Nat}{o:DObj}(h:O i=some o):O.set i o=O:=by
 funext k;simp only[Sig.set];split
 ·rename_i e;rw[e,h]
 ·rfl
mutual
theorem Fact.size_le: ∀f:Fact,f.size<=f.wt
 |.mk o a p c n k=>by
  have:=Fact.sizes_le k
  rw[Fact.size,Fact.wt];omega
theorem Fact.sizes_le: ∀l:List Fact,Fact.sizes l<=Fact.wts l
 |[]=>Nat.le_refl _
 |f::l=>by
  have h1:=Fact.size_le f
  have h2:=Fact.sizes_le l
  rw[Fact.sizes,Fact.wts];omega
end
theorem Kh(s:List Int):(cI s).flatten=s.map dI:=by
 induction s with
 |nil=>rfl
 |cons x s ih=>rw[show cI (x::s)=[dI x]::cI s from rfl,List.flatten_cons,ih];rfl
end Go.DL
namespace Go.DL
open Go.Proofs.Tryz
open Go Go.Proofs
set_option maxHeartbeats 4000000
def idxF{α:Type}(q:α->Bool):List α->Nat->Int
 |[],_=> -1
 |x::r,k=>if q x then k else idxF q r (k+1)
theorem D7{α:Type}(q:α->Bool): ∀(l:List α) (k:Nat),decide (0<=idxF q l k)=l.any q
 |[],_=>rfl
 |x::r,k=>by
  rw[idxF,List.any_cons]
  cases hq:q x
  ·simp only[Bool.false_eq_true,if_false,Bool.false_or];exact D7 q r (k+1)
  ·simp
theorem Mf(l:List Int)(q:Int->Bool)(g:Nat)(cap:List D)(o:Own)(O:Sig)(hl:l.length<=1073741824)
  (hg:∀x∈l,DCall prog g ([]++[dI x]++cap) O fun r S''=>r=.ret (.bool (q x))/\S''=O) :
  DCall prog 230 [.slice (cI l) o,.func (.func g) [] cap] O (rS (dI (idxF q l 0)) O):=by
 refine en func230 ntmps230 ?_
 refine gz ?_
 refine CG [0,1,7] (fun (k:Nat)=>k<=l.length/\idxF q l 0=idxF q (l.drop k) k) (fun k=>[(8,dI k)]) (fun _=>O) (fun k=>l.length-k) (0) td3 (fun k hI=>?_)
 obtain⟨hk,hR⟩:=hI
 by_cases h:k<l.length
 ·rw[Ad h,idxF]at hR
  repeat' first|refine Ca (hg (l[k]) (List.getElem_mem h)) ?_|refine callP (hg (l[k]) (List.getElem_mem h)) ?_|refine gf h ?_|apply gy<;>intro hh
  ·exact fe1 hR
  ·exact⟨k+1,⟨by omega,by rw[hR,hh];rfl⟩,td1,wkR⟩
 ·refine gf h ?_
  (refine fin1 (U':=O) ?_;exact⟨by first|rfl|(simp[hR,Aj h,idxF];done)|(simp_all [hR,Aj h,idxF];done)|(rw[Am,Bool.eq_iff_iff];simp_all [hR,Aj h,idxF]<;>omega),rfl⟩)
theorem Mo(l:List Int)(q:Int->Bool)(g:Nat)(cap:List D)(o:Own)(O:Sig)(hl:l.length<=1073741824)
  (hg:∀x∈l,DCall prog g ([]++[dI x]++cap) O fun r S''=>r=.ret (.bool (q x))/\S''=O) :
  DCall prog 151 [.slice (cI l) o,.func (.func g) [] cap] O (rS (.bool (l.any q)) O):=by
 refine en func151 ntmps151 ?_
 repeat' first|refine gz ?_|refine Ca (Mf l q g cap o O hl hg) ?_|refine callP (Mf l q g cap o O hl hg) ?_|refine gz ?_|apply gy<;>intro hh
 (refine fin1 (U':=O) ?_;exact⟨by first|rfl|(simp[D7];done)|(simp_all [D7];done)|(rw[Am,Bool.eq_iff_iff];simp_all [D7]<;>omega),rfl⟩)
theorem Mc(i:Nat)(b:Bool)(O:Sig)(hi:O i=some (.cells [.bool b])):Ju prog 249 [.ptr i 0] O none O/\Ju prog 249 [.ptr i 0] O (some unf) (O.set i (.cells [.bool false])):=by
 constructor
 ·refine OD func249 rfl ntmps249 (by simp) (by decide) (by decide) rfl ?_
  simp only[Option.getD_none]
  repeat' first|refine gz ?_|apply gy<;>intro hh
  exact⟨.inl rfl,rfl,Sub.refl _⟩
 ·refine OD func249 rfl ntmps249 (by simp) (by decide) (by decide) rfl ?_
  simp only[Option.getD_some]
  repeat' first|refine gf hi ?_|apply gy<;>intro hh
  exact⟨.inl rfl,rfl,Sub.refl _⟩
theorem GN{O:Sig}{i:Nat}{o:DObj}:Sub (O.del i) (O.set i o):=fun j x h=>by
 by_cases hj:j=i
 ·subst hj;simp[Sig.del]at h
 ·rw[w7 _ _ hj];simpa[Sig.del,hj] using h
theorem SF(g:Nat)(cap:List D)(O:Sig)(R:Sig->DE->Sig->Prop)
  (hg:∀i,O i=none->DCall prog g cap (O.set i (.cells [.bool false])) (R (O.set i (.cells [.bool false]))))
  (hR:∀U' d S'',R U' (.panic d) S''->d=unf) (hk:∀i S'' x,O i=none->R (O.set i (.cells [.bool false])) x S''->S'' i=some (.cells [.bool false])) :
  DCall prog 194 [.func (.func g) [] cap] O fun x U'=> ∃i S'',O i=none/\U'=S''.del i /\
   ((∃d,R (O.set i (.cells [.bool false])) (.ret d) S''/\x=.ret (.bool true))\/(R (O.set i (.cells [.bool false])) (.panic unf) S''/\x=.ret (.bool false))):=by
 refine GH (fd:=249) func194 rfl (AI func249 (by rfl) (by rfl)) (by rw[Ab];decide) (by decide) ntmps194 (by simp) ?_
 refine gz ?_ [] [2]
 refine newV (fun i hi=>?_)
 refine gz ?_ [] [2]
 refine K9 (f:=249) (by rw[Ab];decide) rfl rfl ?_
 refine gz ?_ [] [2]
 refine A3 (hg i hi) (fun d U' hr=>?_) (fun d U' hp=>?_)
 ·have bb:=hk i U' _ hi hr
  refine gf bb ?_ [] [2]
  refine⟨_,Wk.refl _ _ _,[.ptr i 0],U'.set i (.cells [.bool true]),.bool true,rfl,(Mc i true _ (w6 ..)).1,Ce (ds:=[.bool true]) Ac ?_,.ret (.bool true),U'.del i,A8 _,GN,i,U',hi,rfl,.inl ⟨d,hr,rfl⟩⟩
  simp[resL]
 ·have bb:=hk i U' _ hi hp
  obtain rfl:=hR _ _ _ hp
  refine gz ?_ [] [2]
  refine⟨_,Wk.refl _ _ _,[.ptr i 0],U'.set i (.cells [.bool false]),.bool false,rfl,(Mc i false _ bb).2,Ce (ds:=[.bool false]) Ac ?_,.ret (.bool false),U'.del i,A8 _,GN,i,U',hi,rfl,.inr ⟨hp,rfl⟩⟩
  simp[resL]
end Go.DL
namespace Go.DL
open Go.Proofs.Tryz
open Go Go.Proofs
set_option maxHeartbeats 8000000
theorem Sm(g:List (List Int))(o:Own)(O:Sig)(hl:g.length<=1073741824:=by exact sd)(ag:∀x∈g,x.length<=1073741824:=by exact sd):
  DCall prog 251 [.slice (cII g) o] O (rS (dI (if Cw g then 0 else 2)) O):=by
 refine en func251 ntmps251 ?_
 cases h:Cw g with
 |false=>
  try refine gf h ?_
  exact fe1 trivial
 |true=>
  try refine gf h ?_
  exact fe1 trivial
@[reducible,instance] def a251:=fun g o O=>ah2 (@Sm g o O)
def C5:Int->List BClass->Option Int
 |n,[]=>some n
 |n,c::r=>if 4<c.slots.length then none else match G3 n c.slots with
  |none=>none
  |some m=>C5 m r
def DW(br:List Int):List Int->List Init->Bool
 |_,[]=>true
 |seen,x::r=>(decide (x.slot∈br)&&!decide (x.slot∈seen)&&inB x.n)&&DW br (seen++[x.slot]) r
def Bh(p:BProg):Nat->List BClass->Bool
 |_,[]=>true
 |i,c::r=>decide (linE (p.classes.map (·.parents)) ((i:Int)+3)=0)&&DW (hasP p ((i:Int)+3)) [] c.inits&&Bh p (i+1) r
def AA(p:BProg):Bool:=decide (p.classes.length<=10)&&match C5 0 p.classes with
 |none=>false
 |some n=>decide (n=p.slots)&&Cw (p.classes.map (·.parents))&&Bh p 0 p.classes
theorem Ek(cs:List BClass): ∀(n:Nat) (up out:List Int),(hasG cs n up out).length<=out.length+wtL (fun c:BClass=>c.slots.length) (cs.take n)
 |0,_,out=>by rw[hasG];omega
 | n+1,up,out=>by
  rw[hasG]
  by_cases h:n<cs.length
  ·rw[List.getElem?_eq_getElem h,Kn _ _ _ h]
   simp only
   split
   ·have:=Ek cs n (Ix (cs[n]).parents up) (out++(cs[n]).slots)
    rw[List.length_append]at this;omega
   ·have:=Ek cs n up out;omega
  ·rw[List.getElem?_eq_none (by omega)]
   have:=Ek cs n up out
   rw[List.take_of_length_le (by omega)]at this⊢
   exact this
theorem Ch(p:BProg)(c:Int):(hasP p c).length<=wtL (fun c:BClass=>c.slots.length) p.classes:=by
 unfold hasP
 have h1:=G1 (hasG p.classes (c-2).toNat [c] [])
 have h2:=Ek p.classes (c-2).toNat [c] []
 have h3:=FD (fun c:BClass=>c.slots.length) p.classes (c-2).toNat
 simp only[List.length_nil]at h2
 omega
theorem ins_new{k:Int}{s:List Int}(h:k∉s):ins k s=s++[k]:=by unfold ins;rw[if_neg h]
theorem SE (p:BProg) (O:Sig) (hp:p.wt<=1073741824:=by exact sd):DCall prog 196 [.agg (Ag p)] O fun x U'=>x=(if AA p then .ret (.tup []) else .panic unf)/\U'=O:=by
 obtain⟨p1,p2,p3,p4,p5,p6,p7⟩:=p.wt_le
 have ws:=E4 p
 have aR:∀c∈p.classes,c.parents.length<=1073741824/\c.slots.length<=1073741824/\c.inits.length<=1073741824:=fun c hc=>by
  obtain⟨k,hk,rfl⟩:=List.getElem_of_mem hc
  have:=p5 k hk
  have bO:(p.classes[k]).wt=1+(p.classes[k]).parents.length+(p.classes[k]).slots.length+(p.classes[k]).inits.length:=rfl
  omega
 have bP:∀c∈p.classes,c.parents.length<=1073741824:=fun c hc=>(aR c hc).1
 have bQ:∀x∈p.classes.map (·.parents),x.length<=1073741824:=fun x hx=>by obtain⟨c,hc,rfl⟩:=List.mem_map.1 hx;exact(aR c hc).1
 refine en func196 ntmps196 ?_
 by_cases bt:p.classes.length<=10
 ·repeat' first|refine gz ?_|apply gy<;>intro hh
  ·refine Di [1,7,8,9,10,11,12,13,15,22,23,48,49,50,51,52,53,54,55,56,57,58,59,60,61,62,63,64,65,66,67,68,69,70,71,72,73,74,75,76,77,78,79,80,81,82,83,84,85,86,87,88,89,90,91,92,93,94,95,96,97,98,99,100,101,102,103,104,105,106,107,108,109,110,111] (fun (i:Nat) (n:Int)=>i<=p.classes.length/\n=wtL (fun c:BClass=>c.slots.length) (p.classes.take i)/\C5 0 p.classes=C5 n (p.classes.drop i)) (fun i n=>[(24,dI i),(2,dI n)]) (fun _ _=>O) (fun i _=>p.classes.length-i) (0) (0) (by simp[wtL]) (fun i n hI=>?_)
   obtain⟨hi,hn,hR⟩:=hI
   by_cases h:i<p.classes.length
   ·have hx:=aR _ (List.getElem_mem h)
    have hT:=Kn (fun c:BClass=>c.slots.length) p.classes i h
    have ce:=FD (fun c:BClass=>c.slots.length) p.classes (i+1)
    rw[Ad h,C5]at hR
    by_cases h4:4<(p.classes[i]).slots.length
    ·have hc:C5 0 p.classes=none:=by rw[hR,if_pos h4]
     have hF:AA p=false:=by unfold AA;rw[hc];simp
     repeat' first|((with_reducible refine finP (U':=O) ?_);exact⟨by first|(simp[hF];done)|(simp_all [hF];done),rfl⟩)|refine gz ?_|apply gy<;>intro hh
    ·rw[if_neg h4]at hR
     generalize bA:(p.classes[i]).slots=sl' at*
     try refine gf bA ?_
     refine CG [1,4,7,8,9,10,11,12,13,15,22,23,24,25,26,27,28,29,30,31,32,33,34,35,47,48,49,50,51,52,53,54,55,56,57,58,59,60,61,62,63,64,65,66,67,68,69,70,71,72,73,74,75,76,77,78,79,80,81,82,83,84,85,86,87,88,89,90,91,92,93,94,95,96,97,98,99,100,101,102,103,104,105,106,107,108,109,110,111] (fun (q:Nat)=>q<=sl'.length/\G3 n sl'=G3 (n+q) (sl'.drop q)) (fun q=>[(36,dI q),(2,dI (n+q))]) (fun _=>O) (fun q=>sl'.length-q) (0) (by simp) (fun q hI=>?_)
     obtain⟨hq,hQ⟩:=hI
     by_cases bi:q<sl'.length
     ·rw[Ad bi,G3]at hQ
      have bS:=hx.2.1
      have bW:0<=n:=by omega
      have bV:n<=1073741824:=by omega
      by_cases aW:sl'[q]=n+q
      ·rw[if_pos aW]at hQ
       try refine gf aW ?_
       exact⟨q+1,⟨by omega,by rw[hQ,Int.add_assoc];rfl⟩,td1,wkR⟩
      ·rw[if_neg aW]at hQ
       have hc:C5 0 p.classes=none:=by rw[hR,hQ]
       have hF:AA p=false:=by unfold AA;rw[hc];simp
       repeat' first|((with_reducible refine finP (U':=O) ?_);exact⟨by first|(simp[hF];done)|(simp_all [hF];done),rfl⟩)|refine gz ?_|apply gy<;>intro hh
     ·rw[Aj bi,G3]at hQ
      rw[hQ]at hR
      have bT:q=sl'.length:=by omega
      try refine gz ?_
      exact⟨i+1,n+q,⟨by omega,by rw[hT];omega,hR⟩,td1,wkR⟩
   ·rw [Aj h,C5] at hR
    by_cases hs:n=p.slots
    ·cases hg:Cw (p.classes.map (·.parents))with
     |false=>
      have hF:AA p=false:=by unfold AA;rw[hR,hg];simp
      repeat' first|((with_reducible refine finP (U':=O) ?_);exact⟨by first|(simp[hF];done)|(simp_all [hF];done),rfl⟩)|refine gf hg ?_|apply gy<;>intro hh
     | true =>
      have aV:AA p=Bh p 0 p.classes:=by unfold AA;rw[hR];simp[hs,hg,bt]
      try refine gf hg ?_
      refine CG [1,7,61,62] (fun (j:Nat)=>j<=p.classes.length/\Bh p 0 p.classes=Bh p j (p.classes.drop j)) (fun j=>[(63,dI j)]) (fun _=>O) (fun j=>p.classes.length-j) (0) (by simp) (fun j hI=>?_)
      obtain⟨hj,hJ⟩:=hI
      by_cases h':j<p.classes.length
      ·have hx:=aR _ (List.getElem_mem h')
       have b8:=Ch p ((j:Int)+3)
       rw[Ad h',Bh]at hJ
       by_cases hl:linE (p.classes.map (·.parents)) ((j:Int)+3)=0
       ·rw[decide_eq_true hl,Bool.true_and]at hJ
        generalize bn:(p.classes[j]).inits=ins' at hJ hx
        try refine gf (gi bn hl) ?_
        refine newSI (fun im ax=>?_)
        try refine gf bn ?_
        refine CG [1,7,8,9,10,11,12,13,61,62,63,64,65,66,67,68,69,70,71,72,73,74,75,76,77,78,79,80,81,82,83,84,85,111] (fun (k:Nat)=>k<=ins'.length/\DW (hasP p ((j:Int)+3)) [] ins'=DW (hasP p ((j:Int)+3)) ((ins'.take k).map (·.slot)) (ins'.drop k)) (fun k=>[(86,dI k)]) (fun k=>O.set im (.map (eSI ((ins'.take k).map (·.slot))))) (fun k=>ins'.length-k) (0) (by simp) (fun k hI=>?_)
        obtain⟨hk,hK⟩:=hI
        by_cases aY:k<ins'.length
        ·have bZ:=hx.2.2
         rw[Ad aY,DW]at hK
         repeat' first|((with_reducible refine finP (U':=O) ?_);exact⟨by first|(simp[aV,hJ,hK];done)|(simp_all [aV,hJ,hK];done),rfl⟩)|refine gz ?_|apply gy<;>intro hh
         rename_i q1 q2
         have q3:¬ins'[k].slot∈(ins'.take k).map (·.slot):=by simpa using q2
         have q4:(ins'.take (k+1)).map (·.slot)=(ins'.take k).map (·.slot)++[ins'[k].slot]:=by rw[List.take_succ_eq_append_getElem aY,List.map_append];rfl
         have q5:=ins_new q3
         simp only[<-List.map_take,q5,<-q4]
         exact⟨k+1,by refine⟨by omega,?_⟩;rw[hK,hh,decide_eq_true q1,decide_eq_false q3,q4];rfl,td1,wkR⟩
        ·rw[Aj aY,DW]at hK
         rw[hK,Bool.true_and]at hJ
         try refine gz ?_
         exact⟨j+1,⟨by omega,hJ⟩,td1,wkR⟩
       ·rw[decide_eq_false hl,Bool.false_and,Bool.false_and]at hJ
        have hF:AA p=false:=by rw[aV,hJ]
        repeat' first|((with_reducible refine finP (U':=O) ?_);exact⟨by first|(simp[hF];done)|(simp_all [hF];done),rfl⟩)|refine gz ?_|apply gy<;>intro hh
      ·rw[Aj h',Bh]at hJ
       have hF:AA p=true:=by rw[aV,hJ]
       try refine gz ?_
       exact fe0 hF
    ·have hF:AA p=false:=by unfold AA;rw[hR];simp[hs]
     repeat' first|((with_reducible refine finP (U':=O) ?_);exact⟨by first|(simp[hF];done)|(simp_all [hF];done),rfl⟩)|refine gz ?_|apply gy<;>intro hh
 ·have hF:AA p=false:=by unfold AA;rw[decide_eq_false bt];rfl
  repeat' first|((with_reducible refine finP (U':=O) ?_);exact⟨by first|(simp[hF];done)|(simp_all [hF];done),rfl⟩)|refine gz ?_|apply gy<;>intro hh
@[reducible,instance] def a196:=fun p O=>gh1 (@SE p O)
theorem PV{x:Int}(h0:0<=x)(h1:x<18446744073709551616):IntKind.u64.wrap x=x:=by
 have e1:(2:Int) ^ IntKind.u64.bits=18446744073709551616:=by decide
 have e3:IntKind.u64.signed=false:=rfl
 simp only[IntKind.wrap,e1,e3,Bool.false_and,Bool.false_eq_true,if_false]
 omega
theorem andU(n:Nat)(h:n<=1073741824):binD .and (.int .u64 n) (.int .u64 4294967295)=some (.int .u64 n):=by
 simp only[binD,if_true]
 have e:((BitVec.ofInt IntKind.u64.bits (n:Int) &&& BitVec.ofInt IntKind.u64.bits 4294967295).toNat)=n:=by
  rw[BitVec.toNat_and]
  show(BitVec.ofInt 64 (n:Int)).toNat &&& (BitVec.ofInt 64 4294967295).toNat=n
  rw[show(4294967295:Int)=((2 ^ 32-1:Nat):Int) from rfl,BitVec.ofInt_natCast,BitVec.ofInt_natCast,BitVec.toNat_ofNat,BitVec.toNat_ofNat]
  rw[Nat.mod_eq_of_lt (by omega),Nat.mod_eq_of_lt (by omega),Nat.and_two_pow_sub_one_eq_mod,Nat.mod_eq_of_lt (by omega)]
 rw[e,PV (by omega) (by omega)]
theorem shrU(k:IntKind)(n:Nat)(h:n<=1073741824):binD .shr (.int .u64 n) (.int k 32)=some (.int .u64 0):=by
 simp only[binD]
 rw[if_pos (by decide)]
 congr 2
 show(n:Int).fdiv (2 ^ 32)=0
 rw[Int.fdiv_eq_ediv_of_nonneg _ (by decide)]
 omega
theorem RT(n:Nat)(O:Sig)(hn:n<=1073741824:=by exact sd):DCall prog 303 [.int .u64 1,.int .u64 n] O (rS (.tup [.int .u64 0,.int .u64 n]) O):=by
 have a1:binD .and (.int .u64 1) (.int .u64 4294967295)=some (.int .u64 1):=andU 1 (by omega)
 have a0:binD .and (.int .u64 0) (.int .u64 4294967295)=some (.int .u64 0):=andU 0 (by omega)
 have an:=andU n hn
 have s1:∀k,binD .shr (.int .u64 1) (.int k 32)=some (.int .u64 0):=fun k=>shrU k 1 (by omega)
 have s0:∀k,binD .shr (.int .u64 0) (.int k 32)=some (.int .u64 0):=fun k=>shrU k 0 (by omega)
 have sn:=fun k=>shrU k n hn
 have wn:IntKind.u64.wrap (n:Int)=n:=PV (by omega) (by omega)
 have w0:IntKind.u64.wrap 0=0:=PV (by omega) (by omega)
 refine en func303 ntmps303 ?_
 refine gf (gi a1 (gi a0 (gi an (gi s1 (gi s0 (gi sn (gi wn w0))))))) ?_
 exact fe2 trivial
@[reducible,instance] def a303:=fun n O=>ah1 (@RT n O)
theorem Sh(n:Nat)(O:Sig)(hn:n<=1073741824:=by exact sd):DCall prog 254 [.int .u64 1,.int .u64 n] O (rS (.tup [.int .u64 0,.int .u64 n]) O):=by
 refine en func254 ntmps254 ?_
 refine gz ?_
 exact fe2 trivial
@[reducible,instance] def a254:=fun n O=>ah1 (@Sh n O)
theorem SC(n:Nat)(O:Sig)(h1:1<=n)(hn:n<=1048576):DCall prog 198 [.slice [[dI (-1)]] .no,dI n] O fun x U'=> ∃r,O r=none/\x=.ret (.sref r 0 n n)/\U'=O.set r (.cells ((List.replicate n (-1:Int)).map dI)):=by
 have wn:IntKind.u64.wrap (n:Int)=n:=PV (by omega) (by omega)
 have w1:IntKind.u64.wrap 1=1:=PV (by omega) (by omega)
 refine en func198 ntmps198 ?_
 refine gf (gi wn w1) ?_ o198
 refine mmake (k:=n) (c:=n) (sz:=1) (z:=[dI 0]) (fun i hi hm=>?_)
 have e0:mS O (some (i,n,(List.replicate (n-n) [dI 0]).flatten)) (List.replicate n [dI 0])=O.set i (.cells (List.replicate n (dI 0))):=by simp[mS]
 rw[e0]
 refine gz ?_ o198
 refine Kb Ac (m:=1) (cs:=[dI (-1)]) (e:=3) (i:=i) (off:=0) (len:=n) (cap:=n) (ds:=List.replicate n (dI 0)) (by decide) (by simp<;>rfl) (by simp) (by simp) tdR (w6 ..) (by simp) (Qf (es:=[[dI (-1)]]) tdR (by simp)) (by rfl) ?_
 have e1:(O.set i (.cells (List.replicate n (dI 0)))).set i (.cells (List.take 0 (List.replicate n (dI 0))++(List.take (min 1 n) [dI (-1)]++List.drop (0+min 1 n) (List.replicate n (dI 0)))))=O.set i (.cells (List.replicate 1 (dI (-1))++List.replicate (n-1) (dI 0))):=by
  rw[w8,show min 1 n=1 by omega];simp
 rw[e1,show((min 1 n:Nat):Int)=1 by omega]
 refine gz ?_ o198
 refine CG [4,7,47] (fun (b:Nat)=>1<=b/\b<=n) (fun b=>[(8,dI b)]) (fun b=>O.set i (.cells (List.replicate b (dI (-1))++List.replicate (n-b) (dI 0)))) (fun b=>n-b) (1) (by omega) (fun b hI=>?_)
 obtain⟨cd,cb⟩:=hI
 by_cases h:b<n
 ·refine gz ?_
  refine Hy (id:=9) [0,1,2,3,4,5,6,7,8,9] [7] O ((Sub.refl _).set hi) ?_
  refine gz ?_ o198
  refine mo_cutL Ac (i:=i) (off:=0) (len:=n) (cap:=n) (lo:=b) (e:=3) (k:=.i64) ?_ (by decide) (by simp<;>rfl) (by simp) tdR tdR (by omega) (by omega)
  rw[show 0+b*(tab 3).size=b by simp]
  refine gz ?_ o198
  refine QO Ac (i:=i) (off:=0) (len:=n) (cap:=n) (hi:=b) (e:=3) (k:=.i64) ?_ (by decide) (by simp<;>rfl) (by simp) tdR tdR (by omega)
  refine mo1 (fun U2 hZ=>?_) rfl
  have v1:=hZ (.tmp 41) (by simp[Op.operands,Call.operands])
  have v2:=hZ (.tmp 44) (by simp[Op.operands,Call.operands])
  have b9:(List.replicate b (dI (-1))++List.replicate (n-b) (dI 0)).length=n:=by simp;omega
  refine Kb Ac (m:=b) (cs:=((List.replicate b (dI (-1))++List.replicate (n-b) (dI 0)).drop 0).take b) (e:=3) (i:=i) (off:=b) (len:=n-b) (cap:=n-b) (ds:=List.replicate b (dI (-1))++List.replicate (n-b) (dI 0)) (by decide) (by simp<;>rfl) (by simp) (by simp) (by rw[v1];with_unfolding_all rfl) (w6 ..) (by omega) (by rw[v2];exact U0 (off:=0) (w6 ..) (by omega)) (by simp[BC,D.flat]) ?_
  have e2:List.take b (List.replicate b (dI (-1))++List.replicate (n-b) (dI 0))++(List.take (min b (n-b)) (List.take b (List.drop 0 (List.replicate b (dI (-1))++List.replicate (n-b) (dI 0))))++List.drop (b+min b (n-b)) (List.replicate b (dI (-1))++List.replicate (n-b) (dI 0)))=List.replicate (b+min b (n-b)) (dI (-1))++List.replicate (n-(b+min b (n-b))) (dI 0):=by
   have t1:List.take b (List.replicate b (dI (-1))++List.replicate (n-b) (dI 0))=List.replicate b (dI (-1)):=by rw[List.take_append_of_le_length (by simp)];simp
   have t2:List.drop (b+min b (n-b)) (List.replicate b (dI (-1))++List.replicate (n-b) (dI 0))=List.replicate (n-(b+min b (n-b))) (dI 0):=by
    rw[List.drop_append,List.drop_of_length_le (by simp),List.nil_append,List.drop_replicate];congr 1;simp;omega
   rw[List.drop_zero,t1,t2,<-List.append_assoc]
   congr 1
   rw[List.take_replicate,List.replicate_append_replicate];congr 1;omega
  rw[w8,e2]
  refine Aw ⟨rfl,?_⟩
  refine⟨(Sub.refl _).set hi,?_⟩
  refine gz ?_ o198
  exact⟨b+min b (n-b),by omega,td1,wkR⟩
 ·have hb:b=n:=by omega
  subst hb
  refine gz ?_ o198
  refine fin1 (U':=O.set i (.cells ((List.replicate b (-1)).map dI))) ?_ (hU:=by simp;exact Sub.refl _)
  exact⟨i,hi,rfl,rfl⟩
end Go.DL
