/- A part of the proof. -/
import Derived.Test.YteldimffglchkaaGreatDoorQ12
set_option linter.all false
namespace Go.DL
open Go.Proofs.Tryz
open Go Go.Proofs
set_option maxHeartbeats 8000000
theorem FH(l:List (List Int))(o:Own)(O:Sig)(hl:l.length<=1073741824:=by exact sd)(ht:totL l<=1073741824:=by exact sd):
  DCall prog 369 [.slice (cII l) o] O (rS (.tup [sl (cI (BS l).1),.bool (BS l).2]) O):=by
 refine en func369 ntmps369 ?_
 refine gz ?_ o369
 refine Eg 4 1 (fun i hi=>?_)
 refine Ga [] (fun (n:Nat) (ls:List (List Int)) (out:List Int)=>totL ls<n/\out.length+totL ls<=1073741824/\ls.length=l.length/\Ev n ls out=BS l) (fun _ ls out=>[(0,.slice (cII ls) .no),(4,.slice (cI out) (.tag i))]) (fun _ _ out=>O.set i (.tail 1 out.length)) (fun n _ _=>n) (totL l+1) (l) ([]) (by exact⟨by omega,by simpa using ht,rfl,rfl⟩) (fun n ls out hI=>?_)
 obtain⟨b8,hlen,ac,hR⟩:=hI
 obtain⟨n,rfl⟩:∃m,n=m+1:=⟨n-1,by omega⟩
 have bw:∀x∈ls,x.length<=1073741824:=fun x hx=>by have:=L6 hx;omega
 rw[Ev]at hR
 refine gz ?_ o369
 refine BX [2,3,14,15,63,64,65] (fun (q:Nat) (s:Bool)=>q<=ls.length/\Eu ls false ls=Eu ls s (ls.drop q)) (fun q s=>[(5,.bool s),(16,dI q),(0,.slice (cII ls) .no),(4,.slice (cI out) (.tag i))]) (fun _ _=>O.set i (.tail 1 out.length)) (fun q _=>ls.length-q) (0) (false) (by simp) (fun q s hI=>?_)
 obtain⟨hq,hA⟩:=hI
 by_cases h:q<ls.length
 ·have hx:=bw _ (List.getElem_mem h)
  rw[A4 h]at hA
  rcases ah:ls[q]with _|⟨y,r⟩
  ·rw[ah,Eu]at hA
   refine gf ah ?_ o369
   exact⟨q+1,s,⟨by omega,hA⟩,td1,wkR⟩
  ·rw [ah,Eu] at hA
   rw[ah]at hx
   simp only[List.length_cons]at hx
   refine gf ah ?_ o369
   refine C1 [0,2,3,4,5,7,10,11,13,14,15,16,17,18,19,20,21,22,23,24,41,42,43,44,45,46,47,48,49,50,51,52,53,54,55,56,57,58,59,60,61,62,63,64,65] (fun (k:Nat)=>k<=ls.length/\FE (ls.take k) y=true) (fun k=>[(25,dI k)]) (fun _=>O.set i (.tail 1 out.length)) (fun k=>ls.length-k) (0) (by simp[FE]) (fun k hI=>?_)
   obtain⟨hk,hF⟩:=hI
   by_cases aK:k<ls.length
   ·have br:=bw _ (List.getElem_mem aK)
    have aa:FE (ls.take (k+1)) y=(FE (ls.take k) y&&!decide (y∈ls[k].tail)):=by
     unfold FE;rw[List.take_succ_eq_append_getElem aK,List.all_append];simp
    rcases ba:ls[k]with _|⟨z,t⟩
    ·rw[ba]at aa
     refine gf (gi ba ah) ?_ o369
     exact⟨k+1,⟨by omega,by rw[aa,hF];simp⟩,td1,wkR⟩
    ·rw[ba]at aa br
     simp only[List.length_cons]at br
     repeat' first|refine gf (gi ba ah) ?_ o369|apply gy<;>intro hh
     ·have b7:FE ls y=false:=by
       unfold FE
       rw[List.all_eq_false]
       refine⟨ls[k],List.getElem_mem aK,?_⟩
       rw[ba];simp[hh]
      rw[b7]at hA
      exact⟨q+1,true,⟨by omega,by simpa using hA⟩,td1,wkR⟩
     ·exact⟨k+1,⟨by omega,by rw[aa,hF];simp[hh]⟩,td1,wkR⟩
   ·have cf:k=ls.length:=by omega
    rw[cf,List.take_length]at hF
    rw[hF,if_pos rfl]at hA
    rw[hA]at hR
    replace hR:Ev n (ls.map fun l=>l.filter fun x=> !decide (x=y)) (out++[y])=BS l:=hR
    obtain⟨e,he,aN⟩:=Et hA
    have cJ:=L7 aN he
    refine gf ah ?_ o369
    refine Eg 11 1 (fun j hj=>?_)
    refine BX [0,2,3,4,5,7,9,10,14,15,16,17,18,19,20,21,22,23,24,25,26,27,28,29,30,31,32,33,34,35,36,37,38,39,40,41,42,43,44,45,46,47,48,49,61,62,63,64,65] (fun (m:Nat) (acc:List (List Int))=>m<=ls.length/\acc=(ls.take m).map fun l=>l.filter fun x=> !decide (x=y)) (fun m acc=>[(50,dI m),(11,.slice (cII acc) (.tag j))]) (fun _ acc=>(O.set i (.tail 1 (out.length+1))).set j (.tail 1 acc.length)) (fun m _=>ls.length-m) (0) ([]) (by simp) (fun m acc hI=>?_)
    obtain⟨hm,aB⟩:=hI
    have cR:acc.length=m:=by rw[aB];simp;omega
    by_cases h':m<ls.length
    ·have bE:=bw _ (List.getElem_mem h')
     repeat' first|refine gz ?_|refine B9 (Hd (ls[m]) (fun c=> !decide (c=y)) 386 [.cptr [dI y] 0] _ _ bE (fun x _ U' _=>Mu x y U')) ?_|refine callP (Hd (ls[m]) (fun c=> !decide (c=y)) 386 [.cptr [dI y] 0] _ _ bE (fun x _ U' _=>Mu x y U')) ?_|refine gz ?_ o369|apply gy<;>intro hh
     exact⟨m+1,acc++[(ls[m]).filter fun x=> !decide (x=y)],⟨by omega,by rw[aB,DH h',List.map_append];rfl⟩,td1,wkR⟩
    ·have bL:m=ls.length:=by omega
     rw[bL,List.take_length]at aB
     subst aB
     have ag:Sub (O.set i (.tail 1 (out++[y]).length)) ((O.set i (.tail 1 (out.length+1))).set j (.tail 1 (ls.map fun l=>l.filter fun x=> !decide (x=y)).length)):=by rw[List.length_append];exact(Sub.refl _).set (by assumption)
     refine gz ?_ o369
     exact⟨n,(ls.map fun l=>l.filter fun x=> !decide (x=y)),(out++[y]),⟨by omega,by rw[List.length_append,List.length_singleton];omega,by simpa using ac,hR⟩,td1,wkR⟩
 ·rw[A9 h,Eu]at hA
  rw[hA]at hR
  replace hR:BS l=(out, !s):=hR.symm
  refine gz ?_ o369
  exact fe2 (d':=sl (cI out)) hR
@[reducible,instance] def a369:=fun l o O=>ah2 (@FH l o O)
theorem H5: ∀(n:Nat) (ls:List (List Int)) (out:List Int),(Ev n ls out).1.length<=out.length+totL ls
 |0,_,_=>Nat.le_add_right _ _
 | n+1,ls,out=>by
  rw[Ev]
  cases h:Eu ls false ls with
  | mk a s =>
   cases a with
   |none=>exact Nat.le_add_right _ _
   |some c=>
    obtain⟨e,he,aN⟩:=Et h
    have h1:=L7 aN he
    have h2:=H5 n (ls.map fun l=>l.filter fun x=> !decide (x=c)) (out++[c])
    rw[List.length_append,List.length_singleton]at h2
    simp only
    omega
theorem Ee(ls:List (List Int)):(BS ls).1.length<=totL ls:=by
 exact Nat.le_trans (H5 (totL ls+1) ls []) (by simp)
def Bn(os:List (List Int))(c:Int)(ps:List Int):List Int:=
 match By os ps with
 |none=>[]
 |some ls=>if(BS ls).2 then c::(BS ls).1++[0] else []
theorem RP(ig im:Nat)(ps os:List (List Int))(ups:D)(om:List (Int×List Int))(c:Nat)(o:Own)(O:Sig)(hne:ig≠im)(hg:O ig=some (.cells [.slice (cII ps) o,ups,.map im]))(hm:O im=some (.map (eIO om)))(hc:c<ps.length)(cp:c≠0)
  (hl:ps.length<=1073741824) (aI:(ps[c]).length<=1073741824) (ho:∀p∈ps[c],getM [] p om=At os p) (ak:∀p∈ps[c],(At os p).length<=1073741824) (ht:∀ls,By os ps[c]=some ls->ls.length<=1073741824/\totL ls<=1073741824) :
  DCall prog 344 [.ptr ig 0,dI c] O fun x U'=>x=.ret (.tup [])/\U'=if Bn os c ps[c]=[] then O else O.set im (.map (eIO (putM c (Bn os c ps[c]) om))):=by
 have ap:¬(c:Int)=0:=by omega
 refine en func344 ntmps344 ?_
 cases ac:By os ps[c]with
 |none=>
  repeat' first|refine gf (gi ap (gi hg (gi hm ac))) ?_|refine B9 (Ex ig im ps os ups om c o O hg hm hc hl aI ho ak) ?_|refine callP (Ex ig im ps os ups om c o O hg hm hc hl aI ho ak) ?_|refine gf (gi ap (gi hg (gi hm ac))) ?_ o344|apply gy<;>intro hh
  exact fin0 (U':=O) ⟨rfl,by simp[Bn,ac]⟩
 | some ls =>
  obtain⟨h1,h2⟩:=ht ls ac
  have bt:(BS ls).1.length<=totL ls:=Ee ls
  by_cases aF:(BS ls).1=[]
  ·repeat' first|refine gf (gi ap (gi hg (gi hm ac))) ?_|refine B9 (Ex ig im ps os ups om c o O hg hm hc hl aI ho ak) ?_|refine callP (Ex ig im ps os ups om c o O hg hm hc hl aI ho ak) ?_|refine B9 (FH ls .no O h1 h2) ?_|refine callP (FH ls .no O h1 h2) ?_|refine gf (gi ap (gi hg (gi hm ac))) ?_ o344|apply gy<;>intro hh
   refine moApp0 ?_
   repeat' first|refine gz ?_ o344|apply gy<;>intro hh
   refine moAppCW (fun i hi=>?_)
   have bu:im≠i:=fun h=>by rw[h,hi]at hm;simp at hm
   refine rtl 39 (sl (cI [(c:Int),0])) ?_
   refine gf (gi hm bu) ?_ o344
   exact fin0 (U':=O.set im (.map (eIO (putM c [(c:Int),0] om)))) ⟨rfl,by rw[Bn,ac];simp[hh,aF]⟩ (Sub.both ((Sub.refl _).set hi))
   exact fin0 (U':=O) ⟨rfl,by rw[Bn,ac];simp[hh]⟩
  ·repeat' first|refine gf (gi ap (gi hg (gi hm ac))) ?_|refine B9 (Ex ig im ps os ups om c o O hg hm hc hl aI ho ak) ?_|refine callP (Ex ig im ps os ups om c o O hg hm hc hl aI ho ak) ?_|refine B9 (FH ls .no O h1 h2) ?_|refine callP (FH ls .no O h1 h2) ?_|refine gf (gi ap (gi hg (gi hm ac))) ?_ o344|apply gy<;>intro hh
   refine moAppC (fun i hi=>?_)
   have bu:im≠i:=fun h=>by rw[h,hi]at hm;simp at hm
   refine gz ?_ o344
   refine rtl 39 (sl (cI ((c:Int)::(BS ls).1++[0]))) ?_ (DF _ (by simp[cI]))
   refine gf (gi hm bu) ?_ o344
   exact fin0 (U':=O.set im (.map (eIO (putM c ((c:Int)::(BS ls).1++[0]) om)))) ⟨rfl,by rw[Bn,ac];simp[hh]⟩ (Sub.both ((Sub.refl _).set hi))
   exact fin0 (U':=O) ⟨rfl,by rw[Bn,ac];simp[hh]⟩
theorem Jd{i:Nat}: ∀{l seen:List Int},Dj i seen l=true->∀p∈l,3<=p/\p<3+i
 |[],_,_,p,hp=>by simp at hp
 |q::r,seen,h,p,hp=>by
  simp only[Dj,Bool.and_eq_true,decide_eq_true_eq]at h
  rcases List.mem_cons.1 hp with rfl|hp
  ·exact h.1.1
  ·exact Jd h.2 p hp
theorem FC: ∀{g:List (List Int)}{i:Nat},C7 i g=true->∀k (hk:k<g.length),HQ (i+k) g[k]=true
 |l::r,i,h,0,_=>by simp only[C7,Bool.and_eq_true]at h;exact h.1
 |l::r,i,h,k+1,hk=>by
  simp only[C7,Bool.and_eq_true]at h
  have:=FC h.2 k (by simpa using hk)
  rw[show i+(k+1)=i+1+k by omega];exact this
theorem BE{g:List (List Int)}(h:Bb g=true)(c:Nat):(parentsF g c).length<=3 /\ ∀p∈parentsF g c,3<=p/\p<c:=by
 simp only[Bb,Bool.and_eq_true]at h
 unfold parentsF
 split
 ·simp
 ·rename_i hc
  by_cases hk:(((c:Int)-3).toNat)<g.length
  ·have:=FC h.2 _ hk
   rw[List.getElem?_eq_getElem hk,Option.getD_some]
   simp only[HQ,Bool.and_eq_true,decide_eq_true_eq]at this
   refine⟨this.1,fun p hp=>?_⟩
   have:=Jd this.2 p hp
   omega
  ·rw[List.getElem?_eq_none (by omega)];simp
theorem Dv{g:List (List Int)}(h:Bb g=true):g.length<=16:=by
 simp only[Bb,Bool.and_eq_true,decide_eq_true_eq]at h;exact h.1
def ordersN(g:List (List Int)):Nat->List (List Int)
 |0=>[]
 |n+1=>ordersN g n++[if n=0 then [0] else Bn (ordersN g n) n (parentsF g n)]
theorem B6(g:List (List Int)): ∀n,(ordersN g n).length=n
 |0=>rfl
 |n+1=>by rw[ordersN,List.length_append,B6 g n];rfl
theorem Fm(os:List (List Int))(x:List Int){p:Int}(hp:0<=p):At (os++[x]) p=if p=os.length then x else At os p:=by
 unfold At
 by_cases h:p.toNat<os.length
 ·rw[List.getElem?_append_left h,if_neg (by omega)]
 ·by_cases h2:p=os.length
  ·rw[if_pos h2,h2];simp
  ·rw[if_neg h2,List.getElem?_eq_none (by simp;omega),List.getElem?_eq_none (by omega)]
theorem J4{os:List (List Int)}{M:Nat}: ∀{ps:List Int}{ls:List (List Int)},CH os ps=some ls->(∀p∈ps,(At os p).length<=M)->totL ls<=ps.length*M/\ls.length=ps.length
 |[],ls,h,_=>by simp only[CH,Option.some.injEq]at h;subst h;simp[totL]
 | p::r,ls,h,hM=>by
  rw[CH]at h
  split at h
  ·cases h
  ·cases hr:CH os r with
   |none=>rw[hr]at h;cases h
   |some l2=>
    rw[hr]at h
    simp only[Option.map_some,Option.some.injEq]at h
    subst h
    obtain⟨h1,h2⟩:=J4 hr fun q hq=>hM q (List.mem_cons_of_mem _ hq)
    have h3:=hM p (List.mem_cons_self ..)
    have h4:((At os p).filter fun x=> !decide (x=0)).length<=(At os p).length:=List.length_filter_le ..
    simp only[totL,List.length_cons,Nat.add_mul]
    omega
theorem Ub(a b:List (List Int)):totL (a++b)=totL a+totL b:=by
 induction a with
 |nil=>simp[totL]
 |cons x a ih=>simp only[List.cons_append,totL,ih];omega
theorem Fx{os:List (List Int)}{M:Nat}{ps:List Int}{ls:List (List Int)}(h:By os ps=some ls)(hM:∀p∈ps,(At os p).length<=M):totL ls<=ps.length*M+ps.length/\ls.length=ps.length+1:=by
 unfold By at h
 cases hr:CH os ps with
 |none=>rw[hr]at h;cases h
 |some l2=>
  rw[hr]at h
  simp only[Option.map_some,Option.some.injEq]at h
  subst h
  obtain⟨h1,h2⟩:=J4 hr hM
  rw[Ub];simp[totL];omega
theorem GZ{os:List (List Int)}{M:Nat}{c:Int}{ps:List Int}(hM:∀p∈ps,(At os p).length<=M):(Bn os c ps).length<=ps.length*M+ps.length+2:=by
 unfold Bn
 cases h:By os ps with
 |none=>simp
 |some ls=>
  have h1:=(Fx h hM).1
  have h2:=Ee ls
  simp only
  split
  ·simp only[List.length_append,List.length_cons,List.length_nil];omega
  ·simp
theorem GY{g:List (List Int)}(h:Bb g=true): ∀n, ∀p:Int,0<=p->(At (ordersN g n) p).length+3<=5*3 ^ (n-4)
 |0,p,_=>by simp[ordersN,At]
 | n+1,p,hp=>by
  have ih:=GY h n
  have bc:5*3 ^ (n-4)<=5*3 ^ (n+1-4):=Nat.mul_le_mul_left _ (Nat.pow_le_pow_right (by decide) (by omega))
  have bX:1<=3 ^ (n+1-4):=Nat.one_le_pow _ _ (by decide)
  rw[ordersN,Fm _ _ hp,B6]
  split
  ·split
   ·rw[List.length_singleton];omega
   ·obtain⟨g1,g2⟩:=BE h n
    by_cases hn:n<4
    ·have he:parentsF g n=[]:=by
      cases hq:parentsF g n with
      |nil=>rfl
      |cons q r=>have:=g2 q (by rw[hq];simp);omega
     have:=GZ (os:=ordersN g n) (M:=0) (c:=n) (ps:=parentsF g n) (by rw[he];simp)
     rw[he]at this⊢
     simp at this
     omega
    ·have:=GZ (os:=ordersN g n) (M:=5*3 ^ (n-4)-3) (c:=n) (ps:=parentsF g n) (fun q hq=>by have:=ih q (by have:=g2 q hq;omega);omega)
     have e:3 ^ (n+1-4)=3 ^ (n-4)*3:=by rw[show n+1-4=(n-4)+1 by omega,Nat.pow_succ]
     have hh:(parentsF g n).length*(5*3 ^ (n-4)-3)<=3*(5*3 ^ (n-4)-3):=Nat.mul_le_mul_right _ g1
     have bJ:1<=3 ^ (n-4):=Nat.one_le_pow _ _ (by decide)
     rw[e];omega
  ·exact Nat.le_trans (ih p hp) bc
theorem CO{g:List (List Int)}(h:Bb g=true){n:Nat}(hn:n<=3+g.length){p:Int}(hp:0<=p):(At (ordersN g n) p).length<=80000000:=by
 have h1:=GY h n p hp
 have h2:3 ^ (n-4)<=3 ^ 15:=Nat.pow_le_pow_right (by decide) (by have:=Dv h;omega)
 have h3:(3:Nat) ^ 15=14348907:=by decide
 omega
theorem PE(ig im:Nat)(a b:D)(om:List (Int×List Int))(O:Sig)(hg:O ig=some (.cells [a,b,.map im]))(hm:O im=some (.map (eIO om))):
  DCall prog 344 [.ptr ig 0,dI 0] O fun x U'=>x=.ret (.tup [])/\U'=O.set im (.map (eIO (putM 0 [0] om))):=by
 refine en func344 ntmps344 ?_
 refine gf (gi hg hm) ?_ o344
 refine rtl 14 (sl (cI [0])) ?_
 refine gf (gi hg hm) ?_ o344
 exact fin0 (U':=O.set im (.map (eIO (putM 0 [0] om)))) ⟨rfl,rfl⟩
theorem ON(ps:List (List Int))(cs:List Int)(o o':Own)(O:Sig)(hb:Bb ps=false)(hl:ps.length<=1073741824:=by exact sd)(aw:∀x∈ps,x.length<=1073741824:=by exact sd)(hc:cs.length<=1073741824:=by exact sd):
  DCall prog 301 [.slice (cII ps) o,.slice (cI cs) o'] O (rS (.tup [.nilp,.bool false]) O):=by
 refine en func301 ntmps301 ?_
 repeat' first|refine gf hb ?_ o301|apply gy<;>intro hh
 any_goals (first|exact fe2 trivial|fail)
theorem OM(ps:List (List Int))(cs:List Int)(o o':Own)(O:Sig)(hb:Bb ps=true)(hx:¬∀c∈cs,0<=c/\c<3+ps.length)(hl:ps.length<=1073741824:=by exact sd)(aw:∀x∈ps,x.length<=1073741824:=by exact sd)(hc:cs.length<=1073741824:=by exact sd):
  DCall prog 301 [.slice (cII ps) o,.slice (cI cs) o'] O (rS (.tup [.nilp,.bool false]) O):=by
 refine en func301 ntmps301 ?_
 refine gf hb ?_ o301
 refine C1 [0,8,9,10,11,13,14,18,19,34,35,36,37,38,39,40,41,42,43,44,45,46,47,48,49,50,51,52,53,54,55,56,57,58,59,60,61,62,63,64,65,66,67,68,69,70,71,72,73,74,75,76,77,78,79,80,81,82,83,84,85,86,87,88,89,90,91,92,93,94,95,96,97,98,99,100,101,102,103] (fun (k:Nat)=>k<=cs.length /\ ∀c∈cs.take k,0<=c/\c<3+ps.length) (fun k=>[(20,dI k)]) (fun _=>O) (fun k=>cs.length-k) (0) (by simp) (fun k hI=>?_)
 obtain⟨hk,hI⟩:=hI
 by_cases h:k<cs.length
 ·repeat' first|refine gf hb ?_ o301|apply gy<;>intro hh
  ·exact fe2 trivial
  ·exact fe2 trivial
  ·have cu:∀c∈cs.take (k+1),0<=c/\c<3+ps.length:=fun c hc=>by
    rw[DH h]at hc
    rcases List.mem_append.1 hc with hc|hc
    ·exact hI c hc
    ·obtain rfl:=List.mem_singleton.1 hc;omega
   exact⟨k+1,⟨by omega,cu⟩,td1,wkR⟩
 ·exfalso
  rw[List.take_of_length_le (by omega)]at hI
  exact hx hI
def cU(us:List Int):List (List D):=us.map fun n=>[.int .u64 n]
@[simp] theorem cU_length(us:List Int):(cU us).length=us.length:=by simp[cU]
@[simp] theorem cU_all(l:List Int):(cU l).all (fun c=>c.length==1)=true:=by simp[cU]
theorem TX(a b:List Int):cU (a++b)=cU a++cU b:=by simp[cU]
@[simp] theorem cU_get(us:List Int)(k:Nat):(cU us)[k]? = (us[k]?).map fun n=>[.int .u64 n]:=by simp[cU]
theorem Sc (ps:List (List Int)) (cs:List Int) (o o':Own) (O:Sig) (hb:Bb ps=true) (hx : ∀ c ∈ cs,0<=c/\c < 3+ps.length) (hl:ps.length<=1073741824:=by exact sd) (aw : ∀ x ∈ ps,x.length<=1073741824:=by exact sd) (hc:cs.length<=1073741824:=by exact sd) :
  DCall prog 301 [.slice (cII ps) o,.slice (cI cs) o'] O fun x U'=> ∃ig im a b om,ig≠im/\x=.ret (.tup [.ptr ig 0,.bool true])/\U'=(O.set im (.map (eIO om))).set ig (.cells [a,b,.map im])/\O ig=none/\O im=none /\ ∀p:Int,0<=p->getM [] p om=At (ordersN ps (3+ps.length)) p:=by
 have hlen:=Dv hb
 refine en func301 ntmps301 ?_
 refine gf hb ?_ o301 [40,11]
 refine C1 [0,8,9,10,11,13,14,18,19,34,35,36,37,38,39,40,41,42,43,44,45,46,47,48,49,50,51,52,53,54,55,56,57,58,59,60,61,62,63,64,65,66,67,68,69,70,71,72,73,74,75,76,77,78,79,80,81,82,83,84,85,86,87,88,89,90,91,92,93,94,95,96,97,98,99,100,101,102,103] (fun (k:Nat)=>k<=cs.length) (fun k=>[(20,dI k)]) (fun _=>O) (fun k=>cs.length-k) (0) (by simp) (fun k hI=>?_)
 by_cases h:k<cs.length
 ·have br:=hx _ (List.getElem_mem h)
  refine gf hb ?_ o301 [40,11]
  exact⟨k+1,by omega,td1,wkR⟩
 ·refine gf hb ?_ o301 [40,11]
  refine mmake (k:=3) (c:=3+ps.length) (z:=[.nils]) (sz:=1) (fun ir cK aF=>?_)
  obtain⟨st0,aH⟩:∃st0:MR,st0=some (ir,3+ps.length,(List.replicate (3+ps.length-3) [D.nils]).flatten):=⟨_,rfl⟩
  obtain⟨es0,aA⟩:∃es0,es0=List.replicate 3 [D.nils]:=⟨_,rfl⟩
  rw[<-aH,<-aA]at aF⊢
  have cb:mD st0 es0.length=.sref ir 0 3 (3+ps.length):=by rw[aH,aA];rfl
  have cn:es0.length=3:=by rw[aA];rfl
  refine newIO (fun im bj=>?_)
  obtain⟨e1,bf⟩:=VN (o:=.map (eIO [])) aF bj
  have bx:=R9 bj
  rw[e1]
  refine go1 trivial ?_
  refine boxV (fun ig aV=>?_)
  obtain⟨e2,hm2⟩:=VN (o:=.cells [.sref ir 0 3 (3+ps.length),.nils,.map im]) bf aV
  have aL:=R9 aV
  have bq:ig≠im:=fun h=>by rw[h,w6]at aL;cases aL
  have bQ:ig≠ir:=fun h=>by subst h;simp[mS,aH,w6]at aV
  rw[e2]
  have bh:=Ra hm2 (w6 ..)
  refine gf (gi bQ bh) ?_ o301 [40,11]
  refine mapp (new:=cII ps) (sz:=1) (h1:=by exact cb.symm) (fun st be=>?_) hm2
  clear hm2 bf aF e1 e2 bh aV bj
  obtain⟨es1,ay⟩:∃es1,es1=es0++cII ps:=⟨_,rfl⟩
  have hN:es0.length+(cII ps).length=es1.length:=by rw[ay,List.length_append]
  have bk:es1.length=3+ps.length:=by rw[ay,List.length_append,cn];simp
  rw[<-ay]at be⊢
  rw[hN]
  obtain⟨i1,c1,bd⟩:∃i1 c1,mD st es1.length=.sref i1 0 es1.length c1:=by
   cases st with
   |none=>exact absurd (show es1=[] from be) (fun h=>by rw[h]at bk;simp at bk;omega)
   |some x=>exact⟨_,_,rfl⟩
  have bh:=Ra be (w6 ..)
  obtain⟨e3,bp⟩:=mS_put (o:=.cells [mD st es1.length,.nils,.map im]) be (w6 ..)
  rw[bd]at e3 bp⊢
  rw[w8]at e3 bp
  refine gf (gi bQ (gi bh e3)) ?_ o301 [40,11]
  refine mfrC (i:=ig) [] [.nils,.map im] ?_ (by rw[bd];exact w6 ..) bp
  rw[w8]
  refine celW (i:=ig) [] [.nils,.map im] (.slice es1 .no) (.slice (cII ([]::[]::[]::ps)) .no) ?_ (w6 ..) (K5 _ ?_)
  rw[w8]
  simp only[List.nil_append]
  obtain⟨P,hP⟩:∃P,P=[]::[]::[]::ps:=⟨_,rfl⟩
  have aC:P.length=3+ps.length:=by rw[hP];simp;omega
  have cr:∀x∈P,x.length<=1073741824:=by rw[hP];simpa using aw
  have au:∀c (hc:c<P.length),P[c]=parentsF ps c:=by
   intro c hc
   subst hP
   unfold parentsF
   rcases c with _|_|_|c
   ·rfl
   ·rfl
   ·rfl
   ·simp only[List.length_cons]at hc
    rw[if_neg (by omega),show((((c+1+1+1:Nat)):Int)-3).toNat=c by omega,List.getElem?_eq_getElem (by omega)];rfl
  rw[<-hP]
  refine gf aC ?_ o301 [40,11]
  refine D2 ig 1 1 (w6 ..) rfl fun iu bO=>?_
  obtain⟨bW,bi⟩:=AP bO
  obtain⟨bV,bN⟩:=AP bi
  clear be bp bh e3 hN bO bi
  have bB:ig≠iu:=fun e=>bW e.symm
  have b9:im≠iu:=fun e=>bV e.symm
  have ar:im≠ig:=fun e=>bq e.symm
  have cm:O ig=none:=(AP aL).2
  have hS:Sub ((((O.set iu (.tail 1 0)).set im (.map (eIO []))).set ig (.cells [.slice (cII P) .no,.slice [] (.tag iu),.map im]))) ((((O.set im (.map (eIO []))).set ig (.cells [.slice (cII P) .no,.nils,.map im])).set iu (.tail 1 0)).set ig (.cells ([.slice (cII P) .no,.nils,.map im].set 1 (.slice [] (.tag iu))))):=by
   intro k x hk;simp only[Sig.set,List.set]at hk⊢; grind
  refine BX [4,5,8,14,53,54,91,92,93,94,95,96,97,98,99,100,101,102,103] (fun (c:Nat) (us:List Int)=>c<=P.length/\us.length=c) (fun c _=>[(55,dI c)]) (fun _ us=>((O.set iu (.tail 1 us.length)).set im (.map (eIO []))).set ig (.cells [.slice (cII P) .no,.slice (cU us) (.tag iu),.map im])) (fun c _=>P.length-c) (0) ([]) (by simp) (fun c us hI=>?_)
  obtain⟨co,cC⟩:=hI
  by_cases bm:c<P.length
  ·have cy:=cr _ (List.getElem_mem bm)
   have bn:=au c bm
   refine gf aC ?_ o301 [40,11]
   refine bldZ ?_
   refine gz ?_ o301 [40,11]
   refine A7 (Mw 0 c _) (fun d U' hx=>?_) (fun d U' hx=>by obtain⟨⟨_,hx⟩,_⟩:=hx;cases hx)
   obtain⟨⟨n1,hx⟩,rfl⟩:=hx
   cases hx
   repeat' first|refine gz ?_ o301 [40,11]|apply gy<;>intro hh
   refine A7 (Mw n1 0 _) (fun d U' hx=>?_) (fun d U' hx=>by obtain⟨⟨_,hx⟩,_⟩:=hx;cases hx)
   obtain⟨⟨n2,hx⟩,rfl⟩:=hx
   cases hx
   repeat' first|refine gz ?_ o301 [40,11]|apply gy<;>intro hh
   simp only[putD]
   refine newV (fun ia ci=>?_)
   obtain⟨aZ,bA⟩:=AP ci
   obtain⟨aY,bz⟩:=AP bA
   obtain⟨aX,cg⟩:=AP bz
   have aW:ig≠ia:=fun e=>aZ e.symm
   have aU:im≠ia:=fun e=>aY e.symm
   have aS:iu≠ia:=fun e=>aX e.symm
   refine gf (gi aZ (gi aY (gi aX (gi aW (gi aU aS))))) ?_ o301 [40,11]
   refine BX [4,5,8,9,10,11,14,53,54,55,56,57,58,59,60,61,62,63,64,65,80,81,82,83,84,85,86,87,88,89,90,91,92,93,94,95,96,97,98,99,100,101,102,103] (fun (q:Nat) (n:Int)=>q<=(P[c]).length) (fun q _=>[(66,dI q)]) (fun _ n=>(((O.set iu (.tail 1 us.length)).set im (.map (eIO []))).set ig (.cells [.slice (cII P) .no,.slice (cU us) (.tag iu),.map im])).set ia (.cells [.int .u64 n])) (fun q _=>(P[c]).length-q) (0) (n2) (by simp) (fun q n hI=>?_)
   by_cases hq:q<(P[c]).length
   ·have hp:=(BE hb c).2 (P[c][q]) (by rw[<-bn];exact List.getElem_mem hq)
    obtain⟨p,bb⟩:∃p:Nat,P[c][q]=(p:Int):=⟨(P[c][q]).toNat,by omega⟩
    have aI:p<us.length:=by omega
    refine gf (gi aZ (gi aY (gi aX (gi aW (gi aU (gi aS bb)))))) ?_ o301 [40,11]
    refine B2 (RQ n (us[p]) _) (fun d U' hx=>?_) (fun d U' hx=>by obtain⟨⟨_,hx⟩,_⟩:=hx;cases hx)
    obtain⟨⟨n3,hx⟩,rfl⟩:=hx
    cases hx
    refine⟨Sub.refl _,?_⟩
    simp only[putD]
    refine gf (gi aZ (gi aY (gi aX (gi aW (gi aU aS))))) ?_ o301 [40,11]
    exact⟨q+1,n3,by omega,td1,wkR⟩
   ·refine gf (gi aZ (gi aY (gi aX (gi aW (gi aU aS))))) ?_ (delO 20 o301) [40,11]
    refine Fs (id:=20) [0,1,2,3,4,5,6,7,8,9] [7] (((O.set im (.map (eIO []))).set ig (.cells [.slice (cII P) .no,.slice (cU us) (.tag iu),.map im])).set ia (.cells [.int .u64 n])) ?_ ?_
    ·intro k x hk;simp only[Sig.set]at hk⊢; grind
    have ag:Sub (((O.set im (.map (eIO []))).set ig (.cells [.slice (cII P) .no,.slice (cU us) (.tag iu),.map im])).set ia (.cells [.int .u64 n])) (((((O.set iu (.tail 1 us.length)).set im (.map (eIO []))).set ig (.cells [.slice (cII P) .no,.slice (cU us) (.tag iu),.map im])).set ia (.cells [.int .u64 n])).set iu (.tail 1 (us.length+1))):=by
     intro k x hk;simp only[Sig.set]at hk⊢; grind
    iterate 7 refine go1 (And.intro bB (And.intro aW (And.intro aU aS))) ?_
    refine moEffW (.slice (cU (us++[n])) (.tag iu)) ?_ (he:=by simp(disch:=first|omega|assumption) [w7];and_intros<;>first|rfl|omega) (hC:=ag) (hw:=C2 (by rw[TX];rfl))
    refine gf (gi aZ (gi aY (gi aX (gi aW (gi aU (gi aS bB)))))) ?_ (delO 20 o301) [40,11]
    have bH:Sub (((O.set iu (.tail 1 (us++[n]).length)).set im (.map (eIO []))).set ig (.cells [.slice (cII P) .no,.slice (cU (us++[n])) (.tag iu),.map im])) ((((((O.set iu (.tail 1 us.length)).set im (.map (eIO []))).set ig (.cells [.slice (cII P) .no,.slice (cU us) (.tag iu),.map im])).set ia (.cells [.int .u64 n])).set iu (.tail 1 (us.length+1))).set ig (.cells [.slice (cII P) .no,.slice (cU (us++[n])) (.tag iu),.map im])):=by
     intro k x hk;rw[List.length_append,List.length_singleton]at hk;simp only[Sig.set]at hk⊢; grind
    exact⟨c+1,(us++[n]),⟨by omega,by rw[List.length_append,List.length_singleton];omega⟩,td1,wkR⟩
  ·refine gf (gi aC (gi bq (gi bB (gi b9 ar)))) ?_ o301 [40,11]
   generalize bU:D.slice (cU us) (.tag iu)=ups
   have bG:Sub ((O.set im (.map (eIO []))).set ig (.cells [.slice (cII P) .no,ups,.map im])) (((O.set iu (.tail 1 us.length)).set im (.map (eIO []))).set ig (.cells [.slice (cII P) .no,ups,.map im])):=by
    intro k x hk;simp only[Sig.set]at hk⊢; grind
   refine BX [4,5,8,95,103] (fun (c:Nat) (om:List (Int×List Int))=>c<=P.length /\ ∀p:Int,0<=p->getM [] p om=At (ordersN ps c) p) (fun c _=>[(96,dI c)]) (fun _ om=>(O.set im (.map (eIO om))).set ig (.cells [.slice (cII P) .no,ups,.map im])) (fun c _=>P.length-c) (0) ([]) (by exact⟨by omega,fun p _=>by simp[getM,ordersN,At]⟩) (fun c om hI=>?_)
   obtain⟨co,aJ⟩:=hI
   by_cases bm:c<P.length
   ·have bR:((O.set im (.map (eIO om))).set ig (.cells [.slice (cII P) .no,ups,.map im])) ig=some (.cells [.slice (cII P) .no,ups,.map im]):=w6 ..
    have bf:((O.set im (.map (eIO om))).set ig (.cells [.slice (cII P) .no,ups,.map im])) im=some (.map (eIO om)):=by rw[w7 _ _ ar,w6]
    rcases Nat.eq_zero_or_pos c with rfl|cp
    ·refine gf aC ?_ o301 [40,11]
     refine A7 (PE ig im _ _ om _ bR bf) (fun d U' hx=>?_) (fun d U' hx=>by cases hx.1)
     obtain⟨hx,rfl⟩:=hx
     cases hx
     simp only[putD]
     refine gf aC ?_ o301 [40,11]
     have aE:Sub ((O.set im (.map (eIO (putM 0 [0] om)))).set ig (.cells [.slice (cII P) .no,ups,.map im])) (((O.set im (.map (eIO om))).set ig (.cells [.slice (cII P) .no,ups,.map im])).set im (.map (eIO (putM 0 [0] om)))):=by
      intro k x hk;simp only[Sig.set]at hk⊢; grind
     have aq:∀p:Int,0<=p->getM [] p (putM 0 [0] om)=At (ordersN ps (0+1)) p:=fun p hp=>by
      rw[EU,ordersN,Fm _ _ hp,aJ p hp];rfl
     exact⟨0+1,putM 0 [0] om,⟨by omega,aq⟩,td1,wkR⟩
    ·have bn:P[c]=parentsF ps c:=au c bm
     have aj:=BE hb c
     rw[<-bn]at aj
     have hB:∀p:Int,0<=p->(At (ordersN ps c) p).length<=80000000:=fun p hp=>CO hb (by omega) hp
     have bl:=RP ig im P (ordersN ps c) ups om c .no ((O.set im (.map (eIO om))).set ig (.cells [.slice (cII P) .no,ups,.map im])) bq bR bf bm (by omega) (by omega) (by omega)
      (fun p hp=>aJ p (by have:=aj.2 p hp;omega)) (fun p hp=>by have:=hB p (by have:=aj.2 p hp;omega);omega)
      (fun ls ac=>by
       have h1:=Fx ac (fun p hp=>hB p (by have:=aj.2 p hp;omega))
       have h2:=aj.1
       have h3:(P[c]).length*80000000<=3*80000000:=Nat.mul_le_mul_right _ h2
       omega)
     refine gf aC ?_ o301 [40,11]
     refine A7 bl (fun d U' hx=>?_) (fun d U' hx=>by cases hx.1)
     obtain⟨hx,rfl⟩:=hx
     cases hx
     simp only[putD]
     have aa:∀p:Int,0<=p->At (ordersN ps (c+1)) p=if p=c then Bn (ordersN ps c) c P[c] else At (ordersN ps c) p:=fun p hp=>by
      rw[ordersN,Fm _ _ hp,B6,if_neg (by omega:¬c=0),<-bn]
     have aE:∀om',Sub ((O.set im (.map (eIO om'))).set ig (.cells [.slice (cII P) .no,ups,.map im])) (((O.set im (.map (eIO om))).set ig (.cells [.slice (cII P) .no,ups,.map im])).set im (.map (eIO om'))):=by
      intro om' k x hk;simp only[Sig.set]at hk⊢; grind
     by_cases he:Bn (ordersN ps c) c P[c]=[]
     ·rw[if_pos he]
      have aq:∀p:Int,0<=p->getM [] p om=At (ordersN ps (c+1)) p:=fun p hp=>by
       rw[aa p hp,aJ p hp,he]
       split
       ·rename_i bb
        unfold At;rw[List.getElem?_eq_none (by rw[B6];omega)];rfl
       ·rfl
      refine gf aC ?_ o301 [40,11]
      exact⟨c+1,om,⟨by omega,aq⟩,td1,wkR⟩
     ·rw[if_neg he]
      have aq:∀p:Int,0<=p->getM [] p (putM c (Bn (ordersN ps c) c P[c]) om)=At (ordersN ps (c+1)) p:=fun p hp=>by
       rw[aa p hp,EU,aJ p hp]
      have bF:=aE (putM c (Bn (ordersN ps c) c P[c]) om)
      refine gf aC ?_ o301 [40,11]
      exact⟨c+1,putM c (Bn (ordersN ps c) c P[c]) om,⟨by omega,aq⟩,td1,wkR⟩
   ·have aN:c=3+ps.length:=by omega
    subst aN
    refine gf aC ?_ o301 [40,11]
    exact fin2 (U':=(O.set im (.map (eIO om))).set ig (.cells [.slice (cII P) .no,ups,.map im])) ⟨ig,im,_,_,om,bq,rfl,rfl,cm,bx,aJ⟩
  rw[ay,aA]
  exact⟨⟨Ak _ (.inl rfl),trivial⟩,⟨Ak _ (.inl rfl),trivial⟩,⟨Ak _ (.inl rfl),trivial⟩,O2 _⟩
def Fy(g:List (List Int))(c:Int):List Int:=At (ordersN g (3+g.length)) c
def linE(g:List (List Int))(c:Int):Int:=if Bb g=true/\0<=c/\c<3+g.length then(if Fy g c=[] then 7 else 0) else 2
def linF(g:List (List Int))(c:Int):List Int:=if Bb g=true/\0<=c/\c<3+g.length then Fy g c else []
theorem Sw(g:List (List Int))(c:Int)(o:Own)(O:Sig)(hl:g.length<=1073741824:=by exact sd)(aw:∀x∈g,x.length<=1073741824:=by exact sd):
  DCall prog 252 [.slice (cII g) o,dI c] O (rS (.tup [sl (cI (linF g c)),dI (linE g c)]) O):=by
 refine en func252 ntmps252 ?_
 by_cases hb:Bb g=true
 ·by_cases hc:0<=c/\c<3+g.length
  ·try refine gz ?_
   refine A7 (Sc g [c] o .clip _ hb (by simpa using hc) hl aw (by simp)) (fun d U' hx=>?_) (fun d U' hx=>by obtain⟨_,_,_,_,_,_,hx,_⟩:=hx;cases hx)
   obtain⟨ig,im,a,b,om,hne,hx,rfl,aV,bj,aJ⟩:=hx
   cases hx
   simp only[putD]
   have ar:im≠ig:=fun e=>hne e.symm
   have ag:Sub O ((O.set im (.map (eIO om))).set ig (.cells [a,b,.map im])):=((Sub.refl _).set bj).set aV
   have cd:(Fy g c).length<=80000000:=CO hb (by omega) hc.1
   have hL:getM [] c om=Fy g c:=aJ c hc.1
   try refine gf ar ?_
   refine lkO ?_ (hi:=by rw[w7 _ _ ar,w6])
   rw[hL]
   by_cases he:Fy g c=[]
   ·try refine gf (gi ar he) ?_
    (refine fin2 (U':=O) (d':=sl []) ?_;exact⟨by first|rfl|(simp[linF,linE,hb,hc,he];done)|(simp_all [linF,linE,hb,hc,he];done)|(rw[Ad,Bool.eq_iff_iff];simp_all [linF,linE,hb,hc,he]<;>omega),rfl⟩)
   ·repeat' first|refine gf ar ?_|apply gy<;>intro hh
    ·exfalso;exact he (by simpa using hh)
    ·refine lkO ?_ (hi:=by rw[w7 _ _ ar,w6])
     rw[hL]
     repeat' first|refine gf ar ?_|refine B9 (He (cI (Fy g c)) .no _ (by simp;omega) (Ba _)) ?_|refine callP (He (cI (Fy g c)) .no _ (by simp;omega) (Ba _)) ?_|refine gf ar ?_|apply gy<;>intro hh
     (refine fin2 (U':=O) ?_;exact⟨by first|rfl|(simp[linF,linE,hb,hc,he];done)|(simp_all [linF,linE,hb,hc,he];done)|(rw[Ad,Bool.eq_iff_iff];simp_all [linF,linE,hb,hc,he]<;>omega),rfl⟩)
  ·repeat' first|refine gz ?_|refine B9 (OM g [c] o .clip _ hb (by simpa using hc) hl aw (by simp)) ?_|refine callP (OM g [c] o .clip _ hb (by simpa using hc) hl aw (by simp)) ?_|refine gz ?_|apply gy<;>intro hh
   (refine fin2 (U':=O) (d':=sl []) ?_;exact⟨by first|rfl|(simp[linF,linE,hb,hc];done)|(simp_all [linF,linE,hb,hc];done)|(rw[Ad,Bool.eq_iff_iff];simp_all [linF,linE,hb,hc]<;>omega),rfl⟩)
 ·repeat' first|refine gz ?_|refine B9 (ON g [c] o .clip _ (by simpa using hb) hl aw (by simp)) ?_|refine callP (ON g [c] o .clip _ (by simpa using hb) hl aw (by simp)) ?_|refine gz ?_|apply gy<;>intro hh
  (refine fin2 (U':=O) (d':=sl []) ?_;exact⟨by first|rfl|(simp[linF,linE,hb];done)|(simp_all [linF,linE,hb];done)|(rw[Ad,Bool.eq_iff_iff];simp_all [linF,linE,hb]<;>omega),rfl⟩)
@[reducible,instance] def a252:=fun g c o O=>ah2 (@Sw g c o O)
theorem Km: ∀(n:Nat) (ls:List (List Int)) (out:List Int) (y:Int),y∈(Ev n ls out).1->y∈out \/ ∃l∈ls,y∈l
 |0,_,_,y,h=>.inl h
 | n+1,ls,out,y,h=>by
  rw[Ev]at h
  cases hn:Eu ls false ls with
  | mk a s =>
   rw[hn]at h
   cases a with
   |none=>exact .inl h
   | some c =>
    obtain⟨e,he,aN⟩:=Et hn
    rcases Km n _ _ y h with h|⟨l,hl,hy⟩
    ·rcases List.mem_append.1 h with h|h
     ·exact .inl h
     ·rw[List.mem_singleton]at h;exact .inr ⟨e,he,h ▸ aN⟩
    ·obtain⟨l',ce,rfl⟩:=List.mem_map.1 hl
     exact .inr ⟨l',ce,(List.mem_filter.1 hy).1⟩
theorem Ks{os:List (List Int)}: ∀{ps:List Int}{ls:List (List Int)},CH os ps=some ls->∀l∈ls, ∃p∈ps,l=(At os p).filter fun x=> !decide (x=0)
 |[],ls,h,l,hl=>by simp only[CH,Option.some.injEq]at h;subst h;cases hl
 | p::r,ls,h,l,hl=>by
  rw[CH]at h
  split at h
  ·cases h
  ·cases hr:CH os r with
   |none=>rw[hr]at h;cases h
   | some l2 =>
    rw[hr]at h
    simp only[Option.map_some,Option.some.injEq]at h
    subst h
    rcases List.mem_cons.1 hl with rfl|hl
    ·exact⟨p,by simp,rfl⟩
    ·obtain⟨q,hq,e⟩:=Ks hr l hl
     exact⟨q,List.mem_cons_of_mem _ hq,e⟩
theorem J3{os:List (List Int)}{ps:List Int}{ls:List (List Int)}(h:By os ps=some ls): ∀l∈ls, ∀y∈l,(∃p∈ps,y∈At os p)\/y∈ps:=by
 unfold By at h
 cases hr:CH os ps with
 |none=>rw[hr]at h;cases h
 | some l2 =>
  rw[hr]at h
  simp only[Option.map_some,Option.some.injEq]at h
  subst h
  intro l hl y hy
  rcases List.mem_append.1 hl with hl|hl
  ·obtain⟨p,hp,rfl⟩:=Ks hr l hl
   exact .inl ⟨p,hp,(List.mem_filter.1 hy).1⟩
  ·rw[List.mem_singleton]at hl;exact .inr (hl ▸ hy)
theorem Gz{os:List (List Int)}{p:Int}{y:Int}(h:y∈At os p): ∃x∈os,y∈x:=by
 unfold At at h
 cases hx:os[p.toNat]? with
 |none=>rw[hx]at h;cases h
 |some x=>rw[hx]at h;exact⟨x,List.mem_of_getElem? hx,h⟩
theorem Gy {g:List (List Int)} (hg:Bb g=true) : ∀ n, ∀ x ∈ ordersN g n, ∀ y ∈ x,0<=y/\y < (n:Int)
 |0,x,hx=>by cases hx
 | n+1,x,hx=>by
  have ih:=Gy hg n
  rw[ordersN]at hx
  intro y hy
  rcases List.mem_append.1 hx with hx|hx
  ·have:=ih x hx y hy;omega
  ·rw [List.mem_singleton] at hx
   subst hx
   split at hy
   ·rw[List.mem_singleton]at hy;omega
   ·unfold Bn at hy
    cases ac:By (ordersN g n) (parentsF g n)with
    |none=>rw[ac]at hy;cases hy
    | some ls =>
     rw[ac]at hy
     simp only at hy
     split at hy
     ·simp only[List.cons_append,List.mem_cons,List.mem_append,List.not_mem_nil,or_false]at hy
      rcases hy with rfl|hy|rfl
      ·omega
      ·rcases Km _ _ _ y hy with h|⟨l,hl,bT⟩
       ·cases h
       ·rcases J3 ac l hl y bT with⟨p,_,h⟩|h
        ·obtain⟨z,hz,h⟩:=Gz h;have:=ih z hz y h;omega
        ·have:=(BE hg n).2 y h;omega
      ·omega
     ·cases hy
def ownO:Option Nat->Own
 |none=>.clip
 |some i=>.tag i
def sgO(O:Sig)(n:Nat):Option Nat->Sig
 |none=>O
 |some i=>O.set i (.tail 1 n)
attribute [simp] B6
@[simp] theorem ownO_none:ownO none=.clip:=rfl
@[simp] theorem Fl(i:Nat):ownO (some i)=.tag i:=rfl
@[simp] theorem sgO_none(O:Sig)(n:Nat):sgO O n none=O:=rfl
@[simp] theorem GU(O:Sig)(n i:Nat):sgO O n (some i)=O.set i (.tail 1 n):=rfl
theorem Jm(g:List (List Int))(o:Own)(O:Sig)(hb:Bb g=true)(hl:∀x∈g,x.length<=1073741824:=by exact sd):
  DCall prog 268 [.slice (cII g) o] O (rS (sl (cII (ordersN g (3+g.length)))) O):=by
 have hlen:=Dv hb
 refine en func268 ntmps268 ?_
 try refine gz ?_
 refine rtw 3 (.slice (cII (ordersN g 1)) .clip) ?_ (DD _ ⟨⟨BH _ _,trivial⟩,trivial⟩)
 refine BX [0,2,43] (fun (n:Nat) (ow:Option Nat)=>1<=n/\n<=3+g.length /\ ∀i,ow=some i->O i=none) (fun n ow=>[(4,dI n),(3,.slice (cII (ordersN g n)) (ownO ow))]) (fun n ow=>sgO O n ow) (fun n _=>3+g.length-n) (1) (none) (by exact⟨by omega,by omega,by simp⟩) (fun n ow hI=>?_)
 obtain⟨h1,h2,hi⟩:=hI
 by_cases hn:n<3+g.length
 ·have ak:=B6 g n
  have aj:=BE hb n
  have hB:∀p:Int,0<=p->(At (ordersN g n) p).length<=80000000:=fun p hp=>CO hb (by omega) hp
  have cw:∀x∈ordersN g n,x.length<=1073741824:=fun x hx=>by
   obtain⟨k,hk,rfl⟩:=List.getElem_of_mem hx
   have:=hB k (by omega)
   unfold At at this
   rw[show((k:Int)).toNat=k by omega,List.getElem?_eq_getElem hk]at this
   simp only[Option.getD_some]at this
   omega
  have ai:=RZ g (ordersN g n) n o (ownO ow) (sgO O n ow) (by omega) (by omega) (by have:=aj.1;omega) (fun p hp=>by have:=aj.2 p hp;rw[B6];omega) (by rw[B6];omega) cw
  have aa:ordersN g (n+1)=ordersN g n++[Bn (ordersN g n) n (parentsF g n)]:=by rw[ordersN,if_neg (by omega)]
  cases ac:By (ordersN g n) (parentsF g n)with
  | none =>
   rw[ac]at ai
   have hx:Bn (ordersN g n) n (parentsF g n)=[]:=by rw[Bn,ac]
   repeat' first|refine gz ?_|refine B9 (ai) ?_|refine callP (ai) ?_|refine gz ?_|apply gy<;>intro hh
   refine rtl 41 (.slice [[sl (cI [])]] .clip) ?_ (DD _ ⟨⟨Ak _ (.inl rfl),trivial⟩,trivial⟩)
   have ae:∀i,WkD (.slice (cII (ordersN g n)++[[sl (cI (Bn (ordersN g n) n (parentsF g n)))]]) (.tag i)) (.slice (cII (ordersN g (n+1))) (ownO (some i))):=fun i=>C2 (by rw[aa];simp[cII])
   rw[hx]at ae
   rcases ow with _|i
   ·refine appC (fun i ax=>?_) (hlen:=AN _)
    have hw:=ae i
    have ag:Sub (sgO O (n+1) (some i)) ((sgO O n none).set i (.tail (tab 23).size ((cII (ordersN g n)).length+[[sl (cI [])]].length))):=C3 (by simp[ak])
    try refine gz ?_
    exact⟨n+1,some i,⟨by omega,by omega,fun _ e=>by cases e;exact ax⟩,td1,wkR⟩
   ·have hw:=ae i
    simp only[Fl,GU]
    try refine gz ?_
    exact⟨n+1,some i,⟨by omega,by omega,fun _ e=>by cases e;exact hi i rfl⟩,td1,wkR⟩
  | some ls =>
   rw[ac]at ai
   have hT:=Fx ac (fun p hp=>hB p (by have:=aj.2 p hp;omega))
   have h3:(parentsF g n).length*80000000<=3*80000000:=Nat.mul_le_mul_right _ aj.1
   have h4:=aj.1
   have aD:=RY ls .no (sgO O n ow) (fun x hx y hy=>by
    rcases J3 ac x hx y hy with⟨p,_,h⟩|h
    ·obtain⟨z,hz,h⟩:=Gz h;exact(Gy hb n z hz y h).1
    ·have:=aj.2 y h;omega) (by omega) (by omega)
   have bt:=Ee ls
   by_cases aF:(BS ls).1=[]
   ·repeat' first|refine gz ?_|refine B9 (ai) ?_|refine callP (ai) ?_|refine B9 (aD) ?_|refine callP (aD) ?_|refine gz ?_|apply gy<;>intro hh
    ·have hx:Bn (ordersN g n) n (parentsF g n)=[(n:Int),0]:=by rw[Bn,ac];simp[hh,aF]
     refine app0 ?_
     try refine gz ?_
     refine appCW (fun j hj=>?_)
     try refine gz ?_
     refine rtl 41 (.slice [[sl (cI [(n:Int),0])]] .clip) ?_
     refine drp (sgO O n ow) ?_ ((Sub.refl _).set hj)
     have ae:∀i,WkD (.slice (cII (ordersN g n)++[[sl (cI (Bn (ordersN g n) n (parentsF g n)))]]) (.tag i)) (.slice (cII (ordersN g (n+1))) (ownO (some i))):=fun i=>C2 (by rw[aa];simp[cII])
     rw[hx]at ae
     rcases ow with _|i
     ·refine appC (fun i ax=>?_) (hlen:=AN _)
      have hw:=ae i
      have ag:Sub (sgO O (n+1) (some i)) ((sgO O n none).set i (.tail (tab 23).size ((cII (ordersN g n)).length+[[sl (cI [])]].length))):=C3 (by simp[ak])
      try refine gz ?_
      exact⟨n+1,some i,⟨by omega,by omega,fun _ e=>by cases e;exact ax⟩,td1,wkR⟩
     ·have hw:=ae i
      simp only[Fl,GU]
      try refine gz ?_
      exact⟨n+1,some i,⟨by omega,by omega,fun _ e=>by cases e;exact hi i rfl⟩,td1,wkR⟩
    ·have hx:Bn (ordersN g n) n (parentsF g n)=[]:=by rw[Bn,ac];simp[hh]
     refine rtl 41 (.slice [[sl (cI [])]] .clip) ?_ (DD _ ⟨⟨Ak _ (.inl rfl),trivial⟩,trivial⟩)
     have ae:∀i,WkD (.slice (cII (ordersN g n)++[[sl (cI (Bn (ordersN g n) n (parentsF g n)))]]) (.tag i)) (.slice (cII (ordersN g (n+1))) (ownO (some i))):=fun i=>C2 (by rw[aa];simp[cII])
     rw[hx]at ae
     rcases ow with _|i
     ·refine appC (fun i ax=>?_) (hlen:=AN _)
      have hw:=ae i
      have ag:Sub (sgO O (n+1) (some i)) ((sgO O n none).set i (.tail (tab 23).size ((cII (ordersN g n)).length+[[sl (cI [])]].length))):=C3 (by simp[ak])
      try refine gz ?_
      exact⟨n+1,some i,⟨by omega,by omega,fun _ e=>by cases e;exact ax⟩,td1,wkR⟩
     ·have hw:=ae i
      simp only[Fl,GU]
      try refine gz ?_
      exact⟨n+1,some i,⟨by omega,by omega,fun _ e=>by cases e;exact hi i rfl⟩,td1,wkR⟩
   ·repeat' first|refine gz ?_|refine B9 (ai) ?_|refine callP (ai) ?_|refine B9 (aD) ?_|refine callP (aD) ?_|refine gz ?_|apply gy<;>intro hh
    ·have hx:Bn (ordersN g n) n (parentsF g n)=(n:Int)::(BS ls).1++[0]:=by rw[Bn,ac];simp[hh]
     refine appC (fun j hj=>?_) (hne:=by simp[cI];exact aF)
     try refine gz ?_
     refine rtl 41 (.slice [[sl (cI ((n:Int)::(BS ls).1++[0]))]] .clip) ?_ (DD _ ⟨⟨DF _ (by simp[cI]),trivial⟩,trivial⟩)
     refine drp (sgO O n ow) ?_ ((Sub.refl _).set hj)
     have ae:∀i,WkD (.slice (cII (ordersN g n)++[[sl (cI (Bn (ordersN g n) n (parentsF g n)))]]) (.tag i)) (.slice (cII (ordersN g (n+1))) (ownO (some i))):=fun i=>C2 (by rw[aa];simp[cII])
     rw[hx]at ae
     rcases ow with _|i
     ·refine appC (fun i ax=>?_) (hlen:=AN _)
      have hw:=ae i
      have ag:Sub (sgO O (n+1) (some i)) ((sgO O n none).set i (.tail (tab 23).size ((cII (ordersN g n)).length+[[sl (cI [])]].length))):=C3 (by simp[ak])
      try refine gz ?_
      exact⟨n+1,some i,⟨by omega,by omega,fun _ e=>by cases e;exact ax⟩,td1,wkR⟩
     ·have hw:=ae i
      simp only[Fl,GU]
      try refine gz ?_
      exact⟨n+1,some i,⟨by omega,by omega,fun _ e=>by cases e;exact hi i rfl⟩,td1,wkR⟩
    ·have hx:Bn (ordersN g n) n (parentsF g n)=[]:=by rw[Bn,ac];simp[hh]
     refine rtl 41 (.slice [[sl (cI [])]] .clip) ?_ (DD _ ⟨⟨Ak _ (.inl rfl),trivial⟩,trivial⟩)
     have ae:∀i,WkD (.slice (cII (ordersN g n)++[[sl (cI (Bn (ordersN g n) n (parentsF g n)))]]) (.tag i)) (.slice (cII (ordersN g (n+1))) (ownO (some i))):=fun i=>C2 (by rw[aa];simp[cII])
     rw[hx]at ae
     rcases ow with _|i
     ·refine appC (fun i ax=>?_) (hlen:=AN _)
      have hw:=ae i
      have ag:Sub (sgO O (n+1) (some i)) ((sgO O n none).set i (.tail (tab 23).size ((cII (ordersN g n)).length+[[sl (cI [])]].length))):=C3 (by simp[ak])
      try refine gz ?_
      exact⟨n+1,some i,⟨by omega,by omega,fun _ e=>by cases e;exact ax⟩,td1,wkR⟩
     ·have hw:=ae i
      simp only[Fl,GU]
      try refine gz ?_
      exact⟨n+1,some i,⟨by omega,by omega,fun _ e=>by cases e;exact hi i rfl⟩,td1,wkR⟩
 ·have hne:n=3+g.length:=by omega
  subst hne
  have ag:Sub O (sgO O (3+g.length) ow):=by
   rcases ow with _|i
   ·exact Sub.refl _
   ·exact(Sub.refl _).set (hi i rfl)
  try refine gz ?_
  exact fe1 (d':=sl (cII (ordersN g (3+g.length)))) trivial
@[reducible,instance] def a268:=fun g o O=>ah2 (@Jm g o O)
theorem SI(g:List (List Int))(c:Int)(o:Own)(O:Sig)(hb:Bb g=true)(hc:0<=c/\c<3+g.length)(hl:∀x∈g,x.length<=1073741824:=by exact sd):
  DCall prog 220 [.slice (cII g) o,dI c] O (rS (.tup [sl (cI (Fy g c)),.bool (decide (0<(Fy g c).length))]) O):=by
 obtain⟨k,rfl⟩:∃k:Nat,c=(k:Int):=⟨c.toNat,by omega⟩
 have hk:k<3+g.length:=by omega
 have hlen:=Dv hb
 have hL:(ordersN g (3+g.length))[k]'(by simpa using hk)=Fy g k:=by
  unfold Fy At
  rw[show((k:Int)).toNat=k by omega,List.getElem?_eq_getElem (by simpa using hk)];rfl
 have cd:(Fy g k).length<=80000000:=CO hb (by omega) hc.1
 have ak:=B6 g (3+g.length)
 refine en func220 ntmps220 ?_
 repeat' first|refine gf hL ?_|refine B9 (Jm g o O hb hl) ?_|refine callP (Jm g o O hb hl) ?_|refine gf hL ?_|apply gy<;>intro hh
 exact fe2 trivial
def CS(bs:List Bool):List D:=bs.map .bool
@[simp] theorem VD(bs:List Bool):(CS bs).length=bs.length:=by simp[CS]
@[simp] theorem boolsD_get(bs:List Bool)(k:Nat):(CS bs)[k]? = (bs[k]?).map .bool:=by simp[CS]
theorem Q6(bs:List Bool)(k:Nat)(b:Bool):(CS bs).set k (.bool b)=CS (bs.set k b):=by simp[CS]
@[simp] theorem boolsD_put(bs:List Bool)(k:Nat)(b:Bool)(h:k<bs.length):(CS bs).take k ++ .bool b::(CS bs).drop (k+1)=CS (bs.set k b):=by
 rw[<-Q6,List.set_eq_take_append_cons_drop,if_pos (by simpa using h)]
def G7(k:Nat):List Int->List Bool->List Bool
 |[],bs=>bs
 |p::r,bs=>G7 k r (bs.set p.toNat (bs.getD p.toNat false||bs.getD k false))
def upD(g:List (List Int)):Nat->List Bool->List Bool
 |0,bs=>bs
 |j+1,bs=>upD g j (G7 (j+3) (parentsF g (j+3:Nat)) bs)
def upF(g:List (List Int))(c:Int):List Bool:=upD g (c.toNat-2) ((List.replicate (3+g.length) false).set c.toNat true)
theorem Sg(w:World)(c:Int)(O:Sig)(hb:Bb w.parents=true)(hc:0<=c/\c<3+w.parents.length):
  DCall prog 296 [.agg (DV w),dI c] O fun x U'=> ∃i,x=.ret (.sref i 0 (3+w.parents.length) (3+w.parents.length))/\O i=none/\U'=O.set i (.cells (CS (upF w.parents c))):=by
 have hlen:=Dv hb
 obtain⟨k,rfl⟩:∃k:Nat,c=(k:Int):=⟨c.toNat,by omega⟩
 refine en func296 ntmps296 ?_
 try refine gz ?_
 refine mmake (k:=3+w.parents.length) (c:=3+w.parents.length) (z:=[.bool false]) (sz:=1) (fun i hi hm=>?_)
 have e0:mS O (some (i,3+w.parents.length,(List.replicate (3+w.parents.length-(3+w.parents.length)) [D.bool false]).flatten)) (List.replicate (3+w.parents.length) [D.bool false])=O.set i (.cells (CS (List.replicate (3+w.parents.length) false))):=by
  simp only[mS,Nat.sub_self,List.replicate_zero,List.flatten_nil,List.append_nil]
  congr 2
  generalize 3+w.parents.length=m
  induction m with
  |zero=>rfl
  |succ m ih=>rw[List.replicate_succ,List.replicate_succ,List.flatten_cons,ih];rfl
 rw[e0]
 generalize bS:List.replicate (3+w.parents.length) false=b0
 have bM:b0.length=3+w.parents.length:=by rw[<-bS];simp
 try refine gf bM ?_
 refine BX [2,4,5,47] (fun (m:Nat) (bs:List Bool)=>m<=k/\bs.length=3+w.parents.length/\upD w.parents (m-2) bs=upF w.parents k) (fun m _=>[(6,dI m)]) (fun _ bs=>O.set i (.cells (CS bs))) (fun m _=>m) (k) (b0.set k true) (by exact⟨Nat.le_refl _,by simpa using bM,by rw[upF,<-bS];rfl⟩) (fun m bs hI=>?_)
 obtain⟨hm,cq,hU⟩:=hI
 have cP:(O.set i (.cells (CS bs))) i=some (.cells (CS bs)):=w6 ..
 by_cases h3:3<=m
 ·obtain⟨j,hj⟩:∃j,m=j+3:=⟨m-3,by omega⟩
  have au:w.parents[j]'(by omega)=parentsF w.parents m:=by
   unfold parentsF
   rw[if_neg (by omega),show((m:Int)-3).toNat=j by omega,List.getElem?_eq_getElem (by omega)];rfl
  have aj:=BE hb m
  rw[show m-2=j+1 by omega,upD,<-hj]at hU
  rw[<-au]at hU aj
  have e3:(m:Int)-3=j:=by omega
  generalize bI:w.parents[j]'(by omega)=ps at hU aj
  try refine gf (gi e3 bI) ?_
  refine BX [2,4,5,6,18,19,20,21,22,23,24,25,26,27,28,47] (fun (q:Nat) (b2:List Bool)=>q<=ps.length/\b2.length=3+w.parents.length/\G7 m ps bs=G7 m (ps.drop q) b2) (fun q _=>[(29,dI q)]) (fun _ b2=>O.set i (.cells (CS b2))) (fun q _=>ps.length-q) (0) (bs) (by exact⟨by omega,cq,rfl⟩) (fun q b2 hI=>?_)
  obtain⟨hq,aO,hR⟩:=hI
  have cO:(O.set i (.cells (CS b2))) i=some (.cells (CS b2)):=w6 ..
  by_cases aT:q<ps.length
  ·have hp:=aj.2 _ (List.getElem_mem aT)
   rw[A4 aT,G7]at hR
   obtain⟨p,bb⟩:∃p:Nat,ps[q]=(p:Int):=⟨(ps[q]).toNat,by omega⟩
   rw[bb]at hR hp
   have hm2:m<b2.length:=by omega
   have bY:p<b2.length:=by omega
   rw[show((p:Int)).toNat=p by omega,List.getD_eq_getElem?_getD,List.getD_eq_getElem?_getD,List.getElem?_eq_getElem hm2,List.getElem?_eq_getElem bY,Option.getD_some,Option.getD_some]at hR
   repeat' first|refine gf (gi e3 (gi bI bb)) ?_|apply gy<;>intro hh
   ·rw[hh,Bool.true_or]at hR
    exact⟨q+1,b2.set p true,⟨by omega,by simpa using aO,hR⟩,td1,wkR⟩
   ·rw[hh,Bool.false_or]at hR
    exact⟨q+1,b2.set p b2[m],⟨by omega,by simpa using aO,hR⟩,td1,wkR⟩
  ·rw[A9 aT,G7]at hR
   rw[hR]at hU
   try refine gz ?_
   exact⟨m-1,b2,⟨by omega,aO,by rw[show m-1-2=j by omega];exact hU⟩,td1,wkR⟩
 ·rw[show m-2=0 by omega,upD]at hU
  subst hU
  try refine gz ?_
  exact fin1 (U':=O.set i (.cells (CS (upF w.parents k)))) ⟨i,rfl,hi,rfl⟩
theorem D8(k:Nat): ∀(ps:List Int) (bs:List Bool),(G7 k ps bs).length=bs.length
 |[],_=>rfl
 |p::r,bs=>by rw[G7,D8 k r,List.length_set]
theorem K8(g:List (List Int)): ∀(j:Nat) (bs:List Bool),(upD g j bs).length=bs.length
 |0,_=>rfl
 |j+1,bs=>by rw[upD,K8 g j,D8]
theorem Pc(g:List (List Int))(c:Int):(upF g c).length=3+g.length:=by rw[upF,K8,List.length_set,List.length_replicate]
def Ic(g:List (List Int))(a b:Int):Bool:=decide (a=b)||decide (b=0)||(decide (3<=a)&&(upF g a).getD b.toNat false)
theorem Jn(w:World)(a b:Int)(O:Sig)(hb:Bb w.parents=true)(ha:0<=a/\a<3+w.parents.length)(cQ:0<=b/\b<3+w.parents.length):
  DCall prog 248 [.agg (DV w),dI a,dI b] O (rS (.bool (Ic w.parents a b)) O):=by
 have hlen:=Dv hb
 obtain⟨k,rfl⟩:∃k:Nat,b=(k:Int):=⟨b.toNat,by omega⟩
 have cD:=Pc w.parents a
 have hk:k<(upF w.parents a).length:=by omega
 have bC:(upF w.parents a).getD k false=(upF w.parents a)[k]:=by rw[List.getD_eq_getElem?_getD,List.getElem?_eq_getElem hk];rfl
 refine en func248 ntmps248 ?_
 by_cases h1:a=(k:Int)\/(k:Int)=0
 ·have e:Ic w.parents a k=true:=by
   unfold Ic
   rcases h1 with h1|h1<;>simp[h1]
  repeat' first|refine gz ?_|apply gy<;>intro hh
  any_goals (first|exact fe1 e|fail)
 ·have e:Ic w.parents a k=(decide (3<=a)&&(upF w.parents a)[k]):=by
   unfold Ic
   rw[show((k:Int)).toNat=k by omega,bC]
   simp only[not_or]at h1
   rw[decide_eq_false h1.1,decide_eq_false h1.2];rfl
  by_cases h3:3<=a
  ·try refine gz ?_
   refine A7 (Sg w a _ hb ha) (fun d U' hx=>?_) (fun d U' hx=>by obtain⟨_,hx,_⟩:=hx;cases hx)
   obtain⟨i,hx,hi,rfl⟩:=hx
   cases hx
   simp only[putD]
   try refine gz ?_
   exact fe1 (gi e h3)
  ·try refine gz ?_
   exact fe1 (gi e h3)
@[reducible,instance] def a248:=fun w a b O=>ah3 (@Jn w a b O)
def hasW(w:World)(c s:Int):Bool:=decide (3<=c)&&Ic w.parents c ((w.owner[s.toNat]?).getD 0)
theorem SW(w:World)(c s:Int)(O:Sig)(hb:Bb w.parents=true)(hc:0<=c/\c<3+w.parents.length)(hs:0<=s/\s<w.owner.length)(ho:∀x∈w.owner,0<=x/\x<3+w.parents.length):
  DCall prog 193 [.agg (DV w),dI c,dI s] O (rS (.bool (hasW w c s)) O):=by
 have hlen:=Dv hb
 obtain⟨k,rfl⟩:∃k:Nat,s=(k:Int):=⟨s.toNat,by omega⟩
 have hk:k<w.owner.length:=by omega
 have bK:=ho _ (List.getElem_mem hk)
 have e:hasW w c k=(decide (3<=c)&&Ic w.parents c (w.owner[k])):=by
  unfold hasW;rw[show((k:Int)).toNat=k by omega,List.getElem?_eq_getElem hk];rfl
 refine en func193 ntmps193 ?_
 by_cases h3:3<=c
 ·repeat' first|refine gz ?_|refine moRG (Jn w c (w.owner[k]) O hb hc bK) ?_|refine moPG (Jn w c (w.owner[k]) O hb hc bK) ?_|refine gz ?_ o193|apply gy<;>intro hh
  exact fe1 (gi e h3)
 ·try refine gz ?_ o193
  exact fe1 (gi e h3)
@[reducible,instance] def a193:=fun w c s O=>ah4 (@SW w c s O)
def Cu:Int->List Int->Option Int
 |n,[]=>some n
 |n,s::r=>if s=n then Cu (n+1) r else none
def Fb:Int->List BClass->Option Int
 |n,[]=>some n
 |n,c::r=>if 4<c.slots.length\/3<c.parents.length then none else match Cu n c.slots with
  |none=>none
  |some m=>Fb m r
def F9(w:World)(N c:Int)(x:Init):Bool:=decide (0<=x.slot/\x.slot<N)&&hasW w c x.slot&&inB x.n
def FB(w:World)(N c:Int):List Init->List Init->Bool
 |_,[]=>true
 |seen,x::r=>F9 w N c x&&(seen.all fun y=> !decide (y.slot=x.slot))&&FB w N c (seen++[x]) r
def Dt(w:World)(N:Int):Nat->List BClass->Bool
 |_,[]=>true
 |i,c::r=>decide (0<(Fy w.parents ((i:Int)+3)).length)&&FB w N ((i:Int)+3) [] c.inits&&Dt w N (i+1) r
def AB(p:BProg):Bool:=decide (p.classes.length<=10)&&match Fb 0 p.classes with
 |none=>false
 |some n=>decide (n=p.slots)&&Bb (p.classes.map (·.parents))&&Dt (Bq p) n 0 p.classes
theorem C4: ∀(l:List BClass) (i:Nat),(ownersF l i).length=wtL (fun c:BClass=>c.slots.length) l
 |[],_=>rfl
 |c::r,i=>by rw[ownersF,List.length_append,List.length_replicate,C4 r];rfl
theorem Gw: ∀{l:List BClass}{i:Nat}{x:Int},x∈ownersF l i->3+(i:Int)<=x/\x<3+i+l.length
 |[],_,_,h=>by cases h
 |c::r,i,x,h=>by
  rw[ownersF]at h
  rcases List.mem_append.1 h with h|h
  ·have:=List.eq_of_mem_replicate h;rw[List.length_cons];omega
  ·have:=Gw h;rw[List.length_cons];omega
theorem T9 (p:BProg) (O:Sig) (hp:p.wt<=1073741824:=by exact sd):DCall prog 144 [.agg (Ac p)] O (rS (.bool (AB p)) O):=by
 obtain⟨p1,p2,p3,p4,p5,p6,p7⟩:=p.wt_le
 have ws:=Dm p
 have aG:∀c∈p.classes,c.parents.length<=1073741824/\c.slots.length<=1073741824/\c.inits.length<=1073741824:=fun c hc=>by
  obtain⟨k,hk,rfl⟩:=List.getElem_of_mem hc
  have:=p5 k hk
  have cz:(p.classes[k]).wt=1+(p.classes[k]).parents.length+(p.classes[k]).slots.length+(p.classes[k]).inits.length:=rfl
  omega
 refine en func144 ntmps144 ?_
 repeat' first|refine gz ?_ o144|apply gy<;>intro hh
 ·(refine fin1 (U':=O) ?_;exact⟨by first|rfl|(simp[AB];done)|(simp_all [AB];done)|(rw[Ad,Bool.eq_iff_iff];simp_all [AB]<;>omega),rfl⟩)
 refine BX [1,7,8,9,10,11,12,13,14,15,60,61,62,63,64,65,66,67,68,69,70,71,72,73,74,75,76,77,78,79,80,81,82,83,84,85,86,87,88,89,90,91,92,93,94,95,96,97,98,99,100,101,102,103,104,105,106,107,108,109,110,111,112,113,114,115,116,117,118,119,120,121,122,123,124,125,126,127,128,129,130,131,132,133,134,135,136,137,138,139,140,141,142,143,144,145,146,147,148,149,150,151,152] (fun (i:Nat) (n:Int)=>i<=p.classes.length/\n=wtL (fun c:BClass=>c.slots.length) (p.classes.take i)/\Fb 0 p.classes=Fb n (p.classes.drop i)) (fun i n=>[(4,dI i),(3,dI n)]) (fun _ _=>O) (fun i _=>p.classes.length-i) (0) (0) (by simp[wtL]) (fun i n hI=>?_)
 obtain⟨hi,hn,hR⟩:=hI
 by_cases h:i<p.classes.length
 ·have hx:=aG _ (List.getElem_mem h)
  have hT:=EG (fun c:BClass=>c.slots.length) p.classes i h
  have cT:=Cz (fun c:BClass=>c.slots.length) p.classes (i+1)
  rw[A4 h,Fb]at hR
  repeat' first|refine gz ?_ o144|apply gy<;>intro hh
  ·have hc:Fb 0 p.classes=none:=by rw[hR,if_pos (.inl (by omega))]
   (refine fin1 (U':=O) ?_;exact⟨by first|rfl|(simp[AB,hc];done)|(simp_all [AB,hc];done)|(rw[Ad,Bool.eq_iff_iff];simp_all [AB,hc]<;>omega),rfl⟩)
  ·have hc:Fb 0 p.classes=none:=by rw[hR,if_pos (.inr (by omega))]
   (refine fin1 (U':=O) ?_;exact⟨by first|rfl|(simp[AB,hc];done)|(simp_all [AB,hc];done)|(rw[Ad,Bool.eq_iff_iff];simp_all [AB,hc]<;>omega),rfl⟩)
  ·rw[if_neg (by omega)]at hR
   generalize cF:(p.classes[i]).slots=sl' at*
   refine C1 [1,4,5,7,8,9,10,11,12,13,14,15,20,21,22,23,24,25,26,27,28,29,30,31,32,33,34,35,36,37,38,39,40,41,42,43,44,45,60,61,62,63,64,65,66,67,68,69,70,71,72,73,74,75,76,77,78,79,80,81,82,83,84,85,86,87,88,89,90,91,92,93,94,95,96,97,98,99,100,101,102,103,104,105,106,107,108,109,110,111,112,113,114,115,116,117,118,119,120,121,122,123,124,125,126,127,128,129,130,131,132,133,134,135,136,137,138,139,140,141,142,143,144,145,146,147,148,149,150,151,152] (fun (q:Nat)=>q<=sl'.length/\Cu n sl'=Cu (n+q) (sl'.drop q)) (fun q=>[(6,dI q),(3,dI (n+q))]) (fun _=>O) (fun q=>sl'.length-q) (0) (by simp) (fun q hI=>?_)
   obtain⟨hq,hQ⟩:=hI
   by_cases aT:q<sl'.length
   ·rw[A4 aT,Cu]at hQ
    have cE:=hx.2.1
    have b8:0<=n:=by omega
    have cH:n<=1073741824:=by omega
    repeat' first|refine gz ?_ o144|apply gy<;>intro hh
    ·rw[if_neg hh]at hQ
     have hc:Fb 0 p.classes=none:=by rw[hR,hQ]
     (refine fin1 (U':=O) ?_;exact⟨by first|rfl|(simp[AB,hc];done)|(simp_all [AB,hc];done)|(rw[Ad,Bool.eq_iff_iff];simp_all [AB,hc]<;>omega),rfl⟩)
    ·rw[if_pos hh]at hQ
     exact⟨q+1,⟨by omega,by rw[hQ,Int.add_assoc];rfl⟩,td1,wkR⟩
   ·rw[A9 aT,Cu]at hQ
    rw[hQ]at hR
    have cG:q=sl'.length:=by omega
    try refine gz ?_ o144
    exact⟨i+1,n+q,⟨by omega,by rw[hT];omega,hR⟩,td1,wkR⟩
 ·rw [A9 h,Fb] at hR
  have aR:(Bq p).parents=p.classes.map (·.parents):=rfl
  have ak:(Bq p).owner.length=wtL (fun c:BClass=>c.slots.length) p.classes:=C4 _ _
  have b6:n=wtL (fun c:BClass=>c.slots.length) p.classes:=by rw[hn,List.take_of_length_le (by omega)]
  have aQ:=MQ p O (by omega) (fun c hc=>(aG c hc).1)
  have bD:=LB p O (by omega) (fun c hc=>(aG c hc).1) (fun c hc=>(aG c hc).2.1) (by rw[C4];omega)
  have am:=SJ (p.classes.map (·.parents)) .no O (by simp;omega) (fun x hx=>by obtain⟨c,hc,rfl⟩:=List.mem_map.1 hx;exact(aG c hc).1)
  by_cases hs:n=p.slots
  ·cases hg:Bb (p.classes.map (·.parents)) with
   |false=>
    rw[hg]at am
    repeat' first|refine gz ?_|refine B9 (aQ) ?_|refine callP (aQ) ?_|refine CJ (am) ?_|refine callPG (am) ?_|refine gz ?_ o144|apply gy<;>intro hh
    (refine fin1 (U':=O) ?_;exact⟨by first|rfl|(simp[AB,hR,hg];done)|(simp_all [AB,hR,hg];done)|(rw[Ad,Bool.eq_iff_iff];simp_all [AB,hR,hg]<;>omega),rfl⟩)
   | true =>
    rw[hg]at am
    have aM:AB p=Dt (Bq p) n 0 p.classes:=by unfold AB;rw[hR];simp[hs,hg];omega
    repeat' first|refine gz ?_|refine B9 (aQ) ?_|refine callP (aQ) ?_|refine CJ (am) ?_|refine callPG (am) ?_|refine B9 (bD) ?_|refine callP (bD) ?_|refine gz ?_ o144|apply gy<;>intro hh
    have bZ:∀x∈(Bq p).owner,0<=x/\x<3+(Bq p).parents.length:=fun x hx=>by
     have:=Gw hx
     rw[aR,List.length_map];omega
    have ck:Bb (Bq p).parents=true:=hg
    have cB:(Bq p).parents.length=p.classes.length:=by rw[aR,List.length_map]
    have ak:((Bq p).owner.length:Int)=n:=by rw[b6];exact_mod_cast ak
    clear aQ bD am
    generalize hw:Bq p=w at*
    refine C1 [1,3,7,8] (fun (j:Nat)=>j<=p.classes.length/\Dt w n 0 p.classes=Dt w n j (p.classes.drop j)) (fun j=>[(9,dI j)]) (fun _=>O) (fun j=>p.classes.length-j) (0) (by simp) (fun j hI=>?_)
    obtain⟨hj,hJ⟩:=hI
    by_cases h':j<p.classes.length
    ·have hx:=aG _ (List.getElem_mem h')
     rw[A4 h',Dt]at hJ
     have aP:=SI w.parents ((j:Int)+3) .no O ck (by omega) (fun x hx=>by rw[aR]at hx;obtain⟨c,hc,rfl⟩:=List.mem_map.1 hx;exact(aG c hc).1)
     rw[aR]at aP
     by_cases hl:0<(Fy w.parents ((j:Int)+3)).length
     ·rw [decide_eq_true hl,Bool.true_and] at hJ
      rw[aR]at hl
      rw[decide_eq_true hl]at aP
      generalize bP:(p.classes[j]).inits=ins at hJ hx
      repeat' first|refine gf bP ?_|refine B9 (aP) ?_|refine callP (aP) ?_|refine gf bP ?_ o144|apply gy<;>intro hh
      refine C1 [1,3,7,8,9,10,11,12,13,73,74,75,76,77,78,79,80,81,82,83,84,85,86,87,88,89,90,91,92,93,94,95] (fun (k:Nat)=>k<=ins.length/\FB w n ((j:Int)+3) [] ins=FB w n ((j:Int)+3) (ins.take k) (ins.drop k)) (fun k=>[(14,dI k)]) (fun _=>O) (fun k=>ins.length-k) (0) (by simp) (fun k hI=>?_)
      obtain⟨hk,hK⟩:=hI
      by_cases aK:k<ins.length
      ·have cM:=hx.2.2
       rw[A4 aK,FB]at hK
       repeat' first|refine gz ?_ o144|apply gy<;>intro hh
       ·have hf:F9 w n ((j:Int)+3) ins[k]=false:=by unfold F9;rw[decide_eq_false (by omega)];rfl
        rw[hf,Bool.false_and,Bool.false_and]at hK
        rw[hK,Bool.false_and]at hJ
        exact fe1 (gi aM hJ)
       ·have hf:F9 w n ((j:Int)+3) ins[k]=false:=by unfold F9;rw[decide_eq_false (by omega)];rfl
        rw[hf,Bool.false_and,Bool.false_and]at hK
        rw[hK,Bool.false_and]at hJ
        exact fe1 (gi aM hJ)
       ·have hf:F9 w n ((j:Int)+3) ins[k]=false:=by unfold F9;simp_all
        rw[hf,Bool.false_and,Bool.false_and]at hK
        rw[hK,Bool.false_and]at hJ
        exact fe1 (gi aM hJ)
       ·have hf:F9 w n ((j:Int)+3) ins[k]=false:=by unfold F9;simp_all
        rw[hf,Bool.false_and,Bool.false_and]at hK
        rw[hK,Bool.false_and]at hJ
        exact fe1 (gi aM hJ)
       ·have ht:F9 w n ((j:Int)+3) ins[k]=true:=by unfold F9;rw[decide_eq_true (by omega)];simp_all
        rw[ht,Bool.true_and]at hK
        refine C1 [1,3,7,8,9,10,11,12,13,14,73,74,75,76,77,78,79,80,81,82,83,84,85,86,87,88,89,90,91,92,93,94,95,96,97,98,99,100,101,102,103,104,105,106,107,108,109,110,111,112,113,114,115,116,117,118,119,120,121,122,123,124,125,126,127,128,129,130,131,132,133,134,135,136] (fun (m:Nat)=>m<=k/\((ins.take m).all fun y=> !decide (y.slot=(ins[k]).slot))=true) (fun m=>[(15,dI m)]) (fun _=>O) (fun m=>k-m) (0) (by simp) (fun m hI=>?_)
        obtain⟨hm,hM⟩:=hI
        by_cases bL:m<k
        ·have bt:m<ins.length:=by omega
         repeat' first|refine gz ?_ o144|apply gy<;>intro hh
         ·have hf:((ins.take k).all fun y=> !decide (y.slot=(ins[k]).slot))=false:=by
           rw[List.all_eq_false]
           exact⟨ins[m],List.mem_take_iff_getElem.2 ⟨m,by omega,rfl⟩,by simp[hh]⟩
          rw[hf,Bool.false_and]at hK
          rw[hK,Bool.false_and]at hJ
          exact fe1 (gi aM hJ)
         ·exact⟨m+1,⟨by omega,by rw[List.take_succ_eq_append_getElem bt,List.all_append,hM];simp[hh]⟩,td1,wkR⟩
        ·have ca:m=k:=by omega
         subst ca
         rw[hM,Bool.true_and]at hK
         try refine gz ?_ o144
         exact⟨m+1,⟨by omega,by rw[hK,DH aK]⟩,td1,wkR⟩
      ·rw[A9 aK,FB]at hK
       rw[hK,Bool.true_and]at hJ
       try refine gz ?_ o144
       exact⟨j+1,⟨by omega,hJ⟩,td1,wkR⟩
     ·rw[decide_eq_false hl,Bool.false_and,Bool.false_and]at hJ
      rw[aR]at hl
      rw[decide_eq_false hl]at aP
      repeat' first|refine gz ?_|refine B9 (aP) ?_|refine callP (aP) ?_|refine gz ?_ o144|apply gy<;>intro hh
      exact fe1 (gi aM hJ)
    ·rw[A9 h',Dt]at hJ
     try refine gz ?_ o144
     exact fe1 (gi aM hJ)
  ·repeat' first|refine gz ?_|refine B9 (aQ) ?_|refine callP (aQ) ?_|refine gz ?_ o144|apply gy<;>intro hh
   (refine fin1 (U':=O) ?_;exact⟨by first|rfl|(simp[AB,hR,hs];done)|(simp_all [AB,hR,hs];done)|(rw[Ad,Bool.eq_iff_iff];simp_all [AB,hR,hs]<;>omega),rfl⟩)
end Go.DL
