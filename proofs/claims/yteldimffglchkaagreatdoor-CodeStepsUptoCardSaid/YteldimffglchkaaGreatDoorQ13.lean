/- A part of the proof. -/
import Derived.Test.YteldimffglchkaaGreatDoorQ12
set_option linter.all false
namespace Go.DL
open Go.Proofs.Tryz
open Go Go.Proofs
set_option maxHeartbeats 8000000
def Wt{α:Type}[DecidableEq α](s:α)(l:List α):decide (0<=jj s l 0)=decide (s∈l):=by
 rw[aR];simp only[aH];exact Pq s l 0
def QQ(l:eP)(s:Int)(o:Own)(O:Sig)(hl:l.length<=1073741824:=by exact sd):
  ar prog 206 [.slice (cI l) o,dI s] O (rS (.bool (decide (s∈l))) O):=by
 rw[<-Wt];exact U4 l s o O hl
instance (priority:=high) a206m (l:eP) (s:Int) (o:Own) (O:Sig):Ans 206 [.slice (cI l) o,dI s] O ((l.length<=1073741824)) (.bool (decide (s∈l))):=⟨fun hl=>QQ l s o O (hl:=hl)⟩
def QO(l:eP)(s:Int)(o:Own)(O:Sig)(hl:l.length<=1073741824:=by exact sd):
  ar prog 267 [.slice (cI l) o,dI s] O (rS (.bool (decide (s∈l))) O):=by
 rw[<-bS];exact TF l s o O hl
instance (priority:=high) a267m (l:eP) (s:Int) (o:Own) (O:Sig):Ans 267 [.slice (cI l) o,dI s] O ((l.length<=1073741824)) (.bool (decide (s∈l))):=⟨fun hl=>QO l s o O (hl:=hl)⟩
def Th(l:eP)(n:Int)(o:Own)(O:Sig)(hl:l.length<=1073741824:=by exact sd):
  ar prog 354 [.slice (cI l) o,dI n] O fun x U'=>x=.ret (sl (cI (l.filter fun x=> !decide (x=n))))/\U'=O:=by
 refine en func354 ntmps354 ?_;refine gz ?_;refine ED 5 1 (fun i hi=>?_);refine BO [0,1,4,26] (fun (k:Nat) (out:eP)=>k<=l.length/\out.length<=k/\out++(l.drop k).filter (fun x=> !decide (x=n))=l.filter (fun x=> !decide (x=n))) (fun k out=>[(6,dI k),(5,.slice (cI out) (.tag i))]) (fun _ out=>O.set i (.tail 1 out.length)) (fun k _=>l.length-k) (0) ([]) j1 (fun k out hI=>?_);obtain⟨hk,hlen,hR⟩:=hI
 by_cases h:k<l.length
 ·rw[A6 h,cw]at hR
  repeat' first|refine gz ?_|apply gy<;>intro hh
  ·exact⟨k+1,out++[l[k]],by refine⟨j0,by simp;omega,?_⟩;rw[<-hR];simp[hh],td1,wkR⟩
  ·exact⟨k+1,out,by refine⟨j0,j0,?_⟩;rw[<-hR];simp[hh],td1,wkR⟩
 ·rw[A9 h]at hR;simp at hR;refine gz ?_;exact finS (U':=O) (es:=cI out) ⟨by rw[hR],rfl⟩
@[reducible,instance] def a354:=fun l n o O=>ah1 (@Th l n o O)
def Tg(l:eT)(c:Int)(o:Own)(O:Sig)(hl:l.length<=1073741824:=by exact sd)(d5:∀x∈l,x.length<=1073741824:=by exact sd):
  ar prog 355 [.slice (cII l) o,dI c] O fun x U'=>x=.ret (.bool (l.all fun x=> !decide (c∈x.tail)))/\U'=O:=by
 refine en func355 ntmps355 ?_;refine gz ?_;refine Bz [0,1] (fun (k:Nat)=>k<=l.length/\l.all (fun x=> !decide (c∈x.tail))=(l.drop k).all (fun x=> !decide (c∈x.tail))) (fun k=>[(5,dI k)]) (fun _=>O) (fun k=>l.length-k) (0) j1 (fun k hI=>?_);obtain⟨hk,hR⟩:=hI
 by_cases h:k<l.length
 ·have hx:=d5 _ (aK h);rw[A6 h,cM]at hR
  by_cases h0:l[k].length=0
  ·have he:l[k]=[]:=bf.1 h0;refine gz ?_;exact⟨k+1,⟨j0,by rw[hR,he];simp⟩,td1,wkR⟩
  ·repeat' first|refine gz ?_|apply gy<;>intro hh
   ·exact fe1 hR
   ·exact⟨k+1,⟨j0,by rw[hR];simp_all⟩,td1,wkR⟩
 ·rw[A9 h]at hR;refine gz ?_;exact fe1 hR
@[reducible,instance] def a355:=fun l c o O=>ah2 (@Tg l c o O)
def DW(i:Nat):eP->eP->Bool
 |_,[]=>true
 |seen,p::r=>(decide (3<=p/\p<3+i)&&!decide (p∈seen))&&DW i (seen++[p]) r
def Ih(i:Nat)(l:eP):Bool:=decide (l.length<=3)&&DW i [] l
def Cq:Nat->eT->Bool
 |_,[]=>true
 |i,l::r=>Ih i l&&Cq (i+1) r
def Bk(g:eT):Bool:=decide (g.length<=16)&&Cq 0 g
def Ek{α:Type}{l:List α}{k:Nat}(h:k<l.length):l.take (k+1)=l.take k++[l[k]]:=by rw[aU h]
def Tv(g:eT)(o:Own)(O:Sig)(hl:g.length<=1073741824:=by exact sd)(d5:∀x∈g,x.length<=1073741824:=by exact sd):
  ar prog 300 [.slice (cII g) o] O (rS (.bool (Bk g)) O):=by
 refine en func300 ntmps300 ?_
 by_cases gP:16<g.length
 ·refine gz ?_
  (refine fin1 (U':=O) ?_;exact⟨by first|rfl|(simp[Bk];done)|(simp_all [Bk];done)|(rw[Ae,aR];simp_all [Bk]<;>omega),rfl⟩)
 refine gz ?_;refine Bz [10,11] (fun (k:Nat)=>k<=g.length/\Bk g=Cq k (g.drop k)) (fun k=>[(12,dI k)]) (fun _=>O) (fun k=>g.length-k) (0) (by exact⟨j0,by simp[Bk];omega⟩) (fun k hI=>?_);obtain⟨hk,hR⟩:=hI
 by_cases h:k<g.length
 ·have hx:=d5 _ (aK h);rw[A6 h,Cq,Ih]at hR
  by_cases h3:3<g[k].length
  ·refine gz ?_;exact fe1 hR
  ·have f7:decide (g[k].length<=3)=true:=by simp;omega
   rw[f7,bq]at hR;refine gz ?_;refine Bz ([3,4]++List.range' 10 12++[43]) (fun (q:Nat)=>q<=g[k].length/\Bk g=(DW k (g[k].take q) (g[k].drop q)&&Cq (k+1) (g.drop (k+1)))) (fun q=>[(22,dI q)]) (fun _=>O) (fun q=>g[k].length-q) (0) (by exact⟨j0,by simpa using hR⟩) (fun q hI=>?_);obtain⟨hq,b9⟩:=hI
   by_cases h':q<g[k].length
   ·rw[A6 h',DW,<-Ek h']at b9
    repeat' first|refine gz ?_|apply gy<;>intro hh
    ·have hn:¬(3<=g[k][q]/\g[k][q]<3+(k:Int)):=by omega
     rw[bk hn]at b9;exact fe1 b9
    ·have hn:¬(3<=g[k][q]/\g[k][q]<3+(k:Int)):=by omega
     rw[bk hn]at b9;exact fe1 b9
    ·exact fe1 b9
    ·exact⟨q+1,⟨j0,by rw[b9];simp_all⟩,td1,wkR⟩
   ·rw[A9 h',DW]at b9;refine gz ?_;exact⟨k+1,⟨j0,by simpa using b9⟩,td1,wkR⟩
 ·rw[A9 h,Cq]at hR;refine gz ?_;exact fe1 hR
@[reducible,instance] def a300:=fun g o O=>ah2 (@Tv g o O)
def TY(g:eT)(o:Own)(O:Sig)(hl:g.length<=1073741824:=by exact sd)(d5:∀x∈g,x.length<=1073741824:=by exact sd):
  ar prog 219 [.slice (cII g) o] O (rS (.bool (Bk g)) O):=by
 refine en func219 ntmps219 ?_
 by_cases gP:16<g.length
 ·refine gz ?_ o219
  (refine fin1 (U':=O) ?_;exact⟨by first|rfl|(simp[Bk];done)|(simp_all [Bk];done)|(rw[Ae,aR];simp_all [Bk]<;>omega),rfl⟩)
 refine gz ?_ o219;refine Bz [0] (fun (k:Nat)=>k<=g.length/\Bk g=Cq k (g.drop k)) (fun k=>[(3,dI k)]) (fun _=>O) (fun k=>g.length-k) (0) (by exact⟨j0,by simp[Bk];omega⟩) (fun k hI=>?_);obtain⟨hk,hR⟩:=hI
 by_cases h:k<g.length
 ·have hx:=d5 _ (aK h);rw[A6 h,Cq,Ih]at hR
  by_cases h3:3<g[k].length
  ·refine gz ?_ o219;exact fe1 hR
  ·have f7:decide (g[k].length<=3)=true:=by simp;omega
   rw[f7,bq]at hR;refine gz ?_ o219;refine Bz ([0,3]++List.range' 8 12) (fun (q:Nat)=>q<=g[k].length/\Bk g=(DW k (g[k].take q) (g[k].drop q)&&Cq (k+1) (g.drop (k+1)))) (fun q=>[(4,dI q)]) (fun _=>O) (fun q=>g[k].length-q) (0) (by exact⟨j0,by simpa using hR⟩) (fun q hI=>?_);obtain⟨hq,b9⟩:=hI
   by_cases h':q<g[k].length
   ·rw[A6 h',DW,<-Ek h']at b9
    repeat' first|refine gz ?_ o219|apply gy<;>intro hh
    ·have hn:¬(3<=g[k][q]/\g[k][q]<3+(k:Int)):=by omega
     rw[bk hn]at b9;exact fe1 b9
    ·have hn:¬(3<=g[k][q]/\g[k][q]<3+(k:Int)):=by omega
     rw[bk hn]at b9;exact fe1 b9
    ·exact fe1 b9
    ·exact⟨q+1,⟨j0,by rw[b9];simp_all⟩,td1,wkR⟩
   ·rw[A9 h',DW]at b9;refine gz ?_ o219;exact⟨k+1,⟨j0,by simpa using b9⟩,td1,wkR⟩
 ·rw[A9 h,Cq]at hR;refine gz ?_ o219;exact fe1 hR
def Gd(all:eT)(c:Int):Bool:=all.all fun x=> !decide (c∈x.tail)
def EZ(all:eT):Bool->eT->Option Int×Bool
 |s,[]=>(none,s)
 |s,[]::r=>EZ all s r
 |_,(x::_)::r=>if Gd all x then(some x,true) else EZ all true r
def F0:Nat->eT->eP->eP×Bool
 |0,_,out=>(out,false)
 |n+1,ls,out=>match EZ ls false ls with
  |(none,s)=>(out, !s)
  |(some c,_)=>F0 n (ls.map fun l=>l.filter fun x=> !decide (x=c)) (out++[c])
def totL:eT->Nat
 |[]=>0
 |l::r=>l.length+totL r
def C3(ls:eT):eP×Bool:=F0 (totL ls+1) ls []
def LI{l:eP}: ∀{ls:eT},l∈ls->l.length<=totL ls
 |x::r,h=>by
  rcases aY.1 h with rfl|h
  ·simp[totL]
  ·have:=LI h;simp only[totL];omega
def EY{all:eT}{c:Int}{b:Bool}: ∀{s:Bool}{ls:eT},EZ all s ls=(some c,b)->∃l∈ls,c∈l
 |s,[],h=>by simp[EZ]at h
 |s,[]::r,h=>by
  rw[EZ]at h;obtain⟨l,h1,h2⟩:=EY h;exact⟨l,by simp[h1],h2⟩
 | s,(x::t)::r,h=>by
  rw[EZ]at h
  by_cases hf:Gd all x=true
  ·rw[aG hf]at h;exact⟨x::t,j1,by simp only[dK,bE]at h;simp[h.1]⟩
  ·rw[aE hf]at h;obtain⟨l,h1,h2⟩:=EY h;exact⟨l,by simp[h1],h2⟩
def RA(c:Int): ∀ls:eT,totL (ls.map fun l=>l.filter fun x=> !decide (x=c))<=totL ls
 |[]=>by simp[totL]
 |l::r=>by
  have:=RA c r;have:=dG (fun x=> !decide (x=c)) l;simp only[bd,totL];omega
def T4{c:Int}{l:eP}(h:c∈l):(l.filter fun x=> !decide (x=c)).length<l.length:=by
 induction l with
 |nil=>simp at h
 | cons x r ih =>
  have:=dG (fun x=> !decide (x=c)) r
  by_cases hx:x=c
  ·simp[hx];omega
  ·have hr:c∈r:=by rcases aY.1 h with rfl|h;exact absurd rfl hx;exact h
   have:=ih hr;simp[hx];omega
def LJ{c:Int}{l:eP}(hc:c∈l): ∀{ls:eT},l∈ls->totL (ls.map fun l=>l.filter fun x=> !decide (x=c))<totL ls
 | x::r,h=>by
  simp only[bd,totL];rcases aY.1 h with rfl|h
  ·have:=RA c r;have:=T4 hc;omega
  ·have:=LJ hc h;have:=dG (fun x=> !decide (x=c)) x;omega
def Tr(l:eT)(o:Own)(O:Sig)(hn:∀x∈l, ∀y∈x,0<=y)(hl:l.length<=1073741824:=by exact sd)(ht:totL l<=1073741824:=by exact sd):
  ar prog 314 [.slice (cII l) o] O (rS (.tup [sl (cI (C3 l).1),.bool (C3 l).2]) O):=by
 refine en func314 ntmps314 ?_;refine gz ?_;refine ED 4 1 (fun i hi=>?_);refine F1 [] (fun (n:Nat) (ls:eT) (out:eP)=>totL ls<n/\out.length+totL ls<=1073741824/\ls.length=l.length/\(∀x∈ls, ∀y∈x,0<=y)/\F0 n ls out=C3 l) (fun _ ls out=>[(0,.slice (cII ls) .no),(4,.slice (cI out) (.tag i))]) (fun _ _ out=>O.set i (.tail 1 out.length)) (fun n _ _=>n) (totL l+1) (l) ([]) (by exact⟨j0,by simpa using ht,rfl,hn,rfl⟩) (fun n ls out hI=>?_);obtain⟨gx,hlen,c9,ff,hR⟩:=hI;have fp:∀x∈ls,x.length<=1073741824:=fun x hx=>by have:=LI hx;omega
 refine gz ?_;refine F1 ([0,2,3,4,8,9]++List.range' 40 25) (fun (q:Nat) (cv:Int) (s:Bool)=>q<=ls.length /\ -1<=cv/\(cv<0->EZ ls false ls=EZ ls s (ls.drop q))/\(0<=cv->EZ ls false ls=(some cv,true))) (fun q cv s=>[(5,dI cv),(6,.bool s),(7,dI q)]) (fun _ _ _=>O.set i (.tail 1 out.length)) (fun q _ _=>ls.length-q) (0) (-1) (false) j1 (fun q cv s hI=>?_);obtain⟨hq,gX,hA,hB⟩:=hI;have gJ:cv = -1\/0<=cv:=by omega
 rcases gJ with fj|fj
 ·subst fj
  replace hA:=hA j0
  by_cases h:q<ls.length
  ·have hx:=fp _ (aK h);have gn:=ff _ (aK h);rw[A6 h]at hA;rcases b6:ls[q]with _|⟨y,r⟩
   ·rw[b6,EZ]at hA;refine gf b6 ?_;exact⟨q+1, -1,s,⟨j0,j0,fun _=>hA,j0⟩,td1,wkR⟩
   ·rw[b6,EZ]at hA;have hy:0<=y:=gn y (by simp[b6])
    repeat' first|refine gf b6 ?_|apply gy<;>intro hh
    ·rw[aG (show Gd ls y=true from hh)]at hA;exact⟨q+1,y,true,⟨j0,j0,j0,fun _=>hA⟩,td1,wkR⟩
    ·rw[show Gd ls y=false from hh]at hA;exact⟨q+1, -1,true,⟨j0,j0,fun _=>hA,j0⟩,td1,wkR⟩
  ·rw[A9 h,EZ]at hA;refine gz ?_;obtain⟨m,rfl⟩:∃m,n=m+1:=⟨n-1,j0⟩;rw[F0,hA]at hR
   replace hR:C3 l=(out, !s):=hR.symm
   exact fe2 (d':=sl (cI out)) hR
 ·replace hB:=hB fj
  obtain⟨m,rfl⟩:∃m,n=m+1:=⟨n-1,j0⟩;rw[F0,hB]at hR
  replace hR:F0 m (ls.map fun l=>l.filter fun x=> !decide (x=cv)) (out++[cv])=C3 l:=hR
  obtain⟨e,he,fk⟩:=EY hB;have gD:=LJ fk he
  have fa:∀x∈ls.map (fun l=>l.filter fun x=> !decide (x=cv)), ∀y∈x,0<=y:=by
   intro x hx y hy;obtain⟨z,hz,rfl⟩:=aZ.1 hx;exact ff z hz y (bI.1 hy).1
  by_cases h:q<ls.length
  all_goals
   refine gz ?_;refine ED 8 1 (fun j hj=>?_);refine BO ([0,2,3,4,5,6,7]++List.range' 10 39++[64]) (fun (k:Nat) (acc:eT)=>k<=ls.length/\acc=(ls.take k).map fun l=>l.filter fun x=> !decide (x=cv)) (fun k acc=>[(9,dI k),(8,.slice (cII acc) (.tag j))]) (fun _ acc=>(O.set i (.tail 1 (out.length+1))).set j (.tail 1 acc.length)) (fun k _=>ls.length-k) (0) ([]) j1 (fun k acc hI=>?_);obtain⟨hk,b8⟩:=hI;have gM:acc.length=k:=by rw[b8];simp;omega
   by_cases h':k<ls.length
   ·have hx:=fp _ (aK h');refine gz ?_;exact⟨k+1,acc++[(ls[k]).filter fun x=> !decide (x=cv)],⟨j0,by rw[b8,Ek h',bz];rfl⟩,td1,wkR⟩
   ·have fJ:k=ls.length:=by omega
    rw[fJ,cH]at b8;subst b8;have eU:Sub (O.set i (.tail 1 (out++[cv]).length)) ((O.set i (.tail 1 (out.length+1))).set j (.tail 1 (ls.map fun l=>l.filter fun x=> !decide (x=cv)).length)):=by rw[aC];exact(Sub.refl _).set (by assumption)
    refine gz ?_;exact⟨m,(ls.map fun l=>l.filter fun x=> !decide (x=cv)),(out++[cv]),⟨j0,by rw[aC,aT];omega,by simpa using c9,fa,hR⟩,td1,wkR⟩
def unf:D:=.iface 316 (.agg [])
def Ub(b:Bool)(O:Sig):ar prog 197 [.bool b] O fun x U'=>x=(if b then .ret (.tup []) else .panic unf)/\U'=O:=by
 refine en func197 ntmps197 ?_;cases b
 ·refine gz ?_;refine pan ?_;exact jo (U':=O) ⟨rfl,rfl⟩
 ·refine gz ?_;exact F3 (U':=O) ⟨rfl,rfl⟩
@[reducible,instance] def a197:=fun b O=>gh0 (@Ub b O)
def HE(l:eP)(q:Int->Bool)(g:Nat)(cap:eO)(o:Own)(O:Sig)(hl:l.length<=1073741824)
  (hg:∀x∈l, ∀U',Sub O U'->ar prog g ([]++[dI x]++cap) U' fun r S''=>r=.ret (.bool (q x))/\S''=U') :
  ar prog 385 [.slice (cI l) o,.func (.func g) [] cap] O (rS (sl (cI (l.filter q))) O):=by
 refine en func385 ntmps385 ?_;refine gz ?_;refine ED 5 1 (fun i hi=>?_);refine BO [1,4,8,9,22] (fun (k:Nat) (out:eP)=>k<=l.length/\out.length<=k/\out++(l.drop k).filter q=l.filter q) (fun k out=>[(10,dI k),(5,.slice (cI out) (.tag i))]) (fun _ out=>O.set i (.tail 1 out.length)) (fun k _=>l.length-k) (0) ([]) j1 (fun k out hI=>?_);obtain⟨hk,hlen,hR⟩:=hI
 by_cases h:k<l.length
 ·rw[A6 h,cw]at hR
  repeat' first|refine Bh (hg (l[k]) (aK h) _ ((Sub.refl _).set hi)) ?_|refine callP (hg (l[k]) (aK h) _ ((Sub.refl _).set hi)) ?_|refine gz ?_|apply gy<;>intro hh
  ·exact⟨k+1,out++[l[k]],by refine⟨j0,by simp;omega,?_⟩;rw[<-hR];simp[hh],td1,wkR⟩
  ·exact⟨k+1,out,by refine⟨j0,j0,?_⟩;rw[<-hR];simp[hh],td1,wkR⟩
 ·rw[A9 h]at hR;simp at hR;refine gz ?_;exact finS (U':=O) (es:=cI out) ⟨by rw[hR],rfl⟩
def N6(c:Int)(O:Sig):ar prog 395 [dI c] O (rS (.bool (!decide (c=0))) O):=by
 refine en func395 ntmps395 ?_;refine gz ?_;exact fe1 trivial
def Ta(l:eP)(o:Own)(O:Sig)(hl:l.length<=1073741824:=by exact sd):ar prog 384 [.slice (cI l) o] O (rS (sl (cI (l.filter fun c=> !decide (c=0)))) O):=by
 refine en func384 ntmps384 ?_
 repeat' first|refine gz ?_|refine Bh (HE l (fun c=> !decide (c=0)) 395 [] o O hl (fun x _ U' _=>N6 x U')) ?_|refine callP (HE l (fun c=> !decide (c=0)) 395 [] o O hl (fun x _ U' _=>N6 x U')) ?_|refine gz ?_|apply gy<;>intro hh
 exact fe1 trivial
@[reducible,instance] def a384:=fun l o O=>ah1 (@Ta l o O)
def N7(c x:Int)(O:Sig):ar prog 386 [dI c,.ak [dI x] 0] O (rS (.bool (!decide (c=x))) O):=by
 refine en func386 ntmps386 ?_;refine gz ?_;exact fe1 trivial
def parentsF(g:eT)(c:Int):eP:=if c<3 then [] else(g[(c-3).toNat]?).getD []
def AC(orders:eT)(p:Int):eP:=(orders[p.toNat]?).getD []
def D6(orders:eT):eP->Option eT
 |[]=>some []
 |p::r=>if(AC orders p).length=0 then none else(D6 orders r).map ((AC orders p).filter (fun x=> !decide (x=0)) :: ·)
def BH(orders:eT)(ps:eP):Option eT:=(D6 orders ps).map (· ++ [ps])
def Ts(g orders:eT)(c:Int)(o o':Own)(O:Sig)(hl:g.length<=1073741824:=by exact sd)(hc:c<3+g.length:=by exact sd)(fW:(parentsF g c).length<=1073741824:=by exact sd)(hp:∀p∈parentsF g c,0<=p/\p<orders.length)(ho:orders.length<=1073741824:=by exact sd)(gv:∀x∈orders,x.length<=1073741824:=by exact sd):
  ar prog 313 [.slice (cII g) o,.slice (cII orders) o',dI c] O (rS (.tup [sl (cII ((BH orders (parentsF g c)).getD [])),.bool (BH orders (parentsF g c)).isSome]) O):=by
 have gu:=fW;refine en func313 ntmps313 ?_
 repeat' first|refine gz ?_|refine Bh (JO g c o O hl hc) ?_|refine callP (JO g c o O hl hc) ?_|refine gz ?_|apply gy<;>intro hh
 have e0:(if c<3 then [] else(g[(c-3).toNat]?).getD [])=parentsF g c:=rfl;rw[e0];generalize parentsF g c=ps at*;refine ED 8 1 (fun i hi=>?_);refine BO [1,9,40,41,42,43] (fun (k:Nat) (out:eT)=>k<=ps.length/\out.length<=k/\D6 orders ps=(D6 orders (ps.drop k)).map (out ++ ·)) (fun k out=>[(10,dI k),(8,.slice (cII out) (.tag i))]) (fun _ out=>O.set i (.tail 1 out.length)) (fun k _=>ps.length-k) (0) ([]) j1 (fun k out hI=>?_);obtain⟨hk,hlen,hR⟩:=hI
 by_cases h:k<ps.length
 ·obtain⟨gT,gS⟩:=hp _ (aK h);have gc:(ps[k]).toNat<orders.length:=by omega
  have hx:=gv _ (aK gc);have fU:AC orders ps[k]=orders[(ps[k]).toNat]:=by unfold AC;simp[gc]
  rw[A6 h,D6,fU]at hR
  repeat' first|refine gz ?_|apply gy<;>intro hh
  ·have hn:BH orders ps=none:=by unfold BH;rw[hR];simp_all
   exact fe2 (d':=sl []) hn
  ·exact⟨k+1,out++[(orders[(ps[k]).toNat]).filter fun x=> !decide (x=0)],by refine⟨j0,by simp;omega,?_⟩;rw[hR,aE (by simpa using hh),Option.map_map];congr 1;funext z;simp,td1,wkR⟩
 ·rw[A9 h,D6]at hR;have hn:BH orders ps=some (out++[ps]):=by unfold BH;rw[hR];simp
  refine gz ?_;exact fe2 (d':=sl (cII (out++[ps]))) hn
def Y2(x:DE):Prop:= ∃n:Int,x=.ret (.agg [.int .u64 n])
def N9(s c:Int)(O:Sig)(hc:0<=c:=by exact sd):ar prog 342 [.agg [.int .u64 s],dI c] O fun x U'=>Y2 x/\U'=O:=by
 refine en func342 ntmps342 ?_;refine M8 ?_;refine IU ?_;refine boxV (fun i hi=>?_);refine je (fun j hj=>?_);obtain⟨fh,fK⟩:=B2 hj;have fN:i≠j:=fun e=>fh e.symm;refine gf (gi fh (gi fN (PV .u64 .i64 1 c hc))) ?_ o342 [2,4];refine finCE (U':=O) (by simp[resL,fN,fh];with_unfolding_all rfl) ⟨⟨_,rfl⟩,rfl⟩ ?_;exact((((Sub.refl _).set hi).set fK).set hi).set fK
def Tk(s c:Int)(O:Sig):ar prog 343 [.agg [.int .u64 s],.agg [.int .u64 c]] O fun x U'=>Y2 x/\U'=O:=by
 refine en func343 ntmps343 ?_;refine M8 ?_;refine IU ?_;refine boxV (fun i hi=>?_);refine gz ?_ [] [2,4];refine je (fun j hj=>?_);obtain⟨fh,fK⟩:=B2 hj;have fN:i≠j:=fun e=>fh e.symm;refine gf (gi fh fN) ?_ [] [2,4];refine finCE (U':=O) (by simp[resL,fN,fh];with_unfolding_all rfl) ⟨⟨_,rfl⟩,rfl⟩ ?_;exact((((Sub.refl _).set hi).set fK).set hi).set fK
def F4(ig im:Nat)(ps os:eT)(ups:D)(om:List (Int×eP))(c:Nat)(o:Own)(O:Sig)(hg:O ig=some (.cells [.slice (cII ps) o,ups,.map im]))(hm:O im=some (.map (eIO om)))(hc:c<ps.length)
  (hl:ps.length<=1073741824) (fb:(ps[c]).length<=1073741824) (ho:∀p∈ps[c],getM [] p om=AC os p) (fc:∀p∈ps[c],(AC os p).length<=1073741824) :
  ar prog 368 [.ptr ig 0,dI c] O (rS (.tup [sl (cII ((BH os ps[c]).getD [])),.bool (BH os ps[c]).isSome]) O):=by
 refine en func368 ntmps368 ?_;refine gf (gi hg hm) ?_;generalize fW:ps[c]=l at*;refine ED 6 1 (fun i hi=>?_);have eV:ig≠i:=fun e=>by rw[e,hi]at hg;cases hg
 have d8:im≠i:=fun e=>by rw[e,hi]at hm;cases hm
 refine BO ([0,1,15,16]++List.range' 40 10) (fun (k:Nat) (out:eT)=>k<=l.length/\out.length<=k/\D6 os l=(D6 os (l.drop k)).map (out ++ ·)) (fun k out=>[(17,dI k),(6,.slice (cII out) (.tag i))]) (fun _ out=>O.set i (.tail 1 out.length)) (fun k _=>l.length-k) (0) ([]) j1 (fun k out hI=>?_);obtain⟨hk,hlen,hR⟩:=hI
 by_cases h:k<l.length
 ·have fU:=ho _ (aK h);have hx:=fc _ (aK h);rw[A6 h,D6]at hR;refine gf (gi hg (gi hm (gi eV d8))) ?_;refine lkO ?_ (hi:=by rw[w7 _ _ d8];exact hm);rw[fU]
  repeat' first|refine gf (gi hg (gi hm (gi eV d8))) ?_|apply gy<;>intro hh
  ·have hn:BH os l=none:=by unfold BH;rw[hR];simp_all
   exact fe2 (d':=sl []) hn
  ·refine lkO ?_ (hi:=by rw[w7 _ _ d8];exact hm);rw[fU];refine gf (gi hg (gi hm (gi eV d8))) ?_;exact⟨k+1,out++[(AC os l[k]).filter fun x=> !decide (x=0)],by refine⟨j0,by simp;omega,?_⟩;rw[hR,aE (by simpa using hh),Option.map_map];congr 1;funext z;simp,td1,wkR⟩
 ·rw[A9 h,D6]at hR;have hn:BH os l=some (out++[l]):=by unfold BH;rw[hR];simp
  refine gf (gi hg (gi hm (gi eV (gi d8 fW)))) ?_;exact fe2 (d':=sl (cII (out++[l]))) hn
def Gg(l:eT)(o:Own)(O:Sig)(hl:l.length<=1073741824:=by exact sd)(ht:totL l<=1073741824:=by exact sd):
  ar prog 369 [.slice (cII l) o] O (rS (.tup [sl (cI (C3 l).1),.bool (C3 l).2]) O):=by
 refine en func369 ntmps369 ?_;refine gz ?_ o369;refine ED 4 1 (fun i hi=>?_);refine F1 [] (fun (n:Nat) (ls:eT) (out:eP)=>totL ls<n/\out.length+totL ls<=1073741824/\ls.length=l.length/\F0 n ls out=C3 l) (fun _ ls out=>[(0,.slice (cII ls) .no),(4,.slice (cI out) (.tag i))]) (fun _ _ out=>O.set i (.tail 1 out.length)) (fun n _ _=>n) (totL l+1) (l) ([]) (by exact⟨j0,by simpa using ht,rfl,rfl⟩) (fun n ls out hI=>?_);obtain⟨gx,hlen,c9,hR⟩:=hI;obtain⟨n,rfl⟩:∃m,n=m+1:=⟨n-1,j0⟩;have fp:∀x∈ls,x.length<=1073741824:=fun x hx=>by have:=LI hx;omega
 rw[F0]at hR;refine gz ?_ o369;refine BO [2,3,14,15,63,64,65] (fun (q:Nat) (s:Bool)=>q<=ls.length/\EZ ls false ls=EZ ls s (ls.drop q)) (fun q s=>[(5,.bool s),(16,dI q),(0,.slice (cII ls) .no),(4,.slice (cI out) (.tag i))]) (fun _ _=>O.set i (.tail 1 out.length)) (fun q _=>ls.length-q) (0) (false) j1 (fun q s hI=>?_);obtain⟨hq,hA⟩:=hI
 by_cases h:q<ls.length
 ·have hx:=fp _ (aK h);rw[A6 h]at hA;rcases b6:ls[q]with _|⟨y,r⟩
  ·rw[b6,EZ]at hA;refine gf b6 ?_ o369;exact⟨q+1,s,⟨j0,hA⟩,td1,wkR⟩
  ·rw [b6,EZ] at hA;rw[b6]at hx;simp only[aS]at hx;refine gf b6 ?_ o369;refine Bz ([0,2,3,4,5,7,10,11]++List.range' 13 12++List.range' 41 25) (fun (k:Nat)=>k<=ls.length/\Gd (ls.take k) y=true) (fun k=>[(25,dI k)]) (fun _=>O.set i (.tail 1 out.length)) (fun k=>ls.length-k) (0) (by simp[Gd]) (fun k hI=>?_);obtain⟨hk,hF⟩:=hI
   by_cases fJ:k<ls.length
   ·have fV:=fp _ (aK fJ)
    have b7:Gd (ls.take (k+1)) y=(Gd (ls.take k) y&&!decide (y∈ls[k].tail)):=by
     unfold Gd;rw[aU fJ,List.all_append];simp
    rcases fA:ls[k]with _|⟨z,t⟩
    ·rw[fA]at b7;refine gf (gi fA b6) ?_ o369;exact⟨k+1,⟨j0,by rw[b7,hF];simp⟩,td1,wkR⟩
    ·rw[fA]at b7 fV;simp only[aS]at fV
     repeat' first|refine gf (gi fA b6) ?_ o369|apply gy<;>intro hh
     ·have gw:Gd ls y=false:=by
       unfold Gd;rw[List.all_eq_false];refine⟨ls[k],aK fJ,?_⟩;rw[fA];simp[hh]
      rw[gw]at hA;exact⟨q+1,true,⟨j0,by simpa using hA⟩,td1,wkR⟩
     ·exact⟨k+1,⟨j0,by rw[b7,hF];simp[hh]⟩,td1,wkR⟩
   ·have gE:k=ls.length:=by omega
    rw[gE,cH]at hF;rw[hF,aG rfl]at hA;rw[hA]at hR
    replace hR:F0 n (ls.map fun l=>l.filter fun x=> !decide (x=y)) (out++[y])=C3 l:=hR
    obtain⟨e,he,fk⟩:=EY hA;have gD:=LJ fk he;refine gf b6 ?_ o369;refine ED 11 1 (fun j hj=>?_);refine BO ([0,2,3,4,5,7,9,10]++List.range' 14 36++[61,62,63,64,65]) (fun (m:Nat) (acc:eT)=>m<=ls.length/\acc=(ls.take m).map fun l=>l.filter fun x=> !decide (x=y)) (fun m acc=>[(50,dI m),(11,.slice (cII acc) (.tag j))]) (fun _ acc=>(O.set i (.tail 1 (out.length+1))).set j (.tail 1 acc.length)) (fun m _=>ls.length-m) (0) ([]) j1 (fun m acc hI=>?_);obtain⟨hm,b8⟩:=hI;have gM:acc.length=m:=by rw[b8];simp;omega
    by_cases h':m<ls.length
    ·have f8:=fp _ (aK h')
     repeat' first|refine gz ?_|refine Bh (HE (ls[m]) (fun c=> !decide (c=y)) 386 [.ak [dI y] 0] _ _ f8 (fun x _ U' _=>N7 x y U')) ?_|refine callP (HE (ls[m]) (fun c=> !decide (c=y)) 386 [.ak [dI y] 0] _ _ f8 (fun x _ U' _=>N7 x y U')) ?_|refine gz ?_ o369|apply gy<;>intro hh
     exact⟨m+1,acc++[(ls[m]).filter fun x=> !decide (x=y)],⟨j0,by rw[b8,Ek h',bz];rfl⟩,td1,wkR⟩
    ·have gC:m=ls.length:=by omega
     rw[gC,cH]at b8;subst b8;have eU:Sub (O.set i (.tail 1 (out++[y]).length)) ((O.set i (.tail 1 (out.length+1))).set j (.tail 1 (ls.map fun l=>l.filter fun x=> !decide (x=y)).length)):=by rw[aC];exact(Sub.refl _).set (by assumption)
     refine gz ?_ o369;exact⟨n,(ls.map fun l=>l.filter fun x=> !decide (x=y)),(out++[y]),⟨j0,by rw[aC,aT];omega,by simpa using c9,hR⟩,td1,wkR⟩
 ·rw[A9 h,EZ]at hA;rw[hA]at hR
  replace hR:C3 l=(out, !s):=hR.symm
  refine gz ?_ o369;exact fe2 (d':=sl (cI out)) hR
@[reducible,instance] def a369:=fun l o O=>ah2 (@Gg l o O)
def Hx: ∀(n:Nat) (ls:eT) (out:eP),(F0 n ls out).1.length<=out.length+totL ls
 |0,_,_=>eA _ _
 | n+1,ls,out=>by
  rw[F0];cases h:EZ ls false ls with
  | mk a s =>
   cases a with
   |none=>exact eA _ _
   |some c=>
    obtain⟨e,he,fk⟩:=EY h;have h1:=LJ fk he;have h2:=Hx n (ls.map fun l=>l.filter fun x=> !decide (x=c)) (out++[c]);rw[aC,aT]at h2;simp only;omega
def EM(ls:eT):(C3 ls).1.length<=totL ls:=by
 exact dW (Hx (totL ls+1) ls []) j1
def Bv(os:eT)(c:Int)(ps:eP):eP:=
 match BH os ps with
 |none=>[]
 |some ls=>if(C3 ls).2 then c::(C3 ls).1++[0] else []
def Tj(ig im:Nat)(ps os:eT)(ups:D)(om:List (Int×eP))(c:Nat)(o:Own)(O:Sig)(hne:ig≠im)(hg:O ig=some (.cells [.slice (cII ps) o,ups,.map im]))(hm:O im=some (.map (eIO om)))(hc:c<ps.length)(gL:c≠0)
  (hl:ps.length<=1073741824) (fb:(ps[c]).length<=1073741824) (ho:∀p∈ps[c],getM [] p om=AC os p) (fc:∀p∈ps[c],(AC os p).length<=1073741824) (ht:∀ls,BH os ps[c]=some ls->ls.length<=1073741824/\totL ls<=1073741824) :
  ar prog 344 [.ptr ig 0,dI c] O fun x U'=>x=.ret (.tup [])/\U'=if Bv os c ps[c]=[] then O else O.set im (.map (eIO (jS c (Bv os c ps[c]) om))):=by
 have d6:¬(c:Int)=0:=by omega
 refine en func344 ntmps344 ?_;cases c9:BH os ps[c]with
 |none=>
  repeat' first|refine gf (gi d6 (gi hg (gi hm c9))) ?_|refine Bh (F4 ig im ps os ups om c o O hg hm hc hl fb ho fc) ?_|refine callP (F4 ig im ps os ups om c o O hg hm hc hl fb ho fc) ?_|refine gf (gi d6 (gi hg (gi hm c9))) ?_ o344|apply gy<;>intro hh
  exact fin0 (U':=O) ⟨rfl,by simp[Bv,c9]⟩
 | some ls =>
  obtain⟨h1,h2⟩:=ht ls c9;have gU:(C3 ls).1.length<=totL ls:=EM ls
  by_cases fH:(C3 ls).1=[]
  ·repeat' first|refine gf (gi d6 (gi hg (gi hm c9))) ?_|refine Bh (F4 ig im ps os ups om c o O hg hm hc hl fb ho fc) ?_|refine callP (F4 ig im ps os ups om c o O hg hm hc hl fb ho fc) ?_|refine Bh (Gg ls .no O h1 h2) ?_|refine callP (Gg ls .no O h1 h2) ?_|refine gf (gi d6 (gi hg (gi hm c9))) ?_ o344|apply gy<;>intro hh
   refine moApp0 ?_
   repeat' first|refine gz ?_ o344|apply gy<;>intro hh
   refine moAppCW (fun i hi=>?_);have d8:im≠i:=fun h=>by rw[h,hi]at hm;simp at hm
   refine rtl 39 (sl (cI [(c:Int),0])) ?_;refine gf (gi hm d8) ?_ o344;exact fin0 (U':=O.set im (.map (eIO (jS c [(c:Int),0] om)))) ⟨rfl,by rw[Bv,c9];simp[hh,fH]⟩ (Sub.both ((Sub.refl _).set hi));exact fin0 (U':=O) ⟨rfl,by rw[Bv,c9];simp[hh]⟩
  ·repeat' first|refine gf (gi d6 (gi hg (gi hm c9))) ?_|refine Bh (F4 ig im ps os ups om c o O hg hm hc hl fb ho fc) ?_|refine callP (F4 ig im ps os ups om c o O hg hm hc hl fb ho fc) ?_|refine Bh (Gg ls .no O h1 h2) ?_|refine callP (Gg ls .no O h1 h2) ?_|refine gf (gi d6 (gi hg (gi hm c9))) ?_ o344|apply gy<;>intro hh
   refine moAppC (fun i hi=>?_);have d8:im≠i:=fun h=>by rw[h,hi]at hm;simp at hm
   refine gz ?_ o344;refine rtl 39 (sl (cI ((c:Int)::(C3 ls).1++[0]))) ?_ (DC _ (by simp[cI]));refine gf (gi hm d8) ?_ o344;exact fin0 (U':=O.set im (.map (eIO (jS c ((c:Int)::(C3 ls).1++[0]) om)))) ⟨rfl,by rw[Bv,c9];simp[hh]⟩ (Sub.both ((Sub.refl _).set hi));exact fin0 (U':=O) ⟨rfl,by rw[Bv,c9];simp[hh]⟩
def JH{i:Nat}: ∀{l seen:eP},DW i seen l=true->∀p∈l,3<=p/\p<3+i
 |[],_,_,p,hp=>by simp at hp
 |q::r,seen,h,p,hp=>by
  simp only[DW,aF,aH]at h;rcases aY.1 hp with rfl|hp
  ·exact h.1.1
  ·exact JH h.2 p hp
def Gb: ∀{g:eT}{i:Nat},Cq i g=true->∀k (hk:k<g.length),Ih (i+k) g[k]=true
 |l::r,i,h,0,_=>by simp only[Cq,aF]at h;exact h.1
 |l::r,i,h,k+1,hk=>by
  simp only[Cq,aF]at h;have:=Gb h.2 k (by simpa using hk);rw[show i+(k+1)=i+1+k by omega];exact this
def BP{g:eT}(h:Bk g=true)(c:Nat):(parentsF g c).length<=3 /\ ∀p∈parentsF g c,3<=p/\p<c:=by
 simp only[Bk,aF]at h;unfold parentsF;split
 ·simp
 ·rename_i hc
  by_cases hk:(((c:Int)-3).toNat)<g.length
  ·have:=Gb h.2 _ hk;rw[aD hk,ba];simp only[Ih,aF,aH]at this;refine⟨this.1,fun p hp=>?_⟩;have:=JH this.2 p hp;omega
  ·rw[aX j0];simp
def E9{g:eT}(h:Bk g=true):g.length<=16:=by
 simp only[Bk,aF,aH]at h;exact h.1
def ordersN(g:eT):Nat->eT
 |0=>[]
 |n+1=>ordersN g n++[if n=0 then [0] else Bv (ordersN g n) n (parentsF g n)]
def Bj(g:eT): ∀n,(ordersN g n).length=n
 |0=>rfl
 |n+1=>by rw[ordersN,aC,Bj g n];rfl
def FZ(os:eT)(x:eP){p:Int}(hp:0<=p):AC (os++[x]) p=if p=os.length then x else AC os p:=by
 unfold AC
 by_cases h:p.toNat<os.length
 ·rw[bj h,aE j0]
 ·by_cases h2:p=os.length
  ·rw[aG h2,h2];simp
  ·rw[aE h2,aX (by simp;omega),aX j0]
def Jz{os:eT}{M:Nat}: ∀{ps:eP}{ls:eT},D6 os ps=some ls->(∀p∈ps,(AC os p).length<=M)->totL ls<=ps.length*M/\ls.length=ps.length
 |[],ls,h,_=>by simp only[D6,bE]at h;subst h;simp[totL]
 | p::r,ls,h,hM=>by
  rw[D6]at h;split at h
  ·cases h
  ·cases hr:D6 os r with
   |none=>rw[hr]at h;cases h
   |some l2=>
    rw[hr]at h;simp only[bx,bE]at h;subst h;obtain⟨h1,h2⟩:=Jz hr fun q hq=>hM q (cd _ hq);have h3:=hM p (List.mem_cons_self ..);have h4:((AC os p).filter fun x=> !decide (x=0)).length<=(AC os p).length:=dG ..;simp only[totL,aS,cp];omega
def VK(a b:eT):totL (a++b)=totL a+totL b:=by
 induction a with
 |nil=>simp[totL]
 |cons x a ih=>simp only[bH,totL,ih];omega
def G7{os:eT}{M:Nat}{ps:eP}{ls:eT}(h:BH os ps=some ls)(hM:∀p∈ps,(AC os p).length<=M):totL ls<=ps.length*M+ps.length/\ls.length=ps.length+1:=by
 unfold BH at h;cases hr:D6 os ps with
 |none=>rw[hr]at h;cases h
 |some l2=>
  rw[hr]at h;simp only[bx,bE]at h;subst h;obtain⟨h1,h2⟩:=Jz hr hM;rw[VK];simp[totL];omega
def Hp{os:eT}{M:Nat}{c:Int}{ps:eP}(hM:∀p∈ps,(AC os p).length<=M):(Bv os c ps).length<=ps.length*M+ps.length+2:=by
 unfold Bv;cases h:BH os ps with
 |none=>simp
 |some ls=>
  have h1:=(G7 h hM).1;have h2:=EM ls;simp only;split
  ·simp only[aC,aS,cu];omega
  ·simp
def Ho{g:eT}(h:Bk g=true): ∀n, ∀p:Int,0<=p->(AC (ordersN g n) p).length+3<=5*3 ^ (n-4)
 |0,p,_=>by simp[ordersN,AC]
 | n+1,p,hp=>by
  have ih:=Ho h n;have fD:5*3 ^ (n-4)<=5*3 ^ (n+1-4):=Nat.mul_le_mul_left _ (Nat.pow_le_pow_right (by decide) j0);have ff:1<=3 ^ (n+1-4):=Nat.one_le_pow _ _ (by decide);rw[ordersN,FZ _ _ hp,Bj];split
  ·split
   ·rw[aT];omega
   ·obtain⟨g1,g2⟩:=BP h n
    by_cases hn:n<4
    ·have he:parentsF g n=[]:=by
      cases hq:parentsF g n with
      |nil=>rfl
      |cons q r=>have:=g2 q (by rw[hq];simp);omega
     have:=Hp (os:=ordersN g n) (M:=0) (c:=n) (ps:=parentsF g n) (by rw[he];simp);rw[he]at this⊢;simp at this;omega
    ·have:=Hp (os:=ordersN g n) (M:=5*3 ^ (n-4)-3) (c:=n) (ps:=parentsF g n) (fun q hq=>by have:=ih q (by have:=g2 q hq;omega);omega);have e:3 ^ (n+1-4)=3 ^ (n-4)*3:=by rw[show n+1-4=(n-4)+1 by omega,Nat.pow_succ]
     have hh:(parentsF g n).length*(5*3 ^ (n-4)-3)<=3*(5*3 ^ (n-4)-3):=cW _ g1;have fa:1<=3 ^ (n-4):=Nat.one_le_pow _ _ (by decide);rw[e];omega
  ·exact dW (ih p hp) fD
def CQ{g:eT}(h:Bk g=true){n:Nat}(hn:n<=3+g.length){p:Int}(hp:0<=p):(AC (ordersN g n) p).length<=80000000:=by
 have h1:=Ho h n p hp;have h2:3 ^ (n-4)<=3 ^ 15:=Nat.pow_le_pow_right (by decide) (by have:=E9 h;omega);have h3:(3:Nat) ^ 15=14348907:=by decide
 omega
def QK(ig im:Nat)(a b:D)(om:List (Int×eP))(O:Sig)(hg:O ig=some (.cells [a,b,.map im]))(hm:O im=some (.map (eIO om))):
  ar prog 344 [.ptr ig 0,dI 0] O fun x U'=>x=.ret (.tup [])/\U'=O.set im (.map (eIO (jS 0 [0] om))):=by
 refine en func344 ntmps344 ?_;refine gf (gi hg hm) ?_ o344;refine rtl 14 (sl (cI [0])) ?_;refine gf (gi hg hm) ?_ o344;exact fin0 (U':=O.set im (.map (eIO (jS 0 [0] om)))) ⟨rfl,rfl⟩
def PB(ps:eT)(cs:eP)(o o':Own)(O:Sig)(hb:Bk ps=false)(hl:ps.length<=1073741824:=by exact sd)(d5:∀x∈ps,x.length<=1073741824:=by exact sd)(hc:cs.length<=1073741824:=by exact sd):
  ar prog 301 [.slice (cII ps) o,.slice (cI cs) o'] O (rS (.tup [.aq,.bool false]) O):=by
 refine en func301 ntmps301 ?_
 repeat' first|refine gf hb ?_ kg|apply gy<;>intro hh
 any_goals (first|exact fe2 trivial|fail)
def PA(ps:eT)(cs:eP)(o o':Own)(O:Sig)(hb:Bk ps=true)(hx:¬∀c∈cs,0<=c/\c<3+ps.length)(hl:ps.length<=1073741824:=by exact sd)(d5:∀x∈ps,x.length<=1073741824:=by exact sd)(hc:cs.length<=1073741824:=by exact sd):
  ar prog 301 [.slice (cII ps) o,.slice (cI cs) o'] O (rS (.tup [.aq,.bool false]) O):=by
 refine en func301 ntmps301 ?_;refine gf hb ?_ kg;refine Bz ([0,8,9,10,11,13,14,18,19]++List.range' 34 70) (fun (k:Nat)=>k<=cs.length /\ ∀c∈cs.take k,0<=c/\c<3+ps.length) (fun k=>[(20,dI k)]) (fun _=>O) (fun k=>cs.length-k) (0) j1 (fun k hI=>?_);obtain⟨hk,hI⟩:=hI
 by_cases h:k<cs.length
 ·repeat' first|refine gf hb ?_ kg|apply gy<;>intro hh
  ·exact fe2 trivial
  ·exact fe2 trivial
  ·have gO:∀c∈cs.take (k+1),0<=c/\c<3+ps.length:=fun c hc=>by
    rw[Ek h]at hc;rcases bJ.1 hc with hc|hc
    ·exact hI c hc
    ·obtain rfl:=bC.1 hc;omega
   exact⟨k+1,⟨j0,gO⟩,td1,wkR⟩
 ·exfalso
  rw[ck j0]at hI;exact hx hI
def cU(us:eP):eR:=us.map fun n=>[.int .u64 n]
@[simp] theorem cU_length(us:eP):(cU us).length=us.length:=by simp[cU]
@[simp] theorem cU_all(l:eP):(cU l).all (fun c=>c.length==1)=true:=by simp[cU]
def Vv(a b:eP):cU (a++b)=cU a++cU b:=by simp[cU]
@[simp] theorem cU_get(us:eP)(k:Nat):(cU us)[k]? = (us[k]?).map fun n=>[.int .u64 n]:=by simp[cU]
def Tu (ps:eT) (cs:eP) (o o':Own) (O:Sig) (hb:Bk ps=true) (hx : ∀ c ∈ cs,0<=c/\c < 3+ps.length) (hl:ps.length<=1073741824:=by exact sd) (d5 : ∀ x ∈ ps,x.length<=1073741824:=by exact sd) (hc:cs.length<=1073741824:=by exact sd) :
  ar prog 301 [.slice (cII ps) o,.slice (cI cs) o'] O fun x U'=> ∃ig im a b om,ig≠im/\x=.ret (.tup [.ptr ig 0,.bool true])/\U'=(O.set im (.map (eIO om))).set ig (.cells [a,b,.map im])/\O ig=none/\O im=none /\ ∀p:Int,0<=p->getM [] p om=AC (ordersN ps (3+ps.length)) p:=by
 have hlen:=E9 hb;refine en func301 ntmps301 ?_;refine gf hb ?_ kg [40,11];refine Bz ([0,8,9,10,11,13,14,18,19]++List.range' 34 70) (fun (k:Nat)=>k<=cs.length) (fun k=>[(20,dI k)]) (fun _=>O) (fun k=>cs.length-k) (0) j1 (fun k hI=>?_)
 by_cases h:k<cs.length
 ·have fV:=hx _ (aK h);refine gf hb ?_ kg [40,11];exact⟨k+1,j0,td1,wkR⟩
 ·refine gf hb ?_ kg [40,11];refine mmake (k:=3) (c:=3+ps.length) (z:=[.aj]) (sz:=1) (fun ir gW fH=>?_);obtain⟨st0,fe⟩:∃st0:MR,st0=some (ir,3+ps.length,(List.replicate (3+ps.length-3) [D.aj]).flatten):=⟨_,rfl⟩;obtain⟨es0,eX⟩:∃es0,es0=List.replicate 3 [D.aj]:=⟨_,rfl⟩;rw[<-fe,<-eX]at fH⊢;have gB:mD st0 es0.length=.am ir 0 3 (3+ps.length):=by rw[fe,eX];rfl
  have gI:es0.length=3:=by rw[eX];rfl
  refine newIO (fun im fM=>?_);obtain⟨e1,fG⟩:=XR (o:=.map (eIO [])) fH fM;have fX:=SD fM;rw[e1];refine go1 trivial ?_;refine boxV (fun ig fq=>?_);obtain⟨e2,hm2⟩:=XR (o:=.cells [.am ir 0 3 (3+ps.length),.aj,.map im]) fG fq;have fi:=SD fq;have eV:ig≠im:=fun h=>by rw[h,w6]at fi;cases fi
  have gk:ig≠ir:=fun h=>by subst h;simp[mS,fe,w6]at fq
  rw[e2];have fI:=SE hm2 (w6 ..);refine gf (gi gk fI) ?_ kg [40,11];refine mapp (new:=cII ps) (sz:=1) (h1:=by exact gB.symm) (fun st fF=>?_) hm2;clear hm2 fG fH e1 e2 fI fq fM;obtain⟨es1,eW⟩:∃es1,es1=es0++cII ps:=⟨_,rfl⟩;have hN:es0.length+(cII ps).length=es1.length:=by rw[eW,aC]
  have fO:es1.length=3+ps.length:=by rw[eW,aC,gI];simp
  rw[<-eW]at fF⊢;rw[hN]
  obtain⟨i1,c1,fE⟩:∃i1 c1,mD st es1.length=.am i1 0 es1.length c1:=by
   cases st with
   |none=>exact absurd (show es1=[] from fF) (fun h=>by rw[h]at fO;simp at fO;omega)
   |some x=>exact⟨_,_,rfl⟩
  have fI:=SE fF (w6 ..);obtain⟨e3,fS⟩:=mS_put (o:=.cells [mD st es1.length,.aj,.map im]) fF (w6 ..);rw[fE]at e3 fS⊢;rw[w8]at e3 fS;refine gf (gi gk (gi fI e3)) ?_ kg [40,11];refine mfrC (i:=ig) [] [.aj,.map im] ?_ (by rw[fE];exact w6 ..) fS;rw[w8];refine celW (i:=ig) [] [.aj,.map im] (.slice es1 .no) (.slice (cII ([]::[]::[]::ps)) .no) ?_ (w6 ..) (Kv _ ?_);rw[w8];simp only[bG];obtain⟨P,hP⟩:∃P,P=[]::[]::[]::ps:=⟨_,rfl⟩;have eY:P.length=3+ps.length:=by rw[hP];simp;omega
  have gN:∀x∈P,x.length<=1073741824:=by rw[hP];simpa using d5
  have fC:∀c (hc:c<P.length),P[c]=parentsF ps c:=by
   intro c hc;subst hP;unfold parentsF;rcases c with _|_|_|c
   ·rfl
   ·rfl
   ·rfl
   ·simp only[aS]at hc;rw[aE j0,show((((c+1+1+1:Nat)):Int)-3).toNat=c by omega,aD j0];rfl
  rw[<-hP];refine gf eY ?_ kg [40,11];refine Fy ig 1 1 (w6 ..) rfl fun iu gj=>?_;obtain⟨gr,fL⟩:=B2 gj;obtain⟨gq,gh⟩:=B2 fL;clear fF fS fI e3 hN gj fL;have f0:ig≠iu:=fun e=>gr e.symm;have gA:im≠iu:=fun e=>gq e.symm;have d9:im≠ig:=fun e=>eV e.symm;have gH:O ig=none:=(B2 fi).2
  have hS:Sub ((((O.set iu (.tail 1 0)).set im (.map (eIO []))).set ig (.cells [.slice (cII P) .no,.slice [] (.tag iu),.map im]))) ((((O.set im (.map (eIO []))).set ig (.cells [.slice (cII P) .no,.aj,.map im])).set iu (.tail 1 0)).set ig (.cells ([.slice (cII P) .no,.aj,.map im].set 1 (.slice [] (.tag iu))))):=by
   intro k x hk;simp only[Sig.set,List.set]at hk⊢; grind
  refine BO ([4,5,8,14,53,54]++List.range' 91 13) (fun (c:Nat) (us:eP)=>c<=P.length/\us.length=c) (fun c _=>[(55,dI c)]) (fun _ us=>((O.set iu (.tail 1 us.length)).set im (.map (eIO []))).set ig (.cells [.slice (cII P) .no,.slice (cU us) (.tag iu),.map im])) (fun c _=>P.length-c) (0) ([]) j1 (fun c us hI=>?_);obtain⟨gK,gR⟩:=hI
  by_cases fQ:c<P.length
  ·have gQ:=gN _ (aK fQ);have fR:=fC c fQ;refine gf eY ?_ kg [40,11];refine bldZ ?_;refine gz ?_ kg [40,11];refine A3 (N9 0 c _) (fun d U' hx=>?_) (fun d U' hx=>by obtain⟨⟨_,hx⟩,_⟩:=hx;cases hx);obtain⟨⟨n1,hx⟩,rfl⟩:=hx;cases hx
   repeat' first|refine gz ?_ kg [40,11]|apply gy<;>intro hh
   refine A3 (N9 n1 0 _) (fun d U' hx=>?_) (fun d U' hx=>by obtain⟨⟨_,hx⟩,_⟩:=hx;cases hx);obtain⟨⟨n2,hx⟩,rfl⟩:=hx;cases hx
   repeat' first|refine gz ?_ kg [40,11]|apply gy<;>intro hh
   simp only[putD];refine je (fun ia gG=>?_);obtain⟨fy,fZ⟩:=B2 gG;obtain⟨fw,fY⟩:=B2 fZ;obtain⟨fv,gF⟩:=B2 fY;have fu:ig≠ia:=fun e=>fy e.symm;have fo:im≠ia:=fun e=>fw e.symm;have fm:iu≠ia:=fun e=>fv e.symm;refine gf (gi fy (gi fw (gi fv (gi fu (gi fo fm))))) ?_ kg [40,11];refine BO ([4,5,8,9,10,11,14]++List.range' 53 13++List.range' 80 24) (fun (q:Nat) (n:Int)=>q<=(P[c]).length) (fun q _=>[(66,dI q)]) (fun _ n=>(((O.set iu (.tail 1 us.length)).set im (.map (eIO []))).set ig (.cells [.slice (cII P) .no,.slice (cU us) (.tag iu),.map im])).set ia (.cells [.int .u64 n])) (fun q _=>(P[c]).length-q) (0) (n2) j1 (fun q n hI=>?_)
   by_cases hq:q<(P[c]).length
   ·have hp:=(BP hb c).2 (P[c][q]) (by rw[<-fR];exact aK hq);obtain⟨p,gg⟩:∃p:Nat,P[c][q]=(p:Int):=⟨(P[c][q]).toNat,j0⟩;have fb:p<us.length:=by omega
    refine gf (gi fy (gi fw (gi fv (gi fu (gi fo (gi fm gg)))))) ?_ kg [40,11];refine AX (Tk n (us[p]) _) (fun d U' hx=>?_) (fun d U' hx=>by obtain⟨⟨_,hx⟩,_⟩:=hx;cases hx);obtain⟨⟨n3,hx⟩,rfl⟩:=hx;cases hx;refine⟨Sub.refl _,?_⟩;simp only[putD];refine gf (gi fy (gi fw (gi fv (gi fu (gi fo fm))))) ?_ kg [40,11];exact⟨q+1,n3,j0,td1,wkR⟩
   ·refine gf (gi fy (gi fw (gi fv (gi fu (gi fo fm))))) ?_ (ji 20 kg) [40,11];refine CH (id:=20) [0,1,2,3,4,5,6,7,8,9] [7] (((O.set im (.map (eIO []))).set ig (.cells [.slice (cII P) .no,.slice (cU us) (.tag iu),.map im])).set ia (.cells [.int .u64 n])) ?_ ?_
    ·intro k x hk;simp only[Sig.set]at hk⊢; grind
    have eU:Sub (((O.set im (.map (eIO []))).set ig (.cells [.slice (cII P) .no,.slice (cU us) (.tag iu),.map im])).set ia (.cells [.int .u64 n])) (((((O.set iu (.tail 1 us.length)).set im (.map (eIO []))).set ig (.cells [.slice (cII P) .no,.slice (cU us) (.tag iu),.map im])).set ia (.cells [.int .u64 n])).set iu (.tail 1 (us.length+1))):=by
     intro k x hk;simp only[Sig.set]at hk⊢; grind
    iterate 7 refine go1 (And.intro f0 (And.intro fu (And.intro fo fm))) ?_
    refine moEffW (.slice (cU (us++[n])) (.tag iu)) ?_ (he:=by simp(disch:=first|omega|assumption) [w7];and_intros<;>first|rfl|omega) (hC:=eU) (hw:=Cb (by rw[Vv];rfl));refine gf (gi fy (gi fw (gi fv (gi fu (gi fo (gi fm f0)))))) ?_ (ji 20 kg) [40,11]
    have gb:Sub (((O.set iu (.tail 1 (us++[n]).length)).set im (.map (eIO []))).set ig (.cells [.slice (cII P) .no,.slice (cU (us++[n])) (.tag iu),.map im])) ((((((O.set iu (.tail 1 us.length)).set im (.map (eIO []))).set ig (.cells [.slice (cII P) .no,.slice (cU us) (.tag iu),.map im])).set ia (.cells [.int .u64 n])).set iu (.tail 1 (us.length+1))).set ig (.cells [.slice (cII P) .no,.slice (cU (us++[n])) (.tag iu),.map im])):=by
     intro k x hk;rw[aC,aT]at hk;simp only[Sig.set]at hk⊢; grind
    exact⟨c+1,(us++[n]),⟨j0,by rw[aC,aT];omega⟩,td1,wkR⟩
  ·refine gf (gi eY (gi eV (gi f0 (gi gA d9)))) ?_ kg [40,11];generalize go:D.slice (cU us) (.tag iu)=ups
   have ga:Sub ((O.set im (.map (eIO []))).set ig (.cells [.slice (cII P) .no,ups,.map im])) (((O.set iu (.tail 1 us.length)).set im (.map (eIO []))).set ig (.cells [.slice (cII P) .no,ups,.map im])):=by
    intro k x hk;simp only[Sig.set]at hk⊢; grind
   refine BO [4,5,8,95,103] (fun (c:Nat) (om:List (Int×eP))=>c<=P.length /\ ∀p:Int,0<=p->getM [] p om=AC (ordersN ps c) p) (fun c _=>[(96,dI c)]) (fun _ om=>(O.set im (.map (eIO om))).set ig (.cells [.slice (cII P) .no,ups,.map im])) (fun c _=>P.length-c) (0) ([]) (by exact⟨j0,fun p _=>by simp[getM,ordersN,AC]⟩) (fun c om hI=>?_);obtain⟨gK,fg⟩:=hI
   by_cases fQ:c<P.length
   ·have gm:((O.set im (.map (eIO om))).set ig (.cells [.slice (cII P) .no,ups,.map im])) ig=some (.cells [.slice (cII P) .no,ups,.map im]):=w6 ..;have fG:((O.set im (.map (eIO om))).set ig (.cells [.slice (cII P) .no,ups,.map im])) im=some (.map (eIO om)):=by rw[w7 _ _ d9,w6]
    rcases Nat.eq_zero_or_pos c with rfl|gL
    ·refine gf eY ?_ kg [40,11];refine A3 (QK ig im _ _ om _ gm fG) (fun d U' hx=>?_);obtain⟨hx,rfl⟩:=hx;cases hx;simp only[putD];refine gf eY ?_ kg [40,11]
     have eZ:Sub ((O.set im (.map (eIO (jS 0 [0] om)))).set ig (.cells [.slice (cII P) .no,ups,.map im])) (((O.set im (.map (eIO om))).set ig (.cells [.slice (cII P) .no,ups,.map im])).set im (.map (eIO (jS 0 [0] om)))):=by
      intro k x hk;simp only[Sig.set]at hk⊢; grind
     have d7:∀p:Int,0<=p->getM [] p (jS 0 [0] om)=AC (ordersN ps (0+1)) p:=fun p hp=>by
      rw[DA,ordersN,FZ _ _ hp,fg p hp];rfl
     exact⟨0+1,jS 0 [0] om,⟨j0,d7⟩,td1,wkR⟩
    ·have fR:P[c]=parentsF ps c:=fC c fQ;have fB:=BP hb c;rw[<-fR]at fB;have hB:∀p:Int,0<=p->(AC (ordersN ps c) p).length<=80000000:=fun p hp=>CQ hb j0 hp
     have fP:=Tj ig im P (ordersN ps c) ups om c .no ((O.set im (.map (eIO om))).set ig (.cells [.slice (cII P) .no,ups,.map im])) eV gm fG fQ j0 j0 j0
      (fun p hp=>fg p (by have:=fB.2 p hp;omega)) (fun p hp=>by have:=hB p (by have:=fB.2 p hp;omega);omega)
      (fun ls c9=>by
       have h1:=G7 c9 (fun p hp=>hB p (by have:=fB.2 p hp;omega))
       have h2:=fB.1
       have h3:(P[c]).length*80000000<=3*80000000:=cW _ h2
       omega)
     refine gf eY ?_ kg [40,11];refine A3 fP (fun d U' hx=>?_);obtain⟨hx,rfl⟩:=hx;cases hx;simp only[putD]
     have b7:∀p:Int,0<=p->AC (ordersN ps (c+1)) p=if p=c then Bv (ordersN ps c) c P[c] else AC (ordersN ps c) p:=fun p hp=>by
      rw[ordersN,FZ _ _ hp,Bj,aE (by omega:¬c=0),<-fR]
     have eZ:∀om',Sub ((O.set im (.map (eIO om'))).set ig (.cells [.slice (cII P) .no,ups,.map im])) (((O.set im (.map (eIO om))).set ig (.cells [.slice (cII P) .no,ups,.map im])).set im (.map (eIO om'))):=by
      intro om' k x hk;simp only[Sig.set]at hk⊢; grind
     by_cases he:Bv (ordersN ps c) c P[c]=[]
     ·rw[aG he]
      have d7:∀p:Int,0<=p->getM [] p om=AC (ordersN ps (c+1)) p:=fun p hp=>by
       rw[b7 p hp,fg p hp,he];split
       ·rename_i gg;unfold AC;rw[aX (by rw[Bj];omega)];rfl
       ·rfl
      refine gf eY ?_ kg [40,11];exact⟨c+1,om,⟨j0,d7⟩,td1,wkR⟩
     ·rw[aE he]
      have d7:∀p:Int,0<=p->getM [] p (jS c (Bv (ordersN ps c) c P[c]) om)=AC (ordersN ps (c+1)) p:=fun p hp=>by
       rw[b7 p hp,DA,fg p hp]
      have f9:=eZ (jS c (Bv (ordersN ps c) c P[c]) om);refine gf eY ?_ kg [40,11];exact⟨c+1,jS c (Bv (ordersN ps c) c P[c]) om,⟨j0,d7⟩,td1,wkR⟩
   ·have fk:c=3+ps.length:=by omega
    subst fk;refine gf eY ?_ kg [40,11];exact kM (U':=(O.set im (.map (eIO om))).set ig (.cells [.slice (cII P) .no,ups,.map im])) ⟨ig,im,_,_,om,eV,rfl,rfl,gH,fX,fg⟩
  rw[eW,eX];exact⟨⟨Ak _ (.inl rfl),trivial⟩,⟨Ak _ (.inl rfl),trivial⟩,⟨Ak _ (.inl rfl),trivial⟩,ON _⟩
def lineF(g:eT)(c:Int):eP:=AC (ordersN g (3+g.length)) c
def linE(g:eT)(c:Int):Int:=if Bk g=true/\0<=c/\c<3+g.length then(if lineF g c=[] then 7 else 0) else 2
def kY(g:eT)(c:Int):eP:=if Bk g=true/\0<=c/\c<3+g.length then lineF g c else []
def TL(g:eT)(c:Int)(o:Own)(O:Sig)(hl:g.length<=1073741824:=by exact sd)(d5:∀x∈g,x.length<=1073741824:=by exact sd):
  ar prog 252 [.slice (cII g) o,dI c] O (rS (.tup [sl (cI (kY g c)),dI (linE g c)]) O):=by
 refine en func252 ntmps252 ?_
 by_cases hb:Bk g=true
 ·by_cases hc:0<=c/\c<3+g.length
  ·try refine gz ?_
   refine A3 (Tu g [c] o .clip _ hb (by simpa using hc) hl d5 j1) (fun d U' hx=>?_) (fun d U' hx=>by obtain⟨_,_,_,_,_,_,hx,_⟩:=hx;cases hx);obtain⟨ig,im,a,b,om,hne,hx,rfl,fq,fM,fg⟩:=hx;cases hx;simp only[putD];have d9:im≠ig:=fun e=>hne e.symm;have eU:Sub O ((O.set im (.map (eIO om))).set ig (.cells [a,b,.map im])):=((Sub.refl _).set fM).set fq;have gV:(lineF g c).length<=80000000:=CQ hb j0 hc.1;have hL:getM [] c om=lineF g c:=fg c hc.1
   try refine gf d9 ?_
   refine lkO ?_ (hi:=by rw[w7 _ _ d9,w6]);rw[hL]
   by_cases he:lineF g c=[]
   ·try refine gf (gi d9 he) ?_
    (refine kM (U':=O) (d':=sl []) ?_;exact⟨by first|rfl|(simp[kY,linE,hb,hc,he];done)|(simp_all [kY,linE,hb,hc,he];done)|(rw[Ae,aR];simp_all [kY,linE,hb,hc,he]<;>omega),rfl⟩)
   ·repeat' first|refine gf d9 ?_|apply gy<;>intro hh
    ·exfalso;exact he (by simpa using hh)
    ·refine lkO ?_ (hi:=by rw[w7 _ _ d9,w6]);rw[hL]
     repeat' first|refine gf d9 ?_|refine Bh (HF (cI (lineF g c)) .no _ (by simp;omega) (Ck _)) ?_|refine callP (HF (cI (lineF g c)) .no _ (by simp;omega) (Ck _)) ?_|refine gf d9 ?_|apply gy<;>intro hh
     (refine kM (U':=O) ?_;exact⟨by first|rfl|(simp[kY,linE,hb,hc,he];done)|(simp_all [kY,linE,hb,hc,he];done)|(rw[Ae,aR];simp_all [kY,linE,hb,hc,he]<;>omega),rfl⟩)
  ·repeat' first|refine gz ?_|refine Bh (PA g [c] o .clip _ hb (by simpa using hc) hl d5 j1) ?_|refine callP (PA g [c] o .clip _ hb (by simpa using hc) hl d5 j1) ?_|refine gz ?_|apply gy<;>intro hh
   (refine kM (U':=O) (d':=sl []) ?_;exact⟨by first|rfl|(simp[kY,linE,hb,hc];done)|(simp_all [kY,linE,hb,hc];done)|(rw[Ae,aR];simp_all [kY,linE,hb,hc]<;>omega),rfl⟩)
 ·repeat' first|refine gz ?_|refine Bh (PB g [c] o .clip _ (by simpa using hb) hl d5 j1) ?_|refine callP (PB g [c] o .clip _ (by simpa using hb) hl d5 j1) ?_|refine gz ?_|apply gy<;>intro hh
  (refine kM (U':=O) (d':=sl []) ?_;exact⟨by first|rfl|(simp[kY,linE,hb];done)|(simp_all [kY,linE,hb];done)|(rw[Ae,aR];simp_all [kY,linE,hb]<;>omega),rfl⟩)
@[reducible,instance] def a252:=fun g c o O=>ah2 (@TL g c o O)
end Go.DL
