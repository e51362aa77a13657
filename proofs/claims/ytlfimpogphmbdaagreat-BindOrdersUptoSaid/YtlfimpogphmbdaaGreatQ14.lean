/- A part of the proof. -/
import Derived.Test.YtlfimpogphmbdaaGreatQ13
set_option linter.all false
namespace Go.DL
open Go.Proofs.Tryz
open Go Go.Proofs
set_option maxHeartbeats 8000000
theorem UD(n:Int)(V:Sig):au prog 234 [dI n] V (rS (.bool (inB n)) V):=by
 refine en func234 ntmps234 ?_
 repeat' first|refine gz ?_|apply gy<;>intro hh
 any_goals (first|(refine fin1 (S':=V) ?_;exact⟨by first|rfl|(simp[inB];done)|(simp_all [inB];done)|(rw[A5,aO];simp_all [inB]<;>omega),rfl⟩)|fail)
@[reducible,instance] def a234:=fun n V=>ah0 (@UD n V)
theorem UP(n:Int)(V:Sig):au prog 207 [dI n] V (rS (.bool (inB n)) V):=by
 refine en func207 ntmps207 ?_
 repeat' first|refine gz ?_|apply gy<;>intro hh
 any_goals (first|(refine fin1 (S':=V) ?_;exact⟨by first|rfl|(simp[inB];done)|(simp_all [inB];done)|(rw[A5,aO];simp_all [inB]<;>omega),rfl⟩)|fail)
@[reducible,instance] def a207:=fun n V=>ah0 (@UP n V)
theorem Ul(f:Fact)(V:Sig):au prog 298 [.agg (AS f)] V (rS (.bool (C9 f.op)) V):=by
 refine en func298 ntmps298 ?_
 repeat' first|refine gz ?_|apply gy<;>intro hh
 any_goals (first|(refine fin1 (S':=V) ?_;exact⟨by first|rfl|(simp[C9];done)|(simp_all [C9];done)|(rw[A5,aO];simp_all [C9]<;>omega),rfl⟩)|fail)
@[reducible,instance] def a298:=fun f V=>ah0 (@Ul f V)
def By(op:Int):Nat:=if op=5 then 1 else if op=6\/op=7 then 2 else 0
theorem Um(o:Int)(V:Sig):au prog 297 [dI o] V (rS (dI (By o)) V):=by
 refine en func297 ntmps297 ?_
 repeat' first|refine gz ?_|apply gy<;>intro hh
 any_goals (first|(refine fin1 (S':=V) ?_;exact⟨by first|rfl|(simp[By];done)|(simp_all [By];done)|(rw[A5,aO];simp_all [By]<;>omega),rfl⟩)|fail)
@[reducible,instance] def a297:=fun o V=>ah0 (@Um o V)
theorem Vb(b:Bool)(V:Sig):au prog 173 [.bool b] V (rS (dI (if b then 0 else 2)) V):=by
 refine en func173 ntmps173 ?_
 repeat' first|refine gz ?_|apply gy<;>intro hh
 any_goals (first|exact fe1 trivial|fail)
@[reducible,instance] def a173:=fun b V=>ah0 (@Vb b V)
theorem K7(l:fI)(c:Int)(o:Own)(V:Sig)(hl:l.length<=1073741824:=by exact sd)(hc:c<3+l.length:=by exact sd):
  au prog 221 [.slice (cII l) o,dI c] V (rS (sl (cI (if c<3 then [] else(l[(c-3).toNat]?).getD []))) V):=by
 refine en func221 ntmps221 ?_
 by_cases h:c<3
 ·repeat' first|refine gz ?_|apply gy<;>intro hh
  all_goals first|omega|skip
  exact fe1 (d':=sl []) h
 ·have h2:(c-3).toNat<l.length:=by omega
  repeat' first|refine gz ?_|apply gy<;>intro hh
  all_goals first|omega|skip
  exact fe1 (gi h h2)
@[reducible,instance] def a221:=fun l c o V=>ah2 (@K7 l c o V)
theorem UF(w:World)(c:Int)(V:Sig)(hl:w.ag.length<=1073741824:=by exact sd):
  au prog 231 [.agg (C8 w),dI c] V (rS (.bool (decide (0<=c/\c<3+w.ag.length))) V):=by
 refine en func231 ntmps231 ?_
 repeat' first|refine gz ?_|apply gy<;>intro hh
 any_goals (first|exact fe1 trivial|fail)
@[reducible,instance] def a231:=fun w c V=>ah1 (@UF w c V)
theorem UE(w:World)(l:fF)(o:Own)(V:Sig)(hl:w.owner.length<=1073741824:=by exact sd)(fO:l.length<=1073741824:=by exact sd):
  au prog 232 [.agg (C8 w),.slice (cI l) o] V (rS (.bool (l.all (fun s=>decide (0<=s/\s<w.owner.length))&&decide (l.length<=2))) V):=by
 refine en func232 ntmps232 ?_
 refine gz ?_
 refine B5 [1,2,7,8,23,24,25] (fun (k:Nat)=>k<=l.length/\l.all (fun s=>decide (0<=s/\s<w.owner.length))=(l.drop k).all (fun s=>decide (0<=s/\s<w.owner.length))) (fun k=>[(9,dI k)]) (fun _=>V) (fun k=>l.length-k) (0) (by simp) (fun k hI=>?_)
 obtain⟨hk,hR⟩:=hI
 by_cases h:k<l.length
 ·rw[A2 h,bV]at hR
  repeat' first|refine gz ?_|apply gy<;>intro hh
  ·exact fe1 hR
  ·exact fe1 hR
  ·exact⟨k+1,⟨by omega,by rw[hR];simp_all⟩,td1,wkR⟩
 ·rw[A1 h]at hR
  refine gz ?_
  exact fe1 hR
def KD(op:Int):Option Int:=
 if op=1\/op=2\/op=3\/op=6\/op=18 then some 0 else if op=4\/op=8\/op=17 then some 1 else
 if op=7\/op=9\/op=11\/op=12\/op=13\/op=14\/op=15\/op=16 then some 2 else if op=10 then some 3 else none
def Cx(p:aw)(x:aA):Int:=match KD x.op with
 |some k=>k
 |none=>if x.op=5/\0<=x.n/\x.n<p.aj.length then p.aj.getD x.n.toNat 0 else -1
theorem NL{p:aw}{x:aA}(h:x.op=5):Cx p x=if 0<=x.n/\x.n<p.aj.length then p.aj.getD x.n.toNat 0 else -1:=by simp[Cx,KD,h]
theorem V6(p:aw)(x:aA)(V:Sig)(hl:p.aj.length<=1073741824:=by exact sd):
  au prog 181 [.agg (Ai p),.agg (Ab x)] V (rS (dI (Cx p x)) V):=by
 refine en func181 ntmps181 ?_
 repeat' first|refine gz ?_|apply gy<;>intro hh
 any_goals (first|(refine fin1 (S':=V) ?_;exact⟨by first|rfl|(simp[Cx,KD];done)|(simp_all [Cx,KD];done)|(rw[A5,aO];simp_all [Cx,KD]<;>omega),rfl⟩)|fail)
 all_goals (refine fin1 (S':=V) ?_;refine⟨?_,rfl⟩;rw[NL (by assumption)])
 all_goals first|(rw[aN (by omega)];done)|(rw[aS ⟨by assumption,by assumption⟩];simp)
@[reducible,instance] def a181:=fun p x V=>ah1 (@V6 p x V)
def Bn(p:aw)(x:aA)(size:Int):Bool:=
 if x.op=1 then inB x.n else if x.op=3 then decide (0<=x.n/\x.n<size) else if x.op=4\/x.op=7 then decide (0<=x.n/\x.n<p.ae) else
 if x.op=5 then decide (0<=x.n/\x.n<p.aj.length) else if x.op=6\/x.op=8 then decide (3<=x.n/\x.n<3+p.aa.length) else decide (x.n=0)
theorem V5(p:aw)(x:aA)(size:Int)(V:Sig)(hl:p.aj.length<=1073741824:=by exact sd)(hc:p.aa.length<=1073741824:=by exact sd):
  au prog 182 [.agg (Ai p),.agg (Ab x),dI size] V (rS (.bool (Bn p x size)) V):=by
 refine en func182 ntmps182 ?_
 repeat' first|refine gz ?_|apply gy<;>intro hh
 any_goals (first|(refine fin1 (S':=V) ?_;exact⟨by first|rfl|(simp[Bn];done)|(simp_all [Bn];done)|(rw[A5,aO];simp_all [Bn]<;>omega),rfl⟩)|fail)
theorem X1(p:aw)(x:aA)(size:Int)(V:Sig)(hl:p.aj.length<=1073741824:=by exact sd)(hc:p.aa.length<=1073741824:=by exact sd):
  au prog 85 [.agg (Ai p),.agg (Ab x),dI size] V (rS (.bool (Bn p x size)) V):=by
 refine en func85 ntmps85 ?_
 repeat' first|refine gz ?_|apply gy<;>intro hh
 any_goals (first|(refine fin1 (S':=V) ?_;exact⟨by first|rfl|(simp[Bn];done)|(simp_all [Bn];done)|(rw[A5,aO];simp_all [Bn]<;>omega),rfl⟩)|fail)
@[reducible,instance] def a85:=fun p x size V=>ah2 (@X1 p x size V)
def Ex(op:Int):D:=match KD op with
 |some k=>.iface 140 (dI k)
 |none=>if op=5 then .iface 142 (.agg []) else .niliface
theorem X0(op:Int)(V:Sig):au prog 86 [dI op] V (rS (Ex op) V):=by
 refine en func86 ntmps86 ?_
 repeat' first|refine gz ?_|apply gy<;>intro hh
 any_goals (first|(refine fin1 (S':=V) ?_;exact⟨by first|rfl|(simp[Ex,KD];done)|(simp_all [Ex,KD];done)|(rw[A5,aO];simp_all [Ex,KD]<;>omega),rfl⟩)|fail)
@[reducible,instance] def a86:=fun op V=>ah0 (@X0 op V)
def parentsF(g:fI)(c:Int):fF:=if c<3 then [] else(g[(c-3).toNat]?).getD []
def Ax(orders:fI)(p:Int):fF:=(orders[p.toNat]?).getD []
def D0(orders:fI):fF->Option fI
 |[]=>some []
 |p::r=>if(Ax orders p).length=0 then none else(D0 orders r).map ((Ax orders p).filter (fun x=> !decide (x=0)) :: ·)
def BQ(orders:fI)(ps:fF):Option fI:=(D0 orders ps).map (· ++ [ps])
theorem Vo(g orders:fI)(c:Int)(o o':Own)(V:Sig)(hl:g.length<=1073741824:=by exact sd)(hc:c<3+g.length:=by exact sd)(gj:(parentsF g c).length<=1073741824:=by exact sd)(hp:∀p∈parentsF g c,0<=p/\p<orders.length)(ho:orders.length<=1073741824:=by exact sd)(iM:∀x∈orders,x.length<=1073741824:=by exact sd):
  au prog 153 [.slice (cII g) o,.slice (cII orders) o',dI c] V (rS (.tup [sl (cII ((BQ orders (parentsF g c)).getD [])),.bool (BQ orders (parentsF g c)).isSome]) V):=by
 have iK:=gj
 refine en func153 ntmps153 ?_
 repeat' first|refine gz ?_|refine Aq (K7 g c o V hl hc) ?_|refine callP (K7 g c o V hl hc) ?_|refine gz ?_|apply gy<;>intro hh
 have e0:(if c<3 then [] else(g[(c-3).toNat]?).getD [])=parentsF g c:=rfl
 rw[e0]
 generalize parentsF g c=ps at*
 refine Bv 8 1 (fun i hi=>?_)
 refine AB [1,9,40,41,42,43] (fun (k:Nat) (out:fI)=>k<=ps.length/\out.length<=k/\D0 orders ps=(D0 orders (ps.drop k)).map (out ++ ·)) (fun k out=>[(10,dI k),(8,.slice (cII out) (.tag i))]) (fun _ out=>V.set i (.tail 1 out.length)) (fun k _=>ps.length-k) (0) ([]) (by simp) (fun k out hI=>?_)
 obtain⟨hk,hlen,hR⟩:=hI
 by_cases h:k<ps.length
 ·obtain⟨jl,iq⟩:=hp _ (aJ h)
  have g9:(ps[k]).toNat<orders.length:=by omega
  have hx:=iM _ (aJ g9)
  have gP:Ax orders ps[k]=orders[(ps[k]).toNat]:=by unfold Ax;simp[g9]
  rw[A2 h,D0,gP]at hR
  repeat' first|refine gz ?_|apply gy<;>intro hh
  ·have hn:BQ orders ps=none:=by unfold BQ;rw[hR];simp_all
   exact fe2 (d':=sl []) hn
  ·exact⟨k+1,out++[(orders[(ps[k]).toNat]).filter fun x=> !decide (x=0)],by refine⟨by omega,by simp;omega,?_⟩;rw[hR,aN (by simpa using hh),fv];congr 1;funext z;simp,td1,wkR⟩
 ·rw[A1 h,D0]at hR
  have hn:BQ orders ps=some (out++[ps]):=by unfold BQ;rw[hR];simp
  refine gz ?_
  exact fe2 (d':=sl (cII (out++[ps]))) hn
def Yf(x:DE):Prop:= ∃n:Int,x=.ret (.agg [.int .u64 n])
theorem Og(s c:Int)(V:Sig)(hc:0<=c:=by exact sd):au prog 200 [.agg [.int .u64 s],dI c] V fun x S'=>Yf x/\S'=V:=by
 refine en func200 ntmps200 ?_
 refine Kc ?_
 refine HH ?_
 refine boxV (fun i hi=>?_)
 refine newV (fun j hj=>?_)
 obtain⟨ga,gG⟩:=A4 hj
 have gJ:i≠j:=fun e=>ga e.symm
 refine gf (gi ga (gi gJ (R4 .u64 .i64 1 c hc))) ?_ o200 [2,4]
 refine finCE (S':=V) (by simp[resL,gJ,ga];with_unfolding_all rfl) ⟨⟨_,rfl⟩,rfl⟩ ?_
 exact((((Sub.refl _).set hi).set gG).set hi).set gG
theorem UV(s c:Int)(V:Sig):au prog 201 [.agg [.int .u64 s],.agg [.int .u64 c]] V fun x S'=>Yf x/\S'=V:=by
 refine en func201 ntmps201 ?_
 refine Kc ?_
 refine HH ?_
 refine boxV (fun i hi=>?_)
 refine gz ?_ [] [2,4]
 refine newV (fun j hj=>?_)
 obtain⟨ga,gG⟩:=A4 hj
 have gJ:i≠j:=fun e=>ga e.symm
 refine gf (gi ga gJ) ?_ [] [2,4]
 refine finCE (S':=V) (by simp[resL,gJ,ga];with_unfolding_all rfl) ⟨⟨_,rfl⟩,rfl⟩ ?_
 exact((((Sub.refl _).set hi).set gG).set hi).set gG
theorem EP(ig im:Nat)(ps os:fI)(ups:D)(om:List (Int×fF))(c:Nat)(o:Own)(V:Sig)(hg:V ig=some (.cells [.slice (cII ps) o,ups,.map im]))(hm:V im=some (.map (eIO om)))(hc:c<ps.length)
  (hl:ps.length<=1073741824) (f0:(ps[c]).length<=1073741824) (ho:∀p∈ps[c],getM [] p om=Ax os p) (fJ:∀p∈ps[c],(Ax os p).length<=1073741824) :
  au prog 246 [.ptr ig 0,dI c] V (rS (.tup [sl (cII ((BQ os ps[c]).getD [])),.bool (BQ os ps[c]).isSome]) V):=by
 refine en func246 ntmps246 ?_
 refine gf (gi hg hm) ?_
 generalize gj:ps[c]=l at*
 refine Bv 6 1 (fun i hi=>?_)
 have fR:ig≠i:=fun e=>by rw[e,hi]at hg;cases hg
 have fM:im≠i:=fun e=>by rw[e,hi]at hm;cases hm
 refine AB [0,1,15,16,40,41,42,43,44,45,46,47,48,49] (fun (k:Nat) (out:fI)=>k<=l.length/\out.length<=k/\D0 os l=(D0 os (l.drop k)).map (out ++ ·)) (fun k out=>[(17,dI k),(6,.slice (cII out) (.tag i))]) (fun _ out=>V.set i (.tail 1 out.length)) (fun k _=>l.length-k) (0) ([]) (by simp) (fun k out hI=>?_)
 obtain⟨hk,hlen,hR⟩:=hI
 by_cases h:k<l.length
 ·have gP:=ho _ (aJ h)
  have hx:=fJ _ (aJ h)
  rw[A2 h,D0]at hR
  refine gf (gi hg (gi hm (gi fR fM))) ?_
  refine lkO ?_ (hi:=by rw[w8 _ _ fM];exact hm)
  rw[gP]
  repeat' first|refine gf (gi hg (gi hm (gi fR fM))) ?_|apply gy<;>intro hh
  ·have hn:BQ os l=none:=by unfold BQ;rw[hR];simp_all
   exact fe2 (d':=sl []) hn
  ·refine lkO ?_ (hi:=by rw[w8 _ _ fM];exact hm)
   rw[gP]
   refine gf (gi hg (gi hm (gi fR fM))) ?_
   exact⟨k+1,out++[(Ax os l[k]).filter fun x=> !decide (x=0)],by refine⟨by omega,by simp;omega,?_⟩;rw[hR,aN (by simpa using hh),fv];congr 1;funext z;simp,td1,wkR⟩
 ·rw[A1 h,D0]at hR
  have hn:BQ os l=some (out++[l]):=by unfold BQ;rw[hR];simp
  refine gf (gi hg (gi hm (gi fR (gi fM gj)))) ?_
  exact fe2 (d':=sl (cII (out++[l]))) hn
theorem FZ(l:fI)(o:Own)(V:Sig)(hl:l.length<=1073741824:=by exact sd)(ht:totL l<=1073741824:=by exact sd):
  au prog 247 [.slice (cII l) o] V (rS (.tup [sl (cI (C5 l).1),.bool (C5 l).2]) V):=by
 refine en func247 ntmps247 ?_
 refine gz ?_ o247
 refine Bv 4 1 (fun i hi=>?_)
 refine CK [] (fun (n:Nat) (ls:fI) (out:fF)=>totL ls<n/\out.length+totL ls<=1073741824/\ls.length=l.length/\EM n ls out=C5 l) (fun _ ls out=>[(0,.slice (cII ls) .no),(4,.slice (cI out) (.tag i))]) (fun _ _ out=>V.set i (.tail 1 out.length)) (fun n _ _=>n) (totL l+1) (l) ([]) (by exact⟨by omega,by simpa using ht,rfl,rfl⟩) (fun n ls out hI=>?_)
 obtain⟨jm,hlen,d7,hR⟩:=hI
 obtain⟨n,rfl⟩:∃m,n=m+1:=⟨n-1,by omega⟩
 have gS:∀x∈ls,x.length<=1073741824:=fun x hx=>by have:=M7 hx;omega
 rw[EM]at hR
 refine gz ?_ o247
 refine AB [2,3,14,15,63,64,65] (fun (q:Nat) (s:Bool)=>q<=ls.length/\EJ ls false ls=EJ ls s (ls.drop q)) (fun q s=>[(5,.bool s),(16,dI q),(0,.slice (cII ls) .no),(4,.slice (cI out) (.tag i))]) (fun _ _=>V.set i (.tail 1 out.length)) (fun q _=>ls.length-q) (0) (false) (by simp) (fun q s hI=>?_)
 obtain⟨hq,hA⟩:=hI
 by_cases h:q<ls.length
 ·have hx:=gS _ (aJ h)
  rw[A2 h]at hA
  rcases e7:ls[q]with _|⟨y,r⟩
  ·rw[e7,EJ]at hA
   refine gf e7 ?_ o247
   exact⟨q+1,s,⟨by omega,hA⟩,td1,wkR⟩
  ·rw [e7,EJ] at hA
   rw[e7]at hx
   simp only[aP]at hx
   refine gf e7 ?_ o247
   refine B5 [0,2,3,4,5,7,10,11,13,14,15,16,17,18,19,20,21,22,23,24,41,42,43,44,45,46,47,48,49,50,51,52,53,54,55,56,57,58,59,60,61,62,63,64,65] (fun (k:Nat)=>k<=ls.length/\FV (ls.take k) y=true) (fun k=>[(25,dI k)]) (fun _=>V.set i (.tail 1 out.length)) (fun k=>ls.length-k) (0) (by simp[FV]) (fun k hI=>?_)
   obtain⟨hk,hF⟩:=hI
   by_cases gT:k<ls.length
   ·have gQ:=gS _ (aJ gT)
    have d6:FV (ls.take (k+1)) y=(FV (ls.take k) y&&!decide (y∈ls[k].tail)):=by
     unfold FV;rw[bE gT,ed];simp
    rcases gw:ls[k]with _|⟨z,t⟩
    ·rw[gw]at d6
     refine gf (gi gw e7) ?_ o247
     exact⟨k+1,⟨by omega,by rw[d6,hF];simp⟩,td1,wkR⟩
    ·rw[gw]at d6 gQ
     simp only[aP]at gQ
     repeat' first|refine gf (gi gw e7) ?_ o247|apply gy<;>intro hh
     ·have iO:FV ls y=false:=by
       unfold FV
       rw[List.all_eq_false]
       refine⟨ls[k],aJ gT,?_⟩
       rw[gw];simp[hh]
      rw[iO]at hA
      exact⟨q+1,true,⟨by omega,by simpa using hA⟩,td1,wkR⟩
     ·exact⟨k+1,⟨by omega,by rw[d6,hF];simp[hh]⟩,td1,wkR⟩
   ·have iX:k=ls.length:=by omega
    rw[iX,dr]at hF
    rw[hF,aS rfl]at hA
    rw[hA]at hR
    replace hR:EM n (ls.map fun l=>l.filter fun x=> !decide (x=y)) (out++[y])=C5 l:=hR
    obtain⟨e,he,gc⟩:=EI hA
    have jn:=M8 gc he
    refine gf e7 ?_ o247
    refine Bv 11 1 (fun j hj=>?_)
    refine AB [0,2,3,4,5,7,9,10,14,15,16,17,18,19,20,21,22,23,24,25,26,27,28,29,30,31,32,33,34,35,36,37,38,39,40,41,42,43,44,45,46,47,48,49,61,62,63,64,65] (fun (m:Nat) (acc:fI)=>m<=ls.length/\acc=(ls.take m).map fun l=>l.filter fun x=> !decide (x=y)) (fun m acc=>[(50,dI m),(11,.slice (cII acc) (.tag j))]) (fun _ acc=>(V.set i (.tail 1 (out.length+1))).set j (.tail 1 acc.length)) (fun m _=>ls.length-m) (0) ([]) (by simp) (fun m acc hI=>?_)
    obtain⟨hm,fW⟩:=hI
    have jt:acc.length=m:=by rw[fW];simp;omega
    by_cases h':m<ls.length
    ·have gZ:=gS _ (aJ h')
     repeat' first|refine gz ?_|refine Aq (HB (ls[m]) (fun c=> !decide (c=y)) 284 [.am [dI y] 0] _ _ gZ (fun x _ S' _=>O8 x y S')) ?_|refine callP (HB (ls[m]) (fun c=> !decide (c=y)) 284 [.am [dI y] 0] _ _ gZ (fun x _ S' _=>O8 x y S')) ?_|refine gz ?_ o247|apply gy<;>intro hh
     exact⟨m+1,acc++[(ls[m]).filter fun x=> !decide (x=y)],⟨by omega,by rw[fW,AH h',bI];rfl⟩,td1,wkR⟩
    ·have iU:m=ls.length:=by omega
     rw[iU,dr]at fW
     subst fW
     have d9:Sub (V.set i (.tail 1 (out++[y]).length)) ((V.set i (.tail 1 (out.length+1))).set j (.tail 1 (ls.map fun l=>l.filter fun x=> !decide (x=y)).length)):=by rw[aH];exact(Sub.refl _).set (by assumption)
     refine gz ?_ o247
     exact⟨n,(ls.map fun l=>l.filter fun x=> !decide (x=y)),(out++[y]),⟨by omega,by rw[aH,dh];omega,by simpa using d7,hR⟩,td1,wkR⟩
 ·rw[A1 h,EJ]at hA
  rw[hA]at hR
  replace hR:C5 l=(out, !s):=hR.symm
  refine gz ?_ o247
  exact fe2 (d':=sl (cI out)) hR
@[reducible,instance] def a247:=fun l o V=>ah2 (@FZ l o V)
theorem Hx: ∀(n:Nat) (ls:fI) (out:fF),(EM n ls out).1.length<=out.length+totL ls
 |0,_,_=>fk _ _
 | n+1,ls,out=>by
  rw[EM]
  cases h:EJ ls false ls with
  | mk a s =>
   cases a with
   |none=>exact fk _ _
   |some c=>
    obtain⟨e,he,gc⟩:=EI h
    have h1:=M8 gc he
    have h2:=Hx n (ls.map fun l=>l.filter fun x=> !decide (x=c)) (out++[c])
    rw[aH,dh]at h2
    simp only
    omega
theorem Ew(ls:fI):(C5 ls).1.length<=totL ls:=by
 exact dG (Hx (totL ls+1) ls []) (by simp)
def BH(os:fI)(c:Int)(ps:fF):fF:=
 match BQ os ps with
 |none=>[]
 |some ls=>if(C5 ls).2 then c::(C5 ls).1++[0] else []
theorem UU(ig im:Nat)(ps os:fI)(ups:D)(om:List (Int×fF))(c:Nat)(o:Own)(V:Sig)(hne:ig≠im)(hg:V ig=some (.cells [.slice (cII ps) o,ups,.map im]))(hm:V im=some (.map (eIO om)))(hc:c<ps.length)(jc:c≠0)
  (hl:ps.length<=1073741824) (f0:(ps[c]).length<=1073741824) (ho:∀p∈ps[c],getM [] p om=Ax os p) (fJ:∀p∈ps[c],(Ax os p).length<=1073741824) (ht:∀ls,BQ os ps[c]=some ls->ls.length<=1073741824/\totL ls<=1073741824) :
  au prog 202 [.ptr ig 0,dI c] V fun x S'=>x=.ret (.tup [])/\S'=if BH os c ps[c]=[] then V else V.set im (.map (eIO (putM c (BH os c ps[c]) om))):=by
 have fK:¬(c:Int)=0:=by omega
 refine en func202 ntmps202 ?_
 cases d7:BQ os ps[c]with
 |none=>
  repeat' first|refine gf (gi fK (gi hg (gi hm d7))) ?_|refine Aq (EP ig im ps os ups om c o V hg hm hc hl f0 ho fJ) ?_|refine callP (EP ig im ps os ups om c o V hg hm hc hl f0 ho fJ) ?_|refine gf (gi fK (gi hg (gi hm d7))) ?_ o202|apply gy<;>intro hh
  exact fin0 (S':=V) ⟨rfl,by simp[BH,d7]⟩
 | some ls =>
  obtain⟨h1,h2⟩:=ht ls d7
  have iQ:(C5 ls).1.length<=totL ls:=Ew ls
  by_cases f6:(C5 ls).1=[]
  ·repeat' first|refine gf (gi fK (gi hg (gi hm d7))) ?_|refine Aq (EP ig im ps os ups om c o V hg hm hc hl f0 ho fJ) ?_|refine callP (EP ig im ps os ups om c o V hg hm hc hl f0 ho fJ) ?_|refine Aq (FZ ls .no V h1 h2) ?_|refine callP (FZ ls .no V h1 h2) ?_|refine gf (gi fK (gi hg (gi hm d7))) ?_ o202|apply gy<;>intro hh
   refine moApp0 ?_
   repeat' first|refine gz ?_ o202|apply gy<;>intro hh
   refine TA (fun i hi=>?_)
   have fM:im≠i:=fun h=>by rw[h,hi]at hm;simp at hm
   refine rtl 39 (sl (cI [(c:Int),0])) ?_
   refine gf (gi hm fM) ?_ o202
   exact fin0 (S':=V.set im (.map (eIO (putM c [(c:Int),0] om)))) ⟨rfl,by rw[BH,d7];simp[hh,f6]⟩ (Sub.both ((Sub.refl _).set hi))
   exact fin0 (S':=V) ⟨rfl,by rw[BH,d7];simp[hh]⟩
  ·repeat' first|refine gf (gi fK (gi hg (gi hm d7))) ?_|refine Aq (EP ig im ps os ups om c o V hg hm hc hl f0 ho fJ) ?_|refine callP (EP ig im ps os ups om c o V hg hm hc hl f0 ho fJ) ?_|refine Aq (FZ ls .no V h1 h2) ?_|refine callP (FZ ls .no V h1 h2) ?_|refine gf (gi fK (gi hg (gi hm d7))) ?_ o202|apply gy<;>intro hh
   refine Y2 (fun i hi=>?_)
   have fM:im≠i:=fun h=>by rw[h,hi]at hm;simp at hm
   refine gz ?_ o202
   refine rtl 39 (sl (cI ((c:Int)::(C5 ls).1++[0]))) ?_ (C3 _ (by simp[cI]))
   refine gf (gi hm fM) ?_ o202
   exact fin0 (S':=V.set im (.map (eIO (putM c ((c:Int)::(C5 ls).1++[0]) om)))) ⟨rfl,by rw[BH,d7];simp[hh]⟩ (Sub.both ((Sub.refl _).set hi))
   exact fin0 (S':=V) ⟨rfl,by rw[BH,d7];simp[hh]⟩
theorem JU{i:Nat}: ∀{l seen:fF},DI i seen l=true->∀p∈l,3<=p/\p<3+i
 |[],_,_,p,hp=>by simp at hp
 |q::r,seen,h,p,hp=>by
  simp only[DI,aI,aL]at h
  rcases aY.1 hp with rfl|hp
  ·exact h.1.1
  ·exact JU h.2 p hp
theorem FT: ∀{g:fI}{i:Nat},Cm i g=true->∀k (hk:k<g.length),Ib (i+k) g[k]=true
 |l::r,i,h,0,_=>by simp only[Cm,aI]at h;exact h.1
 |l::r,i,h,k+1,hk=>by
  simp only[Cm,aI]at h
  have:=FT h.2 k (by simpa using hk)
  rw[show i+(k+1)=i+1+k by omega];exact this
theorem BI{g:fI}(h:Bu g=true)(c:Nat):(parentsF g c).length<=3 /\ ∀p∈parentsF g c,3<=p/\p<c:=by
 simp only[Bu,aI]at h
 unfold parentsF
 split
 ·simp
 ·rename_i hc
  by_cases hk:(((c:Int)-3).toNat)<g.length
  ·have:=FT h.2 _ hk
   rw[aM hk,bP]
   simp only[Ib,aI,aL]at this
   refine⟨this.1,fun p hp=>?_⟩
   have:=JU this.2 p hp
   omega
  ·rw[bQ (by omega)];simp
theorem DU{g:fI}(h:Bu g=true):g.length<=16:=by
 simp only[Bu,aI,aL]at h;exact h.1
def ordersN(g:fI):Nat->fI
 |0=>[]
 |n+1=>ordersN g n++[if n=0 then [0] else BH (ordersN g n) n (parentsF g n)]
theorem Bi(g:fI): ∀n,(ordersN g n).length=n
 |0=>rfl
 |n+1=>by rw[ordersN,aH,Bi g n];rfl
theorem FJ(os:fI)(x:fF){p:Int}(hp:0<=p):Ax (os++[x]) p=if p=os.length then x else Ax os p:=by
 unfold Ax
 by_cases h:p.toNat<os.length
 ·rw[bx h,aN (by omega)]
 ·by_cases h2:p=os.length
  ·rw[aS h2,h2];simp
  ·rw[aN h2,bQ (by simp;omega),bQ (by omega)]
theorem JK{os:fI}{M:Nat}: ∀{ps:fF}{ls:fI},D0 os ps=some ls->(∀p∈ps,(Ax os p).length<=M)->totL ls<=ps.length*M/\ls.length=ps.length
 |[],ls,h,_=>by simp only[D0,bq]at h;subst h;simp[totL]
 | p::r,ls,h,hM=>by
  rw[D0]at h
  split at h
  ·cases h
  ·cases hr:D0 os r with
   |none=>rw[hr]at h;cases h
   |some l2=>
    rw[hr]at h
    simp only[bG,bq]at h
    subst h
    obtain⟨h1,h2⟩:=JK hr fun q hq=>hM q (ec _ hq)
    have h3:=hM p (List.mem_cons_self ..)
    have h4:((Ax os p).filter fun x=> !decide (x=0)).length<=(Ax os p).length:=dT ..
    simp only[totL,aP,co]
    omega
theorem Wr(a b:fI):totL (a++b)=totL a+totL b:=by
 induction a with
 |nil=>simp[totL]
 |cons x a ih=>simp only[bl,totL,ih];omega
theorem FN{os:fI}{M:Nat}{ps:fF}{ls:fI}(h:BQ os ps=some ls)(hM:∀p∈ps,(Ax os p).length<=M):totL ls<=ps.length*M+ps.length/\ls.length=ps.length+1:=by
 unfold BQ at h
 cases hr:D0 os ps with
 |none=>rw[hr]at h;cases h
 |some l2=>
  rw[hr]at h
  simp only[bG,bq]at h
  subst h
  obtain⟨h1,h2⟩:=JK hr hM
  rw[Wr];simp[totL];omega
theorem Hq{os:fI}{M:Nat}{c:Int}{ps:fF}(hM:∀p∈ps,(Ax os p).length<=M):(BH os c ps).length<=ps.length*M+ps.length+2:=by
 unfold BH
 cases h:BQ os ps with
 |none=>simp
 |some ls=>
  have h1:=(FN h hM).1
  have h2:=Ew ls
  simp only
  split
  ·simp only[aH,aP,cf];omega
  ·simp
theorem Hp{g:fI}(h:Bu g=true): ∀n, ∀p:Int,0<=p->(Ax (ordersN g n) p).length+3<=5*3 ^ (n-4)
 |0,p,_=>by simp[ordersN,Ax]
 | n+1,p,hp=>by
  have ih:=Hp h n
  have gA:5*3 ^ (n-4)<=5*3 ^ (n+1-4):=Nat.mul_le_mul_left _ (Nat.pow_le_pow_right (by decide) (by omega))
  have iL:1<=3 ^ (n+1-4):=Nat.one_le_pow _ _ (by decide)
  rw[ordersN,FJ _ _ hp,Bi]
  split
  ·split
   ·rw[dh];omega
   ·obtain⟨g1,g2⟩:=BI h n
    by_cases hn:n<4
    ·have he:parentsF g n=[]:=by
      cases hq:parentsF g n with
      |nil=>rfl
      |cons q r=>have:=g2 q (by rw[hq];simp);omega
     have:=Hq (os:=ordersN g n) (M:=0) (c:=n) (ps:=parentsF g n) (by rw[he];simp)
     rw[he]at this⊢
     simp at this
     omega
    ·have:=Hq (os:=ordersN g n) (M:=5*3 ^ (n-4)-3) (c:=n) (ps:=parentsF g n) (fun q hq=>by have:=ih q (by have:=g2 q hq;omega);omega)
     have e:3 ^ (n+1-4)=3 ^ (n-4)*3:=by rw[show n+1-4=(n-4)+1 by omega,Nat.pow_succ]
     have hh:(parentsF g n).length*(5*3 ^ (n-4)-3)<=3*(5*3 ^ (n-4)-3):=di _ g1
     have ij:1<=3 ^ (n-4):=Nat.one_le_pow _ _ (by decide)
     rw[e];omega
  ·exact dG (ih p hp) gA
theorem D7{g:fI}(h:Bu g=true){n:Nat}(hn:n<=3+g.length){p:Int}(hp:0<=p):(Ax (ordersN g n) p).length<=80000000:=by
 have h1:=Hp h n p hp
 have h2:3 ^ (n-4)<=3 ^ 15:=Nat.pow_le_pow_right (by decide) (by have:=DU h;omega)
 have h3:(3:Nat) ^ 15=14348907:=by decide
 omega
theorem RT(ig im:Nat)(a b:D)(om:List (Int×fF))(V:Sig)(hg:V ig=some (.cells [a,b,.map im]))(hm:V im=some (.map (eIO om))):
  au prog 202 [.ptr ig 0,dI 0] V fun x S'=>x=.ret (.tup [])/\S'=V.set im (.map (eIO (putM 0 [0] om))):=by
 refine en func202 ntmps202 ?_
 refine gf (gi hg hm) ?_ o202
 refine rtl 14 (sl (cI [0])) ?_
 refine gf (gi hg hm) ?_ o202
 exact fin0 (S':=V.set im (.map (eIO (putM 0 [0] om)))) ⟨rfl,rfl⟩
theorem QJ(ps:fI)(cs:fF)(o o':Own)(V:Sig)(hb:Bu ps=false)(hl:ps.length<=1073741824:=by exact sd)(fO:∀x∈ps,x.length<=1073741824:=by exact sd)(hc:cs.length<=1073741824:=by exact sd):
  au prog 119 [.slice (cII ps) o,.slice (cI cs) o'] V (rS (.tup [.ar,.bool false]) V):=by
 refine en func119 ntmps119 ?_
 repeat' first|refine gf hb ?_ o119|apply gy<;>intro hh
 any_goals (first|exact fe2 trivial|fail)
theorem QI(ps:fI)(cs:fF)(o o':Own)(V:Sig)(hb:Bu ps=true)(hx:¬∀c∈cs,0<=c/\c<3+ps.length)(hl:ps.length<=1073741824:=by exact sd)(fO:∀x∈ps,x.length<=1073741824:=by exact sd)(hc:cs.length<=1073741824:=by exact sd):
  au prog 119 [.slice (cII ps) o,.slice (cI cs) o'] V (rS (.tup [.ar,.bool false]) V):=by
 refine en func119 ntmps119 ?_
 refine gf hb ?_ o119
 refine B5 [0,8,9,10,11,13,14,18,19,34,35,36,37,38,39,40,41,42,43,44,45,46,47,48,49,50,51,52,53,54,55,56,57,58,59,60,61,62,63,64,65,66,67,68,69,70,71,72,73,74,75,76,77,78,79,80,81,82,83,84,85,86,87,88,89,90,91,92,93,94,95,96,97,98,99,100,101,102,103] (fun (k:Nat)=>k<=cs.length /\ ∀c∈cs.take k,0<=c/\c<3+ps.length) (fun k=>[(20,dI k)]) (fun _=>V) (fun k=>cs.length-k) (0) (by simp) (fun k hI=>?_)
 obtain⟨hk,hI⟩:=hI
 by_cases h:k<cs.length
 ·repeat' first|refine gf hb ?_ o119|apply gy<;>intro hh
  ·exact fe2 trivial
  ·exact fe2 trivial
  ·have jf:∀c∈cs.take (k+1),0<=c/\c<3+ps.length:=fun c hc=>by
    rw[AH h]at hc
    rcases bk.1 hc with hc|hc
    ·exact hI c hc
    ·obtain rfl:=bM.1 hc;omega
   exact⟨k+1,⟨by omega,jf⟩,td1,wkR⟩
 ·exfalso
  rw[bA (by omega)]at hI
  exact hx hI
def cU(us:fF):fH:=us.map fun n=>[.int .u64 n]
@[simp] theorem cU_length(us:fF):(cU us).length=us.length:=by simp[cU]
@[simp] theorem cU_all(l:fF):(cU l).all (fun c=>c.length==1)=true:=by simp[cU]
theorem Wd(a b:fF):cU (a++b)=cU a++cU b:=by simp[cU]
@[simp] theorem cU_get(us:fF)(k:Nat):(cU us)[k]? = (us[k]?).map fun n=>[.int .u64 n]:=by simp[cU]
theorem VD (ps:fI) (cs:fF) (o o':Own) (V:Sig) (hb:Bu ps=true) (hx : ∀ c ∈ cs,0<=c/\c < 3+ps.length) (hl:ps.length<=1073741824:=by exact sd) (fO : ∀ x ∈ ps,x.length<=1073741824:=by exact sd) (hc:cs.length<=1073741824:=by exact sd) :
  au prog 119 [.slice (cII ps) o,.slice (cI cs) o'] V fun x S'=> ∃ig im a b om,ig≠im/\x=.ret (.tup [.ptr ig 0,.bool true])/\S'=(V.set im (.map (eIO om))).set ig (.cells [a,b,.map im])/\V ig=none/\V im=none /\ ∀p:Int,0<=p->getM [] p om=Ax (ordersN ps (3+ps.length)) p:=by
 have hlen:=DU hb
 refine en func119 ntmps119 ?_
 refine gf hb ?_ o119 [40,11]
 refine B5 [0,8,9,10,11,13,14,18,19,34,35,36,37,38,39,40,41,42,43,44,45,46,47,48,49,50,51,52,53,54,55,56,57,58,59,60,61,62,63,64,65,66,67,68,69,70,71,72,73,74,75,76,77,78,79,80,81,82,83,84,85,86,87,88,89,90,91,92,93,94,95,96,97,98,99,100,101,102,103] (fun (k:Nat)=>k<=cs.length) (fun k=>[(20,dI k)]) (fun _=>V) (fun k=>cs.length-k) (0) (by simp) (fun k hI=>?_)
 by_cases h:k<cs.length
 ·have gQ:=hx _ (aJ h)
  refine gf hb ?_ o119 [40,11]
  exact⟨k+1,by omega,td1,wkR⟩
 ·refine gf hb ?_ o119 [40,11]
  refine TD (k:=3) (c:=3+ps.length) (z:=[.ak]) (sz:=1) (fun ir jo f6=>?_)
  obtain⟨st0,f7⟩:∃st0:MR,st0=some (ir,3+ps.length,(List.replicate (3+ps.length-3) [D.ak]).flatten):=⟨_,rfl⟩
  obtain⟨es0,fV⟩:∃es0,es0=List.replicate 3 [D.ak]:=⟨_,rfl⟩
  rw[<-f7,<-fV]at f6⊢
  have iR:mD st0 es0.length=.ap ir 0 3 (3+ps.length):=by rw[f7,fV];rfl
  have ja:es0.length=3:=by rw[fV];rfl
  refine newIO (fun im gI=>?_)
  obtain⟨e1,gE⟩:=Y3 (o:=.map (eIO [])) f6 gI
  have gU:=TJ gI
  rw[e1]
  refine go1 trivial ?_
  refine boxV (fun ig gn=>?_)
  obtain⟨e2,gD⟩:=Y3 (o:=.cells [.ap ir 0 3 (3+ps.length),.ak,.map im]) gE gn
  have gb:=TJ gn
  have fR:ig≠im:=fun h=>by rw[h,w7]at gb;cases gb
  have iC:ig≠ir:=fun h=>by subst h;simp[mS,f7,w7]at gn
  rw[e2]
  have gF:=TK gD (w7 ..)
  refine gf (gi iC gF) ?_ o119 [40,11]
  refine mapp (new:=cII ps) (sz:=1) (h1:=by exact iR.symm) (fun st gC=>?_) gD
  clear gD gE f6 e1 e2 gF gn gI
  obtain⟨es1,fU⟩:∃es1,es1=es0++cII ps:=⟨_,rfl⟩
  have hN:es0.length+(cII ps).length=es1.length:=by rw[fU,aH]
  have gK:es1.length=3+ps.length:=by rw[fU,aH,ja];simp
  rw[<-fU]at gC⊢
  rw[hN]
  obtain⟨i1,c1,gB⟩:∃i1 c1,mD st es1.length=.ap i1 0 es1.length c1:=by
   cases st with
   |none=>exact absurd (show es1=[] from gC) (fun h=>by rw[h]at gK;simp at gK;omega)
   |some x=>exact⟨_,_,rfl⟩
  have gF:=TK gC (w7 ..)
  obtain⟨e3,gO⟩:=mS_put (o:=.cells [mD st es1.length,.ak,.map im]) gC (w7 ..)
  rw[gB]at e3 gO⊢
  rw[w9]at e3 gO
  refine gf (gi iC (gi gF e3)) ?_ o119 [40,11]
  refine mfrC (i:=ig) [] [.ak,.map im] ?_ (by rw[gB];exact w7 ..) gO
  rw[w9]
  refine celW (i:=ig) [] [.ak,.map im] (.slice es1 .no) (.slice (cII ([]::[]::[]::ps)) .no) ?_ (w7 ..) (HR _ ?_)
  rw[w9]
  simp only[br]
  obtain⟨P,hP⟩:∃P,P=[]::[]::[]::ps:=⟨_,rfl⟩
  have fX:P.length=3+ps.length:=by rw[hP];simp;omega
  have je:∀x∈P,x.length<=1073741824:=by rw[hP];simpa using fO
  have fP:∀c (hc:c<P.length),P[c]=parentsF ps c:=by
   intro c hc
   subst hP
   unfold parentsF
   rcases c with _|_|_|c
   ·rfl
   ·rfl
   ·rfl
   ·simp only[aP]at hc
    rw[aN (by omega),show((((c+1+1+1:Nat)):Int)-3).toNat=c by omega,aM (by omega)];rfl
  rw[<-hP]
  refine gf fX ?_ o119 [40,11]
  refine Ak ig 1 1 (w7 ..) rfl fun iu iB=>?_
  obtain⟨iJ,gH⟩:=A4 iB
  obtain⟨iI,iz⟩:=A4 gH
  clear gC gO gF e3 hN iB gH
  have gX:ig≠iu:=fun e=>iJ e.symm
  have iP:im≠iu:=fun e=>iI e.symm
  have fN:im≠ig:=fun e=>fR e.symm
  have i0:V ig=none:=(A4 gb).2
  have hS:Sub ((((V.set iu (.tail 1 0)).set im (.map (eIO []))).set ig (.cells [.slice (cII P) .no,.slice [] (.tag iu),.map im]))) ((((V.set im (.map (eIO []))).set ig (.cells [.slice (cII P) .no,.ak,.map im])).set iu (.tail 1 0)).set ig (.cells ([.slice (cII P) .no,.ak,.map im].set 1 (.slice [] (.tag iu))))):=by
   intro k x hk;simp only[Sig.set,List.set]at hk⊢; grind
  refine AB [4,5,8,14,53,54,91,92,93,94,95,96,97,98,99,100,101,102,103] (fun (c:Nat) (us:fF)=>c<=P.length/\us.length=c) (fun c _=>[(55,dI c)]) (fun _ us=>((V.set iu (.tail 1 us.length)).set im (.map (eIO []))).set ig (.cells [.slice (cII P) .no,.slice (cU us) (.tag iu),.map im])) (fun c _=>P.length-c) (0) ([]) (by simp) (fun c us hI=>?_)
  obtain⟨jb,ji⟩:=hI
  by_cases gM:c<P.length
  ·have jh:=je _ (aJ gM)
   have gN:=fP c gM
   refine gf fX ?_ o119 [40,11]
   refine bldZ ?_
   refine gz ?_ o119 [40,11]
   refine Ac (Og 0 c _) (fun d S' hx=>?_) (fun d S' hx=>by obtain⟨⟨_,hx⟩,_⟩:=hx;cases hx)
   obtain⟨⟨n1,hx⟩,rfl⟩:=hx
   cases hx
   repeat' first|refine gz ?_ o119 [40,11]|apply gy<;>intro hh
   refine Ac (Og n1 0 _) (fun d S' hx=>?_) (fun d S' hx=>by obtain⟨⟨_,hx⟩,_⟩:=hx;cases hx)
   obtain⟨⟨n2,hx⟩,rfl⟩:=hx
   cases hx
   repeat' first|refine gz ?_ o119 [40,11]|apply gy<;>intro hh
   simp only[putD]
   refine newV (fun ia iZ=>?_)
   obtain⟨gv,gW⟩:=A4 iZ
   obtain⟨gu,gV⟩:=A4 gW
   obtain⟨gr,iY⟩:=A4 gV
   have go:ig≠ia:=fun e=>gv e.symm
   have gk:im≠ia:=fun e=>gu e.symm
   have gh:iu≠ia:=fun e=>gr e.symm
   refine gf (gi gv (gi gu (gi gr (gi go (gi gk gh))))) ?_ o119 [40,11]
   refine AB [4,5,8,9,10,11,14,53,54,55,56,57,58,59,60,61,62,63,64,65,80,81,82,83,84,85,86,87,88,89,90,91,92,93,94,95,96,97,98,99,100,101,102,103] (fun (q:Nat) (n:Int)=>q<=(P[c]).length) (fun q _=>[(66,dI q)]) (fun _ n=>(((V.set iu (.tail 1 us.length)).set im (.map (eIO []))).set ig (.cells [.slice (cII P) .no,.slice (cU us) (.tag iu),.map im])).set ia (.cells [.int .u64 n])) (fun q _=>(P[c]).length-q) (0) (n2) (by simp) (fun q n hI=>?_)
   by_cases hq:q<(P[c]).length
   ·have hp:=(BI hb c).2 (P[c][q]) (by rw[<-gN];exact aJ hq)
    obtain⟨p,gx⟩:∃p:Nat,P[c][q]=(p:Int):=⟨(P[c][q]).toNat,by omega⟩
    have f0:p<us.length:=by omega
    refine gf (gi gv (gi gu (gi gr (gi go (gi gk (gi gh gx)))))) ?_ o119 [40,11]
    refine C1 (UV n (us[p]) _) (fun d S' hx=>?_) (fun d S' hx=>by obtain⟨⟨_,hx⟩,_⟩:=hx;cases hx)
    obtain⟨⟨n3,hx⟩,rfl⟩:=hx
    cases hx
    refine⟨Sub.refl _,?_⟩
    simp only[putD]
    refine gf (gi gv (gi gu (gi gr (gi go (gi gk gh))))) ?_ o119 [40,11]
    exact⟨q+1,n3,by omega,td1,wkR⟩
   ·refine gf (gi gv (gi gu (gi gr (gi go (gi gk gh))))) ?_ (delO 20 o119) [40,11]
    refine CI (id:=20) [0,1,2,3,4,5,6,7,8,9] [7] (((V.set im (.map (eIO []))).set ig (.cells [.slice (cII P) .no,.slice (cU us) (.tag iu),.map im])).set ia (.cells [.int .u64 n])) ?_ ?_
    ·intro k x hk;simp only[Sig.set]at hk⊢; grind
    have d9:Sub (((V.set im (.map (eIO []))).set ig (.cells [.slice (cII P) .no,.slice (cU us) (.tag iu),.map im])).set ia (.cells [.int .u64 n])) (((((V.set iu (.tail 1 us.length)).set im (.map (eIO []))).set ig (.cells [.slice (cII P) .no,.slice (cU us) (.tag iu),.map im])).set ia (.cells [.int .u64 n])).set iu (.tail 1 (us.length+1))):=by
     intro k x hk;simp only[Sig.set]at hk⊢; grind
    iterate 7 refine go1 (And.intro gX (And.intro go (And.intro gk gh))) ?_
    refine moEffW (.slice (cU (us++[n])) (.tag iu)) ?_ (he:=by simp(disch:=first|omega|assumption) [w8];and_intros<;>first|rfl|omega) (hC:=d9) (hw:=AM (by rw[Wd];rfl))
    refine gf (gi gv (gi gu (gi gr (gi go (gi gk (gi gh gX)))))) ?_ (delO 20 o119) [40,11]
    have g8:Sub (((V.set iu (.tail 1 (us++[n]).length)).set im (.map (eIO []))).set ig (.cells [.slice (cII P) .no,.slice (cU (us++[n])) (.tag iu),.map im])) ((((((V.set iu (.tail 1 us.length)).set im (.map (eIO []))).set ig (.cells [.slice (cII P) .no,.slice (cU us) (.tag iu),.map im])).set ia (.cells [.int .u64 n])).set iu (.tail 1 (us.length+1))).set ig (.cells [.slice (cII P) .no,.slice (cU (us++[n])) (.tag iu),.map im])):=by
     intro k x hk;rw[aH,dh]at hk;simp only[Sig.set]at hk⊢; grind
    exact⟨c+1,(us++[n]),⟨by omega,by rw[aH,dh];omega⟩,td1,wkR⟩
  ·refine gf (gi fX (gi fR (gi gX (gi iP fN)))) ?_ o119 [40,11]
   generalize iH:D.slice (cU us) (.tag iu)=ups
   have g7:Sub ((V.set im (.map (eIO []))).set ig (.cells [.slice (cII P) .no,ups,.map im])) (((V.set iu (.tail 1 us.length)).set im (.map (eIO []))).set ig (.cells [.slice (cII P) .no,ups,.map im])):=by
    intro k x hk;simp only[Sig.set]at hk⊢; grind
   refine AB [4,5,8,95,103] (fun (c:Nat) (om:List (Int×fF))=>c<=P.length /\ ∀p:Int,0<=p->getM [] p om=Ax (ordersN ps c) p) (fun c _=>[(96,dI c)]) (fun _ om=>(V.set im (.map (eIO om))).set ig (.cells [.slice (cII P) .no,ups,.map im])) (fun c _=>P.length-c) (0) ([]) (by exact⟨by omega,fun p _=>by simp[getM,ordersN,Ax]⟩) (fun c om hI=>?_)
   obtain⟨jb,f9⟩:=hI
   by_cases gM:c<P.length
   ·have iD:((V.set im (.map (eIO om))).set ig (.cells [.slice (cII P) .no,ups,.map im])) ig=some (.cells [.slice (cII P) .no,ups,.map im]):=w7 ..
    have gE:((V.set im (.map (eIO om))).set ig (.cells [.slice (cII P) .no,ups,.map im])) im=some (.map (eIO om)):=by rw[w8 _ _ fN,w7]
    rcases Nat.eq_zero_or_pos c with rfl|jc
    ·refine gf fX ?_ o119 [40,11]
     refine Ac (RT ig im _ _ om _ iD gE) (fun d S' hx=>?_) (fun d S' hx=>by cases hx.1)
     obtain⟨hx,rfl⟩:=hx
     cases hx
     simp only[putD]
     refine gf fX ?_ o119 [40,11]
     have fZ:Sub ((V.set im (.map (eIO (putM 0 [0] om)))).set ig (.cells [.slice (cII P) .no,ups,.map im])) (((V.set im (.map (eIO om))).set ig (.cells [.slice (cII P) .no,ups,.map im])).set im (.map (eIO (putM 0 [0] om)))):=by
      intro k x hk;simp only[Sig.set]at hk⊢; grind
     have fL:∀p:Int,0<=p->getM [] p (putM 0 [0] om)=Ax (ordersN ps (0+1)) p:=fun p hp=>by
      rw[Cb,ordersN,FJ _ _ hp,f9 p hp];rfl
     exact⟨0+1,putM 0 [0] om,⟨by omega,fL⟩,td1,wkR⟩
    ·have gN:P[c]=parentsF ps c:=fP c gM
     have e9:=BI hb c
     rw[<-gN]at e9
     have hB:∀p:Int,0<=p->(Ax (ordersN ps c) p).length<=80000000:=fun p hp=>D7 hb (by omega) hp
     have gL:=UU ig im P (ordersN ps c) ups om c .no ((V.set im (.map (eIO om))).set ig (.cells [.slice (cII P) .no,ups,.map im])) fR iD gE gM (by omega) (by omega) (by omega)
      (fun p hp=>f9 p (by have:=e9.2 p hp;omega)) (fun p hp=>by have:=hB p (by have:=e9.2 p hp;omega);omega)
      (fun ls d7=>by
       have h1:=FN d7 (fun p hp=>hB p (by have:=e9.2 p hp;omega))
       have h2:=e9.1
       have h3:(P[c]).length*80000000<=3*80000000:=di _ h2
       omega)
     refine gf fX ?_ o119 [40,11]
     refine Ac gL (fun d S' hx=>?_) (fun d S' hx=>by cases hx.1)
     obtain⟨hx,rfl⟩:=hx
     cases hx
     simp only[putD]
     have d6:∀p:Int,0<=p->Ax (ordersN ps (c+1)) p=if p=c then BH (ordersN ps c) c P[c] else Ax (ordersN ps c) p:=fun p hp=>by
      rw[ordersN,FJ _ _ hp,Bi,aN (by omega:¬c=0),<-gN]
     have fZ:∀om',Sub ((V.set im (.map (eIO om'))).set ig (.cells [.slice (cII P) .no,ups,.map im])) (((V.set im (.map (eIO om))).set ig (.cells [.slice (cII P) .no,ups,.map im])).set im (.map (eIO om'))):=by
      intro om' k x hk;simp only[Sig.set]at hk⊢; grind
     by_cases he:BH (ordersN ps c) c P[c]=[]
     ·rw[aS he]
      have fL:∀p:Int,0<=p->getM [] p om=Ax (ordersN ps (c+1)) p:=fun p hp=>by
       rw[d6 p hp,f9 p hp,he]
       split
       ·rename_i gx
        unfold Ax;rw[bQ (by rw[Bi];omega)];rfl
       ·rfl
      refine gf fX ?_ o119 [40,11]
      exact⟨c+1,om,⟨by omega,fL⟩,td1,wkR⟩
     ·rw[aN he]
      have fL:∀p:Int,0<=p->getM [] p (putM c (BH (ordersN ps c) c P[c]) om)=Ax (ordersN ps (c+1)) p:=fun p hp=>by
       rw[d6 p hp,Cb,f9 p hp]
      have g6:=fZ (putM c (BH (ordersN ps c) c P[c]) om)
      refine gf fX ?_ o119 [40,11]
      exact⟨c+1,putM c (BH (ordersN ps c) c P[c]) om,⟨by omega,fL⟩,td1,wkR⟩
   ·have gc:c=3+ps.length:=by omega
    subst gc
    refine gf fX ?_ o119 [40,11]
    exact fin2 (S':=(V.set im (.map (eIO om))).set ig (.cells [.slice (cII P) .no,ups,.map im])) ⟨ig,im,_,_,om,fR,rfl,rfl,i0,gU,f9⟩
  rw[fU,fV]
  exact⟨⟨Am _ (.inl rfl),trivial⟩,⟨Am _ (.inl rfl),trivial⟩,⟨Am _ (.inl rfl),trivial⟩,PL _⟩
def FO(g:fI)(c:Int):fF:=Ax (ordersN g (3+g.length)) c
def linE(g:fI)(c:Int):Int:=if Bu g=true/\0<=c/\c<3+g.length then(if FO g c=[] then 7 else 0) else 2
def linF(g:fI)(c:Int):fF:=if Bu g=true/\0<=c/\c<3+g.length then FO g c else []
theorem Xg(g:fI)(c:Int)(o:Own)(V:Sig)(hl:g.length<=1073741824:=by exact sd)(fO:∀x∈g,x.length<=1073741824:=by exact sd):
  au prog 50 [.slice (cII g) o,dI c] V (rS (.tup [sl (cI (linF g c)),dI (linE g c)]) V):=by
 refine en func50 ntmps50 ?_
 by_cases hb:Bu g=true
 ·by_cases hc:0<=c/\c<3+g.length
  ·try refine gz ?_
   refine Ac (VD g [c] o .clip _ hb (by simpa using hc) hl fO (by simp)) (fun d S' hx=>?_) (fun d S' hx=>by obtain⟨_,_,_,_,_,_,hx,_⟩:=hx;cases hx)
   obtain⟨ig,im,a,b,om,hne,hx,rfl,gn,gI,f9⟩:=hx
   cases hx
   simp only[putD]
   have fN:im≠ig:=fun e=>hne e.symm
   have d9:Sub V ((V.set im (.map (eIO om))).set ig (.cells [a,b,.map im])):=((Sub.refl _).set gI).set gn
   have iV:(FO g c).length<=80000000:=D7 hb (by omega) hc.1
   have hL:getM [] c om=FO g c:=f9 c hc.1
   try refine gf fN ?_
   refine lkO ?_ (hi:=by rw[w8 _ _ fN,w7])
   rw[hL]
   by_cases he:FO g c=[]
   ·try refine gf (gi fN he) ?_
    (refine fin2 (S':=V) (d':=sl []) ?_;exact⟨by first|rfl|(simp[linF,linE,hb,hc,he];done)|(simp_all [linF,linE,hb,hc,he];done)|(rw[A5,aO];simp_all [linF,linE,hb,hc,he]<;>omega),rfl⟩)
   ·repeat' first|refine gf fN ?_|apply gy<;>intro hh
    ·exfalso;exact he (by simpa using hh)
    ·refine lkO ?_ (hi:=by rw[w8 _ _ fN,w7])
     rw[hL]
     repeat' first|refine gf fN ?_|refine Aq (HD (cI (FO g c)) .no _ (by simp;omega) (BY _)) ?_|refine callP (HD (cI (FO g c)) .no _ (by simp;omega) (BY _)) ?_|refine gf fN ?_|apply gy<;>intro hh
     (refine fin2 (S':=V) ?_;exact⟨by first|rfl|(simp[linF,linE,hb,hc,he];done)|(simp_all [linF,linE,hb,hc,he];done)|(rw[A5,aO];simp_all [linF,linE,hb,hc,he]<;>omega),rfl⟩)
  ·repeat' first|refine gz ?_|refine Aq (QI g [c] o .clip _ hb (by simpa using hc) hl fO (by simp)) ?_|refine callP (QI g [c] o .clip _ hb (by simpa using hc) hl fO (by simp)) ?_|refine gz ?_|apply gy<;>intro hh
   (refine fin2 (S':=V) (d':=sl []) ?_;exact⟨by first|rfl|(simp[linF,linE,hb,hc];done)|(simp_all [linF,linE,hb,hc];done)|(rw[A5,aO];simp_all [linF,linE,hb,hc]<;>omega),rfl⟩)
 ·repeat' first|refine gz ?_|refine Aq (QJ g [c] o .clip _ (by simpa using hb) hl fO (by simp)) ?_|refine callP (QJ g [c] o .clip _ (by simpa using hb) hl fO (by simp)) ?_|refine gz ?_|apply gy<;>intro hh
  (refine fin2 (S':=V) (d':=sl []) ?_;exact⟨by first|rfl|(simp[linF,linE,hb];done)|(simp_all [linF,linE,hb];done)|(rw[A5,aO];simp_all [linF,linE,hb]<;>omega),rfl⟩)
@[reducible,instance] def a50:=fun g c o V=>ah2 (@Xg g c o V)
theorem L3: ∀(n:Nat) (ls:fI) (out:fF) (y:Int),y∈(EM n ls out).1->y∈out \/ ∃l∈ls,y∈l
 |0,_,_,y,h=>.inl h
 | n+1,ls,out,y,h=>by
  rw[EM]at h
  cases hn:EJ ls false ls with
  | mk a s =>
   rw[hn]at h
   cases a with
   |none=>exact .inl h
   | some c =>
    obtain⟨e,he,gc⟩:=EI hn
    rcases L3 n _ _ y h with h|⟨l,hl,hy⟩
    ·rcases bk.1 h with h|h
     ·exact .inl h
     ·rw[bM]at h;exact .inr ⟨e,he,h ▸ gc⟩
    ·obtain⟨l',iW,rfl⟩:=bO.1 hl
     exact .inr ⟨l',iW,(bH.1 hy).1⟩
theorem L6{os:fI}: ∀{ps:fF}{ls:fI},D0 os ps=some ls->∀l∈ls, ∃p∈ps,l=(Ax os p).filter fun x=> !decide (x=0)
 |[],ls,h,l,hl=>by simp only[D0,bq]at h;subst h;cases hl
 | p::r,ls,h,l,hl=>by
  rw[D0]at h
  split at h
  ·cases h
  ·cases hr:D0 os r with
   |none=>rw[hr]at h;cases h
   | some l2 =>
    rw[hr]at h
    simp only[bG,bq]at h
    subst h
    rcases aY.1 hl with rfl|hl
    ·exact⟨p,by simp,rfl⟩
    ·obtain⟨q,hq,e⟩:=L6 hr l hl
     exact⟨q,ec _ hq,e⟩
theorem JJ{os:fI}{ps:fF}{ls:fI}(h:BQ os ps=some ls): ∀l∈ls, ∀y∈l,(∃p∈ps,y∈Ax os p)\/y∈ps:=by
 unfold BQ at h
 cases hr:D0 os ps with
 |none=>rw[hr]at h;cases h
 | some l2 =>
  rw[hr]at h
  simp only[bG,bq]at h
  subst h
  intro l hl y hy
  rcases bk.1 hl with hl|hl
  ·obtain⟨p,hp,rfl⟩:=L6 hr l hl
   exact .inl ⟨p,hp,(bH.1 hy).1⟩
  ·rw[bM]at hl;exact .inr (hl ▸ hy)
theorem GW{os:fI}{p:Int}{y:Int}(h:y∈Ax os p): ∃x∈os,y∈x:=by
 unfold Ax at h
 cases hx:os[p.toNat]? with
 |none=>rw[hx]at h;cases h
 |some x=>rw[hx]at h;exact⟨x,cK hx,h⟩
theorem GV {g:fI} (hg:Bu g=true) : ∀ n, ∀ x ∈ ordersN g n, ∀ y ∈ x,0<=y/\y < (n:Int)
 |0,x,hx=>by cases hx
 | n+1,x,hx=>by
  have ih:=GV hg n
  rw[ordersN]at hx
  intro y hy
  rcases bk.1 hx with hx|hx
  ·have:=ih x hx y hy;omega
  ·rw [bM] at hx
   subst hx
   split at hy
   ·rw[bM]at hy;omega
   ·unfold BH at hy
    cases d7:BQ (ordersN g n) (parentsF g n)with
    |none=>rw[d7]at hy;cases hy
    | some ls =>
     rw[d7]at hy
     simp only at hy
     split at hy
     ·simp only[bl,aY,bk,fm,or_false]at hy
      rcases hy with rfl|hy|rfl
      ·omega
      ·rcases L3 _ _ _ y hy with h|⟨l,hl,iF⟩
       ·cases h
       ·rcases JJ d7 l hl y iF with⟨p,_,h⟩|h
        ·obtain⟨z,hz,h⟩:=GW h;have:=ih z hz y h;omega
        ·have:=(BI hg n).2 y h;omega
      ·omega
     ·cases hy
def ownO:Option Nat->Own
 |none=>.clip
 |some i=>.tag i
def sgO(V:Sig)(n:Nat):Option Nat->Sig
 |none=>V
 |some i=>V.set i (.tail 1 n)
attribute [simp] Bi
@[simp] theorem ownO_none:ownO none=.clip:=rfl
@[simp] theorem FI(i:Nat):ownO (some i)=.tag i:=rfl
@[simp] theorem sgO_none(V:Sig)(n:Nat):sgO V n none=V:=rfl
@[simp] theorem Hj(V:Sig)(n i:Nat):sgO V n (some i)=V.set i (.tail 1 n):=rfl
theorem ME(g:fI)(o:Own)(V:Sig)(hb:Bu g=true)(hl:∀x∈g,x.length<=1073741824:=by exact sd):
  au prog 67 [.slice (cII g) o] V (rS (sl (cII (ordersN g (3+g.length)))) V):=by
 have hlen:=DU hb
 refine en func67 ntmps67 ?_
 try refine gz ?_
 refine rtw 3 (.slice (cII (ordersN g 1)) .clip) ?_ (E6 _ ⟨⟨Ao _ _,trivial⟩,trivial⟩)
 refine AB [0,2,43] (fun (n:Nat) (ow:Option Nat)=>1<=n/\n<=3+g.length /\ ∀i,ow=some i->V i=none) (fun n ow=>[(4,dI n),(3,.slice (cII (ordersN g n)) (ownO ow))]) (fun n ow=>sgO V n ow) (fun n _=>3+g.length-n) (1) (none) (by exact⟨by omega,by omega,by simp⟩) (fun n ow hI=>?_)
 obtain⟨h1,h2,hi⟩:=hI
 by_cases hn:n<3+g.length
 ·have fJ:=Bi g n
  have e9:=BI hb n
  have hB:∀p:Int,0<=p->(Ax (ordersN g n) p).length<=80000000:=fun p hp=>D7 hb (by omega) hp
  have jg:∀x∈ordersN g n,x.length<=1073741824:=fun x hx=>by
   obtain⟨k,hk,rfl⟩:=bh hx
   have:=hB k (by omega)
   unfold Ax at this
   rw[show((k:Int)).toNat=k by omega,aM hk]at this
   simp only[bP]at this
   omega
  have e8:=Vo g (ordersN g n) n o (ownO ow) (sgO V n ow) (by omega) (by omega) (by have:=e9.1;omega) (fun p hp=>by have:=e9.2 p hp;rw[Bi];omega) (by rw[Bi];omega) jg
  have d6:ordersN g (n+1)=ordersN g n++[BH (ordersN g n) n (parentsF g n)]:=by rw[ordersN,aN (by omega)]
  cases d7:BQ (ordersN g n) (parentsF g n)with
  | none =>
   rw[d7]at e8
   have hx:BH (ordersN g n) n (parentsF g n)=[]:=by rw[BH,d7]
   repeat' first|refine gz ?_|refine Aq (e8) ?_|refine callP (e8) ?_|refine gz ?_|apply gy<;>intro hh
   refine rtl 41 (.slice [[sl (cI [])]] .clip) ?_ (E6 _ ⟨⟨Am _ (.inl rfl),trivial⟩,trivial⟩)
   have d8:∀i,WkD (.slice (cII (ordersN g n)++[[sl (cI (BH (ordersN g n) n (parentsF g n)))]]) (.tag i)) (.slice (cII (ordersN g (n+1))) (ownO (some i))):=fun i=>AM (by rw[d6];simp[cII])
   rw[hx]at d8
   rcases ow with _|i
   ·refine appC (fun i fQ=>?_) (hlen:=BR _)
    have hw:=d8 i
    have d9:Sub (sgO V (n+1) (some i)) ((sgO V n none).set i (.tail (tab 23).size ((cII (ordersN g n)).length+[[sl (cI [])]].length))):=AQ (by simp[fJ])
    try refine gz ?_
    exact⟨n+1,some i,⟨by omega,by omega,fun _ e=>by cases e;exact fQ⟩,td1,wkR⟩
   ·have hw:=d8 i
    simp only[FI,Hj]
    try refine gz ?_
    exact⟨n+1,some i,⟨by omega,by omega,fun _ e=>by cases e;exact hi i rfl⟩,td1,wkR⟩
  | some ls =>
   rw[d7]at e8
   have hT:=FN d7 (fun p hp=>hB p (by have:=e9.2 p hp;omega))
   have h3:(parentsF g n).length*80000000<=3*80000000:=di _ e9.1
   have h4:=e9.1
   have fY:=Vn ls .no (sgO V n ow) (fun x hx y hy=>by
    rcases JJ d7 x hx y hy with⟨p,_,h⟩|h
    ·obtain⟨z,hz,h⟩:=GW h;exact(GV hb n z hz y h).1
    ·have:=e9.2 y h;omega) (by omega) (by omega)
   have iQ:=Ew ls
   by_cases f6:(C5 ls).1=[]
   ·repeat' first|refine gz ?_|refine Aq (e8) ?_|refine callP (e8) ?_|refine Aq (fY) ?_|refine callP (fY) ?_|refine gz ?_|apply gy<;>intro hh
    ·have hx:BH (ordersN g n) n (parentsF g n)=[(n:Int),0]:=by rw[BH,d7];simp[hh,f6]
     refine app0 ?_
     try refine gz ?_
     refine appCW (fun j hj=>?_)
     try refine gz ?_
     refine rtl 41 (.slice [[sl (cI [(n:Int),0])]] .clip) ?_
     refine drp (sgO V n ow) ?_ ((Sub.refl _).set hj)
     have d8:∀i,WkD (.slice (cII (ordersN g n)++[[sl (cI (BH (ordersN g n) n (parentsF g n)))]]) (.tag i)) (.slice (cII (ordersN g (n+1))) (ownO (some i))):=fun i=>AM (by rw[d6];simp[cII])
     rw[hx]at d8
     rcases ow with _|i
     ·refine appC (fun i fQ=>?_) (hlen:=BR _)
      have hw:=d8 i
      have d9:Sub (sgO V (n+1) (some i)) ((sgO V n none).set i (.tail (tab 23).size ((cII (ordersN g n)).length+[[sl (cI [])]].length))):=AQ (by simp[fJ])
      try refine gz ?_
      exact⟨n+1,some i,⟨by omega,by omega,fun _ e=>by cases e;exact fQ⟩,td1,wkR⟩
     ·have hw:=d8 i
      simp only[FI,Hj]
      try refine gz ?_
      exact⟨n+1,some i,⟨by omega,by omega,fun _ e=>by cases e;exact hi i rfl⟩,td1,wkR⟩
    ·have hx:BH (ordersN g n) n (parentsF g n)=[]:=by rw[BH,d7];simp[hh]
     refine rtl 41 (.slice [[sl (cI [])]] .clip) ?_ (E6 _ ⟨⟨Am _ (.inl rfl),trivial⟩,trivial⟩)
     have d8:∀i,WkD (.slice (cII (ordersN g n)++[[sl (cI (BH (ordersN g n) n (parentsF g n)))]]) (.tag i)) (.slice (cII (ordersN g (n+1))) (ownO (some i))):=fun i=>AM (by rw[d6];simp[cII])
     rw[hx]at d8
     rcases ow with _|i
     ·refine appC (fun i fQ=>?_) (hlen:=BR _)
      have hw:=d8 i
      have d9:Sub (sgO V (n+1) (some i)) ((sgO V n none).set i (.tail (tab 23).size ((cII (ordersN g n)).length+[[sl (cI [])]].length))):=AQ (by simp[fJ])
      try refine gz ?_
      exact⟨n+1,some i,⟨by omega,by omega,fun _ e=>by cases e;exact fQ⟩,td1,wkR⟩
     ·have hw:=d8 i
      simp only[FI,Hj]
      try refine gz ?_
      exact⟨n+1,some i,⟨by omega,by omega,fun _ e=>by cases e;exact hi i rfl⟩,td1,wkR⟩
   ·repeat' first|refine gz ?_|refine Aq (e8) ?_|refine callP (e8) ?_|refine Aq (fY) ?_|refine callP (fY) ?_|refine gz ?_|apply gy<;>intro hh
    ·have hx:BH (ordersN g n) n (parentsF g n)=(n:Int)::(C5 ls).1++[0]:=by rw[BH,d7];simp[hh]
     refine appC (fun j hj=>?_) (hne:=by simp[cI];exact f6)
     try refine gz ?_
     refine rtl 41 (.slice [[sl (cI ((n:Int)::(C5 ls).1++[0]))]] .clip) ?_ (E6 _ ⟨⟨C3 _ (by simp[cI]),trivial⟩,trivial⟩)
     refine drp (sgO V n ow) ?_ ((Sub.refl _).set hj)
     have d8:∀i,WkD (.slice (cII (ordersN g n)++[[sl (cI (BH (ordersN g n) n (parentsF g n)))]]) (.tag i)) (.slice (cII (ordersN g (n+1))) (ownO (some i))):=fun i=>AM (by rw[d6];simp[cII])
     rw[hx]at d8
     rcases ow with _|i
     ·refine appC (fun i fQ=>?_) (hlen:=BR _)
      have hw:=d8 i
      have d9:Sub (sgO V (n+1) (some i)) ((sgO V n none).set i (.tail (tab 23).size ((cII (ordersN g n)).length+[[sl (cI [])]].length))):=AQ (by simp[fJ])
      try refine gz ?_
      exact⟨n+1,some i,⟨by omega,by omega,fun _ e=>by cases e;exact fQ⟩,td1,wkR⟩
     ·have hw:=d8 i
      simp only[FI,Hj]
      try refine gz ?_
      exact⟨n+1,some i,⟨by omega,by omega,fun _ e=>by cases e;exact hi i rfl⟩,td1,wkR⟩
    ·have hx:BH (ordersN g n) n (parentsF g n)=[]:=by rw[BH,d7];simp[hh]
     refine rtl 41 (.slice [[sl (cI [])]] .clip) ?_ (E6 _ ⟨⟨Am _ (.inl rfl),trivial⟩,trivial⟩)
     have d8:∀i,WkD (.slice (cII (ordersN g n)++[[sl (cI (BH (ordersN g n) n (parentsF g n)))]]) (.tag i)) (.slice (cII (ordersN g (n+1))) (ownO (some i))):=fun i=>AM (by rw[d6];simp[cII])
     rw[hx]at d8
     rcases ow with _|i
     ·refine appC (fun i fQ=>?_) (hlen:=BR _)
      have hw:=d8 i
      have d9:Sub (sgO V (n+1) (some i)) ((sgO V n none).set i (.tail (tab 23).size ((cII (ordersN g n)).length+[[sl (cI [])]].length))):=AQ (by simp[fJ])
      try refine gz ?_
      exact⟨n+1,some i,⟨by omega,by omega,fun _ e=>by cases e;exact fQ⟩,td1,wkR⟩
     ·have hw:=d8 i
      simp only[FI,Hj]
      try refine gz ?_
      exact⟨n+1,some i,⟨by omega,by omega,fun _ e=>by cases e;exact hi i rfl⟩,td1,wkR⟩
 ·have hne:n=3+g.length:=by omega
  subst hne
  have d9:Sub V (sgO V (3+g.length) ow):=by
   rcases ow with _|i
   ·exact Sub.refl _
   ·exact(Sub.refl _).set (hi i rfl)
  try refine gz ?_
  exact fe1 (d':=sl (cII (ordersN g (3+g.length)))) trivial
@[reducible,instance] def a67:=fun g o V=>ah2 (@ME g o V)
theorem Xp(g:fI)(c:Int)(o:Own)(V:Sig)(hb:Bu g=true)(hc:0<=c/\c<3+g.length)(hl:∀x∈g,x.length<=1073741824:=by exact sd):
  au prog 33 [.slice (cII g) o,dI c] V (rS (.tup [sl (cI (FO g c)),.bool (decide (0<(FO g c).length))]) V):=by
 obtain⟨k,rfl⟩:∃k:Nat,c=(k:Int):=⟨c.toNat,by omega⟩
 have hk:k<3+g.length:=by omega
 have hlen:=DU hb
 have hL:(ordersN g (3+g.length))[k]'(by simpa using hk)=FO g k:=by
  unfold FO Ax
  rw[show((k:Int)).toNat=k by omega,aM (by simpa using hk)];rfl
 have iV:(FO g k).length<=80000000:=D7 hb (by omega) hc.1
 have fJ:=Bi g (3+g.length)
 refine en func33 ntmps33 ?_
 repeat' first|refine gf hL ?_|refine Aq (ME g o V hb hl) ?_|refine callP (ME g o V hb hl) ?_|refine gf hL ?_|apply gy<;>intro hh
 exact fe2 trivial
def Be(bs:List Bool):fE:=bs.map .bool
@[simp] theorem XK(bs:List Bool):(Be bs).length=bs.length:=by simp[Be]
@[simp] theorem boolsD_get(bs:List Bool)(k:Nat):(Be bs)[k]? = (bs[k]?).map .bool:=by simp[Be]
theorem SI(bs:List Bool)(k:Nat)(b:Bool):(Be bs).set k (.bool b)=Be (bs.set k b):=by simp[Be]
@[simp] theorem boolsD_put(bs:List Bool)(k:Nat)(b:Bool)(h:k<bs.length):(Be bs).take k ++ .bool b::(Be bs).drop (k+1)=Be (bs.set k b):=by
 rw[<-SI,cr,aS (by simpa using h)]
def Gx(k:Nat):fF->List Bool->List Bool
 |[],bs=>bs
 |p::r,bs=>Gx k r (bs.set p.toNat (bs.getD p.toNat false||bs.getD k false))
def upD(g:fI):Nat->List Bool->List Bool
 |0,bs=>bs
 |j+1,bs=>upD g j (Gx (j+3) (parentsF g (j+3:Nat)) bs)
def upF(g:fI)(c:Int):List Bool:=upD g (c.toNat-2) ((List.replicate (3+g.length) false).set c.toNat true)
theorem Ut(w:World)(c:Int)(V:Sig)(hb:Bu w.ag=true)(hc:0<=c/\c<3+w.ag.length):
  au prog 273 [.agg (C8 w),dI c] V fun x S'=> ∃i,x=.ret (.ap i 0 (3+w.ag.length) (3+w.ag.length))/\V i=none/\S'=V.set i (.cells (Be (upF w.ag c))):=by
 have hlen:=DU hb
 obtain⟨k,rfl⟩:∃k:Nat,c=(k:Int):=⟨c.toNat,by omega⟩
 refine en func273 ntmps273 ?_
 try refine gz ?_
 refine TD (k:=3+w.ag.length) (c:=3+w.ag.length) (z:=[.bool false]) (sz:=1) (fun i hi hm=>?_)
 have e0:mS V (some (i,3+w.ag.length,(List.replicate (3+w.ag.length-(3+w.ag.length)) [D.bool false]).flatten)) (List.replicate (3+w.ag.length) [D.bool false])=V.set i (.cells (Be (List.replicate (3+w.ag.length) false))):=by
  simp only[mS,eg,eV,eB,bb]
  congr 2
  generalize 3+w.ag.length=m
  induction m with
  |zero=>rfl
  |succ m ih=>rw[cO,cO,cy,ih];rfl
 rw[e0]
 generalize iE:List.replicate (3+w.ag.length) false=b0
 have iy:b0.length=3+w.ag.length:=by rw[<-iE];simp
 try refine gf iy ?_
 refine AB [2,4,5,47] (fun (m:Nat) (bs:List Bool)=>m<=k/\bs.length=3+w.ag.length/\upD w.ag (m-2) bs=upF w.ag k) (fun m _=>[(6,dI m)]) (fun _ bs=>V.set i (.cells (Be bs))) (fun m _=>m) (k) (b0.set k true) (by exact⟨bm _,by simpa using iy,by rw[upF,<-iE];rfl⟩) (fun m bs hI=>?_)
 obtain⟨hm,jd,hU⟩:=hI
 have jq:(V.set i (.cells (Be bs))) i=some (.cells (Be bs)):=w7 ..
 by_cases h3:3<=m
 ·obtain⟨j,hj⟩:∃j,m=j+3:=⟨m-3,by omega⟩
  have fP:w.ag[j]'(by omega)=parentsF w.ag m:=by
   unfold parentsF
   rw[aN (by omega),show((m:Int)-3).toNat=j by omega,aM (by omega)];rfl
  have e9:=BI hb m
  rw[show m-2=j+1 by omega,upD,<-hj]at hU
  rw[<-fP]at hU e9
  have e3:(m:Int)-3=j:=by omega
  generalize gj:w.ag[j]'(by omega)=ps at hU e9
  try refine gf (gi e3 gj) ?_
  refine AB [2,4,5,6,18,19,20,21,22,23,24,25,26,27,28,47] (fun (q:Nat) (b2:List Bool)=>q<=ps.length/\b2.length=3+w.ag.length/\Gx m ps bs=Gx m (ps.drop q) b2) (fun q _=>[(29,dI q)]) (fun _ b2=>V.set i (.cells (Be b2))) (fun q _=>ps.length-q) (0) (bs) (by exact⟨by omega,jd,rfl⟩) (fun q b2 hI=>?_)
  obtain⟨hq,gg,hR⟩:=hI
  have jp:(V.set i (.cells (Be b2))) i=some (.cells (Be b2)):=w7 ..
  by_cases gR:q<ps.length
  ·have hp:=e9.2 _ (aJ gR)
   rw[A2 gR,Gx]at hR
   obtain⟨p,gx⟩:∃p:Nat,ps[q]=(p:Int):=⟨(ps[q]).toNat,by omega⟩
   rw[gx]at hR hp
   have gD:m<b2.length:=by omega
   have iq:p<b2.length:=by omega
   rw[show((p:Int)).toNat=p by omega,bg,bg,aM gD,aM iq,bP,bP]at hR
   repeat' first|refine gf (gi e3 (gi gj gx)) ?_|apply gy<;>intro hh
   ·rw[hh,Bool.true_or]at hR
    exact⟨q+1,b2.set p true,⟨by omega,by simpa using gg,hR⟩,td1,wkR⟩
   ·rw[hh,dc]at hR
    exact⟨q+1,b2.set p b2[m],⟨by omega,by simpa using gg,hR⟩,td1,wkR⟩
  ·rw[A1 gR,Gx]at hR
   rw[hR]at hU
   try refine gz ?_
   exact⟨m-1,b2,⟨by omega,gg,by rw[show m-1-2=j by omega];exact hU⟩,td1,wkR⟩
 ·rw[show m-2=0 by omega,upD]at hU
  subst hU
  try refine gz ?_
  exact fin1 (S':=V.set i (.cells (Be (upF w.ag k)))) ⟨i,rfl,hi,rfl⟩
theorem Dv(k:Nat): ∀(ps:fF) (bs:List Bool),(Gx k ps bs).length=bs.length
 |[],_=>rfl
 |p::r,bs=>by rw[Gx,Dv k r,ce]
theorem KP(g:fI): ∀(j:Nat) (bs:List Bool),(upD g j bs).length=bs.length
 |0,_=>rfl
 |j+1,bs=>by rw[upD,KP g j,Dv]
theorem Ra(g:fI)(c:Int):(upF g c).length=3+g.length:=by rw[upF,KP,ce,bu]
def Ix(g:fI)(a b:Int):Bool:=decide (a=b)||decide (b=0)||(decide (3<=a)&&(upF g a).getD b.toNat false)
theorem K6(w:World)(a b:Int)(V:Sig)(hb:Bu w.ag=true)(ha:0<=a/\a<3+w.ag.length)(jr:0<=b/\b<3+w.ag.length):
  au prog 230 [.agg (C8 w),dI a,dI b] V (rS (.bool (Ix w.ag a b)) V):=by
 have hlen:=DU hb
 obtain⟨k,rfl⟩:∃k:Nat,b=(k:Int):=⟨b.toNat,by omega⟩
 have jk:=Ra w.ag a
 have hk:k<(upF w.ag a).length:=by omega
 have gY:(upF w.ag a).getD k false=(upF w.ag a)[k]:=by rw[bg,aM hk];rfl
 refine en func230 ntmps230 ?_
 by_cases h1:a=(k:Int)\/(k:Int)=0
 ·have e:Ix w.ag a k=true:=by
   unfold Ix
   rcases h1 with h1|h1<;>simp[h1]
  repeat' first|refine gz ?_|apply gy<;>intro hh
  any_goals (first|exact fe1 e|fail)
 ·have e:Ix w.ag a k=(decide (3<=a)&&(upF w.ag a)[k]):=by
   unfold Ix
   rw[show((k:Int)).toNat=k by omega,gY]
   simp only[dU]at h1
   rw[aV h1.1,aV h1.2];rfl
  by_cases h3:3<=a
  ·try refine gz ?_
   refine Ac (Ut w a _ hb ha) (fun d S' hx=>?_) (fun d S' hx=>by obtain⟨_,hx,_⟩:=hx;cases hx)
   obtain⟨i,hx,hi,rfl⟩:=hx
   cases hx
   simp only[putD]
   try refine gz ?_
   exact fe1 (gi e h3)
  ·try refine gz ?_
   exact fe1 (gi e h3)
@[reducible,instance] def a230:=fun w a b V=>ah3 (@K6 w a b V)
def hasW(w:World)(c s:Int):Bool:=decide (3<=c)&&Ix w.ag c ((w.owner[s.toNat]?).getD 0)
theorem V8(w:World)(c s:Int)(V:Sig)(hb:Bu w.ag=true)(hc:0<=c/\c<3+w.ag.length)(hs:0<=s/\s<w.owner.length)(ho:∀x∈w.owner,0<=x/\x<3+w.ag.length):
  au prog 176 [.agg (C8 w),dI c,dI s] V (rS (.bool (hasW w c s)) V):=by
 have hlen:=DU hb
 obtain⟨k,rfl⟩:∃k:Nat,s=(k:Int):=⟨s.toNat,by omega⟩
 have hk:k<w.owner.length:=by omega
 have iv:=ho _ (aJ hk)
 have e:hasW w c k=(decide (3<=c)&&Ix w.ag c (w.owner[k])):=by
  unfold hasW;rw[show((k:Int)).toNat=k by omega,aM hk];rfl
 refine en func176 ntmps176 ?_
 by_cases h3:3<=c
 ·repeat' first|refine gz ?_|refine moRG (K6 w c (w.owner[k]) V hb hc iv) ?_|refine moPG (K6 w c (w.owner[k]) V hb hc iv) ?_|refine gz ?_ o176|apply gy<;>intro hh
  exact fe1 (gi e h3)
 ·try refine gz ?_ o176
  exact fe1 (gi e h3)
@[reducible,instance] def a176:=fun w c s V=>ah4 (@V8 w c s V)
end Go.DL
