/- A part of the proof. -/
import Derived.Test.YteldimffglchkaaGreatDoorN11
import Derived.Test.YteldimffglchkaaGreatDoorN09
import Derived.Test.YteldimffglchkaaGreatDoorN10
set_option linter.all false
namespace Go.DL
open Go.Proofs.Tryz
open Go Go.Proofs
set_option maxHeartbeats 8000000
theorem PV{xs bs:List D}(h:WkL xs bs):WkD (.agg xs) (.agg bs):=by
 rintro g v ⟨vs,e,r⟩
 exact⟨vs,e,h.rep r⟩
def ownersF:List BClass->Nat->List Int
 |[],_=>[]
 |c::r,i=>List.replicate c.slots.length ((i:Int)+3)++ownersF r (i+1)
def NH(p:BProg):World:=⟨p.classes.map (·.parents),ownersF p.classes 0⟩
theorem RI(l:List (List D))(o:Own)(O:Sig):
  DCall prog 341 [.slice l o] O (rS (.slice l .clip) O):=by
 refine en func341 ntmps341 ?_
 refine gz ?_
 exact fe1 trivial
@[reducible,instance] def a341:=fun l o O=>ah0 (@RI l o O)
theorem ID(c:BClass)(O:Sig)(hl:c.parents.length<=1073741824:=by exact sd):
  DCall prog 298 [.agg (J3 c)] O (rS (sl (cI c.parents)) O):=by
 refine en func298 ntmps298 ?_
 repeat' first|refine gz ?_|refine Cb (Gr (cI c.parents) .no O (by simpa using hl) (Cc _)) ?_|refine callP (Gr (cI c.parents) .no O (by simpa using hl) (Cc _)) ?_|refine gz ?_|apply gy<;>intro hh
 exact fe1 trivial
@[reducible,instance] def a298:=fun c O=>ah1 (@ID c O)
theorem RR(l:List BClass)(O:Sig)(hl:l.length<=1073741824:=by exact sd)(hp:∀c∈l,c.parents.length<=1073741824:=by exact sd):
  DCall prog 297 [sl (l.map J3),.func (.func 298) [] []] O (rS (sl (cII (l.map (·.parents)))) O):=by
 refine en func297 ntmps297 ?_
 refine gz ?_
 refine HR 5 1 (fun i hi=>?_)
 refine D7 [1,4,8,9,21,22] (fun (k:Nat) (out:List (List Int))=>k<=l.length/\out.length=k/\out++(l.drop k).map (·.parents)=l.map (·.parents)) (fun k out=>[(10,dI k),(5,.slice (cII out) (.tag i))]) (fun _ out=>O.set i (.tail 1 out.length)) (fun k _=>l.length-k) (0) ([]) (by simp) (fun k out hI=>?_)
 obtain⟨hk,ho,hR⟩:=hI
 by_cases h:k<l.length
 ·rw[Ab h]at hR
  have ak:=hp _ (List.getElem_mem h)
  repeat' first|refine Cb (ID (l[k]) _ ak) ?_|refine callP (ID (l[k]) _ ak) ?_|refine gz ?_|apply gy<;>intro hh
  exact⟨k+1,out++[(l[k]).parents],⟨by omega,by simp[ho],by rw[List.append_assoc];exact hR⟩,td1,wkR⟩
 ·rw[Aj h]at hR
  simp at hR
  refine gz ?_
  exact finS (U':=O) (es:=cII out) ⟨by rw[hR],rfl⟩ ((Sub.refl _).set hi)
@[reducible,instance] def a297:=fun l O=>ah2 (@RR l O)
theorem Sg(p:BProg)(O:Sig)(hl:p.classes.length<=1073741824:=by exact sd)(hp:∀c∈p.classes,c.parents.length<=1073741824:=by exact sd):
  DCall prog 250 [.agg (Ai p)] O (rS (sl (cII (p.classes.map (·.parents)))) O):=by
 refine en func250 ntmps250 ?_
 refine gz ?_
 exact fe1 trivial
@[reducible,instance] def a250:=fun p O=>ah2 (@Sg p O)
def ownF(p:BProg)(c:Int):Bool:=decide (3<=c)&&decide (c<3+p.classes.length)
section
variable {O:Sig}{r i j:Nat}{a:D}
def wS(O:Sig)(r i j:Nat)(a:D)(out:List Int):Sig:=((O.set r (.cells [.nils,.nils])).set i (.tail 1 out.length)).set j (.cells [a,.slice (cI out) (.tag i)])
theorem wS_j(out:List Int):wS O r i j a out j=some (.cells [a,.slice (cI out) (.tag i)]):=w6 ..
theorem wS_i(ah:i≠j)(out:List Int):wS O r i j a out i=some (.tail 1 out.length):=by unfold wS;rw[w7 _ _ ah,w6]
theorem wS_r(br:j≠r)(bl:i≠r)(out:List Int):wS O r i j a out r=some (.cells [.nils,.nils]):=by unfold wS;rw[w7 _ _ (Ne.symm br),w7 _ _ (Ne.symm bl),w6]
theorem wS_next(ah:i≠j)(out:List Int)(x:Int):((wS O r i j a out).set i (.tail 1 (out.length+1))).set j (.cells [a,.slice (cI out++[[dI x]]) (.tag i)])=wS O r i j a (out++[x]):=by
 unfold wS
 rw[Sig.set_comm _ _ _ (Ne.symm ah),Sig.set_set,Sig.set_set]
 simp[cI]
theorem wS_nil(ah:i≠j){x:DObj}:(((O.set r (.cells [.nils,.nils])).set j x).set i (.tail 1 0)).set j (.cells [a,.slice [] (.tag i)])=wS O r i j a []:=by
 unfold wS
 rw[Sig.set_comm _ _ _ (Ne.symm ah),Sig.set_set]
 simp[cI]
theorem wS_sub(hr:O r=none)(hi:O i=none)(hj:O j=none)(out:List Int):Sub O (wS O r i j a out):=by unfold wS;exact(((Sub.refl _).set hr).set hi).set hj
end
theorem Ss(p:BProg)(O:Sig)(hl:p.classes.length<=1073741824:=by exact sd)(hp:∀c∈p.classes,c.parents.length<=1073741824:=by exact sd)(bQ:∀c∈p.classes,c.slots.length<=1073741824:=by exact sd)(ho:(ownersF p.classes 0).length<=1073741824:=by exact sd):
  DCall prog 203 [.agg (Ai p)] O (rS (.agg (MB (NH p))) O):=by
 refine en func203 ntmps203 ?_
 refine gz ?_ [] [2,3]
 refine newV (fun r hr=>?_)
 refine gz ?_ [] [2,3]
 refine newV (fun j hj=>?_)
 obtain⟨br,hj⟩:=B5 hj
 refine gz ?_ [] [2,3]
 refine dwp_tagcell j 1 1 (w6 ..) rfl fun i hi=>?_
 obtain⟨ah,hi⟩:=B5 hi
 obtain⟨bl,hi⟩:=B5 hi
 simp only[Sig.set_set,List.set_cons_succ,List.set_cons_zero]
 rw[wS_nil ah]
 have hS:=fun out=>wS_j (O:=O) (r:=r) (i:=i) (j:=j) (a:=sl (cII (p.classes.map (·.parents)))) out
 have ce:=fun out=>wS_i (O:=O) (r:=r) (a:=sl (cII (p.classes.map (·.parents)))) ah out
 have cd:=fun out=>wS_r (O:=O) (a:=sl (cII (p.classes.map (·.parents)))) br bl out
 have bU:=fun out x=>wS_next (O:=O) (r:=r) (a:=sl (cII (p.classes.map (·.parents)))) ah out x
 have hne:=fun (s:Sig) (o:DObj)=>w7 s o (Ne.symm ah)
 refine D7 [2,3,10,11,31] (fun (k:Nat) (out:List Int)=>k<=p.classes.length/\out++ownersF (p.classes.drop k) k=ownersF p.classes 0) (fun k _=>[(12,dI k)]) (fun _ out=>wS O r i j (sl (cII (p.classes.map (·.parents)))) out) (fun k _=>p.classes.length-k) (0) ([]) (by simp) (fun k out hI=>?_)
 obtain⟨hk,hR⟩:=hI
 by_cases h:k<p.classes.length
 ·rw[Ab h,ownersF]at hR
  have co:=bQ _ (List.getElem_mem h)
  refine gf hS ?_ [] [2,3]
  refine D7 [2,3,4,5,10,11,12,13,14,15,16,17,18,19,30,31] (fun (q:Nat) (out:List Int)=>q<=(p.classes[k]).slots.length/\out++(List.replicate ((p.classes[k]).slots.length-q) ((k:Int)+3)++ownersF (p.classes.drop (k+1)) (k+1))=ownersF p.classes 0) (fun q _=>[(20,dI q)]) (fun _ out=>wS O r i j (sl (cII (p.classes.map (·.parents)))) out) (fun q _=>(p.classes[k]).slots.length-q) (0) (out) (by simpa using hR) (fun q out hI=>?_)
  obtain⟨hq,hR⟩:=hI
  have hlen:out.length+((p.classes[k]).slots.length-q)<=1073741824:=by
   have:=congrArg List.length hR
   simp only[List.length_append,List.length_replicate]at this
   omega
  by_cases h':q<(p.classes[k]).slots.length
  ·refine gf (gi hS (gi ce (gi hne bU))) ?_ [] [2,3]
   exact⟨q+1,out++[(k:Int)+3],by refine⟨by omega,?_⟩;rw[<-hR];obtain⟨m,hm⟩:∃m,(p.classes[k]).slots.length-q=m+1:=⟨(p.classes[k]).slots.length-q-1,by omega⟩;rw[hm,show(p.classes[k]).slots.length-(q+1)=m by omega,List.replicate_succ];simp,td1,wkR⟩
  ·rw[show(p.classes[k]).slots.length-q=0 by omega]at hR
   refine gf hS ?_ [] [2,3]
   exact⟨k+1,out,⟨by omega,by simpa using hR⟩,td1,wkR⟩
 ·rw[Aj h,ownersF,List.append_nil]at hR
  refine gf (gi hS cd) ?_ [] [2,3]
  refine IJ Ad (ds:=[.agg [sl (cII (p.classes.map (·.parents))),.slice (cI out) (.tag i)]]) ?_ (PV (by rw[hR];simp[NH])) (U':=O) (.set (wS_sub hr hi hj out) hr) ⟨rfl,rfl⟩
  simp[f70]
@[reducible,instance] def a203:=fun p O=>ah4 (@Ss p O)
def Is{α:Type}[DecidableEq α](l:List α)(s:List α):List α:=l.foldl (fun s x=>ins x s) s
def hasG(cs:List BClass):Nat->List Int->List Int->List Int
 |0,_,out=>out
 |n+1,up,out=>match cs[n]? with
  |some c=>if(n:Int)+3∈up then hasG cs n (Is c.parents up) (out++c.slots) else hasG cs n up out
  |none=>hasG cs n up out
def hasP(p:BProg)(c:Int):List Int:=EB (hasG p.classes (c-2).toNat [c] [])
theorem E6(p:BProg):wtL (fun c:BClass=>c.slots.length) p.classes<p.wt:=by
 have:∀l:List BClass,wtL (fun c:BClass=>c.slots.length) l<=wtL BClass.wt l:=fun l=>by
  induction l with
  |nil=>exact Nat.le_refl _
  |cons c l ih=>simp only[wtL,BClass.wt];omega
 have:=this p.classes
 unfold BProg.wt;omega
theorem Ki{α:Type}(f:α->Nat)(l:List α)(n:Nat)(h:n<l.length):wtL f (l.take (n+1))=wtL f (l.take n)+f l[n]:=by
 rw[List.take_succ_eq_append_getElem h,MK];simp[wtL]
theorem FB{α:Type}(f:α->Nat)(l:List α)(n:Nat):wtL f (l.take n)<=wtL f l:=by
 have:=MK f (l.take n) (l.drop n)
 rw[List.take_append_drop]at this;omega
theorem Uk{O:Sig}{st:MR}{l:List Int}(h:mOK O 1 st (cI l)):mOK O 1 st (cI (EB l)):=by
 cases st with
 |none=>
  have:cI l=[]:=h
  have:l=[]:=by simpa[cI] using this
  subst this;rw[show EB []=[] by simp[EB]];exact h
 |some x=>
  obtain⟨h1,h2,h3,h4⟩:=h
  have e:=G2 l
  refine⟨h1,?_,by simpa[e] using h3,Cc _⟩
  rw[List.length_append,Aw (Cc _),MC]at h2⊢
  omega
theorem SF(p:BProg)(c:Int)(O:Sig)(hp:p.wt<=1073741824:=by exact sd)(hc:3<=c:=by exact sd)(cy:c<3+p.classes.length:=by exact sd):DCall prog 173 [.agg (Ai p),dI c] O (rS (sl (cI (hasP p c))) O):=by
 obtain⟨p1,p2,p3,p4,p5,p6,p7⟩:=p.wt_le
 have ws:=E6 p
 refine en func173 ntmps173 ?_
 refine gz ?_
 refine newSI (fun i hi=>?_)
 refine gz ?_
 refine Pb [2,4,5,45,46,47,48] (fun (n:Nat) (up:List Int) (out:List Int) (st:MR)=>n<=p.classes.length/\out.length+wtL (fun c:BClass=>c.slots.length) (p.classes.take n)<=1073741824/\mOK (O.set i (.map (eSI up))) 1 st (cI out)/\EB (hasG p.classes n up out)=hasP p c) (fun n _ out st=>[(7,dI (n+2)),(6,mD st out.length)]) (fun _ up out st=>mS (O.set i (.map (eSI up))) st (cI out)) (fun n _ _ _=>n) ((c-2).toNat) ([c]) ([]) (none) (by(refine⟨by omega,?_,rfl,rfl⟩;have:=FB (fun c:BClass=>c.slots.length) p.classes (c-2).toNat;simp;omega)) (fun n up out st hI=>?_)
 obtain⟨hn,hlen,hm,hR⟩:=hI
 have hT:=fun k (h:k<p.classes.length)=>Ki (fun c:BClass=>c.slots.length) p.classes k h
 obtain⟨cr,ai,bG⟩:=mS_at hm
 rcases n with _|n
 ·rw[hasG]at hR
  refine gz ?_
  refine A7 (Sn out st _ hm (by simp[wtL]at hlen;omega)) (fun d U' hr=>?_) (fun d U' hr=>by cases hr.1)
  obtain⟨bR,rfl⟩:=hr
  cases bR
  have aL:=Uk hm
  rw[<-G2 out]
  rw[hR]at aL⊢
  refine mfr 6 ?_ (hm:=aL)
  refine gz ?_
  exact fe1 (d':=sl (cI (hasP p c))) trivial
 ·have h:n<p.classes.length:=by omega
  have cB:=hT n h
  have hw:=p5 n h
  have cm:(p.classes[n]).wt=1+(p.classes[n]).parents.length+(p.classes[n]).slots.length+(p.classes[n]).inits.length:=rfl
  rw[hasG,List.getElem?_eq_getElem h]at hR
  by_cases aR:(n:Int)+3∈up
  ·simp only[aR,if_true]at hR
   have e3:(n:Int)+1+2=n+3:=by omega
   have bF:((n:Int)+1+2-3).toNat=n:=by omega
   refine gf (gi ai (gi bG (gi aR (gi e3 bF)))) ?_
   refine mappI (fun st' aL=>?_)
   obtain⟨bn,aX,aV⟩:=mS_at aL
   refine gf (gi aX (gi aV (gi aR (gi e3 bF)))) ?_
   refine Cg [2,4,5,6,7,14,15,16,17,18,19,20,21,22,23,24,25,26,27,28,29,30,31,32,33,34,35,36,37,45,46,47,48] (fun (k:Nat)=>k<=(p.classes[n]).parents.length) (fun k=>[(38,dI k)]) (fun k=>mS (O.set i (.map (eSI (Is ((p.classes[n]).parents.take k) up)))) st' (cI (out++(p.classes[n]).slots))) (fun k=>(p.classes[n]).parents.length-k) (0) td3 (fun k hI=>?_)
   by_cases hk:k<(p.classes[n]).parents.length
   ·have hs:Is ((p.classes[n]).parents.take (k+1)) up=ins (p.classes[n]).parents[k] (Is ((p.classes[n]).parents.take k) up):=by unfold Is;rw[List.take_succ_eq_append_getElem hk,List.foldl_append];rfl
    refine gf (gi aX aV) ?_
    rw[<-hs]
    exact⟨k+1,td2,td1,wkR⟩
   ·have hs:(p.classes[n]).parents.take k=(p.classes[n]).parents:=List.take_of_length_le (by omega)
    rw[hs]
    have e2:(n:Int)+3-1=n+2:=by omega
    refine gf (gi e3 e2) ?_
    exact⟨n,Is (p.classes[n]).parents up,out++(p.classes[n]).slots,st',⟨by omega,by rw[List.length_append];omega,bn _,hR⟩,td1,wkR⟩
  ·simp only[aR,if_false]at hR
   have e3:(n:Int)+1+2=n+3:=by omega
   have e2:(n:Int)+3-1=n+2:=by omega
   refine gf (gi ai (gi bG (gi aR (gi e3 e2)))) ?_
   exact⟨n,up,out,st,⟨by omega,by omega,hm,hR⟩,td1,wkR⟩
@[reducible,instance] def a173:=fun p c O=>ah3 (@SF p c O)
end Go.DL
namespace Go.DL
open Go.Proofs.Tryz
open Go Go.Proofs
set_option maxHeartbeats 4000000
theorem RM(l:List (List D))(o:Own)(O:Sig):
  DCall prog 337 [.slice l o] O (rS (.slice l .clip) O):=by
 refine en func337 ntmps337 ?_
 refine gz ?_
 exact fe1 trivial
@[reducible,instance] def a337:=fun l o O=>ah0 (@RM l o O)
theorem O9{α:Type}[DecidableEq α](s:α): ∀(l:List α) (k:Nat),(0<=idxG s l k) ↔ s∈l
 |[],_=>by simp[idxG]
 | x::r,k=>by
  rw[idxG]
  by_cases h:x=s
  ·simp[h]
  ·rw[if_neg h,O9 s r (k+1)]
   simp[Ne.symm h]
end Go.DL
namespace Go.DL
open Go.Proofs.Tryz
open Go Go.Proofs
set_option maxHeartbeats 8000000
theorem Us{α:Type}[DecidableEq α](s:α)(l:List α):decide (0<=idxG s l 0)=decide (s∈l):=by
 rw[Bool.eq_iff_iff];simp only[decide_eq_true_eq];exact O9 s l 0
theorem Pt(l:List Int)(s:Int)(o:Own)(O:Sig)(hl:l.length<=1073741824:=by exact sd):
  DCall prog 206 [.slice (cI l) o,dI s] O (rS (.bool (decide (s∈l))) O):=by
 rw[<-Us];exact Sp l s o O hl
instance (priority:=high) a206m (l:List Int) (s:Int) (o:Own) (O:Sig):Ans 206 [.slice (cI l) o,dI s] O ((l.length<=1073741824)) (.bool (decide (s∈l))):=⟨fun hl=>Pt l s o O (hl:=hl)⟩
def Em(i:Nat):List Int->List Int->Bool
 |_,[]=>true
 |seen,p::r=>(decide (3<=p/\p<3+i)&&!decide (p∈seen))&&Em i (seen++[p]) r
def Iy(i:Nat)(l:List Int):Bool:=decide (l.length<=3)&&Em i [] l
def CT:Nat->List (List Int)->Bool
 |_,[]=>true
 |i,l::r=>Iy i l&&CT (i+1) r
def Cw(g:List (List Int)):Bool:=decide (g.length<=16)&&CT 0 g
theorem FZ{α:Type}{l:List α}{k:Nat}(h:k<l.length):l.take (k+1)=l.take k++[l[k]]:=by rw[List.take_succ_eq_append_getElem h]
theorem RQ(g:List (List Int))(o:Own)(O:Sig)(hl:g.length<=1073741824:=by exact sd)(ap:∀x∈g,x.length<=1073741824:=by exact sd):
  DCall prog 300 [.slice (cII g) o] O (rS (.bool (Cw g)) O):=by
 refine en func300 ntmps300 ?_
 by_cases cC:16<g.length
 ·refine gz ?_
  (refine fin1 (U':=O) ?_;exact⟨by first|rfl|(simp[Cw];done)|(simp_all [Cw];done)|(rw[Ag,Bool.eq_iff_iff];simp_all [Cw]<;>omega),rfl⟩)
 refine gz ?_
 refine Cg [10,11] (fun (k:Nat)=>k<=g.length/\Cw g=CT k (g.drop k)) (fun k=>[(12,dI k)]) (fun _=>O) (fun k=>g.length-k) (0) (by exact⟨by omega,by simp[Cw];omega⟩) (fun k hI=>?_)
 obtain⟨hk,hR⟩:=hI
 by_cases h:k<g.length
 ·have hx:=ap _ (List.getElem_mem h)
  rw[Ab h,CT,Iy]at hR
  by_cases h3:3<g[k].length
  ·refine gz ?_
   exact fe1 hR
  ·have ci:decide (g[k].length<=3)=true:=by simp;omega
   rw[ci,Bool.true_and]at hR
   refine gz ?_
   refine Cg [3,4,10,11,12,13,14,15,16,17,18,19,20,21,43] (fun (q:Nat)=>q<=g[k].length/\Cw g=(Em k (g[k].take q) (g[k].drop q)&&CT (k+1) (g.drop (k+1)))) (fun q=>[(22,dI q)]) (fun _=>O) (fun q=>g[k].length-q) (0) (by exact⟨by omega,by simpa using hR⟩) (fun q hI=>?_)
   obtain⟨hq,ay⟩:=hI
   by_cases h':q<g[k].length
   ·rw[Ab h',Em,<-FZ h']at ay
    repeat' first|refine gz ?_|apply gy<;>intro hh
    ·have hn:¬(3<=g[k][q]/\g[k][q]<3+(k:Int)):=by omega
     rw[decide_eq_false hn]at ay
     exact fe1 ay
    ·have hn:¬(3<=g[k][q]/\g[k][q]<3+(k:Int)):=by omega
     rw[decide_eq_false hn]at ay
     exact fe1 ay
    ·exact fe1 ay
    ·exact⟨q+1,⟨by omega,by rw[ay];simp_all⟩,td1,wkR⟩
   ·rw[Aj h',Em]at ay
    refine gz ?_
    exact⟨k+1,⟨by omega,by simpa using ay⟩,td1,wkR⟩
 ·rw[Aj h,CT]at hR
  refine gz ?_
  exact fe1 hR
@[reducible,instance] def a300:=fun g o O=>ah2 (@RQ g o O)
def Gp(all:List (List Int))(c:Int):Bool:=all.all fun x=> !decide (c∈x.tail)
def Ga(all:List (List Int)):Bool->List (List Int)->Option Int×Bool
 |s,[]=>(none,s)
 |s,[]::r=>Ga all s r
 |_,(x::_)::r=>if Gp all x then(some x,true) else Ga all true r
def Ge:Nat->List (List Int)->List Int->List Int×Bool
 |0,_,out=>(out,false)
 |n+1,ls,out=>match Ga ls false ls with
  |(none,s)=>(out, !s)
  |(some c,_)=>Ge n (ls.map fun l=>l.filter fun x=> !decide (x=c)) (out++[c])
def totL:List (List Int)->Nat
 |[]=>0
 |l::r=>l.length+totL r
def D6(ls:List (List Int)):List Int×Bool:=Ge (totL ls+1) ls []
theorem NL{l:List Int}: ∀{ls:List (List Int)},l∈ls->l.length<=totL ls
 |x::r,h=>by
  rcases List.mem_cons.1 h with rfl|h
  ·simp[totL]
  ·have:=NL h;simp only[totL];omega
theorem EL{all:List (List Int)}{c:Int}{b:Bool}: ∀{s:Bool}{ls:List (List Int)},Ga all s ls=(some c,b)->∃l∈ls,c∈l
 |s,[],h=>by simp[Ga]at h
 |s,[]::r,h=>by
  rw[Ga]at h
  obtain⟨l,h1,h2⟩:=EL h
  exact⟨l,by simp[h1],h2⟩
 | s,(x::t)::r,h=>by
  rw[Ga]at h
  by_cases hf:Gp all x=true
  ·rw[if_pos hf]at h
   exact⟨x::t,by simp,by simp only[Prod.mk.injEq,Option.some.injEq]at h;simp[h.1]⟩
  ·rw[if_neg hf]at h
   obtain⟨l,h1,h2⟩:=EL h
   exact⟨l,by simp[h1],h2⟩
theorem Q1(c:Int): ∀ls:List (List Int),totL (ls.map fun l=>l.filter fun x=> !decide (x=c))<=totL ls
 |[]=>by simp[totL]
 |l::r=>by
  have:=Q1 c r
  have:=List.length_filter_le (fun x=> !decide (x=c)) l
  simp only[List.map_cons,totL];omega
theorem Rn{c:Int}{l:List Int}(h:c∈l):(l.filter fun x=> !decide (x=c)).length<l.length:=by
 induction l with
 |nil=>simp at h
 | cons x r ih =>
  have:=List.length_filter_le (fun x=> !decide (x=c)) r
  by_cases hx:x=c
  ·simp[hx];omega
  ·have hr:c∈r:=by rcases List.mem_cons.1 h with rfl|h;exact absurd rfl hx;exact h
   have:=ih hr
   simp[hx];omega
theorem MU{c:Int}{l:List Int}(hc:c∈l): ∀{ls:List (List Int)},l∈ls->totL (ls.map fun l=>l.filter fun x=> !decide (x=c))<totL ls
 | x::r,h=>by
  simp only[List.map_cons,totL]
  rcases List.mem_cons.1 h with rfl|h
  ·have:=Q1 c r;have:=Rn hc;omega
  ·have:=MU hc h
   have:=List.length_filter_le (fun x=> !decide (x=c)) x
   omega
def unf:D:=.iface 316 (.agg [])
theorem Sy(b:Bool)(O:Sig):DCall prog 197 [.bool b] O fun x U'=>x=(if b then .ret (.tup []) else .panic unf)/\U'=O:=by
 refine en func197 ntmps197 ?_
 cases b
 ·refine gz ?_
  refine pan ?_
  exact finP (U':=O) ⟨rfl,rfl⟩
 ·refine gz ?_
  exact DZ (U':=O) ⟨rfl,rfl⟩
@[reducible,instance] def a197:=fun b O=>gh0 (@Sy b O)
theorem Gq(l:List Int)(q:Int->Bool)(g:Nat)(cap:List D)(o:Own)(O:Sig)(hl:l.length<=1073741824)
  (hg:∀x∈l, ∀U',Sub O U'->DCall prog g ([]++[dI x]++cap) U' fun r S''=>r=.ret (.bool (q x))/\S''=U') :
  DCall prog 385 [.slice (cI l) o,.func (.func g) [] cap] O (rS (sl (cI (l.filter q))) O):=by
 refine en func385 ntmps385 ?_
 refine gz ?_
 refine HR 5 1 (fun i hi=>?_)
 refine D7 [1,4,8,9,22] (fun (k:Nat) (out:List Int)=>k<=l.length/\out.length<=k/\out++(l.drop k).filter q=l.filter q) (fun k out=>[(10,dI k),(5,.slice (cI out) (.tag i))]) (fun _ out=>O.set i (.tail 1 out.length)) (fun k _=>l.length-k) (0) ([]) (by simp) (fun k out hI=>?_)
 obtain⟨hk,hlen,hR⟩:=hI
 by_cases h:k<l.length
 ·rw[Ab h,List.filter_cons]at hR
  repeat' first|refine Cb (hg (l[k]) (List.getElem_mem h) _ ((Sub.refl _).set hi)) ?_|refine callP (hg (l[k]) (List.getElem_mem h) _ ((Sub.refl _).set hi)) ?_|refine gz ?_|apply gy<;>intro hh
  ·exact⟨k+1,out++[l[k]],by refine⟨by omega,by simp;omega,?_⟩;rw[<-hR];simp[hh],td1,wkR⟩
  ·exact⟨k+1,out,by refine⟨by omega,by omega,?_⟩;rw[<-hR];simp[hh],td1,wkR⟩
 ·rw[Aj h]at hR
  simp at hR
  refine gz ?_
  exact finS (U':=O) (es:=cI out) ⟨by rw[hR],rfl⟩
theorem LZ(c:Int)(O:Sig):DCall prog 395 [dI c] O (rS (.bool (!decide (c=0))) O):=by
 refine en func395 ntmps395 ?_
 refine gz ?_
 exact fe1 trivial
theorem Rz(l:List Int)(o:Own)(O:Sig)(hl:l.length<=1073741824:=by exact sd):DCall prog 384 [.slice (cI l) o] O (rS (sl (cI (l.filter fun c=> !decide (c=0)))) O):=by
 refine en func384 ntmps384 ?_
 repeat' first|refine gz ?_|refine Cb (Gq l (fun c=> !decide (c=0)) 395 [] o O hl (fun x _ U' _=>LZ x U')) ?_|refine callP (Gq l (fun c=> !decide (c=0)) 395 [] o O hl (fun x _ U' _=>LZ x U')) ?_|refine gz ?_|apply gy<;>intro hh
 exact fe1 trivial
@[reducible,instance] def a384:=fun l o O=>ah1 (@Rz l o O)
theorem M0(c x:Int)(O:Sig):DCall prog 386 [dI c,.cptr [dI x] 0] O (rS (.bool (!decide (c=x))) O):=by
 refine en func386 ntmps386 ?_
 refine gz ?_
 exact fe1 trivial
def parentsF(g:List (List Int))(c:Int):List Int:=if c<3 then [] else(g[(c-3).toNat]?).getD []
def AF(orders:List (List Int))(p:Int):List Int:=(orders[p.toNat]?).getD []
def Da(orders:List (List Int)):List Int->Option (List (List Int))
 |[]=>some []
 |p::r=>if(AF orders p).length=0 then none else(Da orders r).map ((AF orders p).filter (fun x=> !decide (x=0)) :: ·)
def Ch(orders:List (List Int))(ps:List Int):Option (List (List Int)):=(Da orders ps).map (· ++ [ps])
def VM(x:DE):Prop:= ∃n:Int,x=.ret (.agg [.int .u64 n])
theorem M2(s c:Int)(O:Sig)(hc:0<=c:=by exact sd):DCall prog 342 [.agg [.int .u64 s],dI c] O fun x U'=>VM x/\U'=O:=by
 refine en func342 ntmps342 ?_
 refine IK ?_
 refine GA ?_
 refine boxV (fun i hi=>?_)
 refine newV (fun j hj=>?_)
 obtain⟨aG,bc⟩:=B5 hj
 have ah:i≠j:=fun e=>aG e.symm
 refine gf (gi aG (gi ah (OJ .u64 .i64 1 c hc))) ?_ o342 [2,4]
 refine finCE (U':=O) (by simp[resL,ah,aG];with_unfolding_all rfl) ⟨⟨_,rfl⟩,rfl⟩ ?_
 exact((((Sub.refl _).set hi).set bc).set hi).set bc
theorem RH(s c:Int)(O:Sig):DCall prog 343 [.agg [.int .u64 s],.agg [.int .u64 c]] O fun x U'=>VM x/\U'=O:=by
 refine en func343 ntmps343 ?_
 refine IK ?_
 refine GA ?_
 refine boxV (fun i hi=>?_)
 refine gz ?_ [] [2,4]
 refine newV (fun j hj=>?_)
 obtain⟨aG,bc⟩:=B5 hj
 have ah:i≠j:=fun e=>aG e.symm
 refine gf (gi aG ah) ?_ [] [2,4]
 refine finCE (U':=O) (by simp[resL,ah,aG];with_unfolding_all rfl) ⟨⟨_,rfl⟩,rfl⟩ ?_
 exact((((Sub.refl _).set hi).set bc).set hi).set bc
theorem E0(ig im:Nat)(ps os:List (List Int))(ups:D)(om:List (Int×List Int))(c:Nat)(o:Own)(O:Sig)(hg:O ig=some (.cells [.slice (cII ps) o,ups,.map im]))(hm:O im=some (.map (eIO om)))(hc:c<ps.length)
  (hl:ps.length<=1073741824) (ak:(ps[c]).length<=1073741824) (ho:∀p∈ps[c],getM [] p om=AF os p) (aC:∀p∈ps[c],(AF os p).length<=1073741824) :
  DCall prog 368 [.ptr ig 0,dI c] O (rS (.tup [sl (cII ((Ch os ps[c]).getD [])),.bool (Ch os ps[c]).isSome]) O):=by
 refine en func368 ntmps368 ?_
 refine gf (gi hg hm) ?_
 generalize bS:ps[c]=l at*
 refine HR 6 1 (fun i hi=>?_)
 have ar:ig≠i:=fun e=>by rw[e,hi]at hg;cases hg
 have ai:im≠i:=fun e=>by rw[e,hi]at hm;cases hm
 refine D7 [0,1,15,16,40,41,42,43,44,45,46,47,48,49] (fun (k:Nat) (out:List (List Int))=>k<=l.length/\out.length<=k/\Da os l=(Da os (l.drop k)).map (out ++ ·)) (fun k out=>[(17,dI k),(6,.slice (cII out) (.tag i))]) (fun _ out=>O.set i (.tail 1 out.length)) (fun k _=>l.length-k) (0) ([]) (by simp) (fun k out hI=>?_)
 obtain⟨hk,hlen,hR⟩:=hI
 by_cases h:k<l.length
 ·have bL:=ho _ (List.getElem_mem h)
  have hx:=aC _ (List.getElem_mem h)
  rw[Ab h,Da]at hR
  refine gf (gi hg (gi hm (gi ar ai))) ?_
  refine lkO ?_ (hi:=by rw[w7 _ _ ai];exact hm)
  rw[bL]
  repeat' first|refine gf (gi hg (gi hm (gi ar ai))) ?_|apply gy<;>intro hh
  ·have hn:Ch os l=none:=by unfold Ch;rw[hR];simp_all
   exact fe2 (d':=sl []) hn
  ·refine lkO ?_ (hi:=by rw[w7 _ _ ai];exact hm)
   rw[bL]
   refine gf (gi hg (gi hm (gi ar ai))) ?_
   exact⟨k+1,out++[(AF os l[k]).filter fun x=> !decide (x=0)],by refine⟨by omega,by simp;omega,?_⟩;rw[hR,if_neg (by simpa using hh),Option.map_map];congr 1;funext z;simp,td1,wkR⟩
 ·rw[Aj h,Da]at hR
  have hn:Ch os l=some (out++[l]):=by unfold Ch;rw[hR];simp
  refine gf (gi hg (gi hm (gi ar (gi ai bS)))) ?_
  exact fe2 (d':=sl (cII (out++[l]))) hn
theorem F0(l:List (List Int))(o:Own)(O:Sig)(hl:l.length<=1073741824:=by exact sd)(ht:totL l<=1073741824:=by exact sd):
  DCall prog 369 [.slice (cII l) o] O (rS (.tup [sl (cI (D6 l).1),.bool (D6 l).2]) O):=by
 refine en func369 ntmps369 ?_
 refine gz ?_ o369
 refine HR 4 1 (fun i hi=>?_)
 refine Ft [] (fun (n:Nat) (ls:List (List Int)) (out:List Int)=>totL ls<n/\out.length+totL ls<=1073741824/\ls.length=l.length/\Ge n ls out=D6 l) (fun _ ls out=>[(0,.slice (cII ls) .no),(4,.slice (cI out) (.tag i))]) (fun _ _ out=>O.set i (.tail 1 out.length)) (fun n _ _=>n) (totL l+1) (l) ([]) (by exact⟨by omega,by simpa using ht,rfl,rfl⟩) (fun n ls out hI=>?_)
 obtain⟨cp,hlen,ae,hR⟩:=hI
 obtain⟨n,rfl⟩:∃m,n=m+1:=⟨n-1,by omega⟩
 have bp:∀x∈ls,x.length<=1073741824:=fun x hx=>by have:=NL hx;omega
 rw[Ge]at hR
 refine gz ?_ o369
 refine D7 [2,3,14,15,63,64,65] (fun (q:Nat) (s:Bool)=>q<=ls.length/\Ga ls false ls=Ga ls s (ls.drop q)) (fun q s=>[(5,.bool s),(16,dI q),(0,.slice (cII ls) .no),(4,.slice (cI out) (.tag i))]) (fun _ _=>O.set i (.tail 1 out.length)) (fun q _=>ls.length-q) (0) (false) (by simp) (fun q s hI=>?_)
 obtain⟨hq,hA⟩:=hI
 by_cases h:q<ls.length
 ·have hx:=bp _ (List.getElem_mem h)
  rw[Ab h]at hA
  rcases ag:ls[q]with _|⟨y,r⟩
  ·rw[ag,Ga]at hA
   refine gf ag ?_ o369
   exact⟨q+1,s,⟨by omega,hA⟩,td1,wkR⟩
  ·rw [ag,Ga] at hA
   rw[ag]at hx
   simp only[List.length_cons]at hx
   refine gf ag ?_ o369
   refine Cg [0,2,3,4,5,7,10,11,13,14,15,16,17,18,19,20,21,22,23,24,41,42,43,44,45,46,47,48,49,50,51,52,53,54,55,56,57,58,59,60,61,62,63,64,65] (fun (k:Nat)=>k<=ls.length/\Gp (ls.take k) y=true) (fun k=>[(25,dI k)]) (fun _=>O.set i (.tail 1 out.length)) (fun k=>ls.length-k) (0) (by simp[Gp]) (fun k hI=>?_)
   obtain⟨hk,hF⟩:=hI
   by_cases bq:k<ls.length
   ·have bm:=bp _ (List.getElem_mem bq)
    have aa:Gp (ls.take (k+1)) y=(Gp (ls.take k) y&&!decide (y∈ls[k].tail)):=by
     unfold Gp;rw[List.take_succ_eq_append_getElem bq,List.all_append];simp
    rcases aS:ls[k]with _|⟨z,t⟩
    ·rw[aS]at aa
     refine gf (gi aS ag) ?_ o369
     exact⟨k+1,⟨by omega,by rw[aa,hF];simp⟩,td1,wkR⟩
    ·rw[aS]at aa bm
     simp only[List.length_cons]at bm
     repeat' first|refine gf (gi aS ag) ?_ o369|apply gy<;>intro hh
     ·have bV:Gp ls y=false:=by
       unfold Gp
       rw[List.all_eq_false]
       refine⟨ls[k],List.getElem_mem bq,?_⟩
       rw[aS];simp[hh]
      rw[bV]at hA
      exact⟨q+1,true,⟨by omega,by simpa using hA⟩,td1,wkR⟩
     ·exact⟨k+1,⟨by omega,by rw[aa,hF];simp[hh]⟩,td1,wkR⟩
   ·have bZ:k=ls.length:=by omega
    rw[bZ,List.take_length]at hF
    rw[hF,if_pos rfl]at hA
    rw[hA]at hR
    replace hR:Ge n (ls.map fun l=>l.filter fun x=> !decide (x=y)) (out++[y])=D6 l:=hR
    obtain⟨e,he,aI⟩:=EL hA
    have cu:=MU aI he
    refine gf ag ?_ o369
    refine HR 11 1 (fun j hj=>?_)
    refine D7 [0,2,3,4,5,7,9,10,14,15,16,17,18,19,20,21,22,23,24,25,26,27,28,29,30,31,32,33,34,35,36,37,38,39,40,41,42,43,44,45,46,47,48,49,61,62,63,64,65] (fun (m:Nat) (acc:List (List Int))=>m<=ls.length/\acc=(ls.take m).map fun l=>l.filter fun x=> !decide (x=y)) (fun m acc=>[(50,dI m),(11,.slice (cII acc) (.tag j))]) (fun _ acc=>(O.set i (.tail 1 (out.length+1))).set j (.tail 1 acc.length)) (fun m _=>ls.length-m) (0) ([]) (by simp) (fun m acc hI=>?_)
    obtain⟨hm,ax⟩:=hI
    have cz:acc.length=m:=by rw[ax];simp;omega
    by_cases h':m<ls.length
    ·have bz:=bp _ (List.getElem_mem h')
     repeat' first|refine gz ?_|refine Cb (Gq (ls[m]) (fun c=> !decide (c=y)) 386 [.cptr [dI y] 0] _ _ bz (fun x _ U' _=>M0 x y U')) ?_|refine callP (Gq (ls[m]) (fun c=> !decide (c=y)) 386 [.cptr [dI y] 0] _ _ bz (fun x _ U' _=>M0 x y U')) ?_|refine gz ?_ o369|apply gy<;>intro hh
     exact⟨m+1,acc++[(ls[m]).filter fun x=> !decide (x=y)],⟨by omega,by rw[ax,FZ h',List.map_append];rfl⟩,td1,wkR⟩
    ·have aL:m=ls.length:=by omega
     rw[aL,List.take_length]at ax
     subst ax
     have aD:Sub (O.set i (.tail 1 (out++[y]).length)) ((O.set i (.tail 1 (out.length+1))).set j (.tail 1 (ls.map fun l=>l.filter fun x=> !decide (x=y)).length)):=by rw[List.length_append];exact(Sub.refl _).set (by assumption)
     refine gz ?_ o369
     exact⟨n,(ls.map fun l=>l.filter fun x=> !decide (x=y)),(out++[y]),⟨by omega,by rw[List.length_append,List.length_singleton];omega,by simpa using ae,hR⟩,td1,wkR⟩
 ·rw[Aj h,Ga]at hA
  rw[hA]at hR
  replace hR:D6 l=(out, !s):=hR.symm
  refine gz ?_ o369
  exact fe2 (d':=sl (cI out)) hR
@[reducible,instance] def a369:=fun l o O=>ah2 (@F0 l o O)
theorem Gd: ∀(n:Nat) (ls:List (List Int)) (out:List Int),(Ge n ls out).1.length<=out.length+totL ls
 |0,_,_=>Nat.le_add_right _ _
 | n+1,ls,out=>by
  rw[Ge]
  cases h:Ga ls false ls with
  | mk a s =>
   cases a with
   |none=>exact Nat.le_add_right _ _
   |some c=>
    obtain⟨e,he,aI⟩:=EL h
    have h1:=MU aI he
    have h2:=Gd n (ls.map fun l=>l.filter fun x=> !decide (x=c)) (out++[c])
    rw[List.length_append,List.length_singleton]at h2
    simp only
    omega
theorem Fw(ls:List (List Int)):(D6 ls).1.length<=totL ls:=by
 exact Nat.le_trans (Gd (totL ls+1) ls []) (by simp)
def D9(os:List (List Int))(c:Int)(ps:List Int):List Int:=
 match Ch os ps with
 |none=>[]
 |some ls=>if(D6 ls).2 then c::(D6 ls).1++[0] else []
theorem RG(ig im:Nat)(ps os:List (List Int))(ups:D)(om:List (Int×List Int))(c:Nat)(o:Own)(O:Sig)(hne:ig≠im)(hg:O ig=some (.cells [.slice (cII ps) o,ups,.map im]))(hm:O im=some (.map (eIO om)))(hc:c<ps.length)(cb:c≠0)
  (hl:ps.length<=1073741824) (ak:(ps[c]).length<=1073741824) (ho:∀p∈ps[c],getM [] p om=AF os p) (aC:∀p∈ps[c],(AF os p).length<=1073741824) (ht:∀ls,Ch os ps[c]=some ls->ls.length<=1073741824/\totL ls<=1073741824) :
  DCall prog 344 [.ptr ig 0,dI c] O fun x U'=>x=.ret (.tup [])/\U'=if D9 os c ps[c]=[] then O else O.set im (.map (eIO (putM c (D9 os c ps[c]) om))):=by
 have aj:¬(c:Int)=0:=by omega
 refine en func344 ntmps344 ?_
 cases ae:Ch os ps[c]with
 |none=>
  repeat' first|refine gf (gi aj (gi hg (gi hm ae))) ?_|refine Cb (E0 ig im ps os ups om c o O hg hm hc hl ak ho aC) ?_|refine callP (E0 ig im ps os ups om c o O hg hm hc hl ak ho aC) ?_|refine gf (gi aj (gi hg (gi hm ae))) ?_ o344|apply gy<;>intro hh
  exact fin0 (U':=O) ⟨rfl,by simp[D9,ae]⟩
 | some ls =>
  obtain⟨h1,h2⟩:=ht ls ae
  have cq:(D6 ls).1.length<=totL ls:=Fw ls
  by_cases ba:(D6 ls).1=[]
  ·repeat' first|refine gf (gi aj (gi hg (gi hm ae))) ?_|refine Cb (E0 ig im ps os ups om c o O hg hm hc hl ak ho aC) ?_|refine callP (E0 ig im ps os ups om c o O hg hm hc hl ak ho aC) ?_|refine Cb (F0 ls .no O h1 h2) ?_|refine callP (F0 ls .no O h1 h2) ?_|refine gf (gi aj (gi hg (gi hm ae))) ?_ o344|apply gy<;>intro hh
   refine moApp0 ?_
   repeat' first|refine gz ?_ o344|apply gy<;>intro hh
   refine moAppCW (fun i hi=>?_)
   have ai:im≠i:=fun h=>by rw[h,hi]at hm;simp at hm
   refine rtl 39 (sl (cI [(c:Int),0])) ?_
   refine gf (gi hm ai) ?_ o344
   exact fin0 (U':=O.set im (.map (eIO (putM c [(c:Int),0] om)))) ⟨rfl,by rw[D9,ae];simp[hh,ba]⟩ (Sub.both ((Sub.refl _).set hi))
   exact fin0 (U':=O) ⟨rfl,by rw[D9,ae];simp[hh]⟩
  ·repeat' first|refine gf (gi aj (gi hg (gi hm ae))) ?_|refine Cb (E0 ig im ps os ups om c o O hg hm hc hl ak ho aC) ?_|refine callP (E0 ig im ps os ups om c o O hg hm hc hl ak ho aC) ?_|refine Cb (F0 ls .no O h1 h2) ?_|refine callP (F0 ls .no O h1 h2) ?_|refine gf (gi aj (gi hg (gi hm ae))) ?_ o344|apply gy<;>intro hh
   refine moAppC (fun i hi=>?_)
   have ai:im≠i:=fun h=>by rw[h,hi]at hm;simp at hm
   refine gz ?_ o344
   refine rtl 39 (sl (cI ((c:Int)::(D6 ls).1++[0]))) ?_ (DN _ (by simp[cI]))
   refine gf (gi hm ai) ?_ o344
   exact fin0 (U':=O.set im (.map (eIO (putM c ((c:Int)::(D6 ls).1++[0]) om)))) ⟨rfl,by rw[D9,ae];simp[hh]⟩ (Sub.both ((Sub.refl _).set hi))
   exact fin0 (U':=O) ⟨rfl,by rw[D9,ae];simp[hh]⟩
theorem Iz{i:Nat}: ∀{l seen:List Int},Em i seen l=true->∀p∈l,3<=p/\p<3+i
 |[],_,_,p,hp=>by simp at hp
 |q::r,seen,h,p,hp=>by
  simp only[Em,Bool.and_eq_true,decide_eq_true_eq]at h
  rcases List.mem_cons.1 hp with rfl|hp
  ·exact h.1.1
  ·exact Iz h.2 p hp
theorem EW: ∀{g:List (List Int)}{i:Nat},CT i g=true->∀k (hk:k<g.length),Iy (i+k) g[k]=true
 |l::r,i,h,0,_=>by simp only[CT,Bool.and_eq_true]at h;exact h.1
 |l::r,i,h,k+1,hk=>by
  simp only[CT,Bool.and_eq_true]at h
  have:=EW h.2 k (by simpa using hk)
  rw[show i+(k+1)=i+1+k by omega];exact this
theorem DC{g:List (List Int)}(h:Cw g=true)(c:Nat):(parentsF g c).length<=3 /\ ∀p∈parentsF g c,3<=p/\p<c:=by
 simp only[Cw,Bool.and_eq_true]at h
 unfold parentsF
 split
 ·simp
 ·rename_i hc
  by_cases hk:(((c:Int)-3).toNat)<g.length
  ·have:=EW h.2 _ hk
   rw[List.getElem?_eq_getElem hk,Option.getD_some]
   simp only[Iy,Bool.and_eq_true,decide_eq_true_eq]at this
   refine⟨this.1,fun p hp=>?_⟩
   have:=Iz this.2 p hp
   omega
  ·rw[List.getElem?_eq_none (by omega)];simp
theorem Hz{g:List (List Int)}(h:Cw g=true):g.length<=16:=by
 simp only[Cw,Bool.and_eq_true,decide_eq_true_eq]at h;exact h.1
def ordersN(g:List (List Int)):Nat->List (List Int)
 |0=>[]
 |n+1=>ordersN g n++[if n=0 then [0] else D9 (ordersN g n) n (parentsF g n)]
theorem C7(g:List (List Int)): ∀n,(ordersN g n).length=n
 |0=>rfl
 |n+1=>by rw[ordersN,List.length_append,C7 g n];rfl
theorem EJ(os:List (List Int))(x:List Int){p:Int}(hp:0<=p):AF (os++[x]) p=if p=os.length then x else AF os p:=by
 unfold AF
 by_cases h:p.toNat<os.length
 ·rw[List.getElem?_append_left h,if_neg (by omega)]
 ·by_cases h2:p=os.length
  ·rw[if_pos h2,h2];simp
  ·rw[if_neg h2,List.getElem?_eq_none (by simp;omega),List.getElem?_eq_none (by omega)]
theorem Io{os:List (List Int)}{M:Nat}: ∀{ps:List Int}{ls:List (List Int)},Da os ps=some ls->(∀p∈ps,(AF os p).length<=M)->totL ls<=ps.length*M/\ls.length=ps.length
 |[],ls,h,_=>by simp only[Da,Option.some.injEq]at h;subst h;simp[totL]
 | p::r,ls,h,hM=>by
  rw[Da]at h
  split at h
  ·cases h
  ·cases hr:Da os r with
   |none=>rw[hr]at h;cases h
   |some l2=>
    rw[hr]at h
    simp only[Option.map_some,Option.some.injEq]at h
    subst h
    obtain⟨h1,h2⟩:=Io hr fun q hq=>hM q (List.mem_cons_of_mem _ hq)
    have h3:=hM p (List.mem_cons_self ..)
    have h4:((AF os p).filter fun x=> !decide (x=0)).length<=(AF os p).length:=List.length_filter_le ..
    simp only[totL,List.length_cons,Nat.add_mul]
    omega
theorem TO(a b:List (List Int)):totL (a++b)=totL a+totL b:=by
 induction a with
 |nil=>simp[totL]
 |cons x a ih=>simp only[List.cons_append,totL,ih];omega
theorem Hn{os:List (List Int)}{M:Nat}{ps:List Int}{ls:List (List Int)}(h:Ch os ps=some ls)(hM:∀p∈ps,(AF os p).length<=M):totL ls<=ps.length*M+ps.length/\ls.length=ps.length+1:=by
 unfold Ch at h
 cases hr:Da os ps with
 |none=>rw[hr]at h;cases h
 |some l2=>
  rw[hr]at h
  simp only[Option.map_some,Option.some.injEq]at h
  subst h
  obtain⟨h1,h2⟩:=Io hr hM
  rw[TO];simp[totL];omega
theorem G7{os:List (List Int)}{M:Nat}{c:Int}{ps:List Int}(hM:∀p∈ps,(AF os p).length<=M):(D9 os c ps).length<=ps.length*M+ps.length+2:=by
 unfold D9
 cases h:Ch os ps with
 |none=>simp
 |some ls=>
  have h1:=(Hn h hM).1
  have h2:=Fw ls
  simp only
  split
  ·simp only[List.length_append,List.length_cons,List.length_nil];omega
  ·simp
theorem G6{g:List (List Int)}(h:Cw g=true): ∀n, ∀p:Int,0<=p->(AF (ordersN g n) p).length+3<=5*3 ^ (n-4)
 |0,p,_=>by simp[ordersN,AF]
 | n+1,p,hp=>by
  have ih:=G6 h n
  have aW:5*3 ^ (n-4)<=5*3 ^ (n+1-4):=Nat.mul_le_mul_left _ (Nat.pow_le_pow_right (by decide) (by omega))
  have bT:1<=3 ^ (n+1-4):=Nat.one_le_pow _ _ (by decide)
  rw[ordersN,EJ _ _ hp,C7]
  split
  ·split
   ·rw[List.length_singleton];omega
   ·obtain⟨g1,g2⟩:=DC h n
    by_cases hn:n<4
    ·have he:parentsF g n=[]:=by
      cases hq:parentsF g n with
      |nil=>rfl
      |cons q r=>have:=g2 q (by rw[hq];simp);omega
     have:=G7 (os:=ordersN g n) (M:=0) (c:=n) (ps:=parentsF g n) (by rw[he];simp)
     rw[he]at this⊢
     simp at this
     omega
    ·have:=G7 (os:=ordersN g n) (M:=5*3 ^ (n-4)-3) (c:=n) (ps:=parentsF g n) (fun q hq=>by have:=ih q (by have:=g2 q hq;omega);omega)
     have e:3 ^ (n+1-4)=3 ^ (n-4)*3:=by rw[show n+1-4=(n-4)+1 by omega,Nat.pow_succ]
     have hh:(parentsF g n).length*(5*3 ^ (n-4)-3)<=3*(5*3 ^ (n-4)-3):=Nat.mul_le_mul_right _ g1
     have bD:1<=3 ^ (n-4):=Nat.one_le_pow _ _ (by decide)
     rw[e];omega
  ·exact Nat.le_trans (ih p hp) aW
theorem Eg{g:List (List Int)}(h:Cw g=true){n:Nat}(hn:n<=3+g.length){p:Int}(hp:0<=p):(AF (ordersN g n) p).length<=80000000:=by
 have h1:=G6 h n p hp
 have h2:3 ^ (n-4)<=3 ^ 15:=Nat.pow_le_pow_right (by decide) (by have:=Hz h;omega)
 have h3:(3:Nat) ^ 15=14348907:=by decide
 omega
theorem Pp(ig im:Nat)(a b:D)(om:List (Int×List Int))(O:Sig)(hg:O ig=some (.cells [a,b,.map im]))(hm:O im=some (.map (eIO om))):
  DCall prog 344 [.ptr ig 0,dI 0] O fun x U'=>x=.ret (.tup [])/\U'=O.set im (.map (eIO (putM 0 [0] om))):=by
 refine en func344 ntmps344 ?_
 refine gf (gi hg hm) ?_ o344
 refine rtl 14 (sl (cI [0])) ?_
 refine gf (gi hg hm) ?_ o344
 exact fin0 (U':=O.set im (.map (eIO (putM 0 [0] om)))) ⟨rfl,rfl⟩
theorem Oo(ps:List (List Int))(cs:List Int)(o o':Own)(O:Sig)(hb:Cw ps=false)(hl:ps.length<=1073741824:=by exact sd)(ap:∀x∈ps,x.length<=1073741824:=by exact sd)(hc:cs.length<=1073741824:=by exact sd):
  DCall prog 301 [.slice (cII ps) o,.slice (cI cs) o'] O (rS (.tup [.nilp,.bool false]) O):=by
 refine en func301 ntmps301 ?_
 repeat' first|refine gf hb ?_ o301|apply gy<;>intro hh
 any_goals (first|exact fe2 trivial|fail)
theorem On(ps:List (List Int))(cs:List Int)(o o':Own)(O:Sig)(hb:Cw ps=true)(hx:¬∀c∈cs,0<=c/\c<3+ps.length)(hl:ps.length<=1073741824:=by exact sd)(ap:∀x∈ps,x.length<=1073741824:=by exact sd)(hc:cs.length<=1073741824:=by exact sd):
  DCall prog 301 [.slice (cII ps) o,.slice (cI cs) o'] O (rS (.tup [.nilp,.bool false]) O):=by
 refine en func301 ntmps301 ?_
 refine gf hb ?_ o301
 refine Cg [0,8,9,10,11,13,14,18,19,34,35,36,37,38,39,40,41,42,43,44,45,46,47,48,49,50,51,52,53,54,55,56,57,58,59,60,61,62,63,64,65,66,67,68,69,70,71,72,73,74,75,76,77,78,79,80,81,82,83,84,85,86,87,88,89,90,91,92,93,94,95,96,97,98,99,100,101,102,103] (fun (k:Nat)=>k<=cs.length /\ ∀c∈cs.take k,0<=c/\c<3+ps.length) (fun k=>[(20,dI k)]) (fun _=>O) (fun k=>cs.length-k) (0) (by simp) (fun k hI=>?_)
 obtain⟨hk,hI⟩:=hI
 by_cases h:k<cs.length
 ·repeat' first|refine gf hb ?_ o301|apply gy<;>intro hh
  ·exact fe2 trivial
  ·exact fe2 trivial
  ·have cg:∀c∈cs.take (k+1),0<=c/\c<3+ps.length:=fun c hc=>by
    rw[FZ h]at hc
    rcases List.mem_append.1 hc with hc|hc
    ·exact hI c hc
    ·obtain rfl:=List.mem_singleton.1 hc;omega
   exact⟨k+1,⟨by omega,cg⟩,td1,wkR⟩
 ·exfalso
  rw[List.take_of_length_le (by omega)]at hI
  exact hx hI
def cU(us:List Int):List (List D):=us.map fun n=>[.int .u64 n]
@[simp] theorem cU_length(us:List Int):(cU us).length=us.length:=by simp[cU]
@[simp] theorem cU_all(l:List Int):(cU l).all (fun c=>c.length==1)=true:=by simp[cU]
theorem TA(a b:List Int):cU (a++b)=cU a++cU b:=by simp[cU]
@[simp] theorem cU_get(us:List Int)(k:Nat):(cU us)[k]? = (us[k]?).map fun n=>[.int .u64 n]:=by simp[cU]
theorem RP (ps:List (List Int)) (cs:List Int) (o o':Own) (O:Sig) (hb:Cw ps=true) (hx : ∀ c ∈ cs,0<=c/\c < 3+ps.length) (hl:ps.length<=1073741824:=by exact sd) (ap : ∀ x ∈ ps,x.length<=1073741824:=by exact sd) (hc:cs.length<=1073741824:=by exact sd) :
  DCall prog 301 [.slice (cII ps) o,.slice (cI cs) o'] O fun x U'=> ∃ig im a b om,ig≠im/\x=.ret (.tup [.ptr ig 0,.bool true])/\U'=(O.set im (.map (eIO om))).set ig (.cells [a,b,.map im])/\O ig=none/\O im=none /\ ∀p:Int,0<=p->getM [] p om=AF (ordersN ps (3+ps.length)) p:=by
 have hlen:=Hz hb
 refine en func301 ntmps301 ?_
 refine gf hb ?_ o301 [40,11]
 refine Cg [0,8,9,10,11,13,14,18,19,34,35,36,37,38,39,40,41,42,43,44,45,46,47,48,49,50,51,52,53,54,55,56,57,58,59,60,61,62,63,64,65,66,67,68,69,70,71,72,73,74,75,76,77,78,79,80,81,82,83,84,85,86,87,88,89,90,91,92,93,94,95,96,97,98,99,100,101,102,103] (fun (k:Nat)=>k<=cs.length) (fun k=>[(20,dI k)]) (fun _=>O) (fun k=>cs.length-k) (0) (by simp) (fun k hI=>?_)
 by_cases h:k<cs.length
 ·have bm:=hx _ (List.getElem_mem h)
  refine gf hb ?_ o301 [40,11]
  exact⟨k+1,by omega,td1,wkR⟩
 ·refine gf hb ?_ o301 [40,11]
  refine mmake (k:=3) (c:=3+ps.length) (z:=[.nils]) (sz:=1) (fun ir bl ba=>?_)
  obtain⟨st0,aE⟩:∃st0:MR,st0=some (ir,3+ps.length,(List.replicate (3+ps.length-3) [D.nils]).flatten):=⟨_,rfl⟩
  obtain⟨es0,aw⟩:∃es0,es0=List.replicate 3 [D.nils]:=⟨_,rfl⟩
  rw[<-aE,<-aw]at ba⊢
  have bX:mD st0 es0.length=.sref ir 0 3 (3+ps.length):=by rw[aE,aw];rfl
  have b9:es0.length=3:=by rw[aw];rfl
  refine newIO (fun im be=>?_)
  obtain⟨e1,a8⟩:=Vz (o:=.map (eIO [])) ba be
  have bt:=QS be
  rw[e1]
  refine go1 trivial ?_
  refine boxV (fun ig aM=>?_)
  obtain⟨e2,hm2⟩:=Vz (o:=.cells [.sref ir 0 3 (3+ps.length),.nils,.map im]) a8 aM
  have aH:=QS aM
  have ar:ig≠im:=fun h=>by rw[h,w6]at aH;cases aH
  have bJ:ig≠ir:=fun h=>by subst h;simp[mS,aE,w6]at aM
  rw[e2]
  have bb:=QT hm2 (w6 ..)
  refine gf (gi bJ bb) ?_ o301 [40,11]
  refine mapp (new:=cII ps) (sz:=1) (h1:=by exact bX.symm) (fun st aZ=>?_) hm2
  clear hm2 a8 ba e1 e2 bb aM be
  obtain⟨es1,au⟩:∃es1,es1=es0++cII ps:=⟨_,rfl⟩
  have hN:es0.length+(cII ps).length=es1.length:=by rw[au,List.length_append]
  have bf:es1.length=3+ps.length:=by rw[au,List.length_append,b9];simp
  rw[<-au]at aZ⊢
  rw[hN]
  obtain⟨i1,c1,aY⟩:∃i1 c1,mD st es1.length=.sref i1 0 es1.length c1:=by
   cases st with
   |none=>exact absurd (show es1=[] from aZ) (fun h=>by rw[h]at bf;simp at bf;omega)
   |some x=>exact⟨_,_,rfl⟩
  have bb:=QT aZ (w6 ..)
  obtain⟨e3,bk⟩:=mS_put (o:=.cells [mD st es1.length,.nils,.map im]) aZ (w6 ..)
  rw[aY]at e3 bk⊢
  rw[Sig.set_set]at e3 bk
  refine gf (gi bJ (gi bb e3)) ?_ o301 [40,11]
  refine mfrC (i:=ig) [] [.nils,.map im] ?_ (by rw[aY];exact w6 ..) bk
  rw[Sig.set_set]
  refine celW (i:=ig) [] [.nils,.map im] (.slice es1 .no) (.slice (cII ([]::[]::[]::ps)) .no) ?_ (w6 ..) (Jt _ ?_)
  rw[Sig.set_set]
  simp only[List.nil_append]
  obtain⟨P,hP⟩:∃P,P=[]::[]::[]::ps:=⟨_,rfl⟩
  have aA:P.length=3+ps.length:=by rw[hP];simp;omega
  have cf:∀x∈P,x.length<=1073741824:=by rw[hP];simpa using ap
  have aU:∀c (hc:c<P.length),P[c]=parentsF ps c:=by
   intro c hc
   subst hP
   unfold parentsF
   rcases c with _|_|_|c
   ·rfl
   ·rfl
   ·rfl
   ·simp only[List.length_cons]at hc
    rw[if_neg (by omega),show((((c+1+1+1:Nat)):Int)-3).toNat=c by omega,List.getElem?_eq_getElem (by omega)];rfl
  rw[<-hP]
  refine gf aA ?_ o301 [40,11]
  refine dwp_tagcell ig 1 1 (w6 ..) rfl fun iu bI=>?_
  obtain⟨bP,bd⟩:=B5 bI
  obtain⟨bO,bH⟩:=B5 bd
  clear aZ bk bb e3 hN bI bd
  have bx:ig≠iu:=fun e=>bP e.symm
  have bW:im≠iu:=fun e=>bO e.symm
  have aq:im≠ig:=fun e=>ar e.symm
  have b8:O ig=none:=(B5 aH).2
  have hS:Sub ((((O.set iu (.tail 1 0)).set im (.map (eIO []))).set ig (.cells [.slice (cII P) .no,.slice [] (.tag iu),.map im]))) ((((O.set im (.map (eIO []))).set ig (.cells [.slice (cII P) .no,.nils,.map im])).set iu (.tail 1 0)).set ig (.cells ([.slice (cII P) .no,.nils,.map im].set 1 (.slice [] (.tag iu))))):=by
   intro k x hk;simp only[Sig.set,List.set]at hk⊢; grind
  refine D7 [4,5,8,14,53,54,91,92,93,94,95,96,97,98,99,100,101,102,103] (fun (c:Nat) (us:List Int)=>c<=P.length/\us.length=c) (fun c _=>[(55,dI c)]) (fun _ us=>((O.set iu (.tail 1 us.length)).set im (.map (eIO []))).set ig (.cells [.slice (cII P) .no,.slice (cU us) (.tag iu),.map im])) (fun c _=>P.length-c) (0) ([]) (by simp) (fun c us hI=>?_)
  obtain⟨ca,cn⟩:=hI
  by_cases bi:c<P.length
  ·have ck:=cf _ (List.getElem_mem bi)
   have bj:=aU c bi
   refine gf aA ?_ o301 [40,11]
   refine bldZ ?_
   refine gz ?_ o301 [40,11]
   refine A7 (M2 0 c _) (fun d U' hx=>?_) (fun d U' hx=>by obtain⟨⟨_,hx⟩,_⟩:=hx;cases hx)
   obtain⟨⟨n1,hx⟩,rfl⟩:=hx
   cases hx
   repeat' first|refine gz ?_ o301 [40,11]|apply gy<;>intro hh
   refine A7 (M2 n1 0 _) (fun d U' hx=>?_) (fun d U' hx=>by obtain⟨⟨_,hx⟩,_⟩:=hx;cases hx)
   obtain⟨⟨n2,hx⟩,rfl⟩:=hx
   cases hx
   repeat' first|refine gz ?_ o301 [40,11]|apply gy<;>intro hh
   simp only[putD]
   refine newV (fun ia b7=>?_)
   obtain⟨aQ,bw⟩:=B5 b7
   obtain⟨aP,bu⟩:=B5 bw
   obtain⟨aO,b6⟩:=B5 bu
   have aN:ig≠ia:=fun e=>aQ e.symm
   have aK:im≠ia:=fun e=>aP e.symm
   have aJ:iu≠ia:=fun e=>aO e.symm
   refine gf (gi aQ (gi aP (gi aO (gi aN (gi aK aJ))))) ?_ o301 [40,11]
   refine D7 [4,5,8,9,10,11,14,53,54,55,56,57,58,59,60,61,62,63,64,65,80,81,82,83,84,85,86,87,88,89,90,91,92,93,94,95,96,97,98,99,100,101,102,103] (fun (q:Nat) (n:Int)=>q<=(P[c]).length) (fun q _=>[(66,dI q)]) (fun _ n=>(((O.set iu (.tail 1 us.length)).set im (.map (eIO []))).set ig (.cells [.slice (cII P) .no,.slice (cU us) (.tag iu),.map im])).set ia (.cells [.int .u64 n])) (fun q _=>(P[c]).length-q) (0) (n2) (by simp) (fun q n hI=>?_)
   by_cases hq:q<(P[c]).length
   ·have hp:=(DC hb c).2 (P[c][q]) (by rw[<-bj];exact List.getElem_mem hq)
    obtain⟨p,bE⟩:∃p:Nat,P[c][q]=(p:Int):=⟨(P[c][q]).toNat,by omega⟩
    have ak:p<us.length:=by omega
    refine gf (gi aQ (gi aP (gi aO (gi aN (gi aK (gi aJ bE)))))) ?_ o301 [40,11]
    refine BG (RH n (us[p]) _) (fun d U' hx=>?_) (fun d U' hx=>by obtain⟨⟨_,hx⟩,_⟩:=hx;cases hx)
    obtain⟨⟨n3,hx⟩,rfl⟩:=hx
    cases hx
    refine⟨Sub.refl _,?_⟩
    simp only[putD]
    refine gf (gi aQ (gi aP (gi aO (gi aN (gi aK aJ))))) ?_ o301 [40,11]
    exact⟨q+1,n3,by omega,td1,wkR⟩
   ·refine gf (gi aQ (gi aP (gi aO (gi aN (gi aK aJ))))) ?_ (delO 20 o301) [40,11]
    refine EO (id:=20) [0,1,2,3,4,5,6,7,8,9] [7] (((O.set im (.map (eIO []))).set ig (.cells [.slice (cII P) .no,.slice (cU us) (.tag iu),.map im])).set ia (.cells [.int .u64 n])) ?_ ?_
    ·intro k x hk;simp only[Sig.set]at hk⊢; grind
    have aD:Sub (((O.set im (.map (eIO []))).set ig (.cells [.slice (cII P) .no,.slice (cU us) (.tag iu),.map im])).set ia (.cells [.int .u64 n])) (((((O.set iu (.tail 1 us.length)).set im (.map (eIO []))).set ig (.cells [.slice (cII P) .no,.slice (cU us) (.tag iu),.map im])).set ia (.cells [.int .u64 n])).set iu (.tail 1 (us.length+1))):=by
     intro k x hk;simp only[Sig.set]at hk⊢; grind
    iterate 7 refine go1 (And.intro bx (And.intro aN (And.intro aK aJ))) ?_
    refine moEffW (.slice (cU (us++[n])) (.tag iu)) ?_ (he:=by simp(disch:=first|omega|assumption) [w7];and_intros<;>first|rfl|omega) (hC:=aD) (hw:=CB (by rw[TA];rfl))
    refine gf (gi aQ (gi aP (gi aO (gi aN (gi aK (gi aJ bx)))))) ?_ (delO 20 o301) [40,11]
    have bC:Sub (((O.set iu (.tail 1 (us++[n]).length)).set im (.map (eIO []))).set ig (.cells [.slice (cII P) .no,.slice (cU (us++[n])) (.tag iu),.map im])) ((((((O.set iu (.tail 1 us.length)).set im (.map (eIO []))).set ig (.cells [.slice (cII P) .no,.slice (cU us) (.tag iu),.map im])).set ia (.cells [.int .u64 n])).set iu (.tail 1 (us.length+1))).set ig (.cells [.slice (cII P) .no,.slice (cU (us++[n])) (.tag iu),.map im])):=by
     intro k x hk;rw[List.length_append,List.length_singleton]at hk;simp only[Sig.set]at hk⊢; grind
    exact⟨c+1,(us++[n]),⟨by omega,by rw[List.length_append,List.length_singleton];omega⟩,td1,wkR⟩
  ·refine gf (gi aA (gi ar (gi bx (gi bW aq)))) ?_ o301 [40,11]
   generalize bN:D.slice (cU us) (.tag iu)=ups
   have bB:Sub ((O.set im (.map (eIO []))).set ig (.cells [.slice (cII P) .no,ups,.map im])) (((O.set iu (.tail 1 us.length)).set im (.map (eIO []))).set ig (.cells [.slice (cII P) .no,ups,.map im])):=by
    intro k x hk;simp only[Sig.set]at hk⊢; grind
   refine D7 [4,5,8,95,103] (fun (c:Nat) (om:List (Int×List Int))=>c<=P.length /\ ∀p:Int,0<=p->getM [] p om=AF (ordersN ps c) p) (fun c _=>[(96,dI c)]) (fun _ om=>(O.set im (.map (eIO om))).set ig (.cells [.slice (cII P) .no,ups,.map im])) (fun c _=>P.length-c) (0) ([]) (by exact⟨by omega,fun p _=>by simp[getM,ordersN,AF]⟩) (fun c om hI=>?_)
   obtain⟨ca,aF⟩:=hI
   by_cases bi:c<P.length
   ·have bK:((O.set im (.map (eIO om))).set ig (.cells [.slice (cII P) .no,ups,.map im])) ig=some (.cells [.slice (cII P) .no,ups,.map im]):=w6 ..
    have a8:((O.set im (.map (eIO om))).set ig (.cells [.slice (cII P) .no,ups,.map im])) im=some (.map (eIO om)):=by rw[w7 _ _ aq,w6]
    rcases Nat.eq_zero_or_pos c with rfl|cb
    ·refine gf aA ?_ o301 [40,11]
     refine A7 (Pp ig im _ _ om _ bK a8) (fun d U' hx=>?_) (fun d U' hx=>by cases hx.1)
     obtain⟨hx,rfl⟩:=hx
     cases hx
     simp only[putD]
     refine gf aA ?_ o301 [40,11]
     have aB:Sub ((O.set im (.map (eIO (putM 0 [0] om)))).set ig (.cells [.slice (cII P) .no,ups,.map im])) (((O.set im (.map (eIO om))).set ig (.cells [.slice (cII P) .no,ups,.map im])).set im (.map (eIO (putM 0 [0] om)))):=by
      intro k x hk;simp only[Sig.set]at hk⊢; grind
     have am:∀p:Int,0<=p->getM [] p (putM 0 [0] om)=AF (ordersN ps (0+1)) p:=fun p hp=>by
      rw[En,ordersN,EJ _ _ hp,aF p hp];rfl
     exact⟨0+1,putM 0 [0] om,⟨by omega,am⟩,td1,wkR⟩
    ·have bj:P[c]=parentsF ps c:=aU c bi
     have aT:=DC hb c
     rw[<-bj]at aT
     have hB:∀p:Int,0<=p->(AF (ordersN ps c) p).length<=80000000:=fun p hp=>Eg hb (by omega) hp
     have bh:=RG ig im P (ordersN ps c) ups om c .no ((O.set im (.map (eIO om))).set ig (.cells [.slice (cII P) .no,ups,.map im])) ar bK a8 bi (by omega) (by omega) (by omega)
      (fun p hp=>aF p (by have:=aT.2 p hp;omega)) (fun p hp=>by have:=hB p (by have:=aT.2 p hp;omega);omega)
      (fun ls ae=>by
       have h1:=Hn ae (fun p hp=>hB p (by have:=aT.2 p hp;omega))
       have h2:=aT.1
       have h3:(P[c]).length*80000000<=3*80000000:=Nat.mul_le_mul_right _ h2
       omega)
     refine gf aA ?_ o301 [40,11]
     refine A7 bh (fun d U' hx=>?_) (fun d U' hx=>by cases hx.1)
     obtain⟨hx,rfl⟩:=hx
     cases hx
     simp only[putD]
     have aa:∀p:Int,0<=p->AF (ordersN ps (c+1)) p=if p=c then D9 (ordersN ps c) c P[c] else AF (ordersN ps c) p:=fun p hp=>by
      rw[ordersN,EJ _ _ hp,C7,if_neg (by omega:¬c=0),<-bj]
     have aB:∀om',Sub ((O.set im (.map (eIO om'))).set ig (.cells [.slice (cII P) .no,ups,.map im])) (((O.set im (.map (eIO om))).set ig (.cells [.slice (cII P) .no,ups,.map im])).set im (.map (eIO om'))):=by
      intro om' k x hk;simp only[Sig.set]at hk⊢; grind
     by_cases he:D9 (ordersN ps c) c P[c]=[]
     ·rw[if_pos he]
      have am:∀p:Int,0<=p->getM [] p om=AF (ordersN ps (c+1)) p:=fun p hp=>by
       rw[aa p hp,aF p hp,he]
       split
       ·rename_i bE
        unfold AF;rw[List.getElem?_eq_none (by rw[C7];omega)];rfl
       ·rfl
      refine gf aA ?_ o301 [40,11]
      exact⟨c+1,om,⟨by omega,am⟩,td1,wkR⟩
     ·rw[if_neg he]
      have am:∀p:Int,0<=p->getM [] p (putM c (D9 (ordersN ps c) c P[c]) om)=AF (ordersN ps (c+1)) p:=fun p hp=>by
       rw[aa p hp,En,aF p hp]
      have bA:=aB (putM c (D9 (ordersN ps c) c P[c]) om)
      refine gf aA ?_ o301 [40,11]
      exact⟨c+1,putM c (D9 (ordersN ps c) c P[c]) om,⟨by omega,am⟩,td1,wkR⟩
   ·have aI:c=3+ps.length:=by omega
    subst aI
    refine gf aA ?_ o301 [40,11]
    exact fin2 (U':=(O.set im (.map (eIO om))).set ig (.cells [.slice (cII P) .no,ups,.map im])) ⟨ig,im,_,_,om,ar,rfl,rfl,b8,bt,aF⟩
  rw[au,aw]
  exact⟨⟨Am _ (.inl rfl),trivial⟩,⟨Am _ (.inl rfl),trivial⟩,⟨Am _ (.inl rfl),trivial⟩,NI _⟩
def LJ(g:List (List Int))(c:Int):List Int:=AF (ordersN g (3+g.length)) c
def linE(g:List (List Int))(c:Int):Int:=if Cw g=true/\0<=c/\c<3+g.length then(if LJ g c=[] then 7 else 0) else 2
def linF(g:List (List Int))(c:Int):List Int:=if Cw g=true/\0<=c/\c<3+g.length then LJ g c else []
theorem Se(g:List (List Int))(c:Int)(o:Own)(O:Sig)(hl:g.length<=1073741824:=by exact sd)(ap:∀x∈g,x.length<=1073741824:=by exact sd):
  DCall prog 252 [.slice (cII g) o,dI c] O (rS (.tup [sl (cI (linF g c)),dI (linE g c)]) O):=by
 refine en func252 ntmps252 ?_
 by_cases hb:Cw g=true
 ·by_cases hc:0<=c/\c<3+g.length
  ·try refine gz ?_
   refine A7 (RP g [c] o .clip _ hb (by simpa using hc) hl ap (by simp)) (fun d U' hx=>?_) (fun d U' hx=>by obtain⟨_,_,_,_,_,_,hx,_⟩:=hx;cases hx)
   obtain⟨ig,im,a,b,om,hne,hx,rfl,aM,be,aF⟩:=hx
   cases hx
   simp only[putD]
   have aq:im≠ig:=fun e=>hne e.symm
   have aD:Sub O ((O.set im (.map (eIO om))).set ig (.cells [a,b,.map im])):=((Sub.refl _).set be).set aM
   have cw:(LJ g c).length<=80000000:=Eg hb (by omega) hc.1
   have hL:getM [] c om=LJ g c:=aF c hc.1
   try refine gf aq ?_
   refine lkO ?_ (hi:=by rw[w7 _ _ aq,w6])
   rw[hL]
   by_cases he:LJ g c=[]
   ·try refine gf (gi aq he) ?_
    (refine fin2 (U':=O) (d':=sl []) ?_;exact⟨by first|rfl|(simp[linF,linE,hb,hc,he];done)|(simp_all [linF,linE,hb,hc,he];done)|(rw[Ag,Bool.eq_iff_iff];simp_all [linF,linE,hb,hc,he]<;>omega),rfl⟩)
   ·repeat' first|refine gf aq ?_|apply gy<;>intro hh
    ·exfalso;exact he (by simpa using hh)
    ·refine lkO ?_ (hi:=by rw[w7 _ _ aq,w6])
     rw[hL]
     repeat' first|refine gf aq ?_|refine Cb (Gr (cI (LJ g c)) .no _ (by simp;omega) (Cc _)) ?_|refine callP (Gr (cI (LJ g c)) .no _ (by simp;omega) (Cc _)) ?_|refine gf aq ?_|apply gy<;>intro hh
     (refine fin2 (U':=O) ?_;exact⟨by first|rfl|(simp[linF,linE,hb,hc,he];done)|(simp_all [linF,linE,hb,hc,he];done)|(rw[Ag,Bool.eq_iff_iff];simp_all [linF,linE,hb,hc,he]<;>omega),rfl⟩)
  ·repeat' first|refine gz ?_|refine Cb (On g [c] o .clip _ hb (by simpa using hc) hl ap (by simp)) ?_|refine callP (On g [c] o .clip _ hb (by simpa using hc) hl ap (by simp)) ?_|refine gz ?_|apply gy<;>intro hh
   (refine fin2 (U':=O) (d':=sl []) ?_;exact⟨by first|rfl|(simp[linF,linE,hb,hc];done)|(simp_all [linF,linE,hb,hc];done)|(rw[Ag,Bool.eq_iff_iff];simp_all [linF,linE,hb,hc]<;>omega),rfl⟩)
 ·repeat' first|refine gz ?_|refine Cb (Oo g [c] o .clip _ (by simpa using hb) hl ap (by simp)) ?_|refine callP (Oo g [c] o .clip _ (by simpa using hb) hl ap (by simp)) ?_|refine gz ?_|apply gy<;>intro hh
  (refine fin2 (U':=O) (d':=sl []) ?_;exact⟨by first|rfl|(simp[linF,linE,hb];done)|(simp_all [linF,linE,hb];done)|(rw[Ag,Bool.eq_iff_iff];simp_all [linF,linE,hb]<;>omega),rfl⟩)
@[reducible,instance] def a252:=fun g c o O=>ah2 (@Se g c o O)
theorem JH: ∀(n:Nat) (ls:List (List Int)) (out:List Int) (y:Int),y∈(Ge n ls out).1->y∈out \/ ∃l∈ls,y∈l
 |0,_,_,y,h=>.inl h
 | n+1,ls,out,y,h=>by
  rw[Ge]at h
  cases hn:Ga ls false ls with
  | mk a s =>
   rw[hn]at h
   cases a with
   |none=>exact .inl h
   | some c =>
    obtain⟨e,he,aI⟩:=EL hn
    rcases JH n _ _ y h with h|⟨l,hl,hy⟩
    ·rcases List.mem_append.1 h with h|h
     ·exact .inl h
     ·rw[List.mem_singleton]at h;exact .inr ⟨e,he,h ▸ aI⟩
    ·obtain⟨l',bY,rfl⟩:=List.mem_map.1 hl
     exact .inr ⟨l',bY,(List.mem_filter.1 hy).1⟩
theorem JL{os:List (List Int)}: ∀{ps:List Int}{ls:List (List Int)},Da os ps=some ls->∀l∈ls, ∃p∈ps,l=(AF os p).filter fun x=> !decide (x=0)
 |[],ls,h,l,hl=>by simp only[Da,Option.some.injEq]at h;subst h;cases hl
 | p::r,ls,h,l,hl=>by
  rw[Da]at h
  split at h
  ·cases h
  ·cases hr:Da os r with
   |none=>rw[hr]at h;cases h
   | some l2 =>
    rw[hr]at h
    simp only[Option.map_some,Option.some.injEq]at h
    subst h
    rcases List.mem_cons.1 hl with rfl|hl
    ·exact⟨p,by simp,rfl⟩
    ·obtain⟨q,hq,e⟩:=JL hr l hl
     exact⟨q,List.mem_cons_of_mem _ hq,e⟩
theorem Nb{os:List (List Int)}{ps:List Int}{ls:List (List Int)}(h:Ch os ps=some ls): ∀l∈ls, ∀y∈l,(∃p∈ps,y∈AF os p)\/y∈ps:=by
 unfold Ch at h
 cases hr:Da os ps with
 |none=>rw[hr]at h;cases h
 | some l2 =>
  rw[hr]at h
  simp only[Option.map_some,Option.some.injEq]at h
  subst h
  intro l hl y hy
  rcases List.mem_append.1 hl with hl|hl
  ·obtain⟨p,hp,rfl⟩:=JL hr l hl
   exact .inl ⟨p,hp,(List.mem_filter.1 hy).1⟩
  ·rw[List.mem_singleton]at hl;exact .inr (hl ▸ hy)
theorem Ia{os:List (List Int)}{p:Int}{y:Int}(h:y∈AF os p): ∃x∈os,y∈x:=by
 unfold AF at h
 cases hx:os[p.toNat]? with
 |none=>rw[hx]at h;cases h
 |some x=>rw[hx]at h;exact⟨x,List.mem_of_getElem? hx,h⟩
theorem I9 {g:List (List Int)} (hg:Cw g=true) : ∀ n, ∀ x ∈ ordersN g n, ∀ y ∈ x,0<=y/\y < (n:Int)
 |0,x,hx=>by cases hx
 | n+1,x,hx=>by
  have ih:=I9 hg n
  rw[ordersN]at hx
  intro y hy
  rcases List.mem_append.1 hx with hx|hx
  ·have:=ih x hx y hy;omega
  ·rw [List.mem_singleton] at hx
   subst hx
   split at hy
   ·rw[List.mem_singleton]at hy;omega
   ·unfold D9 at hy
    cases ae:Ch (ordersN g n) (parentsF g n)with
    |none=>rw[ae]at hy;cases hy
    | some ls =>
     rw[ae]at hy
     simp only at hy
     split at hy
     ·simp only[List.cons_append,List.mem_cons,List.mem_append,List.not_mem_nil,or_false]at hy
      rcases hy with rfl|hy|rfl
      ·omega
      ·rcases JH _ _ _ y hy with h|⟨l,hl,bM⟩
       ·cases h
       ·rcases Nb ae l hl y bM with⟨p,_,h⟩|h
        ·obtain⟨z,hz,h⟩:=Ia h;have:=ih z hz y h;omega
        ·have:=(DC hg n).2 y h;omega
      ·omega
     ·cases hy
def ownO:Option Nat->Own
 |none=>.clip
 |some i=>.tag i
def sgO(O:Sig)(n:Nat):Option Nat->Sig
 |none=>O
 |some i=>O.set i (.tail 1 n)
attribute [simp] C7
@[simp] theorem ownO_none:ownO none=.clip:=rfl
@[simp] theorem ownO_some(i:Nat):ownO (some i)=.tag i:=rfl
@[simp] theorem sgO_none(O:Sig)(n:Nat):sgO O n none=O:=rfl
@[simp] theorem sgO_some(O:Sig)(n i:Nat):sgO O n (some i)=O.set i (.tail 1 n):=rfl
def G4:Int->List Int->Option Int
 |n,[]=>some n
 |n,s::r=>if s=n then G4 (n+1) r else none
theorem Ans.of{f:Nat}{us:List D}{O:Sig}{d:D}(h:DCall prog f us O (rS d O)):Ans f us O True d:=⟨fun _=>h⟩
def Cr(f:Int->Int->List Int->Bool×List Int)(x:BNode)(size:Int):Nat->List Int->List Int->Bool×List Int
 |_,[],s=>(true,s)
 |j,c::r,s=>match f c (if x.op=9/\j=1 then size+1 else size) s with
  |(false,s')=>(false,s')
  |(true,s')=>Cr f x size (j+1) r s'
def A9(p:BProg)(n:Int):BNode:=(p.nodes[n.toNat]?).getD ⟨0,0,[]⟩
def DJ(p:BProg)(inM:Bool):Nat->Int->Int->List Int->Bool×List Int
 |0,_,_,s=>(false,s)
 |k+1,node,size,s=>
  if node<0\/(p.nodes.length:Int)<=node\/0<=s.getD node.toNat 0 then(false,s) else
  if((A9 p node).kids.length:Int)≠CI p (A9 p node)\/CH p (A9 p node) size=false\/((A9 p node).op=18/\inM=false) then(false,s.set node.toNat size) else
  Cr (DJ p inM k) (A9 p node) size 0 (A9 p node).kids (s.set node.toNat size)
theorem Sig.set_self(O:Sig){i:Nat}{o:DObj}(h:O i=some o):O.set i o=O:=by
 funext k;simp only[Sig.set];split
 ·rename_i e;rw[e,h]
 ·rfl
mutual
theorem Fact.size_le: ∀f:Fact,f.size<=f.wt
 |.mk o a p c n k=>by
  have:=Fact.sizes_le k
  rw[Fact.size,Fact.wt];omega
theorem Fact.sizes_le: ∀l:List Fact,Fact.sizes l<=Fact.wts l
 |[]=>Nat.le_refl _
 |f::l=>by
  have h1:=Fact.size_le f
  have h2:=Fact.sizes_le l
  rw[Fact.sizes,Fact.wts];omega
end
theorem Kc(s:List Int):(cI s).flatten=s.map dI:=by
 induction s with
 |nil=>rfl
 |cons x s ih=>rw[show cI (x::s)=[dI x]::cI s from rfl,List.flatten_cons,ih];rfl
end Go.DL
namespace Go.DL
open Go.Proofs.Tryz
open Go Go.Proofs
set_option maxHeartbeats 4000000
def idxF{α:Type}(q:α->Bool):List α->Nat->Int
 |[],_=> -1
 |x::r,k=>if q x then k else idxF q r (k+1)
theorem Dc{α:Type}(q:α->Bool): ∀(l:List α) (k:Nat),decide (0<=idxF q l k)=l.any q
 |[],_=>rfl
 |x::r,k=>by
  rw[idxF,List.any_cons]
  cases hq:q x
  ·simp only[Bool.false_eq_true,if_false,Bool.false_or];exact Dc q r (k+1)
  ·simp
theorem M8(l:List Int)(q:Int->Bool)(g:Nat)(cap:List D)(o:Own)(O:Sig)(hl:l.length<=1073741824)
  (hg:∀x∈l,DCall prog g ([]++[dI x]++cap) O fun r S''=>r=.ret (.bool (q x))/\S''=O) :
  DCall prog 230 [.slice (cI l) o,.func (.func g) [] cap] O (rS (dI (idxF q l 0)) O):=by
 refine en func230 ntmps230 ?_
 refine gz ?_
 refine Cg [0,1,7] (fun (k:Nat)=>k<=l.length/\idxF q l 0=idxF q (l.drop k) k) (fun k=>[(8,dI k)]) (fun _=>O) (fun k=>l.length-k) (0) td3 (fun k hI=>?_)
 obtain⟨hk,hR⟩:=hI
 by_cases h:k<l.length
 ·rw[Ab h,idxF]at hR
  repeat' first|refine Cb (hg (l[k]) (List.getElem_mem h)) ?_|refine callP (hg (l[k]) (List.getElem_mem h)) ?_|refine gf h ?_|apply gy<;>intro hh
  ·exact fe1 hR
  ·exact⟨k+1,⟨by omega,by rw[hR,hh];rfl⟩,td1,wkR⟩
 ·refine gf h ?_
  (refine fin1 (U':=O) ?_;exact⟨by first|rfl|(simp[hR,Aj h,idxF];done)|(simp_all [hR,Aj h,idxF];done)|(rw[Ag,Bool.eq_iff_iff];simp_all [hR,Aj h,idxF]<;>omega),rfl⟩)
theorem Mh(l:List Int)(q:Int->Bool)(g:Nat)(cap:List D)(o:Own)(O:Sig)(hl:l.length<=1073741824)
  (hg:∀x∈l,DCall prog g ([]++[dI x]++cap) O fun r S''=>r=.ret (.bool (q x))/\S''=O) :
  DCall prog 151 [.slice (cI l) o,.func (.func g) [] cap] O (rS (.bool (l.any q)) O):=by
 refine en func151 ntmps151 ?_
 repeat' first|refine gz ?_|refine Cb (M8 l q g cap o O hl hg) ?_|refine callP (M8 l q g cap o O hl hg) ?_|refine gz ?_|apply gy<;>intro hh
 (refine fin1 (U':=O) ?_;exact⟨by first|rfl|(simp[Dc];done)|(simp_all [Dc];done)|(rw[Ag,Bool.eq_iff_iff];simp_all [Dc]<;>omega),rfl⟩)
end Go.DL
