/- A part of the proof. -/
import Derived.Test.YtlfimpogphmbdaaGreatM15
import Derived.Test.YtlfimpogphmbdaaGreatM14
set_option linter.all false
namespace Go.DL
open Go.Proofs.Tryz
open Go Go.Proofs
set_option maxHeartbeats 8000000
theorem Ev{xs bs:List D}(h:WkL xs bs):WkD (.agg xs) (.agg bs):=by
 rintro g v ⟨vs,e,r⟩
 exact⟨vs,e,h.rep r⟩
def ownersF:List BClass->Nat->List Int
 |[],_=>[]
 |c::r,i=>List.replicate c.slots.length ((i:Int)+3)++ownersF r (i+1)
def CE(p:BProg):World:=⟨p.classes.map (·.parents),ownersF p.classes 0⟩
theorem SC(l:List (List D))(o:Own)(V:Sig):
  DCall prog 198 [.slice l o] V (rS (.slice l .clip) V):=by
 refine en func198 ntmps198 ?_;refine gz ?_;exact fe1 trivial
@[reducible,instance] def a198:=fun l o V=>ah0 (@SC l o V)
theorem IQ(c:BClass)(V:Sig)(hl:c.parents.length<=1073741824:=by exact sd):
  DCall prog 117 [.agg (cBClass c)] V (rS (sl (cI c.parents)) V):=by
 refine en func117 ntmps117 ?_
 repeat' first|refine gz ?_|refine AE (Gp (cI c.parents) .no V (by simpa using hl) (C4 _)) ?_|refine callP (Gp (cI c.parents) .no V (by simpa using hl) (C4 _)) ?_|refine gz ?_|apply gy<;>intro hh
 exact fe1 trivial
@[reducible,instance] def a117:=fun c V=>ah1 (@IQ c V)
theorem T8(l:List BClass)(V:Sig)(hl:l.length<=1073741824:=by exact sd)(hp:∀c∈l,c.parents.length<=1073741824:=by exact sd):
  DCall prog 116 [sl (l.map cBClass),.func (.func 117) [] []] V (rS (sl (cII (l.map (·.parents)))) V):=by
 refine en func116 ntmps116 ?_;refine gz ?_;refine Cj 5 1 (fun i hi=>?_);refine Br [1,4,8,9,21,22] (fun (k:Nat) (out:List (List Int))=>k<=l.length/\out.length=k/\out++(l.drop k).map (·.parents)=l.map (·.parents)) (fun k out=>[(10,dI k),(5,.slice (cII out) (.tag i))]) (fun _ out=>V.set i (.tail 1 out.length)) (fun k _=>l.length-k) (0) ([]) (by simp) (fun k out hI=>?_);obtain⟨hk,ho,hR⟩:=hI
 by_cases h:k<l.length
 ·rw[A3 h]at hR;have hpl:=hp _ (List.getElem_mem h)
  repeat' first|refine AE (IQ (l[k]) _ hpl) ?_|refine callP (IQ (l[k]) _ hpl) ?_|refine gz ?_|apply gy<;>intro hh
  exact⟨k+1,out++[(l[k]).parents],⟨by omega,by simp[ho],by rw[List.append_assoc];exact hR⟩,td1,wkR⟩
 ·rw[A2 h]at hR;simp at hR;refine gz ?_;exact finS (S':=V) (es:=cII out) ⟨by rw[hR],rfl⟩ ((Sub.refl _).set hi)
@[reducible,instance] def a116:=fun l V=>ah2 (@T8 l V)
theorem UE(p:BProg)(V:Sig)(hl:p.classes.length<=1073741824:=by exact sd)(hp:∀c∈p.classes,c.parents.length<=1073741824:=by exact sd):
  DCall prog 49 [.agg (Am p)] V (rS (sl (cII (p.classes.map (·.parents)))) V):=by
 refine en func49 ntmps49 ?_;refine gz ?_;exact fe1 trivial
@[reducible,instance] def a49:=fun p V=>ah2 (@UE p V)
def ownF(p:BProg)(c:Int):Bool:=decide (3<=c)&&decide (c<3+p.classes.length)
mutual
def Fact.cnt:Fact->Int->Int
 |.mk _ _ _ _ _ k,most=>Fact.cnts k most 1
def Fact.cnts:List Fact->Int->Int->Int
 |[],_,n=>n
 |f::l,most,n=>if n<=most then Fact.cnts l most (n+f.cnt (most-n)) else n
end
mutual
theorem Fact.cnt_le: ∀(f:Fact) (most:Int),1<=f.cnt most/\f.cnt most<=f.size
 |.mk _ _ _ _ _ k,most=>by
  have:=Fact.cnts_le k most 1;rw[Fact.cnt,Fact.size];simp only[Int.natCast_add];omega
theorem Fact.cnts_le: ∀(l:List Fact) (most n:Int),n<=Fact.cnts l most n/\Fact.cnts l most n<=n+Fact.sizes l
 |[],most,n=>by simp[Fact.cnts,Fact.sizes]
 |f::l,most,n=>by
  have h1:=Fact.cnt_le f (most-n);have h2:=Fact.cnts_le l most (n+f.cnt (most-n));rw[Fact.cnts,Fact.sizes];simp only[Int.natCast_add];split<;>omega
end
section
variable {V:Sig}{r i j:Nat}{a:D}
def wS(V:Sig)(r i j:Nat)(a:D)(out:List Int):Sig:=((V.set r (.cells [.nils,.nils])).set i (.tail 1 out.length)).set j (.cells [a,.slice (cI out) (.tag i)])
theorem wS_j(out:List Int):wS V r i j a out j=some (.cells [a,.slice (cI out) (.tag i)]):=w7 ..
theorem wS_i(hij:i≠j)(out:List Int):wS V r i j a out i=some (.tail 1 out.length):=by unfold wS;rw[w8 _ _ hij,w7]
theorem wS_r(hjr:j≠r)(hir:i≠r)(out:List Int):wS V r i j a out r=some (.cells [.nils,.nils]):=by unfold wS;rw[w8 _ _ (Ne.symm hjr),w8 _ _ (Ne.symm hir),w7]
theorem wS_next(hij:i≠j)(out:List Int)(x:Int):((wS V r i j a out).set i (.tail 1 (out.length+1))).set j (.cells [a,.slice (cI out++[[dI x]]) (.tag i)])=wS V r i j a (out++[x]):=by
 unfold wS;rw[Sig.set_comm _ _ _ (Ne.symm hij),Sig.set_set,Sig.set_set];simp[cI]
theorem wS_nil(hij:i≠j){x:DObj}:(((V.set r (.cells [.nils,.nils])).set j x).set i (.tail 1 0)).set j (.cells [a,.slice [] (.tag i)])=wS V r i j a []:=by
 unfold wS;rw[Sig.set_comm _ _ _ (Ne.symm hij),Sig.set_set];simp[cI]
theorem wS_sub(hr:V r=none)(hi:V i=none)(hj:V j=none)(out:List Int):Sub V (wS V r i j a out):=by unfold wS;exact(((Sub.refl _).set hr).set hi).set hj
end
theorem Ux(p:BProg)(V:Sig)(hl:p.classes.length<=1073741824:=by exact sd)(hp:∀c∈p.classes,c.parents.length<=1073741824:=by exact sd)(hss:∀c∈p.classes,c.slots.length<=1073741824:=by exact sd)(ho:(ownersF p.classes 0).length<=1073741824:=by exact sd):
  DCall prog 70 [.agg (Am p)] V (rS (.agg (Hl (CE p))) V):=by
 refine en func70 ntmps70 ?_;refine gz ?_ [] [2,3];refine newV (fun r hr=>?_);refine gz ?_ [] [2,3];refine newV (fun j hj=>?_);obtain⟨hjr,hj⟩:=Aa hj;refine gz ?_ [] [2,3];refine CB j 1 1 (w7 ..) rfl fun i hi=>?_;obtain⟨hij,hi⟩:=Aa hi;obtain⟨hir,hi⟩:=Aa hi;simp only[Sig.set_set,List.set_cons_succ,List.set_cons_zero];rw[wS_nil hij];have hS:=fun out=>wS_j (V:=V) (r:=r) (i:=i) (j:=j) (a:=sl (cII (p.classes.map (·.parents)))) out;have hSi:=fun out=>wS_i (V:=V) (r:=r) (a:=sl (cII (p.classes.map (·.parents)))) hij out;have hSr:=fun out=>wS_r (V:=V) (a:=sl (cII (p.classes.map (·.parents)))) hjr hir out;have hnx:=fun out x=>wS_next (V:=V) (r:=r) (a:=sl (cII (p.classes.map (·.parents)))) hij out x;have hne:=fun (s:Sig) (o:DObj)=>w8 s o (Ne.symm hij);refine Br [2,3,10,11,31] (fun (k:Nat) (out:List Int)=>k<=p.classes.length/\out++ownersF (p.classes.drop k) k=ownersF p.classes 0) (fun k _=>[(12,dI k)]) (fun _ out=>wS V r i j (sl (cII (p.classes.map (·.parents)))) out) (fun k _=>p.classes.length-k) (0) ([]) (by simp) (fun k out hI=>?_);obtain⟨hk,hR⟩:=hI
 by_cases h:k<p.classes.length
 ·rw[A3 h,ownersF]at hR;have hsl:=hss _ (List.getElem_mem h);refine gf hS ?_ [] [2,3];refine Br [2,3,4,5,10,11,12,13,14,15,16,17,18,19,30,31] (fun (q:Nat) (out:List Int)=>q<=(p.classes[k]).slots.length/\out++(List.replicate ((p.classes[k]).slots.length-q) ((k:Int)+3)++ownersF (p.classes.drop (k+1)) (k+1))=ownersF p.classes 0) (fun q _=>[(20,dI q)]) (fun _ out=>wS V r i j (sl (cII (p.classes.map (·.parents)))) out) (fun q _=>(p.classes[k]).slots.length-q) (0) (out) (by simpa using hR) (fun q out hI=>?_);obtain⟨hq,hR⟩:=hI
  have hlen:out.length+((p.classes[k]).slots.length-q)<=1073741824:=by
   have:=congrArg List.length hR;simp only[List.length_append,List.length_replicate]at this;omega
  by_cases h':q<(p.classes[k]).slots.length
  ·refine gf (gi hS (gi hSi (gi hne hnx))) ?_ [] [2,3];exact⟨q+1,out++[(k:Int)+3],by refine⟨by omega,?_⟩;rw[<-hR];obtain⟨m,hm⟩:∃m,(p.classes[k]).slots.length-q=m+1:=⟨(p.classes[k]).slots.length-q-1,by omega⟩;rw[hm,show(p.classes[k]).slots.length-(q+1)=m by omega,List.replicate_succ];simp,td1,wkR⟩
  ·rw[show(p.classes[k]).slots.length-q=0 by omega]at hR;refine gf hS ?_ [] [2,3];exact⟨k+1,out,⟨by omega,by simpa using hR⟩,td1,wkR⟩
 ·rw[A2 h,ownersF,List.append_nil]at hR;refine gf (gi hS hSr) ?_ [] [2,3];refine IR Ad (ds:=[.agg [sl (cII (p.classes.map (·.parents))),.slice (cI out) (.tag i)]]) ?_ (Ev (by rw[hR];simp[CE])) (S':=V) (.set (wS_sub hr hi hj out) hr) ⟨rfl,rfl⟩;simp[f70]
@[reducible,instance] def a70:=fun p V=>ah4 (@Ux p V)
def Iv{α:Type}[DecidableEq α](l:List α)(s:List α):List α:=l.foldl (fun s x=>ins x s) s
def hasG(cs:List BClass):Nat->List Int->List Int->List Int
 |0,_,out=>out
 |n+1,up,out=>match cs[n]? with
  |some c=>if(n:Int)+3∈up then hasG cs n (Iv c.parents up) (out++c.slots) else hasG cs n up out
  |none=>hasG cs n up out
def hasP(p:BProg)(c:Int):List Int:=Ez (hasG p.classes (c-2).toNat [c] [])
theorem Kw(p:BProg):wtL (fun c:BClass=>c.slots.length) p.classes<p.wt:=by
 have:∀l:List BClass,wtL (fun c:BClass=>c.slots.length) l<=wtL BClass.wt l:=fun l=>by
  induction l with
  |nil=>exact Nat.le_refl _
  |cons c l ih=>simp only[wtL,BClass.wt];omega
 have:=this p.classes;unfold BProg.wt;omega
theorem Kx{α:Type}(f:α->Nat)(l:List α)(n:Nat)(h:n<l.length):wtL f (l.take (n+1))=wtL f (l.take n)+f l[n]:=by
 rw[List.take_succ_eq_append_getElem h,Fy];simp[wtL]
theorem Fx{α:Type}(f:α->Nat)(l:List α)(n:Nat):wtL f (l.take n)<=wtL f l:=by
 have:=Fy f (l.take n) (l.drop n);rw[List.take_append_drop]at this;omega
theorem U8{V:Sig}{st:MR}{l:List Int}(h:mOK V 1 st (cI l)):mOK V 1 st (cI (Ez l)):=by
 cases st with
 |none=>
  have:cI l=[]:=h;have:l=[]:=by simpa[cI] using this
  subst this;rw[show Ez []=[] by simp[Ez]];exact h
 |some x=>
  obtain⟨h1,h2,h3,h4⟩:=h;have e:=FZ l;refine⟨h1,?_,by simpa[e] using h3,C4 _⟩;rw[List.length_append,CK (C4 _),Kn]at h2⊢;omega
theorem UB(p:BProg)(c:Int)(V:Sig)(hp:p.wt<=1073741824:=by exact sd)(hc:3<=c:=by exact sd)(hc2:c<3+p.classes.length:=by exact sd):DCall prog 62 [.agg (Am p),dI c] V (rS (sl (cI (hasP p c))) V):=by
 obtain⟨p1,p2,p3,p4,p5,p6,p7⟩:=p.wt_le;have ws:=Kw p;refine en func62 ntmps62 ?_;refine gz ?_;refine newSI (fun i hi=>?_);refine gz ?_;refine Ua [2,4,5,45,46,47,48] (fun (n:Nat) (up:List Int) (out:List Int) (st:MR)=>n<=p.classes.length/\out.length+wtL (fun c:BClass=>c.slots.length) (p.classes.take n)<=1073741824/\mOK (V.set i (.map (eSI up))) 1 st (cI out)/\Ez (hasG p.classes n up out)=hasP p c) (fun n _ out st=>[(7,dI (n+2)),(6,mD st out.length)]) (fun _ up out st=>mS (V.set i (.map (eSI up))) st (cI out)) (fun n _ _ _=>n) ((c-2).toNat) ([c]) ([]) (none) (by(refine⟨by omega,?_,rfl,rfl⟩;have:=Fx (fun c:BClass=>c.slots.length) p.classes (c-2).toNat;simp;omega)) (fun n up out st hI=>?_);obtain⟨hn,hlen,hm,hR⟩:=hI;have hT:=fun k (h:k<p.classes.length)=>Kx (fun c:BClass=>c.slots.length) p.classes k h;obtain⟨hmY,hmi,hms⟩:=mS_at hm;rcases n with _|n
 ·rw[hasG]at hR;refine gz ?_;refine Ab (SX out st _ hm (by simp[wtL]at hlen;omega)) (fun d S' hr=>?_) (fun d S' hr=>by cases hr.1);obtain⟨hr1,rfl⟩:=hr;cases hr1;have hm':=U8 hm;rw[<-FZ out];rw[hR]at hm'⊢;refine mfr 6 ?_ (hm:=hm');refine gz ?_;exact fe1 (d':=sl (cI (hasP p c))) trivial
 ·have h:n<p.classes.length:=by omega
  have hTn:=hT n h;have hw:=p5 n h;have hwu:(p.classes[n]).wt=1+(p.classes[n]).parents.length+(p.classes[n]).slots.length+(p.classes[n]).inits.length:=rfl;rw[hasG,List.getElem?_eq_getElem h]at hR
  by_cases hup:(n:Int)+3∈up
  ·simp only[hup,if_true]at hR;have e3:(n:Int)+1+2=n+3:=by omega
   have hn3:((n:Int)+1+2-3).toNat=n:=by omega
   refine gf (gi hmi (gi hms (gi hup (gi e3 hn3)))) ?_;refine mappI (fun st' hm'=>?_);obtain⟨hmY',hmi',hms'⟩:=mS_at hm';refine gf (gi hmi' (gi hms' (gi hup (gi e3 hn3)))) ?_;refine Bj [2,4,5,6,7,14,15,16,17,18,19,20,21,22,23,24,25,26,27,28,29,30,31,32,33,34,35,36,37,45,46,47,48] (fun (k:Nat)=>k<=(p.classes[n]).parents.length) (fun k=>[(38,dI k)]) (fun k=>mS (V.set i (.map (eSI (Iv ((p.classes[n]).parents.take k) up)))) st' (cI (out++(p.classes[n]).slots))) (fun k=>(p.classes[n]).parents.length-k) (0) td3 (fun k hI=>?_)
   by_cases hk:k<(p.classes[n]).parents.length
   ·have hs:Iv ((p.classes[n]).parents.take (k+1)) up=ins (p.classes[n]).parents[k] (Iv ((p.classes[n]).parents.take k) up):=by unfold Iv;rw[List.take_succ_eq_append_getElem hk,List.foldl_append];rfl
    refine gf (gi hmi' hms') ?_;rw[<-hs];exact⟨k+1,td2,td1,wkR⟩
   ·have hs:(p.classes[n]).parents.take k=(p.classes[n]).parents:=List.take_of_length_le (by omega);rw[hs];have e2:(n:Int)+3-1=n+2:=by omega
    refine gf (gi e3 e2) ?_;exact⟨n,Iv (p.classes[n]).parents up,out++(p.classes[n]).slots,st',⟨by omega,by rw[List.length_append];omega,hmY' _,hR⟩,td1,wkR⟩
  ·simp only[hup,if_false]at hR;have e3:(n:Int)+1+2=n+3:=by omega
   have e2:(n:Int)+3-1=n+2:=by omega
   refine gf (gi hmi (gi hms (gi hup (gi e3 e2)))) ?_;exact⟨n,up,out,st,⟨by omega,by omega,hm,hR⟩,td1,wkR⟩
@[reducible,instance] def a62:=fun p c V=>ah3 (@UB p c V)
end Go.DL
namespace Go.DL
open Go.Proofs.Tryz
open Go Go.Proofs
set_option maxHeartbeats 4000000
theorem Uz(l:List (List D))(o:Own)(V:Sig):
  DCall prog 65 [.slice l o] V (rS (.slice l .clip) V):=by
 refine en func65 ntmps65 ?_;refine gz ?_;exact fe1 trivial
@[reducible,instance] def a65:=fun l o V=>ah0 (@Uz l o V)
theorem Ta(l:List (List D))(o:Own)(V:Sig):
  DCall prog 114 [.slice l o] V (rS (.slice l .clip) V):=by
 refine en func114 ntmps114 ?_;refine gz ?_;exact fe1 trivial
@[reducible,instance] def a114:=fun l o V=>ah0 (@Ta l o V)
theorem T9(l:List (List D))(o:Own)(V:Sig):
  DCall prog 115 [.slice l o] V (rS (.slice l .clip) V):=by
 refine en func115 ntmps115 ?_;refine gz ?_;exact fe1 trivial
@[reducible,instance] def a115:=fun l o V=>ah0 (@T9 l o V)
theorem SG(l:List (List D))(o:Own)(V:Sig):
  DCall prog 192 [.slice l o] V (rS (.slice l .clip) V):=by
 refine en func192 ntmps192 ?_;refine gz ?_;exact fe1 trivial
@[reducible,instance] def a192:=fun l o V=>ah0 (@SG l o V)
theorem SF(l:List (List D))(o:Own)(V:Sig):
  DCall prog 194 [.slice l o] V (rS (.slice l .clip) V):=by
 refine en func194 ntmps194 ?_;refine gz ?_;exact fe1 trivial
@[reducible,instance] def a194:=fun l o V=>ah0 (@SF l o V)
theorem Sw(l:List (List D))(o:Own)(V:Sig):
  DCall prog 215 [.slice l o] V (rS (.slice l .clip) V):=by
 refine en func215 ntmps215 ?_;refine gz ?_;exact fe1 trivial
@[reducible,instance] def a215:=fun l o V=>ah0 (@Sw l o V)
theorem Sm(l:List (List D))(o:Own)(V:Sig):
  DCall prog 245 [.slice l o] V (rS (.slice l .clip) V):=by
 refine en func245 ntmps245 ?_;refine gz ?_;exact fe1 trivial
@[reducible,instance] def a245:=fun l o V=>ah0 (@Sm l o V)
theorem Sj(l:List (List D))(o:Own)(V:Sig):
  DCall prog 255 [.slice l o] V (rS (.slice l .clip) V):=by
 refine en func255 ntmps255 ?_;refine gz ?_;exact fe1 trivial
@[reducible,instance] def a255:=fun l o V=>ah0 (@Sj l o V)
theorem RS(l:List (List D))(o:Own)(V:Sig):
  DCall prog 307 [.slice l o] V (rS (.slice l .clip) V):=by
 refine en func307 ntmps307 ?_;refine gz ?_;exact fe1 trivial
@[reducible,instance] def a307:=fun l o V=>ah0 (@RS l o V)
theorem MF(l:List FClass)(h:FClass->Str)(g:Nat)(cap:List D)(o:Own)(V:Sig)(hl:l.length<=1073741824)
  (hg:∀x∈l, ∀S',Sub V S'->DCall prog g ([]++[.agg (cFClass x)]++cap) S' fun r S''=>r=.ret (.str (h x))/\S''=S') :
  DCall prog 102 [.slice (l.map cFClass) o,.func (.func g) [] cap] V (rS (sl (cS (l.map h))) V):=by
 refine en func102 ntmps102 ?_;refine gz ?_;refine Cj 5 1 (fun i hi=>?_);refine Br [1,4,8,9,21,22] (fun (k:Nat) (out:List Str)=>k<=l.length/\out++(l.drop k).map h=l.map h) (fun k out=>[(10,dI k),(5,.slice (cS out) (.tag i))]) (fun _ out=>V.set i (.tail 1 out.length)) (fun k _=>l.length-k) (0) ([]) (by simp) (fun k out hI=>?_);obtain⟨hk,hR⟩:=hI;have hlen:=congrArg List.length hR;simp at hlen
 by_cases hh:k<l.length
 ·rw[A3 hh]at hR
  repeat' first|refine AE (hg (l[k]) (List.getElem_mem hh) _ ((Sub.refl _).set hi)) ?_|refine callP (hg (l[k]) (List.getElem_mem hh) _ ((Sub.refl _).set hi)) ?_|refine gf hh ?_|apply gy<;>intro hh
  exact⟨k+1,out++[h l[k]],⟨by omega,by rw[List.append_assoc];exact hR⟩,td1,wkR⟩
 ·refine gf hh ?_;rw[A2 hh]at hR;simp at hR;exact finS (S':=V) (es:=cS out) ⟨by rw[hR],rfl⟩
theorem Tc(l:List FClass)(h:FClass->BClass)(g:Nat)(cap:List D)(o:Own)(V:Sig)(hl:l.length<=1073741824)
  (hg:∀x∈l, ∀S',Sub V S'->DCall prog g ([]++[.agg (cFClass x)]++cap) S' fun r S''=>r=.ret (.agg (cBClass (h x)))/\S''=S') :
  DCall prog 105 [.slice (l.map cFClass) o,.func (.func g) [] cap] V (rS (sl ((l.map h).map cBClass)) V):=by
 refine en func105 ntmps105 ?_;refine gz ?_;refine Cj 5 3 (fun i hi=>?_);refine Br [1,4,8,9,21,22] (fun (k:Nat) (out:List BClass)=>k<=l.length/\out++(l.drop k).map h=l.map h) (fun k out=>[(10,dI k),(5,.slice (out.map cBClass) (.tag i))]) (fun _ out=>V.set i (.tail 3 out.length)) (fun k _=>l.length-k) (0) ([]) (by simp) (fun k out hI=>?_);obtain⟨hk,hR⟩:=hI;have hlen:=congrArg List.length hR;simp at hlen
 by_cases hh:k<l.length
 ·rw[A3 hh]at hR
  repeat' first|refine AE (hg (l[k]) (List.getElem_mem hh) _ ((Sub.refl _).set hi)) ?_|refine callP (hg (l[k]) (List.getElem_mem hh) _ ((Sub.refl _).set hi)) ?_|refine gf hh ?_|apply gy<;>intro hh
  exact⟨k+1,out++[h l[k]],⟨by omega,by rw[List.append_assoc];exact hR⟩,td1,wkR⟩
 ·refine gf hh ?_;rw[A2 hh]at hR;simp at hR;exact finS (S':=V) (es:=out.map cBClass) ⟨by rw[hR],rfl⟩
theorem ET(l:List Str)(h:Str->Int)(g:Nat)(cap:List D)(o:Own)(V:Sig)(hl:l.length<=1073741824)
  (hg:∀x∈l, ∀S',Sub V S'->DCall prog g ([]++[.str x]++cap) S' fun r S''=>r=.ret (dI (h x))/\S''=S') :
  DCall prog 107 [.slice (cS l) o,.func (.func g) [] cap] V (rS (sl (cI (l.map h))) V):=by
 refine en func107 ntmps107 ?_;refine gz ?_;refine Cj 5 1 (fun i hi=>?_);refine Br [1,4,8,9,21,22] (fun (k:Nat) (out:List Int)=>k<=l.length/\out++(l.drop k).map h=l.map h) (fun k out=>[(10,dI k),(5,.slice (cI out) (.tag i))]) (fun _ out=>V.set i (.tail 1 out.length)) (fun k _=>l.length-k) (0) ([]) (by simp) (fun k out hI=>?_);obtain⟨hk,hR⟩:=hI;have hlen:=congrArg List.length hR;simp at hlen
 by_cases hh:k<l.length
 ·rw[A3 hh]at hR
  repeat' first|refine AE (hg (l[k]) (List.getElem_mem hh) _ ((Sub.refl _).set hi)) ?_|refine callP (hg (l[k]) (List.getElem_mem hh) _ ((Sub.refl _).set hi)) ?_|refine gf hh ?_|apply gy<;>intro hh
  exact⟨k+1,out++[h l[k]],⟨by omega,by rw[List.append_assoc];exact hR⟩,td1,wkR⟩
 ·refine gf hh ?_;rw[A2 hh]at hR;simp at hR;exact finS (S':=V) (es:=cI out) ⟨by rw[hR],rfl⟩
theorem MD(l:List FInit)(h:FInit->Init)(g:Nat)(cap:List D)(o:Own)(V:Sig)(hl:l.length<=1073741824)
  (hg:∀x∈l, ∀S',Sub V S'->DCall prog g ([]++[.agg (D1 x)]++cap) S' fun r S''=>r=.ret (.agg (CP (h x)))/\S''=S') :
  DCall prog 110 [.slice (l.map D1) o,.func (.func g) [] cap] V (rS (sl ((l.map h).map CP)) V):=by
 refine en func110 ntmps110 ?_;refine gz ?_;refine Cj 5 2 (fun i hi=>?_);refine Br [1,4,8,9,21,22] (fun (k:Nat) (out:List Init)=>k<=l.length/\out++(l.drop k).map h=l.map h) (fun k out=>[(10,dI k),(5,.slice (out.map CP) (.tag i))]) (fun _ out=>V.set i (.tail 2 out.length)) (fun k _=>l.length-k) (0) ([]) (by simp) (fun k out hI=>?_);obtain⟨hk,hR⟩:=hI;have hlen:=congrArg List.length hR;simp at hlen
 by_cases hh:k<l.length
 ·rw[A3 hh]at hR
  repeat' first|refine AE (hg (l[k]) (List.getElem_mem hh) _ ((Sub.refl _).set hi)) ?_|refine callP (hg (l[k]) (List.getElem_mem hh) _ ((Sub.refl _).set hi)) ?_|refine gf hh ?_|apply gy<;>intro hh
  exact⟨k+1,out++[h l[k]],⟨by omega,by rw[List.append_assoc];exact hR⟩,td1,wkR⟩
 ·refine gf hh ?_;rw[A2 hh]at hR;simp at hR;exact finS (S':=V) (es:=out.map CP) ⟨by rw[hR],rfl⟩
theorem IP(l:List Int)(h:Int->Str)(g:Nat)(cap:List D)(o:Own)(V:Sig)(hl:l.length<=1073741824)
  (hg:∀x∈l, ∀S',Sub V S'->DCall prog g ([]++[dI x]++cap) S' fun r S''=>r=.ret (.str (h x))/\S''=S') :
  DCall prog 137 [.slice (cI l) o,.func (.func g) [] cap] V (rS (sl (cS (l.map h))) V):=by
 refine en func137 ntmps137 ?_;refine gz ?_;refine Cj 5 1 (fun i hi=>?_);refine Br [1,4,8,9,21,22] (fun (k:Nat) (out:List Str)=>k<=l.length/\out++(l.drop k).map h=l.map h) (fun k out=>[(10,dI k),(5,.slice (cS out) (.tag i))]) (fun _ out=>V.set i (.tail 1 out.length)) (fun k _=>l.length-k) (0) ([]) (by simp) (fun k out hI=>?_);obtain⟨hk,hR⟩:=hI;have hlen:=congrArg List.length hR;simp at hlen
 by_cases hh:k<l.length
 ·rw[A3 hh]at hR
  repeat' first|refine AE (hg (l[k]) (List.getElem_mem hh) _ ((Sub.refl _).set hi)) ?_|refine callP (hg (l[k]) (List.getElem_mem hh) _ ((Sub.refl _).set hi)) ?_|refine gf hh ?_|apply gy<;>intro hh
  exact⟨k+1,out++[h l[k]],⟨by omega,by rw[List.append_assoc];exact hR⟩,td1,wkR⟩
 ·refine gf hh ?_;rw[A2 hh]at hR;simp at hR;exact finS (S':=V) (es:=cS out) ⟨by rw[hR],rfl⟩
theorem T3(l:List Init)(h:Init->FInit)(g:Nat)(cap:List D)(o:Own)(V:Sig)(hl:l.length<=1073741824)
  (hg:∀x∈l, ∀S',Sub V S'->DCall prog g ([]++[.agg (CP x)]++cap) S' fun r S''=>r=.ret (.agg (D1 (h x)))/\S''=S') :
  DCall prog 140 [.slice (l.map CP) o,.func (.func g) [] cap] V (rS (sl ((l.map h).map D1)) V):=by
 refine en func140 ntmps140 ?_;refine gz ?_;refine Cj 5 2 (fun i hi=>?_);refine Br [1,4,8,9,21,22] (fun (k:Nat) (out:List FInit)=>k<=l.length/\out++(l.drop k).map h=l.map h) (fun k out=>[(10,dI k),(5,.slice (out.map D1) (.tag i))]) (fun _ out=>V.set i (.tail 2 out.length)) (fun k _=>l.length-k) (0) ([]) (by simp) (fun k out hI=>?_);obtain⟨hk,hR⟩:=hI;have hlen:=congrArg List.length hR;simp at hlen
 by_cases hh:k<l.length
 ·rw[A3 hh]at hR
  repeat' first|refine AE (hg (l[k]) (List.getElem_mem hh) _ ((Sub.refl _).set hi)) ?_|refine callP (hg (l[k]) (List.getElem_mem hh) _ ((Sub.refl _).set hi)) ?_|refine gf hh ?_|apply gy<;>intro hh
  exact⟨k+1,out++[h l[k]],⟨by omega,by rw[List.append_assoc];exact hR⟩,td1,wkR⟩
 ·refine gf hh ?_;rw[A2 hh]at hR;simp at hR;exact finS (S':=V) (es:=out.map D1) ⟨by rw[hR],rfl⟩
theorem Su(l:List Fact)(h:Fact->FFact)(g:Nat)(cap:List D)(o:Own)(V:Sig)(hl:l.length<=1073741824)
  (hg:∀x∈l, ∀S',Sub V S'->DCall prog g ([]++[.agg (Ba x)]++cap) S' fun r S''=>r=.ret (.agg (AV (h x)))/\S''=S') :
  DCall prog 217 [.slice (l.map Ba) o,.func (.func g) [] cap] V (rS (sl ((l.map h).map AV)) V):=by
 refine en func217 ntmps217 ?_;refine gz ?_;refine Cj 5 6 (fun i hi=>?_);refine Br [1,4,8,9,21,22] (fun (k:Nat) (out:List FFact)=>k<=l.length/\out++(l.drop k).map h=l.map h) (fun k out=>[(10,dI k),(5,.slice (out.map AV) (.tag i))]) (fun _ out=>V.set i (.tail 6 out.length)) (fun k _=>l.length-k) (0) ([]) (by simp) (fun k out hI=>?_);obtain⟨hk,hR⟩:=hI;have hlen:=congrArg List.length hR;simp at hlen
 by_cases hh:k<l.length
 ·rw[A3 hh]at hR
  repeat' first|refine AE (hg (l[k]) (List.getElem_mem hh) _ ((Sub.refl _).set hi)) ?_|refine callP (hg (l[k]) (List.getElem_mem hh) _ ((Sub.refl _).set hi)) ?_|refine gf hh ?_|apply gy<;>intro hh
  exact⟨k+1,out++[h l[k]],⟨by omega,by rw[List.append_assoc];exact hR⟩,td1,wkR⟩
 ·refine gf hh ?_;rw[A2 hh]at hR;simp at hR;exact finS (S':=V) (es:=out.map AV) ⟨by rw[hR],rfl⟩
theorem Sg(l:List Str)(s:Str)(o:Own)(V:Sig)(hl:l.length<=1073741824):
  DCall prog 277 [.slice (cS l) o,.str s] V (rS (dI (idxG s l 0)) V):=by
 refine en func277 ntmps277 ?_;refine gz ?_;refine Bj [0,1,7] (fun (k:Nat)=>k<=l.length/\idxG s l 0=idxG s (l.drop k) k) (fun k=>[(8,dI k)]) (fun _=>V) (fun k=>l.length-k) (0) td3 (fun k hI=>?_);obtain⟨hk,hR⟩:=hI
 by_cases hh:k<l.length
 ·rw[A3 hh,idxG]at hR
  repeat' first|refine gf hh ?_|apply gy<;>intro hh
  ·exact fe1 hR
  ·exact⟨k+1,⟨by omega,by rw[hR,if_neg (Ne.symm (by assumption))]⟩,td1,wkR⟩
 ·refine gf hh ?_
  (refine fin1 (S':=V) ?_;exact⟨by first|rfl|(simp[hR,A2 hh,idxG];done)|(simp_all [hR,A2 hh,idxG];done)|(rw[Ae,Bool.eq_iff_iff];simp_all [hR,A2 hh,idxG]<;>omega),rfl⟩)
@[reducible,instance] def a277:=fun l s o V=>ah1 (@Sg l s o V)
theorem Sn(l:List Str)(s:Str)(o:Own)(V:Sig)(hl:l.length<=1073741824):
  DCall prog 238 [.slice (cS l) o,.str s] V (rS (.bool (decide (0<=idxG s l 0))) V):=by
 refine en func238 ntmps238 ?_;refine gz ?_;exact fe1 trivial
theorem L2{α:Type}[DecidableEq α](s:α): ∀(l:List α) (k:Nat),(0<=idxG s l k) ↔ s∈l
 |[],_=>by simp[idxG]
 | x::r,k=>by
  rw[idxG]
  by_cases h:x=s
  ·simp[h]
  ·rw[if_neg h,L2 s r (k+1)];simp[Ne.symm h]
end Go.DL
namespace Go.DL
open Go.Proofs.Tryz
open Go Go.Proofs
set_option maxHeartbeats 8000000
theorem Ui{α:Type}[DecidableEq α](s:α)(l:List α):decide (0<=idxG s l 0)=decide (s∈l):=by
 rw[Bool.eq_iff_iff];simp only[decide_eq_true_eq];exact L2 s l 0
theorem RK(l:List Int)(s:Int)(o:Own)(V:Sig)(hl:l.length<=1073741824:=by exact sd):
  DCall prog 89 [.slice (cI l) o,dI s] V (rS (.bool (decide (s∈l))) V):=by
 rw[<-Ui];exact Uo l s o V hl
instance (priority:=high) a89m (l:List Int) (s:Int) (o:Own) (V:Sig):Ans 89 [.slice (cI l) o,dI s] V ((l.length<=1073741824)) (.bool (decide (s∈l))):=⟨fun hl=>RK l s o V (hl:=hl)⟩
theorem Q9(l:List Str)(s:Str)(o:Own)(V:Sig)(hl:l.length<=1073741824:=by exact sd):
  DCall prog 238 [.slice (cS l) o,.str s] V (rS (.bool (decide (s∈l))) V):=by
 have e:decide (0<=idxG s l 0)=decide (s∈l):=by rw[Bool.eq_iff_iff];simp only[decide_eq_true_eq];exact L2 s l 0
 rw[<-e];exact Sn l s o V hl
instance (priority:=high) a238m (l:List Str) (s:Str) (o:Own) (V:Sig):Ans 238 [.slice (cS l) o,.str s] V ((l.length<=1073741824)) (.bool (decide (s∈l))):=⟨fun hl=>Q9 l s o V (hl:=hl)⟩
def E9(i:Nat):List Int->List Int->Bool
 |_,[]=>true
 |seen,p::r=>(decide (3<=p/\p<3+i)&&!decide (p∈seen))&&E9 i (seen++[p]) r
def IC(i:Nat)(l:List Int):Bool:=decide (l.length<=3)&&E9 i [] l
def CD:Nat->List (List Int)->Bool
 |_,[]=>true
 |i,l::r=>IC i l&&CD (i+1) r
def Ca(g:List (List Int)):Bool:=decide (g.length<=16)&&CD 0 g
theorem AR{α:Type}{l:List α}{k:Nat}(h:k<l.length):l.take (k+1)=l.take k++[l[k]]:=by rw[List.take_succ_eq_append_getElem h]
theorem SB(g:List (List Int))(o:Own)(V:Sig)(hl:g.length<=1073741824:=by exact sd)(hl2:∀x∈g,x.length<=1073741824:=by exact sd):
  DCall prog 199 [.slice (cII g) o] V (rS (.bool (Ca g)) V):=by
 refine en func199 ntmps199 ?_
 by_cases h16:16<g.length
 ·refine gz ?_
  (refine fin1 (S':=V) ?_;exact⟨by first|rfl|(simp[Ca];done)|(simp_all [Ca];done)|(rw[Ae,Bool.eq_iff_iff];simp_all [Ca]<;>omega),rfl⟩)
 refine gz ?_;refine Bj [10,11] (fun (k:Nat)=>k<=g.length/\Ca g=CD k (g.drop k)) (fun k=>[(12,dI k)]) (fun _=>V) (fun k=>g.length-k) (0) (by exact⟨by omega,by simp[Ca];omega⟩) (fun k hI=>?_);obtain⟨hk,hR⟩:=hI
 by_cases h:k<g.length
 ·have hx:=hl2 _ (List.getElem_mem h);rw[A3 h,CD,IC]at hR
  by_cases h3:3<g[k].length
  ·refine gz ?_;exact fe1 hR
  ·have h3':decide (g[k].length<=3)=true:=by simp;omega
   rw[h3',Bool.true_and]at hR;refine gz ?_;refine Bj [3,4,10,11,12,13,14,15,16,17,18,19,20,21,43] (fun (q:Nat)=>q<=g[k].length/\Ca g=(E9 k (g[k].take q) (g[k].drop q)&&CD (k+1) (g.drop (k+1)))) (fun q=>[(22,dI q)]) (fun _=>V) (fun q=>g[k].length-q) (0) (by exact⟨by omega,by simpa using hR⟩) (fun q hI=>?_);obtain⟨hq,hR2⟩:=hI
   by_cases h':q<g[k].length
   ·rw[A3 h',E9,<-AR h']at hR2
    repeat' first|refine gz ?_|apply gy<;>intro hh
    ·have hn:¬(3<=g[k][q]/\g[k][q]<3+(k:Int)):=by omega
     rw[decide_eq_false hn]at hR2;exact fe1 hR2
    ·have hn:¬(3<=g[k][q]/\g[k][q]<3+(k:Int)):=by omega
     rw[decide_eq_false hn]at hR2;exact fe1 hR2
    ·exact fe1 hR2
    ·exact⟨q+1,⟨by omega,by rw[hR2];simp_all⟩,td1,wkR⟩
   ·rw[A2 h',E9]at hR2;refine gz ?_;exact⟨k+1,⟨by omega,by simpa using hR2⟩,td1,wkR⟩
 ·rw[A2 h,CD]at hR;refine gz ?_;exact fe1 hR
@[reducible,instance] def a199:=fun g o V=>ah2 (@SB g o V)
def Gm(all:List (List Int))(c:Int):Bool:=all.all fun x=> !decide (c∈x.tail)
def G9(all:List (List Int)):Bool->List (List Int)->Option Int×Bool
 |s,[]=>(none,s)
 |s,[]::r=>G9 all s r
 |_,(x::_)::r=>if Gm all x then(some x,true) else G9 all true r
def Ge:Nat->List (List Int)->List Int->List Int×Bool
 |0,_,out=>(out,false)
 |n+1,ls,out=>match G9 ls false ls with
  |(none,s)=>(out, !s)
  |(some c,_)=>Ge n (ls.map fun l=>l.filter fun x=> !decide (x=c)) (out++[c])
def totL:List (List Int)->Nat
 |[]=>0
 |l::r=>l.length+totL r
def CT(ls:List (List Int)):List Int×Bool:=Ge (totL ls+1) ls []
theorem Oe{l:List Int}: ∀{ls:List (List Int)},l∈ls->l.length<=totL ls
 |x::r,h=>by
  rcases List.mem_cons.1 h with rfl|h
  ·simp[totL]
  ·have:=Oe h;simp only[totL];omega
theorem EI{all:List (List Int)}{c:Int}{b:Bool}: ∀{s:Bool}{ls:List (List Int)},G9 all s ls=(some c,b)->∃l∈ls,c∈l
 |s,[],h=>by simp[G9]at h
 |s,[]::r,h=>by
  rw[G9]at h;obtain⟨l,h1,h2⟩:=EI h;exact⟨l,by simp[h1],h2⟩
 | s,(x::t)::r,h=>by
  rw[G9]at h
  by_cases hf:Gm all x=true
  ·rw[if_pos hf]at h;exact⟨x::t,by simp,by simp only[Prod.mk.injEq,Option.some.injEq]at h;simp[h.1]⟩
  ·rw[if_neg hf]at h;obtain⟨l,h1,h2⟩:=EI h;exact⟨l,by simp[h1],h2⟩
theorem QN(c:Int): ∀ls:List (List Int),totL (ls.map fun l=>l.filter fun x=> !decide (x=c))<=totL ls
 |[]=>by simp[totL]
 |l::r=>by
  have:=QN c r;have:=List.length_filter_le (fun x=> !decide (x=c)) l;simp only[List.map_cons,totL];omega
theorem RF{c:Int}{l:List Int}(h:c∈l):(l.filter fun x=> !decide (x=c)).length<l.length:=by
 induction l with
 |nil=>simp at h
 | cons x r ih =>
  have:=List.length_filter_le (fun x=> !decide (x=c)) r
  by_cases hx:x=c
  ·simp[hx];omega
  ·have hr:c∈r:=by rcases List.mem_cons.1 h with rfl|h;exact absurd rfl hx;exact h
   have:=ih hr;simp[hx];omega
theorem Nm{c:Int}{l:List Int}(hc:c∈l): ∀{ls:List (List Int)},l∈ls->totL (ls.map fun l=>l.filter fun x=> !decide (x=c))<totL ls
 | x::r,h=>by
  simp only[List.map_cons,totL];rcases List.mem_cons.1 h with rfl|h
  ·have:=QN c r;have:=RF hc;omega
  ·have:=Nm hc h;have:=List.length_filter_le (fun x=> !decide (x=c)) x;omega
def unf:D:=.iface 236 (.agg [])
theorem Uu(b:Bool)(V:Sig):DCall prog 81 [.bool b] V fun x S'=>x=(if b then .ret (.tup []) else .panic unf)/\S'=V:=by
 refine en func81 ntmps81 ?_;cases b
 ·refine gz ?_;refine pan ?_;exact finP (S':=V) ⟨rfl,rfl⟩
 ·refine gz ?_;exact Dl (S':=V) ⟨rfl,rfl⟩
@[reducible,instance] def a81:=fun b V=>gh0 (@Uu b V)
theorem T0(l:List Str)(o:Own)(V:Sig)(hl:l.length<=1073741824:=by exact sd):
  DCall prog 142 [.slice (cS l) o] V (rS (sl (cS l)) V):=by
 refine en func142 ntmps142 ?_;refine gz ?_;refine isN (fun b hb=>?_)
 repeat' first|refine gz ?_|apply gy<;>intro hh
 ·exact fe1 (d':=sl []) (hb hh)
 ·by_cases h:l=[]
  ·refine app0 ?_;refine gz ?_;exact fe1 (d':=sl []) h
  ·refine appC (fun i hi=>?_) (hne:=by simp[cS,h]);refine gz ?_;exact finS (S':=V) (es:=cS l) ⟨rfl,rfl⟩ ((Sub.refl _).set hi)
@[reducible,instance] def a142:=fun l o V=>ah1 (@T0 l o V)
theorem Gn(l:List Int)(q:Int->Bool)(g:Nat)(cap:List D)(o:Own)(V:Sig)(hl:l.length<=1073741824)
  (hg:∀x∈l, ∀S',Sub V S'->DCall prog g ([]++[dI x]++cap) S' fun r S''=>r=.ret (.bool (q x))/\S''=S') :
  DCall prog 283 [.slice (cI l) o,.func (.func g) [] cap] V (rS (sl (cI (l.filter q))) V):=by
 refine en func283 ntmps283 ?_;refine gz ?_;refine Cj 5 1 (fun i hi=>?_);refine Br [1,4,8,9,22] (fun (k:Nat) (out:List Int)=>k<=l.length/\out.length<=k/\out++(l.drop k).filter q=l.filter q) (fun k out=>[(10,dI k),(5,.slice (cI out) (.tag i))]) (fun _ out=>V.set i (.tail 1 out.length)) (fun k _=>l.length-k) (0) ([]) (by simp) (fun k out hI=>?_);obtain⟨hk,hlen,hR⟩:=hI
 by_cases h:k<l.length
 ·rw[A3 h,List.filter_cons]at hR
  repeat' first|refine AE (hg (l[k]) (List.getElem_mem h) _ ((Sub.refl _).set hi)) ?_|refine callP (hg (l[k]) (List.getElem_mem h) _ ((Sub.refl _).set hi)) ?_|refine gz ?_|apply gy<;>intro hh
  ·exact⟨k+1,out++[l[k]],by refine⟨by omega,by simp;omega,?_⟩;rw[<-hR];simp[hh],td1,wkR⟩
  ·exact⟨k+1,out,by refine⟨by omega,by omega,?_⟩;rw[<-hR];simp[hh],td1,wkR⟩
 ·rw[A2 h]at hR;simp at hR;refine gz ?_;exact finS (S':=V) (es:=cI out) ⟨by rw[hR],rfl⟩
theorem Ml(c:Int)(V:Sig):DCall prog 305 [dI c] V (rS (.bool (!decide (c=0))) V):=by
 refine en func305 ntmps305 ?_;refine gz ?_;exact fe1 trivial
theorem Sf(l:List Int)(o:Own)(V:Sig)(hl:l.length<=1073741824:=by exact sd):DCall prog 282 [.slice (cI l) o] V (rS (sl (cI (l.filter fun c=> !decide (c=0)))) V):=by
 refine en func282 ntmps282 ?_
 repeat' first|refine gz ?_|refine AE (Gn l (fun c=> !decide (c=0)) 305 [] o V hl (fun x _ S' _=>Ml x S')) ?_|refine callP (Gn l (fun c=> !decide (c=0)) 305 [] o V hl (fun x _ S' _=>Ml x S')) ?_|refine gz ?_|apply gy<;>intro hh
 exact fe1 trivial
@[reducible,instance] def a282:=fun l o V=>ah1 (@Sf l o V)
theorem Mn(c x:Int)(V:Sig):DCall prog 284 [dI c,.cptr [dI x] 0] V (rS (.bool (!decide (c=x))) V):=by
 refine en func284 ntmps284 ?_;refine gz ?_;exact fe1 trivial
theorem Sp(n:Int)(V:Sig):DCall prog 234 [dI n] V (rS (.bool (inB n)) V):=by
 refine en func234 ntmps234 ?_
 repeat' first|refine gz ?_|apply gy<;>intro hh
 any_goals (first|(refine fin1 (S':=V) ?_;exact⟨by first|rfl|(simp[inB];done)|(simp_all [inB];done)|(rw[Ae,Bool.eq_iff_iff];simp_all [inB]<;>omega),rfl⟩)|fail)
@[reducible,instance] def a234:=fun n V=>ah0 (@Sp n V)
theorem RW(f:Fact)(V:Sig):DCall prog 298 [.agg (Ba f)] V (rS (.bool (Cm f.op)) V):=by
 refine en func298 ntmps298 ?_
 repeat' first|refine gz ?_|apply gy<;>intro hh
 any_goals (first|(refine fin1 (S':=V) ?_;exact⟨by first|rfl|(simp[Cm];done)|(simp_all [Cm];done)|(rw[Ae,Bool.eq_iff_iff];simp_all [Cm]<;>omega),rfl⟩)|fail)
@[reducible,instance] def a298:=fun f V=>ah0 (@RW f V)
def B5(op:Int):Nat:=if op=5 then 1 else if op=6\/op=7 then 2 else 0
theorem RX(o:Int)(V:Sig):DCall prog 297 [dI o] V (rS (dI (B5 o)) V):=by
 refine en func297 ntmps297 ?_
 repeat' first|refine gz ?_|apply gy<;>intro hh
 any_goals (first|(refine fin1 (S':=V) ?_;exact⟨by first|rfl|(simp[B5];done)|(simp_all [B5];done)|(rw[Ae,Bool.eq_iff_iff];simp_all [B5]<;>omega),rfl⟩)|fail)
@[reducible,instance] def a297:=fun o V=>ah0 (@RX o V)
theorem SM(b:Bool)(V:Sig):DCall prog 173 [.bool b] V (rS (dI (if b then 0 else 2)) V):=by
 refine en func173 ntmps173 ?_
 repeat' first|refine gz ?_|apply gy<;>intro hh
 any_goals (first|exact fe1 trivial|fail)
@[reducible,instance] def a173:=fun b V=>ah0 (@SM b V)
def PL(op:Int):Option Int:=
 if op=1\/op=2\/op=3\/op=6\/op=18 then some 0 else if op=4\/op=8\/op=17 then some 1 else
 if op=7\/op=9\/op=11\/op=12\/op=13\/op=14\/op=15\/op=16 then some 2 else if op=10 then some 3 else none
def DA(p:BProg)(x:BNode):Int:=match PL x.op with
 |some k=>k
 |none=>if x.op=5/\0<=x.n/\x.n<p.gens.length then p.gens.getD x.n.toNat 0 else -1
def BF(p:BProg)(x:BNode)(size:Int):Bool:=
 if x.op=1 then inB x.n else if x.op=3 then decide (0<=x.n/\x.n<size) else if x.op=4\/x.op=7 then decide (0<=x.n/\x.n<p.slots) else
 if x.op=5 then decide (0<=x.n/\x.n<p.gens.length) else if x.op=6\/x.op=8 then decide (3<=x.n/\x.n<3+p.classes.length) else decide (x.n=0)
theorem Ur(p:BProg)(x:BNode)(size:Int)(V:Sig)(hl:p.gens.length<=1073741824:=by exact sd)(hc:p.classes.length<=1073741824:=by exact sd):
  DCall prog 85 [.agg (Am p),.agg (Af x),dI size] V (rS (.bool (BF p x size)) V):=by
 refine en func85 ntmps85 ?_
 repeat' first|refine gz ?_|apply gy<;>intro hh
 any_goals (first|(refine fin1 (S':=V) ?_;exact⟨by first|rfl|(simp[BF];done)|(simp_all [BF];done)|(rw[Ae,Bool.eq_iff_iff];simp_all [BF]<;>omega),rfl⟩)|fail)
@[reducible,instance] def a85:=fun p x size V=>ah2 (@Ur p x size V)
def DB(op:Int):D:=match PL op with
 |some k=>.iface 140 (dI k)
 |none=>if op=5 then .iface 142 (.agg []) else .niliface
theorem Uq(op:Int)(V:Sig):DCall prog 86 [dI op] V (rS (DB op) V):=by
 refine en func86 ntmps86 ?_
 repeat' first|refine gz ?_|apply gy<;>intro hh
 any_goals (first|(refine fin1 (S':=V) ?_;exact⟨by first|rfl|(simp[DB,PL];done)|(simp_all [DB,PL];done)|(rw[Ae,Bool.eq_iff_iff];simp_all [DB,PL]<;>omega),rfl⟩)|fail)
@[reducible,instance] def a86:=fun op V=>ah0 (@Uq op V)
def parentsF(g:List (List Int))(c:Int):List Int:=if c<3 then [] else(g[(c-3).toNat]?).getD []
def AA(orders:List (List Int))(p:Int):List Int:=(orders[p.toNat]?).getD []
def CZ(orders:List (List Int)):List Int->Option (List (List Int))
 |[]=>some []
 |p::r=>if(AA orders p).length=0 then none else(CZ orders r).map ((AA orders p).filter (fun x=> !decide (x=0)) :: ·)
def C9(orders:List (List Int))(ps:List Int):Option (List (List Int)):=(CZ orders ps).map (· ++ [ps])
def Vk(x:DE):Prop:= ∃n:Int,x=.ret (.agg [.int .u64 n])
theorem Mv(s c:Int)(V:Sig)(hc:0<=c:=by exact sd):DCall prog 200 [.agg [.int .u64 s],dI c] V fun x S'=>Vk x/\S'=V:=by
 refine en func200 ntmps200 ?_;refine IT ?_;refine Gs ?_;refine boxV (fun i hi=>?_);refine newV (fun j hj=>?_);obtain⟨hji,hj'⟩:=Aa hj;have hij:i≠j:=fun e=>hji e.symm;refine gf (gi hji (gi hij (Po .u64 .i64 1 c hc))) ?_ o200 [2,4];refine finCE (S':=V) (by simp[resL,hij,hji];with_unfolding_all rfl) ⟨⟨_,rfl⟩,rfl⟩ ?_;exact((((Sub.refl _).set hi).set hj').set hi).set hj'
theorem Sz(s c:Int)(V:Sig):DCall prog 201 [.agg [.int .u64 s],.agg [.int .u64 c]] V fun x S'=>Vk x/\S'=V:=by
 refine en func201 ntmps201 ?_;refine IT ?_;refine Gs ?_;refine boxV (fun i hi=>?_);refine gz ?_ [] [2,4];refine newV (fun j hj=>?_);obtain⟨hji,hj'⟩:=Aa hj;have hij:i≠j:=fun e=>hji e.symm;refine gf (gi hji hij) ?_ [] [2,4];refine finCE (S':=V) (by simp[resL,hij,hji];with_unfolding_all rfl) ⟨⟨_,rfl⟩,rfl⟩ ?_;exact((((Sub.refl _).set hi).set hj').set hi).set hj'
theorem DR(ig im:Nat)(ps os:List (List Int))(ups:D)(om:List (Int×List Int))(c:Nat)(o:Own)(V:Sig)(hg:V ig=some (.cells [.slice (cII ps) o,ups,.map im]))(hm:V im=some (.map (eIO om)))(hc:c<ps.length)
  (hl:ps.length<=1073741824) (hpl:(ps[c]).length<=1073741824) (ho:∀p∈ps[c],getM [] p om=AA os p) (hol:∀p∈ps[c],(AA os p).length<=1073741824) :
  DCall prog 246 [.ptr ig 0,dI c] V (rS (.tup [sl (cII ((C9 os ps[c]).getD [])),.bool (C9 os ps[c]).isSome]) V):=by
 refine en func246 ntmps246 ?_;refine gf (gi hg hm) ?_;generalize hps:ps[c]=l at*;refine Cj 6 1 (fun i hi=>?_);have hgi:ig≠i:=fun e=>by rw[e,hi]at hg;cases hg
 have hmi:im≠i:=fun e=>by rw[e,hi]at hm;cases hm
 refine Br [0,1,15,16,40,41,42,43,44,45,46,47,48,49] (fun (k:Nat) (out:List (List Int))=>k<=l.length/\out.length<=k/\CZ os l=(CZ os (l.drop k)).map (out ++ ·)) (fun k out=>[(17,dI k),(6,.slice (cII out) (.tag i))]) (fun _ out=>V.set i (.tail 1 out.length)) (fun k _=>l.length-k) (0) ([]) (by simp) (fun k out hI=>?_);obtain⟨hk,hlen,hR⟩:=hI
 by_cases h:k<l.length
 ·have hat:=ho _ (List.getElem_mem h);have hx:=hol _ (List.getElem_mem h);rw[A3 h,CZ]at hR;refine gf (gi hg (gi hm (gi hgi hmi))) ?_;refine lkO ?_ (hi:=by rw[w8 _ _ hmi];exact hm);rw[hat]
  repeat' first|refine gf (gi hg (gi hm (gi hgi hmi))) ?_|apply gy<;>intro hh
  ·have hn:C9 os l=none:=by unfold C9;rw[hR];simp_all
   exact fe2 (d':=sl []) hn
  ·refine lkO ?_ (hi:=by rw[w8 _ _ hmi];exact hm);rw[hat];refine gf (gi hg (gi hm (gi hgi hmi))) ?_;exact⟨k+1,out++[(AA os l[k]).filter fun x=> !decide (x=0)],by refine⟨by omega,by simp;omega,?_⟩;rw[hR,if_neg (by simpa using hh),Option.map_map];congr 1;funext z;simp,td1,wkR⟩
 ·rw[A2 h,CZ]at hR;have hn:C9 os l=some (out++[l]):=by unfold C9;rw[hR];simp
  refine gf (gi hg (gi hm (gi hgi (gi hmi hps)))) ?_;exact fe2 (d':=sl (cII (out++[l]))) hn
theorem ER(l:List (List Int))(o:Own)(V:Sig)(hl:l.length<=1073741824:=by exact sd)(ht:totL l<=1073741824:=by exact sd):
  DCall prog 247 [.slice (cII l) o] V (rS (.tup [sl (cI (CT l).1),.bool (CT l).2]) V):=by
 refine en func247 ntmps247 ?_;refine gz ?_ o247;refine Cj 4 1 (fun i hi=>?_);refine FG [] (fun (n:Nat) (ls:List (List Int)) (out:List Int)=>totL ls<n/\out.length+totL ls<=1073741824/\ls.length=l.length/\Ge n ls out=CT l) (fun _ ls out=>[(0,.slice (cII ls) .no),(4,.slice (cI out) (.tag i))]) (fun _ _ out=>V.set i (.tail 1 out.length)) (fun n _ _=>n) (totL l+1) (l) ([]) (by exact⟨by omega,by simpa using ht,rfl,rfl⟩) (fun n ls out hI=>?_);obtain⟨hn0,hlen,hls,hR⟩:=hI;obtain⟨n,rfl⟩:∃m,n=m+1:=⟨n-1,by omega⟩;have hlx:∀x∈ls,x.length<=1073741824:=fun x hx=>by have:=Oe hx;omega
 rw[Ge]at hR;refine gz ?_ o247;refine Br [2,3,14,15,63,64,65] (fun (q:Nat) (s:Bool)=>q<=ls.length/\G9 ls false ls=G9 ls s (ls.drop q)) (fun q s=>[(5,.bool s),(16,dI q),(0,.slice (cII ls) .no),(4,.slice (cI out) (.tag i))]) (fun _ _=>V.set i (.tail 1 out.length)) (fun q _=>ls.length-q) (0) (false) (by simp) (fun q s hI=>?_);obtain⟨hq,hA⟩:=hI
 by_cases h:q<ls.length
 ·have hx:=hlx _ (List.getElem_mem h);rw[A3 h]at hA;rcases hrow:ls[q]with _|⟨y,r⟩
  ·rw[hrow,G9]at hA;refine gf hrow ?_ o247;exact⟨q+1,s,⟨by omega,hA⟩,td1,wkR⟩
  ·rw [hrow,G9] at hA;rw[hrow]at hx;simp only[List.length_cons]at hx;refine gf hrow ?_ o247;refine Bj [0,2,3,4,5,7,10,11,13,14,15,16,17,18,19,20,21,22,23,24,41,42,43,44,45,46,47,48,49,50,51,52,53,54,55,56,57,58,59,60,61,62,63,64,65] (fun (k:Nat)=>k<=ls.length/\Gm (ls.take k) y=true) (fun k=>[(25,dI k)]) (fun _=>V.set i (.tail 1 out.length)) (fun k=>ls.length-k) (0) (by simp[Gm]) (fun k hI=>?_);obtain⟨hk,hF⟩:=hI
   by_cases hk':k<ls.length
   ·have hxk:=hlx _ (List.getElem_mem hk')
    have hstep:Gm (ls.take (k+1)) y=(Gm (ls.take k) y&&!decide (y∈ls[k].tail)):=by
     unfold Gm;rw[List.take_succ_eq_append_getElem hk',List.all_append];simp
    rcases hrk:ls[k]with _|⟨z,t⟩
    ·rw[hrk]at hstep;refine gf (gi hrk hrow) ?_ o247;exact⟨k+1,⟨by omega,by rw[hstep,hF];simp⟩,td1,wkR⟩
    ·rw[hrk]at hstep hxk;simp only[List.length_cons]at hxk
     repeat' first|refine gf (gi hrk hrow) ?_ o247|apply gy<;>intro hh
     ·have hnf:Gm ls y=false:=by
       unfold Gm;rw[List.all_eq_false];refine⟨ls[k],List.getElem_mem hk',?_⟩;rw[hrk];simp[hh]
      rw[hnf]at hA;exact⟨q+1,true,⟨by omega,by simpa using hA⟩,td1,wkR⟩
     ·exact⟨k+1,⟨by omega,by rw[hstep,hF];simp[hh]⟩,td1,wkR⟩
   ·have hk2:k=ls.length:=by omega
    rw[hk2,List.take_length]at hF;rw[hF,if_pos rfl]at hA;rw[hA]at hR
    replace hR:Ge n (ls.map fun l=>l.filter fun x=> !decide (x=y)) (out++[y])=CT l:=hR
    obtain⟨e,he,hce⟩:=EI hA;have hlt:=Nm hce he;refine gf hrow ?_ o247;refine Cj 11 1 (fun j hj=>?_);refine Br [0,2,3,4,5,7,9,10,14,15,16,17,18,19,20,21,22,23,24,25,26,27,28,29,30,31,32,33,34,35,36,37,38,39,40,41,42,43,44,45,46,47,48,49,61,62,63,64,65] (fun (m:Nat) (acc:List (List Int))=>m<=ls.length/\acc=(ls.take m).map fun l=>l.filter fun x=> !decide (x=y)) (fun m acc=>[(50,dI m),(11,.slice (cII acc) (.tag j))]) (fun _ acc=>(V.set i (.tail 1 (out.length+1))).set j (.tail 1 acc.length)) (fun m _=>ls.length-m) (0) ([]) (by simp) (fun m acc hI=>?_);obtain⟨hm,hacc⟩:=hI;have hal:acc.length=m:=by rw[hacc];simp;omega
    by_cases h':m<ls.length
    ·have hx':=hlx _ (List.getElem_mem h')
     repeat' first|refine gz ?_|refine AE (Gn (ls[m]) (fun c=> !decide (c=y)) 284 [.cptr [dI y] 0] _ _ hx' (fun x _ S' _=>Mn x y S')) ?_|refine callP (Gn (ls[m]) (fun c=> !decide (c=y)) 284 [.cptr [dI y] 0] _ _ hx' (fun x _ S' _=>Mn x y S')) ?_|refine gz ?_ o247|apply gy<;>intro hh
     exact⟨m+1,acc++[(ls[m]).filter fun x=> !decide (x=y)],⟨by omega,by rw[hacc,AR h',List.map_append];rfl⟩,td1,wkR⟩
    ·have hm':m=ls.length:=by omega
     rw[hm',List.take_length]at hacc;subst hacc;have hsub:Sub (V.set i (.tail 1 (out++[y]).length)) ((V.set i (.tail 1 (out.length+1))).set j (.tail 1 (ls.map fun l=>l.filter fun x=> !decide (x=y)).length)):=by rw[List.length_append];exact(Sub.refl _).set (by assumption)
     refine gz ?_ o247;exact⟨n,(ls.map fun l=>l.filter fun x=> !decide (x=y)),(out++[y]),⟨by omega,by rw[List.length_append,List.length_singleton];omega,by simpa using hls,hR⟩,td1,wkR⟩
 ·rw[A2 h,G9]at hA;rw[hA]at hR
  replace hR:CT l=(out, !s):=hR.symm
  refine gz ?_ o247;exact fe2 (d':=sl (cI out)) hR
@[reducible,instance] def a247:=fun l o V=>ah2 (@ER l o V)
theorem Gd: ∀(n:Nat) (ls:List (List Int)) (out:List Int),(Ge n ls out).1.length<=out.length+totL ls
 |0,_,_=>Nat.le_add_right _ _
 | n+1,ls,out=>by
  rw[Ge];cases h:G9 ls false ls with
  | mk a s =>
   cases a with
   |none=>exact Nat.le_add_right _ _
   |some c=>
    obtain⟨e,he,hce⟩:=EI h;have h1:=Nm hce he;have h2:=Gd n (ls.map fun l=>l.filter fun x=> !decide (x=c)) (out++[c]);rw[List.length_append,List.length_singleton]at h2;simp only;omega
theorem Fs(ls:List (List Int)):(CT ls).1.length<=totL ls:=by
 exact Nat.le_trans (Gd (totL ls+1) ls []) (by simp)
def CX(os:List (List Int))(c:Int)(ps:List Int):List Int:=
 match C9 os ps with
 |none=>[]
 |some ls=>if(CT ls).2 then c::(CT ls).1++[0] else []
theorem Sy(ig im:Nat)(ps os:List (List Int))(ups:D)(om:List (Int×List Int))(c:Nat)(o:Own)(V:Sig)(hne:ig≠im)(hg:V ig=some (.cells [.slice (cII ps) o,ups,.map im]))(hm:V im=some (.map (eIO om)))(hc:c<ps.length)(hc0:c≠0)
  (hl:ps.length<=1073741824) (hpl:(ps[c]).length<=1073741824) (ho:∀p∈ps[c],getM [] p om=AA os p) (hol:∀p∈ps[c],(AA os p).length<=1073741824) (ht:∀ls,C9 os ps[c]=some ls->ls.length<=1073741824/\totL ls<=1073741824) :
  DCall prog 202 [.ptr ig 0,dI c] V fun x S'=>x=.ret (.tup [])/\S'=if CX os c ps[c]=[] then V else V.set im (.map (eIO (putM c (CX os c ps[c]) om))):=by
 have hc0':¬(c:Int)=0:=by omega
 refine en func202 ntmps202 ?_;cases hls:C9 os ps[c]with
 |none=>
  repeat' first|refine gf (gi hc0' (gi hg (gi hm hls))) ?_|refine AE (DR ig im ps os ups om c o V hg hm hc hl hpl ho hol) ?_|refine callP (DR ig im ps os ups om c o V hg hm hc hl hpl ho hol) ?_|refine gf (gi hc0' (gi hg (gi hm hls))) ?_ o202|apply gy<;>intro hh
  exact fin0 (S':=V) ⟨rfl,by simp[CX,hls]⟩
 | some ls =>
  obtain⟨h1,h2⟩:=ht ls hls;have hml:(CT ls).1.length<=totL ls:=Fs ls
  by_cases hm0:(CT ls).1=[]
  ·repeat' first|refine gf (gi hc0' (gi hg (gi hm hls))) ?_|refine AE (DR ig im ps os ups om c o V hg hm hc hl hpl ho hol) ?_|refine callP (DR ig im ps os ups om c o V hg hm hc hl hpl ho hol) ?_|refine AE (ER ls .no V h1 h2) ?_|refine callP (ER ls .no V h1 h2) ?_|refine gf (gi hc0' (gi hg (gi hm hls))) ?_ o202|apply gy<;>intro hh
   refine moApp0 ?_
   repeat' first|refine gz ?_ o202|apply gy<;>intro hh
   refine Rk (fun i hi=>?_);have hmi:im≠i:=fun h=>by rw[h,hi]at hm;simp at hm
   refine rtl 39 (sl (cI [(c:Int),0])) ?_;refine gf (gi hm hmi) ?_ o202;exact fin0 (S':=V.set im (.map (eIO (putM c [(c:Int),0] om)))) ⟨rfl,by rw[CX,hls];simp[hh,hm0]⟩ (Sub.both ((Sub.refl _).set hi));exact fin0 (S':=V) ⟨rfl,by rw[CX,hls];simp[hh]⟩
  ·repeat' first|refine gf (gi hc0' (gi hg (gi hm hls))) ?_|refine AE (DR ig im ps os ups om c o V hg hm hc hl hpl ho hol) ?_|refine callP (DR ig im ps os ups om c o V hg hm hc hl hpl ho hol) ?_|refine AE (ER ls .no V h1 h2) ?_|refine callP (ER ls .no V h1 h2) ?_|refine gf (gi hc0' (gi hg (gi hm hls))) ?_ o202|apply gy<;>intro hh
   refine V9 (fun i hi=>?_);have hmi:im≠i:=fun h=>by rw[h,hi]at hm;simp at hm
   refine gz ?_ o202;refine rtl 39 (sl (cI ((c:Int)::(CT ls).1++[0]))) ?_ (DI _ (by simp[cI]));refine gf (gi hm hmi) ?_ o202;exact fin0 (S':=V.set im (.map (eIO (putM c ((c:Int)::(CT ls).1++[0]) om)))) ⟨rfl,by rw[CX,hls];simp[hh]⟩ (Sub.both ((Sub.refl _).set hi));exact fin0 (S':=V) ⟨rfl,by rw[CX,hls];simp[hh]⟩
end Go.DL
