/- A part of the proof. -/
import Derived.Test.YteldimffglchkaaGreatDoorR25
import Derived.Test.YteldimffglchkaaGreatDoorR12
import Derived.Test.YteldimffglchkaaGreatDoorR09
import Derived.Test.YteldimffglchkaaGreatDoorR18
import Derived.Test.YteldimffglchkaaGreatDoorR20
import Derived.Test.YteldimffglchkaaGreatDoorR22
import Derived.Test.YteldimffglchkaaGreatDoorR17
import Derived.Test.YteldimffglchkaaGreatDoorR19
set_option linter.all false
namespace Go.DL
open Go.Proofs.Tryz
open Go Go.Proofs
set_option maxHeartbeats 8000000
theorem nn2{O:Sig}{a b:Nat}{o:DObj}(h:O a=some o)(k:O b=none):a≠b:=fun e=>by rw[e,k]at h;cases h
theorem Ny:prog.globals.size≠0:=by
 have h:prog.globals.size=8:=by kernel_rfl
 omega
theorem Lr(n:Int)(O:Sig)(h0 : -9223372036854775808<=n)(h1:n<=9223372036854775807):EI prog 84 [dI n] O (rS (.str (Lib.itoa n)) O):=by
 refine⟨by rw[Ah];decide,BT func84 (by rfl) (by rfl),fun g w vs r hr hs ha=>?_⟩
 obtain rfl:r=_:=hr
 obtain⟨v,r,rfl,hv,rfl⟩:=ha
 obtain rfl:v=.int .i64 n:=hv
 have bl : Lib.TabIs prog w "internal/strconv.uint64pow10" .u64 Lib.pow10Tab := by
  rcases hs.tab w hs.keep with h|⟨h,_⟩
  ·exact absurd h Ny
  ·exact h
 refine(DA (strconv_Itoa n h0 h1 w bl)).mono ?_
 rintro e w' ⟨rfl,k,os,rfl⟩
 refine⟨g,.ret (.str (Lib.itoa n)),O,.refl g,?_,⟨_,rfl,rfl⟩,rfl,rfl⟩
 refine hs.later (fun k x hx=>?_) rfl
 have hk:k<w.heap.size:=(Array.getElem?_eq_some_iff.1 hx).1
 show(w.heap++os)[k]? = some x
 rw[Array.getElem?_append_left hk];exact hx
theorem Nn{w:Go.World}{b:Nat}{vs:Array Value}{ty:TypeId}{x:Value}(h:w.heap[b]? = some (.cells vs ty (0,0))):w.setCell ⟨b,0,none⟩ x=setB w b (.cells (vs.setIfInBounds 0 x) ty (0,0)):=by
 have e:w.heap.setIfInBounds b (.cells (vs.setIfInBounds 0 x) ty (0,0))=(w.setCell ⟨b,0,none⟩ x).heap:=by
  unfold World.setCell
  apply Array.ext_getElem?
  intro k
  by_cases hk:b=k
  ·subst hk
   have hb:b<w.heap.size:=(Array.getElem?_eq_some_iff.1 h).1
   rw[Array.getElem?_setIfInBounds_self_of_lt hb,Array.getElem?_modify,if_pos rfl,h];rfl
  ·simp[Array.getElem?_modify,hk]
 unfold setB
 rw[e];rfl
theorem PG(ib:Nat)(v:D)(O:Sig)(h:O ib=some (.tcells 159 [.nilp,v])):EI prog 161 [.ptr ib 0] O fun x U'=>x=.ret (.tup [])/\U'=O.set ib (.cells [.ptr ib 0,v]):=by
 refine⟨by rw[Ah];decide,BT func161 (by rfl) (by rfl),fun g w vs r hr hs ha=>?_⟩
 obtain rfl:r=_:=hr
 obtain⟨pv,r,rfl,⟨b,hb,rfl⟩,rfl⟩:=ha
 obtain⟨b',vs,aw,aa,am⟩:=hs.obj ib _ h
 obtain rfl:b'=b:=by rw[hb]at aw;cases aw;rfl
 obtain⟨v0,r0,aP,h0,v1,r1,rfl,h1,rfl⟩:=am
 obtain rfl:v0=.pointer none:=h0
 obtain rfl:vs=#[.pointer none,v1]:=by apply Array.ext';simpa using aP
 refine(DA (Jw b' w (by simp[World.cell?, aa]) (by simp[World.shape?, aa]) (by simp[World.frozen?, aa]))).mono ?_
 rintro e w' ⟨rfl,rfl⟩
 refine⟨g,.ret (.tup []),_,.refl g,?_,⟨_,rfl,[],rfl,rfl⟩,rfl,rfl⟩
 rw[Nn aa]
 refine hs.setAny h rfl rfl hb aa ⟨b',_,159,hb,EP aa,?_⟩
 exact⟨_,_,rfl,⟨b',hb,rfl⟩,_,_,rfl,h1,rfl⟩
theorem PF(ib:Nat)(v:D)(O:Sig)(h:O ib=some (.cells [.ptr ib 0,v])):EI prog 161 [.ptr ib 0] O (rS (.tup []) O):=by
 refine⟨by rw[Ah];decide,BT func161 (by rfl) (by rfl),fun g w vs r hr hs ha=>?_⟩
 obtain rfl:r=_:=hr
 obtain⟨pv,r,rfl,⟨b,hb,rfl⟩,rfl⟩:=ha
 obtain⟨b',vs,ty,aw,aa,am⟩:=hs.obj ib _ h
 obtain rfl:b'=b:=by rw[hb]at aw;cases aw;rfl
 obtain⟨v0,r0,aP,⟨b2,bE,rfl⟩,v1,r1,rfl,h1,rfl⟩:=am
 obtain rfl:b2=b':=by rw[hb]at bE;cases bE;rfl
 obtain rfl:vs=#[.pointer (some ⟨b2,0,none⟩),v1]:=by apply Array.ext';simpa using aP
 refine(DA (JU b2 w (by simp[World.cell?, aa]))).mono ?_
 rintro e w' ⟨rfl,rfl⟩
 exact⟨g,.ret (.tup []),_,.refl g,hs,⟨_,rfl,[],rfl,rfl⟩,rfl,rfl⟩
def BldS(ib:Nat)(S0:Sig)(bs:List UInt8)(O:Sig):Prop:=
 Sub S0 O/\S0 ib=none/\((bs=[]/\O ib=some (.tcells 159 [.nilp,.nils])) \/ ∃r:BR,O ib=some (.cells [.ptr ib 0,r.d bs.length])/\BRAt 5 O r bs /\ ¬r.is ib /\ ∀j,r.is j->S0 j=none)
theorem BRAt.set{e:Nat}{O:Sig}{r:BR}{bs:List UInt8}(h:BRAt e O r bs){i:Nat}{o:DObj}(hi:¬r.is i):BRAt e (O.set i o) r bs:=by
 rcases r with _|⟨k,c,cs⟩
 ·exact h
 ·exact⟨by rw[w7 _ _ fun e=>hi e.symm];exact h.1,h.2⟩
theorem bapp{ro:Ro}{n:Nat}{ops:Array Oper}{Q:DX->St->Prop}{df:List DDf}{rest:List Oper}{γ Sr:Fr}{O:Sig}{t:Nat}{ty:TypeId}{pos:String}{after:Array Edge}{s x:Operand}{bs str:List UInt8}{r:BR}
  (h:∀r' U',BRAt 5 U' r' (bs++str)->(∀j o,O j=some o->¬r.is j->U' j=some o /\ ¬r'.is j)->DOps prog ro n ops Q rest ⟨(t,r'.d (bs++str).length)::γ,U',df⟩) (hm:BRAt 5 O r bs) (hb:bs.length+str.length<=140737488355328)
  (hl:A1 γ (A7 [s,x])=some Sr:=by exact tdR) (h1:ev Sr s=r.d bs.length:=by exact tdR) (h2:ev Sr x=.str str:=by exact tdR) (aj:decide (t<n)=true:=by exact tdR) :
  DOps prog ro n ops Q (⟨some t,.call { callee:=.builtin .append,args:= #[s,x],argTypes:= #[96,9] },ty,pos,after,none⟩::rest) ⟨γ,O,df⟩:=by
 obtain⟨e1,e2⟩:=evs hl
 exact TI tabOK (by simpa using aj) (by simp<;>rfl) (by simp<;>rfl) (by simp) (by simp) (by simp) (by rw[<-e1];exact h1) hm (by rw[<-e2];exact h2) hb h
theorem EY(ib:Nat)(S0:Sig)(bs s:List UInt8)(O:Sig)(hB:BldS ib S0 bs O)(hb:bs.length+s.length<=1000000000):EI prog 83 [.ptr ib 0,.str s] O fun x U'=>x=.ret (.tup [dI s.length,.niliface])/\BldS ib S0 (bs++s) U':=by
 obtain⟨hS,h0,hB⟩:=hB
 refine enW func83 ntmps83 ?_
 rcases hB with⟨rfl,h1⟩|⟨r,h1,h2,h3,h4⟩
 ·refine gz ?_
  refine Ee (PG ib _ O h1) (fun d S1 hr=>?_) (fun d S1 hr=>by cases hr.1)
  obtain⟨hd,rfl⟩:=hr
  cases hd
  have u1:(O.set ib (.cells [.ptr ib 0,.nils])) ib=some (.cells [.ptr ib 0,.nils]):=w6 ..
  refine gf u1 ?_
  refine bapp (bs:=[]) (str:=s) (r:=none) (fun r' S2 k1 k2=>?_) rfl (by simp at hb⊢; omega)
  obtain⟨u2,u3⟩:=k2 _ _ u1 id
  have ai:BldS ib S0 ([]++s) (S2.set ib (.cells [.ptr ib 0,r'.d ([]++s).length])):=by
   refine⟨fun j o hj=>?_,h0,.inr ⟨r',w6 ..,?_,u3,fun j hj=>?_⟩⟩
   ·have aK:j≠ib:=nn2 hj h0
    rw[w7 _ _ aK]
    exact(k2 j o (by rw[w7 _ _ aK];exact hS j o hj) id).1
   ·exact k1.set u3
   ·cases aN:S0 j with
    |none=>rfl
    |some o=>exact absurd hj (k2 j o (by rw[w7 _ _ (nn2 aN h0)];exact hS j o aN) id).2
  rcases r' with _|⟨i,c,cs⟩<;>simp only[BR.d]at ai⊢
  ·refine gf u2 ?_
   exact V9 (U':=_) ⟨rfl,ai⟩
  ·refine gf u2 ?_
   exact V9 (U':=_) ⟨rfl,ai⟩
 ·refine gz ?_
  refine Ee (PF ib _ O h1) (fun d S1 hr=>?_) (fun d S1 hr=>by cases hr.1)
  obtain⟨hd,rfl⟩:=hr
  cases hd
  refine gf h1 ?_
  refine bapp (bs:=bs) (str:=s) (r:=r) (fun r' S2 k1 k2=>?_) h2 (by omega)
  obtain⟨u2,u3⟩:=k2 _ _ h1 h3
  have ai:BldS ib S0 (bs++s) (S2.set ib (.cells [.ptr ib 0,r'.d (bs++s).length])):=by
   refine⟨fun j o hj=>?_,h0,.inr ⟨r',w6 ..,?_,u3,fun j hj=>?_⟩⟩
   ·have aK:j≠ib:=nn2 hj h0
    rw[w7 _ _ aK]
    exact(k2 j o (hS j o hj) fun h=>by rw[h4 j h]at hj;cases hj).1
   ·exact k1.set u3
   ·cases aN:S0 j with
    |none=>rfl
    |some o=>exact absurd hj (k2 j o (hS j o aN) fun h=>by rw[h4 j h]at aN;cases aN).2
  rcases r' with _|⟨i,c,cs⟩<;>simp only[BR.d]at ai⊢
  ·refine gf u2 ?_
   exact V9 (U':=_) ⟨rfl,ai⟩
  ·refine gf u2 ?_
   exact V9 (U':=_) ⟨rfl,ai⟩
theorem Pr{w:Go.World}{b n:Nat}{vs:Array Value}{ty:TypeId}(h:w.heap[b]? = some (.cells vs ty (0,0)))(hn:n≠0):w.freeze ⟨b,0,none⟩ n=setB w b (.cells vs ty (0,0+n)):=by
 have e:w.heap.setIfInBounds b (.cells vs ty (0,0+n))=(w.freeze ⟨b,0,none⟩ n).heap:=by
  unfold World.freeze
  rw[if_neg hn]
  apply Array.ext_getElem?
  intro k
  by_cases hk:b=k
  ·subst hk
   have hb:b<w.heap.size:=(Array.getElem?_eq_some_iff.1 h).1
   rw[Array.getElem?_setIfInBounds_self_of_lt hb,Array.getElem?_modify,if_pos rfl,h];rfl
  ·simp[Array.getElem?_modify,hk]
 unfold setB
 rw[e]
 unfold World.freeze
 rw[if_neg hn]
theorem Vc(ib:Nat)(S0:Sig)(bs:List UInt8)(O:Sig)(hB:BldS ib S0 bs O)(hne:bs≠[])(hb:bs.length<=1000000000):EI prog 86 [.ptr ib 0] O (rS (.str bs) S0):=by
 obtain⟨hS,h0,hB⟩:=hB
 rcases hB with⟨rfl,_⟩|⟨r,h1,h2,h3,h4⟩
 ·exact absurd rfl hne
 rcases r with _|⟨i,c,cs⟩
 ·exact absurd h2 hne
 obtain⟨h5,h6⟩:=h2
 refine⟨by rw[Ah];decide,BT func86 (by rfl) (by rfl),fun g w vs r hr hs ha=>?_⟩
 obtain rfl:r=_:=hr
 obtain⟨pv,r,rfl,⟨b,bS,rfl⟩,rfl⟩:=ha
 obtain⟨b',vs,ty,aw,aa,am⟩:=hs.obj ib _ h1
 obtain rfl:b'=b:=by rw[bS]at aw;cases aw;rfl
 obtain⟨v0,r0,aP,_,v1,r1,rfl,⟨bg,bD,rfl⟩,rfl⟩:=am
 obtain rfl:vs=#[v0,.slice (some ⟨bg,0,none⟩) bs.length c]:=by apply Array.ext';simpa using aP
 obtain⟨bg',vg,aW,bd,bC⟩:=hs.obj i _ h5
 obtain rfl:bg'=bg:=by rw[bD]at aW;cases aW;rfl
 have aR:=RepL.length bC
 simp only[Array.length_toList,List.length_append,List.length_map]at aR
 refine(DA (JW b' bg' c v0 ty bs vg w hne aa bd (by omega) (by omega) (by omega) fun j x hj=>?_)).mono ?_
 ·have hg:=RepL.get bC j
  have bW:=(List.getElem?_eq_some_iff.1 hj).1
  rw[List.getElem?_append_left (by simpa using bW),List.getElem?_map,hj]at hg
  simp only[Option.map_some,Array.getElem?_toList]at hg
  have bB:j<vg.size:=by omega
  rw[Array.getElem?_eq_getElem bB]at hg
  simp only[World.cell?, bd]
  rw[Array.getElem?_eq_getElem bB]
  exact congrArg some hg
 ·rintro e w' ⟨rfl,rfl⟩
  have hl:bs.length≠0:=by simpa using hne
  refine⟨g,.ret (.str bs),S0,.refl g,?_,⟨_,rfl,rfl⟩,rfl,rfl⟩
  rw[Pr (w:=w.drew) bd hl]
  refine(hs.drew.kill h5 rfl bD (x:=.cells vg 5 (0,0)) bd).sub fun j o hj=>?_
  have aK:j≠i:=fun e=>by rw[e,h4 i rfl]at hj;cases hj
  simp only[Sig.del,aK,if_false]
  exact hS j o hj
theorem newT{ro:Ro}{n:Nat}{ops:Array Oper}{Q:DX->St->Prop}{df:List DDf}{rest:List Oper}{γ:Fr}{O:Sig}{t T:Nat}{ty:TypeId}{pos:String}{after:Array Edge}(h:∀i,O i=none->DOps prog ro n ops Q rest ⟨(t,.ptr i 0)::γ,O.set i (.tcells T (tab T).zero),df⟩)(hk:A0 (tab T).k=false:=by simp)(aj:decide (t<n)=true:=by exact tdR):
  DOps prog ro n ops Q (⟨some t,.alloc T,ty,pos,after,none⟩::rest) ⟨γ,O,df⟩:=NK tabOK hk (by simpa using aj) h
@[simp] theorem cIns_tk(x:CIns):List.take 2 (cIns x)=cIns x:=rfl
@[simp] theorem cIns_mem(x:CIns)(d:D):(d∈cIns x)=(d=dI x.op\/d=dI x.a):=by simp[cIns]
theorem Vq(c:CProg)(O:Sig)(h1:c.ins.length<=1073741824)(h2:c.starts.length<=1073741824):EI prog 40 [.agg (cCPg c)] O (rS (if Ew c then .tup [.str (LQ c),dI 0] else .tup [.str [],dI 2]) O):=by
 have aV:∀l:List Int,l.all farN=true->∀n∈l,0<=n/\n<=1000000000:=fun l h n hn=>by have:=List.all_eq_true.1 h n hn;unfold farN at this;simpa using this
 refine enW func40 ntmps40 ?_
 repeat' first|refine gz ?_ o40|apply gy<;>intro hh
 ·refine fin2 (U':=O) ⟨by rw[hh];rfl,rfl⟩
 ·have hp:=hh
  unfold Ew at hp
  simp only[Bool.and_eq_true,decide_eq_true_eq]at hp
  obtain⟨c1,c2,c3,c4,c5⟩:=hp
  have hT:=Uk hh
  have hm:0<=c.main/\c.main<=1000000000:=by unfold farN at c3;simpa using c3
  have bk:LQ c=Pn c++10::listB (fun l=>l++[10]) (c.ins.map Gc):=by unfold LQ;rw[listB,List.append_assoc];rfl
  have cf:(Pn c).length=(listB (fun n=>Lib.itoa n++[32]) c.starts).length+2+(Lib.itoa c.main).length:=by unfold Pn;simp;omega
  have bO:=congrArg List.length bk
  rw[List.length_append,List.length_cons]at bO
  refine newT (fun ib aq=>?_)
  have aO:BldS ib O [] (O.set ib (.tcells 159 (tab 159).zero)):=⟨(Sub.refl _).set aq,aq,.inl ⟨rfl,w6 ..⟩⟩
  generalize O.set ib (.tcells 159 (tab 159).zero)=S1 at aO
  refine gz ?_ o40
  refine Gb [1,2,3,4,8,13,14,24,25,26,27,28,29,30,31,32,33,34,35,36,37,38,39,40,41,42,43,44,45,46,47,48,49,50,51,52,53,54] (fun (k:Nat) (bs:List UInt8) (S2:Sig)=>k<=c.starts.length/\BldS ib O bs S2/\bs++listB (fun n=>Lib.itoa n++[32]) (c.starts.drop k)=listB (fun n=>Lib.itoa n++[32]) c.starts) (fun k _ _=>[(15,dI k)]) (fun _ _ S2=>S2) (fun k _ _=>c.starts.length-k) (0) ([]) (S1) (by exact⟨by omega,aO,rfl⟩) (fun k bs S2 hI=>?_)
  obtain⟨hk,hB,hE⟩:=hI
  have aG:=congrArg List.length hE
  rw[List.length_append]at aG
  by_cases ae:k<c.starts.length
  ·rw[A5 ae,listB]at hE
   obtain⟨n1,n2⟩:=aV _ c4 _ (List.getElem_mem ae)
   have ck:=Rh (n:=c.starts[k]) ⟨by omega,by omega⟩
   refine gz ?_ o40
   refine Ee (Lr c.starts[k] S2 (by omega) (by omega)) (fun d S3 hr=>?_) (fun d S3 hr=>by cases hr.1)
   obtain⟨hd,rfl⟩:=hr
   cases hd
   refine gz ?_ o40
   refine Ee (EY ib O bs (Lib.itoa c.starts[k]++[32]) _ hB (by simp;omega)) (fun d S3 hr=>?_) (fun d S3 hr=>by cases hr.1)
   obtain⟨hd,ak⟩:=hr
   cases hd
   refine gz ?_ o40
   exact⟨k+1,bs++(Lib.itoa c.starts[k]++[32]),S3,⟨by omega,ak,by rw[List.append_assoc];exact hE⟩,td1,wkR⟩
  ·rw [A9 ae,listB,List.append_nil] at hE
   refine gz ?_ o40
   refine Ee (Lr c.main S2 (by omega) (by omega)) (fun d S3 hr=>?_) (fun d S3 hr=>by cases hr.1)
   obtain⟨hd,rfl⟩:=hr
   cases hd
   refine gz ?_ o40
   refine Ee (EY ib O bs ([58,32]++Lib.itoa c.main++[10]) _ hB (by simp;omega)) (fun d S3 hr=>?_) (fun d S3 hr=>by cases hr.1)
   obtain⟨hd,ak⟩:=hr
   cases hd
   have bG:bs++([58,32]++Lib.itoa c.main++[10])++listB (fun l=>l++[10]) (c.ins.map Gc)=LQ c:=by rw[bk];unfold Pn;simp[hE]
   generalize bs++([58,32]++Lib.itoa c.main++[10])=bs3 at ak bG
   refine gz ?_ o40
   refine Gb [2,3,4,31,32,53,54] (fun (k:Nat) (bs:List UInt8) (S2:Sig)=>k<=c.ins.length/\BldS ib O bs S2/\bs++listB (fun l=>l++[10]) ((c.ins.drop k).map Gc)=LQ c) (fun k _ _=>[(33,dI k)]) (fun _ _ S2=>S2) (fun k _ _=>c.ins.length-k) (0) (bs3) (S3) (by exact⟨by omega,ak,bG⟩) (fun k bs S2 hI=>?_)
   obtain⟨hk,hB,hE⟩:=hI
   have aG:=congrArg List.length hE
   rw[List.length_append]at aG
   by_cases ae:k<c.ins.length
   ·rw[A5 ae,List.map_cons,listB]at hE
    have hI:=List.all_eq_true.1 c5 _ (List.getElem_mem ae)
    have ce:=Oh hI
    unfold F5 at hI
    simp only[Bool.and_eq_true,decide_eq_true_eq]at hI
    obtain⟨⟨bX,au⟩,ac⟩:=hI
    have cb:wordsC.length=21:=rfl
    have bj:Ud c.ins[k].op=wordsC[c.ins[k].op.toNat-1]'(by omega):=by unfold Ud;rw[show(c.ins[k].op-1).toNat=c.ins[k].op.toNat-1 by omega,List.getElem?_eq_getElem (by omega)];rfl
    have aS:(Gc c.ins[k]).length=(wordsC[c.ins[k].op.toNat-1]'(by omega)).length+(if hasA c.ins[k].op then 1+(Lib.itoa c.ins[k].a).length else 0):=by
     unfold Gc;rw[bj,List.length_append];split<;>simp<;>omega
    have cm:(listB (fun l=>l++[10]) (List.map Gc (List.drop k c.ins))).length=(Gc c.ins[k]).length+1+(listB (fun l=>l++[10]) (List.map Gc (List.drop (k+1) c.ins))).length:=by
     rw[A5 ae,List.map_cons,listB];simp;omega
    by_cases hA:hasA c.ins[k].op=true
    ·rw[if_pos hA]at aS ac
     have co : -1000000000<=c.ins[k].a/\c.ins[k].a<=1000000000:=by
      split at ac
      ·unfold inB at ac;simp at ac;omega
      ·unfold farN at ac;simp at ac;omega
     have aE:Gc c.ins[k]=wordsC[c.ins[k].op.toNat-1]'(by omega)++([32]++Lib.itoa c.ins[k].a):=by unfold Gc;rw[bj,if_pos hA];rfl
     refine gz ?_ o40
     refine Ee (EY ib O bs (wordsC[c.ins[k].op.toNat-1]'(by omega)) _ hB (by omega)) (fun d S3 hr=>?_) (fun d S3 hr=>by cases hr.1)
     obtain⟨hd,ak⟩:=hr
     cases hd
     refine gf hA ?_ o40
     refine Ee (Lr c.ins[k].a S3 (by omega) (by omega)) (fun d S4 hr=>?_) (fun d S4 hr=>by cases hr.1)
     obtain⟨hd,rfl⟩:=hr
     cases hd
     refine gz ?_ o40
     refine Ee (EY ib O _ ([32]++Lib.itoa c.ins[k].a) _ ak (by simp;omega)) (fun d S3 hr=>?_) (fun d S3 hr=>by cases hr.1)
     obtain⟨hd,ax⟩:=hr
     cases hd
     refine gz ?_ o40
     refine Ee (EY ib O _ [10] _ ax (by simp;omega)) (fun d S3 hr=>?_) (fun d S3 hr=>by cases hr.1)
     obtain⟨hd,bw⟩:=hr
     cases hd
     rw[aE]at hE
     refine gz ?_ o40
     exact⟨k+1,_,_,⟨by omega,bw,by simpa[List.append_assoc] using hE⟩,td1,wkR⟩
    ·rw[if_neg hA]at aS ac
     have b8:hasA c.ins[k].op=false:=by simpa using hA
     have aE:Gc c.ins[k]=wordsC[c.ins[k].op.toNat-1]'(by omega):=by unfold Gc;rw[bj,if_neg hA,List.append_nil]
     refine gz ?_ o40
     refine Ee (EY ib O bs (wordsC[c.ins[k].op.toNat-1]'(by omega)) _ hB (by omega)) (fun d S3 hr=>?_) (fun d S3 hr=>by cases hr.1)
     obtain⟨hd,ak⟩:=hr
     cases hd
     refine gf b8 ?_ o40
     refine Ee (EY ib O _ [10] _ ak (by simp;omega)) (fun d S3 hr=>?_) (fun d S3 hr=>by cases hr.1)
     obtain⟨hd,bw⟩:=hr
     cases hd
     rw[aE]at hE
     refine gz ?_ o40
     exact⟨k+1,_,_,⟨by omega,bw,by simpa[List.append_assoc] using hE⟩,td1,wkR⟩
   ·rw[A9 ae,List.map_nil,listB,List.append_nil]at hE
    subst hE
    refine gz ?_ o40
    refine Ee (Vc ib O _ _ hB (by rw[bk];simp) (by omega)) (fun d S3 hr=>?_) (fun d S3 hr=>by cases hr.1)
    obtain⟨hd,rfl⟩:=hr
    cases hd
    refine gz ?_ o40
    refine fin2 (U':=S3) ⟨by rw[hh];rfl,rfl⟩
def rvk(l:List UInt8)(k:Nat):List UInt8:=(List.range l.length).map fun j=>if j<k\/l.length<=j+k then l.getD (l.length-1-j) 0 else l.getD j 0
@[simp] theorem rvk_len(l:List UInt8)(k:Nat):(rvk l k).length=l.length:=by simp[rvk]
theorem HC(l:List UInt8)(k j:Nat)(h:j<l.length):(rvk l k)[j]? = some (if j<k\/l.length<=j+k then l.getD (l.length-1-j) 0 else l.getD j 0):=by
 unfold rvk;rw[List.getElem?_map,List.getElem?_range h];rfl
theorem getD_some{l:List UInt8}{j:Nat}(h:j<l.length):l[j]? = some (l.getD j 0):=by rw[List.getD_eq_getElem?_getD,List.getElem?_eq_getElem h];rfl
theorem rvk_0(l:List UInt8):rvk l 0=l:=by
 refine List.ext_getElem? fun j=>?_
 by_cases h:j<l.length
 ·rw[HC l 0 j h,if_neg (by omega),getD_some h]
 ·rw[List.getElem?_eq_none (by simp;omega),List.getElem?_eq_none (by omega)]
theorem rvk_end(l:List UInt8)(k:Nat)(h:l.length<=2*k+1):rvk l k=l.reverse:=by
 refine List.ext_getElem? fun j=>?_
 by_cases hj:j<l.length
 ·rw[HC l k j hj,List.getElem?_reverse hj,getD_some (by omega)]
  by_cases h2:j<k\/l.length<=j+k
  ·rw[if_pos h2]
  ·rw[if_neg h2,show l.length-1-j=j by omega]
 ·rw[List.getElem?_eq_none (by simp;omega),List.getElem?_eq_none (by simp;omega)]
theorem rvk_set(l:List UInt8)(k:Nat)(h:2*k+1<l.length):((rvk l k).set k (l.getD (l.length-1-k) 0)).set (l.length-1-k) (l.getD k 0)=rvk l (k+1):=by
 refine List.ext_getElem? fun j=>?_
 by_cases hj:j<l.length
 ·rw[HC l _ j hj]
  by_cases h1:j=l.length-1-k
  ·subst h1
   rw[List.getElem?_set_self (by simp;omega),if_pos (by omega)]
   congr 2;omega
  ·rw[List.getElem?_set_ne (fun e=>h1 e.symm)]
   by_cases h2:j=k
   ·subst h2
    rw[List.getElem?_set_self (by simp;omega),if_pos (by omega)]
   ·rw[List.getElem?_set_ne (fun e=>h2 e.symm),HC l k j hj]
    congr 1
    by_cases h3:j<k\/l.length<=j+k
    ·rw[if_pos h3,if_pos (by omega)]
    ·rw[if_neg h3,if_neg (by omega)]
 ·rw[List.getElem?_eq_none (by simp;omega),List.getElem?_eq_none (by simp;omega)]
def byD(b:UInt8):D:=.int .u8 (b.toNat:Int)
theorem O1{α:Type}(l:List α)(k:Nat)(x:α)(h:k<l.length):l.take k++[x]++l.drop (k+1)=l.set k x:=by
 rw[List.set_eq_take_append_cons_drop,if_pos h,List.append_assoc];rfl
theorem PH(b:D)(O:Sig):DCall prog 155 [.slice [[b]] .clip] O (rS (.tup []) O):=by
 refine en func155 ntmps155 ?_
 refine gz ?_ o155
 refine BV [0] (fun (k:Nat)=>True) (fun _=>[(2,dI 0),(3,dI 0)]) (fun _=>O) (fun _=>1) (0) (by trivial) (fun k hI=>?_)
 refine gz ?_ o155
 refine EW (U':=O) ⟨rfl,rfl⟩
theorem T6(bs:List UInt8)(rest:List D)(i cap:Nat)(O:Sig)(hn:bs.length<=1000000)(hc:bs.length<=cap)(hi:O i=some (.cells (bs.map byD++rest))):DCall prog 155 [.sref i 0 bs.length cap] O fun x U'=>x=.ret (.tup [])/\U'=O.set i (.cells (bs.reverse.map byD++rest)):=by
 refine en func155 ntmps155 ?_
 refine gz ?_ o155
 refine BZ [0] (fun (k:Nat) (S2:Sig)=>k<=bs.length/\(∀j,j≠i->S2 j=O j)/\S2 i=some (.cells ((rvk bs k).map byD++rest))) (fun k _=>[(2,dI k),(3,dI ((bs.length:Int)-1-k))]) (fun _ S2=>S2) (fun k _=>bs.length-k) (0) (O) (by exact⟨Nat.zero_le _,fun _ _=>rfl,by rw[rvk_0];exact hi⟩) (fun k S2 hI=>?_)
 obtain⟨bU,hs,au⟩:=hI
 by_cases hk:2*k+1<bs.length
 ·obtain⟨L,hL⟩:∃L,L=(rvk bs k).map byD++rest:=⟨_,rfl⟩
  rw[<-hL]at au
  have aS:bs.length<=L.length:=by rw[hL];simp
  have hx:L[k]? = some (byD (bs.getD k 0)):=by rw[hL,List.getElem?_append_left (by simp;omega),List.getElem?_map,HC bs k k (by omega),if_neg (by omega)];rfl
  have hy:L[bs.length-1-k]? = some (byD (bs.getD (bs.length-1-k) 0)):=by rw[hL,List.getElem?_append_left (by simp;omega),List.getElem?_map,HC bs k _ (by omega),if_neg (by omega)];rfl
  have hE:(L.set k (byD (bs.getD (bs.length-1-k) 0))).set (bs.length-1-k) (byD (bs.getD k 0))=(rvk bs (k+1)).map byD++rest:=by
   rw[hL,List.set_append_left _ _ (by simp;omega),List.set_append_left _ _ (by simp;omega),<-List.map_set,<-List.map_set,rvk_set bs k hk]
  unfold byD at hx hy hE
  generalize (bs.getD k 0).toNat=x at*
  generalize (bs.getD (bs.length-1-k) 0).toNat=y at*
  have hX:L[k]'(by omega)=.int .u8 x:=by have:=hx;rw[List.getElem?_eq_getElem (by omega)]at this;exact Option.some.inj this
  have hY:L[bs.length-1-k]'(by omega)=.int .u8 y:=by have:=hy;rw[List.getElem?_eq_getElem (by omega)]at this;exact Option.some.inj this
  have aZ:=O1 L k (.int .u8 y) (by omega)
  have bx:=O1 (L.set k (.int .u8 y)) (bs.length-1-k) (.int .u8 x) (by simp;omega)
  simp only[List.append_assoc,List.singleton_append]at aZ bx
  have bZ:¬L.length<k+1:=by omega
  have bY:¬L.length<bs.length-1-k+1:=by omega
  refine gz ?_
  refine mixK (id:=3) [0,1,2,3,4,5,6,7,8,9,10,11,12,13,14,15] [13,15] [7,11] [13,15] S2 (Sub.refl _) ?_
  refine k4R (.sref i 0 bs.length cap) ?_
  refine k4R (dI k) ?_
  refine k4R (.sref i 0 bs.length cap) ?_
  refine k4R (dI ((bs.length:Int)-1-k)) ?_
  refine k4R (.sref i 0 bs.length cap) ?_
  refine k4R (dI ((bs.length:Int)-1-k)) ?_
  refine k4R (.ptr i (bs.length-1-k)) ?_ (hd:=by simp(disch:=omega);omega)
  refine k4R (.int .u8 y) ?_ (hd:=by simp[au,hy])
  refine k4R (.sref i 0 bs.length cap) ?_
  refine k4R (dI k) ?_
  refine k4R (.ptr i k) ?_ (hd:=by simp(disch:=omega);omega)
  refine k4R (.int .u8 x) ?_ (hd:=by simp[au,hx])
  refine k4R (.ptr i k) ?_ (hd:=by simp(disch:=omega);omega)
  refine k4S (d:=.any) (U':=S2.set i (.cells (L.set k (.int .u8 y)))) (fun _=>none) (fun _ _ h=>by cases h) ?_ (he:=by simp[au,aZ,bZ])
  refine k4R (.ptr i (bs.length-1-k)) ?_ (hd:=by simp(disch:=omega);omega)
  refine k4S (d:=.any) (U':=(S2.set i (.cells (L.set k (.int .u8 y)))).set i (.cells ((L.set k (.int .u8 y)).set (bs.length-1-k) (.int .u8 x)))) (fun _=>none) (fun _ _ h=>by cases h) ?_ (he:=by simp[bx,bY])
  refine k4N ?_
  rw[hE]
  refine gz ?_ o155
  exact⟨k+1,(S2.set i (.cells (L.set k (.int .u8 y)))).set i (.cells ((rvk bs (k+1)).map byD++rest)),⟨by omega,fun j hj=>by rw[w7 _ _ hj,w7 _ _ hj];exact hs j hj,w6 ..⟩,td1,wkR⟩
 ·refine gz ?_ o155
  refine EW (U':=S2) ⟨rfl,?_⟩
  rw[rvk_end bs k (by omega)]at au
  funext j
  by_cases hj:j=i
  ·subst hj;rw[w6,au]
  ·rw[w7 _ _ hj,hs j hj]
theorem Ir(x:Int):IntKind.u8.wrap x=x % 256:=by
 simp[IntKind.wrap,IntKind.bits,IntKind.signed]
theorem u8_step(z c:UInt8):IntKind.u8.wrap (IntKind.u8.wrap (IntKind.u8.wrap (3*(z.toNat:Int))+(c.toNat:Int))+1)=((3*z+c+1).toNat:Int):=by
 rw[Ir,Ir,Ir,UInt8.toNat_add,UInt8.toNat_add,UInt8.toNat_mul]
 simp only[UInt8.reduceToNat]
 omega
theorem Vg(bs:List UInt8)(i cap:Nat)(rest:List D)(O:Sig)(hn:bs.length<=1000000)(hc:bs.length<=cap)(hi:O i=some (.cells (bs.map byD++rest))):DCall prog 73 [.sref i 0 bs.length cap] O (rS (.int .u8 ((sumB bs 0).toNat:Int)) O):=by
 refine en func73 ntmps73 ?_
 refine gz ?_
 refine BZ [2,6,7,18] (fun (k:Nat) (z:UInt8)=>k<=bs.length/\sumB (bs.drop k) z=sumB bs 0) (fun k z=>[(8,dI k),(3,.int .u8 (z.toNat:Int))]) (fun _ _=>O) (fun k _=>bs.length-k) (0) (0) (by exact⟨Nat.zero_le _,rfl⟩) (fun k z hI=>?_)
 obtain⟨bU,hs⟩:=hI
 by_cases hk:k<bs.length
 ·obtain⟨L,hL⟩:∃L,L=bs.map byD++rest:=⟨_,rfl⟩
  rw[<-hL]at hi
  have aS:bs.length<=L.length:=by rw[hL];simp
  have hX:L[k]'(by omega)=.int .u8 (bs[k].toNat:Int):=by subst hL;rw[List.getElem_append_left (by simpa using hk),List.getElem_map];rfl
  rw[A5 hk,sumB]at hs
  refine gf (gi hi hX) ?_
  simp only[u8_step]
  exact⟨k+1,3*z+bs[k]+1,⟨by omega,hs⟩,td1,wkR⟩
 ·rw[A9 hk,sumB]at hs
  refine gz ?_
  refine fin1 (U':=O) ⟨by rw[<-hs],rfl⟩
@[simp] theorem RW.d_row(i c n:Nat)(cs:List D):(RW.row i c cs).d n=.sref i 0 n c:=rfl
@[simp] theorem RW.d_full(es:List (List D))(n:Nat):(RW.full es).d n=.slice es .clip:=rfl
def E1(b:UInt8):List D:=[.int .u8 (b.toNat:Int)]
@[simp] theorem byteL_len(b:UInt8):(E1 b).length=1:=rfl
theorem G6: ∀l:List UInt8,(l.map E1).flatten=l.map byD
 |[]=>rfl
 |b::l=>by rw[List.map_cons,List.flatten_cons,G6 l];rfl
def PkS(ib:Nat)(S0:Sig)(bs:List UInt8)(O:Sig):Prop:=
 Sub S0 O/\S0 ib=none /\ ∃r:RW,O ib=some (.cells [r.d (bs.map E1).length])/\RWAt O 1 r (bs.map E1) /\ ¬r.is ib/\(∀j,r.is j->S0 j=none)/\(bs.length<=1 \/ ∃i c cs,r=.row i c cs)
section
variable {ro:Ro}{n:Nat}{ops:Array Oper}{N:Nat}{S0:Sig}{Q:DX->St->Prop}{df:List DDf}{rest:List Oper}{γ Sr:List (Nat×D)}{O:Sig}{t:Nat}{ty:TypeId}{pos:String}{after:Array Edge}{d:D}
theorem xappN{T T' e e' sz:Nat}{s x:Operand}{es new:List (List D)}{r:RW}(h:∀i c cs U',RWAt U' sz (.row i c cs) (es++new)->RWK O r U' (.row i c cs)->DOps prog ro n ops Q rest ⟨(t,.sref i 0 (es.length+new.length) c)::γ,U',df⟩)(hm:RWAt O sz r es){dx:D}(h2:JX prog O sz dx new)(hne:new≠[])(bq:∀c∈new,BS c=true)
  (hlen':∀c∈new,c.length=sz)
  (hl:A1 γ (A7 [s,x])=some Sr:=by exact tdR) (hx:ev Sr x=dx:=by exact tdR) (hk:(tab T).k=.slice e:=by(simp<;>rfl)) (aT:(tab T').k=.slice e':=by(simp<;>rfl)) (he:A0 (tab e).k=false:=by simp) (hsz:(tab e).size=sz:=by simp)
  (h1:ev Sr s=r.d es.length:=by first|with_unfolding_all rfl|(simp[ev,getD,List.lookup];done))
  (hb:(es.length+new.length)*(tab e).bytes<=140737488355328:=by first|(simp;done)|(simp;omega)) (hm2:es.length+new.length<=9223372036854775807:=by first|(simp;done)|(simp;omega)) (aj:decide (t<n)=true:=by exact tdR) :
  DOps prog ro n ops Q (⟨some t,(cA s x T T'),ty,pos,after,none⟩::rest) ⟨γ,O,df⟩:=by
 obtain⟨e1,e2⟩:=evs hl
 subst hx
 exact ED tabOK (by simpa using aj) hk aT he hsz (by rw[<-e1];exact h1) hm (by rw[<-e2];exact h2) hlen' bq hb hm2 fun r' U' h1 h2 h3=>by
  rcases h3 with⟨h3,_⟩|⟨i,c,cs,rfl⟩
  ·exact absurd h3 hne
  ·exact h i c cs U' h1 h2
end
theorem G0(ib:Nat)(S0:Sig)(bs:List UInt8)(n:Nat)(O:Sig)(hB:PkS ib S0 bs O)(hn:n<=10000000000)(hb:bs.length<=1000000):DCall prog 71 [.ptr ib 0,dI n] O fun x U'=>x=.ret (.tup [])/\PkS ib S0 (bs++digB n) U':=by
 obtain⟨hS,h0,r0,bn,bb,bz,ba,_⟩:=hB
 refine en func71 ntmps71 ?_
 refine gz ?_
 refine Ph [0,22,23,24,25,26,27,28,29,30] (fun (m:Nat) (ds:List UInt8) (r:RW) (S2:Sig)=>((∃k,m<128 ^ k/\hiB k m++ds.reverse=digB n/\k+ds.length=11)/\m<=10000000000)/\RWAt S2 1 r (ds.map E1)/\RWK O .nil S2 r/\((∃b,ds=[b]/\r=.full [E1 b]) \/ ∃i c cs,r=.row i c cs)) (fun m ds r _=>[(1,dI m),(4,r.d (ds.map E1).length)]) (fun _ _ _ S2=>S2) (fun m _ _ _=>m) (n / 128) ([UInt8.ofNat (n % 128)]) (.full [E1 (UInt8.ofNat (n % 128))]) (O) (by exact⟨⟨⟨10,by omega,rfl,rfl⟩,by omega⟩,⟨rfl,by simp⟩,RWK.refl _ _,.inl ⟨_,rfl,rfl⟩⟩) (fun m ds r S2 hI=>?_)
 obtain⟨⟨⟨k,bA,aF,ci⟩,cd⟩,hR,hK,hF⟩:=hI
 by_cases hm:0<m
 ·have hw:IntKind.u8.wrap (IntKind.i64.wrap ((m:Int).tmod 128+128))=((UInt8.ofNat (128+m % 128)).toNat:Int):=by
   have e:(m:Int).tmod 128=((m % 128:Nat):Int):=by rw[Int.tmod_eq_emod_of_nonneg (by omega)];rfl
   rw[e,NZ (by omega),Ir,Ay (by omega) (by omega)];omega
  obtain⟨k,rfl⟩:∃k',k=k'+1:=by
   cases k with
   |zero=>simp at bA;omega
   |succ k=>exact⟨k,rfl⟩
  rw[hiB,if_neg (by omega)]at aF
  obtain⟨y,hy⟩:∃y,UInt8.ofNat (128+m % 128)=y:=⟨_,rfl⟩
  rw[hy]at hw aF
  refine gz ?_
  simp only[hw]
  refine xapp (new:=[[.int .u8 (y.toNat:Int)]]) (fun i c cs S3 aH bi=>?_) hR (h1:=by simp)
  have ar:RWAt S3 1 (.row i c cs) ((ds++[y]).map E1):=by rw[List.map_append];exact aH
  refine gz ?_
  exact⟨m / 128,ds++[y],.row i c cs,S3,⟨⟨⟨k,by rw[Nat.pow_succ]at bA;omega,by rw[List.reverse_append];simpa[List.append_assoc] using aF,by simp;omega⟩,by omega⟩,ar,hK.trans bi,.inr ⟨_,_,_,rfl⟩⟩,td1,wkR⟩
 ·obtain rfl:m=0:=by omega
  have be:ds.reverse=digB n:=by rw[<-aF];cases k<;>simp[hiB]
  have cn:(digB n).length<=11:=by rw[<-be];simp;omega
  rcases hF with⟨b,rfl,rfl⟩|⟨i,c,cs,rfl⟩
  ·have hd:[b]=digB n:=be
   refine gz ?_
   refine A4 (PH (.int .u8 (b.toNat:Int)) S2) (fun d S3 hr=>?_) (fun d S3 hr=>by cases hr.1)
   obtain⟨br,rfl⟩:=hr
   cases br
   have ap:S3 ib=some (.cells [r0.d (bs.map E1).length]):=(hK ib _ bn id).1
   have aH:RWAt S3 1 r0 (bs.map E1):=bb.keep fun j o hj _=>(hK j o hj id).1
   refine gf ap ?_
   refine xappN (new:=(digB n).map E1) (fun j c' cs' S4 ar aI=>?_) aH (I2 (d:=.slice [E1 b] .clip) (by rw[<-hd];rfl) (by simp)) (by simp[digB]) (fun x hx=>by obtain⟨b,_,rfl⟩:=List.mem_map.1 hx;rfl) (fun x hx=>by obtain⟨b,_,rfl⟩:=List.mem_map.1 hx;rfl) (h1:=by simp) (hb:=by simp;omega) (hm2:=by simp;omega)
   have ah:=aI ib _ ap bz
   rw[<-List.map_append]at ar
   have ag:S4 ib=some (.cells [r0.d bs.length]):=by rw[ah.1];simp
   refine gf ag ?_
   refine EW (U':=S4.set ib (.cells [.sref j 0 (bs++digB n).length c'])) ⟨rfl,?_,h0,.row j c' cs',?_,?_,?_,?_,.inr ⟨_,_,_,rfl⟩⟩ (hZ:=by simp;exact Sub.refl _)
   ·exact fun x o hx=>by rw[w7 _ _ (fun e=>by rw[e,h0]at hx;cases hx)];exact(aI x o (hK x o (hS x o hx) id).1 (fun ay=>by rw[ba x ay]at hx;cases hx)).1
   ·rw[w6];simp
   ·exact ar.keep fun x o hx hj=>by rw[w7 _ _ (fun e=>by subst e;exact ah.2 hj)];exact hx
   ·exact ah.2
   ·exact fun x hx=>by cases h:S0 x with|none=>rfl|some o=>exact absurd hx (aI x o (hK x o (hS x o h) id).1 (fun ay=>by rw[ba x ay]at h;cases h)).2
  ·obtain⟨q1,q2,q3,q4⟩:=hR
   rw[G6]at q1
   rw[List.length_map]at q3
   have bc:∀j o,O j=some o->j≠i:=fun j o hj e=>(hK j o hj id).2 e
   have hne:=bc ib _ bn
   refine gz ?_
   refine A4 (T6 ds cs i c S2 (by omega) q3 q1) (fun d S3 hr=>?_) (fun d S3 hr=>by cases hr.1)
   obtain⟨br,aJ⟩:=hr
   cases br
   rw[be]at aJ
   have bm:JX prog S3 1 (.sref i 0 ds.length c) ((digB n).map E1):=by
    have e:ds.length=((digB n).map E1).length:=by rw[<-be];simp
    rw[e]
    refine L6 (pre:=[]) (rest:=cs) (by rw[aJ,w6,G6];rfl) rfl (fun x hx=>by obtain⟨b,_,rfl⟩:=List.mem_map.1 hx;rfl) (by rw[<-e];exact q3)
   have ap:S3 ib=some (.cells [r0.d (bs.map E1).length]):=by rw[aJ,w7 _ _ hne];exact(hK ib _ bn id).1
   have aH:RWAt S3 1 r0 (bs.map E1):=bb.keep fun j o hj _=>by rw[aJ,w7 _ _ (bc j _ hj)];exact(hK j o hj id).1
   refine gf ap ?_
   refine xappN (new:=(digB n).map E1) (fun j c' cs' S4 ar aI=>?_) aH (bm) (by simp[digB]) (fun x hx=>by obtain⟨b,_,rfl⟩:=List.mem_map.1 hx;rfl) (fun x hx=>by obtain⟨b,_,rfl⟩:=List.mem_map.1 hx;rfl) (h1:=by simp) (hb:=by simp;omega) (hm2:=by simp;omega)
   have ah:=aI ib _ ap bz
   rw[<-List.map_append]at ar
   have ag:S4 ib=some (.cells [r0.d bs.length]):=by rw[ah.1];simp
   refine gf ag ?_
   refine EW (U':=S4.set ib (.cells [.sref j 0 (bs++digB n).length c'])) ⟨rfl,?_,h0,.row j c' cs',?_,?_,?_,?_,.inr ⟨_,_,_,rfl⟩⟩ (hZ:=by simp;exact Sub.refl _)
   ·exact fun x o hx=>by rw[w7 _ _ (fun e=>by rw[e,h0]at hx;cases hx)];exact(aI x o (by rw[aJ,w7 _ _ (bc x _ (hS x o hx))];exact(hK x o (hS x o hx) id).1) (fun ay=>by rw[ba x ay]at hx;cases hx)).1
   ·rw[w6];simp
   ·exact ar.keep fun x o hx hj=>by rw[w7 _ _ (fun e=>by subst e;exact ah.2 hj)];exact hx
   ·exact ah.2
   ·exact fun x hx=>by cases h:S0 x with|none=>rfl|some o=>exact absurd hx (aI x o (by rw[aJ,w7 _ _ (bc x _ (hS x o h))];exact(hK x o (hS x o h) id).1) (fun ay=>by rw[ba x ay]at h;cases h)).2
theorem PkS.put{ib:Nat}{S0 O S4:Sig}{bs new:List UInt8}{r:RW}{j c:Nat}{cs:List D}(hS:Sub S0 O)(h0:S0 ib=none)(h1:O ib=some (.cells [r.d (bs.map E1).length]))(h3:¬r.is ib)(h4:∀j,r.is j->S0 j=none)(hR:RWAt S4 1 (.row j c cs) ((bs++new).map E1))(hK:RWK O r S4 (.row j c cs)):PkS ib S0 (bs++new) (S4.set ib (.cells [.sref j 0 (bs++new).length c])):=by
 have aq:=hK ib _ h1 h3
 have aF:∀x o,S0 x=some o->S4 x=some o /\ ¬(RW.row j c cs).is x:=fun x o hx=>hK x o (hS x o hx) fun h=>by rw[h4 x h]at hx;cases hx
 refine⟨fun x o hx=>?_,h0,.row j c cs,?_,?_,aq.2,fun x hx=>?_,.inr ⟨_,_,_,rfl⟩⟩
 ·rw[w7 _ _ (fun e=>by rw[e,h0]at hx;cases hx)];exact(aF x o hx).1
 ·rw[w6];simp
 ·exact hR.keep fun x o hx hj=>by rw[w7 _ _ (fun e=>by subst e;exact aq.2 hj)];exact hx
 ·cases h:S0 x with
  |none=>rfl
  |some o=>exact absurd hx (aF x o h).2
section
variable {ro:Ro}{n:Nat}{ops:Array Oper}{N:Nat}{S0:Sig}{Q:DX->St->Prop}{df:List DDf}{rest:List Oper}{γ Sr:List (Nat×D)}{O:Sig}{t:Nat}{ty:TypeId}{pos:String}{after:Array Edge}{d:D}
theorem moXappF{T T' e e' sz:Nat}{s x:Operand}{es new:List (List D)}{r:RW}{l:List (Bool×Oper)}(h:∀U',Sub S0 U'->MO prog ro n ops N S0 Q df l ((t,.slice (es++new) .no)::γ) U')(hC:∀j o,S0 j=some o->O j=some o /\ ¬r.is j)(hm:RWAt O sz r es:=by assumption)
  (hl:A1 γ (A7 [s,x])=some Sr:=by exact tdR) (hk:(tab T).k=.slice e:=by(simp<;>rfl)) (aT:(tab T').k=.slice e':=by(simp<;>rfl)) (he:A0 (tab e).k=false:=by simp) (hsz:(tab e).size=sz:=by simp)
  (h1:ev Sr s=r.d es.length:=by first|with_unfolding_all rfl|(simp[ev,getD,List.lookup];done)) (h2:esOf (ev Sr x)=some new:=by(simp<;>with_unfolding_all rfl))
  (hlen':∀c∈new,c.length=sz:=by first|exact C2 _|exact Dq _|exact BJ _|simp) (bq:∀c∈new,BS c=true:=by simp[cI,cS,cII,BS,D.flat])
  (hb:(es.length+new.length)*(tab e).bytes<=140737488355328:=by first|(simp;done)|(simp;omega)) (hm2:es.length+new.length<=9223372036854775807:=by first|(simp;done)|(simp;omega)) (aj:decide (t<n)=true:=by exact tdR) :
  MO prog ro n ops N S0 Q df ((true,⟨some t,(cA s x T T'),ty,pos,after,none⟩)::l) γ O:=
 mo1 (fun U2 hx=>by
  obtain⟨e1,e2⟩:=HX hl hx
  refine ED tabOK (by simpa using aj) hk aT he hsz (by rw[e1];exact h1) hm (by rw[e2];exact I2 h2 hlen') hlen' bq hb hm2 (fun r' U' h' hK _=>?_)
  obtain⟨S'',hw,bT⟩:=Gk (P:=prog) (n:=n) (γ:=(t,r'.d (es.length+new.length))::U2) (df:=df) (t:=t) h' (by simp[getD,List.lookup])
  have hS:Sub S0 S'':=fun j o hj=>by
   obtain⟨q1,q2⟩:=hC j o hj
   obtain⟨q3,q4⟩:=hK j o q1 q2
   exact bT j o q3 q4
  refine C7 hw (Aw ⟨rfl,?_⟩)
  simp only[A3,if_true]
  exact⟨hS,h S'' hS⟩) aj
theorem moQStr{T T' e:Nat}{x:Operand}{s:List UInt8}{ef:Bool}{l:List (Bool×Oper)}(h:MO prog ro n ops N S0 Q df l ((t,.str s)::γ) O)(hl:A1 γ (A7 [x])=some Sr:=by exact tdR)(hk:(tab T).k=.slice e:=by(simp<;>rfl))(aT:(tab T').k=.str:=by(simp<;>rfl))(bV:(tab e).k=.int .u8:=by(simp<;>rfl))
  (h1:esOf (ev Sr x)=some (s.map fun b=>[D.int .u8 (b.toNat:Int)])) (aj:decide (t<n)=true:=by exact tdR) :
  MO prog ro n ops N S0 Q df ((ef,⟨some t,.convert T T' x,ty,pos,after,none⟩)::l) γ O:=by
 have aC:∀y∈(Op.convert T T' x).operands,ev (only (Oper.looksAt ops ⟨some t,.convert T T' x,ty,pos,after,none⟩) γ) y=ev γ y:=fun y hy=>AR (o:=⟨some t,.convert T T' x,ty,pos,after,none⟩) hy
 have hx:∀y∈[x],ev Sr y=ev γ y:=fun y hy=>Be fun t ht=>Au hl t (AB (by rw[<-ht];exact hy))
 refine Oc (.str s) aj rfl (by rw[Ak];rfl) (fun U' cr ro' df'=>?_) h
 refine VJ tabOK (Aw ⟨rfl,?_⟩) (by rw[Ak];rfl) (by simpa using aj) hk aT bV (by rw[aC x (by simp[Op.operands]),<-hx x (by simp)];exact h1)
 simp only[A3,if_true]
 exact⟨trivial,Sub.refl _⟩
end
theorem Vr(c:CProg)(O:Sig)(h1:c.ins.length<=1073741824)(h2:c.starts.length<=1073741824):DCall prog 36 [.agg (cCPg c)] O (rS (if Ew c then .tup [.str (JE c),dI 0] else .tup [.str [],dI 2]) O):=by
 refine en func36 ntmps36 ?_
 repeat' first|refine gz ?_ o36 [4]|apply gy<;>intro hh
 ·refine fin2 (U':=O) ⟨by rw[hh];rfl,rfl⟩
 ·have hp:=hh
  unfold Ew at hp
  simp only[Bool.and_eq_true,decide_eq_true_eq]at hp
  obtain⟨c1,c2,c3,c4,c5⟩:=hp
  have hT:=U7 hh
  have hm:0<=c.main/\c.main<=1000000000:=by unfold farN at c3;simpa using c3
  refine newV (fun ib aq=>?_)
  refine gz ?_ o36 [4]
  have aO:PkS ib O [199] (O.set ib (.cells [.slice [[.int .u8 199]] .clip])):=⟨(Sub.refl _).set aq,aq,.full [E1 199],w6 .., ⟨rfl,by simp⟩,id,fun _ h=>h.elim,.inl (by simp)⟩
  try simp only[w8]
  generalize O.set ib (.cells [.slice [[.int .u8 199]] .clip])=S1 at aO⊢
  have aQ:JE c=rawB c++[sumB (rawB c) 0]:=rfl
  have bR:=congrArg List.length aQ
  rw[List.length_append,List.length_singleton]at bR
  have hr:rawB c=[199]++(digB c.starts.length++(listB (fun n:Int=>digB n.toNat) c.starts++(digB c.main.toNat++(digB c.ins.length++listB insB c.ins)))):=rfl
  have bb:=congrArg List.length hr
  simp only[List.length_append,List.length_singleton]at bb
  refine A4 (G0 ib O [199] c.starts.length S1 aO (by omega) (by simp)) (fun d S2 hr=>?_) (fun d S2 hr=>by cases hr.1)
  obtain⟨hd,hB⟩:=hr
  cases hd
  refine gz ?_ o36 [4]
  refine Gb [1,2,3,4,8,18,19,27,28,29,30,31,32,33,34,35,36,37,38,39,40,41,42,43,44,45,46,47,48,49,50,51,52,53,54,55,56,57,58,59,60,61,62,63,64,65,66,67,68,69,70] (fun (k:Nat) (bs:List UInt8) (S2:Sig)=>k<=c.starts.length/\PkS ib O bs S2/\bs++(listB (fun n:Int=>digB n.toNat) (c.starts.drop k)++(digB c.main.toNat++(digB c.ins.length++listB insB c.ins)))=rawB c) (fun k _ _=>[(20,dI k)]) (fun _ _ S2=>S2) (fun k _ _=>c.starts.length-k) (0) ([199]++digB c.starts.length) (S2) (by exact⟨by omega,hB,by rw[hr];simp⟩) (fun k bs S2 hI=>?_)
  clear hB aO
  obtain⟨hk,hB,hE⟩:=hI
  have aG:=congrArg List.length hE
  rw[List.length_append]at aG
  by_cases ae:k<c.starts.length
  ·rw[A5 ae,listB]at hE
   have hn:=List.all_eq_true.1 c4 _ (List.getElem_mem ae)
   unfold farN at hn
   simp only[decide_eq_true_eq]at hn
   obtain⟨w,hw⟩:∃w:Nat,c.starts[k]=(w:Int):=⟨c.starts[k].toNat,by omega⟩
   rw[hw]at hn hE
   refine gf hw ?_ o36 [4]
   refine A4 (G0 ib O bs w S2 hB (by omega) (by omega)) (fun d S3 hr=>?_) (fun d S3 hr=>by cases hr.1)
   obtain⟨hd,ak⟩:=hr
   cases hd
   refine gz ?_ o36 [4]
   exact⟨k+1,_,_,⟨by omega,ak,by simpa[List.append_assoc] using hE⟩,td1,wkR⟩
  ·rw [A9 ae,listB,List.nil_append] at hE
   obtain⟨w,hw⟩:∃w:Nat,c.main=(w:Int):=⟨c.main.toNat,by omega⟩
   rw[hw]at hm hE
   refine gf hw ?_ o36 [4]
   refine A4 (G0 ib O bs w S2 hB (by omega) (by omega)) (fun d S3 hr=>?_) (fun d S3 hr=>by cases hr.1)
   obtain⟨hd,ak⟩:=hr
   cases hd
   have bu:=congrArg List.length hE
   simp only[List.length_append,Int.toNat_natCast]at bu
   refine gz ?_ o36 [4]
   refine A4 (G0 ib O (bs++digB w) c.ins.length S3 ak (by omega) (by simp;omega)) (fun d S4 hr=>?_) (fun d S4 hr=>by cases hr.1)
   obtain⟨hd,ax⟩:=hr
   cases hd
   refine gz ?_ o36 [4]
   refine Gb [2,3,4,35,36,65,66,67,68,69,70] (fun (k:Nat) (bs:List UInt8) (S2:Sig)=>k<=c.ins.length/\PkS ib O bs S2/\bs++listB insB (c.ins.drop k)=rawB c) (fun k _ _=>[(37,dI k)]) (fun _ _ S2=>S2) (fun k _ _=>c.ins.length-k) (0) (bs++digB w++digB c.ins.length) (S4) (by exact⟨by omega,ax,by simpa[List.append_assoc] using hE⟩) (fun k bs S2 hI=>?_)
   clear hB ak ax hE
   obtain⟨hk,hB,hE⟩:=hI
   have aG:=congrArg List.length hE
   rw[List.length_append]at aG
   by_cases ae:k<c.ins.length
   ·rw [A5 ae,listB] at hE
    have hI:=List.all_eq_true.1 c5 _ (List.getElem_mem ae)
    unfold F5 at hI
    simp only[Bool.and_eq_true,decide_eq_true_eq]at hI
    obtain⟨⟨bX,au⟩,ac⟩:=hI
    obtain⟨w,hw⟩:∃w:Nat,c.ins[k].op=(w:Int):=⟨c.ins[k].op.toNat,by omega⟩
    obtain⟨hS,h0,r,q1,q2,q3,q4,q5⟩:=hB
    obtain⟨y,hy⟩:∃y,UInt8.ofNat c.ins[k].op.toNat=y:=⟨_,rfl⟩
    have bN:IntKind.u8.wrap c.ins[k].op=(y.toNat:Int):=by rw[<-hy,hw,Ir,NZ (by omega)];omega
    have bt : -1000000000<=c.ins[k].a/\c.ins[k].a<=1000000000/\(c.ins[k].a<0->hasA c.ins[k].op=true):=by
     split at ac
     ·rename_i hA
      refine⟨?_,?_,fun _=>hA⟩<;>split at ac
      ·unfold inB at ac;simp at ac;omega
      ·unfold farN at ac;simp at ac;omega
      ·unfold inB at ac;simp at ac;omega
      ·unfold farN at ac;simp at ac;omega
     ·simp at ac;omega
    obtain⟨a1,a2,a3⟩:=bt
    refine gf q1 ?_ o36 [4]
    simp only[bN]
    refine xapp (new:=[[.int .u8 (y.toNat:Int)]]) (fun j c' cs' S3 aH bi=>?_) q2 (h1:=by simp)
    have aq:=bi ib _ q1 q3
    have ar:RWAt S3 1 (.row j c' cs') ((bs++[y]).map E1):=by rw[List.map_append];exact aH
    have hP:=PkS.put hS h0 q1 q3 q4 ar bi
    have ag:S3 ib=some (.cells [r.d bs.length]):=by rw[aq.1];simp
    simp only[List.length_append,List.length_singleton]at hP
    by_cases aD:c.ins[k].a<0
    ·obtain⟨v,hv⟩:∃v:Nat, -2*c.ins[k].a-1=(v:Int):=⟨(-2*c.ins[k].a-1).toNat,by omega⟩
     have aU:insB c.ins[k]=y::digB v:=by
      unfold insB Ru;rw[hy,if_pos (a3 aD),if_pos aD,hv];rfl
     rw[aU]at hE
     refine gf ag ?_ o36 [4]
     simp only[hv]
     refine A4 (G0 ib O (bs++[y]) v _ hP (by omega) (by simp;omega)) (fun d S4 hr=>?_) (fun d S4 hr=>by cases hr.1)
     obtain⟨hd,ax⟩:=hr
     cases hd
     refine gz ?_ o36 [4]
     exact⟨k+1,_,_,⟨by omega,ax,by simpa[List.append_assoc] using hE⟩,td1,wkR⟩
    ·obtain⟨v,hv⟩:∃v:Nat,2*c.ins[k].a=(v:Int):=⟨(2*c.ins[k].a).toNat,by omega⟩
     by_cases hA:hasA c.ins[k].op=true
     ·have aU:insB c.ins[k]=y::digB v:=by
       unfold insB Ru;rw[hy,if_pos hA,if_neg aD,hv];rfl
      rw[aU]at hE
      refine gf (gi ag hA) ?_ o36 [4]
      simp only[hv]
      refine A4 (G0 ib O (bs++[y]) v _ hP (by omega) (by simp;omega)) (fun d S4 hr=>?_) (fun d S4 hr=>by cases hr.1)
      obtain⟨hd,ax⟩:=hr
      cases hd
      refine gz ?_ o36 [4]
      exact⟨k+1,_,_,⟨by omega,ax,by simpa[List.append_assoc] using hE⟩,td1,wkR⟩
     ·have aU:insB c.ins[k]=[y]:=by
       unfold insB;rw[hy,if_neg hA]
      rw[aU]at hE
      refine gf (gi ag hA) ?_ o36 [4]
      exact⟨k+1,_,_,⟨by omega,hP,by simpa[List.append_assoc] using hE⟩,td1,wkR⟩
   ·refine gz ?_ [] [4]
    rw[A9 ae,listB,List.append_nil]at hE
    subst hE
    obtain⟨hS,h0,r,q1,q2,q3,q4,q5⟩:=hB
    refine Fx (id:=21) [0,1,2,3,4,5,6,7] [2,4] (S2.out r.is) (D2 _ _) ?_
    have q1':=E9 (touch:=r.is) q1 q3
    have q6:∃i c cs,r=.row i c cs:=by
     rcases q5 with q5|q5
     ·rw[hr]at q5
      simp[digB]at q5
     ·exact q5
    obtain⟨i,cc,cs,rfl⟩:=q6
    refine gf q1' ?_ o36 [4]
    have q7:=q2.1
    have q8:=q2.2.2.1
    rw[G6]at q7
    rw[List.length_map]at q8
    refine Bd (Vg (rawB c) i cc cs S2 (by omega) q8 q7) (fun d S3 hr=>?_) (fun d S3 hr=>by cases hr.1)
    obtain⟨hd,rfl⟩:=hr
    cases hd
    refine⟨D2 _ _,?_⟩
    refine gz ?_ o36 [4]
    refine moXappF (new:=[[.int .u8 ((sumB (rawB c) 0).toNat:Int)]]) (fun S4 b7=>?_) (fun j o h=>Ej h) q2 (h1:=by simp)
    refine moQStr (s:=JE c) ?_ (h1:=by rw[aQ,List.map_append];rfl)
    have cp:Sub O S4:=fun x o hx=>b7 x o (E9 (hS x o hx) fun h=>by rw[q4 x h]at hx;cases hx)
    refine gz ?_ o36 [4]
    refine fin2 (U':=O) ⟨by rw[hh];rfl,rfl⟩
section
variable {P:Program}{ro:Ro}{n:Nat}{ops:Array Oper}{N:Nat}{S0:Sig}{Q:DX->St->Prop}{df:List DDf}{γ Sr:List (Nat×D)}{O:Sig}{t:Nat}{ty:TypeId}{pos:String}{after:Array Edge}{l:List (Bool×Oper)}{e:Bool}
theorem mo_eqlG{tab:Nat->Ty}(ht:AP P tab){T u:Nat}{x y:Operand}{xs ys:List D}{gd:Option (Nat×Bool)}(fs:List (Nat×Nat))(r:Bool)(hE:EqTy P T)(hk:(tab T).k=.struct fs)(hd:eqFs tab xs ys fs=some r)
  (h:MO P ro n ops N S0 Q df l ((t,.bool r)::γ) O) (hw:AC ops γ ⟨some t,.binOp .eql T x y u,ty,pos,after,gd⟩=some true) (aj:decide (t<n)=true) (hl:A1 γ (A7 [x,y])=some Sr) (hx:ev Sr x=.agg xs) (hy:ev Sr y=.agg ys):MO P ro n ops N S0 Q df ((e,⟨some t,.binOp .eql T x y u,ty,pos,after,gd⟩)::l) γ O:=by
 have hc:∀z∈[x,y],ev Sr z=ev γ z:=fun z hz=>Be fun t ht=>Au hl t (AB (by rw[<-ht];exact hz))
 have aC:∀z∈[x,y],ev (only (Oper.looksAt ops ⟨some t,.binOp .eql T x y u,ty,pos,after,gd⟩) γ) z=ev γ z:=fun z hz=>AR (o:=⟨some t,.binOp .eql T x y u,ty,pos,after,gd⟩) (by simp at hz;rcases hz with rfl|rfl<;>simp[Op.operands])
 refine .inl ⟨.bool r,⟨aj,.inl ⟨by rw[Ak];exact hw,(fun c e=>by cases e),Ae (fun c e=>by cases e),fun U' hZ g w a hs hT=>?_⟩⟩,h⟩
 have:=Hi (dst:=some t) (ty:=ty) (pos:=pos) (after:=after) (guard:=gd) (u:=u) ht hs hT hE hk (by rw[aC x (by simp),<-hc x (by simp)];exact hx) (by rw[aC y (by simp),<-hc y (by simp)];exact hy) hd false
 simpa using this
end
theorem Vl(O:Sig):DCall prog 56 [] O (rS (.agg (Ad exB)) O):=by
 refine en func56 ntmps56 ?_
 refine gz ?_ [] [0]
 refine newV (fun i hi=>?_)
 refine gz ?_ [] [0]
 have e:Ad exB=[sl [[sl [],sl [[dI 0]],sl [[dI 0,dI 7]]],[sl [[dI 3]],sl [[dI 1]],sl []],[sl [[dI 4],[dI 3]],sl [],sl [[dI 0,dI 1]]]],dI 2,sl [[dI 1]],sl [[dI 1,dI 0,dI 2,dI 0,sl [],dI 3,dI 0,sl [],dI 0],[dI 2,dI 0,dI 3,dI 0,sl [[dI 0]],dI 0,dI 5,sl [],dI 3]],sl [[dI 17,dI 0,sl [[dI 1]]],[dI 4,dI 0,sl [[dI 2]]],[dI 3,dI 0,sl []],[dI 9,dI 0,sl [[dI 4],[dI 5]]],[dI 3,dI 0,sl []],[dI 3,dI 1,sl []],[dI 5,dI 0,sl [[dI 7]]],[dI 6,dI 5,sl []]],dI 6]:=by
  simp[exB,cI,Ef,Fact.op,Fact.arg,Fact.path,Fact.cls,Fact.n,Fact.kids]
 refine finC (U':=O) ⟨rfl,rfl⟩ (hw:=?_)
 rw[e]
 refine Nh ?_
 repeat' (first|exact Ab _|exact An _ (.inl rfl)|exact trivial|refine K1 _ ?_|refine⟨?_,?_⟩)
@[reducible,instance] def a56:=fun O=>ah0 (@Vl O)
theorem Vy(O:Sig):EI prog 16 [] O (rS (.bool true) O):=by
 have w3:exB.wt<=1073741824:=by decide +kernel
 have bP:(By exB exC).isSome=true:=by
  have h:=Tx
  cases e:By exB exC with
  |none=>rw[e]at h;cases h
  |some W=>rfl
 have bM:=fun O:Sig=>Vx exB O w3
 have aY:=fun O:Sig=>Oz exB exC O w3 (by decide) (by decide)
 have bI:=fun O:Sig=>Vr exC O (by decide) (by decide)
 have bH:=fun O:Sig=>Vq exC O (by decide) (by decide)
 rw[ex_code,VA]at bM
 rw[Tx,bP]at aY
 rw[Vz]at bI bH
 have i18:∀O,Ans 18 [.agg (Ad exB)] O True (.tup [.agg (cCPg exC),dI 0]):=fun O=>ah0 (bM O)
 have i25:∀O,Ans 25 [.agg (Ad exB),.agg (cCPg exC)] O True (.tup [sl (exL.map cLev),dI 0]):=fun O=>ah0 (aY O)
 have i36:∀O,Ans 36 [.agg (cCPg exC)] O True (.tup [.str (JE exC),dI 0]):=fun O=>ah0 (bI O)
 refine enW func16 ntmps16 ?_
 refine gz ?_ o16
 refine Ee (bH O) (fun d S1 hr=>?_) (fun d S1 hr=>by cases hr.1)
 obtain⟨hd,rfl⟩:=hr
 cases hd
 refine gf (gi Tw (gi OD Wg)) ?_ o16
 refine neqS _ (decide ((⟨0,2⟩:CLev)=⟨0,2⟩)) MK Ma (TC ⟨0,2⟩ ⟨0,2⟩) ?_
 refine gf (gi Tw (gi OD Wg)) ?_ o16
 have g1:=fun O:Sig=>Jr exB exC [] 9 [] [] .no O w3 (by decide) (by decide) (by decide) (by simp) (by decide) (by decide)
 have g2:=fun (o:Own) (O:Sig)=>Jr exB exC [⟨5,[vInt 1,EL]⟩] 0 [] [vObj 0] o O w3 (by decide) (by decide) (by decide) (by simp) (by decide) (by decide)
 have g3:=fun O:Sig=>Jr exB exC [] 0 [] [vInt 3] .no O w3 (by decide) (by decide) (by decide) (by simp) (by decide) (by decide)
 rw[ex_go1]at g1
 rw[ex_go2]at g2
 rw[ex_go3]at g3
 have e1:F3 exH1=[dI 2,dI 0,dI 0,dI 0,sl [[dI 3,dI 0]],dI 0,dI 11,sl [],sl [],sl [[dI 5,sl [[dI 1,dI 1],[dI 2,dI 0]]]],sl []]:=rfl
 have e2:F3 exH2=[dI 1,dI 1,dI 1,dI 0,sl [],dI 0,dI 0,sl [],sl [],sl [[dI 5,sl [[dI 1,dI 1],[dI 2,dI 0]]]],sl [[dI 2,dI 0,.slice [[dI 1,dI 1]] .clip]]]:=rfl
 have e3:F3 exH3=[dI 4,dI 0,dI 0,dI 0,sl [],dI 5,dI 0,sl [],sl [],sl [],sl []]:=rfl
 simp only[Option.getD_some,Option.isSome_some,if_true,e1]at g1
 simp only[Option.getD_some,Option.isSome_some,if_true,e2]at g2
 simp only[Option.getD_some,Option.isSome_some,if_true,e3]at g3
 have b9:=fun (O:Sig)=>Vm [vObj 0] [vObj 0] .no .clip O (by decide) (by decide)
 have aX:∀O,DCall prog 53 [sl [[dI 3,dI 0]],.slice [[dI 3,dI 0]] .clip] O (rS (.bool true) O):=fun O=>(b9 O).mono fun x U' ⟨h1,h2⟩=>⟨by rw[h1];simp,h2⟩
 refine rtl 73 (.agg (cFr 9 [] [])) ?_ (hw:=FN ⟨Ab _,An _ (.inl rfl),An _ (.inl rfl),trivial⟩)
 refine U0 (g1 S1) (fun d S2 hr=>?_) (fun d S2 hr=>by cases hr.1)
 obtain⟨hd,rfl⟩:=hr
 cases hd
 repeat' first|refine gz ?_|refine CR (aX _) ?_|refine callPG (aX _) ?_|refine gz ?_ o16|apply gy<;>intro hh
 refine rtl 111 (.agg (cFr 0 [] [vObj 0])) ?_ (hw:=FN ⟨Ab _,An _ (.inl rfl),Ab _,trivial⟩)
 refine U0 (g2 .no S2) (fun d S3 hr=>?_) (fun d S3 hr=>by cases hr.1)
 obtain⟨hd,rfl⟩:=hr
 cases hd
 have g3':∀O,DCall prog 13 [.agg (Ad exB),.agg (cCPg exC),.nils,.agg [dI 0,.nils,.slice [[dI 1,dI 3]] .clip]] O (rS (.tup [.agg [dI 4,dI 0,dI 0,dI 0,sl [],dI 5,dI 0,sl [],sl [],sl [],sl []],dI 0]) O):=fun O=>(g3 O).wk ⟨Ab _,Ab _,An _ (.inl rfl),FN ⟨Ab _,An _ (.inl rfl),BY _ _,trivial⟩,trivial⟩
 refine gz ?_ (delO 12 o16)
 refine mix (id:=12) [0,1,2,3,4,5,6,7,8,9,10,11] [9,10] ?_
 refine gz ?_ o16
 refine moQWR (fun U' _=>(OA 3 U').mono fun x S'' hx=>⟨hx.1,hx.2 ▸ Sub.refl _⟩) ?_
 refine gz ?_ o16
 refine moQWR (fun U' _=>(g3' U').mono fun x S'' hx=>⟨hx.1,hx.2 ▸ Sub.refl _⟩) ?_
 refine gz ?_ o16
 refine IX (fun i12 bp=>?_)
 have aZ:Sub S3 ((S3.set i12 (.cells [.int .i64 0,.int .i64 0,.int .i64 0,.int .i64 0,.nils,.int .i64 0,.int .i64 0,.nils,.nils,.nils,.nils])).set i12 (.cells [dI 4,dI 0,dI 0,dI 0,sl [],dI 5,dI 0,sl [],sl [],sl [],sl []])):=fun j o hj=>by
  have:=B9 hj bp
  rw[w7 _ _ this,w7 _ _ this];exact hj
 refine DM tabOK tdR (by simp;rfl) aZ ?_
 simp only[w8]
 refine gz ?_ o16
 refine mo_eqlG tabOK _ (decide (vInt 1=vInt 1)) OE Ok (VC (vInt 1) (vInt 1)) ?_ tdR tdR tdR tdR tdR
 refine gz ?_ o16
 exact fin1 (U':=S3) ⟨rfl,rfl⟩
theorem Vs(a b:List CLev)(o o':Own)(O:Sig)(h1:a.length<=1073741824)(h2:b.length<=1073741824):DCall prog 35 [.slice (a.map cLev) o,.slice (b.map cLev) o'] O (rS (.bool (decide (a=b))) O):=by
 refine en func35 ntmps35 ?_
 by_cases hc:a.length=b.length
 ·refine gf hc ?_ o35
  refine BV [0,1] (fun (k:Nat)=>k<=a.length /\ ∀j (h1:j<a.length) (h2:j<b.length),j<k->a[j]=b[j]) (fun k=>[(5,dI k)]) (fun _=>O) (fun k=>a.length-k) (0) (by exact⟨by omega,fun j _ _ h=>by omega⟩) (fun k hI=>?_)
  obtain⟨hk,hE⟩:=hI
  by_cases ae:k<a.length
  ·have cg:k<b.length:=by omega
   refine gf hc ?_ o35
   refine IW (r:=decide (a[k]=b[k])) (xs:=cLev a[k]) (ys:=cLev b[k]) tabOK MK rfl rfl rfl rfl Ma (TC _ _) ?_
   by_cases hx:a[k]=b[k]
   ·refine gf hx ?_ o35
    exact⟨k+1,⟨by omega,fun j h1 h2 h3=>by by_cases e:j=k;(subst e;exact hx);exact hE j h1 h2 (by omega)⟩,td1,wkR⟩
   ·have hne:¬a=b:=fun e=>hx (by simp[e])
    refine gf hx ?_ o35
    exact fe1 hne
  ·have b6:a=b:=List.ext_getElem hc fun j h1 h2=>hE j h1 h2 (by omega)
   refine gz ?_ o35
   exact fin1 (U':=O) ⟨by rw[decide_eq_true b6],rfl⟩
 ·have hne:¬a=b:=fun e=>hc (by rw[e])
  refine gz ?_ o35
  exact fe1 hne
section
variable {P:Program}{ro:Ro}{n N:Nat}{ops:Array Oper}{Q:DX->St->Prop}{df:List DDf}{γ Sr:List (Nat×D)}{O S0:Sig}{ty:TypeId}{pos:String}{after:Array Edge}
theorem UF{fop:Operand}{args:Array Operand}{ats:Array TypeId}{f:Nat}{first cap us bs:List D}{R:DE->Sig->Prop}{dst:Option Tmp}{guard:Option (Nat×Bool)}{l:List (Bool×Oper)}
  (hw:AC ops γ ⟨dst,(cv fop args ats),ty,pos,after,guard⟩=some true)
  (hl:A1 γ (A7 (fop::args.toList))=some Sr) (hf:ev Sr fop=.func (.func f) first cap) (ha:first++args.toList.map (ev Sr)++cap=us) (hb:bs=us\/bs=us.map D.plain) (h:DCallR P ro f bs O R)
  (ho:At n ⟨dst,(cv fop args ats),ty,pos,after,guard⟩=true)
  (aA:∀d U',R (.ret d) U'->Sub S0 U'/\MO P ro n ops N S0 Q df l (putD dst d γ) U')
  (aB:∀d U',R (.panic d) U'->∀V',Q (.panic d) ⟨V',U',df⟩) :
  MO P ro n ops N S0 Q df ((true,⟨dst,(cv fop args ats),ty,pos,after,guard⟩)::l) γ O:=by
 have hx:∀x∈fop::args.toList,ev Sr x=ev γ x:=fun x hx=>Be fun t ht=>Au hl t (AB (by rw[<-ht];exact hx))
 have aC:∀x∈((cv fop args ats)).operands,ev (only (Oper.looksAt ops ⟨dst,(cv fop args ats),ty,pos,after,guard⟩) γ) x=ev γ x:=fun x hx=>AR (o:=⟨dst,(cv fop args ats),ty,pos,after,guard⟩) hx
 refine .inr ⟨rfl,ho,by rw[Ak];exact hw,?_⟩
 refine HP (first:=first) (cap:=cap) (f:=f) (R:=R) ?_ ?_ (h.wk ?_) ho ?_ ?_
 ·show AC ops (only _ γ) _=some true
  rw[Ak];exact hw
 ·rw[aC fop (by simp[Op.operands,Call.operands]),<-hx fop (by simp)];exact hf
 ·rw[show args.toList.map (ev (only (Oper.looksAt ops ⟨dst,(cv fop args ats),ty,pos,after,guard⟩) γ))=args.toList.map (ev Sr) from List.map_congr_left fun x hm=>by
   rw[aC x (by simp at hm;simp[Op.operands,Call.operands,hm]),<-hx x (by simp[hm])],ha]
  rcases hb with rfl|rfl
  ·exact D7 _
  ·exact CK _
 ·intro d U' hR
  obtain⟨h1,h2⟩:=aA d U' hR
  refine Aw ⟨rfl,?_⟩
  cases dst with
  |none=>exact⟨h1,h2⟩
  |some t=>simp only[putD,A3,if_true];exact⟨h1,h2⟩
 ·intro d U' hR
  exact⟨rfl,aB d U' hR⟩
theorem QT{fop:Operand}{args:Array Operand}{ats:Array TypeId}{f:Nat}{first cap us bs:List D}{R:DE->Sig->Prop}{dst:Option Tmp}{j:Nat}{want:Bool}{k:Nat}{l:List (Bool×Oper)}(h:DCallR P ro f bs O R)(aA:∀d U',R (.ret d) U'->Sub S0 U'/\MO P ro n ops N S0 Q df l (putD dst d γ) U')(aB:∀d U',R (.panic d) U'->∀V',Q (.panic d) ⟨V',U',df⟩)(hk:(ops[j]?).bind (·.dst)=some k:=by exact tdR)(hb:γ.lookup k=some (.bool want):=by exact tdR)(hl:A1 γ (A7 (fop::args.toList))=some Sr:=by exact tdR)(hf:ev Sr fop=.func (.func f) first cap:=by exact tdR)(ha:first++args.toList.map (ev Sr)++cap=us:=by exact td0)(hp:bs=us\/bs=us.map D.plain:=by first|exact .inl tdR|exact .inr tdR)
  (ho:At n ⟨dst,(cv fop args ats),ty,pos,after,some (j,want)⟩=true:=by exact tdR):MO P ro n ops N S0 Q df ((true,⟨dst,(cv fop args ats),ty,pos,after,some (j,want)⟩)::l) γ O:=
 UF (by simp only[AC,CX hk hb];simp) hl hf ha hp h ho aA aB
end
theorem f8_spec(p:BProg)(c:CProg)(O:Sig)(hp:p.wt<=1073741824)(bh:c.ins.length<=1073741824)(bf:c.starts.length<=1073741824):EI prog 8 [.agg (Ad p),.agg (cCPg c)] O fun x _=>x=.ret (.bool true):=by
 have aR:=Gz p c
 have bQ:(AQ p c).isSome=(By p c).isSome:=by rw[aR];cases By p c<;>rfl
 have aS:((AQ p c).getD []).length<=c.ins.length:=by
  rw[aR]
  cases By p c with
  |none=>simp
  |some W=>simp[Ea]
 have aY:=fun O:Sig=>Oz p c O hp bh bf
 have ca:=fun O:Sig=>Vv p c O hp bh bf
 have bL:=fun O:Sig=>Vu p c O hp bh bf
 have bK:=fun O:Sig=>Vt p c O hp bh bf
 rw[<-aR]at aY
 rw[bQ]at bL bK
 generalize (AQ p c).getD []=lv at*
 generalize (if(By p c).isSome then(0:Int) else 2)=e at*
 have bJ:=fun O:Sig=>Vs lv lv .no .no O (by omega) (by omega)
 rw[decide_eq_true (rfl:lv=lv)]at bJ
 refine enW func8 ntmps8 ?_
 have i25:∀O,Ans 25 [.agg (Ad p),.agg (cCPg c)] O True (.tup [sl (lv.map cLev),dI e]):=fun O=>ah0 (aY O)
 refine gz ?_ o8
 refine A4 (bL _) (fun d S1 hr=>?_) (fun d S1 hr=>by cases hr.2)
 obtain⟨cq,hd⟩:=hr
 cases hd
 have i32:∀O,Ans 32 [.agg (Ad p),.agg (cCPg c)] O True (dI e):=fun O=>ah0 (ca O)
 have i35:∀O,Ans 35 [sl (lv.map cLev),sl (lv.map cLev)] O True (.bool true):=fun O=>ah0 (bJ O)
 refine gz ?_
 refine mix (id:=3) [0,1,3,4,2,5,6,7,8,9,10,11,12,13,14,15,16,17,18,19,20] [2,5,10,18] ?_
 refine gz ?_ o8
 refine Bd (bK _) (fun d S2 hr=>?_) (fun d S2 hr=>by cases hr.2)
 obtain⟨bF,hd⟩:=hr
 cases hd
 refine⟨bF,?_⟩
 refine gz ?_ o8
 refine QT (Vy S2) (fun d S3 hr=>?_) (fun d S3 hr=>by cases hr.1)
 obtain⟨hd,rfl⟩:=hr
 cases hd
 refine⟨bF,?_⟩
 refine gz ?_ o8
 exact fin1 (U':=S3) rfl (hZ:=Sub.refl _)
end Go.DL
