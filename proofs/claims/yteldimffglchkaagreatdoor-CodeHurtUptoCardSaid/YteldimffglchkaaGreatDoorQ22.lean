/- A part of the proof. -/
import Derived.Test.YteldimffglchkaaGreatDoorQ21
import Derived.Test.YteldimffglchkaaGreatDoorQ14
import Derived.Test.YteldimffglchkaaGreatDoorQ10
import Derived.Test.YteldimffglchkaaGreatDoorQ20
import Derived.Test.YteldimffglchkaaGreatDoorQ19
import Derived.Test.YteldimffglchkaaGreatDoorQ09
set_option linter.all false
namespace Go.DL
open Go.Proofs.Tryz
open Go Go.Proofs
set_option maxHeartbeats 8000000
theorem nn2{O:Sig}{a b:Nat}{o:DObj}(h:O a=some o)(k:O b=none):a≠b:=fun e=>by rw[e,k]at h;cases h
theorem Mg:prog.globals.size≠0:=by
 have h:prog.globals.size=8:=by kernel_rfl
 omega
theorem Ka(n:Int)(O:Sig)(h0 : -9223372036854775808<=n)(h1:n<=9223372036854775807):E0 prog 84 [dI n] O (rS (.str (Lib.itoa n)) O):=by
 refine⟨by rw[Af];decide,BA func84 (by rfl) (by rfl),fun g w vs r hr hs ha=>?_⟩
 obtain rfl:r=_:=hr
 obtain⟨v,r,rfl,hv,rfl⟩:=ha
 obtain rfl:v=.int .i64 n:=hv
 have bd : Lib.TabIs prog w "internal/strconv.uint64pow10" .u64 Lib.pow10Tab := by
  rcases hs.tab w hs.keep with h|⟨h,_⟩
  ·exact absurd h Mg
  ·exact h
 refine(D2 (strconv_Itoa n h0 h1 w bd)).mono ?_
 rintro e w' ⟨rfl,k,os,rfl⟩
 refine⟨g,.ret (.str (Lib.itoa n)),O,.refl g,?_,⟨_,rfl,rfl⟩,rfl,rfl⟩
 refine hs.later (fun k x hx=>?_) rfl
 have hk:k<w.heap.size:=(Array.getElem?_eq_some_iff.1 hx).1
 show(w.heap++os)[k]? = some x
 rw[Array.getElem?_append_left hk];exact hx
theorem M0{w:Go.World}{b:Nat}{vs:Array Value}{ty:TypeId}{x:Value}(h:w.heap[b]? = some (.cells vs ty (0,0))):w.setCell ⟨b,0,none⟩ x=setB w b (.cells (vs.setIfInBounds 0 x) ty (0,0)):=by
 have e:w.heap.setIfInBounds b (.cells (vs.setIfInBounds 0 x) ty (0,0))=(w.setCell ⟨b,0,none⟩ x).heap:=by
  unfold World.setCell
  apply Array.ext_getElem?
  intro k
  by_cases hk:b=k
  ·subst hk
   have hb:b<w.heap.size:=(Array.getElem?_eq_some_iff.1 h).1
   rw[Array.getElem?_setIfInBounds_self_of_lt hb,Array.getElem?_modify,if_pos rfl,h];rfl
  ·simp[Array.getElem?_modify,hk]
 unfold setB
 rw[e];rfl
theorem Ol(ib:Nat)(v:D)(O:Sig)(h:O ib=some (.tcells 159 [.nilp,v])):E0 prog 161 [.ptr ib 0] O fun x U'=>x=.ret (.tup [])/\U'=O.set ib (.cells [.ptr ib 0,v]):=by
 refine⟨by rw[Af];decide,BA func161 (by rfl) (by rfl),fun g w vs r hr hs ha=>?_⟩
 obtain rfl:r=_:=hr
 obtain⟨pv,r,rfl,⟨b,hb,rfl⟩,rfl⟩:=ha
 obtain⟨b',vs,aw,aa,am⟩:=hs.obj ib _ h
 obtain rfl:b'=b:=by rw[hb]at aw;cases aw;rfl
 obtain⟨v0,r0,aN,h0,v1,r1,rfl,h1,rfl⟩:=am
 obtain rfl:v0=.pointer none:=h0
 obtain rfl:vs=#[.pointer none,v1]:=by apply Array.ext';simpa using aN
 refine(D2 (Im b' w (by simp[World.cell?, aa]) (by simp[World.shape?, aa]) (by simp[World.frozen?, aa]))).mono ?_
 rintro e w' ⟨rfl,rfl⟩
 refine⟨g,.ret (.tup []),_,.refl g,?_,⟨_,rfl,[],rfl,rfl⟩,rfl,rfl⟩
 rw[M0 aa]
 refine hs.setAny h rfl rfl hb aa ⟨b',_,159,hb,DC aa,?_⟩
 exact⟨_,_,rfl,⟨b',hb,rfl⟩,_,_,rfl,h1,rfl⟩
theorem Ok(ib:Nat)(v:D)(O:Sig)(h:O ib=some (.cells [.ptr ib 0,v])):E0 prog 161 [.ptr ib 0] O (rS (.tup []) O):=by
 refine⟨by rw[Af];decide,BA func161 (by rfl) (by rfl),fun g w vs r hr hs ha=>?_⟩
 obtain rfl:r=_:=hr
 obtain⟨pv,r,rfl,⟨b,hb,rfl⟩,rfl⟩:=ha
 obtain⟨b',vs,ty,aw,aa,am⟩:=hs.obj ib _ h
 obtain rfl:b'=b:=by rw[hb]at aw;cases aw;rfl
 obtain⟨v0,r0,aN,⟨b2,a8,rfl⟩,v1,r1,rfl,h1,rfl⟩:=am
 obtain rfl:b2=b':=by rw[hb]at a8;cases a8;rfl
 obtain rfl:vs=#[.pointer (some ⟨b2,0,none⟩),v1]:=by apply Array.ext';simpa using aN
 refine(D2 (IK b2 w (by simp[World.cell?, aa]))).mono ?_
 rintro e w' ⟨rfl,rfl⟩
 exact⟨g,.ret (.tup []),_,.refl g,hs,⟨_,rfl,[],rfl,rfl⟩,rfl,rfl⟩
def BldS(ib:Nat)(S0:Sig)(bs:List UInt8)(O:Sig):Prop:=
 Sub S0 O/\S0 ib=none/\((bs=[]/\O ib=some (.tcells 159 [.nilp,.nils])) \/ ∃r:BR,O ib=some (.cells [.ptr ib 0,r.d bs.length])/\BRAt 5 O r bs /\ ¬r.is ib /\ ∀j,r.is j->S0 j=none)
theorem BRAt.set{e:Nat}{O:Sig}{r:BR}{bs:List UInt8}(h:BRAt e O r bs){i:Nat}{o:DObj}(hi:¬r.is i):BRAt e (O.set i o) r bs:=by
 rcases r with _|⟨k,c,cs⟩
 ·exact h
 ·exact⟨by rw[w7 _ _ fun e=>hi e.symm];exact h.1,h.2⟩
theorem bapp{ro:Ro}{n:Nat}{ops:Array Oper}{Q:DX->St->Prop}{df:List DDf}{rest:List Oper}{γ Sr:Fr}{O:Sig}{t:Nat}{ty:TypeId}{pos:String}{after:Array Edge}{s x:Operand}{bs str:List UInt8}{r:BR}
  (h:∀r' U',BRAt 5 U' r' (bs++str)->(∀j o,O j=some o->¬r.is j->U' j=some o /\ ¬r'.is j)->DOps prog ro n ops Q rest ⟨(t,r'.d (bs++str).length)::γ,U',df⟩) (hm:BRAt 5 O r bs) (hb:bs.length+str.length<=140737488355328)
  (hl:A0 γ (A4 [s,x])=some Sr:=by exact tdR) (h1:ev Sr s=r.d bs.length:=by exact tdR) (h2:ev Sr x=.str str:=by exact tdR) (aj:decide (t<n)=true:=by exact tdR) :
  DOps prog ro n ops Q (⟨some t,.call { callee:=.builtin .append,args:= #[s,x],argTypes:= #[96,9] },ty,pos,after,none⟩::rest) ⟨γ,O,df⟩:=by
 obtain⟨e1,e2⟩:=evs hl
 exact RE Ab (by simpa using aj) (by simp<;>rfl) (by simp<;>rfl) (by simp) (by simp) (by simp) (by rw[<-e1];exact h1) hm (by rw[<-e2];exact h2) hb h
theorem Eh(ib:Nat)(S0:Sig)(bs s:List UInt8)(O:Sig)(hB:BldS ib S0 bs O)(hb:bs.length+s.length<=1000000000):E0 prog 83 [.ptr ib 0,.str s] O fun x U'=>x=.ret (.tup [dI s.length,.niliface])/\BldS ib S0 (bs++s) U':=by
 obtain⟨hS,h0,hB⟩:=hB
 refine enW func83 ntmps83 ?_
 rcases hB with⟨rfl,h1⟩|⟨r,h1,h2,h3,h4⟩
 ·refine gz ?_
  refine Dy (Ol ib _ O h1) (fun d S1 hr=>?_) (fun d S1 hr=>by cases hr.1)
  obtain⟨hd,rfl⟩:=hr
  cases hd
  have u1:(O.set ib (.cells [.ptr ib 0,.nils])) ib=some (.cells [.ptr ib 0,.nils]):=w6 ..
  refine gf u1 ?_
  refine bapp (bs:=[]) (str:=s) (r:=none) (fun r' U2 k1 k2=>?_) rfl (by simp at hb⊢; omega)
  obtain⟨u2,u3⟩:=k2 _ _ u1 id
  have ai:BldS ib S0 ([]++s) (U2.set ib (.cells [.ptr ib 0,r'.d ([]++s).length])):=by
   refine⟨fun j o hj=>?_,h0,.inr ⟨r',w6 ..,?_,u3,fun j hj=>?_⟩⟩
   ·have aK:j≠ib:=nn2 hj h0
    rw[w7 _ _ aK]
    exact(k2 j o (by rw[w7 _ _ aK];exact hS j o hj) id).1
   ·exact k1.set u3
   ·cases aL:S0 j with
    |none=>rfl
    |some o=>exact absurd hj (k2 j o (by rw[w7 _ _ (nn2 aL h0)];exact hS j o aL) id).2
  rcases r' with _|⟨i,c,cs⟩<;>simp only[BR.d]at ai⊢
  ·refine gf u2 ?_
   exact T5 (U':=_) ⟨rfl,ai⟩
  ·refine gf u2 ?_
   exact T5 (U':=_) ⟨rfl,ai⟩
 ·refine gz ?_
  refine Dy (Ok ib _ O h1) (fun d S1 hr=>?_) (fun d S1 hr=>by cases hr.1)
  obtain⟨hd,rfl⟩:=hr
  cases hd
  refine gf h1 ?_
  refine bapp (bs:=bs) (str:=s) (r:=r) (fun r' U2 k1 k2=>?_) h2 (by omega)
  obtain⟨u2,u3⟩:=k2 _ _ h1 h3
  have ai:BldS ib S0 (bs++s) (U2.set ib (.cells [.ptr ib 0,r'.d (bs++s).length])):=by
   refine⟨fun j o hj=>?_,h0,.inr ⟨r',w6 ..,?_,u3,fun j hj=>?_⟩⟩
   ·have aK:j≠ib:=nn2 hj h0
    rw[w7 _ _ aK]
    exact(k2 j o (hS j o hj) fun h=>by rw[h4 j h]at hj;cases hj).1
   ·exact k1.set u3
   ·cases aL:S0 j with
    |none=>rfl
    |some o=>exact absurd hj (k2 j o (hS j o aL) fun h=>by rw[h4 j h]at aL;cases aL).2
  rcases r' with _|⟨i,c,cs⟩<;>simp only[BR.d]at ai⊢
  ·refine gf u2 ?_
   exact T5 (U':=_) ⟨rfl,ai⟩
  ·refine gf u2 ?_
   exact T5 (U':=_) ⟨rfl,ai⟩
theorem O8{w:Go.World}{b n:Nat}{vs:Array Value}{ty:TypeId}(h:w.heap[b]? = some (.cells vs ty (0,0)))(hn:n≠0):w.freeze ⟨b,0,none⟩ n=setB w b (.cells vs ty (0,0+n)):=by
 have e:w.heap.setIfInBounds b (.cells vs ty (0,0+n))=(w.freeze ⟨b,0,none⟩ n).heap:=by
  unfold World.freeze
  rw[if_neg hn]
  apply Array.ext_getElem?
  intro k
  by_cases hk:b=k
  ·subst hk
   have hb:b<w.heap.size:=(Array.getElem?_eq_some_iff.1 h).1
   rw[Array.getElem?_setIfInBounds_self_of_lt hb,Array.getElem?_modify,if_pos rfl,h];rfl
  ·simp[Array.getElem?_modify,hk]
 unfold setB
 rw[e]
 unfold World.freeze
 rw[if_neg hn]
theorem T8(ib:Nat)(S0:Sig)(bs:List UInt8)(O:Sig)(hB:BldS ib S0 bs O)(hne:bs≠[])(hb:bs.length<=1000000000):E0 prog 86 [.ptr ib 0] O (rS (.str bs) S0):=by
 obtain⟨hS,h0,hB⟩:=hB
 rcases hB with⟨rfl,_⟩|⟨r,h1,h2,h3,h4⟩
 ·exact absurd rfl hne
 rcases r with _|⟨i,c,cs⟩
 ·exact absurd h2 hne
 obtain⟨h5,h6⟩:=h2
 refine⟨by rw[Af];decide,BA func86 (by rfl) (by rfl),fun g w vs r hr hs ha=>?_⟩
 obtain rfl:r=_:=hr
 obtain⟨pv,r,rfl,⟨b,bE,rfl⟩,rfl⟩:=ha
 obtain⟨b',vs,ty,aw,aa,am⟩:=hs.obj ib _ h1
 obtain rfl:b'=b:=by rw[bE]at aw;cases aw;rfl
 obtain⟨v0,r0,aN,_,v1,r1,rfl,⟨bg,bw,rfl⟩,rfl⟩:=am
 obtain rfl:vs=#[v0,.slice (some ⟨bg,0,none⟩) bs.length c]:=by apply Array.ext';simpa using aN
 obtain⟨bg',vg,aS,aY,bu⟩:=hs.obj i _ h5
 obtain rfl:bg'=bg:=by rw[bw]at aS;cases aS;rfl
 have bG:=RepL.length bu
 simp only[Array.length_toList,List.length_append,List.length_map]at bG
 refine(D2 (IM b' bg' c v0 ty bs vg w hne aa aY (by omega) (by omega) (by omega) fun j x hj=>?_)).mono ?_
 ·have hg:=RepL.get bu j
  have bK:=(List.getElem?_eq_some_iff.1 hj).1
  rw[List.getElem?_append_left (by simpa using bK),List.getElem?_map,hj]at hg
  simp only[Option.map_some,Array.getElem?_toList]at hg
  have bt:j<vg.size:=by omega
  rw[Array.getElem?_eq_getElem bt]at hg
  simp only[World.cell?, aY]
  rw[Array.getElem?_eq_getElem bt]
  exact congrArg some hg
 ·rintro e w' ⟨rfl,rfl⟩
  have hl:bs.length≠0:=by simpa using hne
  refine⟨g,.ret (.str bs),S0,.refl g,?_,⟨_,rfl,rfl⟩,rfl,rfl⟩
  rw[O8 (w:=w.drew) aY hl]
  refine(hs.drew.kill h5 rfl bw (x:=.cells vg 5 (0,0)) aY).sub fun j o hj=>?_
  have aK:j≠i:=fun e=>by rw[e,h4 i rfl]at hj;cases hj
  simp only[Sig.del,aK,if_false]
  exact hS j o hj
theorem newT{ro:Ro}{n:Nat}{ops:Array Oper}{Q:DX->St->Prop}{df:List DDf}{rest:List Oper}{γ:Fr}{O:Sig}{t T:Nat}{ty:TypeId}{pos:String}{after:Array Edge}(h:∀i,O i=none->DOps prog ro n ops Q rest ⟨(t,.ptr i 0)::γ,O.set i (.tcells T (tab T).zero),df⟩)(hk:A1 (tab T).k=false:=by simp)(aj:decide (t<n)=true:=by exact tdR):
  DOps prog ro n ops Q (⟨some t,.alloc T,ty,pos,after,none⟩::rest) ⟨γ,O,df⟩:=Mv Ab hk (by simpa using aj) h
@[simp] theorem cIns_tk(x:CIns):List.take 2 (cIns x)=cIns x:=rfl
@[simp] theorem cIns_mem(x:CIns)(d:D):(d∈cIns x)=(d=dI x.op\/d=dI x.a):=by simp[cIns]
theorem Tl(c:CProg)(O:Sig)(h1:c.ins.length<=1073741824)(h2:c.starts.length<=1073741824):E0 prog 40 [.agg (cCPg c)] O (rS (if CG c then .tup [.str (Kx c),dI 0] else .tup [.str [],dI 2]) O):=by
 have aR:∀l:List Int,l.all farN=true->∀n∈l,0<=n/\n<=1000000000:=fun l h n hn=>by have:=List.all_eq_true.1 h n hn;unfold farN at this;simpa using this
 refine enW func40 ntmps40 ?_
 repeat' first|refine gz ?_ o40|apply gy<;>intro hh
 ·refine fin2 (U':=O) ⟨by rw[hh];rfl,rfl⟩
 ·have hp:=hh
  unfold CG at hp
  simp only[Bool.and_eq_true,decide_eq_true_eq]at hp
  obtain⟨c1,c2,c3,c4,c5⟩:=hp
  have hT:=Si hh
  have hm:0<=c.main/\c.main<=1000000000:=by unfold farN at c3;simpa using c3
  have bc:Kx c=O1 c++10::listB (fun l=>l++[10]) (c.ins.map Fd):=by unfold Kx;rw[listB,List.append_assoc];rfl
  have bX:(O1 c).length=(listB (fun n=>Lib.itoa n++[32]) c.starts).length+2+(Lib.itoa c.main).length:=by unfold O1;simp;omega
  have bB:=congrArg List.length bc
  rw[List.length_append,List.length_cons]at bB
  refine newT (fun ib aq=>?_)
  have aM:BldS ib O [] (O.set ib (.tcells 159 (tab 159).zero)):=⟨(Sub.refl _).set aq,aq,.inl ⟨rfl,w6 ..⟩⟩
  generalize O.set ib (.tcells 159 (tab 159).zero)=S1 at aM
  refine gz ?_ o40
  refine Fw [1,2,3,4,8,13,14,24,25,26,27,28,29,30,31,32,33,34,35,36,37,38,39,40,41,42,43,44,45,46,47,48,49,50,51,52,53,54] (fun (k:Nat) (bs:List UInt8) (U2:Sig)=>k<=c.starts.length/\BldS ib O bs U2/\bs++listB (fun n=>Lib.itoa n++[32]) (c.starts.drop k)=listB (fun n=>Lib.itoa n++[32]) c.starts) (fun k _ _=>[(15,dI k)]) (fun _ _ U2=>U2) (fun k _ _=>c.starts.length-k) (0) ([]) (S1) (by exact⟨by omega,aM,rfl⟩) (fun k bs U2 hI=>?_)
  obtain⟨hk,hB,hE⟩:=hI
  have aF:=congrArg List.length hE
  rw[List.length_append]at aF
  by_cases ae:k<c.starts.length
  ·rw[Ac ae,listB]at hE
   obtain⟨n1,n2⟩:=aR _ c4 _ (List.getElem_mem ae)
   have bZ:=PN (n:=c.starts[k]) ⟨by omega,by omega⟩
   refine gz ?_ o40
   refine Dy (Ka c.starts[k] U2 (by omega) (by omega)) (fun d S3 hr=>?_) (fun d S3 hr=>by cases hr.1)
   obtain⟨hd,rfl⟩:=hr
   cases hd
   refine gz ?_ o40
   refine Dy (Eh ib O bs (Lib.itoa c.starts[k]++[32]) _ hB (by simp;omega)) (fun d S3 hr=>?_) (fun d S3 hr=>by cases hr.1)
   obtain⟨hd,ak⟩:=hr
   cases hd
   refine gz ?_ o40
   exact⟨k+1,bs++(Lib.itoa c.starts[k]++[32]),S3,⟨by omega,ak,by rw[List.append_assoc];exact hE⟩,td1,wkR⟩
  ·rw [Ai ae,listB,List.append_nil] at hE
   refine gz ?_ o40
   refine Dy (Ka c.main U2 (by omega) (by omega)) (fun d S3 hr=>?_) (fun d S3 hr=>by cases hr.1)
   obtain⟨hd,rfl⟩:=hr
   cases hd
   refine gz ?_ o40
   refine Dy (Eh ib O bs ([58,32]++Lib.itoa c.main++[10]) _ hB (by simp;omega)) (fun d S3 hr=>?_) (fun d S3 hr=>by cases hr.1)
   obtain⟨hd,ak⟩:=hr
   cases hd
   have bx:bs++([58,32]++Lib.itoa c.main++[10])++listB (fun l=>l++[10]) (c.ins.map Fd)=Kx c:=by rw[bc];unfold O1;simp[hE]
   generalize bs++([58,32]++Lib.itoa c.main++[10])=bs3 at ak bx
   refine gz ?_ o40
   refine Fw [2,3,4,31,32,53,54] (fun (k:Nat) (bs:List UInt8) (U2:Sig)=>k<=c.ins.length/\BldS ib O bs U2/\bs++listB (fun l=>l++[10]) ((c.ins.drop k).map Fd)=Kx c) (fun k _ _=>[(33,dI k)]) (fun _ _ U2=>U2) (fun k _ _=>c.ins.length-k) (0) (bs3) (S3) (by exact⟨by omega,ak,bx⟩) (fun k bs U2 hI=>?_)
   obtain⟨hk,hB,hE⟩:=hI
   have aF:=congrArg List.length hE
   rw[List.length_append]at aF
   by_cases ae:k<c.ins.length
   ·rw[Ac ae,List.map_cons,listB]at hE
    have hI:=List.all_eq_true.1 c5 _ (List.getElem_mem ae)
    have bW:=N1 hI
    unfold El at hI
    simp only[Bool.and_eq_true,decide_eq_true_eq]at hI
    obtain⟨⟨bL,au⟩,ac⟩:=hI
    have bS:wordsC.length=21:=rfl
    have bb:Sc c.ins[k].op=wordsC[c.ins[k].op.toNat-1]'(by omega):=by unfold Sc;rw[show(c.ins[k].op-1).toNat=c.ins[k].op.toNat-1 by omega,List.getElem?_eq_getElem (by omega)];rfl
    have aX:(Fd c.ins[k]).length=(wordsC[c.ins[k].op.toNat-1]'(by omega)).length+(if hasA c.ins[k].op then 1+(Lib.itoa c.ins[k].a).length else 0):=by
     unfold Fd;rw[bb,List.length_append];split<;>simp<;>omega
    have b8:(listB (fun l=>l++[10]) (List.map Fd (List.drop k c.ins))).length=(Fd c.ins[k]).length+1+(listB (fun l=>l++[10]) (List.map Fd (List.drop (k+1) c.ins))).length:=by
     rw[Ac ae,List.map_cons,listB];simp;omega
    by_cases hA:hasA c.ins[k].op=true
    ·rw[if_pos hA]at aX ac
     have cb : -1000000000<=c.ins[k].a/\c.ins[k].a<=1000000000:=by
      split at ac
      ·unfold inB at ac;simp at ac;omega
      ·unfold farN at ac;simp at ac;omega
     have aD:Fd c.ins[k]=wordsC[c.ins[k].op.toNat-1]'(by omega)++([32]++Lib.itoa c.ins[k].a):=by unfold Fd;rw[bb,if_pos hA];rfl
     refine gz ?_ o40
     refine Dy (Eh ib O bs (wordsC[c.ins[k].op.toNat-1]'(by omega)) _ hB (by omega)) (fun d S3 hr=>?_) (fun d S3 hr=>by cases hr.1)
     obtain⟨hd,ak⟩:=hr
     cases hd
     refine gf hA ?_ o40
     refine Dy (Ka c.ins[k].a S3 (by omega) (by omega)) (fun d S4 hr=>?_) (fun d S4 hr=>by cases hr.1)
     obtain⟨hd,rfl⟩:=hr
     cases hd
     refine gz ?_ o40
     refine Dy (Eh ib O _ ([32]++Lib.itoa c.ins[k].a) _ ak (by simp;omega)) (fun d S3 hr=>?_) (fun d S3 hr=>by cases hr.1)
     obtain⟨hd,ax⟩:=hr
     cases hd
     refine gz ?_ o40
     refine Dy (Eh ib O _ [10] _ ax (by simp;omega)) (fun d S3 hr=>?_) (fun d S3 hr=>by cases hr.1)
     obtain⟨hd,bm⟩:=hr
     cases hd
     rw[aD]at hE
     refine gz ?_ o40
     exact⟨k+1,_,_,⟨by omega,bm,by simpa[List.append_assoc] using hE⟩,td1,wkR⟩
    ·rw[if_neg hA]at aX ac
     have bR:hasA c.ins[k].op=false:=by simpa using hA
     have aD:Fd c.ins[k]=wordsC[c.ins[k].op.toNat-1]'(by omega):=by unfold Fd;rw[bb,if_neg hA,List.append_nil]
     refine gz ?_ o40
     refine Dy (Eh ib O bs (wordsC[c.ins[k].op.toNat-1]'(by omega)) _ hB (by omega)) (fun d S3 hr=>?_) (fun d S3 hr=>by cases hr.1)
     obtain⟨hd,ak⟩:=hr
     cases hd
     refine gf bR ?_ o40
     refine Dy (Eh ib O _ [10] _ ak (by simp;omega)) (fun d S3 hr=>?_) (fun d S3 hr=>by cases hr.1)
     obtain⟨hd,bm⟩:=hr
     cases hd
     rw[aD]at hE
     refine gz ?_ o40
     exact⟨k+1,_,_,⟨by omega,bm,by simpa[List.append_assoc] using hE⟩,td1,wkR⟩
   ·rw[Ai ae,List.map_nil,listB,List.append_nil]at hE
    subst hE
    refine gz ?_ o40
    refine Dy (T8 ib O _ _ hB (by rw[bc];simp) (by omega)) (fun d S3 hr=>?_) (fun d S3 hr=>by cases hr.1)
    obtain⟨hd,rfl⟩:=hr
    cases hd
    refine gz ?_ o40
    refine fin2 (U':=S3) ⟨by rw[hh];rfl,rfl⟩
def rvk(l:List UInt8)(k:Nat):List UInt8:=(List.range l.length).map fun j=>if j<k\/l.length<=j+k then l.getD (l.length-1-j) 0 else l.getD j 0
@[simp] theorem rvk_len(l:List UInt8)(k:Nat):(rvk l k).length=l.length:=by simp[rvk]
theorem GE(l:List UInt8)(k j:Nat)(h:j<l.length):(rvk l k)[j]? = some (if j<k\/l.length<=j+k then l.getD (l.length-1-j) 0 else l.getD j 0):=by
 unfold rvk;rw[List.getElem?_map,List.getElem?_range h];rfl
theorem getD_some{l:List UInt8}{j:Nat}(h:j<l.length):l[j]? = some (l.getD j 0):=by rw[List.getD_eq_getElem?_getD,List.getElem?_eq_getElem h];rfl
theorem rvk_0(l:List UInt8):rvk l 0=l:=by
 refine List.ext_getElem? fun j=>?_
 by_cases h:j<l.length
 ·rw[GE l 0 j h,if_neg (by omega),getD_some h]
 ·rw[List.getElem?_eq_none (by simp;omega),List.getElem?_eq_none (by omega)]
theorem rvk_end(l:List UInt8)(k:Nat)(h:l.length<=2*k+1):rvk l k=l.reverse:=by
 refine List.ext_getElem? fun j=>?_
 by_cases hj:j<l.length
 ·rw[GE l k j hj,List.getElem?_reverse hj,getD_some (by omega)]
  by_cases h2:j<k\/l.length<=j+k
  ·rw[if_pos h2]
  ·rw[if_neg h2,show l.length-1-j=j by omega]
 ·rw[List.getElem?_eq_none (by simp;omega),List.getElem?_eq_none (by simp;omega)]
theorem rvk_set(l:List UInt8)(k:Nat)(h:2*k+1<l.length):((rvk l k).set k (l.getD (l.length-1-k) 0)).set (l.length-1-k) (l.getD k 0)=rvk l (k+1):=by
 refine List.ext_getElem? fun j=>?_
 by_cases hj:j<l.length
 ·rw[GE l _ j hj]
  by_cases h1:j=l.length-1-k
  ·subst h1
   rw[List.getElem?_set_self (by simp;omega),if_pos (by omega)]
   congr 2;omega
  ·rw[List.getElem?_set_ne (fun e=>h1 e.symm)]
   by_cases h2:j=k
   ·subst h2
    rw[List.getElem?_set_self (by simp;omega),if_pos (by omega)]
   ·rw[List.getElem?_set_ne (fun e=>h2 e.symm),GE l k j hj]
    congr 1
    by_cases h3:j<k\/l.length<=j+k
    ·rw[if_pos h3,if_pos (by omega)]
    ·rw[if_neg h3,if_neg (by omega)]
 ·rw[List.getElem?_eq_none (by simp;omega),List.getElem?_eq_none (by simp;omega)]
def byD(b:UInt8):D:=.int .u8 (b.toNat:Int)
theorem MM{α:Type}(l:List α)(k:Nat)(x:α)(h:k<l.length):l.take k++[x]++l.drop (k+1)=l.set k x:=by
 rw[List.set_eq_take_append_cons_drop,if_pos h,List.append_assoc];rfl
theorem Om(b:D)(O:Sig):DCall prog 155 [.slice [[b]] .clip] O (rS (.tup []) O):=by
 refine en func155 ntmps155 ?_
 refine gz ?_ o155
 refine CJ [0] (fun (k:Nat)=>True) (fun _=>[(2,dI 0),(3,dI 0)]) (fun _=>O) (fun _=>1) (0) (by trivial) (fun k hI=>?_)
 refine gz ?_ o155
 refine DS (U':=O) ⟨rfl,rfl⟩
theorem QW(bs:List UInt8)(rest:List D)(i cap:Nat)(O:Sig)(hn:bs.length<=1000000)(hc:bs.length<=cap)(hi:O i=some (.cells (bs.map byD++rest))):DCall prog 155 [.sref i 0 bs.length cap] O fun x U'=>x=.ret (.tup [])/\U'=O.set i (.cells (bs.reverse.map byD++rest)):=by
 refine en func155 ntmps155 ?_
 refine gz ?_ o155
 refine Db [0] (fun (k:Nat) (U2:Sig)=>k<=bs.length/\(∀j,j≠i->U2 j=O j)/\U2 i=some (.cells ((rvk bs k).map byD++rest))) (fun k _=>[(2,dI k),(3,dI ((bs.length:Int)-1-k))]) (fun _ U2=>U2) (fun k _=>bs.length-k) (0) (O) (by exact⟨Nat.zero_le _,fun _ _=>rfl,by rw[rvk_0];exact hi⟩) (fun k U2 hI=>?_)
 obtain⟨bI,hs,au⟩:=hI
 by_cases hk:2*k+1<bs.length
 ·obtain⟨L,hL⟩:∃L,L=(rvk bs k).map byD++rest:=⟨_,rfl⟩
  rw[<-hL]at au
  have aX:bs.length<=L.length:=by rw[hL];simp
  have hx:L[k]? = some (byD (bs.getD k 0)):=by rw[hL,List.getElem?_append_left (by simp;omega),List.getElem?_map,GE bs k k (by omega),if_neg (by omega)];rfl
  have hy:L[bs.length-1-k]? = some (byD (bs.getD (bs.length-1-k) 0)):=by rw[hL,List.getElem?_append_left (by simp;omega),List.getElem?_map,GE bs k _ (by omega),if_neg (by omega)];rfl
  have hE:(L.set k (byD (bs.getD (bs.length-1-k) 0))).set (bs.length-1-k) (byD (bs.getD k 0))=(rvk bs (k+1)).map byD++rest:=by
   rw[hL,List.set_append_left _ _ (by simp;omega),List.set_append_left _ _ (by simp;omega),<-List.map_set,<-List.map_set,rvk_set bs k hk]
  unfold byD at hx hy hE
  generalize (bs.getD k 0).toNat=x at*
  generalize (bs.getD (bs.length-1-k) 0).toNat=y at*
  have hX:L[k]'(by omega)=.int .u8 x:=by have:=hx;rw[List.getElem?_eq_getElem (by omega)]at this;exact Option.some.inj this
  have hY:L[bs.length-1-k]'(by omega)=.int .u8 y:=by have:=hy;rw[List.getElem?_eq_getElem (by omega)]at this;exact Option.some.inj this
  have bp:=MM L k (.int .u8 y) (by omega)
  have bn:=MM (L.set k (.int .u8 y)) (bs.length-1-k) (.int .u8 x) (by simp;omega)
  simp only[List.append_assoc,List.singleton_append]at bp bn
  have bN:¬L.length<k+1:=by omega
  have bM:¬L.length<bs.length-1-k+1:=by omega
  refine gz ?_
  refine mixK (id:=3) [0,1,2,3,4,5,6,7,8,9,10,11,12,13,14,15] [13,15] [7,11] [13,15] U2 (Sub.refl _) ?_
  refine k4R (.sref i 0 bs.length cap) ?_
  refine k4R (dI k) ?_
  refine k4R (.sref i 0 bs.length cap) ?_
  refine k4R (dI ((bs.length:Int)-1-k)) ?_
  refine k4R (.sref i 0 bs.length cap) ?_
  refine k4R (dI ((bs.length:Int)-1-k)) ?_
  refine k4R (.ptr i (bs.length-1-k)) ?_ (hd:=by simp(disch:=omega);omega)
  refine k4R (.int .u8 y) ?_ (hd:=by simp[au,hy])
  refine k4R (.sref i 0 bs.length cap) ?_
  refine k4R (dI k) ?_
  refine k4R (.ptr i k) ?_ (hd:=by simp(disch:=omega);omega)
  refine k4R (.int .u8 x) ?_ (hd:=by simp[au,hx])
  refine k4R (.ptr i k) ?_ (hd:=by simp(disch:=omega);omega)
  refine k4S (d:=.any) (U':=U2.set i (.cells (L.set k (.int .u8 y)))) (fun _=>none) (fun _ _ h=>by cases h) ?_ (he:=by simp[au,bp,bN])
  refine k4R (.ptr i (bs.length-1-k)) ?_ (hd:=by simp(disch:=omega);omega)
  refine k4S (d:=.any) (U':=(U2.set i (.cells (L.set k (.int .u8 y)))).set i (.cells ((L.set k (.int .u8 y)).set (bs.length-1-k) (.int .u8 x)))) (fun _=>none) (fun _ _ h=>by cases h) ?_ (he:=by simp[bn,bM])
  refine k4N ?_
  rw[hE]
  refine gz ?_ o155
  exact⟨k+1,(U2.set i (.cells (L.set k (.int .u8 y)))).set i (.cells ((rvk bs (k+1)).map byD++rest)),⟨by omega,fun j hj=>by rw[w7 _ _ hj,w7 _ _ hj];exact hs j hj,w6 ..⟩,td1,wkR⟩
 ·refine gz ?_ o155
  refine DS (U':=U2) ⟨rfl,?_⟩
  rw[rvk_end bs k (by omega)]at au
  funext j
  by_cases hj:j=i
  ·subst hj;rw[w6,au]
  ·rw[w7 _ _ hj,hs j hj]
theorem Gt(x:Int):IntKind.u8.wrap x=x % 256:=by
 simp[IntKind.wrap,IntKind.bits,IntKind.signed]
theorem OQ(z c:UInt8):IntKind.u8.wrap (IntKind.u8.wrap (IntKind.u8.wrap (3*(z.toNat:Int))+(c.toNat:Int))+1)=((3*z+c+1).toNat:Int):=by
 rw[Gt,Gt,Gt,UInt8.toNat_add,UInt8.toNat_add,UInt8.toNat_mul]
 simp only[UInt8.reduceToNat]
 omega
theorem Tc(bs:List UInt8)(i cap:Nat)(rest:List D)(O:Sig)(hn:bs.length<=1000000)(hc:bs.length<=cap)(hi:O i=some (.cells (bs.map byD++rest))):DCall prog 73 [.sref i 0 bs.length cap] O (rS (.int .u8 ((sumB bs 0).toNat:Int)) O):=by
 refine en func73 ntmps73 ?_
 refine gz ?_
 refine Db [2,6,7,18] (fun (k:Nat) (z:UInt8)=>k<=bs.length/\sumB (bs.drop k) z=sumB bs 0) (fun k z=>[(8,dI k),(3,.int .u8 (z.toNat:Int))]) (fun _ _=>O) (fun k _=>bs.length-k) (0) (0) (by exact⟨Nat.zero_le _,rfl⟩) (fun k z hI=>?_)
 obtain⟨bI,hs⟩:=hI
 by_cases hk:k<bs.length
 ·obtain⟨L,hL⟩:∃L,L=bs.map byD++rest:=⟨_,rfl⟩
  rw[<-hL]at hi
  have aX:bs.length<=L.length:=by rw[hL];simp
  have hX:L[k]'(by omega)=.int .u8 (bs[k].toNat:Int):=by subst hL;rw[List.getElem_append_left (by simpa using hk),List.getElem_map];rfl
  rw[Ac hk,sumB]at hs
  refine gf (gi hi hX) ?_
  simp only[OQ]
  exact⟨k+1,3*z+bs[k]+1,⟨by omega,hs⟩,td1,wkR⟩
 ·rw[Ai hk,sumB]at hs
  refine gz ?_
  refine fin1 (U':=O) ⟨by rw[<-hs],rfl⟩
@[simp] theorem RW.d_row(i c n:Nat)(cs:List D):(RW.row i c cs).d n=.sref i 0 n c:=rfl
@[simp] theorem RW.d_full(es:List (List D))(n:Nat):(RW.full es).d n=.slice es .clip:=rfl
def Dk(b:UInt8):List D:=[.int .u8 (b.toNat:Int)]
@[simp] theorem byteL_len(b:UInt8):(Dk b).length=1:=rfl
theorem F7: ∀l:List UInt8,(l.map Dk).flatten=l.map byD
 |[]=>rfl
 |b::l=>by rw[List.map_cons,List.flatten_cons,F7 l];rfl
def PkS(ib:Nat)(S0:Sig)(bs:List UInt8)(O:Sig):Prop:=
 Sub S0 O/\S0 ib=none /\ ∃r:RW,O ib=some (.cells [r.d (bs.map Dk).length])/\RWAt O 1 r (bs.map Dk) /\ ¬r.is ib/\(∀j,r.is j->S0 j=none)/\(bs.length<=1 \/ ∃i c cs,r=.row i c cs)
section
variable {ro:Ro}{n:Nat}{ops:Array Oper}{N:Nat}{S0:Sig}{Q:DX->St->Prop}{df:List DDf}{rest:List Oper}{γ Sr:List (Nat×D)}{O:Sig}{t:Nat}{ty:TypeId}{pos:String}{after:Array Edge}{d:D}
theorem xappN{T T' e e' sz:Nat}{s x:Operand}{es new:List (List D)}{r:RW}(h:∀i c cs U',RWAt U' sz (.row i c cs) (es++new)->RWK O r U' (.row i c cs)->DOps prog ro n ops Q rest ⟨(t,.sref i 0 (es.length+new.length) c)::γ,U',df⟩)(hm:RWAt O sz r es){dx:D}(h2:IN prog O sz dx new)(hne:new≠[])(bi:∀c∈new,Bz c=true)
  (hlen':∀c∈new,c.length=sz)
  (hl:A0 γ (A4 [s,x])=some Sr:=by exact tdR) (hx:ev Sr x=dx:=by exact tdR) (hk:(tab T).k=.slice e:=by(simp<;>rfl)) (aP:(tab T').k=.slice e':=by(simp<;>rfl)) (he:A1 (tab e).k=false:=by simp) (hsz:(tab e).size=sz:=by simp)
  (h1:ev Sr s=r.d es.length:=by first|with_unfolding_all rfl|(simp[ev,getD,List.lookup];done))
  (hb:(es.length+new.length)*(tab e).bytes<=140737488355328:=by first|(simp;done)|(simp;omega)) (hm2:es.length+new.length<=9223372036854775807:=by first|(simp;done)|(simp;omega)) (aj:decide (t<n)=true:=by exact tdR) :
  DOps prog ro n ops Q (⟨some t,(cA s x T T'),ty,pos,after,none⟩::rest) ⟨γ,O,df⟩:=by
 obtain⟨e1,e2⟩:=evs hl
 subst hx
 exact DU Ab (by simpa using aj) hk aP he hsz (by rw[<-e1];exact h1) hm (by rw[<-e2];exact h2) hlen' bi hb hm2 fun r' U' h1 h2 h3=>by
  rcases h3 with⟨h3,_⟩|⟨i,c,cs,rfl⟩
  ·exact absurd h3 hne
  ·exact h i c cs U' h1 h2
end
theorem F2(ib:Nat)(S0:Sig)(bs:List UInt8)(n:Nat)(O:Sig)(hB:PkS ib S0 bs O)(hn:n<=10000000000)(hb:bs.length<=1000000):DCall prog 71 [.ptr ib 0,dI n] O fun x U'=>x=.ret (.tup [])/\PkS ib S0 (bs++digB n) U':=by
 obtain⟨hS,h0,r0,bf,aU,bq,aT,_⟩:=hB
 refine en func71 ntmps71 ?_
 refine gz ?_
 refine Ma [0,22,23,24,25,26,27,28,29,30] (fun (m:Nat) (ds:List UInt8) (r:RW) (U2:Sig)=>((∃k,m<128 ^ k/\hiB k m++ds.reverse=digB n/\k+ds.length=11)/\m<=10000000000)/\RWAt U2 1 r (ds.map Dk)/\RWK O .nil U2 r/\((∃b,ds=[b]/\r=.full [Dk b]) \/ ∃i c cs,r=.row i c cs)) (fun m ds r _=>[(1,dI m),(4,r.d (ds.map Dk).length)]) (fun _ _ _ U2=>U2) (fun m _ _ _=>m) (n / 128) ([UInt8.ofNat (n % 128)]) (.full [Dk (UInt8.ofNat (n % 128))]) (O) (by exact⟨⟨⟨10,by omega,rfl,rfl⟩,by omega⟩,⟨rfl,by simp⟩,RWK.refl _ _,.inl ⟨_,rfl,rfl⟩⟩) (fun m ds r U2 hI=>?_)
 obtain⟨⟨⟨k,br,aE,bY⟩,bU⟩,hR,hK,hF⟩:=hI
 by_cases hm:0<m
 ·have hw:IntKind.u8.wrap (IntKind.i64.wrap ((m:Int).tmod 128+128))=((UInt8.ofNat (128+m % 128)).toNat:Int):=by
   have e:(m:Int).tmod 128=((m % 128:Nat):Int):=by rw[Int.tmod_eq_emod_of_nonneg (by omega)];rfl
   rw[e,JM (by omega),Gt,As (by omega) (by omega)];omega
  obtain⟨k,rfl⟩:∃k',k=k'+1:=by
   cases k with
   |zero=>simp at br;omega
   |succ k=>exact⟨k,rfl⟩
  rw[hiB,if_neg (by omega)]at aE
  obtain⟨y,hy⟩:∃y,UInt8.ofNat (128+m % 128)=y:=⟨_,rfl⟩
  rw[hy]at hw aE
  refine gz ?_
  simp only[hw]
  refine xapp (new:=[[.int .u8 (y.toNat:Int)]]) (fun i c cs S3 aG ba=>?_) hR (h1:=by simp)
  have ar:RWAt S3 1 (.row i c cs) ((ds++[y]).map Dk):=by rw[List.map_append];exact aG
  refine gz ?_
  exact⟨m / 128,ds++[y],.row i c cs,S3,⟨⟨⟨k,by rw[Nat.pow_succ]at br;omega,by rw[List.reverse_append];simpa[List.append_assoc] using aE,by simp;omega⟩,by omega⟩,ar,hK.trans ba,.inr ⟨_,_,_,rfl⟩⟩,td1,wkR⟩
 ·obtain rfl:m=0:=by omega
  have aZ:ds.reverse=digB n:=by rw[<-aE];cases k<;>simp[hiB]
  have b9:(digB n).length<=11:=by rw[<-aZ];simp;omega
  rcases hF with⟨b,rfl,rfl⟩|⟨i,c,cs,rfl⟩
  ·have hd:[b]=digB n:=aZ
   refine gz ?_
   refine A3 (Om (.int .u8 (b.toNat:Int)) U2) (fun d S3 hr=>?_) (fun d S3 hr=>by cases hr.1)
   obtain⟨bj,rfl⟩:=hr
   cases bj
   have ap:S3 ib=some (.cells [r0.d (bs.map Dk).length]):=(hK ib _ bf id).1
   have aG:RWAt S3 1 r0 (bs.map Dk):=aU.keep fun j o hj _=>(hK j o hj id).1
   refine gf ap ?_
   refine xappN (new:=(digB n).map Dk) (fun j c' cs' S4 ar aH=>?_) aG (H1 (d:=.slice [Dk b] .clip) (by rw[<-hd];rfl) (by simp)) (by simp[digB]) (fun x hx=>by obtain⟨b,_,rfl⟩:=List.mem_map.1 hx;rfl) (fun x hx=>by obtain⟨b,_,rfl⟩:=List.mem_map.1 hx;rfl) (h1:=by simp) (hb:=by simp;omega) (hm2:=by simp;omega)
   have ah:=aH ib _ ap bq
   rw[<-List.map_append]at ar
   have ag:S4 ib=some (.cells [r0.d bs.length]):=by rw[ah.1];simp
   refine gf ag ?_
   refine DS (U':=S4.set ib (.cells [.sref j 0 (bs++digB n).length c'])) ⟨rfl,?_,h0,.row j c' cs',?_,?_,?_,?_,.inr ⟨_,_,_,rfl⟩⟩ (hU:=by simp;exact Sub.refl _)
   ·exact fun x o hx=>by rw[w7 _ _ (fun e=>by rw[e,h0]at hx;cases hx)];exact(aH x o (hK x o (hS x o hx) id).1 (fun ay=>by rw[aT x ay]at hx;cases hx)).1
   ·rw[w6];simp
   ·exact ar.keep fun x o hx hj=>by rw[w7 _ _ (fun e=>by subst e;exact ah.2 hj)];exact hx
   ·exact ah.2
   ·exact fun x hx=>by cases h:S0 x with|none=>rfl|some o=>exact absurd hx (aH x o (hK x o (hS x o h) id).1 (fun ay=>by rw[aT x ay]at h;cases h)).2
  ·obtain⟨q1,q2,q3,q4⟩:=hR
   rw[F7]at q1
   rw[List.length_map]at q3
   have aW:∀j o,O j=some o->j≠i:=fun j o hj e=>(hK j o hj id).2 e
   have hne:=aW ib _ bf
   refine gz ?_
   refine A3 (QW ds cs i c U2 (by omega) q3 q1) (fun d S3 hr=>?_) (fun d S3 hr=>by cases hr.1)
   obtain⟨bj,aJ⟩:=hr
   cases bj
   rw[aZ]at aJ
   have be:IN prog S3 1 (.sref i 0 ds.length c) ((digB n).map Dk):=by
    have e:ds.length=((digB n).map Dk).length:=by rw[<-aZ];simp
    rw[e]
    refine JT (pre:=[]) (rest:=cs) (by rw[aJ,w6,F7];rfl) rfl (fun x hx=>by obtain⟨b,_,rfl⟩:=List.mem_map.1 hx;rfl) (by rw[<-e];exact q3)
   have ap:S3 ib=some (.cells [r0.d (bs.map Dk).length]):=by rw[aJ,w7 _ _ hne];exact(hK ib _ bf id).1
   have aG:RWAt S3 1 r0 (bs.map Dk):=aU.keep fun j o hj _=>by rw[aJ,w7 _ _ (aW j _ hj)];exact(hK j o hj id).1
   refine gf ap ?_
   refine xappN (new:=(digB n).map Dk) (fun j c' cs' S4 ar aH=>?_) aG (be) (by simp[digB]) (fun x hx=>by obtain⟨b,_,rfl⟩:=List.mem_map.1 hx;rfl) (fun x hx=>by obtain⟨b,_,rfl⟩:=List.mem_map.1 hx;rfl) (h1:=by simp) (hb:=by simp;omega) (hm2:=by simp;omega)
   have ah:=aH ib _ ap bq
   rw[<-List.map_append]at ar
   have ag:S4 ib=some (.cells [r0.d bs.length]):=by rw[ah.1];simp
   refine gf ag ?_
   refine DS (U':=S4.set ib (.cells [.sref j 0 (bs++digB n).length c'])) ⟨rfl,?_,h0,.row j c' cs',?_,?_,?_,?_,.inr ⟨_,_,_,rfl⟩⟩ (hU:=by simp;exact Sub.refl _)
   ·exact fun x o hx=>by rw[w7 _ _ (fun e=>by rw[e,h0]at hx;cases hx)];exact(aH x o (by rw[aJ,w7 _ _ (aW x _ (hS x o hx))];exact(hK x o (hS x o hx) id).1) (fun ay=>by rw[aT x ay]at hx;cases hx)).1
   ·rw[w6];simp
   ·exact ar.keep fun x o hx hj=>by rw[w7 _ _ (fun e=>by subst e;exact ah.2 hj)];exact hx
   ·exact ah.2
   ·exact fun x hx=>by cases h:S0 x with|none=>rfl|some o=>exact absurd hx (aH x o (by rw[aJ,w7 _ _ (aW x _ (hS x o h))];exact(hK x o (hS x o h) id).1) (fun ay=>by rw[aT x ay]at h;cases h)).2
theorem PkS.put{ib:Nat}{S0 O S4:Sig}{bs new:List UInt8}{r:RW}{j c:Nat}{cs:List D}(hS:Sub S0 O)(h0:S0 ib=none)(h1:O ib=some (.cells [r.d (bs.map Dk).length]))(h3:¬r.is ib)(h4:∀j,r.is j->S0 j=none)(hR:RWAt S4 1 (.row j c cs) ((bs++new).map Dk))(hK:RWK O r S4 (.row j c cs)):PkS ib S0 (bs++new) (S4.set ib (.cells [.sref j 0 (bs++new).length c])):=by
 have aq:=hK ib _ h1 h3
 have aE:∀x o,S0 x=some o->S4 x=some o /\ ¬(RW.row j c cs).is x:=fun x o hx=>hK x o (hS x o hx) fun h=>by rw[h4 x h]at hx;cases hx
 refine⟨fun x o hx=>?_,h0,.row j c cs,?_,?_,aq.2,fun x hx=>?_,.inr ⟨_,_,_,rfl⟩⟩
 ·rw[w7 _ _ (fun e=>by rw[e,h0]at hx;cases hx)];exact(aE x o hx).1
 ·rw[w6];simp
 ·exact hR.keep fun x o hx hj=>by rw[w7 _ _ (fun e=>by subst e;exact aq.2 hj)];exact hx
 ·cases h:S0 x with
  |none=>rfl
  |some o=>exact absurd hx (aE x o h).2
section
variable {ro:Ro}{n:Nat}{ops:Array Oper}{N:Nat}{S0:Sig}{Q:DX->St->Prop}{df:List DDf}{rest:List Oper}{γ Sr:List (Nat×D)}{O:Sig}{t:Nat}{ty:TypeId}{pos:String}{after:Array Edge}{d:D}
theorem moXappF{T T' e e' sz:Nat}{s x:Operand}{es new:List (List D)}{r:RW}{l:List (Bool×Oper)}(h:∀U',Sub S0 U'->MO prog ro n ops N S0 Q df l ((t,.slice (es++new) .no)::γ) U')(hC:∀j o,S0 j=some o->O j=some o /\ ¬r.is j)(hm:RWAt O sz r es:=by assumption)
  (hl:A0 γ (A4 [s,x])=some Sr:=by exact tdR) (hk:(tab T).k=.slice e:=by(simp<;>rfl)) (aP:(tab T').k=.slice e':=by(simp<;>rfl)) (he:A1 (tab e).k=false:=by simp) (hsz:(tab e).size=sz:=by simp)
  (h1:ev Sr s=r.d es.length:=by first|with_unfolding_all rfl|(simp[ev,getD,List.lookup];done)) (h2:esOf (ev Sr x)=some new:=by(simp<;>with_unfolding_all rfl))
  (hlen':∀c∈new,c.length=sz:=by first|exact C4 _|exact DW _|exact CB _|simp) (bi:∀c∈new,Bz c=true:=by simp[cI,cS,cII,Bz,D.flat])
  (hb:(es.length+new.length)*(tab e).bytes<=140737488355328:=by first|(simp;done)|(simp;omega)) (hm2:es.length+new.length<=9223372036854775807:=by first|(simp;done)|(simp;omega)) (aj:decide (t<n)=true:=by exact tdR) :
  MO prog ro n ops N S0 Q df ((true,⟨some t,(cA s x T T'),ty,pos,after,none⟩)::l) γ O:=
 mo1 (fun V2 hx=>by
  obtain⟨e1,e2⟩:=GW hl hx
  refine DU Ab (by simpa using aj) hk aP he hsz (by rw[e1];exact h1) hm (by rw[e2];exact H1 h2 hlen') hlen' bi hb hm2 (fun r' U' h' hK _=>?_)
  obtain⟨S'',hw,bH⟩:=Ho (P:=prog) (n:=n) (γ:=(t,r'.d (es.length+new.length))::V2) (df:=df) (t:=t) h' (by simp[getD,List.lookup])
  have hS:Sub S0 S'':=fun j o hj=>by
   obtain⟨q1,q2⟩:=hC j o hj
   obtain⟨q3,q4⟩:=hK j o q1 q2
   exact bH j o q3 q4
  refine BQ hw (Av ⟨rfl,?_⟩)
  simp only[A6,if_true]
  exact⟨hS,h S'' hS⟩) aj
theorem moQStr{T T' e:Nat}{x:Operand}{s:List UInt8}{ef:Bool}{l:List (Bool×Oper)}(h:MO prog ro n ops N S0 Q df l ((t,.str s)::γ) O)(hl:A0 γ (A4 [x])=some Sr:=by exact tdR)(hk:(tab T).k=.slice e:=by(simp<;>rfl))(aP:(tab T').k=.str:=by(simp<;>rfl))(bJ:(tab e).k=.int .u8:=by(simp<;>rfl))
  (h1:esOf (ev Sr x)=some (s.map fun b=>[D.int .u8 (b.toNat:Int)])) (aj:decide (t<n)=true:=by exact tdR) :
  MO prog ro n ops N S0 Q df ((ef,⟨some t,.convert T T' x,ty,pos,after,none⟩)::l) γ O:=by
 have aV:∀y∈(Op.convert T T' x).operands,ev (only (Oper.looksAt ops ⟨some t,.convert T T' x,ty,pos,after,none⟩) γ) y=ev γ y:=fun y hy=>Bk (o:=⟨some t,.convert T T' x,ty,pos,after,none⟩) hy
 have hx:∀y∈[x],ev Sr y=ev γ y:=fun y hy=>B4 fun t ht=>At hl t (AB (by rw[<-ht];exact hy))
 refine MX (.str s) aj rfl (by rw[Aj];rfl) (fun U' ce ro' df'=>?_) h
 refine TA Ab (Av ⟨rfl,?_⟩) (by rw[Aj];rfl) (by simpa using aj) hk aP bJ (by rw[aV x (by simp[Op.operands]),<-hx x (by simp)];exact h1)
 simp only[A6,if_true]
 exact⟨trivial,Sub.refl _⟩
end
theorem Ng(c:CProg)(O:Sig)(h1:c.ins.length<=1073741824)(h2:c.starts.length<=1073741824):DCall prog 36 [.agg (cCPg c)] O (rS (if CG c then .tup [.str (Dg c),dI 0] else .tup [.str [],dI 2]) O):=by
 refine en func36 ntmps36 ?_
 repeat' first|refine gz ?_ o36 [4]|apply gy<;>intro hh
 ·refine fin2 (U':=O) ⟨by rw[hh];rfl,rfl⟩
 ·have hp:=hh
  unfold CG at hp
  simp only[Bool.and_eq_true,decide_eq_true_eq]at hp
  obtain⟨c1,c2,c3,c4,c5⟩:=hp
  have hT:=LK hh
  have hm:0<=c.main/\c.main<=1000000000:=by unfold farN at c3;simpa using c3
  refine newV (fun ib aq=>?_)
  refine gz ?_ o36 [4]
  have aM:PkS ib O [199] (O.set ib (.cells [.slice [[.int .u8 199]] .clip])):=⟨(Sub.refl _).set aq,aq,.full [Dk 199],w6 .., ⟨rfl,by simp⟩,id,fun _ h=>h.elim,.inl (by simp)⟩
  try simp only[w8]
  generalize O.set ib (.cells [.slice [[.int .u8 199]] .clip])=S1 at aM⊢
  have aO:Dg c=rawB c++[sumB (rawB c) 0]:=rfl
  have bD:=congrArg List.length aO
  rw[List.length_append,List.length_singleton]at bD
  have hr:rawB c=[199]++(digB c.starts.length++(listB (fun n:Int=>digB n.toNat) c.starts++(digB c.main.toNat++(digB c.ins.length++listB insB c.ins)))):=rfl
  have aU:=congrArg List.length hr
  simp only[List.length_append,List.length_singleton]at aU
  refine A3 (F2 ib O [199] c.starts.length S1 aM (by omega) (by simp)) (fun d U2 hr=>?_) (fun d U2 hr=>by cases hr.1)
  obtain⟨hd,hB⟩:=hr
  cases hd
  refine gz ?_ o36 [4]
  refine Fw [1,2,3,4,8,18,19,27,28,29,30,31,32,33,34,35,36,37,38,39,40,41,42,43,44,45,46,47,48,49,50,51,52,53,54,55,56,57,58,59,60,61,62,63,64,65,66,67,68,69,70] (fun (k:Nat) (bs:List UInt8) (U2:Sig)=>k<=c.starts.length/\PkS ib O bs U2/\bs++(listB (fun n:Int=>digB n.toNat) (c.starts.drop k)++(digB c.main.toNat++(digB c.ins.length++listB insB c.ins)))=rawB c) (fun k _ _=>[(20,dI k)]) (fun _ _ U2=>U2) (fun k _ _=>c.starts.length-k) (0) ([199]++digB c.starts.length) (U2) (by exact⟨by omega,hB,by rw[hr];simp⟩) (fun k bs U2 hI=>?_)
  clear hB aM
  obtain⟨hk,hB,hE⟩:=hI
  have aF:=congrArg List.length hE
  rw[List.length_append]at aF
  by_cases ae:k<c.starts.length
  ·rw[Ac ae,listB]at hE
   have hn:=List.all_eq_true.1 c4 _ (List.getElem_mem ae)
   unfold farN at hn
   simp only[decide_eq_true_eq]at hn
   obtain⟨w,hw⟩:∃w:Nat,c.starts[k]=(w:Int):=⟨c.starts[k].toNat,by omega⟩
   rw[hw]at hn hE
   refine gf hw ?_ o36 [4]
   refine A3 (F2 ib O bs w U2 hB (by omega) (by omega)) (fun d S3 hr=>?_) (fun d S3 hr=>by cases hr.1)
   obtain⟨hd,ak⟩:=hr
   cases hd
   refine gz ?_ o36 [4]
   exact⟨k+1,_,_,⟨by omega,ak,by simpa[List.append_assoc] using hE⟩,td1,wkR⟩
  ·rw [Ai ae,listB,List.nil_append] at hE
   obtain⟨w,hw⟩:∃w:Nat,c.main=(w:Int):=⟨c.main.toNat,by omega⟩
   rw[hw]at hm hE
   refine gf hw ?_ o36 [4]
   refine A3 (F2 ib O bs w U2 hB (by omega) (by omega)) (fun d S3 hr=>?_) (fun d S3 hr=>by cases hr.1)
   obtain⟨hd,ak⟩:=hr
   cases hd
   have bl:=congrArg List.length hE
   simp only[List.length_append,Int.toNat_natCast]at bl
   refine gz ?_ o36 [4]
   refine A3 (F2 ib O (bs++digB w) c.ins.length S3 ak (by omega) (by simp;omega)) (fun d S4 hr=>?_) (fun d S4 hr=>by cases hr.1)
   obtain⟨hd,ax⟩:=hr
   cases hd
   refine gz ?_ o36 [4]
   refine Fw [2,3,4,35,36,65,66,67,68,69,70] (fun (k:Nat) (bs:List UInt8) (U2:Sig)=>k<=c.ins.length/\PkS ib O bs U2/\bs++listB insB (c.ins.drop k)=rawB c) (fun k _ _=>[(37,dI k)]) (fun _ _ U2=>U2) (fun k _ _=>c.ins.length-k) (0) (bs++digB w++digB c.ins.length) (S4) (by exact⟨by omega,ax,by simpa[List.append_assoc] using hE⟩) (fun k bs U2 hI=>?_)
   clear hB ak ax hE
   obtain⟨hk,hB,hE⟩:=hI
   have aF:=congrArg List.length hE
   rw[List.length_append]at aF
   by_cases ae:k<c.ins.length
   ·rw [Ac ae,listB] at hE
    have hI:=List.all_eq_true.1 c5 _ (List.getElem_mem ae)
    unfold El at hI
    simp only[Bool.and_eq_true,decide_eq_true_eq]at hI
    obtain⟨⟨bL,au⟩,ac⟩:=hI
    obtain⟨w,hw⟩:∃w:Nat,c.ins[k].op=(w:Int):=⟨c.ins[k].op.toNat,by omega⟩
    obtain⟨hS,h0,r,q1,q2,q3,q4,q5⟩:=hB
    obtain⟨y,hy⟩:∃y,UInt8.ofNat c.ins[k].op.toNat=y:=⟨_,rfl⟩
    have bA:IntKind.u8.wrap c.ins[k].op=(y.toNat:Int):=by rw[<-hy,hw,Gt,JM (by omega)];omega
    have bk : -1000000000<=c.ins[k].a/\c.ins[k].a<=1000000000/\(c.ins[k].a<0->hasA c.ins[k].op=true):=by
     split at ac
     ·rename_i hA
      refine⟨?_,?_,fun _=>hA⟩<;>split at ac
      ·unfold inB at ac;simp at ac;omega
      ·unfold farN at ac;simp at ac;omega
      ·unfold inB at ac;simp at ac;omega
      ·unfold farN at ac;simp at ac;omega
     ·simp at ac;omega
    obtain⟨a1,a2,a3⟩:=bk
    refine gf q1 ?_ o36 [4]
    simp only[bA]
    refine xapp (new:=[[.int .u8 (y.toNat:Int)]]) (fun j c' cs' S3 aG ba=>?_) q2 (h1:=by simp)
    have aq:=ba ib _ q1 q3
    have ar:RWAt S3 1 (.row j c' cs') ((bs++[y]).map Dk):=by rw[List.map_append];exact aG
    have hP:=PkS.put hS h0 q1 q3 q4 ar ba
    have ag:S3 ib=some (.cells [r.d bs.length]):=by rw[aq.1];simp
    simp only[List.length_append,List.length_singleton]at hP
    by_cases aC:c.ins[k].a<0
    ·obtain⟨v,hv⟩:∃v:Nat, -2*c.ins[k].a-1=(v:Int):=⟨(-2*c.ins[k].a-1).toNat,by omega⟩
     have aQ:insB c.ins[k]=y::digB v:=by
      unfold insB PV;rw[hy,if_pos (a3 aC),if_pos aC,hv];rfl
     rw[aQ]at hE
     refine gf ag ?_ o36 [4]
     simp only[hv]
     refine A3 (F2 ib O (bs++[y]) v _ hP (by omega) (by simp;omega)) (fun d S4 hr=>?_) (fun d S4 hr=>by cases hr.1)
     obtain⟨hd,ax⟩:=hr
     cases hd
     refine gz ?_ o36 [4]
     exact⟨k+1,_,_,⟨by omega,ax,by simpa[List.append_assoc] using hE⟩,td1,wkR⟩
    ·obtain⟨v,hv⟩:∃v:Nat,2*c.ins[k].a=(v:Int):=⟨(2*c.ins[k].a).toNat,by omega⟩
     by_cases hA:hasA c.ins[k].op=true
     ·have aQ:insB c.ins[k]=y::digB v:=by
       unfold insB PV;rw[hy,if_pos hA,if_neg aC,hv];rfl
      rw[aQ]at hE
      refine gf (gi ag hA) ?_ o36 [4]
      simp only[hv]
      refine A3 (F2 ib O (bs++[y]) v _ hP (by omega) (by simp;omega)) (fun d S4 hr=>?_) (fun d S4 hr=>by cases hr.1)
      obtain⟨hd,ax⟩:=hr
      cases hd
      refine gz ?_ o36 [4]
      exact⟨k+1,_,_,⟨by omega,ax,by simpa[List.append_assoc] using hE⟩,td1,wkR⟩
     ·have aQ:insB c.ins[k]=[y]:=by
       unfold insB;rw[hy,if_neg hA]
      rw[aQ]at hE
      refine gf (gi ag hA) ?_ o36 [4]
      exact⟨k+1,_,_,⟨by omega,hP,by simpa[List.append_assoc] using hE⟩,td1,wkR⟩
   ·refine gz ?_ [] [4]
    rw[Ai ae,listB,List.append_nil]at hE
    subst hE
    obtain⟨hS,h0,r,q1,q2,q3,q4,q5⟩:=hB
    refine Hf (id:=21) [0,1,2,3,4,5,6,7] [2,4] (U2.out r.is) (Cm _ _) ?_
    have q1':=Da (touch:=r.is) q1 q3
    have q6:∃i c cs,r=.row i c cs:=by
     rcases q5 with q5|q5
     ·rw[hr]at q5
      simp[digB]at q5
     ·exact q5
    obtain⟨i,cc,cs,rfl⟩:=q6
    refine gf q1' ?_ o36 [4]
    have q7:=q2.1
    have q8:=q2.2.2.1
    rw[F7]at q7
    rw[List.length_map]at q8
    refine Bt (Tc (rawB c) i cc cs U2 (by omega) q8 q7) (fun d S3 hr=>?_) (fun d S3 hr=>by cases hr.1)
    obtain⟨hd,rfl⟩:=hr
    cases hd
    refine⟨Cm _ _,?_⟩
    refine gz ?_ o36 [4]
    refine moXappF (new:=[[.int .u8 ((sumB (rawB c) 0).toNat:Int)]]) (fun S4 bP=>?_) (fun j o h=>Cn h) q2 (h1:=by simp)
    refine moQStr (s:=Dg c) ?_ (h1:=by rw[aO,List.map_append];rfl)
    have cd:Sub O S4:=fun x o hx=>bP x o (Da (hS x o hx) fun h=>by rw[q4 x h]at hx;cases hx)
    refine gz ?_ o36 [4]
    refine fin2 (U':=O) ⟨by rw[hh];rfl,rfl⟩
def cB8(s:Str):List (List D):=s.map fun b=>[D.int .u8 (b.toNat:Int)]
@[simp] theorem cB8_len(l:Str):(cB8 l).length=l.length:=by simp[cB8]
theorem RU(l:Str):(cB8 l).all (fun c=>c.length==1)=true:=by simp[cB8]
@[simp] theorem cB8_cons(b:UInt8)(r:Str):cB8 (b::r)=[D.int .u8 (b.toNat:Int)]::cB8 r:=rfl
@[simp] theorem cB8_nil:cB8 []=[]:=rfl
abbrev cPk(bs:Str):DObj:=.cells [.slice (cB8 bs) .no]
theorem Ga(ib:Nat)(bs:Str)(O:Sig)(hi:O ib=some (cPk bs))(hl:bs.length<=1000000):DCall prog 79 [.ptr ib 0] O fun x U'=>match bs with
  |[]=>x=.panic unfC/\U'=O
  |b::r=>x=.ret (.int .u8 (b.toNat:Int))/\U'=O.set ib (cPk r):=by
 cases bs with
 |nil=>
  refine en func79 ntmps79 ?_
  repeat' first|((first|exact finP (U':=O) ⟨rfl,rfl⟩|(exfalso;simp at hh;done)))|refine gf hi ?_|apply gy<;>intro hh
 |cons b r=>
  have hb:=b.toNat_lt
  generalize hy:b.toNat=y at*
  refine en func79 ntmps79 ?_
  repeat' first|((exfalso;simp at hh;omega))|refine gf (gi hi (gi hy RU)) ?_|apply gy<;>intro hh
  exact fin1 (U':=O.set ib (cPk r)) ⟨by rw[hy],rfl⟩
def GrpR(ib:Nat)(bs:Str)(O:Sig)(x:DE)(U':Sig):Prop:= ∃r:Str,U'=O.set ib (cPk r)/\r.length<=bs.length/\match grpI bs with
 |none=>x=.panic unfC
 |some (n,t)=>x=.ret (dI n)/\t=r
theorem set_self{O:Sig}{i:Nat}{o:DObj}(h:O i=some o):O.set i o=O:=by
 funext j
 unfold Sig.set
 by_cases e:j=i
 ·rw[if_pos e,e,h]
 ·rw[if_neg e]
theorem G9(ib:Nat)(bs:Str)(O:Sig)(hi:O ib=some (cPk bs))(hl:bs.length<=1000000):DCall prog 80 [.ptr ib 0] O (GrpR ib bs O):=by
 have bC:Sub (O.set ib (cPk bs)) O:=by rw[set_self hi];exact Sub.refl _
 refine en func80 ntmps80 ?_
 refine gz ?_
 refine Fw [0,28,29] (fun (k:Nat) (n:Nat) (r:Str)=>k<=6/\n<128 ^ k/\r.length<=bs.length/\grpB 6 true 0 bs=grpB (6-k) (decide (k=0)) n r) (fun k n _=>[(6,dI k),(3,dI n)]) (fun _ _ r=>O.set ib (cPk r)) (fun k _ _=>6-k) (0) (0) (bs) (by exact⟨by omega,by omega,Nat.le_refl _,rfl⟩) (fun k n r hI=>?_)
 obtain⟨hk,hn,hr,hG⟩:=hI
 by_cases bh:k<6
 ·have hp:(128:Nat) ^ k<=128 ^ 5:=Nat.pow_le_pow_right (by omega) (by omega)
  have bT:n<34359738368:=by omega
  obtain⟨j,hj⟩:∃j,6-k=j+1:=⟨5-k,by omega⟩
  cases r with
  |nil=>
   refine gf bh ?_
   refine A3 (Ga ib [] (O.set ib (cPk [])) (w6 ..) (by simp)) (fun d S1 h=>by cases h.1) (fun d S1 h=>?_)
   obtain⟨h1,rfl⟩:=h
   cases h1
   refine gz ?_
   exact finP (U':=O.set ib (cPk [])) ⟨[],rfl,by simp,by unfold grpI;rw[hG,hj];rfl⟩
  | cons b t =>
   have bV:t.length<bs.length:=by rw[List.length_cons]at hr;omega
   have aI:grpB 6 true 0 bs=if(decide (k=0)&&b==128)=true then none else if b<128 then some (n*128+b.toNat % 128,t) else grpB j false (n*128+b.toNat % 128) t:=by rw[hG,hj];rfl
   have bO:(b==128)=decide (b.toNat=128):=by
    rw[Bool.eq_iff_iff,decide_eq_true_iff,beq_iff_eq,<-UInt8.toNat_inj];rfl
   have a8:(b<128) ↔ b.toNat<128:=UInt8.lt_iff_toNat_lt
   have ca:=b.toNat_lt
   have bz:=Ga ib (b::t) (O.set ib (cPk (b::t))) (w6 ..) (by omega)
   simp only[bO,a8]at aI
   simp only[w8]at bz
   generalize b.toNat=y at*
   have hm:Int.tmod (y:Int) 128=((y % 128:Nat):Int):=rfl
   have bF:(n*128+y % 128)<128 ^ (k+1):=by
    rw[Nat.pow_succ]
    generalize 128 ^ k=q at*
    omega
   refine gf bh ?_
   refine A3 bz (fun d S1 h=>?_) (fun d S1 h=>by cases h.1)
   obtain⟨h1,rfl⟩:=h
   cases h1
   by_cases c1:k=0/\y=128
   ·obtain⟨rfl,rfl⟩:=c1
    repeat' first|((exact finP (U':=O.set ib (cPk t)) ⟨t,rfl,by omega,by unfold grpI;rw[aI];rfl⟩))|refine gz ?_|apply gy<;>intro hh
   ·have e1:¬(decide (k=0)&&decide (y=128))=true:=by simpa using c1
    rw[if_neg e1]at aI
    by_cases c2:y<128
    ·rw[if_pos c2]at aI
     repeat' first|refine gf hm ?_|apply gy<;>intro hh
     all_goals exact fin1 (U':=O.set ib (cPk t)) (d':=dI ((n*128+y % 128:Nat):Int)) ⟨t,rfl,by omega,by unfold grpI;rw[aI];exact⟨rfl,rfl⟩⟩ (hw:=Ch (by simp))
    ·rw[if_neg c2]at aI
     have bQ:grpB 6 true 0 bs=grpB (6-(k+1)) (decide (k+1=0)) (n*128+y % 128) t:=by rw[aI,show 6-(k+1)=j by omega];rfl
     repeat' first|refine gf hm ?_|apply gy<;>intro hh
     all_goals exact⟨k+1,n*128+y % 128,t,⟨by omega,bF,by omega,bQ⟩,td1,wkR⟩
 ·repeat' first|((exact finP (U':=O.set ib (cPk r)) ⟨r,rfl,hr,by unfold grpI;rw[hG,show 6-k=0 by omega];rfl⟩))|refine gf bh ?_|apply gy<;>intro hh
section
variable {P:Program}{ro:Ro}{n N:Nat}{ops:Array Oper}{Q:DX->St->Prop}{df:List DDf}{γ Sr:List (Nat×D)}{O S0:Sig}{ty:TypeId}{pos:String}{after:Array Edge}
theorem SH{fop:Operand}{args:Array Operand}{ats:Array TypeId}{f:Nat}{first cap us bs:List D}{R:DE->Sig->Prop}{dst:Option Tmp}{guard:Option (Nat×Bool)}{l:List (Bool×Oper)}
  (hw:AA ops γ ⟨dst,(cv fop args ats),ty,pos,after,guard⟩=some true)
  (hl:A0 γ (A4 (fop::args.toList))=some Sr) (hf:ev Sr fop=.func (.func f) first cap) (ha:first++args.toList.map (ev Sr)++cap=us) (hb:bs=us\/bs=us.map D.plain) (h:DCallR P ro f bs O R)
  (ho:Ap n ⟨dst,(cv fop args ats),ty,pos,after,guard⟩=true)
  (aA:∀d U',R (.ret d) U'->Sub S0 U'/\MO P ro n ops N S0 Q df l (putD dst d γ) U')
  (aB:∀d U',R (.panic d) U'->∀V',Q (.panic d) ⟨V',U',df⟩) :
  MO P ro n ops N S0 Q df ((true,⟨dst,(cv fop args ats),ty,pos,after,guard⟩)::l) γ O:=by
 have hx:∀x∈fop::args.toList,ev Sr x=ev γ x:=fun x hx=>B4 fun t ht=>At hl t (AB (by rw[<-ht];exact hx))
 have aV:∀x∈((cv fop args ats)).operands,ev (only (Oper.looksAt ops ⟨dst,(cv fop args ats),ty,pos,after,guard⟩) γ) x=ev γ x:=fun x hx=>Bk (o:=⟨dst,(cv fop args ats),ty,pos,after,guard⟩) hx
 refine .inr ⟨rfl,ho,by rw[Aj];exact hw,?_⟩
 refine GR (first:=first) (cap:=cap) (f:=f) (R:=R) ?_ ?_ (h.wk ?_) ho ?_ ?_
 ·show AA ops (only _ γ) _=some true
  rw[Aj];exact hw
 ·rw[aV fop (by simp[Op.operands,Call.operands]),<-hx fop (by simp)];exact hf
 ·rw[show args.toList.map (ev (only (Oper.looksAt ops ⟨dst,(cv fop args ats),ty,pos,after,guard⟩) γ))=args.toList.map (ev Sr) from List.map_congr_left fun x hm=>by
   rw[aV x (by simp at hm;simp[Op.operands,Call.operands,hm]),<-hx x (by simp[hm])],ha]
  rcases hb with rfl|rfl
  ·exact Cf _
  ·exact Cg _
 ·intro d U' hR
  obtain⟨h1,h2⟩:=aA d U' hR
  refine Av ⟨rfl,?_⟩
  cases dst with
  |none=>exact⟨h1,h2⟩
  |some t=>simp only[putD,A6,if_true];exact⟨h1,h2⟩
 ·intro d U' hR
  exact⟨rfl,aB d U' hR⟩
theorem Px{fop:Operand}{args:Array Operand}{ats:Array TypeId}{f:Nat}{first cap us bs:List D}{R:DE->Sig->Prop}{dst:Option Tmp}{j:Nat}{want:Bool}{k:Nat}{l:List (Bool×Oper)}(h:DCallR P ro f bs O R)(aA:∀d U',R (.ret d) U'->Sub S0 U'/\MO P ro n ops N S0 Q df l (putD dst d γ) U')(aB:∀d U',R (.panic d) U'->∀V',Q (.panic d) ⟨V',U',df⟩)(hk:(ops[j]?).bind (·.dst)=some k:=by exact tdR)(hb:γ.lookup k=some (.bool want):=by exact tdR)(hl:A0 γ (A4 (fop::args.toList))=some Sr:=by exact tdR)(hf:ev Sr fop=.func (.func f) first cap:=by exact tdR)(ha:first++args.toList.map (ev Sr)++cap=us:=by exact td0)(hp:bs=us\/bs=us.map D.plain:=by first|exact .inl tdR|exact .inr tdR)
  (ho:Ap n ⟨dst,(cv fop args ats),ty,pos,after,some (j,want)⟩=true:=by exact tdR):MO P ro n ops N S0 Q df ((true,⟨dst,(cv fop args ats),ty,pos,after,some (j,want)⟩)::l) γ O:=
 SH (by simp only[AA,Ca hk hb];simp) hl hf ha hp h ho aA aB
theorem moER{op:Op}{t:Nat}{d:D}{l:List (Bool×Oper)}(h:MO prog ro n ops N S0 Q df l ((t,d)::γ) O)(hC:Sub S0 O:=by first|exact Sub.refl _|assumption)(hr:CT op=true:=by rfl)(hl:A0 γ (A4 op.operands.toList)=some Sr:=by exact tdR)(hd:dopX tab Sr O op=some d:=by first|with_unfolding_all rfl|(simp;done)|(simp;rfl))(aj:decide (t<n)=true:=by exact tdR):
  MO prog ro n ops N S0 Q df ((true,⟨some t,op,ty,pos,after,none⟩)::l) γ O:=by
 have e:dopX tab γ O op=some d:=(Ba (BY hl)) ▸ hd
 refine .inr ⟨rfl,aj,by rw[Aj];rfl,?_⟩
 refine Gm Ab hr (by rw[Aj];rfl) ((Ba (V':=γ) fun x hx=>Bk (o:=⟨some t,op,ty,pos,after,none⟩) hx).trans e) aj (Av ⟨rfl,?_⟩)
 simp only[putD,A6,if_true]
 exact⟨hC,h⟩
end
end Go.DL
