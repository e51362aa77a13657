/- A part of the proof. -/
import Derived.Test.YteldimffglchkaaGreatDoorM22
import Derived.Test.YteldimffglchkaaGreatDoorM14
import Derived.Test.YteldimffglchkaaGreatDoorM10
import Derived.Test.YteldimffglchkaaGreatDoorM20
import Derived.Test.YteldimffglchkaaGreatDoorM21
import Derived.Test.YteldimffglchkaaGreatDoorM19
set_option linter.all false
namespace Go.DL
open Go.Proofs.Tryz
open Go Go.Proofs
set_option maxHeartbeats 8000000
theorem nn2{O:Sig}{a b:Nat}{o:DObj}(h:O a=some o)(k:O b=none):a≠b:=fun e=>by rw[e,k]at h;cases h
theorem IC:prog.globals.size≠0:=by
 have h:prog.globals.size=8:=by kernel_rfl
 omega
theorem HG(n:Int)(O:Sig)(h0 : -9223372036854775808<=n)(h1:n<=9223372036854775807):BH prog 84 [dI n] O (rS (.str (Lib.itoa n)) O):=by
 refine⟨by rw[Ab];decide,AI func84 (by rfl) (by rfl),fun g w vs r hr hs ha=>?_⟩
 obtain rfl:r=_:=hr
 obtain⟨v,r,rfl,hv,rfl⟩:=ha
 obtain rfl:v=.int .i64 n:=hv
 have aS : Lib.TabIs prog w "internal/strconv.uint64pow10" .u64 Lib.pow10Tab := by
  rcases hs.tab w hs.keep with h|⟨h,_⟩
  ·exact absurd h IC
  ·exact h
 refine(AQ (strconv_Itoa n h0 h1 w aS)).mono ?_
 rintro e w' ⟨rfl,k,os,rfl⟩
 refine⟨g,.ret (.str (Lib.itoa n)),O,.refl g,?_,⟨_,rfl,rfl⟩,rfl,rfl⟩
 refine hs.later (fun k x hx=>?_) rfl
 have hk:k<w.heap.size:=(Array.getElem?_eq_some_iff.1 hx).1
 show(w.heap++os)[k]? = some x
 rw[Array.getElem?_append_left hk];exact hx
theorem N5{w:Go.World}{b:Nat}{vs:Array Value}{ty:TypeId}{x:Value}(h:w.heap[b]? = some (.cells vs ty (0,0))):w.setCell ⟨b,0,none⟩ x=setB w b (.cells (vs.setIfInBounds 0 x) ty (0,0)):=by
 have e:w.heap.setIfInBounds b (.cells (vs.setIfInBounds 0 x) ty (0,0))=(w.setCell ⟨b,0,none⟩ x).heap:=by
  unfold World.setCell
  apply Array.ext_getElem?
  intro k
  by_cases hk:b=k
  ·subst hk
   have hb:b<w.heap.size:=(Array.getElem?_eq_some_iff.1 h).1
   rw[Array.getElem?_setIfInBounds_self_of_lt hb,Array.getElem?_modify,if_pos rfl,h];rfl
  ·simp[Array.getElem?_modify,hk]
 unfold setB
 rw[e];rfl
theorem PA(ib:Nat)(v:D)(O:Sig)(h:O ib=some (.tcells 159 [.nilp,v])):BH prog 161 [.ptr ib 0] O fun x U'=>x=.ret (.tup [])/\U'=O.set ib (.cells [.ptr ib 0,v]):=by
 refine⟨by rw[Ab];decide,AI func161 (by rfl) (by rfl),fun g w vs r hr hs ha=>?_⟩
 obtain rfl:r=_:=hr
 obtain⟨pv,r,rfl,⟨b,hb,rfl⟩,rfl⟩:=ha
 obtain⟨b',vs,ak,aa,ah⟩:=hs.obj ib _ h
 obtain rfl:b'=b:=by rw[hb]at ak;cases ak;rfl
 obtain⟨v0,r0,aF,h0,v1,r1,rfl,h1,rfl⟩:=ah
 obtain rfl:v0=.pointer none:=h0
 obtain rfl:vs=#[.pointer none,v1]:=by apply Array.ext';simpa using aF
 refine(AQ (IY b' w (by simp[World.cell?, aa]) (by simp[World.shape?, aa]) (by simp[World.frozen?, aa]))).mono ?_
 rintro e w' ⟨rfl,rfl⟩
 refine⟨g,.ret (.tup []),_,.refl g,?_,⟨_,rfl,[],rfl,rfl⟩,rfl,rfl⟩
 rw[N5 aa]
 refine hs.setAny h rfl rfl hb aa ⟨b',_,159,hb,Ed aa,?_⟩
 exact⟨_,_,rfl,⟨b',hb,rfl⟩,_,_,rfl,h1,rfl⟩
theorem Pz(ib:Nat)(v:D)(O:Sig)(h:O ib=some (.cells [.ptr ib 0,v])):BH prog 161 [.ptr ib 0] O (rS (.tup []) O):=by
 refine⟨by rw[Ab];decide,AI func161 (by rfl) (by rfl),fun g w vs r hr hs ha=>?_⟩
 obtain rfl:r=_:=hr
 obtain⟨pv,r,rfl,⟨b,hb,rfl⟩,rfl⟩:=ha
 obtain⟨b',vs,ty,ak,aa,ah⟩:=hs.obj ib _ h
 obtain rfl:b'=b:=by rw[hb]at ak;cases ak;rfl
 obtain⟨v0,r0,aF,⟨b2,bj,rfl⟩,v1,r1,rfl,h1,rfl⟩:=ah
 obtain rfl:b2=b':=by rw[hb]at bj;cases bj;rfl
 obtain rfl:vs=#[.pointer (some ⟨b2,0,none⟩),v1]:=by apply Array.ext';simpa using aF
 refine(AQ (Jq b2 w (by simp[World.cell?, aa]))).mono ?_
 rintro e w' ⟨rfl,rfl⟩
 exact⟨g,.ret (.tup []),_,.refl g,hs,⟨_,rfl,[],rfl,rfl⟩,rfl,rfl⟩
def BldS(ib:Nat)(S0:Sig)(bs:List UInt8)(O:Sig):Prop:=
 Sub S0 O/\S0 ib=none/\((bs=[]/\O ib=some (.tcells 159 [.nilp,.nils])) \/ ∃r:BR,O ib=some (.cells [.ptr ib 0,r.d bs.length])/\BRAt 5 O r bs /\ ¬r.is ib /\ ∀j,r.is j->S0 j=none)
theorem BRAt.set{e:Nat}{O:Sig}{r:BR}{bs:List UInt8}(h:BRAt e O r bs){i:Nat}{o:DObj}(hi:¬r.is i):BRAt e (O.set i o) r bs:=by
 rcases r with _|⟨k,c,cs⟩
 ·exact h
 ·exact⟨by rw[w7 _ _ fun e=>hi e.symm];exact h.1,h.2⟩
theorem bapp{ro:Ro}{n:Nat}{ops:Array Oper}{Q:DX->St->Prop}{df:List DDf}{rest:List Oper}{γ Sr:Fr}{O:Sig}{t:Nat}{ty:TypeId}{pos:String}{after:Array Edge}{s x:Operand}{bs str:List UInt8}{r:BR}
  (h:∀r' U',BRAt 5 U' r' (bs++str)->(∀j o,O j=some o->¬r.is j->U' j=some o /\ ¬r'.is j)->DOps prog ro n ops Q rest ⟨(t,r'.d (bs++str).length)::γ,U',df⟩) (hm:BRAt 5 O r bs) (hb:bs.length+str.length<=140737488355328)
  (hl:A0 γ (A5 [s,x])=some Sr:=by exact tdR) (h1:ev Sr s=r.d bs.length:=by exact tdR) (h2:ev Sr x=.str str:=by exact tdR) (aG:decide (t<n)=true:=by exact tdR) :
  DOps prog ro n ops Q (⟨some t,.call { callee:=.builtin .append,args:= #[s,x],argTypes:= #[96,9] },ty,pos,after,none⟩::rest) ⟨γ,O,df⟩:=by
 obtain⟨e1,e2⟩:=evs hl
 exact Tp Ac (by simpa using aG) (by simp<;>rfl) (by simp<;>rfl) (by simp) (by simp) (by simp) (by rw[<-e1];exact h1) hm (by rw[<-e2];exact h2) hb h
theorem En(ib:Nat)(S0:Sig)(bs s:List UInt8)(O:Sig)(hB:BldS ib S0 bs O)(hb:bs.length+s.length<=1000000000):BH prog 83 [.ptr ib 0,.str s] O fun x U'=>x=.ret (.tup [dI s.length,.niliface])/\BldS ib S0 (bs++s) U':=by
 obtain⟨hS,h0,hB⟩:=hB
 refine enW func83 ntmps83 ?_
 rcases hB with⟨rfl,h1⟩|⟨r,h1,h2,h3,h4⟩
 ·refine gz ?_
  refine AL (PA ib _ O h1) (fun d S1 hr=>?_) (fun d S1 hr=>by cases hr.1)
  obtain⟨hd,rfl⟩:=hr
  cases hd
  have u1:(O.set ib (.cells [.ptr ib 0,.nils])) ib=some (.cells [.ptr ib 0,.nils]):=w6 ..
  refine gf u1 ?_
  refine bapp (bs:=[]) (str:=s) (r:=none) (fun r' S2 k1 k2=>?_) rfl (by simp at hb⊢; omega)
  obtain⟨u2,u3⟩:=k2 _ _ u1 id
  have ag:BldS ib S0 ([]++s) (S2.set ib (.cells [.ptr ib 0,r'.d ([]++s).length])):=by
   refine⟨fun j o hj=>?_,h0,.inr ⟨r',w6 ..,?_,u3,fun j hj=>?_⟩⟩
   ·have aD:j≠ib:=nn2 hj h0
    rw[w7 _ _ aD]
    exact(k2 j o (by rw[w7 _ _ aD];exact hS j o hj) id).1
   ·exact k1.set u3
   ·cases aE:S0 j with
    |none=>rfl
    |some o=>exact absurd hj (k2 j o (by rw[w7 _ _ (nn2 aE h0)];exact hS j o aE) id).2
  rcases r' with _|⟨i,c,cs⟩<;>simp only[BR.d]at ag⊢
  ·refine gf u2 ?_
   exact UA (U':=_) ⟨rfl,ag⟩
  ·refine gf u2 ?_
   exact UA (U':=_) ⟨rfl,ag⟩
 ·refine gz ?_
  refine AL (Pz ib _ O h1) (fun d S1 hr=>?_) (fun d S1 hr=>by cases hr.1)
  obtain⟨hd,rfl⟩:=hr
  cases hd
  refine gf h1 ?_
  refine bapp (bs:=bs) (str:=s) (r:=r) (fun r' S2 k1 k2=>?_) h2 (by omega)
  obtain⟨u2,u3⟩:=k2 _ _ h1 h3
  have ag:BldS ib S0 (bs++s) (S2.set ib (.cells [.ptr ib 0,r'.d (bs++s).length])):=by
   refine⟨fun j o hj=>?_,h0,.inr ⟨r',w6 ..,?_,u3,fun j hj=>?_⟩⟩
   ·have aD:j≠ib:=nn2 hj h0
    rw[w7 _ _ aD]
    exact(k2 j o (hS j o hj) fun h=>by rw[h4 j h]at hj;cases hj).1
   ·exact k1.set u3
   ·cases aE:S0 j with
    |none=>rfl
    |some o=>exact absurd hj (k2 j o (hS j o aE) fun h=>by rw[h4 j h]at aE;cases aE).2
  rcases r' with _|⟨i,c,cs⟩<;>simp only[BR.d]at ag⊢
  ·refine gf u2 ?_
   exact UA (U':=_) ⟨rfl,ag⟩
  ·refine gf u2 ?_
   exact UA (U':=_) ⟨rfl,ag⟩
theorem Pn{w:Go.World}{b n:Nat}{vs:Array Value}{ty:TypeId}(h:w.heap[b]? = some (.cells vs ty (0,0)))(hn:n≠0):w.freeze ⟨b,0,none⟩ n=setB w b (.cells vs ty (0,0+n)):=by
 have e:w.heap.setIfInBounds b (.cells vs ty (0,0+n))=(w.freeze ⟨b,0,none⟩ n).heap:=by
  unfold World.freeze
  rw[if_neg hn]
  apply Array.ext_getElem?
  intro k
  by_cases hk:b=k
  ·subst hk
   have hb:b<w.heap.size:=(Array.getElem?_eq_some_iff.1 h).1
   rw[Array.getElem?_setIfInBounds_self_of_lt hb,Array.getElem?_modify,if_pos rfl,h];rfl
  ·simp[Array.getElem?_modify,hk]
 unfold setB
 rw[e]
 unfold World.freeze
 rw[if_neg hn]
theorem UE(ib:Nat)(S0:Sig)(bs:List UInt8)(O:Sig)(hB:BldS ib S0 bs O)(hne:bs≠[])(hb:bs.length<=1000000000):BH prog 86 [.ptr ib 0] O (rS (.str bs) S0):=by
 obtain⟨hS,h0,hB⟩:=hB
 rcases hB with⟨rfl,_⟩|⟨r,h1,h2,h3,h4⟩
 ·exact absurd rfl hne
 rcases r with _|⟨i,c,cs⟩
 ·exact absurd h2 hne
 obtain⟨h5,h6⟩:=h2
 refine⟨by rw[Ab];decide,AI func86 (by rfl) (by rfl),fun g w vs r hr hs ha=>?_⟩
 obtain rfl:r=_:=hr
 obtain⟨pv,r,rfl,⟨b,bn,rfl⟩,rfl⟩:=ha
 obtain⟨b',vs,ty,ak,aa,ah⟩:=hs.obj ib _ h1
 obtain rfl:b'=b:=by rw[bn]at ak;cases ak;rfl
 obtain⟨v0,r0,aF,_,v1,r1,rfl,⟨bg,bi,rfl⟩,rfl⟩:=ah
 obtain rfl:vs=#[v0,.slice (some ⟨bg,0,none⟩) bs.length c]:=by apply Array.ext';simpa using aF
 obtain⟨bg',vg,aJ,aO,bh⟩:=hs.obj i _ h5
 obtain rfl:bg'=bg:=by rw[bi]at aJ;cases aJ;rfl
 have bp:=RepL.length bh
 simp only[Array.length_toList,List.length_append,List.length_map]at bp
 refine(AQ (Js b' bg' c v0 ty bs vg w hne aa aO (by omega) (by omega) (by omega) fun j x hj=>?_)).mono ?_
 ·have hg:=RepL.get bh j
  have bu:=(List.getElem?_eq_some_iff.1 hj).1
  rw[List.getElem?_append_left (by simpa using bu),List.getElem?_map,hj]at hg
  simp only[Option.map_some,Array.getElem?_toList]at hg
  have bf:j<vg.size:=by omega
  rw[Array.getElem?_eq_getElem bf]at hg
  simp only[World.cell?, aO]
  rw[Array.getElem?_eq_getElem bf]
  exact congrArg some hg
 ·rintro e w' ⟨rfl,rfl⟩
  have hl:bs.length≠0:=by simpa using hne
  refine⟨g,.ret (.str bs),S0,.refl g,?_,⟨_,rfl,rfl⟩,rfl,rfl⟩
  rw[Pn (w:=w.drew) aO hl]
  refine(hs.drew.kill h5 rfl bi (x:=.cells vg 5 (0,0)) aO).sub fun j o hj=>?_
  have aD:j≠i:=fun e=>by rw[e,h4 i rfl]at hj;cases hj
  simp only[Sig.del,aD,if_false]
  exact hS j o hj
theorem Ns{g:G}{O:Sig}{w:Go.World}(hs:Sim prog g O w):NI prog w:=by
 rcases hs.tab w hs.keep with h|⟨_,h⟩
 ·exact absurd h IC
 ·exact h
theorem QX{g:G}{O:Sig}{w:Go.World}(hs:Sim prog g O w): ∃m,w.cell? ⟨0,0,none⟩=some (.int .i64 m):=(Ns hs).1 0 (by kernel_rfl)
theorem PE{g:G}{O:Sig}{w:Go.World}(hs:Sim prog g O w): ∃te pe,w.cell? ⟨2,0,none⟩=some (.iface te pe):=(Ns hs).2 _ (.inl rfl) 2 (by kernel_rfl)
theorem Th{g:G}{O:Sig}{w:Go.World}(hs:Sim prog g O w): ∃te pe,w.cell? ⟨3,0,none⟩=some (.iface te pe):=(Ns hs).2 _ (.inr rfl) 3 (by kernel_rfl)
theorem Ea(s:Str):(⟨s.toArray⟩:ByteArray).size=s.length:=by simp[ByteArray.size]
theorem Om(s:Str)(b:UInt8)(O:Sig)(hl:s.length<=1073741824):BH prog 89 [.str s,.str [b]] O (rS (.bool (decide (s.getLast? = some b))) O):=by
 refine⟨by rw[Ab];decide,AI func89 (by rfl) (by rfl),fun g w vs r hr hs ha=>?_⟩
 obtain rfl:r=_:=hr
 obtain⟨v,_,rfl,hv,v2,_,rfl,aq,rfl⟩:=ha
 obtain rfl:v=.string ⟨s.toArray⟩:=hv
 obtain rfl:v2=.string ⟨[b].toArray⟩:=aq
 refine(AQ (strings_HasSuffix ⟨s.toArray⟩ ⟨[b].toArray⟩ w (by rw[Ea];omega))).mono ?_
 rintro e w' ⟨rfl,rfl⟩
 exact⟨g,.ret (.bool (decide (s.getLast? = some b))),O,.refl g,hs,⟨_,rfl,by rw[<-Qa];rfl⟩,rfl,rfl⟩
theorem Ok(s:Str)(b:UInt8)(O:Sig)(hl:s.length<=1073741824)(hb:s.getLast? = some b):BH prog 91 [.str s,.str [b]] O (rS (.str s.dropLast) O):=by
 refine⟨by rw[Ab];decide,AI func91 (by rfl) (by rfl),fun g w vs r hr hs ha=>?_⟩
 obtain rfl:r=_:=hr
 obtain⟨v,_,rfl,hv,v2,_,rfl,aq,rfl⟩:=ha
 obtain rfl:v=.string ⟨s.toArray⟩:=hv
 obtain rfl:v2=.string ⟨[b].toArray⟩:=aq
 refine(AQ (strings_TrimSuffix ⟨s.toArray⟩ ⟨[b].toArray⟩ w (by rw[Ea];omega))).mono ?_
 rintro e w' ⟨rfl,rfl⟩
 exact⟨g,.ret (.str s.dropLast),O,.refl g,hs,⟨_,rfl,by rw[<-TS hb];rfl⟩,rfl,rfl⟩
theorem LA{g:G}{b:Nat}{vs:List Value}: ∀(l:List Str) (k:Nat),(∀j x,l[j]? = some x->vs[k+j]? = some (.string ⟨x.toArray⟩))->RepE (g.addImm b vs) b 1 k (cS l)
 |[],_,_=>trivial
 | x::l,k,h=>by
  refine⟨⟨rfl,⟨_,?_,rfl⟩,trivial⟩,LA l (k+1) fun j y hj=>?_⟩
  ·simp only[G.addImm,if_true];have:=h 0 x rfl;simpa using this
  ·have:=h (j+1) y (by simpa using hj)
   rw[show k+1+j=k+(j+1) by omega];exact this
theorem J9{g:G}{O:Sig}{w w':Go.World}(hs:Sim prog g O w)(h:RowKit.Below w.heap.size w w'):Sim prog g O w':=
 hs.later (fun k x hx=>by rw[h.block k (Array.getElem?_eq_some_iff.1 hx).1];exact hx) (by rw[h.os,h.output])
theorem NF{g:G}{O:Sig}{w:Go.World}{e:TypeId}{s:ByteArray}(hs:Sim prog g O w):Sim prog g O (Lib.bytesWorld w e s):=by
 refine hs.later (fun k x hx=>?_) ?_
 ·have hk:k<w.heap.size:=(Array.getElem?_eq_some_iff.1 hx).1
  unfold Lib.bytesWorld World.freeze
  rw[if_neg (by decide)]
  show((w.drew.alloc _).heap.modify w.heap.size _)[k]? = some x
  rw[Array.getElem?_modify,if_neg (by omega)]
  show(w.heap.push _)[k]? = some x
  rw[Array.getElem?_push_lt hk,<-Array.getElem?_eq_getElem hk];exact hx
 ·unfold Lib.bytesWorld World.freeze
  rw[if_neg (by decide)]
  rfl
theorem Sim.drewN{g:G}{O:Sig}{w:Go.World}(hs:Sim prog g O w)(n:Nat):Sim prog g O (w.drewN n):=hs.later (fun k x hx=>hx) rfl
theorem M1(s p:Str)(O:Sig)(hl:s.length<=1073741824):BH prog 92 [.str s,.str p] O (rS (.tup [.str (Lib.cut s p).1,.str (Lib.cut s p).2.1,.bool (Lib.cut s p).2.2]) O):=by
 refine⟨by rw[Ab];decide,AI func92 (by rfl) (by rfl),fun g w vs r hr hs ha=>?_⟩
 obtain rfl:r=_:=hr
 obtain⟨v,_,rfl,hv,v2,_,rfl,aq,rfl⟩:=ha
 obtain rfl:v=.string ⟨s.toArray⟩:=hv
 obtain rfl:v2=.string ⟨p.toArray⟩:=aq
 obtain⟨m,hm⟩:=QX hs
 refine(AQ (strings_Cut ⟨s.toArray⟩ ⟨p.toArray⟩ m w (by rw[Ea];omega) hm)).mono ?_
 rintro e w' ⟨rfl,n,rfl⟩
 exact⟨g,.ret (.tup [.str (Lib.cut s p).1,.str (Lib.cut s p).2.1,.bool (Lib.cut s p).2.2]),O,.refl g,hs.drewN n,⟨_,rfl,[_,_,_],rfl,_,_,rfl,rfl,_,_,rfl,rfl,_,_,rfl,rfl,rfl⟩,rfl,rfl⟩
theorem Ol(s:Str)(b:UInt8)(O:Sig)(hl:s.length<=1073741824):BH prog 90 [.str s,.str [b]] O (rS (.slice (cS (splitB b s)) .no) O):=by
 refine⟨by rw[Ab];decide,AI func90 (by rfl) (by rfl),fun g w vs r hr hs ha=>?_⟩
 obtain rfl:r=_:=hr
 obtain⟨v,_,rfl,hv,v2,_,rfl,aq,rfl⟩:=ha
 obtain rfl:v=.string ⟨s.toArray⟩:=hv
 obtain rfl:v2=.string ⟨[b].toArray⟩:=aq
 obtain⟨m,hm⟩:=QX hs
 refine(AQ (strings_Split ⟨s.toArray⟩ ⟨[b].toArray⟩ m w (by rw[Ea];omega) hm (Nat.le_refl 1))).mono ?_
 rintro e w' ⟨rfl,rfl⟩
 have e1:=I4 b s
 have e2:=N4 b s
 rw[show(⟨[b].toArray⟩:ByteArray)=⟨#[b]⟩ from rfl,e1,e2]
 have aU:=hs.addImm ((splitB b s).map fun l=>Value.string ⟨l.toArray⟩) 9 (0,0)
 have bq:=G.addImm_le hs ((splitB b s).map fun l=>Value.string ⟨l.toArray⟩)
 refine⟨_,.ret (.slice (cS (splitB b s)) .no),O,bq,aU,⟨_,rfl,some ⟨w.heap.size,0,none⟩,(splitB b s).length,by simp[cS],by simp[cS],.inr ⟨1,w.heap.size,0,rfl,?_⟩,trivial⟩,rfl,rfl⟩
 exact LA _ 0 fun j x hj=>by rw[Nat.zero_add,List.getElem?_map,hj];rfl
theorem SP(s:Str)(O:Sig)(hl:s.length<=1073741824):BH prog 168 [.str s] O fun x U'=>U'=O/\match Lib.atoiAll s with
  |.ok v=>x=.ret (.tup [dI v,.niliface])
  |_=> ∃v,x=.ret (.tup [dI v,.iface 349 .any]):=by
 refine⟨by rw[Ab];decide,AI func168 (by rfl) (by rfl),fun g w vs r hr hs ha=>?_⟩
 obtain rfl:r=_:=hr
 obtain⟨v,_,rfl,hv,rfl⟩:=ha
 obtain rfl:v=.string ⟨s.toArray⟩:=hv
 cases h:Lib.atoiAll s with
 |ok v=>
  refine(AQ (strconv_Atoi_ok ⟨s.toArray⟩ (by rw[Ea];omega) v h w)).mono ?_
  rintro e w' ⟨rfl,hw⟩
  refine⟨g,.ret (.tup [dI v,.niliface]),O,.refl g,?_,⟨_,rfl,[_,_],rfl,_,_,rfl,rfl,_,_,rfl,rfl,rfl⟩,rfl,rfl⟩
  rcases hw with rfl|⟨t,rfl⟩
  ·exact hs
  ·exact NF hs
 |range=>
  obtain⟨te,pe,he⟩:=Th hs
  refine(AQ (strconv_Atoi_range ⟨s.toArray⟩ (by rw[Ea];omega) h _ w he (.inr ⟨te,pe,rfl⟩))).mono ?_
  rintro e w' ⟨N,rfl,hN,hc,hB⟩
  refine⟨g,.ret (.tup [dI (Lib.atoiSat s),.iface 349 .any]),O,.refl g,?_,⟨_,rfl,[_,_],rfl,_,_,rfl,rfl,_,_,rfl,⟨_,rfl,trivial⟩,rfl⟩,rfl,_,rfl⟩
  exact J9 hs hB
 |_=>
  obtain⟨te,pe,he⟩:=PE hs
  refine(AQ (strconv_Atoi_syntax ⟨s.toArray⟩ (by rw[Ea];omega) h _ w he (.inr ⟨te,pe,rfl⟩))).mono ?_
  rintro e w' ⟨N,rfl,hN,hc,hB⟩
  refine⟨g,.ret (.tup [dI 0,.iface 349 .any]),O,.refl g,?_,⟨_,rfl,[_,_],rfl,_,_,rfl,rfl,_,_,rfl,⟨_,rfl,trivial⟩,rfl⟩,rfl,0,rfl⟩
  exact J9 hs hB
theorem Me(l:List CIns)(q:CIns->Bool)(g:Nat)(cap:List D)(o:Own)(O:Sig)(hl:l.length<=1073741824)(hg:∀x∈l,DCall prog g ([]++[.agg (cIns x)]++cap) O fun r S''=>r=.ret (.bool (q x))/\S''=O):DCall prog 231 [.slice (l.map cIns) o,.func (.func g) [] cap] O (rS (dI (idxF q l 0)) O):=by
 refine en func231 ntmps231 ?_
 refine gz ?_
 refine CG [0,1,7] (fun (k:Nat)=>k<=l.length/\idxF q l 0=idxF q (l.drop k) k) (fun k=>[(8,dI k)]) (fun _=>O) (fun k=>l.length-k) (0) (by simp) (fun k hI=>?_)
 obtain⟨hk,hR⟩:=hI
 by_cases h:k<l.length
 ·rw[Ad h,idxF]at hR
  repeat' first|refine Ca (hg (l[k]) (List.getElem_mem h)) ?_|refine callP (hg (l[k]) (List.getElem_mem h)) ?_|refine gz ?_|apply gy<;>intro hh
  ·rw[hh]at hR
   exact fe1 hR
  ·rw[hh]at hR
   exact⟨k+1,⟨by omega,hR⟩,td1,wkR⟩
 ·rw[Aj h,idxF]at hR
  refine gz ?_
  exact fe1 hR
theorem Mn(l:List CIns)(q:CIns->Bool)(g:Nat)(cap:List D)(o:Own)(O:Sig)(hl:l.length<=1073741824)(hg:∀x∈l,DCall prog g ([]++[.agg (cIns x)]++cap) O fun r S''=>r=.ret (.bool (q x))/\S''=O):DCall prog 152 [.slice (l.map cIns) o,.func (.func g) [] cap] O (rS (.bool (l.any q)) O):=by
 refine en func152 ntmps152 ?_
 repeat' first|refine gz ?_|refine Ca (Me l q g cap o O hl hg) ?_|refine callP (Me l q g cap o O hl hg) ?_|refine gz ?_|apply gy<;>intro hh
 rw[<-D7 q l 0]
 exact fe1 trivial
theorem Ml(x:CIns)(O:Sig):DCall prog 154 [.agg (cIns x)] O (rS (.bool (Cz x)) O):=by
 refine en func154 ntmps154 ?_
 repeat' first|refine gz ?_|apply gy<;>intro hh
 rotate_left 2
 ·have hn:¬x.op=1:=fun e=>by rw[e]at hh;cases hh
  refine eqlS _ (decide (x=⟨x.op,0⟩)) VD Vt (eqIns x ⟨x.op,0⟩) ?_
  have he:decide (x=⟨x.op,0⟩)=decide (x.a=0):=by rcases x with⟨o,a⟩;simp
  refine gz ?_
  refine fin1 (U':=O) ⟨?_,rfl⟩
  rw[he];unfold Cz;rw[hh];simp;omega
 all_goals
  refine fin1 (U':=O) ⟨?_,rfl⟩
  rw[Am,Bool.eq_iff_iff]
  unfold Cz inB farN
  simp_all<;>omega
theorem Mm(x:CIns)(O:Sig):DCall prog 153 [.agg (cIns x)] O (rS (.bool (!Cz x)) O):=by
 refine en func153 ntmps153 ?_
 repeat' first|refine gz ?_|refine Ca (Ml x O) ?_|refine callP (Ml x O) ?_|refine gz ?_|apply gy<;>intro hh
 exact fe1 trivial
theorem KX(c:CProg)(O:Sig)(h1:c.ins.length<=1073741824)(h2:c.starts.length<=1073741824):DCall prog 70 [.agg (cCPg c)] O (rS (.bool (AP c)) O):=by
 refine en func70 ntmps70 ?_
 by_cases c1:c.ins.length<=300
 rotate_left
 ·refine gz ?_
  refine skipV ?_
  refine gz ?_
  refine fin1 (U':=O) ?_
  refine⟨?_,rfl⟩
  rw[Am,Bool.eq_iff_iff]
  unfold AP
  simp[c1]
 by_cases c2:c.starts.length<=16
 rotate_left
 ·refine gz ?_
  refine skipV ?_
  refine gz ?_
  refine fin1 (U':=O) ?_
  refine⟨?_,rfl⟩
  rw[Am,Bool.eq_iff_iff]
  unfold AP
  simp[c2]
 repeat' first|refine CX (F5 c.main) ?_|refine callPG (F5 c.main) ?_|refine CX (Mo c.starts (fun n=> !farN n) 150 [] .no O h2 (fun n _=>F5 n O)) ?_|refine callPG (Mo c.starts (fun n=> !farN n) 150 [] .no O h2 (fun n _=>F5 n O)) ?_|refine CX (Mn c.ins (fun x=> !Cz x) 153 [] .no O h1 (fun x _=>Mm x O)) ?_|refine callPG (Mn c.ins (fun x=> !Cz x) 153 [] .no O h1 (fun x _=>Mm x O)) ?_|refine gz ?_|apply gy<;>intro hh
 all_goals
  refine fin1 (U':=O) ?_
  refine⟨?_,rfl⟩
  rw[Am,Bool.eq_iff_iff]
  unfold AP
  rw[decide_eq_true c1,decide_eq_true c2]
  simp_all
 ·obtain⟨x,h1,h2⟩:=hh
  intro h3
  rw[h3 x h1]at h2;cases h2
@[reducible,instance] def a70:=fun c O=>ah2 (@KX c O)
theorem UF(O:Sig):DCall prog 85 [] O (rS (.slice (cS wordsC) .clip) O):=by
 refine en func85 ntmps85 ?_
 refine gz ?_
 exact fe1 trivial
@[reducible,instance] def a85:=fun O=>ah0 (@UF O)
theorem Rz(g:Nat)(cap:List D)(O:Sig)(R:Sig->DE->Sig->Prop)
  (hg:∀i,O i=none->BH prog g cap (O.set i (.cells [.bool false])) (R (O.set i (.cells [.bool false]))))
  (hR:∀U' d S'',R U' (.panic d) S''->d=unfC) (hk:∀i S'' x,O i=none->R (O.set i (.cells [.bool false])) x S''->S'' i=some (.cells [.bool false])) :
  BH prog 76 [.func (.func g) [] cap] O fun x U'=> ∃i S'',O i=none/\U'=S''.del i /\
   ((∃d,R (O.set i (.cells [.bool false])) (.ret d) S''/\x=.ret (.bool true))\/(R (O.set i (.cells [.bool false])) (.panic unfC) S''/\x=.ret (.bool false))):=by
 refine Jo (fd:=160) func76 rfl (AI func160 (by rfl) (by rfl)) (by rw[Ab];decide) (by decide) ntmps76 (by simp) ?_
 refine gz ?_ [] [2]
 refine newV (fun i hi=>?_)
 refine gz ?_ [] [2]
 refine Ny (f:=160) (by rw[Ab];decide) rfl rfl ?_
 refine gz ?_ [] [2]
 refine AL (hg i hi) (fun d U' hr=>?_) (fun d U' hp=>?_)
 ·have aW:=hk i U' _ hi hr
  refine gf aW ?_ [] [2]
  refine⟨_,Wk.refl _ _ _,[.ptr i 0],U'.set i (.cells [.bool true]),.bool true,rfl,(Gx i true _ (w6 ..)).1,Ce (ds:=[.bool true]) Ac ?_,.ret (.bool true),U'.del i,A8 _,GN,i,U',hi,rfl,.inl ⟨d,hr,rfl⟩⟩
  simp[resL]
 ·have aW:=hk i U' _ hi hp
  obtain rfl:=hR _ _ _ hp
  refine gz ?_ [] [2]
  refine⟨_,Wk.refl _ _ _,[.ptr i 0],U'.set i (.cells [.bool false]),.bool false,rfl,(Gx i false _ aW).2,Ce (ds:=[.bool false]) Ac ?_,.ret (.bool false),U'.del i,A8 _,GN,i,U',hi,rfl,.inr ⟨hp,rfl⟩⟩
  simp[resL]
@[simp] theorem hitSN85ok(k:Str)(m:List (Str×Int)):hitD tab 85 true (C9 .str (.str k) (eSN m) 0)=some (.tup [.int .i64 (getM 0 k m),.bool (hasM k m)]):=KU keyS dI rfl k m
def Gh:Nat->List (Str×Int)
 |0=>[]
 |k+1=>putM ((wordsC[k]?).getD []) ((k:Int)+1) (Gh k)
def Lh:List Str->Nat->List (Str×Int)
 |[],_=>[]
 |w::r,i=>(w,((i+1:Nat):Int))::Lh r (i+1)
theorem Pj:Gh 21=Lh wordsC 0:=by decide
theorem Lg(w:Str): ∀(l:List Str) (i:Nat),(hasM w (Lh l i)=true/\idxG w l i+1=getM 0 w (Lh l i)/\0<=idxG w l i)\/(hasM w (Lh l i)=false/\idxG w l i = -1)
 |[],i=>.inr ⟨rfl,rfl⟩
 | c::r,i=>by
  by_cases h:c=w
  ·subst h
   exact .inl ⟨by simp[Lh,hasM],by simp[Lh,getM,idxG],by simp[idxG]⟩
  ·have h2:¬w=c:=fun e=>h e.symm
   rw[Lh,hasM,getM,idxG,if_neg h,if_neg h2,decide_eq_false h2,Bool.false_or]
   exact Lg w r (i+1)
theorem QA(w:Str):opW w=if hasM w (Gh 21) then some (getM 0 w (Gh 21)) else none:=by
 rw[Pj]
 unfold opW
 rcases Lg w wordsC 0 with⟨h1,h2,h3⟩|⟨h1,h2⟩
 ·rw[h1,if_pos h3,if_pos rfl,h2]
 ·rw[h1,h2,if_neg (by decide),if_neg (by simp)]
theorem Ry(O:Sig):DCall prog 94 [] O fun x U'=> ∃im,O im=none/\x=.ret (.map im)/\U'=O.set im (.map (eSN (Gh 21))):=by
 refine en func94 ntmps94 ?_
 refine gz ?_
 refine newSN (fun im bw=>?_)
 refine gz ?_
 refine CG [0,1,5,6,17] (fun (k:Nat)=>k<=21) (fun k=>[(7,dI k)]) (fun k=>O.set im (.map (eSN (Gh k)))) (fun k=>21-k) (0) (by omega) (fun k hI=>?_)
 have hl:wordsC.length=21:=rfl
 by_cases hk:k<21
 ·have hw:wordsC[k]? = some (wordsC[k]'(by omega)):=List.getElem?_eq_getElem (by omega)
  have hs:Gh (k+1)=putM (wordsC[k]'(by omega)) ((k:Int)+1) (Gh k):=by rw[Gh,hw];rfl
  refine gf (gi hl hw) ?_
  rw[<-hs]
  exact⟨k+1,by omega,td1,wkR⟩
 ·obtain rfl:k=21:=by omega
  refine gf hl ?_
  refine fin1 (U':=O.set im (.map (eSN (Gh 21)))) ⟨im,bw,rfl,rfl⟩
theorem KW(s:Str)(O:Sig)(hs:s.length<=1000000):BH prog 93 [.str s] O fun x U'=>U'=O/\match intP s with
  |some v=>x=.ret (dI v)
  |none=>x=.panic unfC:=by
 refine enW func93 ntmps93 ?_
 refine gz ?_
 refine AL (SP s O (by omega)) (fun d U' hr=>?_) (fun d U' hr=>?_)
 rotate_left
 ·obtain⟨_,hr⟩:=hr
  split at hr
  ·cases hr
  ·obtain⟨_,hr⟩:=hr;cases hr
 obtain⟨rfl,hr⟩:=hr
 unfold intP
 cases hA:Lib.atoiAll s with
 | ok v =>
  rw[hA]at hr
  cases hr
  obtain⟨v1,v2⟩:=Lib.atoiAll_bounds hA
  refine gz ?_
  refine Tz (HG v U' v1 v2) (fun d S3 hr=>?_) (fun d S3 hr=>by cases hr.1)
  obtain⟨hd,rfl⟩:=hr
  cases hd
  by_cases he:Lib.itoa v=s
  ·have aX:=decide_eq_true he
   refine gf aX ?_
   refine fin1 (U':=S3) ⟨rfl,?_⟩
   simp only[he,if_true]
  ·have aX:=decide_eq_false he
   repeat' first|((refine finP (U':=S3) ⟨rfl,?_⟩;simp only[he,if_false]))|refine gf aX ?_|apply gy<;>intro hh
 |range=>
  rw[hA]at hr
  obtain⟨v,hr⟩:=hr
  cases hr
  repeat' first|((exact finP (U':=U') ⟨rfl,rfl⟩))|refine gz ?_|apply gy<;>intro hh
 |_=>
  rw[hA]at hr
  obtain⟨v,hr⟩:=hr
  cases hr
  repeat' first|((exact finP (U':=U') ⟨rfl,rfl⟩))|refine gz ?_|apply gy<;>intro hh
theorem newT{ro:Ro}{n:Nat}{ops:Array Oper}{Q:DX->St->Prop}{df:List DDf}{rest:List Oper}{γ:Fr}{O:Sig}{t T:Nat}{ty:TypeId}{pos:String}{after:Array Edge}(h:∀i,O i=none->DOps prog ro n ops Q rest ⟨(t,.ptr i 0)::γ,O.set i (.tcells T (tab T).zero),df⟩)(hk:A1 (tab T).k=false:=by simp)(aG:decide (t<n)=true:=by exact tdR):
  DOps prog ro n ops Q (⟨some t,.alloc T,ty,pos,after,none⟩::rest) ⟨γ,O,df⟩:=NB Ac hk (by simpa using aG) h
@[simp] theorem cIns_tk(x:CIns):List.take 2 (cIns x)=cIns x:=rfl
@[simp] theorem cIns_mem(x:CIns)(d:D):(d∈cIns x)=(d=dI x.op\/d=dI x.a):=by simp[cIns]
theorem KZ(c:CProg)(O:Sig)(h1:c.ins.length<=1073741824)(h2:c.starts.length<=1073741824):BH prog 40 [.agg (cCPg c)] O (rS (if AP c then .tup [.str (EC c),dI 0] else .tup [.str [],dI 2]) O):=by
 have aI:∀l:List Int,l.all farN=true->∀n∈l,0<=n/\n<=1000000000:=fun l h n hn=>by have:=List.all_eq_true.1 h n hn;unfold farN at this;simpa using this
 refine enW func40 ntmps40 ?_
 repeat' first|refine gz ?_ o40|apply gy<;>intro hh
 ·refine fin2 (U':=O) ⟨by rw[hh];rfl,rfl⟩
 ·have hp:=hh
  unfold AP at hp
  simp only[Bool.and_eq_true,decide_eq_true_eq]at hp
  obtain⟨c1,c2,c3,c4,c5⟩:=hp
  have hT:=Kv hh
  have hm:0<=c.main/\c.main<=1000000000:=by unfold farN at c3;simpa using c3
  have aR:EC c=KP c++10::listB (fun l=>l++[10]) (c.ins.map Do):=by unfold EC;rw[listB,List.append_assoc];rfl
  have bH:(KP c).length=(listB (fun n=>Lib.itoa n++[32]) c.starts).length+2+(Lib.itoa c.main).length:=by unfold KP;simp;omega
  have bm:=congrArg List.length aR
  rw[List.length_append,List.length_cons]at bm
  refine newT (fun ib aH=>?_)
  have bl:BldS ib O [] (O.set ib (.tcells 159 (tab 159).zero)):=⟨(Sub.refl _).set aH,aH,.inl ⟨rfl,w6 ..⟩⟩
  generalize O.set ib (.tcells 159 (tab 159).zero)=S1 at bl
  refine gz ?_ o40
  refine ET [1,2,3,4,8,13,14,24,25,26,27,28,29,30,31,32,33,34,35,36,37,38,39,40,41,42,43,44,45,46,47,48,49,50,51,52,53,54] (fun (k:Nat) (bs:List UInt8) (S2:Sig)=>k<=c.starts.length/\BldS ib O bs S2/\bs++listB (fun n=>Lib.itoa n++[32]) (c.starts.drop k)=listB (fun n=>Lib.itoa n++[32]) c.starts) (fun k _ _=>[(15,dI k)]) (fun _ _ S2=>S2) (fun k _ _=>c.starts.length-k) (0) ([]) (S1) (by exact⟨by omega,bl,rfl⟩) (fun k bs S2 hI=>?_)
  obtain⟨hk,hB,hE⟩:=hI
  have aZ:=congrArg List.length hE
  rw[List.length_append]at aZ
  by_cases aj:k<c.starts.length
  ·rw[Ad aj,listB]at hE
   obtain⟨n1,n2⟩:=aI _ c4 _ (List.getElem_mem aj)
   have bJ:=Rf (n:=c.starts[k]) ⟨by omega,by omega⟩
   refine gz ?_ o40
   refine AL (HG c.starts[k] S2 (by omega) (by omega)) (fun d S3 hr=>?_) (fun d S3 hr=>by cases hr.1)
   obtain⟨hd,rfl⟩:=hr
   cases hd
   refine gz ?_ o40
   refine AL (En ib O bs (Lib.itoa c.starts[k]++[32]) _ hB (by simp;omega)) (fun d S3 hr=>?_) (fun d S3 hr=>by cases hr.1)
   obtain⟨hd,am⟩:=hr
   cases hd
   refine gz ?_ o40
   exact⟨k+1,bs++(Lib.itoa c.starts[k]++[32]),S3,⟨by omega,am,by rw[List.append_assoc];exact hE⟩,td1,wkR⟩
  ·rw [Aj aj,listB,List.append_nil] at hE
   refine gz ?_ o40
   refine AL (HG c.main S2 (by omega) (by omega)) (fun d S3 hr=>?_) (fun d S3 hr=>by cases hr.1)
   obtain⟨hd,rfl⟩:=hr
   cases hd
   refine gz ?_ o40
   refine AL (En ib O bs ([58,32]++Lib.itoa c.main++[10]) _ hB (by simp;omega)) (fun d S3 hr=>?_) (fun d S3 hr=>by cases hr.1)
   obtain⟨hd,am⟩:=hr
   cases hd
   have bk:bs++([58,32]++Lib.itoa c.main++[10])++listB (fun l=>l++[10]) (c.ins.map Do)=EC c:=by rw[aR];unfold KP;simp[hE]
   generalize bs++([58,32]++Lib.itoa c.main++[10])=bs3 at am bk
   refine gz ?_ o40
   refine ET [2,3,4,31,32,53,54] (fun (k:Nat) (bs:List UInt8) (S2:Sig)=>k<=c.ins.length/\BldS ib O bs S2/\bs++listB (fun l=>l++[10]) ((c.ins.drop k).map Do)=EC c) (fun k _ _=>[(33,dI k)]) (fun _ _ S2=>S2) (fun k _ _=>c.ins.length-k) (0) (bs3) (S3) (by exact⟨by omega,am,bk⟩) (fun k bs S2 hI=>?_)
   obtain⟨hk,hB,hE⟩:=hI
   have aZ:=congrArg List.length hE
   rw[List.length_append]at aZ
   by_cases aj:k<c.ins.length
   ·rw[Ad aj,List.map_cons,listB]at hE
    have hI:=List.all_eq_true.1 c5 _ (List.getElem_mem aj)
    have bG:=O9 hI
    unfold Cz at hI
    simp only[Bool.and_eq_true,decide_eq_true_eq]at hI
    obtain⟨⟨bK,ay⟩,ax⟩:=hI
    have bE:wordsC.length=21:=rfl
    have aQ:Jd c.ins[k].op=wordsC[c.ins[k].op.toNat-1]'(by omega):=by unfold Jd;rw[show(c.ins[k].op-1).toNat=c.ins[k].op.toNat-1 by omega,List.getElem?_eq_getElem (by omega)];rfl
    have aN:(Do c.ins[k]).length=(wordsC[c.ins[k].op.toNat-1]'(by omega)).length+(if hasA c.ins[k].op then 1+(Lib.itoa c.ins[k].a).length else 0):=by
     unfold Do;rw[aQ,List.length_append];split<;>simp<;>omega
    have bL:(listB (fun l=>l++[10]) (List.map Do (List.drop k c.ins))).length=(Do c.ins[k]).length+1+(listB (fun l=>l++[10]) (List.map Do (List.drop (k+1) c.ins))).length:=by
     rw[Ad aj,List.map_cons,listB];simp;omega
    by_cases hA:hasA c.ins[k].op=true
    ·rw[if_pos hA]at aN ax
     have bN : -1000000000<=c.ins[k].a/\c.ins[k].a<=1000000000:=by
      split at ax
      ·unfold inB at ax;simp at ax;omega
      ·unfold farN at ax;simp at ax;omega
     have ar:Do c.ins[k]=wordsC[c.ins[k].op.toNat-1]'(by omega)++([32]++Lib.itoa c.ins[k].a):=by unfold Do;rw[aQ,if_pos hA];rfl
     refine gz ?_ o40
     refine AL (En ib O bs (wordsC[c.ins[k].op.toNat-1]'(by omega)) _ hB (by omega)) (fun d S3 hr=>?_) (fun d S3 hr=>by cases hr.1)
     obtain⟨hd,am⟩:=hr
     cases hd
     refine gf hA ?_ o40
     refine AL (HG c.ins[k].a S3 (by omega) (by omega)) (fun d S4 hr=>?_) (fun d S4 hr=>by cases hr.1)
     obtain⟨hd,rfl⟩:=hr
     cases hd
     refine gz ?_ o40
     refine AL (En ib O _ ([32]++Lib.itoa c.ins[k].a) _ am (by simp;omega)) (fun d S3 hr=>?_) (fun d S3 hr=>by cases hr.1)
     obtain⟨hd,bC⟩:=hr
     cases hd
     refine gz ?_ o40
     refine AL (En ib O _ [10] _ bC (by simp;omega)) (fun d S3 hr=>?_) (fun d S3 hr=>by cases hr.1)
     obtain⟨hd,a8⟩:=hr
     cases hd
     rw[ar]at hE
     refine gz ?_ o40
     exact⟨k+1,_,_,⟨by omega,a8,by simpa[List.append_assoc] using hE⟩,td1,wkR⟩
    ·rw[if_neg hA]at aN ax
     have bD:hasA c.ins[k].op=false:=by simpa using hA
     have ar:Do c.ins[k]=wordsC[c.ins[k].op.toNat-1]'(by omega):=by unfold Do;rw[aQ,if_neg hA,List.append_nil]
     refine gz ?_ o40
     refine AL (En ib O bs (wordsC[c.ins[k].op.toNat-1]'(by omega)) _ hB (by omega)) (fun d S3 hr=>?_) (fun d S3 hr=>by cases hr.1)
     obtain⟨hd,am⟩:=hr
     cases hd
     refine gf bD ?_ o40
     refine AL (En ib O _ [10] _ am (by simp;omega)) (fun d S3 hr=>?_) (fun d S3 hr=>by cases hr.1)
     obtain⟨hd,a8⟩:=hr
     cases hd
     rw[ar]at hE
     refine gz ?_ o40
     exact⟨k+1,_,_,⟨by omega,a8,by simpa[List.append_assoc] using hE⟩,td1,wkR⟩
   ·rw[Aj aj,List.map_nil,listB,List.append_nil]at hE
    subst hE
    refine gz ?_ o40
    refine AL (UE ib O _ _ hB (by rw[aR];simp) (by omega)) (fun d S3 hr=>?_) (fun d S3 hr=>by cases hr.1)
    obtain⟨hd,rfl⟩:=hr
    cases hd
    refine gz ?_ o40
    refine fin2 (U':=S3) ⟨by rw[hh];rfl,rfl⟩
def rvk(l:List UInt8)(k:Nat):List UInt8:=(List.range l.length).map fun j=>if j<k\/l.length<=j+k then l.getD (l.length-1-j) 0 else l.getD j 0
@[simp] theorem rvk_len(l:List UInt8)(k:Nat):(rvk l k).length=l.length:=by simp[rvk]
theorem GV(l:List UInt8)(k j:Nat)(h:j<l.length):(rvk l k)[j]? = some (if j<k\/l.length<=j+k then l.getD (l.length-1-j) 0 else l.getD j 0):=by
 unfold rvk;rw[List.getElem?_map,List.getElem?_range h];rfl
theorem getD_some{l:List UInt8}{j:Nat}(h:j<l.length):l[j]? = some (l.getD j 0):=by rw[List.getD_eq_getElem?_getD,List.getElem?_eq_getElem h];rfl
theorem rvk_0(l:List UInt8):rvk l 0=l:=by
 refine List.ext_getElem? fun j=>?_
 by_cases h:j<l.length
 ·rw[GV l 0 j h,if_neg (by omega),getD_some h]
 ·rw[List.getElem?_eq_none (by simp;omega),List.getElem?_eq_none (by omega)]
theorem rvk_end(l:List UInt8)(k:Nat)(h:l.length<=2*k+1):rvk l k=l.reverse:=by
 refine List.ext_getElem? fun j=>?_
 by_cases hj:j<l.length
 ·rw[GV l k j hj,List.getElem?_reverse hj,getD_some (by omega)]
  by_cases h2:j<k\/l.length<=j+k
  ·rw[if_pos h2]
  ·rw[if_neg h2,show l.length-1-j=j by omega]
 ·rw[List.getElem?_eq_none (by simp;omega),List.getElem?_eq_none (by simp;omega)]
theorem rvk_set(l:List UInt8)(k:Nat)(h:2*k+1<l.length):((rvk l k).set k (l.getD (l.length-1-k) 0)).set (l.length-1-k) (l.getD k 0)=rvk l (k+1):=by
 refine List.ext_getElem? fun j=>?_
 by_cases hj:j<l.length
 ·rw[GV l _ j hj]
  by_cases h1:j=l.length-1-k
  ·subst h1
   rw[List.getElem?_set_self (by simp;omega),if_pos (by omega)]
   congr 2;omega
  ·rw[List.getElem?_set_ne (fun e=>h1 e.symm)]
   by_cases h2:j=k
   ·subst h2
    rw[List.getElem?_set_self (by simp;omega),if_pos (by omega)]
   ·rw[List.getElem?_set_ne (fun e=>h2 e.symm),GV l k j hj]
    congr 1
    by_cases h3:j<k\/l.length<=j+k
    ·rw[if_pos h3,if_pos (by omega)]
    ·rw[if_neg h3,if_neg (by omega)]
 ·rw[List.getElem?_eq_none (by simp;omega),List.getElem?_eq_none (by simp;omega)]
def byD(b:UInt8):D:=.int .u8 (b.toNat:Int)
theorem NS{α:Type}(l:List α)(k:Nat)(x:α)(h:k<l.length):l.take k++[x]++l.drop (k+1)=l.set k x:=by
 rw[List.set_eq_take_append_cons_drop,if_pos h,List.append_assoc];rfl
theorem PB(b:D)(O:Sig):DCall prog 155 [.slice [[b]] .clip] O (rS (.tup []) O):=by
 refine en func155 ntmps155 ?_
 refine gz ?_ o155
 refine CG [0] (fun (k:Nat)=>True) (fun _=>[(2,dI 0),(3,dI 0)]) (fun _=>O) (fun _=>1) (0) (by trivial) (fun k hI=>?_)
 refine gz ?_ o155
 refine DK (U':=O) ⟨rfl,rfl⟩
theorem SQ(bs:List UInt8)(rest:List D)(i cap:Nat)(O:Sig)(hn:bs.length<=1000000)(hc:bs.length<=cap)(hi:O i=some (.cells (bs.map byD++rest))):DCall prog 155 [.sref i 0 bs.length cap] O fun x U'=>x=.ret (.tup [])/\U'=O.set i (.cells (bs.reverse.map byD++rest)):=by
 refine en func155 ntmps155 ?_
 refine gz ?_ o155
 refine Di [0] (fun (k:Nat) (S2:Sig)=>k<=bs.length/\(∀j,j≠i->S2 j=O j)/\S2 i=some (.cells ((rvk bs k).map byD++rest))) (fun k _=>[(2,dI k),(3,dI ((bs.length:Int)-1-k))]) (fun _ S2=>S2) (fun k _=>bs.length-k) (0) (O) (by exact⟨Nat.zero_le _,fun _ _=>rfl,by rw[rvk_0];exact hi⟩) (fun k S2 hI=>?_)
 obtain⟨br,hs,ay⟩:=hI
 by_cases hk:2*k+1<bs.length
 ·obtain⟨L,hL⟩:∃L,L=(rvk bs k).map byD++rest:=⟨_,rfl⟩
  rw[<-hL]at ay
  have aN:bs.length<=L.length:=by rw[hL];simp
  have hx:L[k]? = some (byD (bs.getD k 0)):=by rw[hL,List.getElem?_append_left (by simp;omega),List.getElem?_map,GV bs k k (by omega),if_neg (by omega)];rfl
  have hy:L[bs.length-1-k]? = some (byD (bs.getD (bs.length-1-k) 0)):=by rw[hL,List.getElem?_append_left (by simp;omega),List.getElem?_map,GV bs k _ (by omega),if_neg (by omega)];rfl
  have hE:(L.set k (byD (bs.getD (bs.length-1-k) 0))).set (bs.length-1-k) (byD (bs.getD k 0))=(rvk bs (k+1)).map byD++rest:=by
   rw[hL,List.set_append_left _ _ (by simp;omega),List.set_append_left _ _ (by simp;omega),<-List.map_set,<-List.map_set,rvk_set bs k hk]
  unfold byD at hx hy hE
  generalize (bs.getD k 0).toNat=x at*
  generalize (bs.getD (bs.length-1-k) 0).toNat=y at*
  have hX:L[k]'(by omega)=.int .u8 x:=by have:=hx;rw[List.getElem?_eq_getElem (by omega)]at this;exact Option.some.inj this
  have hY:L[bs.length-1-k]'(by omega)=.int .u8 y:=by have:=hy;rw[List.getElem?_eq_getElem (by omega)]at this;exact Option.some.inj this
  have bb:=NS L k (.int .u8 y) (by omega)
  have ba:=NS (L.set k (.int .u8 y)) (bs.length-1-k) (.int .u8 x) (by simp;omega)
  simp only[List.append_assoc,List.singleton_append]at bb ba
  have bA:¬L.length<k+1:=by omega
  have bz:¬L.length<bs.length-1-k+1:=by omega
  refine gz ?_
  refine mixK (id:=3) [0,1,2,3,4,5,6,7,8,9,10,11,12,13,14,15] [13,15] [7,11] [13,15] S2 (Sub.refl _) ?_
  refine k4R (.sref i 0 bs.length cap) ?_
  refine k4R (dI k) ?_
  refine k4R (.sref i 0 bs.length cap) ?_
  refine k4R (dI ((bs.length:Int)-1-k)) ?_
  refine k4R (.sref i 0 bs.length cap) ?_
  refine k4R (dI ((bs.length:Int)-1-k)) ?_
  refine k4R (.ptr i (bs.length-1-k)) ?_ (hd:=by simp(disch:=omega);omega)
  refine k4R (.int .u8 y) ?_ (hd:=by simp[ay,hy])
  refine k4R (.sref i 0 bs.length cap) ?_
  refine k4R (dI k) ?_
  refine k4R (.ptr i k) ?_ (hd:=by simp(disch:=omega);omega)
  refine k4R (.int .u8 x) ?_ (hd:=by simp[ay,hx])
  refine k4R (.ptr i k) ?_ (hd:=by simp(disch:=omega);omega)
  refine k4S (d:=.any) (U':=S2.set i (.cells (L.set k (.int .u8 y)))) (fun _=>none) (fun _ _ h=>by cases h) ?_ (he:=by simp[ay,bb,bA])
  refine k4R (.ptr i (bs.length-1-k)) ?_ (hd:=by simp(disch:=omega);omega)
  refine k4S (d:=.any) (U':=(S2.set i (.cells (L.set k (.int .u8 y)))).set i (.cells ((L.set k (.int .u8 y)).set (bs.length-1-k) (.int .u8 x)))) (fun _=>none) (fun _ _ h=>by cases h) ?_ (he:=by simp[ba,bz])
  refine k4N ?_
  rw[hE]
  refine gz ?_ o155
  exact⟨k+1,(S2.set i (.cells (L.set k (.int .u8 y)))).set i (.cells ((rvk bs (k+1)).map byD++rest)),⟨by omega,fun j hj=>by rw[w7 _ _ hj,w7 _ _ hj];exact hs j hj,w6 ..⟩,td1,wkR⟩
 ·refine gz ?_ o155
  refine DK (U':=S2) ⟨rfl,?_⟩
  rw[rvk_end bs k (by omega)]at ay
  funext j
  by_cases hj:j=i
  ·subst hj;rw[w6,ay]
  ·rw[w7 _ _ hj,hs j hj]
theorem HJ(x:Int):IntKind.u8.wrap x=x % 256:=by
 simp[IntKind.wrap,IntKind.bits,IntKind.signed]
theorem Q6(z c:UInt8):IntKind.u8.wrap (IntKind.u8.wrap (IntKind.u8.wrap (3*(z.toNat:Int))+(c.toNat:Int))+1)=((3*z+c+1).toNat:Int):=by
 rw[HJ,HJ,HJ,UInt8.toNat_add,UInt8.toNat_add,UInt8.toNat_mul]
 simp only[UInt8.reduceToNat]
 omega
theorem UI(bs:List UInt8)(i cap:Nat)(rest:List D)(O:Sig)(hn:bs.length<=1000000)(hc:bs.length<=cap)(hi:O i=some (.cells (bs.map byD++rest))):DCall prog 73 [.sref i 0 bs.length cap] O (rS (.int .u8 ((sumB bs 0).toNat:Int)) O):=by
 refine en func73 ntmps73 ?_
 refine gz ?_
 refine Di [2,6,7,18] (fun (k:Nat) (z:UInt8)=>k<=bs.length/\sumB (bs.drop k) z=sumB bs 0) (fun k z=>[(8,dI k),(3,.int .u8 (z.toNat:Int))]) (fun _ _=>O) (fun k _=>bs.length-k) (0) (0) (by exact⟨Nat.zero_le _,rfl⟩) (fun k z hI=>?_)
 obtain⟨br,hs⟩:=hI
 by_cases hk:k<bs.length
 ·obtain⟨L,hL⟩:∃L,L=bs.map byD++rest:=⟨_,rfl⟩
  rw[<-hL]at hi
  have aN:bs.length<=L.length:=by rw[hL];simp
  have hX:L[k]'(by omega)=.int .u8 (bs[k].toNat:Int):=by subst hL;rw[List.getElem_append_left (by simpa using hk),List.getElem_map];rfl
  rw[Ad hk,sumB]at hs
  refine gf (gi hi hX) ?_
  simp only[Q6]
  exact⟨k+1,3*z+bs[k]+1,⟨by omega,hs⟩,td1,wkR⟩
 ·rw[Aj hk,sumB]at hs
  refine gz ?_
  refine fin1 (U':=O) ⟨by rw[<-hs],rfl⟩
@[simp] theorem RW.d_row(i c n:Nat)(cs:List D):(RW.row i c cs).d n=.sref i 0 n c:=rfl
@[simp] theorem RW.d_full(es:List (List D))(n:Nat):(RW.full es).d n=.slice es .clip:=rfl
def Dq(b:UInt8):List D:=[.int .u8 (b.toNat:Int)]
@[simp] theorem byteL_len(b:UInt8):(Dq b).length=1:=rfl
theorem Fq: ∀l:List UInt8,(l.map Dq).flatten=l.map byD
 |[]=>rfl
 |b::l=>by rw[List.map_cons,List.flatten_cons,Fq l];rfl
def PkS(ib:Nat)(S0:Sig)(bs:List UInt8)(O:Sig):Prop:=
 Sub S0 O/\S0 ib=none /\ ∃r:RW,O ib=some (.cells [r.d (bs.map Dq).length])/\RWAt O 1 r (bs.map Dq) /\ ¬r.is ib/\(∀j,r.is j->S0 j=none)/\(bs.length<=1 \/ ∃i c cs,r=.row i c cs)
section
variable {ro:Ro}{n:Nat}{ops:Array Oper}{N:Nat}{S0:Sig}{Q:DX->St->Prop}{df:List DDf}{rest:List Oper}{γ Sr:List (Nat×D)}{O:Sig}{t:Nat}{ty:TypeId}{pos:String}{after:Array Edge}{d:D}
theorem xappN{T T' e e' sz:Nat}{s x:Operand}{es new:List (List D)}{r:RW}(h:∀i c cs U',RWAt U' sz (.row i c cs) (es++new)->RWK O r U' (.row i c cs)->DOps prog ro n ops Q rest ⟨(t,.sref i 0 (es.length+new.length) c)::γ,U',df⟩)(hm:RWAt O sz r es){dx:D}(h2:Jt prog O sz dx new)(hne:new≠[])(bx:∀c∈new,BC c=true)
  (hlen':∀c∈new,c.length=sz)
  (hl:A0 γ (A5 [s,x])=some Sr:=by exact tdR) (hx:ev Sr x=dx:=by exact tdR) (hk:(tab T).k=.slice e:=by(simp<;>rfl)) (bt:(tab T').k=.slice e':=by(simp<;>rfl)) (he:A1 (tab e).k=false:=by simp) (hsz:(tab e).size=sz:=by simp)
  (h1:ev Sr s=r.d es.length:=by first|with_unfolding_all rfl|(simp[ev,getD,List.lookup];done))
  (hb:(es.length+new.length)*(tab e).bytes<=140737488355328:=by first|(simp;done)|(simp;omega)) (hm2:es.length+new.length<=9223372036854775807:=by first|(simp;done)|(simp;omega)) (aG:decide (t<n)=true:=by exact tdR) :
  DOps prog ro n ops Q (⟨some t,(cA s x T T'),ty,pos,after,none⟩::rest) ⟨γ,O,df⟩:=by
 obtain⟨e1,e2⟩:=evs hl
 subst hx
 exact DZ Ac (by simpa using aG) hk bt he hsz (by rw[<-e1];exact h1) hm (by rw[<-e2];exact h2) hlen' bx hb hm2 fun r' U' h1 h2 h3=>by
  rcases h3 with⟨h3,_⟩|⟨i,c,cs,rfl⟩
  ·exact absurd h3 hne
  ·exact h i c cs U' h1 h2
end
theorem Fk(ib:Nat)(S0:Sig)(bs:List UInt8)(n:Nat)(O:Sig)(hB:PkS ib S0 bs O)(hn:n<=10000000000)(hb:bs.length<=1000000):DCall prog 71 [.ptr ib 0,dI n] O fun x U'=>x=.ret (.tup [])/\PkS ib S0 (bs++digB n) U':=by
 obtain⟨hS,h0,r0,aV,bd,bc,aL,_⟩:=hB
 refine en func71 ntmps71 ?_
 refine gz ?_
 refine Nf [0,22,23,24,25,26,27,28,29,30] (fun (m:Nat) (ds:List UInt8) (r:RW) (S2:Sig)=>((∃k,m<128 ^ k/\hiB k m++ds.reverse=digB n/\k+ds.length=11)/\m<=10000000000)/\RWAt S2 1 r (ds.map Dq)/\RWK O .nil S2 r/\((∃b,ds=[b]/\r=.full [Dq b]) \/ ∃i c cs,r=.row i c cs)) (fun m ds r _=>[(1,dI m),(4,r.d (ds.map Dq).length)]) (fun _ _ _ S2=>S2) (fun m _ _ _=>m) (n / 128) ([UInt8.ofNat (n % 128)]) (.full [Dq (UInt8.ofNat (n % 128))]) (O) (by exact⟨⟨⟨10,by omega,rfl,rfl⟩,by omega⟩,⟨rfl,by simp⟩,RWK.refl _ _,.inl ⟨_,rfl,rfl⟩⟩) (fun m ds r S2 hI=>?_)
 obtain⟨⟨⟨k,be,au,bI⟩,bF⟩,hR,hK,hF⟩:=hI
 by_cases hm:0<m
 ·have hw:IntKind.u8.wrap (IntKind.i64.wrap ((m:Int).tmod 128+128))=((UInt8.ofNat (128+m % 128)).toNat:Int):=by
   have e:(m:Int).tmod 128=((m % 128:Nat):Int):=by rw[Int.tmod_eq_emod_of_nonneg (by omega)];rfl
   rw[e,Du (by omega),HJ,As (by omega) (by omega)];omega
  obtain⟨k,rfl⟩:∃k',k=k'+1:=by
   cases k with
   |zero=>simp at be;omega
   |succ k=>exact⟨k,rfl⟩
  rw[hiB,if_neg (by omega)]at au
  obtain⟨y,hy⟩:∃y,UInt8.ofNat (128+m % 128)=y:=⟨_,rfl⟩
  rw[hy]at hw au
  refine gz ?_
  simp only[hw]
  refine xapp (new:=[[.int .u8 (y.toNat:Int)]]) (fun i c cs S3 aK bB=>?_) hR (h1:=by simp)
  have aA:RWAt S3 1 (.row i c cs) ((ds++[y]).map Dq):=by rw[List.map_append];exact aK
  refine gz ?_
  exact⟨m / 128,ds++[y],.row i c cs,S3,⟨⟨⟨k,by rw[Nat.pow_succ]at be;omega,by rw[List.reverse_append];simpa[List.append_assoc] using au,by simp;omega⟩,by omega⟩,aA,hK.trans bB,.inr ⟨_,_,_,rfl⟩⟩,td1,wkR⟩
 ·obtain rfl:m=0:=by omega
  have aP:ds.reverse=digB n:=by rw[<-au];cases k<;>simp[hiB]
  have bM:(digB n).length<=11:=by rw[<-aP];simp;omega
  rcases hF with⟨b,rfl,rfl⟩|⟨i,c,cs,rfl⟩
  ·have hd:[b]=digB n:=aP
   refine gz ?_
   refine A3 (PB (.int .u8 (b.toNat:Int)) S2) (fun d S3 hr=>?_) (fun d S3 hr=>by cases hr.1)
   obtain⟨aY,rfl⟩:=hr
   cases aY
   have ai:S3 ib=some (.cells [r0.d (bs.map Dq).length]):=(hK ib _ aV id).1
   have aK:RWAt S3 1 r0 (bs.map Dq):=bd.keep fun j o hj _=>(hK j o hj id).1
   refine gf ai ?_
   refine xappN (new:=(digB n).map Dq) (fun j c' cs' S4 aA aB=>?_) aK (Hl (d:=.slice [Dq b] .clip) (by rw[<-hd];rfl) (by simp)) (by simp[digB]) (fun x hx=>by obtain⟨b,_,rfl⟩:=List.mem_map.1 hx;rfl) (fun x hx=>by obtain⟨b,_,rfl⟩:=List.mem_map.1 hx;rfl) (h1:=by simp) (hb:=by simp;omega) (hm2:=by simp;omega)
   have ae:=aB ib _ ai bc
   rw[<-List.map_append]at aA
   have aw:S4 ib=some (.cells [r0.d bs.length]):=by rw[ae.1];simp
   refine gf aw ?_
   refine DK (U':=S4.set ib (.cells [.sref j 0 (bs++digB n).length c'])) ⟨rfl,?_,h0,.row j c' cs',?_,?_,?_,?_,.inr ⟨_,_,_,rfl⟩⟩ (hU:=by simp;exact Sub.refl _)
   ·exact fun x o hx=>by rw[w7 _ _ (fun e=>by rw[e,h0]at hx;cases hx)];exact(aB x o (hK x o (hS x o hx) id).1 (fun ap=>by rw[aL x ap]at hx;cases hx)).1
   ·rw[w6];simp
   ·exact aA.keep fun x o hx hj=>by rw[w7 _ _ (fun e=>by subst e;exact ae.2 hj)];exact hx
   ·exact ae.2
   ·exact fun x hx=>by cases h:S0 x with|none=>rfl|some o=>exact absurd hx (aB x o (hK x o (hS x o h) id).1 (fun ap=>by rw[aL x ap]at h;cases h)).2
  ·obtain⟨q1,q2,q3,q4⟩:=hR
   rw[Fq]at q1
   rw[List.length_map]at q3
   have aM:∀j o,O j=some o->j≠i:=fun j o hj e=>(hK j o hj id).2 e
   have hne:=aM ib _ aV
   refine gz ?_
   refine A3 (SQ ds cs i c S2 (by omega) q3 q1) (fun d S3 hr=>?_) (fun d S3 hr=>by cases hr.1)
   obtain⟨aY,aC⟩:=hr
   cases aY
   rw[aP]at aC
   have aT:Jt prog S3 1 (.sref i 0 ds.length c) ((digB n).map Dq):=by
    have e:ds.length=((digB n).map Dq).length:=by rw[<-aP];simp
    rw[e]
    refine KA (pre:=[]) (rest:=cs) (by rw[aC,w6,Fq];rfl) rfl (fun x hx=>by obtain⟨b,_,rfl⟩:=List.mem_map.1 hx;rfl) (by rw[<-e];exact q3)
   have ai:S3 ib=some (.cells [r0.d (bs.map Dq).length]):=by rw[aC,w7 _ _ hne];exact(hK ib _ aV id).1
   have aK:RWAt S3 1 r0 (bs.map Dq):=bd.keep fun j o hj _=>by rw[aC,w7 _ _ (aM j _ hj)];exact(hK j o hj id).1
   refine gf ai ?_
   refine xappN (new:=(digB n).map Dq) (fun j c' cs' S4 aA aB=>?_) aK (aT) (by simp[digB]) (fun x hx=>by obtain⟨b,_,rfl⟩:=List.mem_map.1 hx;rfl) (fun x hx=>by obtain⟨b,_,rfl⟩:=List.mem_map.1 hx;rfl) (h1:=by simp) (hb:=by simp;omega) (hm2:=by simp;omega)
   have ae:=aB ib _ ai bc
   rw[<-List.map_append]at aA
   have aw:S4 ib=some (.cells [r0.d bs.length]):=by rw[ae.1];simp
   refine gf aw ?_
   refine DK (U':=S4.set ib (.cells [.sref j 0 (bs++digB n).length c'])) ⟨rfl,?_,h0,.row j c' cs',?_,?_,?_,?_,.inr ⟨_,_,_,rfl⟩⟩ (hU:=by simp;exact Sub.refl _)
   ·exact fun x o hx=>by rw[w7 _ _ (fun e=>by rw[e,h0]at hx;cases hx)];exact(aB x o (by rw[aC,w7 _ _ (aM x _ (hS x o hx))];exact(hK x o (hS x o hx) id).1) (fun ap=>by rw[aL x ap]at hx;cases hx)).1
   ·rw[w6];simp
   ·exact aA.keep fun x o hx hj=>by rw[w7 _ _ (fun e=>by subst e;exact ae.2 hj)];exact hx
   ·exact ae.2
   ·exact fun x hx=>by cases h:S0 x with|none=>rfl|some o=>exact absurd hx (aB x o (by rw[aC,w7 _ _ (aM x _ (hS x o h))];exact(hK x o (hS x o h) id).1) (fun ap=>by rw[aL x ap]at h;cases h)).2
theorem PkS.put{ib:Nat}{S0 O S4:Sig}{bs new:List UInt8}{r:RW}{j c:Nat}{cs:List D}(hS:Sub S0 O)(h0:S0 ib=none)(h1:O ib=some (.cells [r.d (bs.map Dq).length]))(h3:¬r.is ib)(h4:∀j,r.is j->S0 j=none)(hR:RWAt S4 1 (.row j c cs) ((bs++new).map Dq))(hK:RWK O r S4 (.row j c cs)):PkS ib S0 (bs++new) (S4.set ib (.cells [.sref j 0 (bs++new).length c])):=by
 have aH:=hK ib _ h1 h3
 have au:∀x o,S0 x=some o->S4 x=some o /\ ¬(RW.row j c cs).is x:=fun x o hx=>hK x o (hS x o hx) fun h=>by rw[h4 x h]at hx;cases hx
 refine⟨fun x o hx=>?_,h0,.row j c cs,?_,?_,aH.2,fun x hx=>?_,.inr ⟨_,_,_,rfl⟩⟩
 ·rw[w7 _ _ (fun e=>by rw[e,h0]at hx;cases hx)];exact(au x o hx).1
 ·rw[w6];simp
 ·exact hR.keep fun x o hx hj=>by rw[w7 _ _ (fun e=>by subst e;exact aH.2 hj)];exact hx
 ·cases h:S0 x with
  |none=>rfl
  |some o=>exact absurd hx (au x o h).2
end Go.DL
