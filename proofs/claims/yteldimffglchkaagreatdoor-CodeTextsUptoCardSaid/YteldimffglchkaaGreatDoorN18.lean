/- A part of the proof. -/
import Derived.Test.YteldimffglchkaaGreatDoorN17
import Derived.Test.YteldimffglchkaaGreatDoorN15
import Derived.Test.YteldimffglchkaaGreatDoorN11
import Derived.Test.YteldimffglchkaaGreatDoorN07
import Derived.Test.YteldimffglchkaaGreatDoorN14
import Derived.Test.YteldimffglchkaaGreatDoorN16
import Derived.Test.YteldimffglchkaaGreatDoorN04
set_option linter.all false
namespace Go.DL
open Go.Proofs.Tryz
open Go Go.Proofs
set_option maxHeartbeats 8000000
def rvk(l:List UInt8)(k:Nat):List UInt8:=(List.range l.length).map fun j=>if j<k\/l.length<=j+k then l.getD (l.length-1-j) 0 else l.getD j 0
@[simp] theorem rvk_len(l:List UInt8)(k:Nat):(rvk l k).length=l.length:=by simp[rvk]
theorem GT(l:List UInt8)(k j:Nat)(h:j<l.length):(rvk l k)[j]? = some (if j<k\/l.length<=j+k then l.getD (l.length-1-j) 0 else l.getD j 0):=by
 unfold rvk;rw[List.getElem?_map,List.getElem?_range h];rfl
theorem getD_some{l:List UInt8}{j:Nat}(h:j<l.length):l[j]? = some (l.getD j 0):=by rw[List.getD_eq_getElem?_getD,List.getElem?_eq_getElem h];rfl
theorem rvk_0(l:List UInt8):rvk l 0=l:=by
 refine List.ext_getElem? fun j=>?_
 by_cases h:j<l.length
 ·rw[GT l 0 j h,if_neg (by omega),getD_some h]
 ·rw[List.getElem?_eq_none (by simp;omega),List.getElem?_eq_none (by omega)]
theorem rvk_end(l:List UInt8)(k:Nat)(h:l.length<=2*k+1):rvk l k=l.reverse:=by
 refine List.ext_getElem? fun j=>?_
 by_cases hj:j<l.length
 ·rw[GT l k j hj,List.getElem?_reverse hj,getD_some (by omega)]
  by_cases h2:j<k\/l.length<=j+k
  ·rw[if_pos h2]
  ·rw[if_neg h2,show l.length-1-j=j by omega]
 ·rw[List.getElem?_eq_none (by simp;omega),List.getElem?_eq_none (by simp;omega)]
theorem rvk_set(l:List UInt8)(k:Nat)(h:2*k+1<l.length):((rvk l k).set k (l.getD (l.length-1-k) 0)).set (l.length-1-k) (l.getD k 0)=rvk l (k+1):=by
 refine List.ext_getElem? fun j=>?_
 by_cases hj:j<l.length
 ·rw[GT l _ j hj]
  by_cases h1:j=l.length-1-k
  ·subst h1
   rw[List.getElem?_set_self (by simp;omega),if_pos (by omega)]
   congr 2;omega
  ·rw[List.getElem?_set_ne (fun e=>h1 e.symm)]
   by_cases h2:j=k
   ·subst h2
    rw[List.getElem?_set_self (by simp;omega),if_pos (by omega)]
   ·rw[List.getElem?_set_ne (fun e=>h2 e.symm),GT l k j hj]
    congr 1
    by_cases h3:j<k\/l.length<=j+k
    ·rw[if_pos h3,if_pos (by omega)]
    ·rw[if_neg h3,if_neg (by omega)]
 ·rw[List.getElem?_eq_none (by simp;omega),List.getElem?_eq_none (by simp;omega)]
def byD(b:UInt8):D:=.int .u8 (b.toNat:Int)
theorem NN{α:Type}(l:List α)(k:Nat)(x:α)(h:k<l.length):l.take k++[x]++l.drop (k+1)=l.set k x:=by
 rw[List.set_eq_take_append_cons_drop,if_pos h,List.append_assoc];rfl
theorem Px(b:D)(O:Sig):DCall prog 155 [.slice [[b]] .clip] O (rS (.tup []) O):=by
 refine en func155 ntmps155 ?_
 refine gz ?_ o155
 refine Cg [0] (fun (k:Nat)=>True) (fun _=>[(2,dI 0),(3,dI 0)]) (fun _=>O) (fun _=>1) (0) (by trivial) (fun k hI=>?_)
 refine gz ?_ o155
 refine DZ (U':=O) ⟨rfl,rfl⟩
theorem SM(bs:List UInt8)(rest:List D)(i cap:Nat)(O:Sig)(hn:bs.length<=1000000)(hc:bs.length<=cap)(hi:O i=some (.cells (bs.map byD++rest))):DCall prog 155 [.sref i 0 bs.length cap] O fun x U'=>x=.ret (.tup [])/\U'=O.set i (.cells (bs.reverse.map byD++rest)):=by
 refine en func155 ntmps155 ?_
 refine gz ?_ o155
 refine D7 [0] (fun (k:Nat) (U2:Sig)=>k<=bs.length/\(∀j,j≠i->U2 j=O j)/\U2 i=some (.cells ((rvk bs k).map byD++rest))) (fun k _=>[(2,dI k),(3,dI ((bs.length:Int)-1-k))]) (fun _ U2=>U2) (fun k _=>bs.length-k) (0) (O) (by exact⟨Nat.zero_le _,fun _ _=>rfl,by rw[rvk_0];exact hi⟩) (fun k U2 hI=>?_)
 obtain⟨b8,hs,aA⟩:=hI
 by_cases hk:2*k+1<bs.length
 ·obtain⟨L,hL⟩:∃L,L=(rvk bs k).map byD++rest:=⟨_,rfl⟩
  rw[<-hL]at aA
  have bl:bs.length<=L.length:=by rw[hL];simp
  have hx:L[k]? = some (byD (bs.getD k 0)):=by rw[hL,List.getElem?_append_left (by simp;omega),List.getElem?_map,GT bs k k (by omega),if_neg (by omega)];rfl
  have hy:L[bs.length-1-k]? = some (byD (bs.getD (bs.length-1-k) 0)):=by rw[hL,List.getElem?_append_left (by simp;omega),List.getElem?_map,GT bs k _ (by omega),if_neg (by omega)];rfl
  have hE:(L.set k (byD (bs.getD (bs.length-1-k) 0))).set (bs.length-1-k) (byD (bs.getD k 0))=(rvk bs (k+1)).map byD++rest:=by
   rw[hL,List.set_append_left _ _ (by simp;omega),List.set_append_left _ _ (by simp;omega),<-List.map_set,<-List.map_set,rvk_set bs k hk]
  unfold byD at hx hy hE
  generalize (bs.getD k 0).toNat=x at*
  generalize (bs.getD (bs.length-1-k) 0).toNat=y at*
  have hX:L[k]'(by omega)=.int .u8 x:=by have:=hx;rw[List.getElem?_eq_getElem (by omega)]at this;exact Option.some.inj this
  have hY:L[bs.length-1-k]'(by omega)=.int .u8 y:=by have:=hy;rw[List.getElem?_eq_getElem (by omega)]at this;exact Option.some.inj this
  have bF:=NN L k (.int .u8 y) (by omega)
  have bE:=NN (L.set k (.int .u8 y)) (bs.length-1-k) (.int .u8 x) (by simp;omega)
  simp only[List.append_assoc,List.singleton_append]at bF bE
  have ce:¬L.length<k+1:=by omega
  have cd:¬L.length<bs.length-1-k+1:=by omega
  refine gz ?_
  refine mixK (id:=3) [0,1,2,3,4,5,6,7,8,9,10,11,12,13,14,15] [13,15] [7,11] [13,15] U2 (Sub.refl _) ?_
  refine k4R (.sref i 0 bs.length cap) ?_
  refine k4R (dI k) ?_
  refine k4R (.sref i 0 bs.length cap) ?_
  refine k4R (dI ((bs.length:Int)-1-k)) ?_
  refine k4R (.sref i 0 bs.length cap) ?_
  refine k4R (dI ((bs.length:Int)-1-k)) ?_
  refine k4R (.ptr i (bs.length-1-k)) ?_ (hd:=by simp(disch:=omega);omega)
  refine k4R (.int .u8 y) ?_ (hd:=by simp[aA,hy])
  refine k4R (.sref i 0 bs.length cap) ?_
  refine k4R (dI k) ?_
  refine k4R (.ptr i k) ?_ (hd:=by simp(disch:=omega);omega)
  refine k4R (.int .u8 x) ?_ (hd:=by simp[aA,hx])
  refine k4R (.ptr i k) ?_ (hd:=by simp(disch:=omega);omega)
  refine k4S (d:=.any) (U':=U2.set i (.cells (L.set k (.int .u8 y)))) (fun _=>none) (fun _ _ h=>by cases h) ?_ (he:=by simp[aA,bF,ce])
  refine k4R (.ptr i (bs.length-1-k)) ?_ (hd:=by simp(disch:=omega);omega)
  refine k4S (d:=.any) (U':=(U2.set i (.cells (L.set k (.int .u8 y)))).set i (.cells ((L.set k (.int .u8 y)).set (bs.length-1-k) (.int .u8 x)))) (fun _=>none) (fun _ _ h=>by cases h) ?_ (he:=by simp[bE,cd])
  refine k4N ?_
  rw[hE]
  refine gz ?_ o155
  exact⟨k+1,(U2.set i (.cells (L.set k (.int .u8 y)))).set i (.cells ((rvk bs (k+1)).map byD++rest)),⟨by omega,fun j hj=>by rw[w7 _ _ hj,w7 _ _ hj];exact hs j hj,w6 ..⟩,td1,wkR⟩
 ·refine gz ?_ o155
  refine DZ (U':=U2) ⟨rfl,?_⟩
  rw[rvk_end bs k (by omega)]at aA
  funext j
  by_cases hj:j=i
  ·subst hj;rw[w6,aA]
  ·rw[w7 _ _ hj,hs j hj]
theorem FC(x:Int):IntKind.u8.wrap x=x % 256:=by
 simp[IntKind.wrap,IntKind.bits,IntKind.signed]
theorem u8_step(z c:UInt8):IntKind.u8.wrap (IntKind.u8.wrap (IntKind.u8.wrap (3*(z.toNat:Int))+(c.toNat:Int))+1)=((3*z+c+1).toNat:Int):=by
 rw[FC,FC,FC,UInt8.toNat_add,UInt8.toNat_add,UInt8.toNat_mul]
 simp only[UInt8.reduceToNat]
 omega
theorem UL(bs:List UInt8)(i cap:Nat)(rest:List D)(O:Sig)(hn:bs.length<=1000000)(hc:bs.length<=cap)(hi:O i=some (.cells (bs.map byD++rest))):DCall prog 73 [.sref i 0 bs.length cap] O (rS (.int .u8 ((sumB bs 0).toNat:Int)) O):=by
 refine en func73 ntmps73 ?_
 refine gz ?_
 refine D7 [2,6,7,18] (fun (k:Nat) (z:UInt8)=>k<=bs.length/\sumB (bs.drop k) z=sumB bs 0) (fun k z=>[(8,dI k),(3,.int .u8 (z.toNat:Int))]) (fun _ _=>O) (fun k _=>bs.length-k) (0) (0) (by exact⟨Nat.zero_le _,rfl⟩) (fun k z hI=>?_)
 obtain⟨b8,hs⟩:=hI
 by_cases hk:k<bs.length
 ·obtain⟨L,hL⟩:∃L,L=bs.map byD++rest:=⟨_,rfl⟩
  rw[<-hL]at hi
  have bl:bs.length<=L.length:=by rw[hL];simp
  have hX:L[k]'(by omega)=.int .u8 (bs[k].toNat:Int):=by subst hL;rw[List.getElem_append_left (by simpa using hk),List.getElem_map];rfl
  rw[Ab hk,sumB]at hs
  refine gf (gi hi hX) ?_
  simp only[u8_step]
  exact⟨k+1,3*z+bs[k]+1,⟨by omega,hs⟩,td1,wkR⟩
 ·rw[Aj hk,sumB]at hs
  refine gz ?_
  refine fin1 (U':=O) ⟨by rw[<-hs],rfl⟩
@[simp] theorem RW.d_row(i c n:Nat)(cs:List D):(RW.row i c cs).d n=.sref i 0 n c:=rfl
@[simp] theorem RW.d_full(es:List (List D))(n:Nat):(RW.full es).d n=.slice es .clip:=rfl
def Dt(b:UInt8):List D:=[.int .u8 (b.toNat:Int)]
@[simp] theorem byteL_len(b:UInt8):(Dt b).length=1:=rfl
theorem Fo: ∀l:List UInt8,(l.map Dt).flatten=l.map byD
 |[]=>rfl
 |b::l=>by rw[List.map_cons,List.flatten_cons,Fo l];rfl
def PkS(ib:Nat)(S0:Sig)(bs:List UInt8)(O:Sig):Prop:=
 Sub S0 O/\S0 ib=none /\ ∃r:RW,O ib=some (.cells [r.d (bs.map Dt).length])/\RWAt O 1 r (bs.map Dt) /\ ¬r.is ib/\(∀j,r.is j->S0 j=none)/\(bs.length<=1 \/ ∃i c cs,r=.row i c cs)
section
variable {ro:Ro}{n:Nat}{ops:Array Oper}{N:Nat}{S0:Sig}{Q:DX->St->Prop}{df:List DDf}{rest:List Oper}{γ Sr:List (Nat×D)}{O:Sig}{t:Nat}{ty:TypeId}{pos:String}{after:Array Edge}{d:D}
theorem xappN{T T' e e' sz:Nat}{s x:Operand}{es new:List (List D)}{r:RW}(h:∀i c cs U',RWAt U' sz (.row i c cs) (es++new)->RWK O r U' (.row i c cs)->DOps prog ro n ops Q rest ⟨(t,.sref i 0 (es.length+new.length) c)::γ,U',df⟩)(hm:RWAt O sz r es){dx:D}(h2:Jp prog O sz dx new)(hne:new≠[])(br:∀c∈new,BB c=true)
  (hlen':∀c∈new,c.length=sz)
  (hl:A0 γ (A5 [s,x])=some Sr:=by exact tdR) (hx:ev Sr x=dx:=by exact tdR) (hk:(tab T).k=.slice e:=by(simp<;>rfl)) (aM:(tab T').k=.slice e':=by(simp<;>rfl)) (he:A1 (tab e).k=false:=by simp) (hsz:(tab e).size=sz:=by simp)
  (h1:ev Sr s=r.d es.length:=by first|with_unfolding_all rfl|(simp[ev,getD,List.lookup];done))
  (hb:(es.length+new.length)*(tab e).bytes<=140737488355328:=by first|(simp;done)|(simp;omega)) (hm2:es.length+new.length<=9223372036854775807:=by first|(simp;done)|(simp;omega)) (aD:decide (t<n)=true:=by exact tdR) :
  DOps prog ro n ops Q (⟨some t,(cA s x T T'),ty,pos,after,none⟩::rest) ⟨γ,O,df⟩:=by
 obtain⟨e1,e2⟩:=evs hl
 subst hx
 exact E1 Ad (by simpa using aD) hk aM he hsz (by rw[<-e1];exact h1) hm (by rw[<-e2];exact h2) hlen' br hb hm2 fun r' U' h1 h2 h3=>by
  rcases h3 with⟨h3,_⟩|⟨i,c,cs,rfl⟩
  ·exact absurd h3 hne
  ·exact h i c cs U' h1 h2
end
theorem Fh(ib:Nat)(S0:Sig)(bs:List UInt8)(n:Nat)(O:Sig)(hB:PkS ib S0 bs O)(hn:n<=10000000000)(hb:bs.length<=1000000):DCall prog 71 [.ptr ib 0,dI n] O fun x U'=>x=.ret (.tup [])/\PkS ib S0 (bs++digB n) U':=by
 obtain⟨hS,h0,r0,bi,aJ,aP,bc,_⟩:=hB
 refine en func71 ntmps71 ?_
 refine gz ?_
 refine Pb [0,22,23,24,25,26,27,28,29,30] (fun (m:Nat) (ds:List UInt8) (r:RW) (U2:Sig)=>((∃k,m<128 ^ k/\hiB k m++ds.reverse=digB n/\k+ds.length=11)/\m<=10000000000)/\RWAt U2 1 r (ds.map Dt)/\RWK O .nil U2 r/\((∃b,ds=[b]/\r=.full [Dt b]) \/ ∃i c cs,r=.row i c cs)) (fun m ds r _=>[(1,dI m),(4,r.d (ds.map Dt).length)]) (fun _ _ _ U2=>U2) (fun m _ _ _=>m) (n / 128) ([UInt8.ofNat (n % 128)]) (.full [Dt (UInt8.ofNat (n % 128))]) (O) (by exact⟨⟨⟨10,by omega,rfl,rfl⟩,by omega⟩,⟨rfl,by simp⟩,RWK.refl _ _,.inl ⟨_,rfl,rfl⟩⟩) (fun m ds r U2 hI=>?_)
 obtain⟨⟨⟨k,aE,ar,cw⟩,cq⟩,hR,hK,hF⟩:=hI
 by_cases hm:0<m
 ·have hw:IntKind.u8.wrap (IntKind.i64.wrap ((m:Int).tmod 128+128))=((UInt8.ofNat (128+m % 128)).toNat:Int):=by
   have e:(m:Int).tmod 128=((m % 128:Nat):Int):=by rw[Int.tmod_eq_emod_of_nonneg (by omega)];rfl
   rw[e,F9 (by omega),FC,At (by omega) (by omega)];omega
  obtain⟨k,rfl⟩:∃k',k=k'+1:=by
   cases k with
   |zero=>simp at aE;omega
   |succ k=>exact⟨k,rfl⟩
  rw[hiB,if_neg (by omega)]at ar
  obtain⟨y,hy⟩:∃y,UInt8.ofNat (128+m % 128)=y:=⟨_,rfl⟩
  rw[hy]at hw ar
  refine gz ?_
  simp only[hw]
  refine xapp (new:=[[.int .u8 (y.toNat:Int)]]) (fun i c cs S3 aN aB=>?_) hR (h1:=by simp)
  have aH:RWAt S3 1 (.row i c cs) ((ds++[y]).map Dt):=by rw[List.map_append];exact aN
  refine gz ?_
  exact⟨m / 128,ds++[y],.row i c cs,S3,⟨⟨⟨k,by rw[Nat.pow_succ]at aE;omega,by rw[List.reverse_append];simpa[List.append_assoc] using ar,by simp;omega⟩,by omega⟩,aH,hK.trans aB,.inr ⟨_,_,_,rfl⟩⟩,td1,wkR⟩
 ·obtain rfl:m=0:=by omega
  have be:ds.reverse=digB n:=by rw[<-ar];cases k<;>simp[hiB]
  have cB:(digB n).length<=11:=by rw[<-be];simp;omega
  rcases hF with⟨b,rfl,rfl⟩|⟨i,c,cs,rfl⟩
  ·have hd:[b]=digB n:=be
   refine gz ?_
   refine A7 (Px (.int .u8 (b.toNat:Int)) U2) (fun d S3 hr=>?_) (fun d S3 hr=>by cases hr.1)
   obtain⟨bt,rfl⟩:=hr
   cases bt
   have au:S3 ib=some (.cells [r0.d (bs.map Dt).length]):=(hK ib _ bi id).1
   have aN:RWAt S3 1 r0 (bs.map Dt):=aJ.keep fun j o hj _=>(hK j o hj id).1
   refine gf au ?_
   refine xappN (new:=(digB n).map Dt) (fun j c' cs' S4 aH ax=>?_) aN (Hi (d:=.slice [Dt b] .clip) (by rw[<-hd];rfl) (by simp)) (by simp[digB]) (fun x hx=>by obtain⟨b,_,rfl⟩:=List.mem_map.1 hx;rfl) (fun x hx=>by obtain⟨b,_,rfl⟩:=List.mem_map.1 hx;rfl) (h1:=by simp) (hb:=by simp;omega) (hm2:=by simp;omega)
   have aj:=ax ib _ au aP
   rw[<-List.map_append]at aH
   have ai:S4 ib=some (.cells [r0.d bs.length]):=by rw[aj.1];simp
   refine gf ai ?_
   refine DZ (U':=S4.set ib (.cells [.sref j 0 (bs++digB n).length c'])) ⟨rfl,?_,h0,.row j c' cs',?_,?_,?_,?_,.inr ⟨_,_,_,rfl⟩⟩ (hU:=by simp;exact Sub.refl _)
   ·exact fun x o hx=>by rw[w7 _ _ (fun e=>by rw[e,h0]at hx;cases hx)];exact(ax x o (hK x o (hS x o hx) id).1 (fun aI=>by rw[bc x aI]at hx;cases hx)).1
   ·rw[w6];simp
   ·exact aH.keep fun x o hx hj=>by rw[w7 _ _ (fun e=>by subst e;exact aj.2 hj)];exact hx
   ·exact aj.2
   ·exact fun x hx=>by cases h:S0 x with|none=>rfl|some o=>exact absurd hx (ax x o (hK x o (hS x o h) id).1 (fun aI=>by rw[bc x aI]at h;cases h)).2
  ·obtain⟨q1,q2,q3,q4⟩:=hR
   rw[Fo]at q1
   rw[List.length_map]at q3
   have bd:∀j o,O j=some o->j≠i:=fun j o hj e=>(hK j o hj id).2 e
   have hne:=bd ib _ bi
   refine gz ?_
   refine A7 (SM ds cs i c U2 (by omega) q3 q1) (fun d S3 hr=>?_) (fun d S3 hr=>by cases hr.1)
   obtain⟨bt,aO⟩:=hr
   cases bt
   rw[be]at aO
   have bf:Jp prog S3 1 (.sref i 0 ds.length c) ((digB n).map Dt):=by
    have e:ds.length=((digB n).map Dt).length:=by rw[<-be];simp
    rw[e]
    refine Kv (pre:=[]) (rest:=cs) (by rw[aO,w6,Fo];rfl) rfl (fun x hx=>by obtain⟨b,_,rfl⟩:=List.mem_map.1 hx;rfl) (by rw[<-e];exact q3)
   have au:S3 ib=some (.cells [r0.d (bs.map Dt).length]):=by rw[aO,w7 _ _ hne];exact(hK ib _ bi id).1
   have aN:RWAt S3 1 r0 (bs.map Dt):=aJ.keep fun j o hj _=>by rw[aO,w7 _ _ (bd j _ hj)];exact(hK j o hj id).1
   refine gf au ?_
   refine xappN (new:=(digB n).map Dt) (fun j c' cs' S4 aH ax=>?_) aN (bf) (by simp[digB]) (fun x hx=>by obtain⟨b,_,rfl⟩:=List.mem_map.1 hx;rfl) (fun x hx=>by obtain⟨b,_,rfl⟩:=List.mem_map.1 hx;rfl) (h1:=by simp) (hb:=by simp;omega) (hm2:=by simp;omega)
   have aj:=ax ib _ au aP
   rw[<-List.map_append]at aH
   have ai:S4 ib=some (.cells [r0.d bs.length]):=by rw[aj.1];simp
   refine gf ai ?_
   refine DZ (U':=S4.set ib (.cells [.sref j 0 (bs++digB n).length c'])) ⟨rfl,?_,h0,.row j c' cs',?_,?_,?_,?_,.inr ⟨_,_,_,rfl⟩⟩ (hU:=by simp;exact Sub.refl _)
   ·exact fun x o hx=>by rw[w7 _ _ (fun e=>by rw[e,h0]at hx;cases hx)];exact(ax x o (by rw[aO,w7 _ _ (bd x _ (hS x o hx))];exact(hK x o (hS x o hx) id).1) (fun aI=>by rw[bc x aI]at hx;cases hx)).1
   ·rw[w6];simp
   ·exact aH.keep fun x o hx hj=>by rw[w7 _ _ (fun e=>by subst e;exact aj.2 hj)];exact hx
   ·exact aj.2
   ·exact fun x hx=>by cases h:S0 x with|none=>rfl|some o=>exact absurd hx (ax x o (by rw[aO,w7 _ _ (bd x _ (hS x o h))];exact(hK x o (hS x o h) id).1) (fun aI=>by rw[bc x aI]at h;cases h)).2
theorem PkS.put{ib:Nat}{S0 O S4:Sig}{bs new:List UInt8}{r:RW}{j c:Nat}{cs:List D}(hS:Sub S0 O)(h0:S0 ib=none)(h1:O ib=some (.cells [r.d (bs.map Dt).length]))(h3:¬r.is ib)(h4:∀j,r.is j->S0 j=none)(hR:RWAt S4 1 (.row j c cs) ((bs++new).map Dt))(hK:RWK O r S4 (.row j c cs)):PkS ib S0 (bs++new) (S4.set ib (.cells [.sref j 0 (bs++new).length c])):=by
 have ay:=hK ib _ h1 h3
 have ar:∀x o,S0 x=some o->S4 x=some o /\ ¬(RW.row j c cs).is x:=fun x o hx=>hK x o (hS x o hx) fun h=>by rw[h4 x h]at hx;cases hx
 refine⟨fun x o hx=>?_,h0,.row j c cs,?_,?_,ay.2,fun x hx=>?_,.inr ⟨_,_,_,rfl⟩⟩
 ·rw[w7 _ _ (fun e=>by rw[e,h0]at hx;cases hx)];exact(ar x o hx).1
 ·rw[w6];simp
 ·exact hR.keep fun x o hx hj=>by rw[w7 _ _ (fun e=>by subst e;exact ay.2 hj)];exact hx
 ·cases h:S0 x with
  |none=>rfl
  |some o=>exact absurd hx (ar x o h).2
section
variable {ro:Ro}{n:Nat}{ops:Array Oper}{N:Nat}{S0:Sig}{Q:DX->St->Prop}{df:List DDf}{rest:List Oper}{γ Sr:List (Nat×D)}{O:Sig}{t:Nat}{ty:TypeId}{pos:String}{after:Array Edge}{d:D}
theorem moXappF{T T' e e' sz:Nat}{s x:Operand}{es new:List (List D)}{r:RW}{l:List (Bool×Oper)}(h:∀U',Sub S0 U'->MO prog ro n ops N S0 Q df l ((t,.slice (es++new) .no)::γ) U')(hC:∀j o,S0 j=some o->O j=some o /\ ¬r.is j)(hm:RWAt O sz r es:=by assumption)
  (hl:A0 γ (A5 [s,x])=some Sr:=by exact tdR) (hk:(tab T).k=.slice e:=by(simp<;>rfl)) (aM:(tab T').k=.slice e':=by(simp<;>rfl)) (he:A1 (tab e).k=false:=by simp) (hsz:(tab e).size=sz:=by simp)
  (h1:ev Sr s=r.d es.length:=by first|with_unfolding_all rfl|(simp[ev,getD,List.lookup];done)) (h2:esOf (ev Sr x)=some new:=by(simp<;>with_unfolding_all rfl))
  (hlen':∀c∈new,c.length=sz:=by first|exact Cc _|exact E3 _|exact CL _|simp) (br:∀c∈new,BB c=true:=by simp[cI,cS,cII,BB,D.flat])
  (hb:(es.length+new.length)*(tab e).bytes<=140737488355328:=by first|(simp;done)|(simp;omega)) (hm2:es.length+new.length<=9223372036854775807:=by first|(simp;done)|(simp;omega)) (aD:decide (t<n)=true:=by exact tdR) :
  MO prog ro n ops N S0 Q df ((true,⟨some t,(cA s x T T'),ty,pos,after,none⟩)::l) γ O:=
 mo1 (fun V2 hx=>by
  obtain⟨e1,e2⟩:=Hd hl hx
  refine E1 Ad (by simpa using aD) hk aM he hsz (by rw[e1];exact h1) hm (by rw[e2];exact Hi h2 hlen') hlen' br hb hm2 (fun r' U' h' hK _=>?_)
  obtain⟨S'',hw,b7⟩:=HF (P:=prog) (n:=n) (γ:=(t,r'.d (es.length+new.length))::V2) (df:=df) (t:=t) h' (by simp[getD,List.lookup])
  have hS:Sub S0 S'':=fun j o hj=>by
   obtain⟨q1,q2⟩:=hC j o hj
   obtain⟨q3,q4⟩:=hK j o q1 q2
   exact b7 j o q3 q4
  refine Ck hw (Au ⟨rfl,?_⟩)
  simp only[A4,if_true]
  exact⟨hS,h S'' hS⟩) aD
theorem moQStr{T T' e:Nat}{x:Operand}{s:List UInt8}{ef:Bool}{l:List (Bool×Oper)}(h:MO prog ro n ops N S0 Q df l ((t,.str s)::γ) O)(hl:A0 γ (A5 [x])=some Sr:=by exact tdR)(hk:(tab T).k=.slice e:=by(simp<;>rfl))(aM:(tab T').k=.str:=by(simp<;>rfl))(bn:(tab e).k=.int .u8:=by(simp<;>rfl))
  (h1:esOf (ev Sr x)=some (s.map fun b=>[D.int .u8 (b.toNat:Int)])) (aD:decide (t<n)=true:=by exact tdR) :
  MO prog ro n ops N S0 Q df ((ef,⟨some t,.convert T T' x,ty,pos,after,none⟩)::l) γ O:=by
 have aK:∀y∈(Op.convert T T' x).operands,ev (only (Oper.looksAt ops ⟨some t,.convert T T' x,ty,pos,after,none⟩) γ) y=ev γ y:=fun y hy=>Bl (o:=⟨some t,.convert T T' x,ty,pos,after,none⟩) hy
 have hx:∀y∈[x],ev Sr y=ev γ y:=fun y hy=>B2 fun t ht=>Aq hl t (Ax (by rw[<-ht];exact hy))
 refine Hx (.str s) aD rfl (by rw[Af];rfl) (fun U' cF ro' df'=>?_) h
 refine Oz Ad (Au ⟨rfl,?_⟩) (by rw[Af];rfl) (by simpa using aD) hk aM bn (by rw[aK x (by simp[Op.operands]),<-hx x (by simp)];exact h1)
 simp only[A4,if_true]
 exact⟨trivial,Sub.refl _⟩
end
theorem UX(c:CProg)(O:Sig)(h1:c.ins.length<=1073741824)(h2:c.starts.length<=1073741824):DCall prog 36 [.agg (cCPg c)] O (rS (if AG c then .tup [.str (J4 c),dI 0] else .tup [.str [],dI 2]) O):=by
 refine en func36 ntmps36 ?_
 repeat' first|refine gz ?_ o36 [4]|apply gy<;>intro hh
 ·refine fin2 (U':=O) ⟨by rw[hh];rfl,rfl⟩
 ·have hp:=hh
  unfold AG at hp
  simp only[Bool.and_eq_true,decide_eq_true_eq]at hp
  obtain⟨c1,c2,c3,c4,c5⟩:=hp
  have hT:=TF hh
  have hm:0<=c.main/\c.main<=1000000000:=by unfold farN at c3;simpa using c3
  refine newV (fun ib ay=>?_)
  refine gz ?_ o36 [4]
  have bC:PkS ib O [199] (O.set ib (.cells [.slice [[.int .u8 199]] .clip])):=⟨(Sub.refl _).set ay,ay,.full [Dt 199],w6 .., ⟨rfl,by simp⟩,id,fun _ h=>h.elim,.inl (by simp)⟩
  try simp only[Sig.set_set]
  generalize O.set ib (.cells [.slice [[.int .u8 199]] .clip])=U1 at bC⊢
  have aT:J4 c=rawB c++[sumB (rawB c) 0]:=rfl
  have bU:=congrArg List.length aT
  rw[List.length_append,List.length_singleton]at bU
  have hr:rawB c=[199]++(digB c.starts.length++(listB (fun n:Int=>digB n.toNat) c.starts++(digB c.main.toNat++(digB c.ins.length++listB insB c.ins)))):=rfl
  have aJ:=congrArg List.length hr
  simp only[List.length_append,List.length_singleton]at aJ
  refine A7 (Fh ib O [199] c.starts.length U1 bC (by omega) (by simp)) (fun d U2 hr=>?_) (fun d U2 hr=>by cases hr.1)
  obtain⟨hd,hB⟩:=hr
  cases hd
  refine gz ?_ o36 [4]
  refine Ft [1,2,3,4,8,18,19,27,28,29,30,31,32,33,34,35,36,37,38,39,40,41,42,43,44,45,46,47,48,49,50,51,52,53,54,55,56,57,58,59,60,61,62,63,64,65,66,67,68,69,70] (fun (k:Nat) (bs:List UInt8) (U2:Sig)=>k<=c.starts.length/\PkS ib O bs U2/\bs++(listB (fun n:Int=>digB n.toNat) (c.starts.drop k)++(digB c.main.toNat++(digB c.ins.length++listB insB c.ins)))=rawB c) (fun k _ _=>[(20,dI k)]) (fun _ _ U2=>U2) (fun k _ _=>c.starts.length-k) (0) ([199]++digB c.starts.length) (U2) (by exact⟨by omega,hB,by rw[hr];simp⟩) (fun k bs U2 hI=>?_)
  clear hB bC
  obtain⟨hk,hB,hE⟩:=hI
  have bB:=congrArg List.length hE
  rw[List.length_append]at bB
  by_cases ah:k<c.starts.length
  ·rw[Ab ah,listB]at hE
   have hn:=List.all_eq_true.1 c4 _ (List.getElem_mem ah)
   unfold farN at hn
   simp only[decide_eq_true_eq]at hn
   obtain⟨w,hw⟩:∃w:Nat,c.starts[k]=(w:Int):=⟨c.starts[k].toNat,by omega⟩
   rw[hw]at hn hE
   refine gf hw ?_ o36 [4]
   refine A7 (Fh ib O bs w U2 hB (by omega) (by omega)) (fun d S3 hr=>?_) (fun d S3 hr=>by cases hr.1)
   obtain⟨hd,ak⟩:=hr
   cases hd
   refine gz ?_ o36 [4]
   exact⟨k+1,_,_,⟨by omega,ak,by simpa[List.append_assoc] using hE⟩,td1,wkR⟩
  ·rw [Aj ah,listB,List.nil_append] at hE
   obtain⟨w,hw⟩:∃w:Nat,c.main=(w:Int):=⟨c.main.toNat,by omega⟩
   rw[hw]at hm hE
   refine gf hw ?_ o36 [4]
   refine A7 (Fh ib O bs w U2 hB (by omega) (by omega)) (fun d S3 hr=>?_) (fun d S3 hr=>by cases hr.1)
   obtain⟨hd,ak⟩:=hr
   cases hd
   have bA:=congrArg List.length hE
   simp only[List.length_append,Int.toNat_natCast]at bA
   refine gz ?_ o36 [4]
   refine A7 (Fh ib O (bs++digB w) c.ins.length S3 ak (by omega) (by simp;omega)) (fun d S4 hr=>?_) (fun d S4 hr=>by cases hr.1)
   obtain⟨hd,aC⟩:=hr
   cases hd
   refine gz ?_ o36 [4]
   refine Ft [2,3,4,35,36,65,66,67,68,69,70] (fun (k:Nat) (bs:List UInt8) (U2:Sig)=>k<=c.ins.length/\PkS ib O bs U2/\bs++listB insB (c.ins.drop k)=rawB c) (fun k _ _=>[(37,dI k)]) (fun _ _ U2=>U2) (fun k _ _=>c.ins.length-k) (0) (bs++digB w++digB c.ins.length) (S4) (by exact⟨by omega,aC,by simpa[List.append_assoc] using hE⟩) (fun k bs U2 hI=>?_)
   clear hB ak aC hE
   obtain⟨hk,hB,hE⟩:=hI
   have bB:=congrArg List.length hE
   rw[List.length_append]at bB
   by_cases ah:k<c.ins.length
   ·rw [Ab ah,listB] at hE
    have hI:=List.all_eq_true.1 c5 _ (List.getElem_mem ah)
    unfold BI at hI
    simp only[Bool.and_eq_true,decide_eq_true_eq]at hI
    obtain⟨⟨cy,aA⟩,aw⟩:=hI
    obtain⟨w,hw⟩:∃w:Nat,c.ins[k].op=(w:Int):=⟨c.ins[k].op.toNat,by omega⟩
    obtain⟨hS,h0,r,q1,q2,q3,q4,q5⟩:=hB
    obtain⟨y,hy⟩:∃y,UInt8.ofNat c.ins[k].op.toNat=y:=⟨_,rfl⟩
    have bL:IntKind.u8.wrap c.ins[k].op=(y.toNat:Int):=by rw[<-hy,hw,FC,F9 (by omega)];omega
    have bz : -1000000000<=c.ins[k].a/\c.ins[k].a<=1000000000/\(c.ins[k].a<0->hasA c.ins[k].op=true):=by
     split at aw
     ·rename_i hA
      refine⟨?_,?_,fun _=>hA⟩<;>split at aw
      ·unfold inB at aw;simp at aw;omega
      ·unfold farN at aw;simp at aw;omega
      ·unfold inB at aw;simp at aw;omega
      ·unfold farN at aw;simp at aw;omega
     ·simp at aw;omega
    obtain⟨a1,a2,a3⟩:=bz
    refine gf q1 ?_ o36 [4]
    simp only[bL]
    refine xapp (new:=[[.int .u8 (y.toNat:Int)]]) (fun j c' cs' S3 aN aB=>?_) q2 (h1:=by simp)
    have ay:=aB ib _ q1 q3
    have aH:RWAt S3 1 (.row j c' cs') ((bs++[y]).map Dt):=by rw[List.map_append];exact aN
    have hP:=PkS.put hS h0 q1 q3 q4 aH aB
    have ai:S3 ib=some (.cells [r.d bs.length]):=by rw[ay.1];simp
    simp only[List.length_append,List.length_singleton]at hP
    by_cases aL:c.ins[k].a<0
    ·obtain⟨v,hv⟩:∃v:Nat, -2*c.ins[k].a-1=(v:Int):=⟨(-2*c.ins[k].a-1).toNat,by omega⟩
     have aW:insB c.ins[k]=y::digB v:=by
      unfold insB Rj;rw[hy,if_pos (a3 aL),if_pos aL,hv];rfl
     rw[aW]at hE
     refine gf ai ?_ o36 [4]
     simp only[hv]
     refine A7 (Fh ib O (bs++[y]) v _ hP (by omega) (by simp;omega)) (fun d S4 hr=>?_) (fun d S4 hr=>by cases hr.1)
     obtain⟨hd,aC⟩:=hr
     cases hd
     refine gz ?_ o36 [4]
     exact⟨k+1,_,_,⟨by omega,aC,by simpa[List.append_assoc] using hE⟩,td1,wkR⟩
    ·obtain⟨v,hv⟩:∃v:Nat,2*c.ins[k].a=(v:Int):=⟨(2*c.ins[k].a).toNat,by omega⟩
     by_cases hA:hasA c.ins[k].op=true
     ·have aW:insB c.ins[k]=y::digB v:=by
       unfold insB Rj;rw[hy,if_pos hA,if_neg aL,hv];rfl
      rw[aW]at hE
      refine gf (gi ai hA) ?_ o36 [4]
      simp only[hv]
      refine A7 (Fh ib O (bs++[y]) v _ hP (by omega) (by simp;omega)) (fun d S4 hr=>?_) (fun d S4 hr=>by cases hr.1)
      obtain⟨hd,aC⟩:=hr
      cases hd
      refine gz ?_ o36 [4]
      exact⟨k+1,_,_,⟨by omega,aC,by simpa[List.append_assoc] using hE⟩,td1,wkR⟩
     ·have aW:insB c.ins[k]=[y]:=by
       unfold insB;rw[hy,if_neg hA]
      rw[aW]at hE
      refine gf (gi ai hA) ?_ o36 [4]
      exact⟨k+1,_,_,⟨by omega,hP,by simpa[List.append_assoc] using hE⟩,td1,wkR⟩
   ·refine gz ?_ [] [4]
    rw[Aj ah,listB,List.append_nil]at hE
    subst hE
    obtain⟨hS,h0,r,q1,q2,q3,q4,q5⟩:=hB
    refine Ij (id:=21) [0,1,2,3,4,5,6,7] [2,4] (U2.out r.is) (BS _ _) ?_
    have q1':=D8 (touch:=r.is) q1 q3
    have q6:∃i c cs,r=.row i c cs:=by
     rcases q5 with q5|q5
     ·rw[hr]at q5
      simp[digB]at q5
     ·exact q5
    obtain⟨i,cc,cs,rfl⟩:=q6
    refine gf q1' ?_ o36 [4]
    have q7:=q2.1
    have q8:=q2.2.2.1
    rw[Fo]at q7
    rw[List.length_map]at q8
    refine BG (UL (rawB c) i cc cs U2 (by omega) q8 q7) (fun d S3 hr=>?_) (fun d S3 hr=>by cases hr.1)
    obtain⟨hd,rfl⟩:=hr
    cases hd
    refine⟨BS _ _,?_⟩
    refine gz ?_ o36 [4]
    refine moXappF (new:=[[.int .u8 ((sumB (rawB c) 0).toNat:Int)]]) (fun S4 ci=>?_) (fun j o h=>D4 h) q2 (h1:=by simp)
    refine moQStr (s:=J4 c) ?_ (h1:=by rw[aT,List.map_append];rfl)
    have cE:Sub O S4:=fun x o hx=>ci x o (D8 (hS x o hx) fun h=>by rw[q4 x h]at hx;cases hx)
    refine gz ?_ o36 [4]
    refine fin2 (U':=O) ⟨by rw[hh];rfl,rfl⟩
def cB8(s:Str):List (List D):=s.map fun b=>[D.int .u8 (b.toNat:Int)]
@[simp] theorem cB8_cons(b:UInt8)(r:Str):cB8 (b::r)=[D.int .u8 (b.toNat:Int)]::cB8 r:=rfl
@[simp] theorem cB8_nil:cB8 []=[]:=rfl
theorem set_self{O:Sig}{i:Nat}{o:DObj}(h:O i=some o):O.set i o=O:=by
 funext j
 unfold Sig.set
 by_cases e:j=i
 ·rw[if_pos e,e,h]
 ·rw[if_neg e]
section
variable {P:Program}{ro:Ro}{n N:Nat}{ops:Array Oper}{Q:DX->St->Prop}{df:List DDf}{γ Sr:List (Nat×D)}{O S0:Sig}{ty:TypeId}{pos:String}{after:Array Edge}
theorem Ud{fop:Operand}{args:Array Operand}{ats:Array TypeId}{f:Nat}{first cap us bs:List D}{R:DE->Sig->Prop}{dst:Option Tmp}{guard:Option (Nat×Bool)}{l:List (Bool×Oper)}
  (hw:Ay ops γ ⟨dst,(cv fop args ats),ty,pos,after,guard⟩=some true)
  (hl:A0 γ (A5 (fop::args.toList))=some Sr) (hf:ev Sr fop=.func (.func f) first cap) (ha:first++args.toList.map (ev Sr)++cap=us) (hb:bs=us\/bs=us.map D.plain) (h:DCallR P ro f bs O R)
  (ho:Ar n ⟨dst,(cv fop args ats),ty,pos,after,guard⟩=true)
  (bh:∀d U',R (.ret d) U'->Sub S0 U'/\MO P ro n ops N S0 Q df l (putD dst d γ) U')
  (bj:∀d U',R (.panic d) U'->∀V',Q (.panic d) ⟨V',U',df⟩) :
  MO P ro n ops N S0 Q df ((true,⟨dst,(cv fop args ats),ty,pos,after,guard⟩)::l) γ O:=by
 have hx:∀x∈fop::args.toList,ev Sr x=ev γ x:=fun x hx=>B2 fun t ht=>Aq hl t (Ax (by rw[<-ht];exact hx))
 have aK:∀x∈((cv fop args ats)).operands,ev (only (Oper.looksAt ops ⟨dst,(cv fop args ats),ty,pos,after,guard⟩) γ) x=ev γ x:=fun x hx=>Bl (o:=⟨dst,(cv fop args ats),ty,pos,after,guard⟩) hx
 refine .inr ⟨rfl,ho,by rw[Af];exact hw,?_⟩
 refine H8 (first:=first) (cap:=cap) (f:=f) (R:=R) ?_ ?_ (h.wk ?_) ho ?_ ?_
 ·show Ay ops (only _ γ) _=some true
  rw[Af];exact hw
 ·rw[aK fop (by simp[Op.operands,Call.operands]),<-hx fop (by simp)];exact hf
 ·rw[show args.toList.map (ev (only (Oper.looksAt ops ⟨dst,(cv fop args ats),ty,pos,after,guard⟩) γ))=args.toList.map (ev Sr) from List.map_congr_left fun x hm=>by
   rw[aK x (by simp at hm;simp[Op.operands,Call.operands,hm]),<-hx x (by simp[hm])],ha]
  rcases hb with rfl|rfl
  ·exact CO _
  ·exact Cq _
 ·intro d U' hR
  obtain⟨h1,h2⟩:=bh d U' hR
  refine Au ⟨rfl,?_⟩
  cases dst with
  |none=>exact⟨h1,h2⟩
  |some t=>simp only[putD,A4,if_true];exact⟨h1,h2⟩
 ·intro d U' hR
  exact⟨rfl,bj d U' hR⟩
end
theorem P9(l:Str)(b:Nat):(⟨l.toArray⟩:ByteArray).extract 0 b=⟨(l.take b).toArray⟩:=by
 apply ByteArray.ext
 simp[ByteArray.data_extract]
structure RdS(ic i1 i2:Nat)(ins:List CIns)(st:List Int)(m:Int)(S0 O:Sig):Prop where
 oc:O ic=some (.cells [.slice (ins.map cIns) (.tag i1),.slice (cI st) (.tag i2),dI m])
 o1:O i1=some (.tail 2 ins.length)
 o2:O i2=some (.tail 1 st.length)
 ne:i1≠i2
 keep:∀j o,S0 j=some o->j≠ic->O j=some o
theorem JB(x:CIns):BI x=true ↔ (1<=x.op/\x.op<=21)/\inB x.a=true/\(hasA x.op=true\/x.a=0)/\(x.op=1\/0<=x.a):=by
 unfold BI inB farN
 cases hA:hasA x.op with
 |false=>
  have h1:¬x.op=1:=fun e=>by rw[e]at hA;cases hA
  simp[h1];omega
 |true=>
  by_cases h1:x.op=1
  ·simp[h1]
  ·simp[h1];omega
theorem B6(c:CProg):AG c=true ↔ c.ins.length<=300/\c.starts.length<=16/\(inB c.main=true/\0<=c.main)/\(∀n∈c.starts,inB n=true/\0<=n) /\ ∀x∈c.ins,BI x=true:=by
 have hf:∀n:Int,farN n=true ↔ inB n=true/\0<=n:=fun n=>by unfold farN inB;simp;omega
 unfold AG
 simp only[Bool.and_eq_true,decide_eq_true_eq,List.all_eq_true,hf]
theorem Oj(c:CProg)(O:Sig)(h1:c.ins.length<=1073741824)(h2:c.starts.length<=1073741824):DCall prog 74 [.agg (cCPg c)] O (rS (.bool (AG c)) O):=by
 have aq:(¬AG c=true)->AG c=false:=fun h=>by cases e:AG c<;>simp_all
 refine en func74 ntmps74 ?_
 by_cases c1:c.ins.length<=300
 rotate_left
 ·refine gf c1 ?_
  (refine fin1 (U':=O) ?_;exact⟨by first|rfl|(simp[aq fun h=>c1 ((B6 c).1 h).1];done)|(simp_all [aq fun h=>c1 ((B6 c).1 h).1];done)|(rw[Ag,Bool.eq_iff_iff];simp_all [aq fun h=>c1 ((B6 c).1 h).1]<;>omega),rfl⟩)
 by_cases c2:c.starts.length<=16
 rotate_left
 ·refine gf c2 ?_
  (refine fin1 (U':=O) ?_;exact⟨by first|rfl|(simp[aq fun h=>c2 ((B6 c).1 h).2.1];done)|(simp_all [aq fun h=>c2 ((B6 c).1 h).2.1];done)|(rw[Ag,Bool.eq_iff_iff];simp_all [aq fun h=>c2 ((B6 c).1 h).2.1]<;>omega),rfl⟩)
 cases c3:inB c.main with
 |false=>
  have hn:=aq fun h=>by have:=((B6 c).1 h).2.2.1.1;rw[c3]at this;cases this
  refine gf (gi c1 (gi c2 c3)) ?_
  exact fe1 hn
 | true =>
  by_cases c4:0<=c.main
  rotate_left
  ·have hn:=aq fun h=>c4 ((B6 c).1 h).2.2.1.2
   refine gf (gi c1 (gi c2 c3)) ?_
   exact fe1 hn
  refine gf (gi c1 (gi c2 c3)) ?_
  refine Cg [1,4,5,49,50,51,52,53,54,55,56,57,58,59,60,61,62,63,64,65,66,67,68,69,70,71,72,73,74,75,76,77,78,79,80,81,82,83,84,85,86,87,88,89,90,91,92,93,94,95] (fun (k:Nat)=>k<=c.starts.length /\ ∀j (h:j<c.starts.length),j<k->inB c.starts[j]=true/\0<=c.starts[j]) (fun k=>[(3,dI k)]) (fun _=>O) (fun k=>c.starts.length-k) (0) (by exact⟨by omega,fun j _ h=>by omega⟩) (fun k hI=>?_)
  obtain⟨hk,hS⟩:=hI
  by_cases ah:k<c.starts.length
  ·cases c5:inB c.starts[k]with
   |false=>
    have hn:=aq fun h=>by have:=(((B6 c).1 h).2.2.2.1 _ (List.getElem_mem ah)).1;rw[c5]at this;cases this
    refine gf c5 ?_
    exact fe1 hn
   | true =>
    by_cases c6:0<=c.starts[k]
    ·refine gf c5 ?_
     exact⟨k+1,⟨by omega,fun j h1 h2=>by by_cases e:j=k;(subst e;exact⟨c5,c6⟩);exact hS j h1 (by omega)⟩,td1,wkR⟩
    ·have hn:=aq fun h=>c6 (((B6 c).1 h).2.2.2.1 _ (List.getElem_mem ah)).2
     refine gf c5 ?_
     exact fe1 hn
  ·have ck:∀n∈c.starts,inB n=true/\0<=n:=fun n hn=>by
    obtain⟨j,hj,rfl⟩:=List.getElem_of_mem hn
    exact hS j hj (by omega)
   clear hS
   refine gz ?_
   refine Cg [1] (fun (k:Nat)=>k<=c.ins.length /\ ∀j (h:j<c.ins.length),j<k->BI c.ins[j]=true) (fun k=>[(4,dI k)]) (fun _=>O) (fun k=>c.ins.length-k) (0) (by exact⟨by omega,fun j _ h=>by omega⟩) (fun k hI=>?_)
   obtain⟨hk,hS⟩:=hI
   by_cases ah:k<c.ins.length
   ·have hx:=JB c.ins[k]
    have aG:(¬BI c.ins[k]=true)->AG c=false:=fun h=>aq fun hc=>h (((B6 c).1 hc).2.2.2.2 _ (List.getElem_mem ah))
    by_cases d1:1<=c.ins[k].op
    rotate_left
    ·have hn:=aG fun h=>d1 (hx.1 h).1.1
     refine gz ?_
     exact fe1 hn
    by_cases d2:c.ins[k].op<=21
    rotate_left
    ·have hn:=aG fun h=>d2 (hx.1 h).1.2
     refine gz ?_
     exact fe1 hn
    cases d3:inB c.ins[k].a with
    |false=>
     have hn:=aG fun h=>by have:=(hx.1 h).2.1;rw[d3]at this;cases this
     refine gf d3 ?_
     exact fe1 hn
    | true =>
     repeat' first|refine gf d3 ?_|apply gy<;>intro hh
     all_goals first
      |exact fin1 (U':=O) ⟨by rw[aG fun h=>by obtain⟨_,_,q1,q2⟩:=hx.1 h;rcases q1 with q1|q1<;>rcases q2 with q2|q2<;>simp_all<;>omega],rfl⟩
      |exact⟨k+1,⟨by omega,fun j h1 h2=>by by_cases e:j=k;(subst e;exact hx.2 ⟨⟨d1,d2⟩,d3,by first|exact .inl (by assumption)|exact .inr (by assumption),by first|exact .inl (by assumption)|exact .inr (by omega)⟩);exact hS j h1 (by omega)⟩,td1,wkR⟩
   ·have hp:AG c=true:=(B6 c).2 ⟨c1,c2,⟨c3,c4⟩,ck,fun x hx=>by
     obtain⟨j,hj,rfl⟩:=List.getElem_of_mem hx
     exact hS j hj (by omega)⟩
    refine gz ?_
    exact fe1 hp
@[reducible,instance] def a74:=fun c O=>ah2 (@Oj c O)
section
variable {ro:Ro}{n:Nat}{ops:Array Oper}{Q:DX->St->Prop}{df:List DDf}{rest:List Oper}{γ Sr:List (Nat×D)}{O:Sig}{t:Nat}{ty:TypeId}{pos:String}{after:Array Edge}{gd:Option (Nat×Bool)}
theorem strY{T T' e:Nat}{x:Operand}(s:Str)(h:DOps prog ro n ops Q rest ⟨(t,.str s)::γ,O,df⟩)(hl:A0 γ (A5 [x])=some Sr:=by exact tdR)(hx:esOf (ev Sr x)=some (cB8 s):=by exact tdR)(hw:Ay ops γ ⟨some t,.convert T T' x,ty,pos,after,gd⟩=some true:=by exact tdR)(aD:decide (t<n)=true:=by exact tdR)
  (hk:(tab T).k=.slice e:=by(simp<;>rfl)) (aM:(tab T').k=.str:=by(simp<;>rfl)) (bn:(tab e).k=.int .u8:=by(simp<;>rfl)) :
  DOps prog ro n ops Q (⟨some t,.convert T T' x,ty,pos,after,gd⟩::rest) ⟨γ,O,df⟩:=Oz Ad h hw (by simpa using aD) hk aM bn (by rw[<-C2 hl];exact hx)
end
def Hk:List (Int×Int):=[(1,1),(2,2),(3,3),(4,5),(5,19),(6,4),(7,8),(8,6),(12,9),(13,10),(14,11),(15,12),(16,13),(17,7),(18,20)]
def pK:List D:=(eIN Hk).map (·.1)
def pV:List D:=(eIN Hk).map (·.2)
theorem pKV:pK.zip pV=eIN Hk:=rfl
@[simp] theorem hitIN85(k:Int)(m:List (Int×Int)):hitD tab 85 false (Ca (.int .i64) (.int .i64 k) (eIN m) 0)=some (.int .i64 (getM 0 k m)):=Rf keyI dI rfl k m
theorem P7{o:Int}(h:1<=o/\o<=18)(h9:o≠9)(aR:o≠10)(aQ:o≠11):getM 0 o Hk=Tv o:=by
 have:o=1\/o=2\/o=3\/o=4\/o=5\/o=6\/o=7\/o=8\/o=12\/o=13\/o=14\/o=15\/o=16\/o=17\/o=18:=by omega
 rcases this with e|e|e|e|e|e|e|e|e|e|e|e|e|e|e<;>rw[e]<;>rfl
theorem So(O:Sig):DCall prog 208 [] O (rS (.cmap pK pV) O):=by
 refine en func208 ntmps208 ?_
 refine gz ?_
 refine newIN (fun im cb=>?_)
 repeat ((fail_if_success (first|(refine cfr 1 (i:=im) (m:=eIN Hk) (w6 ..) ?_)|fail));(refine goX1 trivial ?_))
 refine cfr 1 (i:=im) (m:=eIN Hk) (w6 ..) ?_
 rw[show(eIN Hk).map (·.1)=pK from rfl,show(eIN Hk).map (·.2)=pV from rfl]
 rw[Sig.set_del _ _ cb]
 refine gz ?_
 exact fe1 trivial
@[reducible,instance] def a208:=fun O=>ah0 (@So O)
theorem NO(l r:List CIns)(op a b:Int):setA (l++⟨op,a⟩::r) l.length b=l++⟨op,b⟩::r:=by
 unfold setA
 rw[List.take_left,List.getElem?_append_right (Nat.le_refl _),Nat.sub_self,List.drop_append]
 simp
theorem K0(p:BProg)(inM:Bool)(hp:p.wt<=1073741824): ∀(k:Nat) (n:Int) (size:Nat),trE p inM k n size->∀(ib:Nat) (s m:D) (st:MR) (ins:List CIns) (O:Sig),ins.length+cL p k n<=1000000->BlkS ib s m st ins O->
  DCall prog 131 [.ptr ib 0,.agg (Ai p),dI n] O fun x U'=>x=.ret (.tup []) /\ ∃st',BlkS ib s m st' (ins++cN p k n ins.length) U'/\BK ib O st U' st':=by
 obtain⟨p1,p2,p3,p4,p5,p6,p7⟩:=p.wt_le
 intro k
 induction k with
 |zero=>intro n size h;exact h.elim
 | succ k ih =>
  intro n size h ib s m st ins O hq hB
  have aK:=tr_op h
  have ah:=fun m hm=>Ko h (m:=m) hm
  obtain⟨⟨h0,h1⟩,b6,bX,bW,hk⟩:=h
  obtain⟨i,rfl⟩:∃i:Nat,n=(i:Int):=⟨n.toNat,by omega⟩
  have hi:i<p.nodes.length:=by omega
  have bk:A9 p i=p.nodes[i]:=by unfold A9;rw[show((i:Int)).toNat=i by omega,List.getElem?_eq_getElem hi];rfl
  have bM:=p7 i hi
  have hN:=OG p k
  rw[cL,bk]at hq
  rw[cN,bk]
  rw[bk]at aK ah b6 bX bW hk
  generalize hx:p.nodes[i]=x at*
  have cr:x.kids.length<=1073741824:=by unfold BNode.wt at bM;omega
  have b9:∀c∈x.kids, ∃z:Nat,trE p inM k c z:=fun c hc=>by
   obtain⟨j,hj,rfl⟩:=List.getElem_of_mem hc
   have:=hk j hj
   split at this
   ·exact⟨size+1,this⟩
   ·exact⟨size,this⟩
  have hS:∀c∈x.kids, ∀(st:MR) (l:List CIns) (O:Sig),l.length+cL p k c<=1000000->BlkS ib s m st l O->DCall prog 131 [.ptr ib 0,.agg (Ai p),dI c] O fun x U'=>x=.ret (.tup []) /\ ∃st',BlkS ib s m st' (l++cN p k c l.length) U'/\BK ib O st U' st':=fun c hc st l O hl hB=>by
   obtain⟨z,hz⟩:=b9 c hc;exact ih c z hz ib s m st l O hl hB
  by_cases h9:x.op=9
  ·rw[if_pos h9]at hq⊢
   obtain⟨a,b,ae⟩:∃a b,x.kids=[a,b]:=by
    have hl:x.kids.length=2:=ah 2 (by rw[h9];rfl)
    match hx:x.kids,hl with
    |[a,b],_=>exact⟨a,b,rfl⟩
   have aY:kidN x 0=a:=by unfold kidN;rw[ae];rfl
   have aX:kidN x 1=b:=by unfold kidN;rw[ae];rfl
   rw[aY,aX]at hq⊢
   have e1:(ins++cN p k a ins.length).length=ins.length+cL p k a:=by rw[List.length_append,hN]
   have e2:(ins++cN p k a ins.length++[(⟨14,0⟩:CIns)]).length=ins.length+cL p k a+1:=by rw[List.length_append,e1];rfl
   refine en func131 ntmps131 ?_
   refine gf (gi hx (gi h9 ae)) ?_ o131
   refine A7 (hS a (by rw[ae];simp) st ins O (by omega) hB) (fun d U1 hr=>?_) (fun d U1 hr=>by cases hr.1)
   obtain⟨q1,st1,ap,am⟩:=hr
   cases q1
   refine gz ?_ o131
   refine A7 (CX 14 0 (by omega) ap) (fun d U2 hr=>?_) (fun d U2 hr=>by cases hr.1)
   obtain⟨q2,st2,aa,ag⟩:=hr
   cases q2
   refine gf ae ?_ o131
   refine A7 (hS b (by rw[ae];simp) st2 _ U2 (by omega) aa) (fun d S3 hr=>?_) (fun d S3 hr=>by cases hr.1)
   obtain⟨q3,st3,ak,aB⟩:=hr
   cases q3
   rw[e2]at ak
   have e3:(ins++cN p k a ins.length++[(⟨14,0⟩:CIns)]++cN p k b (ins.length+cL p k a+1)).length=ins.length+cL p k a+1+cL p k b:=by rw[List.length_append,e2,hN]
   refine gz ?_ o131
   refine A7 (CX 15 0 (by omega) ak) (fun d S4 hr=>?_) (fun d S4 hr=>by cases hr.1)
   obtain⟨q4,st4,aC,ax⟩:=hr
   cases q4
   refine gz ?_ o131
   refine DZ (U':=S4) ⟨rfl,st4,?_,((am.trans ag).trans aB).trans ax⟩
   simpa[List.append_assoc] using aC
  ·rw [if_neg h9] at hq ⊢
   by_cases aQ:x.op=11
   ·rw[if_pos aQ]at hq⊢
    obtain⟨a,b,ae⟩:∃a b,x.kids=[a,b]:=by
     have hl:x.kids.length=2:=ah 2 (by rw[aQ];rfl)
     match hx:x.kids,hl with
     |[a,b],_=>exact⟨a,b,rfl⟩
    have aY:kidN x 0=a:=by unfold kidN;rw[ae];rfl
    have aX:kidN x 1=b:=by unfold kidN;rw[ae];rfl
    rw[aY,aX]at hq⊢
    have e1:(ins++cN p k a ins.length).length=ins.length+cL p k a:=by rw[List.length_append,hN]
    have e2:(ins++cN p k a ins.length++[(⟨16,0⟩:CIns)]).length=ins.length+cL p k a+1:=by rw[List.length_append,e1];rfl
    refine en func131 ntmps131 ?_
    refine gf (gi hx (gi aQ ae)) ?_ o131
    refine A7 (hS a (by rw[ae];simp) st ins O (by omega) hB) (fun d U1 hr=>?_) (fun d U1 hr=>by cases hr.1)
    obtain⟨q1,st1,ap,am⟩:=hr
    cases q1
    refine gz ?_ o131
    refine A7 (CX 16 0 (by omega) ap) (fun d U2 hr=>?_) (fun d U2 hr=>by cases hr.1)
    obtain⟨q2,st2,aa,ag⟩:=hr
    cases q2
    refine gf ae ?_ o131
    refine A7 (hS b (by rw[ae];simp) st2 _ U2 (by omega) aa) (fun d S3 hr=>?_) (fun d S3 hr=>by cases hr.1)
    obtain⟨q3,st3,ak,aB⟩:=hr
    cases q3
    rw[e2]at ak
    refine gz ?_ o131
    refine DZ (U':=S3) ⟨rfl,st3,?_,(am.trans ag).trans aB⟩
    simpa[List.append_assoc] using ak
   ·rw [if_neg aQ] at hq ⊢
    by_cases aR:x.op=10
    ·rw[if_pos aR]at hq⊢
     obtain⟨a,b,c,ae⟩:∃a b c,x.kids=[a,b,c]:=by
      have hl:x.kids.length=3:=ah 3 (by rw[aR];rfl)
      match hx:x.kids,hl with
      |[a,b,c],_=>exact⟨a,b,c,rfl⟩
     have aY:kidN x 0=a:=by unfold kidN;rw[ae];rfl
     have aX:kidN x 1=b:=by unfold kidN;rw[ae];rfl
     have cf:kidN x 2=c:=by unfold kidN;rw[ae];rfl
     rw[aY,aX,cf]at hq⊢
     have e1:(ins++cN p k a ins.length).length=ins.length+cL p k a:=by rw[List.length_append,hN]
     have e2:(ins++cN p k a ins.length++[(⟨17,0⟩:CIns)]).length=ins.length+cL p k a+1:=by rw[List.length_append,e1];rfl
     refine en func131 ntmps131 ?_
     refine gf (gi hx (gi aR ae)) ?_ o131
     refine A7 (hS a (by rw[ae];simp) st ins O (by omega) hB) (fun d U1 hr=>?_) (fun d U1 hr=>by cases hr.1)
     obtain⟨q1,st1,ap,am⟩:=hr
     cases q1
     refine gz ?_ o131
     refine A7 (M9 17 (by omega) ap) (fun d U2 hr=>?_) (fun d U2 hr=>by cases hr.1)
     obtain⟨q2,st2,aa,ag⟩:=hr
     obtain⟨k1,aE⟩:∃k1,k1=(ins++cN p k a ins.length).length:=⟨_,rfl⟩
     rw[<-aE]at q2
     cases q2
     refine gf ae ?_ o131
     refine A7 (hS b (by rw[ae];simp) st2 _ U2 (by omega) aa) (fun d S3 hr=>?_) (fun d S3 hr=>by cases hr.1)
     obtain⟨q3,st3,ak,aB⟩:=hr
     cases q3
     rw[e2]at ak
     have e3:(ins++cN p k a ins.length++[(⟨17,0⟩:CIns)]++cN p k b (ins.length+cL p k a+1)).length=ins.length+cL p k a+1+cL p k b:=by rw[List.length_append,e2,hN]
     refine gz ?_ o131
     refine A7 (M9 18 (by omega) ak) (fun d S4 hr=>?_) (fun d S4 hr=>by cases hr.1)
     obtain⟨q4,st4,aC,ax⟩:=hr
     obtain⟨k2,ar⟩:∃k2,k2=(ins++cN p k a ins.length++[(⟨17,0⟩:CIns)]++cN p k b (ins.length+cL p k a+1)).length:=⟨_,rfl⟩
     rw[<-ar]at q4
     cases q4
     have e4:(ins++cN p k a ins.length++[(⟨17,0⟩:CIns)]++cN p k b (ins.length+cL p k a+1)++[(⟨18,0⟩:CIns)]).length=ins.length+cL p k a+1+cL p k b+1:=by rw[List.length_append,e3];rfl
     refine gz ?_ o131
     refine A7 (M4 k1 (by omega) (by omega) aC) (fun d S5 hr=>?_) (fun d S5 hr=>by cases hr.1)
     obtain⟨q5,st5,bK,co⟩:=hr
     cases q5
     have bS:ins++cN p k a ins.length++[(⟨17,0⟩:CIns)]++cN p k b (ins.length+cL p k a+1)++[(⟨18,0⟩:CIns)]=(ins++cN p k a ins.length)++⟨17,0⟩::(cN p k b (ins.length+cL p k a+1)++[(⟨18,0⟩:CIns)]):=by simp
     rw[e4,bS,aE,NO]at bK
     have e5:(ins++cN p k a ins.length++(⟨17,((ins.length+cL p k a+1+cL p k b+1:Nat):Int)⟩:CIns)::(cN p k b (ins.length+cL p k a+1)++[(⟨18,0⟩:CIns)])).length=ins.length+cL p k a+1+cL p k b+1:=by rw[List.length_append,e1,List.length_cons,List.length_append,hN];simp only[List.length_cons,List.length_nil];omega
     refine gf ae ?_ o131
     refine A7 (hS c (by rw[ae];simp) st5 _ S5 (by omega) bK) (fun d S6 hr=>?_) (fun d S6 hr=>by cases hr.1)
     obtain⟨q6,st6,bJ,cn⟩:=hr
     cases q6
     rw[e5]at bJ
     have e6:(ins++cN p k a ins.length++(⟨17,((ins.length+cL p k a+1+cL p k b+1:Nat):Int)⟩:CIns)::(cN p k b (ins.length+cL p k a+1)++[(⟨18,0⟩:CIns)])++cN p k c (ins.length+cL p k a+1+cL p k b+1)).length=ins.length+cL p k a+1+cL p k b+1+cL p k c:=by rw[List.length_append,e5,hN]
     refine gz ?_ o131
     refine A7 (M4 k2 (by omega) (by omega) bJ) (fun d S7 hr=>?_) (fun d S7 hr=>by cases hr.1)
     obtain⟨q7,st7,bI,cm⟩:=hr
     cases q7
     have bR:(ins++cN p k a ins.length++(⟨17,((ins.length+cL p k a+1+cL p k b+1:Nat):Int)⟩:CIns)::(cN p k b (ins.length+cL p k a+1)++[(⟨18,0⟩:CIns)])++cN p k c (ins.length+cL p k a+1+cL p k b+1)) =
       (ins++cN p k a ins.length++(⟨17,((ins.length+cL p k a+1+cL p k b+1:Nat):Int)⟩:CIns)::cN p k b (ins.length+cL p k a+1))++⟨18,0⟩::cN p k c (ins.length+cL p k a+1+cL p k b+1):=by simp
     have bp:k2=(ins++cN p k a ins.length++(⟨17,((ins.length+cL p k a+1+cL p k b+1:Nat):Int)⟩:CIns)::cN p k b (ins.length+cL p k a+1)).length:=by rw[ar];simp
     rw[e6,bR,bp,NO]at bI
     refine gz ?_ o131
     refine DZ (U':=S7) ⟨rfl,st7,?_,(((((am.trans ag).trans aB).trans ax).trans co).trans cn).trans cm⟩
     simpa[List.append_assoc] using bI
    ·rw[if_neg aR]at hq⊢
     have bV:=P7 aK h9 aR aQ
     have cD:(Jn (cN p k) x.kids ins.length).length=wtL (cL p k) x.kids:=IY hN _ _
     refine en func131 ntmps131 ?_
     refine gf hx ?_ o131
     refine Pb [0,4,6,19,20,30,31,32,33,34,35,36,37] (fun (j:Nat) (out:List CIns) (st1:MR) (U1:Sig)=>j<=x.kids.length/\out++Jn (cN p k) (x.kids.drop j) (ins.length+out.length)=Jn (cN p k) x.kids ins.length/\BlkS ib s m st1 (ins++out) U1/\BK ib O st U1 st1) (fun j _ _ _=>[(21,dI j)]) (fun _ _ _ U1=>U1) (fun j _ _ _=>x.kids.length-j) (0) ([]) (st) (O) (by exact⟨by omega,rfl,by rw[List.append_nil];exact hB,BK.refl _ _ _⟩) (fun j out st1 U1 hI=>?_)
     obtain⟨hj,hR,ap,am⟩:=hI
     by_cases aU:j<x.kids.length
     ·rw[Ab aU,Jn]at hR
      have bm:=congrArg List.length hR
      simp only[List.length_append,hN]at bm
      refine gf hx ?_ o131
      refine A7 (hS x.kids[j] (List.getElem_mem aU) st1 _ U1 (by rw[List.length_append];omega) ap) (fun d U2 hr=>?_) (fun d U2 hr=>by cases hr.1)
      obtain⟨q2,st2,aa,ag⟩:=hr
      cases q2
      rw[List.append_assoc,List.length_append]at aa
      refine gz ?_ o131
      exact⟨j+1,out++cN p k x.kids[j] (ins.length+out.length),st2,U2,⟨by omega,by rw[List.append_assoc,List.length_append,<-Nat.add_assoc];exact hR,aa,am.trans ag⟩,td1,wkR⟩
     ·rw[Aj aU,Jn,List.append_nil]at hR
      subst hR
      refine gf (gi hx (gi pKV bV)) ?_ o131
      refine A7 (CX (Tv x.op) x.n (by rw[List.length_append];omega) ap) (fun d U2 hr=>?_) (fun d U2 hr=>by cases hr.1)
      obtain⟨q2,st2,aa,ag⟩:=hr
      cases q2
      refine gz ?_ o131
      refine DZ (U':=U2) ⟨rfl,st2,?_,am.trans ag⟩
      simpa[List.append_assoc] using aa
theorem LW(p:BProg)(inM:Bool)(hp:p.wt<=1073741824)(k:Nat)(n:Int)(size:Nat)(h:trE p inM k n size)(ib:Nat)(s m:D)(st:MR)(ins:List CIns)(O:Sig)(hq:ins.length+cL p k n<=1000000)(hB:BlkS ib s m st ins O):
  DCall prog 60 [.ptr ib 0,.agg (Ai p),dI n] O fun x U'=>x=.ret (dI ins.length) /\ ∃st',BlkS ib s m st' (ins++bodyC p k n ins.length) U'/\BK ib O st U' st':=by
 have hN:=OG p k
 obtain⟨q1,q2,q3⟩:=hB
 have hB:BlkS ib s m st ins O:=⟨q1,q2,q3⟩
 have fin:∀(U2:Sig) (st2:MR),BlkS ib s m st2 (ins++cN p k n ins.length++[(⟨21,0⟩:CIns)]) U2->BlkS ib s m st2 (ins++bodyC p k n ins.length) U2:=fun U2 st2 h=>by unfold bodyC;simpa[List.append_assoc] using h
 refine en func60 ntmps60 ?_
 cases bb:st with
 |none=>
  subst bb
  have h0:ins=[]:=by have:ins.map cIns=[]:=q2;simpa using this
  subst h0
  simp only[mD]at q1
  refine gf q1 ?_
  refine A7 (K0 p inM hp k n size h ib s m none [] O hq hB) (fun d U1 hr=>?_) (fun d U1 hr=>by cases hr.1)
  obtain⟨e1,st1,ap,am⟩:=hr
  cases e1
  refine gz ?_
  refine A7 (CX 21 0 (by rw[List.length_append,hN];omega) ap) (fun d U2 hr=>?_) (fun d U2 hr=>by cases hr.1)
  obtain⟨e2,st2,aa,ag⟩:=hr
  cases e2
  refine gz ?_
  exact fin1 (U':=U2) ⟨rfl,st2,fin _ _ aa,am.trans ag⟩
 |some x=>
  obtain⟨rr,rc,rest⟩:=x
  subst bb
  simp only[mD]at q1
  refine gf q1 ?_
  refine A7 (K0 p inM hp k n size h ib s m _ ins O hq hB) (fun d U1 hr=>?_) (fun d U1 hr=>by cases hr.1)
  obtain⟨e1,st1,ap,am⟩:=hr
  cases e1
  refine gz ?_
  refine A7 (CX 21 0 (by rw[List.length_append,hN];omega) ap) (fun d U2 hr=>?_) (fun d U2 hr=>by cases hr.1)
  obtain⟨e2,st2,aa,ag⟩:=hr
  cases e2
  refine gz ?_
  exact fin1 (U':=U2) ⟨rfl,st2,fin _ _ aa,am.trans ag⟩
def Nz(p:BProg):CProg:=if okP p then Ha p else⟨[],[],0⟩
theorem V0(p:BProg)(O:Sig)(hp:p.wt<=1073741824):DCall prog 18 [.agg (Ai p)] O (rS (.tup [.agg (cCPg (Nz p)),dI (if okP p then 0 else 2)]) O):=by
 obtain⟨p1,p2,p3,p4,p5,p6,p7⟩:=p.wt_le
 refine en func18 ntmps18 ?_
 cases hk:okP p with
 |false=>
  have hc:Nz p=⟨[],[],0⟩:=by unfold Nz;rw[hk];rfl
  rw[hc]
  refine gz ?_ o18 [2,15]
  refine newV (fun i hi=>?_)
  refine gf hk ?_ o18 [2,15]
  refine finC (U':=O) (d:=.tup [.agg (cCPg ⟨[],[],0⟩),dI 2]) ⟨rfl,rfl⟩ (hw:=?_)
  exact CE ⟨E8 ⟨Am _ (.inl rfl),Am _ (.inl rfl),A8 _,trivial⟩,A8 _,trivial⟩
 | true =>
  have hc:Nz p=Ha p:=by unfold Nz;rw[hk];rfl
  rw[hc]
  have bD:=TG hk
  have cC:=Vk hk
  have cz:=H5 hk
  refine gz ?_ o18 [2,15]
  refine newV (fun i2 aA=>?_)
  repeat ((fail_if_success (first|(refine boxV (T:=127) (fun ib ay=>?_))|fail));(refine goX1 hk ?_))
  refine boxV (T:=127) (fun ib ay=>?_)
  obtain⟨n2b,aF⟩:=B5 ay
  refine gz ?_ o18 [2,15]
  refine dwp_tagcell ib 1 1 (ds:=[.nils,.nils,dI 0]) (w6 ..) rfl (fun it ca=>?_)
  obtain⟨nbt,bq⟩:=B5 ca
  obtain⟨n2t,aV⟩:=B5 bq
  simp only[List.set_cons_succ,List.set_cons_zero]
  generalize a8:Sig.set (Sig.set (Sig.set (Sig.set O i2 _) ib _) it _) ib _=S0
  have o0:S0 ib=some (.cells [mD none ([]:List CIns).length,.slice (cI []) (.tag it),dI 0]):=by rw[<-a8,w6];rfl
  have t0:S0 it=some (.tail 1 ([]:List Int).length):=by rw[<-a8,w7 _ _ nbt,w6];rfl
  have c0:S0 i2=some (.cells [.nils,.nils,dI 0]):=by rw[<-a8,w7 _ _ n2b.symm,w7 _ _ n2t.symm,w7 _ _ n2b.symm,w6]
  have s0:Sub O S0:=fun j x hj=>by
   have k1:=As hj aA
   have k2:=As hj aF
   have k3:=As hj aV
   rw[<-a8,w7 _ _ k2,w7 _ _ k3,w7 _ _ k2,w7 _ _ k1];exact hj
  have B0:BlkS ib (.slice (cI []) (.tag it)) (dI 0) none [] S0:=⟨o0,rfl,id⟩
  clear a8
  have cp:(Bt p).length=p.methods.length:=by unfold Bt;simp
  refine loop5 [1,2,3,5,17,18,40,41,42,43,44,45,46,47,48,49,50,51,52] (fun (j:Nat) (out:List CIns) (l:List Int) (st:MR) (U1:Sig)=>j<=p.methods.length/\l.length=j/\out++BD p 12 ((Bt p).drop j) out.length=BD p 12 (Bt p) 0/\l++(GR p 12 ((Bt p).drop j) out.length).map (·.pos)=(GR p 12 (Bt p) 0).map (·.pos)/\BlkS ib (.slice (cI l) (.tag it)) (dI 0) st out U1/\U1 it=some (.tail 1 l.length) /\ ¬Fs st it/\U1 i2=some (.cells [.nils,.nils,dI 0]) /\ ¬Fs st i2/\(∀k x,O k=some x->U1 k=some x /\ ¬Fs st k)) (fun j _ _ _ _=>[(19,dI j)]) (fun _ _ _ _ U1=>U1) (fun j _ _ _ _=>p.methods.length-j) (0) ([]) ([]) (none) (S0) (by exact⟨by omega,rfl,rfl,rfl,B0,t0,id,c0,id,fun k x hk=>⟨s0 _ _ hk,id⟩⟩) (fun j out l st U1 hI=>?_)
  obtain⟨hj,bl,hR,ba,hB,bQ,bT,bH,aJ,hS⟩:=hI
  by_cases aU:j<p.methods.length
  ·have bZ:(Bt p).drop j=⟨(p.methods[j]).node,(p.gens.getD (p.methods[j]).gen.toNat 0).toNat,LA p.methods[j]⟩::(Bt p).drop (j+1):=by
    rw[List.drop_eq_getElem_cons (by omega)];unfold Bt;simp
   have bO:=bD ⟨(p.methods[j]).node,(p.gens.getD (p.methods[j]).gen.toNat 0).toNat,LA p.methods[j]⟩ (by unfold bodsP;rw[List.mem_append];left;exact List.mem_map.2 ⟨p.methods[j],List.getElem_mem aU,rfl⟩)
   rw[bZ]at hR ba
   have q1:=hB.env
   refine gz ?_ [] [2,15]
   refine mixI (id:=8) [0,1,2,3,4,5,6,7,8,9,10,11,12,13,14,15,16] [10,12,16] [5] [16] (fun s=> ∃a,s ib=some (.cells [a,.slice (cI l) (.tag it),dI 0])) ⟨_,q1⟩ ?_
   refine iP (.ptr ib 0) ?_
   refine iP (.ptr ib 0) ?_
   refine iP (.ptr ib 0) ?_
   refine iP (.ptr ib 0) ?_
   refine iP (.ptr ib 1) ?_
   refine iR (.slice (cI l) (.tag it)) (fun s ⟨a,hs⟩=>?_) ?_
   ·simp[hs]
   refine iP (.ptr ib 0) ?_
   refine iP (.agg (Ai p)) ?_
   refine iP _ ?_
   refine iP (dI (p.methods[j]).node) ?_
   have bm:=congrArg List.length hR
   simp only[BD,List.length_append,E4]at bm
   refine iW (fun s=> ∃a,s ib=some (.cells [a,.slice (cI l) (.tag it),dI 0])) (LW p _ hp 12 _ _ bO ib _ _ st out U1 ?_ hB) (fun d U2 hr=>?_) (fun d U2 hr=>by cases hr.1)
   ·have bu:(Ha p).ins.length=(BD p 12 (Bt p) 0).length+(bodyC p 12 p.main (LE p)).length:=by unfold Ha;rw[List.length_append]
    show out.length+cL p 12 (p.methods[j]).node<=1000000
    omega
   obtain⟨e2,st2,aa,ag⟩:=hr
   cases e2
   have nbt':ib≠it:=fun e=>nbt e.symm
   obtain⟨bP,aS⟩:=ag _ _ bQ (fun e=>nbt e) bT
   obtain⟨bx,aP⟩:=ag _ _ bH (fun e=>n2b e.symm) aJ
   refine⟨⟨_,aa.env⟩,?_⟩
   refine iP (.slice [[dI out.length]] .clip) ?_
   refine iE (d:=.slice (cI l++[[dI out.length]]) (.tag it)) (U':=U2.set it (.tail 1 (l.length+1))) (fun s=> ∃a,s ib=some (.cells [a,.slice (cI l) (.tag it),dI 0])) ⟨_,by rw[w7 _ _ nbt'];exact aa.env⟩ ?_ (he:=?_)
   rotate_left
   ·simp[bP];omega
   refine iP (.ptr ib 0) ?_
   refine iP (.ptr ib 0) ?_
   refine iP (.ptr ib 1) ?_
   refine iS (d:=.any) (U':=(U2.set it (.tail 1 (l.length+1))).set ib (.cells [mD st2 (out++bodyC p 12 (p.methods[j]).node out.length).length,.slice (cI l++[[dI out.length]]) (.tag it),dI 0])) (fun _=>True) trivial ?_ (he:=?_)
   rotate_left
   ·simp[aa.env,w7 _ _ nbt']
   refine iN ?_
   refine gz ?_ o18 [2,15]
   rw[BD]at hR
   rw[GR]at ba
   generalize aZ:Sig.set (Sig.set U2 it _) ib _=S3
   have o3:S3 ib=some (.cells [mD st2 (out++bodyC p 12 (p.methods[j]).node out.length).length,.slice (cI (l++[(out.length:Int)])) (.tag it),dI 0]):=by rw[<-aZ,w6];simp[cI]
   have t3:S3 it=some (.tail 1 (l++[(out.length:Int)]).length):=by rw[<-aZ,w7 _ _ nbt,w6,List.length_append];rfl
   have c3:S3 i2=some (.cells [.nils,.nils,dI 0]):=by rw[<-aZ,w7 _ _ n2b.symm,w7 _ _ n2t.symm];exact bx
   have B3:BlkS ib (.slice (cI (l++[(out.length:Int)])) (.tag it)) (dI 0) st2 (out++bodyC p 12 (p.methods[j]).node out.length) S3:=⟨o3,aa.row.keep fun k x hk hr=>by
    rw[<-aZ,w7 _ _ fun e=>aa.nr (by rw[<-e];exact hr),w7 _ _ fun e=>aS (by rw[<-e];exact hr)];exact hk,aa.nr⟩
   have s3:∀k x,O k=some x->S3 k=some x /\ ¬Fs st2 k:=fun k x hk=>by
    have k2:=As hk aF
    have k3:=As hk aV
    obtain⟨h1,h2⟩:=hS _ _ hk
    obtain⟨h3,h4⟩:=ag k x h1 k2 h2
    exact⟨by rw[<-aZ,w7 _ _ k2,w7 _ _ k3];exact h3,h4⟩
   exact⟨j+1,out++bodyC p 12 (p.methods[j]).node out.length,l++[(out.length:Int)],st2,S3,⟨by omega,by rw[List.length_append,bl];rfl,by rw[List.append_assoc,List.length_append,E4];exact hR,by rw[List.append_assoc,List.length_append,E4];exact ba,B3,t3,aS,c3,aP,s3⟩,td1,wkR⟩
  ·rw[List.drop_eq_nil_of_le (by omega),BD,List.append_nil]at hR
   rw[List.drop_eq_nil_of_le (by omega),GR,List.map_nil,List.append_nil]at ba
   have bN:=bD ⟨p.main,0,false⟩ (by unfold bodsP;simp)
   have bu:(Ha p).ins=out++bodyC p 12 p.main out.length:=by unfold Ha LE;rw[<-hR]
   have bw:=congrArg List.length bu
   rw[List.length_append,E4]at bw
   have q1:=hB.env
   refine gz ?_ o18 [2,15]
   refine A7 (LW p _ hp 12 _ _ bN ib _ _ st out U1 (show out.length+cL p 12 p.main<=1000000 by omega) hB) (fun d U2 hr=>?_) (fun d U2 hr=>by cases hr.1)
   obtain⟨e2,st2,aa,ag⟩:=hr
   cases e2
   obtain⟨τ,hτ,hm,aE,ar⟩:=aa.row.mS
   obtain⟨bx,aP⟩:=ag _ _ bH (fun e=>n2b e.symm) aJ
   have k2:τ i2=some (.cells [.nils,.nils,dI 0]):=aE _ _ bx aP
   have kb:τ ib=some (.cells [mD st2 (out++bodyC p 12 p.main out.length).length,.slice (cI l) (.tag it),dI 0]):=aE _ _ aa.env aa.nr
   have kS:Sub O τ:=fun k x hk=>by
    have e1:=As hk aF
    obtain⟨h1,h2⟩:=hS _ _ hk
    obtain⟨h3,h4⟩:=ag k x h1 e1 h2
    exact aE _ _ h3 h4
   rw[hτ]
   refine mfrC (i:=ib) [] [.slice (cI l) (.tag it),dI 0] ?_ (by rw[kb,List.length_map];rfl) hm
   simp only[List.nil_append]
   rw[<-bu]
   have n2b':=n2b.symm
   refine gf k2 ?_ o18 [2,15]
   have bb:(Ha p).starts=l:=ba.symm
   have bY:(Ha p).main=out.length:=by unfold Ha LE;rw[<-hR]
   refine finC (U':=O) (d:=.tup [.agg (cCPg (Ha p)),dI 0]) ⟨rfl,rfl⟩ (hU:=(kS.set aF).set aA) (hw:=?_)
   unfold cCPg
   rw[bb,bY]
   exact CE ⟨E8 ⟨A8 _,BF _ _,A8 _,trivial⟩,A8 _,trivial⟩
def Lm(a b:CProg):Bool:=decide (a.ins=b.ins)&&(decide (a.starts=b.starts)&&decide (a.main=b.main))
theorem UY(a b:CProg)(O:Sig)(h1:a.ins.length<=1073741824)(h2:b.ins.length<=1073741824)(h3:a.starts.length<=1073741824)(h4:b.starts.length<=1073741824):DCall prog 31 [.agg (cCPg a),.agg (cCPg b)] O (rS (.bool (Lm a b)) O):=by
 have hs:∀l m:List CIns,(h:l.length=m.length)->(∀k (h1:k<l.length) (h2:k<m.length),l[k]=m[k])->l=m:=fun l m h h2=>List.ext_getElem h fun k h3 h4=>h2 k h3 h4
 refine en func31 ntmps31 ?_
 by_cases hc:a.ins.length=b.ins.length/\a.starts=b.starts/\a.main=b.main
 ·obtain⟨c1,c2,c3⟩:=hc
  have hS:Lm a b=decide (a.ins=b.ins):=by unfold Lm;rw[c2,c3];simp
  have cg:(a.starts==b.starts)=true:=by rw[c2];simp
  rw[hS]
  refine gf (gi c1 (gi c2 (gi c3 cg))) ?_ o31
  refine Cg [2,3] (fun (k:Nat)=>k<=a.ins.length /\ ∀j (h1:j<a.ins.length) (h2:j<b.ins.length),j<k->a.ins[j]=b.ins[j]) (fun k=>[(5,dI k)]) (fun _=>O) (fun k=>a.ins.length-k) (0) (by exact⟨by omega,fun j _ _ h=>by omega⟩) (fun k hI=>?_)
  obtain⟨hk,hE⟩:=hI
  by_cases ah:k<a.ins.length
  ·have cu:k<b.ins.length:=by omega
   refine gf c1 ?_ o31
   refine If (r:=decide (a.ins[k]=b.ins[k])) (xs:=cIns a.ins[k]) (ys:=cIns b.ins[k]) Ad VI rfl rfl rfl rfl VB (eqIns _ _) ?_
   by_cases hx:a.ins[k]=b.ins[k]
   ·refine gf hx ?_ o31
    exact⟨k+1,⟨by omega,fun j h1 h2 h3=>by by_cases e:j=k;(subst e;exact hx);exact hE j h1 h2 (by omega)⟩,td1,wkR⟩
   ·have hne:¬a.ins=b.ins:=fun e=>hx (by simp[e])
    refine gf hx ?_ o31
    exact fe1 hne
  ·have bG:a.ins=b.ins:=hs _ _ c1 fun j h1 h2=>hE j h1 h2 (by omega)
   refine gf bG ?_ o31
   exact fe1 bG
 ·have hS:Lm a b=false:=by
   unfold Lm
   rw[Bool.and_eq_false_iff,Bool.and_eq_false_iff,decide_eq_false_iff_not,decide_eq_false_iff_not,decide_eq_false_iff_not]
   by_cases c1:a.ins=b.ins
   ·by_cases c2:a.starts=b.starts
    ·exact .inr (.inr fun c3=>hc ⟨by rw[c1],c2,c3⟩)
    ·exact .inr (.inl c2)
   ·exact .inl c1
  rw[hS]
  repeat' first|refine gz ?_ o31|apply gy<;>intro hh
  any_goals (first|exact fe1 trivial|fail)
  all_goals exact absurd ⟨‹a.ins.length=b.ins.length›, by simpa using ‹(a.starts==b.starts)=true›, ‹a.main=b.main›⟩ hc
theorem Qf(a b:CProg):Lm a b=true ↔ a=b:=by
 cases a;cases b
 unfold Lm
 simp
theorem OY(a:CProg):Lm a a=true:=(Qf a a).2 rfl
end Go.DL
