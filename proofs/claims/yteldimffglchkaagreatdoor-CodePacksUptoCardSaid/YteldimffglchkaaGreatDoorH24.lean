/- A part of the proof. -/
import Derived.Test.YteldimffglchkaaGreatDoorH23
import Derived.Test.YteldimffglchkaaGreatDoorH21
import Derived.Test.YteldimffglchkaaGreatDoorH14
import Derived.Test.YteldimffglchkaaGreatDoorH20
import Derived.Test.YteldimffglchkaaGreatDoorH22
import Derived.Test.YteldimffglchkaaGreatDoorH18
set_option linter.all false
namespace Go.DL
open Go.Proofs.Tryz
open Go Go.Proofs
set_option maxHeartbeats 8000000
theorem IG(a b:Str):cB8 (a++b)=cB8 a++cB8 b:=by simp[cB8]
theorem UQ{s:Str}(h:s≠[]):cB8 s≠[]:=by simpa[cB8] using h
theorem Sq(n:Nat):digB n≠[]:=by simp[digB]
theorem H0{n:Nat}(h:n<=10000000000):(digB n).length<=5:=GA (by omega)
theorem Ry(n:Nat)(O:Sig)(hn:n<=10000000000):DCall prog 157 [dI n] O (rS (.slice (cB8 (digB n)) .no) O):=by
 have hq:IntKind.u8.wrap ((n:Int) % 128)=((UInt8.ofNat (n % 128)).toNat:Int):=by rw[Ds (by omega),E7];omega
 refine en func157 ntmps157 ?_
 refine gf hq ?_
 refine Cw [2,21] (fun (m:Nat) (s:Str)=>(∃k,m<128 ^ k/\hiB k m++s=digB n/\k+s.length=11)/\m<=10000000000/\s≠[]) (fun m s=>[(0,dI m),(3,.slice (cB8 s) .no)]) (fun _ _=>O) (fun m _=>m) (n / 128) ([UInt8.ofNat (n % 128)]) (by exact⟨⟨10,by omega,rfl,rfl⟩,by omega,by simp⟩) (fun m s hI=>?_)
 obtain⟨⟨k,ak,aq,bX⟩,bT,bp⟩:=hI
 by_cases hm:0<m
 ·obtain⟨k,rfl⟩:∃k',k=k'+1:=by
   cases k with
   |zero=>simp at ak;omega
   |succ k=>exact⟨k,rfl⟩
  rw[hiB,if_neg (by omega)]at aq
  obtain⟨y,hy⟩:∃y,UInt8.ofNat (128+m % 128)=y:=⟨_,rfl⟩
  have hv:IntKind.u8.wrap (IntKind.i64.wrap (128+(m:Int).tmod 128))=(y.toNat:Int):=by
   have e:(m:Int).tmod 128=((m % 128:Nat):Int):=by rw[Int.tmod_eq_emod_of_nonneg (by omega)];rfl
   rw[e,<-hy,Ds (by omega),An (by omega) (by omega),E7];omega
  rw[hy]at aq
  refine gz ?_
  simp only[hv]
  refine appCW (es:=[[.int .u8 (y.toNat:Int)]]) (new:=cB8 s) (fun i hi=>?_) (hne:=UQ bp) (hlen':=SH _) (hb:=by simp;omega) (hm:=by simp;omega)
  refine gz ?_
  exact⟨m / 128,y::s,⟨⟨k,by rw[Nat.pow_succ]at ak;omega,by simpa[List.append_assoc] using aq,by simp;omega⟩,by omega,by simp⟩,td1,wkR⟩
 ·obtain rfl:m=0:=by omega
  have bK:s=digB n:=by rw[<-aq];cases k<;>simp[hiB]
  refine gz ?_
  refine fin1 (U':=O) ⟨by rw[<-bK],rfl⟩
@[reducible,instance] def a157:=fun n O=>ah1 (@Ry n O)
theorem Rw(n:Int)(O:Sig)(h1 : -1000000000<=n)(h2:n<=1000000000):DCall prog 158 [dI n] O (rS (dI (Dh n)) O):=by
 have e:((Dh n:Nat):Int)=if n<0 then -2*n-1 else 2*n:=by unfold Dh;split<;>omega
 rw[e]
 refine en func158 ntmps158 ?_
 by_cases c:n<0
 ·refine gz ?_
  refine fin1 (U':=O) ⟨by rw[if_pos c],rfl⟩
 ·refine gz ?_
  refine fin1 (U':=O) ⟨by rw[if_neg c],rfl⟩
@[reducible,instance] def a158:=fun n O=>ah2 (@Rw n O)
theorem SW(z b:UInt8):((z.toNat:Int)*3+(b.toNat:Int)+1).tmod 256=(((3*z+b+1).toNat:Nat):Int):=by
 rw[Int.tmod_eq_emod_of_nonneg (by omega)]
 simp only[UInt8.toNat_add,UInt8.toNat_mul,show(3:UInt8).toNat=3 from rfl,show(1:UInt8).toNat=1 from rfl]
 omega
theorem Rv(bs:Str)(o:Own)(O:Sig)(hn:bs.length<=1000000):DCall prog 159 [.slice (cB8 bs) o] O (rS (.int .u8 ((sumB bs 0).toNat:Int)) O):=by
 refine en func159 ntmps159 ?_
 refine gz ?_
 refine Cw [0,2,21,22] (fun (k:Nat) (z:UInt8)=>k<=bs.length/\sumB (bs.drop k) z=sumB bs 0) (fun k z=>[(3,dI (z.toNat:Int)),(4,dI k)]) (fun _ _=>O) (fun k _=>bs.length-k) (0) (0) (by exact⟨Nat.zero_le _,rfl⟩) (fun k z hI=>?_)
 obtain⟨bV,hs⟩:=hI
 have hz:=z.toNat_lt
 by_cases hk:k<bs.length
 ·rw[Ab hk,sumB]at hs
  have bh:(cB8 bs)[k]? = some [.int .u8 (bs[k].toNat:Int)]:=by unfold cB8;rw[List.getElem?_map,List.getElem?_eq_getElem hk];rfl
  have hx:(cB8 bs)[k]'(by simpa using hk)=[.int .u8 (bs[k].toNat:Int)]:=by simp[cB8]
  have bN:=F2 bs
  have hy:=bs[k].toNat_lt
  have au:=SW z bs[k]
  refine gf (gi hx (gi bh bN)) ?_
  simp only[au]
  exact⟨k+1,3*z+bs[k]+1,⟨by omega,hs⟩,td1,wkR⟩
 ·rw[Af hk,sumB]at hs
  have hw:IntKind.u8.wrap (z.toNat:Int)=(z.toNat:Int):=by rw[E7];omega
  refine gf hw ?_
  refine fin1 (U':=O) ⟨by rw[<-hs],rfl⟩
@[reducible,instance] def a159:=fun bs o O=>ah1 (@Rv bs o O)
theorem Jc(x:CIns):Cq x=true ↔ (1<=x.op/\x.op<=21)/\inB x.a=true/\(hasA x.op=true\/x.a=0)/\(x.op=1\/0<=x.a):=by
 unfold Cq inB farN
 cases hA:hasA x.op with
 |false=>
  have h1:¬x.op=1:=fun e=>by rw[e]at hA;cases hA
  simp[h1];omega
 |true=>
  by_cases h1:x.op=1
  ·simp[h1]
  ·simp[h1];omega
theorem AP(c:CProg):AM c=true ↔ c.ins.length<=300/\c.starts.length<=16/\(inB c.main=true/\0<=c.main)/\(∀n∈c.starts,inB n=true/\0<=n) /\ ∀x∈c.ins,Cq x=true:=by
 have hf:∀n:Int,farN n=true ↔ inB n=true/\0<=n:=fun n=>by unfold farN inB;simp;omega
 unfold AM
 simp only[Bool.and_eq_true,decide_eq_true_eq,List.all_eq_true,hf]
theorem NA(c:CProg)(O:Sig)(h1:c.ins.length<=1073741824)(h2:c.starts.length<=1073741824):DCall prog 74 [.agg (cCPg c)] O (rS (.bool (AM c)) O):=by
 have aj:(¬AM c=true)->AM c=false:=fun h=>by cases e:AM c<;>simp_all
 refine en func74 ntmps74 ?_
 by_cases c1:c.ins.length<=300
 rotate_left
 ·refine gf c1 ?_
  (refine fin1 (U':=O) ?_;exact⟨by first|rfl|(simp[aj fun h=>c1 ((AP c).1 h).1];done)|(simp_all [aj fun h=>c1 ((AP c).1 h).1];done)|(rw[Ah,Bool.eq_iff_iff];simp_all [aj fun h=>c1 ((AP c).1 h).1]<;>omega),rfl⟩)
 by_cases c2:c.starts.length<=16
 rotate_left
 ·refine gf c2 ?_
  (refine fin1 (U':=O) ?_;exact⟨by first|rfl|(simp[aj fun h=>c2 ((AP c).1 h).2.1];done)|(simp_all [aj fun h=>c2 ((AP c).1 h).2.1];done)|(rw[Ah,Bool.eq_iff_iff];simp_all [aj fun h=>c2 ((AP c).1 h).2.1]<;>omega),rfl⟩)
 cases c3:inB c.main with
 |false=>
  have hn:=aj fun h=>by have:=((AP c).1 h).2.2.1.1;rw[c3]at this;cases this
  refine gf (gi c1 (gi c2 c3)) ?_
  exact fe1 hn
 | true =>
  by_cases c4:0<=c.main
  rotate_left
  ·have hn:=aj fun h=>c4 ((AP c).1 h).2.2.1.2
   refine gf (gi c1 (gi c2 c3)) ?_
   exact fe1 hn
  refine gf (gi c1 (gi c2 c3)) ?_
  refine Cx [1,4,5,49,50,51,52,53,54,55,56,57,58,59,60,61,62,63,64,65,66,67,68,69,70,71,72,73,74,75,76,77,78,79,80,81,82,83,84,85,86,87,88,89,90,91,92,93,94,95] (fun (k:Nat)=>k<=c.starts.length /\ ∀j (h:j<c.starts.length),j<k->inB c.starts[j]=true/\0<=c.starts[j]) (fun k=>[(3,dI k)]) (fun _=>O) (fun k=>c.starts.length-k) (0) (by exact⟨by omega,fun j _ h=>by omega⟩) (fun k hI=>?_)
  obtain⟨hk,hS⟩:=hI
  by_cases ag:k<c.starts.length
  ·cases c5:inB c.starts[k]with
   |false=>
    have hn:=aj fun h=>by have:=(((AP c).1 h).2.2.2.1 _ (List.getElem_mem ag)).1;rw[c5]at this;cases this
    refine gf c5 ?_
    exact fe1 hn
   | true =>
    by_cases c6:0<=c.starts[k]
    ·refine gf c5 ?_
     exact⟨k+1,⟨by omega,fun j h1 h2=>by by_cases e:j=k;(subst e;exact⟨c5,c6⟩);exact hS j h1 (by omega)⟩,td1,wkR⟩
    ·have hn:=aj fun h=>c6 (((AP c).1 h).2.2.2.1 _ (List.getElem_mem ag)).2
     refine gf c5 ?_
     exact fe1 hn
  ·have bO:∀n∈c.starts,inB n=true/\0<=n:=fun n hn=>by
    obtain⟨j,hj,rfl⟩:=List.getElem_of_mem hn
    exact hS j hj (by omega)
   clear hS
   refine gz ?_
   refine Cx [1] (fun (k:Nat)=>k<=c.ins.length /\ ∀j (h:j<c.ins.length),j<k->Cq c.ins[j]=true) (fun k=>[(4,dI k)]) (fun _=>O) (fun k=>c.ins.length-k) (0) (by exact⟨by omega,fun j _ h=>by omega⟩) (fun k hI=>?_)
   obtain⟨hk,hS⟩:=hI
   by_cases ag:k<c.ins.length
   ·have hx:=Jc c.ins[k]
    have ap:(¬Cq c.ins[k]=true)->AM c=false:=fun h=>aj fun hc=>h (((AP c).1 hc).2.2.2.2 _ (List.getElem_mem ag))
    by_cases d1:1<=c.ins[k].op
    rotate_left
    ·have hn:=ap fun h=>d1 (hx.1 h).1.1
     refine gz ?_
     exact fe1 hn
    by_cases d2:c.ins[k].op<=21
    rotate_left
    ·have hn:=ap fun h=>d2 (hx.1 h).1.2
     refine gz ?_
     exact fe1 hn
    cases d3:inB c.ins[k].a with
    |false=>
     have hn:=ap fun h=>by have:=(hx.1 h).2.1;rw[d3]at this;cases this
     refine gf d3 ?_
     exact fe1 hn
    | true =>
     repeat' first|refine gf d3 ?_|apply gy<;>intro hh
     all_goals first
      |exact fin1 (U':=O) ⟨by rw[ap fun h=>by obtain⟨_,_,q1,q2⟩:=hx.1 h;rcases q1 with q1|q1<;>rcases q2 with q2|q2<;>simp_all<;>omega],rfl⟩
      |exact⟨k+1,⟨by omega,fun j h1 h2=>by by_cases e:j=k;(subst e;exact hx.2 ⟨⟨d1,d2⟩,d3,by first|exact .inl (by assumption)|exact .inr (by assumption),by first|exact .inl (by assumption)|exact .inr (by omega)⟩);exact hS j h1 (by omega)⟩,td1,wkR⟩
   ·have hp:AM c=true:=(AP c).2 ⟨c1,c2,⟨c3,c4⟩,bO,fun x hx=>by
     obtain⟨j,hj,rfl⟩:=List.getElem_of_mem hx
     exact hS j hj (by omega)⟩
    refine gz ?_
    exact fe1 hp
@[reducible,instance] def a74:=fun c O=>ah2 (@NA c O)
section
variable {ro:Ro}{n:Nat}{ops:Array Oper}{Q:DX->St->Prop}{df:List DDf}{rest:List Oper}{γ Sr:List (Nat×D)}{O:Sig}{t:Nat}{ty:TypeId}{pos:String}{after:Array Edge}{gd:Option (Nat×Bool)}
theorem strY{T T' e:Nat}{x:Operand}(s:Str)(h:DOps prog ro n ops Q rest ⟨(t,.str s)::γ,O,df⟩)(hl:A0 γ (A5 [x])=some Sr:=by exact tdR)(hx:esOf (ev Sr x)=some (cB8 s):=by exact tdR)(hw:Ay ops γ ⟨some t,.convert T T' x,ty,pos,after,gd⟩=some true:=by exact tdR)(bj:decide (t<n)=true:=by exact tdR)
  (hk:(tab T).k=.slice e:=by(simp<;>rfl)) (bG:(tab T').k=.str:=by(simp<;>rfl)) (bF:(tab e).k=.int .u8:=by(simp<;>rfl)) :
  DOps prog ro n ops Q (⟨some t,.convert T T' x,ty,pos,after,gd⟩::rest) ⟨γ,O,df⟩:=NN Ac h hw (by simpa using bj) hk bG bF (by rw[<-BJ hl];exact hx)
end
theorem M5(l:Str):(cB8 l).all Bw=true:=by simp[cB8,Bw,D.flat]
theorem Nz(c:CProg)(O:Sig)(hp:AM c=true):DCall prog 75 [.agg (cCPg c)] O (rS (.str (BD c)) O):=by
 obtain⟨c1,c2,c3,c4,c5⟩:=(AP c).1 hp
 have hT:=IH hp
 have aA:BD c=rawB c++[sumB (rawB c) 0]:=rfl
 have bu:=congrArg List.length aA
 rw[List.length_append,List.length_singleton]at bu
 have hr:rawB c=[199]++(digB c.starts.length++(listB (fun n:Int=>digB n.toNat) c.starts++(digB c.main.toNat++(digB c.ins.length++listB insB c.ins)))):=rfl
 have aQ:∀n:Int,inB n=true-> -1000000000<=n/\n<=1000000000:=fun n h=>by unfold inB at h;simpa using h
 refine en func75 ntmps75 ?_
 refine gz ?_
 refine appC (es:=[[.int .u8 199]]) (new:=cB8 (digB c.starts.length)) (fun i hi=>?_) (hne:=UQ (Sq _)) (hlen':=SH _) (hb:=by have:=H0 (n:=c.starts.length) (by omega);simp;omega) (hm:=by have:=H0 (n:=c.starts.length) (by omega);simp;omega)
 have e0:[[D.int .u8 199]]++cB8 (digB c.starts.length)=cB8 ([199]++digB c.starts.length):=rfl
 rw[e0,show(tab 5).size=1 by simp,show [[D.int .u8 199]].length+(cB8 (digB c.starts.length)).length=([199]++digB c.starts.length).length by simp;omega]
 refine gz ?_
 refine Cw [1,2,5,27,28,29,30,31,32,33,34,35,36,37,38,39,40,41,42,43,44,45,46,47,48,49,50,51,52,53,54,55,56,57,58,59,60,61,62,63,64,65,66,67,68,69,70,71,72,73,74,75,76,77] (fun (k:Nat) (bs:Str)=>k<=c.starts.length/\bs++(listB (fun n:Int=>digB n.toNat) (c.starts.drop k)++(digB c.main.toNat++(digB c.ins.length++listB insB c.ins)))=rawB c) (fun k bs=>[(4,dI k),(3,.slice (cB8 bs) (.tag i))]) (fun _ bs=>O.set i (.tail 1 bs.length)) (fun k _=>c.starts.length-k) (0) ([199]++digB c.starts.length) (by exact⟨by omega,by rw[hr];simp⟩) (fun k bs hI=>?_)
 obtain⟨hk,hE⟩:=hI
 have aK:=congrArg List.length hE
 simp only[List.length_append]at aK
 by_cases ag:k<c.starts.length
 ·obtain⟨n1,n2⟩:=c4 _ (List.getElem_mem ag)
  have n3:=aQ _ n1
  obtain⟨w,hw⟩:∃w:Nat,c.starts[k]=(w:Int):=⟨c.starts[k].toNat,by omega⟩
  rw[Ab ag,listB,hw,Int.toNat_natCast]at hE
  have bZ:=H0 (n:=w) (by omega)
  refine gf (gi hw (gi F2 M5)) ?_
  rw[<-IG,<-List.length_append]
  exact⟨k+1,bs++digB w,⟨by omega,by simpa[List.append_assoc] using hE⟩,td1,wkR⟩
 ·obtain⟨⟨m1,m2⟩,m3⟩:(-1000000000<=c.main/\c.main<=1000000000)/\0<=c.main:=⟨aQ _ c3.1,c3.2⟩
  obtain⟨w,hw⟩:∃w:Nat,c.main=(w:Int):=⟨c.main.toNat,by omega⟩
  rw[Af ag,listB,List.nil_append,hw,Int.toNat_natCast]at hE
  have ca:=H0 (n:=w) (by omega)
  have b9:=H0 (n:=c.ins.length) (by omega)
  have aD:=congrArg List.length hE
  simp only[List.length_append]at aD
  refine gf (gi hw (gi F2 M5)) ?_
  rw[<-IG,<-List.length_append,<-IG,<-List.length_append]
  refine Cw [1,2,72,73,74,75,76,77] (fun (k:Nat) (bs:Str)=>k<=c.ins.length/\bs++listB insB (c.ins.drop k)=rawB c) (fun k bs=>[(5,dI k),(3,.slice (cB8 bs) (.tag i))]) (fun _ bs=>O.set i (.tail 1 bs.length)) (fun k _=>c.ins.length-k) (0) (bs++digB w++digB c.ins.length) (by exact⟨by omega,by rw[List.drop_zero,<-hE];simp⟩) (fun k bs hI=>?_)
  clear hE aK aD
  obtain⟨hk,hE⟩:=hI
  have aK:=congrArg List.length hE
  simp only[List.length_append]at aK
  by_cases ag:k<c.ins.length
  ·obtain⟨⟨p1,p2⟩,p3,p4,p5⟩:=(Jc _).1 (c5 _ (List.getElem_mem ag))
   have p6:=aQ _ p3
   obtain⟨w,hw⟩:∃w:Nat,c.ins[k].op=(w:Int):=⟨c.ins[k].op.toNat,by omega⟩
   obtain⟨y,hy⟩:∃y,UInt8.ofNat c.ins[k].op.toNat=y:=⟨_,rfl⟩
   have aW:IntKind.u8.wrap c.ins[k].op=(y.toNat:Int):=by rw[<-hy,hw,E7,Ds (by omega)];omega
   have bJ:Dh c.ins[k].a<=10000000000:=by unfold Dh;split<;>omega
   have b8:=H0 bJ
   cases hA:hasA c.ins[k].op with
   |false=>
    have hi:insB c.ins[k]=[y]:=by unfold insB;rw[hA,hy];rfl
    rw[Ab ag,listB,hi]at hE
    refine gf (gi aW (gi hA (gi F2 M5))) ?_
    rw[show cB8 bs++[[D.int .u8 (y.toNat:Int)]]=cB8 (bs++[y]) by rw[IG];rfl,show bs.length+1=(bs++[y]).length by simp]
    exact⟨k+1,bs++[y],⟨by omega,by simpa[List.append_assoc] using hE⟩,td1,wkR⟩
   |true=>
    have hi:insB c.ins[k]=y::digB (Dh c.ins[k].a):=by unfold insB;rw[hA,hy];rfl
    rw[Ab ag,listB,hi]at hE
    refine gf (gi aW (gi hA (gi F2 M5))) ?_
    rw[show cB8 bs++[D.int .u8 (y.toNat:Int)]::cB8 (digB (Dh c.ins[k].a))=cB8 (bs++[y]++digB (Dh c.ins[k].a)) by simp[cB8],show bs.length+1+(digB (Dh c.ins[k].a)).length=(bs++[y]++digB (Dh c.ins[k].a)).length by simp;omega]
    exact⟨k+1,bs++[y]++digB (Dh c.ins[k].a),⟨by omega,by simpa[List.append_assoc] using hE⟩,td1,wkR⟩
  ·rw[Af ag,listB,List.append_nil]at hE
   subst hE
   refine gf (gi F2 M5) ?_
   rw[show cB8 (rawB c)++[[D.int .u8 ((sumB (rawB c) 0).toNat:Int)]]=cB8 (BD c) by rw[aA,IG];rfl]
   refine strY (BD c) ?_
   refine gz ?_
   refine fin1 (U':=O) ⟨rfl,rfl⟩
theorem U5(c:CProg)(O:Sig)(h1:c.ins.length<=1073741824)(h2:c.starts.length<=1073741824):DCall prog 37 [.agg (cCPg c)] O (rS (if AM c then .tup [.str (BD c),dI 0] else .tup [.str [],dI 2]) O):=by
 refine en func37 ntmps37 ?_
 cases hp:AM c with
 |false=>
  refine gf hp ?_
  refine fin2 (U':=O) ⟨rfl,rfl⟩
 |true=>
  have hl:=IH hp
  have i75:∀O,Ans 75 [.agg (cCPg c)] O True (.str (BD c)):=fun O=>ah0 (Nz c O hp)
  refine gf hp ?_
  refine fin2 (U':=O) ⟨rfl,rfl⟩
def Hd:List (Int×Int):=[(1,1),(2,2),(3,3),(4,5),(5,19),(6,4),(7,8),(8,6),(12,9),(13,10),(14,11),(15,12),(16,13),(17,7),(18,20)]
def pK:List D:=(eIN Hd).map (·.1)
def pV:List D:=(eIN Hd).map (·.2)
theorem pKV:pK.zip pV=eIN Hd:=rfl
@[simp] theorem hitIN85(k:Int)(m:List (Int×Int)):hitD tab 85 false (Cd (.int .i64) (.int .i64 k) (eIN m) 0)=some (.int .i64 (getM 0 k m)):=Qe keyI dI rfl k m
theorem Oh{o:Int}(h:1<=o/\o<=18)(h9:o≠9)(ax:o≠10)(aw:o≠11):getM 0 o Hd=Sy o:=by
 have:o=1\/o=2\/o=3\/o=4\/o=5\/o=6\/o=7\/o=8\/o=12\/o=13\/o=14\/o=15\/o=16\/o=17\/o=18:=by omega
 rcases this with e|e|e|e|e|e|e|e|e|e|e|e|e|e|e<;>rw[e]<;>rfl
theorem R9(O:Sig):DCall prog 208 [] O (rS (.cmap pK pV) O):=by
 refine en func208 ntmps208 ?_
 refine gz ?_
 refine newIN (fun im bI=>?_)
 repeat ((fail_if_success (first|(refine cfr 1 (i:=im) (m:=eIN Hd) (w6 ..) ?_)|fail));(refine goX1 trivial ?_))
 refine cfr 1 (i:=im) (m:=eIN Hd) (w6 ..) ?_
 rw[show(eIN Hd).map (·.1)=pK from rfl,show(eIN Hd).map (·.2)=pV from rfl]
 rw[Sig.set_del _ _ bI]
 refine gz ?_
 exact fe1 trivial
@[reducible,instance] def a208:=fun O=>ah0 (@R9 O)
theorem N9(l r:List CIns)(op a b:Int):setA (l++⟨op,a⟩::r) l.length b=l++⟨op,b⟩::r:=by
 unfold setA
 rw[List.take_left,List.getElem?_append_right (Nat.le_refl _),Nat.sub_self,List.drop_append]
 simp
theorem JB(p:BProg)(inM:Bool)(hp:p.wt<=1073741824): ∀(k:Nat) (n:Int) (size:Nat),trE p inM k n size->∀(ib:Nat) (s m:D) (st:MR) (ins:List CIns) (O:Sig),ins.length+cL p k n<=1000000->BlkS ib s m st ins O->
  DCall prog 131 [.ptr ib 0,.agg (Aj p),dI n] O fun x U'=>x=.ret (.tup []) /\ ∃st',BlkS ib s m st' (ins++cN p k n ins.length) U'/\BK ib O st U' st':=by
 obtain⟨p1,p2,p3,p4,p5,p6,p7⟩:=p.wt_le
 intro k
 induction k with
 |zero=>intro n size h;exact h.elim
 | succ k ih =>
  intro n size h ib s m st ins O hq hB
  have aZ:=tr_op h
  have ag:=fun m hm=>JZ h (m:=m) hm
  obtain⟨⟨h0,h1⟩,bD,bz,bx,hk⟩:=h
  obtain⟨i,rfl⟩:∃i:Nat,n=(i:Int):=⟨n.toNat,by omega⟩
  have hi:i<p.nodes.length:=by omega
  have aM:A9 p i=p.nodes[i]:=by unfold A9;rw[show((i:Int)).toNat=i by omega,List.getElem?_eq_getElem hi];rfl
  have bi:=p7 i hi
  have hN:=NR p k
  rw[cL,aM]at hq
  rw[cN,aM]
  rw[aM]at aZ ag bD bz bx hk
  generalize hx:p.nodes[i]=x at*
  have bU:x.kids.length<=1073741824:=by unfold BNode.wt at bi;omega
  have bE:∀c∈x.kids, ∃z:Nat,trE p inM k c z:=fun c hc=>by
   obtain⟨j,hj,rfl⟩:=List.getElem_of_mem hc
   have:=hk j hj
   split at this
   ·exact⟨size+1,this⟩
   ·exact⟨size,this⟩
  have hS:∀c∈x.kids, ∀(st:MR) (l:List CIns) (O:Sig),l.length+cL p k c<=1000000->BlkS ib s m st l O->DCall prog 131 [.ptr ib 0,.agg (Aj p),dI c] O fun x U'=>x=.ret (.tup []) /\ ∃st',BlkS ib s m st' (l++cN p k c l.length) U'/\BK ib O st U' st':=fun c hc st l O hl hB=>by
   obtain⟨z,hz⟩:=bE c hc;exact ih c z hz ib s m st l O hl hB
  by_cases h9:x.op=9
  ·rw[if_pos h9]at hq⊢
   obtain⟨a,b,ac⟩:∃a b,x.kids=[a,b]:=by
    have hl:x.kids.length=2:=ag 2 (by rw[h9];rfl)
    match hx:x.kids,hl with
    |[a,b],_=>exact⟨a,b,rfl⟩
   have aF:kidN x 0=a:=by unfold kidN;rw[ac];rfl
   have aE:kidN x 1=b:=by unfold kidN;rw[ac];rfl
   rw[aF,aE]at hq⊢
   have e1:(ins++cN p k a ins.length).length=ins.length+cL p k a:=by rw[List.length_append,hN]
   have e2:(ins++cN p k a ins.length++[(⟨14,0⟩:CIns)]).length=ins.length+cL p k a+1:=by rw[List.length_append,e1];rfl
   refine en func131 ntmps131 ?_
   refine gf (gi hx (gi h9 ac)) ?_ o131
   refine A4 (hS a (by rw[ac];simp) st ins O (by omega) hB) (fun d S1 hr=>?_) (fun d S1 hr=>by cases hr.1)
   obtain⟨q1,st1,ai,ah⟩:=hr
   cases q1
   refine gz ?_ o131
   refine A4 (CP 14 0 (by omega) ai) (fun d S2 hr=>?_) (fun d S2 hr=>by cases hr.1)
   obtain⟨q2,st2,aa,ae⟩:=hr
   cases q2
   refine gf ac ?_ o131
   refine A4 (hS b (by rw[ac];simp) st2 _ S2 (by omega) aa) (fun d S3 hr=>?_) (fun d S3 hr=>by cases hr.1)
   obtain⟨q3,st3,ar,aJ⟩:=hr
   cases q3
   rw[e2]at ar
   have e3:(ins++cN p k a ins.length++[(⟨14,0⟩:CIns)]++cN p k b (ins.length+cL p k a+1)).length=ins.length+cL p k a+1+cL p k b:=by rw[List.length_append,e2,hN]
   refine gz ?_ o131
   refine A4 (CP 15 0 (by omega) ar) (fun d S4 hr=>?_) (fun d S4 hr=>by cases hr.1)
   obtain⟨q4,st4,aV,aU⟩:=hr
   cases q4
   refine gz ?_ o131
   refine DZ (U':=S4) ⟨rfl,st4,?_,((ah.trans ae).trans aJ).trans aU⟩
   simpa[List.append_assoc] using aV
  ·rw [if_neg h9] at hq ⊢
   by_cases aw:x.op=11
   ·rw[if_pos aw]at hq⊢
    obtain⟨a,b,ac⟩:∃a b,x.kids=[a,b]:=by
     have hl:x.kids.length=2:=ag 2 (by rw[aw];rfl)
     match hx:x.kids,hl with
     |[a,b],_=>exact⟨a,b,rfl⟩
    have aF:kidN x 0=a:=by unfold kidN;rw[ac];rfl
    have aE:kidN x 1=b:=by unfold kidN;rw[ac];rfl
    rw[aF,aE]at hq⊢
    have e1:(ins++cN p k a ins.length).length=ins.length+cL p k a:=by rw[List.length_append,hN]
    have e2:(ins++cN p k a ins.length++[(⟨16,0⟩:CIns)]).length=ins.length+cL p k a+1:=by rw[List.length_append,e1];rfl
    refine en func131 ntmps131 ?_
    refine gf (gi hx (gi aw ac)) ?_ o131
    refine A4 (hS a (by rw[ac];simp) st ins O (by omega) hB) (fun d S1 hr=>?_) (fun d S1 hr=>by cases hr.1)
    obtain⟨q1,st1,ai,ah⟩:=hr
    cases q1
    refine gz ?_ o131
    refine A4 (CP 16 0 (by omega) ai) (fun d S2 hr=>?_) (fun d S2 hr=>by cases hr.1)
    obtain⟨q2,st2,aa,ae⟩:=hr
    cases q2
    refine gf ac ?_ o131
    refine A4 (hS b (by rw[ac];simp) st2 _ S2 (by omega) aa) (fun d S3 hr=>?_) (fun d S3 hr=>by cases hr.1)
    obtain⟨q3,st3,ar,aJ⟩:=hr
    cases q3
    rw[e2]at ar
    refine gz ?_ o131
    refine DZ (U':=S3) ⟨rfl,st3,?_,(ah.trans ae).trans aJ⟩
    simpa[List.append_assoc] using ar
   ·rw [if_neg aw] at hq ⊢
    by_cases ax:x.op=10
    ·rw[if_pos ax]at hq⊢
     obtain⟨a,b,c,ac⟩:∃a b c,x.kids=[a,b,c]:=by
      have hl:x.kids.length=3:=ag 3 (by rw[ax];rfl)
      match hx:x.kids,hl with
      |[a,b,c],_=>exact⟨a,b,c,rfl⟩
     have aF:kidN x 0=a:=by unfold kidN;rw[ac];rfl
     have aE:kidN x 1=b:=by unfold kidN;rw[ac];rfl
     have bL:kidN x 2=c:=by unfold kidN;rw[ac];rfl
     rw[aF,aE,bL]at hq⊢
     have e1:(ins++cN p k a ins.length).length=ins.length+cL p k a:=by rw[List.length_append,hN]
     have e2:(ins++cN p k a ins.length++[(⟨17,0⟩:CIns)]).length=ins.length+cL p k a+1:=by rw[List.length_append,e1];rfl
     refine en func131 ntmps131 ?_
     refine gf (gi hx (gi ax ac)) ?_ o131
     refine A4 (hS a (by rw[ac];simp) st ins O (by omega) hB) (fun d S1 hr=>?_) (fun d S1 hr=>by cases hr.1)
     obtain⟨q1,st1,ai,ah⟩:=hr
     cases q1
     refine gz ?_ o131
     refine A4 (Lz 17 (by omega) ai) (fun d S2 hr=>?_) (fun d S2 hr=>by cases hr.1)
     obtain⟨q2,st2,aa,ae⟩:=hr
     obtain⟨k1,ak⟩:∃k1,k1=(ins++cN p k a ins.length).length:=⟨_,rfl⟩
     rw[<-ak]at q2
     cases q2
     refine gf ac ?_ o131
     refine A4 (hS b (by rw[ac];simp) st2 _ S2 (by omega) aa) (fun d S3 hr=>?_) (fun d S3 hr=>by cases hr.1)
     obtain⟨q3,st3,ar,aJ⟩:=hr
     cases q3
     rw[e2]at ar
     have e3:(ins++cN p k a ins.length++[(⟨17,0⟩:CIns)]++cN p k b (ins.length+cL p k a+1)).length=ins.length+cL p k a+1+cL p k b:=by rw[List.length_append,e2,hN]
     refine gz ?_ o131
     refine A4 (Lz 18 (by omega) ar) (fun d S4 hr=>?_) (fun d S4 hr=>by cases hr.1)
     obtain⟨q4,st4,aV,aU⟩:=hr
     obtain⟨k2,aq⟩:∃k2,k2=(ins++cN p k a ins.length++[(⟨17,0⟩:CIns)]++cN p k b (ins.length+cL p k a+1)).length:=⟨_,rfl⟩
     rw[<-aq]at q4
     cases q4
     have e4:(ins++cN p k a ins.length++[(⟨17,0⟩:CIns)]++cN p k b (ins.length+cL p k a+1)++[(⟨18,0⟩:CIns)]).length=ins.length+cL p k a+1+cL p k b+1:=by rw[List.length_append,e3];rfl
     refine gz ?_ o131
     refine A4 (Lt k1 (by omega) (by omega) aV) (fun d S5 hr=>?_) (fun d S5 hr=>by cases hr.1)
     obtain⟨q5,st5,bf,bR⟩:=hr
     cases q5
     have br:ins++cN p k a ins.length++[(⟨17,0⟩:CIns)]++cN p k b (ins.length+cL p k a+1)++[(⟨18,0⟩:CIns)]=(ins++cN p k a ins.length)++⟨17,0⟩::(cN p k b (ins.length+cL p k a+1)++[(⟨18,0⟩:CIns)]):=by simp
     rw[e4,br,ak,N9]at bf
     have e5:(ins++cN p k a ins.length++(⟨17,((ins.length+cL p k a+1+cL p k b+1:Nat):Int)⟩:CIns)::(cN p k b (ins.length+cL p k a+1)++[(⟨18,0⟩:CIns)])).length=ins.length+cL p k a+1+cL p k b+1:=by rw[List.length_append,e1,List.length_cons,List.length_append,hN];simp only[List.length_cons,List.length_nil];omega
     refine gf ac ?_ o131
     refine A4 (hS c (by rw[ac];simp) st5 _ S5 (by omega) bf) (fun d S6 hr=>?_) (fun d S6 hr=>by cases hr.1)
     obtain⟨q6,st6,be,bQ⟩:=hr
     cases q6
     rw[e5]at be
     have e6:(ins++cN p k a ins.length++(⟨17,((ins.length+cL p k a+1+cL p k b+1:Nat):Int)⟩:CIns)::(cN p k b (ins.length+cL p k a+1)++[(⟨18,0⟩:CIns)])++cN p k c (ins.length+cL p k a+1+cL p k b+1)).length=ins.length+cL p k a+1+cL p k b+1+cL p k c:=by rw[List.length_append,e5,hN]
     refine gz ?_ o131
     refine A4 (Lt k2 (by omega) (by omega) be) (fun d S7 hr=>?_) (fun d S7 hr=>by cases hr.1)
     obtain⟨q7,st7,bd,bP⟩:=hr
     cases q7
     have bq:(ins++cN p k a ins.length++(⟨17,((ins.length+cL p k a+1+cL p k b+1:Nat):Int)⟩:CIns)::(cN p k b (ins.length+cL p k a+1)++[(⟨18,0⟩:CIns)])++cN p k c (ins.length+cL p k a+1+cL p k b+1)) =
       (ins++cN p k a ins.length++(⟨17,((ins.length+cL p k a+1+cL p k b+1:Nat):Int)⟩:CIns)::cN p k b (ins.length+cL p k a+1))++⟨18,0⟩::cN p k c (ins.length+cL p k a+1+cL p k b+1):=by simp
     have aO:k2=(ins++cN p k a ins.length++(⟨17,((ins.length+cL p k a+1+cL p k b+1:Nat):Int)⟩:CIns)::cN p k b (ins.length+cL p k a+1)).length:=by rw[aq];simp
     rw[e6,bq,aO,N9]at bd
     refine gz ?_ o131
     refine DZ (U':=S7) ⟨rfl,st7,?_,(((((ah.trans ae).trans aJ).trans aU).trans bR).trans bQ).trans bP⟩
     simpa[List.append_assoc] using bd
    ·rw[if_neg ax]at hq⊢
     have bw:=Oh aZ h9 ax aw
     have cd:(IZ (cN p k) x.kids ins.length).length=wtL (cL p k) x.kids:=IA hN _ _
     refine en func131 ntmps131 ?_
     refine gf hx ?_ o131
     refine Kk [0,4,6,19,20,30,31,32,33,34,35,36,37] (fun (j:Nat) (out:List CIns) (st1:MR) (S1:Sig)=>j<=x.kids.length/\out++IZ (cN p k) (x.kids.drop j) (ins.length+out.length)=IZ (cN p k) x.kids ins.length/\BlkS ib s m st1 (ins++out) S1/\BK ib O st S1 st1) (fun j _ _ _=>[(21,dI j)]) (fun _ _ _ S1=>S1) (fun j _ _ _=>x.kids.length-j) (0) ([]) (st) (O) (by exact⟨by omega,rfl,by rw[List.append_nil];exact hB,BK.refl _ _ _⟩) (fun j out st1 S1 hI=>?_)
     obtain⟨hj,hR,ai,ah⟩:=hI
     by_cases aB:j<x.kids.length
     ·rw[Ab aB,IZ]at hR
      have aN:=congrArg List.length hR
      simp only[List.length_append,hN]at aN
      refine gf hx ?_ o131
      refine A4 (hS x.kids[j] (List.getElem_mem aB) st1 _ S1 (by rw[List.length_append];omega) ai) (fun d S2 hr=>?_) (fun d S2 hr=>by cases hr.1)
      obtain⟨q2,st2,aa,ae⟩:=hr
      cases q2
      rw[List.append_assoc,List.length_append]at aa
      refine gz ?_ o131
      exact⟨j+1,out++cN p k x.kids[j] (ins.length+out.length),st2,S2,⟨by omega,by rw[List.append_assoc,List.length_append,<-Nat.add_assoc];exact hR,aa,ah.trans ae⟩,td1,wkR⟩
     ·rw[Af aB,IZ,List.append_nil]at hR
      subst hR
      refine gf (gi hx (gi pKV bw)) ?_ o131
      refine A4 (CP (Sy x.op) x.n (by rw[List.length_append];omega) ai) (fun d S2 hr=>?_) (fun d S2 hr=>by cases hr.1)
      obtain⟨q2,st2,aa,ae⟩:=hr
      cases q2
      refine gz ?_ o131
      refine DZ (U':=S2) ⟨rfl,st2,?_,ah.trans ae⟩
      simpa[List.append_assoc] using aa
theorem Ll(p:BProg)(inM:Bool)(hp:p.wt<=1073741824)(k:Nat)(n:Int)(size:Nat)(h:trE p inM k n size)(ib:Nat)(s m:D)(st:MR)(ins:List CIns)(O:Sig)(hq:ins.length+cL p k n<=1000000)(hB:BlkS ib s m st ins O):
  DCall prog 60 [.ptr ib 0,.agg (Aj p),dI n] O fun x U'=>x=.ret (dI ins.length) /\ ∃st',BlkS ib s m st' (ins++bodyC p k n ins.length) U'/\BK ib O st U' st':=by
 have hN:=NR p k
 obtain⟨q1,q2,q3⟩:=hB
 have hB:BlkS ib s m st ins O:=⟨q1,q2,q3⟩
 have fin:∀(S2:Sig) (st2:MR),BlkS ib s m st2 (ins++cN p k n ins.length++[(⟨21,0⟩:CIns)]) S2->BlkS ib s m st2 (ins++bodyC p k n ins.length) S2:=fun S2 st2 h=>by unfold bodyC;simpa[List.append_assoc] using h
 refine en func60 ntmps60 ?_
 cases au:st with
 |none=>
  subst au
  have h0:ins=[]:=by have:ins.map cIns=[]:=q2;simpa using this
  subst h0
  simp only[mD]at q1
  refine gf q1 ?_
  refine A4 (JB p inM hp k n size h ib s m none [] O hq hB) (fun d S1 hr=>?_) (fun d S1 hr=>by cases hr.1)
  obtain⟨e1,st1,ai,ah⟩:=hr
  cases e1
  refine gz ?_
  refine A4 (CP 21 0 (by rw[List.length_append,hN];omega) ai) (fun d S2 hr=>?_) (fun d S2 hr=>by cases hr.1)
  obtain⟨e2,st2,aa,ae⟩:=hr
  cases e2
  refine gz ?_
  exact fin1 (U':=S2) ⟨rfl,st2,fin _ _ aa,ah.trans ae⟩
 |some x=>
  obtain⟨rr,rc,rest⟩:=x
  subst au
  simp only[mD]at q1
  refine gf q1 ?_
  refine A4 (JB p inM hp k n size h ib s m _ ins O hq hB) (fun d S1 hr=>?_) (fun d S1 hr=>by cases hr.1)
  obtain⟨e1,st1,ai,ah⟩:=hr
  cases e1
  refine gz ?_
  refine A4 (CP 21 0 (by rw[List.length_append,hN];omega) ai) (fun d S2 hr=>?_) (fun d S2 hr=>by cases hr.1)
  obtain⟨e2,st2,aa,ae⟩:=hr
  cases e2
  refine gz ?_
  exact fin1 (U':=S2) ⟨rfl,st2,fin _ _ aa,ah.trans ae⟩
def MW(p:BProg):CProg:=if okP p then H2 p else⟨[],[],0⟩
theorem U8(p:BProg)(O:Sig)(hp:p.wt<=1073741824):DCall prog 18 [.agg (Aj p)] O (rS (.tup [.agg (cCPg (MW p)),dI (if okP p then 0 else 2)]) O):=by
 obtain⟨p1,p2,p3,p4,p5,p6,p7⟩:=p.wt_le
 refine en func18 ntmps18 ?_
 cases hk:okP p with
 |false=>
  have hc:MW p=⟨[],[],0⟩:=by unfold MW;rw[hk];rfl
  rw[hc]
  refine gz ?_ o18 [2,15]
  refine newV (fun i hi=>?_)
  refine gf hk ?_ o18 [2,15]
  refine finC (U':=O) (d:=.tup [.agg (cCPg ⟨[],[],0⟩),dI 2]) ⟨rfl,rfl⟩ (hw:=?_)
  exact CA ⟨E9 ⟨Ao _ (.inl rfl),Ao _ (.inl rfl),A8 _,trivial⟩,A8 _,trivial⟩
 | true =>
  have hc:MW p=H2 p:=by unfold MW;rw[hk];rfl
  rw[hc]
  have aX:=SI hk
  have cb:=Uo hk
  have bY:=GW hk
  refine gz ?_ o18 [2,15]
  refine newV (fun i2 ba=>?_)
  repeat ((fail_if_success (first|(refine boxV (T:=127) (fun ib a8=>?_))|fail));(refine goX1 hk ?_))
  refine boxV (T:=127) (fun ib a8=>?_)
  obtain⟨n2b,am⟩:=B2 a8
  refine gz ?_ o18 [2,15]
  refine dwp_tagcell ib 1 1 (ds:=[.nils,.nils,dI 0]) (w6 ..) rfl (fun it bH=>?_)
  obtain⟨nbt,aP⟩:=B2 bH
  obtain⟨n2t,aC⟩:=B2 aP
  simp only[List.set_cons_succ,List.set_cons_zero]
  generalize aH:Sig.set (Sig.set (Sig.set (Sig.set O i2 _) ib _) it _) ib _=S0
  have o0:S0 ib=some (.cells [mD none ([]:List CIns).length,.slice (cI []) (.tag it),dI 0]):=by rw[<-aH,w6];rfl
  have t0:S0 it=some (.tail 1 ([]:List Int).length):=by rw[<-aH,w7 _ _ nbt,w6];rfl
  have c0:S0 i2=some (.cells [.nils,.nils,dI 0]):=by rw[<-aH,w7 _ _ n2b.symm,w7 _ _ n2t.symm,w7 _ _ n2b.symm,w6]
  have s0:Sub O S0:=fun j x hj=>by
   have k1:=Ae hj ba
   have k2:=Ae hj am
   have k3:=Ae hj aC
   rw[<-aH,w7 _ _ k2,w7 _ _ k3,w7 _ _ k2,w7 _ _ k1];exact hj
  have B0:BlkS ib (.slice (cI []) (.tag it)) (dI 0) none [] S0:=⟨o0,rfl,id⟩
  clear aH
  have bS:(Br p).length=p.methods.length:=by unfold Br;simp
  refine loop5 [1,2,3,5,17,18,40,41,42,43,44,45,46,47,48,49,50,51,52] (fun (j:Nat) (out:List CIns) (l:List Int) (st:MR) (S1:Sig)=>j<=p.methods.length/\l.length=j/\out++BE p 12 ((Br p).drop j) out.length=BE p 12 (Br p) 0/\l++(GM p 12 ((Br p).drop j) out.length).map (·.pos)=(GM p 12 (Br p) 0).map (·.pos)/\BlkS ib (.slice (cI l) (.tag it)) (dI 0) st out S1/\S1 it=some (.tail 1 l.length) /\ ¬Fm st it/\S1 i2=some (.cells [.nils,.nils,dI 0]) /\ ¬Fm st i2/\(∀k x,O k=some x->S1 k=some x /\ ¬Fm st k)) (fun j _ _ _ _=>[(19,dI j)]) (fun _ _ _ _ S1=>S1) (fun j _ _ _ _=>p.methods.length-j) (0) ([]) ([]) (none) (S0) (by exact⟨by omega,rfl,rfl,rfl,B0,t0,id,c0,id,fun k x hk=>⟨s0 _ _ hk,id⟩⟩) (fun j out l st S1 hI=>?_)
  obtain⟨hj,bC,hR,aI,hB,bn,bt,bc,aY,hS⟩:=hI
  by_cases aB:j<p.methods.length
  ·have bB:(Br p).drop j=⟨(p.methods[j]).node,(p.gens.getD (p.methods[j]).gen.toNat 0).toNat,L2 p.methods[j]⟩::(Br p).drop (j+1):=by
    rw[List.drop_eq_getElem_cons (by omega)];unfold Br;simp
   have bl:=aX ⟨(p.methods[j]).node,(p.gens.getD (p.methods[j]).gen.toNat 0).toNat,L2 p.methods[j]⟩ (by unfold bodsP;rw[List.mem_append];left;exact List.mem_map.2 ⟨p.methods[j],List.getElem_mem aB,rfl⟩)
   rw[bB]at hR aI
   have q1:=hB.env
   refine gz ?_ [] [2,15]
   refine mixI (id:=8) [0,1,2,3,4,5,6,7,8,9,10,11,12,13,14,15,16] [10,12,16] [5] [16] (fun s=> ∃a,s ib=some (.cells [a,.slice (cI l) (.tag it),dI 0])) ⟨_,q1⟩ ?_
   refine iP (.ptr ib 0) ?_
   refine iP (.ptr ib 0) ?_
   refine iP (.ptr ib 0) ?_
   refine iP (.ptr ib 0) ?_
   refine iP (.ptr ib 1) ?_
   refine iR (.slice (cI l) (.tag it)) (fun s ⟨a,hs⟩=>?_) ?_
   ·simp[hs]
   refine iP (.ptr ib 0) ?_
   refine iP (.agg (Aj p)) ?_
   refine iP _ ?_
   refine iP (dI (p.methods[j]).node) ?_
   have aN:=congrArg List.length hR
   simp only[BE,List.length_append,E3]at aN
   refine iW (fun s=> ∃a,s ib=some (.cells [a,.slice (cI l) (.tag it),dI 0])) (Ll p _ hp 12 _ _ bl ib _ _ st out S1 ?_ hB) (fun d S2 hr=>?_) (fun d S2 hr=>by cases hr.1)
   ·have aR:(H2 p).ins.length=(BE p 12 (Br p) 0).length+(bodyC p 12 p.main (L6 p)).length:=by unfold H2;rw[List.length_append]
    show out.length+cL p 12 (p.methods[j]).node<=1000000
    omega
   obtain⟨e2,st2,aa,ae⟩:=hr
   cases e2
   have nbt':ib≠it:=fun e=>nbt e.symm
   obtain⟨bm,ay⟩:=ae _ _ bn (fun e=>nbt e) bt
   obtain⟨aT,aL⟩:=ae _ _ bc (fun e=>n2b e.symm) aY
   refine⟨⟨_,aa.env⟩,?_⟩
   refine iP (.slice [[dI out.length]] .clip) ?_
   refine iE (d:=.slice (cI l++[[dI out.length]]) (.tag it)) (U':=S2.set it (.tail 1 (l.length+1))) (fun s=> ∃a,s ib=some (.cells [a,.slice (cI l) (.tag it),dI 0])) ⟨_,by rw[w7 _ _ nbt'];exact aa.env⟩ ?_ (he:=?_)
   rotate_left
   ·simp[bm];omega
   refine iP (.ptr ib 0) ?_
   refine iP (.ptr ib 0) ?_
   refine iP (.ptr ib 1) ?_
   refine iS (d:=.any) (U':=(S2.set it (.tail 1 (l.length+1))).set ib (.cells [mD st2 (out++bodyC p 12 (p.methods[j]).node out.length).length,.slice (cI l++[[dI out.length]]) (.tag it),dI 0])) (fun _=>True) trivial ?_ (he:=?_)
   rotate_left
   ·simp[aa.env,w7 _ _ nbt']
   refine iN ?_
   refine gz ?_ o18 [2,15]
   rw[BE]at hR
   rw[GM]at aI
   generalize aG:Sig.set (Sig.set S2 it _) ib _=S3
   have o3:S3 ib=some (.cells [mD st2 (out++bodyC p 12 (p.methods[j]).node out.length).length,.slice (cI (l++[(out.length:Int)])) (.tag it),dI 0]):=by rw[<-aG,w6];simp[cI]
   have t3:S3 it=some (.tail 1 (l++[(out.length:Int)]).length):=by rw[<-aG,w7 _ _ nbt,w6,List.length_append];rfl
   have c3:S3 i2=some (.cells [.nils,.nils,dI 0]):=by rw[<-aG,w7 _ _ n2b.symm,w7 _ _ n2t.symm];exact aT
   have B3:BlkS ib (.slice (cI (l++[(out.length:Int)])) (.tag it)) (dI 0) st2 (out++bodyC p 12 (p.methods[j]).node out.length) S3:=⟨o3,aa.row.keep fun k x hk hr=>by
    rw[<-aG,w7 _ _ fun e=>aa.nr (by rw[<-e];exact hr),w7 _ _ fun e=>ay (by rw[<-e];exact hr)];exact hk,aa.nr⟩
   have s3:∀k x,O k=some x->S3 k=some x /\ ¬Fm st2 k:=fun k x hk=>by
    have k2:=Ae hk am
    have k3:=Ae hk aC
    obtain⟨h1,h2⟩:=hS _ _ hk
    obtain⟨h3,h4⟩:=ae k x h1 k2 h2
    exact⟨by rw[<-aG,w7 _ _ k2,w7 _ _ k3];exact h3,h4⟩
   exact⟨j+1,out++bodyC p 12 (p.methods[j]).node out.length,l++[(out.length:Int)],st2,S3,⟨by omega,by rw[List.length_append,bC];rfl,by rw[List.append_assoc,List.length_append,E3];exact hR,by rw[List.append_assoc,List.length_append,E3];exact aI,B3,t3,ay,c3,aL,s3⟩,td1,wkR⟩
  ·rw[List.drop_eq_nil_of_le (by omega),BE,List.append_nil]at hR
   rw[List.drop_eq_nil_of_le (by omega),GM,List.map_nil,List.append_nil]at aI
   have bk:=aX ⟨p.main,0,false⟩ (by unfold bodsP;simp)
   have aR:(H2 p).ins=out++bodyC p 12 p.main out.length:=by unfold H2 L6;rw[<-hR]
   have aS:=congrArg List.length aR
   rw[List.length_append,E3]at aS
   have q1:=hB.env
   refine gz ?_ o18 [2,15]
   refine A4 (Ll p _ hp 12 _ _ bk ib _ _ st out S1 (show out.length+cL p 12 p.main<=1000000 by omega) hB) (fun d S2 hr=>?_) (fun d S2 hr=>by cases hr.1)
   obtain⟨e2,st2,aa,ae⟩:=hr
   cases e2
   obtain⟨τ,hD,hm,ak,aq⟩:=aa.row.mS
   obtain⟨aT,aL⟩:=ae _ _ bc (fun e=>n2b e.symm) aY
   have k2:τ i2=some (.cells [.nils,.nils,dI 0]):=ak _ _ aT aL
   have kb:τ ib=some (.cells [mD st2 (out++bodyC p 12 p.main out.length).length,.slice (cI l) (.tag it),dI 0]):=ak _ _ aa.env aa.nr
   have kS:Sub O τ:=fun k x hk=>by
    have e1:=Ae hk am
    obtain⟨h1,h2⟩:=hS _ _ hk
    obtain⟨h3,h4⟩:=ae k x h1 e1 h2
    exact ak _ _ h3 h4
   rw[hD]
   refine mfrC (i:=ib) [] [.slice (cI l) (.tag it),dI 0] ?_ (by rw[kb,List.length_map];rfl) hm
   simp only[List.nil_append]
   rw[<-aR]
   have n2b':=n2b.symm
   refine gf k2 ?_ o18 [2,15]
   have au:(H2 p).starts=l:=aI.symm
   have bA:(H2 p).main=out.length:=by unfold H2 L6;rw[<-hR]
   refine finC (U':=O) (d:=.tup [.agg (cCPg (H2 p)),dI 0]) ⟨rfl,rfl⟩ (hU:=(kS.set am).set ba) (hw:=?_)
   unfold cCPg
   rw[au,bA]
   exact CA ⟨E9 ⟨A8 _,Bm _ _,A8 _,trivial⟩,A8 _,trivial⟩
def KR(a b:CProg):Bool:=decide (a.ins=b.ins)&&(decide (a.starts=b.starts)&&decide (a.main=b.main))
theorem U6(a b:CProg)(O:Sig)(h1:a.ins.length<=1073741824)(h2:b.ins.length<=1073741824)(h3:a.starts.length<=1073741824)(h4:b.starts.length<=1073741824):DCall prog 31 [.agg (cCPg a),.agg (cCPg b)] O (rS (.bool (KR a b)) O):=by
 have hs:∀l m:List CIns,(h:l.length=m.length)->(∀k (h1:k<l.length) (h2:k<m.length),l[k]=m[k])->l=m:=fun l m h h2=>List.ext_getElem h fun k h3 h4=>h2 k h3 h4
 refine en func31 ntmps31 ?_
 by_cases hc:a.ins.length=b.ins.length/\a.starts=b.starts/\a.main=b.main
 ·obtain⟨c1,c2,c3⟩:=hc
  have hS:KR a b=decide (a.ins=b.ins):=by unfold KR;rw[c2,c3];simp
  have bM:(a.starts==b.starts)=true:=by rw[c2];simp
  rw[hS]
  refine gf (gi c1 (gi c2 (gi c3 bM))) ?_ o31
  refine Cx [2,3] (fun (k:Nat)=>k<=a.ins.length /\ ∀j (h1:j<a.ins.length) (h2:j<b.ins.length),j<k->a.ins[j]=b.ins[j]) (fun k=>[(5,dI k)]) (fun _=>O) (fun k=>a.ins.length-k) (0) (by exact⟨by omega,fun j _ _ h=>by omega⟩) (fun k hI=>?_)
  obtain⟨hk,hE⟩:=hI
  by_cases ag:k<a.ins.length
  ·have bW:k<b.ins.length:=by omega
   refine gf c1 ?_ o31
   refine I4 (r:=decide (a.ins[k]=b.ins[k])) (xs:=cIns a.ins[k]) (ys:=cIns b.ins[k]) Ac UM rfl rfl rfl rfl UC (eqIns _ _) ?_
   by_cases hx:a.ins[k]=b.ins[k]
   ·refine gf hx ?_ o31
    exact⟨k+1,⟨by omega,fun j h1 h2 h3=>by by_cases e:j=k;(subst e;exact hx);exact hE j h1 h2 (by omega)⟩,td1,wkR⟩
   ·have hne:¬a.ins=b.ins:=fun e=>hx (by simp[e])
    refine gf hx ?_ o31
    exact fe1 hne
  ·have bb:a.ins=b.ins:=hs _ _ c1 fun j h1 h2=>hE j h1 h2 (by omega)
   refine gf bb ?_ o31
   exact fe1 bb
 ·have hS:KR a b=false:=by
   unfold KR
   rw[Bool.and_eq_false_iff,Bool.and_eq_false_iff,decide_eq_false_iff_not,decide_eq_false_iff_not,decide_eq_false_iff_not]
   by_cases c1:a.ins=b.ins
   ·by_cases c2:a.starts=b.starts
    ·exact .inr (.inr fun c3=>hc ⟨by rw[c1],c2,c3⟩)
    ·exact .inr (.inl c2)
   ·exact .inl c1
  rw[hS]
  repeat' first|refine gz ?_ o31|apply gy<;>intro hh
  any_goals (first|exact fe1 trivial|fail)
  all_goals exact absurd ⟨‹a.ins.length=b.ins.length›, by simpa using ‹(a.starts==b.starts)=true›, ‹a.main=b.main›⟩ hc
theorem Pq(a b:CProg):KR a b=true ↔ a=b:=by
 cases a;cases b
 unfold KR
 simp
theorem O9(a:CProg):KR a a=true:=(Pq a a).2 rfl
def cVal(v:MVal):List D:=[dI v.kind,dI v.n]
@[simp] theorem cVal_len(v:MVal):(cVal v).length=2:=rfl
@[simp] theorem cVal_flat(v:MVal):Bw (cVal v)=true:=rfl
theorem NH:EqTy prog 40:=⟨by kernel_rfl,by kernel_rfl,by kernel_rfl⟩
theorem Np:(tab 40).k=.struct [(0,38),(1,3)]:=rfl
theorem Ud(a b:MVal):eqFs tab (cVal a) (cVal b) [(0,38),(1,3)]=some (decide (a=b)):=by
 cases a;cases b
 simp[cVal,MVal.mk.injEq,Bool.decide_and]
theorem Rl(v:MVal)(O:Sig):DCall prog 183 [.agg (cVal v)] O (rS (dI (AI v)) O):=by
 refine en func183 ntmps183 ?_
 repeat' first|refine gz ?_|apply gy<;>intro hh
 any_goals (first|(refine fin1 (U':=O) ?_;exact⟨by first|rfl|(simp[AI,hh];done)|(simp_all [AI,hh];done)|(rw[Ah,Bool.eq_iff_iff];simp_all [AI,hh]<;>omega),rfl⟩)|fail)
@[reducible,instance] def a183:=fun v O=>ah0 (@Rl v O)
theorem Rk(b:Bool)(O:Sig):DCall prog 184 [.bool b] O (rS (dI (Dr b)) O):=by
 refine en func184 ntmps184 ?_
 repeat' first|refine gz ?_|apply gy<;>intro hh
 any_goals (first|(refine fin1 (U':=O) ?_;exact⟨by first|rfl|(simp[Dr,hh];done)|(simp_all [Dr,hh];done)|(rw[Ah,Bool.eq_iff_iff];simp_all [Dr,hh]<;>omega),rfl⟩)|fail)
@[reducible,instance] def a184:=fun b O=>ah0 (@Rk b O)
theorem LC(v:MVal)(N:Int)(O:Sig):DCall prog 175 [.agg (cVal v),dI N] O (rS (.bool (okV N v)) O):=by
 refine en func175 ntmps175 ?_
 repeat' first|refine gz ?_|apply gy<;>intro hh
 any_goals (first|(refine fin1 (U':=O) ?_;exact⟨by first|rfl|(simp[okV,hh];done)|(simp_all [okV,hh];done)|(rw[Ah,Bool.eq_iff_iff];simp_all [okV,hh]<;>omega),rfl⟩)|fail)
theorem LD(v:MVal)(N:Int)(O:Sig):DCall prog 174 [.agg (cVal v),.cptr [dI N] 0] O (rS (.bool (!okV N v)) O):=by
 refine en func174 ntmps174 ?_
 repeat' first|refine gz ?_|refine C9 (LC v N O) ?_|refine callP (LC v N O) ?_|refine gz ?_|apply gy<;>intro hh
 exact fe1 trivial
theorem LJ(v:MVal)(N:Int)(O:Sig):DCall prog 104 [.agg (cVal v),.cptr [dI N] 0] O (rS (.bool (!okV N v)) O):=by
 refine en func104 ntmps104 ?_
 repeat' first|refine gz ?_|apply gy<;>intro hh
 rotate_left 4
 ·refine neqS _ (decide (v=Eb)) NH Np (Ud v Eb) ?_
  refine gz ?_
  refine fin1 (U':=O) ?_
  refine⟨?_,rfl⟩
  rw[Ah,Bool.eq_iff_iff]
  obtain⟨k,m⟩:=v
  unfold okV Eb
  simp_all
 all_goals
  refine fin1 (U':=O) ?_
  refine⟨?_,rfl⟩
  rw[Ah,Bool.eq_iff_iff]
  unfold okV
  simp_all
  try omega
theorem LB(l:List MVal)(p:MVal->Bool)(g:Nat)(cap:List D)(o:Own)(O:Sig)(hl:l.length<=1073741824)(hg:∀v∈l,DCall prog g ([]++[.agg (cVal v)]++cap) O (rS (.bool (p v)) O)):DCall prog 176 [.slice (l.map cVal) o,.func (.func g) [] cap] O (rS (dI (idxF p l 0)) O):=by
 refine en func176 ntmps176 ?_
 refine gz ?_
 refine Cx [0,1,7] (fun (k:Nat)=>k<=l.length/\idxF p l 0=idxF p (l.drop k) k) (fun k=>[(8,dI k)]) (fun _=>O) (fun k=>l.length-k) (0) (by simp) (fun k hI=>?_)
 obtain⟨hk,hR⟩:=hI
 by_cases h:k<l.length
 ·rw[Ab h,idxF]at hR
  repeat' first|refine C9 (hg (l[k]) (List.getElem_mem h)) ?_|refine callP (hg (l[k]) (List.getElem_mem h)) ?_|refine gz ?_|apply gy<;>intro hh
  ·rw[hh]at hR
   exact fe1 hR
  ·rw[hh]at hR
   exact⟨k+1,⟨by omega,hR⟩,td1,wkR⟩
 ·rw[Af h,idxF]at hR
  refine gz ?_
  exact fe1 hR
theorem Gs(l:List MVal)(p:MVal->Bool)(g:Nat)(cap:List D)(o:Own)(O:Sig)(hl:l.length<=1073741824)(hg:∀v∈l,DCall prog g ([]++[.agg (cVal v)]++cap) O (rS (.bool (p v)) O)):DCall prog 103 [.slice (l.map cVal) o,.func (.func g) [] cap] O (rS (.bool (l.any p)) O):=by
 refine en func103 ntmps103 ?_
 repeat' first|refine gz ?_|refine C9 (LB l p g cap _ _ hl hg) ?_|refine callP (LB l p g cap _ _ hl hg) ?_|refine gz ?_|apply gy<;>intro hh
 rw[<-D4 p l 0]
 exact fe1 trivial
theorem RS(l:List MVal)(N:Int)(o:Own)(O:Sig)(hl:l.length<=1073741824):DCall prog 102 [.slice (l.map cVal) o,dI N] O (rS (.bool (okVs N l)) O):=by
 refine en func102 ntmps102 ?_
 repeat' first|refine gz ?_|refine C9 (Gs l (fun v=> !okV N v) 174 [.cptr [dI N] 0] _ _ hl (fun v _=>LD v N _)) ?_|refine callP (Gs l (fun v=> !okV N v) 174 [.cptr [dI N] 0] _ _ hl (fun v _=>LD v N _)) ?_|refine gz ?_|apply gy<;>intro hh
 (refine fin1 (U':=O) ?_;exact⟨by first|rfl|(simp[okVs];done)|(simp_all [okVs];done)|(rw[Ah,Bool.eq_iff_iff];simp_all [okVs]<;>omega),rfl⟩)
@[reducible,instance] def a102:=fun l N o O=>ah1 (@RS l N o O)
theorem U0(l:List MVal)(N:Int)(o:Own)(O:Sig)(hl:l.length<=1073741824):DCall prog 46 [.slice (l.map cVal) o,dI N] O (rS (.bool (okVs N l)) O):=by
 refine en func46 ntmps46 ?_
 repeat' first|refine gz ?_|refine C9 (Gs l (fun v=> !okV N v) 104 [.cptr [dI N] 0] _ _ hl (fun v _=>LJ v N _)) ?_|refine callP (Gs l (fun v=> !okV N v) 104 [.cptr [dI N] 0] _ _ hl (fun v _=>LJ v N _)) ?_|refine gz ?_|apply gy<;>intro hh
 (refine fin1 (U':=O) ?_;exact⟨by first|rfl|(simp[okVs];done)|(simp_all [okVs];done)|(rw[Ah,Bool.eq_iff_iff];simp_all [okVs]<;>omega),rfl⟩)
@[reducible,instance] def a46:=fun l N o O=>ah1 (@U0 l N o O)
end Go.DL
