/- A part of the proof. -/
import Derived.Test.YtlfimpogphmbdaaGreatM17
import Derived.Test.YtlfimpogphmbdaaGreatM15
import Derived.Test.YtlfimpogphmbdaaGreatM11
import Derived.Test.YtlfimpogphmbdaaGreatM16
set_option linter.all false
namespace Go.DL
open Go.Proofs.Tryz
open Go Go.Proofs
set_option maxHeartbeats 8000000
theorem Fact.beqs_eqFn: ∀k k':List Fact,(decide (k.length=k'.length)&&Fact.beqs k k')=eqFn Fact.beq k k'
 |[],[]=>by simp[Fact.beqs,eqFn]
 |[],_::_=>by simp[eqFn]
 |_::_,[]=>by simp[eqFn]
 |f::l,g::m=>by
  rw[Fact.beqs,eqFn,<-Fact.beqs_eqFn l m];simp only[List.length_cons,Nat.add_right_cancel_iff];cases f.beq g<;>cases decide (l.length=m.length)<;>rfl
theorem Fact.beq_eq'(f g:Fact):f.beq g=(decide (f.op=g.op)&&(decide (f.arg=g.arg)&&(decide (f.cls=g.cls)&&(decide (f.n=g.n)&&(decide (f.path=g.path)&&eqFn Fact.beq f.kids g.kids))))):=by
 rw[Fact.beq_eq,<-Fact.beqs_eqFn,DG];simp only[Bool.and_assoc]
theorem My(f g:Fact)(V:Sig)(hf:f.wt<=1073741824:=by exact sd)(hg:g.wt<=1073741824:=by exact sd):
  DCall prog 161 [.agg (Ba f),.agg (Ba g)] V (rS (.bool (f.beq g)) V):=by
 obtain⟨hw1,hw2,hw3⟩:=f.wt_le;obtain⟨gw1,gw2,gw3⟩:=g.wt_le
 have hk:∀x∈f.kids, ∀y∈g.kids,DCall prog 161 ([]++[.agg (Ba x),.agg (Ba y)]++[]) V fun r S''=>r=.ret (.bool (x.beq y))/\S''=V:=fun x hx y hy=>by
  have h1:=List.getElem_of_mem hx;have h2:=List.getElem_of_mem hy;exact My x y V (by obtain⟨k,hk,rfl⟩:=h1;have:=hw3 k hk;omega) (by obtain⟨k,hk,rfl⟩:=h2;have:=gw3 k hk;omega)
 refine en func161 ntmps161 ?_
 repeat' first|refine gz ?_|refine EX (Mu f.kids g.kids Fact.beq 161 [] _ _ V (by omega) (by omega) hk) ?_|refine EY (Mu f.kids g.kids Fact.beq 161 [] _ _ V (by omega) (by omega) hk) ?_|refine gz ?_|apply gy<;>intro hh
 any_goals (first|(refine fin1 (S':=V) ?_;exact⟨by first|rfl|(simp[Fact.beq_eq'];done)|(simp_all [Fact.beq_eq'];done)|(rw[Ae,Bool.eq_iff_iff];simp_all [Fact.beq_eq']<;>omega),rfl⟩)|fail)
termination_by SizeOf.sizeOf f
decreasing_by exact Fact.lt hx
@[reducible,instance] def a161:=fun f g V=>ah2 (@My f g V)
def BClass.beq(x y:BClass):Bool:=decide (x=y)
def BNode.beq(x y:BNode):Bool:=decide (x=y)
def BMeth.beq(x y:BMeth):Bool:=decide (x.kind=y.kind)&&decide (x.gen=y.gen)&&decide (x.node=y.node)&&x.fact.beq y.fact
def BProg.beq(p q:BProg):Bool:=eqFn BClass.beq p.classes q.classes&&eqFn BMeth.beq p.methods q.methods&&eqFn BNode.beq p.nodes q.nodes&&decide (p.slots=q.slots)&&decide (p.gens=q.gens)&&decide (p.main=q.main)
theorem BClass.beq_eq(x y:BClass):x.beq y=(decide (x.parents=y.parents)&&(decide (x.slots=y.slots)&&decide (x.inits=y.inits))):=by
 unfold BClass.beq;rw[Bool.eq_iff_iff];cases x;cases y;simp
theorem BNode.beq_eq(x y:BNode):x.beq y=(decide (x.op=y.op)&&(decide (x.n=y.n)&&decide (x.kids=y.kids))):=by
 unfold BNode.beq;rw[Bool.eq_iff_iff];cases x;cases y;simp
theorem SW(x y:BClass)(V:Sig)(hx:x.wt<=1073741824:=by exact sd)(hy:y.wt<=1073741824:=by exact sd):
  DCall prog 156 [.agg (cBClass x),.agg (cBClass y)] V (rS (.bool (x.beq y)) V):=by
 unfold BClass.wt at hx hy;refine en func156 ntmps156 ?_
 repeat' first|refine gz ?_|apply gy<;>intro hh
 any_goals (first|(refine fin1 (S':=V) ?_;exact⟨by first|rfl|(simp[BClass.beq_eq];done)|(simp_all [BClass.beq_eq];done)|(rw[Ae,Bool.eq_iff_iff];simp_all [BClass.beq_eq]<;>omega),rfl⟩)|fail)
theorem SS(x y:BNode)(V:Sig)(hx:x.wt<=1073741824:=by exact sd)(hy:y.wt<=1073741824:=by exact sd):
  DCall prog 163 [.agg (Af x),.agg (Af y)] V (rS (.bool (x.beq y)) V):=by
 unfold BNode.wt at hx hy;refine en func163 ntmps163 ?_
 repeat' first|refine gz ?_|apply gy<;>intro hh
 any_goals (first|(refine fin1 (S':=V) ?_;exact⟨by first|rfl|(simp[BNode.beq_eq];done)|(simp_all [BNode.beq_eq];done)|(rw[Ae,Bool.eq_iff_iff];simp_all [BNode.beq_eq]<;>omega),rfl⟩)|fail)
theorem ST(x y:BMeth)(V:Sig)(hx:x.wt<=1073741824:=by exact sd)(hy:y.wt<=1073741824:=by exact sd):
  DCall prog 160 [.agg (Ak x),.agg (Ak y)] V (rS (.bool (x.beq y)) V):=by
 unfold BMeth.wt at hx hy;refine en func160 ntmps160 ?_
 repeat' first|refine gz ?_|apply gy<;>intro hh
 any_goals (first|(refine fin1 (S':=V) ?_;exact⟨by first|rfl|(simp[BMeth.beq];done)|(simp_all [BMeth.beq];done)|(rw[Ae,Bool.eq_iff_iff];simp_all [BMeth.beq]<;>omega),rfl⟩)|fail)
theorem Uy(p q:BProg)(V:Sig)(hx:p.wt<=1073741824:=by exact sd)(hy:q.wt<=1073741824:=by exact sd):
  DCall prog 68 [.agg (Am p),.agg (Am q)] V (rS (.bool (p.beq q)) V):=by
 obtain⟨p1,p2,p3,p4,p5,p6,p7⟩:=p.wt_le;obtain⟨q1,q2,q3,q4,q5,q6,q7⟩:=q.wt_le
 have h1:∀x∈p.classes, ∀y∈q.classes,DCall prog 156 ([]++[.agg (cBClass x),.agg (cBClass y)]++[]) V fun r S''=>r=.ret (.bool (x.beq y))/\S''=V:=fun x hx y hy=>by
  obtain⟨k,hk,rfl⟩:=List.getElem_of_mem hx;obtain⟨j,hj,rfl⟩:=List.getElem_of_mem hy;exact SW _ _ V (by have:=p5 k hk;omega) (by have:=q5 j hj;omega)
 have h2:∀x∈p.methods, ∀y∈q.methods,DCall prog 160 ([]++[.agg (Ak x),.agg (Ak y)]++[]) V fun r S''=>r=.ret (.bool (x.beq y))/\S''=V:=fun x hx y hy=>by
  obtain⟨k,hk,rfl⟩:=List.getElem_of_mem hx;obtain⟨j,hj,rfl⟩:=List.getElem_of_mem hy;exact ST _ _ V (by have:=p6 k hk;omega) (by have:=q6 j hj;omega)
 have h3:∀x∈p.nodes, ∀y∈q.nodes,DCall prog 163 ([]++[.agg (Af x),.agg (Af y)]++[]) V fun r S''=>r=.ret (.bool (x.beq y))/\S''=V:=fun x hx y hy=>by
  obtain⟨k,hk,rfl⟩:=List.getElem_of_mem hx;obtain⟨j,hj,rfl⟩:=List.getElem_of_mem hy;exact SS _ _ V (by have:=p7 k hk;omega) (by have:=q7 j hj;omega)
 refine en func68 ntmps68 ?_
 repeat' first|refine gz ?_|refine AE (MA p.classes q.classes BClass.beq 156 [] _ _ V (by omega) (by omega) h1) ?_|refine callP (MA p.classes q.classes BClass.beq 156 [] _ _ V (by omega) (by omega) h1) ?_|refine AE (Mz p.methods q.methods BMeth.beq 160 [] _ _ V (by omega) (by omega) h2) ?_|refine callP (Mz p.methods q.methods BMeth.beq 160 [] _ _ V (by omega) (by omega) h2) ?_|refine AE (Mx p.nodes q.nodes BNode.beq 163 [] _ _ V (by omega) (by omega) h3) ?_|refine callP (Mx p.nodes q.nodes BNode.beq 163 [] _ _ V (by omega) (by omega) h3) ?_|refine gz ?_|apply gy<;>intro hh
 any_goals (first|(refine fin1 (S':=V) ?_;exact⟨by first|rfl|(simp[BProg.beq];done)|(simp_all [BProg.beq];done)|(rw[Ae,Bool.eq_iff_iff];simp_all [BProg.beq]<;>omega),rfl⟩)|fail)
theorem SR(g:List (List Int))(o:Own)(V:Sig)(hl:g.length<=1073741824:=by exact sd)(hl2:∀x∈g,x.length<=1073741824:=by exact sd):
  DCall prog 167 [.slice (cII g) o] V (rS (dI (if Ca g then 0 else 2)) V):=by
 refine en func167 ntmps167 ?_;cases h:Ca g with
 |false=>
  try refine gf h ?_
  exact fe1 trivial
 |true=>
  try refine gf h ?_
  exact fe1 trivial
@[reducible,instance] def a167:=fun g o V=>ah2 (@SR g o V)
def Cc:Int->List BClass->Option Int
 |n,[]=>some n
 |n,c::r=>if 4<c.slots.length then none else match G1 n c.slots with
  |none=>none
  |some m=>Cc m r
def Dq(has:List Int):List Int->List Init->Bool
 |_,[]=>true
 |seen,x::r=>(decide (x.slot∈has)&&!decide (x.slot∈seen)&&inB x.n)&&Dq has (seen++[x.slot]) r
def AS(p:BProg):Nat->List BClass->Bool
 |_,[]=>true
 |i,c::r=>decide (linE (p.classes.map (·.parents)) ((i:Int)+3)=0)&&Dq (hasP p ((i:Int)+3)) [] c.inits&&AS p (i+1) r
def Av(p:BProg):Bool:=decide (p.classes.length<=10)&&match Cc 0 p.classes with
 |none=>false
 |some n=>decide (n=p.slots)&&Ca (p.classes.map (·.parents))&&AS p 0 p.classes
theorem E8(cs:List BClass): ∀(n:Nat) (up out:List Int),(hasG cs n up out).length<=out.length+wtL (fun c:BClass=>c.slots.length) (cs.take n)
 |0,_,out=>by rw[hasG];omega
 | n+1,up,out=>by
  rw[hasG]
  by_cases h:n<cs.length
  ·rw[List.getElem?_eq_getElem h,Kx _ _ _ h];simp only;split
   ·have:=E8 cs n (Iv (cs[n]).parents up) (out++(cs[n]).slots);rw[List.length_append]at this;omega
   ·have:=E8 cs n up out;omega
  ·rw[List.getElem?_eq_none (by omega)];have:=E8 cs n up out;rw[List.take_of_length_le (by omega)]at this⊢;exact this
theorem IA(p:BProg)(c:Int):(hasP p c).length<=wtL (fun c:BClass=>c.slots.length) p.classes:=by
 unfold hasP;have h1:=FZ (hasG p.classes (c-2).toNat [c] []);have h2:=E8 p.classes (c-2).toNat [c] [];have h3:=Fx (fun c:BClass=>c.slots.length) p.classes (c-2).toNat
 simp only[List.length_nil]at h2;omega
theorem ins_new{k:Int}{s:List Int}(h:k∉s):ins k s=s++[k]:=by unfold ins;rw[if_neg h]
theorem Uv (p:BProg) (V:Sig) (hp:p.wt<=1073741824:=by exact sd):DCall prog 80 [.agg (Am p)] V fun x S'=>x=(if Av p then .ret (.tup []) else .panic unf)/\S'=V:=by
 obtain⟨p1,p2,p3,p4,p5,p6,p7⟩:=p.wt_le;have ws:=Kw p
 have hwc:∀c∈p.classes,c.parents.length<=1073741824/\c.slots.length<=1073741824/\c.inits.length<=1073741824:=fun c hc=>by
  obtain⟨k,hk,rfl⟩:=List.getElem_of_mem hc;have:=p5 k hk;have hwu:(p.classes[k]).wt=1+(p.classes[k]).parents.length+(p.classes[k]).slots.length+(p.classes[k]).inits.length:=rfl;omega
 have hwp:∀c∈p.classes,c.parents.length<=1073741824:=fun c hc=>(hwc c hc).1;have hwg:∀x∈p.classes.map (·.parents),x.length<=1073741824:=fun x hx=>by obtain⟨c,hc,rfl⟩:=List.mem_map.1 hx;exact(hwc c hc).1
 refine en func80 ntmps80 ?_
 by_cases h10:p.classes.length<=10
 ·repeat' first|refine gz ?_|apply gy<;>intro hh
  ·refine Br [1,7,8,9,10,11,12,13,15,22,23,48,49,50,51,52,53,54,55,56,57,58,59,60,61,62,63,64,65,66,67,68,69,70,71,72,73,74,75,76,77,78,79,80,81,82,83,84,85,86,87,88,89,90,91,92,93,94,95,96,97,98,99,100,101,102,103,104,105,106,107,108,109,110,111] (fun (i:Nat) (n:Int)=>i<=p.classes.length/\n=wtL (fun c:BClass=>c.slots.length) (p.classes.take i)/\Cc 0 p.classes=Cc n (p.classes.drop i)) (fun i n=>[(24,dI i),(2,dI n)]) (fun _ _=>V) (fun i _=>p.classes.length-i) (0) (0) (by simp[wtL]) (fun i n hI=>?_);obtain⟨hi,hn,hR⟩:=hI
   by_cases h:i<p.classes.length
   ·have hx:=hwc _ (List.getElem_mem h);have hT:=Kx (fun c:BClass=>c.slots.length) p.classes i h;have hT2:=Fx (fun c:BClass=>c.slots.length) p.classes (i+1);rw[A3 h,Cc]at hR
    by_cases h4:4<(p.classes[i]).slots.length
    ·have hc:Cc 0 p.classes=none:=by rw[hR,if_pos h4]
     have hF:Av p=false:=by unfold Av;rw[hc];simp
     repeat' first|((with_reducible refine finP (S':=V) ?_);exact⟨by first|(simp[hF];done)|(simp_all [hF];done),rfl⟩)|refine gz ?_|apply gy<;>intro hh
    ·rw[if_neg h4]at hR;generalize hsl:(p.classes[i]).slots=sl' at*
     try refine gf hsl ?_
     refine Bj [1,4,7,8,9,10,11,12,13,15,22,23,24,25,26,27,28,29,30,31,32,33,34,35,47,48,49,50,51,52,53,54,55,56,57,58,59,60,61,62,63,64,65,66,67,68,69,70,71,72,73,74,75,76,77,78,79,80,81,82,83,84,85,86,87,88,89,90,91,92,93,94,95,96,97,98,99,100,101,102,103,104,105,106,107,108,109,110,111] (fun (q:Nat)=>q<=sl'.length/\G1 n sl'=G1 (n+q) (sl'.drop q)) (fun q=>[(36,dI q),(2,dI (n+q))]) (fun _=>V) (fun q=>sl'.length-q) (0) (by simp) (fun q hI=>?_);obtain⟨hq,hQ⟩:=hI
     by_cases hq':q<sl'.length
     ·rw[A3 hq',G1]at hQ;have hsm:=hx.2.1;have hn0:0<=n:=by omega
      have hnb:n<=1073741824:=by omega
      by_cases hqn:sl'[q]=n+q
      ·rw[if_pos hqn]at hQ
       try refine gf hqn ?_
       exact⟨q+1,⟨by omega,by rw[hQ,Int.add_assoc];rfl⟩,td1,wkR⟩
      ·rw[if_neg hqn]at hQ;have hc:Cc 0 p.classes=none:=by rw[hR,hQ]
       have hF:Av p=false:=by unfold Av;rw[hc];simp
       repeat' first|((with_reducible refine finP (S':=V) ?_);exact⟨by first|(simp[hF];done)|(simp_all [hF];done),rfl⟩)|refine gz ?_|apply gy<;>intro hh
     ·rw[A2 hq',G1]at hQ;rw[hQ]at hR;have hq2:q=sl'.length:=by omega
      try refine gz ?_
      exact⟨i+1,n+q,⟨by omega,by rw[hT];omega,hR⟩,td1,wkR⟩
   ·rw [A2 h,Cc] at hR
    by_cases hs:n=p.slots
    ·cases hg:Ca (p.classes.map (·.parents))with
     |false=>
      have hF:Av p=false:=by unfold Av;rw[hR,hg];simp
      repeat' first|((with_reducible refine finP (S':=V) ?_);exact⟨by first|(simp[hF];done)|(simp_all [hF];done),rfl⟩)|refine gf hg ?_|apply gy<;>intro hh
     | true =>
      have hcl:Av p=AS p 0 p.classes:=by unfold Av;rw[hR];simp[hs,hg,h10]
      try refine gf hg ?_
      refine Bj [1,7,61,62] (fun (j:Nat)=>j<=p.classes.length/\AS p 0 p.classes=AS p j (p.classes.drop j)) (fun j=>[(63,dI j)]) (fun _=>V) (fun j=>p.classes.length-j) (0) (by simp) (fun j hI=>?_);obtain⟨hj,hJ⟩:=hI
      by_cases h':j<p.classes.length
      ·have hx:=hwc _ (List.getElem_mem h');have hhl:=IA p ((j:Int)+3);rw[A3 h',AS]at hJ
       by_cases hl:linE (p.classes.map (·.parents)) ((j:Int)+3)=0
       ·rw[decide_eq_true hl,Bool.true_and]at hJ;generalize hin:(p.classes[j]).inits=ins' at hJ hx
        try refine gf (gi hin hl) ?_
        refine newSI (fun im him=>?_)
        try refine gf hin ?_
        refine Bj [1,7,8,9,10,11,12,13,61,62,63,64,65,66,67,68,69,70,71,72,73,74,75,76,77,78,79,80,81,82,83,84,85,111] (fun (k:Nat)=>k<=ins'.length/\Dq (hasP p ((j:Int)+3)) [] ins'=Dq (hasP p ((j:Int)+3)) ((ins'.take k).map (·.slot)) (ins'.drop k)) (fun k=>[(86,dI k)]) (fun k=>V.set im (.map (eSI ((ins'.take k).map (·.slot))))) (fun k=>ins'.length-k) (0) (by simp) (fun k hI=>?_);obtain⟨hk,hK⟩:=hI
        by_cases hk':k<ins'.length
        ·have hil:=hx.2.2;rw[A3 hk',Dq]at hK
         repeat' first|((with_reducible refine finP (S':=V) ?_);exact⟨by first|(simp[hcl,hJ,hK];done)|(simp_all [hcl,hJ,hK];done),rfl⟩)|refine gz ?_|apply gy<;>intro hh
         rename_i q1 q2;have q3:¬ins'[k].slot∈(ins'.take k).map (·.slot):=by simpa using q2
         have q4:(ins'.take (k+1)).map (·.slot)=(ins'.take k).map (·.slot)++[ins'[k].slot]:=by rw[List.take_succ_eq_append_getElem hk',List.map_append];rfl
         have q5:=ins_new q3;simp only[<-List.map_take,q5,<-q4];exact⟨k+1,by refine⟨by omega,?_⟩;rw[hK,hh,decide_eq_true q1,decide_eq_false q3,q4];rfl,td1,wkR⟩
        ·rw[A2 hk',Dq]at hK;rw[hK,Bool.true_and]at hJ
         try refine gz ?_
         exact⟨j+1,⟨by omega,hJ⟩,td1,wkR⟩
       ·rw[decide_eq_false hl,Bool.false_and,Bool.false_and]at hJ;have hF:Av p=false:=by rw[hcl,hJ]
        repeat' first|((with_reducible refine finP (S':=V) ?_);exact⟨by first|(simp[hF];done)|(simp_all [hF];done),rfl⟩)|refine gz ?_|apply gy<;>intro hh
      ·rw[A2 h',AS]at hJ;have hF:Av p=true:=by rw[hcl,hJ]
       try refine gz ?_
       exact fe0 hF
    ·have hF:Av p=false:=by unfold Av;rw[hR];simp[hs]
     repeat' first|((with_reducible refine finP (S':=V) ?_);exact⟨by first|(simp[hF];done)|(simp_all [hF];done),rfl⟩)|refine gz ?_|apply gy<;>intro hh
 ·have hF:Av p=false:=by unfold Av;rw[decide_eq_false h10];rfl
  repeat' first|((with_reducible refine finP (S':=V) ?_);exact⟨by first|(simp[hF];done)|(simp_all [hF];done),rfl⟩)|refine gz ?_|apply gy<;>intro hh
@[reducible,instance] def a80:=fun p V=>gh1 (@Uv p V)
theorem QJ{x:Int}(h0:0<=x)(h1:x<18446744073709551616):IntKind.u64.wrap x=x:=by
 have e1:(2:Int) ^ IntKind.u64.bits=18446744073709551616:=by decide
 have e3:IntKind.u64.signed=false:=rfl;simp only[IntKind.wrap,e1,e3,Bool.false_and,Bool.false_eq_true,if_false];omega
theorem andU(n:Nat)(h:n<=1073741824):binD .and (.int .u64 n) (.int .u64 4294967295)=some (.int .u64 n):=by
 simp only[binD,if_true]
 have e:((BitVec.ofInt IntKind.u64.bits (n:Int) &&& BitVec.ofInt IntKind.u64.bits 4294967295).toNat)=n:=by
  rw[BitVec.toNat_and];show(BitVec.ofInt 64 (n:Int)).toNat &&& (BitVec.ofInt 64 4294967295).toNat=n;rw[show(4294967295:Int)=((2 ^ 32-1:Nat):Int) from rfl,BitVec.ofInt_natCast,BitVec.ofInt_natCast,BitVec.toNat_ofNat,BitVec.toNat_ofNat];rw[Nat.mod_eq_of_lt (by omega),Nat.mod_eq_of_lt (by omega),Nat.and_two_pow_sub_one_eq_mod,Nat.mod_eq_of_lt (by omega)]
 rw[e,QJ (by omega) (by omega)]
theorem shrU(k:IntKind)(n:Nat)(h:n<=1073741824):binD .shr (.int .u64 n) (.int k 32)=some (.int .u64 0):=by
 simp only[binD];rw[if_pos (by decide)]
 congr 2
 show(n:Int).fdiv (2 ^ 32)=0;rw[Int.fdiv_eq_ediv_of_nonneg _ (by decide)];omega
theorem Ss(n:Nat)(V:Sig)(hn:n<=1073741824:=by exact sd):DCall prog 227 [.int .u64 1,.int .u64 n] V (rS (.tup [.int .u64 0,.int .u64 n]) V):=by
 have a1:binD .and (.int .u64 1) (.int .u64 4294967295)=some (.int .u64 1):=andU 1 (by omega);have a0:binD .and (.int .u64 0) (.int .u64 4294967295)=some (.int .u64 0):=andU 0 (by omega);have an:=andU n hn;have s1:∀k,binD .shr (.int .u64 1) (.int k 32)=some (.int .u64 0):=fun k=>shrU k 1 (by omega)
 have s0:∀k,binD .shr (.int .u64 0) (.int k 32)=some (.int .u64 0):=fun k=>shrU k 0 (by omega)
 have sn:=fun k=>shrU k n hn;have wn:IntKind.u64.wrap (n:Int)=n:=QJ (by omega) (by omega);have w0:IntKind.u64.wrap 0=0:=QJ (by omega) (by omega);refine en func227 ntmps227 ?_;refine gf (gi a1 (gi a0 (gi an (gi s1 (gi s0 (gi sn (gi wn w0))))))) ?_;exact fe2 trivial
@[reducible,instance] def a227:=fun n V=>ah1 (@Ss n V)
theorem SP(n:Nat)(V:Sig)(hn:n<=1073741824:=by exact sd):DCall prog 169 [.int .u64 1,.int .u64 n] V (rS (.tup [.int .u64 0,.int .u64 n]) V):=by
 refine en func169 ntmps169 ?_;refine gz ?_;exact fe2 trivial
@[reducible,instance] def a169:=fun n V=>ah1 (@SP n V)
theorem Ut(n:Nat)(V:Sig)(h1:1<=n)(hn:n<=1048576):DCall prog 82 [.slice [[dI (-1)]] .no,dI n] V fun x S'=> ∃r,V r=none/\x=.ret (.sref r 0 n n)/\S'=V.set r (.cells ((List.replicate n (-1:Int)).map dI)):=by
 have wn:IntKind.u64.wrap (n:Int)=n:=QJ (by omega) (by omega);have w1:IntKind.u64.wrap 1=1:=QJ (by omega) (by omega);refine en func82 ntmps82 ?_;refine gf (gi wn w1) ?_ o82;refine mmake (k:=n) (c:=n) (sz:=1) (z:=[dI 0]) (fun i hi hm=>?_);have e0:mS V (some (i,n,(List.replicate (n-n) [dI 0]).flatten)) (List.replicate n [dI 0])=V.set i (.cells (List.replicate n (dI 0))):=by simp[mS]
 rw[e0];refine gz ?_ o82;refine Kf Ad (m:=1) (cs:=[dI (-1)]) (e:=3) (i:=i) (off:=0) (len:=n) (cap:=n) (ds:=List.replicate n (dI 0)) (by decide) (by simp<;>rfl) (by simp) (by simp) tdR (w7 ..) (by simp) (QR (es:=[[dI (-1)]]) tdR (by simp)) (by rfl) ?_
 have e1:(V.set i (.cells (List.replicate n (dI 0)))).set i (.cells (List.take 0 (List.replicate n (dI 0))++(List.take (min 1 n) [dI (-1)]++List.drop (0+min 1 n) (List.replicate n (dI 0)))))=V.set i (.cells (List.replicate 1 (dI (-1))++List.replicate (n-1) (dI 0))):=by
  rw[Sig.set_set,show min 1 n=1 by omega];simp
 rw[e1,show((min 1 n:Nat):Int)=1 by omega];refine gz ?_ o82;refine Bj [4,7,47] (fun (b:Nat)=>1<=b/\b<=n) (fun b=>[(8,dI b)]) (fun b=>V.set i (.cells (List.replicate b (dI (-1))++List.replicate (n-b) (dI 0)))) (fun b=>n-b) (1) (by omega) (fun b hI=>?_);obtain⟨hb1,hbn⟩:=hI
 by_cases h:b<n
 ·refine gz ?_;refine mixAt (id:=9) [0,1,2,3,4,5,6,7,8,9] [7] V ((Sub.refl _).set hi) ?_;refine gz ?_ o82;refine mo_cutL Ad (i:=i) (off:=0) (len:=n) (cap:=n) (lo:=b) (e:=3) (k:=.i64) ?_ (by decide) (by simp<;>rfl) (by simp) tdR tdR (by omega) (by omega);rw[show 0+b*(tab 3).size=b by simp];refine gz ?_ o82;refine mo_cutH Ad (i:=i) (off:=0) (len:=n) (cap:=n) (hi:=b) (e:=3) (k:=.i64) ?_ (by decide) (by simp<;>rfl) (by simp) tdR tdR (by omega);refine mo1 (fun U2 hO=>?_) rfl;have v1:=hO (.tmp 41) (by simp[Op.operands,Call.operands]);have v2:=hO (.tmp 44) (by simp[Op.operands,Call.operands]);have hds:(List.replicate b (dI (-1))++List.replicate (n-b) (dI 0)).length=n:=by simp;omega
  refine Kf Ad (m:=b) (cs:=((List.replicate b (dI (-1))++List.replicate (n-b) (dI 0)).drop 0).take b) (e:=3) (i:=i) (off:=b) (len:=n-b) (cap:=n-b) (ds:=List.replicate b (dI (-1))++List.replicate (n-b) (dI 0)) (by decide) (by simp<;>rfl) (by simp) (by simp) (by rw[v1];with_unfolding_all rfl) (w7 ..) (by omega) (by rw[v2];exact TR (off:=0) (w7 ..) (by omega)) (by simp[Cp,D.flat]) ?_
  have e2:List.take b (List.replicate b (dI (-1))++List.replicate (n-b) (dI 0))++(List.take (min b (n-b)) (List.take b (List.drop 0 (List.replicate b (dI (-1))++List.replicate (n-b) (dI 0))))++List.drop (b+min b (n-b)) (List.replicate b (dI (-1))++List.replicate (n-b) (dI 0)))=List.replicate (b+min b (n-b)) (dI (-1))++List.replicate (n-(b+min b (n-b))) (dI 0):=by
   have t1:List.take b (List.replicate b (dI (-1))++List.replicate (n-b) (dI 0))=List.replicate b (dI (-1)):=by rw[List.take_append_of_le_length (by simp)];simp
   have t2:List.drop (b+min b (n-b)) (List.replicate b (dI (-1))++List.replicate (n-b) (dI 0))=List.replicate (n-(b+min b (n-b))) (dI 0):=by
    rw[List.drop_append,List.drop_of_length_le (by simp),List.nil_append,List.drop_replicate];congr 1;simp;omega
   rw[List.drop_zero,t1,t2,<-List.append_assoc]
   congr 1
   rw[List.take_replicate,List.replicate_append_replicate];congr 1;omega
  rw[Sig.set_set,e2];refine B6 ⟨rfl,?_⟩;refine⟨(Sub.refl _).set hi,?_⟩;refine gz ?_ o82;exact⟨b+min b (n-b),by omega,td1,wkR⟩
 ·have hb:b=n:=by omega
  subst hb;refine gz ?_ o82;refine fin1 (S':=V.set i (.cells ((List.replicate b (-1)).map dI))) ?_ (hU:=by simp;exact Sub.refl _);exact⟨i,hi,rfl,rfl⟩
def OutO{S:Type}(u r:D)(Good:Sig->S->Prop)(Bad:Sig->Prop)(touch:Nat->Prop)(V:Sig):Option S->DE->Sig->Prop
 |none,x,S'=>x=.panic u/\Bad S'
 |some s,x,S'=>x=.ret r/\Good S' s /\ ∀j o,V j=some o->¬touch j->S' j=some o
theorem OutO.ret{S:Type}{u r d:D}{Good:Sig->S->Prop}{Bad:Sig->Prop}{touch:Nat->Prop}{V S':Sig}{o:Option S}(h:OutO u r Good Bad touch V o (.ret d) S'): ∃s,o=some s/\d=r/\Good S' s /\ ∀j o,V j=some o->¬touch j->S' j=some o:=by
 cases o with
 |none=>exact absurd h.1 (by simp)
 |some s=>exact⟨s,rfl,by simpa using h.1,h.2⟩
theorem OutO.pan{S:Type}{u r d:D}{Good:Sig->S->Prop}{Bad:Sig->Prop}{touch:Nat->Prop}{V S':Sig}{o:Option S}(h:OutO u r Good Bad touch V o (.panic d) S'):o=none/\d=u/\Bad S':=by
 cases o with
 |none=>exact⟨rfl,by simpa using h.1,h.2⟩
 |some s=>exact absurd h.1 (by simp)
section
variable {S:Type}
def KY(f:Int->Int->S->Option S)(x:BNode)(size:Int):Nat->List Int->S->Option S
 |_,[],s=>some s
 |j,c::r,s=>match f c (if x.op=9/\j=1 then size+1 else size) s with
  |none=>none
  |some s'=>KY f x size (j+1) r s'
def FQ(p:BProg)(step:Nat->Int->Int->S->Option S):Nat->Int->Int->S->Option S
 |0,_,_,_=>none
 |k+1,node,size,s=>match step (k+1) node size s with
  |none=>none
  |some s'=>KY (FQ p step k) (Aj p node) size 0 (Aj p node).kids s'
end
theorem SN{S:Type}(p:BProg)(l i:Nat)(Good:Sig->S->Prop)(Bad:Sig->Prop)(touch:Nat->Prop)(step:Nat->Int->Int->S->Option S)(hp:p.wt<=1073741824)(hti:¬touch i)
  (hs0:∀node size s,step 0 node size s=none) (hsn:∀k node size s s',step k node size s=some s'->0<=node/\node<p.nodes.length)
  (hy:∀(k:Nat) (d node size:Int) V s,d=13-(k:Int)->0<=size->size+k<=1000->Good V s->DYield prog l [dI node,.agg [dI size,dI d]] V (OutO unf (.bool true) Good Bad touch V (step k node size s))) :
  ∀(k:Nat) (d node size:Int) V s,d=13-(k:Int)->0<=size->size+k<=1000->k<=13->Good V s->V i=some (.cells [.func (.func 171) [] [.cptr [.yld l] 0,.cptr (Am p) 0,.ptr i 0]])->
   DCall prog 171 [dI node,.agg [dI size,dI d],.cptr [.yld l] 0,.cptr (Am p) 0,.ptr i 0] V (OutO unf (.bool true) Good Bad touch V (FQ p step k node size s)):=by
 obtain⟨p1,p2,p3,p4,p5,p6,p7⟩:=p.wt_le;intro k
 induction k with
 | zero =>
  intro d node size V s hd h0 hsz hk hG hi;refine en func171 ntmps171 ?_;refine gz ?_;refine yldW (hy 0 d node size V s hd h0 hsz hG) (fun e S' hr=>?_) (fun e S' hr=>?_)
  ·rw[hs0]at hr;obtain⟨_,h,_⟩:=hr.ret;cases h
  ·obtain⟨_,rfl,hb⟩:=hr.pan;exact finP (S':=S') ⟨rfl,hb⟩
 | succ k ih =>
  intro d node size V s hd h0 hsz hk hG hi;refine en func171 ntmps171 ?_;refine gz ?_ [] [10];refine yldW (hy (k+1) d node size V s hd h0 hsz hG) (fun e S' hr=>?_) (fun e S' hr=>?_)
  ·obtain⟨s',hst,rfl,hG',hK⟩:=hr.ret;obtain⟨hn0,hn1⟩:=hsn _ _ _ _ _ hst;obtain⟨q,rfl⟩:∃q:Nat,node=(q:Int):=⟨node.toNat,by omega⟩;have hq:q<p.nodes.length:=by omega
   have hi':=hK i _ hi hti;have hna:Aj p q=p.nodes[q]:=by unfold Aj;simp[List.getElem?_eq_getElem hq]
   have hW:FQ p step (k+1) q size s=KY (FQ p step k) p.nodes[q] size 0 (p.nodes[q]).kids s':=by rw[FQ,hst];simp only;rw[hna]
   rw[hW];have hkl:(p.nodes[q]).kids.length<=1073741824:=by have:=p7 q hq;unfold BNode.wt at this;omega
   generalize hx:p.nodes[q]=x at*;refine gf hx ?_ [] [10];refine FG [0,3,4,6,21,22] (fun (j:Nat) (s1:S) (S1:Sig)=>j<=x.kids.length/\Good S1 s1/\KY (FQ p step k) x size 0 x.kids s'=KY (FQ p step k) x size j (x.kids.drop j) s1/\(∀j o,V j=some o->¬touch j->S1 j=some o)) (fun j _ _=>[(23,dI j)]) (fun _ _ S1=>S1) (fun j _ _=>x.kids.length-j) (0) (s') (S') (by exact⟨by omega,hG',by simp,hK⟩) (fun j s1 S1 hI=>?_);obtain⟨hj,hG1,hR,hK1⟩:=hI;have hi1:=hK1 i _ hi hti
   by_cases hj':j<x.kids.length
   ·rw [A3 hj',KY] at hR;have hkb:(k:Int)<=12:=by omega
    refine gf (gi hx hi1) ?_ [] [10];refine newV (fun a ha=>?_);have hia:i≠a:=fun e=>by rw[e,ha]at hi1;cases hi1
    have hz:0<=(if x.op=9/\j=1 then size+1 else size)/\(if x.op=9/\j=1 then size+1 else size)+(k:Int)<=1000:=by split<;>omega
    have hc:=ih (d+1) x.kids[j] (if x.op=9/\j=1 then size+1 else size) S1 s1 (by omega) hz.1 hz.2 (by omega) hG1 hi1
    by_cases hl:x.op=9/\j=1
    ·rw[if_pos hl]at hR hc;obtain⟨hl1,rfl⟩:=hl;refine gf (gi hx (gi hi1 (gi hl1 hia))) ?_ [] [10];refine drp S1 ?_;refine Ab hc (fun e S2 hr=>?_) (fun e S2 hr=>?_)
     ·obtain⟨s2,hs2,rfl,hG2,hK2⟩:=hr.ret;rw[hs2]at hR;refine gz ?_ [] [10];exact⟨1+1,s2,S2,⟨by omega,hG2,hR,fun j o h1 h2=>hK2 _ _ (hK1 _ _ h1 h2) h2⟩,td1,wkR⟩
     ·obtain⟨hn,rfl,hb⟩:=hr.pan;rw[hn]at hR;rw[hR];exact finP (S':=S2) ⟨rfl,hb⟩
    ·rw[if_neg hl]at hR hc;have hl2:¬(x.op=9/\(j:Int)=1):=by omega
     repeat' first|refine gf (gi hx (gi hi1 hia)) ?_ [] [10]|apply gy<;>intro hh
     all_goals
      refine drp S1 ?_;refine Ab hc (fun e S2 hr=>?_) (fun e S2 hr=>?_)
      ·obtain⟨s2,hs2,rfl,hG2,hK2⟩:=hr.ret;rw[hs2]at hR;refine gz ?_ [] [10];exact⟨j+1,s2,S2,⟨by omega,hG2,hR,fun j o h1 h2=>hK2 _ _ (hK1 _ _ h1 h2) h2⟩,td1,wkR⟩
      ·obtain⟨hn,rfl,hb⟩:=hr.pan;rw[hn]at hR;rw[hR];exact finP (S':=S2) ⟨rfl,hb⟩
   ·rw[A2 hj',KY]at hR;rw[hR];refine gf hx ?_ [] [10];refine fin1 (S':=S1) ?_;exact⟨rfl,hG1,hK1⟩
  ·obtain⟨hst,rfl,hb⟩:=hr.pan;have hW:FQ p step (k+1) node size s=none:=by rw[FQ,hst]
   rw[hW];exact finP (S':=S') ⟨rfl,hb⟩
def Keep(touch:Nat->Prop)(V S':Sig):Prop:= ∀j o,V j=some o->¬touch j->S' j=some o
theorem Keep.refl(touch:Nat->Prop)(V:Sig):Keep touch V V:=fun _ _ h _=>h
theorem Keep.trans{touch:Nat->Prop}{a b c:Sig}(h:Keep touch a b)(k:Keep touch b c):Keep touch a c:=fun j o h1 h2=>k _ _ (h _ _ h1 h2) h2
theorem Keep.fresh{touch:Nat->Prop}{a b:Sig}(h:Keep touch a b){i:Nat}{o:DObj}(hi:a i=none):Keep touch a (b.set i o):=fun j x h1 h2=>by
 rw[w8 _ _ fun e=>by rw[e,hi]at h1;cases h1];exact h _ _ h1 h2
theorem SO{S:Type}(p:BProg)(l:Nat)(Good:Sig->S->Prop)(Bad:Sig->Prop)(touch:Nat->Prop)(step:Nat->Int->Int->S->Option S)(hp:p.wt<=1073741824)
  (hs0:∀node size s,step 0 node size s=none) (hsn:∀k node size s s',step k node size s=some s'->0<=node/\node<p.nodes.length)
  (hy:∀(k:Nat) (d node size:Int) V s,d=13-(k:Int)->0<=size->size+k<=1000->Good V s->DYield prog l [dI node,.agg [dI size,dI d]] V (OutO unf (.bool true) Good Bad touch V (step k node size s)))
  (hm : ∀ V s a o,Good V s->V a=none->Good (V.set a o) s) (k:Nat) (d node size:Int) (V:Sig) (s:S) (ht : ∀ a,V a=none -> ¬ touch a) (hd:d=13-(k:Int)) (h0:0<=size) (hsz:size+k<=1000) (hk:k<=13) (hG:Good V s) :
   DCall prog 170 [.yld l,.cptr (Am p) 0,.cptr [dI node] 0,.cptr [dI size,dI d] 0] V (OutO unf (.tup []) Good Bad touch V (FQ p step k node size s)):=by
 refine en func170 ntmps170 ?_;refine gz ?_ [] [5];refine newV (fun a ha=>?_);refine gz ?_ [] [5];refine Ab (SN p l a Good Bad touch step hp (ht a ha) hs0 hsn hy k d node size (V.set a _) s hd h0 hsz hk (hm _ _ _ _ hG ha) (w7 ..)) (fun e S' hr=>?_) (fun e S' hr=>?_)
 ·obtain⟨s',hs',rfl,hG',hK⟩:=hr.ret;rw[hs'];refine gz ?_ [] [5];refine Dl (S':=S') ?_;exact⟨rfl,hG',fun j o h1 h2=>hK j o (by rw[w8 _ _ fun e=>by rw[e,ha]at h1;cases h1];exact h1) h2⟩
 ·obtain⟨hn,rfl,hb⟩:=hr.pan;rw[hn];exact finP (S':=S') ⟨rfl,hb⟩
theorem Us(p:BProg)(node size d:Int)(V:Sig):DCall prog 84 [.agg (Am p),dI node,.agg [dI size,dI d]] V (rS (.func (.func 170) [] [.cptr (Am p) 0,.cptr [dI node] 0,.cptr [dI size,dI d] 0]) V):=by
 refine en func84 ntmps84 ?_;refine gz ?_;exact fe1 trivial
@[reducible,instance] def a84:=fun p node size d V=>ah0 (@Us p node size d V)
theorem RQ(p:BProg)(x:BNode)(k:Int)(V:Sig):DCall prog 327 [dI k,.agg (Am p),.agg (Af x)] V (rS (dI k) V):=by
 refine en func327 ntmps327 ?_;refine gz ?_;exact fe1 trivial
theorem RP(p:BProg)(x:BNode)(V:Sig)(h0:0<=x.n:=by exact sd)(h1:x.n<p.gens.length:=by exact sd)(hl:p.gens.length<=1073741824:=by exact sd):DCall prog 328 [.agg [],.agg (Am p),.agg (Af x)] V (rS (dI (p.gens.getD x.n.toNat 0)) V):=by
 refine en func328 ntmps328 ?_;obtain⟨q,hq⟩:∃q:Nat,x.n=(q:Int):=⟨x.n.toNat,by omega⟩;have hq1:q<p.gens.length:=by omega
 have hg:p.gens.getD x.n.toNat 0=p.gens[q]:=by rw[hq,List.getD_eq_getElem?_getD];simp[hq1]
 rw[hg];refine gf hq ?_;exact fe1 trivial
theorem meth327 : Jc prog 140 "consort/bind.many" 327 := by
 intro v w;kernel_rfl
theorem meth328 : Jc prog 142 "consort/bind.many" 328 := by
 intro v w;kernel_rfl
theorem V8{ro:Option Nat}{n:Nat}{ops:Array Oper}{N:Nat}{S0 V:Sig}{Q:DX->St->Prop}{df:List DDf}{γ Sr:Fr}{t:Nat}{ty:TypeId}{pos:String}{after:Array Edge}{l:List (Bool×Oper)}{d e:D}{rv:Operand}{name:String}{args:Array Operand}{ats:Array TypeId}{f T:Nat}{us:List D}(hM:Jc prog T name f)(h:DCall prog f (d::us) V (rS e V))(k:MO prog ro n ops N S0 Q df l ((t,e)::γ) V)
  (hl:A4 γ (A6 (rv::args.toList))=some Sr:=by exact tdR) (hx:ev Sr rv=.iface T d:=by exact tdR) (ha:args.toList.map (ev Sr)=us:=by exact tdR) (htn:decide (t<n)=true:=by exact tdR) (hC:Sub S0 V:=by first|exact Sub.refl _|assumption) :
  MO prog ro n ops N S0 Q df ((true,⟨some t,.call { callee:=.invoke rv name,args,argTypes:=ats },ty,pos,after,none⟩)::l) γ V:=by
 refine mo1 (fun U2 hO=>?_) htn
 have he:∀x∈rv::args.toList,ev U2 x=ev Sr x:=fun x hx=>by
  rw[hO x (by simpa[Op.operands,Call.operands] using hx)];exact(Bv fun t ht=>AD hl t (AU (by rw[<-ht];exact hx))).symm
 refine IW rfl (by rw[he rv (by simp)];exact hx) hM h ?_ (by simpa[As] using htn) (fun d' S' ⟨e1,e2⟩=>?_) (fun d' S' ⟨e1,e2⟩=>by cases e1)
 ·rw[show args.toList.map (ev U2)=args.toList.map (ev Sr) from List.map_congr_left fun x h=>he x (by simp[h]),ha];exact Dn _
 ·cases e1;subst e2;exact B6 ⟨rfl,by simp only[putD,A8,if_true];exact⟨hC,k⟩⟩
def Hn(p:BProg)(inM:Bool):Nat->Int->Int->List Int->Option (List Int)
 |0,_,_,_=>none
 |_+1,node,size,s=>
  if node<0\/(p.nodes.length:Int)<=node\/0<=s.getD node.toNat 0 then none else
  if((Aj p node).kids.length:Int)≠DA p (Aj p node)\/BF p (Aj p node) size=false\/((Aj p node).op=18/\inM=false) then none else some (s.set node.toNat size)
def optW:Bool×List Int->Option (List Int)
 |(true,s)=>some s
 |(false,_)=>none
theorem JH(f:Int->Int->List Int->Bool×List Int)(x:BNode)(size:Int): ∀(j:Nat) (l s:List Int),KY (fun a b c=>optW (f a b c)) x size j l s=optW (C6 f x size j l s)
 |_,[],s=>rfl
 | j,c::r,s=>by
  rw[KY,C6];cases h:f c (if x.op=9/\j=1 then size+1 else size) s with
  |mk b s'=>cases b with
   |false=>rfl
   |true=>simp only[optW];exact JH f x size (j+1) r s'
theorem Jm(p:BProg)(inM:Bool): ∀(k:Nat) (node size:Int) (s:List Int),FQ p (Hn p inM) k node size s=optW (Dm p inM k node size s)
 |0,_,_,_=>rfl
 | k+1,node,size,s=>by
  rw[FQ,Dm,Hn]
  by_cases h1:node<0\/(p.nodes.length:Int)<=node\/0<=s.getD node.toNat 0
  ·rw[if_pos h1,if_pos h1];rfl
  ·rw[if_neg h1,if_neg h1]
   by_cases h2:((Aj p node).kids.length:Int)≠DA p (Aj p node)\/BF p (Aj p node) size=false\/((Aj p node).op=18/\inM=false)
   ·rw[if_pos h2,if_pos h2];rfl
   ·rw[if_neg h2,if_neg h2];have e:FQ p (Hn p inM) k=fun a b c=>optW (Dm p inM k a b c):=by funext a b c;exact Jm p inM k a b c
    simp only[e];exact JH _ _ _ _ _ _
theorem Kb{P:Program}{n:Nat}{Q:DX->St->Prop}{γ:Fr}{V:Sig}{df:List DDf}{gop:Operand}{ps:Array Tmp}{asg body:Code}{f:Nat}{first cap:List D}{S:Type}{u:D}(G:Nat->Sig->S->Prop)(Bad:Nat->Sig->Prop)(touch:Nat->Prop)(o:Option S)
  (hf:ev γ gop=.func (.func f) first cap)
  (hcall:∀l did,V did=none->V l=none->l≠did->∀LO,LO=DObj.loop .ready none ps asg body n γ did->DCall P f (first++[.yld l]++cap) ((V.set did .defs).set l LO) (OutO u (.tup []) (fun S' s=>S' l=some LO/\G did S' s) (Bad did) touch ((V.set did .defs).set l LO) o))
  (hret:∀l did s S',o=some s->V did=none->V l=none->l≠did->G did S' s->Q .normal ⟨γ,S'.del l,.coll did::df⟩)
  (hpan:∀did S',o=none->V did=none->Bad did S'->Q (.panic u) ⟨γ,S',.coll did::df⟩) :
  DWp P none n (.rangeFunc gop ps asg body) Q ⟨γ,V,df⟩:=by
 refine Ed (R:=fun l did=>OutO u (.tup []) (fun S' s=>S' l=some (DObj.loop .ready none ps asg body n γ did)/\G did S' s) (Bad did) touch ((V.set did .defs).set l (DObj.loop .ready none ps asg body n γ did)) o) hf (fun l did h1 h2 h3=>hcall l did h1 h2 h3 _ rfl) (fun l did d S' h1 h2 h3 hr=>?_) (fun l did d S' h1 h2 h3 hr=>?_)
 ·obtain⟨s,hs,rfl,⟨hl,hG⟩,hK⟩:=hr.ret;exact⟨_,_,hl,by simp,hret l did s S' hs h1 h2 h3 hG⟩
 ·obtain⟨hn,rfl,hb⟩:=hr.pan;exact hpan did S' hn h1 hb
theorem endM{P:Program}{n:Nat}{fn:Func}{R:DE->Sig->Prop}{γ:Fr}{V:Sig}{did:Nat}(h:R (.ret (.tup [])) (V.del did))(hd:V did=some .defs)(hr:fn.results=#[]:=by rfl): ∃s',Wk P n ⟨γ,V,[.coll did]⟩ s'/\QG P n fn (Weak R) .normal s':=
 ⟨_,Wk.refl _ _ _,[did],rfl,by simp,by simp[hd],.tup [],E1 (by simp[resD,hr]),Ew h⟩
theorem endMP{P:Program}{n:Nat}{fn:Func}{R:DE->Sig->Prop}{γ:Fr}{V:Sig}{did:Nat}{d:D}(h:R (.panic d) (V.del did))(hd:V did=some .defs): ∃s',Wk P n ⟨γ,V,[.coll did]⟩ s'/\QG P n fn (Weak R) (.panic d) s':=
 ⟨_,Wk.refl _ _ _,[did],rfl,by simp,by simp[hd],Ew h⟩
theorem Keep.del{touch:Nat->Prop}{a b:Sig}(h:Keep touch a b){i:Nat}(hi:a i=none):Keep touch a (b.del i):=fun j x h1 h2=>by
 have e:j≠i:=fun e=>by rw[e,hi]at h1;cases h1
 simp only[Sig.del,e,if_false];exact h _ _ h1 h2
theorem Keep.base{touch:Nat->Prop}{a b:Sig}{i:Nat}{o:DObj}(h:Keep touch (a.set i o) b)(hi:a i=none):Keep touch a b:=fun j x h1 h2=>
 h _ _ (by rw[w8 _ _ fun e=>by rw[e,hi]at h1;cases h1];exact h1) h2
def BG:DObj->DObj
 |.loop _ _ ps a b n γ d=>.loop .busy none ps a b n γ d
 |o=>o
def UR(c:Code):DObj->DObj
 |.loop _ _ ps a b n γ d=>.loop .done (some c) ps a b n γ d
 |o=>o
def Ps(l:Nat)(LO:DObj)(R:DE->Sig->Prop):DX->St->Prop
 |.normal,s=>s.V l=some (BG LO)/\R (.ret (.bool true)) (s.V.set l LO)
 |.ret,s=>s.V l=some (BG LO)/\R (.ret (.bool false)) (s.V.set l (UR .ret LO))
 |.panic d,s=>s.df=[]/\R (.panic d) s.V
 |.exit id,s=>s.V l=some (BG LO)/\R (.ret (.bool false)) (s.V.set l (UR (.exit id) LO))
theorem DD{P:Program}{l:Nat}{args:List D}{V:Sig}{R:DE->Sig->Prop}{ps:Array Tmp}{asg body:Code}{n:Nat}{Sl:Fr}{did:Nat}{LO:DObj}(hLO:LO=.loop .ready none ps asg body n Sl did)(hU:V l=some LO)
  (h:DWp P (some l) n asg (Then (fun s=>s.V l=some LO/\DWp P (some l) n body (Ps l LO R) { s with V:=s.V.set l (BG LO) }) (fun _ _=>False)) ⟨Pm ps.toList args Sl,V,[]⟩) (hl:ps.toList.length=args.length:=by rfl) (hp:∀p∈ps.toList,p<n:=by decide):DYield P l args V R:=by
 subst hLO;refine Le hU hl hp ?_;have e:Ps l (.loop .ready none ps asg body n Sl did) R=Vl l ps asg body n Sl did R:=by funext x s;cases x<;>rfl
 rw[<-e];exact h
theorem L7 (p:BProg) (io r:Nat) (inM:Bool) (node size:Int) (s:List Int) (V:Sig) (hp:p.wt<=1073741824) (hio:V io=some (.cells [.sref r 0 p.nodes.length p.nodes.length])) (hr:V r=some (.cells (s.map dI))) (hs:s.length=p.nodes.length) (hne:io ≠ r) (hz:0<=size) (hz2:size<=900) :
  DCall prog 83 [dI node,dI size,.bool inM,.cptr (Am p) 0,.ptr io 0] V (OutO unf (.tup []) (fun S' s'=>S' r=some (.cells (s'.map dI))/\s'.length=p.nodes.length/\Keep (· = r) V S') (fun S'=>Keep (· = r) V S') (· = r) V (optW (Dm p inM 12 node size s))):=by
 obtain⟨p1,p2,p3,p4,p5,p6,p7⟩:=p.wt_le;rw[<-Jm];refine AX func83 rfl (by decide) ntmps83 (by simp) ?_;refine gz ?_ o83;refine Kb (u:=unf) (fun did S' s'=>S' r=some (.cells (s'.map dI))/\s'.length=p.nodes.length/\Keep (· = r) (V.set did .defs) S') (fun did S'=>Keep (· = r) (V.set did .defs) S') (· = r) (FQ p (Hn p inM) 12 node size s) rfl (fun l did hd hl hld LO hLO=>?_) (fun l did s' S' ho hd hl hld hG=>?_) (fun did S' ho hd hb=>?_)
 ·have hrd:r ≠ did:=fun e=>by rw [e,hd] at hr;cases hr
  have hod:io≠did:=fun e=>by rw[e,hd]at hio;cases hio
  rw[<-w8 V DObj.defs hod]at hio;rw[<-w8 V DObj.defs hrd]at hr;rw[<-w8 V DObj.defs hld]at hl;clear hd hrd hod;generalize V.set did .defs=Sd at*
  refine SO p l _ _ _ (Hn p inM) hp (fun _ _ _=>rfl) (fun k node size s s' h=>by
   cases k with
   |zero=>cases h
   |succ k=>
    rw[Hn]at h
    split at h
    ·cases h
    ·omega) (fun k d node size S1 s1 hd hz1 hz2 hG=>?_) (fun S1 s1 a o hG ha=>?_) 12 1 node size _ s (fun a ha e=>?_) (by omega) hz (by omega) (by omega) ?_
  ·obtain ⟨hl1,hr1,hs1,hK1⟩:=hG;refine DD hLO hl1 ?_;clear hLO;refine gz ?_ o83;refine⟨hl1,?_⟩;have hio1:=hK1 io _ hio hne;have hlio:l≠io:=fun e=>by rw[e,hio]at hl;cases hl
   have hlr:l≠r:=fun e=>by rw[e,hr]at hl;cases hl
   have hKb:=hK1.fresh (o:=BG LO) hl;cases k with
   |zero=>
    repeat' first|(exact⟨rfl,rfl,hKb⟩)|refine gf (gi hio1 (gi hr1 (gi hlio (gi hlr hne)))) ?_ o83|apply gy<;>intro hh
   | succ k =>
    by_cases hn:node<0\/(p.nodes.length:Int)<=node
    ·have hS:Hn p inM (k+1) node size s1=none:=by rw[Hn,if_pos (by omega)]
     rw[hS]
     repeat' first|(exact⟨rfl,rfl,hKb⟩)|refine gf (gi hio1 (gi hr1 (gi hlio (gi hlr hne)))) ?_ o83|apply gy<;>intro hh
    ·obtain ⟨q,rfl⟩ : ∃ q:Nat,node=(q:Int):=⟨node.toNat,by omega⟩;have hq:q<p.nodes.length:=by omega
     have hqs:q<s1.length:=by omega
     have hget:s1.getD ((q:Int)).toNat 0=s1[q]:=by simp[List.getD_eq_getElem?_getD,hqs]
     by_cases h2:0<=s1[q]
     ·have hS:Hn p inM (k+1) q size s1=none:=by rw[Hn,if_pos (by rw[hget];omega)]
      rw[hS]
      repeat' first|(exact⟨rfl,rfl,hKb⟩)|refine gf (gi hio1 (gi hr1 (gi hlio (gi hlr hne)))) ?_ o83|apply gy<;>intro hh
     ·have hna:Aj p q=p.nodes[q]:=by unfold Aj;simp [hq]
      have hS:Hn p inM (k+1) q size s1=if((p.nodes[q]).kids.length:Int)≠DA p p.nodes[q]\/BF p p.nodes[q] size=false\/((p.nodes[q]).op=18/\inM=false) then none else some (s1.set q size):=by
       rw[Hn,if_neg (by rw[hget];omega),hna];simp
      have hkl:(p.nodes[q]).kids.length<=1073741824:=by have:=p7 q hq;unfold BNode.wt at this;omega
      generalize hx:p.nodes[q]=x at*;have hKd:∀o,Keep (· = r) Sd ((S1.set l (BG LO)).set r o):=fun o j x h1 h2=>by rw[w8 _ _ h2];exact hKb j x h1 h2
      cases hnb:BF p x size with
      |false=>
       rw[if_pos (.inr (.inl hnb))]at hS;rw[hS]
       repeat' first|(exact⟨rfl,rfl,hKd _⟩)|refine gf (gi hio1 (gi hr1 (gi hlio (gi hlr (gi hne (gi hx hnb)))))) ?_ o83|apply gy<;>intro hh
      | true =>
       by_cases h18:x.op=18/\inM=false
       ·rw[if_pos (.inr (.inr h18))]at hS;rw[hS]
        repeat' first|(exact⟨rfl,rfl,hKd _⟩)|refine gf (gi hio1 (gi hr1 (gi hlio (gi hlr (gi hne (gi hx (gi hnb h18.2))))))) ?_ o83|apply gy<;>intro hh
        all_goals exact absurd h18.1 (by assumption)
       ·
        repeat' first|refine gf (gi hio1 (gi hr1 (gi hlio (gi hlr (gi hne (gi hx hnb)))))) ?_ o83|apply gy<;>intro hh
        all_goals try (exfalso;grind)
        all_goals
         have h18':BF p x size=false\/(x.op=18/\inM=false)->False:=fun h=>h.elim (by rw[hnb];simp) h18
         have hfin:(((S1.set l (BG LO)).set r (.cells (List.take q (List.map dI s1)++dI size::List.drop (q+1) (List.map dI s1)))) l=some (BG LO)) /\
           (fun S'=>(S' l=some LO/\S' r=some (.cells ((s1.set q size).map dI))/\(s1.set q size).length=p.nodes.length/\Keep (· = r) Sd S')/\Keep (· = r) S1 S') (((S1.set l (BG LO)).set r (.cells (List.take q (List.map dI s1)++dI size::List.drop (q+1) (List.map dI s1)))).set l LO):=by
          refine⟨by rw[w8 _ _ hlr,w7],⟨w7 ..,?_,by simpa using hs1,fun j o h1 h2=>?_⟩,fun j o h1 h2=>?_⟩
          ·rw[w8 _ _ (Ne.symm hlr),w7,List.map_set,List.set_eq_take_append_cons_drop,if_pos (by simpa using hqs)]
          ·rw[w8 _ _ fun e=>by rw[e,hl]at h1;cases h1];exact hKd _ j o h1 h2
          ·by_cases hj:j=l
           ·rw[hj]at h1⊢; rw[w7,<-h1,hl1]
           ·rw[w8 _ _ hj,w8 _ _ h2,w8 _ _ hj];exact h1
         cases hk:PL x.op with
         | some kk =>
          have hkd:DB x.op=.iface 140 (dI kk):=by unfold DB;rw[hk]
          have hkr:DA p x=kk:=by unfold DA;rw[hk]
          rw[hkr]at hS;refine gf (gi hkd (gi hio1 (gi hr1 (gi hlio (gi hlr (gi hne hx)))))) ?_ o83;refine V8 meth327 (RQ p x kk _) ?_
          repeat' first|refine gz ?_ o83|apply gy<;>intro hh
          ·have h6:=hh;rw[hS,if_neg (fun h=>h.elim (fun h=>h h6) h18')];exact⟨hfin.1,rfl,hfin.2⟩
          ·have h6:=hh;rw[hS,if_pos (.inl h6)];exact⟨rfl,rfl,hKd _⟩
         | none =>
          by_cases h5:x.op=5
          ·have hkd:DB x.op=.iface 142 (.agg []):=by unfold DB;rw[hk];simp[h5]
           have hnn:0<=x.n/\x.n<p.gens.length:=by simpa[BF,h5] using hnb
           have hkr:DA p x=p.gens[x.n.toNat]'(by omega):=by unfold DA;rw[hk];simp[h5,hnn,List.getD_eq_getElem?_getD,show x.n.toNat<p.gens.length by omega]
           rw[hkr]at hS;refine gf (gi hkd (gi hio1 (gi hr1 (gi hlio (gi hlr (gi hne hx)))))) ?_ o83;refine V8 meth328 (RP p x _ hnn.1 hnn.2) ?_
           repeat' first|refine gz ?_ o83|apply gy<;>intro hh
           ·have h6:=hh;rw[hS,if_neg (fun h=>h.elim (fun h=>h h6) h18')];exact⟨hfin.1,rfl,hfin.2⟩
           ·have h6:=hh;rw[hS,if_pos (.inl h6)];exact⟨rfl,rfl,hKd _⟩
          ·have hkd:DB x.op=.niliface:=by unfold DB;rw[hk];simp[h5]
           have hkr:DA p x = -1:=by unfold DA;rw[hk];simp[h5]
           rw[hS,if_pos (.inl (by rw[hkr];omega))]
           repeat' first|(exact⟨rfl,rfl,hKd _⟩)|refine gf (gi hkd (gi hio1 (gi hr1 (gi hlio (gi hlr (gi hne hx)))))) ?_ o83|apply gy<;>intro hh
  ·obtain⟨g1,g2,g3,g4⟩:=hG;refine⟨by rw[w8 _ _ fun e=>by rw[e,ha]at g1;cases g1];exact g1,by rw[w8 _ _ fun e=>by rw[e,ha]at g2;cases g2];exact g2,g3,fun j x h1 h2=>?_⟩;have:=g4 j x h1 h2;rw[w8 _ _ fun e=>by rw[e,ha]at this;cases this];exact this
  ·have hrl:r≠l:=fun e=>by rw[e,hl]at hr;cases hr
   subst e;rw[w8 _ _ hrl,hr]at ha;cases ha
  ·have hrl:r≠l:=fun e=>by rw[e,hl]at hr;cases hr
   exact⟨w7 .., by rw[w8 _ _ hrl];exact hr,hs,(Keep.refl _ Sd).fresh hl⟩
 ·rw[ho];have hrl:r≠l:=fun e=>by rw[e,hl]at hr;cases hr
  have hrd:r≠did:=fun e=>by rw[e,hd]at hr;cases hr
  have hdr:¬did=r:=Ne.symm hrd;refine gz ?_ o83;have hk:=((hG.2.2.base hd).del hl).del hd;refine endM ⟨rfl,⟨by simp[Sig.del,hrd,hrl];exact hG.1,hG.2.1,hk⟩,hk⟩ ?_;simp only[Sig.del,Ne.symm hld,if_false];exact hG.2.2 did _ (w7 ..) hdr
 ·rw[ho];have hdr:¬did=r:=fun e=>by rw[<-e,hd]at hr;cases hr
  exact endMP ⟨rfl,(hb.base hd).del hd⟩ (hb did _ (w7 ..) hdr)
def anyS{α S:Type}(f:α->S->Bool×S):List α->S->Bool×S
 |[],s=>(false,s)
 |x::r,s=>match f x s with
  |(true,s')=>(true,s')
  |(false,s')=>anyS f r s'
def allS{α S:Type}(f:α->S->Bool×S):List α->S->Bool×S
 |[],s=>(true,s)
 |x::r,s=>match f x s with
  |(false,s')=>(false,s')
  |(true,s')=>allS f r s'
theorem Lm{α S:Type}(f:α->S->Bool×S): ∀(l:List α) (s:S),allS f l s=(!(anyS (fun x s=>(!(f x s).1,(f x s).2)) l s).1,(anyS (fun x s=>(!(f x s).1,(f x s).2)) l s).2)
 |[],s=>rfl
 |x::r,s=>by
  rw[allS,anyS];rcases h:f x s with⟨b,s'⟩;cases b
  ·simp
  ·simp only[Bool.not_true];exact Lm f r s'
theorem JP(l:List Int)(q:Int->Bool)(g:Nat)(first cap:List D)(o:Own)(V:Sig)(hl:l.length<=1073741824)
  (hg:∀x∈l,DCall prog g (first++dI x::cap) V fun r S''=>r=.ret (.bool (q x))/\S''=V) :
  DCall prog 309 [.slice (cI l) o,.func (.func g) first cap] V (rS (dI (idxF q l 0)) V):=by
 refine en func309 ntmps309 ?_;refine gz ?_;refine Bj [0,1,7] (fun (k:Nat)=>k<=l.length/\idxF q l 0=idxF q (l.drop k) k) (fun k=>[(8,dI k)]) (fun _=>V) (fun k=>l.length-k) (0) td3 (fun k hI=>?_);obtain⟨hk,hR⟩:=hI
 by_cases h:k<l.length
 ·rw[A3 h,idxF]at hR
  repeat' first|refine AE (hg (l[k]) (List.getElem_mem h)) ?_|refine callP (hg (l[k]) (List.getElem_mem h)) ?_|refine gf h ?_|apply gy<;>intro hh
  ·exact fe1 hR
  ·exact⟨k+1,⟨by omega,by rw[hR,hh];rfl⟩,td1,wkR⟩
 ·refine gf h ?_
  (refine fin1 (S':=V) ?_;exact⟨by first|rfl|(simp[hR,A2 h,idxF];done)|(simp_all [hR,A2 h,idxF];done)|(rw[Ae,Bool.eq_iff_iff];simp_all [hR,A2 h,idxF]<;>omega),rfl⟩)
theorem JT(l:List Int)(q:Int->Bool)(g:Nat)(first cap:List D)(o:Own)(V:Sig)(hl:l.length<=1073741824)
  (hg:∀x∈l,DCall prog g (first++dI x::cap) V fun r S''=>r=.ret (.bool (q x))/\S''=V) :
  DCall prog 293 [.slice (cI l) o,.func (.func g) first cap] V (rS (.bool (l.any q)) V):=by
 refine en func293 ntmps293 ?_
 repeat' first|refine gz ?_|refine AE (JP l q g first cap o V hl hg) ?_|refine callP (JP l q g first cap o V hl hg) ?_|refine gz ?_|apply gy<;>intro hh
 (refine fin1 (S':=V) ?_;exact⟨by first|rfl|(simp[E6];done)|(simp_all [E6];done)|(rw[Ae,Bool.eq_iff_iff];simp_all [E6]<;>omega),rfl⟩)
theorem JS(q:Int->Bool)(g:Nat)(first cap:List D)(x:Int)(V:Sig)
  (hg:DCall prog g (first++dI x::cap) V fun r S''=>r=.ret (.bool (q x))/\S''=V) :
  DCall prog 294 [dI x,.cptr [.func (.func g) first cap] 0] V (rS (.bool (!q x)) V):=by
 refine en func294 ntmps294 ?_
 repeat' first|refine AE (hg) ?_|refine callP (hg) ?_|refine gz ?_|apply gy<;>intro hh
 exact fe1 trivial
theorem Fd(l:List Int)(q:Int->Bool)(g:Nat)(first cap:List D)(o:Own)(V:Sig)(hl:l.length<=1073741824)
  (hg:∀x∈l,DCall prog g (first++dI x::cap) V fun r S''=>r=.ret (.bool (q x))/\S''=V) :
  DCall prog 268 [.slice (cI l) o,.func (.func g) first cap] V (rS (.bool (l.all q)) V):=by
 refine en func268 ntmps268 ?_
 repeat' first|refine gz ?_|refine AE (JT l (fun x=> !q x) 294 [] [.cptr [.func (.func g) first cap] 0] o V hl (fun x hx=>JS q g first cap x V (hg x hx))) ?_|refine callP (JT l (fun x=> !q x) 294 [] [.cptr [.func (.func g) first cap] 0] o V hl (fun x hx=>JS q g first cap x V (hg x hx))) ?_|refine gz ?_|apply gy<;>intro hh
 (refine fin1 (S':=V) ?_;exact⟨by first|rfl|(simp[List.not_all_eq_any_not];done)|(simp_all [List.not_all_eq_any_not];done)|(rw[Ae,Bool.eq_iff_iff];simp_all [List.not_all_eq_any_not]<;>omega),rfl⟩)
theorem RR{S:Type}(l:List Fact)(f:Fact->S->Bool×S)(g:Nat)(first cap:List D)(o:Own)(Good:Sig->S->Prop)(hl:l.length<=1073741824)
  (hg:∀x∈l, ∀V s,Good V s->DCall prog g (first ++ .agg (Ba x)::cap) V fun r S'=>r=.ret (.bool (f x s).1)/\Good S' (f x s).2) (V:Sig) (s:S) (hG:Good V s) :
  DCall prog 310 [.slice (l.map Ba) o,.func (.func g) first cap] V fun x S'=> ∃i:Int,x=.ret (dI i)/\decide (0<=i)=(anyS f l s).1/\Good S' (anyS f l s).2:=by
 refine en func310 ntmps310 ?_;refine gz ?_;refine FG [0,1,7] (fun (k:Nat) (s1:S) (S1:Sig)=>k<=l.length/\Good S1 s1/\anyS f l s=anyS f (l.drop k) s1) (fun k _ _=>[(8,dI k)]) (fun _ _ S1=>S1) (fun k _ _=>l.length-k) (0) (s) (V) (by exact⟨by omega,hG,rfl⟩) (fun k s1 S1 hI=>?_);obtain⟨hk,hG1,hR⟩:=hI
 by_cases h:k<l.length
 ·rw[A3 h,anyS]at hR;refine gf h ?_;refine Ab (hg (l[k]) (List.getElem_mem h) S1 s1 hG1) (fun e S2 hr=>?_) (fun e S2 hr=>?_)
  ·obtain⟨h1,h2⟩:=hr;simp only[DE.ret.injEq]at h1;subst h1;rcases hf:f l[k] s1 with⟨b,s2⟩;rw[hf]at hR h2;cases b
   ·refine gz ?_;exact⟨k+1,s2,S2,⟨by omega,h2,hR⟩,td1,wkR⟩
   ·refine gz ?_;refine fin1 (S':=S2) ?_;exact⟨k,rfl,by rw[hR];simp,by rw[hR];exact h2⟩
  ·cases hr.1
 ·rw[A2 h,anyS]at hR;refine gf h ?_;refine fin1 (S':=S1) ?_;exact⟨-1,rfl,by rw[hR];rfl,by rw[hR];exact hG1⟩
theorem RZ{S:Type}(l:List Fact)(f:Fact->S->Bool×S)(g:Nat)(first cap:List D)(o:Own)(Good:Sig->S->Prop)(hl:l.length<=1073741824)
  (hg:∀x∈l, ∀V s,Good V s->DCall prog g (first ++ .agg (Ba x)::cap) V fun r S'=>r=.ret (.bool (f x s).1)/\Good S' (f x s).2) (V:Sig) (s:S) (hG:Good V s) :
  DCall prog 295 [.slice (l.map Ba) o,.func (.func g) first cap] V fun x S'=>x=.ret (.bool (anyS f l s).1)/\Good S' (anyS f l s).2:=by
 refine en func295 ntmps295 ?_;refine gz ?_;refine Ab (RR l f g first cap o Good hl hg V s hG) (fun e S2 hr=>?_) (fun e S2 hr=>?_)
 ·obtain⟨i,h1,h2,h3⟩:=hr;simp only[DE.ret.injEq]at h1;subst h1;refine gz ?_;refine fin1 (S':=S2) ?_;exact⟨by rw[<-h2],h3⟩
 ·obtain⟨i,h1,_⟩:=hr;cases h1
theorem RY{S:Type}(f:Fact->S->Bool×S)(g:Nat)(first cap:List D)(Good:Sig->S->Prop)(x:Fact)(V:Sig)(s:S)(hg:DCall prog g (first ++ .agg (Ba x)::cap) V fun r S'=>r=.ret (.bool (f x s).1)/\Good S' (f x s).2):
  DCall prog 296 [.agg (Ba x),.cptr [.func (.func g) first cap] 0] V fun r S'=>r=.ret (.bool (!(f x s).1))/\Good S' (f x s).2:=by
 refine en func296 ntmps296 ?_;refine gz ?_;refine Ab hg (fun e S2 hr=>?_) (fun e S2 hr=>?_)
 ·obtain⟨h1,h2⟩:=hr;simp only[DE.ret.injEq]at h1;subst h1;refine gz ?_;refine fin1 (S':=S2) ?_;exact⟨rfl,h2⟩
 ·cases hr.1
theorem Mq{S:Type}(l:List Fact)(f:Fact->S->Bool×S)(g:Nat)(first cap:List D)(o:Own)(Good:Sig->S->Prop)(hl:l.length<=1073741824)
  (hg:∀x∈l, ∀V s,Good V s->DCall prog g (first ++ .agg (Ba x)::cap) V fun r S'=>r=.ret (.bool (f x s).1)/\Good S' (f x s).2) (V:Sig) (s:S) (hG:Good V s) :
  DCall prog 270 [.slice (l.map Ba) o,.func (.func g) first cap] V fun x S'=>x=.ret (.bool (allS f l s).1)/\Good S' (allS f l s).2:=by
 refine en func270 ntmps270 ?_;refine gz ?_;refine Ab (RZ l (fun x s=>(!(f x s).1,(f x s).2)) 296 [] [.cptr [.func (.func g) first cap] 0] o Good hl (fun x hx V s hG=>RY f g first cap Good x V s (hg x hx V s hG)) V s hG) (fun e S2 hr=>?_) (fun e S2 hr=>?_)
 ·obtain⟨h1,h2⟩:=hr;simp only[DE.ret.injEq]at h1;subst h1;refine gz ?_;refine fin1 (S':=S2) ?_;exact⟨by rw[Lm],by rw[Lm];exact h2⟩
 ·cases hr.1
end Go.DL
