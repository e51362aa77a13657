/- A part of the proof. -/
import Derived.Test.YteldimffglchkaaGreatDoorN12
import Derived.Test.YteldimffglchkaaGreatDoorN11
import Derived.Test.YteldimffglchkaaGreatDoorN07
set_option linter.all false
namespace Go.DL
open Go.Proofs.Tryz
open Go Go.Proofs
set_option maxHeartbeats 4000000
theorem M5(i:Nat)(b:Bool)(O:Sig)(hi:O i=some (.cells [.bool b])):Jq prog 249 [.ptr i 0] O none O/\Jq prog 249 [.ptr i 0] O (some unf) (O.set i (.cells [.bool false])):=by
 constructor
 ·refine OC func249 rfl ntmps249 (by simp) (by decide) (by decide) rfl ?_
  simp only[Option.getD_none]
  repeat' first|refine gz ?_|apply gy<;>intro hh
  exact⟨.inl rfl,rfl,Sub.refl _⟩
 ·refine OC func249 rfl ntmps249 (by simp) (by decide) (by decide) rfl ?_
  simp only[Option.getD_some]
  repeat' first|refine gf hi ?_|apply gy<;>intro hh
  exact⟨.inl rfl,rfl,Sub.refl _⟩
theorem GL{O:Sig}{i:Nat}{o:DObj}:Sub (O.del i) (O.set i o):=fun j x h=>by
 by_cases hj:j=i
 ·subst hj;simp[Sig.del]at h
 ·rw[w7 _ _ hj];simpa[Sig.del,hj] using h
theorem SA(g:Nat)(cap:List D)(O:Sig)(R:Sig->DE->Sig->Prop)
  (hg:∀i,O i=none->DCall prog g cap (O.set i (.cells [.bool false])) (R (O.set i (.cells [.bool false]))))
  (hR:∀U' d S'',R U' (.panic d) S''->d=unf) (hk:∀i S'' x,O i=none->R (O.set i (.cells [.bool false])) x S''->S'' i=some (.cells [.bool false])) :
  DCall prog 194 [.func (.func g) [] cap] O fun x U'=> ∃i S'',O i=none/\U'=S''.del i /\
   ((∃d,R (O.set i (.cells [.bool false])) (.ret d) S''/\x=.ret (.bool true))\/(R (O.set i (.cells [.bool false])) (.panic unf) S''/\x=.ret (.bool false))):=by
 refine GE (fd:=249) func194 rfl (AI func249 (by rfl) (by rfl)) (by rw[Ac];decide) (by decide) ntmps194 (by simp) ?_
 refine gz ?_ [] [2]
 refine newV (fun i hi=>?_)
 refine gz ?_ [] [2]
 refine K3 (f:=249) (by rw[Ac];decide) rfl rfl ?_
 refine gz ?_ [] [2]
 refine A7 (hg i hi) (fun d U' hr=>?_) (fun d U' hp=>?_)
 ·have aQ:=hk i U' _ hi hr
  refine gf aQ ?_ [] [2]
  refine⟨_,Wk.refl _ _ _,[.ptr i 0],U'.set i (.cells [.bool true]),.bool true,rfl,(M5 i true _ (w6 ..)).1,Cf (ds:=[.bool true]) Ad ?_,.ret (.bool true),U'.del i,A8 _,GL,i,U',hi,rfl,.inl ⟨d,hr,rfl⟩⟩
  simp[resL]
 ·have aQ:=hk i U' _ hi hp
  obtain rfl:=hR _ _ _ hp
  refine gz ?_ [] [2]
  refine⟨_,Wk.refl _ _ _,[.ptr i 0],U'.set i (.cells [.bool false]),.bool false,rfl,(M5 i false _ aQ).2,Cf (ds:=[.bool false]) Ad ?_,.ret (.bool false),U'.del i,A8 _,GL,i,U',hi,rfl,.inr ⟨hp,rfl⟩⟩
  simp[resL]
end Go.DL
namespace Go.DL
open Go.Proofs.Tryz
open Go Go.Proofs
set_option maxHeartbeats 8000000
theorem Sf(g:List (List Int))(o:Own)(O:Sig)(hl:g.length<=1073741824:=by exact sd)(br:∀x∈g,x.length<=1073741824:=by exact sd):
  DCall prog 251 [.slice (cII g) o] O (rS (dI (if Cw g then 0 else 2)) O):=by
 refine en func251 ntmps251 ?_
 cases h:Cw g with
 |false=>
  try refine gf h ?_
  exact fe1 trivial
 |true=>
  try refine gf h ?_
  exact fe1 trivial
@[reducible,instance] def a251:=fun g o O=>ah2 (@Sf g o O)
def C6:Int->List BClass->Option Int
 |n,[]=>some n
 |n,c::r=>if 4<c.slots.length then none else match G4 n c.slots with
  |none=>none
  |some m=>C6 m r
def DY(bz:List Int):List Int->List Init->Bool
 |_,[]=>true
 |seen,x::r=>(decide (x.slot∈bz)&&!decide (x.slot∈seen)&&inB x.n)&&DY bz (seen++[x.slot]) r
def Bg(p:BProg):Nat->List BClass->Bool
 |_,[]=>true
 |i,c::r=>decide (linE (p.classes.map (·.parents)) ((i:Int)+3)=0)&&DY (hasP p ((i:Int)+3)) [] c.inits&&Bg p (i+1) r
def AA(p:BProg):Bool:=decide (p.classes.length<=10)&&match C6 0 p.classes with
 |none=>false
 |some n=>decide (n=p.slots)&&Cw (p.classes.map (·.parents))&&Bg p 0 p.classes
theorem El(cs:List BClass): ∀(n:Nat) (up out:List Int),(hasG cs n up out).length<=out.length+wtL (fun c:BClass=>c.slots.length) (cs.take n)
 |0,_,out=>by rw[hasG];omega
 | n+1,up,out=>by
  rw[hasG]
  by_cases h:n<cs.length
  ·rw[List.getElem?_eq_getElem h,Ki _ _ _ h]
   simp only
   split
   ·have:=El cs n (Is (cs[n]).parents up) (out++(cs[n]).slots)
    rw[List.length_append]at this;omega
   ·have:=El cs n up out;omega
  ·rw[List.getElem?_eq_none (by omega)]
   have:=El cs n up out
   rw[List.take_of_length_le (by omega)]at this⊢
   exact this
theorem Ci(p:BProg)(c:Int):(hasP p c).length<=wtL (fun c:BClass=>c.slots.length) p.classes:=by
 unfold hasP
 have h1:=G2 (hasG p.classes (c-2).toNat [c] [])
 have h2:=El p.classes (c-2).toNat [c] []
 have h3:=FB (fun c:BClass=>c.slots.length) p.classes (c-2).toNat
 simp only[List.length_nil]at h2
 omega
theorem ins_new{k:Int}{s:List Int}(h:k∉s):ins k s=s++[k]:=by unfold ins;rw[if_neg h]
theorem Sz (p:BProg) (O:Sig) (hp:p.wt<=1073741824:=by exact sd):DCall prog 196 [.agg (Ai p)] O fun x U'=>x=(if AA p then .ret (.tup []) else .panic unf)/\U'=O:=by
 obtain⟨p1,p2,p3,p4,p5,p6,p7⟩:=p.wt_le
 have ws:=E6 p
 have aM:∀c∈p.classes,c.parents.length<=1073741824/\c.slots.length<=1073741824/\c.inits.length<=1073741824:=fun c hc=>by
  obtain⟨k,hk,rfl⟩:=List.getElem_of_mem hc
  have:=p5 k hk
  have bK:(p.classes[k]).wt=1+(p.classes[k]).parents.length+(p.classes[k]).slots.length+(p.classes[k]).inits.length:=rfl
  omega
 have bL:∀c∈p.classes,c.parents.length<=1073741824:=fun c hc=>(aM c hc).1
 have bM:∀x∈p.classes.map (·.parents),x.length<=1073741824:=fun x hx=>by obtain⟨c,hc,rfl⟩:=List.mem_map.1 hx;exact(aM c hc).1
 refine en func196 ntmps196 ?_
 by_cases bA:p.classes.length<=10
 ·repeat' first|refine gz ?_|apply gy<;>intro hh
  ·refine D7 [1,7,8,9,10,11,12,13,15,22,23,48,49,50,51,52,53,54,55,56,57,58,59,60,61,62,63,64,65,66,67,68,69,70,71,72,73,74,75,76,77,78,79,80,81,82,83,84,85,86,87,88,89,90,91,92,93,94,95,96,97,98,99,100,101,102,103,104,105,106,107,108,109,110,111] (fun (i:Nat) (n:Int)=>i<=p.classes.length/\n=wtL (fun c:BClass=>c.slots.length) (p.classes.take i)/\C6 0 p.classes=C6 n (p.classes.drop i)) (fun i n=>[(24,dI i),(2,dI n)]) (fun _ _=>O) (fun i _=>p.classes.length-i) (0) (0) (by simp[wtL]) (fun i n hI=>?_)
   obtain⟨hi,hn,hR⟩:=hI
   by_cases h:i<p.classes.length
   ·have hx:=aM _ (List.getElem_mem h)
    have hT:=Ki (fun c:BClass=>c.slots.length) p.classes i h
    have bY:=FB (fun c:BClass=>c.slots.length) p.classes (i+1)
    rw[Ab h,C6]at hR
    by_cases h4:4<(p.classes[i]).slots.length
    ·have hc:C6 0 p.classes=none:=by rw[hR,if_pos h4]
     have hF:AA p=false:=by unfold AA;rw[hc];simp
     repeat' first|((with_reducible refine finP (U':=O) ?_);exact⟨by first|(simp[hF];done)|(simp_all [hF];done),rfl⟩)|refine gz ?_|apply gy<;>intro hh
    ·rw[if_neg h4]at hR
     generalize bC:(p.classes[i]).slots=sl' at*
     try refine gf bC ?_
     refine Cg [1,4,7,8,9,10,11,12,13,15,22,23,24,25,26,27,28,29,30,31,32,33,34,35,47,48,49,50,51,52,53,54,55,56,57,58,59,60,61,62,63,64,65,66,67,68,69,70,71,72,73,74,75,76,77,78,79,80,81,82,83,84,85,86,87,88,89,90,91,92,93,94,95,96,97,98,99,100,101,102,103,104,105,106,107,108,109,110,111] (fun (q:Nat)=>q<=sl'.length/\G4 n sl'=G4 (n+q) (sl'.drop q)) (fun q=>[(36,dI q),(2,dI (n+q))]) (fun _=>O) (fun q=>sl'.length-q) (0) (by simp) (fun q hI=>?_)
     obtain⟨hq,hQ⟩:=hI
     by_cases bn:q<sl'.length
     ·rw[Ab bn,G4]at hQ
      have bN:=hx.2.1
      have bH:0<=n:=by omega
      have ap:n<=1073741824:=by omega
      by_cases aZ:sl'[q]=n+q
      ·rw[if_pos aZ]at hQ
       try refine gf aZ ?_
       exact⟨q+1,⟨by omega,by rw[hQ,Int.add_assoc];rfl⟩,td1,wkR⟩
      ·rw[if_neg aZ]at hQ
       have hc:C6 0 p.classes=none:=by rw[hR,hQ]
       have hF:AA p=false:=by unfold AA;rw[hc];simp
       repeat' first|((with_reducible refine finP (U':=O) ?_);exact⟨by first|(simp[hF];done)|(simp_all [hF];done),rfl⟩)|refine gz ?_|apply gy<;>intro hh
     ·rw[Aj bn,G4]at hQ
      rw[hQ]at hR
      have bO:q=sl'.length:=by omega
      try refine gz ?_
      exact⟨i+1,n+q,⟨by omega,by rw[hT];omega,hR⟩,td1,wkR⟩
   ·rw [Aj h,C6] at hR
    by_cases hs:n=p.slots
    ·cases hg:Cw (p.classes.map (·.parents))with
     |false=>
      have hF:AA p=false:=by unfold AA;rw[hR,hg];simp
      repeat' first|((with_reducible refine finP (U':=O) ?_);exact⟨by first|(simp[hF];done)|(simp_all [hF];done),rfl⟩)|refine gf hg ?_|apply gy<;>intro hh
     | true =>
      have aR:AA p=Bg p 0 p.classes:=by unfold AA;rw[hR];simp[hs,hg,bA]
      try refine gf hg ?_
      refine Cg [1,7,61,62] (fun (j:Nat)=>j<=p.classes.length/\Bg p 0 p.classes=Bg p j (p.classes.drop j)) (fun j=>[(63,dI j)]) (fun _=>O) (fun j=>p.classes.length-j) (0) (by simp) (fun j hI=>?_)
      obtain⟨hj,hJ⟩:=hI
      by_cases h':j<p.classes.length
      ·have hx:=aM _ (List.getElem_mem h')
       have bS:=Ci p ((j:Int)+3)
       rw[Ab h',Bg]at hJ
       by_cases hl:linE (p.classes.map (·.parents)) ((j:Int)+3)=0
       ·rw[decide_eq_true hl,Bool.true_and]at hJ
        generalize bw:(p.classes[j]).inits=ins' at hJ hx
        try refine gf (gi bw hl) ?_
        refine newSI (fun im bR=>?_)
        try refine gf bw ?_
        refine Cg [1,7,8,9,10,11,12,13,61,62,63,64,65,66,67,68,69,70,71,72,73,74,75,76,77,78,79,80,81,82,83,84,85,111] (fun (k:Nat)=>k<=ins'.length/\DY (hasP p ((j:Int)+3)) [] ins'=DY (hasP p ((j:Int)+3)) ((ins'.take k).map (·.slot)) (ins'.drop k)) (fun k=>[(86,dI k)]) (fun k=>O.set im (.map (eSI ((ins'.take k).map (·.slot))))) (fun k=>ins'.length-k) (0) (by simp) (fun k hI=>?_)
        obtain⟨hk,hK⟩:=hI
        by_cases bd:k<ins'.length
        ·have ax:=hx.2.2
         rw[Ab bd,DY]at hK
         repeat' first|((with_reducible refine finP (U':=O) ?_);exact⟨by first|(simp[aR,hJ,hK];done)|(simp_all [aR,hJ,hK];done),rfl⟩)|refine gz ?_|apply gy<;>intro hh
         rename_i q1 q2
         have q3:¬ins'[k].slot∈(ins'.take k).map (·.slot):=by simpa using q2
         have q4:(ins'.take (k+1)).map (·.slot)=(ins'.take k).map (·.slot)++[ins'[k].slot]:=by rw[List.take_succ_eq_append_getElem bd,List.map_append];rfl
         have q5:=ins_new q3
         simp only[<-List.map_take,q5,<-q4]
         exact⟨k+1,by refine⟨by omega,?_⟩;rw[hK,hh,decide_eq_true q1,decide_eq_false q3,q4];rfl,td1,wkR⟩
        ·rw[Aj bd,DY]at hK
         rw[hK,Bool.true_and]at hJ
         try refine gz ?_
         exact⟨j+1,⟨by omega,hJ⟩,td1,wkR⟩
       ·rw[decide_eq_false hl,Bool.false_and,Bool.false_and]at hJ
        have hF:AA p=false:=by rw[aR,hJ]
        repeat' first|((with_reducible refine finP (U':=O) ?_);exact⟨by first|(simp[hF];done)|(simp_all [hF];done),rfl⟩)|refine gz ?_|apply gy<;>intro hh
      ·rw[Aj h',Bg]at hJ
       have hF:AA p=true:=by rw[aR,hJ]
       try refine gz ?_
       exact fe0 hF
    ·have hF:AA p=false:=by unfold AA;rw[hR];simp[hs]
     repeat' first|((with_reducible refine finP (U':=O) ?_);exact⟨by first|(simp[hF];done)|(simp_all [hF];done),rfl⟩)|refine gz ?_|apply gy<;>intro hh
 ·have hF:AA p=false:=by unfold AA;rw[decide_eq_false bA];rfl
  repeat' first|((with_reducible refine finP (U':=O) ?_);exact⟨by first|(simp[hF];done)|(simp_all [hF];done),rfl⟩)|refine gz ?_|apply gy<;>intro hh
@[reducible,instance] def a196:=fun p O=>gh1 (@Sz p O)
theorem PQ{x:Int}(h0:0<=x)(h1:x<18446744073709551616):IntKind.u64.wrap x=x:=by
 have e1:(2:Int) ^ IntKind.u64.bits=18446744073709551616:=by decide
 have e3:IntKind.u64.signed=false:=rfl
 simp only[IntKind.wrap,e1,e3,Bool.false_and,Bool.false_eq_true,if_false]
 omega
theorem andU(n:Nat)(h:n<=1073741824):binD .and (.int .u64 n) (.int .u64 4294967295)=some (.int .u64 n):=by
 simp only[binD,if_true]
 have e:((BitVec.ofInt IntKind.u64.bits (n:Int) &&& BitVec.ofInt IntKind.u64.bits 4294967295).toNat)=n:=by
  rw[BitVec.toNat_and]
  show(BitVec.ofInt 64 (n:Int)).toNat &&& (BitVec.ofInt 64 4294967295).toNat=n
  rw[show(4294967295:Int)=((2 ^ 32-1:Nat):Int) from rfl,BitVec.ofInt_natCast,BitVec.ofInt_natCast,BitVec.toNat_ofNat,BitVec.toNat_ofNat]
  rw[Nat.mod_eq_of_lt (by omega),Nat.mod_eq_of_lt (by omega),Nat.and_two_pow_sub_one_eq_mod,Nat.mod_eq_of_lt (by omega)]
 rw[e,PQ (by omega) (by omega)]
theorem shrU(k:IntKind)(n:Nat)(h:n<=1073741824):binD .shr (.int .u64 n) (.int k 32)=some (.int .u64 0):=by
 simp only[binD]
 rw[if_pos (by decide)]
 congr 2
 show(n:Int).fdiv (2 ^ 32)=0
 rw[Int.fdiv_eq_ediv_of_nonneg _ (by decide)]
 omega
theorem RO(n:Nat)(O:Sig)(hn:n<=1073741824:=by exact sd):DCall prog 303 [.int .u64 1,.int .u64 n] O (rS (.tup [.int .u64 0,.int .u64 n]) O):=by
 have a1:binD .and (.int .u64 1) (.int .u64 4294967295)=some (.int .u64 1):=andU 1 (by omega)
 have a0:binD .and (.int .u64 0) (.int .u64 4294967295)=some (.int .u64 0):=andU 0 (by omega)
 have an:=andU n hn
 have s1:∀k,binD .shr (.int .u64 1) (.int k 32)=some (.int .u64 0):=fun k=>shrU k 1 (by omega)
 have s0:∀k,binD .shr (.int .u64 0) (.int k 32)=some (.int .u64 0):=fun k=>shrU k 0 (by omega)
 have sn:=fun k=>shrU k n hn
 have wn:IntKind.u64.wrap (n:Int)=n:=PQ (by omega) (by omega)
 have w0:IntKind.u64.wrap 0=0:=PQ (by omega) (by omega)
 refine en func303 ntmps303 ?_
 refine gf (gi a1 (gi a0 (gi an (gi s1 (gi s0 (gi sn (gi wn w0))))))) ?_
 exact fe2 trivial
@[reducible,instance] def a303:=fun n O=>ah1 (@RO n O)
theorem RZ(n:Nat)(O:Sig)(hn:n<=1073741824:=by exact sd):DCall prog 254 [.int .u64 1,.int .u64 n] O (rS (.tup [.int .u64 0,.int .u64 n]) O):=by
 refine en func254 ntmps254 ?_
 refine gz ?_
 exact fe2 trivial
@[reducible,instance] def a254:=fun n O=>ah1 (@RZ n O)
theorem Sx(n:Nat)(O:Sig)(h1:1<=n)(hn:n<=1048576):DCall prog 198 [.slice [[dI (-1)]] .no,dI n] O fun x U'=> ∃r,O r=none/\x=.ret (.sref r 0 n n)/\U'=O.set r (.cells ((List.replicate n (-1:Int)).map dI)):=by
 have wn:IntKind.u64.wrap (n:Int)=n:=PQ (by omega) (by omega)
 have w1:IntKind.u64.wrap 1=1:=PQ (by omega) (by omega)
 refine en func198 ntmps198 ?_
 refine gf (gi wn w1) ?_ o198
 refine mmake (k:=n) (c:=n) (sz:=1) (z:=[dI 0]) (fun i hi hm=>?_)
 have e0:mS O (some (i,n,(List.replicate (n-n) [dI 0]).flatten)) (List.replicate n [dI 0])=O.set i (.cells (List.replicate n (dI 0))):=by simp[mS]
 rw[e0]
 refine gz ?_ o198
 refine K6 Ad (m:=1) (cs:=[dI (-1)]) (e:=3) (i:=i) (off:=0) (len:=n) (cap:=n) (ds:=List.replicate n (dI 0)) (by decide) (by simp<;>rfl) (by simp) (by simp) tdR (w6 ..) (by simp) (Qb (es:=[[dI (-1)]]) tdR (by simp)) (by rfl) ?_
 have e1:(O.set i (.cells (List.replicate n (dI 0)))).set i (.cells (List.take 0 (List.replicate n (dI 0))++(List.take (min 1 n) [dI (-1)]++List.drop (0+min 1 n) (List.replicate n (dI 0)))))=O.set i (.cells (List.replicate 1 (dI (-1))++List.replicate (n-1) (dI 0))):=by
  rw[Sig.set_set,show min 1 n=1 by omega];simp
 rw[e1,show((min 1 n:Nat):Int)=1 by omega]
 refine gz ?_ o198
 refine Cg [4,7,47] (fun (b:Nat)=>1<=b/\b<=n) (fun b=>[(8,dI b)]) (fun b=>O.set i (.cells (List.replicate b (dI (-1))++List.replicate (n-b) (dI 0)))) (fun b=>n-b) (1) (by omega) (fun b hI=>?_)
 obtain⟨bX,bW⟩:=hI
 by_cases h:b<n
 ·refine gz ?_
  refine Ij (id:=9) [0,1,2,3,4,5,6,7,8,9] [7] O ((Sub.refl _).set hi) ?_
  refine gz ?_ o198
  refine mo_cutL Ad (i:=i) (off:=0) (len:=n) (cap:=n) (lo:=b) (e:=3) (k:=.i64) ?_ (by decide) (by simp<;>rfl) (by simp) tdR tdR (by omega) (by omega)
  rw[show 0+b*(tab 3).size=b by simp]
  refine gz ?_ o198
  refine QJ Ad (i:=i) (off:=0) (len:=n) (cap:=n) (hi:=b) (e:=3) (k:=.i64) ?_ (by decide) (by simp<;>rfl) (by simp) tdR tdR (by omega)
  refine mo1 (fun V2 hZ=>?_) rfl
  have v1:=hZ (.tmp 41) (by simp[Op.operands,Call.operands])
  have v2:=hZ (.tmp 44) (by simp[Op.operands,Call.operands])
  have bU:(List.replicate b (dI (-1))++List.replicate (n-b) (dI 0)).length=n:=by simp;omega
  refine K6 Ad (m:=b) (cs:=((List.replicate b (dI (-1))++List.replicate (n-b) (dI 0)).drop 0).take b) (e:=3) (i:=i) (off:=b) (len:=n-b) (cap:=n-b) (ds:=List.replicate b (dI (-1))++List.replicate (n-b) (dI 0)) (by decide) (by simp<;>rfl) (by simp) (by simp) (by rw[v1];with_unfolding_all rfl) (w6 ..) (by omega) (by rw[v2];exact TZ (off:=0) (w6 ..) (by omega)) (by simp[BB,D.flat]) ?_
  have e2:List.take b (List.replicate b (dI (-1))++List.replicate (n-b) (dI 0))++(List.take (min b (n-b)) (List.take b (List.drop 0 (List.replicate b (dI (-1))++List.replicate (n-b) (dI 0))))++List.drop (b+min b (n-b)) (List.replicate b (dI (-1))++List.replicate (n-b) (dI 0)))=List.replicate (b+min b (n-b)) (dI (-1))++List.replicate (n-(b+min b (n-b))) (dI 0):=by
   have t1:List.take b (List.replicate b (dI (-1))++List.replicate (n-b) (dI 0))=List.replicate b (dI (-1)):=by rw[List.take_append_of_le_length (by simp)];simp
   have t2:List.drop (b+min b (n-b)) (List.replicate b (dI (-1))++List.replicate (n-b) (dI 0))=List.replicate (n-(b+min b (n-b))) (dI 0):=by
    rw[List.drop_append,List.drop_of_length_le (by simp),List.nil_append,List.drop_replicate];congr 1;simp;omega
   rw[List.drop_zero,t1,t2,<-List.append_assoc]
   congr 1
   rw[List.take_replicate,List.replicate_append_replicate];congr 1;omega
  rw[Sig.set_set,e2]
  refine Au ⟨rfl,?_⟩
  refine⟨(Sub.refl _).set hi,?_⟩
  refine gz ?_ o198
  exact⟨b+min b (n-b),by omega,td1,wkR⟩
 ·have hb:b=n:=by omega
  subst hb
  refine gz ?_ o198
  refine fin1 (U':=O.set i (.cells ((List.replicate b (-1)).map dI))) ?_ (hU:=by simp;exact Sub.refl _)
  exact⟨i,hi,rfl,rfl⟩
def OutO{S:Type}(u r:D)(Good:Sig->S->Prop)(Bad:Sig->Prop)(touch:Nat->Prop)(O:Sig):Option S->DE->Sig->Prop
 |none,x,U'=>x=.panic u/\Bad U'
 |some s,x,U'=>x=.ret r/\Good U' s /\ ∀j o,O j=some o->¬touch j->U' j=some o
theorem OutO.ret{S:Type}{u r d:D}{Good:Sig->S->Prop}{Bad:Sig->Prop}{touch:Nat->Prop}{O U':Sig}{o:Option S}(h:OutO u r Good Bad touch O o (.ret d) U'): ∃s,o=some s/\d=r/\Good U' s /\ ∀j o,O j=some o->¬touch j->U' j=some o:=by
 cases o with
 |none=>exact absurd h.1 (by simp)
 |some s=>exact⟨s,rfl,by simpa using h.1,h.2⟩
theorem OutO.pan{S:Type}{u r d:D}{Good:Sig->S->Prop}{Bad:Sig->Prop}{touch:Nat->Prop}{O U':Sig}{o:Option S}(h:OutO u r Good Bad touch O o (.panic d) U'):o=none/\d=u/\Bad U':=by
 cases o with
 |none=>exact⟨rfl,by simpa using h.1,h.2⟩
 |some s=>exact absurd h.1 (by simp)
section
variable {S:Type}
def KL(f:Int->Int->S->Option S)(x:BNode)(size:Int):Nat->List Int->S->Option S
 |_,[],s=>some s
 |j,c::r,s=>match f c (if x.op=9/\j=1 then size+1 else size) s with
  |none=>none
  |some s'=>KL f x size (j+1) r s'
def FT(p:BProg)(step:Nat->Int->Int->S->Option S):Nat->Int->Int->S->Option S
 |0,_,_,_=>none
 |k+1,node,size,s=>match step (k+1) node size s with
  |none=>none
  |some s'=>KL (FT p step k) (A9 p node) size 0 (A9 p node).kids s'
end
theorem RX{S:Type}(p:BProg)(l i:Nat)(Good:Sig->S->Prop)(Bad:Sig->Prop)(touch:Nat->Prop)(step:Nat->Int->Int->S->Option S)(hp:p.wt<=1073741824)(bl:¬touch i)
  (aX:∀node size s,step 0 node size s=none) (aV:∀k node size s s',step k node size s=some s'->0<=node/\node<p.nodes.length)
  (hy:∀(k:Nat) (d node size:Int) O s,d=13-(k:Int)->0<=size->size+k<=1000->Good O s->DYield prog l [dI node,.agg [dI size,dI d]] O (OutO unf (.bool true) Good Bad touch O (step k node size s))) :
  ∀(k:Nat) (d node size:Int) O s,d=13-(k:Int)->0<=size->size+k<=1000->k<=13->Good O s->O i=some (.cells [.func (.func 256) [] [.cptr [.yld l] 0,.cptr (Ai p) 0,.ptr i 0]])->
   DCall prog 256 [dI node,.agg [dI size,dI d],.cptr [.yld l] 0,.cptr (Ai p) 0,.ptr i 0] O (OutO unf (.bool true) Good Bad touch O (FT p step k node size s)):=by
 obtain⟨p1,p2,p3,p4,p5,p6,p7⟩:=p.wt_le
 intro k
 induction k with
 | zero =>
  intro d node size O s hd h0 hsz hk hG hi
  refine en func256 ntmps256 ?_
  refine gz ?_
  refine yldW (hy 0 d node size O s hd h0 hsz hG) (fun e U' hr=>?_) (fun e U' hr=>?_)
  ·rw[aX]at hr;obtain⟨_,h,_⟩:=hr.ret;cases h
  ·obtain⟨_,rfl,hb⟩:=hr.pan
   exact finP (U':=U') ⟨rfl,hb⟩
 | succ k ih =>
  intro d node size O s hd h0 hsz hk hG hi
  refine en func256 ntmps256 ?_
  refine gz ?_ [] [10]
  refine yldW (hy (k+1) d node size O s hd h0 hsz hG) (fun e U' hr=>?_) (fun e U' hr=>?_)
  ·obtain⟨s',aO,rfl,bi,hK⟩:=hr.ret
   obtain⟨bH,bP⟩:=aV _ _ _ _ _ aO
   obtain⟨q,rfl⟩:∃q:Nat,node=(q:Int):=⟨node.toNat,by omega⟩
   have hq:q<p.nodes.length:=by omega
   have aQ:=hK i _ hi bl
   have bb:A9 p q=p.nodes[q]:=by unfold A9;simp[List.getElem?_eq_getElem hq]
   have hW:FT p step (k+1) q size s=KL (FT p step k) p.nodes[q] size 0 (p.nodes[q]).kids s':=by rw[FT,aO];simp only;rw[bb]
   rw[hW]
   have aP:(p.nodes[q]).kids.length<=1073741824:=by have:=p7 q hq;unfold BNode.wt at this;omega
   generalize hx:p.nodes[q]=x at*
   refine gf hx ?_ [] [10]
   refine Ft [0,3,4,6,21,22] (fun (j:Nat) (s1:S) (U1:Sig)=>j<=x.kids.length/\Good U1 s1/\KL (FT p step k) x size 0 x.kids s'=KL (FT p step k) x size j (x.kids.drop j) s1/\(∀j o,O j=some o->¬touch j->U1 j=some o)) (fun j _ _=>[(23,dI j)]) (fun _ _ U1=>U1) (fun j _ _=>x.kids.length-j) (0) (s') (U') (by exact⟨by omega,bi,by simp,hK⟩) (fun j s1 U1 hI=>?_)
   obtain⟨hj,aJ,hR,aq⟩:=hI
   have ay:=aq i _ hi bl
   by_cases bt:j<x.kids.length
   ·rw [Ab bt,KL] at hR
    have bQ:(k:Int)<=12:=by omega
    refine gf (gi hx ay) ?_ [] [10]
    refine newV (fun a ha=>?_)
    have bx:i≠a:=fun e=>by rw[e,ha]at ay;cases ay
    have hz:0<=(if x.op=9/\j=1 then size+1 else size)/\(if x.op=9/\j=1 then size+1 else size)+(k:Int)<=1000:=by split<;>omega
    have hc:=ih (d+1) x.kids[j] (if x.op=9/\j=1 then size+1 else size) U1 s1 (by omega) hz.1 hz.2 (by omega) aJ ay
    by_cases hl:x.op=9/\j=1
    ·rw[if_pos hl]at hR hc
     obtain⟨aE,rfl⟩:=hl
     refine gf (gi hx (gi ay (gi aE bx))) ?_ [] [10]
     refine drp U1 ?_
     refine A7 hc (fun e U2 hr=>?_) (fun e U2 hr=>?_)
     ·obtain⟨s2,aW,rfl,bh,bf⟩:=hr.ret
      rw[aW]at hR
      refine gz ?_ [] [10]
      exact⟨1+1,s2,U2,⟨by omega,bh,hR,fun j o h1 h2=>bf _ _ (aq _ _ h1 h2) h2⟩,td1,wkR⟩
     ·obtain⟨hn,rfl,hb⟩:=hr.pan
      rw[hn]at hR;rw[hR]
      exact finP (U':=U2) ⟨rfl,hb⟩
    ·rw[if_neg hl]at hR hc
     have br:¬(x.op=9/\(j:Int)=1):=by omega
     repeat' first|refine gf (gi hx (gi ay bx)) ?_ [] [10]|apply gy<;>intro hh
     all_goals
      refine drp U1 ?_
      refine A7 hc (fun e U2 hr=>?_) (fun e U2 hr=>?_)
      ·obtain⟨s2,aW,rfl,bh,bf⟩:=hr.ret
       rw[aW]at hR
       refine gz ?_ [] [10]
       exact⟨j+1,s2,U2,⟨by omega,bh,hR,fun j o h1 h2=>bf _ _ (aq _ _ h1 h2) h2⟩,td1,wkR⟩
      ·obtain⟨hn,rfl,hb⟩:=hr.pan
       rw[hn]at hR;rw[hR]
       exact finP (U':=U2) ⟨rfl,hb⟩
   ·rw[Aj bt,KL]at hR
    rw[hR]
    refine gf hx ?_ [] [10]
    refine fin1 (U':=U1) ?_
    exact⟨rfl,aJ,aq⟩
  ·obtain⟨aO,rfl,hb⟩:=hr.pan
   have hW:FT p step (k+1) node size s=none:=by rw[FT,aO]
   rw[hW]
   exact finP (U':=U') ⟨rfl,hb⟩
def Keep(touch:Nat->Prop)(O U':Sig):Prop:= ∀j o,O j=some o->¬touch j->U' j=some o
theorem Keep.refl(touch:Nat->Prop)(O:Sig):Keep touch O O:=fun _ _ h _=>h
theorem Keep.trans{touch:Nat->Prop}{a b c:Sig}(h:Keep touch a b)(k:Keep touch b c):Keep touch a c:=fun j o h1 h2=>k _ _ (h _ _ h1 h2) h2
theorem Keep.fresh{touch:Nat->Prop}{a b:Sig}(h:Keep touch a b){i:Nat}{o:DObj}(hi:a i=none):Keep touch a (b.set i o):=fun j x h1 h2=>by
 rw[w7 _ _ fun e=>by rw[e,hi]at h1;cases h1];exact h _ _ h1 h2
theorem RY{S:Type}(p:BProg)(l:Nat)(Good:Sig->S->Prop)(Bad:Sig->Prop)(touch:Nat->Prop)(step:Nat->Int->Int->S->Option S)(hp:p.wt<=1073741824)
  (aX:∀node size s,step 0 node size s=none) (aV:∀k node size s s',step k node size s=some s'->0<=node/\node<p.nodes.length)
  (hy:∀(k:Nat) (d node size:Int) O s,d=13-(k:Int)->0<=size->size+k<=1000->Good O s->DYield prog l [dI node,.agg [dI size,dI d]] O (OutO unf (.bool true) Good Bad touch O (step k node size s)))
  (hm : ∀ O s a o,Good O s->O a=none->Good (O.set a o) s) (k:Nat) (d node size:Int) (O:Sig) (s:S) (ht : ∀ a,O a=none -> ¬ touch a) (hd:d=13-(k:Int)) (h0:0<=size) (hsz:size+k<=1000) (hk:k<=13) (hG:Good O s) :
   DCall prog 255 [.yld l,.cptr (Ai p) 0,.cptr [dI node] 0,.cptr [dI size,dI d] 0] O (OutO unf (.tup []) Good Bad touch O (FT p step k node size s)):=by
 refine en func255 ntmps255 ?_
 refine gz ?_ [] [5]
 refine newV (fun a ha=>?_)
 refine gz ?_ [] [5]
 refine A7 (RX p l a Good Bad touch step hp (ht a ha) aX aV hy k d node size (O.set a _) s hd h0 hsz hk (hm _ _ _ _ hG ha) (w6 ..)) (fun e U' hr=>?_) (fun e U' hr=>?_)
 ·obtain⟨s',bE,rfl,bi,hK⟩:=hr.ret
  rw[bE]
  refine gz ?_ [] [5]
  refine DZ (U':=U') ?_
  exact⟨rfl,bi,fun j o h1 h2=>hK j o (by rw[w7 _ _ fun e=>by rw[e,ha]at h1;cases h1];exact h1) h2⟩
 ·obtain⟨hn,rfl,hb⟩:=hr.pan
  rw[hn]
  exact finP (U':=U') ⟨rfl,hb⟩
theorem Sw(p:BProg)(node size d:Int)(O:Sig):DCall prog 200 [.agg (Ai p),dI node,.agg [dI size,dI d]] O (rS (.func (.func 255) [] [.cptr (Ai p) 0,.cptr [dI node] 0,.cptr [dI size,dI d] 0]) O):=by
 refine en func200 ntmps200 ?_
 refine gz ?_
 exact fe1 trivial
@[reducible,instance] def a200:=fun p node size d O=>ah0 (@Sw p node size d O)
theorem Rw(p:BProg)(x:BNode)(k:Int)(O:Sig):DCall prog 413 [dI k,.agg (Ai p),.agg (Kf x)] O (rS (dI k) O):=by
 refine en func413 ntmps413 ?_
 refine gz ?_
 exact fe1 trivial
theorem Rv(p:BProg)(x:BNode)(O:Sig)(h0:0<=x.n:=by exact sd)(h1:x.n<p.gens.length:=by exact sd)(hl:p.gens.length<=1073741824:=by exact sd):DCall prog 414 [.agg [],.agg (Ai p),.agg (Kf x)] O (rS (dI (p.gens.getD x.n.toNat 0)) O):=by
 refine en func414 ntmps414 ?_
 obtain⟨q,hq⟩:∃q:Nat,x.n=(q:Int):=⟨x.n.toNat,by omega⟩
 have bF:q<p.gens.length:=by omega
 have hg:p.gens.getD x.n.toNat 0=p.gens[q]:=by rw[hq,List.getD_eq_getElem?_getD];simp[bF]
 rw[hg]
 refine gf hq ?_
 exact fe1 trivial
theorem meth413 : OM prog 276 "consort/bind.many" 413 := by
 intro v w;kernel_rfl
theorem meth414 : OM prog 277 "consort/bind.many" 414 := by
 intro v w;kernel_rfl
theorem Vx{ro:Ro}{n:Nat}{ops:Array Oper}{N:Nat}{S0 O:Sig}{Q:DX->St->Prop}{df:List DDf}{γ Sr:Fr}{t:Nat}{ty:TypeId}{pos:String}{after:Array Edge}{l:List (Bool×Oper)}{d e:D}{rv:Operand}{name:String}{args:Array Operand}{ats:Array TypeId}{f T:Nat}{us:List D}(hM:OM prog T name f)(h:DCall prog f (d::us) O (rS e O))(k:MO prog ro n ops N S0 Q df l ((t,e)::γ) O)
  (hl:A0 γ (A5 (rv::args.toList))=some Sr:=by exact tdR) (hx:ev Sr rv=.iface T d:=by exact tdR) (ha:args.toList.map (ev Sr)=us:=by exact tdR) (bk:decide (t<n)=true:=by exact tdR) (hC:Sub S0 O:=by first|exact Sub.refl _|assumption) :
  MO prog ro n ops N S0 Q df ((true,⟨some t,.call { callee:=.invoke rv name,args,argTypes:=ats },ty,pos,after,none⟩)::l) γ O:=by
 refine mo1 (fun V2 hZ=>?_) bk
 have he:∀x∈rv::args.toList,ev V2 x=ev Sr x:=fun x hx=>by
  rw[hZ x (by simpa[Op.operands,Call.operands] using hx)]
  exact(B2 fun t ht=>Aq hl t (Ax (by rw[<-ht];exact hx))).symm
 refine Ns rfl (by rw[he rv (by simp)];exact hx) hM h ?_ (by simpa[Ar] using bk) (fun d' U' ⟨e1,e2⟩=>?_) (fun d' U' ⟨e1,e2⟩=>by cases e1)
 ·rw[show args.toList.map (ev V2)=args.toList.map (ev Sr) from List.map_congr_left fun x h=>he x (by simp[h]),ha]
  exact CO _
 ·cases e1;subst e2
  exact Au ⟨rfl,by simp only[putD,A4,if_true];exact⟨hC,k⟩⟩
def Hs(p:BProg)(inM:Bool):Nat->Int->Int->List Int->Option (List Int)
 |0,_,_,_=>none
 |_+1,node,size,s=>
  if node<0\/(p.nodes.length:Int)<=node\/0<=s.getD node.toNat 0 then none else
  if((A9 p node).kids.length:Int)≠CI p (A9 p node)\/CH p (A9 p node) size=false\/((A9 p node).op=18/\inM=false) then none else some (s.set node.toNat size)
def optW:Bool×List Int->Option (List Int)
 |(true,s)=>some s
 |(false,_)=>none
theorem JM(f:Int->Int->List Int->Bool×List Int)(x:BNode)(size:Int): ∀(j:Nat) (l s:List Int),KL (fun a b c=>optW (f a b c)) x size j l s=optW (Cr f x size j l s)
 |_,[],s=>rfl
 | j,c::r,s=>by
  rw[KL,Cr]
  cases h:f c (if x.op=9/\j=1 then size+1 else size) s with
  |mk b s'=>cases b with
   |false=>rfl
   |true=>simp only[optW];exact JM f x size (j+1) r s'
theorem Ju(p:BProg)(inM:Bool): ∀(k:Nat) (node size:Int) (s:List Int),FT p (Hs p inM) k node size s=optW (DJ p inM k node size s)
 |0,_,_,_=>rfl
 | k+1,node,size,s=>by
  rw[FT,DJ,Hs]
  by_cases h1:node<0\/(p.nodes.length:Int)<=node\/0<=s.getD node.toNat 0
  ·rw[if_pos h1,if_pos h1];rfl
  ·rw[if_neg h1,if_neg h1]
   by_cases h2:((A9 p node).kids.length:Int)≠CI p (A9 p node)\/CH p (A9 p node) size=false\/((A9 p node).op=18/\inM=false)
   ·rw[if_pos h2,if_pos h2];rfl
   ·rw[if_neg h2,if_neg h2]
    have e:FT p (Hs p inM) k=fun a b c=>optW (DJ p inM k a b c):=by funext a b c;exact Ju p inM k a b c
    simp only[e]
    exact JM _ _ _ _ _ _
theorem K1{P:Program}{n:Nat}{Q:DX->St->Prop}{γ:Fr}{O:Sig}{df:List DDf}{gop:Operand}{ps:Array Tmp}{asg body:Code}{f:Nat}{first cap:List D}{S:Type}{u:D}(G:Nat->Sig->S->Prop)(Bad:Nat->Sig->Prop)(touch:Nat->Prop)(o:Option S)
  (hf:ev γ gop=.func (.func f) first cap)
  (aI:∀l did,O did=none->O l=none->l≠did->∀LO,LO=DObj.loop .ready none ps asg body n γ did->DCall P f (first++[.yld l]++cap) ((O.set did .defs).set l LO) (OutO u (.tup []) (fun U' s=>U' l=some LO/\G did U' s) (Bad did) touch ((O.set did .defs).set l LO) o))
  (aY:∀l did s U',o=some s->O did=none->O l=none->l≠did->G did U' s->Q .normal ⟨γ,U'.del l,.coll did::df⟩)
  (a8:∀did U',o=none->O did=none->Bad did U'->Q (.panic u) ⟨γ,U',.coll did::df⟩) :
  DWp P .none n (.rangeFunc gop ps asg body) Q ⟨γ,O,df⟩:=by
 refine GB (R:=fun l did=>OutO u (.tup []) (fun U' s=>U' l=some (DObj.loop .ready none ps asg body n γ did)/\G did U' s) (Bad did) touch ((O.set did .defs).set l (DObj.loop .ready none ps asg body n γ did)) o) hf (fun l did h1 h2 h3=>aI l did h1 h2 h3 _ rfl) (fun l did d U' h1 h2 h3 hr=>?_) (fun l did d U' h1 h2 h3 hr=>?_)
 ·obtain⟨s,hs,rfl,⟨hl,hG⟩,hK⟩:=hr.ret
  exact⟨_,_,hl,by simp,aY l did s U' hs h1 h2 h3 hG⟩
 ·obtain⟨hn,rfl,hb⟩:=hr.pan
  exact a8 did U' hn h1 hb
theorem endM{P:Program}{n:Nat}{fn:Func}{R:DE->Sig->Prop}{γ:Fr}{O:Sig}{did:Nat}(h:R (.ret (.tup [])) (O.del did))(hd:O did=some .defs)(hr:fn.results=#[]:=by rfl): ∃s',Wk P n ⟨γ,O,[.coll did]⟩ s'/\PP P n fn (Weak R) .normal s':=
 ⟨_,Wk.refl _ _ _,[did],rfl,by simp,by simp[hd],.tup [],CQ (by simp[resD,hr]),DI h⟩
theorem endMP{P:Program}{n:Nat}{fn:Func}{R:DE->Sig->Prop}{γ:Fr}{O:Sig}{did:Nat}{d:D}(h:R (.panic d) (O.del did))(hd:O did=some .defs): ∃s',Wk P n ⟨γ,O,[.coll did]⟩ s'/\PP P n fn (Weak R) (.panic d) s':=
 ⟨_,Wk.refl _ _ _,[did],rfl,by simp,by simp[hd],DI h⟩
theorem Keep.del{touch:Nat->Prop}{a b:Sig}(h:Keep touch a b){i:Nat}(hi:a i=none):Keep touch a (b.del i):=fun j x h1 h2=>by
 have e:j≠i:=fun e=>by rw[e,hi]at h1;cases h1
 simp only[Sig.del,e,if_false];exact h _ _ h1 h2
theorem Keep.base{touch:Nat->Prop}{a b:Sig}{i:Nat}{o:DObj}(h:Keep touch (a.set i o) b)(hi:a i=none):Keep touch a b:=fun j x h1 h2=>
 h _ _ (by rw[w7 _ _ fun e=>by rw[e,hi]at h1;cases h1];exact h1) h2
def CA:DObj->DObj
 |.loop _ _ ps a b n γ d=>.loop .busy none ps a b n γ d
 |o=>o
def doneO(c:Code):DObj->DObj
 |.loop _ _ ps a b n γ d=>.loop .done (some c) ps a b n γ d
 |o=>o
def OL(l:Nat)(LO:DObj)(R:DE->Sig->Prop):DX->St->Prop
 |.normal,s=>s.O l=some (CA LO)/\R (.ret (.bool true)) (s.O.set l LO)
 |.ret,s=>s.O l=some (CA LO)/\R (.ret (.bool false)) (s.O.set l (doneO .ret LO))
 |.panic d,s=>s.df=[]/\R (.panic d) s.O
 |.exit id,s=>s.O l=some (CA LO)/\R (.ret (.bool false)) (s.O.set l (doneO (.exit id) LO))
theorem Np{P:Program}{l:Nat}{args:List D}{O:Sig}{R:DE->Sig->Prop}{ps:Array Tmp}{asg body:Code}{n:Nat}{Sl:Fr}{did:Nat}{LO:DObj}(aS:LO=.loop .ready none ps asg body n Sl did)(hU:O l=some LO)
  (h:DWp P (.some l) n asg (Then (fun s=>s.O l=some LO/\DWp P (.some l) n body (OL l LO R) { s with O:=s.O.set l (CA LO) }) (fun _ _=>False)) ⟨OI ps.toList args Sl,O,[]⟩) (hl:ps.toList.length=args.length:=by rfl) (hp:∀p∈ps.toList,p<n:=by decide):DYield P l args O R:=by
 subst aS
 refine KU hU hl hp ?_
 have e:OL l (.loop .ready none ps asg body n Sl did) R=VN l ps asg body n Sl did R:=by funext x s;cases x<;>rfl
 rw[<-e]
 exact h
theorem IG (p:BProg) (io r:Nat) (inM:Bool) (node size:Int) (s:List Int) (O:Sig) (hp:p.wt<=1073741824) (aH:O io=some (.cells [.sref r 0 p.nodes.length p.nodes.length])) (hr:O r=some (.cells (s.map dI))) (hs:s.length=p.nodes.length) (hne:io ≠ r) (hz:0<=size) (bB:size<=900) :
  DCall prog 199 [dI node,dI size,.bool inM,.cptr (Ai p) 0,.ptr io 0] O (OutO unf (.tup []) (fun U' s'=>U' r=some (.cells (s'.map dI))/\s'.length=p.nodes.length/\Keep (· = r) O U') (fun U'=>Keep (· = r) O U') (· = r) O (optW (DJ p inM 12 node size s))):=by
 obtain⟨p1,p2,p3,p4,p5,p6,p7⟩:=p.wt_le
 rw[<-Ju]
 refine Es func199 rfl (by decide) ntmps199 (by simp) ?_
 refine gz ?_ o199
 refine K1 (u:=unf) (fun did U' s'=>U' r=some (.cells (s'.map dI))/\s'.length=p.nodes.length/\Keep (· = r) (O.set did .defs) U') (fun did U'=>Keep (· = r) (O.set did .defs) U') (· = r) (FT p (Hs p inM) 12 node size s) rfl (fun l did hd hl bc LO aS=>?_) (fun l did s' U' ho hd hl bc hG=>?_) (fun did U' ho hd hb=>?_)
 ·have aD:r ≠ did:=fun e=>by rw [e,hd] at hr;cases hr
  have bp:io≠did:=fun e=>by rw[e,hd]at aH;cases aH
  rw[<-w7 O DObj.defs bp]at aH
  rw[<-w7 O DObj.defs aD]at hr
  rw[<-w7 O DObj.defs bc]at hl
  clear hd aD bp
  generalize O.set did .defs=Sd at*
  refine RY p l _ _ _ (Hs p inM) hp (fun _ _ _=>rfl) (fun k node size s s' h=>by
   cases k with
   |zero=>cases h
   |succ k=>
    rw[Hs]at h
    split at h
    ·cases h
    ·omega) (fun k d node size U1 s1 hd bJ bB hG=>?_) (fun U1 s1 a o hG ha=>?_) 12 1 node size _ s (fun a ha e=>?_) (by omega) hz (by omega) (by omega) ?_
  ·obtain ⟨aE,aj,bD,aq⟩:=hG
   refine Np aS aE ?_
   clear aS
   refine gz ?_ o199
   refine⟨aE,?_⟩
   have ae:=aq io _ aH hne
   have aa:l≠io:=fun e=>by rw[e,aH]at hl;cases hl
   have ag:l≠r:=fun e=>by rw[e,hr]at hl;cases hl
   have aT:=aq.fresh (o:=CA LO) hl
   cases k with
   |zero=>
    repeat' first|(exact⟨rfl,rfl,aT⟩)|refine gf (gi ae (gi aj (gi aa (gi ag hne)))) ?_ o199|apply gy<;>intro hh
   | succ k =>
    by_cases hn:node<0\/(p.nodes.length:Int)<=node
    ·have hS:Hs p inM (k+1) node size s1=none:=by rw[Hs,if_pos (by omega)]
     rw[hS]
     repeat' first|(exact⟨rfl,rfl,aT⟩)|refine gf (gi ae (gi aj (gi aa (gi ag hne)))) ?_ o199|apply gy<;>intro hh
    ·obtain ⟨q,rfl⟩ : ∃ q:Nat,node=(q:Int):=⟨node.toNat,by omega⟩
     have hq:q<p.nodes.length:=by omega
     have bm:q<s1.length:=by omega
     have ak:s1.getD ((q:Int)).toNat 0=s1[q]:=by simp[List.getD_eq_getElem?_getD,bm]
     by_cases h2:0<=s1[q]
     ·have hS:Hs p inM (k+1) q size s1=none:=by rw[Hs,if_pos (by rw[ak];omega)]
      rw[hS]
      repeat' first|(exact⟨rfl,rfl,aT⟩)|refine gf (gi ae (gi aj (gi aa (gi ag hne)))) ?_ o199|apply gy<;>intro hh
     ·have bb:A9 p q=p.nodes[q]:=by unfold A9;simp [hq]
      have hS:Hs p inM (k+1) q size s1=if((p.nodes[q]).kids.length:Int)≠CI p p.nodes[q]\/CH p p.nodes[q] size=false\/((p.nodes[q]).op=18/\inM=false) then none else some (s1.set q size):=by
       rw[Hs,if_neg (by rw[ak];omega),bb];simp
      have aP:(p.nodes[q]).kids.length<=1073741824:=by have:=p7 q hq;unfold BNode.wt at this;omega
      generalize hx:p.nodes[q]=x at*
      have aA:∀o,Keep (· = r) Sd ((U1.set l (CA LO)).set r o):=fun o j x h1 h2=>by rw[w7 _ _ h2];exact aT j x h1 h2
      cases ap:CH p x size with
      |false=>
       rw[if_pos (.inr (.inl ap))]at hS
       rw[hS]
       repeat' first|(exact⟨rfl,rfl,aA _⟩)|refine gf (gi ae (gi aj (gi aa (gi ag (gi hne (gi hx ap)))))) ?_ o199|apply gy<;>intro hh
      | true =>
       by_cases aU:x.op=18/\inM=false
       ·rw[if_pos (.inr (.inr aU))]at hS
        rw[hS]
        repeat' first|(exact⟨rfl,rfl,aA _⟩)|refine gf (gi ae (gi aj (gi aa (gi ag (gi hne (gi hx (gi ap aU.2))))))) ?_ o199|apply gy<;>intro hh
        all_goals exact absurd aU.1 (by assumption)
       ·
        repeat' first|refine gf (gi ae (gi aj (gi aa (gi ag (gi hne (gi hx ap)))))) ?_ o199|apply gy<;>intro hh
        all_goals try (exfalso;grind)
        all_goals
         have aK:CH p x size=false\/(x.op=18/\inM=false)->False:=fun h=>h.elim (by rw[ap];simp) aU
         have am:(((U1.set l (CA LO)).set r (.cells (List.take q (List.map dI s1)++dI size::List.drop (q+1) (List.map dI s1)))) l=some (CA LO)) /\
           (fun U'=>(U' l=some LO/\U' r=some (.cells ((s1.set q size).map dI))/\(s1.set q size).length=p.nodes.length/\Keep (· = r) Sd U')/\Keep (· = r) U1 U') (((U1.set l (CA LO)).set r (.cells (List.take q (List.map dI s1)++dI size::List.drop (q+1) (List.map dI s1)))).set l LO):=by
          refine⟨by rw[w7 _ _ ag,w6],⟨w6 ..,?_,by simpa using bD,fun j o h1 h2=>?_⟩,fun j o h1 h2=>?_⟩
          ·rw[w7 _ _ (Ne.symm ag),w6,List.map_set,List.set_eq_take_append_cons_drop,if_pos (by simpa using bm)]
          ·rw[w7 _ _ fun e=>by rw[e,hl]at h1;cases h1];exact aA _ j o h1 h2
          ·by_cases hj:j=l
           ·rw[hj]at h1⊢; rw[w6,<-h1,aE]
           ·rw[w7 _ _ hj,w7 _ _ h2,w7 _ _ hj];exact h1
         cases hk:LL x.op with
         | some kk =>
          have aG:DM x.op=.iface 276 (dI kk):=by unfold DM;rw[hk]
          have aF:CI p x=kk:=by unfold CI;rw[hk]
          rw[aF]at hS
          refine gf (gi aG (gi ae (gi aj (gi aa (gi ag (gi hne hx)))))) ?_ o199
          refine Vx meth413 (Rw p x kk _) ?_
          repeat' first|refine gz ?_ o199|apply gy<;>intro hh
          ·have h6:=hh
           rw[hS,if_neg (fun h=>h.elim (fun h=>h h6) aK)]
           exact⟨am.1,rfl,am.2⟩
          ·have h6:=hh
           rw[hS,if_pos (.inl h6)]
           exact⟨rfl,rfl,aA _⟩
         | none =>
          by_cases h5:x.op=5
          ·have aG:DM x.op=.iface 277 (.agg []):=by unfold DM;rw[hk];simp[h5]
           have ba:0<=x.n/\x.n<p.gens.length:=by simpa[CH,h5] using ap
           have aF:CI p x=p.gens[x.n.toNat]'(by omega):=by unfold CI;rw[hk];simp[h5,ba,List.getD_eq_getElem?_getD,show x.n.toNat<p.gens.length by omega]
           rw[aF]at hS
           refine gf (gi aG (gi ae (gi aj (gi aa (gi ag (gi hne hx)))))) ?_ o199
           refine Vx meth414 (Rv p x _ ba.1 ba.2) ?_
           repeat' first|refine gz ?_ o199|apply gy<;>intro hh
           ·have h6:=hh
            rw[hS,if_neg (fun h=>h.elim (fun h=>h h6) aK)]
            exact⟨am.1,rfl,am.2⟩
           ·have h6:=hh
            rw[hS,if_pos (.inl h6)]
            exact⟨rfl,rfl,aA _⟩
          ·have aG:DM x.op=.niliface:=by unfold DM;rw[hk];simp[h5]
           have aF:CI p x = -1:=by unfold CI;rw[hk];simp[h5]
           rw[hS,if_pos (.inl (by rw[aF];omega))]
           repeat' first|(exact⟨rfl,rfl,aA _⟩)|refine gf (gi aG (gi ae (gi aj (gi aa (gi ag (gi hne hx)))))) ?_ o199|apply gy<;>intro hh
  ·obtain⟨g1,g2,g3,g4⟩:=hG
   refine⟨by rw[w7 _ _ fun e=>by rw[e,ha]at g1;cases g1];exact g1,by rw[w7 _ _ fun e=>by rw[e,ha]at g2;cases g2];exact g2,g3,fun j x h1 h2=>?_⟩
   have:=g4 j x h1 h2
   rw[w7 _ _ fun e=>by rw[e,ha]at this;cases this];exact this
  ·have aC:r≠l:=fun e=>by rw[e,hl]at hr;cases hr
   subst e
   rw[w7 _ _ aC,hr]at ha;cases ha
  ·have aC:r≠l:=fun e=>by rw[e,hl]at hr;cases hr
   exact⟨w6 .., by rw[w7 _ _ aC];exact hr,hs,(Keep.refl _ Sd).fresh hl⟩
 ·rw[ho]
  have aC:r≠l:=fun e=>by rw[e,hl]at hr;cases hr
  have aD:r≠did:=fun e=>by rw[e,hd]at hr;cases hr
  have be:¬did=r:=Ne.symm aD
  refine gz ?_ o199
  have hk:=((hG.2.2.base hd).del hl).del hd
  refine endM ⟨rfl,⟨by simp[Sig.del,aD,aC];exact hG.1,hG.2.1,hk⟩,hk⟩ ?_
  simp only[Sig.del,Ne.symm bc,if_false]
  exact hG.2.2 did _ (w6 ..) be
 ·rw[ho]
  have be:¬did=r:=fun e=>by rw[<-e,hd]at hr;cases hr
  exact endMP ⟨rfl,(hb.base hd).del hd⟩ (hb did _ (w6 ..) be)
def anyS{α S:Type}(f:α->S->Bool×S):List α->S->Bool×S
 |[],s=>(false,s)
 |x::r,s=>match f x s with
  |(true,s')=>(true,s')
  |(false,s')=>anyS f r s'
def allS{α S:Type}(f:α->S->Bool×S):List α->S->Bool×S
 |[],s=>(true,s)
 |x::r,s=>match f x s with
  |(false,s')=>(false,s')
  |(true,s')=>allS f r s'
theorem L7{α S:Type}(f:α->S->Bool×S): ∀(l:List α) (s:S),allS f l s=(!(anyS (fun x s=>(!(f x s).1,(f x s).2)) l s).1,(anyS (fun x s=>(!(f x s).1,(f x s).2)) l s).2)
 |[],s=>rfl
 |x::r,s=>by
  rw[allS,anyS]
  rcases h:f x s with⟨b,s'⟩
  cases b
  ·simp
  ·simp only[Bool.not_true];exact L7 f r s'
theorem JY(l:List Int)(q:Int->Bool)(g:Nat)(first cap:List D)(o:Own)(O:Sig)(hl:l.length<=1073741824)
  (hg:∀x∈l,DCall prog g (first++dI x::cap) O fun r S''=>r=.ret (.bool (q x))/\S''=O) :
  DCall prog 230 [.slice (cI l) o,.func (.func g) first cap] O (rS (dI (idxF q l 0)) O):=by
 refine en func230 ntmps230 ?_
 refine gz ?_
 refine Cg [0,1,7] (fun (k:Nat)=>k<=l.length/\idxF q l 0=idxF q (l.drop k) k) (fun k=>[(8,dI k)]) (fun _=>O) (fun k=>l.length-k) (0) td3 (fun k hI=>?_)
 obtain⟨hk,hR⟩:=hI
 by_cases h:k<l.length
 ·rw[Ab h,idxF]at hR
  repeat' first|refine Cb (hg (l[k]) (List.getElem_mem h)) ?_|refine callP (hg (l[k]) (List.getElem_mem h)) ?_|refine gf h ?_|apply gy<;>intro hh
  ·exact fe1 hR
  ·exact⟨k+1,⟨by omega,by rw[hR,hh];rfl⟩,td1,wkR⟩
 ·refine gf h ?_
  (refine fin1 (U':=O) ?_;exact⟨by first|rfl|(simp[hR,Aj h,idxF];done)|(simp_all [hR,Aj h,idxF];done)|(rw[Ag,Bool.eq_iff_iff];simp_all [hR,Aj h,idxF]<;>omega),rfl⟩)
theorem JZ(l:List Int)(q:Int->Bool)(g:Nat)(first cap:List D)(o:Own)(O:Sig)(hl:l.length<=1073741824)
  (hg:∀x∈l,DCall prog g (first++dI x::cap) O fun r S''=>r=.ret (.bool (q x))/\S''=O) :
  DCall prog 151 [.slice (cI l) o,.func (.func g) first cap] O (rS (.bool (l.any q)) O):=by
 refine en func151 ntmps151 ?_
 repeat' first|refine gz ?_|refine Cb (JY l q g first cap o O hl hg) ?_|refine callP (JY l q g first cap o O hl hg) ?_|refine gz ?_|apply gy<;>intro hh
 (refine fin1 (U':=O) ?_;exact⟨by first|rfl|(simp[Dc];done)|(simp_all [Dc];done)|(rw[Ag,Bool.eq_iff_iff];simp_all [Dc]<;>omega),rfl⟩)
theorem JU(q:Int->Bool)(g:Nat)(first cap:List D)(x:Int)(O:Sig)
  (hg:DCall prog g (first++dI x::cap) O fun r S''=>r=.ret (.bool (q x))/\S''=O) :
  DCall prog 370 [dI x,.cptr [.func (.func g) first cap] 0] O (rS (.bool (!q x)) O):=by
 refine en func370 ntmps370 ?_
 repeat' first|refine Cb (hg) ?_|refine callP (hg) ?_|refine gz ?_|apply gy<;>intro hh
 exact fe1 trivial
theorem Fi(l:List Int)(q:Int->Bool)(g:Nat)(first cap:List D)(o:Own)(O:Sig)(hl:l.length<=1073741824)
  (hg:∀x∈l,DCall prog g (first++dI x::cap) O fun r S''=>r=.ret (.bool (q x))/\S''=O) :
  DCall prog 346 [.slice (cI l) o,.func (.func g) first cap] O (rS (.bool (l.all q)) O):=by
 refine en func346 ntmps346 ?_
 repeat' first|refine gz ?_|refine Cb (JZ l (fun x=> !q x) 370 [] [.cptr [.func (.func g) first cap] 0] o O hl (fun x hx=>JU q g first cap x O (hg x hx))) ?_|refine callP (JZ l (fun x=> !q x) 370 [] [.cptr [.func (.func g) first cap] 0] o O hl (fun x hx=>JU q g first cap x O (hg x hx))) ?_|refine gz ?_|apply gy<;>intro hh
 (refine fin1 (U':=O) ?_;exact⟨by first|rfl|(simp[List.not_all_eq_any_not];done)|(simp_all [List.not_all_eq_any_not];done)|(rw[Ag,Bool.eq_iff_iff];simp_all [List.not_all_eq_any_not]<;>omega),rfl⟩)
theorem Ry{S:Type}(l:List Fact)(f:Fact->S->Bool×S)(g:Nat)(first cap:List D)(o:Own)(Good:Sig->S->Prop)(hl:l.length<=1073741824)
  (hg:∀x∈l, ∀O s,Good O s->DCall prog g (first ++ .agg (D3 x)::cap) O fun r U'=>r=.ret (.bool (f x s).1)/\Good U' (f x s).2) (O:Sig) (s:S) (hG:Good O s) :
  DCall prog 387 [.slice (l.map D3) o,.func (.func g) first cap] O fun x U'=> ∃i:Int,x=.ret (dI i)/\decide (0<=i)=(anyS f l s).1/\Good U' (anyS f l s).2:=by
 refine en func387 ntmps387 ?_
 refine gz ?_
 refine Ft [0,1,7] (fun (k:Nat) (s1:S) (U1:Sig)=>k<=l.length/\Good U1 s1/\anyS f l s=anyS f (l.drop k) s1) (fun k _ _=>[(8,dI k)]) (fun _ _ U1=>U1) (fun k _ _=>l.length-k) (0) (s) (O) (by exact⟨by omega,hG,rfl⟩) (fun k s1 U1 hI=>?_)
 obtain⟨hk,aJ,hR⟩:=hI
 by_cases h:k<l.length
 ·rw[Ab h,anyS]at hR
  refine gf h ?_
  refine A7 (hg (l[k]) (List.getElem_mem h) U1 s1 aJ) (fun e U2 hr=>?_) (fun e U2 hr=>?_)
  ·obtain⟨h1,h2⟩:=hr
   simp only[DE.ret.injEq]at h1
   subst h1
   rcases hf:f l[k] s1 with⟨b,s2⟩
   rw[hf]at hR h2
   cases b
   ·refine gz ?_
    exact⟨k+1,s2,U2,⟨by omega,h2,hR⟩,td1,wkR⟩
   ·refine gz ?_
    refine fin1 (U':=U2) ?_
    exact⟨k,rfl,by rw[hR];simp,by rw[hR];exact h2⟩
  ·cases hr.1
 ·rw[Aj h,anyS]at hR
  refine gf h ?_
  refine fin1 (U':=U1) ?_
  exact⟨-1,rfl,by rw[hR];rfl,by rw[hR];exact aJ⟩
theorem RD{S:Type}(l:List Fact)(f:Fact->S->Bool×S)(g:Nat)(first cap:List D)(o:Own)(Good:Sig->S->Prop)(hl:l.length<=1073741824)
  (hg:∀x∈l, ∀O s,Good O s->DCall prog g (first ++ .agg (D3 x)::cap) O fun r U'=>r=.ret (.bool (f x s).1)/\Good U' (f x s).2) (O:Sig) (s:S) (hG:Good O s) :
  DCall prog 371 [.slice (l.map D3) o,.func (.func g) first cap] O fun x U'=>x=.ret (.bool (anyS f l s).1)/\Good U' (anyS f l s).2:=by
 refine en func371 ntmps371 ?_
 refine gz ?_
 refine A7 (Ry l f g first cap o Good hl hg O s hG) (fun e U2 hr=>?_) (fun e U2 hr=>?_)
 ·obtain⟨i,h1,h2,h3⟩:=hr
  simp only[DE.ret.injEq]at h1
  subst h1
  refine gz ?_
  refine fin1 (U':=U2) ?_
  exact⟨by rw[<-h2],h3⟩
 ·obtain⟨i,h1,_⟩:=hr;cases h1
theorem RC{S:Type}(f:Fact->S->Bool×S)(g:Nat)(first cap:List D)(Good:Sig->S->Prop)(x:Fact)(O:Sig)(s:S)(hg:DCall prog g (first ++ .agg (D3 x)::cap) O fun r U'=>r=.ret (.bool (f x s).1)/\Good U' (f x s).2):
  DCall prog 372 [.agg (D3 x),.cptr [.func (.func g) first cap] 0] O fun r U'=>r=.ret (.bool (!(f x s).1))/\Good U' (f x s).2:=by
 refine en func372 ntmps372 ?_
 refine gz ?_
 refine A7 hg (fun e U2 hr=>?_) (fun e U2 hr=>?_)
 ·obtain⟨h1,h2⟩:=hr
  simp only[DE.ret.injEq]at h1
  subst h1
  refine gz ?_
  refine fin1 (U':=U2) ?_
  exact⟨rfl,h2⟩
 ·cases hr.1
theorem M1{S:Type}(l:List Fact)(f:Fact->S->Bool×S)(g:Nat)(first cap:List D)(o:Own)(Good:Sig->S->Prop)(hl:l.length<=1073741824)
  (hg:∀x∈l, ∀O s,Good O s->DCall prog g (first ++ .agg (D3 x)::cap) O fun r U'=>r=.ret (.bool (f x s).1)/\Good U' (f x s).2) (O:Sig) (s:S) (hG:Good O s) :
  DCall prog 348 [.slice (l.map D3) o,.func (.func g) first cap] O fun x U'=>x=.ret (.bool (allS f l s).1)/\Good U' (allS f l s).2:=by
 refine en func348 ntmps348 ?_
 refine gz ?_
 refine A7 (RD l (fun x s=>(!(f x s).1,(f x s).2)) 372 [] [.cptr [.func (.func g) first cap] 0] o Good hl (fun x hx O s hG=>RC f g first cap Good x O s (hg x hx O s hG)) O s hG) (fun e U2 hr=>?_) (fun e U2 hr=>?_)
 ·obtain⟨h1,h2⟩:=hr
  simp only[DE.ret.injEq]at h1
  subst h1
  refine gz ?_
  refine fin1 (U':=U2) ?_
  exact⟨by rw[L7],by rw[L7];exact h2⟩
 ·cases hr.1
def wObj(w:World)(us:List Int):DObj:=.cells (sl (cII w.parents)::sl (cI w.owner)::us.map (D.int .u64))
def Qs(w:World)(l:List Int):Bool:=decide (l.length<=2)&&l.all (fun c=>decide (0<=c/\c<w.owner.length))
section
variable (w:World)(us:List Int)(iw:Nat)(O:Sig)(hw:O iw=some (wObj w us))
include hw
theorem JV(c:Int)(hl:w.parents.length<=1073741824):DCall prog 347 [.ptr iw 0,dI c] O (rS (.bool (decide (3<=c/\c<3+w.parents.length))) O):=by
 unfold wObj at hw
 refine en func347 ntmps347 ?_
 repeat' first|refine gf hw ?_|apply gy<;>intro hh
 any_goals (first|exact fe1 trivial|fail)
theorem JR(c:Int)(hl:w.owner.length<=1073741824):DCall prog 388 [.ptr iw 0,dI c] O (rS (.bool (decide (0<=c/\c<w.owner.length))) O):=by
 unfold wObj at hw
 refine en func388 ntmps388 ?_
 repeat' first|refine gf hw ?_|apply gy<;>intro hh
 any_goals (first|exact fe1 trivial|fail)
theorem JS(c:Int)(hl:w.parents.length<=1073741824):DCall prog 376 [.ptr iw 0,dI c] O (rS (.bool (decide (0<=c/\c<3+w.parents.length))) O):=by
 unfold wObj at hw
 refine en func376 ntmps376 ?_
 repeat' first|refine gf hw ?_|apply gy<;>intro hh
 any_goals (first|exact fe1 trivial|fail)
theorem JT(l:List Int)(o:Own)(hl:w.owner.length<=1073741824)(bq:l.length<=1073741824):DCall prog 375 [.ptr iw 0,.slice (cI l) o] O (rS (.bool (Qs w l)) O):=by
 refine en func375 ntmps375 ?_
 repeat' first|refine gz ?_|refine D2 (Fi l (fun c=>decide (0<=c/\c<w.owner.length)) 388 [.ptr iw 0] [] _ _ bq (fun x _=>JR w us iw _ hw x hl)) ?_|refine callPG (Fi l (fun c=>decide (0<=c/\c<w.owner.length)) 388 [.ptr iw 0] [] _ _ bq (fun x _=>JR w us iw _ hw x hl)) ?_|refine gz ?_|apply gy<;>intro hh
 any_goals (first|(refine fin1 (U':=O) ?_;exact⟨by first|rfl|(simp[Qs];done)|(simp_all [Qs];done)|(rw[Ag,Bool.eq_iff_iff];simp_all [Qs]<;>omega),rfl⟩)|fail)
end
def KK(w:World)(f:Fact):Bool:=decide (0<=f.arg/\f.arg<3)&&Qs w f.path &&
 (if f.op=2 then decide (f.n=0)&&decide (0<=f.cls/\f.cls<3+w.parents.length) else decide (f.cls=0)&&inB f.n)
def Ja(w:World):Nat->Fact->Int->Bool×Int
 |0,_,s=>(false,IntKind.i64.wrap (s-1))
 |d+1,f,s=>
  if IntKind.i64.wrap (s-1)<0\/f.op<1\/7<f.op\/f.kids.length≠Dd f.op then(false,IntKind.i64.wrap (s-1)) else
  if EV f.op then(KK w f,IntKind.i64.wrap (s-1)) else
  if f.arg=0/\f.path.length=0/\f.cls=0/\f.n=0 then allS (Ja w d) f.kids (IntKind.i64.wrap (s-1)) else(false,IntKind.i64.wrap (s-1))
theorem Pl(iw il d:Nat)(x:Fact)(b:Bool)(G:Sig->Prop)(O:Sig)(hd:d<=1000)(h:DCall prog 350 [.ptr iw 0,.agg (D3 x),.ptr il 0,dI d] O fun r U'=>r=.ret (.bool b)/\G U'):
  DCall prog 377 [.agg (D3 x),.cptr [.ptr iw 0] 0,.cptr [.ptr il 0] 0,.cptr [dI ((d:Int)+1)] 0] O fun r U'=>r=.ret (.bool b)/\G U':=by
 refine en func377 ntmps377 ?_
 refine gf (show((d:Int)+1-1)=d by omega) ?_
 refine A7 h (fun e U2 hr=>?_) (fun e U2 hr=>by cases hr.1)
 obtain⟨h1,h2⟩:=hr
 simp only[DE.ret.injEq]at h1
 subst h1
 refine gz ?_
 refine fin1 (U':=U2) ?_
 exact⟨rfl,h2⟩
theorem RF(w:World)(us:List Int)(iw il:Nat)(S0:Sig)(hw:S0 iw=some (wObj w us))(hne:iw≠il)(ar:w.parents.length<=1073741824)(au:w.owner.length<=1073741824):
  ∀(d:Nat) (f:Fact) (s:Int) (O:Sig),d<=1000->f.wt<=1073741824->Keep (· = il) S0 O->O il=some (.cells [dI s])->
   DCall prog 350 [.ptr iw 0,.agg (D3 f),.ptr il 0,dI d] O fun x U'=>x=.ret (.bool (Ja w d f s).1)/\(Keep (· = il) S0 U'/\U' il=some (.cells [dI (Ja w d f s).2])):=by
 intro d
 have ai:∀(O:Sig) (o:DObj),Keep (· = il) S0 O->Keep (· = il) S0 (O.set il o):=fun O o h j x h1 h2=>by rw[w7 _ _ h2];exact h j x h1 h2
 induction d with
 |zero=>
  intro f s O hd hf hK hs
  have ai:=fun o=>ai O o hK
  refine en func350 ntmps350 ?_
  repeat' first|(refine fin1 (U':=O.set il (.cells [dI (IntKind.i64.wrap (s-1))])) ?_;exact⟨rfl,ai _,w6 ..⟩)|refine gf hs ?_ o350|apply gy<;>intro hh
 | succ d ih =>
  intro f s O hd hf hK hs
  have ai:=fun o=>ai O o hK
  obtain⟨w1,w2,w3⟩:=f.wt_le
  have bT:(Dd f.op:Int)<=2:=by unfold Dd;split<;>(try split)<;>omega
  have aN:(O.set il (.cells [dI (IntKind.i64.wrap (s-1))])) iw=some (wObj w us):=ai _ iw _ hw hne
  refine en func350 ntmps350 ?_
  by_cases ah:IntKind.i64.wrap (s-1)<0\/f.op<1\/7<f.op\/f.kids.length≠Dd f.op
  ·have hN:Ja w (d+1) f s=(false,IntKind.i64.wrap (s-1)):=by rw[Ja,if_pos ah]
   rw[hN]
   repeat' first|(refine fin1 (U':=O.set il (.cells [dI (IntKind.i64.wrap (s-1))])) ?_;exact⟨rfl,ai _,w6 ..⟩)|refine gf hs ?_ o350|apply gy<;>intro hh
   all_goals (exfalso;simp_all;omega)
  ·have hN:Ja w (d+1) f s=if EV f.op then(KK w f,IntKind.i64.wrap (s-1)) else if f.arg=0/\f.path.length=0/\f.cls=0/\f.n=0 then allS (Ja w d) f.kids (IntKind.i64.wrap (s-1)) else(false,IntKind.i64.wrap (s-1)):=by rw[Ja,if_neg ah]
   have b1:¬IntKind.i64.wrap (s-1)<0:=fun h=>ah (.inl h)
   have b2:¬f.op<1:=fun h=>ah (.inr (.inl h))
   have b3:¬7<f.op:=fun h=>ah (.inr (.inr (.inl h)))
   have b4:f.kids.length=Dd f.op:=by omega
   cases aw:EV f.op with
   | true =>
    rw[aw,if_pos rfl]at hN
    rw[hN]
    repeat' first|refine gf (gi hs (gi b1 (gi b4 aw))) ?_|refine D2 (JT w us iw _ aN f.path .no au (by omega)) ?_|refine callPG (JT w us iw _ aN f.path .no au (by omega)) ?_|refine D2 (JS w us iw _ aN f.cls ar) ?_|refine callPG (JS w us iw _ aN f.cls ar) ?_|refine gf (gi hs (gi b1 (gi b4 aw))) ?_ o350|apply gy<;>intro hh
    all_goals
     refine fin1 (U':=O.set il (.cells [dI (IntKind.i64.wrap (s-1))])) ?_
     refine⟨?_,ai _,w6 ..⟩
     first|(simp_all [KK,inB];done)|(rw[show DE.ret (D.bool (KK w f,IntKind.i64.wrap (s-1)).1)=DE.ret (D.bool (KK w f)) from rfl,Ag,Bool.eq_iff_iff];simp_all [KK,inB];done)|(rw[show DE.ret (D.bool (KK w f,IntKind.i64.wrap (s-1)).1)=DE.ret (D.bool (KK w f)) from rfl,Ag,Bool.eq_iff_iff];simp_all [KK,inB];omega)
   | false =>
    rw[aw,if_neg (by simp)]at hN
    rw[hN]
    by_cases h0:f.arg=0/\f.path.length=0/\f.cls=0/\f.n=0
    ·rw[if_pos h0]
     repeat' first|refine gf (gi hs (gi b1 (gi b4 aw))) ?_ o350|apply gy<;>intro hh
     all_goals try (exfalso;omega)
     have bI:∀x∈f.kids,x.wt<=1073741824:=fun x hx=>by obtain⟨k,hk,rfl⟩:=List.getElem_of_mem hx;have:=w3 k hk;omega
     refine A7 (M1 f.kids (Ja w d) 377 [] [.cptr [.ptr iw 0] 0,.cptr [.ptr il 0] 0,.cptr [dI ((d:Int)+1)] 0] .no (fun U' s'=>Keep (· = il) S0 U'/\U' il=some (.cells [dI s'])) (by omega) (fun x hx U' s' hG=>Pl iw il d x _ _ U' (by omega) (ih x s' U' (by omega) (bI x hx) hG.1 hG.2)) _ (IntKind.i64.wrap (s-1)) ⟨ai _,w6 ..⟩) (fun e U2 hr=>?_) (fun e U2 hr=>by cases hr.1)
     obtain⟨h1,h2⟩:=hr
     simp only[DE.ret.injEq]at h1
     subst h1
     refine gz ?_ o350
     refine fin1 (U':=U2) ?_
     exact⟨rfl,h2⟩
    ·rw[if_neg h0]
     repeat' first|(refine fin1 (U':=O.set il (.cells [dI (IntKind.i64.wrap (s-1))])) ?_;exact⟨rfl,ai _,w6 ..⟩)|refine gf (gi hs (gi b1 (gi b4 aw))) ?_ o350|apply gy<;>intro hh
     all_goals (exfalso;omega)
def H7(w:World)(f:Fact):Bool:=(Ja w 12 f 24).1
theorem Po(w:World)(us:List Int)(iw:Nat)(f:Fact)(O:Sig)(hw:O iw=some (wObj w us))(ar:w.parents.length<=1073741824)(au:w.owner.length<=1073741824)(hf:f.wt<=1073741824):
  DCall prog 349 [.agg (D3 f),.cptr [.ptr iw 0] 0] O (rS (.bool (H7 w f)) O):=by
 refine en func349 ntmps349 ?_
 refine gz ?_ [] [4]
 refine newV (fun il ax=>?_)
 have hne:iw≠il:=fun e=>by rw[e,ax]at hw;cases hw
 refine gz ?_ [] [4]
 refine A7 (RF w us iw il O hw hne ar au 12 f 24 (O.set il (.cells [dI 24])) (by omega) hf ((Keep.refl _ O).fresh ax) (w6 ..)) (fun e U2 hr=>?_) (fun e U2 hr=>by cases hr.1)
 obtain⟨h1,h2,h3⟩:=hr
 simp only[DE.ret.injEq]at h1
 subst h1
 refine gz ?_ [] [4]
 refine fin1 (U':=O) ?_ (hU:=fun j o hj=>h2 j o hj (fun e=>by rw[e,ax]at hj;cases hj))
 exact⟨rfl,rfl⟩
theorem MH{α:Type}(q:α->Bool): ∀l:List α,allS (fun x (_:Unit)=>(q x,())) l ()=(l.all q,())
 |[]=>rfl
 |x::r=>by
  rw[allS,List.all_cons]
  cases h:q x
  ·simp
  ·simp only[Bool.true_and];exact MH q r
theorem JX(w:World)(us:List Int)(iw:Nat)(l:List Fact)(o:Own)(O:Sig)(hw:O iw=some (wObj w us))(ar:w.parents.length<=1073741824)(au:w.owner.length<=1073741824)(hl:l.length<=1073741824)(hf:∀f∈l,f.wt<=1073741824):
  DCall prog 305 [.ptr iw 0,.slice (l.map D3) o] O (rS (.bool (l.all (H7 w))) O):=by
 refine en func305 ntmps305 ?_
 refine gz ?_
 refine A7 (M1 l (fun x (_:Unit)=>(H7 w x,())) 349 [] [.cptr [.ptr iw 0] 0] o (fun U' _=>U'=O) hl (fun x hx U' s' hG=>by rw[hG];exact Po w us iw x O hw ar au (hf x hx)) _ () rfl) (fun e U2 hr=>?_) (fun e U2 hr=>by cases hr.1)
 obtain⟨h1,h2⟩:=hr
 simp only[DE.ret.injEq]at h1
 subst h1
 rw[show U2=O from h2]
 refine gz ?_
 rw[MH]
 exact fe1 trivial
theorem JW(s c:Int)(O:Sig)(hc:0<=c):DCall prog 345 [.int .u64 s,dI c] O fun x U'=>(∃n:Int,x=.ret (.int .u64 n))/\U'=O:=by
 refine en func345 ntmps345 ?_
 try refine gf (OJ .u64 .i64 1 c hc) ?_
 refine fin1 (U':=O) ?_
 exact⟨⟨_,rfl⟩,rfl⟩
theorem NK(w:World)(us:List Int)(c:Nat)(n:Int)(h:c<us.length):DObj.cells (List.take (2+c) (sl (cII w.parents)::sl (cI w.owner)::List.map (D.int IntKind.u64) us)++D.int IntKind.u64 n::List.drop (2+c) (sl (cI w.owner)::List.map (D.int IntKind.u64) us))=wObj w (us.set c n):=by
 rw[show 2+c=c+1+1 by omega];simp only[List.take_succ_cons,List.drop_succ_cons,List.cons_append];unfold wObj;rw[List.map_set,List.set_eq_take_append_cons_drop,if_pos (by simpa using h)]
theorem Pr(w:World)(O:Sig)(hg:Cw w.parents=true)(br:∀x∈w.parents,x.length<=1073741824)(ho:w.owner.length<=40)(bG:∀c∈w.owner,3<=c/\c<3+w.parents.length):
  DCall prog 304 [.agg (MB w)] O fun x U'=> ∃iw us,O iw=none/\x=.ret (.tup [.ptr iw 0,.bool true])/\U'=O.set iw (wObj w us):=by
 have hlen:=Hz hg
 refine en func304 ntmps304 ?_
 repeat ((fail_if_success (first|(refine boxV (T:=421) (fun iw bu=>?_))|fail));(refine goX1 trivial ?_))
 refine boxV (T:=421) (fun iw bu=>?_)
 have e0:wObj w (List.replicate 63 0)=.cells [sl (cII w.parents),sl (cI w.owner),.int .u64 0,.int .u64 0,.int .u64 0,.int .u64 0,.int .u64 0,.int .u64 0,.int .u64 0,.int .u64 0,.int .u64 0,.int .u64 0,.int .u64 0,.int .u64 0,.int .u64 0,.int .u64 0,.int .u64 0,.int .u64 0,.int .u64 0,.int .u64 0,.int .u64 0,.int .u64 0,.int .u64 0,.int .u64 0,.int .u64 0,.int .u64 0,.int .u64 0,.int .u64 0,.int .u64 0,.int .u64 0,.int .u64 0,.int .u64 0,.int .u64 0,.int .u64 0,.int .u64 0,.int .u64 0,.int .u64 0,.int .u64 0,.int .u64 0,.int .u64 0,.int .u64 0,.int .u64 0,.int .u64 0,.int .u64 0,.int .u64 0,.int .u64 0,.int .u64 0,.int .u64 0,.int .u64 0,.int .u64 0,.int .u64 0,.int .u64 0,.int .u64 0,.int .u64 0,.int .u64 0,.int .u64 0,.int .u64 0,.int .u64 0,.int .u64 0,.int .u64 0,.int .u64 0,.int .u64 0,.int .u64 0,.int .u64 0,.int .u64 0]:=rfl
 rw[<-e0]
 clear e0
 try refine gz ?_ o304
 refine D7 [1,2,3,4,6,7,8,9,10,35,36,37,38,39,40,41,42,43,44,45,46,47,48,49,50,51,52,53,54,55,56,57,58,59,60,61,62,63,64,65,66,67,68,69,70,71,72,73,74,75,76,77,78,79,80,81,82,83,84,85,86,87,88,89,90] (fun (c:Nat) (us:List Int)=>c<=3/\us.length=63) (fun c _=>[(24,dI c)]) (fun _ us=>O.set iw (wObj w us)) (fun c _=>3-c) (0) (List.replicate 63 0) (by simp) (fun c us hI=>?_)
 obtain⟨hc,bj⟩:=hI
 have aL:wObj w us=.cells (sl (cII w.parents)::sl (cI w.owner)::us.map (D.int .u64)):=rfl
 by_cases bV:c<3
 ·try refine gz ?_ o304
  refine BG (JW 1 c _ (by omega)) (fun d U' h=>?_) (fun d U' h=>by obtain⟨⟨n,h⟩,_⟩:=h;cases h)
  obtain⟨⟨n,h⟩,rfl⟩:=h
  simp only[DE.ret.injEq]at h
  subst h
  refine⟨Sub.refl _,?_⟩
  try refine gf aL ?_ o304
  rw[NK _ _ _ _ (by omega)]
  exact⟨c+1,us.set c n,by simp;omega,td1,wkR⟩
 ·try refine gz ?_ o304
  refine D7 [1,4,36,37,85,86,87,88,89,90] (fun (i:Nat) (us:List Int)=>i<=w.parents.length/\us.length=63) (fun i _=>[(38,dI i)]) (fun _ us=>O.set iw (wObj w us)) (fun i _=>w.parents.length-i) (0) (us) (by exact⟨by omega,bj⟩) (fun i us hI=>?_)
  obtain⟨hi,bj⟩:=hI
  have aL:wObj w us=.cells (sl (cII w.parents)::sl (cI w.owner)::us.map (D.int .u64)):=rfl
  by_cases ax:i<w.parents.length
  ·have aB:=EW (by simpa[Cw] using hg:w.parents.length<=16/\CT 0 w.parents=true).2 i ax
   generalize hr:w.parents[i]=row at*
   simp only[Iy,Bool.and_eq_true,decide_eq_true_eq,Nat.zero_add]at aB
   try refine gf hr ?_ o304
   refine A7 (JW 1 (3+i) _ (by omega)) (fun d U' h=>?_) (fun d U' h=>by obtain⟨⟨n,h⟩,_⟩:=h;cases h)
   obtain⟨⟨n,h⟩,rfl⟩:=h
   simp only[DE.ret.injEq]at h
   subst h
   try refine gf hr ?_ o304
   refine D7 [1,4,6,7,36,37,38,39,40,41,42,43,44,45,46,47,77,78,79,80,81,82,83,84,85,86,87,88,89,90] (fun (k:Nat) (n:Int)=>k<=row.length/\Em i (row.take k) (row.drop k)=true) (fun k n=>[(48,dI k),(8,.int .u64 n)]) (fun _ _=>O.set iw (wObj w us)) (fun k _=>row.length-k) (0) (n) (by exact⟨by omega,by simpa using aB.2⟩) (fun k n hI=>?_)
   obtain⟨hk,hE⟩:=hI
   by_cases aP:k<row.length
   ·rw[Ab aP,Em,<-FZ aP]at hE
    simp only[Bool.and_eq_true,decide_eq_true_eq,Bool.not_eq_true',decide_eq_false_iff_not]at hE
    obtain⟨q,hq⟩:∃q:Nat,row[k]=(q:Int):=⟨(row[k]).toNat,by omega⟩
    rw[hq]at hE
    have ak:(sl (cII w.parents)::sl (cI w.owner)::List.map (D.int IntKind.u64) us)[2+q]? = some (D.int IntKind.u64 (us[q]'(by omega))):=by
     rw[show 2+q=q+1+1 by omega,List.getElem?_cons_succ,List.getElem?_cons_succ,List.getElem?_map,List.getElem?_eq_getElem (by omega)];rfl
    try refine gf (gi aL (gi hq (gi hE.1.2 ak))) ?_ o304
    exact⟨k+1,_,⟨by omega,hE.2⟩,td1,wkR⟩
   ·
    try refine gf (gi hr aL) ?_ o304
    rw[show 2+(3+(i:Int)).toNat=2+(3+i) by omega,NK _ _ _ _ (by omega)]
    exact⟨i+1,us.set (3+i) n,by simp;omega,td1,wkR⟩
  ·repeat' first|refine gz ?_|refine Cb (Fi w.owner (fun c=>decide (3<=c/\c<3+w.parents.length)) 347 [.ptr iw 0] [] _ _ (by omega) (fun x _=>JV w us iw _ (w6 ..) x (by omega))) ?_|refine callP (Fi w.owner (fun c=>decide (3<=c/\c<3+w.parents.length)) 347 [.ptr iw 0] [] _ _ (by omega) (fun x _=>JV w us iw _ (w6 ..) x (by omega))) ?_|refine gz ?_ o304|apply gy<;>intro hh
   refine fin2 (U':=O.set iw (wObj w us)) ?_
   refine⟨iw,us,bu,?_,rfl⟩
   rw[List.all_eq_true.2 fun c hc=>by have:=bG c hc;simpa using this]
end Go.DL
