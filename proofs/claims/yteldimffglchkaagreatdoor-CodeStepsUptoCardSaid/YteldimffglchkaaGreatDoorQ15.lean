/- A part of the proof. -/
import Derived.Test.YteldimffglchkaaGreatDoorQ14
set_option linter.all false
namespace Go.DL
open Go.Proofs.Tryz
open Go Go.Proofs
set_option maxHeartbeats 4000000
def Nd(i:Nat)(b:Bool)(O:Sig)(hi:O i=some (.cells [.bool b])):Mh prog 249 [.ptr i 0] O none O/\Mh prog 249 [.ptr i 0] O (some unf) (O.set i (.cells [.bool false])):=by
 constructor
 ·refine PN func249 rfl ntmps249 j1 (by decide) (by decide) rfl ?_;simp only[Option.getD_none]
  repeat' first|refine gz ?_|apply gy<;>intro hh
  exact⟨.inl rfl,rfl,Sub.refl _⟩
 ·refine PN func249 rfl ntmps249 j1 (by decide) (by decide) rfl ?_;simp only[ba]
  repeat' first|refine gf hi ?_|apply gy<;>intro hh
  exact⟨.inl rfl,rfl,Sub.refl _⟩
def LK{O:Sig}{i:Nat}{o:jP}:Sub (O.del i) (O.set i o):=fun j x h=>by
 by_cases hj:j=i
 ·subst hj;simp[Sig.del]at h
 ·rw[w7 _ _ hj];simpa[Sig.del,hj] using h
def Ud(g:Nat)(cap:eO)(O:Sig)(R:Sig->DE->Sig->Prop)
  (hg:∀i,O i=none->ar prog g cap (O.set i (.cells [.bool false])) (R (O.set i (.cells [.bool false]))))
  (hR:∀U' d S'',R U' (.panic d) S''->d=unf) (hk:∀i S'' x,O i=none->R (O.set i (.cells [.bool false])) x S''->S'' i=some (.cells [.bool false])) :
  ar prog 194 [.func (.func g) [] cap] O fun x U'=> ∃i S'',O i=none/\U'=S''.del i /\
   ((∃d,R (O.set i (.cells [.bool false])) (.ret d) S''/\x=.ret (.bool true))\/(R (O.set i (.cells [.bool false])) (.panic unf) S''/\x=.ret (.bool false))):=by
 refine HT (fd:=249) func194 rfl (C8 func249 (by rfl) (by rfl)) (by rw[Ao];decide) (by decide) ntmps194 j1 ?_;refine gz ?_ [] [2];refine je (fun i hi=>?_);refine gz ?_ [] [2];refine Ln (f:=249) (by rw[Ao];decide) rfl rfl ?_;refine gz ?_ [] [2];refine A3 (hg i hi) (fun d U' hr=>?_) (fun d U' hp=>?_)
 ·have fv:=hk i U' _ hi hr;refine gf fv ?_ [] [2];refine⟨_,Wk.refl _ _ _,[.ptr i 0],U'.set i (.cells [.bool true]),.bool true,rfl,(Nd i true _ (w6 ..)).1,En (ds:=[.bool true]) jB ?_,.ret (.bool true),U'.del i,Ac _,LK,i,U',hi,rfl,.inl ⟨d,hr,rfl⟩⟩;simp[resL]
 ·have fv:=hk i U' _ hi hp;obtain rfl:=hR _ _ _ hp;refine gz ?_ [] [2];refine⟨_,Wk.refl _ _ _,[.ptr i 0],U'.set i (.cells [.bool false]),.bool false,rfl,(Nd i false _ fv).2,En (ds:=[.bool false]) jB ?_,.ret (.bool false),U'.del i,Ac _,LK,i,U',hi,rfl,.inr ⟨hp,rfl⟩⟩;simp[resL]
end Go.DL
namespace Go.DL
open Go.Proofs.Tryz
open Go Go.Proofs
set_option maxHeartbeats 8000000
def Py(p:aw)(O:Sig)(hp:p.wt<=1073741824:=by exact sd):
  ar prog 29 [.agg (A7 p)] O (rS (.bool (Fo p).isSome) O):=by
 refine en func29 ntmps29 ?_
 try refine gz ?_
 exact fe1 trivial
@[reducible,instance] def a29:=fun p O=>ah1 (@Py p O)
def TM(g:eT)(o:Own)(O:Sig)(hl:g.length<=1073741824:=by exact sd)(fY:∀x∈g,x.length<=1073741824:=by exact sd):
  ar prog 251 [.slice (cII g) o] O (rS (dI (if Bk g then 0 else 2)) O):=by
 refine en func251 ntmps251 ?_;cases h:Bk g with
 |false=>
  try refine gf h ?_
  exact fe1 trivial
 |true=>
  try refine gf h ?_
  exact fe1 trivial
@[reducible,instance] def a251:=fun g o O=>ah2 (@TM g o O)
def AT:Int->List ax->Option Int
 |n,[]=>some n
 |n,c::r=>if 4<c.ac.length then none else match CA n c.ac with
  |none=>none
  |some m=>AT m r
def Dm(f9:eP):eP->List jv->Bool
 |_,[]=>true
 |seen,x::r=>(decide (x.slot∈f9)&&!decide (x.slot∈seen)&&inB x.n)&&Dm f9 (seen++[x.slot]) r
def AS(p:aw):Nat->List ax->Bool
 |_,[]=>true
 |i,c::r=>decide (linE (p.aa.map (·.ae)) ((i:Int)+3)=0)&&Dm (hasP p ((i:Int)+3)) [] c.ah&&AS p (i+1) r
def Am(p:aw):Bool:=decide (p.aa.length<=10)&&match AT 0 p.aa with
 |none=>false
 |some n=>decide (n=p.ac)&&Bk (p.aa.map (·.ae))&&AS p 0 p.aa
def Fu(cs:List ax): ∀(n:Nat) (up out:eP),(hasG cs n up out).length<=out.length+wtL (fun c:ax=>c.ac.length) (cs.take n)
 |0,_,out=>by rw[hasG];omega
 | n+1,up,out=>by
  rw[hasG]
  by_cases h:n<cs.length
  ·rw[aD h,IL _ _ _ h];simp only;split
   ·have:=Fu cs n (GQ (cs[n]).ae up) (out++(cs[n]).ac);rw[aC]at this;omega
   ·have:=Fu cs n up out;omega
  ·rw[aX j0];have:=Fu cs n up out;rw[ck j0]at this⊢;exact this
def Ce(p:aw)(c:Int):(hasP p c).length<=wtL (fun c:ax=>c.ac.length) p.aa:=by
 unfold hasP;have h1:=Hg (hasG p.aa (c-2).toNat [c] []);have h2:=Fu p.aa (c-2).toNat [c] [];have h3:=Fe (fun c:ax=>c.ac.length) p.aa (c-2).toNat
 simp only[cu]at h2;omega
def ins_new{k:Int}{s:eP}(h:k∉s):j6 k s=s++[k]:=by unfold j6;rw[aE h]
def Uc (p:aw) (O:Sig) (hp:p.wt<=1073741824:=by exact sd):ar prog 196 [.agg (A7 p)] O fun x U'=>x=(if Am p then .ret (.tup []) else .panic unf)/\U'=O:=by
 obtain⟨p1,p2,p3,p4,p5,p6,p7⟩:=p.wt_le;have ws:=Db p
 have fo:∀c∈p.aa,c.ae.length<=1073741824/\c.ac.length<=1073741824/\c.ah.length<=1073741824:=fun c hc=>by
  obtain⟨k,hk,rfl⟩:=bT hc;have:=p5 k hk;have gq:(p.aa[k]).wt=1+(p.aa[k]).ae.length+(p.aa[k]).ac.length+(p.aa[k]).ah.length:=rfl;omega
 have gr:∀c∈p.aa,c.ae.length<=1073741824:=fun c hc=>(fo c hc).1;have gu:∀x∈p.aa.map (·.ae),x.length<=1073741824:=fun x hx=>by obtain⟨c,hc,rfl⟩:=aZ.1 hx;exact(fo c hc).1
 refine en func196 ntmps196 ?_
 by_cases ga:p.aa.length<=10
 ·repeat' first|refine gz ?_|apply gy<;>intro hh
  ·refine BO ([1,7,8,9,10,11,12,13,15,22,23]++List.range' 48 64) (fun (i:Nat) (n:Int)=>i<=p.aa.length/\n=wtL (fun c:ax=>c.ac.length) (p.aa.take i)/\AT 0 p.aa=AT n (p.aa.drop i)) (fun i n=>[(24,dI i),(2,dI n)]) (fun _ _=>O) (fun i _=>p.aa.length-i) (0) (0) (by simp[wtL]) (fun i n hI=>?_);obtain⟨hi,hn,hR⟩:=hI
   by_cases h:i<p.aa.length
   ·have hx:=fo _ (aK h);have hT:=IL (fun c:ax=>c.ac.length) p.aa i h;have gI:=Fe (fun c:ax=>c.ac.length) p.aa (i+1);rw[A6 h,AT]at hR
    by_cases h4:4<(p.aa[i]).ac.length
    ·have hc:AT 0 p.aa=none:=by rw[hR,aG h4]
     have hF:Am p=false:=by unfold Am;rw[hc];simp
     repeat' first|((with_reducible refine jo (U':=O) ?_);exact⟨by first|(simp[hF];done)|(simp_all [hF];done),rfl⟩)|refine gz ?_|apply gy<;>intro hh
    ·rw[aE h4]at hR;generalize gc:(p.aa[i]).ac=sl' at*
     try refine gf gc ?_
     refine Bz ([1,4,7,8,9,10,11,12,13,15]++List.range' 22 14++List.range' 47 65) (fun (q:Nat)=>q<=sl'.length/\CA n sl'=CA (n+q) (sl'.drop q)) (fun q=>[(36,dI q),(2,dI (n+q))]) (fun _=>O) (fun q=>sl'.length-q) (0) j1 (fun q hI=>?_);obtain⟨hq,hQ⟩:=hI
     by_cases fV:q<sl'.length
     ·rw[A6 fV,CA]at hQ;have gv:=hx.2.1;have gm:0<=n:=by omega
      have d8:n<=1073741824:=by omega
      by_cases fG:sl'[q]=n+q
      ·rw[aG fG]at hQ
       try refine gf fG ?_
       exact⟨q+1,⟨j0,by rw[hQ,Int.add_assoc];rfl⟩,td1,wkR⟩
      ·rw[aE fG]at hQ;have hc:AT 0 p.aa=none:=by rw[hR,hQ]
       have hF:Am p=false:=by unfold Am;rw[hc];simp
       repeat' first|((with_reducible refine jo (U':=O) ?_);exact⟨by first|(simp[hF];done)|(simp_all [hF];done),rfl⟩)|refine gz ?_|apply gy<;>intro hh
     ·rw[A9 fV,CA]at hQ;rw[hQ]at hR;have gw:q=sl'.length:=by omega
      try refine gz ?_
      exact⟨i+1,n+q,⟨j0,by rw[hT];omega,hR⟩,td1,wkR⟩
   ·rw [A9 h,AT] at hR
    by_cases hs:n=p.ac
    ·cases hg:Bk (p.aa.map (·.ae))with
     |false=>
      have hF:Am p=false:=by unfold Am;rw[hR,hg];simp
      repeat' first|((with_reducible refine jo (U':=O) ?_);exact⟨by first|(simp[hF];done)|(simp_all [hF];done),rfl⟩)|refine gf hg ?_|apply gy<;>intro hh
     | true =>
      have fw:Am p=AS p 0 p.aa:=by unfold Am;rw[hR];simp[hs,hg,ga]
      try refine gf hg ?_
      refine Bz [1,7,61,62] (fun (j:Nat)=>j<=p.aa.length/\AS p 0 p.aa=AS p j (p.aa.drop j)) (fun j=>[(63,dI j)]) (fun _=>O) (fun j=>p.aa.length-j) (0) j1 (fun j hI=>?_);obtain⟨hj,hJ⟩:=hI
      by_cases h':j<p.aa.length
      ·have hx:=fo _ (aK h');have gC:=Ce p ((j:Int)+3);rw[A6 h',AS]at hJ
       by_cases hl:linE (p.aa.map (·.ae)) ((j:Int)+3)=0
       ·rw[be hl,bq]at hJ;generalize f7:(p.aa[j]).ah=ins' at hJ hx
        try refine gf (gi f7 hl) ?_
        refine newSI (fun im gB=>?_)
        try refine gf f7 ?_
        refine Bz ([1,7,8,9,10,11,12,13]++List.range' 61 25++[111]) (fun (k:Nat)=>k<=ins'.length/\Dm (hasP p ((j:Int)+3)) [] ins'=Dm (hasP p ((j:Int)+3)) ((ins'.take k).map (·.slot)) (ins'.drop k)) (fun k=>[(86,dI k)]) (fun k=>O.set im (.map (eSI ((ins'.take k).map (·.slot))))) (fun k=>ins'.length-k) (0) j1 (fun k hI=>?_);obtain⟨hk,hK⟩:=hI
        by_cases fL:k<ins'.length
        ·have eX:=hx.2.2;rw[A6 fL,Dm]at hK
         repeat' first|((with_reducible refine jo (U':=O) ?_);exact⟨by first|(simp[fw,hJ,hK];done)|(simp_all [fw,hJ,hK];done),rfl⟩)|refine gz ?_|apply gy<;>intro hh
         rename_i q1 q2;have q3:¬ins'[k].slot∈(ins'.take k).map (·.slot):=by simpa using q2
         have q4:(ins'.take (k+1)).map (·.slot)=(ins'.take k).map (·.slot)++[ins'[k].slot]:=by rw[aU fL,bz];rfl
         have q5:=ins_new q3;simp only[<-List.map_take,q5,<-q4];exact⟨k+1,by refine⟨j0,?_⟩;rw[hK,hh,be q1,bk q3,q4];rfl,td1,wkR⟩
        ·rw[A9 fL,Dm]at hK;rw[hK,bq]at hJ
         try refine gz ?_
         exact⟨j+1,⟨j0,hJ⟩,td1,wkR⟩
       ·rw[bk hl,bD,bD]at hJ;have hF:Am p=false:=by rw[fw,hJ]
        repeat' first|((with_reducible refine jo (U':=O) ?_);exact⟨by first|(simp[hF];done)|(simp_all [hF];done),rfl⟩)|refine gz ?_|apply gy<;>intro hh
      ·rw[A9 h',AS]at hJ;have hF:Am p=true:=by rw[fw,hJ]
       try refine gz ?_
       exact fe0 hF
    ·have hF:Am p=false:=by unfold Am;rw[hR];simp[hs]
     repeat' first|((with_reducible refine jo (U':=O) ?_);exact⟨by first|(simp[hF];done)|(simp_all [hF];done),rfl⟩)|refine gz ?_|apply gy<;>intro hh
 ·have hF:Am p=false:=by unfold Am;rw[bk ga];rfl
  repeat' first|((with_reducible refine jo (U':=O) ?_);exact⟨by first|(simp[hF];done)|(simp_all [hF];done),rfl⟩)|refine gz ?_|apply gy<;>intro hh
@[reducible,instance] def a196:=fun p O=>gh1 (@Uc p O)
def Rn{x:Int}(h0:0<=x)(h1:x<18446744073709551616):IntKind.u64.wrap x=x:=by
 have e1:(2:Int) ^ IntKind.u64.bits=18446744073709551616:=by decide
 have e3:IntKind.u64.signed=false:=rfl;simp only[IntKind.wrap,e1,e3,bD,bm,bc];omega
def andU(n:Nat)(h:n<=1073741824):binD .and (.int .u64 n) (.int .u64 4294967295)=some (.int .u64 n):=by
 simp only[binD,bu]
 have e:((BitVec.ofInt IntKind.u64.bits (n:Int) &&& BitVec.ofInt IntKind.u64.bits 4294967295).toNat)=n:=by
  rw[BitVec.toNat_and];show(BitVec.ofInt 64 (n:Int)).toNat &&& (BitVec.ofInt 64 4294967295).toNat=n;rw[show(4294967295:Int)=((2 ^ 32-1:Nat):Int) from rfl,BitVec.ofInt_natCast,BitVec.ofInt_natCast,BitVec.toNat_ofNat,BitVec.toNat_ofNat];rw[dS j0,dS j0,Nat.and_two_pow_sub_one_eq_mod,dS j0]
 rw[e,Rn j0 j0]
def shrU(k:IntKind)(n:Nat)(h:n<=1073741824):binD .shr (.int .u64 n) (.int k 32)=some (.int .u64 0):=by
 simp only[binD];rw[aG (by decide)]
 congr 2
 show(n:Int).fdiv (2 ^ 32)=0;rw[Int.fdiv_eq_ediv_of_nonneg _ (by decide)];omega
def Tt(n:Nat)(O:Sig)(hn:n<=1073741824:=by exact sd):ar prog 303 [.int .u64 1,.int .u64 n] O (rS (.tup [.int .u64 0,.int .u64 n]) O):=by
 have a1:binD .and (.int .u64 1) (.int .u64 4294967295)=some (.int .u64 1):=andU 1 j0;have a0:binD .and (.int .u64 0) (.int .u64 4294967295)=some (.int .u64 0):=andU 0 j0;have an:=andU n hn;have s1:∀k,binD .shr (.int .u64 1) (.int k 32)=some (.int .u64 0):=fun k=>shrU k 1 j0;have s0:∀k,binD .shr (.int .u64 0) (.int k 32)=some (.int .u64 0):=fun k=>shrU k 0 j0;have sn:=fun k=>shrU k n hn;have wn:IntKind.u64.wrap (n:Int)=n:=Rn j0 j0;have w0:IntKind.u64.wrap 0=0:=Rn j0 j0;refine en func303 ntmps303 ?_;refine gf (gi a1 (gi a0 (gi an (gi s1 (gi s0 (gi sn (gi wn w0))))))) ?_;exact fe2 trivial
@[reducible,instance] def a303:=fun n O=>ah1 (@Tt n O)
def TJ(n:Nat)(O:Sig)(hn:n<=1073741824:=by exact sd):ar prog 254 [.int .u64 1,.int .u64 n] O (rS (.tup [.int .u64 0,.int .u64 n]) O):=by
 refine en func254 ntmps254 ?_;refine gz ?_;exact fe2 trivial
@[reducible,instance] def a254:=fun n O=>ah1 (@TJ n O)
def Ua(n:Nat)(O:Sig)(h1:1<=n)(hn:n<=1048576):ar prog 198 [.slice [[dI (-1)]] .no,dI n] O fun x U'=> ∃r,O r=none/\x=.ret (.am r 0 n n)/\U'=O.set r (.cells ((List.replicate n (-1:Int)).map dI)):=by
 have wn:IntKind.u64.wrap (n:Int)=n:=Rn j0 j0;have w1:IntKind.u64.wrap 1=1:=Rn j0 j0;refine en func198 ntmps198 ?_;refine gf (gi wn w1) ?_ o198;refine mmake (k:=n) (c:=n) (sz:=1) (z:=[dI 0]) (fun i hi hm=>?_);have e0:mS O (some (i,n,(List.replicate (n-n) [dI 0]).flatten)) (List.replicate n [dI 0])=O.set i (.cells (List.replicate n (dI 0))):=by simp[mS]
 rw[e0];refine gz ?_ o198;refine Lp jB (m:=1) (cs:=[dI (-1)]) (e:=3) (i:=i) (off:=0) (len:=n) (cap:=n) (ds:=List.replicate n (dI 0)) (by decide) (by simp<;>rfl) j1 j1 tdR (w6 ..) j1 (RJ (es:=[[dI (-1)]]) tdR j1) (by rfl) ?_
 have e1:(O.set i (.cells (List.replicate n (dI 0)))).set i (.cells (List.take 0 (List.replicate n (dI 0))++(List.take (min 1 n) [dI (-1)]++List.drop (0+min 1 n) (List.replicate n (dI 0)))))=O.set i (.cells (List.replicate 1 (dI (-1))++List.replicate (n-1) (dI 0))):=by
  rw[w8,show min 1 n=1 by omega];simp
 rw[e1,show((min 1 n:Nat):Int)=1 by omega];refine gz ?_ o198;refine Bz [4,7,47] (fun (b:Nat)=>1<=b/\b<=n) (fun b=>[(8,dI b)]) (fun b=>O.set i (.cells (List.replicate b (dI (-1))++List.replicate (n-b) (dI 0)))) (fun b=>n-b) (1) j0 (fun b hI=>?_);obtain⟨gH,gG⟩:=hI
 by_cases h:b<n
 ·refine gz ?_;refine FK (id:=9) [0,1,2,3,4,5,6,7,8,9] [7] O ((Sub.refl _).set hi) ?_;refine gz ?_ o198;refine mo_cutL jB (i:=i) (off:=0) (len:=n) (cap:=n) (lo:=b) (e:=3) (k:=.i64) ?_ (by decide) (by simp<;>rfl) j1 tdR tdR j0 j0;rw[show 0+b*(tab 3).size=b by simp];refine gz ?_ o198;refine Om jB (i:=i) (off:=0) (len:=n) (cap:=n) (hi:=b) (e:=3) (k:=.i64) ?_ (by decide) (by simp<;>rfl) j1 tdR tdR j0;refine mo1 (fun U2 hD=>?_) rfl;have v1:=hD (.tmp 41) (by simp[Op.operands,Call.operands]);have v2:=hD (.tmp 44) (by simp[Op.operands,Call.operands]);have gE:(List.replicate b (dI (-1))++List.replicate (n-b) (dI 0)).length=n:=by simp;omega
  refine Lp jB (m:=b) (cs:=((List.replicate b (dI (-1))++List.replicate (n-b) (dI 0)).drop 0).take b) (e:=3) (i:=i) (off:=b) (len:=n-b) (cap:=n-b) (ds:=List.replicate b (dI (-1))++List.replicate (n-b) (dI 0)) (by decide) (by simp<;>rfl) j1 j1 (by rw[v1];with_unfolding_all rfl) (w6 ..) j0 (by rw[v2];exact VY (off:=0) (w6 ..) j0) (by simp[C6,D.flat]) ?_
  have e2:List.take b (List.replicate b (dI (-1))++List.replicate (n-b) (dI 0))++(List.take (min b (n-b)) (List.take b (List.drop 0 (List.replicate b (dI (-1))++List.replicate (n-b) (dI 0))))++List.drop (b+min b (n-b)) (List.replicate b (dI (-1))++List.replicate (n-b) (dI 0)))=List.replicate (b+min b (n-b)) (dI (-1))++List.replicate (n-(b+min b (n-b))) (dI 0):=by
   have t1:List.take b (List.replicate b (dI (-1))++List.replicate (n-b) (dI 0))=List.replicate b (dI (-1)):=by rw[eE j1];simp
   have t2:List.drop (b+min b (n-b)) (List.replicate b (dI (-1))++List.replicate (n-b) (dI 0))=List.replicate (n-(b+min b (n-b))) (dI 0):=by
    rw[List.drop_append,dk j1,bG,List.drop_replicate];congr 1;simp;omega
   rw[List.drop_zero,t1,t2,<-aO]
   congr 1
   rw[List.take_replicate,ey];congr 1;omega
  rw[w8,e2];refine AD ⟨rfl,?_⟩;refine⟨(Sub.refl _).set hi,?_⟩;refine gz ?_ o198;exact⟨b+min b (n-b),j0,td1,wkR⟩
 ·have hb:b=n:=by omega
  subst hb;refine gz ?_ o198;refine fin1 (U':=O.set i (.cells ((List.replicate b (-1)).map dI))) ?_ (hZ:=by simp;exact Sub.refl _);exact⟨i,hi,rfl,rfl⟩
def OutO{S:Type}(u r:D)(Good:Sig->S->Prop)(Bad:Sig->Prop)(touch:Nat->Prop)(O:Sig):Option S->DE->Sig->Prop
 |none,x,U'=>x=.panic u/\Bad U'
 |some s,x,U'=>x=.ret r/\Good U' s /\ ∀j o,O j=some o->¬touch j->U' j=some o
def OutO.ret{S:Type}{u r d:D}{Good:Sig->S->Prop}{Bad:Sig->Prop}{touch:Nat->Prop}{O U':Sig}{o:Option S}(h:OutO u r Good Bad touch O o (.ret d) U'): ∃s,o=some s/\d=r/\Good U' s /\ ∀j o,O j=some o->¬touch j->U' j=some o:=by
 cases o with
 |none=>exact absurd h.1 j1
 |some s=>exact⟨s,rfl,by simpa using h.1,h.2⟩
def OutO.pan{S:Type}{u r d:D}{Good:Sig->S->Prop}{Bad:Sig->Prop}{touch:Nat->Prop}{O U':Sig}{o:Option S}(h:OutO u r Good Bad touch O o (.panic d) U'):o=none/\d=u/\Bad U':=by
 cases o with
 |none=>exact⟨rfl,by simpa using h.1,h.2⟩
 |some s=>exact absurd h.1 j1
section
variable {S:Type}
def LY(f:Int->Int->S->Option S)(x:ay)(size:Int):Nat->eP->S->Option S
 |_,[],s=>some s
 |j,c::r,s=>match f c (if x.op=9/\j=1 then size+1 else size) s with
  |none=>none
  |some s'=>LY f x size (j+1) r s'
def H9(p:aw)(step:Nat->Int->Int->S->Option S):Nat->Int->Int->S->Option S
 |0,_,_,_=>none
 |k+1,node,size,s=>match step (k+1) node size s with
  |none=>none
  |some s'=>LY (H9 p step k) (Ad p node) size 0 (Ad p node).ag s'
end
def TH{S:Type}(p:aw)(l i:Nat)(Good:Sig->S->Prop)(Bad:Sig->Prop)(touch:Nat->Prop)(step:Nat->Int->Int->S->Option S)(hp:p.wt<=1073741824)(fS:¬touch i)
  (fE:∀node size s,step 0 node size s=none) (fC:∀k node size s s',step k node size s=some s'->0<=node/\node<p.jJ.length)
  (hy:∀(k:Nat) (d node size:Int) O s,d=13-(k:Int)->0<=size->size+k<=1000->Good O s->kn prog l [dI node,.agg [dI size,dI d]] O (OutO unf (.bool true) Good Bad touch O (step k node size s))) :
  ∀(k:Nat) (d node size:Int) O s,d=13-(k:Int)->0<=size->size+k<=1000->k<=13->Good O s->O i=some (.cells [.func (.func 256) [] [.ak [.yld l] 0,.ak (A7 p) 0,.ptr i 0]])->
   ar prog 256 [dI node,.agg [dI size,dI d],.ak [.yld l] 0,.ak (A7 p) 0,.ptr i 0] O (OutO unf (.bool true) Good Bad touch O (H9 p step k node size s)):=by
 obtain⟨p1,p2,p3,p4,p5,p6,p7⟩:=p.wt_le;intro k
 induction k with
 | zero =>
  intro d node size O s hd h0 hsz hk hG hi;refine en func256 ntmps256 ?_;refine gz ?_;refine yldW (hy 0 d node size O s hd h0 hsz hG) (fun e U' hr=>?_) (fun e U' hr=>?_)
  ·rw[fE]at hr;obtain⟨_,h,_⟩:=hr.ret;cases h
  ·obtain⟨_,rfl,hb⟩:=hr.pan;exact jo (U':=U') ⟨rfl,hb⟩
 | succ k ih =>
  intro d node size O s hd h0 hsz hk hG hi;refine en func256 ntmps256 ?_;refine gz ?_ [] [10];refine yldW (hy (k+1) d node size O s hd h0 hsz hG) (fun e U' hr=>?_) (fun e U' hr=>?_)
  ·obtain⟨s',fq,rfl,fP,hK⟩:=hr.ret;obtain⟨gm,gx⟩:=fC _ _ _ _ _ fq;obtain⟨q,rfl⟩:∃q:Nat,node=(q:Int):=⟨node.toNat,j0⟩;have hq:q<p.jJ.length:=by omega
   have fv:=hK i _ hi fS;have fJ:Ad p q=p.jJ[q]:=by unfold Ad;simp[aD hq]
   have hW:H9 p step (k+1) q size s=LY (H9 p step k) p.jJ[q] size 0 (p.jJ[q]).ag s':=by rw[H9,fq];simp only;rw[fJ]
   rw[hW];have fu:(p.jJ[q]).ag.length<=1073741824:=by have:=p7 q hq;unfold ay.wt at this;omega
   generalize hx:p.jJ[q]=x at*;refine gf hx ?_ [] [10];refine F1 [0,3,4,6,21,22] (fun (j:Nat) (s1:S) (S1:Sig)=>j<=x.ag.length/\Good S1 s1/\LY (H9 p step k) x size 0 x.ag s'=LY (H9 p step k) x size j (x.ag.drop j) s1/\(∀j o,O j=some o->¬touch j->S1 j=some o)) (fun j _ _=>[(23,dI j)]) (fun _ _ S1=>S1) (fun j _ _=>x.ag.length-j) (0) (s') (U') (by exact⟨j0,fP,j1,hK⟩) (fun j s1 S1 hI=>?_);obtain⟨hj,fj,hR,d9⟩:=hI;have eY:=d9 i _ hi fS
   by_cases fZ:j<x.ag.length
   ·rw [A6 fZ,LY] at hR;have gA:(k:Int)<=12:=by omega
    refine gf (gi hx eY) ?_ [] [10];refine je (fun a ha=>?_);have f8:i≠a:=fun e=>by rw[e,ha]at eY;cases eY
    have hz:0<=(if x.op=9/\j=1 then size+1 else size)/\(if x.op=9/\j=1 then size+1 else size)+(k:Int)<=1000:=by split<;>omega
    have hc:=ih (d+1) x.ag[j] (if x.op=9/\j=1 then size+1 else size) S1 s1 j0 hz.1 hz.2 j0 fj eY
    by_cases hl:x.op=9/\j=1
    ·rw[aG hl]at hR hc;obtain⟨fe,rfl⟩:=hl;refine gf (gi hx (gi eY (gi fe f8))) ?_ [] [10];refine drp S1 ?_;refine A3 hc (fun e S2 hr=>?_) (fun e S2 hr=>?_)
     ·obtain⟨s2,fD,rfl,fO,fN⟩:=hr.ret;rw[fD]at hR;refine gz ?_ [] [10];exact⟨1+1,s2,S2,⟨j0,fO,hR,fun j o h1 h2=>fN _ _ (d9 _ _ h1 h2) h2⟩,td1,wkR⟩
     ·obtain⟨hn,rfl,hb⟩:=hr.pan;rw[hn]at hR;rw[hR];exact jo (U':=S2) ⟨rfl,hb⟩
    ·rw[aE hl]at hR hc;have fY:¬(x.op=9/\(j:Int)=1):=by omega
     repeat' first|refine gf (gi hx (gi eY f8)) ?_ [] [10]|apply gy<;>intro hh
     all_goals
      refine drp S1 ?_;refine A3 hc (fun e S2 hr=>?_) (fun e S2 hr=>?_)
      ·obtain⟨s2,fD,rfl,fO,fN⟩:=hr.ret;rw[fD]at hR;refine gz ?_ [] [10];exact⟨j+1,s2,S2,⟨j0,fO,hR,fun j o h1 h2=>fN _ _ (d9 _ _ h1 h2) h2⟩,td1,wkR⟩
      ·obtain⟨hn,rfl,hb⟩:=hr.pan;rw[hn]at hR;rw[hR];exact jo (U':=S2) ⟨rfl,hb⟩
   ·rw[A9 fZ,LY]at hR;rw[hR];refine gf hx ?_ [] [10];refine fin1 (U':=S1) ?_;exact⟨rfl,fj,d9⟩
  ·obtain⟨fq,rfl,hb⟩:=hr.pan;have hW:H9 p step (k+1) node size s=none:=by rw[H9,fq]
   rw[hW];exact jo (U':=U') ⟨rfl,hb⟩
def jd(touch:Nat->Prop)(O U':Sig):Prop:= ∀j o,O j=some o->¬touch j->U' j=some o
def jd.refl(touch:Nat->Prop)(O:Sig):jd touch O O:=fun _ _ h _=>h
def jd.trans{touch:Nat->Prop}{a b c:Sig}(h:jd touch a b)(k:jd touch b c):jd touch a c:=fun j o h1 h2=>k _ _ (h _ _ h1 h2) h2
def jd.fresh{touch:Nat->Prop}{a b:Sig}(h:jd touch a b){i:Nat}{o:jP}(hi:a i=none):jd touch a (b.set i o):=fun j x h1 h2=>by
 rw[w7 _ _ fun e=>by rw[e,hi]at h1;cases h1];exact h _ _ h1 h2
def TI{S:Type}(p:aw)(l:Nat)(Good:Sig->S->Prop)(Bad:Sig->Prop)(touch:Nat->Prop)(step:Nat->Int->Int->S->Option S)(hp:p.wt<=1073741824)
  (fE:∀node size s,step 0 node size s=none) (fC:∀k node size s s',step k node size s=some s'->0<=node/\node<p.jJ.length)
  (hy:∀(k:Nat) (d node size:Int) O s,d=13-(k:Int)->0<=size->size+k<=1000->Good O s->kn prog l [dI node,.agg [dI size,dI d]] O (OutO unf (.bool true) Good Bad touch O (step k node size s)))
  (hm : ∀ O s a o,Good O s->O a=none->Good (O.set a o) s) (k:Nat) (d node size:Int) (O:Sig) (s:S) (ht : ∀ a,O a=none -> ¬ touch a) (hd:d=13-(k:Int)) (h0:0<=size) (hsz:size+k<=1000) (hk:k<=13) (hG:Good O s) :
   ar prog 255 [.yld l,.ak (A7 p) 0,.ak [dI node] 0,.ak [dI size,dI d] 0] O (OutO unf (.tup []) Good Bad touch O (H9 p step k node size s)):=by
 refine en func255 ntmps255 ?_;refine gz ?_ [] [5];refine je (fun a ha=>?_);refine gz ?_ [] [5];refine A3 (TH p l a Good Bad touch step hp (ht a ha) fE fC hy k d node size (O.set a _) s hd h0 hsz hk (hm _ _ _ _ hG ha) (w6 ..)) (fun e U' hr=>?_) (fun e U' hr=>?_)
 ·obtain⟨s',gh,rfl,fP,hK⟩:=hr.ret;rw[gh];refine gz ?_ [] [5];refine F3 (U':=U') ?_;exact⟨rfl,fP,fun j o h1 h2=>hK j o (by rw[w7 _ _ fun e=>by rw[e,ha]at h1;cases h1];exact h1) h2⟩
 ·obtain⟨hn,rfl,hb⟩:=hr.pan;rw[hn];exact jo (U':=U') ⟨rfl,hb⟩
def U9(p:aw)(node size d:Int)(O:Sig):ar prog 200 [.agg (A7 p),dI node,.agg [dI size,dI d]] O (rS (.func (.func 255) [] [.ak (A7 p) 0,.ak [dI node] 0,.ak [dI size,dI d] 0]) O):=by
 refine en func200 ntmps200 ?_;refine gz ?_;exact fe1 trivial
@[reducible,instance] def a200:=fun p node size d O=>ah0 (@U9 p node size d O)
def T8(p:aw)(x:ay)(k:Int)(O:Sig):ar prog 413 [dI k,.agg (A7 p),.agg (HW x)] O (rS (dI k) O):=by
 refine en func413 ntmps413 ?_;refine gz ?_;exact fe1 trivial
def T7(p:aw)(x:ay)(O:Sig)(h0:0<=x.n:=by exact sd)(h1:x.n<p.ai.length:=by exact sd)(hl:p.ai.length<=1073741824:=by exact sd):ar prog 414 [.agg [],.agg (A7 p),.agg (HW x)] O (rS (dI (p.ai.getD x.n.toNat 0)) O):=by
 refine en func414 ntmps414 ?_;obtain⟨q,hq⟩:∃q:Nat,x.n=(q:Int):=⟨x.n.toNat,j0⟩;have gj:q<p.ai.length:=by omega
 have hg:p.ai.getD x.n.toNat 0=p.ai[q]:=by rw[hq,aQ];simp[gj]
 rw[hg];refine gf hq ?_;exact fe1 trivial
def meth413 : Q3 prog 276 "consort/bind.many" 413 := by
 intro v w;kernel_rfl
def meth414 : Q3 prog 277 "consort/bind.many" 414 := by
 intro v w;kernel_rfl
def XP{ro:Ro}{n:Nat}{ops:Array Oper}{N:Nat}{S0 O:Sig}{Q:DX->St->Prop}{df:List DDf}{γ Sr:Fr}{t:Nat}{ty:TypeId}{pos:String}{after:Array Edge}{l:List (Bool×Oper)}{d e:D}{rv:Operand}{name:String}{args:Array Operand}{ats:Array TypeId}{f T:Nat}{us:eO}(hM:Q3 prog T name f)(h:ar prog f (d::us) O (rS e O))(k:MO prog ro n ops N S0 Q df l ((t,e)::γ) O)
  (hl:A5 γ (Aa (rv::args.toList))=some Sr:=by exact tdR) (hx:ev Sr rv=.iface T d:=by exact tdR) (ha:args.toList.map (ev Sr)=us:=by exact tdR) (fR:decide (t<n)=true:=by exact tdR) (hC:Sub S0 O:=by first|exact Sub.refl _|assumption) :
  MO prog ro n ops N S0 Q df ((true,⟨some t,.call { callee:=.invoke rv name,args,argTypes:=ats },ty,pos,after,none⟩)::l) γ O:=by
 refine mo1 (fun U2 hD=>?_) fR
 have he:∀x∈rv::args.toList,ev U2 x=ev Sr x:=fun x hx=>by
  rw[hD x (by simpa[Op.operands,Call.operands] using hx)];exact(Bs fun t ht=>AB hl t (AL (by rw[<-ht];exact hx))).symm
 refine Oz rfl (by rw[he rv j1];exact hx) hM h ?_ (by simpa[Ax] using fR) (fun d' U' ⟨e1,e2⟩=>?_) (fun d' U' ⟨e1,e2⟩=>by cases e1)
 ·rw[show args.toList.map (ev U2)=args.toList.map (ev Sr) from ca fun x h=>he x (by simp[h]),ha];exact E1 _
 ·cases e1;subst e2;exact AD ⟨rfl,by simp only[putD,A8,bu];exact⟨hC,k⟩⟩
def IG(p:aw)(inM:Bool):Nat->Int->Int->eP->Option eP
 |0,_,_,_=>none
 |_+1,node,size,s=>
  if node<0\/(p.jJ.length:Int)<=node\/0<=s.getD node.toNat 0 then none else
  if((Ad p node).ag.length:Int)≠C4 p (Ad p node)\/Co p (Ad p node) size=false\/((Ad p node).op=18/\inM=false) then none else some (s.set node.toNat size)
def optW:Bool×eP->Option eP
 |(true,s)=>some s
 |(false,_)=>none
def L0(f:Int->Int->eP->Bool×eP)(x:ay)(size:Int): ∀(j:Nat) (l s:eP),LY (fun a b c=>optW (f a b c)) x size j l s=optW (Bi f x size j l s)
 |_,[],s=>rfl
 | j,c::r,s=>by
  rw[LY,Bi];cases h:f c (if x.op=9/\j=1 then size+1 else size) s with
  |mk b s'=>cases b with
   |false=>rfl
   |true=>simp only[optW];exact L0 f x size (j+1) r s'
def Kw(p:aw)(inM:Bool): ∀(k:Nat) (node size:Int) (s:eP),H9 p (IG p inM) k node size s=optW (BF p inM k node size s)
 |0,_,_,_=>rfl
 | k+1,node,size,s=>by
  rw[H9,BF,IG]
  by_cases h1:node<0\/(p.jJ.length:Int)<=node\/0<=s.getD node.toNat 0
  ·rw[aG h1,aG h1];rfl
  ·rw[aE h1,aE h1]
   by_cases h2:((Ad p node).ag.length:Int)≠C4 p (Ad p node)\/Co p (Ad p node) size=false\/((Ad p node).op=18/\inM=false)
   ·rw[aG h2,aG h2];rfl
   ·rw[aE h2,aE h2];have e:H9 p (IG p inM) k=fun a b c=>optW (BF p inM k a b c):=by funext a b c;exact Kw p inM k a b c
    simp only[e];exact L0 _ _ _ _ _ _
def Lk{P:Program}{n:Nat}{Q:DX->St->Prop}{γ:Fr}{O:Sig}{df:List DDf}{gop:Operand}{ps:Array Tmp}{asg body:Code}{f:Nat}{first cap:eO}{S:Type}{u:D}(G:Nat->Sig->S->Prop)(Bad:Nat->Sig->Prop)(touch:Nat->Prop)(o:Option S)
  (hf:ev γ gop=.func (.func f) first cap)
  (fi:∀l did,O did=none->O l=none->l≠did->∀LO,LO=jP.loop .ready none ps asg body n γ did->ar P f (first++[.yld l]++cap) ((O.set did .defs).set l LO) (OutO u (.tup []) (fun U' s=>U' l=some LO/\G did U' s) (Bad did) touch ((O.set did .defs).set l LO) o))
  (fF:∀l did s U',o=some s->O did=none->O l=none->l≠did->G did U' s->Q .normal ⟨γ,U'.del l,.coll did::df⟩)
  (fH:∀did U',o=none->O did=none->Bad did U'->Q (.panic u) ⟨γ,U',.coll did::df⟩) :
  DWp P .none n (.rangeFunc gop ps asg body) Q ⟨γ,O,df⟩:=by
 refine HR (R:=fun l did=>OutO u (.tup []) (fun U' s=>U' l=some (jP.loop .ready none ps asg body n γ did)/\G did U' s) (Bad did) touch ((O.set did .defs).set l (jP.loop .ready none ps asg body n γ did)) o) hf (fun l did h1 h2 h3=>fi l did h1 h2 h3 _ rfl) (fun l did d U' h1 h2 h3 hr=>?_) (fun l did d U' h1 h2 h3 hr=>?_)
 ·obtain⟨s,hs,rfl,⟨hl,hG⟩,hK⟩:=hr.ret;exact⟨_,_,hl,j1,fF l did s U' hs h1 h2 h3 hG⟩
 ·obtain⟨hn,rfl,hb⟩:=hr.pan;exact fH did U' hn h1 hb
def endM{P:Program}{n:Nat}{fn:Func}{R:DE->Sig->Prop}{γ:Fr}{O:Sig}{did:Nat}(h:R (.ret (.tup [])) (O.del did))(hd:O did=some .defs)(hr:fn.results=#[]:=by rfl): ∃s',Wk P n ⟨γ,O,[.coll did]⟩ s'/\Rm P n fn (Weak R) .normal s':=
 ⟨_,Wk.refl _ _ _,[did],rfl,j1,by simp[hd],.tup [],E3 (by simp[resD,hr]),Fg h⟩
def endMP{P:Program}{n:Nat}{fn:Func}{R:DE->Sig->Prop}{γ:Fr}{O:Sig}{did:Nat}{d:D}(h:R (.panic d) (O.del did))(hd:O did=some .defs): ∃s',Wk P n ⟨γ,O,[.coll did]⟩ s'/\Rm P n fn (Weak R) (.panic d) s':=
 ⟨_,Wk.refl _ _ _,[did],rfl,j1,by simp[hd],Fg h⟩
def jd.del{touch:Nat->Prop}{a b:Sig}(h:jd touch a b){i:Nat}(hi:a i=none):jd touch a (b.del i):=fun j x h1 h2=>by
 have e:j≠i:=fun e=>by rw[e,hi]at h1;cases h1
 simp only[Sig.del,e,bc];exact h _ _ h1 h2
def jd.base{touch:Nat->Prop}{a b:Sig}{i:Nat}{o:jP}(h:jd touch (a.set i o) b)(hi:a i=none):jd touch a b:=fun j x h1 h2=>
 h _ _ (by rw[w7 _ _ fun e=>by rw[e,hi]at h1;cases h1];exact h1) h2
def Dj:jP->jP
 |.loop _ _ ps a b n γ d=>.loop .busy none ps a b n γ d
 |o=>o
def doneO(c:Code):jP->jP
 |.loop _ _ ps a b n γ d=>.loop .done (some c) ps a b n γ d
 |o=>o
def Q2(l:Nat)(LO:jP)(R:DE->Sig->Prop):DX->St->Prop
 |.normal,s=>s.O l=some (Dj LO)/\R (.ret (.bool true)) (s.O.set l LO)
 |.ret,s=>s.O l=some (Dj LO)/\R (.ret (.bool false)) (s.O.set l (doneO .ret LO))
 |.panic d,s=>s.df=[]/\R (.panic d) s.O
 |.exit id,s=>s.O l=some (Dj LO)/\R (.ret (.bool false)) (s.O.set l (doneO (.exit id) LO))
def Ox{P:Program}{l:Nat}{args:eO}{O:Sig}{R:DE->Sig->Prop}{ps:Array Tmp}{asg body:Code}{n:Nat}{Sl:Fr}{did:Nat}{LO:jP}(fy:LO=.loop .ready none ps asg body n Sl did)(hZ:O l=some LO)
  (h:DWp P (.some l) n asg (ka (fun s=>s.O l=some LO/\DWp P (.some l) n body (Q2 l LO R) { s with O:=s.O.set l (Dj LO) }) (fun _ _=>False)) ⟨PU ps.toList args Sl,O,[]⟩) (hl:ps.toList.length=args.length:=by rfl) (hp:∀p∈ps.toList,p<n:=by decide):kn P l args O R:=by
 subst fy;refine M7 hZ hl hp ?_;have e:Q2 l (.loop .ready none ps asg body n Sl did) R=Y3 l ps asg body n Sl did R:=by funext x s;cases x<;>rfl
 rw[<-e];exact h
def JY (p:aw) (io r:Nat) (inM:Bool) (node size:Int) (s:eP) (O:Sig) (hp:p.wt<=1073741824) (fh:O io=some (.cells [.am r 0 p.jJ.length p.jJ.length])) (hr:O r=some (.cells (s.map dI))) (hs:s.length=p.jJ.length) (hne:io ≠ r) (hz:0<=size) (gb:size<=900) :
  ar prog 199 [dI node,dI size,.bool inM,.ak (A7 p) 0,.ptr io 0] O (OutO unf (.tup []) (fun U' s'=>U' r=some (.cells (s'.map dI))/\s'.length=p.jJ.length/\jd (· = r) O U') (fun U'=>jd (· = r) O U') (· = r) O (optW (BF p inM 12 node size s))):=by
 obtain⟨p1,p2,p3,p4,p5,p6,p7⟩:=p.wt_le;rw[<-Kw];refine FA func199 rfl (by decide) ntmps199 j1 ?_;refine gz ?_ o199;refine Lk (u:=unf) (fun did U' s'=>U' r=some (.cells (s'.map dI))/\s'.length=p.jJ.length/\jd (· = r) (O.set did .defs) U') (fun did U'=>jd (· = r) (O.set did .defs) U') (· = r) (H9 p (IG p inM) 12 node size s) rfl (fun l did hd hl fK LO fy=>?_) (fun l did s' U' ho hd hl fK hG=>?_) (fun did U' ho hd hb=>?_)
 ·have fc:r ≠ did:=fun e=>by rw [e,hd] at hr;cases hr
  have fW:io≠did:=fun e=>by rw[e,hd]at fh;cases fh
  rw[<-w7 O jP.defs fW]at fh;rw[<-w7 O jP.defs fc]at hr;rw[<-w7 O jP.defs fK]at hl;clear hd fc fW;generalize O.set did .defs=Sd at*
  refine TI p l _ _ _ (IG p inM) hp (fun _ _ _=>rfl) (fun k node size s s' h=>by
   cases k with
   |zero=>cases h
   |succ k=>
    rw[IG]at h
    split at h
    ·cases h
    ·omega) (fun k d node size S1 s1 hd go gb hG=>?_) (fun S1 s1 a o hG ha=>?_) 12 1 node size _ s (fun a ha e=>?_) j0 hz j0 j0 ?_
  ·obtain ⟨fe,d5,gg,d9⟩:=hG;refine Ox fy fe ?_;clear fy;refine gz ?_ o199;refine⟨fe,?_⟩;have b7:=d9 io _ fh hne;have b6:l≠io:=fun e=>by rw[e,fh]at hl;cases hl
   have b8:l≠r:=fun e=>by rw[e,hr]at hl;cases hl
   have fA:=d9.fresh (o:=Dj LO) hl;cases k with
   |zero=>
    repeat' first|(exact⟨rfl,rfl,fA⟩)|refine gf (gi b7 (gi d5 (gi b6 (gi b8 hne)))) ?_ o199|apply gy<;>intro hh
   | succ k =>
    by_cases hn:node<0\/(p.jJ.length:Int)<=node
    ·have hS:IG p inM (k+1) node size s1=none:=by rw[IG,aG j0]
     rw[hS]
     repeat' first|(exact⟨rfl,rfl,fA⟩)|refine gf (gi b7 (gi d5 (gi b6 (gi b8 hne)))) ?_ o199|apply gy<;>intro hh
    ·obtain ⟨q,rfl⟩ : ∃ q:Nat,node=(q:Int):=⟨node.toNat,j0⟩;have hq:q<p.jJ.length:=by omega
     have fU:q<s1.length:=by omega
     have d6:s1.getD ((q:Int)).toNat 0=s1[q]:=by simp[aQ,fU]
     by_cases h2:0<=s1[q]
     ·have hS:IG p inM (k+1) q size s1=none:=by rw[IG,aG (by rw[d6];omega)]
      rw[hS]
      repeat' first|(exact⟨rfl,rfl,fA⟩)|refine gf (gi b7 (gi d5 (gi b6 (gi b8 hne)))) ?_ o199|apply gy<;>intro hh
     ·have fJ:Ad p q=p.jJ[q]:=by unfold Ad;simp [hq]
      have hS:IG p inM (k+1) q size s1=if((p.jJ[q]).ag.length:Int)≠C4 p p.jJ[q]\/Co p p.jJ[q] size=false\/((p.jJ[q]).op=18/\inM=false) then none else some (s1.set q size):=by
       rw[IG,aE (by rw[d6];omega),fJ];simp
      have fu:(p.jJ[q]).ag.length<=1073741824:=by have:=p7 q hq;unfold ay.wt at this;omega
      generalize hx:p.jJ[q]=x at*;have eZ:∀o,jd (· = r) Sd ((S1.set l (Dj LO)).set r o):=fun o j x h1 h2=>by rw[w7 _ _ h2];exact fA j x h1 h2
      cases d8:Co p x size with
      |false=>
       rw[aG (.inr (.inl d8))]at hS;rw[hS]
       repeat' first|(exact⟨rfl,rfl,eZ _⟩)|refine gf (gi b7 (gi d5 (gi b6 (gi b8 (gi hne (gi hx d8)))))) ?_ o199|apply gy<;>intro hh
      | true =>
       by_cases fB:x.op=18/\inM=false
       ·rw[aG (.inr (.inr fB))]at hS;rw[hS]
        repeat' first|(exact⟨rfl,rfl,eZ _⟩)|refine gf (gi b7 (gi d5 (gi b6 (gi b8 (gi hne (gi hx (gi d8 fB.2))))))) ?_ o199|apply gy<;>intro hh
        all_goals exact absurd fB.1 (by assumption)
       ·
        repeat' first|refine gf (gi b7 (gi d5 (gi b6 (gi b8 (gi hne (gi hx d8)))))) ?_ o199|apply gy<;>intro hh
        all_goals try (exfalso;grind)
        all_goals
         have fk:Co p x size=false\/(x.op=18/\inM=false)->False:=fun h=>h.elim (by rw[d8];simp) fB
         have d7:(((S1.set l (Dj LO)).set r (.cells (List.take q (List.map dI s1)++dI size::List.drop (q+1) (List.map dI s1)))) l=some (Dj LO)) /\
           (fun U'=>(U' l=some LO/\U' r=some (.cells ((s1.set q size).map dI))/\(s1.set q size).length=p.jJ.length/\jd (· = r) Sd U')/\jd (· = r) S1 U') (((S1.set l (Dj LO)).set r (.cells (List.take q (List.map dI s1)++dI size::List.drop (q+1) (List.map dI s1)))).set l LO):=by
          refine⟨by rw[w7 _ _ b8,w6],⟨w6 ..,?_,by simpa using gg,fun j o h1 h2=>?_⟩,fun j o h1 h2=>?_⟩
          ·rw[w7 _ _ (cg b8),w6,dX,bL,aG (by simpa using fU)]
          ·rw[w7 _ _ fun e=>by rw[e,hl]at h1;cases h1];exact eZ _ j o h1 h2
          ·by_cases hj:j=l
           ·rw[hj]at h1⊢; rw[w6,<-h1,fe]
           ·rw[w7 _ _ hj,w7 _ _ h2,w7 _ _ hj];exact h1
         cases hk:IJ x.op with
         | some kk =>
          have fg:EN x.op=.iface 276 (dI kk):=by unfold EN;rw[hk]
          have ff:C4 p x=kk:=by unfold C4;rw[hk]
          rw[ff]at hS;refine gf (gi fg (gi b7 (gi d5 (gi b6 (gi b8 (gi hne hx)))))) ?_ o199;refine XP meth413 (T8 p x kk _) ?_
          repeat' first|refine gz ?_ o199|apply gy<;>intro hh
          ·have h6:=hh;rw[hS,aE (fun h=>h.elim (fun h=>h h6) fk)];exact⟨d7.1,rfl,d7.2⟩
          ·have h6:=hh;rw[hS,aG (.inl h6)];exact⟨rfl,rfl,eZ _⟩
         | none =>
          by_cases h5:x.op=5
          ·have fg:EN x.op=.iface 277 (.agg []):=by unfold EN;rw[hk];simp[h5]
           have fI:0<=x.n/\x.n<p.ai.length:=by simpa[Co,h5] using d8
           have ff:C4 p x=p.ai[x.n.toNat]'(by omega):=by unfold C4;rw[hk];simp[h5,fI,aQ,show x.n.toNat<p.ai.length by omega]
           rw[ff]at hS;refine gf (gi fg (gi b7 (gi d5 (gi b6 (gi b8 (gi hne hx)))))) ?_ o199;refine XP meth414 (T7 p x _ fI.1 fI.2) ?_
           repeat' first|refine gz ?_ o199|apply gy<;>intro hh
           ·have h6:=hh;rw[hS,aE (fun h=>h.elim (fun h=>h h6) fk)];exact⟨d7.1,rfl,d7.2⟩
           ·have h6:=hh;rw[hS,aG (.inl h6)];exact⟨rfl,rfl,eZ _⟩
          ·have fg:EN x.op=.niliface:=by unfold EN;rw[hk];simp[h5]
           have ff:C4 p x = -1:=by unfold C4;rw[hk];simp[h5]
           rw[hS,aG (.inl (by rw[ff];omega))]
           repeat' first|(exact⟨rfl,rfl,eZ _⟩)|refine gf (gi fg (gi b7 (gi d5 (gi b6 (gi b8 (gi hne hx)))))) ?_ o199|apply gy<;>intro hh
  ·obtain⟨g1,g2,g3,g4⟩:=hG;refine⟨by rw[w7 _ _ fun e=>by rw[e,ha]at g1;cases g1];exact g1,by rw[w7 _ _ fun e=>by rw[e,ha]at g2;cases g2];exact g2,g3,fun j x h1 h2=>?_⟩;have:=g4 j x h1 h2;rw[w7 _ _ fun e=>by rw[e,ha]at this;cases this];exact this
  ·have fb:r≠l:=fun e=>by rw[e,hl]at hr;cases hr
   subst e;rw[w7 _ _ fb,hr]at ha;cases ha
  ·have fb:r≠l:=fun e=>by rw[e,hl]at hr;cases hr
   exact⟨w6 .., by rw[w7 _ _ fb];exact hr,hs,(jd.refl _ Sd).fresh hl⟩
 ·rw[ho];have fb:r≠l:=fun e=>by rw[e,hl]at hr;cases hr
  have fc:r≠did:=fun e=>by rw[e,hd]at hr;cases hr
  have fM:¬did=r:=cg fc;refine gz ?_ o199;have hk:=((hG.2.2.base hd).del hl).del hd;refine endM ⟨rfl,⟨by simp[Sig.del,fc,fb];exact hG.1,hG.2.1,hk⟩,hk⟩ ?_;simp only[Sig.del,cg fK,bc];exact hG.2.2 did _ (w6 ..) fM
 ·rw[ho];have fM:¬did=r:=fun e=>by rw[<-e,hd]at hr;cases hr
  exact endMP ⟨rfl,(hb.base hd).del hd⟩ (hb did _ (w6 ..) fM)
def anyS{α S:Type}(f:α->S->Bool×S):List α->S->Bool×S
 |[],s=>(false,s)
 |x::r,s=>match f x s with
  |(true,s')=>(true,s')
  |(false,s')=>anyS f r s'
def allS{α S:Type}(f:α->S->Bool×S):List α->S->Bool×S
 |[],s=>(true,s)
 |x::r,s=>match f x s with
  |(false,s')=>(false,s')
  |(true,s')=>allS f r s'
def Mf{α S:Type}(f:α->S->Bool×S): ∀(l:List α) (s:S),allS f l s=(!(anyS (fun x s=>(!(f x s).1,(f x s).2)) l s).1,(anyS (fun x s=>(!(f x s).1,(f x s).2)) l s).2)
 |[],s=>rfl
 |x::r,s=>by
  rw[allS,anyS];rcases h:f x s with⟨b,s'⟩;cases b
  ·simp
  ·simp only[cr];exact Mf f r s'
def Lg(l:eP)(q:Int->Bool)(g:Nat)(first cap:eO)(o:Own)(O:Sig)(hl:l.length<=1073741824)
  (hg:∀x∈l,ar prog g (first++dI x::cap) O fun r S''=>r=.ret (.bool (q x))/\S''=O) :
  ar prog 230 [.slice (cI l) o,.func (.func g) first cap] O (rS (dI (kD q l 0)) O):=by
 refine en func230 ntmps230 ?_;refine gz ?_;refine Bz [0,1,7] (fun (k:Nat)=>k<=l.length/\kD q l 0=kD q (l.drop k) k) (fun k=>[(8,dI k)]) (fun _=>O) (fun k=>l.length-k) (0) td3 (fun k hI=>?_);obtain⟨hk,hR⟩:=hI
 by_cases h:k<l.length
 ·rw[A6 h,kD]at hR
  repeat' first|refine Bh (hg (l[k]) (aK h)) ?_|refine callP (hg (l[k]) (aK h)) ?_|refine gf h ?_|apply gy<;>intro hh
  ·exact fe1 hR
  ·exact⟨k+1,⟨j0,by rw[hR,hh];rfl⟩,td1,wkR⟩
 ·refine gf h ?_
  (refine fin1 (U':=O) ?_;exact⟨by first|rfl|(simp[hR,A9 h,kD];done)|(simp_all [hR,A9 h,kD];done)|(rw[Ae,aR];simp_all [hR,A9 h,kD]<;>omega),rfl⟩)
def Lh(l:eP)(q:Int->Bool)(g:Nat)(first cap:eO)(o:Own)(O:Sig)(hl:l.length<=1073741824)
  (hg:∀x∈l,ar prog g (first++dI x::cap) O fun r S''=>r=.ret (.bool (q x))/\S''=O) :
  ar prog 151 [.slice (cI l) o,.func (.func g) first cap] O (rS (.bool (l.any q)) O):=by
 refine en func151 ntmps151 ?_
 repeat' first|refine gz ?_|refine Bh (Lg l q g first cap o O hl hg) ?_|refine callP (Lg l q g first cap o O hl hg) ?_|refine gz ?_|apply gy<;>intro hh
 (refine fin1 (U':=O) ?_;exact⟨by first|rfl|(simp[E8];done)|(simp_all [E8];done)|(rw[Ae,aR];simp_all [E8]<;>omega),rfl⟩)
def Lc(q:Int->Bool)(g:Nat)(first cap:eO)(x:Int)(O:Sig)
  (hg:ar prog g (first++dI x::cap) O fun r S''=>r=.ret (.bool (q x))/\S''=O) :
  ar prog 370 [dI x,.ak [.func (.func g) first cap] 0] O (rS (.bool (!q x)) O):=by
 refine en func370 ntmps370 ?_
 repeat' first|refine Bh (hg) ?_|refine callP (hg) ?_|refine gz ?_|apply gy<;>intro hh
 exact fe1 trivial
def Gy(l:eP)(q:Int->Bool)(g:Nat)(first cap:eO)(o:Own)(O:Sig)(hl:l.length<=1073741824)
  (hg:∀x∈l,ar prog g (first++dI x::cap) O fun r S''=>r=.ret (.bool (q x))/\S''=O) :
  ar prog 346 [.slice (cI l) o,.func (.func g) first cap] O (rS (.bool (l.all q)) O):=by
 refine en func346 ntmps346 ?_
 repeat' first|refine gz ?_|refine Bh (Lh l (fun x=> !q x) 370 [] [.ak [.func (.func g) first cap] 0] o O hl (fun x hx=>Lc q g first cap x O (hg x hx))) ?_|refine callP (Lh l (fun x=> !q x) 370 [] [.ak [.func (.func g) first cap] 0] o O hl (fun x hx=>Lc q g first cap x O (hg x hx))) ?_|refine gz ?_|apply gy<;>intro hh
 (refine fin1 (U':=O) ?_;exact⟨by first|rfl|(simp[dU];done)|(simp_all [dU];done)|(rw[Ae,aR];simp_all [dU]<;>omega),rfl⟩)
def T9{S:Type}(l:List j8)(f:j8->S->Bool×S)(g:Nat)(first cap:eO)(o:Own)(Good:Sig->S->Prop)(hl:l.length<=1073741824)
  (hg:∀x∈l, ∀O s,Good O s->ar prog g (first ++ .agg (Cu x)::cap) O fun r U'=>r=.ret (.bool (f x s).1)/\Good U' (f x s).2) (O:Sig) (s:S) (hG:Good O s) :
  ar prog 387 [.slice (l.map Cu) o,.func (.func g) first cap] O fun x U'=> ∃i:Int,x=.ret (dI i)/\decide (0<=i)=(anyS f l s).1/\Good U' (anyS f l s).2:=by
 refine en func387 ntmps387 ?_;refine gz ?_;refine F1 [0,1,7] (fun (k:Nat) (s1:S) (S1:Sig)=>k<=l.length/\Good S1 s1/\anyS f l s=anyS f (l.drop k) s1) (fun k _ _=>[(8,dI k)]) (fun _ _ S1=>S1) (fun k _ _=>l.length-k) (0) (s) (O) (by exact⟨j0,hG,rfl⟩) (fun k s1 S1 hI=>?_);obtain⟨hk,fj,hR⟩:=hI
 by_cases h:k<l.length
 ·rw[A6 h,anyS]at hR;refine gf h ?_;refine A3 (hg (l[k]) (aK h) S1 s1 fj) (fun e S2 hr=>?_) (fun e S2 hr=>?_)
  ·obtain⟨h1,h2⟩:=hr;simp only[DE.ret.injEq]at h1;subst h1;rcases hf:f l[k] s1 with⟨b,s2⟩;rw[hf]at hR h2;cases b
   ·refine gz ?_;exact⟨k+1,s2,S2,⟨j0,h2,hR⟩,td1,wkR⟩
   ·refine gz ?_;refine fin1 (U':=S2) ?_;exact⟨k,rfl,by rw[hR];simp,by rw[hR];exact h2⟩
  ·cases hr.1
 ·rw[A9 h,anyS]at hR;refine gf h ?_;refine fin1 (U':=S1) ?_;exact⟨-1,rfl,by rw[hR];rfl,by rw[hR];exact fj⟩
def Te{S:Type}(l:List j8)(f:j8->S->Bool×S)(g:Nat)(first cap:eO)(o:Own)(Good:Sig->S->Prop)(hl:l.length<=1073741824)
  (hg:∀x∈l, ∀O s,Good O s->ar prog g (first ++ .agg (Cu x)::cap) O fun r U'=>r=.ret (.bool (f x s).1)/\Good U' (f x s).2) (O:Sig) (s:S) (hG:Good O s) :
  ar prog 371 [.slice (l.map Cu) o,.func (.func g) first cap] O fun x U'=>x=.ret (.bool (anyS f l s).1)/\Good U' (anyS f l s).2:=by
 refine en func371 ntmps371 ?_;refine gz ?_;refine A3 (T9 l f g first cap o Good hl hg O s hG) (fun e S2 hr=>?_) (fun e S2 hr=>?_)
 ·obtain⟨i,h1,h2,h3⟩:=hr;simp only[DE.ret.injEq]at h1;subst h1;refine gz ?_;refine fin1 (U':=S2) ?_;exact⟨by rw[<-h2],h3⟩
 ·obtain⟨i,h1,_⟩:=hr;cases h1
def Td{S:Type}(f:j8->S->Bool×S)(g:Nat)(first cap:eO)(Good:Sig->S->Prop)(x:j8)(O:Sig)(s:S)(hg:ar prog g (first ++ .agg (Cu x)::cap) O fun r U'=>r=.ret (.bool (f x s).1)/\Good U' (f x s).2):
  ar prog 372 [.agg (Cu x),.ak [.func (.func g) first cap] 0] O fun r U'=>r=.ret (.bool (!(f x s).1))/\Good U' (f x s).2:=by
 refine en func372 ntmps372 ?_;refine gz ?_;refine A3 hg (fun e S2 hr=>?_) (fun e S2 hr=>?_)
 ·obtain⟨h1,h2⟩:=hr;simp only[DE.ret.injEq]at h1;subst h1;refine gz ?_;refine fin1 (U':=S2) ?_;exact⟨rfl,h2⟩
 ·cases hr.1
def N8{S:Type}(l:List j8)(f:j8->S->Bool×S)(g:Nat)(first cap:eO)(o:Own)(Good:Sig->S->Prop)(hl:l.length<=1073741824)
  (hg:∀x∈l, ∀O s,Good O s->ar prog g (first ++ .agg (Cu x)::cap) O fun r U'=>r=.ret (.bool (f x s).1)/\Good U' (f x s).2) (O:Sig) (s:S) (hG:Good O s) :
  ar prog 348 [.slice (l.map Cu) o,.func (.func g) first cap] O fun x U'=>x=.ret (.bool (allS f l s).1)/\Good U' (allS f l s).2:=by
 refine en func348 ntmps348 ?_;refine gz ?_;refine A3 (Te l (fun x s=>(!(f x s).1,(f x s).2)) 372 [] [.ak [.func (.func g) first cap] 0] o Good hl (fun x hx O s hG=>Td f g first cap Good x O s (hg x hx O s hG)) O s hG) (fun e S2 hr=>?_) (fun e S2 hr=>?_)
 ·obtain⟨h1,h2⟩:=hr;simp only[DE.ret.injEq]at h1;subst h1;refine gz ?_;refine fin1 (U':=S2) ?_;exact⟨by rw[Mf],by rw[Mf];exact h2⟩
 ·cases hr.1
def wObj(w:World)(us:eP):jP:=.cells (sl (cII w.ae)::sl (cI w.jQ)::us.map (D.int .u64))
def Qo(w:World)(l:eP):Bool:=decide (l.length<=2)&&l.all (fun c=>decide (0<=c/\c<w.jQ.length))
section
variable (w:World)(us:eP)(iw:Nat)(O:Sig)(hw:O iw=some (wObj w us))
include hw
theorem Ld(c:Int)(hl:w.ae.length<=1073741824):ar prog 347 [.ptr iw 0,dI c] O (rS (.bool (decide (3<=c/\c<3+w.ae.length))) O):=by
 unfold wObj at hw;refine en func347 ntmps347 ?_
 repeat' first|refine gf hw ?_|apply gy<;>intro hh
 any_goals (first|exact fe1 trivial|fail)
theorem L9(c:Int)(hl:w.jQ.length<=1073741824):ar prog 388 [.ptr iw 0,dI c] O (rS (.bool (decide (0<=c/\c<w.jQ.length))) O):=by
 unfold wObj at hw;refine en func388 ntmps388 ?_
 repeat' first|refine gf hw ?_|apply gy<;>intro hh
 any_goals (first|exact fe1 trivial|fail)
theorem La(c:Int)(hl:w.ae.length<=1073741824):ar prog 376 [.ptr iw 0,dI c] O (rS (.bool (decide (0<=c/\c<3+w.ae.length))) O):=by
 unfold wObj at hw;refine en func376 ntmps376 ?_
 repeat' first|refine gf hw ?_|apply gy<;>intro hh
 any_goals (first|exact fe1 trivial|fail)
theorem Lb(l:eP)(o:Own)(hl:w.jQ.length<=1073741824)(fX:l.length<=1073741824):ar prog 375 [.ptr iw 0,.slice (cI l) o] O (rS (.bool (Qo w l)) O):=by
 refine en func375 ntmps375 ?_
 repeat' first|refine gz ?_|refine DZ (Gy l (fun c=>decide (0<=c/\c<w.jQ.length)) 388 [.ptr iw 0] [] _ _ fX (fun x _=>L9 w us iw _ hw x hl)) ?_|refine callPG (Gy l (fun c=>decide (0<=c/\c<w.jQ.length)) 388 [.ptr iw 0] [] _ _ fX (fun x _=>L9 w us iw _ hw x hl)) ?_|refine gz ?_|apply gy<;>intro hh
 any_goals (first|(refine fin1 (U':=O) ?_;exact⟨by first|rfl|(simp[Qo];done)|(simp_all [Qo];done)|(rw[Ae,aR];simp_all [Qo]<;>omega),rfl⟩)|fail)
end
def JA(w:World)(f:j8):Bool:=decide (0<=f.arg/\f.arg<3)&&Qo w f.path &&
 (if f.op=2 then decide (f.n=0)&&decide (0<=f.jM/\f.jM<3+w.ae.length) else decide (f.jM=0)&&inB f.n)
def GI(w:World):Nat->j8->Int->Bool×Int
 |0,_,s=>(false,IntKind.i64.wrap (s-1))
 |d+1,f,s=>
  if IntKind.i64.wrap (s-1)<0\/f.op<1\/7<f.op\/f.ag.length≠Cr f.op then(false,IntKind.i64.wrap (s-1)) else
  if CU f.op then(JA w f,IntKind.i64.wrap (s-1)) else
  if f.arg=0/\f.path.length=0/\f.jM=0/\f.n=0 then allS (GI w d) f.ag (IntKind.i64.wrap (s-1)) else(false,IntKind.i64.wrap (s-1))
def QG(iw il d:Nat)(x:j8)(b:Bool)(G:Sig->Prop)(O:Sig)(hd:d<=1000)(h:ar prog 350 [.ptr iw 0,.agg (Cu x),.ptr il 0,dI d] O fun r U'=>r=.ret (.bool b)/\G U'):
  ar prog 377 [.agg (Cu x),.ak [.ptr iw 0] 0,.ak [.ptr il 0] 0,.ak [dI ((d:Int)+1)] 0] O fun r U'=>r=.ret (.bool b)/\G U':=by
 refine en func377 ntmps377 ?_;refine gf (show((d:Int)+1-1)=d by omega) ?_;refine A3 h (fun e S2 hr=>?_);obtain⟨h1,h2⟩:=hr;simp only[DE.ret.injEq]at h1;subst h1;refine gz ?_;refine fin1 (U':=S2) ?_;exact⟨rfl,h2⟩
def Ti(w:World)(us:eP)(iw il:Nat)(S0:Sig)(hw:S0 iw=some (wObj w us))(hne:iw≠il)(eU:w.ae.length<=1073741824)(eV:w.jQ.length<=1073741824):
  ∀(d:Nat) (f:j8) (s:Int) (O:Sig),d<=1000->f.wt<=1073741824->jd (· = il) S0 O->O il=some (.cells [dI s])->
   ar prog 350 [.ptr iw 0,.agg (Cu f),.ptr il 0,dI d] O fun x U'=>x=.ret (.bool (GI w d f s).1)/\(jd (· = il) S0 U'/\U' il=some (.cells [dI (GI w d f s).2])):=by
 intro d;have c9:∀(O:Sig) (o:jP),jd (· = il) S0 O->jd (· = il) S0 (O.set il o):=fun O o h j x h1 h2=>by rw[w7 _ _ h2];exact h j x h1 h2
 induction d with
 |zero=>
  intro f s O hd hf hK hs;have c9:=fun o=>c9 O o hK;refine en func350 ntmps350 ?_
  repeat' first|(refine fin1 (U':=O.set il (.cells [dI (IntKind.i64.wrap (s-1))])) ?_;exact⟨rfl,c9 _,w6 ..⟩)|refine gf hs ?_ o350|apply gy<;>intro hh
 | succ d ih =>
  intro f s O hd hf hK hs;have c9:=fun o=>c9 O o hK;obtain⟨w1,w2,w3⟩:=f.wt_le;have gD:(Cr f.op:Int)<=2:=by unfold Cr;split<;>(try split)<;>omega
  have fp:(O.set il (.cells [dI (IntKind.i64.wrap (s-1))])) iw=some (wObj w us):=c9 _ iw _ hw hne;refine en func350 ntmps350 ?_
  by_cases b9:IntKind.i64.wrap (s-1)<0\/f.op<1\/7<f.op\/f.ag.length≠Cr f.op
  ·have hN:GI w (d+1) f s=(false,IntKind.i64.wrap (s-1)):=by rw[GI,aG b9]
   rw[hN]
   repeat' first|(refine fin1 (U':=O.set il (.cells [dI (IntKind.i64.wrap (s-1))])) ?_;exact⟨rfl,c9 _,w6 ..⟩)|refine gf hs ?_ o350|apply gy<;>intro hh
   all_goals (exfalso;simp_all;omega)
  ·have hN:GI w (d+1) f s=if CU f.op then(JA w f,IntKind.i64.wrap (s-1)) else if f.arg=0/\f.path.length=0/\f.jM=0/\f.n=0 then allS (GI w d) f.ag (IntKind.i64.wrap (s-1)) else(false,IntKind.i64.wrap (s-1)):=by rw[GI,aE b9]
   have b1:¬IntKind.i64.wrap (s-1)<0:=fun h=>b9 (.inl h);have b2:¬f.op<1:=fun h=>b9 (.inr (.inl h));have b3:¬7<f.op:=fun h=>b9 (.inr (.inr (.inl h)));have b4:f.ag.length=Cr f.op:=by omega
   cases eW:CU f.op with
   | true =>
    rw[eW,aG rfl]at hN;rw[hN]
    repeat' first|refine gf (gi hs (gi b1 (gi b4 eW))) ?_|refine DZ (Lb w us iw _ fp f.path .no eV j0) ?_|refine callPG (Lb w us iw _ fp f.path .no eV j0) ?_|refine DZ (La w us iw _ fp f.jM eU) ?_|refine callPG (La w us iw _ fp f.jM eU) ?_|refine gf (gi hs (gi b1 (gi b4 eW))) ?_ o350|apply gy<;>intro hh
    all_goals
     refine fin1 (U':=O.set il (.cells [dI (IntKind.i64.wrap (s-1))])) ?_;refine⟨?_,c9 _,w6 ..⟩
     first|(simp_all [JA,inB];done)|(rw[show DE.ret (D.bool (JA w f,IntKind.i64.wrap (s-1)).1)=DE.ret (D.bool (JA w f)) from rfl,Ae,aR];simp_all [JA,inB];done)|(rw[show DE.ret (D.bool (JA w f,IntKind.i64.wrap (s-1)).1)=DE.ret (D.bool (JA w f)) from rfl,Ae,aR];simp_all [JA,inB];omega)
   | false =>
    rw[eW,aE j1]at hN;rw[hN]
    by_cases h0:f.arg=0/\f.path.length=0/\f.jM=0/\f.n=0
    ·rw[aG h0]
     repeat' first|refine gf (gi hs (gi b1 (gi b4 eW))) ?_ o350|apply gy<;>intro hh
     all_goals try (exfalso;omega)
     have gn:∀x∈f.ag,x.wt<=1073741824:=fun x hx=>by obtain⟨k,hk,rfl⟩:=bT hx;have:=w3 k hk;omega
     refine A3 (N8 f.ag (GI w d) 377 [] [.ak [.ptr iw 0] 0,.ak [.ptr il 0] 0,.ak [dI ((d:Int)+1)] 0] .no (fun U' s'=>jd (· = il) S0 U'/\U' il=some (.cells [dI s'])) j0 (fun x hx U' s' hG=>QG iw il d x _ _ U' j0 (ih x s' U' j0 (gn x hx) hG.1 hG.2)) _ (IntKind.i64.wrap (s-1)) ⟨c9 _,w6 ..⟩) (fun e S2 hr=>?_);obtain⟨h1,h2⟩:=hr;simp only[DE.ret.injEq]at h1;subst h1;refine gz ?_ o350;refine fin1 (U':=S2) ?_;exact⟨rfl,h2⟩
    ·rw[aE h0]
     repeat' first|(refine fin1 (U':=O.set il (.cells [dI (IntKind.i64.wrap (s-1))])) ?_;exact⟨rfl,c9 _,w6 ..⟩)|refine gf (gi hs (gi b1 (gi b4 eW))) ?_ o350|apply gy<;>intro hh
     all_goals (exfalso;omega)
def Eu(w:World)(f:j8):Bool:=(GI w 12 f 24).1
def QJ(w:World)(us:eP)(iw:Nat)(f:j8)(O:Sig)(hw:O iw=some (wObj w us))(eU:w.ae.length<=1073741824)(eV:w.jQ.length<=1073741824)(hf:f.wt<=1073741824):
  ar prog 349 [.agg (Cu f),.ak [.ptr iw 0] 0] O (rS (.bool (Eu w f)) O):=by
 refine en func349 ntmps349 ?_;refine gz ?_ [] [4];refine je (fun il eX=>?_);have hne:iw≠il:=fun e=>by rw[e,eX]at hw;cases hw
 refine gz ?_ [] [4];refine A3 (Ti w us iw il O hw hne eU eV 12 f 24 (O.set il (.cells [dI 24])) j0 hf ((jd.refl _ O).fresh eX) (w6 ..)) (fun e S2 hr=>?_);obtain⟨h1,h2,h3⟩:=hr;simp only[DE.ret.injEq]at h1;subst h1;refine gz ?_ [] [4];refine fin1 (U':=O) ?_ (hZ:=fun j o hj=>h2 j o hj (fun e=>by rw[e,eX]at hj;cases hj));exact⟨rfl,rfl⟩
def NW{α:Type}(q:α->Bool): ∀l:List α,allS (fun x (_:Unit)=>(q x,())) l ()=(l.all q,())
 |[]=>rfl
 |x::r=>by
  rw[allS,cM];cases h:q x
  ·simp
  ·simp only[bq];exact NW q r
def Lf(w:World)(us:eP)(iw:Nat)(l:List j8)(o:Own)(O:Sig)(hw:O iw=some (wObj w us))(eU:w.ae.length<=1073741824)(eV:w.jQ.length<=1073741824)(hl:l.length<=1073741824)(hf:∀f∈l,f.wt<=1073741824):
  ar prog 305 [.ptr iw 0,.slice (l.map Cu) o] O (rS (.bool (l.all (Eu w))) O):=by
 refine en func305 ntmps305 ?_;refine gz ?_;refine A3 (N8 l (fun x (_:Unit)=>(Eu w x,())) 349 [] [.ak [.ptr iw 0] 0] o (fun U' _=>U'=O) hl (fun x hx U' s' hG=>by rw[hG];exact QJ w us iw x O hw eU eV (hf x hx)) _ () rfl) (fun e S2 hr=>?_) (fun e S2 hr=>by cases hr.1);obtain⟨h1,h2⟩:=hr;simp only[DE.ret.injEq]at h1;subst h1;rw[show S2=O from h2];refine gz ?_;rw[NW];exact fe1 trivial
def Le(s c:Int)(O:Sig)(hc:0<=c):ar prog 345 [.int .u64 s,dI c] O fun x U'=>(∃n:Int,x=.ret (.int .u64 n))/\U'=O:=by
 refine en func345 ntmps345 ?_
 try refine gf (PV .u64 .i64 1 c hc) ?_
 refine fin1 (U':=O) ?_;exact⟨⟨_,rfl⟩,rfl⟩
def OP(w:World)(us:eP)(c:Nat)(n:Int)(h:c<us.length):jP.cells (List.take (2+c) (sl (cII w.ae)::sl (cI w.jQ)::List.map (D.int IntKind.u64) us)++D.int IntKind.u64 n::List.drop (2+c) (sl (cI w.jQ)::List.map (D.int IntKind.u64) us))=wObj w (us.set c n):=by
 rw[show 2+c=c+1+1 by omega];simp only[List.take_succ_cons,List.drop_succ_cons,bH];unfold wObj;rw[dX,bL,aG (by simpa using h)]
def QM(w:World)(O:Sig)(hg:Bk w.ae=true)(fY:∀x∈w.ae,x.length<=1073741824)(ho:w.jQ.length<=40)(gk:∀c∈w.jQ,3<=c/\c<3+w.ae.length):
  ar prog 304 [.agg (Dg w)] O fun x U'=> ∃iw us,O iw=none/\x=.ret (.tup [.ptr iw 0,.bool true])/\U'=O.set iw (wObj w us):=by
 have hlen:=E9 hg;refine en func304 ntmps304 ?_
 repeat ((fail_if_success (first|(refine boxV (T:=421) (fun iw f0=>?_))|fail));(first|refine go1 trivial ?_|with_reducible refine HU ?_))
 refine boxV (T:=421) (fun iw f0=>?_);refine C9 (OL (U':=O.set iw (wObj w (List.replicate 63 0))) (by exact Sub.refl _)) ?_
 try refine gz ?_ o304
 refine BO ([1,2,3,4,6,7,8,9,10]++List.range' 35 56) (fun (c:Nat) (us:eP)=>c<=3/\us.length=63) (fun c _=>[(24,dI c)]) (fun _ us=>O.set iw (wObj w us)) (fun c _=>3-c) (0) (List.replicate 63 0) j1 (fun c us hI=>?_);obtain⟨hc,fQ⟩:=hI;have fm:wObj w us=.cells (sl (cII w.ae)::sl (cI w.jQ)::us.map (D.int .u64)):=rfl
 by_cases gF:c<3
 ·try refine gz ?_ o304
  refine AX (Le 1 c _ j0) (fun d U' h=>?_) (fun d U' h=>by obtain⟨⟨n,h⟩,_⟩:=h;cases h);obtain⟨⟨n,h⟩,rfl⟩:=h;simp only[DE.ret.injEq]at h;subst h;refine⟨Sub.refl _,?_⟩
  try refine gf fm ?_ o304
  rw[OP _ _ _ _ j0];exact⟨c+1,us.set c n,by simp;omega,td1,wkR⟩
 ·try refine gz ?_ o304
  refine BO [1,4,36,37,85,86,87,88,89,90] (fun (i:Nat) (us:eP)=>i<=w.ae.length/\us.length=63) (fun i _=>[(38,dI i)]) (fun _ us=>O.set iw (wObj w us)) (fun i _=>w.ae.length-i) (0) (us) (by exact⟨j0,fQ⟩) (fun i us hI=>?_);obtain⟨hi,fQ⟩:=hI;have fm:wObj w us=.cells (sl (cII w.ae)::sl (cI w.jQ)::us.map (D.int .u64)):=rfl
  by_cases eX:i<w.ae.length
  ·have fa:=Gb (by simpa[Bk] using hg:w.ae.length<=16/\Cq 0 w.ae=true).2 i eX;generalize hr:w.ae[i]=row at*;simp only[Ih,aF,aH,co]at fa
   try refine gf hr ?_ o304
   refine A3 (Le 1 (3+i) _ j0) (fun d U' h=>?_) (fun d U' h=>by obtain⟨⟨n,h⟩,_⟩:=h;cases h);obtain⟨⟨n,h⟩,rfl⟩:=h;simp only[DE.ret.injEq]at h;subst h
   try refine gf hr ?_ o304
   refine BO ([1,4,6,7]++List.range' 36 12++List.range' 77 14) (fun (k:Nat) (n:Int)=>k<=row.length/\DW i (row.take k) (row.drop k)=true) (fun k n=>[(48,dI k),(8,.int .u64 n)]) (fun _ _=>O.set iw (wObj w us)) (fun k _=>row.length-k) (0) (n) (by exact⟨j0,by simpa using fa.2⟩) (fun k n hI=>?_);obtain⟨hk,hE⟩:=hI
   by_cases fu:k<row.length
   ·rw[A6 fu,DW,<-Ek fu]at hE;simp only[aF,aH,bp,bh]at hE;obtain⟨q,hq⟩:∃q:Nat,row[k]=(q:Int):=⟨(row[k]).toNat,j0⟩;rw[hq]at hE
    have d6:(sl (cII w.ae)::sl (cI w.jQ)::List.map (D.int IntKind.u64) us)[2+q]? = some (D.int IntKind.u64 (us[q]'(by omega))):=by
     rw[show 2+q=q+1+1 by omega,du,du,bA,aD j0];rfl
    try refine gf (gi fm (gi hq (gi hE.1.2 d6))) ?_ o304
    exact⟨k+1,_,⟨j0,hE.2⟩,td1,wkR⟩
   ·
    try refine gf (gi hr fm) ?_ o304
    rw[show 2+(3+(i:Int)).toNat=2+(3+i) by omega,OP _ _ _ _ j0];exact⟨i+1,us.set (3+i) n,by simp;omega,td1,wkR⟩
  ·repeat' first|refine gz ?_|refine Bh (Gy w.jQ (fun c=>decide (3<=c/\c<3+w.ae.length)) 347 [.ptr iw 0] [] _ _ j0 (fun x _=>Ld w us iw _ (w6 ..) x j0)) ?_|refine callP (Gy w.jQ (fun c=>decide (3<=c/\c<3+w.ae.length)) 347 [.ptr iw 0] [] _ _ j0 (fun x _=>Ld w us iw _ (w6 ..) x j0)) ?_|refine gz ?_ o304|apply gy<;>intro hh
   refine kM (U':=O.set iw (wObj w us)) ?_;refine⟨iw,us,f0,?_,rfl⟩;rw[aW.2 fun c hc=>by have:=gk c hc;simpa using this]
end Go.DL
