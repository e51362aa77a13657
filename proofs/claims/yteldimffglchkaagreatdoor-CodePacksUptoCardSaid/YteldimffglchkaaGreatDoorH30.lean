/- A part of the proof. -/
import Derived.Test.YteldimffglchkaaGreatDoorH26
import Derived.Test.YteldimffglchkaaGreatDoorH25
import Derived.Test.YteldimffglchkaaGreatDoorH29
import Derived.Test.YteldimffglchkaaGreatDoorH23
import Derived.Test.YteldimffglchkaaGreatDoorH24
import Derived.Test.YteldimffglchkaaGreatDoorH14
import Derived.Test.YteldimffglchkaaGreatDoorH11
set_option linter.all false
namespace Go.DL
open Go.Proofs.Tryz
open Go Go.Proofs
set_option maxHeartbeats 8000000
theorem ND(n:Int)(O:Sig):DCall prog 19 [dI n] O (rS (.agg (cVal (vInt n))) O):=by
 refine en func19 ntmps19 ?_
 refine gz ?_ [] [2]
 refine newV (fun i hi=>?_)
 refine gz ?_ [] [2]
 exact finC (U':=O) ⟨rfl,rfl⟩
@[reducible,instance] def a19:=fun n O=>ah0 (@ND n O)
theorem TX(a b:List MVal)(o o':Own)(O:Sig)(h1:a.length<=1073741824:=by exact sd)(h2:b.length<=1073741824:=by exact sd):DCall prog 53 [.slice (a.map cVal) o,.slice (b.map cVal) o'] O (rS (.bool (decide (a=b))) O):=by
 refine en func53 ntmps53 ?_
 by_cases hc:a.length=b.length
 ·refine gf hc ?_ o53
  refine Cx [0,1] (fun (k:Nat)=>k<=a.length /\ ∀j (h1:j<a.length) (h2:j<b.length),j<k->a[j]=b[j]) (fun k=>[(5,dI k)]) (fun _=>O) (fun k=>a.length-k) (0) (by exact⟨by omega,fun j _ _ h=>by omega⟩) (fun k hI=>?_)
  obtain⟨hk,hE⟩:=hI
  by_cases bj:k<a.length
  ·have bz:k<b.length:=by omega
   refine gf hc ?_ o53
   refine I4 (r:=decide (a[k]=b[k])) (xs:=cVal a[k]) (ys:=cVal b[k]) Ac NH rfl rfl rfl rfl Np (Ud _ _) ?_
   by_cases hx:a[k]=b[k]
   ·refine gf hx ?_ o53
    exact⟨k+1,⟨by omega,fun j h1 h2 h3=>by by_cases e:j=k;(subst e;exact hx);exact hE j h1 h2 (by omega)⟩,td1,wkR⟩
   ·have hne:¬a=b:=fun e=>hx (by simp[e])
    refine gf hx ?_ o53
    exact fe1 hne
  ·have bn:a=b:=List.ext_getElem hc fun j h1 h2=>hE j h1 h2 (by omega)
   refine gz ?_ o53
   exact fin1 (U':=O) ⟨by rw[decide_eq_true bn],rfl⟩
 ·have hne:¬a=b:=fun e=>hc (by rw[e])
  refine gz ?_ o53
  exact fe1 hne
section
variable {P:Program}{ro:Ro}{n:Nat}{ops:Array Oper}{N:Nat}{S0:Sig}{Q:DX->St->Prop}{df:List DDf}{γ Sr:List (Nat×D)}{O:Sig}{t:Nat}{ty:TypeId}{pos:String}{after:Array Edge}{l:List (Bool×Oper)}{e:Bool}
theorem mo_eqlG{tab:Nat->Ty}(ht:AZ P tab){T u:Nat}{x y:Operand}{xs ys:List D}{gd:Option (Nat×Bool)}(fs:List (Nat×Nat))(r:Bool)(hE:EqTy P T)(hk:(tab T).k=.struct fs)(hd:eqFs tab xs ys fs=some r)
  (h:MO P ro n ops N S0 Q df l ((t,.bool r)::γ) O) (hw:Ay ops γ ⟨some t,.binOp .eql T x y u,ty,pos,after,gd⟩=some true) (ai:decide (t<n)=true) (hl:A0 γ (A5 [x,y])=some Sr) (hx:ev Sr x=.agg xs) (hy:ev Sr y=.agg ys):MO P ro n ops N S0 Q df ((e,⟨some t,.binOp .eql T x y u,ty,pos,after,gd⟩)::l) γ O:=by
 have hc:∀z∈[x,y],ev Sr z=ev γ z:=fun z hz=>B4 fun t ht=>As hl t (Ax (by rw[<-ht];exact hz))
 have aB:∀z∈[x,y],ev (only (Oper.looksAt ops ⟨some t,.binOp .eql T x y u,ty,pos,after,gd⟩) γ) z=ev γ z:=fun z hz=>Bk (o:=⟨some t,.binOp .eql T x y u,ty,pos,after,gd⟩) (by simp at hz;rcases hz with rfl|rfl<;>simp[Op.operands])
 refine .inl ⟨.bool r,⟨ai,.inl ⟨by rw[Ag];exact hw,(fun c e=>by cases e),Aa (fun c e=>by cases e),fun U' hU g w a hs hT=>?_⟩⟩,h⟩
 have:=Ht (dst:=some t) (ty:=ty) (pos:=pos) (after:=after) (guard:=gd) (u:=u) ht hs hT hE hk (by rw[aB x (by simp),<-hc x (by simp)];exact hx) (by rw[aB y (by simp),<-hc y (by simp)];exact hy) hd false
 simpa using this
end
theorem TW(O:Sig):DCall prog 56 [] O (rS (.agg (Aj exB)) O):=by
 refine en func56 ntmps56 ?_
 refine gz ?_ [] [0]
 refine newV (fun i hi=>?_)
 refine gz ?_ [] [0]
 have e:Aj exB=[sl [[sl [],sl [[dI 0]],sl [[dI 0,dI 7]]],[sl [[dI 3]],sl [[dI 1]],sl []],[sl [[dI 4],[dI 3]],sl [],sl [[dI 0,dI 1]]]],dI 2,sl [[dI 1]],sl [[dI 1,dI 0,dI 2,dI 0,sl [],dI 3,dI 0,sl [],dI 0],[dI 2,dI 0,dI 3,dI 0,sl [[dI 0]],dI 0,dI 5,sl [],dI 3]],sl [[dI 17,dI 0,sl [[dI 1]]],[dI 4,dI 0,sl [[dI 2]]],[dI 3,dI 0,sl []],[dI 9,dI 0,sl [[dI 4],[dI 5]]],[dI 3,dI 0,sl []],[dI 3,dI 1,sl []],[dI 5,dI 0,sl [[dI 7]]],[dI 6,dI 5,sl []]],dI 6]:=by
  simp[exB,cI,Fi,Fact.op,Fact.arg,Fact.path,Fact.cls,Fact.n,Fact.kids]
 refine finC (U':=O) ⟨rfl,rfl⟩ (hw:=?_)
 rw[e]
 refine Pa ?_
 repeat' (first|exact A8 _|exact Ao _ (.inl rfl)|exact trivial|refine J3 _ ?_|refine⟨?_,?_⟩)
@[reducible,instance] def a56:=fun O=>ah0 (@TW O)
theorem U9(O:Sig):E5 prog 16 [] O (rS (.bool true) O):=by
 have w3:exB.wt<=1073741824:=by decide +kernel
 have bc:(C3 exB exC).isSome=true:=by
  have h:=RX
  cases e:C3 exB exC with
  |none=>rw[e]at h;cases h
  |some W=>rfl
 have a8:=fun O:Sig=>U8 exB O w3
 have aZ:=fun O:Sig=>U7 exB exC O w3 (by decide) (by decide)
 have aG:=fun O:Sig=>NC exC O (by decide) (by decide)
 have aX:=fun O:Sig=>U1 exC O (by decide) (by decide)
 rw[ex_code,Ub]at a8
 rw[RX,bc]at aZ
 rw[Ua]at aG aX
 have i18:∀O,Ans 18 [.agg (Aj exB)] O True (.tup [.agg (cCPg exC),dI 0]):=fun O=>ah0 (a8 O)
 have i25:∀O,Ans 25 [.agg (Aj exB),.agg (cCPg exC)] O True (.tup [sl (exL.map cLev),dI 0]):=fun O=>ah0 (aZ O)
 have i36:∀O,Ans 36 [.agg (cCPg exC)] O True (.tup [.str (BD exC),dI 0]):=fun O=>ah0 (aG O)
 refine enW func16 ntmps16 ?_
 refine gz ?_ o16
 refine DC (aX O) (fun d S1 hr=>?_) (fun d S1 hr=>by cases hr.1)
 obtain⟨hd,rfl⟩:=hr
 cases hd
 refine gf (gi RV (gi NG UL)) ?_ o16
 refine neqS _ (decide ((⟨0,2⟩:CLev)=⟨0,2⟩)) Se Qb (eqLev ⟨0,2⟩ ⟨0,2⟩) ?_
 refine gf (gi RV (gi NG UL)) ?_ o16
 have g1:=fun O:Sig=>Is exB exC [] 9 [] [] .no O w3 (by decide) (by decide) (by decide) (by simp) (by decide) (by decide)
 have g2:=fun (o:Own) (O:Sig)=>Is exB exC [⟨5,[vInt 1,Eb]⟩] 0 [] [vObj 0] o O w3 (by decide) (by decide) (by decide) (by simp) (by decide) (by decide)
 have g3:=fun O:Sig=>Is exB exC [] 0 [] [vInt 3] .no O w3 (by decide) (by decide) (by decide) (by simp) (by decide) (by decide)
 rw[ex_go1]at g1
 rw[ex_go2]at g2
 rw[ex_go3]at g3
 have e1:Es exH1=[dI 2,dI 0,dI 0,dI 0,sl [[dI 3,dI 0]],dI 0,dI 11,sl [],sl [],sl [[dI 5,sl [[dI 1,dI 1],[dI 2,dI 0]]]],sl []]:=rfl
 have e2:Es exH2=[dI 1,dI 1,dI 1,dI 0,sl [],dI 0,dI 0,sl [],sl [],sl [[dI 5,sl [[dI 1,dI 1],[dI 2,dI 0]]]],sl [[dI 2,dI 0,.slice [[dI 1,dI 1]] .clip]]]:=rfl
 have e3:Es exH3=[dI 4,dI 0,dI 0,dI 0,sl [],dI 5,dI 0,sl [],sl [],sl [],sl []]:=rfl
 simp only[Option.getD_some,Option.isSome_some,if_true,e1]at g1
 simp only[Option.getD_some,Option.isSome_some,if_true,e2]at g2
 simp only[Option.getD_some,Option.isSome_some,if_true,e3]at g3
 have br:=fun (O:Sig)=>TX [vObj 0] [vObj 0] .no .clip O (by decide) (by decide)
 have aF:∀O,DCall prog 53 [sl [[dI 3,dI 0]],.slice [[dI 3,dI 0]] .clip] O (rS (.bool true) O):=fun O=>(br O).mono fun x U' ⟨h1,h2⟩=>⟨by rw[h1];simp,h2⟩
 refine rtl 73 (.agg (cFr 9 [] [])) ?_ (hw:=E9 ⟨A8 _,Ao _ (.inl rfl),Ao _ (.inl rfl),trivial⟩)
 refine SA (g1 S1) (fun d S2 hr=>?_) (fun d S2 hr=>by cases hr.1)
 obtain⟨hd,rfl⟩:=hr
 cases hd
 repeat' first|refine gz ?_|refine CU (aF _) ?_|refine callPG (aF _) ?_|refine gz ?_ o16|apply gy<;>intro hh
 refine rtl 111 (.agg (cFr 0 [] [vObj 0])) ?_ (hw:=E9 ⟨A8 _,Ao _ (.inl rfl),A8 _,trivial⟩)
 refine SA (g2 .no S2) (fun d S3 hr=>?_) (fun d S3 hr=>by cases hr.1)
 obtain⟨hd,rfl⟩:=hr
 cases hd
 have g3':∀O,DCall prog 13 [.agg (Aj exB),.agg (cCPg exC),.nils,.agg [dI 0,.nils,.slice [[dI 1,dI 3]] .clip]] O (rS (.tup [.agg [dI 4,dI 0,dI 0,dI 0,sl [],dI 5,dI 0,sl [],sl [],sl [],sl []],dI 0]) O):=fun O=>(g3 O).wk ⟨A8 _,A8 _,Ao _ (.inl rfl),E9 ⟨A8 _,Ao _ (.inl rfl),Bm _ _,trivial⟩,trivial⟩
 refine gz ?_ (delO 12 o16)
 refine mix (id:=12) [0,1,2,3,4,5,6,7,8,9,10,11] [9,10] ?_
 refine gz ?_ o16
 refine moQWR (fun U' _=>(ND 3 U').mono fun x S'' hx=>⟨hx.1,hx.2 ▸ Sub.refl _⟩) ?_
 refine gz ?_ o16
 refine moQWR (fun U' _=>(g3' U').mono fun x S'' hx=>⟨hx.1,hx.2 ▸ Sub.refl _⟩) ?_
 refine gz ?_ o16
 refine I5 (fun i12 aM=>?_)
 have bd:Sub S3 ((S3.set i12 (.cells [.int .i64 0,.int .i64 0,.int .i64 0,.int .i64 0,.nils,.int .i64 0,.int .i64 0,.nils,.nils,.nils,.nils])).set i12 (.cells [dI 4,dI 0,dI 0,dI 0,sl [],dI 5,dI 0,sl [],sl [],sl [],sl []])):=fun j o hj=>by
  have:=Ae hj aM
  rw[w7 _ _ this,w7 _ _ this];exact hj
 refine FG Ac tdR (by simp;rfl) bd ?_
 simp only[w8]
 refine gz ?_ o16
 refine mo_eqlG Ac _ (decide (vInt 1=vInt 1)) NH Np (Ud (vInt 1) (vInt 1)) ?_ tdR tdR tdR tdR tdR
 refine gz ?_ o16
 exact fin1 (U':=S3) ⟨rfl,rfl⟩
def zC:CProg:=⟨[],[],0⟩
def rdC(s:Str):CProg×Int:=if s.length<=5000 then(match DI s with
 |none=>(zC,4)
 |some c=>(c,0)) else(zC,3)
theorem NZ(e:D):WkD (.tup [.agg [.nils,.nils,dI 0],e]) (.tup [.agg (cCPg zC),e]):=
 CA ⟨E9 ⟨Ao _ (.inl rfl),Ao _ (.inl rfl),A8 _,trivial⟩,A8 _,trivial⟩
theorem U4(s:Str)(O:Sig)(hs:s.length<=1073741824):DCall prog 38 [.str s] O (rS (.tup [.agg (cCPg (rdC s).1),dI (rdC s).2]) O):=by
 refine en func38 ntmps38 ?_
 by_cases hl:s.length<=5000
 rotate_left
 ·have hr:rdC s=(zC,3):=by unfold rdC;rw[if_neg hl]
  rw[hr]
  refine gz ?_ [] [2,4]
  refine newV (fun i hi=>?_)
  refine gf hl ?_ [] [2,4]
  refine finC (U':=O) (d:=.tup [.agg (cCPg zC),dI 3]) ⟨rfl,rfl⟩ (hw:=?_)
  exact NZ _
 ·refine gz ?_ [] [2,4]
  refine newV (fun i2 ak=>?_)
  refine gf hl ?_ [] [2,4]
  refine newV (fun i4 bm=>?_)
  refine gz ?_ [] [2,4]
  obtain⟨n24,au⟩:=B2 bm
  have o4:((O.set i2 (.cells [.nils,.nils,dI 0])).set i4 (.cells [.nils,.nils,dI 0])) i4=some (.cells [.nils,.nils,dI 0]):=w6 ..
  have o2:((O.set i2 (.cells [.nils,.nils,dI 0])).set i4 (.cells [.nils,.nils,dI 0])) i2=some (.cells [.nils,.nils,dI 0]):=by rw[w7 _ _ n24.symm,w6]
  have hS:Sub O ((O.set i2 (.cells [.nils,.nils,dI 0])).set i4 (.cells [.nils,.nils,dI 0])):=((Sub.refl _).set ak).set au
  have hr:rdC s=match DI s with
   |none=>(zC,4)
   |some c=>(c,0):=by unfold rdC;rw[if_pos hl]
  change DOps _ _ _ _ _ _ ⟨_,(O.set i2 (.cells [.nils,.nils,dI 0])).set i4 (.cells [.nils,.nils,dI 0]),_⟩
  generalize (O.set i2 (.cells [.nils,.nils,dI 0])).set i4 (.cells [.nils,.nils,dI 0])=S0 at*
  have aL:∀i,S0 i=none->i≠i4:=fun i hi e=>by rw[e,o4]at hi;cases hi
  refine A4 (Ny 77 [.cptr [.str s] 0,.ptr i4 0] S0 (fun S1=>RdR s i4 S1) (fun i hi=>TR s i4 _ hl (by rw[w7 _ _ (aL i hi).symm];exact o4)) (fun S1 d S2 h=>?_) (fun i S2 x hi h=>h.1 i _ (w6 ..) (aL i hi))) (fun d U' ar=>?_) (fun d U' ar=>?_)
  ·obtain⟨_,h⟩:=h
   split at h
   ·simpa using h
   ·exact absurd h.1 (by simp)
  ·obtain⟨i,S2,hi,rfl,ar⟩:=ar
   have aD:∀j o,S0 j=some o->j≠i4->(S0.set i (.cells [.bool false])) j=some o/\j≠i:=fun j o hj e=>by
    have e2:j≠i:=fun e2=>by rw[e2,hi]at hj;cases hj
    exact⟨by rw[w7 _ _ e2];exact hj,e2⟩
   rcases ar with⟨e,⟨hK,h⟩,h2⟩|⟨⟨hK,h⟩,h2⟩
   ·cases h2
    split at h
    ·cases h
    ·rename_i c hc
     obtain⟨_,ho⟩:=h
     rw[hc]at hr
     have aC:∀j o,S0 j=some o->j≠i4->(S2.del i) j=some o:=fun j o hj e=>by
      obtain⟨q1,q2⟩:=aD j o hj e
      simp only[Sig.del,q2,if_false];exact hK j o q1 e
     have p2:=aC _ _ o2 n24.symm
     have p4:(S2.del i) i4=some (.cells (cCPg c)):=by simp only[Sig.del,(aL i hi).symm,if_false];exact ho
     have pS:∀j o,O j=some o->j≠i4->(S2.del i) j=some o:=fun j o hj e=>aC j o (hS j o hj) e
     generalize S2.del i=S3 at*
     refine gf (gi p2 p4) ?_ [] [2,4]
     refine finC (U':=O) (d:=.tup [.agg (cCPg (rdC s).1),dI (rdC s).2]) ⟨rfl,rfl⟩ (hw:=?_) (hU:=fun j o hj=>?_)
     ·rw[hr];exact A8 _
     ·have e2:=Ae hj ak
      have e4:=Ae hj au
      rw[w7 _ _ e2];exact pS j o hj e4
   ·cases h2
    split at h
    ·rename_i hc
     rw[hc]at hr
     have aC:∀j o,S0 j=some o->j≠i4->(S2.del i) j=some o:=fun j o hj e=>by
      obtain⟨q1,q2⟩:=aD j o hj e
      simp only[Sig.del,q2,if_false];exact hK j o q1 e
     have p2:=aC _ _ o2 n24.symm
     have pS:∀j o,O j=some o->j≠i4->(S2.del i) j=some o:=fun j o hj e=>aC j o (hS j o hj) e
     generalize S2.del i=S3 at*
     refine gf p2 ?_ [] [2,4]
     refine finC (U':=O) (d:=.tup [.agg (cCPg (rdC s).1),dI (rdC s).2]) ⟨rfl,rfl⟩ (hw:=?_) (hU:=fun j o hj=>?_)
     ·rw[hr];exact NZ _
     ·have e2:=Ae hj ak
      have e4:=Ae hj au
      rw[w7 _ _ e2];exact pS j o hj e4
    ·exact absurd h.1 (by simp)
  ·obtain⟨i,S2,hi,rfl,ar⟩:=ar
   rcases ar with⟨e,_,h2⟩|⟨_,h2⟩<;>cases h2
theorem Mx(l:Str)(b:Nat):(⟨l.toArray⟩:ByteArray).extract b (ByteArray.size ⟨l.toArray⟩)=⟨(l.drop b).toArray⟩:=by
 apply ByteArray.ext
 simp[ByteArray.data_extract,ByteArray.size,List.take_of_length_le]
section
variable {P:Program}{tab:Nat->Ty}(ht:AZ P tab){ro:Ro}{n:Nat}{ops:Array Oper}{Q:DX->St->Prop}{df:List DDf}{rest:List Oper}{γ:List (Nat×D)}{O:Sig}
include ht
theorem JF{t T ty:Nat}{k:IntKind}{x y:Operand}{s:Str}{lo:Nat}{pos:String}{after:Array Edge}{gd:Option (Nat×Bool)}(hw:Ay ops γ ⟨some t,.slice T x (some y) none none,ty,pos,after,gd⟩=some true)
  (h:DOps P ro n ops Q rest ⟨(t,.str (s.drop lo))::γ,O,df⟩) (ai:t<n) (hk:(tab T).k=.str) (h1:ev γ x=.str s) (h2:ev γ y=.int k lo) (aI:lo<=s.length) :
  DOps P ro n ops Q (⟨some t,.slice T x (some y) none none,ty,pos,after,gd⟩::rest) ⟨γ,O,df⟩:=by
 refine Bs (fun d U'=>d=.str (s.drop lo)/\U'=O) hw (fun c e=>by cases e) (Aa fun c e=>by cases e) (by simp[Ar,ai]) ?_
  (fun d U' ⟨a2,a3⟩=>by subst a2 a3;exact h)
 intro g w a hs hT
 have hx:=Al hT x
 have hy:=Al hT y
 rw[h1]at hx
 rw[h2]at hy
 have hv:a.eval x=.string ⟨s.toArray⟩:=hx
 have hu:=AO hy
 have hsz:ByteArray.size ⟨s.toArray⟩=s.length:=by simp[ByteArray.size]
 have c1:(0:Int)<=(lo:Int):=by omega
 have c2:(lo:Int)<=((ByteArray.size ⟨s.toArray⟩:Nat):Int):=by omega
 have c3:(0:Int)<=((ByteArray.size ⟨s.toArray⟩:Nat):Int):=by omega
 have hr:(Instr.sliceAt T (a.eval x) (some (a.eval y)) none none).run P w=.ok (.string ⟨(s.drop lo).toArray⟩) w:=by
  rw[hv,hu]
  simp only[Instr.sliceAt,Instr.slice,Instr.sliceBounds,Instr.sliceBound,asIntOf,Sem.run_bind,Sem.run_pure,Result.andThen_ok,run_underlying (Ey ht hk),c1,c2,c3,and_self,if_true,Int.toNat_natCast,Option.isSome_none,Bool.false_eq_true,if_false,Mx,Int.le_refl]
 exact⟨g,w,.string ⟨(s.drop lo).toArray⟩,.str (s.drop lo),O,by simp only[execOp,Option.map_some,Option.map_none,Sem.run_bind,hr,Result.andThen_ok,Sem.run_pure],.refl g,hs,rfl,rfl,rfl⟩
end
section
variable {ro:Ro}{n N:Nat}{ops:Array Oper}{Q:DX->St->Prop}{df:List DDf}{rest:List Oper}{γ Sr:List (Nat×D)}{O S0:Sig}{t:Nat}{ty:TypeId}{pos:String}{after:Array Edge}{T:Nat}{x y:Operand}{k:IntKind}{s:Str}{lo:Nat}
theorem cutSL(s':Str)(h:DOps prog ro n ops Q rest ⟨(t,.str s')::γ,O,df⟩)(hs:s.drop lo=s')(aI:lo<=s.length)(hl:A0 γ (A5 [x,y])=some Sr:=by exact tdR)(hx:ev Sr x=.str s:=by exact tdR)(hy:ev Sr y=.int k lo:=by exact tdR)(ai:decide (t<n)=true:=by exact tdR)
  (hk:(tab T).k=.str:=by(simp<;>rfl)) :
  DOps prog ro n ops Q (⟨some t,.slice T x (some y) none none,ty,pos,after,none⟩::rest) ⟨γ,O,df⟩:=by
 subst hs
 obtain⟨e1,e2⟩:=evs hl
 exact JF Ac rfl h (by simpa using ai) hk (by rw[<-e1];exact hx) (by rw[<-e2];exact hy) aI
theorem To{ef:Bool}{l:List (Bool×Oper)}(s':Str)(h:MO prog ro n ops N S0 Q df l ((t,.str s')::γ) O)(hs:s.drop lo=s')(aI:lo<=s.length)(hl:A0 γ (A5 [x,y])=some Sr:=by exact tdR)(hx:ev Sr x=.str s:=by exact tdR)(hy:ev Sr y=.int k lo:=by exact tdR)(ai:decide (t<n)=true:=by exact tdR)
  (hk:(tab T).k=.str:=by(simp<;>rfl)) :
  MO prog ro n ops N S0 Q df ((ef,⟨some t,.slice T x (some y) none none,ty,pos,after,none⟩)::l) γ O:=by
 subst hs
 have aB:∀z∈(Op.slice T x (some y) none none).operands,ev (only (Oper.looksAt ops ⟨some t,.slice T x (some y) none none,ty,pos,after,none⟩) γ) z=ev γ z:=fun z hz=>Bk (o:=⟨some t,.slice T x (some y) none none,ty,pos,after,none⟩) hz
 have aR:∀z∈[x,y],ev Sr z=ev γ z:=fun z hz=>B4 fun t ht=>As hl t (Ax (by rw[<-ht];exact hz))
 refine Kj (.str (s.drop lo)) ai rfl (by rw[Ag];rfl) (fun U' bB ro' df'=>?_) h
 refine JF Ac (by rw[Ag];rfl) (Au ⟨rfl,?_⟩) (by simpa using ai) hk (by rw[aB x (by simp[Op.operands]),<-aR x (by simp)];exact hx) (by rw[aB y (by simp[Op.operands]),<-aR y (by simp)];exact hy) aI
 simp only[A3,if_true]
 exact⟨trivial,Sub.refl _⟩
end
def grpF:Nat->Nat->Str->Int×Str
 |0,_,_=>(-1,[])
 |_+1,_,[]=>(-1,[])
 |k+1,n,c::s=>if c<128 then(((n*128+c.toNat % 128:Nat):Int),s) else grpF k (n*128+c.toNat % 128) s
def grpX(s:Str):Int×Str:=grpF 6 0 s
theorem grpF_of: ∀(k:Nat) (z:Bool) (n:Nat) (s:Str) (m:Nat) (r:Str),grpB k z n s=some (m,r)->grpF k n s=((m:Int),r)
 |0,_,_,_,_,_,h=>by rw[grpB]at h;cases h
 |_+1,_,_,[],_,_,h=>by rw[grpB]at h;cases h
 | k+1,z,n,c::s,m,r,h=>by
  rw[grpB]at h
  rw[grpF]
  split at h
  ·cases h
  ·split at h
   ·rename_i c1;cases h;rw[if_pos c1]
   ·rename_i c1;rw[if_neg c1];exact grpF_of k _ _ _ _ _ h
theorem MD{s:Str}{n:Int}{r:Str}(h:grpI s=some (n,r)):grpX s=(n,r):=by
 unfold grpI at h
 split at h
 ·cases h
 ·rename_i m t e
  cases h
  exact grpF_of _ _ _ _ _ _ e
theorem Qj: ∀(k n:Nat) (s:Str), -1<=(grpF k n s).1/\(grpF k n s).1<((n+1)*128 ^ k:Nat)/\(grpF k n s).2.length<=s.length
 |0,_,_=>⟨by simp[grpF],by simp only[grpF];omega,by simp[grpF]⟩
 |_+1,_,[]=>⟨by simp[grpF],by simp only[grpF];omega,by simp[grpF]⟩
 | k+1,n,c::s=>by
  have hp:1<=128 ^ k:=Nat.pow_pos (by omega)
  have hc:n*128+c.toNat % 128+1<=(n+1)*128:=by omega
  have e:(n+1)*128 ^ (k+1)=(n+1)*128*128 ^ k:=by rw[Nat.pow_succ,Nat.mul_assoc,Nat.mul_comm 128]
  have hq:(n*128+c.toNat % 128+1)*128 ^ k<=(n+1)*128*128 ^ k:=Nat.mul_le_mul_right _ hc
  have bx:n*128+c.toNat % 128+1<=(n*128+c.toNat % 128+1)*128 ^ k:=Nat.le_mul_of_pos_right _ hp
  rw[grpF,e]
  split
  ·exact⟨by simp only;omega,by simp only;omega,by simp⟩
  ·obtain⟨h1,h2,h3⟩:=Qj k (n*128+c.toNat % 128) s
   exact⟨h1,by omega,by rw[List.length_cons];omega⟩
theorem Gj(s:Str)(O:Sig)(hs:s.length<=1000000):DCall prog 81 [.str s] O (rS (.tup [dI (grpX s).1,.str (grpX s).2]) O):=by
 refine en func81 ntmps81 ?_
 refine gz ?_ o81
 refine Cw [0] (fun (k:Nat) (n:Nat)=>k<=6/\k<=s.length/\n<128 ^ k/\grpX s=grpF (6-k) n (s.drop k)) (fun k n=>[(4,dI n),(5,dI k)]) (fun _ _=>O) (fun k _=>6-k) (0) (0) (by exact⟨by omega,by omega,by omega,rfl⟩) (fun k n hI=>?_)
 obtain⟨hk,bj,hn,hG⟩:=hI
 by_cases c1:k<s.length
 rotate_left
 ·have hr:grpX s=(-1,[]):=by rw[hG,List.drop_eq_nil_of_le (by omega)];cases (6-k)<;>rfl
  rw[hr]
  refine gz ?_ o81
  refine fin2 (U':=O) ⟨rfl,rfl⟩
 by_cases c2:k<6
 rotate_left
 ·have hr:grpX s=(-1,[]):=by rw[hG,show 6-k=0 by omega];rfl
  rw[hr]
  refine gz ?_ o81
  refine fin2 (U':=O) ⟨rfl,rfl⟩
 have hp:(128:Nat) ^ k<=128 ^ 5:=Nat.pow_le_pow_right (by omega) (by omega)
 obtain⟨j,hj⟩:∃j,6-k=j+1:=⟨5-k,by omega⟩
 have aT:s[k]? = some s[k]:=List.getElem?_eq_getElem c1
 have aE:(s[k]<128) ↔ s[k].toNat<128:=UInt8.lt_iff_toNat_lt
 have bp:=s[k].toNat_lt
 rw[Ab c1,hj,grpF]at hG
 simp only[aE]at hG
 obtain⟨y,hy⟩:∃y,s[k].toNat=y:=⟨_,rfl⟩
 simp only[hy]at hG bp
 have hm:Int.tmod (y:Int) 128=((y % 128:Nat):Int):=rfl
 have bi:(n*128+y % 128)<128 ^ (k+1):=by
  rw[Nat.pow_succ]
  generalize 128 ^ k=q at*
  omega
 by_cases c3:y<128
 ·rw[if_pos c3]at hG
  rw[hG]
  refine gf (gi aT (gi hy hm)) ?_ o81
  refine To (s.drop (k+1)) ?_ rfl (by omega)
  refine gz ?_ o81
  refine fin2 (U':=O) ⟨rfl,rfl⟩
 ·rw[if_neg c3]at hG
  refine gf (gi aT (gi hy hm)) ?_ o81
  exact⟨k+1,n*128+y % 128,⟨by omega,by omega,bi,by rw[hG,show 6-(k+1)=j by omega]⟩,td1,wkR⟩
def takF{α:Type}(f:Str->α×Str):Nat->Str->List α×Str
 |0,s=>([],s)
 |q+1,s=>if s=[] then([],s) else((f s).1::(takF f q (f s).2).1,(takF f q (f s).2).2)
theorem HJ{α:Type}{f:Str->α×Str}{g:α->Str}: ∀(l:List α) (r:Str),(∀x∈l,g x≠[] /\ ∀r,f (g x++r)=(x,r))->takF f l.length (listB g l++r)=(l,r)
 |[],_,_=>rfl
 |x::l,r,h=>by
  obtain⟨h1,h2⟩:=h x (by simp)
  have ih:=HJ l r fun y hy=>h y (by simp[hy])
  rw[listB,List.append_assoc,List.length_cons,takF,if_neg (by simp[h1]),h2,ih]
def unfX(n:Int):Int:=if n.tmod 2=1 then(-(n+1)).tdiv 2 else n.tdiv 2
theorem SQ(n:Nat):unfX n=CB n:=by
 have e1:(n:Int).tmod 2=(n:Int) % 2:=Int.tmod_eq_emod_of_nonneg (by omega)
 have e2:(n:Int).tdiv 2=(n:Int) / 2:=Int.tdiv_eq_ediv_of_nonneg (by omega)
 unfold unfX CB
 rw[e1,e2,Int.neg_tdiv,Int.tdiv_eq_ediv_of_nonneg (by omega)]
def insF:Str->CIns×Str
 |[]=>(⟨0,0⟩,[])
 |c::r=>if hasA c.toNat then(⟨c.toNat,unfX (grpX r).1⟩,(grpX r).2) else(⟨c.toNat,0⟩,r)
theorem insF_of{s:Str}{x:CIns}{r:Str}(h:DH s=some (x,r)):insF s=(x,r):=by
 cases s with
 |nil=>cases h
 | cons c s =>
  have e:DH (c::s)=if hasA c.toNat then(match grpI s with
   |none=>none
   |some (n,t)=>some (⟨c.toNat,CB n⟩,t)) else some (⟨c.toNat,0⟩,s):=rfl
  rw[e]at h
  rw[insF]
  split at h
  ·rename_i hA
   rw[if_pos hA]
   cases hg:grpI s with
   |none=>rw[hg]at h;cases h
   |some z=>
    obtain⟨n,t⟩:=z
    rw[hg]at h
    obtain⟨⟨m,rfl,_⟩,_⟩:=DY hg
    rw[MD hg,SQ]
    simp only[Option.some.injEq]at h
    exact h
  ·rename_i hA
   rw[if_neg hA]
   simpa using h
def MJ(s:Str):CProg:=
  ⟨(takF insF (min (grpX (grpX (takF grpX (min (grpX (s.drop 1)).1.toNat 17) (grpX (s.drop 1)).2).2).2).1.toNat 301) (grpX (grpX (takF grpX (min (grpX (s.drop 1)).1.toNat 17) (grpX (s.drop 1)).2).2).2).2).1,
   (takF grpX (min (grpX (s.drop 1)).1.toNat 17) (grpX (s.drop 1)).2).1,
   (grpX (takF grpX (min (grpX (s.drop 1)).1.toNat 17) (grpX (s.drop 1)).2).2).1⟩
theorem Oy(c:CProg)(hp:AM c=true):MJ (BD c)=c:=by
 obtain⟨c1,c2,c3,c4,c5⟩:=(AP c).1 hp
 have hf:∀n:Int,inB n=true->0<=n->farN n=true:=fun n h1 h2=>by unfold inB at h1;unfold farN;simp at*; omega
 have hd:∀(n:Nat) (r:Str),n<=300->grpX (digB n++r)=((n:Int),r):=fun n r h=>MD (by have:=Fd (n:=n) (by unfold farN;simp;omega) r;simpa using this)
 have hi:∀(n:Int) (r:Str),farN n=true->grpX (digB n.toNat++r)=(n,r):=fun n r h=>MD (Fd h r)
 have e0:(BD c).drop 1=digB c.starts.length++(listB (fun n:Int=>digB n.toNat) c.starts++(digB c.main.toNat++(digB c.ins.length++(listB insB c.ins++[sumB (rawB c) 0])))):=by
  unfold BD
  generalize sumB (rawB c) 0=z
  simp[rawB]
 have e1:grpX ((BD c).drop 1)=((c.starts.length:Int),listB (fun n:Int=>digB n.toNat) c.starts++(digB c.main.toNat++(digB c.ins.length++(listB insB c.ins++[sumB (rawB c) 0])))):=by rw[e0,hd _ _ (by omega)]
 have e2:takF grpX (min (c.starts.length:Int).toNat 17) (listB (fun n:Int=>digB n.toNat) c.starts++(digB c.main.toNat++(digB c.ins.length++(listB insB c.ins++[sumB (rawB c) 0]))))=(c.starts,digB c.main.toNat++(digB c.ins.length++(listB insB c.ins++[sumB (rawB c) 0]))):=by
  rw[show min (c.starts.length:Int).toNat 17=c.starts.length by omega]
  exact HJ _ _ fun n hn=>⟨Sq _,fun r=>hi n r (hf n (c4 n hn).1 (c4 n hn).2)⟩
 have e3:=hi c.main (digB c.ins.length++(listB insB c.ins++[sumB (rawB c) 0])) (hf _ c3.1 c3.2)
 have e4:=hd c.ins.length (listB insB c.ins++[sumB (rawB c) 0]) c1
 have e5:takF insF (min (c.ins.length:Int).toNat 301) (listB insB c.ins++[sumB (rawB c) 0])=(c.ins,[sumB (rawB c) 0]):=by
  rw[show min (c.ins.length:Int).toNat 301=c.ins.length by omega]
  exact HJ _ _ fun x hx=>⟨by simp[insB],fun r=>insF_of (KX (c5 x hx) r)⟩
 unfold MJ
 simp only[e1,e2,e3,e4,e5]
theorem Pz(s:Str):DI s=if AM (MJ s)=true/\BD (MJ s)=s then some (MJ s) else none:=read_by KY MJ Oy s
theorem K1{α:Type}(f:Str->α×Str)(hf:∀s,(f s).2.length<=s.length): ∀(q:Nat) (s:Str),(takF f q s).1.length<=q/\(takF f q s).2.length<=s.length
 |0,s=>⟨Nat.le_refl _,Nat.le_refl _⟩
 | q+1,s=>by
  rw[takF]
  split
  ·exact⟨Nat.zero_le _,Nat.le_refl _⟩
  ·obtain⟨h1,h2⟩:=K1 f hf q (f s).2
   exact⟨by simp only[List.length_cons];omega,by have:=hf s;simp only;omega⟩
theorem FL(s:Str): -1<=(grpX s).1/\(grpX s).1<4398046511104/\(grpX s).2.length<=s.length:=by
 have:=Qj 6 0 s
 exact⟨this.1,by have:=this.2.1;unfold grpX;omega,this.2.2⟩
theorem RdS.st_push{ic i1 i2:Nat}{ins:List CIns}{st:List Int}{m:Int}{S0 O:Sig}(h:RdS ic i1 i2 ins st m S0 O)(h2:S0 i2=none)(n:Int):RdS ic i1 i2 ins (st++[n]) m S0 ((O.set i2 (.tail 1 (st.length+1))).set ic (.cells [.slice (ins.map cIns) (.tag i1),.slice (cI st++[[dI n]]) (.tag i2),dI m])):=by
 have n1:ic≠i1:=ne_some h.oc h.o1 (by simp)
 have n2:ic≠i2:=ne_some h.oc h.o2 (by simp)
 have ea:cI (st++[n])=cI st++[[dI n]]:=by simp[cI]
 exact⟨by rw[w6,ea],by rw[w7 _ _ n1.symm,w7 _ _ h.ne];exact h.o1,by rw[w7 _ _ n2.symm,w6,List.length_append];rfl,h.ne,fun j o hj e=>by rw[w7 _ _ e,w7 _ _ (Ae hj h2)];exact h.keep j o hj e⟩
theorem RdS.ins_push{ic i1 i2:Nat}{ins:List CIns}{st:List Int}{m:Int}{S0 O:Sig}(h:RdS ic i1 i2 ins st m S0 O)(h1:S0 i1=none)(x:CIns):RdS ic i1 i2 (ins++[x]) st m S0 ((O.set i1 (.tail 2 (ins.length+1))).set ic (.cells [.slice (ins.map cIns++[cIns x]) (.tag i1),.slice (cI st) (.tag i2),dI m])):=by
 have n1:ic≠i1:=ne_some h.oc h.o1 (by simp)
 have n2:ic≠i2:=ne_some h.oc h.o2 (by simp)
 have ea:(ins++[x]).map cIns=ins.map cIns++[cIns x]:=by simp
 exact⟨by rw[w6,ea],by rw[w7 _ _ n1.symm,w6,List.length_append];rfl,by rw[w7 _ _ n2.symm,w7 _ _ h.ne.symm];exact h.o2,h.ne,fun j o hj e=>by rw[w7 _ _ e,w7 _ _ (Ae hj h1)];exact h.keep j o hj e⟩
def rdB(ic i1 i2:Nat)(ins:List CIns)(st:List Int)(m:Int)(S0:Sig):Sig:=((S0.set i1 (.tail 2 ins.length)).set i2 (.tail 1 st.length)).set ic (.cells [.slice (ins.map cIns) (.tag i1),.slice (cI st) (.tag i2),dI m])
theorem RdS.sub{ic i1 i2:Nat}{ins:List CIns}{st:List Int}{m:Int}{S0 O:Sig}(h:RdS ic i1 i2 ins st m S0 O):Sub (rdB ic i1 i2 ins st m S0) O:=fun j o hj=>by
 unfold rdB at hj
 by_cases e:j=ic
 ·subst e;rw[w6]at hj;rw[h.oc];exact hj
 ·rw[w7 _ _ e]at hj
  by_cases e2:j=i2
  ·subst e2;rw[w6]at hj;rw[h.o2];exact hj
  ·rw[w7 _ _ e2]at hj
   by_cases e1:j=i1
   ·subst e1;rw[w6]at hj;rw[h.o1];exact hj
   ·rw[w7 _ _ e1]at hj;exact h.keep j o hj e
theorem RdS.of_rdB{ic i1 i2:Nat}{ins:List CIns}{st:List Int}{m:Int}{S0 O:Sig}(h:RdS ic i1 i2 ins st m S0 O){ins':List CIns}{st':List Int}{m':Int}(h1:S0 i1=none)(h2:S0 i2=none):RdS ic i1 i2 ins' st' m' S0 (rdB ic i1 i2 ins' st' m' S0):=by
 have n1:ic≠i1:=ne_some h.oc h.o1 (by simp)
 have n2:ic≠i2:=ne_some h.oc h.o2 (by simp)
 exact⟨w6 .., by unfold rdB;rw[w7 _ _ n1.symm,w7 _ _ h.ne,w6],by unfold rdB;rw[w7 _ _ n2.symm,w6],h.ne,fun j o hj e=>by unfold rdB;rw[w7 _ _ e,w7 _ _ (Ae hj h2),w7 _ _ (Ae hj h1)];exact hj⟩
theorem Tz: ∀s:Str,(insF s).2.length<=s.length
 |[]=>Nat.le_refl _
 |c::r=>by
  rw[insF]
  split
  ·have:=(FL r).2.2;simp only[List.length_cons];omega
  ·simp
theorem U3 (s:Str) (O:Sig) (hs:s.length<=1073741824):DCall prog 39 [.str s] O (rS (.tup [.agg (cCPg (rdC s).1),dI (rdC s).2]) O):=by
  refine en func39 ntmps39 ?_
  by_cases hl:s.length<=5000
  rotate_left
  · have hr:rdC s=(zC,3):=by unfold rdC;rw [if_neg hl]
    rw[hr]
    refine gz ?_ [] [2,4,11]
    refine newV (fun i hi=>?_)
    refine gf hl ?_ [] [2,4,11]
    refine finC (U':=O) (d:=.tup [.agg (cCPg zC),dI 3]) ⟨rfl,rfl⟩ (hw:=?_)
    exact NZ _
  have aK:DI s=none->rdC s=(zC,4):=fun h=>by unfold rdC;rw[if_pos hl,h]
  have be:∀c,DI s=some c->rdC s=(c,0):=fun c h=>by unfold rdC;rw[if_pos hl,h]
  refine gz ?_ [] [2,4,11]
  refine newV (fun i2 ak=>?_)
  refine gf hl ?_ [] [2,4,11]
  refine newV (fun ic bk=>?_)
  obtain⟨n2c,ah⟩:=B2 bk
  have nc2:=n2c.symm
  by_cases aH:s=[]
  · have bf:rdC s=(zC,4):=aK (by rw [Pz,if_neg (by rw [aH];rintro ⟨h,e⟩;exact absurd (congrArg List.length e) (by unfold BD;simp))])
    refine gf (gi aH (gi n2c nc2)) ?_ [] [2,4,11]
    refine finC (U':=O) (d:=.tup [.agg (cCPg (rdC s).1),dI (rdC s).2]) ⟨rfl,rfl⟩ (hw:=?_) (hU:=fun j o hj=>?_)
    · rw[bf];exact NZ _
    · rw[w7 _ _ (Ae hj ak),w7 _ _ (Ae hj ah),w7 _ _ (Ae hj ak)];exact hj
  have bw:0<s.length:=List.length_pos_iff.2 aH
  refine gf aH ?_ [] [2,4,11]
  refine cutSL (s.drop 1) ?_ rfl (by omega)
  have ap:MJ s=⟨(takF insF (min (grpX (grpX (takF grpX (min (grpX (s.drop 1)).1.toNat 17) (grpX (s.drop 1)).2).2).2).1.toNat 301) (grpX (grpX (takF grpX (min (grpX (s.drop 1)).1.toNat 17) (grpX (s.drop 1)).2).2).2).2).1,
   (takF grpX (min (grpX (s.drop 1)).1.toNat 17) (grpX (s.drop 1)).2).1,
   (grpX (takF grpX (min (grpX (s.drop 1)).1.toNat 17) (grpX (s.drop 1)).2).2).1⟩:=rfl
  obtain⟨b1,b2,b3⟩:=FL (s.drop 1)
  have bA:(s.drop 1).length<=5000:=by rw[List.length_drop];omega
  have i81:=Gj (s.drop 1)
  generalize s.drop 1=s1 at*
  generalize hA:grpX s1=A at*
  obtain⟨many,r0⟩:=A
  simp only at b1 b2 b3 ap
  have i81:∀O,Ans 81 [.str s1] O True (.tup [dI many,.str r0]):=fun O=>ah0 (i81 O (by omega))
  have aJ:((O.set i2 (.cells [.nils,.nils,dI 0])).set ic (.cells [.nils,.nils,dI 0])) ic=some (.cells [.nils,.nils,dI 0]):=w6 ..
  have bu:((O.set i2 (.cells [.nils,.nils,dI 0])).set ic (.cells [.nils,.nils,dI 0])) i2=some (.cells [.nils,.nils,dI 0]):=by rw[w7 _ _ nc2,w6]
  have bt:Sub O ((O.set i2 (.cells [.nils,.nils,dI 0])).set ic (.cells [.nils,.nils,dI 0])):=((Sub.refl _).set ak).set ah
  change DOps _ _ _ _ _ _ ⟨_,(O.set i2 (.cells [.nils,.nils,dI 0])).set ic (.cells [.nils,.nils,dI 0]),_⟩
  generalize (O.set i2 (.cells [.nils,.nils,dI 0])).set ic (.cells [.nils,.nils,dI 0])=S0 at*
  repeat ((fail_if_success (first|(refine dwp_tagcell ic 0 2 aJ rfl (fun i1 am=>?_))|fail));(refine goX1 trivial ?_))
  refine dwp_tagcell ic 0 2 aJ rfl (fun i1 am=>?_)
  refine dwp_tagcell ic 1 1 (w6 ..) rfl (fun i3 aj=>?_)
  obtain⟨m1,aj⟩:=B2 aj
  obtain⟨m2,aj⟩:=B2 aj
  have m3:ic≠i1:=fun e=>by rw[e,am]at aJ;cases aJ
  have hR:RdS ic i1 i3 [] [] 0 S0 ((((S0.set i1 (.tail 2 0)).set ic (.cells ([.nils,.nils,dI 0].set 0 (.slice [] (.tag i1))))).set i3 (.tail 1 0)).set ic (.cells (([.nils,.nils,dI 0].set 0 (.slice [] (.tag i1))).set 1 (.slice [] (.tag i3))))):=
    ⟨w6 .., by rw[w7 _ _ m3.symm,w7 _ _ m2.symm,w7 _ _ m3.symm,w6];rfl,by rw[w7 _ _ m1,w6];rfl,m2.symm,fun j o h e=>by rw[w7 _ _ e,w7 _ _ (Ae h aj),w7 _ _ e,w7 _ _ (Ae h am)];exact h⟩
  generalize (((S0.set i1 (.tail 2 0)).set ic (.cells ([.nils,.nils,dI 0].set 0 (.slice [] (.tag i1))))).set i3 (.tail 1 0)).set ic (.cells (([.nils,.nils,dI 0].set 0 (.slice [] (.tag i1))).set 1 (.slice [] (.tag i3))))=S1 at hR
  obtain⟨q,hq⟩:∃q,q=min many.toNat 17:=⟨_,rfl⟩
  rw[<-hq]at ap
  obtain⟨tl1,tl2⟩:=K1 grpX (fun s=>(FL s).2.2) q r0
  generalize hT:takF grpX q r0=T at*
  obtain⟨T1,T2⟩:=T
  simp only at ap tl1 tl2
  refine dwp_cut1 (x1:=.seq _ (.block 0 _)) ((7,.str T2)::[26,25,21,24,23,22,19,18,17,15,14,13].map fun k=>(k,D.any)) (rdB ic i1 i3 [] T1 0 S0) ?_ (fun _ hK=>?_)
  rotate_left
  · refine gz ?_ [] [2,4,11]
    refine Kk [0,2,3,4,5,6,10,11,12,51,52,53,54,55,56,57,58,59,60,61,62,63,64,65,66,67,68,69,70,71,72,73,74,75,76,77,78,79,80,81,82,83,84,85,86,87,88,89,90,91,92,93,94,95,96,97,98,99,100,101,102,103,104,105,106,107,108,109,110,111,112,113,114,115,116] (fun (k:Nat) (st:List Int) (r:Str) (S2:Sig)=>k<=q/\st.length=k/\r.length<=5000/\RdS ic i1 i3 [] st 0 S0 S2/\T1=st++(takF grpX (q-k) r).1/\T2=(takF grpX (q-k) r).2) (fun k _ r _=>[(8,dI k),(7,.str r)]) (fun _ _ _ S2=>S2) (fun k _ _ _=>q-k) (0) ([]) (r0) (S1) (by exact⟨by omega,rfl,by omega,hR,by rw[Nat.sub_zero,hT];rfl,by rw[Nat.sub_zero,hT]⟩) (fun k st r S2 hI=>?_)
    clear hR
    obtain⟨hk,aA,aS,hR,ac,aa⟩:=hI
    by_cases c1:(k:Int)<many/\r≠[]/\k<=16
    · obtain ⟨c1,c2,c3⟩:=c1
      obtain⟨j,hj⟩:∃j,q-k=j+1:=⟨q-k-1,by omega⟩
      rw[hj,takF,if_neg c2]at ac aa
      obtain⟨g1,g2,g3⟩:=FL r
      have i81:∀O,Ans 81 [.str r] O True (.tup [dI (grpX r).1,.str (grpX r).2]):=fun O=>ah0 (Gj r O (by omega))
      generalize grpX r=G at*
      obtain⟨n,r3⟩:=G
      simp only at ac aa g1 g2 g3 i81
      have u1:=hR.oc
      have u2:=hR.o2
      have u3:=hR.o1
      have u4:=hR.ne
      refine gf (gi c2 (gi u1 u2)) ?_ [] [2,4,11]
      exact⟨k+1,st++[n],r3,_,⟨by omega,by simp[aA],by omega,hR.st_push aj n,by rw[ac,show q-(k+1)=j by omega];simp,by rw[aa,show q-(k+1)=j by omega]⟩,td1,wkR⟩
    · have ax:takF grpX (q-k) r=([],r):=by
        by_cases e:r=[]
        · cases (q-k) with
          |zero=>rfl
          |succ j=>rw[takF,if_pos e]
        · have e2 : ¬((k:Int) < many/\k<=16):=fun h=>c1 ⟨h.1,e,h.2⟩
          rw[show q-k=0 by omega];rfl
      rw[ax]at ac aa
      simp only[List.append_nil]at ac aa
      subst ac aa
      by_cases d1:(k:Int)<many
      rotate_left
      · refine gz ?_ [] [2,4,11]
        exact DA (F5 (by first|(simp;done)|(simp_all;done)) (hR.sub)) hK
      by_cases d2:T2=[]
      · have d3:=decide_eq_true d2
        refine gf d3 ?_ [] [2,4,11]
        exact DA (F5 (by first|(simp;done)|(simp_all;done)) (hR.sub)) hK
      · have d4 : ¬ k<=16:=fun h=>c1 ⟨d1,d2,h⟩
        refine gf d2 ?_ [] [2,4,11]
        exact DA (F5 (by first|(simp;done)|(simp_all;done)) (hR.sub)) hK
  · have ag:=hR.of_rdB (ins':=[]) (st':=T1) (m':=0) am aj
    clear hR
    generalize rdB ic i1 i3 [] T1 0 S0=S2 at*
    obtain⟨g1,g2,g3⟩:=FL T2
    have i81:∀O,Ans 81 [.str T2] O True (.tup [dI (grpX T2).1,.str (grpX T2).2]):=fun O=>ah0 (Gj T2 O (by omega))
    generalize grpX T2=G at*
    obtain⟨main,r4⟩:=G
    simp only at ap g1 g2 g3 i81
    obtain⟨g4,g5,g6⟩:=FL r4
    have i81b:∀O,Ans 81 [.str r4] O True (.tup [dI (grpX r4).1,.str (grpX r4).2]):=fun O=>ah0 (Gj r4 O (by omega))
    generalize grpX r4=G at*
    obtain⟨many2,r5⟩:=G
    simp only at ap g4 g5 g6 i81b
    have u1:=ag.oc
    obtain⟨q2,bh⟩:∃q2,q2=min many2.toNat 301:=⟨_,rfl⟩
    rw[<-bh]at ap
    obtain⟨tl3,tl4⟩:=K1 insF Tz q2 r5
    generalize hT:takF insF q2 r5=T at*
    obtain⟨T3,T4⟩:=T
    simp only at ap tl3 tl4
    repeat ((fail_if_success (first|(refine dwp_cut1 (x1:=.seq _ (.block 2 _)) ((7,.str T4)::[61,60,57,59,58,56,55,54,51,53,52].map fun k=>(k,D.any)) (rdB ic i1 i3 T3 T1 main S0) ?_ (fun _ hK=>?_))|fail));(refine goX1 u1 ?_))
    refine dwp_cut1 (x1:=.seq _ (.block 2 _)) ((7,.str T4)::[61,60,57,59,58,56,55,54,51,53,52].map fun k=>(k,D.any)) (rdB ic i1 i3 T3 T1 main S0) ?_ (fun _ hK=>?_)
    rotate_left
    · have aW:RdS ic i1 i3 [] T1 main S0 (S2.set ic (.cells [.slice [] (.tag i1), .slice (cI T1) (.tag i3),dI main])):=⟨w6 .., by rw [w7 _ _ m3.symm];exact ag.o1,by rw [w7 _ _ (ne_some ag.oc ag.o2 (by simp)).symm];exact ag.o2,ag.ne,fun j o h e=>by rw [w7 _ _ e];exact ag.keep j o h e⟩
      clear ag u1
      generalize S2.set ic (.cells [.slice [] (.tag i1),.slice (cI T1) (.tag i3),dI main])=S3 at*
      refine gz ?_ [] [2,4,11]
      refine Kk [0,2,3,4,5,6,106,107,108,109,110,111,112,113,114,115,116] (fun (k:Nat) (ins:List CIns) (r:Str) (S4:Sig)=>k<=q2/\ins.length=k/\r.length<=5000/\RdS ic i1 i3 ins T1 main S0 S4/\T3=ins++(takF insF (q2-k) r).1/\T4=(takF insF (q2-k) r).2) (fun k _ r _=>[(10,dI k),(7,.str r)]) (fun _ _ _ S4=>S4) (fun k _ _ _=>q2-k) (0) ([]) (r5) (S3) (by exact⟨by omega,rfl,by omega,aW,by rw[Nat.sub_zero,hT];rfl,by rw[Nat.sub_zero,hT]⟩) (fun k ins r S4 hI=>?_)
      clear aW
      obtain⟨hk,aA,aS,hR,ac,aa⟩:=hI
      by_cases c1:(k:Int)<many2/\r≠[]/\k<=300
      · obtain ⟨c1,c2,c3⟩:=c1
        obtain⟨j,hj⟩:∃j,q2-k=j+1:=⟨q2-k-1,by omega⟩
        rw[hj,takF,if_neg c2]at ac aa
        cases r with
        |nil=>exact absurd rfl c2
        | cons c r1 =>
          rw[List.length_cons]at aS
          have ba:=c.toNat_lt
          obtain⟨y,hy⟩:∃y,c.toNat=y:=⟨_,rfl⟩
          rw[hy]at ba
          have bb:IntKind.i64.wrap (y:Int)=(y:Int):=An (by omega) (by omega)
          have aU:insF (c::r1)=if hasA y then(⟨y,unfX (grpX r1).1⟩,(grpX r1).2) else(⟨y,0⟩,r1):=by rw[insF,hy]
          rw[aU]at ac aa
          clear aU
          refine gf (gi hy bb) ?_ [] [2,4,11]
          refine newV (fun i5 bl=>?_)
          have nn:∀o,S4 i5=some o->False:=fun o h=>by rw[bl]at h;cases h
          have n5c:i5≠ic:=fun e=>nn _ (by rw[e];exact hR.oc)
          have n51:i5≠i1:=fun e=>nn _ (by rw[e];exact hR.o1)
          have n53:i5≠i3:=fun e=>nn _ (by rw[e];exact hR.o2)
          have n5k:∀j o,S0 j=some o->j≠ic->j≠i5:=fun j o h e e2=>nn _ (by rw[<-e2];exact hR.keep j o h e)
          have aV:∀z,RdS ic i1 i3 ins T1 main S0 (S4.set i5 z):=fun z=>⟨by rw[w7 _ _ n5c.symm];exact hR.oc,by rw[w7 _ _ n51.symm];exact hR.o1,by rw[w7 _ _ n53.symm];exact hR.o2,hR.ne,fun j o h e=>by rw[w7 _ _ (n5k j o h e)];exact hR.keep j o h e⟩
          repeat ((fail_if_success (first|(refine cutSL (s:=c::r1) (lo:=1) r1 ?_ rfl (by simp))|fail));(refine goX1 trivial ?_))
          refine cutSL (s:=c::r1) (lo:=1) r1 ?_ rfl (by simp)
          cases hA:hasA y with
          | false =>
            rw[hA,if_neg (by simp)]at ac aa
            have ae:=aV (.cells [dI y,dI 0])
            have o5:(S4.set i5 (.cells [dI y,dI 0])) i5=some (.cells [dI y,dI 0]):=w6 ..
            change DOps _ _ _ _ _ _ ⟨_,S4.set i5 (.cells [dI y,dI 0]),_⟩
            generalize S4.set i5 (.cells [dI y,dI 0])=S5 at*
            have u1:=ae.oc
            have u2:=ae.o1
            refine gf (gi hA (gi o5 (gi u1 u2))) ?_ [] [2,4,11]
            exact⟨k+1,ins++[⟨y,0⟩],r1,_,⟨by omega,by simp[aA],by omega,ae.ins_push am ⟨y,0⟩,by rw[ac,show q2-(k+1)=j by omega];simp,by rw[aa,show q2-(k+1)=j by omega]⟩,td1,wkR⟩
          | true =>
            rw[hA,if_pos rfl]at ac aa
            have i81:∀O,Ans 81 [.str r1] O True (.tup [dI (grpX r1).1,.str (grpX r1).2]):=fun O=>ah0 (Gj r1 O (by omega))
            obtain⟨g7,g8,g9⟩:=FL r1
            generalize grpX r1=G at*
            obtain⟨n,r3⟩:=G
            simp only at ac aa g7 g8 g9 i81
            have o5:(S4.set i5 (.cells [dI y,dI 0])) i5=some (.cells [dI y,dI 0]):=w6 ..
            change DOps _ _ _ _ _ _ ⟨_,S4.set i5 (.cells [dI y,dI 0]),_⟩
            obtain⟨a,ha⟩:∃a,a=unfX n:=⟨_,rfl⟩
            have ae:=aV (.cells [dI y,dI a])
            by_cases hp:n.tmod 2=1
            · have aN:a=(-(n+1)).tdiv 2:=by rw [ha];unfold unfX;rw [if_pos hp]
              have ay:IntKind.i64.wrap (-(n+1).tdiv 2)=a:=by rw[aN,Int.neg_tdiv,Int.tdiv_eq_ediv_of_nonneg (by omega),An (by omega) (by omega)]
              refine gf (gi hA (gi o5 hp)) ?_ [] [2,4,11]
              simp only[ay]
              have o6:(S4.set i5 (.cells [dI y,dI a])) i5=some (.cells [dI y,dI a]):=w6 ..
              change DOps _ _ _ _ _ _ ⟨_,S4.set i5 (.cells [dI y,dI a]),_⟩
              generalize S4.set i5 (.cells [dI y,dI a])=S5 at*
              have u1:=ae.oc
              have u2:=ae.o1
              refine gf (gi o6 (gi u1 u2)) ?_ [] [2,4,11]
              exact⟨k+1,ins++[⟨y,a⟩],r3,_,⟨by omega,by simp[aA],by omega,ae.ins_push am ⟨y,a⟩,by rw[ac,show q2-(k+1)=j by omega,ha];simp,by rw[aa,show q2-(k+1)=j by omega]⟩,td1,wkR⟩
            · have aN:a=n.tdiv 2:=by rw [ha];unfold unfX;rw [if_neg hp]
              have ay:IntKind.i64.wrap (n.tdiv 2)=a:=by
                have e : -1<=n.tdiv 2/\n.tdiv 2<=4398046511104:=by
                  by_cases h0:0<=n
                  · rw[Int.tdiv_eq_ediv_of_nonneg h0];omega
                  · rw[show n = -1 by omega];decide
                rw[aN,An (by omega) (by omega)]
              refine gf (gi hA (gi o5 hp)) ?_ [] [2,4,11]
              simp only[ay]
              have o6:(S4.set i5 (.cells [dI y,dI a])) i5=some (.cells [dI y,dI a]):=w6 ..
              change DOps _ _ _ _ _ _ ⟨_,S4.set i5 (.cells [dI y,dI a]),_⟩
              generalize S4.set i5 (.cells [dI y,dI a])=S5 at*
              have u1:=ae.oc
              have u2:=ae.o1
              refine gf (gi o6 (gi u1 u2)) ?_ [] [2,4,11]
              exact⟨k+1,ins++[⟨y,a⟩],r3,_,⟨by omega,by simp[aA],by omega,ae.ins_push am ⟨y,a⟩,by rw[ac,show q2-(k+1)=j by omega,ha];simp,by rw[aa,show q2-(k+1)=j by omega]⟩,td1,wkR⟩
      · have ax:takF insF (q2-k) r=([],r):=by
          by_cases e:r=[]
          · cases (q2-k) with
            |zero=>rfl
            |succ j=>rw[takF,if_pos e]
          · have e2 : ¬((k:Int) < many2/\k<=300):=fun h=>c1 ⟨h.1,e,h.2⟩
            rw[show q2-k=0 by omega];rfl
        rw[ax]at ac aa
        simp only[List.append_nil]at ac aa
        subst ac aa
        by_cases d1:(k:Int)<many2
        rotate_left
        · refine gz ?_ [] [2,4,11]
          exact DA (F5 (by first|(simp;done)|(simp_all;done)) (hR.sub)) hK
        by_cases d2:T4=[]
        · have d3:=decide_eq_true d2
          refine gf d3 ?_ [] [2,4,11]
          exact DA (F5 (by first|(simp;done)|(simp_all;done)) (hR.sub)) hK
        · have d4 : ¬ k<=300:=fun h=>c1 ⟨d1,d2,h⟩
          refine gf d2 ?_ [] [2,4,11]
          exact DA (F5 (by first|(simp;done)|(simp_all;done)) (hR.sub)) hK
    · have aO:=ag.of_rdB (ins':=T3) (st':=T1) (m':=main) am aj
      clear ag
      generalize rdB ic i1 i3 T3 T1 main S0=S4 at*
      refine DA (Ex (i:=ic) (az:=[]) (bs:=[.slice (cI T1) (.tag i3),dI main]) (d:=.slice (T3.map cIns) (.tag i1)) (d':=sl (T3.map cIns)) aO.oc (Bm _ _)) ?_
      refine DA (Ex (i:=ic) (az:=[sl (T3.map cIns)]) (bs:=[dI main]) (d:=.slice (cI T1) (.tag i3)) (d':=sl (cI T1)) (w6 ..) (Bm _ _)) ?_
      simp only[w8,List.nil_append,List.singleton_append]
      have o6:(S4.set ic (.cells [sl (T3.map cIns),sl (cI T1),dI main])) ic=some (.cells (cCPg ⟨T3,T1,main⟩)):=w6 ..
      have o62:(S4.set ic (.cells [sl (T3.map cIns),sl (cI T1),dI main])) i2=some (.cells [.nils,.nils,dI 0]):=by rw[w7 _ _ nc2];exact aO.keep _ _ bu nc2
      have bq:Sub O (S4.set ic (.cells [sl (T3.map cIns),sl (cI T1),dI main])):=fun j o hj=>by rw[w7 _ _ (Ae hj ah)];exact aO.keep _ _ (bt j o hj) (Ae hj ah)
      generalize S4.set ic (.cells [sl (T3.map cIns),sl (cI T1),dI main])=S6 at*
      have i74:∀O,Ans 74 [.agg (cCPg ⟨T3,T1,main⟩)] O True (.bool (AM ⟨T3,T1,main⟩)):=fun O=>ah0 (NA ⟨T3,T1,main⟩ O (by simp only;omega) (by simp only;omega))
      have aw:∀z,Sub O (S6.set i2 z):=fun z j o hj=>by rw[w7 _ _ (Ae hj ak)];exact bq j o hj
      have aq:=Pz s
      rw[ap]at aq
      cases hp:AM ⟨T3,T1,main⟩with
      | false =>
        rw[if_neg (by rw[hp];simp)]at aq
        refine gf (gi o6 (gi hp o62)) ?_ [] [2,4,11]
        refine finC (U':=O) (d:=.tup [.agg (cCPg (rdC s).1),dI (rdC s).2]) ⟨rfl,rfl⟩ (hw:=?_) (hU:=aw _)
        rw[aK aq];exact NZ _
      | true =>
        have i75:∀O,Ans 75 [.agg (cCPg ⟨T3,T1,main⟩)] O True (.str (BD ⟨T3,T1,main⟩)):=fun O=>ah0 (Nz ⟨T3,T1,main⟩ O hp)
        by_cases hb:BD ⟨T3,T1,main⟩=s
        · rw [if_pos ⟨hp,hb⟩] at aq
          have aE:=decide_eq_true hb
          refine gf (gi o6 (gi hp (gi o62 aE))) ?_ [] [2,4,11]
          refine finC (U':=O) (d:=.tup [.agg (cCPg (rdC s).1),dI (rdC s).2]) ⟨rfl,rfl⟩ (hw:=?_) (hU:=aw _)
          rw[be _ aq];exact A8 _
        · rw [if_neg (fun h=>hb h.2)] at aq
          have aE:=decide_eq_false hb
          refine gf (gi o6 (gi hp (gi o62 aE))) ?_ [] [2,4,11]
          refine finC (U':=O) (d:=.tup [.agg (cCPg (rdC s).1),dI (rdC s).2]) ⟨rfl,rfl⟩ (hw:=?_) (hU:=aw _)
          rw[aK aq];exact NZ _
theorem rdC_len(s:Str):(rdC s).1.ins.length<=300/\(rdC s).1.starts.length<=16:=by
 unfold rdC
 split
 ·split
  ·simp[zC]
  ·rename_i c h
   obtain⟨h1,h2,_⟩:=(AP c).1 ((KY s c).1 h).1
   exact⟨h1,h2⟩
 ·simp[zC]
theorem f9_spec(c:CProg)(s:Str)(O:Sig)(h1:c.ins.length<=1073741824)(h2:c.starts.length<=1073741824)(hs:s.length<=1073741824):E5 prog 9 [.agg (cCPg c),.str s] O fun x _=>x=.ret (.bool true):=by
 have aG:=fun O:Sig=>NC c O h1 h2
 have aY:=fun O:Sig=>U5 c O h1 h2
 have aQ:=fun O:Sig=>U4 s O hs
 have aP:=fun O:Sig=>U3 s O hs
 obtain⟨l1,l2⟩:=rdC_len s
 generalize rdC s=R at*
 obtain⟨C,e⟩:=R
 simp only at aQ aP l1 l2
 have i38:∀O,Ans 38 [.str s] O True (.tup [.agg (cCPg C),dI e]):=fun O=>ah0 (aQ O)
 have i39:∀O,Ans 39 [.str s] O True (.tup [.agg (cCPg C),dI e]):=fun O=>ah0 (aP O)
 have i31:∀O,Ans 31 [.agg (cCPg C),.agg (cCPg C)] O True (.bool true):=fun O=>ah0 (by have:=U6 C C O (by omega) (by omega) (by omega) (by omega);rw[O9]at this;exact this)
 obtain⟨b,eb,hb⟩:∃(b:Str) (eb:Int),(if AM c then D.tup [.str (BD c),dI 0] else .tup [.str [],dI 2])=.tup [.str b,dI eb]:=by
  cases AM c
  ·exact⟨_,_,rfl⟩
  ·exact⟨_,_,rfl⟩
 have i36:∀O,Ans 36 [.agg (cCPg c)] O True (.tup [.str b,dI eb]):=fun O=>ah0 (by have:=aG O;rw[hb]at this;exact this)
 have i37:∀O,Ans 37 [.agg (cCPg c)] O True (.tup [.str b,dI eb]):=fun O=>ah0 (by have:=aY O;rw[hb]at this;exact this)
 clear aG aY aQ aP
 refine enW func9 ntmps9 ?_
 refine gz ?_
 refine Sz (U9 O) (fun d S3 hr=>?_) (fun d S3 hr=>by cases hr.1)
 obtain⟨hd,rfl⟩:=hr
 cases hd
 refine gz ?_
 exact fin1 (U':=S3) rfl (hU:=Sub.refl _)
end Go.DL
