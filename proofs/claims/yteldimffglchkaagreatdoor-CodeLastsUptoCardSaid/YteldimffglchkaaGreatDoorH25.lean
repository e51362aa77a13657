/- A part of the proof. -/
import Derived.Test.YteldimffglchkaaGreatDoorH24
import Derived.Test.YteldimffglchkaaGreatDoorH08
import Derived.Test.YteldimffglchkaaGreatDoorH19
import Derived.Test.YteldimffglchkaaGreatDoorH11
import Derived.Test.YteldimffglchkaaGreatDoorH18
import Derived.Test.YteldimffglchkaaGreatDoorH23
set_option linter.all false
namespace Go.DL
open Go.Proofs.Tryz
open Go Go.Proofs
set_option maxHeartbeats 8000000
section
variable {ro:Ro}{n:Nat}{ops:Array Oper}{N:Nat}{S0:Sig}{Q:DX->St->Prop}{df:List DDf}{rest:List Oper}{γ Sr:List (Nat×D)}{O:Sig}{t:Nat}{ty:TypeId}{pos:String}{after:Array Edge}{d:D}
theorem moXappF{T T' e e' sz:Nat}{s x:Operand}{es new:List (List D)}{r:RW}{l:List (Bool×Oper)}(h:∀U',Sub S0 U'->MO prog ro n ops N S0 Q df l ((t,.slice (es++new) .no)::γ) U')(hC:∀j o,S0 j=some o->O j=some o /\ ¬r.is j)(hm:RWAt O sz r es:=by assumption)
  (hl:A2 γ (A9 [s,x])=some Sr:=by exact tdR) (hk:(tab T).k=.slice e:=by(simp<;>rfl)) (aE:(tab T').k=.slice e':=by(simp<;>rfl)) (he:A1 (tab e).k=false:=by simp) (hsz:(tab e).size=sz:=by simp)
  (h1:ev Sr s=r.d es.length:=by first|with_unfolding_all rfl|(simp[ev,getD,List.lookup];done)) (h2:esOf (ev Sr x)=some new:=by(simp<;>with_unfolding_all rfl))
  (hlen':∀c∈new,c.length=sz:=by first|exact BX _|exact Di _|exact BF _|simp) (aV:∀c∈new,BN c=true:=by simp[cI,cS,cII,BN,D.flat])
  (hb:(es.length+new.length)*(tab e).bytes<=140737488355328:=by first|(simp;done)|(simp;omega)) (hm2:es.length+new.length<=9223372036854775807:=by first|(simp;done)|(simp;omega)) (ah:decide (t<n)=true:=by exact tdR) :
  MO prog ro n ops N S0 Q df ((true,⟨some t,(cA s x T T'),ty,pos,after,none⟩)::l) γ O:=
 mo1 (fun U2 hx=>by
  obtain⟨e1,e2⟩:=HT hl hx
  refine Es Af (by simpa using ah) hk aE he hsz (by rw[e1];exact h1) hm (by rw[e2];exact HY h2 hlen') hlen' aV hb hm2 (fun r' U' h' hK _=>?_)
  obtain⟨S'',hw,aU⟩:=Ir (P:=prog) (n:=n) (γ:=(t,r'.d (es.length+new.length))::U2) (df:=df) (t:=t) h' (by simp[getD,List.lookup])
  have hS:Sub S0 S'':=fun j o hj=>by
   obtain⟨q1,q2⟩:=hC j o hj
   obtain⟨q3,q4⟩:=hK j o q1 q2
   exact aU j o q3 q4
  refine C1 hw (Ax ⟨rfl,?_⟩)
  simp only[A6,if_true]
  exact⟨hS,h S'' hS⟩) ah
theorem moQStr{T T' e:Nat}{x:Operand}{s:List UInt8}{ef:Bool}{l:List (Bool×Oper)}(h:MO prog ro n ops N S0 Q df l ((t,.str s)::γ) O)(hl:A2 γ (A9 [x])=some Sr:=by exact tdR)(hk:(tab T).k=.slice e:=by(simp<;>rfl))(aE:(tab T').k=.str:=by(simp<;>rfl))(aD:(tab e).k=.int .u8:=by(simp<;>rfl))
  (h1:esOf (ev Sr x)=some (s.map fun b=>[D.int .u8 (b.toNat:Int)])) (ah:decide (t<n)=true:=by exact tdR) :
  MO prog ro n ops N S0 Q df ((ef,⟨some t,.convert T T' x,ty,pos,after,none⟩)::l) γ O:=by
 have ax:∀y∈(Op.convert T T' x).operands,ev (only (Oper.looksAt ops ⟨some t,.convert T T' x,ty,pos,after,none⟩) γ) y=ev γ y:=fun y hy=>BO (o:=⟨some t,.convert T T' x,ty,pos,after,none⟩) hy
 have hx:∀y∈[x],ev Sr y=ev γ y:=fun y hy=>Br fun t ht=>Av hl t (AG (by rw[<-ht];exact hy))
 refine O8 (.str s) ah rfl (by rw[Ao];rfl) (fun U' bj ro' df'=>?_) h
 refine Vf Af (Ax ⟨rfl,?_⟩) (by rw[Ao];rfl) (by simpa using ah) hk aE aD (by rw[ax x (by simp[Op.operands]),<-hx x (by simp)];exact h1)
 simp only[A6,if_true]
 exact⟨trivial,Sub.refl _⟩
end
theorem V5(c:CProg)(O:Sig)(h1:c.ins.length<=1073741824)(h2:c.starts.length<=1073741824):DCall prog 36 [.agg (cCPg c)] O (rS (if Ek c then .tup [.str (JB c),dI 0] else .tup [.str [],dI 2]) O):=by
 refine en func36 ntmps36 ?_
 repeat' first|refine gz ?_ o36 [4]|apply gy<;>intro hh
 ·refine fin2 (U':=O) ⟨by rw[hh];rfl,rfl⟩
 ·have hp:=hh
  unfold Ek at hp
  simp only[Bool.and_eq_true,decide_eq_true_eq]at hp
  obtain⟨c1,c2,c3,c4,c5⟩:=hp
  have hT:=TN hh
  have hm:0<=c.main/\c.main<=1000000000:=by unfold farN at c3;simpa using c3
  refine newV (fun ib aA=>?_)
  refine gz ?_ o36 [4]
  have aJ:PkS ib O [199] (O.set ib (.cells [.slice [[.int .u8 199]] .clip])):=⟨(Sub.refl _).set aA,aA,.full [DT 199],w6 .., ⟨rfl,by simp⟩,id,fun _ h=>h.elim,.inl (by simp)⟩
  try simp only[w8]
  generalize O.set ib (.cells [.slice [[.int .u8 199]] .clip])=S1 at aJ⊢
  have ap:JB c=rawB c++[sumB (rawB c) 0]:=rfl
  have aS:=congrArg List.length ap
  rw[List.length_append,List.length_singleton]at aS
  have hr:rawB c=[199]++(digB c.starts.length++(listB (fun n:Int=>digB n.toNat) c.starts++(digB c.main.toNat++(digB c.ins.length++listB insB c.ins)))):=rfl
  have aT:=congrArg List.length hr
  simp only[List.length_append,List.length_singleton]at aT
  refine A7 (FT ib O [199] c.starts.length S1 aJ (by omega) (by simp)) (fun d S2 hr=>?_) (fun d S2 hr=>by cases hr.1)
  obtain⟨hd,hB⟩:=hr
  cases hd
  refine gz ?_ o36 [4]
  refine G4 [1,2,3,4,8,18,19,27,28,29,30,31,32,33,34,35,36,37,38,39,40,41,42,43,44,45,46,47,48,49,50,51,52,53,54,55,56,57,58,59,60,61,62,63,64,65,66,67,68,69,70] (fun (k:Nat) (bs:List UInt8) (S2:Sig)=>k<=c.starts.length/\PkS ib O bs S2/\bs++(listB (fun n:Int=>digB n.toNat) (c.starts.drop k)++(digB c.main.toNat++(digB c.ins.length++listB insB c.ins)))=rawB c) (fun k _ _=>[(20,dI k)]) (fun _ _ S2=>S2) (fun k _ _=>c.starts.length-k) (0) ([199]++digB c.starts.length) (S2) (by exact⟨by omega,hB,by rw[hr];simp⟩) (fun k bs S2 hI=>?_)
  clear hB aJ
  obtain⟨hk,hB,hE⟩:=hI
  have ar:=congrArg List.length hE
  rw[List.length_append]at ar
  by_cases aa:k<c.starts.length
  ·rw[A4 aa,listB]at hE
   have hn:=List.all_eq_true.1 c4 _ (List.getElem_mem aa)
   unfold farN at hn
   simp only[decide_eq_true_eq]at hn
   obtain⟨w,hw⟩:∃w:Nat,c.starts[k]=(w:Int):=⟨c.starts[k].toNat,by omega⟩
   rw[hw]at hn hE
   refine gf hw ?_ o36 [4]
   refine A7 (FT ib O bs w S2 hB (by omega) (by omega)) (fun d S3 hr=>?_) (fun d S3 hr=>by cases hr.1)
   obtain⟨hd,aC⟩:=hr
   cases hd
   refine gz ?_ o36 [4]
   exact⟨k+1,_,_,⟨by omega,aC,by simpa[List.append_assoc] using hE⟩,td1,wkR⟩
  ·rw [Aa aa,listB,List.nil_append] at hE
   obtain⟨w,hw⟩:∃w:Nat,c.main=(w:Int):=⟨c.main.toNat,by omega⟩
   rw[hw]at hm hE
   refine gf hw ?_ o36 [4]
   refine A7 (FT ib O bs w S2 hB (by omega) (by omega)) (fun d S3 hr=>?_) (fun d S3 hr=>by cases hr.1)
   obtain⟨hd,aC⟩:=hr
   cases hd
   have aI:=congrArg List.length hE
   simp only[List.length_append,Int.toNat_natCast]at aI
   refine gz ?_ o36 [4]
   refine A7 (FT ib O (bs++digB w) c.ins.length S3 aC (by omega) (by simp;omega)) (fun d S4 hr=>?_) (fun d S4 hr=>by cases hr.1)
   obtain⟨hd,am⟩:=hr
   cases hd
   refine gz ?_ o36 [4]
   refine G4 [2,3,4,35,36,65,66,67,68,69,70] (fun (k:Nat) (bs:List UInt8) (S2:Sig)=>k<=c.ins.length/\PkS ib O bs S2/\bs++listB insB (c.ins.drop k)=rawB c) (fun k _ _=>[(37,dI k)]) (fun _ _ S2=>S2) (fun k _ _=>c.ins.length-k) (0) (bs++digB w++digB c.ins.length) (S4) (by exact⟨by omega,am,by simpa[List.append_assoc] using hE⟩) (fun k bs S2 hI=>?_)
   clear hB aC am hE
   obtain⟨hk,hB,hE⟩:=hI
   have ar:=congrArg List.length hE
   rw[List.length_append]at ar
   by_cases aa:k<c.ins.length
   ·rw [A4 aa,listB] at hE
    have hI:=List.all_eq_true.1 c5 _ (List.getElem_mem aa)
    unfold F0 at hI
    simp only[Bool.and_eq_true,decide_eq_true_eq]at hI
    obtain⟨⟨bf,be⟩,ac⟩:=hI
    obtain⟨w,hw⟩:∃w:Nat,c.ins[k].op=(w:Int):=⟨c.ins[k].op.toNat,by omega⟩
    obtain⟨hS,h0,r,q1,q2,q3,q4,q5⟩:=hB
    obtain⟨y,hy⟩:∃y,UInt8.ofNat c.ins[k].op.toNat=y:=⟨_,rfl⟩
    have aP:IntKind.u8.wrap c.ins[k].op=(y.toNat:Int):=by rw[<-hy,hw,Ip,NU (by omega)];omega
    have aH : -1000000000<=c.ins[k].a/\c.ins[k].a<=1000000000/\(c.ins[k].a<0->hasA c.ins[k].op=true):=by
     split at ac
     ·rename_i hA
      refine⟨?_,?_,fun _=>hA⟩<;>split at ac
      ·unfold inB at ac;simp at ac;omega
      ·unfold farN at ac;simp at ac;omega
      ·unfold inB at ac;simp at ac;omega
      ·unfold farN at ac;simp at ac;omega
     ·simp at ac;omega
    obtain⟨a1,a2,a3⟩:=aH
    refine gf q1 ?_ o36 [4]
    simp only[aP]
    refine xapp (new:=[[.int .u8 (y.toNat:Int)]]) (fun j c' cs' S3 ba aM=>?_) q2 (h1:=by simp)
    have aA:=aM ib _ q1 q3
    have aZ:RWAt S3 1 (.row j c' cs') ((bs++[y]).map DT):=by rw[List.map_append];exact ba
    have hP:=PkS.put hS h0 q1 q3 q4 aZ aM
    have aj:S3 ib=some (.cells [r.d bs.length]):=by rw[aA.1];simp
    simp only[List.length_append,List.length_singleton]at hP
    by_cases ai:c.ins[k].a<0
    ·obtain⟨v,hv⟩:∃v:Nat, -2*c.ins[k].a-1=(v:Int):=⟨(-2*c.ins[k].a-1).toNat,by omega⟩
     have ae:insB c.ins[k]=y::digB v:=by
      unfold insB Rg;rw[hy,if_pos (a3 ai),if_pos ai,hv];rfl
     rw[ae]at hE
     refine gf aj ?_ o36 [4]
     simp only[hv]
     refine A7 (FT ib O (bs++[y]) v _ hP (by omega) (by simp;omega)) (fun d S4 hr=>?_) (fun d S4 hr=>by cases hr.1)
     obtain⟨hd,am⟩:=hr
     cases hd
     refine gz ?_ o36 [4]
     exact⟨k+1,_,_,⟨by omega,am,by simpa[List.append_assoc] using hE⟩,td1,wkR⟩
    ·obtain⟨v,hv⟩:∃v:Nat,2*c.ins[k].a=(v:Int):=⟨(2*c.ins[k].a).toNat,by omega⟩
     by_cases hA:hasA c.ins[k].op=true
     ·have ae:insB c.ins[k]=y::digB v:=by
       unfold insB Rg;rw[hy,if_pos hA,if_neg ai,hv];rfl
      rw[ae]at hE
      refine gf (gi aj hA) ?_ o36 [4]
      simp only[hv]
      refine A7 (FT ib O (bs++[y]) v _ hP (by omega) (by simp;omega)) (fun d S4 hr=>?_) (fun d S4 hr=>by cases hr.1)
      obtain⟨hd,am⟩:=hr
      cases hd
      refine gz ?_ o36 [4]
      exact⟨k+1,_,_,⟨by omega,am,by simpa[List.append_assoc] using hE⟩,td1,wkR⟩
     ·have ae:insB c.ins[k]=[y]:=by
       unfold insB;rw[hy,if_neg hA]
      rw[ae]at hE
      refine gf (gi aj hA) ?_ o36 [4]
      exact⟨k+1,_,_,⟨by omega,hP,by simpa[List.append_assoc] using hE⟩,td1,wkR⟩
   ·refine gz ?_ [] [4]
    rw[Aa aa,listB,List.append_nil]at hE
    subst hE
    obtain⟨hS,h0,r,q1,q2,q3,q4,q5⟩:=hB
    refine G3 (id:=21) [0,1,2,3,4,5,6,7] [2,4] (S2.out r.is) (CW _ _) ?_
    have q1':=E3 (touch:=r.is) q1 q3
    have q6:∃i c cs,r=.row i c cs:=by
     rcases q5 with q5|q5
     ·rw[hr]at q5
      simp[digB]at q5
     ·exact q5
    obtain⟨i,cc,cs,rfl⟩:=q6
    refine gf q1' ?_ o36 [4]
    have q7:=q2.1
    have q8:=q2.2.2.1
    rw[FY]at q7
    rw[List.length_map]at q8
    refine Bc (US (rawB c) i cc cs S2 (by omega) q8 q7) (fun d S3 hr=>?_) (fun d S3 hr=>by cases hr.1)
    obtain⟨hd,rfl⟩:=hr
    cases hd
    refine⟨CW _ _,?_⟩
    refine gz ?_ o36 [4]
    refine moXappF (new:=[[.int .u8 ((sumB (rawB c) 0).toNat:Int)]]) (fun S4 aY=>?_) (fun j o h=>E8 h) q2 (h1:=by simp)
    refine moQStr (s:=JB c) ?_ (h1:=by rw[ap,List.map_append];rfl)
    have bi:Sub O S4:=fun x o hx=>aY x o (E3 (hS x o hx) fun h=>by rw[q4 x h]at hx;cases hx)
    refine gz ?_ o36 [4]
    refine fin2 (U':=O) ⟨by rw[hh];rfl,rfl⟩
section
variable {P:Program}{ro:Ro}{n:Nat}{ops:Array Oper}{N:Nat}{S0:Sig}{Q:DX->St->Prop}{df:List DDf}{γ Sr:List (Nat×D)}{O:Sig}{t:Nat}{ty:TypeId}{pos:String}{after:Array Edge}{l:List (Bool×Oper)}{e:Bool}
theorem mo_eqlG{tab:Nat->Ty}(ht:B6 P tab){T u:Nat}{x y:Operand}{xs ys:List D}{gd:Option (Nat×Bool)}(fs:List (Nat×Nat))(r:Bool)(hE:EqTy P T)(hk:(tab T).k=.struct fs)(hd:eqFs tab xs ys fs=some r)
  (h:MO P ro n ops N S0 Q df l ((t,.bool r)::γ) O) (hw:AB ops γ ⟨some t,.binOp .eql T x y u,ty,pos,after,gd⟩=some true) (ah:decide (t<n)=true) (hl:A2 γ (A9 [x,y])=some Sr) (hx:ev Sr x=.agg xs) (hy:ev Sr y=.agg ys):MO P ro n ops N S0 Q df ((e,⟨some t,.binOp .eql T x y u,ty,pos,after,gd⟩)::l) γ O:=by
 have hc:∀z∈[x,y],ev Sr z=ev γ z:=fun z hz=>Br fun t ht=>Av hl t (AG (by rw[<-ht];exact hz))
 have ax:∀z∈[x,y],ev (only (Oper.looksAt ops ⟨some t,.binOp .eql T x y u,ty,pos,after,gd⟩) γ) z=ev γ z:=fun z hz=>BO (o:=⟨some t,.binOp .eql T x y u,ty,pos,after,gd⟩) (by simp at hz;rcases hz with rfl|rfl<;>simp[Op.operands])
 refine .inl ⟨.bool r,⟨ah,.inl ⟨by rw[Ao];exact hw,(fun c e=>by cases e),Ac (fun c e=>by cases e),fun U' hZ g w a hs hT=>?_⟩⟩,h⟩
 have:=Ik (dst:=some t) (ty:=ty) (pos:=pos) (after:=after) (guard:=gd) (u:=u) ht hs hT hE hk (by rw[ax x (by simp),<-hc x (by simp)];exact hx) (by rw[ax y (by simp),<-hc y (by simp)];exact hy) hd false
 simpa using this
end
theorem UX(O:Sig):DCall prog 56 [] O (rS (.agg (Ae exB)) O):=by
 refine en func56 ntmps56 ?_
 refine gz ?_ [] [0]
 refine newV (fun i hi=>?_)
 refine gz ?_ [] [0]
 have e:Ae exB=[sl [[sl [],sl [[dI 0]],sl [[dI 0,dI 7]]],[sl [[dI 3]],sl [[dI 1]],sl []],[sl [[dI 4],[dI 3]],sl [],sl [[dI 0,dI 1]]]],dI 2,sl [[dI 1]],sl [[dI 1,dI 0,dI 2,dI 0,sl [],dI 3,dI 0,sl [],dI 0],[dI 2,dI 0,dI 3,dI 0,sl [[dI 0]],dI 0,dI 5,sl [],dI 3]],sl [[dI 17,dI 0,sl [[dI 1]]],[dI 4,dI 0,sl [[dI 2]]],[dI 3,dI 0,sl []],[dI 9,dI 0,sl [[dI 4],[dI 5]]],[dI 3,dI 0,sl []],[dI 3,dI 1,sl []],[dI 5,dI 0,sl [[dI 7]]],[dI 6,dI 5,sl []]],dI 6]:=by
  simp[exB,cI,EY,Fact.op,Fact.arg,Fact.path,Fact.cls,Fact.n,Fact.kids]
 refine finC (U':=O) ⟨rfl,rfl⟩ (hw:=?_)
 rw[e]
 refine Nc ?_
 repeat' (first|exact Ab _|exact Al _ (.inl rfl)|exact trivial|refine JW _ ?_|refine⟨?_,?_⟩)
@[reducible,instance] def a56:=fun O=>ah0 (@UX O)
theorem Oy(O:Sig):Ex prog 16 [] O (rS (.bool true) O):=by
 have w3:exB.wt<=1073741824:=by decide +kernel
 have aQ:(C0 exB exC).isSome=true:=by
  have h:=Ti
  cases e:C0 exB exC with
  |none=>rw[e]at h;cases h
  |some W=>rfl
 have ak:=fun O:Sig=>Lu exB O w3
 have ag:=fun O:Sig=>Ow exB exC O w3 (by decide) (by decide)
 have aO:=fun O:Sig=>V5 exC O (by decide) (by decide)
 have aN:=fun O:Sig=>V4 exC O (by decide) (by decide)
 rw[ex_code,V8]at ak
 rw[Ti,aQ]at ag
 rw[V7]at aO aN
 have i18:∀O,Ans 18 [.agg (Ae exB)] O True (.tup [.agg (cCPg exC),dI 0]):=fun O=>ah0 (ak O)
 have i25:∀O,Ans 25 [.agg (Ae exB),.agg (cCPg exC)] O True (.tup [sl (exL.map cLev),dI 0]):=fun O=>ah0 (ag O)
 have i36:∀O,Ans 36 [.agg (cCPg exC)] O True (.tup [.str (JB exC),dI 0]):=fun O=>ah0 (aO O)
 refine enW func16 ntmps16 ?_
 refine gz ?_ o16
 refine E7 (aN O) (fun d S1 hr=>?_) (fun d S1 hr=>by cases hr.1)
 obtain⟨hd,rfl⟩:=hr
 cases hd
 refine gf (gi Th (gi OB VF)) ?_ o16
 refine neqS _ (decide ((⟨0,2⟩:CLev)=⟨0,2⟩)) Tm R7 (eqLev ⟨0,2⟩ ⟨0,2⟩) ?_
 refine gf (gi Th (gi OB VF)) ?_ o16
 have g1:=fun O:Sig=>Jp exB exC [] 9 [] [] .no O w3 (by decide) (by decide) (by decide) (by simp) (by decide) (by decide)
 have g2:=fun (o:Own) (O:Sig)=>Jp exB exC [⟨5,[vInt 1,EB]⟩] 0 [] [vObj 0] o O w3 (by decide) (by decide) (by decide) (by simp) (by decide) (by decide)
 have g3:=fun O:Sig=>Jp exB exC [] 0 [] [vInt 3] .no O w3 (by decide) (by decide) (by decide) (by simp) (by decide) (by decide)
 rw[ex_go1]at g1
 rw[ex_go2]at g2
 rw[ex_go3]at g3
 have e1:EX exH1=[dI 2,dI 0,dI 0,dI 0,sl [[dI 3,dI 0]],dI 0,dI 11,sl [],sl [],sl [[dI 5,sl [[dI 1,dI 1],[dI 2,dI 0]]]],sl []]:=rfl
 have e2:EX exH2=[dI 1,dI 1,dI 1,dI 0,sl [],dI 0,dI 0,sl [],sl [],sl [[dI 5,sl [[dI 1,dI 1],[dI 2,dI 0]]]],sl [[dI 2,dI 0,.slice [[dI 1,dI 1]] .clip]]]:=rfl
 have e3:EX exH3=[dI 4,dI 0,dI 0,dI 0,sl [],dI 5,dI 0,sl [],sl [],sl [],sl []]:=rfl
 simp only[Option.getD_some,Option.isSome_some,if_true,e1]at g1
 simp only[Option.getD_some,Option.isSome_some,if_true,e2]at g2
 simp only[Option.getD_some,Option.isSome_some,if_true,e3]at g3
 have bc:=fun (O:Sig)=>UY [vObj 0] [vObj 0] .no .clip O (by decide) (by decide)
 have au:∀O,DCall prog 53 [sl [[dI 3,dI 0]],.slice [[dI 3,dI 0]] .clip] O (rS (.bool true) O):=fun O=>(bc O).mono fun x U' ⟨h1,h2⟩=>⟨by rw[h1];simp,h2⟩
 refine rtl 73 (.agg (cFr 9 [] [])) ?_ (hw:=FK ⟨Ab _,Al _ (.inl rfl),Al _ (.inl rfl),trivial⟩)
 refine TH (g1 S1) (fun d S2 hr=>?_) (fun d S2 hr=>by cases hr.1)
 obtain⟨hd,rfl⟩:=hr
 cases hd
 repeat' first|refine gz ?_|refine CO (au _) ?_|refine callPG (au _) ?_|refine gz ?_ o16|apply gy<;>intro hh
 refine rtl 111 (.agg (cFr 0 [] [vObj 0])) ?_ (hw:=FK ⟨Ab _,Al _ (.inl rfl),Ab _,trivial⟩)
 refine TH (g2 .no S2) (fun d S3 hr=>?_) (fun d S3 hr=>by cases hr.1)
 obtain⟨hd,rfl⟩:=hr
 cases hd
 have g3':∀O,DCall prog 13 [.agg (Ae exB),.agg (cCPg exC),.nils,.agg [dI 0,.nils,.slice [[dI 1,dI 3]] .clip]] O (rS (.tup [.agg [dI 4,dI 0,dI 0,dI 0,sl [],dI 5,dI 0,sl [],sl [],sl [],sl []],dI 0]) O):=fun O=>(g3 O).wk ⟨Ab _,Ab _,Al _ (.inl rfl),FK ⟨Ab _,Al _ (.inl rfl),BZ _ _,trivial⟩,trivial⟩
 refine gz ?_ (delO 12 o16)
 refine mix (id:=12) [0,1,2,3,4,5,6,7,8,9,10,11] [9,10] ?_
 refine gz ?_ o16
 refine moQWR (fun U' _=>(Ox 3 U').mono fun x S'' hx=>⟨hx.1,hx.2 ▸ Sub.refl _⟩) ?_
 refine gz ?_ o16
 refine moQWR (fun U' _=>(g3' U').mono fun x S'' hx=>⟨hx.1,hx.2 ▸ Sub.refl _⟩) ?_
 refine gz ?_ o16
 refine IU (fun i12 aF=>?_)
 have aR:Sub S3 ((S3.set i12 (.cells [.int .i64 0,.int .i64 0,.int .i64 0,.int .i64 0,.nils,.int .i64 0,.int .i64 0,.nils,.nils,.nils,.nils])).set i12 (.cells [dI 4,dI 0,dI 0,dI 0,sl [],dI 5,dI 0,sl [],sl [],sl [],sl []])):=fun j o hj=>by
  have:=B2 hj aF
  rw[w7 _ _ this,w7 _ _ this];exact hj
 refine Gt Af tdR (by simp;rfl) aR ?_
 simp only[w8]
 refine gz ?_ o16
 refine mo_eqlG Af _ (decide (vInt 1=vInt 1)) OC Og (Va (vInt 1) (vInt 1)) ?_ tdR tdR tdR tdR tdR
 refine gz ?_ o16
 exact fin1 (U':=S3) ⟨rfl,rfl⟩
theorem TE(p:BProg):(G6 p).ins.length<=300/\(G6 p).starts.length<=300:=by
 unfold G6
 split
 ·rename_i h
  have h1:=In h
  obtain⟨_,_,h2,_,h3⟩:=Dv h
  rw[K2]
  omega
 ·simp
theorem Io{p:BProg}(h:okP p=true):G6 p=Dc p:=by unfold G6;rw[if_pos h]
theorem QT{p:BProg}(h:okP p=true):(C0 p (G6 p)).isSome=true:=by
 have:=EH p (G6 p)
 rw[Io h,Gw h]at this
 rw[Io h]
 cases e:C0 p (Dc p)with
 |none=>rw[e]at this;cases this
 |some W=>rfl
theorem look_is(p:BProg):(F8 p).isSome=okP p:=by rw[<-Up p];rfl
theorem To(l:List CIns)(k:Nat)(hk:k<l.length):ML (l.take (k+1))=ML (l.take k)+if(l[k]).op=21 then 1 else 0:=by
 unfold ML
 rw[List.take_succ_eq_append_getElem hk,List.filter_append,List.length_append]
 by_cases h:(l[k]).op=21<;>simp[h]
theorem ends_le(l:List CIns):ML l<=l.length:=by unfold ML;exact List.length_filter_le _ _
theorem f6_spec(p:BProg)(O:Sig)(hp:p.wt<=1073741824):Ex prog 6 [.agg (Ae p)] O (rS (.bool true) O):=by
 have bb:=look_is p
 have i29:∀O,Ans 29 [.agg (Ae p)] O True (.bool (okP p)):=fun O=>ah0 (bb ▸ V6 p O hp)
 obtain⟨l1,l2⟩:=TE p
 have ag:=fun O:Sig=>Ow p (G6 p) O hp (by omega) (by omega)
 refine enW func6 ntmps6 ?_
 cases hk:okP p with
 |false=>
  refine gf hk ?_ o6
  refine TG (Oy O) (fun d S1 hr=>?_) (fun d S1 hr=>by cases hr.1)
  obtain⟨hd,rfl⟩:=hr
  cases hd
  refine gz ?_ o6
  exact fin1 (U':=S1) ⟨rfl,rfl⟩
 | true =>
  have hs:=QT hk
  have ay:=EH p (G6 p)
  obtain⟨g1,g2,g3,g4,g5⟩:=Dv hk
  rw[Io hk]at hs ay ag l1 l2
  rw[Gw hk]at ay
  rw[<-ay,hs]at ag
  have ak:=fun O:Sig=>Lu p O hp
  rw[Io hk,hk]at ak
  have aX:=In hk
  have aK:(lvAll p 12 (bodsP p)).length=(Dc p).ins.length:=(M9 (Gw hk)).2.1
  have ae:=Oc p 12 (bodsP p) (HR hk)
  rw[OO hk]at ae
  obtain⟨aB,aG⟩:=OD p 12 (bodsP p) 0 (HR hk)
  rw[<-Ho]at aB aG
  have ar:(bodsP p).length=p.methods.length+1:=by unfold bodsP B7;rw[List.length_append,List.length_map];rfl
  rw[ar]at aB
  simp only[Option.map_some,Option.getD_some,if_true]at ag
  obtain⟨lv,aq⟩:∃lv,lv=lvAll p 12 (bodsP p):=⟨_,rfl⟩
  obtain⟨c,hc⟩:∃c,c=Dc p:=⟨_,rfl⟩
  simp only[<-aq,<-hc,if_true]at ak ag aK ae aB aG aX l1 l2
  have i18:∀O,Ans 18 [.agg (Ae p)] O True (.tup [.agg (cCPg c),dI 0]):=fun O=>ah0 (ak O)
  have i25:∀O,Ans 25 [.agg (Ae p),.agg (cCPg c)] O True (.tup [sl (lv.map cLev),dI 0]):=fun O=>ah0 (ag O)
  clear ay hs aq hc ak ag
  refine gf (gi hk aK) ?_ o6
  refine BV [1,3,5,109,110,111,112,113,114,115,116,117] (fun (k:Nat)=>k<=lv.length) (fun k=>[(7,dI k),(6,dI (ML (c.ins.take k):Nat))]) (fun _=>O) (fun k=>lv.length-k) (0) (by exact Nat.zero_le _) (fun k hI=>?_)
  have bd:=hI
  have bh:=ends_le (c.ins.take k)
  have aW:(c.ins.take k).length<=300:=by rw[List.length_take];omega
  by_cases aa:k<lv.length
  ·have aL:k<c.ins.length:=by omega
   obtain⟨a1,a2,a3⟩:=ae lv[k] (List.getElem_mem aa)
   have he:=To c.ins k aL
   by_cases aw:(c.ins[k]).op=21
   ·have a4:(lv[k]).st=1:=by
     have:=aG k (by rw[List.getElem?_eq_getElem aL,Option.map_some,aw])
     rw[List.getElem?_eq_getElem aa,Option.map_some]at this
     exact Option.some.inj this
    rw[if_pos aw]at he
    refine gf (gi aw a4) ?_ o6
    exact⟨k+1,by exact aa,td1,wkR⟩
   ·rw[if_neg aw]at he
    refine gf aw ?_ o6
    exact⟨k+1,by exact aa,td1,wkR⟩
  ·have aD:c.ins.take k=c.ins:=List.take_of_length_le (by omega)
   rw[aD,aB]
   refine gz ?_ o6
   refine TG (Oy O) (fun d S1 hr=>?_) (fun d S1 hr=>by cases hr.1)
   obtain⟨hd,rfl⟩:=hr
   cases hd
   refine gz ?_ o6
   exact fin1 (U':=S1) ⟨rfl,rfl⟩
end Go.DL
