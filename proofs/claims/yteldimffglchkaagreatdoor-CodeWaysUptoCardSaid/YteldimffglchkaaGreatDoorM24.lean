/- A part of the proof. -/
import Derived.Test.YteldimffglchkaaGreatDoorM23
import Derived.Test.YteldimffglchkaaGreatDoorM09
import Derived.Test.YteldimffglchkaaGreatDoorM22
import Derived.Test.YteldimffglchkaaGreatDoorM19
import Derived.Test.YteldimffglchkaaGreatDoorM14
import Derived.Test.YteldimffglchkaaGreatDoorM05
import Derived.Test.YteldimffglchkaaGreatDoorM20
set_option linter.all false
namespace Go.DL
open Go.Proofs.Tryz
open Go Go.Proofs
set_option maxHeartbeats 8000000
section
variable {ro:Ro}{n:Nat}{ops:Array Oper}{N:Nat}{S0:Sig}{Q:DX->St->Prop}{df:List DDf}{rest:List Oper}{γ Sr:List (Nat×D)}{O:Sig}{t:Nat}{ty:TypeId}{pos:String}{after:Array Edge}{d:D}
theorem moXappF{T T' e e' sz:Nat}{s x:Operand}{es new:List (List D)}{r:RW}{l:List (Bool×Oper)}(h:∀U',Sub S0 U'->MO prog ro n ops N S0 Q df l ((t,.slice (es++new) .no)::γ) U')(hC:∀j o,S0 j=some o->O j=some o /\ ¬r.is j)(hm:RWAt O sz r es:=by assumption)
  (hl:A0 γ (A5 [s,x])=some Sr:=by exact tdR) (hk:(tab T).k=.slice e:=by(simp<;>rfl)) (aS:(tab T').k=.slice e':=by(simp<;>rfl)) (he:A1 (tab e).k=false:=by simp) (hsz:(tab e).size=sz:=by simp)
  (h1:ev Sr s=r.d es.length:=by first|with_unfolding_all rfl|(simp[ev,getD,List.lookup];done)) (h2:esOf (ev Sr x)=some new:=by(simp<;>with_unfolding_all rfl))
  (hlen':∀c∈new,c.length=sz:=by first|exact Cb _|exact E1 _|exact CK _|simp) (bM:∀c∈new,BC c=true:=by simp[cI,cS,cII,BC,D.flat])
  (hb:(es.length+new.length)*(tab e).bytes<=140737488355328:=by first|(simp;done)|(simp;omega)) (hm2:es.length+new.length<=9223372036854775807:=by first|(simp;done)|(simp;omega)) (am:decide (t<n)=true:=by exact tdR) :
  MO prog ro n ops N S0 Q df ((true,⟨some t,(cA s x T T'),ty,pos,after,none⟩)::l) γ O:=
 mo1 (fun U2 hx=>by
  obtain⟨e1,e2⟩:=Hg hl hx
  refine DZ Ac (by simpa using am) hk aS he hsz (by rw[e1];exact h1) hm (by rw[e2];exact Hl h2 hlen') hlen' bM hb hm2 (fun r' U' h' hK _=>?_)
  obtain⟨S'',hw,bL⟩:=HL (P:=prog) (n:=n) (γ:=(t,r'.d (es.length+new.length))::U2) (df:=df) (t:=t) h' (by simp[getD,List.lookup])
  have hS:Sub S0 S'':=fun j o hj=>by
   obtain⟨q1,q2⟩:=hC j o hj
   obtain⟨q3,q4⟩:=hK j o q1 q2
   exact bL j o q3 q4
  refine C4 hw (Aw ⟨rfl,?_⟩)
  simp only[A6,if_true]
  exact⟨hS,h S'' hS⟩) am
theorem moQStr{T T' e:Nat}{x:Operand}{s:List UInt8}{ef:Bool}{l:List (Bool×Oper)}(h:MO prog ro n ops N S0 Q df l ((t,.str s)::γ) O)(hl:A0 γ (A5 [x])=some Sr:=by exact tdR)(hk:(tab T).k=.slice e:=by(simp<;>rfl))(aS:(tab T').k=.str:=by(simp<;>rfl))(bf:(tab e).k=.int .u8:=by(simp<;>rfl))
  (h1:esOf (ev Sr x)=some (s.map fun b=>[D.int .u8 (b.toNat:Int)])) (am:decide (t<n)=true:=by exact tdR) :
  MO prog ro n ops N S0 Q df ((ef,⟨some t,.convert T T' x,ty,pos,after,none⟩)::l) γ O:=by
 have aY:∀y∈(Op.convert T T' x).operands,ev (only (Oper.looksAt ops ⟨some t,.convert T T' x,ty,pos,after,none⟩) γ) y=ev γ y:=fun y hy=>Bo (o:=⟨some t,.convert T T' x,ty,pos,after,none⟩) hy
 have hx:∀y∈[x],ev Sr y=ev γ y:=fun y hy=>B9 fun t ht=>At hl t (Az (by rw[<-ht];exact hy))
 refine O2 (.str s) am rfl (by rw[Ak];rfl) (fun U' cf ro' df'=>?_) h
 refine V5 Ac (Aw ⟨rfl,?_⟩) (by rw[Ak];rfl) (by simpa using am) hk aS bf (by rw[aY x (by simp[Op.operands]),<-hx x (by simp)];exact h1)
 simp only[A6,if_true]
 exact⟨trivial,Sub.refl _⟩
end
theorem L0(c:CProg)(O:Sig)(h1:c.ins.length<=1073741824)(h2:c.starts.length<=1073741824):DCall prog 36 [.agg (cCPg c)] O (rS (if AP c then .tup [.str (CA c),dI 0] else .tup [.str [],dI 2]) O):=by
 refine en func36 ntmps36 ?_
 repeat' first|refine gz ?_ o36 [4]|apply gy<;>intro hh
 ·refine fin2 (U':=O) ⟨by rw[hh];rfl,rfl⟩
 ·have hp:=hh
  unfold AP at hp
  simp only[Bool.and_eq_true,decide_eq_true_eq]at hp
  obtain⟨c1,c2,c3,c4,c5⟩:=hp
  have hT:=J7 hh
  have hm:0<=c.main/\c.main<=1000000000:=by unfold farN at c3;simpa using c3
  refine newV (fun ib ah=>?_)
  refine gz ?_ o36 [4]
  have bk:PkS ib O [199] (O.set ib (.cells [.slice [[.int .u8 199]] .clip])):=⟨(Sub.refl _).set ah,ah,.full [Dq 199],w6 .., ⟨rfl,by simp⟩,id,fun _ h=>h.elim,.inl (by simp)⟩
  try simp only[w8]
  generalize O.set ib (.cells [.slice [[.int .u8 199]] .clip])=S1 at bk⊢
  have aQ:CA c=rawB c++[sumB (rawB c) 0]:=rfl
  have aw:=congrArg List.length aQ
  rw[List.length_append,List.length_singleton]at aw
  have hr:rawB c=[199]++(digB c.starts.length++(listB (fun n:Int=>digB n.toNat) c.starts++(digB c.main.toNat++(digB c.ins.length++listB insB c.ins)))):=rfl
  have bE:=congrArg List.length hr
  simp only[List.length_append,List.length_singleton]at bE
  refine A3 (Fk ib O [199] c.starts.length S1 bk (by omega) (by simp)) (fun d S2 hr=>?_) (fun d S2 hr=>by cases hr.1)
  obtain⟨hd,hB⟩:=hr
  cases hd
  refine gz ?_ o36 [4]
  refine ET [1,2,3,4,8,18,19,27,28,29,30,31,32,33,34,35,36,37,38,39,40,41,42,43,44,45,46,47,48,49,50,51,52,53,54,55,56,57,58,59,60,61,62,63,64,65,66,67,68,69,70] (fun (k:Nat) (bs:List UInt8) (S2:Sig)=>k<=c.starts.length/\PkS ib O bs S2/\bs++(listB (fun n:Int=>digB n.toNat) (c.starts.drop k)++(digB c.main.toNat++(digB c.ins.length++listB insB c.ins)))=rawB c) (fun k _ _=>[(20,dI k)]) (fun _ _ S2=>S2) (fun k _ _=>c.starts.length-k) (0) ([199]++digB c.starts.length) (S2) (by exact⟨by omega,hB,by rw[hr];simp⟩) (fun k bs S2 hI=>?_)
  clear hB bk
  obtain⟨hk,hB,hE⟩:=hI
  have ba:=congrArg List.length hE
  rw[List.length_append]at ba
  by_cases aH:k<c.starts.length
  ·rw[Ad aH,listB]at hE
   have hn:=List.all_eq_true.1 c4 _ (List.getElem_mem aH)
   unfold farN at hn
   simp only[decide_eq_true_eq]at hn
   obtain⟨w,hw⟩:∃w:Nat,c.starts[k]=(w:Int):=⟨c.starts[k].toNat,by omega⟩
   rw[hw]at hn hE
   refine gf hw ?_ o36 [4]
   refine A3 (Fk ib O bs w S2 hB (by omega) (by omega)) (fun d S3 hr=>?_) (fun d S3 hr=>by cases hr.1)
   obtain⟨hd,bd⟩:=hr
   cases hd
   refine gz ?_ o36 [4]
   exact⟨k+1,_,_,⟨by omega,bd,by simpa[List.append_assoc] using hE⟩,td1,wkR⟩
  ·rw [Aj aH,listB,List.nil_append] at hE
   obtain⟨w,hw⟩:∃w:Nat,c.main=(w:Int):=⟨c.main.toNat,by omega⟩
   rw[hw]at hm hE
   refine gf hw ?_ o36 [4]
   refine A3 (Fk ib O bs w S2 hB (by omega) (by omega)) (fun d S3 hr=>?_) (fun d S3 hr=>by cases hr.1)
   obtain⟨hd,bd⟩:=hr
   cases hd
   have bj:=congrArg List.length hE
   simp only[List.length_append,Int.toNat_natCast]at bj
   refine gz ?_ o36 [4]
   refine A3 (Fk ib O (bs++digB w) c.ins.length S3 bd (by omega) (by simp;omega)) (fun d S4 hr=>?_) (fun d S4 hr=>by cases hr.1)
   obtain⟨hd,aO⟩:=hr
   cases hd
   refine gz ?_ o36 [4]
   refine ET [2,3,4,35,36,65,66,67,68,69,70] (fun (k:Nat) (bs:List UInt8) (S2:Sig)=>k<=c.ins.length/\PkS ib O bs S2/\bs++listB insB (c.ins.drop k)=rawB c) (fun k _ _=>[(37,dI k)]) (fun _ _ S2=>S2) (fun k _ _=>c.ins.length-k) (0) (bs++digB w++digB c.ins.length) (S4) (by exact⟨by omega,aO,by simpa[List.append_assoc] using hE⟩) (fun k bs S2 hI=>?_)
   clear hB bd aO hE
   obtain⟨hk,hB,hE⟩:=hI
   have ba:=congrArg List.length hE
   rw[List.length_append]at ba
   by_cases aH:k<c.ins.length
   ·rw [Ad aH,listB] at hE
    have hI:=List.all_eq_true.1 c5 _ (List.getElem_mem aH)
    unfold Cz at hI
    simp only[Bool.and_eq_true,decide_eq_true_eq]at hI
    obtain⟨⟨aU,aK⟩,ay⟩:=hI
    obtain⟨w,hw⟩:∃w:Nat,c.ins[k].op=(w:Int):=⟨c.ins[k].op.toNat,by omega⟩
    obtain⟨hS,h0,r,q1,q2,q3,q4,q5⟩:=hB
    obtain⟨y,hy⟩:∃y,UInt8.ofNat c.ins[k].op.toNat=y:=⟨_,rfl⟩
    have bz:IntKind.u8.wrap c.ins[k].op=(y.toNat:Int):=by rw[<-hy,hw,HJ,Du (by omega)];omega
    have bi : -1000000000<=c.ins[k].a/\c.ins[k].a<=1000000000/\(c.ins[k].a<0->hasA c.ins[k].op=true):=by
     split at ay
     ·rename_i hA
      refine⟨?_,?_,fun _=>hA⟩<;>split at ay
      ·unfold inB at ay;simp at ay;omega
      ·unfold farN at ay;simp at ay;omega
      ·unfold inB at ay;simp at ay;omega
      ·unfold farN at ay;simp at ay;omega
     ·simp at ay;omega
    obtain⟨a1,a2,a3⟩:=bi
    refine gf q1 ?_ o36 [4]
    simp only[bz]
    refine xapp (new:=[[.int .u8 (y.toNat:Int)]]) (fun j c' cs' S3 bR bw=>?_) q2 (h1:=by simp)
    have ah:=bw ib _ q1 q3
    have aj:RWAt S3 1 (.row j c' cs') ((bs++[y]).map Dq):=by rw[List.map_append];exact bR
    have hP:=PkS.put hS h0 q1 q3 q4 aj bw
    have aJ:S3 ib=some (.cells [r.d bs.length]):=by rw[ah.1];simp
    simp only[List.length_append,List.length_singleton]at hP
    by_cases aG:c.ins[k].a<0
    ·obtain⟨v,hv⟩:∃v:Nat, -2*c.ins[k].a-1=(v:Int):=⟨(-2*c.ins[k].a-1).toNat,by omega⟩
     have aT:insB c.ins[k]=y::digB v:=by
      unfold insB Hz;rw[hy,if_pos (a3 aG),if_pos aG,hv];rfl
     rw[aT]at hE
     refine gf aJ ?_ o36 [4]
     simp only[hv]
     refine A3 (Fk ib O (bs++[y]) v _ hP (by omega) (by simp;omega)) (fun d S4 hr=>?_) (fun d S4 hr=>by cases hr.1)
     obtain⟨hd,aO⟩:=hr
     cases hd
     refine gz ?_ o36 [4]
     exact⟨k+1,_,_,⟨by omega,aO,by simpa[List.append_assoc] using hE⟩,td1,wkR⟩
    ·obtain⟨v,hv⟩:∃v:Nat,2*c.ins[k].a=(v:Int):=⟨(2*c.ins[k].a).toNat,by omega⟩
     by_cases hA:hasA c.ins[k].op=true
     ·have aT:insB c.ins[k]=y::digB v:=by
       unfold insB Hz;rw[hy,if_pos hA,if_neg aG,hv];rfl
      rw[aT]at hE
      refine gf (gi aJ hA) ?_ o36 [4]
      simp only[hv]
      refine A3 (Fk ib O (bs++[y]) v _ hP (by omega) (by simp;omega)) (fun d S4 hr=>?_) (fun d S4 hr=>by cases hr.1)
      obtain⟨hd,aO⟩:=hr
      cases hd
      refine gz ?_ o36 [4]
      exact⟨k+1,_,_,⟨by omega,aO,by simpa[List.append_assoc] using hE⟩,td1,wkR⟩
     ·have aT:insB c.ins[k]=[y]:=by
       unfold insB;rw[hy,if_neg hA]
      rw[aT]at hE
      refine gf (gi aJ hA) ?_ o36 [4]
      exact⟨k+1,_,_,⟨by omega,hP,by simpa[List.append_assoc] using hE⟩,td1,wkR⟩
   ·refine gz ?_ [] [4]
    rw[Aj aH,listB,List.append_nil]at hE
    subst hE
    obtain⟨hS,h0,r,q1,q2,q3,q4,q5⟩:=hB
    refine Hy (id:=21) [0,1,2,3,4,5,6,7] [2,4] (S2.out r.is) (C1 _ _) ?_
    have q1':=D2 (touch:=r.is) q1 q3
    have q6:∃i c cs,r=.row i c cs:=by
     rcases q5 with q5|q5
     ·rw[hr]at q5
      simp[digB]at q5
     ·exact q5
    obtain⟨i,cc,cs,rfl⟩:=q6
    refine gf q1' ?_ o36 [4]
    have q7:=q2.1
    have q8:=q2.2.2.1
    rw[Fq]at q7
    rw[List.length_map]at q8
    refine Bx (UI (rawB c) i cc cs S2 (by omega) q8 q7) (fun d S3 hr=>?_) (fun d S3 hr=>by cases hr.1)
    obtain⟨hd,rfl⟩:=hr
    cases hd
    refine⟨C1 _ _,?_⟩
    refine gz ?_ o36 [4]
    refine moXappF (new:=[[.int .u8 ((sumB (rawB c) 0).toNat:Int)]]) (fun S4 bP=>?_) (fun j o h=>Cf h) q2 (h1:=by simp)
    refine moQStr (s:=CA c) ?_ (h1:=by rw[aQ,List.map_append];rfl)
    have ce:Sub O S4:=fun x o hx=>bP x o (D2 (hS x o hx) fun h=>by rw[q4 x h]at hx;cases hx)
    refine gz ?_ o36 [4]
    refine fin2 (U':=O) ⟨by rw[hh];rfl,rfl⟩
def cB8(s:Str):List (List D):=s.map fun b=>[D.int .u8 (b.toNat:Int)]
@[simp] theorem cB8_len(l:Str):(cB8 l).length=l.length:=by simp[cB8]
theorem TH(l:Str):(cB8 l).all (fun c=>c.length==1)=true:=by simp[cB8]
@[simp] theorem cB8_cons(b:UInt8)(r:Str):cB8 (b::r)=[D.int .u8 (b.toNat:Int)]::cB8 r:=rfl
@[simp] theorem cB8_nil:cB8 []=[]:=rfl
abbrev cPk(bs:Str):DObj:=.cells [.slice (cB8 bs) .no]
theorem Gr(ib:Nat)(bs:Str)(O:Sig)(hi:O ib=some (cPk bs))(hl:bs.length<=1000000):DCall prog 79 [.ptr ib 0] O fun x U'=>match bs with
  |[]=>x=.panic unfC/\U'=O
  |b::r=>x=.ret (.int .u8 (b.toNat:Int))/\U'=O.set ib (cPk r):=by
 cases bs with
 |nil=>
  refine en func79 ntmps79 ?_
  repeat' first|((first|exact finP (U':=O) ⟨rfl,rfl⟩|(exfalso;simp at hh;done)))|refine gf hi ?_|apply gy<;>intro hh
 |cons b r=>
  have hb:=b.toNat_lt
  generalize hy:b.toNat=y at*
  refine en func79 ntmps79 ?_
  repeat' first|((exfalso;simp at hh;omega))|refine gf (gi hi (gi hy TH)) ?_|apply gy<;>intro hh
  exact fin1 (U':=O.set ib (cPk r)) ⟨by rw[hy],rfl⟩
def GrpR(ib:Nat)(bs:Str)(O:Sig)(x:DE)(U':Sig):Prop:= ∃r:Str,U'=O.set ib (cPk r)/\r.length<=bs.length/\match grpI bs with
 |none=>x=.panic unfC
 |some (n,t)=>x=.ret (dI n)/\t=r
theorem set_self{O:Sig}{i:Nat}{o:DObj}(h:O i=some o):O.set i o=O:=by
 funext j
 unfold Sig.set
 by_cases e:j=i
 ·rw[if_pos e,e,h]
 ·rw[if_neg e]
theorem Gq(ib:Nat)(bs:Str)(O:Sig)(hi:O ib=some (cPk bs))(hl:bs.length<=1000000):DCall prog 80 [.ptr ib 0] O (GrpR ib bs O):=by
 have bC:Sub (O.set ib (cPk bs)) O:=by rw[set_self hi];exact Sub.refl _
 refine en func80 ntmps80 ?_
 refine gz ?_
 refine ET [0,28,29] (fun (k:Nat) (n:Nat) (r:Str)=>k<=6/\n<128 ^ k/\r.length<=bs.length/\grpB 6 true 0 bs=grpB (6-k) (decide (k=0)) n r) (fun k n _=>[(6,dI k),(3,dI n)]) (fun _ _ r=>O.set ib (cPk r)) (fun k _ _=>6-k) (0) (0) (bs) (by exact⟨by omega,by omega,Nat.le_refl _,rfl⟩) (fun k n r hI=>?_)
 obtain⟨hk,hn,hr,hG⟩:=hI
 by_cases aM:k<6
 ·have hp:(128:Nat) ^ k<=128 ^ 5:=Nat.pow_le_pow_right (by omega) (by omega)
  have bG:n<34359738368:=by omega
  obtain⟨j,hj⟩:∃j,6-k=j+1:=⟨5-k,by omega⟩
  cases r with
  |nil=>
   refine gf aM ?_
   refine A3 (Gr ib [] (O.set ib (cPk [])) (w6 ..) (by simp)) (fun d S1 h=>by cases h.1) (fun d S1 h=>?_)
   obtain⟨h1,rfl⟩:=h
   cases h1
   refine gz ?_
   exact finP (U':=O.set ib (cPk [])) ⟨[],rfl,by simp,by unfold grpI;rw[hG,hj];rfl⟩
  | cons b t =>
   have b8:t.length<bs.length:=by rw[List.length_cons]at hr;omega
   have aL:grpB 6 true 0 bs=if(decide (k=0)&&b==128)=true then none else if b<128 then some (n*128+b.toNat % 128,t) else grpB j false (n*128+b.toNat % 128) t:=by rw[hG,hj];rfl
   have bN:(b==128)=decide (b.toNat=128):=by
    rw[Bool.eq_iff_iff,decide_eq_true_iff,beq_iff_eq,<-UInt8.toNat_inj];rfl
   have bc:(b<128) ↔ b.toNat<128:=UInt8.lt_iff_toNat_lt
   have cd:=b.toNat_lt
   have aX:=Gr ib (b::t) (O.set ib (cPk (b::t))) (w6 ..) (by omega)
   simp only[bN,bc]at aL
   simp only[w8]at aX
   generalize b.toNat=y at*
   have hm:Int.tmod (y:Int) 128=((y % 128:Nat):Int):=rfl
   have bF:(n*128+y % 128)<128 ^ (k+1):=by
    rw[Nat.pow_succ]
    generalize 128 ^ k=q at*
    omega
   refine gf aM ?_
   refine A3 aX (fun d S1 h=>?_) (fun d S1 h=>by cases h.1)
   obtain⟨h1,rfl⟩:=h
   cases h1
   by_cases c1:k=0/\y=128
   ·obtain⟨rfl,rfl⟩:=c1
    repeat' first|((exact finP (U':=O.set ib (cPk t)) ⟨t,rfl,by omega,by unfold grpI;rw[aL];rfl⟩))|refine gz ?_|apply gy<;>intro hh
   ·have e1:¬(decide (k=0)&&decide (y=128))=true:=by simpa using c1
    rw[if_neg e1]at aL
    by_cases c2:y<128
    ·rw[if_pos c2]at aL
     repeat' first|refine gf hm ?_|apply gy<;>intro hh
     all_goals exact fin1 (U':=O.set ib (cPk t)) (d':=dI ((n*128+y % 128:Nat):Int)) ⟨t,rfl,by omega,by unfold grpI;rw[aL];exact⟨rfl,rfl⟩⟩ (hw:=Cq (by simp))
    ·rw[if_neg c2]at aL
     have bT:grpB 6 true 0 bs=grpB (6-(k+1)) (decide (k+1=0)) (n*128+y % 128) t:=by rw[aL,show 6-(k+1)=j by omega];rfl
     repeat' first|refine gf hm ?_|apply gy<;>intro hh
     all_goals exact⟨k+1,n*128+y % 128,t,⟨by omega,bF,by omega,bT⟩,td1,wkR⟩
 ·repeat' first|((exact finP (U':=O.set ib (cPk r)) ⟨r,rfl,hr,by unfold grpI;rw[hG,show 6-k=0 by omega];rfl⟩))|refine gf aM ?_|apply gy<;>intro hh
section
variable {P:Program}{ro:Ro}{n N:Nat}{ops:Array Oper}{Q:DX->St->Prop}{df:List DDf}{γ Sr:List (Nat×D)}{O S0:Sig}{ty:TypeId}{pos:String}{after:Array Edge}
theorem O3{fop:Operand}{args:Array Operand}{ats:Array TypeId}{f:Nat}{first cap us bs:List D}{R:DE->Sig->Prop}{dst:Option Tmp}{guard:Option (Nat×Bool)}{l:List (Bool×Oper)}
  (hw:Ax ops γ ⟨dst,(cv fop args ats),ty,pos,after,guard⟩=some true)
  (hl:A0 γ (A5 (fop::args.toList))=some Sr) (hf:ev Sr fop=.func (.func f) first cap) (ha:first++args.toList.map (ev Sr)++cap=us) (hb:bs=us\/bs=us.map D.plain) (h:DCallR P ro f bs O R)
  (ho:Ap n ⟨dst,(cv fop args ats),ty,pos,after,guard⟩=true)
  (aE:∀d U',R (.ret d) U'->Sub S0 U'/\MO P ro n ops N S0 Q df l (putD dst d γ) U')
  (aF:∀d U',R (.panic d) U'->∀V',Q (.panic d) ⟨V',U',df⟩) :
  MO P ro n ops N S0 Q df ((true,⟨dst,(cv fop args ats),ty,pos,after,guard⟩)::l) γ O:=by
 have hx:∀x∈fop::args.toList,ev Sr x=ev γ x:=fun x hx=>B9 fun t ht=>At hl t (Az (by rw[<-ht];exact hx))
 have aY:∀x∈((cv fop args ats)).operands,ev (only (Oper.looksAt ops ⟨dst,(cv fop args ats),ty,pos,after,guard⟩) γ) x=ev γ x:=fun x hx=>Bo (o:=⟨dst,(cv fop args ats),ty,pos,after,guard⟩) hx
 refine .inr ⟨rfl,ho,by rw[Ak];exact hw,?_⟩
 refine Ha (first:=first) (cap:=cap) (f:=f) (R:=R) ?_ ?_ (h.wk ?_) ho ?_ ?_
 ·show Ax ops (only _ γ) _=some true
  rw[Ak];exact hw
 ·rw[aY fop (by simp[Op.operands,Call.operands]),<-hx fop (by simp)];exact hf
 ·rw[show args.toList.map (ev (only (Oper.looksAt ops ⟨dst,(cv fop args ats),ty,pos,after,guard⟩) γ))=args.toList.map (ev Sr) from List.map_congr_left fun x hm=>by
   rw[aY x (by simp at hm;simp[Op.operands,Call.operands,hm]),<-hx x (by simp[hm])],ha]
  rcases hb with rfl|rfl
  ·exact Co _
  ·exact Cp _
 ·intro d U' hR
  obtain⟨h1,h2⟩:=aE d U' hR
  refine Aw ⟨rfl,?_⟩
  cases dst with
  |none=>exact⟨h1,h2⟩
  |some t=>simp only[putD,A6,if_true];exact⟨h1,h2⟩
 ·intro d U' hR
  exact⟨rfl,aF d U' hR⟩
theorem QS{fop:Operand}{args:Array Operand}{ats:Array TypeId}{f:Nat}{first cap us bs:List D}{R:DE->Sig->Prop}{dst:Option Tmp}{j:Nat}{want:Bool}{k:Nat}{l:List (Bool×Oper)}(h:DCallR P ro f bs O R)(aE:∀d U',R (.ret d) U'->Sub S0 U'/\MO P ro n ops N S0 Q df l (putD dst d γ) U')(aF:∀d U',R (.panic d) U'->∀V',Q (.panic d) ⟨V',U',df⟩)(hk:(ops[j]?).bind (·.dst)=some k:=by exact tdR)(hb:γ.lookup k=some (.bool want):=by exact tdR)(hl:A0 γ (A5 (fop::args.toList))=some Sr:=by exact tdR)(hf:ev Sr fop=.func (.func f) first cap:=by exact tdR)(ha:first++args.toList.map (ev Sr)++cap=us:=by exact td0)(hp:bs=us\/bs=us.map D.plain:=by first|exact .inl tdR|exact .inr tdR)
  (ho:Ap n ⟨dst,(cv fop args ats),ty,pos,after,some (j,want)⟩=true:=by exact tdR):MO P ro n ops N S0 Q df ((true,⟨dst,(cv fop args ats),ty,pos,after,some (j,want)⟩)::l) γ O:=
 O3 (by simp only[Ax,Cj hk hb];simp) hl hf ha hp h ho aE aF
theorem moER{op:Op}{t:Nat}{d:D}{l:List (Bool×Oper)}(h:MO prog ro n ops N S0 Q df l ((t,d)::γ) O)(hC:Sub S0 O:=by first|exact Sub.refl _|assumption)(hr:D1 op=true:=by rfl)(hl:A0 γ (A5 op.operands.toList)=some Sr:=by exact tdR)(hd:dopX tab Sr O op=some d:=by first|with_unfolding_all rfl|(simp;done)|(simp;rfl))(am:decide (t<n)=true:=by exact tdR):
  MO prog ro n ops N S0 Q df ((true,⟨some t,op,ty,pos,after,none⟩)::l) γ O:=by
 have e:dopX tab γ O op=some d:=(Be (C3 hl)) ▸ hd
 refine .inr ⟨rfl,am,by rw[Ak];rfl,?_⟩
 refine GF Ac hr (by rw[Ak];rfl) ((Be (V':=γ) fun x hx=>Bo (o:=⟨some t,op,ty,pos,after,none⟩) hx).trans e) am (Aw ⟨rfl,?_⟩)
 simp only[putD,A6,if_true]
 exact⟨hC,h⟩
end
theorem Pe(l:Str)(b:Nat):(⟨l.toArray⟩:ByteArray).extract 0 b=⟨(l.take b).toArray⟩:=by
 apply ByteArray.ext
 simp[ByteArray.data_extract]
section
variable {P:Program}{tab:Nat->Ty}(ht:B2 P tab){ro:Ro}{n:Nat}{ops:Array Oper}{Q:DX->St->Prop}{df:List DDf}{rest:List Oper}{γ:List (Nat×D)}{O:Sig}
include ht
theorem Tn{t T ty:Nat}{k:IntKind}{x y:Operand}{s:Str}{hi:Nat}{pos:String}{after:Array Edge}
  (h:DOps P ro n ops Q rest ⟨(t,.str (s.take hi))::γ,O,df⟩) (am:t<n) (hk:(tab T).k=.str) (h1:ev γ x=.str s) (h2:ev γ y=.int k hi) (bu:hi<=s.length) :
  DOps P ro n ops Q (⟨some t,.slice T x none (some y) none,ty,pos,after,none⟩::rest) ⟨γ,O,df⟩:=by
 refine By (fun d U'=>d=.str (s.take hi)/\U'=O) rfl (fun c e=>by cases e) (Aa fun c e=>by cases e) (by simp[Ap,am]) ?_
  (fun d U' ⟨a2,a3⟩=>by subst a2 a3;exact h)
 intro g w a hs hT
 have hx:=Ai hT x
 have hy:=Ai hT y
 rw[h1]at hx
 rw[h2]at hy
 have hv:a.eval x=.string ⟨s.toArray⟩:=hx
 have hu:=B4 hy
 have c1:(0:Int)<=(hi:Int):=by omega
 have c2:(hi:Int)<=((ByteArray.size ⟨s.toArray⟩:Nat):Int):=by
  have:ByteArray.size ⟨s.toArray⟩=s.length:=by simp[ByteArray.size]
  omega
 have hr:(Instr.sliceAt T (a.eval x) none (some (a.eval y)) none).run P w=.ok (.string ⟨(s.take hi).toArray⟩) w:=by
  rw[hv,hu]
  simp only[Instr.sliceAt,Instr.slice,Instr.sliceBounds,Instr.sliceBound,asIntOf,Sem.run_bind,Sem.run_pure,Result.andThen_ok,run_underlying (FG ht hk),c1,c2,and_self,if_true,Int.toNat_natCast,Option.isSome_none,Bool.false_eq_true,if_false,Pe]
 exact⟨g,w,.string ⟨(s.take hi).toArray⟩,.str (s.take hi),O,by simp only[execOp,Option.map_some,Option.map_none,Sem.run_bind,hr,Result.andThen_ok,Sem.run_pure],.refl g,hs,rfl,rfl,rfl⟩
end
theorem cutS{ro:Ro}{n:Nat}{ops:Array Oper}{Q:DX->St->Prop}{df:List DDf}{rest:List Oper}{γ Sr:Fr}{O:Sig}{t:Nat}{ty:TypeId}{pos:String}{after:Array Edge}{T:Nat}{x y:Operand}{k:IntKind}{s s':Str}{hi:Nat}
  (h:DOps prog ro n ops Q rest ⟨(t,.str s')::γ,O,df⟩) (hs:s.take hi=s') (bu:hi<=s.length) (hl:A0 γ (A5 [x,y])=some Sr:=by exact tdR) (hx:ev Sr x=.str s:=by exact tdR) (hy:ev Sr y=.int k hi:=by exact tdR) (am:decide (t<n)=true:=by exact tdR)
  (hk:(tab T).k=.str:=by(simp<;>rfl)) :
  DOps prog ro n ops Q (⟨some t,.slice T x none (some y) none,ty,pos,after,none⟩::rest) ⟨γ,O,df⟩:=by
 subst hs
 obtain⟨e1,e2⟩:=evs hl
 exact Tn Ac h (by simpa using am) hk (by rw[<-e1];exact hx) (by rw[<-e2];exact hy) bu
theorem bytesX{ro:Ro}{n:Nat}{ops:Array Oper}{Q:DX->St->Prop}{df:List DDf}{rest:List Oper}{γ Sr:Fr}{O:Sig}{t:Nat}{ty:TypeId}{pos:String}{after:Array Edge}{T T' e:Nat}{x:Operand}{s s':Str}
  (h:DOps prog ro n ops Q rest ⟨(t,.slice (cB8 s') .no)::γ,O,df⟩) (hs:s=s') (hl:A0 γ (A5 [x])=some Sr:=by exact tdR) (hx:ev Sr x=.str s:=by exact tdR) (am:decide (t<n)=true:=by exact tdR)
  (hk:(tab T).k=.str:=by(simp<;>rfl)) (aS:(tab T').k=.slice e:=by(simp<;>rfl)) (bf:(tab e).k=.int .u8:=by(simp<;>rfl)) :
  DOps prog ro n ops Q (⟨some t,.convert T T' x,ty,pos,after,none⟩::rest) ⟨γ,O,df⟩:=by
 subst hs
 exact PN Ac h (by simpa using am) hk aS bf (by rw[<-BY hl];exact hx)
theorem M2(bs:Str)(O:Sig)(hn:bs.length<=1000000):DCall prog 73 [.slice (cB8 bs) .no] O (rS (.int .u8 ((sumB bs 0).toNat:Int)) O):=by
 have hX:∀k (h:k<bs.length),(cB8 bs)[k]'(by simpa using h)=[.int .u8 (bs[k].toNat:Int)]:=fun k h=>by simp[cB8]
 refine en func73 ntmps73 ?_
 refine gz ?_
 refine Di [2,6,7,18] (fun (k:Nat) (z:UInt8)=>k<=bs.length/\sumB (bs.drop k) z=sumB bs 0) (fun k z=>[(8,dI k),(3,.int .u8 (z.toNat:Int))]) (fun _ _=>O) (fun k _=>bs.length-k) (0) (0) (by exact⟨Nat.zero_le _,rfl⟩) (fun k z hI=>?_)
 obtain⟨ca,hs⟩:=hI
 by_cases hk:k<bs.length
 ·rw[Ad hk,sumB]at hs
  have hx:=hX k hk
  have bO:=TH bs
  have bx:(cB8 bs)[k]? = some [.int .u8 (bs[k].toNat:Int)]:=by rw[List.getElem?_eq_getElem (by simpa using hk),hx]
  refine gf (gi hx (gi bx bO)) ?_
  simp only[Q6]
  exact⟨k+1,3*z+bs[k]+1,⟨by omega,hs⟩,td1,wkR⟩
 ·rw[Aj hk,sumB]at hs
  refine gz ?_
  refine fin1 (U':=O) ⟨by rw[<-hs],rfl⟩
theorem Vy: ∀(k:Nat) (z:Bool) (n:Nat) (s:Str) (m:Nat) (r:Str),grpB k z n s=some (m,r)->r.length<s.length
 |0,_,_,_,_,_,h=>by rw[grpB]at h;cases h
 |_+1,_,_,[],_,_,h=>by rw[grpB]at h;cases h
 | k+1,z,n,c::s,m,r,h=>by
  rw[grpB]at h
  split at h
  ·cases h
  ·split at h
   ·cases h;simp
   ·have:=Vy k _ _ _ _ _ h
    rw[List.length_cons];omega
theorem VA: ∀(k:Nat) (z:Bool) (n:Nat) (s:Str) (m:Nat) (r:Str),grpB k z n s=some (m,r)->m<(n+1)*128 ^ k
 |0,_,_,_,_,_,h=>by rw[grpB]at h;cases h
 |_+1,_,_,[],_,_,h=>by rw[grpB]at h;cases h
 | k+1,z,n,c::s,m,r,h=>by
  have hp:1<=128 ^ k:=Nat.pow_pos (by omega)
  have hc:n*128+c.toNat % 128+1<=(n+1)*128:=by omega
  have e:(n+1)*128 ^ (k+1)=(n+1)*128*128 ^ k:=by rw[Nat.pow_succ,Nat.mul_assoc,Nat.mul_comm 128]
  have hq:(n*128+c.toNat % 128+1)*128 ^ k<=(n+1)*128*128 ^ k:=Nat.mul_le_mul_right _ hc
  have bY:n*128+c.toNat % 128+1<=(n*128+c.toNat % 128+1)*128 ^ k:=Nat.le_mul_of_pos_right _ hp
  rw[grpB]at h
  rw[e]
  split at h
  ·cases h
  ·split at h
   ·cases h;omega
   ·have:=VA k _ _ _ _ _ h
    omega
theorem EY{s:Str}{n:Int}{r:Str}(h:grpI s=some (n,r)):(∃m:Nat,n=m/\m<4398046511104)/\r.length<s.length:=by
 unfold grpI at h
 split at h
 ·cases h
 ·rename_i m t e
  cases h
  exact⟨⟨m,rfl,by have:=VA _ _ _ _ _ _ e;omega⟩,Vy _ _ _ _ _ _ e⟩
theorem OP(a b:List (List D))(i j:Nat)(c:D):WkD (.agg [.slice a (.tag i),.slice b (.tag j),c]) (.agg [sl a,sl b,c]):=
 fun _ _ ⟨vs,e,hr⟩=>⟨vs,e,(NM (Bv _ _) (NM (Bv _ _) (Co _))).rep hr⟩
def RdR(s:Str)(ic:Nat)(O:Sig)(x:DE)(U':Sig):Prop:=(∀j o,O j=some o->j≠ic->U' j=some o)/\match Ez s with
 |none=>x=.panic unfC
 |some c=>x=.ret (.tup [])/\U' ic=some (.cells (cCPg c))
structure RdS(ic i1 i2:Nat)(ins:List CIns)(st:List Int)(m:Int)(S0 O:Sig):Prop where
 oc:O ic=some (.cells [.slice (ins.map cIns) (.tag i1),.slice (cI st) (.tag i2),dI m])
 o1:O i1=some (.tail 2 ins.length)
 o2:O i2=some (.tail 1 st.length)
 ne:i1≠i2
 keep:∀j o,S0 j=some o->j≠ic->O j=some o
theorem UH (s:Str) (ic:Nat) (O:Sig) (hs:s.length<=5000) (hi:O ic=some (.cells [.nils, .nils,dI 0])):DCall prog 77 [.cptr [.str s] 0, .ptr ic 0] O (RdR s ic O):=by
 refine en func77 ntmps77 ?_
 refine Ci ic 0 2 hi rfl (fun i1 aU=>?_)
 refine Ci ic 1 1 (w6 ..) rfl (fun i2 aK=>?_)
 obtain⟨n1,aK⟩:=B5 aK
 obtain⟨n2,aK⟩:=B5 aK
 have n3:ic≠i1:=fun e=>by rw[e,aU]at hi;cases hi
 have hR:RdS ic i1 i2 [] [] 0 O ((((O.set i1 (.tail 2 0)).set ic (.cells ([.nils,.nils,dI 0].set 0 (.slice [] (.tag i1))))).set i2 (.tail 1 0)).set ic (.cells (([.nils,.nils,dI 0].set 0 (.slice [] (.tag i1))).set 1 (.slice [] (.tag i2))))):=
  ⟨w6 .., by rw[w7 _ _ n3.symm,w7 _ _ n2.symm,w7 _ _ n3.symm,w6];rfl,by rw[w7 _ _ n1,w6];rfl,n2.symm,fun j o h e=>by rw[w7 _ _ e,w7 _ _ (Af h aK),w7 _ _ e,w7 _ _ (Af h aU)];exact h⟩
 generalize (((O.set i1 (.tail 2 0)).set ic (.cells ([.nils,.nils,dI 0].set 0 (.slice [] (.tag i1))))).set i2 (.tail 1 0)).set ic (.cells (([.nils,.nils,dI 0].set 0 (.slice [] (.tag i1))).set 1 (.slice [] (.tag i2))))=S1 at hR
 by_cases hl:1<s.length
 rotate_left
 ·repeat' first|((exact finP (U':=S1) ⟨hR.keep,by unfold Ez;rw[if_pos (.inl (by omega))]⟩))|refine gf hl ?_ o77 [2,5]|apply gy<;>intro hh
 have hd:((s.length:Int)-1)=(s.dropLast.length:Int):=by rw[List.length_dropLast];omega
 have cb:List.take s.dropLast.length s=s.dropLast:=by rw[List.length_dropLast,List.dropLast_eq_take]
 refine gf (gi hl hd) ?_ o77 [2,5]
 refine cutS (s':=s.dropLast) ?_ (by rw[List.dropLast_eq_take]) (by omega)
 refine bytesX ?_ rfl
 refine newV (fun ib ah=>?_)
 refine gz ?_ (delO 2 o77) [2,5]
 obtain⟨c,b,a8⟩:∃c b,s.dropLast=c::b:=by
  cases e:s.dropLast with
  |nil=>have:=congrArg List.length e;rw[List.length_dropLast]at this;simp at this;omega
  |cons c b=>exact⟨c,b,rfl⟩
 have ba:b.length+1<s.length:=by have:=congrArg List.length a8;rw[List.length_dropLast,List.length_cons]at this;omega
 rw[a8]
 have i73:∀O,Ans 73 [.slice (cB8 (c::b)) .no] O True (.int .u8 ((sumB (c::b) 0).toNat:Int)):=fun O=>ah0 (M2 (c::b) O (by rw[List.length_cons];omega))
 have bt:s[s.length-1]? = some (s[s.length-1]'(by omega)):=List.getElem?_eq_getElem (by omega)
 have ar:Sub (S1.out (· = ib)) (S1.set ib (cPk (c::b))):=fun j o hj=>by
  obtain⟨h1,h2⟩:=Cf hj
  rw[w7 _ _ h2];exact h1
 have aP:Sub (S1.out (· = ib)) (S1.set ib (cPk b)):=fun j o hj=>by
  obtain⟨h1,h2⟩:=Cf hj
  rw[w7 _ _ h2];exact h1
 refine Hy (id:=2) [2,3,4,5,6,0,1,7,8,9,10,11,12] [0,1,9,12] (S1.out (· = ib)) ar ?_
 refine gf (gi bt hd) ?_ o77 [2,5]
 refine moER (d:=.slice (cB8 (c::b)) .no) ?_ ar
 refine Bx (M2 (c::b) _ (by rw[List.length_cons];omega)) (fun d S3 h=>?_) (fun d S3 h=>by cases h.1)
 obtain⟨h3,rfl⟩:=h
 cases h3
 refine⟨ar,?_⟩
 have aq:Ln s=decide ((sumB (c::b) 0).toNat=(s[s.length-1]'(by omega)).toNat):=by
  unfold Ln
  rw[List.getLast?_eq_getElem?, bt,a8]
  simp only[decide_eq_decide,UInt8.toNat_inj]
 generalize (sumB (c::b) 0).toNat=u at aq⊢
 generalize (s[s.length-1]'(by omega)).toNat=u2 at aq⊢
 by_cases hu:u=u2
 rotate_left
 ·rw[decide_eq_false hu]at aq
  have bB:¬(u:Int)=(u2:Int):=by omega
  refine gf (gi bB hu) ?_ o77 [2,5]
  intro V'
  refine gz ?_ o77 [2,5]
  exact finP (U':=S1) ⟨hR.keep,by unfold Ez;rw[if_pos (.inr aq)]⟩
 rw[decide_eq_true hu]at aq
 have ag:Ez s=if c=199 then KF b else none:=by
  unfold Ez
  rw[if_neg (by rw[aq];simp;omega),a8]
 refine gf hu ?_ o77 [2,5]
 have aX:=Gr ib (c::b) (S1.set ib (cPk (c::b))) (w6 ..) (by rw[List.length_cons];omega)
 simp only[w8]at aX
 refine QS (aX.any _) (fun d S3 h=>?_) (fun d S3 h=>by cases h.1)
 obtain⟨h3,rfl⟩:=h
 cases h3
 refine⟨aP,?_⟩
 by_cases hc:c=199
 rotate_left
 ·have bh:¬(c.toNat:Int)=199:=fun e=>hc (UInt8.toNat_inj.1 (by rw[show c.toNat=199 by omega];rfl))
  rw[if_neg hc]at ag
  refine gf bh ?_ o77 [2,5]
  intro V'
  refine gz ?_ o77 [2,5]
  exact finP (U':=S1) ⟨hR.keep,by rw[ag]⟩
 have bh:(c.toNat:Int)=199:=by rw[hc];rfl
 rw[if_pos hc]at ag
 refine gf bh ?_ o77 [2,5]
 refine A3 (Gq ib b (S1.set ib (cPk b)) (w6 ..) (by omega)) (fun d S3 h=>?_) (fun d S3 h=>?_)
 rotate_left
 ·obtain⟨r,rfl,aw,h⟩:=h
  cases hg:grpI b with
  |some x=>rw[hg]at h;cases h.1
  |none=>
   rw[hg]at h
   cases h
   refine gz ?_ o77 [2,5]
   exact finP (U':=S1) ⟨hR.keep,by rw[ag];unfold KF;rw[hg]⟩ (hU:=by rw[w8];exact(Sub.refl _).set ah)
 obtain⟨r,rfl,aw,h⟩:=h
 cases hg:grpI b with
 |none=>rw[hg]at h;cases h
 | some x =>
  obtain⟨n,b1⟩:=x
  rw[hg]at h
  obtain⟨h1,rfl⟩:=h
  cases h1
  rw[w8]
  obtain⟨⟨n,rfl,bG⟩,bJ⟩:=EY hg
  dsimp only[putD]
  have ae:ib≠ic:=fun e=>by rw[e,hR.oc]at ah;cases ah
  have ai:ib≠i1:=fun e=>by rw[e,hR.o1]at ah;cases ah
  have ak:ib≠i2:=fun e=>by rw[e,hR.o2]at ah;cases ah
  have bS:RdS ic i1 i2 [] [] 0 O (S1.set ib (cPk b1)):=⟨by rw[w7 _ _ ae.symm];exact hR.oc,by rw[w7 _ _ ai.symm];exact hR.o1,by rw[w7 _ _ ak.symm];exact hR.o2,hR.ne,fun j o h e=>by
   have:=hR.keep j o h e
   rw[w7 _ _ (Af this ah)];exact this⟩
  refine gz ?_ o77 [2,5]
  refine Nf [1,2,4,5,40,41,42,43,44,45,46,47,48,49,50,51,52,53,54,55,56,57,58,59,60,61,62,63,64,65,66,67,68,69,70,71,72,73,74,75,76,77,78,79,80,81,82] (fun (k:Nat) (st:List Int) (b2:Str) (S4:Sig)=>k<=n/\RdS ic i1 i2 [] st 0 O S4/\S4 ib=some (cPk b2)/\st.length+b2.length<=5000/\BX grpI n b1=(BX grpI k b2).map fun x=>(st++x.1,x.2)) (fun k _ _ _=>[(3,dI k)]) (fun _ _ _ S4=>S4) (fun k _ _ _=>k) (n) ([]) (b1) (_) (by exact⟨Nat.le_refl _,bS,w6 .., by simp;omega,by cases BX grpI n b1<;>rfl⟩) (fun k st b2 S4 hI=>?_)
  obtain⟨hk,aj,bc,b9,hT⟩:=hI
  have ap:∀b3 j o,O j=some o->j≠ic->(S4.set ib (cPk b3)) j=some o:=fun b3 j o h e=>by
   have e2:=hR.keep j o h e
   rw[w7 _ _ (Af e2 ah)];exact aj.keep j o h e
  by_cases br:0<k
  ·obtain⟨k',rfl⟩:∃k',k=k'+1:=⟨k-1,by omega⟩
   have hu:(S4.out fun j=>j=ib\/j=i2) ic=some (.cells [.slice (([]:List CIns).map cIns) (.tag i1),.slice (cI st) (.tag i2),dI 0]):=D2 aj.oc (by rintro(e|e);exact ae e.symm;exact ne_some aj.oc aj.o2 (by simp) e)
   refine gz ?_ (delO 6 o77) [2,5]
   refine EP (id:=6) [0,1,2,3,4,5] [2,4] (S4.out fun j=>j=ib\/j=i2) (C1 _ _) ?_
   refine gf hu ?_ o77 [2,5]
   refine Bx (Gq ib b2 S4 bc (by omega)) (fun d S5 h=>?_) (fun d S5 h=>?_)
   rotate_left
   ·obtain⟨r,rfl,aw,h⟩:=h
    cases aa:grpI b2 with
    |some x=>rw[aa]at h;cases h.1
    |none=>
     rw[aa]at h
     cases h
     intro V'
     refine gz ?_ o77 [2,5]
     have au:Ez s=none:=by rw[ag];unfold KF;rw[hg];simp only[Int.toNat_natCast];rw[hT,BX,aa];simp
     exact finP (U':=S4.set ib (cPk r)) ⟨ap r,by rw[au]⟩
   obtain⟨r,rfl,aw,h⟩:=h
   cases aa:grpI b2 with
   |none=>rw[aa]at h;cases h
   | some x =>
    obtain⟨m,b3⟩:=x
    rw[aa]at h
    obtain⟨h1,rfl⟩:=h
    cases h1
    obtain⟨-, be⟩:=EY aa
    have bD:Sub (S4.out fun j=>j=ib\/j=i2) (S4.set ib (cPk b3)):=fun j o hj=>by
     obtain⟨h1,h2⟩:=Cf hj
     rw[w7 _ _ fun e=>h2 (.inl e)];exact h1
    have bX:Sub (S4.out fun j=>j=ib\/j=i2) ((S4.set ib (cPk b3)).set i2 (.tail 1 (st.length+1))):=fun j o hj=>by
     obtain⟨h1,h2⟩:=Cf hj
     rw[w7 _ _ fun e=>h2 (.inr e),w7 _ _ fun e=>h2 (.inl e)];exact h1
    have u2:(S4.set ib (cPk b3)) i2=some (.tail 1 st.length):=by rw[w7 _ _ ak.symm];exact aj.o2
    have nc2:ic≠i2:=ne_some aj.oc aj.o2 (by simp)
    have uc:(S4.set ib (cPk b3)) ic=some (.cells [.slice (([]:List CIns).map cIns) (.tag i1),.slice (cI st) (.tag i2),dI 0]):=by rw[w7 _ _ ae.symm];exact aj.oc
    refine⟨bD,?_⟩
    dsimp only[putD]
    have bm:(S4.set ib (cPk b3)) ib=some (cPk b3):=w6 ..
    have bn:(S4.set ib (cPk b3)) i1=some (.tail 2 ([]:List CIns).length):=by rw[w7 _ _ ai.symm];exact aj.o1
    have aZ:=ap b3
    generalize S4.set ib (cPk b3)=S5 at*
    refine gf (gi hu (gi u2 uc)) ?_ o77 [2,5]
    have aN:BX grpI n b1=(BX grpI k' b3).map fun x=>((st++[m])++x.1,x.2):=by
     rw[hT,BX,aa]
     simp only
     cases BX grpI k' b3<;>simp
    have ea:cI (st++[m])=cI st++[[dI m]]:=by simp[cI]
    have aW:RdS ic i1 i2 [] (st++[m]) 0 O ((S5.set i2 (.tail 1 (st.length+1))).set ic (.cells [.slice (([]:List CIns).map cIns) (.tag i1),.slice (cI st++[[dI m]]) (.tag i2),dI 0])):=
     ⟨by rw [w6,ea],by rw [w7 _ _ n3.symm,w7 _ _ hR.ne];exact bn,by rw [w7 _ _ nc2.symm,w6,List.length_append];rfl,hR.ne,fun j o h e=>by
      rw[w7 _ _ e,w7 _ _ (Af h aK)];exact aZ j o h e⟩
    have bl:((S5.set i2 (.tail 1 (st.length+1))).set ic (.cells [.slice (([]:List CIns).map cIns) (.tag i1),.slice (cI st++[[dI m]]) (.tag i2),dI 0])) ib=some (cPk b3):=by rw[w7 _ _ ae,w7 _ _ ak];exact bm
    exact⟨k',st++[m],b3,_,⟨by omega,aW,bl,by rw[List.length_append,List.length_singleton];omega,aN⟩,td1,wkR⟩
  obtain rfl:k=0:=by omega
  have aV:BX grpI n b1=some (st,b2):=by rw[hT];simp[BX]
  clear hT hk br
  refine gz ?_ o77 [2,5]
  refine A3 (Gq ib b2 S4 bc (by omega)) (fun d S5 h=>?_) (fun d S5 h=>?_)
  rotate_left
  ·obtain⟨r,rfl,aw,h⟩:=h
   cases aa:grpI b2 with
   |some x=>rw[aa]at h;cases h.1
   |none=>
    rw[aa]at h
    cases h
    have au:Ez s=none:=by rw[ag];unfold KF;rw[hg];simp only[Int.toNat_natCast];rw[aV];simp only;rw[aa]
    refine gz ?_ o77 [2,5]
    exact finP (U':=S4.set ib (cPk r)) ⟨ap r,by rw[au]⟩
  obtain⟨r,rfl,aw,h⟩:=h
  cases aa:grpI b2 with
  |none=>rw[aa]at h;cases h
  | some x =>
   obtain⟨m0,b3⟩:=x
   rw[aa]at h
   obtain⟨h1,rfl⟩:=h
   cases h1
   obtain⟨-, be⟩:=EY aa
   have uc:(S4.set ib (cPk b3)) ic=some (.cells [.slice (([]:List CIns).map cIns) (.tag i1),.slice (cI st) (.tag i2),dI 0]):=by rw[w7 _ _ ae.symm];exact aj.oc
   have bm:(S4.set ib (cPk b3)) ib=some (cPk b3):=w6 ..
   have bn:(S4.set ib (cPk b3)) i1=some (.tail 2 ([]:List CIns).length):=by rw[w7 _ _ ai.symm];exact aj.o1
   have bU:(S4.set ib (cPk b3)) i2=some (.tail 1 st.length):=by rw[w7 _ _ ak.symm];exact aj.o2
   have aZ:=ap b3
   dsimp only[putD]
   generalize S4.set ib (cPk b3)=S5 at*
   refine gf uc ?_ o77 [2,5]
   have nc2:ic≠i2:=ne_some aj.oc aj.o2 (by simp)
   have bl:(S5.set ic (.cells [.slice (([]:List CIns).map cIns) (.tag i1),.slice (cI st) (.tag i2),dI m0])) ib=some (cPk b3):=by rw[w7 _ _ ae];exact bm
   have aW:RdS ic i1 i2 [] st m0 O (S5.set ic (.cells [.slice (([]:List CIns).map cIns) (.tag i1),.slice (cI st) (.tag i2),dI m0])):=
    ⟨w6 .., by rw[w7 _ _ n3.symm];exact bn,by rw[w7 _ _ nc2.symm];exact bU,hR.ne,fun j o h e=>by rw[w7 _ _ e];exact aZ j o h e⟩
   have aM:∀j o,O j=some o->j≠ic->(S5.set ic (.cells [.slice (([]:List CIns).map cIns) (.tag i1),.slice (cI st) (.tag i2),dI m0])) j=some o:=fun j o h e=>by rw[w7 _ _ e];exact aZ j o h e
   have bp:KF b=match grpI b3 with
     |none=>none
     |some (k,b4)=>match BX Ef k.toNat b4 with
      |none=>none
      |some (ins,b5)=>if b5=[]/\AP ⟨ins,st,m0⟩=true then some ⟨ins,st,m0⟩ else none:=by
    unfold KF;rw[hg];simp only[Int.toNat_natCast];rw[aV];simp only;rw[aa];rfl
   rw[bp]at ag
   clear bp aV hg aa
   change DOps _ _ _ _ _ _ ⟨_,S5.set ic (.cells [.slice (([]:List CIns).map cIns) (.tag i1),.slice (cI st) (.tag i2),dI m0]),_⟩
   generalize S5.set ic (.cells [.slice (([]:List CIns).map cIns) (.tag i1),.slice (cI st) (.tag i2),dI m0])=S6 at*
   refine A3 (Gq ib b3 S6 bl (by omega)) (fun d S7 h=>?_) (fun d S7 h=>?_)
   rotate_left
   ·obtain⟨r,rfl,aw,h⟩:=h
    cases aa:grpI b3 with
    |some x=>rw[aa]at h;cases h.1
    |none=>
     rw[aa]at h ag
     cases h
     refine gz ?_ o77 [2,5]
     exact finP (U':=S6.set ib (cPk r)) ⟨fun j o h e=>by rw[w7 _ _ (Af (hR.keep j o h e) ah)];exact aM j o h e,by rw[ag]⟩
   obtain⟨r,rfl,aw,h⟩:=h
   cases aa:grpI b3 with
   |none=>rw[aa]at h;cases h
   | some x =>
    obtain⟨N,b4⟩:=x
    rw[aa]at h ag
    obtain⟨h1,rfl⟩:=h
    cases h1
    obtain⟨⟨N,rfl,cg⟩,bI⟩:=EY aa
    simp only[Int.toNat_natCast]at ag
    have bQ:RdS ic i1 i2 [] st m0 O (S6.set ib (cPk b4)):=⟨by rw[w7 _ _ ae.symm];exact aW.oc,by rw[w7 _ _ ai.symm];exact aW.o1,by rw[w7 _ _ ak.symm];exact aW.o2,hR.ne,fun j o h e=>by rw[w7 _ _ (Af (hR.keep j o h e) ah)];exact aM j o h e⟩
    dsimp only[putD]
    refine gz ?_ o77 [2,5]
    refine Nf [1,2,75,76,77,78,79,80,81,82] (fun (k:Nat) (ins:List CIns) (b5:Str) (S7:Sig)=>k<=N/\RdS ic i1 i2 ins st m0 O S7/\S7 ib=some (cPk b5)/\ins.length+b5.length<=5000/\BX Ef N b4=(BX Ef k b5).map fun x=>(ins++x.1,x.2)) (fun k _ _ _=>[(4,dI k)]) (fun _ _ _ S7=>S7) (fun k _ _ _=>k) (N) ([]) (b4) (_) (by exact⟨Nat.le_refl _,bQ,w6 .., by simp;omega,by cases BX Ef N b4<;>rfl⟩) (fun k ins b5 S7 hI=>?_)
    obtain⟨hk,aA,bb,bK,hT⟩:=hI
    have aI:∀b6 j o,O j=some o->j≠ic->(S7.set ib (cPk b6)) j=some o:=fun b6 j o h e=>by
     rw[w7 _ _ (Af (hR.keep j o h e) ah)];exact aA.keep j o h e
    by_cases br:0<k
    ·obtain⟨k',rfl⟩:∃k',k=k'+1:=⟨k-1,by omega⟩
     cases b5 with
     |nil=>
      refine gz ?_ o77 [2,5]
      refine A3 (Gr ib [] S7 bb (by simp)) (fun d S8 h=>by cases h.1) (fun d S8 h=>?_)
      obtain⟨h1,rfl⟩:=h
      cases h1
      have au:Ez s=none:=by rw[ag,hT,BX];simp[Ef]
      refine gz ?_ o77 [2,5]
      exact finP (U':=S8) ⟨aA.keep,by rw[au]⟩
     | cons c8 b6 =>
      rw[List.length_cons]at bK
      refine gz ?_ o77 [2,5]
      refine A3 (Gr ib (c8::b6) S7 bb (by rw[List.length_cons];omega)) (fun d S8 h=>?_) (fun d S8 h=>by cases h.1)
      obtain⟨h1,rfl⟩:=h
      cases h1
      dsimp only[putD]
      have bV:=c8.toNat_lt
      have aD:Ef (c8::b6)=if hasA c8.toNat then(match grpI b6 with
        |none=>none
        |some (n,t)=>some (⟨c8.toNat,DI n⟩,t)) else some (⟨c8.toNat,0⟩,b6):=rfl
      generalize c8.toNat=y8 at*
      have bA:IntKind.i64.wrap (y8:Int)=(y8:Int):=As (by omega) (by omega)
      have o8c:(S7.set ib (cPk b6)) ic=some (.cells [.slice (ins.map cIns) (.tag i1),.slice (cI st) (.tag i2),dI m0]):=by rw[w7 _ _ ae.symm];exact aA.oc
      have o8b:(S7.set ib (cPk b6)) ib=some (cPk b6):=w6 ..
      have o81:(S7.set ib (cPk b6)) i1=some (.tail 2 ins.length):=by rw[w7 _ _ ai.symm];exact aA.o1
      have o82:(S7.set ib (cPk b6)) i2=some (.tail 1 st.length):=by rw[w7 _ _ ak.symm];exact aA.o2
      have k8:=aI b6
      generalize S7.set ib (cPk b6)=S8 at*
      refine gf bA ?_ o77 [2,5]
      refine newV (fun i5 ax=>?_)
      have n5c:i5≠ic:=fun e=>by rw[e,o8c]at ax;cases ax
      have n5b:i5≠ib:=fun e=>by rw[e,o8b]at ax;cases ax
      have n51:i5≠i1:=fun e=>by rw[e,o81]at ax;cases ax
      have n52:i5≠i2:=fun e=>by rw[e,o82]at ax;cases ax
      have nc2:ic≠i2:=ne_some o8c o82 (by simp)
      cases hA:hasA y8 with
      | false =>
       rw[hA,if_neg (by simp)]at aD
       refine gf hA ?_ o77 [2,5]
       have o9c:(S8.set i5 (.cells [.int .i64 (y8:Int),.int .i64 0])) ic=some (.cells [.slice (ins.map cIns) (.tag i1),.slice (cI st) (.tag i2),dI m0]):=by rw[w7 _ _ n5c.symm];exact o8c
       have o9b:(S8.set i5 (.cells [.int .i64 (y8:Int),.int .i64 0])) ib=some (cPk b6):=by rw[w7 _ _ n5b.symm];exact o8b
       have o91:(S8.set i5 (.cells [.int .i64 (y8:Int),.int .i64 0])) i1=some (.tail 2 ins.length):=by rw[w7 _ _ n51.symm];exact o81
       have o92:(S8.set i5 (.cells [.int .i64 (y8:Int),.int .i64 0])) i2=some (.tail 1 st.length):=by rw[w7 _ _ n52.symm];exact o82
       have o95:(S8.set i5 (.cells [.int .i64 (y8:Int),.int .i64 0])) i5=some (.cells [.int .i64 (y8:Int),.int .i64 0]):=w6 ..
       have k9:∀j o,O j=some o->j≠ic->(S8.set i5 (.cells [.int .i64 (y8:Int),.int .i64 0])) j=some o:=fun j o h e=>by rw[w7 _ _ (Af (k8 j o h e) ax)];exact k8 j o h e
       generalize S8.set i5 (.cells [.int .i64 (y8:Int),.int .i64 0])=S9 at*
       refine gf (gi o9c (gi o95 o91)) ?_ o77 [2,5]
       have aN:BX Ef N b4=(BX Ef k' b6).map fun x=>((ins++[⟨(y8:Int),0⟩])++x.1,x.2):=by
        rw[hT,BX,aD]
        simp only
        cases BX Ef k' b6<;>simp
       have ea:(ins++[(⟨(y8:Int),0⟩:CIns)]).map cIns=ins.map cIns++[[.int .i64 (y8:Int),.int .i64 0]]:=by simp[cIns]
       have aB:RdS ic i1 i2 (ins++[⟨(y8:Int),0⟩]) st m0 O ((S9.set i1 (.tail 2 (ins.length+1))).set ic (.cells [.slice (ins.map cIns++[[.int .i64 (y8:Int),.int .i64 0]]) (.tag i1),.slice (cI st) (.tag i2),dI m0])):=
        ⟨by rw[w6,ea],by rw[w7 _ _ n3.symm,w6,List.length_append];rfl,by rw[w7 _ _ nc2.symm,w7 _ _ hR.ne.symm];exact o92,hR.ne,fun j o h e=>by rw[w7 _ _ e,w7 _ _ (Af h aU)];exact k9 j o h e⟩
       have aC:((S9.set i1 (.tail 2 (ins.length+1))).set ic (.cells [.slice (ins.map cIns++[[.int .i64 (y8:Int),.int .i64 0]]) (.tag i1),.slice (cI st) (.tag i2),dI m0])) ib=some (cPk b6):=by rw[w7 _ _ ae,w7 _ _ ai];exact o9b
       exact⟨k',ins++[⟨(y8:Int),0⟩],b6,_,⟨by omega,aB,aC,by rw[List.length_append,List.length_singleton];omega,aN⟩,td1,wkR⟩
      | true =>
       rw[hA,if_pos rfl]at aD
       refine gf hA ?_ o77 [2,5]
       have o9c:(S8.set i5 (.cells [.int .i64 (y8:Int),.int .i64 0])) ic=some (.cells [.slice (ins.map cIns) (.tag i1),.slice (cI st) (.tag i2),dI m0]):=by rw[w7 _ _ n5c.symm];exact o8c
       have o9b:(S8.set i5 (.cells [.int .i64 (y8:Int),.int .i64 0])) ib=some (cPk b6):=by rw[w7 _ _ n5b.symm];exact o8b
       have o91:(S8.set i5 (.cells [.int .i64 (y8:Int),.int .i64 0])) i1=some (.tail 2 ins.length):=by rw[w7 _ _ n51.symm];exact o81
       have o92:(S8.set i5 (.cells [.int .i64 (y8:Int),.int .i64 0])) i2=some (.tail 1 st.length):=by rw[w7 _ _ n52.symm];exact o82
       have o95:(S8.set i5 (.cells [.int .i64 (y8:Int),.int .i64 0])) i5=some (.cells [.int .i64 (y8:Int),.int .i64 0]):=w6 ..
       have k9:∀j o,O j=some o->j≠ic->(S8.set i5 (.cells [.int .i64 (y8:Int),.int .i64 0])) j=some o:=fun j o h e=>by rw[w7 _ _ (Af (k8 j o h e) ax)];exact k8 j o h e
       generalize S8.set i5 (.cells [.int .i64 (y8:Int),.int .i64 0])=S9 at*
       refine A3 (Gq ib b6 S9 o9b (by omega)) (fun d S10 h=>?_) (fun d S10 h=>?_)
       rotate_left
       ·obtain⟨r,rfl,aw,h⟩:=h
        cases aa:grpI b6 with
        |some x=>rw[aa]at h;cases h.1
        |none=>
         rw[aa]at h aD
         cases h
         have au:Ez s=none:=by rw[ag,hT,BX,aD];simp
         refine gz ?_ o77 [2,5]
         exact finP (U':=S9.set ib (cPk r)) ⟨fun j o h e=>by rw[w7 _ _ (Af (hR.keep j o h e) ah)];exact k9 j o h e,by rw[au]⟩
       obtain⟨r,rfl,aw,h⟩:=h
       cases aa:grpI b6 with
       |none=>rw[aa]at h;cases h
       | some x =>
        obtain⟨n5,b7⟩:=x
        rw[aa]at h aD
        obtain⟨h1,rfl⟩:=h
        cases h1
        obtain⟨⟨m5,rfl,bZ⟩,bH⟩:=EY aa
        dsimp only[putD]
        have q9c:(S9.set ib (cPk b7)) ic=some (.cells [.slice (ins.map cIns) (.tag i1),.slice (cI st) (.tag i2),dI m0]):=by rw[w7 _ _ ae.symm];exact o9c
        have q9b:(S9.set ib (cPk b7)) ib=some (cPk b7):=w6 ..
        have q91:(S9.set ib (cPk b7)) i1=some (.tail 2 ins.length):=by rw[w7 _ _ ai.symm];exact o91
        have q92:(S9.set ib (cPk b7)) i2=some (.tail 1 st.length):=by rw[w7 _ _ ak.symm];exact o92
        have q95:(S9.set ib (cPk b7)) i5=some (.cells [.int .i64 (y8:Int),.int .i64 0]):=by rw[w7 _ _ n5b];exact o95
        have qk:∀j o,O j=some o->j≠ic->(S9.set ib (cPk b7)) j=some o:=fun j o h e=>by rw[w7 _ _ (Af (hR.keep j o h e) ah)];exact k9 j o h e
        generalize S9.set ib (cPk b7)=S10 at*
        have hm2:Int.tmod (m5:Int) 2=((m5 % 2:Nat):Int):=rfl
        obtain⟨a,ha⟩:∃a,a=DI (m5:Int):=⟨_,rfl⟩
        simp only[<-ha]at aD
        have aN:BX Ef N b4=(BX Ef k' b7).map fun x=>((ins++[⟨(y8:Int),a⟩])++x.1,x.2):=by
         rw[hT,BX,aD]
         simp only
         cases BX Ef k' b7<;>simp
        have ea:(ins++[(⟨(y8:Int),a⟩:CIns)]).map cIns=ins.map cIns++[[.int .i64 (y8:Int),.int .i64 a]]:=by simp[cIns]
        have p9c:(S10.set i5 (.cells [.int .i64 (y8:Int),.int .i64 a])) ic=some (.cells [.slice (ins.map cIns) (.tag i1),.slice (cI st) (.tag i2),dI m0]):=by rw[w7 _ _ n5c.symm];exact q9c
        have p9b:(S10.set i5 (.cells [.int .i64 (y8:Int),.int .i64 a])) ib=some (cPk b7):=by rw[w7 _ _ n5b.symm];exact q9b
        have p91:(S10.set i5 (.cells [.int .i64 (y8:Int),.int .i64 a])) i1=some (.tail 2 ins.length):=by rw[w7 _ _ n51.symm];exact q91
        have p92:(S10.set i5 (.cells [.int .i64 (y8:Int),.int .i64 a])) i2=some (.tail 1 st.length):=by rw[w7 _ _ n52.symm];exact q92
        have p95:(S10.set i5 (.cells [.int .i64 (y8:Int),.int .i64 a])) i5=some (.cells [.int .i64 (y8:Int),.int .i64 a]):=w6 ..
        have pk:∀j o,O j=some o->j≠ic->(S10.set i5 (.cells [.int .i64 (y8:Int),.int .i64 a])) j=some o:=fun j o h e=>by rw[w7 _ _ (Af (k8 j o h e) ax)];exact qk j o h e
        have aB:RdS ic i1 i2 (ins++[⟨(y8:Int),a⟩]) st m0 O (((S10.set i5 (.cells [.int .i64 (y8:Int),.int .i64 a])).set i1 (.tail 2 (ins.length+1))).set ic (.cells [.slice (ins.map cIns++[[.int .i64 (y8:Int),.int .i64 a]]) (.tag i1),.slice (cI st) (.tag i2),dI m0])):=
         ⟨by rw[w6,ea],by rw[w7 _ _ n3.symm,w6,List.length_append];rfl,by rw[w7 _ _ nc2.symm,w7 _ _ hR.ne.symm];exact p92,hR.ne,fun j o h e=>by rw[w7 _ _ e,w7 _ _ (Af h aU)];exact pk j o h e⟩
        have aC:(((S10.set i5 (.cells [.int .i64 (y8:Int),.int .i64 a])).set i1 (.tail 2 (ins.length+1))).set ic (.cells [.slice (ins.map cIns++[[.int .i64 (y8:Int),.int .i64 a]]) (.tag i1),.slice (cI st) (.tag i2),dI m0])) ib=some (cPk b7):=by rw[w7 _ _ ae,w7 _ _ ai];exact p9b
        by_cases aR:m5 % 2=1
        ·have hv:IntKind.i64.wrap (-(((m5:Int)+1).tdiv 2))=a:=by
          have e1:((m5:Int)+1).tdiv 2=((m5:Int)+1) / 2:=Int.tdiv_eq_ediv_of_nonneg (by omega)
          have e2:a = -(((m5:Int)+1) / 2):=by rw[ha];unfold DI;exact if_pos (by omega)
          rw[e1,As (by omega) (by omega),e2]
         refine gf (gi q95 (gi hm2 (gi aR hv))) ?_ o77 [2,5]
         generalize S10.set i5 (.cells [.int .i64 (y8:Int),.int .i64 a])=S11 at*
         refine gf (gi p9c (gi p95 p91)) ?_ o77 [2,5]
         exact⟨k',ins++[⟨(y8:Int),a⟩],b7,_,⟨by omega,aB,aC,by rw[List.length_append,List.length_singleton];omega,aN⟩,td1,wkR⟩
        ·have hv:(m5:Int) / 2=a:=by rw[ha];unfold DI;exact(if_neg (by omega)).symm
         refine gf (gi q95 (gi hm2 (gi aR hv))) ?_ o77 [2,5]
         generalize S10.set i5 (.cells [.int .i64 (y8:Int),.int .i64 a])=S11 at*
         refine gf (gi p9c (gi p95 p91)) ?_ o77 [2,5]
         exact⟨k',ins++[⟨(y8:Int),a⟩],b7,_,⟨by omega,aB,aC,by rw[List.length_append,List.length_singleton];omega,aN⟩,td1,wkR⟩
    obtain rfl:k=0:=by omega
    have aV:BX Ef N b4=some (ins,b5):=by rw[hT];simp[BX]
    rw[aV]at ag
    simp only at ag
    have oc8:=aA.oc
    cases b5 with
    |cons c8 b6=>
     rw[if_neg (by rintro⟨h,_⟩;cases h)]at ag
     repeat' first|((exact finP (U':=S7) ⟨aA.keep,by rw[ag]⟩))|refine gf bb ?_ o77 [2,5]|apply gy<;>intro hh
    | nil =>
     refine gf (gi bb oc8) ?_ o77 [2,5]
     refine C4 (BF (t:=79) (d:=.agg (cCPg ⟨ins,st,m0⟩)) (by rw[Ar tdR];exact OP _ _ _ _ _)) ?_
     refine celW (i:=ic) [] [.slice (cI st) (.tag i2),dI m0] (.slice (ins.map cIns) (.tag i1)) (.slice (ins.map cIns) .no) ?_ oc8 (Bv _ _)
     refine celW (i:=ic) [.slice (ins.map cIns) .no] [dI m0] (.slice (cI st) (.tag i2)) (.slice (cI st) .no) ?_ (w6 ..) (Bv _ _)
     simp only[w8,List.nil_append,List.singleton_append]
     have o9:(S7.set ic (.cells [.slice (ins.map cIns) .no,.slice (cI st) .no,dI m0])) ic=some (.cells (cCPg ⟨ins,st,m0⟩)):=w6 ..
     have k9:∀j o,O j=some o->j≠ic->(S7.set ic (.cells [.slice (ins.map cIns) .no,.slice (cI st) .no,dI m0])) j=some o:=fun j o h e=>by rw[w7 _ _ e];exact aA.keep j o h e
     have bW:=aA.o2
     generalize S7.set ic (.cells [.slice (ins.map cIns) .no,.slice (cI st) .no,dI m0])=S9 at*
     refine Tz ((KX ⟨ins,st,m0⟩ S9 (by simp only;omega) (by simp only;have:=aA.o2;omega)).any _) (fun d S8 h=>?_) (fun d S8 h=>by cases h.1)
     obtain⟨h1,rfl⟩:=h
     cases h1
     dsimp only[putD]
     cases bq:AP ⟨ins,st,m0⟩with
     |false=>
      have au:Ez s=none:=by rw[ag,bq];simp
      repeat' first|((exact finP (U':=S8) ⟨k9,by rw[au]⟩))|refine gz ?_ o77 [2,5]|apply gy<;>intro hh
     |true=>
      have au:Ez s=some ⟨ins,st,m0⟩:=by rw[ag,bq];simp
      refine gz ?_ o77 [2,5]
      refine DK (U':=S8) ⟨k9,by rw[au];exact⟨rfl,o9⟩⟩
theorem JH(c:CProg):AP c=true ↔ c.ins.length<=300/\c.starts.length<=16/\(inB c.main=true/\0<=c.main)/\(∀n∈c.starts,inB n=true/\0<=n) /\ ∀x∈c.ins,Cz x=true:=by
 have hf:∀n:Int,farN n=true ↔ inB n=true/\0<=n:=fun n=>by unfold farN inB;simp;omega
 unfold AP
 simp only[Bool.and_eq_true,decide_eq_true_eq,List.all_eq_true,hf]
end Go.DL
