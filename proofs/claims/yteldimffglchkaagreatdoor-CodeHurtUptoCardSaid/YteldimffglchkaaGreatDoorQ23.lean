/- A part of the proof. -/
import Derived.Test.YteldimffglchkaaGreatDoorQ22
import Derived.Test.YteldimffglchkaaGreatDoorQ21
import Derived.Test.YteldimffglchkaaGreatDoorQ09
import Derived.Test.YteldimffglchkaaGreatDoorQ05
import Derived.Test.YteldimffglchkaaGreatDoorQ20
import Derived.Test.YteldimffglchkaaGreatDoorQ14
import Derived.Test.YteldimffglchkaaGreatDoorQ18
set_option linter.all false
namespace Go.DL
open Go.Proofs.Tryz
open Go Go.Proofs
set_option maxHeartbeats 8000000
theorem NW(l:Str)(b:Nat):(⟨l.toArray⟩:ByteArray).extract 0 b=⟨(l.take b).toArray⟩:=by
 apply ByteArray.ext
 simp[ByteArray.data_extract]
section
variable {P:Program}{tab:Nat->Ty}(ht:AX P tab){ro:Ro}{n:Nat}{ops:Array Oper}{Q:DX->St->Prop}{df:List DDf}{rest:List Oper}{γ:List (Nat×D)}{O:Sig}
include ht
theorem RC{t T ty:Nat}{k:IntKind}{x y:Operand}{s:Str}{hi:Nat}{pos:String}{after:Array Edge}
  (h:DOps P ro n ops Q rest ⟨(t,.str (s.take hi))::γ,O,df⟩) (aM:t<n) (hk:(tab T).k=.str) (h1:ev γ x=.str s) (h2:ev γ y=.int k hi) (bw:hi<=s.length) :
  DOps P ro n ops Q (⟨some t,.slice T x none (some y) none,ty,pos,after,none⟩::rest) ⟨γ,O,df⟩:=by
 refine B5 (fun d U'=>d=.str (s.take hi)/\U'=O) rfl (fun c e=>by cases e) (A9 fun c e=>by cases e) (by simp[Ap,aM]) ?_
  (fun d U' ⟨a2,a3⟩=>by subst a2 a3;exact h)
 intro g w a hs hT
 have hx:=Ae hT x
 have hy:=Ae hT y
 rw[h1]at hx
 rw[h2]at hy
 have hv:a.eval x=.string ⟨s.toArray⟩:=hx
 have hu:=AN hy
 have c1:(0:Int)<=(hi:Int):=by omega
 have c2:(hi:Int)<=((ByteArray.size ⟨s.toArray⟩:Nat):Int):=by
  have:ByteArray.size ⟨s.toArray⟩=s.length:=by simp[ByteArray.size]
  omega
 have hr:(Instr.sliceAt T (a.eval x) none (some (a.eval y)) none).run P w=.ok (.string ⟨(s.take hi).toArray⟩) w:=by
  rw[hv,hu]
  simp only[Instr.sliceAt,Instr.slice,Instr.sliceBounds,Instr.sliceBound,asIntOf,Sem.run_bind,Sem.run_pure,Result.andThen_ok,run_underlying (E5 ht hk),c1,c2,and_self,if_true,Int.toNat_natCast,Option.isSome_none,Bool.false_eq_true,if_false,NW]
 exact⟨g,w,.string ⟨(s.take hi).toArray⟩,.str (s.take hi),O,by simp only[execOp,Option.map_some,Option.map_none,Sem.run_bind,hr,Result.andThen_ok,Sem.run_pure],.refl g,hs,rfl,rfl,rfl⟩
end
theorem cutS{ro:Ro}{n:Nat}{ops:Array Oper}{Q:DX->St->Prop}{df:List DDf}{rest:List Oper}{γ Sr:Fr}{O:Sig}{t:Nat}{ty:TypeId}{pos:String}{after:Array Edge}{T:Nat}{x y:Operand}{k:IntKind}{s s':Str}{hi:Nat}
  (h:DOps prog ro n ops Q rest ⟨(t,.str s')::γ,O,df⟩) (hs:s.take hi=s') (bw:hi<=s.length) (hl:A0 γ (A4 [x,y])=some Sr:=by exact tdR) (hx:ev Sr x=.str s:=by exact tdR) (hy:ev Sr y=.int k hi:=by exact tdR) (aM:decide (t<n)=true:=by exact tdR)
  (hk:(tab T).k=.str:=by(simp<;>rfl)) :
  DOps prog ro n ops Q (⟨some t,.slice T x none (some y) none,ty,pos,after,none⟩::rest) ⟨γ,O,df⟩:=by
 subst hs
 obtain⟨e1,e2⟩:=evs hl
 exact RC Ab h (by simpa using aM) hk (by rw[<-e1];exact hx) (by rw[<-e2];exact hy) bw
theorem bytesX{ro:Ro}{n:Nat}{ops:Array Oper}{Q:DX->St->Prop}{df:List DDf}{rest:List Oper}{γ Sr:Fr}{O:Sig}{t:Nat}{ty:TypeId}{pos:String}{after:Array Edge}{T T' e:Nat}{x:Operand}{s s':Str}
  (h:DOps prog ro n ops Q rest ⟨(t,.slice (cB8 s') .no)::γ,O,df⟩) (hs:s=s') (hl:A0 γ (A4 [x])=some Sr:=by exact tdR) (hx:ev Sr x=.str s:=by exact tdR) (aM:decide (t<n)=true:=by exact tdR)
  (hk:(tab T).k=.str:=by(simp<;>rfl)) (bU:(tab T').k=.slice e:=by(simp<;>rfl)) (bT:(tab e).k=.int .u8:=by(simp<;>rfl)) :
  DOps prog ro n ops Q (⟨some t,.convert T T' x,ty,pos,after,none⟩::rest) ⟨γ,O,df⟩:=by
 subst hs
 exact OB Ab h (by simpa using aM) hk bU bT (by rw[<-Bu hl];exact hx)
theorem L0(bs:Str)(O:Sig)(hn:bs.length<=1000000):DCall prog 73 [.slice (cB8 bs) .no] O (rS (.int .u8 ((sumB bs 0).toNat:Int)) O):=by
 have hX:∀k (h:k<bs.length),(cB8 bs)[k]'(by simpa using h)=[.int .u8 (bs[k].toNat:Int)]:=fun k h=>by simp[cB8]
 refine en func73 ntmps73 ?_
 refine gz ?_
 refine Db [2,6,7,18] (fun (k:Nat) (z:UInt8)=>k<=bs.length/\sumB (bs.drop k) z=sumB bs 0) (fun k z=>[(8,dI k),(3,.int .u8 (z.toNat:Int))]) (fun _ _=>O) (fun k _=>bs.length-k) (0) (0) (by exact⟨Nat.zero_le _,rfl⟩) (fun k z hI=>?_)
 obtain⟨cm,hs⟩:=hI
 by_cases hk:k<bs.length
 ·rw[Ac hk,sumB]at hs
  have hx:=hX k hk
  have bX:=RU bs
  have bD:(cB8 bs)[k]? = some [.int .u8 (bs[k].toNat:Int)]:=by rw[List.getElem?_eq_getElem (by simpa using hk),hx]
  refine gf (gi hx (gi bD bX)) ?_
  simp only[OQ]
  exact⟨k+1,3*z+bs[k]+1,⟨by omega,hs⟩,td1,wkR⟩
 ·rw[Ai hk,sumB]at hs
  refine gz ?_
  refine fin1 (U':=O) ⟨by rw[<-hs],rfl⟩
theorem U0: ∀(k:Nat) (z:Bool) (n:Nat) (s:Str) (m:Nat) (r:Str),grpB k z n s=some (m,r)->r.length<s.length
 |0,_,_,_,_,_,h=>by rw[grpB]at h;cases h
 |_+1,_,_,[],_,_,h=>by rw[grpB]at h;cases h
 | k+1,z,n,c::s,m,r,h=>by
  rw[grpB]at h
  split at h
  ·cases h
  ·split at h
   ·cases h;simp
   ·have:=U0 k _ _ _ _ _ h
    rw[List.length_cons];omega
theorem U1: ∀(k:Nat) (z:Bool) (n:Nat) (s:Str) (m:Nat) (r:Str),grpB k z n s=some (m,r)->m<(n+1)*128 ^ k
 |0,_,_,_,_,_,h=>by rw[grpB]at h;cases h
 |_+1,_,_,[],_,_,h=>by rw[grpB]at h;cases h
 | k+1,z,n,c::s,m,r,h=>by
  have hp:1<=128 ^ k:=Nat.pow_pos (by omega)
  have hc:n*128+c.toNat % 128+1<=(n+1)*128:=by omega
  have e:(n+1)*128 ^ (k+1)=(n+1)*128*128 ^ k:=by rw[Nat.pow_succ,Nat.mul_assoc,Nat.mul_comm 128]
  have hq:(n*128+c.toNat % 128+1)*128 ^ k<=(n+1)*128*128 ^ k:=Nat.mul_le_mul_right _ hc
  have cf:n*128+c.toNat % 128+1<=(n*128+c.toNat % 128+1)*128 ^ k:=Nat.le_mul_of_pos_right _ hp
  rw[grpB]at h
  rw[e]
  split at h
  ·cases h
  ·split at h
   ·cases h;omega
   ·have:=U1 k _ _ _ _ _ h
    omega
theorem EH{s:Str}{n:Int}{r:Str}(h:grpI s=some (n,r)):(∃m:Nat,n=m/\m<4398046511104)/\r.length<s.length:=by
 unfold grpI at h
 split at h
 ·cases h
 ·rename_i m t e
  cases h
  exact⟨⟨m,rfl,by have:=U1 _ _ _ _ _ _ e;omega⟩,U0 _ _ _ _ _ _ e⟩
theorem NE(a b:List (List D))(i j:Nat)(c:D):WkD (.agg [.slice a (.tag i),.slice b (.tag j),c]) (.agg [sl a,sl b,c]):=
 fun _ _ ⟨vs,e,hr⟩=>⟨vs,e,(ME (BD _ _) (ME (BD _ _) (Cf _))).rep hr⟩
def RdR(s:Str)(ic:Nat)(O:Sig)(x:DE)(U':Sig):Prop:=(∀j o,O j=some o->j≠ic->U' j=some o)/\match Fb s with
 |none=>x=.panic unfC
 |some c=>x=.ret (.tup [])/\U' ic=some (.cells (cCPg c))
structure RdS(ic i1 i2:Nat)(ins:List CIns)(st:List Int)(m:Int)(S0 O:Sig):Prop where
 oc:O ic=some (.cells [.slice (ins.map cIns) (.tag i1),.slice (cI st) (.tag i2),dI m])
 o1:O i1=some (.tail 2 ins.length)
 o2:O i2=some (.tail 1 st.length)
 ne:i1≠i2
 keep:∀j o,S0 j=some o->j≠ic->O j=some o
theorem Tb (s:Str) (ic:Nat) (O:Sig) (hs:s.length<=5000) (hi:O ic=some (.cells [.nils, .nils,dI 0])):DCall prog 77 [.cptr [.str s] 0, .ptr ic 0] O (RdR s ic O):=by
 refine en func77 ntmps77 ?_
 refine Df ic 0 2 hi rfl (fun i1 aW=>?_)
 refine Df ic 1 1 (w6 ..) rfl (fun i2 aI=>?_)
 obtain⟨n1,aI⟩:=Bm aI
 obtain⟨n2,aI⟩:=Bm aI
 have n3:ic≠i1:=fun e=>by rw[e,aW]at hi;cases hi
 have hR:RdS ic i1 i2 [] [] 0 O ((((O.set i1 (.tail 2 0)).set ic (.cells ([.nils,.nils,dI 0].set 0 (.slice [] (.tag i1))))).set i2 (.tail 1 0)).set ic (.cells (([.nils,.nils,dI 0].set 0 (.slice [] (.tag i1))).set 1 (.slice [] (.tag i2))))):=
  ⟨w6 .., by rw[w7 _ _ n3.symm,w7 _ _ n2.symm,w7 _ _ n3.symm,w6];rfl,by rw[w7 _ _ n1,w6];rfl,n2.symm,fun j o h e=>by rw[w7 _ _ e,w7 _ _ (An h aI),w7 _ _ e,w7 _ _ (An h aW)];exact h⟩
 generalize (((O.set i1 (.tail 2 0)).set ic (.cells ([.nils,.nils,dI 0].set 0 (.slice [] (.tag i1))))).set i2 (.tail 1 0)).set ic (.cells (([.nils,.nils,dI 0].set 0 (.slice [] (.tag i1))).set 1 (.slice [] (.tag i2))))=S1 at hR
 by_cases hl:1<s.length
 rotate_left
 ·repeat' first|((exact finP (U':=S1) ⟨hR.keep,by unfold Fb;rw[if_pos (.inl (by omega))]⟩))|refine gf hl ?_ o77 [2,5]|apply gy<;>intro hh
 have hd:((s.length:Int)-1)=(s.dropLast.length:Int):=by rw[List.length_dropLast];omega
 have cn:List.take s.dropLast.length s=s.dropLast:=by rw[List.length_dropLast,List.dropLast_eq_take]
 refine gf (gi hl hd) ?_ o77 [2,5]
 refine cutS (s':=s.dropLast) ?_ (by rw[List.dropLast_eq_take]) (by omega)
 refine bytesX ?_ rfl
 refine newV (fun ib ak=>?_)
 refine gz ?_ (delO 2 o77) [2,5]
 obtain⟨c,b,aX⟩:∃c b,s.dropLast=c::b:=by
  cases e:s.dropLast with
  |nil=>have:=congrArg List.length e;rw[List.length_dropLast]at this;simp at this;omega
  |cons c b=>exact⟨c,b,rfl⟩
 have cp:b.length+1<s.length:=by have:=congrArg List.length aX;rw[List.length_dropLast,List.length_cons]at this;omega
 rw[aX]
 have i73:∀O,Ans 73 [.slice (cB8 (c::b)) .no] O True (.int .u8 ((sumB (c::b) 0).toNat:Int)):=fun O=>ah0 (L0 (c::b) O (by rw[List.length_cons];omega))
 have bu:s[s.length-1]? = some (s[s.length-1]'(by omega)):=List.getElem?_eq_getElem (by omega)
 have ax:Sub (S1.out (· = ib)) (S1.set ib (cPk (c::b))):=fun j o hj=>by
  obtain⟨h1,h2⟩:=Cn hj
  rw[w7 _ _ h2];exact h1
 have aN:Sub (S1.out (· = ib)) (S1.set ib (cPk b)):=fun j o hj=>by
  obtain⟨h1,h2⟩:=Cn hj
  rw[w7 _ _ h2];exact h1
 refine Hf (id:=2) [2,3,4,5,6,0,1,7,8,9,10,11,12] [0,1,9,12] (S1.out (· = ib)) ax ?_
 refine gf (gi bu hd) ?_ o77 [2,5]
 refine moER (d:=.slice (cB8 (c::b)) .no) ?_ ax
 refine Bt (L0 (c::b) _ (by rw[List.length_cons];omega)) (fun d S3 h=>?_) (fun d S3 h=>by cases h.1)
 obtain⟨h3,rfl⟩:=h
 cases h3
 refine⟨ax,?_⟩
 have aq:NJ s=decide ((sumB (c::b) 0).toNat=(s[s.length-1]'(by omega)).toNat):=by
  unfold NJ
  rw[List.getLast?_eq_getElem?, bu,aX]
  simp only[decide_eq_decide,UInt8.toNat_inj]
 generalize (sumB (c::b) 0).toNat=u at aq⊢
 generalize (s[s.length-1]'(by omega)).toNat=u2 at aq⊢
 by_cases hu:u=u2
 rotate_left
 ·rw[decide_eq_false hu]at aq
  have bG:¬(u:Int)=(u2:Int):=by omega
  refine gf (gi bG hu) ?_ o77 [2,5]
  intro V'
  refine gz ?_ o77 [2,5]
  exact finP (U':=S1) ⟨hR.keep,by unfold Fb;rw[if_pos (.inr aq)]⟩
 rw[decide_eq_true hu]at aq
 have ag:Fb s=if c=199 then M5 b else none:=by
  unfold Fb
  rw[if_neg (by rw[aq];simp;omega),aX]
 refine gf hu ?_ o77 [2,5]
 have bC:=Ga ib (c::b) (S1.set ib (cPk (c::b))) (w6 ..) (by rw[List.length_cons];omega)
 simp only[w8]at bC
 refine Px (bC.any _) (fun d S3 h=>?_) (fun d S3 h=>by cases h.1)
 obtain⟨h3,rfl⟩:=h
 cases h3
 refine⟨aN,?_⟩
 by_cases hc:c=199
 rotate_left
 ·have bd:¬(c.toNat:Int)=199:=fun e=>hc (UInt8.toNat_inj.1 (by rw[show c.toNat=199 by omega];rfl))
  rw[if_neg hc]at ag
  refine gf bd ?_ o77 [2,5]
  intro V'
  refine gz ?_ o77 [2,5]
  exact finP (U':=S1) ⟨hR.keep,by rw[ag]⟩
 have bd:(c.toNat:Int)=199:=by rw[hc];rfl
 rw[if_pos hc]at ag
 refine gf bd ?_ o77 [2,5]
 refine A3 (G9 ib b (S1.set ib (cPk b)) (w6 ..) (by omega)) (fun d S3 h=>?_) (fun d S3 h=>?_)
 rotate_left
 ·obtain⟨r,rfl,aC,h⟩:=h
  cases hg:grpI b with
  |some x=>rw[hg]at h;cases h.1
  |none=>
   rw[hg]at h
   cases h
   refine gz ?_ o77 [2,5]
   exact finP (U':=S1) ⟨hR.keep,by rw[ag];unfold M5;rw[hg]⟩ (hU:=by rw[w8];exact(Sub.refl _).set ak)
 obtain⟨r,rfl,aC,h⟩:=h
 cases hg:grpI b with
 |none=>rw[hg]at h;cases h
 | some x =>
  obtain⟨n,b1⟩:=x
  rw[hg]at h
  obtain⟨h1,rfl⟩:=h
  cases h1
  rw[w8]
  obtain⟨⟨n,rfl,bn⟩,bO⟩:=EH hg
  dsimp only[putD]
  have ac:ib≠ic:=fun e=>by rw[e,hR.oc]at ak;cases ak
  have ah:ib≠i1:=fun e=>by rw[e,hR.o1]at ak;cases ak
  have ai:ib≠i2:=fun e=>by rw[e,hR.o2]at ak;cases ak
  have bZ:RdS ic i1 i2 [] [] 0 O (S1.set ib (cPk b1)):=⟨by rw[w7 _ _ ac.symm];exact hR.oc,by rw[w7 _ _ ah.symm];exact hR.o1,by rw[w7 _ _ ai.symm];exact hR.o2,hR.ne,fun j o h e=>by
   have:=hR.keep j o h e
   rw[w7 _ _ (An this ak)];exact this⟩
  refine gz ?_ o77 [2,5]
  refine Ma [1,2,4,5,40,41,42,43,44,45,46,47,48,49,50,51,52,53,54,55,56,57,58,59,60,61,62,63,64,65,66,67,68,69,70,71,72,73,74,75,76,77,78,79,80,81,82] (fun (k:Nat) (st:List Int) (b2:Str) (S4:Sig)=>k<=n/\RdS ic i1 i2 [] st 0 O S4/\S4 ib=some (cPk b2)/\st.length+b2.length<=5000/\Ck grpI n b1=(Ck grpI k b2).map fun x=>(st++x.1,x.2)) (fun k _ _ _=>[(3,dI k)]) (fun _ _ _ S4=>S4) (fun k _ _ _=>k) (n) ([]) (b1) (_) (by exact⟨Nat.le_refl _,bZ,w6 .., by simp;omega,by cases Ck grpI n b1<;>rfl⟩) (fun k st b2 S4 hI=>?_)
  obtain⟨hk,am,bx,ci,hT⟩:=hI
  have aj:∀b3 j o,O j=some o->j≠ic->(S4.set ib (cPk b3)) j=some o:=fun b3 j o h e=>by
   have e2:=hR.keep j o h e
   rw[w7 _ _ (An e2 ak)];exact am.keep j o h e
  by_cases bt:0<k
  ·obtain⟨k',rfl⟩:∃k',k=k'+1:=⟨k-1,by omega⟩
   have hu:(S4.out fun j=>j=ib\/j=i2) ic=some (.cells [.slice (([]:List CIns).map cIns) (.tag i1),.slice (cI st) (.tag i2),dI 0]):=Da am.oc (by rintro(e|e);exact ac e.symm;exact ne_some am.oc am.o2 (by simp) e)
   refine gz ?_ (delO 6 o77) [2,5]
   refine Fg (id:=6) [0,1,2,3,4,5] [2,4] (S4.out fun j=>j=ib\/j=i2) (Cm _ _) ?_
   refine gf hu ?_ o77 [2,5]
   refine Bt (G9 ib b2 S4 bx (by omega)) (fun d S5 h=>?_) (fun d S5 h=>?_)
   rotate_left
   ·obtain⟨r,rfl,aC,h⟩:=h
    cases aa:grpI b2 with
    |some x=>rw[aa]at h;cases h.1
    |none=>
     rw[aa]at h
     cases h
     intro V'
     refine gz ?_ o77 [2,5]
     have ay:Fb s=none:=by rw[ag];unfold M5;rw[hg];simp only[Int.toNat_natCast];rw[hT,Ck,aa];simp
     exact finP (U':=S4.set ib (cPk r)) ⟨aj r,by rw[ay]⟩
   obtain⟨r,rfl,aC,h⟩:=h
   cases aa:grpI b2 with
   |none=>rw[aa]at h;cases h
   | some x =>
    obtain⟨m,b3⟩:=x
    rw[aa]at h
    obtain⟨h1,rfl⟩:=h
    cases h1
    obtain⟨-, ba⟩:=EH aa
    have bH:Sub (S4.out fun j=>j=ib\/j=i2) (S4.set ib (cPk b3)):=fun j o hj=>by
     obtain⟨h1,h2⟩:=Cn hj
     rw[w7 _ _ fun e=>h2 (.inl e)];exact h1
    have ce:Sub (S4.out fun j=>j=ib\/j=i2) ((S4.set ib (cPk b3)).set i2 (.tail 1 (st.length+1))):=fun j o hj=>by
     obtain⟨h1,h2⟩:=Cn hj
     rw[w7 _ _ fun e=>h2 (.inr e),w7 _ _ fun e=>h2 (.inl e)];exact h1
    have u2:(S4.set ib (cPk b3)) i2=some (.tail 1 st.length):=by rw[w7 _ _ ai.symm];exact am.o2
    have nc2:ic≠i2:=ne_some am.oc am.o2 (by simp)
    have uc:(S4.set ib (cPk b3)) ic=some (.cells [.slice (([]:List CIns).map cIns) (.tag i1),.slice (cI st) (.tag i2),dI 0]):=by rw[w7 _ _ ac.symm];exact am.oc
    refine⟨bH,?_⟩
    dsimp only[putD]
    have bi:(S4.set ib (cPk b3)) ib=some (cPk b3):=w6 ..
    have bj:(S4.set ib (cPk b3)) i1=some (.tail 2 ([]:List CIns).length):=by rw[w7 _ _ ah.symm];exact am.o1
    have aV:=aj b3
    generalize S4.set ib (cPk b3)=S5 at*
    refine gf (gi hu (gi u2 uc)) ?_ o77 [2,5]
    have aJ:Ck grpI n b1=(Ck grpI k' b3).map fun x=>((st++[m])++x.1,x.2):=by
     rw[hT,Ck,aa]
     simp only
     cases Ck grpI k' b3<;>simp
    have ea:cI (st++[m])=cI st++[[dI m]]:=by simp[cI]
    have aS:RdS ic i1 i2 [] (st++[m]) 0 O ((S5.set i2 (.tail 1 (st.length+1))).set ic (.cells [.slice (([]:List CIns).map cIns) (.tag i1),.slice (cI st++[[dI m]]) (.tag i2),dI 0])):=
     ⟨by rw [w6,ea],by rw [w7 _ _ n3.symm,w7 _ _ hR.ne];exact bj,by rw [w7 _ _ nc2.symm,w6,List.length_append];rfl,hR.ne,fun j o h e=>by
      rw[w7 _ _ e,w7 _ _ (An h aI)];exact aV j o h e⟩
    have bh:((S5.set i2 (.tail 1 (st.length+1))).set ic (.cells [.slice (([]:List CIns).map cIns) (.tag i1),.slice (cI st++[[dI m]]) (.tag i2),dI 0])) ib=some (cPk b3):=by rw[w7 _ _ ac,w7 _ _ ai];exact bi
    exact⟨k',st++[m],b3,_,⟨by omega,aS,bh,by rw[List.length_append,List.length_singleton];omega,aJ⟩,td1,wkR⟩
  obtain rfl:k=0:=by omega
  have aR:Ck grpI n b1=some (st,b2):=by rw[hT];simp[Ck]
  clear hT hk bt
  refine gz ?_ o77 [2,5]
  refine A3 (G9 ib b2 S4 bx (by omega)) (fun d S5 h=>?_) (fun d S5 h=>?_)
  rotate_left
  ·obtain⟨r,rfl,aC,h⟩:=h
   cases aa:grpI b2 with
   |some x=>rw[aa]at h;cases h.1
   |none=>
    rw[aa]at h
    cases h
    have ay:Fb s=none:=by rw[ag];unfold M5;rw[hg];simp only[Int.toNat_natCast];rw[aR];simp only;rw[aa]
    refine gz ?_ o77 [2,5]
    exact finP (U':=S4.set ib (cPk r)) ⟨aj r,by rw[ay]⟩
  obtain⟨r,rfl,aC,h⟩:=h
  cases aa:grpI b2 with
  |none=>rw[aa]at h;cases h
  | some x =>
   obtain⟨m0,b3⟩:=x
   rw[aa]at h
   obtain⟨h1,rfl⟩:=h
   cases h1
   obtain⟨-, ba⟩:=EH aa
   have uc:(S4.set ib (cPk b3)) ic=some (.cells [.slice (([]:List CIns).map cIns) (.tag i1),.slice (cI st) (.tag i2),dI 0]):=by rw[w7 _ _ ac.symm];exact am.oc
   have bi:(S4.set ib (cPk b3)) ib=some (cPk b3):=w6 ..
   have bj:(S4.set ib (cPk b3)) i1=some (.tail 2 ([]:List CIns).length):=by rw[w7 _ _ ah.symm];exact am.o1
   have cb:(S4.set ib (cPk b3)) i2=some (.tail 1 st.length):=by rw[w7 _ _ ai.symm];exact am.o2
   have aV:=aj b3
   dsimp only[putD]
   generalize S4.set ib (cPk b3)=S5 at*
   refine gf uc ?_ o77 [2,5]
   have nc2:ic≠i2:=ne_some am.oc am.o2 (by simp)
   have bh:(S5.set ic (.cells [.slice (([]:List CIns).map cIns) (.tag i1),.slice (cI st) (.tag i2),dI m0])) ib=some (cPk b3):=by rw[w7 _ _ ac];exact bi
   have aS:RdS ic i1 i2 [] st m0 O (S5.set ic (.cells [.slice (([]:List CIns).map cIns) (.tag i1),.slice (cI st) (.tag i2),dI m0])):=
    ⟨w6 .., by rw[w7 _ _ n3.symm];exact bj,by rw[w7 _ _ nc2.symm];exact cb,hR.ne,fun j o h e=>by rw[w7 _ _ e];exact aV j o h e⟩
   have bp:∀j o,O j=some o->j≠ic->(S5.set ic (.cells [.slice (([]:List CIns).map cIns) (.tag i1),.slice (cI st) (.tag i2),dI m0])) j=some o:=fun j o h e=>by rw[w7 _ _ e];exact aV j o h e
   have bk:M5 b=match grpI b3 with
     |none=>none
     |some (k,b4)=>match Ck FP k.toNat b4 with
      |none=>none
      |some (ins,b5)=>if b5=[]/\CG ⟨ins,st,m0⟩=true then some ⟨ins,st,m0⟩ else none:=by
    unfold M5;rw[hg];simp only[Int.toNat_natCast];rw[aR];simp only;rw[aa];rfl
   rw[bk]at ag
   clear bk aR hg aa
   change DOps _ _ _ _ _ _ ⟨_,S5.set ic (.cells [.slice (([]:List CIns).map cIns) (.tag i1),.slice (cI st) (.tag i2),dI m0]),_⟩
   generalize S5.set ic (.cells [.slice (([]:List CIns).map cIns) (.tag i1),.slice (cI st) (.tag i2),dI m0])=S6 at*
   refine A3 (G9 ib b3 S6 bh (by omega)) (fun d S7 h=>?_) (fun d S7 h=>?_)
   rotate_left
   ·obtain⟨r,rfl,aC,h⟩:=h
    cases aa:grpI b3 with
    |some x=>rw[aa]at h;cases h.1
    |none=>
     rw[aa]at h ag
     cases h
     refine gz ?_ o77 [2,5]
     exact finP (U':=S6.set ib (cPk r)) ⟨fun j o h e=>by rw[w7 _ _ (An (hR.keep j o h e) ak)];exact bp j o h e,by rw[ag]⟩
   obtain⟨r,rfl,aC,h⟩:=h
   cases aa:grpI b3 with
   |none=>rw[aa]at h;cases h
   | some x =>
    obtain⟨N,b4⟩:=x
    rw[aa]at h ag
    obtain⟨h1,rfl⟩:=h
    cases h1
    obtain⟨⟨N,rfl,cq⟩,bN⟩:=EH aa
    simp only[Int.toNat_natCast]at ag
    have bY:RdS ic i1 i2 [] st m0 O (S6.set ib (cPk b4)):=⟨by rw[w7 _ _ ac.symm];exact aS.oc,by rw[w7 _ _ ah.symm];exact aS.o1,by rw[w7 _ _ ai.symm];exact aS.o2,hR.ne,fun j o h e=>by rw[w7 _ _ (An (hR.keep j o h e) ak)];exact bp j o h e⟩
    dsimp only[putD]
    refine gz ?_ o77 [2,5]
    refine Ma [1,2,75,76,77,78,79,80,81,82] (fun (k:Nat) (ins:List CIns) (b5:Str) (S7:Sig)=>k<=N/\RdS ic i1 i2 ins st m0 O S7/\S7 ib=some (cPk b5)/\ins.length+b5.length<=5000/\Ck FP N b4=(Ck FP k b5).map fun x=>(ins++x.1,x.2)) (fun k _ _ _=>[(4,dI k)]) (fun _ _ _ S7=>S7) (fun k _ _ _=>k) (N) ([]) (b4) (_) (by exact⟨Nat.le_refl _,bY,w6 .., by simp;omega,by cases Ck FP N b4<;>rfl⟩) (fun k ins b5 S7 hI=>?_)
    obtain⟨hk,aB,aY,bQ,hT⟩:=hI
    have aH:∀b6 j o,O j=some o->j≠ic->(S7.set ib (cPk b6)) j=some o:=fun b6 j o h e=>by
     rw[w7 _ _ (An (hR.keep j o h e) ak)];exact aB.keep j o h e
    by_cases bt:0<k
    ·obtain⟨k',rfl⟩:∃k',k=k'+1:=⟨k-1,by omega⟩
     cases b5 with
     |nil=>
      refine gz ?_ o77 [2,5]
      refine A3 (Ga ib [] S7 aY (by simp)) (fun d S8 h=>by cases h.1) (fun d S8 h=>?_)
      obtain⟨h1,rfl⟩:=h
      cases h1
      have ay:Fb s=none:=by rw[ag,hT,Ck];simp[FP]
      refine gz ?_ o77 [2,5]
      exact finP (U':=S8) ⟨aB.keep,by rw[ay]⟩
     | cons c8 b6 =>
      rw[List.length_cons]at bQ
      refine gz ?_ o77 [2,5]
      refine A3 (Ga ib (c8::b6) S7 aY (by rw[List.length_cons];omega)) (fun d S8 h=>?_) (fun d S8 h=>by cases h.1)
      obtain⟨h1,rfl⟩:=h
      cases h1
      dsimp only[putD]
      have cd:=c8.toNat_lt
      have aF:FP (c8::b6)=if hasA c8.toNat then(match grpI b6 with
        |none=>none
        |some (n,t)=>some (⟨c8.toNat,Hw n⟩,t)) else some (⟨c8.toNat,0⟩,b6):=rfl
      generalize c8.toNat=y8 at*
      have bF:IntKind.i64.wrap (y8:Int)=(y8:Int):=As (by omega) (by omega)
      have o8c:(S7.set ib (cPk b6)) ic=some (.cells [.slice (ins.map cIns) (.tag i1),.slice (cI st) (.tag i2),dI m0]):=by rw[w7 _ _ ac.symm];exact aB.oc
      have o8b:(S7.set ib (cPk b6)) ib=some (cPk b6):=w6 ..
      have o81:(S7.set ib (cPk b6)) i1=some (.tail 2 ins.length):=by rw[w7 _ _ ah.symm];exact aB.o1
      have o82:(S7.set ib (cPk b6)) i2=some (.tail 1 st.length):=by rw[w7 _ _ ai.symm];exact aB.o2
      have k8:=aH b6
      generalize S7.set ib (cPk b6)=S8 at*
      refine gf bF ?_ o77 [2,5]
      refine newV (fun i5 aA=>?_)
      have n5c:i5≠ic:=fun e=>by rw[e,o8c]at aA;cases aA
      have n5b:i5≠ib:=fun e=>by rw[e,o8b]at aA;cases aA
      have n51:i5≠i1:=fun e=>by rw[e,o81]at aA;cases aA
      have n52:i5≠i2:=fun e=>by rw[e,o82]at aA;cases aA
      have nc2:ic≠i2:=ne_some o8c o82 (by simp)
      cases hA:hasA y8 with
      | false =>
       rw[hA,if_neg (by simp)]at aF
       refine gf hA ?_ o77 [2,5]
       have o9c:(S8.set i5 (.cells [.int .i64 (y8:Int),.int .i64 0])) ic=some (.cells [.slice (ins.map cIns) (.tag i1),.slice (cI st) (.tag i2),dI m0]):=by rw[w7 _ _ n5c.symm];exact o8c
       have o9b:(S8.set i5 (.cells [.int .i64 (y8:Int),.int .i64 0])) ib=some (cPk b6):=by rw[w7 _ _ n5b.symm];exact o8b
       have o91:(S8.set i5 (.cells [.int .i64 (y8:Int),.int .i64 0])) i1=some (.tail 2 ins.length):=by rw[w7 _ _ n51.symm];exact o81
       have o92:(S8.set i5 (.cells [.int .i64 (y8:Int),.int .i64 0])) i2=some (.tail 1 st.length):=by rw[w7 _ _ n52.symm];exact o82
       have o95:(S8.set i5 (.cells [.int .i64 (y8:Int),.int .i64 0])) i5=some (.cells [.int .i64 (y8:Int),.int .i64 0]):=w6 ..
       have k9:∀j o,O j=some o->j≠ic->(S8.set i5 (.cells [.int .i64 (y8:Int),.int .i64 0])) j=some o:=fun j o h e=>by rw[w7 _ _ (An (k8 j o h e) aA)];exact k8 j o h e
       generalize S8.set i5 (.cells [.int .i64 (y8:Int),.int .i64 0])=S9 at*
       refine gf (gi o9c (gi o95 o91)) ?_ o77 [2,5]
       have aJ:Ck FP N b4=(Ck FP k' b6).map fun x=>((ins++[⟨(y8:Int),0⟩])++x.1,x.2):=by
        rw[hT,Ck,aF]
        simp only
        cases Ck FP k' b6<;>simp
       have ea:(ins++[(⟨(y8:Int),0⟩:CIns)]).map cIns=ins.map cIns++[[.int .i64 (y8:Int),.int .i64 0]]:=by simp[cIns]
       have aD:RdS ic i1 i2 (ins++[⟨(y8:Int),0⟩]) st m0 O ((S9.set i1 (.tail 2 (ins.length+1))).set ic (.cells [.slice (ins.map cIns++[[.int .i64 (y8:Int),.int .i64 0]]) (.tag i1),.slice (cI st) (.tag i2),dI m0])):=
        ⟨by rw[w6,ea],by rw[w7 _ _ n3.symm,w6,List.length_append];rfl,by rw[w7 _ _ nc2.symm,w7 _ _ hR.ne.symm];exact o92,hR.ne,fun j o h e=>by rw[w7 _ _ e,w7 _ _ (An h aW)];exact k9 j o h e⟩
       have aE:((S9.set i1 (.tail 2 (ins.length+1))).set ic (.cells [.slice (ins.map cIns++[[.int .i64 (y8:Int),.int .i64 0]]) (.tag i1),.slice (cI st) (.tag i2),dI m0])) ib=some (cPk b6):=by rw[w7 _ _ ac,w7 _ _ ah];exact o9b
       exact⟨k',ins++[⟨(y8:Int),0⟩],b6,_,⟨by omega,aD,aE,by rw[List.length_append,List.length_singleton];omega,aJ⟩,td1,wkR⟩
      | true =>
       rw[hA,if_pos rfl]at aF
       refine gf hA ?_ o77 [2,5]
       have o9c:(S8.set i5 (.cells [.int .i64 (y8:Int),.int .i64 0])) ic=some (.cells [.slice (ins.map cIns) (.tag i1),.slice (cI st) (.tag i2),dI m0]):=by rw[w7 _ _ n5c.symm];exact o8c
       have o9b:(S8.set i5 (.cells [.int .i64 (y8:Int),.int .i64 0])) ib=some (cPk b6):=by rw[w7 _ _ n5b.symm];exact o8b
       have o91:(S8.set i5 (.cells [.int .i64 (y8:Int),.int .i64 0])) i1=some (.tail 2 ins.length):=by rw[w7 _ _ n51.symm];exact o81
       have o92:(S8.set i5 (.cells [.int .i64 (y8:Int),.int .i64 0])) i2=some (.tail 1 st.length):=by rw[w7 _ _ n52.symm];exact o82
       have o95:(S8.set i5 (.cells [.int .i64 (y8:Int),.int .i64 0])) i5=some (.cells [.int .i64 (y8:Int),.int .i64 0]):=w6 ..
       have k9:∀j o,O j=some o->j≠ic->(S8.set i5 (.cells [.int .i64 (y8:Int),.int .i64 0])) j=some o:=fun j o h e=>by rw[w7 _ _ (An (k8 j o h e) aA)];exact k8 j o h e
       generalize S8.set i5 (.cells [.int .i64 (y8:Int),.int .i64 0])=S9 at*
       refine A3 (G9 ib b6 S9 o9b (by omega)) (fun d S10 h=>?_) (fun d S10 h=>?_)
       rotate_left
       ·obtain⟨r,rfl,aC,h⟩:=h
        cases aa:grpI b6 with
        |some x=>rw[aa]at h;cases h.1
        |none=>
         rw[aa]at h aF
         cases h
         have ay:Fb s=none:=by rw[ag,hT,Ck,aF];simp
         refine gz ?_ o77 [2,5]
         exact finP (U':=S9.set ib (cPk r)) ⟨fun j o h e=>by rw[w7 _ _ (An (hR.keep j o h e) ak)];exact k9 j o h e,by rw[ay]⟩
       obtain⟨r,rfl,aC,h⟩:=h
       cases aa:grpI b6 with
       |none=>rw[aa]at h;cases h
       | some x =>
        obtain⟨n5,b7⟩:=x
        rw[aa]at h aF
        obtain⟨h1,rfl⟩:=h
        cases h1
        obtain⟨⟨m5,rfl,cg⟩,bM⟩:=EH aa
        dsimp only[putD]
        have q9c:(S9.set ib (cPk b7)) ic=some (.cells [.slice (ins.map cIns) (.tag i1),.slice (cI st) (.tag i2),dI m0]):=by rw[w7 _ _ ac.symm];exact o9c
        have q9b:(S9.set ib (cPk b7)) ib=some (cPk b7):=w6 ..
        have q91:(S9.set ib (cPk b7)) i1=some (.tail 2 ins.length):=by rw[w7 _ _ ah.symm];exact o91
        have q92:(S9.set ib (cPk b7)) i2=some (.tail 1 st.length):=by rw[w7 _ _ ai.symm];exact o92
        have q95:(S9.set ib (cPk b7)) i5=some (.cells [.int .i64 (y8:Int),.int .i64 0]):=by rw[w7 _ _ n5b];exact o95
        have qk:∀j o,O j=some o->j≠ic->(S9.set ib (cPk b7)) j=some o:=fun j o h e=>by rw[w7 _ _ (An (hR.keep j o h e) ak)];exact k9 j o h e
        generalize S9.set ib (cPk b7)=S10 at*
        have hm2:Int.tmod (m5:Int) 2=((m5 % 2:Nat):Int):=rfl
        obtain⟨a,ha⟩:∃a,a=Hw (m5:Int):=⟨_,rfl⟩
        simp only[<-ha]at aF
        have aJ:Ck FP N b4=(Ck FP k' b7).map fun x=>((ins++[⟨(y8:Int),a⟩])++x.1,x.2):=by
         rw[hT,Ck,aF]
         simp only
         cases Ck FP k' b7<;>simp
        have ea:(ins++[(⟨(y8:Int),a⟩:CIns)]).map cIns=ins.map cIns++[[.int .i64 (y8:Int),.int .i64 a]]:=by simp[cIns]
        have p9c:(S10.set i5 (.cells [.int .i64 (y8:Int),.int .i64 a])) ic=some (.cells [.slice (ins.map cIns) (.tag i1),.slice (cI st) (.tag i2),dI m0]):=by rw[w7 _ _ n5c.symm];exact q9c
        have p9b:(S10.set i5 (.cells [.int .i64 (y8:Int),.int .i64 a])) ib=some (cPk b7):=by rw[w7 _ _ n5b.symm];exact q9b
        have p91:(S10.set i5 (.cells [.int .i64 (y8:Int),.int .i64 a])) i1=some (.tail 2 ins.length):=by rw[w7 _ _ n51.symm];exact q91
        have p92:(S10.set i5 (.cells [.int .i64 (y8:Int),.int .i64 a])) i2=some (.tail 1 st.length):=by rw[w7 _ _ n52.symm];exact q92
        have p95:(S10.set i5 (.cells [.int .i64 (y8:Int),.int .i64 a])) i5=some (.cells [.int .i64 (y8:Int),.int .i64 a]):=w6 ..
        have pk:∀j o,O j=some o->j≠ic->(S10.set i5 (.cells [.int .i64 (y8:Int),.int .i64 a])) j=some o:=fun j o h e=>by rw[w7 _ _ (An (k8 j o h e) aA)];exact qk j o h e
        have aD:RdS ic i1 i2 (ins++[⟨(y8:Int),a⟩]) st m0 O (((S10.set i5 (.cells [.int .i64 (y8:Int),.int .i64 a])).set i1 (.tail 2 (ins.length+1))).set ic (.cells [.slice (ins.map cIns++[[.int .i64 (y8:Int),.int .i64 a]]) (.tag i1),.slice (cI st) (.tag i2),dI m0])):=
         ⟨by rw[w6,ea],by rw[w7 _ _ n3.symm,w6,List.length_append];rfl,by rw[w7 _ _ nc2.symm,w7 _ _ hR.ne.symm];exact p92,hR.ne,fun j o h e=>by rw[w7 _ _ e,w7 _ _ (An h aW)];exact pk j o h e⟩
        have aE:(((S10.set i5 (.cells [.int .i64 (y8:Int),.int .i64 a])).set i1 (.tail 2 (ins.length+1))).set ic (.cells [.slice (ins.map cIns++[[.int .i64 (y8:Int),.int .i64 a]]) (.tag i1),.slice (cI st) (.tag i2),dI m0])) ib=some (cPk b7):=by rw[w7 _ _ ac,w7 _ _ ah];exact p9b
        by_cases aO:m5 % 2=1
        ·have hv:IntKind.i64.wrap (-(((m5:Int)+1).tdiv 2))=a:=by
          have e1:((m5:Int)+1).tdiv 2=((m5:Int)+1) / 2:=Int.tdiv_eq_ediv_of_nonneg (by omega)
          have e2:a = -(((m5:Int)+1) / 2):=by rw[ha];unfold Hw;exact if_pos (by omega)
          rw[e1,As (by omega) (by omega),e2]
         refine gf (gi q95 (gi hm2 (gi aO hv))) ?_ o77 [2,5]
         generalize S10.set i5 (.cells [.int .i64 (y8:Int),.int .i64 a])=S11 at*
         refine gf (gi p9c (gi p95 p91)) ?_ o77 [2,5]
         exact⟨k',ins++[⟨(y8:Int),a⟩],b7,_,⟨by omega,aD,aE,by rw[List.length_append,List.length_singleton];omega,aJ⟩,td1,wkR⟩
        ·have hv:(m5:Int) / 2=a:=by rw[ha];unfold Hw;exact(if_neg (by omega)).symm
         refine gf (gi q95 (gi hm2 (gi aO hv))) ?_ o77 [2,5]
         generalize S10.set i5 (.cells [.int .i64 (y8:Int),.int .i64 a])=S11 at*
         refine gf (gi p9c (gi p95 p91)) ?_ o77 [2,5]
         exact⟨k',ins++[⟨(y8:Int),a⟩],b7,_,⟨by omega,aD,aE,by rw[List.length_append,List.length_singleton];omega,aJ⟩,td1,wkR⟩
    obtain rfl:k=0:=by omega
    have aR:Ck FP N b4=some (ins,b5):=by rw[hT];simp[Ck]
    rw[aR]at ag
    simp only at ag
    have oc8:=aB.oc
    cases b5 with
    |cons c8 b6=>
     rw[if_neg (by rintro⟨h,_⟩;cases h)]at ag
     repeat' first|((exact finP (U':=S7) ⟨aB.keep,by rw[ag]⟩))|refine gf aY ?_ o77 [2,5]|apply gy<;>intro hh
    | nil =>
     refine gf (gi aY oc8) ?_ o77 [2,5]
     refine BQ (Bv (t:=79) (d:=.agg (cCPg ⟨ins,st,m0⟩)) (by rw[Ar tdR];exact NE _ _ _ _ _)) ?_
     refine celW (i:=ic) [] [.slice (cI st) (.tag i2),dI m0] (.slice (ins.map cIns) (.tag i1)) (.slice (ins.map cIns) .no) ?_ oc8 (BD _ _)
     refine celW (i:=ic) [.slice (ins.map cIns) .no] [dI m0] (.slice (cI st) (.tag i2)) (.slice (cI st) .no) ?_ (w6 ..) (BD _ _)
     simp only[w8,List.nil_append,List.singleton_append]
     have o9:(S7.set ic (.cells [.slice (ins.map cIns) .no,.slice (cI st) .no,dI m0])) ic=some (.cells (cCPg ⟨ins,st,m0⟩)):=w6 ..
     have k9:∀j o,O j=some o->j≠ic->(S7.set ic (.cells [.slice (ins.map cIns) .no,.slice (cI st) .no,dI m0])) j=some o:=fun j o h e=>by rw[w7 _ _ e];exact aB.keep j o h e
     have aZ:=aB.o2
     generalize S7.set ic (.cells [.slice (ins.map cIns) .no,.slice (cI st) .no,dI m0])=S9 at*
     refine My ((Nf ⟨ins,st,m0⟩ S9 (by simp only;omega) (by simp only;have:=aB.o2;omega)).any _) (fun d S8 h=>?_) (fun d S8 h=>by cases h.1)
     obtain⟨h1,rfl⟩:=h
     cases h1
     dsimp only[putD]
     cases bl:CG ⟨ins,st,m0⟩with
     |false=>
      have ay:Fb s=none:=by rw[ag,bl];simp
      repeat' first|((exact finP (U':=S8) ⟨k9,by rw[ay]⟩))|refine gz ?_ o77 [2,5]|apply gy<;>intro hh
     |true=>
      have ay:Fb s=some ⟨ins,st,m0⟩:=by rw[ag,bl];simp
      refine gz ?_ o77 [2,5]
      refine DS (U':=S8) ⟨k9,by rw[ay];exact⟨rfl,o9⟩⟩
def H4:List (Int×Int):=[(1,1),(2,2),(3,3),(4,5),(5,19),(6,4),(7,8),(8,6),(12,9),(13,10),(14,11),(15,12),(16,13),(17,7),(18,20)]
def pK:List D:=(eIN H4).map (·.1)
def pV:List D:=(eIN H4).map (·.2)
theorem pKV:pK.zip pV=eIN H4:=rfl
@[simp] theorem hitIN85(k:Int)(m:List (Int×Int)):hitD tab 85 false (C9 (.int .i64) (.int .i64 k) (eIN m) 0)=some (.int .i64 (getM 0 k m)):=PR keyI dI rfl k m
theorem NU{o:Int}(h:1<=o/\o<=18)(h9:o≠9)(aL:o≠10)(aK:o≠11):getM 0 o H4=RM o:=by
 have:o=1\/o=2\/o=3\/o=4\/o=5\/o=6\/o=7\/o=8\/o=12\/o=13\/o=14\/o=15\/o=16\/o=17\/o=18:=by omega
 rcases this with e|e|e|e|e|e|e|e|e|e|e|e|e|e|e<;>rw[e]<;>rfl
theorem QD(O:Sig):DCall prog 208 [] O (rS (.cmap pK pV) O):=by
 refine en func208 ntmps208 ?_
 refine gz ?_
 refine newIN (fun im bV=>?_)
 repeat ((fail_if_success (first|(refine cfr 1 (i:=im) (m:=eIN H4) (w6 ..) ?_)|fail));(refine goX1 trivial ?_))
 refine cfr 1 (i:=im) (m:=eIN H4) (w6 ..) ?_
 rw[show(eIN H4).map (·.1)=pK from rfl,show(eIN H4).map (·.2)=pV from rfl]
 rw[Sig.set_del _ _ bV]
 refine gz ?_
 exact fe1 trivial
@[reducible,instance] def a208:=fun O=>ah0 (@QD O)
theorem MN(l r:List CIns)(op a b:Int):setA (l++⟨op,a⟩::r) l.length b=l++⟨op,b⟩::r:=by
 unfold setA
 rw[List.take_left,List.getElem?_append_right (Nat.le_refl _),Nat.sub_self,List.drop_append]
 simp
theorem Jo(p:BProg)(inM:Bool)(hp:p.wt<=1073741824): ∀(k:Nat) (n:Int) (size:Nat),trE p inM k n size->∀(ib:Nat) (s m:D) (st:MR) (ins:List CIns) (O:Sig),ins.length+cL p k n<=1000000->BlkS ib s m st ins O->
  DCall prog 131 [.ptr ib 0,.agg (Ag p),dI n] O fun x U'=>x=.ret (.tup []) /\ ∃st',BlkS ib s m st' (ins++cN p k n ins.length) U'/\BK ib O st U' st':=by
 obtain⟨p1,p2,p3,p4,p5,p6,p7⟩:=p.wt_le
 intro k
 induction k with
 |zero=>intro n size h;exact h.elim
 | succ k ih =>
  intro n size h ib s m st ins O hq hB
  have bm:=tr_op h
  have aU:=fun m hm=>JL h (m:=m) hm
  obtain⟨⟨h0,h1⟩,bR,bn,bL,hk⟩:=h
  obtain⟨i,rfl⟩:∃i:Nat,n=(i:Int):=⟨n.toNat,by omega⟩
  have hi:i<p.nodes.length:=by omega
  have a8:Aa p i=p.nodes[i]:=by unfold Aa;rw[show((i:Int)).toNat=i by omega,List.getElem?_eq_getElem hi];rfl
  have bE:=p7 i hi
  have hN:=Nv p k
  rw[cL,a8]at hq
  rw[cN,a8]
  rw[a8]at bm aU bR bn bL hk
  generalize hx:p.nodes[i]=x at*
  have ck:x.kids.length<=1073741824:=by unfold BNode.wt at bE;omega
  have bS:∀c∈x.kids, ∃z:Nat,trE p inM k c z:=fun c hc=>by
   obtain⟨j,hj,rfl⟩:=List.getElem_of_mem hc
   have:=hk j hj
   split at this
   ·exact⟨size+1,this⟩
   ·exact⟨size,this⟩
  have hS:∀c∈x.kids, ∀(st:MR) (l:List CIns) (O:Sig),l.length+cL p k c<=1000000->BlkS ib s m st l O->DCall prog 131 [.ptr ib 0,.agg (Ag p),dI c] O fun x U'=>x=.ret (.tup []) /\ ∃st',BlkS ib s m st' (l++cN p k c l.length) U'/\BK ib O st U' st':=fun c hc st l O hl hB=>by
   obtain⟨z,hz⟩:=bS c hc;exact ih c z hz ib s m st l O hl hB
  by_cases h9:x.op=9
  ·rw[if_pos h9]at hq⊢
   obtain⟨a,b,ae⟩:∃a b,x.kids=[a,b]:=by
    have hl:x.kids.length=2:=aU 2 (by rw[h9];rfl)
    match hx:x.kids,hl with
    |[a,b],_=>exact⟨a,b,rfl⟩
   have aQ:kidN x 0=a:=by unfold kidN;rw[ae];rfl
   have aP:kidN x 1=b:=by unfold kidN;rw[ae];rfl
   rw[aQ,aP]at hq⊢
   have e1:(ins++cN p k a ins.length).length=ins.length+cL p k a:=by rw[List.length_append,hN]
   have e2:(ins++cN p k a ins.length++[(⟨14,0⟩:CIns)]).length=ins.length+cL p k a+1:=by rw[List.length_append,e1];rfl
   refine en func131 ntmps131 ?_
   refine gf (gi hx (gi h9 ae)) ?_ o131
   refine A3 (hS a (by rw[ae];simp) st ins O (by omega) hB) (fun d S1 hr=>?_) (fun d S1 hr=>by cases hr.1)
   obtain⟨q1,st1,aw,au⟩:=hr
   cases q1
   refine gz ?_ o131
   refine A3 (CK 14 0 (by omega) aw) (fun d U2 hr=>?_) (fun d U2 hr=>by cases hr.1)
   obtain⟨q2,st2,ap,ar⟩:=hr
   cases q2
   refine gf ae ?_ o131
   refine A3 (hS b (by rw[ae];simp) st2 _ U2 (by omega) ap) (fun d S3 hr=>?_) (fun d S3 hr=>by cases hr.1)
   obtain⟨q3,st3,aG,aT⟩:=hr
   cases q3
   rw[e2]at aG
   have e3:(ins++cN p k a ins.length++[(⟨14,0⟩:CIns)]++cN p k b (ins.length+cL p k a+1)).length=ins.length+cL p k a+1+cL p k b:=by rw[List.length_append,e2,hN]
   refine gz ?_ o131
   refine A3 (CK 15 0 (by omega) aG) (fun d S4 hr=>?_) (fun d S4 hr=>by cases hr.1)
   obtain⟨q4,st4,bf,be⟩:=hr
   cases q4
   refine gz ?_ o131
   refine DS (U':=S4) ⟨rfl,st4,?_,((au.trans ar).trans aT).trans be⟩
   simpa[List.append_assoc] using bf
  ·rw [if_neg h9] at hq ⊢
   by_cases aK:x.op=11
   ·rw[if_pos aK]at hq⊢
    obtain⟨a,b,ae⟩:∃a b,x.kids=[a,b]:=by
     have hl:x.kids.length=2:=aU 2 (by rw[aK];rfl)
     match hx:x.kids,hl with
     |[a,b],_=>exact⟨a,b,rfl⟩
    have aQ:kidN x 0=a:=by unfold kidN;rw[ae];rfl
    have aP:kidN x 1=b:=by unfold kidN;rw[ae];rfl
    rw[aQ,aP]at hq⊢
    have e1:(ins++cN p k a ins.length).length=ins.length+cL p k a:=by rw[List.length_append,hN]
    have e2:(ins++cN p k a ins.length++[(⟨16,0⟩:CIns)]).length=ins.length+cL p k a+1:=by rw[List.length_append,e1];rfl
    refine en func131 ntmps131 ?_
    refine gf (gi hx (gi aK ae)) ?_ o131
    refine A3 (hS a (by rw[ae];simp) st ins O (by omega) hB) (fun d S1 hr=>?_) (fun d S1 hr=>by cases hr.1)
    obtain⟨q1,st1,aw,au⟩:=hr
    cases q1
    refine gz ?_ o131
    refine A3 (CK 16 0 (by omega) aw) (fun d U2 hr=>?_) (fun d U2 hr=>by cases hr.1)
    obtain⟨q2,st2,ap,ar⟩:=hr
    cases q2
    refine gf ae ?_ o131
    refine A3 (hS b (by rw[ae];simp) st2 _ U2 (by omega) ap) (fun d S3 hr=>?_) (fun d S3 hr=>by cases hr.1)
    obtain⟨q3,st3,aG,aT⟩:=hr
    cases q3
    rw[e2]at aG
    refine gz ?_ o131
    refine DS (U':=S3) ⟨rfl,st3,?_,(au.trans ar).trans aT⟩
    simpa[List.append_assoc] using aG
   ·rw [if_neg aK] at hq ⊢
    by_cases aL:x.op=10
    ·rw[if_pos aL]at hq⊢
     obtain⟨a,b,c,ae⟩:∃a b c,x.kids=[a,b,c]:=by
      have hl:x.kids.length=3:=aU 3 (by rw[aL];rfl)
      match hx:x.kids,hl with
      |[a,b,c],_=>exact⟨a,b,c,rfl⟩
     have aQ:kidN x 0=a:=by unfold kidN;rw[ae];rfl
     have aP:kidN x 1=b:=by unfold kidN;rw[ae];rfl
     have bW:kidN x 2=c:=by unfold kidN;rw[ae];rfl
     rw[aQ,aP,bW]at hq⊢
     have e1:(ins++cN p k a ins.length).length=ins.length+cL p k a:=by rw[List.length_append,hN]
     have e2:(ins++cN p k a ins.length++[(⟨17,0⟩:CIns)]).length=ins.length+cL p k a+1:=by rw[List.length_append,e1];rfl
     refine en func131 ntmps131 ?_
     refine gf (gi hx (gi aL ae)) ?_ o131
     refine A3 (hS a (by rw[ae];simp) st ins O (by omega) hB) (fun d S1 hr=>?_) (fun d S1 hr=>by cases hr.1)
     obtain⟨q1,st1,aw,au⟩:=hr
     cases q1
     refine gz ?_ o131
     refine A3 (Le 17 (by omega) aw) (fun d U2 hr=>?_) (fun d U2 hr=>by cases hr.1)
     obtain⟨q2,st2,ap,ar⟩:=hr
     obtain⟨k1,br⟩:∃k1,k1=(ins++cN p k a ins.length).length:=⟨_,rfl⟩
     rw[<-br]at q2
     cases q2
     refine gf ae ?_ o131
     refine A3 (hS b (by rw[ae];simp) st2 _ U2 (by omega) ap) (fun d S3 hr=>?_) (fun d S3 hr=>by cases hr.1)
     obtain⟨q3,st3,aG,aT⟩:=hr
     cases q3
     rw[e2]at aG
     have e3:(ins++cN p k a ins.length++[(⟨17,0⟩:CIns)]++cN p k b (ins.length+cL p k a+1)).length=ins.length+cL p k a+1+cL p k b:=by rw[List.length_append,e2,hN]
     refine gz ?_ o131
     refine A3 (Le 18 (by omega) aG) (fun d S4 hr=>?_) (fun d S4 hr=>by cases hr.1)
     obtain⟨q4,st4,bf,be⟩:=hr
     obtain⟨k2,bq⟩:∃k2,k2=(ins++cN p k a ins.length++[(⟨17,0⟩:CIns)]++cN p k b (ins.length+cL p k a+1)).length:=⟨_,rfl⟩
     rw[<-bq]at q4
     cases q4
     have e4:(ins++cN p k a ins.length++[(⟨17,0⟩:CIns)]++cN p k b (ins.length+cL p k a+1)++[(⟨18,0⟩:CIns)]).length=ins.length+cL p k a+1+cL p k b+1:=by rw[List.length_append,e3];rfl
     refine gz ?_ o131
     refine A3 (L9 k1 (by omega) (by omega) bf) (fun d S5 hr=>?_) (fun d S5 hr=>by cases hr.1)
     obtain⟨q5,st5,bB,ca⟩:=hr
     cases q5
     have bJ:ins++cN p k a ins.length++[(⟨17,0⟩:CIns)]++cN p k b (ins.length+cL p k a+1)++[(⟨18,0⟩:CIns)]=(ins++cN p k a ins.length)++⟨17,0⟩::(cN p k b (ins.length+cL p k a+1)++[(⟨18,0⟩:CIns)]):=by simp
     rw[e4,bJ,br,MN]at bB
     have e5:(ins++cN p k a ins.length++(⟨17,((ins.length+cL p k a+1+cL p k b+1:Nat):Int)⟩:CIns)::(cN p k b (ins.length+cL p k a+1)++[(⟨18,0⟩:CIns)])).length=ins.length+cL p k a+1+cL p k b+1:=by rw[List.length_append,e1,List.length_cons,List.length_append,hN];simp only[List.length_cons,List.length_nil];omega
     refine gf ae ?_ o131
     refine A3 (hS c (by rw[ae];simp) st5 _ S5 (by omega) bB) (fun d S6 hr=>?_) (fun d S6 hr=>by cases hr.1)
     obtain⟨q6,st6,bA,b9⟩:=hr
     cases q6
     rw[e5]at bA
     have e6:(ins++cN p k a ins.length++(⟨17,((ins.length+cL p k a+1+cL p k b+1:Nat):Int)⟩:CIns)::(cN p k b (ins.length+cL p k a+1)++[(⟨18,0⟩:CIns)])++cN p k c (ins.length+cL p k a+1+cL p k b+1)).length=ins.length+cL p k a+1+cL p k b+1+cL p k c:=by rw[List.length_append,e5,hN]
     refine gz ?_ o131
     refine A3 (L9 k2 (by omega) (by omega) bA) (fun d S7 hr=>?_) (fun d S7 hr=>by cases hr.1)
     obtain⟨q7,st7,bz,b8⟩:=hr
     cases q7
     have bI:(ins++cN p k a ins.length++(⟨17,((ins.length+cL p k a+1+cL p k b+1:Nat):Int)⟩:CIns)::(cN p k b (ins.length+cL p k a+1)++[(⟨18,0⟩:CIns)])++cN p k c (ins.length+cL p k a+1+cL p k b+1)) =
       (ins++cN p k a ins.length++(⟨17,((ins.length+cL p k a+1+cL p k b+1:Nat):Int)⟩:CIns)::cN p k b (ins.length+cL p k a+1))++⟨18,0⟩::cN p k c (ins.length+cL p k a+1+cL p k b+1):=by simp
     have bb:k2=(ins++cN p k a ins.length++(⟨17,((ins.length+cL p k a+1+cL p k b+1:Nat):Int)⟩:CIns)::cN p k b (ins.length+cL p k a+1)).length:=by rw[bq];simp
     rw[e6,bI,bb,MN]at bz
     refine gz ?_ o131
     refine DS (U':=S7) ⟨rfl,st7,?_,(((((au.trans ar).trans aT).trans be).trans ca).trans b9).trans b8⟩
     simpa[List.append_assoc] using bz
    ·rw[if_neg aL]at hq⊢
     have bK:=NU bm h9 aL aK
     have co:(IL (cN p k) x.kids ins.length).length=wtL (cL p k) x.kids:=Ip hN _ _
     refine en func131 ntmps131 ?_
     refine gf hx ?_ o131
     refine Ma [0,4,6,19,20,30,31,32,33,34,35,36,37] (fun (j:Nat) (out:List CIns) (st1:MR) (S1:Sig)=>j<=x.kids.length/\out++IL (cN p k) (x.kids.drop j) (ins.length+out.length)=IL (cN p k) x.kids ins.length/\BlkS ib s m st1 (ins++out) S1/\BK ib O st S1 st1) (fun j _ _ _=>[(21,dI j)]) (fun _ _ _ S1=>S1) (fun j _ _ _=>x.kids.length-j) (0) ([]) (st) (O) (by exact⟨by omega,rfl,by rw[List.append_nil];exact hB,BK.refl _ _ _⟩) (fun j out st1 S1 hI=>?_)
     obtain⟨hj,hR,aw,au⟩:=hI
     by_cases bc:j<x.kids.length
     ·rw[Ac bc,IL]at hR
      have bP:=congrArg List.length hR
      simp only[List.length_append,hN]at bP
      refine gf hx ?_ o131
      refine A3 (hS x.kids[j] (List.getElem_mem bc) st1 _ S1 (by rw[List.length_append];omega) aw) (fun d U2 hr=>?_) (fun d U2 hr=>by cases hr.1)
      obtain⟨q2,st2,ap,ar⟩:=hr
      cases q2
      rw[List.append_assoc,List.length_append]at ap
      refine gz ?_ o131
      exact⟨j+1,out++cN p k x.kids[j] (ins.length+out.length),st2,U2,⟨by omega,by rw[List.append_assoc,List.length_append,<-Nat.add_assoc];exact hR,ap,au.trans ar⟩,td1,wkR⟩
     ·rw[Ai bc,IL,List.append_nil]at hR
      subst hR
      refine gf (gi hx (gi pKV bK)) ?_ o131
      refine A3 (CK (RM x.op) x.n (by rw[List.length_append];omega) aw) (fun d U2 hr=>?_) (fun d U2 hr=>by cases hr.1)
      obtain⟨q2,st2,ap,ar⟩:=hr
      cases q2
      refine gz ?_ o131
      refine DS (U':=U2) ⟨rfl,st2,?_,au.trans ar⟩
      simpa[List.append_assoc] using ap
theorem L1(p:BProg)(inM:Bool)(hp:p.wt<=1073741824)(k:Nat)(n:Int)(size:Nat)(h:trE p inM k n size)(ib:Nat)(s m:D)(st:MR)(ins:List CIns)(O:Sig)(hq:ins.length+cL p k n<=1000000)(hB:BlkS ib s m st ins O):
  DCall prog 60 [.ptr ib 0,.agg (Ag p),dI n] O fun x U'=>x=.ret (dI ins.length) /\ ∃st',BlkS ib s m st' (ins++bodyC p k n ins.length) U'/\BK ib O st U' st':=by
 have hN:=Nv p k
 obtain⟨q1,q2,q3⟩:=hB
 have hB:BlkS ib s m st ins O:=⟨q1,q2,q3⟩
 have fin:∀(U2:Sig) (st2:MR),BlkS ib s m st2 (ins++cN p k n ins.length++[(⟨21,0⟩:CIns)]) U2->BlkS ib s m st2 (ins++bodyC p k n ins.length) U2:=fun U2 st2 h=>by unfold bodyC;simpa[List.append_assoc] using h
 refine en func60 ntmps60 ?_
 cases aZ:st with
 |none=>
  subst aZ
  have h0:ins=[]:=by have:ins.map cIns=[]:=q2;simpa using this
  subst h0
  simp only[mD]at q1
  refine gf q1 ?_
  refine A3 (Jo p inM hp k n size h ib s m none [] O hq hB) (fun d S1 hr=>?_) (fun d S1 hr=>by cases hr.1)
  obtain⟨e1,st1,aw,au⟩:=hr
  cases e1
  refine gz ?_
  refine A3 (CK 21 0 (by rw[List.length_append,hN];omega) aw) (fun d U2 hr=>?_) (fun d U2 hr=>by cases hr.1)
  obtain⟨e2,st2,ap,ar⟩:=hr
  cases e2
  refine gz ?_
  exact fin1 (U':=U2) ⟨rfl,st2,fin _ _ ap,au.trans ar⟩
 |some x=>
  obtain⟨rr,rc,rest⟩:=x
  subst aZ
  simp only[mD]at q1
  refine gf q1 ?_
  refine A3 (Jo p inM hp k n size h ib s m _ ins O hq hB) (fun d S1 hr=>?_) (fun d S1 hr=>by cases hr.1)
  obtain⟨e1,st1,aw,au⟩:=hr
  cases e1
  refine gz ?_
  refine A3 (CK 21 0 (by rw[List.length_append,hN];omega) aw) (fun d U2 hr=>?_) (fun d U2 hr=>by cases hr.1)
  obtain⟨e2,st2,ap,ar⟩:=hr
  cases e2
  refine gz ?_
  exact fin1 (U':=U2) ⟨rfl,st2,fin _ _ ap,au.trans ar⟩
end Go.DL
