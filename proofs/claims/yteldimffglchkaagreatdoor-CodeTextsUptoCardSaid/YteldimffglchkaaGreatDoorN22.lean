/- A part of the proof. -/
import Derived.Test.YteldimffglchkaaGreatDoorN17
import Derived.Test.YteldimffglchkaaGreatDoorN15
import Derived.Test.YteldimffglchkaaGreatDoorN18
import Derived.Test.YteldimffglchkaaGreatDoorN11
import Derived.Test.YteldimffglchkaaGreatDoorN21
set_option linter.all false
namespace Go.DL
open Go.Proofs.Tryz
open Go Go.Proofs
set_option maxHeartbeats 80000000
@[simp] theorem cIns_take(x:CIns):List.take 2 (cIns x)=cIns x:=rfl
@[simp] theorem mem_cIns(y:D)(x:CIns):y∈cIns x ↔ y=dI x.op\/y=dI x.a:=by simp[cIns]
def eIL(m:MetL):List (D×D):=eM dI (fun l=>.agg (cLev l)) m
@[simp] theorem hitILok(k:Int)(m:MetL):hitD tab 79 true (Ca (.int .i64) (.int .i64 k) (eIL m) 0)=some (.tup [.agg [.int .i64 (getM ⟨0,0⟩ k m).st,.int .i64 (getM ⟨0,0⟩ k m).env],.bool (hasM k m)]):=KP keyI (fun l=>.agg (cLev l)) rfl k m
@[simp] theorem hitIL(k:Int)(m:MetL):hitD tab 79 false (Ca (.int .i64) (.int .i64 k) (eIL m) 0)=some (.agg [.int .i64 (getM ⟨0,0⟩ k m).st,.int .i64 (getM ⟨0,0⟩ k m).env]):=Rf keyI (fun l=>.agg (cLev l)) rfl k m
@[simp] theorem putIL(k a b:Int)(m:MetL):Cu (.int .i64) (.int .i64 k) (.agg [.int .i64 a,.int .i64 b]) (eIL m)=some (eIL (putM k ⟨a,b⟩ m)):=Lw keyI (fun l=>.agg (cLev l)) k ⟨a,b⟩ m
def ReR(p:BProg)(c:CProg)(im2:Nat)(m:MetL)(n:Int)(l:CLev)(O:Sig)(x:DE)(U':Sig):Prop:=
 if n<0\/(c.ins.length:Int)<=n\/(hasM n m=true/\getM ⟨0,0⟩ n m≠l) then x=.panic unfC/\U'=O else x=.ret (.tup [])/\U'=O.set im2 (.map (eIL (putM n l m)))
theorem Cx(p:BProg)(c:CProg)(im im2:Nat)(m:MetL)(n:Int)(l:CLev)(O:Sig)(hc:c.ins.length<=300)(hm:O im2=some (.map (eIL m))):DCall prog 170 [dI n,.agg (cLev l),.cptr [.map im2] 0,.cptr [cChk p c im] 0] O (ReR p c im2 m n l O):=by
 obtain⟨st,env⟩:=l
 refine en func170 ntmps170 ?_
 by_cases h1:n<0
 ·refine gf hm ?_
  exact finP (U':=O) (by unfold ReR;rw[if_pos (.inl h1)];exact⟨rfl,rfl⟩)
 by_cases h2:(c.ins.length:Int)<=n
 ·refine gf hm ?_
  exact finP (U':=O) (by unfold ReR;rw[if_pos (.inr (.inl h2))];exact⟨rfl,rfl⟩)
 cases hh:hasM n m with
 |false=>
  refine gf (gi hm hh) ?_
  exact DZ (U':=O.set im2 (.map (eIL (putM n ⟨st,env⟩ m)))) (by unfold ReR;rw[if_neg (by rintro(h|h|h);exact h1 h;exact h2 h;rw[hh]at h;cases h.1)];exact⟨rfl,rfl⟩)
 | true =>
  refine gf (gi hm hh) ?_
  refine eqlS _ (decide (getM ⟨0,0⟩ n m=(⟨st,env⟩:CLev))) Te R9 (eqLev _ _) ?_
  by_cases he:getM ⟨0,0⟩ n m=(⟨st,env⟩:CLev)
  ·refine gf (gi he hm) ?_
   exact DZ (U':=O.set im2 (.map (eIL (putM n ⟨st,env⟩ m)))) (by unfold ReR;rw[if_neg (by rintro(h|h|h);exact h1 h;exact h2 h;exact h.2 he)];exact⟨rfl,rfl⟩)
  ·refine gf he ?_
   exact finP (U':=O) (by unfold ReR;rw[if_pos (.inr (.inr ⟨hh,he⟩))];exact⟨rfl,rfl⟩)
theorem ReR.met{p:BProg}{c:CProg}{im2:Nat}{m:MetL}{n:Int}{l:CLev}{O:Sig}{x:DE}{U':Sig}(h:ReR p c im2 m n l O x U'):(BJ c.ins.length (metOf m) n l=none/\x=.panic unfC/\U'=O)\/(BJ c.ins.length (metOf m) n l=some (metOf (putM n l m))/\x=.ret (.tup [])/\U'=O.set im2 (.map (eIL (putM n l m)))/\0<=n/\n<c.ins.length):=by
 unfold ReR at h
 unfold BJ
 have e:(n<0\/(c.ins.length:Int)<=n\/(hasM n m=true/\getM ⟨0,0⟩ n m≠l)) ↔ (n<0\/(c.ins.length:Int)<=n\/(metOf m n.toNat≠none/\metOf m n.toNat≠some l)):=by
  by_cases h1:n<0
  ·simp[h1]
  ·have hn:((n.toNat:Nat):Int)=n:=by omega
   unfold metOf
   rw[hn]
   cases hh:hasM n m<;>simp
 split at h
 ·rename_i hc
  rw[if_pos (e.1 hc)]
  exact .inl ⟨rfl,h⟩
 ·rename_i hc
  rw[if_neg fun k=>hc (e.2 k)]
  have hn:n=((n.toNat:Nat):Int):=by
   have:¬n<0:=fun k=>hc (.inl k)
   omega
  refine .inr ⟨?_,h.1,h.2,by omega,?_⟩
  ·have h3:=CW m n.toNat l
   rw[<-hn]at h3
   rw[h3]
  ·have:¬(c.ins.length:Int)<=n:=fun k=>hc (.inr (.inl k))
   omega
theorem newIL{ro:Ro}{n:Nat}{ops:Array Oper}{Q:DX->St->Prop}{df:List DDf}{rest:List Oper}{γ:Fr}{O:Sig}{t:Nat}{ty:TypeId}{pos:String}{after:Array Edge}{T:Nat}(h:∀i,O i=none->DOps prog ro n ops Q rest ⟨(t,.map i)::γ,O.set i (.map (eIL [])),df⟩)(be:decide (t<n)=true:=by exact tdR):DOps prog ro n ops Q (⟨some t,.makeMap T none,ty,pos,after,none⟩::rest) ⟨γ,O,df⟩:=newM h be
def cSt(s:CSt):List D:=[dI s.pos,dI s.env,.bool s.next]
theorem Ur{c:CProg}{q:Nat}(h:q<c.ins.length):AB c q=c.ins[q]:=by unfold AB;rw[List.getElem?_eq_getElem h];rfl
theorem Kg{m:MetL}{n:Nat}{lv:CLev}{env:Int}{q:Nat}(hb:∀j l,metOf m j=some l->0<=l.st/\l.st<=q/\env<=l.env/\l.env<=env+q)(h:0<=lv.st/\lv.st<=q+1/\env<=lv.env/\lv.env<=env+q+1){z:Int}(hz:z=(n:Int)): ∀j l,metOf (putM z lv m) j=some l->0<=l.st/\l.st<=((q+1:Nat):Int)/\env<=l.env/\l.env<=env+((q+1:Nat):Int):=fun j l hj=>by
 rw[hz,CW]at hj
 unfold updM at hj
 split at hj
 ·cases hj;omega
 ·have:=hb j l hj;omega
theorem bd_put2{m:MetL}{n k:Nat}{lv:CLev}{env:Int}{q:Nat}(hb:∀j l,metOf m j=some l->0<=l.st/\l.st<=q/\env<=l.env/\l.env<=env+q)(h:0<=lv.st/\lv.st<=q+1/\env<=lv.env/\lv.env<=env+q+1){z y:Int}(hz:z=(n:Int))(hy:y=(k:Int)): ∀j l,metOf (putM z lv (putM y lv m)) j=some l->0<=l.st/\l.st<=((q+1:Nat):Int)/\env<=l.env/\l.env<=env+((q+1:Nat):Int):=fun j l hj=>by
 rw[hz,CW,hy,CW]at hj
 unfold updM at hj
 split at hj
 ·cases hj;omega
 ·split at hj
  ·cases hj;omega
  ·have:=hb j l hj;omega
theorem SI {S:Type} (p:BProg) (c:CProg) (im:Nat) (s:CSt) (lb:Nat) (Good:Sig->S->Prop) (Bad:Sig->Prop) (touch:Nat->Prop) (step:Nat->CLev->S->Option S) (hp:p.wt<=1073741824) (hc:c.ins.length<=300) (bG:C1 p c.ins.length c.ins 0=true) (cw : ∀ n:Nat,0<=p.gens.getD n 0/\p.gens.getD n 0<=3) (he:0<=s.env/\s.env<=1000)
  (hy:∀k l O s,k<c.ins.length->Good O s->DYield prog lb [dI k,.agg (cLev l)] O (OutO unfC (.bool true) Good Bad touch O (step k l s))) (O:Sig) (s0:S) (hG:Good O s0)
  (hI:∀a,O a=none->∀U1 s o,Good U1 s->Good (U1.set a o) s) (ht:∀a,O a=none->¬touch a) (hB:∀U1 s,Good U1 s->Bad U1) :
  DCall prog 169 [.yld lb,.cptr [cChk p c im] 0,.cptr (cSt s) 0] O (OutO unfC (.tup []) Good Bad touch O (By p c s step s0)):=by
 obtain⟨p1,p2,p3,p4,p5,p6,p7⟩:=p.wt_le
 obtain⟨cC,cB⟩:=he
 obtain⟨pos,env,next⟩:=s
 simp only at cC cB
 refine en func169 ntmps169 ?_
 refine gz ?_ [] [12]
 refine newIL (fun im2 ak=>?_)
 refine gz ?_ [] [12]
 refine A7 (Cx p c im im2 [] pos ⟨0,env⟩ _ hc (w6 ..)) (fun d U' hr=>?_) (fun d U' hr=>?_)
 ·rcases hr.met with ⟨_,h,_⟩ | ⟨cT,ci,cg,cR,cQ⟩
  ·cases h
  cases ci
  subst cg
  obtain⟨q0,rfl⟩:∃q0:Nat,pos=(q0:Int):=⟨pos.toNat,by omega⟩
  refine gz ?_ [] [12]
  have nim:∀j o,O j=some o->j≠im2:=fun j o h e=>by rw[e,ak]at h;cases h
  refine Pb [0,1,2,4,5] (fun (q:Nat) (m:MetL) (s1:S) (U1:Sig)=>q0<=q/\q<=c.ins.length/\Good U1 s1/\U1 im2=some (.map (eIL m))/\(∀j o,O j=some o->¬touch j->U1 j=some o)/\By p c ⟨(q0:Int),env,next⟩ step s0=FD p c env next step (c.ins.length-q) q (metOf m) s1 /\ ∀j l,metOf m j=some l->0<=l.st/\l.st<=q/\env<=l.env/\l.env<=env+q) (fun q _ _ _=>[(6,dI q)]) (fun _ _ _ U1=>U1) (fun q _ _ _=>c.ins.length-q) (q0) (putM (q0:Int) ⟨0,env⟩ []) (s0) ((O.set im2 (.map (eIL []))).set im2 (.map (eIL (putM (q0:Int) ⟨0,env⟩ [])))) (by exact⟨Nat.le_refl _,by omega,hI im2 ak _ _ _ (hI im2 ak _ _ _ hG),w6 .., fun j o h _=>by rw[w7 _ _ (nim j o h),w7 _ _ (nim j o h)];exact h,by unfold By;rw[if_neg (by simp only;omega),CW];rfl,fun j l h=>by rw[CW]at h;unfold updM at h;split at h;(cases h;simp only;omega);cases h⟩) (fun q m s1 U1 hI=>?_)
  obtain⟨cW,cV,aC,aj,aH,hR,aP⟩:=hI
  by_cases hq:q<c.ins.length
  ·have bf:c.ins.length-q=(c.ins.length-(q+1))+1:=by omega
   rw[bf,FD,Ur hq]at hR
   have aM:=He _ _ bG q _ (List.getElem?_eq_getElem hq)
   rw[Nat.zero_add]at aM
   cases aO:metOf m q with
   | none =>
    have hh:hasM (q:Int) m=false:=by
     unfold metOf at aO
     split at aO
     ·cases aO
     ·rename_i h;simpa using h
    rw[aO]at hR
    simp only at hR
    refine gf (gi aj hh) ?_ [] [12]
    exact⟨q+1,m,s1,U1,⟨by omega,by omega,aC,aj,aH,hR,fun j l h=>by have:=aP j l h;omega⟩,td1,wkR⟩
   | some l =>
    have hh:hasM (q:Int) m=true/\getM ⟨0,0⟩ (q:Int) m=l:=by
     unfold metOf at aO
     split at aO
     ·rename_i h;exact⟨h,by simpa using aO⟩
     ·cases aO
    obtain⟨aF,aE⟩:=hh
    obtain⟨b1,b2,b3,b4⟩:=aP q l aO
    rw[aO]at hR
    simp only at hR
    have hu:=fun cO:(c.ins[q]).op=19=>(show 0<=(c.ins[q]).a/\(c.ins[q]).a<p.gens.length by unfold fitsQ at aM;rw[cO]at aM;simpa using aM)
    have bQ:0<=(Ao p c.ins[q]).1/\(Ao p c.ins[q]).1<=3/\0<=(Ao p c.ins[q]).2/\(Ao p c.ins[q]).2<=1:=by
     have:=cw (c.ins[q]).a.toNat
     unfold Ao
     repeat' split
     all_goals simp only;omega
    obtain⟨x,hx⟩:∃x,x=c.ins[q]:=⟨_,rfl⟩
    rw[<-hx]at hR aM hu bQ
    have ag:=hx.symm
    have i171:∀O,Ans 171 [cChk p c im,.agg (cIns x)] O True (.tup [dI (Ao p x).1,dI (Ao p x).2]):=fun O=>ah0 (SH p c im x O hp hu)
    generalize bO:Ao p x=us at*
    obtain⟨take,give⟩:=us
    obtain⟨st,en⟩:=l
    simp only at bQ b1 b2 b3 b4
    by_cases aK:¬(take<=st/\(x.op=3->x.a<en)/\(x.op=20->next=true))
    ·have aq:By p c ⟨(q0:Int),env,next⟩ step s0=none:=by
      rw[hR]
      have:Ec p c env next q x ⟨st,en⟩ (metOf m)=none:=by
       unfold Ec;rw[bO]
       refine if_pos ?_
       by_cases k1:take<=st
       ·by_cases k2:x.op=3->x.a<en
        ·by_cases k3:x.op=20->next=true
         ·exact absurd ⟨k1,k2,k3⟩ aK
         ·rw[Classical.not_imp]at k3
          exact .inr (.inr (.inr ⟨k3.1,by simpa using k3.2⟩))
        ·rw[Classical.not_imp]at k2
         exact .inr (.inl ⟨k2.1,by have:=k2.2;show en<=x.a;omega⟩)
       ·exact .inl (by show st<take;omega)
      rw[this]
     have bm:st<take\/(x.op=3/\en<=x.a)\/(x.op=20/\next=false):=by
      by_cases k1:take<=st
      ·by_cases k2:x.op=3->x.a<en
       ·by_cases k3:x.op=20->next=true
        ·exact absurd ⟨k1,k2,k3⟩ aK
        ·rw[Classical.not_imp]at k3
         exact .inr (.inr ⟨k3.1,by simpa using k3.2⟩)
       ·rw[Classical.not_imp]at k2
        exact .inr (.inl ⟨k2.1,by have:=k2.2;omega⟩)
      ·exact .inl (by omega)
     clear aK hR
     rcases bm with k1|⟨k1,k2⟩|⟨k1,k2⟩
     ·repeat' first|refine gf (gi aj (gi aF (gi aE ag))) ?_ [] [12]|apply gy<;>intro hh
      all_goals exact finP (U':=U1) (by rw[aq];exact⟨rfl,hB _ _ aC⟩)
     ·repeat' first|refine gf (gi aj (gi aF (gi aE (gi ag k1)))) ?_ [] [12]|apply gy<;>intro hh
      all_goals exact finP (U':=U1) (by rw[aq];exact⟨rfl,hB _ _ aC⟩)
     ·repeat' first|refine gf (gi aj (gi aF (gi aE (gi ag (gi k1 k2))))) ?_ [] [12]|apply gy<;>intro hh
      all_goals exact finP (U':=U1) (by rw[aq];exact⟨rfl,hB _ _ aC⟩)
    ·rw [Classical.not_not] at aK
     obtain⟨e1,e2,e3⟩:=aK
     have bu:¬(st<take\/(x.op=3/\en<=x.a)\/(x.op=15/\en<=env)\/(x.op=20/\next=false)) ↔ ¬(x.op=15/\en<=env):=by
      constructor
      ·intro h k;exact h (.inr (.inr (.inl k)))
      ·rintro h (k|⟨k,k2⟩|k|⟨k,k2⟩)
       ·omega
       ·have:=e2 k;omega
       ·exact h k
       ·rw[e3 k]at k2;cases k2
     have aJ:∀l:CLev,Ec p c env next q x ⟨st,en⟩ (metOf m)=if(st<take\/(x.op=3/\en<=x.a)\/(x.op=15/\en<=env)\/(x.op=20/\next=false)) then none
      else if x.op=21 then(if st=1/\en=env then some (metOf m) else none)
      else if x.op=14 then BJ c.ins.length (metOf m) ((q:Int)+1) ⟨st-take+give,en+1⟩
      else if x.op=15 then BJ c.ins.length (metOf m) ((q:Int)+1) ⟨st-take+give,en-1⟩
      else if x.op=18 then BJ c.ins.length (metOf m) x.a ⟨st-take+give,en⟩
      else if x.op=17 then(match BJ c.ins.length (metOf m) x.a ⟨st-take+give,en⟩with
       |none=>none
       |some m=>BJ c.ins.length m ((q:Int)+1) ⟨st-take+give,en⟩)
      else BJ c.ins.length (metOf m) ((q:Int)+1) ⟨st-take+give,en⟩:=fun _=>by unfold Ec;rw[bO];rfl
     rw[aJ ⟨0,0⟩]at hR
     clear aJ
     by_cases aQ:x.op=21
     ·rw[if_neg (bu.2 (by omega)),if_pos aQ]at hR
      by_cases aZ:st=1/\en=env
      ·rw[if_pos aZ]at hR
       obtain⟨g1,g2⟩:=aZ
       simp only at hR
       refine gf (gi aj (gi aF (gi aE (gi ag aQ)))) ?_ [] [12]
       refine yldW (hy q ⟨st,en⟩ U1 s1 hq aC) (fun d U2 hr=>?_) (fun d U2 hr=>?_)
       rotate_left
       ·obtain⟨hn,rfl,hb⟩:=hr.pan
        rw[hn]at hR
        have aq:By p c ⟨(q0:Int),env,next⟩ step s0=none:=by first|exact hR|(rw[hR];split<;>rfl)
        exact finP (U':=U2) (by rw[aq];exact⟨rfl,hb⟩)
       obtain⟨s2,ax,rfl,am,ae⟩:=hr.ret
       rw[ax]at hR
       have hm2:=ae im2 _ aj (ht im2 ak)
       have aA:∀j o,O j=some o->¬touch j->U2 j=some o:=fun j o h1 h2=>ae j o (aH j o h1 h2) h2
       refine gf (gi ag aQ) ?_ [] [12]
       refine newV (fun i12 aa=>?_)
       have n12:im2≠i12:=fun e=>by rw[<-e,hm2]at aa;cases aa
       refine gf (gi ag aQ) ?_ [] [12]
       exact⟨q+1,m,s2,U2,⟨by omega,by omega,am,hm2,aA,hR,fun j l h=>by have:=aP j l h;omega⟩,td1,wkR⟩
      ·rw[if_neg aZ]at hR
       simp only at hR
       refine gf (gi aj (gi aF (gi aE (gi ag aQ)))) ?_ [] [12]
       refine yldW (hy q ⟨st,en⟩ U1 s1 hq aC) (fun d U2 hr=>?_) (fun d U2 hr=>?_)
       rotate_left
       ·obtain⟨hn,rfl,hb⟩:=hr.pan
        have aq:By p c ⟨(q0:Int),env,next⟩ step s0=none:=hR
        exact finP (U':=U2) (by rw[aq];exact⟨rfl,hb⟩)
       obtain⟨s2,ax,rfl,am,ae⟩:=hr.ret
       have hm2:=ae im2 _ aj (ht im2 ak)
       have aA:∀j o,O j=some o->¬touch j->U2 j=some o:=fun j o h1 h2=>ae j o (aH j o h1 h2) h2
       refine gf (gi ag aQ) ?_ [] [12]
       refine newV (fun i12 aa=>?_)
       have n12:im2≠i12:=fun e=>by rw[<-e,hm2]at aa;cases aa
       repeat' first|refine gf (gi ag aQ) ?_ [] [12]|apply gy<;>intro hh
       all_goals exact finP (U':=U2) (by rw[hR];exact⟨rfl,hB _ _ am⟩)
     have ap:∀(i12:Nat) (o o':DObj),im2≠i12->U1=U1->∀U2:Sig,U2 i12=none->Sub (U2.set im2 o) ((U2.set i12 o').set im2 o):=fun i12 o o' hn _ U2 aa k y hk=>by
      by_cases bY:k=im2
      ·subst bY;rw[w6]at hk⊢; exact hk
      ·rw[w7 _ _ bY]at hk⊢
       rw[w7 _ _ (fun e=>by rw[e,aa]at hk;cases hk)];exact hk
     ·by_cases bd:x.op=14
      ·rw[if_neg (bu.2 (by omega)),if_neg aQ,if_pos bd]at hR
       refine gf (gi aj (gi aF (gi aE (gi ag bd)))) ?_ [] [12]
       refine yldW (hy q ⟨st,en⟩ U1 s1 hq aC) (fun d U2 hr=>?_) (fun d U2 hr=>?_)
       rotate_left
       ·obtain⟨hn,rfl,hb⟩:=hr.pan
        rw[hn]at hR
        have aq:By p c ⟨(q0:Int),env,next⟩ step s0=none:=by first|exact hR|(rw[hR];split<;>rfl)
        exact finP (U':=U2) (by rw[aq];exact⟨rfl,hb⟩)
       obtain⟨s2,ax,rfl,am,ae⟩:=hr.ret
       rw[ax]at hR
       have hm2:=ae im2 _ aj (ht im2 ak)
       have aA:∀j o,O j=some o->¬touch j->U2 j=some o:=fun j o h1 h2=>ae j o (aH j o h1 h2) h2
       refine gf (gi ag bd) ?_ [] [12]
       refine newV (fun i12 aa=>?_)
       have n12:im2≠i12:=fun e=>by rw[<-e,hm2]at aa;cases aa
       refine gf (gi ag bd) ?_ [] [12]
       refine A7 (Cx p c im im2 (m) ((q:Int)+1) ⟨st-take+give,en+1⟩ _ hc (by rw[w7 _ _ n12];exact hm2)) (fun d S3 hr=>?_) (fun d S3 hr=>?_)
       rotate_left
       ·rcases hr.met with⟨hn,ai,ah⟩|⟨_,h5,_⟩
        ·cases ai
         subst ah
         rw[hn]at hR
         exact finP (U':=U2) (by rw[hR];exact⟨rfl,hB _ _ am⟩)
        ·cases h5
       rcases hr.met with⟨_,h5,_⟩|⟨hn,ai,ah,ba,a8⟩
       ·cases h5
       cases ai
       subst ah
       rw[hn]at hR
       simp only at hR
       have aw:=ap i12 (.map (eIL (putM ((q:Int)+1) ⟨st-take+give,en+1⟩ m))) (.cells [dI (st-take+give),dI (en+1)]) n12 rfl U2 aa
       refine gf bd ?_ [] [12]
       exact⟨q+1,putM ((q:Int)+1) ⟨st-take+give,en+1⟩ m,s2,U2.set im2 (.map (eIL (putM ((q:Int)+1) ⟨st-take+give,en+1⟩ m))),⟨by omega,by omega,hI im2 ak _ _ _ am,w6 .., fun j o h1 h2=>by rw[w7 _ _ (nim j o h1)];exact aA j o h1 h2,hR,Kg (n:=q+1) aP (by simp only;omega) (by omega)⟩,td1,wkR⟩
      ·by_cases aR:x.op=15
       ·by_cases bN:en<=env
        ·rw[if_pos (.inr (.inr (.inl ⟨aR,bN⟩)))]at hR
         simp only at hR
         refine gf (gi aj (gi aF (gi aE (gi ag aR)))) ?_ [] [12]
         refine yldW (hy q ⟨st,en⟩ U1 s1 hq aC) (fun d U2 hr=>?_) (fun d U2 hr=>?_)
         rotate_left
         ·obtain⟨hn,rfl,hb⟩:=hr.pan
          have aq:By p c ⟨(q0:Int),env,next⟩ step s0=none:=hR
          exact finP (U':=U2) (by rw[aq];exact⟨rfl,hb⟩)
         obtain⟨s2,ax,rfl,am,ae⟩:=hr.ret
         have hm2:=ae im2 _ aj (ht im2 ak)
         have aA:∀j o,O j=some o->¬touch j->U2 j=some o:=fun j o h1 h2=>ae j o (aH j o h1 h2) h2
         refine gf (gi ag aR) ?_ [] [12]
         refine newV (fun i12 aa=>?_)
         have n12:im2≠i12:=fun e=>by rw[<-e,hm2]at aa;cases aa
         repeat' first|refine gf (gi ag aR) ?_ [] [12]|apply gy<;>intro hh
         all_goals exact finP (U':=U2) (by rw[hR];exact⟨rfl,hB _ _ am⟩)
        ·rw[if_neg (bu.2 (by omega)),if_neg aQ,if_neg bd,if_pos aR]at hR
         refine gf (gi aj (gi aF (gi aE (gi ag aR)))) ?_ [] [12]
         refine yldW (hy q ⟨st,en⟩ U1 s1 hq aC) (fun d U2 hr=>?_) (fun d U2 hr=>?_)
         rotate_left
         ·obtain⟨hn,rfl,hb⟩:=hr.pan
          rw[hn]at hR
          have aq:By p c ⟨(q0:Int),env,next⟩ step s0=none:=by first|exact hR|(rw[hR];split<;>rfl)
          exact finP (U':=U2) (by rw[aq];exact⟨rfl,hb⟩)
         obtain⟨s2,ax,rfl,am,ae⟩:=hr.ret
         rw[ax]at hR
         have hm2:=ae im2 _ aj (ht im2 ak)
         have aA:∀j o,O j=some o->¬touch j->U2 j=some o:=fun j o h1 h2=>ae j o (aH j o h1 h2) h2
         refine gf (gi ag aR) ?_ [] [12]
         refine newV (fun i12 aa=>?_)
         have n12:im2≠i12:=fun e=>by rw[<-e,hm2]at aa;cases aa
         refine gf (gi ag aR) ?_ [] [12]
         refine A7 (Cx p c im im2 (m) ((q:Int)+1) ⟨st-take+give,en-1⟩ _ hc (by rw[w7 _ _ n12];exact hm2)) (fun d S3 hr=>?_) (fun d S3 hr=>?_)
         rotate_left
         ·rcases hr.met with⟨hn,ai,ah⟩|⟨_,h5,_⟩
          ·cases ai
           subst ah
           rw[hn]at hR
           exact finP (U':=U2) (by rw[hR];exact⟨rfl,hB _ _ am⟩)
          ·cases h5
         rcases hr.met with⟨_,h5,_⟩|⟨hn,ai,ah,ba,a8⟩
         ·cases h5
         cases ai
         subst ah
         rw[hn]at hR
         simp only at hR
         have aw:=ap i12 (.map (eIL (putM ((q:Int)+1) ⟨st-take+give,en-1⟩ m))) (.cells [dI (st-take+give),dI (en-1)]) n12 rfl U2 aa
         refine gf aR ?_ [] [12]
         exact⟨q+1,putM ((q:Int)+1) ⟨st-take+give,en-1⟩ m,s2,U2.set im2 (.map (eIL (putM ((q:Int)+1) ⟨st-take+give,en-1⟩ m))),⟨by omega,by omega,hI im2 ak _ _ _ am,w6 .., fun j o h1 h2=>by rw[w7 _ _ (nim j o h1)];exact aA j o h1 h2,hR,Kg (n:=q+1) aP (by simp only;omega) (by omega)⟩,td1,wkR⟩
       ·rw [if_neg (bu.2 (by omega)),if_neg aQ,if_neg bd,if_neg aR] at hR
        by_cases bc:x.op=18
        ·rw[if_pos bc]at hR
         have ce:(q:Int)<x.a/\x.a<c.ins.length:=by unfold fitsQ at aM;rw[bc]at aM;simpa using aM
         obtain⟨xa,aY⟩:∃xa:Nat,x.a=(xa:Int):=⟨x.a.toNat,by omega⟩
         refine gf (gi aj (gi aF (gi aE (gi ag bc)))) ?_ [] [12]
         refine yldW (hy q ⟨st,en⟩ U1 s1 hq aC) (fun d U2 hr=>?_) (fun d U2 hr=>?_)
         rotate_left
         ·obtain⟨hn,rfl,hb⟩:=hr.pan
          rw[hn]at hR
          have aq:By p c ⟨(q0:Int),env,next⟩ step s0=none:=by first|exact hR|(rw[hR];split<;>rfl)
          exact finP (U':=U2) (by rw[aq];exact⟨rfl,hb⟩)
         obtain⟨s2,ax,rfl,am,ae⟩:=hr.ret
         rw[ax]at hR
         have hm2:=ae im2 _ aj (ht im2 ak)
         have aA:∀j o,O j=some o->¬touch j->U2 j=some o:=fun j o h1 h2=>ae j o (aH j o h1 h2) h2
         refine gf (gi ag bc) ?_ [] [12]
         refine newV (fun i12 aa=>?_)
         have n12:im2≠i12:=fun e=>by rw[<-e,hm2]at aa;cases aa
         refine gf (gi ag bc) ?_ [] [12]
         refine A7 (Cx p c im im2 (m) (x.a) ⟨st-take+give,en⟩ _ hc (by rw[w7 _ _ n12];exact hm2)) (fun d S3 hr=>?_) (fun d S3 hr=>?_)
         rotate_left
         ·rcases hr.met with⟨hn,ai,ah⟩|⟨_,h5,_⟩
          ·cases ai
           subst ah
           rw[hn]at hR
           exact finP (U':=U2) (by rw[hR];exact⟨rfl,hB _ _ am⟩)
          ·cases h5
         rcases hr.met with⟨_,h5,_⟩|⟨hn,ai,ah,ba,a8⟩
         ·cases h5
         cases ai
         subst ah
         rw[hn]at hR
         simp only at hR
         have aw:=ap i12 (.map (eIL (putM x.a ⟨st-take+give,en⟩ m))) (.cells [dI (st-take+give),dI en]) n12 rfl U2 aa
         refine gf bc ?_ [] [12]
         exact⟨q+1,putM x.a ⟨st-take+give,en⟩ m,s2,U2.set im2 (.map (eIL (putM x.a ⟨st-take+give,en⟩ m))),⟨by omega,by omega,hI im2 ak _ _ _ am,w6 .., fun j o h1 h2=>by rw[w7 _ _ (nim j o h1)];exact aA j o h1 h2,hR,Kg (n:=xa) aP (by simp only;omega) aY⟩,td1,wkR⟩
        ·rw [if_neg bc] at hR
         by_cases aX:x.op=17
         ·rw[if_pos aX]at hR
          have ce:(q:Int)<x.a/\x.a<c.ins.length:=by unfold fitsQ at aM;rw[aX]at aM;simpa using aM
          obtain⟨xa,aY⟩:∃xa:Nat,x.a=(xa:Int):=⟨x.a.toNat,by omega⟩
          refine gf (gi aj (gi aF (gi aE (gi ag aX)))) ?_ [] [12]
          refine yldW (hy q ⟨st,en⟩ U1 s1 hq aC) (fun d U2 hr=>?_) (fun d U2 hr=>?_)
          rotate_left
          ·obtain⟨hn,rfl,hb⟩:=hr.pan
           rw[hn]at hR
           have aq:By p c ⟨(q0:Int),env,next⟩ step s0=none:=by first|exact hR|(rw[hR];split<;>rfl)
           exact finP (U':=U2) (by rw[aq];exact⟨rfl,hb⟩)
          obtain⟨s2,ax,rfl,am,ae⟩:=hr.ret
          rw[ax]at hR
          have hm2:=ae im2 _ aj (ht im2 ak)
          have aA:∀j o,O j=some o->¬touch j->U2 j=some o:=fun j o h1 h2=>ae j o (aH j o h1 h2) h2
          refine gf (gi ag aX) ?_ [] [12]
          refine newV (fun i12 aa=>?_)
          have n12:im2≠i12:=fun e=>by rw[<-e,hm2]at aa;cases aa
          refine gf (gi ag aX) ?_ [] [12]
          refine A7 (Cx p c im im2 (m) (x.a) ⟨st-take+give,en⟩ _ hc (by rw[w7 _ _ n12];exact hm2)) (fun d S3 hr=>?_) (fun d S3 hr=>?_)
          rotate_left
          ·rcases hr.met with⟨hn,ai,ah⟩|⟨_,h5,_⟩
           ·cases ai
            subst ah
            rw[hn]at hR
            exact finP (U':=U2) (by rw[hR];exact⟨rfl,hB _ _ am⟩)
           ·cases h5
          rcases hr.met with⟨_,h5,_⟩|⟨hn,ai,ah,ba,a8⟩
          ·cases h5
          cases ai
          subst ah
          rw[hn]at hR
          simp only at hR
          have bR:=ap i12 (.map (eIL (putM x.a ⟨st-take+give,en⟩ m))) (.cells [dI (st-take+give),dI en]) n12 rfl U2 aa
          have cK:=hI im2 ak U2 s2 (.map (eIL (putM x.a ⟨st-take+give,en⟩ m))) am
          refine gf aX ?_ [] [12]
          refine A7 (Cx p c im im2 (putM x.a ⟨st-take+give,en⟩ m) ((q:Int)+1) ⟨st-take+give,en⟩ _ hc (w6 ..)) (fun d S3 hr=>?_) (fun d S3 hr=>?_)
          rotate_left
          ·rcases hr.met with⟨hn,ai,ah⟩|⟨_,h5,_⟩
           ·cases ai
            subst ah
            rw[hn]at hR
            exact finP (U':=U2.set im2 (.map (eIL (putM x.a ⟨st-take+give,en⟩ m)))) (by rw[hR];exact⟨rfl,hB _ _ cK⟩)
           ·cases h5
          rcases hr.met with⟨_,h5,_⟩|⟨hn,ai,ah,ba,a8⟩
          ·cases h5
          cases ai
          subst ah
          rw[hn]at hR
          simp only at hR
          rw[Sig.set_set]
          have aw:=ap i12 (.map (eIL (putM ((q:Int)+1) ⟨st-take+give,en⟩ (putM x.a ⟨st-take+give,en⟩ m)))) (.cells [dI (st-take+give),dI en]) n12 rfl U2 aa
          refine gf aX ?_ [] [12]
          exact⟨q+1,putM ((q:Int)+1) ⟨st-take+give,en⟩ (putM x.a ⟨st-take+give,en⟩ m),s2,U2.set im2 (.map (eIL (putM ((q:Int)+1) ⟨st-take+give,en⟩ (putM x.a ⟨st-take+give,en⟩ m)))),⟨by omega,by omega,hI im2 ak _ _ _ am,w6 .., fun j o h1 h2=>by rw[w7 _ _ (nim j o h1)];exact aA j o h1 h2,hR,bd_put2 (n:=q+1) (k:=xa) aP (by simp only;omega) (by omega) aY⟩,td1,wkR⟩
         ·rw [if_neg aX] at hR
          by_cases h3:x.op=3
          ·have e2':=e2 h3
           refine gf (gi aj (gi aF (gi aE (gi ag h3)))) ?_ [] [12]
           refine yldW (hy q ⟨st,en⟩ U1 s1 hq aC) (fun d U2 hr=>?_) (fun d U2 hr=>?_)
           rotate_left
           ·obtain⟨hn,rfl,hb⟩:=hr.pan
            rw[hn]at hR
            have aq:By p c ⟨(q0:Int),env,next⟩ step s0=none:=by first|exact hR|(rw[hR];split<;>rfl)
            exact finP (U':=U2) (by rw[aq];exact⟨rfl,hb⟩)
           obtain⟨s2,ax,rfl,am,ae⟩:=hr.ret
           rw[ax]at hR
           have hm2:=ae im2 _ aj (ht im2 ak)
           have aA:∀j o,O j=some o->¬touch j->U2 j=some o:=fun j o h1 h2=>ae j o (aH j o h1 h2) h2
           refine gf (gi ag h3) ?_ [] [12]
           refine newV (fun i12 aa=>?_)
           have n12:im2≠i12:=fun e=>by rw[<-e,hm2]at aa;cases aa
           refine gf (gi ag h3) ?_ [] [12]
           refine A7 (Cx p c im im2 (m) ((q:Int)+1) ⟨st-take+give,en⟩ _ hc (by rw[w7 _ _ n12];exact hm2)) (fun d S3 hr=>?_) (fun d S3 hr=>?_)
           rotate_left
           ·rcases hr.met with⟨hn,ai,ah⟩|⟨_,h5,_⟩
            ·cases ai
             subst ah
             rw[hn]at hR
             exact finP (U':=U2) (by rw[hR];exact⟨rfl,hB _ _ am⟩)
            ·cases h5
           rcases hr.met with⟨_,h5,_⟩|⟨hn,ai,ah,ba,a8⟩
           ·cases h5
           cases ai
           subst ah
           rw[hn]at hR
           simp only at hR
           have aw:=ap i12 (.map (eIL (putM ((q:Int)+1) ⟨st-take+give,en⟩ m))) (.cells [dI (st-take+give),dI (en)]) n12 rfl U2 aa
           refine gf h3 ?_ [] [12]
           exact⟨q+1,putM ((q:Int)+1) ⟨st-take+give,en⟩ m,s2,U2.set im2 (.map (eIL (putM ((q:Int)+1) ⟨st-take+give,en⟩ m))),⟨by omega,by omega,hI im2 ak _ _ _ am,w6 .., fun j o h1 h2=>by rw[w7 _ _ (nim j o h1)];exact aA j o h1 h2,hR,Kg (n:=q+1) aP (by simp only;omega) (by omega)⟩,td1,wkR⟩
          ·by_cases bt:x.op=20
           ·have e3':=e3 bt
            refine gf (gi aj (gi aF (gi aE (gi ag (gi bt e3'))))) ?_ [] [12]
            refine yldW (hy q ⟨st,en⟩ U1 s1 hq aC) (fun d U2 hr=>?_) (fun d U2 hr=>?_)
            rotate_left
            ·obtain⟨hn,rfl,hb⟩:=hr.pan
             rw[hn]at hR
             have aq:By p c ⟨(q0:Int),env,next⟩ step s0=none:=by first|exact hR|(rw[hR];split<;>rfl)
             exact finP (U':=U2) (by rw[aq];exact⟨rfl,hb⟩)
            obtain⟨s2,ax,rfl,am,ae⟩:=hr.ret
            rw[ax]at hR
            have hm2:=ae im2 _ aj (ht im2 ak)
            have aA:∀j o,O j=some o->¬touch j->U2 j=some o:=fun j o h1 h2=>ae j o (aH j o h1 h2) h2
            refine gf (gi ag (gi bt e3')) ?_ [] [12]
            refine newV (fun i12 aa=>?_)
            have n12:im2≠i12:=fun e=>by rw[<-e,hm2]at aa;cases aa
            refine gf (gi ag (gi bt e3')) ?_ [] [12]
            refine A7 (Cx p c im im2 (m) ((q:Int)+1) ⟨st-take+give,en⟩ _ hc (by rw[w7 _ _ n12];exact hm2)) (fun d S3 hr=>?_) (fun d S3 hr=>?_)
            rotate_left
            ·rcases hr.met with⟨hn,ai,ah⟩|⟨_,h5,_⟩
             ·cases ai
              subst ah
              rw[hn]at hR
              exact finP (U':=U2) (by rw[hR];exact⟨rfl,hB _ _ am⟩)
             ·cases h5
            rcases hr.met with⟨_,h5,_⟩|⟨hn,ai,ah,ba,a8⟩
            ·cases h5
            cases ai
            subst ah
            rw[hn]at hR
            simp only at hR
            have aw:=ap i12 (.map (eIL (putM ((q:Int)+1) ⟨st-take+give,en⟩ m))) (.cells [dI (st-take+give),dI (en)]) n12 rfl U2 aa
            refine gf (gi bt e3') ?_ [] [12]
            exact⟨q+1,putM ((q:Int)+1) ⟨st-take+give,en⟩ m,s2,U2.set im2 (.map (eIL (putM ((q:Int)+1) ⟨st-take+give,en⟩ m))),⟨by omega,by omega,hI im2 ak _ _ _ am,w6 .., fun j o h1 h2=>by rw[w7 _ _ (nim j o h1)];exact aA j o h1 h2,hR,Kg (n:=q+1) aP (by simp only;omega) (by omega)⟩,td1,wkR⟩
           ·skip
            refine gf (gi aj (gi aF (gi aE ag))) ?_ [] [12]
            refine yldW (hy q ⟨st,en⟩ U1 s1 hq aC) (fun d U2 hr=>?_) (fun d U2 hr=>?_)
            rotate_left
            ·obtain⟨hn,rfl,hb⟩:=hr.pan
             rw[hn]at hR
             have aq:By p c ⟨(q0:Int),env,next⟩ step s0=none:=by first|exact hR|(rw[hR];split<;>rfl)
             exact finP (U':=U2) (by rw[aq];exact⟨rfl,hb⟩)
            obtain⟨s2,ax,rfl,am,ae⟩:=hr.ret
            rw[ax]at hR
            have hm2:=ae im2 _ aj (ht im2 ak)
            have aA:∀j o,O j=some o->¬touch j->U2 j=some o:=fun j o h1 h2=>ae j o (aH j o h1 h2) h2
            refine gf ag ?_ [] [12]
            refine newV (fun i12 aa=>?_)
            have n12:im2≠i12:=fun e=>by rw[<-e,hm2]at aa;cases aa
            refine gf ag ?_ [] [12]
            refine A7 (Cx p c im im2 (m) ((q:Int)+1) ⟨st-take+give,en⟩ _ hc (by rw[w7 _ _ n12];exact hm2)) (fun d S3 hr=>?_) (fun d S3 hr=>?_)
            rotate_left
            ·rcases hr.met with⟨hn,ai,ah⟩|⟨_,h5,_⟩
             ·cases ai
              subst ah
              rw[hn]at hR
              exact finP (U':=U2) (by rw[hR];exact⟨rfl,hB _ _ am⟩)
             ·cases h5
            rcases hr.met with⟨_,h5,_⟩|⟨hn,ai,ah,ba,a8⟩
            ·cases h5
            cases ai
            subst ah
            rw[hn]at hR
            simp only at hR
            have aw:=ap i12 (.map (eIL (putM ((q:Int)+1) ⟨st-take+give,en⟩ m))) (.cells [dI (st-take+give),dI (en)]) n12 rfl U2 aa
            refine gz ?_ [] [12]
            exact⟨q+1,putM ((q:Int)+1) ⟨st-take+give,en⟩ m,s2,U2.set im2 (.map (eIL (putM ((q:Int)+1) ⟨st-take+give,en⟩ m))),⟨by omega,by omega,hI im2 ak _ _ _ am,w6 .., fun j o h1 h2=>by rw[w7 _ _ (nim j o h1)];exact aA j o h1 h2,hR,Kg (n:=q+1) aP (by simp only;omega) (by omega)⟩,td1,wkR⟩
  ·
   have e0:c.ins.length-q=0:=by omega
   rw[e0,FD]at hR
   refine gz ?_ [] [12]
   exact DZ (U':=U1) (by rw[hR];exact⟨rfl,aC,aH⟩)
 ·rcases hr.met with⟨hn,ai,ah⟩|⟨_,h5,_⟩
  ·cases ai
   subst ah
   have aq:By p c ⟨pos,env,next⟩ step s0=none:=by
    unfold By
    refine if_pos ?_
    unfold BJ at hn
    split at hn
    ·rename_i h
     rcases h with h|h|h
     ·exact .inl h
     ·exact .inr h
     ·exact absurd rfl h.1
    ·cases hn
   exact finP (U':=O) (by rw[aq];exact⟨rfl,hB _ _ hG⟩) ((Sub.refl _).set ak)
  ·cases h5
@[simp] theorem cSt_len(s:CSt):(cSt s).length=3:=rfl
@[simp] theorem cSt_take(s:CSt):List.take 3 (cSt s)=cSt s:=rfl
@[simp] theorem mem_cSt(y:D)(s:CSt):y∈cSt s ↔ y=dI s.pos\/y=dI s.env\/y=.bool s.next:=by simp[cSt]
theorem T7(p:BProg)(c:CProg)(im:Nat)(s:CSt)(O:Sig):DCall prog 100 [cChk p c im,.agg (cSt s)] O (rS (.func (.func 169) [] [.cptr [cChk p c im] 0,.cptr (cSt s) 0]) O):=by
 refine en func100 ntmps100 ?_
 refine gz ?_
 exact fe1 trivial
@[reducible,instance] def a100:=fun p c im s O=>ah0 (@T7 p c im s O)
theorem Ln: ∀(l:List Int) (n m:Int),G4 n l=some m->n<=m/\m<=n+l.length
 |[],n,m,h=>by rw[G4]at h;cases h;simp
 | s::r,n,m,h=>by
  rw[G4]at h
  split at h
  ·have:=Ln r _ _ h
   simp only[List.length_cons];omega
  ·cases h
theorem K8: ∀(cs:List BClass) (n m:Int),C6 n cs=some m->n<=m/\m<=n+4*cs.length
 |[],n,m,h=>by rw[C6]at h;cases h;simp
 | c::r,n,m,h=>by
  rw[C6]at h
  split at h
  ·cases h
  ·split at h
   ·cases h
   ·rename_i m1 h1
    have:=Ln _ _ _ h1
    have:=K8 r _ _ h
    simp only[List.length_cons];omega
theorem U0{p:BProg}(h:okP p=true):0<=p.slots/\p.slots<=40:=by
 have h:=Eh h
 unfold AA at h
 simp only[Bool.and_eq_true,decide_eq_true_eq]at h
 obtain⟨cZ,h⟩:=h
 split at h
 ·cases h
 ·rename_i n hn
  simp only[Bool.and_eq_true,decide_eq_true_eq]at h
  have:=K8 _ _ _ hn
  omega
theorem LD(p:BProg): ∀(l:List BMeth) (s s':List Int),Cm p l s=some s'->∀m∈l,0<=m.gen/\m.gen<p.gens.length
 |[],_,_,_,m,hm=>by cases hm
 | a::r,s,s',h,m,hm=>by
  rw[Cm]at h
  split at h
  ·rename_i bT
   rcases List.mem_cons.1 hm with rfl|hm
   ·simp only[Ik,Bool.and_eq_true,decide_eq_true_eq]at bT
    exact bT.1.1.2
   ·split at h
    ·cases h
    ·exact LD p r _ _ h m hm
  ·cases h
theorem gens_in{p:BProg}(h:okP p=true): ∀m∈p.methods,0<=m.gen/\m.gen<p.gens.length:=by
 unfold okP Dr at h
 split at h
 ·cases hm:Cm p p.methods (List.replicate p.nodes.length (-1))with
  |none=>rw[hm]at h;simp at h
  |some s=>exact LD p _ _ _ hm
 ·cases h
def L6(p:BProg)(c:CProg):Option MetL:=if C1 p c.ins.length c.ins 0 then HH p c else none
def LkR(p:BProg)(c:CProg)(im:Nat)(O:Sig)(x:DE)(U':Sig):Prop:=Keep (· = im) O U'/\match L6 p c with
 |none=>x=.panic unfC
 |some W=>x=.ret (.tup [])/\U' im=some (.map (eIL W))
theorem finMN{P:Program}{n:Nat}{fn:Func}{R:DE->Sig->Prop}{γ:Fr}{O U':Sig}{d d':D}(js:List Nat)(hR:R (.ret d') U')(hU:Sub U' (dels js O))(hn:js.Nodup:=by simp)(hd:∀j∈js,O j=some .defs:=by simp)(h:resD fn γ=some d:=by exact tdR)(hw:WkD d d'): ∃s',Wk P n ⟨γ,O,js.map .coll⟩ s'/\PP P n fn (Weak R) .normal s':=
 ⟨_,Wk.refl _ _ _,js,rfl,hn,hd,d,CQ h,.ret d',U',hw,hU,hR⟩
theorem UD (p:BProg) (c:CProg) (im:Nat) (O:Sig) (hp:p.wt<=1073741824) (hk:okP p=true) (hc:c.ins.length<=300) (aB:c.starts.length=p.methods.length) (hm:O im=some (.map (eIL []))):DCall prog 98 [.cptr (cCPg c) 0, .cptr [cChk p c im] 0, .cptr (Ai p) 0] O (LkR p c im O):=by
 obtain⟨p1,p2,p3,p4,p5,p6,p7⟩:=p.wt_le
 have cP:=U0 hk
 have b6:=H6 hk
 obtain⟨g1,g2,g3,g4,g5⟩:=H5 hk
 have cr:=gens_in hk
 refine Es func98 rfl (by decide) ntmps98 (by simp) ?_
 refine gz ?_ o98
 refine Cg [0,1,2,5,6,7,8,10,11,12,13,14,16,17,28,29,30,31,32,33,34,35,36,37,38,39,40,41,42,43,44,45,46,47,48,49,50,51,52,53,54,55,56,57,58,59,60,61,62,63,64,65,66,67,68,69,70,71,72,73,74,75,76,77,78,79,80,81,82,83,84,85,86,87,88,89,90,91,92,93,94,95,96,97,98,99,100,101,102,103,104,105,106,107,108,109,110,111,112] (fun (q:Nat)=>q<=c.ins.length/\C1 p c.ins.length c.ins 0=C1 p c.ins.length (c.ins.drop q) q) (fun q=>[(18,dI q)]) (fun _=>O) (fun q=>c.ins.length-q) (0) (by exact⟨by omega,rfl⟩) (fun q hI=>?_)
 obtain⟨hq,hA⟩:=hI
 by_cases bh:q<c.ins.length
 ·rw[Ab bh,C1]at hA
  generalize hx:c.ins[q]=x at*
  repeat' first|refine gf hx ?_ o98|apply gy<;>intro hh
  ·rw[hh,Bool.true_and]at hA
   exact⟨q+1,⟨by omega,hA⟩,td1,wkR⟩
  ·rw[hh,Bool.false_and]at hA
   have hL:L6 p c=none:=by unfold L6;rw[hA];rfl
   exact finMP [] (U':=O) ⟨Keep.refl _ _,by rw[hL]⟩ (Sub.refl _)
 ·rw [Aj bh,C1] at hA
  have cb:L6 p c=HH p c:=by unfold L6;rw[hA];rfl
  have bB:stsQ p c=⟨c.main,0,false⟩::List.zipWith (DA p) p.methods c.starts:=rfl
  refine gz ?_ o98
  clear bh hq
  refine Pb [0,1,2,10,11,12,13,14,33,34,68,69,70,71,72,73,74,75,76,77,78,79,80,81,82,83,84,85,86,87,88,89,90,91,92,93,94,95,96,97,98,99,100,101,102,103,104,105,106,107,108,109,110,111,112] (fun (q:Nat) (out:List CSt) (o:Own) (U1:Sig)=>q<=c.starts.length/\out.length=q+1/\out++List.zipWith (DA p) (p.methods.drop q) (c.starts.drop q)=stsQ p c/\RowR 3 O U1 (out.map cSt) o) (fun q out o _=>[(35,dI q),(5,.slice (out.map cSt) o)]) (fun _ _ _ U1=>U1) (fun q _ _ _=>c.starts.length-q) (0) ([⟨c.main,0,false⟩]) (.clip) (O) (by exact⟨by omega,rfl,rfl,.inl ⟨rfl,rfl⟩⟩) (fun q out o U1 hI=>?_)
  obtain⟨hq,bC,hO,bp⟩:=hI
  by_cases bh:q<c.starts.length
  ·have bS:q<p.methods.length:=by omega
   rw[Ab bh,Ab bS,List.zipWith_cons_cons]at hO
   have cX:=cr _ (List.getElem_mem bS)
   generalize bX:p.methods[q]=m at*
   have cu:p.gens.getD m.gen.toNat 0=p.gens[m.gen.toNat]'(by omega):=by rw[List.getD_eq_getElem?_getD,List.getElem?_eq_getElem (by omega)];rfl
   have bU:LA m=(decide (m.kind=1)||decide (m.kind=4)):=rfl
   have bW:DA p m c.starts[q]=⟨c.starts[q],p.gens[m.gen.toNat]'(by omega),LA m⟩:=by unfold DA;rw[cu]
   refine gf bX ?_ (delO 10 o98)
   refine Ij (id:=10) [0,1,2,3,4,5,6,7,8,9,10,11,12,13,14,15,16,17,18,19,20,21] [20] O bp.sub ?_
   repeat' first|refine gf bX ?_ o98|apply gy<;>intro hh
   ·have bb:cSt (DA p m c.starts[q])=[dI c.starts[q],dI (p.gens[m.gen.toNat]'(by omega)),.bool true]:=by rw[bW,bU];simp[cSt,hh]
    refine Vy (sz:=3) bp (Sub.refl _) (fun j hj=>?_)
    have cf:WkD (.slice (out.map cSt++[[dI c.starts[q],dI (p.gens[m.gen.toNat]'(by omega)),.bool true]]) (.tag j)) (.slice ((out++[DA p m c.starts[q]]).map cSt) (.tag j)):=CB (by rw[<-bb];simp)
    refine gz ?_ o98
    exact⟨q+1,out++[DA p m c.starts[q]],.tag j,O.set j (.tail 3 ((out++[DA p m c.starts[q]]).map cSt).length),⟨by omega,by rw[List.length_append,bC];rfl,by rw[List.append_assoc];exact hO,.inr ⟨j,hj,rfl,rfl⟩⟩,td1,wkR⟩
   ·have bb:cSt (DA p m c.starts[q])=[dI c.starts[q],dI (p.gens[m.gen.toNat]'(by omega)),.bool (decide (m.kind=4))]:=by rw[bW,bU];simp[cSt,hh]
    refine Vy (sz:=3) bp (Sub.refl _) (fun j hj=>?_)
    have cf:WkD (.slice (out.map cSt++[[dI c.starts[q],dI (p.gens[m.gen.toNat]'(by omega)),.bool (decide (m.kind=4))]]) (.tag j)) (.slice ((out++[DA p m c.starts[q]]).map cSt) (.tag j)):=CB (by rw[<-bb];simp)
    refine gz ?_ o98
    exact⟨q+1,out++[DA p m c.starts[q]],.tag j,O.set j (.tail 3 ((out++[DA p m c.starts[q]]).map cSt).length),⟨by omega,by rw[List.length_append,bC];rfl,by rw[List.append_assoc];exact hO,.inr ⟨j,hj,rfl,rfl⟩⟩,td1,wkR⟩
  ·rw [List.drop_eq_nil_of_le (by omega),List.drop_eq_nil_of_le (by omega),List.zipWith_nil_left,List.append_nil] at hO
   have aj:U1 im=some (.map (eIL [])):=bp.sub _ _ hm
   have cF:Sub O U1:=bp.sub
   have ck:out.length<=17:=by omega
   have bH:∀s∈out,0<=s.env/\s.env<=1000:=fun s hs=>by
    rw[hO,bB]at hs
    rcases List.mem_cons.1 hs with rfl|hs
    ·simp
    ·obtain⟨k,au,rfl⟩:=List.getElem_of_mem hs
     rw[List.getElem_zipWith]
     have:=b6 (p.methods[k]'(by simp at au;omega)).gen.toNat
     show 0<=p.gens.getD _ 0/\p.gens.getD _ 0<=1000
     omega
   have bq:MonoG (fun (O:Sig) (W:MetL)=>O im=some (.map (eIL W))):=fun O U' s hg hj=>hj _ _ hg rfl
   refine gz ?_ o98
   refine loopD4 [0,1,68,69,77,78,103,104,105,106,107,108,109,110,111,112] (fun (j:Nat) (W:MetL) (U2:Sig) (js:List Nat)=>j<=out.length/\allL p c out []=allL p c (out.drop j) W/\U2 im=some (.map (eIL W))/\Keep (· = im) O U2/\js.Nodup/\(∀i∈js,O i=none/\U2 i=some .defs)) (fun j _ _ _=>[(70,dI j)]) (fun _ _ U2 _=>U2) (fun _ _ _ js=>js.map .coll) (fun j _ _ _=>out.length-j) (0) ([]) (U1) ([]) (by exact⟨by omega,rfl,aj,fun k x hk _=>cF _ _ hk,by simp,by simp⟩) (fun j W U2 js hI=>?_)
   obtain⟨hj,hR,hm2,ae,bw,aV⟩:=hI
   by_cases bD:j<out.length
   ·rw [Ab bD,allL] at hR
    have cy:=bH _ (List.getElem_mem bD)
    generalize hs:out[j]=s at*
    refine gf hs ?_ o98
    have bl:∀i:Nat,i=im->U2 i≠none:=fun i hi=>by rw[hi,hm2];simp
    refine rangeG unfC (fun (O:Sig) (W:MetL)=>O im=some (.map (eIL W))) (· = im) (· = im) (By p c s EX W) W (bq.indep _) bq.fresh hm2 bl bl rfl (fun l did LO SL bz hd hl bP cY bA cm=>?_) (fun did W' U' ho aG bI cM bk=>?_) (fun did U' ho aG bI bk=>?_)
    ·have cJ:SL l=some LO:=bA.1
     have cH:SL im=some (.map (eIL W)):=bA.2.1
     refine SI p c im s l _ _ _ EX hp hc hA b6 cy (fun k lv S3 W3 co aI=>?_) SL W bA (fun a ha S3 W3 o aI=>?_) cm (fun S3 W3 aI=>aI.2.2)
     ·have bj:(S3.set l (CA LO)) im=some (.map (eIL W3)):=aI.busy bz (bq.indep _) hl
      obtain⟨la,lz⟩:=lv
      have bM:∀x,Keep (· = im) (S3.set l (CA LO)) ((S3.set l (CA LO)).set im x):=fun x j y hj hn=>by rw[w7 _ _ hn];exact hj
      have cz:=fun (aB:EX k ⟨la,lz⟩ W3=some (putM (k:Int) ⟨la,lz⟩ W3))=>aB
      refine Np bz aI.1 ?_
      refine gz ?_ o98
      refine⟨aI.1,?_⟩
      have cd:=aI.bad hl (fun j h=>h) (Keep.refl (· = im) (S3.set l (CA LO)))
      generalize ca:S3.set l (CA LO)=Sb at bj bM cd⊢
      cases hh:hasM (k:Int) W3 with
      |false=>
       have aB:EX k ⟨la,lz⟩ W3=some (putM (k:Int) ⟨la,lz⟩ W3):=by unfold EX;exact if_neg fun h=>by rw[hh]at h;cases h.1
       refine gf (gi bj hh) ?_ o98
       exact endRN aB bz (bq.indep _) aI bP hl (w6 ..) (by rw[ca];exact bM _)
      | true =>
       refine gf (gi bj hh) ?_ o98
       refine eqlS _ (decide (getM ⟨0,0⟩ (k:Int) W3=(⟨la,lz⟩:CLev))) Te R9 (eqLev _ _) ?_
       by_cases he:getM ⟨0,0⟩ (k:Int) W3=(⟨la,lz⟩:CLev)
       ·have aB:EX k ⟨la,lz⟩ W3=some (putM (k:Int) ⟨la,lz⟩ W3):=by unfold EX;exact if_neg fun h=>h.2 he
        refine gf (gi bj he) ?_ o98
        exact endRN aB bz (bq.indep _) aI bP hl (w6 ..) (by rw[ca];exact bM _)
       ·have aB:EX k ⟨la,lz⟩ W3=none:=by unfold EX;exact if_pos ⟨hh,he⟩
        refine gf (gi bj he) ?_ o98
        exact endRP aB cd
     ·have e1:l≠a:=fun e=>by rw[<-e,cJ]at ha;cases ha
      have e2:im≠a:=fun e=>by rw[<-e,cH]at ha;cases ha
      refine⟨by rw[w7 _ _ e1];exact aI.1,by show(S3.set a o) im=_;rw[w7 _ _ e2];exact aI.2.1,fun j x hj hn=>?_⟩
      rw[w7 _ _ fun e=>?_]
      ·exact aI.2.2 j x hj hn
      ·have:=bA.2.2 j x hj hn
       rw[e,ha]at this;cases this
    ·rw [ho] at hR
     simp only at hR
     refine gz ?_ o98
     have bF:Keep (· = im) O U':=fun k x au hn=>(bk k x (ae k x au hn) hn).1
     have bE:(did::js).Nodup:=List.nodup_cons.2 ⟨fun aS=>(by rw[(aV did aS).2]at aG;cases aG),bw⟩
     have bx:∀i∈did::js,O i=none/\U' i=some .defs:=fun i hi=>by
      rcases List.mem_cons.1 hi with rfl|hi
      ·refine⟨?_,bI⟩
       cases bJ:O i with
       |none=>rfl
       |some x=>
        by_cases e:i=im
        ·rw[e,hm2]at aG;cases aG
        ·rw[ae _ _ bJ e]at aG;cases aG
      ·obtain⟨h1,h2⟩:=aV i hi
       exact⟨h1,(bk i _ h2 fun e=>by rw[e,hm2]at h2;cases h2).1⟩
     exact⟨j+1,W',U',did::js,⟨by omega,hR,cM,bF,bE,bx⟩,td1,wkR⟩
    ·rw [ho] at hR
     simp only at hR
     have hL:L6 p c=none:=by rw[cb];unfold HH;rw[<-hO,hR]
     have bF:Keep (· = im) O U':=fun k x au hn=>(bk k x (ae k x au hn) hn).1
     have bE:(did::js).Nodup:=List.nodup_cons.2 ⟨fun aS=>(by rw[(aV did aS).2]at aG;cases aG),bw⟩
     have bx:∀i∈did::js,O i=none/\U' i=some .defs:=fun i hi=>by
      rcases List.mem_cons.1 hi with rfl|hi
      ·refine⟨?_,bI⟩
       cases bJ:O i with
       |none=>rfl
       |some x=>
        by_cases e:i=im
        ·rw[e,hm2]at aG;cases aG
        ·rw[ae _ _ bJ e]at aG;cases aG
      ·obtain⟨h1,h2⟩:=aV i hi
       exact⟨h1,(bk i _ h2 fun e=>by rw[e,hm2]at h2;cases h2).1⟩
     exact finMP (did::js) (U':=dels (did::js) U') ⟨fun k x au hn=>by
      rw[KX _ U' k fun aS=>by rw[(bx k aS).1]at au;cases au];exact bF k x au hn,by rw[hL]⟩ (Sub.refl _) bE fun i hi=>(bx i hi).2
   ·rw[Aj bD,allL]at hR
    have hlen:(eIL W).length=W.length:=by unfold eIL eM;simp
    have hw:L6 p c=if W.length=c.ins.length then some W else none:=by rw[cb];unfold HH;rw[<-hO,hR]
    have b7:Keep (· = im) O (dels js U2):=fun k x au hn=>by
     rw[KX _ U2 k fun aS=>by rw[(aV k aS).1]at au;cases au];exact ae k x au hn
    have cD:(dels js U2) im=some (.map (eIL W)):=by
     rw[KX _ U2 im fun aS=>by rw[(aV im aS).1]at hm;cases hm];exact hm2
    by_cases he:W.length=c.ins.length
    ·rw[if_pos he]at hw
     refine gf (gi hm2 (gi hlen he)) ?_ o98
     exact finMN js (U':=dels js U2) (d':=.tup []) ⟨b7,by rw[hw];exact⟨rfl,cD⟩⟩ (Sub.refl _) bw (fun i hi=>(aV i hi).2) (hw:=A8 _)
    ·rw[if_neg he]at hw
     refine gf (gi hm2 (gi hlen he)) ?_ o98
     exact finMP js (U':=dels js U2) ⟨b7,by rw[hw]⟩ (Sub.refl _) bw fun i hi=>(aV i hi).2
def LokR(p:BProg)(c:CProg)(O:Sig)(x:DE)(U':Sig):Prop:=match C5 p c with
 |none=>x=.ret .nilp/\U'=O
 |some W=> ∃im,O im=none/\x=.ret (cChk p c im)/\U'=O.set im (.map (eIL W))
theorem LY(p:BProg)(c:CProg)(O:Sig)(hp:p.wt<=1073741824)(b9:c.ins.length<=1073741824)(b8:c.starts.length<=1073741824):DCall prog 44 [.agg (Ai p),.agg (cCPg c)] O (LokR p c O):=by
 obtain⟨p1,p2,p3,p4,p5,p6,p7⟩:=p.wt_le
 refine en func44 ntmps44 ?_
 by_cases aL:okP p=true/\c.ins.length<=300/\c.starts.length=p.methods.length
 ·obtain⟨hk,br,aB⟩:=aL
  have hL:C5 p c=L6 p c:=by
   unfold C5 L6
   rw[hk,decide_eq_true br,decide_eq_true aB]
   simp
  refine gf (gi hk aB) ?_
  refine newIL (fun im ak=>?_)
  refine gf (gi hk aB) ?_
  generalize bK:O.set im (.map (eIL []))=S0
  have aU:S0 im=some (.map (eIL [])):=by rw[<-bK,w6]
  refine A7 (UK 98 [.cptr (cCPg c) 0,.cptr [cChk p c im] 0,.cptr (Ai p) 0] S0 (fun U1=>LkR p c im U1) (fun i hi=>UD p c im _ hp hk br aB (by rw[w7 _ _ fun e=>by rw[<-e,aU]at hi;cases hi];exact aU)) (fun U1 d U2 h=>?_) (fun i U2 x hi h=>h.1 i _ (w6 ..) (fun e=>by rw[e,aU]at hi;cases hi))) (fun d U' hr=>?_) (fun d U' hr=>?_)
  ·obtain⟨_,h⟩:=h
   split at h
   ·simpa using h
   ·exact absurd h.1 (by simp)
  ·obtain⟨i,U2,hi,rfl,hr⟩:=hr
   have cq:im≠i:=fun e=>by rw[<-e,aU]at hi;cases hi
   have aw:∀(S3:Sig) (W:MetL),Keep (· = im) (S0.set i (.cells [.bool false])) S3->S3 im=some (.map (eIL W))->Sub (O.set im (.map (eIL W))) (S3.del i):=fun S3 W hK hW k x au=>by
    by_cases e:k=im
    ·subst e
     rw[w6]at au
     simp only[Sig.del,cq,if_false];rw[hW];exact au
    ·rw[w7 _ _ e]at au
     have e0:S0 k=some x:=by rw[<-bK,w7 _ _ e];exact au
     have e2:k≠i:=fun e2=>by rw[e2,hi]at e0;cases e0
     simp only[Sig.del,e2,if_false]
     exact hK k x (by rw[w7 _ _ e2];exact e0) e
   rcases hr with⟨e,⟨hK,h⟩,h2⟩|⟨⟨hK,h⟩,h2⟩
   ·cases h2
    split at h
    ·cases h
    ·rename_i W hW
     obtain⟨_,cn⟩:=h
     refine gz ?_
     refine fin1 (U':=O.set im (.map (eIL W))) ?_ (hU:=aw _ _ hK cn)
     unfold LokR;rw[hL,hW];exact⟨im,ak,rfl,rfl⟩
   ·cases h2
    split at h
    ·rename_i hW
     refine gz ?_
     refine fin1 (U':=O) (by unfold LokR;rw[hL,hW];exact⟨rfl,rfl⟩) (hU:=fun k x au=>?_)
     have e:=As au ak
     have e0:S0 k=some x:=by rw[<-bK,w7 _ _ e];exact au
     have e2:k≠i:=fun e2=>by rw[e2,hi]at e0;cases e0
     simp only[Sig.del,e2,if_false]
     exact hK k x (by rw[w7 _ _ e2];exact e0) e
    ·exact absurd h.1 (by simp)
  ·obtain⟨i,U2,hi,rfl,hr⟩:=hr
   rcases hr with⟨e,_,h2⟩|⟨_,h2⟩<;>cases h2
 ·have hL:C5 p c=none:=by
   unfold C5
   exact if_neg fun h=>by
    simp only[Bool.and_eq_true,decide_eq_true_eq]at h
    exact aL ⟨h.1,h.2.1,h.2.2.1⟩
  repeat' first|refine gz ?_|apply gy<;>intro hh
  all_goals first|exact fin1 (U':=O) (by unfold LokR;rw[hL];exact⟨rfl,rfl⟩)|exact absurd ⟨by assumption,by omega,by omega⟩ aL
def DW(c:CProg)(W:MetL):List CLev:=(List.range c.ins.length).map fun k:Nat=>getM ⟨0,0⟩ (k:Int) W
theorem UZ(p:BProg)(c:CProg)(O:Sig)(hp:p.wt<=1073741824)(b9:c.ins.length<=1073741824)(b8:c.starts.length<=1073741824):DCall prog 25 [.agg (Ai p),.agg (cCPg c)] O (rS (.tup [sl (((C5 p c).map (DW c)).getD [] |>.map cLev),dI (if(C5 p c).isSome then 0 else 2)]) O):=by
 refine en func25 ntmps25 ?_
 refine gz ?_
 refine A7 (LY p c O hp b9 b8) (fun d U' hr=>?_) (fun d U' hr=>?_)
 ·unfold LokR at hr
  cases hL:C5 p c with
  |none=>
   rw[hL]at hr
   obtain⟨e,rfl⟩:=hr
   cases e
   refine gz ?_
   refine fin2 (U':=U') (d':=sl []) (e':=dI 2) ⟨rfl,rfl⟩ (hw:=?_)
   exact Am _ (.inl rfl)
  | some W =>
   rw[hL]at hr
   obtain⟨im,ak,e,rfl⟩:=hr
   cases e
   have aU:(O.set im (.map (eIL W))) im=some (.map (eIL W)):=w6 ..
   have bL:Sub O (O.set im (.map (eIL W))):=(Sub.refl _).set ak
   generalize O.set im (.map (eIL W))=S0 at aU bL
   refine gz ?_
   refine HR 7 2 (fun it bZ=>?_)
   have nit:im≠it:=As aU bZ
   refine D7 [4,5,6,16,30] (fun (k:Nat) (out:List CLev)=>k<=c.ins.length/\out=(List.range k).map fun k:Nat=>getM ⟨0,0⟩ (k:Int) W) (fun k out=>[(17,dI k),(7,.slice (out.map cLev) (.tag it))]) (fun _ out=>S0.set it (.tail 2 out.length)) (fun k _=>c.ins.length-k) (0) ([]) (by exact⟨by omega,rfl⟩) (fun k out hI=>?_)
   obtain⟨hk,hO⟩:=hI
   have bC:out.length=k:=by rw[hO];simp
   by_cases co:k<c.ins.length
   ·refine gf (gi aU nit) ?_
    exact⟨k+1,out++[getM ⟨0,0⟩ (k:Int) W],⟨by omega,by rw[List.range_succ,List.map_append,<-hO];rfl⟩,td1,wkR⟩
   ·have cp:k=c.ins.length:=by omega
    have cG:out=DW c W:=by rw[hO,cp];rfl
    refine gz ?_
    refine fin2 (U':=O) (d':=sl ((DW c W).map cLev)) (e':=dI 0) ⟨rfl,rfl⟩ (hU:=bL.set (bL.none bZ)) (hw:=?_)
    rw[cG];exact BF _ _
 ·unfold LokR at hr
  split at hr
  ·cases hr.1
  ·obtain⟨_,_,h,_⟩:=hr;cases h
end Go.DL
namespace Go.DL
open Go.Proofs.Tryz
open Go Go.Proofs
set_option maxHeartbeats 8000000
def Et(h:GoH):List D:=[dI h.kind,dI h.val.kind,dI h.val.n,dI h.gen,sl (h.args.map cVal),dI h.fin,dI h.pos,sl (h.stk.map cVal),sl (h.env.map cVal),sl (h.objs.map cTh),sl (h.evs.map cEv)]
def Jg:GoH:=⟨0,vZ,0,[],0,0,[],[],[],[]⟩
abbrev cFr(pos:Int)(stk env:List MVal):List D:=[dI pos,sl (stk.map cVal),sl (env.map cVal)]
theorem Du:WkD (.agg [dI 0,dI 0,dI 0,dI 0,.nils,dI 0,dI 0,.nils,.nils,.nils,.nils]) (.agg (Et Jg)):=
 E8 ⟨A8 _,A8 _,A8 _,A8 _,Am _ (.inl rfl),A8 _,A8 _,Am _ (.inl rfl),Am _ (.inl rfl),Am _ (.inl rfl),Am _ (.inl rfl),trivial⟩
theorem Kl{n:Nat}{γ:Fr}{df:List DDf}{O:Sig}{i:Nat}{xs ys:List D}{d d':D}(hi:O i=some (.cells (xs++d::ys)))(h:WkD d d'): ∃U',Wk prog n ⟨γ,O,df⟩ ⟨γ,U',df⟩/\U' i=some (.cells (xs++d'::ys)) /\ ∀j o,O j=some o->j≠i->U' j=some o:=
 ⟨_,DH hi h,w6 .., fun j o hj aD=>by rw[w7 _ _ aD];exact hj⟩
section
variable {ir:Nat}{p:BProg}{R:Nat->RW}{s:GoS}{O:Sig}
theorem haltFz{n:Nat}{γ:Fr}{df:List DDf}{av:D}{b:Bool}{h:GoH}(hH:HaltS ir p R s av b h O): ∃U' tl,Wk prog n ⟨γ,O,df⟩ ⟨γ,U',df⟩/\U' ir=some (.cells (Et h++tl)) /\ ∀j o,O j=some o->j≠ir->(∀a, ¬(R a).is j)->U' j=some o:=by
 obtain⟨bi,ar,aN,bV,aW,aT,bn,aB⟩:=hH
 have dj:∀{a b:Nat},a≠b->∀{j:Nat},(R a).is j->¬(R b).is j:=fun {a b} cE {j} ha hb=>cE (ar.dj a b j ha hb)
 have nir:∀{a j:Nat},(R a).is j->j≠ir:=fun {a j} h e=>aN a (e ▸ h)
 cases b with
 |false=>
  obtain⟨e1,e2,e3⟩:=aB
  obtain⟨U1,w1,o1,k1⟩:=Ni (n:=n) (γ:=γ) (df:=df) (a0:=[dI h.kind,dI h.val.kind,dI h.val.n,dI h.gen,av,dI h.fin,dI 0,.nils,.nils]) (b0:=(R 2).d s.evs.length::(Ai p++[dI s.pos,(R 0).d s.stk.length,(R 1).d s.env.length])) ar aN (bV 3) (by rw[bi];rfl)
  have q2:RWAt U1 3 (R 2) (s.evs.map cEv):=(ar.ok 2).keep fun j o hj ay=>k1 j o hj (nir ay) fun q hq=>dj (by omega) ay
  obtain⟨U2,w2,o2,k2⟩:=BE (P:=prog) (n:=n) (γ:=γ) (df:=df) (i:=ir) (az:=[dI h.kind,dI h.val.kind,dI h.val.n,dI h.gen,av,dI h.fin,dI 0,.nils,.nils,.slice (s.objs.map cTh) .no]) (bs:=Ai p++[dI s.pos,(R 0).d s.stk.length,(R 1).d s.env.length]) q2 (by rw[o1,List.length_map];rfl) (aN 2)
  obtain⟨S3,w3,o3,k3⟩:=Kl (n:=n) (γ:=γ) (df:=df) (xs:=[dI h.kind,dI h.val.kind,dI h.val.n,dI h.gen]) (ys:=[dI h.fin,dI 0,.nils,.nils,.slice (s.objs.map cTh) .no,.slice (s.evs.map cEv) .no]++(Ai p++[dI s.pos,(R 0).d s.stk.length,(R 1).d s.env.length])) o2 aW
  obtain⟨S4,w4,o4,k4⟩:=Kl (n:=n) (γ:=γ) (df:=df) (xs:=[dI h.kind,dI h.val.kind,dI h.val.n,dI h.gen,sl (h.args.map cVal),dI h.fin,dI 0]) (ys:=[.nils,.slice (s.objs.map cTh) .no,.slice (s.evs.map cEv) .no]++(Ai p++[dI s.pos,(R 0).d s.stk.length,(R 1).d s.env.length])) o3 (Am .no (.inl rfl))
  obtain⟨S5,w5,o5,k5⟩:=Kl (n:=n) (γ:=γ) (df:=df) (xs:=[dI h.kind,dI h.val.kind,dI h.val.n,dI h.gen,sl (h.args.map cVal),dI h.fin,dI 0,sl []]) (ys:=[.slice (s.objs.map cTh) .no,.slice (s.evs.map cEv) .no]++(Ai p++[dI s.pos,(R 0).d s.stk.length,(R 1).d s.env.length])) o4 (Am .no (.inl rfl))
  refine⟨S5,Ai p++[dI s.pos,(R 0).d s.stk.length,(R 1).d s.env.length],(((w1.trans w2).trans w3).trans w4).trans w5,?_,fun j o hj aD hn=>k5 j o (k4 j o (k3 j o (k2 j o (k1 j o hj aD fun q _=>hn q) aD (hn 2)) aD) aD) aD⟩
  rw[o5,Et,e1,e2,e3,aT,bn];rfl
 | true =>
  obtain⟨e1,e2,e3⟩:=aB
  obtain⟨U1,w1,o1,k1⟩:=Ni (n:=n) (γ:=γ) (df:=df) (a0:=[dI h.kind,dI h.val.kind,dI h.val.n,dI h.gen,av,dI h.fin,dI s.pos,(R 0).d s.stk.length,(R 1).d s.env.length]) (b0:=(R 2).d s.evs.length::(Ai p++[dI s.pos,(R 0).d s.stk.length,(R 1).d s.env.length])) ar aN (bV 3) (by rw[bi];rfl)
  have q2:RWAt U1 3 (R 2) (s.evs.map cEv):=(ar.ok 2).keep fun j o hj ay=>k1 j o hj (nir ay) fun q hq=>dj (by omega) ay
  obtain⟨U2,w2,o2,k2⟩:=BE (P:=prog) (n:=n) (γ:=γ) (df:=df) (i:=ir) (az:=[dI h.kind,dI h.val.kind,dI h.val.n,dI h.gen,av,dI h.fin,dI s.pos,(R 0).d s.stk.length,(R 1).d s.env.length,.slice (s.objs.map cTh) .no]) (bs:=Ai p++[dI s.pos,(R 0).d s.stk.length,(R 1).d s.env.length]) q2 (by rw[o1,List.length_map];rfl) (aN 2)
  have q0:RWAt U2 2 (R 0) (s.stk.map cVal):=(ar.ok 0).keep fun j o hj ay=>k2 j o (k1 j o hj (nir ay) fun q hq=>dj (by omega) ay) (nir ay) (dj (by decide) ay)
  obtain⟨S3,w3,o3,k3⟩:=BE (P:=prog) (n:=n) (γ:=γ) (df:=df) (i:=ir) (az:=[dI h.kind,dI h.val.kind,dI h.val.n,dI h.gen,av,dI h.fin,dI s.pos]) (bs:=[(R 1).d s.env.length,.slice (s.objs.map cTh) .no,.slice (s.evs.map cEv) .no]++(Ai p++[dI s.pos,(R 0).d s.stk.length,(R 1).d s.env.length])) q0 (by rw[o2,List.length_map];rfl) (aN 0)
  have q1:RWAt S3 2 (R 1) (s.env.map cVal):=(ar.ok 1).keep fun j o hj ay=>k3 j o (k2 j o (k1 j o hj (nir ay) fun q hq=>dj (by omega) ay) (nir ay) (dj (by decide) ay)) (nir ay) (dj (by decide) ay)
  obtain⟨S4,w4,o4,k4⟩:=BE (P:=prog) (n:=n) (γ:=γ) (df:=df) (i:=ir) (az:=[dI h.kind,dI h.val.kind,dI h.val.n,dI h.gen,av,dI h.fin,dI s.pos,.slice (s.stk.map cVal) .no]) (bs:=[.slice (s.objs.map cTh) .no,.slice (s.evs.map cEv) .no]++(Ai p++[dI s.pos,(R 0).d s.stk.length,(R 1).d s.env.length])) q1 (by rw[o3,List.length_map];rfl) (aN 1)
  have w5:=DH (P:=prog) (n:=n) (γ:=γ) (df:=df) (az:=[dI h.kind,dI h.val.kind,dI h.val.n,dI h.gen]) (bs:=[dI h.fin,dI s.pos,.slice (s.stk.map cVal) .no,.slice (s.env.map cVal) .no,.slice (s.objs.map cTh) .no,.slice (s.evs.map cEv) .no]++(Ai p++[dI s.pos,(R 0).d s.stk.length,(R 1).d s.env.length])) (d:=av) o4 aW
  refine⟨_,Ai p++[dI s.pos,(R 0).d s.stk.length,(R 1).d s.env.length],(((w1.trans w2).trans w3).trans w4).trans w5,?_,fun j o hj aD hn=>?_⟩
  ·rw[w6,Et,e1,e2,e3,aT,bn];rfl
  ·rw[w7 _ _ aD]
   exact k4 j o (k3 j o (k2 j o (k1 j o hj aD fun q _=>hn q) aD (hn 2)) aD (hn 0)) aD (hn 1)
theorem haltD{ro:Ro}{n:Nat}{Q:DX->St->Prop}{c:Code}{γ:Fr}{df:List DDf}{av:D}{b:Bool}{h:GoH}(hH:HaltS ir p R s av b h O)
  (k:∀U' tl,U' ir=some (.cells (Et h++tl))->(∀j o,O j=some o->j≠ir->(∀a, ¬(R a).is j)->U' j=some o)->DWp prog ro n c Q ⟨γ,U',df⟩):DWp prog ro n c Q ⟨γ,O,df⟩:=by
 obtain⟨U2,tl,w,a,b⟩:=haltFz (n:=n) (γ:=γ) (df:=df) hH
 exact Co w (k U2 tl a b)
def R01(r0 r1:RW):Nat->RW:=updF (updF (fun _=>.nil) 0 r0) 1 r1
theorem RunS.init{U1 U2:Sig}{r0 r1:RW}{stk env:List MVal}{pos:Int}(h0:FrV O r0 stk U1)(h1:FrV U1 r1 env U2)(hi:U2 ir=none):RunS ir p (R01 r0 r1) ⟨[],[],pos,stk,env⟩ (U2.set ir (.cells (AO p (R01 r0 r1) ⟨[],[],pos,stk,env⟩))):=by
 have a:Rows O (fun _=>RW.nil) rSz (fun _=>[]):=⟨fun _=>rfl,fun _ _ _ h=>h.elim⟩
 have b:Rows U1 (updF (fun _=>RW.nil) 0 r0) rSz (updF (fun _=>[]) 0 (stk.map cVal)):=a.upd (a:=0) h0.1 h0.2.1
 have c:=b.upd (a:=1) (r':=r1) (es':=env.map cVal) (U':=U2) h1.1 (by rw[A6 _ _ (by omega)];exact h1.2.1)
 have d:=c.retell (ct':=rCt (R01 r0 r1) ⟨[],[],pos,stk,env⟩) fun a=>by
  match a with
  |0=>rw[A6 _ _ (by omega),Ak];rfl
  |1=>rw[Ak];rfl
  |2=>rw[A6 _ _ (by omega),A6 _ _ (by omega)];rfl
  |3=>rw[A6 _ _ (by omega),A6 _ _ (by omega)];rfl
  |k+4=>rw[A6 _ _ (by omega),A6 _ _ (by omega)];simp[rCt]
 have aN:∀a, ¬(R01 r0 r1 a).is ir:=fun a ha=>by
  obtain⟨z,hz⟩:=(d.ok a).cells ha
  rw[hi]at hz;cases hz
 refine⟨w6 .., d.keep fun j o hj ⟨b,hb⟩=>by rw[w7 _ _ fun e=>aN b (by rw[<-e];exact hb)];exact hj,aN,fun a es ha=>?_⟩
 unfold R01 at ha
 by_cases e1:a=1
 ·subst e1;rw[Ak]at ha;exact h1.2.2 es ha
 ·rw[A6 _ _ e1]at ha
  by_cases e0:a=0
  ·subst e0;rw[Ak]at ha;exact h0.2.2 es ha
  ·rw[A6 _ _ e0]at ha;cases ha
theorem TW{ds:List D}{r:RW}{n k:Nat}(h:O ir=some (.cells ds))(hl:k<ds.length):DO tab O 31 (.ptr ir k) (r.d n)=some (.any,O.set ir (.cells (ds.take k++[r.d n]++ds.drop (k+1)))):=by
 have hf:¬ds.length<k+1:=by omega
 cases r<;>simp[DO,h,RW.d,hf]
theorem storeRw{ro:Ro}{n:Nat}{ops:Array Oper}{Q:DX->St->Prop}{df:List DDf}{rest:List Oper}{γ Sr:Fr}{ty:TypeId}{pos:String}{after:Array Edge}{x y:Operand}{ds:List D}{r:RW}{m k:Nat}(hc:O ir=some (.cells ds))(h:DOps prog ro n ops Q rest ⟨γ,O.set ir (.cells (ds.take k++[r.d m]++ds.drop (k+1))),df⟩)
  (hl:A0 γ (A5 [x,y])=some Sr:=by exact tdR) (h1:ev Sr x=.ptr ir k:=by exact tdR) (h2:ev Sr y=r.d m:=by exact tdR) (hlen:k<ds.length:=by simp) :
  DOps prog ro n ops Q (⟨none,.store 31 x y,ty,pos,after,none⟩::rest) ⟨γ,O,df⟩:=
 DP Ad (d:=.any) hl (by show DO tab O 31 (ev Sr x) (ev Sr y)=_;rw[h1,h2];exact TW hc hlen) h
end
section
variable {ro:Ro}{n:Nat}{ops:Array Oper}{N:Nat}{S0:Sig}{Q:DX->St->Prop}{df:List DDf}{γ Sr:List (Nat×D)}{O:Sig}{t:Nat}{ty:TypeId}{pos:String}{after:Array Edge}{e1:Bool}{l:List (Bool×Oper)}
theorem moRr(d:D){op:Op}(h:MO prog ro n ops N S0 Q df l ((t,d)::γ) O)(hr:Dl op=true:=by rfl)(be:decide (t<n)=true:=by exact tdR)(hl:A0 γ (A5 op.operands.toList)=some Sr:=by exact tdR)(hd:dopX tab Sr S0 op=some d:=by first|with_unfolding_all rfl|(simp;done)|(simp;rfl)):MO prog ro n ops N S0 Q df ((e1,⟨some t,op,ty,pos,after,none⟩)::l) γ O:=
 KF Ad hr be hl hd h
theorem moBox{T:Nat}{x:Operand}(cs:List D)(h:∀i,O i=none->MO prog ro n ops N S0 Q df l ((t,.ptr i 0)::γ) (O.set i (.cells cs)))(hl:A0 γ (A5 [x])=some Sr:=by exact tdR)(hc:(ev Sr x).cells=cs:=by exact tdR)(ht:(ev Sr x).told=true:=by exact tdR)(be:decide (t<n)=true:=by exact tdR)(hC:Sub S0 O:=by first|exact Sub.refl _|assumption):
  MO prog ro n ops N S0 Q df ((true,⟨some t,.box T x,ty,pos,after,none⟩)::l) γ O:=
 mo1 (fun V2 hx=>by
  have e:ev V2 x=ev Sr x:=by rw[hx x (by simp[Op.operands]),C2 hl]
  exact dops_box (by rw[e];exact ht) (by simpa using be) (fun i hi=>Au ⟨rfl,by simp only[A4,if_true];rw[e,hc];exact⟨hC.set (hC.none hi),h i hi⟩⟩)) be
end
def Un(s:GoS)(r:GoS ⊕ GoH):Prop:= ∀t,r=.inl t->t.stk.length<=s.stk.length+1/\t.env.length<=s.env.length+1/\t.evs.length<=s.evs.length+1
theorem len_ite{s:GoS}{c:Prop}[Decidable c]{a b:GoS ⊕ GoH}(h1:Un s a)(h2:Un s b):Un s (if c then a else b):=by split<;>assumption
theorem Qy{p:BProg}{w:CWorld}{x:CIns}{s t:GoS}(h:Im p w x s=.inl t):t.stk.length<=s.stk.length+1/\t.env.length<=s.env.length+1/\t.evs.length<=s.evs.length+1:=by
 have key:Un s (Im p w x s):=by
  rw[Im]
  repeat' (refine len_ite ?_ ?_)
  all_goals
   intro t h
   first|(cases h;done)|(cases h;simp only[List.length_append,List.length_dropLast,List.length_singleton];omega)
 exact key t h
theorem actAt{j:Nat}(h1:1<=j)(h2:j<=21):cActs[j]? = some (.func (.func (actF j)) [] []):=by
 have h:j=1\/j=2\/j=3\/j=4\/j=5\/j=6\/j=7\/j=8\/j=9\/j=10\/j=11\/j=12\/j=13\/j=14\/j=15\/j=16\/j=17\/j=18\/j=19\/j=20\/j=21:=by omega
 rcases h with rfl|rfl|rfl|rfl|rfl|rfl|rfl|rfl|rfl|rfl|rfl|rfl|rfl|rfl|rfl|rfl|rfl|rfl|rfl|rfl|rfl<;>rfl
theorem O5(c:CProg)(W:MetL){k:Nat}(hk:k<c.ins.length):(DW c W)[k]? = some (getM ⟨0,0⟩ (k:Int) W):=by
 unfold DW;rw[List.getElem?_map,List.getElem?_range hk];rfl
theorem O4(c:CProg)(W:MetL):(DW c W).length=c.ins.length:=by unfold DW;simp
theorem In(p:BProg)(c:CProg):Ei p c=(C5 p c).map (DW c):=by rw[<-QY,Pc];rfl
end Go.DL
