/- A part of the proof. -/
import Derived.Test.YteldimffglchkaaGreatDoorM22
import Derived.Test.YteldimffglchkaaGreatDoorM20
import Derived.Test.YteldimffglchkaaGreatDoorM25
import Derived.Test.YteldimffglchkaaGreatDoorM14
set_option linter.all false
namespace Go.DL
open Go.Proofs.Tryz
open Go Go.Proofs
set_option maxHeartbeats 80000000
@[simp] theorem cIns_take(x:CIns):List.take 2 (cIns x)=cIns x:=rfl
@[simp] theorem mem_cIns(y:D)(x:CIns):y∈cIns x ↔ y=dI x.op\/y=dI x.a:=by simp[cIns]
def eIL(m:MetL):List (D×D):=eM dI (fun l=>.agg (cLev l)) m
@[simp] theorem hitILok(k:Int)(m:MetL):hitD tab 79 true (C9 (.int .i64) (.int .i64 k) (eIL m) 0)=some (.tup [.agg [.int .i64 (getM ⟨0,0⟩ k m).st,.int .i64 (getM ⟨0,0⟩ k m).env],.bool (hasM k m)]):=KU keyI (fun l=>.agg (cLev l)) rfl k m
@[simp] theorem hitIL(k:Int)(m:MetL):hitD tab 79 false (C9 (.int .i64) (.int .i64 k) (eIL m) 0)=some (.agg [.int .i64 (getM ⟨0,0⟩ k m).st,.int .i64 (getM ⟨0,0⟩ k m).env]):=Rj keyI (fun l=>.agg (cLev l)) rfl k m
@[simp] theorem putIL(k a b:Int)(m:MetL):Cu (.int .i64) (.int .i64 k) (.agg [.int .i64 a,.int .i64 b]) (eIL m)=some (eIL (putM k ⟨a,b⟩ m)):=LE keyI (fun l=>.agg (cLev l)) k ⟨a,b⟩ m
def ReR(p:BProg)(c:CProg)(im2:Nat)(m:MetL)(n:Int)(l:CLev)(O:Sig)(x:DE)(U':Sig):Prop:=
 if n<0\/(c.ins.length:Int)<=n\/(hasM n m=true/\getM ⟨0,0⟩ n m≠l) then x=.panic unfC/\U'=O else x=.ret (.tup [])/\U'=O.set im2 (.map (eIL (putM n l m)))
theorem Cx(p:BProg)(c:CProg)(im im2:Nat)(m:MetL)(n:Int)(l:CLev)(O:Sig)(hc:c.ins.length<=300)(hm:O im2=some (.map (eIL m))):DCall prog 170 [dI n,.agg (cLev l),.cptr [.map im2] 0,.cptr [cChk p c im] 0] O (ReR p c im2 m n l O):=by
 obtain⟨st,env⟩:=l
 refine en func170 ntmps170 ?_
 by_cases h1:n<0
 ·refine gf hm ?_
  exact finP (U':=O) (by unfold ReR;rw[if_pos (.inl h1)];exact⟨rfl,rfl⟩)
 by_cases h2:(c.ins.length:Int)<=n
 ·refine gf hm ?_
  exact finP (U':=O) (by unfold ReR;rw[if_pos (.inr (.inl h2))];exact⟨rfl,rfl⟩)
 cases hh:hasM n m with
 |false=>
  refine gf (gi hm hh) ?_
  exact DK (U':=O.set im2 (.map (eIL (putM n ⟨st,env⟩ m)))) (by unfold ReR;rw[if_neg (by rintro(h|h|h);exact h1 h;exact h2 h;rw[hh]at h;cases h.1)];exact⟨rfl,rfl⟩)
 | true =>
  refine gf (gi hm hh) ?_
  refine eqlS _ (decide (getM ⟨0,0⟩ n m=(⟨st,env⟩:CLev))) Ti Re (eqLev _ _) ?_
  by_cases he:getM ⟨0,0⟩ n m=(⟨st,env⟩:CLev)
  ·refine gf (gi he hm) ?_
   exact DK (U':=O.set im2 (.map (eIL (putM n ⟨st,env⟩ m)))) (by unfold ReR;rw[if_neg (by rintro(h|h|h);exact h1 h;exact h2 h;exact h.2 he)];exact⟨rfl,rfl⟩)
  ·refine gf he ?_
   exact finP (U':=O) (by unfold ReR;rw[if_pos (.inr (.inr ⟨hh,he⟩))];exact⟨rfl,rfl⟩)
theorem ReR.met{p:BProg}{c:CProg}{im2:Nat}{m:MetL}{n:Int}{l:CLev}{O:Sig}{x:DE}{U':Sig}(h:ReR p c im2 m n l O x U'):(BG c.ins.length (metOf m) n l=none/\x=.panic unfC/\U'=O)\/(BG c.ins.length (metOf m) n l=some (metOf (putM n l m))/\x=.ret (.tup [])/\U'=O.set im2 (.map (eIL (putM n l m)))/\0<=n/\n<c.ins.length):=by
 unfold ReR at h
 unfold BG
 have e:(n<0\/(c.ins.length:Int)<=n\/(hasM n m=true/\getM ⟨0,0⟩ n m≠l)) ↔ (n<0\/(c.ins.length:Int)<=n\/(metOf m n.toNat≠none/\metOf m n.toNat≠some l)):=by
  by_cases h1:n<0
  ·simp[h1]
  ·have hn:((n.toNat:Nat):Int)=n:=by omega
   unfold metOf
   rw[hn]
   cases hh:hasM n m<;>simp
 split at h
 ·rename_i hc
  rw[if_pos (e.1 hc)]
  exact .inl ⟨rfl,h⟩
 ·rename_i hc
  rw[if_neg fun k=>hc (e.2 k)]
  have hn:n=((n.toNat:Nat):Int):=by
   have:¬n<0:=fun k=>hc (.inl k)
   omega
  refine .inr ⟨?_,h.1,h.2,by omega,?_⟩
  ·have h3:=CR m n.toNat l
   rw[<-hn]at h3
   rw[h3]
  ·have:¬(c.ins.length:Int)<=n:=fun k=>hc (.inr (.inl k))
   omega
theorem newIL{ro:Ro}{n:Nat}{ops:Array Oper}{Q:DX->St->Prop}{df:List DDf}{rest:List Oper}{γ:Fr}{O:Sig}{t:Nat}{ty:TypeId}{pos:String}{after:Array Edge}{T:Nat}(h:∀i,O i=none->DOps prog ro n ops Q rest ⟨(t,.map i)::γ,O.set i (.map (eIL [])),df⟩)(bZ:decide (t<n)=true:=by exact tdR):DOps prog ro n ops Q (⟨some t,.makeMap T none,ty,pos,after,none⟩::rest) ⟨γ,O,df⟩:=newM h bZ
def cSt(s:CSt):List D:=[dI s.pos,dI s.env,.bool s.next]
theorem Uq{c:CProg}{q:Nat}(h:q<c.ins.length):AC c q=c.ins[q]:=by unfold AC;rw[List.getElem?_eq_getElem h];rfl
theorem Kl{m:MetL}{n:Nat}{lv:CLev}{env:Int}{q:Nat}(hb:∀j l,metOf m j=some l->0<=l.st/\l.st<=q/\env<=l.env/\l.env<=env+q)(h:0<=lv.st/\lv.st<=q+1/\env<=lv.env/\lv.env<=env+q+1){z:Int}(hz:z=(n:Int)): ∀j l,metOf (putM z lv m) j=some l->0<=l.st/\l.st<=((q+1:Nat):Int)/\env<=l.env/\l.env<=env+((q+1:Nat):Int):=fun j l hj=>by
 rw[hz,CR]at hj
 unfold updM at hj
 split at hj
 ·cases hj;omega
 ·have:=hb j l hj;omega
theorem bd_put2{m:MetL}{n k:Nat}{lv:CLev}{env:Int}{q:Nat}(hb:∀j l,metOf m j=some l->0<=l.st/\l.st<=q/\env<=l.env/\l.env<=env+q)(h:0<=lv.st/\lv.st<=q+1/\env<=lv.env/\lv.env<=env+q+1){z y:Int}(hz:z=(n:Int))(hy:y=(k:Int)): ∀j l,metOf (putM z lv (putM y lv m)) j=some l->0<=l.st/\l.st<=((q+1:Nat):Int)/\env<=l.env/\l.env<=env+((q+1:Nat):Int):=fun j l hj=>by
 rw[hz,CR,hy,CR]at hj
 unfold updM at hj
 split at hj
 ·cases hj;omega
 ·split at hj
  ·cases hj;omega
  ·have:=hb j l hj;omega
theorem SO {S:Type} (p:BProg) (c:CProg) (im:Nat) (s:CSt) (lb:Nat) (Good:Sig->S->Prop) (Bad:Sig->Prop) (touch:Nat->Prop) (step:Nat->CLev->S->Option S) (hp:p.wt<=1073741824) (hc:c.ins.length<=300) (bw:BW p c.ins.length c.ins 0=true) (cm : ∀ n:Nat,0<=p.gens.getD n 0/\p.gens.getD n 0<=3) (he:0<=s.env/\s.env<=1000)
  (hy:∀k l O s,k<c.ins.length->Good O s->DYield prog lb [dI k,.agg (cLev l)] O (OutO unfC (.bool true) Good Bad touch O (step k l s))) (O:Sig) (s0:S) (hG:Good O s0)
  (hI:∀a,O a=none->∀S1 s o,Good S1 s->Good (S1.set a o) s) (ht:∀a,O a=none->¬touch a) (hB:∀S1 s,Good S1 s->Bad S1) :
  DCall prog 169 [.yld lb,.cptr [cChk p c im] 0,.cptr (cSt s) 0] O (OutO unfC (.tup []) Good Bad touch O (Bz p c s step s0)):=by
 obtain⟨p1,p2,p3,p4,p5,p6,p7⟩:=p.wt_le
 obtain⟨cq,cp⟩:=he
 obtain⟨pos,env,next⟩:=s
 simp only at cq cp
 refine en func169 ntmps169 ?_
 refine gz ?_ [] [12]
 refine newIL (fun im2 ak=>?_)
 refine gz ?_ [] [12]
 refine A3 (Cx p c im im2 [] pos ⟨0,env⟩ _ hc (w6 ..)) (fun d U' hr=>?_) (fun d U' hr=>?_)
 ·rcases hr.met with ⟨_,h,_⟩ | ⟨cH,b9,b8,cG,cF⟩
  ·cases h
  cases b9
  subst b8
  obtain⟨q0,rfl⟩:∃q0:Nat,pos=(q0:Int):=⟨pos.toNat,by omega⟩
  refine gz ?_ [] [12]
  have nim:∀j o,O j=some o->j≠im2:=fun j o h e=>by rw[e,ak]at h;cases h
  refine Nf [0,1,2,4,5] (fun (q:Nat) (m:MetL) (s1:S) (S1:Sig)=>q0<=q/\q<=c.ins.length/\Good S1 s1/\S1 im2=some (.map (eIL m))/\(∀j o,O j=some o->¬touch j->S1 j=some o)/\Bz p c ⟨(q0:Int),env,next⟩ step s0=FE p c env next step (c.ins.length-q) q (metOf m) s1 /\ ∀j l,metOf m j=some l->0<=l.st/\l.st<=q/\env<=l.env/\l.env<=env+q) (fun q _ _ _=>[(6,dI q)]) (fun _ _ _ S1=>S1) (fun q _ _ _=>c.ins.length-q) (q0) (putM (q0:Int) ⟨0,env⟩ []) (s0) ((O.set im2 (.map (eIL []))).set im2 (.map (eIL (putM (q0:Int) ⟨0,env⟩ [])))) (by exact⟨Nat.le_refl _,by omega,hI im2 ak _ _ _ (hI im2 ak _ _ _ hG),w6 .., fun j o h _=>by rw[w7 _ _ (nim j o h),w7 _ _ (nim j o h)];exact h,by unfold Bz;rw[if_neg (by simp only;omega),CR];rfl,fun j l h=>by rw[CR]at h;unfold updM at h;split at h;(cases h;simp only;omega);cases h⟩) (fun q m s1 S1 hI=>?_)
  obtain⟨cK,cJ,ay,aj,aE,hR,aL⟩:=hI
  by_cases hq:q<c.ins.length
  ·have aZ:c.ins.length-q=(c.ins.length-(q+1))+1:=by omega
   rw[aZ,FE,Uq hq]at hR
   have aJ:=Hh _ _ bw q _ (List.getElem?_eq_getElem hq)
   rw[Nat.zero_add]at aJ
   cases aK:metOf m q with
   | none =>
    have hh:hasM (q:Int) m=false:=by
     unfold metOf at aK
     split at aK
     ·cases aK
     ·rename_i h;simpa using h
    rw[aK]at hR
    simp only at hR
    refine gf (gi aj hh) ?_ [] [12]
    exact⟨q+1,m,s1,S1,⟨by omega,by omega,ay,aj,aE,hR,fun j l h=>by have:=aL j l h;omega⟩,td1,wkR⟩
   | some l =>
    have hh:hasM (q:Int) m=true/\getM ⟨0,0⟩ (q:Int) m=l:=by
     unfold metOf at aK
     split at aK
     ·rename_i h;exact⟨h,by simpa using aK⟩
     ·cases aK
    obtain⟨aC,aB⟩:=hh
    obtain⟨b1,b2,b3,b4⟩:=aL q l aK
    rw[aK]at hR
    simp only at hR
    have hu:=fun cD:(c.ins[q]).op=19=>(show 0<=(c.ins[q]).a/\(c.ins[q]).a<p.gens.length by unfold fitsQ at aJ;rw[cD]at aJ;simpa using aJ)
    have bH:0<=(Ao p c.ins[q]).1/\(Ao p c.ins[q]).1<=3/\0<=(Ao p c.ins[q]).2/\(Ao p c.ins[q]).2<=1:=by
     have:=cm (c.ins[q]).a.toNat
     unfold Ao
     repeat' split
     all_goals simp only;omega
    obtain⟨x,hx⟩:∃x,x=c.ins[q]:=⟨_,rfl⟩
    rw[<-hx]at hR aJ hu bH
    have ag:=hx.symm
    have i171:∀O,Ans 171 [cChk p c im,.agg (cIns x)] O True (.tup [dI (Ao p x).1,dI (Ao p x).2]):=fun O=>ah0 (SN p c im x O hp hu)
    generalize bF:Ao p x=us at*
    obtain⟨take,give⟩:=us
    obtain⟨st,en⟩:=l
    simp only at bH b1 b2 b3 b4
    by_cases aH:¬(take<=st/\(x.op=3->x.a<en)/\(x.op=20->next=true))
    ·have aq:Bz p c ⟨(q0:Int),env,next⟩ step s0=none:=by
      rw[hR]
      have:Eb p c env next q x ⟨st,en⟩ (metOf m)=none:=by
       unfold Eb;rw[bF]
       refine if_pos ?_
       by_cases k1:take<=st
       ·by_cases k2:x.op=3->x.a<en
        ·by_cases k3:x.op=20->next=true
         ·exact absurd ⟨k1,k2,k3⟩ aH
         ·rw[Classical.not_imp]at k3
          exact .inr (.inr (.inr ⟨k3.1,by simpa using k3.2⟩))
        ·rw[Classical.not_imp]at k2
         exact .inr (.inl ⟨k2.1,by have:=k2.2;show en<=x.a;omega⟩)
       ·exact .inl (by show st<take;omega)
      rw[this]
     have bd:st<take\/(x.op=3/\en<=x.a)\/(x.op=20/\next=false):=by
      by_cases k1:take<=st
      ·by_cases k2:x.op=3->x.a<en
       ·by_cases k3:x.op=20->next=true
        ·exact absurd ⟨k1,k2,k3⟩ aH
        ·rw[Classical.not_imp]at k3
         exact .inr (.inr ⟨k3.1,by simpa using k3.2⟩)
       ·rw[Classical.not_imp]at k2
        exact .inr (.inl ⟨k2.1,by have:=k2.2;omega⟩)
      ·exact .inl (by omega)
     clear aH hR
     rcases bd with k1|⟨k1,k2⟩|⟨k1,k2⟩
     ·repeat' first|refine gf (gi aj (gi aC (gi aB ag))) ?_ [] [12]|apply gy<;>intro hh
      all_goals exact finP (U':=S1) (by rw[aq];exact⟨rfl,hB _ _ ay⟩)
     ·repeat' first|refine gf (gi aj (gi aC (gi aB (gi ag k1)))) ?_ [] [12]|apply gy<;>intro hh
      all_goals exact finP (U':=S1) (by rw[aq];exact⟨rfl,hB _ _ ay⟩)
     ·repeat' first|refine gf (gi aj (gi aC (gi aB (gi ag (gi k1 k2))))) ?_ [] [12]|apply gy<;>intro hh
      all_goals exact finP (U':=S1) (by rw[aq];exact⟨rfl,hB _ _ ay⟩)
    ·rw [Classical.not_not] at aH
     obtain⟨e1,e2,e3⟩:=aH
     have bj:¬(st<take\/(x.op=3/\en<=x.a)\/(x.op=15/\en<=env)\/(x.op=20/\next=false)) ↔ ¬(x.op=15/\en<=env):=by
      constructor
      ·intro h k;exact h (.inr (.inr (.inl k)))
      ·rintro h (k|⟨k,k2⟩|k|⟨k,k2⟩)
       ·omega
       ·have:=e2 k;omega
       ·exact h k
       ·rw[e3 k]at k2;cases k2
     have aG:∀l:CLev,Eb p c env next q x ⟨st,en⟩ (metOf m)=if(st<take\/(x.op=3/\en<=x.a)\/(x.op=15/\en<=env)\/(x.op=20/\next=false)) then none
      else if x.op=21 then(if st=1/\en=env then some (metOf m) else none)
      else if x.op=14 then BG c.ins.length (metOf m) ((q:Int)+1) ⟨st-take+give,en+1⟩
      else if x.op=15 then BG c.ins.length (metOf m) ((q:Int)+1) ⟨st-take+give,en-1⟩
      else if x.op=18 then BG c.ins.length (metOf m) x.a ⟨st-take+give,en⟩
      else if x.op=17 then(match BG c.ins.length (metOf m) x.a ⟨st-take+give,en⟩with
       |none=>none
       |some m=>BG c.ins.length m ((q:Int)+1) ⟨st-take+give,en⟩)
      else BG c.ins.length (metOf m) ((q:Int)+1) ⟨st-take+give,en⟩:=fun _=>by unfold Eb;rw[bF];rfl
     rw[aG ⟨0,0⟩]at hR
     clear aG
     by_cases aM:x.op=21
     ·rw[if_neg (bj.2 (by omega)),if_pos aM]at hR
      by_cases aT:st=1/\en=env
      ·rw[if_pos aT]at hR
       obtain⟨g1,g2⟩:=aT
       simp only at hR
       refine gf (gi aj (gi aC (gi aB (gi ag aM)))) ?_ [] [12]
       refine yldW (hy q ⟨st,en⟩ S1 s1 hq ay) (fun d S2 hr=>?_) (fun d S2 hr=>?_)
       rotate_left
       ·obtain⟨hn,rfl,hb⟩:=hr.pan
        rw[hn]at hR
        have aq:Bz p c ⟨(q0:Int),env,next⟩ step s0=none:=by first|exact hR|(rw[hR];split<;>rfl)
        exact finP (U':=S2) (by rw[aq];exact⟨rfl,hb⟩)
       obtain⟨s2,aw,rfl,am,ae⟩:=hr.ret
       rw[aw]at hR
       have hm2:=ae im2 _ aj (ht im2 ak)
       have ax:∀j o,O j=some o->¬touch j->S2 j=some o:=fun j o h1 h2=>ae j o (aE j o h1 h2) h2
       refine gf (gi ag aM) ?_ [] [12]
       refine newV (fun i12 aa=>?_)
       have n12:im2≠i12:=fun e=>by rw[<-e,hm2]at aa;cases aa
       refine gf (gi ag aM) ?_ [] [12]
       exact⟨q+1,m,s2,S2,⟨by omega,by omega,am,hm2,ax,hR,fun j l h=>by have:=aL j l h;omega⟩,td1,wkR⟩
      ·rw[if_neg aT]at hR
       simp only at hR
       refine gf (gi aj (gi aC (gi aB (gi ag aM)))) ?_ [] [12]
       refine yldW (hy q ⟨st,en⟩ S1 s1 hq ay) (fun d S2 hr=>?_) (fun d S2 hr=>?_)
       rotate_left
       ·obtain⟨hn,rfl,hb⟩:=hr.pan
        have aq:Bz p c ⟨(q0:Int),env,next⟩ step s0=none:=hR
        exact finP (U':=S2) (by rw[aq];exact⟨rfl,hb⟩)
       obtain⟨s2,aw,rfl,am,ae⟩:=hr.ret
       have hm2:=ae im2 _ aj (ht im2 ak)
       have ax:∀j o,O j=some o->¬touch j->S2 j=some o:=fun j o h1 h2=>ae j o (aE j o h1 h2) h2
       refine gf (gi ag aM) ?_ [] [12]
       refine newV (fun i12 aa=>?_)
       have n12:im2≠i12:=fun e=>by rw[<-e,hm2]at aa;cases aa
       repeat' first|refine gf (gi ag aM) ?_ [] [12]|apply gy<;>intro hh
       all_goals exact finP (U':=S2) (by rw[hR];exact⟨rfl,hB _ _ am⟩)
     have ap:∀(i12:Nat) (o o':DObj),im2≠i12->S1=S1->∀S2:Sig,S2 i12=none->Sub (S2.set im2 o) ((S2.set i12 o').set im2 o):=fun i12 o o' hn _ S2 aa k y hk=>by
      by_cases bO:k=im2
      ·subst bO;rw[w6]at hk⊢; exact hk
      ·rw[w7 _ _ bO]at hk⊢
       rw[w7 _ _ (fun e=>by rw[e,aa]at hk;cases hk)];exact hk
     ·by_cases aY:x.op=14
      ·rw[if_neg (bj.2 (by omega)),if_neg aM,if_pos aY]at hR
       refine gf (gi aj (gi aC (gi aB (gi ag aY)))) ?_ [] [12]
       refine yldW (hy q ⟨st,en⟩ S1 s1 hq ay) (fun d S2 hr=>?_) (fun d S2 hr=>?_)
       rotate_left
       ·obtain⟨hn,rfl,hb⟩:=hr.pan
        rw[hn]at hR
        have aq:Bz p c ⟨(q0:Int),env,next⟩ step s0=none:=by first|exact hR|(rw[hR];split<;>rfl)
        exact finP (U':=S2) (by rw[aq];exact⟨rfl,hb⟩)
       obtain⟨s2,aw,rfl,am,ae⟩:=hr.ret
       rw[aw]at hR
       have hm2:=ae im2 _ aj (ht im2 ak)
       have ax:∀j o,O j=some o->¬touch j->S2 j=some o:=fun j o h1 h2=>ae j o (aE j o h1 h2) h2
       refine gf (gi ag aY) ?_ [] [12]
       refine newV (fun i12 aa=>?_)
       have n12:im2≠i12:=fun e=>by rw[<-e,hm2]at aa;cases aa
       refine gf (gi ag aY) ?_ [] [12]
       refine A3 (Cx p c im im2 (m) ((q:Int)+1) ⟨st-take+give,en+1⟩ _ hc (by rw[w7 _ _ n12];exact hm2)) (fun d S3 hr=>?_) (fun d S3 hr=>?_)
       rotate_left
       ·rcases hr.met with⟨hn,ai,ah⟩|⟨_,h5,_⟩
        ·cases ai
         subst ah
         rw[hn]at hR
         exact finP (U':=S2) (by rw[hR];exact⟨rfl,hB _ _ am⟩)
        ·cases h5
       rcases hr.met with⟨_,h5,_⟩|⟨hn,ai,ah,aV,aU⟩
       ·cases h5
       cases ai
       subst ah
       rw[hn]at hR
       simp only at hR
       have au:=ap i12 (.map (eIL (putM ((q:Int)+1) ⟨st-take+give,en+1⟩ m))) (.cells [dI (st-take+give),dI (en+1)]) n12 rfl S2 aa
       refine gf aY ?_ [] [12]
       exact⟨q+1,putM ((q:Int)+1) ⟨st-take+give,en+1⟩ m,s2,S2.set im2 (.map (eIL (putM ((q:Int)+1) ⟨st-take+give,en+1⟩ m))),⟨by omega,by omega,hI im2 ak _ _ _ am,w6 .., fun j o h1 h2=>by rw[w7 _ _ (nim j o h1)];exact ax j o h1 h2,hR,Kl (n:=q+1) aL (by simp only;omega) (by omega)⟩,td1,wkR⟩
      ·by_cases aN:x.op=15
       ·by_cases bE:en<=env
        ·rw[if_pos (.inr (.inr (.inl ⟨aN,bE⟩)))]at hR
         simp only at hR
         refine gf (gi aj (gi aC (gi aB (gi ag aN)))) ?_ [] [12]
         refine yldW (hy q ⟨st,en⟩ S1 s1 hq ay) (fun d S2 hr=>?_) (fun d S2 hr=>?_)
         rotate_left
         ·obtain⟨hn,rfl,hb⟩:=hr.pan
          have aq:Bz p c ⟨(q0:Int),env,next⟩ step s0=none:=hR
          exact finP (U':=S2) (by rw[aq];exact⟨rfl,hb⟩)
         obtain⟨s2,aw,rfl,am,ae⟩:=hr.ret
         have hm2:=ae im2 _ aj (ht im2 ak)
         have ax:∀j o,O j=some o->¬touch j->S2 j=some o:=fun j o h1 h2=>ae j o (aE j o h1 h2) h2
         refine gf (gi ag aN) ?_ [] [12]
         refine newV (fun i12 aa=>?_)
         have n12:im2≠i12:=fun e=>by rw[<-e,hm2]at aa;cases aa
         repeat' first|refine gf (gi ag aN) ?_ [] [12]|apply gy<;>intro hh
         all_goals exact finP (U':=S2) (by rw[hR];exact⟨rfl,hB _ _ am⟩)
        ·rw[if_neg (bj.2 (by omega)),if_neg aM,if_neg aY,if_pos aN]at hR
         refine gf (gi aj (gi aC (gi aB (gi ag aN)))) ?_ [] [12]
         refine yldW (hy q ⟨st,en⟩ S1 s1 hq ay) (fun d S2 hr=>?_) (fun d S2 hr=>?_)
         rotate_left
         ·obtain⟨hn,rfl,hb⟩:=hr.pan
          rw[hn]at hR
          have aq:Bz p c ⟨(q0:Int),env,next⟩ step s0=none:=by first|exact hR|(rw[hR];split<;>rfl)
          exact finP (U':=S2) (by rw[aq];exact⟨rfl,hb⟩)
         obtain⟨s2,aw,rfl,am,ae⟩:=hr.ret
         rw[aw]at hR
         have hm2:=ae im2 _ aj (ht im2 ak)
         have ax:∀j o,O j=some o->¬touch j->S2 j=some o:=fun j o h1 h2=>ae j o (aE j o h1 h2) h2
         refine gf (gi ag aN) ?_ [] [12]
         refine newV (fun i12 aa=>?_)
         have n12:im2≠i12:=fun e=>by rw[<-e,hm2]at aa;cases aa
         refine gf (gi ag aN) ?_ [] [12]
         refine A3 (Cx p c im im2 (m) ((q:Int)+1) ⟨st-take+give,en-1⟩ _ hc (by rw[w7 _ _ n12];exact hm2)) (fun d S3 hr=>?_) (fun d S3 hr=>?_)
         rotate_left
         ·rcases hr.met with⟨hn,ai,ah⟩|⟨_,h5,_⟩
          ·cases ai
           subst ah
           rw[hn]at hR
           exact finP (U':=S2) (by rw[hR];exact⟨rfl,hB _ _ am⟩)
          ·cases h5
         rcases hr.met with⟨_,h5,_⟩|⟨hn,ai,ah,aV,aU⟩
         ·cases h5
         cases ai
         subst ah
         rw[hn]at hR
         simp only at hR
         have au:=ap i12 (.map (eIL (putM ((q:Int)+1) ⟨st-take+give,en-1⟩ m))) (.cells [dI (st-take+give),dI (en-1)]) n12 rfl S2 aa
         refine gf aN ?_ [] [12]
         exact⟨q+1,putM ((q:Int)+1) ⟨st-take+give,en-1⟩ m,s2,S2.set im2 (.map (eIL (putM ((q:Int)+1) ⟨st-take+give,en-1⟩ m))),⟨by omega,by omega,hI im2 ak _ _ _ am,w6 .., fun j o h1 h2=>by rw[w7 _ _ (nim j o h1)];exact ax j o h1 h2,hR,Kl (n:=q+1) aL (by simp only;omega) (by omega)⟩,td1,wkR⟩
       ·rw [if_neg (bj.2 (by omega)),if_neg aM,if_neg aY,if_neg aN] at hR
        by_cases aX:x.op=18
        ·rw[if_pos aX]at hR
         have bX:(q:Int)<x.a/\x.a<c.ins.length:=by unfold fitsQ at aJ;rw[aX]at aJ;simpa using aJ
         obtain⟨xa,aS⟩:∃xa:Nat,x.a=(xa:Int):=⟨x.a.toNat,by omega⟩
         refine gf (gi aj (gi aC (gi aB (gi ag aX)))) ?_ [] [12]
         refine yldW (hy q ⟨st,en⟩ S1 s1 hq ay) (fun d S2 hr=>?_) (fun d S2 hr=>?_)
         rotate_left
         ·obtain⟨hn,rfl,hb⟩:=hr.pan
          rw[hn]at hR
          have aq:Bz p c ⟨(q0:Int),env,next⟩ step s0=none:=by first|exact hR|(rw[hR];split<;>rfl)
          exact finP (U':=S2) (by rw[aq];exact⟨rfl,hb⟩)
         obtain⟨s2,aw,rfl,am,ae⟩:=hr.ret
         rw[aw]at hR
         have hm2:=ae im2 _ aj (ht im2 ak)
         have ax:∀j o,O j=some o->¬touch j->S2 j=some o:=fun j o h1 h2=>ae j o (aE j o h1 h2) h2
         refine gf (gi ag aX) ?_ [] [12]
         refine newV (fun i12 aa=>?_)
         have n12:im2≠i12:=fun e=>by rw[<-e,hm2]at aa;cases aa
         refine gf (gi ag aX) ?_ [] [12]
         refine A3 (Cx p c im im2 (m) (x.a) ⟨st-take+give,en⟩ _ hc (by rw[w7 _ _ n12];exact hm2)) (fun d S3 hr=>?_) (fun d S3 hr=>?_)
         rotate_left
         ·rcases hr.met with⟨hn,ai,ah⟩|⟨_,h5,_⟩
          ·cases ai
           subst ah
           rw[hn]at hR
           exact finP (U':=S2) (by rw[hR];exact⟨rfl,hB _ _ am⟩)
          ·cases h5
         rcases hr.met with⟨_,h5,_⟩|⟨hn,ai,ah,aV,aU⟩
         ·cases h5
         cases ai
         subst ah
         rw[hn]at hR
         simp only at hR
         have au:=ap i12 (.map (eIL (putM x.a ⟨st-take+give,en⟩ m))) (.cells [dI (st-take+give),dI en]) n12 rfl S2 aa
         refine gf aX ?_ [] [12]
         exact⟨q+1,putM x.a ⟨st-take+give,en⟩ m,s2,S2.set im2 (.map (eIL (putM x.a ⟨st-take+give,en⟩ m))),⟨by omega,by omega,hI im2 ak _ _ _ am,w6 .., fun j o h1 h2=>by rw[w7 _ _ (nim j o h1)];exact ax j o h1 h2,hR,Kl (n:=xa) aL (by simp only;omega) aS⟩,td1,wkR⟩
        ·rw [if_neg aX] at hR
         by_cases aR:x.op=17
         ·rw[if_pos aR]at hR
          have bX:(q:Int)<x.a/\x.a<c.ins.length:=by unfold fitsQ at aJ;rw[aR]at aJ;simpa using aJ
          obtain⟨xa,aS⟩:∃xa:Nat,x.a=(xa:Int):=⟨x.a.toNat,by omega⟩
          refine gf (gi aj (gi aC (gi aB (gi ag aR)))) ?_ [] [12]
          refine yldW (hy q ⟨st,en⟩ S1 s1 hq ay) (fun d S2 hr=>?_) (fun d S2 hr=>?_)
          rotate_left
          ·obtain⟨hn,rfl,hb⟩:=hr.pan
           rw[hn]at hR
           have aq:Bz p c ⟨(q0:Int),env,next⟩ step s0=none:=by first|exact hR|(rw[hR];split<;>rfl)
           exact finP (U':=S2) (by rw[aq];exact⟨rfl,hb⟩)
          obtain⟨s2,aw,rfl,am,ae⟩:=hr.ret
          rw[aw]at hR
          have hm2:=ae im2 _ aj (ht im2 ak)
          have ax:∀j o,O j=some o->¬touch j->S2 j=some o:=fun j o h1 h2=>ae j o (aE j o h1 h2) h2
          refine gf (gi ag aR) ?_ [] [12]
          refine newV (fun i12 aa=>?_)
          have n12:im2≠i12:=fun e=>by rw[<-e,hm2]at aa;cases aa
          refine gf (gi ag aR) ?_ [] [12]
          refine A3 (Cx p c im im2 (m) (x.a) ⟨st-take+give,en⟩ _ hc (by rw[w7 _ _ n12];exact hm2)) (fun d S3 hr=>?_) (fun d S3 hr=>?_)
          rotate_left
          ·rcases hr.met with⟨hn,ai,ah⟩|⟨_,h5,_⟩
           ·cases ai
            subst ah
            rw[hn]at hR
            exact finP (U':=S2) (by rw[hR];exact⟨rfl,hB _ _ am⟩)
           ·cases h5
          rcases hr.met with⟨_,h5,_⟩|⟨hn,ai,ah,aV,aU⟩
          ·cases h5
          cases ai
          subst ah
          rw[hn]at hR
          simp only at hR
          have bI:=ap i12 (.map (eIL (putM x.a ⟨st-take+give,en⟩ m))) (.cells [dI (st-take+give),dI en]) n12 rfl S2 aa
          have cB:=hI im2 ak S2 s2 (.map (eIL (putM x.a ⟨st-take+give,en⟩ m))) am
          refine gf aR ?_ [] [12]
          refine A3 (Cx p c im im2 (putM x.a ⟨st-take+give,en⟩ m) ((q:Int)+1) ⟨st-take+give,en⟩ _ hc (w6 ..)) (fun d S3 hr=>?_) (fun d S3 hr=>?_)
          rotate_left
          ·rcases hr.met with⟨hn,ai,ah⟩|⟨_,h5,_⟩
           ·cases ai
            subst ah
            rw[hn]at hR
            exact finP (U':=S2.set im2 (.map (eIL (putM x.a ⟨st-take+give,en⟩ m)))) (by rw[hR];exact⟨rfl,hB _ _ cB⟩)
           ·cases h5
          rcases hr.met with⟨_,h5,_⟩|⟨hn,ai,ah,aV,aU⟩
          ·cases h5
          cases ai
          subst ah
          rw[hn]at hR
          simp only at hR
          rw[w8]
          have au:=ap i12 (.map (eIL (putM ((q:Int)+1) ⟨st-take+give,en⟩ (putM x.a ⟨st-take+give,en⟩ m)))) (.cells [dI (st-take+give),dI en]) n12 rfl S2 aa
          refine gf aR ?_ [] [12]
          exact⟨q+1,putM ((q:Int)+1) ⟨st-take+give,en⟩ (putM x.a ⟨st-take+give,en⟩ m),s2,S2.set im2 (.map (eIL (putM ((q:Int)+1) ⟨st-take+give,en⟩ (putM x.a ⟨st-take+give,en⟩ m)))),⟨by omega,by omega,hI im2 ak _ _ _ am,w6 .., fun j o h1 h2=>by rw[w7 _ _ (nim j o h1)];exact ax j o h1 h2,hR,bd_put2 (n:=q+1) (k:=xa) aL (by simp only;omega) (by omega) aS⟩,td1,wkR⟩
         ·rw [if_neg aR] at hR
          by_cases h3:x.op=3
          ·have e2':=e2 h3
           refine gf (gi aj (gi aC (gi aB (gi ag h3)))) ?_ [] [12]
           refine yldW (hy q ⟨st,en⟩ S1 s1 hq ay) (fun d S2 hr=>?_) (fun d S2 hr=>?_)
           rotate_left
           ·obtain⟨hn,rfl,hb⟩:=hr.pan
            rw[hn]at hR
            have aq:Bz p c ⟨(q0:Int),env,next⟩ step s0=none:=by first|exact hR|(rw[hR];split<;>rfl)
            exact finP (U':=S2) (by rw[aq];exact⟨rfl,hb⟩)
           obtain⟨s2,aw,rfl,am,ae⟩:=hr.ret
           rw[aw]at hR
           have hm2:=ae im2 _ aj (ht im2 ak)
           have ax:∀j o,O j=some o->¬touch j->S2 j=some o:=fun j o h1 h2=>ae j o (aE j o h1 h2) h2
           refine gf (gi ag h3) ?_ [] [12]
           refine newV (fun i12 aa=>?_)
           have n12:im2≠i12:=fun e=>by rw[<-e,hm2]at aa;cases aa
           refine gf (gi ag h3) ?_ [] [12]
           refine A3 (Cx p c im im2 (m) ((q:Int)+1) ⟨st-take+give,en⟩ _ hc (by rw[w7 _ _ n12];exact hm2)) (fun d S3 hr=>?_) (fun d S3 hr=>?_)
           rotate_left
           ·rcases hr.met with⟨hn,ai,ah⟩|⟨_,h5,_⟩
            ·cases ai
             subst ah
             rw[hn]at hR
             exact finP (U':=S2) (by rw[hR];exact⟨rfl,hB _ _ am⟩)
            ·cases h5
           rcases hr.met with⟨_,h5,_⟩|⟨hn,ai,ah,aV,aU⟩
           ·cases h5
           cases ai
           subst ah
           rw[hn]at hR
           simp only at hR
           have au:=ap i12 (.map (eIL (putM ((q:Int)+1) ⟨st-take+give,en⟩ m))) (.cells [dI (st-take+give),dI (en)]) n12 rfl S2 aa
           refine gf h3 ?_ [] [12]
           exact⟨q+1,putM ((q:Int)+1) ⟨st-take+give,en⟩ m,s2,S2.set im2 (.map (eIL (putM ((q:Int)+1) ⟨st-take+give,en⟩ m))),⟨by omega,by omega,hI im2 ak _ _ _ am,w6 .., fun j o h1 h2=>by rw[w7 _ _ (nim j o h1)];exact ax j o h1 h2,hR,Kl (n:=q+1) aL (by simp only;omega) (by omega)⟩,td1,wkR⟩
          ·by_cases bi:x.op=20
           ·have e3':=e3 bi
            refine gf (gi aj (gi aC (gi aB (gi ag (gi bi e3'))))) ?_ [] [12]
            refine yldW (hy q ⟨st,en⟩ S1 s1 hq ay) (fun d S2 hr=>?_) (fun d S2 hr=>?_)
            rotate_left
            ·obtain⟨hn,rfl,hb⟩:=hr.pan
             rw[hn]at hR
             have aq:Bz p c ⟨(q0:Int),env,next⟩ step s0=none:=by first|exact hR|(rw[hR];split<;>rfl)
             exact finP (U':=S2) (by rw[aq];exact⟨rfl,hb⟩)
            obtain⟨s2,aw,rfl,am,ae⟩:=hr.ret
            rw[aw]at hR
            have hm2:=ae im2 _ aj (ht im2 ak)
            have ax:∀j o,O j=some o->¬touch j->S2 j=some o:=fun j o h1 h2=>ae j o (aE j o h1 h2) h2
            refine gf (gi ag (gi bi e3')) ?_ [] [12]
            refine newV (fun i12 aa=>?_)
            have n12:im2≠i12:=fun e=>by rw[<-e,hm2]at aa;cases aa
            refine gf (gi ag (gi bi e3')) ?_ [] [12]
            refine A3 (Cx p c im im2 (m) ((q:Int)+1) ⟨st-take+give,en⟩ _ hc (by rw[w7 _ _ n12];exact hm2)) (fun d S3 hr=>?_) (fun d S3 hr=>?_)
            rotate_left
            ·rcases hr.met with⟨hn,ai,ah⟩|⟨_,h5,_⟩
             ·cases ai
              subst ah
              rw[hn]at hR
              exact finP (U':=S2) (by rw[hR];exact⟨rfl,hB _ _ am⟩)
             ·cases h5
            rcases hr.met with⟨_,h5,_⟩|⟨hn,ai,ah,aV,aU⟩
            ·cases h5
            cases ai
            subst ah
            rw[hn]at hR
            simp only at hR
            have au:=ap i12 (.map (eIL (putM ((q:Int)+1) ⟨st-take+give,en⟩ m))) (.cells [dI (st-take+give),dI (en)]) n12 rfl S2 aa
            refine gf (gi bi e3') ?_ [] [12]
            exact⟨q+1,putM ((q:Int)+1) ⟨st-take+give,en⟩ m,s2,S2.set im2 (.map (eIL (putM ((q:Int)+1) ⟨st-take+give,en⟩ m))),⟨by omega,by omega,hI im2 ak _ _ _ am,w6 .., fun j o h1 h2=>by rw[w7 _ _ (nim j o h1)];exact ax j o h1 h2,hR,Kl (n:=q+1) aL (by simp only;omega) (by omega)⟩,td1,wkR⟩
           ·skip
            refine gf (gi aj (gi aC (gi aB ag))) ?_ [] [12]
            refine yldW (hy q ⟨st,en⟩ S1 s1 hq ay) (fun d S2 hr=>?_) (fun d S2 hr=>?_)
            rotate_left
            ·obtain⟨hn,rfl,hb⟩:=hr.pan
             rw[hn]at hR
             have aq:Bz p c ⟨(q0:Int),env,next⟩ step s0=none:=by first|exact hR|(rw[hR];split<;>rfl)
             exact finP (U':=S2) (by rw[aq];exact⟨rfl,hb⟩)
            obtain⟨s2,aw,rfl,am,ae⟩:=hr.ret
            rw[aw]at hR
            have hm2:=ae im2 _ aj (ht im2 ak)
            have ax:∀j o,O j=some o->¬touch j->S2 j=some o:=fun j o h1 h2=>ae j o (aE j o h1 h2) h2
            refine gf ag ?_ [] [12]
            refine newV (fun i12 aa=>?_)
            have n12:im2≠i12:=fun e=>by rw[<-e,hm2]at aa;cases aa
            refine gf ag ?_ [] [12]
            refine A3 (Cx p c im im2 (m) ((q:Int)+1) ⟨st-take+give,en⟩ _ hc (by rw[w7 _ _ n12];exact hm2)) (fun d S3 hr=>?_) (fun d S3 hr=>?_)
            rotate_left
            ·rcases hr.met with⟨hn,ai,ah⟩|⟨_,h5,_⟩
             ·cases ai
              subst ah
              rw[hn]at hR
              exact finP (U':=S2) (by rw[hR];exact⟨rfl,hB _ _ am⟩)
             ·cases h5
            rcases hr.met with⟨_,h5,_⟩|⟨hn,ai,ah,aV,aU⟩
            ·cases h5
            cases ai
            subst ah
            rw[hn]at hR
            simp only at hR
            have au:=ap i12 (.map (eIL (putM ((q:Int)+1) ⟨st-take+give,en⟩ m))) (.cells [dI (st-take+give),dI (en)]) n12 rfl S2 aa
            refine gz ?_ [] [12]
            exact⟨q+1,putM ((q:Int)+1) ⟨st-take+give,en⟩ m,s2,S2.set im2 (.map (eIL (putM ((q:Int)+1) ⟨st-take+give,en⟩ m))),⟨by omega,by omega,hI im2 ak _ _ _ am,w6 .., fun j o h1 h2=>by rw[w7 _ _ (nim j o h1)];exact ax j o h1 h2,hR,Kl (n:=q+1) aL (by simp only;omega) (by omega)⟩,td1,wkR⟩
  ·
   have e0:c.ins.length-q=0:=by omega
   rw[e0,FE]at hR
   refine gz ?_ [] [12]
   exact DK (U':=S1) (by rw[hR];exact⟨rfl,ay,aE⟩)
 ·rcases hr.met with⟨hn,ai,ah⟩|⟨_,h5,_⟩
  ·cases ai
   subst ah
   have aq:Bz p c ⟨pos,env,next⟩ step s0=none:=by
    unfold Bz
    refine if_pos ?_
    unfold BG at hn
    split at hn
    ·rename_i h
     rcases h with h|h|h
     ·exact .inl h
     ·exact .inr h
     ·exact absurd rfl h.1
    ·cases hn
   exact finP (U':=O) (by rw[aq];exact⟨rfl,hB _ _ hG⟩) ((Sub.refl _).set ak)
  ·cases h5
@[simp] theorem cSt_len(s:CSt):(cSt s).length=3:=rfl
@[simp] theorem cSt_take(s:CSt):List.take 3 (cSt s)=cSt s:=rfl
@[simp] theorem mem_cSt(y:D)(s:CSt):y∈cSt s ↔ y=dI s.pos\/y=dI s.env\/y=.bool s.next:=by simp[cSt]
theorem Tb(p:BProg)(c:CProg)(im:Nat)(s:CSt)(O:Sig):DCall prog 100 [cChk p c im,.agg (cSt s)] O (rS (.func (.func 169) [] [.cptr [cChk p c im] 0,.cptr (cSt s) 0]) O):=by
 refine en func100 ntmps100 ?_
 refine gz ?_
 exact fe1 trivial
@[reducible,instance] def a100:=fun p c im s O=>ah0 (@Tb p c im s O)
theorem Lu: ∀(l:List Int) (n m:Int),G3 n l=some m->n<=m/\m<=n+l.length
 |[],n,m,h=>by rw[G3]at h;cases h;simp
 | s::r,n,m,h=>by
  rw[G3]at h
  split at h
  ·have:=Lu r _ _ h
   simp only[List.length_cons];omega
  ·cases h
theorem Kd: ∀(cs:List BClass) (n m:Int),C5 n cs=some m->n<=m/\m<=n+4*cs.length
 |[],n,m,h=>by rw[C5]at h;cases h;simp
 | c::r,n,m,h=>by
  rw[C5]at h
  split at h
  ·cases h
  ·split at h
   ·cases h
   ·rename_i m1 h1
    have:=Lu _ _ _ h1
    have:=Kd r _ _ h
    simp only[List.length_cons];omega
theorem U1{p:BProg}(h:okP p=true):0<=p.slots/\p.slots<=40:=by
 have h:=Eh h
 unfold AA at h
 simp only[Bool.and_eq_true,decide_eq_true_eq]at h
 obtain⟨cP,h⟩:=h
 split at h
 ·cases h
 ·rename_i n hn
  simp only[Bool.and_eq_true,decide_eq_true_eq]at h
  have:=Kd _ _ _ hn
  omega
theorem LK(p:BProg): ∀(l:List BMeth) (s s':List Int),Cl p l s=some s'->∀m∈l,0<=m.gen/\m.gen<p.gens.length
 |[],_,_,_,m,hm=>by cases hm
 | a::r,s,s',h,m,hm=>by
  rw[Cl]at h
  split at h
  ·rename_i bK
   rcases List.mem_cons.1 hm with rfl|hm
   ·simp only[Ir,Bool.and_eq_true,decide_eq_true_eq]at bK
    exact bK.1.1.2
   ·split at h
    ·cases h
    ·exact LK p r _ _ h m hm
  ·cases h
theorem gens_in{p:BProg}(h:okP p=true): ∀m∈p.methods,0<=m.gen/\m.gen<p.gens.length:=by
 unfold okP Dn at h
 split at h
 ·cases hm:Cl p p.methods (List.replicate p.nodes.length (-1))with
  |none=>rw[hm]at h;simp at h
  |some s=>exact LK p _ _ _ hm
 ·cases h
def Ld(p:BProg)(c:CProg):Option MetL:=if BW p c.ins.length c.ins 0 then HN p c else none
def LkR(p:BProg)(c:CProg)(im:Nat)(O:Sig)(x:DE)(U':Sig):Prop:=Keep (· = im) O U'/\match Ld p c with
 |none=>x=.panic unfC
 |some W=>x=.ret (.tup [])/\U' im=some (.map (eIL W))
theorem finMN{P:Program}{n:Nat}{fn:Func}{R:DE->Sig->Prop}{γ:Fr}{O U':Sig}{d d':D}(js:List Nat)(hR:R (.ret d') U')(hU:Sub U' (dels js O))(hn:js.Nodup:=by simp)(hd:∀j∈js,O j=some .defs:=by simp)(h:resD fn γ=some d:=by exact tdR)(hw:WkD d d'): ∃s',Wk P n ⟨γ,O,js.map .coll⟩ s'/\PU P n fn (Weak R) .normal s':=
 ⟨_,Wk.refl _ _ _,js,rfl,hn,hd,d,D5 h,.ret d',U',hw,hU,hR⟩
theorem UC (p:BProg) (c:CProg) (im:Nat) (O:Sig) (hp:p.wt<=1073741824) (hk:okP p=true) (hc:c.ins.length<=300) (aA:c.starts.length=p.methods.length) (hm:O im=some (.map (eIL []))):DCall prog 98 [.cptr (cCPg c) 0, .cptr [cChk p c im] 0, .cptr (Ag p) 0] O (LkR p c im O):=by
 obtain⟨p1,p2,p3,p4,p5,p6,p7⟩:=p.wt_le
 have cE:=U1 hk
 have bQ:=H8 hk
 obtain⟨g1,g2,g3,g4,g5⟩:=H7 hk
 have ci:=gens_in hk
 refine Er func98 rfl (by decide) ntmps98 (by simp) ?_
 refine gz ?_ o98
 refine CG [0,1,2,5,6,7,8,10,11,12,13,14,16,17,28,29,30,31,32,33,34,35,36,37,38,39,40,41,42,43,44,45,46,47,48,49,50,51,52,53,54,55,56,57,58,59,60,61,62,63,64,65,66,67,68,69,70,71,72,73,74,75,76,77,78,79,80,81,82,83,84,85,86,87,88,89,90,91,92,93,94,95,96,97,98,99,100,101,102,103,104,105,106,107,108,109,110,111,112] (fun (q:Nat)=>q<=c.ins.length/\BW p c.ins.length c.ins 0=BW p c.ins.length (c.ins.drop q) q) (fun q=>[(18,dI q)]) (fun _=>O) (fun q=>c.ins.length-q) (0) (by exact⟨by omega,rfl⟩) (fun q hI=>?_)
 obtain⟨hq,hA⟩:=hI
 by_cases a8:q<c.ins.length
 ·rw[Ad a8,BW]at hA
  generalize hx:c.ins[q]=x at*
  repeat' first|refine gf hx ?_ o98|apply gy<;>intro hh
  ·rw[hh,Bool.true_and]at hA
   exact⟨q+1,⟨by omega,hA⟩,td1,wkR⟩
  ·rw[hh,Bool.false_and]at hA
   have hL:Ld p c=none:=by unfold Ld;rw[hA];rfl
   exact finMP [] (U':=O) ⟨Keep.refl _ _,by rw[hL]⟩ (Sub.refl _)
 ·rw [Aj a8,BW] at hA
  have bV:Ld p c=HN p c:=by unfold Ld;rw[hA];rfl
  have bp:stsQ p c=⟨c.main,0,false⟩::List.zipWith (Dz p) p.methods c.starts:=rfl
  refine gz ?_ o98
  clear a8 hq
  refine Nf [0,1,2,10,11,12,13,14,33,34,68,69,70,71,72,73,74,75,76,77,78,79,80,81,82,83,84,85,86,87,88,89,90,91,92,93,94,95,96,97,98,99,100,101,102,103,104,105,106,107,108,109,110,111,112] (fun (q:Nat) (out:List CSt) (o:Own) (S1:Sig)=>q<=c.starts.length/\out.length=q+1/\out++List.zipWith (Dz p) (p.methods.drop q) (c.starts.drop q)=stsQ p c/\RowR 3 O S1 (out.map cSt) o) (fun q out o _=>[(35,dI q),(5,.slice (out.map cSt) o)]) (fun _ _ _ S1=>S1) (fun q _ _ _=>c.starts.length-q) (0) ([⟨c.main,0,false⟩]) (.clip) (O) (by exact⟨by omega,rfl,rfl,.inl ⟨rfl,rfl⟩⟩) (fun q out o S1 hI=>?_)
  obtain⟨hq,bq,hO,be⟩:=hI
  by_cases a8:q<c.starts.length
  ·have bJ:q<p.methods.length:=by omega
   rw[Ad a8,Ad bJ,List.zipWith_cons_cons]at hO
   have cM:=ci _ (List.getElem_mem bJ)
   generalize bN:p.methods[q]=m at*
   have ck:p.gens.getD m.gen.toNat 0=p.gens[m.gen.toNat]'(by omega):=by rw[List.getD_eq_getElem?_getD,List.getElem?_eq_getElem (by omega)];rfl
   have bL:LH m=(decide (m.kind=1)||decide (m.kind=4)):=rfl
   have bM:Dz p m c.starts[q]=⟨c.starts[q],p.gens[m.gen.toNat]'(by omega),LH m⟩:=by unfold Dz;rw[ck]
   refine gf bN ?_ (delO 10 o98)
   refine Hy (id:=10) [0,1,2,3,4,5,6,7,8,9,10,11,12,13,14,15,16,17,18,19,20,21] [20] O be.sub ?_
   repeat' first|refine gf bN ?_ o98|apply gy<;>intro hh
   ·have aW:cSt (Dz p m c.starts[q])=[dI c.starts[q],dI (p.gens[m.gen.toNat]'(by omega)),.bool true]:=by rw[bM,bL];simp[cSt,hh]
    refine Vq (sz:=3) be (Sub.refl _) (fun j hj=>?_)
    have bY:WkD (.slice (out.map cSt++[[dI c.starts[q],dI (p.gens[m.gen.toNat]'(by omega)),.bool true]]) (.tag j)) (.slice ((out++[Dz p m c.starts[q]]).map cSt) (.tag j)):=Cq (by rw[<-aW];simp)
    refine gz ?_ o98
    exact⟨q+1,out++[Dz p m c.starts[q]],.tag j,O.set j (.tail 3 ((out++[Dz p m c.starts[q]]).map cSt).length),⟨by omega,by rw[List.length_append,bq];rfl,by rw[List.append_assoc];exact hO,.inr ⟨j,hj,rfl,rfl⟩⟩,td1,wkR⟩
   ·have aW:cSt (Dz p m c.starts[q])=[dI c.starts[q],dI (p.gens[m.gen.toNat]'(by omega)),.bool (decide (m.kind=4))]:=by rw[bM,bL];simp[cSt,hh]
    refine Vq (sz:=3) be (Sub.refl _) (fun j hj=>?_)
    have bY:WkD (.slice (out.map cSt++[[dI c.starts[q],dI (p.gens[m.gen.toNat]'(by omega)),.bool (decide (m.kind=4))]]) (.tag j)) (.slice ((out++[Dz p m c.starts[q]]).map cSt) (.tag j)):=Cq (by rw[<-aW];simp)
    refine gz ?_ o98
    exact⟨q+1,out++[Dz p m c.starts[q]],.tag j,O.set j (.tail 3 ((out++[Dz p m c.starts[q]]).map cSt).length),⟨by omega,by rw[List.length_append,bq];rfl,by rw[List.append_assoc];exact hO,.inr ⟨j,hj,rfl,rfl⟩⟩,td1,wkR⟩
  ·rw [List.drop_eq_nil_of_le (by omega),List.drop_eq_nil_of_le (by omega),List.zipWith_nil_left,List.append_nil] at hO
   have aj:S1 im=some (.map (eIL [])):=be.sub _ _ hm
   have cu:Sub O S1:=be.sub
   have ca:out.length<=17:=by omega
   have bx:∀s∈out,0<=s.env/\s.env<=1000:=fun s hs=>by
    rw[hO,bp]at hs
    rcases List.mem_cons.1 hs with rfl|hs
    ·simp
    ·obtain⟨k,ar,rfl⟩:=List.getElem_of_mem hs
     rw[List.getElem_zipWith]
     have:=bQ (p.methods[k]'(by simp at ar;omega)).gen.toNat
     show 0<=p.gens.getD _ 0/\p.gens.getD _ 0<=1000
     omega
   have bf:MonoG (fun (O:Sig) (W:MetL)=>O im=some (.map (eIL W))):=fun O U' s hg hj=>hj _ _ hg rfl
   refine gz ?_ o98
   refine loopD4 [0,1,68,69,77,78,103,104,105,106,107,108,109,110,111,112] (fun (j:Nat) (W:MetL) (S2:Sig) (js:List Nat)=>j<=out.length/\allL p c out []=allL p c (out.drop j) W/\S2 im=some (.map (eIL W))/\Keep (· = im) O S2/\js.Nodup/\(∀i∈js,O i=none/\S2 i=some .defs)) (fun j _ _ _=>[(70,dI j)]) (fun _ _ S2 _=>S2) (fun _ _ _ js=>js.map .coll) (fun j _ _ _=>out.length-j) (0) ([]) (S1) ([]) (by exact⟨by omega,rfl,aj,fun k x hk _=>cu _ _ hk,by simp,by simp⟩) (fun j W S2 js hI=>?_)
   obtain⟨hj,hR,hm2,ae,bk,aQ⟩:=hI
   by_cases br:j<out.length
   ·rw [Ad br,allL] at hR
    have cn:=bx _ (List.getElem_mem br)
    generalize hs:out[j]=s at*
    refine gf hs ?_ o98
    have bc:∀i:Nat,i=im->S2 i≠none:=fun i hi=>by rw[hi,hm2];simp
    refine rangeG unfC (fun (O:Sig) (W:MetL)=>O im=some (.map (eIL W))) (· = im) (· = im) (Bz p c s F1 W) W (bf.indep _) bf.fresh hm2 bc bc rfl (fun l did LO SL bm hd hl bG cO bn cb=>?_) (fun did W' U' ho aD bz cC bb=>?_) (fun did U' ho aD bz bb=>?_)
    ·have cz:SL l=some LO:=bn.1
     have cy:SL im=some (.map (eIL W)):=bn.2.1
     refine SO p c im s l _ _ _ F1 hp hc hA bQ cn (fun k lv S3 W3 ce aF=>?_) SL W bn (fun a ha S3 W3 o aF=>?_) cb (fun S3 W3 aF=>aF.2.2)
     ·have ba:(S3.set l (Cy LO)) im=some (.map (eIL W3)):=aF.busy bm (bf.indep _) hl
      obtain⟨la,lz⟩:=lv
      have bD:∀x,Keep (· = im) (S3.set l (Cy LO)) ((S3.set l (Cy LO)).set im x):=fun x j y hj hn=>by rw[w7 _ _ hn];exact hj
      have co:=fun (aA:F1 k ⟨la,lz⟩ W3=some (putM (k:Int) ⟨la,lz⟩ W3))=>aA
      refine Nu bm aF.1 ?_
      refine gz ?_ o98
      refine⟨aF.1,?_⟩
      have bW:=aF.bad hl (fun j h=>h) (Keep.refl (· = im) (S3.set l (Cy LO)))
      generalize bU:S3.set l (Cy LO)=Sb at ba bD bW⊢
      cases hh:hasM (k:Int) W3 with
      |false=>
       have aA:F1 k ⟨la,lz⟩ W3=some (putM (k:Int) ⟨la,lz⟩ W3):=by unfold F1;exact if_neg fun h=>by rw[hh]at h;cases h.1
       refine gf (gi ba hh) ?_ o98
       exact endRN aA bm (bf.indep _) aF bG hl (w6 ..) (by rw[bU];exact bD _)
      | true =>
       refine gf (gi ba hh) ?_ o98
       refine eqlS _ (decide (getM ⟨0,0⟩ (k:Int) W3=(⟨la,lz⟩:CLev))) Ti Re (eqLev _ _) ?_
       by_cases he:getM ⟨0,0⟩ (k:Int) W3=(⟨la,lz⟩:CLev)
       ·have aA:F1 k ⟨la,lz⟩ W3=some (putM (k:Int) ⟨la,lz⟩ W3):=by unfold F1;exact if_neg fun h=>h.2 he
        refine gf (gi ba he) ?_ o98
        exact endRN aA bm (bf.indep _) aF bG hl (w6 ..) (by rw[bU];exact bD _)
       ·have aA:F1 k ⟨la,lz⟩ W3=none:=by unfold F1;exact if_pos ⟨hh,he⟩
        refine gf (gi ba he) ?_ o98
        exact endRP aA bW
     ·have e1:l≠a:=fun e=>by rw[<-e,cz]at ha;cases ha
      have e2:im≠a:=fun e=>by rw[<-e,cy]at ha;cases ha
      refine⟨by rw[w7 _ _ e1];exact aF.1,by show(S3.set a o) im=_;rw[w7 _ _ e2];exact aF.2.1,fun j x hj hn=>?_⟩
      rw[w7 _ _ fun e=>?_]
      ·exact aF.2.2 j x hj hn
      ·have:=bn.2.2 j x hj hn
       rw[e,ha]at this;cases this
    ·rw [ho] at hR
     simp only at hR
     refine gz ?_ o98
     have bu:Keep (· = im) O U':=fun k x ar hn=>(bb k x (ae k x ar hn) hn).1
     have bt:(did::js).Nodup:=List.nodup_cons.2 ⟨fun aO=>(by rw[(aQ did aO).2]at aD;cases aD),bk⟩
     have bl:∀i∈did::js,O i=none/\U' i=some .defs:=fun i hi=>by
      rcases List.mem_cons.1 hi with rfl|hi
      ·refine⟨?_,bz⟩
       cases bA:O i with
       |none=>rfl
       |some x=>
        by_cases e:i=im
        ·rw[e,hm2]at aD;cases aD
        ·rw[ae _ _ bA e]at aD;cases aD
      ·obtain⟨h1,h2⟩:=aQ i hi
       exact⟨h1,(bb i _ h2 fun e=>by rw[e,hm2]at h2;cases h2).1⟩
     exact⟨j+1,W',U',did::js,⟨by omega,hR,cC,bu,bt,bl⟩,td1,wkR⟩
    ·rw [ho] at hR
     simp only at hR
     have hL:Ld p c=none:=by rw[bV];unfold HN;rw[<-hO,hR]
     have bu:Keep (· = im) O U':=fun k x ar hn=>(bb k x (ae k x ar hn) hn).1
     have bt:(did::js).Nodup:=List.nodup_cons.2 ⟨fun aO=>(by rw[(aQ did aO).2]at aD;cases aD),bk⟩
     have bl:∀i∈did::js,O i=none/\U' i=some .defs:=fun i hi=>by
      rcases List.mem_cons.1 hi with rfl|hi
      ·refine⟨?_,bz⟩
       cases bA:O i with
       |none=>rfl
       |some x=>
        by_cases e:i=im
        ·rw[e,hm2]at aD;cases aD
        ·rw[ae _ _ bA e]at aD;cases aD
      ·obtain⟨h1,h2⟩:=aQ i hi
       exact⟨h1,(bb i _ h2 fun e=>by rw[e,hm2]at h2;cases h2).1⟩
     exact finMP (did::js) (U':=dels (did::js) U') ⟨fun k x ar hn=>by
      rw[L5 _ U' k fun aO=>by rw[(bl k aO).1]at ar;cases ar];exact bu k x ar hn,by rw[hL]⟩ (Sub.refl _) bt fun i hi=>(bl i hi).2
   ·rw[Aj br,allL]at hR
    have hlen:(eIL W).length=W.length:=by unfold eIL eM;simp
    have hw:Ld p c=if W.length=c.ins.length then some W else none:=by rw[bV];unfold HN;rw[<-hO,hR]
    have bR:Keep (· = im) O (dels js S2):=fun k x ar hn=>by
     rw[L5 _ S2 k fun aO=>by rw[(aQ k aO).1]at ar;cases ar];exact ae k x ar hn
    have cr:(dels js S2) im=some (.map (eIL W)):=by
     rw[L5 _ S2 im fun aO=>by rw[(aQ im aO).1]at hm;cases hm];exact hm2
    by_cases he:W.length=c.ins.length
    ·rw[if_pos he]at hw
     refine gf (gi hm2 (gi hlen he)) ?_ o98
     exact finMN js (U':=dels js S2) (d':=.tup []) ⟨bR,by rw[hw];exact⟨rfl,cr⟩⟩ (Sub.refl _) bk (fun i hi=>(aQ i hi).2) (hw:=A8 _)
    ·rw[if_neg he]at hw
     refine gf (gi hm2 (gi hlen he)) ?_ o98
     exact finMP js (U':=dels js S2) ⟨bR,by rw[hw]⟩ (Sub.refl _) bk fun i hi=>(aQ i hi).2
def LokR(p:BProg)(c:CProg)(O:Sig)(x:DE)(U':Sig):Prop:=match C2 p c with
 |none=>x=.ret .nilp/\U'=O
 |some W=> ∃im,O im=none/\x=.ret (cChk p c im)/\U'=O.set im (.map (eIL W))
theorem M5(p:BProg)(c:CProg)(O:Sig)(hp:p.wt<=1073741824)(bT:c.ins.length<=1073741824)(bS:c.starts.length<=1073741824):DCall prog 44 [.agg (Ag p),.agg (cCPg c)] O (LokR p c O):=by
 obtain⟨p1,p2,p3,p4,p5,p6,p7⟩:=p.wt_le
 refine en func44 ntmps44 ?_
 by_cases aI:okP p=true/\c.ins.length<=300/\c.starts.length=p.methods.length
 ·obtain⟨hk,bh,aA⟩:=aI
  have hL:C2 p c=Ld p c:=by
   unfold C2 Ld
   rw[hk,decide_eq_true bh,decide_eq_true aA]
   simp
  refine gf (gi hk aA) ?_
  refine newIL (fun im ak=>?_)
  refine gf (gi hk aA) ?_
  generalize bB:O.set im (.map (eIL []))=S0
  have aP:S0 im=some (.map (eIL [])):=by rw[<-bB,w6]
  refine A3 (On 98 [.cptr (cCPg c) 0,.cptr [cChk p c im] 0,.cptr (Ag p) 0] S0 (fun S1=>LkR p c im S1) (fun i hi=>UC p c im _ hp hk bh aA (by rw[w7 _ _ fun e=>by rw[<-e,aP]at hi;cases hi];exact aP)) (fun S1 d S2 h=>?_) (fun i S2 x hi h=>h.1 i _ (w6 ..) (fun e=>by rw[e,aP]at hi;cases hi))) (fun d U' hr=>?_) (fun d U' hr=>?_)
  ·obtain⟨_,h⟩:=h
   split at h
   ·simpa using h
   ·exact absurd h.1 (by simp)
  ·obtain⟨i,S2,hi,rfl,hr⟩:=hr
   have cg:im≠i:=fun e=>by rw[<-e,aP]at hi;cases hi
   have au:∀(S3:Sig) (W:MetL),Keep (· = im) (S0.set i (.cells [.bool false])) S3->S3 im=some (.map (eIL W))->Sub (O.set im (.map (eIL W))) (S3.del i):=fun S3 W hK hW k x ar=>by
    by_cases e:k=im
    ·subst e
     rw[w6]at ar
     simp only[Sig.del,cg,if_false];rw[hW];exact ar
    ·rw[w7 _ _ e]at ar
     have e0:S0 k=some x:=by rw[<-bB,w7 _ _ e];exact ar
     have e2:k≠i:=fun e2=>by rw[e2,hi]at e0;cases e0
     simp only[Sig.del,e2,if_false]
     exact hK k x (by rw[w7 _ _ e2];exact e0) e
   rcases hr with⟨e,⟨hK,h⟩,h2⟩|⟨⟨hK,h⟩,h2⟩
   ·cases h2
    split at h
    ·cases h
    ·rename_i W hW
     obtain⟨_,cd⟩:=h
     refine gz ?_
     refine fin1 (U':=O.set im (.map (eIL W))) ?_ (hU:=au _ _ hK cd)
     unfold LokR;rw[hL,hW];exact⟨im,ak,rfl,rfl⟩
   ·cases h2
    split at h
    ·rename_i hW
     refine gz ?_
     refine fin1 (U':=O) (by unfold LokR;rw[hL,hW];exact⟨rfl,rfl⟩) (hU:=fun k x ar=>?_)
     have e:=Af ar ak
     have e0:S0 k=some x:=by rw[<-bB,w7 _ _ e];exact ar
     have e2:k≠i:=fun e2=>by rw[e2,hi]at e0;cases e0
     simp only[Sig.del,e2,if_false]
     exact hK k x (by rw[w7 _ _ e2];exact e0) e
    ·exact absurd h.1 (by simp)
  ·obtain⟨i,S2,hi,rfl,hr⟩:=hr
   rcases hr with⟨e,_,h2⟩|⟨_,h2⟩<;>cases h2
 ·have hL:C2 p c=none:=by
   unfold C2
   exact if_neg fun h=>by
    simp only[Bool.and_eq_true,decide_eq_true_eq]at h
    exact aI ⟨h.1,h.2.1,h.2.2.1⟩
  repeat' first|refine gz ?_|apply gy<;>intro hh
  all_goals first|exact fin1 (U':=O) (by unfold LokR;rw[hL];exact⟨rfl,rfl⟩)|exact absurd ⟨by assumption,by omega,by omega⟩ aI
def DV(c:CProg)(W:MetL):List CLev:=(List.range c.ins.length).map fun k:Nat=>getM ⟨0,0⟩ (k:Int) W
theorem US(p:BProg)(c:CProg)(O:Sig)(hp:p.wt<=1073741824)(bT:c.ins.length<=1073741824)(bS:c.starts.length<=1073741824):DCall prog 25 [.agg (Ag p),.agg (cCPg c)] O (rS (.tup [sl (((C2 p c).map (DV c)).getD [] |>.map cLev),dI (if(C2 p c).isSome then 0 else 2)]) O):=by
 refine en func25 ntmps25 ?_
 refine gz ?_
 refine A3 (M5 p c O hp bT bS) (fun d U' hr=>?_) (fun d U' hr=>?_)
 ·unfold LokR at hr
  cases hL:C2 p c with
  |none=>
   rw[hL]at hr
   obtain⟨e,rfl⟩:=hr
   cases e
   refine gz ?_
   refine fin2 (U':=U') (d':=sl []) (e':=dI 2) ⟨rfl,rfl⟩ (hw:=?_)
   exact An _ (.inl rfl)
  | some W =>
   rw[hL]at hr
   obtain⟨im,ak,e,rfl⟩:=hr
   cases e
   have aP:(O.set im (.map (eIL W))) im=some (.map (eIL W)):=w6 ..
   have bC:Sub O (O.set im (.map (eIL W))):=(Sub.refl _).set ak
   generalize O.set im (.map (eIL W))=S0 at aP bC
   refine gz ?_
   refine HY 7 2 (fun it bP=>?_)
   have nit:im≠it:=Af aP bP
   refine Di [4,5,6,16,30] (fun (k:Nat) (out:List CLev)=>k<=c.ins.length/\out=(List.range k).map fun k:Nat=>getM ⟨0,0⟩ (k:Int) W) (fun k out=>[(17,dI k),(7,.slice (out.map cLev) (.tag it))]) (fun _ out=>S0.set it (.tail 2 out.length)) (fun k _=>c.ins.length-k) (0) ([]) (by exact⟨by omega,rfl⟩) (fun k out hI=>?_)
   obtain⟨hk,hO⟩:=hI
   have bq:out.length=k:=by rw[hO];simp
   by_cases ce:k<c.ins.length
   ·refine gf (gi aP nit) ?_
    exact⟨k+1,out++[getM ⟨0,0⟩ (k:Int) W],⟨by omega,by rw[List.range_succ,List.map_append,<-hO];rfl⟩,td1,wkR⟩
   ·have cf:k=c.ins.length:=by omega
    have cw:out=DV c W:=by rw[hO,cf];rfl
    refine gz ?_
    refine fin2 (U':=O) (d':=sl ((DV c W).map cLev)) (e':=dI 0) ⟨rfl,rfl⟩ (hU:=bC.set (bC.none bP)) (hw:=?_)
    rw[cw];exact Bv _ _
 ·unfold LokR at hr
  split at hr
  ·cases hr.1
  ·obtain⟨_,_,h,_⟩:=hr;cases h
end Go.DL
