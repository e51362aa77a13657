/- A part of the proof. -/
import Derived.Test.YteldimffglchkaaGreatDoorQ21
import Derived.Test.YteldimffglchkaaGreatDoorQ19
import Derived.Test.YteldimffglchkaaGreatDoorQ24
import Derived.Test.YteldimffglchkaaGreatDoorQ20
import Derived.Test.YteldimffglchkaaGreatDoorQ14
set_option linter.all false
namespace Go.DL
open Go.Proofs.Tryz
open Go Go.Proofs
set_option maxHeartbeats 80000000
@[simp] theorem cIns_take(x:CIns):List.take 2 (cIns x)=cIns x:=rfl
@[simp] theorem mem_cIns(y:D)(x:CIns):y∈cIns x ↔ y=dI x.op\/y=dI x.a:=by simp[cIns]
def eIL(m:MetL):List (D×D):=eM dI (fun l=>.agg (cLev l)) m
@[simp] theorem hitILok(k:Int)(m:MetL):hitD tab 79 true (C9 (.int .i64) (.int .i64 k) (eIL m) 0)=some (.tup [.agg [.int .i64 (getM ⟨0,0⟩ k m).st,.int .i64 (getM ⟨0,0⟩ k m).env],.bool (hasM k m)]):=N8 keyI (fun l=>.agg (cLev l)) rfl k m
@[simp] theorem hitIL(k:Int)(m:MetL):hitD tab 79 false (C9 (.int .i64) (.int .i64 k) (eIL m) 0)=some (.agg [.int .i64 (getM ⟨0,0⟩ k m).st,.int .i64 (getM ⟨0,0⟩ k m).env]):=PR keyI (fun l=>.agg (cLev l)) rfl k m
@[simp] theorem putIL(k a b:Int)(m:MetL):Cw (.int .i64) (.int .i64 k) (.agg [.int .i64 a,.int .i64 b]) (eIL m)=some (eIL (putM k ⟨a,b⟩ m)):=MV keyI (fun l=>.agg (cLev l)) k ⟨a,b⟩ m
def ReR(p:BProg)(c:CProg)(im2:Nat)(m:MetL)(n:Int)(l:CLev)(O:Sig)(x:DE)(U':Sig):Prop:=
 if n<0\/(c.ins.length:Int)<=n\/(hasM n m=true/\getM ⟨0,0⟩ n m≠l) then x=.panic unfC/\U'=O else x=.ret (.tup [])/\U'=O.set im2 (.map (eIL (putM n l m)))
theorem Cq(p:BProg)(c:CProg)(im im2:Nat)(m:MetL)(n:Int)(l:CLev)(O:Sig)(hc:c.ins.length<=300)(hm:O im2=some (.map (eIL m))):DCall prog 170 [dI n,.agg (cLev l),.cptr [.map im2] 0,.cptr [cChk p c im] 0] O (ReR p c im2 m n l O):=by
 obtain⟨st,env⟩:=l
 refine en func170 ntmps170 ?_
 by_cases h1:n<0
 ·refine gf hm ?_
  exact finP (U':=O) (by unfold ReR;rw[if_pos (.inl h1)];exact⟨rfl,rfl⟩)
 by_cases h2:(c.ins.length:Int)<=n
 ·refine gf hm ?_
  exact finP (U':=O) (by unfold ReR;rw[if_pos (.inr (.inl h2))];exact⟨rfl,rfl⟩)
 cases hh:hasM n m with
 |false=>
  refine gf (gi hm hh) ?_
  exact DS (U':=O.set im2 (.map (eIL (putM n ⟨st,env⟩ m)))) (by unfold ReR;rw[if_neg (by rintro(h|h|h);exact h1 h;exact h2 h;rw[hh]at h;cases h.1)];exact⟨rfl,rfl⟩)
 | true =>
  refine gf (gi hm hh) ?_
  refine eqlS _ (decide (getM ⟨0,0⟩ n m=(⟨st,env⟩:CLev))) Rv PM (eqLev _ _) ?_
  by_cases he:getM ⟨0,0⟩ n m=(⟨st,env⟩:CLev)
  ·refine gf (gi he hm) ?_
   exact DS (U':=O.set im2 (.map (eIL (putM n ⟨st,env⟩ m)))) (by unfold ReR;rw[if_neg (by rintro(h|h|h);exact h1 h;exact h2 h;exact h.2 he)];exact⟨rfl,rfl⟩)
  ·refine gf he ?_
   exact finP (U':=O) (by unfold ReR;rw[if_pos (.inr (.inr ⟨hh,he⟩))];exact⟨rfl,rfl⟩)
theorem ReR.met{p:BProg}{c:CProg}{im2:Nat}{m:MetL}{n:Int}{l:CLev}{O:Sig}{x:DE}{U':Sig}(h:ReR p c im2 m n l O x U'):(BE c.ins.length (metOf m) n l=none/\x=.panic unfC/\U'=O)\/(BE c.ins.length (metOf m) n l=some (metOf (putM n l m))/\x=.ret (.tup [])/\U'=O.set im2 (.map (eIL (putM n l m)))/\0<=n/\n<c.ins.length):=by
 unfold ReR at h
 unfold BE
 have e:(n<0\/(c.ins.length:Int)<=n\/(hasM n m=true/\getM ⟨0,0⟩ n m≠l)) ↔ (n<0\/(c.ins.length:Int)<=n\/(metOf m n.toNat≠none/\metOf m n.toNat≠some l)):=by
  by_cases h1:n<0
  ·simp[h1]
  ·have hn:((n.toNat:Nat):Int)=n:=by omega
   unfold metOf
   rw[hn]
   cases hh:hasM n m<;>simp
 split at h
 ·rename_i hc
  rw[if_pos (e.1 hc)]
  exact .inl ⟨rfl,h⟩
 ·rename_i hc
  rw[if_neg fun k=>hc (e.2 k)]
  have hn:n=((n.toNat:Nat):Int):=by
   have:¬n<0:=fun k=>hc (.inl k)
   omega
  refine .inr ⟨?_,h.1,h.2,by omega,?_⟩
  ·have h3:=CI m n.toNat l
   rw[<-hn]at h3
   rw[h3]
  ·have:¬(c.ins.length:Int)<=n:=fun k=>hc (.inr (.inl k))
   omega
theorem newIL{ro:Ro}{n:Nat}{ops:Array Oper}{Q:DX->St->Prop}{df:List DDf}{rest:List Oper}{γ:Fr}{O:Sig}{t:Nat}{ty:TypeId}{pos:String}{after:Array Edge}{T:Nat}(h:∀i,O i=none->DOps prog ro n ops Q rest ⟨(t,.map i)::γ,O.set i (.map (eIL [])),df⟩)(bY:decide (t<n)=true:=by exact tdR):DOps prog ro n ops Q (⟨some t,.makeMap T none,ty,pos,after,none⟩::rest) ⟨γ,O,df⟩:=newM h bY
def cSt(s:CSt):List D:=[dI s.pos,dI s.env,.bool s.next]
theorem ST{c:CProg}{q:Nat}(h:q<c.ins.length):AD c q=c.ins[q]:=by unfold AD;rw[List.getElem?_eq_getElem h];rfl
theorem JE{m:MetL}{n:Nat}{lv:CLev}{env:Int}{q:Nat}(hb:∀j l,metOf m j=some l->0<=l.st/\l.st<=q/\env<=l.env/\l.env<=env+q)(h:0<=lv.st/\lv.st<=q+1/\env<=lv.env/\lv.env<=env+q+1){z:Int}(hz:z=(n:Int)): ∀j l,metOf (putM z lv m) j=some l->0<=l.st/\l.st<=((q+1:Nat):Int)/\env<=l.env/\l.env<=env+((q+1:Nat):Int):=fun j l hj=>by
 rw[hz,CI]at hj
 unfold updM at hj
 split at hj
 ·cases hj;omega
 ·have:=hb j l hj;omega
theorem bd_put2{m:MetL}{n k:Nat}{lv:CLev}{env:Int}{q:Nat}(hb:∀j l,metOf m j=some l->0<=l.st/\l.st<=q/\env<=l.env/\l.env<=env+q)(h:0<=lv.st/\lv.st<=q+1/\env<=lv.env/\lv.env<=env+q+1){z y:Int}(hz:z=(n:Int))(hy:y=(k:Int)): ∀j l,metOf (putM z lv (putM y lv m)) j=some l->0<=l.st/\l.st<=((q+1:Nat):Int)/\env<=l.env/\l.env<=env+((q+1:Nat):Int):=fun j l hj=>by
 rw[hz,CI,hy,CI]at hj
 unfold updM at hj
 split at hj
 ·cases hj;omega
 ·split at hj
  ·cases hj;omega
  ·have:=hb j l hj;omega
theorem QV {S:Type} (p:BProg) (c:CProg) (im:Nat) (s:CSt) (lb:Nat) (Good:Sig->S->Prop) (Bad:Sig->Prop) (touch:Nat->Prop) (step:Nat->CLev->S->Option S) (hp:p.wt<=1073741824) (hc:c.ins.length<=300) (bu:BU p c.ins.length c.ins 0=true) (ck : ∀ n:Nat,0<=p.gens.getD n 0/\p.gens.getD n 0<=3) (he:0<=s.env/\s.env<=1000)
  (hy:∀k l O s,k<c.ins.length->Good O s->DYield prog lb [dI k,.agg (cLev l)] O (OutO unfC (.bool true) Good Bad touch O (step k l s))) (O:Sig) (s0:S) (hG:Good O s0)
  (hI:∀a,O a=none->∀S1 s o,Good S1 s->Good (S1.set a o) s) (ht:∀a,O a=none->¬touch a) (hB:∀S1 s,Good S1 s->Bad S1) :
  DCall prog 169 [.yld lb,.cptr [cChk p c im] 0,.cptr (cSt s) 0] O (OutO unfC (.tup []) Good Bad touch O (Bw p c s step s0)):=by
 obtain⟨p1,p2,p3,p4,p5,p6,p7⟩:=p.wt_le
 obtain⟨cp,co⟩:=he
 obtain⟨pos,env,next⟩:=s
 simp only at cp co
 refine en func169 ntmps169 ?_
 refine gz ?_ [] [12]
 refine newIL (fun im2 aj=>?_)
 refine gz ?_ [] [12]
 refine A3 (Cq p c im im2 [] pos ⟨0,env⟩ _ hc (w6 ..)) (fun d U' hr=>?_) (fun d U' hr=>?_)
 ·rcases hr.met with ⟨_,h,_⟩ | ⟨cG,b8,bZ,cF,cE⟩
  ·cases h
  cases b8
  subst bZ
  obtain⟨q0,rfl⟩:∃q0:Nat,pos=(q0:Int):=⟨pos.toNat,by omega⟩
  refine gz ?_ [] [12]
  have nim:∀j o,O j=some o->j≠im2:=fun j o h e=>by rw[e,aj]at h;cases h
  refine Ma [0,1,2,4,5] (fun (q:Nat) (m:MetL) (s1:S) (S1:Sig)=>q0<=q/\q<=c.ins.length/\Good S1 s1/\S1 im2=some (.map (eIL m))/\(∀j o,O j=some o->¬touch j->S1 j=some o)/\Bw p c ⟨(q0:Int),env,next⟩ step s0=Fm p c env next step (c.ins.length-q) q (metOf m) s1 /\ ∀j l,metOf m j=some l->0<=l.st/\l.st<=q/\env<=l.env/\l.env<=env+q) (fun q _ _ _=>[(6,dI q)]) (fun _ _ _ S1=>S1) (fun q _ _ _=>c.ins.length-q) (q0) (putM (q0:Int) ⟨0,env⟩ []) (s0) ((O.set im2 (.map (eIL []))).set im2 (.map (eIL (putM (q0:Int) ⟨0,env⟩ [])))) (by exact⟨Nat.le_refl _,by omega,hI im2 aj _ _ _ (hI im2 aj _ _ _ hG),w6 .., fun j o h _=>by rw[w7 _ _ (nim j o h),w7 _ _ (nim j o h)];exact h,by unfold Bw;rw[if_neg (by simp only;omega),CI];rfl,fun j l h=>by rw[CI]at h;unfold updM at h;split at h;(cases h;simp only;omega);cases h⟩) (fun q m s1 S1 hI=>?_)
  obtain⟨cJ,cH,ax,ai,aD,hR,aK⟩:=hI
  by_cases hq:q<c.ins.length
  ·have aY:c.ins.length-q=(c.ins.length-(q+1))+1:=by omega
   rw[aY,Fm,ST hq]at hR
   have aI:=GX _ _ bu q _ (List.getElem?_eq_getElem hq)
   rw[Nat.zero_add]at aI
   cases aJ:metOf m q with
   | none =>
    have hh:hasM (q:Int) m=false:=by
     unfold metOf at aJ
     split at aJ
     ·cases aJ
     ·rename_i h;simpa using h
    rw[aJ]at hR
    simp only at hR
    refine gf (gi ai hh) ?_ [] [12]
    exact⟨q+1,m,s1,S1,⟨by omega,by omega,ax,ai,aD,hR,fun j l h=>by have:=aK j l h;omega⟩,td1,wkR⟩
   | some l =>
    have hh:hasM (q:Int) m=true/\getM ⟨0,0⟩ (q:Int) m=l:=by
     unfold metOf at aJ
     split at aJ
     ·rename_i h;exact⟨h,by simpa using aJ⟩
     ·cases aJ
    obtain⟨aB,aA⟩:=hh
    obtain⟨b1,b2,b3,b4⟩:=aK q l aJ
    rw[aJ]at hR
    simp only at hR
    have hu:=fun cC:(c.ins[q]).op=19=>(show 0<=(c.ins[q]).a/\(c.ins[q]).a<p.gens.length by unfold fitsQ at aI;rw[cC]at aI;simpa using aI)
    have bG:0<=(Ao p c.ins[q]).1/\(Ao p c.ins[q]).1<=3/\0<=(Ao p c.ins[q]).2/\(Ao p c.ins[q]).2<=1:=by
     have:=ck (c.ins[q]).a.toNat
     unfold Ao
     repeat' split
     all_goals simp only;omega
    obtain⟨x,hx⟩:∃x,x=c.ins[q]:=⟨_,rfl⟩
    rw[<-hx]at hR aI hu bG
    have ae:=hx.symm
    have i171:∀O,Ans 171 [cChk p c im,.agg (cIns x)] O True (.tup [dI (Ao p x).1,dI (Ao p x).2]):=fun O=>ah0 (QU p c im x O hp hu)
    generalize bE:Ao p x=us at*
    obtain⟨take,give⟩:=us
    obtain⟨st,en⟩:=l
    simp only at bG b1 b2 b3 b4
    by_cases aG:¬(take<=st/\(x.op=3->x.a<en)/\(x.op=20->next=true))
    ·have ap:Bw p c ⟨(q0:Int),env,next⟩ step s0=none:=by
      rw[hR]
      have:E7 p c env next q x ⟨st,en⟩ (metOf m)=none:=by
       unfold E7;rw[bE]
       refine if_pos ?_
       by_cases k1:take<=st
       ·by_cases k2:x.op=3->x.a<en
        ·by_cases k3:x.op=20->next=true
         ·exact absurd ⟨k1,k2,k3⟩ aG
         ·rw[Classical.not_imp]at k3
          exact .inr (.inr (.inr ⟨k3.1,by simpa using k3.2⟩))
        ·rw[Classical.not_imp]at k2
         exact .inr (.inl ⟨k2.1,by have:=k2.2;show en<=x.a;omega⟩)
       ·exact .inl (by show st<take;omega)
      rw[this]
     have bc:st<take\/(x.op=3/\en<=x.a)\/(x.op=20/\next=false):=by
      by_cases k1:take<=st
      ·by_cases k2:x.op=3->x.a<en
       ·by_cases k3:x.op=20->next=true
        ·exact absurd ⟨k1,k2,k3⟩ aG
        ·rw[Classical.not_imp]at k3
         exact .inr (.inr ⟨k3.1,by simpa using k3.2⟩)
       ·rw[Classical.not_imp]at k2
        exact .inr (.inl ⟨k2.1,by have:=k2.2;omega⟩)
      ·exact .inl (by omega)
     clear aG hR
     rcases bc with k1|⟨k1,k2⟩|⟨k1,k2⟩
     ·repeat' first|refine gf (gi ai (gi aB (gi aA ae))) ?_ [] [12]|apply gy<;>intro hh
      all_goals exact finP (U':=S1) (by rw[ap];exact⟨rfl,hB _ _ ax⟩)
     ·repeat' first|refine gf (gi ai (gi aB (gi aA (gi ae k1)))) ?_ [] [12]|apply gy<;>intro hh
      all_goals exact finP (U':=S1) (by rw[ap];exact⟨rfl,hB _ _ ax⟩)
     ·repeat' first|refine gf (gi ai (gi aB (gi aA (gi ae (gi k1 k2))))) ?_ [] [12]|apply gy<;>intro hh
      all_goals exact finP (U':=S1) (by rw[ap];exact⟨rfl,hB _ _ ax⟩)
    ·rw [Classical.not_not] at aG
     obtain⟨e1,e2,e3⟩:=aG
     have bi:¬(st<take\/(x.op=3/\en<=x.a)\/(x.op=15/\en<=env)\/(x.op=20/\next=false)) ↔ ¬(x.op=15/\en<=env):=by
      constructor
      ·intro h k;exact h (.inr (.inr (.inl k)))
      ·rintro h (k|⟨k,k2⟩|k|⟨k,k2⟩)
       ·omega
       ·have:=e2 k;omega
       ·exact h k
       ·rw[e3 k]at k2;cases k2
     have aF:∀l:CLev,E7 p c env next q x ⟨st,en⟩ (metOf m)=if(st<take\/(x.op=3/\en<=x.a)\/(x.op=15/\en<=env)\/(x.op=20/\next=false)) then none
      else if x.op=21 then(if st=1/\en=env then some (metOf m) else none)
      else if x.op=14 then BE c.ins.length (metOf m) ((q:Int)+1) ⟨st-take+give,en+1⟩
      else if x.op=15 then BE c.ins.length (metOf m) ((q:Int)+1) ⟨st-take+give,en-1⟩
      else if x.op=18 then BE c.ins.length (metOf m) x.a ⟨st-take+give,en⟩
      else if x.op=17 then(match BE c.ins.length (metOf m) x.a ⟨st-take+give,en⟩with
       |none=>none
       |some m=>BE c.ins.length m ((q:Int)+1) ⟨st-take+give,en⟩)
      else BE c.ins.length (metOf m) ((q:Int)+1) ⟨st-take+give,en⟩:=fun _=>by unfold E7;rw[bE];rfl
     rw[aF ⟨0,0⟩]at hR
     clear aF
     by_cases aL:x.op=21
     ·rw[if_neg (bi.2 (by omega)),if_pos aL]at hR
      by_cases aS:st=1/\en=env
      ·rw[if_pos aS]at hR
       obtain⟨g1,g2⟩:=aS
       simp only at hR
       refine gf (gi ai (gi aB (gi aA (gi ae aL)))) ?_ [] [12]
       refine yldW (hy q ⟨st,en⟩ S1 s1 hq ax) (fun d U2 hr=>?_) (fun d U2 hr=>?_)
       rotate_left
       ·obtain⟨hn,rfl,hb⟩:=hr.pan
        rw[hn]at hR
        have ap:Bw p c ⟨(q0:Int),env,next⟩ step s0=none:=by first|exact hR|(rw[hR];split<;>rfl)
        exact finP (U':=U2) (by rw[ap];exact⟨rfl,hb⟩)
       obtain⟨s2,au,rfl,ak,ac⟩:=hr.ret
       rw[au]at hR
       have hm2:=ac im2 _ ai (ht im2 aj)
       have aw:∀j o,O j=some o->¬touch j->U2 j=some o:=fun j o h1 h2=>ac j o (aD j o h1 h2) h2
       refine gf (gi ae aL) ?_ [] [12]
       refine newV (fun i12 aa=>?_)
       have n12:im2≠i12:=fun e=>by rw[<-e,hm2]at aa;cases aa
       refine gf (gi ae aL) ?_ [] [12]
       exact⟨q+1,m,s2,U2,⟨by omega,by omega,ak,hm2,aw,hR,fun j l h=>by have:=aK j l h;omega⟩,td1,wkR⟩
      ·rw[if_neg aS]at hR
       simp only at hR
       refine gf (gi ai (gi aB (gi aA (gi ae aL)))) ?_ [] [12]
       refine yldW (hy q ⟨st,en⟩ S1 s1 hq ax) (fun d U2 hr=>?_) (fun d U2 hr=>?_)
       rotate_left
       ·obtain⟨hn,rfl,hb⟩:=hr.pan
        have ap:Bw p c ⟨(q0:Int),env,next⟩ step s0=none:=hR
        exact finP (U':=U2) (by rw[ap];exact⟨rfl,hb⟩)
       obtain⟨s2,au,rfl,ak,ac⟩:=hr.ret
       have hm2:=ac im2 _ ai (ht im2 aj)
       have aw:∀j o,O j=some o->¬touch j->U2 j=some o:=fun j o h1 h2=>ac j o (aD j o h1 h2) h2
       refine gf (gi ae aL) ?_ [] [12]
       refine newV (fun i12 aa=>?_)
       have n12:im2≠i12:=fun e=>by rw[<-e,hm2]at aa;cases aa
       repeat' first|refine gf (gi ae aL) ?_ [] [12]|apply gy<;>intro hh
       all_goals exact finP (U':=U2) (by rw[hR];exact⟨rfl,hB _ _ ak⟩)
     have am:∀(i12:Nat) (o o':DObj),im2≠i12->S1=S1->∀U2:Sig,U2 i12=none->Sub (U2.set im2 o) ((U2.set i12 o').set im2 o):=fun i12 o o' hn _ U2 aa k y hk=>by
      by_cases bN:k=im2
      ·subst bN;rw[w6]at hk⊢; exact hk
      ·rw[w7 _ _ bN]at hk⊢
       rw[w7 _ _ (fun e=>by rw[e,aa]at hk;cases hk)];exact hk
     ·by_cases aX:x.op=14
      ·rw[if_neg (bi.2 (by omega)),if_neg aL,if_pos aX]at hR
       refine gf (gi ai (gi aB (gi aA (gi ae aX)))) ?_ [] [12]
       refine yldW (hy q ⟨st,en⟩ S1 s1 hq ax) (fun d U2 hr=>?_) (fun d U2 hr=>?_)
       rotate_left
       ·obtain⟨hn,rfl,hb⟩:=hr.pan
        rw[hn]at hR
        have ap:Bw p c ⟨(q0:Int),env,next⟩ step s0=none:=by first|exact hR|(rw[hR];split<;>rfl)
        exact finP (U':=U2) (by rw[ap];exact⟨rfl,hb⟩)
       obtain⟨s2,au,rfl,ak,ac⟩:=hr.ret
       rw[au]at hR
       have hm2:=ac im2 _ ai (ht im2 aj)
       have aw:∀j o,O j=some o->¬touch j->U2 j=some o:=fun j o h1 h2=>ac j o (aD j o h1 h2) h2
       refine gf (gi ae aX) ?_ [] [12]
       refine newV (fun i12 aa=>?_)
       have n12:im2≠i12:=fun e=>by rw[<-e,hm2]at aa;cases aa
       refine gf (gi ae aX) ?_ [] [12]
       refine A3 (Cq p c im im2 (m) ((q:Int)+1) ⟨st-take+give,en+1⟩ _ hc (by rw[w7 _ _ n12];exact hm2)) (fun d S3 hr=>?_) (fun d S3 hr=>?_)
       rotate_left
       ·rcases hr.met with⟨hn,ah,ag⟩|⟨_,h5,_⟩
        ·cases ah
         subst ag
         rw[hn]at hR
         exact finP (U':=U2) (by rw[hR];exact⟨rfl,hB _ _ ak⟩)
        ·cases h5
       rcases hr.met with⟨_,h5,_⟩|⟨hn,ah,ag,aU,aT⟩
       ·cases h5
       cases ah
       subst ag
       rw[hn]at hR
       simp only at hR
       have ar:=am i12 (.map (eIL (putM ((q:Int)+1) ⟨st-take+give,en+1⟩ m))) (.cells [dI (st-take+give),dI (en+1)]) n12 rfl U2 aa
       refine gf aX ?_ [] [12]
       exact⟨q+1,putM ((q:Int)+1) ⟨st-take+give,en+1⟩ m,s2,U2.set im2 (.map (eIL (putM ((q:Int)+1) ⟨st-take+give,en+1⟩ m))),⟨by omega,by omega,hI im2 aj _ _ _ ak,w6 .., fun j o h1 h2=>by rw[w7 _ _ (nim j o h1)];exact aw j o h1 h2,hR,JE (n:=q+1) aK (by simp only;omega) (by omega)⟩,td1,wkR⟩
      ·by_cases aM:x.op=15
       ·by_cases bD:en<=env
        ·rw[if_pos (.inr (.inr (.inl ⟨aM,bD⟩)))]at hR
         simp only at hR
         refine gf (gi ai (gi aB (gi aA (gi ae aM)))) ?_ [] [12]
         refine yldW (hy q ⟨st,en⟩ S1 s1 hq ax) (fun d U2 hr=>?_) (fun d U2 hr=>?_)
         rotate_left
         ·obtain⟨hn,rfl,hb⟩:=hr.pan
          have ap:Bw p c ⟨(q0:Int),env,next⟩ step s0=none:=hR
          exact finP (U':=U2) (by rw[ap];exact⟨rfl,hb⟩)
         obtain⟨s2,au,rfl,ak,ac⟩:=hr.ret
         have hm2:=ac im2 _ ai (ht im2 aj)
         have aw:∀j o,O j=some o->¬touch j->U2 j=some o:=fun j o h1 h2=>ac j o (aD j o h1 h2) h2
         refine gf (gi ae aM) ?_ [] [12]
         refine newV (fun i12 aa=>?_)
         have n12:im2≠i12:=fun e=>by rw[<-e,hm2]at aa;cases aa
         repeat' first|refine gf (gi ae aM) ?_ [] [12]|apply gy<;>intro hh
         all_goals exact finP (U':=U2) (by rw[hR];exact⟨rfl,hB _ _ ak⟩)
        ·rw[if_neg (bi.2 (by omega)),if_neg aL,if_neg aX,if_pos aM]at hR
         refine gf (gi ai (gi aB (gi aA (gi ae aM)))) ?_ [] [12]
         refine yldW (hy q ⟨st,en⟩ S1 s1 hq ax) (fun d U2 hr=>?_) (fun d U2 hr=>?_)
         rotate_left
         ·obtain⟨hn,rfl,hb⟩:=hr.pan
          rw[hn]at hR
          have ap:Bw p c ⟨(q0:Int),env,next⟩ step s0=none:=by first|exact hR|(rw[hR];split<;>rfl)
          exact finP (U':=U2) (by rw[ap];exact⟨rfl,hb⟩)
         obtain⟨s2,au,rfl,ak,ac⟩:=hr.ret
         rw[au]at hR
         have hm2:=ac im2 _ ai (ht im2 aj)
         have aw:∀j o,O j=some o->¬touch j->U2 j=some o:=fun j o h1 h2=>ac j o (aD j o h1 h2) h2
         refine gf (gi ae aM) ?_ [] [12]
         refine newV (fun i12 aa=>?_)
         have n12:im2≠i12:=fun e=>by rw[<-e,hm2]at aa;cases aa
         refine gf (gi ae aM) ?_ [] [12]
         refine A3 (Cq p c im im2 (m) ((q:Int)+1) ⟨st-take+give,en-1⟩ _ hc (by rw[w7 _ _ n12];exact hm2)) (fun d S3 hr=>?_) (fun d S3 hr=>?_)
         rotate_left
         ·rcases hr.met with⟨hn,ah,ag⟩|⟨_,h5,_⟩
          ·cases ah
           subst ag
           rw[hn]at hR
           exact finP (U':=U2) (by rw[hR];exact⟨rfl,hB _ _ ak⟩)
          ·cases h5
         rcases hr.met with⟨_,h5,_⟩|⟨hn,ah,ag,aU,aT⟩
         ·cases h5
         cases ah
         subst ag
         rw[hn]at hR
         simp only at hR
         have ar:=am i12 (.map (eIL (putM ((q:Int)+1) ⟨st-take+give,en-1⟩ m))) (.cells [dI (st-take+give),dI (en-1)]) n12 rfl U2 aa
         refine gf aM ?_ [] [12]
         exact⟨q+1,putM ((q:Int)+1) ⟨st-take+give,en-1⟩ m,s2,U2.set im2 (.map (eIL (putM ((q:Int)+1) ⟨st-take+give,en-1⟩ m))),⟨by omega,by omega,hI im2 aj _ _ _ ak,w6 .., fun j o h1 h2=>by rw[w7 _ _ (nim j o h1)];exact aw j o h1 h2,hR,JE (n:=q+1) aK (by simp only;omega) (by omega)⟩,td1,wkR⟩
       ·rw [if_neg (bi.2 (by omega)),if_neg aL,if_neg aX,if_neg aM] at hR
        by_cases aW:x.op=18
        ·rw[if_pos aW]at hR
         have bW:(q:Int)<x.a/\x.a<c.ins.length:=by unfold fitsQ at aI;rw[aW]at aI;simpa using aI
         obtain⟨xa,aR⟩:∃xa:Nat,x.a=(xa:Int):=⟨x.a.toNat,by omega⟩
         refine gf (gi ai (gi aB (gi aA (gi ae aW)))) ?_ [] [12]
         refine yldW (hy q ⟨st,en⟩ S1 s1 hq ax) (fun d U2 hr=>?_) (fun d U2 hr=>?_)
         rotate_left
         ·obtain⟨hn,rfl,hb⟩:=hr.pan
          rw[hn]at hR
          have ap:Bw p c ⟨(q0:Int),env,next⟩ step s0=none:=by first|exact hR|(rw[hR];split<;>rfl)
          exact finP (U':=U2) (by rw[ap];exact⟨rfl,hb⟩)
         obtain⟨s2,au,rfl,ak,ac⟩:=hr.ret
         rw[au]at hR
         have hm2:=ac im2 _ ai (ht im2 aj)
         have aw:∀j o,O j=some o->¬touch j->U2 j=some o:=fun j o h1 h2=>ac j o (aD j o h1 h2) h2
         refine gf (gi ae aW) ?_ [] [12]
         refine newV (fun i12 aa=>?_)
         have n12:im2≠i12:=fun e=>by rw[<-e,hm2]at aa;cases aa
         refine gf (gi ae aW) ?_ [] [12]
         refine A3 (Cq p c im im2 (m) (x.a) ⟨st-take+give,en⟩ _ hc (by rw[w7 _ _ n12];exact hm2)) (fun d S3 hr=>?_) (fun d S3 hr=>?_)
         rotate_left
         ·rcases hr.met with⟨hn,ah,ag⟩|⟨_,h5,_⟩
          ·cases ah
           subst ag
           rw[hn]at hR
           exact finP (U':=U2) (by rw[hR];exact⟨rfl,hB _ _ ak⟩)
          ·cases h5
         rcases hr.met with⟨_,h5,_⟩|⟨hn,ah,ag,aU,aT⟩
         ·cases h5
         cases ah
         subst ag
         rw[hn]at hR
         simp only at hR
         have ar:=am i12 (.map (eIL (putM x.a ⟨st-take+give,en⟩ m))) (.cells [dI (st-take+give),dI en]) n12 rfl U2 aa
         refine gf aW ?_ [] [12]
         exact⟨q+1,putM x.a ⟨st-take+give,en⟩ m,s2,U2.set im2 (.map (eIL (putM x.a ⟨st-take+give,en⟩ m))),⟨by omega,by omega,hI im2 aj _ _ _ ak,w6 .., fun j o h1 h2=>by rw[w7 _ _ (nim j o h1)];exact aw j o h1 h2,hR,JE (n:=xa) aK (by simp only;omega) aR⟩,td1,wkR⟩
        ·rw [if_neg aW] at hR
         by_cases aQ:x.op=17
         ·rw[if_pos aQ]at hR
          have bW:(q:Int)<x.a/\x.a<c.ins.length:=by unfold fitsQ at aI;rw[aQ]at aI;simpa using aI
          obtain⟨xa,aR⟩:∃xa:Nat,x.a=(xa:Int):=⟨x.a.toNat,by omega⟩
          refine gf (gi ai (gi aB (gi aA (gi ae aQ)))) ?_ [] [12]
          refine yldW (hy q ⟨st,en⟩ S1 s1 hq ax) (fun d U2 hr=>?_) (fun d U2 hr=>?_)
          rotate_left
          ·obtain⟨hn,rfl,hb⟩:=hr.pan
           rw[hn]at hR
           have ap:Bw p c ⟨(q0:Int),env,next⟩ step s0=none:=by first|exact hR|(rw[hR];split<;>rfl)
           exact finP (U':=U2) (by rw[ap];exact⟨rfl,hb⟩)
          obtain⟨s2,au,rfl,ak,ac⟩:=hr.ret
          rw[au]at hR
          have hm2:=ac im2 _ ai (ht im2 aj)
          have aw:∀j o,O j=some o->¬touch j->U2 j=some o:=fun j o h1 h2=>ac j o (aD j o h1 h2) h2
          refine gf (gi ae aQ) ?_ [] [12]
          refine newV (fun i12 aa=>?_)
          have n12:im2≠i12:=fun e=>by rw[<-e,hm2]at aa;cases aa
          refine gf (gi ae aQ) ?_ [] [12]
          refine A3 (Cq p c im im2 (m) (x.a) ⟨st-take+give,en⟩ _ hc (by rw[w7 _ _ n12];exact hm2)) (fun d S3 hr=>?_) (fun d S3 hr=>?_)
          rotate_left
          ·rcases hr.met with⟨hn,ah,ag⟩|⟨_,h5,_⟩
           ·cases ah
            subst ag
            rw[hn]at hR
            exact finP (U':=U2) (by rw[hR];exact⟨rfl,hB _ _ ak⟩)
           ·cases h5
          rcases hr.met with⟨_,h5,_⟩|⟨hn,ah,ag,aU,aT⟩
          ·cases h5
          cases ah
          subst ag
          rw[hn]at hR
          simp only at hR
          have bH:=am i12 (.map (eIL (putM x.a ⟨st-take+give,en⟩ m))) (.cells [dI (st-take+give),dI en]) n12 rfl U2 aa
          have cz:=hI im2 aj U2 s2 (.map (eIL (putM x.a ⟨st-take+give,en⟩ m))) ak
          refine gf aQ ?_ [] [12]
          refine A3 (Cq p c im im2 (putM x.a ⟨st-take+give,en⟩ m) ((q:Int)+1) ⟨st-take+give,en⟩ _ hc (w6 ..)) (fun d S3 hr=>?_) (fun d S3 hr=>?_)
          rotate_left
          ·rcases hr.met with⟨hn,ah,ag⟩|⟨_,h5,_⟩
           ·cases ah
            subst ag
            rw[hn]at hR
            exact finP (U':=U2.set im2 (.map (eIL (putM x.a ⟨st-take+give,en⟩ m)))) (by rw[hR];exact⟨rfl,hB _ _ cz⟩)
           ·cases h5
          rcases hr.met with⟨_,h5,_⟩|⟨hn,ah,ag,aU,aT⟩
          ·cases h5
          cases ah
          subst ag
          rw[hn]at hR
          simp only at hR
          rw[w8]
          have ar:=am i12 (.map (eIL (putM ((q:Int)+1) ⟨st-take+give,en⟩ (putM x.a ⟨st-take+give,en⟩ m)))) (.cells [dI (st-take+give),dI en]) n12 rfl U2 aa
          refine gf aQ ?_ [] [12]
          exact⟨q+1,putM ((q:Int)+1) ⟨st-take+give,en⟩ (putM x.a ⟨st-take+give,en⟩ m),s2,U2.set im2 (.map (eIL (putM ((q:Int)+1) ⟨st-take+give,en⟩ (putM x.a ⟨st-take+give,en⟩ m)))),⟨by omega,by omega,hI im2 aj _ _ _ ak,w6 .., fun j o h1 h2=>by rw[w7 _ _ (nim j o h1)];exact aw j o h1 h2,hR,bd_put2 (n:=q+1) (k:=xa) aK (by simp only;omega) (by omega) aR⟩,td1,wkR⟩
         ·rw [if_neg aQ] at hR
          by_cases h3:x.op=3
          ·have e2':=e2 h3
           refine gf (gi ai (gi aB (gi aA (gi ae h3)))) ?_ [] [12]
           refine yldW (hy q ⟨st,en⟩ S1 s1 hq ax) (fun d U2 hr=>?_) (fun d U2 hr=>?_)
           rotate_left
           ·obtain⟨hn,rfl,hb⟩:=hr.pan
            rw[hn]at hR
            have ap:Bw p c ⟨(q0:Int),env,next⟩ step s0=none:=by first|exact hR|(rw[hR];split<;>rfl)
            exact finP (U':=U2) (by rw[ap];exact⟨rfl,hb⟩)
           obtain⟨s2,au,rfl,ak,ac⟩:=hr.ret
           rw[au]at hR
           have hm2:=ac im2 _ ai (ht im2 aj)
           have aw:∀j o,O j=some o->¬touch j->U2 j=some o:=fun j o h1 h2=>ac j o (aD j o h1 h2) h2
           refine gf (gi ae h3) ?_ [] [12]
           refine newV (fun i12 aa=>?_)
           have n12:im2≠i12:=fun e=>by rw[<-e,hm2]at aa;cases aa
           refine gf (gi ae h3) ?_ [] [12]
           refine A3 (Cq p c im im2 (m) ((q:Int)+1) ⟨st-take+give,en⟩ _ hc (by rw[w7 _ _ n12];exact hm2)) (fun d S3 hr=>?_) (fun d S3 hr=>?_)
           rotate_left
           ·rcases hr.met with⟨hn,ah,ag⟩|⟨_,h5,_⟩
            ·cases ah
             subst ag
             rw[hn]at hR
             exact finP (U':=U2) (by rw[hR];exact⟨rfl,hB _ _ ak⟩)
            ·cases h5
           rcases hr.met with⟨_,h5,_⟩|⟨hn,ah,ag,aU,aT⟩
           ·cases h5
           cases ah
           subst ag
           rw[hn]at hR
           simp only at hR
           have ar:=am i12 (.map (eIL (putM ((q:Int)+1) ⟨st-take+give,en⟩ m))) (.cells [dI (st-take+give),dI (en)]) n12 rfl U2 aa
           refine gf h3 ?_ [] [12]
           exact⟨q+1,putM ((q:Int)+1) ⟨st-take+give,en⟩ m,s2,U2.set im2 (.map (eIL (putM ((q:Int)+1) ⟨st-take+give,en⟩ m))),⟨by omega,by omega,hI im2 aj _ _ _ ak,w6 .., fun j o h1 h2=>by rw[w7 _ _ (nim j o h1)];exact aw j o h1 h2,hR,JE (n:=q+1) aK (by simp only;omega) (by omega)⟩,td1,wkR⟩
          ·by_cases bh:x.op=20
           ·have e3':=e3 bh
            refine gf (gi ai (gi aB (gi aA (gi ae (gi bh e3'))))) ?_ [] [12]
            refine yldW (hy q ⟨st,en⟩ S1 s1 hq ax) (fun d U2 hr=>?_) (fun d U2 hr=>?_)
            rotate_left
            ·obtain⟨hn,rfl,hb⟩:=hr.pan
             rw[hn]at hR
             have ap:Bw p c ⟨(q0:Int),env,next⟩ step s0=none:=by first|exact hR|(rw[hR];split<;>rfl)
             exact finP (U':=U2) (by rw[ap];exact⟨rfl,hb⟩)
            obtain⟨s2,au,rfl,ak,ac⟩:=hr.ret
            rw[au]at hR
            have hm2:=ac im2 _ ai (ht im2 aj)
            have aw:∀j o,O j=some o->¬touch j->U2 j=some o:=fun j o h1 h2=>ac j o (aD j o h1 h2) h2
            refine gf (gi ae (gi bh e3')) ?_ [] [12]
            refine newV (fun i12 aa=>?_)
            have n12:im2≠i12:=fun e=>by rw[<-e,hm2]at aa;cases aa
            refine gf (gi ae (gi bh e3')) ?_ [] [12]
            refine A3 (Cq p c im im2 (m) ((q:Int)+1) ⟨st-take+give,en⟩ _ hc (by rw[w7 _ _ n12];exact hm2)) (fun d S3 hr=>?_) (fun d S3 hr=>?_)
            rotate_left
            ·rcases hr.met with⟨hn,ah,ag⟩|⟨_,h5,_⟩
             ·cases ah
              subst ag
              rw[hn]at hR
              exact finP (U':=U2) (by rw[hR];exact⟨rfl,hB _ _ ak⟩)
             ·cases h5
            rcases hr.met with⟨_,h5,_⟩|⟨hn,ah,ag,aU,aT⟩
            ·cases h5
            cases ah
            subst ag
            rw[hn]at hR
            simp only at hR
            have ar:=am i12 (.map (eIL (putM ((q:Int)+1) ⟨st-take+give,en⟩ m))) (.cells [dI (st-take+give),dI (en)]) n12 rfl U2 aa
            refine gf (gi bh e3') ?_ [] [12]
            exact⟨q+1,putM ((q:Int)+1) ⟨st-take+give,en⟩ m,s2,U2.set im2 (.map (eIL (putM ((q:Int)+1) ⟨st-take+give,en⟩ m))),⟨by omega,by omega,hI im2 aj _ _ _ ak,w6 .., fun j o h1 h2=>by rw[w7 _ _ (nim j o h1)];exact aw j o h1 h2,hR,JE (n:=q+1) aK (by simp only;omega) (by omega)⟩,td1,wkR⟩
           ·skip
            refine gf (gi ai (gi aB (gi aA ae))) ?_ [] [12]
            refine yldW (hy q ⟨st,en⟩ S1 s1 hq ax) (fun d U2 hr=>?_) (fun d U2 hr=>?_)
            rotate_left
            ·obtain⟨hn,rfl,hb⟩:=hr.pan
             rw[hn]at hR
             have ap:Bw p c ⟨(q0:Int),env,next⟩ step s0=none:=by first|exact hR|(rw[hR];split<;>rfl)
             exact finP (U':=U2) (by rw[ap];exact⟨rfl,hb⟩)
            obtain⟨s2,au,rfl,ak,ac⟩:=hr.ret
            rw[au]at hR
            have hm2:=ac im2 _ ai (ht im2 aj)
            have aw:∀j o,O j=some o->¬touch j->U2 j=some o:=fun j o h1 h2=>ac j o (aD j o h1 h2) h2
            refine gf ae ?_ [] [12]
            refine newV (fun i12 aa=>?_)
            have n12:im2≠i12:=fun e=>by rw[<-e,hm2]at aa;cases aa
            refine gf ae ?_ [] [12]
            refine A3 (Cq p c im im2 (m) ((q:Int)+1) ⟨st-take+give,en⟩ _ hc (by rw[w7 _ _ n12];exact hm2)) (fun d S3 hr=>?_) (fun d S3 hr=>?_)
            rotate_left
            ·rcases hr.met with⟨hn,ah,ag⟩|⟨_,h5,_⟩
             ·cases ah
              subst ag
              rw[hn]at hR
              exact finP (U':=U2) (by rw[hR];exact⟨rfl,hB _ _ ak⟩)
             ·cases h5
            rcases hr.met with⟨_,h5,_⟩|⟨hn,ah,ag,aU,aT⟩
            ·cases h5
            cases ah
            subst ag
            rw[hn]at hR
            simp only at hR
            have ar:=am i12 (.map (eIL (putM ((q:Int)+1) ⟨st-take+give,en⟩ m))) (.cells [dI (st-take+give),dI (en)]) n12 rfl U2 aa
            refine gz ?_ [] [12]
            exact⟨q+1,putM ((q:Int)+1) ⟨st-take+give,en⟩ m,s2,U2.set im2 (.map (eIL (putM ((q:Int)+1) ⟨st-take+give,en⟩ m))),⟨by omega,by omega,hI im2 aj _ _ _ ak,w6 .., fun j o h1 h2=>by rw[w7 _ _ (nim j o h1)];exact aw j o h1 h2,hR,JE (n:=q+1) aK (by simp only;omega) (by omega)⟩,td1,wkR⟩
  ·
   have e0:c.ins.length-q=0:=by omega
   rw[e0,Fm]at hR
   refine gz ?_ [] [12]
   exact DS (U':=S1) (by rw[hR];exact⟨rfl,ax,aD⟩)
 ·rcases hr.met with⟨hn,ah,ag⟩|⟨_,h5,_⟩
  ·cases ah
   subst ag
   have ap:Bw p c ⟨pos,env,next⟩ step s0=none:=by
    unfold Bw
    refine if_pos ?_
    unfold BE at hn
    split at hn
    ·rename_i h
     rcases h with h|h|h
     ·exact .inl h
     ·exact .inr h
     ·exact absurd rfl h.1
    ·cases hn
   exact finP (U':=O) (by rw[ap];exact⟨rfl,hB _ _ hG⟩) ((Sub.refl _).set aj)
  ·cases h5
@[simp] theorem cSt_len(s:CSt):(cSt s).length=3:=rfl
@[simp] theorem cSt_take(s:CSt):List.take 3 (cSt s)=cSt s:=rfl
@[simp] theorem mem_cSt(y:D)(s:CSt):y∈cSt s ↔ y=dI s.pos\/y=dI s.env\/y=.bool s.next:=by simp[cSt]
theorem Rm(p:BProg)(c:CProg)(im:Nat)(s:CSt)(O:Sig):DCall prog 100 [cChk p c im,.agg (cSt s)] O (rS (.func (.func 169) [] [.cptr [cChk p c im] 0,.cptr (cSt s) 0]) O):=by
 refine en func100 ntmps100 ?_
 refine gz ?_
 exact fe1 trivial
@[reducible,instance] def a100:=fun p c im s O=>ah0 (@Rm p c im s O)
theorem KB: ∀(l:List Int) (n m:Int),FN n l=some m->n<=m/\m<=n+l.length
 |[],n,m,h=>by rw[FN]at h;cases h;simp
 | s::r,n,m,h=>by
  rw[FN]at h
  split at h
  ·have:=KB r _ _ h
   simp only[List.length_cons];omega
  ·cases h
theorem Jw: ∀(cs:List BClass) (n m:Int),BZ n cs=some m->n<=m/\m<=n+4*cs.length
 |[],n,m,h=>by rw[BZ]at h;cases h;simp
 | c::r,n,m,h=>by
  rw[BZ]at h
  split at h
  ·cases h
  ·split at h
   ·cases h
   ·rename_i m1 h1
    have:=KB _ _ _ h1
    have:=Jw r _ _ h
    simp only[List.length_cons];omega
theorem Sv{p:BProg}(h:okP p=true):0<=p.slots/\p.slots<=40:=by
 have h:=Eb h
 unfold AC at h
 simp only[Bool.and_eq_true,decide_eq_true_eq]at h
 obtain⟨cO,h⟩:=h
 split at h
 ·cases h
 ·rename_i n hn
  simp only[Bool.and_eq_true,decide_eq_true_eq]at h
  have:=Jw _ _ _ hn
  omega
theorem KL(p:BProg): ∀(l:List BMeth) (s s':List Int),Cc p l s=some s'->∀m∈l,0<=m.gen/\m.gen<p.gens.length
 |[],_,_,_,m,hm=>by cases hm
 | a::r,s,s',h,m,hm=>by
  rw[Cc]at h
  split at h
  ·rename_i bJ
   rcases List.mem_cons.1 hm with rfl|hm
   ·simp only[HW,Bool.and_eq_true,decide_eq_true_eq]at bJ
    exact bJ.1.1.2
   ·split at h
    ·cases h
    ·exact KL p r _ _ h m hm
  ·cases h
theorem gens_in{p:BProg}(h:okP p=true): ∀m∈p.methods,0<=m.gen/\m.gen<p.gens.length:=by
 unfold okP Di at h
 split at h
 ·cases hm:Cc p p.methods (List.replicate p.nodes.length (-1))with
  |none=>rw[hm]at h;simp at h
  |some s=>exact KL p _ _ _ hm
 ·cases h
def Km(p:BProg)(c:CProg):Option MetL:=if BU p c.ins.length c.ins 0 then Hq p c else none
def LkR(p:BProg)(c:CProg)(im:Nat)(O:Sig)(x:DE)(U':Sig):Prop:=Keep (· = im) O U'/\match Km p c with
 |none=>x=.panic unfC
 |some W=>x=.ret (.tup [])/\U' im=some (.map (eIL W))
theorem finMN{P:Program}{n:Nat}{fn:Func}{R:DE->Sig->Prop}{γ:Fr}{O U':Sig}{d d':D}(js:List Nat)(hR:R (.ret d') U')(hU:Sub U' (dels js O))(hn:js.Nodup:=by simp)(hd:∀j∈js,O j=some .defs:=by simp)(h:resD fn γ=some d:=by exact tdR)(hw:WkD d d'): ∃s',Wk P n ⟨γ,O,js.map .coll⟩ s'/\OH P n fn (Weak R) .normal s':=
 ⟨_,Wk.refl _ _ _,js,rfl,hn,hd,d,CW h,.ret d',U',hw,hU,hR⟩
theorem T7 (p:BProg) (c:CProg) (im:Nat) (O:Sig) (hp:p.wt<=1073741824) (hk:okP p=true) (hc:c.ins.length<=300) (ay:c.starts.length=p.methods.length) (hm:O im=some (.map (eIL []))):DCall prog 98 [.cptr (cCPg c) 0, .cptr [cChk p c im] 0, .cptr (Ag p) 0] O (LkR p c im O):=by
 obtain⟨p1,p2,p3,p4,p5,p6,p7⟩:=p.wt_le
 have cD:=Sv hk
 have bP:=GP hk
 obtain⟨g1,g2,g3,g4,g5⟩:=GO hk
 have cg:=gens_in hk
 refine Ej func98 rfl (by decide) ntmps98 (by simp) ?_
 refine gz ?_ o98
 refine CJ [0,1,2,5,6,7,8,10,11,12,13,14,16,17,28,29,30,31,32,33,34,35,36,37,38,39,40,41,42,43,44,45,46,47,48,49,50,51,52,53,54,55,56,57,58,59,60,61,62,63,64,65,66,67,68,69,70,71,72,73,74,75,76,77,78,79,80,81,82,83,84,85,86,87,88,89,90,91,92,93,94,95,96,97,98,99,100,101,102,103,104,105,106,107,108,109,110,111,112] (fun (q:Nat)=>q<=c.ins.length/\BU p c.ins.length c.ins 0=BU p c.ins.length (c.ins.drop q) q) (fun q=>[(18,dI q)]) (fun _=>O) (fun q=>c.ins.length-q) (0) (by exact⟨by omega,rfl⟩) (fun q hI=>?_)
 obtain⟨hq,hA⟩:=hI
 by_cases aZ:q<c.ins.length
 ·rw[Ac aZ,BU]at hA
  generalize hx:c.ins[q]=x at*
  repeat' first|refine gf hx ?_ o98|apply gy<;>intro hh
  ·rw[hh,Bool.true_and]at hA
   exact⟨q+1,⟨by omega,hA⟩,td1,wkR⟩
  ·rw[hh,Bool.false_and]at hA
   have hL:Km p c=none:=by unfold Km;rw[hA];rfl
   exact finMP [] (U':=O) ⟨Keep.refl _ _,by rw[hL]⟩ (Sub.refl _)
 ·rw [Ai aZ,BU] at hA
  have bU:Km p c=Hq p c:=by unfold Km;rw[hA];rfl
  have bn:stsQ p c=⟨c.main,0,false⟩::List.zipWith (Dt p) p.methods c.starts:=rfl
  refine gz ?_ o98
  clear aZ hq
  refine Ma [0,1,2,10,11,12,13,14,33,34,68,69,70,71,72,73,74,75,76,77,78,79,80,81,82,83,84,85,86,87,88,89,90,91,92,93,94,95,96,97,98,99,100,101,102,103,104,105,106,107,108,109,110,111,112] (fun (q:Nat) (out:List CSt) (o:Own) (S1:Sig)=>q<=c.starts.length/\out.length=q+1/\out++List.zipWith (Dt p) (p.methods.drop q) (c.starts.drop q)=stsQ p c/\RowR 3 O S1 (out.map cSt) o) (fun q out o _=>[(35,dI q),(5,.slice (out.map cSt) o)]) (fun _ _ _ S1=>S1) (fun q _ _ _=>c.starts.length-q) (0) ([⟨c.main,0,false⟩]) (.clip) (O) (by exact⟨by omega,rfl,rfl,.inl ⟨rfl,rfl⟩⟩) (fun q out o S1 hI=>?_)
  obtain⟨hq,bp,hO,bd⟩:=hI
  by_cases aZ:q<c.starts.length
  ·have bI:q<p.methods.length:=by omega
   rw[Ac aZ,Ac bI,List.zipWith_cons_cons]at hO
   have cK:=cg _ (List.getElem_mem bI)
   generalize bM:p.methods[q]=m at*
   have ci:p.gens.getD m.gen.toNat 0=p.gens[m.gen.toNat]'(by omega):=by rw[List.getD_eq_getElem?_getD,List.getElem?_eq_getElem (by omega)];rfl
   have bK:KI m=(decide (m.kind=1)||decide (m.kind=4)):=rfl
   have bL:Dt p m c.starts[q]=⟨c.starts[q],p.gens[m.gen.toNat]'(by omega),KI m⟩:=by unfold Dt;rw[ci]
   refine gf bM ?_ (delO 10 o98)
   refine Hf (id:=10) [0,1,2,3,4,5,6,7,8,9,10,11,12,13,14,15,16,17,18,19,20,21] [20] O bd.sub ?_
   repeat' first|refine gf bM ?_ o98|apply gy<;>intro hh
   ·have aV:cSt (Dt p m c.starts[q])=[dI c.starts[q],dI (p.gens[m.gen.toNat]'(by omega)),.bool true]:=by rw[bL,bK];simp[cSt,hh]
    refine TS (sz:=3) bd (Sub.refl _) (fun j hj=>?_)
    have bX:WkD (.slice (out.map cSt++[[dI c.starts[q],dI (p.gens[m.gen.toNat]'(by omega)),.bool true]]) (.tag j)) (.slice ((out++[Dt p m c.starts[q]]).map cSt) (.tag j)):=Ch (by rw[<-aV];simp)
    refine gz ?_ o98
    exact⟨q+1,out++[Dt p m c.starts[q]],.tag j,O.set j (.tail 3 ((out++[Dt p m c.starts[q]]).map cSt).length),⟨by omega,by rw[List.length_append,bp];rfl,by rw[List.append_assoc];exact hO,.inr ⟨j,hj,rfl,rfl⟩⟩,td1,wkR⟩
   ·have aV:cSt (Dt p m c.starts[q])=[dI c.starts[q],dI (p.gens[m.gen.toNat]'(by omega)),.bool (decide (m.kind=4))]:=by rw[bL,bK];simp[cSt,hh]
    refine TS (sz:=3) bd (Sub.refl _) (fun j hj=>?_)
    have bX:WkD (.slice (out.map cSt++[[dI c.starts[q],dI (p.gens[m.gen.toNat]'(by omega)),.bool (decide (m.kind=4))]]) (.tag j)) (.slice ((out++[Dt p m c.starts[q]]).map cSt) (.tag j)):=Ch (by rw[<-aV];simp)
    refine gz ?_ o98
    exact⟨q+1,out++[Dt p m c.starts[q]],.tag j,O.set j (.tail 3 ((out++[Dt p m c.starts[q]]).map cSt).length),⟨by omega,by rw[List.length_append,bp];rfl,by rw[List.append_assoc];exact hO,.inr ⟨j,hj,rfl,rfl⟩⟩,td1,wkR⟩
  ·rw [List.drop_eq_nil_of_le (by omega),List.drop_eq_nil_of_le (by omega),List.zipWith_nil_left,List.append_nil] at hO
   have ai:S1 im=some (.map (eIL [])):=bd.sub _ _ hm
   have cr:Sub O S1:=bd.sub
   have b9:out.length<=17:=by omega
   have bw:∀s∈out,0<=s.env/\s.env<=1000:=fun s hs=>by
    rw[hO,bn]at hs
    rcases List.mem_cons.1 hs with rfl|hs
    ·simp
    ·obtain⟨k,aq,rfl⟩:=List.getElem_of_mem hs
     rw[List.getElem_zipWith]
     have:=bP (p.methods[k]'(by simp at aq;omega)).gen.toNat
     show 0<=p.gens.getD _ 0/\p.gens.getD _ 0<=1000
     omega
   have be:MonoG (fun (O:Sig) (W:MetL)=>O im=some (.map (eIL W))):=fun O U' s hg hj=>hj _ _ hg rfl
   refine gz ?_ o98
   refine loopD4 [0,1,68,69,77,78,103,104,105,106,107,108,109,110,111,112] (fun (j:Nat) (W:MetL) (U2:Sig) (js:List Nat)=>j<=out.length/\allL p c out []=allL p c (out.drop j) W/\U2 im=some (.map (eIL W))/\Keep (· = im) O U2/\js.Nodup/\(∀i∈js,O i=none/\U2 i=some .defs)) (fun j _ _ _=>[(70,dI j)]) (fun _ _ U2 _=>U2) (fun _ _ _ js=>js.map .coll) (fun j _ _ _=>out.length-j) (0) ([]) (S1) ([]) (by exact⟨by omega,rfl,ai,fun k x hk _=>cr _ _ hk,by simp,by simp⟩) (fun j W U2 js hI=>?_)
   obtain⟨hj,hR,hm2,ac,bj,aP⟩:=hI
   by_cases bq:j<out.length
   ·rw [Ac bq,allL] at hR
    have cm:=bw _ (List.getElem_mem bq)
    generalize hs:out[j]=s at*
    refine gf hs ?_ o98
    have bb:∀i:Nat,i=im->U2 i≠none:=fun i hi=>by rw[hi,hm2];simp
    refine rangeG unfC (fun (O:Sig) (W:MetL)=>O im=some (.map (eIL W))) (· = im) (· = im) (Bw p c s EJ W) W (be.indep _) be.fresh hm2 bb bb rfl (fun l did LO SL bl hd hl bF cM bm ca=>?_) (fun did W' U' ho aC bx cB ba=>?_) (fun did U' ho aC bx ba=>?_)
    ·have cy:SL l=some LO:=bm.1
     have cw:SL im=some (.map (eIL W)):=bm.2.1
     refine QV p c im s l _ _ _ EJ hp hc hA bP cm (fun k lv S3 W3 cd aE=>?_) SL W bm (fun a ha S3 W3 o aE=>?_) ca (fun S3 W3 aE=>aE.2.2)
     ·have a8:(S3.set l (Cr LO)) im=some (.map (eIL W3)):=aE.busy bl (be.indep _) hl
      obtain⟨la,lz⟩:=lv
      have bC:∀x,Keep (· = im) (S3.set l (Cr LO)) ((S3.set l (Cr LO)).set im x):=fun x j y hj hn=>by rw[w7 _ _ hn];exact hj
      have cn:=fun (ay:EJ k ⟨la,lz⟩ W3=some (putM (k:Int) ⟨la,lz⟩ W3))=>ay
      refine Mn bl aE.1 ?_
      refine gz ?_ o98
      refine⟨aE.1,?_⟩
      have bV:=aE.bad hl (fun j h=>h) (Keep.refl (· = im) (S3.set l (Cr LO)))
      generalize bT:S3.set l (Cr LO)=Sb at a8 bC bV⊢
      cases hh:hasM (k:Int) W3 with
      |false=>
       have ay:EJ k ⟨la,lz⟩ W3=some (putM (k:Int) ⟨la,lz⟩ W3):=by unfold EJ;exact if_neg fun h=>by rw[hh]at h;cases h.1
       refine gf (gi a8 hh) ?_ o98
       exact endRN ay bl (be.indep _) aE bF hl (w6 ..) (by rw[bT];exact bC _)
      | true =>
       refine gf (gi a8 hh) ?_ o98
       refine eqlS _ (decide (getM ⟨0,0⟩ (k:Int) W3=(⟨la,lz⟩:CLev))) Rv PM (eqLev _ _) ?_
       by_cases he:getM ⟨0,0⟩ (k:Int) W3=(⟨la,lz⟩:CLev)
       ·have ay:EJ k ⟨la,lz⟩ W3=some (putM (k:Int) ⟨la,lz⟩ W3):=by unfold EJ;exact if_neg fun h=>h.2 he
        refine gf (gi a8 he) ?_ o98
        exact endRN ay bl (be.indep _) aE bF hl (w6 ..) (by rw[bT];exact bC _)
       ·have ay:EJ k ⟨la,lz⟩ W3=none:=by unfold EJ;exact if_pos ⟨hh,he⟩
        refine gf (gi a8 he) ?_ o98
        exact endRP ay bV
     ·have e1:l≠a:=fun e=>by rw[<-e,cy]at ha;cases ha
      have e2:im≠a:=fun e=>by rw[<-e,cw]at ha;cases ha
      refine⟨by rw[w7 _ _ e1];exact aE.1,by show(S3.set a o) im=_;rw[w7 _ _ e2];exact aE.2.1,fun j x hj hn=>?_⟩
      rw[w7 _ _ fun e=>?_]
      ·exact aE.2.2 j x hj hn
      ·have:=bm.2.2 j x hj hn
       rw[e,ha]at this;cases this
    ·rw [ho] at hR
     simp only at hR
     refine gz ?_ o98
     have bt:Keep (· = im) O U':=fun k x aq hn=>(ba k x (ac k x aq hn) hn).1
     have br:(did::js).Nodup:=List.nodup_cons.2 ⟨fun aN=>(by rw[(aP did aN).2]at aC;cases aC),bj⟩
     have bk:∀i∈did::js,O i=none/\U' i=some .defs:=fun i hi=>by
      rcases List.mem_cons.1 hi with rfl|hi
      ·refine⟨?_,bx⟩
       cases bz:O i with
       |none=>rfl
       |some x=>
        by_cases e:i=im
        ·rw[e,hm2]at aC;cases aC
        ·rw[ac _ _ bz e]at aC;cases aC
      ·obtain⟨h1,h2⟩:=aP i hi
       exact⟨h1,(ba i _ h2 fun e=>by rw[e,hm2]at h2;cases h2).1⟩
     exact⟨j+1,W',U',did::js,⟨by omega,hR,cB,bt,br,bk⟩,td1,wkR⟩
    ·rw [ho] at hR
     simp only at hR
     have hL:Km p c=none:=by rw[bU];unfold Hq;rw[<-hO,hR]
     have bt:Keep (· = im) O U':=fun k x aq hn=>(ba k x (ac k x aq hn) hn).1
     have br:(did::js).Nodup:=List.nodup_cons.2 ⟨fun aN=>(by rw[(aP did aN).2]at aC;cases aC),bj⟩
     have bk:∀i∈did::js,O i=none/\U' i=some .defs:=fun i hi=>by
      rcases List.mem_cons.1 hi with rfl|hi
      ·refine⟨?_,bx⟩
       cases bz:O i with
       |none=>rfl
       |some x=>
        by_cases e:i=im
        ·rw[e,hm2]at aC;cases aC
        ·rw[ac _ _ bz e]at aC;cases aC
      ·obtain⟨h1,h2⟩:=aP i hi
       exact⟨h1,(ba i _ h2 fun e=>by rw[e,hm2]at h2;cases h2).1⟩
     exact finMP (did::js) (U':=dels (did::js) U') ⟨fun k x aq hn=>by
      rw[Kg _ U' k fun aN=>by rw[(bk k aN).1]at aq;cases aq];exact bt k x aq hn,by rw[hL]⟩ (Sub.refl _) br fun i hi=>(bk i hi).2
   ·rw[Ai bq,allL]at hR
    have hlen:(eIL W).length=W.length:=by unfold eIL eM;simp
    have hw:Km p c=if W.length=c.ins.length then some W else none:=by rw[bU];unfold Hq;rw[<-hO,hR]
    have bQ:Keep (· = im) O (dels js U2):=fun k x aq hn=>by
     rw[Kg _ U2 k fun aN=>by rw[(aP k aN).1]at aq;cases aq];exact ac k x aq hn
    have cq:(dels js U2) im=some (.map (eIL W)):=by
     rw[Kg _ U2 im fun aN=>by rw[(aP im aN).1]at hm;cases hm];exact hm2
    by_cases he:W.length=c.ins.length
    ·rw[if_pos he]at hw
     refine gf (gi hm2 (gi hlen he)) ?_ o98
     exact finMN js (U':=dels js U2) (d':=.tup []) ⟨bQ,by rw[hw];exact⟨rfl,cq⟩⟩ (Sub.refl _) bj (fun i hi=>(aP i hi).2) (hw:=A8 _)
    ·rw[if_neg he]at hw
     refine gf (gi hm2 (gi hlen he)) ?_ o98
     exact finMP js (U':=dels js U2) ⟨bQ,by rw[hw]⟩ (Sub.refl _) bj fun i hi=>(aP i hi).2
def LokR(p:BProg)(c:CProg)(O:Sig)(x:DE)(U':Sig):Prop:=match BX p c with
 |none=>x=.ret .nilp/\U'=O
 |some W=> ∃im,O im=none/\x=.ret (cChk p c im)/\U'=O.set im (.map (eIL W))
theorem L3(p:BProg)(c:CProg)(O:Sig)(hp:p.wt<=1073741824)(bS:c.ins.length<=1073741824)(bR:c.starts.length<=1073741824):DCall prog 44 [.agg (Ag p),.agg (cCPg c)] O (LokR p c O):=by
 obtain⟨p1,p2,p3,p4,p5,p6,p7⟩:=p.wt_le
 refine en func44 ntmps44 ?_
 by_cases aH:okP p=true/\c.ins.length<=300/\c.starts.length=p.methods.length
 ·obtain⟨hk,bf,ay⟩:=aH
  have hL:BX p c=Km p c:=by
   unfold BX Km
   rw[hk,decide_eq_true bf,decide_eq_true ay]
   simp
  refine gf (gi hk ay) ?_
  refine newIL (fun im aj=>?_)
  refine gf (gi hk ay) ?_
  generalize bA:O.set im (.map (eIL []))=S0
  have aO:S0 im=some (.map (eIL [])):=by rw[<-bA,w6]
  refine A3 (Nd 98 [.cptr (cCPg c) 0,.cptr [cChk p c im] 0,.cptr (Ag p) 0] S0 (fun S1=>LkR p c im S1) (fun i hi=>T7 p c im _ hp hk bf ay (by rw[w7 _ _ fun e=>by rw[<-e,aO]at hi;cases hi];exact aO)) (fun S1 d U2 h=>?_) (fun i U2 x hi h=>h.1 i _ (w6 ..) (fun e=>by rw[e,aO]at hi;cases hi))) (fun d U' hr=>?_) (fun d U' hr=>?_)
  ·obtain⟨_,h⟩:=h
   split at h
   ·simpa using h
   ·exact absurd h.1 (by simp)
  ·obtain⟨i,U2,hi,rfl,hr⟩:=hr
   have cf:im≠i:=fun e=>by rw[<-e,aO]at hi;cases hi
   have ar:∀(S3:Sig) (W:MetL),Keep (· = im) (S0.set i (.cells [.bool false])) S3->S3 im=some (.map (eIL W))->Sub (O.set im (.map (eIL W))) (S3.del i):=fun S3 W hK hW k x aq=>by
    by_cases e:k=im
    ·subst e
     rw[w6]at aq
     simp only[Sig.del,cf,if_false];rw[hW];exact aq
    ·rw[w7 _ _ e]at aq
     have e0:S0 k=some x:=by rw[<-bA,w7 _ _ e];exact aq
     have e2:k≠i:=fun e2=>by rw[e2,hi]at e0;cases e0
     simp only[Sig.del,e2,if_false]
     exact hK k x (by rw[w7 _ _ e2];exact e0) e
   rcases hr with⟨e,⟨hK,h⟩,h2⟩|⟨⟨hK,h⟩,h2⟩
   ·cases h2
    split at h
    ·cases h
    ·rename_i W hW
     obtain⟨_,cb⟩:=h
     refine gz ?_
     refine fin1 (U':=O.set im (.map (eIL W))) ?_ (hU:=ar _ _ hK cb)
     unfold LokR;rw[hL,hW];exact⟨im,aj,rfl,rfl⟩
   ·cases h2
    split at h
    ·rename_i hW
     refine gz ?_
     refine fin1 (U':=O) (by unfold LokR;rw[hL,hW];exact⟨rfl,rfl⟩) (hU:=fun k x aq=>?_)
     have e:=An aq aj
     have e0:S0 k=some x:=by rw[<-bA,w7 _ _ e];exact aq
     have e2:k≠i:=fun e2=>by rw[e2,hi]at e0;cases e0
     simp only[Sig.del,e2,if_false]
     exact hK k x (by rw[w7 _ _ e2];exact e0) e
    ·exact absurd h.1 (by simp)
  ·obtain⟨i,U2,hi,rfl,hr⟩:=hr
   rcases hr with⟨e,_,h2⟩|⟨_,h2⟩<;>cases h2
 ·have hL:BX p c=none:=by
   unfold BX
   exact if_neg fun h=>by
    simp only[Bool.and_eq_true,decide_eq_true_eq]at h
    exact aH ⟨h.1,h.2.1,h.2.2.1⟩
  repeat' first|refine gz ?_|apply gy<;>intro hh
  all_goals first|exact fin1 (U':=O) (by unfold LokR;rw[hL];exact⟨rfl,rfl⟩)|exact absurd ⟨by assumption,by omega,by omega⟩ aH
def DQ(c:CProg)(W:MetL):List CLev:=(List.range c.ins.length).map fun k:Nat=>getM ⟨0,0⟩ (k:Int) W
theorem To(p:BProg)(c:CProg)(O:Sig)(hp:p.wt<=1073741824)(bS:c.ins.length<=1073741824)(bR:c.starts.length<=1073741824):DCall prog 25 [.agg (Ag p),.agg (cCPg c)] O (rS (.tup [sl (((BX p c).map (DQ c)).getD [] |>.map cLev),dI (if(BX p c).isSome then 0 else 2)]) O):=by
 refine en func25 ntmps25 ?_
 refine gz ?_
 refine A3 (L3 p c O hp bS bR) (fun d U' hr=>?_) (fun d U' hr=>?_)
 ·unfold LokR at hr
  cases hL:BX p c with
  |none=>
   rw[hL]at hr
   obtain⟨e,rfl⟩:=hr
   cases e
   refine gz ?_
   refine fin2 (U':=U') (d':=sl []) (e':=dI 2) ⟨rfl,rfl⟩ (hw:=?_)
   exact Ak _ (.inl rfl)
  | some W =>
   rw[hL]at hr
   obtain⟨im,aj,e,rfl⟩:=hr
   cases e
   have aO:(O.set im (.map (eIL W))) im=some (.map (eIL W)):=w6 ..
   have bB:Sub O (O.set im (.map (eIL W))):=(Sub.refl _).set aj
   generalize O.set im (.map (eIL W))=S0 at aO bB
   refine gz ?_
   refine HA 7 2 (fun it bO=>?_)
   have nit:im≠it:=An aO bO
   refine Db [4,5,6,16,30] (fun (k:Nat) (out:List CLev)=>k<=c.ins.length/\out=(List.range k).map fun k:Nat=>getM ⟨0,0⟩ (k:Int) W) (fun k out=>[(17,dI k),(7,.slice (out.map cLev) (.tag it))]) (fun _ out=>S0.set it (.tail 2 out.length)) (fun k _=>c.ins.length-k) (0) ([]) (by exact⟨by omega,rfl⟩) (fun k out hI=>?_)
   obtain⟨hk,hO⟩:=hI
   have bp:out.length=k:=by rw[hO];simp
   by_cases cd:k<c.ins.length
   ·refine gf (gi aO nit) ?_
    exact⟨k+1,out++[getM ⟨0,0⟩ (k:Int) W],⟨by omega,by rw[List.range_succ,List.map_append,<-hO];rfl⟩,td1,wkR⟩
   ·have ce:k=c.ins.length:=by omega
    have cu:out=DQ c W:=by rw[hO,ce];rfl
    refine gz ?_
    refine fin2 (U':=O) (d':=sl ((DQ c W).map cLev)) (e':=dI 0) ⟨rfl,rfl⟩ (hU:=bB.set (bB.none bO)) (hw:=?_)
    rw[cu];exact BD _ _
 ·unfold LokR at hr
  split at hr
  ·cases hr.1
  ·obtain⟨_,_,h,_⟩:=hr;cases h
end Go.DL
