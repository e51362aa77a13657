/- A part of the proof. -/
import Derived.Test.YteldimffglchkaaGreatDoorN15
import Derived.Lib.Split
import Derived.Lib.AtoiAll
import Derived.Lib.SplitLaws
import Derived.Lib.Strings
import Derived.Test.YteldimffglchkaaGreatDoorN09
import Derived.Test.YteldimffglchkaaGreatDoorRows
import Derived.WideKeyArgs
import Derived.ChangeSame
import Derived.WalkKit
import Derived.ProofKit
import Derived.OpenShut
import Derived.JoinedCond
import Derived.Test.YteldimffglchkaaGreatDoorCards
import Derived.Test.YteldimffglchkaaGreatDoorTie
import Derived.Deep.DeepHandedRow
import Derived.Lib.LaidTab
import Derived.Test.YteldimffglchkaaGreatDoorN11
set_option linter.all false
namespace Go.DL
open Go.Proofs.Tryz
open Go Go.Proofs
def toC(p:BProg)(x:CIns)(l:CLev):CLev:=
 ⟨l.st-(Ao p x).1+(Ao p x).2,if x.op=14 then l.env+1 else if x.op=15 then l.env-1 else l.env⟩
structure InsOK(p:BProg)(N k:Nat)(x:CIns)(l:CLev)(m:Met)(env:Int)(next:Bool):Prop where
 take:(Ao p x).1<=l.st
 name:x.op=3->x.a<l.env
 drop:x.op=15->env<l.env
 nexts:x.op=20->next=true
 fin:x.op=21->l.st=1/\l.env=env
 on:x.op≠21->x.op≠18->k+1<N/\m (k+1)=some (toC p x l)
 jump:x.op=17\/x.op=18->0<=x.a/\x.a<N/\m x.a.toNat=some (toC p x l)
theorem DU{N:Nat}{met m:Met}{n:Int}{l:CLev}(h:BJ N met n l=some m):0<=n/\n<N/\m n.toNat=some l /\ ∀j x,met j=some x->m j=some x:=by
 unfold BJ at h
 split at h
 ·cases h
 ·rename_i e
  cases h
  refine⟨by omega,by omega,by unfold updM;rw[if_pos rfl],fun j x hx=>?_⟩
  unfold updM
  by_cases ej:j=n.toNat
  ·rw[if_pos ej]
   subst ej
   rw[hx]at e
   by_cases el:x=l
   ·rw[el]
   ·exact absurd (.inr (.inr ⟨by simp,by simpa using el⟩)) e
  ·rw[if_neg ej];exact hx
theorem InsOK.mono{p:BProg}{N k:Nat}{x:CIns}{l:CLev}{m m':Met}{env:Int}{next:Bool}(h:InsOK p N k x l m env next)(hm:∀j x,m j=some x->m' j=some x):InsOK p N k x l m' env next:=
 ⟨h.take,h.name,h.drop,h.nexts,h.fin,fun a b=>⟨(h.on a b).1,hm _ _ (h.on a b).2⟩,fun a=>⟨(h.jump a).1,(h.jump a).2.1,hm _ _ (h.jump a).2.2⟩⟩
section
variable {p:BProg}{c:CProg}{env:Int}{next:Bool}
theorem Q5 {q:Nat} {x:CIns} {l:CLev} {met m:Met} (h:Ec p c env next q x l met=some m):InsOK p c.ins.length q x l m env next /\ ∀ j x,met j=some x->m j=some x:=by
 unfold Ec at h
 split at h
 ·cases h
 ·rename_i e0
  have t:(Ao p x).1<=l.st:=by omega
  have nm:x.op=3->x.a<l.env:=fun h3=>by omega
  have dr:x.op=15->env<l.env:=fun h3=>by omega
  have nx:x.op=20->next=true:=fun bc=>by
   cases next with
   |true=>rfl
   |false=>exact absurd (.inr (.inr (.inr ⟨bc,rfl⟩))) e0
  split at h
  ·rename_i ap
   split at h
   ·rename_i e
    cases h
    exact⟨⟨t,nm,dr,nx,fun _=>e,fun a=>absurd ap a,fun a=>by omega⟩,fun _ _ h=>h⟩
   ·cases h
  ·rename_i ap
   split at h
   ·rename_i ar
    obtain⟨r1,r2,r3,r4⟩:=DU h
    rw[show((q:Int)+1).toNat=q+1 by omega]at r3
    exact⟨⟨t,nm,dr,nx,fun a=>absurd a ap,fun _ _=>⟨by omega,by unfold toC;rw[if_pos ar];exact r3⟩,fun a=>by omega⟩,r4⟩
   ·rename_i ar
    split at h
    ·rename_i aq
     obtain⟨r1,r2,r3,r4⟩:=DU h
     rw[show((q:Int)+1).toNat=q+1 by omega]at r3
     exact⟨⟨t,nm,dr,nx,fun a=>absurd a ap,fun _ _=>⟨by omega,by unfold toC;rw[if_neg ar,if_pos aq];exact r3⟩,fun a=>by omega⟩,r4⟩
    ·rename_i aq
     have eto:toC p x l=⟨l.st-(Ao p x).1+(Ao p x).2,l.env⟩:=by unfold toC;rw[if_neg ar,if_neg aq]
     split at h
     ·rename_i aC
      obtain⟨r1,r2,r3,r4⟩:=DU h
      exact⟨⟨t,nm,dr,nx,fun a=>absurd a ap,fun _ a=>absurd aC a,fun _=>⟨r1,r2,by rw[eto];exact r3⟩⟩,r4⟩
     ·rename_i aC
      split at h
      ·split at h
       ·cases h
       ·rename_i m1 e1
        obtain⟨s1,s2,s3,s4⟩:=DU e1
        obtain⟨r1,r2,r3,r4⟩:=DU h
        rw[show((q:Int)+1).toNat=q+1 by omega]at r3
        exact⟨⟨t,nm,dr,nx,fun a=>absurd a ap,fun _ _=>⟨by omega,by rw[eto];exact r3⟩,fun _=>⟨s1,s2,by rw[eto];exact r4 _ _ s3⟩⟩,fun j x hx=>r4 j x (s4 j x hx)⟩
      ·rename_i bm
       obtain⟨r1,r2,r3,r4⟩:=DU h
       rw[show((q:Int)+1).toNat=q+1 by omega]at r3
       exact⟨⟨t,nm,dr,nx,fun a=>absurd a ap,fun _ _=>⟨by omega,by rw[eto];exact r3⟩,fun a=>absurd a (by omega)⟩,r4⟩
theorem step_to {q:Nat} {x:CIns} {l:CLev} {met m:Met} (h:Ec p c env next q x l met=some m) (j:Nat):m j=met j\/m j=some (toC p x l):=by
 unfold Ec at h
 split at h
 ·cases h
 ·split at h
  ·split at h
   ·cases h;exact .inl rfl
   ·cases h
  ·split at h
   ·rename_i ar
    refine(reach_at h j).imp id fun e=>?_
    unfold toC;rw[if_pos ar];exact e.2
   ·rename_i ar
    split at h
    ·rename_i aq
     refine(reach_at h j).imp id fun e=>?_
     unfold toC;rw[if_neg ar,if_pos aq];exact e.2
    ·rename_i aq
     have eto:toC p x l=⟨l.st-(Ao p x).1+(Ao p x).2,l.env⟩:=by unfold toC;rw[if_neg ar,if_neg aq]
     rw[eto]
     split at h
     ·exact(reach_at h j).imp id fun e=>e.2
     ·split at h
      ·split at h
       ·cases h
       ·rename_i e0
        rcases reach_at h j with e|e
        ·exact(reach_at e0 j).imp e.trans fun e2=>e.trans e2.2
        ·exact .inr e.2
      ·exact(reach_at h j).imp id fun e=>e.2
theorem I3: ∀(f q:Nat) (met m:Met),Dq p c env next f q met=some m->∀j x,met j=some x->m j=some x
 |0,_,_,_,h,_,_,hx=>by cases h;exact hx
 | f+1,q,met,m,h,j,x,hx=>by
  rw[Dq]at h
  split at h
  ·exact I3 f _ _ _ h j x hx
  ·split at h
   ·cases h
   ·rename_i e
    exact I3 f _ _ _ h j x ((Q5 e).2 j x hx)
theorem PZ(p:BProg)(x:CIns):0<=(Ao p x).2:=by
 unfold Ao
 split;simp
 split;simp
 split;simp
 split;simp
 split;simp
 split;simp
 simp
theorem N1 (hf : ∀ q:Nat,(AB c q).op=17\/(AB c q).op=18->(q:Int) < (AB c q).a) : ∀ (f q:Nat) (met m:Met),Dq p c env next f q met=some m->(∀ j l,met j=some l->q<=j/\j < q+f/\0<=l.st/\env<=l.env\/InsOK p c.ins.length j (AB c j) l met env next/\0<=l.st/\env<=l.env) ->
  q+f=c.ins.length->∀j l,m j=some l->InsOK p c.ins.length j (AB c j) l m env next/\0<=l.st/\env<=l.env
 |0,q,met,m,h,hI,_,j,l,hl=>by
  cases h
  rcases hI j l hl with h|h
  ·omega
  ·exact h
 | f+1,q,met,m,h,hI,hN,j,l,hl=>by
  rw[Dq]at h
  split at h
  ·rename_i hq
   refine N1 hf f _ _ _ h (fun i l' hi=>?_) (by omega) j l hl
   rcases hI i l' hi with h'|h'
   ·by_cases e:i=q
    ·subst e;rw[hq]at hi;cases hi
    ·exact .inl (by omega)
   ·exact .inr h'
  ·rename_i l0 hq
   split at h
   ·cases h
   ·rename_i m0 e
    obtain⟨o1,o2⟩:=Q5 e
    have h0:0<=l0.st/\env<=l0.env:=by
     rcases hI q l0 hq with h'|h'
     ·exact⟨h'.2.2.1,h'.2.2.2⟩
     ·exact h'.2
    refine N1 hf f _ _ _ h (fun i l' hi=>?_) (by omega) j l hl
    by_cases eq:i=q
    ·subst eq
     have:=o2 i l0 hq
     rw[this]at hi;cases hi
     exact .inr ⟨o1,h0⟩
    ·rcases Kt e (hf q) i with e2|⟨e2,_⟩
     ·rw[e2]at hi
      rcases hI i l' hi with h'|h'
      ·exact .inl (by omega)
      ·exact .inr ⟨h'.1.mono o2,h'.2⟩
     ·have bf:i<c.ins.length:=Classical.byContradiction fun hn=>by
       have hd:=NM e (fun j hj=>by
        cases hm:met j with
        |none=>rfl
        | some y =>
         rcases hI j y hm with h'|h'
         ·omega
         ·exfalso
          have:c.ins[j]? = none:=List.getElem?_eq_none (by omega)
          have hz:AB c j=⟨0,0⟩:=by unfold AB;rw[this];rfl
          rw[hz]at h'
          have:=(h'.1.on (by simp) (by simp)).1
          omega) i (by omega)
       rw[hd]at hi;cases hi
      have g:m0 i=met i\/l'=toC p (AB c q) l0:=(step_to e i).imp id fun e3=>by rw[hi]at e3;exact Option.some.inj e3
      rcases g with g|g
      ·rw[g]at hi
       rcases hI i l' hi with h'|h'
       ·exact .inl (by omega)
       ·exact .inr ⟨h'.1.mono o2,h'.2⟩
      ·refine .inl ⟨by omega,by omega,?_,?_⟩
       ·rw[g];unfold toC;simp only
        have:(Ao p (AB c q)).1<=l0.st:=o1.take
        have:=PZ p (AB c q)
        omega
       ·rw[g];unfold toC;simp only
        split
        ·omega
        ·split
         ·rename_i _ aq
          have:=o1.drop aq
          omega
         ·omega
end
theorem Rl{p:BProg}{c:CProg}(h:F8 p c.ins.length c.ins 0=true)(q:Nat)(ax:(AB c q).op=17\/(AB c q).op=18):(q:Int)<(AB c q).a:=by
 have ha:AB c q=((c.ins[q]?).getD ⟨0,0⟩):=rfl
 rw[ha]at ax⊢
 cases hc:c.ins[q]? with
 |none=>rw[hc]at ax;simp at ax
 |some y=>
  rw[hc]at ax
  simp only[Option.getD_some]at ax⊢
  have:=(Fq _ _).1 h q y hc
  unfold fitsC at this
  rw[if_neg (by omega),if_neg (by omega),if_neg (by omega),if_neg (by omega),if_pos ax]at this
  simp only[decide_eq_true_eq]at this
  omega
theorem way_ok{p:BProg}{c:CProg}(hf:∀q:Nat,(AB c q).op=17\/(AB c q).op=18->(q:Int)<(AB c q).a){s:CSt}{w:Met}(h:wayM p c s=some w):
  0<=s.pos/\s.pos<c.ins.length/\w s.pos.toNat=some ⟨0,s.env⟩ /\ ∀j l,w j=some l->InsOK p c.ins.length j (AB c j) l w s.env s.next/\0<=l.st/\s.env<=l.env:=by
 unfold wayM at h
 split at h
 ·cases h
 ·refine⟨by omega,by omega,I3 _ _ _ _ h _ _ (by unfold updM;rw[if_pos rfl]),?_⟩
  refine N1 hf _ _ _ _ h (fun j l hl=>?_) (by omega)
  unfold updM at hl
  split at hl
  ·cases hl;exact .inl ⟨by omega,by omega,by simp,by simp⟩
  ·cases hl
structure LevOK(p:BProg)(c:CProg)(m:Met)(nx:Bool):Prop where
 dom:∀(k:Nat) (l:CLev),m k=some l->k<c.ins.length
 ok:∀(k:Nat) (l:CLev),m k=some l->∃(env:Int) (next:Bool),InsOK p c.ins.length k (AB c k) l m env next/\0<=l.st/\env<=l.env/\0<=env/\(next=true->nx=true)
 fits:∀(k:Nat) (x:CIns),c.ins[k]? = some x->fitsC p c.ins.length k x=true
theorem R6{p:BProg}{c:CProg}{l:List CSt}{lv:List CLev}(h:Gf p c l=some lv): ∃W,Fu p c l (fun _=>none)=some W/\lv.length=c.ins.length /\ ∀k x,lv[k]? = some x ↔ W k=some x:=by
 unfold Gf at h
 cases hL:Fu p c l (fun _=>none)with
 |none=>rw[hL]at h;cases h
 | some W =>
  rw[hL]at h
  simp only at h
  split at h
  ·rename_i aM
   cases h
   refine⟨W,rfl,by rw[List.length_map,List.length_range],fun k x=>?_⟩
   by_cases hk:k<c.ins.length
   ·have:=List.all_eq_true.1 aM k (List.mem_range.2 hk)
    obtain⟨y,hy⟩:=Option.isSome_iff_exists.1 this
    rw[List.getElem?_map,List.getElem?_range hk,hy]
    simp[hy]
   ·rw[List.getElem?_eq_none (by rw[List.length_map,List.length_range];omega)]
    constructor
    ·intro e;cases e
    ·intro e
     rcases((Fg _ _ _).1 hL).2.2 k x e with h|⟨s,_,w,hw,aB⟩
     ·cases h
     ·rw[MN hw k (by omega)]at aB;cases aB
  ·cases h
theorem QX{p:BProg}{c:CProg}{lv:List CLev}(h:Ei p c=some lv):okP p=true/\lv.length=c.ins.length/\LevOK p c (fun j=>lv[j]?) true:=by
 unfold Ei at h
 split at h
 ·rename_i hc
  simp only[Bool.and_eq_true,decide_eq_true_eq]at hc
  obtain⟨aR,h1,h2,h3⟩:=hc
  have hf:=Rl h3
  obtain⟨W,hW,hl,hx⟩:=R6 h
  have hI:=(Fg _ _ _).1 hW
  refine⟨aR,hl,fun k l hk=>by rw[<-hl];exact(List.getElem?_eq_some_iff.1 hk).1,fun k l hk=>?_,fun k x hk=>by have:=(Fq _ _).1 h3 k x hk;rwa [Nat.zero_add]at this⟩
  rcases hI.2.2 k l ((hx k l).1 hk)with h|⟨s,hs,w,hw,aB⟩
  ·cases h
  ·obtain⟨w1,aN,aE⟩:=hI.2.1 s hs
   rw[hw]at aN;cases aN
   obtain⟨i1,i2,i3⟩:=(way_ok hf hw).2.2.2 k l aB
   refine⟨s.env,s.next,i1.mono fun j x hj=>(hx j x).2 (aE j x hj),i2,i3,?_,fun _=>rfl⟩
   unfold stsP at hs
   rcases List.mem_append.1 hs with hs|hs
   ·rw[<-List.map_uncurry_zip_eq_zipWith]at hs
    obtain⟨⟨m,n⟩,_,rfl⟩:=List.mem_map.1 hs
    exact(H6 aR m.gen.toNat).1
   ·rw[List.mem_singleton]at hs;rw[hs];exact Int.le_refl 0
 ·cases h
structure MVal where
 kind:Int
 n:Int
 deriving DecidableEq
structure MThing where
 cls:Int
 slots:List MVal
 deriving DecidableEq
structure MEv where
 deed:Int
 n:Int
 vals:List MVal
 deriving DecidableEq
structure GoS where
 objs:List MThing
 evs:List MEv
 pos:Int
 stk:List MVal
 env:List MVal
structure GoH where
 kind:Int
 val:MVal
 gen:Int
 args:List MVal
 fin:Int
 pos:Int
 stk:List MVal
 env:List MVal
 objs:List MThing
 evs:List MEv
structure CWorld where
 own:Int->Bool
 slots:Int->List Int
 fresh:Int->List MVal
def E9:MVal:=⟨2,0⟩
def vInt(n:Int):MVal:=⟨1,n⟩
def vObj(n:Int):MVal:=⟨3,n⟩
def vZ:MVal:=⟨0,0⟩
def AL(v:MVal):Int:=if v.kind=1 then v.n else 0
def Dv(b:Bool):Int:=if b then 1 else 0
def DD(n:Int):Int:=min (max n (-1000000000)) 1000000000
def GG(op:Int)(v w:MVal):MVal:=
 if op=9 then vInt (DD (AL v+AL w)) else if op=10 then vInt (DD (AL v-AL w)) else if op=11 then vInt (DD (AL v*AL w)) else
 if op=12 then vInt (Dv (decide (AL v<AL w))) else vInt (Dv (decide (v=w)))
def okV(objs:Int)(v:MVal):Bool:=if v.kind=1 then decide (-1000000000<=v.n/\v.n<=1000000000) else if v.kind=2 then decide (v.n=0) else if v.kind=3 then decide (0<=v.n/\v.n<objs) else false
def okVs(objs:Int)(l:List MVal):Bool:=l.all (okV objs)
def Bc(w:CWorld)(l:List MThing):Bool:=decide (l.length<=40)&&l.all fun o=>w.own o.cls&&(decide (o.slots.length=(w.slots o.cls).length)&&okVs l.length o.slots)
def CV(l:List MThing)(n:Int):MThing:=(l[n.toNat]?).getD ⟨0,[]⟩
def Be(w:CWorld)(objs:List MThing)(v:MVal)(s:Int):Int:=if v.kind=3 then idxG s (w.slots (CV objs v.n).cls) 0 else -1
def Cp(w:CWorld)(x:MThing)(c:Int):MThing:=
 ⟨c,List.zipWith (fun s v=>if 0<=idxG s (w.slots x.cls) 0 then(x.slots[(idxG s (w.slots x.cls) 0).toNat]?).getD vZ else v) (w.slots c) (w.fresh c)⟩
def Ds(l:List MVal):MVal:=(l.getLast?).getD vZ
def setObj(l:List MThing)(n:Int)(x:MThing):List MThing:=l.set n.toNat x
def FO(s:GoS)(e:Int)(stk:List MVal):GoH:=⟨4,vZ,0,[],e,0,[],[],s.objs,s.evs⟩
def Im(p:BProg)(w:CWorld)(x:CIns)(s:GoS):GoS ⊕ GoH:=
 let v:=Ds s.stk
 let r:=s.stk.dropLast
 if x.op=1 then .inl { s with stk:=s.stk++[vInt x.a] }
 else if x.op=2 then .inl { s with stk:=s.stk++[E9] }
 else if x.op=3 then .inl { s with stk:=s.stk++[(s.env[x.a.toNat]?).getD vZ] }
 else if x.op=4 then(if 40<=s.objs.length then .inr (FO s 8 r) else .inl { s with objs:=s.objs++[⟨x.a,w.fresh x.a⟩],stk:=s.stk++[vObj s.objs.length] })
 else if x.op=5 then(if Be w s.objs v x.a<0 then .inr (FO s 5 r) else .inl { s with stk:=r++[((CV s.objs v.n).slots[(Be w s.objs v x.a).toNat]?).getD vZ] })
 else if x.op=6 then(if v.kind=3 then .inl { s with objs:=setObj s.objs v.n (Cp w (CV s.objs v.n) x.a),stk:=r++[v] } else .inr (FO s 6 r))
 else if x.op=7 then .inl { s with evs:=s.evs++[⟨2,0,[v]⟩],stk:=r++[v] }
 else if x.op=8 then(if Be w s.objs (Ds r) x.a<0 then .inr (FO s 5 r) else
  .inl { s with objs:=setObj s.objs (Ds r).n ⟨(CV s.objs (Ds r).n).cls,(CV s.objs (Ds r).n).slots.set (Be w s.objs (Ds r) x.a).toNat v⟩,stk:=r.dropLast++[v] })
 else if x.op=14 then .inl { s with env:=s.env++[v],stk:=r }
 else if x.op=15 then .inl { s with env:=s.env.dropLast }
 else if x.op=16 then .inl { s with stk:=r }
 else if x.op=17 then .inl { s with stk:=r,pos:=if AL v=0 then x.a else s.pos }
 else if x.op=18 then .inl { s with pos:=x.a }
 else if x.op=19 then .inr ⟨2,vZ,x.a,s.stk.drop (s.stk.length-(p.gens.getD x.a.toNat 0).toNat),0,s.pos,s.stk.take (s.stk.length-(p.gens.getD x.a.toNat 0).toNat),s.env,s.objs,s.evs⟩
 else if x.op=20 then .inr ⟨3,vZ,0,[],0,s.pos,s.stk,s.env,s.objs,s.evs⟩
 else if x.op=21 then .inr ⟨1,v,0,[],0,0,[],[],s.objs,s.evs⟩
 else .inl { s with stk:=r.dropLast++[GG x.op (Ds r) v] }
def mRun(p:BProg)(w:CWorld)(c:CProg):Nat->GoS->GoH
 |0,s=>FO s 0 []
 |f+1,s=>match Im p w (AB c s.pos.toNat) { s with pos:=s.pos+1 } with
  |.inl t=>mRun p w c f t
  |.inr h=>h
theorem B7{N:Int}{l:List MVal}:okVs N l=true ↔ ∀v∈l,okV N v=true:=by unfold okVs;exact List.all_eq_true
theorem U8{M N:Int}{v:MVal}(h:okV M v=true)(hN:M<=N):okV N v=true:=by
 unfold okV at h⊢
 split
 ·rw[if_pos (by assumption)]at h;exact h
 ·rw[if_neg (by assumption)]at h
  split
  ·rw[if_pos (by assumption)]at h;exact h
  ·rw[if_neg (by assumption)]at h
   split
   ·rw[if_pos (by assumption)]at h;simp only[decide_eq_true_eq]at h⊢; omega
   ·rw[if_neg (by assumption)]at h;exact h
theorem EK{M N:Int}{l:List MVal}(h:okVs M l=true)(hN:M<=N):okVs N l=true:=B7.2 fun v hv=>U8 (B7.1 h v hv) hN
theorem C8{N:Int}{l:List MVal}{v:MVal}(h:okVs N l=true)(hv:okV N v=true):okVs N (l++[v])=true:=B7.2 fun x hx=>by
 rcases List.mem_append.1 hx with hx|hx
 ·exact B7.1 h x hx
 ·rw[List.mem_singleton]at hx;rw[hx];exact hv
theorem Cv{N:Int}{l:List MVal}(h:okVs N l=true):okVs N l.dropLast=true:=B7.2 fun x hx=>B7.1 h x (List.dropLast_subset l hx)
theorem Ek{N:Int}{l:List MVal}(h:okVs N l=true)(h1:1<=l.length):okV N (Ds l)=true:=by
 unfold Ds
 rw[List.getLast?_eq_getElem?, List.getElem?_eq_getElem (by omega)]
 exact B7.1 h _ (List.getElem_mem _)
theorem BA{w:CWorld}{l:List MThing}:Bc w l=true ↔ l.length<=40 /\ ∀o∈l,w.own o.cls=true/\o.slots.length=(w.slots o.cls).length/\okVs l.length o.slots=true:=by
 unfold Bc
 simp only[Bool.and_eq_true,decide_eq_true_eq,List.all_eq_true]
theorem Fe{w:CWorld}{l:List MThing}(h:Bc w l=true){v:MVal}(hv:okV l.length v=true)(h3:v.kind=3):(CV l v.n)∈l/\0<=v.n/\v.n<l.length:=by
 unfold okV at hv
 rw[if_neg (by omega),if_neg (by omega),if_pos h3]at hv
 simp only[decide_eq_true_eq]at hv
 unfold CV
 rw[List.getElem?_eq_getElem (by omega)]
 exact⟨List.getElem_mem _,hv⟩
theorem JE{w:CWorld}{l:List MThing}(h:Bc w l=true){n:Int}{x:MThing}(h1:w.own x.cls=true)(h2:x.slots.length=(w.slots x.cls).length)(h3:okVs l.length x.slots=true):Bc w (setObj l n x)=true:=by
 rw[BA]at h⊢
 unfold setObj
 rw[List.length_set]
 refine⟨h.1,fun o ho=>?_⟩
 rcases List.mem_or_eq_of_mem_set ho with ho|rfl
 ·exact h.2 o ho
 ·exact⟨h1,h2,h3⟩
theorem H4{α}[DecidableEq α]{s:α}: ∀(l:List α) (k:Nat),0<=idxG s l k->k<=idxG s l k/\idxG s l k<k+l.length
 |[],_,h=>by rw[idxG]at h;omega
 | x::r,k,h=>by
  rw[idxG]at h⊢
  rw[List.length_cons]
  split
  ·omega
  ·rename_i e
   rw[if_neg e]at h
   have:=H4 r (k+1) h
   omega
structure WldOK(p:BProg)(w:CWorld):Prop where
 own:∀c:Int,3<=c->c<3+p.classes.length->w.own c=true
 len:∀c,w.own c=true->(w.fresh c).length=(w.slots c).length
 ok:∀c,w.own c=true->okVs 0 (w.fresh c)=true
theorem turn_ok{p:BProg}{w:CWorld}(hw:WldOK p w){N:Int}(hN:0<=N){x:MThing}{c:Int}(hc:w.own c=true)(hx:w.own x.cls=true)(hl:x.slots.length=(w.slots x.cls).length)(hs:okVs N x.slots=true):
  (Cp w x c).slots.length=(w.slots c).length/\okVs N (Cp w x c).slots=true:=by
 have hlen:=hw.len c hc
 unfold Cp
 simp only
 refine⟨by rw[List.length_zipWith,hlen,Nat.min_self],B7.2 fun v hv=>?_⟩
 rw[<-List.map_uncurry_zip_eq_zipWith]at hv
 obtain⟨⟨a,b⟩,aU,rfl⟩:=List.mem_map.1 hv
 simp only[Function.uncurry]
 split
 ·rename_i h0
  have:=H4 (s:=a) (w.slots x.cls) 0 (by exact_mod_cast h0)
  rw[List.getElem?_eq_getElem (by omega)]
  exact B7.1 hs _ (List.getElem_mem _)
 ·exact B7.1 (EK (hw.ok c hc) hN) b (List.of_mem_zip aU).2
structure GInv(w:CWorld)(m:Met)(s:GoS):Prop where
 lo:0<=s.pos
 lev:∃l,m s.pos.toNat=some l/\(s.stk.length:Int)=l.st/\(s.env.length:Int)=l.env
 stk:okVs s.objs.length s.stk=true
 env:okVs s.objs.length s.env=true
 objs:Bc w s.objs=true
structure HInv(p:BProg)(w:CWorld)(m:Met)(nx:Bool)(at0:Int)(h:GoH):Prop where
 objs:Bc w h.objs=true
 kind:h.kind=1\/h.kind=2\/h.kind=3\/h.kind=4
 goes:h.kind=3->nx=true
 val:h.kind=1->okV h.objs.length h.val=true
 asks:h.kind=2->0<=h.gen/\h.gen<p.gens.length/\(h.args.length:Int)=p.gens.getD h.gen.toNat 0/\okVs h.objs.length h.args=true
 frame:h.kind=2\/h.kind=3->at0<h.pos/\(∃l,m h.pos.toNat=some l/\(h.stk.length:Int)+1=l.st/\(h.env.length:Int)=l.env)/\okVs h.objs.length h.stk=true/\okVs h.objs.length h.env=true
theorem U9(N:Int)(op:Int)(v w:MVal):okV N (GG op v w)=true:=by
 have hc:∀n,okV N (vInt (DD n))=true:=fun n=>by
  unfold okV vInt DD
  simp only[if_true,decide_eq_true_eq]
  omega
 have ht:∀b,okV N (vInt (Dv b))=true:=fun b=>by
  unfold okV vInt Dv
  cases b<;>simp
 unfold GG
 split
 ·exact hc _
 split
 ·exact hc _
 split
 ·exact hc _
 split
 ·exact ht _
 ·exact ht _
section
variable {p:BProg}{w:CWorld}{c:CProg}{m:Met}{nx:Bool}
theorem CJ{N:Nat}{x:CIns}{l:CLev}{env:Int}{next:Bool}{s t:GoS}(hI:InsOK p N s.pos.toNat x l m env next)(h0:0<=s.pos)(ap:x.op≠21)(aC:x.op≠18)
  (hp:t.pos=s.pos+1) (h1:(t.stk.length:Int)=(toC p x l).st) (h2:(t.env.length:Int)=(toC p x l).env) (h3:okVs t.objs.length t.stk=true) (h4:okVs t.objs.length t.env=true) (h5:Bc w t.objs=true):GInv w m t/\s.pos<t.pos:=by
 refine⟨⟨by omega,⟨_,?_,h1,h2⟩,h3,h4,h5⟩,by omega⟩
 rw[hp,show(s.pos+1).toNat=s.pos.toNat+1 by omega]
 exact(hI.on ap aC).2
theorem JF(hg:∀n:Nat,0<=p.gens.getD n 0)(hw:WldOK p w)(hL:LevOK p c m nx){s:GoS}(hs:GInv w m s):match Im p w (AB c s.pos.toNat) { s with pos:=s.pos+1 } with
  |.inl t=>GInv w m t/\s.pos<t.pos
  |.inr h=>HInv p w m nx s.pos h:=by
 obtain⟨h0,⟨l,hl,aP,ah⟩,ak,ag,ae⟩:=hs
 obtain⟨env,next,hI,g1,g2,g3,g4⟩:=hL.ok _ _ hl
 have hk:s.pos.toNat<c.ins.length:=hL.dom _ _ hl
 have hx:c.ins[s.pos.toNat]? = some (AB c s.pos.toNat):=by unfold AB;rw[List.getElem?_eq_getElem hk];rfl
 have aa:=hL.fits _ _ hx
 generalize AB c s.pos.toNat=x at hI hx aa
 have ht:=hI.take
 have ba:s.stk.dropLast.length=s.stk.length-1:=List.length_dropLast
 have am:=Cv ak
 have aT:=Cv am
 have bl:s.stk.dropLast.dropLast.length=s.stk.length-1-1:=by rw[List.length_dropLast,ba]
 have au:1<=s.stk.length->okV s.objs.length (Ds s.stk)=true:=Ek ak
 have aY:2<=s.stk.length->okV s.objs.length (Ds s.stk.dropLast)=true:=fun h=>Ek am (by omega)
 unfold fitsC at aa
 unfold Im
 simp only
 by_cases e1:x.op=1
 ·rw[if_pos e1]at aa
  rw[if_pos e1]
  have u:Ao p x=(0,1):=by unfold Ao;rw[if_pos (by omega)]
  refine CJ hI h0 (by omega) (by omega) rfl ?_ ?_ (C8 ak ?_) ag ae
  ·unfold toC;rw[u,List.length_append];simp only[List.length_singleton];omega
  ·unfold toC;rw[if_neg (by omega),if_neg (by omega)];exact ah
  ·unfold inB at aa
   unfold okV vInt
   simp only[if_true,Bool.and_eq_true,decide_eq_true_eq]at aa⊢
   omega
 rw[if_neg e1]at aa
 rw[if_neg e1]
 by_cases e2:x.op=2
 ·rw[if_pos e2]
  have u:Ao p x=(0,1):=by unfold Ao;rw[if_pos (by omega)]
  refine CJ hI h0 (by omega) (by omega) rfl ?_ ?_ (C8 ak ?_) ag ae
  ·unfold toC;rw[u,List.length_append];simp only[List.length_singleton];omega
  ·unfold toC;rw[if_neg (by omega),if_neg (by omega)];exact ah
  ·simp[okV,E9]
 rw[if_neg e2]
 by_cases e3:x.op=3
 ·rw[if_pos e3]at aa
  rw[if_pos e3]
  have hn:=hI.name e3
  simp only[decide_eq_true_eq]at aa
  have u:Ao p x=(0,1):=by unfold Ao;rw[if_pos (by omega)]
  refine CJ hI h0 (by omega) (by omega) rfl ?_ ?_ (C8 ak ?_) ag ae
  ·unfold toC;rw[u,List.length_append];simp only[List.length_singleton];omega
  ·unfold toC;rw[if_neg (by omega),if_neg (by omega)];exact ah
  ·simp only
   rw[List.getElem?_eq_getElem (by omega)]
   exact B7.1 ag _ (List.getElem_mem _)
 rw[if_neg e3]at aa
 rw[if_neg e3]
 by_cases e4:x.op=4
 ·rw [if_pos (by omega)] at aa
  rw[if_pos e4]
  simp only[decide_eq_true_eq]at aa
  have ai:=hw.own x.a aa.1 aa.2
  have u:Ao p x=(0,1):=by unfold Ao;rw[if_pos (by omega)]
  by_cases hn:40<=s.objs.length
  ·rw[if_pos hn]
   exact⟨ae,.inr (.inr (.inr rfl)),(nomatch ·),(nomatch ·),(nomatch ·),fun h=>by simp[FO]at h⟩
  ·rw[if_neg hn]
   have ay:((s.objs.length:Nat):Int)<=((s.objs++[(⟨x.a,w.fresh x.a⟩:MThing)]).length:Nat):=by rw[List.length_append];simp only[List.length_singleton];omega
   refine CJ hI h0 (by omega) (by omega) rfl ?_ ?_ (C8 (EK ak ay) ?_) (EK ag ay) ?_
   ·unfold toC;rw[u,List.length_append];simp only[List.length_singleton];omega
   ·unfold toC;rw[if_neg (by omega),if_neg (by omega)];exact ah
   ·simp only[okV,vObj,List.length_append,List.length_singleton];simp;omega
   ·rw[BA]at ae⊢
    refine⟨by rw[List.length_append];simp only[List.length_singleton];omega,fun o ho=>?_⟩
    rcases List.mem_append.1 ho with ho|ho
    ·exact⟨(ae.2 o ho).1,(ae.2 o ho).2.1,EK (ae.2 o ho).2.2 ay⟩
    ·rw[List.mem_singleton]at ho;rw[ho]
     exact⟨ai,hw.len _ ai,EK (hw.ok _ ai) (by omega)⟩
 rw[if_neg e4]
 by_cases e5:x.op=5
 ·rw [if_pos e5]
  have u:Ao p x=(1,1):=by unfold Ao;rw[if_neg (by omega),if_pos (by omega)]
  rw[u]at ht
  simp only at ht
  by_cases hn:Be w s.objs (Ds s.stk) x.a<0
  ·rw[if_pos hn]
   exact⟨ae,.inr (.inr (.inr rfl)),(nomatch ·),(nomatch ·),(nomatch ·),fun h=>by simp[FO]at h⟩
  ·rw[if_neg hn]
   refine CJ hI h0 (by omega) (by omega) rfl ?_ ?_ (C8 am ?_) ag ae
   ·unfold toC;rw[u,List.length_append];simp only[List.length_singleton];omega
   ·unfold toC;rw[if_neg (by omega),if_neg (by omega)];exact ah
   ·unfold Be at hn⊢
    split at hn
    ·rename_i h3
     rw[if_pos h3]
     obtain⟨o1,o2⟩:=Fe ae (au (by omega)) h3
     have:=H4 (s:=x.a) (w.slots (CV s.objs (Ds s.stk).n).cls) 0 (by omega)
     obtain⟨q1,q2,q3⟩:=(BA.1 ae).2 _ o1
     rw[List.getElem?_eq_getElem (by omega)]
     exact B7.1 q3 _ (List.getElem_mem _)
    ·omega
 rw[if_neg e5]
 by_cases e6:x.op=6
 ·rw[if_pos (by omega)]at aa
  rw[if_pos e6]
  simp only[decide_eq_true_eq]at aa
  have ai:=hw.own x.a aa.1 aa.2
  have u:Ao p x=(1,1):=by unfold Ao;rw[if_neg (by omega),if_pos (by omega)]
  rw[u]at ht
  simp only at ht
  by_cases h3:(Ds s.stk).kind=3
  ·rw[if_pos h3]
   have hsz:(setObj s.objs (Ds s.stk).n (Cp w (CV s.objs (Ds s.stk).n) x.a)).length=s.objs.length:=List.length_set
   obtain⟨o1,o2⟩:=Fe ae (au (by omega)) h3
   obtain⟨q1,q2,q3⟩:=(BA.1 ae).2 _ o1
   obtain⟨t1,t2⟩:=turn_ok hw (Int.natCast_nonneg s.objs.length) ai q1 q2 q3
   refine CJ hI h0 (by omega) (by omega) rfl ?_ ?_ (C8 ?_ ?_) ?_ (JE ae ai t1 t2)
   ·unfold toC;rw[u,List.length_append];simp only[List.length_singleton];omega
   ·unfold toC;rw[if_neg (by omega),if_neg (by omega)];exact ah
   ·simp only[hsz];exact am
   ·simp only[hsz];exact au (by omega)
   ·simp only[hsz];exact ag
  ·rw[if_neg h3]
   exact⟨ae,.inr (.inr (.inr rfl)),(nomatch ·),(nomatch ·),(nomatch ·),fun h=>by simp[FO]at h⟩
 rw[if_neg (by omega)]at aa
 rw[if_neg e6]
 by_cases e7:x.op=7
 ·rw[if_pos e7]
  have u:Ao p x=(1,1):=by unfold Ao;rw[if_neg (by omega),if_pos (by omega)]
  rw[u]at ht
  simp only at ht
  refine CJ hI h0 (by omega) (by omega) rfl ?_ ?_ (C8 am (au (by omega))) ag ae
  ·unfold toC;rw[u,List.length_append];simp only[List.length_singleton];omega
  ·unfold toC;rw[if_neg (by omega),if_neg (by omega)];exact ah
 rw[if_neg e7]
 by_cases e8:x.op=8
 ·rw [if_pos e8]
  have u:Ao p x=(2,1):=by unfold Ao;rw[if_neg (by omega),if_neg (by omega),if_neg (by omega),if_neg (by omega),if_neg (by omega),if_neg (by omega)]
  rw[u]at ht
  simp only at ht
  by_cases hn:Be w s.objs (Ds s.stk.dropLast) x.a<0
  ·rw[if_pos hn]
   exact⟨ae,.inr (.inr (.inr rfl)),(nomatch ·),(nomatch ·),(nomatch ·),fun h=>by simp[FO]at h⟩
  ·rw[if_neg hn]
   unfold Be at hn
   split at hn
   ·rename_i h3
    obtain⟨o1,o2⟩:=Fe ae (aY (by omega)) h3
    obtain⟨q1,q2,q3⟩:=(BA.1 ae).2 _ o1
    refine CJ hI h0 (by omega) (by omega) rfl ?_ ?_ (C8 ?_ ?_) ?_ (JE ae q1 ?_ ?_)
    ·unfold toC;rw[u,List.length_append];simp only[List.length_singleton];omega
    ·unfold toC;rw[if_neg (by omega),if_neg (by omega)];exact ah
    ·simp only[setObj,List.length_set];exact aT
    ·simp only[setObj,List.length_set];exact au (by omega)
    ·simp only[setObj,List.length_set];exact ag
    ·rw[List.length_set];exact q2
    ·refine B7.2 fun v hv=>?_
     rcases List.mem_or_eq_of_mem_set hv with hv|rfl
     ·exact B7.1 q3 v hv
     ·exact au (by omega)
   ·omega
 rw[if_neg e8]
 rw[if_neg (by omega)]at aa
 by_cases e14:x.op=14
 ·rw[if_pos e14]
  have u:Ao p x=(1,0):=by unfold Ao;rw[if_neg (by omega),if_neg (by omega),if_pos (by omega)]
  rw[u]at ht
  simp only at ht
  refine CJ hI h0 (by omega) (by omega) rfl ?_ ?_ am (C8 ag (au (by omega))) ae
  ·unfold toC;rw[u];simp only;omega
  ·unfold toC;rw[if_pos e14,List.length_append];simp only[List.length_singleton];omega
 rw[if_neg e14]
 by_cases e15:x.op=15
 ·rw[if_pos e15]
  have bk:=hI.drop e15
  have u:Ao p x=(0,0):=by unfold Ao;rw[if_neg (by omega),if_neg (by omega),if_neg (by omega),if_neg (by omega),if_pos (by omega)]
  refine CJ hI h0 (by omega) (by omega) rfl ?_ ?_ ak (Cv ag) ae
  ·unfold toC;rw[u];simp only;omega
  ·unfold toC;rw[if_neg e14,if_pos e15];simp only[List.length_dropLast];omega
 rw[if_neg e15]
 have en0:(toC p x l).env=l.env:=by unfold toC;rw[if_neg e14,if_neg e15]
 by_cases e16:x.op=16
 ·rw[if_pos e16]
  have u:Ao p x=(1,0):=by unfold Ao;rw[if_neg (by omega),if_neg (by omega),if_pos (by omega)]
  rw[u]at ht
  simp only at ht
  refine CJ hI h0 (by omega) (by omega) rfl ?_ (by rw[en0];exact ah) am ag ae
  unfold toC;rw[u];simp only;omega
 rw[if_neg e16]
 by_cases e17:x.op=17
 ·rw[if_pos e17]
  rw[if_pos (by omega)]at aa
  simp only[decide_eq_true_eq]at aa
  have u:Ao p x=(1,0):=by unfold Ao;rw[if_neg (by omega),if_neg (by omega),if_pos (by omega)]
  rw[u]at ht
  simp only at ht
  have est:((s.stk.dropLast.length:Nat):Int)=(toC p x l).st:=by unfold toC;rw[u];simp only;omega
  by_cases hz:AL (Ds s.stk)=0
  ·simp only[if_pos hz]
   refine⟨⟨by simp only;omega,⟨_,(hI.jump (.inl e17)).2.2,est,by rw[en0];exact ah⟩,am,ag,ae⟩,by first|omega|(simp only;omega)⟩
  ·simp only[if_neg hz]
   exact CJ hI h0 (by omega) (by omega) rfl est (by rw[en0];exact ah) am ag ae
 rw[if_neg e17]
 by_cases e18:x.op=18
 ·rw[if_pos e18]
  rw[if_pos (by omega)]at aa
  simp only[decide_eq_true_eq]at aa
  have u:Ao p x=(0,0):=by unfold Ao;rw[if_neg (by omega),if_neg (by omega),if_neg (by omega),if_neg (by omega),if_pos (by omega)]
  refine⟨⟨by simp only;omega,⟨_,(hI.jump (.inr e18)).2.2,?_,by rw[en0];exact ah⟩,ak,ag,ae⟩,by first|omega|(simp only;omega)⟩
  unfold toC;rw[u];simp only;omega
 rw[if_neg e18]
 rw[if_neg (by omega)]at aa
 by_cases e19:x.op=19
 ·rw[if_pos e19]at aa
  rw[if_pos e19]
  simp only[decide_eq_true_eq]at aa
  have u:Ao p x=(p.gens.getD x.a.toNat 0,1):=by unfold Ao;rw[if_neg (by omega),if_neg (by omega),if_neg (by omega),if_pos e19]
  rw[u]at ht
  simp only at ht
  have aZ:=(hI.on (by omega) (by omega)).2
  have aO:toC p x l=⟨l.st-p.gens.getD x.a.toNat 0+1,l.env⟩:=by unfold toC;rw[u,if_neg e14,if_neg e15]
  have bh:0<=p.gens.getD x.a.toNat 0:=hg _
  refine⟨ae,.inr (.inl rfl),(nomatch ·),(nomatch ·),fun _=>⟨aa.1,aa.2,?_,?_⟩,fun _=>⟨by simp only;omega,⟨toC p x l,?_,?_,?_⟩,?_,ag⟩⟩
  ·show((s.stk.drop (s.stk.length-(p.gens.getD x.a.toNat 0).toNat)).length:Int)=p.gens.getD x.a.toNat 0
   rw[List.length_drop];omega
  ·exact B7.2 fun v hv=>B7.1 ak v (List.mem_of_mem_drop hv)
  ·simp only
   rw[show(s.pos+1).toNat=s.pos.toNat+1 by omega]
   exact aZ
  ·rw[aO];simp only[List.length_take];omega
  ·rw[aO];exact ah
  ·exact B7.2 fun v hv=>B7.1 ak v (List.mem_of_mem_take hv)
 rw[if_neg e19]at aa
 rw[if_neg e19]
 simp only[decide_eq_true_eq]at aa
 by_cases e20:x.op=20
 ·rw[if_pos e20]
  have u:Ao p x=(0,1):=by unfold Ao;rw[if_pos (by omega)]
  refine⟨ae,.inr (.inr (.inl rfl)),fun _=>g4 (hI.nexts e20),(nomatch ·),(nomatch ·),fun _=>⟨by simp only;omega,⟨_,?_,?_,by rw[en0];exact ah⟩,ak,ag⟩⟩
  ·simp only
   rw[show(s.pos+1).toNat=s.pos.toNat+1 by omega]
   exact(hI.on (by omega) (by omega)).2
  ·unfold toC;rw[u];simp only;omega
 rw[if_neg e20]
 by_cases e21:x.op=21
 ·rw[if_pos e21]
  have:=(hI.fin e21).1
  exact⟨ae,.inl rfl,(nomatch ·),fun _=>au (by omega),(nomatch ·),fun h=>by simp at h⟩
 rw[if_neg e21]
 have u:Ao p x=(2,1):=by unfold Ao;rw[if_neg (by omega),if_neg (by omega),if_neg (by omega),if_neg (by omega),if_neg (by omega),if_neg (by omega)]
 rw[u]at ht
 simp only at ht
 refine CJ hI h0 (by omega) (by omega) rfl ?_ (by rw[en0];exact ah) (C8 aT (U9 _ _ _ _)) ag ae
 unfold toC;rw[u,List.length_append];simp only[List.length_singleton];omega
end
theorem HInv.mono{p:BProg}{w:CWorld}{m:Met}{nx:Bool}{a b:Int}{h:GoH}(hh:HInv p w m nx b h)(aU:a<=b):HInv p w m nx a h:=
 ⟨hh.objs,hh.kind,hh.goes,hh.val,hh.asks,fun hk=>⟨by have:=(hh.frame hk).1;omega,(hh.frame hk).2⟩⟩
section
variable {p:BProg}{w:CWorld}{c:CProg}{m:Met}{nx:Bool}
theorem LB(hg:∀n:Nat,0<=p.gens.getD n 0)(hw:WldOK p w)(hL:LevOK p c m nx): ∀(f g:Nat) (s:GoS),GInv w m s->c.ins.length<=s.pos.toNat+f->c.ins.length<=s.pos.toNat+g->mRun p w c f s=mRun p w c g s
 |0,_,s,hs,hf,_=>by
  obtain⟨l,hl,_⟩:=hs.lev
  have:=hL.dom _ _ hl
  omega
 |_+1,0,s,hs,_,hf=>by
  obtain⟨l,hl,_⟩:=hs.lev
  have:=hL.dom _ _ hl
  omega
 | f+1,g+1,s,hs,hf,bj=>by
  have hk:=JF hg hw hL hs
  rw[mRun,mRun]
  cases e:Im p w (AB c s.pos.toNat) { s with pos:=s.pos+1 } with
  |inl t=>
   rw[e]at hk
   have h0:=hs.lo
   exact LB hg hw hL f g t hk.1 (by have:=hk.2;omega) (by have:=hk.2;omega)
  |inr h=>rfl
end
def FP(lv:List CLev)(N:Int)(pos:Int)(stk env:List MVal):Bool:=
 decide (0<=pos/\pos<lv.length/\(stk.length:Int)=((lv[pos.toNat]?).getD ⟨0,0⟩).st/\(env.length:Int)=((lv[pos.toNat]?).getD ⟨0,0⟩).env)&&(okVs N stk&&okVs N env)
def goC(p:BProg)(w:CWorld)(c:CProg)(objs:List MThing)(pos:Int)(stk env:List MVal):Option GoH:=match Ei p c with
 |none=>none
 |some lv=>if Bc w objs&&FP lv objs.length pos stk env then some (mRun p w c c.ins.length ⟨objs,[],pos,stk,env⟩) else none
theorem Ri{w:CWorld}{lv:List CLev}{objs:List MThing}{evs:List MEv}{pos:Int}{stk env:List MVal}(ho:Bc w objs=true):FP lv objs.length pos stk env=true ↔ GInv w (fun j=>lv[j]?) ⟨objs,evs,pos,stk,env⟩:=by
 unfold FP
 simp only[Bool.and_eq_true,decide_eq_true_eq]
 constructor
 ·rintro⟨⟨h1,h2,h3,h4⟩,h5,h6⟩
  have e:lv[pos.toNat]? = some (lv[pos.toNat]'(by omega)):=List.getElem?_eq_getElem (by omega)
  rw[e]at h3 h4
  exact⟨h1,⟨_,e,h3,h4⟩,h5,h6,ho⟩
 ·rintro⟨h1,⟨l,h2,h3,h4⟩,h5,h6,_⟩
  simp only at h1 h2 h3 h4 h5 h6
  have:=(List.getElem?_eq_some_iff.1 h2).1
  refine⟨⟨h1,by omega,?_,?_⟩,h5,h6⟩
  ·rw[h2];exact h3
  ·rw[h2];exact h4
theorem GInv.sub{w:CWorld}{m m':Met}{s:GoS}(h:GInv w m s)(hm:∀j l,m j=some l->m' j=some l):GInv w m' s:=by
 obtain⟨h1,⟨l,h2,h3⟩,h4,h5,h6⟩:=h
 exact⟨h1,⟨l,hm _ _ h2,h3⟩,h4,h5,h6⟩
theorem Q4(s:Str)(b:UInt8):Lib.hasSuffix s [b]=decide (s.getLast? = some b):=by
 rw[Bool.eq_iff_iff,decide_eq_true_iff]
 unfold Lib.hasSuffix
 rw[List.isSuffixOf_iff_suffix]
 constructor
 ·rintro⟨t,rfl⟩;simp
 ·intro h
  obtain⟨t,rfl⟩:=List.getLast?_eq_some_iff.1 h
  exact⟨t,rfl⟩
theorem TN{s:Str}{b:UInt8}(h:s.getLast? = some b):Lib.trimSuffix s [b]=s.dropLast:=by
 unfold Lib.trimSuffix
 rw[Q4,h]
 simp[List.dropLast_eq_take]
theorem Nf(b:UInt8): ∀s:Str,(Lib.index s [b] = -1/\b∉s) \/ ∃a r:Str,Lib.index s [b]=(a.length:Int)/\s=a++b::r/\b∉a
 |[]=>.inl ⟨rfl,by simp⟩
 | c::l=>by
  by_cases h:b=c
  ·exact .inr ⟨[],l,by rw[Lib.index,if_pos (by simp[h])];rfl,by rw[h];rfl,by simp⟩
  ·have hp:¬List.isPrefixOf [b] (c::l)=true:=by simp[h]
   rcases Nf b l with⟨h1,h2⟩|⟨a,r,h1,h2,h3⟩
   ·refine .inl ⟨by rw[Lib.index,if_neg hp,h1];rfl,?_⟩
    rw[List.mem_cons,not_or];exact⟨h,h2⟩
   ·refine .inr ⟨c::a,r,?_,by rw[h2];rfl,?_⟩
    ·rw[Lib.index,if_neg hp,h1,if_neg (by simp<;>omega),List.length_cons];omega
    ·rw[List.mem_cons,not_or];exact⟨h,h3⟩
theorem cut_one(s:Str):Lib.cut s [32]=match cut1 s with
 |none=>(s,[],false)
 |some (a,r)=>(a,r,true):=by
 unfold Lib.cut
 rcases Nf 32 s with⟨h1,h2⟩|⟨a,r,h1,rfl,h3⟩
 ·rw[h1,if_neg (by decide),IT s h2]
 ·rw[h1,if_pos (by omega),L4 a r h3]
  simp
theorem Re: ∀s:Str,(Lib.index s [58,32] = -1/\cut2 s=none) \/ ∃a r:Str,Lib.index s [58,32]=(a.length:Int)/\s=a++58::32::r/\cut2 s=some (a,r)
 |[]=>.inl ⟨rfl,rfl⟩
 | c::l=>by
  by_cases h:c=58/\l.head? = some 32
  ·obtain⟨rfl,h2⟩:=h
   cases l with
   |nil=>cases h2
   |cons d l=>cases h2;exact .inr ⟨[],l,by rw[Lib.index,if_pos (by simp)];rfl,rfl,by rw[cut2,if_pos ⟨rfl,rfl⟩];rfl⟩
  ·have hp:¬List.isPrefixOf [58,32] (c::l)=true:=by
    intro e
    cases l with
    |nil=>simp at e
    |cons d l=>simp at e;exact h ⟨e.1.symm,by rw[<-e.2];rfl⟩
   rcases Re l with⟨h1,h2⟩|⟨a,r,h1,h2,h3⟩
   ·exact .inl ⟨by rw[Lib.index,if_neg hp,h1];rfl,by rw[cut2,if_neg h,h2]⟩
   ·refine .inr ⟨c::a,r,?_,by rw[h2];rfl,by rw[cut2,if_neg h,h3]⟩
    rw[Lib.index,if_neg hp,h1,if_neg (by simp<;>omega),List.length_cons];omega
theorem cut_two(s:Str):Lib.cut s [58,32]=match cut2 s with
 |none=>(s,[],false)
 |some (a,r)=>(a,r,true):=by
 unfold Lib.cut
 rcases Re s with⟨h1,h2⟩|⟨a,r,h1,h2,h3⟩
 ·rw[h1,if_neg (by decide),h2]
 ·rw[h1,if_pos (by omega),h3,h2]
  simp
theorem Lj(b:UInt8): ∀(n:Nat) (s:Str),s.length<=n->Lib.splitK [b] 0 (Lib.count s [b]) s=splitB b s
 | n,s,hn=>by
  rcases Nf b s with⟨h1,h2⟩|⟨a,r,h1,rfl,h3⟩
  ·rw[Lib.count_miss h1,Lib.splitK,HW b s h2]
  ·rw[Lib.count_hit (by simp) h1,Nat.add_comm,Lib.splitK,if_neg (by rw[h1];simp<;>omega),h1,HY b a r h3]
   have e:(a++b::r).drop (a.length+1)=r:=by simp
   cases n with
   |zero=>simp at hn
   |succ n=>
    simp only[List.length_cons,List.length_nil,Nat.zero_add,Int.toNat_natCast,Nat.add_zero,e]
    rw[Lj b n r (by simp at hn;omega)]
    simp
theorem HX(b:UInt8)(s:Str):(Lib.splitB ⟨#[b]⟩ 0 (Lib.countB ⟨s.toArray⟩ ⟨#[b]⟩) ⟨s.toArray⟩).map Value.string=(splitB b s).map fun l=>Value.string ⟨l.toArray⟩:=by
 have h:=Lib.splitB_data ⟨#[b]⟩ 0 (Lib.countB ⟨s.toArray⟩ ⟨#[b]⟩) ⟨s.toArray⟩
 have h2:=Lj b s.length s (Nat.le_refl _)
 rw[<-h2]
 rw[show Lib.splitK [b] 0 (Lib.count s [b]) s=_ from h.symm,List.map_map]
 refine List.map_congr_left fun x _=>?_
 simp
theorem MZ(b:UInt8)(s:Str):Lib.countB ⟨s.toArray⟩ ⟨#[b]⟩+1=(splitB b s).length:=by
 have h:=Lib.splitB_all ⟨#[b]⟩ (Nat.le_refl 1) 0 _ ⟨s.toArray⟩ rfl
 have h2:=congrArg List.length (HX b s)
 rw[List.length_map,List.length_map,h]at h2
 exact h2
theorem Ly: ∀(l:Str) (acc m:Nat),Lib.decFrom acc l=some m->m<1844674407370955162->Lib.parseUint10 acc l=.ok m/\acc<=m
 |[],acc,m,h,_=>by rw[Lib.decFrom]at h;cases h;exact⟨rfl,Nat.le_refl _⟩
 | c::r,acc,m,h,hm=>by
  rw[Lib.decFrom]at h
  unfold Lib.digitVal at h
  split at h
  ·rename_i d hd
   split at hd
   ·rename_i hc
    cases hd
    obtain⟨h1,h2⟩:=Ly r _ m h hm
    refine⟨?_,by omega⟩
    rw[Lib.parseUint10,if_pos hc,if_neg (by omega),if_neg (by omega)]
    exact h1
   ·cases hd
  ·cases h
theorem Vp{n:Int}(h1 : -1000000000<=n)(h2:n<=1000000000):Lib.atoiAll (Lib.itoa n)=.ok n:=by
 have hd:∀u:Nat,u<1844674407370955162->Lib.parseMag (Lib.decDigits u)=.ok u:=fun u hu=>by
  have:=KZ u
  unfold Lib.decNat at this
  split at this
  ·cases this
  ·unfold Lib.parseMag
   rw[if_neg (F5 u)]
   exact(Ly _ 0 u this hu).1
 unfold Lib.itoa
 by_cases hn:n<0
 ·rw[if_pos hn]
  unfold Lib.atoiAll
  have e45:(45:UInt8).toNat=45:=rfl
  simp only[e45,or_true,if_true,hd n.natAbs (by omega),not_true_eq_false,false_and,if_false,true_and]
  rw[if_neg (by omega)]
  congr 1;omega
 ·rw[if_neg hn]
  have hne:=F5 n.toNat
  have aG:=Cy n.toNat
  have hp:=hd n.toNat (by omega)
  generalize Lib.decDigits n.toNat=l at*
  cases l with
  |nil=>exact absurd rfl hne
  |cons c r=>
   have hc:=aG c (by simp)
   unfold Lib.atoiAll
   simp only[show ¬c.toNat=43 by omega,show ¬c.toNat=45 by omega,or_self,if_false,hp,not_false_eq_true,true_and,false_and]
   rw[if_neg (by omega)]
   congr 1;omega
def intP(s:Str):Option Int:=match Lib.atoiAll s with
 |.ok v=>if Lib.itoa v=s then some v else none
 |_=>none
theorem Rb:IntOK intP:=⟨fun n h1 h2=>by unfold intP;rw[Vp h1 h2];simp,fun s n h=>by
 unfold intP at h
 split at h
 ·split at h
  ·cases h;assumption
  ·cases h
 ·cases h⟩
def cutP(b:UInt8):Str->Str×Str×Bool
 |[]=>([],[],false)
 |c::r=>if c=b then([],r,true) else(c::(cutP b r).1,(cutP b r).2.1,(cutP b r).2.2)
theorem Fl(b:UInt8): ∀(a r:Str),b∉a->cutP b (a++b::r)=(a,r,true)
 |[],r,_=>by rw[List.nil_append,cutP,if_pos rfl]
 |c::a,r,h=>by
  rw[List.mem_cons,not_or]at h
  rw[List.cons_append,cutP,if_neg (fun e=>h.1 e.symm),Fl b a r h.2]
theorem Tq(b:UInt8): ∀a:Str,b∉a->cutP b a=(a,[],false)
 |[],_=>rfl
 |c::a,h=>by
  rw[List.mem_cons,not_or]at h
  rw[cutP,if_neg (fun e=>h.1 e.symm),Tq b a h.2]
theorem GF(b:UInt8): ∀s:Str,(cutP b s).1.length<=s.length/\(cutP b s).2.1.length<=s.length/\(s≠[]->(cutP b s).2.1.length<s.length)/\((cutP b s).2.2=true->(cutP b s).2.1.length<s.length)
 |[]=>by simp[cutP]
 | c::r=>by
  obtain⟨h1,h2,_,h3⟩:=GF b r
  rw[cutP]
  split
  ·simp
  ·simp only[List.length_cons]
   exact⟨by omega,by omega,fun _=>by omega,fun h=>by omega⟩
def decF:Nat->Nat->Str->Nat
 |0,acc,_=>acc
 |_+1,acc,[]=>acc
 |q+1,acc,c::r=>decF q (10*acc+c.toNat % 16) r
def intX(s:Str):Int:=if s.head? = some 45 then -(decF 11 0 (s.drop 1):Int) else(decF 11 0 s:Int)
theorem OB: ∀(q:Nat) (acc:Nat) (l:Str) (c:UInt8),l.length<q->decF q acc (l++[c])=10*decF q acc l+c.toNat % 16
 |0,_,_,_,h=>absurd h (by omega)
 |q+1,acc,[],c,_=>by rw[List.nil_append,decF,decF];cases q<;>rfl
 |q+1,acc,x::l,c,h=>by
  rw[List.cons_append,decF,decF]
  rw[List.length_cons]at h
  exact OB q _ l c (by omega)
theorem Nx{d:Nat}(h:d<10):(UInt8.ofNat (48+d)).toNat % 16=d:=by
 have:(UInt8.ofNat (48+d)).toNat=48+d:=by simp[UInt8.toNat_ofNat];omega
 rw[this];omega
theorem L0: ∀(k u:Nat),u<10 ^ (k+1)->k+1<=11->decF 11 0 (Lib.decDigits u)=u
 |0,u,h,_=>by
  rw[Lib.decDigits,dif_pos (by omega)]
  rw[decF,decF,Nx (by omega)];omega
 | k+1,u,h,hk=>by
  rw[Lib.decDigits]
  split
  ·rw[decF,decF,Nx (by omega)];omega
  ·have h1:u / 10<10 ^ (k+1):=Nat.div_lt_of_lt_mul (by rw[Nat.pow_succ]at h;omega)
   have h2:=BH k (u / 10) h1
   rw[OB 11 0 _ _ (by omega),L0 k _ h1 (by omega),Nx (by omega)];omega
theorem Ir{n:Int}(h1 : -1000000000<=n)(h2:n<=1000000000):intX (Lib.itoa n)=n:=by
 unfold Lib.itoa intX
 by_cases hn:n<0
 ·rw[if_pos hn,if_pos (by rfl),List.drop_succ_cons,List.drop_zero,L0 9 _ (by omega) (by omega)];omega
 ·rw[if_neg hn,if_neg ?_,L0 9 _ (by omega) (by omega)]
  ·omega
  ·intro h
   obtain⟨t,ht⟩:=List.head?_eq_some_iff.1 h
   have:=Cy n.toNat 45 (by rw[ht];simp)
   exact absurd this.1 (by decide)
theorem Ny: ∀(q acc:Nat) (l:Str),decF q acc l<(acc+2)*10 ^ q
 |0,acc,l=>by rw[decF];omega
 | q+1,acc,[]=>by
  rw[decF]
  have:1<=10 ^ (q+1):=Nat.pow_pos (by omega)
  calc acc<(acc+2)*1:=by omega
   _<=_:=Nat.mul_le_mul_left _ this
 |q+1,acc,c::l=>by
  rw[decF]
  have h:=Ny q (10*acc+c.toNat % 16) l
  have e:(acc+2)*10 ^ (q+1)=(acc+2)*10*10 ^ q:=by rw[Nat.pow_succ,Nat.mul_assoc,Nat.mul_comm 10]
  rw[e]
  have h3:(10*acc+c.toNat % 16+2)*10 ^ q<=(acc+2)*10*10 ^ q:=Nat.mul_le_mul_right _ (by omega)
  omega
def stF:Nat->Bool->Str->List Int×Int
 |0,_,_=>([],0)
 |q+1,b,f=>if b=false then([],0) else if(cutP 32 f).1=[58] then([],intX (cutP 32 f).2.1) else(intX (cutP 32 f).1::(stF q (cutP 32 f).2.2 (cutP 32 f).2.1).1,(stF q (cutP 32 f).2.2 (cutP 32 f).2.1).2)
def opK(w:Str):Nat->Int
 |0=>0
 |k+1=>if wordsC[k]? = some w then(k:Int)+1 else opK w k
def insL(l:Str):CIns:=⟨opK (cutP 32 l).1 21,intX (cutP 32 l).2.1⟩
def Gh:Nat->Str->List CIns
 |0,_=>[]
 |q+1,t=>if t=[] then [] else insL (cutP 10 t).1::Gh q (cutP 10 t).2.1
def Nl(s:Str):CProg:=⟨Gh (cutP 10 s).2.1.length (cutP 10 s).2.1,(stF ((cutP 10 s).1.length+1) true (cutP 10 s).1).1,(stF ((cutP 10 s).1.length+1) true (cutP 10 s).1).2⟩
theorem Oe{n:Int}(h:farN n=true): -1000000000<=n/\n<=1000000000:=by unfold farN at h;simp only[decide_eq_true_eq]at h;omega
theorem Ra(n:Int):Lib.itoa n≠[58]:=fun e=>CS (n:=n) (c:=58) (.inr (.inr rfl)) (by rw[e];simp)
theorem Vv(m:Int)(hm:farN m=true): ∀(l:List Int) (q:Nat),(∀n∈l,farN n=true)->l.length<q->stF q true (listB (fun n=>Lib.itoa n++[32]) l++58::32::Lib.itoa m)=(l,m)
 |[],q,_,hq=>by
  obtain⟨j,rfl⟩:∃j,q=j+1:=⟨q-1,by simp at hq;omega⟩
  have e:=Fl 32 [58] (Lib.itoa m) (by decide)
  rw[listB,List.nil_append,stF,if_neg (by simp),show(58:UInt8)::32::Lib.itoa m=[58]++32::Lib.itoa m from rfl,e,if_pos rfl]
  simp only
  rw[Ir (Oe hm).1 (Oe hm).2]
 |n::l,q,hl,hq=>by
  obtain⟨j,rfl⟩:∃j,q=j+1:=⟨q-1,by simp at hq;omega⟩
  have e:=Fl 32 (Lib.itoa n) (listB (fun n=>Lib.itoa n++[32]) l++58::32::Lib.itoa m) (CS (.inr (.inl rfl)))
  have e2:listB (fun n=>Lib.itoa n++[32]) (n::l)++58::32::Lib.itoa m=Lib.itoa n++32::(listB (fun n=>Lib.itoa n++[32]) l++58::32::Lib.itoa m):=by simp[listB]
  have hn:=Oe (hl n (by simp))
  rw[e2,stF,if_neg (by simp),e,if_neg (Ra n)]
  simp only
  rw[Vv m hm l j (fun x hx=>hl x (by simp[hx])) (by simp at hq;omega),Ir hn.1 hn.2]
theorem Qv: ∀k:Nat,k<21->opK ((wordsC[k]?).getD []) 21=(k:Int)+1:=by decide
theorem NW{op:Int}(h:1<=op/\op<=21):opK (FR op) 21=op:=by
 unfold FR
 rw[Qv _ (by omega)];omega
theorem Rc{x:CIns}(h:BI x=true):insL (Bw x)=x:=by
 unfold BI at h
 simp only[Bool.and_eq_true,decide_eq_true_eq]at h
 obtain⟨h1,h2⟩:=h
 obtain⟨w1,w2,_⟩:=Kj h1
 unfold insL Bw
 cases hA:hasA x.op with
 | true =>
  rw[hA,if_pos rfl]at h2
  have hx : -1000000000<=x.a/\x.a<=1000000000:=by
   split at h2
   ·unfold inB at h2;simpa using h2
   ·exact Oe h2
  rw[if_pos rfl,Fl 32 _ _ w2]
  simp only
  rw[NW h1,Ir hx.1 hx.2]
 |false=>
  rw[hA,if_neg (by simp)]at h2
  simp only[decide_eq_true_eq]at h2
  rw[if_neg (by simp),List.append_nil,Tq 32 _ w2]
  simp only
  rw[NW h1]
  rcases x with⟨o,a⟩
  simp only at h2
  subst h2
  rfl
theorem line_no{x:CIns}(h:BI x=true):(10:UInt8)∉Bw x:=by
 unfold BI at h
 simp only[Bool.and_eq_true,decide_eq_true_eq]at h
 obtain⟨w1,w2,_⟩:=Kj h.1
 unfold Bw
 intro hm
 rcases List.mem_append.1 hm with hm|hm
 ·exact w1 hm
 ·split at hm
  ·rcases List.mem_cons.1 hm with hm|hm
   ·exact absurd hm (by decide)
   ·exact CS (.inl rfl) hm
  ·cases hm
theorem Um(c:CProg):(10:UInt8)∉Ej c:=by
 unfold Ej
 have aP:∀l:List Int,(10:UInt8)∉listB (fun n=>Lib.itoa n++[32]) l:=fun l=>by
  induction l with
  |nil=>rw[listB];simp
  | cons n l ih =>
   rw[listB]
   intro hm
   rcases List.mem_append.1 hm with hm|hm
   ·rcases List.mem_append.1 hm with hm|hm
    ·exact CS (.inl rfl) hm
    ·rw[List.mem_singleton]at hm;exact absurd hm (by decide)
   ·exact ih hm
 intro hm
 rcases List.mem_append.1 hm with hm|hm
 ·exact aP _ hm
 ·rcases List.mem_cons.1 hm with hm|hm
  ·exact absurd hm (by decide)
  ·rcases List.mem_cons.1 hm with hm|hm
   ·exact absurd hm (by decide)
   ·exact CS (.inl rfl) hm
theorem O3: ∀(l:List CIns) (q:Nat),(∀x∈l,BI x=true)->l.length<=q->Gh q (listB (fun l=>l++[10]) (l.map Bw))=l
 |[],q,_,_=>by rw[List.map_nil,listB];cases q with|zero=>rfl|succ q=>rw[Gh,if_pos rfl]
 |x::l,q,hl,hq=>by
  obtain⟨j,rfl⟩:∃j,q=j+1:=⟨q-1,by simp at hq;omega⟩
  have e2:listB (fun l=>l++[(10:UInt8)]) ((x::l).map Bw)=Bw x++10::listB (fun l=>l++[10]) (l.map Bw):=by simp[listB]
  rw[e2,Gh,if_neg (by simp),Fl 10 _ _ (line_no (hl x (by simp)))]
  simp only
  rw[O3 l j (fun y hy=>hl y (by simp[hy])) (by simp at hq;omega),Rc (hl x (by simp))]
theorem FM{α:Type}{f:α->Str}(b:UInt8): ∀l:List α,l.length<=(listB (fun n=>f n++[b]) l).length
 |[]=>by simp
 |x::l=>by
  have:=FM (f:=f) b l
  rw[listB,List.length_append,List.length_append,List.length_cons,List.length_singleton];omega
theorem Rm(c:CProg)(hp:AG c=true):Nl (Cz c)=c:=by
 have h:=hp
 unfold AG at h
 simp only[Bool.and_eq_true,decide_eq_true_eq,List.all_eq_true]at h
 obtain⟨h1,h2,h3,h4,h5⟩:=h
 have e:Cz c=Ej c++10::listB (fun l=>l++[10]) (c.ins.map Bw):=by unfold Cz;rw[listB];simp
 unfold Nl
 rw[e,Fl 10 _ _ (Um c)]
 simp only
 have l1:c.ins.length<=(listB (fun l:Str=>l++[(10:UInt8)]) (c.ins.map Bw)).length:=by
  have:=FM (f:=fun l:Str=>l) 10 (c.ins.map Bw)
  rw[List.length_map]at this;exact this
 have l2:c.starts.length<(Ej c).length+1:=by
  have:=FM (f:=Lib.itoa) 32 c.starts
  unfold Ej
  rw[List.length_append];omega
 rw[O3 c.ins _ h5 l1]
 have:=Vv c.main h3 c.starts _ h4 l2
 unfold Ej at this⊢
 rw[this]
theorem rt_find(s:Str):EG intP s=if AG (Nl s)=true/\Cz (Nl s)=s then some (Nl s) else none:=read_by (Lt Rb) Nl Rm s
end Go.DL
namespace Go.DL
open Go.Proofs.Tryz
open Go Go.Proofs
open Go.Proofs.YteldimffglchkaaGreatDoor.Rows (uptoBulk uptoBulkAll)
def g0(W:Go.World):G:={ imm:=fun b o=>W.cell? ⟨b,o,none⟩,rho:=fun _=>none,hist:=fun _ _=>none,keep:=fun k=>W.heap[k]?, io:=(W.os,W.output) }
abbrev PowIs (W : Go.World) : Prop := W.var? prog "internal/strconv.uint64pow10" = some (((List.range 20).map fun i => ((10 ^ i : Nat) : Int)).map fun z => Value.int .u64 z).toArray
def TI(W:Go.World):Prop:=PowIs W/\NF prog W
theorem MA{W w:Go.World}(hk:∀(k:Nat) (o:Obj),W.heap[k]? = some o->w.heap[k]? = some o){a:Addr}{v:Value}(h:W.cell? a=some v):w.cell? a=some v:=by
 unfold World.cell? at h⊢
 cases e:W.heap[a.block]? with
 |none=>rw[e]at h;cases h
 |some o=>rw[hk _ _ e];rw[e]at h;exact h
theorem tabK0(W:Go.World)(h:TI W):TabK prog (g0 W):=fun w hk=>.inr ⟨by
 have h:=h.1
 unfold PowIs at h
 unfold World.var? at h⊢
 cases hg : prog.globalNamed "internal/strconv.uint64pow10" with
 |none=>rw[hg]at h;cases h
 |some g=>
  rw[hg]at h
  simp only[Option.bind_some]at h⊢
  cases hw:W.heap[g]? with
  |none=>rw[hw]at h;cases h
  |some o=>rw[hw]at h;rw[hk g o hw];exact h,fun g hg=>(h.2.1 g hg).imp fun m hm=>MA hk hm,fun x hx g hg=>(h.2.2 x hx g hg).imp fun te h=>h.imp fun pe h=>MA hk h⟩
theorem sim0(W:Go.World)(h:TI W):Sim prog (g0 W) (fun _=>none) W where
 imm:=fun _ _ _ h=>h
 keep:=fun _ _ h=>h
 obj:=fun _ _ h=>by cases h
 inj:=fun _ _ _ h=>by cases h
 free:=fun _ _ h=>by cases h
 htop:=fun _ _ _ _ h=>by cases h
 hdom:=fun _ _ _ h=>by cases h
 fin:=⟨0,fun _ _=>rfl⟩
 io:=rfl
 tab:=tabK0 W h
theorem IW{α:Type}{p:Nat->α->Prop}: ∀n,(∀i,i<n->∃a,p i a)->∃l:List α,l.length=n /\ ∀i a,l[i]? = some a->p i a
 |0,_=>⟨[],rfl,fun i a h=>by simp at h⟩
 | n+1,h=>by
  obtain⟨l,hl,hp⟩:=IW n fun i hi=>h i (by omega)
  obtain⟨a,ha⟩:=h n (by omega)
  refine⟨l++[a],by simp[hl],fun i b hb=>?_⟩
  by_cases hi:i<n
  ·rw[List.getElem?_append_left (by omega)]at hb;exact hp i b hb
  ·rw[List.getElem?_append_right (by omega)]at hb
   have h0:i-l.length=0:=by
    rcases Nat.eq_zero_or_pos (i-l.length)with h|h
    ·exact h
    ·rw[List.getElem?_eq_none (by simp;omega)]at hb;cases hb
   rw[h0]at hb
   simp at hb
   rw[show i=n by omega,<-hb];exact ha
theorem Qj{g:G}{b:Nat}: ∀{ds:List D}{vs:List Value}{o:Nat},RepL g ds vs->(∀j v,vs[j]? = some v->g.imm b (o+j)=some v)->RepI g b o ds
 |[],_,_,_,_=>trivial
 |d::ds,_,o,⟨v,r,e,h1,h2⟩,hi=>by
  subst e
  exact⟨⟨v,hi 0 v rfl,h1⟩,Qj h2 fun j x hx=>by rw[Nat.add_assoc,Nat.add_comm 1 j];exact hi (j+1) x hx⟩
theorem Qk{g:G}{b sz:Nat}: ∀{l:List (List D)}{o:Nat},(∀i e,l[i]? = some e->e.length=sz/\RepI g b (o+i*sz) e)->RepE g b sz o l
 |[],_,_=>trivial
 |e::l,o,h=>⟨by simpa using h 0 e rfl,Qk fun i x hx=>by
  have:=h (i+1) x hx
  rw[Nat.add_mul,Nat.one_mul,Nat.add_comm (i*sz),<-Nat.add_assoc]at this;exact this⟩
theorem Vs{α H:Type}{wt:α->Nat}: ∀{l:List α}{xs:List (DataW H)},l.length=xs.length->(∀(i:Nat) a x,l[i]? = some a->xs[i]? = some x->wt a<=uptoBulk x)->wtL wt l<=uptoBulkAll xs
 |[],[],_,_=>Nat.zero_le _
 |a::l,x::xs,h,hp=>by
  have h1:=hp 0 a x rfl rfl
  have h2:=Vs (l:=l) (xs:=xs) (by simpa using h) fun i b y hb hy=>hp (i+1) b y hb hy
  simp only[wtL,uptoBulkAll];omega
section
variable {H:Type}{enc:TypeId×Value->H}{W:Go.World}
noncomputable abbrev rd(enc:TypeId×Value->H)(W:Go.World)(n t:Nat)(cs:List Value):Option (DataW H×List MemPlace):=DataW.trod enc prog W 0 (fun _=>true) true n t cs
def Dec(enc:TypeId×Value->H)(W:Go.World){α:Type}(n t:Nat)(c:α->List D)(wt:α->Nat):Prop:= ∀cs x,rd enc W n t cs=some x->∃a,RepL (g0 W) (c a) cs/\wt a<=uptoBulk x.1
theorem KY{t n:Nat}(ht:prog.underlying t=some (.int .i64)):Dec enc W n t (fun k:Int=>[dI k]) (fun _=>1):=fun cs x h=>by
 obtain⟨k,rfl,rfl,_⟩:=DataW.trod_int ht h
 exact⟨k,⟨_,[],rfl,rfl,rfl⟩,by simp[uptoBulk]⟩
theorem dec_str{t n:Nat}(ht:prog.underlying t=some .string):Dec enc W n t (fun s:Str=>[.str s]) (fun s=>1+s.length):=fun cs x h=>by
 obtain⟨s,rfl,rfl,_⟩:=DataW.trod_string ht h
 exact⟨s.data.toList,⟨_,[],rfl,by simp[Rep],rfl⟩,by simp only[uptoBulk];omega⟩
theorem Mu{α:Type}{t e sz n:Nat}{c:α->List D}{wt:α->Nat}(ht:prog.underlying t=some (.slice e))(hz:prog.cellsOf e=sz)(aX:0<sz)(hc:∀a,(c a).length=sz)(hd:∀m,m<n->Dec enc W m e c wt):
  Dec enc W n t (fun l:List α=>[sl (l.map c)]) (fun l=>1+wtL wt l):=fun cs x h=>by
 rcases DataW.trod_slice ht h with⟨rfl,rfl⟩|⟨a,len,cap,elems,rest,m,rfl,rfl,rfl,hb,hl,hm,hlen,a8, -, -⟩
 ·exact⟨[],⟨_,[],rfl,⟨Option.none,0,rfl,by simp,.inl rfl,trivial⟩,rfl⟩,by simp[uptoBulk,wtL]⟩
 ·have key:∀i,i<len->∃b:α, ∃y vs,elems[i]? = some y/\W.cells? 0 (a.add (i*sz)) sz=some vs/\RepL (g0 W) (c b) vs/\wt b<=uptoBulk y.1:=fun i hi=>by
   have h1:=a8 i hi
   rw[hz,List.getElem?_eq_getElem (by omega)]at h1
   obtain⟨vs,h2,h3⟩:=Option.bind_eq_some_iff.1 h1
   obtain⟨b,h4,h5⟩:=hd m (by omega) vs _ h3
   exact⟨b,_,vs,List.getElem?_eq_getElem (by omega),h2,h4,h5⟩
  obtain⟨l,aI,hp⟩:=IW len key
  refine⟨l,⟨_,[],rfl,⟨some a,cap,by simp[aI],by simpa[aI] using hl,?_,trivial⟩,rfl⟩,?_⟩
  ·cases aH:l with
   |nil=>exact .inl rfl
   | cons b0 l' =>
    rw[<-aH]
    have be:0<len:=by rw[<-aI,aH];simp
    obtain⟨y,vs,k1,k2,k3,k4⟩:=hp 0 b0 (by rw[aH];rfl)
    obtain⟨_,k5,k6⟩:=World.cells?_some k2
    have aQ:a.spot=none:=by
     have:=k6 0 (by omega)
     cases hs:a.spot with
     |none=>rfl
     |some q=>simp[World.cell?, Addr.add,hs]at this;split at this<;>simp_all
    obtain⟨ab,ao,asp⟩:=a
    simp only at aQ
    subst aQ
    refine .inr ⟨sz,ab,ao,rfl,Qk fun i e he=>?_⟩
    rw[List.getElem?_map]at he
    obtain⟨b,aL,rfl⟩:=Option.map_eq_some_iff.1 he
    obtain⟨y,vs,k1,k2,k3,k4⟩:=hp i b aL
    obtain⟨_,k5,k6⟩:=World.cells?_some k2
    refine⟨hc b,Qj k3 fun j v hv=>?_⟩
    have hj:j<sz:=by rw[<-k5];exact(List.getElem?_eq_some_iff.1 hv).1
    have:=k6 j hj
    rw[hv,Bu,Bu]at this
    exact this
  ·have:=Vs (wt:=wt) (l:=l) (xs:=elems.map (·.1)) (by simp;omega) fun i b z aL aD=>by
    obtain⟨y,vs,k1,k2,k3,k4⟩:=hp i b aL
    rw[List.getElem?_map,k1]at aD
    simp at aD;subst aD;exact k4
   simp only[uptoBulk];omega
set_option maxRecDepth 100000
theorem Lv{t n:Nat}{fs:Array Field}(ht:prog.underlying t=some (.struct fs)){cs:List Value}{x:DataW H×List MemPlace}(h:rd enc W n t cs=some x):
  ∃(xs:List (DataW H×List MemPlace)) (m:Nat),m<n/\uptoBulk x.1=uptoBulkAll (xs.map (·.1))+1/\cs.length=prog.cellsOf t/\xs.length=fs.size /\
   ∀(i:Nat) (f:Field),fs[i]? = some f->rd enc W m f.type ((cs.drop f.offset).take (prog.cellsOf f.type))=xs[i]? :=by
 obtain⟨xs,m,rfl,rfl,h1,h2,h3⟩:=DataW.trod_struct ht h
 exact⟨xs,m,by omega,by simp[uptoBulk],h1,h2,h3⟩
theorem cellsI:prog.cellsOf 3=1:=by kernel_rfl
theorem Vg(n:Nat):Dec enc W n 23 (fun l:List Int=>[sl (cI l)]) (fun l=>1+wtL (fun _=>1) l):=Mu underlying23 cellsI (by omega) (fun _=>rfl) fun _ _=>KY underlying3
theorem Vr{α:Type}: ∀l:List α,wtL (fun _=>1) l=l.length
 |[]=>rfl
 |x::l=>by rw[wtL,Vr l,List.length_cons];omega
theorem Qq{m t off k:Nat}{cs cs':List Value}{o:Option (DataW H×List MemPlace)}(h:rd enc W m t ((cs.drop off).take (prog.cellsOf t))=o)(hk:prog.cellsOf t=k)(hc:(cs.drop off).take k=cs'):rd enc W m t cs'=o:=by rw[<-hc,<-hk];exact h
end
end Go.DL
namespace Go.DL
open Go.Proofs.Tryz
open Go Go.Proofs Go.ChangeShapes Go.WideShapes Go.ChangeAt Go.RowKit
open Go.Proofs.YteldimffglchkaaGreatDoor
open Go.Proofs.YteldimffglchkaaGreatDoor.Rows (uptoBulk uptoBulkAll)
set_option maxRecDepth 100000
theorem own:ownKnob prog.godebug=none:=by kernel_rfl
theorem R8{N:Nat}{us:List D}(h:BL prog N us (fun _=>none) fun x _=>x=.ret (.bool true))(W:Go.World)(hP:TI W){vs:List Value}(hr:RepL (g0 W) us vs):
  Calls prog N vs.toArray W fun e W'=>e=.returned (.bool true)/\(∀(k:Nat) (o:Obj),W.heap[k]? = some o->W'.heap[k]? = some o)/\W'.os=W.os/\W'.output=W.output:=by
 refine CallsIn.calls (F:=FX prog { wide:=true }) (n:=0) ((h.run (g0 W) W vs _ rfl (sim0 W hP) hr).mono ?_) fun k=>Ef _ _ _
 rintro e W' ⟨g',x,U',ay,hs,hE,rfl⟩
 obtain⟨v,rfl,rfl⟩:=hE
 have aJ:=hs.io.trans ay.io
 simp only[g0,Prod.mk.injEq]at aJ
 exact⟨rfl,fun k o hk=>hs.keep k o (ay.keep k o hk),aJ.1,aJ.2⟩
theorem laidOut:laidOutB prog=true:=by kernel_rfl
section
variable {H:Type}{enc:TypeId×Value->H}{W W':Go.World}
theorem FV{sp:Nat->Bool}: ∀{ts:List TypeId}{vs:List Value}{ds:List (DataW H)}{ps:List MemPlace},(∀t∈ts,prog.readableRec t=true/\t<prog.types.size)->DataW.TrodAll enc prog W 0 (fun _=>true) true ts vs ds ps->(∀p∈ps,W.sameAt W' p)->(∀p∈ps,sp p.block=true)->DataW.TrodAll enc prog W' 0 sp true ts vs ds ps
 |[],vs,ds,ps,_,h,_,_=>by
  obtain⟨rfl,rfl,rfl⟩:=trodAll_nil h
  exact h
 | t::ts,vs,ds,ps,ht,h,h1,h2=>by
  obtain⟨v,vs1,d,ds1,a,b,rfl,rfl,rfl,k1,k2⟩:=trodAll_cons h
  exact⟨a,b,WideElems.Trod_stays laidOut (ht t (by simp)).1 (ht t (by simp)).2 k1 (fun p hp=>h1 p (by simp[hp])) (fun p hp=>h2 p (by simp[hp])),
   FV (fun t hx=>ht t (by simp[hx])) k2 (fun p hp=>h1 p (by simp[hp])) (fun p hp=>h2 p (by simp[hp])),rfl⟩
theorem same_of{p:MemPlace}(aj:∀(k:Nat) (o:Obj),W.heap[k]? = some o->W'.heap[k]? = some o)(hp:p.block<W.heap.size):W.sameAt W' p:=by
 have hk:∀b,b<W.heap.size->W'.heap[b]? = W.heap[b]? :=fun b hb=>by
  rw[Array.getElem?_eq_getElem hb];exact aj b _ (Array.getElem?_eq_getElem hb)
 cases p with
 |cell b off=>
  show W'.cell? ⟨b,off,none⟩=W.cell? ⟨b,off,none⟩
  unfold World.cell?
  rw[hk b hp]
 |map b=>exact hk b hp
theorem kept_of{may:MemPlace->Prop}(aj:∀(k:Nat) (o:Obj),W.heap[k]? = some o->W'.heap[k]? = some o)(aF:W'.os=W.os)(aw:W'.output=W.output):W.keptBut W' may:=by
 refine⟨aF,aw,fun i hi=>?_⟩
 have h:=Array.getElem?_eq_getElem hi
 rw[h,aj i _ h]
 cases W.heap[i]<;>simp
theorem Uo{f:Func}{s:ChangeSpec}{args:Array Value}{ds gs:List (DataW H)}{before:List MemPlace}(hv:s.vars=[])(aW:f.resultTypes=#[4])(aV:∀t∈f.params.toList,prog.readableRec t=true/\t<prog.types.size)
  (hW:DataW.Whole enc prog f.params.toList s.vars false W args.toList ds gs before) (aK:s.fn H (ds++gs)={ results:=[.lit (.bool true)],args:=ds })
  (aj:∀(k:Nat) (o:Obj),W.heap[k]? = some o->W'.heap[k]? = some o) (aF:W'.os=W.os) (aw:W'.output=W.output):s.post enc prog f false true false false W args (.bool true) W':=by
 have aS:=hW.lt
 have bb:=hW
 obtain⟨p,q,hA,hV,rfl,bi,bd⟩:=hW
 rw[hv]at hV
 obtain⟨rfl,rfl⟩:=trodVars_none hV
 have aA:∀x∈p,W.sameAt W' x:=fun x hx=>same_of aj (by simpa using aS x (by simp[hx]))
 refine⟨ds,[],p++[],[],p,[],bb,?_,?_,?_,kept_of aj aF aw,fun h=>by cases h⟩
 ·rw[aW,aK]
  exact trodAll_cons_mk (shut_bool underlying4 _) trodAll_mk0
 ·rw[aK]
  exact FV aV hA aA fun x hx=>by simpa using aS x (by simp[hx])
 ·rw[aK,hv]
  rfl
end
theorem gPow : prog.globalNamed "internal/strconv.uint64pow10" = some 1 := by kernel_rfl
theorem gPowT:(prog.globals[1]?).map (·.type)=some 389:=by kernel_rfl
theorem Vl:prog.cellsOf 389=20:=by kernel_rfl
theorem Vm:prog.cellsOf 338=1:=by kernel_rfl
theorem noGo:prog.funcs.any Func.goes=false:=by kernel_rfl
theorem goes_no(c:OpenClaim)(hs:c.start=.entering):false=c.goesBy Tryz.pinned.checked.prog:=by
 have key:∀f,prog.goes f=false:=fun f=>by
  unfold Program.goes
  rw[noGo,Bool.and_false,Bool.or_false,List.any_eq_false]
  intro g _
  cases hg:prog.funcs[g]? with
  |none=>simp
  |some fn=>
   have:=Array.any_eq_false.1 noGo g (Array.getElem?_eq_some_iff.1 hg).1
   rw[(Array.getElem?_eq_some_iff.1 hg).2]at this
   simpa using this
 show false=prog.goesAt c.start c.func
 unfold Program.goesAt Program.goesFrom
 rw[hs]
 cases h:prog.funcNamed c.func with
 |none=>rfl
 |some f=>simp[key f]
end Go.DL
namespace Go.DL
open Go.Proofs.Tryz
open Go Go.Proofs
set_option maxHeartbeats 8000000
def cIns(x:CIns):List D:=[dI x.op,dI x.a]
@[simp] theorem cIns_len(x:CIns):(cIns x).length=2:=rfl
@[simp] theorem cIns_flat(x:CIns):BB (cIns x)=true:=rfl
abbrev cLev(l:CLev):List D:=[dI l.st,dI l.env]
theorem VI:EqTy prog 87:=⟨by kernel_rfl,by kernel_rfl,by kernel_rfl⟩
theorem Te:EqTy prog 79:=⟨by kernel_rfl,by kernel_rfl,by kernel_rfl⟩
theorem VB:(tab 87).k=.struct [(0,85),(1,3)]:=rfl
theorem R9:(tab 79).k=.struct [(0,3),(1,3)]:=rfl
theorem eqIns(a b:CIns):eqFs tab (cIns a) (cIns b) [(0,85),(1,3)]=some (decide (a=b)):=by
 cases a;cases b
 simp[cIns,CIns.mk.injEq,Bool.decide_and]
theorem eqLev(a b:CLev):eqFs tab (cLev a) (cLev b) [(0,3),(1,3)]=some (decide (a=b)):=by
 cases a;cases b
 simp[cLev,CLev.mk.injEq,Bool.decide_and]
theorem UM(op:Int)(O:Sig):DCall prog 72 [dI op] O (rS (.bool (hasA op)) O):=by
 refine en func72 ntmps72 ?_
 repeat' first|refine gz ?_|apply gy<;>intro hh
 any_goals (first|(refine fin1 (U':=O) ?_;exact⟨by first|rfl|(simp[Go.DL.hasA];done)|(simp_all [Go.DL.hasA];done)|(rw[Ag,Bool.eq_iff_iff];simp_all [Go.DL.hasA]<;>omega),rfl⟩)|fail)
@[reducible,instance] def a72:=fun op O=>ah0 (@UM op O)
theorem UI(op:Int)(O:Sig):DCall prog 82 [dI op] O (rS (.bool (hasA op)) O):=by
 refine en func82 ntmps82 ?_
 repeat' first|refine gz ?_|apply gy<;>intro hh
 any_goals (first|(refine fin1 (U':=O) ?_;exact⟨by first|rfl|(simp[Go.DL.hasA];done)|(simp_all [Go.DL.hasA];done)|(rw[Ag,Bool.eq_iff_iff];simp_all [Go.DL.hasA]<;>omega),rfl⟩)|fail)
@[reducible,instance] def a82:=fun op O=>ah0 (@UI op O)
theorem F1(n:Int)(O:Sig):DCall prog 150 [dI n] O (rS (.bool (!farN n)) O):=by
 refine en func150 ntmps150 ?_
 repeat' first|refine gz ?_|apply gy<;>intro hh
 any_goals (first|(refine fin1 (U':=O) ?_;exact⟨by first|rfl|(simp[farN];done)|(simp_all [farN];done)|(rw[Ag,Bool.eq_iff_iff];simp_all [farN]<;>omega),rfl⟩)|fail)
@[reducible,instance] def a150:=fun n O=>ah0 (@F1 n O)
theorem SK(n:Int)(O:Sig):DCall prog 156 [dI n] O (rS (.bool (inB n)) O):=by
 refine en func156 ntmps156 ?_
 repeat' first|refine gz ?_|apply gy<;>intro hh
 any_goals (first|(refine fin1 (U':=O) ?_;exact⟨by first|rfl|(simp[inB];done)|(simp_all [inB];done)|(rw[Ag,Bool.eq_iff_iff];simp_all [inB]<;>omega),rfl⟩)|fail)
@[reducible,instance] def a156:=fun n O=>ah0 (@SK n O)
end Go.DL
