/- A part of the proof. -/
import Derived.Test.YteldimffglchkaaGreatDoorR17
import Derived.Test.YteldimffglchkaaGreatDoorR10
import Derived.Test.YteldimffglchkaaGreatDoorRows
import Derived.WideKeyArgs
import Derived.ChangeSame
import Derived.WalkKit
import Derived.ProofKit
import Derived.OpenShut
import Derived.JoinedCond
import Derived.Test.YteldimffglchkaaGreatDoorCards
import Derived.Test.YteldimffglchkaaGreatDoorTie
import Derived.Deep.DeepHandedRow
import Derived.Lib.LaidTab
import Derived.Test.YteldimffglchkaaGreatDoorR13
import Derived.Test.YteldimffglchkaaGreatDoorR12
import Derived.Test.YteldimffglchkaaGreatDoorR15
set_option linter.all false
namespace Go.DL
open Go.Proofs.Tryz
open Go Go.Proofs
def toC(p:BProg)(x:CIns)(l:CLev):CLev:=
 ⟨l.st-(Ag p x).1+(Ag p x).2,if x.op=14 then l.env+1 else if x.op=15 then l.env-1 else l.env⟩
structure InsOK(p:BProg)(N k:Nat)(x:CIns)(l:CLev)(m:Met)(env:Int)(next:Bool):Prop where
 take:(Ag p x).1<=l.st
 name:x.op=3->x.a<l.env
 drop:x.op=15->env<l.env
 nexts:x.op=20->next=true
 fin:x.op=21->l.st=1/\l.env=env
 on:x.op≠21->x.op≠18->k+1<N/\m (k+1)=some (toC p x l)
 jump:x.op=17\/x.op=18->0<=x.a/\x.a<N/\m x.a.toNat=some (toC p x l)
theorem Eu{N:Nat}{met m:Met}{n:Int}{l:CLev}(h:AI N met n l=some m):0<=n/\n<N/\m n.toNat=some l /\ ∀j x,met j=some x->m j=some x:=by
 unfold AI at h
 split at h
 ·cases h
 ·rename_i e
  cases h
  refine⟨by omega,by omega,by unfold updM;rw[if_pos rfl],fun j x hx=>?_⟩
  unfold updM
  by_cases ej:j=n.toNat
  ·rw[if_pos ej]
   subst ej
   rw[hx]at e
   by_cases el:x=l
   ·rw[el]
   ·exact absurd (.inr (.inr ⟨by simp,by simpa using el⟩)) e
  ·rw[if_neg ej];exact hx
theorem InsOK.mono{p:BProg}{N k:Nat}{x:CIns}{l:CLev}{m m':Met}{env:Int}{next:Bool}(h:InsOK p N k x l m env next)(hm:∀j x,m j=some x->m' j=some x):InsOK p N k x l m' env next:=
 ⟨h.take,h.name,h.drop,h.nexts,h.fin,fun a b=>⟨(h.on a b).1,hm _ _ (h.on a b).2⟩,fun a=>⟨(h.jump a).1,(h.jump a).2.1,hm _ _ (h.jump a).2.2⟩⟩
section
variable {p:BProg}{c:CProg}{env:Int}{next:Bool}
theorem Qi {q:Nat} {x:CIns} {l:CLev} {met m:Met} (h:CT p c env next q x l met=some m):InsOK p c.ins.length q x l m env next /\ ∀ j x,met j=some x->m j=some x:=by
 unfold CT at h
 split at h
 ·cases h
 ·rename_i e0
  have t:(Ag p x).1<=l.st:=by omega
  have nm:x.op=3->x.a<l.env:=fun h3=>by omega
  have dr:x.op=15->env<l.env:=fun h3=>by omega
  have nx:x.op=20->next=true:=fun bn=>by
   cases next with
   |true=>rfl
   |false=>exact absurd (.inr (.inr (.inr ⟨bn,rfl⟩))) e0
  split at h
  ·rename_i ap
   split at h
   ·rename_i e
    cases h
    exact⟨⟨t,nm,dr,nx,fun _=>e,fun a=>absurd ap a,fun a=>by omega⟩,fun _ _ h=>h⟩
   ·cases h
  ·rename_i ap
   split at h
   ·rename_i ar
    obtain⟨r1,r2,r3,r4⟩:=Eu h
    rw[show((q:Int)+1).toNat=q+1 by omega]at r3
    exact⟨⟨t,nm,dr,nx,fun a=>absurd a ap,fun _ _=>⟨by omega,by unfold toC;rw[if_pos ar];exact r3⟩,fun a=>by omega⟩,r4⟩
   ·rename_i ar
    split at h
    ·rename_i aq
     obtain⟨r1,r2,r3,r4⟩:=Eu h
     rw[show((q:Int)+1).toNat=q+1 by omega]at r3
     exact⟨⟨t,nm,dr,nx,fun a=>absurd a ap,fun _ _=>⟨by omega,by unfold toC;rw[if_neg ar,if_pos aq];exact r3⟩,fun a=>by omega⟩,r4⟩
    ·rename_i aq
     have eto:toC p x l=⟨l.st-(Ag p x).1+(Ag p x).2,l.env⟩:=by unfold toC;rw[if_neg ar,if_neg aq]
     split at h
     ·rename_i aF
      obtain⟨r1,r2,r3,r4⟩:=Eu h
      exact⟨⟨t,nm,dr,nx,fun a=>absurd a ap,fun _ a=>absurd aF a,fun _=>⟨r1,r2,by rw[eto];exact r3⟩⟩,r4⟩
     ·rename_i aF
      split at h
      ·split at h
       ·cases h
       ·rename_i m1 e1
        obtain⟨s1,s2,s3,s4⟩:=Eu e1
        obtain⟨r1,r2,r3,r4⟩:=Eu h
        rw[show((q:Int)+1).toNat=q+1 by omega]at r3
        exact⟨⟨t,nm,dr,nx,fun a=>absurd a ap,fun _ _=>⟨by omega,by rw[eto];exact r3⟩,fun _=>⟨s1,s2,by rw[eto];exact r4 _ _ s3⟩⟩,fun j x hx=>r4 j x (s4 j x hx)⟩
      ·rename_i bB
       obtain⟨r1,r2,r3,r4⟩:=Eu h
       rw[show((q:Int)+1).toNat=q+1 by omega]at r3
       exact⟨⟨t,nm,dr,nx,fun a=>absurd a ap,fun _ _=>⟨by omega,by rw[eto];exact r3⟩,fun a=>absurd a (by omega)⟩,r4⟩
theorem step_to {q:Nat} {x:CIns} {l:CLev} {met m:Met} (h:CT p c env next q x l met=some m) (j:Nat):m j=met j\/m j=some (toC p x l):=by
 unfold CT at h
 split at h
 ·cases h
 ·split at h
  ·split at h
   ·cases h;exact .inl rfl
   ·cases h
  ·split at h
   ·rename_i ar
    refine(reach_at h j).imp id fun e=>?_
    unfold toC;rw[if_pos ar];exact e.2
   ·rename_i ar
    split at h
    ·rename_i aq
     refine(reach_at h j).imp id fun e=>?_
     unfold toC;rw[if_neg ar,if_pos aq];exact e.2
    ·rename_i aq
     have eto:toC p x l=⟨l.st-(Ag p x).1+(Ag p x).2,l.env⟩:=by unfold toC;rw[if_neg ar,if_neg aq]
     rw[eto]
     split at h
     ·exact(reach_at h j).imp id fun e=>e.2
     ·split at h
      ·split at h
       ·cases h
       ·rename_i e0
        rcases reach_at h j with e|e
        ·exact(reach_at e0 j).imp e.trans fun e2=>e.trans e2.2
        ·exact .inr e.2
      ·exact(reach_at h j).imp id fun e=>e.2
theorem IJ: ∀(f q:Nat) (met m:Met),DY p c env next f q met=some m->∀j x,met j=some x->m j=some x
 |0,_,_,_,h,_,_,hx=>by cases h;exact hx
 | f+1,q,met,m,h,j,x,hx=>by
  rw[DY]at h
  split at h
  ·exact IJ f _ _ _ h j x hx
  ·split at h
   ·cases h
   ·rename_i e
    exact IJ f _ _ _ h j x ((Qi e).2 j x hx)
theorem Qd(p:BProg)(x:CIns):0<=(Ag p x).2:=by
 unfold Ag
 split;simp
 split;simp
 split;simp
 split;simp
 split;simp
 split;simp
 simp
theorem No (hf : ∀ q:Nat,(Am c q).op=17\/(Am c q).op=18->(q:Int) < (Am c q).a) : ∀ (f q:Nat) (met m:Met),DY p c env next f q met=some m->(∀ j l,met j=some l->q<=j/\j < q+f/\0<=l.st/\env<=l.env\/InsOK p c.ins.length j (Am c j) l met env next/\0<=l.st/\env<=l.env) ->
  q+f=c.ins.length->∀j l,m j=some l->InsOK p c.ins.length j (Am c j) l m env next/\0<=l.st/\env<=l.env
 |0,q,met,m,h,hI,_,j,l,hl=>by
  cases h
  rcases hI j l hl with h|h
  ·omega
  ·exact h
 | f+1,q,met,m,h,hI,hN,j,l,hl=>by
  rw[DY]at h
  split at h
  ·rename_i hq
   refine No hf f _ _ _ h (fun i l' hi=>?_) (by omega) j l hl
   rcases hI i l' hi with h'|h'
   ·by_cases e:i=q
    ·subst e;rw[hq]at hi;cases hi
    ·exact .inl (by omega)
   ·exact .inr h'
  ·rename_i l0 hq
   split at h
   ·cases h
   ·rename_i m0 e
    obtain⟨o1,o2⟩:=Qi e
    have h0:0<=l0.st/\env<=l0.env:=by
     rcases hI q l0 hq with h'|h'
     ·exact⟨h'.2.2.1,h'.2.2.2⟩
     ·exact h'.2
    refine No hf f _ _ _ h (fun i l' hi=>?_) (by omega) j l hl
    by_cases eq:i=q
    ·subst eq
     have:=o2 i l0 hq
     rw[this]at hi;cases hi
     exact .inr ⟨o1,h0⟩
    ·rcases IG e (hf q) i with e2|⟨e2,_⟩
     ·rw[e2]at hi
      rcases hI i l' hi with h'|h'
      ·exact .inl (by omega)
      ·exact .inr ⟨h'.1.mono o2,h'.2⟩
     ·have bt:i<c.ins.length:=Classical.byContradiction fun hn=>by
       have hd:=O0 e (fun j hj=>by
        cases hm:met j with
        |none=>rfl
        | some y =>
         rcases hI j y hm with h'|h'
         ·omega
         ·exfalso
          have:c.ins[j]? = none:=List.getElem?_eq_none (by omega)
          have hz:Am c j=⟨0,0⟩:=by unfold Am;rw[this];rfl
          rw[hz]at h'
          have:=(h'.1.on (by simp) (by simp)).1
          omega) i (by omega)
       rw[hd]at hi;cases hi
      have g:m0 i=met i\/l'=toC p (Am c q) l0:=(step_to e i).imp id fun e3=>by rw[hi]at e3;exact Option.some.inj e3
      rcases g with g|g
      ·rw[g]at hi
       rcases hI i l' hi with h'|h'
       ·exact .inl (by omega)
       ·exact .inr ⟨h'.1.mono o2,h'.2⟩
      ·refine .inl ⟨by omega,by omega,?_,?_⟩
       ·rw[g];unfold toC;simp only
        have:(Ag p (Am c q)).1<=l0.st:=o1.take
        have:=Qd p (Am c q)
        omega
       ·rw[g];unfold toC;simp only
        split
        ·omega
        ·split
         ·rename_i _ aq
          have:=o1.drop aq
          omega
         ·omega
end
theorem Rw{p:BProg}{c:CProg}(h:CW p c.ins.length c.ins 0=true)(q:Nat)(ax:(Am c q).op=17\/(Am c q).op=18):(q:Int)<(Am c q).a:=by
 have ha:Am c q=((c.ins[q]?).getD ⟨0,0⟩):=rfl
 rw[ha]at ax⊢
 cases hc:c.ins[q]? with
 |none=>rw[hc]at ax;simp at ax
 |some y=>
  rw[hc]at ax
  simp only[Option.getD_some]at ax⊢
  have:=(EH _ _).1 h q y hc
  unfold fitsC at this
  rw[if_neg (by omega),if_neg (by omega),if_neg (by omega),if_neg (by omega),if_pos ax]at this
  simp only[decide_eq_true_eq]at this
  omega
theorem way_ok{p:BProg}{c:CProg}(hf:∀q:Nat,(Am c q).op=17\/(Am c q).op=18->(q:Int)<(Am c q).a){s:CSt}{w:Met}(h:wayM p c s=some w):
  0<=s.pos/\s.pos<c.ins.length/\w s.pos.toNat=some ⟨0,s.env⟩ /\ ∀j l,w j=some l->InsOK p c.ins.length j (Am c j) l w s.env s.next/\0<=l.st/\s.env<=l.env:=by
 unfold wayM at h
 split at h
 ·cases h
 ·refine⟨by omega,by omega,IJ _ _ _ _ h _ _ (by unfold updM;rw[if_pos rfl]),?_⟩
  refine No hf _ _ _ _ h (fun j l hl=>?_) (by omega)
  unfold updM at hl
  split at hl
  ·cases hl;exact .inl ⟨by omega,by omega,by simp,by simp⟩
  ·cases hl
structure LevOK(p:BProg)(c:CProg)(m:Met)(nx:Bool):Prop where
 dom:∀(k:Nat) (l:CLev),m k=some l->k<c.ins.length
 ok:∀(k:Nat) (l:CLev),m k=some l->∃(env:Int) (next:Bool),InsOK p c.ins.length k (Am c k) l m env next/\0<=l.st/\env<=l.env/\0<=env/\(next=true->nx=true)
 fits:∀(k:Nat) (x:CIns),c.ins[k]? = some x->fitsC p c.ins.length k x=true
theorem Re{p:BProg}{c:CProg}{l:List CSt}{lv:List CLev}(h:DZ p c l=some lv): ∃W,DN p c l (fun _=>none)=some W/\lv.length=c.ins.length /\ ∀k x,lv[k]? = some x ↔ W k=some x:=by
 unfold DZ at h
 cases hL:DN p c l (fun _=>none)with
 |none=>rw[hL]at h;cases h
 | some W =>
  rw[hL]at h
  simp only at h
  split at h
  ·rename_i aV
   cases h
   refine⟨W,rfl,by rw[List.length_map,List.length_range],fun k x=>?_⟩
   by_cases hk:k<c.ins.length
   ·have:=List.all_eq_true.1 aV k (List.mem_range.2 hk)
    obtain⟨y,hy⟩:=Option.isSome_iff_exists.1 this
    rw[List.getElem?_map,List.getElem?_range hk,hy]
    simp[hy]
   ·rw[List.getElem?_eq_none (by rw[List.length_map,List.length_range];omega)]
    constructor
    ·intro e;cases e
    ·intro e
     rcases((FY _ _ _).1 hL).2.2 k x e with h|⟨s,_,w,hw,aD⟩
     ·cases h
     ·rw[Ni hw k (by omega)]at aD;cases aD
  ·cases h
theorem Rb{p:BProg}{c:CProg}{lv:List CLev}(h:AQ p c=some lv):okP p=true/\lv.length=c.ins.length/\LevOK p c (fun j=>lv[j]?) true:=by
 unfold AQ at h
 split at h
 ·rename_i hc
  simp only[Bool.and_eq_true,decide_eq_true_eq]at hc
  obtain⟨aZ,h1,h2,h3⟩:=hc
  have hf:=Rw h3
  obtain⟨W,hW,hl,hx⟩:=Re h
  have hI:=(FY _ _ _).1 hW
  refine⟨aZ,hl,fun k l hk=>by rw[<-hl];exact(List.getElem?_eq_some_iff.1 hk).1,fun k l hk=>?_,fun k x hk=>by have:=(EH _ _).1 h3 k x hk;rwa [Nat.zero_add]at this⟩
  rcases hI.2.2 k l ((hx k l).1 hk)with h|⟨s,hs,w,hw,aD⟩
  ·cases h
  ·obtain⟨w1,aW,ak⟩:=hI.2.1 s hs
   rw[hw]at aW;cases aW
   obtain⟨i1,i2,i3⟩:=(way_ok hf hw).2.2.2 k l aD
   refine⟨s.env,s.next,i1.mono fun j x hj=>(hx j x).2 (ak j x hj),i2,i3,?_,fun _=>rfl⟩
   unfold stsP at hs
   rcases List.mem_append.1 hs with hs|hs
   ·rw[<-List.map_uncurry_zip_eq_zipWith]at hs
    obtain⟨⟨m,n⟩,_,rfl⟩:=List.mem_map.1 hs
    exact(GC aZ m.gen.toNat).1
   ·rw[List.mem_singleton]at hs;rw[hs];exact Int.le_refl 0
 ·cases h
structure MVal where
 kind:Int
 n:Int
 deriving DecidableEq
structure MThing where
 cls:Int
 slots:List MVal
 deriving DecidableEq
structure MEv where
 deed:Int
 n:Int
 vals:List MVal
 deriving DecidableEq
structure GoS where
 objs:List MThing
 evs:List MEv
 pos:Int
 stk:List MVal
 env:List MVal
structure GoH where
 kind:Int
 val:MVal
 gen:Int
 args:List MVal
 fin:Int
 pos:Int
 stk:List MVal
 env:List MVal
 objs:List MThing
 evs:List MEv
structure CWorld where
 own:Int->Bool
 slots:Int->List Int
 fresh:Int->List MVal
def EL:MVal:=⟨2,0⟩
def vInt(n:Int):MVal:=⟨1,n⟩
def vObj(n:Int):MVal:=⟨3,n⟩
def vZ:MVal:=⟨0,0⟩
def AK(v:MVal):Int:=if v.kind=1 then v.n else 0
def E3(b:Bool):Int:=if b then 1 else 0
def Ed(n:Int):Int:=min (max n (-1000000000)) 1000000000
def Hp(op:Int)(v w:MVal):MVal:=
 if op=9 then vInt (Ed (AK v+AK w)) else if op=10 then vInt (Ed (AK v-AK w)) else if op=11 then vInt (Ed (AK v*AK w)) else
 if op=12 then vInt (E3 (decide (AK v<AK w))) else vInt (E3 (decide (v=w)))
def okV(objs:Int)(v:MVal):Bool:=if v.kind=1 then decide (-1000000000<=v.n/\v.n<=1000000000) else if v.kind=2 then decide (v.n=0) else if v.kind=3 then decide (0<=v.n/\v.n<objs) else false
def okVs(objs:Int)(l:List MVal):Bool:=l.all (okV objs)
def Bn(w:CWorld)(l:List MThing):Bool:=decide (l.length<=40)&&l.all fun o=>w.own o.cls&&(decide (o.slots.length=(w.slots o.cls).length)&&okVs l.length o.slots)
def Dd(l:List MThing)(n:Int):MThing:=(l[n.toNat]?).getD ⟨0,[]⟩
def Bq(w:CWorld)(objs:List MThing)(v:MVal)(s:Int):Int:=if v.kind=3 then idxG s (w.slots (Dd objs v.n).cls) 0 else -1
def CJ(w:CWorld)(x:MThing)(c:Int):MThing:=
 ⟨c,List.zipWith (fun s v=>if 0<=idxG s (w.slots x.cls) 0 then(x.slots[(idxG s (w.slots x.cls) 0).toNat]?).getD vZ else v) (w.slots c) (w.fresh c)⟩
def E0(l:List MVal):MVal:=(l.getLast?).getD vZ
def setObj(l:List MThing)(n:Int)(x:MThing):List MThing:=l.set n.toNat x
def GB(s:GoS)(e:Int)(stk:List MVal):GoH:=⟨4,vZ,0,[],e,0,[],[],s.objs,s.evs⟩
def J1(p:BProg)(w:CWorld)(x:CIns)(s:GoS):GoS ⊕ GoH:=
 let v:=E0 s.stk
 let r:=s.stk.dropLast
 if x.op=1 then .inl { s with stk:=s.stk++[vInt x.a] }
 else if x.op=2 then .inl { s with stk:=s.stk++[EL] }
 else if x.op=3 then .inl { s with stk:=s.stk++[(s.env[x.a.toNat]?).getD vZ] }
 else if x.op=4 then(if 40<=s.objs.length then .inr (GB s 8 r) else .inl { s with objs:=s.objs++[⟨x.a,w.fresh x.a⟩],stk:=s.stk++[vObj s.objs.length] })
 else if x.op=5 then(if Bq w s.objs v x.a<0 then .inr (GB s 5 r) else .inl { s with stk:=r++[((Dd s.objs v.n).slots[(Bq w s.objs v x.a).toNat]?).getD vZ] })
 else if x.op=6 then(if v.kind=3 then .inl { s with objs:=setObj s.objs v.n (CJ w (Dd s.objs v.n) x.a),stk:=r++[v] } else .inr (GB s 6 r))
 else if x.op=7 then .inl { s with evs:=s.evs++[⟨2,0,[v]⟩],stk:=r++[v] }
 else if x.op=8 then(if Bq w s.objs (E0 r) x.a<0 then .inr (GB s 5 r) else
  .inl { s with objs:=setObj s.objs (E0 r).n ⟨(Dd s.objs (E0 r).n).cls,(Dd s.objs (E0 r).n).slots.set (Bq w s.objs (E0 r) x.a).toNat v⟩,stk:=r.dropLast++[v] })
 else if x.op=14 then .inl { s with env:=s.env++[v],stk:=r }
 else if x.op=15 then .inl { s with env:=s.env.dropLast }
 else if x.op=16 then .inl { s with stk:=r }
 else if x.op=17 then .inl { s with stk:=r,pos:=if AK v=0 then x.a else s.pos }
 else if x.op=18 then .inl { s with pos:=x.a }
 else if x.op=19 then .inr ⟨2,vZ,x.a,s.stk.drop (s.stk.length-(p.gens.getD x.a.toNat 0).toNat),0,s.pos,s.stk.take (s.stk.length-(p.gens.getD x.a.toNat 0).toNat),s.env,s.objs,s.evs⟩
 else if x.op=20 then .inr ⟨3,vZ,0,[],0,s.pos,s.stk,s.env,s.objs,s.evs⟩
 else if x.op=21 then .inr ⟨1,v,0,[],0,0,[],[],s.objs,s.evs⟩
 else .inl { s with stk:=r.dropLast++[Hp x.op (E0 r) v] }
def mRun(p:BProg)(w:CWorld)(c:CProg):Nat->GoS->GoH
 |0,s=>GB s 0 []
 |f+1,s=>match J1 p w (Am c s.pos.toNat) { s with pos:=s.pos+1 } with
  |.inl t=>mRun p w c f t
  |.inr h=>h
theorem Bh{N:Int}{l:List MVal}:okVs N l=true ↔ ∀v∈l,okV N v=true:=by unfold okVs;exact List.all_eq_true
theorem Uz{M N:Int}{v:MVal}(h:okV M v=true)(hN:M<=N):okV N v=true:=by
 unfold okV at h⊢
 split
 ·rw[if_pos (by assumption)]at h;exact h
 ·rw[if_neg (by assumption)]at h
  split
  ·rw[if_pos (by assumption)]at h;exact h
  ·rw[if_neg (by assumption)]at h
   split
   ·rw[if_pos (by assumption)]at h;simp only[decide_eq_true_eq]at h⊢; omega
   ·rw[if_neg (by assumption)]at h;exact h
theorem Fq{M N:Int}{l:List MVal}(h:okVs M l=true)(hN:M<=N):okVs N l=true:=Bh.2 fun v hv=>Uz (Bh.1 h v hv) hN
theorem Cz{N:Int}{l:List MVal}{v:MVal}(h:okVs N l=true)(hv:okV N v=true):okVs N (l++[v])=true:=Bh.2 fun x hx=>by
 rcases List.mem_append.1 hx with hx|hx
 ·exact Bh.1 h x hx
 ·rw[List.mem_singleton]at hx;rw[hx];exact hv
theorem CP{N:Int}{l:List MVal}(h:okVs N l=true):okVs N l.dropLast=true:=Bh.2 fun x hx=>Bh.1 h x (List.dropLast_subset l hx)
theorem ES{N:Int}{l:List MVal}(h:okVs N l=true)(h1:1<=l.length):okV N (E0 l)=true:=by
 unfold E0
 rw[List.getLast?_eq_getElem?, List.getElem?_eq_getElem (by omega)]
 exact Bh.1 h _ (List.getElem_mem _)
theorem BO{w:CWorld}{l:List MThing}:Bn w l=true ↔ l.length<=40 /\ ∀o∈l,w.own o.cls=true/\o.slots.length=(w.slots o.cls).length/\okVs l.length o.slots=true:=by
 unfold Bn
 simp only[Bool.and_eq_true,decide_eq_true_eq,List.all_eq_true]
theorem FR{w:CWorld}{l:List MThing}(h:Bn w l=true){v:MVal}(hv:okV l.length v=true)(h3:v.kind=3):(Dd l v.n)∈l/\0<=v.n/\v.n<l.length:=by
 unfold okV at hv
 rw[if_neg (by omega),if_neg (by omega),if_pos h3]at hv
 simp only[decide_eq_true_eq]at hv
 unfold Dd
 rw[List.getElem?_eq_getElem (by omega)]
 exact⟨List.getElem_mem _,hv⟩
theorem Kf{w:CWorld}{l:List MThing}(h:Bn w l=true){n:Int}{x:MThing}(h1:w.own x.cls=true)(h2:x.slots.length=(w.slots x.cls).length)(h3:okVs l.length x.slots=true):Bn w (setObj l n x)=true:=by
 rw[BO]at h⊢
 unfold setObj
 rw[List.length_set]
 refine⟨h.1,fun o ho=>?_⟩
 rcases List.mem_or_eq_of_mem_set ho with ho|rfl
 ·exact h.2 o ho
 ·exact⟨h1,h2,h3⟩
theorem HN{α}[DecidableEq α]{s:α}: ∀(l:List α) (k:Nat),0<=idxG s l k->k<=idxG s l k/\idxG s l k<k+l.length
 |[],_,h=>by rw[idxG]at h;omega
 | x::r,k,h=>by
  rw[idxG]at h⊢
  rw[List.length_cons]
  split
  ·omega
  ·rename_i e
   rw[if_neg e]at h
   have:=HN r (k+1) h
   omega
structure WldOK(p:BProg)(w:CWorld):Prop where
 own:∀c:Int,3<=c->c<3+p.classes.length->w.own c=true
 len:∀c,w.own c=true->(w.fresh c).length=(w.slots c).length
 ok:∀c,w.own c=true->okVs 0 (w.fresh c)=true
theorem turn_ok{p:BProg}{w:CWorld}(hw:WldOK p w){N:Int}(hN:0<=N){x:MThing}{c:Int}(hc:w.own c=true)(hx:w.own x.cls=true)(hl:x.slots.length=(w.slots x.cls).length)(hs:okVs N x.slots=true):
  (CJ w x c).slots.length=(w.slots c).length/\okVs N (CJ w x c).slots=true:=by
 have hlen:=hw.len c hc
 unfold CJ
 simp only
 refine⟨by rw[List.length_zipWith,hlen,Nat.min_self],Bh.2 fun v hv=>?_⟩
 rw[<-List.map_uncurry_zip_eq_zipWith]at hv
 obtain⟨⟨a,b⟩,bc,rfl⟩:=List.mem_map.1 hv
 simp only[Function.uncurry]
 split
 ·rename_i h0
  have:=HN (s:=a) (w.slots x.cls) 0 (by exact_mod_cast h0)
  rw[List.getElem?_eq_getElem (by omega)]
  exact Bh.1 hs _ (List.getElem_mem _)
 ·exact Bh.1 (Fq (hw.ok c hc) hN) b (List.of_mem_zip bc).2
structure GInv(w:CWorld)(m:Met)(s:GoS):Prop where
 lo:0<=s.pos
 lev:∃l,m s.pos.toNat=some l/\(s.stk.length:Int)=l.st/\(s.env.length:Int)=l.env
 stk:okVs s.objs.length s.stk=true
 env:okVs s.objs.length s.env=true
 objs:Bn w s.objs=true
structure HInv(p:BProg)(w:CWorld)(m:Met)(nx:Bool)(at0:Int)(h:GoH):Prop where
 objs:Bn w h.objs=true
 kind:h.kind=1\/h.kind=2\/h.kind=3\/h.kind=4
 goes:h.kind=3->nx=true
 val:h.kind=1->okV h.objs.length h.val=true
 asks:h.kind=2->0<=h.gen/\h.gen<p.gens.length/\(h.args.length:Int)=p.gens.getD h.gen.toNat 0/\okVs h.objs.length h.args=true
 frame:h.kind=2\/h.kind=3->at0<h.pos/\(∃l,m h.pos.toNat=some l/\(h.stk.length:Int)+1=l.st/\(h.env.length:Int)=l.env)/\okVs h.objs.length h.stk=true/\okVs h.objs.length h.env=true
theorem UA(N:Int)(op:Int)(v w:MVal):okV N (Hp op v w)=true:=by
 have hc:∀n,okV N (vInt (Ed n))=true:=fun n=>by
  unfold okV vInt Ed
  simp only[if_true,decide_eq_true_eq]
  omega
 have ht:∀b,okV N (vInt (E3 b))=true:=fun b=>by
  unfold okV vInt E3
  cases b<;>simp
 unfold Hp
 split
 ·exact hc _
 split
 ·exact hc _
 split
 ·exact hc _
 split
 ·exact ht _
 ·exact ht _
section
variable {p:BProg}{w:CWorld}{c:CProg}{m:Met}{nx:Bool}
theorem D3{N:Nat}{x:CIns}{l:CLev}{env:Int}{next:Bool}{s t:GoS}(hI:InsOK p N s.pos.toNat x l m env next)(h0:0<=s.pos)(ap:x.op≠21)(aF:x.op≠18)
  (hp:t.pos=s.pos+1) (h1:(t.stk.length:Int)=(toC p x l).st) (h2:(t.env.length:Int)=(toC p x l).env) (h3:okVs t.objs.length t.stk=true) (h4:okVs t.objs.length t.env=true) (h5:Bn w t.objs=true):GInv w m t/\s.pos<t.pos:=by
 refine⟨⟨by omega,⟨_,?_,h1,h2⟩,h3,h4,h5⟩,by omega⟩
 rw[hp,show(s.pos+1).toNat=s.pos.toNat+1 by omega]
 exact(hI.on ap aF).2
theorem Kg(hg:∀n:Nat,0<=p.gens.getD n 0)(hw:WldOK p w)(hL:LevOK p c m nx){s:GoS}(hs:GInv w m s):match J1 p w (Am c s.pos.toNat) { s with pos:=s.pos+1 } with
  |.inl t=>GInv w m t/\s.pos<t.pos
  |.inr h=>HInv p w m nx s.pos h:=by
 obtain⟨h0,⟨l,hl,bp,ag⟩,aj,ae,ac⟩:=hs
 obtain⟨env,next,hI,g1,g2,g3,g4⟩:=hL.ok _ _ hl
 have hk:s.pos.toNat<c.ins.length:=hL.dom _ _ hl
 have hx:c.ins[s.pos.toNat]? = some (Am c s.pos.toNat):=by unfold Am;rw[List.getElem?_eq_getElem hk];rfl
 have aa:=hL.fits _ _ hx
 generalize Am c s.pos.toNat=x at hI hx aa
 have ht:=hI.take
 have bl:s.stk.dropLast.length=s.stk.length-1:=List.length_dropLast
 have am:=CP aj
 have ba:=CP am
 have bA:s.stk.dropLast.dropLast.length=s.stk.length-1-1:=by rw[List.length_dropLast,bl]
 have au:1<=s.stk.length->okV s.objs.length (E0 s.stk)=true:=ES aj
 have bh:2<=s.stk.length->okV s.objs.length (E0 s.stk.dropLast)=true:=fun h=>ES am (by omega)
 unfold fitsC at aa
 unfold J1
 simp only
 by_cases e1:x.op=1
 ·rw[if_pos e1]at aa
  rw[if_pos e1]
  have u:Ag p x=(0,1):=by unfold Ag;rw[if_pos (by omega)]
  refine D3 hI h0 (by omega) (by omega) rfl ?_ ?_ (Cz aj ?_) ae ac
  ·unfold toC;rw[u,List.length_append];simp only[List.length_singleton];omega
  ·unfold toC;rw[if_neg (by omega),if_neg (by omega)];exact ag
  ·unfold inB at aa
   unfold okV vInt
   simp only[if_true,Bool.and_eq_true,decide_eq_true_eq]at aa⊢
   omega
 rw[if_neg e1]at aa
 rw[if_neg e1]
 by_cases e2:x.op=2
 ·rw[if_pos e2]
  have u:Ag p x=(0,1):=by unfold Ag;rw[if_pos (by omega)]
  refine D3 hI h0 (by omega) (by omega) rfl ?_ ?_ (Cz aj ?_) ae ac
  ·unfold toC;rw[u,List.length_append];simp only[List.length_singleton];omega
  ·unfold toC;rw[if_neg (by omega),if_neg (by omega)];exact ag
  ·simp[okV,EL]
 rw[if_neg e2]
 by_cases e3:x.op=3
 ·rw[if_pos e3]at aa
  rw[if_pos e3]
  have hn:=hI.name e3
  simp only[decide_eq_true_eq]at aa
  have u:Ag p x=(0,1):=by unfold Ag;rw[if_pos (by omega)]
  refine D3 hI h0 (by omega) (by omega) rfl ?_ ?_ (Cz aj ?_) ae ac
  ·unfold toC;rw[u,List.length_append];simp only[List.length_singleton];omega
  ·unfold toC;rw[if_neg (by omega),if_neg (by omega)];exact ag
  ·simp only
   rw[List.getElem?_eq_getElem (by omega)]
   exact Bh.1 ae _ (List.getElem_mem _)
 rw[if_neg e3]at aa
 rw[if_neg e3]
 by_cases e4:x.op=4
 ·rw [if_pos (by omega)] at aa
  rw[if_pos e4]
  simp only[decide_eq_true_eq]at aa
  have ah:=hw.own x.a aa.1 aa.2
  have u:Ag p x=(0,1):=by unfold Ag;rw[if_pos (by omega)]
  by_cases hn:40<=s.objs.length
  ·rw[if_pos hn]
   exact⟨ac,.inr (.inr (.inr rfl)),(nomatch ·),(nomatch ·),(nomatch ·),fun h=>by simp[GB]at h⟩
  ·rw[if_neg hn]
   have ay:((s.objs.length:Nat):Int)<=((s.objs++[(⟨x.a,w.fresh x.a⟩:MThing)]).length:Nat):=by rw[List.length_append];simp only[List.length_singleton];omega
   refine D3 hI h0 (by omega) (by omega) rfl ?_ ?_ (Cz (Fq aj ay) ?_) (Fq ae ay) ?_
   ·unfold toC;rw[u,List.length_append];simp only[List.length_singleton];omega
   ·unfold toC;rw[if_neg (by omega),if_neg (by omega)];exact ag
   ·simp only[okV,vObj,List.length_append,List.length_singleton];simp;omega
   ·rw[BO]at ac⊢
    refine⟨by rw[List.length_append];simp only[List.length_singleton];omega,fun o ho=>?_⟩
    rcases List.mem_append.1 ho with ho|ho
    ·exact⟨(ac.2 o ho).1,(ac.2 o ho).2.1,Fq (ac.2 o ho).2.2 ay⟩
    ·rw[List.mem_singleton]at ho;rw[ho]
     exact⟨ah,hw.len _ ah,Fq (hw.ok _ ah) (by omega)⟩
 rw[if_neg e4]
 by_cases e5:x.op=5
 ·rw [if_pos e5]
  have u:Ag p x=(1,1):=by unfold Ag;rw[if_neg (by omega),if_pos (by omega)]
  rw[u]at ht
  simp only at ht
  by_cases hn:Bq w s.objs (E0 s.stk) x.a<0
  ·rw[if_pos hn]
   exact⟨ac,.inr (.inr (.inr rfl)),(nomatch ·),(nomatch ·),(nomatch ·),fun h=>by simp[GB]at h⟩
  ·rw[if_neg hn]
   refine D3 hI h0 (by omega) (by omega) rfl ?_ ?_ (Cz am ?_) ae ac
   ·unfold toC;rw[u,List.length_append];simp only[List.length_singleton];omega
   ·unfold toC;rw[if_neg (by omega),if_neg (by omega)];exact ag
   ·unfold Bq at hn⊢
    split at hn
    ·rename_i h3
     rw[if_pos h3]
     obtain⟨o1,o2⟩:=FR ac (au (by omega)) h3
     have:=HN (s:=x.a) (w.slots (Dd s.objs (E0 s.stk).n).cls) 0 (by omega)
     obtain⟨q1,q2,q3⟩:=(BO.1 ac).2 _ o1
     rw[List.getElem?_eq_getElem (by omega)]
     exact Bh.1 q3 _ (List.getElem_mem _)
    ·omega
 rw[if_neg e5]
 by_cases e6:x.op=6
 ·rw[if_pos (by omega)]at aa
  rw[if_pos e6]
  simp only[decide_eq_true_eq]at aa
  have ah:=hw.own x.a aa.1 aa.2
  have u:Ag p x=(1,1):=by unfold Ag;rw[if_neg (by omega),if_pos (by omega)]
  rw[u]at ht
  simp only at ht
  by_cases h3:(E0 s.stk).kind=3
  ·rw[if_pos h3]
   have hsz:(setObj s.objs (E0 s.stk).n (CJ w (Dd s.objs (E0 s.stk).n) x.a)).length=s.objs.length:=List.length_set
   obtain⟨o1,o2⟩:=FR ac (au (by omega)) h3
   obtain⟨q1,q2,q3⟩:=(BO.1 ac).2 _ o1
   obtain⟨t1,t2⟩:=turn_ok hw (Int.natCast_nonneg s.objs.length) ah q1 q2 q3
   refine D3 hI h0 (by omega) (by omega) rfl ?_ ?_ (Cz ?_ ?_) ?_ (Kf ac ah t1 t2)
   ·unfold toC;rw[u,List.length_append];simp only[List.length_singleton];omega
   ·unfold toC;rw[if_neg (by omega),if_neg (by omega)];exact ag
   ·simp only[hsz];exact am
   ·simp only[hsz];exact au (by omega)
   ·simp only[hsz];exact ae
  ·rw[if_neg h3]
   exact⟨ac,.inr (.inr (.inr rfl)),(nomatch ·),(nomatch ·),(nomatch ·),fun h=>by simp[GB]at h⟩
 rw[if_neg (by omega)]at aa
 rw[if_neg e6]
 by_cases e7:x.op=7
 ·rw[if_pos e7]
  have u:Ag p x=(1,1):=by unfold Ag;rw[if_neg (by omega),if_pos (by omega)]
  rw[u]at ht
  simp only at ht
  refine D3 hI h0 (by omega) (by omega) rfl ?_ ?_ (Cz am (au (by omega))) ae ac
  ·unfold toC;rw[u,List.length_append];simp only[List.length_singleton];omega
  ·unfold toC;rw[if_neg (by omega),if_neg (by omega)];exact ag
 rw[if_neg e7]
 by_cases e8:x.op=8
 ·rw [if_pos e8]
  have u:Ag p x=(2,1):=by unfold Ag;rw[if_neg (by omega),if_neg (by omega),if_neg (by omega),if_neg (by omega),if_neg (by omega),if_neg (by omega)]
  rw[u]at ht
  simp only at ht
  by_cases hn:Bq w s.objs (E0 s.stk.dropLast) x.a<0
  ·rw[if_pos hn]
   exact⟨ac,.inr (.inr (.inr rfl)),(nomatch ·),(nomatch ·),(nomatch ·),fun h=>by simp[GB]at h⟩
  ·rw[if_neg hn]
   unfold Bq at hn
   split at hn
   ·rename_i h3
    obtain⟨o1,o2⟩:=FR ac (bh (by omega)) h3
    obtain⟨q1,q2,q3⟩:=(BO.1 ac).2 _ o1
    refine D3 hI h0 (by omega) (by omega) rfl ?_ ?_ (Cz ?_ ?_) ?_ (Kf ac q1 ?_ ?_)
    ·unfold toC;rw[u,List.length_append];simp only[List.length_singleton];omega
    ·unfold toC;rw[if_neg (by omega),if_neg (by omega)];exact ag
    ·simp only[setObj,List.length_set];exact ba
    ·simp only[setObj,List.length_set];exact au (by omega)
    ·simp only[setObj,List.length_set];exact ae
    ·rw[List.length_set];exact q2
    ·refine Bh.2 fun v hv=>?_
     rcases List.mem_or_eq_of_mem_set hv with hv|rfl
     ·exact Bh.1 q3 v hv
     ·exact au (by omega)
   ·omega
 rw[if_neg e8]
 rw[if_neg (by omega)]at aa
 by_cases e14:x.op=14
 ·rw[if_pos e14]
  have u:Ag p x=(1,0):=by unfold Ag;rw[if_neg (by omega),if_neg (by omega),if_pos (by omega)]
  rw[u]at ht
  simp only at ht
  refine D3 hI h0 (by omega) (by omega) rfl ?_ ?_ am (Cz ae (au (by omega))) ac
  ·unfold toC;rw[u];simp only;omega
  ·unfold toC;rw[if_pos e14,List.length_append];simp only[List.length_singleton];omega
 rw[if_neg e14]
 by_cases e15:x.op=15
 ·rw[if_pos e15]
  have bz:=hI.drop e15
  have u:Ag p x=(0,0):=by unfold Ag;rw[if_neg (by omega),if_neg (by omega),if_neg (by omega),if_neg (by omega),if_pos (by omega)]
  refine D3 hI h0 (by omega) (by omega) rfl ?_ ?_ aj (CP ae) ac
  ·unfold toC;rw[u];simp only;omega
  ·unfold toC;rw[if_neg e14,if_pos e15];simp only[List.length_dropLast];omega
 rw[if_neg e15]
 have en0:(toC p x l).env=l.env:=by unfold toC;rw[if_neg e14,if_neg e15]
 by_cases e16:x.op=16
 ·rw[if_pos e16]
  have u:Ag p x=(1,0):=by unfold Ag;rw[if_neg (by omega),if_neg (by omega),if_pos (by omega)]
  rw[u]at ht
  simp only at ht
  refine D3 hI h0 (by omega) (by omega) rfl ?_ (by rw[en0];exact ag) am ae ac
  unfold toC;rw[u];simp only;omega
 rw[if_neg e16]
 by_cases e17:x.op=17
 ·rw[if_pos e17]
  rw[if_pos (by omega)]at aa
  simp only[decide_eq_true_eq]at aa
  have u:Ag p x=(1,0):=by unfold Ag;rw[if_neg (by omega),if_neg (by omega),if_pos (by omega)]
  rw[u]at ht
  simp only at ht
  have est:((s.stk.dropLast.length:Nat):Int)=(toC p x l).st:=by unfold toC;rw[u];simp only;omega
  by_cases hz:AK (E0 s.stk)=0
  ·simp only[if_pos hz]
   refine⟨⟨by simp only;omega,⟨_,(hI.jump (.inl e17)).2.2,est,by rw[en0];exact ag⟩,am,ae,ac⟩,by first|omega|(simp only;omega)⟩
  ·simp only[if_neg hz]
   exact D3 hI h0 (by omega) (by omega) rfl est (by rw[en0];exact ag) am ae ac
 rw[if_neg e17]
 by_cases e18:x.op=18
 ·rw[if_pos e18]
  rw[if_pos (by omega)]at aa
  simp only[decide_eq_true_eq]at aa
  have u:Ag p x=(0,0):=by unfold Ag;rw[if_neg (by omega),if_neg (by omega),if_neg (by omega),if_neg (by omega),if_pos (by omega)]
  refine⟨⟨by simp only;omega,⟨_,(hI.jump (.inr e18)).2.2,?_,by rw[en0];exact ag⟩,aj,ae,ac⟩,by first|omega|(simp only;omega)⟩
  unfold toC;rw[u];simp only;omega
 rw[if_neg e18]
 rw[if_neg (by omega)]at aa
 by_cases e19:x.op=19
 ·rw[if_pos e19]at aa
  rw[if_pos e19]
  simp only[decide_eq_true_eq]at aa
  have u:Ag p x=(p.gens.getD x.a.toNat 0,1):=by unfold Ag;rw[if_neg (by omega),if_neg (by omega),if_neg (by omega),if_pos e19]
  rw[u]at ht
  simp only at ht
  have bi:=(hI.on (by omega) (by omega)).2
  have aX:toC p x l=⟨l.st-p.gens.getD x.a.toNat 0+1,l.env⟩:=by unfold toC;rw[u,if_neg e14,if_neg e15]
  have bu:0<=p.gens.getD x.a.toNat 0:=hg _
  refine⟨ac,.inr (.inl rfl),(nomatch ·),(nomatch ·),fun _=>⟨aa.1,aa.2,?_,?_⟩,fun _=>⟨by simp only;omega,⟨toC p x l,?_,?_,?_⟩,?_,ae⟩⟩
  ·show((s.stk.drop (s.stk.length-(p.gens.getD x.a.toNat 0).toNat)).length:Int)=p.gens.getD x.a.toNat 0
   rw[List.length_drop];omega
  ·exact Bh.2 fun v hv=>Bh.1 aj v (List.mem_of_mem_drop hv)
  ·simp only
   rw[show(s.pos+1).toNat=s.pos.toNat+1 by omega]
   exact bi
  ·rw[aX];simp only[List.length_take];omega
  ·rw[aX];exact ag
  ·exact Bh.2 fun v hv=>Bh.1 aj v (List.mem_of_mem_take hv)
 rw[if_neg e19]at aa
 rw[if_neg e19]
 simp only[decide_eq_true_eq]at aa
 by_cases e20:x.op=20
 ·rw[if_pos e20]
  have u:Ag p x=(0,1):=by unfold Ag;rw[if_pos (by omega)]
  refine⟨ac,.inr (.inr (.inl rfl)),fun _=>g4 (hI.nexts e20),(nomatch ·),(nomatch ·),fun _=>⟨by simp only;omega,⟨_,?_,?_,by rw[en0];exact ag⟩,aj,ae⟩⟩
  ·simp only
   rw[show(s.pos+1).toNat=s.pos.toNat+1 by omega]
   exact(hI.on (by omega) (by omega)).2
  ·unfold toC;rw[u];simp only;omega
 rw[if_neg e20]
 by_cases e21:x.op=21
 ·rw[if_pos e21]
  have:=(hI.fin e21).1
  exact⟨ac,.inl rfl,(nomatch ·),fun _=>au (by omega),(nomatch ·),fun h=>by simp at h⟩
 rw[if_neg e21]
 have u:Ag p x=(2,1):=by unfold Ag;rw[if_neg (by omega),if_neg (by omega),if_neg (by omega),if_neg (by omega),if_neg (by omega),if_neg (by omega)]
 rw[u]at ht
 simp only at ht
 refine D3 hI h0 (by omega) (by omega) rfl ?_ (by rw[en0];exact ag) (Cz ba (UA _ _ _ _)) ae ac
 unfold toC;rw[u,List.length_append];simp only[List.length_singleton];omega
end
theorem HInv.mono{p:BProg}{w:CWorld}{m:Met}{nx:Bool}{a b:Int}{h:GoH}(hh:HInv p w m nx b h)(bc:a<=b):HInv p w m nx a h:=
 ⟨hh.objs,hh.kind,hh.goes,hh.val,hh.asks,fun hk=>⟨by have:=(hh.frame hk).1;omega,(hh.frame hk).2⟩⟩
section
variable {p:BProg}{w:CWorld}{c:CProg}{m:Met}{nx:Bool}
theorem M1(hg:∀n:Nat,0<=p.gens.getD n 0)(hw:WldOK p w)(hL:LevOK p c m nx): ∀(f g:Nat) (s:GoS),GInv w m s->c.ins.length<=s.pos.toNat+f->c.ins.length<=s.pos.toNat+g->mRun p w c f s=mRun p w c g s
 |0,_,s,hs,hf,_=>by
  obtain⟨l,hl,_⟩:=hs.lev
  have:=hL.dom _ _ hl
  omega
 |_+1,0,s,hs,_,hf=>by
  obtain⟨l,hl,_⟩:=hs.lev
  have:=hL.dom _ _ hl
  omega
 | f+1,g+1,s,hs,hf,bx=>by
  have hk:=Kg hg hw hL hs
  rw[mRun,mRun]
  cases e:J1 p w (Am c s.pos.toNat) { s with pos:=s.pos+1 } with
  |inl t=>
   rw[e]at hk
   have h0:=hs.lo
   exact M1 hg hw hL f g t hk.1 (by have:=hk.2;omega) (by have:=hk.2;omega)
  |inr h=>rfl
end
def GD(lv:List CLev)(N:Int)(pos:Int)(stk env:List MVal):Bool:=
 decide (0<=pos/\pos<lv.length/\(stk.length:Int)=((lv[pos.toNat]?).getD ⟨0,0⟩).st/\(env.length:Int)=((lv[pos.toNat]?).getD ⟨0,0⟩).env)&&(okVs N stk&&okVs N env)
def goC(p:BProg)(w:CWorld)(c:CProg)(objs:List MThing)(pos:Int)(stk env:List MVal):Option GoH:=match AQ p c with
 |none=>none
 |some lv=>if Bn w objs&&GD lv objs.length pos stk env then some (mRun p w c c.ins.length ⟨objs,[],pos,stk,env⟩) else none
theorem Rs{w:CWorld}{lv:List CLev}{objs:List MThing}{evs:List MEv}{pos:Int}{stk env:List MVal}(ho:Bn w objs=true):GD lv objs.length pos stk env=true ↔ GInv w (fun j=>lv[j]?) ⟨objs,evs,pos,stk,env⟩:=by
 unfold GD
 simp only[Bool.and_eq_true,decide_eq_true_eq]
 constructor
 ·rintro⟨⟨h1,h2,h3,h4⟩,h5,h6⟩
  have e:lv[pos.toNat]? = some (lv[pos.toNat]'(by omega)):=List.getElem?_eq_getElem (by omega)
  rw[e]at h3 h4
  exact⟨h1,⟨_,e,h3,h4⟩,h5,h6,ho⟩
 ·rintro⟨h1,⟨l,h2,h3,h4⟩,h5,h6,_⟩
  simp only at h1 h2 h3 h4 h5 h6
  have:=(List.getElem?_eq_some_iff.1 h2).1
  refine⟨⟨h1,by omega,?_,?_⟩,h5,h6⟩
  ·rw[h2];exact h3
  ·rw[h2];exact h4
theorem GInv.sub{w:CWorld}{m m':Met}{s:GoS}(h:GInv w m s)(hm:∀j l,m j=some l->m' j=some l):GInv w m' s:=by
 obtain⟨h1,⟨l,h2,h3⟩,h4,h5,h6⟩:=h
 exact⟨h1,⟨l,hm _ _ h2,h3⟩,h4,h5,h6⟩
end Go.DL
namespace Go.DL
open Go.Proofs.Tryz
open Go Go.Proofs
open Go.Proofs.YteldimffglchkaaGreatDoor.Rows (uptoBulk uptoBulkAll)
def g0(W:Go.World):G:={ imm:=fun b o=>W.cell? ⟨b,o,none⟩,rho:=fun _=>none,hist:=fun _ _=>none,keep:=fun k=>W.heap[k]?, io:=(W.os,W.output) }
abbrev Q1 (W : Go.World) : Prop := W.var? prog "internal/strconv.uint64pow10" = some (((List.range 20).map fun i => ((10 ^ i : Nat) : Int)).map fun z => Value.int .u64 z).toArray
theorem tabK0(W:Go.World)(h:Q1 W):TabK prog (g0 W):=fun w hk=>.inr ⟨by
 unfold Q1 at h
 unfold World.var? at h⊢
 cases hg : prog.globalNamed "internal/strconv.uint64pow10" with
 |none=>rw[hg]at h;cases h
 |some g=>
  rw[hg]at h
  simp only[Option.bind_some]at h⊢
  cases hw:W.heap[g]? with
  |none=>rw[hw]at h;cases h
  |some o=>rw[hw]at h;rw[hk g o hw];exact h,trivial⟩
theorem sim0(W:Go.World)(h:Q1 W):Sim prog (g0 W) (fun _=>none) W where
 imm:=fun _ _ _ h=>h
 keep:=fun _ _ h=>h
 obj:=fun _ _ h=>by cases h
 inj:=fun _ _ _ h=>by cases h
 free:=fun _ _ h=>by cases h
 htop:=fun _ _ _ _ h=>by cases h
 hdom:=fun _ _ _ h=>by cases h
 fin:=⟨0,fun _ _=>rfl⟩
 io:=rfl
 tab:=tabK0 W h
theorem Jx{α:Type}{p:Nat->α->Prop}: ∀n,(∀i,i<n->∃a,p i a)->∃l:List α,l.length=n /\ ∀i a,l[i]? = some a->p i a
 |0,_=>⟨[],rfl,fun i a h=>by simp at h⟩
 | n+1,h=>by
  obtain⟨l,hl,hp⟩:=Jx n fun i hi=>h i (by omega)
  obtain⟨a,ha⟩:=h n (by omega)
  refine⟨l++[a],by simp[hl],fun i b hb=>?_⟩
  by_cases hi:i<n
  ·rw[List.getElem?_append_left (by omega)]at hb;exact hp i b hb
  ·rw[List.getElem?_append_right (by omega)]at hb
   have h0:i-l.length=0:=by
    rcases Nat.eq_zero_or_pos (i-l.length)with h|h
    ·exact h
    ·rw[List.getElem?_eq_none (by simp;omega)]at hb;cases hb
   rw[h0]at hb
   simp at hb
   rw[show i=n by omega,<-hb];exact ha
theorem Qs{g:G}{b:Nat}: ∀{ds:List D}{vs:List Value}{o:Nat},RepL g ds vs->(∀j v,vs[j]? = some v->g.imm b (o+j)=some v)->RepI g b o ds
 |[],_,_,_,_=>trivial
 |d::ds,_,o,⟨v,r,e,h1,h2⟩,hi=>by
  subst e
  exact⟨⟨v,hi 0 v rfl,h1⟩,Qs h2 fun j x hx=>by rw[Nat.add_assoc,Nat.add_comm 1 j];exact hi (j+1) x hx⟩
theorem Qt{g:G}{b sz:Nat}: ∀{l:List (List D)}{o:Nat},(∀i e,l[i]? = some e->e.length=sz/\RepI g b (o+i*sz) e)->RepE g b sz o l
 |[],_,_=>trivial
 |e::l,o,h=>⟨by simpa using h 0 e rfl,Qt fun i x hx=>by
  have:=h (i+1) x hx
  rw[Nat.add_mul,Nat.one_mul,Nat.add_comm (i*sz),<-Nat.add_assoc]at this;exact this⟩
theorem W1{α H:Type}{wt:α->Nat}: ∀{l:List α}{xs:List (DataW H)},l.length=xs.length->(∀(i:Nat) a x,l[i]? = some a->xs[i]? = some x->wt a<=uptoBulk x)->wtL wt l<=uptoBulkAll xs
 |[],[],_,_=>Nat.zero_le _
 |a::l,x::xs,h,hp=>by
  have h1:=hp 0 a x rfl rfl
  have h2:=W1 (l:=l) (xs:=xs) (by simpa using h) fun i b y hb hy=>hp (i+1) b y hb hy
  simp only[wtL,uptoBulkAll];omega
section
variable {H:Type}{enc:TypeId×Value->H}{W:Go.World}
noncomputable abbrev rd(enc:TypeId×Value->H)(W:Go.World)(n t:Nat)(cs:List Value):Option (DataW H×List MemPlace):=DataW.trod enc prog W 0 (fun _=>true) true n t cs
def Dec(enc:TypeId×Value->H)(W:Go.World){α:Type}(n t:Nat)(c:α->List D)(wt:α->Nat):Prop:= ∀cs x,rd enc W n t cs=some x->∃a,RepL (g0 W) (c a) cs/\wt a<=uptoBulk x.1
theorem Cr{t n:Nat}(ht:prog.underlying t=some (.int .i64)):Dec enc W n t (fun k:Int=>[dI k]) (fun _=>1):=fun cs x h=>by
 obtain⟨k,rfl,rfl,_⟩:=DataW.trod_int ht h
 exact⟨k,⟨_,[],rfl,rfl,rfl⟩,by simp[uptoBulk]⟩
theorem DU{α:Type}{t e sz n:Nat}{c:α->List D}{wt:α->Nat}(ht:prog.underlying t=some (.slice e))(hz:prog.cellsOf e=sz)(bf:0<sz)(hc:∀a,(c a).length=sz)(hd:∀m,m<n->Dec enc W m e c wt):
  Dec enc W n t (fun l:List α=>[sl (l.map c)]) (fun l=>1+wtL wt l):=fun cs x h=>by
 rcases DataW.trod_slice ht h with⟨rfl,rfl⟩|⟨a,len,cap,elems,rest,m,rfl,rfl,rfl,hb,hl,hm,hlen,bj, -, -⟩
 ·exact⟨[],⟨_,[],rfl,⟨Option.none,0,rfl,by simp,.inl rfl,trivial⟩,rfl⟩,by simp[uptoBulk,wtL]⟩
 ·have key:∀i,i<len->∃b:α, ∃y vs,elems[i]? = some y/\W.cells? 0 (a.add (i*sz)) sz=some vs/\RepL (g0 W) (c b) vs/\wt b<=uptoBulk y.1:=fun i hi=>by
   have h1:=bj i hi
   rw[hz,List.getElem?_eq_getElem (by omega)]at h1
   obtain⟨vs,h2,h3⟩:=Option.bind_eq_some_iff.1 h1
   obtain⟨b,h4,h5⟩:=hd m (by omega) vs _ h3
   exact⟨b,_,vs,List.getElem?_eq_getElem (by omega),h2,h4,h5⟩
  obtain⟨l,aQ,hp⟩:=Jx len key
  refine⟨l,⟨_,[],rfl,⟨some a,cap,by simp[aQ],by simpa[aQ] using hl,?_,trivial⟩,rfl⟩,?_⟩
  ·cases aP:l with
   |nil=>exact .inl rfl
   | cons b0 l' =>
    rw[<-aP]
    have br:0<len:=by rw[<-aQ,aP];simp
    obtain⟨y,vs,k1,k2,k3,k4⟩:=hp 0 b0 (by rw[aP];rfl)
    obtain⟨_,k5,k6⟩:=World.cells?_some k2
    have aY:a.spot=none:=by
     have:=k6 0 (by omega)
     cases hs:a.spot with
     |none=>rfl
     |some q=>simp[World.cell?, Addr.add,hs]at this;split at this<;>simp_all
    obtain⟨ab,ao,asp⟩:=a
    simp only at aY
    subst aY
    refine .inr ⟨sz,ab,ao,rfl,Qt fun i e he=>?_⟩
    rw[List.getElem?_map]at he
    obtain⟨b,aU,rfl⟩:=Option.map_eq_some_iff.1 he
    obtain⟨y,vs,k1,k2,k3,k4⟩:=hp i b aU
    obtain⟨_,k5,k6⟩:=World.cells?_some k2
    refine⟨hc b,Qs k3 fun j v hv=>?_⟩
    have hj:j<sz:=by rw[<-k5];exact(List.getElem?_eq_some_iff.1 hv).1
    have:=k6 j hj
    rw[hv,BF,BF]at this
    exact this
  ·have:=W1 (wt:=wt) (l:=l) (xs:=elems.map (·.1)) (by simp;omega) fun i b z aU aG=>by
    obtain⟨y,vs,k1,k2,k3,k4⟩:=hp i b aU
    rw[List.getElem?_map,k1]at aG
    simp at aG;subst aG;exact k4
   simp only[uptoBulk];omega
set_option maxRecDepth 100000
theorem Dc{t n:Nat}{fs:Array Field}(ht:prog.underlying t=some (.struct fs)){cs:List Value}{x:DataW H×List MemPlace}(h:rd enc W n t cs=some x):
  ∃(xs:List (DataW H×List MemPlace)) (m:Nat),m<n/\uptoBulk x.1=uptoBulkAll (xs.map (·.1))+1/\cs.length=prog.cellsOf t/\xs.length=fs.size /\
   ∀(i:Nat) (f:Field),fs[i]? = some f->rd enc W m f.type ((cs.drop f.offset).take (prog.cellsOf f.type))=xs[i]? :=by
 obtain⟨xs,m,rfl,rfl,h1,h2,h3⟩:=DataW.trod_struct ht h
 exact⟨xs,m,by omega,by simp[uptoBulk],h1,h2,h3⟩
theorem cellsI:prog.cellsOf 3=1:=by kernel_rfl
theorem G3(n:Nat):Dec enc W n 23 (fun l:List Int=>[sl (cI l)]) (fun l=>1+wtL (fun _=>1) l):=DU underlying23 cellsI (by omega) (fun _=>rfl) fun _ _=>Cr underlying3
theorem JY{α:Type}: ∀l:List α,wtL (fun _=>1) l=l.length
 |[]=>rfl
 |x::l=>by rw[wtL,JY l,List.length_cons];omega
theorem CN{m t off k:Nat}{cs cs':List Value}{o:Option (DataW H×List MemPlace)}(h:rd enc W m t ((cs.drop off).take (prog.cellsOf t))=o)(hk:prog.cellsOf t=k)(hc:(cs.drop off).take k=cs'):rd enc W m t cs'=o:=by rw[<-hc,<-hk];exact h
theorem VM(n:Nat):Dec enc W n 205 HT (fun _=>1):=fun cs x h=>by
 obtain⟨xs,m,hm,hb,hl,hx,hf⟩:=Dc underlying205 h
 rw[show prog.cellsOf 205=2 by kernel_rfl]at hl
 match cs,hl with
 | [v0,v1],_ =>
  match xs,hx with
  |[x0,x1],_=>
   obtain⟨a0,r0,w0⟩:=Cr underlying3 [v0] x0 (CN (hf 0 _ rfl) cellsI rfl)
   obtain⟨a1,r1,w1⟩:=Cr underlying3 [v1] x1 (CN (hf 1 _ rfl) cellsI rfl)
   refine⟨⟨a0,a1⟩,r0.append r1,?_⟩
   rw[hb];simp only[uptoBulkAll,List.map_cons,List.map_nil];omega
theorem TL(n:Nat):Dec enc W n 206 (fun l:List Init=>[sl (l.map HT)]) (fun l=>1+wtL (fun _=>1) l):=DU underlying206 (by kernel_rfl:prog.cellsOf 205=2) (by omega) (fun _=>rfl) fun _ _=>VM _
theorem PT(n:Nat):Dec enc W n 208 HU BClass.wt:=fun cs x h=>by
 obtain⟨xs,m,hm,hb,hl,hx,hf⟩:=Dc underlying208 h
 rw[show prog.cellsOf 208=3 by kernel_rfl]at hl
 match cs,hl with
 | [v0,v1,v2],_ =>
  match xs,hx with
  |[x0,x1,x2],_=>
   obtain⟨a0,r0,w0⟩:=G3 _ [v0] x0 (CN (hf 0 _ rfl) (show prog.cellsOf 23=1 by kernel_rfl) rfl)
   obtain⟨a1,r1,w1⟩:=G3 _ [v1] x1 (CN (hf 1 _ rfl) (show prog.cellsOf 23=1 by kernel_rfl) rfl)
   obtain⟨a2,r2,w2⟩:=TL _ [v2] x2 (CN (hf 2 _ rfl) (show prog.cellsOf 206=1 by kernel_rfl) rfl)
   refine⟨⟨a0,a1,a2⟩,r0.append (r1.append r2),?_⟩
   rw[hb];clear hf hx hl;simp only[JY]at*; simp only[BClass.wt,uptoBulkAll,List.map_cons,List.map_nil];omega
theorem TO(n:Nat):Dec enc W n 211 Hr BNode.wt:=fun cs x h=>by
 obtain⟨xs,m,hm,hb,hl,hx,hf⟩:=Dc underlying211 h
 rw[show prog.cellsOf 211=3 by kernel_rfl]at hl
 match cs,hl with
 | [v0,v1,v2],_ =>
  match xs,hx with
  |[x0,x1,x2],_=>
   obtain⟨a0,r0,w0⟩:=Cr underlying209 [v0] x0 (CN (hf 0 _ rfl) (show prog.cellsOf 209=1 by kernel_rfl) rfl)
   obtain⟨a1,r1,w1⟩:=Cr underlying3 [v1] x1 (CN (hf 1 _ rfl) cellsI rfl)
   obtain⟨a2,r2,w2⟩:=G3 _ [v2] x2 (CN (hf 2 _ rfl) (show prog.cellsOf 23=1 by kernel_rfl) rfl)
   refine⟨⟨a0,a1,a2⟩,r0.append (r1.append r2),?_⟩
   rw[hb];clear hf hx hl;simp only[JY]at*; simp only[BNode.wt,uptoBulkAll,List.map_cons,List.map_nil];omega
theorem VN: ∀n:Nat,Dec enc W n 62 Cc Fact.wt:=fun n=>by
 induction n using Nat.strongRecOn with
 |ind n ih=>
 intro cs x h
 obtain⟨xs,m,hm,hb,hl,hx,hf⟩:=Dc underlying62 h
 rw[show prog.cellsOf 62=6 by kernel_rfl]at hl
 match cs,hl with
 | [v0,v1,v2,v3,v4,v5],_ =>
  match xs,hx with
  |[x0,x1,x2,x3,x4,x5],_=>
   obtain⟨a0,r0,w0⟩:=Cr underlying59 [v0] x0 (CN (hf 0 _ rfl) (show prog.cellsOf 59=1 by kernel_rfl) rfl)
   obtain⟨a1,r1,w1⟩:=Cr underlying3 [v1] x1 (CN (hf 1 _ rfl) cellsI rfl)
   obtain⟨a2,r2,w2⟩:=G3 _ [v2] x2 (CN (hf 2 _ rfl) (show prog.cellsOf 23=1 by kernel_rfl) rfl)
   obtain⟨a3,r3,w3⟩:=Cr underlying3 [v3] x3 (CN (hf 3 _ rfl) cellsI rfl)
   obtain⟨a4,r4,w4⟩:=Cr underlying3 [v4] x4 (CN (hf 4 _ rfl) cellsI rfl)
   obtain⟨a5,r5,w5⟩:=(DU (c:=Cc) (wt:=Fact.wt) (t:=60) (e:=62) (n:=m) underlying60 (by kernel_rfl:prog.cellsOf 62=6) (by omega) (fun f=>by cases f;rfl) fun k hk=>ih k (by omega)) [v5] x5 (CN (hf 5 _ rfl) (show prog.cellsOf 60=1 by kernel_rfl) rfl)
   refine⟨.mk a0 a1 a2 a3 a4 a5,by rw[Ef];exact r0.append (r1.append (r2.append (r3.append (r4.append r5)))),?_⟩
   rw[hb];clear hf hx hl;simp only[JY]at*; rw[Fact.wt_eq];simp only[Fact.path,Fact.kids,uptoBulkAll,List.map_cons,List.map_nil];omega
theorem TP(n:Nat):Dec enc W n 64 KR BMeth.wt:=fun cs x h=>by
 obtain⟨xs,m,hm,hb,hl,hx,hf⟩:=Dc underlying64 h
 rw[show prog.cellsOf 64=9 by kernel_rfl]at hl
 match cs,hl with
 | [v0,v1,v2,v3,v4,v5,v6,v7,v8],_ =>
  match xs,hx with
  |[x0,x1,x2,x3],_=>
   obtain⟨a0,r0,w0⟩:=Cr underlying58 [v0] x0 (CN (hf 0 _ rfl) (show prog.cellsOf 58=1 by kernel_rfl) rfl)
   obtain⟨a1,r1,w1⟩:=Cr underlying3 [v1] x1 (CN (hf 1 _ rfl) cellsI rfl)
   obtain⟨a2,r2,w2⟩:=VN _ [v2,v3,v4,v5,v6,v7] x2 (CN (hf 2 _ rfl) (show prog.cellsOf 62=6 by kernel_rfl) rfl)
   obtain⟨a3,r3,w3⟩:=Cr underlying3 [v8] x3 (CN (hf 3 _ rfl) cellsI rfl)
   refine⟨⟨a0,a1,a2,a3⟩,(r0.append r1).append r2 |>.append r3,?_⟩
   rw[hb];simp only[BMeth.wt,uptoBulkAll,List.map_cons,List.map_nil];omega
theorem Rf(m:BMeth):(KR m).length=9:=by simp[KR]
theorem TN(n:Nat):Dec enc W n 27 Ad BProg.wt:=fun cs x h=>by
 obtain⟨xs,m,hm,hb,hl,hx,hf⟩:=Dc underlying27 h
 rw[show prog.cellsOf 27=6 by kernel_rfl]at hl
 match cs,hl with
 | [v0,v1,v2,v3,v4,v5],_ =>
  match xs,hx with
  |[x0,x1,x2,x3,x4,x5],_=>
   obtain⟨a0,r0,w0⟩:=DU underlying22 (by kernel_rfl:prog.cellsOf 208=3) (by omega) (fun _=>rfl) (fun _ _=>PT _) [v0] x0 (CN (hf 0 _ rfl) (show prog.cellsOf 22=1 by kernel_rfl) rfl)
   obtain⟨a1,r1,w1⟩:=Cr underlying3 [v1] x1 (CN (hf 1 _ rfl) cellsI rfl)
   obtain⟨a2,r2,w2⟩:=G3 _ [v2] x2 (CN (hf 2 _ rfl) (show prog.cellsOf 23=1 by kernel_rfl) rfl)
   obtain⟨a3,r3,w3⟩:=DU underlying24 (by kernel_rfl:prog.cellsOf 64=9) (by omega) Rf (fun _ _=>TP _) [v3] x3 (CN (hf 3 _ rfl) (show prog.cellsOf 24=1 by kernel_rfl) rfl)
   obtain⟨a4,r4,w4⟩:=DU underlying25 (by kernel_rfl:prog.cellsOf 211=3) (by omega) (fun _=>rfl) (fun _ _=>TO _) [v4] x4 (CN (hf 4 _ rfl) (show prog.cellsOf 25=1 by kernel_rfl) rfl)
   obtain⟨a5,r5,w5⟩:=Cr underlying3 [v5] x5 (CN (hf 5 _ rfl) cellsI rfl)
   refine⟨⟨a0,a1,a2,a3,a4,a5⟩,r0.append (r1.append (r2.append (r3.append (r4.append r5)))),?_⟩
   rw[hb];clear hf hx hl;simp only[JY]at*; simp only[BProg.wt,uptoBulkAll,List.map_cons,List.map_nil];omega
end
end Go.DL
namespace Go.DL
open Go.Proofs.Tryz
open Go Go.Proofs Go.ChangeShapes Go.WideShapes Go.ChangeAt Go.RowKit
open Go.Proofs.YteldimffglchkaaGreatDoor
open Go.Proofs.YteldimffglchkaaGreatDoor.Rows (uptoBulk uptoBulkAll)
set_option maxRecDepth 100000
theorem own:ownKnob prog.godebug=none:=by kernel_rfl
theorem Rg{N:Nat}{us:List D}(h:EI prog N us (fun _=>none) fun x _=>x=.ret (.bool true))(W:Go.World)(hP:Q1 W){vs:List Value}(hr:RepL (g0 W) us vs):
  Calls prog N vs.toArray W fun e W'=>e=.returned (.bool true)/\(∀(k:Nat) (o:Obj),W.heap[k]? = some o->W'.heap[k]? = some o)/\W'.os=W.os/\W'.output=W.output:=by
 refine CallsIn.calls (F:=FX prog { wide:=true }) (n:=0) ((h.run (g0 W) W vs _ rfl (sim0 W hP) hr).mono ?_) fun k=>Gq _ _ _
 rintro e W' ⟨g',x,U',ay,hs,hE,rfl⟩
 obtain⟨v,rfl,rfl⟩:=hE
 have aR:=hs.io.trans ay.io
 simp only[g0,Prod.mk.injEq]at aR
 exact⟨rfl,fun k o hk=>hs.keep k o (ay.keep k o hk),aR.1,aR.2⟩
theorem laidOut:laidOutB prog=true:=by kernel_rfl
section
variable {H:Type}{enc:TypeId×Value->H}{W W':Go.World}
theorem GL{sp:Nat->Bool}: ∀{ts:List TypeId}{vs:List Value}{ds:List (DataW H)}{ps:List MemPlace},(∀t∈ts,prog.readableRec t=true/\t<prog.types.size)->DataW.TrodAll enc prog W 0 (fun _=>true) true ts vs ds ps->(∀p∈ps,W.sameAt W' p)->(∀p∈ps,sp p.block=true)->DataW.TrodAll enc prog W' 0 sp true ts vs ds ps
 |[],vs,ds,ps,_,h,_,_=>by
  obtain⟨rfl,rfl,rfl⟩:=trodAll_nil h
  exact h
 | t::ts,vs,ds,ps,ht,h,h1,h2=>by
  obtain⟨v,vs1,d,ds1,a,b,rfl,rfl,rfl,k1,k2⟩:=trodAll_cons h
  exact⟨a,b,WideElems.Trod_stays laidOut (ht t (by simp)).1 (ht t (by simp)).2 k1 (fun p hp=>h1 p (by simp[hp])) (fun p hp=>h2 p (by simp[hp])),
   GL (fun t hx=>ht t (by simp[hx])) k2 (fun p hp=>h1 p (by simp[hp])) (fun p hp=>h2 p (by simp[hp])),rfl⟩
theorem same_of{p:MemPlace}(ai:∀(k:Nat) (o:Obj),W.heap[k]? = some o->W'.heap[k]? = some o)(hp:p.block<W.heap.size):W.sameAt W' p:=by
 have hk:∀b,b<W.heap.size->W'.heap[b]? = W.heap[b]? :=fun b hb=>by
  rw[Array.getElem?_eq_getElem hb];exact ai b _ (Array.getElem?_eq_getElem hb)
 cases p with
 |cell b off=>
  show W'.cell? ⟨b,off,none⟩=W.cell? ⟨b,off,none⟩
  unfold World.cell?
  rw[hk b hp]
 |map b=>exact hk b hp
theorem kept_of{may:MemPlace->Prop}(ai:∀(k:Nat) (o:Obj),W.heap[k]? = some o->W'.heap[k]? = some o)(aO:W'.os=W.os)(aw:W'.output=W.output):W.keptBut W' may:=by
 refine⟨aO,aw,fun i hi=>?_⟩
 have h:=Array.getElem?_eq_getElem hi
 rw[h,ai i _ h]
 cases W.heap[i]<;>simp
theorem UT{f:Func}{s:ChangeSpec}{args:Array Value}{ds gs:List (DataW H)}{before:List MemPlace}(hv:s.vars=[])(be:f.resultTypes=#[4])(bd:∀t∈f.params.toList,prog.readableRec t=true/\t<prog.types.size)
  (hW:DataW.Whole enc prog f.params.toList s.vars false W args.toList ds gs before) (aT:s.fn H (ds++gs)={ results:=[.lit (.bool true)],args:=ds })
  (ai:∀(k:Nat) (o:Obj),W.heap[k]? = some o->W'.heap[k]? = some o) (aO:W'.os=W.os) (aw:W'.output=W.output):s.post enc prog f false true false false W args (.bool true) W':=by
 have aE:=hW.lt
 have bm:=hW
 obtain⟨p,q,hA,hV,rfl,bw,bq⟩:=hW
 rw[hv]at hV
 obtain⟨rfl,rfl⟩:=trodVars_none hV
 have aB:∀x∈p,W.sameAt W' x:=fun x hx=>same_of ai (by simpa using aE x (by simp[hx]))
 refine⟨ds,[],p++[],[],p,[],bm,?_,?_,?_,kept_of ai aO aw,fun h=>by cases h⟩
 ·rw[be,aT]
  exact trodAll_cons_mk (shut_bool underlying4 _) trodAll_mk0
 ·rw[aT]
  exact GL bd hA aB fun x hx=>by simpa using aE x (by simp[hx])
 ·rw[aT,hv]
  rfl
end
section
variable {H:Type}{enc:TypeId×Value->H}{W:Go.World}{base:Nat}
theorem Qy{v:Value}{d:DataW H}{ps:List MemPlace}(aH:Value.okWide prog W .any base 27 v)(h:DataW.Trod enc prog W 0 (fun _=>true) true 27 v d ps): ∃p:BProg,Rep (g0 W) (.agg (Ad p)) v/\p.wt<=Rows.uptoBulk d:=by
 obtain⟨cs,rfl,_⟩:=okWide_struct underlying27 aH
 obtain⟨n,hn⟩:=h
 obtain⟨p,h1,h2⟩:=TN n _ _ hn
 exact⟨p,⟨cs.toList,by simp,h1⟩,h2⟩
theorem Pb:prog.readableRec 27=true:=by kernel_rfl
theorem P2:27<prog.types.size:=of_decide_eq_true (by kernel_rfl)
end
abbrev laids : List (String × DataW Unit) := [("math/bits.deBruijn32tab", Rows.laid_math_bits_deBruijn32tab), ("math/bits.deBruijn64tab", Rows.laid_math_bits_deBruijn64tab), ("internal/strconv.uint64pow10", Rows.laid_internal_strconv_uint64pow10)]
theorem gPow : prog.globalNamed "internal/strconv.uint64pow10" = some 1 := by kernel_rfl
theorem gPowT:(prog.globals[1]?).map (·.type)=some 389:=by kernel_rfl
theorem VS:prog.cellsOf 389=20:=by kernel_rfl
theorem VT:prog.cellsOf 338=1:=by kernel_rfl
theorem laidF : laids.filter (fun x => x.1 == "internal/strconv.uint64pow10") = [("internal/strconv.uint64pow10", Lib.tabData .u64 ((List.range 20).map fun i => ((10 ^ i : Nat) : Int)))] := by kernel_rfl
theorem Ux{W:Go.World}(h:laidMetH prog laids W):Q1 W:=by
 have h2 := h.filter (fun x => x.1 == "internal/strconv.uint64pow10")
 rw[laidF]at h2
 exact Lib.tabIs_of_head (rest:=[]) gPow gPowT underlying389 underlying338 VT VS h2
def Um:DataW Unit->Array Value
 |.agg xs=>(xs.map fun x=>match x with
  |.lit (.int k z)=>Value.int k z
  |_=>Value.int .i64 0).toArray
 |_=> #[]
def Qg(x:DataW Unit):Obj->Obj
 |.cells _ t frozen=>.cells (Um x) t frozen
 |o=>o
noncomputable def J5(os:Os):Go.World:=
 {Go.World.holding prog os ⟨#[], #[],[]⟩with heap:=(((Go.World.holding prog os ⟨#[], #[],[]⟩).heap.modify 6 (Qg Rows.laid_math_bits_deBruijn32tab)).modify 7 (Qg Rows.laid_math_bits_deBruijn64tab)).modify 1 (Qg Rows.laid_internal_strconv_uint64pow10) }
theorem noGo:prog.funcs.any Func.goes=false:=by kernel_rfl
theorem goes_no(c:OpenClaim)(hs:c.start=.entering):false=c.goesBy Tryz.pinned.checked.prog:=by
 have key:∀f,prog.goes f=false:=fun f=>by
  unfold Program.goes
  rw[noGo,Bool.and_false,Bool.or_false,List.any_eq_false]
  intro g _
  cases hg:prog.funcs[g]? with
  |none=>simp
  |some fn=>
   have:=Array.any_eq_false.1 noGo g (Array.getElem?_eq_some_iff.1 hg).1
   rw[(Array.getElem?_eq_some_iff.1 hg).2]at this
   simpa using this
 show false=prog.goesAt c.start c.func
 unfold Program.goesAt Program.goesFrom
 rw[hs]
 cases h:prog.funcNamed c.func with
 |none=>rfl
 |some f=>simp[key f]
end Go.DL
namespace Go.DL
open Go.Proofs.Tryz
open Go Go.Proofs
set_option maxHeartbeats 8000000
def cIns(x:CIns):List D:=[dI x.op,dI x.a]
@[simp] theorem cIns_len(x:CIns):(cIns x).length=2:=rfl
@[simp] theorem cIns_flat(x:CIns):BS (cIns x)=true:=rfl
abbrev cLev(l:CLev):List D:=[dI l.st,dI l.env]
theorem eqTy87:EqTy prog 87:=⟨by kernel_rfl,by kernel_rfl,by kernel_rfl⟩
theorem MK:EqTy prog 79:=⟨by kernel_rfl,by kernel_rfl,by kernel_rfl⟩
theorem kind87:(tab 87).k=.struct [(0,85),(1,3)]:=rfl
theorem Ma:(tab 79).k=.struct [(0,3),(1,3)]:=rfl
theorem eqIns(a b:CIns):eqFs tab (cIns a) (cIns b) [(0,85),(1,3)]=some (decide (a=b)):=by
 cases a;cases b
 simp[cIns,CIns.mk.injEq,Bool.decide_and]
theorem TC(a b:CLev):eqFs tab (cLev a) (cLev b) [(0,3),(1,3)]=some (decide (a=b)):=by
 cases a;cases b
 simp[cLev,CLev.mk.injEq,Bool.decide_and]
theorem Vh(op:Int)(O:Sig):DCall prog 72 [dI op] O (rS (.bool (hasA op)) O):=by
 refine en func72 ntmps72 ?_
 repeat' first|refine gz ?_|apply gy<;>intro hh
 any_goals (first|(refine fin1 (U':=O) ?_;exact⟨by first|rfl|(simp[Go.DL.hasA];done)|(simp_all [Go.DL.hasA];done)|(rw[Ac,Bool.eq_iff_iff];simp_all [Go.DL.hasA]<;>omega),rfl⟩)|fail)
@[reducible,instance] def a72:=fun op O=>ah0 (@Vh op O)
theorem FK(n:Int)(O:Sig):DCall prog 150 [dI n] O (rS (.bool (!farN n)) O):=by
 refine en func150 ntmps150 ?_
 repeat' first|refine gz ?_|apply gy<;>intro hh
 any_goals (first|(refine fin1 (U':=O) ?_;exact⟨by first|rfl|(simp[farN];done)|(simp_all [farN];done)|(rw[Ac,Bool.eq_iff_iff];simp_all [farN]<;>omega),rfl⟩)|fail)
@[reducible,instance] def a150:=fun n O=>ah0 (@FK n O)
def unfC:D:=.iface 245 (.agg [])
theorem Ve(b:Bool)(O:Sig):DCall prog 78 [.bool b] O fun x U'=>x=(if b then .ret (.tup []) else .panic unfC)/\U'=O:=by
 refine en func78 ntmps78 ?_
 cases b
 ·refine gz ?_
  refine pan ?_
  exact finP (U':=O) ⟨rfl,rfl⟩
 ·refine gz ?_
  exact EW (U':=O) ⟨rfl,rfl⟩
@[reducible,instance] def a78:=fun b O=>gh0 (@Ve b O)
theorem I0{P:Program}{F:Fence}{n:Nat}{Q:Exit->Act->List Frame->Go.World->Prop}{a:Act}{cs cs':List Frame}{w:Go.World}{id t4 ty1:Nat}{p1:String}{a1:Array Edge}{rest:Code}{v:Value}
  (aK:recoverD cs=some (v,cs')\/(recoverD cs=none/\v=.nilIface/\cs'=cs)) (aI:t4<a.tmps.size)
  (h:rest.wpSIn F n P Q (a.put (some t4) v) cs' w) :
  (Code.seq (.region id #[⟨some t4,.call { callee:=.builtin .recover,args:= #[],argTypes:= #[] },ty1,p1,a1,none⟩] false) rest).wpSIn F n P Q a cs w:=by
 refine wpSIn_seq (wpSIn_region ?_)
 have hr:List.range (#[(⟨some t4,.call { callee:=.builtin .recover,args:= #[],argTypes:= #[] },ty1,p1,a1,none⟩:Oper)]:Array Oper).size=[0]:=rfl
 rw[hr]
 exact I5 (o:=⟨some t4,.call { callee:=.builtin .recover,args:= #[],argTypes:= #[] },ty1,p1,a1,none⟩) rfl rfl (fun f h=>by cases h) rfl aK h
theorem MW{P:Program}{f:Nat}{fn:Func}{id t4 ty1:Nat}{p1:String}{a1:Array Edge}{rest:Code}{args:List D}{O U':Sig}{pan:Option D}{m:Nat}
  (hf:P.funcs[f]? = some fn) (hb:fn.body=some (Code.seq (.region id #[⟨some t4,.call { callee:=.builtin .recover,args:= #[],argTypes:= #[] },ty1,p1,a1,none⟩] false) rest))
  (hm:fn.ntmps=m) (hn:args.length<=m) (aI:t4<m) (aJ:fn.results=#[])
  (h:DWp P .none m rest (fun x s=>(x=.normal\/x=.ret)/\s.df=[]/\Sub U' s.O) ⟨(t4,pan.getD .niliface)::BI 0 args,O,[]⟩):LI P f args O pan U':=by
 intro g w vs u hs ha hu
 subst hm
 have aE:f<P.funcs.size:=(Array.getElem?_eq_some_iff.1 hf).1
 refine callsDIn_of_wpSIn hf hb (Gd aE _) fun c₀ cs hc=>?_
 have hT:=Er ha hn
 have aN:∀(d:D) (v:Value),Rep g d v->RepT g ((t4,d)::BI 0 args) fn.ntmps (({ tmps:=vs.toArray++Array.replicate (fn.ntmps-vs.toArray.size) undef,defers:=[] }:Act).put (some t4) v).tmps:=by
  intro d v hv
  exact RepT.put (o := ⟨some t4, .move (.tmp 0), 0, "", #[], none⟩) (a := { tmps := vs.toArray ++ Array.replicate (fn.ntmps - vs.toArray.size) undef, defers := [] }) hT hv (by simp [At, aI])
 have hsz:t4<(vs.toArray++Array.replicate (fn.ntmps-vs.toArray.size) undef).size:=by rw[hT.1];exact aI
 have fin:∀(d:D) (v:Value) (u':FrameMode) (cs':List Frame),pan.getD .niliface=d->Rep g d v->settle u'=.returning->cs'={ c₀ with mode:=u' }::cs->
   rest.wpSIn (FX P {}) 0 P (bodyPostS P fn c₀ cs fun e u' w'=>(∃v,e=.returned v)/\settle u'=.returning /\ ∃g',g.le g'/\Sim P g' U' w')
    (({ tmps:=vs.toArray++Array.replicate (fn.ntmps-vs.toArray.size) undef,defers:=[] }:Act).put (some t4) v) cs' w:=by
  intro d v u' cs' hd hv aA bb
  refine wpSIn_of_wpIn rfl ?_
  subst hd
  refine wpIn_mono (h g w _ {} rfl ⟨hs,aN _ v hv,rfl⟩) ?_
  rintro e a w' ⟨g',s',x,l1,l2,l3,hx,bk,ak⟩
  have hd:a.defers=[]:=Et l2.df bk
  have hr:(results fn a.tmps).run P w'=.ok (.tuple #[]) w':=by simp[results,aJ]
  rcases hx with rfl|rfl
  ·obtain rfl:=l3
   exact⟨hd,u',bb,_,hr,⟨_,rfl⟩,aA,g',l1,l2.sim.sub ak⟩
  ·obtain rfl:=l3
   exact⟨hd,u',bb,_,hr,⟨_,rfl⟩,aA,g',l1,l2.sim.sub ak⟩
 cases pan with
 |none=>
  have hu:u=.returning:=hu
  subst hu
  refine I0 (v:=.nilIface) (cs':=c₀::cs) (.inr ⟨?_,rfl,rfl⟩) hsz (fin .niliface .nilIface .returning _ rfl rfl rfl ?_)
  ·simp[recoverD,hc]
  ·rw[<-hc]
 |some d=>
  obtain⟨v,rfl,hv⟩:=hu
  refine I0 (v:=v) (cs':={ c₀ with mode:=.panicking [{ v,recovered:=true }] }::cs) (.inl ?_) hsz (fin d v (.panicking [{ v,recovered:=true }]) _ rfl hv rfl rfl)
  simp[recoverD,hc]
theorem MB(i:Nat)(b:Bool)(O:Sig)(hi:O i=some (.cells [.bool b])):LI prog 160 [.ptr i 0] O none O/\LI prog 160 [.ptr i 0] O (some unfC) (O.set i (.cells [.bool false])):=by
 constructor
 ·refine MW func160 rfl ntmps160 (by simp) (by decide) rfl ?_
  simp only[Option.getD_none]
  repeat' first|refine gz ?_|apply gy<;>intro hh
  exact⟨.inl rfl,rfl,Sub.refl _⟩
 ·refine MW func160 rfl ntmps160 (by simp) (by decide) rfl ?_
  simp only[Option.getD_some]
  repeat' first|refine gf hi ?_|apply gy<;>intro hh
  exact⟨.inl rfl,rfl,Sub.refl _⟩
theorem Vf(g:Nat)(cap:List D)(O:Sig)(R:Sig->DE->Sig->Prop)
  (hg:∀i,O i=none->DCall prog g cap (O.set i (.cells [.bool false])) (R (O.set i (.cells [.bool false]))))
  (hR:∀U' d S'',R U' (.panic d) S''->d=unfC) (hk:∀i S'' x,O i=none->R (O.set i (.cells [.bool false])) x S''->S'' i=some (.cells [.bool false])) :
  DCall prog 76 [.func (.func g) [] cap] O fun x U'=> ∃i S'',O i=none/\U'=S''.del i /\
   ((∃d,R (O.set i (.cells [.bool false])) (.ret d) S''/\x=.ret (.bool true))\/(R (O.set i (.cells [.bool false])) (.panic unfC) S''/\x=.ret (.bool false))):=by
 refine Ho (fd:=160) func76 rfl (BT func160 (by rfl) (by rfl)) (by rw[Ah];decide) (by decide) ntmps76 (by simp) ?_
 refine gz ?_ [] [2]
 refine newV (fun i hi=>?_)
 refine gz ?_ [] [2]
 refine KH (f:=160) (by rw[Ah];decide) rfl rfl ?_
 refine gz ?_ [] [2]
 refine A4 (hg i hi) (fun d U' hr=>?_) (fun d U' hp=>?_)
 ·have aS:=hk i U' _ hi hr
  refine gf aS ?_ [] [2]
  refine⟨_,Wk.refl _ _ _,[.ptr i 0],U'.set i (.cells [.bool true]),.bool true,rfl,(MB i true _ (w6 ..)).1,DI (ds:=[.bool true]) tabOK ?_,.ret (.bool true),U'.del i,Ab _,L2,i,U',hi,rfl,.inl ⟨d,hr,rfl⟩⟩
  simp[resL]
 ·have aS:=hk i U' _ hi hp
  obtain rfl:=hR _ _ _ hp
  refine gz ?_ [] [2]
  refine⟨_,Wk.refl _ _ _,[.ptr i 0],U'.set i (.cells [.bool false]),.bool false,rfl,(MB i false _ aS).2,DI (ds:=[.bool false]) tabOK ?_,.ret (.bool false),U'.del i,Ab _,L2,i,U',hi,rfl,.inr ⟨hp,rfl⟩⟩
  simp[resL]
abbrev cCPg(c:CProg):List D:=[sl (c.ins.map cIns),sl (cI c.starts),dI c.main]
def cChk(p:BProg)(c:CProg)(im:Nat):D:=.cptr (cCPg c++Ad p++[.map im]) 0
theorem T4(p:BProg)(c:CProg)(im:Nat)(x:CIns)(O:Sig)(hp:p.wt<=1073741824)(hx:x.op=19->0<=x.a/\x.a<p.gens.length):DCall prog 171 [cChk p c im,.agg (cIns x)] O (rS (.tup [dI (Ag p x).1,dI (Ag p x).2]) O):=by
 obtain⟨p1,p2,p3,p4,p5,p6,p7⟩:=p.wt_le
 by_cases aC:x.op=19
 ·obtain⟨h1,h2⟩:=hx aC
  have e:p.gens.getD x.a.toNat 0=p.gens[x.a.toNat]'(by omega):=by rw[List.getD_eq_getElem?_getD,List.getElem?_eq_getElem (by omega)];rfl
  refine en func171 ntmps171 ?_
  repeat' first|refine gf aC ?_ o171|apply gy<;>intro hh
  any_goals (first|(refine fin2 (U':=O) ?_;exact⟨by first|rfl|(simp[Ag,aC,e];done)|(simp_all [Ag,aC,e];done)|(rw[Ac,Bool.eq_iff_iff];simp_all [Ag,aC,e]<;>omega),rfl⟩)|fail)
 ·refine en func171 ntmps171 ?_
  repeat' first|refine gz ?_ o171|apply gy<;>intro hh
  any_goals (first|(refine fin2 (U':=O) ?_;exact⟨by first|rfl|(simp[Ag];done)|(simp_all [Ag];done)|(rw[Ac,Bool.eq_iff_iff];simp_all [Ag]<;>omega),rfl⟩)|fail)
theorem V5{p:BProg}{N q:Nat}{x:CIns}(h:x.op<1\/21<x.op):fitsQ p N q x=false:=by
 unfold fitsQ;rw[if_neg (by omega),if_neg (by omega),if_neg (by omega),if_neg (by omega),if_neg (by omega),if_neg (by omega),decide_eq_false (by omega)]
theorem Va(p:BProg)(c:CProg)(im:Nat)(q:Nat)(x:CIns)(O:Sig)(hp:p.wt<=1073741824)(hc:c.ins.length<=300)(hq:q<300)(hs : -1000<=p.slots/\p.slots<=1000):DCall prog 99 [cChk p c im,dI q,.agg (cIns x)] O fun r U'=>r=(if fitsQ p c.ins.length q x then .ret (.tup []) else .panic unfC)/\U'=O:=by
 obtain⟨p1,p2,p3,p4,p5,p6,p7⟩:=p.wt_le
 refine en func99 ntmps99 ?_
 repeat' first|((refine finP (U':=O) ⟨?_,rfl⟩;have e:fitsQ p c.ins.length q x=false:=(by first|(simp_all [fitsQ,inB]<;>omega)|exact V5 (by omega));rw[e];rfl))|refine gz ?_ o99|apply gy<;>intro hh
 any_goals (first|(refine EW (U':=O) ⟨?_,rfl⟩;have e:fitsQ p c.ins.length q x=true:=(by simp_all [fitsQ,inB]<;>omega);rw[e];rfl)|fail)
@[reducible,instance] def a99:=fun p c im q x O=>gh4 (@Va p c im q x O)
end Go.DL
