/- A part of the proof. -/
import Derived.Test.YteldimffglchkaaGreatDoorH20
import Derived.Test.YteldimffglchkaaGreatDoorH11
import Derived.Test.YteldimffglchkaaGreatDoorRows
import Derived.WideKeyArgs
import Derived.ChangeSame
import Derived.WalkKit
import Derived.ProofKit
import Derived.OpenShut
import Derived.JoinedCond
import Derived.Test.YteldimffglchkaaGreatDoorCards
import Derived.Test.YteldimffglchkaaGreatDoorTie
import Derived.Deep.DeepHandedRow
import Derived.Lib.LaidTab
import Derived.Test.YteldimffglchkaaGreatDoorH15
import Derived.Test.YteldimffglchkaaGreatDoorH19
import Derived.Test.YteldimffglchkaaGreatDoorH14
import Derived.Test.YteldimffglchkaaGreatDoorH16
set_option linter.all false
namespace Go.DL
open Go.Proofs.Tryz
open Go Go.Proofs
theorem B5{N:Int}{l:List MVal}:okVs N l=true ↔ ∀v∈l,okV N v=true:=by unfold okVs;exact List.all_eq_true
theorem Th{M N:Int}{v:MVal}(h:okV M v=true)(hN:M<=N):okV N v=true:=by
 unfold okV at h⊢
 split
 ·rw[if_pos (by assumption)]at h;exact h
 ·rw[if_neg (by assumption)]at h
  split
  ·rw[if_pos (by assumption)]at h;exact h
  ·rw[if_neg (by assumption)]at h
   split
   ·rw[if_pos (by assumption)]at h;simp only[decide_eq_true_eq]at h⊢; omega
   ·rw[if_neg (by assumption)]at h;exact h
theorem EG{M N:Int}{l:List MVal}(h:okVs M l=true)(hN:M<=N):okVs N l=true:=B5.2 fun v hv=>Th (B5.1 h v hv) hN
theorem C7{N:Int}{l:List MVal}{v:MVal}(h:okVs N l=true)(hv:okV N v=true):okVs N (l++[v])=true:=B5.2 fun x hx=>by
 rcases List.mem_append.1 hx with hx|hx
 ·exact B5.1 h x hx
 ·rw[List.mem_singleton]at hx;rw[hx];exact hv
theorem Ct{N:Int}{l:List MVal}(h:okVs N l=true):okVs N l.dropLast=true:=B5.2 fun x hx=>B5.1 h x (List.dropLast_subset l hx)
theorem Ej{N:Int}{l:List MVal}(h:okVs N l=true)(h1:1<=l.length):okV N (Dn l)=true:=by
 unfold Dn
 rw[List.getLast?_eq_getElem?, List.getElem?_eq_getElem (by omega)]
 exact B5.1 h _ (List.getElem_mem _)
theorem BB{w:CWorld}{l:List MThing}:Ba w l=true ↔ l.length<=40 /\ ∀o∈l,w.own o.cls=true/\o.slots.length=(w.slots o.cls).length/\okVs l.length o.slots=true:=by
 unfold Ba
 simp only[Bool.and_eq_true,decide_eq_true_eq,List.all_eq_true]
theorem Fa{w:CWorld}{l:List MThing}(h:Ba w l=true){v:MVal}(hv:okV l.length v=true)(h3:v.kind=3):(CN l v.n)∈l/\0<=v.n/\v.n<l.length:=by
 unfold okV at hv
 rw[if_neg (by omega),if_neg (by omega),if_pos h3]at hv
 simp only[decide_eq_true_eq]at hv
 unfold CN
 rw[List.getElem?_eq_getElem (by omega)]
 exact⟨List.getElem_mem _,hv⟩
theorem Jf{w:CWorld}{l:List MThing}(h:Ba w l=true){n:Int}{x:MThing}(h1:w.own x.cls=true)(h2:x.slots.length=(w.slots x.cls).length)(h3:okVs l.length x.slots=true):Ba w (setObj l n x)=true:=by
 rw[BB]at h⊢
 unfold setObj
 rw[List.length_set]
 refine⟨h.1,fun o ho=>?_⟩
 rcases List.mem_or_eq_of_mem_set ho with ho|rfl
 ·exact h.2 o ho
 ·exact⟨h1,h2,h3⟩
theorem GV{α}[DecidableEq α]{s:α}: ∀(l:List α) (k:Nat),0<=idxG s l k->k<=idxG s l k/\idxG s l k<k+l.length
 |[],_,h=>by rw[idxG]at h;omega
 | x::r,k,h=>by
  rw[idxG]at h⊢
  rw[List.length_cons]
  split
  ·omega
  ·rename_i e
   rw[if_neg e]at h
   have:=GV r (k+1) h
   omega
structure WldOK(p:BProg)(w:CWorld):Prop where
 own:∀c:Int,3<=c->c<3+p.classes.length->w.own c=true
 len:∀c,w.own c=true->(w.fresh c).length=(w.slots c).length
 ok:∀c,w.own c=true->okVs 0 (w.fresh c)=true
theorem turn_ok{p:BProg}{w:CWorld}(hw:WldOK p w){N:Int}(hN:0<=N){x:MThing}{c:Int}(hc:w.own c=true)(hx:w.own x.cls=true)(hl:x.slots.length=(w.slots x.cls).length)(hs:okVs N x.slots=true):
  (Cj w x c).slots.length=(w.slots c).length/\okVs N (Cj w x c).slots=true:=by
 have hlen:=hw.len c hc
 unfold Cj
 simp only
 refine⟨by rw[List.length_zipWith,hlen,Nat.min_self],B5.2 fun v hv=>?_⟩
 rw[<-List.map_uncurry_zip_eq_zipWith]at hv
 obtain⟨⟨a,b⟩,aV,rfl⟩:=List.mem_map.1 hv
 simp only[Function.uncurry]
 split
 ·rename_i h0
  have:=GV (s:=a) (w.slots x.cls) 0 (by exact_mod_cast h0)
  rw[List.getElem?_eq_getElem (by omega)]
  exact B5.1 hs _ (List.getElem_mem _)
 ·exact B5.1 (EG (hw.ok c hc) hN) b (List.of_mem_zip aV).2
structure GInv(w:CWorld)(m:Met)(s:GoS):Prop where
 lo:0<=s.pos
 lev:∃l,m s.pos.toNat=some l/\(s.stk.length:Int)=l.st/\(s.env.length:Int)=l.env
 stk:okVs s.objs.length s.stk=true
 env:okVs s.objs.length s.env=true
 objs:Ba w s.objs=true
structure HInv(p:BProg)(w:CWorld)(m:Met)(nx:Bool)(at0:Int)(h:GoH):Prop where
 objs:Ba w h.objs=true
 kind:h.kind=1\/h.kind=2\/h.kind=3\/h.kind=4
 goes:h.kind=3->nx=true
 val:h.kind=1->okV h.objs.length h.val=true
 asks:h.kind=2->0<=h.gen/\h.gen<p.gens.length/\(h.args.length:Int)=p.gens.getD h.gen.toNat 0/\okVs h.objs.length h.args=true
 frame:h.kind=2\/h.kind=3->at0<h.pos/\(∃l,m h.pos.toNat=some l/\(h.stk.length:Int)+1=l.st/\(h.env.length:Int)=l.env)/\okVs h.objs.length h.stk=true/\okVs h.objs.length h.env=true
theorem Ti(N:Int)(op:Int)(v w:MVal):okV N (GC op v w)=true:=by
 have hc:∀n,okV N (vInt (DB n))=true:=fun n=>by
  unfold okV vInt DB
  simp only[if_true,decide_eq_true_eq]
  omega
 have ht:∀b,okV N (vInt (Dr b))=true:=fun b=>by
  unfold okV vInt Dr
  cases b<;>simp
 unfold GC
 split
 ·exact hc _
 split
 ·exact hc _
 split
 ·exact hc _
 split
 ·exact ht _
 ·exact ht _
section
variable {p:BProg}{w:CWorld}{c:CProg}{m:Met}{nx:Bool}
theorem CH{N:Nat}{x:CIns}{l:CLev}{env:Int}{next:Bool}{s t:GoS}(hI:InsOK p N s.pos.toNat x l m env next)(h0:0<=s.pos)(be:x.op≠21)(bf:x.op≠18)
  (hp:t.pos=s.pos+1) (h1:(t.stk.length:Int)=(toC p x l).st) (h2:(t.env.length:Int)=(toC p x l).env) (h3:okVs t.objs.length t.stk=true) (h4:okVs t.objs.length t.env=true) (h5:Ba w t.objs=true):GInv w m t/\s.pos<t.pos:=by
 refine⟨⟨by omega,⟨_,?_,h1,h2⟩,h3,h4,h5⟩,by omega⟩
 rw[hp,show(s.pos+1).toNat=s.pos.toNat+1 by omega]
 exact(hI.on be bf).2
theorem Jg(hg:∀n:Nat,0<=p.gens.getD n 0)(hw:WldOK p w)(hL:LevOK p c m nx){s:GoS}(hs:GInv w m s):match I9 p w (AC c s.pos.toNat) { s with pos:=s.pos+1 } with
  |.inl t=>GInv w m t/\s.pos<t.pos
  |.inr h=>HInv p w m nx s.pos h:=by
 obtain⟨h0,⟨l,hl,bi,ai⟩,ak,ae,ac⟩:=hs
 obtain⟨env,next,hI,g1,g2,g3,g4⟩:=hL.ok _ _ hl
 have hk:s.pos.toNat<c.ins.length:=hL.dom _ _ hl
 have hx:c.ins[s.pos.toNat]? = some (AC c s.pos.toNat):=by unfold AC;rw[List.getElem?_eq_getElem hk];rfl
 have aa:=hL.fits _ _ hx
 generalize AC c s.pos.toNat=x at hI hx aa
 have ht:=hI.take
 have bd:s.stk.dropLast.length=s.stk.length-1:=List.length_dropLast
 have ap:=Ct ak
 have aS:=Ct ap
 have bn:s.stk.dropLast.dropLast.length=s.stk.length-1-1:=by rw[List.length_dropLast,bd]
 have aq:1<=s.stk.length->okV s.objs.length (Dn s.stk)=true:=Ej ak
 have aZ:2<=s.stk.length->okV s.objs.length (Dn s.stk.dropLast)=true:=fun h=>Ej ap (by omega)
 unfold fitsC at aa
 unfold I9
 simp only
 by_cases e1:x.op=1
 ·rw[if_pos e1]at aa
  rw[if_pos e1]
  have u:Ap p x=(0,1):=by unfold Ap;rw[if_pos (by omega)]
  refine CH hI h0 (by omega) (by omega) rfl ?_ ?_ (C7 ak ?_) ae ac
  ·unfold toC;rw[u,List.length_append];simp only[List.length_singleton];omega
  ·unfold toC;rw[if_neg (by omega),if_neg (by omega)];exact ai
  ·unfold inB at aa
   unfold okV vInt
   simp only[if_true,Bool.and_eq_true,decide_eq_true_eq]at aa⊢
   omega
 rw[if_neg e1]at aa
 rw[if_neg e1]
 by_cases e2:x.op=2
 ·rw[if_pos e2]
  have u:Ap p x=(0,1):=by unfold Ap;rw[if_pos (by omega)]
  refine CH hI h0 (by omega) (by omega) rfl ?_ ?_ (C7 ak ?_) ae ac
  ·unfold toC;rw[u,List.length_append];simp only[List.length_singleton];omega
  ·unfold toC;rw[if_neg (by omega),if_neg (by omega)];exact ai
  ·simp[okV,Eb]
 rw[if_neg e2]
 by_cases e3:x.op=3
 ·rw[if_pos e3]at aa
  rw[if_pos e3]
  have hn:=hI.name e3
  simp only[decide_eq_true_eq]at aa
  have u:Ap p x=(0,1):=by unfold Ap;rw[if_pos (by omega)]
  refine CH hI h0 (by omega) (by omega) rfl ?_ ?_ (C7 ak ?_) ae ac
  ·unfold toC;rw[u,List.length_append];simp only[List.length_singleton];omega
  ·unfold toC;rw[if_neg (by omega),if_neg (by omega)];exact ai
  ·simp only
   rw[List.getElem?_eq_getElem (by omega)]
   exact B5.1 ae _ (List.getElem_mem _)
 rw[if_neg e3]at aa
 rw[if_neg e3]
 by_cases e4:x.op=4
 ·rw [if_pos (by omega)] at aa
  rw[if_pos e4]
  simp only[decide_eq_true_eq]at aa
  have aj:=hw.own x.a aa.1 aa.2
  have u:Ap p x=(0,1):=by unfold Ap;rw[if_pos (by omega)]
  by_cases hn:40<=s.objs.length
  ·rw[if_pos hn]
   exact⟨ac,.inr (.inr (.inr rfl)),(nomatch ·),(nomatch ·),(nomatch ·),fun h=>by simp[FK]at h⟩
  ·rw[if_neg hn]
   have ar:((s.objs.length:Nat):Int)<=((s.objs++[(⟨x.a,w.fresh x.a⟩:MThing)]).length:Nat):=by rw[List.length_append];simp only[List.length_singleton];omega
   refine CH hI h0 (by omega) (by omega) rfl ?_ ?_ (C7 (EG ak ar) ?_) (EG ae ar) ?_
   ·unfold toC;rw[u,List.length_append];simp only[List.length_singleton];omega
   ·unfold toC;rw[if_neg (by omega),if_neg (by omega)];exact ai
   ·simp only[okV,vObj,List.length_append,List.length_singleton];simp;omega
   ·rw[BB]at ac⊢
    refine⟨by rw[List.length_append];simp only[List.length_singleton];omega,fun o ho=>?_⟩
    rcases List.mem_append.1 ho with ho|ho
    ·exact⟨(ac.2 o ho).1,(ac.2 o ho).2.1,EG (ac.2 o ho).2.2 ar⟩
    ·rw[List.mem_singleton]at ho;rw[ho]
     exact⟨aj,hw.len _ aj,EG (hw.ok _ aj) (by omega)⟩
 rw[if_neg e4]
 by_cases e5:x.op=5
 ·rw [if_pos e5]
  have u:Ap p x=(1,1):=by unfold Ap;rw[if_neg (by omega),if_pos (by omega)]
  rw[u]at ht
  simp only at ht
  by_cases hn:Bd w s.objs (Dn s.stk) x.a<0
  ·rw[if_pos hn]
   exact⟨ac,.inr (.inr (.inr rfl)),(nomatch ·),(nomatch ·),(nomatch ·),fun h=>by simp[FK]at h⟩
  ·rw[if_neg hn]
   refine CH hI h0 (by omega) (by omega) rfl ?_ ?_ (C7 ap ?_) ae ac
   ·unfold toC;rw[u,List.length_append];simp only[List.length_singleton];omega
   ·unfold toC;rw[if_neg (by omega),if_neg (by omega)];exact ai
   ·unfold Bd at hn⊢
    split at hn
    ·rename_i h3
     rw[if_pos h3]
     obtain⟨o1,o2⟩:=Fa ac (aq (by omega)) h3
     have:=GV (s:=x.a) (w.slots (CN s.objs (Dn s.stk).n).cls) 0 (by omega)
     obtain⟨q1,q2,q3⟩:=(BB.1 ac).2 _ o1
     rw[List.getElem?_eq_getElem (by omega)]
     exact B5.1 q3 _ (List.getElem_mem _)
    ·omega
 rw[if_neg e5]
 by_cases e6:x.op=6
 ·rw[if_pos (by omega)]at aa
  rw[if_pos e6]
  simp only[decide_eq_true_eq]at aa
  have aj:=hw.own x.a aa.1 aa.2
  have u:Ap p x=(1,1):=by unfold Ap;rw[if_neg (by omega),if_pos (by omega)]
  rw[u]at ht
  simp only at ht
  by_cases h3:(Dn s.stk).kind=3
  ·rw[if_pos h3]
   have hsz:(setObj s.objs (Dn s.stk).n (Cj w (CN s.objs (Dn s.stk).n) x.a)).length=s.objs.length:=List.length_set
   obtain⟨o1,o2⟩:=Fa ac (aq (by omega)) h3
   obtain⟨q1,q2,q3⟩:=(BB.1 ac).2 _ o1
   obtain⟨t1,t2⟩:=turn_ok hw (Int.natCast_nonneg s.objs.length) aj q1 q2 q3
   refine CH hI h0 (by omega) (by omega) rfl ?_ ?_ (C7 ?_ ?_) ?_ (Jf ac aj t1 t2)
   ·unfold toC;rw[u,List.length_append];simp only[List.length_singleton];omega
   ·unfold toC;rw[if_neg (by omega),if_neg (by omega)];exact ai
   ·simp only[hsz];exact ap
   ·simp only[hsz];exact aq (by omega)
   ·simp only[hsz];exact ae
  ·rw[if_neg h3]
   exact⟨ac,.inr (.inr (.inr rfl)),(nomatch ·),(nomatch ·),(nomatch ·),fun h=>by simp[FK]at h⟩
 rw[if_neg (by omega)]at aa
 rw[if_neg e6]
 by_cases e7:x.op=7
 ·rw[if_pos e7]
  have u:Ap p x=(1,1):=by unfold Ap;rw[if_neg (by omega),if_pos (by omega)]
  rw[u]at ht
  simp only at ht
  refine CH hI h0 (by omega) (by omega) rfl ?_ ?_ (C7 ap (aq (by omega))) ae ac
  ·unfold toC;rw[u,List.length_append];simp only[List.length_singleton];omega
  ·unfold toC;rw[if_neg (by omega),if_neg (by omega)];exact ai
 rw[if_neg e7]
 by_cases e8:x.op=8
 ·rw [if_pos e8]
  have u:Ap p x=(2,1):=by unfold Ap;rw[if_neg (by omega),if_neg (by omega),if_neg (by omega),if_neg (by omega),if_neg (by omega),if_neg (by omega)]
  rw[u]at ht
  simp only at ht
  by_cases hn:Bd w s.objs (Dn s.stk.dropLast) x.a<0
  ·rw[if_pos hn]
   exact⟨ac,.inr (.inr (.inr rfl)),(nomatch ·),(nomatch ·),(nomatch ·),fun h=>by simp[FK]at h⟩
  ·rw[if_neg hn]
   unfold Bd at hn
   split at hn
   ·rename_i h3
    obtain⟨o1,o2⟩:=Fa ac (aZ (by omega)) h3
    obtain⟨q1,q2,q3⟩:=(BB.1 ac).2 _ o1
    refine CH hI h0 (by omega) (by omega) rfl ?_ ?_ (C7 ?_ ?_) ?_ (Jf ac q1 ?_ ?_)
    ·unfold toC;rw[u,List.length_append];simp only[List.length_singleton];omega
    ·unfold toC;rw[if_neg (by omega),if_neg (by omega)];exact ai
    ·simp only[setObj,List.length_set];exact aS
    ·simp only[setObj,List.length_set];exact aq (by omega)
    ·simp only[setObj,List.length_set];exact ae
    ·rw[List.length_set];exact q2
    ·refine B5.2 fun v hv=>?_
     rcases List.mem_or_eq_of_mem_set hv with hv|rfl
     ·exact B5.1 q3 v hv
     ·exact aq (by omega)
   ·omega
 rw[if_neg e8]
 rw[if_neg (by omega)]at aa
 by_cases e14:x.op=14
 ·rw[if_pos e14]
  have u:Ap p x=(1,0):=by unfold Ap;rw[if_neg (by omega),if_neg (by omega),if_pos (by omega)]
  rw[u]at ht
  simp only at ht
  refine CH hI h0 (by omega) (by omega) rfl ?_ ?_ ap (C7 ae (aq (by omega))) ac
  ·unfold toC;rw[u];simp only;omega
  ·unfold toC;rw[if_pos e14,List.length_append];simp only[List.length_singleton];omega
 rw[if_neg e14]
 by_cases e15:x.op=15
 ·rw[if_pos e15]
  have bm:=hI.drop e15
  have u:Ap p x=(0,0):=by unfold Ap;rw[if_neg (by omega),if_neg (by omega),if_neg (by omega),if_neg (by omega),if_pos (by omega)]
  refine CH hI h0 (by omega) (by omega) rfl ?_ ?_ ak (Ct ae) ac
  ·unfold toC;rw[u];simp only;omega
  ·unfold toC;rw[if_neg e14,if_pos e15];simp only[List.length_dropLast];omega
 rw[if_neg e15]
 have en0:(toC p x l).env=l.env:=by unfold toC;rw[if_neg e14,if_neg e15]
 by_cases e16:x.op=16
 ·rw[if_pos e16]
  have u:Ap p x=(1,0):=by unfold Ap;rw[if_neg (by omega),if_neg (by omega),if_pos (by omega)]
  rw[u]at ht
  simp only at ht
  refine CH hI h0 (by omega) (by omega) rfl ?_ (by rw[en0];exact ai) ap ae ac
  unfold toC;rw[u];simp only;omega
 rw[if_neg e16]
 by_cases e17:x.op=17
 ·rw[if_pos e17]
  rw[if_pos (by omega)]at aa
  simp only[decide_eq_true_eq]at aa
  have u:Ap p x=(1,0):=by unfold Ap;rw[if_neg (by omega),if_neg (by omega),if_pos (by omega)]
  rw[u]at ht
  simp only at ht
  have est:((s.stk.dropLast.length:Nat):Int)=(toC p x l).st:=by unfold toC;rw[u];simp only;omega
  by_cases hz:AI (Dn s.stk)=0
  ·simp only[if_pos hz]
   refine⟨⟨by simp only;omega,⟨_,(hI.jump (.inl e17)).2.2,est,by rw[en0];exact ai⟩,ap,ae,ac⟩,by first|omega|(simp only;omega)⟩
  ·simp only[if_neg hz]
   exact CH hI h0 (by omega) (by omega) rfl est (by rw[en0];exact ai) ap ae ac
 rw[if_neg e17]
 by_cases e18:x.op=18
 ·rw[if_pos e18]
  rw[if_pos (by omega)]at aa
  simp only[decide_eq_true_eq]at aa
  have u:Ap p x=(0,0):=by unfold Ap;rw[if_neg (by omega),if_neg (by omega),if_neg (by omega),if_neg (by omega),if_pos (by omega)]
  refine⟨⟨by simp only;omega,⟨_,(hI.jump (.inr e18)).2.2,?_,by rw[en0];exact ai⟩,ak,ae,ac⟩,by first|omega|(simp only;omega)⟩
  unfold toC;rw[u];simp only;omega
 rw[if_neg e18]
 rw[if_neg (by omega)]at aa
 by_cases e19:x.op=19
 ·rw[if_pos e19]at aa
  rw[if_pos e19]
  simp only[decide_eq_true_eq]at aa
  have u:Ap p x=(p.gens.getD x.a.toNat 0,1):=by unfold Ap;rw[if_neg (by omega),if_neg (by omega),if_neg (by omega),if_pos e19]
  rw[u]at ht
  simp only at ht
  have a8:=(hI.on (by omega) (by omega)).2
  have aQ:toC p x l=⟨l.st-p.gens.getD x.a.toNat 0+1,l.env⟩:=by unfold toC;rw[u,if_neg e14,if_neg e15]
  have bk:0<=p.gens.getD x.a.toNat 0:=hg _
  refine⟨ac,.inr (.inl rfl),(nomatch ·),(nomatch ·),fun _=>⟨aa.1,aa.2,?_,?_⟩,fun _=>⟨by simp only;omega,⟨toC p x l,?_,?_,?_⟩,?_,ae⟩⟩
  ·show((s.stk.drop (s.stk.length-(p.gens.getD x.a.toNat 0).toNat)).length:Int)=p.gens.getD x.a.toNat 0
   rw[List.length_drop];omega
  ·exact B5.2 fun v hv=>B5.1 ak v (List.mem_of_mem_drop hv)
  ·simp only
   rw[show(s.pos+1).toNat=s.pos.toNat+1 by omega]
   exact a8
  ·rw[aQ];simp only[List.length_take];omega
  ·rw[aQ];exact ai
  ·exact B5.2 fun v hv=>B5.1 ak v (List.mem_of_mem_take hv)
 rw[if_neg e19]at aa
 rw[if_neg e19]
 simp only[decide_eq_true_eq]at aa
 by_cases e20:x.op=20
 ·rw[if_pos e20]
  have u:Ap p x=(0,1):=by unfold Ap;rw[if_pos (by omega)]
  refine⟨ac,.inr (.inr (.inl rfl)),fun _=>g4 (hI.nexts e20),(nomatch ·),(nomatch ·),fun _=>⟨by simp only;omega,⟨_,?_,?_,by rw[en0];exact ai⟩,ak,ae⟩⟩
  ·simp only
   rw[show(s.pos+1).toNat=s.pos.toNat+1 by omega]
   exact(hI.on (by omega) (by omega)).2
  ·unfold toC;rw[u];simp only;omega
 rw[if_neg e20]
 by_cases e21:x.op=21
 ·rw[if_pos e21]
  have:=(hI.fin e21).1
  exact⟨ac,.inl rfl,(nomatch ·),fun _=>aq (by omega),(nomatch ·),fun h=>by simp at h⟩
 rw[if_neg e21]
 have u:Ap p x=(2,1):=by unfold Ap;rw[if_neg (by omega),if_neg (by omega),if_neg (by omega),if_neg (by omega),if_neg (by omega),if_neg (by omega)]
 rw[u]at ht
 simp only at ht
 refine CH hI h0 (by omega) (by omega) rfl ?_ (by rw[en0];exact ai) (C7 aS (Ti _ _ _ _)) ae ac
 unfold toC;rw[u,List.length_append];simp only[List.length_singleton];omega
end
theorem HInv.mono{p:BProg}{w:CWorld}{m:Met}{nx:Bool}{a b:Int}{h:GoH}(hh:HInv p w m nx b h)(aV:a<=b):HInv p w m nx a h:=
 ⟨hh.objs,hh.kind,hh.goes,hh.val,hh.asks,fun hk=>⟨by have:=(hh.frame hk).1;omega,(hh.frame hk).2⟩⟩
section
variable {p:BProg}{w:CWorld}{c:CProg}{m:Met}{nx:Bool}
theorem L3(hg:∀n:Nat,0<=p.gens.getD n 0)(hw:WldOK p w)(hL:LevOK p c m nx): ∀(f g:Nat) (s:GoS),GInv w m s->c.ins.length<=s.pos.toNat+f->c.ins.length<=s.pos.toNat+g->mRun p w c f s=mRun p w c g s
 |0,_,s,hs,hf,_=>by
  obtain⟨l,hl,_⟩:=hs.lev
  have:=hL.dom _ _ hl
  omega
 |_+1,0,s,hs,_,hf=>by
  obtain⟨l,hl,_⟩:=hs.lev
  have:=hL.dom _ _ hl
  omega
 | f+1,g+1,s,hs,hf,bl=>by
  have hk:=Jg hg hw hL hs
  rw[mRun,mRun]
  cases e:I9 p w (AC c s.pos.toNat) { s with pos:=s.pos+1 } with
  |inl t=>
   rw[e]at hk
   have h0:=hs.lo
   exact L3 hg hw hL f g t hk.1 (by have:=hk.2;omega) (by have:=hk.2;omega)
  |inr h=>rfl
end
def FM(lv:List CLev)(N:Int)(pos:Int)(stk env:List MVal):Bool:=
 decide (0<=pos/\pos<lv.length/\(stk.length:Int)=((lv[pos.toNat]?).getD ⟨0,0⟩).st/\(env.length:Int)=((lv[pos.toNat]?).getD ⟨0,0⟩).env)&&(okVs N stk&&okVs N env)
def goC(p:BProg)(w:CWorld)(c:CProg)(objs:List MThing)(pos:Int)(stk env:List MVal):Option GoH:=match Ei p c with
 |none=>none
 |some lv=>if Ba w objs&&FM lv objs.length pos stk env then some (mRun p w c c.ins.length ⟨objs,[],pos,stk,env⟩) else none
theorem Ql{w:CWorld}{lv:List CLev}{objs:List MThing}{evs:List MEv}{pos:Int}{stk env:List MVal}(ho:Ba w objs=true):FM lv objs.length pos stk env=true ↔ GInv w (fun j=>lv[j]?) ⟨objs,evs,pos,stk,env⟩:=by
 unfold FM
 simp only[Bool.and_eq_true,decide_eq_true_eq]
 constructor
 ·rintro⟨⟨h1,h2,h3,h4⟩,h5,h6⟩
  have e:lv[pos.toNat]? = some (lv[pos.toNat]'(by omega)):=List.getElem?_eq_getElem (by omega)
  rw[e]at h3 h4
  exact⟨h1,⟨_,e,h3,h4⟩,h5,h6,ho⟩
 ·rintro⟨h1,⟨l,h2,h3,h4⟩,h5,h6,_⟩
  simp only at h1 h2 h3 h4 h5 h6
  have:=(List.getElem?_eq_some_iff.1 h2).1
  refine⟨⟨h1,by omega,?_,?_⟩,h5,h6⟩
  ·rw[h2];exact h3
  ·rw[h2];exact h4
theorem GInv.sub{w:CWorld}{m m':Met}{s:GoS}(h:GInv w m s)(hm:∀j l,m j=some l->m' j=some l):GInv w m' s:=by
 obtain⟨h1,⟨l,h2,h3⟩,h4,h5,h6⟩:=h
 exact⟨h1,⟨l,hm _ _ h2,h3⟩,h4,h5,h6⟩
end Go.DL
namespace Go.DL
open Go.Proofs.Tryz
open Go Go.Proofs
open Go.Proofs.YteldimffglchkaaGreatDoor.Rows (uptoBulk uptoBulkAll)
def g0(W:Go.World):G:={ imm:=fun b o=>W.cell? ⟨b,o,none⟩,rho:=fun _=>none,hist:=fun _ _=>none,keep:=fun k=>W.heap[k]?, io:=(W.os,W.output) }
abbrev P3 (W : Go.World) : Prop := W.var? prog "internal/strconv.uint64pow10" = some (((List.range 20).map fun i => ((10 ^ i : Nat) : Int)).map fun z => Value.int .u64 z).toArray
theorem tabK0(W:Go.World)(h:P3 W):TabK prog (g0 W):=fun w hk=>.inr ⟨by
 unfold P3 at h
 unfold World.var? at h⊢
 cases hg : prog.globalNamed "internal/strconv.uint64pow10" with
 |none=>rw[hg]at h;cases h
 |some g=>
  rw[hg]at h
  simp only[Option.bind_some]at h⊢
  cases hw:W.heap[g]? with
  |none=>rw[hw]at h;cases h
  |some o=>rw[hw]at h;rw[hk g o hw];exact h,trivial⟩
theorem sim0(W:Go.World)(h:P3 W):Sim prog (g0 W) (fun _=>none) W where
 imm:=fun _ _ _ h=>h
 keep:=fun _ _ h=>h
 obj:=fun _ _ h=>by cases h
 inj:=fun _ _ _ h=>by cases h
 free:=fun _ _ h=>by cases h
 htop:=fun _ _ _ _ h=>by cases h
 hdom:=fun _ _ _ h=>by cases h
 fin:=⟨0,fun _ _=>rfl⟩
 io:=rfl
 tab:=tabK0 W h
theorem Iy{α:Type}{p:Nat->α->Prop}: ∀n,(∀i,i<n->∃a,p i a)->∃l:List α,l.length=n /\ ∀i a,l[i]? = some a->p i a
 |0,_=>⟨[],rfl,fun i a h=>by simp at h⟩
 | n+1,h=>by
  obtain⟨l,hl,hp⟩:=Iy n fun i hi=>h i (by omega)
  obtain⟨a,ha⟩:=h n (by omega)
  refine⟨l++[a],by simp[hl],fun i b hb=>?_⟩
  by_cases hi:i<n
  ·rw[List.getElem?_append_left (by omega)]at hb;exact hp i b hb
  ·rw[List.getElem?_append_right (by omega)]at hb
   have h0:i-l.length=0:=by
    rcases Nat.eq_zero_or_pos (i-l.length)with h|h
    ·exact h
    ·rw[List.getElem?_eq_none (by simp;omega)]at hb;cases hb
   rw[h0]at hb
   simp at hb
   rw[show i=n by omega,<-hb];exact ha
theorem Pu{g:G}{b:Nat}: ∀{ds:List D}{vs:List Value}{o:Nat},RepL g ds vs->(∀j v,vs[j]? = some v->g.imm b (o+j)=some v)->RepI g b o ds
 |[],_,_,_,_=>trivial
 |d::ds,_,o,⟨v,r,e,h1,h2⟩,hi=>by
  subst e
  exact⟨⟨v,hi 0 v rfl,h1⟩,Pu h2 fun j x hx=>by rw[Nat.add_assoc,Nat.add_comm 1 j];exact hi (j+1) x hx⟩
theorem Pv{g:G}{b sz:Nat}: ∀{l:List (List D)}{o:Nat},(∀i e,l[i]? = some e->e.length=sz/\RepI g b (o+i*sz) e)->RepE g b sz o l
 |[],_,_=>trivial
 |e::l,o,h=>⟨by simpa using h 0 e rfl,Pv fun i x hx=>by
  have:=h (i+1) x hx
  rw[Nat.add_mul,Nat.one_mul,Nat.add_comm (i*sz),<-Nat.add_assoc]at this;exact this⟩
theorem Uv{α H:Type}{wt:α->Nat}: ∀{l:List α}{xs:List (DataW H)},l.length=xs.length->(∀(i:Nat) a x,l[i]? = some a->xs[i]? = some x->wt a<=uptoBulk x)->wtL wt l<=uptoBulkAll xs
 |[],[],_,_=>Nat.zero_le _
 |a::l,x::xs,h,hp=>by
  have h1:=hp 0 a x rfl rfl
  have h2:=Uv (l:=l) (xs:=xs) (by simpa using h) fun i b y hb hy=>hp (i+1) b y hb hy
  simp only[wtL,uptoBulkAll];omega
section
variable {H:Type}{enc:TypeId×Value->H}{W:Go.World}
noncomputable abbrev rd(enc:TypeId×Value->H)(W:Go.World)(n t:Nat)(cs:List Value):Option (DataW H×List MemPlace):=DataW.trod enc prog W 0 (fun _=>true) true n t cs
def Dec(enc:TypeId×Value->H)(W:Go.World){α:Type}(n t:Nat)(c:α->List D)(wt:α->Nat):Prop:= ∀cs x,rd enc W n t cs=some x->∃a,RepL (g0 W) (c a) cs/\wt a<=uptoBulk x.1
theorem Ky{t n:Nat}(ht:prog.underlying t=some (.int .i64)):Dec enc W n t (fun k:Int=>[dI k]) (fun _=>1):=fun cs x h=>by
 obtain⟨k,rfl,rfl,_⟩:=DataW.trod_int ht h
 exact⟨k,⟨_,[],rfl,rfl,rfl⟩,by simp[uptoBulk]⟩
theorem dec_str{t n:Nat}(ht:prog.underlying t=some .string):Dec enc W n t (fun s:Str=>[.str s]) (fun s=>1+s.length):=fun cs x h=>by
 obtain⟨s,rfl,rfl,_⟩:=DataW.trod_string ht h
 exact⟨s.data.toList,⟨_,[],rfl,by simp[Rep],rfl⟩,by simp only[uptoBulk];omega⟩
theorem LV{α:Type}{t e sz n:Nat}{c:α->List D}{wt:α->Nat}(ht:prog.underlying t=some (.slice e))(hz:prog.cellsOf e=sz)(aX:0<sz)(hc:∀a,(c a).length=sz)(hd:∀m,m<n->Dec enc W m e c wt):
  Dec enc W n t (fun l:List α=>[sl (l.map c)]) (fun l=>1+wtL wt l):=fun cs x h=>by
 rcases DataW.trod_slice ht h with⟨rfl,rfl⟩|⟨a,len,cap,elems,rest,m,rfl,rfl,rfl,hb,hl,hm,hlen,bb, -, -⟩
 ·exact⟨[],⟨_,[],rfl,⟨Option.none,0,rfl,by simp,.inl rfl,trivial⟩,rfl⟩,by simp[uptoBulk,wtL]⟩
 ·have key:∀i,i<len->∃b:α, ∃y vs,elems[i]? = some y/\W.cells? 0 (a.add (i*sz)) sz=some vs/\RepL (g0 W) (c b) vs/\wt b<=uptoBulk y.1:=fun i hi=>by
   have h1:=bb i hi
   rw[hz,List.getElem?_eq_getElem (by omega)]at h1
   obtain⟨vs,h2,h3⟩:=Option.bind_eq_some_iff.1 h1
   obtain⟨b,h4,h5⟩:=hd m (by omega) vs _ h3
   exact⟨b,_,vs,List.getElem?_eq_getElem (by omega),h2,h4,h5⟩
  obtain⟨l,aK,hp⟩:=Iy len key
  refine⟨l,⟨_,[],rfl,⟨some a,cap,by simp[aK],by simpa[aK] using hl,?_,trivial⟩,rfl⟩,?_⟩
  ·cases aJ:l with
   |nil=>exact .inl rfl
   | cons b0 l' =>
    rw[<-aJ]
    have bj:0<len:=by rw[<-aK,aJ];simp
    obtain⟨y,vs,k1,k2,k3,k4⟩:=hp 0 b0 (by rw[aJ];rfl)
    obtain⟨_,k5,k6⟩:=World.cells?_some k2
    have aR:a.spot=none:=by
     have:=k6 0 (by omega)
     cases hs:a.spot with
     |none=>rfl
     |some q=>simp[World.cell?, Addr.add,hs]at this;split at this<;>simp_all
    obtain⟨ab,ao,asp⟩:=a
    simp only at aR
    subst aR
    refine .inr ⟨sz,ab,ao,rfl,Pv fun i e he=>?_⟩
    rw[List.getElem?_map]at he
    obtain⟨b,aN,rfl⟩:=Option.map_eq_some_iff.1 he
    obtain⟨y,vs,k1,k2,k3,k4⟩:=hp i b aN
    obtain⟨_,k5,k6⟩:=World.cells?_some k2
    refine⟨hc b,Pu k3 fun j v hv=>?_⟩
    have hj:j<sz:=by rw[<-k5];exact(List.getElem?_eq_some_iff.1 hv).1
    have:=k6 j hj
    rw[hv,Bt,Bt]at this
    exact this
  ·have:=Uv (wt:=wt) (l:=l) (xs:=elems.map (·.1)) (by simp;omega) fun i b z aN aD=>by
    obtain⟨y,vs,k1,k2,k3,k4⟩:=hp i b aN
    rw[List.getElem?_map,k1]at aD
    simp at aD;subst aD;exact k4
   simp only[uptoBulk];omega
set_option maxRecDepth 100000
theorem KZ{t n:Nat}{fs:Array Field}(ht:prog.underlying t=some (.struct fs)){cs:List Value}{x:DataW H×List MemPlace}(h:rd enc W n t cs=some x):
  ∃(xs:List (DataW H×List MemPlace)) (m:Nat),m<n/\uptoBulk x.1=uptoBulkAll (xs.map (·.1))+1/\cs.length=prog.cellsOf t/\xs.length=fs.size /\
   ∀(i:Nat) (f:Field),fs[i]? = some f->rd enc W m f.type ((cs.drop f.offset).take (prog.cellsOf f.type))=xs[i]? :=by
 obtain⟨xs,m,rfl,rfl,h1,h2,h3⟩:=DataW.trod_struct ht h
 exact⟨xs,m,by omega,by simp[uptoBulk],h1,h2,h3⟩
theorem cellsI:prog.cellsOf 3=1:=by kernel_rfl
theorem Uk(n:Nat):Dec enc W n 23 (fun l:List Int=>[sl (cI l)]) (fun l=>1+wtL (fun _=>1) l):=LV underlying23 cellsI (by omega) (fun _=>rfl) fun _ _=>Ky underlying3
theorem Uu{α:Type}: ∀l:List α,wtL (fun _=>1) l=l.length
 |[]=>rfl
 |x::l=>by rw[wtL,Uu l,List.length_cons];omega
theorem PA{m t off k:Nat}{cs cs':List Value}{o:Option (DataW H×List MemPlace)}(h:rd enc W m t ((cs.drop off).take (prog.cellsOf t))=o)(hk:prog.cellsOf t=k)(hc:(cs.drop off).take k=cs'):rd enc W m t cs'=o:=by rw[<-hc,<-hk];exact h
end
end Go.DL
namespace Go.DL
open Go.Proofs.Tryz
open Go Go.Proofs Go.ChangeShapes Go.WideShapes Go.ChangeAt Go.RowKit
open Go.Proofs.YteldimffglchkaaGreatDoor
open Go.Proofs.YteldimffglchkaaGreatDoor.Rows (uptoBulk uptoBulkAll)
set_option maxRecDepth 100000
theorem own:ownKnob prog.godebug=none:=by kernel_rfl
theorem Qa{N:Nat}{us:List D}(h:E5 prog N us (fun _=>none) fun x _=>x=.ret (.bool true))(W:Go.World)(hP:P3 W){vs:List Value}(hr:RepL (g0 W) us vs):
  Calls prog N vs.toArray W fun e W'=>e=.returned (.bool true)/\(∀(k:Nat) (o:Obj),W.heap[k]? = some o->W'.heap[k]? = some o)/\W'.os=W.os/\W'.output=W.output:=by
 refine CallsIn.calls (F:=FX prog { wide:=true }) (n:=0) ((h.run (g0 W) W vs _ rfl (sim0 W hP) hr).mono ?_) fun k=>FD _ _ _
 rintro e W' ⟨g',x,U',ar,hs,hE,rfl⟩
 obtain⟨v,rfl,rfl⟩:=hE
 have aL:=hs.io.trans ar.io
 simp only[g0,Prod.mk.injEq]at aL
 exact⟨rfl,fun k o hk=>hs.keep k o (ar.keep k o hk),aL.1,aL.2⟩
theorem laidOut:laidOutB prog=true:=by kernel_rfl
section
variable {H:Type}{enc:TypeId×Value->H}{W W':Go.World}
theorem FQ{sp:Nat->Bool}: ∀{ts:List TypeId}{vs:List Value}{ds:List (DataW H)}{ps:List MemPlace},(∀t∈ts,prog.readableRec t=true/\t<prog.types.size)->DataW.TrodAll enc prog W 0 (fun _=>true) true ts vs ds ps->(∀p∈ps,W.sameAt W' p)->(∀p∈ps,sp p.block=true)->DataW.TrodAll enc prog W' 0 sp true ts vs ds ps
 |[],vs,ds,ps,_,h,_,_=>by
  obtain⟨rfl,rfl,rfl⟩:=trodAll_nil h
  exact h
 | t::ts,vs,ds,ps,ht,h,h1,h2=>by
  obtain⟨v,vs1,d,ds1,a,b,rfl,rfl,rfl,k1,k2⟩:=trodAll_cons h
  exact⟨a,b,WideElems.Trod_stays laidOut (ht t (by simp)).1 (ht t (by simp)).2 k1 (fun p hp=>h1 p (by simp[hp])) (fun p hp=>h2 p (by simp[hp])),
   FQ (fun t hx=>ht t (by simp[hx])) k2 (fun p hp=>h1 p (by simp[hp])) (fun p hp=>h2 p (by simp[hp])),rfl⟩
theorem same_of{p:MemPlace}(ag:∀(k:Nat) (o:Obj),W.heap[k]? = some o->W'.heap[k]? = some o)(hp:p.block<W.heap.size):W.sameAt W' p:=by
 have hk:∀b,b<W.heap.size->W'.heap[b]? = W.heap[b]? :=fun b hb=>by
  rw[Array.getElem?_eq_getElem hb];exact ag b _ (Array.getElem?_eq_getElem hb)
 cases p with
 |cell b off=>
  show W'.cell? ⟨b,off,none⟩=W.cell? ⟨b,off,none⟩
  unfold World.cell?
  rw[hk b hp]
 |map b=>exact hk b hp
theorem kept_of{may:MemPlace->Prop}(ag:∀(k:Nat) (o:Obj),W.heap[k]? = some o->W'.heap[k]? = some o)(ay:W'.os=W.os)(am:W'.output=W.output):W.keptBut W' may:=by
 refine⟨ay,am,fun i hi=>?_⟩
 have h:=Array.getElem?_eq_getElem hi
 rw[h,ag i _ h]
 cases W.heap[i]<;>simp
theorem Tw{f:Func}{s:ChangeSpec}{args:Array Value}{ds gs:List (DataW H)}{before:List MemPlace}(hv:s.vars=[])(aF:f.resultTypes=#[4])(aW:∀t∈f.params.toList,prog.readableRec t=true/\t<prog.types.size)
  (hW:DataW.Whole enc prog f.params.toList s.vars false W args.toList ds gs before) (aA:s.fn H (ds++gs)={ results:=[.lit (.bool true)],args:=ds })
  (ag:∀(k:Nat) (o:Obj),W.heap[k]? = some o->W'.heap[k]? = some o) (ay:W'.os=W.os) (am:W'.output=W.output):s.post enc prog f false true false false W args (.bool true) W':=by
 have aC:=hW.lt
 have aP:=hW
 obtain⟨p,q,hA,hV,rfl,ba,aY⟩:=hW
 rw[hv]at hV
 obtain⟨rfl,rfl⟩:=trodVars_none hV
 have ax:∀x∈p,W.sameAt W' x:=fun x hx=>same_of ag (by simpa using aC x (by simp[hx]))
 refine⟨ds,[],p++[],[],p,[],aP,?_,?_,?_,kept_of ag ay am,fun h=>by cases h⟩
 ·rw[aF,aA]
  exact trodAll_cons_mk (shut_bool underlying4 _) trodAll_mk0
 ·rw[aA]
  exact FQ aW hA ax fun x hx=>by simpa using aC x (by simp[hx])
 ·rw[aA,hv]
  rfl
end
abbrev laids : List (String × DataW Unit) := [("math/bits.deBruijn32tab", Rows.laid_math_bits_deBruijn32tab), ("math/bits.deBruijn64tab", Rows.laid_math_bits_deBruijn64tab), ("internal/strconv.uint64pow10", Rows.laid_internal_strconv_uint64pow10)]
theorem gPow : prog.globalNamed "internal/strconv.uint64pow10" = some 1 := by kernel_rfl
theorem gPowT:(prog.globals[1]?).map (·.type)=some 389:=by kernel_rfl
theorem Up:prog.cellsOf 389=20:=by kernel_rfl
theorem Uq:prog.cellsOf 338=1:=by kernel_rfl
theorem laidF : laids.filter (fun x => x.1 == "internal/strconv.uint64pow10") = [("internal/strconv.uint64pow10", Lib.tabData .u64 ((List.range 20).map fun i => ((10 ^ i : Nat) : Int)))] := by kernel_rfl
theorem Tc{W:Go.World}(h:laidMetH prog laids W):P3 W:=by
 have h2 := h.filter (fun x => x.1 == "internal/strconv.uint64pow10")
 rw[laidF]at h2
 exact Lib.tabIs_of_head (rest:=[]) gPow gPowT underlying389 underlying338 Uq Up h2
def SV:DataW Unit->Array Value
 |.agg xs=>(xs.map fun x=>match x with
  |.lit (.int k z)=>Value.int k z
  |_=>Value.int .i64 0).toArray
 |_=> #[]
def Pi(x:DataW Unit):Obj->Obj
 |.cells _ t frozen=>.cells (SV x) t frozen
 |o=>o
noncomputable def Ic(os:Os):Go.World:=
 {Go.World.holding prog os ⟨#[], #[],[]⟩with heap:=(((Go.World.holding prog os ⟨#[], #[],[]⟩).heap.modify 6 (Pi Rows.laid_math_bits_deBruijn32tab)).modify 7 (Pi Rows.laid_math_bits_deBruijn64tab)).modify 1 (Pi Rows.laid_internal_strconv_uint64pow10) }
theorem noGo:prog.funcs.any Func.goes=false:=by kernel_rfl
theorem goes_no(c:OpenClaim)(hs:c.start=.entering):false=c.goesBy Tryz.pinned.checked.prog:=by
 have key:∀f,prog.goes f=false:=fun f=>by
  unfold Program.goes
  rw[noGo,Bool.and_false,Bool.or_false,List.any_eq_false]
  intro g _
  cases hg:prog.funcs[g]? with
  |none=>simp
  |some fn=>
   have:=Array.any_eq_false.1 noGo g (Array.getElem?_eq_some_iff.1 hg).1
   rw[(Array.getElem?_eq_some_iff.1 hg).2]at this
   simpa using this
 show false=prog.goesAt c.start c.func
 unfold Program.goesAt Program.goesFrom
 rw[hs]
 cases h:prog.funcNamed c.func with
 |none=>rfl
 |some f=>simp[key f]
end Go.DL
namespace Go.DL
open Go.Proofs.Tryz
open Go Go.Proofs
set_option maxHeartbeats 8000000
def cIns(x:CIns):List D:=[dI x.op,dI x.a]
@[simp] theorem cIns_len(x:CIns):(cIns x).length=2:=rfl
@[simp] theorem cIns_flat(x:CIns):Bw (cIns x)=true:=rfl
abbrev cLev(l:CLev):List D:=[dI l.st,dI l.env]
theorem UM:EqTy prog 87:=⟨by kernel_rfl,by kernel_rfl,by kernel_rfl⟩
theorem Se:EqTy prog 79:=⟨by kernel_rfl,by kernel_rfl,by kernel_rfl⟩
theorem UC:(tab 87).k=.struct [(0,85),(1,3)]:=rfl
theorem Qb:(tab 79).k=.struct [(0,3),(1,3)]:=rfl
theorem eqIns(a b:CIns):eqFs tab (cIns a) (cIns b) [(0,85),(1,3)]=some (decide (a=b)):=by
 cases a;cases b
 simp[cIns,CIns.mk.injEq,Bool.decide_and]
theorem eqLev(a b:CLev):eqFs tab (cLev a) (cLev b) [(0,3),(1,3)]=some (decide (a=b)):=by
 cases a;cases b
 simp[cLev,CLev.mk.injEq,Bool.decide_and]
theorem TT(op:Int)(O:Sig):DCall prog 72 [dI op] O (rS (.bool (hasA op)) O):=by
 refine en func72 ntmps72 ?_
 repeat' first|refine gz ?_|apply gy<;>intro hh
 any_goals (first|(refine fin1 (U':=O) ?_;exact⟨by first|rfl|(simp[Go.DL.hasA];done)|(simp_all [Go.DL.hasA];done)|(rw[Ah,Bool.eq_iff_iff];simp_all [Go.DL.hasA]<;>omega),rfl⟩)|fail)
@[reducible,instance] def a72:=fun op O=>ah0 (@TT op O)
theorem TP(op:Int)(O:Sig):DCall prog 82 [dI op] O (rS (.bool (hasA op)) O):=by
 refine en func82 ntmps82 ?_
 repeat' first|refine gz ?_|apply gy<;>intro hh
 any_goals (first|(refine fin1 (U':=O) ?_;exact⟨by first|rfl|(simp[Go.DL.hasA];done)|(simp_all [Go.DL.hasA];done)|(rw[Ah,Bool.eq_iff_iff];simp_all [Go.DL.hasA]<;>omega),rfl⟩)|fail)
@[reducible,instance] def a82:=fun op O=>ah0 (@TP op O)
theorem EW(n:Int)(O:Sig):DCall prog 150 [dI n] O (rS (.bool (!farN n)) O):=by
 refine en func150 ntmps150 ?_
 repeat' first|refine gz ?_|apply gy<;>intro hh
 any_goals (first|(refine fin1 (U':=O) ?_;exact⟨by first|rfl|(simp[farN];done)|(simp_all [farN];done)|(rw[Ah,Bool.eq_iff_iff];simp_all [farN]<;>omega),rfl⟩)|fail)
@[reducible,instance] def a150:=fun n O=>ah0 (@EW n O)
theorem Rz(n:Int)(O:Sig):DCall prog 156 [dI n] O (rS (.bool (inB n)) O):=by
 refine en func156 ntmps156 ?_
 repeat' first|refine gz ?_|apply gy<;>intro hh
 any_goals (first|(refine fin1 (U':=O) ?_;exact⟨by first|rfl|(simp[inB];done)|(simp_all [inB];done)|(rw[Ah,Bool.eq_iff_iff];simp_all [inB]<;>omega),rfl⟩)|fail)
@[reducible,instance] def a156:=fun n O=>ah0 (@Rz n O)
def unfC:D:=.iface 245 (.agg [])
theorem TQ(b:Bool)(O:Sig):DCall prog 78 [.bool b] O fun x U'=>x=(if b then .ret (.tup []) else .panic unfC)/\U'=O:=by
 refine en func78 ntmps78 ?_
 cases b
 ·refine gz ?_
  refine pan ?_
  exact finP (U':=O) ⟨rfl,rfl⟩
 ·refine gz ?_
  exact DZ (U':=O) ⟨rfl,rfl⟩
@[reducible,instance] def a78:=fun b O=>gh0 (@TQ b O)
theorem H9{P:Program}{F:Fence}{n:Nat}{Q:Exit->Act->List Frame->Go.World->Prop}{a:Act}{cs cs':List Frame}{w:Go.World}{id t4 ty1:Nat}{p1:String}{a1:Array Edge}{rest:Code}{v:Value}
  (aH:recoverD cs=some (v,cs')\/(recoverD cs=none/\v=.nilIface/\cs'=cs)) (aE:t4<a.tmps.size)
  (h:rest.wpSIn F n P Q (a.put (some t4) v) cs' w) :
  (Code.seq (.region id #[⟨some t4,.call { callee:=.builtin .recover,args:= #[],argTypes:= #[] },ty1,p1,a1,none⟩] false) rest).wpSIn F n P Q a cs w:=by
 refine wpSIn_seq (wpSIn_region ?_)
 have hr:List.range (#[(⟨some t4,.call { callee:=.builtin .recover,args:= #[],argTypes:= #[] },ty1,p1,a1,none⟩:Oper)]:Array Oper).size=[0]:=rfl
 rw[hr]
 exact He (o:=⟨some t4,.call { callee:=.builtin .recover,args:= #[],argTypes:= #[] },ty1,p1,a1,none⟩) rfl rfl (fun f h=>by cases h) rfl aH h
theorem LW{P:Program}{f:Nat}{fn:Func}{id t4 ty1:Nat}{p1:String}{a1:Array Edge}{rest:Code}{args:List D}{O U':Sig}{pan:Option D}{m:Nat}
  (hf:P.funcs[f]? = some fn) (hb:fn.body=some (Code.seq (.region id #[⟨some t4,.call { callee:=.builtin .recover,args:= #[],argTypes:= #[] },ty1,p1,a1,none⟩] false) rest))
  (hm:fn.ntmps=m) (hn:args.length<=m) (aE:t4<m) (aG:fn.results=#[])
  (h:DWp P .none m rest (fun x s=>(x=.normal\/x=.ret)/\s.df=[]/\Sub U' s.O) ⟨(t4,pan.getD .niliface)::Bv 0 args,O,[]⟩):KF P f args O pan U':=by
 intro g w vs u hs ha hu
 subst hm
 have aC:f<P.funcs.size:=(Array.getElem?_eq_some_iff.1 hf).1
 refine callsDIn_of_wpSIn hf hb (Fq aC _) fun c₀ cs hc=>?_
 have hT:=DQ ha hn
 have aI:∀(d:D) (v:Value),Rep g d v->RepT g ((t4,d)::Bv 0 args) fn.ntmps (({ tmps:=vs.toArray++Array.replicate (fn.ntmps-vs.toArray.size) undef,defers:=[] }:Act).put (some t4) v).tmps:=by
  intro d v hv
  exact RepT.put (o := ⟨some t4, .move (.tmp 0), 0, "", #[], none⟩) (a := { tmps := vs.toArray ++ Array.replicate (fn.ntmps - vs.toArray.size) undef, defers := [] }) hT hv (by simp [Ar, aE])
 have hsz:t4<(vs.toArray++Array.replicate (fn.ntmps-vs.toArray.size) undef).size:=by rw[hT.1];exact aE
 have fin:∀(d:D) (v:Value) (u':FrameMode) (cs':List Frame),pan.getD .niliface=d->Rep g d v->settle u'=.returning->cs'={ c₀ with mode:=u' }::cs->
   rest.wpSIn (FX P {}) 0 P (bodyPostS P fn c₀ cs fun e u' w'=>(∃v,e=.returned v)/\settle u'=.returning /\ ∃g',g.le g'/\Sim P g' U' w')
    (({ tmps:=vs.toArray++Array.replicate (fn.ntmps-vs.toArray.size) undef,defers:=[] }:Act).put (some t4) v) cs' w:=by
  intro d v u' cs' hd hv aw aT
  refine wpSIn_of_wpIn rfl ?_
  subst hd
  refine wpIn_mono (h g w _ {} rfl ⟨hs,aI _ v hv,rfl⟩) ?_
  rintro e a w' ⟨g',s',x,l1,l2,l3,hx,bc,au⟩
  have hd:a.defers=[]:=DS l2.df bc
  have hr:(results fn a.tmps).run P w'=.ok (.tuple #[]) w':=by simp[results,aG]
  rcases hx with rfl|rfl
  ·obtain rfl:=l3
   exact⟨hd,u',aT,_,hr,⟨_,rfl⟩,aw,g',l1,l2.sim.sub au⟩
  ·obtain rfl:=l3
   exact⟨hd,u',aT,_,hr,⟨_,rfl⟩,aw,g',l1,l2.sim.sub au⟩
 cases pan with
 |none=>
  have hu:u=.returning:=hu
  subst hu
  refine H9 (v:=.nilIface) (cs':=c₀::cs) (.inr ⟨?_,rfl,rfl⟩) hsz (fin .niliface .nilIface .returning _ rfl rfl rfl ?_)
  ·simp[recoverD,hc]
  ·rw[<-hc]
 |some d=>
  obtain⟨v,rfl,hv⟩:=hu
  refine H9 (v:=v) (cs':={ c₀ with mode:=.panicking [{ v,recovered:=true }] }::cs) (.inl ?_) hsz (fin d v (.panicking [{ v,recovered:=true }]) _ rfl hv rfl rfl)
  simp[recoverD,hc]
theorem LE(i:Nat)(b:Bool)(O:Sig)(hi:O i=some (.cells [.bool b])):KF prog 160 [.ptr i 0] O none O/\KF prog 160 [.ptr i 0] O (some unfC) (O.set i (.cells [.bool false])):=by
 constructor
 ·refine LW func160 rfl ntmps160 (by simp) (by decide) rfl ?_
  simp only[Option.getD_none]
  repeat' first|refine gz ?_|apply gy<;>intro hh
  exact⟨.inl rfl,rfl,Sub.refl _⟩
 ·refine LW func160 rfl ntmps160 (by simp) (by decide) rfl ?_
  simp only[Option.getD_some]
  repeat' first|refine gf hi ?_|apply gy<;>intro hh
  exact⟨.inl rfl,rfl,Sub.refl _⟩
theorem Ny(g:Nat)(cap:List D)(O:Sig)(R:Sig->DE->Sig->Prop)
  (hg:∀i,O i=none->DCall prog g cap (O.set i (.cells [.bool false])) (R (O.set i (.cells [.bool false]))))
  (hR:∀U' d S'',R U' (.panic d) S''->d=unfC) (hk:∀i S'' x,O i=none->R (O.set i (.cells [.bool false])) x S''->S'' i=some (.cells [.bool false])) :
  DCall prog 76 [.func (.func g) [] cap] O fun x U'=> ∃i S'',O i=none/\U'=S''.del i /\
   ((∃d,R (O.set i (.cells [.bool false])) (.ret d) S''/\x=.ret (.bool true))\/(R (O.set i (.cells [.bool false])) (.panic unfC) S''/\x=.ret (.bool false))):=by
 refine GB (fd:=160) func76 rfl (BC func160 (by rfl) (by rfl)) (by rw[Ai];decide) (by decide) ntmps76 (by simp) ?_
 refine gz ?_ [] [2]
 refine newV (fun i hi=>?_)
 refine gz ?_ [] [2]
 refine JE (f:=160) (by rw[Ai];decide) rfl rfl ?_
 refine gz ?_ [] [2]
 refine A4 (hg i hi) (fun d U' hr=>?_) (fun d U' hp=>?_)
 ·have aM:=hk i U' _ hi hr
  refine gf aM ?_ [] [2]
  refine⟨_,Wk.refl _ _ _,[.ptr i 0],U'.set i (.cells [.bool true]),.bool true,rfl,(LE i true _ (w6 ..)).1,Dd (ds:=[.bool true]) Ac ?_,.ret (.bool true),U'.del i,A8 _,K2,i,U',hi,rfl,.inl ⟨d,hr,rfl⟩⟩
  simp[resL]
 ·have aM:=hk i U' _ hi hp
  obtain rfl:=hR _ _ _ hp
  refine gz ?_ [] [2]
  refine⟨_,Wk.refl _ _ _,[.ptr i 0],U'.set i (.cells [.bool false]),.bool false,rfl,(LE i false _ aM).2,Dd (ds:=[.bool false]) Ac ?_,.ret (.bool false),U'.del i,A8 _,K2,i,U',hi,rfl,.inr ⟨hp,rfl⟩⟩
  simp[resL]
abbrev cCPg(c:CProg):List D:=[sl (c.ins.map cIns),sl (cI c.starts),dI c.main]
def cChk(p:BProg)(c:CProg)(im:Nat):D:=.cptr (cCPg c++Aj p++[.map im]) 0
theorem Rt(p:BProg)(c:CProg)(im:Nat)(x:CIns)(O:Sig)(hp:p.wt<=1073741824)(hx:x.op=19->0<=x.a/\x.a<p.gens.length):DCall prog 171 [cChk p c im,.agg (cIns x)] O (rS (.tup [dI (Ap p x).1,dI (Ap p x).2]) O):=by
 obtain⟨p1,p2,p3,p4,p5,p6,p7⟩:=p.wt_le
 by_cases aB:x.op=19
 ·obtain⟨h1,h2⟩:=hx aB
  have e:p.gens.getD x.a.toNat 0=p.gens[x.a.toNat]'(by omega):=by rw[List.getD_eq_getElem?_getD,List.getElem?_eq_getElem (by omega)];rfl
  refine en func171 ntmps171 ?_
  repeat' first|refine gf aB ?_ o171|apply gy<;>intro hh
  any_goals (first|(refine fin2 (U':=O) ?_;exact⟨by first|rfl|(simp[Ap,aB,e];done)|(simp_all [Ap,aB,e];done)|(rw[Ah,Bool.eq_iff_iff];simp_all [Ap,aB,e]<;>omega),rfl⟩)|fail)
 ·refine en func171 ntmps171 ?_
  repeat' first|refine gz ?_ o171|apply gy<;>intro hh
  any_goals (first|(refine fin2 (U':=O) ?_;exact⟨by first|rfl|(simp[Ap];done)|(simp_all [Ap];done)|(rw[Ah,Bool.eq_iff_iff];simp_all [Ap]<;>omega),rfl⟩)|fail)
theorem TG{p:BProg}{N q:Nat}{x:CIns}(h:x.op<1\/21<x.op):fitsQ p N q x=false:=by
 unfold fitsQ;rw[if_neg (by omega),if_neg (by omega),if_neg (by omega),if_neg (by omega),if_neg (by omega),if_neg (by omega),decide_eq_false (by omega)]
theorem TL(p:BProg)(c:CProg)(im:Nat)(q:Nat)(x:CIns)(O:Sig)(hp:p.wt<=1073741824)(hc:c.ins.length<=300)(hq:q<300)(hs : -1000<=p.slots/\p.slots<=1000):DCall prog 99 [cChk p c im,dI q,.agg (cIns x)] O fun r U'=>r=(if fitsQ p c.ins.length q x then .ret (.tup []) else .panic unfC)/\U'=O:=by
 obtain⟨p1,p2,p3,p4,p5,p6,p7⟩:=p.wt_le
 refine en func99 ntmps99 ?_
 repeat' first|((refine finP (U':=O) ⟨?_,rfl⟩;have e:fitsQ p c.ins.length q x=false:=(by first|(simp_all [fitsQ,inB]<;>omega)|exact TG (by omega));rw[e];rfl))|refine gz ?_ o99|apply gy<;>intro hh
 any_goals (first|(refine DZ (U':=O) ⟨?_,rfl⟩;have e:fitsQ p c.ins.length q x=true:=(by simp_all [fitsQ,inB]<;>omega);rw[e];rfl)|fail)
@[reducible,instance] def a99:=fun p c im q x O=>gh4 (@TL p c im q x O)
end Go.DL
namespace Go.DL
open Go.Proofs.Tryz
open Go Go.Proofs Go.ChangeShapes Go.WideShapes Go.ChangeAt Go.RowKit
open Go.Proofs.YteldimffglchkaaGreatDoor
open Go.Proofs.YteldimffglchkaaGreatDoor.Rows (uptoBulk uptoBulkAll)
set_option maxRecDepth 100000
section
variable {H:Type}{enc:TypeId×Value->H}{W:Go.World}{base:Nat}
theorem Ul(n:Nat):Dec enc W n 87 cIns (fun _=>1):=fun cs x h=>by
 obtain⟨xs,m,hm,hb,hl,hx,hf⟩:=KZ underlying87 h
 rw[show prog.cellsOf 87=2 by kernel_rfl]at hl
 match cs,hl with
 | [v0,v1],_ =>
  match xs,hx with
  |[x0,x1],_=>
   obtain⟨a0,r0,w0⟩:=Ky underlying85 [v0] x0 (PA (hf 0 _ rfl) (show prog.cellsOf 85=1 by kernel_rfl) rfl)
   obtain⟨a1,r1,w1⟩:=Ky underlying3 [v1] x1 (PA (hf 1 _ rfl) cellsI rfl)
   refine⟨⟨a0,a1⟩,r0.append r1,?_⟩
   rw[hb];simp only[uptoBulkAll,List.map_cons,List.map_nil];omega
def CProg.wt(c:CProg):Nat:=c.ins.length+c.starts.length
theorem Ss(n:Nat):Dec enc W n 30 cCPg CProg.wt:=fun cs x h=>by
 obtain⟨xs,m,hm,hb,hl,hx,hf⟩:=KZ underlying30 h
 rw[show prog.cellsOf 30=3 by kernel_rfl]at hl
 match cs,hl with
 | [v0,v1,v2],_ =>
  match xs,hx with
  |[x0,x1,x2],_=>
   obtain⟨a0,r0,w0⟩:=LV underlying28 (by kernel_rfl:prog.cellsOf 87=2) (by omega) (fun _=>rfl) (fun _ _=>Ul _) [v0] x0 (PA (hf 0 _ rfl) (show prog.cellsOf 28=1 by kernel_rfl) rfl)
   obtain⟨a1,r1,w1⟩:=Uk _ [v1] x1 (PA (hf 1 _ rfl) (show prog.cellsOf 23=1 by kernel_rfl) rfl)
   obtain⟨a2,r2,w2⟩:=Ky underlying3 [v2] x2 (PA (hf 2 _ rfl) cellsI rfl)
   refine⟨⟨a0,a1,a2⟩,r0.append (r1.append r2),?_⟩
   rw[hb];clear hf hx hl;simp only[Uu]at*; simp only[CProg.wt,uptoBulkAll,List.map_cons,List.map_nil];omega
theorem Py{v:Value}{d:DataW H}{ps:List MemPlace}(ah:Value.okWide prog W .any base 30 v)(h:DataW.Trod enc prog W 0 (fun _=>true) true 30 v d ps): ∃c:CProg,Rep (g0 W) (.agg (cCPg c)) v/\c.wt<=Rows.uptoBulk d:=by
 obtain⟨cs,rfl,_⟩:=okWide_struct underlying30 ah
 obtain⟨n,hn⟩:=h
 obtain⟨c,h1,h2⟩:=Ss n _ _ hn
 exact⟨c,⟨cs.toList,by simp,h1⟩,h2⟩
theorem Oe:prog.readableRec 30=true:=by kernel_rfl
theorem KK:30<prog.types.size:=of_decide_eq_true (by kernel_rfl)
end
section
variable {H:Type}{enc:TypeId×Value->H}{W:Go.World}{base:Nat}
theorem Tb{v:Value}{d:DataW H}{ps:List MemPlace}(h:DataW.Trod enc prog W 0 (fun _=>true) true 9 v d ps)(ah:Value.okWide prog W .any base 9 v): ∃s:Str,Rep (g0 W) (.str s) v/\s.length<=uptoBulk d:=by
 obtain⟨b,rfl⟩:=okWide_string underlying9 ah
 obtain⟨n,hn⟩:=h
 obtain⟨l,h1,h2⟩:=dec_str (n:=n) underlying9 _ _ hn
 obtain⟨v,r,e,h3,h4⟩:=h1
 cases e
 exact⟨l,h3,by simp only at h2;omega⟩
theorem Px:prog.readableRec 9=true:=by kernel_rfl
theorem Mh:9<prog.types.size:=of_decide_eq_true (by kernel_rfl)
theorem law2s{N:Nat}{f:Func}(hf:f.params=#[30,9])(aF:f.resultTypes=#[4])(hN:∀(c:CProg) (s:Str),c.wt<=1048576->s.length<=1048576->E5 prog N [.agg (cCPg c),.str s] (fun _=>none) fun x _=>x=.ret (.bool true))
  {s:ChangeSpec} (hv:s.vars=[]) (aA:∀d e,s.fn H [d,e]={ results:=[.lit (.bool true)],args:=[d,e] }) {args:Array Value}{ds gs:List (DataW H)}{before:List MemPlace}
  (ah:∀(j:Nat) t v,f.params[j]? = some t->args[j]? = some v->Value.okWide prog W .any base t v)
  (hW:DataW.Whole enc prog f.params.toList s.vars false W args.toList ds gs before) (hk:Rows.uptoSmall H (ds++gs)=true) (hP:P3 W) :
  Calls prog N args W fun e W'=> ∃v,e=.returned v/\s.post enc prog f false true false false W args v W':=by
 have aP:=hW
 obtain⟨p,q,hA,hV,rfl,ba,aY⟩:=hW
 rw[hv]at hV
 obtain⟨rfl,rfl⟩:=trodVars_none hV
 rw[hf]at hA ah
 obtain⟨v0,vs0,d0,ds0,p0,q0,aU,rfl,rfl,h0,r0⟩:=trodAll_cons hA
 obtain⟨v1,vs1,d1,ds1,p1,q1,aO,rfl,rfl,h1,r1⟩:=trodAll_cons r0
 obtain⟨rfl,rfl,rfl⟩:=trodAll_nil r1
 obtain rfl:args=#[v0,v1]:=by cases args;simp_all
 have hb:Rows.uptoBulk d0+(Rows.uptoBulk d1+0)<=1048576:=of_decide_eq_true hk
 obtain⟨c,hc,bp⟩:=Py (ah 0 30 v0 rfl rfl) h0
 obtain⟨t,ht,bh⟩:=Tb h1 (ah 1 9 v1 rfl rfl)
 refine(Qa (hN c t (by omega) (by omega)) W hP (vs:=[v0,v1]) ⟨v0,[v1],rfl,hc,v1,[],rfl,ht,rfl⟩).mono fun e W' ⟨he,ag,ay,am⟩=>?_
 refine⟨_,he,Tw hv aF (fun t ht=>?_) aP (aA d0 d1) ag ay am⟩
 rw[hf]at ht
 have ht:t=30\/t=9:=by simpa using ht
 rcases ht with rfl|rfl
 ·exact⟨Oe,KK⟩
 ·exact⟨Px,Mh⟩
end
end Go.DL
namespace Go.DL
open Go.Proofs.Tryz
open Go Go.Proofs
set_option maxHeartbeats 8000000
theorem Lw(l:List CIns)(q:CIns->Bool)(g:Nat)(cap:List D)(o:Own)(O:Sig)(hl:l.length<=1073741824)(hg:∀x∈l,DCall prog g ([]++[.agg (cIns x)]++cap) O fun r S''=>r=.ret (.bool (q x))/\S''=O):DCall prog 231 [.slice (l.map cIns) o,.func (.func g) [] cap] O (rS (dI (idxF q l 0)) O):=by
 refine en func231 ntmps231 ?_
 refine gz ?_
 refine Cx [0,1,7] (fun (k:Nat)=>k<=l.length/\idxF q l 0=idxF q (l.drop k) k) (fun k=>[(8,dI k)]) (fun _=>O) (fun k=>l.length-k) (0) (by simp) (fun k hI=>?_)
 obtain⟨hk,hR⟩:=hI
 by_cases h:k<l.length
 ·rw[Ab h,idxF]at hR
  repeat' first|refine C9 (hg (l[k]) (List.getElem_mem h)) ?_|refine callP (hg (l[k]) (List.getElem_mem h)) ?_|refine gz ?_|apply gy<;>intro hh
  ·rw[hh]at hR
   exact fe1 hR
  ·rw[hh]at hR
   exact⟨k+1,⟨by omega,hR⟩,td1,wkR⟩
 ·rw[Af h,idxF]at hR
  refine gz ?_
  exact fe1 hR
theorem LH(l:List CIns)(q:CIns->Bool)(g:Nat)(cap:List D)(o:Own)(O:Sig)(hl:l.length<=1073741824)(hg:∀x∈l,DCall prog g ([]++[.agg (cIns x)]++cap) O fun r S''=>r=.ret (.bool (q x))/\S''=O):DCall prog 152 [.slice (l.map cIns) o,.func (.func g) [] cap] O (rS (.bool (l.any q)) O):=by
 refine en func152 ntmps152 ?_
 repeat' first|refine gz ?_|refine C9 (Lw l q g cap o O hl hg) ?_|refine callP (Lw l q g cap o O hl hg) ?_|refine gz ?_|apply gy<;>intro hh
 rw[<-D4 q l 0]
 exact fe1 trivial
theorem LF(x:CIns)(O:Sig):DCall prog 154 [.agg (cIns x)] O (rS (.bool (Cq x)) O):=by
 refine en func154 ntmps154 ?_
 repeat' first|refine gz ?_|apply gy<;>intro hh
 rotate_left 2
 ·have hn:¬x.op=1:=fun e=>by rw[e]at hh;cases hh
  refine eqlS _ (decide (x=⟨x.op,0⟩)) UM UC (eqIns x ⟨x.op,0⟩) ?_
  have he:decide (x=⟨x.op,0⟩)=decide (x.a=0):=by rcases x with⟨o,a⟩;simp
  refine gz ?_
  refine fin1 (U':=O) ⟨?_,rfl⟩
  rw[he];unfold Cq;rw[hh];simp;omega
 all_goals
  refine fin1 (U':=O) ⟨?_,rfl⟩
  rw[Ah,Bool.eq_iff_iff]
  unfold Cq inB farN
  simp_all<;>omega
theorem LG(x:CIns)(O:Sig):DCall prog 153 [.agg (cIns x)] O (rS (.bool (!Cq x)) O):=by
 refine en func153 ntmps153 ?_
 repeat' first|refine gz ?_|refine C9 (LF x O) ?_|refine callP (LF x O) ?_|refine gz ?_|apply gy<;>intro hh
 exact fe1 trivial
theorem NB(c:CProg)(O:Sig)(h1:c.ins.length<=1073741824)(h2:c.starts.length<=1073741824):DCall prog 70 [.agg (cCPg c)] O (rS (.bool (AM c)) O):=by
 refine en func70 ntmps70 ?_
 by_cases c1:c.ins.length<=300
 rotate_left
 ·refine gz ?_
  refine skipV ?_
  refine gz ?_
  refine fin1 (U':=O) ?_
  refine⟨?_,rfl⟩
  rw[Ah,Bool.eq_iff_iff]
  unfold AM
  simp[c1]
 by_cases c2:c.starts.length<=16
 rotate_left
 ·refine gz ?_
  refine skipV ?_
  refine gz ?_
  refine fin1 (U':=O) ?_
  refine⟨?_,rfl⟩
  rw[Ah,Bool.eq_iff_iff]
  unfold AM
  simp[c2]
 repeat' first|refine CU (EW c.main) ?_|refine callPG (EW c.main) ?_|refine CU (LI c.starts (fun n=> !farN n) 150 [] .no O h2 (fun n _=>EW n O)) ?_|refine callPG (LI c.starts (fun n=> !farN n) 150 [] .no O h2 (fun n _=>EW n O)) ?_|refine CU (LH c.ins (fun x=> !Cq x) 153 [] .no O h1 (fun x _=>LG x O)) ?_|refine callPG (LH c.ins (fun x=> !Cq x) 153 [] .no O h1 (fun x _=>LG x O)) ?_|refine gz ?_|apply gy<;>intro hh
 all_goals
  refine fin1 (U':=O) ?_
  refine⟨?_,rfl⟩
  rw[Ah,Bool.eq_iff_iff]
  unfold AM
  rw[decide_eq_true c1,decide_eq_true c2]
  simp_all
 ·obtain⟨x,h1,h2⟩:=hh
  intro h3
  rw[h3 x h1]at h2;cases h2
@[reducible,instance] def a70:=fun c O=>ah2 (@NB c O)
theorem TO(O:Sig):DCall prog 85 [] O (rS (.slice (cS wordsC) .clip) O):=by
 refine en func85 ntmps85 ?_
 refine gz ?_
 exact fe1 trivial
@[reducible,instance] def a85:=fun O=>ah0 (@TO O)
end Go.DL
