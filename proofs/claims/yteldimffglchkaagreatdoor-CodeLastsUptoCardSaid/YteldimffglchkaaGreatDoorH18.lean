/- A part of the proof. -/
import Derived.Test.YteldimffglchkaaGreatDoorH17
import Derived.Test.YteldimffglchkaaGreatDoorH15
import Derived.Test.YteldimffglchkaaGreatDoorH08
import Derived.Test.YteldimffglchkaaGreatDoorH14
set_option linter.all false
namespace Go.DL
open Go.Proofs.Tryz
open Go Go.Proofs
section
variable {p:BProg}{w:CWorld}{c:CProg}{m:Met}{nx:Bool}
theorem CX{N:Nat}{x:CIns}{l:CLev}{env:Int}{next:Bool}{s t:GoS}(hI:InsOK p N s.pos.toNat x l m env next)(h0:0<=s.pos)(bQ:x.op≠21)(bR:x.op≠18)
  (hp:t.pos=s.pos+1) (h1:(t.stk.length:Int)=(toC p x l).st) (h2:(t.env.length:Int)=(toC p x l).env) (h3:okVs t.objs.length t.stk=true) (h4:okVs t.objs.length t.env=true) (h5:Bh w t.objs=true):GInv w m t/\s.pos<t.pos:=by
 refine⟨⟨by omega,⟨_,?_,h1,h2⟩,h3,h4,h5⟩,by omega⟩
 rw[hp,show(s.pos+1).toNat=s.pos.toNat+1 by omega]
 exact(hI.on bQ bR).2
theorem Kb(hg:∀n:Nat,0<=p.gens.getD n 0)(hw:WldOK p w)(hL:LevOK p c m nx){s:GoS}(hs:GInv w m s):match IX p w (AC c s.pos.toNat) { s with pos:=s.pos+1 } with
  |.inl t=>GInv w m t/\s.pos<t.pos
  |.inr h=>HInv p w m nx s.pos h:=by
 obtain⟨h0,⟨l,hl,aw,ag⟩,aj,ae,ac⟩:=hs
 obtain⟨env,next,hI,g1,g2,g3,g4⟩:=hL.ok _ _ hl
 have hk:s.pos.toNat<c.ins.length:=hL.dom _ _ hl
 have hx:c.ins[s.pos.toNat]? = some (AC c s.pos.toNat):=by unfold AC;rw[List.getElem?_eq_getElem hk];rfl
 have aa:=hL.fits _ _ hx
 generalize AC c s.pos.toNat=x at hI hx aa
 have ht:=hI.take
 have bM:s.stk.dropLast.length=s.stk.length-1:=List.length_dropLast
 have ar:=CK aj
 have bA:=CK ar
 have b6:s.stk.dropLast.dropLast.length=s.stk.length-1-1:=by rw[List.length_dropLast,bM]
 have ai:1<=s.stk.length->okV s.objs.length (DS s.stk)=true:=EJ aj
 have aP:2<=s.stk.length->okV s.objs.length (DS s.stk.dropLast)=true:=fun h=>EJ ar (by omega)
 unfold fitsC at aa
 unfold IX
 simp only
 by_cases e1:x.op=1
 ·rw[if_pos e1]at aa
  rw[if_pos e1]
  have u:Ah p x=(0,1):=by unfold Ah;rw[if_pos (by omega)]
  refine CX hI h0 (by omega) (by omega) rfl ?_ ?_ (Cs aj ?_) ae ac
  ·unfold toC;rw[u,List.length_append];simp only[List.length_singleton];omega
  ·unfold toC;rw[if_neg (by omega),if_neg (by omega)];exact ag
  ·unfold inB at aa
   unfold okV vInt
   simp only[if_true,Bool.and_eq_true,decide_eq_true_eq]at aa⊢
   omega
 rw[if_neg e1]at aa
 rw[if_neg e1]
 by_cases e2:x.op=2
 ·rw[if_pos e2]
  have u:Ah p x=(0,1):=by unfold Ah;rw[if_pos (by omega)]
  refine CX hI h0 (by omega) (by omega) rfl ?_ ?_ (Cs aj ?_) ae ac
  ·unfold toC;rw[u,List.length_append];simp only[List.length_singleton];omega
  ·unfold toC;rw[if_neg (by omega),if_neg (by omega)];exact ag
  ·simp[okV,EB]
 rw[if_neg e2]
 by_cases e3:x.op=3
 ·rw[if_pos e3]at aa
  rw[if_pos e3]
  have hn:=hI.name e3
  simp only[decide_eq_true_eq]at aa
  have u:Ah p x=(0,1):=by unfold Ah;rw[if_pos (by omega)]
  refine CX hI h0 (by omega) (by omega) rfl ?_ ?_ (Cs aj ?_) ae ac
  ·unfold toC;rw[u,List.length_append];simp only[List.length_singleton];omega
  ·unfold toC;rw[if_neg (by omega),if_neg (by omega)];exact ag
  ·simp only
   rw[List.getElem?_eq_getElem (by omega)]
   exact Ba.1 ae _ (List.getElem_mem _)
 rw[if_neg e3]at aa
 rw[if_neg e3]
 by_cases e4:x.op=4
 ·rw [if_pos (by omega)] at aa
  rw[if_pos e4]
  simp only[decide_eq_true_eq]at aa
  have ah:=hw.own x.a aa.1 aa.2
  have u:Ah p x=(0,1):=by unfold Ah;rw[if_pos (by omega)]
  by_cases hn:40<=s.objs.length
  ·rw[if_pos hn]
   exact⟨ac,.inr (.inr (.inr rfl)),(nomatch ·),(nomatch ·),(nomatch ·),fun h=>by simp[Gz]at h⟩
  ·rw[if_neg hn]
   have be:((s.objs.length:Nat):Int)<=((s.objs++[(⟨x.a,w.fresh x.a⟩:MThing)]).length:Nat):=by rw[List.length_append];simp only[List.length_singleton];omega
   refine CX hI h0 (by omega) (by omega) rfl ?_ ?_ (Cs (Fh aj be) ?_) (Fh ae be) ?_
   ·unfold toC;rw[u,List.length_append];simp only[List.length_singleton];omega
   ·unfold toC;rw[if_neg (by omega),if_neg (by omega)];exact ag
   ·simp only[okV,vObj,List.length_append,List.length_singleton];simp;omega
   ·rw[BL]at ac⊢
    refine⟨by rw[List.length_append];simp only[List.length_singleton];omega,fun o ho=>?_⟩
    rcases List.mem_append.1 ho with ho|ho
    ·exact⟨(ac.2 o ho).1,(ac.2 o ho).2.1,Fh (ac.2 o ho).2.2 be⟩
    ·rw[List.mem_singleton]at ho;rw[ho]
     exact⟨ah,hw.len _ ah,Fh (hw.ok _ ah) (by omega)⟩
 rw[if_neg e4]
 by_cases e5:x.op=5
 ·rw [if_pos e5]
  have u:Ah p x=(1,1):=by unfold Ah;rw[if_neg (by omega),if_pos (by omega)]
  rw[u]at ht
  simp only at ht
  by_cases hn:Bk w s.objs (DS s.stk) x.a<0
  ·rw[if_pos hn]
   exact⟨ac,.inr (.inr (.inr rfl)),(nomatch ·),(nomatch ·),(nomatch ·),fun h=>by simp[Gz]at h⟩
  ·rw[if_neg hn]
   refine CX hI h0 (by omega) (by omega) rfl ?_ ?_ (Cs ar ?_) ae ac
   ·unfold toC;rw[u,List.length_append];simp only[List.length_singleton];omega
   ·unfold toC;rw[if_neg (by omega),if_neg (by omega)];exact ag
   ·unfold Bk at hn⊢
    split at hn
    ·rename_i h3
     rw[if_pos h3]
     obtain⟨o1,o2⟩:=FP ac (ai (by omega)) h3
     have:=HJ (s:=x.a) (w.slots (D4 s.objs (DS s.stk).n).cls) 0 (by omega)
     obtain⟨q1,q2,q3⟩:=(BL.1 ac).2 _ o1
     rw[List.getElem?_eq_getElem (by omega)]
     exact Ba.1 q3 _ (List.getElem_mem _)
    ·omega
 rw[if_neg e5]
 by_cases e6:x.op=6
 ·rw[if_pos (by omega)]at aa
  rw[if_pos e6]
  simp only[decide_eq_true_eq]at aa
  have ah:=hw.own x.a aa.1 aa.2
  have u:Ah p x=(1,1):=by unfold Ah;rw[if_neg (by omega),if_pos (by omega)]
  rw[u]at ht
  simp only at ht
  by_cases h3:(DS s.stk).kind=3
  ·rw[if_pos h3]
   have hsz:(setObj s.objs (DS s.stk).n (CF w (D4 s.objs (DS s.stk).n) x.a)).length=s.objs.length:=List.length_set
   obtain⟨o1,o2⟩:=FP ac (ai (by omega)) h3
   obtain⟨q1,q2,q3⟩:=(BL.1 ac).2 _ o1
   obtain⟨t1,t2⟩:=turn_ok hw (Int.natCast_nonneg s.objs.length) ah q1 q2 q3
   refine CX hI h0 (by omega) (by omega) rfl ?_ ?_ (Cs ?_ ?_) ?_ (Ka ac ah t1 t2)
   ·unfold toC;rw[u,List.length_append];simp only[List.length_singleton];omega
   ·unfold toC;rw[if_neg (by omega),if_neg (by omega)];exact ag
   ·simp only[hsz];exact ar
   ·simp only[hsz];exact ai (by omega)
   ·simp only[hsz];exact ae
  ·rw[if_neg h3]
   exact⟨ac,.inr (.inr (.inr rfl)),(nomatch ·),(nomatch ·),(nomatch ·),fun h=>by simp[Gz]at h⟩
 rw[if_neg (by omega)]at aa
 rw[if_neg e6]
 by_cases e7:x.op=7
 ·rw[if_pos e7]
  have u:Ah p x=(1,1):=by unfold Ah;rw[if_neg (by omega),if_pos (by omega)]
  rw[u]at ht
  simp only at ht
  refine CX hI h0 (by omega) (by omega) rfl ?_ ?_ (Cs ar (ai (by omega))) ae ac
  ·unfold toC;rw[u,List.length_append];simp only[List.length_singleton];omega
  ·unfold toC;rw[if_neg (by omega),if_neg (by omega)];exact ag
 rw[if_neg e7]
 by_cases e8:x.op=8
 ·rw [if_pos e8]
  have u:Ah p x=(2,1):=by unfold Ah;rw[if_neg (by omega),if_neg (by omega),if_neg (by omega),if_neg (by omega),if_neg (by omega),if_neg (by omega)]
  rw[u]at ht
  simp only at ht
  by_cases hn:Bk w s.objs (DS s.stk.dropLast) x.a<0
  ·rw[if_pos hn]
   exact⟨ac,.inr (.inr (.inr rfl)),(nomatch ·),(nomatch ·),(nomatch ·),fun h=>by simp[Gz]at h⟩
  ·rw[if_neg hn]
   unfold Bk at hn
   split at hn
   ·rename_i h3
    obtain⟨o1,o2⟩:=FP ac (aP (by omega)) h3
    obtain⟨q1,q2,q3⟩:=(BL.1 ac).2 _ o1
    refine CX hI h0 (by omega) (by omega) rfl ?_ ?_ (Cs ?_ ?_) ?_ (Ka ac q1 ?_ ?_)
    ·unfold toC;rw[u,List.length_append];simp only[List.length_singleton];omega
    ·unfold toC;rw[if_neg (by omega),if_neg (by omega)];exact ag
    ·simp only[setObj,List.length_set];exact bA
    ·simp only[setObj,List.length_set];exact ai (by omega)
    ·simp only[setObj,List.length_set];exact ae
    ·rw[List.length_set];exact q2
    ·refine Ba.2 fun v hv=>?_
     rcases List.mem_or_eq_of_mem_set hv with hv|rfl
     ·exact Ba.1 q3 v hv
     ·exact ai (by omega)
   ·omega
 rw[if_neg e8]
 rw[if_neg (by omega)]at aa
 by_cases e14:x.op=14
 ·rw[if_pos e14]
  have u:Ah p x=(1,0):=by unfold Ah;rw[if_neg (by omega),if_neg (by omega),if_pos (by omega)]
  rw[u]at ht
  simp only at ht
  refine CX hI h0 (by omega) (by omega) rfl ?_ ?_ ar (Cs ae (ai (by omega))) ac
  ·unfold toC;rw[u];simp only;omega
  ·unfold toC;rw[if_pos e14,List.length_append];simp only[List.length_singleton];omega
 rw[if_neg e14]
 by_cases e15:x.op=15
 ·rw[if_pos e15]
  have bZ:=hI.drop e15
  have u:Ah p x=(0,0):=by unfold Ah;rw[if_neg (by omega),if_neg (by omega),if_neg (by omega),if_neg (by omega),if_pos (by omega)]
  refine CX hI h0 (by omega) (by omega) rfl ?_ ?_ aj (CK ae) ac
  ·unfold toC;rw[u];simp only;omega
  ·unfold toC;rw[if_neg e14,if_pos e15];simp only[List.length_dropLast];omega
 rw[if_neg e15]
 have en0:(toC p x l).env=l.env:=by unfold toC;rw[if_neg e14,if_neg e15]
 by_cases e16:x.op=16
 ·rw[if_pos e16]
  have u:Ah p x=(1,0):=by unfold Ah;rw[if_neg (by omega),if_neg (by omega),if_pos (by omega)]
  rw[u]at ht
  simp only at ht
  refine CX hI h0 (by omega) (by omega) rfl ?_ (by rw[en0];exact ag) ar ae ac
  unfold toC;rw[u];simp only;omega
 rw[if_neg e16]
 by_cases e17:x.op=17
 ·rw[if_pos e17]
  rw[if_pos (by omega)]at aa
  simp only[decide_eq_true_eq]at aa
  have u:Ah p x=(1,0):=by unfold Ah;rw[if_neg (by omega),if_neg (by omega),if_pos (by omega)]
  rw[u]at ht
  simp only at ht
  have est:((s.stk.dropLast.length:Nat):Int)=(toC p x l).st:=by unfold toC;rw[u];simp only;omega
  by_cases hz:AJ (DS s.stk)=0
  ·simp only[if_pos hz]
   refine⟨⟨by simp only;omega,⟨_,(hI.jump (.inl e17)).2.2,est,by rw[en0];exact ag⟩,ar,ae,ac⟩,by first|omega|(simp only;omega)⟩
  ·simp only[if_neg hz]
   exact CX hI h0 (by omega) (by omega) rfl est (by rw[en0];exact ag) ar ae ac
 rw[if_neg e17]
 by_cases e18:x.op=18
 ·rw[if_pos e18]
  rw[if_pos (by omega)]at aa
  simp only[decide_eq_true_eq]at aa
  have u:Ah p x=(0,0):=by unfold Ah;rw[if_neg (by omega),if_neg (by omega),if_neg (by omega),if_neg (by omega),if_pos (by omega)]
  refine⟨⟨by simp only;omega,⟨_,(hI.jump (.inr e18)).2.2,?_,by rw[en0];exact ag⟩,aj,ae,ac⟩,by first|omega|(simp only;omega)⟩
  unfold toC;rw[u];simp only;omega
 rw[if_neg e18]
 rw[if_neg (by omega)]at aa
 by_cases e19:x.op=19
 ·rw[if_pos e19]at aa
  rw[if_pos e19]
  simp only[decide_eq_true_eq]at aa
  have u:Ah p x=(p.gens.getD x.a.toNat 0,1):=by unfold Ah;rw[if_neg (by omega),if_neg (by omega),if_neg (by omega),if_pos e19]
  rw[u]at ht
  simp only at ht
  have bu:=(hI.on (by omega) (by omega)).2
  have bq:toC p x l=⟨l.st-p.gens.getD x.a.toNat 0+1,l.env⟩:=by unfold toC;rw[u,if_neg e14,if_neg e15]
  have bX:0<=p.gens.getD x.a.toNat 0:=hg _
  refine⟨ac,.inr (.inl rfl),(nomatch ·),(nomatch ·),fun _=>⟨aa.1,aa.2,?_,?_⟩,fun _=>⟨by simp only;omega,⟨toC p x l,?_,?_,?_⟩,?_,ae⟩⟩
  ·show((s.stk.drop (s.stk.length-(p.gens.getD x.a.toNat 0).toNat)).length:Int)=p.gens.getD x.a.toNat 0
   rw[List.length_drop];omega
  ·exact Ba.2 fun v hv=>Ba.1 aj v (List.mem_of_mem_drop hv)
  ·simp only
   rw[show(s.pos+1).toNat=s.pos.toNat+1 by omega]
   exact bu
  ·rw[bq];simp only[List.length_take];omega
  ·rw[bq];exact ag
  ·exact Ba.2 fun v hv=>Ba.1 aj v (List.mem_of_mem_take hv)
 rw[if_neg e19]at aa
 rw[if_neg e19]
 simp only[decide_eq_true_eq]at aa
 by_cases e20:x.op=20
 ·rw[if_pos e20]
  have u:Ah p x=(0,1):=by unfold Ah;rw[if_pos (by omega)]
  refine⟨ac,.inr (.inr (.inl rfl)),fun _=>g4 (hI.nexts e20),(nomatch ·),(nomatch ·),fun _=>⟨by simp only;omega,⟨_,?_,?_,by rw[en0];exact ag⟩,aj,ae⟩⟩
  ·simp only
   rw[show(s.pos+1).toNat=s.pos.toNat+1 by omega]
   exact(hI.on (by omega) (by omega)).2
  ·unfold toC;rw[u];simp only;omega
 rw[if_neg e20]
 by_cases e21:x.op=21
 ·rw[if_pos e21]
  have:=(hI.fin e21).1
  exact⟨ac,.inl rfl,(nomatch ·),fun _=>ai (by omega),(nomatch ·),fun h=>by simp at h⟩
 rw[if_neg e21]
 have u:Ah p x=(2,1):=by unfold Ah;rw[if_neg (by omega),if_neg (by omega),if_neg (by omega),if_neg (by omega),if_neg (by omega),if_neg (by omega)]
 rw[u]at ht
 simp only at ht
 refine CX hI h0 (by omega) (by omega) rfl ?_ (by rw[en0];exact ag) (Cs bA (Ug _ _ _ _)) ae ac
 unfold toC;rw[u,List.length_append];simp only[List.length_singleton];omega
end
theorem HInv.mono{p:BProg}{w:CWorld}{m:Met}{nx:Bool}{a b:Int}{h:GoH}(hh:HInv p w m nx b h)(b7:a<=b):HInv p w m nx a h:=
 ⟨hh.objs,hh.kind,hh.goes,hh.val,hh.asks,fun hk=>⟨by have:=(hh.frame hk).1;omega,(hh.frame hk).2⟩⟩
section
variable {p:BProg}{w:CWorld}{c:CProg}{m:Met}{nx:Bool}
theorem M5(hg:∀n:Nat,0<=p.gens.getD n 0)(hw:WldOK p w)(hL:LevOK p c m nx): ∀(f g:Nat) (s:GoS),GInv w m s->c.ins.length<=s.pos.toNat+f->c.ins.length<=s.pos.toNat+g->mRun p w c f s=mRun p w c g s
 |0,_,s,hs,hf,_=>by
  obtain⟨l,hl,_⟩:=hs.lev
  have:=hL.dom _ _ hl
  omega
 |_+1,0,s,hs,_,hf=>by
  obtain⟨l,hl,_⟩:=hs.lev
  have:=hL.dom _ _ hl
  omega
 | f+1,g+1,s,hs,hf,bY=>by
  have hk:=Kb hg hw hL hs
  rw[mRun,mRun]
  cases e:IX p w (AC c s.pos.toNat) { s with pos:=s.pos+1 } with
  |inl t=>
   rw[e]at hk
   have h0:=hs.lo
   exact M5 hg hw hL f g t hk.1 (by have:=hk.2;omega) (by have:=hk.2;omega)
  |inr h=>rfl
end
def GB(lv:List CLev)(N:Int)(pos:Int)(stk env:List MVal):Bool:=
 decide (0<=pos/\pos<lv.length/\(stk.length:Int)=((lv[pos.toNat]?).getD ⟨0,0⟩).st/\(env.length:Int)=((lv[pos.toNat]?).getD ⟨0,0⟩).env)&&(okVs N stk&&okVs N env)
def goC(p:BProg)(w:CWorld)(c:CProg)(objs:List MThing)(pos:Int)(stk env:List MVal):Option GoH:=match DJ p c with
 |none=>none
 |some lv=>if Bh w objs&&GB lv objs.length pos stk env then some (mRun p w c c.ins.length ⟨objs,[],pos,stk,env⟩) else none
theorem Re{w:CWorld}{lv:List CLev}{objs:List MThing}{evs:List MEv}{pos:Int}{stk env:List MVal}(ho:Bh w objs=true):GB lv objs.length pos stk env=true ↔ GInv w (fun j=>lv[j]?) ⟨objs,evs,pos,stk,env⟩:=by
 unfold GB
 simp only[Bool.and_eq_true,decide_eq_true_eq]
 constructor
 ·rintro⟨⟨h1,h2,h3,h4⟩,h5,h6⟩
  have e:lv[pos.toNat]? = some (lv[pos.toNat]'(by omega)):=List.getElem?_eq_getElem (by omega)
  rw[e]at h3 h4
  exact⟨h1,⟨_,e,h3,h4⟩,h5,h6,ho⟩
 ·rintro⟨h1,⟨l,h2,h3,h4⟩,h5,h6,_⟩
  simp only at h1 h2 h3 h4 h5 h6
  have:=(List.getElem?_eq_some_iff.1 h2).1
  refine⟨⟨h1,by omega,?_,?_⟩,h5,h6⟩
  ·rw[h2];exact h3
  ·rw[h2];exact h4
theorem GInv.sub{w:CWorld}{m m':Met}{s:GoS}(h:GInv w m s)(hm:∀j l,m j=some l->m' j=some l):GInv w m' s:=by
 obtain⟨h1,⟨l,h2,h3⟩,h4,h5,h6⟩:=h
 exact⟨h1,⟨l,hm _ _ h2,h3⟩,h4,h5,h6⟩
end Go.DL
namespace Go.DL
open Go.Proofs.Tryz
open Go Go.Proofs
set_option maxHeartbeats 8000000
theorem Pr{S:Type}(l:List Int)(lb:Nat)(u:D)(Good:Sig->S->Prop)(Bad:Sig->Prop)(touch:Nat->Prop)(step:Int->S->S)(hl:l.length<=1073741824)
  (hy:∀(k:Nat) (hk:k<l.length) O s,Good O s->DYield prog lb [dI k,dI l[k]] O (OutO u (.bool true) Good Bad touch O (some (step l[k] s)))) (O:Sig) (s:S) (hG:Good O s) :
  DCall prog 366 [.yld lb,.cptr [sl (cI l)] 0] O (OutO u (.tup []) Good Bad touch O (some (l.foldr step s))):=by
 refine en func366 ntmps366 ?_
 try refine gz ?_
 refine G4 [0,1] (fun (k:Nat) (s1:S) (S1:Sig)=>k<=l.length/\Good S1 s1/\l.foldr step s=(l.take k).foldr step s1/\(∀j o,O j=some o->¬touch j->S1 j=some o)) (fun k _ _=>[(3,dI ((k:Int)-1))]) (fun _ _ S1=>S1) (fun k _ _=>k) (l.length) (s) (O) (by exact⟨by omega,hG,by simp,fun _ _ h _=>h⟩) (fun k s1 S1 hI=>?_)
 obtain⟨hk,aU,hR,hK⟩:=hI
 cases k with
 |zero=>
  try refine gz ?_
  refine EO (U':=S1) ?_
  exact⟨rfl,by rw[hR];exact aU,hK⟩
 |succ k=>
  have aJ:k<l.length:=by omega
  have e:((k+1:Nat):Int)-1=k:=by omega
  rw[List.take_succ_eq_append_getElem aJ,List.foldr_append]at hR
  try refine gf e ?_
  refine yldW (hy k aJ S1 s1 aU) (fun d U' hr=>?_) (fun d U' hr=>by obtain⟨h,_⟩:=hr.pan;cases h)
  obtain⟨s2,ae,rfl,bn,aT⟩:=hr.ret
  cases ae
  try refine gf e ?_
  exact⟨k,_,U',⟨by omega,bn,hR,fun j o h1 h2=>aT j o (hK j o h1 h2) h2⟩,td1,wkR⟩
theorem RJ(l:List Int)(O:Sig):DCall prog 336 [sl (cI l)] O (rS (.func (.func 366) [] [.cptr [sl (cI l)] 0]) O):=by
 refine en func336 ntmps336 ?_
 try refine gz ?_
 exact fe1 trivial
@[reducible,instance] def a336:=fun l O=>ah0 (@RJ l O)
def E2:List Init->List (Int×Int)->List (Int×Int)
 |[],m=>m
 |x::r,m=>E2 r (putM x.slot x.n m)
def DP(p:BProg)(c:Int)(m:List (Int×Int)):List (Int×Int):=if 3<=c then E2 (((p.classes[(c-3).toNat]?).map (·.inits)).getD []) m else m
def I7(p:BProg)(order:List Int):List (Int×Int):=order.foldr (DP p) []
def beginL(m:List (Int×Int)):List Int->List Init
 |[]=>[]
 |s::r=>if hasM s m then⟨s,getM 0 s m⟩::beginL m r else beginL m r
def Ev(p:BProg)(c:Int):List Init:=beginL (I7 p (linF (p.classes.map (·.parents)) c)) (hasP p c)
theorem H3{p:BProg}: ∀{cs:List BClass}{i:Nat},B4 p i cs=true->∀k,k<cs.length->linE (p.classes.map (·.parents)) (((i+k:Nat):Int)+3)=0
 |c::r,i,h,0,_=>by rw[B4]at h;simp only[Bool.and_eq_true,decide_eq_true_eq]at h;exact h.1.1
 |c::r,i,h,k+1,hk=>by
  rw[B4]at h;simp only[Bool.and_eq_true,decide_eq_true_eq]at h
  have:=H3 h.2 k (by simpa using hk)
  rw[show i+(k+1)=i+1+k by omega];exact this
theorem okP_lin{p:BProg}(h:okP p=true){c:Int}(h1:3<=c)(h2:c<3+p.classes.length):linE (p.classes.map (·.parents)) c=0/\B5 (p.classes.map (·.parents))=true:=by
 have h:=EG h
 unfold Ap at h
 simp only[Bool.and_eq_true,decide_eq_true_eq]at h
 obtain⟨_,h⟩:=h
 split at h
 ·cases h
 ·simp only[Bool.and_eq_true,decide_eq_true_eq]at h
  have:=H3 h.2 (c-3).toNat (by omega)
  rw[show(((0+(c-3).toNat:Nat):Int)+3)=c by omega]at this
  exact⟨this,h.1.2⟩
theorem finMR{P:Program}{n:Nat}{fn:Func}{R:DE->Sig->Prop}{γ:Fr}{O U':Sig}{d d':D}(js:List Nat)(hR:R (.ret d') U')(hZ:Sub U' (dels js O))(hn:js.Nodup:=by simp)(hd:∀j∈js,O j=some .defs:=by simp)(h:resD fn γ=some d:=by exact tdR)(hw:WkD d d'): ∃s',Wk P n ⟨γ,O,js.map .coll⟩ s'/\PW P n fn (Weak R) .ret s':=
 ⟨_,Wk.refl _ _ _,js,rfl,hn,hd,d,Dm h,.ret d',U',hw,hZ,hR⟩
theorem RT(p:BProg)(c:Int)(O:Sig)(hp:p.wt<=1073741824:=by exact sd):DCall prog 290 [.agg (Ae p),dI c] O (rS (.tup [sl ((if ownF p c&&okP p then Ev p c else []).map HO),dI (if ownF p c&&okP p then 0 else 2)]) O):=by
 obtain⟨p1,p2,p3,p4,p5,p6,p7⟩:=p.wt_le
 have aV:∀c∈p.classes,c.parents.length<=1073741824/\c.slots.length<=1073741824/\c.inits.length<=1073741824:=fun c hc=>by
  obtain⟨k,hk,rfl⟩:=List.getElem_of_mem hc
  have:=p5 k hk
  unfold BClass.wt at this;omega
 have bS:∀c∈p.classes,c.parents.length<=1073741824:=fun c hc=>(aV c hc).1
 have bT:∀x∈p.classes.map (·.parents),x.length<=1073741824:=fun x hx=>by obtain⟨c,hc,rfl⟩:=List.mem_map.1 hx;exact(aV c hc).1
 refine EW func290 rfl (by decide) ntmps290 (by simp) ?_
 cases hk:ownF p c&&okP p
 ·try refine gf hk ?_
  refine finMR [] (U':=O) ⟨rfl,rfl⟩ (Sub.refl _) (hw:=?_)
  exact Dd ⟨Al _ (.inl rfl),Ab _,trivial⟩
 ·have ho:3<=c/\c<3+p.classes.length:=by simp only[ownF,Bool.and_eq_true,decide_eq_true_eq]at hk;exact hk.1
  have bF:okP p=true:=by simp only[Bool.and_eq_true]at hk;exact hk.2
  obtain⟨h1,h2⟩:=ho
  obtain⟨aI,ap⟩:=okP_lin bF h1 h2
  have bt:linF (p.classes.map (·.parents)) c=Fq (p.classes.map (·.parents)) c:=by
   unfold linF;rw[if_pos ⟨ap,by omega,by rw[List.length_map];omega⟩]
  have ba:∀y∈linF (p.classes.map (·.parents)) c,0<=y/\y<3+p.classes.length:=fun y hy=>by
   rw[bt]at hy
   obtain⟨x,hx,hy⟩:=Gs hy
   have:=Gr ap _ x hx y hy
   rw[List.length_map]at this;omega
  have bV:(linF (p.classes.map (·.parents)) c).length<=80000000:=by rw[bt];exact CJ ap (Nat.le_refl _) (by omega)
  have bW:=Cz p c
  have ws:=Dj p
  try refine gf (gi hk aI) ?_
  refine newIN (fun im bJ=>?_)
  try refine gf (gi hk aI) ?_
  refine KB (u:=unf) (fun did U' m=>U' im=some (.map (eIN m))/\Keep (· = im) ((O.set im (.map (eIN []))).set did .defs) U') (fun did U'=>False) (· = im) (some (I7 p (linF (p.classes.map (·.parents)) c))) rfl (fun l did hd hl am LO aG=>?_) (fun l did m U' ho hd hl am hG=>?_) (fun did U' ho hd hb=>hb.elim)
  ·refine Pr (linF (p.classes.map (·.parents)) c) l unf _ _ _ (DP p) (by omega) (fun k hk S1 m1 hG=>?_) _ [] ?_
   ·obtain⟨ai,bc,bP⟩:=hG
    refine NF aG ai ?_
    clear aG
    try refine gz ?_
    refine⟨ai,?_⟩
    have hy:=ba _ (List.getElem_mem hk)
    generalize (linF (p.classes.map (·.parents)) c)[k]=y at*
    have ay:l≠im:=fun e=>by rw[e,w6]at hl;cases hl
    have bG:(S1.set l (CQ LO)) im=some (.map (eIN m1)):=by rw[w7 _ _ (Ne.symm ay)];exact bc
    have aq:∀m,(((S1.set l (CQ LO)).set im (.map (eIN m))) l=some (CQ LO))/\((((S1.set l (CQ LO)).set im (.map (eIN m))).set l LO) l=some LO/\(((S1.set l (CQ LO)).set im (.map (eIN m))).set l LO) im=some (.map (eIN m))/\Keep (· = im) ((O.set im (.map (eIN []))).set did .defs) (((S1.set l (CQ LO)).set im (.map (eIN m))).set l LO))/\Keep (· = im) S1 (((S1.set l (CQ LO)).set im (.map (eIN m))).set l LO):=fun m=>by
     have aT:Keep (· = im) S1 (((S1.set l (CQ LO)).set im (.map (eIN m))).set l LO):=fun j o h1 h2=>by
      by_cases hj:j=l
      ·rw[hj]at h1⊢; rw[w6,<-h1,ai]
      ·rw[w7 _ _ hj,w7 _ _ h2,w7 _ _ hj];exact h1
     exact⟨by rw[w7 _ _ ay,w6],⟨w6 .., by rw[w7 _ _ (Ne.symm ay),w6],bP.trans aT⟩,aT⟩
    rw[<-Sig.set_self _ bG]
    by_cases bB:3<=y
    ·obtain⟨q,rfl⟩:∃q:Nat,y=3+(q:Int):=⟨(y-3).toNat,by omega⟩
     have hq:q<p.classes.length:=by omega
     have aw:DP p (3+q) m1=E2 (p.classes[q]).inits m1:=by
      unfold DP;rw[if_pos (by omega),show(3+(q:Int)-3).toNat=q by omega,List.getElem?_eq_getElem hq];rfl
     rw[aw]
     have bI:=(aV _ (List.getElem_mem hq)).2.2
     generalize bj:(p.classes[q]).inits=ins' at*
     have bE:3+(q:Int)-3=q:=by omega
     try refine gf (gi bE bj) ?_
     refine BT [1,2,4,5,8,13,15,16,17,45,46,57,58,59,60,61,62,63,64,65,66,67,68,69,70,71,72,73,74,75,76,77,78,79,80] (fun (j:Nat) (m:List (Int×Int))=>j<=ins'.length/\E2 ins' m1=E2 (ins'.drop j) m) (fun j _=>[(47,dI j)]) (fun _ m=>(S1.set l (CQ LO)).set im (.map (eIN m))) (fun j _=>ins'.length-j) (0) (m1) (by simp) (fun j m hI=>?_)
     obtain⟨hj,hJ⟩:=hI
     by_cases bw:j<ins'.length
     ·rw[A4 bw,E2]at hJ
      try refine gf bj ?_
      exact⟨j+1,_,⟨by omega,hJ⟩,td1,wkR⟩
     ·rw[Aa bw,E2]at hJ
      try refine gf bj ?_
      rw[hJ]
      exact⟨(aq m).1,rfl,(aq m).2⟩
    ·have aw:DP p y m1=m1:=by unfold DP;rw[if_neg bB]
     rw[aw]
     try refine gz ?_
     exact⟨(aq m1).1,rfl,(aq m1).2⟩
   ·have ay:im≠l:=fun e=>by rw[<-e,w6]at hl;cases hl
    have aS:im≠did:=fun e=>by rw[<-e,w6]at hd;cases hd
    exact⟨w6 .., by rw[w7 _ _ ay,w7 _ _ aS,w6],(Keep.refl _ _).fresh (by rw[w7 _ _ am];exact hl)⟩
  ·cases ho
   have ay:im≠l:=fun e=>by rw[<-e,w6]at hl;cases hl
   have aS:im≠did:=fun e=>by rw[<-e,w6]at hd;cases hd
   have bb:(U'.del l) im=some (.map (eIN (I7 p (linF (p.classes.map (·.parents)) c)))):=by simp only[Sig.del,ay,if_false];exact hG.1
   have bz:(U'.del l) did=some .defs:=by simp only[Sig.del,Ne.symm am,if_false];exact hG.2 did _ (w6 ..) (Ne.symm aS)
   have bl:Ev p c=beginL (I7 p (linF (p.classes.map (·.parents)) c)) (hasP p c):=rfl
   have bK:∀j o,O j=some o->(U'.del l) j=some o/\j≠did:=fun j o h=>by
    have e1:j≠im:=fun e=>by rw[e,bJ]at h;cases h
    have e2:j≠did:=fun e=>by rw[e]at h;rw[w7 _ _ (Ne.symm aS),h]at hd;cases hd
    have e3:j≠l:=fun e=>by rw[e]at h;rw[w7 _ _ (Ne.symm ay),h]at hl;cases hl
    refine⟨?_,e2⟩
    simp only[Sig.del,e3,if_false]
    exact hG.2 j o (by rw[w7 _ _ e2,w7 _ _ e1];exact h) e1
   generalize I7 p (linF (p.classes.map (·.parents)) c)=m at*
   generalize bk:hasP p c=aC at*
   try refine gf bk ?_
   refine EZ 13 2 (fun ix aK=>?_)
   have bp:im≠ix:=fun e=>by rw[<-e,bb]at aK;cases aK
   have bC:did≠ix:=fun e=>by rw[<-e,bz]at aK;cases aK
   refine BT [4,5,8,59,60,79,80] (fun (k:Nat) (out:List Init)=>k<=aC.length/\out.length<=k/\beginL m aC=out++beginL m (aC.drop k)) (fun k out=>[(61,dI k),(13,.slice (out.map HO) (.tag ix))]) (fun _ out=>(U'.del l).set ix (.tail 2 out.length)) (fun k _=>aC.length-k) (0) ([]) (by simp) (fun k out hI=>?_)
   obtain⟨hk,hlen,hR⟩:=hI
   by_cases aJ:k<aC.length
   ·rw[A4 aJ,beginL]at hR
    repeat' first|refine gf (gi bb (gi bp bk)) ?_|apply gy<;>intro hh
    ·rw[hh,if_pos rfl]at hR
     exact⟨k+1,out++[⟨aC[k],getM 0 aC[k] m⟩],⟨by omega,by simp;omega,by rw[hR];simp⟩,td1,wkR⟩
    ·rw[hh,if_neg (by simp)]at hR
     exact⟨k+1,out,⟨by omega,by omega,hR⟩,td1,wkR⟩
   ·rw[Aa aJ,beginL,List.append_nil]at hR
    try refine gf (gi bb (gi bp bk)) ?_
    refine finMR [did] (U':=O) (d':=.tup [sl ((Ev p c).map HO),dI 0]) ⟨by rw[if_pos rfl,if_pos rfl],rfl⟩ (fun j o h=>?_) (hd:=?_) (hw:=?_)
    ·obtain⟨h1,h2⟩:=bK j o h
     simp only[dels,List.foldl_cons,List.foldl_nil,Sig.del,h2,if_false]
     rw[w7 _ _ fun e=>by rw[e,aK]at h1;cases h1]
     exact h1
    ·simp only[List.mem_singleton,forall_eq]
     rw[w7 _ _ bC];exact bz
    ·rw[bl,hR]
     exact Dd ⟨BZ _ _,Ab _,trivial⟩
@[reducible,instance] def a290:=fun p c O=>ah1 (@RT p c O)
def isLD:DObj->Bool
 |.loop .. |.defs=>true
 |_=>false
theorem Mc{LO:DObj}{ps:Array Tmp}{asg body:Code}{n:Nat}{Sl:Fr}{did:Nat}(h:LO=.loop .ready none ps asg body n Sl did):isLD LO=true/\isLD (CQ LO)=true:=by subst h;exact⟨rfl,rfl⟩
def MonoG{S:Type}(G:Sig->S->Prop):Prop:= ∀O U' s,G O s->(∀j x,O j=some x->isLD x=false->U' j=some x)->G U' s
def PV{S:Type}(G:Sig->S->Prop)(S0:Sig):Prop:= ∀l,S0 l=none->∀S1 S2 s,G S1 s->(∃x,S1 l=some x/\isLD x=true)->(∀j,j≠l->S2 j=S1 j)->G S2 s
def Fresh{S:Type}(G:Sig->S->Prop):Prop:= ∀O s a o,G O s->O a=none->G (O.set a o) s
theorem MonoG.indep{S:Type}{G:Sig->S->Prop}(h:MonoG G)(S0:Sig):PV G S0:=fun l _ S1 S2 s hG ⟨x,hx,hl⟩ hj=>h _ _ _ hG fun j y hy hd=>by
 rw[hj j fun e=>by rw[e,hx]at hy;cases hy;rw[hl]at hd;cases hd];exact hy
theorem MonoG.fresh{S:Type}{G:Sig->S->Prop}(h:MonoG G):Fresh G:=fun O s a o hG ha=>h _ _ _ hG fun j y hy _=>by
 rw[w7 _ _ fun e=>by rw[e,ha]at hy;cases hy];exact hy
def GoodG{S:Type}(l:Nat)(LO:DObj)(G:Sig->S->Prop)(touch:Nat->Prop)(base:Sig):Sig->S->Prop:=fun U' s=>U' l=some LO/\G U' s/\Keep touch base U'
theorem GoodG.new{S:Type}{l:Nat}{LO:DObj}{G:Sig->S->Prop}{touch:Nat->Prop}{base O:Sig}{s:S}{a:Nat}{o:DObj}(hm:Fresh G)(h:GoodG l LO G touch base O s)(ha:O a=none):GoodG l LO G touch base (O.set a o) s:=by
 have ne:∀j x,O j=some x->j≠a:=fun j x hj e=>by rw[e,ha]at hj;cases hj
 obtain⟨h1,h2,h3⟩:=h
 exact⟨by rw[w7 _ _ (ne _ _ h1)];exact h1,hm _ _ _ _ h2 ha,fun j x hj ht=>by
  have:=h3 j x hj ht
  rw[w7 _ _ (ne _ _ this)];exact this⟩
theorem GoodG.indep{S:Type}{l:Nat}{LO:DObj}{G:Sig->S->Prop}{touch:Nat->Prop}{base S0:Sig}{s0:S}(h0:GoodG l LO G touch base S0 s0)(hi:PV G S0):PV (GoodG l LO G touch base) S0:=fun k hk S1 S2 s hG hx hj=>by
 have bH:l≠k:=fun e=>by have:=h0.1;rw[e,hk]at this;cases this
 refine⟨by rw[hj l bH];exact hG.1,hi k hk _ _ _ hG.2.1 hx hj,fun j x hb hn=>?_⟩
 rw[hj j fun e=>by have:=h0.2.2 j x hb hn;rw[e,hk]at this;cases this]
 exact hG.2.2 j x hb hn
theorem rangeG{P:Program}{n:Nat}{Q:DX->St->Prop}{γ:Fr}{O:Sig}{df:List DDf}{gop:Operand}{ps:Array Tmp}{asg body:Code}{f:Nat}{first cap:List D}{S:Type}(u:D)(G:Sig->S->Prop)(touch tp:Nat->Prop)(o:Option S)(s0:S)
  (hm:PV G O) (bx:Fresh G) (h0:G O s0) (ht:∀j,touch j->O j≠none) (bD:∀j,tp j->O j≠none) (hf:ev γ gop=.func (.func f) first cap)
  (aM : ∀ l did LO SL,LO=DObj.loop .ready none ps asg body n γ did->O did=none->(O.set did .defs) l=none -> ¬ touch l->SL=(O.set did .defs).set l LO->GoodG l LO G touch (O.set did .defs) SL s0->(∀ a,SL a=none -> ¬ touch a) ->
   DCall P f (first++[.yld l]++cap) SL (OutO u (.tup []) (GoodG l LO G touch (O.set did .defs)) (Keep tp (O.set did .defs)) touch SL o))
  (aW:∀did s U',o=some s->O did=none->U' did=some .defs->G U' s->(∀j x,O j=some x->¬touch j->U' j=some x/\j≠did)->Q .normal ⟨γ,U',.coll did::df⟩)
  (aY:∀did U',o=none->O did=none->U' did=some .defs->(∀j x,O j=some x->¬tp j->U' j=some x/\j≠did)->Q (.panic u) ⟨γ,U',.coll did::df⟩) :
  DWp P .none n (.rangeFunc gop ps asg body) Q ⟨γ,O,df⟩:=by
 have dne:∀{did:Nat},O did=none->∀j x,O j=some x->j≠did:=fun hd j x hj e=>by rw[e,hd]at hj;cases hj
 refine Hj (R:=fun l did=>OutO u (.tup []) (GoodG l (DObj.loop .ready none ps asg body n γ did) G touch (O.set did .defs)) (Keep tp (O.set did .defs)) touch ((O.set did .defs).set l (DObj.loop .ready none ps asg body n γ did)) o) hf (fun l did hd hl am=>?_) (fun l did d U' hd hl am hr=>?_) (fun l did d U' hd hl am hr=>?_)
 ·have aA:(O.set did .defs) l=none:=by first|exact hl|(rw[w7 _ _ am];exact hl)
  have aQ:O l=none:=by rw[w7 _ _ am]at aA;exact aA
  refine aM l did _ _ rfl hd aA (fun h=>ht _ h aQ) rfl ⟨w6 .., bx _ _ _ _ (bx _ _ _ _ h0 hd) aA,fun j x hj hn=>?_⟩ fun a ha h=>ht a h ?_
  ·rw[w7 _ _ fun e=>by rw[e,aA]at hj;cases hj];exact hj
  ·by_cases e1:a=l
   ·rw[e1,w6]at ha;cases ha
   ·rw[w7 _ _ e1]at ha
    by_cases e2:a=did
    ·rw[e2,w6]at ha;cases ha
    ·rw[w7 _ _ e2]at ha;exact ha
 ·have aA:(O.set did .defs) l=none:=by first|exact hl|(rw[w7 _ _ am];exact hl)
  have aQ:O l=none:=by rw[w7 _ _ am]at aA;exact aA
  obtain⟨s,hs,rfl,⟨aP,aU,hK⟩,_⟩:=hr.ret
  have bL:¬touch did:=fun h=>ht _ h hd
  have dl:∀j,j≠l->(U'.del l) j=U' j:=fun j h=>by simp only[Sig.del,h,if_false]
  refine⟨_,_,aP,by simp,aW did s _ hs hd ?_ ?_ fun j x hj hn=>⟨?_,dne hd j x hj⟩⟩
  ·rw[dl _ (Ne.symm am)];exact hK did _ (w6 ..) bL
  ·exact hm l aQ _ _ _ aU ⟨_,aP,rfl⟩ fun j hj=>dl j hj
  ·rw[dl _ (dne aQ j x hj)];exact hK j x (by rw[w7 _ _ (dne hd j x hj)];exact hj) hn
 ·obtain⟨hn,rfl,hb⟩:=hr.pan
  exact aY did U' hn hd (hb did _ (w6 ..) fun h=>bD _ h hd) fun j x hj hn=>⟨hb j x (by rw[w7 _ _ (dne hd j x hj)];exact hj) hn,dne hd j x hj⟩
section
variable {S:Type}{l:Nat}{LO:DObj}{G:Sig->S->Prop}{touch:Nat->Prop}{base S1 S2:Sig}{s s':S}{u:D}{step:Option S}{γ:List (Nat×D)}{df:List DDf}{ps:Array Tmp}{asg body:Code}{n:Nat}{Sl:List (Nat×D)}{did:Nat}{Good:Sig->S->Prop}{Bad:Sig->Prop}
theorem endRN(aw:step=some s')(aG:LO=.loop .ready none ps asg body n Sl did)(hm:PV G base)(hG:GoodG l LO G touch base S1 s)(hl:¬touch l)(aN:base l=none)(bn:G S2 s')(hK:Keep touch (S1.set l (CQ LO)) S2):
  OU l LO (OutO u (.bool true) (GoodG l LO G touch base) Bad touch S1 step) .normal ⟨γ,S2,df⟩:=by
 subst aw
 have h2:S2 l=some (CQ LO):=hK l _ (w6 ..) hl
 have aR:Keep touch S1 (S2.set l LO):=fun j x hj hn=>by
  by_cases e:j=l
  ·rw[e,hG.1]at hj;rw[e,w6];exact hj
  ·rw[w7 _ _ e];exact hK j x (by rw[w7 _ _ e];exact hj) hn
 exact⟨h2,rfl,⟨w6 .., hm l aN _ _ _ bn ⟨_,h2,(Mc aG).2⟩ fun j hj=>w7 _ _ hj,hG.2.2.trans aR⟩,aR⟩
theorem endRP(aw:step=none)(hB:Bad S2):OU l LO (OutO u (.bool true) Good Bad touch S1 step) (.panic u) ⟨γ,S2,[]⟩:=by
 subst aw
 exact⟨rfl,rfl,hB⟩
theorem GoodG.bad{tp:Nat->Prop}(hG:GoodG l LO G touch base S1 s)(aN:base l=none)(ht:∀j,touch j->tp j)(hK:Keep tp (S1.set l (CQ LO)) S2):Keep tp base S2:=fun j x hj hn=>
 hK j x (by rw[w7 _ _ fun e=>by rw[e,aN]at hj;cases hj];exact hG.2.2 j x hj fun h=>hn (ht j h)) hn
theorem OutO.bad{r:D}{Good:Sig->S->Prop}{Bad Bad':Sig->Prop}{O U':Sig}{o:Option S}{x:DE}(h:OutO u r Good Bad touch O o x U')(hb:Bad U'->Bad' U'):OutO u r Good Bad' touch O o x U':=by
 cases o with
 |none=>exact⟨h.1,hb h.2⟩
 |some s=>exact h
theorem GoodG.busy(aG:LO=.loop .ready none ps asg body n Sl did)(hm:PV G base)(aN:base l=none)(hG:GoodG l LO G touch base S1 s):G (S1.set l (CQ LO)) s:=
 hm l aN _ _ _ hG.2.1 ⟨_,hG.1,(Mc aG).1⟩ fun j hj=>w7 _ _ hj
end
theorem finMP{P:Program}{n:Nat}{fn:Func}{R:DE->Sig->Prop}{γ:Fr}{O U':Sig}{d:D}(js:List Nat)(hR:R (.panic d) U')(hZ:Sub U' (dels js O))(hn:js.Nodup:=by simp)(hd:∀j∈js,O j=some .defs:=by simp): ∃s',Wk P n ⟨γ,O,js.map .coll⟩ s'/\PW P n fn (Weak R) (.panic d) s':=
 ⟨_,Wk.refl _ _ _,js,rfl,hn,hd,.panic d,U',Ab _,hZ,hR⟩
section
variable {P:Program}{ro:Ro}{n:Nat}{Q:DX->St->Prop}{df:List DDf}{γ:List (Nat×D)}{O:Sig}
theorem loopD4{Sk:Fr}{α β δ ε:Type}{c:Code}(keep:List Nat)(I:α->β->δ->ε->Prop)(ov:α->β->δ->ε->Fr)(sg:α->β->δ->ε->Sig)(dg:α->β->δ->ε->List DDf)(μ:α->β->δ->ε->Nat)(x0:α)(y0:β)(z0:δ)(u0:ε)(h0:I x0 y0 z0 u0)
  (round:∀x y z u,I x y z u->DWp P ro n c (Then (fun s'=> ∃x' y' z' u',I x' y' z' u'/\μ x' y' z' u'<μ x y z u/\Wk P n s' ⟨ov x' y' z' u'++Sk,sg x' y' z' u',dg x' y' z' u'⟩) Q) ⟨ov x y z u++Sk,sg x y z u,dg x y z u⟩) (hk:DK γ keep=some Sk:=by exact tdR) (h1:TellsR γ (ov x0 y0 z0 u0++Sk):=by(first|refine GK ?_ ?_|skip)<;>(repeat' first|exact GJ|refine FL tdR ?_ ?_|(first|exact Ab _|exact BZ _ _|exact Al _ (.inl rfl)|exact Ez _|(refine Is _ ?_;first|omega|(simp;done)|(simp;omega))|(refine C7 ?_;(simp;done))|(refine C7 ?_;(simp[cI,cS,cII,EY,FI,Hq];done))|(refine DB _ ?_;(simp[cI,cS,cII];done))|(refine C7 ?_;(simp_all;done))|assumption))) (h2:Sub (sg x0 y0 z0 u0) O:=by first|exact Sub.refl _|(refine BU ?_;simp;done)|assumption|exact(Sub.refl _).set (by assumption)) (h3:dg x0 y0 z0 u0=df:=by rfl):DWp P ro n (.loop c) Q ⟨γ,O,df⟩:=by
 subst h3
 refine OH (fun x:{x:α×β×δ×ε // I x.1 x.2.1 x.2.2.1 x.2.2.2}=>⟨ov x.1.1 x.1.2.1 x.1.2.2.1 x.1.2.2.2++Sk,sg x.1.1 x.1.2.1 x.1.2.2.1 x.1.2.2.2,dg x.1.1 x.1.2.1 x.1.2.2.1 x.1.2.2.2⟩) (fun x=>μ x.1.1 x.1.2.1 x.1.2.2.1 x.1.2.2.2) ⟨(x0,y0,z0,u0),h0⟩ (KT h1 h2) fun x=>EU (round x.1.1 x.1.2.1 x.1.2.2.1 x.1.2.2.2 x.2) ?_
 intro e s h
 cases e with
 |normal=>obtain⟨x',y',z',u',h3,h4,h5⟩:=h;exact⟨⟨(x',y',z',u'),h3⟩,h4,h5⟩
 |_=>exact h
end
theorem LA: ∀(js:List Nat) (O:Sig) (j:Nat),j∉js->dels js O j=O j
 |[],_,_,_=>rfl
 |i::r,O,j,h=>by
  simp only[List.mem_cons,not_or]at h
  simp only[dels,List.foldl_cons]
  rw[show List.foldl Sig.del (O.del i) r=dels r (O.del i) from rfl,LA r _ j h.2]
  simp only[Sig.del,h.1,if_false]
def RowAt(O:Sig)(sz:Nat):MR->List (List D)->Prop
 |none,es=>es=[]
 |some (i,cap,rest),es=>O i=some (.cells (es.flatten++rest))/\(es.flatten++rest).length=cap*sz/\es.length<=cap /\ ∀e∈es,e.length=sz
def G1:MR->Nat->Prop
 |none,_=>False
 |some (i,_,_),j=>j=i
theorem RowAt.cells{O:Sig}{sz:Nat}{st:MR}{es:List (List D)}(h:RowAt O sz st es){j:Nat}(hj:G1 st j): ∃cs,O j=some (.cells cs):=by
 cases st with
 |none=>exact hj.elim
 |some x=>cases hj;exact⟨_,h.1⟩
theorem RowAt.keep{O U':Sig}{sz:Nat}{st:MR}{es:List (List D)}(h:RowAt O sz st es)(hk:∀j o,O j=some o->G1 st j->U' j=some o):RowAt U' sz st es:=by
 cases st with
 |none=>exact h
 |some x=>exact⟨hk _ _ h.1 rfl,h.2⟩
theorem RowAt.mS{O:Sig}{sz:Nat}{st:MR}{es:List (List D)}(h:RowAt O sz st es): ∃U',O=mS U' st es/\mOK U' sz st es/\(∀j o,O j=some o->¬G1 st j->U' j=some o) /\ ∀j o,U' j=some o->O j=some o /\ ¬G1 st j:=by
 cases st with
 |none=>exact⟨O,rfl,h,fun j o h _=>h,fun j o h=>⟨h,id⟩⟩
 | some x =>
  obtain⟨i,cap,rest⟩:=x
  obtain⟨h1,h2,h3,h4⟩:=h
  refine⟨O.del i,?_,⟨by simp[Sig.del],h2,h3,h4⟩,fun j o hj hn=>?_,fun j o hj=>?_⟩
  ·funext j
   simp only[DL.mS,Sig.set,Sig.del]
   by_cases e:j=i
   ·subst e;simp[h1]
   ·simp[e]
  ·have:j≠i:=hn
   simp only[Sig.del,this,if_false];exact hj
  ·by_cases e:j=i
   ·simp[Sig.del,e]at hj
   ·simp only[Sig.del,e,if_false]at hj;exact⟨hj,e⟩
theorem Uc{O:Sig}{sz:Nat}{st:MR}{es:List (List D)}(h:mOK O sz st es):RowAt (mS O st es) sz st es:=by
 cases st with
 |none=>exact h
 |some x=>obtain⟨i,cap,rest⟩:=x;exact⟨w6 .., h.2⟩
def RowK(O:Sig)(st:MR)(U':Sig)(st':MR):Prop:= ∀j o,O j=some o->¬G1 st j->U' j=some o /\ ¬G1 st' j
theorem RowK.refl(O:Sig)(st:MR):RowK O st O st:=fun j o h hn=>⟨h,hn⟩
theorem RowK.trans{O S1 S2:Sig}{st st1 st2:MR}(h:RowK O st S1 st1)(k:RowK S1 st1 S2 st2):RowK O st S2 st2:=fun j o hj hn=>k _ _ (h j o hj hn).1 (h j o hj hn).2
theorem rowK_mS{O:Sig}{sz:Nat}{st st':MR}{es es':List (List D)}(h:RowAt O sz st es){S1:Sig}(h1:mOK S1 sz st' es')(hk:∀j o,O j=some o->¬G1 st j->S1 j=some o):RowK O st (mS S1 st' es') st':=fun j o hj hn=>by
 have bi:=hk j o hj hn
 have hr:¬G1 st' j:=by
  cases st' with
  |none=>exact id
  |some x=>
   obtain⟨i,cap,rest⟩:=x
   intro e
   have e:j=i:=e
   rw[e,h1.1]at bi;cases bi
 exact⟨QQ h1 bi,hr⟩
section
variable {ro:Ro}{n:Nat}{ops:Array Oper}{N:Nat}{S0:Sig}{Q:DX->St->Prop}{df:List DDf}{rest:List Oper}{γ Sr:List (Nat×D)}{O:Sig}{t:Nat}{ty:TypeId}{pos:String}{after:Array Edge}{d:D}
theorem rapp{T T' e e' sz:Nat}{s x:Operand}{es new:List (List D)}{st:MR}(h:∀st' U',RowAt U' sz st' (es++new)->RowK O st U' st'->DOps prog ro n ops Q rest ⟨(t,mD st' (es.length+new.length))::γ,U',df⟩)(hm:RowAt O sz st es:=by assumption)
  (hl:A2 γ (A9 [s,x])=some Sr:=by exact tdR) (hk:(tab T).k=.slice e:=by(simp<;>rfl)) (aD:(tab T').k=.slice e':=by(simp<;>rfl)) (he:A1 (tab e).k=false:=by simp) (hsz:(tab e).size=sz:=by simp)
  (h1:ev Sr s=mD st es.length:=by first|with_unfolding_all rfl|(simp[ev,getD,List.lookup];done)) (h2:esOf (ev Sr x)=some new:=by(simp<;>with_unfolding_all rfl))
  (hlen':∀c∈new,c.length=sz:=by first|exact BX _|exact Di _|exact BF _|simp) (aF:∀c∈new,BN c=true:=by simp[cI,cS,cII,BN,D.flat])
  (hb:(es.length+new.length)*(tab e).bytes<=140737488355328:=by first|(simp;done)|(simp;omega)) (hm2:es.length+new.length<=9223372036854775807:=by first|(simp;done)|(simp;omega)) (au:decide (t<n)=true:=by exact tdR) :
  DOps prog ro n ops Q (⟨some t,(cA s x T T'),ty,pos,after,none⟩::rest) ⟨γ,O,df⟩:=by
 obtain⟨e1,e2⟩:=evs hl
 obtain⟨S1,rfl,bc,aR,bu⟩:=hm.mS
 exact MT Af (by simpa using au) hk aD he hsz (by rw[<-e1];exact h1) bc (by rw[<-e2];exact h2) hlen' aF hb hm2 (fun st' h'=>by rw[List.length_append];exact h st' _ (Uc h') (rowK_mS hm h' aR))
end
noncomputable def Sig.out(O:Sig)(touch:Nat->Prop):Sig:=open Classical in fun j=>if touch j then none else O j
theorem CW(O:Sig)(touch:Nat->Prop):Sub (O.out touch) O:=fun j o h=>by
 unfold Sig.out at h;split at h
 ·cases h
 ·exact h
theorem E8{O:Sig}{touch:Nat->Prop}{j:Nat}{o:DObj}(h:(O.out touch) j=some o):O j=some o /\ ¬touch j:=by
 unfold Sig.out at h;split at h
 ·cases h
 ·exact⟨h,by assumption⟩
theorem E3{O:Sig}{touch:Nat->Prop}{j:Nat}{o:DObj}(h:O j=some o)(ht:¬touch j):(O.out touch) j=some o:=by
 unfold Sig.out;rw[if_neg ht];exact h
section
variable {ro:Ro}{n:Nat}{ops:Array Oper}{N:Nat}{S0:Sig}{Q:DX->St->Prop}{df:List DDf}{rest:List Oper}{γ Sr:List (Nat×D)}{O:Sig}{t:Nat}{ty:TypeId}{pos:String}{after:Array Edge}{d:D}
def RWK(O:Sig)(r:RW)(U':Sig)(r':RW):Prop:= ∀j o,O j=some o->¬r.is j->U' j=some o /\ ¬r'.is j
theorem RWK.refl(O:Sig)(r:RW):RWK O r O r:=fun _ _ h k=>⟨h,k⟩
theorem RWK.trans{O S1 S2:Sig}{r r1 r2:RW}(h:RWK O r S1 r1)(k:RWK S1 r1 S2 r2):RWK O r S2 r2:=fun j o hj hn=>k j o (h j o hj hn).1 (h j o hj hn).2
theorem xapp{T T' e e' sz:Nat}{s x:Operand}{es new:List (List D)}{r:RW}(h:∀i c cs U',RWAt U' sz (.row i c cs) (es++new)->RWK O r U' (.row i c cs)->DOps prog ro n ops Q rest ⟨(t,.sref i 0 (es.length+new.length) c)::γ,U',df⟩)(hm:RWAt O sz r es:=by assumption)
  (hl:A2 γ (A9 [s,x])=some Sr:=by exact tdR) (hk:(tab T).k=.slice e:=by(simp<;>rfl)) (aD:(tab T').k=.slice e':=by(simp<;>rfl)) (he:A1 (tab e).k=false:=by simp) (hsz:(tab e).size=sz:=by simp)
  (h1:ev Sr s=r.d es.length:=by first|with_unfolding_all rfl|(simp[ev,getD,List.lookup];done)) (h2:esOf (ev Sr x)=some new:=by(simp<;>with_unfolding_all rfl))
  (hne:new≠[]:=by simp) (hlen':∀c∈new,c.length=sz:=by first|exact BX _|exact Di _|exact BF _|simp) (aF:∀c∈new,BN c=true:=by simp[cI,cS,cII,BN,D.flat])
  (hb:(es.length+new.length)*(tab e).bytes<=140737488355328:=by first|(simp;done)|(simp;omega)) (hm2:es.length+new.length<=9223372036854775807:=by first|(simp;done)|(simp;omega)) (au:decide (t<n)=true:=by exact tdR) :
  DOps prog ro n ops Q (⟨some t,(cA s x T T'),ty,pos,after,none⟩::rest) ⟨γ,O,df⟩:=by
 obtain⟨e1,e2⟩:=evs hl
 exact Es Af (by simpa using au) hk aD he hsz (by rw[<-e1];exact h1) hm (by rw[<-e2];exact HY h2 hlen') hlen' aF hb hm2 fun r' U' h1 h2 h3=>by
  rcases h3 with⟨h3,_⟩|⟨i,c,cs,rfl⟩
  ·exact absurd h3 hne
  ·exact h i c cs U' h1 h2
theorem xappR{T T' e e' sz:Nat}{s x:Operand}{es new:List (List D)}{r:RW}(h:∀r' U',RWAt U' sz r' (es++new)->RWK O r U' r'->DOps prog ro n ops Q rest ⟨(t,r'.d (es.length+new.length))::γ,U',df⟩)(hm:RWAt O sz r es)(h2:JT prog O sz (ev Sr x) new)(aF:∀c∈new,BN c=true)
  (hlen':∀c∈new,c.length=sz)
  (hl:A2 γ (A9 [s,x])=some Sr:=by exact tdR) (hk:(tab T).k=.slice e:=by(simp<;>rfl)) (aD:(tab T').k=.slice e':=by(simp<;>rfl)) (he:A1 (tab e).k=false:=by simp) (hsz:(tab e).size=sz:=by simp)
  (h1:ev Sr s=r.d es.length:=by first|with_unfolding_all rfl|(simp[ev,getD,List.lookup];done))
  (hb:(es.length+new.length)*(tab e).bytes<=140737488355328:=by first|(simp;done)|(simp;omega)) (hm2:es.length+new.length<=9223372036854775807:=by first|(simp;done)|(simp;omega)) (au:decide (t<n)=true:=by exact tdR) :
  DOps prog ro n ops Q (⟨some t,(cA s x T T'),ty,pos,after,none⟩::rest) ⟨γ,O,df⟩:=by
 obtain⟨e1,e2⟩:=evs hl
 exact Es Af (by simpa using au) hk aD he hsz (by rw[<-e1];exact h1) hm (by rw[<-e2];exact h2) hlen' aF hb hm2 fun r' U' h1 h2 _=>h r' U' h1 h2
theorem GX{T T' e e' sz:Nat}{s x:Operand}{es new:List (List D)}{r:RW}{l:List (Bool×Oper)}(h:∀i c cs U',RWAt U' sz (.row i c cs) (es++new)->RWK O r U' (.row i c cs)->MO prog ro n ops N S0 Q df l ((t,.sref i 0 (es.length+new.length) c)::γ) U')(hC:∀j o,S0 j=some o->O j=some o /\ ¬r.is j)(hm:RWAt O sz r es:=by assumption)
  (hl:A2 γ (A9 [s,x])=some Sr:=by exact tdR) (hk:(tab T).k=.slice e:=by(simp<;>rfl)) (aD:(tab T').k=.slice e':=by(simp<;>rfl)) (he:A1 (tab e).k=false:=by simp) (hsz:(tab e).size=sz:=by simp)
  (h1:ev Sr s=r.d es.length:=by first|with_unfolding_all rfl|(simp[ev,getD,List.lookup];done)) (h2:esOf (ev Sr x)=some new:=by(simp<;>with_unfolding_all rfl))
  (hne:new≠[]:=by simp) (hlen':∀c∈new,c.length=sz:=by first|exact BX _|exact Di _|exact BF _|simp) (aF:∀c∈new,BN c=true:=by simp[cI,cS,cII,BN,D.flat])
  (hb:(es.length+new.length)*(tab e).bytes<=140737488355328:=by first|(simp;done)|(simp;omega)) (hm2:es.length+new.length<=9223372036854775807:=by first|(simp;done)|(simp;omega)) (au:decide (t<n)=true:=by exact tdR) :
  MO prog ro n ops N S0 Q df ((true,⟨some t,(cA s x T T'),ty,pos,after,none⟩)::l) γ O:=
 mo1 (fun U2 hx=>by
  obtain⟨e1,e2⟩:=HT hl hx
  refine Es Af (by simpa using au) hk aD he hsz (by rw[e1];exact h1) hm (by rw[e2];exact HY h2 hlen') hlen' aF hb hm2 (fun r' U' h' hK h3=>?_)
  rcases h3 with⟨h3,_⟩|⟨i,c,cs,rfl⟩
  ·exact absurd h3 hne
  refine Ax ⟨rfl,?_⟩
  simp only[A6,if_true]
  exact⟨fun j o hj=>(hK j o (hC j o hj).1 (hC j o hj).2).1,h i c cs U' h' hK⟩) au
end
structure Rows(O:Sig)(R:Nat->RW)(sz:Nat->Nat)(ct:Nat->List (List D)):Prop where
 ok:∀a,RWAt O (sz a) (R a) (ct a)
 dj:∀a b j,(R a).is j->(R b).is j->a=b
def updF{α:Type}(f:Nat->α)(k:Nat)(x:α):Nat->α:=fun j=>if j=k then x else f j
@[simp] theorem Aj{α:Type}(f:Nat->α)(k:Nat)(x:α):updF f k x k=x:=by unfold updF;rw[if_pos rfl]
theorem A8{α:Type}(f:Nat->α){k j:Nat}(x:α)(h:j≠k):updF f k x j=f j:=by unfold updF;rw[if_neg h]
section
variable {O U':Sig}{R:Nat->RW}{sz:Nat->Nat}{ct:Nat->List (List D)}
theorem Rows.upd(h:Rows O R sz ct){a:Nat}{r':RW}{es':List (List D)}(hr:RWAt U' (sz a) r' es')(hk:RWK O (R a) U' r'):Rows U' (updF R a r') sz (updF ct a es'):=by
 have hne:∀b,b≠a->∀j,(R b).is j->∃o,O j=some o /\ ¬(R a).is j:=fun b hb j hj=>by
  obtain⟨cs,hc⟩:=(h.ok b).cells hj
  exact⟨_,hc,fun ha=>hb (h.dj b a j hj ha)⟩
 refine⟨fun b=>?_,fun b c j hb hc=>?_⟩
 ·by_cases e:b=a
  ·subst e;rw[Aj,Aj];exact hr
  ·rw[A8 _ _ e,A8 _ _ e]
   exact(h.ok b).keep fun j o hj hb=>by
    obtain⟨o',bU,hn⟩:=hne b e j hb
    exact(hk j o hj hn).1
 ·by_cases e:b=a
  ·subst e
   by_cases e2:c=b
   ·exact e2.symm
   ·rw[Aj]at hb
    rw[A8 _ _ e2]at hc
    obtain⟨o,ho,hn⟩:=hne c e2 j hc
    exact absurd hb (hk j o ho hn).2
  ·rw[A8 _ _ e]at hb
   by_cases e2:c=a
   ·subst e2
    rw[Aj]at hc
    obtain⟨o,ho,hn⟩:=hne b e j hb
    exact absurd hc (hk j o ho hn).2
   ·rw[A8 _ _ e2]at hc
    exact h.dj b c j hb hc
theorem Rows.keep(h:Rows O R sz ct)(hk:∀j o,O j=some o->(∃a,(R a).is j)->U' j=some o):Rows U' R sz ct:=
 ⟨fun a=>(h.ok a).keep fun j o hj ha=>hk j o hj ⟨a,ha⟩,h.dj⟩
theorem Rows.retell{ct':Nat->List (List D)}(h:Rows O R sz ct)(he:∀a,ct' a=ct a):Rows O R sz ct':=by
 obtain rfl:ct'=ct:=funext he
 exact h
theorem Rows.re(h:Rows O R sz ct){a:Nat}{r':RW}{es':List (List D)}(hr:RWAt O (sz a) r' es')(hi:∀j,r'.is j->(R a).is j):Rows O (updF R a r') sz (updF ct a es'):=by
 refine⟨fun b=>?_,fun b c j hb hc=>?_⟩
 ·by_cases e:b=a
  ·subst e;rw[Aj,Aj];exact hr
  ·rw[A8 _ _ e,A8 _ _ e];exact h.ok b
 ·have bO:(R b).is j:=by
   by_cases e:b=a
   ·subst e;rw[Aj]at hb;exact hi j hb
   ·rwa [A8 _ _ e]at hb
  have bN:(R c).is j:=by
   by_cases e:c=a
   ·subst e;rw[Aj]at hc;exact hi j hc
   ·rwa [A8 _ _ e]at hc
  exact h.dj b c j bO bN
end
theorem KH: ∀(l:List Fact) (n d:Int),Fact.depths l n<=d ↔ n<=d /\ ∀x∈l,x.depth<=d
 |[],n,d=>by rw[Fact.depths];simp
 |f::l,n,d=>by
  rw[Fact.depths,KH l]
  have:mx n f.depth<=d ↔ n<=d/\f.depth<=d:=by unfold mx;split<;>omega
  rw[this]
  simp only[List.mem_cons,forall_eq_or_imp]
  exact and_assoc
def locP(w:World)(f:Fact):Prop:=1<=f.op/\f.op<=7/\f.kids.length=C3 f.op/\(if Cp f.op then J1 w f=true else f.arg=0/\f.path.length=0/\f.cls=0/\f.n=0)
theorem loc_iff(w:World)(f:Fact):(Jd w f&&EP w f)=true ↔ locP w f:=by
 unfold locP Jd EP J1 Ue Pc Cp inB Gh C3
 rcases Decidable.em (f.op=2)with h2|h2
 ·simp[h2];grind
 ·rcases Decidable.em (f.op=3)with h3|h3
  ·simp[h3];grind
  ·rcases Decidable.em (f.op=4)with h4|h4
   ·simp[h4];grind
   ·simp[h2,h3,h4]
    grind
theorem GW(w:World): ∀(d:Nat) (f:Fact) (s s':Int),0<=s->s<=1000->(G2 w d f s=(true,s') ↔ (s'=s-f.size/\(f.size:Int)<=s/\f.depth<=d/\IQ w f=true))
 |0,f,s,s',_,_=>by
  have:=(Fact.depth_le f).1
  simp[G2];omega
 | d+1,f,s,s',h0,h1=>by
  have hw:IntKind.i64.wrap (s-1)=s-1:=As (by omega) (by omega)
  have bm:∀(l:List Fact) (t t':Int),0<=t->t<=1000->(allS (G2 w d) l t=(true,t') ↔ (t'=t-Fact.sizes l/\(Fact.sizes l:Int)<=t/\(∀x∈l,x.depth<=d)/\DI w l=true)):=fun l=>by
   induction l with
   |nil=>intro t t' h0 h1;rw[allS,Fact.sizes,DI];simp;omega
   | cons x r ih =>
    intro t t' h0 h1
    rw[allS,Fact.sizes,DI]
    cases hy:G2 w d x t with
    | mk b t1 =>
     cases b with
     |false=>
      have hx:=GW w d x t (t-x.size) h0 h1
      rw[hy]at hx
      simp only[Prod.mk.injEq,Bool.false_eq_true,false_and,false_iff,List.mem_cons,forall_eq_or_imp,Bool.and_eq_true]at hx⊢
      rintro⟨a1,a2,⟨a3,a4⟩,a5,a6⟩
      exact hx ⟨trivial,by omega,a3,a5⟩
     |true=>
      obtain⟨b1,b2,b3,b4⟩:=(GW w d x t t1 h0 h1).1 hy
      simp only[List.mem_cons,forall_eq_or_imp,Bool.and_eq_true]
      rw[ih t1 t' (by omega) (by omega)]
      constructor
      ·rintro⟨a1,a2,a3,a4⟩;exact⟨by omega,by omega,⟨b3,a3⟩,b4,a4⟩
      ·rintro⟨a1,a2,⟨_,a3⟩,_,a4⟩;exact⟨by omega,by omega,a3,a4⟩
  have bd:=loc_iff w f
  rw[G2,hw,Fact.depth_eq,Fact.size_eq,O6,Bool.and_eq_true,bd]
  have hd:Fact.depths f.kids 0+1<=((d+1:Nat):Int) ↔ ∀x∈f.kids,x.depth<=d:=by
   have:=KH f.kids 0 d
   constructor
   ·intro h;exact(this.1 (by omega)).2
   ·intro h;have:=this.2 ⟨by omega,h⟩;omega
  rw[hd]
  unfold locP
  split
  ·rename_i hc
   simp only[Prod.mk.injEq,Bool.false_eq_true,false_and,false_iff]
   rintro⟨a1,a2,a3,⟨a4,a5,a6,a7⟩,a8⟩
   rcases hc with hc|hc|hc|hc<;>omega
  ·rename_i hc
   have c1:¬s-1<0:=fun h=>hc (.inl h)
   have c2:¬f.op<1:=fun h=>hc (.inr (.inl h))
   have c3:¬7<f.op:=fun h=>hc (.inr (.inr (.inl h)))
   have c4:f.kids.length=C3 f.op:=Classical.byContradiction fun h=>hc (.inr (.inr (.inr h)))
   split
   ·rename_i hl
    have hk:f.kids=[]:=by
     have:C3 f.op=0:=by
      unfold Cp at hl
      simp only[Bool.or_eq_true,decide_eq_true_eq]at hl
      unfold C3
      rw[if_neg (by omega),if_neg (by omega)]
     exact List.eq_nil_of_length_eq_zero (by omega)
    rw[hk]at c4⊢
    rw[Fact.sizes,DI]
    simp only[Prod.mk.injEq]
    constructor
    ·rintro⟨a1,a2⟩;exact⟨by omega,by omega,by simp,⟨by omega,by omega,c4,a1⟩,trivial⟩
    ·rintro⟨a1,a2,a3,⟨a4,a5,a6,a7⟩,a8⟩;exact⟨a7,by omega⟩
   ·rename_i hl
    split
    ·rename_i hz
     rw[bm _ _ _ (by omega) (by omega)]
     constructor
     ·rintro⟨a1,a2,a3,a4⟩;exact⟨by omega,by omega,a3,⟨by omega,by omega,c4,hz⟩,a4⟩
     ·rintro⟨a1,a2,a3,_,a4⟩;exact⟨by omega,by omega,a3,a4⟩
    ·rename_i hz
     simp only[Prod.mk.injEq,Bool.false_eq_true,false_and,false_iff]
     rintro⟨a1,a2,a3,⟨a4,a5,a6,a7⟩,a8⟩
     exact hz a7
mutual
theorem TF: ∀(f:Fact) (most:Int),((f.size:Int)<=most->f.cnt most=f.size)/\(most<f.size->most<f.cnt most)
 |.mk o a p c n k,most=>by
  have:=OM k most 1
  rw[Fact.cnt,Fact.size]
  omega
theorem OM: ∀(l:List Fact) (most n:Int),(n+(Fact.sizes l:Int)<=most->Fact.cnts l most n=n+Fact.sizes l)/\(most<n+Fact.sizes l->most<Fact.cnts l most n)
 |[],most,n=>by rw[Fact.cnts,Fact.sizes];omega
 | f::l,most,n=>by
  rw[Fact.cnts,Fact.sizes]
  have h1:=TF f (most-n)
  have h2:=Fact.cnts_le l most (n+f.cnt (most-n))
  have h3:=OM l most (n+f.cnt (most-n))
  split
  ·by_cases hs:(f.size:Int)<=most-n
   ·rw[h1.1 hs]at h2 h3⊢
    omega
   ·have:=h1.2 (by omega)
    omega
  ·omega
end
theorem Rf(w:World)(f:Fact):DN w f=DO w f:=by
 have h:=GW w 12 f 24 (24-f.size) (by omega) (by omega)
 have hc:=TF f 24
 have e1:DN w f=true ↔ ((f.size:Int)<=24/\f.depth<=12/\IQ w f=true):=by
  unfold DN
  constructor
  ·intro hb
   cases hn:G2 w 12 f 24 with
   |mk b s'=>
    rw[hn]at hb
    cases b with
    |false=>simp at hb
    |true=>exact((GW w 12 f 24 s' (by omega) (by omega)).1 hn).2
  ·intro hb
   rw[h.2 ⟨rfl,hb⟩]
 have e2:DO w f=true ↔ ((f.size:Int)<=24/\f.depth<=12/\IQ w f=true):=by
  unfold DO
  simp only[Bool.and_eq_true,decide_eq_true_eq]
  constructor
  ·rintro⟨⟨a,b⟩,c⟩;exact⟨by omega,b,c⟩
  ·rintro⟨a,b,c⟩;exact⟨⟨by omega,b⟩,c⟩
 rw[Bool.eq_iff_iff,e1,e2]
theorem Uq(p:BProg)(hC:Ap p=AA p):D6 p=F8 p:=look_eq p hC fun f=>Rf _ f
theorem Oo{p:BProg}(hg:B5 (p.classes.map (·.parents))=true){k:Nat}(hk:k<p.classes.length):(p.classes[k]).parents.length<=3 /\ ∀x∈(p.classes[k]).parents,3<=x/\x<(k:Int)+3:=by
 have h:=Bz hg (k+3)
 have e:parentsF (p.classes.map (·.parents)) ((k+3:Nat):Int)=(p.classes[k]).parents:=by
  unfold parentsF
  rw[if_neg (by omega),show(((k+3:Nat):Int)-3).toNat=k by omega,List.getElem?_eq_getElem (by simpa using hk)]
  simp
 rw[e]at h
 exact⟨h.1,fun x hx=>by have:=h.2 x hx;omega⟩
theorem ON: ∀(cs:List BClass) (n:Int),(∀c∈cs,c.parents.length<=3)->F6 n cs=AW n cs
 |[],_,_=>rfl
 | c::r,n,h=>by
  have h3:=h c (by simp)
  rw[F6,AW]
  by_cases h4:4<c.slots.length
  ·rw[if_pos (.inl h4),if_pos h4]
  ·rw[if_neg (by omega),if_neg h4]
   cases Cr n c.slots with
   |none=>rfl
   |some m=>exact ON r m fun x hx=>h x (by simp[hx])
theorem Us{g:List (List Int)}(hg:B5 g=true){c:Int}(hc:0<=c/\c<3+g.length):decide (linE g c=0)=decide (0<(Fq g c).length):=by
 unfold linE
 rw[if_pos ⟨hg,hc⟩]
 by_cases h:Fq g c=[]
 ·rw[if_pos h,h];rfl
 ·rw[if_neg h]
  have:=List.length_pos_iff.2 h
  simp[this]
theorem Lq(bs:List Bool)(i j:Nat)(v:Bool):(bs.set i v).getD j false=if i=j/\i<bs.length then v else bs.getD j false:=by
 rw[List.getD_eq_getElem?_getD,List.getD_eq_getElem?_getD,List.getElem?_set]
 by_cases h:i=j
 ·subst h
  by_cases hl:i<bs.length
  ·simp[hl]
  ·simp[hl]
 ·simp[h]
theorem GG(k:Nat): ∀(ps:List Int) (bs:List Bool) (j:Nat),(∀x∈ps,0<=x/\x<k/\x<bs.length)->(G0 k ps bs).getD j false=(bs.getD j false||(bs.getD k false&&decide ((j:Int)∈ps)))
 |[],bs,j,_=>by rw[G0];simp
 | p::r,bs,j,h=>by
  obtain⟨h0,h1,h2⟩:=h p (by simp)
  rw[G0,GG k r _ j (fun x hx=>by rw[List.length_set];exact h x (by simp[hx]))]
  rw[Lq,Lq]
  have hk:¬(p.toNat=k/\p.toNat<bs.length):=by omega
  rw[if_neg hk]
  by_cases hj:p.toNat=j
  ·have bh:(j:Int)=p:=by omega
   rw[if_pos ⟨hj,by omega⟩,hj]
   simp[bh]
   cases bs.getD j false<;>cases bs.getD k false<;>simp_all
  ·have bh:¬(j:Int)=p:=by omega
   rw[if_neg (by rintro⟨a,_⟩;exact hj a)]
   simp[bh]
theorem If(g:List (List Int))(hg:B5 g=true): ∀(j:Nat) (bs:List Bool) (k:Nat),j+2<k->bs.length=3+g.length->j<=g.length->(upD g j bs).getD k false=bs.getD k false
 |0,_,_,_,_,_=>rfl
 | j+1,bs,k,h,hl,hj=>by
  have hp:=(Bz hg (j+3)).2
  rw[upD,If g hg j _ k (by omega) (by rw[D3];exact hl) (by omega),GG _ _ _ _ (fun x hx=>by have:=hp x hx;omega)]
  have:decide ((k:Int)∈parentsF g ((j+3:Nat):Int))=false:=by
   rw[decide_eq_false_iff_not];intro hx
   have:=hp k hx;omega
  rw[this];simp
theorem Ke{α:Type}[DecidableEq α]{x:α}: ∀(l s:List α),x∈Gb l s ↔ x∈l\/x∈s
 |[],s=>by unfold Gb;simp
 |y::r,s=>by
  have:=Ke (x:=x) r (ins y s)
  unfold Gb at this⊢
  rw[List.foldl_cons,this,mem_ins,List.mem_cons]
  grind
theorem Lp{p:BProg}(hg:B5 (p.classes.map (·.parents))=true){s:Int}: ∀(n:Nat) (up out:List Int) (bs:List Bool),n<=p.classes.length->bs.length=3+p.classes.length->(∀k:Nat,3<=k->k<n+3->((k:Int)∈up ↔ bs.getD k false=true))->
  (s∈hasG p.classes n up out ↔ s∈out \/ ∃k, ∃h:k<p.classes.length,k<n/\(upD (p.classes.map (·.parents)) n bs).getD (k+3) false=true/\s∈(p.classes[k]).slots)
 |0,up,out,bs,_,_,_=>by rw[hasG];simp
 | n+1,up,out,bs,hn,hl,hR=>by
  have aO:n<p.classes.length:=by omega
  have aH:=(Oo hg aO).2
  have aX:parentsF (p.classes.map (·.parents)) ((n+3:Nat):Int)=(p.classes[n]).parents:=by
   unfold parentsF
   rw[if_neg (by omega),show(((n+3:Nat):Int)-3).toNat=n by omega,List.getElem?_eq_getElem (by simpa using aO)]
   simp
  have aE:=fun (j:Nat)=>GG (n+3) (p.classes[n]).parents bs j (fun x hx=>by have:=aH x hx;omega)
  have hlen:(G0 (n+3) (p.classes[n]).parents bs).length=3+p.classes.length:=by rw[D3];exact hl
  have aB:=If _ hg n (G0 (n+3) (p.classes[n]).parents bs) (n+3) (by omega) (by rw[hlen,List.length_map]) (by rw[List.length_map];omega)
  have ax:(G0 (n+3) (p.classes[n]).parents bs).getD (n+3) false=bs.getD (n+3) false:=by
   rw[aE]
   have:decide (((n+3:Nat):Int)∈(p.classes[n]).parents)=false:=by rw[decide_eq_false_iff_not];intro hx;have:=aH _ hx;omega
   rw[this];simp
  have ak:=hR (n+3) (by omega) (by omega)
  rw[hasG,List.getElem?_eq_getElem aO,upD,aX]
  simp only
  have aL:((n+3:Nat):Int)=(n:Int)+3:=by omega
  rw[aL]at ak
  by_cases hu:(n:Int)+3∈up
  ·have hb:=ak.1 hu
   rw[if_pos hu,Lp hg n _ _ (G0 (n+3) (p.classes[n]).parents bs) (by omega) hlen (fun k h3 hk=>by
    rw[Ke,hR k h3 (by omega),aE k,hb]
    simp;grind),List.mem_append]
   constructor
   ·rintro((h|h)|⟨k,hk,h1,h2,h3⟩)
    ·exact .inl h
    ·exact .inr ⟨n,aO,by omega,by rw[aB,ax];exact hb,h⟩
    ·exact .inr ⟨k,hk,by omega,h2,h3⟩
   ·rintro(h|⟨k,hk,h1,h2,h3⟩)
    ·exact .inl (.inl h)
    ·by_cases bf:k=n
     ·subst bf;exact .inl (.inr h3)
     ·exact .inr ⟨k,hk,by omega,h2,h3⟩
  ·have hb:bs.getD (n+3) false=false:=by
    cases h:bs.getD (n+3) false
    ·rfl
    ·exact absurd (ak.2 h) hu
   rw[if_neg hu,Lp hg n _ _ (G0 (n+3) (p.classes[n]).parents bs) (by omega) hlen (fun k h3 hk=>by
    rw[hR k h3 (by omega),aE k,hb]
    simp)]
   constructor
   ·rintro(h|⟨k,hk,h1,h2,h3⟩)
    ·exact .inl h
    ·exact .inr ⟨k,hk,by omega,h2,h3⟩
   ·rintro(h|⟨k,hk,h1,h2,h3⟩)
    ·exact .inl h
    ·by_cases bf:k=n
     ·subst bf;rw[aB,ax,hb]at h2;cases h2
     ·exact .inr ⟨k,hk,by omega,h2,h3⟩
theorem GQ: ∀(l:List Int) (n m:Int),Cr n l=some m->m=n+l.length /\ ∀x∈l,n<=x/\x<m
 |[],n,m,h=>by rw[Cr]at h;cases h;simp
 | s::r,n,m,h=>by
  rw[Cr]at h
  split at h
  ·rename_i hs
   obtain⟨h1,h2⟩:=GQ r _ _ h
   refine⟨by rw[h1,List.length_cons];omega,fun x hx=>?_⟩
   rcases List.mem_cons.1 hx with rfl|hx
   ·omega
   ·have:=h2 x hx;omega
  ·cases h
theorem HN: ∀(cs:List BClass) (n m:Int),AW n cs=some m->m=n+wtL (fun c:BClass=>c.slots.length) cs/\(∀c∈cs, ∀x∈c.slots,n<=x/\x<m)/\wtL (fun c:BClass=>c.slots.length) cs<=4*cs.length
 |[],n,m,h=>by rw[AW]at h;cases h;simp[wtL]
 | c::r,n,m,h=>by
  rw[AW]at h
  split at h
  ·cases h
  ·rename_i h4
   split at h
   ·cases h
   ·rename_i m1 hm
    obtain⟨h1,h2⟩:=GQ _ _ _ hm
    obtain⟨h5,h6,h7⟩:=HN r _ _ h
    refine⟨by rw[wtL];omega,fun x hx y hy=>?_,by rw[wtL,List.length_cons];omega⟩
    rcases List.mem_cons.1 hx with rfl|hx
    ·have:=h2 y hy;omega
    ·have:=h6 x hx y hy;omega
theorem Gq: ∀(cs:List BClass) (i:Nat),(ownersF cs i).length=wtL (fun c:BClass=>c.slots.length) cs
 |[],_=>by rw[ownersF,wtL];rfl
 |c::r,i=>by rw[ownersF,wtL,List.length_append,List.length_replicate,Gq r]
theorem K4: ∀(l:List Int) (n m:Int),Cr n l=some m->∀s,s∈l ↔ n<=s/\s<m
 |[],n,m,h,s=>by rw[Cr]at h;cases h;simp
 | x::r,n,m,h,s=>by
  rw[Cr]at h
  split at h
  ·rename_i hx
   have h1:=K4 r _ _ h s
   have h2:=(GQ r _ _ h).1
   rw[List.mem_cons,h1]
   omega
  ·cases h
theorem K8: ∀(cs:List BClass) (i:Nat), ∀x∈ownersF cs i,(i:Int)+3<=x
 |[],_,x,hx=>by simp[ownersF]at hx
 |c::r,i,x,hx=>by
  rw[ownersF]at hx
  rcases List.mem_append.1 hx with hx|hx
  ·have:=List.eq_of_mem_replicate hx;omega
  ·have:=K8 r (i+1) x hx;omega
theorem LZ: ∀(cs:List BClass) (i:Nat) (n m:Int),AW n cs=some m->∀(s:Int) (k:Nat) (h:k<cs.length),s∈(cs[k]).slots ↔ n<=s/\s<m/\((ownersF cs i)[(s-n).toNat]?).getD 0=(i:Int)+k+3
 |[],_,_,_,_,_,k,h=>by simp at h
 | c::r,i,n,m,hc,s,k,h=>by
  rw[AW]at hc
  split at hc
  ·cases hc
  ·split at hc
   ·cases hc
   ·rename_i m1 hm
    have h1:=K4 _ _ _ hm s
    have h2:=(GQ _ _ _ hm).1
    obtain⟨h3,_,_⟩:=HN r _ _ hc
    have hlen:=Gq r (i+1)
    rw[ownersF]
    have br:n<=s->s<m1->((List.replicate c.slots.length ((i:Int)+3)++ownersF r (i+1))[(s-n).toNat]?).getD 0=(i:Int)+3:=fun a b=>by
     rw[List.getElem?_append_left (by rw[List.length_replicate];omega),List.getElem?_replicate,if_pos (by omega)];rfl
    have aZ:m1<=s->((List.replicate c.slots.length ((i:Int)+3)++ownersF r (i+1))[(s-n).toNat]?).getD 0=((ownersF r (i+1))[(s-m1).toNat]?).getD 0:=fun a=>by
     rw[List.getElem?_append_right (by rw[List.length_replicate];omega),List.length_replicate,show(s-n).toNat-c.slots.length=(s-m1).toNat by omega]
    cases k with
    | zero =>
     simp only[List.getElem_cons_zero]
     rw[h1]
     constructor
     ·rintro⟨a,b⟩;exact⟨a,by omega,by rw[br a b];simp⟩
     ·rintro⟨a,b,d⟩
      refine⟨a,Classical.byContradiction fun hn=>?_⟩
      rw[aZ (by omega)]at d
      have hl:(s-m1).toNat<(ownersF r (i+1)).length:=by omega
      rw[List.getElem?_eq_getElem hl]at d
      have:=K8 r (i+1) _ (List.getElem_mem hl)
      simp at d;omega
    | succ k =>
     simp only[List.getElem_cons_succ]
     rw[LZ r (i+1) m1 m hc s k (by simpa using h)]
     constructor
     ·rintro⟨a,b,d⟩;exact⟨by omega,b,by rw[aZ a,d];omega⟩
     ·rintro⟨a,b,d⟩
      by_cases hs:s<m1
      ·rw[br a hs]at d;omega
      ·rw[aZ (by omega)]at d;exact⟨by omega,b,by rw[d];omega⟩
end Go.DL
