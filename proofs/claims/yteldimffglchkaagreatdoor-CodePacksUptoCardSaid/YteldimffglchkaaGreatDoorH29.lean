/- A part of the proof. -/
import Derived.Test.YteldimffglchkaaGreatDoorH28
import Derived.Test.YteldimffglchkaaGreatDoorH24
import Derived.Test.YteldimffglchkaaGreatDoorH20
import Derived.Test.YteldimffglchkaaGreatDoorH14
set_option linter.all false
namespace Go.DL
open Go.Proofs.Tryz
open Go Go.Proofs
set_option maxHeartbeats 80000000
@[simp] theorem cSt_len(s:CSt):(cSt s).length=3:=rfl
@[simp] theorem cSt_take(s:CSt):List.take 3 (cSt s)=cSt s:=rfl
@[simp] theorem mem_cSt(y:D)(s:CSt):y∈cSt s ↔ y=dI s.pos\/y=dI s.env\/y=.bool s.next:=by simp[cSt]
theorem RU(p:BProg)(c:CProg)(im:Nat)(s:CSt)(O:Sig):DCall prog 100 [cChk p c im,.agg (cSt s)] O (rS (.func (.func 169) [] [.cptr [cChk p c im] 0,.cptr (cSt s) 0]) O):=by
 refine en func100 ntmps100 ?_
 refine gz ?_
 exact fe1 trivial
@[reducible,instance] def a100:=fun p c im s O=>ah0 (@RU p c im s O)
theorem KS: ∀(l:List Int) (n m:Int),G0 n l=some m->n<=m/\m<=n+l.length
 |[],n,m,h=>by rw[G0]at h;cases h;simp
 | s::r,n,m,h=>by
  rw[G0]at h
  split at h
  ·have:=KS r _ _ h
   simp only[List.length_cons];omega
  ·cases h
theorem JJ: ∀(cs:List BClass) (n m:Int),C5 n cs=some m->n<=m/\m<=n+4*cs.length
 |[],n,m,h=>by rw[C5]at h;cases h;simp
 | c::r,n,m,h=>by
  rw[C5]at h
  split at h
  ·cases h
  ·split at h
   ·cases h
   ·rename_i m1 h1
    have:=KS _ _ _ h1
    have:=JJ r _ _ h
    simp only[List.length_cons];omega
theorem T6{p:BProg}(h:okP p=true):0<=p.slots/\p.slots<=40:=by
 have h:=Eh h
 unfold AA at h
 simp only[Bool.and_eq_true,decide_eq_true_eq]at h
 obtain⟨cP,h⟩:=h
 split at h
 ·cases h
 ·rename_i n hn
  simp only[Bool.and_eq_true,decide_eq_true_eq]at h
  have:=JJ _ _ _ hn
  omega
theorem L5(p:BProg): ∀(l:List BMeth) (s s':List Int),Ch p l s=some s'->∀m∈l,0<=m.gen/\m.gen<p.gens.length
 |[],_,_,_,m,hm=>by cases hm
 | a::r,s,s',h,m,hm=>by
  rw[Ch]at h
  split at h
  ·rename_i aE
   rcases List.mem_cons.1 hm with rfl|hm
   ·simp only[I8,Bool.and_eq_true,decide_eq_true_eq]at aE
    exact aE.1.1.2
   ·split at h
    ·cases h
    ·exact L5 p r _ _ h m hm
  ·cases h
theorem gens_in{p:BProg}(h:okP p=true): ∀m∈p.methods,0<=m.gen/\m.gen<p.gens.length:=by
 unfold okP Dm at h
 split at h
 ·cases hm:Ch p p.methods (List.replicate p.nodes.length (-1))with
  |none=>rw[hm]at h;simp at h
  |some s=>exact L5 p _ _ _ hm
 ·cases h
def KD(p:BProg)(c:CProg):Option MetL:=if BZ p c.ins.length c.ins 0 then Hy p c else none
def LkR(p:BProg)(c:CProg)(im:Nat)(O:Sig)(x:DE)(U':Sig):Prop:=Keep (· = im) O U'/\match KD p c with
 |none=>x=.panic unfC
 |some W=>x=.ret (.tup [])/\U' im=some (.map (eIL W))
theorem finMN{P:Program}{n:Nat}{fn:Func}{R:DE->Sig->Prop}{γ:Fr}{O U':Sig}{d d':D}(js:List Nat)(hR:R (.ret d') U')(hU:Sub U' (dels js O))(hn:js.Nodup:=by simp)(hd:∀j∈js,O j=some .defs:=by simp)(h:resD fn γ=some d:=by exact tdR)(hw:WkD d d'): ∃s',Wk P n ⟨γ,O,js.map .coll⟩ s'/\P5 P n fn (Weak R) .normal s':=
 ⟨_,Wk.refl _ _ _,js,rfl,hn,hd,d,D1 h,.ret d',U',hw,hU,hR⟩
theorem TM (p:BProg) (c:CProg) (im:Nat) (O:Sig) (hp:p.wt<=1073741824) (hk:okP p=true) (hc:c.ins.length<=300) (ag:c.starts.length=p.methods.length) (hm:O im=some (.map (eIL []))):DCall prog 98 [.cptr (cCPg c) 0, .cptr [cChk p c im] 0, .cptr (Aj p) 0] O (LkR p c im O):=by
 obtain⟨p1,p2,p3,p4,p5,p6,p7⟩:=p.wt_le
 have bq:=T6 hk
 have bT:=GX hk
 obtain⟨g1,g2,g3,g4,g5⟩:=GW hk
 have cn:=gens_in hk
 refine Er func98 rfl (by decide) ntmps98 (by simp) ?_
 refine gz ?_ o98
 refine Cx [0,1,2,5,6,7,8,10,11,12,13,14,16,17,28,29,30,31,32,33,34,35,36,37,38,39,40,41,42,43,44,45,46,47,48,49,50,51,52,53,54,55,56,57,58,59,60,61,62,63,64,65,66,67,68,69,70,71,72,73,74,75,76,77,78,79,80,81,82,83,84,85,86,87,88,89,90,91,92,93,94,95,96,97,98,99,100,101,102,103,104,105,106,107,108,109,110,111,112] (fun (q:Nat)=>q<=c.ins.length/\BZ p c.ins.length c.ins 0=BZ p c.ins.length (c.ins.drop q) q) (fun q=>[(18,dI q)]) (fun _=>O) (fun q=>c.ins.length-q) (0) (by exact⟨by omega,rfl⟩) (fun q hI=>?_)
 obtain⟨hq,hA⟩:=hI
 by_cases aR:q<c.ins.length
 ·rw[Ab aR,BZ]at hA
  generalize hx:c.ins[q]=x at*
  repeat' first|refine gf hx ?_ o98|apply gy<;>intro hh
  ·rw[hh,Bool.true_and]at hA
   exact⟨q+1,⟨by omega,hA⟩,td1,wkR⟩
  ·rw[hh,Bool.false_and]at hA
   have hL:KD p c=none:=by unfold KD;rw[hA];rfl
   exact finMP [] (U':=O) ⟨Keep.refl _ _,by rw[hL]⟩ (Sub.refl _)
 ·rw [Af aR,BZ] at hA
  have bW:KD p c=Hy p c:=by unfold KD;rw[hA];rfl
  have bp:stsQ p c=⟨c.main,0,false⟩::List.zipWith (Dx p) p.methods c.starts:=rfl
  refine gz ?_ o98
  clear aR hq
  refine Kk [0,1,2,10,11,12,13,14,33,34,68,69,70,71,72,73,74,75,76,77,78,79,80,81,82,83,84,85,86,87,88,89,90,91,92,93,94,95,96,97,98,99,100,101,102,103,104,105,106,107,108,109,110,111,112] (fun (q:Nat) (out:List CSt) (o:Own) (S1:Sig)=>q<=c.starts.length/\out.length=q+1/\out++List.zipWith (Dx p) (p.methods.drop q) (c.starts.drop q)=stsQ p c/\RowR 3 O S1 (out.map cSt) o) (fun q out o _=>[(35,dI q),(5,.slice (out.map cSt) o)]) (fun _ _ _ S1=>S1) (fun q _ _ _=>c.starts.length-q) (0) ([⟨c.main,0,false⟩]) (.clip) (O) (by exact⟨by omega,rfl,rfl,.inl ⟨rfl,rfl⟩⟩) (fun q out o S1 hI=>?_)
  obtain⟨hq,br,hO,aY⟩:=hI
  by_cases aR:q<c.starts.length
  ·have bK:q<p.methods.length:=by omega
   rw[Ab aR,Ab bK,List.zipWith_cons_cons]at hO
   have cK:=cn _ (List.getElem_mem bK)
   generalize bN:p.methods[q]=m at*
   have co:p.gens.getD m.gen.toNat 0=p.gens[m.gen.toNat]'(by omega):=by rw[List.getD_eq_getElem?_getD,List.getElem?_eq_getElem (by omega)];rfl
   have bL:L2 m=(decide (m.kind=1)||decide (m.kind=4)):=rfl
   have aO:Dx p m c.starts[q]=⟨c.starts[q],p.gens[m.gen.toNat]'(by omega),L2 m⟩:=by unfold Dx;rw[co]
   refine gf bN ?_ (delO 10 o98)
   refine Ho (id:=10) [0,1,2,3,4,5,6,7,8,9,10,11,12,13,14,15,16,17,18,19,20,21] [20] O aY.sub ?_
   repeat' first|refine gf bN ?_ o98|apply gy<;>intro hh
   ·have aK:cSt (Dx p m c.starts[q])=[dI c.starts[q],dI (p.gens[m.gen.toNat]'(by omega)),.bool true]:=by rw[aO,bL];simp[cSt,hh]
    refine Uz (sz:=3) aY (Sub.refl _) (fun j hj=>?_)
    have b9:WkD (.slice (out.map cSt++[[dI c.starts[q],dI (p.gens[m.gen.toNat]'(by omega)),.bool true]]) (.tag j)) (.slice ((out++[Dx p m c.starts[q]]).map cSt) (.tag j)):=Cm (by rw[<-aK];simp)
    refine gz ?_ o98
    exact⟨q+1,out++[Dx p m c.starts[q]],.tag j,O.set j (.tail 3 ((out++[Dx p m c.starts[q]]).map cSt).length),⟨by omega,by rw[List.length_append,br];rfl,by rw[List.append_assoc];exact hO,.inr ⟨j,hj,rfl,rfl⟩⟩,td1,wkR⟩
   ·have aK:cSt (Dx p m c.starts[q])=[dI c.starts[q],dI (p.gens[m.gen.toNat]'(by omega)),.bool (decide (m.kind=4))]:=by rw[aO,bL];simp[cSt,hh]
    refine Uz (sz:=3) aY (Sub.refl _) (fun j hj=>?_)
    have b9:WkD (.slice (out.map cSt++[[dI c.starts[q],dI (p.gens[m.gen.toNat]'(by omega)),.bool (decide (m.kind=4))]]) (.tag j)) (.slice ((out++[Dx p m c.starts[q]]).map cSt) (.tag j)):=Cm (by rw[<-aK];simp)
    refine gz ?_ o98
    exact⟨q+1,out++[Dx p m c.starts[q]],.tag j,O.set j (.tail 3 ((out++[Dx p m c.starts[q]]).map cSt).length),⟨by omega,by rw[List.length_append,br];rfl,by rw[List.append_assoc];exact hO,.inr ⟨j,hj,rfl,rfl⟩⟩,td1,wkR⟩
  ·rw [List.drop_eq_nil_of_le (by omega),List.drop_eq_nil_of_le (by omega),List.zipWith_nil_left,List.append_nil] at hO
   have ck:S1 im=some (.map (eIL [])):=aY.sub _ _ hm
   have cz:Sub O S1:=aY.sub
   have cd:out.length<=17:=by omega
   have bA:∀s∈out,0<=s.env/\s.env<=1000:=fun s hs=>by
    rw[hO,bp]at hs
    rcases List.mem_cons.1 hs with rfl|hs
    ·simp
    ·obtain⟨k,ae,rfl⟩:=List.getElem_of_mem hs
     rw[List.getElem_zipWith]
     have:=bT (p.methods[k]'(by simp at ae;omega)).gen.toNat
     show 0<=p.gens.getD _ 0/\p.gens.getD _ 0<=1000
     omega
   have a8:MonoG (fun (O:Sig) (W:MetL)=>O im=some (.map (eIL W))):=fun O U' s hg hj=>hj _ _ hg rfl
   refine gz ?_ o98
   refine loopD4 [0,1,68,69,77,78,103,104,105,106,107,108,109,110,111,112] (fun (j:Nat) (W:MetL) (S2:Sig) (js:List Nat)=>j<=out.length/\allL p c out []=allL p c (out.drop j) W/\S2 im=some (.map (eIL W))/\Keep (· = im) O S2/\js.Nodup/\(∀i∈js,O i=none/\S2 i=some .defs)) (fun j _ _ _=>[(70,dI j)]) (fun _ _ S2 _=>S2) (fun _ _ _ js=>js.map .coll) (fun j _ _ _=>out.length-j) (0) ([]) (S1) ([]) (by exact⟨by omega,rfl,ck,fun k x hk _=>cz _ _ hk,by simp,by simp⟩) (fun j W S2 js hI=>?_)
   obtain⟨hj,hR,hm2,aD,bd,aH⟩:=hI
   by_cases bu:j<out.length
   ·rw [Ab bu,allL] at hR
    have cp:=bA _ (List.getElem_mem bu)
    generalize hs:out[j]=s at*
    refine gf hs ?_ o98
    have aV:∀i:Nat,i=im->S2 i≠none:=fun i hi=>by rw[hi,hm2];simp
    refine rangeG unfC (fun (O:Sig) (W:MetL)=>O im=some (.map (eIL W))) (· = im) (· = im) (Bz p c s ES W) W (a8.indep _) a8.fresh hm2 aV aV rfl (fun l did LO SL bj hd hl bI cO bl cf=>?_) (fun did W' U' ho aq bB cG aU=>?_) (fun did U' ho aq bB aU=>?_)
    ·have cE:SL l=some LO:=bl.1
     have cD:SL im=some (.map (eIL W)):=bl.2.1
     refine Ru p c im s l _ _ _ ES hp hc hA bT cp (fun k lv S3 W3 aL ar=>?_) SL W bl (fun a ha S3 W3 o ar=>?_) cf (fun S3 W3 ar=>ar.2.2)
     ·have aT:(S3.set l (Cy LO)) im=some (.map (eIL W3)):=ar.busy bj (a8.indep _) hl
      obtain⟨la,lz⟩:=lv
      have bG:∀x,Keep (· = im) (S3.set l (Cy LO)) ((S3.set l (Cy LO)).set im x):=fun x j y hj hn=>by rw[w7 _ _ hn];exact hj
      have cq:=fun (ag:ES k ⟨la,lz⟩ W3=some (putM (k:Int) ⟨la,lz⟩ W3))=>ag
      refine MM bj ar.1 ?_
      refine gz ?_ o98
      refine⟨ar.1,?_⟩
      have bX:=ar.bad hl (fun j h=>h) (Keep.refl (· = im) (S3.set l (Cy LO)))
      generalize bV:S3.set l (Cy LO)=Sb at aT bG bX⊢
      cases hh:hasM (k:Int) W3 with
      |false=>
       have ag:ES k ⟨la,lz⟩ W3=some (putM (k:Int) ⟨la,lz⟩ W3):=by unfold ES;exact if_neg fun h=>by rw[hh]at h;cases h.1
       refine gf (gi aT hh) ?_ o98
       exact endRN ag bj (a8.indep _) ar bI hl (w6 ..) (by rw[bV];exact bG _)
      | true =>
       refine gf (gi aT hh) ?_ o98
       refine eqlS _ (decide (getM ⟨0,0⟩ (k:Int) W3=(⟨la,lz⟩:CLev))) Se Qb (eqLev _ _) ?_
       by_cases he:getM ⟨0,0⟩ (k:Int) W3=(⟨la,lz⟩:CLev)
       ·have ag:ES k ⟨la,lz⟩ W3=some (putM (k:Int) ⟨la,lz⟩ W3):=by unfold ES;exact if_neg fun h=>h.2 he
        refine gf (gi aT he) ?_ o98
        exact endRN ag bj (a8.indep _) ar bI hl (w6 ..) (by rw[bV];exact bG _)
       ·have ag:ES k ⟨la,lz⟩ W3=none:=by unfold ES;exact if_pos ⟨hh,he⟩
        refine gf (gi aT he) ?_ o98
        exact endRP ag bX
     ·have e1:l≠a:=fun e=>by rw[<-e,cE]at ha;cases ha
      have e2:im≠a:=fun e=>by rw[<-e,cD]at ha;cases ha
      refine⟨by rw[w7 _ _ e1];exact ar.1,by show(S3.set a o) im=_;rw[w7 _ _ e2];exact ar.2.1,fun j x hj hn=>?_⟩
      rw[w7 _ _ fun e=>?_]
      ·exact ar.2.2 j x hj hn
      ·have:=bl.2.2 j x hj hn
       rw[e,ha]at this;cases this
    ·rw [ho] at hR
     simp only at hR
     refine gz ?_ o98
     have bx:Keep (· = im) O U':=fun k x ae hn=>(aU k x (aD k x ae hn) hn).1
     have bw:(did::js).Nodup:=List.nodup_cons.2 ⟨fun aB=>(by rw[(aH did aB).2]at aq;cases aq),bd⟩
     have be:∀i∈did::js,O i=none/\U' i=some .defs:=fun i hi=>by
      rcases List.mem_cons.1 hi with rfl|hi
      ·refine⟨?_,bB⟩
       cases bE:O i with
       |none=>rfl
       |some x=>
        by_cases e:i=im
        ·rw[e,hm2]at aq;cases aq
        ·rw[aD _ _ bE e]at aq;cases aq
      ·obtain⟨h1,h2⟩:=aH i hi
       exact⟨h1,(aU i _ h2 fun e=>by rw[e,hm2]at h2;cases h2).1⟩
     exact⟨j+1,W',U',did::js,⟨by omega,hR,cG,bx,bw,be⟩,td1,wkR⟩
    ·rw [ho] at hR
     simp only at hR
     have hL:KD p c=none:=by rw[bW];unfold Hy;rw[<-hO,hR]
     have bx:Keep (· = im) O U':=fun k x ae hn=>(aU k x (aD k x ae hn) hn).1
     have bw:(did::js).Nodup:=List.nodup_cons.2 ⟨fun aB=>(by rw[(aH did aB).2]at aq;cases aq),bd⟩
     have be:∀i∈did::js,O i=none/\U' i=some .defs:=fun i hi=>by
      rcases List.mem_cons.1 hi with rfl|hi
      ·refine⟨?_,bB⟩
       cases bE:O i with
       |none=>rfl
       |some x=>
        by_cases e:i=im
        ·rw[e,hm2]at aq;cases aq
        ·rw[aD _ _ bE e]at aq;cases aq
      ·obtain⟨h1,h2⟩:=aH i hi
       exact⟨h1,(aU i _ h2 fun e=>by rw[e,hm2]at h2;cases h2).1⟩
     exact finMP (did::js) (U':=dels (did::js) U') ⟨fun k x ae hn=>by
      rw[Kx _ U' k fun aB=>by rw[(be k aB).1]at ae;cases ae];exact bx k x ae hn,by rw[hL]⟩ (Sub.refl _) bw fun i hi=>(be i hi).2
   ·rw[Af bu,allL]at hR
    have hlen:(eIL W).length=W.length:=by unfold eIL eM;simp
    have hw:KD p c=if W.length=c.ins.length then some W else none:=by rw[bW];unfold Hy;rw[<-hO,hR]
    have bU:Keep (· = im) O (dels js S2):=fun k x ae hn=>by
     rw[Kx _ S2 k fun aB=>by rw[(aH k aB).1]at ae;cases ae];exact aD k x ae hn
    have cu:(dels js S2) im=some (.map (eIL W)):=by
     rw[Kx _ S2 im fun aB=>by rw[(aH im aB).1]at hm;cases hm];exact hm2
    by_cases he:W.length=c.ins.length
    ·rw[if_pos he]at hw
     refine gf (gi hm2 (gi hlen he)) ?_ o98
     exact finMN js (U':=dels js S2) (d':=.tup []) ⟨bU,by rw[hw];exact⟨rfl,cu⟩⟩ (Sub.refl _) bd (fun i hi=>(aH i hi).2) (hw:=A8 _)
    ·rw[if_neg he]at hw
     refine gf (gi hm2 (gi hlen he)) ?_ o98
     exact finMP js (U':=dels js S2) ⟨bU,by rw[hw]⟩ (Sub.refl _) bd fun i hi=>(aH i hi).2
def LokR(p:BProg)(c:CProg)(O:Sig)(x:DE)(U':Sig):Prop:=match C3 p c with
 |none=>x=.ret .nilp/\U'=O
 |some W=> ∃im,O im=none/\x=.ret (cChk p c im)/\U'=O.set im (.map (eIL W))
theorem Ln(p:BProg)(c:CProg)(O:Sig)(hp:p.wt<=1073741824)(bh:c.ins.length<=1073741824)(bf:c.starts.length<=1073741824):DCall prog 44 [.agg (Aj p),.agg (cCPg c)] O (LokR p c O):=by
 obtain⟨p1,p2,p3,p4,p5,p6,p7⟩:=p.wt_le
 refine en func44 ntmps44 ?_
 by_cases au:okP p=true/\c.ins.length<=300/\c.starts.length=p.methods.length
 ·obtain⟨hk,aN,ag⟩:=au
  have hL:C3 p c=KD p c:=by
   unfold C3 KD
   rw[hk,decide_eq_true aN,decide_eq_true ag]
   simp
  refine gf (gi hk ag) ?_
  refine newIL (fun im aI=>?_)
  refine gf (gi hk ag) ?_
  generalize bF:O.set im (.map (eIL []))=S0
  have aG:S0 im=some (.map (eIL [])):=by rw[<-bF,w6]
  refine A4 (Ny 98 [.cptr (cCPg c) 0,.cptr [cChk p c im] 0,.cptr (Aj p) 0] S0 (fun S1=>LkR p c im S1) (fun i hi=>TM p c im _ hp hk aN ag (by rw[w7 _ _ fun e=>by rw[<-e,aG]at hi;cases hi];exact aG)) (fun S1 d S2 h=>?_) (fun i S2 x hi h=>h.1 i _ (w6 ..) (fun e=>by rw[e,aG]at hi;cases hi))) (fun d U' hr=>?_) (fun d U' hr=>?_)
  ·obtain⟨_,h⟩:=h
   split at h
   ·simpa using h
   ·exact absurd h.1 (by simp)
  ·obtain⟨i,S2,hi,rfl,hr⟩:=hr
   have cm:im≠i:=fun e=>by rw[<-e,aG]at hi;cases hi
   have bn:∀(S3:Sig) (W:MetL),Keep (· = im) (S0.set i (.cells [.bool false])) S3->S3 im=some (.map (eIL W))->Sub (O.set im (.map (eIL W))) (S3.del i):=fun S3 W hK hW k x ae=>by
    by_cases e:k=im
    ·subst e
     rw[w6]at ae
     simp only[Sig.del,cm,if_false];rw[hW];exact ae
    ·rw[w7 _ _ e]at ae
     have e0:S0 k=some x:=by rw[<-bF,w7 _ _ e];exact ae
     have e2:k≠i:=fun e2=>by rw[e2,hi]at e0;cases e0
     simp only[Sig.del,e2,if_false]
     exact hK k x (by rw[w7 _ _ e2];exact e0) e
   rcases hr with⟨e,⟨hK,h⟩,h2⟩|⟨⟨hK,h⟩,h2⟩
   ·cases h2
    split at h
    ·cases h
    ·rename_i W hW
     obtain⟨_,ci⟩:=h
     refine gz ?_
     refine fin1 (U':=O.set im (.map (eIL W))) ?_ (hU:=bn _ _ hK ci)
     unfold LokR;rw[hL,hW];exact⟨im,aI,rfl,rfl⟩
   ·cases h2
    split at h
    ·rename_i hW
     refine gz ?_
     refine fin1 (U':=O) (by unfold LokR;rw[hL,hW];exact⟨rfl,rfl⟩) (hU:=fun k x ae=>?_)
     have e:=Ae ae aI
     have e0:S0 k=some x:=by rw[<-bF,w7 _ _ e];exact ae
     have e2:k≠i:=fun e2=>by rw[e2,hi]at e0;cases e0
     simp only[Sig.del,e2,if_false]
     exact hK k x (by rw[w7 _ _ e2];exact e0) e
    ·exact absurd h.1 (by simp)
  ·obtain⟨i,S2,hi,rfl,hr⟩:=hr
   rcases hr with⟨e,_,h2⟩|⟨_,h2⟩<;>cases h2
 ·have hL:C3 p c=none:=by
   unfold C3
   exact if_neg fun h=>by
    simp only[Bool.and_eq_true,decide_eq_true_eq]at h
    exact au ⟨h.1,h.2.1,h.2.2.1⟩
  repeat' first|refine gz ?_|apply gy<;>intro hh
  all_goals first|exact fin1 (U':=O) (by unfold LokR;rw[hL];exact⟨rfl,rfl⟩)|exact absurd ⟨by assumption,by omega,by omega⟩ au
def DV(c:CProg)(W:MetL):List CLev:=(List.range c.ins.length).map fun k:Nat=>getM ⟨0,0⟩ (k:Int) W
theorem U7(p:BProg)(c:CProg)(O:Sig)(hp:p.wt<=1073741824)(bh:c.ins.length<=1073741824)(bf:c.starts.length<=1073741824):DCall prog 25 [.agg (Aj p),.agg (cCPg c)] O (rS (.tup [sl (((C3 p c).map (DV c)).getD [] |>.map cLev),dI (if(C3 p c).isSome then 0 else 2)]) O):=by
 refine en func25 ntmps25 ?_
 refine gz ?_
 refine A4 (Ln p c O hp bh bf) (fun d U' hr=>?_) (fun d U' hr=>?_)
 ·unfold LokR at hr
  cases hL:C3 p c with
  |none=>
   rw[hL]at hr
   obtain⟨e,rfl⟩:=hr
   cases e
   refine gz ?_
   refine fin2 (U':=U') (d':=sl []) (e':=dI 2) ⟨rfl,rfl⟩ (hw:=?_)
   exact Ao _ (.inl rfl)
  | some W =>
   rw[hL]at hr
   obtain⟨im,aI,e,rfl⟩:=hr
   cases e
   have aG:(O.set im (.map (eIL W))) im=some (.map (eIL W)):=w6 ..
   have aC:Sub O (O.set im (.map (eIL W))):=(Sub.refl _).set aI
   generalize O.set im (.map (eIL W))=S0 at aG aC
   refine gz ?_
   refine HK 7 2 (fun it bQ=>?_)
   have nit:im≠it:=Ae aG bQ
   refine Cw [4,5,6,16,30] (fun (k:Nat) (out:List CLev)=>k<=c.ins.length/\out=(List.range k).map fun k:Nat=>getM ⟨0,0⟩ (k:Int) W) (fun k out=>[(17,dI k),(7,.slice (out.map cLev) (.tag it))]) (fun _ out=>S0.set it (.tail 2 out.length)) (fun k _=>c.ins.length-k) (0) ([]) (by exact⟨by omega,rfl⟩) (fun k out hI=>?_)
   obtain⟨hk,hO⟩:=hI
   have br:out.length=k:=by rw[hO];simp
   by_cases aL:k<c.ins.length
   ·refine gf (gi aG nit) ?_
    exact⟨k+1,out++[getM ⟨0,0⟩ (k:Int) W],⟨by omega,by rw[List.range_succ,List.map_append,<-hO];rfl⟩,td1,wkR⟩
   ·have aM:k=c.ins.length:=by omega
    have cC:out=DV c W:=by rw[hO,aM];rfl
    refine gz ?_
    refine fin2 (U':=O) (d':=sl ((DV c W).map cLev)) (e':=dI 0) ⟨rfl,rfl⟩ (hU:=aC.set (aC.none bQ)) (hw:=?_)
    rw[cC];exact Bm _ _
 ·unfold LokR at hr
  split at hr
  ·cases hr.1
  ·obtain⟨_,_,h,_⟩:=hr;cases h
end Go.DL
namespace Go.DL
open Go.Proofs.Tryz
open Go Go.Proofs
set_option maxHeartbeats 8000000
def Es(h:GoH):List D:=[dI h.kind,dI h.val.kind,dI h.val.n,dI h.gen,sl (h.args.map cVal),dI h.fin,dI h.pos,sl (h.stk.map cVal),sl (h.env.map cVal),sl (h.objs.map cTh),sl (h.evs.map cEv)]
def IT:GoH:=⟨0,vZ,0,[],0,0,[],[],[],[]⟩
abbrev cFr(pos:Int)(stk env:List MVal):List D:=[dI pos,sl (stk.map cVal),sl (env.map cVal)]
theorem Dq:WkD (.agg [dI 0,dI 0,dI 0,dI 0,.nils,dI 0,dI 0,.nils,.nils,.nils,.nils]) (.agg (Es IT)):=
 E9 ⟨A8 _,A8 _,A8 _,A8 _,Ao _ (.inl rfl),A8 _,A8 _,Ao _ (.inl rfl),Ao _ (.inl rfl),Ao _ (.inl rfl),Ao _ (.inl rfl),trivial⟩
theorem JV{n:Nat}{γ:Fr}{df:List DDf}{O:Sig}{i:Nat}{xs ys:List D}{d d':D}(hi:O i=some (.cells (xs++d::ys)))(h:WkD d d'): ∃U',Wk prog n ⟨γ,O,df⟩ ⟨γ,U',df⟩/\U' i=some (.cells (xs++d'::ys)) /\ ∀j o,O j=some o->j≠i->U' j=some o:=
 ⟨_,Ex hi h,w6 .., fun j o hj ak=>by rw[w7 _ _ ak];exact hj⟩
section
variable {ir:Nat}{p:BProg}{R:Nat->RW}{s:GoS}{O:Sig}
theorem haltFz{n:Nat}{γ:Fr}{df:List DDf}{av:D}{b:Bool}{h:GoH}(hH:HaltS ir p R s av b h O): ∃U' tl,Wk prog n ⟨γ,O,df⟩ ⟨γ,U',df⟩/\U' ir=some (.cells (Es h++tl)) /\ ∀j o,O j=some o->j≠ir->(∀a, ¬(R a).is j)->U' j=some o:=by
 obtain⟨aS,ac,ay,bM,aJ,aF,aX,ag⟩:=hH
 have dj:∀{a b:Nat},a≠b->∀{j:Nat},(R a).is j->¬(R b).is j:=fun {a b} cw {j} ha hb=>cw (ac.dj a b j ha hb)
 have nir:∀{a j:Nat},(R a).is j->j≠ir:=fun {a j} h e=>ay a (e ▸ h)
 cases b with
 |false=>
  obtain⟨e1,e2,e3⟩:=ag
  obtain⟨S1,w1,o1,k1⟩:=MF (n:=n) (γ:=γ) (df:=df) (a0:=[dI h.kind,dI h.val.kind,dI h.val.n,dI h.gen,av,dI h.fin,dI 0,.nils,.nils]) (b0:=(R 2).d s.evs.length::(Aj p++[dI s.pos,(R 0).d s.stk.length,(R 1).d s.env.length])) ac ay (bM 3) (by rw[aS];rfl)
  have q2:RWAt S1 3 (R 2) (s.evs.map cEv):=(ac.ok 2).keep fun j o hj ai=>k1 j o hj (nir ai) fun q hq=>dj (by omega) ai
  obtain⟨S2,w2,o2,k2⟩:=BF (P:=prog) (n:=n) (γ:=γ) (df:=df) (i:=ir) (az:=[dI h.kind,dI h.val.kind,dI h.val.n,dI h.gen,av,dI h.fin,dI 0,.nils,.nils,.slice (s.objs.map cTh) .no]) (bs:=Aj p++[dI s.pos,(R 0).d s.stk.length,(R 1).d s.env.length]) q2 (by rw[o1,List.length_map];rfl) (ay 2)
  obtain⟨S3,w3,o3,k3⟩:=JV (n:=n) (γ:=γ) (df:=df) (xs:=[dI h.kind,dI h.val.kind,dI h.val.n,dI h.gen]) (ys:=[dI h.fin,dI 0,.nils,.nils,.slice (s.objs.map cTh) .no,.slice (s.evs.map cEv) .no]++(Aj p++[dI s.pos,(R 0).d s.stk.length,(R 1).d s.env.length])) o2 aJ
  obtain⟨S4,w4,o4,k4⟩:=JV (n:=n) (γ:=γ) (df:=df) (xs:=[dI h.kind,dI h.val.kind,dI h.val.n,dI h.gen,sl (h.args.map cVal),dI h.fin,dI 0]) (ys:=[.nils,.slice (s.objs.map cTh) .no,.slice (s.evs.map cEv) .no]++(Aj p++[dI s.pos,(R 0).d s.stk.length,(R 1).d s.env.length])) o3 (Ao .no (.inl rfl))
  obtain⟨S5,w5,o5,k5⟩:=JV (n:=n) (γ:=γ) (df:=df) (xs:=[dI h.kind,dI h.val.kind,dI h.val.n,dI h.gen,sl (h.args.map cVal),dI h.fin,dI 0,sl []]) (ys:=[.slice (s.objs.map cTh) .no,.slice (s.evs.map cEv) .no]++(Aj p++[dI s.pos,(R 0).d s.stk.length,(R 1).d s.env.length])) o4 (Ao .no (.inl rfl))
  refine⟨S5,Aj p++[dI s.pos,(R 0).d s.stk.length,(R 1).d s.env.length],(((w1.trans w2).trans w3).trans w4).trans w5,?_,fun j o hj ak hn=>k5 j o (k4 j o (k3 j o (k2 j o (k1 j o hj ak fun q _=>hn q) ak (hn 2)) ak) ak) ak⟩
  rw[o5,Es,e1,e2,e3,aF,aX];rfl
 | true =>
  obtain⟨e1,e2,e3⟩:=ag
  obtain⟨S1,w1,o1,k1⟩:=MF (n:=n) (γ:=γ) (df:=df) (a0:=[dI h.kind,dI h.val.kind,dI h.val.n,dI h.gen,av,dI h.fin,dI s.pos,(R 0).d s.stk.length,(R 1).d s.env.length]) (b0:=(R 2).d s.evs.length::(Aj p++[dI s.pos,(R 0).d s.stk.length,(R 1).d s.env.length])) ac ay (bM 3) (by rw[aS];rfl)
  have q2:RWAt S1 3 (R 2) (s.evs.map cEv):=(ac.ok 2).keep fun j o hj ai=>k1 j o hj (nir ai) fun q hq=>dj (by omega) ai
  obtain⟨S2,w2,o2,k2⟩:=BF (P:=prog) (n:=n) (γ:=γ) (df:=df) (i:=ir) (az:=[dI h.kind,dI h.val.kind,dI h.val.n,dI h.gen,av,dI h.fin,dI s.pos,(R 0).d s.stk.length,(R 1).d s.env.length,.slice (s.objs.map cTh) .no]) (bs:=Aj p++[dI s.pos,(R 0).d s.stk.length,(R 1).d s.env.length]) q2 (by rw[o1,List.length_map];rfl) (ay 2)
  have q0:RWAt S2 2 (R 0) (s.stk.map cVal):=(ac.ok 0).keep fun j o hj ai=>k2 j o (k1 j o hj (nir ai) fun q hq=>dj (by omega) ai) (nir ai) (dj (by decide) ai)
  obtain⟨S3,w3,o3,k3⟩:=BF (P:=prog) (n:=n) (γ:=γ) (df:=df) (i:=ir) (az:=[dI h.kind,dI h.val.kind,dI h.val.n,dI h.gen,av,dI h.fin,dI s.pos]) (bs:=[(R 1).d s.env.length,.slice (s.objs.map cTh) .no,.slice (s.evs.map cEv) .no]++(Aj p++[dI s.pos,(R 0).d s.stk.length,(R 1).d s.env.length])) q0 (by rw[o2,List.length_map];rfl) (ay 0)
  have q1:RWAt S3 2 (R 1) (s.env.map cVal):=(ac.ok 1).keep fun j o hj ai=>k3 j o (k2 j o (k1 j o hj (nir ai) fun q hq=>dj (by omega) ai) (nir ai) (dj (by decide) ai)) (nir ai) (dj (by decide) ai)
  obtain⟨S4,w4,o4,k4⟩:=BF (P:=prog) (n:=n) (γ:=γ) (df:=df) (i:=ir) (az:=[dI h.kind,dI h.val.kind,dI h.val.n,dI h.gen,av,dI h.fin,dI s.pos,.slice (s.stk.map cVal) .no]) (bs:=[.slice (s.objs.map cTh) .no,.slice (s.evs.map cEv) .no]++(Aj p++[dI s.pos,(R 0).d s.stk.length,(R 1).d s.env.length])) q1 (by rw[o3,List.length_map];rfl) (ay 1)
  have w5:=Ex (P:=prog) (n:=n) (γ:=γ) (df:=df) (az:=[dI h.kind,dI h.val.kind,dI h.val.n,dI h.gen]) (bs:=[dI h.fin,dI s.pos,.slice (s.stk.map cVal) .no,.slice (s.env.map cVal) .no,.slice (s.objs.map cTh) .no,.slice (s.evs.map cEv) .no]++(Aj p++[dI s.pos,(R 0).d s.stk.length,(R 1).d s.env.length])) (d:=av) o4 aJ
  refine⟨_,Aj p++[dI s.pos,(R 0).d s.stk.length,(R 1).d s.env.length],(((w1.trans w2).trans w3).trans w4).trans w5,?_,fun j o hj ak hn=>?_⟩
  ·rw[w6,Es,e1,e2,e3,aF,aX];rfl
  ·rw[w7 _ _ ak]
   exact k4 j o (k3 j o (k2 j o (k1 j o hj ak fun q _=>hn q) ak (hn 2)) ak (hn 0)) ak (hn 1)
theorem haltD{ro:Ro}{n:Nat}{Q:DX->St->Prop}{c:Code}{γ:Fr}{df:List DDf}{av:D}{b:Bool}{h:GoH}(hH:HaltS ir p R s av b h O)
  (k:∀U' tl,U' ir=some (.cells (Es h++tl))->(∀j o,O j=some o->j≠ir->(∀a, ¬(R a).is j)->U' j=some o)->DWp prog ro n c Q ⟨γ,U',df⟩):DWp prog ro n c Q ⟨γ,O,df⟩:=by
 obtain⟨S2,tl,w,a,b⟩:=haltFz (n:=n) (γ:=γ) (df:=df) hH
 exact DA w (k S2 tl a b)
def R01(r0 r1:RW):Nat->RW:=updF (updF (fun _=>.nil) 0 r0) 1 r1
theorem RunS.init{S1 S2:Sig}{r0 r1:RW}{stk env:List MVal}{pos:Int}(h0:FrV O r0 stk S1)(h1:FrV S1 r1 env S2)(hi:S2 ir=none):RunS ir p (R01 r0 r1) ⟨[],[],pos,stk,env⟩ (S2.set ir (.cells (AN p (R01 r0 r1) ⟨[],[],pos,stk,env⟩))):=by
 have a:Rows O (fun _=>RW.nil) rSz (fun _=>[]):=⟨fun _=>rfl,fun _ _ _ h=>h.elim⟩
 have b:Rows S1 (updF (fun _=>RW.nil) 0 r0) rSz (updF (fun _=>[]) 0 (stk.map cVal)):=a.upd (a:=0) h0.1 h0.2.1
 have c:=b.upd (a:=1) (r':=r1) (es':=env.map cVal) (U':=S2) h1.1 (by rw[A7 _ _ (by omega)];exact h1.2.1)
 have d:=c.retell (ct':=rCt (R01 r0 r1) ⟨[],[],pos,stk,env⟩) fun a=>by
  match a with
  |0=>rw[A7 _ _ (by omega),Ak];rfl
  |1=>rw[Ak];rfl
  |2=>rw[A7 _ _ (by omega),A7 _ _ (by omega)];rfl
  |3=>rw[A7 _ _ (by omega),A7 _ _ (by omega)];rfl
  |k+4=>rw[A7 _ _ (by omega),A7 _ _ (by omega)];simp[rCt]
 have ay:∀a, ¬(R01 r0 r1 a).is ir:=fun a ha=>by
  obtain⟨z,hz⟩:=(d.ok a).cells ha
  rw[hi]at hz;cases hz
 refine⟨w6 .., d.keep fun j o hj ⟨b,hb⟩=>by rw[w7 _ _ fun e=>ay b (by rw[<-e];exact hb)];exact hj,ay,fun a es ha=>?_⟩
 unfold R01 at ha
 by_cases e1:a=1
 ·subst e1;rw[Ak]at ha;exact h1.2.2 es ha
 ·rw[A7 _ _ e1]at ha
  by_cases e0:a=0
  ·subst e0;rw[Ak]at ha;exact h0.2.2 es ha
  ·rw[A7 _ _ e0]at ha;cases ha
theorem SY{ds:List D}{r:RW}{n k:Nat}(h:O ir=some (.cells ds))(hl:k<ds.length):DM tab O 31 (.ptr ir k) (r.d n)=some (.any,O.set ir (.cells (ds.take k++[r.d n]++ds.drop (k+1)))):=by
 have hf:¬ds.length<k+1:=by omega
 cases r<;>simp[DM,h,RW.d,hf]
theorem storeRw{ro:Ro}{n:Nat}{ops:Array Oper}{Q:DX->St->Prop}{df:List DDf}{rest:List Oper}{γ Sr:Fr}{ty:TypeId}{pos:String}{after:Array Edge}{x y:Operand}{ds:List D}{r:RW}{m k:Nat}(hc:O ir=some (.cells ds))(h:DOps prog ro n ops Q rest ⟨γ,O.set ir (.cells (ds.take k++[r.d m]++ds.drop (k+1))),df⟩)
  (hl:A0 γ (A5 [x,y])=some Sr:=by exact tdR) (h1:ev Sr x=.ptr ir k:=by exact tdR) (h2:ev Sr y=r.d m:=by exact tdR) (hlen:k<ds.length:=by simp) :
  DOps prog ro n ops Q (⟨none,.store 31 x y,ty,pos,after,none⟩::rest) ⟨γ,O,df⟩:=
 DN Ac (d:=.any) hl (by show DM tab O 31 (ev Sr x) (ev Sr y)=_;rw[h1,h2];exact SY hc hlen) h
end
section
variable {ro:Ro}{n:Nat}{ops:Array Oper}{N:Nat}{S0:Sig}{Q:DX->St->Prop}{df:List DDf}{γ Sr:List (Nat×D)}{O:Sig}{t:Nat}{ty:TypeId}{pos:String}{after:Array Edge}{e1:Bool}{l:List (Bool×Oper)}
theorem moRr(d:D){op:Op}(h:MO prog ro n ops N S0 Q df l ((t,d)::γ) O)(hr:CY op=true:=by rfl)(bc:decide (t<n)=true:=by exact tdR)(hl:A0 γ (A5 op.operands.toList)=some Sr:=by exact tdR)(hd:dopX tab Sr S0 op=some d:=by first|with_unfolding_all rfl|(simp;done)|(simp;rfl)):MO prog ro n ops N S0 Q df ((e1,⟨some t,op,ty,pos,after,none⟩)::l) γ O:=
 Ki Ac hr bc hl hd h
theorem moBox{T:Nat}{x:Operand}(cs:List D)(h:∀i,O i=none->MO prog ro n ops N S0 Q df l ((t,.ptr i 0)::γ) (O.set i (.cells cs)))(hl:A0 γ (A5 [x])=some Sr:=by exact tdR)(hc:(ev Sr x).cells=cs:=by exact tdR)(ht:(ev Sr x).told=true:=by exact tdR)(bc:decide (t<n)=true:=by exact tdR)(hC:Sub S0 O:=by first|exact Sub.refl _|assumption):
  MO prog ro n ops N S0 Q df ((true,⟨some t,.box T x,ty,pos,after,none⟩)::l) γ O:=
 mo1 (fun U2 hx=>by
  have e:ev U2 x=ev Sr x:=by rw[hx x (by simp[Op.operands]),BJ hl]
  exact dops_box (by rw[e];exact ht) (by simpa using bc) (fun i hi=>Au ⟨rfl,by simp only[A3,if_true];rw[e,hc];exact⟨hC.set (hC.none hi),h i hi⟩⟩)) bc
end
def Tv(s:GoS)(r:GoS ⊕ GoH):Prop:= ∀t,r=.inl t->t.stk.length<=s.stk.length+1/\t.env.length<=s.env.length+1/\t.evs.length<=s.evs.length+1
theorem len_ite{s:GoS}{c:Prop}[Decidable c]{a b:GoS ⊕ GoH}(h1:Tv s a)(h2:Tv s b):Tv s (if c then a else b):=by split<;>assumption
theorem PH{p:BProg}{w:CWorld}{x:CIns}{s t:GoS}(h:I9 p w x s=.inl t):t.stk.length<=s.stk.length+1/\t.env.length<=s.env.length+1/\t.evs.length<=s.evs.length+1:=by
 have key:Tv s (I9 p w x s):=by
  rw[I9]
  repeat' (refine len_ite ?_ ?_)
  all_goals
   intro t h
   first|(cases h;done)|(cases h;simp only[List.length_append,List.length_dropLast,List.length_singleton];omega)
 exact key t h
theorem actAt{j:Nat}(h1:1<=j)(h2:j<=21):cActs[j]? = some (.func (.func (actF j)) [] []):=by
 have h:j=1\/j=2\/j=3\/j=4\/j=5\/j=6\/j=7\/j=8\/j=9\/j=10\/j=11\/j=12\/j=13\/j=14\/j=15\/j=16\/j=17\/j=18\/j=19\/j=20\/j=21:=by omega
 rcases h with rfl|rfl|rfl|rfl|rfl|rfl|rfl|rfl|rfl|rfl|rfl|rfl|rfl|rfl|rfl|rfl|rfl|rfl|rfl|rfl|rfl<;>rfl
theorem No(c:CProg)(W:MetL){k:Nat}(hk:k<c.ins.length):(DV c W)[k]? = some (getM ⟨0,0⟩ (k:Int) W):=by
 unfold DV;rw[List.getElem?_map,List.getElem?_range hk];rfl
theorem Nn(c:CProg)(W:MetL):(DV c W).length=c.ins.length:=by unfold DV;simp
theorem Ia(p:BProg)(c:CProg):Ei p c=(C3 p c).map (DV c):=by rw[<-Q7,On];rfl
theorem fits_rg{p:BProg}{N q:Nat}{x:CIns}(aj:fitsC p N q x=true):1<=x.op/\x.op<=21:=by
 unfold fitsC at aj
 refine Classical.byContradiction fun h=>?_
 rw[if_neg (by omega),if_neg (by omega),if_neg (by omega),if_neg (by omega),if_neg (by omega),if_neg (by omega)]at aj
 simp at aj
 omega
theorem PI{p:BProg}{w:CWorld}{c:CProg}{m:Met}{nx:Bool}(hg:∀n:Nat,0<=p.gens.getD n 0)(hw:WldOK p w)(hL:LevOK p c m nx){s:GoS}(hs:GInv w m s):mRun p w c c.ins.length s=match I9 p w (AC c s.pos.toNat) { s with pos:=s.pos+1 } with
  |.inl t=>mRun p w c c.ins.length t
  |.inr h=>h:=by
 rw[L3 hg hw hL c.ins.length (c.ins.length+1) s hs (by omega) (by omega),mRun]
 rfl
@[simp] theorem cActs_len:cActs.length=22:=rfl
@[simp] theorem cActs_all:cActs.all D.flat=true:=rfl
@[simp] theorem cActs_tk:List.take 22 cActs=cActs:=rfl
theorem RunS.newO{ir:Nat}{p:BProg}{R:Nat->RW}{s:GoS}{O:Sig}(h:RunS ir p R s O){i:Nat}(hi:O i=none)(o:DObj):RunS ir p R s (O.set i o):=by
 have hn:∀j x,O j=some x->j≠i:=fun j x hj e=>by rw[e,hi]at hj;cases hj
 exact⟨by rw[w7 _ _ (hn _ _ h.obj)];exact h.obj,h.rows.keep fun j x hj _=>by rw[w7 _ _ (hn j x hj)];exact hj,h.ni,h.nf⟩
theorem Is (p:BProg) (c:CProg) (objs:List MThing) (pos:Int) (stk env:List MVal) (o1:Own) (O:Sig) (hp:p.wt<=1073741824) (bh:c.ins.length<=1073741824) (bf:c.starts.length<=1073741824) (ce:objs.length<=1000000) (bq : ∀ x ∈ objs,x.slots.length<=1000000) (cH:stk.length<=900000) (cM:env.length<=900000) :
  DCall prog 13 [.agg (Aj p),.agg (cCPg c),.slice (objs.map cTh) o1,.agg (cFr pos stk env)] O (rS (.tup [.agg (Es ((goC p (A2 p) c objs pos stk env).getD IT)),dI (if(goC p (A2 p) c objs pos stk env).isSome then 0 else 2)]) O):=by
 have bP:=Ia p c
 have am:=fun O:Sig=>Ks p objs o1 O hp (by omega) (fun x hx=>by have:=bq x hx;omega)
 obtain⟨H,hH⟩:∃H,H=goC p (A2 p) c objs pos stk env:=⟨_,rfl⟩
 rw[<-hH]
 refine en func13 ntmps13 ?_
 refine gz ?_ o13 [8]
 refine newV (fun i8 aW=>?_)
 have o8:(O.set i8 (.cells [dI 0,dI 0,dI 0,dI 0,.nils,dI 0,dI 0,.nils,.nils,.nils,.nils])) i8=_:=w6 ..
 have bi:Sub O (O.set i8 (.cells [dI 0,dI 0,dI 0,dI 0,.nils,dI 0,dI 0,.nils,.nils,.nils,.nils])):=(Sub.refl _).set aW
 generalize O.set i8 (.cells [dI 0,dI 0,dI 0,dI 0,.nils,dI 0,dI 0,.nils,.nils,.nils,.nils])=Sa at*
 refine gz ?_ o13 [8]
 refine A4 (Ln p c Sa hp bh bf) (fun d U' hr=>?_) (fun d U' hr=>?_)
 rotate_left
 ·unfold LokR at hr
  split at hr
  ·cases hr.1
  ·obtain⟨_,_,h,_⟩:=hr;cases h
 unfold LokR at hr
 cases hL:C3 p c with
 |none=>
  rw[hL]at hr
  obtain⟨e,rfl⟩:=hr
  cases e
  have hn:H=none:=by rw[hH];unfold goC;rw[bP,hL];rfl
  refine gf o8 ?_ o13 [8]
  refine finC (U':=O) (d:=.tup [.agg (Es IT),dI 2]) ⟨by rw[hn];rfl,rfl⟩ (hw:=?_) (hU:=?_)
  ·exact CA ⟨Dq,A8 _,trivial⟩
  ·exact fun j o hj=>by rw[w7 _ _ (Ae hj aW)];exact bi j o hj
 | some W =>
  rw[hL]at hr
  obtain⟨im,aI,e,rfl⟩:=hr
  cases e
  have n8m:i8≠im:=Ae o8 aI
  have om:(Sa.set im (.map (eIL W))) im=some (.map (eIL W)):=w6 ..
  have o8':=(w7 Sa (.map (eIL W)) n8m).trans o8
  have aC:Sub O (Sa.set im (.map (eIL W))):=bi.set (bi.none aI)
  generalize Sa.set im (.map (eIL W))=S0 at*
  clear o8 bi aI
  have bO:Ei p c=some (DV c W):=by rw[bP,hL];rfl
  obtain⟨aE,hlen,ax⟩:=Q6 bO
  have aN:c.ins.length<=300:=by
   unfold C3 at hL
   split at hL
   ·rename_i h;simp only[Bool.and_eq_true,decide_eq_true_eq]at h;exact h.2.1
   ·cases hL
  have bz:H=if Ba (A2 p) objs&&FM (DV c W) objs.length pos stk env then some (mRun p (A2 p) c c.ins.length ⟨objs,[],pos,stk,env⟩) else none:=by rw[hH];unfold goC;rw[bO]
  by_cases hg:(Ba (A2 p) objs&&FM (DV c W) objs.length pos stk env)=true
  rotate_left
  ·have hn:H=none:=by rw [bz,if_neg hg]
   have fin0:∀z,Sub O (S0.set i8 z):=fun z j o hj=>by rw[w7 _ _ (Ae hj aW)];exact aC j o hj
   have fin1:∀i z1 z2,S0 i=none->Sub O ((S0.set i z1).set i8 z2):=fun i z1 z2 hi j o hj=>by rw[w7 _ _ (Ae hj aW),w7 _ _ (Ae (aC j o hj) hi)];exact aC j o hj
   have bC:Ba (A2 p) objs=false\/(Ba (A2 p) objs=true/\(pos < 0\/(c.ins.length:Int)<=pos))\/(Ba (A2 p) objs=true /\ ∃ k:Nat,pos=k/\k < c.ins.length/\((stk.length:Int) ≠ (getM ⟨0,0⟩ (k:Int) W).st\/((stk.length:Int)=(getM ⟨0,0⟩ (k:Int) W).st/\(env.length:Int) ≠ (getM ⟨0,0⟩ (k:Int) W).env)\/((stk.length:Int)=(getM ⟨0,0⟩ (k:Int) W).st/\(env.length:Int)=(getM ⟨0,0⟩ (k:Int) W).env/\(okVs objs.length stk=false\/(okVs objs.length stk=true/\okVs objs.length env=false))))):=by
    cases hO:Ba (A2 p) objs with
    |false=>exact .inl rfl
    | true =>
     refine .inr ?_
     rw[hO,Bool.true_and]at hg
     by_cases h0:pos<0\/(c.ins.length:Int)<=pos
     ·exact .inl ⟨rfl,h0⟩
     obtain⟨k,hk⟩:∃k:Nat,pos=k:=⟨pos.toNat,by omega⟩
     have aL:k<c.ins.length:=by omega
     refine .inr ⟨rfl,k,hk,aL,?_⟩
     subst hk
     unfold FM at hg
     rw[Nn,Int.toNat_natCast,No c W aL,Option.getD_some]at hg
     by_cases a1:(stk.length:Int)=(getM ⟨0,0⟩ (k:Int) W).st
     ·refine .inr ?_
      by_cases a2:(env.length:Int)=(getM ⟨0,0⟩ (k:Int) W).env
      ·refine .inr ⟨a1,a2,?_⟩
       cases a3:okVs objs.length stk with
       |false=>exact .inl rfl
       |true=>
        cases a4:okVs objs.length env with
        |false=>exact .inr ⟨rfl,rfl⟩
        |true=>exact absurd (by rw[a3,a4,decide_eq_true (by omega)];rfl) hg
      ·exact .inl ⟨a1,a2⟩
     ·exact .inl a1
   rcases bC with hO|⟨hO,h0|h0⟩|⟨hO,k,rfl,aL,a|⟨a1,a2⟩|⟨a1,a2,a3|⟨a3,a4⟩⟩⟩
   ·have ah:(okP p&&Ba (A2 p) objs)=false:=by rw[hO];simp
    repeat' first|refine gf (gi ah o8') ?_ [] [8]|refine CU (am _) ?_|refine callPG (am _) ?_|refine gf (gi ah o8') ?_ o13 [8]|apply gy<;>intro hh
    refine finC (U':=O) (d:=.tup [.agg (Es IT),dI 2]) ⟨by rw[hn];rfl,rfl⟩ (hw:=?_) (hU:=fin0 _)
    exact CA ⟨Dq,A8 _,trivial⟩
   all_goals have ah:(okP p&&Ba (A2 p) objs)=true:=by rw[hO,aE];rfl
   ·repeat' first|refine gf (gi ah o8') ?_ [] [8]|refine CU (am _) ?_|refine callPG (am _) ?_|refine gf (gi ah o8') ?_ o13 [8]|apply gy<;>intro hh
    refine finC (U':=O) (d:=.tup [.agg (Es IT),dI 2]) ⟨by rw[hn];rfl,rfl⟩ (hw:=?_) (hU:=fin0 _)
    exact CA ⟨Dq,A8 _,trivial⟩
   ·repeat' first|refine gf (gi ah o8') ?_ [] [8]|refine CU (am _) ?_|refine callPG (am _) ?_|refine gf (gi ah o8') ?_ o13 [8]|apply gy<;>intro hh
    refine finC (U':=O) (d:=.tup [.agg (Es IT),dI 2]) ⟨by rw[hn];rfl,rfl⟩ (hw:=?_) (hU:=fin0 _)
    exact CA ⟨Dq,A8 _,trivial⟩
   ·repeat' first|refine gf (gi ah (gi o8' om)) ?_ [] [8]|refine CU (am _) ?_|refine callPG (am _) ?_|refine gf (gi ah (gi o8' om)) ?_ o13 [8]|apply gy<;>intro hh
    refine I5 (fun i11 aa=>?_)
    have n11:=Ae o8' aa
    refine gf (gi o8' (gi n11 a)) ?_ o13 [8]
    refine finC (U':=O) (d:=.tup [.agg (Es IT),dI 2]) ⟨by rw[hn];rfl,rfl⟩ (hw:=?_) (hU:=fin1 i11 _ _ aa)
    exact CA ⟨Dq,A8 _,trivial⟩
   ·repeat' first|refine gf (gi ah (gi o8' om)) ?_ [] [8]|refine CU (am _) ?_|refine callPG (am _) ?_|refine gf (gi ah (gi o8' om)) ?_ o13 [8]|apply gy<;>intro hh
    refine I5 (fun i11 aa=>?_)
    have n11:=Ae o8' aa
    refine gf (gi o8' (gi n11 (gi a1 a2))) ?_ o13 [8]
    refine finC (U':=O) (d:=.tup [.agg (Es IT),dI 2]) ⟨by rw[hn];rfl,rfl⟩ (hw:=?_) (hU:=fin1 i11 _ _ aa)
    exact CA ⟨Dq,A8 _,trivial⟩
   ·repeat' first|refine gf (gi ah (gi o8' om)) ?_ [] [8]|refine CU (am _) ?_|refine callPG (am _) ?_|refine gf (gi ah (gi o8' om)) ?_ o13 [8]|apply gy<;>intro hh
    refine I5 (fun i11 aa=>?_)
    have n11:=Ae o8' aa
    refine gf (gi o8' (gi n11 (gi a1 (gi a2 a3)))) ?_ o13 [8]
    refine finC (U':=O) (d:=.tup [.agg (Es IT),dI 2]) ⟨by rw[hn];rfl,rfl⟩ (hw:=?_) (hU:=fin1 i11 _ _ aa)
    exact CA ⟨Dq,A8 _,trivial⟩
   ·repeat' first|refine gf (gi ah (gi o8' om)) ?_ [] [8]|refine CU (am _) ?_|refine callPG (am _) ?_|refine gf (gi ah (gi o8' om)) ?_ o13 [8]|apply gy<;>intro hh
    refine I5 (fun i11 aa=>?_)
    have n11:=Ae o8' aa
    refine gf (gi o8' (gi n11 (gi a1 (gi a2 (gi a3 a4))))) ?_ o13 [8]
    refine finC (U':=O) (d:=.tup [.agg (Es IT),dI 2]) ⟨by rw[hn];rfl,rfl⟩ (hw:=?_) (hU:=fin1 i11 _ _ aa)
    exact CA ⟨Dq,A8 _,trivial⟩
  rw[if_pos hg]at bz
  simp only[Bool.and_eq_true]at hg
  obtain⟨hO,hF⟩:=hg
  have cF:=(Ql (evs:=[]) hO).1 hF
  have ah:(okP p&&Ba (A2 p) objs)=true:=by rw[hO,aE];rfl
  unfold FM at hF
  simp only[Bool.and_eq_true,decide_eq_true_eq]at hF
  obtain⟨⟨f1,f2,f3,f4⟩,f5,f6⟩:=hF
  rw[Nn]at f2
  obtain⟨k,rfl⟩:∃k:Nat,pos=k:=⟨pos.toNat,by omega⟩
  have aL:k<c.ins.length:=by omega
  rw[Int.toNat_natCast,No c W aL,Option.getD_some]at f3 f4
  repeat' first|refine gf (gi ah (gi o8' om)) ?_ [] [8]|refine CU (am _) ?_|refine callPG (am _) ?_|refine gf (gi ah (gi o8' om)) ?_ o13 [8]|apply gy<;>intro hh
  refine I5 (fun i11 aa=>?_)
  have n11:=Ae o8' aa
  refine gf (gi f3 (gi f4 (gi f5 f6))) ?_ (delO 7 o13) [8]
  have o8:=(w7 S0 (.cells [D.int .i64 (getM ⟨0,0⟩ (k:Int) W).st,D.int .i64 (getM ⟨0,0⟩ (k:Int) W).env]) n11).trans o8'
  have hS:Sub O (S0.set i11 (.cells [D.int .i64 (getM ⟨0,0⟩ (k:Int) W).st,D.int .i64 (getM ⟨0,0⟩ (k:Int) W).env])):=fun j o hj=>by
   rw[w7 _ _ (Ae (aC j o hj) aa)];exact aC j o hj
  generalize S0.set i11 (.cells [D.int .i64 (getM ⟨0,0⟩ (k:Int) W).st,D.int .i64 (getM ⟨0,0⟩ (k:Int) W).env])=Sb at*
  refine Ho (id:=7) [0,1,2,3,4,6,7,5,8,9,10,11,12] [5,8,11] (fun _=>none) (fun _ _ h=>by cases h) ?_
  refine gz ?_ o13 [8]
  refine Bx (In stk .no Sb (by omega)) (fun d S1 hr=>?_) (fun d S1 hr=>by obtain⟨_,h,_⟩:=hr;cases h)
  obtain⟨r0,hd,bb⟩:=hr
  replace bb:FrV Sb r0 stk S1:=bb
  cases hd
  refine⟨(fun _ _ h=>by cases h),?_⟩
  refine Bx (In env .no S1 (by omega)) (fun d S2 hr=>?_) (fun d S2 hr=>by obtain⟨_,h,_⟩:=hr;cases h)
  obtain⟨r1,hd,aP⟩:=hr
  replace aP:FrV S1 r1 env S2:=aP
  cases hd
  refine⟨(fun _ _ h=>by cases h),?_⟩
  refine moRr (.agg [dI k,r0.d stk.length,r1.d env.length]) ?_ (hd:=by cases r0<;>cases r1<;>simp)
  refine moRr (.agg ([dI 0,dI 0,dI 0,dI 0,.nils,dI 0,dI 0,.nils,.nils,.nils,.nils]++Aj p++[dI k,r0.d stk.length,r1.d env.length])) ?_ (hd:=by cases r0<;>cases r1<;>simp)
  refine moBox (AN p (R01 r0 r1) ⟨[],[],k,stk,env⟩) (fun ir bR=>?_) (hC:=fun _ _ h=>by cases h)
  have ap:=RunS.init (p:=p) (pos:=(k:Int)) bb aP bR
  have bZ:∀j o,Sb j=some o->(S2.set ir (.cells (AN p (R01 r0 r1) ⟨[],[],k,stk,env⟩))) j=some o/\j≠ir /\ ∀a, ¬(R01 r0 r1 a).is j:=fun j o hj=>by
   have a1:=bb.2.1 j o hj id
   have a2:=aP.2.1 j o a1.1 id
   have ak:=Ae a2.1 bR
   refine⟨by rw[w7 _ _ ak];exact a2.1,ak,fun a ha=>?_⟩
   unfold R01 at ha
   by_cases e1:a=1
   ·subst e1;rw[Ak]at ha;exact a2.2 ha
   ·rw[A7 _ _ e1]at ha
    by_cases e0:a=0
    ·subst e0;rw[Ak]at ha;exact(aP.2.1 j o a1.1 id).2 (absurd ha a1.2)
    ·rw[A7 _ _ e0]at ha;exact ha
  generalize S2.set ir (.cells (AN p (R01 r0 r1) ⟨[],[],k,stk,env⟩))=S3 at*
  refine gz ?_ o13 [8]
  refine A4 (TZ objs o1 S3 ce bq) (fun d S4 hr=>?_) (fun d S4 hr=>by obtain⟨_,h,_⟩:=hr;cases h)
  obtain⟨R',hd,hT⟩:=hr
  cases hd
  have o4:=(hT.keep ir _ ap.obj).1
  refine gz ?_ o13 [8]
  refine storeRw (r:=R' 3) (k:=9) o4 ?_
  obtain⟨p1,p2⟩:=ap.swap (R':=R') (l:=objs) (fun j o h _ _=>h) ap.obj hT rfl
  have bH:∀j o,Sb j=some o->(S4.set ir (.cells (AN p (Ew (R01 r0 r1) R') ⟨objs,[],k,stk,env⟩))) j=some o/\j≠ir /\ ∀a, ¬(Ew (R01 r0 r1) R' a).is j:=fun j o hj=>by
   obtain⟨a1,a2,a3⟩:=bZ j o hj
   exact⟨(p2 j o a1 a2 a3).1,a2,(p2 j o a1 a2 a3).2⟩
  refine drp (S4.set ir (.cells (AN p (Ew (R01 r0 r1) R') ⟨objs,[],k,stk,env⟩))) ?_ (by exact Sub.refl _)
  generalize S4.set ir (.cells (AN p (Ew (R01 r0 r1) R') ⟨objs,[],k,stk,env⟩))=S5 at p1 bH⊢
  generalize Ew (R01 r0 r1) R'=R5 at p1 bH
  clear p2 bZ ap bb aP hT o4
  have hW:=SM aE
  have bS:∀n:Nat,0<=p.gens.getD n 0:=fun n=>(GX aE n).1
  refine gz ?_ o13 [8]
  refine FH [5,8,9,12,13,122,123,124,125] (fun (s:GoS) (R:Nat->RW) (S1:Sig)=>GInv (A2 p) (fun j=>(DV c W)[j]?) s/\RunS ir p R s S1/\(∀j o,Sb j=some o->S1 j=some o/\j≠ir /\ ∀a, ¬(R a).is j)/\H=some (mRun p (A2 p) c c.ins.length s)/\(s.stk.length:Int)<=900000+s.pos/\(s.env.length:Int)<=900000+s.pos/\(s.evs.length:Int)<=s.pos) (fun _ _ _=>[]) (fun _ _ S1=>S1) (fun s _ _=>c.ins.length-s.pos.toNat) (⟨objs,[],k,stk,env⟩) (R5) (S5) (by exact⟨cF,p1,bH,bz,by simp only;omega,by simp only;omega,by simp only[List.length_nil];omega⟩) (fun s R S1 hI=>?_)
  obtain⟨hG,hR,hK,aQ,b1,b2,b3⟩:=hI
  obtain⟨h0,⟨l,hl,ag,cr⟩,cb,cJ,ca⟩:=id hG
  have bt:=ax.dom _ _ hl
  obtain⟨env',next,bk,g1,g2,g3,g4⟩:=ax.ok _ _ hl
  have aM:=Jg bS hW ax hG
  have aA:=PI bS hW ax hG
  obtain⟨q,hq⟩:∃q:Nat,s.pos=q:=⟨s.pos.toNat,by omega⟩
  have hx:AC c s.pos.toNat=c.ins[s.pos.toNat]:=by unfold AC;rw[List.getElem?_eq_getElem bt];rfl
  rw[hx]at bk aM aA
  have aj:=ax.fits _ _ (List.getElem?_eq_getElem bt)
  simp only[hq,Int.toNat_natCast]at bt bk aM aA aj b1 b2 b3
  obtain⟨x,bm⟩:∃x,x=c.ins[q]:=⟨_,rfl⟩
  rw[<-bm]at bk aM aA aj
  obtain⟨u1,u2⟩:=fits_rg aj
  obtain⟨j,hj⟩:∃j:Nat,x.op=j:=⟨x.op.toNat,by omega⟩
  have bD:=actAt (j:=j) (by omega) (by omega)
  have q1:=hR.obj
  refine gf (gi q1 (gi hq bm.symm)) ?_ o13 [8]
  refine I5 (fun i14 aw=>?_)
  have n14:=Ae q1 aw
  refine gf (gi q1 (gi hq bm.symm)) ?_ (delO 12 o13) [8]
  have aZ:=hR.newO aw (.cells (cIns x))
  obtain⟨p3,p4⟩:=aZ.at ((q:Int)+1) rfl
  have o14:((S1.set i14 (.cells (cIns x))).set ir (.cells (AN p R { s with pos:=(q:Int)+1 }))) i14=some (.cells (cIns x)):=by rw[w7 _ _ n14.symm,w6]
  refine DA (Uw (U':=(S1.set i14 (.cells (cIns x))).set ir (.cells (AN p R { s with pos:=(q:Int)+1 }))) (by exact Sub.refl _)) ?_
  have bY:∀j o,Sb j=some o->((S1.set i14 (.cells (cIns x))).set ir (.cells (AN p R { s with pos:=(q:Int)+1 }))) j=some o/\j≠ir /\ ∀a, ¬(R a).is j:=fun j o hj=>by
   obtain⟨a1,a2,a3⟩:=hK j o hj
   exact⟨by rw[w7 _ _ a2,w7 _ _ (Ae a1 aw)];exact a1,a2,a3⟩
  have nr14:∀a, ¬(R a).is i14:=fun a ha=>by
   obtain⟨z,hz⟩:=(hR.rows.ok a).cells ha
   rw[aw]at hz;cases hz
  have n14':i14≠ir:=n14.symm
  generalize (S1.set i14 (.cells (cIns x))).set ir (.cells (AN p R { s with pos:=(q:Int)+1 }))=S6 at p3 o14 bY⊢
  clear p4 aZ q1 n14 aw
  refine Ho (id:=12) [0,1,2,3,4,5,6] [6] (S6.out fun j=>j≠i14) (Cr _ _) ?_
  have u14:=Df (touch:=fun j=>j≠i14) o14 (by simp)
  have bJ:=Ut (t:={ s with pos:=(q:Int)+1 }) hp aE bk aj g3 ag cr cb ca (by simp only;omega) (by simp only;omega) (by simp only;omega) p3
  refine gf (gi hj (gi bD u14)) ?_ o13 [8]
  rw[hj]at bJ
  refine Bx bJ (fun d S7 hr=>?_) (fun d S7 hr=>?_)
  rotate_left
  ·obtain⟨_,_,h⟩:=hr
   split at h<;>cases h.1
  obtain⟨R2,aD,h⟩:=hr
  refine⟨fun y o hy=>?_,?_⟩
  ·obtain⟨y1,y2⟩:=Cs hy
   obtain rfl:y=i14:=Classical.byContradiction y2
   exact(aD _ _ y1 n14' nr14).1
  have ba:∀j o,Sb j=some o->S7 j=some o/\j≠ir /\ ∀a, ¬(R2 a).is j:=fun j o hj=>by
   obtain⟨a1,a2,a3⟩:=bY j o hj
   exact⟨(aD j o a1 a2 a3).1,a2,(aD j o a1 a2 a3).2⟩
  cases aO:I9 p (A2 p) x { s with pos:=(q:Int)+1 } with
  |inl t'=>
   have cg:=PH aO
   rw[aO]at h aM aA
   obtain⟨hd,cB⟩:=h
   obtain⟨k1,k2⟩:=aM
   have k3:=k1.lo
   cases hd
   simp only at cg aA
   refine gz ?_ o13 [8]
   exact⟨t',R2,S7,⟨k1,cB,ba,by rw[aQ,aA],by omega,by omega,by omega⟩,td1,wkR⟩
  | inr h' =>
   rw[aO]at h aA
   obtain⟨hd,s',av,b,b8⟩:=h
   cases hd
   simp only at aA
   repeat ((fail_if_success (first|(refine haltD b8 (fun S8 tl o9 k9=>?_))|fail));(refine goX1 trivial ?_))
   refine haltD b8 (fun S8 tl o9 k9=>?_)
   have o8b:S8 i8=_:=k9 i8 _ (ba i8 _ o8).1 (ba i8 _ o8).2.1 (ba i8 _ o8).2.2
   have cy:Sub O S8:=fun j o hj=>by
    obtain⟨a1,a2,a3⟩:=ba j o (hS j o hj)
    exact k9 j o a1 a2 a3
   simp only[Es,List.cons_append,List.nil_append]at o9
   refine gf (gi o9 o8b) ?_ o13 [8]
   refine finC (U':=O) (d:=.tup [.agg (Es h'),dI 0]) ⟨by rw[aQ,aA];rfl,rfl⟩ (hw:=?_) (hU:=fun j o hj=>by rw[w7 _ _ (Ae hj aW)];exact cy j o hj)
   exact A8 _
def exB:BProg:=⟨[⟨[],[0],[⟨0,7⟩]⟩,⟨[3],[1],[]⟩,⟨[4,3],[],[⟨0,1⟩]⟩],2,[1],[⟨1,0,.mk 2 0 [] 3 0 [],0⟩,⟨2,0,.mk 3 0 [0] 0 5 [],3⟩],
 [⟨17,0,[1]⟩,⟨4,0,[2]⟩,⟨3,0,[]⟩,⟨9,0,[4,5]⟩,⟨3,0,[]⟩,⟨3,1,[]⟩,⟨5,0,[7]⟩,⟨6,5,[]⟩],6⟩
def exC:CProg:=⟨[⟨3,0⟩,⟨5,0⟩,⟨7,0⟩,⟨21,0⟩,⟨3,0⟩,⟨14,0⟩,⟨3,1⟩,⟨15,0⟩,⟨21,0⟩,⟨4,5⟩,⟨19,0⟩,⟨21,0⟩],[0,4],9⟩
def exL:List CLev:=[⟨0,1⟩,⟨1,1⟩,⟨1,1⟩,⟨1,1⟩,⟨0,1⟩,⟨1,1⟩,⟨0,2⟩,⟨1,2⟩,⟨1,1⟩,⟨0,0⟩,⟨1,0⟩,⟨1,0⟩]
theorem Jp{l m:List Int}(h:∀x,x∈l ↔ x∈m): ∀(a:List Init) (seen:List Int),DW l seen a=DW m seen a
 |[],_=>rfl
 |x::r,seen=>by rw[DW,DW,Jp h r,decide_eq_decide.2 (h x.slot)]
def If(p:BProg):Nat->List BClass->Bool
 |_,[]=>true
 |i,c::r=>decide (linE (p.classes.map (·.parents)) ((i:Int)+3)=0)&&DW (hasG p.classes (((i:Int)+3)-2).toNat [((i:Int)+3)] []) [] c.inits&&If p (i+1) r
theorem Hh(p:BProg): ∀(l:List BClass) (i:Nat),Bf p i l=If p i l
 |[],_=>rfl
 |c::r,i=>by
  rw[Bf,If,Hh p r]
  congr 2
  exact Jp (fun x=>by unfold hasP EA;exact List.mem_mergeSort) _ _
theorem Uc:Bf exB 0 exB.classes=true:=by rw[Hh];decide +kernel
theorem OO:AA exB=true:=by
 unfold AA
 have h1:C5 0 exB.classes=some 2:=by decide +kernel
 have h2:Cu (exB.classes.map (·.parents))=true:=by decide +kernel
 have h3:decide (exB.classes.length<=10)=true:=by decide +kernel
 have h4:decide ((2:Int)=exB.slots)=true:=by decide +kernel
 rw[h1,h3]
 simp only[h2,h4,Uc,Bool.and_self,Bool.and_true]
theorem Ub:okP exB=true:=by
 unfold okP Dm
 rw[OO]
 decide +kernel
theorem Ux:EA [1,0]=[0,1]:=by simp[EA,List.mergeSort,List.MergeSort.Internal.splitInTwo,List.merge]
theorem ex_has5:hasP exB 5=[0,1]:=by
 unfold hasP
 rw[show hasG exB.classes ((5:Int)-2).toNat [5] []=[1,0] by decide +kernel,Ux]
theorem ex_has4:hasP exB 4=[0,1]:=by
 unfold hasP
 rw[show hasG exB.classes ((4:Int)-2).toNat [4] []=[1,0] by decide +kernel,Ux]
theorem ex_has3:hasP exB 3=[0]:=by
 unfold hasP
 rw[show hasG exB.classes ((3:Int)-2).toNat [3] []=[0] by decide +kernel]
 simp[EA]
theorem RY:E4 exB 5=[⟨0,1⟩]:=by unfold E4;rw[ex_has5];decide +kernel
theorem RZ:E4 exB 4=[⟨0,7⟩]:=by unfold E4;rw[ex_has4];decide +kernel
theorem Sc:E4 exB 3=[⟨0,7⟩]:=by unfold E4;rw[ex_has3];decide +kernel
def exW:CWorld:=⟨fun c=>decide (3<=c)&&decide (c<6),fun c=>if c=3 then [0] else if c=4 then [0,1] else if c=5 then [0,1] else hasP exB c,
 fun c=>if c=3 then [vInt 7] else if c=4 then [vInt 7,Eb] else if c=5 then [vInt 1,Eb] else(hasP exB c).map (frV (E4 exB c))⟩
theorem Kt:A2 exB=exW:=by
 unfold A2 exW
 rw[Ub]
 congr 1
 ·funext c
  unfold ownF
  simp[exB]
 ·funext c
  split
  ·rename_i e;subst e;exact ex_has3
  split
  ·rename_i e;subst e;exact ex_has4
  split
  ·rename_i e;subst e;exact ex_has5
  rfl
 ·funext c
  split
  ·rename_i e;subst e;rw[ex_has3,Sc];rfl
  split
  ·rename_i e;subst e;rw[ex_has4,RZ];rfl
  split
  ·rename_i e;subst e;rw[ex_has5,RY];rfl
  rfl
theorem ex_code:MW exB=exC:=by unfold MW;rw[if_pos Ub];kernel_rfl
theorem Gu:Ei exB exC=some exL:=by
 unfold Ei
 rw[Ub]
 kernel_rfl
theorem RX:(C3 exB exC).map (DV exC)=some exL:=by rw[<-Ia,Gu]
def exH1:GoH:=⟨2,vZ,0,[vObj 0],0,11,[],[],[⟨5,[vInt 1,Eb]⟩],[]⟩
def exH2:GoH:=⟨1,vInt 1,0,[],0,0,[],[],[⟨5,[vInt 1,Eb]⟩],[⟨2,0,[vInt 1]⟩]⟩
def exH3:GoH:=⟨4,vZ,0,[],5,0,[],[],[],[]⟩
theorem ex_go1:goC exB (A2 exB) exC [] 9 [] []=some exH1:=by
 unfold goC
 rw[Gu,Kt]
 kernel_rfl
theorem ex_go2:goC exB (A2 exB) exC [⟨5,[vInt 1,Eb]⟩] 0 [] [vObj 0]=some exH2:=by
 unfold goC
 rw[Gu,Kt]
 kernel_rfl
theorem ex_go3:goC exB (A2 exB) exC [] 0 [] [vInt 3]=some exH3:=by
 unfold goC
 rw[Gu,Kt]
 kernel_rfl
theorem Ua:AM exC=true:=by decide +kernel
theorem RV:KM exC=[48,32,52,32,58,32,57,10,110,97,109,101,32,48,10,115,108,111,116,32,48,10,111,117,116,10,101,110,100,10,110,97,109,101,32,48,10,108,101,116,10,110,97,109,101,32,49,10,100,114,111,112,10,101,110,100,10,110,101,119,32,53,10,99,97,108,108,32,48,10,101,110,100,10]:=by decide +kernel
theorem UL:exL.length=12:=rfl
theorem NG:(BD exC).length=25:=by decide +kernel
end Go.DL
