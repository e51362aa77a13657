/- A part of the proof. -/
import Derived.Test.YteldimffglchkaaGreatDoorR20
import Derived.Test.YteldimffglchkaaGreatDoorR18
import Derived.Test.YteldimffglchkaaGreatDoorR12
set_option linter.all false
namespace Go.DL
open Go.Proofs.Tryz
open Go Go.Proofs
set_option maxHeartbeats 80000000
@[simp] theorem cSt_len(s:CSt):(cSt s).length=3:=rfl
@[simp] theorem cSt_take(s:CSt):List.take 3 (cSt s)=cSt s:=rfl
@[simp] theorem mem_cSt(y:D)(s:CSt):y∈cSt s ↔ y=dI s.pos\/y=dI s.env\/y=.bool s.next:=by simp[cSt]
theorem Tv(p:BProg)(c:CProg)(im:Nat)(s:CSt)(O:Sig):DCall prog 100 [cChk p c im,.agg (cSt s)] O (rS (.func (.func 169) [] [.cptr [cChk p c im] 0,.cptr (cSt s) 0]) O):=by
 refine en func100 ntmps100 ?_
 refine gz ?_
 exact fe1 trivial
@[reducible,instance] def a100:=fun p c im s O=>ah0 (@Tv p c im s O)
theorem LU: ∀(l:List Int) (n m:Int),Cy n l=some m->n<=m/\m<=n+l.length
 |[],n,m,h=>by rw[Cy]at h;cases h;simp
 | s::r,n,m,h=>by
  rw[Cy]at h
  split at h
  ·have:=LU r _ _ h
   simp only[List.length_cons];omega
  ·cases h
theorem KM: ∀(cs:List BClass) (n m:Int),B4 n cs=some m->n<=m/\m<=n+4*cs.length
 |[],n,m,h=>by rw[B4]at h;cases h;simp
 | c::r,n,m,h=>by
  rw[B4]at h
  split at h
  ·cases h
  ·split at h
   ·cases h
   ·rename_i m1 h1
    have:=LU _ _ _ h1
    have:=KM r _ _ h
    simp only[List.length_cons];omega
theorem Us{p:BProg}(h:okP p=true):0<=p.slots/\p.slots<=40:=by
 have h:=ER h
 unfold Ax at h
 simp only[Bool.and_eq_true,decide_eq_true_eq]at h
 obtain⟨cC,h⟩:=h
 split at h
 ·cases h
 ·rename_i n hn
  simp only[Bool.and_eq_true,decide_eq_true_eq]at h
  have:=KM _ _ _ hn
  omega
theorem M4(p:BProg): ∀(l:List BMeth) (s s':List Int),Cw p l s=some s'->∀m∈l,0<=m.gen/\m.gen<p.gens.length
 |[],_,_,_,m,hm=>by cases hm
 | a::r,s,s',h,m,hm=>by
  rw[Cw]at h
  split at h
  ·rename_i bN
   rcases List.mem_cons.1 hm with rfl|hm
   ·simp only[Gx,Bool.and_eq_true,decide_eq_true_eq]at bN
    exact bN.1.1.2
   ·split at h
    ·cases h
    ·exact M4 p r _ _ h m hm
  ·cases h
theorem Rn{p:BProg}(h:okP p=true): ∀m∈p.methods,0<=m.gen/\m.gen<p.gens.length:=by
 unfold okP Df at h
 split at h
 ·cases hm:Cw p p.methods (List.replicate p.nodes.length (-1))with
  |none=>rw[hm]at h;simp at h
  |some s=>exact M4 p _ _ _ hm
 ·cases h
def LF(p:BProg)(c:CProg):Option MetL:=if Cs p c.ins.length c.ins 0 then It p c else none
def LkR(p:BProg)(c:CProg)(im:Nat)(O:Sig)(x:DE)(U':Sig):Prop:=Keep (· = im) O U'/\match LF p c with
 |none=>x=.panic unfC
 |some W=>x=.ret (.tup [])/\U' im=some (.map (eIL W))
theorem finMN{P:Program}{n:Nat}{fn:Func}{R:DE->Sig->Prop}{γ:Fr}{O U':Sig}{d d':D}(js:List Nat)(hR:R (.ret d') U')(hZ:Sub U' (dels js O))(hn:js.Nodup:=by simp)(hd:∀j∈js,O j=some .defs:=by simp)(h:resD fn γ=some d:=by exact tdR)(hw:WkD d d'): ∃s',Wk P n ⟨γ,O,js.map .coll⟩ s'/\Q3 P n fn (Weak R) .normal s':=
 ⟨_,Wk.refl _ _ _,js,rfl,hn,hd,d,Ds h,.ret d',U',hw,hZ,hR⟩
theorem Vb (p:BProg) (c:CProg) (im:Nat) (O:Sig) (hp:p.wt<=1073741824) (hk:okP p=true) (hc:c.ins.length<=300) (ar:c.starts.length=p.methods.length) (hm:O im=some (.map (eIL []))):DCall prog 98 [.cptr (cCPg c) 0, .cptr [cChk p c im] 0, .cptr (Ad p) 0] O (LkR p c im O):=by
 obtain⟨p1,p2,p3,p4,p5,p6,p7⟩:=p.wt_le
 have cy:=Us hk
 have aI:=GC hk
 obtain⟨g1,g2,g3,g4,g5⟩:=FZ hk
 have ci:=Rn hk
 refine F2 func98 rfl (by decide) ntmps98 (by simp) ?_
 refine gz ?_ o98
 refine BV [0,1,2,5,6,7,8,10,11,12,13,14,16,17,28,29,30,31,32,33,34,35,36,37,38,39,40,41,42,43,44,45,46,47,48,49,50,51,52,53,54,55,56,57,58,59,60,61,62,63,64,65,66,67,68,69,70,71,72,73,74,75,76,77,78,79,80,81,82,83,84,85,86,87,88,89,90,91,92,93,94,95,96,97,98,99,100,101,102,103,104,105,106,107,108,109,110,111,112] (fun (q:Nat)=>q<=c.ins.length/\Cs p c.ins.length c.ins 0=Cs p c.ins.length (c.ins.drop q) q) (fun q=>[(18,dI q)]) (fun _=>O) (fun q=>c.ins.length-q) (0) (by exact⟨by omega,rfl⟩) (fun q hI=>?_)
 obtain⟨hq,hA⟩:=hI
 by_cases aE:q<c.ins.length
 ·rw[A5 aE,Cs]at hA
  generalize hx:c.ins[q]=x at*
  repeat' first|refine gf hx ?_ o98|apply gy<;>intro hh
  ·rw[hh,Bool.true_and]at hA
   exact⟨q+1,⟨by omega,hA⟩,td1,wkR⟩
  ·rw[hh,Bool.false_and]at hA
   have hL:LF p c=none:=by unfold LF;rw[hA];rfl
   exact finMP [] (U':=O) ⟨Keep.refl _ _,by rw[hL]⟩ (Sub.refl _)
 ·rw [A9 aE,Cs] at hA
  have bV:LF p c=It p c:=by unfold LF;rw[hA];rfl
  have br:stsQ p c=⟨c.main,0,false⟩::List.zipWith (CV p) p.methods c.starts:=rfl
  refine gz ?_ o98
  clear aE hq
  refine Ph [0,1,2,10,11,12,13,14,33,34,68,69,70,71,72,73,74,75,76,77,78,79,80,81,82,83,84,85,86,87,88,89,90,91,92,93,94,95,96,97,98,99,100,101,102,103,104,105,106,107,108,109,110,111,112] (fun (q:Nat) (out:List CSt) (o:Own) (S1:Sig)=>q<=c.starts.length/\out.length=q+1/\out++List.zipWith (CV p) (p.methods.drop q) (c.starts.drop q)=stsQ p c/\RowR 3 O S1 (out.map cSt) o) (fun q out o _=>[(35,dI q),(5,.slice (out.map cSt) o)]) (fun _ _ _ S1=>S1) (fun q _ _ _=>c.starts.length-q) (0) ([⟨c.main,0,false⟩]) (.clip) (O) (by exact⟨by omega,rfl,rfl,.inl ⟨rfl,rfl⟩⟩) (fun q out o S1 hI=>?_)
  obtain⟨hq,bx,hO,aZ⟩:=hI
  by_cases aE:q<c.starts.length
  ·have bL:q<p.methods.length:=by omega
   rw[A5 aE,A5 bL,List.zipWith_cons_cons]at hO
   have bi:=ci _ (List.getElem_mem bL)
   generalize bQ:p.methods[q]=m at*
   have ck:p.gens.getD m.gen.toNat 0=p.gens[m.gen.toNat]'(by omega):=by rw[List.getD_eq_getElem?_getD,List.getElem?_eq_getElem (by omega)];rfl
   have bO:JI m=(decide (m.kind=1)||decide (m.kind=4)):=rfl
   have bP:CV p m c.starts[q]=⟨c.starts[q],p.gens[m.gen.toNat]'(by omega),JI m⟩:=by unfold CV;rw[ck]
   refine gf bQ ?_ (delO 10 o98)
   refine Fx (id:=10) [0,1,2,3,4,5,6,7,8,9,10,11,12,13,14,15,16,17,18,19,20,21] [20] O aZ.sub ?_
   repeat' first|refine gf bQ ?_ o98|apply gy<;>intro hh
   ·have aH:cSt (CV p m c.starts[q])=[dI c.starts[q],dI (p.gens[m.gen.toNat]'(by omega)),.bool true]:=by rw[bP,bO];simp[cSt,hh]
    refine W8 (sz:=3) aZ (Sub.refl _) (fun j hj=>?_)
    have b6:WkD (.slice (out.map cSt++[[dI c.starts[q],dI (p.gens[m.gen.toNat]'(by omega)),.bool true]]) (.tag j)) (.slice ((out++[CV p m c.starts[q]]).map cSt) (.tag j)):=BX (by rw[<-aH];simp)
    refine gz ?_ o98
    exact⟨q+1,out++[CV p m c.starts[q]],.tag j,O.set j (.tail 3 ((out++[CV p m c.starts[q]]).map cSt).length),⟨by omega,by rw[List.length_append,bx];rfl,by rw[List.append_assoc];exact hO,.inr ⟨j,hj,rfl,rfl⟩⟩,td1,wkR⟩
   ·have aH:cSt (CV p m c.starts[q])=[dI c.starts[q],dI (p.gens[m.gen.toNat]'(by omega)),.bool (decide (m.kind=4))]:=by rw[bP,bO];simp[cSt,hh]
    refine W8 (sz:=3) aZ (Sub.refl _) (fun j hj=>?_)
    have b6:WkD (.slice (out.map cSt++[[dI c.starts[q],dI (p.gens[m.gen.toNat]'(by omega)),.bool (decide (m.kind=4))]]) (.tag j)) (.slice ((out++[CV p m c.starts[q]]).map cSt) (.tag j)):=BX (by rw[<-aH];simp)
    refine gz ?_ o98
    exact⟨q+1,out++[CV p m c.starts[q]],.tag j,O.set j (.tail 3 ((out++[CV p m c.starts[q]]).map cSt).length),⟨by omega,by rw[List.length_append,bx];rfl,by rw[List.append_assoc];exact hO,.inr ⟨j,hj,rfl,rfl⟩⟩,td1,wkR⟩
  ·rw [List.drop_eq_nil_of_le (by omega),List.drop_eq_nil_of_le (by omega),List.zipWith_nil_left,List.append_nil] at hO
   have cd:S1 im=some (.map (eIL [])):=aZ.sub _ _ hm
   have co:Sub O S1:=aZ.sub
   have b9:out.length<=17:=by omega
   have bE:∀s∈out,0<=s.env/\s.env<=1000:=fun s hs=>by
    rw[hO,br]at hs
    rcases List.mem_cons.1 hs with rfl|hs
    ·simp
    ·obtain⟨k,ah,rfl⟩:=List.getElem_of_mem hs
     rw[List.getElem_zipWith]
     have:=aI (p.methods[k]'(by simp at ah;omega)).gen.toNat
     show 0<=p.gens.getD _ 0/\p.gens.getD _ 0<=1000
     omega
   have ba:MonoG (fun (O:Sig) (W:MetL)=>O im=some (.map (eIL W))):=fun O U' s hg hj=>hj _ _ hg rfl
   refine gz ?_ o98
   refine loopD4 [0,1,68,69,77,78,103,104,105,106,107,108,109,110,111,112] (fun (j:Nat) (W:MetL) (S2:Sig) (js:List Nat)=>j<=out.length/\allL p c out []=allL p c (out.drop j) W/\S2 im=some (.map (eIL W))/\Keep (· = im) O S2/\js.Nodup/\(∀i∈js,O i=none/\S2 i=some .defs)) (fun j _ _ _=>[(70,dI j)]) (fun _ _ S2 _=>S2) (fun _ _ _ js=>js.map .coll) (fun j _ _ _=>out.length-j) (0) ([]) (S1) ([]) (by exact⟨by omega,rfl,cd,fun k x hk _=>co _ _ hk,by simp,by simp⟩) (fun j W S2 js hI=>?_)
   obtain⟨hj,hR,hm2,bb,bf,aG⟩:=hI
   by_cases bB:j<out.length
   ·rw [A5 bB,allL] at hR
    have cm:=bE _ (List.getElem_mem bB)
    generalize hs:out[j]=s at*
    refine gf hs ?_ o98
    have aX:∀i:Nat,i=im->S2 i≠none:=fun i hi=>by rw[hi,hm2];simp
    refine rangeG unfC (fun (O:Sig) (W:MetL)=>O im=some (.map (eIL W))) (· = im) (· = im) (B5 p c s FF W) W (ba.indep _) ba.fresh hm2 aX aX rfl (fun l did LO SL bl hd hl bK cB bm ca=>?_) (fun did W' U' ho au bF cu aW=>?_) (fun did U' ho au bF aW=>?_)
    ·have cr:SL l=some LO:=bm.1
     have cq:SL im=some (.map (eIL W)):=bm.2.1
     refine T5 p c im s l _ _ _ FF hp hc hA aI cm (fun k lv S3 W3 ce ax=>?_) SL W bm (fun a ha S3 W3 o ax=>?_) ca (fun S3 W3 ax=>ax.2.2)
     ·have aU:(S3.set l (CU LO)) im=some (.map (eIL W3)):=ax.busy bl (ba.indep _) hl
      obtain⟨la,lz⟩:=lv
      have bJ:∀x,Keep (· = im) (S3.set l (CU LO)) ((S3.set l (CU LO)).set im x):=fun x j y hj hn=>by rw[w7 _ _ hn];exact hj
      have aK:=fun (ar:FF k ⟨la,lz⟩ W3=some (putM (k:Int) ⟨la,lz⟩ W3))=>ar
      refine NE bl ax.1 ?_
      refine gz ?_ o98
      refine⟨ax.1,?_⟩
      have bW:=ax.bad hl (fun j h=>h) (Keep.refl (· = im) (S3.set l (CU LO)))
      generalize bU:S3.set l (CU LO)=Sb at aU bJ bW⊢
      cases hh:hasM (k:Int) W3 with
      |false=>
       have ar:FF k ⟨la,lz⟩ W3=some (putM (k:Int) ⟨la,lz⟩ W3):=by unfold FF;exact if_neg fun h=>by rw[hh]at h;cases h.1
       refine gf (gi aU hh) ?_ o98
       exact endRN ar bl (ba.indep _) ax bK hl (w6 ..) (by rw[bU];exact bJ _)
      | true =>
       refine gf (gi aU hh) ?_ o98
       refine eqlS _ (decide (getM ⟨0,0⟩ (k:Int) W3=(⟨la,lz⟩:CLev))) MK Ma (TC _ _) ?_
       by_cases he:getM ⟨0,0⟩ (k:Int) W3=(⟨la,lz⟩:CLev)
       ·have ar:FF k ⟨la,lz⟩ W3=some (putM (k:Int) ⟨la,lz⟩ W3):=by unfold FF;exact if_neg fun h=>h.2 he
        refine gf (gi aU he) ?_ o98
        exact endRN ar bl (ba.indep _) ax bK hl (w6 ..) (by rw[bU];exact bJ _)
       ·have ar:FF k ⟨la,lz⟩ W3=none:=by unfold FF;exact if_pos ⟨hh,he⟩
        refine gf (gi aU he) ?_ o98
        exact endRP ar bW
     ·have e1:l≠a:=fun e=>by rw[<-e,cr]at ha;cases ha
      have e2:im≠a:=fun e=>by rw[<-e,cq]at ha;cases ha
      refine⟨by rw[w7 _ _ e1];exact ax.1,by show(S3.set a o) im=_;rw[w7 _ _ e2];exact ax.2.1,fun j x hj hn=>?_⟩
      rw[w7 _ _ fun e=>?_]
      ·exact ax.2.2 j x hj hn
      ·have:=bm.2.2 j x hj hn
       rw[e,ha]at this;cases this
    ·rw [ho] at hR
     simp only at hR
     refine gz ?_ o98
     have bD:Keep (· = im) O U':=fun k x ah hn=>(aW k x (bb k x ah hn) hn).1
     have bC:(did::js).Nodup:=List.nodup_cons.2 ⟨fun aB=>(by rw[(aG did aB).2]at au;cases au),bf⟩
     have bh:∀i∈did::js,O i=none/\U' i=some .defs:=fun i hi=>by
      rcases List.mem_cons.1 hi with rfl|hi
      ·refine⟨?_,bF⟩
       cases bG:O i with
       |none=>rfl
       |some x=>
        by_cases e:i=im
        ·rw[e,hm2]at au;cases au
        ·rw[bb _ _ bG e]at au;cases au
      ·obtain⟨h1,h2⟩:=aG i hi
       exact⟨h1,(aW i _ h2 fun e=>by rw[e,hm2]at h2;cases h2).1⟩
     exact⟨j+1,W',U',did::js,⟨by omega,hR,cu,bD,bC,bh⟩,td1,wkR⟩
    ·rw [ho] at hR
     simp only at hR
     have hL:LF p c=none:=by rw[bV];unfold It;rw[<-hO,hR]
     have bD:Keep (· = im) O U':=fun k x ah hn=>(aW k x (bb k x ah hn) hn).1
     have bC:(did::js).Nodup:=List.nodup_cons.2 ⟨fun aB=>(by rw[(aG did aB).2]at au;cases au),bf⟩
     have bh:∀i∈did::js,O i=none/\U' i=some .defs:=fun i hi=>by
      rcases List.mem_cons.1 hi with rfl|hi
      ·refine⟨?_,bF⟩
       cases bG:O i with
       |none=>rfl
       |some x=>
        by_cases e:i=im
        ·rw[e,hm2]at au;cases au
        ·rw[bb _ _ bG e]at au;cases au
      ·obtain⟨h1,h2⟩:=aG i hi
       exact⟨h1,(aW i _ h2 fun e=>by rw[e,hm2]at h2;cases h2).1⟩
     exact finMP (did::js) (U':=dels (did::js) U') ⟨fun k x ah hn=>by
      rw[Lz _ U' k fun aB=>by rw[(bh k aB).1]at ah;cases ah];exact bD k x ah hn,by rw[hL]⟩ (Sub.refl _) bC fun i hi=>(bh i hi).2
   ·rw[A9 bB,allL]at hR
    have hlen:(eIL W).length=W.length:=by unfold eIL eM;simp
    have hw:LF p c=if W.length=c.ins.length then some W else none:=by rw[bV];unfold It;rw[<-hO,hR]
    have bS:Keep (· = im) O (dels js S2):=fun k x ah hn=>by
     rw[Lz _ S2 k fun aB=>by rw[(aG k aB).1]at ah;cases ah];exact bb k x ah hn
    have cn:(dels js S2) im=some (.map (eIL W)):=by
     rw[Lz _ S2 im fun aB=>by rw[(aG im aB).1]at hm;cases hm];exact hm2
    by_cases he:W.length=c.ins.length
    ·rw[if_pos he]at hw
     refine gf (gi hm2 (gi hlen he)) ?_ o98
     exact finMN js (U':=dels js S2) (d':=.tup []) ⟨bS,by rw[hw];exact⟨rfl,cn⟩⟩ (Sub.refl _) bf (fun i hi=>(aG i hi).2) (hw:=Ab _)
    ·rw[if_neg he]at hw
     refine gf (gi hm2 (gi hlen he)) ?_ o98
     exact finMP js (U':=dels js S2) ⟨bS,by rw[hw]⟩ (Sub.refl _) bf fun i hi=>(aG i hi).2
def LokR(p:BProg)(c:CProg)(O:Sig)(x:DE)(U':Sig):Prop:=match By p c with
 |none=>x=.ret .nilp/\U'=O
 |some W=> ∃im,O im=none/\x=.ret (cChk p c im)/\U'=O.set im (.map (eIL W))
theorem Jg(p:BProg)(c:CProg)(O:Sig)(hp:p.wt<=1073741824)(bk:c.ins.length<=1073741824)(bj:c.starts.length<=1073741824):DCall prog 44 [.agg (Ad p),.agg (cCPg c)] O (LokR p c O):=by
 obtain⟨p1,p2,p3,p4,p5,p6,p7⟩:=p.wt_le
 refine en func44 ntmps44 ?_
 by_cases aA:okP p=true/\c.ins.length<=300/\c.starts.length=p.methods.length
 ·obtain⟨hk,bc,ar⟩:=aA
  have hL:By p c=LF p c:=by
   unfold By LF
   rw[hk,decide_eq_true bc,decide_eq_true ar]
   simp
  refine gf (gi hk ar) ?_
  refine newIL (fun im aQ=>?_)
  refine gf (gi hk ar) ?_
  generalize bH:O.set im (.map (eIL []))=S0
  have aF:S0 im=some (.map (eIL [])):=by rw[<-bH,w6]
  refine A4 (Vf 98 [.cptr (cCPg c) 0,.cptr [cChk p c im] 0,.cptr (Ad p) 0] S0 (fun S1=>LkR p c im S1) (fun i hi=>Vb p c im _ hp hk bc ar (by rw[w7 _ _ fun e=>by rw[<-e,aF]at hi;cases hi];exact aF)) (fun S1 d S2 h=>?_) (fun i S2 x hi h=>h.1 i _ (w6 ..) (fun e=>by rw[e,aF]at hi;cases hi))) (fun d U' hr=>?_) (fun d U' hr=>?_)
  ·obtain⟨_,h⟩:=h
   split at h
   ·simpa using h
   ·exact absurd h.1 (by simp)
  ·obtain⟨i,S2,hi,rfl,hr⟩:=hr
   have cg:im≠i:=fun e=>by rw[<-e,aF]at hi;cases hi
   have bq:∀(S3:Sig) (W:MetL),Keep (· = im) (S0.set i (.cells [.bool false])) S3->S3 im=some (.map (eIL W))->Sub (O.set im (.map (eIL W))) (S3.del i):=fun S3 W hK hW k x ah=>by
    by_cases e:k=im
    ·subst e
     rw[w6]at ah
     simp only[Sig.del,cg,if_false];rw[hW];exact ah
    ·rw[w7 _ _ e]at ah
     have e0:S0 k=some x:=by rw[<-bH,w7 _ _ e];exact ah
     have e2:k≠i:=fun e2=>by rw[e2,hi]at e0;cases e0
     simp only[Sig.del,e2,if_false]
     exact hK k x (by rw[w7 _ _ e2];exact e0) e
   rcases hr with⟨e,⟨hK,h⟩,h2⟩|⟨⟨hK,h⟩,h2⟩
   ·cases h2
    split at h
    ·cases h
    ·rename_i W hW
     obtain⟨_,cb⟩:=h
     refine gz ?_
     refine fin1 (U':=O.set im (.map (eIL W))) ?_ (hZ:=bq _ _ hK cb)
     unfold LokR;rw[hL,hW];exact⟨im,aQ,rfl,rfl⟩
   ·cases h2
    split at h
    ·rename_i hW
     refine gz ?_
     refine fin1 (U':=O) (by unfold LokR;rw[hL,hW];exact⟨rfl,rfl⟩) (hZ:=fun k x ah=>?_)
     have e:=B9 ah aQ
     have e0:S0 k=some x:=by rw[<-bH,w7 _ _ e];exact ah
     have e2:k≠i:=fun e2=>by rw[e2,hi]at e0;cases e0
     simp only[Sig.del,e2,if_false]
     exact hK k x (by rw[w7 _ _ e2];exact e0) e
    ·exact absurd h.1 (by simp)
  ·obtain⟨i,S2,hi,rfl,hr⟩:=hr
   rcases hr with⟨e,_,h2⟩|⟨_,h2⟩<;>cases h2
 ·have hL:By p c=none:=by
   unfold By
   exact if_neg fun h=>by
    simp only[Bool.and_eq_true,decide_eq_true_eq]at h
    exact aA ⟨h.1,h.2.1,h.2.2.1⟩
  repeat' first|refine gz ?_|apply gy<;>intro hh
  all_goals first|exact fin1 (U':=O) (by unfold LokR;rw[hL];exact⟨rfl,rfl⟩)|exact absurd ⟨by assumption,by omega,by omega⟩ aA
theorem Vv(p:BProg)(c:CProg)(O:Sig)(hp:p.wt<=1073741824)(bk:c.ins.length<=1073741824)(bj:c.starts.length<=1073741824):DCall prog 32 [.agg (Ad p),.agg (cCPg c)] O (rS (dI (if(By p c).isSome then 0 else 2)) O):=by
 refine en func32 ntmps32 ?_
 refine gz ?_
 refine A4 (Jg p c O hp bk bj) (fun d U' hr=>?_) (fun d U' hr=>?_)
 ·unfold LokR at hr
  cases hL:By p c with
  |none=>
   rw[hL]at hr
   obtain⟨e,rfl⟩:=hr
   cases e
   refine gz ?_
   exact fe1 trivial
  |some W=>
   rw[hL]at hr
   obtain⟨im,aQ,e,rfl⟩:=hr
   cases e
   refine gz ?_
   exact fin1 (U':=O) ⟨rfl,rfl⟩ (hZ:=(Sub.refl _).set aQ)
 ·unfold LokR at hr
  split at hr
  ·cases hr.1
  ·obtain⟨_,_,h,_⟩:=hr;cases h
def Ea(c:CProg)(W:MetL):List CLev:=(List.range c.ins.length).map fun k:Nat=>getM ⟨0,0⟩ (k:Int) W
theorem Oz(p:BProg)(c:CProg)(O:Sig)(hp:p.wt<=1073741824)(bk:c.ins.length<=1073741824)(bj:c.starts.length<=1073741824):DCall prog 25 [.agg (Ad p),.agg (cCPg c)] O (rS (.tup [sl (((By p c).map (Ea c)).getD [] |>.map cLev),dI (if(By p c).isSome then 0 else 2)]) O):=by
 refine en func25 ntmps25 ?_
 refine gz ?_
 refine A4 (Jg p c O hp bk bj) (fun d U' hr=>?_) (fun d U' hr=>?_)
 ·unfold LokR at hr
  cases hL:By p c with
  |none=>
   rw[hL]at hr
   obtain⟨e,rfl⟩:=hr
   cases e
   refine gz ?_
   refine fin2 (U':=U') (d':=sl []) (e':=dI 2) ⟨rfl,rfl⟩ (hw:=?_)
   exact An _ (.inl rfl)
  | some W =>
   rw[hL]at hr
   obtain⟨im,aQ,e,rfl⟩:=hr
   cases e
   have aF:(O.set im (.map (eIL W))) im=some (.map (eIL W)):=w6 ..
   have bI:Sub O (O.set im (.map (eIL W))):=(Sub.refl _).set aQ
   generalize O.set im (.map (eIL W))=S0 at aF bI
   refine gz ?_
   refine F4 7 2 (fun it bR=>?_)
   have nit:im≠it:=B9 aF bR
   refine BZ [4,5,6,16,30] (fun (k:Nat) (out:List CLev)=>k<=c.ins.length/\out=(List.range k).map fun k:Nat=>getM ⟨0,0⟩ (k:Int) W) (fun k out=>[(17,dI k),(7,.slice (out.map cLev) (.tag it))]) (fun _ out=>S0.set it (.tail 2 out.length)) (fun k _=>c.ins.length-k) (0) ([]) (by exact⟨by omega,rfl⟩) (fun k out hI=>?_)
   obtain⟨hk,hO⟩:=hI
   have bx:out.length=k:=by rw[hO];simp
   by_cases ce:k<c.ins.length
   ·refine gf (gi aF nit) ?_
    exact⟨k+1,out++[getM ⟨0,0⟩ (k:Int) W],⟨by omega,by rw[List.range_succ,List.map_append,<-hO];rfl⟩,td1,wkR⟩
   ·have cf:k=c.ins.length:=by omega
    have cp:out=Ea c W:=by rw[hO,cf];rfl
    refine gz ?_
    refine fin2 (U':=O) (d':=sl ((Ea c W).map cLev)) (e':=dI 0) ⟨rfl,rfl⟩ (hZ:=bI.set (bI.none bR)) (hw:=?_)
    rw[cp];exact BY _ _
 ·unfold LokR at hr
  split at hr
  ·cases hr.1
  ·obtain⟨_,_,h,_⟩:=hr;cases h
theorem SV(p:BProg)(x:CIns)(O:Sig)(hp:p.wt<=1073741824)(hx:x.op=19->0<=x.a/\x.a<p.gens.length):DCall prog 186 [.agg (Ad p),.agg (cIns x)] O (rS (.tup [dI (Ag p x).1,dI (Ag p x).2]) O):=by
 obtain⟨p1,p2,p3,p4,p5,p6,p7⟩:=p.wt_le
 by_cases be:x.op=19
 ·obtain⟨h1,h2⟩:=hx be
  have e:p.gens.getD x.a.toNat 0=p.gens[x.a.toNat]'(by omega):=by rw[List.getD_eq_getElem?_getD,List.getElem?_eq_getElem (by omega)];rfl
  refine en func186 ntmps186 ?_
  repeat' first|refine gf be ?_|apply gy<;>intro hh
  any_goals (first|(refine fin2 (U':=O) ?_;exact⟨by first|rfl|(simp[Ag,be,e];done)|(simp_all [Ag,be,e];done)|(rw[Ac,Bool.eq_iff_iff];simp_all [Ag,be,e]<;>omega),rfl⟩)|fail)
 ·refine en func186 ntmps186 ?_
  repeat' first|refine gz ?_|apply gy<;>intro hh
  any_goals (first|(refine fin2 (U':=O) ?_;exact⟨by first|rfl|(simp[Ag];done)|(simp_all [Ag];done)|(rw[Ac,Bool.eq_iff_iff];simp_all [Ag]<;>omega),rfl⟩)|fail)
theorem Tb(p:BProg)(x:CIns)(q N:Nat)(O:Sig)(hp:p.wt<=1073741824):DCall prog 122 [.agg (Ad p),.agg (cIns x),dI q,dI N] O (rS (.bool (fitsC p N q x)) O):=by
 obtain⟨p1,p2,p3,p4,p5,p6,p7⟩:=p.wt_le
 refine en func122 ntmps122 ?_
 repeat' first|refine gz ?_|apply gy<;>intro hh
 any_goals (first|(refine fin1 (U':=O) ⟨?_,rfl⟩;first|(simp_all [fitsC,inB,ownF];done)|(rw[Ac,Bool.eq_iff_iff];simp_all [fitsC,inB,ownF]<;>omega))|fail)
@[reducible,instance] def a122:=fun p x q N O=>ah1 (@Tb p x q N O)
section
variable {P:Program}{ro:Ro}{n:Nat}{ops:Array Oper}{N:Nat}{S0:Sig}{Q:DX->St->Prop}{df:List DDf}{γ Sr:List (Nat×D)}{O:Sig}{t:Nat}{ty:TypeId}{pos:String}{after:Array Edge}{l:List (Bool×Oper)}{e:Bool}
theorem mo_neqG{tab:Nat->Ty}(ht:AP P tab){T u:Nat}{x y:Operand}{xs ys:List D}{gd:Option (Nat×Bool)}(fs:List (Nat×Nat))(r:Bool)(hE:EqTy P T)(hk:(tab T).k=.struct fs)(hd:eqFs tab xs ys fs=some r)
  (h:MO P ro n ops N S0 Q df l ((t,.bool (!r))::γ) O) (hw:AC ops γ ⟨some t,.binOp .neq T x y u,ty,pos,after,gd⟩=some true) (b8:decide (t<n)=true) (hl:A1 γ (A7 [x,y])=some Sr) (hx:ev Sr x=.agg xs) (hy:ev Sr y=.agg ys):MO P ro n ops N S0 Q df ((e,⟨some t,.binOp .neq T x y u,ty,pos,after,gd⟩)::l) γ O:=by
 have hc:∀z∈[x,y],ev Sr z=ev γ z:=fun z hz=>Be fun t ht=>Au hl t (AB (by rw[<-ht];exact hz))
 have bM:∀z∈[x,y],ev (only (Oper.looksAt ops ⟨some t,.binOp .neq T x y u,ty,pos,after,gd⟩) γ) z=ev γ z:=fun z hz=>AR (o:=⟨some t,.binOp .neq T x y u,ty,pos,after,gd⟩) (by simp at hz;rcases hz with rfl|rfl<;>simp[Op.operands])
 refine .inl ⟨.bool (!r),⟨b8,.inl ⟨by rw[Ak];exact hw,(fun c e=>by cases e),Ae (fun c e=>by cases e),fun U' hZ g w a hs hT=>?_⟩⟩,h⟩
 have:=Hi (dst:=some t) (ty:=ty) (pos:=pos) (after:=after) (guard:=gd) (u:=u) ht hs hT hE hk (by rw[bM x (by simp),<-hc x (by simp)];exact hx) (by rw[bM y (by simp),<-hc y (by simp)];exact hy) hd true
 simpa using this
end
def cWay(r1 r2 N:Nat):D:=.cptr [.sref r1 0 N N,.sref r2 0 N N] 0
structure WayS(r1 r2 N:Nat)(mb:List Bool)(lv:List CLev)(O:Sig):Prop where
 o1:O r1=some (.cells (mb.map D.bool))
 o2:O r2=some (.cells (lv.map cLev).flatten)
 l1:mb.length=N
 l2:lv.length=N
 ne:r1≠r2
theorem Lk(lv:List CLev)(n:Nat)(h:n<lv.length):List.take 2 (List.drop (n*2) (lv.map cLev).flatten)=cLev lv[n]:=by
 have hx:lv=lv.take n++lv[n]::lv.drop (n+1):=by simp
 have hA:((lv.take n).map cLev).flatten.length=n*2:=by rw[Ap (sz:=2) (fun e he=>by obtain⟨x,_,rfl⟩:=List.mem_map.1 he;rfl)];simp;omega
 have h0:lv.map cLev=(lv.take n).map cLev++cLev lv[n]::(lv.drop (n+1)).map cLev:=by rw[<-List.map_cons,<-List.map_append,<-hx]
 rw[h0,List.flatten_append,List.flatten_cons,<-hA,List.drop_left]
 rfl
theorem lev_set(lv:List CLev)(n:Nat)(l:CLev)(h:n<lv.length):((lv.set n l).map cLev).flatten=List.take (n*2) (lv.map cLev).flatten++(cLev l++List.drop (n*2+2) (lv.map cLev).flatten):=by
 have hx:lv=lv.take n++lv[n]::lv.drop (n+1):=by simp
 have hA:((lv.take n).map cLev).flatten.length=n*2:=by rw[Ap (sz:=2) (fun e he=>by obtain⟨x,_,rfl⟩:=List.mem_map.1 he;rfl)];simp;omega
 have h0:lv.map cLev=(lv.take n).map cLev++cLev lv[n]::(lv.drop (n+1)).map cLev:=by rw[<-List.map_cons,<-List.map_append,<-hx]
 have h1:(lv.set n l).map cLev=(lv.take n).map cLev++cLev l::(lv.drop (n+1)).map cLev:=by rw[List.set_eq_take_append_cons_drop,if_pos h,List.map_append,List.map_cons]
 rw[h0,h1,List.flatten_append,List.flatten_cons,List.flatten_append,List.flatten_cons,<-hA,List.take_left,List.drop_append]
 simp
theorem Ta(r1 r2 N:Nat)(mb:List Bool)(lv:List CLev)(n:Int)(l:CLev)(O:Sig)(hN:N<=300)(hW:WayS r1 r2 N mb lv O):DCall prog 124 [cWay r1 r2 N,dI n,.agg (cLev l)] O fun x U'=>
  if n<0\/(N:Int)<=n\/(mb.getD n.toNat false=true/\lv.getD n.toNat ⟨0,0⟩≠l) then x=.ret (.bool false)/\U'=O else x=.ret (.bool true)/\WayS r1 r2 N (mb.set n.toNat true) (lv.set n.toNat l) U' /\ ∀j o,O j=some o->j≠r1->j≠r2->U' j=some o:=by
 obtain⟨o1,o2,l1,l2,hne⟩:=hW
 obtain⟨st,em⟩:=l
 refine en func124 ntmps124 ?_
 by_cases h1:n<0
 ·refine gz ?_ o124
  exact fin1 (U':=O) (by rw[if_pos (.inl h1)];exact⟨rfl,rfl⟩)
 by_cases h2:(N:Int)<=n
 ·refine gz ?_ o124
  exact fin1 (U':=O) (by rw[if_pos (.inr (.inl h2))];exact⟨rfl,rfl⟩)
 obtain⟨k,rfl⟩:∃k:Nat,n=(k:Int):=⟨n.toNat,by omega⟩
 have ah:k<mb.length:=by omega
 have bA:k<lv.length:=by omega
 have cz:k<N:=by omega
 have aJ:=Lk lv k bA
 have aD:((lv.map cLev).flatten).length=N*2:=by rw[Ap (sz:=2) (fun e he=>by obtain⟨x,_,rfl⟩:=List.mem_map.1 he;rfl)];simp;omega
 generalize hF:(lv.map cLev).flatten=F at o2 aJ aD
 have aV:k*2+2<=F.length:=by omega
 have bi:mb.getD ((k:Int)).toNat false=mb[k]:=by rw[show((k:Int)).toNat=k by omega,List.getD_eq_getElem?_getD,List.getElem?_eq_getElem ah];rfl
 have aI:lv.getD ((k:Int)).toNat ⟨0,0⟩=lv[k]:=by rw[show((k:Int)).toNat=k by omega,List.getD_eq_getElem?_getD,List.getElem?_eq_getElem bA];rfl
 have aK:∀U',U'=(O.set r1 (.cells ((mb.map D.bool).set k (.bool true)))).set r2 (.cells (List.take (k*2) F++dI st::dI em::List.drop (k*2+2) F))->WayS r1 r2 N (mb.set ((k:Int)).toNat true) (lv.set ((k:Int)).toNat ⟨st,em⟩) U' /\ ∀j o,O j=some o->j≠r1->j≠r2->U' j=some o:=fun U' hs=>by
  subst hs
  rw[show((k:Int)).toNat=k by omega]
  refine⟨⟨?_,?_,by simpa using l1,by simpa using l2,hne⟩,fun j o h e1 e2=>by rw[w7 _ _ e2,w7 _ _ e1];exact h⟩
  ·rw[w7 _ _ hne,w6,List.map_set]
  ·rw[w6,lev_set _ _ _ bA,hF];rfl
 cases hb:mb[k]with
 | false =>
  refine gf (gi o1 (gi o2 hb)) ?_ (delO 3 o124)
  refine Fu (id:=3) [0,1,2,3,4,5,6,7,8,9,10,11,12,13] [12] (fun _=>none) (fun _ _ h=>by cases h) ?_
  refine gz ?_ o124
  refine DM (d:=.any) (U':=O.set r1 (.cells ((mb.set k true).map D.bool))) tabOK tdR ?_ (fun _ _ h=>by cases h) ?_
  ·simp[o1]
   exact⟨by omega,by rw[List.set_eq_take_append_cons_drop,if_pos (by simpa using ah)]⟩
  have bz:=hne.symm
  refine gf (gi o2 aV) ?_ o124
  exact fin1 (U':=_) (by rw[if_neg (by rw[bi,hb];rintro(h|h|h);exact h1 h;exact h2 h;cases h.1)];exact⟨rfl,aK _ rfl⟩) (hZ:=Sub.refl _)
 | true =>
  refine gf (gi o1 (gi o2 (gi hb (gi aJ aD)))) ?_ o124
  refine mo_neqG (xs:=cLev lv[k]) (ys:=cLev ⟨st,em⟩) tabOK _ (decide (lv[k]=(⟨st,em⟩:CLev))) MK Ma (TC _ _) ?_ rfl rfl rfl rfl rfl
  by_cases he:lv[k]=(⟨st,em⟩:CLev)
  ·refine gf he ?_ (delO 3 o124)
   refine Fu (id:=3) [0,1,2,3,4,5,6,7,8,9,10,11,12,13] [12] (fun _=>none) (fun _ _ h=>by cases h) ?_
   refine gz ?_ o124
   refine DM (d:=.any) (U':=O.set r1 (.cells ((mb.set k true).map D.bool))) tabOK tdR ?_ (fun _ _ h=>by cases h) ?_
   ·simp[o1]
    exact⟨by omega,by rw[List.set_eq_take_append_cons_drop,if_pos (by simpa using ah)]⟩
   have bz:=hne.symm
   refine gf (gi o2 aV) ?_ o124
   exact fin1 (U':=_) (by rw[if_neg (by rw[bi,aI,hb];rintro(h|h|h);exact h1 h;exact h2 h;exact h.2 he)];exact⟨rfl,aK _ rfl⟩) (hZ:=Sub.refl _)
  ·refine gf he ?_ o124
   exact fin1 (U':=O) (by rw[if_pos (.inr (.inr (by rw[bi,aI];exact⟨hb,he⟩)))];exact⟨rfl,rfl⟩)
section
variable {P:Program}{ro:Ro}{n:Nat}{ops:Array Oper}{Q:DX->St->Prop}{df:List DDf}{rest:List Oper}{γ Sr:List (Nat×D)}{O:Sig}{ty:TypeId}{pos:String}{after:Array Edge}
theorem NP{fop:Operand}{args:Array Operand}{ats:Array TypeId}{f:Nat}{first cap us bs:List D}{R:DE->Sig->Prop}{dst:Option Tmp}{j:Nat}{want:Bool}{k:Nat}(h:DCall P f bs O R)(bu:∀d U',R (.ret d) U'->DOps P ro n ops Q rest ⟨putD dst d γ,U',df⟩)(bw:∀d U',R (.panic d) U'->Q (.panic d) ⟨γ,U',df⟩)(hk:(ops[j]?).bind (·.dst)=some k:=by exact tdR)(hb:γ.lookup k=some (.bool want):=by exact tdR)(hl:A1 γ (A7 (fop::args.toList))=some Sr:=by exact tdR)(hf:ev Sr fop=.func (.func f) first cap:=by exact tdR)(ha:first++args.toList.map (ev Sr)++cap=us:=by exact td0)(hp:bs=us:=by exact tdR)
  (ho:At n ⟨dst,(cv fop args ats),ty,pos,after,some (j,want)⟩=true:=by exact tdR):DOps P ro n ops Q (⟨dst,(cv fop args ats),ty,pos,after,some (j,want)⟩::rest) ⟨γ,O,df⟩:=K7 hk hb hl hf ha (.inl hp) h ho bu bw
end
def metR(mb:List Bool)(lv:List CLev):Met:=fun j=>if mb.getD j false=true then some (lv.getD j ⟨0,0⟩) else none
theorem UM{mb:List Bool}{lv:List CLev}{n:Nat}(h1:n<mb.length)(h2:n<lv.length)(l:CLev):metR (mb.set n true) (lv.set n l)=updM (metR mb lv) n l:=by
 funext j
 unfold metR updM
 simp only[List.getD_eq_getElem?_getD,List.getElem?_set]
 by_cases e:n=j
 ·subst e;simp[h1,h2]
 ·have e':¬j=n:=fun h=>e h.symm
  simp[e,e']
theorem C4(r1 r2 N:Nat)(mb:List Bool)(lv:List CLev)(n:Int)(l:CLev)(O:Sig)(hN:N<=300)(hW:WayS r1 r2 N mb lv O):DCall prog 124 [cWay r1 r2 N,dI n,.agg (cLev l)] O fun x U'=> ∃mb' lv',WayS r1 r2 N mb' lv' U'/\(∀j o,O j=some o->j≠r1->j≠r2->U' j=some o) /\
  ((AI N (metR mb lv) n l=none/\x=.ret (.bool false)/\metR mb' lv'=metR mb lv)\/(AI N (metR mb lv) n l=some (metR mb' lv')/\x=.ret (.bool true))):=
 (Ta r1 r2 N mb lv n l O hN hW).mono fun x U' h=>by
  have e:(n<0\/(N:Int)<=n\/(mb.getD n.toNat false=true/\lv.getD n.toNat ⟨0,0⟩≠l)) ↔ (n<0\/(N:Int)<=n\/(metR mb lv n.toNat≠none/\metR mb lv n.toNat≠some l)):=by
   unfold metR
   cases hh:mb.getD n.toNat false<;>simp
  split at h
  ·rename_i hc
   obtain⟨h1,rfl⟩:=h
   exact⟨mb,lv,hW,fun j o hj _ _=>hj,.inl ⟨by unfold AI;exact if_pos (e.1 hc),h1,rfl⟩⟩
  ·rename_i hc
   obtain⟨h1,h2,h3⟩:=h
   have k1:¬n<0:=fun k=>hc (.inl k)
   have k2:¬(N:Int)<=n:=fun k=>hc (.inr (.inl k))
   refine⟨_,_,h2,h3,.inr ⟨?_,h1⟩⟩
   rw[UM (by rw[hW.l1];omega) (by rw[hW.l2];omega)]
   unfold AI
   exact if_neg fun k=>hc (e.2 k)
theorem Al{O:Sig}{a b:Nat}{o:DObj}(h:O a=some o)(k:O b=none):b≠a:=fun e=>by rw[<-e,k]at h;cases h
theorem WayS.set{r1 r2 N:Nat}{mb:List Bool}{lv:List CLev}{O:Sig}(hW:WayS r1 r2 N mb lv O){i:Nat}{o:DObj}(hi:O i=none):WayS r1 r2 N mb lv (O.set i o):=
 ⟨by rw[w7 _ _ (Al hW.o1 hi).symm];exact hW.o1,by rw[w7 _ _ (Al hW.o2 hi).symm];exact hW.o2,hW.l1,hW.l2,hW.ne⟩
theorem T9(p:BProg)(c:CProg)(r1 r2 q:Nat)(env:Int)(next:Bool)(mb:List Bool)(lv:List CLev)(O:Sig)(hp:p.wt<=1073741824)(hc:c.ins.length<=300)(hq:q<c.ins.length)(hW:WayS r1 r2 c.ins.length mb lv O)(hu:(Am c q).op=19->0<=(Am c q).a/\(Am c q).a<p.gens.length)(hg:0<=(Ag p (Am c q)).1/\(Ag p (Am c q)).1<=3/\0<=(Ag p (Am c q)).2/\(Ag p (Am c q)).2<=1)
  (hb:0<=(lv.getD q ⟨0,0⟩).st/\(lv.getD q ⟨0,0⟩).st<=1000 /\ -1000<=(lv.getD q ⟨0,0⟩).env/\(lv.getD q ⟨0,0⟩).env<=10000) :
  DCall prog 125 [cWay r1 r2 c.ins.length,.agg (Ad p),.agg (cCPg c),dI q,dI env,.bool next] O fun x U'=> ∃mb' lv',WayS r1 r2 c.ins.length mb' lv' U'/\(∀j o,O j=some o->j≠r1->j≠r2->U' j=some o) /\
   ((CT p c env next q (Am c q) (lv.getD q ⟨0,0⟩) (metR mb lv)=none/\x=.ret (.bool false))\/(CT p c env next q (Am c q) (lv.getD q ⟨0,0⟩) (metR mb lv)=some (metR mb' lv')/\x=.ret (.bool true))):=by
 obtain⟨p1,p2,p3,p4,p5,p6,p7⟩:=p.wt_le
 obtain⟨o1,o2,l1,l2,hne⟩:=hW
 have hW:WayS r1 r2 c.ins.length mb lv O:=⟨o1,o2,l1,l2,hne⟩
 rw[Ln hq]at hu hg⊢
 have aE:q<lv.length:=by omega
 have aI:lv.getD q ⟨0,0⟩=lv[q]:=by rw[List.getD_eq_getElem?_getD,List.getElem?_eq_getElem aE];rfl
 rw[aI]at hb⊢
 have aJ:=Lk lv q aE
 have aD:((lv.map cLev).flatten).length=c.ins.length*2:=by rw[Ap (sz:=2) (fun e he=>by obtain⟨x,_,rfl⟩:=List.mem_map.1 he;rfl)];simp;omega
 obtain⟨x,hx⟩:∃x,c.ins[q]=x:=⟨_,rfl⟩
 obtain⟨l,hl⟩:∃l,lv[q]=l:=⟨_,rfl⟩
 rw[hx]at hu hg⊢
 rw[hl]at hb aJ⊢
 obtain⟨st,em⟩:=l
 generalize hF:(lv.map cLev).flatten=F at o2 aJ aD
 have aV:q*2+2<=F.length:=by omega
 refine en func125 ntmps125 ?_
 refine gz ?_ [] [13,14,17]
 refine mixA (id:=1) [0,1,2,3,4,5,6,7,8,9,10,11,12,13,14,15] [14,15] ?_
 refine CB (d:=.cptr (cCPg c) 0) tabOK rfl tdR tdR (by first|with_unfolding_all rfl|(simp;done)|(simp;rfl)) ?_
 refine CB (d:=sl (c.ins.map cIns)) tabOK rfl tdR tdR (by first|with_unfolding_all rfl|(simp;done)|(simp;rfl)) ?_
 refine CB (d:=dI q) tabOK rfl tdR tdR (by first|with_unfolding_all rfl|(simp;done)|(simp;rfl)) ?_
 refine CB (d:=.cptr (cIns x) 0) tabOK rfl tdR tdR (by first|with_unfolding_all rfl|(simp[hq,hx];done)|(simp[hq,hx];rfl)) ?_
 refine CB (d:=.agg (cIns x)) tabOK rfl tdR tdR (by first|with_unfolding_all rfl|(simp;done)|(simp;rfl)) ?_
 refine CB (d:=cWay r1 r2 c.ins.length) tabOK rfl tdR tdR (by first|with_unfolding_all rfl|(simp;done)|(simp;rfl)) ?_
 refine CB (d:=cWay r1 r2 c.ins.length) tabOK rfl tdR tdR (by first|with_unfolding_all rfl|(simp;done)|(simp;rfl)) ?_
 refine CB (d:=.cptr [.sref r1 0 c.ins.length c.ins.length,.sref r2 0 c.ins.length c.ins.length] 1) tabOK rfl tdR tdR (by first|with_unfolding_all rfl|(simp;done)|(simp;rfl)) ?_
 refine CB (d:=.sref r2 0 c.ins.length c.ins.length) tabOK rfl tdR tdR (by first|with_unfolding_all rfl|(simp;done)|(simp;rfl)) ?_
 refine CB (d:=dI q) tabOK rfl tdR tdR (by first|with_unfolding_all rfl|(simp;done)|(simp;rfl)) ?_
 refine CB (d:=.ptr r2 (q*2)) tabOK rfl tdR tdR (by first|with_unfolding_all rfl|(simp[hq];done)|(simp[hq];rfl)) ?_
 refine CB (d:=.agg [dI st,dI em]) tabOK rfl tdR tdR (by first|with_unfolding_all rfl|(simp[o2,aJ,aV];done)|(simp[o2,aJ,aV];rfl)) ?_
 refine M3 (fun i13 aC=>?_)
 refine M3 (fun i14 aY=>?_)
 refine IZ (by rfl) ?_
 have bZ:(tab 87).zero=[dI 0,dI 0]:=by(simp<;>rfl)
 have bY:(tab 79).zero=[dI 0,dI 0]:=by(simp<;>rfl)
 rw[bZ]at aY⊢
 rw[bY]
 obtain⟨n34,aq⟩:=Bc aY
 have n43:=n34.symm
 have bt:Sub O (((O.set i13 (.cells [dI 0,dI 0])).set i14 (.cells [dI 0,dI 0])).set i13 (.cells (cIns x))):=(((Sub.refl _).set aC).set aq).set aC
 have am:Sub O ((((O.set i13 (.cells [dI 0,dI 0])).set i14 (.cells [dI 0,dI 0])).set i13 (.cells (cIns x))).set i14 (.cells [dI st,dI em])):=bt.set aq
 refine DM (d:=.any) (U':=((O.set i13 (.cells [dI 0,dI 0])).set i14 (.cells [dI 0,dI 0])).set i13 (.cells (cIns x))) tabOK tdR (by simp[w7 _ _ n43,cIns]) bt ?_
 refine DM (d:=.any) (U':=(((O.set i13 (.cells [dI 0,dI 0])).set i14 (.cells [dI 0,dI 0])).set i13 (.cells (cIns x))).set i14 (.cells [dI st,dI em])) tabOK tdR (by simp[w7 _ _ n34]) am ?_
 have a1:i13≠r1:=Al o1 aC
 have a2:i13≠r2:=Al o2 aC
 have a3:i14≠r1:=Al o1 aq
 have a4:i14≠r2:=Al o2 aq
 have ac:WayS r1 r2 c.ins.length mb lv ((((O.set i13 (.cells [dI 0,dI 0])).set i14 (.cells [dI 0,dI 0])).set i13 (.cells (cIns x))).set i14 (.cells [dI st,dI em])):=⟨by simp only[w7 _ _ a1.symm,w7 _ _ a3.symm];exact hW.o1,by simp only[w7 _ _ a2.symm,w7 _ _ a4.symm];exact hW.o2,hW.l1,hW.l2,hne⟩
 have o13:((((O.set i13 (.cells [dI 0,dI 0])).set i14 (.cells [dI 0,dI 0])).set i13 (.cells (cIns x))).set i14 (.cells [dI st,dI em])) i13=some (.cells (cIns x)):=by rw[w7 _ _ n43,w6]
 have o14:((((O.set i13 (.cells [dI 0,dI 0])).set i14 (.cells [dI 0,dI 0])).set i13 (.cells (cIns x))).set i14 (.cells [dI st,dI em])) i14=some (.cells [dI st,dI em]):=w6 ..
 generalize ((((O.set i13 (.cells [dI 0,dI 0])).set i14 (.cells [dI 0,dI 0])).set i13 (.cells (cIns x))).set i14 (.cells [dI st,dI em]))=S3 at am ac o13 o14⊢
 clear bt
 have i186:∀O,Ans 186 [.agg (Ad p),.agg (cIns x)] O True (.tup [dI (Ag p x).1,dI (Ag p x).2]):=fun O=>ah0 (SV p x O hp hu)
 generalize b7:Ag p x=us at*
 obtain⟨take,give⟩:=us
 simp only at hg hb
 have ay:CT p c env next q x ⟨st,em⟩ (metR mb lv)=if(st<take\/(x.op=3/\em<=x.a)\/(x.op=15/\em<=env)\/(x.op=20/\next=false)) then none
   else if x.op=21 then(if st=1/\em=env then some (metR mb lv) else none)
   else if x.op=14 then AI c.ins.length (metR mb lv) ((q:Int)+1) ⟨st-take+give,em+1⟩
   else if x.op=15 then AI c.ins.length (metR mb lv) ((q:Int)+1) ⟨st-take+give,em-1⟩
   else if x.op=18 then AI c.ins.length (metR mb lv) x.a ⟨st-take+give,em⟩
   else if x.op=17 then(match AI c.ins.length (metR mb lv) x.a ⟨st-take+give,em⟩with
    |none=>none
    |some m=>AI c.ins.length m ((q:Int)+1) ⟨st-take+give,em⟩)
   else AI c.ins.length (metR mb lv) ((q:Int)+1) ⟨st-take+give,em⟩:=by unfold CT;rw[b7];rfl
 rw[ay]
 clear ay
 by_cases ap:st<take\/(x.op=3/\em<=x.a)\/(x.op=15/\em<=env)\/(x.op=20/\next=false)
 ·rw[if_pos ap]
  rcases ap with k1|⟨k1,k2⟩|⟨k1,k2⟩|⟨k1,k2⟩
  ·repeat' first|refine gf (gi o13 (gi o14 k1)) ?_ o125 [13,14,17]|apply gy<;>intro hh
   all_goals exact fin1 (U':=S3) ⟨mb,lv,ac,fun j o h _ _=>am j o h,.inl ⟨rfl,rfl⟩⟩
  ·repeat' first|refine gf (gi o13 (gi o14 (gi k1 k2))) ?_ o125 [13,14,17]|apply gy<;>intro hh
   all_goals exact fin1 (U':=S3) ⟨mb,lv,ac,fun j o h _ _=>am j o h,.inl ⟨rfl,rfl⟩⟩
  ·repeat' first|refine gf (gi o13 (gi o14 (gi k1 k2))) ?_ o125 [13,14,17]|apply gy<;>intro hh
   all_goals exact fin1 (U':=S3) ⟨mb,lv,ac,fun j o h _ _=>am j o h,.inl ⟨rfl,rfl⟩⟩
  ·repeat' first|refine gf (gi o13 (gi o14 (gi k1 k2))) ?_ o125 [13,14,17]|apply gy<;>intro hh
   all_goals exact fin1 (U':=S3) ⟨mb,lv,ac,fun j o h _ _=>am j o h,.inl ⟨rfl,rfl⟩⟩
 rw[if_neg ap]
 have e1:¬st<take:=fun k=>ap (.inl k)
 have e2:x.op=3->¬em<=x.a:=fun k1 k2=>ap (.inr (.inl ⟨k1,k2⟩))
 have e3:x.op=15->¬em<=env:=fun k1 k2=>ap (.inr (.inr (.inl ⟨k1,k2⟩)))
 have e4:x.op=20->next=true:=fun k1=>by cases hn:next;exact absurd (.inr (.inr (.inr ⟨k1,hn⟩))) ap;rfl
 by_cases aN:x.op=21
 ·rw[if_pos aN]
  by_cases k1:st=1
  ·by_cases k2:em=env
   ·repeat' first|refine gf (gi o13 (gi o14 (gi aN (gi e1 (gi k1 k2))))) ?_ o125 [13,14,17]|apply gy<;>intro hh
    all_goals exact fin1 (U':=S3) ⟨mb,lv,ac,fun j o h _ _=>am j o h,.inr ⟨if_pos ⟨k1,k2⟩,rfl⟩⟩
   ·repeat' first|refine gf (gi o13 (gi o14 (gi aN (gi e1 (gi k1 k2))))) ?_ o125 [13,14,17]|apply gy<;>intro hh
    all_goals exact fin1 (U':=S3) ⟨mb,lv,ac,fun j o h _ _=>am j o h,.inl ⟨if_neg (fun k=>k2 k.2),rfl⟩⟩
  ·repeat' first|refine gf (gi o13 (gi o14 (gi aN (gi e1 k1)))) ?_ o125 [13,14,17]|apply gy<;>intro hh
   all_goals exact fin1 (U':=S3) ⟨mb,lv,ac,fun j o h _ _=>am j o h,.inl ⟨if_neg (fun k=>k1 k.1),rfl⟩⟩
 rw[if_neg aN]
 by_cases aT:x.op=14
 ·rw[if_pos aT]
  refine gf (gi o13 (gi o14 (gi aT e1))) ?_ o125 [13,14,17]
  refine newV (fun i17 aa=>?_)
  have n1:i13≠i17:=fun e=>by rw[<-e,o13]at aa;cases aa
  have aw:∀o,WayS r1 r2 c.ins.length mb lv (S3.set i17 o):=fun o=>ac.set aa
  have aj:∀o,Sub O (S3.set i17 o):=fun o j u h=>(Sub.refl S3).set aa j u (am j u h)
  have q1:i17≠r1:=Al ac.o1 aa
  have q2:i17≠r2:=Al ac.o2 aa
  refine gf (gi o13 (gi o14 (gi aT (gi e1 n1)))) ?_ o125 [13,14,17]
  refine A4 (C4 r1 r2 c.ins.length mb lv ((q:Int)+1) ⟨st-take+give,em+1⟩ _ hc (aw _)) (fun d S5 hr=>?_) (fun d S5 hr=>by obtain⟨_,_,_,_,⟨_,h,_⟩|⟨_,h⟩⟩:=hr<;>cases h)
  obtain⟨mb5,lv5,ak,ai,⟨ag,ae,aP⟩|⟨ag,ae⟩⟩:=hr
  ·cases ae
   refine gz ?_ o125 [13,14,17]
   exact fin1 (U':=S5) ⟨mb5,lv5,ak,fun j o h k1 k2=>ai j o (aj _ j o h) k1 k2,.inl ⟨ag,rfl⟩⟩ (hZ:=Sub.refl _)
  ·cases ae
   refine gz ?_ o125 [13,14,17]
   exact fin1 (U':=S5) ⟨mb5,lv5,ak,fun j o h k1 k2=>ai j o (aj _ j o h) k1 k2,.inr ⟨ag,rfl⟩⟩ (hZ:=Sub.refl _)
 rw[if_neg aT]
 by_cases aO:x.op=15
 ·rw[if_pos aO]
  have e3':=e3 aO
  refine gf (gi o13 (gi o14 (gi aO (gi e1 e3')))) ?_ o125 [13,14,17]
  refine newV (fun i17 aa=>?_)
  have n1:i13≠i17:=fun e=>by rw[<-e,o13]at aa;cases aa
  have aw:∀o,WayS r1 r2 c.ins.length mb lv (S3.set i17 o):=fun o=>ac.set aa
  have aj:∀o,Sub O (S3.set i17 o):=fun o j u h=>(Sub.refl S3).set aa j u (am j u h)
  have q1:i17≠r1:=Al ac.o1 aa
  have q2:i17≠r2:=Al ac.o2 aa
  refine gf (gi o13 (gi o14 (gi aO (gi e1 (gi e3' n1))))) ?_ o125 [13,14,17]
  refine A4 (C4 r1 r2 c.ins.length mb lv ((q:Int)+1) ⟨st-take+give,em-1⟩ _ hc (aw _)) (fun d S5 hr=>?_) (fun d S5 hr=>by obtain⟨_,_,_,_,⟨_,h,_⟩|⟨_,h⟩⟩:=hr<;>cases h)
  obtain⟨mb5,lv5,ak,ai,⟨ag,ae,aP⟩|⟨ag,ae⟩⟩:=hr
  ·cases ae
   refine gz ?_ o125 [13,14,17]
   exact fin1 (U':=S5) ⟨mb5,lv5,ak,fun j o h k1 k2=>ai j o (aj _ j o h) k1 k2,.inl ⟨ag,rfl⟩⟩ (hZ:=Sub.refl _)
  ·cases ae
   refine gz ?_ o125 [13,14,17]
   exact fin1 (U':=S5) ⟨mb5,lv5,ak,fun j o h k1 k2=>ai j o (aj _ j o h) k1 k2,.inr ⟨ag,rfl⟩⟩ (hZ:=Sub.refl _)
 rw[if_neg aO]
 by_cases aR:x.op=18
 ·rw[if_pos aR]
  refine gf (gi o13 (gi o14 (gi aR e1))) ?_ o125 [13,14,17]
  refine newV (fun i17 aa=>?_)
  have n1:i13≠i17:=fun e=>by rw[<-e,o13]at aa;cases aa
  have aw:∀o,WayS r1 r2 c.ins.length mb lv (S3.set i17 o):=fun o=>ac.set aa
  have aj:∀o,Sub O (S3.set i17 o):=fun o j u h=>(Sub.refl S3).set aa j u (am j u h)
  have q1:i17≠r1:=Al ac.o1 aa
  have q2:i17≠r2:=Al ac.o2 aa
  refine gf (gi o13 (gi o14 (gi aR (gi e1 n1)))) ?_ o125 [13,14,17]
  refine A4 (C4 r1 r2 c.ins.length mb lv (x.a) ⟨st-take+give,em⟩ _ hc (aw _)) (fun d S5 hr=>?_) (fun d S5 hr=>by obtain⟨_,_,_,_,⟨_,h,_⟩|⟨_,h⟩⟩:=hr<;>cases h)
  obtain⟨mb5,lv5,ak,ai,⟨ag,ae,aP⟩|⟨ag,ae⟩⟩:=hr
  ·cases ae
   refine gz ?_ o125 [13,14,17]
   exact fin1 (U':=S5) ⟨mb5,lv5,ak,fun j o h k1 k2=>ai j o (aj _ j o h) k1 k2,.inl ⟨ag,rfl⟩⟩ (hZ:=Sub.refl _)
  ·cases ae
   refine gz ?_ o125 [13,14,17]
   exact fin1 (U':=S5) ⟨mb5,lv5,ak,fun j o h k1 k2=>ai j o (aj _ j o h) k1 k2,.inr ⟨ag,rfl⟩⟩ (hZ:=Sub.refl _)
 rw[if_neg aR]
 by_cases aS:x.op=17
 ·rw[if_pos aS]
  refine gf (gi o13 (gi o14 (gi aS e1))) ?_ o125 [13,14,17]
  refine newV (fun i17 aa=>?_)
  have n1:i13≠i17:=fun e=>by rw[<-e,o13]at aa;cases aa
  have aw:∀o,WayS r1 r2 c.ins.length mb lv (S3.set i17 o):=fun o=>ac.set aa
  have aj:∀o,Sub O (S3.set i17 o):=fun o j u h=>(Sub.refl S3).set aa j u (am j u h)
  have q1:i17≠r1:=Al ac.o1 aa
  have q2:i17≠r2:=Al ac.o2 aa
  refine gf (gi o13 (gi o14 (gi aS (gi e1 n1)))) ?_ o125 [13,14,17]
  refine A4 (C4 r1 r2 c.ins.length mb lv (x.a) ⟨st-take+give,em⟩ _ hc (aw _)) (fun d S5 hr=>?_) (fun d S5 hr=>by obtain⟨_,_,_,_,⟨_,h,_⟩|⟨_,h⟩⟩:=hr<;>cases h)
  obtain⟨mb5,lv5,ak,ai,⟨ag,ae,aP⟩|⟨ag,ae⟩⟩:=hr
  ·cases ae
   refine gz ?_ o125 [13,14,17]
   exact fin1 (U':=S5) ⟨mb5,lv5,ak,fun j o h k1 k2=>ai j o (aj _ j o h) k1 k2,.inl ⟨by rw[ag],rfl⟩⟩ (hZ:=Sub.refl _)
  ·cases ae
   have o17:=ai i17 _ (w6 ..) q1 q2
   refine gf o17 ?_ o125 [13,14,17]
   refine NP (C4 r1 r2 c.ins.length mb5 lv5 ((q:Int)+1) ⟨st-take+give,em⟩ _ hc ak) (fun d S6 hr=>?_) (fun d S6 hr=>by obtain⟨_,_,_,_,⟨_,h,_⟩|⟨_,h⟩⟩:=hr<;>cases h)
   rw[ag]
   obtain⟨mb6,lv6,bT,bX,⟨bp,bn,cw⟩|⟨bp,bn⟩⟩:=hr
   ·cases bn
    refine gz ?_ o125 [13,14,17]
    exact fin1 (U':=S6) ⟨mb6,lv6,bT,fun j o h k1 k2=>bX j o (ai j o (aj _ j o h) k1 k2) k1 k2,.inl ⟨bp,rfl⟩⟩ (hZ:=Sub.refl _)
   ·cases bn
    refine gz ?_ o125 [13,14,17]
    exact fin1 (U':=S6) ⟨mb6,lv6,bT,fun j o h k1 k2=>bX j o (ai j o (aj _ j o h) k1 k2) k1 k2,.inr ⟨bp,rfl⟩⟩ (hZ:=Sub.refl _)
 rw[if_neg aS]
 by_cases h3:x.op=3
 ·have e2':=e2 h3
  refine gf (gi o13 (gi o14 (gi h3 (gi e1 e2')))) ?_ o125 [13,14,17]
  refine newV (fun i17 aa=>?_)
  have n1:i13≠i17:=fun e=>by rw[<-e,o13]at aa;cases aa
  have aw:∀o,WayS r1 r2 c.ins.length mb lv (S3.set i17 o):=fun o=>ac.set aa
  have aj:∀o,Sub O (S3.set i17 o):=fun o j u h=>(Sub.refl S3).set aa j u (am j u h)
  have q1:i17≠r1:=Al ac.o1 aa
  have q2:i17≠r2:=Al ac.o2 aa
  refine gf (gi o13 (gi o14 (gi h3 (gi e1 (gi e2' n1))))) ?_ o125 [13,14,17]
  refine A4 (C4 r1 r2 c.ins.length mb lv ((q:Int)+1) ⟨st-take+give,em⟩ _ hc (aw _)) (fun d S5 hr=>?_) (fun d S5 hr=>by obtain⟨_,_,_,_,⟨_,h,_⟩|⟨_,h⟩⟩:=hr<;>cases h)
  obtain⟨mb5,lv5,ak,ai,⟨ag,ae,aP⟩|⟨ag,ae⟩⟩:=hr
  ·cases ae
   refine gz ?_ o125 [13,14,17]
   exact fin1 (U':=S5) ⟨mb5,lv5,ak,fun j o h k1 k2=>ai j o (aj _ j o h) k1 k2,.inl ⟨ag,rfl⟩⟩ (hZ:=Sub.refl _)
  ·cases ae
   refine gz ?_ o125 [13,14,17]
   exact fin1 (U':=S5) ⟨mb5,lv5,ak,fun j o h k1 k2=>ai j o (aj _ j o h) k1 k2,.inr ⟨ag,rfl⟩⟩ (hZ:=Sub.refl _)
 by_cases bd:x.op=20
 ·have e4':=e4 bd
  refine gf (gi o13 (gi o14 (gi bd (gi e1 e4')))) ?_ o125 [13,14,17]
  refine newV (fun i17 aa=>?_)
  have n1:i13≠i17:=fun e=>by rw[<-e,o13]at aa;cases aa
  have aw:∀o,WayS r1 r2 c.ins.length mb lv (S3.set i17 o):=fun o=>ac.set aa
  have aj:∀o,Sub O (S3.set i17 o):=fun o j u h=>(Sub.refl S3).set aa j u (am j u h)
  have q1:i17≠r1:=Al ac.o1 aa
  have q2:i17≠r2:=Al ac.o2 aa
  refine gf (gi o13 (gi o14 (gi bd (gi e1 (gi e4' n1))))) ?_ o125 [13,14,17]
  refine A4 (C4 r1 r2 c.ins.length mb lv ((q:Int)+1) ⟨st-take+give,em⟩ _ hc (aw _)) (fun d S5 hr=>?_) (fun d S5 hr=>by obtain⟨_,_,_,_,⟨_,h,_⟩|⟨_,h⟩⟩:=hr<;>cases h)
  obtain⟨mb5,lv5,ak,ai,⟨ag,ae,aP⟩|⟨ag,ae⟩⟩:=hr
  ·cases ae
   refine gz ?_ o125 [13,14,17]
   exact fin1 (U':=S5) ⟨mb5,lv5,ak,fun j o h k1 k2=>ai j o (aj _ j o h) k1 k2,.inl ⟨ag,rfl⟩⟩ (hZ:=Sub.refl _)
  ·cases ae
   refine gz ?_ o125 [13,14,17]
   exact fin1 (U':=S5) ⟨mb5,lv5,ak,fun j o h k1 k2=>ai j o (aj _ j o h) k1 k2,.inr ⟨ag,rfl⟩⟩ (hZ:=Sub.refl _)
 refine gf (gi o13 (gi o14 (gi h3 (gi aT (gi aO (gi aS (gi aR (gi bd (gi aN e1))))))))) ?_ o125 [13,14,17]
 refine newV (fun i17 aa=>?_)
 have n1:i13≠i17:=fun e=>by rw[<-e,o13]at aa;cases aa
 have aw:∀o,WayS r1 r2 c.ins.length mb lv (S3.set i17 o):=fun o=>ac.set aa
 have aj:∀o,Sub O (S3.set i17 o):=fun o j u h=>(Sub.refl S3).set aa j u (am j u h)
 have q1:i17≠r1:=Al ac.o1 aa
 have q2:i17≠r2:=Al ac.o2 aa
 refine gf (gi o13 (gi o14 (gi h3 (gi aT (gi aO (gi aS (gi aR (gi bd (gi aN (gi e1 n1)))))))))) ?_ o125 [13,14,17]
 refine A4 (C4 r1 r2 c.ins.length mb lv ((q:Int)+1) ⟨st-take+give,em⟩ _ hc (aw _)) (fun d S5 hr=>?_) (fun d S5 hr=>by obtain⟨_,_,_,_,⟨_,h,_⟩|⟨_,h⟩⟩:=hr<;>cases h)
 obtain⟨mb5,lv5,ak,ai,⟨ag,ae,aP⟩|⟨ag,ae⟩⟩:=hr
 ·cases ae
  refine gz ?_ o125 [13,14,17]
  exact fin1 (U':=S5) ⟨mb5,lv5,ak,fun j o h k1 k2=>ai j o (aj _ j o h) k1 k2,.inl ⟨ag,rfl⟩⟩ (hZ:=Sub.refl _)
 ·cases ae
  refine gz ?_ o125 [13,14,17]
  exact fin1 (U':=S5) ⟨mb5,lv5,ak,fun j o h k1 k2=>ai j o (aj _ j o h) k1 k2,.inr ⟨ag,rfl⟩⟩ (hZ:=Sub.refl _)
end Go.DL
