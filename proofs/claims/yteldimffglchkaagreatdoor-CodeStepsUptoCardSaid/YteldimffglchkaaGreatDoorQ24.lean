/- A part of the proof. -/
import Derived.Test.YteldimffglchkaaGreatDoorQ23
set_option linter.all false
namespace Go.DL
open Go.Proofs.Tryz
open Go Go.Proofs
set_option maxHeartbeats 80000000
@[simp] theorem cSt_len(s:CSt):(cSt s).length=3:=rfl
@[simp] theorem cSt_take(s:CSt):List.take 3 (cSt s)=cSt s:=rfl
@[simp] theorem mem_cSt(y:D)(s:CSt):y∈cSt s ↔ y=dI s.pos\/y=dI s.j7\/y=.bool s.next:=by simp[cSt]
theorem UZ(p:aw)(c:jD)(im:Nat)(s:CSt)(O:Sig):ar prog 100 [cChk p c im,.agg (cSt s)] O (rS (.func (.func 169) [] [.ak [cChk p c im] 0,.ak (cSt s) 0]) O):=by
 refine en func100 ntmps100 ?_;refine gz ?_;exact fe1 trivial
@[reducible,instance] def a100:=fun p c im s O=>ah0 (@UZ p c im s O)
theorem My: ∀(l:eP) (n m:Int),CA n l=some m->n<=m/\m<=n+l.length
 |[],n,m,h=>by rw[CA]at h;cases h;simp
 | s::r,n,m,h=>by
  rw[CA]at h;split at h
  ·have:=My r _ _ h;simp only[aS];omega
  ·cases h
theorem Lt: ∀(cs:List ax) (n m:Int),AT n cs=some m->n<=m/\m<=n+4*cs.length
 |[],n,m,h=>by rw[AT]at h;cases h;simp
 | c::r,n,m,h=>by
  rw[AT]at h;split at h
  ·cases h
  ·split at h
   ·cases h
   ·rename_i m1 h1;have:=My _ _ _ h1;have:=Lt r _ _ h;simp only[aS];omega
theorem VZ{p:aw}(h:okP p=true):0<=p.ac/\p.ac<=40:=by
 have h:=BT h;unfold Am at h;simp only[aF,aH]at h;obtain⟨iY,h⟩:=h;split at h
 ·cases h
 ·rename_i n hn;simp only[aF,aH]at h;have:=Lt _ _ _ hn;omega
theorem MM(p:aw): ∀(l:List jy) (s s':eP),CT p l s=some s'->∀m∈l,0<=m.gen/\m.gen<p.ai.length
 |[],_,_,_,m,hm=>by cases hm
 | a::r,s,s',h,m,hm=>by
  rw[CT]at h;split at h
  ·rename_i gn;rcases aY.1 hm with rfl|hm
   ·simp only[H0,aF,aH]at gn;exact gn.1.1.2
   ·split at h
    ·cases h
    ·exact MM p r _ _ h m hm
  ·cases h
theorem SW{p:aw}(h:okP p=true): ∀m∈p.j9,0<=m.gen/\m.gen<p.ai.length:=by
 unfold okP DH at h;split at h
 ·cases hm:CT p p.j9 (List.replicate p.jJ.length (-1))with
  |none=>rw[hm]at h;simp at h
  |some s=>exact MM p _ _ _ hm
 ·cases h
def Me(p:aw)(c:jD):Option kG:=if CO p c.j6.length c.j6 0 then J2 p c else none
def LkR(p:aw)(c:jD)(im:Nat)(O:Sig)(x:DE)(U':Sig):Prop:=jd (· = im) O U'/\match Me p c with
 |none=>x=.panic unfC
 |some W=>x=.ret (.tup [])/\U' im=some (.map (eIL W))
theorem finMN{P:Program}{n:Nat}{fn:Func}{R:DE->Sig->Prop}{γ:Fr}{O U':Sig}{d d':D}(js:eQ)(hR:R (.ret d') U')(hZ:Sub U' (dels js O))(hn:js.Nodup:=by simp)(hd:∀j∈js,O j=some .defs:=by simp)(h:resD fn γ=some d:=by exact tdR)(hw:WkD d d'): ∃s',Wk P n ⟨γ,O,js.map .coll⟩ s'/\Rm P n fn (Weak R) .normal s':=
 ⟨_,Wk.refl _ _ _,js,rfl,hn,hd,d,E3 h,.ret d',U',hw,hZ,hR⟩
theorem WH (p:aw) (c:jD) (im:Nat) (O:Sig) (hp:p.wt<=1073741824) (hk:okP p=true) (hc:c.j6.length<=300) (c9:c.jG.length=p.j9.length) (hm:O im=some (.map (eIL []))):ar prog 98 [.ak (cCPg c) 0, .ak [cChk p c im] 0, .ak (A7 p) 0] O (LkR p c im O):=by
 obtain⟨p1,p2,p3,p4,p5,p6,p7⟩:=p.wt_le;have fj:=VZ hk;have eV:=DY hk;obtain⟨g1,g2,g3,g4,g5⟩:=Gw hk;have gW:=SW hk;refine FA func98 rfl (by decide) ntmps98 j1 ?_;refine gz ?_ o98;refine Bz ([0,1,2,5,6,7,8,10,11,12,13,14,16,17]++List.range' 28 85) (fun (q:Nat)=>q<=c.j6.length/\CO p c.j6.length c.j6 0=CO p c.j6.length (c.j6.drop q) q) (fun q=>[(18,dI q)]) (fun _=>O) (fun q=>c.j6.length-q) (0) (by exact⟨j0,rfl⟩) (fun q hI=>?_);obtain⟨hq,hA⟩:=hI
 by_cases fk:q<c.j6.length
 ·rw[A6 fk,CO]at hA;generalize hx:c.j6[q]=x at*
  repeat' first|refine gf hx ?_ o98|apply gy<;>intro hh
  ·rw[hh,bq]at hA;exact⟨q+1,⟨j0,hA⟩,td1,wkR⟩
  ·rw[hh,bD]at hA;have hL:Me p c=none:=by unfold Me;rw[hA];rfl
   exact finMP [] (U':=O) ⟨jd.refl _ _,by rw[hL]⟩ (Sub.refl _)
 ·rw [A9 fk,CO] at hA;have gD:Me p c=J2 p c:=by unfold Me;rw[hA];rfl
  have fO:stsQ p c=⟨c.jf,0,false⟩::List.zipWith (De p) p.j9 c.jG:=rfl;refine gz ?_ o98;clear fk hq;refine Qt ([0,1,2,10,11,12,13,14,33,34]++List.range' 68 45) (fun (q:Nat) (out:List CSt) (o:Own) (S1:Sig)=>q<=c.jG.length/\out.length=q+1/\out++List.zipWith (De p) (p.j9.drop q) (c.jG.drop q)=stsQ p c/\RowR 3 O S1 (out.map cSt) o) (fun q out o _=>[(35,dI q),(5,.slice (out.map cSt) o)]) (fun _ _ _ S1=>S1) (fun q _ _ _=>c.jG.length-q) (0) ([⟨c.jf,0,false⟩]) (.clip) (O) (by exact⟨j0,rfl,rfl,.inl ⟨rfl,rfl⟩⟩) (fun q out o S1 hI=>?_);obtain⟨hq,fR,hO,fD⟩:=hI
  by_cases fk:q<c.jG.length
  ·have gm:q<p.j9.length:=by omega
   rw[A6 fk,A6 gm,List.zipWith_cons_cons]at hO;have iM:=gW _ (aK gm);generalize gu:p.j9[q]=m at*;have gX:p.ai.getD m.gen.toNat 0=p.ai[m.gen.toNat]'(by omega):=by rw[aQ,aD j0];rfl
   have go:Kf m=(decide (m.kind=1)||decide (m.kind=4)):=rfl;have gr:De p m c.jG[q]=⟨c.jG[q],p.ai[m.gen.toNat]'(by omega),Kf m⟩:=by unfold De;rw[gX]
   refine gf gu ?_ (ji 10 o98);refine FK (id:=10) (List.range 22) [20] O fD.sub ?_
   repeat' first|refine gf gu ?_ o98|apply gy<;>intro hh
   ·have ff:cSt (De p m c.jG[q])=[dI c.jG[q],dI (p.ai[m.gen.toNat]'(by omega)),.bool true]:=by rw[gr,go];simp[cSt,hh]
    refine XQ (sz:=3) fD (Sub.refl _) (fun j hj=>?_);have gJ:WkD (.slice (out.map cSt++[[dI c.jG[q],dI (p.ai[m.gen.toNat]'(by omega)),.bool true]]) (.tag j)) (.slice ((out++[De p m c.jG[q]]).map cSt) (.tag j)):=Cb (by rw[<-ff];simp);refine gz ?_ o98;exact⟨q+1,out++[De p m c.jG[q]],.tag j,O.set j (.tail 3 ((out++[De p m c.jG[q]]).map cSt).length),⟨j0,by rw[aC,fR];rfl,by rw[aO];exact hO,.inr ⟨j,hj,rfl,rfl⟩⟩,td1,wkR⟩
   ·have ff:cSt (De p m c.jG[q])=[dI c.jG[q],dI (p.ai[m.gen.toNat]'(by omega)),.bool (decide (m.kind=4))]:=by rw[gr,go];simp[cSt,hh]
    refine XQ (sz:=3) fD (Sub.refl _) (fun j hj=>?_);have gJ:WkD (.slice (out.map cSt++[[dI c.jG[q],dI (p.ai[m.gen.toNat]'(by omega)),.bool (decide (m.kind=4))]]) (.tag j)) (.slice ((out++[De p m c.jG[q]]).map cSt) (.tag j)):=Cb (by rw[<-ff];simp);refine gz ?_ o98;exact⟨q+1,out++[De p m c.jG[q]],.tag j,O.set j (.tail 3 ((out++[De p m c.jG[q]]).map cSt).length),⟨j0,by rw[aC,fR];rfl,by rw[aO];exact hO,.inr ⟨j,hj,rfl,rfl⟩⟩,td1,wkR⟩
  ·rw [List.drop_eq_nil_of_le j0,List.drop_eq_nil_of_le j0,List.zipWith_nil_left,bl] at hO;have gR:S1 im=some (.map (eIL [])):=fD.sub _ _ hm;have ik:Sub O S1:=fD.sub;have gM:out.length<=17:=by omega
   have f0:∀s∈out,0<=s.j7/\s.j7<=1000:=fun s hs=>by
    rw[hO,fO]at hs;rcases aY.1 hs with rfl|hs
    ·simp
    ·obtain⟨k,b7,rfl⟩:=bT hs;rw[List.getElem_zipWith];have:=eV (p.j9[k]'(by simp at b7;omega)).gen.toNat
     show 0<=p.ai.getD _ 0/\p.ai.getD _ 0<=1000;omega
   have fE:MonoG (fun (O:Sig) (W:kG)=>O im=some (.map (eIL W))):=fun O U' s hg hj=>hj _ _ hg rfl;refine gz ?_ o98;refine loopD4 ([0,1,68,69,77,78]++List.range' 103 10) (fun (j:Nat) (W:kG) (S2:Sig) (js:eQ)=>j<=out.length/\allL p c out []=allL p c (out.drop j) W/\S2 im=some (.map (eIL W))/\jd (· = im) O S2/\js.Nodup/\(∀i∈js,O i=none/\S2 i=some .defs)) (fun j _ _ _=>[(70,dI j)]) (fun _ _ S2 _=>S2) (fun _ _ _ js=>js.map .coll) (fun j _ _ _=>out.length-j) (0) ([]) (S1) ([]) (by exact⟨j0,rfl,gR,fun k x hk _=>ik _ _ hk,j1,j1⟩) (fun j W S2 js hI=>?_);obtain⟨hj,hR,hm2,fF,fo,fe⟩:=hI
   by_cases fW:j<out.length
   ·rw [A6 fW,allL] at hR;have gZ:=f0 _ (aK fW);generalize hs:out[j]=s at*;refine gf hs ?_ o98;have fv:∀i:Nat,i=im->S2 i≠none:=fun i hi=>by rw[hi,hm2];simp
    refine rangeG unfC (fun (O:Sig) (W:kG)=>O im=some (.map (eIL W))) (· = im) (· = im) (Bm p c s Gc W) W (fE.indep _) fE.fresh hm2 fv fv rfl (fun l did LO SL fL hd hl gj iX fM gO=>?_) (fun did W' U' ho d9 f7 iy fu=>?_) (fun did U' ho d9 f7 fu=>?_)
    ·have iv:SL l=some LO:=fM.1;have iq:SL im=some (.map (eIL W)):=fM.2.1;refine Up p c im s l _ _ _ Gc hp hc hA eV gZ (fun k lv S3 W3 d7 eW=>?_) SL W fM (fun a ha S3 W3 o eW=>?_) gO (fun S3 W3 eW=>eW.2.2)
     ·have fp:(S3.set l (Dj LO)) im=some (.map (eIL W3)):=eW.busy fL (fE.indep _) hl;obtain⟨la,lz⟩:=lv;have gg:∀x,jd (· = im) (S3.set l (Dj LO)) ((S3.set l (Dj LO)).set im x):=fun x j y hj hn=>by rw[w7 _ _ hn];exact hj
      have ic:=fun (c9:Gc k ⟨la,lz⟩ W3=some (jS (k:Int) ⟨la,lz⟩ W3))=>c9;refine Ox fL eW.1 ?_;refine gz ?_ o98;refine⟨eW.1,?_⟩;have gE:=eW.bad hl (fun j h=>h) (jd.refl (· = im) (S3.set l (Dj LO)));generalize gC:S3.set l (Dj LO)=Sb at fp gg gE⊢;cases hh:hasM (k:Int) W3 with
      |false=>
       have c9:Gc k ⟨la,lz⟩ W3=some (jS (k:Int) ⟨la,lz⟩ W3):=by unfold Gc;exact aE fun h=>by rw[hh]at h;cases h.1
       refine gf (gi fp hh) ?_ o98;exact endRN c9 fL (fE.indep _) eW gj hl (w6 ..) (by rw[gC];exact gg _)
      | true =>
       refine gf (gi fp hh) ?_ o98;refine eqlS _ (decide (getM ⟨0,0⟩ (k:Int) W3=(⟨la,lz⟩:jO))) PD Pl (Xn _ _) ?_
       by_cases he:getM ⟨0,0⟩ (k:Int) W3=(⟨la,lz⟩:jO)
       ·have c9:Gc k ⟨la,lz⟩ W3=some (jS (k:Int) ⟨la,lz⟩ W3):=by unfold Gc;exact aE fun h=>h.2 he
        refine gf (gi fp he) ?_ o98;exact endRN c9 fL (fE.indep _) eW gj hl (w6 ..) (by rw[gC];exact gg _)
       ·have c9:Gc k ⟨la,lz⟩ W3=none:=by unfold Gc;exact aG ⟨hh,he⟩
        refine gf (gi fp he) ?_ o98;exact endRP c9 gE
     ·have e1:l≠a:=fun e=>by rw[<-e,iv]at ha;cases ha
      have e2:im≠a:=fun e=>by rw[<-e,iq]at ha;cases ha
      refine⟨j2 e1 eW.1,by show(S3.set a o) im=_;rw[w7 _ _ e2];exact eW.2.1,fun j x hj hn=>?_⟩;rw[w7 _ _ fun e=>?_]
      ·exact eW.2.2 j x hj hn
      ·have:=fM.2.2 j x hj hn;rw[e,ha]at this;cases this
    ·rw [ho] at hR;simp only at hR;refine gz ?_ o98;have fY:jd (· = im) O U':=fun k x b7 hn=>(fu k x (fF k x b7 hn) hn).1;have fX:(did::js).Nodup:=dZ.2 ⟨fun fa=>(by rw[(fe did fa).2]at d9;cases d9),fo⟩
     have fJ:∀i∈did::js,O i=none/\U' i=some .defs:=fun i hi=>by
      rcases aY.1 hi with rfl|hi
      ·refine⟨?_,f7⟩;cases ga:O i with
       |none=>rfl
       |some x=>
        by_cases e:i=im
        ·rw[e,hm2]at d9;cases d9
        ·rw[fF _ _ ga e]at d9;cases d9
      ·obtain⟨h1,h2⟩:=fe i hi;exact⟨h1,(fu i _ h2 fun e=>by rw[e,hm2]at h2;cases h2).1⟩
     exact⟨j+1,W',U',did::js,⟨j0,hR,iy,fY,fX,fJ⟩,td1,wkR⟩
    ·rw [ho] at hR;simp only at hR;have hL:Me p c=none:=by rw[gD];unfold J2;rw[<-hO,hR]
     have fY:jd (· = im) O U':=fun k x b7 hn=>(fu k x (fF k x b7 hn) hn).1;have fX:(did::js).Nodup:=dZ.2 ⟨fun fa=>(by rw[(fe did fa).2]at d9;cases d9),fo⟩
     have fJ:∀i∈did::js,O i=none/\U' i=some .defs:=fun i hi=>by
      rcases aY.1 hi with rfl|hi
      ·refine⟨?_,f7⟩;cases ga:O i with
       |none=>rfl
       |some x=>
        by_cases e:i=im
        ·rw[e,hm2]at d9;cases d9
        ·rw[fF _ _ ga e]at d9;cases d9
      ·obtain⟨h1,h2⟩:=fe i hi;exact⟨h1,(fu i _ h2 fun e=>by rw[e,hm2]at h2;cases h2).1⟩
     exact finMP (did::js) (U':=dels (did::js) U') ⟨fun k x b7 hn=>by
      rw[M9 _ U' k fun fa=>by rw[(fJ k fa).1]at b7;cases b7];exact fY k x b7 hn,by rw[hL]⟩ (Sub.refl _) fX fun i hi=>(fJ i hi).2
   ·rw[A9 fW,allL]at hR;have hlen:(eIL W).length=W.length:=by unfold eIL eM;simp
    have hw:Me p c=if W.length=c.j6.length then some W else none:=by rw[gD];unfold J2;rw[<-hO,hR]
    have gx:jd (· = im) O (dels js S2):=fun k x b7 hn=>by
     rw[M9 _ S2 k fun fa=>by rw[(fe k fa).1]at b7;cases b7];exact fF k x b7 hn
    have ie:(dels js S2) im=some (.map (eIL W)):=by
     rw[M9 _ S2 im fun fa=>by rw[(fe im fa).1]at hm;cases hm];exact hm2
    by_cases he:W.length=c.j6.length
    ·rw[aG he]at hw;refine gf (gi hm2 (gi hlen he)) ?_ o98;exact finMN js (U':=dels js S2) (d':=.tup []) ⟨gx,by rw[hw];exact⟨rfl,ie⟩⟩ (Sub.refl _) fo (fun i hi=>(fe i hi).2) (hw:=Ac _)
    ·rw[aE he]at hw;refine gf (gi hm2 (gi hlen he)) ?_ o98;exact finMP js (U':=dels js S2) ⟨gx,by rw[hw]⟩ (Sub.refl _) fo fun i hi=>(fe i hi).2
def LokR(p:aw)(c:jD)(O:Sig)(x:DE)(U':Sig):Prop:=match Cp p c with
 |none=>x=.ret .aq/\U'=O
 |some W=> ∃im,O im=none/\x=.ret (cChk p c im)/\U'=O.set im (.map (eIL W))
theorem N5(p:aw)(c:jD)(O:Sig)(hp:p.wt<=1073741824)(gB:c.j6.length<=1073741824)(gA:c.jG.length<=1073741824):ar prog 44 [.agg (A7 p),.agg (cCPg c)] O (LokR p c O):=by
 obtain⟨p1,p2,p3,p4,p5,p6,p7⟩:=p.wt_le;refine en func44 ntmps44 ?_
 by_cases eX:okP p=true/\c.j6.length<=300/\c.jG.length=p.j9.length
 ·obtain⟨hk,fG,c9⟩:=eX
  have hL:Cp p c=Me p c:=by
   unfold Cp Me;rw[hk,be fG,be c9];simp
  refine gf (gi hk c9) ?_;refine newIL (fun im fK=>?_);refine gf (gi hk c9) ?_;generalize gb:O.set im (.map (eIL []))=S0;have fc:S0 im=some (.map (eIL [])):=by rw[<-gb,w6]
  refine A3 (WL 98 [.ak (cCPg c) 0,.ak [cChk p c im] 0,.ak (A7 p) 0] S0 (fun S1=>LkR p c im S1) (fun i hi=>WH p c im _ hp hk fG c9 (by rw[w7 _ _ fun e=>by rw[<-e,fc]at hi;cases hi];exact fc)) (fun S1 d S2 h=>?_) (fun i S2 x hi h=>h.1 i _ (w6 ..) (fun e=>by rw[e,fc]at hi;cases hi))) (fun d U' hr=>?_) (fun d U' hr=>?_)
  ·obtain⟨_,h⟩:=h;split at h
   ·simpa using h
   ·exact absurd h.1 j1
  ·obtain⟨i,S2,hi,rfl,hr⟩:=hr;have gU:im≠i:=fun e=>by rw[<-e,fc]at hi;cases hi
   have fN:∀(S3:Sig) (W:kG),jd (· = im) (S0.set i (.cells [.bool false])) S3->S3 im=some (.map (eIL W))->Sub (O.set im (.map (eIL W))) (S3.del i):=fun S3 W hK hW k x b7=>by
    by_cases e:k=im
    ·subst e;rw[w6]at b7;simp only[Sig.del,gU,bc];rw[hW];exact b7
    ·rw[w7 _ _ e]at b7;have e0:S0 k=some x:=by rw[<-gb,w7 _ _ e];exact b7
     have e2:k≠i:=fun e2=>by rw[e2,hi]at e0;cases e0
     simp only[Sig.del,e2,bc];exact hK k x (j2 e2 e0) e
   rcases hr with⟨e,⟨hK,h⟩,h2⟩|⟨⟨hK,h⟩,h2⟩
   ·cases h2;split at h
    ·cases h
    ·rename_i W hW;obtain⟨_,gQ⟩:=h;refine gz ?_;refine fin1 (U':=O.set im (.map (eIL W))) ?_ (hZ:=fN _ _ hK gQ);unfold LokR;rw[hL,hW];exact⟨im,fK,rfl,rfl⟩
   ·cases h2;split at h
    ·rename_i hW;refine gz ?_;refine fin1 (U':=O) (by unfold LokR;rw[hL,hW];exact⟨rfl,rfl⟩) (hZ:=fun k x b7=>?_);have e:=AF b7 fK;have e0:S0 k=some x:=by rw[<-gb,w7 _ _ e];exact b7
     have e2:k≠i:=fun e2=>by rw[e2,hi]at e0;cases e0
     simp only[Sig.del,e2,bc];exact hK k x (j2 e2 e0) e
    ·exact absurd h.1 j1
  ·obtain⟨i,S2,hi,rfl,hr⟩:=hr;rcases hr with⟨e,_,h2⟩|⟨_,h2⟩<;>cases h2
 ·have hL:Cp p c=none:=by
   unfold Cp
   exact aE fun h=>by
    simp only[aF,aH]at h;exact eX ⟨h.1,h.2.1,h.2.2.1⟩
  repeat' first|refine gz ?_|apply gy<;>intro hh
  all_goals first|exact fin1 (U':=O) (by unfold LokR;rw[hL];exact⟨rfl,rfl⟩)|exact absurd ⟨by assumption,j0,j0⟩ eX
def F2(c:jD)(W:kG):List jO:=(List.range c.j6.length).map fun k:Nat=>getM ⟨0,0⟩ (k:Int) W
theorem X4(p:aw)(c:jD)(O:Sig)(hp:p.wt<=1073741824)(gB:c.j6.length<=1073741824)(gA:c.jG.length<=1073741824):ar prog 25 [.agg (A7 p),.agg (cCPg c)] O (rS (.tup [sl (((Cp p c).map (F2 c)).getD [] |>.map jm),dI (if(Cp p c).isSome then 0 else 2)]) O):=by
 refine en func25 ntmps25 ?_;refine gz ?_;refine A3 (N5 p c O hp gB gA) (fun d U' hr=>?_) (fun d U' hr=>?_)
 ·unfold LokR at hr;cases hL:Cp p c with
  |none=>
   rw[hL]at hr;obtain⟨e,rfl⟩:=hr;cases e;refine gz ?_;refine kM (U':=U') (d':=sl []) (e':=dI 2) ⟨rfl,rfl⟩ (hw:=?_);exact Ak _ (.inl rfl)
  | some W =>
   rw[hL]at hr;obtain⟨im,fK,e,rfl⟩:=hr;cases e;have fc:(O.set im (.map (eIL W))) im=some (.map (eIL W)):=w6 ..;have gc:Sub O (O.set im (.map (eIL W))):=(Sub.refl _).set fK;generalize O.set im (.map (eIL W))=S0 at fc gc;refine gz ?_;refine ED 7 2 (fun it gw=>?_);have nit:im≠it:=AF fc gw;refine BO [4,5,6,16,30] (fun (k:Nat) (out:List jO)=>k<=c.j6.length/\out=(List.range k).map fun k:Nat=>getM ⟨0,0⟩ (k:Int) W) (fun k out=>[(17,dI k),(7,.slice (out.map jm) (.tag it))]) (fun _ out=>S0.set it (.tail 2 out.length)) (fun k _=>c.j6.length-k) (0) ([]) (by exact⟨j0,rfl⟩) (fun k out hI=>?_);obtain⟨hk,hO⟩:=hI;have fR:out.length=k:=by rw[hO];simp
   by_cases d7:k<c.j6.length
   ·refine gf (gi fc nit) ?_;exact⟨k+1,out++[getM ⟨0,0⟩ (k:Int) W],⟨j0,by rw[List.range_succ,bz,<-hO];rfl⟩,td1,wkR⟩
   ·have gT:k=c.j6.length:=by omega
    have ip:out=F2 c W:=by rw[hO,gT];rfl
    refine gz ?_;refine kM (U':=O) (d':=sl ((F2 c W).map jm)) (e':=dI 0) ⟨rfl,rfl⟩ (hZ:=gc.set (gc.none gw)) (hw:=?_);rw[ip];exact Cc _ _
 ·unfold LokR at hr;split at hr
  ·cases hr.1
  ·obtain⟨_,_,h,_⟩:=hr;cases h
end Go.DL
namespace Go.DL
open Go.Proofs.Tryz
open Go Go.Proofs
set_option maxHeartbeats 8000000
def Cl(h:GoH):eO:=[dI h.kind,dI h.val.kind,dI h.val.n,dI h.gen,sl (h.args.map j5),dI h.fin,dI h.pos,sl (h.jA.map j5),sl (h.j7.map j5),sl (h.j3.map cTh),sl (h.jW.map cEv)]
def DJ:GoH:=⟨0,vZ,0,[],0,0,[],[],[],[]⟩
abbrev cFr(pos:Int)(jA j7:List jH):eO:=[dI pos,sl (jA.map j5),sl (j7.map j5)]
theorem H8:WkD (.agg [dI 0,dI 0,dI 0,dI 0,.aj,dI 0,dI 0,.aj,.aj,.aj,.aj]) (.agg (Cl DJ)):=
 Gl ⟨Ac _,Ac _,Ac _,Ac _,Ak _ (.inl rfl),Ac _,Ac _,Ak _ (.inl rfl),Ak _ (.inl rfl),Ak _ (.inl rfl),Ak _ (.inl rfl),trivial⟩
theorem Gk{n:Nat}{γ:Fr}{df:List DDf}{O:Sig}{i:Nat}{xs ys:eO}{d d':D}(hi:O i=some (.cells (xs++d::ys)))(h:WkD d d'): ∃U',Wk prog n ⟨γ,O,df⟩ ⟨γ,U',df⟩/\U' i=some (.cells (xs++d'::ys)) /\ ∀j o,O j=some o->j≠i->U' j=some o:=
 ⟨_,GU hi h,w6 .., fun j o hj b8=>by rw[w7 _ _ b8];exact hj⟩
section
variable {ir:Nat}{p:aw}{R:Nat->RW}{s:GoS}{O:Sig}
theorem haltFz{n:Nat}{γ:Fr}{df:List DDf}{av:D}{b:Bool}{h:GoH}(hH:l8 ir p R s av b h O): ∃U' tl,Wk prog n ⟨γ,O,df⟩ ⟨γ,U',df⟩/\U' ir=some (.cells (Cl h++tl)) /\ ∀j o,O j=some o->j≠ir->(∀a, ¬(R a).is j)->U' j=some o:=by
 obtain⟨fm,b6,d5,gq,eY,fb,fy,c9⟩:=hH;have dj:∀{a b:Nat},a≠b->∀{j:Nat},(R a).is j->¬(R b).is j:=fun {a b} ii {j} ha hb=>ii (b6.dj a b j ha hb);have nir:∀{a j:Nat},(R a).is j->j≠ir:=fun {a j} h e=>d5 a (e ▸ h);cases b with
 |false=>
  obtain⟨e1,e2,e3⟩:=c9;obtain⟨S1,w1,o1,k1⟩:=JI (n:=n) (γ:=γ) (df:=df) (a0:=[dI h.kind,dI h.val.kind,dI h.val.n,dI h.gen,av,dI h.fin,dI 0,.aj,.aj]) (b0:=(R 2).d s.jW.length::(A7 p++[dI s.pos,(R 0).d s.jA.length,(R 1).d s.j7.length])) b6 d5 (gq 3) (by rw[fm];rfl);have q2:jN S1 3 (R 2) (s.jW.map cEv):=(b6.ok 2).keep fun j o hj b9=>k1 j o hj (nir b9) fun q hq=>dj j0 b9;obtain⟨S2,w2,o2,k2⟩:=B5 (P:=prog) (n:=n) (γ:=γ) (df:=df) (i:=ir) (az:=[dI h.kind,dI h.val.kind,dI h.val.n,dI h.gen,av,dI h.fin,dI 0,.aj,.aj,.slice (s.j3.map cTh) .no]) (bs:=A7 p++[dI s.pos,(R 0).d s.jA.length,(R 1).d s.j7.length]) q2 (by rw[o1,aN];rfl) (d5 2);obtain⟨S3,w3,o3,k3⟩:=Gk (n:=n) (γ:=γ) (df:=df) (xs:=[dI h.kind,dI h.val.kind,dI h.val.n,dI h.gen]) (ys:=[dI h.fin,dI 0,.aj,.aj,.slice (s.j3.map cTh) .no,.slice (s.jW.map cEv) .no]++(A7 p++[dI s.pos,(R 0).d s.jA.length,(R 1).d s.j7.length])) o2 eY;obtain⟨S4,w4,o4,k4⟩:=Gk (n:=n) (γ:=γ) (df:=df) (xs:=[dI h.kind,dI h.val.kind,dI h.val.n,dI h.gen,sl (h.args.map j5),dI h.fin,dI 0]) (ys:=[.aj,.slice (s.j3.map cTh) .no,.slice (s.jW.map cEv) .no]++(A7 p++[dI s.pos,(R 0).d s.jA.length,(R 1).d s.j7.length])) o3 (Ak .no (.inl rfl))
  obtain⟨S5,w5,o5,k5⟩:=Gk (n:=n) (γ:=γ) (df:=df) (xs:=[dI h.kind,dI h.val.kind,dI h.val.n,dI h.gen,sl (h.args.map j5),dI h.fin,dI 0,sl []]) (ys:=[.slice (s.j3.map cTh) .no,.slice (s.jW.map cEv) .no]++(A7 p++[dI s.pos,(R 0).d s.jA.length,(R 1).d s.j7.length])) o4 (Ak .no (.inl rfl));refine⟨S5,A7 p++[dI s.pos,(R 0).d s.jA.length,(R 1).d s.j7.length],(((w1.trans w2).trans w3).trans w4).trans w5,?_,fun j o hj b8 hn=>k5 j o (k4 j o (k3 j o (k2 j o (k1 j o hj b8 fun q _=>hn q) b8 (hn 2)) b8) b8) b8⟩;rw[o5,Cl,e1,e2,e3,fb,fy];rfl
 | true =>
  obtain⟨e1,e2,e3⟩:=c9;obtain⟨S1,w1,o1,k1⟩:=JI (n:=n) (γ:=γ) (df:=df) (a0:=[dI h.kind,dI h.val.kind,dI h.val.n,dI h.gen,av,dI h.fin,dI s.pos,(R 0).d s.jA.length,(R 1).d s.j7.length]) (b0:=(R 2).d s.jW.length::(A7 p++[dI s.pos,(R 0).d s.jA.length,(R 1).d s.j7.length])) b6 d5 (gq 3) (by rw[fm];rfl);have q2:jN S1 3 (R 2) (s.jW.map cEv):=(b6.ok 2).keep fun j o hj b9=>k1 j o hj (nir b9) fun q hq=>dj j0 b9;obtain⟨S2,w2,o2,k2⟩:=B5 (P:=prog) (n:=n) (γ:=γ) (df:=df) (i:=ir) (az:=[dI h.kind,dI h.val.kind,dI h.val.n,dI h.gen,av,dI h.fin,dI s.pos,(R 0).d s.jA.length,(R 1).d s.j7.length,.slice (s.j3.map cTh) .no]) (bs:=A7 p++[dI s.pos,(R 0).d s.jA.length,(R 1).d s.j7.length]) q2 (by rw[o1,aN];rfl) (d5 2);have q0:jN S2 2 (R 0) (s.jA.map j5):=(b6.ok 0).keep fun j o hj b9=>k2 j o (k1 j o hj (nir b9) fun q hq=>dj j0 b9) (nir b9) (dj (by decide) b9)
  obtain⟨S3,w3,o3,k3⟩:=B5 (P:=prog) (n:=n) (γ:=γ) (df:=df) (i:=ir) (az:=[dI h.kind,dI h.val.kind,dI h.val.n,dI h.gen,av,dI h.fin,dI s.pos]) (bs:=[(R 1).d s.j7.length,.slice (s.j3.map cTh) .no,.slice (s.jW.map cEv) .no]++(A7 p++[dI s.pos,(R 0).d s.jA.length,(R 1).d s.j7.length])) q0 (by rw[o2,aN];rfl) (d5 0);have q1:jN S3 2 (R 1) (s.j7.map j5):=(b6.ok 1).keep fun j o hj b9=>k3 j o (k2 j o (k1 j o hj (nir b9) fun q hq=>dj j0 b9) (nir b9) (dj (by decide) b9)) (nir b9) (dj (by decide) b9)
  obtain⟨S4,w4,o4,k4⟩:=B5 (P:=prog) (n:=n) (γ:=γ) (df:=df) (i:=ir) (az:=[dI h.kind,dI h.val.kind,dI h.val.n,dI h.gen,av,dI h.fin,dI s.pos,.slice (s.jA.map j5) .no]) (bs:=[.slice (s.j3.map cTh) .no,.slice (s.jW.map cEv) .no]++(A7 p++[dI s.pos,(R 0).d s.jA.length,(R 1).d s.j7.length])) q1 (by rw[o3,aN];rfl) (d5 1);have w5:=GU (P:=prog) (n:=n) (γ:=γ) (df:=df) (az:=[dI h.kind,dI h.val.kind,dI h.val.n,dI h.gen]) (bs:=[dI h.fin,dI s.pos,.slice (s.jA.map j5) .no,.slice (s.j7.map j5) .no,.slice (s.j3.map cTh) .no,.slice (s.jW.map cEv) .no]++(A7 p++[dI s.pos,(R 0).d s.jA.length,(R 1).d s.j7.length])) (d:=av) o4 eY;refine⟨_,A7 p++[dI s.pos,(R 0).d s.jA.length,(R 1).d s.j7.length],(((w1.trans w2).trans w3).trans w4).trans w5,?_,fun j o hj b8 hn=>?_⟩
  ·rw[w6,Cl,e1,e2,e3,fb,fy];rfl
  ·rw[w7 _ _ b8];exact k4 j o (k3 j o (k2 j o (k1 j o hj b8 fun q _=>hn q) b8 (hn 2)) b8 (hn 0)) b8 (hn 1)
theorem haltD{ro:Ro}{n:Nat}{Q:DX->St->Prop}{c:Code}{γ:Fr}{df:List DDf}{av:D}{b:Bool}{h:GoH}(hH:l8 ir p R s av b h O)
  (k:∀U' tl,U' ir=some (.cells (Cl h++tl))->(∀j o,O j=some o->j≠ir->(∀a, ¬(R a).is j)->U' j=some o)->DWp prog ro n c Q ⟨γ,U',df⟩):DWp prog ro n c Q ⟨γ,O,df⟩:=by
 obtain⟨S2,tl,w,a,b⟩:=haltFz (n:=n) (γ:=γ) (df:=df) hH;exact FH w (k S2 tl a b)
def R01(r0 r1:RW):Nat->RW:=jK (jK (fun _=>.nil) 0 r0) 1 r1
theorem jU.init{S1 S2:Sig}{r0 r1:RW}{jA j7:List jH}{pos:Int}(h0:FrV O r0 jA S1)(h1:FrV S1 r1 j7 S2)(hi:S2 ir=none):jU ir p (R01 r0 r1) ⟨[],[],pos,jA,j7⟩ (S2.set ir (.cells (AY p (R01 r0 r1) ⟨[],[],pos,jA,j7⟩))):=by
 have a:Rows O (fun _=>RW.nil) rSz (fun _=>[]):=⟨fun _=>rfl,fun _ _ _ h=>h.elim⟩;have b:Rows S1 (jK (fun _=>RW.nil) 0 r0) rSz (jK (fun _=>[]) 0 (jA.map j5)):=a.upd (a:=0) h0.1 h0.2.1;have c:=b.upd (a:=1) (r':=r1) (es':=j7.map j5) (U':=S2) h1.1 (by rw[A1 _ _ j0];exact h1.2.1)
 have d:=c.retell (ct':=rCt (R01 r0 r1) ⟨[],[],pos,jA,j7⟩) fun a=>by
  match a with
  |0=>rw[A1 _ _ j0,Ab];rfl
  |1=>rw[Ab];rfl
  |2=>rw[A1 _ _ j0,A1 _ _ j0];rfl
  |3=>rw[A1 _ _ j0,A1 _ _ j0];rfl
  |k+4=>rw[A1 _ _ j0,A1 _ _ j0];simp[rCt]
 have d5:∀a, ¬(R01 r0 r1 a).is ir:=fun a ha=>by
  obtain⟨z,hz⟩:=(d.ok a).cells ha;rw[hi]at hz;cases hz
 refine⟨w6 .., d.keep fun j o hj ⟨b,hb⟩=>by rw[w7 _ _ fun e=>d5 b (by rw[<-e];exact hb)];exact hj,d5,fun a es ha=>?_⟩;unfold R01 at ha
 by_cases e1:a=1
 ·subst e1;rw[Ab]at ha;exact h1.2.2 es ha
 ·rw[A1 _ _ e1]at ha
  by_cases e0:a=0
  ·subst e0;rw[Ab]at ha;exact h0.2.2 es ha
  ·rw[A1 _ _ e0]at ha;cases ha
theorem VR{ds:eO}{r:RW}{n k:Nat}(h:O ir=some (.cells ds))(hl:k<ds.length):EP tab O 31 (.ptr ir k) (r.d n)=some (.any,O.set ir (.cells (ds.take k++[r.d n]++ds.drop (k+1)))):=by
 have hf:¬ds.length<k+1:=by omega
 cases r<;>simp[EP,h,RW.d,hf]
theorem RD{ro:Ro}{n:Nat}{ops:Array Oper}{Q:DX->St->Prop}{df:List DDf}{rest:List Oper}{γ Sr:Fr}{ty:TypeId}{pos:String}{after:Array Edge}{x y:Operand}{ds:eO}{r:RW}{m k:Nat}(hc:O ir=some (.cells ds))(h:au prog ro n ops Q rest ⟨γ,O.set ir (.cells (ds.take k++[r.d m]++ds.drop (k+1))),df⟩)
  (hl:A5 γ (Aa [x,y])=some Sr:=by exact tdR) (h1:ev Sr x=.ptr ir k:=by exact tdR) (h2:ev Sr y=r.d m:=by exact tdR) (hlen:k<ds.length:=by simp) :
  au prog ro n ops Q (⟨none,.store 31 x y,ty,pos,after,none⟩::rest) ⟨γ,O,df⟩:=
 FR jB (d:=.any) hl (by show EP tab O 31 (ev Sr x) (ev Sr y)=_;rw[h1,h2];exact VR hc hlen) h
end
section
variable {ro:Ro}{n:Nat}{ops:Array Oper}{N:Nat}{S0:Sig}{Q:DX->St->Prop}{df:List DDf}{γ Sr:List (Nat×D)}{O:Sig}{t:Nat}{ty:TypeId}{pos:String}{after:Array Edge}{e1:Bool}{l:List (Bool×Oper)}
theorem moRr(d:D){op:Op}(h:MO prog ro n ops N S0 Q df l ((t,d)::γ) O)(hr:DF op=true:=by rfl)(fH:decide (t<n)=true:=by exact tdR)(hl:A5 γ (Aa op.operands.toList)=some Sr:=by exact tdR)(hd:jX tab Sr S0 op=some d:=by first|with_unfolding_all rfl|(simp;done)|(simp;rfl)):MO prog ro n ops N S0 Q df ((e1,⟨some t,op,ty,pos,after,none⟩)::l) γ O:=
 Ok jB hr fH hl hd h
theorem moBox{T:Nat}{x:Operand}(cs:eO)(h:∀i,O i=none->MO prog ro n ops N S0 Q df l ((t,.ptr i 0)::γ) (O.set i (.cells cs)))(hl:A5 γ (Aa [x])=some Sr:=by exact tdR)(hc:(ev Sr x).cells=cs:=by exact tdR)(ht:(ev Sr x).told=true:=by exact tdR)(fH:decide (t<n)=true:=by exact tdR)(hC:Sub S0 O:=by first|exact Sub.refl _|assumption):
  MO prog ro n ops N S0 Q df ((true,⟨some t,.box T x,ty,pos,after,none⟩)::l) γ O:=
 mo1 (fun U2 hx=>by
  have e:ev U2 x=ev Sr x:=by rw[hx x (by simp[Op.operands]),CR hl]
  exact dops_box (by rw[e];exact ht) (by simpa using fH) (fun i hi=>AD ⟨rfl,by simp only[A8,bu];rw[e,hc];exact⟨hC.set (hC.none hi),h i hi⟩⟩)) fH
end
def Wq(s:GoS)(r:GoS ⊕ GoH):Prop:= ∀t,r=.inl t->t.jA.length<=s.jA.length+1/\t.j7.length<=s.j7.length+1/\t.jW.length<=s.jW.length+1
theorem len_ite{s:GoS}{c:Prop}[Decidable c]{a b:GoS ⊕ GoH}(h1:Wq s a)(h2:Wq s b):Wq s (if c then a else b):=by split<;>assumption
theorem ME{p:aw}{w:jY}{x:jI}{s t:GoS}(h:FL p w x s=.inl t):t.jA.length<=s.jA.length+1/\t.j7.length<=s.j7.length+1/\t.jW.length<=s.jW.length+1:=by
 have key:Wq s (FL p w x s):=by
  rw[FL]
  repeat' (refine len_ite ?_ ?_)
  all_goals
   intro t h
   first|(cases h;done)|(cases h;simp only[aC,List.length_dropLast,aT];omega)
 exact key t h
theorem actAt{j:Nat}(h1:1<=j)(h2:j<=21):cActs[j]? = some (.func (.func (actF j)) [] []):=by
 have h:j=1\/j=2\/j=3\/j=4\/j=5\/j=6\/j=7\/j=8\/j=9\/j=10\/j=11\/j=12\/j=13\/j=14\/j=15\/j=16\/j=17\/j=18\/j=19\/j=20\/j=21:=by omega
 rcases h with rfl|rfl|rfl|rfl|rfl|rfl|rfl|rfl|rfl|rfl|rfl|rfl|rfl|rfl|rfl|rfl|rfl|rfl|rfl|rfl|rfl<;>rfl
theorem LW(c:jD)(W:kG){k:Nat}(hk:k<c.j6.length):(F2 c W)[k]? = some (getM ⟨0,0⟩ (k:Int) W):=by
 unfold F2;rw[bA,List.getElem?_range hk];rfl
theorem Pk(c:jD)(W:kG):(F2 c W).length=c.j6.length:=by unfold F2;simp
theorem H2(p:aw)(c:jD):B6 p c=(Cp p c).map (F2 c):=by rw[<-SI,Qu];rfl
end Go.DL
namespace Go.DL
open Go.Proofs.Tryz
open Go Go.Proofs Go.ChangeShapes Go.WideShapes Go.ChangeAt Go.RowKit
open Go.Proofs.YteldimffglchkaaGreatDoor
open Go.Proofs.YteldimffglchkaaGreatDoor.Rows (uptoBulk uptoBulkAll)
set_option maxRecDepth 100000
section
variable {H:Type}{enc:TypeId×Value->H}{W:Go.World}{base:Nat}
structure CFrm where
 pos:Int
 jA:List jH
 j7:List jH
def CFrm.wt(f:CFrm):Nat:=f.jA.length+f.j7.length
abbrev cFrm(f:CFrm):eO:=cFr f.pos f.jA f.j7
theorem PL(n:Nat):Dec enc W n 32 (fun l:List jH=>[sl (l.map j5)]) (fun l=>1+wtL (fun _=>1) l):=CX underlying32 (by kernel_rfl:prog.cellsOf 40=2) j0 (fun _=>rfl) fun _ _=>PM _
theorem dec_Frm(n:Nat):Dec enc W n 34 cFrm CFrm.wt:=fun cs x h=>by
 obtain⟨xs,m,hm,hb,hl,hx,hf⟩:=Cg underlying34 h;rw[show prog.cellsOf 34=3 by kernel_rfl]at hl
 match cs,hl with
 | [v0,v1,v2],_ =>
  match xs,hx with
  |[x0,x1,x2],_=>
   obtain⟨a0,r0,w0⟩:=BW underlying3 [v0] x0 (Ch (hf 0 _ rfl) kN rfl);obtain⟨a1,r1,w1⟩:=PL _ [v1] x1 (Ch (hf 1 _ rfl) (show prog.cellsOf 32=1 by kernel_rfl) rfl);obtain⟨a2,r2,w2⟩:=PL _ [v2] x2 (Ch (hf 2 _ rfl) (show prog.cellsOf 32=1 by kernel_rfl) rfl);refine⟨⟨a0,a1,a2⟩,r0.append (r1.append r2),?_⟩;rw[hb];clear hf hx hl;simp only[Iq]at*; simp only[CFrm.wt,uptoBulkAll,bd,bX];omega
def goWt(x:List jF×CFrm):Nat:=wtL jF.wt x.1+x.2.wt
abbrev Vx(x:List jF×CFrm):eO:=sl (x.1.map cTh)::cFrm x.2
theorem Vj(n:Nat):Dec enc W n 36 Vx goWt:=fun cs x h=>by
 obtain⟨xs,m,hm,hb,hl,hx,hf⟩:=Cg underlying36 h;rw[show prog.cellsOf 36=4 by kernel_rfl]at hl
 match cs,hl with
 | [v0,v1,v2,v3],_ =>
  match xs,hx with
  |[x0,x1],_=>
   obtain⟨a0,r0,w0⟩:=CX underlying31 (by kernel_rfl:prog.cellsOf 131=2) j0 (fun _=>rfl) (fun _ _=>Rd _) [v0] x0 (Ch (hf 0 _ rfl) (show prog.cellsOf 31=1 by kernel_rfl) rfl);obtain⟨a1,r1,w1⟩:=dec_Frm _ [v1,v2,v3] x1 (Ch (hf 1 _ rfl) (show prog.cellsOf 34=3 by kernel_rfl) rfl);refine⟨(a0,a1),r0.append r1,?_⟩;rw[hb];clear hf hx hl;simp only at w0;simp only[goWt,uptoBulkAll,bd,bX];omega
theorem Ql{v:Value}{d:DataW H}{ps:List MemPlace}(d8:Value.okWide prog W .any base 36 v)(h:DataW.Trod enc prog W 0 (fun _=>true) true 36 v d ps): ∃x:List jF×CFrm,Rep (g0 W) (.agg (Vx x)) v/\goWt x<=Rows.uptoBulk d:=by
 obtain⟨cs,rfl,_⟩:=okWide_struct underlying36 d8;obtain⟨n,hn⟩:=h;obtain⟨c,h1,h2⟩:=Vj n _ _ hn;exact⟨c,⟨cs.toList,j1,h1⟩,h2⟩
theorem Qi:prog.readableRec 36=true:=by kernel_rfl
theorem Mm:36<prog.types.size:=cY (by kernel_rfl)
theorem law3g{N:Nat}{f:Func}(hf:f.params=#[27,30,36])(gK:f.resultTypes=#[4])(hN:∀(p:aw) (c:jD) (x:List jF×CFrm),p.wt<=1048576->c.wt<=1048576->x.1.length<=1048576->(∀y∈x.1,y.ac.length<=1048576)->x.2.jA.length<=1048576->x.2.j7.length<=1048576->Fd prog N [.agg (A7 p),.agg (cCPg c),.agg (Vx x)] (fun _=>none) fun x _=>x=.ret (.bool true))
  {s:ChangeSpec} (hv:s.vars=[]) (gY:∀d e k,s.fn H [d,e,k]={ results:=[.lit (.bool true)],args:=[d,e,k] }) {args:Array Value}{ds gs:List (DataW H)}{before:List MemPlace}
  (d8:∀(j:Nat) t v,f.params[j]? = some t->args[j]? = some v->Value.okWide prog W .any base t v)
  (hW:DataW.Whole enc prog f.params.toList s.vars false W args.toList ds gs before) (hk:Rows.uptoSmall H (ds++gs)=true) (hP:Rk W) :
  Calls prog N args W fun e W'=> ∃v,e=.returned v/\s.post enc prog f false true false false W args v W':=by
 have ij:=hW;obtain⟨p,q,hA,hV,rfl,iO,fo⟩:=hW;rw[hv]at hV;obtain⟨rfl,rfl⟩:=trodVars_none hV;rw[hf]at hA d8;obtain⟨v0,vs0,d0,ds0,p0,q0,eY,rfl,rfl,h0,r0⟩:=trodAll_cons hA;obtain⟨v1,vs1,d1,ds1,p1,q1,f9,rfl,rfl,h1,r1⟩:=trodAll_cons r0;obtain⟨v2,vs2,d2,ds2,p2,q2,f8,rfl,rfl,h2,r2⟩:=trodAll_cons r1;obtain⟨rfl,rfl,rfl⟩:=trodAll_nil r2;obtain rfl:args=#[v0,v1,v2]:=by cases args;simp_all
 have hb:Rows.uptoBulk d0+(Rows.uptoBulk d1+(Rows.uptoBulk d2+0))<=1048576:=cY hk;obtain⟨pr,hr,hw⟩:=RY (d8 0 27 v0 rfl rfl) h0;obtain⟨c,hc,iQ⟩:=RT (d8 1 30 v1 rfl rfl) h1;obtain⟨x,hx,iz⟩:=Ql (d8 2 36 v2 rfl rfl) h2;have iJ:=Eh jF.wt (fun x=>by unfold jF.wt;omega) x.1;have gV:goWt x=wtL jF.wt x.1+(x.2.jA.length+x.2.j7.length):=rfl;refine(SP (hN pr c x j0 j0 j0 (fun y hy=>?_) j0 j0) W hP (vs:=[v0,v1,v2]) ⟨v0,[v1,v2],rfl,hr,v1,[v2],rfl,hc,v2,[],rfl,hx,rfl⟩).mono fun e W' ⟨he,fQ,gL,fP⟩=>?_
 ·have:=wtL_mem jF.wt hy;unfold jF.wt at this gV;omega
 refine⟨_,he,Wr hv gK (fun t ht=>?_) ij (gY d0 d1 d2) fQ gL fP⟩;rw[hf]at ht;have ht:t=27\/t=30\/t=36:=by simpa using ht
 rcases ht with rfl|rfl|rfl
 ·exact⟨Qk,Q9⟩
 ·exact⟨Qj,Mn⟩
 ·exact⟨Qi,Mm⟩
end
end Go.DL
namespace Go.DL
open Go.Proofs.Tryz
open Go Go.Proofs
set_option maxHeartbeats 8000000
abbrev Aw(p:aw)(c:jD)(R:Nat->RW)(s:GoS):eO:=A7 p++cCPg c++[dI 0,dI 0,dI 0,dI 0,.aj,dI 0,dI 0,.aj,.aj,(R 3).d s.j3.length,(R 2).d s.jW.length]++[dI s.pos,(R 0).d s.jA.length,(R 1).d s.j7.length]
structure jR(ir:Nat)(p:aw)(c:jD)(R:Nat->RW)(s:GoS)(O:Sig):Prop where
 obj:O ir=some (.cells (Aw p c R s))
 rows:Rows O R rSz (rCt R s)
 ni:∀a, ¬(R a).is ir
 nf:∀a es,R a=.full es->es=[]
section
variable {ir:Nat}{p:aw}{c:jD}{R:Nat->RW}{s:GoS}{O:Sig}
theorem jR.row(h:jR ir p c R s O)(a:Nat)(hne:rCt R s a≠[]): ∃i q cs,R a=.row i q cs:=by
 have hk:=h.rows.ok a;cases hR:R a with
 |nil=>rw[hR]at hk;exact absurd hk hne
 |full es=>rw[hR]at hk;obtain⟨h1,_⟩:=hk;rw[h.nf a es hR]at h1;exact absurd h1 hne
 |row i q cs=>exact⟨i,q,cs,rfl⟩
theorem jR.put(h:jR ir p c R s O){a:Nat}{i q:Nat}{cs:eO}{es':eR}{s':GoS}{S1:Sig}{ds:eO}(hr:jN S1 (rSz a) (.row i q cs) es')(hk:RWK O (R a) S1 (.row i q cs))(fB:∀b,rCt (jK R a (.row i q cs)) s' b=jK (rCt R s) a es' b)(hd:ds=Aw p c (jK R a (.row i q cs)) s'):
  jR ir p c (jK R a (.row i q cs)) s' (S1.set ir (.cells ds))/\jV ir R O (jK R a (.row i q cs)) (S1.set ir (.cells ds)):=by
 obtain⟨k1,k2⟩:=hk ir _ h.obj (h.ni a);have hR:=(h.rows.upd hr hk).retell fB
 have d5:∀b, ¬(jK R a (.row i q cs) b).is ir:=fun b=>by
  by_cases e:b=a
  ·subst e;rw[Ab];exact k2
  ·rw[A1 _ _ e];exact h.ni b
 refine⟨⟨by rw[w6,hd],hR.keep fun j o hj ⟨b,hb⟩=>by rw[w7 _ _ fun e=>d5 b (by rw[<-e];exact hb)];exact hj,d5,fun b es hb=>?_⟩,fun j o hj b8 hn=>⟨by rw[w7 _ _ b8];exact(hk j o hj (hn a)).1,fun b=>?_⟩⟩
 ·by_cases e:b=a
  ·subst e;rw[Ab]at hb;cases hb
  ·rw[A1 _ _ e]at hb;exact h.nf b es hb
 ·by_cases e:b=a
  ·subst e;rw[Ab];exact(hk j o hj (hn b)).2
  ·rw[A1 _ _ e];exact hn b
theorem jR.re(h:jR ir p c R s O){a:Nat}{i q:Nat}{cs:eO}{es':eR}{s':GoS}{ds:eO}(hr:jN O (rSz a) (.row i q cs) es')(hi:∀j,(RW.row i q cs).is j->(R a).is j)(fB:∀b,rCt (jK R a (.row i q cs)) s' b=jK (rCt R s) a es' b)(hd:ds=Aw p c (jK R a (.row i q cs)) s'):
  jR ir p c (jK R a (.row i q cs)) s' (O.set ir (.cells ds))/\jV ir R O (jK R a (.row i q cs)) (O.set ir (.cells ds)):=by
 have hR:=(h.rows.re hr hi).retell fB
 have fZ:∀b j,(jK R a (.row i q cs) b).is j->(R b).is j:=fun b j hb=>by
  by_cases e:b=a
  ·subst e;rw[Ab]at hb;exact hi j hb
  ·rwa [A1 _ _ e]at hb
 refine⟨⟨by rw[w6,hd],hR.keep fun j o hj ⟨b,hb⟩=>by rw[w7 _ _ fun e=>h.ni b (by rw[<-e];exact fZ b j hb)];exact hj,fun b hb=>h.ni b (fZ b _ hb),fun b es hb=>?_⟩,fun j o hj b8 hn=>⟨j2 b8 hj,fun b hb=>hn b (fZ b j hb)⟩⟩
 by_cases e:b=a
 ·subst e;rw[Ab]at hb;cases hb
 ·rw[A1 _ _ e]at hb;exact h.nf b es hb
theorem C7(v:jH)(hR:jR ir p c R s O)(hn:s.jA.length<=1000000):ar prog 187 [.ptr ir 0,.agg (j5 v)] O fun x U'=>x=.ret (.tup []) /\ ∃R',jR ir p c R' { s with jA:=s.jA++[v] } U'/\jV ir R O R' U':=by
 have q1:=hR.obj;have q0:jN O 2 (R 0) (s.jA.map j5):=hR.rows.ok 0;have u1:(O.out (R 0).is) ir=some (.cells (Aw p c R s)):=Dk q1 (hR.ni 0);refine en func187 ntmps187 ?_;refine gf q1 ?_;refine CH (id:=1) (List.range 12) [8] (O.out (R 0).is) (CC _ _) ?_;refine gf u1 ?_ o187;refine Dl (es:=s.jA.map j5) (fun i q cs S2 gk gv=>?_) (fun j o h=>C2 h) (hm:=q0);obtain⟨v1,v2⟩:=gv _ _ q1 (hR.ni 0);refine gf v1 ?_ o187;rw[show s.jA.map j5++[j5 v]=(s.jA++[v]).map j5 by simp]at gk;obtain⟨p1,p2⟩:=hR.put (a:=0) (s':={ s with jA:=s.jA++[v] }) gk gv (Qm R _ s _) rfl;refine F3 (U':=_) ⟨rfl,_,p1,p2⟩ (hZ:=?_);simp[Aw,A7];exact Sub.refl _
theorem CI(r:List jH)(v:jH)(hR:jR ir p c R s O)(hs:s.jA=r++[v])(hn:s.jA.length<=1000000):ar prog 190 [.ptr ir 0] O fun x U'=>x=.ret (.agg (j5 v)) /\ ∃R',jR ir p c R' { s with jA:=r } U'/\jV ir R O R' U':=by
 have q1:=hR.obj;obtain⟨i,q,cs,h0⟩:=hR.row 0 (by rw[rCt,hs];simp);have q0:jN O 2 (R 0) (s.jA.map j5):=hR.rows.ok 0;have d5:=hR.ni 0;rw[h0,hs]at q0;rw[h0]at d5;have hl:s.jA.length=r.length+1:=by rw[hs];simp
 unfold Aw at q1;rw[h0,hl]at q1;simp only[Cz]at q1;obtain⟨z1,z2,z3,z4⟩:=q0;have hv:=Hb r v [] cs;have iC:((List.map j5 (r++[v])).flatten++cs).length=(r.length+1)*2+cs.length:=by rw[Dr];simp
 refine en func190 ntmps190 ?_;refine gz ?_ [] [2];refine je (fun i2 fw=>?_);have n1:ir≠i2:=fun e=>by rw[<-e,hR.obj]at fw;cases fw
 have n2:i≠i2:=fun e=>by rw[<-e,z1]at fw;cases fw
 have q2:(O.set i2 (.cells [.int .i64 0,.int .i64 0])) ir=_:=(w7 _ _ n1).trans q1;have q3:(O.set i2 (.cells [.int .i64 0,.int .i64 0])) i=_:=(w7 _ _ n2).trans z1;have hr:jN O 2 (.row i q (j5 v++cs)) (r.map j5):=⟨by rw[z1];simp,by rw[<-aO];simpa using z2,by simp only[aN,aC,aT]at z3⊢; omega,Az⟩;generalize (List.map j5 (r++[v])).flatten++cs=L at*;have gS:r.length*2+2<=L.length:=by omega
 refine gf (gi q1 (gi z1 (gi hv gS))) ?_ [] [2];simp only[aN,aC,aT]at z3;refine cutH (i:=i) (off:=0) (len:=r.length+1) (cap:=q) (hi:=r.length) ?_ j0;refine gf q1 ?_ [] [2];obtain⟨p1,p2⟩:=hR.re (a:=0) (s':={ s with jA:=r }) hr (by rw[h0];exact fun j h=>h) (Qm R _ s _) rfl;refine jp (U':=_) ⟨rfl,_,p1,p2⟩ (hZ:=fun j o hj=>?_)
 by_cases e:j=ir
 ·subst e;rw[w6]at hj;rw[w7 _ _ n1,w6,<-hj];rfl
 ·rw[w7 _ _ e]at hj;have e2:j≠i2:=fun h=>by rw[h,fw]at hj;cases hj
  rw[w7 _ _ e2,w7 _ _ e,w7 _ _ e2];exact hj
end
theorem Pz(n:Int)(O:Sig):ar prog 19 [dI n] O (rS (.agg (j5 (jZ n))) O):=by
 refine en func19 ntmps19 ?_;refine gz ?_ [] [2];refine je (fun i hi=>?_);refine gz ?_ [] [2];exact jp (U':=O) ⟨rfl,rfl⟩
@[reducible,instance] def a19:=fun n O=>ah0 (@Pz n O)
theorem X6(O:Sig):ar prog 20 [] O (rS (.agg (j5 DS)) O):=by
 refine en func20 ntmps20 ?_;refine gz ?_ [] [0];refine je (fun i hi=>?_);refine gz ?_ [] [0];exact jp (U':=O) ⟨rfl,rfl⟩
@[reducible,instance] def a20:=fun O=>ah0 (@X6 O)
theorem JQ(l:List jH)(o:Own)(O:Sig)(hl:l.length<=1000000):ar prog 27 [.slice (l.map j5) o] O fun x U'=> ∃r,x=.ret (r.d l.length)/\FrV O r l U':=by
 refine en func27 ntmps27 ?_;refine gz ?_;refine xappB (r:=.nil) (es:=[]) (new:=l.map j5) (fun r' S1 h1 h2 h3=>?_) rfl (GL rfl Az) (fun c hc=>by obtain⟨v,_,rfl⟩:=aZ.1 hc;rfl) Az;rw[show([]:eR).length+(l.map j5).length=l.length by simp];refine gz ?_;refine fin1 (U':=S1) ⟨r',rfl,h1,fun j o hj _=>h2 j o hj id,fun es h=>?_⟩;rcases h3 with h3|⟨i,c,cs,h3⟩
 ·subst h;have:=h1.1;rw[h3]at this;exact this.symm
 ·rw[h3]at h;cases h
theorem QN(l:List jH)(o:Own)(O:Sig)(hl:l.length<=1000000:=by exact sd):ar prog 27 [.slice (l.map j5) o] O (rS (sl (l.map j5)) O):=by
 refine en func27 ntmps27 ?_;refine gz ?_;refine xappB (r:=.nil) (es:=[]) (new:=l.map j5) (fun r' S1 h1 h2 h3=>?_) rfl (GL rfl Az) (fun c hc=>by obtain⟨v,_,rfl⟩:=aZ.1 hc;rfl) Az;refine frzT 4 h1 (fun S2 h4=>?_)
 have hS:Sub O S2:=fun j o hj=>by
  obtain⟨k1,k2⟩:=h2 j o hj id;exact h4 j o k1 k2
 refine gz ?_;exact fin1 (U':=O) ⟨rfl,rfl⟩
theorem X3(n:Int)(O:Sig):ar prog 28 [dI n] O (rS (dI (CY n)) O):=by
 refine en func28 ntmps28 ?_;refine gz ?_;exact fin1 (U':=O) ⟨bn (fun z=>DE.ret (dI z)) (Vt n),rfl⟩
@[reducible,instance] def a28:=fun n O=>ah0 (@X3 n O)
theorem WQ(v:jH)(N:Int)(O:Sig):ar prog 66 [.agg (j5 v),dI N] O (rS (.bool (okV N v)) O):=by
 refine en func66 ntmps66 ?_
 repeat' first|refine gz ?_|apply gy<;>intro hh
 any_goals (first|(refine fin1 (U':=O) ?_;exact⟨by first|rfl|(simp[okV,hh];done)|(simp_all [okV,hh];done)|(rw[Ae,aR];simp_all [okV,hh]<;>omega),rfl⟩)|fail)
@[reducible,instance] def a66:=fun v N O=>ah0 (@WQ v N O)
theorem M5(l:List jH)(N:Int)(o:Own)(O:Sig)(hl:l.length<=1073741824:=by exact sd):ar prog 26 [.slice (l.map j5) o,dI N] O (rS (.bool (jg N l)) O):=by
 refine en func26 ntmps26 ?_;refine gz ?_;refine Bz [1,7,8] (fun (k:Nat)=>k<=l.length/\jg N l=jg N (l.drop k)) (fun k=>[(9,dI k)]) (fun _=>O) (fun k=>l.length-k) (0) j1 (fun k hI=>?_);obtain⟨hk,hR⟩:=hI
 by_cases h:k<l.length
 ·rw[A6 h,show jg N (l[k]::l.drop (k+1))=(okV N l[k]&&jg N (l.drop (k+1))) from rfl]at hR;cases hv:okV N l[k]with
  |false=>
   rw[hv,bD]at hR;refine gf hv ?_;exact fe1 hR
  |true=>
   rw[hv,bq]at hR;refine gf hv ?_;exact⟨k+1,⟨j0,hR⟩,td1,wkR⟩
 ·rw[A9 h]at hR;refine gz ?_;exact fin1 (U':=O) ⟨by rw[hR],rfl⟩
@[reducible,instance] def a26:=fun l N o O=>ah1 (@M5 l N o O)
theorem HD(a b:List jH)(o o':Own)(O:Sig)(h1:a.length<=1073741824:=by exact sd)(h2:b.length<=1073741824:=by exact sd):ar prog 53 [.slice (a.map j5) o,.slice (b.map j5) o'] O (rS (.bool (decide (a=b))) O):=by
 refine en func53 ntmps53 ?_
 by_cases hc:a.length=b.length
 ·refine gf hc ?_ o53;refine Bz [0,1] (fun (k:Nat)=>k<=a.length /\ ∀j (h1:j<a.length) (h2:j<b.length),j<k->a[j]=b[j]) (fun k=>[(5,dI k)]) (fun _=>O) (fun k=>a.length-k) (0) (by exact⟨j0,fun j _ _ h=>by omega⟩) (fun k hI=>?_);obtain⟨hk,hE⟩:=hI
  by_cases d7:k<a.length
  ·have fI:k<b.length:=by omega
   refine gf hc ?_ o53;refine Ol (r:=decide (a[k]=b[k])) (xs:=j5 a[k]) (ys:=j5 b[k]) jB Lj rfl rfl rfl rfl KZ (QX _ _) ?_
   by_cases hx:a[k]=b[k]
   ·refine gf hx ?_ o53;exact⟨k+1,⟨j0,fun j h1 h2 h3=>by by_cases e:j=k;(subst e;exact hx);exact hE j h1 h2 j0⟩,td1,wkR⟩
   ·have hne:¬a=b:=fun e=>hx (by simp[e])
    refine gf hx ?_ o53;exact fe1 hne
  ·have fA:a=b:=List.ext_getElem hc fun j h1 h2=>hE j h1 h2 j0;refine gz ?_ o53;exact fin1 (U':=O) ⟨by rw[be fA],rfl⟩
 ·have hne:¬a=b:=fun e=>hc (by rw[e])
  refine gz ?_ o53;exact fe1 hne
@[reducible,instance] def a53:=fun a b o o' O=>ah2 (@HD a b o o' O)
abbrev I0(p:aw)(c:jD)(R:Nat->RW)(s:GoS)(av:D)(b:Bool)(h:GoH):eO:=
 A7 p++cCPg c++([dI h.kind,dI h.val.kind,dI h.val.n,dI h.gen,av,dI h.fin]++(if b then [dI s.pos,(R 0).d s.jA.length,(R 1).d s.j7.length] else [dI 0,.aj,.aj])++[(R 3).d s.j3.length,(R 2).d s.jW.length])++[dI s.pos,(R 0).d s.jA.length,(R 1).d s.j7.length]
structure kq(ir:Nat)(p:aw)(c:jD)(R:Nat->RW)(s:GoS)(av:D)(b:Bool)(h:GoH)(O:Sig):Prop where
 obj:O ir=some (.cells (I0 p c R s av b h))
 rows:Rows O R rSz (rCt R s)
 ni:∀a, ¬(R a).is ir
 nf:∀a es,R a=.full es->es=[]
 args:WkD av (sl (h.args.map j5))
 j3:h.j3=s.j3
 jW:h.jW=s.jW
 st:if h.kind=2\/h.kind=3 then h.pos=s.pos/\h.jA=s.jA/\h.j7=s.j7 else h.pos=0/\h.jA=[]/\h.j7=[]
section
variable {ir:Nat}{p:aw}{c:jD}{R:Nat->RW}{s:GoS}{O:Sig}
theorem jR.halt(h:jR ir p c R s O){av:D}{b:Bool}{k:GoH}{ds:eO}(hd:ds=I0 p c R s av b k)(ha:WkD av (sl (k.args.map j5)))(ho:k.j3=s.j3)(he:k.jW=s.jW)(hs:if k.kind=2\/k.kind=3 then k.pos=s.pos/\k.jA=s.jA/\k.j7=s.j7 else k.pos=0/\k.jA=[]/\k.j7=[]):
  kq ir p c R s av b k (O.set ir (.cells ds))/\jV ir R O R (O.set ir (.cells ds)):=
 ⟨⟨by rw[w6,hd],h.rows.keep fun j o hj ⟨b,hb⟩=>by rw[w7 _ _ fun e=>h.ni b (by rw[<-e];exact hb)];exact hj,h.ni,h.nf,ha,ho,he,hs⟩,fun j o hj b8 hn=>⟨j2 b8 hj,hn⟩⟩
theorem jR.at(h:jR ir p c R s O)(q:Int){ds:eO}(hd:ds=Aw p c R { s with pos:=q }):jR ir p c R { s with pos:=q } (O.set ir (.cells ds))/\jV ir R O R (O.set ir (.cells ds)):=
 ⟨⟨by rw[w6,hd],(h.rows.retell (RU R s q)).keep fun j o hj ⟨b,hb⟩=>by rw[w7 _ _ fun e=>h.ni b (by rw[<-e];exact hb)];exact hj,h.ni,h.nf⟩,fun j o hj b8 hn=>⟨j2 b8 hj,hn⟩⟩
theorem F6(k k0:Int)(tl:eO)(hi:O ir=some (.cells (A7 p++cCPg c++dI k0::tl))):ar prog 189 [.ptr ir 0,dI k] O fun x U'=>x=.ret (.bool true)/\U'=O.set ir (.cells (A7 p++cCPg c++dI k::tl)):=by
 refine en func189 ntmps189 ?_;refine gf hi ?_;exact fin1 (U':=_) ⟨rfl,rfl⟩
theorem HI(e:Int)(jA:List jH)(hR:jR ir p c R s O):ar prog 188 [.ptr ir 0,dI e] O fun x U'=>x=.ret (.bool true)/\kq ir p c R s .aj false (Dv s e jA) U'/\jV ir R O R U':=by
 have q1:=hR.obj;obtain⟨p1,p2⟩:=hR.halt (av:=.aj) (b:=false) (k:=Dv s e jA) rfl (Ak _ (.inl rfl)) rfl rfl (by rw[aE (by unfold Dv;simp)];exact⟨rfl,rfl,rfl⟩);refine en func188 ntmps188 ?_;refine gf q1 ?_;refine A3 (F6 (p:=p) (c:=c) 4 0 ([dI 0,dI 0,dI 0,.aj,dI e,dI 0,.aj,.aj,(R 3).d s.j3.length,(R 2).d s.jW.length,dI s.pos,(R 0).d s.jA.length,(R 1).d s.j7.length]) (w6 ..)) (fun d S1 hr=>?_);obtain⟨hd,rfl⟩:=hr;cases hd;rw[w8];refine gz ?_;exact fin1 (U':=_) ⟨rfl,p1,p2⟩
end
theorem TO(v:jH)(O:Sig):ar prog 247 [.agg (j5 v)] O (rS (.bool (decide (Ah v=0))) O):=by
 by_cases h:v.kind=1
 ·have e:decide (Ah v=0)=decide (v.n=0):=by unfold Ah;rw[aG h]
  rw[e];refine en func247 ntmps247 ?_;refine gf h ?_;exact fe1 trivial
 ·have e:decide (Ah v=0)=true:=by unfold Ah;rw[aE h];rfl
  rw[e];refine en func247 ntmps247 ?_;refine gf h ?_;exact fe1 trivial
@[reducible,instance] def a247:=fun v O=>ah0 (@TO v O)
theorem TZ(b:Bool)(O:Sig):ar prog 218 [.bool b] O (rS (dI (Dc b)) O):=by
 cases b with
 |true=>
  refine en func218 ntmps218 ?_;refine gz ?_;exact fe1 trivial
 |false=>
  refine en func218 ntmps218 ?_;refine gz ?_;exact fe1 trivial
@[reducible,instance] def a218:=fun b O=>ah0 (@TZ b O)
theorem K0(v:jH)(O:Sig):ar prog 142 [.agg (j5 v)] O (rS (dI (Ah v)) O):=by
 by_cases h:v.kind=1
 ·have e:Ah v=v.n:=by unfold Ah;rw[aG h]
  rw[e];refine en func142 ntmps142 ?_;refine gf h ?_;exact fe1 trivial
 ·have e:Ah v=0:=by unfold Ah;rw[aE h]
  rw[e];refine en func142 ntmps142 ?_;refine gf h ?_;exact fe1 trivial
@[reducible,instance] def a142:=fun v O=>ah0 (@K0 v O)
theorem Uv(w:World)(c:Int)(O:Sig)(hl:w.ae.length<=1073741824:=by exact sd):ar prog 127 [.agg (Dg w),dI c] O (rS (.bool (decide (3<=c)&&decide (c<3+w.ae.length))) O):=by
 refine en func127 ntmps127 ?_
 repeat' first|refine gz ?_|apply gy<;>intro hh
 any_goals (first|exact fe1 hh|fail)
@[reducible,instance] def a127:=fun w c O=>ah1 (@Uv w c O)
theorem eqTh_of{a b:List jF}(h:∀j (h1:j<a.length) (h2:j<b.length),a[j].jM=b[j].jM/\a[j].ac=b[j].ac)(hl:a.length=b.length):a=b:=
 List.ext_getElem hl fun j h1 h2=>by
  obtain⟨e1,e2⟩:=h j h1 h2;cases hx:a[j];cases hy:b[j];rw[hx,hy]at e1 e2;simp only at e1 e2;rw[e1,e2]
theorem WU(a b:List jF)(o o':Own)(O:Sig)(h1:a.length<=1073741824)(h2:b.length<=1073741824)(h3:∀x∈a,x.ac.length<=1073741824)(h4:∀x∈b,x.ac.length<=1073741824):ar prog 54 [.slice (a.map cTh) o,.slice (b.map cTh) o'] O (rS (.bool (decide (a=b))) O):=by
 refine en func54 ntmps54 ?_
 by_cases hc:a.length=b.length
 ·refine gf hc ?_ o54;refine Bz [0,1] (fun (k:Nat)=>k<=a.length /\ ∀j (h1:j<a.length) (h2:j<b.length),j<k->a[j].jM=b[j].jM/\a[j].ac=b[j].ac) (fun k=>[(5,dI k)]) (fun _=>O) (fun k=>a.length-k) (0) (by exact⟨j0,fun j _ _ h=>by omega⟩) (fun k hI=>?_);obtain⟨hk,hE⟩:=hI
  by_cases d7:k<a.length
  ·have fI:k<b.length:=by omega
   have g3:=h3 a[k] (aK d7);have g4:=h4 b[k] (aK fI)
   by_cases hx:a[k].jM=b[k].jM
   ·by_cases hy:a[k].ac=b[k].ac
    ·refine gf (gi hc (gi hx hy)) ?_ o54;exact⟨k+1,⟨j0,fun j h1 h2 h3=>by by_cases e:j=k;(subst e;exact⟨hx,hy⟩);exact hE j h1 h2 j0⟩,td1,wkR⟩
    ·have hne:¬a=b:=fun e=>hy (by simp[e])
     refine gf (gi hc (gi hx hy)) ?_ o54;exact fe1 hne
   ·have hne:¬a=b:=fun e=>hx (by simp[e])
    refine gf (gi hc hx) ?_ o54;exact fe1 hne
  ·have fA:a=b:=eqTh_of (fun j h1 h2=>hE j h1 h2 j0) hc;refine gz ?_ o54;exact fin1 (U':=O) ⟨by rw[be fA],rfl⟩
 ·have hne:¬a=b:=fun e=>hc (by rw[e])
  refine gz ?_ o54;exact fe1 hne
theorem eqEv_of{a b:List MEv}(h:∀j (h1:j<a.length) (h2:j<b.length),a[j].deed=b[j].deed/\a[j].n=b[j].n/\a[j].vals=b[j].vals)(hl:a.length=b.length):a=b:=
 List.ext_getElem hl fun j h1 h2=>by
  obtain⟨e1,e2,e3⟩:=h j h1 h2;cases hx:a[j];cases hy:b[j];rw[hx,hy]at e1 e2 e3;simp only at e1 e2 e3;rw[e1,e2,e3]
@[simp] theorem cEv_tk(x:MEv):List.take 3 (cEv x)=cEv x:=rfl
theorem WT(a b:List MEv)(o o':Own)(O:Sig)(h1:a.length<=1073741824)(h2:b.length<=1073741824)(h3:∀x∈a,x.vals.length<=1073741824)(h4:∀x∈b,x.vals.length<=1073741824):ar prog 55 [.slice (a.map cEv) o,.slice (b.map cEv) o'] O (rS (.bool (decide (a=b))) O):=by
 refine en func55 ntmps55 ?_
 by_cases hc:a.length=b.length
 ·refine gf hc ?_ o55;refine Bz [0,1] (fun (k:Nat)=>k<=a.length /\ ∀j (h1:j<a.length) (h2:j<b.length),j<k->a[j].deed=b[j].deed/\a[j].n=b[j].n/\a[j].vals=b[j].vals) (fun k=>[(5,dI k)]) (fun _=>O) (fun k=>a.length-k) (0) (by exact⟨j0,fun j _ _ h=>by omega⟩) (fun k hI=>?_);obtain⟨hk,hE⟩:=hI
  by_cases d7:k<a.length
  ·have fI:k<b.length:=by omega
   have g3:=h3 a[k] (aK d7);have g4:=h4 b[k] (aK fI)
   by_cases hx:a[k].deed=b[k].deed
   ·by_cases fh:a[k].n=b[k].n
    ·by_cases hy:a[k].vals=b[k].vals
     ·refine gf (gi hc (gi hx (gi fh hy))) ?_ o55;exact⟨k+1,⟨j0,fun j h1 h2 h3=>by by_cases e:j=k;(subst e;exact⟨hx,fh,hy⟩);exact hE j h1 h2 j0⟩,td1,wkR⟩
     ·have hne:¬a=b:=fun e=>hy (by simp[e])
      refine gf (gi hc (gi hx (gi fh hy))) ?_ o55;exact fe1 hne
    ·have hne:¬a=b:=fun e=>fh (by simp[e])
     refine gf (gi hc (gi hx fh)) ?_ o55;exact fe1 hne
   ·have hne:¬a=b:=fun e=>hx (by simp[e])
    refine gf (gi hc hx) ?_ o55;exact fe1 hne
  ·have fA:a=b:=eqEv_of (fun j h1 h2=>hE j h1 h2 j0) hc;refine gz ?_ o55;exact fin1 (U':=O) ⟨by rw[be fA],rfl⟩
 ·have hne:¬a=b:=fun e=>hc (by rw[e])
  refine gz ?_ o55;exact fe1 hne
theorem Px(p:aw)(l:List jF)(o:Own)(O:Sig)(hp:p.wt<=1073741824)(hk:okP p=true)(hl:l.length<=1073741824)(hs:∀x∈l,x.ac.length<=1073741824):ar prog 57 [.agg (Dg (AG p)),.slice (l.map cTh) o] O (rS (.bool (AI (A0 p) l)) O):=by
 have fg:=BT hk;have hW:=J1 hp fg;have gN:(ownersF p.aa 0).length<=40:=hW.few;obtain⟨N,iV,_,hg,_⟩:=Bw fg;have eV:(AG p).ae.length=p.aa.length:=aN _;have iG:p.aa.length<=1073741824:=by obtain⟨p1,p2,p3,p4,p5,p6,p7⟩:=p.wt_le;omega
 have fj:∀c:Int,3<=c->c<3+p.aa.length->∀O:Sig,ar prog 128 [.agg (Dg (AG p)),dI c] O (rS (sl (cI (hasP p c))) O):=fun c h1 h2 O=>by
  rw[L7 fg h1 h2];exact Ny (AG p) c O hg (by rw[eV];omega) (fun x hx=>by have:=Ep hx;rw[eV];omega) (by have:(AG p).jQ=ownersF p.aa 0:=rfl;rw[this];omega)
 obtain⟨tst,fi⟩:∃tst:jF->Bool,tst=fun o=>(jT p o.jM&&okP p)&&(decide (o.ac.length=(hasP p o.jM).length)&&jg l.length o.ac):=⟨_,rfl⟩;have fC:AI (A0 p) l=(decide (l.length<=40)&&l.all tst):=by rw[fi];rfl
 refine en func57 ntmps57 ?_
 by_cases gG:l.length<=40
 rotate_left
 ·rw[fC,bk gG]
  repeat' first|refine gz ?_ o57|apply gy<;>intro hh
  any_goals (first|exact fe1 trivial|fail)
 rw[fC,be gG,bq];refine gz ?_ o57;refine Bz [1,2,10,11] (fun (k:Nat)=>k<=l.length/\l.all tst=(l.drop k).all tst) (fun k=>[(12,dI k)]) (fun _=>O) (fun k=>l.length-k) (0) j1 (fun k hI=>?_);obtain⟨iK,hR⟩:=hI
 by_cases d7:k<l.length
 ·rw [A6 d7,cM,show tst l[k]=((jT p (l[k]).jM && okP p) && (decide ((l[k]).ac.length=(hasP p (l[k]).jM).length) && jg l.length (l[k]).ac)) by rw [fi]] at hR;have g3:=hs l[k] (aK d7)
  by_cases eZ:jT p (l[k]).jM=true
  ·have d6:3<=(l[k]).jM/\(l[k]).jM<3+p.aa.length:=by
    have:=eZ;unfold jT at this;simpa using this
   have eU:=fj (l[k]).jM d6.1 d6.2;have iF:=DI hk (l[k]).jM;rw[eZ,hk]at hR
   by_cases hlen:(l[k]).ac.length=(hasP p (l[k]).jM).length
   ·rw[be hlen]at hR;cases hv:jg l.length (l[k]).ac with
    |false=>
     rw[hv]at hR;simp only[Bool.and_false,bD,Bool.and_true]at hR
     repeat' first|refine gf (gi eV (gi d6 (gi hlen hv))) ?_|refine moRG (eU _) ?_|refine moPG (eU _) ?_|refine gf (gi eV (gi d6 (gi hlen hv))) ?_ o57|apply gy<;>intro hh
     exact fe1 hR
    |true=>
     rw[hv]at hR;simp only[Bool.and_true,bq]at hR
     repeat' first|refine gf (gi eV (gi d6 (gi hlen hv))) ?_|refine moRG (eU _) ?_|refine moPG (eU _) ?_|refine gf (gi eV (gi d6 (gi hlen hv))) ?_ o57|apply gy<;>intro hh
     exact⟨k+1,⟨j0,hR⟩,td1,wkR⟩
   ·rw[bk hlen]at hR;simp only[Bool.and_false,bD]at hR
    repeat' first|refine gf (gi eV (gi d6 hlen)) ?_|refine moRG (eU _) ?_|refine moPG (eU _) ?_|refine gf (gi eV (gi d6 hlen)) ?_ o57|apply gy<;>intro hh
    exact fe1 hR
  ·have d6:¬(3<=(l[k]).jM/\(l[k]).jM<3+p.aa.length):=fun h=>eZ (by unfold jT;simpa using h)
   rw[show jT p (l[k]).jM=false by simpa using eZ]at hR;simp only[bD]at hR;have fS:(decide (3<=(l[k]).jM)&&decide ((l[k]).jM<3+(p.aa.length:Int)))=false:=by simpa using d6
   refine gf (gi eV fS) ?_ o57;exact fe1 hR
 ·rw[A9 d7]at hR;refine gz ?_ o57;exact fin1 (U':=O) ⟨by rw[hR],rfl⟩
@[reducible,instance] def a57:=fun p l o O=>ah4 (@Px p l o O)
theorem Xd(p:aw)(l:List jF)(o:Own)(O:Sig)(hp:p.wt<=1073741824)(hl:l.length<=1073741824)(hs:∀x∈l,x.ac.length<=1073741824):ar prog 17 [.agg (A7 p),.slice (l.map cTh) o] O (rS (.bool (okP p&&AI (A0 p) l)) O):=by
 obtain⟨p1,p2,p3,p4,p5,p6,p7⟩:=p.wt_le;have fq:(Fo p).isSome=okP p:=by unfold okP;rw[Pi p]
 have gh:∀c∈p.aa,c.ae.length<=1073741824/\c.ac.length<=1073741824:=fun c hc=>by
  obtain⟨k,hk,rfl⟩:=bT hc;have:=p5 k hk;unfold ax.wt at this;omega
 have iB:∀c∈p.aa,c.ae.length<=1073741824:=fun c hc=>(gh c hc).1;have iA:∀c∈p.aa,c.ac.length<=1073741824:=fun c hc=>(gh c hc).2;refine en func17 ntmps17 ?_;cases hk:okP p with
 |false=>
  rw[hk]at fq;refine gf fq ?_;exact fe1 trivial
 |true=>
  rw[hk]at fq;have hW:=J1 hp (BT hk);have gN:(ownersF p.aa 0).length<=40:=hW.few;have gF:=fun O:Sig=>Px p l o O hp hk hl hs
  repeat' first|refine gf fq ?_|refine DZ (gF _) ?_|refine callPG (gF _) ?_|refine gf fq ?_|apply gy<;>intro hh
  exact fe1 trivial
theorem Ut(op k:Int)(v w:jH)(O:Sig)(iH:9<=op/\op<=13)(hk:k=op+3)(hv : -1000000000<=Ah v/\Ah v<=1000000000)(hw : -1000000000<=Ah w/\Ah w<=1000000000):ar prog 143 [dI k,.agg (j5 v),.agg (j5 w)] O (rS (.agg (j5 (Ec op v w))) O):=by
 have iI:=Se hv hw;have h9:op=9\/op=10\/op=11\/op=12\/op=13:=by omega
 subst hk;have gI:=fun O:Sig=>K0 v O;have gH:=fun O:Sig=>K0 w O;have iU:∀op,Ec op v w=Ec op v w:=fun _=>rfl;refine en func143 ntmps143 ?_;refine gz ?_ o143 [6];refine je (fun i hi=>?_);refine gz ?_ [] [6];refine CH (id:=1) [0,2,1,3,4] [1,3] _ (Sub.refl _) ?_;rcases h9 with rfl|rfl|rfl|rfl|rfl
 ·refine gz ?_ o143 [6];refine jp (U':=O) (d:=.agg (j5 (jZ (CY (Ah v+Ah w))))) ⟨by rw[show Ec 9 v w=jZ (CY (Ah v+Ah w)) from rfl],rfl⟩
 ·refine gz ?_ o143 [6];refine jp (U':=O) (d:=.agg (j5 (jZ (CY (Ah v-Ah w))))) ⟨by rw[show Ec 10 v w=jZ (CY (Ah v-Ah w)) from rfl],rfl⟩
 ·have gP:IntKind.i64.wrap (Ah v*Ah w)=Ah v*Ah w:=AA j0 j0;refine gf gP ?_ o143 [6];refine jp (U':=O) (d:=.agg (j5 (jZ (CY (Ah v*Ah w))))) ⟨by rw[show Ec 11 v w=jZ (CY (Ah v*Ah w)) from rfl],rfl⟩
 ·refine gz ?_ o143 [6];refine jp (U':=O) (d:=.agg (j5 (jZ (Dc (decide (Ah v<Ah w)))))) ⟨by rw[show Ec 12 v w=jZ (Dc (decide (Ah v<Ah w))) from rfl],rfl⟩
 ·refine gz ?_ o143 [6];refine eqlS _ (decide (v=w)) Lj KZ (QX v w) ?_;refine gz ?_ o143 [6];refine jp (U':=O) (d:=.agg (j5 (jZ (Dc (decide (v=w)))))) ⟨by rw[show Ec 13 v w=jZ (Dc (decide (v=w))) from rfl],rfl⟩
theorem U0(p:aw)(c s:Int)(O:Sig)(hp:p.wt<=1073741824)(hk:okP p=true)(hc:jT p c=true):ar prog 217 [.agg (A7 p),dI c,dI s] O (rS (dI (jj s (hasP p c) 0)) O):=by
 have fg:=BT hk;have d6:3<=c/\c<3+p.aa.length:=by unfold jT at hc;simpa using hc
 have i215:∀O,Ans 215 [.agg (A7 p),dI c] O True (sl (cI (hasP p c))):=fun O=>ah0 (by rw[L7 fg d6.1 d6.2];exact F5 p c O hp fg d6)
 have iL:(hasP p c).length<=1073741824:=by have a:=Ce p c;have b:=Db p;omega
 generalize hasP p c=L at*;refine en func217 ntmps217 ?_;refine gz ?_;refine Bz [2,7] (fun (k:Nat)=>k<=L.length/\jj s L 0=jj s (L.drop k) k) (fun k=>[(8,dI k)]) (fun _=>O) (fun k=>L.length-k) (0) j1 (fun k hI=>?_);obtain⟨d7,hR⟩:=hI
 by_cases h:k<L.length
 ·rw[A6 h,jj]at hR
  by_cases e:L[k]=s
  ·rw[aG (by first|exact e.symm|exact e)]at hR;refine gf e ?_;refine fin1 (U':=O) ⟨by rw[hR],rfl⟩
  ·rw[aE (by first|exact fun h=>e h.symm|exact e)]at hR;refine gf e ?_;exact⟨k+1,⟨j0,hR⟩,td1,wkR⟩
 ·rw[A9 h,jj]at hR;refine gz ?_;refine fin1 (U':=O) ⟨by rw[hR],rfl⟩
section
variable {ir:Nat}{p:aw}{c:jD}{R:Nat->RW}{s:GoS}{O:Sig}{v:jH}
theorem W0(hR:jR ir p c R s O)(hv:okV s.j3.length v=true)(ho:AI (A0 p) s.j3=true){x:Int}(h0:0<=Ap (A0 p) s.j3 v x)(h3:v.kind=3){i q:Nat}{cs:eO}(hi:R (v.n.toNat+4)=.row i q cs):
  ∃n k:Nat,v.n=n/\Ap (A0 p) s.j3 v x=k /\ ∃(hn:n<s.j3.length) (hk:k<(s.j3[n]).ac.length),BG s.j3 v.n=s.j3[n] /\ ∃L,L=((s.j3[n]).ac.map j5).flatten++cs/\O i=some (.cells L)/\k*2+2<=L.length/\List.take 2 (List.drop (k*2) L)=j5 ((s.j3[n]).ac[k]):=by
 obtain⟨w1,w2,w3⟩:=Dz ho hv h3;obtain⟨u1,u2,u3⟩:=(AE.1 ho).2 _ w1;obtain⟨n,hn⟩:∃n:Nat,v.n=n:=⟨v.n.toNat,j0⟩;have fV:n<s.j3.length:=by omega
 have fU:BG s.j3 v.n=s.j3[n]:=by unfold BG;rw[hn,bF,aD fV];rfl
 rw[fU]at u1 u2 u3;have fj:Ap (A0 p) s.j3 v x=jj x (hasP p (s.j3[n]).jM) 0:=by unfold Ap;rw[aG h3,fU];rfl
 have iD:(s.j3[n]).ac.length=(hasP p (s.j3[n]).jM).length:=u2;obtain⟨m1,m2⟩:=Fs (s:=x) (hasP p (s.j3[n]).jM) 0 j0;obtain⟨k,hk⟩:∃k:Nat,jj x (hasP p (s.j3[n]).jM) 0=k:=⟨(jj x (hasP p (s.j3[n]).jM) 0).toNat,j0⟩;rw[hk]at m2 fj;have d7:k<(s.j3[n]).ac.length:=by omega
 have fB:rCt R s (n+4)=(s.j3[n]).ac.map j5:=by show(((s.j3[n]?).getD ⟨0,[]⟩).ac.map j5)=_;rw[aD fV];rfl
 have q':=hR.rows.ok (n+4);rw[show n=v.n.toNat by omega,hi]at q';have z:=q'.1;rw[show v.n.toNat=n by omega,fB]at z;refine⟨n,k,hn,fj,fV,d7,fU,_,rfl,z,by rw[Dr];omega,?_⟩;have e:(s.j3[n]).ac=(s.j3[n]).ac.take k++(s.j3[n]).ac[k]::(s.j3[n]).ac.drop (k+1):=by rw[<-A6 d7,cf]
 have hv:=Hb ((s.j3[n]).ac.take k) (s.j3[n]).ac[k] ((s.j3[n]).ac.drop (k+1)) cs;rw[<-e,List.length_take_of_le j0]at hv;exact hv
end
end Go.DL
