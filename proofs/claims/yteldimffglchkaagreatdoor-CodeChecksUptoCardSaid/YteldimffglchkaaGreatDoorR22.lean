/- A part of the proof. -/
import Derived.Test.YteldimffglchkaaGreatDoorR21
import Derived.Test.YteldimffglchkaaGreatDoorR15
import Derived.Test.YteldimffglchkaaGreatDoorR09
import Derived.Test.YteldimffglchkaaGreatDoorR18
import Derived.Test.YteldimffglchkaaGreatDoorR19
import Derived.Test.YteldimffglchkaaGreatDoorR12
import Derived.Test.YteldimffglchkaaGreatDoorR20
set_option linter.all false
namespace Go.DL
open Go.Proofs.Tryz
open Go Go.Proofs
set_option maxHeartbeats 80000000
set_option maxRecDepth 20000
section
variable {ro:Ro}{n:Nat}{Q:DX->St->Prop}{df:List DDf}{γ Sr:List (Nat×D)}{O:Sig}
variable {P:Program}
theorem loop6{Sk:Fr}{α β δ ε ζ η:Type}{c:Code}(keep:List Nat)(I:α->β->δ->ε->ζ->η->Prop)(ov:α->β->δ->ε->ζ->η->Fr)(sg:α->β->δ->ε->ζ->η->Sig)(μ:α->β->δ->ε->ζ->η->Nat)(x0:α)(y0:β)(z0:δ)(u0:ε)(v0:ζ)(w0:η)(h0:I x0 y0 z0 u0 v0 w0)
  (round:∀x y z u v w,I x y z u v w->DWp P ro n c (Then (fun s'=> ∃x' y' z' u' v' w',I x' y' z' u' v' w'/\μ x' y' z' u' v' w'<μ x y z u v w/\Wk P n s' ⟨ov x' y' z' u' v' w'++Sk,sg x' y' z' u' v' w',df⟩) Q) ⟨ov x y z u v w++Sk,sg x y z u v w,df⟩) (hk:Do γ keep=some Sk:=by exact tdR) (h1:TellsR γ (ov x0 y0 z0 u0 v0 w0++Sk):=by(first|refine Fi ?_ ?_|skip)<;>(repeat' first|exact Fh|refine Em tdR ?_ ?_|(first|exact Ab _|exact BY _ _|exact An _ (.inl rfl)|exact Ei _|(refine Ht _ ?_;first|omega|(simp;done)|(simp;omega))|(refine BX ?_;(simp;done))|(refine BX ?_;(simp[cI,cS,cII,Ef,EE,G5];done))|(refine D9 _ ?_;(simp[cI,cS,cII];done))|(refine BX ?_;(simp_all;done))|assumption))) (h2:Sub (sg x0 y0 z0 u0 v0 w0) O:=by first|exact Sub.refl _|(refine BN ?_;simp;done)|assumption|exact(Sub.refl _).set (by assumption)):DWp P ro n (.loop c) Q ⟨γ,O,df⟩:=by
 refine EC (α:=α×β×δ×ε×ζ×η) keep (fun x=>I x.1 x.2.1 x.2.2.1 x.2.2.2.1 x.2.2.2.2.1 x.2.2.2.2.2) (fun x=>ov x.1 x.2.1 x.2.2.1 x.2.2.2.1 x.2.2.2.2.1 x.2.2.2.2.2) (fun x=>sg x.1 x.2.1 x.2.2.1 x.2.2.2.1 x.2.2.2.2.1 x.2.2.2.2.2) (fun x=>μ x.1 x.2.1 x.2.2.1 x.2.2.2.1 x.2.2.2.2.1 x.2.2.2.2.2) (x0,y0,z0,u0,v0,w0) hk h0 h1 h2 fun x hx=>Ec (round x.1 x.2.1 x.2.2.1 x.2.2.2.1 x.2.2.2.2.1 x.2.2.2.2.2 hx) ?_
 intro e s h
 cases e with
 |normal=>obtain⟨x',y',z',u',v',w',h3,h4,h5⟩:=h;exact⟨(x',y',z',u',v',w'),h3,h4,h5⟩
 |_=>exact h
theorem mixN{lo:List Oper}{id:Nat}(ord E:List Nat){lp:List (Bool×Oper)}(h:MONw prog ro n lo.toArray 431 O Q df tab lp γ O)(hB:FW lo.toArray E ord=true:=by kernel_rfl)(hl:Gs lo E ord=some lp:=by exact tdR):DWp prog ro n (.region id lo.toArray true) Q ⟨γ,O,df⟩:=
 VF tabOK Ah mixed ord E O hB (Sub.refl _) hl h
end
theorem H0{n:Nat}{ro:Ro}{ops:Array Oper}{S0:Sig}{Q:DX->St->Prop}{df:List DDf}{T e N t:Nat}{x:Operand}{z:List D}{ty:TypeId}{pos:String}{after:Array Edge}{e':Bool}{l:List (Bool×Oper)}{γ Sr:Fr}{O:Sig}(h:∀k,O k=none->MONw prog ro n ops 431 S0 Q df tab l ((t,.sref k 0 N N)::γ) (O.set k (.cells (List.replicate N z).flatten)))
  (hl:A1 γ (A7 [x])=some Sr:=by exact tdR) (hx:ev Sr x=.int .i64 N:=by exact tdR) (hk:(tab T).k=.slice e:=by(simp<;>rfl)) (he:A0 (tab e).k=false:=by simp) (hz:(tab e).zero=z:=by(simp<;>rfl)) (h0:0<(tab e).size:=by(simp<;>decide)) (hb:N*(tab e).bytes<=140737488355328:=by first|(simp;done)|(simp;omega)) (hm:N<=9223372036854775807:=by omega) (aZ:decide (t<n)=true:=by exact tdR) :
  MONw prog ro n ops 431 S0 Q df tab ((e',⟨some t,.makeSlice T x x,ty,pos,after,none⟩)::l) γ O:=by
 rw[Cu hl]at hx
 refine UH (t:=t) (mk:=fun k=>.sref k 0 N N) (obj:=.cells (List.replicate N z).flatten) rfl ?_ h
 subst hz
 unfold newD
 simp only[hk,hx,he,aZ]
 rw[if_pos]
 ·simp
 ·simp[h0,hm]
  exact⟨hb,by omega⟩
theorem V3{α:Type}(n:Nat)(x:α):(List.replicate n [x]).flatten=List.replicate n x:=by induction n with|zero=>rfl|succ n ih=>rw[List.replicate_succ,List.flatten_cons,ih];rfl
theorem Q9{N r1 r2:Nat}{O:Sig}(h1:O r1=none)(hne:r1≠r2):WayS r1 r2 N (List.replicate N false) (List.replicate N ⟨0,0⟩) ((O.set r1 (.cells (List.replicate N [D.bool false]).flatten)).set r2 (.cells (List.replicate N [dI 0,dI 0]).flatten)):=
 ⟨by rw[w7 _ _ hne,w6,V3,List.map_replicate],by rw[w6,List.map_replicate],by simp,by simp,hne⟩
theorem Of(N:Nat)(lv:List CLev):metR (List.replicate N false) lv=fun _=>none:=by
 funext j
 unfold metR
 rw[if_neg]
 rw[List.getD_eq_getElem?_getD,List.getElem?_replicate]
 split<;>simp
theorem Pk{p:BProg}{c:CProg}{l:List CSt}{aM:List Bool}{aL:List CLev}(h:DN p c l (fun _=>none)=some (metR aM aL)){k:Nat}(hk:k<c.ins.length)(hb:aM.getD k false=false):DZ p c l=none:=by
 unfold DZ
 rw[h]
 refine if_neg fun hA=>?_
 have:=List.all_eq_true.1 hA k (List.mem_range.2 hk)
 unfold metR at this
 rw[hb]at this
 simp at this
theorem Pl{p:BProg}{c:CProg}{l:List CSt}{aM:List Bool}{aL:List CLev}(h:DN p c l (fun _=>none)=some (metR aM aL))(hb:∀j,j<c.ins.length->aM.getD j false=true)(hl:aL.length=c.ins.length):DZ p c l=some aL:=by
 unfold DZ
 rw[h]
 have hm:∀j,j<c.ins.length->metR aM aL j=some (aL.getD j ⟨0,0⟩):=fun j hj=>if_pos (hb j hj)
 refine(if_pos ?_).trans ?_
 ·exact List.all_eq_true.2 fun j hj=>by rw[hm j (List.mem_range.1 hj)];rfl
 ·congr 1
  refine List.ext_getElem (by simp[hl]) fun j h1 h2=>?_
  have hj:j<c.ins.length:=by simpa using h1
  rw[List.getElem_map,List.getElem_range,hm j hj,List.getD_eq_getElem?_getD,List.getElem?_eq_getElem h2]
  rfl
theorem VW{P:Program}{n:Nat}{fn:Func}{R:DE->Sig->Prop}{x:DX}{s s1:St}(hw:Wk P n s s1)(h:Dl P n fn R x s1):Dl P n fn R x s:=by
 obtain⟨s2,h1,h2⟩:=h
 exact⟨s2,hw.trans h1,h2⟩
theorem U8{P:Program}{n:Nat}{fn:Func}{R:DE->Sig->Prop}{x:DX}{γ:Fr}{O:Sig}{df:List DDf}{t sz:Nat}{r:RW}{es:List (List D)}(hm:RWAt O sz r es)(h:∀U',(∀j o,O j=some o->¬r.is j->U' j=some o)->Dl P n fn R x ⟨(t,.slice es .no)::γ,U',df⟩)(hg:getD γ t=r.d es.length):Dl P n fn R x ⟨γ,O,df⟩:=by
 obtain⟨U',hw,hk⟩:=Gk (P:=P) (n:=n) (γ:=γ) (df:=df) hm hg
 exact VW hw (h U' hk)
def LookR(p:BProg)(c:CProg)(O:Sig)(x:DE)(U':Sig):Prop:=Sub O U'/\match AQ p c with
 |none=>x=.ret (.tup [.nils,.bool false])
 |some lv=>x=.ret (.tup [.slice (lv.map cLev) .no,.bool true])
theorem Oy (p:BProg) (c:CProg) (O:Sig) (hp:p.wt<=1073741824) (aX:c.ins.length<=1073741824) (aW:c.starts.length<=1073741824):DCall prog 50 [.agg (Ad p), .agg (cCPg c)] O (LookR p c O):=by
 obtain⟨p1,p2,p3,p4,p5,p6,p7⟩:=p.wt_le
 have bS:(Fd p).isSome=okP p:=by rw[<-UO p];rfl
 have i29:∀O,Ans 29 [.agg (Ad p)] O True (.bool (okP p)):=fun O=>ah0 (bS ▸ Vw p O hp)
 have aT:∀(hm:¬(okP p=true/\c.ins.length<=300/\c.starts.length=p.methods.length)),AQ p c=none:=fun hm=>by
  unfold AQ
  refine if_neg fun h=>hm ?_
  simp only[Bool.and_eq_true,decide_eq_true_eq]at h
  exact⟨h.1,h.2.1,h.2.2.1⟩
 refine en func50 ntmps50 ?_
 by_cases h1:okP p=true
 rotate_left
 ·have hL:=aT fun h=>h1 h.1
  repeat' first|refine gf h1 ?_ o50|apply gy<;>intro hh
  all_goals exact fin2 (U':=O) ⟨Sub.refl _,by rw[hL]⟩
 by_cases h2:c.ins.length<=300
 rotate_left
 ·have hL:=aT fun h=>h2 h.2.1
  repeat' first|refine gf h1 ?_ o50|apply gy<;>intro hh
  all_goals exact fin2 (U':=O) ⟨Sub.refl _,by rw[hL]⟩
 by_cases h3:c.starts.length=p.methods.length
 rotate_left
 ·have hL:=aT fun h=>h3 h.2.2
  repeat' first|refine gf h1 ?_ o50|apply gy<;>intro hh
  all_goals exact fin2 (U':=O) ⟨Sub.refl _,by rw[hL]⟩
 clear aT
 have hL:AQ p c=if CW p c.ins.length c.ins 0 then DZ p c (stsP p c) else none:=by
  unfold AQ
  rw[h1,decide_eq_true h2,decide_eq_true h3]
  simp
 refine gf (gi h1 h3) ?_ o50
 refine BV [2,3,7,8,9,10,11,12,13,14,52,53,54,55,56,57,58,59,60,61,62,63,64,65,66,67,68,69,70,71,72,73,74,75,76,77,78,79,80,81,82,83,84,85,86,87,88,89,90,91,92,93,94,95,96,97,98,99,100,101,102,103,104,105,106,107,108,109,110,111,112,113,114,115,116,117,118,119,120,121,122,123,124,125,126,127,128,129,130,131,132,133,134,135,136,137,138,139,140,141,142,143,144,145,146,147,148,149,150,151,152,153,154,155,156,157,158,159,160,161,162,163,164,165,166,167,168,169,170,171,172] (fun (q:Nat)=>q<=c.ins.length/\CW p c.ins.length c.ins 0=CW p c.ins.length (c.ins.drop q) q) (fun q=>[(6,dI q)]) (fun _=>O) (fun q=>c.ins.length-q) (0) (by exact⟨by omega,rfl⟩) (fun q hI=>?_)
 obtain⟨hq,hA⟩:=hI
 by_cases aF:q<c.ins.length
 ·rw[A5 aF,CW]at hA
  generalize hx:c.ins[q]=x at*
  repeat' first|refine gf hx ?_ o50|apply gy<;>intro hh
  ·have aD:AQ p c=none:=by rw[hL,hA,hh];rfl
   exact fin2 (U':=O) ⟨Sub.refl _,by rw[aD]⟩
  ·rw[hh,Bool.true_and]at hA
   exact⟨q+1,⟨by omega,hA⟩,td1,wkR⟩
 ·rw [A9 aF,CW] at hA
  have aP:=hA
  have aD:AQ p c=DZ p c (stsP p c):=by rw[hL,hA];rfl
  have hj:=Ps aP
  clear hL hA
  refine gz ?_ (delO 8 o50)
  clear aF hq
  refine mixN (id:=8) [0,1,2,4,5,6,3,7,8,9,10] [] ?_
  refine C0 (d:=.cptr (cCPg c) 0) tabOK rfl tdR tdR (by first|with_unfolding_all rfl|(simp;done)|(simp;rfl)) ?_
  refine C0 (d:=sl (c.ins.map cIns)) tabOK rfl tdR tdR (by first|with_unfolding_all rfl|(simp;done)|(simp;rfl)) ?_
  refine C0 (d:=dI c.ins.length) tabOK rfl tdR tdR (by first|with_unfolding_all rfl|(simp;done)|(simp;rfl)) ?_
  refine C0 (d:=.cptr (cCPg c) 0) tabOK rfl tdR tdR (by first|with_unfolding_all rfl|(simp;done)|(simp;rfl)) ?_
  refine C0 (d:=sl (c.ins.map cIns)) tabOK rfl tdR tdR (by first|with_unfolding_all rfl|(simp;done)|(simp;rfl)) ?_
  refine C0 (d:=dI c.ins.length) tabOK rfl tdR tdR (by first|with_unfolding_all rfl|(simp;done)|(simp;rfl)) ?_
  refine H0 (fun ra1 ax=>?_)
  refine H0 (fun ra2 bb=>?_)
  refine FV (by rfl) ?_
  obtain⟨n12,aj⟩:=Bc bb
  have bR:=Q9 (N:=c.ins.length) ax n12.symm
  have bT:Sub O ((O.set ra1 (.cells (List.replicate c.ins.length [D.bool false]).flatten)).set ra2 (.cells (List.replicate c.ins.length [dI 0,dI 0]).flatten)):=((Sub.refl _).set ax).set aj
  have b9:=GC h1
  obtain⟨g1,g2,g3,g4,g5⟩:=FZ h1
  have bA:=Rn h1
  have bB:∀n:Nat,0<=p.gens.getD n 0/\p.gens.getD n 0<=3:=fun n=>by
   rw[List.getD_eq_getElem?_getD]
   cases hn:p.gens[n]? with
   |none=>simp
   |some g=>have:=g1 g (List.mem_of_getElem? hn);simp only[Option.getD_some];omega
  have i123:∀(m:BMeth) O,Ans 123 [dI m.kind] O True (.bool (JI m)):=fun m O=>ah0 (by have:=MH m.kind O;simpa[JI] using this)
  refine gz ?_ o50
  refine Ph [2,3,7,14,152,153,154,155,156,157,158,159,160,161,162,163,164,165,166,167,168,169,170,171,172] (fun (i:Nat) (aM:List Bool) (aL:List CLev) (S1:Sig)=>i<=c.starts.length+1/\WayS ra1 ra2 c.ins.length aM aL S1/\Sub O S1/\DN p c (stsP p c) (fun _=>none)=allM p c ((stsP p c).drop i) (metR aM aL)) (fun i _ _ _=>[(8,dI i)]) (fun _ _ _ S1=>S1) (fun i _ _ _=>c.starts.length+1-i) (0) (List.replicate c.ins.length false) (List.replicate c.ins.length ⟨0,0⟩) ((O.set ra1 (.cells (List.replicate c.ins.length [D.bool false]).flatten)).set ra2 (.cells (List.replicate c.ins.length [dI 0,dI 0]).flatten)) (by exact⟨by omega,bR,bT,by rw[N8 hj,Of];rfl⟩) (fun i aM aL S1 hI=>?_)
  obtain⟨hi,aa,hS,hR⟩:=hI
  have bW:=Qh p c h3
  by_cases b8:i<c.starts.length+1
  ·obtain⟨s,aV⟩:∃s,(stsP p c).drop i=s::(stsP p c).drop (i+1):=⟨_,List.drop_eq_getElem_cons (by omega)⟩
   have aw:∀h:i<c.starts.length,s=CV p (p.methods[i]'(by omega)) c.starts[i]:=fun h=>by
    have:=sts_at p c h3 i h;rw[aV]at this;exact(List.cons.inj this).1
   have am:¬i<c.starts.length->s=⟨c.main,0,false⟩:=fun h=>by
    have:=sts_end p c h3;rw[show c.starts.length=i by omega,aV]at this;exact(List.cons.inj this).1
   rw[aV]at hR
   obtain⟨sp,se,sn⟩:=s
   have ca:0<=se/\se<=3:=by
    by_cases aI:i<c.starts.length
    ·have h:=aw aI
     have bM:=bA _ (List.getElem_mem (show i<p.methods.length by omega))
     have:=bB (p.methods[i]'(by omega)).gen.toNat
     unfold CV at h
     cases h;exact this
    ·have h:=am aI
     cases h;omega
   clear aV
   repeat ((fail_if_success (first|(refine dwp_cut1 (x1:=.seq _ (.cond _ (.region 14 _ _) _)) [(9,dI sp),(10,dI se),(11,.bool sn)] S1 ?_ (fun _ hK=>?_))|fail));(refine goX1 trivial ?_))
   refine dwp_cut1 (x1:=.seq _ (.cond _ (.region 14 _ _) _)) [(9,dI sp),(10,dI se),(11,.bool sn)] S1 ?_ (fun _ hK=>?_)
   rotate_left
   ·by_cases aI:i<c.starts.length
    ·have hv:=aw aI
     have bK:i<p.methods.length:=by omega
     have bM:=bA _ (List.getElem_mem bK)
     generalize bw:p.methods[i]=m at*
     have bN:p.gens.getD m.gen.toNat 0=p.gens[m.gen.toNat]'(by omega):=by rw[List.getD_eq_getElem?_getD,List.getElem?_eq_getElem (by omega)];rfl
     unfold CV at hv
     rw[bN]at hv
     obtain⟨v1,v2,v3⟩:=CSt.mk.inj hv
     refine gf (gi bw h3) ?_ (delO 14 o50)
     refine Fx (id:=14) [0,1,2,3,4,5,6,7,8,9,10,11,12,13,14,15,16,17,18,19,20,21,22,23,24] [21] S1 (Sub.refl _) ?_
     refine gf (gi bw h3) ?_ o50
     exact FL (NU (by first|(simp[v1,v2,v3];done)|(simp_all [v1,v2,v3];done)) (Sub.refl _)) hK
    ·obtain⟨v1,v2,v3⟩:=CSt.mk.inj (am aI)
     refine gz ?_ o50
     exact FL (NU (by first|(simp[v1,v2,v3];done)|(simp_all [v1,v2,v3];done)) (Sub.refl _)) hK
   clear aw am
   refine gz ?_ (delO 15 o50)
   refine mixN (id:=15) [0,1,2,4,5,6,3,7,8,9,10] [] ?_
   refine C0 (d:=.cptr (cCPg c) 0) tabOK rfl tdR tdR (by first|with_unfolding_all rfl|(simp;done)|(simp;rfl)) ?_
   refine C0 (d:=sl (c.ins.map cIns)) tabOK rfl tdR tdR (by first|with_unfolding_all rfl|(simp;done)|(simp;rfl)) ?_
   refine C0 (d:=dI c.ins.length) tabOK rfl tdR tdR (by first|with_unfolding_all rfl|(simp;done)|(simp;rfl)) ?_
   refine C0 (d:=.cptr (cCPg c) 0) tabOK rfl tdR tdR (by first|with_unfolding_all rfl|(simp;done)|(simp;rfl)) ?_
   refine C0 (d:=sl (c.ins.map cIns)) tabOK rfl tdR tdR (by first|with_unfolding_all rfl|(simp;done)|(simp;rfl)) ?_
   refine C0 (d:=dI c.ins.length) tabOK rfl tdR tdR (by first|with_unfolding_all rfl|(simp;done)|(simp;rfl)) ?_
   refine H0 (fun r1 ak=>?_)
   refine H0 (fun r2 ah=>?_)
   refine FV (by rfl) ?_
   obtain⟨m12,ac⟩:=Bc ah
   have bC:=Q9 (N:=c.ins.length) ak m12.symm
   have aC:=(aa.set (o:=.cells (List.replicate c.ins.length [D.bool false]).flatten) ak).set (o:=.cells (List.replicate c.ins.length [dI 0,dI 0]).flatten) ah
   have bG:Sub S1 ((S1.set r1 (.cells (List.replicate c.ins.length [D.bool false]).flatten)).set r2 (.cells (List.replicate c.ins.length [dI 0,dI 0]).flatten)):=((Sub.refl _).set ak).set ac
   generalize (S1.set r1 (.cells (List.replicate c.ins.length [D.bool false]).flatten)).set r2 (.cells (List.replicate c.ins.length [dI 0,dI 0]).flatten)=S2 at bC aC bG⊢
   refine gz ?_ o50
   refine A4 (C4 r1 r2 c.ins.length _ _ sp ⟨0,se⟩ _ h2 bC) (fun d S3 hr=>?_) (fun d S3 hr=>by obtain⟨_,_,_,_,⟨_,h,_⟩|⟨_,h⟩⟩:=hr<;>cases h)
   obtain⟨mb,lv,bQ,ag,hr⟩:=hr
   have y1:S1 r1=none:=ak
   have bF:Sub O S3:=fun j o h=>ag j o (bG j o (hS j o h)) (Al (hS j o h) ak).symm (Al (hS j o h) ac).symm
   have bl:WayS ra1 ra2 c.ins.length aM aL S3:=⟨ag _ _ aC.o1 (Al aa.o1 ak).symm (Al aa.o1 ac).symm,ag _ _ aC.o2 (Al aa.o2 ak).symm (Al aa.o2 ac).symm,aa.l1,aa.l2,aa.ne⟩
   rw[Of]at hr
   rcases hr with⟨ak,ah,bX⟩|⟨ak,ah⟩
   ·cases ah
    have aq:AQ p c=none:=by rw[aD];exact HJ (by rw[hR];exact LH (Uj (s:=⟨sp,se,sn⟩) _ ak))
    refine gz ?_ o50
    exact fin2 (U':=S3) ⟨bF,by rw[aq]⟩ (hZ:=Sub.refl _)
   ·cases ah
    obtain⟨t1,t2,t3,t4⟩:=Ui (p:=p) (c:=c) (s:=⟨sp,se,sn⟩) (metR aM aL) ak
    simp only at t1 t2 t3 t4
    obtain⟨sp0,rfl⟩:∃k:Nat,sp=(k:Int):=⟨sp.toNat,by omega⟩
    rw[show((sp0:Int)).toNat=sp0 by omega]at t3 t4
    refine gz ?_ o50
    refine loop6 [2,3,7,8,9,10,11,12,14,62,63,64,65,66,67,68,69,70,71,72,73,74,75,76,77,78,79,80,81,82,83,84,85,86,87,88,89,90,91,92,93,94,95,96,97,98,99,100,101,102,103,104,105,106,107,108,109,110,111,112,113,114,152,153,154,155,156,157,158,159,160,161,162,163,164,165,166,167,168,169,170,171,172] (fun (q:Nat) (mB:List Bool) (lV:List CLev) (aM2:List Bool) (aL2:List CLev) (S4:Sig)=>sp0<=q/\q<=c.ins.length/\WayS r1 r2 c.ins.length mB lV S4/\WayS ra1 ra2 c.ins.length aM2 aL2 S4/\Sub O S4/\B5 p c ⟨(sp0:Int),se,sn⟩ Dy (metR aM aL)=CZ p c se sn Dy (c.ins.length-q) q (metR mB lV) (metR aM2 aL2)/\BdM se q (metR mB lV)) (fun q _ _ _ _ _=>[(13,dI q)]) (fun _ _ _ _ _ S4=>S4) (fun q _ _ _ _ _=>c.ins.length-q) (sp0) (mb) (lv) (aM) (aL) (S3) (by exact⟨by omega,by omega,bQ,bl,bF,t4,by rw[t3];exact VY _ _ _⟩) (fun q mB lV aM2 aL2 S4 hI=>?_)
    obtain⟨bZ,bY,aY,aB,bn,hG,bt⟩:=hI
    by_cases hq:q<c.ins.length
    ·have o1:=aY.o1
     have bu:q<mB.length:=by rw[aY.l1];exact hq
     cases hb:mB[q]with
     |false=>
      have hn:metR mB lV q=none:=by unfold metR;rw[if_neg];rw[List.getD_eq_getElem?_getD,List.getElem?_eq_getElem bu,hb];simp
      refine gf (gi o1 hb) ?_ o50
      exact⟨q+1,mB,lV,aM2,aL2,S4,⟨by omega,by omega,aY,aB,bn,by rw[hG,go_skip hq hn],bt.mono (by omega)⟩,td1,wkR⟩
     | true =>
      refine gf hq ?_ o50
      refine gf (gi o1 hb) ?_ o50
      have hm:metR mB lV q=some (lV.getD q ⟨0,0⟩):=by unfold metR;rw[if_pos];rw[List.getD_eq_getElem?_getD,List.getElem?_eq_getElem bu,hb];rfl
      obtain⟨b1,b2,b3,b4⟩:=bt q _ hm
      have aN:=Nb _ _ aP q _ (List.getElem?_eq_getElem hq)
      rw[Nat.zero_add]at aN
      have hu:=fun bH:(Am c q).op=19=>(show 0<=(Am c q).a/\(Am c q).a<p.gens.length by rw[Ln hq]at bH⊢; unfold fitsC at aN;rw[bH]at aN;simpa using aN)
      have aG:0<=(Ag p (Am c q)).1/\(Ag p (Am c q)).1<=3/\0<=(Ag p (Am c q)).2/\(Ag p (Am c q)).2<=1:=by
       have:=bB (Am c q).a.toNat
       unfold Ag
       repeat' split
       all_goals simp only;omega
      refine NP (T9 p c r1 r2 q se sn mB lV S4 hp h2 hq aY hu aG ⟨b1,by omega,by omega,by omega⟩) (fun d S5 hr=>?_) (fun d S5 hr=>by obtain⟨_,_,_,_,⟨_,h⟩|⟨_,h⟩⟩:=hr<;>cases h)
      obtain⟨mb5,lv5,ar,bq,hr⟩:=hr
      have bE:Sub O S5:=fun j o h=>bq j o (bn j o h) (Al (hS j o h) y1).symm (Al (hS j o h) ac).symm
      rcases hr with⟨aE,bf⟩|⟨aE,bf⟩
      ·cases bf
       have aq:AQ p c=none:=by rw[aD];exact HJ (by rw[hR];exact LH (by rw[hG];exact go_none hq hm aE))
       refine gz ?_ o50
       refine cndB (b:=true) (fun _=>?_) (fun h=>by cases h)
       refine gz ?_ o50
       exact fin2 (U':=S5) ⟨bE,by rw[aq]⟩ (hZ:=Sub.refl _)
      ·cases bf
       dsimp only[putD]
       have aH:metR mb5 lv5 q=some (lV.getD q ⟨0,0⟩):=by
        rcases IG aE (hj q) q with h|⟨h,_⟩
        ·rw[h,hm]
        ·omega
       have bx:lv5.getD q ⟨0,0⟩=lV.getD q ⟨0,0⟩:=by
        unfold metR at aH
        split at aH
        ·simpa using aH
        ·cases aH
       have aF:q<lv5.length:=by rw[ar.l2];exact hq
       have bO:lv5[q]=lV.getD q ⟨0,0⟩:=by rw[<-bx,List.getD_eq_getElem?_getD,List.getElem?_eq_getElem aF];rfl
       have be:=Lk lv5 q aF
       have aO:((lv5.map cLev).flatten).length=c.ins.length*2:=by rw[Ap (sz:=2) (fun e he=>by obtain⟨x,_,rfl⟩:=List.mem_map.1 he;rfl)];simp;have:=ar.l2;omega
       have o2:=ar.o2
       rw[bO]at be
       have br:=step_bd (p:=p) (c:=c) ⟨aG.1,aG.2.2.1,aG.2.2.2⟩ aE bt hm
       generalize hF:(lv5.map cLev).flatten=F at o2 be aO
       have b7:q*2+2<=F.length:=by omega
       clear hu aG aN aH bx b1 b2 b3 b4
       refine gf (gi o2 (gi be aO)) ?_ o50
       have bk:WayS ra1 ra2 c.ins.length aM2 aL2 S5:=⟨bq _ _ aB.o1 (Al aa.o1 y1).symm (Al aa.o1 ac).symm,bq _ _ aB.o2 (Al aa.o2 y1).symm (Al aa.o2 ac).symm,aB.l1,aB.l2,aB.ne⟩
       refine NP (C4 ra1 ra2 c.ins.length aM2 aL2 (q:Int) (lV.getD q ⟨0,0⟩) S5 h2 bk) (fun d S6 hr=>?_) (fun d S6 hr=>by obtain⟨_,_,_,_,⟨_,h,_⟩|⟨_,h⟩⟩:=hr<;>cases h)
       obtain⟨aM6,aL6,bP,bp,hr⟩:=hr
       have bD:Sub O S6:=fun j o h=>bp j o (bE j o h) (Al h ax).symm (Al h aj).symm
       rcases hr with⟨bj,bi,cd⟩|⟨bj,bi⟩
       ·cases bi
        have aq:AQ p c=none:=by rw[aD];exact HJ (by rw[hR];exact LH (by rw[hG];exact UY hq hm aE bj))
        refine gz ?_ o50
        refine cndB (b:=true) (fun _=>?_) (fun h=>by cases h)
        refine gz ?_ o50
        exact fin2 (U':=S6) ⟨bD,by rw[aq]⟩ (hZ:=Sub.refl _)
       ·cases bi
        dsimp only[putD]
        have bm:WayS r1 r2 c.ins.length mb5 lv5 S6:=⟨bp _ _ ar.o1 (Al aa.o1 y1) (Al aa.o2 y1),bp _ _ ar.o2 (Al aa.o1 ac) (Al aa.o2 ac),ar.l1,ar.l2,ar.ne⟩
        refine gz ?_ o50
        refine cndB (b:=false) (fun h=>by cases h) (fun _=>?_)
        refine gz ?_ o50
        exact⟨q+1,mb5,lv5,aM6,aL6,S6,⟨by omega,by omega,bm,bP,bD,by rw[hG,go_some hq hm aE bj],br⟩,td1,wkR⟩
    ·have bU:B5 p c ⟨(sp0:Int),se,sn⟩ Dy (metR aM aL)=some (metR aM2 aL2):=by rw[hG,show c.ins.length-q=0 by omega];rfl
     refine gf hq ?_ o50
     refine cndB (b:=false) (fun h=>by cases h) (fun _=>?_)
     refine gz ?_ o50
     exact⟨i+1,aM2,aL2,S4,⟨by omega,aB,bn,by rw[hR,VZ bU]⟩,td1,wkR⟩
  ·have au:DN p c (stsP p c) (fun _=>none)=some (metR aM aL):=by rw[hR,List.drop_eq_nil_of_le (by omega)];rfl
   have o1:=aa.o1
   have o2:=aa.o2
   have bd:¬i<=c.starts.length:=by omega
   refine gf bd ?_ o50
   refine cndB (b:=false) (fun h=>by cases h) (fun _=>?_)
   refine gz ?_ o50
   refine BV [7,169,170,171,172] (fun (k:Nat)=>k<=c.ins.length /\ ∀j,j<k->aM.getD j false=true) (fun k=>[(14,dI k)]) (fun _=>S1) (fun k=>c.ins.length-k) (0) (by exact⟨by omega,fun j hj=>by omega⟩) (fun k hI=>?_)
   obtain⟨hk,aR⟩:=hI
   by_cases aJ:k<c.ins.length
   ·have bz:k<aM.length:=by rw[aa.l1];exact aJ
    cases hb:aM[k]with
    |false=>
     have aq:AQ p c=none:=by rw[aD];exact Pk au aJ (by rw[List.getD_eq_getElem?_getD,List.getElem?_eq_getElem bz,hb];rfl)
     repeat first|refine gf (gi o1 (gi hb aJ)) ?_ o50|refine cndB (b:=true) (fun _=>?_) (fun h=>by cases h)|refine cndB (b:=false) (fun h=>by cases h) (fun _=>?_)
     exact fin2 (U':=S1) ⟨hS,by rw[aq]⟩ (hZ:=Sub.refl _)
    | true =>
     repeat first|refine gf (gi o1 (gi hb aJ)) ?_ o50|refine cndB (b:=true) (fun _=>?_) (fun h=>by cases h)|refine cndB (b:=false) (fun h=>by cases h) (fun _=>?_)
     have aQ:∀j,j<k+1->aM.getD j false=true:=fun j hj=>by
      rcases Nat.lt_succ_iff_lt_or_eq.1 hj with h|rfl
      ·exact aR j h
      ·rw[List.getD_eq_getElem?_getD,List.getElem?_eq_getElem bz,hb];rfl
     exact⟨k+1,⟨by omega,aQ⟩,td1,wkR⟩
   ·have aq:AQ p c=some aL:=by rw[aD];exact Pl au (fun j hj=>aR j (by omega)) aa.l2
    repeat first|refine gf aJ ?_ o50|refine cndB (b:=false) (fun h=>by cases h) (fun _=>?_)
    have hlen:(aL.map cLev).length=c.ins.length:=by rw[List.length_map,aa.l2]
    have ba:RWAt S1 2 (.row ra2 c.ins.length []) (aL.map cLev):=⟨by rw[List.append_nil];exact o2,by rw[List.append_nil,Ap (sz:=2) (fun e he=>by obtain⟨x,_,rfl⟩:=List.mem_map.1 he;rfl),hlen];exact Nat.le_refl _,by rw[hlen];exact Nat.le_refl _,fun e he=>by obtain⟨x,_,rfl⟩:=List.mem_map.1 he;rfl⟩
    refine U8 (t:=4) ba (fun S2 ay=>?_) (by rw[hlen];exact Av tdR)
    exact fin2 (U':=S2) ⟨fun j o h=>ay j o (hS j o h) (Al h aj).symm,by rw[aq]⟩ (hZ:=Sub.refl _)
end Go.DL
namespace Go.DL
open Go.Proofs.Tryz
open Go Go.Proofs
set_option maxHeartbeats 8000000
theorem Vu(p:BProg)(c:CProg)(O:Sig)(hp:p.wt<=1073741824)(aX:c.ins.length<=1073741824)(aW:c.starts.length<=1073741824):DCall prog 33 [.agg (Ad p),.agg (cCPg c)] O fun x U'=>Sub O U'/\x=.ret (.tup [.slice (((AQ p c).getD []).map cLev) .no,dI (if(AQ p c).isSome then 0 else 2)]):=by
 refine en func33 ntmps33 ?_
 refine gz ?_
 refine A4 (Oy p c O hp aX aW) (fun d U' hr=>?_) (fun d U' hr=>?_)
 ·obtain⟨hS,hr⟩:=hr
  cases hL:AQ p c with
  |none=>
   rw[hL]at hr
   cases hr
   refine gz ?_
   exact fin2 (U':=U') (d':=.slice [] .no) ⟨hS,rfl⟩ (hZ:=Sub.refl _)
  |some lv=>
   rw[hL]at hr
   cases hr
   refine gz ?_
   exact fin2 (U':=U') ⟨hS,rfl⟩ (hZ:=Sub.refl _)
 ·obtain⟨_,hr⟩:=hr
  split at hr<;>cases hr
theorem Vt(p:BProg)(c:CProg)(O:Sig)(hp:p.wt<=1073741824)(aX:c.ins.length<=1073741824)(aW:c.starts.length<=1073741824):DCall prog 34 [.agg (Ad p),.agg (cCPg c)] O fun x U'=>Sub O U'/\x=.ret (dI (if(AQ p c).isSome then 0 else 2)):=by
 refine en func34 ntmps34 ?_
 refine gz ?_
 refine A4 (Oy p c O hp aX aW) (fun d U' hr=>?_) (fun d U' hr=>?_)
 ·obtain⟨hS,hr⟩:=hr
  cases hL:AQ p c with
  |none=>
   rw[hL]at hr
   cases hr
   refine gz ?_
   exact fin1 (U':=U') ⟨hS,rfl⟩ (hZ:=Sub.refl _)
  |some lv=>
   rw[hL]at hr
   cases hr
   refine gz ?_
   exact fin1 (U':=U') ⟨hS,rfl⟩ (hZ:=Sub.refl _)
 ·obtain⟨_,hr⟩:=hr
  split at hr<;>cases hr
theorem Ms(l:List CIns)(q:CIns->Bool)(g:Nat)(cap:List D)(o:Own)(O:Sig)(hl:l.length<=1073741824)(hg:∀x∈l,DCall prog g ([]++[.agg (cIns x)]++cap) O fun r S''=>r=.ret (.bool (q x))/\S''=O):DCall prog 231 [.slice (l.map cIns) o,.func (.func g) [] cap] O (rS (dI (idxF q l 0)) O):=by
 refine en func231 ntmps231 ?_
 refine gz ?_
 refine BV [0,1,7] (fun (k:Nat)=>k<=l.length/\idxF q l 0=idxF q (l.drop k) k) (fun k=>[(8,dI k)]) (fun _=>O) (fun k=>l.length-k) (0) (by simp) (fun k hI=>?_)
 obtain⟨hk,hR⟩:=hI
 by_cases h:k<l.length
 ·rw[A5 h,idxF]at hR
  repeat' first|refine Bg (hg (l[k]) (List.getElem_mem h)) ?_|refine callP (hg (l[k]) (List.getElem_mem h)) ?_|refine gz ?_|apply gy<;>intro hh
  ·rw[hh]at hR
   exact fe1 hR
  ·rw[hh]at hR
   exact⟨k+1,⟨by omega,hR⟩,td1,wkR⟩
 ·rw[A9 h,idxF]at hR
  refine gz ?_
  exact fe1 hR
theorem ME(l:List CIns)(q:CIns->Bool)(g:Nat)(cap:List D)(o:Own)(O:Sig)(hl:l.length<=1073741824)(hg:∀x∈l,DCall prog g ([]++[.agg (cIns x)]++cap) O fun r S''=>r=.ret (.bool (q x))/\S''=O):DCall prog 152 [.slice (l.map cIns) o,.func (.func g) [] cap] O (rS (.bool (l.any q)) O):=by
 refine en func152 ntmps152 ?_
 repeat' first|refine gz ?_|refine Bg (Ms l q g cap o O hl hg) ?_|refine callP (Ms l q g cap o O hl hg) ?_|refine gz ?_|apply gy<;>intro hh
 rw[<-Dw q l 0]
 exact fe1 trivial
theorem MC(x:CIns)(O:Sig):DCall prog 154 [.agg (cIns x)] O (rS (.bool (F5 x)) O):=by
 refine en func154 ntmps154 ?_
 repeat' first|refine gz ?_|apply gy<;>intro hh
 rotate_left 2
 ·have hn:¬x.op=1:=fun e=>by rw[e]at hh;cases hh
  refine eqlS _ (decide (x=⟨x.op,0⟩)) eqTy87 kind87 (eqIns x ⟨x.op,0⟩) ?_
  have he:decide (x=⟨x.op,0⟩)=decide (x.a=0):=by rcases x with⟨o,a⟩;simp
  refine gz ?_
  refine fin1 (U':=O) ⟨?_,rfl⟩
  rw[he];unfold F5;rw[hh];simp;omega
 all_goals
  refine fin1 (U':=O) ⟨?_,rfl⟩
  rw[Ac,Bool.eq_iff_iff]
  unfold F5 inB farN
  simp_all<;>omega
theorem MD(x:CIns)(O:Sig):DCall prog 153 [.agg (cIns x)] O (rS (.bool (!F5 x)) O):=by
 refine en func153 ntmps153 ?_
 repeat' first|refine gz ?_|refine Bg (MC x O) ?_|refine callP (MC x O) ?_|refine gz ?_|apply gy<;>intro hh
 exact fe1 trivial
theorem Vi(c:CProg)(O:Sig)(h1:c.ins.length<=1073741824)(h2:c.starts.length<=1073741824):DCall prog 70 [.agg (cCPg c)] O (rS (.bool (Ew c)) O):=by
 refine en func70 ntmps70 ?_
 by_cases c1:c.ins.length<=300
 rotate_left
 ·refine gz ?_
  refine skipV ?_
  refine gz ?_
  refine fin1 (U':=O) ?_
  refine⟨?_,rfl⟩
  rw[Ac,Bool.eq_iff_iff]
  unfold Ew
  simp[c1]
 by_cases c2:c.starts.length<=16
 rotate_left
 ·refine gz ?_
  refine skipV ?_
  refine gz ?_
  refine fin1 (U':=O) ?_
  refine⟨?_,rfl⟩
  rw[Ac,Bool.eq_iff_iff]
  unfold Ew
  simp[c2]
 repeat' first|refine CR (FK c.main) ?_|refine callPG (FK c.main) ?_|refine CR (MF c.starts (fun n=> !farN n) 150 [] .no O h2 (fun n _=>FK n O)) ?_|refine callPG (MF c.starts (fun n=> !farN n) 150 [] .no O h2 (fun n _=>FK n O)) ?_|refine CR (ME c.ins (fun x=> !F5 x) 153 [] .no O h1 (fun x _=>MD x O)) ?_|refine callPG (ME c.ins (fun x=> !F5 x) 153 [] .no O h1 (fun x _=>MD x O)) ?_|refine gz ?_|apply gy<;>intro hh
 all_goals
  refine fin1 (U':=O) ?_
  refine⟨?_,rfl⟩
  rw[Ac,Bool.eq_iff_iff]
  unfold Ew
  rw[decide_eq_true c1,decide_eq_true c2]
  simp_all
 ·obtain⟨x,h1,h2⟩:=hh
  intro h3
  rw[h3 x h1]at h2;cases h2
@[reducible,instance] def a70:=fun c O=>ah2 (@Vi c O)
theorem Vd(O:Sig):DCall prog 85 [] O (rS (.slice (cS wordsC) .clip) O):=by
 refine en func85 ntmps85 ?_
 refine gz ?_
 exact fe1 trivial
@[reducible,instance] def a85:=fun O=>ah0 (@Vd O)
def cVal(v:MVal):List D:=[dI v.kind,dI v.n]
@[simp] theorem cVal_len(v:MVal):(cVal v).length=2:=rfl
@[simp] theorem cVal_flat(v:MVal):BS (cVal v)=true:=rfl
theorem OE:EqTy prog 40:=⟨by kernel_rfl,by kernel_rfl,by kernel_rfl⟩
theorem Ok:(tab 40).k=.struct [(0,38),(1,3)]:=rfl
theorem VC(a b:MVal):eqFs tab (cVal a) (cVal b) [(0,38),(1,3)]=some (decide (a=b)):=by
 cases a;cases b
 simp[cVal,MVal.mk.injEq,Bool.decide_and]
theorem SY(v:MVal)(O:Sig):DCall prog 183 [.agg (cVal v)] O (rS (dI (AK v)) O):=by
 refine en func183 ntmps183 ?_
 repeat' first|refine gz ?_|apply gy<;>intro hh
 any_goals (first|(refine fin1 (U':=O) ?_;exact⟨by first|rfl|(simp[AK,hh];done)|(simp_all [AK,hh];done)|(rw[Ac,Bool.eq_iff_iff];simp_all [AK,hh]<;>omega),rfl⟩)|fail)
@[reducible,instance] def a183:=fun v O=>ah0 (@SY v O)
theorem SX(b:Bool)(O:Sig):DCall prog 184 [.bool b] O (rS (dI (E3 b)) O):=by
 refine en func184 ntmps184 ?_
 repeat' first|refine gz ?_|apply gy<;>intro hh
 any_goals (first|(refine fin1 (U':=O) ?_;exact⟨by first|rfl|(simp[E3,hh];done)|(simp_all [E3,hh];done)|(rw[Ac,Bool.eq_iff_iff];simp_all [E3,hh]<;>omega),rfl⟩)|fail)
@[reducible,instance] def a184:=fun b O=>ah0 (@SX b O)
theorem Mz(v:MVal)(N:Int)(O:Sig):DCall prog 175 [.agg (cVal v),dI N] O (rS (.bool (okV N v)) O):=by
 refine en func175 ntmps175 ?_
 repeat' first|refine gz ?_|apply gy<;>intro hh
 any_goals (first|(refine fin1 (U':=O) ?_;exact⟨by first|rfl|(simp[okV,hh];done)|(simp_all [okV,hh];done)|(rw[Ac,Bool.eq_iff_iff];simp_all [okV,hh]<;>omega),rfl⟩)|fail)
theorem MA(v:MVal)(N:Int)(O:Sig):DCall prog 174 [.agg (cVal v),.cptr [dI N] 0] O (rS (.bool (!okV N v)) O):=by
 refine en func174 ntmps174 ?_
 repeat' first|refine gz ?_|refine Bg (Mz v N O) ?_|refine callP (Mz v N O) ?_|refine gz ?_|apply gy<;>intro hh
 exact fe1 trivial
theorem MI(v:MVal)(N:Int)(O:Sig):DCall prog 104 [.agg (cVal v),.cptr [dI N] 0] O (rS (.bool (!okV N v)) O):=by
 refine en func104 ntmps104 ?_
 repeat' first|refine gz ?_|apply gy<;>intro hh
 rotate_left 4
 ·refine neqS _ (decide (v=EL)) OE Ok (VC v EL) ?_
  refine gz ?_
  refine fin1 (U':=O) ?_
  refine⟨?_,rfl⟩
  rw[Ac,Bool.eq_iff_iff]
  obtain⟨k,m⟩:=v
  unfold okV EL
  simp_all
 all_goals
  refine fin1 (U':=O) ?_
  refine⟨?_,rfl⟩
  rw[Ac,Bool.eq_iff_iff]
  unfold okV
  simp_all
  try omega
theorem My(l:List MVal)(p:MVal->Bool)(g:Nat)(cap:List D)(o:Own)(O:Sig)(hl:l.length<=1073741824)(hg:∀v∈l,DCall prog g ([]++[.agg (cVal v)]++cap) O (rS (.bool (p v)) O)):DCall prog 176 [.slice (l.map cVal) o,.func (.func g) [] cap] O (rS (dI (idxF p l 0)) O):=by
 refine en func176 ntmps176 ?_
 refine gz ?_
 refine BV [0,1,7] (fun (k:Nat)=>k<=l.length/\idxF p l 0=idxF p (l.drop k) k) (fun k=>[(8,dI k)]) (fun _=>O) (fun k=>l.length-k) (0) (by simp) (fun k hI=>?_)
 obtain⟨hk,hR⟩:=hI
 by_cases h:k<l.length
 ·rw[A5 h,idxF]at hR
  repeat' first|refine Bg (hg (l[k]) (List.getElem_mem h)) ?_|refine callP (hg (l[k]) (List.getElem_mem h)) ?_|refine gz ?_|apply gy<;>intro hh
  ·rw[hh]at hR
   exact fe1 hR
  ·rw[hh]at hR
   exact⟨k+1,⟨by omega,hR⟩,td1,wkR⟩
 ·rw[A9 h,idxF]at hR
  refine gz ?_
  exact fe1 hR
theorem Hf(l:List MVal)(p:MVal->Bool)(g:Nat)(cap:List D)(o:Own)(O:Sig)(hl:l.length<=1073741824)(hg:∀v∈l,DCall prog g ([]++[.agg (cVal v)]++cap) O (rS (.bool (p v)) O)):DCall prog 103 [.slice (l.map cVal) o,.func (.func g) [] cap] O (rS (.bool (l.any p)) O):=by
 refine en func103 ntmps103 ?_
 repeat' first|refine gz ?_|refine Bg (My l p g cap _ _ hl hg) ?_|refine callP (My l p g cap _ _ hl hg) ?_|refine gz ?_|apply gy<;>intro hh
 rw[<-Dw p l 0]
 exact fe1 trivial
theorem Tt(l:List MVal)(N:Int)(o:Own)(O:Sig)(hl:l.length<=1073741824):DCall prog 102 [.slice (l.map cVal) o,dI N] O (rS (.bool (okVs N l)) O):=by
 refine en func102 ntmps102 ?_
 repeat' first|refine gz ?_|refine Bg (Hf l (fun v=> !okV N v) 174 [.cptr [dI N] 0] _ _ hl (fun v _=>MA v N _)) ?_|refine callP (Hf l (fun v=> !okV N v) 174 [.cptr [dI N] 0] _ _ hl (fun v _=>MA v N _)) ?_|refine gz ?_|apply gy<;>intro hh
 (refine fin1 (U':=O) ?_;exact⟨by first|rfl|(simp[okVs];done)|(simp_all [okVs];done)|(rw[Ac,Bool.eq_iff_iff];simp_all [okVs]<;>omega),rfl⟩)
@[reducible,instance] def a102:=fun l N o O=>ah1 (@Tt l N o O)
theorem Vp(l:List MVal)(N:Int)(o:Own)(O:Sig)(hl:l.length<=1073741824):DCall prog 46 [.slice (l.map cVal) o,dI N] O (rS (.bool (okVs N l)) O):=by
 refine en func46 ntmps46 ?_
 repeat' first|refine gz ?_|refine Bg (Hf l (fun v=> !okV N v) 104 [.cptr [dI N] 0] _ _ hl (fun v _=>MI v N _)) ?_|refine callP (Hf l (fun v=> !okV N v) 104 [.cptr [dI N] 0] _ _ hl (fun v _=>MI v N _)) ?_|refine gz ?_|apply gy<;>intro hh
 (refine fin1 (U':=O) ?_;exact⟨by first|rfl|(simp[okVs];done)|(simp_all [okVs];done)|(rw[Ac,Bool.eq_iff_iff];simp_all [okVs]<;>omega),rfl⟩)
@[reducible,instance] def a46:=fun l N o O=>ah1 (@Vp l N o O)
section
variable {ro:Ro}{n:Nat}{ops:Array Oper}{N:Nat}{S0:Sig}{Q:DX->St->Prop}{df:List DDf}{rest:List Oper}{γ Sr:List (Nat×D)}{O:Sig}{t:Nat}{ty:TypeId}{pos:String}{after:Array Edge}{d:D}
theorem cutH{T e i off len cap hi:Nat}{k:IntKind}{x y:Operand}(h:DOps prog ro n ops Q rest ⟨(t,.sref i off hi cap)::γ,O,df⟩)(bL:hi<=cap)
  (hl:A1 γ (A7 [x,y])=some Sr:=by exact tdR) (h1:ev Sr x=.sref i off len cap:=by exact tdR) (h2:ev Sr y=.int k hi:=by exact tdR) (hk:(tab T).k=.slice e:=by(simp<;>rfl)) (he:A0 (tab e).k=false:=by simp) (aZ:decide (t<n)=true:=by exact tdR) :
  DOps prog ro n ops Q (⟨some t,.slice T x none (some y) none,ty,pos,after,none⟩::rest) ⟨γ,O,df⟩:=by
 obtain⟨e1,e2⟩:=evs hl
 refine Cb (fun d U'=>d=.sref i off hi cap/\U'=O) rfl (fun c e=>by cases e) (Ae fun c e=>by cases e) (by simp only[At];exact aZ) ?_
  (fun d U' ⟨a2,a3⟩=>by subst a2 a3;exact h)
 intro g w a hs hT
 have hx:=Aq hT x
 have hy:=Aq hT y
 rw[<-e1,h1]at hx
 rw[<-e2,h2]at hy
 obtain⟨r,h4,h5⟩:=O5 (w:=w) tabOK hk he hx hy bL
 exact⟨g,w,r,_,O,by simp only[execOp,Option.map_some,Option.map_none,Sem.run_bind,h4,Result.andThen_ok,Sem.run_pure],.refl g,hs,h5,rfl,rfl⟩
end
def cEv(e:MEv):List D:=[dI e.deed,dI e.n,.slice (e.vals.map cVal) .clip]
def tCells(S:Nat->RW)(l:List MThing):List (List D):=l.mapIdx fun k o=>[dI o.cls,(S k).d o.slots.length]
def rCt(R:Nat->RW)(s:GoS):Nat->List (List D)
 |0=>s.stk.map cVal
 |1=>s.env.map cVal
 |2=>s.evs.map cEv
 |3=>tCells (fun k=>R (k+4)) s.objs
 |k+4=>((s.objs[k]?).getD ⟨0,[]⟩).slots.map cVal
def rSz(a:Nat):Nat:=if a=2 then 3 else 2
abbrev AO(p:BProg)(R:Nat->RW)(s:GoS):List D:=[dI 0,dI 0,dI 0,dI 0,.nils,dI 0,dI 0,.nils,.nils,(R 3).d s.objs.length,(R 2).d s.evs.length]++Ad p++[dI s.pos,(R 0).d s.stk.length,(R 1).d s.env.length]
structure RunS(ir:Nat)(p:BProg)(R:Nat->RW)(s:GoS)(O:Sig):Prop where
 obj:O ir=some (.cells (AO p R s))
 rows:Rows O R rSz (rCt R s)
 ni:∀a, ¬(R a).is ir
 nf:∀a es,R a=.full es->es=[]
def RunK(ir:Nat)(R:Nat->RW)(O:Sig)(R':Nat->RW)(U':Sig):Prop:= ∀j o,O j=some o->j≠ir->(∀a, ¬(R a).is j)->U' j=some o /\ ∀a, ¬(R' a).is j
theorem RunK.refl(ir:Nat)(R:Nat->RW)(O:Sig):RunK ir R O R O:=fun _ _ h _ k=>⟨h,k⟩
theorem RunK.trans{ir:Nat}{R R1 R2:Nat->RW}{O S1 S2:Sig}(h:RunK ir R O R1 S1)(k:RunK ir R1 S1 R2 S2):RunK ir R O R2 S2:=fun j o hj hi hn=>k j o (h j o hj hi hn).1 hi (h j o hj hi hn).2
section
variable {ir:Nat}{p:BProg}{R:Nat->RW}{s:GoS}{O:Sig}
theorem RunS.row(h:RunS ir p R s O)(a:Nat)(hne:rCt R s a≠[]): ∃i c cs,R a=.row i c cs:=by
 have hk:=h.rows.ok a
 cases hR:R a with
 |nil=>rw[hR]at hk;exact absurd hk hne
 |full es=>rw[hR]at hk;obtain⟨h1,_⟩:=hk;rw[h.nf a es hR]at h1;exact absurd h1 hne
 |row i c cs=>exact⟨i,c,cs,rfl⟩
theorem RunS.put(h:RunS ir p R s O){a:Nat}{i c:Nat}{cs:List D}{es':List (List D)}{s':GoS}{S1:Sig}{ds:List D}(hr:RWAt S1 (rSz a) (.row i c cs) es')(hk:RWK O (R a) S1 (.row i c cs))(bh:∀b,rCt (updF R a (.row i c cs)) s' b=updF (rCt R s) a es' b)(hd:ds=AO p (updF R a (.row i c cs)) s'):
  RunS ir p (updF R a (.row i c cs)) s' (S1.set ir (.cells ds))/\RunK ir R O (updF R a (.row i c cs)) (S1.set ir (.cells ds)):=by
 obtain⟨k1,k2⟩:=hk ir _ h.obj (h.ni a)
 have hR:=(h.rows.upd hr hk).retell bh
 have aU:∀b, ¬(updF R a (.row i c cs) b).is ir:=fun b=>by
  by_cases e:b=a
  ·subst e;rw[Aj];exact k2
  ·rw[A8 _ _ e];exact h.ni b
 refine⟨⟨by rw[w6,hd],hR.keep fun j o hj ⟨b,hb⟩=>by rw[w7 _ _ fun e=>aU b (by rw[<-e];exact hb)];exact hj,aU,fun b es hb=>?_⟩,fun j o hj aA hn=>⟨by rw[w7 _ _ aA];exact(hk j o hj (hn a)).1,fun b=>?_⟩⟩
 ·by_cases e:b=a
  ·subst e;rw[Aj]at hb;cases hb
  ·rw[A8 _ _ e]at hb;exact h.nf b es hb
 ·by_cases e:b=a
  ·subst e;rw[Aj];exact(hk j o hj (hn b)).2
  ·rw[A8 _ _ e];exact hn b
theorem RunS.re(h:RunS ir p R s O){a:Nat}{i c:Nat}{cs:List D}{es':List (List D)}{s':GoS}{ds:List D}(hr:RWAt O (rSz a) (.row i c cs) es')(hi:∀j,(RW.row i c cs).is j->(R a).is j)(bh:∀b,rCt (updF R a (.row i c cs)) s' b=updF (rCt R s) a es' b)(hd:ds=AO p (updF R a (.row i c cs)) s'):
  RunS ir p (updF R a (.row i c cs)) s' (O.set ir (.cells ds))/\RunK ir R O (updF R a (.row i c cs)) (O.set ir (.cells ds)):=by
 have hR:=(h.rows.re hr hi).retell bh
 have bc:∀b j,(updF R a (.row i c cs) b).is j->(R b).is j:=fun b j hb=>by
  by_cases e:b=a
  ·subst e;rw[Aj]at hb;exact hi j hb
  ·rwa [A8 _ _ e]at hb
 refine⟨⟨by rw[w6,hd],hR.keep fun j o hj ⟨b,hb⟩=>by rw[w7 _ _ fun e=>h.ni b (by rw[<-e];exact bc b j hb)];exact hj,fun b hb=>h.ni b (bc b _ hb),fun b es hb=>?_⟩,fun j o hj aA hn=>⟨by rw[w7 _ _ aA];exact hj,fun b hb=>hn b (bc b j hb)⟩⟩
 by_cases e:b=a
 ·subst e;rw[Aj]at hb;cases hb
 ·rw[A8 _ _ e]at hb;exact h.nf b es hb
@[simp] theorem Fj(i c n:Nat)(cs:List D):(RW.row i c cs).d n=.sref i 0 n c:=rfl
@[simp] theorem cVal_tk(v:MVal):List.take 2 (cVal v)=cVal v:=rfl
@[simp] theorem cVal_mem(v:MVal)(d:D):(d∈cVal v)=(d=dI v.kind\/d=dI v.n):=by simp[cVal]
theorem Bw{l:List MVal}: ∀c∈l.map cVal,c.length=2:=fun c h=>by obtain⟨v,_,rfl⟩:=List.mem_map.1 h;rfl
theorem FO(R:Nat->RW)(a:Nat)(r:RW)(ha:a<4)(l:List MThing):tCells (fun k=>updF R a r (k+4)) l=tCells (fun k=>R (k+4)) l:=by
 unfold tCells
 congr 1
 funext k o
 simp only[A8 R r (show k+4≠a by omega)]
theorem rCt_0(R:Nat->RW)(r:RW)(s:GoS)(l:List MVal)(b:Nat):rCt (updF R 0 r) { s with stk:=l } b=updF (rCt R s) 0 (l.map cVal) b:=by
 match b with
 |0=>rfl
 |1=>rfl
 |2=>rfl
 |3=>exact FO R 0 r (by omega) _
 |k+4=>rfl
theorem rCt_1(R:Nat->RW)(r:RW)(s:GoS)(l:List MVal)(b:Nat):rCt (updF R 1 r) { s with env:=l } b=updF (rCt R s) 1 (l.map cVal) b:=by
 match b with
 |0=>rfl
 |1=>rfl
 |2=>rfl
 |3=>exact FO R 1 r (by omega) _
 |k+4=>rfl
theorem rCt_2(R:Nat->RW)(r:RW)(s:GoS)(l:List MEv)(b:Nat):rCt (updF R 2 r) { s with evs:=l } b=updF (rCt R s) 2 (l.map cEv) b:=by
 match b with
 |0=>rfl
 |1=>rfl
 |2=>rfl
 |3=>exact FO R 2 r (by omega) _
 |k+4=>rfl
theorem Bv(v:MVal)(hR:RunS ir p R s O)(hn:s.stk.length<=1000000):DCall prog 177 [.ptr ir 0,.agg (cVal v)] O fun x U'=>x=.ret (.bool false) /\ ∃R',RunS ir p R' { s with stk:=s.stk++[v] } U'/\RunK ir R O R' U':=by
 have q1:=hR.obj
 have q0:RWAt O 2 (R 0) (s.stk.map cVal):=hR.rows.ok 0
 have u1:(O.out (R 0).is) ir=some (.cells (AO p R s)):=E9 q1 (hR.ni 0)
 refine en func177 ntmps177 ?_
 refine gf q1 ?_
 refine Fu (id:=1) [0,1,2,3,4,5,6,7,8,9,10,11] [8] (O.out (R 0).is) (D2 _ _) ?_
 refine gf u1 ?_ o177
 refine GZ (es:=s.stk.map cVal) (fun i c cs S2 ah ay=>?_) (fun j o h=>Ej h) (hm:=q0)
 obtain⟨v1,v2⟩:=ay _ _ q1 (hR.ni 0)
 refine gf v1 ?_ o177
 rw[show s.stk.map cVal++[cVal v]=(s.stk++[v]).map cVal by simp]at ah
 obtain⟨p1,p2⟩:=hR.put (a:=0) (s':={ s with stk:=s.stk++[v] }) ah ay (rCt_0 R _ s _) rfl
 refine fin1 (U':=_) ⟨rfl,_,p1,p2⟩ (hZ:=?_)
 simp[AO,Ad]
 exact Sub.refl _
theorem KX(l:List MVal)(v:MVal)(m:List MVal)(cs:List D):List.take 2 (List.drop (l.length*2) (((l++v::m).map cVal).flatten++cs))=cVal v:=by
 have e:((l++v::m).map cVal).flatten++cs=(l.map cVal).flatten++(cVal v++((m.map cVal).flatten++cs)):=by simp
 have h:(l.map cVal).flatten.length=l.length*2:=by rw[Ap Bw];simp
 rw[e,<-h,List.drop_left];rfl
theorem Gm(l:List MVal)(cs:List D):((l.map cVal).flatten++cs).length=l.length*2+cs.length:=by
 rw[List.length_append,Ap Bw];simp
theorem Cm(r:List MVal)(v:MVal)(hR:RunS ir p R s O)(hs:s.stk=r++[v])(hn:s.stk.length<=1000000):DCall prog 181 [.ptr ir 0] O fun x U'=>x=.ret (.agg (cVal v)) /\ ∃R',RunS ir p R' { s with stk:=r } U'/\RunK ir R O R' U':=by
 have q1:=hR.obj
 obtain⟨i,c,cs,h0⟩:=hR.row 0 (by rw[rCt,hs];simp)
 have q0:RWAt O 2 (R 0) (s.stk.map cVal):=hR.rows.ok 0
 have aU:=hR.ni 0
 rw[h0,hs]at q0
 rw[h0]at aU
 have hl:s.stk.length=r.length+1:=by rw[hs];simp
 unfold AO at q1
 rw[h0,hl]at q1
 simp only[Fj]at q1
 obtain⟨z1,z2,z3,z4⟩:=q0
 have hv:=KX r v [] cs
 have bV:((List.map cVal (r++[v])).flatten++cs).length=(r.length+1)*2+cs.length:=by rw[Gm];simp
 refine en func181 ntmps181 ?_
 refine gz ?_ [] [2]
 refine newV (fun i2 aK=>?_)
 have n1:ir≠i2:=fun e=>by rw[<-e,hR.obj]at aK;cases aK
 have n2:i≠i2:=fun e=>by rw[<-e,z1]at aK;cases aK
 have q2:(O.set i2 (.cells [.int .i64 0,.int .i64 0])) ir=_:=(w7 _ _ n1).trans q1
 have q3:(O.set i2 (.cells [.int .i64 0,.int .i64 0])) i=_:=(w7 _ _ n2).trans z1
 have hr:RWAt O 2 (.row i c (cVal v++cs)) (r.map cVal):=⟨by rw[z1];simp,by rw[<-List.append_assoc];simpa using z2,by simp only[List.length_map,List.length_append,List.length_singleton]at z3⊢; omega,Bw⟩
 generalize (List.map cVal (r++[v])).flatten++cs=L at*
 have bJ:r.length*2+2<=L.length:=by omega
 refine gf (gi q1 (gi z1 (gi hv bJ))) ?_ [] [2]
 simp only[List.length_map,List.length_append,List.length_singleton]at z3
 refine cutH (i:=i) (off:=0) (len:=r.length+1) (cap:=c) (hi:=r.length) ?_ (by omega)
 refine gf q1 ?_ [] [2]
 obtain⟨p1,p2⟩:=hR.re (a:=0) (s':={ s with stk:=r }) hr (by rw[h0];exact fun j h=>h) (rCt_0 R _ s _) rfl
 refine finC (U':=_) ⟨rfl,_,p1,p2⟩ (hZ:=fun j o hj=>?_)
 by_cases e:j=ir
 ·subst e;rw[w6]at hj;rw[w7 _ _ n1,w6,<-hj];rfl
 ·rw[w7 _ _ e]at hj
  have e2:j≠i2:=fun h=>by rw[h,aK]at hj;cases hj
  rw[w7 _ _ e2,w7 _ _ e,w7 _ _ e2];exact hj
end
abbrev Ou(p:BProg)(R:Nat->RW)(s:GoS)(av:D)(b:Bool)(h:GoH):List D:=
 [dI h.kind,dI h.val.kind,dI h.val.n,dI h.gen,av,dI h.fin]++(if b then [dI s.pos,(R 0).d s.stk.length,(R 1).d s.env.length] else [dI 0,.nils,.nils])++[(R 3).d s.objs.length,(R 2).d s.evs.length]++Ad p++[dI s.pos,(R 0).d s.stk.length,(R 1).d s.env.length]
structure HaltS(ir:Nat)(p:BProg)(R:Nat->RW)(s:GoS)(av:D)(b:Bool)(h:GoH)(O:Sig):Prop where
 obj:O ir=some (.cells (Ou p R s av b h))
 rows:Rows O R rSz (rCt R s)
 ni:∀a, ¬(R a).is ir
 nf:∀a es,R a=.full es->es=[]
 args:WkD av (sl (h.args.map cVal))
 objs:h.objs=s.objs
 evs:h.evs=s.evs
 st:if b then h.pos=s.pos/\h.stk=s.stk/\h.env=s.env else h.pos=0/\h.stk=[]/\h.env=[]
section
variable {ir:Nat}{p:BProg}{R:Nat->RW}{s:GoS}{O:Sig}
theorem RunS.halt(h:RunS ir p R s O){av:D}{b:Bool}{k:GoH}{ds:List D}(hd:ds=Ou p R s av b k)(ha:WkD av (sl (k.args.map cVal)))(ho:k.objs=s.objs)(he:k.evs=s.evs)(hs:if b then k.pos=s.pos/\k.stk=s.stk/\k.env=s.env else k.pos=0/\k.stk=[]/\k.env=[]):
  HaltS ir p R s av b k (O.set ir (.cells ds))/\RunK ir R O R (O.set ir (.cells ds)):=
 ⟨⟨by rw[w6,hd],h.rows.keep fun j o hj ⟨b,hb⟩=>by rw[w7 _ _ fun e=>h.ni b (by rw[<-e];exact hb)];exact hj,h.ni,h.nf,ha,ho,he,hs⟩,fun j o hj aA hn=>⟨by rw[w7 _ _ aA];exact hj,hn⟩⟩
theorem rCt_pos(R:Nat->RW)(s:GoS)(q:Int)(b:Nat):rCt R { s with pos:=q } b=rCt R s b:=by
 match b with
 |0=>rfl
 |1=>rfl
 |2=>rfl
 |3=>rfl
 |k+4=>rfl
theorem RunS.at(h:RunS ir p R s O)(q:Int){ds:List D}(hd:ds=AO p R { s with pos:=q }):RunS ir p R { s with pos:=q } (O.set ir (.cells ds))/\RunK ir R O R (O.set ir (.cells ds)):=
 ⟨⟨by rw[w6,hd],(h.rows.retell (rCt_pos R s q)).keep fun j o hj ⟨b,hb⟩=>by rw[w7 _ _ fun e=>h.ni b (by rw[<-e];exact hb)];exact hj,h.ni,h.nf⟩,fun j o hj aA hn=>⟨by rw[w7 _ _ aA];exact hj,hn⟩⟩
theorem Up{ds:List D}{r0 r1:RW}{a:Int}{n m k:Nat}(h:O ir=some (.cells ds))(hl:k+3<=ds.length):En tab O 34 (.ptr ir k) (.agg [dI a,r0.d n,r1.d m])=some (.any,O.set ir (.cells (ds.take k++[dI a,r0.d n,r1.d m]++ds.drop (k+3)))):=by
 have hf:¬ds.length<k+3:=by omega
 cases r0<;>cases r1<;>simp[En,h,RW.d,hf]
theorem L3{ro:Ro}{n:Nat}{ops:Array Oper}{Q:DX->St->Prop}{df:List DDf}{rest:List Oper}{γ Sr:Fr}{ty:TypeId}{pos:String}{after:Array Edge}{x y:Operand}{ds:List D}{r0 r1:RW}{a:Int}{m m' k:Nat}(hc:O ir=some (.cells ds))(h:DOps prog ro n ops Q rest ⟨γ,O.set ir (.cells (ds.take k++[dI a,r0.d m,r1.d m']++ds.drop (k+3))),df⟩)
  (hl:A1 γ (A7 [x,y])=some Sr:=by exact tdR) (h1:ev Sr x=.ptr ir k:=by exact tdR) (h2:ev Sr y=.agg [dI a,r0.d m,r1.d m']:=by exact tdR) (hlen:k+3<=ds.length:=by simp) :
  DOps prog ro n ops Q (⟨none,.store 34 x y,ty,pos,after,none⟩::rest) ⟨γ,O,df⟩:=
 Eo tabOK (d:=.any) hl (by show En tab O 34 (ev Sr x) (ev Sr y)=_;rw[h1,h2];exact Up hc hlen) h
theorem He(e:Int)(stk:List MVal)(hR:RunS ir p R s O):DCall prog 178 [.ptr ir 0,dI e] O fun x U'=>x=.ret (.bool true)/\HaltS ir p R s .nils false (GB s e stk) U'/\RunK ir R O R U':=by
 have q1:=hR.obj
 refine en func178 ntmps178 ?_
 refine gf q1 ?_
 obtain⟨p1,p2⟩:=hR.halt (av:=.nils) (b:=false) (k:=GB s e stk) rfl (An _ (.inl rfl)) rfl rfl ⟨rfl,rfl,rfl⟩
 exact fin1 (U':=_) ⟨rfl,p1,p2⟩
theorem Ts(x:CIns)(hR:RunS ir p R s O)(hn:s.stk.length<=1000000):DCall prog 105 [.ptr ir 0,.agg (cIns x)] O fun r U'=>r=.ret (.bool false) /\ ∃R',RunS ir p R' { s with stk:=s.stk++[vInt x.a] } U'/\RunK ir R O R' U':=by
 refine en func105 ntmps105 ?_
 refine gz ?_
 refine A4 (Bv (vInt x.a) hR hn) (fun d S1 hr=>?_) (fun d S1 hr=>by cases hr.1)
 obtain⟨hd,hr⟩:=hr
 cases hd
 refine gz ?_
 exact fin1 (U':=S1) ⟨rfl,hr⟩
theorem Tr(x:CIns)(hR:RunS ir p R s O)(hn:s.stk.length<=1000000):DCall prog 106 [.ptr ir 0,.agg (cIns x)] O fun r U'=>r=.ret (.bool false) /\ ∃R',RunS ir p R' { s with stk:=s.stk++[EL] } U'/\RunK ir R O R' U':=by
 refine en func106 ntmps106 ?_
 refine gz ?_
 refine A4 (Bv EL hR hn) (fun d S1 hr=>?_) (fun d S1 hr=>by cases hr.1)
 obtain⟨hd,hr⟩:=hr
 cases hd
 refine gz ?_
 exact fin1 (U':=S1) ⟨rfl,hr⟩
theorem Th(x:CIns)(r:List MVal)(v:MVal)(hR:RunS ir p R s O)(hs:s.stk=r++[v])(hn:s.stk.length<=1000000):DCall prog 116 [.ptr ir 0,.agg (cIns x)] O fun y U'=>y=.ret (.bool false) /\ ∃R',RunS ir p R' { s with stk:=r } U'/\RunK ir R O R' U':=by
 refine en func116 ntmps116 ?_
 refine gz ?_
 refine A4 (Cm r v hR hs hn) (fun d S1 hr=>?_) (fun d S1 hr=>by cases hr.1)
 obtain⟨hd,hr⟩:=hr
 cases hd
 refine gz ?_
 exact fin1 (U':=S1) ⟨rfl,hr⟩
theorem Tf(x:CIns)(hR:RunS ir p R s O):DCall prog 118 [.ptr ir 0,.agg (cIns x)] O fun y U'=>y=.ret (.bool false) /\ ∃R',RunS ir p R' { s with pos:=x.a } U'/\RunK ir R O R' U':=by
 have q1:=hR.obj
 refine en func118 ntmps118 ?_
 refine gf q1 ?_
 obtain⟨p1,p2⟩:=hR.at x.a rfl
 exact fin1 (U':=_) ⟨rfl,_,p1,p2⟩
theorem Td(x:CIns)(hR:RunS ir p R s O):DCall prog 120 [.ptr ir 0,.agg (cIns x)] O fun y U'=>y=.ret (.bool true)/\HaltS ir p R s .nils true ⟨3,vZ,0,[],0,s.pos,s.stk,s.env,s.objs,s.evs⟩ U'/\RunK ir R O R U':=by
 have q1:=hR.obj
 refine en func120 ntmps120 ?_
 refine gf q1 ?_
 obtain⟨p1,p2⟩:=hR.halt (av:=.nils) (b:=true) (k:=⟨3,vZ,0,[],0,s.pos,s.stk,s.env,s.objs,s.evs⟩) rfl (An _ (.inl rfl)) rfl rfl ⟨rfl,rfl,rfl⟩
 refine L3 (w6 ..) ?_
 simp only[w8]
 refine gz ?_
 exact fin1 (U':=_) ⟨rfl,p1,p2⟩
theorem rowV{a:Nat}{l:List MVal}(h:RWAt O 2 (R a) (l.map cVal))(hne:R a≠.nil)(hf:∀es,R a=.full es->es=[]){n:Nat}(hn:n<l.length): ∃i c cs,R a=.row i c cs /\ ∃L,O i=some (.cells L)/\n*2+2<=L.length/\List.take 2 (List.drop (n*2) L)=cVal l[n]:=by
 cases hR:R a with
 |nil=>exact absurd hR hne
 |full es=>
  rw[hR]at h
  have:=hf es hR
  subst this
  obtain⟨h1,_⟩:=h
  simp at h1
  rw[h1]at hn
  simp at hn
 |row i c cs=>
  rw[hR]at h
  refine⟨i,c,cs,rfl,_,h.1,by rw[Gm];omega,?_⟩
  have e:l=l.take n++l[n]::l.drop (n+1):=by rw[<-A5 hn,List.take_append_drop]
  have hv:=KX (l.take n) l[n] (l.drop (n+1)) cs
  rw[<-e,List.length_take_of_le (by omega)]at hv
  exact hv
theorem Tq(x:CIns)(n:Nat)(hx:x.a=n)(hn:n<s.env.length)(hR:RunS ir p R s O)(hs:s.stk.length<=1000000)(cb:s.env.length<=1000000):DCall prog 107 [.ptr ir 0,.agg (cIns x)] O fun y U'=>y=.ret (.bool false) /\ ∃R',RunS ir p R' { s with stk:=s.stk++[s.env[n]] } U'/\RunK ir R O R' U':=by
 have q1:=hR.obj
 have q0:RWAt O 2 (R 1) (s.env.map cVal):=hR.rows.ok 1
 obtain⟨i,c,cs,h0,L,z1,z2,z3⟩:=rowV q0 (fun e=>by rw[e]at q0;have:s.env.map cVal=[]:=q0;simp at this;rw[this]at hn;simp at hn) (hR.nf 1) hn
 unfold AO at q1
 rw[h0]at q1
 simp only[Fj]at q1
 refine en func107 ntmps107 ?_
 refine gz ?_
 refine mixI (id:=1) [0,1,2,3,4,5,6,7,8,9,10,11] [10] [5,9] [10] (fun s=>s=O) rfl ?_
 refine iP _ ?_
 refine iP _ ?_
 refine iP _ ?_
 refine iP _ ?_
 refine iP _ ?_
 refine iR (.sref i 0 s.env.length c) (fun s hs=>?_) ?_
 ·rw[hs];simp[q1]
 refine iP _ ?_
 refine iP (dI n) ?_ (hd:=by rw[<-hx];with_unfolding_all rfl)
 refine iP (.ptr i (n*2)) ?_ (hd:=by simp;omega)
 refine iR (.agg (cVal s.env[n])) (fun s hs=>?_) ?_
 ·rw[hs];simp[z1,z2,z3]
 refine iW (fun _=>True) (Bv s.env[n] hR hs) (fun d S1 hr=>⟨trivial,?_⟩) (fun d S1 hr=>by cases hr.1)
 obtain⟨hd,hr⟩:=hr
 cases hd
 refine iP (.bool false) ?_
 refine iN ?_
 refine gz ?_ o107
 exact fin1 (U':=S1) ⟨rfl,hr⟩
end
section
variable {ir:Nat}{p:BProg}{R:Nat->RW}{s:GoS}{O:Sig}
theorem Tg(x:CIns)(r:List MVal)(v:MVal)(hR:RunS ir p R s O)(hs:s.stk=r++[v])(hn:s.stk.length<=1000000):DCall prog 117 [.ptr ir 0,.agg (cIns x)] O fun y U'=>y=.ret (.bool false) /\ ∃R',RunS ir p R' { s with stk:=r,pos:=if AK v=0 then x.a else s.pos } U'/\RunK ir R O R' U':=by
 refine en func117 ntmps117 ?_
 refine gz ?_
 refine A4 (Cm r v hR hs hn) (fun d S1 hr=>?_) (fun d S1 hr=>by cases hr.1)
 obtain⟨hd,R1,ae,ai⟩:=hr
 cases hd
 have q1:=ae.obj
 by_cases h:AK v=0
 ·rw[if_pos h]
  refine gf (gi q1 h) ?_
  obtain⟨p1,p2⟩:=ae.at x.a rfl
  exact fin1 (U':=_) ⟨rfl,_,p1,ai.trans p2⟩
 ·rw[if_neg h]
  refine gf (gi q1 h) ?_
  exact fin1 (U':=S1) ⟨rfl,_,ae,ai⟩
theorem Tc(x:CIns)(r:List MVal)(v:MVal)(hR:RunS ir p R s O)(hs:s.stk=r++[v])(hn:s.stk.length<=1000000):DCall prog 121 [.ptr ir 0,.agg (cIns x)] O fun y U'=>y=.ret (.bool true) /\ ∃R',HaltS ir p R' { s with stk:=r } .nils false ⟨1,v,0,[],0,0,[],[],s.objs,s.evs⟩ U'/\RunK ir R O R' U':=by
 refine en func121 ntmps121 ?_
 refine gz ?_
 refine A4 (Cm r v hR hs hn) (fun d S1 hr=>?_) (fun d S1 hr=>by cases hr.1)
 obtain⟨hd,R1,ae,ai⟩:=hr
 cases hd
 have q1:=ae.obj
 obtain⟨p1,p2⟩:=ae.halt (av:=.nils) (b:=false) (k:=⟨1,v,0,[],0,0,[],[],s.objs,s.evs⟩) rfl (An _ (.inl rfl)) rfl rfl ⟨rfl,rfl,rfl⟩
 refine gf q1 ?_
 exact fin1 (U':=_) ⟨rfl,_,p1,ai.trans p2⟩
theorem Tj(x:CIns)(r:List MVal)(v:MVal)(hR:RunS ir p R s O)(hs:s.stk=r++[v])(hn:s.stk.length<=1000000)(he:s.env.length<=1000000):DCall prog 114 [.ptr ir 0,.agg (cIns x)] O fun y U'=>y=.ret (.bool false) /\ ∃R',RunS ir p R' { s with stk:=r,env:=s.env++[v] } U'/\RunK ir R O R' U':=by
 refine en func114 ntmps114 ?_
 refine gz ?_ o114
 refine A4 (Cm r v hR hs hn) (fun d S1 hr=>?_) (fun d S1 hr=>by cases hr.1)
 obtain⟨hd,R1,ae,ai⟩:=hr
 cases hd
 have q1:=ae.obj
 have q0:RWAt S1 2 (R1 1) (s.env.map cVal):=ae.rows.ok 1
 have u1:=E9 q1 (ae.ni 1)
 refine gz ?_
 refine Fu (id:=2) [0,1,2,3,4,5,6,7,8,9,10,11] [8] (S1.out (R1 1).is) (D2 _ _) ?_
 refine gf u1 ?_ o114
 refine GZ (es:=s.env.map cVal) (fun i c cs S2 ah ay=>?_) (fun j o h=>Ej h) (hm:=q0)
 obtain⟨v1,v2⟩:=ay _ _ q1 (ae.ni 1)
 refine gf v1 ?_ o114
 rw[show s.env.map cVal++[cVal v]=(s.env++[v]).map cVal by simp]at ah
 obtain⟨p1,p2⟩:=ae.put (a:=1) (s':={ s with stk:=r,env:=s.env++[v] }) ah ay (rCt_1 R1 _ { s with stk:=r } _) rfl
 refine fin1 (U':=_) ⟨rfl,_,p1,ai.trans p2⟩ (hZ:=?_)
 simp[AO,Ad]
 exact Sub.refl _
theorem Ti(x:CIns)(r:List MVal)(v:MVal)(hR:RunS ir p R s O)(hs:s.env=r++[v])(hn:s.env.length<=1000000):DCall prog 115 [.ptr ir 0,.agg (cIns x)] O fun y U'=>y=.ret (.bool false) /\ ∃R',RunS ir p R' { s with env:=r } U'/\RunK ir R O R' U':=by
 have q1:=hR.obj
 obtain⟨i,c,cs,h0⟩:=hR.row 1 (by rw[rCt,hs];simp)
 have q0:RWAt O 2 (R 1) (s.env.map cVal):=hR.rows.ok 1
 rw[h0,hs]at q0
 have hl:s.env.length=r.length+1:=by rw[hs];simp
 unfold AO at q1
 rw[h0,hl]at q1
 simp only[Fj]at q1
 obtain⟨z1,z2,z3,z4⟩:=q0
 have hr:RWAt O 2 (.row i c (cVal v++cs)) (r.map cVal):=⟨by rw[z1];simp,by rw[<-List.append_assoc];simpa using z2,by simp only[List.length_map,List.length_append,List.length_singleton]at z3⊢; omega,Bw⟩
 simp only[List.length_map,List.length_append,List.length_singleton]at z3
 refine en func115 ntmps115 ?_
 refine gz ?_
 refine Fu (id:=1) [0,1,2,3,4,5,6,7,8,9,10,11,12,13,14,15,16] [] O (Sub.refl _) ?_
 refine gf q1 ?_ o115
 refine QO tabOK (i:=i) (off:=0) (len:=r.length+1) (cap:=c) (hi:=r.length) (e:=40) (k:=.i64) ?_ (by decide) (by simp<;>rfl) (by simp) tdR tdR (by omega)
 refine gf q1 ?_ o115
 obtain⟨p1,p2⟩:=hR.re (a:=1) (s':={ s with env:=r }) hr (by rw[h0];exact fun j h=>h) (rCt_1 R _ s _) rfl
 exact fin1 (U':=_) ⟨rfl,_,p1,p2⟩
theorem Wi(n:Int):(if 1000000000<(if n < -1000000000 then -1000000000 else n) then(1000000000:Int) else if n < -1000000000 then -1000000000 else n)=Ed n:=by
 unfold Ed;rw[Int.min_def,Int.max_def];split<;>split<;>(repeat' split)<;>omega
theorem Wh(b:Bool):Ed (E3 b)=E3 b:=by cases b<;>rfl
theorem mul_bnd{a b:Int}(ha : -1000000000<=a/\a<=1000000000)(hb : -1000000000<=b/\b<=1000000000): -1000000000000000000<=a*b/\a*b<=1000000000000000000:=by
 have h:=Int.natAbs_mul a b
 have h2:a.natAbs*b.natAbs<=1000000000*1000000000:=Nat.mul_le_mul (by omega) (by omega)
 omega
theorem Tk(x:CIns)(r:List MVal)(v w:MVal)(hx:9<=x.op/\x.op<=13)(hR:RunS ir p R s O)(hs:s.stk=r++[v,w])(hn:s.stk.length<=1000000)(hv : -1000000000<=AK v/\AK v<=1000000000)(hw : -1000000000<=AK w/\AK w<=1000000000):DCall prog 113 [.ptr ir 0,.agg (cIns x)] O fun y U'=>y=.ret (.bool false) /\ ∃R',RunS ir p R' { s with stk:=r++[Hp x.op v w] } U'/\RunK ir R O R' U':=by
 refine en func113 ntmps113 ?_
 refine gz ?_ o113
 refine A4 (Cm (r++[v]) w hR (by rw[hs];simp) hn) (fun d S1 hr=>?_) (fun d S1 hr=>by cases hr.1)
 obtain⟨hd,R1,ae,ai⟩:=hr
 cases hd
 have hl:s.stk.length=r.length+2:=by rw[hs];simp
 refine gz ?_ o113
 refine A4 (Cm r v ae rfl (by simp;omega)) (fun d S2 hr=>?_) (fun d S2 hr=>by cases hr.1)
 obtain⟨hd,R2,au,aS⟩:=hr
 cases hd
 have b6:=mul_bnd hv hw
 have bI:IntKind.i64.wrap (AK v*AK w)=AK v*AK w:=Ay (by omega) (by omega)
 repeat' first|refine gz ?_ o113|apply gy<;>intro hh
 rotate_left 4
 ·refine eqlS _ (decide (v=w)) OE Ok (VC v w) ?_
  refine gz ?_ o113
  simp only[Wi,Wh]
  have e:Hp x.op v w=vInt (E3 (decide (v=w))):=by unfold Hp;rw[if_neg (by assumption),if_neg (by assumption),if_neg (by assumption),if_neg (by assumption)]
  rw[e]
  refine A4 (Bv (vInt (E3 (decide (v=w)))) au (by simp;omega)) (fun d S3 hr=>?_) (fun d S3 hr=>by cases hr.1)
  obtain⟨hd,R3,ap,ag⟩:=hr
  cases hd
  refine gz ?_ o113
  exact fin1 (U':=S3) ⟨rfl,R3,ap,(ai.trans aS).trans ag⟩
 all_goals
  simp only[bI,Wi,Wh]
 ·have e:Hp x.op v w=vInt (Ed (AK v+AK w)):=by unfold Hp;rw[if_pos (by assumption)]
  rw[e]
  refine A4 (Bv (vInt (Ed (AK v+AK w))) au (by simp;omega)) (fun d S3 hr=>?_) (fun d S3 hr=>by cases hr.1)
  obtain⟨hd,R3,ap,ag⟩:=hr
  cases hd
  refine gz ?_ o113
  exact fin1 (U':=S3) ⟨rfl,R3,ap,(ai.trans aS).trans ag⟩
 ·have e:Hp x.op v w=vInt (Ed (AK v-AK w)):=by unfold Hp;rw[if_neg (by assumption),if_pos (by assumption)]
  rw[e]
  refine A4 (Bv (vInt (Ed (AK v-AK w))) au (by simp;omega)) (fun d S3 hr=>?_) (fun d S3 hr=>by cases hr.1)
  obtain⟨hd,R3,ap,ag⟩:=hr
  cases hd
  refine gz ?_ o113
  exact fin1 (U':=S3) ⟨rfl,R3,ap,(ai.trans aS).trans ag⟩
 ·have e:Hp x.op v w=vInt (Ed (AK v*AK w)):=by unfold Hp;rw[if_neg (by assumption),if_neg (by assumption),if_pos (by assumption)]
  rw[e]
  refine A4 (Bv (vInt (Ed (AK v*AK w))) au (by simp;omega)) (fun d S3 hr=>?_) (fun d S3 hr=>by cases hr.1)
  obtain⟨hd,R3,ap,ag⟩:=hr
  cases hd
  refine gz ?_ o113
  exact fin1 (U':=S3) ⟨rfl,R3,ap,(ai.trans aS).trans ag⟩
 ·have e:Hp x.op v w=vInt (E3 (decide (AK v<AK w))):=by unfold Hp;rw[if_neg (by assumption),if_neg (by assumption),if_neg (by assumption),if_pos (by assumption)]
  rw[e]
  refine A4 (Bv (vInt (E3 (decide (AK v<AK w)))) au (by simp;omega)) (fun d S3 hr=>?_) (fun d S3 hr=>by cases hr.1)
  obtain⟨hd,R3,ap,ag⟩:=hr
  cases hd
  refine gz ?_ o113
  exact fin1 (U':=S3) ⟨rfl,R3,ap,(ai.trans aS).trans ag⟩
end
end Go.DL
