/- A part of the proof. -/
import Derived.Test.YteldimffglchkaaGreatDoorQ15
import Derived.Lib.Atoi
import Derived.Lib.ItoaNum
set_option linter.all false
namespace Go.DL
open Go.Proofs.Tryz
open Go Go.Proofs
set_option maxHeartbeats 8000000
structure WorldOK(w:World):Prop where
 good:Bk w.ae=true
 len:∀x∈w.ae,x.length<=1073741824
 few:w.jQ.length<=40
 own:∀c∈w.jQ,3<=c/\c<3+w.ae.length
def QP(w:World)(l:List j8)(o:Own)(O:Sig)(h:WorldOK w)(hl:l.length<=1073741824)(hf:∀f∈l,f.wt<=1073741824):
  ar prog 257 [.agg (Dg w),.slice (l.map Cu) o] O fun x U'=>(∃d,x=.ret (.tup [d,.bool (l.all (Eu w))]))/\U'=O:=by
 have hlen:=E9 h.good;have fF:=h.few;refine en func257 ntmps257 ?_
 try refine gz ?_
 refine A3 (QM w O h.good h.len h.few h.own) (fun d U' hr=>?_) (fun d U' hr=>by obtain⟨_,_,_,h,_⟩:=hr;cases h);obtain⟨iw,us,fN,h1,rfl⟩:=hr;simp only[DE.ret.injEq]at h1;subst h1
 repeat' first|refine gz ?_|refine DZ (Lf w us iw l o _ (w6 ..) j0 j0 hl hf) ?_|refine callPG (Lf w us iw l o _ (w6 ..) j0 j0 hl hf) ?_|refine gz ?_|apply gy<;>intro hh
 refine kM (U':=O) ?_;exact⟨⟨_,rfl⟩,rfl⟩
def U5(w:World)(f:j8)(O:Sig)(h:WorldOK w)(hf:f.wt<=1073741824):ar prog 204 [.agg (Dg w),.agg (Cu f)] O (rS (dI (if Eu w f then 0 else 2)) O):=by
 refine en func204 ntmps204 ?_
 try refine gz ?_
 refine A3 (QP w [f] .clip O h j1 (by simpa using hf)) (fun d U' hr=>?_) (fun d U' hr=>by obtain⟨⟨_,h⟩,_⟩:=hr;cases h);obtain⟨⟨e,h1⟩,h2⟩:=hr;simp only[DE.ret.injEq]at h1;subst h1;rw[h2]
 try refine gz ?_
 exact fe1 trivial
@[reducible,instance] def a204:=fun w f O=>ah2 (@U5 w f O)
def Ls: ∀(cs:List ax) (n m:Int),AT n cs=some m->∀c∈cs,c.ac.length<=4
 |[],_,_,_,c,hc=>by simp at hc
 | x::r,n,m,h,c,hc=>by
  rw[AT]at h;split at h
  ·cases h
  ·rename_i h4;split at h
   ·cases h
   ·rcases aY.1 hc with rfl|hc
    ·omega
    ·exact Ls r _ _ h c hc
def KO: ∀(cs:List ax) (i:Nat),(∀c∈cs,c.ac.length<=4)->(ownersF cs i).length<=4*cs.length /\ ∀x∈ownersF cs i,3+(i:Int)<=x/\x<3+(i:Int)+cs.length
 |[],_,_=>by simp[ownersF]
 | c::r,i,h=>by
  obtain⟨h1,h2⟩:=KO r (i+1) fun c hc=>h c (by simp[hc])
  have h3:=h c j1;rw[ownersF];refine⟨by simp only[aC,bY,aS];omega,fun x hx=>?_⟩;rcases bJ.1 hx with hx|hx
  ·have:=cV hx;simp only[aS];omega
  ·have:=h2 x hx;simp only[aS];omega
def J1{p:aw}(hp:p.wt<=1073741824)(h:Am p=true):WorldOK (AG p):=by
 obtain⟨p1,p2,p3,p4,p5,p6,p7⟩:=p.wt_le;unfold Am at h;simp only[aF,aH]at h;obtain⟨fu,h⟩:=h;split at h
 ·cases h
 ·rename_i n hn;simp only[aF,aH]at h;obtain⟨⟨_,hg⟩,_⟩:=h;obtain⟨o1,o2⟩:=KO p.aa 0 (Ls _ _ _ hn);refine⟨hg,fun x hx=>?_,by show(ownersF p.aa 0).length<=40;omega,fun c hc=>?_⟩
  ·obtain⟨c,hc,rfl⟩:=aZ.1 (show x∈p.aa.map (·.ae) from hx);obtain⟨k,hk,rfl⟩:=bT hc;have:=p5 k hk;unfold ax.wt at this;omega
  ·have:=o2 c hc
   show 3<=c/\c<3+((p.aa.map (·.ae)).length:Int);rw[aN];omega
def H0(p:aw)(m:jy):Bool:=decide (1<=m.kind/\m.kind<=4)&&decide (0<=m.gen/\m.gen<p.ai.length)&&Eu (AG p) m.kW&&decide (m.kW.speaks<=p.ai.getD m.gen.toNat 0)
def CT(p:aw):List jy->eP->Option eP
 |[],s=>some s
 | m::r,s=>if H0 p m then (match optW (BF p (decide (m.kind=1) || decide (m.kind=4)) 12 m.node (p.ai.getD m.gen.toNat 0) s) with
   |none=>none
   |some s'=>CT p r s') else none
def DH(p:aw):Option eP:=
 if Am p&&(decide (p.ai.length<=8)&&decide (p.j9.length<=16)&&decide (1<=p.jJ.length)&&decide (p.jJ.length<=120))&&p.ai.all (fun g=>decide (1<=g/\g<=3)) then
  match CT p p.j9 (List.replicate p.jJ.length (-1))with
  |none=>none
  |some s=>match optW (BF p false 12 p.jf 0 s)with
   |none=>none
   |some s2=>if -1∈s2 then none else some s2
 else none
def SzR(p:aw)(io:Nat)(O:Sig)(x:DE)(U':Sig):Prop:=jd (· = io) O U'/\(∃d,U' io=some (.cells [d])) /\
 match DH p with
 |none=>x=.panic unf
 |some s=>x=.ret (.tup [])/\U' io=some (.cells [sl (cI s)])
def QR (p:aw) (io:Nat) (O:Sig) (hp:p.wt<=1073741824) (d6:O io=some (.cells [.aj])):ar prog 195 [.ak (A7 p) 0, .ptr io 0] O (SzR p io O):=by
 obtain⟨p1,p2,p3,p4,p5,p6,p7⟩:=p.wt_le
 have fm:∀c∈p.aa,c.ae.length<=1073741824/\c.ac.length<=1073741824/\c.ah.length<=1073741824:=fun c hc=>by
  obtain⟨k,hk,rfl⟩:=bT hc;have:=p5 k hk;have fI:(p.aa[k]).wt=1+(p.aa[k]).ae.length+(p.aa[k]).ac.length+(p.aa[k]).ah.length:=rfl;omega
 have fK:∀c∈p.aa,c.ae.length<=1073741824:=fun c hc=>(fm c hc).1;have fJ:∀c∈p.aa,c.ac.length<=1073741824:=fun c hc=>(fm c hc).2.1;have b9:DH p=none->∀U' d,jd (· = io) O U'->U' io=some (.cells [d])->SzR p io O (.panic unf) U':=fun h U' d hK hd=>⟨hK,⟨d,hd⟩,by rw[h]⟩
 refine en func195 ntmps195 ?_;cases hc:Am p with
 |false=>
  have hL:DH p=none:=by unfold DH;rw[hc];rfl
  repeat' first|(exact jo (U':=O) (b9 hL _ _ (jd.refl _ _) d6))|refine gf hc ?_ o195|apply gy<;>intro hh
 | true =>
  have hW:=J1 hp hc
  by_cases fD:p.ai.length<=8/\p.j9.length<=16/\1<=p.jJ.length/\p.jJ.length<=120
  ·have c9:DH p=if p.ai.all (fun g=>decide (1<=g/\g<=3)) then
     match CT p p.j9 (List.replicate p.jJ.length (-1))with
     |none=>none
     |some s=>match optW (BF p false 12 p.jf 0 s)with
      |none=>none
      |some s2=>if -1∈s2 then none else some s2
    else none:=by unfold DH;rw[hc];simp[fD]
   try refine gf hc ?_ o195
   refine Bz ([0,1,4,5,7,34,35]++List.range' 48 82) (fun (i:Nat)=>i<=p.ai.length/\p.ai.all (fun g=>decide (1<=g/\g<=3))=(p.ai.drop i).all (fun g=>decide (1<=g/\g<=3))) (fun i=>[(36,dI i)]) (fun _=>O) (fun i=>p.ai.length-i) (0) td3 (fun i hI=>?_);obtain⟨hi,hA⟩:=hI
   by_cases d9:i<p.ai.length
   ·rw[A6 d9,cM]at hA
    by_cases hq:1<=p.ai[i]/\p.ai[i]<=3
    ·rw[be hq,bq]at hA
     try refine gz ?_ o195
     exact⟨i+1,⟨j0,hA⟩,td1,wkR⟩
    ·rw[bk hq,bD]at hA;have hL:DH p=none:=by rw[c9,hA];rfl
     repeat' first|(exact jo (U':=O) (b9 hL _ _ (jd.refl _ _) d6))|refine gz ?_ o195|apply gy<;>intro hh
     all_goals (exfalso;omega)
   ·rw [A9 d9,eJ] at hA;rw[hA,aG rfl]at c9;have b8:=hA
    try refine gz ?_ o195
    refine Vu (Ua p.jJ.length O j0 j0) (fun d U' hr=>?_) (fun d U' hr=>by obtain⟨r,_,h,_⟩:=hr;cases h);obtain⟨r,d5,h1,rfl⟩:=hr;simp only[DE.ret.injEq]at h1;subst h1;have b6:io≠r:=fun e=>by rw[e,d5]at d6;cases d6
    have fM:(ownersF p.aa 0).length<=40:=hW.few
    try refine gf (gi d6 b6) ?_ o195
    refine F1 ([0,1,4,5,57,58]++List.range' 122 8) (fun (i:Nat) (s:eP) (S1:Sig)=>i<=p.j9.length/\s.length=p.jJ.length/\jd (· = io) O S1/\S1 io=some (.cells [.am r 0 p.jJ.length p.jJ.length])/\S1 r=some (.cells (s.map dI))/\CT p p.j9 (List.replicate p.jJ.length (-1))=CT p (p.j9.drop i) s) (fun i _ _=>[(59,dI i)]) (fun _ _ S1=>S1) (fun i _ _=>p.j9.length-i) (0) (List.replicate p.jJ.length (-1)) (_) (by exact⟨j0,j1,((jd.refl _ O).fresh d5).trans (fun j o h1 h2=>by rw[w7 _ _ h2];exact h1),w6 .., by rw[w7 _ _ (cg b6),w6],rfl⟩) (fun i s S1 hI=>?_);clear d9;obtain⟨hi,fc,eW,b7,fg,hM⟩:=hI
    by_cases d9:i<p.j9.length
    ·rw [A6 d9,CT] at hM;have fh:=p6 i d9;generalize hm:p.j9[i]=m at*;have fQ:m.kW.wt<=1073741824:=by unfold jy.wt at fh;omega
     have hsz:=j8.size_le m.kW;cases eY:H0 p m with
     | false =>
      rw[eY]at hM;have hL:DH p=none:=by rw[c9,hM];rfl
      repeat' first|(exact jo (U':=S1) (b9 hL _ _ eW b7))|refine gf hm ?_ o195|apply gy<;>intro hh
      all_goals
       exfalso
       rename_i k1 k2 k3 k4 k5 k6;revert eY;simp only[H0];rw[be j0,be j0,k5,be (by rw[aQ,aD j0];exact k6)];simp
     | true =>
      rw[eY,aG rfl]at hM;simp only[H0,aF,aH]at eY;obtain⟨⟨⟨hk,fO⟩,fE⟩,fv⟩:=eY;have fi:p.ai.getD m.gen.toNat 0=p.ai[m.gen.toNat]'(by omega):=by rw[aQ,aD j0];rfl
      rw[fi]at fv hM
      have fP:1<=p.ai[m.gen.toNat]'(by omega)/\p.ai[m.gen.toNat]'(by omega)<=3:=by
       have:=aW.1 b8 _ (aK (show m.gen.toNat<p.ai.length by omega));simpa using this
      repeat' first|refine gf (gi hm fE) ?_ o195|apply gy<;>intro hh
      ·have hb:(decide (m.kind=1)||decide (m.kind=4))=true:=by simp[hh]
       rw[hb]at hM;refine A3 (JY p io r (true) m.node (p.ai[m.gen.toNat]'(by omega)) s S1 hp b7 fg fc b6 j0 j0) (fun d U' hr=>?_) (fun d U' hr=>?_)
       ·obtain⟨s',ff,rfl,⟨q1,q2,q3⟩,_⟩:=hr.ret;rw[ff]at hM
        try refine gz ?_ o195
        exact⟨i+1,s',U',⟨j0,q2,fun j o h1 h2=>q3 j o (eW j o h1 h2) (fun e=>by rw[e,d5]at h1;cases h1),q3 io _ b7 b6,q1,hM⟩,td1,wkR⟩
       ·obtain⟨hn,rfl,hb⟩:=hr.pan;rw[hn]at hM;exact jo (U':=U') (b9 (by rw[c9,hM]) _ _ (fun j o h1 h2=>hb j o (eW j o h1 h2) (fun e=>by rw[e,d5]at h1;cases h1)) (hb io _ b7 b6))
      ·have hb:(decide (m.kind=1)||decide (m.kind=4))=decide (m.kind=4):=by simp[hh]
       rw[hb]at hM;refine A3 (JY p io r (decide (m.kind=4)) m.node (p.ai[m.gen.toNat]'(by omega)) s S1 hp b7 fg fc b6 j0 j0) (fun d U' hr=>?_) (fun d U' hr=>?_)
       ·obtain⟨s',ff,rfl,⟨q1,q2,q3⟩,_⟩:=hr.ret;rw[ff]at hM
        try refine gz ?_ o195
        exact⟨i+1,s',U',⟨j0,q2,fun j o h1 h2=>q3 j o (eW j o h1 h2) (fun e=>by rw[e,d5]at h1;cases h1),q3 io _ b7 b6,q1,hM⟩,td1,wkR⟩
       ·obtain⟨hn,rfl,hb⟩:=hr.pan;rw[hn]at hM;exact jo (U':=U') (b9 (by rw[c9,hM]) _ _ (fun j o h1 h2=>hb j o (eW j o h1 h2) (fun e=>by rw[e,d5]at h1;cases h1)) (hb io _ b7 b6))
    ·rw[A9 d9,CT]at hM;rw[hM]at c9;simp only at c9
     try refine gz ?_ o195
     refine A3 (JY p io r false p.jf 0 s S1 hp b7 fg fc b6 j0 j0) (fun d U' hr=>?_) (fun d U' hr=>?_)
     ·obtain⟨s2,fw,rfl,⟨q1,q2,q3⟩,_⟩:=hr.ret;rw[fw]at c9;simp only at c9;have fG:jd (· = io) O U':=fun j o h1 h2=>q3 j o (eW j o h1 h2) (fun e=>by rw[e,d5]at h1;cases h1)
      have d8:=q3 io _ b7 b6
      have fe:U'=mS (U'.del r) (some (r,p.jJ.length,[])) (cI s2):=by
       funext j
       by_cases hj:j=r
       ·subst hj;rw[mS,w6,q1,GC,bl]
       ·rw[mS,w7 _ _ hj];simp[Sig.del,hj]
      rw[fe]
      have fk:(U'.del r) io=some (.cells ([]++mD (some (r,p.jJ.length,[])) (cI s2).length::[])):=by
       simp only[Sig.del,b6,bc,mD,K7,q2];exact d8
      have fA:mOK (U'.del r) 1 (some (r,p.jJ.length,[])) (cI s2):=⟨by simp[Sig.del],by rw[GC];simp[q2],by simp[q2],Ck _⟩
      have fq:jd (· = io) O ((U'.del r).set io (.cells [sl (cI s2)])):=fun j o h1 h2=>by
       have fC:¬j=r:=fun e=>by rw[e,d5]at h1;cases h1
       rw[w7 _ _ h2];simp only[Sig.del,fC,bc];exact fG j o h1 h2
      refine mfrC [] [] ?_ fk fA;simp only[bG]
      by_cases eZ : -1∈s2
      ·rw[aG eZ]at c9
       repeat' first|(exact jo (U':=(U'.del r).set io (.cells [sl (cI s2)])) (b9 c9 _ _ fq (w6 ..)))|refine gf eZ ?_ o195|apply gy<;>intro hh
      ·rw[aE eZ]at c9
       try refine gf eZ ?_ o195
       refine F3 (U':=(U'.del r).set io (.cells [sl (cI s2)])) ?_;exact⟨fq,⟨_,w6 ..⟩,by rw[c9];exact⟨rfl,w6 ..⟩⟩
     ·obtain⟨hn,rfl,hb⟩:=hr.pan;rw[hn]at c9;exact jo (U':=U') (b9 c9 _ _ (fun j o h1 h2=>hb j o (eW j o h1 h2) (fun e=>by rw[e,d5]at h1;cases h1)) (hb io _ b7 b6))
  ·have hL:DH p=none:=by unfold DH;rw[aE];simp only[aF,aH];omega
   repeat' first|(exact jo (U':=O) (b9 hL _ _ (jd.refl _ _) d6))|refine gf hc ?_ o195|apply gy<;>intro hh
   all_goals (exfalso;omega)
def QV(p:aw)(O:Sig)(hp:p.wt<=1073741824):ar prog 130 [.agg (A7 p)] O fun x U'=>(∃d,x=.ret (.tup [d,.bool (DH p).isSome]) /\ ∀s,DH p=some s->d=sl (cI s))/\U'=O:=by
 refine en func130 ntmps130 ?_
 try refine gz ?_ [] [4]
 refine je (fun io d6=>?_)
 try refine gz ?_ [] [4]
 refine A3 (Ud 195 [.ak (A7 p) 0,.ptr io 0] (O.set io (.cells [.aj])) (fun S1=>SzR p io S1) (fun i hi=>QR p io _ hp (by rw[w7 _ _ fun e=>by rw[e]at hi;rw[w6 ..]at hi;cases hi];exact w6 ..)) (fun S1 d S2 h=>?_) (fun i S2 x hi h=>h.1 i _ (w6 ..) (fun e=>by rw[e,w6]at hi;cases hi))) (fun d U' hr=>?_) (fun d U' hr=>?_)
 ·obtain⟨_,_,h⟩:=h;split at h
  ·simpa using h
  ·exact absurd h.1 j1
 ·obtain⟨i,S2,hi,rfl,hr⟩:=hr;rcases hr with⟨e,⟨hK,⟨d0,fp⟩,h⟩,h2⟩|⟨⟨hK,⟨d0,fp⟩,h⟩,h2⟩
  ·simp only[DE.ret.injEq]at h2;subst h2;cases hL:DH p with
   |none=>rw[hL]at h;exact absurd h j1
   | some s =>
    rw[hL]at h;obtain⟨_,d8⟩:=h;have eU:io≠i:=fun e=>by rw[<-e,w6]at hi;cases hi
    have d7:(S2.del i) io=some (.cells [sl (cI s)]):=by simp only[Sig.del,eU,bc];exact d8
    try refine gf d7 ?_ [] [4]
    refine kM (U':=O) ?_ (hZ:=?_)
    ·exact⟨⟨_,rfl,fun s' h=>by cases h;rfl⟩,rfl⟩
    ·intro j o hj;have e1:j≠io:=fun e=>by rw[e,d6]at hj;cases hj
     have e2:=hK j o (by rw[w7 _ _ (fun e=>by rw[e]at hj;rw[w7 _ _ (cg eU),hj]at hi;cases hi),w7 _ _ e1];exact hj) e1;simp only[Sig.del];rw[aE (fun e=>by rw[e]at hj;rw[w7 _ _ (cg eU),hj]at hi;cases hi)];exact e2
  ·simp only[DE.ret.injEq]at h2;subst h2;have eU:io≠i:=fun e=>by rw[<-e,w6]at hi;cases hi
   have d7:(S2.del i) io=some (.cells [d0]):=by simp only[Sig.del,eU,bc];exact fp
   have hL:DH p=none:=by
    cases hL:DH p with
    |none=>rfl
    |some s=>rw[hL]at h;exact absurd h.1 j1
   rw[hL]
   try refine gf d7 ?_ [] [4]
   refine kM (U':=O) ?_ (hZ:=?_)
   ·exact⟨⟨_,rfl,fun s' h=>by cases h⟩,rfl⟩
   ·intro j o hj;have e1:j≠io:=fun e=>by rw[e,d6]at hj;cases hj
    have e2:=hK j o (by rw[w7 _ _ (fun e=>by rw[e]at hj;rw[w7 _ _ (cg eU),hj]at hi;cases hi),w7 _ _ e1];exact hj) e1;simp only[Sig.del];rw[aE (fun e=>by rw[e]at hj;rw[w7 _ _ (cg eU),hj]at hi;cases hi)];exact e2
 ·obtain⟨i,S2,hi,rfl,hr⟩:=hr;rcases hr with⟨e,_,h2⟩|⟨_,h2⟩<;>cases h2
def Gl{a b:eO}(h:WkL a b):WkD (.agg a) (.agg b):=fun _ _ ⟨vs,e,hr⟩=>⟨vs,e,h.rep hr⟩
def Ff{a b:eO}(h:WkL a b):WkD (.tup a) (.tup b):=fun _ _ ⟨vs,e,hr⟩=>⟨vs,e,h.rep hr⟩
def okP(p:aw):Bool:=(DH p).isSome
def BT{p:aw}(h:okP p=true):Am p=true:=by
 unfold okP DH at h;cases hc:Am p
 ·rw[hc]at h;simp at h
 ·rfl
def WR(p:aw)(O:Sig)(hp:p.wt<=1073741824:=by exact sd):ar prog 59 [.agg (A7 p)] O (rS (dI (if okP p then 0 else 2)) O):=by
 refine en func59 ntmps59 ?_
 try refine gz ?_
 refine A3 (QV p O hp) (fun d U' hr=>?_) (fun d U' hr=>by obtain⟨⟨_,h,_⟩,_⟩:=hr;cases h);obtain⟨⟨d,h1,h2⟩,h3⟩:=hr;simp only[DE.ret.injEq]at h1;subst h1;rw[h3];cases hk:okP p<;>unfold okP at hk<;>rw[hk]
 ·try refine gz ?_
  exact fe1 trivial
 ·try refine gz ?_
  exact fe1 trivial
@[reducible,instance] def a59:=fun p O=>ah1 (@WR p O)
def Un(p:aw)(c:Int)(O:Sig)(hp:p.wt<=1073741824:=by exact sd):ar prog 172 [.agg (A7 p),dI c] O (rS (.bool (jT p c&&okP p)) O):=by
 obtain⟨p1,p2,p3,p4,p5,p6,p7⟩:=p.wt_le;refine en func172 ntmps172 ?_;cases hk:okP p
 ·repeat' first|refine gf hk ?_|apply gy<;>intro hh
  any_goals (first|(refine fin1 (U':=O) ?_;exact⟨by first|rfl|(simp[jT];done)|(simp_all [jT];done)|(rw[Ae,aR];simp_all [jT]<;>omega),rfl⟩)|fail)
 ·repeat' first|refine gf hk ?_|apply gy<;>intro hh
  any_goals (first|(refine fin1 (U':=O) ?_;exact⟨by first|rfl|(simp[jT];done)|(simp_all [jT];done)|(rw[Ae,aR];simp_all [jT]<;>omega),rfl⟩)|fail)
@[reducible,instance] def a172:=fun p c O=>ah1 (@Un p c O)
def UY(p:aw)(c:Int)(O:Sig)(hp:p.wt<=1073741824:=by exact sd):ar prog 101 [.agg (A7 p),dI c] O (rS (.tup [sl (cI (if jT p c&&okP p then hasP p c else [])),dI (if jT p c&&okP p then 0 else 2)]) O):=by
 refine en func101 ntmps101 ?_;cases hk:jT p c&&okP p
 ·try refine gf hk ?_
  exact fe2 (d':=sl []) trivial
 ·have ho:3<=c/\c<3+p.aa.length:=by simp only[jT,aF,aH]at hk;exact hk.1
  obtain⟨h1,h2⟩:=ho
  try refine gf hk ?_
  exact fe2 trivial
@[reducible,instance] def a101:=fun p c O=>ah1 (@UY p c O)
def l6(s:eP):Prop:= ∀x∈s,x = -1\/0<=x
def l6.set{s:eP}(h:l6 s)(n:Nat){v:Int}(hv:0<=v):l6 (s.set n v):=fun x hx=>by
 rcases List.mem_or_eq_of_mem_set hx with hx|rfl
 ·exact h x hx
 ·exact .inr hv
def lB{f:Int->Int->eP->Bool×eP}{x:ay}{size:Int}(hf:∀c z s,0<=z->l6 s->l6 (f c z s).2)(hz:0<=size): ∀(l:eP) (j:Nat) (s:eP),l6 s->l6 (Bi f x size j l s).2
 |[],_,_,h=>h
 |c::r,j,s,h=>by
  rw[Bi];have h1:=hf c (if x.op=9/\j=1 then size+1 else size) s (by split<;>omega) h;split
  ·rename_i s' e;rw[e]at h1;exact h1
  ·rename_i s' e;rw[e]at h1;exact lB hf hz r _ _ h1
def Ha(p:aw)(inM:Bool): ∀(k:Nat) (node size:Int) (s:eP),0<=size->l6 s->l6 (BF p inM k node size s).2
 |0,_,_,_,_,h=>h
 | k+1,node,size,s,hz,h=>by
  rw[BF];split
  ·exact h
  ·split
   ·exact h.set _ hz
   ·exact lB (fun c z s hz hs=>Ha p inM k c z s hz hs) hz _ _ _ (h.set _ hz)
def IA(p:aw)(hF:∀f,Eu (AG p) f=Ev (AG p) f): ∀(l:List jy) (s:eP),CT p l s=optW (CW p l s)
 |[],s=>rfl
 | m::r,s=>by
  have hm:H0 p m=FF p m:=by unfold H0 FF;rw[hF]
  rw[CT,CW,hm];split
  ·cases hw:BF p (decide (m.kind=1)||decide (m.kind=4)) 12 m.node (p.ai.getD m.gen.toNat 0) s with
   |mk b s'=>cases b with
    |false=>rfl
    |true=>simp only[optW];exact IA p hF r s'
  ·rfl
def lA(p:aw)(hg:∀g∈p.ai,1<=g): ∀(l:List jy) (s s':eP),CT p l s=some s'->l6 s->l6 s'
 |[],s,s',h,hs=>by rw[CT]at h;cases h;exact hs
 | m::r,s,s',h,hs=>by
  rw[CT]at h;split at h
  ·rename_i hm
   have h0:0<=p.ai.getD m.gen.toNat 0:=by
    rw[aQ];cases fi:p.ai[m.gen.toNat]? with
    |none=>simp
    |some g=>have:=hg g (cJ fi);simp only[ba];omega
   have he:=Ha p (decide (m.kind=1)||decide (m.kind=4)) 12 m.node (p.ai.getD m.gen.toNat 0) s h0 hs;cases hw:BF p (decide (m.kind=1)||decide (m.kind=4)) 12 m.node (p.ai.getD m.gen.toNat 0) s with
   |mk b s1=>
    rw[hw]at h he;cases b with
    |false=>simp[optW]at h
    |true=>simp only[optW]at h;exact lA p hg r s1 s' h he
  ·cases h
def look_eq(p:aw)(hC:Am p=AM p)(hF:∀f,Eu (AG p) f=Ev (AG p) f):DH p=Fo p:=by
 have hh:(Am p&&(decide (p.ai.length<=8)&&decide (p.j9.length<=16)&&decide (1<=p.jJ.length)&&decide (p.jJ.length<=120)))=L6 p:=by unfold L6;rw[hC];simp only[Bool.and_assoc]
 unfold DH Fo;rw[hh];split
 ·rename_i hc;simp only[aF,aW,aH]at hc;have eV:=lA p (fun g hg=>(hc.2 g hg).1) p.j9 (List.replicate p.jJ.length (-1));have fh:=IA p hF p.j9 (List.replicate p.jJ.length (-1));rw[fh]at eV⊢;cases hm:CW p p.j9 (List.replicate p.jJ.length (-1))with
  | mk b s =>
   rw[hm]at eV;cases b with
   |false=>rfl
   | true =>
    simp only[optW];have h1:=eV s rfl fun x hx=>.inl (cV hx);have h2:=Ha p false 12 p.jf 0 s (dQ _) h1;cases hw:BF p false 12 p.jf 0 s with
    | mk b s2 =>
     rw[hw]at h2;cases b with
     |false=>rfl
     | true =>
      simp only
      have e:(-1∈s2) = ¬(s2.all (fun n=>decide (0<=n))=true):=by
       simp only[aW,aH];refine propext ⟨fun h k=>by have:=k _ h;omega,fun h=>bN fun k=>h fun x hx=>?_⟩;rcases h2 x hx with rfl|h
       ·exact absurd hx k
       ·exact h
      by_cases hs:s2.all (fun n=>decide (0<=n))=true
      ·rw[aG hs,aE (by rw[e];exact fun k=>k hs)]
      ·rw[aE hs,aG (by rw[e];exact hs)]
 ·rfl
def InR(n:Int)(k:Nat):Prop:=0<=n/\n<k
def cntB(p:aw):Nat->Int->Nat
 |0,_=>1
 |k+1,node=>1+wtL (cntB p k) (Ad p node).ag
def negS(s:eP):Nat:=s.countP (· < 0)
def P7: ∀(s:eP) (n:Nat) (v:Int),n<s.length->s.getD n 0<0->0<=v->negS (s.set n v)+1=negS s
 |[],n,v,h,_,_=>by simp at h
 |x::r,0,v,_,h,hv=>by
  have hx:x<0:=h;simp only[dN,negS,List.countP_cons,hx,eD,bu];rw[aE (by simpa using hv)]
 |x::r,n+1,v,hl,h,hv=>by
  have:=P7 r n v (by simpa using hl) (by simpa using h) hv;simp only[negS]at this;simp only[dE,negS,List.countP_cons];omega
def Is{p:aw}{k:Nat}{f:Int->Int->eP->Bool×eP}{x:ay}{size:Int}
  (hf:∀c z s s',f c z s=(true,s')->s.length=p.jJ.length->0<=z->s'.length=s.length/\cntB p k c+negS s'=negS s) (hz:0<=size) :
  ∀(l:eP) (j:Nat) (s s':eP),Bi f x size j l s=(true,s')->s.length=p.jJ.length->s'.length=s.length/\wtL (cntB p k) l+negS s'=negS s
 |[],j,s,s',h,hs=>by
  rw[Bi]at h;cases h;exact⟨rfl,by rw[wtL];omega⟩
 | c::r,j,s,s',h,hs=>by
  rw[Bi]at h;cases hc:f c (if x.op=9/\j=1 then size+1 else size) s with
  | mk b s1 =>
   rw[hc]at h;cases b with
   |false=>simp at h
   |true=>
    obtain⟨h2,h3⟩:=hf _ _ _ _ hc hs (by split<;>omega);obtain⟨h5,h6⟩:=Is hf hz r (j+1) s1 s' h j0;exact⟨j0,by rw[wtL];omega⟩
def J6(p:aw)(inM:Bool): ∀(k:Nat) (node size:Int) (s s':eP),BF p inM k node size s=(true,s')->s.length=p.jJ.length->0<=size->s'.length=s.length/\cntB p k node+negS s'=negS s
 |0,_,_,_,_,h,_,_=>by simp[BF]at h
 | k+1,node,size,s,s',h,hs,hz=>by
  rw[BF]at h;split at h
  ·simp at h
  ·rename_i h1;split at h
   ·simp at h
   ·rename_i h2;obtain⟨h5,h6⟩:=Is (J6 p inM k) hz (Ad p node).ag 0 _ s' h (by simpa using hs);have hn:node.toNat<s.length:=by omega
    have h7:=P7 s node.toNat size hn j0 hz;exact⟨by rw[h5,bP],by rw[cntB];omega⟩
def KR(p:aw): ∀(l:List jy) (s s':eP),CT p l s=some s'->s.length=p.jJ.length->(∀m∈l,0<=p.ai.getD m.gen.toNat 0)->
  s'.length=s.length/\wtL (fun m:jy=>cntB p 12 m.node) l+negS s'=negS s
 |[],s,s',h,hs,_=>by rw[CT]at h;cases h;exact⟨rfl,by rw[wtL];omega⟩
 | m::r,s,s',h,hs,hg=>by
  rw[CT]at h;split at h
  ·cases hw:BF p (decide (m.kind=1)||decide (m.kind=4)) 12 m.node (p.ai.getD m.gen.toNat 0) s with
   | mk b s1 =>
    rw[hw]at h;cases b with
    |false=>simp[optW]at h
    |true=>
     simp only[optW]at h;obtain⟨h1,h2⟩:=J6 p _ _ _ _ _ _ hw hs (hg m j1);obtain⟨h3,h4⟩:=KR p r s1 s' h j0 fun x hx=>hg x (by simp[hx])
     exact⟨j0,by rw[wtL];omega⟩
  ·cases h
def Wb(n:Nat):negS (List.replicate n (-1))=n:=by
 unfold negS;rw[List.countP_replicate];simp
def S9: ∀s:eP,l6 s-> -1∉s->negS s=0:=fun s h hn=>by
 unfold negS;rw[List.countP_eq_zero];intro x hx;have h1:=h x hx;have h2:x ≠ -1:=fun e=>hn (e ▸ hx);simp only[aH];omega
def Wo{p:aw}(h:okP p=true):wtL (fun m:jy=>cntB p 12 m.node) p.j9+cntB p 12 p.jf=p.jJ.length:=by
 unfold okP DH at h;split at h
 ·rename_i hc;simp only[aF,aH,aW]at hc;obtain⟨_,hg⟩:=hc
  have fj:∀n:Nat,0<=p.ai.getD n 0:=fun n=>by
   rw[aQ]
   by_cases hl:n<p.ai.length
   ·rw[aD hl];have:=(hg _ (aK hl)).1;simp only[ba];omega
   ·rw[aX j0];simp
  cases hm:CT p p.j9 (List.replicate p.jJ.length (-1))with
  |none=>rw[hm]at h;simp at h
  | some s =>
   rw[hm]at h;obtain⟨k1,k2⟩:=KR p p.j9 _ s hm j1 fun m _=>fj _;rw[bY]at k1;rw[Wb]at k2;cases hw:BF p false 12 p.jf 0 s with
   | mk b s2 =>
    simp only[hw]at h;cases b with
    |false=>simp[optW]at h
    | true =>
     obtain⟨m1,m2⟩:=J6 p false 12 _ _ _ _ hw k1 (dQ _);have e1:=lA p (fun g hx=>(hg g hx).1) p.j9 _ s hm (fun x hx=>by rw[cV hx];simp[l6]<;>omega);have e2:=Ha p false 12 p.jf 0 s (dQ _) e1;rw[hw]at e2;simp only[optW]at h;split at h
     ·simp at h
     ·rename_i fy;have:=S9 s2 e2 fy;omega
 ·cases h
structure jI where
 op:Int
 a:Int
 deriving DecidableEq
structure jD where
 j6:List jI
 jG:eP
 jf:Int
structure jO where
 st:Int
 j7:Int
 deriving DecidableEq
def jh(x:ay)(i:Nat):Int:=(x.ag[i]?).getD 0
def cL(p:aw):Nat->Int->Nat
 |0,_=>0
 |k+1,n=>
  if(Ad p n).op=9 then cL p k (jh (Ad p n) 0)+(cL p k (jh (Ad p n) 1)+2)
  else if(Ad p n).op=11 then cL p k (jh (Ad p n) 0)+(cL p k (jh (Ad p n) 1)+1)
  else if(Ad p n).op=10 then cL p k (jh (Ad p n) 0)+(cL p k (jh (Ad p n) 1)+(cL p k (jh (Ad p n) 2)+2))
  else wtL (cL p k) (Ad p n).ag+1
def Vr(o:Int):Int:=if o=1 then 1 else if o=2 then 2 else if o=3 then 3 else if o=4 then 5 else if o=5 then 19 else if o=6 then 4 else if o=7 then 8 else if o=8 then 6 else if o=17 then 7 else if o=18 then 20 else o-3
def Kr(f:Int->Nat->List jI):eP->Nat->List jI
 |[],_=>[]
 |c::r,q=>f c q++Kr f r (q+(f c q).length)
def cN (p:aw):Nat->Int->Nat->List jI
 |0,_,_=>[]
 | k+1,n,q =>
  if(Ad p n).op=9 then cN p k (jh (Ad p n) 0) q++(⟨14,0⟩::(cN p k (jh (Ad p n) 1) (q+cL p k (jh (Ad p n) 0)+1)++[⟨15,0⟩]))
  else if(Ad p n).op=11 then cN p k (jh (Ad p n) 0) q++(⟨16,0⟩::cN p k (jh (Ad p n) 1) (q+cL p k (jh (Ad p n) 0)+1))
  else if(Ad p n).op=10 then
   cN p k (jh (Ad p n) 0) q++(⟨17,((q+cL p k (jh (Ad p n) 0)+1+cL p k (jh (Ad p n) 1)+1:Nat):Int)⟩::(cN p k (jh (Ad p n) 1) (q+cL p k (jh (Ad p n) 0)+1) ++
    (⟨18,((q+cL p k (jh (Ad p n) 0)+1+cL p k (jh (Ad p n) 1)+1+cL p k (jh (Ad p n) 2):Nat):Int)⟩::cN p k (jh (Ad p n) 2) (q+cL p k (jh (Ad p n) 0)+1+cL p k (jh (Ad p n) 1)+1))))
  else Kr (cN p k) (Ad p n).ag q++[⟨Vr (Ad p n).op,(Ad p n).n⟩]
def K6{f:Int->Nat->List jI}{g:Int->Nat}(h:∀c q,(f c q).length=g c): ∀(l:eP) (q:Nat),(Kr f l q).length=wtL g l
 |[],_=>by rw[Kr,wtL];rfl
 |c::r,q=>by rw[Kr,wtL,aC,h,K6 h r]
def PS(p:aw): ∀(k:Nat) (n:Int) (q:Nat),(cN p k n q).length=cL p k n
 |0,_,_=>by rw[cN,cL];rfl
 | k+1,n,q=>by
  have ih:=PS p k;rw[cN,cL];split
  ·simp only[aC,aS,cu,ih]
  ·split
   ·simp only[aC,aS,ih]
   ·split
    ·simp only[aC,aS,ih];omega
    ·simp only[aC,aS,cu,K6 ih]
def trE(p:aw)(inM:Bool):Nat->Int->Nat->Prop
 |0,_,_=>False
 |k+1,n,size=>InR n p.jJ.length/\((Ad p n).ag.length:Int)=C4 p (Ad p n)/\Co p (Ad p n) size=true /\ ¬((Ad p n).op=18/\inM=false) /\
  ∀(j:Nat) (h:j<(Ad p n).ag.length),trE p inM k ((Ad p n).ag[j]) (if(Ad p n).op=9/\j=1 then size+1 else size)
def J5{p:aw}{inM:Bool}{k:Nat}{f:Int->Int->eP->Bool×eP}{x:ay}{size:Nat}(hf:∀c (z:Nat) s s',f c z s=(true,s')->trE p inM k c z):
  ∀(l:eP) (i:Nat) (s s':eP),Bi f x size i l s=(true,s')->∀(j:Nat) (h:j<l.length),trE p inM k l[j] (if x.op=9/\i+j=1 then size+1 else size)
 |[],_,_,_,_,j,h=>by simp at h
 | c::r,i,s,s',h,j,hj=>by
  rw[Bi]at h;cases hc:f c (if x.op=9/\i=1 then(size:Int)+1 else size) s with
  | mk b s1 =>
   rw[hc]at h;cases b with
   |false=>simp at h
   | true =>
    cases j with
    |zero=>
     rw[dY,dM]
     by_cases e:x.op=9/\i=1
     ·rw[aG e]at hc⊢; exact hf c (size+1) _ _ hc
     ·rw[aE e]at hc⊢; exact hf c size _ _ hc
    |succ j=>
     have:=J5 hf r (i+1) s1 s' h j (by simpa using hj);rw[show i+1+j=i+(j+1) by omega]at this;simpa using this
def LF(p:aw)(inM:Bool): ∀(k:Nat) (n:Int) (size:Nat) (s s':eP),BF p inM k n size s=(true,s')->trE p inM k n size
 |0,_,_,_,_,h=>by simp[BF]at h
 | k+1,n,size,s,s',h=>by
  rw[BF]at h;split at h
  ·simp at h
  ·rename_i h1;split at h
   ·simp at h
   ·rename_i h2;refine⟨⟨j0,j0⟩,bN fun e=>h2 (.inl e),?_,fun e=>h2 (.inr (.inr e)),fun j hj=>?_⟩
    ·cases hn:Co p (Ad p n) size with
     |true=>rfl
     |false=>exact absurd (.inr (.inl hn)) h2
    ·have:=J5 (fun c z s s' h=>LF p inM k c z s s' h) _ 0 _ _ h j hj;rw[co]at this;exact this
def tr_op{p:aw}{inM:Bool}{k:Nat}{n:Int}{size:Nat}(h:trE p inM (k+1) n size):1<=(Ad p n).op/\(Ad p n).op<=18:=by
 obtain⟨_,h2,_⟩:=h;unfold C4 IJ at h2
 by_cases hh:1<=(Ad p n).op/\(Ad p n).op<=18
 ·exact hh
 ·exfalso
  rw[aE j0,aE j0,aE j0,aE j0]at h2;simp only at h2;rw[aE j0]at h2;omega
def LH{p:aw}{inM:Bool}{k:Nat}{n:Int}{size:Nat}(h:trE p inM (k+1) n size){m:Nat}(hm:IJ (Ad p n).op=some (m:Int)):(Ad p n).ag.length=m:=by
 obtain⟨_,h2,_⟩:=h;unfold C4 at h2;rw[hm]at h2;simp only at h2;omega
def Oo{x:ay}{i:Nat}(h:i<x.ag.length):jh x i=x.ag[i]:=by unfold jh;rw[aD h];rfl
def cL_le(p:aw): ∀(k:Nat) (n:Int) (inM:Bool) (size:Nat),trE p inM k n size->cL p k n+0<=2*cntB p k n
 |0,_,_,_,h=>h.elim
 | k+1,n,inM,size,h=>by
  have fL:=tr_op h;have hk:=h.2.2.2.2
  have fb:∀l:eP,(∀(j:Nat) (h:j<l.length),cL p k l[j]<=2*cntB p k l[j])->wtL (cL p k) l<=2*wtL (cntB p k) l:=fun l=>by
   induction l with
   |nil=>intro _;rw[wtL,wtL];omega
   |cons c r ih=>
    intro h;have h1:=h 0 j1;have h2:=ih fun j hj=>by have:=h (j+1) (by simpa using hj);simpa using this
    rw[dY]at h1;rw[wtL,wtL];omega
  have b8:∀(j:Nat) (h:j<(Ad p n).ag.length),cL p k (Ad p n).ag[j]<=2*cntB p k (Ad p n).ag[j]:=fun j hj=>cL_le p k _ _ _ (hk j hj);have hs:=fb _ b8;rw[cL,cntB]
  have two:∀m:Nat,(Ad p n).ag.length=m->m=2->wtL (cntB p k) (Ad p n).ag=cntB p k (jh (Ad p n) 0)+cntB p k (jh (Ad p n) 1):=fun m h1 h2=>by
   match hh:(Ad p n).ag with
   |[a,b]=>unfold jh;rw[hh];simp[wtL]
   |[]=>rw[hh]at h1;simp at h1;omega
   |[_]=>rw[hh]at h1;simp at h1;omega
   |_::_::_::_=>rw[hh]at h1;simp at h1;omega
  split
  ·rename_i h9;have hl:(Ad p n).ag.length=2:=LH h (by rw[h9];rfl);have:=two 2 hl rfl;have a1:=b8 0 j0;have a2:=b8 1 j0;rw[<-Oo]at a1 a2;omega
  ·split
   ·rename_i fH;have hl:(Ad p n).ag.length=2:=LH h (by rw[fH];rfl);have:=two 2 hl rfl;have a1:=b8 0 j0;have a2:=b8 1 j0;rw[<-Oo]at a1 a2;omega
   ·split
    ·rename_i fu;have hl:(Ad p n).ag.length=3:=LH h (by rw[fu];rfl);have a1:=b8 0 j0;have a2:=b8 1 j0;have a3:=b8 2 j0;rw[<-Oo]at a1 a2 a3
     have:wtL (cntB p k) (Ad p n).ag=cntB p k (jh (Ad p n) 0)+(cntB p k (jh (Ad p n) 1)+cntB p k (jh (Ad p n) 2)):=by
      match hh:(Ad p n).ag with
      |[a,b,c]=>unfold jh;rw[hh];simp[wtL]
      |[]=>rw[hh]at hl;simp at hl
      |[_]=>rw[hh]at hl;simp at hl
      |[_,_]=>rw[hh]at hl;simp at hl
      |_::_::_::_::_=>rw[hh]at hl;simp at hl
     omega
    ·omega
def MQ(f:Int->Int->List jO):eP->Int->List jO
 |[],_=>[]
 |c::r,s=>f c s++MQ f r (s+1)
def lvN(p:aw):Nat->Int->Int->Int->List jO
 |0,_,_,_=>[]
 |k+1,n,s,e=>
  if(Ad p n).op=9 then lvN p k (jh (Ad p n) 0) s e++(⟨s+1,e⟩::(lvN p k (jh (Ad p n) 1) s (e+1)++[⟨s+1,e+1⟩]))
  else if(Ad p n).op=11 then lvN p k (jh (Ad p n) 0) s e++(⟨s+1,e⟩::lvN p k (jh (Ad p n) 1) s e)
  else if(Ad p n).op=10 then lvN p k (jh (Ad p n) 0) s e++(⟨s+1,e⟩::(lvN p k (jh (Ad p n) 1) s e++(⟨s+1,e⟩::lvN p k (jh (Ad p n) 2) s e)))
  else MQ (fun c s=>lvN p k c s e) (Ad p n).ag s++[⟨s+(Ad p n).ag.length,e⟩]
def Af(p:aw)(x:jI):Int×Int:=
 if x.op=1\/x.op=2\/x.op=3\/x.op=4\/x.op=20 then(0,1) else if x.op=5\/x.op=6\/x.op=7 then(1,1) else if x.op=14\/x.op=16\/x.op=17 then(1,0) else
 if x.op=19 then(p.ai.getD x.a.toNat 0,1) else if x.op=15\/x.op=18 then(0,0) else if x.op=21 then(1,0) else(2,1)
abbrev Met:=Nat->Option jO
def kQ(met:Met)(n:Nat)(l:jO):Met:=fun j=>if j=n then some l else met j
def AQ(N:Nat)(met:Met)(n:Int)(l:jO):Option Met:=
 if n<0\/(N:Int)<=n\/(met n.toNat≠none/\met n.toNat≠some l) then none else some (kQ met n.toNat l)
def Di(p:aw)(c:jD)(j7:Int)(next:Bool)(q:Nat)(x:jI)(l:jO)(met:Met):Option Met:=
 if l.st<(Af p x).1\/(x.op=3/\l.j7<=x.a)\/(x.op=15/\l.j7<=j7)\/(x.op=20/\next=false) then none
 else if x.op=21 then(if l.st=1/\l.j7=j7 then some met else none)
 else if x.op=14 then AQ c.j6.length met ((q:Int)+1) ⟨l.st-(Af p x).1+(Af p x).2,l.j7+1⟩
 else if x.op=15 then AQ c.j6.length met ((q:Int)+1) ⟨l.st-(Af p x).1+(Af p x).2,l.j7-1⟩
 else if x.op=18 then AQ c.j6.length met x.a ⟨l.st-(Af p x).1+(Af p x).2,l.j7⟩
 else if x.op=17 then(match AQ c.j6.length met x.a ⟨l.st-(Af p x).1+(Af p x).2,l.j7⟩with
  |none=>none
  |some m=>AQ c.j6.length m ((q:Int)+1) ⟨l.st-(Af p x).1+(Af p x).2,l.j7⟩)
 else AQ c.j6.length met ((q:Int)+1) ⟨l.st-(Af p x).1+(Af p x).2,l.j7⟩
def E2(p:aw)(c:jD)(j7:Int)(next:Bool):Nat->Nat->Met->Option Met
 |0,_,met=>some met
 | f+1,q,met=>match met q with
  |none=>E2 p c j7 next f (q+1) met
  |some l=>match Di p c j7 next q ((c.j6[q]?).getD ⟨0,0⟩) l met with
   |none=>none
   |some m=>E2 p c j7 next f (q+1) m
def KU{f:Int->Int->List jO}{g:Int->Nat}(h:∀c s,(f c s).length=g c): ∀(l:eP) (s:Int),(MQ f l s).length=wtL g l
 |[],_=>by rw[MQ,wtL];rfl
 |c::r,s=>by rw[MQ,wtL,aC,h,KU h r]
def SF(p:aw): ∀(k:Nat) (n s e:Int),(lvN p k n s e).length=cL p k n
 |0,_,_,_=>by rw[lvN,cL];rfl
 | k+1,n,s,e=>by
  have ih:=SF p k;rw[lvN,cL];split
  ·simp only[aC,aS,cu,ih]
  ·split
   ·simp only[aC,aS,ih]
   ·split
    ·simp only[aC,aS,ih];omega
    ·simp only[aC,aS,cu,KU (fun c s=>ih c s e)]
structure CSt where
 pos:Int
 j7:Int
 next:Bool
def wayM(p:aw)(c:jD)(s:CSt):Option Met:=
 if s.pos<0\/(c.j6.length:Int)<=s.pos then none else E2 p c s.j7 s.next (c.j6.length-s.pos.toNat) s.pos.toNat (kQ (fun _=>none) s.pos.toNat ⟨0,s.j7⟩)
def mrgM(N:Nat)(W w:Met):Option Met:=
 if(List.range N).all (fun k=>W k=none||w k=none||W k=w k) then some (fun k=>match w k with|none=>W k|some x=>some x) else none
def DU(p:aw)(c:jD):List CSt->Met->Option Met
 |[],W=>some W
 | s::r,W=>match wayM p c s with
  |none=>none
  |some w=>match mrgM c.j6.length W w with
   |none=>none
   |some V=>DU p c r V
def EW{N:Nat}{met m:Met}{n:Int}{l:jO}(h:AQ N met n l=some m)(hd:∀j,N<=j->met j=none): ∀j,N<=j->m j=none:=by
 unfold AQ at h;split at h
 ·cases h
 ·rename_i e;cases h;intro j hj;unfold kQ;rw[aE j0];exact hd j hj
def OV {p:aw} {c:jD} {j7:Int} {next:Bool} {q:Nat} {x:jI} {l:jO} {met m:Met} (h:Di p c j7 next q x l met=some m) (hd : ∀ j,c.j6.length<=j->met j=none) : ∀ j,c.j6.length<=j->m j=none:=by
 unfold Di at h;split at h
 ·cases h
 ·split at h
  ·split at h
   ·cases h;exact hd
   ·cases h
  ·split at h
   ·exact EW h hd
   ·split at h
    ·exact EW h hd
    ·split at h
     ·exact EW h hd
     ·split at h
      ·split at h
       ·cases h
       ·rename_i e;exact EW h (EW e hd)
      ·exact EW h hd
def LM{p:aw}{c:jD}{j7:Int}{next:Bool}: ∀(f q:Nat) (met m:Met),E2 p c j7 next f q met=some m->(∀j,c.j6.length<=j->met j=none)->∀j,c.j6.length<=j->m j=none
 |0,_,_,_,h,hd=>by cases h;exact hd
 | f+1,q,met,m,h,hd=>by
  rw[E2]at h;split at h
  ·exact LM f _ _ _ h hd
  ·split at h
   ·cases h
   ·rename_i e;exact LM f _ _ _ h (OV e hd)
def O4{p:aw}{c:jD}{s:CSt}{w:Met}(h:wayM p c s=some w): ∀j,c.j6.length<=j->w j=none:=by
 unfold wayM at h;split at h
 ·cases h
 ·exact LM _ _ _ _ h fun j hj=>by unfold kQ;rw[aE j0]
def Sf{N:Nat}{W w V:Met}(hw:∀j,N<=j->w j=none):mrgM N W w=some V ↔ (∀k a b,W k=some a->w k=some b->a=b)/\V=fun k=>match w k with|none=>W k|some x=>some x:=by
 unfold mrgM;constructor
 ·intro h;split at h
  ·rename_i e;cases h;refine⟨fun k a b ha hb=>?_,rfl⟩;have hk:k<N:=bN fun hn=>by rw[hw k j0]at hb;cases hb
   have:=aW.1 e k (dF.2 hk);simp only[ha,hb]at this;simpa using this
  ·cases h
 ·rintro⟨h,rfl⟩
  rw[aG];refine aW.2 fun k hk=>?_;cases ha:W k with
  |none=>simp
  |some a=>
   cases hb:w k with
   |none=>simp
   |some b=>simp[h k a b ha hb]
def Gv {p:aw} {c:jD} : ∀ (l:List CSt) (W V:Met),DU p c l W=some V ↔
  (∀k x,W k=some x->V k=some x)/\(∀s∈l, ∃w,wayM p c s=some w /\ ∀k x,w k=some x->V k=some x) /\
  (∀k x,V k=some x->W k=some x \/ ∃s∈l, ∃w,wayM p c s=some w/\w k=some x)
 | [],W,V=>by
  rw[DU];constructor
  ·intro h;cases h;exact⟨fun _ _ h=>h,fun _ h=>(dT h).elim,fun _ _ h=>.inl h⟩
  ·rintro⟨h1,_,h3⟩
   congr 1
   funext k
   cases e:V k with
   |some x=>
    rcases h3 k x e with h|⟨s,hs,_⟩
    ·exact h
    ·exact(dT hs).elim
   |none=>
    cases e2:W k with
    |none=>rfl
    |some x=>rw[h1 k x e2]at e;cases e
 | s::r,W,V=>by
  rw[DU];cases hw:wayM p c s with
  | none =>
   constructor
   ·intro h;cases h
   ·rintro⟨_,h,_⟩
    obtain⟨w,e,_⟩:=h s List.mem_cons_self;rw[hw]at e;cases e
  | some w =>
   simp only;have hd:=O4 hw;cases hm:mrgM c.j6.length W w with
   | none =>
    constructor
    ·intro h;cases h
    ·rintro⟨h1,h2,h3⟩
     obtain⟨w',e,e2⟩:=h2 s List.mem_cons_self;rw[hw]at e;cases e
     have:=(Sf (W:=W) (V:=fun k=>match w k with|none=>W k|some x=>some x) hd).2 ⟨fun k a b ha hb=>by
      have:=h1 k a ha;rw[e2 k b hb]at this;cases this;rfl,rfl⟩
     rw[hm]at this;cases this
   | some U =>
    obtain⟨m1,rfl⟩:=(Sf hd).1 hm;simp only;rw[Gv r _ V];constructor
    ·rintro⟨h1,h2,h3⟩
     refine⟨fun k x hk=>h1 k x ?_,fun t ht=>?_,fun k x hk=>?_⟩
     ·cases e:w k with
      |none=>exact hk
      |some b=>rw[m1 k x b hk e]
     ·rcases aY.1 ht with rfl|ht
      ·exact⟨w,hw,fun k x hk=>h1 k x (by simp only[hk])⟩
      ·exact h2 t ht
     ·rcases h3 k x hk with h|⟨t,ht,h⟩
      ·cases e:w k with
       |none=>rw[e]at h;exact .inl h
       |some b=>rw[e]at h;cases h;exact .inr ⟨s,List.mem_cons_self,w,hw,e⟩
      ·exact .inr ⟨t,cd _ ht,h⟩
    ·rintro⟨h1,h2,h3⟩
     obtain⟨w',e,e2⟩:=h2 s List.mem_cons_self;rw[hw]at e;cases e;refine⟨fun k x hk=>?_,fun t ht=>h2 t (cd _ ht),fun k x hk=>?_⟩
     ·cases e:w k with
      |none=>rw[e]at hk;exact h1 k x hk
      |some b=>rw[e]at hk;cases hk;exact e2 k _ e
     ·rcases h3 k x hk with h|⟨t,ht,w',fa,fo⟩
      ·left
       cases e:w k with
       |none=>exact h
       |some b=>rw[m1 k x b h e]
      ·rcases aY.1 ht with rfl|ht
       ·rw[hw]at fa;cases fa
        left;simp only[fo]
       ·exact .inr ⟨t,ht,w',fa,fo⟩
def SK{p:aw}{c:jD}{l m:List CSt}(h:∀s,s∈l ↔ s∈m)(W:Met):DU p c l W=DU p c m W:=by
 have key:∀V,DU p c l W=some V ↔ DU p c m W=some V:=fun V=>by
  rw[Gv,Gv];simp only[h]
 cases e:DU p c l W with
 |some V=>exact((key V).1 e).symm
 |none=>
  cases e2:DU p c m W with
  |none=>rfl
  |some V=>rw[(key V).2 e2]at e;cases e
def EA(p:aw)(c:jD)(l:List CSt):Option (List jO):=
 match DU p c l (fun _=>none)with
 |none=>none
 |some W=>if(List.range c.j6.length).all (fun k=>(W k).isSome) then some ((List.range c.j6.length).map fun k=>(W k).getD ⟨0,0⟩) else none
def Qv{p:aw}{c:jD}{l m:List CSt}(h:∀s,s∈l ↔ s∈m):EA p c l=EA p c m:=by unfold EA;rw[SK h]
structure CBody where
 node:Int
 size:Nat
 next:Bool
def kr(p:aw)(k:Nat)(n:Int)(q:Nat):List jI:=cN p k n q++[⟨21,0⟩]
def Ca(p:aw)(k:Nat):List CBody->Nat->List jI
 |[],_=>[]
 |b::r,q=>kr p k b.node q++Ca p k r (q+(cL p k b.node+1))
def I2(p:aw)(k:Nat):List CBody->Nat->List CSt
 |[],_=>[]
 |b::r,q=>⟨q,b.size,b.next⟩::I2 p k r (q+(cL p k b.node+1))
def SG(p:aw)(k:Nat)(b:CBody):List jO:=lvN p k b.node 0 b.size++[⟨1,b.size⟩]
def Qs(p:aw)(k:Nat):List CBody->List jO
 |[]=>[]
 |b::r=>SG p k b++Qs p k r
def Fb(p:aw)(k:Nat)(n:Int)(q:Nat):(kr p k n q).length=cL p k n+1:=by unfold kr;rw[aC,PS];rfl
def KV(p:aw)(k:Nat)(b:CBody):(SG p k b).length=cL p k b.node+1:=by unfold SG;rw[aC,SF];rfl
def MS(p:aw)(k:Nat): ∀(l:List CBody) (q:Nat),(Ca p k l q).length=(Qs p k l).length
 |[],_=>rfl
 |b::r,q=>by rw[Ca,Qs,aC,aC,Fb,KV,MS p k r]
def Ph(p:aw)(k:Nat): ∀(l:List CBody),(∀b∈l,trE p b.next k b.node b.size)->(Qs p k l).length<=2*wtL (fun b=>cntB p k b) (l.map (·.node))+l.length
 |[],_=>by rw[Qs];simp
 |b::r,h=>by
  have:=Ph p k r fun x hx=>h x (cd _ hx);have:=cL_le p k b.node b.next b.size (h b List.mem_cons_self);rw[Qs,aC,KV,bd,wtL,aS];omega
def Kf(m:jy):Bool:=decide (m.kind=1)||decide (m.kind=4)
def BN(p:aw):List CBody:=p.j9.map fun m=>⟨m.node,(p.ai.getD m.gen.toNat 0).toNat,Kf m⟩
def bodsP(p:aw):List CBody:=BN p++[⟨p.jf,0,false⟩]
def Pe(p:aw)(hg:∀n:Nat,0<=p.ai.getD n 0): ∀(l:List jy) (s s':eP),CT p l s=some s'->∀m∈l,trE p (Kf m) 12 m.node (p.ai.getD m.gen.toNat 0).toNat
 |[],_,_,_,m,hm=>by cases hm
 | a::r,s,s',h,m,hm=>by
  rw[CT]at h;split at h
  ·cases hw:BF p (decide (a.kind=1)||decide (a.kind=4)) 12 a.node (p.ai.getD a.gen.toNat 0) s with
   | mk b s1 =>
    rw[hw]at h;cases b with
    |false=>simp[optW]at h
    | true =>
     simp only[optW]at h;rcases aY.1 hm with rfl|hm
     ·have h0:=hg m.gen.toNat
      refine LF p (Kf m) 12 m.node _ s s1 ?_;rw[show(((p.ai.getD m.gen.toNat 0).toNat:Nat):Int)=p.ai.getD m.gen.toNat 0 by omega];exact hw
     ·exact Pe p hg r _ _ h m hm
  ·cases h
def Gw{p:aw}(h:okP p=true):(∀g∈p.ai,1<=g/\g<=3)/\p.ai.length<=8/\p.j9.length<=16/\1<=p.jJ.length/\p.jJ.length<=120:=by
 unfold okP DH at h;split at h
 ·rename_i hc;simp only[aF,aH,aW]at hc;exact⟨hc.2,j0,j0,j0,j0⟩
 ·cases h
def DY{p:aw}(h:okP p=true)(n:Nat):0<=p.ai.getD n 0/\p.ai.getD n 0<=3:=by
 have hg:=(Gw h).1;rw[aQ]
 by_cases hl:n<p.ai.length
 ·rw[aD hl];have:=hg _ (aK hl);simp only[ba];omega
 ·rw[aX j0];simp
def VC{p:aw}(h:okP p=true): ∀b∈bodsP p,trE p b.next 12 b.node b.size:=by
 have fj:=fun n=>(DY h n).1;unfold okP DH at h;split at h
 ·cases hm:CT p p.j9 (List.replicate p.jJ.length (-1))with
  |none=>rw[hm]at h;simp at h
  | some s =>
   rw[hm]at h;cases hw:BF p false 12 p.jf 0 s with
   | mk b s2 =>
    simp only[hw]at h;cases b with
    |false=>simp[optW]at h
    | true =>
     intro b hb;unfold bodsP BN at hb;rcases bJ.1 hb with hb|hb
     ·obtain⟨m,fB,rfl⟩:=aZ.1 hb;exact Pe p fj _ _ _ hm m fB
     ·rw[bC]at hb;rw[hb];exact LF p false 12 p.jf 0 s s2 hw
 ·cases h
def Kt{α}(f:α->Nat): ∀a b:List α,wtL f (a++b)=wtL f a+wtL f b
 |[],b=>by rw[bG,wtL,co]
 |x::r,b=>by rw[bH,wtL,wtL,Kt f r b,cT]
def OK{α β}(f:β->Nat)(g:α->β): ∀a:List α,wtL f (a.map g)=wtL (fun x=>f (g x)) a
 |[]=>by rw[bX,wtL,wtL]
 |x::r=>by rw[bd,wtL,wtL,OK f g r]
def XG{p:aw}(h:okP p=true):wtL (fun b=>cntB p 12 b) ((bodsP p).map (·.node))=p.jJ.length:=by
 rw[<-Wo h];unfold bodsP BN;rw[bz,Kt,dh,OK];simp only[bd,bX,wtL,dM];rfl
def MN(p:aw):Nat:=(Ca p 12 (BN p) 0).length
def Ij(p:aw):jD:=⟨Ca p 12 (BN p) 0++kr p 12 p.jf (MN p),(I2 p 12 (BN p) 0).map (·.pos),(MN p:Int)⟩
def De(p:aw)(m:jy)(n:Int):CSt:=⟨n,p.ai.getD m.gen.toNat 0,Kf m⟩
def stsP(p:aw)(c:jD):List CSt:=List.zipWith (De p) p.j9 c.jG++[⟨c.jf,0,false⟩]
def GS(p:aw)(k:Nat): ∀(l m:List CBody) (q:Nat),Ca p k (l++m) q=Ca p k l q++Ca p k m (q+(Ca p k l q).length)
 |[],m,q=>by rw[bG,Ca];rfl
 |b::r,m,q=>by
  rw[bH,Ca,Ca,GS p k r m,aO,aC,Fb,cT,cT]
def Vq(p:aw):(Ij p).j6=Ca p 12 (bodsP p) 0:=by
 unfold Ij bodsP;rw[GS,co];simp only[Ca,bl];rfl
def XA{p:aw}(h:okP p=true):(Ij p).j6.length<=2*p.jJ.length+p.j9.length+1:=by
 have:=Ph p 12 (bodsP p) (VC h);rw[XG h]at this;rw[Vq,MS];have e:(bodsP p).length=p.j9.length+1:=by unfold bodsP BN;rw[aC,aN];rfl
 omega
def kH(p:aw)(N:Nat)(q:Nat)(x:jI):Bool:=
 if x.op=1 then inB x.a else if x.op=3 then decide (0<=x.a) else if x.op=4\/x.op=6 then decide (3<=x.a/\x.a<3+p.aa.length) else if x.op=5\/x.op=8 then decide (0<=x.a/\x.a<p.ac) else
 if x.op=17\/x.op=18 then decide ((q:Int)<x.a/\x.a<N) else if x.op=19 then decide (0<=x.a/\x.a<p.ai.length) else decide (1<=x.op/\x.op<=21/\x.a=0)
def sumB:List UInt8->UInt8->UInt8
 |[],n=>n
 |c::r,n=>sumB r (3*n+c+1)
def hiB:Nat->Nat->List UInt8
 |0,_=>[]
 |k+1,n=>if n=0 then [] else hiB k (n / 128)++[UInt8.ofNat (128+n % 128)]
def kF(n:Nat):List UInt8:=hiB 10 (n / 128)++[UInt8.ofNat (n % 128)]
def SZ(n:Int):Nat:=if n<0 then(-2*n-1).toNat else(2*n).toNat
def hasA(op:Int):Bool:=decide (op=1\/op=3\/op=4\/op=5\/op=6\/op=8\/op=17\/op=18\/op=19)
def insB(x:jI):List UInt8:=UInt8.ofNat x.op.toNat::(if hasA x.op then kF (SZ x.a) else [])
def listB{α}(f:α->List UInt8):List α->List UInt8
 |[]=>[]
 |x::r=>f x++listB f r
def rawB(c:jD):List UInt8:=199::(kF c.jG.length++(listB (fun n:Int=>kF n.toNat) c.jG++(kF c.jf.toNat++(kF c.j6.length++listB insB c.j6))))
def Kb(c:jD):List UInt8:=rawB c++[sumB (rawB c) 0]
def farN(n:Int):Bool:=decide (0<=n/\n<=1000000000)
def FC(x:jI):Bool:=decide (1<=x.op/\x.op<=21)&&(if hasA x.op then(if x.op=1 then inB x.a else farN x.a) else decide (x.a=0))
def EX(c:jD):Bool:=decide (c.j6.length<=300)&&(decide (c.jG.length<=16)&&(farN c.jf&&(c.jG.all farN&&c.j6.all FC)))
def OR{n:Nat}(h:n<256):(UInt8.ofNat n).toNat=n:=by
 rw[UInt8.toNat_ofNat'];omega
def SV: ∀k n,(hiB k n).length<=k
 |0,n=>by rw[hiB];simp
 | k+1,n=>by
  rw[hiB];split
  ·simp
  ·have:=SV k (n / 128);rw[aC,aT];omega
def Ps: ∀k n,n<128 ^ k->∀j,k<=j->hiB j n=hiB k n
 |0,n,hn,j,_=>by
  have h0:n=0:=by simpa using hn
  subst h0;cases j<;>rfl
 |k+1,n,hn,j,hj=>by
  obtain⟨i,rfl⟩:∃i,j=i+1:=⟨j-1,j0⟩;rw[hiB,hiB];split
  ·rfl
  ·rw[Ps k (n / 128) (Nat.div_lt_of_lt_mul (by rw[Nat.pow_succ]at hn;omega)) i j0]
def ko:eN:=[[105,110,116],[110,111,110,101],[110,97,109,101],[110,101,119],[115,108,111,116],[116,117,114,110],[111,117,116],[115,101,116],[97,100,100],[115,117,98],[109,117,108],[108,101,115,115],[115,97,109,101],[108,101,116],[100,114,111,112],[112,111,112],[122,101,114,111],[106,117,109,112],[99,97,108,108],[110,101,120,116],[101,110,100]]
def VG(op:Int):Str:=(ko[(op-1).toNat]?).getD []
def GJ(x:jI):Str:=VG x.op++(if hasA x.op then 32::Lib.itoa x.a else [])
def Qz(c:jD):Str:=listB (fun n=>Lib.itoa n++[32]) c.jG++58::32::Lib.itoa c.jf
def Mr(c:jD):Str:=listB (fun l=>l++[10]) (Qz c::c.j6.map GJ)
def Eb: ∀(k u:Nat),u<10 ^ (k+1)->(Lib.decDigits u).length<=k+1
 |0,u,h=>by rw[Lib.decDigits,dif_pos j0];simp
 | k+1,u,h=>by
  rw[Lib.decDigits];split
  ·simp
  ·have:=Eb k (u / 10) (Nat.div_lt_of_lt_mul (by rw[Nat.pow_succ]at h;omega));rw[aC,aT];omega
def LZ{n:Int}(h:farN n=true):(Lib.itoa n).length<=10:=by
 unfold farN at h;simp only[aH]at h;unfold Lib.itoa;rw[aE j0];exact Eb 9 _ j0
def SQ{n:Int}(h : -1000000000<=n/\n<=1000000000):(Lib.itoa n).length<=11:=by
 unfold Lib.itoa;split
 ·have:=Eb 9 n.natAbs j0;rw[aS];omega
 ·have:=Eb 9 n.toNat j0;omega
def Hy{α}{f:α->List UInt8}{m:Nat}: ∀(l:List α),(∀x∈l,(f x).length<=m)->(listB f l).length<=m*l.length
 |[],_=>by rw[listB];simp
 |x::r,h=>by
  have h1:=h x List.mem_cons_self;have h2:=Hy r fun y hy=>h y (cd _ hy);rw[listB,aC,aS,Nat.mul_succ];omega
def Rq: ∀k:Nat,k<21->((ko[k]?).getD []).length<=4/\(k=0->((ko[k]?).getD []).length=3):=by decide
def Pj{x:jI}(h:FC x=true):(GJ x).length<=15:=by
 unfold FC at h;rw[aF]at h;obtain⟨h1,h2⟩:=h;simp only[aH]at h1;obtain⟨w1,w2⟩:=Rq (x.op-1).toNat j0;unfold GJ VG;rw[aC];cases e:hasA x.op with
 |false=>rw[aE j1,cu];omega
 | true =>
  rw[e,aG rfl]at h2;rw[aG rfl,aS];split at h2
  ·rename_i e1;have:=w2 j0;unfold inB at h2;have:=SQ (n:=x.a) (by simpa[aF,aH] using h2);omega
  ·have:=LZ h2;omega
def VN{c:jD}(h:EX c=true):(Mr c).length<=5000:=by
 unfold EX at h;simp only[aF,aH,aW]at h;obtain⟨h1,h2,h3,h4,h5⟩:=h
 have a:=Hy (f:=fun n=>Lib.itoa n++[32]) (m:=11) c.jG fun n hn=>by
  have:=LZ (h4 n hn);rw[aC,aT];omega
 have b:=Hy (f:=fun l:Str=>l++[(10:UInt8)]) (m:=16) (c.j6.map GJ) fun l hl=>by
  obtain⟨x,hx,rfl⟩:=aZ.1 hl;have:=Pj (h5 x hx);rw[aC,aT];omega
 have d:=LZ h3;rw[aN]at b;unfold Mr Qz;rw[listB,aC,aC,aC,aS,aS,aT];omega
def IW{n:Nat}(h:n<128 ^ 5):(kF n).length<=5:=by
 unfold kF;rw[aC,aT,Ps 4 (n / 128) (Nat.div_lt_of_lt_mul j0) 10 j0];have:=SV 4 (n / 128);omega
def VA{c:jD}(h:EX c=true):(Kb c).length<=5000:=by
 unfold EX at h;simp only[aF,aH,aW]at h;obtain⟨h1,h2,h3,h4,h5⟩:=h
 have far:∀n:Int,farN n=true->(kF n.toNat).length<=5:=fun n hn=>by
  unfold farN at hn;simp only[aH]at hn;exact IW j0
 have a:=Hy (f:=fun n:Int=>kF n.toNat) (m:=5) c.jG fun n hn=>far n (h4 n hn)
 have b:=Hy (f:=insB) (m:=6) c.j6 fun x hx=>by
  have hp:=h5 x hx;unfold FC at hp;rw[aF]at hp;unfold insB;rw[aS];split
  ·rename_i e;have eX:=hp.2;rw[aG e]at eX
   have : -1000000000<=x.a/\x.a<=1000000000:=by
    split at eX
    ·unfold inB at eX;simpa[aF,aH] using eX
    ·unfold farN at eX;simp only[aH]at eX;omega
   have:=IW (n:=SZ x.a) (by unfold SZ;split<;>omega);omega
  ·simp
 have d1:=far _ h3;have d2:=IW (n:=c.jG.length) j0;have d3:=IW (n:=c.j6.length) j0;unfold Kb rawB;rw[aC,aS,aC,aC,aC,aC,aT];omega
def fitL(p:aw)(N:Nat)(q:Nat)(l:List jI):Prop:= ∀(i:Nat) (x:jI),l[i]? = some x->kH p N (q+i) x=true
section
variable {p:aw}{N:Nat}
theorem fit_nil(q:Nat):fitL p N q []:=fun i x h=>by simp at h
theorem WE{q r:Nat}{x:jI}{m:List jI}(h:kH p N q x=true)(hr:r=q+1)(k:fitL p N r m):fitL p N q (x::m):=fun i y hy=>by
 cases i with
 |zero=>simp only[eH,bE]at hy;rw[<-hy];exact h
 |succ i=>
  rw[du]at hy;have:=k i y hy;rw[hr,show q+1+i=q+(i+1) by omega]at this;exact this
end
def Dn(p:aw)(N:Nat):List jI->Nat->Bool
 |[],_=>true
 |x::r,q=>kH p N q x&&Dn p N r (q+1)
def Fc{p:aw}{N:Nat}: ∀(l:List jI) (q:Nat),Dn p N l q=true ↔ fitL p N q l
 |[],q=>by rw[Dn];exact⟨fun _=>fit_nil q,fun _=>rfl⟩
 | x::r,q=>by
  rw[Dn,aF,Fc r];constructor
  ·rintro⟨a,b⟩;exact WE a rfl b
  ·intro h;refine⟨by have:=h 0 x rfl;rwa [dM]at this,fun i y hy=>?_⟩;have:=h (i+1) y (by rw[du];exact hy);rw[show q+1+i=q+(i+1) by omega];exact this
def B6(p:aw)(c:jD):Option (List jO):=
 if okP p&&(decide (c.j6.length<=300)&&(decide (c.jG.length=p.j9.length)&&Dn p c.j6.length c.j6 0)) then EA p c (stsP p c) else none
end Go.DL
