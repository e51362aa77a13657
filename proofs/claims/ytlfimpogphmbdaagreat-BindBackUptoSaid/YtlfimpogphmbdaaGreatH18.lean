/- A part of the proof. -/
import Derived.Test.YtlfimpogphmbdaaGreatH17
set_option linter.all false
namespace Go.DL
open Go.Proofs.Tryz
open Go Go.Proofs
set_option maxHeartbeats 8000000
def Md(s c:Int)(V:Sig)(hc:0<=c):aB prog 267 [.int .u64 s,dI c] V fun x U'=>(∃n:Int,x=.ret (.int .u64 n))/\U'=V:=by
 refine en func267 ntmps267 ?_
 try refine gf (SF .u64 .i64 1 c hc) ?_
 refine kE (U':=V) ?_;exact⟨⟨_,rfl⟩,rfl⟩
def QV(w:World)(us:fR)(c:Nat)(n:Int)(h:c<us.length):kM.cells (List.take (2+c) (sl (cII w.ap)::sl (cI w.owner)::List.map (D.int IntKind.u64) us)++D.int IntKind.u64 n::List.drop (2+c) (sl (cI w.owner)::List.map (D.int IntKind.u64) us))=wObj w (us.set c n):=by
 rw[show 2+c=c+1+1 by omega];simp only[List.take_succ_cons,List.drop_succ_cons,bE];unfold wObj;rw[eZ,cO,aS (by simpa using h)]
def Tw(w:World)(V:Sig)(hg:Bo w.ap=true)(gU:∀x∈w.ap,x.length<=1073741824)(ho:w.owner.length<=40)(iW:∀c∈w.owner,3<=c/\c<3+w.ap.length):
  aB prog 228 [.agg (Dx w)] V fun x U'=> ∃iw us,V iw=none/\x=.ret (.tup [.ptr iw 0,.bool true])/\U'=V.set iw (wObj w us):=by
 have hlen:=Ee hg;refine en func228 ntmps228 ?_
 repeat ((fail_if_success (first|(refine boxV (T:=345) (fun iw gX=>?_))|fail));(refine goX1 trivial ?_))
 refine boxV (T:=345) (fun iw gX=>?_);have e0:wObj w (List.replicate 63 0)=.cells [sl (cII w.ap),sl (cI w.owner),.int .u64 0,.int .u64 0,.int .u64 0,.int .u64 0,.int .u64 0,.int .u64 0,.int .u64 0,.int .u64 0,.int .u64 0,.int .u64 0,.int .u64 0,.int .u64 0,.int .u64 0,.int .u64 0,.int .u64 0,.int .u64 0,.int .u64 0,.int .u64 0,.int .u64 0,.int .u64 0,.int .u64 0,.int .u64 0,.int .u64 0,.int .u64 0,.int .u64 0,.int .u64 0,.int .u64 0,.int .u64 0,.int .u64 0,.int .u64 0,.int .u64 0,.int .u64 0,.int .u64 0,.int .u64 0,.int .u64 0,.int .u64 0,.int .u64 0,.int .u64 0,.int .u64 0,.int .u64 0,.int .u64 0,.int .u64 0,.int .u64 0,.int .u64 0,.int .u64 0,.int .u64 0,.int .u64 0,.int .u64 0,.int .u64 0,.int .u64 0,.int .u64 0,.int .u64 0,.int .u64 0,.int .u64 0,.int .u64 0,.int .u64 0,.int .u64 0,.int .u64 0,.int .u64 0,.int .u64 0,.int .u64 0,.int .u64 0,.int .u64 0]:=rfl;rw[<-e0];clear e0
 try refine gz ?_ o228
 refine AG [1,2,3,4,6,7,8,9,10,35,36,37,38,39,40,41,42,43,44,45,46,47,48,49,50,51,52,53,54,55,56,57,58,59,60,61,62,63,64,65,66,67,68,69,70,71,72,73,74,75,76,77,78,79,80,81,82,83,84,85,86,87,88,89,90] (fun (c:Nat) (us:fR)=>c<=3/\us.length=63) (fun c _=>[(24,dI c)]) (fun _ us=>V.set iw (wObj w us)) (fun c _=>3-c) (0) (List.replicate 63 0) k7 (fun c us hI=>?_);obtain⟨hc,iB⟩:=hI;have gI:wObj w us=.cells (sl (cII w.ap)::sl (cI w.owner)::us.map (D.int .u64)):=rfl
 by_cases jw:c<3
 ·try refine gz ?_ o228
  refine C6 (Md 1 c _ k0) (fun d U' h=>?_) (fun d U' h=>by obtain⟨⟨n,h⟩,_⟩:=h;cases h);obtain⟨⟨n,h⟩,rfl⟩:=h;simp only[DE.ret.injEq]at h;subst h;refine⟨Sub.refl _,?_⟩
  try refine gf gI ?_ o228
  rw[QV _ _ _ _ k0];exact⟨c+1,us.set c n,by simp;omega,td1,wkR⟩
 ·try refine gz ?_ o228
  refine AG [1,4,36,37,85,86,87,88,89,90] (fun (i:Nat) (us:fR)=>i<=w.ap.length/\us.length=63) (fun i _=>[(38,dI i)]) (fun _ us=>V.set iw (wObj w us)) (fun i _=>w.ap.length-i) (0) (us) (by exact⟨k0,iB⟩) (fun i us hI=>?_);obtain⟨hi,iB⟩:=hI;have gI:wObj w us=.cells (sl (cII w.ap)::sl (cI w.owner)::us.map (D.int .u64)):=rfl
  by_cases ga:i<w.ap.length
  ·have gD:=Gu (by simpa[Bo] using hg:w.ap.length<=16/\C7 0 w.ap=true).2 i ga;generalize hr:w.ap[i]=row at*;simp only[Gt,aN,aP,bZ]at gD
   try refine gf hr ?_ o228
   refine Ad (Md 1 (3+i) _ k0) (fun d U' h=>?_) (fun d U' h=>by obtain⟨⟨n,h⟩,_⟩:=h;cases h);obtain⟨⟨n,h⟩,rfl⟩:=h;simp only[DE.ret.injEq]at h;subst h
   try refine gf hr ?_ o228
   refine AG [1,4,6,7,36,37,38,39,40,41,42,43,44,45,46,47,77,78,79,80,81,82,83,84,85,86,87,88,89,90] (fun (k:Nat) (n:Int)=>k<=row.length/\Dp i (row.take k) (row.drop k)=true) (fun k n=>[(48,dI k),(8,.int .u64 n)]) (fun _ _=>V.set iw (wObj w us)) (fun k _=>row.length-k) (0) (n) (by exact⟨k0,by simpa using gD.2⟩) (fun k n hI=>?_);obtain⟨hk,hE⟩:=hI
   by_cases gj:k<row.length
   ·rw[A0 gj,Dp,<-AQ gj]at hE;simp only[aN,aP,bA,bk]at hE;obtain⟨q,hq⟩:∃q:Nat,row[k]=(q:Int):=⟨(row[k]).toNat,k0⟩;rw[hq]at hE
    have g7:(sl (cII w.ap)::sl (cI w.owner)::List.map (D.int IntKind.u64) us)[2+q]? = some (D.int IntKind.u64 (us[q]'(by omega))):=by
     rw[show 2+q=q+1+1 by omega,eg,eg,bN,aT k0];rfl
    try refine gf (gi gI (gi hq (gi hE.1.2 g7))) ?_ o228
    exact⟨k+1,_,⟨k0,hE.2⟩,td1,wkR⟩
   ·
    try refine gf (gi hr gI) ?_ o228
    rw[show 2+(3+(i:Int)).toNat=2+(3+i) by omega,QV _ _ _ _ k0];exact⟨i+1,us.set (3+i) n,by simp;omega,td1,wkR⟩
  ·repeat' first|refine gz ?_|refine Au (GV w.owner (fun c=>decide (3<=c/\c<3+w.ap.length)) 269 [.ptr iw 0] [] _ _ k0 (fun x _=>Mc w us iw _ (w7 ..) x k0)) ?_|refine callP (GV w.owner (fun c=>decide (3<=c/\c<3+w.ap.length)) 269 [.ptr iw 0] [] _ _ k0 (fun x _=>Mc w us iw _ (w7 ..) x k0)) ?_|refine gz ?_ o228|apply gy<;>intro hh
   refine fin2 (U':=V.set iw (wObj w us)) ?_;refine⟨iw,us,gX,?_,rfl⟩;rw[bh.2 fun c hc=>by have:=iW c hc;simpa using this]
structure WorldOK(w:World):Prop where
 good:Bo w.ap=true
 len:∀x∈w.ap,x.length<=1073741824
 few:w.owner.length<=40
 own:∀c∈w.owner,3<=c/\c<3+w.ap.length
def TH(w:World)(l:List kA)(o:Own)(V:Sig)(h:WorldOK w)(hl:l.length<=1073741824)(hf:∀f∈l,f.wt<=1073741824):
  aB prog 172 [.agg (Dx w),.slice (l.map Bp) o] V fun x U'=>(∃d,x=.ret (.tup [d,.bool (l.all (CW w))]))/\U'=V:=by
 have hlen:=Ee h.good;have jm:=h.few;refine en func172 ntmps172 ?_
 try refine gz ?_
 refine Ad (Tw w V h.good h.len h.few h.own) (fun d U' hr=>?_) (fun d U' hr=>by obtain⟨_,_,_,h,_⟩:=hr;cases h);obtain⟨iw,us,gX,h1,rfl⟩:=hr;simp only[DE.ret.injEq]at h1;subst h1
 repeat' first|refine gz ?_|refine Fl (Mi w us iw l o _ (w7 ..) k0 k0 hl hf) ?_|refine callPG (Mi w us iw l o _ (w7 ..) k0 k0 hl hf) ?_|refine gz ?_|apply gy<;>intro hh
 refine fin2 (U':=V) ?_;exact⟨⟨_,rfl⟩,rfl⟩
def YP(w:World)(f:kA)(V:Sig)(h:WorldOK w)(hf:f.wt<=1073741824):aB prog 87 [.agg (Dx w),.agg (Bp f)] V (rS (dI (if CW w f then 0 else 2)) V):=by
 refine en func87 ntmps87 ?_
 try refine gz ?_
 refine Ad (TH w [f] .clip V h k7 (by simpa using hf)) (fun d U' hr=>?_) (fun d U' hr=>by obtain⟨⟨_,h⟩,_⟩:=hr;cases h);obtain⟨⟨e,h1⟩,h2⟩:=hr;simp only[DE.ret.injEq]at h1;subst h1;rw[h2]
 try refine gz ?_
 exact fe1 trivial
@[reducible,instance] def a87:=fun w f V=>ah2 (@YP w f V)
def Mz: ∀(cs:List aE) (n m:Int),Bu n cs=some m->∀c∈cs,c.am.length<=4
 |[],_,_,_,c,hc=>by simp at hc
 | x::r,n,m,h,c,hc=>by
  rw[Bu]at h;split at h
  ·cases h
  ·rename_i h4;split at h
   ·cases h
   ·rcases be.1 hc with rfl|hc
    ·omega
    ·exact Mz r _ _ h c hc
def LJ: ∀(cs:List aE) (i:Nat),(∀c∈cs,c.am.length<=4)->(ownersF cs i).length<=4*cs.length /\ ∀x∈ownersF cs i,3+(i:Int)<=x/\x<3+(i:Int)+cs.length
 |[],_,_=>by simp[ownersF]
 | c::r,i,h=>by
  obtain⟨h1,h2⟩:=LJ r (i+1) fun c hc=>h c (by simp[hc])
  have h3:=h c k7;rw[ownersF];refine⟨by simp only[aO,bB,aV];omega,fun x hx=>?_⟩;rcases bi.1 hx with hx|hx
  ·have:=dK hx;simp only[aV];omega
  ·have:=h2 x hx;simp only[aV];omega
def Ue{p:aD}(hp:p.wt<=1073741824)(h:Ar p=true):WorldOK (AH p):=by
 obtain⟨p1,p2,p3,p4,p5,p6,p7⟩:=p.wt_le;unfold Ar at h;simp only[aN,aP]at h;obtain⟨jy,h⟩:=h;split at h
 ·cases h
 ·rename_i n hn;simp only[aN,aP]at h;obtain⟨⟨_,hg⟩,_⟩:=h;obtain⟨o1,o2⟩:=LJ p.ak 0 (Mz _ _ _ hn);refine⟨hg,fun x hx=>?_,by show(ownersF p.ak 0).length<=40;omega,fun c hc=>?_⟩
  ·obtain⟨c,hc,rfl⟩:=bD.1 (show x∈p.ak.map (·.ap) from hx);obtain⟨k,hk,rfl⟩:=bm hc;have:=p5 k hk;unfold aE.wt at this;omega
  ·have:=o2 c hc
   show 3<=c/\c<3+((p.ak.map (·.ap)).length:Int);rw[aY];omega
def Do(p:aD)(m:aF):Bool:=decide (1<=m.kind/\m.kind<=4)&&decide (0<=m.gen/\m.gen<p.au.length)&&CW (AH p) m.kJ&&decide (m.kJ.speaks<=p.au.getD m.gen.toNat 0)
def D5(p:aD):List aF->fR->Option fR
 |[],s=>some s
 | m::r,s=>if Do p m then (match optW (BT p (decide (m.kind=1) || decide (m.kind=4)) 12 m.node (p.au.getD m.gen.toNat 0) s) with
   |none=>none
   |some s'=>D5 p r s') else none
def Dk(p:aD):Option fR:=
 if Ar p&&(decide (p.au.length<=8)&&decide (p.k9.length<=16)&&decide (1<=p.kC.length)&&decide (p.kC.length<=120))&&p.au.all (fun g=>decide (1<=g/\g<=3)) then
  match D5 p p.k9 (List.replicate p.kC.length (-1))with
  |none=>none
  |some s=>match optW (BT p false 12 p.kH 0 s)with
   |none=>none
   |some s2=>if -1∈s2 then none else some s2
 else none
def SzR(p:aD)(io:Nat)(V:Sig)(x:DE)(U':Sig):Prop:=kQ (· = io) V U'/\(∃d,U' io=some (.cells [d])) /\
 match Dk p with
 |none=>x=.panic unf
 |some s=>x=.ret (.tup [])/\U' io=some (.cells [sl (cI s)])
def VA (p:aD) (io:Nat) (V:Sig) (hp:p.wt<=1073741824) (f8:V io=some (.cells [.av])):aB prog 79 [.aw (Am p) 0, .ptr io 0] V (SzR p io V):=by
 obtain⟨p1,p2,p3,p4,p5,p6,p7⟩:=p.wt_le
 have f0:∀c∈p.ak,c.ap.length<=1073741824/\c.am.length<=1073741824/\c.ar.length<=1073741824:=fun c hc=>by
  obtain⟨k,hk,rfl⟩:=bm hc;have:=p5 k hk;have jo:(p.ak[k]).wt=1+(p.ak[k]).ap.length+(p.ak[k]).am.length+(p.ak[k]).ar.length:=rfl;omega
 have iA:∀c∈p.ak,c.ap.length<=1073741824:=fun c hc=>(f0 c hc).1;have iO:∀c∈p.ak,c.am.length<=1073741824:=fun c hc=>(f0 c hc).2.1;have d6:Dk p=none->∀U' d,kQ (· = io) V U'->U' io=some (.cells [d])->SzR p io V (.panic unf) U':=fun h U' d hK hd=>⟨hK,⟨d,hd⟩,by rw[h]⟩
 refine en func79 ntmps79 ?_;cases hc:Ar p with
 |false=>
  have hL:Dk p=none:=by unfold Dk;rw[hc];rfl
  repeat' first|(exact kV (U':=V) (d6 hL _ _ (kQ.refl _ _) f8))|refine gf hc ?_ o79|apply gy<;>intro hh
 | true =>
  have hW:=Ue hp hc
  by_cases jh:p.au.length<=8/\p.k9.length<=16/\1<=p.kC.length/\p.kC.length<=120
  ·have d9:Dk p=if p.au.all (fun g=>decide (1<=g/\g<=3)) then
     match D5 p p.k9 (List.replicate p.kC.length (-1))with
     |none=>none
     |some s=>match optW (BT p false 12 p.kH 0 s)with
      |none=>none
      |some s2=>if -1∈s2 then none else some s2
    else none:=by unfold Dk;rw[hc];simp[jh]
   try refine gf hc ?_ o79
   refine Bb [0,1,4,5,7,34,35,48,49,50,51,52,53,54,55,56,57,58,59,60,61,62,63,64,65,66,67,68,69,70,71,72,73,74,75,76,77,78,79,80,81,82,83,84,85,86,87,88,89,90,91,92,93,94,95,96,97,98,99,100,101,102,103,104,105,106,107,108,109,110,111,112,113,114,115,116,117,118,119,120,121,122,123,124,125,126,127,128,129] (fun (i:Nat)=>i<=p.au.length/\p.au.all (fun g=>decide (1<=g/\g<=3))=(p.au.drop i).all (fun g=>decide (1<=g/\g<=3))) (fun i=>[(36,dI i)]) (fun _=>V) (fun i=>p.au.length-i) (0) td3 (fun i hI=>?_);obtain⟨hi,hA⟩:=hI
   by_cases ga:i<p.au.length
   ·rw[A0 ga,bU]at hA
    by_cases hq:1<=p.au[i]/\p.au[i]<=3
    ·rw[bf hq,bd]at hA
     try refine gz ?_ o79
     exact⟨i+1,⟨k0,hA⟩,td1,wkR⟩
    ·rw[ba hq,bw]at hA;have hL:Dk p=none:=by rw[d9,hA];rfl
     repeat' first|(exact kV (U':=V) (d6 hL _ _ (kQ.refl _ _) f8))|refine gz ?_ o79|apply gy<;>intro hh
     all_goals (exfalso;omega)
   ·rw [A1 ga,eE] at hA;rw[hA,aS rfl]at d9;have iv:=hA
    try refine gz ?_ o79
    refine callWP (YU p.kC.length V k0 k0) (fun d U' hr=>?_) (fun d U' hr=>by obtain⟨r,_,h,_⟩:=hr;cases h);obtain⟨r,e8,h1,rfl⟩:=hr;simp only[DE.ret.injEq]at h1;subst h1;have d7:io≠r:=fun e=>by rw[e,e8]at f8;cases f8
    have iX:(ownersF p.ak 0).length<=40:=hW.few
    try refine gf (gi f8 d7) ?_ o79
    refine E2 [0,1,4,5,57,58,122,123,124,125,126,127,128,129] (fun (i:Nat) (s:fR) (S1:Sig)=>i<=p.k9.length/\s.length=p.kC.length/\kQ (· = io) V S1/\S1 io=some (.cells [.ax r 0 p.kC.length p.kC.length])/\S1 r=some (.cells (s.map dI))/\D5 p p.k9 (List.replicate p.kC.length (-1))=D5 p (p.k9.drop i) s) (fun i _ _=>[(59,dI i)]) (fun _ _ S1=>S1) (fun i _ _=>p.k9.length-i) (0) (List.replicate p.kC.length (-1)) (_) (by exact⟨k0,k7,((kQ.refl _ V).fresh e8).trans (fun j o h1 h2=>by rw[w8 _ _ h2];exact h1),w7 .., by rw[w8 _ _ (aZ d7),w7],rfl⟩) (fun i s S1 hI=>?_);clear ga;obtain⟨hi,gN,gc,d8,gQ,hM⟩:=hI
    by_cases ga:i<p.k9.length
    ·rw [A0 ga,D5] at hM;have iY:=p6 i ga;generalize hm:p.k9[i]=m at*;have jv:m.kJ.wt<=1073741824:=by unfold aF.wt at iY;omega
     have gJ:=kA.size_le m.kJ;cases gu:Do p m with
     | false =>
      rw[gu]at hM;have hL:Dk p=none:=by rw[d9,hM];rfl
      repeat' first|(exact kV (U':=S1) (d6 hL _ _ gc d8))|refine gf hm ?_ o79|apply gy<;>intro hh
      all_goals
       exfalso
       rename_i k1 k2 k3 k4 k5 k6;revert gu;simp only[Do];rw[bf k0,bf k0,k5,bf (by rw[bj,aT k0];exact k6)];simp
     | true =>
      rw[gu,aS rfl]at hM;simp only[Do,aN,aP]at gu;obtain⟨⟨⟨hk,jt⟩,jl⟩,iU⟩:=gu;have ji:p.au.getD m.gen.toNat 0=p.au[m.gen.toNat]'(by omega):=by rw[bj,aT k0];rfl
      rw[ji]at iU hM
      have ju:1<=p.au[m.gen.toNat]'(by omega)/\p.au[m.gen.toNat]'(by omega)<=3:=by
       have:=bh.1 iv _ (aR (show m.gen.toNat<p.au.length by omega));simpa using this
      repeat' first|refine gf (gi hm jl) ?_ o79|apply gy<;>intro hh
      ·have hb:(decide (m.kind=1)||decide (m.kind=4))=true:=by simp[hh]
       rw[hb]at hM;refine Ad (NC p io r (true) m.node (p.au[m.gen.toNat]'(by omega)) s S1 hp d8 gQ gN d7 k0 k0) (fun d U' hr=>?_) (fun d U' hr=>?_)
       ·obtain⟨s',hs',rfl,⟨q1,q2,q3⟩,_⟩:=hr.ret;rw[hs']at hM
        try refine gz ?_ o79
        exact⟨i+1,s',U',⟨k0,q2,fun j o h1 h2=>q3 j o (gc j o h1 h2) (fun e=>by rw[e,e8]at h1;cases h1),q3 io _ d8 d7,q1,hM⟩,td1,wkR⟩
       ·obtain⟨hn,rfl,hb⟩:=hr.pan;rw[hn]at hM;exact kV (U':=U') (d6 (by rw[d9,hM]) _ _ (fun j o h1 h2=>hb j o (gc j o h1 h2) (fun e=>by rw[e,e8]at h1;cases h1)) (hb io _ d8 d7))
      ·have hb:(decide (m.kind=1)||decide (m.kind=4))=decide (m.kind=4):=by simp[hh]
       rw[hb]at hM;refine Ad (NC p io r (decide (m.kind=4)) m.node (p.au[m.gen.toNat]'(by omega)) s S1 hp d8 gQ gN d7 k0 k0) (fun d U' hr=>?_) (fun d U' hr=>?_)
       ·obtain⟨s',hs',rfl,⟨q1,q2,q3⟩,_⟩:=hr.ret;rw[hs']at hM
        try refine gz ?_ o79
        exact⟨i+1,s',U',⟨k0,q2,fun j o h1 h2=>q3 j o (gc j o h1 h2) (fun e=>by rw[e,e8]at h1;cases h1),q3 io _ d8 d7,q1,hM⟩,td1,wkR⟩
       ·obtain⟨hn,rfl,hb⟩:=hr.pan;rw[hn]at hM;exact kV (U':=U') (d6 (by rw[d9,hM]) _ _ (fun j o h1 h2=>hb j o (gc j o h1 h2) (fun e=>by rw[e,e8]at h1;cases h1)) (hb io _ d8 d7))
    ·rw[A1 ga,D5]at hM;rw[hM]at d9;simp only at d9
     try refine gz ?_ o79
     refine Ad (NC p io r false p.kH 0 s S1 hp d8 gQ gN d7 k0 k0) (fun d U' hr=>?_) (fun d U' hr=>?_)
     ·obtain⟨s2,gP,rfl,⟨q1,q2,q3⟩,_⟩:=hr.ret;rw[gP]at d9;simp only at d9;have gC:kQ (· = io) V U':=fun j o h1 h2=>q3 j o (gc j o h1 h2) (fun e=>by rw[e,e8]at h1;cases h1)
      have gw:=q3 io _ d8 d7
      have gO:U'=mS (U'.del r) (some (r,p.kC.length,[])) (cI s2):=by
       funext j
       by_cases hj:j=r
       ·subst hj;rw[mS,w7,q1,En,br]
       ·rw[mS,w8 _ _ hj];simp[Sig.del,hj]
      rw[gO]
      have ij:(U'.del r) io=some (.cells ([]++mD (some (r,p.kC.length,[])) (cI s2).length::[])):=by
       simp only[Sig.del,d7,bl,mD,Jf,q2];exact gw
      have iZ:mOK (U'.del r) 1 (some (r,p.kC.length,[])) (cI s2):=⟨by simp[Sig.del],by rw[En];simp[q2],by simp[q2],C5 _⟩
      have iI:kQ (· = io) V ((U'.del r).set io (.cells [sl (cI s2)])):=fun j o h1 h2=>by
       have je:¬j=r:=fun e=>by rw[e,e8]at h1;cases h1
       rw[w8 _ _ h2];simp only[Sig.del,je,bl];exact gC j o h1 h2
      refine mfrC [] [] ?_ ij iZ;simp only[bG]
      by_cases fZ : -1∈s2
      ·rw[aS fZ]at d9
       repeat' first|(exact kV (U':=(U'.del r).set io (.cells [sl (cI s2)])) (d6 d9 _ _ iI (w7 ..)))|refine gf fZ ?_ o79|apply gy<;>intro hh
      ·rw[aQ fZ]at d9
       try refine gf fZ ?_ o79
       refine EA (U':=(U'.del r).set io (.cells [sl (cI s2)])) ?_;exact⟨iI,⟨_,w7 ..⟩,by rw[d9];exact⟨rfl,w7 ..⟩⟩
     ·obtain⟨hn,rfl,hb⟩:=hr.pan;rw[hn]at d9;exact kV (U':=U') (d6 d9 _ _ (fun j o h1 h2=>hb j o (gc j o h1 h2) (fun e=>by rw[e,e8]at h1;cases h1)) (hb io _ d8 d7))
  ·have hL:Dk p=none:=by unfold Dk;rw[aQ];simp only[aN,aP];omega
   repeat' first|(exact kV (U':=V) (d6 hL _ _ (kQ.refl _ _) f8))|refine gf hc ?_ o79|apply gy<;>intro hh
   all_goals (exfalso;omega)
def P7(p:aD)(V:Sig)(hp:p.wt<=1073741824):aB prog 42 [.agg (Am p)] V fun x U'=>(∃d,x=.ret (.tup [d,.bool (Dk p).isSome]) /\ ∀s,Dk p=some s->d=sl (cI s))/\U'=V:=by
 refine en func42 ntmps42 ?_
 try refine gz ?_ [] [4]
 refine kR (fun io f8=>?_)
 try refine gz ?_ [] [4]
 refine Ad (YX 79 [.aw (Am p) 0,.ptr io 0] (V.set io (.cells [.av])) (fun S1=>SzR p io S1) (fun i hi=>VA p io _ hp (by rw[w8 _ _ fun e=>by rw[e]at hi;rw[w7 ..]at hi;cases hi];exact w7 ..)) (fun S1 d S2 h=>?_) (fun i S2 x hi h=>h.1 i _ (w7 ..) (fun e=>by rw[e,w7]at hi;cases hi))) (fun d U' hr=>?_) (fun d U' hr=>?_)
 ·obtain⟨_,_,h⟩:=h;split at h
  ·simpa using h
  ·exact absurd h.1 k7
 ·obtain⟨i,S2,hi,rfl,hr⟩:=hr;rcases hr with⟨e,⟨hK,⟨d0,iH⟩,h⟩,h2⟩|⟨⟨hK,⟨d0,iH⟩,h⟩,h2⟩
  ·simp only[DE.ret.injEq]at h2;subst h2;cases hL:Dk p with
   |none=>rw[hL]at h;exact absurd h k7
   | some s =>
    rw[hL]at h;obtain⟨_,gw⟩:=h;have gx:io≠i:=fun e=>by rw[<-e,w7]at hi;cases hi
    have gv:(S2.del i) io=some (.cells [sl (cI s)]):=by simp only[Sig.del,gx,bl];exact gw
    try refine gf gv ?_ [] [4]
    refine fin2 (U':=V) ?_ (hZ:=?_)
    ·exact⟨⟨_,rfl,fun s' h=>by cases h;rfl⟩,rfl⟩
    ·intro j o hj;have e1:j≠io:=fun e=>by rw[e,f8]at hj;cases hj
     have e2:=hK j o (by rw[w8 _ _ (fun e=>by rw[e]at hj;rw[w8 _ _ (aZ gx),hj]at hi;cases hi),w8 _ _ e1];exact hj) e1;simp only[Sig.del];rw[aQ (fun e=>by rw[e]at hj;rw[w8 _ _ (aZ gx),hj]at hi;cases hi)];exact e2
  ·simp only[DE.ret.injEq]at h2;subst h2;have gx:io≠i:=fun e=>by rw[<-e,w7]at hi;cases hi
   have gv:(S2.del i) io=some (.cells [d0]):=by simp only[Sig.del,gx,bl];exact iH
   have hL:Dk p=none:=by
    cases hL:Dk p with
    |none=>rfl
    |some s=>rw[hL]at h;exact absurd h.1 k7
   rw[hL]
   try refine gf gv ?_ [] [4]
   refine fin2 (U':=V) ?_ (hZ:=?_)
   ·exact⟨⟨_,rfl,fun s' h=>by cases h⟩,rfl⟩
   ·intro j o hj;have e1:j≠io:=fun e=>by rw[e,f8]at hj;cases hj
    have e2:=hK j o (by rw[w8 _ _ (fun e=>by rw[e]at hj;rw[w8 _ _ (aZ gx),hj]at hi;cases hi),w8 _ _ e1];exact hj) e1;simp only[Sig.del];rw[aQ (fun e=>by rw[e]at hj;rw[w8 _ _ (aZ gx),hj]at hi;cases hi)];exact e2
 ·obtain⟨i,S2,hi,rfl,hr⟩:=hr;rcases hr with⟨e,_,h2⟩|⟨_,h2⟩<;>cases h2
def Y6{a b:fQ}(h:WkL a b):WkD (.agg a) (.agg b):=fun _ _ ⟨vs,e,hr⟩=>⟨vs,e,h.rep hr⟩
def Iw{a b:fQ}(h:WkL a b):WkD (.tup a) (.tup b):=fun _ _ ⟨vs,e,hr⟩=>⟨vs,e,h.rep hr⟩
def okP(p:aD):Bool:=(Dk p).isSome
def FA{p:aD}(h:okP p=true):Ar p=true:=by
 unfold okP Dk at h;cases hc:Ar p
 ·rw[hc]at h;simp at h
 ·rfl
def NI(p:aD)(V:Sig)(hp:p.wt<=1073741824:=by exact sd):aB prog 13 [.agg (Am p)] V (rS (dI (if okP p then 0 else 2)) V):=by
 refine en func13 ntmps13 ?_
 try refine gz ?_
 refine Ad (P7 p V hp) (fun d U' hr=>?_) (fun d U' hr=>by obtain⟨⟨_,h,_⟩,_⟩:=hr;cases h);obtain⟨⟨d,h1,h2⟩,h3⟩:=hr;simp only[DE.ret.injEq]at h1;subst h1;rw[h3];cases hk:okP p<;>unfold okP at hk<;>rw[hk]
 ·try refine gz ?_
  exact fe1 trivial
 ·try refine gz ?_
  exact fe1 trivial
@[reducible,instance] def a13:=fun p V=>ah1 (@NI p V)
def RU(p:aD)(V:Sig)(hp:p.wt<=1073741824:=by exact sd):aB prog 11 [.agg (Am p)] V (rS (.tup [sl (cI ((Dk p).getD [])),dI (PA (Dk p))]) V):=by
 refine en func11 ntmps11 ?_
 try refine gz ?_
 refine Ad (P7 p V hp) (fun d U' hr=>?_) (fun d U' hr=>by obtain⟨⟨_,h,_⟩,_⟩:=hr;cases h);obtain⟨⟨d,h1,h2⟩,h3⟩:=hr;simp only[DE.ret.injEq]at h1;subst h1;rw[h3];cases hL:Dk p with
 |none=>
  try refine gz ?_
  (refine fin2 (U':=V) (d':=sl []) ?_;exact⟨by first|rfl|(simp[PA];done)|(simp_all [PA];done)|(rw[A4,aW];simp_all [PA]<;>omega),rfl⟩)
 |some s=>
  obtain rfl:=h2 s hL
  try refine gz ?_
  (refine fin2 (U':=V) (d':=sl (cI s)) ?_;exact⟨by first|rfl|(simp[PA];done)|(simp_all [PA];done)|(rw[A4,aW];simp_all [PA]<;>omega),rfl⟩)
@[reducible,instance] def a11:=fun p V=>ah1 (@RU p V)
def Z6(p:aD)(c:Int)(V:Sig)(hp:p.wt<=1073741824:=by exact sd):aB prog 61 [.agg (Am p),dI c] V (rS (.bool (ownF p c&&okP p)) V):=by
 obtain⟨p1,p2,p3,p4,p5,p6,p7⟩:=p.wt_le;refine en func61 ntmps61 ?_;cases hk:okP p
 ·repeat' first|refine gf hk ?_|apply gy<;>intro hh
  any_goals (first|(refine kE (U':=V) ?_;exact⟨by first|rfl|(simp[ownF];done)|(simp_all [ownF];done)|(rw[A4,aW];simp_all [ownF]<;>omega),rfl⟩)|fail)
 ·repeat' first|refine gf hk ?_|apply gy<;>intro hh
  any_goals (first|(refine kE (U':=V) ?_;exact⟨by first|rfl|(simp[ownF];done)|(simp_all [ownF];done)|(rw[A4,aW];simp_all [ownF]<;>omega),rfl⟩)|fail)
@[reducible,instance] def a61:=fun p c V=>ah1 (@Z6 p c V)
def RR(p:aD)(c:Int)(V:Sig)(hp:p.wt<=1073741824:=by exact sd):aB prog 23 [.agg (Am p),dI c] V (rS (.tup [sl (cI (if ownF p c&&okP p then hasP p c else [])),dI (if ownF p c&&okP p then 0 else 2)]) V):=by
 refine en func23 ntmps23 ?_;cases hk:ownF p c&&okP p
 ·try refine gf hk ?_
  exact fe2 (d':=sl []) trivial
 ·have ho:3<=c/\c<3+p.ak.length:=by simp only[ownF,aN,aP]at hk;exact hk.1
  obtain⟨h1,h2⟩:=ho
  try refine gf hk ?_
  exact fe2 trivial
@[reducible,instance] def a23:=fun p c V=>ah1 (@RR p c V)
def RO(p:aD)(V:Sig)(hp:p.wt<=1073741824:=by exact sd):aB prog 37 [.agg (Am p)] V (rS (.tup [.agg (Dx (if okP p then AH p else⟨[],[]⟩)),dI (if okP p then 0 else 2)]) V):=by
 obtain⟨p1,p2,p3,p4,p5,p6,p7⟩:=p.wt_le;refine en func37 ntmps37 ?_
 try refine gz ?_ [] [2]
 refine kR (fun i hi=>?_)
 repeat' first|refine gz ?_ [] [2]|apply gy<;>intro hh
 ·rw[hh];refine lI (U':=V) (d:=.tup [.agg (Dx ⟨[],[]⟩),dI 2]) ⟨rfl,rfl⟩ (hw:=?_);exact Iw ⟨Y6 ⟨An _ (.inl rfl),An _ (.inl rfl),trivial⟩,A9 _,trivial⟩
 ·have hW:=Ue hp (FA hh);have iX:(ownersF p.ak 0).length<=40:=hW.few
  have f0:∀c∈p.ak,c.ap.length<=1073741824/\c.am.length<=1073741824:=fun c hc=>by
   obtain⟨k,hk,rfl⟩:=bm hc;have:=p5 k hk;unfold aE.wt at this;omega
  have iA:∀c∈p.ak,c.ap.length<=1073741824:=fun c hc=>(f0 c hc).1;have iO:∀c∈p.ak,c.am.length<=1073741824:=fun c hc=>(f0 c hc).2;rw[hh]
  try refine gz ?_ [] [2]
  refine lI (U':=V) (d:=.tup [.agg (Dx (AH p)),dI 0]) ⟨rfl,rfl⟩
@[reducible,instance] def a37:=fun p V=>ah1 (@RO p V)
def TI{S:Type}(l:fR)(lb:Nat)(u:D)(Good:Sig->S->Prop)(Bad:Sig->Prop)(touch:Nat->Prop)(step:Int->S->S)(hl:l.length<=1073741824)
  (hy:∀(k:Nat) (hk:k<l.length) V s,Good V s->ku prog lb [dI k,dI l[k]] V (lJ u (.bool true) Good Bad touch V (some (step l[k] s)))) (V:Sig) (s:S) (hG:Good V s) :
  aB prog 152 [.yld lb,.aw [sl (cI l)] 0] V (lJ u (.tup []) Good Bad touch V (some (l.foldr step s))):=by
 refine en func152 ntmps152 ?_
 try refine gz ?_
 refine E2 [0,1] (fun (k:Nat) (s1:S) (S1:Sig)=>k<=l.length/\Good S1 s1/\l.foldr step s=(l.take k).foldr step s1/\(∀j o,V j=some o->¬touch j->S1 j=some o)) (fun k _ _=>[(3,dI ((k:Int)-1))]) (fun _ _ S1=>S1) (fun k _ _=>k) (l.length) (s) (V) (by exact⟨k0,hG,k7,fun _ _ h _=>h⟩) (fun k s1 S1 hI=>?_);obtain⟨hk,gM,hR,hK⟩:=hI;cases k with
 |zero=>
  try refine gz ?_
  refine EA (U':=S1) ?_;exact⟨rfl,by rw[hR];exact gM,hK⟩
 |succ k=>
  have gj:k<l.length:=by omega
  have e:((k+1:Nat):Int)-1=k:=by omega
  rw[bQ gj,List.foldr_append]at hR
  try refine gf e ?_
  refine yldW (hy k gj S1 s1 gM) (fun d U' hr=>?_) (fun d U' hr=>by obtain⟨h,_⟩:=hr.pan;cases h);obtain⟨s2,gP,rfl,iy,gC⟩:=hr.ret;cases gP
  try refine gf e ?_
  exact⟨k,_,U',⟨k0,iy,hR,fun j o h1 h2=>gC j o (hK j o h1 h2) h2⟩,td1,wkR⟩
def Z4(l:fR)(V:Sig):aB prog 64 [sl (cI l)] V (rS (.func (.func 152) [] [.aw [sl (cI l)] 0]) V):=by
 refine en func64 ntmps64 ?_
 try refine gz ?_
 exact fe1 trivial
@[reducible,instance] def a64:=fun l V=>ah0 (@Z4 l V)
def Fy:List lR->List (Int×Int)->List (Int×Int)
 |[],m=>m
 |x::r,m=>Fy r (putM x.slot x.n m)
def Ff(p:aD)(c:Int)(m:List (Int×Int)):List (Int×Int):=if 3<=c then Fy (((p.ak[(c-3).toNat]?).map (·.ar)).getD []) m else m
def P2(p:aD)(order:fR):List (Int×Int):=order.foldr (Ff p) []
def Jh(m:List (Int×Int)):fR->List lR
 |[]=>[]
 |s::r=>if hasM s m then⟨s,getM 0 s m⟩::Jh m r else Jh m r
def L6(p:aD)(c:Int):List lR:=Jh (P2 p (lm (p.ak.map (·.ap)) c)) (hasP p c)
def I9{p:aD}: ∀{cs:List aE}{i:Nat},AK p i cs=true->∀k,k<cs.length->linE (p.ak.map (·.ap)) (((i+k:Nat):Int)+3)=0
 |c::r,i,h,0,_=>by rw[AK]at h;simp only[aN,aP]at h;exact h.1.1
 |c::r,i,h,k+1,hk=>by
  rw[AK]at h;simp only[aN,aP]at h;have:=I9 h.2 k (by simpa using hk);rw[show i+(k+1)=i+1+k by omega];exact this
def okP_lin{p:aD}(h:okP p=true){c:Int}(h1:3<=c)(h2:c<3+p.ak.length):linE (p.ak.map (·.ap)) c=0/\Bo (p.ak.map (·.ap))=true:=by
 have h:=FA h;unfold Ar at h;simp only[aN,aP]at h;obtain⟨_,h⟩:=h;split at h
 ·cases h
 ·simp only[aN,aP]at h;have:=I9 h.2 (c-3).toNat k0;rw[show(((0+(c-3).toNat:Nat):Int)+3)=c by omega]at this;exact⟨this,h.1.2⟩
def P3{P:Program}{n:Nat}{fn:Func}{R:DE->Sig->Prop}{γ:Fr}{V U':Sig}{d d':D}(js:fU)(hR:R (.ret d') U')(hZ:Sub U' (dels js V))(hn:js.Nodup:=by simp)(hd:∀j∈js,V j=some .defs:=by simp)(h:resD fn γ=some d:=by exact tdR)(hw:WkD d d'): ∃s',Wk P n ⟨γ,V,js.map .coll⟩ s'/\Ub P n fn (Weak R) .ret s':=
 ⟨_,Wk.refl _ _ _,js,rfl,hn,hd,d,EF h,.ret d',U',hw,hZ,hR⟩
def NH(p:aD)(c:Int)(V:Sig)(hp:p.wt<=1073741824:=by exact sd):aB prog 25 [.agg (Am p),dI c] V (rS (.tup [sl ((if ownF p c&&okP p then L6 p c else []).map Ef),dI (if ownF p c&&okP p then 0 else 2)]) V):=by
 obtain⟨p1,p2,p3,p4,p5,p6,p7⟩:=p.wt_le
 have f0:∀c∈p.ak,c.ap.length<=1073741824/\c.am.length<=1073741824/\c.ar.length<=1073741824:=fun c hc=>by
  obtain⟨k,hk,rfl⟩:=bm hc;have:=p5 k hk;unfold aE.wt at this;omega
 have iA:∀c∈p.ak,c.ap.length<=1073741824:=fun c hc=>(f0 c hc).1;have jp:∀x∈p.ak.map (·.ap),x.length<=1073741824:=fun x hx=>by obtain⟨c,hc,rfl⟩:=bD.1 hx;exact(f0 c hc).1
 refine Bw func25 rfl (by decide) ntmps25 k7 ?_;cases hk:ownF p c&&okP p
 ·try refine gf hk ?_
  refine P3 [] (U':=V) ⟨rfl,rfl⟩ (Sub.refl _) (hw:=?_);exact Iw ⟨An _ (.inl rfl),A9 _,trivial⟩
 ·have ho:3<=c/\c<3+p.ak.length:=by simp only[ownF,aN,aP]at hk;exact hk.1
  have gu:okP p=true:=by simp only[aN]at hk;exact hk.2
  obtain⟨h1,h2⟩:=ho;obtain⟨gE,fY⟩:=okP_lin gu h1 h2
  have iD:lm (p.ak.map (·.ap)) c=Gp (p.ak.map (·.ap)) c:=by
   unfold lm;rw[aS ⟨fY,k0,by rw[aY];omega⟩]
  have gR:∀y∈lm (p.ak.map (·.ap)) c,0<=y/\y<3+p.ak.length:=fun y hy=>by
   rw[iD]at hy;obtain⟨x,hx,hy⟩:=Hq hy;have:=Hp fY _ x hx y hy;rw[aY]at this;omega
  have jq:(lm (p.ak.map (·.ap)) c).length<=80000000:=by rw[iD];exact Dl fY (bn _) k0
  have jr:=KA p c;have ws:=HE p
  try refine gf (gi hk gE) ?_
  refine newIN (fun im jg=>?_)
  try refine gf (gi hk gE) ?_
  refine Ms (u:=unf) (fun did U' m=>U' im=some (.map (eIN m))/\kQ (· = im) ((V.set im (.map (eIN []))).set did .defs) U') (fun did U'=>False) (· = im) (some (P2 p (lm (p.ak.map (·.ap)) c))) rfl (fun l did hd hl fX LO gB=>?_) (fun l did m U' ho hd hl fX hG=>?_) (fun did U' ho hd hb=>hb.elim)
  ·refine TI (lm (p.ak.map (·.ap)) c) l unf _ _ _ (Ff p) k0 (fun k hk S1 m1 hG=>?_) _ [] ?_
   ·obtain⟨gV,fZ,gc⟩:=hG;refine EW gB gV ?_;clear gB
    try refine gz ?_
    refine⟨gV,?_⟩;have hy:=gR _ (aR hk);generalize (lm (p.ak.map (·.ap)) c)[k]=y at*;have gg:l≠im:=fun e=>by rw[e,w7]at hl;cases hl
    have i0:(S1.set l (Cx LO)) im=some (.map (eIN m1)):=by rw[w8 _ _ (aZ gg)];exact fZ
    have gb:∀m,(((S1.set l (Cx LO)).set im (.map (eIN m))) l=some (Cx LO))/\((((S1.set l (Cx LO)).set im (.map (eIN m))).set l LO) l=some LO/\(((S1.set l (Cx LO)).set im (.map (eIN m))).set l LO) im=some (.map (eIN m))/\kQ (· = im) ((V.set im (.map (eIN []))).set did .defs) (((S1.set l (Cx LO)).set im (.map (eIN m))).set l LO))/\kQ (· = im) S1 (((S1.set l (Cx LO)).set im (.map (eIN m))).set l LO):=fun m=>by
     have gC:kQ (· = im) S1 (((S1.set l (Cx LO)).set im (.map (eIN m))).set l LO):=fun j o h1 h2=>by
      by_cases hj:j=l
      ·rw[hj]at h1⊢; rw[w7,<-h1,gV]
      ·rw[w8 _ _ hj,w8 _ _ h2,w8 _ _ hj];exact h1
     exact⟨by rw[w8 _ _ gg,w7],⟨w7 .., by rw[w8 _ _ (aZ gg),w7],gc.trans gC⟩,gC⟩
    rw[<-Sig.set_self _ i0]
    by_cases iJ:3<=y
    ·obtain⟨q,rfl⟩:∃q:Nat,y=3+(q:Int):=⟨(y-3).toNat,k0⟩;have hq:q<p.ak.length:=by omega
     have go:Ff p (3+q) m1=Fy (p.ak[q]).ar m1:=by
      unfold Ff;rw[aS k0,show(3+(q:Int)-3).toNat=q by omega,aT hq];rfl
     rw[go];have jf:=(f0 _ (aR hq)).2.2;generalize gY:(p.ak[q]).ar=ins' at*;have iV:3+(q:Int)-3=q:=by omega
     try refine gf (gi iV gY) ?_
     refine AG [1,2,4,5,8,13,15,16,17,45,46,57,58,59,60,61,62,63,64,65,66,67,68,69,70,71,72,73,74,75,76,77,78,79,80] (fun (j:Nat) (m:List (Int×Int))=>j<=ins'.length/\Fy ins' m1=Fy (ins'.drop j) m) (fun j _=>[(47,dI j)]) (fun _ m=>(S1.set l (Cx LO)).set im (.map (eIN m))) (fun j _=>ins'.length-j) (0) (m1) k7 (fun j m hI=>?_);obtain⟨hj,hJ⟩:=hI
     by_cases iE:j<ins'.length
     ·rw[A0 iE,Fy]at hJ
      try refine gf gY ?_
      exact⟨j+1,_,⟨k0,hJ⟩,td1,wkR⟩
     ·rw[A1 iE,Fy]at hJ
      try refine gf gY ?_
      rw[hJ];exact⟨(gb m).1,rfl,(gb m).2⟩
    ·have go:Ff p y m1=m1:=by unfold Ff;rw[aQ iJ]
     rw[go]
     try refine gz ?_
     exact⟨(gb m1).1,rfl,(gb m1).2⟩
   ·have gg:im≠l:=fun e=>by rw[<-e,w7]at hl;cases hl
    have gL:im≠did:=fun e=>by rw[<-e,w7]at hd;cases hd
    exact⟨w7 .., by rw[w8 _ _ gg,w8 _ _ gL,w7],(kQ.refl _ _).fresh (k8 fX hl)⟩
  ·cases ho;have gg:im≠l:=fun e=>by rw[<-e,w7]at hl;cases hl
   have gL:im≠did:=fun e=>by rw[<-e,w7]at hd;cases hd
   have gS:(U'.del l) im=some (.map (eIN (P2 p (lm (p.ak.map (·.ap)) c)))):=by simp only[Sig.del,gg,bl];exact hG.1
   have iG:(U'.del l) did=some .defs:=by simp only[Sig.del,aZ fX,bl];exact hG.2 did _ (w7 ..) (aZ gL)
   have iq:L6 p c=Jh (P2 p (lm (p.ak.map (·.ap)) c)) (hasP p c):=rfl
   have jk:∀j o,V j=some o->(U'.del l) j=some o/\j≠did:=fun j o h=>by
    have e1:j≠im:=fun e=>by rw[e,jg]at h;cases h
    have e2:j≠did:=fun e=>by rw[e]at h;rw[w8 _ _ (aZ gL),h]at hd;cases hd
    have e3:j≠l:=fun e=>by rw[e]at h;rw[w8 _ _ (aZ gg),h]at hl;cases hl
    refine⟨?_,e2⟩;simp only[Sig.del,e3,bl];exact hG.2 j o (k8 e2 (k8 e1 h)) e1
   generalize P2 p (lm (p.ak.map (·.ap)) c)=m at*;generalize gZ:hasP p c=hs' at*
   try refine gf gZ ?_
   refine BL 13 2 (fun ix gF=>?_);have iz:im≠ix:=fun e=>by rw[<-e,gS]at gF;cases gF
   have iK:did≠ix:=fun e=>by rw[<-e,iG]at gF;cases gF
   refine AG [4,5,8,59,60,79,80] (fun (k:Nat) (out:List lR)=>k<=hs'.length/\out.length<=k/\Jh m hs'=out++Jh m (hs'.drop k)) (fun k out=>[(61,dI k),(13,.slice (out.map Ef) (.tag ix))]) (fun _ out=>(U'.del l).set ix (.tail 2 out.length)) (fun k _=>hs'.length-k) (0) ([]) k7 (fun k out hI=>?_);obtain⟨hk,hlen,hR⟩:=hI
   by_cases gj:k<hs'.length
   ·rw[A0 gj,Jh]at hR
    repeat' first|refine gf (gi gS (gi iz gZ)) ?_|apply gy<;>intro hh
    ·rw[hh,aS rfl]at hR;exact⟨k+1,out++[⟨hs'[k],getM 0 hs'[k] m⟩],⟨k0,by simp;omega,by rw[hR];simp⟩,td1,wkR⟩
    ·rw[hh,aQ k7]at hR;exact⟨k+1,out,⟨k0,k0,hR⟩,td1,wkR⟩
   ·rw[A1 gj,Jh,br]at hR
    try refine gf (gi gS (gi iz gZ)) ?_
    refine P3 [did] (U':=V) (d':=.tup [sl ((L6 p c).map Ef),dI 0]) ⟨by rw[aS rfl,aS rfl],rfl⟩ (fun j o h=>?_) (hd:=?_) (hw:=?_)
    ·obtain⟨h1,h2⟩:=jk j o h;simp only[dels,dW,fM,Sig.del,h2,bl];rw[w8 _ _ fun e=>by rw[e,gF]at h1;cases h1];exact h1
    ·simp only[bq,forall_eq];rw[w8 _ _ iK];exact iG
    ·rw[iq,hR];exact Iw ⟨AO _ _,A9 _,trivial⟩
@[reducible,instance] def a25:=fun p c V=>ah1 (@NH p c V)
def isLD:kM->Bool
 |.loop .. |.defs=>true
 |_=>false
def Kt{LO:kM}{ps:Array Tmp}{asg body:Code}{n:Nat}{Sl:Fr}{did:Nat}(h:LO=.loop .ready none ps asg body n Sl did):isLD LO=true/\isLD (Cx LO)=true:=by subst h;exact⟨rfl,rfl⟩
def MonoG{S:Type}(G:Sig->S->Prop):Prop:= ∀V U' s,G V s->(∀j x,V j=some x->isLD x=false->U' j=some x)->G U' s
def lc{S:Type}(G:Sig->S->Prop)(S0:Sig):Prop:= ∀l,S0 l=none->∀S1 S2 s,G S1 s->(∃x,S1 l=some x/\isLD x=true)->(∀j,j≠l->S2 j=S1 j)->G S2 s
def QR{S:Type}(G:Sig->S->Prop):Prop:= ∀V s a o,G V s->V a=none->G (V.set a o) s
def MonoG.indep{S:Type}{G:Sig->S->Prop}(h:MonoG G)(S0:Sig):lc G S0:=fun l _ S1 S2 s hG ⟨x,hx,hl⟩ hj=>h _ _ _ hG fun j y hy hd=>by
 rw[hj j fun e=>by rw[e,hx]at hy;cases hy;rw[hl]at hd;cases hd];exact hy
def MonoG.fresh{S:Type}{G:Sig->S->Prop}(h:MonoG G):QR G:=fun V s a o hG ha=>h _ _ _ hG fun j y hy _=>by
 rw[w8 _ _ fun e=>by rw[e,ha]at hy;cases hy];exact hy
def lc.older{S:Type}{G:Sig->S->Prop}{S0 S1:Sig}(h:lc G S0)(hs:∀j,S1 j=none->S0 j=none):lc G S1:=fun l hl=>h l (hs l hl)
def lq{S:Type}(l:Nat)(LO:kM)(G:Sig->S->Prop)(touch:Nat->Prop)(base:Sig):Sig->S->Prop:=fun U' s=>U' l=some LO/\G U' s/\kQ touch base U'
def lq.new{S:Type}{l:Nat}{LO:kM}{G:Sig->S->Prop}{touch:Nat->Prop}{base V:Sig}{s:S}{a:Nat}{o:kM}(hm:QR G)(h:lq l LO G touch base V s)(ha:V a=none):lq l LO G touch base (V.set a o) s:=by
 have ne:∀j x,V j=some x->j≠a:=fun j x hj e=>by rw[e,ha]at hj;cases hj
 obtain⟨h1,h2,h3⟩:=h
 exact⟨k8 (ne _ _ h1) h1,hm _ _ _ _ h2 ha,fun j x hj ht=>by
  have:=h3 j x hj ht
  rw[w8 _ _ (ne _ _ this)];exact this⟩
def lq.indep{S:Type}{l:Nat}{LO:kM}{G:Sig->S->Prop}{touch:Nat->Prop}{base S0:Sig}{s0:S}(h0:lq l LO G touch base S0 s0)(hi:lc G S0):lc (lq l LO G touch base) S0:=fun k hk S1 S2 s hG hx hj=>by
 have jb:l≠k:=fun e=>by have:=h0.1;rw[e,hk]at this;cases this
 refine⟨by rw[hj l jb];exact hG.1,hi k hk _ _ _ hG.2.1 hx hj,fun j x hb hn=>?_⟩;rw[hj j fun e=>by have:=h0.2.2 j x hb hn;rw[e,hk]at this;cases this];exact hG.2.2 j x hb hn
def K9{P:Program}{n:Nat}{Q:DX->St->Prop}{γ:Fr}{V:Sig}{df:List DDf}{gop:Operand}{ps:Array Tmp}{asg body:Code}{f:Nat}{first cap:fQ}{S:Type}(u:D)(G:Sig->S->Prop)(touch tp:Nat->Prop)(o:Option S)(s0:S)
  (hm:lc G V) (iF:QR G) (h0:G V s0) (ht:∀j,touch j->V j≠none) (iQ:∀j,tp j->V j≠none) (hf:ev γ gop=.func (.func f) first cap)
  (gG : ∀ l did LO SL,LO=kM.loop .ready none ps asg body n γ did->V did=none->(V.set did .defs) l=none -> ¬ touch l->SL=(V.set did .defs).set l LO->lq l LO G touch (V.set did .defs) SL s0->(∀ a,SL a=none -> ¬ touch a) ->
   aB P f (first++[.yld l]++cap) SL (lJ u (.tup []) (lq l LO G touch (V.set did .defs)) (kQ tp (V.set did .defs)) touch SL o))
  (gr:∀did s U',o=some s->V did=none->U' did=some .defs->G U' s->(∀j x,V j=some x->¬touch j->U' j=some x/\j≠did)->Q .normal ⟨γ,U',.coll did::df⟩)
  (d6:∀did U',o=none->V did=none->U' did=some .defs->(∀j x,V j=some x->¬tp j->U' j=some x/\j≠did)->Q (.panic u) ⟨γ,U',.coll did::df⟩) :
  DWp P none n (.rangeFunc gop ps asg body) Q ⟨γ,V,df⟩:=by
 have dne:∀{did:Nat},V did=none->∀j x,V j=some x->j≠did:=fun hd j x hj e=>by rw[e,hd]at hj;cases hj
 refine FK (R:=fun l did=>lJ u (.tup []) (lq l (kM.loop .ready none ps asg body n γ did) G touch (V.set did .defs)) (kQ tp (V.set did .defs)) touch ((V.set did .defs).set l (kM.loop .ready none ps asg body n γ did)) o) hf (fun l did hd hl fX=>?_) (fun l did d U' hd hl fX hr=>?_) (fun l did d U' hd hl fX hr=>?_)
 ·have gh:(V.set did .defs) l=none:=by first|exact hl|(rw[w8 _ _ fX];exact hl)
  have gK:V l=none:=by rw[w8 _ _ fX]at gh;exact gh
  refine gG l did _ _ rfl hd gh (fun h=>ht _ h gK) rfl ⟨w7 .., iF _ _ _ _ (iF _ _ _ _ h0 hd) gh,fun j x hj hn=>?_⟩ fun a ha h=>ht a h ?_
  ·rw[w8 _ _ fun e=>by rw[e,gh]at hj;cases hj];exact hj
  ·by_cases e1:a=l
   ·rw[e1,w7]at ha;cases ha
   ·rw[w8 _ _ e1]at ha
    by_cases e2:a=did
    ·rw[e2,w7]at ha;cases ha
    ·rw[w8 _ _ e2]at ha;exact ha
 ·have gh:(V.set did .defs) l=none:=by first|exact hl|(rw[w8 _ _ fX];exact hl)
  have gK:V l=none:=by rw[w8 _ _ fX]at gh;exact gh
  obtain⟨s,hs,rfl,⟨gU,gM,hK⟩,_⟩:=hr.ret;have jn:¬touch did:=fun h=>ht _ h hd;have dl:∀j,j≠l->(U'.del l) j=U' j:=fun j h=>by simp only[Sig.del,h,bl]
  refine⟨_,_,gU,k7,gr did s _ hs hd ?_ ?_ fun j x hj hn=>⟨?_,dne hd j x hj⟩⟩
  ·rw[dl _ (aZ fX)];exact hK did _ (w7 ..) jn
  ·exact hm l gK _ _ _ gM ⟨_,gU,rfl⟩ fun j hj=>dl j hj
  ·rw[dl _ (dne gK j x hj)];exact hK j x (k8 (dne hd j x hj) hj) hn
 ·obtain⟨hn,rfl,hb⟩:=hr.pan;exact d6 did U' hn hd (hb did _ (w7 ..) fun h=>iQ _ h hd) fun j x hj hn=>⟨hb j x (k8 (dne hd j x hj) hj) hn,dne hd j x hj⟩
section
variable {S:Type}{l:Nat}{LO:kM}{G:Sig->S->Prop}{touch:Nat->Prop}{base S1 S2:Sig}{s s':S}{u:D}{step:Option S}{γ:List (Nat×D)}{df:List DDf}{ps:Array Tmp}{asg body:Code}{n:Nat}{Sl:List (Nat×D)}{did:Nat}{Good:Sig->S->Prop}{Bad:Sig->Prop}
theorem IW(go:step=some s')(gB:LO=.loop .ready none ps asg body n Sl did)(hm:lc G base)(hG:lq l LO G touch base S1 s)(hl:¬touch l)(gH:base l=none)(iy:G S2 s')(hK:kQ touch (S1.set l (Cx LO)) S2):
  SP l LO (lJ u (.bool true) (lq l LO G touch base) Bad touch S1 step) .normal ⟨γ,S2,df⟩:=by
 subst go;have h2:S2 l=some (Cx LO):=hK l _ (w7 ..) hl
 have gA:kQ touch S1 (S2.set l LO):=fun j x hj hn=>by
  by_cases e:j=l
  ·rw[e,hG.1]at hj;rw[e,w7];exact hj
  ·rw[w8 _ _ e];exact hK j x (k8 e hj) hn
 exact⟨h2,rfl,⟨w7 .., hm l gH _ _ _ iy ⟨_,h2,(Kt gB).2⟩ fun j hj=>w8 _ _ hj,hG.2.2.trans gA⟩,gA⟩
theorem Ls(go:step=none)(hB:Bad S2):SP l LO (lJ u (.bool true) Good Bad touch S1 step) (.panic u) ⟨γ,S2,[]⟩:=by
 subst go;exact⟨rfl,rfl,hB⟩
theorem lq.bad{tp:Nat->Prop}(hG:lq l LO G touch base S1 s)(gH:base l=none)(ht:∀j,touch j->tp j)(hK:kQ tp (S1.set l (Cx LO)) S2):kQ tp base S2:=fun j x hj hn=>
 hK j x (by rw[w8 _ _ fun e=>by rw[e,gH]at hj;cases hj];exact hG.2.2 j x hj fun h=>hn (ht j h)) hn
theorem Vd{tp:Nat->Prop}{o:kM}(hK:kQ tp (S1.set l o) S2):kQ (fun j=>tp j\/j=l) S1 S2:=fun j x hj hn=>
 hK j x (by rw[w8 _ _ fun e=>hn (.inr e)];exact hj) fun h=>hn (.inl h)
theorem lJ.bad{r:D}{Good:Sig->S->Prop}{Bad Bad':Sig->Prop}{V U':Sig}{o:Option S}{x:DE}(h:lJ u r Good Bad touch V o x U')(hb:Bad U'->Bad' U'):lJ u r Good Bad' touch V o x U':=by
 cases o with
 |none=>exact⟨h.1,hb h.2⟩
 |some s=>exact h
theorem lq.busy(gB:LO=.loop .ready none ps asg body n Sl did)(hm:lc G base)(gH:base l=none)(hG:lq l LO G touch base S1 s):G (S1.set l (Cx LO)) s:=
 hm l gH _ _ _ hG.2.1 ⟨_,hG.1,(Kt gB).1⟩ fun j hj=>w8 _ _ hj
end
section
variable {P:Program}{ro:Option Nat}{n:Nat}{ops:Array Oper}{N:Nat}{S0:Sig}{Q:DX->St->Prop}{df:List DDf}{rest:List Oper}{γ Sr:List (Nat×D)}{V:Sig}{t:Nat}{ty:TypeId}{pos:String}{after:Array Edge}{l:List (Bool×Oper)}{d:D}
theorem yldWG{j:Nat}{want:Bool}{k:Nat}{fop:Operand}{args:Array Operand}{ats:Array TypeId}{l:Nat}{us:fQ}{R:DE->Sig->Prop}{dst:Option Tmp}(h:ku P l us V R)(gr:∀d U',R (.ret d) U'->aC P ro n ops Q rest ⟨putD dst d γ,U',df⟩)(d6:∀d U',R (.panic d) U'->Q (.panic d) ⟨γ,U',df⟩)
  (hk:(ops[j]?).bind (·.dst)=some k:=by exact tdR) (hb:γ.lookup k=some (.bool want):=by exact tdR) (hl:A7 γ (Ac (fop::args.toList))=some Sr:=by exact tdR) (hf:ev Sr fop=.yld l:=by exact tdR) (ha:args.toList.map (ev Sr)=us:=by(simp(disch:=first|omega|assumption) [Aq,big1,big2,w8]<;>(try simp only[BA,BB,B5,Bz,AM,B8,B7,B6,B4,AL,B3,B2,B1])<;>with_unfolding_all rfl))
  (ho:AJ n ⟨dst,(cv fop args ats),ty,pos,after,some (j,want)⟩=true:=by exact tdR) :
  aC P ro n ops Q (⟨dst,(cv fop args ats),ty,pos,after,some (j,want)⟩::rest) ⟨γ,V,df⟩:=by
 have hx:∀x∈fop::args.toList,ev Sr x=ev γ x:=fun x hx=>CA fun t ht=>Be hl t (BE (by rw[<-ht];exact hx))
 refine Mt (by simp only[AY,De hk hb];simp) (by rw[<-hx fop k7];exact hf) ?_ ho gr d6;rw[show args.toList.map (ev γ)=args.toList.map (ev Sr) from bF fun x h=>(hx x (by simp[h])).symm,ha];exact h
end
def KJ{P:Program}{n:Nat}{fn:Func}{R:DE->Sig->Prop}{γ:Fr}{V U':Sig}{d:D}(js:fU)(hR:R (.panic d) U')(hZ:Sub U' (dels js V))(hn:js.Nodup:=by simp)(hd:∀j∈js,V j=some .defs:=by simp): ∃s',Wk P n ⟨γ,V,js.map .coll⟩ s'/\Ub P n fn (Weak R) (.panic d) s':=
 ⟨_,Wk.refl _ _ _,js,rfl,hn,hd,.panic d,U',A9 _,hZ,hR⟩
def GG{V U':Sig}{did:Nat}(h:∀j x,V j=some x->U' j=some x/\j≠did):Sub V (dels [did] U'):=fun j x hj=>by
 obtain⟨h1,h2⟩:=h j x hj;simp only[dels,dW,fM,Sig.del,h2,bl];exact h1
section
variable {P:Program}{ro:Option Nat}{n:Nat}{Q:DX->St->Prop}{df:List DDf}{γ:List (Nat×D)}{V:Sig}
theorem loopD4{Sk:Fr}{α β δ ε:Type}{c:Code}(keep:fU)(I:α->β->δ->ε->Prop)(ov:α->β->δ->ε->Fr)(sg:α->β->δ->ε->Sig)(dg:α->β->δ->ε->List DDf)(μ:α->β->δ->ε->Nat)(x0:α)(y0:β)(z0:δ)(u0:ε)(h0:I x0 y0 z0 u0)
  (round:∀x y z u,I x y z u->DWp P ro n c (lW (fun s'=> ∃x' y' z' u',I x' y' z' u'/\μ x' y' z' u'<μ x y z u/\Wk P n s' ⟨ov x' y' z' u'++Sk,sg x' y' z' u',dg x' y' z' u'⟩) Q) ⟨ov x y z u++Sk,sg x y z u,dg x y z u⟩) (hk:Eu γ keep=some Sk:=by exact tdR) (h1:kr γ (ov x0 y0 z0 u0++Sk):=by(first|refine HN ?_ ?_|skip)<;>(repeat' first|exact HM|refine GF tdR ?_ ?_|(first|exact A9 _|exact AO _ _|exact An _ (.inl rfl)|exact EO _|(refine JQ _ ?_;first|omega|(simp;done)|(simp;omega))|(refine B9 ?_;(simp;done))|(refine B9 ?_;(simp[cI,cS,cII,EM,Cp,Cl];done))|(refine CY _ ?_;(simp[cI,cS,cII];done))|(refine B9 ?_;(simp_all;done))|assumption))) (h2:Sub (sg x0 y0 z0 u0) V:=by first|exact Sub.refl _|(refine BG ?_;simp;done)|assumption|exact(Sub.refl _).set (by assumption)) (h3:dg x0 y0 z0 u0=df:=by rfl):DWp P ro n (.loop c) Q ⟨γ,V,df⟩:=by
 subst h3;refine Sj (fun x:{x:α×β×δ×ε // I x.1 x.2.1 x.2.2.1 x.2.2.2}=>⟨ov x.1.1 x.1.2.1 x.1.2.2.1 x.1.2.2.2++Sk,sg x.1.1 x.1.2.1 x.1.2.2.1 x.1.2.2.2,dg x.1.1 x.1.2.1 x.1.2.2.1 x.1.2.2.2⟩) (fun x=>μ x.1.1 x.1.2.1 x.1.2.2.1 x.1.2.2.2) ⟨(x0,y0,z0,u0),h0⟩ (MU h1 h2) fun x=>FL (round x.1.1 x.1.2.1 x.1.2.2.1 x.1.2.2.2 x.2) ?_;intro e s h;cases e with
 |normal=>obtain⟨x',y',z',u',h3,h4,h5⟩:=h;exact⟨⟨(x',y',z',u'),h3⟩,h4,h5⟩
 |_=>exact h
end
def KZ: ∀(js:fU) (V:Sig) (j:Nat),j∉js->dels js V j=V j
 |[],_,_,_=>rfl
 |i::r,V,j,h=>by
  simp only[be,dX]at h;simp only[dels,dW];rw[show List.foldl Sig.del (V.del i) r=dels r (V.del i) from rfl,KZ r _ j h.2];simp only[Sig.del,h.1,bl]
def Yb{V U':Sig}{js:fU}(h:Sub V U')(hj:∀j∈js,V j=none):Sub V (dels js U'):=fun j x hx=>by
 rw[KZ js U' j fun hm=>by rw[hj j hm]at hx;cases hx];exact h j x hx
def lS(V:Sig)(sz:Nat):MR->fV->Prop
 |none,es=>es=[]
 |some (i,cap,rest),es=>V i=some (.cells (es.flatten++rest))/\(es.flatten++rest).length=cap*sz/\es.length<=cap /\ ∀e∈es,e.length=sz
def Cf:MR->Nat->Prop
 |none,_=>False
 |some (i,_,_),j=>j=i
def lS.cells{V:Sig}{sz:Nat}{st:MR}{es:fV}(h:lS V sz st es){j:Nat}(hj:Cf st j): ∃cs,V j=some (.cells cs):=by
 cases st with
 |none=>exact hj.elim
 |some x=>cases hj;exact⟨_,h.1⟩
def lS.keep{V U':Sig}{sz:Nat}{st:MR}{es:fV}(h:lS V sz st es)(hk:∀j o,V j=some o->Cf st j->U' j=some o):lS U' sz st es:=by
 cases st with
 |none=>exact h
 |some x=>exact⟨hk _ _ h.1 rfl,h.2⟩
def lS.mS{V:Sig}{sz:Nat}{st:MR}{es:fV}(h:lS V sz st es): ∃U',V=mS U' st es/\mOK U' sz st es/\(∀j o,V j=some o->¬Cf st j->U' j=some o) /\ ∀j o,U' j=some o->V j=some o /\ ¬Cf st j:=by
 cases st with
 |none=>exact⟨V,rfl,h,fun j o h _=>h,fun j o h=>⟨h,id⟩⟩
 | some x =>
  obtain⟨i,cap,rest⟩:=x;obtain⟨h1,h2,h3,h4⟩:=h;refine⟨V.del i,?_,⟨by simp[Sig.del],h2,h3,h4⟩,fun j o hj hn=>?_,fun j o hj=>?_⟩
  ·funext j
   simp only[DL.mS,Sig.set,Sig.del]
   by_cases e:j=i
   ·subst e;simp[h1]
   ·simp[e]
  ·have:j≠i:=hn;simp only[Sig.del,this,bl];exact hj
  ·by_cases e:j=i
   ·simp[Sig.del,e]at hj
   ·simp only[Sig.del,e,bl]at hj;exact⟨hj,e⟩
def R7{V:Sig}{sz:Nat}{st:MR}{es:fV}(h:mOK V sz st es):lS (mS V st es) sz st es:=by
 cases st with
 |none=>exact h
 |some x=>obtain⟨i,cap,rest⟩:=x;exact⟨w7 .., h.2⟩
def RowK(V:Sig)(st:MR)(U':Sig)(st':MR):Prop:= ∀j o,V j=some o->¬Cf st j->U' j=some o /\ ¬Cf st' j
def RowK.refl(V:Sig)(st:MR):RowK V st V st:=fun j o h hn=>⟨h,hn⟩
def RowK.trans{V S1 S2:Sig}{st st1 st2:MR}(h:RowK V st S1 st1)(k:RowK S1 st1 S2 st2):RowK V st S2 st2:=fun j o hj hn=>k _ _ (h j o hj hn).1 (h j o hj hn).2
def UA{V:Sig}{sz:Nat}{st st':MR}{es es':fV}(h:lS V sz st es){S1:Sig}(h1:mOK S1 sz st' es')(hk:∀j o,V j=some o->¬Cf st j->S1 j=some o):RowK V st (mS S1 st' es') st':=fun j o hj hn=>by
 have gW:=hk j o hj hn
 have hr:¬Cf st' j:=by
  cases st' with
  |none=>exact id
  |some x=>
   obtain⟨i,cap,rest⟩:=x;intro e;have e:j=i:=e;rw[e,h1.1]at gW;cases gW
 exact⟨V8 h1 gW,hr⟩
section
variable {ro:Option Nat}{n:Nat}{ops:Array Oper}{N:Nat}{S0:Sig}{Q:DX->St->Prop}{df:List DDf}{rest:List Oper}{γ Sr:List (Nat×D)}{V:Sig}{t:Nat}{ty:TypeId}{pos:String}{after:Array Edge}{d:D}
theorem rapp{T T' e e' sz:Nat}{s x:Operand}{es new:fV}{st:MR}(h:∀st' U',lS U' sz st' (es++new)->RowK V st U' st'->aC prog ro n ops Q rest ⟨(t,mD st' (es.length+new.length))::γ,U',df⟩)(hm:lS V sz st es:=by assumption)
  (hl:A7 γ (Ac [s,x])=some Sr:=by exact tdR) (hk:(tab T).k=.slice e:=by(simp<;>rfl)) (gk:(tab T').k=.slice e':=by(simp<;>rfl)) (he:A5 (tab e).k=false:=by simp) (gJ:(tab e).size=sz:=by simp)
  (h1:ev Sr s=mD st es.length:=by first|with_unfolding_all rfl|(simp[ev,getD,List.lookup];done)) (h2:kz (ev Sr x)=some new:=by(simp<;>with_unfolding_all rfl))
  (hlen':∀c∈new,c.length=sz:=by first|exact C5 _|exact Dy _|exact BX _|simp) (g8:∀c∈new,Dq c=true:=by simp[cI,cS,cII,Dq,D.flat])
  (hb:(es.length+new.length)*(tab e).bytes<=140737488355328:=by first|(simp;done)|(simp;omega)) (gT:es.length+new.length<=9223372036854775807:=by first|(simp;done)|(simp;omega)) (e7:decide (t<n)=true:=by exact tdR) :
  aC prog ro n ops Q (⟨some t,(cA s x T T'),ty,pos,after,none⟩::rest) ⟨γ,V,df⟩:=by
 obtain⟨e1,e2⟩:=evs hl;obtain⟨S1,rfl,fZ,gA,jd⟩:=hm.mS;exact KX Ag (by simpa using e7) hk gk he gJ (by rw[<-e1];exact h1) fZ (by rw[<-e2];exact h2) hlen' g8 hb gT (fun st' h'=>by rw[aO];exact h st' _ (R7 h') (UA hm h' gA))
theorem moRapp{T T' e e' sz:Nat}{s x:Operand}{es new:fV}{st:MR}{l:List (Bool×Oper)}(h:∀st' U',lS U' sz st' (es++new)->RowK V st U' st'->MO prog ro n ops N S0 Q df l ((t,mD st' (es.length+new.length))::γ) U')(hC:∀j o,S0 j=some o->V j=some o /\ ¬Cf st j)(hm:lS V sz st es:=by assumption)
  (hl:A7 γ (Ac [s,x])=some Sr:=by exact tdR) (hk:(tab T).k=.slice e:=by(simp<;>rfl)) (gk:(tab T').k=.slice e':=by(simp<;>rfl)) (he:A5 (tab e).k=false:=by simp) (gJ:(tab e).size=sz:=by simp)
  (h1:ev Sr s=mD st es.length:=by first|with_unfolding_all rfl|(simp[ev,getD,List.lookup];done)) (h2:kz (ev Sr x)=some new:=by(simp<;>with_unfolding_all rfl))
  (hlen':∀c∈new,c.length=sz:=by first|exact C5 _|exact Dy _|exact BX _|simp) (g8:∀c∈new,Dq c=true:=by simp[cI,cS,cII,Dq,D.flat])
  (hb:(es.length+new.length)*(tab e).bytes<=140737488355328:=by first|(simp;done)|(simp;omega)) (gT:es.length+new.length<=9223372036854775807:=by first|(simp;done)|(simp;omega)) (e7:decide (t<n)=true:=by exact tdR) :
  MO prog ro n ops N S0 Q df ((true,⟨some t,(cA s x T T'),ty,pos,after,none⟩)::l) γ V:=
 mo1 (fun U2 hx=>by
  obtain⟨e1,e2⟩:=J0 hl hx
  obtain⟨S1,rfl,fZ,gA,jd⟩:=hm.mS
  refine KX Ag (by simpa using e7) hk gk he gJ (by rw[e1];exact h1) fZ (by rw[e2];exact h2) hlen' g8 hb gT (fun st' h'=>?_)
  have hK:=UA hm h' gA
  refine AU ⟨rfl,?_⟩
  simp only[Aa,bI]
  exact⟨fun j o hj=>(hK j o (hC j o hj).1 (hC j o hj).2).1,by rw[aO];exact h st' _ (R7 h') hK⟩) e7
end
noncomputable def Sig.out(V:Sig)(touch:Nat->Prop):Sig:=open Classical in fun j=>if touch j then none else V j
def C3(V:Sig)(touch:Nat->Prop):Sub (V.out touch) V:=fun j o h=>by
 unfold Sig.out at h;split at h
 ·cases h
 ·exact h
def Ct{V:Sig}{touch:Nat->Prop}{j:Nat}{o:kM}(h:(V.out touch) j=some o):V j=some o /\ ¬touch j:=by
 unfold Sig.out at h;split at h
 ·cases h
 ·exact⟨h,by assumption⟩
def EH{V:Sig}{touch:Nat->Prop}{j:Nat}{o:kM}(h:V j=some o)(ht:¬touch j):(V.out touch) j=some o:=by
 unfold Sig.out;rw[aQ ht];exact h
section
variable {P:Program}{ro:Option Nat}{n:Nat}{Q:DX->St->Prop}{γ:List (Nat×D)}{V:Sig}{df:List DDf}
theorem ky{x1 b:Code}(ov:Fr)(U':Sig)(h2:DWp P ro n b Q ⟨ov++γ,U',df⟩)(h1:∀b,DWp P ro n b Q ⟨ov++γ,U',df⟩->DWp P ro n (.seq x1 b) Q ⟨γ,V,df⟩):DWp P ro n (.seq x1 b) Q ⟨γ,V,df⟩:=h1 b h2
theorem Zq{x1 x2 x3 x4 x5 x6 b:Code}(ov:Fr)(U':Sig)(h2:DWp P ro n b Q ⟨ov++γ,U',df⟩)(h1:∀b,DWp P ro n b Q ⟨ov++γ,U',df⟩->DWp P ro n (.seq x1 (.seq x2 (.seq x3 (.seq x4 (.seq x5 (.seq x6 b)))))) Q ⟨γ,V,df⟩):DWp P ro n (.seq x1 (.seq x2 (.seq x3 (.seq x4 (.seq x5 (.seq x6 b)))))) Q ⟨γ,V,df⟩:=h1 b h2
theorem Aw{V':Fr}{U':Sig}(h:TellsS γ [] V')(hZ:Sub U' V):Wk P n ⟨γ,V,df⟩ ⟨V',U',df⟩:=(G8 h hZ).2
end
section
variable {P:Program}{ro:Option Nat}{n:Nat}{ops:Array Oper}{Q:DX->St->Prop}{df:List DDf}{rest:List Oper}{γ:List (Nat×D)}{V:Sig}
theorem mixT{lo:List Oper}{id:Nat}(k:Nat)(ord E:fU){lp:List (Bool×Oper)}{ls:List Oper}(h:MO prog ro n lo.toArray 334 V (lW (fun s=>aC prog ro n lo.toArray Q ls s) Q) df lp γ V)(hB:Qr lo.toArray E ord k=true:=by kernel_rfl)(ja:lo.drop k=ls:=by exact tdR)(hl:Hn lo E ord=some lp:=by exact tdR):DWp prog ro n (.region id lo.toArray true) Q ⟨γ,V,df⟩:=by
 subst ja;exact Zn Ap mixed k ord E V hB (Sub.refl _) hl h
theorem ent3{t1 t2 T id:Nat}{x:Operand}{s:ByteArray}{v:Int}{ty1 ty2 ty3:TypeId}{p1 p2 p3:String}{f1 f2 f3:Array Edge}{m:List (Str×Int)}
  (h:aC prog ro n ops Q rest ⟨(t2,.any)::(t1,.any)::γ,V.set id (.map (eSN (putM s.data.toList v m))),df⟩) (hZ:V id=some (.map (eSN m)):=by first|assumption|exact w7 ..) (hm:ev γ x=.map id:=by exact tdR) (hT:T=158:=by rfl) (iS:decide (t1<n)=true:=by exact tdR) (iR:decide (t2<n)=true:=by exact tdR) (iM:x≠.tmp t1:=by simp) (iL:x≠.tmp t2:=by simp) :
  aC prog ro n ops Q (⟨some t1,.mapEntry T x (.const (.string s)),ty1,p1,f1,none⟩::⟨some t2,.extract (.tmp t1) 1,ty2,p2,f2,none⟩::⟨none,.entryStore T x (.tmp t2) (.const (.int .i64 v)),ty3,p3,f3,none⟩::rest) ⟨γ,V,df⟩:=by
 subst hT;exact QF (tab:=tab) (kt:=9) (et:=3) (l:=eSN m) (zd:=dI 0) Ag rfl rfl rfl rfl hm hZ (putSN _ _ _) (by simpa using iS) (by simpa using iR) iM iL k7 k7 h
end
def cB8(s:Str):fV:=s.map fun b=>[D.int .u8 (b.toNat:Int)]
@[simp] theorem cB8_len(l:Str):(cB8 l).length=l.length:=by simp[cB8]
@[simp] theorem cB8_mem(l:Str): ∀c∈cB8 l,c.length=1:=by simp[cB8]
section
variable {ro:Option Nat}{n:Nat}{ops:Array Oper}{Q:DX->St->Prop}{df:List DDf}{rest:List Oper}{γ Sr:List (Nat×D)}{V:Sig}{t:Nat}{ty:TypeId}{pos:String}{after:Array Edge}{gd:Option (Nat×Bool)}
theorem strR{T T' e:Nat}{x:Operand}(s:Str)(h:aC prog ro n ops Q rest ⟨(t,.str s)::γ,V,df⟩)(hl:A7 γ (Ac [x])=some Sr:=by exact tdR)(hx:kz (ev Sr x)=some (cB8 s):=by exact tdR)(hw:AY ops γ ⟨some t,.convert T T' x,ty,pos,after,gd⟩=some true:=by exact tdR)(e7:decide (t<n)=true:=by exact tdR)
  (hk:(tab T).k=.slice e:=by(simp<;>rfl)) (gk:(tab T').k=.str:=by(simp<;>rfl)) (jc:(tab e).k=.int .u8:=by(simp<;>rfl)) :
  aC prog ro n ops Q (⟨some t,.convert T T' x,ty,pos,after,gd⟩::rest) ⟨γ,V,df⟩:=Zr Ag h hw (by simpa using e7) hk gk jc (by rw[<-Cz hl];exact hx)
theorem skpV{P:Program}{j:Nat}{want:Bool}{k:Nat}{fop:Operand}{args:Array Operand}{ats:Array TypeId}(h:aC P ro n ops Q rest ⟨(t,.tup [])::γ,V,df⟩)(hk:(ops[j]?).bind (·.dst)=some k:=by exact tdR)(hb:γ.lookup k=some (.bool (!want)):=by exact tdR)(hl:A7 γ (Ac [fop])=some Sr:=by exact tdR)(hf:ev Sr fop=.tup []:=by exact tdR)(e7:decide (t<n)=true:=by exact tdR):
  aC P ro n ops Q (⟨some t,(cv fop args ats),ty,pos,after,some (j,want)⟩::rest) ⟨γ,V,df⟩:=by
 intro g w a r hr hs';have iP:AY ops γ ⟨some t,(cv fop args ats),ty,pos,after,some (j,want)⟩=some false:=by simp only[AY,De hk hb];simp
 have he:=Az hs'.tmps fop;rw[Cz hl]at hf;rw[hf]at he;obtain⟨vs,hv,e8⟩:=he;obtain rfl:vs=[]:=e8;unfold wpListIn;rw[B0 hs'.tmps iP,aQ k7];refine⟨fun f hf=>?_,h g w _ r hr ?_⟩
 ·unfold Oper.about at hf;simp[resolve,hv,Deferred.ofValue,stuck,Sem.run]at hf
 ·exact hs'.put (g':=g) (o:=⟨some t,(cv fop args ats),ty,pos,after,some (j,want)⟩) (d:=.tup []) (.refl g) hs'.sim ⟨[],rfl,rfl⟩ e7
end
section
variable {ro:Option Nat}{n:Nat}{ops:Array Oper}{N:Nat}{S0:Sig}{Q:DX->St->Prop}{df:List DDf}{rest:List Oper}{γ Sr:List (Nat×D)}{V:Sig}{t:Nat}{ty:TypeId}{pos:String}{after:Array Edge}{l:List (Bool×Oper)}{d:D}{ef:Bool}
theorem moQAppC{s x:Operand}{T T' e e':Nat}{es new:fV}(k1:MO prog ro n ops N S0 Q df l ((t,.slice (es++new) .no)::γ) V)(hl:A7 γ (Ac [s,x])=some Sr:=by exact tdR)(hk:(tab T).k=.slice e:=by(simp<;>rfl))(gk:(tab T').k=.slice e':=by(simp<;>rfl))(he:A5 (tab e).k=false:=by simp)
  (h1:ev Sr s=.slice es .clip:=by exact tdR) (h2:kz (ev Sr x)=some new:=by(simp<;>with_unfolding_all rfl))
  (hlen:∀c∈es,c.length=(tab e).size:=by first|exact C5 _|exact Dy _|exact BX _|simp) (hlen':∀c∈new,c.length=(tab e).size:=by first|exact C5 _|exact Dy _|exact BX _|simp)
  (hb:(es.length+new.length)*(tab e).bytes<=140737488355328:=by first|(simp;done)|(simp;omega)) (hm:es.length+new.length<=9223372036854775807:=by first|(simp;done)|(simp;omega)) (e7:decide (t<n)=true:=by exact tdR) :
  MO prog ro n ops N S0 Q df ((ef,⟨some t,(cA s x T T'),ty,pos,after,none⟩)::l) γ V:=by
 have iC:∀y∈((cA s x T T')).operands,ev (only (Oper.looksAt ops ⟨some t,(cA s x T T'),ty,pos,after,none⟩) γ) y=ev γ y:=fun y hy=>Cw (o:=⟨some t,(cA s x T T'),ty,pos,after,none⟩) hy;have hx:∀y∈[s,x],ev Sr y=ev γ y:=fun y hy=>CA fun t ht=>Be hl t (BE (by rw[<-ht];exact hy))
 refine Rn (.slice (es++new) .no) e7 rfl (by rw[Bg];rfl) (fun U' jx ro' df'=>?_) k1;have a1:ev (only (Oper.looksAt ops ⟨some t,(cA s x T T'),ty,pos,after,none⟩) γ) s=.slice es .clip:=by rw[iC s (by simp[Op.operands,Call.operands]),<-hx s k7];exact h1
 have a2:kz (ev (only (Oper.looksAt ops ⟨some t,(cA s x T T'),ty,pos,after,none⟩) γ) x)=some new:=by rw[iC x (by simp[Op.operands,Call.operands]),<-hx x k7];exact h2
 by_cases hne:new=[]
 ·subst hne;refine E3 Ag (es:=es) (by rw[Bg];rfl) (by simpa using e7) hk gk he (by rw[a1];rfl) a2 ?_;rw[a1];exact Cd (C9 (t:=t) (d:=.slice (es++[]) .no) (by simp only[Aa,bI,br];exact AO _ _)) (AU ⟨rfl,by simp only[Aa,bI],Sub.refl _⟩)
 ·exact Co Ag (by rw[Bg];rfl) (by simpa using e7) hk gk he a1 a2 hne hlen hlen' hb hm fun i hi=>Cd (C9 (t:=t) (d:=.slice (es++new) .no) (by simp only[Aa,bI];exact AO _ _)) (AU ⟨rfl,by simp only[Aa,bI],(Sub.refl _).set hi⟩)
end
def dwp_cutE3{P:Program}{ro:Option Nat}{n:Nat}{Q:DX->St->Prop}{γ:Fr}{V:Sig}{df:List DDf}{x1 x2 x3 b:Code}(C:Nat->Prop)(ov:Nat->Fr)(U':Nat->Sig)(h2:∀i,C i->DWp P ro n b Q ⟨ov i,U' i,df⟩)(h1:∀b,(∀i,C i->DWp P ro n b Q ⟨ov i,U' i,df⟩)->DWp P ro n (.seq x1 (.seq x2 (.seq x3 b))) Q ⟨γ,V,df⟩):DWp P ro n (.seq x1 (.seq x2 (.seq x3 b))) Q ⟨γ,V,df⟩:=h1 b h2
end Go.DL
