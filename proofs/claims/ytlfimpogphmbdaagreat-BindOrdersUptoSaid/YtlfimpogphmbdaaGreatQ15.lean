/- A part of the proof. -/
import Derived.Test.YtlfimpogphmbdaaGreatQ14
set_option linter.all false
namespace Go.DL
open Go.Proofs.Tryz
open Go Go.Proofs
set_option maxHeartbeats 8000000
def CH:Int->fF->Option Int
 |n,[]=>some n
 |n,s::r=>if s=n then CH (n+1) r else none
def Fz:Int->List ax->Option Int
 |n,[]=>some n
 |n,c::r=>if 4<c.ae.length\/3<c.ag.length then none else match CH n c.ae with
  |none=>none
  |some m=>Fz m r
def Fy(w:World)(N c:Int)(x:Init):Bool:=decide (0<=x.slot/\x.slot<N)&&hasW w c x.slot&&inB x.n
def FR(w:World)(N c:Int):List Init->List Init->Bool
 |_,[]=>true
 |seen,x::r=>Fy w N c x&&(seen.all fun y=> !decide (y.slot=x.slot))&&FR w N c (seen++[x]) r
def DS(w:World)(N:Int):Nat->List ax->Bool
 |_,[]=>true
 |i,c::r=>decide (0<(FO w.ag ((i:Int)+3)).length)&&FR w N ((i:Int)+3) [] c.ai&&DS w N (i+1) r
def AG(p:aw):Bool:=decide (p.aa.length<=10)&&match Fz 0 p.aa with
 |none=>false
 |some n=>decide (n=p.ae)&&Bu (p.aa.map (·.ag))&&DS (AK p) n 0 p.aa
theorem Ch: ∀(l:List ax) (i:Nat),(ownersF l i).length=wtL (fun c:ax=>c.ae.length) l
 |[],_=>rfl
 |c::r,i=>by rw[ownersF,aH,bu,Ch r];rfl
theorem GU: ∀{l:List ax}{i:Nat}{x:Int},x∈ownersF l i->3+(i:Int)<=x/\x<3+i+l.length
 |[],_,_,h=>by cases h
 |c::r,i,x,h=>by
  rw[ownersF]at h
  rcases bk.1 h with h|h
  ·have:=dm h;rw[aP];omega
  ·have:=GU h;rw[aP];omega
theorem WX (p:aw) (V:Sig) (hp:p.wt<=1073741824:=by exact sd):au prog 90 [.agg (Ai p)] V (rS (.bool (AG p)) V):=by
 obtain⟨p1,p2,p3,p4,p5,p6,p7⟩:=p.wt_le
 have ws:=H6 p
 have fK:∀c∈p.aa,c.ag.length<=1073741824/\c.ae.length<=1073741824/\c.ai.length<=1073741824:=fun c hc=>by
  obtain⟨k,hk,rfl⟩:=bh hc
  have:=p5 k hk
  have gh:(p.aa[k]).wt=1+(p.aa[k]).ag.length+(p.aa[k]).ae.length+(p.aa[k]).ai.length:=rfl
  omega
 refine en func90 ntmps90 ?_
 repeat' first|refine gz ?_ o90|apply gy<;>intro hh
 ·(refine fin1 (S':=V) ?_;exact⟨by first|rfl|(simp[AG];done)|(simp_all [AG];done)|(rw[A5,aO];simp_all [AG]<;>omega),rfl⟩)
 refine AB [1,7,8,9,10,11,12,13,14,15,60,61,62,63,64,65,66,67,68,69,70,71,72,73,74,75,76,77,78,79,80,81,82,83,84,85,86,87,88,89,90,91,92,93,94,95,96,97,98,99,100,101,102,103,104,105,106,107,108,109,110,111,112,113,114,115,116,117,118,119,120,121,122,123,124,125,126,127,128,129,130,131,132,133,134,135,136,137,138,139,140,141,142,143,144,145,146,147,148,149,150,151,152] (fun (i:Nat) (n:Int)=>i<=p.aa.length/\n=wtL (fun c:ax=>c.ae.length) (p.aa.take i)/\Fz 0 p.aa=Fz n (p.aa.drop i)) (fun i n=>[(4,dI i),(3,dI n)]) (fun _ _=>V) (fun i _=>p.aa.length-i) (0) (0) (by simp[wtL]) (fun i n hI=>?_)
 obtain⟨hi,hn,hR⟩:=hI
 by_cases h:i<p.aa.length
 ·have hx:=fK _ (aJ h)
  have hT:=IE (fun c:ax=>c.ae.length) p.aa i h
  have iJ:=EY (fun c:ax=>c.ae.length) p.aa (i+1)
  rw[A2 h,Fz]at hR
  repeat' first|refine gz ?_ o90|apply gy<;>intro hh
  ·have hc:Fz 0 p.aa=none:=by rw[hR,aS (.inl (by omega))]
   (refine fin1 (S':=V) ?_;exact⟨by first|rfl|(simp[AG,hc];done)|(simp_all [AG,hc];done)|(rw[A5,aO];simp_all [AG,hc]<;>omega),rfl⟩)
  ·have hc:Fz 0 p.aa=none:=by rw[hR,aS (.inr (by omega))]
   (refine fin1 (S':=V) ?_;exact⟨by first|rfl|(simp[AG,hc];done)|(simp_all [AG,hc];done)|(rw[A5,aO];simp_all [AG,hc]<;>omega),rfl⟩)
  ·rw[aN (by omega)]at hR
   generalize gk:(p.aa[i]).ae=sl' at*
   refine B5 [1,4,5,7,8,9,10,11,12,13,14,15,20,21,22,23,24,25,26,27,28,29,30,31,32,33,34,35,36,37,38,39,40,41,42,43,44,45,60,61,62,63,64,65,66,67,68,69,70,71,72,73,74,75,76,77,78,79,80,81,82,83,84,85,86,87,88,89,90,91,92,93,94,95,96,97,98,99,100,101,102,103,104,105,106,107,108,109,110,111,112,113,114,115,116,117,118,119,120,121,122,123,124,125,126,127,128,129,130,131,132,133,134,135,136,137,138,139,140,141,142,143,144,145,146,147,148,149,150,151,152] (fun (q:Nat)=>q<=sl'.length/\CH n sl'=CH (n+q) (sl'.drop q)) (fun q=>[(6,dI q),(3,dI (n+q))]) (fun _=>V) (fun q=>sl'.length-q) (0) (by simp) (fun q hI=>?_)
   obtain⟨hq,hQ⟩:=hI
   by_cases gE:q<sl'.length
   ·rw[A2 gE,CH]at hQ
    have g9:=hx.2.1
    have iz:0<=n:=by omega
    have iy:n<=1073741824:=by omega
    repeat' first|refine gz ?_ o90|apply gy<;>intro hh
    ·rw[aN hh]at hQ
     have hc:Fz 0 p.aa=none:=by rw[hR,hQ]
     (refine fin1 (S':=V) ?_;exact⟨by first|rfl|(simp[AG,hc];done)|(simp_all [AG,hc];done)|(rw[A5,aO];simp_all [AG,hc]<;>omega),rfl⟩)
    ·rw[aS hh]at hQ
     exact⟨q+1,⟨by omega,by rw[hQ,Int.add_assoc];rfl⟩,td1,wkR⟩
   ·rw[A1 gE,CH]at hQ
    rw[hQ]at hR
    have gD:q=sl'.length:=by omega
    try refine gz ?_ o90
    exact⟨i+1,n+q,⟨by omega,by rw[hT];omega,hR⟩,td1,wkR⟩
 ·rw [A1 h,Fz] at hR
  have fQ:(AK p).ag=p.aa.map (·.ag):=rfl
  have go:(AK p).owner.length=wtL (fun c:ax=>c.ae.length) p.aa:=Ch _ _
  have gT:n=wtL (fun c:ax=>c.ae.length) p.aa:=by rw[hn,bA (by omega)]
  have fX:=QB p V (by omega) (fun c hc=>(fK c hc).1)
  have gv:=IV p V (by omega) (fun c hc=>(fK c hc).1) (fun c hc=>(fK c hc).2.1) (by rw[Ch];omega)
  have d9:=V9 (p.aa.map (·.ag)) .no V (by simp;omega) (fun x hx=>by obtain⟨c,hc,rfl⟩:=bO.1 hx;exact(fK c hc).1)
  by_cases hs:n=p.ae
  ·cases hg:Bu (p.aa.map (·.ag)) with
   |false=>
    rw[hg]at d9
    repeat' first|refine gz ?_|refine Aq (fX) ?_|refine callP (fX) ?_|refine EU (d9) ?_|refine callPG (d9) ?_|refine gz ?_ o90|apply gy<;>intro hh
    (refine fin1 (S':=V) ?_;exact⟨by first|rfl|(simp[AG,hR,hg];done)|(simp_all [AG,hR,hg];done)|(rw[A5,aO];simp_all [AG,hR,hg]<;>omega),rfl⟩)
   | true =>
    rw[hg]at d9
    have fV:AG p=DS (AK p) n 0 p.aa:=by unfold AG;rw[hR];simp[hs,hg];omega
    repeat' first|refine gz ?_|refine Aq (fX) ?_|refine callP (fX) ?_|refine EU (d9) ?_|refine callPG (d9) ?_|refine Aq (gv) ?_|refine callP (gv) ?_|refine gz ?_ o90|apply gy<;>intro hh
    have gR:∀x∈(AK p).owner,0<=x/\x<3+(AK p).ag.length:=fun x hx=>by
     have:=GU hx
     rw[fQ,aZ];omega
    have gY:Bu (AK p).ag=true:=hg
    have gL:(AK p).ag.length=p.aa.length:=by rw[fQ,aZ]
    have go:((AK p).owner.length:Int)=n:=by rw[gT];exact_mod_cast go
    clear fX gv d9
    generalize hw:AK p=w at*
    refine B5 [1,3,7,8] (fun (j:Nat)=>j<=p.aa.length/\DS w n 0 p.aa=DS w n j (p.aa.drop j)) (fun j=>[(9,dI j)]) (fun _=>V) (fun j=>p.aa.length-j) (0) (by simp) (fun j hI=>?_)
    obtain⟨hj,hJ⟩:=hI
    by_cases h':j<p.aa.length
    ·have hx:=fK _ (aJ h')
     rw[A2 h',DS]at hJ
     have fW:=Xp w.ag ((j:Int)+3) .no V gY (by omega) (fun x hx=>by rw[fQ]at hx;obtain⟨c,hc,rfl⟩:=bO.1 hx;exact(fK c hc).1)
     rw[fQ]at fW
     by_cases hl:0<(FO w.ag ((j:Int)+3)).length
     ·rw [aX hl,aW] at hJ
      rw[fQ]at hl
      rw[aX hl]at fW
      generalize gG:(p.aa[j]).ai=ins at hJ hx
      repeat' first|refine gf gG ?_|refine Aq (fW) ?_|refine callP (fW) ?_|refine gf gG ?_ o90|apply gy<;>intro hh
      refine B5 [1,3,7,8,9,10,11,12,13,73,74,75,76,77,78,79,80,81,82,83,84,85,86,87,88,89,90,91,92,93,94,95] (fun (k:Nat)=>k<=ins.length/\FR w n ((j:Int)+3) [] ins=FR w n ((j:Int)+3) (ins.take k) (ins.drop k)) (fun k=>[(14,dI k)]) (fun _=>V) (fun k=>ins.length-k) (0) (by simp) (fun k hI=>?_)
      obtain⟨hk,hK⟩:=hI
      by_cases e8:k<ins.length
      ·have iD:=hx.2.2
       rw[A2 e8,FR]at hK
       repeat' first|refine gz ?_ o90|apply gy<;>intro hh
       ·have hf:Fy w n ((j:Int)+3) ins[k]=false:=by unfold Fy;rw[aV (by omega)];rfl
        rw[hf,bi,bi]at hK
        rw[hK,bi]at hJ
        exact fe1 (gi fV hJ)
       ·have hf:Fy w n ((j:Int)+3) ins[k]=false:=by unfold Fy;rw[aV (by omega)];rfl
        rw[hf,bi,bi]at hK
        rw[hK,bi]at hJ
        exact fe1 (gi fV hJ)
       ·have hf:Fy w n ((j:Int)+3) ins[k]=false:=by unfold Fy;simp_all
        rw[hf,bi,bi]at hK
        rw[hK,bi]at hJ
        exact fe1 (gi fV hJ)
       ·have hf:Fy w n ((j:Int)+3) ins[k]=false:=by unfold Fy;simp_all
        rw[hf,bi,bi]at hK
        rw[hK,bi]at hJ
        exact fe1 (gi fV hJ)
       ·have ht:Fy w n ((j:Int)+3) ins[k]=true:=by unfold Fy;rw[aX (by omega)];simp_all
        rw[ht,aW]at hK
        refine B5 [1,3,7,8,9,10,11,12,13,14,73,74,75,76,77,78,79,80,81,82,83,84,85,86,87,88,89,90,91,92,93,94,95,96,97,98,99,100,101,102,103,104,105,106,107,108,109,110,111,112,113,114,115,116,117,118,119,120,121,122,123,124,125,126,127,128,129,130,131,132,133,134,135,136] (fun (m:Nat)=>m<=k/\((ins.take m).all fun y=> !decide (y.slot=(ins[k]).slot))=true) (fun m=>[(15,dI m)]) (fun _=>V) (fun m=>k-m) (0) (by simp) (fun m hI=>?_)
        obtain⟨hm,hM⟩:=hI
        by_cases fM:m<k
        ·have gV:m<ins.length:=by omega
         repeat' first|refine gz ?_ o90|apply gy<;>intro hh
         ·have hf:((ins.take k).all fun y=> !decide (y.slot=(ins[k]).slot))=false:=by
           rw[List.all_eq_false]
           exact⟨ins[m],List.mem_take_iff_getElem.2 ⟨m,by omega,rfl⟩,by simp[hh]⟩
          rw[hf,bi]at hK
          rw[hK,bi]at hJ
          exact fe1 (gi fV hJ)
         ·exact⟨m+1,⟨by omega,by rw[bE gV,ed,hM];simp[hh]⟩,td1,wkR⟩
        ·have gW:m=k:=by omega
         subst gW
         rw[hM,aW]at hK
         try refine gz ?_ o90
         exact⟨m+1,⟨by omega,by rw[hK,AH e8]⟩,td1,wkR⟩
      ·rw[A1 e8,FR]at hK
       rw[hK,aW]at hJ
       try refine gz ?_ o90
       exact⟨j+1,⟨by omega,hJ⟩,td1,wkR⟩
     ·rw[aV hl,bi,bi]at hJ
      rw[fQ]at hl
      rw[aV hl]at fW
      repeat' first|refine gz ?_|refine Aq (fW) ?_|refine callP (fW) ?_|refine gz ?_ o90|apply gy<;>intro hh
      exact fe1 (gi fV hJ)
    ·rw[A1 h',DS]at hJ
     try refine gz ?_ o90
     exact fe1 (gi fV hJ)
  ·repeat' first|refine gz ?_|refine Aq (fX) ?_|refine callP (fX) ?_|refine gz ?_ o90|apply gy<;>intro hh
   (refine fin1 (S':=V) ?_;exact⟨by first|rfl|(simp[AG,hR,hs];done)|(simp_all [AG,hR,hs];done)|(rw[A5,aO];simp_all [AG,hR,hs]<;>omega),rfl⟩)
def Wz(w:World)(l:fF):Bool:=l.all (fun s=>decide (0<=s/\s<w.owner.length))&&decide (l.length<=2)
def GM(op:Int):Int:=if op=5 then 1 else if op=6\/op=7 then 2 else 0
def K1(w:World)(f:Fact):Bool:=
 if f.op=2 then decide (f.n=0)&&decide (0<=f.cls/\f.cls<3+w.ag.length)
 else if f.op=3\/f.op=4 then decide (f.cls=0)&&decide (-1000000000<=f.n/\f.n<=1000000000)
 else decide (f.op=1\/f.op=5\/f.op=6\/f.op=7)
def Fh(w:World)(f:Fact):Bool:=
 decide ((f.ah.length:Int)=GM f.op)&&decide (0<=f.arg/\f.arg<3)&&Wz w f.path&&(C9 f.op||(decide (f.arg=0)&&decide (f.path.length=0)&&decide (f.cls=0)&&decide (f.n=0)))
mutual
def Jw(w:World):Fact->Bool
 |.mk o a p c n k=>K1 w (.mk o a p c n k)&&Fh w (.mk o a p c n k)&&E9 w k
def E9(w:World):List Fact->Bool
 |[]=>true
 |f::l=>Jw w f&&E9 w l
end
theorem Q9(w:World)(f:Fact):Jw w f=(K1 w f&&Fh w f&&E9 w f.ah):=by cases f;rw[Jw];rfl
theorem Ans.of{f:Nat}{us:fE}{V:Sig}{d:D}(h:au prog f us V (rS d V)):Ans f us V True d:=⟨fun _=>h⟩
theorem Oi (w:World) (f:Fact) (V:Sig) (hw:w.ag.length<=1073741824:=by exact sd) (gj:w.owner.length<=1073741824:=by exact sd) (hf:f.wt<=1073741824:=by exact sd) :
  au prog 179 [.agg (C8 w),.agg (AS f)] V (rS (.bool (Jw w f)) V):=by
 obtain⟨f1,f2,f3⟩:=f.wt_le
 have fN:∀(k:Nat) (hk:k<f.ah.length),au prog 179 [.agg (C8 w),.agg (AS (f.ah[k]))] V (rS (.bool (Jw w (f.ah[k]))) V):=fun k hk=>Oi w (f.ah[k]) V hw gj (by have:=f3 k hk;omega)
 have d6:=Q9 w f
 refine en func179 ntmps179 ?_
 cases ho:K1 w f with
 | false =>
  rw[ho,bi,bi]at d6
  unfold K1 at ho
  by_cases h2:f.op=2
  ·rw[aS h2,eP,be]at ho
   by_cases hn:f.n=0
   ·have hc:decide (0<=f.cls/\f.cls<3+(w.ag.length:Int))=false:=ho.resolve_left (fun h=>h hn)
    refine gf (gi h2 hc) ?_
    exact fe1 d6
   ·refine gf h2 ?_
    exact fe1 d6
  ·rw [aN h2] at ho
   by_cases fO:f.op=3\/f.op=4
   ·rw [aS fO,eP,be,be] at ho
    by_cases hc:f.cls=0
    ·by_cases hn:f.n < -1000000000
     ·rcases fO with h3|h4
      ·refine gz ?_
       exact fe1 d6
      ·refine gz ?_
       exact fe1 d6
     ·rcases fO with h3|h4
      ·refine gz ?_
       exact fe1 d6
      ·refine gz ?_
       exact fe1 d6
    ·rcases fO with h3|h4
     ·refine gz ?_
      exact fe1 d6
     ·refine gz ?_
      exact fe1 d6
   ·rw[aN fO]at ho
    have iv:=of_decide_eq_false ho
    refine gz ?_
    exact fe1 d6
 | true =>
  rw[ho,aW]at d6
  unfold K1 at ho
  repeat ((fail_if_success refine dwp_join (c:=.block 0 _) 5 (dI 0) ?_ ?_);(refine go1 trivial ?_))
  refine dwp_join (c:=.block 0 _) 5 (dI (GM f.op)) ?_ ?_
  ·by_cases h2:f.op=2
   ·rw[aS h2,aI,aL]at ho
    have e7:GM f.op=0:=by rw[h2];rfl
    refine gf (gi h2 ho.2) ?_
    refine FB ?_ (Sub.refl _);simp[e7]
   ·rw[aN h2]at ho
    by_cases fO:f.op=3\/f.op=4
    ·rw[aS fO,aI,aL,aL]at ho
     rcases fO with h3|h4
     ·have e7:GM f.op=0:=by rw[h3];rfl
      refine gz ?_
      refine FB ?_ (Sub.refl _);simp[e7]
     ·have e7:GM f.op=0:=by rw[h4];rfl
      refine gz ?_
      refine FB ?_ (Sub.refl _);simp[e7]
    ·rw[aN fO]at ho
     rcases cx ho with h1|h1|h1|h1
     ·have e7:GM f.op=0:=by rw[h1];rfl
      refine gz ?_
      refine FB ?_ (Sub.refl _);simp[e7]
     ·have e7:GM f.op=1:=by rw[h1];rfl
      refine gz ?_
      refine FB ?_ (Sub.refl _);simp[e7]
     ·have e7:GM f.op=2:=by rw[h1];rfl
      refine gz ?_
      refine FB ?_ (Sub.refl _);simp[e7]
     ·have e7:GM f.op=2:=by rw[h1];rfl
      refine gz ?_
      refine FB ?_ (Sub.refl _);simp[e7]
  ·clear ho
   have g8:GM f.op=0\/GM f.op=1\/GM f.op=2:=by
    unfold GM;split
    ·exact .inr (.inl rfl)
    ·split
     ·exact .inr (.inr rfl)
     ·exact .inl rfl
   have e9:au prog 232 [.agg (C8 w),.slice (cI f.path) .no] V (rS (.bool (Wz w f.path)) V):=UE w f.path .no V gj (by omega)
   have fJ:=Oh f V
   cases hr:Fh w f with
   | false =>
    rw[hr,bi]at d6
    unfold Fh at hr
    by_cases hk:(f.ah.length:Int)=GM f.op
    ·rw [aX hk,aW] at hr
     by_cases iI:f.arg<0
     ·refine gz ?_
      exact fe1 d6
     ·by_cases iH:3<=f.arg
      ·refine gz ?_
       exact fe1 d6
      ·rw [aX (by omega),aW] at hr
       cases hp:Wz w f.path with
       |false=>
        rw[hp]at e9
        have i232:=Ans.of e9
        refine gz ?_
        exact fe1 d6
       | true =>
        rw[hp]at e9
        have i232:=Ans.of e9
        rw[hp,aW,dD]at hr
        rw[hr.1]at fJ
        have i180:=Ans.of fJ
        have ij:¬(f.arg=0/\(f.path.length=0)/\f.cls=0/\f.n=0):=fun h=>by
         have:=hr.2;rw[aX h.1,aX h.2.1,aX h.2.2.1,aX h.2.2.2]at this;cases this
        by_cases gQ:f.arg=0
        ·by_cases gD:f.path.length=0
         ·by_cases gP:f.cls=0
          ·refine gz ?_
           exact fe1 d6
          ·refine gz ?_
           exact fe1 d6
         ·refine gz ?_
          exact fe1 d6
        ·refine gz ?_
         exact fe1 d6
    ·refine gz ?_
     exact fe1 d6
   | true =>
    rw[hr,aW]at d6
    unfold Fh at hr
    simp only[aI,aL]at hr
    obtain⟨⟨⟨hk,ha⟩,hp⟩,hl⟩:=hr
    rw[hp]at e9
    have i232:=Ans.of e9
    cases gF:C9 f.op with
    | true =>
     rw[gF]at fJ
     have i180:=Ans.of fJ
     refine gz ?_
     refine B5 [2,92,93] (fun (k:Nat)=>k<=f.ah.length/\E9 w f.ah=E9 w (f.ah.drop k)) (fun k=>[(94,dI k)]) (fun _=>V) (fun k=>f.ah.length-k) (0) (by simp) (fun k hI=>?_)
     obtain⟨hk,hK⟩:=hI
     by_cases e8:k<f.ah.length
     ·rw[A2 e8,E9]at hK
      repeat' first|refine gz ?_|refine Aq (fN k e8) ?_|refine callP (fN k e8) ?_|refine gz ?_|apply gy<;>intro hh
      ·exact fe1 (gi d6 hK)
      ·rw[show Jw w f.ah[k]=true by simpa using hh,aW]at hK
       exact⟨k+1,⟨by omega,hK⟩,td1,wkR⟩
     ·rw[A1 e8,E9]at hK
      refine gz ?_
      exact fe1 (gi d6 hK)
    | false =>
     rw[gF]at fJ hl
     have i180:=Ans.of fJ
     simp only[dc,aI,aL]at hl
     obtain⟨⟨⟨gQ,gD⟩,gP⟩,iq⟩:=hl
     refine gz ?_
     refine B5 [2,92,93] (fun (k:Nat)=>k<=f.ah.length/\E9 w f.ah=E9 w (f.ah.drop k)) (fun k=>[(94,dI k)]) (fun _=>V) (fun k=>f.ah.length-k) (0) (by simp) (fun k hI=>?_)
     obtain⟨hk,hK⟩:=hI
     by_cases e8:k<f.ah.length
     ·rw[A2 e8,E9]at hK
      repeat' first|refine gz ?_|refine Aq (fN k e8) ?_|refine callP (fN k e8) ?_|refine gz ?_|apply gy<;>intro hh
      ·exact fe1 (gi d6 hK)
      ·rw[show Jw w f.ah[k]=true by simpa using hh,aW]at hK
       exact⟨k+1,⟨by omega,hK⟩,td1,wkR⟩
     ·rw[A1 e8,E9]at hK
      refine gz ?_
      exact fe1 (gi d6 hK)
termination_by SizeOf.sizeOf f
decreasing_by exact Fact.lt (aJ _)
@[reducible,instance] def a179:=fun w f V=>ah3 (@Oi w f V)
def BE(f:Int->Int->fF->Bool×fF)(x:aA)(size:Int):Nat->fF->fF->Bool×fF
 |_,[],s=>(true,s)
 |j,c::r,s=>match f c (if x.op=9/\j=1 then size+1 else size) s with
  |(false,s')=>(false,s')
  |(true,s')=>BE f x size (j+1) r s'
def As(p:aw)(n:Int):aA:=(p.nodes[n.toNat]?).getD ⟨0,0,[]⟩
def C0(p:aw)(inM:Bool):Nat->Int->Int->fF->Bool×fF
 |0,_,_,s=>(false,s)
 |k+1,node,size,s=>
  if node<0\/(p.nodes.length:Int)<=node\/0<=s.getD node.toNat 0 then(false,s) else
  if((As p node).ah.length:Int)≠Cx p (As p node)\/Bn p (As p node) size=false\/((As p node).op=18/\inM=false) then(false,s.set node.toNat size) else
  BE (C0 p inM k) (As p node) size 0 (As p node).ah (s.set node.toNat size)
theorem FD{f:Int->Int->fF->Bool×fF}{x:aA}{size:Int}(hf:∀c z s,(f c z s).2.length=s.length): ∀(j:Nat) (l s:fF),(BE f x size j l s).2.length=s.length
 |_,[],_=>rfl
 |j,c::r,s=>by
  rw[BE]
  have h:=hf c (if x.op=9/\j=1 then size+1 else size) s
  split
  ·rename_i s' e;rw[e]at h;exact h
  ·rename_i s' e;rw[e]at h;rw[FD hf];exact h
theorem Cr(p:aw)(inM:Bool): ∀(k:Nat) (node size:Int) (s:fF),(C0 p inM k node size s).2.length=s.length
 |0,_,_,_=>rfl
 | k+1,node,size,s=>by
  rw[C0]
  split
  ·rfl
  ·split
   ·simp
   ·rw[FD (Cr p inM k),ce]
def rowI(s:fF)(rest:fE):fE:=s.map dI++rest
@[simp] theorem rowI_length(s:fF)(rest:fE):(rowI s rest).length=s.length+rest.length:=by simp[rowI]
@[simp] theorem rowI_get(s:fF)(rest:fE)(k:Nat)(h:k<s.length):(rowI s rest)[k]? = some (dI s[k]):=by
 unfold rowI;rw[bx (by simpa using h),bD,aM h];rfl
@[simp] theorem rowI_put(s:fF)(rest:fE)(k:Nat)(v:Int)(h:k<s.length):(rowI s rest).take k ++ .int .i64 v::(rowI s rest).drop (k+1)=rowI (s.set k v) rest:=by
 unfold rowI
 rw[eb (by simp;omega),List.drop_append_of_le_length (by simp;omega),<-List.map_take,<-List.map_drop,cr,aS h]
 simp[dI]
theorem Sig.set_self(V:Sig){i:Nat}{o:DObj}(h:V i=some o):V.set i o=V:=by
 funext k;simp only[Sig.set];split
 ·rename_i e;rw[e,h]
 ·rfl
theorem Gm (p:aw) (k:Nat) (node size:Int) (inM:Bool) (i cap:Nat) (s:fF) (rest:fE) (V:Sig) (hk:k<=13) (hi:V i=some (.cells (rowI s rest))) (hs:s.length=p.nodes.length) (gx:0<=size/\size+k<=1073741824) (hp:p.wt<=1073741824) :
  au prog 93 [.agg (Ai p),dI node,dI size,dI (13-(k:Int)),.bool inM,.ap i 0 p.nodes.length cap] V fun x S'=>x=.ret (.bool (C0 p inM k node size s).1)/\S'=V.set i (.cells (rowI (C0 p inM k node size s).2 rest)):=by
 obtain⟨p1,p2,p3,p4,p5,p6,p7⟩:=p.wt_le
 refine en func93 ntmps93 ?_
 by_cases h1:node<0\/(p.nodes.length:Int)<=node
 ·have hW:C0 p inM k node size s=(false,s):=by
   cases k with
   |zero=>rfl
   |succ k=>rw[C0,aS (by rcases h1 with h|h;exact .inl h;exact .inr (.inl h))]
  rw[hW,Sig.set_self V hi]
  rcases h1 with h1|h1
  ·refine gz ?_ o93
   exact fe1 trivial
  ·refine gz ?_ o93
   exact fe1 trivial
 ·obtain ⟨q,rfl⟩ : ∃ q:Nat,node=(q:Int):=⟨node.toNat,by omega⟩
  have hq:q<p.nodes.length:=by omega
  have gO:q<s.length:=by omega
  have gn:((q:Int)).toNat=q:=by omega
  have ga:s.getD ((q:Int)).toNat 0=s[q]:=by rw[gn,bg,aM gO];rfl
  by_cases h2:0<=s[q]
  ·have hW:C0 p inM k q size s=(false,s):=by
    cases k with
    |zero=>rfl
    |succ k=>rw[C0,aS (.inr (.inr (by rw[ga];exact h2)))]
   rw[hW,Sig.set_self V hi]
   refine gf hi ?_ o93
   exact fe1 trivial
  ·cases k with
   |zero=>
    rw[C0,Sig.set_self V hi]
    refine gf hi ?_ o93
    exact fe1 trivial
   | succ k =>
    rw[C0,aN (by rw[ga];omega)]
    have gU:As p q=p.nodes[q]:=by unfold As;rw[gn,aM hq];rfl
    rw[gU,gn]
    generalize hx:p.nodes[q]=x
    have g7:x.ah.length<=1073741824:=by
     have:=p7 q hq
     rw[hx]at this
     have gh:x.wt=1+x.ah.length:=rfl
     omega
    have fP:=V5 p x size (V.set i (.cells (rowI (s.set q size) rest))) (by omega) (by omega)
    by_cases gI:(x.ah.length:Int)=Cx p x
    ·cases gH:Bn p x size with
     |false=>
      rw[aS (.inr (.inl rfl))]
      rw[gH]at fP
      have i182:=Ans.of fP
      refine gf (gi hi hx) ?_ o93
      exact fe1 trivial
     | true =>
      rw[gH]at fP
      have i182:=Ans.of fP
      by_cases gc:x.op=18/\inM=false
      ·rw[aS (.inr (.inr gc))]
       obtain⟨gc,rfl⟩:=gc
       refine gf (gi hi hx) ?_ o93
       exact fe1 trivial
      ·rw [aN (by simp [gI,gc])]
       by_cases gw:x.op=18
       ·obtain rfl:inM=true:=by cases inM;exact absurd ⟨gw,rfl⟩ gc;rfl
        refine gf (gi hi hx) ?_ o93
        refine AB [2,3,4,5,6,13] (fun (j:Nat) (s':fF)=>j<=x.ah.length/\s'.length=s.length/\BE (C0 p true k) x size 0 x.ah (s.set q size)=BE (C0 p true k) x size j (x.ah.drop j) s') (fun j _=>[(14,dI j)]) (fun _ s'=>V.set i (.cells (rowI s' rest))) (fun j _=>x.ah.length-j) (0) (s.set q size) (by simp) (fun j s' hI=>?_)
        obtain⟨hj,hs',hR⟩:=hI
        have e13:(13:Int)-((k:Int)+1)+1=13-k:=by omega
        by_cases d8:j<x.ah.length
        ·rw[A2 d8,BE]at hR
         rw[aN (by omega)]at hR
         refine gf hi ?_ (delO 13 o93)
         refine NB (id:=13) [0,1,2,3,4,5,6,7,8,9,10,11,12] [11] (fun _=>none) (fun _ _ h=>by cases h) ?_
         refine gf (gi hi e13) ?_ (delO 13 o93)
         refine C1 (Gm p k (x.ah[j]) (size) true i cap s' rest _ (by omega) (w7 ..) (by omega) ⟨by omega,by omega⟩ hp) (fun d S' hx=>?_) (fun d S' hx=>by cases hx.1)
         obtain⟨fL,rfl⟩:=hx
         cases fL
         rw[w9]
         refine⟨fun _ _ h=>(by cases h),?_⟩
         simp only[putD]
         have d7:=Cr p true k x.ah[j] (size) s'
         rcases hr:C0 p true k (x.ah[j]) (size) s' with⟨b,s2⟩
         rw[hr]at hR d7
         simp only at d7
         cases b with
         |false=>
          simp only at hR
          rw[hR]
          refine gz ?_ (delO 13 o93)
          exact fe1 trivial
         |true=>
          simp only at hR
          refine gz ?_ (delO 13 o93)
          exact⟨j+1,s2,⟨by omega,by omega,hR⟩,td1,wkR⟩
        ·rw[A1 d8,BE]at hR
         rw[hR]
         refine gz ?_ o93
         exact fe1 trivial
       ·refine gf (gi hi hx) ?_ o93
        refine AB [2,3,4,5,6,13] (fun (j:Nat) (s':fF)=>j<=x.ah.length/\s'.length=s.length/\BE (C0 p inM k) x size 0 x.ah (s.set q size)=BE (C0 p inM k) x size j (x.ah.drop j) s') (fun j _=>[(14,dI j)]) (fun _ s'=>V.set i (.cells (rowI s' rest))) (fun j _=>x.ah.length-j) (0) (s.set q size) (by simp) (fun j s' hI=>?_)
        obtain⟨hj,hs',hR⟩:=hI
        have e13:(13:Int)-((k:Int)+1)+1=13-k:=by omega
        by_cases d8:j<x.ah.length
        ·rw [A2 d8,BE] at hR
         by_cases h9:x.op=9/\j=1
         ·rw[aS h9]at hR
          refine gf hi ?_ (delO 13 o93)
          refine NB (id:=13) [0,1,2,3,4,5,6,7,8,9,10,11,12] [11] (fun _=>none) (fun _ _ h=>by cases h) ?_
          refine gf (gi hi e13) ?_ (delO 13 o93)
          refine C1 (Gm p k (x.ah[j]) (size+1) inM i cap s' rest _ (by omega) (w7 ..) (by omega) ⟨by omega,by omega⟩ hp) (fun d S' hx=>?_) (fun d S' hx=>by cases hx.1)
          obtain⟨fL,rfl⟩:=hx
          cases fL
          rw[w9]
          refine⟨fun _ _ h=>(by cases h),?_⟩
          simp only[putD]
          have d7:=Cr p inM k x.ah[j] (size+1) s'
          rcases hr:C0 p inM k (x.ah[j]) (size+1) s' with⟨b,s2⟩
          rw[hr]at hR d7
          simp only at d7
          cases b with
          |false=>
           simp only at hR
           rw[hR]
           refine gz ?_ (delO 13 o93)
           exact fe1 trivial
          |true=>
           simp only at hR
           refine gz ?_ (delO 13 o93)
           exact⟨j+1,s2,⟨by omega,by omega,hR⟩,td1,wkR⟩
         ·rw[aN h9]at hR
          by_cases gJ:x.op=9
          ·have f0:¬j=1:=fun h=>h9 ⟨gJ,h⟩
           refine gf (gi hi (gi f0 gJ)) ?_ (delO 13 o93)
           refine NB (id:=13) [0,1,2,3,4,5,6,7,8,9,10,11,12] [11] (fun _=>none) (fun _ _ h=>by cases h) ?_
           refine gf (gi hi e13) ?_ (delO 13 o93)
           refine C1 (Gm p k (x.ah[j]) (size) inM i cap s' rest _ (by omega) (w7 ..) (by omega) ⟨by omega,by omega⟩ hp) (fun d S' hx=>?_) (fun d S' hx=>by cases hx.1)
           obtain⟨fL,rfl⟩:=hx
           cases fL
           rw[w9]
           refine⟨fun _ _ h=>(by cases h),?_⟩
           simp only[putD]
           have d7:=Cr p inM k x.ah[j] (size) s'
           rcases hr:C0 p inM k (x.ah[j]) (size) s' with⟨b,s2⟩
           rw[hr]at hR d7
           simp only at d7
           cases b with
           |false=>
            simp only at hR
            rw[hR]
            refine gz ?_ (delO 13 o93)
            exact fe1 trivial
           |true=>
            simp only at hR
            refine gz ?_ (delO 13 o93)
            exact⟨j+1,s2,⟨by omega,by omega,hR⟩,td1,wkR⟩
          ·refine gf hi ?_ (delO 13 o93)
           refine NB (id:=13) [0,1,2,3,4,5,6,7,8,9,10,11,12] [11] (fun _=>none) (fun _ _ h=>by cases h) ?_
           refine gf (gi hi e13) ?_ (delO 13 o93)
           refine C1 (Gm p k (x.ah[j]) (size) inM i cap s' rest _ (by omega) (w7 ..) (by omega) ⟨by omega,by omega⟩ hp) (fun d S' hx=>?_) (fun d S' hx=>by cases hx.1)
           obtain⟨fL,rfl⟩:=hx
           cases fL
           rw[w9]
           refine⟨fun _ _ h=>(by cases h),?_⟩
           simp only[putD]
           have d7:=Cr p inM k x.ah[j] (size) s'
           rcases hr:C0 p inM k (x.ah[j]) (size) s' with⟨b,s2⟩
           rw[hr]at hR d7
           simp only at d7
           cases b with
           |false=>
            simp only at hR
            rw[hR]
            refine gz ?_ (delO 13 o93)
            exact fe1 trivial
           |true=>
            simp only at hR
            refine gz ?_ (delO 13 o93)
            exact⟨j+1,s2,⟨by omega,by omega,hR⟩,td1,wkR⟩
        ·rw[A1 d8,BE]at hR
         rw[hR]
         refine gz ?_ o93
         exact fe1 trivial
    ·rw[aS (.inl gI)]
     refine gf (gi hi hx) ?_ o93
     exact fe1 trivial
termination_by k
mutual
theorem Fact.size_le: ∀f:Fact,f.size<=f.wt
 |.mk o a p c n k=>by
  have:=Fact.sizes_le k
  rw[Fact.size,Fact.wt];omega
theorem Fact.sizes_le: ∀l:List Fact,Fact.sizes l<=Fact.wts l
 |[]=>bm _
 |f::l=>by
  have h1:=Fact.size_le f
  have h2:=Fact.sizes_le l
  rw[Fact.sizes,Fact.wts];omega
end
def Eb(w:World)(f:Fact):Bool:=decide (f.cnt 24<=24)&&decide (f.depth<=12)&&Jw w f
theorem WW(w:World)(f:Fact)(V:Sig)(hw:w.ag.length<=1073741824:=by exact sd)(gj:w.owner.length<=1073741824:=by exact sd)(hf:f.wt<=1073741824:=by exact sd):
  au prog 91 [.agg (C8 w),.agg (AS f)] V (rS (.bool (Eb w f)) V):=by
 have gx:=Fact.size_le f
 refine en func91 ntmps91 ?_
 repeat' first|refine gz ?_|apply gy<;>intro hh
 any_goals (first|(refine fin1 (S':=V) ?_;exact⟨by first|rfl|(simp[Eb];done)|(simp_all [Eb];done)|(rw[A5,aO];simp_all [Eb]<;>omega),rfl⟩)|fail)
def Fw(p:aw)(m:ay):Bool:=decide (1<=m.kind/\m.kind<=4)&&decide (0<=m.gen/\m.gen<p.aj.length)&&Eb (AK p) m.fact&&decide (m.fact.speaks<=p.aj.getD m.gen.toNat 0)
def CP(p:aw):List ay->fF->Bool×fF
 |[],s=>(true,s)
 | m::r,s=>if Fw p m then (match C0 p (decide (m.kind=1) || decide (m.kind=4)) 12 m.node (p.aj.getD m.gen.toNat 0) s with
   |(false,s')=>(false,s')
   |(true,s')=>CP p r s') else(false,s)
def Lb(p:aw):Bool:=AG p&&decide (p.aj.length<=8)&&decide (p.methods.length<=16)&&decide (1<=p.nodes.length)&&decide (p.nodes.length<=120)
def F8(p:aw):Option fF:=
 if Lb p&&p.aj.all (fun g=>decide (1<=g/\g<=3)) then
  match CP p p.methods (List.replicate p.nodes.length (-1))with
  |(false,_)=>none
  |(true,s)=>match C0 p false 12 p.main 0 s with
   |(false,_)=>none
   |(true,s2)=>if s2.all (fun n=>decide (0<=n)) then some s2 else none
 else none
theorem E3(s:fF):(cI s).flatten=s.map dI:=by
 induction s with
 |nil=>rfl
 |cons x s ih=>rw[show cI (x::s)=[dI x]::cI s from rfl,cy,ih];rfl
theorem TI(V:Sig)(i cap:Nat)(rest:fE)(s:fF):mS V (some (i,cap,rest)) (cI s)=V.set i (.cells (rowI s rest)):=by simp only[mS,rowI,E3]
theorem mOK_len{V:Sig}{st:MR}{s s':fF}(h:mOK V 1 st (cI s))(hs:s'.length=s.length):mOK V 1 st (cI s'):=by
 cases st with
 |none=>
  have:cI s=[]:=h
  have:s=[]:=by simpa[cI] using this
  subst this
  have:s'=[]:=bC.1 hs
  subst this;rfl
 |some x=>
  obtain⟨i,cap,rest⟩:=x
  obtain⟨m1,m2,m3,m4⟩:=h
  refine⟨m1,?_,by simpa[hs] using m3,BY _⟩
  rw[E3]at m2⊢
  simpa[hs] using m2
theorem Xj (p:aw) (V:Sig) (hp:p.wt<=1073741824:=by exact sd) :
  au prog 44 [.agg (Ai p)] V (rS (.tup [sl (cI ((F8 p).getD [])),.bool (F8 p).isSome]) V):=by
 obtain⟨p1,p2,p3,p4,p5,p6,p7⟩:=p.wt_le
 have ws:=H6 p
 have fK:∀c∈p.aa,c.ag.length<=1073741824/\c.ae.length<=1073741824:=fun c hc=>by
  obtain⟨k,hk,rfl⟩:=bh hc
  have:=p5 k hk
  have gh:(p.aa[k]).wt=1+(p.aa[k]).ag.length+(p.aa[k]).ae.length+(p.aa[k]).ai.length:=rfl
  omega
 have f6:=WX p V hp
 refine en func44 ntmps44 ?_
 cases fR:Lb p with
 | false =>
  have hL:F8 p=none:=by unfold F8;rw[fR];rfl
  unfold Lb at fR
  cases hc:AG p with
  |false=>
   rw[hc]at f6
   have i1:=Ans.of f6
   try refine gz ?_ o44
   exact fe2 (d':=sl []) hL
  | true =>
   rw[hc]at f6 fR
   have i1:=Ans.of f6
   by_cases h1:p.aj.length<=8
   ·by_cases h2:p.methods.length<=16
    ·by_cases h3:1<=p.nodes.length
     ·have h4:¬p.nodes.length<=120:=fun h=>by simp[h1,h2,h3,h]at fR
      try refine gz ?_ o44
      exact fe2 (d':=sl []) hL
     ·try refine gz ?_ o44
      exact fe2 (d':=sl []) hL
    ·try refine gz ?_ o44
     exact fe2 (d':=sl []) hL
   ·try refine gz ?_ o44
    exact fe2 (d':=sl []) hL
 | true =>
  have gr:=fR
  unfold Lb at gr
  simp only[aI,aL]at gr
  obtain⟨⟨⟨⟨hc,h1⟩,h2⟩,h3⟩,h4⟩:=gr
  rw[hc]at f6
  have i1:=Ans.of f6
  try refine gz ?_ o44
  refine B5 [1,5,6,7,8,9,10,59,60,61,62,63,64,65,66,67,68,69,70,71,72,73,74,75,76,77,78,79,80,81,82,83,84,85,86,87,88,89,90,91,92,93,94,95,96,97,98,99,100,101,102,103,104,105,106,107,108,109,110,111,112,113,114,115,116,117,118,119,120,121,122,123,124,125,126,127,128,129,130,131,132,133,134,135,136,137,138,139,140,141,142,143,144,145,146,147,148,149,150,151,152,153,154,155] (fun (j:Nat)=>j<=p.aj.length/\p.aj.all (fun g=>decide (1<=g/\g<=3))=(p.aj.drop j).all (fun g=>decide (1<=g/\g<=3))) (fun j=>[(4,dI j)]) (fun _=>V) (fun j=>p.aj.length-j) (0) (by simp) (fun j hI=>?_)
  obtain⟨hj,hJ⟩:=hI
  by_cases d8:j<p.aj.length
  ·rw[A2 d8,bV]at hJ
   by_cases iF:p.aj[j]<1
   ·have hL:F8 p=none:=by unfold F8;rw[fR,hJ,aV (by omega)];rfl
    try refine gz ?_ o44
    exact fe2 (d':=sl []) hL
   ·by_cases iE:3<p.aj[j]
    ·have hL:F8 p=none:=by unfold F8;rw[fR,hJ,aV (by omega)];rfl
     try refine gz ?_ o44
     exact fe2 (d':=sl []) hL
    ·rw[aX (by omega),aW]at hJ
     try refine gz ?_ o44
     exact⟨j+1,⟨by omega,hJ⟩,td1,wkR⟩
  ·rw [A1 d8,ek] at hJ
   have hL:F8 p=match CP p p.methods (List.replicate p.nodes.length (-1))with
    |(false,_)=>none
    |(true,s)=>match C0 p false 12 p.main 0 s with
     |(false,_)=>none
     |(true,s2)=>if s2.all (fun n=>decide (0<=n)) then some s2 else none:=by unfold F8;rw[fR,hJ];rfl
   try refine gz ?_ o44
   refine AB [1,2,3,7,8,9,10,69,70,71,72,73,74,75,76,77,78,79,80,81,82,83,84,85,86,87,88,89,90,91,92,93,94,95,96,97,98,99,100,101,102,103,104,105,106,107,108,109,110,111,112,113,114,115,116,117,118,119,120,121,122,123,124,125,126,127,128,129,130,131,132,133,134,135,136,137,138,139,140,141,142,143,144,145,146,147,148,149,150,151,152,153,154,155] (fun (n:Nat) (st:MR)=>n<=p.nodes.length/\mOK V 1 st (cI (List.replicate n (-1)))) (fun n st=>[(6,dI n),(5,mD st n)]) (fun n st=>mS V st (cI (List.replicate n (-1)))) (fun n _=>p.nodes.length-n) (0) (none) (by exact⟨by omega,rfl⟩) (fun n st hI=>?_)
   obtain⟨hn,hm⟩:=hI
   by_cases iB:n<p.nodes.length
   ·have hlen:(cI (List.replicate n (-1))).length=n:=by simp
    have e:cI (List.replicate n (-1))++[[D.int .i64 (-1)]]=cI (List.replicate (n+1) (-1)):=by rw[List.replicate_succ'];simp[cI]
    try refine gz ?_ o44
    refine mapp (new:=[[D.int .i64 (-1)]]) (sz:=1) (h1:=by exact(bF (mD st) hlen.symm)) (fun st' fM=>?_) hm
    rw[e]at fM⊢
    rw[hlen]
    try refine gz ?_ o44
    exact⟨n+1,st',⟨by omega,fM⟩,td1,wkR⟩
   ·have hne:n=p.nodes.length:=by omega
    subst hne
    obtain⟨s0,gC⟩:∃s0,s0=List.replicate p.nodes.length (-1:Int):=⟨_,rfl⟩
    have gk:s0.length=p.nodes.length:=by rw[gC];simp
    rw[<-gC]at hm hL⊢
    obtain⟨i,cap,rest,gM⟩:∃i cap rest,st=some (i,cap,rest):=by
     cases st with
     |none=>
      exfalso
      have h:cI s0=[]:=hm
      have h':s0.length=0:=by rw[<-Iu s0,h];rfl
      omega
     |some x=>exact⟨_,_,_,rfl⟩
    subst gM
    have hi:V i=none:=hm.1
    rw[TI,show mD (some (i,cap,rest)) p.nodes.length=.ap i 0 p.nodes.length cap from rfl]
    have fQ:(AK p).ag=p.aa.map (·.ag):=rfl
    have gL:(AK p).ag.length=p.aa.length:=by rw[fQ,aZ]
    have go:(AK p).owner.length=wtL (fun c:ax=>c.ae.length) p.aa:=Ch _ _
    repeat' first|refine gz ?_|refine Aq (IV p _ (by omega) (fun c hc=>(fK c hc).1) (fun c hc=>(fK c hc).2) (by rw[Ch];omega)) ?_|refine callP (IV p _ (by omega) (fun c hc=>(fK c hc).1) (fun c hc=>(fK c hc).2) (by rw[Ch];omega)) ?_|refine gz ?_ o44|apply gy<;>intro hh
    refine AB [1,5,7,10,138,139,140,141,142,143,144,145,146,147,148,149,150,151,152,153,154,155] (fun (j:Nat) (s:fF)=>j<=p.methods.length/\s.length=p.nodes.length/\CP p p.methods s0=CP p (p.methods.drop j) s) (fun j _=>[(8,dI j)]) (fun _ s=>V.set i (.cells (rowI s rest))) (fun j _=>p.methods.length-j) (0) (s0) (by exact⟨by omega,gk,rfl⟩) (fun j s hI=>?_)
    obtain⟨hj,f7,hM⟩:=hI
    by_cases d8:j<p.methods.length
    ·rw [A2 d8,CP] at hM
     have gK:=p6 j d8
     generalize fM:p.methods[j]=m at hM gK
     have gh:m.wt=1+m.fact.wt:=rfl
     have gx:=Fact.size_le m.fact
     have f0:=WW (AK p) m.fact (V.set i (.cells (rowI s rest))) (by omega) (by omega) (by omega)
     have gZ:∀g:Nat,m.gen=g->(hg:g<p.aj.length)->p.aj.getD m.gen.toNat 0=p.aj[g]:=fun g e hg=>by
      rw[e,show((g:Int)).toNat=g by omega,bg,aM hg];rfl
     have bad:Fw p m=false->F8 p=none:=fun h=>by rw[hL,hM,h];rfl
     by_cases k1:1<=m.kind
     ·by_cases k2:m.kind<=4
      ·by_cases g1:0<=m.gen
       ·by_cases g2:m.gen<p.aj.length
        ·obtain⟨g,gb⟩:∃g:Nat,m.gen=g:=⟨m.gen.toNat,by omega⟩
         have f9:g<p.aj.length:=by omega
         have gu:=gZ g gb f9
         cases gg:Eb (AK p) m.fact with
         |false=>
          rw[gg]at f0
          have i1:=Ans.of f0
          have hb:=bad (by unfold Fw;rw[gg];simp)
          try refine gf (gi fM gb) ?_ o44
          exact fe2 (d':=sl []) hb
         | true =>
          rw[gg]at f0
          have i1:=Ans.of f0
          by_cases gB:m.fact.speaks<=p.aj[g]
          ·have gS:Fw p m=true:=by unfold Fw;rw[gg,gu,aX (by omega),aX (by omega),aX gB];rfl
           rw[gS,aS rfl,gu]at hM
           have g6:=bc.1 hJ _ (aJ f9)
           simp only[aL]at g6
           try refine gf (gi fM gb) ?_ (delO 20 o44)
           refine NB (id:=20) [0,1,2,3,4,5,6,7,8,9,10,12,11,13,14] [11,13] (fun _=>none) (fun _ _ h=>by cases h) ?_
           have gA:Sub (fun _=>none) (V.set i (.cells (rowI s rest))):=fun _ _ h=>by cases h
           try refine gf gb ?_ (delO 20 o44)
           refine C1 (Gm p 12 m.node (p.aj[g]) (decide (m.kind=1)||decide (m.kind=4)) i cap s rest _ (by omega) (w7 ..) f7 ⟨by omega,by omega⟩ hp) (fun d S' hx=>?_) (fun d S' hx=>by cases hx.1)
           obtain⟨fL,rfl⟩:=hx
           cases fL
           rw[w9]
           refine⟨fun _ _ h=>(by cases h),?_⟩
           simp only[putD]
           have d7:=Cr p (decide (m.kind=1)||decide (m.kind=4)) 12 m.node (p.aj[g]) s
           rcases hr:C0 p (decide (m.kind=1)||decide (m.kind=4)) 12 m.node (p.aj[g]) s with⟨b,s2⟩
           rw[hr]at hM d7
           simp only at d7
           cases b with
           |false=>
            simp only at hM
            have hb:F8 p=none:=by rw[hL,hM]
            try refine gz ?_ (delO 20 o44)
            exact fe2 (d':=sl []) hb
           |true=>
            simp only at hM
            try refine gz ?_ (delO 20 o44)
            exact⟨j+1,s2,⟨by omega,by omega,hM⟩,td1,wkR⟩
          ·have hb:=bad (by unfold Fw;rw[gu,aV gB];simp)
           try refine gf (gi fM gb) ?_ o44
           exact fe2 (d':=sl []) hb
        ·have hb:=bad (by unfold Fw;rw[aV (p:=0<=m.gen/\m.gen<p.aj.length) (by omega)];simp)
         try refine gf fM ?_ o44
         exact fe2 (d':=sl []) hb
       ·have hb:=bad (by unfold Fw;rw[aV (p:=0<=m.gen/\m.gen<p.aj.length) (by omega)];simp)
        try refine gf fM ?_ o44
        exact fe2 (d':=sl []) hb
      ·have hb:=bad (by unfold Fw;rw[aV (p:=1<=m.kind/\m.kind<=4) (by omega)];simp)
       try refine gf fM ?_ o44
       exact fe2 (d':=sl []) hb
     ·have hb:=bad (by unfold Fw;rw[aV (p:=1<=m.kind/\m.kind<=4) (by omega)];simp)
      try refine gf fM ?_ o44
      exact fe2 (d':=sl []) hb
    ·rw [A1 d8,CP] at hM
     rw[hM]at hL
     simp only at hL
     try refine gz ?_ o44
     refine Ac (Gm p 12 p.main 0 false i cap s rest _ (by omega) (w7 ..) f7 ⟨by omega,by omega⟩ hp) (fun d S' hx=>?_) (fun d S' hx=>by cases hx.1)
     obtain⟨fL,rfl⟩:=hx
     cases fL
     rw[w9]
     simp only[putD]
     have d7:=Cr p false 12 p.main 0 s
     rcases hr:C0 p false 12 p.main 0 s with⟨b,s2⟩
     rw[hr]at hL d7
     simp only at d7
     cases b with
     |false=>
      simp only at hL
      try refine gz ?_ o44
      exact fe2 (d':=sl []) hL
     | true =>
      simp only at hL
      have gX:mOK V 1 (some (i,cap,rest)) (cI s2):=mOK_len hm (by omega)
      have gN:s2.length=p.nodes.length:=by omega
      try refine gz ?_ o44
      rw[<-TI V i cap]
      refine dwp_wk (KJ (t:=5) gX (by rw[Iu,gN];rfl)) ?_
      refine B5 [5,155] (fun (j:Nat)=>j<=s2.length/\s2.all (fun n=>decide (0<=n))=(s2.drop j).all (fun n=>decide (0<=n))) (fun j=>[(10,dI j)]) (fun _=>V) (fun j=>s2.length-j) (0) (by simp) (fun j hI=>?_)
      obtain⟨hj,hA⟩:=hI
      by_cases d8:j<s2.length
      ·rw[A2 d8,bV]at hA
       by_cases h0:0<=s2[j]
       ·rw[aX h0,aW]at hA
        try refine gz ?_ o44
        exact⟨j+1,⟨by omega,hA⟩,td1,wkR⟩
       ·rw[aV h0,bi]at hA
        rw[hA]at hL
        try refine gz ?_ o44
        exact fe2 (d':=sl []) hL
      ·rw[A1 d8,ek]at hA
       rw[hA]at hL
       try refine gz ?_ o44
       exact fe2 (d':=sl (cI s2)) hL
@[reducible,instance] def a44:=fun p V=>ah1 (@Xj p V)
end Go.DL
namespace Go.DL
open Go.Proofs.Tryz
open Go Go.Proofs
set_option maxHeartbeats 4000000
theorem R8{x y:Init}(h1:x.slot=y.slot)(h2:x.n=y.n):x=y:=by cases x;cases y;simp_all
def eqFn{α β:Type}(eq:α->β->Bool):List α->List β->Bool
 |[],[]=>true
 |x::xs,y::ys=>eq x y&&eqFn eq xs ys
 |_,_=>false
theorem CD{α β:Type}{eq:α->β->Bool}: ∀{a:List α}{b:List β},a.length≠b.length->eqFn eq a b=false
 |[],[],h=>absurd rfl h
 |_::_,[],_=>rfl
 |[],_::_,_=>rfl
 |x::xs,y::ys,h=>by rw[eqFn,CD (fun e=>h (by simp[e])),Bool.and_false]
theorem Vl(a b:fF)(o o':Own)(V:Sig)(hl:a.length<=1073741824:=by exact sd)(fY:b.length<=1073741824:=by exact sd):
  au prog 157 [.slice (cI a) o,.slice (cI b) o'] V (rS (.bool (decide (a=b))) V):=by
 refine en func157 ntmps157 ?_
 repeat' first|refine gz ?_ o157|apply gy<;>intro hh
 ·have hne:a≠b:=fun e=>hh (by rw[e])
  exact fe1 hne
 have fZ:=hh
 refine B5 [0,1,12] (fun (k:Nat)=>k<=a.length/\(a=b ↔ a.drop k=b.drop k)) (fun k=>[(13,dI k)]) (fun _=>V) (fun k=>a.length-k) (0) (by simp) (fun k hI=>?_)
 obtain⟨hk,hR⟩:=hI
 by_cases h:k<a.length
 ·have hb:k<b.length:=by omega
  rw[A2 h,A2 hb]at hR
  repeat' first|refine gf h ?_ o157|apply gy<;>intro hh
  ·have hne:a≠b:=fun e=>by
    subst e
    simp at hh
   exact fe1 hne
  ·exact⟨k+1,⟨by omega,by rw[hR,cD];exact⟨fun e=>e.2,fun e=>⟨hh,e⟩⟩⟩,td1,wkR⟩
 ·have he:a=b:=hR.2 (by rw[A1 (by omega),A1 (by omega)])
  refine gf h ?_ o157
  exact fe1 he
@[reducible,instance] def a157:=fun a b o o' V=>ah2 (@Vl a b o o' V)
theorem Vk(a b:List Init)(o o':Own)(V:Sig)(hl:a.length<=1073741824:=by exact sd)(fY:b.length<=1073741824:=by exact sd):
  au prog 158 [.slice (a.map Dg) o,.slice (b.map Dg) o'] V (rS (.bool (decide (a=b))) V):=by
 refine en func158 ntmps158 ?_
 repeat' first|refine gz ?_ o158|apply gy<;>intro hh
 ·have hne:a≠b:=fun e=>hh (by rw[e])
  exact fe1 hne
 have fZ:=hh
 refine B5 [0,1,12] (fun (k:Nat)=>k<=a.length/\(a=b ↔ a.drop k=b.drop k)) (fun k=>[(13,dI k)]) (fun _=>V) (fun k=>a.length-k) (0) (by simp) (fun k hI=>?_)
 obtain⟨hk,hR⟩:=hI
 by_cases h:k<a.length
 ·have hb:k<b.length:=by omega
  rw[A2 h,A2 hb]at hR
  repeat' first|refine gf h ?_ o158|apply gy<;>intro hh
  ·have hne:a≠b:=fun e=>by
    subst e
    simp at hh
   exact fe1 hne
  ·exact⟨k+1,by(try simp at hh);exact⟨by omega,by rw[hR];simp only[cD];exact⟨fun e=>e.2,fun e=>⟨R8 hh.1 hh.2,e⟩⟩⟩,td1,wkR⟩
 ·have he:a=b:=hR.2 (by rw[A1 (by omega),A1 (by omega)])
  refine gf h ?_ o158
  exact fe1 he
@[reducible,instance] def a158:=fun a b o o' V=>ah2 (@Vk a b o o' V)
theorem QD(a b:List Init)(o o':Own)(V:Sig)(hl:a.length<=1073741824:=by exact sd)(fY:b.length<=1073741824:=by exact sd):
  au prog 27 [.slice (a.map Dg) o,.slice (b.map Dg) o'] V (rS (.bool (decide (a=b))) V):=by
 refine en func27 ntmps27 ?_
 repeat' first|refine gz ?_ o27|apply gy<;>intro hh
 ·have hne:a≠b:=fun e=>hh (by rw[e])
  exact fe1 hne
 have fZ:=hh
 refine B5 [0,1] (fun (k:Nat)=>k<=a.length/\(a=b ↔ a.drop k=b.drop k)) (fun k=>[(5,dI k)]) (fun _=>V) (fun k=>a.length-k) (0) (by simp) (fun k hI=>?_)
 obtain⟨hk,hR⟩:=hI
 by_cases h:k<a.length
 ·have hb:k<b.length:=by omega
  rw[A2 h,A2 hb]at hR
  repeat' first|refine gf h ?_ o27|apply gy<;>intro hh
  ·have hne:a≠b:=fun e=>by
    subst e
    simp at hh
   exact fe1 hne
  ·exact⟨k+1,by(try simp at hh);exact⟨by omega,by rw[hR];simp only[cD];exact⟨fun e=>e.2,fun e=>⟨R8 hh.1 hh.2,e⟩⟩⟩,td1,wkR⟩
 ·have he:a=b:=hR.2 (by rw[A1 (by omega),A1 (by omega)])
  refine gf h ?_ o27
  exact fe1 he
@[reducible,instance] def a27:=fun a b o o' V=>ah2 (@QD a b o o' V)
theorem On(a b:List ax)(eq:ax->ax->Bool)(g:Nat)(cap:fE)(o o':Own)(V:Sig)(hl:a.length<=1073741824)(fY:b.length<=1073741824)
  (hg:∀x∈a, ∀y∈b,au prog g ([]++[.agg (cBClass x),.agg (cBClass y)]++cap) V fun r S''=>r=.ret (.bool (eq x y))/\S''=V) :
  au prog 155 [.slice (a.map cBClass) o,.slice (b.map cBClass) o',.func (.func g) [] cap] V (rS (.bool (eqFn eq a b)) V):=by
 refine en func155 ntmps155 ?_
 repeat' first|refine gz ?_|apply gy<;>intro hh
 ·(refine fin1 (S':=V) ?_;exact⟨by first|rfl|(simp[CD hh];done)|(simp_all [CD hh];done)|(rw[A5,aO];simp_all [CD hh]<;>omega),rfl⟩)
 have fZ:=hh
 refine B5 [1,2,15,16] (fun (k:Nat)=>k<=a.length/\eqFn eq a b=eqFn eq (a.drop k) (b.drop k)) (fun k=>[(17,dI k)]) (fun _=>V) (fun k=>a.length-k) (0) (by simp) (fun k hI=>?_)
 obtain⟨hk,hR⟩:=hI
 by_cases h:k<a.length
 ·have hb:k<b.length:=by omega
  rw[A2 h,A2 hb,eqFn]at hR
  repeat' first|refine Aq (hg (a[k]) (aJ h) (b[k]) (aJ hb)) ?_|refine callP (hg (a[k]) (aJ h) (b[k]) (aJ hb)) ?_|refine gf h ?_|apply gy<;>intro hh
  ·exact fe1 hR
  ·exact⟨k+1,by(try simp at hh);exact⟨by omega,by rw[hR,hh];rfl⟩,td1,wkR⟩
 ·refine gf h ?_
  rw[A1 (by omega),A1 (by omega),eqFn]at hR
  exact fe1 hR
theorem Om(a b:List ay)(eq:ay->ay->Bool)(g:Nat)(cap:fE)(o o':Own)(V:Sig)(hl:a.length<=1073741824)(fY:b.length<=1073741824)
  (hg:∀x∈a, ∀y∈b,au prog g ([]++[.agg (Ag x),.agg (Ag y)]++cap) V fun r S''=>r=.ret (.bool (eq x y))/\S''=V) :
  au prog 159 [.slice (a.map Ag) o,.slice (b.map Ag) o',.func (.func g) [] cap] V (rS (.bool (eqFn eq a b)) V):=by
 refine en func159 ntmps159 ?_
 repeat' first|refine gz ?_|apply gy<;>intro hh
 ·(refine fin1 (S':=V) ?_;exact⟨by first|rfl|(simp[CD hh];done)|(simp_all [CD hh];done)|(rw[A5,aO];simp_all [CD hh]<;>omega),rfl⟩)
 have fZ:=hh
 refine B5 [1,2,15,16] (fun (k:Nat)=>k<=a.length/\eqFn eq a b=eqFn eq (a.drop k) (b.drop k)) (fun k=>[(17,dI k)]) (fun _=>V) (fun k=>a.length-k) (0) (by simp) (fun k hI=>?_)
 obtain⟨hk,hR⟩:=hI
 by_cases h:k<a.length
 ·have hb:k<b.length:=by omega
  rw[A2 h,A2 hb,eqFn]at hR
  repeat' first|refine Aq (hg (a[k]) (aJ h) (b[k]) (aJ hb)) ?_|refine callP (hg (a[k]) (aJ h) (b[k]) (aJ hb)) ?_|refine gf h ?_|apply gy<;>intro hh
  ·exact fe1 hR
  ·exact⟨k+1,by(try simp at hh);exact⟨by omega,by rw[hR,hh];rfl⟩,td1,wkR⟩
 ·refine gf h ?_
  rw[A1 (by omega),A1 (by omega),eqFn]at hR
  exact fe1 hR
theorem Ok(a b:List aA)(eq:aA->aA->Bool)(g:Nat)(cap:fE)(o o':Own)(V:Sig)(hl:a.length<=1073741824)(fY:b.length<=1073741824)
  (hg:∀x∈a, ∀y∈b,au prog g ([]++[.agg (Ab x),.agg (Ab y)]++cap) V fun r S''=>r=.ret (.bool (eq x y))/\S''=V) :
  au prog 162 [.slice (a.map Ab) o,.slice (b.map Ab) o',.func (.func g) [] cap] V (rS (.bool (eqFn eq a b)) V):=by
 refine en func162 ntmps162 ?_
 repeat' first|refine gz ?_|apply gy<;>intro hh
 ·(refine fin1 (S':=V) ?_;exact⟨by first|rfl|(simp[CD hh];done)|(simp_all [CD hh];done)|(rw[A5,aO];simp_all [CD hh]<;>omega),rfl⟩)
 have fZ:=hh
 refine B5 [1,2,15,16] (fun (k:Nat)=>k<=a.length/\eqFn eq a b=eqFn eq (a.drop k) (b.drop k)) (fun k=>[(17,dI k)]) (fun _=>V) (fun k=>a.length-k) (0) (by simp) (fun k hI=>?_)
 obtain⟨hk,hR⟩:=hI
 by_cases h:k<a.length
 ·have hb:k<b.length:=by omega
  rw[A2 h,A2 hb,eqFn]at hR
  repeat' first|refine Aq (hg (a[k]) (aJ h) (b[k]) (aJ hb)) ?_|refine callP (hg (a[k]) (aJ h) (b[k]) (aJ hb)) ?_|refine gf h ?_|apply gy<;>intro hh
  ·exact fe1 hR
  ·exact⟨k+1,by(try simp at hh);exact⟨by omega,by rw[hR,hh];rfl⟩,td1,wkR⟩
 ·refine gf h ?_
  rw[A1 (by omega),A1 (by omega),eqFn]at hR
  exact fe1 hR
theorem Of(a b:List Fact)(eq:Fact->Fact->Bool)(g:Nat)(cap:fE)(o o':Own)(V:Sig)(hl:a.length<=1073741824)(fY:b.length<=1073741824)
  (hg:∀x∈a, ∀y∈b,au prog g ([]++[.agg (AS x),.agg (AS y)]++cap) V fun r S''=>r=.ret (.bool (eq x y))/\S''=V) :
  au prog 224 [.slice (a.map AS) o,.slice (b.map AS) o',.func (.func g) [] cap] V (rS (.bool (eqFn eq a b)) V):=by
 refine en func224 ntmps224 ?_
 repeat' first|refine gz ?_|apply gy<;>intro hh
 ·(refine fin1 (S':=V) ?_;exact⟨by first|rfl|(simp[CD hh];done)|(simp_all [CD hh];done)|(rw[A5,aO];simp_all [CD hh]<;>omega),rfl⟩)
 have fZ:=hh
 refine B5 [1,2,15,16] (fun (k:Nat)=>k<=a.length/\eqFn eq a b=eqFn eq (a.drop k) (b.drop k)) (fun k=>[(17,dI k)]) (fun _=>V) (fun k=>a.length-k) (0) (by simp) (fun k hI=>?_)
 obtain⟨hk,hR⟩:=hI
 by_cases h:k<a.length
 ·have hb:k<b.length:=by omega
  rw[A2 h,A2 hb,eqFn]at hR
  repeat' first|refine Aq (hg (a[k]) (aJ h) (b[k]) (aJ hb)) ?_|refine callP (hg (a[k]) (aJ h) (b[k]) (aJ hb)) ?_|refine gf h ?_|apply gy<;>intro hh
  ·exact fe1 hR
  ·exact⟨k+1,by(try simp at hh);exact⟨by omega,by rw[hR,hh];rfl⟩,td1,wkR⟩
 ·refine gf h ?_
  rw[A1 (by omega),A1 (by omega),eqFn]at hR
  exact fe1 hR
def idxF{α:Type}(q:α->Bool):List α->Nat->Int
 |[],_=> -1
 |x::r,k=>if q x then k else idxF q r (k+1)
theorem Em{α:Type}(q:α->Bool): ∀(l:List α) (k:Nat),decide (0<=idxF q l k)=l.any q
 |[],_=>rfl
 |x::r,k=>by
  rw[idxF,List.any_cons]
  cases hq:q x
  ·simp only[bj,bd,dc];exact Em q r (k+1)
  ·simp
theorem O7(l:fD)(q:Str->Bool)(g:Nat)(cap:fE)(o:Own)(V:Sig)(hl:l.length<=1073741824)
  (hg:∀x∈l,au prog g ([]++[.str x]++cap) V fun r S''=>r=.ret (.bool (q x))/\S''=V) :
  au prog 304 [.slice (cS l) o,.func (.func g) [] cap] V (rS (dI (idxF q l 0)) V):=by
 refine en func304 ntmps304 ?_
 refine gz ?_
 refine B5 [0,1,7] (fun (k:Nat)=>k<=l.length/\idxF q l 0=idxF q (l.drop k) k) (fun k=>[(8,dI k)]) (fun _=>V) (fun k=>l.length-k) (0) td3 (fun k hI=>?_)
 obtain⟨hk,hR⟩:=hI
 by_cases h:k<l.length
 ·rw[A2 h,idxF]at hR
  repeat' first|refine Aq (hg (l[k]) (aJ h)) ?_|refine callP (hg (l[k]) (aJ h)) ?_|refine gf h ?_|apply gy<;>intro hh
  ·exact fe1 hR
  ·exact⟨k+1,⟨by omega,by rw[hR,hh];rfl⟩,td1,wkR⟩
 ·refine gf h ?_
  (refine fin1 (S':=V) ?_;exact⟨by first|rfl|(simp[hR,A1 h,idxF];done)|(simp_all [hR,A1 h,idxF];done)|(rw[A5,aO];simp_all [hR,A1 h,idxF]<;>omega),rfl⟩)
theorem Oa(l:fD)(q:Str->Bool)(g:Nat)(cap:fE)(o:Own)(V:Sig)(hl:l.length<=1073741824)
  (hg:∀x∈l,au prog g ([]++[.str x]++cap) V fun r S''=>r=.ret (.bool (q x))/\S''=V) :
  au prog 280 [.slice (cS l) o,.func (.func g) [] cap] V (rS (.bool (l.any q)) V):=by
 refine en func280 ntmps280 ?_
 repeat' first|refine gz ?_|refine Aq (O7 l q g cap o V hl hg) ?_|refine callP (O7 l q g cap o V hl hg) ?_|refine gz ?_|apply gy<;>intro hh
 (refine fin1 (S':=V) ?_;exact⟨by first|rfl|(simp[Em];done)|(simp_all [Em];done)|(rw[A5,aO];simp_all [Em]<;>omega),rfl⟩)
theorem O9(q:Str->Bool)(g:Nat)(cap:fE)(x:Str)(V:Sig)
  (hg:au prog g ([]++[.str x]++cap) V fun r S''=>r=.ret (.bool (q x))/\S''=V) :
  au prog 281 [.str x,.am [.func (.func g) [] cap] 0] V (rS (.bool (!q x)) V):=by
 refine en func281 ntmps281 ?_
 repeat' first|refine Aq (hg) ?_|refine callP (hg) ?_|refine gz ?_|apply gy<;>intro hh
 exact fe1 trivial
theorem Od(l:fD)(q:Str->Bool)(g:Nat)(cap:fE)(o:Own)(V:Sig)(hl:l.length<=1073741824)
  (hg:∀x∈l,au prog g ([]++[.str x]++cap) V fun r S''=>r=.ret (.bool (q x))/\S''=V) :
  au prog 242 [.slice (cS l) o,.func (.func g) [] cap] V (rS (.bool (l.all q)) V):=by
 refine en func242 ntmps242 ?_
 repeat' first|refine gz ?_|refine Aq (Oa l (fun x=> !q x) 281 [.am [.func (.func g) [] cap] 0] o V hl (fun x hx=>O9 q g cap x V (hg x hx))) ?_|refine callP (Oa l (fun x=> !q x) 281 [.am [.func (.func g) [] cap] 0] o V hl (fun x hx=>O9 q g cap x V (hg x hx))) ?_|refine gz ?_|apply gy<;>intro hh
 (refine fin1 (S':=V) ?_;exact⟨by first|rfl|(simp[cZ];done)|(simp_all [cZ];done)|(rw[A5,aO];simp_all [cZ]<;>omega),rfl⟩)
theorem Oj(i:Nat)(b:Bool)(V:Sig)(hi:V i=some (.cells [.bool b])):P6 prog 166 [.ptr i 0] V none V/\P6 prog 166 [.ptr i 0] V (some unf) (V.set i (.cells [.bool false])):=by
 constructor
 ·refine IX func166 rfl ntmps166 (by simp) (by decide) (by decide) rfl ?_
  simp only[Option.getD_none]
  repeat' first|refine gz ?_|apply gy<;>intro hh
  exact⟨.inl rfl,rfl,Sub.refl _⟩
 ·refine IX func166 rfl ntmps166 (by simp) (by decide) (by decide) rfl ?_
  simp only[bP]
  repeat' first|refine gf hi ?_|apply gy<;>intro hh
  exact⟨.inl rfl,rfl,Sub.refl _⟩
theorem Ma{V:Sig}{i:Nat}{o:DObj}:Sub (V.del i) (V.set i o):=fun j x h=>by
 by_cases hj:j=i
 ·subst hj;simp[Sig.del]at h
 ·rw[w8 _ _ hj];simpa[Sig.del,hj] using h
theorem X6(g:Nat)(cap:fE)(V:Sig)(R:Sig->DE->Sig->Prop)
  (hg:∀i,V i=none->au prog g cap (V.set i (.cells [.bool false])) (R (V.set i (.cells [.bool false]))))
  (hR:∀S' d S'',R S' (.panic d) S''->d=unf) (hk:∀i S'' x,V i=none->R (V.set i (.cells [.bool false])) x S''->S'' i=some (.cells [.bool false])) :
  au prog 78 [.func (.func g) [] cap] V fun x S'=> ∃i S'',V i=none/\S'=S''.del i /\
   ((∃d,R (V.set i (.cells [.bool false])) (.ret d) S''/\x=.ret (.bool true))\/(R (V.set i (.cells [.bool false])) (.panic unf) S''/\x=.ret (.bool false))):=by
 refine HM (fd:=166) func78 rfl (E0 func166 (by rfl) (by rfl)) (by rw[An];decide) (by decide) ntmps78 (by simp) ?_
 refine gz ?_ [] [2]
 refine newV (fun i hi=>?_)
 refine gz ?_ [] [2]
 refine LJ (f:=166) (by rw[An];decide) rfl rfl ?_
 refine gz ?_ [] [2]
 refine Ac (hg i hi) (fun d S' hr=>?_) (fun d S' hp=>?_)
 ·have fU:=hk i S' _ hi hr
  refine gf fU ?_ [] [2]
  refine⟨_,Wk.refl _ _ _,[.ptr i 0],S'.set i (.cells [.bool true]),.bool true,rfl,(Oj i true _ (w7 ..)).1,Do (ds:=[.bool true]) Af ?_,.ret (.bool true),S'.del i,A9 _,Ma,i,S',hi,rfl,.inl ⟨d,hr,rfl⟩⟩
  simp[resL]
 ·have fU:=hk i S' _ hi hp
  obtain rfl:=hR _ _ _ hp
  refine gz ?_ [] [2]
  refine⟨_,Wk.refl _ _ _,[.ptr i 0],S'.set i (.cells [.bool false]),.bool false,rfl,(Oj i false _ fU).2,Do (ds:=[.bool false]) Af ?_,.ret (.bool false),S'.del i,A9 _,Ma,i,S',hi,rfl,.inr ⟨hp,rfl⟩⟩
  simp[resL]
def unf2:D:=.iface 304 (.agg [])
theorem V3(b:Bool)(V:Sig):au prog 186 [.bool b] V fun x S'=>x=(if b then .ret (.tup []) else .panic unf2)/\S'=V:=by
 refine en func186 ntmps186 ?_
 cases b
 ·refine gz ?_
  refine pan ?_
  exact finP (S':=V) ⟨rfl,rfl⟩
 ·refine gz ?_
  exact Ef (S':=V) ⟨rfl,rfl⟩
@[reducible,instance] def a186:=fun b V=>gh0 (@V3 b V)
theorem Oe(i:Nat)(b:Bool)(V:Sig)(hi:V i=some (.cells [.bool b])):P6 prog 233 [.ptr i 0] V none V/\P6 prog 233 [.ptr i 0] V (some unf2) (V.set i (.cells [.bool false])):=by
 constructor
 ·refine IX func233 rfl ntmps233 (by simp) (by decide) (by decide) rfl ?_
  simp only[Option.getD_none]
  repeat' first|refine gz ?_|apply gy<;>intro hh
  exact⟨.inl rfl,rfl,Sub.refl _⟩
 ·refine IX func233 rfl ntmps233 (by simp) (by decide) (by decide) rfl ?_
  simp only[bP]
  repeat' first|refine gf hi ?_|apply gy<;>intro hh
  exact⟨.inl rfl,rfl,Sub.refl _⟩
theorem V4(g:Nat)(cap:fE)(V:Sig)(R:Sig->DE->Sig->Prop)
  (hg:∀i,V i=none->au prog g cap (V.set i (.cells [.bool false])) (R (V.set i (.cells [.bool false]))))
  (hR:∀S' d S'',R S' (.panic d) S''->d=unf2) (hk:∀i S'' x,V i=none->R (V.set i (.cells [.bool false])) x S''->S'' i=some (.cells [.bool false])) :
  au prog 183 [.func (.func g) [] cap] V fun x S'=> ∃i S'',V i=none/\S'=S''.del i /\
   ((∃d,R (V.set i (.cells [.bool false])) (.ret d) S''/\x=.ret (.bool true))\/(R (V.set i (.cells [.bool false])) (.panic unf2) S''/\x=.ret (.bool false))):=by
 refine HM (fd:=233) func183 rfl (E0 func233 (by rfl) (by rfl)) (by rw[An];decide) (by decide) ntmps183 (by simp) ?_
 refine gz ?_ [] [2]
 refine newV (fun i hi=>?_)
 refine gz ?_ [] [2]
 refine LJ (f:=233) (by rw[An];decide) rfl rfl ?_
 refine gz ?_ [] [2]
 refine Ac (hg i hi) (fun d S' hr=>?_) (fun d S' hp=>?_)
 ·have fU:=hk i S' _ hi hr
  refine gf fU ?_ [] [2]
  refine⟨_,Wk.refl _ _ _,[.ptr i 0],S'.set i (.cells [.bool true]),.bool true,rfl,(Oe i true _ (w7 ..)).1,Do (ds:=[.bool true]) Af ?_,.ret (.bool true),S'.del i,A9 _,Ma,i,S',hi,rfl,.inl ⟨d,hr,rfl⟩⟩
  simp[resL]
 ·have fU:=hk i S' _ hi hp
  obtain rfl:=hR _ _ _ hp
  refine gz ?_ [] [2]
  refine⟨_,Wk.refl _ _ _,[.ptr i 0],S'.set i (.cells [.bool false]),.bool false,rfl,(Oe i false _ fU).2,Do (ds:=[.bool false]) Af ?_,.ret (.bool false),S'.del i,A9 _,Ma,i,S',hi,rfl,.inr ⟨hp,rfl⟩⟩
  simp[resL]
end Go.DL
namespace Go.DL
open Go.Proofs.Tryz
open Go Go.Proofs
set_option maxHeartbeats 8000000
def OC{α:Type}:Option α->Int
 |some _=>0
 |none=>2
theorem QC(p:aw)(V:Sig)(hp:p.wt<=1073741824:=by exact sd):
  au prog 28 [.agg (Ai p)] V (rS (.bool (F8 p).isSome) V):=by
 refine en func28 ntmps28 ?_
 try refine gz ?_
 exact fe1 trivial
def kwds:fD:=[[97,102,116,101,114],[97,110,100],[97,110,121],[97,114,111,117,110,100],[98,101,102,111,114,101],[99,108,97,115,115],[101,108,115,101],[105,102],[105,110],[105,110,116],[105,115],[108,101,116],[109,101,116,104,111,100],[110,101,119],[110,101,120,116],[110,111,110,101],[110,111,116],[111,114],[111,117,116],[115,101,116],[116,104,101,110],[116,114,117,101],[116,117,114,110],[119,104,101,114,101]]
theorem Uw(V:Sig):au prog 252 [] V (rS (.slice (cS kwds) .clip) V):=by
 refine en func252 ntmps252 ?_
 refine gz ?_
 (refine fin1 (S':=V) ?_;exact⟨by first|rfl|(simp[kwds,cS];done)|(simp_all [kwds,cS];done)|(rw[A5,aO];simp_all [kwds,cS]<;>omega),rfl⟩)
@[reducible,instance] def a252:=fun V=>ah0 (@Uw V)
def DA(b:UInt8):Bool:=decide (97<=b.toNat/\b.toNat<=122)
def AJ(s:Str):Bool:=s.all DA&&(decide (1<=s.length/\s.length<=8)&&!decide (s∈kwds))
theorem UO(s:Str)(V:Sig)(hl:s.length<=1073741824:=by exact sd):au prog 210 [.str s] V (rS (.bool (AJ s)) V):=by
 have iC:kwds.length=24:=rfl
 refine en func210 ntmps210 ?_
 refine gz ?_
 refine B5 [0,20,21,22,23,24,25,26,27,28,29,30,31,32,33] (fun (k:Nat)=>k<=s.length/\s.all DA=(s.drop k).all DA) (fun k=>[(3,dI k)]) (fun _=>V) (fun k=>s.length-k) (0) (by simp) (fun k hI=>?_)
 obtain⟨hk,hR⟩:=hI
 by_cases h:k<s.length
 ·rw[A2 h,bV]at hR
  repeat' first|refine gz ?_|apply gy<;>intro hh
  ·have hn:DA s[k]=false:=by unfold DA;simp;omega
   rw[hn]at hR
   (refine fin1 (S':=V) ?_;exact⟨by first|rfl|(simp[AJ,hR];done)|(simp_all [AJ,hR];done)|(rw[A5,aO];simp_all [AJ,hR]<;>omega),rfl⟩)
  ·have hn:DA s[k]=false:=by unfold DA;simp;omega
   rw[hn]at hR
   (refine fin1 (S':=V) ?_;exact⟨by first|rfl|(simp[AJ,hR];done)|(simp_all [AJ,hR];done)|(rw[A5,aO];simp_all [AJ,hR]<;>omega),rfl⟩)
  ·have hn:DA s[k]=true:=by unfold DA;simp;omega
   exact⟨k+1,⟨by omega,by rw[hR,hn];rfl⟩,td1,wkR⟩
 ·rw[A1 h]at hR
  repeat' first|refine gz ?_|apply gy<;>intro hh
  any_goals (first|(refine fin1 (S':=V) ?_;exact⟨by first|rfl|(simp[AJ,hR];done)|(simp_all [AJ,hR];done)|(rw[A5,aO];simp_all [AJ,hR]<;>omega),rfl⟩)|fail)
@[reducible,instance] def a210:=fun s V=>ah1 (@UO s V)
theorem Qs{α β:Type}(f:α->List β)(w:α->Nat)(h:∀x,(f x).length<=w x): ∀l:List α,(l.flatMap f).length<=wtL w l
 |[]=>by simp[wtL]
 |x::l=>by
  have:=Qs f w h l
  have:=h x
  simp only[cz,aH,wtL];omega
theorem Jk(p:aF):(p.aa.flatMap (·.ae)).length<=p.wt:=by
 have:=Qs (·.ae) aD.wt (fun c=>by have:=Bb c.ae;unfold aD.wt;omega) p.aa
 unfold aF.wt;omega
theorem Vz(p:aF)(V:Sig)(hp:p.wt<=1073741824:=by exact sd):au prog 123 [.agg (Bd p)] V (rS (sl (cS (p.aa.flatMap (·.ae)))) V):=by
 obtain⟨p1,p2,p3,p4,p5⟩:=p.wt_le
 have gk:=Jk p
 refine en func123 ntmps123 ?_
 refine gz ?_
 refine Bv 3 1 (fun i hi=>?_)
 refine AB [1,2,20] (fun (k:Nat) (out:fD)=>k<=p.aa.length/\out++(p.aa.drop k).flatMap (·.ae)=p.aa.flatMap (·.ae)) (fun k out=>[(4,dI k),(3,.slice (cS out) (.tag i))]) (fun _ out=>V.set i (.tail 1 out.length)) (fun k _=>p.aa.length-k) (0) ([]) (by simp) (fun k out hI=>?_)
 obtain⟨hk,hR⟩:=hI
 have hlen:=bF List.length hR
 by_cases h:k<p.aa.length
 ·rw[A2 h,cz]at hR hlen
  simp only[aH]at hlen
  have hx:=p5
  refine gz ?_
  exact⟨k+1,out++(p.aa[k]).ae,⟨by omega,by rw[aT];exact hR⟩,td1,wkR⟩
 ·rw[A1 h]at hR
  simp at hR
  refine gz ?_
  exact finS (S':=V) (es:=cS out) ⟨by rw[hR],rfl⟩
@[reducible,instance] def a123:=fun p V=>ah1 (@Vz p V)
end Go.DL
