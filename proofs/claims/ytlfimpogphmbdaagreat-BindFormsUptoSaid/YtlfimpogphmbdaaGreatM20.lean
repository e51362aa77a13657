/- Part of the proof that the last text ends. -/
import Derived.Test.YtlfimpogphmbdaaGreatM17
import Derived.Test.YtlfimpogphmbdaaGreatM19
import Derived.Test.YtlfimpogphmbdaaGreatM18
set_option linter.all false
namespace Go.DL
open Go.Proofs.Tryz
open Go Go.Proofs
set_option maxHeartbeats 8000000
def CB:Int->List Int->Option Int
 |n,[]=>some n
 |n,s::r=>if s=n then CB (n+1) r else none
def Fi:Int->List BClass->Option Int
 |n,[]=>some n
 |n,c::r=>if 4<c.slots.length\/3<c.parents.length then none else match CB n c.slots with
  |none=>none
  |some m=>Fi m r
def Fh(w:World)(N c:Int)(x:Init):Bool:=decide (0<=x.slot/\x.slot<N)&&hasW w c x.slot&&inB x.n
def FH(w:World)(N c:Int):List Init->List Init->Bool
 |_,[]=>true
 |seen,x::r=>Fh w N c x&&(seen.all fun y => !decide (y.slot=x.slot))&&FH w N c (seen++[x]) r
def DO(w:World)(N:Int):Nat->List BClass->Bool
 |_,[]=>true
 |i,c::r=>decide (0<(FE w.parents ((i:Int)+3)).length)&&FH w N ((i:Int)+3) [] c.inits&&DO w N (i+1) r
def AG(p:BProg):Bool:=decide (p.classes.length<=10)&&match Fi 0 p.classes with
 |none=>false
 |some n=>decide (n=p.slots)&&Bq (p.classes.map (·.parents))&&DO (AR p) n 0 p.classes
theorem Cb: ∀(l:List BClass) (i:Nat),(ownersF l i).length=wtL (fun c:BClass=>c.slots.length) l
 |[],_=>rfl
 |c::r,i=>by rw[ownersF,List.length_append,List.length_replicate,Cb r];rfl
theorem GC: ∀{l:List BClass} {i:Nat} {x:Int},x∈ownersF l i->3+(i:Int)<=x/\x<3+i+l.length
 |[],_,_,h=>by cases h
 |c::r,i,x,h=>by
  rw[ownersF]at h
  rcases List.mem_append.1 h with h|h
  ·have:=List.eq_of_mem_replicate h;rw[List.length_cons];omega
  ·have:=GC h;rw[List.length_cons];omega
theorem VS (p:BProg) (V:Sig) (hp:p.wt<=1073741824:=by exact sd):DCall prog 90 [.agg (Am p)] V (rS (.bool (AG p)) V):=by
 obtain⟨p1,p2,p3,p4,p5,p6,p7⟩:=p.wt_le
 have ws:=GP p
 have hwc:∀c∈p.classes,c.parents.length<=1073741824/\c.slots.length<=1073741824/\c.inits.length<=1073741824:=fun c hc=>by
  obtain⟨k,hk,rfl⟩:=List.getElem_of_mem hc
  have:=p5 k hk
  have hwu:(p.classes[k]).wt=1+(p.classes[k]).parents.length+(p.classes[k]).slots.length+(p.classes[k]).inits.length:=rfl
  omega
 refine en func90 ntmps90 ?_
 repeat' first|refine gz ?_ o90|apply gy<;>intro hh
 ·(refine fin1 (S':=V) ?_;exact⟨by first|rfl|(simp[AG];done)|(simp_all [AG];done)|(rw[A7,Bool.eq_iff_iff];simp_all [AG]<;>omega),rfl⟩)
 refine AA [1,7,8,9,10,11,12,13,14,15,60,61,62,63,64,65,66,67,68,69,70,71,72,73,74,75,76,77,78,79,80,81,82,83,84,85,86,87,88,89,90,91,92,93,94,95,96,97,98,99,100,101,102,103,104,105,106,107,108,109,110,111,112,113,114,115,116,117,118,119,120,121,122,123,124,125,126,127,128,129,130,131,132,133,134,135,136,137,138,139,140,141,142,143,144,145,146,147,148,149,150,151,152] (fun (i:Nat) (n:Int)=>i<=p.classes.length/\n=wtL (fun c:BClass=>c.slots.length) (p.classes.take i)/\Fi 0 p.classes=Fi n (p.classes.drop i)) (fun i n=>[(4,dI i),(3,dI n)]) (fun _ _=>V) (fun i _=>p.classes.length-i) (0) (0) (by simp[wtL]) (fun i n hI =>?_)
 obtain⟨hi,hn,hR⟩:=hI
 by_cases h:i<p.classes.length
 ·have hx:=hwc _ (List.getElem_mem h)
  have hT:=Ij (fun c:BClass=>c.slots.length) p.classes i h
  have hT2:=EN (fun c:BClass=>c.slots.length) p.classes (i+1)
  rw[A0 h,Fi]at hR
  repeat' first|refine gz ?_ o90|apply gy<;>intro hh
  ·have hc:Fi 0 p.classes=none:=by rw[hR,if_pos (.inl (by omega))]
   (refine fin1 (S':=V) ?_;exact⟨by first|rfl|(simp[AG,hc];done)|(simp_all [AG,hc];done)|(rw[A7,Bool.eq_iff_iff];simp_all [AG,hc]<;>omega),rfl⟩)
  ·have hc:Fi 0 p.classes=none:=by rw[hR,if_pos (.inr (by omega))]
   (refine fin1 (S':=V) ?_;exact⟨by first|rfl|(simp[AG,hc];done)|(simp_all [AG,hc];done)|(rw[A7,Bool.eq_iff_iff];simp_all [AG,hc]<;>omega),rfl⟩)
  ·rw[if_neg (by omega)]at hR
   generalize hsl:(p.classes[i]).slots=sl' at *
   refine B2 [1,4,5,7,8,9,10,11,12,13,14,15,20,21,22,23,24,25,26,27,28,29,30,31,32,33,34,35,36,37,38,39,40,41,42,43,44,45,60,61,62,63,64,65,66,67,68,69,70,71,72,73,74,75,76,77,78,79,80,81,82,83,84,85,86,87,88,89,90,91,92,93,94,95,96,97,98,99,100,101,102,103,104,105,106,107,108,109,110,111,112,113,114,115,116,117,118,119,120,121,122,123,124,125,126,127,128,129,130,131,132,133,134,135,136,137,138,139,140,141,142,143,144,145,146,147,148,149,150,151,152] (fun (q:Nat)=>q<=sl'.length/\CB n sl'=CB (n+q) (sl'.drop q)) (fun q=>[(6,dI q),(3,dI (n+q))]) (fun _=>V) (fun q=>sl'.length-q) (0) (by simp) (fun q hI =>?_)
   obtain⟨hq,hQ⟩:=hI
   by_cases hq':q<sl'.length
   ·rw[A0 hq',CB]at hQ
    have hsm:=hx.2.1
    have hn0:0<=n:=by omega
    have hnb:n<=1073741824:=by omega
    repeat' first|refine gz ?_ o90|apply gy<;>intro hh
    ·rw[if_neg hh]at hQ
     have hc:Fi 0 p.classes=none:=by rw[hR,hQ]
     (refine fin1 (S':=V) ?_;exact⟨by first|rfl|(simp[AG,hc];done)|(simp_all [AG,hc];done)|(rw[A7,Bool.eq_iff_iff];simp_all [AG,hc]<;>omega),rfl⟩)
    ·rw[if_pos hh]at hQ
     exact⟨q+1,⟨by omega,by rw[hQ,Int.add_assoc];rfl⟩,td1,wkR⟩
   ·rw[A1 hq',CB]at hQ
    rw[hQ]at hR
    have hq2:q=sl'.length:=by omega
    try refine gz ?_ o90
    exact⟨i+1,n+q,⟨by omega,by rw[hT];omega,hR⟩,td1,wkR⟩
 ·rw [A1 h,Fi] at hR
  have hw1:(AR p).parents=p.classes.map (·.parents):=rfl
  have hol:(AR p).owner.length=wtL (fun c:BClass=>c.slots.length) p.classes:=Cb _ _
  have hno:n=wtL (fun c:BClass=>c.slots.length) p.classes:=by rw[hn,List.take_of_length_le (by omega)]
  have h31:=PG p V (by omega) (fun c hc=>(hwc c hc).1)
  have h71:=LZ p V (by omega) (fun c hc=>(hwc c hc).1) (fun c hc=>(hwc c hc).2.1) (by rw[Cb];omega)
  have h175:=U9 (p.classes.map (·.parents)) .no V (by simp;omega) (fun x hx=>by obtain⟨c,hc,rfl⟩:=List.mem_map.1 hx;exact(hwc c hc).1)
  by_cases hs:n=p.slots
  ·cases hg:Bq (p.classes.map (·.parents)) with
   |false =>
    rw[hg]at h175
    repeat' first|refine gz ?_|refine Ax (h31) ?_|refine callP (h31) ?_|refine Fj (h175) ?_|refine Fk (h175) ?_|refine gz ?_ o90|apply gy<;>intro hh
    (refine fin1 (S':=V) ?_;exact⟨by first|rfl|(simp[AG,hR,hg];done)|(simp_all [AG,hR,hg];done)|(rw[A7,Bool.eq_iff_iff];simp_all [AG,hR,hg]<;>omega),rfl⟩)
   | true =>
    rw[hg]at h175
    have hcl:AG p=DO (AR p) n 0 p.classes:=by unfold AG;rw[hR];simp[hs,hg];omega
    repeat' first|refine gz ?_|refine Ax (h31) ?_|refine callP (h31) ?_|refine Fj (h175) ?_|refine Fk (h175) ?_|refine Ax (h71) ?_|refine callP (h71) ?_|refine gz ?_ o90|apply gy<;>intro hh
    have hown:∀x∈(AR p).owner,0<=x/\x<3+(AR p).parents.length:=fun x hx=>by
     have:=GC hx
     rw[hw1,List.length_map];omega
    have hgw:Bq (AR p).parents=true:=hg
    have hwl:(AR p).parents.length=p.classes.length:=by rw[hw1,List.length_map]
    have hol:((AR p).owner.length:Int)=n:=by rw[hno];exact_mod_cast hol
    clear h31 h71 h175
    generalize hw:AR p=w at *
    refine B2 [1,3,7,8] (fun (j:Nat)=>j<=p.classes.length/\DO w n 0 p.classes=DO w n j (p.classes.drop j)) (fun j=>[(9,dI j)]) (fun _=>V) (fun j=>p.classes.length-j) (0) (by simp) (fun j hI =>?_)
    obtain⟨hj,hJ⟩:=hI
    by_cases h':j<p.classes.length
    ·have hx:=hwc _ (List.getElem_mem h')
     rw[A0 h',DO]at hJ
     have h33:=Wf w.parents ((j:Int)+3) .no V hgw (by omega) (fun x hx=>by rw[hw1]at hx;obtain⟨c,hc,rfl⟩:=List.mem_map.1 hx;exact(hwc c hc).1)
     rw[hw1]at h33
     by_cases hl:0<(FE w.parents ((j:Int)+3)).length
     ·rw [decide_eq_true hl,Bool.true_and] at hJ
      rw[hw1]at hl
      rw[decide_eq_true hl]at h33
      generalize hin:(p.classes[j]).inits=ins at hJ hx
      repeat' first|refine gf hin ?_|refine Ax (h33) ?_|refine callP (h33) ?_|refine gf hin ?_ o90|apply gy<;>intro hh
      refine B2 [1,3,7,8,9,10,11,12,13,73,74,75,76,77,78,79,80,81,82,83,84,85,86,87,88,89,90,91,92,93,94,95] (fun (k:Nat)=>k<=ins.length/\FH w n ((j:Int)+3) [] ins=FH w n ((j:Int)+3) (ins.take k) (ins.drop k)) (fun k=>[(14,dI k)]) (fun _=>V) (fun k=>ins.length-k) (0) (by simp) (fun k hI =>?_)
      obtain⟨hk,hK⟩:=hI
      by_cases hk':k<ins.length
      ·have hil:=hx.2.2
       rw[A0 hk',FH]at hK
       repeat' first|refine gz ?_ o90|apply gy<;>intro hh
       ·have hf:Fh w n ((j:Int)+3) ins[k]=false:=by unfold Fh;rw[decide_eq_false (by omega)];rfl
        rw[hf,Bool.false_and,Bool.false_and]at hK
        rw[hK,Bool.false_and]at hJ
        exact fe1 (gi hcl hJ)
       ·have hf:Fh w n ((j:Int)+3) ins[k]=false:=by unfold Fh;rw[decide_eq_false (by omega)];rfl
        rw[hf,Bool.false_and,Bool.false_and]at hK
        rw[hK,Bool.false_and]at hJ
        exact fe1 (gi hcl hJ)
       ·have hf:Fh w n ((j:Int)+3) ins[k]=false:=by unfold Fh;simp_all
        rw[hf,Bool.false_and,Bool.false_and]at hK
        rw[hK,Bool.false_and]at hJ
        exact fe1 (gi hcl hJ)
       ·have hf:Fh w n ((j:Int)+3) ins[k]=false:=by unfold Fh;simp_all
        rw[hf,Bool.false_and,Bool.false_and]at hK
        rw[hK,Bool.false_and]at hJ
        exact fe1 (gi hcl hJ)
       ·have ht:Fh w n ((j:Int)+3) ins[k]=true:=by unfold Fh;rw[decide_eq_true (by omega)];simp_all
        rw[ht,Bool.true_and]at hK
        refine B2 [1,3,7,8,9,10,11,12,13,14,73,74,75,76,77,78,79,80,81,82,83,84,85,86,87,88,89,90,91,92,93,94,95,96,97,98,99,100,101,102,103,104,105,106,107,108,109,110,111,112,113,114,115,116,117,118,119,120,121,122,123,124,125,126,127,128,129,130,131,132,133,134,135,136] (fun (m:Nat)=>m<=k/\((ins.take m).all fun y => !decide (y.slot=(ins[k]).slot))=true) (fun m=>[(15,dI m)]) (fun _=>V) (fun m=>k-m) (0) (by simp) (fun m hI =>?_)
        obtain⟨hm,hM⟩:=hI
        by_cases hm':m<k
        ·have hml:m<ins.length:=by omega
         repeat' first|refine gz ?_ o90|apply gy<;>intro hh
         ·have hf:((ins.take k).all fun y => !decide (y.slot=(ins[k]).slot))=false:=by
           rw[List.all_eq_false]
           exact⟨ins[m],List.mem_take_iff_getElem.2 ⟨m,by omega,rfl⟩,by simp[hh]⟩
          rw[hf,Bool.false_and]at hK
          rw[hK,Bool.false_and]at hJ
          exact fe1 (gi hcl hJ)
         ·exact⟨m+1,⟨by omega,by rw[List.take_succ_eq_append_getElem hml,List.all_append,hM];simp[hh]⟩,td1,wkR⟩
        ·have hmk:m=k:=by omega
         subst hmk
         rw[hM,Bool.true_and]at hK
         try refine gz ?_ o90
         exact⟨m+1,⟨by omega,by rw[hK,AH hk']⟩,td1,wkR⟩
      ·rw[A1 hk',FH]at hK
       rw[hK,Bool.true_and]at hJ
       try refine gz ?_ o90
       exact⟨j+1,⟨by omega,hJ⟩,td1,wkR⟩
     ·rw[decide_eq_false hl,Bool.false_and,Bool.false_and]at hJ
      rw[hw1]at hl
      rw[decide_eq_false hl]at h33
      repeat' first|refine gz ?_|refine Ax (h33) ?_|refine callP (h33) ?_|refine gz ?_ o90|apply gy<;>intro hh
      exact fe1 (gi hcl hJ)
    ·rw[A1 h',DO]at hJ
     try refine gz ?_ o90
     exact fe1 (gi hcl hJ)
  ·repeat' first|refine gz ?_|refine Ax (h31) ?_|refine callP (h31) ?_|refine gz ?_ o90|apply gy<;>intro hh
   (refine fin1 (S':=V) ?_;exact⟨by first|rfl|(simp[AG,hR,hs];done)|(simp_all [AG,hR,hs];done)|(rw[A7,Bool.eq_iff_iff];simp_all [AG,hR,hs]<;>omega),rfl⟩)
def Vq(w:World)(l:List Int):Bool:=l.all (fun s=>decide (0<=s/\s<w.owner.length))&&decide (l.length<=2)
def Gt(op:Int):Int:=if op=5 then 1 else if op=6\/op=7 then 2 else 0
def Jw(w:World)(f:Fact):Bool :=
 if f.op=2 then decide (f.n=0)&&decide (0<=f.cls/\f.cls<3+w.parents.length)
 else if f.op=3\/f.op=4 then decide (f.cls=0)&&decide (-1000000000<=f.n/\f.n<=1000000000)
 else decide (f.op=1\/f.op=5\/f.op=6\/f.op=7)
def F2(w:World)(f:Fact):Bool :=
 decide ((f.kids.length:Int)=Gt f.op)&&decide (0<=f.arg/\f.arg<3)&&Vq w f.path&&(BZ f.op||(decide (f.arg=0)&&decide (f.path.length=0)&&decide (f.cls=0)&&decide (f.n=0)))
mutual
def J3(w:World):Fact->Bool
 |.mk o a p c n k=>Jw w (.mk o a p c n k)&&F2 w (.mk o a p c n k)&&E5 w k
def E5(w:World):List Fact->Bool
 |[]=>true
 |f::l=>J3 w f&&E5 w l
end
theorem Pf(w:World)(f:Fact):J3 w f=(Jw w f&&F2 w f&&E5 w f.kids):=by cases f;rw[J3];rfl
theorem Ans.of{f:Nat}{us:List D}{V:Sig}{d:D}(h:DCall prog f us V (rS d V)):Ans f us V True d:=⟨fun _=>h⟩
theorem Nx (w:World) (f:Fact) (V:Sig) (hw:w.parents.length<=1073741824:=by exact sd) (hwo:w.owner.length<=1073741824:=by exact sd) (hf:f.wt<=1073741824:=by exact sd) :
  DCall prog 179 [.agg (Da w),.agg (Bp f)] V (rS (.bool (J3 w f)) V):=by
 obtain⟨f1,f2,f3⟩:=f.wt_le
 have hkid:∀(k:Nat) (hk:k<f.kids.length),DCall prog 179 [.agg (Da w),.agg (Bp (f.kids[k]))] V (rS (.bool (J3 w (f.kids[k]))) V):=fun k hk=>Nx w (f.kids[k]) V hw hwo (by have:=f3 k hk;omega)
 have hnf:=Pf w f
 refine en func179 ntmps179 ?_
 cases ho:Jw w f with
 | false =>
  rw[ho,Bool.false_and,Bool.false_and]at hnf
  unfold Jw at ho
  by_cases h2:f.op=2
  ·rw[if_pos h2,Bool.and_eq_false_iff,decide_eq_false_iff_not]at ho
   by_cases hn:f.n=0
   ·have hc:decide (0<=f.cls/\f.cls<3+(w.parents.length:Int))=false:=ho.resolve_left (fun h=>h hn)
    refine gf (gi h2 hc) ?_
    exact fe1 hnf
   ·refine gf h2 ?_
    exact fe1 hnf
  ·rw [if_neg h2] at ho
   by_cases h34:f.op=3\/f.op=4
   ·rw [if_pos h34,Bool.and_eq_false_iff,decide_eq_false_iff_not,decide_eq_false_iff_not] at ho
    by_cases hc:f.cls=0
    ·by_cases hn:f.n < -1000000000
     ·rcases h34 with h3|h4
      ·refine gz ?_
       exact fe1 hnf
      ·refine gz ?_
       exact fe1 hnf
     ·rcases h34 with h3|h4
      ·refine gz ?_
       exact fe1 hnf
      ·refine gz ?_
       exact fe1 hnf
    ·rcases h34 with h3|h4
     ·refine gz ?_
      exact fe1 hnf
     ·refine gz ?_
      exact fe1 hnf
   ·rw[if_neg h34]at ho
    have ho':=of_decide_eq_false ho
    refine gz ?_
    exact fe1 hnf
 | true =>
  rw[ho,Bool.true_and]at hnf
  unfold Jw at ho
  repeat ((fail_if_success refine dwp_join (c := .block 0 _) 5 (dI 0) ?_ ?_);(refine go1 trivial ?_))
  refine dwp_join (c := .block 0 _) 5 (dI (Gt f.op)) ?_ ?_
  ·by_cases h2:f.op=2
   ·rw[if_pos h2,Bool.and_eq_true,decide_eq_true_eq]at ho
    have hwf:Gt f.op=0:=by rw[h2];rfl
    refine gf (gi h2 ho.2) ?_
    refine Fo ?_ (Sub.refl _);simp[hwf]
   ·rw[if_neg h2]at ho
    by_cases h34:f.op=3\/f.op=4
    ·rw[if_pos h34,Bool.and_eq_true,decide_eq_true_eq,decide_eq_true_eq]at ho
     rcases h34 with h3|h4
     ·have hwf:Gt f.op=0:=by rw[h3];rfl
      refine gz ?_
      refine Fo ?_ (Sub.refl _);simp[hwf]
     ·have hwf:Gt f.op=0:=by rw[h4];rfl
      refine gz ?_
      refine Fo ?_ (Sub.refl _);simp[hwf]
    ·rw[if_neg h34]at ho
     rcases of_decide_eq_true ho with h1|h1|h1|h1
     ·have hwf:Gt f.op=0:=by rw[h1];rfl
      refine gz ?_
      refine Fo ?_ (Sub.refl _);simp[hwf]
     ·have hwf:Gt f.op=1:=by rw[h1];rfl
      refine gz ?_
      refine Fo ?_ (Sub.refl _);simp[hwf]
     ·have hwf:Gt f.op=2:=by rw[h1];rfl
      refine gz ?_
      refine Fo ?_ (Sub.refl _);simp[hwf]
     ·have hwf:Gt f.op=2:=by rw[h1];rfl
      refine gz ?_
      refine Fo ?_ (Sub.refl _);simp[hwf]
  ·clear ho
   have hwk:Gt f.op=0\/Gt f.op=1\/Gt f.op=2:=by
    unfold Gt;split
    ·exact .inr (.inl rfl)
    ·split
     ·exact .inr (.inr rfl)
     ·exact .inl rfl
   have h232:DCall prog 232 [.agg (Da w),.slice (cI f.path) .no] V (rS (.bool (Vq w f.path)) V):=TC w f.path .no V hwo (by omega)
   have h180:=Nw f V
   cases hr:F2 w f with
   | false =>
    rw[hr,Bool.false_and]at hnf
    unfold F2 at hr
    by_cases hk:(f.kids.length:Int)=Gt f.op
    ·rw [decide_eq_true hk,Bool.true_and] at hr
     by_cases ha1:f.arg<0
     ·refine gz ?_
      exact fe1 hnf
     ·by_cases ha2:3<=f.arg
      ·refine gz ?_
       exact fe1 hnf
      ·rw [decide_eq_true (by omega),Bool.true_and] at hr
       cases hp:Vq w f.path with
       |false =>
        rw[hp]at h232
        have i232:=Ans.of h232
        refine gz ?_
        exact fe1 hnf
       | true =>
        rw[hp]at h232
        have i232:=Ans.of h232
        rw[hp,Bool.true_and,Bool.or_eq_false_iff]at hr
        rw[hr.1]at h180
        have i180:=Ans.of h180
        have hr2:¬(f.arg=0/\(f.path.length=0)/\f.cls=0/\f.n=0):=fun h=>by
         have:=hr.2;rw[decide_eq_true h.1,decide_eq_true h.2.1,decide_eq_true h.2.2.1,decide_eq_true h.2.2.2]at this;cases this
        by_cases hq1:f.arg=0
        ·by_cases hq2:f.path.length=0
         ·by_cases hq3:f.cls=0
          ·refine gz ?_
           exact fe1 hnf
          ·refine gz ?_
           exact fe1 hnf
         ·refine gz ?_
          exact fe1 hnf
        ·refine gz ?_
         exact fe1 hnf
    ·refine gz ?_
     exact fe1 hnf
   | true =>
    rw[hr,Bool.true_and]at hnf
    unfold F2 at hr
    simp only[Bool.and_eq_true,decide_eq_true_eq]at hr
    obtain⟨⟨⟨hk,ha⟩,hp⟩,hl⟩:=hr
    rw[hp]at h232
    have i232:=Ans.of h232
    cases hlf:BZ f.op with
    | true =>
     rw[hlf]at h180
     have i180:=Ans.of h180
     refine gz ?_
     refine B2 [2,92,93] (fun (k:Nat)=>k<=f.kids.length/\E5 w f.kids=E5 w (f.kids.drop k)) (fun k=>[(94,dI k)]) (fun _=>V) (fun k=>f.kids.length-k) (0) (by simp) (fun k hI =>?_)
     obtain⟨hk,hK⟩:=hI
     by_cases hk':k<f.kids.length
     ·rw[A0 hk',E5]at hK
      repeat' first|refine gz ?_|refine Ax (hkid k hk') ?_|refine callP (hkid k hk') ?_|refine gz ?_|apply gy<;>intro hh
      ·exact fe1 (gi hnf hK)
      ·rw[show J3 w f.kids[k]=true by simpa using hh,Bool.true_and]at hK
       exact⟨k+1,⟨by omega,hK⟩,td1,wkR⟩
     ·rw[A1 hk',E5]at hK
      refine gz ?_
      exact fe1 (gi hnf hK)
    | false =>
     rw[hlf]at h180 hl
     have i180:=Ans.of h180
     simp only[Bool.false_or,Bool.and_eq_true,decide_eq_true_eq]at hl
     obtain⟨⟨⟨hq1,hq2⟩,hq3⟩,hq4⟩:=hl
     refine gz ?_
     refine B2 [2,92,93] (fun (k:Nat)=>k<=f.kids.length/\E5 w f.kids=E5 w (f.kids.drop k)) (fun k=>[(94,dI k)]) (fun _=>V) (fun k=>f.kids.length-k) (0) (by simp) (fun k hI =>?_)
     obtain⟨hk,hK⟩:=hI
     by_cases hk':k<f.kids.length
     ·rw[A0 hk',E5]at hK
      repeat' first|refine gz ?_|refine Ax (hkid k hk') ?_|refine callP (hkid k hk') ?_|refine gz ?_|apply gy<;>intro hh
      ·exact fe1 (gi hnf hK)
      ·rw[show J3 w f.kids[k]=true by simpa using hh,Bool.true_and]at hK
       exact⟨k+1,⟨by omega,hK⟩,td1,wkR⟩
     ·rw[A1 hk',E5]at hK
      refine gz ?_
      exact fe1 (gi hnf hK)
termination_by SizeOf.sizeOf f
decreasing_by exact Fact.lt (List.getElem_mem _)
@[reducible,instance] def a179:=fun w f V=>ah3 (@Nx w f V)
def Bx(f:Int->Int->List Int->Bool×List Int)(x:BNode)(size:Int):Nat->List Int->List Int->Bool×List Int
 |_,[],s=>(true,s)
 |j,c::r,s=>match f c (if x.op=9/\j=1 then size+1 else size) s with
  |(false,s')=>(false,s')
  |(true,s')=>Bx f x size (j+1) r s'
def Ap(p:BProg)(n:Int):BNode:=(p.nodes[n.toNat]?).getD ⟨0,0,[]⟩
def BR(p:BProg)(inM:Bool):Nat->Int->Int->List Int->Bool×List Int
 |0,_,_,s=>(false,s)
 |k+1,node,size,s =>
  if node<0\/(p.nodes.length:Int)<=node\/0<=s.getD node.toNat 0 then(false,s) else
  if((Ap p node).kids.length:Int)≠Cs p (Ap p node)\/Bk p (Ap p node) size=false\/((Ap p node).op=18/\inM=false) then(false,s.set node.toNat size) else
  Bx (BR p inM k) (Ap p node) size 0 (Ap p node).kids (s.set node.toNat size)
theorem Fq{f:Int->Int->List Int->Bool×List Int}{x:BNode}{size:Int}(hf:∀c z s,(f c z s).2.length=s.length): ∀(j:Nat) (l s:List Int),(Bx f x size j l s).2.length=s.length
 |_,[],_=>rfl
 |j,c::r,s=>by
  rw[Bx]
  have h:=hf c (if x.op=9/\j=1 then size+1 else size) s
  split
  ·rename_i s' e;rw[e]at h;exact h
  ·rename_i s' e;rw[e]at h;rw[Fq hf];exact h
theorem Ck(p:BProg)(inM:Bool): ∀(k:Nat) (node size:Int) (s:List Int),(BR p inM k node size s).2.length=s.length
 |0,_,_,_=>rfl
 | k+1,node,size,s=>by
  rw[BR]
  split
  ·rfl
  ·split
   ·simp
   ·rw[Fq (Ck p inM k),List.length_set]
def rowI(s:List Int)(rest:List D):List D:=s.map dI++rest
@[simp] theorem rowI_length(s:List Int)(rest:List D):(rowI s rest).length=s.length+rest.length:=by simp[rowI]
@[simp] theorem rowI_get(s:List Int)(rest:List D)(k:Nat)(h:k<s.length):(rowI s rest)[k]? = some (dI s[k]):=by
 unfold rowI;rw[List.getElem?_append_left (by simpa using h),List.getElem?_map,List.getElem?_eq_getElem h];rfl
@[simp] theorem rowI_put(s:List Int)(rest:List D)(k:Nat)(v:Int)(h:k<s.length):(rowI s rest).take k ++ .int .i64 v::(rowI s rest).drop (k+1)=rowI (s.set k v) rest:=by
 unfold rowI
 rw[List.take_append_of_le_length (by simp;omega),List.drop_append_of_le_length (by simp;omega), <-List.map_take, <-List.map_drop,List.set_eq_take_append_cons_drop,if_pos h]
 simp[dI]
theorem Sig.set_self(V:Sig){i:Nat}{o:DObj}(h:V i=some o):V.set i o=V:=by
 funext k;simp only[Sig.set];split
 ·rename_i e;rw[e,h]
 ·rfl
theorem G8 (p:BProg) (k:Nat) (node size:Int) (inM:Bool) (i cap:Nat) (s:List Int) (rest:List D) (V:Sig) (hk:k<=13) (hi:V i=some (.cells (rowI s rest))) (hs:s.length=p.nodes.length) (hsz:0<=size/\size+k<=1073741824) (hp:p.wt<=1073741824) :
  DCall prog 93 [.agg (Am p),dI node,dI size,dI (13-(k:Int)),.bool inM,.sref i 0 p.nodes.length cap] V fun x S'=>x=.ret (.bool (BR p inM k node size s).1)/\S'=V.set i (.cells (rowI (BR p inM k node size s).2 rest)):=by
 obtain⟨p1,p2,p3,p4,p5,p6,p7⟩:=p.wt_le
 refine en func93 ntmps93 ?_
 by_cases h1:node<0\/(p.nodes.length:Int)<=node
 ·have hW:BR p inM k node size s=(false,s):=by
   cases k with
   |zero=>rfl
   |succ k=>rw[BR,if_pos (by rcases h1 with h|h;exact .inl h;exact .inr (.inl h))]
  rw[hW,Sig.set_self V hi]
  rcases h1 with h1|h1
  ·refine gz ?_ o93
   exact fe1 trivial
  ·refine gz ?_ o93
   exact fe1 trivial
 ·obtain ⟨q,rfl⟩ : ∃ q:Nat,node=(q:Int):=⟨node.toNat,by omega⟩
  have hq:q<p.nodes.length:=by omega
  have hqs:q<s.length:=by omega
  have hq0:((q:Int)).toNat=q:=by omega
  have hget:s.getD ((q:Int)).toNat 0=s[q]:=by rw[hq0,List.getD_eq_getElem?_getD,List.getElem?_eq_getElem hqs];rfl
  by_cases h2:0<=s[q]
  ·have hW:BR p inM k q size s=(false,s):=by
    cases k with
    |zero=>rfl
    |succ k=>rw[BR,if_pos (.inr (.inr (by rw[hget];exact h2)))]
   rw[hW,Sig.set_self V hi]
   refine gf hi ?_ o93
   exact fe1 trivial
  ·cases k with
   |zero =>
    rw[BR,Sig.set_self V hi]
    refine gf hi ?_ o93
    exact fe1 trivial
   | succ k =>
    rw[BR,if_neg (by rw[hget];omega)]
    have hna:Ap p q=p.nodes[q]:=by unfold Ap;rw[hq0,List.getElem?_eq_getElem hq];rfl
    rw[hna,hq0]
    generalize hx:p.nodes[q]=x
    have hwx:x.kids.length<=1073741824:=by
     have:=p7 q hq
     rw[hx]at this
     have hwu:x.wt=1+x.kids.length:=rfl
     omega
    have h182:=U5 p x size (V.set i (.cells (rowI (s.set q size) rest))) (by omega) (by omega)
    by_cases hb1:(x.kids.length:Int)=Cs p x
    ·cases hb2:Bk p x size with
     |false =>
      rw[if_pos (.inr (.inl rfl))]
      rw[hb2]at h182
      have i182:=Ans.of h182
      refine gf (gi hi hx) ?_ o93
      exact fe1 trivial
     | true =>
      rw[hb2]at h182
      have i182:=Ans.of h182
      by_cases h18:x.op=18/\inM=false
      ·rw[if_pos (.inr (.inr h18))]
       obtain⟨h18,rfl⟩:=h18
       refine gf (gi hi hx) ?_ o93
       exact fe1 trivial
      ·rw [if_neg (by simp [hb1,h18])]
       by_cases h18':x.op=18
       ·obtain rfl:inM=true:=by cases inM;exact absurd ⟨h18',rfl⟩ h18;rfl
        refine gf (gi hi hx) ?_ o93
        refine AA [2,3,4,5,6,13] (fun (j:Nat) (s':List Int)=>j<=x.kids.length/\s'.length=s.length/\Bx (BR p true k) x size 0 x.kids (s.set q size)=Bx (BR p true k) x size j (x.kids.drop j) s') (fun j _=>[(14,dI j)]) (fun _ s'=>V.set i (.cells (rowI s' rest))) (fun j _=>x.kids.length-j) (0) (s.set q size) (by simp) (fun j s' hI =>?_)
        obtain⟨hj,hs',hR⟩:=hI
        have e13:(13:Int)-((k:Int)+1)+1=13-k:=by omega
        by_cases hj':j<x.kids.length
        ·rw[A0 hj',Bx]at hR
         rw[if_neg (by omega)]at hR
         refine gf hi ?_ (delO 13 o93)
         refine MP (id:=13) [0,1,2,3,4,5,6,7,8,9,10,11,12] [11] (fun _=>none) (fun _ _ h=>by cases h) ?_
         refine gf (gi hi e13) ?_ (delO 13 o93)
         refine BF (G8 p k (x.kids[j]) (size) true i cap s' rest _ (by omega) (w7 ..) (by omega) ⟨by omega,by omega⟩ hp) (fun d S' hx =>?_) (fun d S' hx=>by cases hx.1)
         obtain⟨hx',rfl⟩:=hx
         cases hx'
         rw[w9]
         refine⟨fun _ _ h=>(by cases h),?_⟩
         simp only[putD]
         have hl2:=Ck p true k x.kids[j] (size) s'
         rcases hr:BR p true k (x.kids[j]) (size) s' with⟨b,s2⟩
         rw[hr]at hR hl2
         simp only at hl2
         cases b with
         |false =>
          simp only at hR
          rw[hR]
          refine gz ?_ (delO 13 o93)
          exact fe1 trivial
         |true =>
          simp only at hR
          refine gz ?_ (delO 13 o93)
          exact⟨j+1,s2,⟨by omega,by omega,hR⟩,td1,wkR⟩
        ·rw[A1 hj',Bx]at hR
         rw[hR]
         refine gz ?_ o93
         exact fe1 trivial
       ·refine gf (gi hi hx) ?_ o93
        refine AA [2,3,4,5,6,13] (fun (j:Nat) (s':List Int)=>j<=x.kids.length/\s'.length=s.length/\Bx (BR p inM k) x size 0 x.kids (s.set q size)=Bx (BR p inM k) x size j (x.kids.drop j) s') (fun j _=>[(14,dI j)]) (fun _ s'=>V.set i (.cells (rowI s' rest))) (fun j _=>x.kids.length-j) (0) (s.set q size) (by simp) (fun j s' hI =>?_)
        obtain⟨hj,hs',hR⟩:=hI
        have e13:(13:Int)-((k:Int)+1)+1=13-k:=by omega
        by_cases hj':j<x.kids.length
        ·rw [A0 hj',Bx] at hR
         by_cases h9:x.op=9/\j=1
         ·rw[if_pos h9]at hR
          refine gf hi ?_ (delO 13 o93)
          refine MP (id:=13) [0,1,2,3,4,5,6,7,8,9,10,11,12] [11] (fun _=>none) (fun _ _ h=>by cases h) ?_
          refine gf (gi hi e13) ?_ (delO 13 o93)
          refine BF (G8 p k (x.kids[j]) (size+1) inM i cap s' rest _ (by omega) (w7 ..) (by omega) ⟨by omega,by omega⟩ hp) (fun d S' hx =>?_) (fun d S' hx=>by cases hx.1)
          obtain⟨hx',rfl⟩:=hx
          cases hx'
          rw[w9]
          refine⟨fun _ _ h=>(by cases h),?_⟩
          simp only[putD]
          have hl2:=Ck p inM k x.kids[j] (size+1) s'
          rcases hr:BR p inM k (x.kids[j]) (size+1) s' with⟨b,s2⟩
          rw[hr]at hR hl2
          simp only at hl2
          cases b with
          |false =>
           simp only at hR
           rw[hR]
           refine gz ?_ (delO 13 o93)
           exact fe1 trivial
          |true =>
           simp only at hR
           refine gz ?_ (delO 13 o93)
           exact⟨j+1,s2,⟨by omega,by omega,hR⟩,td1,wkR⟩
         ·rw[if_neg h9]at hR
          by_cases h9':x.op=9
          ·have h91:¬j=1:=fun h=>h9 ⟨h9',h⟩
           refine gf (gi hi (gi h91 h9')) ?_ (delO 13 o93)
           refine MP (id:=13) [0,1,2,3,4,5,6,7,8,9,10,11,12] [11] (fun _=>none) (fun _ _ h=>by cases h) ?_
           refine gf (gi hi e13) ?_ (delO 13 o93)
           refine BF (G8 p k (x.kids[j]) (size) inM i cap s' rest _ (by omega) (w7 ..) (by omega) ⟨by omega,by omega⟩ hp) (fun d S' hx =>?_) (fun d S' hx=>by cases hx.1)
           obtain⟨hx',rfl⟩:=hx
           cases hx'
           rw[w9]
           refine⟨fun _ _ h=>(by cases h),?_⟩
           simp only[putD]
           have hl2:=Ck p inM k x.kids[j] (size) s'
           rcases hr:BR p inM k (x.kids[j]) (size) s' with⟨b,s2⟩
           rw[hr]at hR hl2
           simp only at hl2
           cases b with
           |false =>
            simp only at hR
            rw[hR]
            refine gz ?_ (delO 13 o93)
            exact fe1 trivial
           |true =>
            simp only at hR
            refine gz ?_ (delO 13 o93)
            exact⟨j+1,s2,⟨by omega,by omega,hR⟩,td1,wkR⟩
          ·refine gf hi ?_ (delO 13 o93)
           refine MP (id:=13) [0,1,2,3,4,5,6,7,8,9,10,11,12] [11] (fun _=>none) (fun _ _ h=>by cases h) ?_
           refine gf (gi hi e13) ?_ (delO 13 o93)
           refine BF (G8 p k (x.kids[j]) (size) inM i cap s' rest _ (by omega) (w7 ..) (by omega) ⟨by omega,by omega⟩ hp) (fun d S' hx =>?_) (fun d S' hx=>by cases hx.1)
           obtain⟨hx',rfl⟩:=hx
           cases hx'
           rw[w9]
           refine⟨fun _ _ h=>(by cases h),?_⟩
           simp only[putD]
           have hl2:=Ck p inM k x.kids[j] (size) s'
           rcases hr:BR p inM k (x.kids[j]) (size) s' with⟨b,s2⟩
           rw[hr]at hR hl2
           simp only at hl2
           cases b with
           |false =>
            simp only at hR
            rw[hR]
            refine gz ?_ (delO 13 o93)
            exact fe1 trivial
           |true =>
            simp only at hR
            refine gz ?_ (delO 13 o93)
            exact⟨j+1,s2,⟨by omega,by omega,hR⟩,td1,wkR⟩
        ·rw[A1 hj',Bx]at hR
         rw[hR]
         refine gz ?_ o93
         exact fe1 trivial
    ·rw[if_pos (.inl hb1)]
     refine gf (gi hi hx) ?_ o93
     exact fe1 trivial
termination_by k
mutual
theorem Fact.size_le: ∀f:Fact,f.size<=f.wt
 |.mk o a p c n k=>by
  have:=Fact.sizes_le k
  rw[Fact.size,Fact.wt];omega
theorem Fact.sizes_le: ∀l:List Fact,Fact.sizes l<=Fact.wts l
 |[]=>Nat.le_refl _
 |f::l=>by
  have h1:=Fact.size_le f
  have h2:=Fact.sizes_le l
  rw[Fact.sizes,Fact.wts];omega
end
def E7(w:World)(f:Fact):Bool:=decide (f.cnt 24<=24)&&decide (f.depth<=12)&&J3 w f
theorem VR(w:World)(f:Fact)(V:Sig)(hw:w.parents.length<=1073741824:=by exact sd)(hwo:w.owner.length<=1073741824:=by exact sd)(hf:f.wt<=1073741824:=by exact sd):
  DCall prog 91 [.agg (Da w),.agg (Bp f)] V (rS (.bool (E7 w f)) V):=by
 have hsz:=Fact.size_le f
 refine en func91 ntmps91 ?_
 repeat' first|refine gz ?_|apply gy<;>intro hh
 any_goals (first|(refine fin1 (S':=V) ?_;exact⟨by first|rfl|(simp[E7];done)|(simp_all [E7];done)|(rw[A7,Bool.eq_iff_iff];simp_all [E7]<;>omega),rfl⟩)|fail)
def Ff(p:BProg)(m:BMeth):Bool:=decide (1<=m.kind/\m.kind<=4)&&decide (0<=m.gen/\m.gen<p.gens.length)&&E7 (AR p) m.fact&&decide (m.fact.speaks<=p.gens.getD m.gen.toNat 0)
def CG(p:BProg):List BMeth->List Int->Bool×List Int
 |[],s=>(true,s)
 | m::r,s=>if Ff p m then (match BR p (decide (m.kind=1) || decide (m.kind=4)) 12 m.node (p.gens.getD m.gen.toNat 0) s with
   |(false,s')=>(false,s')
   |(true,s')=>CG p r s') else(false,s)
def KC(p:BProg):Bool:=AG p&&decide (p.gens.length<=8)&&decide (p.methods.length<=16)&&decide (1<=p.nodes.length)&&decide (p.nodes.length<=120)
def Fl(p:BProg):Option (List Int) :=
 if KC p&&p.gens.all (fun g=>decide (1<=g/\g<=3)) then
  match CG p p.methods (List.replicate p.nodes.length (-1))with
  |(false,_)=>none
  |(true,s)=>match BR p false 12 p.main 0 s with
   |(false,_)=>none
   |(true,s2)=>if s2.all (fun n=>decide (0<=n)) then some s2 else none
 else none
theorem DY(s:List Int):(cI s).flatten=s.map dI:=by
 induction s with
 |nil=>rfl
 |cons x s ih=>rw[show cI (x::s)=[dI x]::cI s from rfl,List.flatten_cons,ih];rfl
theorem SE(V:Sig)(i cap:Nat)(rest:List D)(s:List Int):mS V (some (i,cap,rest)) (cI s)=V.set i (.cells (rowI s rest)):=by simp only[mS,rowI,DY]
theorem mOK_len{V:Sig}{st:MR}{s s':List Int}(h:mOK V 1 st (cI s))(hs:s'.length=s.length):mOK V 1 st (cI s'):=by
 cases st with
 |none =>
  have:cI s=[]:=h
  have:s=[]:=by simpa[cI] using this
  subst this
  have:s'=[]:=List.length_eq_zero_iff.1 hs
  subst this;rfl
 |some x =>
  obtain⟨i,cap,rest⟩:=x
  obtain⟨m1,m2,m3,m4⟩:=h
  refine⟨m1,?_,by simpa[hs] using m3,BQ _⟩
  rw[DY]at m2⊢
  simpa[hs] using m2
theorem Wd (p:BProg) (V:Sig) (hp:p.wt<=1073741824:=by exact sd) :
  DCall prog 44 [.agg (Am p)] V (rS (.tup [sl (cI ((Fl p).getD [])),.bool (Fl p).isSome]) V):=by
 obtain⟨p1,p2,p3,p4,p5,p6,p7⟩:=p.wt_le
 have ws:=GP p
 have hwc:∀c∈p.classes,c.parents.length<=1073741824/\c.slots.length<=1073741824:=fun c hc=>by
  obtain⟨k,hk,rfl⟩:=List.getElem_of_mem hc
  have:=p5 k hk
  have hwu:(p.classes[k]).wt=1+(p.classes[k]).parents.length+(p.classes[k]).slots.length+(p.classes[k]).inits.length:=rfl
  omega
 have h90:=VS p V hp
 refine en func44 ntmps44 ?_
 cases hh0:KC p with
 | false =>
  have hL:Fl p=none:=by unfold Fl;rw[hh0];rfl
  unfold KC at hh0
  cases hc:AG p with
  |false =>
   rw[hc]at h90
   have i1:=Ans.of h90
   try refine gz ?_ o44
   exact fe2 (d':=sl []) hL
  | true =>
   rw[hc]at h90 hh0
   have i1:=Ans.of h90
   by_cases h1:p.gens.length<=8
   ·by_cases h2:p.methods.length<=16
    ·by_cases h3:1<=p.nodes.length
     ·have h4:¬p.nodes.length<=120:=fun h=>by simp[h1,h2,h3,h]at hh0
      try refine gz ?_ o44
      exact fe2 (d':=sl []) hL
     ·try refine gz ?_ o44
      exact fe2 (d':=sl []) hL
    ·try refine gz ?_ o44
     exact fe2 (d':=sl []) hL
   ·try refine gz ?_ o44
    exact fe2 (d':=sl []) hL
 | true =>
  have hh1:=hh0
  unfold KC at hh1
  simp only[Bool.and_eq_true,decide_eq_true_eq]at hh1
  obtain⟨⟨⟨⟨hc,h1⟩,h2⟩,h3⟩,h4⟩:=hh1
  rw[hc]at h90
  have i1:=Ans.of h90
  try refine gz ?_ o44
  refine B2 [1,5,6,7,8,9,10,59,60,61,62,63,64,65,66,67,68,69,70,71,72,73,74,75,76,77,78,79,80,81,82,83,84,85,86,87,88,89,90,91,92,93,94,95,96,97,98,99,100,101,102,103,104,105,106,107,108,109,110,111,112,113,114,115,116,117,118,119,120,121,122,123,124,125,126,127,128,129,130,131,132,133,134,135,136,137,138,139,140,141,142,143,144,145,146,147,148,149,150,151,152,153,154,155] (fun (j:Nat)=>j<=p.gens.length/\p.gens.all (fun g=>decide (1<=g/\g<=3))=(p.gens.drop j).all (fun g=>decide (1<=g/\g<=3))) (fun j=>[(4,dI j)]) (fun _=>V) (fun j=>p.gens.length-j) (0) (by simp) (fun j hI =>?_)
  obtain⟨hj,hJ⟩:=hI
  by_cases hj':j<p.gens.length
  ·rw[A0 hj',List.all_cons]at hJ
   by_cases hg1:p.gens[j]<1
   ·have hL:Fl p=none:=by unfold Fl;rw[hh0,hJ,decide_eq_false (by omega)];rfl
    try refine gz ?_ o44
    exact fe2 (d':=sl []) hL
   ·by_cases hg2:3<p.gens[j]
    ·have hL:Fl p=none:=by unfold Fl;rw[hh0,hJ,decide_eq_false (by omega)];rfl
     try refine gz ?_ o44
     exact fe2 (d':=sl []) hL
    ·rw[decide_eq_true (by omega),Bool.true_and]at hJ
     try refine gz ?_ o44
     exact⟨j+1,⟨by omega,hJ⟩,td1,wkR⟩
  ·rw [A1 hj',List.all_nil] at hJ
   have hL:Fl p=match CG p p.methods (List.replicate p.nodes.length (-1))with
    |(false,_)=>none
    |(true,s)=>match BR p false 12 p.main 0 s with
     |(false,_)=>none
     |(true,s2)=>if s2.all (fun n=>decide (0<=n)) then some s2 else none:=by unfold Fl;rw[hh0,hJ];rfl
   try refine gz ?_ o44
   refine AA [1,2,3,7,8,9,10,69,70,71,72,73,74,75,76,77,78,79,80,81,82,83,84,85,86,87,88,89,90,91,92,93,94,95,96,97,98,99,100,101,102,103,104,105,106,107,108,109,110,111,112,113,114,115,116,117,118,119,120,121,122,123,124,125,126,127,128,129,130,131,132,133,134,135,136,137,138,139,140,141,142,143,144,145,146,147,148,149,150,151,152,153,154,155] (fun (n:Nat) (st:MR)=>n<=p.nodes.length/\mOK V 1 st (cI (List.replicate n (-1)))) (fun n st=>[(6,dI n),(5,mD st n)]) (fun n st=>mS V st (cI (List.replicate n (-1)))) (fun n _=>p.nodes.length-n) (0) (none) (by exact⟨by omega,rfl⟩) (fun n st hI =>?_)
   obtain⟨hn,hm⟩:=hI
   by_cases hn':n<p.nodes.length
   ·have hlen:(cI (List.replicate n (-1))).length=n:=by simp
    have e:cI (List.replicate n (-1))++[[D.int .i64 (-1)]]=cI (List.replicate (n+1) (-1)):=by rw[List.replicate_succ'];simp[cI]
    try refine gz ?_ o44
    refine mapp (new:=[[D.int .i64 (-1)]]) (sz:=1) (h1:=by exact(congrArg (mD st) hlen.symm)) (fun st' hm' =>?_) hm
    rw[e]at hm'⊢
    rw[hlen]
    try refine gz ?_ o44
    exact⟨n+1,st',⟨by omega,hm'⟩,td1,wkR⟩
   ·have hne:n=p.nodes.length:=by omega
    subst hne
    obtain⟨s0,hs0⟩:∃s0,s0=List.replicate p.nodes.length (-1:Int):=⟨_,rfl⟩
    have hsl:s0.length=p.nodes.length:=by rw[hs0];simp
    rw[<-hs0]at hm hL⊢
    obtain⟨i,cap,rest,hst⟩:∃i cap rest,st=some (i,cap,rest):=by
     cases st with
     |none =>
      exfalso
      have h:cI s0=[]:=hm
      have h':s0.length=0:=by rw[<-Ia s0,h];rfl
      omega
     |some x=>exact⟨_,_,_,rfl⟩
    subst hst
    have hi:V i=none:=hm.1
    rw[SE,show mD (some (i,cap,rest)) p.nodes.length=.sref i 0 p.nodes.length cap from rfl]
    have hw1:(AR p).parents=p.classes.map (·.parents):=rfl
    have hwl:(AR p).parents.length=p.classes.length:=by rw[hw1,List.length_map]
    have hol:(AR p).owner.length=wtL (fun c:BClass=>c.slots.length) p.classes:=Cb _ _
    repeat' first|refine gz ?_|refine Ax (LZ p _ (by omega) (fun c hc=>(hwc c hc).1) (fun c hc=>(hwc c hc).2) (by rw[Cb];omega)) ?_|refine callP (LZ p _ (by omega) (fun c hc=>(hwc c hc).1) (fun c hc=>(hwc c hc).2) (by rw[Cb];omega)) ?_|refine gz ?_ o44|apply gy<;>intro hh
    refine AA [1,5,7,10,138,139,140,141,142,143,144,145,146,147,148,149,150,151,152,153,154,155] (fun (j:Nat) (s:List Int)=>j<=p.methods.length/\s.length=p.nodes.length/\CG p p.methods s0=CG p (p.methods.drop j) s) (fun j _=>[(8,dI j)]) (fun _ s=>V.set i (.cells (rowI s rest))) (fun j _=>p.methods.length-j) (0) (s0) (by exact⟨by omega,hsl,rfl⟩) (fun j s hI =>?_)
    obtain⟨hj,hsl',hM⟩:=hI
    by_cases hj':j<p.methods.length
    ·rw [A0 hj',CG] at hM
     have hwm:=p6 j hj'
     generalize hm':p.methods[j]=m at hM hwm
     have hwu:m.wt=1+m.fact.wt:=rfl
     have hsz:=Fact.size_le m.fact
     have h91:=VR (AR p) m.fact (V.set i (.cells (rowI s rest))) (by omega) (by omega) (by omega)
     have hgl:∀g:Nat,m.gen=g->(hg:g<p.gens.length)->p.gens.getD m.gen.toNat 0=p.gens[g]:=fun g e hg=>by
      rw[e,show((g:Int)).toNat=g by omega,List.getD_eq_getElem?_getD,List.getElem?_eq_getElem hg];rfl
     have bad:Ff p m=false->Fl p=none:=fun h=>by rw[hL,hM,h];rfl
     by_cases k1:1<=m.kind
     ·by_cases k2:m.kind<=4
      ·by_cases g1:0<=m.gen
       ·by_cases g2:m.gen<p.gens.length
        ·obtain⟨g,hge⟩:∃g:Nat,m.gen=g:=⟨m.gen.toNat,by omega⟩
         have hgl':g<p.gens.length:=by omega
         have hgv:=hgl g hge hgl'
         cases hfm:E7 (AR p) m.fact with
         |false =>
          rw[hfm]at h91
          have i1:=Ans.of h91
          have hb:=bad (by unfold Ff;rw[hfm];simp)
          try refine gf (gi hm' hge) ?_ o44
          exact fe2 (d':=sl []) hb
         | true =>
          rw[hfm]at h91
          have i1:=Ans.of h91
          by_cases hsp:m.fact.speaks<=p.gens[g]
          ·have hok:Ff p m=true:=by unfold Ff;rw[hfm,hgv,decide_eq_true (by omega),decide_eq_true (by omega),decide_eq_true hsp];rfl
           rw[hok,if_pos rfl,hgv]at hM
           have hga:=List.all_eq_true.1 hJ _ (List.getElem_mem hgl')
           simp only[decide_eq_true_eq]at hga
           try refine gf (gi hm' hge) ?_ (delO 20 o44)
           refine MP (id:=20) [0,1,2,3,4,5,6,7,8,9,10,12,11,13,14] [11,13] (fun _=>none) (fun _ _ h=>by cases h) ?_
           have hsub0:Sub (fun _=>none) (V.set i (.cells (rowI s rest))):=fun _ _ h=>by cases h
           try refine gf hge ?_ (delO 20 o44)
           refine BF (G8 p 12 m.node (p.gens[g]) (decide (m.kind=1)||decide (m.kind=4)) i cap s rest _ (by omega) (w7 ..) hsl' ⟨by omega,by omega⟩ hp) (fun d S' hx =>?_) (fun d S' hx=>by cases hx.1)
           obtain⟨hx',rfl⟩:=hx
           cases hx'
           rw[w9]
           refine⟨fun _ _ h=>(by cases h),?_⟩
           simp only[putD]
           have hl2:=Ck p (decide (m.kind=1)||decide (m.kind=4)) 12 m.node (p.gens[g]) s
           rcases hr:BR p (decide (m.kind=1)||decide (m.kind=4)) 12 m.node (p.gens[g]) s with⟨b,s2⟩
           rw[hr]at hM hl2
           simp only at hl2
           cases b with
           |false =>
            simp only at hM
            have hb:Fl p=none:=by rw[hL,hM]
            try refine gz ?_ (delO 20 o44)
            exact fe2 (d':=sl []) hb
           |true =>
            simp only at hM
            try refine gz ?_ (delO 20 o44)
            exact⟨j+1,s2,⟨by omega,by omega,hM⟩,td1,wkR⟩
          ·have hb:=bad (by unfold Ff;rw[hgv,decide_eq_false hsp];simp)
           try refine gf (gi hm' hge) ?_ o44
           exact fe2 (d':=sl []) hb
        ·have hb:=bad (by unfold Ff;rw[decide_eq_false (p:=0<=m.gen/\m.gen<p.gens.length) (by omega)];simp)
         try refine gf hm' ?_ o44
         exact fe2 (d':=sl []) hb
       ·have hb:=bad (by unfold Ff;rw[decide_eq_false (p:=0<=m.gen/\m.gen<p.gens.length) (by omega)];simp)
        try refine gf hm' ?_ o44
        exact fe2 (d':=sl []) hb
      ·have hb:=bad (by unfold Ff;rw[decide_eq_false (p:=1<=m.kind/\m.kind<=4) (by omega)];simp)
       try refine gf hm' ?_ o44
       exact fe2 (d':=sl []) hb
     ·have hb:=bad (by unfold Ff;rw[decide_eq_false (p:=1<=m.kind/\m.kind<=4) (by omega)];simp)
      try refine gf hm' ?_ o44
      exact fe2 (d':=sl []) hb
    ·rw [A1 hj',CG] at hM
     rw[hM]at hL
     simp only at hL
     try refine gz ?_ o44
     refine Ab (G8 p 12 p.main 0 false i cap s rest _ (by omega) (w7 ..) hsl' ⟨by omega,by omega⟩ hp) (fun d S' hx =>?_) (fun d S' hx=>by cases hx.1)
     obtain⟨hx',rfl⟩:=hx
     cases hx'
     rw[w9]
     simp only[putD]
     have hl2:=Ck p false 12 p.main 0 s
     rcases hr:BR p false 12 p.main 0 s with⟨b,s2⟩
     rw[hr]at hL hl2
     simp only at hl2
     cases b with
     |false =>
      simp only at hL
      try refine gz ?_ o44
      exact fe2 (d':=sl []) hL
     | true =>
      simp only at hL
      have hm2:mOK V 1 (some (i,cap,rest)) (cI s2):=mOK_len hm (by omega)
      have hs2:s2.length=p.nodes.length:=by omega
      try refine gz ?_ o44
      rw[<-SE V i cap]
      refine dwp_wk (Ke (t:=5) hm2 (by rw[Ia,hs2];rfl)) ?_
      refine B2 [5,155] (fun (j:Nat)=>j<=s2.length/\s2.all (fun n=>decide (0<=n))=(s2.drop j).all (fun n=>decide (0<=n))) (fun j=>[(10,dI j)]) (fun _=>V) (fun j=>s2.length-j) (0) (by simp) (fun j hI =>?_)
      obtain⟨hj,hA⟩:=hI
      by_cases hj':j<s2.length
      ·rw[A0 hj',List.all_cons]at hA
       by_cases h0:0<=s2[j]
       ·rw[decide_eq_true h0,Bool.true_and]at hA
        try refine gz ?_ o44
        exact⟨j+1,⟨by omega,hA⟩,td1,wkR⟩
       ·rw[decide_eq_false h0,Bool.false_and]at hA
        rw[hA]at hL
        try refine gz ?_ o44
        exact fe2 (d':=sl []) hL
      ·rw[A1 hj',List.all_nil]at hA
       rw[hA]at hL
       try refine gz ?_ o44
       exact fe2 (d':=sl (cI s2)) hL
@[reducible,instance] def a44:=fun p V=>ah1 (@Wd p V)
end Go.DL
namespace Go.DL
open Go.Proofs.Tryz
open Go Go.Proofs
set_option maxHeartbeats 4000000
theorem WD{x y:Init}(h1:x.slot=y.slot)(h2:x.n=y.n):x=y:=by cases x;cases y;simp_all
theorem PH(a b:List Init)(o o':Own)(V:Sig)(hl:a.length<=1073741824:=by exact sd)(hl':b.length<=1073741824:=by exact sd):
  DCall prog 27 [.slice (a.map F8) o,.slice (b.map F8) o'] V (rS (.bool (decide (a=b))) V):=by
 refine en func27 ntmps27 ?_
 repeat' first|refine gz ?_ o27|apply gy<;>intro hh
 ·have hne:a≠b:=fun e=>hh (by rw[e])
  exact fe1 hne
 have hab:=hh
 refine B2 [0,1] (fun (k:Nat)=>k<=a.length/\(a=b ↔ a.drop k=b.drop k)) (fun k=>[(5,dI k)]) (fun _=>V) (fun k=>a.length-k) (0) (by simp) (fun k hI =>?_)
 obtain⟨hk,hR⟩:=hI
 by_cases h:k<a.length
 ·have hb:k<b.length:=by omega
  rw[A0 h,A0 hb]at hR
  repeat' first|refine gf h ?_ o27|apply gy<;>intro hh
  ·have hne:a≠b:=fun e=>by
    subst e
    simp at hh
   exact fe1 hne
  ·exact⟨k+1,by(try simp at hh);exact⟨by omega,by rw[hR];simp only[List.cons.injEq];exact⟨fun e=>e.2,fun e=>⟨WD hh.1 hh.2,e⟩⟩⟩,td1,wkR⟩
 ·have he:a=b:=hR.2 (by rw[A1 (by omega),A1 (by omega)])
  refine gf h ?_ o27
  exact fe1 he
@[reducible,instance] def a27:=fun a b o o' V=>ah2 (@PH a b o o' V)
def idxF{α:Type}(q:α->Bool):List α->Nat->Int
 |[],_ => -1
 |x::r,k=>if q x then k else idxF q r (k+1)
theorem Eh{α:Type}(q:α->Bool): ∀(l:List α) (k:Nat),decide (0<=idxF q l k)=l.any q
 |[],_=>rfl
 |x::r,k=>by
  rw[idxF,List.any_cons]
  cases hq:q x
  ·simp only[Bool.false_eq_true,if_false,Bool.false_or];exact Eh q r (k+1)
  ·simp
theorem Nn(l:List Str)(q:Str->Bool)(g:Nat)(cap:List D)(o:Own)(V:Sig)(hl:l.length<=1073741824)
  (hg:∀x∈l,DCall prog g ([]++[.str x]++cap) V fun r S''=>r=.ret (.bool (q x))/\S''=V) :
  DCall prog 304 [.slice (cS l) o,.func (.func g) [] cap] V (rS (dI (idxF q l 0)) V):=by
 refine en func304 ntmps304 ?_
 refine gz ?_
 refine B2 [0,1,7] (fun (k:Nat)=>k<=l.length/\idxF q l 0=idxF q (l.drop k) k) (fun k=>[(8,dI k)]) (fun _=>V) (fun k=>l.length-k) (0) td3 (fun k hI =>?_)
 obtain⟨hk,hR⟩:=hI
 by_cases h:k<l.length
 ·rw[A0 h,idxF]at hR
  repeat' first|refine Ax (hg (l[k]) (List.getElem_mem h)) ?_|refine callP (hg (l[k]) (List.getElem_mem h)) ?_|refine gf h ?_|apply gy<;>intro hh
  ·exact fe1 hR
  ·exact⟨k+1,⟨by omega,by rw[hR,hh];rfl⟩,td1,wkR⟩
 ·refine gf h ?_
  (refine fin1 (S':=V) ?_;exact⟨by first|rfl|(simp[hR,A1 h,idxF];done)|(simp_all [hR,A1 h,idxF];done)|(rw[A7,Bool.eq_iff_iff];simp_all [hR,A1 h,idxF]<;>omega),rfl⟩)
theorem Nq(l:List Str)(q:Str->Bool)(g:Nat)(cap:List D)(o:Own)(V:Sig)(hl:l.length<=1073741824)
  (hg:∀x∈l,DCall prog g ([]++[.str x]++cap) V fun r S''=>r=.ret (.bool (q x))/\S''=V) :
  DCall prog 280 [.slice (cS l) o,.func (.func g) [] cap] V (rS (.bool (l.any q)) V):=by
 refine en func280 ntmps280 ?_
 repeat' first|refine gz ?_|refine Ax (Nn l q g cap o V hl hg) ?_|refine callP (Nn l q g cap o V hl hg) ?_|refine gz ?_|apply gy<;>intro hh
 (refine fin1 (S':=V) ?_;exact⟨by first|rfl|(simp[Eh];done)|(simp_all [Eh];done)|(rw[A7,Bool.eq_iff_iff];simp_all [Eh]<;>omega),rfl⟩)
theorem Np(q:Str->Bool)(g:Nat)(cap:List D)(x:Str)(V:Sig)
  (hg:DCall prog g ([]++[.str x]++cap) V fun r S''=>r=.ret (.bool (q x))/\S''=V) :
  DCall prog 281 [.str x,.cptr [.func (.func g) [] cap] 0] V (rS (.bool (!q x)) V):=by
 refine en func281 ntmps281 ?_
 repeat' first|refine Ax (hg) ?_|refine callP (hg) ?_|refine gz ?_|apply gy<;>intro hh
 exact fe1 trivial
theorem Nt(l:List Str)(q:Str->Bool)(g:Nat)(cap:List D)(o:Own)(V:Sig)(hl:l.length<=1073741824)
  (hg:∀x∈l,DCall prog g ([]++[.str x]++cap) V fun r S''=>r=.ret (.bool (q x))/\S''=V) :
  DCall prog 242 [.slice (cS l) o,.func (.func g) [] cap] V (rS (.bool (l.all q)) V):=by
 refine en func242 ntmps242 ?_
 repeat' first|refine gz ?_|refine Ax (Nq l (fun x => !q x) 281 [.cptr [.func (.func g) [] cap] 0] o V hl (fun x hx=>Np q g cap x V (hg x hx))) ?_|refine callP (Nq l (fun x => !q x) 281 [.cptr [.func (.func g) [] cap] 0] o V hl (fun x hx=>Np q g cap x V (hg x hx))) ?_|refine gz ?_|apply gy<;>intro hh
 (refine fin1 (S':=V) ?_;exact⟨by first|rfl|(simp[List.not_all_eq_any_not];done)|(simp_all [List.not_all_eq_any_not];done)|(rw[A7,Bool.eq_iff_iff];simp_all [List.not_all_eq_any_not]<;>omega),rfl⟩)
theorem Ny(i:Nat)(b:Bool)(V:Sig)(hi:V i=some (.cells [.bool b])):Oe prog 166 [.ptr i 0] V none V/\Oe prog 166 [.ptr i 0] V (some unf) (V.set i (.cells [.bool false])):=by
 constructor
 ·refine Iw func166 rfl ntmps166 (by simp) (by decide) (by decide) rfl ?_
  simp only[Option.getD_none]
  repeat' first|refine gz ?_|apply gy<;>intro hh
  exact⟨.inl rfl,rfl,Sub.refl _⟩
 ·refine Iw func166 rfl ntmps166 (by simp) (by decide) (by decide) rfl ?_
  simp only[Option.getD_some]
  repeat' first|refine gf hi ?_|apply gy<;>intro hh
  exact⟨.inl rfl,rfl,Sub.refl _⟩
theorem Lx{V:Sig}{i:Nat}{o:DObj}:Sub (V.del i) (V.set i o):=fun j x h=>by
 by_cases hj:j=i
 ·subst hj;simp[Sig.del]at h
 ·rw[w8 _ _ hj];simpa[Sig.del,hj] using h
theorem W1(g:Nat)(cap:List D)(V:Sig)(R:Sig->DE->Sig->Prop)
  (hg:∀i,V i=none->DCall prog g cap (V.set i (.cells [.bool false])) (R (V.set i (.cells [.bool false]))))
  (hR:∀S' d S'',R S' (.panic d) S''->d=unf) (hk:∀i S'' x,V i=none->R (V.set i (.cells [.bool false])) x S''->S'' i=some (.cells [.bool false])) :
  DCall prog 78 [.func (.func g) [] cap] V fun x S' => ∃i S'',V i=none/\S'=S''.del i /\
   ((∃d,R (V.set i (.cells [.bool false])) (.ret d) S''/\x=.ret (.bool true))\/(R (V.set i (.cells [.bool false])) (.panic unf) S''/\x=.ret (.bool false))):=by
 refine Hw (fd:=166) func78 rfl (DU func166 (by rfl) (by rfl)) (by rw[Ak];decide) (by decide) ntmps78 (by simp) ?_
 refine gz ?_ [] [2]
 refine newV (fun i hi =>?_)
 refine gz ?_ [] [2]
 refine L9 (f:=166) (by rw[Ak];decide) rfl rfl ?_
 refine gz ?_ [] [2]
 refine Ab (hg i hi) (fun d S' hr =>?_) (fun d S' hp =>?_)
 ·have hi':=hk i S' _ hi hr
  refine gf hi' ?_ [] [2]
  refine⟨_,Wk.refl _ _ _,[.ptr i 0],S'.set i (.cells [.bool true]),.bool true,rfl,(Ny i true _ (w7 ..)).1,Dg (ds:=[.bool true]) Ad ?_,.ret (.bool true),S'.del i,A8 _,Lx,i,S',hi,rfl,.inl ⟨d,hr,rfl⟩⟩
  simp[resL]
 ·have hi':=hk i S' _ hi hp
  obtain rfl:=hR _ _ _ hp
  refine gz ?_ [] [2]
  refine⟨_,Wk.refl _ _ _,[.ptr i 0],S'.set i (.cells [.bool false]),.bool false,rfl,(Ny i false _ hi').2,Dg (ds:=[.bool false]) Ad ?_,.ret (.bool false),S'.del i,A8 _,Lx,i,S',hi,rfl,.inr ⟨hp,rfl⟩⟩
  simp[resL]
def unf2:D := .iface 304 (.agg [])
theorem U3(b:Bool)(V:Sig):DCall prog 186 [.bool b] V fun x S'=>x=(if b then .ret (.tup []) else .panic unf2)/\S'=V:=by
 refine en func186 ntmps186 ?_
 cases b
 ·refine gz ?_
  refine pan ?_
  exact finP (S':=V) ⟨rfl,rfl⟩
 ·refine gz ?_
  exact Eb (S':=V) ⟨rfl,rfl⟩
@[reducible,instance] def a186:=fun b V=>gh0 (@U3 b V)
theorem Nu(i:Nat)(b:Bool)(V:Sig)(hi:V i=some (.cells [.bool b])):Oe prog 233 [.ptr i 0] V none V/\Oe prog 233 [.ptr i 0] V (some unf2) (V.set i (.cells [.bool false])):=by
 constructor
 ·refine Iw func233 rfl ntmps233 (by simp) (by decide) (by decide) rfl ?_
  simp only[Option.getD_none]
  repeat' first|refine gz ?_|apply gy<;>intro hh
  exact⟨.inl rfl,rfl,Sub.refl _⟩
 ·refine Iw func233 rfl ntmps233 (by simp) (by decide) (by decide) rfl ?_
  simp only[Option.getD_some]
  repeat' first|refine gf hi ?_|apply gy<;>intro hh
  exact⟨.inl rfl,rfl,Sub.refl _⟩
theorem U4(g:Nat)(cap:List D)(V:Sig)(R:Sig->DE->Sig->Prop)
  (hg:∀i,V i=none->DCall prog g cap (V.set i (.cells [.bool false])) (R (V.set i (.cells [.bool false]))))
  (hR:∀S' d S'',R S' (.panic d) S''->d=unf2) (hk:∀i S'' x,V i=none->R (V.set i (.cells [.bool false])) x S''->S'' i=some (.cells [.bool false])) :
  DCall prog 183 [.func (.func g) [] cap] V fun x S' => ∃i S'',V i=none/\S'=S''.del i /\
   ((∃d,R (V.set i (.cells [.bool false])) (.ret d) S''/\x=.ret (.bool true))\/(R (V.set i (.cells [.bool false])) (.panic unf2) S''/\x=.ret (.bool false))):=by
 refine Hw (fd:=233) func183 rfl (DU func233 (by rfl) (by rfl)) (by rw[Ak];decide) (by decide) ntmps183 (by simp) ?_
 refine gz ?_ [] [2]
 refine newV (fun i hi =>?_)
 refine gz ?_ [] [2]
 refine L9 (f:=233) (by rw[Ak];decide) rfl rfl ?_
 refine gz ?_ [] [2]
 refine Ab (hg i hi) (fun d S' hr =>?_) (fun d S' hp =>?_)
 ·have hi':=hk i S' _ hi hr
  refine gf hi' ?_ [] [2]
  refine⟨_,Wk.refl _ _ _,[.ptr i 0],S'.set i (.cells [.bool true]),.bool true,rfl,(Nu i true _ (w7 ..)).1,Dg (ds:=[.bool true]) Ad ?_,.ret (.bool true),S'.del i,A8 _,Lx,i,S',hi,rfl,.inl ⟨d,hr,rfl⟩⟩
  simp[resL]
 ·have hi':=hk i S' _ hi hp
  obtain rfl:=hR _ _ _ hp
  refine gz ?_ [] [2]
  refine⟨_,Wk.refl _ _ _,[.ptr i 0],S'.set i (.cells [.bool false]),.bool false,rfl,(Nu i false _ hi').2,Dg (ds:=[.bool false]) Ad ?_,.ret (.bool false),S'.del i,A8 _,Lx,i,S',hi,rfl,.inr ⟨hp,rfl⟩⟩
  simp[resL]
end Go.DL
namespace Go.DL
open Go.Proofs.Tryz
open Go Go.Proofs
set_option maxHeartbeats 8000000
def NJ{α:Type}:Option α->Int
 |some _=>0
 |none=>2
theorem Wh(p:BProg)(V:Sig)(hp:p.wt<=1073741824:=by exact sd):
  DCall prog 28 [.agg (Am p)] V (rS (.bool (Fl p).isSome) V):=by
 refine en func28 ntmps28 ?_
 try refine gz ?_
 exact fe1 trivial
end Go.DL
