/- Part of the proof that the last text ends. -/
import Derived.Test.YtlfimpogphmbdaaGreatM27
import Derived.Test.YtlfimpogphmbdaaGreatM17
import Derived.Test.YtlfimpogphmbdaaGreatM16
import Derived.Test.YtlfimpogphmbdaaGreatM23
import Derived.Test.YtlfimpogphmbdaaGreatM21
import Derived.Test.YtlfimpogphmbdaaGreatM25
import Derived.Test.YtlfimpogphmbdaaGreatM18
set_option linter.all false
namespace Go.DL
open Go.Proofs.Tryz
open Go Go.Proofs
set_option maxHeartbeats 8000000
def DF(f:FProg):List Str:=f.classes.flatMap (·.slots)
def ownR(f:FProg):List Str:=f.classes.map (·.name)
def budR(f:FProg):Int:=120-f.classes.length-(allE f.main).length
def I4(slots own:List Str):List FMeth->Int->Bool
 |[],_=>true
 |m::r,b=>(CY slots own m b).1&&I4 slots own r (CY slots own m b).2
def N3(f:FProg):Bool:=decide (f.methods.length<=16)&&(EJ f&&(inisR f 0 f.classes&&(cntE f.main 1 120).1))
def If(f:FProg):Bool:=N3 f&&((decide (0<=budR f)&&Gz [] (DF f) (ownR f) false f.main)&&(I4 (DF f) (ownR f) f.methods (budR f)&&((CK f).2&&decide ((CK f).1.length<=8))))
theorem Pi(slots own:List Str)(m:FMeth)(b:Int)(hb:0<=b)(h:(CY slots own m b).1=true):0<=(CY slots own m b).2/\(CY slots own m b).2<=b:=by
 have h1:=Jv (P:=m.params) (S:=slots) (C:=own++lits3) m.fact 1 b
 unfold CY at h⊢
 split at h
 ·rename_i h2
  rw[if_pos h2]
  split at h
  ·rename_i h3
   rw[if_pos h3]
   simp only[Bool.and_eq_true,decide_eq_true_eq]at h⊢
   omega
  ·cases h
 ·cases h
theorem GK: ∀(l:List FClass) (own:List Str),CQ own l=true->∀c∈l,c.slots.length<=4 /\ ∀s∈c.parents,s∈own++l.map (·.name)
 |[],_,_,c,hc=>by cases hc
 | x::r,own,h,c,hc=>by
  simp only[CQ,Bool.and_eq_true,Bool.not_eq_true',decide_eq_false_iff_not,List.all_eq_true,decide_eq_true_eq]at h
  obtain⟨⟨⟨_,h2⟩,_⟩,h3,h4⟩:=h
  rcases List.mem_cons.1 hc with rfl|hc
  ·exact⟨by omega,fun s hs=>List.mem_append_left _ (h3 s hs)⟩
  ·obtain⟨h5,h6⟩:=GK r _ h4 c hc
   exact⟨h5,fun s hs=>by have:=h6 s hs;simp only[List.append_assoc,List.map_cons]at this⊢; exact this⟩
theorem Vr(f:FProg)(h:CQ [] f.classes=true):ParOK f:=fun c hc s hs=>by
 have h1:=(GK _ _ h c hc).2 s hs
 rw[List.nil_append,List.mem_map]at h1
 obtain⟨d,hd,rfl⟩:=h1
 have h2:=Eh (fun c:FClass=>decide (c.name=d.name)) f.classes 0
 have h3:f.classes.any (fun c:FClass=>decide (c.name=d.name))=true:=List.any_eq_true.2 ⟨d,hd,by simp⟩
 rw[h3]at h2
 simpa using h2
theorem T8 (f:FProg) (V:Sig) (hw:f.wt<=100000000):DCall prog 52 [.agg (B7 f)] V (rS (.bool (If f)) V):=by
 obtain⟨p1,p2,p3,p4,p5⟩:=f.wt_le
 have hsl:=Mx f
 have hal:=El f.main
 have i126:∀V:Sig,Ans 126 [.agg (B7 f)] V True (.tup [sl (cS ((CK f).1.map (·.1))),sl (cI ((CK f).1.map (·.2))),.bool (CK f).2]):=fun V=>ah0 (R8 f V hw)
 have i76:∀V:Sig,Ans 76 [.agg (Ah f.main)] V True (sl ((allE f.main).map Ah)):=fun V=>ah0 (Iu f.main.wt f.main V (Nat.le_refl _) (by omega))
 refine en func52 ntmps52 ?_
 by_cases k1:f.methods.length<=16
 ·cases k2:EJ f with
  |false =>
   refine gf k2 ?_ [] [3]
   refine fin1 (S':=V) ?_
   exact⟨by simp[If,N3,k2],rfl⟩
  | true =>
   have k20:=k2
   simp only[EJ,Bool.and_eq_true,Bool.not_eq_true',decide_eq_false_iff_not]at k20
   obtain⟨k21,k22,k23,k24⟩:=k20
   have i121:∀V:Sig,Ans 121 [.agg (B7 f)] V True (.bool (inisR f 0 f.classes)):=fun V=>ah0 (Ux f V (by omega) (Vr f k22) (by omega) fun c hc=>(GK _ _ k22 c hc).1)
   cases k3:inisR f 0 f.classes with
   |false =>
    refine gf (gi k2 k3) ?_ [] [3]
    refine fin1 (S':=V) ?_
    exact⟨by simp[If,N3,k2,k3],rfl⟩
   | true =>
    cases k4:(cntE f.main 1 120).1 with
    |false =>
     refine gf (gi k2 (gi k3 k4)) ?_ [] [3]
     refine fin1 (S':=V) ?_
     exact⟨by simp[If,N3,k2,k3,k4],rfl⟩
    | true =>
     have hH:N3 f=true:=by simp[N3,k1,k2,k3,k4]
     refine gf (gi k2 (gi k3 k4)) ?_ [] [3]
     refine mix [0,1,2,3,4,5,6,7,8,9,10] [9,10] ?_
     refine gz ?_ o52 [3]
     refine moQR ?_
     refine gz ?_ o52 [3]
     refine MN (fun ib hib =>?_)
     have hs1:Sub V ((V.set ib (.cells [dI 0])).set ib (.cells [dI (budR f)])):=fun j o hj=>by rw[w9,w8 _ _ (A3 hj hib)];exact hj
     refine gz ?_ o52 [3]
     have hB0:(120:Int)-f.classes.length-(allE f.main).length=budR f:=rfl
     rw[hB0]
     have hBl:budR f<=120:=by unfold budR;omega
     generalize hBR:budR f=B at *
     refine Bz 5 1 (fun i hi =>?_)
     obtain⟨n1,n2⟩:=A4 hi
     have hsub:∀l:List Str,Sub (V.set ib (.cells [dI B])) ((V.set ib (.cells [dI B])).set i (.tail 1 l.length)):=fun l=>(Sub.refl _).set hi
     refine AA [1,2,3,4,7,8,9,10,58,59,60,61,62,63,64,65,66,67,68,69,70,71,72,73,74,75,76,77,78,79,80,81,82,83,84,85,86,87,88,89,90,91,92,93,94,95] (fun (k:Nat) (out:List Str)=>k<=f.classes.length/\out++(f.classes.drop k).map (·.name)=ownR f) (fun k out=>[(6,dI k),(5,.slice (cS out) (.tag i))]) (fun _ out=>(V.set ib (.cells [dI B])).set i (.tail 1 out.length)) (fun k _=>f.classes.length-k) (0) ([]) (by exact⟨by omega,rfl⟩) (fun k out hI =>?_)
     obtain⟨hk,hR⟩:=hI
     have hlen:=congrArg List.length hR
     simp[ownR]at hlen
     by_cases hkl:k<f.classes.length
     ·rw[A0 hkl,List.map_cons]at hR
      refine gz ?_ o52 [3]
      exact⟨k+1,out++[f.classes[k].name],⟨by omega,by rw[List.append_assoc];exact hR⟩,td1,wkR⟩
     ·rw [A1 hkl,List.map_nil,List.append_nil] at hR
      subst hR
      have hlo:(ownR f).length<=10:=by unfold ownR;rw[List.length_map];omega
      have i124:∀V:Sig,Ans 124 [.agg (Ah f.main),.slice [] .no,sl (cS (DF f)),sl (cS (ownR f)),.bool false] V True (.bool (Gz [] (DF f) (ownR f) false f.main)):=fun V=>ah0 (NB f.main [] (DF f) (ownR f) false .no .no .no V (by omega) (by simp) (by unfold DF;omega) (by omega))
      have hsr:f.classes.flatMap (·.slots)=DF f:=rfl
      have hs2:=hsub (ownR f)
      have hs0:Sub V (V.set ib (.cells [dI B])):=(Sub.refl _).set hib
      have hs3:Sub V ((V.set ib (.cells [dI B])).set i (.tail 1 (ownR f).length)):=hs0.trans hs2
      by_cases kb:0<=B
      ·cases k5:Gz [] (DF f) (ownR f) false f.main with
       |false =>
        refine gf (gi hsr k5) ?_ o52 [3]
        refine fin1 (S':=V) ?_
        exact⟨by simp[If,k5],rfl⟩
       | true =>
        refine gf (gi hsr k5) ?_ o52 [3]
        clear hlen hlo hk hkl
        refine AA [1,3,4,5,8,9,10,84,85,86,87,88,89,90,91,92,93,94,95] (fun (k:Nat) (b:Int)=>k<=f.methods.length/\0<=b/\b<=B/\I4 (DF f) (ownR f) f.methods B=I4 (DF f) (ownR f) (f.methods.drop k) b) (fun k _=>[(7,dI k)]) (fun _ b=>V.set ib (.cells [dI b])) (fun k _=>f.methods.length-k) (0) (B) (by exact⟨by omega,by omega,by omega,rfl⟩) (fun k b hI =>?_)
        obtain⟨hk,hb0,hb1,hR⟩:=hI
        by_cases hkl:k<f.methods.length
        ·rw[A0 hkl,I4]at hR
         have hwm:=p5 k hkl
         refine gf hsr ?_ o52 [3]
         refine Ab (R9 f.methods[k] (DF f) (ownR f) _ _ ib b _ (by omega) (by unfold DF;omega) (by unfold ownR;rw[List.length_map];omega) hb0 (by omega) (w7 ..)) (fun d S' hr =>?_) (fun d S' hr=>by obtain⟨h,_⟩:=hr;cases h)
         obtain⟨hd,hS'⟩:=hr
         cases hd
         rw[w9]at hS'
         subst hS'
         have hsb:Sub V (V.set ib (.cells [dI (CY (DF f) (ownR f) f.methods[k] b).2])):=(Sub.refl _).set hib
         cases hm:(CY (DF f) (ownR f) f.methods[k] b).1 with
         |false =>
          rw[hm,Bool.false_and]at hR
          refine gf hm ?_ o52 [3]
          refine fin1 (S':=V) ?_
          exact⟨by simp[If,hBR,hR],rfl⟩
         |true =>
          obtain⟨q1,q2⟩:=Pi _ _ _ b hb0 hm
          rw[hm,Bool.true_and]at hR
          refine gf hm ?_ o52 [3]
          exact⟨k+1,(CY (DF f) (ownR f) f.methods[k] b).2,⟨by omega,q1,by omega,hR⟩,td1,wkR⟩
        ·rw[A1 hkl,I4]at hR
         have hsb:Sub V (V.set ib (.cells [dI b])):=(Sub.refl _).set hib
         repeat' first|refine gf hsr ?_ o52 [3]|apply gy<;>intro hh
         ·refine fin1 (S':=V) ?_
          exact⟨by simp[If,hBR,hR,hH,kb,k5,hh];omega,rfl⟩
         ·refine fin1 (S':=V) ?_
          exact⟨by simp[If,hBR,hR,hH,kb,k5,hh],rfl⟩
      ·refine gz ?_ o52 [3]
       refine fin1 (S':=V) ?_
       exact⟨by simp[If,hBR,kb],rfl⟩
 ·refine gz ?_ [] [3]
  refine fin1 (S':=V) ?_
  exact⟨by simp[If,N3,k1],rfl⟩
theorem R6: ∀(n:Nat) (x:FFact) (V:Sig),x.wt<=n->n<=1073741824->DCall prog 149 [.agg (AM x),.agg (AM x)] V (rS (.bool true) V):=by
 intro n
 induction n with
 |zero =>
  intro x V hx
  have:=x.wt_pos
  omega
 | succ n ih =>
  intro x V hx hw
  obtain⟨w1,w2,w3,w4,w5⟩:=x.wt_le
  have hpl:x.path.length<=1073741824:=by have:=Bu x.path;omega
  refine en func149 ntmps149 ?_
  refine gz ?_ o149
  refine B2 [2,3] (fun (k:Nat)=>k<=x.kids.length) (fun k=>[(5,dI k)]) (fun _=>V) (fun k=>x.kids.length-k) (0) (by omega) (fun k hI =>?_)
  have hk:=hI
  by_cases hkl:k<x.kids.length
  ·have hwk:=w5 k hkl
   have i149:∀V:Sig,Ans 149 [.agg (AM x.kids[k]),.agg (AM x.kids[k])] V True (.bool true):=fun V=>ah0 (ih x.kids[k] V (by omega) (by omega))
   refine gz ?_ o149
   exact⟨k+1,by omega,td1,wkR⟩
  ·refine gz ?_ o149
   exact fin1 (S':=V) ⟨rfl,rfl⟩
theorem Nj: ∀(n:Nat) (x:FExp) (V:Sig),x.wt<=n->n<=1073741824->DCall prog 58 [.agg (Ah x),.agg (Ah x)] V (rS (.bool true) V):=by
 intro n
 induction n with
 |zero =>
  intro x V hx
  have:=x.wt_pos
  omega
 | succ n ih =>
  intro x V hx hw
  obtain⟨w1,w2,w5⟩:=x.wt_le
  refine en func58 ntmps58 ?_
  refine gz ?_ o58
  refine B2 [2,3] (fun (k:Nat)=>k<=x.kids.length) (fun k=>[(5,dI k)]) (fun _=>V) (fun k=>x.kids.length-k) (0) (by omega) (fun k hI =>?_)
  have hk:=hI
  by_cases hkl:k<x.kids.length
  ·have hwk:=w5 k hkl
   have i58:∀V:Sig,Ans 58 [.agg (Ah x.kids[k]),.agg (Ah x.kids[k])] V True (.bool true):=fun V=>ah0 (ih x.kids[k] V (by omega) (by omega))
   refine gz ?_ o58
   exact⟨k+1,by omega,td1,wkR⟩
  ·refine gz ?_ o58
   exact fin1 (S':=V) ⟨rfl,rfl⟩
theorem T7(x:FClass)(V:Sig)(hx:x.wt<=1073741824):DCall prog 59 [.agg (cFClass x),.agg (cFClass x)] V (rS (.bool true) V):=by
 obtain⟨w1,w2,w3,w4,w5⟩:=x.wt_le
 have hpl:x.parents.length<=1073741824:=by have:=Bu x.parents;omega
 have hsl:x.slots.length<=1073741824:=by have:=Bu x.slots;omega
 refine en func59 ntmps59 ?_
 refine gz ?_ o59
 refine B2 [2,3] (fun (k:Nat)=>k<=x.inits.length) (fun k=>[(5,dI k)]) (fun _=>V) (fun k=>x.inits.length-k) (0) (by omega) (fun k hI =>?_)
 have hk:=hI
 by_cases hkl:k<x.inits.length
 ·refine gz ?_ o59
  exact⟨k+1,by omega,td1,wkR⟩
 ·refine gz ?_ o59
  exact fin1 (S':=V) ⟨rfl,rfl⟩
theorem T5(x:FMeth)(V:Sig)(hx:x.wt<=1073741824):DCall prog 60 [.agg (BC x),.agg (BC x)] V (rS (.bool true) V):=by
 have m1:x.name.length<x.wt/\wtS x.params<x.wt/\x.fact.wt<x.wt/\x.body.wt<x.wt:=by unfold FMeth.wt;omega
 obtain⟨m1,m2,m3,m4⟩:=m1
 have hpl:x.params.length<=1073741824:=by have:=Bu x.params;omega
 have i149:∀V:Sig,Ans 149 [.agg (AM x.fact),.agg (AM x.fact)] V True (.bool true):=fun V=>ah0 (R6 x.fact.wt x.fact V (Nat.le_refl _) (by omega))
 have i58:∀V:Sig,Ans 58 [.agg (Ah x.body),.agg (Ah x.body)] V True (.bool true):=fun V=>ah0 (Nj x.body.wt x.body V (Nat.le_refl _) (by omega))
 refine en func60 ntmps60 ?_
 refine gz ?_
 exact fin1 (S':=V) ⟨rfl,rfl⟩
theorem TE(p:FProg)(V:Sig)(hw:p.wt<=1073741824):DCall prog 22 [.agg (B7 p),.agg (B7 p)] V (rS (.bool true) V):=by
 obtain⟨p1,p2,p3,p4,p5⟩:=p.wt_le
 have i58:∀V:Sig,Ans 58 [.agg (Ah p.main),.agg (Ah p.main)] V True (.bool true):=fun V=>ah0 (Nj p.main.wt p.main V (Nat.le_refl _) (by omega))
 refine en func22 ntmps22 ?_
 refine gz ?_ o22
 refine B2 [2,3,6,50,51,52,53,54,55,56,57,58,59,60,61,62,63,64,65,66,67,68] (fun (k:Nat)=>k<=p.classes.length) (fun k=>[(5,dI k)]) (fun _=>V) (fun k=>p.classes.length-k) (0) (by omega) (fun k hI =>?_)
 have hk:=hI
 by_cases hkl:k<p.classes.length
 ·have hwk:=p4 k hkl
  have i59:∀V:Sig,Ans 59 [.agg (cFClass p.classes[k]),.agg (cFClass p.classes[k])] V True (.bool true):=fun V=>ah0 (T7 p.classes[k] V (by omega))
  refine gz ?_ o22
  exact⟨k+1,by omega,td1,wkR⟩
 ·refine gz ?_ o22
  clear hk hkl
  refine B2 [2,3] (fun (k:Nat)=>k<=p.methods.length) (fun k=>[(6,dI k)]) (fun _=>V) (fun k=>p.methods.length-k) (0) (by omega) (fun k hI =>?_)
  have hk:=hI
  by_cases hkl:k<p.methods.length
  ·have hwk:=p5 k hkl
   have i60:∀V:Sig,Ans 60 [.agg (BC p.methods[k]),.agg (BC p.methods[k])] V True (.bool true):=fun V=>ah0 (T5 p.methods[k] V (by omega))
   refine gz ?_ o22
   exact⟨k+1,by omega,td1,wkR⟩
  ·refine gz ?_ o22
   exact fin1 (S':=V) ⟨rfl,rfl⟩
def setL:List Str->List Str->List Str
 |[],a=>a
 |s::r,a=>setL r (ins s a)
theorem QN(l:List Str)(o:Own)(V:Sig)(hl:l.length<=1073741824):DCall prog 254 [.slice (cS l) o] V fun x S' => ∃im,V im=none/\x=.ret (.map im)/\S'=V.set im (.map (eSS (setL l []))):=by
 refine en func254 ntmps254 ?_
 refine gz ?_
 refine LF (fun im him =>?_)
 refine gz ?_
 refine AA [2,3,7,8,16] (fun (k:Nat) (m:List Str)=>k<=l.length/\setL l []=setL (l.drop k) m) (fun k _=>[(9,dI k)]) (fun _ m=>V.set im (.map (eSS m))) (fun k _=>l.length-k) (0) ([]) (by simp) (fun k m hI =>?_)
 obtain⟨hk,hR⟩:=hI
 by_cases hkl:k<l.length
 ·rw[A0 hkl,setL]at hR
  refine gz ?_
  exact⟨k+1,ins l[k] m,⟨by omega,hR⟩,td1,wkR⟩
 ·rw[A1 hkl,setL]at hR
  refine gz ?_
  exact fin1 (S':=V.set im (.map (eSS m))) ⟨im,him,rfl,by rw[hR]⟩
def Ej(f:Nat->Option Str):Nat->Nat->Option Str
 |0,_=>none
 |k+1,j=>match f j with
  |some w=>some w
  |none=>Ej f k (j+1)
theorem E9(f:Nat->Option Str)(k j:Nat):Ej f (k+1) j=match f j with
 |some w=>some w
 |none=>Ej f k (j+1):=rfl
def DP(tk:List Str):Nat->Str->Option Str
 |0,s=>if s∈kwds\/s∈tk then none else some s
 |n+1,s=>Ej (fun c=>DP tk n (s++[UInt8.ofNat c])) 26 97
def Jr(tk:List Str):Option Str:=Ej (fun k=>DP tk k []) 8 1
def DoneY(l i2:Nat)(LO:DObj)(w:Str)(V S':Sig):Prop:=S' l=some (Wv .ret LO)/\S' i2=some (.cells [.str w]) /\ ∀j o,V j=some o->j≠l->j≠i2->S' j=some o
def YR(tk:List Str)(l i2:Nat)(LO:DObj)(w:Str)(V:Sig)(x:DE)(S':Sig):Prop :=
 if w∈tk then x=.ret (.bool true)/\Sub V S' else x=.ret (.bool false)/\DoneY l i2 LO w V S'
def GR(o:Option Str)(l i2:Nat)(LO:DObj)(V:Sig)(x:DE)(S':Sig):Prop:=match o with
 |none=>x=.ret (.bool true)/\Sub V S'
 |some w=>x=.ret (.bool false)/\DoneY l i2 LO w V S'
theorem DoneY.sub{l i2:Nat}{LO:DObj}{w:Str}{V S1 S2:Sig}(h:Sub V S1)(k:DoneY l i2 LO w S1 S2):DoneY l i2 LO w V S2:=⟨k.1,k.2.1,fun j o hj h1 h2=>k.2.2 j o (h j o hj) h1 h2⟩
theorem Tf(tk:List Str)(l i2:Nat)(LO:DObj)(Sb:Sig)(hl:Sb l=some LO)(hLO:isLD LO=true)(h2:Sb i2=some (.cells [.str []]))(hy:∀(w:Str) V,Sub Sb V->w.length<=8->DYield prog l [.str w] V (YR tk l i2 LO w V))(is ik i4:Nat):
  ∀(n:Nat) (s:Str) (o:Own) (V:Sig),s.length+n<=8->Sub Sb V->V is=some (.cells [dI ((s.length+n:Nat):Int)])->V ik=some (.map (eSS kwds))->V i4=some (.cells [.func (.func 306) [] [.ptr is 0,.cptr [.map ik] 0,.cptr [.yld l] 0,.ptr i4 0]])->
   DCall prog 306 [.slice (cB8 s) o,.ptr is 0,.cptr [.map ik] 0,.cptr [.yld l] 0,.ptr i4 0] V (GR (DP tk n s) l i2 LO V):=by
 intro n
 induction n with
 | zero =>
  intro s o V hn hS o1 o2 o3
  have e0:((s.length+0:Nat):Int)=s.length:=by omega
  rw[e0]at o1
  refine en func306 ntmps306 ?_
  try refine gf (gi o1 o2) ?_ o306
  refine strR s ?_
  by_cases hk:s∈kwds
  ·have hg:DP tk 0 s=none:=by rw[DP,if_pos (.inl hk)]
   rw[hg]
   try refine gf (gi o2 hk) ?_ o306
   refine skpV ?_
   try refine gz ?_ o306
   exact fin1 (S':=V) ⟨rfl,Sub.refl _⟩
  ·try refine gf (gi o2 hk) ?_ o306
   refine strR s ?_
   try refine gz ?_ o306
   refine yldWG (hy s V hS (by omega)) (fun e S' hr =>?_) (fun e S' hr =>?_)
   ·by_cases ht:s∈tk
    ·have hg:DP tk 0 s=none:=by rw[DP,if_pos (.inr ht)]
     unfold YR at hr
     rw[if_pos ht]at hr
     obtain⟨e1,hr⟩:=hr
     cases e1
     rw[hg]
     try refine gz ?_ o306
     exact fin1 (S':=S') ⟨rfl,hr⟩
    ·have hg:DP tk 0 s=some s:=by rw[DP,if_neg fun h=>h.elim hk ht]
     unfold YR at hr
     rw[if_neg ht]at hr
     obtain⟨e1,hr⟩:=hr
     cases e1
     rw[hg]
     try refine gz ?_ o306
     exact fin1 (S':=S') ⟨rfl,hr⟩
   ·unfold YR at hr
    split at hr<;>cases hr.1
 | succ n ih =>
  intro s o V hn hS o1 o2 o3
  rw[DP]
  have nl:∀{j x},Sb j=some x->Sb j=some x:=fun h=>h
  have hcl:∀{j f c1 c2 V},V j=some (.cells [.func f c1 c2])->Sub Sb V->j≠l/\j≠i2:=fun {j f c1 c2 V} h hS=>⟨fun e=>(by rw[e,hS _ _ hl]at h;cases h;cases hLO),fun e=>(by rw[e,hS _ _ h2]at h;cases h)⟩
  refine en func306 ntmps306 ?_
  try refine gf o1 ?_ o306
  refine AA [0,4] (fun (j:Nat) (S1:Sig)=>j<=26/\Sub V S1/\Ej (fun c=>DP tk n (s++[UInt8.ofNat c])) 26 97=Ej (fun c=>DP tk n (s++[UInt8.ofNat c])) (26-j) (97+j)) (fun j _=>[(7,.int .u8 ((97+j:Nat):Int))]) (fun _ S1=>S1) (fun j _=>26-j) (0) (V) (by exact⟨by omega,Sub.refl _,rfl⟩) (fun j S1 hI =>?_)
  obtain⟨hj,hS1,hR⟩:=hI
  have q1:=hS1 _ _ o1
  have q2:=hS1 _ _ o2
  have q3:=hS1 _ _ o3
  obtain⟨r1,r2⟩:=hcl q3 (hS.trans hS1)
  by_cases hjl:j<26
  ·rw[show 26-j=(26-(j+1))+1 by omega,E9 _ (26-(j+1))]at hR
   have u3:(S1.out (fun x=>x=l\/x=i2)) i4=_:=DG q3 (fun h=>h.elim r1 r2)
   have hout:Sub (S1.out (fun x=>x=l\/x=i2)) S1:=Bv _ _
   try refine gf q3 ?_
   refine MP (id:=6) [0,1,3,4,2,5,6,7] [2,5,6] (S1.out (fun x=>x=l\/x=i2)) (Bv _ _) ?_
   try refine gf u3 ?_ o306
   refine WO (fun a ha =>?_) (hlen:=cB8_mem _)
   try refine gf u3 ?_ o306
   have hb:(UInt8.ofNat (97+j)).toNat=97+j:=by rw[UInt8.toNat_ofNat'];omega
   have hcb:cB8 (s++[UInt8.ofNat (97+j)])=cB8 s++[[D.int .u8 (97+(j:Int))]]:=by unfold cB8;rw[List.map_append,List.map_cons,List.map_nil,hb];simp
   have hS2:Sub V (S1.set a (.tail (tab 5).size ((cB8 s).length+[[D.int IntKind.u8 (97+(j:Int))]].length))):=hS1.trans ((Sub.refl _).set ha)
   have hlen:((s++[UInt8.ofNat (97+j)]).length+n:Nat)=s.length+(n+1):=by simp;omega
   have hih:=ih (s++[UInt8.ofNat (97+j)]) (.tag a) _ (by omega) (hS.trans hS2) (by rw[hlen];exact hS2 _ _ o1) (hS2 _ _ o2) (hS2 _ _ o3)
   rw[hcb]at hih
   have hs0:Sub (S1.out (fun x=>x=l\/x=i2)) (S1.set a (.tail (tab 5).size ((cB8 s).length+[[D.int IntKind.u8 (97+(j:Int))]].length))):=hout.trans ((Sub.refl _).set ha)
   have hwr:IntKind.wrap .u8 (97+(j:Int)+1)=97+(j:Int)+1:=by rw[IntKind.wrap_u8];omega
   refine BF hih (fun d S' hr =>?_) (fun d S' hr=>by unfold GR at hr;split at hr<;>cases hr.1)
   cases hg:DP tk n (s++[UInt8.ofNat (97+j)])with
   |none =>
    rw[hg]at hr
    obtain⟨e1,hr⟩:=hr
    cases e1
    rw[hg]at hR
    refine⟨hs0.trans hr,?_⟩
    try refine gf hwr ?_ o306
    exact⟨j+1,S',⟨by omega,hS2.trans hr,hR⟩,td1,wkR⟩
   | some w =>
    rw[hg]at hr
    obtain⟨e1,hr⟩:=hr
    cases e1
    rw[hg]at hR
    refine⟨fun q x hq =>?_,?_⟩
    ·obtain⟨h1,h2⟩:=C1 hq
     exact hr.2.2 _ _ (hs0 _ _ hq) (fun e=>h2 (.inl e)) (fun e=>h2 (.inr e))
    ·rw[hR]
     try refine gz ?_ o306
     exact fin1 (S':=S') ⟨rfl,hr.sub hS2⟩
  ·have h0:∀f:Nat->Option Str,Ej f 0 (97+j)=none:=fun _=>rfl
   rw[show 26-j=0 by omega,h0]at hR
   rw[hR]
   try refine gz ?_ o306
   exact fin1 (S':=S1) ⟨rfl,hS1⟩
def G2(o:Option Str)(l i2:Nat)(LO:DObj)(V:Sig)(x:DE)(S':Sig):Prop:=x=.ret (.tup [])/\match o with
 |none=>Sub V S'
 |some w=>DoneY l i2 LO w V S'
theorem Tm(tk:List Str)(l i2:Nat)(LO:DObj)(V:Sig)(hl:V l=some LO)(hLO:isLD LO=true)(h2:V i2=some (.cells [.str []]))(hy:∀(w:Str) S',Sub V S'->w.length<=8->DYield prog l [.str w] S' (YR tk l i2 LO w S')):
  DCall prog 286 [.yld l] V (G2 (Jr tk) l i2 LO V):=by
 refine en func286 ntmps286 ?_
 try refine gz ?_ [] [3,4]
 refine Ab (KU V) (fun d S' hr =>?_) (fun d S' hr=>by obtain⟨_,_,h,_⟩:=hr;cases h)
 obtain⟨ik,hik,e1,e2⟩:=hr
 cases e1
 rw[e2]
 clear e2 S'
 have o2:(V.set ik (.map (eSS kwds))) ik=some (.map (eSS kwds)):=w7 ..
 have hS:Sub V (V.set ik (.map (eSS kwds))):=(Sub.refl _).set hik
 generalize V.set ik (.map (eSS kwds))=S1 at *
 try refine gz ?_ [] [3,4]
 refine newV (fun i3 hi3 =>?_)
 try refine gz ?_ [] [3,4]
 refine D6 [1,2] (fun (k:Nat) (j3:Nat) (S2:Sig)=>1<=k/\k<=9/\Sub V S2/\S2 j3=some (.cells [dI (k:Int)])/\S2 ik=some (.map (eSS kwds))/\Jr tk=Ej (fun k=>DP tk k []) (9-k) k) (fun _ j3 _=>[(3,.ptr j3 0)]) (fun _ _ S2=>S2) (fun k _ _=>9-k) (1) (i3) (S1.set i3 (.cells [dI 1])) (by exact⟨by omega,by omega,hS.trans ((Sub.refl _).set hi3),w7 .., by rw[w8 _ _ (A3 o2 hi3)];exact o2,rfl⟩) (fun k j3 S2 hI =>?_)
 obtain⟨hk1,hk9,hS2,q3,q2,hR⟩:=hI
 by_cases hk:k<=8
 ·rw[show 9-k=(9-(k+1))+1 by omega,E9 _ (9-(k+1))]at hR
  try refine gf q3 ?_ [] [3,4]
  refine newV (fun i4 hi4 =>?_)
  try refine gz ?_ [] [3,4]
  have n1:=A3 q3 hi4
  have n2:=A3 q2 hi4
  generalize hU3:S2.set i4 (.cells [.func (.func 306) [] [.ptr j3 0,.cptr [.map ik] 0,.cptr [.yld l] 0,.ptr i4 0]])=S3
  have r4:S3 i4=some (.cells [.func (.func 306) [] [.ptr j3 0,.cptr [.map ik] 0,.cptr [.yld l] 0,.ptr i4 0]]):=by rw[<-hU3];exact w7 ..
  have r3:S3 j3=some (.cells [dI (k:Int)]):=by rw[<-hU3,w8 _ _ n1];exact q3
  have r2:S3 ik=some (.map (eSS kwds)):=by rw[<-hU3,w8 _ _ n2];exact q2
  have hS3:Sub V S3:=by rw[<-hU3];exact hS2.trans ((Sub.refl _).set hi4)
  clear hU3
  have h306:=Tf tk l i2 LO V hl hLO h2 hy j3 ik i4 k [] .no S3 (by simp;omega) hS3 (by simpa using r3) r2 r4
  refine callWP h306 (fun d S' hr =>?_) (fun d S' hr=>by unfold GR at hr;split at hr<;>cases hr.1)
  cases hg:DP tk k []with
  |none =>
   rw[hg]at hr hR
   obtain⟨e1,hr⟩:=hr
   cases e1
   have s3:=hr _ _ r3
   try refine gf s3 ?_ [] [3,4]
   refine newV (fun i5 hi5 =>?_)
   have n5:=A3 (hr _ _ r2) hi5
   try refine gz ?_ [] [3,4]
   have hkk:((k:Int)+1)=((k+1:Nat):Int):=by omega
   exact⟨k+1,i5,S'.set i5 (.cells [dI ((k+1:Nat):Int)]),⟨by omega,by omega,(hS3.trans hr).trans ((Sub.refl _).set hi5),w7 .., by rw[w8 _ _ n5];exact hr _ _ r2,hR⟩,td1,wkR⟩
  |some w =>
   rw[hg]at hr hR
   obtain⟨e1,hr⟩:=hr
   cases e1
   try refine gz ?_ [] [3,4]
   refine fin0 (S':=S') ⟨rfl,?_⟩
   rw[hR]
   exact hr.sub hS3
 ·have h0:∀f:Nat->Option Str,Ej f 0 k=none:=fun _=>rfl
  rw[show 9-k=0 by omega,h0]at hR
  try refine gf q3 ?_ [] [3,4]
  refine Eb (S':=S2) ⟨rfl,?_⟩
  rw[hR];exact hS2
theorem rangeY{P:Program}{n:Nat}{Q:DX->St->Prop}{O:Fr}{V:Sig}{df:List DDf}{gop:Operand}{ps:Array Tmp}{asg body:Code}{f:Nat}{first cap:List D}(i2:Nat)(o:Option Str){x2:DObj}(hi2:V i2=some x2)
  (hf:ev O gop=.func (.func f) first cap)
  (hcall:∀l did LO,LO=DObj.loop .ready none ps asg body n O did->V did=none->(V.set did .defs) l=none->DCall P f (first++[.yld l]++cap) ((V.set did .defs).set l LO) (G2 o l i2 LO ((V.set did .defs).set l LO)))
  (hnone:o=none->∀did S',V did=none->S' did=some .defs->(∀j x,V j=some x->S' j=some x/\j≠did)->Q .normal ⟨O,S',.coll did::df⟩)
  (hsome:∀w,o=some w->∀did S',V did=none->S' did=some .defs->S' i2=some (.cells [.str w])->(∀j x,V j=some x->j≠i2->S' j=some x/\j≠did)->DWp P none n .ret Q ⟨O,S',.coll did::df⟩) :
  DWp P none n (.rangeFunc gop ps asg body) Q ⟨O,V,df⟩:=by
 refine F4 (R:=fun l did x S'=>G2 o l i2 (DObj.loop .ready none ps asg body n O did) ((V.set did .defs).set l (DObj.loop .ready none ps asg body n O did)) x S') hf (fun l did hd hl hld =>?_) (fun l did d S' hd hl hld hr =>?_) (fun l did d S' hd hl hld hr=>by cases hr.1)
 ·have hl':(V.set did .defs) l=none:=by first|exact hl|(rw[w8 _ _ hld];exact hl)
  exact hcall l did _ rfl hd hl'
 ·have hl':(V.set did .defs) l=none:=by first|exact hl|(rw[w8 _ _ hld];exact hl)
  have hl0:V l=none:=by rw[w8 _ _ hld]at hl';exact hl'
  have dl:∀j,j≠l->(S'.del l) j=S' j:=fun j h=>by simp only[Sig.del,h,if_false]
  have b1:∀j x,V j=some x->((V.set did .defs).set l (DObj.loop .ready none ps asg body n O did)) j=some x/\j≠l/\j≠did:=fun j x hj=>by
   have e1:j≠l:=A3 hj hl0
   have e2:j≠did:=A3 hj hd
   exact⟨by rw[w8 _ _ e1,w8 _ _ e2];exact hj,e1,e2⟩
  have b2:((V.set did .defs).set l (DObj.loop .ready none ps asg body n O did)) did=some .defs:=by rw[w8 _ _ (Ne.symm hld)];exact w7 ..
  obtain⟨e1,hr⟩:=hr
  cases o with
  |none =>
   have hr:Sub _ S':=hr
   refine⟨.ready,none,hr _ _ (w7 ..),by simp,hnone rfl did _ hd (by rw[dl _ (Ne.symm hld)];exact hr _ _ b2) fun j x hj =>?_⟩
   obtain⟨c1,c2,c3⟩:=b1 j x hj
   exact⟨by rw[dl _ c2];exact hr _ _ c1,c3⟩
  |some w =>
   obtain⟨d1,d2,d3⟩:DoneY l i2 _ w _ S':=hr
   obtain⟨c1,c2,c3⟩:=b1 _ _ hi2
   refine⟨.done,some .ret,d1,by simp,hsome w rfl did _ hd (by rw[dl _ (Ne.symm hld)];exact d3 _ _ b2 (Ne.symm hld) (Ne.symm c3)) (by rw[dl _ c2];exact d2) fun j x hj hn =>?_⟩
   obtain⟨c1,c2,c3⟩:=b1 j x hj
   exact⟨by rw[dl _ c2];exact d3 _ _ c1 c2 hn,c3⟩
def Ei(tk:List Str):Str:=(Jr tk).getD []
theorem Ns(tk:List Str)(im:Nat)(V:Sig)(hm:V im=some (.map (eSS tk))):DCall prog 253 [.map im] V (rS (.str (Ei tk)) V):=by
 refine Bh func253 rfl (by decide) ntmps253 (by simp) ?_
 try refine gz ?_ [] [2]
 refine newV (fun i2 hi2 =>?_)
 have n1:im≠i2:=A3 hm hi2
 have hm2:(V.set i2 (.cells [.str []])) im=some (.map (eSS tk)):=by rw[w8 _ _ n1];exact hm
 try refine gz ?_ [] [2]
 refine rangeY i2 (Jr tk) (w7 ..) rfl (fun l did LO hLO hd hl =>?_) (fun ho did S' hdn hdd hk =>?_) (fun w ho did S' hdn hdd hw2 hk =>?_)
 ·have e1:i2≠did:=fun e=>by rw[<-e,w7]at hd;cases hd
  have e2:im≠did:=fun e=>by rw[<-e,hm2]at hd;cases hd
  have e3:i2≠l:=fun e=>by rw[<-e,w8 _ _ e1,w7]at hl;cases hl
  have e4:im≠l:=fun e=>by rw[<-e,w8 _ _ e2,hm2]at hl;cases hl
  refine Tm tk l i2 LO _ (w7 ..) (Ji hLO).1 (by rw[w8 _ _ e3,w8 _ _ e1];exact w7 ..) fun w S1 hS hwl =>?_
  have g1:S1 l=some LO:=hS _ _ (w7 ..)
  have g2:S1 im=some (.map (eSS tk)):=hS _ _ (by rw[w8 _ _ e4,w8 _ _ e2];exact hm2)
  have g3:S1 i2=some (.cells [.str []]):=hS _ _ (by rw[w8 _ _ e3,w8 _ _ e1];exact w7 ..)
  refine Eu hLO g1 ?_
  try refine gz ?_ [] [2]
  refine⟨g1,?_⟩
  have g2b:(S1.set l (Ce LO)) im=some (.map (eSS tk)):=by rw[w8 _ _ e4];exact g2
  by_cases hw:w∈tk
  ·try refine gf (gi g2 hw) ?_ [] [2]
   exact⟨w7 .., by unfold YR;rw[if_pos hw];exact⟨rfl,by rw[w9,Sig.set_self _ g1];exact Sub.refl _⟩⟩
  ·try refine gf (gi g2 (gi g3 hw)) ?_ [] [2]
   refine⟨(w8 _ _ (Ne.symm e3)).trans (w7 ..),?_⟩
   unfold YR;rw[if_neg hw]
   refine⟨rfl,w7 .., (w8 _ _ e3).trans (w7 ..),fun j o hj h1 h2 =>?_⟩
   show(((S1.set l (Ce LO)).set i2 (.cells [.str w])).set l (Wv .ret LO)) j=some o
   rw[w8 _ _ h1,w8 _ _ h2,w8 _ _ h1];exact hj
 ·have hf:Ei tk=[]:=by unfold Ei;rw[ho];rfl
  have h2:=(hk i2 _ (w7 ..)).1
  have hdi:i2≠did:=(hk i2 _ (w7 ..)).2
  have hdm:did≠i2:=Ne.symm hdi
  try refine gf h2 ?_ [] [2]
  refine finMC [did] (S':=V) (ds:=[.str []]) ⟨by rw[hf];rfl,rfl⟩ (fun j x hj =>?_) (by simp) (by simp[w8 _ _ hdm,hdd]) (by simp[resL,dels,Sig.del,hdi]) (A8 _)
  have ne2:j≠i2:=A3 hj hi2
  obtain⟨c1,c2⟩:=hk j x (by rw[w8 _ _ ne2];exact hj)
  rw[JL _ _ _ (by simpa using c2),w8 _ _ ne2];exact c1
 ·have hf:Ei tk=w:=by unfold Ei;rw[ho];rfl
  have hdi:i2≠did:=fun e=>by rw[<-e,hw2]at hdd;cases hdd
  try refine gz ?_ [] [2]
  refine finMC [did] (S':=V) (ds:=[.str w]) ⟨by rw[hf];rfl,rfl⟩ (fun j x hj =>?_) (by simp) (by simp[hdd]) (by simp[resL,dels,Sig.del,hdi,hw2]) (A8 _)
  have ne2:j≠i2:=A3 hj hi2
  obtain⟨c1,c2⟩:=hk j x (by rw[w8 _ _ ne2];exact hj) ne2
  rw[JL _ _ _ (by simpa using c2)];exact c1
theorem P2(x:Str): ∀(l m:List Str),x∈setL l m ↔ x∈l\/x∈m
 |[],m=>by simp[setL]
 |y::r,m=>by rw[setL,P2 x r,HN,List.mem_cons];grind
theorem FK{f g:Nat->Option Str}(h:∀j,f j=g j): ∀k j,Ej f k j=Ej g k j
 |0,_=>rfl
 |k+1,j=>by rw[E9,E9,h j,FK h k]
theorem Jp{a b:List Str}(h:∀x,x∈a ↔ x∈b): ∀(n:Nat) (s:Str),DP a n s=DP b n s
 |0,s=>by rw[DP,DP];simp only[h s]
 |n+1,s=>by rw[DP,DP];exact FK (fun j=>Jp h n _) _ _
theorem Nc{a b:List Str}(h:∀x,x∈a ↔ x∈b):Ei a=Ei b:=by
 unfold Ei Jr
 rw[FK fun k=>Jp h k []]
theorem TM(l:List Str)(o:Own)(V:Sig)(hl:l.length<=1073741824):DCall prog 213 [.slice (cS l) o] V (rS (.str (Ei l)) V):=by
 refine en func213 ntmps213 ?_
 try refine gz ?_
 refine Ab (QN l o V hl) (fun x S1 hr =>?_) (fun x S1 hr=>by obtain⟨_,_,h,_⟩:=hr;cases h)
 obtain⟨im,him,e1,e2⟩:=hr
 cases e1
 rw[e2]
 repeat' first|refine gz ?_|refine Ax (Ns (setL l []) im _ (w7 ..)) ?_|refine callP (Ns (setL l []) im _ (w7 ..)) ?_|refine gz ?_|apply gy<;>intro hh
 refine fin1 (S':=V) ⟨rfl,rfl⟩ ((Sub.refl _).set him) (hw := ?_)
 refine AS ?_
 rw[Nc (a:=setL l []) (b:=l) fun x=>by rw[P2];simp]
@[reducible,instance] def a213:=fun l o V=>ah1 (@TM l o V)
def Dt:Nat->List Str->List Str
 |0,out=>out
 |n+1,out=>Dt n (out++[Ei out])
def B1(n:Nat):List Str:=Dt n []
theorem KG: ∀(n:Nat) (l:List Str),(Dt n l).length=l.length+n
 |0,l=>rfl
 |n+1,l=>by rw[Dt,KG n,List.length_append];simp;omega
theorem FN(n:Nat)(V:Sig)(hn:n<=1073741824):DCall prog 134 [dI n] V (rS (sl (cS (B1 n))) V):=by
 refine en func134 ntmps134 ?_
 try refine gz ?_
 refine Bz 3 1 (fun i hi =>?_)
 refine AA [2,5,15] (fun (k:Nat) (out:List Str)=>k<=n/\out.length=k/\B1 n=Dt (n-k) out) (fun k out=>[(6,dI k),(3,.slice (cS out) (.tag i))]) (fun _ out=>V.set i (.tail 1 out.length)) (fun k _=>n-k) (0) ([]) (by simp[B1]) (fun k out hI =>?_)
 obtain⟨hk,hol,hR⟩:=hI
 by_cases hkl:k<n
 ·rw[show n-k=(n-(k+1))+1 by omega,Dt]at hR
  try refine gz ?_
  exact⟨k+1,out++[Ei out],⟨by omega,by rw[List.length_append,hol];rfl,hR⟩,td1,wkR⟩
 ·rw[show n-k=0 by omega,Dt]at hR
  try refine gz ?_
  rw[hR]
  exact fin1 (S':=V) ⟨rfl,rfl⟩
@[reducible,instance] def a134:=fun n V=>ah1 (@FN n V)
def Lo:Nat->Nat->Str->Str
 |0,_,s=>s
 |f+1,n,s=>if n=0 then s else Lo f ((n-1) / 26) (UInt8.ofNat (97+(n-1) % 26)::s)
def Lp(n:Nat):Str:=Lo n n []
theorem Mk: ∀(f n:Nat) (s:Str),(Lo f n s).length<=f+s.length
 |0,_,s=>by rw[Lo];omega
 | f+1,n,s=>by
  rw[Lo]
  split
  ·omega
  ·have:=Mk f ((n-1) / 26) (UInt8.ofNat (97+(n-1) % 26)::s)
   rw[List.length_cons]at this
   omega
theorem Qd(f:Nat)(s:Str):Lo f 0 s=s:=by cases f<;>simp[Lo]
theorem TG(n:Nat)(V:Sig)(hn:n<=100000):DCall prog 225 [dI n] V (rS (.str (Lp n)) V):=by
 refine en func225 ntmps225 ?_
 refine gz ?_
 refine D6 [2,18] (fun (m:Nat) (f:Nat) (s:Str)=>m<=f/\f<=n/\s.length+f<=n/\Lo f m s=Lp n) (fun m _ s=>[(0,dI m),(3,.str s)]) (fun _ _ _=>V) (fun m _ _=>m) (n) (n) ([]) (by exact⟨by omega,by omega,by simp,rfl⟩) (fun m f s hI =>?_)
 obtain⟨hm,hf,hs,hR⟩:=hI
 by_cases h0:m=0
 ·subst h0
  rw[Qd]at hR
  refine gz ?_
  refine fin1 (S':=V) ?_
  exact⟨by rw[hR],rfl⟩
 ·obtain⟨k,rfl⟩:∃k,m=k+1:=⟨m-1,by omega⟩
  obtain⟨g,rfl⟩:∃g,f=g+1:=⟨f-1,by omega⟩
  rw[Lo,if_neg h0,Nat.add_sub_cancel]at hR
  have e1:(k:Int).tmod 26=((k % 26:Nat):Int):=rfl
  have e2:(k:Int).tdiv 26=((k / 26:Nat):Int):=rfl
  have hr:k % 26<26:=Nat.mod_lt _ (by omega)
  have hq:k / 26<=k:=Nat.div_le_self _ _
  generalize k % 26=r at *
  generalize k / 26=q at *
  have e3:IntKind.wrap .u8 (97+(r:Int))=97+(r:Int):=by rw[IntKind.wrap_u8];omega
  have e4:(UInt8.ofNat (97+r)).toNat=97+r:=by rw[UInt8.toNat_ofNat'];omega
  have e5:cB8 [UInt8.ofNat (97+r)]=[[.int .u8 (97+(r:Int))]]:=by unfold cB8;rw[List.map_cons,e4];rfl
  clear e4
  generalize UInt8.ofNat (97+r)=ch at *
  refine gf (gi e1 (gi e2 e3)) ?_
  refine strR [ch] ?_ (hx:=by rw[e5];with_unfolding_all rfl)
  refine gf (gi e1 e2) ?_
  exact⟨q,g,ch::s,⟨by omega,by omega,by simp only[List.length_cons];omega,hR⟩,td1,wkR⟩
@[reducible,instance] def a225:=fun n V=>ah1 (@TG n V)
def okW(l:List Str)(n:Nat):Bool:=AP (Lp n)&&!decide (Lp n∈l)
def frO(l:List Str):Nat->Nat->Option Str
 |0,_=>none
 |f+1,n=>if okW l n=true then some (Lp n) else frO l f (n+1)
theorem Uh(l:List Str)(w:Str)(o:Own)(V:Sig)(hl:l.length<=1073741824)(hw:frO l 10000 1=some w):DCall prog 164 [.slice (cS l) o] V (rS (.str w) V):=by
 refine en func164 ntmps164 ?_
 refine gz ?_
 refine AA [0,2,16,17] (fun (m:Nat) (f:Nat)=>m+f=10001/\1<=m/\frO l f m=some w) (fun m _=>[(3,dI m)]) (fun _ _=>V) (fun _ f=>f) (1) (10000) (by exact⟨by omega,by omega,hw⟩) (fun m f hI =>?_)
 obtain⟨hm,h1,hR⟩:=hI
 cases f with
 |zero=>cases hR
 | succ g =>
  rw[frO]at hR
  have hwl:=Mk m m []
  have hwl:(Lp m).length<=1073741824:=by unfold Lp;simp only[List.length_nil]at hwl;omega
  unfold okW at hR
  cases hn:AP (Lp m)with
  |false =>
   rw[hn,Bool.false_and,if_neg (by simp)]at hR
   refine gf hn ?_
   exact⟨m+1,g,⟨by omega,by omega,hR⟩,td1,wkR⟩
  | true =>
   by_cases hi:Lp m∈l
   ·rw[hn,decide_eq_true hi,if_neg (by simp)]at hR
    refine gf (gi hn hi) ?_
    exact⟨m+1,g,⟨by omega,by omega,hR⟩,td1,wkR⟩
   ·rw[hn,decide_eq_false hi,if_pos (by simp)]at hR
    cases hR
    refine gf (gi hn hi) ?_
    exact fin1 (S':=V) ⟨rfl,rfl⟩
def refM:Nat->List Str->List Str->Option (List Str)
 |0,_,out=>some out
 |k+1,l,out=>match frO l 10000 1 with
  |none=>none
  |some w=>refM k (l++[w]) (out++[w])
theorem PB(n:Nat)(l ws:List Str)(o:Own)(V:Sig)(hl:l.length+n<=1000000000)(hw:refM n l []=some ws):DCall prog 73 [.slice (cS l) o,dI n] V (rS (sl (cS ws)) V):=by
 refine en func73 ntmps73 ?_
 refine gz ?_
 refine appN (fun i hi =>?_)
 refine gz ?_
 refine Bz 5 1 (fun j hj =>?_)
 obtain⟨n1,hj0⟩:=A4 hj
 generalize hU1:Sig.set (Sig.set V i _) j _=S0
 have q1:S0 i=some (.tail 1 (l++([]:List Str)).length):=by rw[<-hU1,w8 _ _ (Ne.symm n1),w7];simp
 have q2:S0 j=some (.tail 1 ([]:List Str).length):=by rw[<-hU1,w7];rfl
 have hS:Sub V S0:=fun x y hx=>by rw[<-hU1,w8 _ _ (A3 hx hj0),w8 _ _ (A3 hx hi)];exact hx
 clear hU1
 refine D6 [1,4,25] (fun (k:Nat) (out:List Str) (S1:Sig)=>k<=n/\refM (n-k) (l++out) out=some ws/\out.length=k/\S1 i=some (.tail 1 (l++out).length)/\S1 j=some (.tail 1 out.length)/\Sub V S1) (fun k out _=>[(6,dI k),(0,.slice (cS (l++out)) (.tag i)),(5,.slice (cS out) (.tag j))]) (fun _ _ S1=>S1) (fun k _ _=>n-k) (0) ([]) (S0) (by exact⟨by omega,by simpa using hw,rfl,q1,q2,hS⟩) (fun k out S1 hI =>?_)
 obtain⟨hk,hR,hol,o1,o2,oS⟩:=hI
 by_cases hkl:k<n
 ·rw[show n-k=n-(k+1)+1 by omega,refM]at hR
  cases hf:frO (l++out) 10000 1 with
  |none=>rw[hf]at hR;cases hR
  |some w =>
   rw[hf]at hR
   have hll:(l++out).length=l.length+k:=by rw[List.length_append,hol]
   have i164:∀V:Sig,Ans 164 [.slice (cS (l++out)) (.tag i)] V True (.str w):=fun V=>ah0 (Uh _ w _ V (by omega) hf)
   have hne:i≠j:=Ne.symm n1
   have ecs:cS (l++out)++[[D.str w]]=cS (l++(out++[w])):=by simp[cS]
   have ecs2:cS out++[[D.str w]]=cS (out++[w]):=by simp[cS]
   refine gf (gi o1 o2) ?_
   simp only[ecs,ecs2]
   generalize hU2:Sig.set (Sig.set S1 i _) j _=S2
   have z1:S2 i=some (.tail 1 (l++(out++[w])).length):=by rw[<-hU2,w8 _ _ hne,w7];simp;omega
   have z2:S2 j=some (.tail 1 (out++[w]).length):=by rw[<-hU2,w7];simp
   have zS:Sub V S2:=fun x y hx=>by rw[<-hU2,w8 _ _ (A3 hx hj0),w8 _ _ (A3 hx hi)];exact oS x y hx
   exact⟨k+1,out++[w],S2,⟨by omega,by rw[<-List.append_assoc];exact hR,by rw[List.length_append,hol];rfl,z1,z2,zS⟩,td1,wkR⟩
 ·rw[show n-k=0 by omega,refM]at hR
  cases hR
  refine gz ?_
  exact finS (S':=V) ⟨rfl,rfl⟩
def cSp(p:BProg)(a b c:List Str):D := .cptr [.cptr [sl (p.classes.map Ae),dI p.slots,sl (cI p.gens),sl (p.methods.map Aq),sl (p.nodes.map Ai),dI p.main,sl (cS a),sl (cS b),sl (cS c)] 0] 0
theorem Us(p:BProg)(a b c:List Str)(n:Nat)(V:Sig)(hn:n<a.length)(ha:a.length<=1073741824):DCall prog 138 [dI n,cSp p a b c] V (rS (.str ((a[n]?).getD [])) V):=by
 have hc:cSp p a b c=.cptr [.cptr [sl (p.classes.map Ae),dI p.slots,sl (cI p.gens),sl (p.methods.map Aq),sl (p.nodes.map Ai),dI p.main,sl (cS a),sl (cS b),sl (cS c)] 0] 0:=rfl
 have hg:(a[n]?).getD []=a[n]:=by rw[List.getElem?_eq_getElem hn];rfl
 rw[hc,hg]
 refine en func138 ntmps138 ?_
 refine gz ?_
 exact fe1 trivial
theorem Ur(p:BProg)(a b c:List Str)(n:Nat)(V:Sig)(hn:n<b.length)(ha:b.length<=1073741824):DCall prog 139 [dI n,cSp p a b c] V (rS (.str ((b[n]?).getD [])) V):=by
 have hc:cSp p a b c=.cptr [.cptr [sl (p.classes.map Ae),dI p.slots,sl (cI p.gens),sl (p.methods.map Aq),sl (p.nodes.map Ai),dI p.main,sl (cS a),sl (cS b),sl (cS c)] 0] 0:=rfl
 have hg:(b[n]?).getD []=b[n]:=by rw[List.getElem?_eq_getElem hn];rfl
 rw[hc,hg]
 refine en func139 ntmps139 ?_
 refine gz ?_
 exact fe1 trivial
theorem TK(p:BProg)(a b c:List Str)(n:Nat)(V:Sig)(hn:n<b.length)(ha:b.length<=1073741824):DCall prog 216 [dI n,cSp p a b c] V (rS (.str ((b[n]?).getD [])) V):=by
 have hc:cSp p a b c=.cptr [.cptr [sl (p.classes.map Ae),dI p.slots,sl (cI p.gens),sl (p.methods.map Aq),sl (p.nodes.map Ai),dI p.main,sl (cS a),sl (cS b),sl (cS c)] 0] 0:=rfl
 have hg:(b[n]?).getD []=b[n]:=by rw[List.getElem?_eq_getElem hn];rfl
 rw[hc,hg]
 refine en func216 ntmps216 ?_
 refine gz ?_
 exact fe1 trivial
theorem Up(p:BProg)(a b c:List Str)(n:Nat)(v:Int)(V:Sig)(hn:n<b.length)(ha:b.length<=1073741824):DCall prog 141 [.agg [dI n,dI v],cSp p a b c] V (rS (.agg (D5 ⟨(b[n]?).getD [],v⟩)) V):=by
 have hc:cSp p a b c=.cptr [.cptr [sl (p.classes.map Ae),dI p.slots,sl (cI p.gens),sl (p.methods.map Aq),sl (p.nodes.map Ai),dI p.main,sl (cS a),sl (cS b),sl (cS c)] 0] 0:=rfl
 have hg:(b[n]?).getD []=b[n]:=by rw[List.getElem?_eq_getElem hn];rfl
 rw[hc,hg]
 refine en func141 ntmps141 ?_
 refine gz ?_ o141
 refine newV (fun i hi =>?_)
 refine gz ?_ o141
 exact finC (S':=V) ⟨rfl,rfl⟩
def ixS(l:List Str)(n:Int):Str:=(l[n.toNat]?).getD []
def InR(n:Int)(k:Nat):Prop:=0<=n/\n<k
def spC(a b:List Str)(c:BClass):FClass:=⟨[],c.parents.map (ixS a),c.slots.map (ixS b),c.inits.map fun x=>⟨ixS b x.slot,x.n⟩⟩
def ClsIx(A S:Nat)(c:BClass):Prop:=(∀x∈c.parents,InR x A)/\(∀x∈c.slots,InR x S) /\ ∀x∈c.inits,InR x.slot S
theorem Ut(p:BProg)(a b g:List Str)(c:BClass)(V:Sig)(hc:ClsIx a.length b.length c)(ha:a.length<=1073741824)(hb:b.length<=1073741824)(hw:c.wt<=1073741824):
  DCall prog 136 [.agg (Ae c),cSp p a b g] V (rS (.agg (cFClass (spC a b c))) V):=by
 have hwc:c.parents.length<=1073741824/\c.slots.length<=1073741824/\c.inits.length<=1073741824:=by unfold BClass.wt at hw;omega
 obtain⟨c1,c2,c3⟩:=hwc
 obtain⟨x1,x2,x3⟩:=hc
 have h1:=fun (V:Sig)=>JE c.parents (ixS a) 138 [cSp p a b g] .no V c1 (fun x hx S' _=>by
  obtain⟨h0,h1⟩:=x1 x hx
  obtain⟨n,rfl⟩:∃n:Nat,x=n:=⟨x.toNat,by omega⟩
  exact Us p a b g n S' (by omega) ha)
 have h2:=fun (V:Sig)=>JE c.slots (ixS b) 139 [cSp p a b g] .no V c2 (fun x hx S' _=>by
  obtain⟨h0,h1⟩:=x2 x hx
  obtain⟨n,rfl⟩:∃n:Nat,x=n:=⟨x.toNat,by omega⟩
  exact Ur p a b g n S' (by omega) hb)
 have h3:=fun (V:Sig)=>Uq c.inits (fun x=>⟨ixS b x.slot,x.n⟩) 141 [cSp p a b g] .no V c3 (fun x hx S' _=>by
  obtain⟨s,v⟩:=x
  obtain⟨h0,h1⟩:=x3 _ hx
  obtain⟨n,rfl⟩:∃n:Nat,s=n:=⟨s.toNat,by simp only at h0;omega⟩
  exact Up p a b g n v S' (by simp only at h1;omega) hb)
 refine en func136 ntmps136 ?_
 refine gz ?_ o136
 refine newV (fun i hi =>?_)
 repeat' first|refine gz ?_|refine moR (h1 _) ?_|refine moP (h1 _) ?_|refine moR (h3 _) ?_|refine moP (h3 _) ?_|refine gz ?_ o136|apply gy<;>intro hh
 repeat' first|refine gz ?_|refine moR (h2 _) ?_|refine moP (h2 _) ?_|refine moR (h3 _) ?_|refine moP (h3 _) ?_|refine gz ?_ o136|apply gy<;>intro hh
 exact finC (S':=V) ⟨rfl,rfl⟩ (hw:=by refine AS ?_;simp[spC])
mutual
def FIx(A S P:Nat):Fact->Prop
 |.mk o g p c _ k=>(∀x∈p,InR x S)/\(o=2->InR c A)/\(o=2\/o=3\/o=4->InR g P)/\FIxs A S P k
def FIxs(A S P:Nat):List Fact->Prop
 |[]=>True
 |x::r=>FIx A S P x/\FIxs A S P r
end
theorem Gg{A S P:Nat}: ∀{l:List Fact},FIxs A S P l->∀x∈l,FIx A S P x
 |[],_,x,hx=>by simp at hx
 |y::r,h,x,hx=>by
  rw[FIxs]at h
  rcases List.mem_cons.1 hx with rfl|hx
  ·exact h.1
  ·exact Gg h.2 x hx
mutual
def spF(a b P:List Str):Fact->FFact
 |.mk o g p c n k => .mk o (if o=2\/o=3\/o=4 then ixS P g else []) (p.map (ixS b)) (if o=2 then ixS a c else []) n (spFs a b P k)
def spFs(a b P:List Str):List Fact->List FFact
 |[]=>[]
 |x::r=>spF a b P x::spFs a b P r
end
theorem P1(a b P:List Str): ∀l,spFs a b P l=l.map (spF a b P)
 |[]=>by rw[spFs];rfl
 |x::r=>by rw[spFs,P1 a b P r];rfl
theorem WJ(a b P:List Str)(f:Fact):spF a b P f=.mk f.op (if f.op=2\/f.op=3\/f.op=4 then ixS P f.arg else []) (f.path.map (ixS b)) (if f.op=2 then ixS a f.cls else []) f.n (f.kids.map (spF a b P)):=by
 cases f;rw[spF,P1];rfl
theorem BP{l:List Str}{n:Int}(h:InR n l.length): ∃k:Nat,n=k /\ ∃hk:k<l.length,ixS l n=l[k]:=by
 obtain⟨h0,h1⟩:=h
 refine⟨n.toNat,by omega,by omega,?_⟩
 unfold ixS;rw[List.getElem?_eq_getElem (by omega)];rfl
theorem Un(p:BProg)(a b g P:List Str)(ha:a.length<=1073741824)(hb:b.length<=1073741824)(hP:P.length<=1073741824): ∀(n:Nat) (f:Fact) (o:Own) (V:Sig),f.wt<=n->n<=1073741824->FIx a.length b.length P.length f->
  DCall prog 143 [.cptr [sl (p.classes.map Ae),dI p.slots,sl (cI p.gens),sl (p.methods.map Aq),sl (p.nodes.map Ai),dI p.main,sl (cS a),sl (cS b),sl (cS g)] 0,.agg (Bp f),.slice (cS P) o] V (rS (.agg (AM (spF a b P f))) V):=by
 intro n
 induction n with
 |zero =>
  intro f o V hx
  have:=f.wt_pos
  omega
 | succ n ih =>
  intro f o V hx hn hI
  obtain⟨w1,w2,hw3⟩:=f.wt_le
  have hpl:f.path.length<=1073741824:=by omega
  obtain⟨i1,i2,i3,i4⟩:(∀x∈f.path,InR x b.length)/\(f.op=2->InR f.cls a.length)/\(f.op=2\/f.op=3\/f.op=4->InR f.arg P.length)/\FIxs a.length b.length P.length f.kids:=by cases f;rw[FIx]at hI;exact hI
  have hsp:=WJ a b P f
  have hcs:D.cptr [.cptr [sl (p.classes.map Ae),dI p.slots,sl (cI p.gens),sl (p.methods.map Aq),sl (p.nodes.map Ai),dI p.main,sl (cS a),sl (cS b),sl (cS g)] 0] 0=cSp p a b g:=rfl
  have h137:=fun (V:Sig)=>JE f.path (ixS b) 216 [cSp p a b g] .no V hpl (fun x hx S' _=>by
   obtain⟨k,rfl,hk,_⟩:=BP (i1 x hx)
   exact TK p a b g k S' hk hb)
  have h218:∀x∈f.kids, ∀S',DCall prog 218 ([]++[.agg (Bp x)]++[cSp p a b g,.cptr [.slice (cS P) o] 0]) S' fun r S''=>r=.ret (.agg (AM (spF a b P x)))/\S''=S':=fun x hx S'=>by
   have h143:=ih x o S' (by obtain⟨k,hk,rfl⟩:=List.getElem_of_mem hx;have:=hw3 k hk;omega) (by omega) (Gg i4 x hx)
   have hc2:cSp p a b g=.cptr [.cptr [sl (p.classes.map Ae),dI p.slots,sl (cI p.gens),sl (p.methods.map Aq),sl (p.nodes.map Ai),dI p.main,sl (cS a),sl (cS b),sl (cS g)] 0] 0:=rfl
   rw[hc2]
   refine en func218 ntmps218 ?_
   refine gz ?_
   refine newV (fun i hi =>?_)
   repeat' first|refine gz ?_|refine Ax (ih x o _ (by obtain⟨k,hk,rfl⟩:=List.getElem_of_mem hx;have:=hw3 k hk;omega) (by omega) (Gg i4 x hx)) ?_|refine callP (ih x o _ (by obtain⟨k,hk,rfl⟩:=List.getElem_of_mem hx;have:=hw3 k hk;omega) (by omega) (Gg i4 x hx)) ?_|refine gz ?_|apply gy<;>intro hh
   exact finC (S':=S') ⟨rfl,rfl⟩
  have h217:=fun (V:Sig)=>TJ f.kids (spF a b P) 218 [cSp p a b g,.cptr [.slice (cS P) o] 0] .no V (by omega) (fun x hx S' _=>h218 x hx S')
  refine en func143 ntmps143 ?_
  refine gz ?_ o143
  refine newV (fun i6 hi6 =>?_)
  refine gz ?_ (delO 1 o143)
  refine mixL (id:=1) [0,1,2,3,4,5,6,7,8,9] [9] ?_
  refine gz ?_ o143
  refine Vv (fun S' _=>(h137 S').mono fun x S'' hx=>⟨hx.1,hx.2 ▸ Sub.refl _⟩) ?_
  refine gz ?_ o143
  refine MN (fun i7 hi7 =>?_)
  have n67:i6≠i7:=fun e=>by rw[<-e,w7]at hi7;cases hi7
  by_cases h2:f.op=2
  ·obtain⟨k,hk,hkl,hgk⟩:=BP (i3 (.inl h2))
   obtain⟨k',hk',hkl',hgk'⟩:=BP (i2 h2)
   repeat' first|refine gf (gi h2 (gi hk hk')) ?_|refine Ax (h217 _) ?_|refine callP (h217 _) ?_|refine gf (gi h2 (gi hk hk')) ?_ o143|apply gy<;>intro hh
   exact finC (S':=V) ⟨rfl,rfl⟩ (hZ:=(((Sub.refl _).set hi6).set (A4 hi7).2).set hi6) (hw:=by rw[hsp];refine AS ?_;simp[Cv,FFact.op,FFact.name,FFact.path,FFact.cls,FFact.n,FFact.kids,h2,hgk,hgk'])
  by_cases h3:f.op=3
  ·obtain⟨k,hk,hkl,hgk⟩:=BP (i3 (.inr (.inl h3)))
   repeat' first|refine gf (gi h3 hk) ?_|refine Ax (h217 _) ?_|refine callP (h217 _) ?_|refine gf (gi h3 hk) ?_ o143|apply gy<;>intro hh
   exact finC (S':=V) ⟨rfl,rfl⟩ (hZ:=(((Sub.refl _).set hi6).set (A4 hi7).2).set hi6) (hw:=by rw[hsp];refine AS ?_;simp[Cv,FFact.op,FFact.name,FFact.path,FFact.cls,FFact.n,FFact.kids,h3,hgk])
  by_cases h4:f.op=4
  ·obtain⟨k,hk,hkl,hgk⟩:=BP (i3 (.inr (.inr h4)))
   repeat' first|refine gf (gi h4 hk) ?_|refine Ax (h217 _) ?_|refine callP (h217 _) ?_|refine gf (gi h4 hk) ?_ o143|apply gy<;>intro hh
   exact finC (S':=V) ⟨rfl,rfl⟩ (hZ:=(((Sub.refl _).set hi6).set (A4 hi7).2).set hi6) (hw:=by rw[hsp];refine AS ?_;simp[Cv,FFact.op,FFact.name,FFact.path,FFact.cls,FFact.n,FFact.kids,h4,hgk])
  repeat' first|refine gf (gi h2 (gi h3 h4)) ?_|refine Ax (h217 _) ?_|refine callP (h217 _) ?_|refine gf (gi h2 (gi h3 h4)) ?_ o143|apply gy<;>intro hh
  exact finC (S':=V) ⟨rfl,rfl⟩ (hZ:=(((Sub.refl _).set hi6).set (A4 hi7).2).set hi6) (hw:=by rw[hsp];refine AS ?_;simp[Cv,FFact.op,FFact.name,FFact.path,FFact.cls,FFact.n,FFact.kids,h2,h3,h4])
end Go.DL
