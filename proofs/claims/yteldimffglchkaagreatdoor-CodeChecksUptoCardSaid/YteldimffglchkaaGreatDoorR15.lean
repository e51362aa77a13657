/- A part of the proof. -/
import Derived.Test.YteldimffglchkaaGreatDoorR14
import Derived.Test.YteldimffglchkaaGreatDoorR12
import Derived.Test.YteldimffglchkaaGreatDoorR13
import Derived.Test.YteldimffglchkaaGreatDoorR07
set_option linter.all false
namespace Go.DL
open Go.Proofs.Tryz
open Go Go.Proofs
set_option maxHeartbeats 8000000
def B6(f:Int->Int->List Int->Bool×List Int)(x:BNode)(size:Int):Nat->List Int->List Int->Bool×List Int
 |_,[],s=>(true,s)
 |j,c::r,s=>match f c (if x.op=9/\j=1 then size+1 else size) s with
  |(false,s')=>(false,s')
  |(true,s')=>B6 f x size (j+1) r s'
def Aa(p:BProg)(n:Int):BNode:=(p.nodes[n.toNat]?).getD ⟨0,0,[]⟩
def Bx(p:BProg)(inM:Bool):Nat->Int->Int->List Int->Bool×List Int
 |0,_,_,s=>(false,s)
 |k+1,node,size,s=>
  if node<0\/(p.nodes.length:Int)<=node\/0<=s.getD node.toNat 0 then(false,s) else
  if((Aa p node).kids.length:Int)≠BQ p (Aa p node)\/C6 p (Aa p node) size=false\/((Aa p node).op=18/\inM=false) then(false,s.set node.toNat size) else
  B6 (Bx p inM k) (Aa p node) size 0 (Aa p node).kids (s.set node.toNat size)
theorem Ff{f:Int->Int->List Int->Bool×List Int}{x:BNode}{size:Int}(hf:∀c z s,(f c z s).2.length=s.length): ∀(j:Nat) (l s:List Int),(B6 f x size j l s).2.length=s.length
 |_,[],_=>rfl
 |j,c::r,s=>by
  rw[B6]
  have h:=hf c (if x.op=9/\j=1 then size+1 else size) s
  split
  ·rename_i s' e;rw[e]at h;exact h
  ·rename_i s' e;rw[e]at h;rw[Ff hf];exact h
theorem Ce(p:BProg)(inM:Bool): ∀(k:Nat) (node size:Int) (s:List Int),(Bx p inM k node size s).2.length=s.length
 |0,_,_,_=>rfl
 | k+1,node,size,s=>by
  rw[Bx]
  split
  ·rfl
  ·split
   ·simp
   ·rw[Ff (Ce p inM k),List.length_set]
def rowI(s:List Int)(rest:List D):List D:=s.map dI++rest
@[simp] theorem rowI_length(s:List Int)(rest:List D):(rowI s rest).length=s.length+rest.length:=by simp[rowI]
@[simp] theorem rowI_get(s:List Int)(rest:List D)(k:Nat)(h:k<s.length):(rowI s rest)[k]? = some (dI s[k]):=by
 unfold rowI;rw[List.getElem?_append_left (by simpa using h),List.getElem?_map,List.getElem?_eq_getElem h];rfl
@[simp] theorem rowI_put(s:List Int)(rest:List D)(k:Nat)(v:Int)(h:k<s.length):(rowI s rest).take k ++ .int .i64 v::(rowI s rest).drop (k+1)=rowI (s.set k v) rest:=by
 unfold rowI
 rw[List.take_append_of_le_length (by simp;omega),List.drop_append_of_le_length (by simp;omega),<-List.map_take,<-List.map_drop,List.set_eq_take_append_cons_drop,if_pos h]
 simp[dI]
theorem Sig.set_self(O:Sig){i:Nat}{o:DObj}(h:O i=some o):O.set i o=O:=by
 funext k;simp only[Sig.set];split
 ·rename_i e;rw[e,h]
 ·rfl
theorem EB (p:BProg) (k:Nat) (node size:Int) (inM:Bool) (i cap:Nat) (s:List Int) (rest:List D) (O:Sig) (hk:k<=13) (hi:O i=some (.cells (rowI s rest))) (hs:s.length=p.nodes.length) (hsz:0<=size/\size+k<=1073741824) (hp:p.wt<=1073741824) :
  DCall prog 147 [.agg (Ad p),dI node,dI size,dI (13-(k:Int)),.bool inM,.sref i 0 p.nodes.length cap] O fun x U'=>x=.ret (.bool (Bx p inM k node size s).1)/\U'=O.set i (.cells (rowI (Bx p inM k node size s).2 rest)):=by
 obtain⟨p1,p2,p3,p4,p5,p6,p7⟩:=p.wt_le
 refine en func147 ntmps147 ?_
 by_cases h1:node<0\/(p.nodes.length:Int)<=node
 ·have hW:Bx p inM k node size s=(false,s):=by
   cases k with
   |zero=>rfl
   |succ k=>rw[Bx,if_pos (by rcases h1 with h|h;exact .inl h;exact .inr (.inl h))]
  rw[hW,Sig.set_self O hi]
  rcases h1 with h1|h1
  ·refine gz ?_ o147
   exact fe1 trivial
  ·refine gz ?_ o147
   exact fe1 trivial
 ·obtain ⟨q,rfl⟩ : ∃ q:Nat,node=(q:Int):=⟨node.toNat,by omega⟩
  have hq:q<p.nodes.length:=by omega
  have bk:q<s.length:=by omega
  have aJ:((q:Int)).toNat=q:=by omega
  have ax:s.getD ((q:Int)).toNat 0=s[q]:=by rw[aJ,List.getD_eq_getElem?_getD,List.getElem?_eq_getElem bk];rfl
  by_cases h2:0<=s[q]
  ·have hW:Bx p inM k q size s=(false,s):=by
    cases k with
    |zero=>rfl
    |succ k=>rw[Bx,if_pos (.inr (.inr (by rw[ax];exact h2)))]
   rw[hW,Sig.set_self O hi]
   refine gf hi ?_ o147
   exact fe1 trivial
  ·cases k with
   |zero=>
    rw[Bx,Sig.set_self O hi]
    refine gf hi ?_ o147
    exact fe1 trivial
   | succ k =>
    rw[Bx,if_neg (by rw[ax];omega)]
    have aK:Aa p q=p.nodes[q]:=by unfold Aa;rw[aJ,List.getElem?_eq_getElem hq];rfl
    rw[aK,aJ]
    generalize hx:p.nodes[q]=x
    have bt:x.kids.length<=1073741824:=by
     have:=p7 q hq
     rw[hx]at this
     have aG:x.wt=1+x.kids.length:=rfl
     omega
    have ai:=SC p x size (O.set i (.cells (rowI (s.set q size) rest))) (by omega) (by omega)
    by_cases aQ:(x.kids.length:Int)=BQ p x
    ·cases ba:C6 p x size with
     |false=>
      rw[if_pos (.inr (.inl rfl))]
      rw[ba]at ai
      have i182:=Ans.of ai
      refine gf (gi hi hx) ?_ o147
      exact fe1 trivial
     | true =>
      rw[ba]at ai
      have i182:=Ans.of ai
      by_cases aA:x.op=18/\inM=false
      ·rw[if_pos (.inr (.inr aA))]
       obtain⟨aA,rfl⟩:=aA
       refine gf (gi hi hx) ?_ o147
       exact fe1 trivial
      ·rw [if_neg (by simp [aQ,aA])]
       by_cases aT:x.op=18
       ·obtain rfl:inM=true:=by cases inM;exact absurd ⟨aT,rfl⟩ aA;rfl
        refine gf (gi hi hx) ?_ o147
        refine BZ [2,3,4,5,6,13] (fun (j:Nat) (s':List Int)=>j<=x.kids.length/\s'.length=s.length/\B6 (Bx p true k) x size 0 x.kids (s.set q size)=B6 (Bx p true k) x size j (x.kids.drop j) s') (fun j _=>[(14,dI j)]) (fun _ s'=>O.set i (.cells (rowI s' rest))) (fun j _=>x.kids.length-j) (0) (s.set q size) (by simp) (fun j s' hI=>?_)
        obtain⟨hj,bj,hR⟩:=hI
        have e13:(13:Int)-((k:Int)+1)+1=13-k:=by omega
        by_cases ac:j<x.kids.length
        ·rw[A5 ac,B6]at hR
         rw[if_neg (by omega)]at hR
         refine gf hi ?_ (delO 13 o147)
         refine Fx (id:=13) [0,1,2,3,4,5,6,7,8,9,10,11,12] [11] (fun _=>none) (fun _ _ h=>by cases h) ?_
         refine gf (gi hi e13) ?_ (delO 13 o147)
         refine Bd (EB p k (x.kids[j]) (size) true i cap s' rest _ (by omega) (w6 ..) (by omega) ⟨by omega,by omega⟩ hp) (fun d U' hx=>?_) (fun d U' hx=>by cases hx.1)
         obtain⟨ae,rfl⟩:=hx
         cases ae
         rw[w8]
         refine⟨fun _ _ h=>(by cases h),?_⟩
         simp only[putD]
         have aa:=Ce p true k x.kids[j] (size) s'
         rcases hr:Bx p true k (x.kids[j]) (size) s' with⟨b,s2⟩
         rw[hr]at hR aa
         simp only at aa
         cases b with
         |false=>
          simp only at hR
          rw[hR]
          refine gz ?_ (delO 13 o147)
          exact fe1 trivial
         |true=>
          simp only at hR
          refine gz ?_ (delO 13 o147)
          exact⟨j+1,s2,⟨by omega,by omega,hR⟩,td1,wkR⟩
        ·rw[A9 ac,B6]at hR
         rw[hR]
         refine gz ?_ o147
         exact fe1 trivial
       ·refine gf (gi hi hx) ?_ o147
        refine BZ [2,3,4,5,6,13] (fun (j:Nat) (s':List Int)=>j<=x.kids.length/\s'.length=s.length/\B6 (Bx p inM k) x size 0 x.kids (s.set q size)=B6 (Bx p inM k) x size j (x.kids.drop j) s') (fun j _=>[(14,dI j)]) (fun _ s'=>O.set i (.cells (rowI s' rest))) (fun j _=>x.kids.length-j) (0) (s.set q size) (by simp) (fun j s' hI=>?_)
        obtain⟨hj,bj,hR⟩:=hI
        have e13:(13:Int)-((k:Int)+1)+1=13-k:=by omega
        by_cases ac:j<x.kids.length
        ·rw [A5 ac,B6] at hR
         by_cases h9:x.op=9/\j=1
         ·rw[if_pos h9]at hR
          refine gf hi ?_ (delO 13 o147)
          refine Fx (id:=13) [0,1,2,3,4,5,6,7,8,9,10,11,12] [11] (fun _=>none) (fun _ _ h=>by cases h) ?_
          refine gf (gi hi e13) ?_ (delO 13 o147)
          refine Bd (EB p k (x.kids[j]) (size+1) inM i cap s' rest _ (by omega) (w6 ..) (by omega) ⟨by omega,by omega⟩ hp) (fun d U' hx=>?_) (fun d U' hx=>by cases hx.1)
          obtain⟨ae,rfl⟩:=hx
          cases ae
          rw[w8]
          refine⟨fun _ _ h=>(by cases h),?_⟩
          simp only[putD]
          have aa:=Ce p inM k x.kids[j] (size+1) s'
          rcases hr:Bx p inM k (x.kids[j]) (size+1) s' with⟨b,s2⟩
          rw[hr]at hR aa
          simp only at aa
          cases b with
          |false=>
           simp only at hR
           rw[hR]
           refine gz ?_ (delO 13 o147)
           exact fe1 trivial
          |true=>
           simp only at hR
           refine gz ?_ (delO 13 o147)
           exact⟨j+1,s2,⟨by omega,by omega,hR⟩,td1,wkR⟩
         ·rw[if_neg h9]at hR
          by_cases bd:x.op=9
          ·have ap:¬j=1:=fun h=>h9 ⟨bd,h⟩
           refine gf (gi hi (gi ap bd)) ?_ (delO 13 o147)
           refine Fx (id:=13) [0,1,2,3,4,5,6,7,8,9,10,11,12] [11] (fun _=>none) (fun _ _ h=>by cases h) ?_
           refine gf (gi hi e13) ?_ (delO 13 o147)
           refine Bd (EB p k (x.kids[j]) (size) inM i cap s' rest _ (by omega) (w6 ..) (by omega) ⟨by omega,by omega⟩ hp) (fun d U' hx=>?_) (fun d U' hx=>by cases hx.1)
           obtain⟨ae,rfl⟩:=hx
           cases ae
           rw[w8]
           refine⟨fun _ _ h=>(by cases h),?_⟩
           simp only[putD]
           have aa:=Ce p inM k x.kids[j] (size) s'
           rcases hr:Bx p inM k (x.kids[j]) (size) s' with⟨b,s2⟩
           rw[hr]at hR aa
           simp only at aa
           cases b with
           |false=>
            simp only at hR
            rw[hR]
            refine gz ?_ (delO 13 o147)
            exact fe1 trivial
           |true=>
            simp only at hR
            refine gz ?_ (delO 13 o147)
            exact⟨j+1,s2,⟨by omega,by omega,hR⟩,td1,wkR⟩
          ·refine gf hi ?_ (delO 13 o147)
           refine Fx (id:=13) [0,1,2,3,4,5,6,7,8,9,10,11,12] [11] (fun _=>none) (fun _ _ h=>by cases h) ?_
           refine gf (gi hi e13) ?_ (delO 13 o147)
           refine Bd (EB p k (x.kids[j]) (size) inM i cap s' rest _ (by omega) (w6 ..) (by omega) ⟨by omega,by omega⟩ hp) (fun d U' hx=>?_) (fun d U' hx=>by cases hx.1)
           obtain⟨ae,rfl⟩:=hx
           cases ae
           rw[w8]
           refine⟨fun _ _ h=>(by cases h),?_⟩
           simp only[putD]
           have aa:=Ce p inM k x.kids[j] (size) s'
           rcases hr:Bx p inM k (x.kids[j]) (size) s' with⟨b,s2⟩
           rw[hr]at hR aa
           simp only at aa
           cases b with
           |false=>
            simp only at hR
            rw[hR]
            refine gz ?_ (delO 13 o147)
            exact fe1 trivial
           |true=>
            simp only at hR
            refine gz ?_ (delO 13 o147)
            exact⟨j+1,s2,⟨by omega,by omega,hR⟩,td1,wkR⟩
        ·rw[A9 ac,B6]at hR
         rw[hR]
         refine gz ?_ o147
         exact fe1 trivial
    ·rw[if_pos (.inl aQ)]
     refine gf (gi hi hx) ?_ o147
     exact fe1 trivial
termination_by k
mutual
theorem Fact.size_le: ∀f:Fact,f.size<=f.wt
 |.mk o a p c n k=>by
  have:=Fact.sizes_le k
  rw[Fact.size,Fact.wt];omega
theorem Fact.sizes_le: ∀l:List Fact,Fact.sizes l<=Fact.wts l
 |[]=>Nat.le_refl _
 |f::l=>by
  have h1:=Fact.size_le f
  have h2:=Fact.sizes_le l
  rw[Fact.sizes,Fact.wts];omega
end
def DQ(w:World)(f:Fact):Bool:=decide (f.cnt 24<=24)&&decide (f.depth<=12)&&IR w f
theorem T7(w:World)(f:Fact)(O:Sig)(hw:w.parents.length<=1073741824:=by exact sd)(bw:w.owner.length<=1073741824:=by exact sd)(hf:f.wt<=1073741824:=by exact sd):
  DCall prog 145 [.agg (DW w),.agg (Cc f)] O (rS (.bool (DQ w f)) O):=by
 have hsz:=Fact.size_le f
 refine en func145 ntmps145 ?_
 repeat' first|refine gz ?_|apply gy<;>intro hh
 any_goals (first|(refine fin1 (U':=O) ?_;exact⟨by first|rfl|(simp[DQ];done)|(simp_all [DQ];done)|(rw[Ac,Bool.eq_iff_iff];simp_all [DQ]<;>omega),rfl⟩)|fail)
def F8(p:BProg)(m:BMeth):Bool:=decide (1<=m.kind/\m.kind<=4)&&decide (0<=m.gen/\m.gen<p.gens.length)&&DQ (Bp p) m.fact&&decide (m.fact.speaks<=p.gens.getD m.gen.toNat 0)
def CA(p:BProg):List BMeth->List Int->Bool×List Int
 |[],s=>(true,s)
 | m::r,s=>if F8 p m then (match Bx p (decide (m.kind=1) || decide (m.kind=4)) 12 m.node (p.gens.getD m.gen.toNat 0) s with
   |(false,s')=>(false,s')
   |(true,s')=>CA p r s') else(false,s)
def Ks(p:BProg):Bool:=AE p&&decide (p.gens.length<=8)&&decide (p.methods.length<=16)&&decide (1<=p.nodes.length)&&decide (p.nodes.length<=120)
def Fd(p:BProg):Option (List Int):=
 if Ks p&&p.gens.all (fun g=>decide (1<=g/\g<=3)) then
  match CA p p.methods (List.replicate p.nodes.length (-1))with
  |(false,_)=>none
  |(true,s)=>match Bx p false 12 p.main 0 s with
   |(false,_)=>none
   |(true,s2)=>if s2.all (fun n=>decide (0<=n)) then some s2 else none
 else none
theorem G4(s:List Int):(cI s).flatten=s.map dI:=by
 induction s with
 |nil=>rfl
 |cons x s ih=>rw[show cI (x::s)=[dI x]::cI s from rfl,List.flatten_cons,ih];rfl
theorem QZ(O:Sig)(i cap:Nat)(rest:List D)(s:List Int):mS O (some (i,cap,rest)) (cI s)=O.set i (.cells (rowI s rest)):=by simp only[mS,rowI,G4]
theorem mOK_len{O:Sig}{st:MR}{s s':List Int}(h:mOK O 1 st (cI s))(hs:s'.length=s.length):mOK O 1 st (cI s'):=by
 cases st with
 |none=>
  have:cI s=[]:=h
  have:s=[]:=by simpa[cI] using this
  subst this
  have:s'=[]:=List.length_eq_zero_iff.1 hs
  subst this;rfl
 |some x=>
  obtain⟨i,cap,rest⟩:=x
  obtain⟨m1,m2,m3,m4⟩:=h
  refine⟨m1,?_,by simpa[hs] using m3,C2 _⟩
  rw[G4]at m2⊢
  simpa[hs] using m2
theorem Vj (p:BProg) (O:Sig) (hp:p.wt<=1073741824:=by exact sd) :
  DCall prog 67 [.agg (Ad p)] O (rS (.tup [sl (cI ((Fd p).getD [])),.bool (Fd p).isSome]) O):=by
 obtain⟨p1,p2,p3,p4,p5,p6,p7⟩:=p.wt_le
 have ws:=Dr p
 have ah:∀c∈p.classes,c.parents.length<=1073741824/\c.slots.length<=1073741824:=fun c hc=>by
  obtain⟨k,hk,rfl⟩:=List.getElem_of_mem hc
  have:=p5 k hk
  have aG:(p.classes[k]).wt=1+(p.classes[k]).parents.length+(p.classes[k]).slots.length+(p.classes[k]).inits.length:=rfl
  omega
 have aq:=T8 p O hp
 refine en func67 ntmps67 ?_
 cases aj:Ks p with
 | false =>
  have hL:Fd p=none:=by unfold Fd;rw[aj];rfl
  unfold Ks at aj
  cases hc:AE p with
  |false=>
   rw[hc]at aq
   have i1:=Ans.of aq
   try refine gz ?_ o67
   exact fe2 (d':=sl []) hL
  | true =>
   rw[hc]at aq aj
   have i1:=Ans.of aq
   by_cases h1:p.gens.length<=8
   ·by_cases h2:p.methods.length<=16
    ·by_cases h3:1<=p.nodes.length
     ·have h4:¬p.nodes.length<=120:=fun h=>by simp[h1,h2,h3,h]at aj
      try refine gz ?_ o67
      exact fe2 (d':=sl []) hL
     ·try refine gz ?_ o67
      exact fe2 (d':=sl []) hL
    ·try refine gz ?_ o67
     exact fe2 (d':=sl []) hL
   ·try refine gz ?_ o67
    exact fe2 (d':=sl []) hL
 | true =>
  have aO:=aj
  unfold Ks at aO
  simp only[Bool.and_eq_true,decide_eq_true_eq]at aO
  obtain⟨⟨⟨⟨hc,h1⟩,h2⟩,h3⟩,h4⟩:=aO
  rw[hc]at aq
  have i1:=Ans.of aq
  try refine gz ?_ o67
  refine BV [1,5,6,7,8,9,10,59,60,61,62,63,64,65,66,67,68,69,70,71,72,73,74,75,76,77,78,79,80,81,82,83,84,85,86,87,88,89,90,91,92,93,94,95,96,97,98,99,100,101,102,103,104,105,106,107,108,109,110,111,112,113,114,115,116,117,118,119,120,121,122,123,124,125,126,127,128,129,130,131,132,133,134,135,136,137,138,139,140,141,142,143,144,145,146,147,148,149,150,151,152,153,154,155] (fun (j:Nat)=>j<=p.gens.length/\p.gens.all (fun g=>decide (1<=g/\g<=3))=(p.gens.drop j).all (fun g=>decide (1<=g/\g<=3))) (fun j=>[(4,dI j)]) (fun _=>O) (fun j=>p.gens.length-j) (0) (by simp) (fun j hI=>?_)
  obtain⟨hj,hJ⟩:=hI
  by_cases ac:j<p.gens.length
  ·rw[A5 ac,List.all_cons]at hJ
   by_cases bM:p.gens[j]<1
   ·have hL:Fd p=none:=by unfold Fd;rw[aj,hJ,decide_eq_false (by omega)];rfl
    try refine gz ?_ o67
    exact fe2 (d':=sl []) hL
   ·by_cases bL:3<p.gens[j]
    ·have hL:Fd p=none:=by unfold Fd;rw[aj,hJ,decide_eq_false (by omega)];rfl
     try refine gz ?_ o67
     exact fe2 (d':=sl []) hL
    ·rw[decide_eq_true (by omega),Bool.true_and]at hJ
     try refine gz ?_ o67
     exact⟨j+1,⟨by omega,hJ⟩,td1,wkR⟩
  ·rw [A9 ac,List.all_nil] at hJ
   have hL:Fd p=match CA p p.methods (List.replicate p.nodes.length (-1))with
    |(false,_)=>none
    |(true,s)=>match Bx p false 12 p.main 0 s with
     |(false,_)=>none
     |(true,s2)=>if s2.all (fun n=>decide (0<=n)) then some s2 else none:=by unfold Fd;rw[aj,hJ];rfl
   try refine gz ?_ o67
   refine BZ [1,2,3,7,8,9,10,69,70,71,72,73,74,75,76,77,78,79,80,81,82,83,84,85,86,87,88,89,90,91,92,93,94,95,96,97,98,99,100,101,102,103,104,105,106,107,108,109,110,111,112,113,114,115,116,117,118,119,120,121,122,123,124,125,126,127,128,129,130,131,132,133,134,135,136,137,138,139,140,141,142,143,144,145,146,147,148,149,150,151,152,153,154,155] (fun (n:Nat) (st:MR)=>n<=p.nodes.length/\mOK O 1 st (cI (List.replicate n (-1)))) (fun n st=>[(6,dI n),(5,mD st n)]) (fun n st=>mS O st (cI (List.replicate n (-1)))) (fun n _=>p.nodes.length-n) (0) (none) (by exact⟨by omega,rfl⟩) (fun n st hI=>?_)
   obtain⟨hn,hm⟩:=hI
   by_cases bF:n<p.nodes.length
   ·have hlen:(cI (List.replicate n (-1))).length=n:=by simp
    have e:cI (List.replicate n (-1))++[[D.int .i64 (-1)]]=cI (List.replicate (n+1) (-1)):=by rw[List.replicate_succ'];simp[cI]
    try refine gz ?_ o67
    refine mapp (new:=[[D.int .i64 (-1)]]) (sz:=1) (h1:=by exact(congrArg (mD st) hlen.symm)) (fun st' ag=>?_) hm
    rw[e]at ag⊢
    rw[hlen]
    try refine gz ?_ o67
    exact⟨n+1,st',⟨by omega,ag⟩,td1,wkR⟩
   ·have hne:n=p.nodes.length:=by omega
    subst hne
    obtain⟨s0,aB⟩:∃s0,s0=List.replicate p.nodes.length (-1:Int):=⟨_,rfl⟩
    have aH:s0.length=p.nodes.length:=by rw[aB];simp
    rw[<-aB]at hm hL⊢
    obtain⟨i,cap,rest,ak⟩:∃i cap rest,st=some (i,cap,rest):=by
     cases st with
     |none=>
      exfalso
      have h:cI s0=[]:=hm
      have h':s0.length=0:=by rw[<-JA s0,h];rfl
      omega
     |some x=>exact⟨_,_,_,rfl⟩
    subst ak
    have hi:O i=none:=hm.1
    rw[QZ,show mD (some (i,cap,rest)) p.nodes.length=.sref i 0 p.nodes.length cap from rfl]
    have bh:(Bp p).parents=p.classes.map (·.parents):=rfl
    have bx:(Bp p).parents.length=p.classes.length:=by rw[bh,List.length_map]
    have bC:(Bp p).owner.length=wtL (fun c:BClass=>c.slots.length) p.classes:=C3 _ _
    repeat' first|refine gz ?_|refine Bg (Ls p _ (by omega) (fun c hc=>(ah c hc).1) (fun c hc=>(ah c hc).2) (by rw[C3];omega)) ?_|refine callP (Ls p _ (by omega) (fun c hc=>(ah c hc).1) (fun c hc=>(ah c hc).2) (by rw[C3];omega)) ?_|refine gz ?_ o67|apply gy<;>intro hh
    refine BZ [1,5,7,10,138,139,140,141,142,143,144,145,146,147,148,149,150,151,152,153,154,155] (fun (j:Nat) (s:List Int)=>j<=p.methods.length/\s.length=p.nodes.length/\CA p p.methods s0=CA p (p.methods.drop j) s) (fun j _=>[(8,dI j)]) (fun _ s=>O.set i (.cells (rowI s rest))) (fun j _=>p.methods.length-j) (0) (s0) (by exact⟨by omega,aH,rfl⟩) (fun j s hI=>?_)
    obtain⟨hj,ar,hM⟩:=hI
    by_cases ac:j<p.methods.length
    ·rw [A5 ac,CA] at hM
     have bf:=p6 j ac
     generalize ag:p.methods[j]=m at hM bf
     have aG:m.wt=1+m.fact.wt:=rfl
     have hsz:=Fact.size_le m.fact
     have ap:=T7 (Bp p) m.fact (O.set i (.cells (rowI s rest))) (by omega) (by omega) (by omega)
     have bp:∀g:Nat,m.gen=g->(hg:g<p.gens.length)->p.gens.getD m.gen.toNat 0=p.gens[g]:=fun g e hg=>by
      rw[e,show((g:Int)).toNat=g by omega,List.getD_eq_getElem?_getD,List.getElem?_eq_getElem hg];rfl
     have bad:F8 p m=false->Fd p=none:=fun h=>by rw[hL,hM,h];rfl
     by_cases k1:1<=m.kind
     ·by_cases k2:m.kind<=4
      ·by_cases g1:0<=m.gen
       ·by_cases g2:m.gen<p.gens.length
        ·obtain⟨g,ay⟩:∃g:Nat,m.gen=g:=⟨m.gen.toNat,by omega⟩
         have aw:g<p.gens.length:=by omega
         have aP:=bp g ay aw
         cases aD:DQ (Bp p) m.fact with
         |false=>
          rw[aD]at ap
          have i1:=Ans.of ap
          have hb:=bad (by unfold F8;rw[aD];simp)
          try refine gf (gi ag ay) ?_ o67
          exact fe2 (d':=sl []) hb
         | true =>
          rw[aD]at ap
          have i1:=Ans.of ap
          by_cases aW:m.fact.speaks<=p.gens[g]
          ·have bl:F8 p m=true:=by unfold F8;rw[aD,aP,decide_eq_true (by omega),decide_eq_true (by omega),decide_eq_true aW];rfl
           rw[bl,if_pos rfl,aP]at hM
           have bq:=List.all_eq_true.1 hJ _ (List.getElem_mem aw)
           simp only[decide_eq_true_eq]at bq
           try refine gf (gi ag ay) ?_ (delO 20 o67)
           refine Fx (id:=20) [0,1,2,3,4,5,6,7,8,9,10,12,11,13,14] [11,13] (fun _=>none) (fun _ _ h=>by cases h) ?_
           have aV:Sub (fun _=>none) (O.set i (.cells (rowI s rest))):=fun _ _ h=>by cases h
           try refine gf ay ?_ (delO 20 o67)
           refine Bd (EB p 12 m.node (p.gens[g]) (decide (m.kind=1)||decide (m.kind=4)) i cap s rest _ (by omega) (w6 ..) ar ⟨by omega,by omega⟩ hp) (fun d U' hx=>?_) (fun d U' hx=>by cases hx.1)
           obtain⟨ae,rfl⟩:=hx
           cases ae
           rw[w8]
           refine⟨fun _ _ h=>(by cases h),?_⟩
           simp only[putD]
           have aa:=Ce p (decide (m.kind=1)||decide (m.kind=4)) 12 m.node (p.gens[g]) s
           rcases hr:Bx p (decide (m.kind=1)||decide (m.kind=4)) 12 m.node (p.gens[g]) s with⟨b,s2⟩
           rw[hr]at hM aa
           simp only at aa
           cases b with
           |false=>
            simp only at hM
            have hb:Fd p=none:=by rw[hL,hM]
            try refine gz ?_ (delO 20 o67)
            exact fe2 (d':=sl []) hb
           |true=>
            simp only at hM
            try refine gz ?_ (delO 20 o67)
            exact⟨j+1,s2,⟨by omega,by omega,hM⟩,td1,wkR⟩
          ·have hb:=bad (by unfold F8;rw[aP,decide_eq_false aW];simp)
           try refine gf (gi ag ay) ?_ o67
           exact fe2 (d':=sl []) hb
        ·have hb:=bad (by unfold F8;rw[decide_eq_false (p:=0<=m.gen/\m.gen<p.gens.length) (by omega)];simp)
         try refine gf ag ?_ o67
         exact fe2 (d':=sl []) hb
       ·have hb:=bad (by unfold F8;rw[decide_eq_false (p:=0<=m.gen/\m.gen<p.gens.length) (by omega)];simp)
        try refine gf ag ?_ o67
        exact fe2 (d':=sl []) hb
      ·have hb:=bad (by unfold F8;rw[decide_eq_false (p:=1<=m.kind/\m.kind<=4) (by omega)];simp)
       try refine gf ag ?_ o67
       exact fe2 (d':=sl []) hb
     ·have hb:=bad (by unfold F8;rw[decide_eq_false (p:=1<=m.kind/\m.kind<=4) (by omega)];simp)
      try refine gf ag ?_ o67
      exact fe2 (d':=sl []) hb
    ·rw [A9 ac,CA] at hM
     rw[hM]at hL
     simp only at hL
     try refine gz ?_ o67
     refine A4 (EB p 12 p.main 0 false i cap s rest _ (by omega) (w6 ..) ar ⟨by omega,by omega⟩ hp) (fun d U' hx=>?_) (fun d U' hx=>by cases hx.1)
     obtain⟨ae,rfl⟩:=hx
     cases ae
     rw[w8]
     simp only[putD]
     have aa:=Ce p false 12 p.main 0 s
     rcases hr:Bx p false 12 p.main 0 s with⟨b,s2⟩
     rw[hr]at hL aa
     simp only at aa
     cases b with
     |false=>
      simp only at hL
      try refine gz ?_ o67
      exact fe2 (d':=sl []) hL
     | true =>
      simp only at hL
      have hm2:mOK O 1 (some (i,cap,rest)) (cI s2):=mOK_len hm (by omega)
      have au:s2.length=p.nodes.length:=by omega
      try refine gz ?_ o67
      rw[<-QZ O i cap]
      refine FL (K0 (t:=5) hm2 (by rw[JA,au];rfl)) ?_
      refine BV [5,155] (fun (j:Nat)=>j<=s2.length/\s2.all (fun n=>decide (0<=n))=(s2.drop j).all (fun n=>decide (0<=n))) (fun j=>[(10,dI j)]) (fun _=>O) (fun j=>s2.length-j) (0) (by simp) (fun j hI=>?_)
      obtain⟨hj,hA⟩:=hI
      by_cases ac:j<s2.length
      ·rw[A5 ac,List.all_cons]at hA
       by_cases h0:0<=s2[j]
       ·rw[decide_eq_true h0,Bool.true_and]at hA
        try refine gz ?_ o67
        exact⟨j+1,⟨by omega,hA⟩,td1,wkR⟩
       ·rw[decide_eq_false h0,Bool.false_and]at hA
        rw[hA]at hL
        try refine gz ?_ o67
        exact fe2 (d':=sl []) hL
      ·rw[A9 ac,List.all_nil]at hA
       rw[hA]at hL
       try refine gz ?_ o67
       exact fe2 (d':=sl (cI s2)) hL
@[reducible,instance] def a67:=fun p O=>ah1 (@Vj p O)
end Go.DL
namespace Go.DL
open Go.Proofs.Tryz
open Go Go.Proofs
set_option maxHeartbeats 4000000
def idxF{α:Type}(q:α->Bool):List α->Nat->Int
 |[],_=> -1
 |x::r,k=>if q x then k else idxF q r (k+1)
theorem Dw{α:Type}(q:α->Bool): ∀(l:List α) (k:Nat),decide (0<=idxF q l k)=l.any q
 |[],_=>rfl
 |x::r,k=>by
  rw[idxF,List.any_cons]
  cases hq:q x
  ·simp only[Bool.false_eq_true,if_false,Bool.false_or];exact Dw q r (k+1)
  ·simp
theorem Mt(l:List Int)(q:Int->Bool)(g:Nat)(cap:List D)(o:Own)(O:Sig)(hl:l.length<=1073741824)
  (hg:∀x∈l,DCall prog g ([]++[dI x]++cap) O fun r S''=>r=.ret (.bool (q x))/\S''=O) :
  DCall prog 230 [.slice (cI l) o,.func (.func g) [] cap] O (rS (dI (idxF q l 0)) O):=by
 refine en func230 ntmps230 ?_
 refine gz ?_
 refine BV [0,1,7] (fun (k:Nat)=>k<=l.length/\idxF q l 0=idxF q (l.drop k) k) (fun k=>[(8,dI k)]) (fun _=>O) (fun k=>l.length-k) (0) td3 (fun k hI=>?_)
 obtain⟨hk,hR⟩:=hI
 by_cases h:k<l.length
 ·rw[A5 h,idxF]at hR
  repeat' first|refine Bg (hg (l[k]) (List.getElem_mem h)) ?_|refine callP (hg (l[k]) (List.getElem_mem h)) ?_|refine gf h ?_|apply gy<;>intro hh
  ·exact fe1 hR
  ·exact⟨k+1,⟨by omega,by rw[hR,hh];rfl⟩,td1,wkR⟩
 ·refine gf h ?_
  (refine fin1 (U':=O) ?_;exact⟨by first|rfl|(simp[hR,A9 h,idxF];done)|(simp_all [hR,A9 h,idxF];done)|(rw[Ac,Bool.eq_iff_iff];simp_all [hR,A9 h,idxF]<;>omega),rfl⟩)
theorem MF(l:List Int)(q:Int->Bool)(g:Nat)(cap:List D)(o:Own)(O:Sig)(hl:l.length<=1073741824)
  (hg:∀x∈l,DCall prog g ([]++[dI x]++cap) O fun r S''=>r=.ret (.bool (q x))/\S''=O) :
  DCall prog 151 [.slice (cI l) o,.func (.func g) [] cap] O (rS (.bool (l.any q)) O):=by
 refine en func151 ntmps151 ?_
 repeat' first|refine gz ?_|refine Bg (Mt l q g cap o O hl hg) ?_|refine callP (Mt l q g cap o O hl hg) ?_|refine gz ?_|apply gy<;>intro hh
 (refine fin1 (U':=O) ?_;exact⟨by first|rfl|(simp[Dw];done)|(simp_all [Dw];done)|(rw[Ac,Bool.eq_iff_iff];simp_all [Dw]<;>omega),rfl⟩)
theorem Mq(i:Nat)(b:Bool)(O:Sig)(hi:O i=some (.cells [.bool b])):LI prog 249 [.ptr i 0] O none O/\LI prog 249 [.ptr i 0] O (some unf) (O.set i (.cells [.bool false])):=by
 constructor
 ·refine OK func249 rfl ntmps249 (by simp) (by decide) (by decide) rfl ?_
  simp only[Option.getD_none]
  repeat' first|refine gz ?_|apply gy<;>intro hh
  exact⟨.inl rfl,rfl,Sub.refl _⟩
 ·refine OK func249 rfl ntmps249 (by simp) (by decide) (by decide) rfl ?_
  simp only[Option.getD_some]
  repeat' first|refine gf hi ?_|apply gy<;>intro hh
  exact⟨.inl rfl,rfl,Sub.refl _⟩
theorem L2{O:Sig}{i:Nat}{o:DObj}:Sub (O.del i) (O.set i o):=fun j x h=>by
 by_cases hj:j=i
 ·subst hj;simp[Sig.del]at h
 ·rw[w7 _ _ hj];simpa[Sig.del,hj] using h
theorem ST(g:Nat)(cap:List D)(O:Sig)(R:Sig->DE->Sig->Prop)
  (hg:∀i,O i=none->DCall prog g cap (O.set i (.cells [.bool false])) (R (O.set i (.cells [.bool false]))))
  (hR:∀U' d S'',R U' (.panic d) S''->d=unf) (hk:∀i S'' x,O i=none->R (O.set i (.cells [.bool false])) x S''->S'' i=some (.cells [.bool false])) :
  DCall prog 194 [.func (.func g) [] cap] O fun x U'=> ∃i S'',O i=none/\U'=S''.del i /\
   ((∃d,R (O.set i (.cells [.bool false])) (.ret d) S''/\x=.ret (.bool true))\/(R (O.set i (.cells [.bool false])) (.panic unf) S''/\x=.ret (.bool false))):=by
 refine Ho (fd:=249) func194 rfl (BT func249 (by rfl) (by rfl)) (by rw[Ah];decide) (by decide) ntmps194 (by simp) ?_
 refine gz ?_ [] [2]
 refine newV (fun i hi=>?_)
 refine gz ?_ [] [2]
 refine KH (f:=249) (by rw[Ah];decide) rfl rfl ?_
 refine gz ?_ [] [2]
 refine A4 (hg i hi) (fun d U' hr=>?_) (fun d U' hp=>?_)
 ·have aC:=hk i U' _ hi hr
  refine gf aC ?_ [] [2]
  refine⟨_,Wk.refl _ _ _,[.ptr i 0],U'.set i (.cells [.bool true]),.bool true,rfl,(Mq i true _ (w6 ..)).1,DI (ds:=[.bool true]) tabOK ?_,.ret (.bool true),U'.del i,Ab _,L2,i,U',hi,rfl,.inl ⟨d,hr,rfl⟩⟩
  simp[resL]
 ·have aC:=hk i U' _ hi hp
  obtain rfl:=hR _ _ _ hp
  refine gz ?_ [] [2]
  refine⟨_,Wk.refl _ _ _,[.ptr i 0],U'.set i (.cells [.bool false]),.bool false,rfl,(Mq i false _ aC).2,DI (ds:=[.bool false]) tabOK ?_,.ret (.bool false),U'.del i,Ab _,L2,i,U',hi,rfl,.inr ⟨hp,rfl⟩⟩
  simp[resL]
end Go.DL
namespace Go.DL
open Go.Proofs.Tryz
open Go Go.Proofs
set_option maxHeartbeats 8000000
theorem Vw(p:BProg)(O:Sig)(hp:p.wt<=1073741824:=by exact sd):
  DCall prog 29 [.agg (Ad p)] O (rS (.bool (Fd p).isSome) O):=by
 refine en func29 ntmps29 ?_
 try refine gz ?_
 exact fe1 trivial
theorem Sv(g:List (List Int))(o:Own)(O:Sig)(hl:g.length<=1073741824:=by exact sd)(aa:∀x∈g,x.length<=1073741824:=by exact sd):
  DCall prog 251 [.slice (cII g) o] O (rS (dI (if Bb g then 0 else 2)) O):=by
 refine en func251 ntmps251 ?_
 cases h:Bb g with
 |false=>
  try refine gf h ?_
  exact fe1 trivial
 |true=>
  try refine gf h ?_
  exact fe1 trivial
@[reducible,instance] def a251:=fun g o O=>ah2 (@Sv g o O)
def B4:Int->List BClass->Option Int
 |n,[]=>some n
 |n,c::r=>if 4<c.slots.length then none else match Cy n c.slots with
  |none=>none
  |some m=>B4 m r
def DO(bb:List Int):List Int->List Init->Bool
 |_,[]=>true
 |seen,x::r=>(decide (x.slot∈bb)&&!decide (x.slot∈seen)&&inB x.n)&&DO bb (seen++[x.slot]) r
def Ba(p:BProg):Nat->List BClass->Bool
 |_,[]=>true
 |i,c::r=>decide (linE (p.classes.map (·.parents)) ((i:Int)+3)=0)&&DO (hasP p ((i:Int)+3)) [] c.inits&&Ba p (i+1) r
def Ax(p:BProg):Bool:=decide (p.classes.length<=10)&&match B4 0 p.classes with
 |none=>false
 |some n=>decide (n=p.slots)&&Bb (p.classes.map (·.parents))&&Ba p 0 p.classes
theorem EU(cs:List BClass): ∀(n:Nat) (up out:List Int),(hasG cs n up out).length<=out.length+wtL (fun c:BClass=>c.slots.length) (cs.take n)
 |0,_,out=>by rw[hasG];omega
 | n+1,up,out=>by
  rw[hasG]
  by_cases h:n<cs.length
  ·rw[List.getElem?_eq_getElem h,Ik _ _ _ h]
   simp only
   split
   ·have:=EU cs n (Gh (cs[n]).parents up) (out++(cs[n]).slots)
    rw[List.length_append]at this;omega
   ·have:=EU cs n up out;omega
  ·rw[List.getElem?_eq_none (by omega)]
   have:=EU cs n up out
   rw[List.take_of_length_le (by omega)]at this⊢
   exact this
theorem CD(p:BProg)(c:Int):(hasP p c).length<=wtL (fun c:BClass=>c.slots.length) p.classes:=by
 unfold hasP
 have h1:=GO (hasG p.classes (c-2).toNat [c] [])
 have h2:=EU p.classes (c-2).toNat [c] []
 have h3:=EJ (fun c:BClass=>c.slots.length) p.classes (c-2).toNat
 simp only[List.length_nil]at h2
 omega
theorem ins_new{k:Int}{s:List Int}(h:k∉s):ins k s=s++[k]:=by unfold ins;rw[if_neg h]
theorem SS (p:BProg) (O:Sig) (hp:p.wt<=1073741824:=by exact sd):DCall prog 196 [.agg (Ad p)] O fun x U'=>x=(if Ax p then .ret (.tup []) else .panic unf)/\U'=O:=by
 obtain⟨p1,p2,p3,p4,p5,p6,p7⟩:=p.wt_le
 have ws:=Dr p
 have ah:∀c∈p.classes,c.parents.length<=1073741824/\c.slots.length<=1073741824/\c.inits.length<=1073741824:=fun c hc=>by
  obtain⟨k,hk,rfl⟩:=List.getElem_of_mem hc
  have:=p5 k hk
  have aG:(p.classes[k]).wt=1+(p.classes[k]).parents.length+(p.classes[k]).slots.length+(p.classes[k]).inits.length:=rfl
  omega
 have bu:∀c∈p.classes,c.parents.length<=1073741824:=fun c hc=>(ah c hc).1
 have bz:∀x∈p.classes.map (·.parents),x.length<=1073741824:=fun x hx=>by obtain⟨c,hc,rfl⟩:=List.mem_map.1 hx;exact(ah c hc).1
 refine en func196 ntmps196 ?_
 by_cases be:p.classes.length<=10
 ·repeat' first|refine gz ?_|apply gy<;>intro hh
  ·refine BZ [1,7,8,9,10,11,12,13,15,22,23,48,49,50,51,52,53,54,55,56,57,58,59,60,61,62,63,64,65,66,67,68,69,70,71,72,73,74,75,76,77,78,79,80,81,82,83,84,85,86,87,88,89,90,91,92,93,94,95,96,97,98,99,100,101,102,103,104,105,106,107,108,109,110,111] (fun (i:Nat) (n:Int)=>i<=p.classes.length/\n=wtL (fun c:BClass=>c.slots.length) (p.classes.take i)/\B4 0 p.classes=B4 n (p.classes.drop i)) (fun i n=>[(24,dI i),(2,dI n)]) (fun _ _=>O) (fun i _=>p.classes.length-i) (0) (0) (by simp[wtL]) (fun i n hI=>?_)
   obtain⟨hi,hn,hR⟩:=hI
   by_cases h:i<p.classes.length
   ·have hx:=ah _ (List.getElem_mem h)
    have hT:=Ik (fun c:BClass=>c.slots.length) p.classes i h
    have bP:=EJ (fun c:BClass=>c.slots.length) p.classes (i+1)
    rw[A5 h,B4]at hR
    by_cases h4:4<(p.classes[i]).slots.length
    ·have hc:B4 0 p.classes=none:=by rw[hR,if_pos h4]
     have hF:Ax p=false:=by unfold Ax;rw[hc];simp
     repeat' first|((with_reducible refine finP (U':=O) ?_);exact⟨by first|(simp[hF];done)|(simp_all [hF];done),rfl⟩)|refine gz ?_|apply gy<;>intro hh
    ·rw[if_neg h4]at hR
     generalize aH:(p.classes[i]).slots=sl' at*
     try refine gf aH ?_
     refine BV [1,4,7,8,9,10,11,12,13,15,22,23,24,25,26,27,28,29,30,31,32,33,34,35,47,48,49,50,51,52,53,54,55,56,57,58,59,60,61,62,63,64,65,66,67,68,69,70,71,72,73,74,75,76,77,78,79,80,81,82,83,84,85,86,87,88,89,90,91,92,93,94,95,96,97,98,99,100,101,102,103,104,105,106,107,108,109,110,111] (fun (q:Nat)=>q<=sl'.length/\Cy n sl'=Cy (n+q) (sl'.drop q)) (fun q=>[(36,dI q),(2,dI (n+q))]) (fun _=>O) (fun q=>sl'.length-q) (0) (by simp) (fun q hI=>?_)
     obtain⟨hq,hQ⟩:=hI
     by_cases aX:q<sl'.length
     ·rw[A5 aX,Cy]at hQ
      have bA:=hx.2.1
      have bm:0<=n:=by omega
      have bD:n<=1073741824:=by omega
      by_cases aI:sl'[q]=n+q
      ·rw[if_pos aI]at hQ
       try refine gf aI ?_
       exact⟨q+1,⟨by omega,by rw[hQ,Int.add_assoc];rfl⟩,td1,wkR⟩
      ·rw[if_neg aI]at hQ
       have hc:B4 0 p.classes=none:=by rw[hR,hQ]
       have hF:Ax p=false:=by unfold Ax;rw[hc];simp
       repeat' first|((with_reducible refine finP (U':=O) ?_);exact⟨by first|(simp[hF];done)|(simp_all [hF];done),rfl⟩)|refine gz ?_|apply gy<;>intro hh
     ·rw[A9 aX,Cy]at hQ
      rw[hQ]at hR
      have bB:q=sl'.length:=by omega
      try refine gz ?_
      exact⟨i+1,n+q,⟨by omega,by rw[hT];omega,hR⟩,td1,wkR⟩
   ·rw [A9 h,B4] at hR
    by_cases hs:n=p.slots
    ·cases hg:Bb (p.classes.map (·.parents))with
     |false=>
      have hF:Ax p=false:=by unfold Ax;rw[hR,hg];simp
      repeat' first|((with_reducible refine finP (U':=O) ?_);exact⟨by first|(simp[hF];done)|(simp_all [hF];done),rfl⟩)|refine gf hg ?_|apply gy<;>intro hh
     | true =>
      have aE:Ax p=Ba p 0 p.classes:=by unfold Ax;rw[hR];simp[hs,hg,be]
      try refine gf hg ?_
      refine BV [1,7,61,62] (fun (j:Nat)=>j<=p.classes.length/\Ba p 0 p.classes=Ba p j (p.classes.drop j)) (fun j=>[(63,dI j)]) (fun _=>O) (fun j=>p.classes.length-j) (0) (by simp) (fun j hI=>?_)
      obtain⟨hj,hJ⟩:=hI
      by_cases h':j<p.classes.length
      ·have hx:=ah _ (List.getElem_mem h')
       have bK:=CD p ((j:Int)+3)
       rw[A5 h',Ba]at hJ
       by_cases hl:linE (p.classes.map (·.parents)) ((j:Int)+3)=0
       ·rw[decide_eq_true hl,Bool.true_and]at hJ
        generalize aY:(p.classes[j]).inits=ins' at hJ hx
        try refine gf (gi aY hl) ?_
        refine newSI (fun im bI=>?_)
        try refine gf aY ?_
        refine BV [1,7,8,9,10,11,12,13,61,62,63,64,65,66,67,68,69,70,71,72,73,74,75,76,77,78,79,80,81,82,83,84,85,111] (fun (k:Nat)=>k<=ins'.length/\DO (hasP p ((j:Int)+3)) [] ins'=DO (hasP p ((j:Int)+3)) ((ins'.take k).map (·.slot)) (ins'.drop k)) (fun k=>[(86,dI k)]) (fun k=>O.set im (.map (eSI ((ins'.take k).map (·.slot))))) (fun k=>ins'.length-k) (0) (by simp) (fun k hI=>?_)
        obtain⟨hk,hK⟩:=hI
        by_cases aN:k<ins'.length
        ·have bJ:=hx.2.2
         rw[A5 aN,DO]at hK
         repeat' first|((with_reducible refine finP (U':=O) ?_);exact⟨by first|(simp[aE,hJ,hK];done)|(simp_all [aE,hJ,hK];done),rfl⟩)|refine gz ?_|apply gy<;>intro hh
         rename_i q1 q2
         have q3:¬ins'[k].slot∈(ins'.take k).map (·.slot):=by simpa using q2
         have q4:(ins'.take (k+1)).map (·.slot)=(ins'.take k).map (·.slot)++[ins'[k].slot]:=by rw[List.take_succ_eq_append_getElem aN,List.map_append];rfl
         have q5:=ins_new q3
         simp only[<-List.map_take,q5,<-q4]
         exact⟨k+1,by refine⟨by omega,?_⟩;rw[hK,hh,decide_eq_true q1,decide_eq_false q3,q4];rfl,td1,wkR⟩
        ·rw[A9 aN,DO]at hK
         rw[hK,Bool.true_and]at hJ
         try refine gz ?_
         exact⟨j+1,⟨by omega,hJ⟩,td1,wkR⟩
       ·rw[decide_eq_false hl,Bool.false_and,Bool.false_and]at hJ
        have hF:Ax p=false:=by rw[aE,hJ]
        repeat' first|((with_reducible refine finP (U':=O) ?_);exact⟨by first|(simp[hF];done)|(simp_all [hF];done),rfl⟩)|refine gz ?_|apply gy<;>intro hh
      ·rw[A9 h',Ba]at hJ
       have hF:Ax p=true:=by rw[aE,hJ]
       try refine gz ?_
       exact fe0 hF
    ·have hF:Ax p=false:=by unfold Ax;rw[hR];simp[hs]
     repeat' first|((with_reducible refine finP (U':=O) ?_);exact⟨by first|(simp[hF];done)|(simp_all [hF];done),rfl⟩)|refine gz ?_|apply gy<;>intro hh
 ·have hF:Ax p=false:=by unfold Ax;rw[decide_eq_false be];rfl
  repeat' first|((with_reducible refine finP (U':=O) ?_);exact⟨by first|(simp[hF];done)|(simp_all [hF];done),rfl⟩)|refine gz ?_|apply gy<;>intro hh
@[reducible,instance] def a196:=fun p O=>gh1 (@SS p O)
theorem Q4{x:Int}(h0:0<=x)(h1:x<18446744073709551616):IntKind.u64.wrap x=x:=by
 have e1:(2:Int) ^ IntKind.u64.bits=18446744073709551616:=by decide
 have e3:IntKind.u64.signed=false:=rfl
 simp only[IntKind.wrap,e1,e3,Bool.false_and,Bool.false_eq_true,if_false]
 omega
theorem andU(n:Nat)(h:n<=1073741824):binD .and (.int .u64 n) (.int .u64 4294967295)=some (.int .u64 n):=by
 simp only[binD,if_true]
 have e:((BitVec.ofInt IntKind.u64.bits (n:Int) &&& BitVec.ofInt IntKind.u64.bits 4294967295).toNat)=n:=by
  rw[BitVec.toNat_and]
  show(BitVec.ofInt 64 (n:Int)).toNat &&& (BitVec.ofInt 64 4294967295).toNat=n
  rw[show(4294967295:Int)=((2 ^ 32-1:Nat):Int) from rfl,BitVec.ofInt_natCast,BitVec.ofInt_natCast,BitVec.toNat_ofNat,BitVec.toNat_ofNat]
  rw[Nat.mod_eq_of_lt (by omega),Nat.mod_eq_of_lt (by omega),Nat.and_two_pow_sub_one_eq_mod,Nat.mod_eq_of_lt (by omega)]
 rw[e,Q4 (by omega) (by omega)]
theorem shrU(k:IntKind)(n:Nat)(h:n<=1073741824):binD .shr (.int .u64 n) (.int k 32)=some (.int .u64 0):=by
 simp only[binD]
 rw[if_pos (by decide)]
 congr 2
 show(n:Int).fdiv (2 ^ 32)=0
 rw[Int.fdiv_eq_ediv_of_nonneg _ (by decide)]
 omega
theorem RY(n:Nat)(O:Sig)(hn:n<=1073741824:=by exact sd):DCall prog 303 [.int .u64 1,.int .u64 n] O (rS (.tup [.int .u64 0,.int .u64 n]) O):=by
 have a1:binD .and (.int .u64 1) (.int .u64 4294967295)=some (.int .u64 1):=andU 1 (by omega)
 have a0:binD .and (.int .u64 0) (.int .u64 4294967295)=some (.int .u64 0):=andU 0 (by omega)
 have an:=andU n hn
 have s1:∀k,binD .shr (.int .u64 1) (.int k 32)=some (.int .u64 0):=fun k=>shrU k 1 (by omega)
 have s0:∀k,binD .shr (.int .u64 0) (.int k 32)=some (.int .u64 0):=fun k=>shrU k 0 (by omega)
 have sn:=fun k=>shrU k n hn
 have wn:IntKind.u64.wrap (n:Int)=n:=Q4 (by omega) (by omega)
 have w0:IntKind.u64.wrap 0=0:=Q4 (by omega) (by omega)
 refine en func303 ntmps303 ?_
 refine gf (gi a1 (gi a0 (gi an (gi s1 (gi s0 (gi sn (gi wn w0))))))) ?_
 exact fe2 trivial
@[reducible,instance] def a303:=fun n O=>ah1 (@RY n O)
theorem Sq(n:Nat)(O:Sig)(hn:n<=1073741824:=by exact sd):DCall prog 254 [.int .u64 1,.int .u64 n] O (rS (.tup [.int .u64 0,.int .u64 n]) O):=by
 refine en func254 ntmps254 ?_
 refine gz ?_
 exact fe2 trivial
@[reducible,instance] def a254:=fun n O=>ah1 (@Sq n O)
theorem SQ(n:Nat)(O:Sig)(h1:1<=n)(hn:n<=1048576):DCall prog 198 [.slice [[dI (-1)]] .no,dI n] O fun x U'=> ∃r,O r=none/\x=.ret (.sref r 0 n n)/\U'=O.set r (.cells ((List.replicate n (-1:Int)).map dI)):=by
 have wn:IntKind.u64.wrap (n:Int)=n:=Q4 (by omega) (by omega)
 have w1:IntKind.u64.wrap 1=1:=Q4 (by omega) (by omega)
 refine en func198 ntmps198 ?_
 refine gf (gi wn w1) ?_ o198
 refine mmake (k:=n) (c:=n) (sz:=1) (z:=[dI 0]) (fun i hi hm=>?_)
 have e0:mS O (some (i,n,(List.replicate (n-n) [dI 0]).flatten)) (List.replicate n [dI 0])=O.set i (.cells (List.replicate n (dI 0))):=by simp[mS]
 rw[e0]
 refine gz ?_ o198
 refine KJ tabOK (m:=1) (cs:=[dI (-1)]) (e:=3) (i:=i) (off:=0) (len:=n) (cap:=n) (ds:=List.replicate n (dI 0)) (by decide) (by simp<;>rfl) (by simp) (by simp) tdR (w6 ..) (by simp) (Ql (es:=[[dI (-1)]]) tdR (by simp)) (by rfl) ?_
 have e1:(O.set i (.cells (List.replicate n (dI 0)))).set i (.cells (List.take 0 (List.replicate n (dI 0))++(List.take (min 1 n) [dI (-1)]++List.drop (0+min 1 n) (List.replicate n (dI 0)))))=O.set i (.cells (List.replicate 1 (dI (-1))++List.replicate (n-1) (dI 0))):=by
  rw[w8,show min 1 n=1 by omega];simp
 rw[e1,show((min 1 n:Nat):Int)=1 by omega]
 refine gz ?_ o198
 refine BV [4,7,47] (fun (b:Nat)=>1<=b/\b<=n) (fun b=>[(8,dI b)]) (fun b=>O.set i (.cells (List.replicate b (dI (-1))++List.replicate (n-b) (dI 0)))) (fun b=>n-b) (1) (by omega) (fun b hI=>?_)
 obtain⟨aQ,bO⟩:=hI
 by_cases h:b<n
 ·refine gz ?_
  refine Fx (id:=9) [0,1,2,3,4,5,6,7,8,9] [7] O ((Sub.refl _).set hi) ?_
  refine gz ?_ o198
  refine mo_cutL tabOK (i:=i) (off:=0) (len:=n) (cap:=n) (lo:=b) (e:=3) (k:=.i64) ?_ (by decide) (by simp<;>rfl) (by simp) tdR tdR (by omega) (by omega)
  rw[show 0+b*(tab 3).size=b by simp]
  refine gz ?_ o198
  refine QO tabOK (i:=i) (off:=0) (len:=n) (cap:=n) (hi:=b) (e:=3) (k:=.i64) ?_ (by decide) (by simp<;>rfl) (by simp) tdR tdR (by omega)
  refine mo1 (fun U2 hD=>?_) rfl
  have v1:=hD (.tmp 41) (by simp[Op.operands,Call.operands])
  have v2:=hD (.tmp 44) (by simp[Op.operands,Call.operands])
  have bN:(List.replicate b (dI (-1))++List.replicate (n-b) (dI 0)).length=n:=by simp;omega
  refine KJ tabOK (m:=b) (cs:=((List.replicate b (dI (-1))++List.replicate (n-b) (dI 0)).drop 0).take b) (e:=3) (i:=i) (off:=b) (len:=n-b) (cap:=n-b) (ds:=List.replicate b (dI (-1))++List.replicate (n-b) (dI 0)) (by decide) (by simp<;>rfl) (by simp) (by simp) (by rw[v1];with_unfolding_all rfl) (w6 ..) (by omega) (by rw[v2];exact Ur (off:=0) (w6 ..) (by omega)) (by simp[BS,D.flat]) ?_
  have e2:List.take b (List.replicate b (dI (-1))++List.replicate (n-b) (dI 0))++(List.take (min b (n-b)) (List.take b (List.drop 0 (List.replicate b (dI (-1))++List.replicate (n-b) (dI 0))))++List.drop (b+min b (n-b)) (List.replicate b (dI (-1))++List.replicate (n-b) (dI 0)))=List.replicate (b+min b (n-b)) (dI (-1))++List.replicate (n-(b+min b (n-b))) (dI 0):=by
   have t1:List.take b (List.replicate b (dI (-1))++List.replicate (n-b) (dI 0))=List.replicate b (dI (-1)):=by rw[List.take_append_of_le_length (by simp)];simp
   have t2:List.drop (b+min b (n-b)) (List.replicate b (dI (-1))++List.replicate (n-b) (dI 0))=List.replicate (n-(b+min b (n-b))) (dI 0):=by
    rw[List.drop_append,List.drop_of_length_le (by simp),List.nil_append,List.drop_replicate];congr 1;simp;omega
   rw[List.drop_zero,t1,t2,<-List.append_assoc]
   congr 1
   rw[List.take_replicate,List.replicate_append_replicate];congr 1;omega
  rw[w8,e2]
  refine Aw ⟨rfl,?_⟩
  refine⟨(Sub.refl _).set hi,?_⟩
  refine gz ?_ o198
  exact⟨b+min b (n-b),by omega,td1,wkR⟩
 ·have hb:b=n:=by omega
  subst hb
  refine gz ?_ o198
  refine fin1 (U':=O.set i (.cells ((List.replicate b (-1)).map dI))) ?_ (hZ:=by simp;exact Sub.refl _)
  exact⟨i,hi,rfl,rfl⟩
def OutO{S:Type}(u r:D)(Good:Sig->S->Prop)(Bad:Sig->Prop)(touch:Nat->Prop)(O:Sig):Option S->DE->Sig->Prop
 |none,x,U'=>x=.panic u/\Bad U'
 |some s,x,U'=>x=.ret r/\Good U' s /\ ∀j o,O j=some o->¬touch j->U' j=some o
theorem OutO.ret{S:Type}{u r d:D}{Good:Sig->S->Prop}{Bad:Sig->Prop}{touch:Nat->Prop}{O U':Sig}{o:Option S}(h:OutO u r Good Bad touch O o (.ret d) U'): ∃s,o=some s/\d=r/\Good U' s /\ ∀j o,O j=some o->¬touch j->U' j=some o:=by
 cases o with
 |none=>exact absurd h.1 (by simp)
 |some s=>exact⟨s,rfl,by simpa using h.1,h.2⟩
theorem OutO.pan{S:Type}{u r d:D}{Good:Sig->S->Prop}{Bad:Sig->Prop}{touch:Nat->Prop}{O U':Sig}{o:Option S}(h:OutO u r Good Bad touch O o (.panic d) U'):o=none/\d=u/\Bad U':=by
 cases o with
 |none=>exact⟨rfl,by simpa using h.1,h.2⟩
 |some s=>exact absurd h.1 (by simp)
section
variable {S:Type}
def Ll(f:Int->Int->S->Option S)(x:BNode)(size:Int):Nat->List Int->S->Option S
 |_,[],s=>some s
 |j,c::r,s=>match f c (if x.op=9/\j=1 then size+1 else size) s with
  |none=>none
  |some s'=>Ll f x size (j+1) r s'
def GH(p:BProg)(step:Nat->Int->Int->S->Option S):Nat->Int->Int->S->Option S
 |0,_,_,_=>none
 |k+1,node,size,s=>match step (k+1) node size s with
  |none=>none
  |some s'=>Ll (GH p step k) (Aa p node) size 0 (Aa p node).kids s'
end
theorem So{S:Type}(p:BProg)(l i:Nat)(Good:Sig->S->Prop)(Bad:Sig->Prop)(touch:Nat->Prop)(step:Nat->Int->Int->S->Option S)(hp:p.wt<=1073741824)(aU:¬touch i)
  (aB:∀node size s,step 0 node size s=none) (bi:∀k node size s s',step k node size s=some s'->0<=node/\node<p.nodes.length)
  (hy:∀(k:Nat) (d node size:Int) O s,d=13-(k:Int)->0<=size->size+k<=1000->Good O s->DYield prog l [dI node,.agg [dI size,dI d]] O (OutO unf (.bool true) Good Bad touch O (step k node size s))) :
  ∀(k:Nat) (d node size:Int) O s,d=13-(k:Int)->0<=size->size+k<=1000->k<=13->Good O s->O i=some (.cells [.func (.func 256) [] [.cptr [.yld l] 0,.cptr (Ad p) 0,.ptr i 0]])->
   DCall prog 256 [dI node,.agg [dI size,dI d],.cptr [.yld l] 0,.cptr (Ad p) 0,.ptr i 0] O (OutO unf (.bool true) Good Bad touch O (GH p step k node size s)):=by
 obtain⟨p1,p2,p3,p4,p5,p6,p7⟩:=p.wt_le
 intro k
 induction k with
 | zero =>
  intro d node size O s hd h0 hsz hk hG hi
  refine en func256 ntmps256 ?_
  refine gz ?_
  refine yldW (hy 0 d node size O s hd h0 hsz hG) (fun e U' hr=>?_) (fun e U' hr=>?_)
  ·rw[aB]at hr;obtain⟨_,h,_⟩:=hr.ret;cases h
  ·obtain⟨_,rfl,hb⟩:=hr.pan
   exact finP (U':=U') ⟨rfl,hb⟩
 | succ k ih =>
  intro d node size O s hd h0 hsz hk hG hi
  refine en func256 ntmps256 ?_
  refine gz ?_ [] [10]
  refine yldW (hy (k+1) d node size O s hd h0 hsz hG) (fun e U' hr=>?_) (fun e U' hr=>?_)
  ·obtain⟨s',ak,rfl,br,hK⟩:=hr.ret
   obtain⟨bm,bE⟩:=bi _ _ _ _ _ ak
   obtain⟨q,rfl⟩:∃q:Nat,node=(q:Int):=⟨node.toNat,by omega⟩
   have hq:q<p.nodes.length:=by omega
   have aC:=hK i _ hi aU
   have aK:Aa p q=p.nodes[q]:=by unfold Aa;simp[List.getElem?_eq_getElem hq]
   have hW:GH p step (k+1) q size s=Ll (GH p step k) p.nodes[q] size 0 (p.nodes[q]).kids s':=by rw[GH,ak];simp only;rw[aK]
   rw[hW]
   have bG:(p.nodes[q]).kids.length<=1073741824:=by have:=p7 q hq;unfold BNode.wt at this;omega
   generalize hx:p.nodes[q]=x at*
   refine gf hx ?_ [] [10]
   refine Gb [0,3,4,6,21,22] (fun (j:Nat) (s1:S) (S1:Sig)=>j<=x.kids.length/\Good S1 s1/\Ll (GH p step k) x size 0 x.kids s'=Ll (GH p step k) x size j (x.kids.drop j) s1/\(∀j o,O j=some o->¬touch j->S1 j=some o)) (fun j _ _=>[(23,dI j)]) (fun _ _ S1=>S1) (fun j _ _=>x.kids.length-j) (0) (s') (U') (by exact⟨by omega,br,by simp,hK⟩) (fun j s1 S1 hI=>?_)
   obtain⟨hj,bc,hR,aF⟩:=hI
   have am:=aF i _ hi aU
   by_cases ac:j<x.kids.length
   ·rw [A5 ac,Ll] at hR
    have bH:(k:Int)<=12:=by omega
    refine gf (gi hx am) ?_ [] [10]
    refine newV (fun a ha=>?_)
    have aZ:i≠a:=fun e=>by rw[e,ha]at am;cases am
    have hz:0<=(if x.op=9/\j=1 then size+1 else size)/\(if x.op=9/\j=1 then size+1 else size)+(k:Int)<=1000:=by split<;>omega
    have hc:=ih (d+1) x.kids[j] (if x.op=9/\j=1 then size+1 else size) S1 s1 (by omega) hz.1 hz.2 (by omega) bc am
    by_cases hl:x.op=9/\j=1
    ·rw[if_pos hl]at hR hc
     obtain⟨bn,rfl⟩:=hl
     refine gf (gi hx (gi am (gi bn aZ))) ?_ [] [10]
     refine drp S1 ?_
     refine A4 hc (fun e S2 hr=>?_) (fun e S2 hr=>?_)
     ·obtain⟨s2,au,rfl,aS,aR⟩:=hr.ret
      rw[au]at hR
      refine gz ?_ [] [10]
      exact⟨1+1,s2,S2,⟨by omega,aS,hR,fun j o h1 h2=>aR _ _ (aF _ _ h1 h2) h2⟩,td1,wkR⟩
     ·obtain⟨hn,rfl,hb⟩:=hr.pan
      rw[hn]at hR;rw[hR]
      exact finP (U':=S2) ⟨rfl,hb⟩
    ·rw[if_neg hl]at hR hc
     have aa:¬(x.op=9/\(j:Int)=1):=by omega
     repeat' first|refine gf (gi hx (gi am aZ)) ?_ [] [10]|apply gy<;>intro hh
     all_goals
      refine drp S1 ?_
      refine A4 hc (fun e S2 hr=>?_) (fun e S2 hr=>?_)
      ·obtain⟨s2,au,rfl,aS,aR⟩:=hr.ret
       rw[au]at hR
       refine gz ?_ [] [10]
       exact⟨j+1,s2,S2,⟨by omega,aS,hR,fun j o h1 h2=>aR _ _ (aF _ _ h1 h2) h2⟩,td1,wkR⟩
      ·obtain⟨hn,rfl,hb⟩:=hr.pan
       rw[hn]at hR;rw[hR]
       exact finP (U':=S2) ⟨rfl,hb⟩
   ·rw[A9 ac,Ll]at hR
    rw[hR]
    refine gf hx ?_ [] [10]
    refine fin1 (U':=S1) ?_
    exact⟨rfl,bc,aF⟩
  ·obtain⟨ak,rfl,hb⟩:=hr.pan
   have hW:GH p step (k+1) node size s=none:=by rw[GH,ak]
   rw[hW]
   exact finP (U':=U') ⟨rfl,hb⟩
end Go.DL
