/- A part of the proof. -/
import Derived.Test.YteldimffglchkaaGreatDoorQ12
import Derived.Test.YteldimffglchkaaGreatDoorQ13
import Derived.Test.YteldimffglchkaaGreatDoorQ11
import Derived.Test.YteldimffglchkaaGreatDoorQ07
set_option linter.all false
namespace Go.DL
open Go.Proofs.Tryz
open Go Go.Proofs
set_option maxHeartbeats 8000000
def Us(w:World)(l:List Int):Bool:=l.all (fun s=>decide (0<=s/\s<w.owner.length))&&decide (l.length<=2)
def Gp(op:Int):Int:=if op=5 then 1 else if op=6\/op=7 then 2 else 0
def Jg(w:World)(f:Fact):Bool:=
 if f.op=2 then decide (f.n=0)&&decide (0<=f.cls/\f.cls<3+w.parents.length)
 else if f.op=3\/f.op=4 then decide (f.cls=0)&&decide (-1000000000<=f.n/\f.n<=1000000000)
 else decide (f.op=1\/f.op=5\/f.op=6\/f.op=7)
def EX(w:World)(f:Fact):Bool:=
 decide ((f.kids.length:Int)=Gp f.op)&&decide (0<=f.arg/\f.arg<3)&&Us w f.path&&(Ct f.op||(decide (f.arg=0)&&decide (f.path.length=0)&&decide (f.cls=0)&&decide (f.n=0)))
mutual
def IT(w:World):Fact->Bool
 |.mk o a p c n k=>Jg w (.mk o a p c n k)&&EX w (.mk o a p c n k)&&DN w k
def DN(w:World):List Fact->Bool
 |[]=>true
 |f::l=>IT w f&&DN w l
end
theorem Oh(w:World)(f:Fact):IT w f=(Jg w f&&EX w f&&DN w f.kids):=by cases f;rw[IT];rfl
theorem Ans.of{f:Nat}{us:List D}{O:Sig}{d:D}(h:DCall prog f us O (rS d O)):Ans f us O True d:=⟨fun _=>h⟩
theorem ME (w:World) (f:Fact) (O:Sig) (hw:w.parents.length<=1073741824:=by exact sd) (aO:w.owner.length<=1073741824:=by exact sd) (hf:f.wt<=1073741824:=by exact sd) :
  DCall prog 224 [.agg (DV w),.agg (Ca f)] O (rS (.bool (IT w f)) O):=by
 obtain⟨f1,f2,f3⟩:=f.wt_le
 have aq:∀(k:Nat) (hk:k<f.kids.length),DCall prog 224 [.agg (DV w),.agg (Ca (f.kids[k]))] O (rS (.bool (IT w (f.kids[k]))) O):=fun k hk=>ME w (f.kids[k]) O hw aO (by have:=f3 k hk;omega)
 have aa:=Oh w f
 refine en func224 ntmps224 ?_
 cases ho:Jg w f with
 | false =>
  rw[ho,Bool.false_and,Bool.false_and]at aa
  unfold Jg at ho
  by_cases h2:f.op=2
  ·rw[if_pos h2,Bool.and_eq_false_iff,decide_eq_false_iff_not]at ho
   by_cases hn:f.n=0
   ·have hc:decide (0<=f.cls/\f.cls<3+(w.parents.length:Int))=false:=ho.resolve_left (fun h=>h hn)
    refine gf (gi h2 hc) ?_
    exact fe1 aa
   ·refine gf h2 ?_
    exact fe1 aa
  ·rw [if_neg h2] at ho
   by_cases ar:f.op=3\/f.op=4
   ·rw [if_pos ar,Bool.and_eq_false_iff,decide_eq_false_iff_not,decide_eq_false_iff_not] at ho
    by_cases hc:f.cls=0
    ·by_cases hn:f.n < -1000000000
     ·rcases ar with h3|h4
      ·refine gz ?_
       exact fe1 aa
      ·refine gz ?_
       exact fe1 aa
     ·rcases ar with h3|h4
      ·refine gz ?_
       exact fe1 aa
      ·refine gz ?_
       exact fe1 aa
    ·rcases ar with h3|h4
     ·refine gz ?_
      exact fe1 aa
     ·refine gz ?_
      exact fe1 aa
   ·rw[if_neg ar]at ho
    have bN:=of_decide_eq_false ho
    refine gz ?_
    exact fe1 aa
 | true =>
  rw[ho,Bool.true_and]at aa
  unfold Jg at ho
  repeat ((fail_if_success refine dwp_join (c:=.block 0 _) 5 (dI 0) ?_ ?_);(refine go1 trivial ?_))
  refine dwp_join (c:=.block 0 _) 5 (dI (Gp f.op)) ?_ ?_
  ·by_cases h2:f.op=2
   ·rw[if_pos h2,Bool.and_eq_true,decide_eq_true_eq]at ho
    have ag:Gp f.op=0:=by rw[h2];rfl
    refine gf (gi h2 ho.2) ?_
    refine Gm ?_ (Sub.refl _);simp[ag]
   ·rw[if_neg h2]at ho
    by_cases ar:f.op=3\/f.op=4
    ·rw[if_pos ar,Bool.and_eq_true,decide_eq_true_eq,decide_eq_true_eq]at ho
     rcases ar with h3|h4
     ·have ag:Gp f.op=0:=by rw[h3];rfl
      refine gz ?_
      refine Gm ?_ (Sub.refl _);simp[ag]
     ·have ag:Gp f.op=0:=by rw[h4];rfl
      refine gz ?_
      refine Gm ?_ (Sub.refl _);simp[ag]
    ·rw[if_neg ar]at ho
     rcases of_decide_eq_true ho with h1|h1|h1|h1
     ·have ag:Gp f.op=0:=by rw[h1];rfl
      refine gz ?_
      refine Gm ?_ (Sub.refl _);simp[ag]
     ·have ag:Gp f.op=1:=by rw[h1];rfl
      refine gz ?_
      refine Gm ?_ (Sub.refl _);simp[ag]
     ·have ag:Gp f.op=2:=by rw[h1];rfl
      refine gz ?_
      refine Gm ?_ (Sub.refl _);simp[ag]
     ·have ag:Gp f.op=2:=by rw[h1];rfl
      refine gz ?_
      refine Gm ?_ (Sub.refl _);simp[ag]
  ·clear ho
   have bH:Gp f.op=0\/Gp f.op=1\/Gp f.op=2:=by
    unfold Gp;split
    ·exact .inr (.inl rfl)
    ·split
     ·exact .inr (.inr rfl)
     ·exact .inl rfl
   have ai:DCall prog 271 [.agg (DV w),.slice (cI f.path) .no] O (rS (.bool (Us w f.path)) O):=Sm w f.path .no O aO (by omega)
   have aj:=MD f O
   cases hr:EX w f with
   | false =>
    rw[hr,Bool.false_and]at aa
    unfold EX at hr
    by_cases hk:(f.kids.length:Int)=Gp f.op
    ·rw [decide_eq_true hk,Bool.true_and] at hr
     by_cases b7:f.arg<0
     ·refine gz ?_
      exact fe1 aa
     ·by_cases b6:3<=f.arg
      ·refine gz ?_
       exact fe1 aa
      ·rw [decide_eq_true (by omega),Bool.true_and] at hr
       cases hp:Us w f.path with
       |false=>
        rw[hp]at ai
        have i232:=Ans.of ai
        refine gz ?_
        exact fe1 aa
       | true =>
        rw[hp]at ai
        have i232:=Ans.of ai
        rw[hp,Bool.true_and,Bool.or_eq_false_iff]at hr
        rw[hr.1]at aj
        have i180:=Ans.of aj
        have bK:¬(f.arg=0/\(f.path.length=0)/\f.cls=0/\f.n=0):=fun h=>by
         have:=hr.2;rw[decide_eq_true h.1,decide_eq_true h.2.1,decide_eq_true h.2.2.1,decide_eq_true h.2.2.2]at this;cases this
        by_cases bw:f.arg=0
        ·by_cases bc:f.path.length=0
         ·by_cases bu:f.cls=0
          ·refine gz ?_
           exact fe1 aa
          ·refine gz ?_
           exact fe1 aa
         ·refine gz ?_
          exact fe1 aa
        ·refine gz ?_
         exact fe1 aa
    ·refine gz ?_
     exact fe1 aa
   | true =>
    rw[hr,Bool.true_and]at aa
    unfold EX at hr
    simp only[Bool.and_eq_true,decide_eq_true_eq]at hr
    obtain⟨⟨⟨hk,ha⟩,hp⟩,hl⟩:=hr
    rw[hp]at ai
    have i232:=Ans.of ai
    cases be:Ct f.op with
    | true =>
     rw[be]at aj
     have i180:=Ans.of aj
     refine gz ?_
     refine C1 [2,92,93] (fun (k:Nat)=>k<=f.kids.length/\DN w f.kids=DN w (f.kids.drop k)) (fun k=>[(94,dI k)]) (fun _=>O) (fun k=>f.kids.length-k) (0) (by simp) (fun k hI=>?_)
     obtain⟨hk,hK⟩:=hI
     by_cases ah:k<f.kids.length
     ·rw[A4 ah,DN]at hK
      repeat' first|refine gz ?_|refine B9 (aq k ah) ?_|refine callP (aq k ah) ?_|refine gz ?_|apply gy<;>intro hh
      ·exact fe1 (gi aa hK)
      ·rw[show IT w f.kids[k]=true by simpa using hh,Bool.true_and]at hK
       exact⟨k+1,⟨by omega,hK⟩,td1,wkR⟩
     ·rw[A9 ah,DN]at hK
      refine gz ?_
      exact fe1 (gi aa hK)
    | false =>
     rw[be]at aj hl
     have i180:=Ans.of aj
     simp only[Bool.false_or,Bool.and_eq_true,decide_eq_true_eq]at hl
     obtain⟨⟨⟨bw,bc⟩,bu⟩,bL⟩:=hl
     refine gz ?_
     refine C1 [2,92,93] (fun (k:Nat)=>k<=f.kids.length/\DN w f.kids=DN w (f.kids.drop k)) (fun k=>[(94,dI k)]) (fun _=>O) (fun k=>f.kids.length-k) (0) (by simp) (fun k hI=>?_)
     obtain⟨hk,hK⟩:=hI
     by_cases ah:k<f.kids.length
     ·rw[A4 ah,DN]at hK
      repeat' first|refine gz ?_|refine B9 (aq k ah) ?_|refine callP (aq k ah) ?_|refine gz ?_|apply gy<;>intro hh
      ·exact fe1 (gi aa hK)
      ·rw[show IT w f.kids[k]=true by simpa using hh,Bool.true_and]at hK
       exact⟨k+1,⟨by omega,hK⟩,td1,wkR⟩
     ·rw[A9 ah,DN]at hK
      refine gz ?_
      exact fe1 (gi aa hK)
termination_by SizeOf.sizeOf f
decreasing_by exact Fact.lt (List.getElem_mem _)
@[reducible,instance] def a224:=fun w f O=>ah3 (@ME w f O)
def B5(f:Int->Int->List Int->Bool×List Int)(x:BNode)(size:Int):Nat->List Int->List Int->Bool×List Int
 |_,[],s=>(true,s)
 |j,c::r,s=>match f c (if x.op=9/\j=1 then size+1 else size) s with
  |(false,s')=>(false,s')
  |(true,s')=>B5 f x size (j+1) r s'
def A1(p:BProg)(n:Int):BNode:=(p.nodes[n.toNat]?).getD ⟨0,0,[]⟩
def Bx(p:BProg)(inM:Bool):Nat->Int->Int->List Int->Bool×List Int
 |0,_,_,s=>(false,s)
 |k+1,node,size,s=>
  if node<0\/(p.nodes.length:Int)<=node\/0<=s.getD node.toNat 0 then(false,s) else
  if((A1 p node).kids.length:Int)≠BJ p (A1 p node)\/Bt p (A1 p node) size=false\/((A1 p node).op=18/\inM=false) then(false,s.set node.toNat size) else
  B5 (Bx p inM k) (A1 p node) size 0 (A1 p node).kids (s.set node.toNat size)
theorem Ff{f:Int->Int->List Int->Bool×List Int}{x:BNode}{size:Int}(hf:∀c z s,(f c z s).2.length=s.length): ∀(j:Nat) (l s:List Int),(B5 f x size j l s).2.length=s.length
 |_,[],_=>rfl
 |j,c::r,s=>by
  rw[B5]
  have h:=hf c (if x.op=9/\j=1 then size+1 else size) s
  split
  ·rename_i s' e;rw[e]at h;exact h
  ·rename_i s' e;rw[e]at h;rw[Ff hf];exact h
theorem Cc(p:BProg)(inM:Bool): ∀(k:Nat) (node size:Int) (s:List Int),(Bx p inM k node size s).2.length=s.length
 |0,_,_,_=>rfl
 | k+1,node,size,s=>by
  rw[Bx]
  split
  ·rfl
  ·split
   ·simp
   ·rw[Ff (Cc p inM k),List.length_set]
def rowI(s:List Int)(rest:List D):List D:=s.map dI++rest
@[simp] theorem rowI_length(s:List Int)(rest:List D):(rowI s rest).length=s.length+rest.length:=by simp[rowI]
@[simp] theorem rowI_get(s:List Int)(rest:List D)(k:Nat)(h:k<s.length):(rowI s rest)[k]? = some (dI s[k]):=by
 unfold rowI;rw[List.getElem?_append_left (by simpa using h),List.getElem?_map,List.getElem?_eq_getElem h];rfl
@[simp] theorem rowI_put(s:List Int)(rest:List D)(k:Nat)(v:Int)(h:k<s.length):(rowI s rest).take k ++ .int .i64 v::(rowI s rest).drop (k+1)=rowI (s.set k v) rest:=by
 unfold rowI
 rw[List.take_append_of_le_length (by simp;omega),List.drop_append_of_le_length (by simp;omega),<-List.map_take,<-List.map_drop,List.set_eq_take_append_cons_drop,if_pos h]
 simp[dI]
theorem Sig.set_self(O:Sig){i:Nat}{o:DObj}(h:O i=some o):O.set i o=O:=by
 funext k;simp only[Sig.set];split
 ·rename_i e;rw[e,h]
 ·rfl
theorem Ey (p:BProg) (k:Nat) (node size:Int) (inM:Bool) (i cap:Nat) (s:List Int) (rest:List D) (O:Sig) (hk:k<=13) (hi:O i=some (.cells (rowI s rest))) (hs:s.length=p.nodes.length) (hsz:0<=size/\size+k<=1073741824) (hp:p.wt<=1073741824) :
  DCall prog 147 [.agg (Ac p),dI node,dI size,dI (13-(k:Int)),.bool inM,.sref i 0 p.nodes.length cap] O fun x U'=>x=.ret (.bool (Bx p inM k node size s).1)/\U'=O.set i (.cells (rowI (Bx p inM k node size s).2 rest)):=by
 obtain⟨p1,p2,p3,p4,p5,p6,p7⟩:=p.wt_le
 refine en func147 ntmps147 ?_
 by_cases h1:node<0\/(p.nodes.length:Int)<=node
 ·have hW:Bx p inM k node size s=(false,s):=by
   cases k with
   |zero=>rfl
   |succ k=>rw[Bx,if_pos (by rcases h1 with h|h;exact .inl h;exact .inr (.inl h))]
  rw[hW,Sig.set_self O hi]
  rcases h1 with h1|h1
  ·refine gz ?_ o147
   exact fe1 trivial
  ·refine gz ?_ o147
   exact fe1 trivial
 ·obtain ⟨q,rfl⟩ : ∃ q:Nat,node=(q:Int):=⟨node.toNat,by omega⟩
  have hq:q<p.nodes.length:=by omega
  have bt:q<s.length:=by omega
  have aR:((q:Int)).toNat=q:=by omega
  have aF:s.getD ((q:Int)).toNat 0=s[q]:=by rw[aR,List.getD_eq_getElem?_getD,List.getElem?_eq_getElem bt];rfl
  by_cases h2:0<=s[q]
  ·have hW:Bx p inM k q size s=(false,s):=by
    cases k with
    |zero=>rfl
    |succ k=>rw[Bx,if_pos (.inr (.inr (by rw[aF];exact h2)))]
   rw[hW,Sig.set_self O hi]
   refine gf hi ?_ o147
   exact fe1 trivial
  ·cases k with
   |zero=>
    rw[Bx,Sig.set_self O hi]
    refine gf hi ?_ o147
    exact fe1 trivial
   | succ k =>
    rw[Bx,if_neg (by rw[aF];omega)]
    have aS:A1 p q=p.nodes[q]:=by unfold A1;rw[aR,List.getElem?_eq_getElem hq];rfl
    rw[aS,aR]
    generalize hx:p.nodes[q]=x
    have bE:x.kids.length<=1073741824:=by
     have:=p7 q hq
     rw[hx]at this
     have aN:x.wt=1+x.kids.length:=rfl
     omega
    have au:=SE p x size (O.set i (.cells (rowI (s.set q size) rest))) (by omega) (by omega)
    by_cases aV:(x.kids.length:Int)=BJ p x
    ·cases bi:Bt p x size with
     |false=>
      rw[if_pos (.inr (.inl rfl))]
      rw[bi]at au
      have i182:=Ans.of au
      refine gf (gi hi hx) ?_ o147
      exact fe1 trivial
     | true =>
      rw[bi]at au
      have i182:=Ans.of au
      by_cases aH:x.op=18/\inM=false
      ·rw[if_pos (.inr (.inr aH))]
       obtain⟨aH,rfl⟩:=aH
       refine gf (gi hi hx) ?_ o147
       exact fe1 trivial
      ·rw [if_neg (by simp [aV,aH])]
       by_cases aY:x.op=18
       ·obtain rfl:inM=true:=by cases inM;exact absurd ⟨aY,rfl⟩ aH;rfl
        refine gf (gi hi hx) ?_ o147
        refine BX [2,3,4,5,6,13] (fun (j:Nat) (s':List Int)=>j<=x.kids.length/\s'.length=s.length/\B5 (Bx p true k) x size 0 x.kids (s.set q size)=B5 (Bx p true k) x size j (x.kids.drop j) s') (fun j _=>[(14,dI j)]) (fun _ s'=>O.set i (.cells (rowI s' rest))) (fun j _=>x.kids.length-j) (0) (s.set q size) (by simp) (fun j s' hI=>?_)
        obtain⟨hj,br,hR⟩:=hI
        have e13:(13:Int)-((k:Int)+1)+1=13-k:=by omega
        by_cases ae:j<x.kids.length
        ·rw[A4 ae,B5]at hR
         rw[if_neg (by omega)]at hR
         refine gf hi ?_ (delO 13 o147)
         refine EP (id:=13) [0,1,2,3,4,5,6,7,8,9,10,11,12] [11] (fun _=>none) (fun _ _ h=>by cases h) ?_
         refine gf (gi hi e13) ?_ (delO 13 o147)
         refine B2 (Ey p k (x.kids[j]) (size) true i cap s' rest _ (by omega) (w6 ..) (by omega) ⟨by omega,by omega⟩ hp) (fun d U' hx=>?_) (fun d U' hx=>by cases hx.1)
         obtain⟨ak,rfl⟩:=hx
         cases ak
         rw[w8]
         refine⟨fun _ _ h=>(by cases h),?_⟩
         simp only[putD]
         have ac:=Cc p true k x.kids[j] (size) s'
         rcases hr:Bx p true k (x.kids[j]) (size) s' with⟨b,s2⟩
         rw[hr]at hR ac
         simp only at ac
         cases b with
         |false=>
          simp only at hR
          rw[hR]
          refine gz ?_ (delO 13 o147)
          exact fe1 trivial
         |true=>
          simp only at hR
          refine gz ?_ (delO 13 o147)
          exact⟨j+1,s2,⟨by omega,by omega,hR⟩,td1,wkR⟩
        ·rw[A9 ae,B5]at hR
         rw[hR]
         refine gz ?_ o147
         exact fe1 trivial
       ·refine gf (gi hi hx) ?_ o147
        refine BX [2,3,4,5,6,13] (fun (j:Nat) (s':List Int)=>j<=x.kids.length/\s'.length=s.length/\B5 (Bx p inM k) x size 0 x.kids (s.set q size)=B5 (Bx p inM k) x size j (x.kids.drop j) s') (fun j _=>[(14,dI j)]) (fun _ s'=>O.set i (.cells (rowI s' rest))) (fun j _=>x.kids.length-j) (0) (s.set q size) (by simp) (fun j s' hI=>?_)
        obtain⟨hj,br,hR⟩:=hI
        have e13:(13:Int)-((k:Int)+1)+1=13-k:=by omega
        by_cases ae:j<x.kids.length
        ·rw [A4 ae,B5] at hR
         by_cases h9:x.op=9/\j=1
         ·rw[if_pos h9]at hR
          refine gf hi ?_ (delO 13 o147)
          refine EP (id:=13) [0,1,2,3,4,5,6,7,8,9,10,11,12] [11] (fun _=>none) (fun _ _ h=>by cases h) ?_
          refine gf (gi hi e13) ?_ (delO 13 o147)
          refine B2 (Ey p k (x.kids[j]) (size+1) inM i cap s' rest _ (by omega) (w6 ..) (by omega) ⟨by omega,by omega⟩ hp) (fun d U' hx=>?_) (fun d U' hx=>by cases hx.1)
          obtain⟨ak,rfl⟩:=hx
          cases ak
          rw[w8]
          refine⟨fun _ _ h=>(by cases h),?_⟩
          simp only[putD]
          have ac:=Cc p inM k x.kids[j] (size+1) s'
          rcases hr:Bx p inM k (x.kids[j]) (size+1) s' with⟨b,s2⟩
          rw[hr]at hR ac
          simp only at ac
          cases b with
          |false=>
           simp only at hR
           rw[hR]
           refine gz ?_ (delO 13 o147)
           exact fe1 trivial
          |true=>
           simp only at hR
           refine gz ?_ (delO 13 o147)
           exact⟨j+1,s2,⟨by omega,by omega,hR⟩,td1,wkR⟩
         ·rw[if_neg h9]at hR
          by_cases bl:x.op=9
          ·have aA:¬j=1:=fun h=>h9 ⟨bl,h⟩
           refine gf (gi hi (gi aA bl)) ?_ (delO 13 o147)
           refine EP (id:=13) [0,1,2,3,4,5,6,7,8,9,10,11,12] [11] (fun _=>none) (fun _ _ h=>by cases h) ?_
           refine gf (gi hi e13) ?_ (delO 13 o147)
           refine B2 (Ey p k (x.kids[j]) (size) inM i cap s' rest _ (by omega) (w6 ..) (by omega) ⟨by omega,by omega⟩ hp) (fun d U' hx=>?_) (fun d U' hx=>by cases hx.1)
           obtain⟨ak,rfl⟩:=hx
           cases ak
           rw[w8]
           refine⟨fun _ _ h=>(by cases h),?_⟩
           simp only[putD]
           have ac:=Cc p inM k x.kids[j] (size) s'
           rcases hr:Bx p inM k (x.kids[j]) (size) s' with⟨b,s2⟩
           rw[hr]at hR ac
           simp only at ac
           cases b with
           |false=>
            simp only at hR
            rw[hR]
            refine gz ?_ (delO 13 o147)
            exact fe1 trivial
           |true=>
            simp only at hR
            refine gz ?_ (delO 13 o147)
            exact⟨j+1,s2,⟨by omega,by omega,hR⟩,td1,wkR⟩
          ·refine gf hi ?_ (delO 13 o147)
           refine EP (id:=13) [0,1,2,3,4,5,6,7,8,9,10,11,12] [11] (fun _=>none) (fun _ _ h=>by cases h) ?_
           refine gf (gi hi e13) ?_ (delO 13 o147)
           refine B2 (Ey p k (x.kids[j]) (size) inM i cap s' rest _ (by omega) (w6 ..) (by omega) ⟨by omega,by omega⟩ hp) (fun d U' hx=>?_) (fun d U' hx=>by cases hx.1)
           obtain⟨ak,rfl⟩:=hx
           cases ak
           rw[w8]
           refine⟨fun _ _ h=>(by cases h),?_⟩
           simp only[putD]
           have ac:=Cc p inM k x.kids[j] (size) s'
           rcases hr:Bx p inM k (x.kids[j]) (size) s' with⟨b,s2⟩
           rw[hr]at hR ac
           simp only at ac
           cases b with
           |false=>
            simp only at hR
            rw[hR]
            refine gz ?_ (delO 13 o147)
            exact fe1 trivial
           |true=>
            simp only at hR
            refine gz ?_ (delO 13 o147)
            exact⟨j+1,s2,⟨by omega,by omega,hR⟩,td1,wkR⟩
        ·rw[A9 ae,B5]at hR
         rw[hR]
         refine gz ?_ o147
         exact fe1 trivial
    ·rw[if_pos (.inl aV)]
     refine gf (gi hi hx) ?_ o147
     exact fe1 trivial
termination_by k
mutual
theorem Fact.size_le: ∀f:Fact,f.size<=f.wt
 |.mk o a p c n k=>by
  have:=Fact.sizes_le k
  rw[Fact.size,Fact.wt];omega
theorem Fact.sizes_le: ∀l:List Fact,Fact.sizes l<=Fact.wts l
 |[]=>Nat.le_refl _
 |f::l=>by
  have h1:=Fact.size_le f
  have h2:=Fact.sizes_le l
  rw[Fact.sizes,Fact.wts];omega
end
def DS(w:World)(f:Fact):Bool:=decide (f.cnt 24<=24)&&decide (f.depth<=12)&&IT w f
theorem T8(w:World)(f:Fact)(O:Sig)(hw:w.parents.length<=1073741824:=by exact sd)(aO:w.owner.length<=1073741824:=by exact sd)(hf:f.wt<=1073741824:=by exact sd):
  DCall prog 145 [.agg (DV w),.agg (Ca f)] O (rS (.bool (DS w f)) O):=by
 have hsz:=Fact.size_le f
 refine en func145 ntmps145 ?_
 repeat' first|refine gz ?_|apply gy<;>intro hh
 any_goals (first|(refine fin1 (U':=O) ?_;exact⟨by first|rfl|(simp[DS];done)|(simp_all [DS];done)|(rw[Ad,Bool.eq_iff_iff];simp_all [DS]<;>omega),rfl⟩)|fail)
def F8(p:BProg)(m:BMeth):Bool:=decide (1<=m.kind/\m.kind<=4)&&decide (0<=m.gen/\m.gen<p.gens.length)&&DS (Bq p) m.fact&&decide (m.fact.speaks<=p.gens.getD m.gen.toNat 0)
def Cx(p:BProg):List BMeth->List Int->Bool×List Int
 |[],s=>(true,s)
 | m::r,s=>if F8 p m then (match Bx p (decide (m.kind=1) || decide (m.kind=4)) 12 m.node (p.gens.getD m.gen.toNat 0) s with
   |(false,s')=>(false,s')
   |(true,s')=>Cx p r s') else(false,s)
def Kx(p:BProg):Bool:=AB p&&decide (p.gens.length<=8)&&decide (p.methods.length<=16)&&decide (1<=p.nodes.length)&&decide (p.nodes.length<=120)
def Fe(p:BProg):Option (List Int):=
 if Kx p&&p.gens.all (fun g=>decide (1<=g/\g<=3)) then
  match Cx p p.methods (List.replicate p.nodes.length (-1))with
  |(false,_)=>none
  |(true,s)=>match Bx p false 12 p.main 0 s with
   |(false,_)=>none
   |(true,s2)=>if s2.all (fun n=>decide (0<=n)) then some s2 else none
 else none
theorem G4(s:List Int):(cI s).flatten=s.map dI:=by
 induction s with
 |nil=>rfl
 |cons x s ih=>rw[show cI (x::s)=[dI x]::cI s from rfl,List.flatten_cons,ih];rfl
theorem R8(O:Sig)(i cap:Nat)(rest:List D)(s:List Int):mS O (some (i,cap,rest)) (cI s)=O.set i (.cells (rowI s rest)):=by simp only[mS,rowI,G4]
theorem mOK_len{O:Sig}{st:MR}{s s':List Int}(h:mOK O 1 st (cI s))(hs:s'.length=s.length):mOK O 1 st (cI s'):=by
 cases st with
 |none=>
  have:cI s=[]:=h
  have:s=[]:=by simpa[cI] using this
  subst this
  have:s'=[]:=List.length_eq_zero_iff.1 hs
  subst this;rfl
 |some x=>
  obtain⟨i,cap,rest⟩:=x
  obtain⟨m1,m2,m3,m4⟩:=h
  refine⟨m1,?_,by simpa[hs] using m3,Ba _⟩
  rw[G4]at m2⊢
  simpa[hs] using m2
theorem V9 (p:BProg) (O:Sig) (hp:p.wt<=1073741824:=by exact sd) :
  DCall prog 67 [.agg (Ac p)] O (rS (.tup [sl (cI ((Fe p).getD [])),.bool (Fe p).isSome]) O):=by
 obtain⟨p1,p2,p3,p4,p5,p6,p7⟩:=p.wt_le
 have ws:=Dm p
 have ap:∀c∈p.classes,c.parents.length<=1073741824/\c.slots.length<=1073741824:=fun c hc=>by
  obtain⟨k,hk,rfl⟩:=List.getElem_of_mem hc
  have:=p5 k hk
  have aN:(p.classes[k]).wt=1+(p.classes[k]).parents.length+(p.classes[k]).slots.length+(p.classes[k]).inits.length:=rfl
  omega
 have aB:=T9 p O hp
 refine en func67 ntmps67 ?_
 cases aw:Kx p with
 | false =>
  have hL:Fe p=none:=by unfold Fe;rw[aw];rfl
  unfold Kx at aw
  cases hc:AB p with
  |false=>
   rw[hc]at aB
   have i1:=Ans.of aB
   try refine gz ?_ o67
   exact fe2 (d':=sl []) hL
  | true =>
   rw[hc]at aB aw
   have i1:=Ans.of aB
   by_cases h1:p.gens.length<=8
   ·by_cases h2:p.methods.length<=16
    ·by_cases h3:1<=p.nodes.length
     ·have h4:¬p.nodes.length<=120:=fun h=>by simp[h1,h2,h3,h]at aw
      try refine gz ?_ o67
      exact fe2 (d':=sl []) hL
     ·try refine gz ?_ o67
      exact fe2 (d':=sl []) hL
    ·try refine gz ?_ o67
     exact fe2 (d':=sl []) hL
   ·try refine gz ?_ o67
    exact fe2 (d':=sl []) hL
 | true =>
  have aT:=aw
  unfold Kx at aT
  simp only[Bool.and_eq_true,decide_eq_true_eq]at aT
  obtain⟨⟨⟨⟨hc,h1⟩,h2⟩,h3⟩,h4⟩:=aT
  rw[hc]at aB
  have i1:=Ans.of aB
  try refine gz ?_ o67
  refine C1 [1,5,6,7,8,9,10,59,60,61,62,63,64,65,66,67,68,69,70,71,72,73,74,75,76,77,78,79,80,81,82,83,84,85,86,87,88,89,90,91,92,93,94,95,96,97,98,99,100,101,102,103,104,105,106,107,108,109,110,111,112,113,114,115,116,117,118,119,120,121,122,123,124,125,126,127,128,129,130,131,132,133,134,135,136,137,138,139,140,141,142,143,144,145,146,147,148,149,150,151,152,153,154,155] (fun (j:Nat)=>j<=p.gens.length/\p.gens.all (fun g=>decide (1<=g/\g<=3))=(p.gens.drop j).all (fun g=>decide (1<=g/\g<=3))) (fun j=>[(4,dI j)]) (fun _=>O) (fun j=>p.gens.length-j) (0) (by simp) (fun j hI=>?_)
  obtain⟨hj,hJ⟩:=hI
  by_cases ae:j<p.gens.length
  ·rw[A4 ae,List.all_cons]at hJ
   by_cases bX:p.gens[j]<1
   ·have hL:Fe p=none:=by unfold Fe;rw[aw,hJ,decide_eq_false (by omega)];rfl
    try refine gz ?_ o67
    exact fe2 (d':=sl []) hL
   ·by_cases bW:3<p.gens[j]
    ·have hL:Fe p=none:=by unfold Fe;rw[aw,hJ,decide_eq_false (by omega)];rfl
     try refine gz ?_ o67
     exact fe2 (d':=sl []) hL
    ·rw[decide_eq_true (by omega),Bool.true_and]at hJ
     try refine gz ?_ o67
     exact⟨j+1,⟨by omega,hJ⟩,td1,wkR⟩
  ·rw [A9 ae,List.all_nil] at hJ
   have hL:Fe p=match Cx p p.methods (List.replicate p.nodes.length (-1))with
    |(false,_)=>none
    |(true,s)=>match Bx p false 12 p.main 0 s with
     |(false,_)=>none
     |(true,s2)=>if s2.all (fun n=>decide (0<=n)) then some s2 else none:=by unfold Fe;rw[aw,hJ];rfl
   try refine gz ?_ o67
   refine BX [1,2,3,7,8,9,10,69,70,71,72,73,74,75,76,77,78,79,80,81,82,83,84,85,86,87,88,89,90,91,92,93,94,95,96,97,98,99,100,101,102,103,104,105,106,107,108,109,110,111,112,113,114,115,116,117,118,119,120,121,122,123,124,125,126,127,128,129,130,131,132,133,134,135,136,137,138,139,140,141,142,143,144,145,146,147,148,149,150,151,152,153,154,155] (fun (n:Nat) (st:MR)=>n<=p.nodes.length/\mOK O 1 st (cI (List.replicate n (-1)))) (fun n st=>[(6,dI n),(5,mD st n)]) (fun n st=>mS O st (cI (List.replicate n (-1)))) (fun n _=>p.nodes.length-n) (0) (none) (by exact⟨by omega,rfl⟩) (fun n st hI=>?_)
   obtain⟨hn,hm⟩:=hI
   by_cases bQ:n<p.nodes.length
   ·have hlen:(cI (List.replicate n (-1))).length=n:=by simp
    have e:cI (List.replicate n (-1))++[[D.int .i64 (-1)]]=cI (List.replicate (n+1) (-1)):=by rw[List.replicate_succ'];simp[cI]
    try refine gz ?_ o67
    refine mapp (new:=[[D.int .i64 (-1)]]) (sz:=1) (h1:=by exact(congrArg (mD st) hlen.symm)) (fun st' am=>?_) hm
    rw[e]at am⊢
    rw[hlen]
    try refine gz ?_ o67
    exact⟨n+1,st',⟨by omega,am⟩,td1,wkR⟩
   ·have hne:n=p.nodes.length:=by omega
    subst hne
    obtain⟨s0,aI⟩:∃s0,s0=List.replicate p.nodes.length (-1:Int):=⟨_,rfl⟩
    have aP:s0.length=p.nodes.length:=by rw[aI];simp
    rw[<-aI]at hm hL⊢
    obtain⟨i,cap,rest,ax⟩:∃i cap rest,st=some (i,cap,rest):=by
     cases st with
     |none=>
      exfalso
      have h:cI s0=[]:=hm
      have h':s0.length=0:=by rw[<-JD s0,h];rfl
      omega
     |some x=>exact⟨_,_,_,rfl⟩
    subst ax
    have hi:O i=none:=hm.1
    rw[R8,show mD (some (i,cap,rest)) p.nodes.length=.sref i 0 p.nodes.length cap from rfl]
    have bp:(Bq p).parents=p.classes.map (·.parents):=rfl
    have bG:(Bq p).parents.length=p.classes.length:=by rw[bp,List.length_map]
    have bM:(Bq p).owner.length=wtL (fun c:BClass=>c.slots.length) p.classes:=C4 _ _
    repeat' first|refine gz ?_|refine B9 (LB p _ (by omega) (fun c hc=>(ap c hc).1) (fun c hc=>(ap c hc).2) (by rw[C4];omega)) ?_|refine callP (LB p _ (by omega) (fun c hc=>(ap c hc).1) (fun c hc=>(ap c hc).2) (by rw[C4];omega)) ?_|refine gz ?_ o67|apply gy<;>intro hh
    refine BX [1,5,7,10,138,139,140,141,142,143,144,145,146,147,148,149,150,151,152,153,154,155] (fun (j:Nat) (s:List Int)=>j<=p.methods.length/\s.length=p.nodes.length/\Cx p p.methods s0=Cx p (p.methods.drop j) s) (fun j _=>[(8,dI j)]) (fun _ s=>O.set i (.cells (rowI s rest))) (fun j _=>p.methods.length-j) (0) (s0) (by exact⟨by omega,aP,rfl⟩) (fun j s hI=>?_)
    obtain⟨hj,aC,hM⟩:=hI
    by_cases ae:j<p.methods.length
    ·rw [A4 ae,Cx] at hM
     have bn:=p6 j ae
     generalize am:p.methods[j]=m at hM bn
     have aN:m.wt=1+m.fact.wt:=rfl
     have hsz:=Fact.size_le m.fact
     have aA:=T8 (Bq p) m.fact (O.set i (.cells (rowI s rest))) (by omega) (by omega) (by omega)
     have bB:∀g:Nat,m.gen=g->(hg:g<p.gens.length)->p.gens.getD m.gen.toNat 0=p.gens[g]:=fun g e hg=>by
      rw[e,show((g:Int)).toNat=g by omega,List.getD_eq_getElem?_getD,List.getElem?_eq_getElem hg];rfl
     have bad:F8 p m=false->Fe p=none:=fun h=>by rw[hL,hM,h];rfl
     by_cases k1:1<=m.kind
     ·by_cases k2:m.kind<=4
      ·by_cases g1:0<=m.gen
       ·by_cases g2:m.gen<p.gens.length
        ·obtain⟨g,aG⟩:∃g:Nat,m.gen=g:=⟨m.gen.toNat,by omega⟩
         have aE:g<p.gens.length:=by omega
         have aU:=bB g aG aE
         cases aK:DS (Bq p) m.fact with
         |false=>
          rw[aK]at aA
          have i1:=Ans.of aA
          have hb:=bad (by unfold F8;rw[aK];simp)
          try refine gf (gi am aG) ?_ o67
          exact fe2 (d':=sl []) hb
         | true =>
          rw[aK]at aA
          have i1:=Ans.of aA
          by_cases bb:m.fact.speaks<=p.gens[g]
          ·have bx:F8 p m=true:=by unfold F8;rw[aK,aU,decide_eq_true (by omega),decide_eq_true (by omega),decide_eq_true bb];rfl
           rw[bx,if_pos rfl,aU]at hM
           have bC:=List.all_eq_true.1 hJ _ (List.getElem_mem aE)
           simp only[decide_eq_true_eq]at bC
           try refine gf (gi am aG) ?_ (delO 20 o67)
           refine EP (id:=20) [0,1,2,3,4,5,6,7,8,9,10,12,11,13,14] [11,13] (fun _=>none) (fun _ _ h=>by cases h) ?_
           have ba:Sub (fun _=>none) (O.set i (.cells (rowI s rest))):=fun _ _ h=>by cases h
           try refine gf aG ?_ (delO 20 o67)
           refine B2 (Ey p 12 m.node (p.gens[g]) (decide (m.kind=1)||decide (m.kind=4)) i cap s rest _ (by omega) (w6 ..) aC ⟨by omega,by omega⟩ hp) (fun d U' hx=>?_) (fun d U' hx=>by cases hx.1)
           obtain⟨ak,rfl⟩:=hx
           cases ak
           rw[w8]
           refine⟨fun _ _ h=>(by cases h),?_⟩
           simp only[putD]
           have ac:=Cc p (decide (m.kind=1)||decide (m.kind=4)) 12 m.node (p.gens[g]) s
           rcases hr:Bx p (decide (m.kind=1)||decide (m.kind=4)) 12 m.node (p.gens[g]) s with⟨b,s2⟩
           rw[hr]at hM ac
           simp only at ac
           cases b with
           |false=>
            simp only at hM
            have hb:Fe p=none:=by rw[hL,hM]
            try refine gz ?_ (delO 20 o67)
            exact fe2 (d':=sl []) hb
           |true=>
            simp only at hM
            try refine gz ?_ (delO 20 o67)
            exact⟨j+1,s2,⟨by omega,by omega,hM⟩,td1,wkR⟩
          ·have hb:=bad (by unfold F8;rw[aU,decide_eq_false bb];simp)
           try refine gf (gi am aG) ?_ o67
           exact fe2 (d':=sl []) hb
        ·have hb:=bad (by unfold F8;rw[decide_eq_false (p:=0<=m.gen/\m.gen<p.gens.length) (by omega)];simp)
         try refine gf am ?_ o67
         exact fe2 (d':=sl []) hb
       ·have hb:=bad (by unfold F8;rw[decide_eq_false (p:=0<=m.gen/\m.gen<p.gens.length) (by omega)];simp)
        try refine gf am ?_ o67
        exact fe2 (d':=sl []) hb
      ·have hb:=bad (by unfold F8;rw[decide_eq_false (p:=1<=m.kind/\m.kind<=4) (by omega)];simp)
       try refine gf am ?_ o67
       exact fe2 (d':=sl []) hb
     ·have hb:=bad (by unfold F8;rw[decide_eq_false (p:=1<=m.kind/\m.kind<=4) (by omega)];simp)
      try refine gf am ?_ o67
      exact fe2 (d':=sl []) hb
    ·rw [A9 ae,Cx] at hM
     rw[hM]at hL
     simp only at hL
     try refine gz ?_ o67
     refine A7 (Ey p 12 p.main 0 false i cap s rest _ (by omega) (w6 ..) aC ⟨by omega,by omega⟩ hp) (fun d U' hx=>?_) (fun d U' hx=>by cases hx.1)
     obtain⟨ak,rfl⟩:=hx
     cases ak
     rw[w8]
     simp only[putD]
     have ac:=Cc p false 12 p.main 0 s
     rcases hr:Bx p false 12 p.main 0 s with⟨b,s2⟩
     rw[hr]at hL ac
     simp only at ac
     cases b with
     |false=>
      simp only at hL
      try refine gz ?_ o67
      exact fe2 (d':=sl []) hL
     | true =>
      simp only at hL
      have hm2:mOK O 1 (some (i,cap,rest)) (cI s2):=mOK_len hm (by omega)
      have aD:s2.length=p.nodes.length:=by omega
      try refine gz ?_ o67
      rw[<-R8 O i cap]
      refine Hn (K4 (t:=5) hm2 (by rw[JD,aD];rfl)) ?_
      refine C1 [5,155] (fun (j:Nat)=>j<=s2.length/\s2.all (fun n=>decide (0<=n))=(s2.drop j).all (fun n=>decide (0<=n))) (fun j=>[(10,dI j)]) (fun _=>O) (fun j=>s2.length-j) (0) (by simp) (fun j hI=>?_)
      obtain⟨hj,hA⟩:=hI
      by_cases ae:j<s2.length
      ·rw[A4 ae,List.all_cons]at hA
       by_cases h0:0<=s2[j]
       ·rw[decide_eq_true h0,Bool.true_and]at hA
        try refine gz ?_ o67
        exact⟨j+1,⟨by omega,hA⟩,td1,wkR⟩
       ·rw[decide_eq_false h0,Bool.false_and]at hA
        rw[hA]at hL
        try refine gz ?_ o67
        exact fe2 (d':=sl []) hL
      ·rw[A9 ae,List.all_nil]at hA
       rw[hA]at hL
       try refine gz ?_ o67
       exact fe2 (d':=sl (cI s2)) hL
@[reducible,instance] def a67:=fun p O=>ah1 (@V9 p O)
end Go.DL
namespace Go.DL
open Go.Proofs.Tryz
open Go Go.Proofs
set_option maxHeartbeats 4000000
def idxF{α:Type}(q:α->Bool):List α->Nat->Int
 |[],_=> -1
 |x::r,k=>if q x then k else idxF q r (k+1)
theorem Du{α:Type}(q:α->Bool): ∀(l:List α) (k:Nat),decide (0<=idxF q l k)=l.any q
 |[],_=>rfl
 |x::r,k=>by
  rw[idxF,List.any_cons]
  cases hq:q x
  ·simp only[Bool.false_eq_true,if_false,Bool.false_or];exact Du q r (k+1)
  ·simp
theorem MC(l:List Int)(q:Int->Bool)(g:Nat)(cap:List D)(o:Own)(O:Sig)(hl:l.length<=1073741824)
  (hg:∀x∈l,DCall prog g ([]++[dI x]++cap) O fun r S''=>r=.ret (.bool (q x))/\S''=O) :
  DCall prog 230 [.slice (cI l) o,.func (.func g) [] cap] O (rS (dI (idxF q l 0)) O):=by
 refine en func230 ntmps230 ?_
 refine gz ?_
 refine C1 [0,1,7] (fun (k:Nat)=>k<=l.length/\idxF q l 0=idxF q (l.drop k) k) (fun k=>[(8,dI k)]) (fun _=>O) (fun k=>l.length-k) (0) td3 (fun k hI=>?_)
 obtain⟨hk,hR⟩:=hI
 by_cases h:k<l.length
 ·rw[A4 h,idxF]at hR
  repeat' first|refine B9 (hg (l[k]) (List.getElem_mem h)) ?_|refine callP (hg (l[k]) (List.getElem_mem h)) ?_|refine gf h ?_|apply gy<;>intro hh
  ·exact fe1 hR
  ·exact⟨k+1,⟨by omega,by rw[hR,hh];rfl⟩,td1,wkR⟩
 ·refine gf h ?_
  (refine fin1 (U':=O) ?_;exact⟨by first|rfl|(simp[hR,A9 h,idxF];done)|(simp_all [hR,A9 h,idxF];done)|(rw[Ad,Bool.eq_iff_iff];simp_all [hR,A9 h,idxF]<;>omega),rfl⟩)
theorem MP(l:List Int)(q:Int->Bool)(g:Nat)(cap:List D)(o:Own)(O:Sig)(hl:l.length<=1073741824)
  (hg:∀x∈l,DCall prog g ([]++[dI x]++cap) O fun r S''=>r=.ret (.bool (q x))/\S''=O) :
  DCall prog 151 [.slice (cI l) o,.func (.func g) [] cap] O (rS (.bool (l.any q)) O):=by
 refine en func151 ntmps151 ?_
 repeat' first|refine gz ?_|refine B9 (MC l q g cap o O hl hg) ?_|refine callP (MC l q g cap o O hl hg) ?_|refine gz ?_|apply gy<;>intro hh
 (refine fin1 (U':=O) ?_;exact⟨by first|rfl|(simp[Du];done)|(simp_all [Du];done)|(rw[Ad,Bool.eq_iff_iff];simp_all [Du]<;>omega),rfl⟩)
theorem Mz(i:Nat)(b:Bool)(O:Sig)(hi:O i=some (.cells [.bool b])):LR prog 249 [.ptr i 0] O none O/\LR prog 249 [.ptr i 0] O (some unf) (O.set i (.cells [.bool false])):=by
 constructor
 ·refine OW func249 rfl ntmps249 (by simp) (by decide) (by decide) rfl ?_
  simp only[Option.getD_none]
  repeat' first|refine gz ?_|apply gy<;>intro hh
  exact⟨.inl rfl,rfl,Sub.refl _⟩
 ·refine OW func249 rfl ntmps249 (by simp) (by decide) (by decide) rfl ?_
  simp only[Option.getD_some]
  repeat' first|refine gf hi ?_|apply gy<;>intro hh
  exact⟨.inl rfl,rfl,Sub.refl _⟩
theorem L9{O:Sig}{i:Nat}{o:DObj}:Sub (O.del i) (O.set i o):=fun j x h=>by
 by_cases hj:j=i
 ·subst hj;simp[Sig.del]at h
 ·rw[w7 _ _ hj];simpa[Sig.del,hj] using h
theorem SV(g:Nat)(cap:List D)(O:Sig)(R:Sig->DE->Sig->Prop)
  (hg:∀i,O i=none->DCall prog g cap (O.set i (.cells [.bool false])) (R (O.set i (.cells [.bool false]))))
  (hR:∀U' d S'',R U' (.panic d) S''->d=unf) (hk:∀i S'' x,O i=none->R (O.set i (.cells [.bool false])) x S''->S'' i=some (.cells [.bool false])) :
  DCall prog 194 [.func (.func g) [] cap] O fun x U'=> ∃i S'',O i=none/\U'=S''.del i /\
   ((∃d,R (O.set i (.cells [.bool false])) (.ret d) S''/\x=.ret (.bool true))\/(R (O.set i (.cells [.bool false])) (.panic unf) S''/\x=.ret (.bool false))):=by
 refine Hs (fd:=249) func194 rfl (BV func249 (by rfl) (by rfl)) (by rw[Ai];decide) (by decide) ntmps194 (by simp) ?_
 refine gz ?_ [] [2]
 refine newV (fun i hi=>?_)
 refine gz ?_ [] [2]
 refine KN (f:=249) (by rw[Ai];decide) rfl rfl ?_
 refine gz ?_ [] [2]
 refine A7 (hg i hi) (fun d U' hr=>?_) (fun d U' hp=>?_)
 ·have aJ:=hk i U' _ hi hr
  refine gf aJ ?_ [] [2]
  refine⟨_,Wk.refl _ _ _,[.ptr i 0],U'.set i (.cells [.bool true]),.bool true,rfl,(Mz i true _ (w6 ..)).1,DJ (ds:=[.bool true]) Af ?_,.ret (.bool true),U'.del i,Ab _,L9,i,U',hi,rfl,.inl ⟨d,hr,rfl⟩⟩
  simp[resL]
 ·have aJ:=hk i U' _ hi hp
  obtain rfl:=hR _ _ _ hp
  refine gz ?_ [] [2]
  refine⟨_,Wk.refl _ _ _,[.ptr i 0],U'.set i (.cells [.bool false]),.bool false,rfl,(Mz i false _ aJ).2,DJ (ds:=[.bool false]) Af ?_,.ret (.bool false),U'.del i,Ab _,L9,i,U',hi,rfl,.inr ⟨hp,rfl⟩⟩
  simp[resL]
end Go.DL
namespace Go.DL
open Go.Proofs.Tryz
open Go Go.Proofs
set_option maxHeartbeats 8000000
theorem Vj(p:BProg)(O:Sig)(hp:p.wt<=1073741824:=by exact sd):
  DCall prog 29 [.agg (Ac p)] O (rS (.bool (Fe p).isSome) O):=by
 refine en func29 ntmps29 ?_
 try refine gz ?_
 exact fe1 trivial
@[reducible,instance] def a29:=fun p O=>ah1 (@Vj p O)
theorem Sx(g:List (List Int))(o:Own)(O:Sig)(hl:g.length<=1073741824:=by exact sd)(ac:∀x∈g,x.length<=1073741824:=by exact sd):
  DCall prog 251 [.slice (cII g) o] O (rS (dI (if Bb g then 0 else 2)) O):=by
 refine en func251 ntmps251 ?_
 cases h:Bb g with
 |false=>
  try refine gf h ?_
  exact fe1 trivial
 |true=>
  try refine gf h ?_
  exact fe1 trivial
@[reducible,instance] def a251:=fun g o O=>ah2 (@Sx g o O)
def B4:Int->List BClass->Option Int
 |n,[]=>some n
 |n,c::r=>if 4<c.slots.length then none else match Cu n c.slots with
  |none=>none
  |some m=>B4 m r
def DQ(bj:List Int):List Int->List Init->Bool
 |_,[]=>true
 |seen,x::r=>(decide (x.slot∈bj)&&!decide (x.slot∈seen)&&inB x.n)&&DQ bj (seen++[x.slot]) r
def B8(p:BProg):Nat->List BClass->Bool
 |_,[]=>true
 |i,c::r=>decide (linE (p.classes.map (·.parents)) ((i:Int)+3)=0)&&DQ (hasP p ((i:Int)+3)) [] c.inits&&B8 p (i+1) r
def Ap(p:BProg):Bool:=decide (p.classes.length<=10)&&match B4 0 p.classes with
 |none=>false
 |some n=>decide (n=p.slots)&&Bb (p.classes.map (·.parents))&&B8 p 0 p.classes
theorem ET(cs:List BClass): ∀(n:Nat) (up out:List Int),(hasG cs n up out).length<=out.length+wtL (fun c:BClass=>c.slots.length) (cs.take n)
 |0,_,out=>by rw[hasG];omega
 | n+1,up,out=>by
  rw[hasG]
  by_cases h:n<cs.length
  ·rw[List.getElem?_eq_getElem h,EG _ _ _ h]
   simp only
   split
   ·have:=ET cs n (Gh (cs[n]).parents up) (out++(cs[n]).slots)
    rw[List.length_append]at this;omega
   ·have:=ET cs n up out;omega
  ·rw[List.getElem?_eq_none (by omega)]
   have:=ET cs n up out
   rw[List.take_of_length_le (by omega)]at this⊢
   exact this
theorem CD(p:BProg)(c:Int):(hasP p c).length<=wtL (fun c:BClass=>c.slots.length) p.classes:=by
 unfold hasP
 have h1:=GT (hasG p.classes (c-2).toNat [c] [])
 have h2:=ET p.classes (c-2).toNat [c] []
 have h3:=Cz (fun c:BClass=>c.slots.length) p.classes (c-2).toNat
 simp only[List.length_nil]at h2
 omega
theorem ins_new{k:Int}{s:List Int}(h:k∉s):ins k s=s++[k]:=by unfold ins;rw[if_neg h]
theorem SU (p:BProg) (O:Sig) (hp:p.wt<=1073741824:=by exact sd):DCall prog 196 [.agg (Ac p)] O fun x U'=>x=(if Ap p then .ret (.tup []) else .panic unf)/\U'=O:=by
 obtain⟨p1,p2,p3,p4,p5,p6,p7⟩:=p.wt_le
 have ws:=Dm p
 have ap:∀c∈p.classes,c.parents.length<=1073741824/\c.slots.length<=1073741824/\c.inits.length<=1073741824:=fun c hc=>by
  obtain⟨k,hk,rfl⟩:=List.getElem_of_mem hc
  have:=p5 k hk
  have aN:(p.classes[k]).wt=1+(p.classes[k]).parents.length+(p.classes[k]).slots.length+(p.classes[k]).inits.length:=rfl
  omega
 have bF:∀c∈p.classes,c.parents.length<=1073741824:=fun c hc=>(ap c hc).1
 have bI:∀x∈p.classes.map (·.parents),x.length<=1073741824:=fun x hx=>by obtain⟨c,hc,rfl⟩:=List.mem_map.1 hx;exact(ap c hc).1
 refine en func196 ntmps196 ?_
 by_cases bm:p.classes.length<=10
 ·repeat' first|refine gz ?_|apply gy<;>intro hh
  ·refine BX [1,7,8,9,10,11,12,13,15,22,23,48,49,50,51,52,53,54,55,56,57,58,59,60,61,62,63,64,65,66,67,68,69,70,71,72,73,74,75,76,77,78,79,80,81,82,83,84,85,86,87,88,89,90,91,92,93,94,95,96,97,98,99,100,101,102,103,104,105,106,107,108,109,110,111] (fun (i:Nat) (n:Int)=>i<=p.classes.length/\n=wtL (fun c:BClass=>c.slots.length) (p.classes.take i)/\B4 0 p.classes=B4 n (p.classes.drop i)) (fun i n=>[(24,dI i),(2,dI n)]) (fun _ _=>O) (fun i _=>p.classes.length-i) (0) (0) (by simp[wtL]) (fun i n hI=>?_)
   obtain⟨hi,hn,hR⟩:=hI
   by_cases h:i<p.classes.length
   ·have hx:=ap _ (List.getElem_mem h)
    have hT:=EG (fun c:BClass=>c.slots.length) p.classes i h
    have b8:=Cz (fun c:BClass=>c.slots.length) p.classes (i+1)
    rw[A4 h,B4]at hR
    by_cases h4:4<(p.classes[i]).slots.length
    ·have hc:B4 0 p.classes=none:=by rw[hR,if_pos h4]
     have hF:Ap p=false:=by unfold Ap;rw[hc];simp
     repeat' first|((with_reducible refine finP (U':=O) ?_);exact⟨by first|(simp[hF];done)|(simp_all [hF];done),rfl⟩)|refine gz ?_|apply gy<;>intro hh
    ·rw[if_neg h4]at hR
     generalize aP:(p.classes[i]).slots=sl' at*
     try refine gf aP ?_
     refine C1 [1,4,7,8,9,10,11,12,13,15,22,23,24,25,26,27,28,29,30,31,32,33,34,35,47,48,49,50,51,52,53,54,55,56,57,58,59,60,61,62,63,64,65,66,67,68,69,70,71,72,73,74,75,76,77,78,79,80,81,82,83,84,85,86,87,88,89,90,91,92,93,94,95,96,97,98,99,100,101,102,103,104,105,106,107,108,109,110,111] (fun (q:Nat)=>q<=sl'.length/\Cu n sl'=Cu (n+q) (sl'.drop q)) (fun q=>[(36,dI q),(2,dI (n+q))]) (fun _=>O) (fun q=>sl'.length-q) (0) (by simp) (fun q hI=>?_)
     obtain⟨hq,hQ⟩:=hI
     by_cases bd:q<sl'.length
     ·rw[A4 bd,Cu]at hQ
      have bJ:=hx.2.1
      have bz:0<=n:=by omega
      have bO:n<=1073741824:=by omega
      by_cases aQ:sl'[q]=n+q
      ·rw[if_pos aQ]at hQ
       try refine gf aQ ?_
       exact⟨q+1,⟨by omega,by rw[hQ,Int.add_assoc];rfl⟩,td1,wkR⟩
      ·rw[if_neg aQ]at hQ
       have hc:B4 0 p.classes=none:=by rw[hR,hQ]
       have hF:Ap p=false:=by unfold Ap;rw[hc];simp
       repeat' first|((with_reducible refine finP (U':=O) ?_);exact⟨by first|(simp[hF];done)|(simp_all [hF];done),rfl⟩)|refine gz ?_|apply gy<;>intro hh
     ·rw[A9 bd,Cu]at hQ
      rw[hQ]at hR
      have bc:q=sl'.length:=by omega
      try refine gz ?_
      exact⟨i+1,n+q,⟨by omega,by rw[hT];omega,hR⟩,td1,wkR⟩
   ·rw [A9 h,B4] at hR
    by_cases hs:n=p.slots
    ·cases hg:Bb (p.classes.map (·.parents))with
     |false=>
      have hF:Ap p=false:=by unfold Ap;rw[hR,hg];simp
      repeat' first|((with_reducible refine finP (U':=O) ?_);exact⟨by first|(simp[hF];done)|(simp_all [hF];done),rfl⟩)|refine gf hg ?_|apply gy<;>intro hh
     | true =>
      have aL:Ap p=B8 p 0 p.classes:=by unfold Ap;rw[hR];simp[hs,hg,bm]
      try refine gf hg ?_
      refine C1 [1,7,61,62] (fun (j:Nat)=>j<=p.classes.length/\B8 p 0 p.classes=B8 p j (p.classes.drop j)) (fun j=>[(63,dI j)]) (fun _=>O) (fun j=>p.classes.length-j) (0) (by simp) (fun j hI=>?_)
      obtain⟨hj,hJ⟩:=hI
      by_cases h':j<p.classes.length
      ·have hx:=ap _ (List.getElem_mem h')
       have bV:=CD p ((j:Int)+3)
       rw[A4 h',B8]at hJ
       by_cases hl:linE (p.classes.map (·.parents)) ((j:Int)+3)=0
       ·rw[decide_eq_true hl,Bool.true_and]at hJ
        generalize bf:(p.classes[j]).inits=ins' at hJ hx
        try refine gf (gi bf hl) ?_
        refine newSI (fun im bT=>?_)
        try refine gf bf ?_
        refine C1 [1,7,8,9,10,11,12,13,61,62,63,64,65,66,67,68,69,70,71,72,73,74,75,76,77,78,79,80,81,82,83,84,85,111] (fun (k:Nat)=>k<=ins'.length/\DQ (hasP p ((j:Int)+3)) [] ins'=DQ (hasP p ((j:Int)+3)) ((ins'.take k).map (·.slot)) (ins'.drop k)) (fun k=>[(86,dI k)]) (fun k=>O.set im (.map (eSI ((ins'.take k).map (·.slot))))) (fun k=>ins'.length-k) (0) (by simp) (fun k hI=>?_)
        obtain⟨hk,hK⟩:=hI
        by_cases ah:k<ins'.length
        ·have bU:=hx.2.2
         rw[A4 ah,DQ]at hK
         repeat' first|((with_reducible refine finP (U':=O) ?_);exact⟨by first|(simp[aL,hJ,hK];done)|(simp_all [aL,hJ,hK];done),rfl⟩)|refine gz ?_|apply gy<;>intro hh
         rename_i q1 q2
         have q3:¬ins'[k].slot∈(ins'.take k).map (·.slot):=by simpa using q2
         have q4:(ins'.take (k+1)).map (·.slot)=(ins'.take k).map (·.slot)++[ins'[k].slot]:=by rw[List.take_succ_eq_append_getElem ah,List.map_append];rfl
         have q5:=ins_new q3
         simp only[<-List.map_take,q5,<-q4]
         exact⟨k+1,by refine⟨by omega,?_⟩;rw[hK,hh,decide_eq_true q1,decide_eq_false q3,q4];rfl,td1,wkR⟩
        ·rw[A9 ah,DQ]at hK
         rw[hK,Bool.true_and]at hJ
         try refine gz ?_
         exact⟨j+1,⟨by omega,hJ⟩,td1,wkR⟩
       ·rw[decide_eq_false hl,Bool.false_and,Bool.false_and]at hJ
        have hF:Ap p=false:=by rw[aL,hJ]
        repeat' first|((with_reducible refine finP (U':=O) ?_);exact⟨by first|(simp[hF];done)|(simp_all [hF];done),rfl⟩)|refine gz ?_|apply gy<;>intro hh
      ·rw[A9 h',B8]at hJ
       have hF:Ap p=true:=by rw[aL,hJ]
       try refine gz ?_
       exact fe0 hF
    ·have hF:Ap p=false:=by unfold Ap;rw[hR];simp[hs]
     repeat' first|((with_reducible refine finP (U':=O) ?_);exact⟨by first|(simp[hF];done)|(simp_all [hF];done),rfl⟩)|refine gz ?_|apply gy<;>intro hh
 ·have hF:Ap p=false:=by unfold Ap;rw[decide_eq_false bm];rfl
  repeat' first|((with_reducible refine finP (U':=O) ?_);exact⟨by first|(simp[hF];done)|(simp_all [hF];done),rfl⟩)|refine gz ?_|apply gy<;>intro hh
@[reducible,instance] def a196:=fun p O=>gh1 (@SU p O)
theorem Qa{x:Int}(h0:0<=x)(h1:x<18446744073709551616):IntKind.u64.wrap x=x:=by
 have e1:(2:Int) ^ IntKind.u64.bits=18446744073709551616:=by decide
 have e3:IntKind.u64.signed=false:=rfl
 simp only[IntKind.wrap,e1,e3,Bool.false_and,Bool.false_eq_true,if_false]
 omega
theorem andU(n:Nat)(h:n<=1073741824):binD .and (.int .u64 n) (.int .u64 4294967295)=some (.int .u64 n):=by
 simp only[binD,if_true]
 have e:((BitVec.ofInt IntKind.u64.bits (n:Int) &&& BitVec.ofInt IntKind.u64.bits 4294967295).toNat)=n:=by
  rw[BitVec.toNat_and]
  show(BitVec.ofInt 64 (n:Int)).toNat &&& (BitVec.ofInt 64 4294967295).toNat=n
  rw[show(4294967295:Int)=((2 ^ 32-1:Nat):Int) from rfl,BitVec.ofInt_natCast,BitVec.ofInt_natCast,BitVec.toNat_ofNat,BitVec.toNat_ofNat]
  rw[Nat.mod_eq_of_lt (by omega),Nat.mod_eq_of_lt (by omega),Nat.and_two_pow_sub_one_eq_mod,Nat.mod_eq_of_lt (by omega)]
 rw[e,Qa (by omega) (by omega)]
theorem shrU(k:IntKind)(n:Nat)(h:n<=1073741824):binD .shr (.int .u64 n) (.int k 32)=some (.int .u64 0):=by
 simp only[binD]
 rw[if_pos (by decide)]
 congr 2
 show(n:Int).fdiv (2 ^ 32)=0
 rw[Int.fdiv_eq_ediv_of_nonneg _ (by decide)]
 omega
theorem S9(n:Nat)(O:Sig)(hn:n<=1073741824:=by exact sd):DCall prog 303 [.int .u64 1,.int .u64 n] O (rS (.tup [.int .u64 0,.int .u64 n]) O):=by
 have a1:binD .and (.int .u64 1) (.int .u64 4294967295)=some (.int .u64 1):=andU 1 (by omega)
 have a0:binD .and (.int .u64 0) (.int .u64 4294967295)=some (.int .u64 0):=andU 0 (by omega)
 have an:=andU n hn
 have s1:∀k,binD .shr (.int .u64 1) (.int k 32)=some (.int .u64 0):=fun k=>shrU k 1 (by omega)
 have s0:∀k,binD .shr (.int .u64 0) (.int k 32)=some (.int .u64 0):=fun k=>shrU k 0 (by omega)
 have sn:=fun k=>shrU k n hn
 have wn:IntKind.u64.wrap (n:Int)=n:=Qa (by omega) (by omega)
 have w0:IntKind.u64.wrap 0=0:=Qa (by omega) (by omega)
 refine en func303 ntmps303 ?_
 refine gf (gi a1 (gi a0 (gi an (gi s1 (gi s0 (gi sn (gi wn w0))))))) ?_
 exact fe2 trivial
@[reducible,instance] def a303:=fun n O=>ah1 (@S9 n O)
theorem Su(n:Nat)(O:Sig)(hn:n<=1073741824:=by exact sd):DCall prog 254 [.int .u64 1,.int .u64 n] O (rS (.tup [.int .u64 0,.int .u64 n]) O):=by
 refine en func254 ntmps254 ?_
 refine gz ?_
 exact fe2 trivial
@[reducible,instance] def a254:=fun n O=>ah1 (@Su n O)
theorem SS(n:Nat)(O:Sig)(h1:1<=n)(hn:n<=1048576):DCall prog 198 [.slice [[dI (-1)]] .no,dI n] O fun x U'=> ∃r,O r=none/\x=.ret (.sref r 0 n n)/\U'=O.set r (.cells ((List.replicate n (-1:Int)).map dI)):=by
 have wn:IntKind.u64.wrap (n:Int)=n:=Qa (by omega) (by omega)
 have w1:IntKind.u64.wrap 1=1:=Qa (by omega) (by omega)
 refine en func198 ntmps198 ?_
 refine gf (gi wn w1) ?_ o198
 refine mmake (k:=n) (c:=n) (sz:=1) (z:=[dI 0]) (fun i hi hm=>?_)
 have e0:mS O (some (i,n,(List.replicate (n-n) [dI 0]).flatten)) (List.replicate n [dI 0])=O.set i (.cells (List.replicate n (dI 0))):=by simp[mS]
 rw[e0]
 refine gz ?_ o198
 refine KP Af (m:=1) (cs:=[dI (-1)]) (e:=3) (i:=i) (off:=0) (len:=n) (cap:=n) (ds:=List.replicate n (dI 0)) (by decide) (by simp<;>rfl) (by simp) (by simp) tdR (w6 ..) (by simp) (Qr (es:=[[dI (-1)]]) tdR (by simp)) (by rfl) ?_
 have e1:(O.set i (.cells (List.replicate n (dI 0)))).set i (.cells (List.take 0 (List.replicate n (dI 0))++(List.take (min 1 n) [dI (-1)]++List.drop (0+min 1 n) (List.replicate n (dI 0)))))=O.set i (.cells (List.replicate 1 (dI (-1))++List.replicate (n-1) (dI 0))):=by
  rw[w8,show min 1 n=1 by omega];simp
 rw[e1,show((min 1 n:Nat):Int)=1 by omega]
 refine gz ?_ o198
 refine C1 [4,7,47] (fun (b:Nat)=>1<=b/\b<=n) (fun b=>[(8,dI b)]) (fun b=>O.set i (.cells (List.replicate b (dI (-1))++List.replicate (n-b) (dI 0)))) (fun b=>n-b) (1) (by omega) (fun b hI=>?_)
 obtain⟨aV,bZ⟩:=hI
 by_cases h:b<n
 ·refine gz ?_
  refine EP (id:=9) [0,1,2,3,4,5,6,7,8,9] [7] O ((Sub.refl _).set hi) ?_
  refine gz ?_ o198
  refine mo_cutL Af (i:=i) (off:=0) (len:=n) (cap:=n) (lo:=b) (e:=3) (k:=.i64) ?_ (by decide) (by simp<;>rfl) (by simp) tdR tdR (by omega) (by omega)
  rw[show 0+b*(tab 3).size=b by simp]
  refine gz ?_ o198
  refine QS Af (i:=i) (off:=0) (len:=n) (cap:=n) (hi:=b) (e:=3) (k:=.i64) ?_ (by decide) (by simp<;>rfl) (by simp) tdR tdR (by omega)
  refine mo1 (fun U2 hD=>?_) rfl
  have v1:=hD (.tmp 41) (by simp[Op.operands,Call.operands])
  have v2:=hD (.tmp 44) (by simp[Op.operands,Call.operands])
  have bY:(List.replicate b (dI (-1))++List.replicate (n-b) (dI 0)).length=n:=by simp;omega
  refine KP Af (m:=b) (cs:=((List.replicate b (dI (-1))++List.replicate (n-b) (dI 0)).drop 0).take b) (e:=3) (i:=i) (off:=b) (len:=n-b) (cap:=n-b) (ds:=List.replicate b (dI (-1))++List.replicate (n-b) (dI 0)) (by decide) (by simp<;>rfl) (by simp) (by simp) (by rw[v1];with_unfolding_all rfl) (w6 ..) (by omega) (by rw[v2];exact Ul (off:=0) (w6 ..) (by omega)) (by simp[Be,D.flat]) ?_
  have e2:List.take b (List.replicate b (dI (-1))++List.replicate (n-b) (dI 0))++(List.take (min b (n-b)) (List.take b (List.drop 0 (List.replicate b (dI (-1))++List.replicate (n-b) (dI 0))))++List.drop (b+min b (n-b)) (List.replicate b (dI (-1))++List.replicate (n-b) (dI 0)))=List.replicate (b+min b (n-b)) (dI (-1))++List.replicate (n-(b+min b (n-b))) (dI 0):=by
   have t1:List.take b (List.replicate b (dI (-1))++List.replicate (n-b) (dI 0))=List.replicate b (dI (-1)):=by rw[List.take_append_of_le_length (by simp)];simp
   have t2:List.drop (b+min b (n-b)) (List.replicate b (dI (-1))++List.replicate (n-b) (dI 0))=List.replicate (n-(b+min b (n-b))) (dI 0):=by
    rw[List.drop_append,List.drop_of_length_le (by simp),List.nil_append,List.drop_replicate];congr 1;simp;omega
   rw[List.drop_zero,t1,t2,<-List.append_assoc]
   congr 1
   rw[List.take_replicate,List.replicate_append_replicate];congr 1;omega
  rw[w8,e2]
  refine Av ⟨rfl,?_⟩
  refine⟨(Sub.refl _).set hi,?_⟩
  refine gz ?_ o198
  exact⟨b+min b (n-b),by omega,td1,wkR⟩
 ·have hb:b=n:=by omega
  subst hb
  refine gz ?_ o198
  refine fin1 (U':=O.set i (.cells ((List.replicate b (-1)).map dI))) ?_ (hZ:=by simp;exact Sub.refl _)
  exact⟨i,hi,rfl,rfl⟩
def OutO{S:Type}(u r:D)(Good:Sig->S->Prop)(Bad:Sig->Prop)(touch:Nat->Prop)(O:Sig):Option S->DE->Sig->Prop
 |none,x,U'=>x=.panic u/\Bad U'
 |some s,x,U'=>x=.ret r/\Good U' s /\ ∀j o,O j=some o->¬touch j->U' j=some o
theorem OutO.ret{S:Type}{u r d:D}{Good:Sig->S->Prop}{Bad:Sig->Prop}{touch:Nat->Prop}{O U':Sig}{o:Option S}(h:OutO u r Good Bad touch O o (.ret d) U'): ∃s,o=some s/\d=r/\Good U' s /\ ∀j o,O j=some o->¬touch j->U' j=some o:=by
 cases o with
 |none=>exact absurd h.1 (by simp)
 |some s=>exact⟨s,rfl,by simpa using h.1,h.2⟩
theorem OutO.pan{S:Type}{u r d:D}{Good:Sig->S->Prop}{Bad:Sig->Prop}{touch:Nat->Prop}{O U':Sig}{o:Option S}(h:OutO u r Good Bad touch O o (.panic d) U'):o=none/\d=u/\Bad U':=by
 cases o with
 |none=>exact⟨rfl,by simpa using h.1,h.2⟩
 |some s=>exact absurd h.1 (by simp)
section
variable {S:Type}
def Lt(f:Int->Int->S->Option S)(x:BNode)(size:Int):Nat->List Int->S->Option S
 |_,[],s=>some s
 |j,c::r,s=>match f c (if x.op=9/\j=1 then size+1 else size) s with
  |none=>none
  |some s'=>Lt f x size (j+1) r s'
def GK(p:BProg)(step:Nat->Int->Int->S->Option S):Nat->Int->Int->S->Option S
 |0,_,_,_=>none
 |k+1,node,size,s=>match step (k+1) node size s with
  |none=>none
  |some s'=>Lt (GK p step k) (A1 p node) size 0 (A1 p node).kids s'
end
theorem Sq{S:Type}(p:BProg)(l i:Nat)(Good:Sig->S->Prop)(Bad:Sig->Prop)(touch:Nat->Prop)(step:Nat->Int->Int->S->Option S)(hp:p.wt<=1073741824)(aZ:¬touch i)
  (aI:∀node size s,step 0 node size s=none) (bq:∀k node size s s',step k node size s=some s'->0<=node/\node<p.nodes.length)
  (hy:∀(k:Nat) (d node size:Int) O s,d=13-(k:Int)->0<=size->size+k<=1000->Good O s->DYield prog l [dI node,.agg [dI size,dI d]] O (OutO unf (.bool true) Good Bad touch O (step k node size s))) :
  ∀(k:Nat) (d node size:Int) O s,d=13-(k:Int)->0<=size->size+k<=1000->k<=13->Good O s->O i=some (.cells [.func (.func 256) [] [.cptr [.yld l] 0,.cptr (Ac p) 0,.ptr i 0]])->
   DCall prog 256 [dI node,.agg [dI size,dI d],.cptr [.yld l] 0,.cptr (Ac p) 0,.ptr i 0] O (OutO unf (.bool true) Good Bad touch O (GK p step k node size s)):=by
 obtain⟨p1,p2,p3,p4,p5,p6,p7⟩:=p.wt_le
 intro k
 induction k with
 | zero =>
  intro d node size O s hd h0 hsz hk hG hi
  refine en func256 ntmps256 ?_
  refine gz ?_
  refine yldW (hy 0 d node size O s hd h0 hsz hG) (fun e U' hr=>?_) (fun e U' hr=>?_)
  ·rw[aI]at hr;obtain⟨_,h,_⟩:=hr.ret;cases h
  ·obtain⟨_,rfl,hb⟩:=hr.pan
   exact finP (U':=U') ⟨rfl,hb⟩
 | succ k ih =>
  intro d node size O s hd h0 hsz hk hG hi
  refine en func256 ntmps256 ?_
  refine gz ?_ [] [10]
  refine yldW (hy (k+1) d node size O s hd h0 hsz hG) (fun e U' hr=>?_) (fun e U' hr=>?_)
  ·obtain⟨s',ax,rfl,bD,hK⟩:=hr.ret
   obtain⟨bz,bP⟩:=bq _ _ _ _ _ ax
   obtain⟨q,rfl⟩:∃q:Nat,node=(q:Int):=⟨node.toNat,by omega⟩
   have hq:q<p.nodes.length:=by omega
   have aJ:=hK i _ hi aZ
   have aS:A1 p q=p.nodes[q]:=by unfold A1;simp[List.getElem?_eq_getElem hq]
   have hW:GK p step (k+1) q size s=Lt (GK p step k) p.nodes[q] size 0 (p.nodes[q]).kids s':=by rw[GK,ax];simp only;rw[aS]
   rw[hW]
   have bR:(p.nodes[q]).kids.length<=1073741824:=by have:=p7 q hq;unfold BNode.wt at this;omega
   generalize hx:p.nodes[q]=x at*
   refine gf hx ?_ [] [10]
   refine Ga [0,3,4,6,21,22] (fun (j:Nat) (s1:S) (S1:Sig)=>j<=x.kids.length/\Good S1 s1/\Lt (GK p step k) x size 0 x.kids s'=Lt (GK p step k) x size j (x.kids.drop j) s1/\(∀j o,O j=some o->¬touch j->S1 j=some o)) (fun j _ _=>[(23,dI j)]) (fun _ _ S1=>S1) (fun j _ _=>x.kids.length-j) (0) (s') (U') (by exact⟨by omega,bD,by simp,hK⟩) (fun j s1 S1 hI=>?_)
   obtain⟨hj,bk,hR,aM⟩:=hI
   have ay:=aM i _ hi aZ
   by_cases ae:j<x.kids.length
   ·rw [A4 ae,Lt] at hR
    have bS:(k:Int)<=12:=by omega
    refine gf (gi hx ay) ?_ [] [10]
    refine newV (fun a ha=>?_)
    have bh:i≠a:=fun e=>by rw[e,ha]at ay;cases ay
    have hz:0<=(if x.op=9/\j=1 then size+1 else size)/\(if x.op=9/\j=1 then size+1 else size)+(k:Int)<=1000:=by split<;>omega
    have hc:=ih (d+1) x.kids[j] (if x.op=9/\j=1 then size+1 else size) S1 s1 (by omega) hz.1 hz.2 (by omega) bk ay
    by_cases hl:x.op=9/\j=1
    ·rw[if_pos hl]at hR hc
     obtain⟨bA,rfl⟩:=hl
     refine gf (gi hx (gi ay (gi bA bh))) ?_ [] [10]
     refine drp S1 ?_
     refine A7 hc (fun e S2 hr=>?_) (fun e S2 hr=>?_)
     ·obtain⟨s2,aD,rfl,aX,aW⟩:=hr.ret
      rw[aD]at hR
      refine gz ?_ [] [10]
      exact⟨1+1,s2,S2,⟨by omega,aX,hR,fun j o h1 h2=>aW _ _ (aM _ _ h1 h2) h2⟩,td1,wkR⟩
     ·obtain⟨hn,rfl,hb⟩:=hr.pan
      rw[hn]at hR;rw[hR]
      exact finP (U':=S2) ⟨rfl,hb⟩
    ·rw[if_neg hl]at hR hc
     have ac:¬(x.op=9/\(j:Int)=1):=by omega
     repeat' first|refine gf (gi hx (gi ay bh)) ?_ [] [10]|apply gy<;>intro hh
     all_goals
      refine drp S1 ?_
      refine A7 hc (fun e S2 hr=>?_) (fun e S2 hr=>?_)
      ·obtain⟨s2,aD,rfl,aX,aW⟩:=hr.ret
       rw[aD]at hR
       refine gz ?_ [] [10]
       exact⟨j+1,s2,S2,⟨by omega,aX,hR,fun j o h1 h2=>aW _ _ (aM _ _ h1 h2) h2⟩,td1,wkR⟩
      ·obtain⟨hn,rfl,hb⟩:=hr.pan
       rw[hn]at hR;rw[hR]
       exact finP (U':=S2) ⟨rfl,hb⟩
   ·rw[A9 ae,Lt]at hR
    rw[hR]
    refine gf hx ?_ [] [10]
    refine fin1 (U':=S1) ?_
    exact⟨rfl,bk,aM⟩
  ·obtain⟨ax,rfl,hb⟩:=hr.pan
   have hW:GK p step (k+1) node size s=none:=by rw[GK,ax]
   rw[hW]
   exact finP (U':=U') ⟨rfl,hb⟩
end Go.DL
