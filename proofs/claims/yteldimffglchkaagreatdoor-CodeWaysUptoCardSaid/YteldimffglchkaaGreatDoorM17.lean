/- A part of the proof. -/
import Derived.Test.YteldimffglchkaaGreatDoorM15
import Derived.Test.YteldimffglchkaaGreatDoorM16
import Derived.Test.YteldimffglchkaaGreatDoorM09
set_option linter.all false
namespace Go.DL
open Go.Proofs.Tryz
open Go Go.Proofs
set_option maxHeartbeats 8000000
def OutO{S:Type}(u r:D)(Good:Sig->S->Prop)(Bad:Sig->Prop)(touch:Nat->Prop)(O:Sig):Option S->DE->Sig->Prop
 |none,x,U'=>x=.panic u/\Bad U'
 |some s,x,U'=>x=.ret r/\Good U' s /\ ∀j o,O j=some o->¬touch j->U' j=some o
theorem OutO.ret{S:Type}{u r d:D}{Good:Sig->S->Prop}{Bad:Sig->Prop}{touch:Nat->Prop}{O U':Sig}{o:Option S}(h:OutO u r Good Bad touch O o (.ret d) U'): ∃s,o=some s/\d=r/\Good U' s /\ ∀j o,O j=some o->¬touch j->U' j=some o:=by
 cases o with
 |none=>exact absurd h.1 (by simp)
 |some s=>exact⟨s,rfl,by simpa using h.1,h.2⟩
theorem OutO.pan{S:Type}{u r d:D}{Good:Sig->S->Prop}{Bad:Sig->Prop}{touch:Nat->Prop}{O U':Sig}{o:Option S}(h:OutO u r Good Bad touch O o (.panic d) U'):o=none/\d=u/\Bad U':=by
 cases o with
 |none=>exact⟨rfl,by simpa using h.1,h.2⟩
 |some s=>exact absurd h.1 (by simp)
section
variable {S:Type}
def KR(f:Int->Int->S->Option S)(x:BNode)(size:Int):Nat->List Int->S->Option S
 |_,[],s=>some s
 |j,c::r,s=>match f c (if x.op=9/\j=1 then size+1 else size) s with
  |none=>none
  |some s'=>KR f x size (j+1) r s'
def FR(p:BProg)(step:Nat->Int->Int->S->Option S):Nat->Int->Int->S->Option S
 |0,_,_,_=>none
 |k+1,node,size,s=>match step (k+1) node size s with
  |none=>none
  |some s'=>KR (FR p step k) (A9 p node) size 0 (A9 p node).kids s'
end
theorem Sf{S:Type}(p:BProg)(l i:Nat)(Good:Sig->S->Prop)(Bad:Sig->Prop)(touch:Nat->Prop)(step:Nat->Int->Int->S->Option S)(hp:p.wt<=1073741824)(bf:¬touch i)
  (aU:∀node size s,step 0 node size s=none) (aS:∀k node size s s',step k node size s=some s'->0<=node/\node<p.nodes.length)
  (hy:∀(k:Nat) (d node size:Int) O s,d=13-(k:Int)->0<=size->size+k<=1000->Good O s->DYield prog l [dI node,.agg [dI size,dI d]] O (OutO unf (.bool true) Good Bad touch O (step k node size s))) :
  ∀(k:Nat) (d node size:Int) O s,d=13-(k:Int)->0<=size->size+k<=1000->k<=13->Good O s->O i=some (.cells [.func (.func 256) [] [.cptr [.yld l] 0,.cptr (Ag p) 0,.ptr i 0]])->
   DCall prog 256 [dI node,.agg [dI size,dI d],.cptr [.yld l] 0,.cptr (Ag p) 0,.ptr i 0] O (OutO unf (.bool true) Good Bad touch O (FR p step k node size s)):=by
 obtain⟨p1,p2,p3,p4,p5,p6,p7⟩:=p.wt_le
 intro k
 induction k with
 | zero =>
  intro d node size O s hd h0 hsz hk hG hi
  refine en func256 ntmps256 ?_
  refine gz ?_
  refine yldW (hy 0 d node size O s hd h0 hsz hG) (fun e U' hr=>?_) (fun e U' hr=>?_)
  ·rw[aU]at hr;obtain⟨_,h,_⟩:=hr.ret;cases h
  ·obtain⟨_,rfl,hb⟩:=hr.pan
   exact finP (U':=U') ⟨rfl,hb⟩
 | succ k ih =>
  intro d node size O s hd h0 hsz hk hG hi
  refine en func256 ntmps256 ?_
  refine gz ?_ [] [10]
  refine yldW (hy (k+1) d node size O s hd h0 hsz hG) (fun e U' hr=>?_) (fun e U' hr=>?_)
  ·obtain⟨s',aN,rfl,bc,hK⟩:=hr.ret
   obtain⟨bA,bz⟩:=aS _ _ _ _ _ aN
   obtain⟨q,rfl⟩:∃q:Nat,node=(q:Int):=⟨node.toNat,by omega⟩
   have hq:q<p.nodes.length:=by omega
   have bC:=hK i _ hi bf
   have aY:A9 p q=p.nodes[q]:=by unfold A9;simp[List.getElem?_eq_getElem hq]
   have hW:FR p step (k+1) q size s=KR (FR p step k) p.nodes[q] size 0 (p.nodes[q]).kids s':=by rw[FR,aN];simp only;rw[aY]
   rw[hW]
   have aO:(p.nodes[q]).kids.length<=1073741824:=by have:=p7 q hq;unfold BNode.wt at this;omega
   generalize hx:p.nodes[q]=x at*
   refine gf hx ?_ [] [10]
   refine ET [0,3,4,6,21,22] (fun (j:Nat) (s1:S) (S1:Sig)=>j<=x.kids.length/\Good S1 s1/\KR (FR p step k) x size 0 x.kids s'=KR (FR p step k) x size j (x.kids.drop j) s1/\(∀j o,O j=some o->¬touch j->S1 j=some o)) (fun j _ _=>[(23,dI j)]) (fun _ _ S1=>S1) (fun j _ _=>x.kids.length-j) (0) (s') (U') (by exact⟨by omega,bc,by simp,hK⟩) (fun j s1 S1 hI=>?_)
   obtain⟨hj,aJ,hR,ap⟩:=hI
   have ax:=ap i _ hi bf
   by_cases bk:j<x.kids.length
   ·rw [Ad bk,KR] at hR
    have bB:(k:Int)<=12:=by omega
    refine gf (gi hx ax) ?_ [] [10]
    refine newV (fun a ha=>?_)
    have bm:i≠a:=fun e=>by rw[e,ha]at ax;cases ax
    have hz:0<=(if x.op=9/\j=1 then size+1 else size)/\(if x.op=9/\j=1 then size+1 else size)+(k:Int)<=1000:=by split<;>omega
    have hc:=ih (d+1) x.kids[j] (if x.op=9/\j=1 then size+1 else size) S1 s1 (by omega) hz.1 hz.2 (by omega) aJ ax
    by_cases hl:x.op=9/\j=1
    ·rw[if_pos hl]at hR hc
     obtain⟨aD,rfl⟩:=hl
     refine gf (gi hx (gi ax (gi aD bm))) ?_ [] [10]
     refine drp S1 ?_
     refine A3 hc (fun e S2 hr=>?_) (fun e S2 hr=>?_)
     ·obtain⟨s2,aT,rfl,bb,ba⟩:=hr.ret
      rw[aT]at hR
      refine gz ?_ [] [10]
      exact⟨1+1,s2,S2,⟨by omega,bb,hR,fun j o h1 h2=>ba _ _ (ap _ _ h1 h2) h2⟩,td1,wkR⟩
     ·obtain⟨hn,rfl,hb⟩:=hr.pan
      rw[hn]at hR;rw[hR]
      exact finP (U':=S2) ⟨rfl,hb⟩
    ·rw[if_neg hl]at hR hc
     have bu:¬(x.op=9/\(j:Int)=1):=by omega
     repeat' first|refine gf (gi hx (gi ax bm)) ?_ [] [10]|apply gy<;>intro hh
     all_goals
      refine drp S1 ?_
      refine A3 hc (fun e S2 hr=>?_) (fun e S2 hr=>?_)
      ·obtain⟨s2,aT,rfl,bb,ba⟩:=hr.ret
       rw[aT]at hR
       refine gz ?_ [] [10]
       exact⟨j+1,s2,S2,⟨by omega,bb,hR,fun j o h1 h2=>ba _ _ (ap _ _ h1 h2) h2⟩,td1,wkR⟩
      ·obtain⟨hn,rfl,hb⟩:=hr.pan
       rw[hn]at hR;rw[hR]
       exact finP (U':=S2) ⟨rfl,hb⟩
   ·rw[Aj bk,KR]at hR
    rw[hR]
    refine gf hx ?_ [] [10]
    refine fin1 (U':=S1) ?_
    exact⟨rfl,aJ,ap⟩
  ·obtain⟨aN,rfl,hb⟩:=hr.pan
   have hW:FR p step (k+1) node size s=none:=by rw[FR,aN]
   rw[hW]
   exact finP (U':=U') ⟨rfl,hb⟩
def Keep(touch:Nat->Prop)(O U':Sig):Prop:= ∀j o,O j=some o->¬touch j->U' j=some o
theorem Keep.refl(touch:Nat->Prop)(O:Sig):Keep touch O O:=fun _ _ h _=>h
theorem Keep.trans{touch:Nat->Prop}{a b c:Sig}(h:Keep touch a b)(k:Keep touch b c):Keep touch a c:=fun j o h1 h2=>k _ _ (h _ _ h1 h2) h2
theorem Keep.fresh{touch:Nat->Prop}{a b:Sig}(h:Keep touch a b){i:Nat}{o:DObj}(hi:a i=none):Keep touch a (b.set i o):=fun j x h1 h2=>by
 rw[w7 _ _ fun e=>by rw[e,hi]at h1;cases h1];exact h _ _ h1 h2
theorem Sg{S:Type}(p:BProg)(l:Nat)(Good:Sig->S->Prop)(Bad:Sig->Prop)(touch:Nat->Prop)(step:Nat->Int->Int->S->Option S)(hp:p.wt<=1073741824)
  (aU:∀node size s,step 0 node size s=none) (aS:∀k node size s s',step k node size s=some s'->0<=node/\node<p.nodes.length)
  (hy:∀(k:Nat) (d node size:Int) O s,d=13-(k:Int)->0<=size->size+k<=1000->Good O s->DYield prog l [dI node,.agg [dI size,dI d]] O (OutO unf (.bool true) Good Bad touch O (step k node size s)))
  (hm : ∀ O s a o,Good O s->O a=none->Good (O.set a o) s) (k:Nat) (d node size:Int) (O:Sig) (s:S) (ht : ∀ a,O a=none -> ¬ touch a) (hd:d=13-(k:Int)) (h0:0<=size) (hsz:size+k<=1000) (hk:k<=13) (hG:Good O s) :
   DCall prog 255 [.yld l,.cptr (Ag p) 0,.cptr [dI node] 0,.cptr [dI size,dI d] 0] O (OutO unf (.tup []) Good Bad touch O (FR p step k node size s)):=by
 refine en func255 ntmps255 ?_
 refine gz ?_ [] [5]
 refine newV (fun a ha=>?_)
 refine gz ?_ [] [5]
 refine A3 (Sf p l a Good Bad touch step hp (ht a ha) aU aS hy k d node size (O.set a _) s hd h0 hsz hk (hm _ _ _ _ hG ha) (w6 ..)) (fun e U' hr=>?_) (fun e U' hr=>?_)
 ·obtain⟨s',bq,rfl,bc,hK⟩:=hr.ret
  rw[bq]
  refine gz ?_ [] [5]
  refine DK (U':=U') ?_
  exact⟨rfl,bc,fun j o h1 h2=>hK j o (by rw[w7 _ _ fun e=>by rw[e,ha]at h1;cases h1];exact h1) h2⟩
 ·obtain⟨hn,rfl,hb⟩:=hr.pan
  rw[hn]
  exact finP (U':=U') ⟨rfl,hb⟩
theorem SB(p:BProg)(node size d:Int)(O:Sig):DCall prog 200 [.agg (Ag p),dI node,.agg [dI size,dI d]] O (rS (.func (.func 255) [] [.cptr (Ag p) 0,.cptr [dI node] 0,.cptr [dI size,dI d] 0]) O):=by
 refine en func200 ntmps200 ?_
 refine gz ?_
 exact fe1 trivial
@[reducible,instance] def a200:=fun p node size d O=>ah0 (@SB p node size d O)
theorem RC(p:BProg)(x:BNode)(k:Int)(O:Sig):DCall prog 413 [dI k,.agg (Ag p),.agg (Kk x)] O (rS (dI k) O):=by
 refine en func413 ntmps413 ?_
 refine gz ?_
 exact fe1 trivial
theorem RB(p:BProg)(x:BNode)(O:Sig)(h0:0<=x.n:=by exact sd)(h1:x.n<p.gens.length:=by exact sd)(hl:p.gens.length<=1073741824:=by exact sd):DCall prog 414 [.agg [],.agg (Ag p),.agg (Kk x)] O (rS (dI (p.gens.getD x.n.toNat 0)) O):=by
 refine en func414 ntmps414 ?_
 obtain⟨q,hq⟩:∃q:Nat,x.n=(q:Int):=⟨x.n.toNat,by omega⟩
 have br:q<p.gens.length:=by omega
 have hg:p.gens.getD x.n.toNat 0=p.gens[q]:=by rw[hq,List.getD_eq_getElem?_getD];simp[br]
 rw[hg]
 refine gf hq ?_
 exact fe1 trivial
theorem meth413 : ON prog 276 "consort/bind.many" 413 := by
 intro v w;kernel_rfl
theorem meth414 : ON prog 277 "consort/bind.many" 414 := by
 intro v w;kernel_rfl
theorem Vp{ro:Ro}{n:Nat}{ops:Array Oper}{N:Nat}{S0 O:Sig}{Q:DX->St->Prop}{df:List DDf}{γ Sr:Fr}{t:Nat}{ty:TypeId}{pos:String}{after:Array Edge}{l:List (Bool×Oper)}{d e:D}{rv:Operand}{name:String}{args:Array Operand}{ats:Array TypeId}{f T:Nat}{us:List D}(hM:ON prog T name f)(h:DCall prog f (d::us) O (rS e O))(k:MO prog ro n ops N S0 Q df l ((t,e)::γ) O)
  (hl:A0 γ (A5 (rv::args.toList))=some Sr:=by exact tdR) (hx:ev Sr rv=.iface T d:=by exact tdR) (ha:args.toList.map (ev Sr)=us:=by exact tdR) (be:decide (t<n)=true:=by exact tdR) (hC:Sub S0 O:=by first|exact Sub.refl _|assumption) :
  MO prog ro n ops N S0 Q df ((true,⟨some t,.call { callee:=.invoke rv name,args,argTypes:=ats },ty,pos,after,none⟩)::l) γ O:=by
 refine mo1 (fun U2 hZ=>?_) be
 have he:∀x∈rv::args.toList,ev U2 x=ev Sr x:=fun x hx=>by
  rw[hZ x (by simpa[Op.operands,Call.operands] using hx)]
  exact(B9 fun t ht=>At hl t (Az (by rw[<-ht];exact hx))).symm
 refine Nx rfl (by rw[he rv (by simp)];exact hx) hM h ?_ (by simpa[Ap] using be) (fun d' U' ⟨e1,e2⟩=>?_) (fun d' U' ⟨e1,e2⟩=>by cases e1)
 ·rw[show args.toList.map (ev U2)=args.toList.map (ev Sr) from List.map_congr_left fun x h=>he x (by simp[h]),ha]
  exact Co _
 ·cases e1;subst e2
  exact Aw ⟨rfl,by simp only[putD,A6,if_true];exact⟨hC,k⟩⟩
def Hv(p:BProg)(inM:Bool):Nat->Int->Int->List Int->Option (List Int)
 |0,_,_,_=>none
 |_+1,node,size,s=>
  if node<0\/(p.nodes.length:Int)<=node\/0<=s.getD node.toNat 0 then none else
  if((A9 p node).kids.length:Int)≠CH p (A9 p node)\/CF p (A9 p node) size=false\/((A9 p node).op=18/\inM=false) then none else some (s.set node.toNat size)
def optW:Bool×List Int->Option (List Int)
 |(true,s)=>some s
 |(false,_)=>none
theorem JS(f:Int->Int->List Int->Bool×List Int)(x:BNode)(size:Int): ∀(j:Nat) (l s:List Int),KR (fun a b c=>optW (f a b c)) x size j l s=optW (Cr f x size j l s)
 |_,[],s=>rfl
 | j,c::r,s=>by
  rw[KR,Cr]
  cases h:f c (if x.op=9/\j=1 then size+1 else size) s with
  |mk b s'=>cases b with
   |false=>rfl
   |true=>simp only[optW];exact JS f x size (j+1) r s'
theorem Jz(p:BProg)(inM:Bool): ∀(k:Nat) (node size:Int) (s:List Int),FR p (Hv p inM) k node size s=optW (DH p inM k node size s)
 |0,_,_,_=>rfl
 | k+1,node,size,s=>by
  rw[FR,DH,Hv]
  by_cases h1:node<0\/(p.nodes.length:Int)<=node\/0<=s.getD node.toNat 0
  ·rw[if_pos h1,if_pos h1];rfl
  ·rw[if_neg h1,if_neg h1]
   by_cases h2:((A9 p node).kids.length:Int)≠CH p (A9 p node)\/CF p (A9 p node) size=false\/((A9 p node).op=18/\inM=false)
   ·rw[if_pos h2,if_pos h2];rfl
   ·rw[if_neg h2,if_neg h2]
    have e:FR p (Hv p inM) k=fun a b c=>optW (DH p inM k a b c):=by funext a b c;exact Jz p inM k a b c
    simp only[e]
    exact JS _ _ _ _ _ _
theorem K7{P:Program}{n:Nat}{Q:DX->St->Prop}{γ:Fr}{O:Sig}{df:List DDf}{gop:Operand}{ps:Array Tmp}{asg body:Code}{f:Nat}{first cap:List D}{S:Type}{u:D}(G:Nat->Sig->S->Prop)(Bad:Nat->Sig->Prop)(touch:Nat->Prop)(o:Option S)
  (hf:ev γ gop=.func (.func f) first cap)
  (aI:∀l did,O did=none->O l=none->l≠did->∀LO,LO=DObj.loop .ready none ps asg body n γ did->DCall P f (first++[.yld l]++cap) ((O.set did .defs).set l LO) (OutO u (.tup []) (fun U' s=>U' l=some LO/\G did U' s) (Bad did) touch ((O.set did .defs).set l LO) o))
  (aV:∀l did s U',o=some s->O did=none->O l=none->l≠did->G did U' s->Q .normal ⟨γ,U'.del l,.coll did::df⟩)
  (aW:∀did U',o=none->O did=none->Bad did U'->Q (.panic u) ⟨γ,U',.coll did::df⟩) :
  DWp P .none n (.rangeFunc gop ps asg body) Q ⟨γ,O,df⟩:=by
 refine GD (R:=fun l did=>OutO u (.tup []) (fun U' s=>U' l=some (DObj.loop .ready none ps asg body n γ did)/\G did U' s) (Bad did) touch ((O.set did .defs).set l (DObj.loop .ready none ps asg body n γ did)) o) hf (fun l did h1 h2 h3=>aI l did h1 h2 h3 _ rfl) (fun l did d U' h1 h2 h3 hr=>?_) (fun l did d U' h1 h2 h3 hr=>?_)
 ·obtain⟨s,hs,rfl,⟨hl,hG⟩,hK⟩:=hr.ret
  exact⟨_,_,hl,by simp,aV l did s U' hs h1 h2 h3 hG⟩
 ·obtain⟨hn,rfl,hb⟩:=hr.pan
  exact aW did U' hn h1 hb
theorem endM{P:Program}{n:Nat}{fn:Func}{R:DE->Sig->Prop}{γ:Fr}{O:Sig}{did:Nat}(h:R (.ret (.tup [])) (O.del did))(hd:O did=some .defs)(hr:fn.results=#[]:=by rfl): ∃s',Wk P n ⟨γ,O,[.coll did]⟩ s'/\PU P n fn (Weak R) .normal s':=
 ⟨_,Wk.refl _ _ _,[did],rfl,by simp,by simp[hd],.tup [],D5 (by simp[resD,hr]),E7 h⟩
theorem endMP{P:Program}{n:Nat}{fn:Func}{R:DE->Sig->Prop}{γ:Fr}{O:Sig}{did:Nat}{d:D}(h:R (.panic d) (O.del did))(hd:O did=some .defs): ∃s',Wk P n ⟨γ,O,[.coll did]⟩ s'/\PU P n fn (Weak R) (.panic d) s':=
 ⟨_,Wk.refl _ _ _,[did],rfl,by simp,by simp[hd],E7 h⟩
theorem Keep.del{touch:Nat->Prop}{a b:Sig}(h:Keep touch a b){i:Nat}(hi:a i=none):Keep touch a (b.del i):=fun j x h1 h2=>by
 have e:j≠i:=fun e=>by rw[e,hi]at h1;cases h1
 simp only[Sig.del,e,if_false];exact h _ _ h1 h2
theorem Keep.base{touch:Nat->Prop}{a b:Sig}{i:Nat}{o:DObj}(h:Keep touch (a.set i o) b)(hi:a i=none):Keep touch a b:=fun j x h1 h2=>
 h _ _ (by rw[w7 _ _ fun e=>by rw[e,hi]at h1;cases h1];exact h1) h2
def Cy:DObj->DObj
 |.loop _ _ ps a b n γ d=>.loop .busy none ps a b n γ d
 |o=>o
def doneO(c:Code):DObj->DObj
 |.loop _ _ ps a b n γ d=>.loop .done (some c) ps a b n γ d
 |o=>o
def OM(l:Nat)(LO:DObj)(R:DE->Sig->Prop):DX->St->Prop
 |.normal,s=>s.O l=some (Cy LO)/\R (.ret (.bool true)) (s.O.set l LO)
 |.ret,s=>s.O l=some (Cy LO)/\R (.ret (.bool false)) (s.O.set l (doneO .ret LO))
 |.panic d,s=>s.df=[]/\R (.panic d) s.O
 |.exit id,s=>s.O l=some (Cy LO)/\R (.ret (.bool false)) (s.O.set l (doneO (.exit id) LO))
theorem Nu{P:Program}{l:Nat}{args:List D}{O:Sig}{R:DE->Sig->Prop}{ps:Array Tmp}{asg body:Code}{n:Nat}{Sl:Fr}{did:Nat}{LO:DObj}(aP:LO=.loop .ready none ps asg body n Sl did)(hU:O l=some LO)
  (h:DWp P (.some l) n asg (Then (fun s=>s.O l=some LO/\DWp P (.some l) n body (OM l LO R) { s with O:=s.O.set l (Cy LO) }) (fun _ _=>False)) ⟨OJ ps.toList args Sl,O,[]⟩) (hl:ps.toList.length=args.length:=by rfl) (hp:∀p∈ps.toList,p<n:=by decide):DYield P l args O R:=by
 subst aP
 refine L2 hU hl hp ?_
 have e:OM l (.loop .ready none ps asg body n Sl did) R=VI l ps asg body n Sl did R:=by funext x s;cases x<;>rfl
 rw[<-e]
 exact h
theorem IL (p:BProg) (io r:Nat) (inM:Bool) (node size:Int) (s:List Int) (O:Sig) (hp:p.wt<=1073741824) (aG:O io=some (.cells [.sref r 0 p.nodes.length p.nodes.length])) (hr:O r=some (.cells (s.map dI))) (hs:s.length=p.nodes.length) (hne:io ≠ r) (hz:0<=size) (bn:size<=900) :
  DCall prog 199 [dI node,dI size,.bool inM,.cptr (Ag p) 0,.ptr io 0] O (OutO unf (.tup []) (fun U' s'=>U' r=some (.cells (s'.map dI))/\s'.length=p.nodes.length/\Keep (· = r) O U') (fun U'=>Keep (· = r) O U') (· = r) O (optW (DH p inM 12 node size s))):=by
 obtain⟨p1,p2,p3,p4,p5,p6,p7⟩:=p.wt_le
 rw[<-Jz]
 refine Er func199 rfl (by decide) ntmps199 (by simp) ?_
 refine gz ?_ o199
 refine K7 (u:=unf) (fun did U' s'=>U' r=some (.cells (s'.map dI))/\s'.length=p.nodes.length/\Keep (· = r) (O.set did .defs) U') (fun did U'=>Keep (· = r) (O.set did .defs) U') (· = r) (FR p (Hv p inM) 12 node size s) rfl (fun l did hd hl aZ LO aP=>?_) (fun l did s' U' ho hd hl aZ hG=>?_) (fun did U' ho hd hb=>?_)
 ·have aC:r ≠ did:=fun e=>by rw [e,hd] at hr;cases hr
  have bi:io≠did:=fun e=>by rw[e,hd]at aG;cases aG
  rw[<-w7 O DObj.defs bi]at aG
  rw[<-w7 O DObj.defs aC]at hr
  rw[<-w7 O DObj.defs aZ]at hl
  clear hd aC bi
  generalize O.set did .defs=Sd at*
  refine Sg p l _ _ _ (Hv p inM) hp (fun _ _ _=>rfl) (fun k node size s s' h=>by
   cases k with
   |zero=>cases h
   |succ k=>
    rw[Hv]at h
    split at h
    ·cases h
    ·omega) (fun k d node size S1 s1 hd bx bn hG=>?_) (fun S1 s1 a o hG ha=>?_) 12 1 node size _ s (fun a ha e=>?_) (by omega) hz (by omega) (by omega) ?_
  ·obtain ⟨aD,aj,bp,ap⟩:=hG
   refine Nu aP aD ?_
   clear aP
   refine gz ?_ o199
   refine⟨aD,?_⟩
   have ae:=ap io _ aG hne
   have aa:l≠io:=fun e=>by rw[e,aG]at hl;cases hl
   have ag:l≠r:=fun e=>by rw[e,hr]at hl;cases hl
   have aQ:=ap.fresh (o:=Cy LO) hl
   cases k with
   |zero=>
    repeat' first|(exact⟨rfl,rfl,aQ⟩)|refine gf (gi ae (gi aj (gi aa (gi ag hne)))) ?_ o199|apply gy<;>intro hh
   | succ k =>
    by_cases hn:node<0\/(p.nodes.length:Int)<=node
    ·have hS:Hv p inM (k+1) node size s1=none:=by rw[Hv,if_pos (by omega)]
     rw[hS]
     repeat' first|(exact⟨rfl,rfl,aQ⟩)|refine gf (gi ae (gi aj (gi aa (gi ag hne)))) ?_ o199|apply gy<;>intro hh
    ·obtain ⟨q,rfl⟩ : ∃ q:Nat,node=(q:Int):=⟨node.toNat,by omega⟩
     have hq:q<p.nodes.length:=by omega
     have bh:q<s1.length:=by omega
     have ak:s1.getD ((q:Int)).toNat 0=s1[q]:=by simp[List.getD_eq_getElem?_getD,bh]
     by_cases h2:0<=s1[q]
     ·have hS:Hv p inM (k+1) q size s1=none:=by rw[Hv,if_pos (by rw[ak];omega)]
      rw[hS]
      repeat' first|(exact⟨rfl,rfl,aQ⟩)|refine gf (gi ae (gi aj (gi aa (gi ag hne)))) ?_ o199|apply gy<;>intro hh
     ·have aY:A9 p q=p.nodes[q]:=by unfold A9;simp [hq]
      have hS:Hv p inM (k+1) q size s1=if((p.nodes[q]).kids.length:Int)≠CH p p.nodes[q]\/CF p p.nodes[q] size=false\/((p.nodes[q]).op=18/\inM=false) then none else some (s1.set q size):=by
       rw[Hv,if_neg (by rw[ak];omega),aY];simp
      have aO:(p.nodes[q]).kids.length<=1073741824:=by have:=p7 q hq;unfold BNode.wt at this;omega
      generalize hx:p.nodes[q]=x at*
      have ay:∀o,Keep (· = r) Sd ((S1.set l (Cy LO)).set r o):=fun o j x h1 h2=>by rw[w7 _ _ h2];exact aQ j x h1 h2
      cases aq:CF p x size with
      |false=>
       rw[if_pos (.inr (.inl aq))]at hS
       rw[hS]
       repeat' first|(exact⟨rfl,rfl,ay _⟩)|refine gf (gi ae (gi aj (gi aa (gi ag (gi hne (gi hx aq)))))) ?_ o199|apply gy<;>intro hh
      | true =>
       by_cases aR:x.op=18/\inM=false
       ·rw[if_pos (.inr (.inr aR))]at hS
        rw[hS]
        repeat' first|(exact⟨rfl,rfl,ay _⟩)|refine gf (gi ae (gi aj (gi aa (gi ag (gi hne (gi hx (gi aq aR.2))))))) ?_ o199|apply gy<;>intro hh
        all_goals exact absurd aR.1 (by assumption)
       ·
        repeat' first|refine gf (gi ae (gi aj (gi aa (gi ag (gi hne (gi hx aq)))))) ?_ o199|apply gy<;>intro hh
        all_goals try (exfalso;grind)
        all_goals
         have aK:CF p x size=false\/(x.op=18/\inM=false)->False:=fun h=>h.elim (by rw[aq];simp) aR
         have am:(((S1.set l (Cy LO)).set r (.cells (List.take q (List.map dI s1)++dI size::List.drop (q+1) (List.map dI s1)))) l=some (Cy LO)) /\
           (fun U'=>(U' l=some LO/\U' r=some (.cells ((s1.set q size).map dI))/\(s1.set q size).length=p.nodes.length/\Keep (· = r) Sd U')/\Keep (· = r) S1 U') (((S1.set l (Cy LO)).set r (.cells (List.take q (List.map dI s1)++dI size::List.drop (q+1) (List.map dI s1)))).set l LO):=by
          refine⟨by rw[w7 _ _ ag,w6],⟨w6 ..,?_,by simpa using bp,fun j o h1 h2=>?_⟩,fun j o h1 h2=>?_⟩
          ·rw[w7 _ _ (Ne.symm ag),w6,List.map_set,List.set_eq_take_append_cons_drop,if_pos (by simpa using bh)]
          ·rw[w7 _ _ fun e=>by rw[e,hl]at h1;cases h1];exact ay _ j o h1 h2
          ·by_cases hj:j=l
           ·rw[hj]at h1⊢; rw[w6,<-h1,aD]
           ·rw[w7 _ _ hj,w7 _ _ h2,w7 _ _ hj];exact h1
         cases hk:LS x.op with
         | some kk =>
          have aF:DJ x.op=.iface 276 (dI kk):=by unfold DJ;rw[hk]
          have aE:CH p x=kk:=by unfold CH;rw[hk]
          rw[aE]at hS
          refine gf (gi aF (gi ae (gi aj (gi aa (gi ag (gi hne hx)))))) ?_ o199
          refine Vp meth413 (RC p x kk _) ?_
          repeat' first|refine gz ?_ o199|apply gy<;>intro hh
          ·have h6:=hh
           rw[hS,if_neg (fun h=>h.elim (fun h=>h h6) aK)]
           exact⟨am.1,rfl,am.2⟩
          ·have h6:=hh
           rw[hS,if_pos (.inl h6)]
           exact⟨rfl,rfl,ay _⟩
         | none =>
          by_cases h5:x.op=5
          ·have aF:DJ x.op=.iface 277 (.agg []):=by unfold DJ;rw[hk];simp[h5]
           have aX:0<=x.n/\x.n<p.gens.length:=by simpa[CF,h5] using aq
           have aE:CH p x=p.gens[x.n.toNat]'(by omega):=by unfold CH;rw[hk];simp[h5,aX,List.getD_eq_getElem?_getD,show x.n.toNat<p.gens.length by omega]
           rw[aE]at hS
           refine gf (gi aF (gi ae (gi aj (gi aa (gi ag (gi hne hx)))))) ?_ o199
           refine Vp meth414 (RB p x _ aX.1 aX.2) ?_
           repeat' first|refine gz ?_ o199|apply gy<;>intro hh
           ·have h6:=hh
            rw[hS,if_neg (fun h=>h.elim (fun h=>h h6) aK)]
            exact⟨am.1,rfl,am.2⟩
           ·have h6:=hh
            rw[hS,if_pos (.inl h6)]
            exact⟨rfl,rfl,ay _⟩
          ·have aF:DJ x.op=.niliface:=by unfold DJ;rw[hk];simp[h5]
           have aE:CH p x = -1:=by unfold CH;rw[hk];simp[h5]
           rw[hS,if_pos (.inl (by rw[aE];omega))]
           repeat' first|(exact⟨rfl,rfl,ay _⟩)|refine gf (gi aF (gi ae (gi aj (gi aa (gi ag (gi hne hx)))))) ?_ o199|apply gy<;>intro hh
  ·obtain⟨g1,g2,g3,g4⟩:=hG
   refine⟨by rw[w7 _ _ fun e=>by rw[e,ha]at g1;cases g1];exact g1,by rw[w7 _ _ fun e=>by rw[e,ha]at g2;cases g2];exact g2,g3,fun j x h1 h2=>?_⟩
   have:=g4 j x h1 h2
   rw[w7 _ _ fun e=>by rw[e,ha]at this;cases this];exact this
  ·have aB:r≠l:=fun e=>by rw[e,hl]at hr;cases hr
   subst e
   rw[w7 _ _ aB,hr]at ha;cases ha
  ·have aB:r≠l:=fun e=>by rw[e,hl]at hr;cases hr
   exact⟨w6 .., by rw[w7 _ _ aB];exact hr,hs,(Keep.refl _ Sd).fresh hl⟩
 ·rw[ho]
  have aB:r≠l:=fun e=>by rw[e,hl]at hr;cases hr
  have aC:r≠did:=fun e=>by rw[e,hd]at hr;cases hr
  have a8:¬did=r:=Ne.symm aC
  refine gz ?_ o199
  have hk:=((hG.2.2.base hd).del hl).del hd
  refine endM ⟨rfl,⟨by simp[Sig.del,aC,aB];exact hG.1,hG.2.1,hk⟩,hk⟩ ?_
  simp only[Sig.del,Ne.symm aZ,if_false]
  exact hG.2.2 did _ (w6 ..) a8
 ·rw[ho]
  have a8:¬did=r:=fun e=>by rw[<-e,hd]at hr;cases hr
  exact endMP ⟨rfl,(hb.base hd).del hd⟩ (hb did _ (w6 ..) a8)
def anyS{α S:Type}(f:α->S->Bool×S):List α->S->Bool×S
 |[],s=>(false,s)
 |x::r,s=>match f x s with
  |(true,s')=>(true,s')
  |(false,s')=>anyS f r s'
def allS{α S:Type}(f:α->S->Bool×S):List α->S->Bool×S
 |[],s=>(true,s)
 |x::r,s=>match f x s with
  |(false,s')=>(false,s')
  |(true,s')=>allS f r s'
theorem Le{α S:Type}(f:α->S->Bool×S): ∀(l:List α) (s:S),allS f l s=(!(anyS (fun x s=>(!(f x s).1,(f x s).2)) l s).1,(anyS (fun x s=>(!(f x s).1,(f x s).2)) l s).2)
 |[],s=>rfl
 |x::r,s=>by
  rw[allS,anyS]
  rcases h:f x s with⟨b,s'⟩
  cases b
  ·simp
  ·simp only[Bool.not_true];exact Le f r s'
theorem K4(l:List Int)(q:Int->Bool)(g:Nat)(first cap:List D)(o:Own)(O:Sig)(hl:l.length<=1073741824)
  (hg:∀x∈l,DCall prog g (first++dI x::cap) O fun r S''=>r=.ret (.bool (q x))/\S''=O) :
  DCall prog 230 [.slice (cI l) o,.func (.func g) first cap] O (rS (dI (idxF q l 0)) O):=by
 refine en func230 ntmps230 ?_
 refine gz ?_
 refine CG [0,1,7] (fun (k:Nat)=>k<=l.length/\idxF q l 0=idxF q (l.drop k) k) (fun k=>[(8,dI k)]) (fun _=>O) (fun k=>l.length-k) (0) td3 (fun k hI=>?_)
 obtain⟨hk,hR⟩:=hI
 by_cases h:k<l.length
 ·rw[Ad h,idxF]at hR
  repeat' first|refine Ca (hg (l[k]) (List.getElem_mem h)) ?_|refine callP (hg (l[k]) (List.getElem_mem h)) ?_|refine gf h ?_|apply gy<;>intro hh
  ·exact fe1 hR
  ·exact⟨k+1,⟨by omega,by rw[hR,hh];rfl⟩,td1,wkR⟩
 ·refine gf h ?_
  (refine fin1 (U':=O) ?_;exact⟨by first|rfl|(simp[hR,Aj h,idxF];done)|(simp_all [hR,Aj h,idxF];done)|(rw[Am,Bool.eq_iff_iff];simp_all [hR,Aj h,idxF]<;>omega),rfl⟩)
theorem K5(l:List Int)(q:Int->Bool)(g:Nat)(first cap:List D)(o:Own)(O:Sig)(hl:l.length<=1073741824)
  (hg:∀x∈l,DCall prog g (first++dI x::cap) O fun r S''=>r=.ret (.bool (q x))/\S''=O) :
  DCall prog 151 [.slice (cI l) o,.func (.func g) first cap] O (rS (.bool (l.any q)) O):=by
 refine en func151 ntmps151 ?_
 repeat' first|refine gz ?_|refine Ca (K4 l q g first cap o O hl hg) ?_|refine callP (K4 l q g first cap o O hl hg) ?_|refine gz ?_|apply gy<;>intro hh
 (refine fin1 (U':=O) ?_;exact⟨by first|rfl|(simp[D7];done)|(simp_all [D7];done)|(rw[Am,Bool.eq_iff_iff];simp_all [D7]<;>omega),rfl⟩)
theorem K0(q:Int->Bool)(g:Nat)(first cap:List D)(x:Int)(O:Sig)
  (hg:DCall prog g (first++dI x::cap) O fun r S''=>r=.ret (.bool (q x))/\S''=O) :
  DCall prog 370 [dI x,.cptr [.func (.func g) first cap] 0] O (rS (.bool (!q x)) O):=by
 refine en func370 ntmps370 ?_
 repeat' first|refine Ca (hg) ?_|refine callP (hg) ?_|refine gz ?_|apply gy<;>intro hh
 exact fe1 trivial
theorem Fl(l:List Int)(q:Int->Bool)(g:Nat)(first cap:List D)(o:Own)(O:Sig)(hl:l.length<=1073741824)
  (hg:∀x∈l,DCall prog g (first++dI x::cap) O fun r S''=>r=.ret (.bool (q x))/\S''=O) :
  DCall prog 346 [.slice (cI l) o,.func (.func g) first cap] O (rS (.bool (l.all q)) O):=by
 refine en func346 ntmps346 ?_
 repeat' first|refine gz ?_|refine Ca (K5 l (fun x=> !q x) 370 [] [.cptr [.func (.func g) first cap] 0] o O hl (fun x hx=>K0 q g first cap x O (hg x hx))) ?_|refine callP (K5 l (fun x=> !q x) 370 [] [.cptr [.func (.func g) first cap] 0] o O hl (fun x hx=>K0 q g first cap x O (hg x hx))) ?_|refine gz ?_|apply gy<;>intro hh
 (refine fin1 (U':=O) ?_;exact⟨by first|rfl|(simp[List.not_all_eq_any_not];done)|(simp_all [List.not_all_eq_any_not];done)|(rw[Am,Bool.eq_iff_iff];simp_all [List.not_all_eq_any_not]<;>omega),rfl⟩)
theorem RD{S:Type}(l:List Fact)(f:Fact->S->Bool×S)(g:Nat)(first cap:List D)(o:Own)(Good:Sig->S->Prop)(hl:l.length<=1073741824)
  (hg:∀x∈l, ∀O s,Good O s->DCall prog g (first ++ .agg (CY x)::cap) O fun r U'=>r=.ret (.bool (f x s).1)/\Good U' (f x s).2) (O:Sig) (s:S) (hG:Good O s) :
  DCall prog 387 [.slice (l.map CY) o,.func (.func g) first cap] O fun x U'=> ∃i:Int,x=.ret (dI i)/\decide (0<=i)=(anyS f l s).1/\Good U' (anyS f l s).2:=by
 refine en func387 ntmps387 ?_
 refine gz ?_
 refine ET [0,1,7] (fun (k:Nat) (s1:S) (S1:Sig)=>k<=l.length/\Good S1 s1/\anyS f l s=anyS f (l.drop k) s1) (fun k _ _=>[(8,dI k)]) (fun _ _ S1=>S1) (fun k _ _=>l.length-k) (0) (s) (O) (by exact⟨by omega,hG,rfl⟩) (fun k s1 S1 hI=>?_)
 obtain⟨hk,aJ,hR⟩:=hI
 by_cases h:k<l.length
 ·rw[Ad h,anyS]at hR
  refine gf h ?_
  refine A3 (hg (l[k]) (List.getElem_mem h) S1 s1 aJ) (fun e S2 hr=>?_) (fun e S2 hr=>?_)
  ·obtain⟨h1,h2⟩:=hr
   simp only[DE.ret.injEq]at h1
   subst h1
   rcases hf:f l[k] s1 with⟨b,s2⟩
   rw[hf]at hR h2
   cases b
   ·refine gz ?_
    exact⟨k+1,s2,S2,⟨by omega,h2,hR⟩,td1,wkR⟩
   ·refine gz ?_
    refine fin1 (U':=S2) ?_
    exact⟨k,rfl,by rw[hR];simp,by rw[hR];exact h2⟩
  ·cases hr.1
 ·rw[Aj h,anyS]at hR
  refine gf h ?_
  refine fin1 (U':=S1) ?_
  exact⟨-1,rfl,by rw[hR];rfl,by rw[hR];exact aJ⟩
theorem RI{S:Type}(l:List Fact)(f:Fact->S->Bool×S)(g:Nat)(first cap:List D)(o:Own)(Good:Sig->S->Prop)(hl:l.length<=1073741824)
  (hg:∀x∈l, ∀O s,Good O s->DCall prog g (first ++ .agg (CY x)::cap) O fun r U'=>r=.ret (.bool (f x s).1)/\Good U' (f x s).2) (O:Sig) (s:S) (hG:Good O s) :
  DCall prog 371 [.slice (l.map CY) o,.func (.func g) first cap] O fun x U'=>x=.ret (.bool (anyS f l s).1)/\Good U' (anyS f l s).2:=by
 refine en func371 ntmps371 ?_
 refine gz ?_
 refine A3 (RD l f g first cap o Good hl hg O s hG) (fun e S2 hr=>?_) (fun e S2 hr=>?_)
 ·obtain⟨i,h1,h2,h3⟩:=hr
  simp only[DE.ret.injEq]at h1
  subst h1
  refine gz ?_
  refine fin1 (U':=S2) ?_
  exact⟨by rw[<-h2],h3⟩
 ·obtain⟨i,h1,_⟩:=hr;cases h1
theorem RH{S:Type}(f:Fact->S->Bool×S)(g:Nat)(first cap:List D)(Good:Sig->S->Prop)(x:Fact)(O:Sig)(s:S)(hg:DCall prog g (first ++ .agg (CY x)::cap) O fun r U'=>r=.ret (.bool (f x s).1)/\Good U' (f x s).2):
  DCall prog 372 [.agg (CY x),.cptr [.func (.func g) first cap] 0] O fun r U'=>r=.ret (.bool (!(f x s).1))/\Good U' (f x s).2:=by
 refine en func372 ntmps372 ?_
 refine gz ?_
 refine A3 hg (fun e S2 hr=>?_) (fun e S2 hr=>?_)
 ·obtain⟨h1,h2⟩:=hr
  simp only[DE.ret.injEq]at h1
  subst h1
  refine gz ?_
  refine fin1 (U':=S2) ?_
  exact⟨rfl,h2⟩
 ·cases hr.1
theorem M8{S:Type}(l:List Fact)(f:Fact->S->Bool×S)(g:Nat)(first cap:List D)(o:Own)(Good:Sig->S->Prop)(hl:l.length<=1073741824)
  (hg:∀x∈l, ∀O s,Good O s->DCall prog g (first ++ .agg (CY x)::cap) O fun r U'=>r=.ret (.bool (f x s).1)/\Good U' (f x s).2) (O:Sig) (s:S) (hG:Good O s) :
  DCall prog 348 [.slice (l.map CY) o,.func (.func g) first cap] O fun x U'=>x=.ret (.bool (allS f l s).1)/\Good U' (allS f l s).2:=by
 refine en func348 ntmps348 ?_
 refine gz ?_
 refine A3 (RI l (fun x s=>(!(f x s).1,(f x s).2)) 372 [] [.cptr [.func (.func g) first cap] 0] o Good hl (fun x hx O s hG=>RH f g first cap Good x O s (hg x hx O s hG)) O s hG) (fun e S2 hr=>?_) (fun e S2 hr=>?_)
 ·obtain⟨h1,h2⟩:=hr
  simp only[DE.ret.injEq]at h1
  subst h1
  refine gz ?_
  refine fin1 (U':=S2) ?_
  exact⟨by rw[Le],by rw[Le];exact h2⟩
 ·cases hr.1
def wObj(w:World)(us:List Int):DObj:=.cells (sl (cII w.parents)::sl (cI w.owner)::us.map (D.int .u64))
def Qy(w:World)(l:List Int):Bool:=decide (l.length<=2)&&l.all (fun c=>decide (0<=c/\c<w.owner.length))
section
variable (w:World)(us:List Int)(iw:Nat)(O:Sig)(hw:O iw=some (wObj w us))
include hw
theorem K1(c:Int)(hl:w.parents.length<=1073741824):DCall prog 347 [.ptr iw 0,dI c] O (rS (.bool (decide (3<=c/\c<3+w.parents.length))) O):=by
 unfold wObj at hw
 refine en func347 ntmps347 ?_
 repeat' first|refine gf hw ?_|apply gy<;>intro hh
 any_goals (first|exact fe1 trivial|fail)
theorem JX(c:Int)(hl:w.owner.length<=1073741824):DCall prog 388 [.ptr iw 0,dI c] O (rS (.bool (decide (0<=c/\c<w.owner.length))) O):=by
 unfold wObj at hw
 refine en func388 ntmps388 ?_
 repeat' first|refine gf hw ?_|apply gy<;>intro hh
 any_goals (first|exact fe1 trivial|fail)
theorem JY(c:Int)(hl:w.parents.length<=1073741824):DCall prog 376 [.ptr iw 0,dI c] O (rS (.bool (decide (0<=c/\c<3+w.parents.length))) O):=by
 unfold wObj at hw
 refine en func376 ntmps376 ?_
 repeat' first|refine gf hw ?_|apply gy<;>intro hh
 any_goals (first|exact fe1 trivial|fail)
theorem JZ(l:List Int)(o:Own)(hl:w.owner.length<=1073741824)(bj:l.length<=1073741824):DCall prog 375 [.ptr iw 0,.slice (cI l) o] O (rS (.bool (Qy w l)) O):=by
 refine en func375 ntmps375 ?_
 repeat' first|refine gz ?_|refine CX (Fl l (fun c=>decide (0<=c/\c<w.owner.length)) 388 [.ptr iw 0] [] _ _ bj (fun x _=>JX w us iw _ hw x hl)) ?_|refine callPG (Fl l (fun c=>decide (0<=c/\c<w.owner.length)) 388 [.ptr iw 0] [] _ _ bj (fun x _=>JX w us iw _ hw x hl)) ?_|refine gz ?_|apply gy<;>intro hh
 any_goals (first|(refine fin1 (U':=O) ?_;exact⟨by first|rfl|(simp[Qy];done)|(simp_all [Qy];done)|(rw[Am,Bool.eq_iff_iff];simp_all [Qy]<;>omega),rfl⟩)|fail)
end
def KQ(w:World)(f:Fact):Bool:=decide (0<=f.arg/\f.arg<3)&&Qy w f.path &&
 (if f.op=2 then decide (f.n=0)&&decide (0<=f.cls/\f.cls<3+w.parents.length) else decide (f.cls=0)&&inB f.n)
def Je(w:World):Nat->Fact->Int->Bool×Int
 |0,_,s=>(false,IntKind.i64.wrap (s-1))
 |d+1,f,s=>
  if IntKind.i64.wrap (s-1)<0\/f.op<1\/7<f.op\/f.kids.length≠D8 f.op then(false,IntKind.i64.wrap (s-1)) else
  if EX f.op then(KQ w f,IntKind.i64.wrap (s-1)) else
  if f.arg=0/\f.path.length=0/\f.cls=0/\f.n=0 then allS (Je w d) f.kids (IntKind.i64.wrap (s-1)) else(false,IntKind.i64.wrap (s-1))
theorem Pp(iw il d:Nat)(x:Fact)(b:Bool)(G:Sig->Prop)(O:Sig)(hd:d<=1000)(h:DCall prog 350 [.ptr iw 0,.agg (CY x),.ptr il 0,dI d] O fun r U'=>r=.ret (.bool b)/\G U'):
  DCall prog 377 [.agg (CY x),.cptr [.ptr iw 0] 0,.cptr [.ptr il 0] 0,.cptr [dI ((d:Int)+1)] 0] O fun r U'=>r=.ret (.bool b)/\G U':=by
 refine en func377 ntmps377 ?_
 refine gf (show((d:Int)+1-1)=d by omega) ?_
 refine A3 h (fun e S2 hr=>?_) (fun e S2 hr=>by cases hr.1)
 obtain⟨h1,h2⟩:=hr
 simp only[DE.ret.injEq]at h1
 subst h1
 refine gz ?_
 refine fin1 (U':=S2) ?_
 exact⟨rfl,h2⟩
theorem RK(w:World)(us:List Int)(iw il:Nat)(S0:Sig)(hw:S0 iw=some (wObj w us))(hne:iw≠il)(ar:w.parents.length<=1073741824)(au:w.owner.length<=1073741824):
  ∀(d:Nat) (f:Fact) (s:Int) (O:Sig),d<=1000->f.wt<=1073741824->Keep (· = il) S0 O->O il=some (.cells [dI s])->
   DCall prog 350 [.ptr iw 0,.agg (CY f),.ptr il 0,dI d] O fun x U'=>x=.ret (.bool (Je w d f s).1)/\(Keep (· = il) S0 U'/\U' il=some (.cells [dI (Je w d f s).2])):=by
 intro d
 have ai:∀(O:Sig) (o:DObj),Keep (· = il) S0 O->Keep (· = il) S0 (O.set il o):=fun O o h j x h1 h2=>by rw[w7 _ _ h2];exact h j x h1 h2
 induction d with
 |zero=>
  intro f s O hd hf hK hs
  have ai:=fun o=>ai O o hK
  refine en func350 ntmps350 ?_
  repeat' first|(refine fin1 (U':=O.set il (.cells [dI (IntKind.i64.wrap (s-1))])) ?_;exact⟨rfl,ai _,w6 ..⟩)|refine gf hs ?_ o350|apply gy<;>intro hh
 | succ d ih =>
  intro f s O hd hf hK hs
  have ai:=fun o=>ai O o hK
  obtain⟨w1,w2,w3⟩:=f.wt_le
  have bD:(D8 f.op:Int)<=2:=by unfold D8;split<;>(try split)<;>omega
  have aM:(O.set il (.cells [dI (IntKind.i64.wrap (s-1))])) iw=some (wObj w us):=ai _ iw _ hw hne
  refine en func350 ntmps350 ?_
  by_cases ah:IntKind.i64.wrap (s-1)<0\/f.op<1\/7<f.op\/f.kids.length≠D8 f.op
  ·have hN:Je w (d+1) f s=(false,IntKind.i64.wrap (s-1)):=by rw[Je,if_pos ah]
   rw[hN]
   repeat' first|(refine fin1 (U':=O.set il (.cells [dI (IntKind.i64.wrap (s-1))])) ?_;exact⟨rfl,ai _,w6 ..⟩)|refine gf hs ?_ o350|apply gy<;>intro hh
   all_goals (exfalso;simp_all;omega)
  ·have hN:Je w (d+1) f s=if EX f.op then(KQ w f,IntKind.i64.wrap (s-1)) else if f.arg=0/\f.path.length=0/\f.cls=0/\f.n=0 then allS (Je w d) f.kids (IntKind.i64.wrap (s-1)) else(false,IntKind.i64.wrap (s-1)):=by rw[Je,if_neg ah]
   have b1:¬IntKind.i64.wrap (s-1)<0:=fun h=>ah (.inl h)
   have b2:¬f.op<1:=fun h=>ah (.inr (.inl h))
   have b3:¬7<f.op:=fun h=>ah (.inr (.inr (.inl h)))
   have b4:f.kids.length=D8 f.op:=by omega
   cases aw:EX f.op with
   | true =>
    rw[aw,if_pos rfl]at hN
    rw[hN]
    repeat' first|refine gf (gi hs (gi b1 (gi b4 aw))) ?_|refine CX (JZ w us iw _ aM f.path .no au (by omega)) ?_|refine callPG (JZ w us iw _ aM f.path .no au (by omega)) ?_|refine CX (JY w us iw _ aM f.cls ar) ?_|refine callPG (JY w us iw _ aM f.cls ar) ?_|refine gf (gi hs (gi b1 (gi b4 aw))) ?_ o350|apply gy<;>intro hh
    all_goals
     refine fin1 (U':=O.set il (.cells [dI (IntKind.i64.wrap (s-1))])) ?_
     refine⟨?_,ai _,w6 ..⟩
     first|(simp_all [KQ,inB];done)|(rw[show DE.ret (D.bool (KQ w f,IntKind.i64.wrap (s-1)).1)=DE.ret (D.bool (KQ w f)) from rfl,Am,Bool.eq_iff_iff];simp_all [KQ,inB];done)|(rw[show DE.ret (D.bool (KQ w f,IntKind.i64.wrap (s-1)).1)=DE.ret (D.bool (KQ w f)) from rfl,Am,Bool.eq_iff_iff];simp_all [KQ,inB];omega)
   | false =>
    rw[aw,if_neg (by simp)]at hN
    rw[hN]
    by_cases h0:f.arg=0/\f.path.length=0/\f.cls=0/\f.n=0
    ·rw[if_pos h0]
     repeat' first|refine gf (gi hs (gi b1 (gi b4 aw))) ?_ o350|apply gy<;>intro hh
     all_goals try (exfalso;omega)
     have bw:∀x∈f.kids,x.wt<=1073741824:=fun x hx=>by obtain⟨k,hk,rfl⟩:=List.getElem_of_mem hx;have:=w3 k hk;omega
     refine A3 (M8 f.kids (Je w d) 377 [] [.cptr [.ptr iw 0] 0,.cptr [.ptr il 0] 0,.cptr [dI ((d:Int)+1)] 0] .no (fun U' s'=>Keep (· = il) S0 U'/\U' il=some (.cells [dI s'])) (by omega) (fun x hx U' s' hG=>Pp iw il d x _ _ U' (by omega) (ih x s' U' (by omega) (bw x hx) hG.1 hG.2)) _ (IntKind.i64.wrap (s-1)) ⟨ai _,w6 ..⟩) (fun e S2 hr=>?_) (fun e S2 hr=>by cases hr.1)
     obtain⟨h1,h2⟩:=hr
     simp only[DE.ret.injEq]at h1
     subst h1
     refine gz ?_ o350
     refine fin1 (U':=S2) ?_
     exact⟨rfl,h2⟩
    ·rw[if_neg h0]
     repeat' first|(refine fin1 (U':=O.set il (.cells [dI (IntKind.i64.wrap (s-1))])) ?_;exact⟨rfl,ai _,w6 ..⟩)|refine gf (gi hs (gi b1 (gi b4 aw))) ?_ o350|apply gy<;>intro hh
     all_goals (exfalso;omega)
def H9(w:World)(f:Fact):Bool:=(Je w 12 f 24).1
theorem Ps(w:World)(us:List Int)(iw:Nat)(f:Fact)(O:Sig)(hw:O iw=some (wObj w us))(ar:w.parents.length<=1073741824)(au:w.owner.length<=1073741824)(hf:f.wt<=1073741824):
  DCall prog 349 [.agg (CY f),.cptr [.ptr iw 0] 0] O (rS (.bool (H9 w f)) O):=by
 refine en func349 ntmps349 ?_
 refine gz ?_ [] [4]
 refine newV (fun il aH=>?_)
 have hne:iw≠il:=fun e=>by rw[e,aH]at hw;cases hw
 refine gz ?_ [] [4]
 refine A3 (RK w us iw il O hw hne ar au 12 f 24 (O.set il (.cells [dI 24])) (by omega) hf ((Keep.refl _ O).fresh aH) (w6 ..)) (fun e S2 hr=>?_) (fun e S2 hr=>by cases hr.1)
 obtain⟨h1,h2,h3⟩:=hr
 simp only[DE.ret.injEq]at h1
 subst h1
 refine gz ?_ [] [4]
 refine fin1 (U':=O) ?_ (hU:=fun j o hj=>h2 j o hj (fun e=>by rw[e,aH]at hj;cases hj))
 exact⟨rfl,rfl⟩
theorem MP{α:Type}(q:α->Bool): ∀l:List α,allS (fun x (_:Unit)=>(q x,())) l ()=(l.all q,())
 |[]=>rfl
 |x::r=>by
  rw[allS,List.all_cons]
  cases h:q x
  ·simp
  ·simp only[Bool.true_and];exact MP q r
theorem K3(w:World)(us:List Int)(iw:Nat)(l:List Fact)(o:Own)(O:Sig)(hw:O iw=some (wObj w us))(ar:w.parents.length<=1073741824)(au:w.owner.length<=1073741824)(hl:l.length<=1073741824)(hf:∀f∈l,f.wt<=1073741824):
  DCall prog 305 [.ptr iw 0,.slice (l.map CY) o] O (rS (.bool (l.all (H9 w))) O):=by
 refine en func305 ntmps305 ?_
 refine gz ?_
 refine A3 (M8 l (fun x (_:Unit)=>(H9 w x,())) 349 [] [.cptr [.ptr iw 0] 0] o (fun U' _=>U'=O) hl (fun x hx U' s' hG=>by rw[hG];exact Ps w us iw x O hw ar au (hf x hx)) _ () rfl) (fun e S2 hr=>?_) (fun e S2 hr=>by cases hr.1)
 obtain⟨h1,h2⟩:=hr
 simp only[DE.ret.injEq]at h1
 subst h1
 rw[show S2=O from h2]
 refine gz ?_
 rw[MP]
 exact fe1 trivial
theorem K2(s c:Int)(O:Sig)(hc:0<=c):DCall prog 345 [.int .u64 s,dI c] O fun x U'=>(∃n:Int,x=.ret (.int .u64 n))/\U'=O:=by
 refine en func345 ntmps345 ?_
 try refine gf (OK .u64 .i64 1 c hc) ?_
 refine fin1 (U':=O) ?_
 exact⟨⟨_,rfl⟩,rfl⟩
theorem NP(w:World)(us:List Int)(c:Nat)(n:Int)(h:c<us.length):DObj.cells (List.take (2+c) (sl (cII w.parents)::sl (cI w.owner)::List.map (D.int IntKind.u64) us)++D.int IntKind.u64 n::List.drop (2+c) (sl (cI w.owner)::List.map (D.int IntKind.u64) us))=wObj w (us.set c n):=by
 rw[show 2+c=c+1+1 by omega];simp only[List.take_succ_cons,List.drop_succ_cons,List.cons_append];unfold wObj;rw[List.map_set,List.set_eq_take_append_cons_drop,if_pos (by simpa using h)]
theorem Pv(w:World)(O:Sig)(hg:Cw w.parents=true)(bu:∀x∈w.parents,x.length<=1073741824)(ho:w.owner.length<=40)(bt:∀c∈w.owner,3<=c/\c<3+w.parents.length):
  DCall prog 304 [.agg (MI w)] O fun x U'=> ∃iw us,O iw=none/\x=.ret (.tup [.ptr iw 0,.bool true])/\U'=O.set iw (wObj w us):=by
 have hlen:=HF hg
 refine en func304 ntmps304 ?_
 repeat ((fail_if_success (first|(refine boxV (T:=421) (fun iw bl=>?_))|fail));(refine goX1 trivial ?_))
 refine boxV (T:=421) (fun iw bl=>?_)
 have e0:wObj w (List.replicate 63 0)=.cells [sl (cII w.parents),sl (cI w.owner),.int .u64 0,.int .u64 0,.int .u64 0,.int .u64 0,.int .u64 0,.int .u64 0,.int .u64 0,.int .u64 0,.int .u64 0,.int .u64 0,.int .u64 0,.int .u64 0,.int .u64 0,.int .u64 0,.int .u64 0,.int .u64 0,.int .u64 0,.int .u64 0,.int .u64 0,.int .u64 0,.int .u64 0,.int .u64 0,.int .u64 0,.int .u64 0,.int .u64 0,.int .u64 0,.int .u64 0,.int .u64 0,.int .u64 0,.int .u64 0,.int .u64 0,.int .u64 0,.int .u64 0,.int .u64 0,.int .u64 0,.int .u64 0,.int .u64 0,.int .u64 0,.int .u64 0,.int .u64 0,.int .u64 0,.int .u64 0,.int .u64 0,.int .u64 0,.int .u64 0,.int .u64 0,.int .u64 0,.int .u64 0,.int .u64 0,.int .u64 0,.int .u64 0,.int .u64 0,.int .u64 0,.int .u64 0,.int .u64 0,.int .u64 0,.int .u64 0,.int .u64 0,.int .u64 0,.int .u64 0,.int .u64 0,.int .u64 0,.int .u64 0]:=rfl
 rw[<-e0]
 clear e0
 try refine gz ?_ o304
 refine Di [1,2,3,4,6,7,8,9,10,35,36,37,38,39,40,41,42,43,44,45,46,47,48,49,50,51,52,53,54,55,56,57,58,59,60,61,62,63,64,65,66,67,68,69,70,71,72,73,74,75,76,77,78,79,80,81,82,83,84,85,86,87,88,89,90] (fun (c:Nat) (us:List Int)=>c<=3/\us.length=63) (fun c _=>[(24,dI c)]) (fun _ us=>O.set iw (wObj w us)) (fun c _=>3-c) (0) (List.replicate 63 0) (by simp) (fun c us hI=>?_)
 obtain⟨hc,bd⟩:=hI
 have aL:wObj w us=.cells (sl (cII w.parents)::sl (cI w.owner)::us.map (D.int .u64)):=rfl
 by_cases bE:c<3
 ·try refine gz ?_ o304
  refine Bx (K2 1 c _ (by omega)) (fun d U' h=>?_) (fun d U' h=>by obtain⟨⟨n,h⟩,_⟩:=h;cases h)
  obtain⟨⟨n,h⟩,rfl⟩:=h
  simp only[DE.ret.injEq]at h
  subst h
  refine⟨Sub.refl _,?_⟩
  try refine gf aL ?_ o304
  rw[NP _ _ _ _ (by omega)]
  exact⟨c+1,us.set c n,by simp;omega,td1,wkR⟩
 ·try refine gz ?_ o304
  refine Di [1,4,36,37,85,86,87,88,89,90] (fun (i:Nat) (us:List Int)=>i<=w.parents.length/\us.length=63) (fun i _=>[(38,dI i)]) (fun _ us=>O.set iw (wObj w us)) (fun i _=>w.parents.length-i) (0) (us) (by exact⟨by omega,bd⟩) (fun i us hI=>?_)
  obtain⟨hi,bd⟩:=hI
  have aL:wObj w us=.cells (sl (cII w.parents)::sl (cI w.owner)::us.map (D.int .u64)):=rfl
  by_cases aH:i<w.parents.length
  ·have aA:=F0 (by simpa[Cw] using hg:w.parents.length<=16/\CO 0 w.parents=true).2 i aH
   generalize hr:w.parents[i]=row at*
   simp only[ID,Bool.and_eq_true,decide_eq_true_eq,Nat.zero_add]at aA
   try refine gf hr ?_ o304
   refine A3 (K2 1 (3+i) _ (by omega)) (fun d U' h=>?_) (fun d U' h=>by obtain⟨⟨n,h⟩,_⟩:=h;cases h)
   obtain⟨⟨n,h⟩,rfl⟩:=h
   simp only[DE.ret.injEq]at h
   subst h
   try refine gf hr ?_ o304
   refine Di [1,4,6,7,36,37,38,39,40,41,42,43,44,45,46,47,77,78,79,80,81,82,83,84,85,86,87,88,89,90] (fun (k:Nat) (n:Int)=>k<=row.length/\El i (row.take k) (row.drop k)=true) (fun k n=>[(48,dI k),(8,.int .u64 n)]) (fun _ _=>O.set iw (wObj w us)) (fun k _=>row.length-k) (0) (n) (by exact⟨by omega,by simpa using aA.2⟩) (fun k n hI=>?_)
   obtain⟨hk,hE⟩:=hI
   by_cases aO:k<row.length
   ·rw[Ad aO,El,<-FY aO]at hE
    simp only[Bool.and_eq_true,decide_eq_true_eq,Bool.not_eq_true',decide_eq_false_iff_not]at hE
    obtain⟨q,hq⟩:∃q:Nat,row[k]=(q:Int):=⟨(row[k]).toNat,by omega⟩
    rw[hq]at hE
    have ak:(sl (cII w.parents)::sl (cI w.owner)::List.map (D.int IntKind.u64) us)[2+q]? = some (D.int IntKind.u64 (us[q]'(by omega))):=by
     rw[show 2+q=q+1+1 by omega,List.getElem?_cons_succ,List.getElem?_cons_succ,List.getElem?_map,List.getElem?_eq_getElem (by omega)];rfl
    try refine gf (gi aL (gi hq (gi hE.1.2 ak))) ?_ o304
    exact⟨k+1,_,⟨by omega,hE.2⟩,td1,wkR⟩
   ·
    try refine gf (gi hr aL) ?_ o304
    rw[show 2+(3+(i:Int)).toNat=2+(3+i) by omega,NP _ _ _ _ (by omega)]
    exact⟨i+1,us.set (3+i) n,by simp;omega,td1,wkR⟩
  ·repeat' first|refine gz ?_|refine Ca (Fl w.owner (fun c=>decide (3<=c/\c<3+w.parents.length)) 347 [.ptr iw 0] [] _ _ (by omega) (fun x _=>K1 w us iw _ (w6 ..) x (by omega))) ?_|refine callP (Fl w.owner (fun c=>decide (3<=c/\c<3+w.parents.length)) 347 [.ptr iw 0] [] _ _ (by omega) (fun x _=>K1 w us iw _ (w6 ..) x (by omega))) ?_|refine gz ?_ o304|apply gy<;>intro hh
   refine fin2 (U':=O.set iw (wObj w us)) ?_
   refine⟨iw,us,bl,?_,rfl⟩
   rw[List.all_eq_true.2 fun c hc=>by have:=bt c hc;simpa using this]
end Go.DL
