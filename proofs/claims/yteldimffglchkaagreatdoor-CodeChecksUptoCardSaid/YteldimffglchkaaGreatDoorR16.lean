/- A part of the proof. -/
import Derived.Test.YteldimffglchkaaGreatDoorR07
import Derived.Test.YteldimffglchkaaGreatDoorR15
import Derived.Test.YteldimffglchkaaGreatDoorR14
set_option linter.all false
namespace Go.DL
open Go.Proofs.Tryz
open Go Go.Proofs
set_option maxHeartbeats 8000000
def Keep(touch:Nat->Prop)(O U':Sig):Prop:= ∀j o,O j=some o->¬touch j->U' j=some o
theorem Keep.refl(touch:Nat->Prop)(O:Sig):Keep touch O O:=fun _ _ h _=>h
theorem Keep.trans{touch:Nat->Prop}{a b c:Sig}(h:Keep touch a b)(k:Keep touch b c):Keep touch a c:=fun j o h1 h2=>k _ _ (h _ _ h1 h2) h2
theorem Keep.fresh{touch:Nat->Prop}{a b:Sig}(h:Keep touch a b){i:Nat}{o:DObj}(hi:a i=none):Keep touch a (b.set i o):=fun j x h1 h2=>by
 rw[w7 _ _ fun e=>by rw[e,hi]at h1;cases h1];exact h _ _ h1 h2
theorem Sp{S:Type}(p:BProg)(l:Nat)(Good:Sig->S->Prop)(Bad:Sig->Prop)(touch:Nat->Prop)(step:Nat->Int->Int->S->Option S)(hp:p.wt<=1073741824)
  (bF:∀node size s,step 0 node size s=none) (bC:∀k node size s s',step k node size s=some s'->0<=node/\node<p.nodes.length)
  (hy:∀(k:Nat) (d node size:Int) O s,d=13-(k:Int)->0<=size->size+k<=1000->Good O s->DYield prog l [dI node,.agg [dI size,dI d]] O (OutO unf (.bool true) Good Bad touch O (step k node size s)))
  (hm : ∀ O s a o,Good O s->O a=none->Good (O.set a o) s) (k:Nat) (d node size:Int) (O:Sig) (s:S) (ht : ∀ a,O a=none -> ¬ touch a) (hd:d=13-(k:Int)) (h0:0<=size) (hsz:size+k<=1000) (hk:k<=13) (hG:Good O s) :
   DCall prog 255 [.yld l,.cptr (Ad p) 0,.cptr [dI node] 0,.cptr [dI size,dI d] 0] O (OutO unf (.tup []) Good Bad touch O (GH p step k node size s)):=by
 refine en func255 ntmps255 ?_
 refine gz ?_ [] [5]
 refine newV (fun a ha=>?_)
 refine gz ?_ [] [5]
 refine A4 (So p l a Good Bad touch step hp (ht a ha) bF bC hy k d node size (O.set a _) s hd h0 hsz hk (hm _ _ _ _ hG ha) (w6 ..)) (fun e U' hr=>?_) (fun e U' hr=>?_)
 ·obtain⟨s',aI,rfl,bQ,hK⟩:=hr.ret
  rw[aI]
  refine gz ?_ [] [5]
  refine EW (U':=U') ?_
  exact⟨rfl,bQ,fun j o h1 h2=>hK j o (by rw[w7 _ _ fun e=>by rw[e,ha]at h1;cases h1];exact h1) h2⟩
 ·obtain⟨hn,rfl,hb⟩:=hr.pan
  rw[hn]
  exact finP (U':=U') ⟨rfl,hb⟩
theorem SP(p:BProg)(node size d:Int)(O:Sig):DCall prog 200 [.agg (Ad p),dI node,.agg [dI size,dI d]] O (rS (.func (.func 255) [] [.cptr (Ad p) 0,.cptr [dI node] 0,.cptr [dI size,dI d] 0]) O):=by
 refine en func200 ntmps200 ?_
 refine gz ?_
 exact fe1 trivial
@[reducible,instance] def a200:=fun p node size d O=>ah0 (@SP p node size d O)
theorem RC(p:BProg)(x:BNode)(k:Int)(O:Sig):DCall prog 413 [dI k,.agg (Ad p),.agg (Hr x)] O (rS (dI k) O):=by
 refine en func413 ntmps413 ?_
 refine gz ?_
 exact fe1 trivial
theorem RB(p:BProg)(x:BNode)(O:Sig)(h0:0<=x.n:=by exact sd)(h1:x.n<p.gens.length:=by exact sd)(hl:p.gens.length<=1073741824:=by exact sd):DCall prog 414 [.agg [],.agg (Ad p),.agg (Hr x)] O (rS (dI (p.gens.getD x.n.toNat 0)) O):=by
 refine en func414 ntmps414 ?_
 obtain⟨q,hq⟩:∃q:Nat,x.n=(q:Int):=⟨x.n.toNat,by omega⟩
 have bG:q<p.gens.length:=by omega
 have hg:p.gens.getD x.n.toNat 0=p.gens[q]:=by rw[hq,List.getD_eq_getElem?_getD];simp[bG]
 rw[hg]
 refine gf hq ?_
 exact fe1 trivial
theorem meth413 : OW prog 276 "consort/bind.many" 413 := by
 intro v w;kernel_rfl
theorem meth414 : OW prog 277 "consort/bind.many" 414 := by
 intro v w;kernel_rfl
theorem W7{ro:Ro}{n:Nat}{ops:Array Oper}{N:Nat}{S0 O:Sig}{Q:DX->St->Prop}{df:List DDf}{γ Sr:Fr}{t:Nat}{ty:TypeId}{pos:String}{after:Array Edge}{l:List (Bool×Oper)}{d e:D}{rv:Operand}{name:String}{args:Array Operand}{ats:Array TypeId}{f T:Nat}{us:List D}(hM:OW prog T name f)(h:DCall prog f (d::us) O (rS e O))(k:MO prog ro n ops N S0 Q df l ((t,e)::γ) O)
  (hl:A1 γ (A7 (rv::args.toList))=some Sr:=by exact tdR) (hx:ev Sr rv=.iface T d:=by exact tdR) (ha:args.toList.map (ev Sr)=us:=by exact tdR) (bq:decide (t<n)=true:=by exact tdR) (hC:Sub S0 O:=by first|exact Sub.refl _|assumption) :
  MO prog ro n ops N S0 Q df ((true,⟨some t,.call { callee:=.invoke rv name,args,argTypes:=ats },ty,pos,after,none⟩)::l) γ O:=by
 refine mo1 (fun U2 hD=>?_) bq
 have he:∀x∈rv::args.toList,ev U2 x=ev Sr x:=fun x hx=>by
  rw[hD x (by simpa[Op.operands,Call.operands] using hx)]
  exact(Be fun t ht=>Au hl t (AB (by rw[<-ht];exact hx))).symm
 refine NH rfl (by rw[he rv (by simp)];exact hx) hM h ?_ (by simpa[At] using bq) (fun d' U' ⟨e1,e2⟩=>?_) (fun d' U' ⟨e1,e2⟩=>by cases e1)
 ·rw[show args.toList.map (ev U2)=args.toList.map (ev Sr) from List.map_congr_left fun x h=>he x (by simp[h]),ha]
  exact D7 _
 ·cases e1;subst e2
  exact Aw ⟨rfl,by simp only[putD,A3,if_true];exact⟨hC,k⟩⟩
def Ig(p:BProg)(inM:Bool):Nat->Int->Int->List Int->Option (List Int)
 |0,_,_,_=>none
 |_+1,node,size,s=>
  if node<0\/(p.nodes.length:Int)<=node\/0<=s.getD node.toNat 0 then none else
  if((Aa p node).kids.length:Int)≠BQ p (Aa p node)\/C6 p (Aa p node) size=false\/((Aa p node).op=18/\inM=false) then none else some (s.set node.toNat size)
def optW:Bool×List Int->Option (List Int)
 |(true,s)=>some s
 |(false,_)=>none
theorem Ko(f:Int->Int->List Int->Bool×List Int)(x:BNode)(size:Int): ∀(j:Nat) (l s:List Int),Ll (fun a b c=>optW (f a b c)) x size j l s=optW (B6 f x size j l s)
 |_,[],s=>rfl
 | j,c::r,s=>by
  rw[Ll,B6]
  cases h:f c (if x.op=9/\j=1 then size+1 else size) s with
  |mk b s'=>cases b with
   |false=>rfl
   |true=>simp only[optW];exact Ko f x size (j+1) r s'
theorem K2(p:BProg)(inM:Bool): ∀(k:Nat) (node size:Int) (s:List Int),GH p (Ig p inM) k node size s=optW (Bx p inM k node size s)
 |0,_,_,_=>rfl
 | k+1,node,size,s=>by
  rw[GH,Bx,Ig]
  by_cases h1:node<0\/(p.nodes.length:Int)<=node\/0<=s.getD node.toNat 0
  ·rw[if_pos h1,if_pos h1];rfl
  ·rw[if_neg h1,if_neg h1]
   by_cases h2:((Aa p node).kids.length:Int)≠BQ p (Aa p node)\/C6 p (Aa p node) size=false\/((Aa p node).op=18/\inM=false)
   ·rw[if_pos h2,if_pos h2];rfl
   ·rw[if_neg h2,if_neg h2]
    have e:GH p (Ig p inM) k=fun a b c=>optW (Bx p inM k a b c):=by funext a b c;exact K2 p inM k a b c
    simp only[e]
    exact Ko _ _ _ _ _ _
theorem KE{P:Program}{n:Nat}{Q:DX->St->Prop}{γ:Fr}{O:Sig}{df:List DDf}{gop:Operand}{ps:Array Tmp}{asg body:Code}{f:Nat}{first cap:List D}{S:Type}{u:D}(G:Nat->Sig->S->Prop)(Bad:Nat->Sig->Prop)(touch:Nat->Prop)(o:Option S)
  (hf:ev γ gop=.func (.func f) first cap)
  (aR:∀l did,O did=none->O l=none->l≠did->∀LO,LO=DObj.loop .ready none ps asg body n γ did->DCall P f (first++[.yld l]++cap) ((O.set did .defs).set l LO) (OutO u (.tup []) (fun U' s=>U' l=some LO/\G did U' s) (Bad did) touch ((O.set did .defs).set l LO) o))
  (bb:∀l did s U',o=some s->O did=none->O l=none->l≠did->G did U' s->Q .normal ⟨γ,U'.del l,.coll did::df⟩)
  (ae:∀did U',o=none->O did=none->Bad did U'->Q (.panic u) ⟨γ,U',.coll did::df⟩) :
  DWp P .none n (.rangeFunc gop ps asg body) Q ⟨γ,O,df⟩:=by
 refine Hm (R:=fun l did=>OutO u (.tup []) (fun U' s=>U' l=some (DObj.loop .ready none ps asg body n γ did)/\G did U' s) (Bad did) touch ((O.set did .defs).set l (DObj.loop .ready none ps asg body n γ did)) o) hf (fun l did h1 h2 h3=>aR l did h1 h2 h3 _ rfl) (fun l did d U' h1 h2 h3 hr=>?_) (fun l did d U' h1 h2 h3 hr=>?_)
 ·obtain⟨s,hs,rfl,⟨hl,hG⟩,hK⟩:=hr.ret
  exact⟨_,_,hl,by simp,bb l did s U' hs h1 h2 h3 hG⟩
 ·obtain⟨hn,rfl,hb⟩:=hr.pan
  exact ae did U' hn h1 hb
theorem endM{P:Program}{n:Nat}{fn:Func}{R:DE->Sig->Prop}{γ:Fr}{O:Sig}{did:Nat}(h:R (.ret (.tup [])) (O.del did))(hd:O did=some .defs)(hr:fn.results=#[]:=by rfl): ∃s',Wk P n ⟨γ,O,[.coll did]⟩ s'/\Q3 P n fn (Weak R) .normal s':=
 ⟨_,Wk.refl _ _ _,[did],rfl,by simp,by simp[hd],.tup [],Ds (by simp[resD,hr]),EK h⟩
theorem endMP{P:Program}{n:Nat}{fn:Func}{R:DE->Sig->Prop}{γ:Fr}{O:Sig}{did:Nat}{d:D}(h:R (.panic d) (O.del did))(hd:O did=some .defs): ∃s',Wk P n ⟨γ,O,[.coll did]⟩ s'/\Q3 P n fn (Weak R) (.panic d) s':=
 ⟨_,Wk.refl _ _ _,[did],rfl,by simp,by simp[hd],EK h⟩
theorem Keep.del{touch:Nat->Prop}{a b:Sig}(h:Keep touch a b){i:Nat}(hi:a i=none):Keep touch a (b.del i):=fun j x h1 h2=>by
 have e:j≠i:=fun e=>by rw[e,hi]at h1;cases h1
 simp only[Sig.del,e,if_false];exact h _ _ h1 h2
theorem Keep.base{touch:Nat->Prop}{a b:Sig}{i:Nat}{o:DObj}(h:Keep touch (a.set i o) b)(hi:a i=none):Keep touch a b:=fun j x h1 h2=>
 h _ _ (by rw[w7 _ _ fun e=>by rw[e,hi]at h1;cases h1];exact h1) h2
def CU:DObj->DObj
 |.loop _ _ ps a b n γ d=>.loop .busy none ps a b n γ d
 |o=>o
def doneO(c:Code):DObj->DObj
 |.loop _ _ ps a b n γ d=>.loop .done (some c) ps a b n γ d
 |o=>o
def OV(l:Nat)(LO:DObj)(R:DE->Sig->Prop):DX->St->Prop
 |.normal,s=>s.O l=some (CU LO)/\R (.ret (.bool true)) (s.O.set l LO)
 |.ret,s=>s.O l=some (CU LO)/\R (.ret (.bool false)) (s.O.set l (doneO .ret LO))
 |.panic d,s=>s.df=[]/\R (.panic d) s.O
 |.exit id,s=>s.O l=some (CU LO)/\R (.ret (.bool false)) (s.O.set l (doneO (.exit id) LO))
theorem NE{P:Program}{l:Nat}{args:List D}{O:Sig}{R:DE->Sig->Prop}{ps:Array Tmp}{asg body:Code}{n:Nat}{Sl:Fr}{did:Nat}{LO:DObj}(aW:LO=.loop .ready none ps asg body n Sl did)(hZ:O l=some LO)
  (h:DWp P (.some l) n asg (Then (fun s=>s.O l=some LO/\DWp P (.some l) n body (OV l LO R) { s with O:=s.O.set l (CU LO) }) (fun _ _=>False)) ⟨OR ps.toList args Sl,O,[]⟩) (hl:ps.toList.length=args.length:=by rfl) (hp:∀p∈ps.toList,p<n:=by decide):DYield P l args O R:=by
 subst aW
 refine Lv hZ hl hp ?_
 have e:OV l (.loop .ready none ps asg body n Sl did) R=Wm l ps asg body n Sl did R:=by funext x s;cases x<;>rfl
 rw[<-e]
 exact h
theorem Jp (p:BProg) (io r:Nat) (inM:Bool) (node size:Int) (s:List Int) (O:Sig) (hp:p.wt<=1073741824) (ah:O io=some (.cells [.sref r 0 p.nodes.length p.nodes.length])) (hr:O r=some (.cells (s.map dI))) (hs:s.length=p.nodes.length) (hne:io ≠ r) (hz:0<=size) (bA:size<=900) :
  DCall prog 199 [dI node,dI size,.bool inM,.cptr (Ad p) 0,.ptr io 0] O (OutO unf (.tup []) (fun U' s'=>U' r=some (.cells (s'.map dI))/\s'.length=p.nodes.length/\Keep (· = r) O U') (fun U'=>Keep (· = r) O U') (· = r) O (optW (Bx p inM 12 node size s))):=by
 obtain⟨p1,p2,p3,p4,p5,p6,p7⟩:=p.wt_le
 rw[<-K2]
 refine F2 func199 rfl (by decide) ntmps199 (by simp) ?_
 refine gz ?_ o199
 refine KE (u:=unf) (fun did U' s'=>U' r=some (.cells (s'.map dI))/\s'.length=p.nodes.length/\Keep (· = r) (O.set did .defs) U') (fun did U'=>Keep (· = r) (O.set did .defs) U') (· = r) (GH p (Ig p inM) 12 node size s) rfl (fun l did hd hl be LO aW=>?_) (fun l did s' U' ho hd hl be hG=>?_) (fun did U' ho hd hb=>?_)
 ·have aN:r ≠ did:=fun e=>by rw [e,hd] at hr;cases hr
  have bt:io≠did:=fun e=>by rw[e,hd]at ah;cases ah
  rw[<-w7 O DObj.defs bt]at ah
  rw[<-w7 O DObj.defs aN]at hr
  rw[<-w7 O DObj.defs be]at hl
  clear hd aN bt
  generalize O.set did .defs=Sd at*
  refine Sp p l _ _ _ (Ig p inM) hp (fun _ _ _=>rfl) (fun k node size s s' h=>by
   cases k with
   |zero=>cases h
   |succ k=>
    rw[Ig]at h
    split at h
    ·cases h
    ·omega) (fun k d node size S1 s1 hd bR bA hG=>?_) (fun S1 s1 a o hG ha=>?_) 12 1 node size _ s (fun a ha e=>?_) (by omega) hz (by omega) (by omega) ?_
  ·obtain ⟨bf,aj,bE,ar⟩:=hG
   refine NE aW bf ?_
   clear aW
   refine gz ?_ o199
   refine⟨bf,?_⟩
   have aa:=ar io _ ah hne
   have ag:l≠io:=fun e=>by rw[e,ah]at hl;cases hl
   have am:l≠r:=fun e=>by rw[e,hr]at hl;cases hl
   have aX:=ar.fresh (o:=CU LO) hl
   cases k with
   |zero=>
    repeat' first|(exact⟨rfl,rfl,aX⟩)|refine gf (gi aa (gi aj (gi ag (gi am hne)))) ?_ o199|apply gy<;>intro hh
   | succ k =>
    by_cases hn:node<0\/(p.nodes.length:Int)<=node
    ·have hS:Ig p inM (k+1) node size s1=none:=by rw[Ig,if_pos (by omega)]
     rw[hS]
     repeat' first|(exact⟨rfl,rfl,aX⟩)|refine gf (gi aa (gi aj (gi ag (gi am hne)))) ?_ o199|apply gy<;>intro hh
    ·obtain ⟨q,rfl⟩ : ∃ q:Nat,node=(q:Int):=⟨node.toNat,by omega⟩
     have hq:q<p.nodes.length:=by omega
     have br:q<s1.length:=by omega
     have aw:s1.getD ((q:Int)).toNat 0=s1[q]:=by simp[List.getD_eq_getElem?_getD,br]
     by_cases h2:0<=s1[q]
     ·have hS:Ig p inM (k+1) q size s1=none:=by rw[Ig,if_pos (by rw[aw];omega)]
      rw[hS]
      repeat' first|(exact⟨rfl,rfl,aX⟩)|refine gf (gi aa (gi aj (gi ag (gi am hne)))) ?_ o199|apply gy<;>intro hh
     ·have bI:Aa p q=p.nodes[q]:=by unfold Aa;simp [hq]
      have hS:Ig p inM (k+1) q size s1=if((p.nodes[q]).kids.length:Int)≠BQ p p.nodes[q]\/C6 p p.nodes[q] size=false\/((p.nodes[q]).op=18/\inM=false) then none else some (s1.set q size):=by
       rw[Ig,if_neg (by rw[aw];omega),bI];simp
      have bh:(p.nodes[q]).kids.length<=1073741824:=by have:=p7 q hq;unfold BNode.wt at this;omega
      generalize hx:p.nodes[q]=x at*
      have aH:∀o,Keep (· = r) Sd ((S1.set l (CU LO)).set r o):=fun o j x h1 h2=>by rw[w7 _ _ h2];exact aX j x h1 h2
      cases aD:C6 p x size with
      |false=>
       rw[if_pos (.inr (.inl aD))]at hS
       rw[hS]
       repeat' first|(exact⟨rfl,rfl,aH _⟩)|refine gf (gi aa (gi aj (gi ag (gi am (gi hne (gi hx aD)))))) ?_ o199|apply gy<;>intro hh
      | true =>
       by_cases aY:x.op=18/\inM=false
       ·rw[if_pos (.inr (.inr aY))]at hS
        rw[hS]
        repeat' first|(exact⟨rfl,rfl,aH _⟩)|refine gf (gi aa (gi aj (gi ag (gi am (gi hne (gi hx (gi aD aY.2))))))) ?_ o199|apply gy<;>intro hh
        all_goals exact absurd aY.1 (by assumption)
       ·
        repeat' first|refine gf (gi aa (gi aj (gi ag (gi am (gi hne (gi hx aD)))))) ?_ o199|apply gy<;>intro hh
        all_goals try (exfalso;grind)
        all_goals
         have aS:C6 p x size=false\/(x.op=18/\inM=false)->False:=fun h=>h.elim (by rw[aD];simp) aY
         have ax:(((S1.set l (CU LO)).set r (.cells (List.take q (List.map dI s1)++dI size::List.drop (q+1) (List.map dI s1)))) l=some (CU LO)) /\
           (fun U'=>(U' l=some LO/\U' r=some (.cells ((s1.set q size).map dI))/\(s1.set q size).length=p.nodes.length/\Keep (· = r) Sd U')/\Keep (· = r) S1 U') (((S1.set l (CU LO)).set r (.cells (List.take q (List.map dI s1)++dI size::List.drop (q+1) (List.map dI s1)))).set l LO):=by
          refine⟨by rw[w7 _ _ am,w6],⟨w6 ..,?_,by simpa using bE,fun j o h1 h2=>?_⟩,fun j o h1 h2=>?_⟩
          ·rw[w7 _ _ (Ne.symm am),w6,List.map_set,List.set_eq_take_append_cons_drop,if_pos (by simpa using br)]
          ·rw[w7 _ _ fun e=>by rw[e,hl]at h1;cases h1];exact aH _ j o h1 h2
          ·by_cases hj:j=l
           ·rw[hj]at h1⊢; rw[w6,<-h1,bf]
           ·rw[w7 _ _ hj,w7 _ _ h2,w7 _ _ hj];exact h1
         cases hk:Ij x.op with
         | some kk =>
          have aQ:El x.op=.iface 276 (dI kk):=by unfold El;rw[hk]
          have aP:BQ p x=kk:=by unfold BQ;rw[hk]
          rw[aP]at hS
          refine gf (gi aQ (gi aa (gi aj (gi ag (gi am (gi hne hx)))))) ?_ o199
          refine W7 meth413 (RC p x kk _) ?_
          repeat' first|refine gz ?_ o199|apply gy<;>intro hh
          ·have h6:=hh
           rw[hS,if_neg (fun h=>h.elim (fun h=>h h6) aS)]
           exact⟨ax.1,rfl,ax.2⟩
          ·have h6:=hh
           rw[hS,if_pos (.inl h6)]
           exact⟨rfl,rfl,aH _⟩
         | none =>
          by_cases h5:x.op=5
          ·have aQ:El x.op=.iface 277 (.agg []):=by unfold El;rw[hk];simp[h5]
           have bc:0<=x.n/\x.n<p.gens.length:=by simpa[C6,h5] using aD
           have aP:BQ p x=p.gens[x.n.toNat]'(by omega):=by unfold BQ;rw[hk];simp[h5,bc,List.getD_eq_getElem?_getD,show x.n.toNat<p.gens.length by omega]
           rw[aP]at hS
           refine gf (gi aQ (gi aa (gi aj (gi ag (gi am (gi hne hx)))))) ?_ o199
           refine W7 meth414 (RB p x _ bc.1 bc.2) ?_
           repeat' first|refine gz ?_ o199|apply gy<;>intro hh
           ·have h6:=hh
            rw[hS,if_neg (fun h=>h.elim (fun h=>h h6) aS)]
            exact⟨ax.1,rfl,ax.2⟩
           ·have h6:=hh
            rw[hS,if_pos (.inl h6)]
            exact⟨rfl,rfl,aH _⟩
          ·have aQ:El x.op=.niliface:=by unfold El;rw[hk];simp[h5]
           have aP:BQ p x = -1:=by unfold BQ;rw[hk];simp[h5]
           rw[hS,if_pos (.inl (by rw[aP];omega))]
           repeat' first|(exact⟨rfl,rfl,aH _⟩)|refine gf (gi aQ (gi aa (gi aj (gi ag (gi am (gi hne hx)))))) ?_ o199|apply gy<;>intro hh
  ·obtain⟨g1,g2,g3,g4⟩:=hG
   refine⟨by rw[w7 _ _ fun e=>by rw[e,ha]at g1;cases g1];exact g1,by rw[w7 _ _ fun e=>by rw[e,ha]at g2;cases g2];exact g2,g3,fun j x h1 h2=>?_⟩
   have:=g4 j x h1 h2
   rw[w7 _ _ fun e=>by rw[e,ha]at this;cases this];exact this
  ·have aK:r≠l:=fun e=>by rw[e,hl]at hr;cases hr
   subst e
   rw[w7 _ _ aK,hr]at ha;cases ha
  ·have aK:r≠l:=fun e=>by rw[e,hl]at hr;cases hr
   exact⟨w6 .., by rw[w7 _ _ aK];exact hr,hs,(Keep.refl _ Sd).fresh hl⟩
 ·rw[ho]
  have aK:r≠l:=fun e=>by rw[e,hl]at hr;cases hr
  have aN:r≠did:=fun e=>by rw[e,hd]at hr;cases hr
  have bk:¬did=r:=Ne.symm aN
  refine gz ?_ o199
  have hk:=((hG.2.2.base hd).del hl).del hd
  refine endM ⟨rfl,⟨by simp[Sig.del,aN,aK];exact hG.1,hG.2.1,hk⟩,hk⟩ ?_
  simp only[Sig.del,Ne.symm be,if_false]
  exact hG.2.2 did _ (w6 ..) bk
 ·rw[ho]
  have bk:¬did=r:=fun e=>by rw[<-e,hd]at hr;cases hr
  exact endMP ⟨rfl,(hb.base hd).del hd⟩ (hb did _ (w6 ..) bk)
def anyS{α S:Type}(f:α->S->Bool×S):List α->S->Bool×S
 |[],s=>(false,s)
 |x::r,s=>match f x s with
  |(true,s')=>(true,s')
  |(false,s')=>anyS f r s'
def allS{α S:Type}(f:α->S->Bool×S):List α->S->Bool×S
 |[],s=>(true,s)
 |x::r,s=>match f x s with
  |(false,s')=>(false,s')
  |(true,s')=>allS f r s'
theorem LG{α S:Type}(f:α->S->Bool×S): ∀(l:List α) (s:S),allS f l s=(!(anyS (fun x s=>(!(f x s).1,(f x s).2)) l s).1,(anyS (fun x s=>(!(f x s).1,(f x s).2)) l s).2)
 |[],s=>rfl
 |x::r,s=>by
  rw[allS,anyS]
  rcases h:f x s with⟨b,s'⟩
  cases b
  ·simp
  ·simp only[Bool.not_true];exact LG f r s'
theorem KB(l:List Int)(q:Int->Bool)(g:Nat)(first cap:List D)(o:Own)(O:Sig)(hl:l.length<=1073741824)
  (hg:∀x∈l,DCall prog g (first++dI x::cap) O fun r S''=>r=.ret (.bool (q x))/\S''=O) :
  DCall prog 230 [.slice (cI l) o,.func (.func g) first cap] O (rS (dI (idxF q l 0)) O):=by
 refine en func230 ntmps230 ?_
 refine gz ?_
 refine BV [0,1,7] (fun (k:Nat)=>k<=l.length/\idxF q l 0=idxF q (l.drop k) k) (fun k=>[(8,dI k)]) (fun _=>O) (fun k=>l.length-k) (0) td3 (fun k hI=>?_)
 obtain⟨hk,hR⟩:=hI
 by_cases h:k<l.length
 ·rw[A5 h,idxF]at hR
  repeat' first|refine Bg (hg (l[k]) (List.getElem_mem h)) ?_|refine callP (hg (l[k]) (List.getElem_mem h)) ?_|refine gf h ?_|apply gy<;>intro hh
  ·exact fe1 hR
  ·exact⟨k+1,⟨by omega,by rw[hR,hh];rfl⟩,td1,wkR⟩
 ·refine gf h ?_
  (refine fin1 (U':=O) ?_;exact⟨by first|rfl|(simp[hR,A9 h,idxF];done)|(simp_all [hR,A9 h,idxF];done)|(rw[Ac,Bool.eq_iff_iff];simp_all [hR,A9 h,idxF]<;>omega),rfl⟩)
theorem KC(l:List Int)(q:Int->Bool)(g:Nat)(first cap:List D)(o:Own)(O:Sig)(hl:l.length<=1073741824)
  (hg:∀x∈l,DCall prog g (first++dI x::cap) O fun r S''=>r=.ret (.bool (q x))/\S''=O) :
  DCall prog 151 [.slice (cI l) o,.func (.func g) first cap] O (rS (.bool (l.any q)) O):=by
 refine en func151 ntmps151 ?_
 repeat' first|refine gz ?_|refine Bg (KB l q g first cap o O hl hg) ?_|refine callP (KB l q g first cap o O hl hg) ?_|refine gz ?_|apply gy<;>intro hh
 (refine fin1 (U':=O) ?_;exact⟨by first|rfl|(simp[Dw];done)|(simp_all [Dw];done)|(rw[Ac,Bool.eq_iff_iff];simp_all [Dw]<;>omega),rfl⟩)
theorem Kx(q:Int->Bool)(g:Nat)(first cap:List D)(x:Int)(O:Sig)
  (hg:DCall prog g (first++dI x::cap) O fun r S''=>r=.ret (.bool (q x))/\S''=O) :
  DCall prog 370 [dI x,.cptr [.func (.func g) first cap] 0] O (rS (.bool (!q x)) O):=by
 refine en func370 ntmps370 ?_
 repeat' first|refine Bg (hg) ?_|refine callP (hg) ?_|refine gz ?_|apply gy<;>intro hh
 exact fe1 trivial
theorem G1(l:List Int)(q:Int->Bool)(g:Nat)(first cap:List D)(o:Own)(O:Sig)(hl:l.length<=1073741824)
  (hg:∀x∈l,DCall prog g (first++dI x::cap) O fun r S''=>r=.ret (.bool (q x))/\S''=O) :
  DCall prog 346 [.slice (cI l) o,.func (.func g) first cap] O (rS (.bool (l.all q)) O):=by
 refine en func346 ntmps346 ?_
 repeat' first|refine gz ?_|refine Bg (KC l (fun x=> !q x) 370 [] [.cptr [.func (.func g) first cap] 0] o O hl (fun x hx=>Kx q g first cap x O (hg x hx))) ?_|refine callP (KC l (fun x=> !q x) 370 [] [.cptr [.func (.func g) first cap] 0] o O hl (fun x hx=>Kx q g first cap x O (hg x hx))) ?_|refine gz ?_|apply gy<;>intro hh
 (refine fin1 (U':=O) ?_;exact⟨by first|rfl|(simp[List.not_all_eq_any_not];done)|(simp_all [List.not_all_eq_any_not];done)|(rw[Ac,Bool.eq_iff_iff];simp_all [List.not_all_eq_any_not]<;>omega),rfl⟩)
theorem RD{S:Type}(l:List Fact)(f:Fact->S->Bool×S)(g:Nat)(first cap:List D)(o:Own)(Good:Sig->S->Prop)(hl:l.length<=1073741824)
  (hg:∀x∈l, ∀O s,Good O s->DCall prog g (first ++ .agg (Cc x)::cap) O fun r U'=>r=.ret (.bool (f x s).1)/\Good U' (f x s).2) (O:Sig) (s:S) (hG:Good O s) :
  DCall prog 387 [.slice (l.map Cc) o,.func (.func g) first cap] O fun x U'=> ∃i:Int,x=.ret (dI i)/\decide (0<=i)=(anyS f l s).1/\Good U' (anyS f l s).2:=by
 refine en func387 ntmps387 ?_
 refine gz ?_
 refine Gb [0,1,7] (fun (k:Nat) (s1:S) (S1:Sig)=>k<=l.length/\Good S1 s1/\anyS f l s=anyS f (l.drop k) s1) (fun k _ _=>[(8,dI k)]) (fun _ _ S1=>S1) (fun k _ _=>l.length-k) (0) (s) (O) (by exact⟨by omega,hG,rfl⟩) (fun k s1 S1 hI=>?_)
 obtain⟨hk,bz,hR⟩:=hI
 by_cases h:k<l.length
 ·rw[A5 h,anyS]at hR
  refine gf h ?_
  refine A4 (hg (l[k]) (List.getElem_mem h) S1 s1 bz) (fun e S2 hr=>?_) (fun e S2 hr=>?_)
  ·obtain⟨h1,h2⟩:=hr
   simp only[DE.ret.injEq]at h1
   subst h1
   rcases hf:f l[k] s1 with⟨b,s2⟩
   rw[hf]at hR h2
   cases b
   ·refine gz ?_
    exact⟨k+1,s2,S2,⟨by omega,h2,hR⟩,td1,wkR⟩
   ·refine gz ?_
    refine fin1 (U':=S2) ?_
    exact⟨k,rfl,by rw[hR];simp,by rw[hR];exact h2⟩
  ·cases hr.1
 ·rw[A9 h,anyS]at hR
  refine gf h ?_
  refine fin1 (U':=S1) ?_
  exact⟨-1,rfl,by rw[hR];rfl,by rw[hR];exact bz⟩
theorem RI{S:Type}(l:List Fact)(f:Fact->S->Bool×S)(g:Nat)(first cap:List D)(o:Own)(Good:Sig->S->Prop)(hl:l.length<=1073741824)
  (hg:∀x∈l, ∀O s,Good O s->DCall prog g (first ++ .agg (Cc x)::cap) O fun r U'=>r=.ret (.bool (f x s).1)/\Good U' (f x s).2) (O:Sig) (s:S) (hG:Good O s) :
  DCall prog 371 [.slice (l.map Cc) o,.func (.func g) first cap] O fun x U'=>x=.ret (.bool (anyS f l s).1)/\Good U' (anyS f l s).2:=by
 refine en func371 ntmps371 ?_
 refine gz ?_
 refine A4 (RD l f g first cap o Good hl hg O s hG) (fun e S2 hr=>?_) (fun e S2 hr=>?_)
 ·obtain⟨i,h1,h2,h3⟩:=hr
  simp only[DE.ret.injEq]at h1
  subst h1
  refine gz ?_
  refine fin1 (U':=S2) ?_
  exact⟨by rw[<-h2],h3⟩
 ·obtain⟨i,h1,_⟩:=hr;cases h1
theorem RH{S:Type}(f:Fact->S->Bool×S)(g:Nat)(first cap:List D)(Good:Sig->S->Prop)(x:Fact)(O:Sig)(s:S)(hg:DCall prog g (first ++ .agg (Cc x)::cap) O fun r U'=>r=.ret (.bool (f x s).1)/\Good U' (f x s).2):
  DCall prog 372 [.agg (Cc x),.cptr [.func (.func g) first cap] 0] O fun r U'=>r=.ret (.bool (!(f x s).1))/\Good U' (f x s).2:=by
 refine en func372 ntmps372 ?_
 refine gz ?_
 refine A4 hg (fun e S2 hr=>?_) (fun e S2 hr=>?_)
 ·obtain⟨h1,h2⟩:=hr
  simp only[DE.ret.injEq]at h1
  subst h1
  refine gz ?_
  refine fin1 (U':=S2) ?_
  exact⟨rfl,h2⟩
 ·cases hr.1
theorem Mm{S:Type}(l:List Fact)(f:Fact->S->Bool×S)(g:Nat)(first cap:List D)(o:Own)(Good:Sig->S->Prop)(hl:l.length<=1073741824)
  (hg:∀x∈l, ∀O s,Good O s->DCall prog g (first ++ .agg (Cc x)::cap) O fun r U'=>r=.ret (.bool (f x s).1)/\Good U' (f x s).2) (O:Sig) (s:S) (hG:Good O s) :
  DCall prog 348 [.slice (l.map Cc) o,.func (.func g) first cap] O fun x U'=>x=.ret (.bool (allS f l s).1)/\Good U' (allS f l s).2:=by
 refine en func348 ntmps348 ?_
 refine gz ?_
 refine A4 (RI l (fun x s=>(!(f x s).1,(f x s).2)) 372 [] [.cptr [.func (.func g) first cap] 0] o Good hl (fun x hx O s hG=>RH f g first cap Good x O s (hg x hx O s hG)) O s hG) (fun e S2 hr=>?_) (fun e S2 hr=>?_)
 ·obtain⟨h1,h2⟩:=hr
  simp only[DE.ret.injEq]at h1
  subst h1
  refine gz ?_
  refine fin1 (U':=S2) ?_
  exact⟨by rw[LG],by rw[LG];exact h2⟩
 ·cases hr.1
def wObj(w:World)(us:List Int):DObj:=.cells (sl (cII w.parents)::sl (cI w.owner)::us.map (D.int .u64))
def Pd(w:World)(l:List Int):Bool:=decide (l.length<=2)&&l.all (fun c=>decide (0<=c/\c<w.owner.length))
section
variable (w:World)(us:List Int)(iw:Nat)(O:Sig)(hw:O iw=some (wObj w us))
include hw
theorem Ky(c:Int)(hl:w.parents.length<=1073741824):DCall prog 347 [.ptr iw 0,dI c] O (rS (.bool (decide (3<=c/\c<3+w.parents.length))) O):=by
 unfold wObj at hw
 refine en func347 ntmps347 ?_
 repeat' first|refine gf hw ?_|apply gy<;>intro hh
 any_goals (first|exact fe1 trivial|fail)
theorem Ku(c:Int)(hl:w.owner.length<=1073741824):DCall prog 388 [.ptr iw 0,dI c] O (rS (.bool (decide (0<=c/\c<w.owner.length))) O):=by
 unfold wObj at hw
 refine en func388 ntmps388 ?_
 repeat' first|refine gf hw ?_|apply gy<;>intro hh
 any_goals (first|exact fe1 trivial|fail)
theorem Kv(c:Int)(hl:w.parents.length<=1073741824):DCall prog 376 [.ptr iw 0,dI c] O (rS (.bool (decide (0<=c/\c<3+w.parents.length))) O):=by
 unfold wObj at hw
 refine en func376 ntmps376 ?_
 repeat' first|refine gf hw ?_|apply gy<;>intro hh
 any_goals (first|exact fe1 trivial|fail)
theorem Kw(l:List Int)(o:Own)(hl:w.owner.length<=1073741824)(bu:l.length<=1073741824):DCall prog 375 [.ptr iw 0,.slice (cI l) o] O (rS (.bool (Pd w l)) O):=by
 refine en func375 ntmps375 ?_
 repeat' first|refine gz ?_|refine CR (G1 l (fun c=>decide (0<=c/\c<w.owner.length)) 388 [.ptr iw 0] [] _ _ bu (fun x _=>Ku w us iw _ hw x hl)) ?_|refine callPG (G1 l (fun c=>decide (0<=c/\c<w.owner.length)) 388 [.ptr iw 0] [] _ _ bu (fun x _=>Ku w us iw _ hw x hl)) ?_|refine gz ?_|apply gy<;>intro hh
 any_goals (first|(refine fin1 (U':=O) ?_;exact⟨by first|rfl|(simp[Pd];done)|(simp_all [Pd];done)|(rw[Ac,Bool.eq_iff_iff];simp_all [Pd]<;>omega),rfl⟩)|fail)
end
def J4(w:World)(f:Fact):Bool:=decide (0<=f.arg/\f.arg<3)&&Pd w f.path &&
 (if f.op=2 then decide (f.n=0)&&decide (0<=f.cls/\f.cls<3+w.parents.length) else decide (f.cls=0)&&inB f.n)
def Ga(w:World):Nat->Fact->Int->Bool×Int
 |0,_,s=>(false,IntKind.i64.wrap (s-1))
 |d+1,f,s=>
  if IntKind.i64.wrap (s-1)<0\/f.op<1\/7<f.op\/f.kids.length≠C9 f.op then(false,IntKind.i64.wrap (s-1)) else
  if Cx f.op then(J4 w f,IntKind.i64.wrap (s-1)) else
  if f.arg=0/\f.path.length=0/\f.cls=0/\f.n=0 then allS (Ga w d) f.kids (IntKind.i64.wrap (s-1)) else(false,IntKind.i64.wrap (s-1))
theorem Pu(iw il d:Nat)(x:Fact)(b:Bool)(G:Sig->Prop)(O:Sig)(hd:d<=1000)(h:DCall prog 350 [.ptr iw 0,.agg (Cc x),.ptr il 0,dI d] O fun r U'=>r=.ret (.bool b)/\G U'):
  DCall prog 377 [.agg (Cc x),.cptr [.ptr iw 0] 0,.cptr [.ptr il 0] 0,.cptr [dI ((d:Int)+1)] 0] O fun r U'=>r=.ret (.bool b)/\G U':=by
 refine en func377 ntmps377 ?_
 refine gf (show((d:Int)+1-1)=d by omega) ?_
 refine A4 h (fun e S2 hr=>?_) (fun e S2 hr=>by cases hr.1)
 obtain⟨h1,h2⟩:=hr
 simp only[DE.ret.injEq]at h1
 subst h1
 refine gz ?_
 refine fin1 (U':=S2) ?_
 exact⟨rfl,h2⟩
theorem RM(w:World)(us:List Int)(iw il:Nat)(S0:Sig)(hw:S0 iw=some (wObj w us))(hne:iw≠il)(aE:w.parents.length<=1073741824)(aF:w.owner.length<=1073741824):
  ∀(d:Nat) (f:Fact) (s:Int) (O:Sig),d<=1000->f.wt<=1073741824->Keep (· = il) S0 O->O il=some (.cells [dI s])->
   DCall prog 350 [.ptr iw 0,.agg (Cc f),.ptr il 0,dI d] O fun x U'=>x=.ret (.bool (Ga w d f s).1)/\(Keep (· = il) S0 U'/\U' il=some (.cells [dI (Ga w d f s).2])):=by
 intro d
 have aq:∀(O:Sig) (o:DObj),Keep (· = il) S0 O->Keep (· = il) S0 (O.set il o):=fun O o h j x h1 h2=>by rw[w7 _ _ h2];exact h j x h1 h2
 induction d with
 |zero=>
  intro f s O hd hf hK hs
  have aq:=fun o=>aq O o hK
  refine en func350 ntmps350 ?_
  repeat' first|(refine fin1 (U':=O.set il (.cells [dI (IntKind.i64.wrap (s-1))])) ?_;exact⟨rfl,aq _,w6 ..⟩)|refine gf hs ?_ o350|apply gy<;>intro hh
 | succ d ih =>
  intro f s O hd hf hK hs
  have aq:=fun o=>aq O o hK
  obtain⟨w1,w2,w3⟩:=f.wt_le
  have b6:(C9 f.op:Int)<=2:=by unfold C9;split<;>(try split)<;>omega
  have aU:(O.set il (.cells [dI (IntKind.i64.wrap (s-1))])) iw=some (wObj w us):=aq _ iw _ hw hne
  refine en func350 ntmps350 ?_
  by_cases ap:IntKind.i64.wrap (s-1)<0\/f.op<1\/7<f.op\/f.kids.length≠C9 f.op
  ·have hN:Ga w (d+1) f s=(false,IntKind.i64.wrap (s-1)):=by rw[Ga,if_pos ap]
   rw[hN]
   repeat' first|(refine fin1 (U':=O.set il (.cells [dI (IntKind.i64.wrap (s-1))])) ?_;exact⟨rfl,aq _,w6 ..⟩)|refine gf hs ?_ o350|apply gy<;>intro hh
   all_goals (exfalso;simp_all;omega)
  ·have hN:Ga w (d+1) f s=if Cx f.op then(J4 w f,IntKind.i64.wrap (s-1)) else if f.arg=0/\f.path.length=0/\f.cls=0/\f.n=0 then allS (Ga w d) f.kids (IntKind.i64.wrap (s-1)) else(false,IntKind.i64.wrap (s-1)):=by rw[Ga,if_neg ap]
   have b1:¬IntKind.i64.wrap (s-1)<0:=fun h=>ap (.inl h)
   have b2:¬f.op<1:=fun h=>ap (.inr (.inl h))
   have b3:¬7<f.op:=fun h=>ap (.inr (.inr (.inl h)))
   have b4:f.kids.length=C9 f.op:=by omega
   cases aG:Cx f.op with
   | true =>
    rw[aG,if_pos rfl]at hN
    rw[hN]
    repeat' first|refine gf (gi hs (gi b1 (gi b4 aG))) ?_|refine CR (Kw w us iw _ aU f.path .no aF (by omega)) ?_|refine callPG (Kw w us iw _ aU f.path .no aF (by omega)) ?_|refine CR (Kv w us iw _ aU f.cls aE) ?_|refine callPG (Kv w us iw _ aU f.cls aE) ?_|refine gf (gi hs (gi b1 (gi b4 aG))) ?_ o350|apply gy<;>intro hh
    all_goals
     refine fin1 (U':=O.set il (.cells [dI (IntKind.i64.wrap (s-1))])) ?_
     refine⟨?_,aq _,w6 ..⟩
     first|(simp_all [J4,inB];done)|(rw[show DE.ret (D.bool (J4 w f,IntKind.i64.wrap (s-1)).1)=DE.ret (D.bool (J4 w f)) from rfl,Ac,Bool.eq_iff_iff];simp_all [J4,inB];done)|(rw[show DE.ret (D.bool (J4 w f,IntKind.i64.wrap (s-1)).1)=DE.ret (D.bool (J4 w f)) from rfl,Ac,Bool.eq_iff_iff];simp_all [J4,inB];omega)
   | false =>
    rw[aG,if_neg (by simp)]at hN
    rw[hN]
    by_cases h0:f.arg=0/\f.path.length=0/\f.cls=0/\f.n=0
    ·rw[if_pos h0]
     repeat' first|refine gf (gi hs (gi b1 (gi b4 aG))) ?_ o350|apply gy<;>intro hh
     all_goals try (exfalso;omega)
     have bK:∀x∈f.kids,x.wt<=1073741824:=fun x hx=>by obtain⟨k,hk,rfl⟩:=List.getElem_of_mem hx;have:=w3 k hk;omega
     refine A4 (Mm f.kids (Ga w d) 377 [] [.cptr [.ptr iw 0] 0,.cptr [.ptr il 0] 0,.cptr [dI ((d:Int)+1)] 0] .no (fun U' s'=>Keep (· = il) S0 U'/\U' il=some (.cells [dI s'])) (by omega) (fun x hx U' s' hG=>Pu iw il d x _ _ U' (by omega) (ih x s' U' (by omega) (bK x hx) hG.1 hG.2)) _ (IntKind.i64.wrap (s-1)) ⟨aq _,w6 ..⟩) (fun e S2 hr=>?_) (fun e S2 hr=>by cases hr.1)
     obtain⟨h1,h2⟩:=hr
     simp only[DE.ret.injEq]at h1
     subst h1
     refine gz ?_ o350
     refine fin1 (U':=S2) ?_
     exact⟨rfl,h2⟩
    ·rw[if_neg h0]
     repeat' first|(refine fin1 (U':=O.set il (.cells [dI (IntKind.i64.wrap (s-1))])) ?_;exact⟨rfl,aq _,w6 ..⟩)|refine gf (gi hs (gi b1 (gi b4 aG))) ?_ o350|apply gy<;>intro hh
     all_goals (exfalso;omega)
def DP(w:World)(f:Fact):Bool:=(Ga w 12 f 24).1
theorem Px(w:World)(us:List Int)(iw:Nat)(f:Fact)(O:Sig)(hw:O iw=some (wObj w us))(aE:w.parents.length<=1073741824)(aF:w.owner.length<=1073741824)(hf:f.wt<=1073741824):
  DCall prog 349 [.agg (Cc f),.cptr [.ptr iw 0] 0] O (rS (.bool (DP w f)) O):=by
 refine en func349 ntmps349 ?_
 refine gz ?_ [] [4]
 refine newV (fun il ak=>?_)
 have hne:iw≠il:=fun e=>by rw[e,ak]at hw;cases hw
 refine gz ?_ [] [4]
 refine A4 (RM w us iw il O hw hne aE aF 12 f 24 (O.set il (.cells [dI 24])) (by omega) hf ((Keep.refl _ O).fresh ak) (w6 ..)) (fun e S2 hr=>?_) (fun e S2 hr=>by cases hr.1)
 obtain⟨h1,h2,h3⟩:=hr
 simp only[DE.ret.injEq]at h1
 subst h1
 refine gz ?_ [] [4]
 refine fin1 (U':=O) ?_ (hZ:=fun j o hj=>h2 j o hj (fun e=>by rw[e,ak]at hj;cases hj))
 exact⟨rfl,rfl⟩
theorem N9{α:Type}(q:α->Bool): ∀l:List α,allS (fun x (_:Unit)=>(q x,())) l ()=(l.all q,())
 |[]=>rfl
 |x::r=>by
  rw[allS,List.all_cons]
  cases h:q x
  ·simp
  ·simp only[Bool.true_and];exact N9 q r
theorem KA(w:World)(us:List Int)(iw:Nat)(l:List Fact)(o:Own)(O:Sig)(hw:O iw=some (wObj w us))(aE:w.parents.length<=1073741824)(aF:w.owner.length<=1073741824)(hl:l.length<=1073741824)(hf:∀f∈l,f.wt<=1073741824):
  DCall prog 305 [.ptr iw 0,.slice (l.map Cc) o] O (rS (.bool (l.all (DP w))) O):=by
 refine en func305 ntmps305 ?_
 refine gz ?_
 refine A4 (Mm l (fun x (_:Unit)=>(DP w x,())) 349 [] [.cptr [.ptr iw 0] 0] o (fun U' _=>U'=O) hl (fun x hx U' s' hG=>by rw[hG];exact Px w us iw x O hw aE aF (hf x hx)) _ () rfl) (fun e S2 hr=>?_) (fun e S2 hr=>by cases hr.1)
 obtain⟨h1,h2⟩:=hr
 simp only[DE.ret.injEq]at h1
 subst h1
 rw[show S2=O from h2]
 refine gz ?_
 rw[N9]
 exact fe1 trivial
theorem Kz(s c:Int)(O:Sig)(hc:0<=c):DCall prog 345 [.int .u64 s,dI c] O fun x U'=>(∃n:Int,x=.ret (.int .u64 n))/\U'=O:=by
 refine en func345 ntmps345 ?_
 try refine gf (OS .u64 .i64 1 c hc) ?_
 refine fin1 (U':=O) ?_
 exact⟨⟨_,rfl⟩,rfl⟩
theorem NX(w:World)(us:List Int)(c:Nat)(n:Int)(h:c<us.length):DObj.cells (List.take (2+c) (sl (cII w.parents)::sl (cI w.owner)::List.map (D.int IntKind.u64) us)++D.int IntKind.u64 n::List.drop (2+c) (sl (cI w.owner)::List.map (D.int IntKind.u64) us))=wObj w (us.set c n):=by
 rw[show 2+c=c+1+1 by omega];simp only[List.take_succ_cons,List.drop_succ_cons,List.cons_append];unfold wObj;rw[List.map_set,List.set_eq_take_append_cons_drop,if_pos (by simpa using h)]
theorem PA(w:World)(O:Sig)(hg:Bb w.parents=true)(bW:∀x∈w.parents,x.length<=1073741824)(ho:w.owner.length<=40)(bH:∀c∈w.owner,3<=c/\c<3+w.parents.length):
  DCall prog 304 [.agg (DW w)] O fun x U'=> ∃iw us,O iw=none/\x=.ret (.tup [.ptr iw 0,.bool true])/\U'=O.set iw (wObj w us):=by
 have hlen:=Dx hg
 refine en func304 ntmps304 ?_
 repeat ((fail_if_success (first|(refine boxV (T:=421) (fun iw bi=>?_))|fail));(refine goX1 trivial ?_))
 refine boxV (T:=421) (fun iw bi=>?_)
 have e0:wObj w (List.replicate 63 0)=.cells [sl (cII w.parents),sl (cI w.owner),.int .u64 0,.int .u64 0,.int .u64 0,.int .u64 0,.int .u64 0,.int .u64 0,.int .u64 0,.int .u64 0,.int .u64 0,.int .u64 0,.int .u64 0,.int .u64 0,.int .u64 0,.int .u64 0,.int .u64 0,.int .u64 0,.int .u64 0,.int .u64 0,.int .u64 0,.int .u64 0,.int .u64 0,.int .u64 0,.int .u64 0,.int .u64 0,.int .u64 0,.int .u64 0,.int .u64 0,.int .u64 0,.int .u64 0,.int .u64 0,.int .u64 0,.int .u64 0,.int .u64 0,.int .u64 0,.int .u64 0,.int .u64 0,.int .u64 0,.int .u64 0,.int .u64 0,.int .u64 0,.int .u64 0,.int .u64 0,.int .u64 0,.int .u64 0,.int .u64 0,.int .u64 0,.int .u64 0,.int .u64 0,.int .u64 0,.int .u64 0,.int .u64 0,.int .u64 0,.int .u64 0,.int .u64 0,.int .u64 0,.int .u64 0,.int .u64 0,.int .u64 0,.int .u64 0,.int .u64 0,.int .u64 0,.int .u64 0,.int .u64 0]:=rfl
 rw[<-e0]
 clear e0
 try refine gz ?_ o304
 refine BZ [1,2,3,4,6,7,8,9,10,35,36,37,38,39,40,41,42,43,44,45,46,47,48,49,50,51,52,53,54,55,56,57,58,59,60,61,62,63,64,65,66,67,68,69,70,71,72,73,74,75,76,77,78,79,80,81,82,83,84,85,86,87,88,89,90] (fun (c:Nat) (us:List Int)=>c<=3/\us.length=63) (fun c _=>[(24,dI c)]) (fun _ us=>O.set iw (wObj w us)) (fun c _=>3-c) (0) (List.replicate 63 0) (by simp) (fun c us hI=>?_)
 obtain⟨hc,bp⟩:=hI
 have aT:wObj w us=.cells (sl (cII w.parents)::sl (cI w.owner)::us.map (D.int .u64)):=rfl
 by_cases b7:c<3
 ·try refine gz ?_ o304
  refine Bd (Kz 1 c _ (by omega)) (fun d U' h=>?_) (fun d U' h=>by obtain⟨⟨n,h⟩,_⟩:=h;cases h)
  obtain⟨⟨n,h⟩,rfl⟩:=h
  simp only[DE.ret.injEq]at h
  subst h
  refine⟨Sub.refl _,?_⟩
  try refine gf aT ?_ o304
  rw[NX _ _ _ _ (by omega)]
  exact⟨c+1,us.set c n,by simp;omega,td1,wkR⟩
 ·try refine gz ?_ o304
  refine BZ [1,4,36,37,85,86,87,88,89,90] (fun (i:Nat) (us:List Int)=>i<=w.parents.length/\us.length=63) (fun i _=>[(38,dI i)]) (fun _ us=>O.set iw (wObj w us)) (fun i _=>w.parents.length-i) (0) (us) (by exact⟨by omega,bp⟩) (fun i us hI=>?_)
  obtain⟨hi,bp⟩:=hI
  have aT:wObj w us=.cells (sl (cII w.parents)::sl (cI w.owner)::us.map (D.int .u64)):=rfl
  by_cases ak:i<w.parents.length
  ·have aJ:=FE (by simpa[Bb] using hg:w.parents.length<=16/\C8 0 w.parents=true).2 i ak
   generalize hr:w.parents[i]=row at*
   simp only[HO,Bool.and_eq_true,decide_eq_true_eq,Nat.zero_add]at aJ
   try refine gf hr ?_ o304
   refine A4 (Kz 1 (3+i) _ (by omega)) (fun d U' h=>?_) (fun d U' h=>by obtain⟨⟨n,h⟩,_⟩:=h;cases h)
   obtain⟨⟨n,h⟩,rfl⟩:=h
   simp only[DE.ret.injEq]at h
   subst h
   try refine gf hr ?_ o304
   refine BZ [1,4,6,7,36,37,38,39,40,41,42,43,44,45,46,47,77,78,79,80,81,82,83,84,85,86,87,88,89,90] (fun (k:Nat) (n:Int)=>k<=row.length/\Dp i (row.take k) (row.drop k)=true) (fun k n=>[(48,dI k),(8,.int .u64 n)]) (fun _ _=>O.set iw (wObj w us)) (fun k _=>row.length-k) (0) (n) (by exact⟨by omega,by simpa using aJ.2⟩) (fun k n hI=>?_)
   obtain⟨hk,hE⟩:=hI
   by_cases bh:k<row.length
   ·rw[A5 bh,Dp,<-DG bh]at hE
    simp only[Bool.and_eq_true,decide_eq_true_eq,Bool.not_eq_true',decide_eq_false_iff_not]at hE
    obtain⟨q,hq⟩:∃q:Nat,row[k]=(q:Int):=⟨(row[k]).toNat,by omega⟩
    rw[hq]at hE
    have aw:(sl (cII w.parents)::sl (cI w.owner)::List.map (D.int IntKind.u64) us)[2+q]? = some (D.int IntKind.u64 (us[q]'(by omega))):=by
     rw[show 2+q=q+1+1 by omega,List.getElem?_cons_succ,List.getElem?_cons_succ,List.getElem?_map,List.getElem?_eq_getElem (by omega)];rfl
    try refine gf (gi aT (gi hq (gi hE.1.2 aw))) ?_ o304
    exact⟨k+1,_,⟨by omega,hE.2⟩,td1,wkR⟩
   ·
    try refine gf (gi hr aT) ?_ o304
    rw[show 2+(3+(i:Int)).toNat=2+(3+i) by omega,NX _ _ _ _ (by omega)]
    exact⟨i+1,us.set (3+i) n,by simp;omega,td1,wkR⟩
  ·repeat' first|refine gz ?_|refine Bg (G1 w.owner (fun c=>decide (3<=c/\c<3+w.parents.length)) 347 [.ptr iw 0] [] _ _ (by omega) (fun x _=>Ky w us iw _ (w6 ..) x (by omega))) ?_|refine callP (G1 w.owner (fun c=>decide (3<=c/\c<3+w.parents.length)) 347 [.ptr iw 0] [] _ _ (by omega) (fun x _=>Ky w us iw _ (w6 ..) x (by omega))) ?_|refine gz ?_ o304|apply gy<;>intro hh
   refine fin2 (U':=O.set iw (wObj w us)) ?_
   refine⟨iw,us,bi,?_,rfl⟩
   rw[List.all_eq_true.2 fun c hc=>by have:=bH c hc;simpa using this]
structure WorldOK(w:World):Prop where
 good:Bb w.parents=true
 len:∀x∈w.parents,x.length<=1073741824
 few:w.owner.length<=40
 own:∀c∈w.owner,3<=c/\c<3+w.parents.length
theorem PC(w:World)(l:List Fact)(o:Own)(O:Sig)(h:WorldOK w)(hl:l.length<=1073741824)(hf:∀f∈l,f.wt<=1073741824):
  DCall prog 257 [.agg (DW w),.slice (l.map Cc) o] O fun x U'=>(∃d,x=.ret (.tup [d,.bool (l.all (DP w))]))/\U'=O:=by
 have hlen:=Dx h.good
 have bO:=h.few
 refine en func257 ntmps257 ?_
 try refine gz ?_
 refine A4 (PA w O h.good h.len h.few h.own) (fun d U' hr=>?_) (fun d U' hr=>by obtain⟨_,_,_,h,_⟩:=hr;cases h)
 obtain⟨iw,us,bi,h1,rfl⟩:=hr
 simp only[DE.ret.injEq]at h1
 subst h1
 repeat' first|refine gz ?_|refine CR (KA w us iw l o _ (w6 ..) (by omega) (by omega) hl hf) ?_|refine callPG (KA w us iw l o _ (w6 ..) (by omega) (by omega) hl hf) ?_|refine gz ?_|apply gy<;>intro hh
 refine fin2 (U':=O) ?_
 exact⟨⟨_,rfl⟩,rfl⟩
theorem SK(w:World)(f:Fact)(O:Sig)(h:WorldOK w)(hf:f.wt<=1073741824):DCall prog 204 [.agg (DW w),.agg (Cc f)] O (rS (dI (if DP w f then 0 else 2)) O):=by
 refine en func204 ntmps204 ?_
 try refine gz ?_
 refine A4 (PC w [f] .clip O h (by simp) (by simpa using hf)) (fun d U' hr=>?_) (fun d U' hr=>by obtain⟨⟨_,h⟩,_⟩:=hr;cases h)
 obtain⟨⟨e,h1⟩,h2⟩:=hr
 simp only[DE.ret.injEq]at h1
 subst h1
 rw[h2]
 try refine gz ?_
 exact fe1 trivial
@[reducible,instance] def a204:=fun w f O=>ah2 (@SK w f O)
theorem KL: ∀(cs:List BClass) (n m:Int),B4 n cs=some m->∀c∈cs,c.slots.length<=4
 |[],_,_,_,c,hc=>by simp at hc
 | x::r,n,m,h,c,hc=>by
  rw[B4]at h
  split at h
  ·cases h
  ·rename_i h4
   split at h
   ·cases h
   ·rcases List.mem_cons.1 hc with rfl|hc
    ·omega
    ·exact KL r _ _ h c hc
theorem Kd: ∀(cs:List BClass) (i:Nat),(∀c∈cs,c.slots.length<=4)->(ownersF cs i).length<=4*cs.length /\ ∀x∈ownersF cs i,3+(i:Int)<=x/\x<3+(i:Int)+cs.length
 |[],_,_=>by simp[ownersF]
 | c::r,i,h=>by
  obtain⟨h1,h2⟩:=Kd r (i+1) fun c hc=>h c (by simp[hc])
  have h3:=h c (by simp)
  rw[ownersF]
  refine⟨by simp only[List.length_append,List.length_replicate,List.length_cons];omega,fun x hx=>?_⟩
  rcases List.mem_append.1 hx with hx|hx
  ·have:=List.eq_of_mem_replicate hx
   simp only[List.length_cons];omega
  ·have:=h2 x hx
   simp only[List.length_cons];omega
theorem worldOK{p:BProg}(hp:p.wt<=1073741824)(h:Ax p=true):WorldOK (Bp p):=by
 obtain⟨p1,p2,p3,p4,p5,p6,p7⟩:=p.wt_le
 unfold Ax at h
 simp only[Bool.and_eq_true,decide_eq_true_eq]at h
 obtain⟨b8,h⟩:=h
 split at h
 ·cases h
 ·rename_i n hn
  simp only[Bool.and_eq_true,decide_eq_true_eq]at h
  obtain⟨⟨_,hg⟩,_⟩:=h
  obtain⟨o1,o2⟩:=Kd p.classes 0 (KL _ _ _ hn)
  refine⟨hg,fun x hx=>?_,by show(ownersF p.classes 0).length<=40;omega,fun c hc=>?_⟩
  ·obtain⟨c,hc,rfl⟩:=List.mem_map.1 (show x∈p.classes.map (·.parents) from hx)
   obtain⟨k,hk,rfl⟩:=List.getElem_of_mem hc
   have:=p5 k hk
   unfold BClass.wt at this;omega
  ·have:=o2 c hc
   show 3<=c/\c<3+((p.classes.map (·.parents)).length:Int)
   rw[List.length_map];omega
def Gx(p:BProg)(m:BMeth):Bool:=decide (1<=m.kind/\m.kind<=4)&&decide (0<=m.gen/\m.gen<p.gens.length)&&DP (Bp p) m.fact&&decide (m.fact.speaks<=p.gens.getD m.gen.toNat 0)
def Cw(p:BProg):List BMeth->List Int->Option (List Int)
 |[],s=>some s
 | m::r,s=>if Gx p m then (match optW (Bx p (decide (m.kind=1) || decide (m.kind=4)) 12 m.node (p.gens.getD m.gen.toNat 0) s) with
   |none=>none
   |some s'=>Cw p r s') else none
def Df(p:BProg):Option (List Int):=
 if Ax p&&(decide (p.gens.length<=8)&&decide (p.methods.length<=16)&&decide (1<=p.nodes.length)&&decide (p.nodes.length<=120))&&p.gens.all (fun g=>decide (1<=g/\g<=3)) then
  match Cw p p.methods (List.replicate p.nodes.length (-1))with
  |none=>none
  |some s=>match optW (Bx p false 12 p.main 0 s)with
   |none=>none
   |some s2=>if -1∈s2 then none else some s2
 else none
def SzR(p:BProg)(io:Nat)(O:Sig)(x:DE)(U':Sig):Prop:=Keep (· = io) O U'/\(∃d,U' io=some (.cells [d])) /\
 match Df p with
 |none=>x=.panic unf
 |some s=>x=.ret (.tup [])/\U' io=some (.cells [sl (cI s)])
theorem PE (p:BProg) (io:Nat) (O:Sig) (hp:p.wt<=1073741824) (ah:O io=some (.cells [.nils])):DCall prog 195 [.cptr (Ad p) 0, .ptr io 0] O (SzR p io O):=by
 obtain⟨p1,p2,p3,p4,p5,p6,p7⟩:=p.wt_le
 have bn:∀c∈p.classes,c.parents.length<=1073741824/\c.slots.length<=1073741824/\c.inits.length<=1073741824:=fun c hc=>by
  obtain⟨k,hk,rfl⟩:=List.getElem_of_mem hc
  have:=p5 k hk
  have bS:(p.classes[k]).wt=1+(p.classes[k]).parents.length+(p.classes[k]).slots.length+(p.classes[k]).inits.length:=rfl
  omega
 have bU:∀c∈p.classes,c.parents.length<=1073741824:=fun c hc=>(bn c hc).1
 have bT:∀c∈p.classes,c.slots.length<=1073741824:=fun c hc=>(bn c hc).2.1
 have ae:Df p=none->∀U' d,Keep (· = io) O U'->U' io=some (.cells [d])->SzR p io O (.panic unf) U':=fun h U' d hK hd=>⟨hK,⟨d,hd⟩,by rw[h]⟩
 refine en func195 ntmps195 ?_
 cases hc:Ax p with
 |false=>
  have hL:Df p=none:=by unfold Df;rw[hc];rfl
  repeat' first|(exact finP (U':=O) (ae hL _ _ (Keep.refl _ _) ah))|refine gf hc ?_ o195|apply gy<;>intro hh
 | true =>
  have hW:=worldOK hp hc
  by_cases bM:p.gens.length<=8/\p.methods.length<=16/\1<=p.nodes.length/\p.nodes.length<=120
  ·have ai:Df p=if p.gens.all (fun g=>decide (1<=g/\g<=3)) then
     match Cw p p.methods (List.replicate p.nodes.length (-1))with
     |none=>none
     |some s=>match optW (Bx p false 12 p.main 0 s)with
      |none=>none
      |some s2=>if -1∈s2 then none else some s2
    else none:=by unfold Df;rw[hc];simp[bM]
   try refine gf hc ?_ o195
   refine BV [0,1,4,5,7,34,35,48,49,50,51,52,53,54,55,56,57,58,59,60,61,62,63,64,65,66,67,68,69,70,71,72,73,74,75,76,77,78,79,80,81,82,83,84,85,86,87,88,89,90,91,92,93,94,95,96,97,98,99,100,101,102,103,104,105,106,107,108,109,110,111,112,113,114,115,116,117,118,119,120,121,122,123,124,125,126,127,128,129] (fun (i:Nat)=>i<=p.gens.length/\p.gens.all (fun g=>decide (1<=g/\g<=3))=(p.gens.drop i).all (fun g=>decide (1<=g/\g<=3))) (fun i=>[(36,dI i)]) (fun _=>O) (fun i=>p.gens.length-i) (0) td3 (fun i hI=>?_)
   obtain⟨hi,hA⟩:=hI
   by_cases ak:i<p.gens.length
   ·rw[A5 ak,List.all_cons]at hA
    by_cases hq:1<=p.gens[i]/\p.gens[i]<=3
    ·rw[decide_eq_true hq,Bool.true_and]at hA
     try refine gz ?_ o195
     exact⟨i+1,⟨by omega,hA⟩,td1,wkR⟩
    ·rw[decide_eq_false hq,Bool.false_and]at hA
     have hL:Df p=none:=by rw[ai,hA];rfl
     repeat' first|(exact finP (U':=O) (ae hL _ _ (Keep.refl _ _) ah))|refine gz ?_ o195|apply gy<;>intro hh
     all_goals (exfalso;omega)
   ·rw [A9 ak,List.all_nil] at hA
    rw[hA,if_pos rfl]at ai
    have bm:=hA
    try refine gz ?_ o195
    refine U0 (SQ p.nodes.length O (by omega) (by omega)) (fun d U' hr=>?_) (fun d U' hr=>by obtain⟨r,_,h,_⟩:=hr;cases h)
    obtain⟨r,au,h1,rfl⟩:=hr
    simp only[DE.ret.injEq]at h1
    subst h1
    have ac:io≠r:=fun e=>by rw[e,au]at ah;cases ah
    have bV:(ownersF p.classes 0).length<=40:=hW.few
    try refine gf (gi ah ac) ?_ o195
    refine Gb [0,1,4,5,57,58,122,123,124,125,126,127,128,129] (fun (i:Nat) (s:List Int) (S1:Sig)=>i<=p.methods.length/\s.length=p.nodes.length/\Keep (· = io) O S1/\S1 io=some (.cells [.sref r 0 p.nodes.length p.nodes.length])/\S1 r=some (.cells (s.map dI))/\Cw p p.methods (List.replicate p.nodes.length (-1))=Cw p (p.methods.drop i) s) (fun i _ _=>[(59,dI i)]) (fun _ _ S1=>S1) (fun i _ _=>p.methods.length-i) (0) (List.replicate p.nodes.length (-1)) (_) (by exact⟨by omega,by simp,((Keep.refl _ O).fresh au).trans (fun j o h1 h2=>by rw[w7 _ _ h2];exact h1),w6 .., by rw[w7 _ _ (Ne.symm ac),w6],rfl⟩) (fun i s S1 hI=>?_)
    clear ak
    obtain⟨hi,aZ,ar,aa,aj,hM⟩:=hI
    by_cases ak:i<p.methods.length
    ·rw [A5 ak,Cw] at hM
     have bd:=p6 i ak
     generalize hm:p.methods[i]=m at*
     have bZ:m.fact.wt<=1073741824:=by unfold BMeth.wt at bd;omega
     have hsz:=Fact.size_le m.fact
     cases aO:Gx p m with
     | false =>
      rw[aO]at hM
      have hL:Df p=none:=by rw[ai,hM];rfl
      repeat' first|(exact finP (U':=S1) (ae hL _ _ ar aa))|refine gf hm ?_ o195|apply gy<;>intro hh
      all_goals
       exfalso
       rename_i k1 k2 k3 k4 k5 k6
       revert aO
       simp only[Gx]
       rw[decide_eq_true (by omega),decide_eq_true (by omega),k5,decide_eq_true (by rw[List.getD_eq_getElem?_getD,List.getElem?_eq_getElem (by omega)];exact k6)]
       simp
     | true =>
      rw[aO,if_pos rfl]at hM
      simp only[Gx,Bool.and_eq_true,decide_eq_true_eq]at aO
      obtain⟨⟨⟨hk,bX⟩,bN⟩,bB⟩:=aO
      have bj:p.gens.getD m.gen.toNat 0=p.gens[m.gen.toNat]'(by omega):=by rw[List.getD_eq_getElem?_getD,List.getElem?_eq_getElem (by omega)];rfl
      rw[bj]at bB hM
      have bY:1<=p.gens[m.gen.toNat]'(by omega)/\p.gens[m.gen.toNat]'(by omega)<=3:=by
       have:=List.all_eq_true.1 bm _ (List.getElem_mem (show m.gen.toNat<p.gens.length by omega))
       simpa using this
      repeat' first|refine gf (gi hm bN) ?_ o195|apply gy<;>intro hh
      ·have hb:(decide (m.kind=1)||decide (m.kind=4))=true:=by simp[hh]
       rw[hb]at hM
       refine A4 (Jp p io r (true) m.node (p.gens[m.gen.toNat]'(by omega)) s S1 hp aa aj aZ ac (by omega) (by omega)) (fun d U' hr=>?_) (fun d U' hr=>?_)
       ·obtain⟨s',aI,rfl,⟨q1,q2,q3⟩,_⟩:=hr.ret
        rw[aI]at hM
        try refine gz ?_ o195
        exact⟨i+1,s',U',⟨by omega,q2,fun j o h1 h2=>q3 j o (ar j o h1 h2) (fun e=>by rw[e,au]at h1;cases h1),q3 io _ aa ac,q1,hM⟩,td1,wkR⟩
       ·obtain⟨hn,rfl,hb⟩:=hr.pan
        rw[hn]at hM
        exact finP (U':=U') (ae (by rw[ai,hM]) _ _ (fun j o h1 h2=>hb j o (ar j o h1 h2) (fun e=>by rw[e,au]at h1;cases h1)) (hb io _ aa ac))
      ·have hb:(decide (m.kind=1)||decide (m.kind=4))=decide (m.kind=4):=by simp[hh]
       rw[hb]at hM
       refine A4 (Jp p io r (decide (m.kind=4)) m.node (p.gens[m.gen.toNat]'(by omega)) s S1 hp aa aj aZ ac (by omega) (by omega)) (fun d U' hr=>?_) (fun d U' hr=>?_)
       ·obtain⟨s',aI,rfl,⟨q1,q2,q3⟩,_⟩:=hr.ret
        rw[aI]at hM
        try refine gz ?_ o195
        exact⟨i+1,s',U',⟨by omega,q2,fun j o h1 h2=>q3 j o (ar j o h1 h2) (fun e=>by rw[e,au]at h1;cases h1),q3 io _ aa ac,q1,hM⟩,td1,wkR⟩
       ·obtain⟨hn,rfl,hb⟩:=hr.pan
        rw[hn]at hM
        exact finP (U':=U') (ae (by rw[ai,hM]) _ _ (fun j o h1 h2=>hb j o (ar j o h1 h2) (fun e=>by rw[e,au]at h1;cases h1)) (hb io _ aa ac))
    ·rw[A9 ak,Cw]at hM
     rw[hM]at ai
     simp only at ai
     try refine gz ?_ o195
     refine A4 (Jp p io r false p.main 0 s S1 hp aa aj aZ ac (by omega) (by omega)) (fun d U' hr=>?_) (fun d U' hr=>?_)
     ·obtain⟨s2,bD,rfl,⟨q1,q2,q3⟩,_⟩:=hr.ret
      rw[bD]at ai
      simp only at ai
      have bP:Keep (· = io) O U':=fun j o h1 h2=>q3 j o (ar j o h1 h2) (fun e=>by rw[e,au]at h1;cases h1)
      have aA:=q3 io _ aa ac
      have ba:U'=mS (U'.del r) (some (r,p.nodes.length,[])) (cI s2):=by
       funext j
       by_cases hj:j=r
       ·subst hj;rw[mS,w6,q1,G4,List.append_nil]
       ·rw[mS,w7 _ _ hj];simp[Sig.del,hj]
      rw[ba]
      have bl:(U'.del r) io=some (.cells ([]++mD (some (r,p.nodes.length,[])) (cI s2).length::[])):=by
       simp only[Sig.del,ac,if_false,mD,JA,q2];exact aA
      have bJ:mOK (U'.del r) 1 (some (r,p.nodes.length,[])) (cI s2):=⟨by simp[Sig.del],by rw[G4];simp[q2],by simp[q2],C2 _⟩
      have bx:Keep (· = io) O ((U'.del r).set io (.cells [sl (cI s2)])):=fun j o h1 h2=>by
       have bL:¬j=r:=fun e=>by rw[e,au]at h1;cases h1
       rw[w7 _ _ h2]
       simp only[Sig.del,bL,if_false]
       exact bP j o h1 h2
      refine mfrC [] [] ?_ bl bJ
      simp only[List.nil_append]
      by_cases aV : -1∈s2
      ·rw[if_pos aV]at ai
       repeat' first|(exact finP (U':=(U'.del r).set io (.cells [sl (cI s2)])) (ae ai _ _ bx (w6 ..)))|refine gf aV ?_ o195|apply gy<;>intro hh
      ·rw[if_neg aV]at ai
       try refine gf aV ?_ o195
       refine EW (U':=(U'.del r).set io (.cells [sl (cI s2)])) ?_
       exact⟨bx,⟨_,w6 ..⟩,by rw[ai];exact⟨rfl,w6 ..⟩⟩
     ·obtain⟨hn,rfl,hb⟩:=hr.pan
      rw[hn]at ai
      exact finP (U':=U') (ae ai _ _ (fun j o h1 h2=>hb j o (ar j o h1 h2) (fun e=>by rw[e,au]at h1;cases h1)) (hb io _ aa ac))
  ·have hL:Df p=none:=by unfold Df;rw[if_neg];simp only[Bool.and_eq_true,decide_eq_true_eq];omega
   repeat' first|(exact finP (U':=O) (ae hL _ _ (Keep.refl _ _) ah))|refine gf hc ?_ o195|apply gy<;>intro hh
   all_goals (exfalso;omega)
theorem PI(p:BProg)(O:Sig)(hp:p.wt<=1073741824):DCall prog 130 [.agg (Ad p)] O fun x U'=>(∃d,x=.ret (.tup [d,.bool (Df p).isSome]) /\ ∀s,Df p=some s->d=sl (cI s))/\U'=O:=by
 refine en func130 ntmps130 ?_
 try refine gz ?_ [] [4]
 refine newV (fun io ah=>?_)
 try refine gz ?_ [] [4]
 refine A4 (ST 195 [.cptr (Ad p) 0,.ptr io 0] (O.set io (.cells [.nils])) (fun S1=>SzR p io S1) (fun i hi=>PE p io _ hp (by rw[w7 _ _ fun e=>by rw[e]at hi;rw[w6 ..]at hi;cases hi];exact w6 ..)) (fun S1 d S2 h=>?_) (fun i S2 x hi h=>h.1 i _ (w6 ..) (fun e=>by rw[e,w6]at hi;cases hi))) (fun d U' hr=>?_) (fun d U' hr=>?_)
 ·obtain⟨_,_,h⟩:=h
  split at h
  ·simpa using h
  ·exact absurd h.1 (by simp)
 ·obtain⟨i,S2,hi,rfl,hr⟩:=hr
  rcases hr with⟨e,⟨hK,⟨d0,bw⟩,h⟩,h2⟩|⟨⟨hK,⟨d0,bw⟩,h⟩,h2⟩
  ·simp only[DE.ret.injEq]at h2
   subst h2
   cases hL:Df p with
   |none=>rw[hL]at h;exact absurd h (by simp)
   | some s =>
    rw[hL]at h
    obtain⟨_,aA⟩:=h
    have aB:io≠i:=fun e=>by rw[<-e,w6]at hi;cases hi
    have ay:(S2.del i) io=some (.cells [sl (cI s)]):=by simp only[Sig.del,aB,if_false];exact aA
    try refine gf ay ?_ [] [4]
    refine fin2 (U':=O) ?_ (hZ:=?_)
    ·exact⟨⟨_,rfl,fun s' h=>by cases h;rfl⟩,rfl⟩
    ·intro j o hj
     have e1:j≠io:=fun e=>by rw[e,ah]at hj;cases hj
     have e2:=hK j o (by rw[w7 _ _ (fun e=>by rw[e]at hj;rw[w7 _ _ (Ne.symm aB),hj]at hi;cases hi),w7 _ _ e1];exact hj) e1
     simp only[Sig.del]
     rw[if_neg (fun e=>by rw[e]at hj;rw[w7 _ _ (Ne.symm aB),hj]at hi;cases hi)]
     exact e2
  ·simp only[DE.ret.injEq]at h2
   subst h2
   have aB:io≠i:=fun e=>by rw[<-e,w6]at hi;cases hi
   have ay:(S2.del i) io=some (.cells [d0]):=by simp only[Sig.del,aB,if_false];exact bw
   have hL:Df p=none:=by
    cases hL:Df p with
    |none=>rfl
    |some s=>rw[hL]at h;exact absurd h.1 (by simp)
   rw[hL]
   try refine gf ay ?_ [] [4]
   refine fin2 (U':=O) ?_ (hZ:=?_)
   ·exact⟨⟨_,rfl,fun s' h=>by cases h⟩,rfl⟩
   ·intro j o hj
    have e1:j≠io:=fun e=>by rw[e,ah]at hj;cases hj
    have e2:=hK j o (by rw[w7 _ _ (fun e=>by rw[e]at hj;rw[w7 _ _ (Ne.symm aB),hj]at hi;cases hi),w7 _ _ e1];exact hj) e1
    simp only[Sig.del]
    rw[if_neg (fun e=>by rw[e]at hj;rw[w7 _ _ (Ne.symm aB),hj]at hi;cases hi)]
    exact e2
 ·obtain⟨i,S2,hi,rfl,hr⟩:=hr
  rcases hr with⟨e,_,h2⟩|⟨_,h2⟩<;>cases h2
theorem FN{a b:List D}(h:WkL a b):WkD (.agg a) (.agg b):=fun _ _ ⟨vs,e,hr⟩=>⟨vs,e,h.rep hr⟩
theorem Dm{a b:List D}(h:WkL a b):WkD (.tup a) (.tup b):=fun _ _ ⟨vs,e,hr⟩=>⟨vs,e,h.rep hr⟩
def okP(p:BProg):Bool:=(Df p).isSome
theorem ER{p:BProg}(h:okP p=true):Ax p=true:=by
 unfold okP Df at h
 cases hc:Ax p
 ·rw[hc]at h;simp at h
 ·rfl
theorem Vk(p:BProg)(O:Sig)(hp:p.wt<=1073741824:=by exact sd):DCall prog 59 [.agg (Ad p)] O (rS (dI (if okP p then 0 else 2)) O):=by
 refine en func59 ntmps59 ?_
 try refine gz ?_
 refine A4 (PI p O hp) (fun d U' hr=>?_) (fun d U' hr=>by obtain⟨⟨_,h,_⟩,_⟩:=hr;cases h)
 obtain⟨⟨d,h1,h2⟩,h3⟩:=hr
 simp only[DE.ret.injEq]at h1
 subst h1
 rw[h3]
 cases hk:okP p<;>unfold okP at hk<;>rw[hk]
 ·try refine gz ?_
  exact fe1 trivial
 ·try refine gz ?_
  exact fe1 trivial
@[reducible,instance] def a59:=fun p O=>ah1 (@Vk p O)
theorem T3(p:BProg)(c:Int)(O:Sig)(hp:p.wt<=1073741824:=by exact sd):DCall prog 172 [.agg (Ad p),dI c] O (rS (.bool (ownF p c&&okP p)) O):=by
 obtain⟨p1,p2,p3,p4,p5,p6,p7⟩:=p.wt_le
 refine en func172 ntmps172 ?_
 cases hk:okP p
 ·repeat' first|refine gf hk ?_|apply gy<;>intro hh
  any_goals (first|(refine fin1 (U':=O) ?_;exact⟨by first|rfl|(simp[ownF];done)|(simp_all [ownF];done)|(rw[Ac,Bool.eq_iff_iff];simp_all [ownF]<;>omega),rfl⟩)|fail)
 ·repeat' first|refine gf hk ?_|apply gy<;>intro hh
  any_goals (first|(refine fin1 (U':=O) ?_;exact⟨by first|rfl|(simp[ownF];done)|(simp_all [ownF];done)|(rw[Ac,Bool.eq_iff_iff];simp_all [ownF]<;>omega),rfl⟩)|fail)
@[reducible,instance] def a172:=fun p c O=>ah1 (@T3 p c O)
theorem Tu(p:BProg)(c:Int)(O:Sig)(hp:p.wt<=1073741824:=by exact sd):DCall prog 101 [.agg (Ad p),dI c] O (rS (.tup [sl (cI (if ownF p c&&okP p then hasP p c else [])),dI (if ownF p c&&okP p then 0 else 2)]) O):=by
 refine en func101 ntmps101 ?_
 cases hk:ownF p c&&okP p
 ·try refine gf hk ?_
  exact fe2 (d':=sl []) trivial
 ·have ho:3<=c/\c<3+p.classes.length:=by simp only[ownF,Bool.and_eq_true,decide_eq_true_eq]at hk;exact hk.1
  obtain⟨h1,h2⟩:=ho
  try refine gf hk ?_
  exact fe2 trivial
@[reducible,instance] def a101:=fun p c O=>ah1 (@Tu p c O)
def EntOK(s:List Int):Prop:= ∀x∈s,x = -1\/0<=x
theorem EntOK.set{s:List Int}(h:EntOK s)(n:Nat){v:Int}(hv:0<=v):EntOK (s.set n v):=fun x hx=>by
 rcases List.mem_or_eq_of_mem_set hx with hx|rfl
 ·exact h x hx
 ·exact .inr hv
theorem walkKids_ent{f:Int->Int->List Int->Bool×List Int}{x:BNode}{size:Int}(hf:∀c z s,0<=z->EntOK s->EntOK (f c z s).2)(hz:0<=size): ∀(l:List Int) (j:Nat) (s:List Int),EntOK s->EntOK (B6 f x size j l s).2
 |[],_,_,h=>h
 |c::r,j,s,h=>by
  rw[B6]
  have h1:=hf c (if x.op=9/\j=1 then size+1 else size) s (by split<;>omega) h
  split
  ·rename_i s' e;rw[e]at h1;exact h1
  ·rename_i s' e;rw[e]at h1;exact walkKids_ent hf hz r _ _ h1
theorem GI(p:BProg)(inM:Bool): ∀(k:Nat) (node size:Int) (s:List Int),0<=size->EntOK s->EntOK (Bx p inM k node size s).2
 |0,_,_,_,_,h=>h
 | k+1,node,size,s,hz,h=>by
  rw[Bx]
  split
  ·exact h
  ·split
   ·exact h.set _ hz
   ·exact walkKids_ent (fun c z s hz hs=>GI p inM k c z s hz hs) hz _ _ _ (h.set _ hz)
theorem I9(p:BProg)(hF:∀f,DP (Bp p) f=DQ (Bp p) f): ∀(l:List BMeth) (s:List Int),Cw p l s=optW (CA p l s)
 |[],s=>rfl
 | m::r,s=>by
  have hm:Gx p m=F8 p m:=by unfold Gx F8;rw[hF]
  rw[Cw,CA,hm]
  split
  ·cases hw:Bx p (decide (m.kind=1)||decide (m.kind=4)) 12 m.node (p.gens.getD m.gen.toNat 0) s with
   |mk b s'=>cases b with
    |false=>rfl
    |true=>simp only[optW];exact I9 p hF r s'
  ·rfl
theorem methsP_ent(p:BProg)(hg:∀g∈p.gens,1<=g): ∀(l:List BMeth) (s s':List Int),Cw p l s=some s'->EntOK s->EntOK s'
 |[],s,s',h,hs=>by rw[Cw]at h;cases h;exact hs
 | m::r,s,s',h,hs=>by
  rw[Cw]at h
  split at h
  ·rename_i hm
   have h0:0<=p.gens.getD m.gen.toNat 0:=by
    rw[List.getD_eq_getElem?_getD]
    cases bj:p.gens[m.gen.toNat]? with
    |none=>simp
    |some g=>have:=hg g (List.mem_of_getElem? bj);simp only[Option.getD_some];omega
   have he:=GI p (decide (m.kind=1)||decide (m.kind=4)) 12 m.node (p.gens.getD m.gen.toNat 0) s h0 hs
   cases hw:Bx p (decide (m.kind=1)||decide (m.kind=4)) 12 m.node (p.gens.getD m.gen.toNat 0) s with
   |mk b s1=>
    rw[hw]at h he
    cases b with
    |false=>simp[optW]at h
    |true=>simp only[optW]at h;exact methsP_ent p hg r s1 s' h he
  ·cases h
theorem look_eq(p:BProg)(hC:Ax p=AE p)(hF:∀f,DP (Bp p) f=DQ (Bp p) f):Df p=Fd p:=by
 have hh:(Ax p&&(decide (p.gens.length<=8)&&decide (p.methods.length<=16)&&decide (1<=p.nodes.length)&&decide (p.nodes.length<=120)))=Ks p:=by unfold Ks;rw[hC];simp only[Bool.and_assoc]
 unfold Df Fd
 rw[hh]
 split
 ·rename_i hc
  simp only[Bool.and_eq_true,List.all_eq_true,decide_eq_true_eq]at hc
  have aC:=methsP_ent p (fun g hg=>(hc.2 g hg).1) p.methods (List.replicate p.nodes.length (-1))
  have bd:=I9 p hF p.methods (List.replicate p.nodes.length (-1))
  rw[bd]at aC⊢
  cases hm:CA p p.methods (List.replicate p.nodes.length (-1))with
  | mk b s =>
   rw[hm]at aC
   cases b with
   |false=>rfl
   | true =>
    simp only[optW]
    have h1:=aC s rfl fun x hx=>.inl (List.eq_of_mem_replicate hx)
    have h2:=GI p false 12 p.main 0 s (Int.le_refl _) h1
    cases hw:Bx p false 12 p.main 0 s with
    | mk b s2 =>
     rw[hw]at h2
     cases b with
     |false=>rfl
     | true =>
      simp only
      have e:(-1∈s2) = ¬(s2.all (fun n=>decide (0<=n))=true):=by
       simp only[List.all_eq_true,decide_eq_true_eq]
       refine propext ⟨fun h k=>by have:=k _ h;omega,fun h=>Classical.byContradiction fun k=>h fun x hx=>?_⟩
       rcases h2 x hx with rfl|h
       ·exact absurd hx k
       ·exact h
      by_cases hs:s2.all (fun n=>decide (0<=n))=true
      ·rw[if_pos hs,if_neg (by rw[e];exact fun k=>k hs)]
      ·rw[if_neg hs,if_pos (by rw[e];exact hs)]
 ·rfl
end Go.DL
