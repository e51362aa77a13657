/- A part of the proof. -/
import Derived.Test.YtlfimpogphmbdaaGreatH15
set_option linter.all false
namespace Go.DL
open Go.Proofs.Tryz
open Go Go.Proofs
set_option maxHeartbeats 8000000
def kA.beqs_eqFn: ∀k k':List kA,(decide (k.length=k'.length)&&kA.beqs k k')=eqFn kA.beq k k'
 |[],[]=>by simp[kA.beqs,eqFn]
 |[],_::_=>by simp[eqFn]
 |_::_,[]=>by simp[eqFn]
 |f::l,g::m=>by
  rw[kA.beqs,eqFn,<-kA.beqs_eqFn l m];simp only[aV,Nat.add_right_cancel_iff];cases f.beq g<;>cases decide (l.length=m.length)<;>rfl
def kA.beq_eq'(f g:kA):f.beq g=(decide (f.op=g.op)&&(decide (f.arg=g.arg)&&(decide (f.cls=g.cls)&&(decide (f.n=g.n)&&(decide (f.path=g.path)&&eqFn kA.beq f.aq g.aq))))):=by
 rw[kA.beq_eq,<-kA.beqs_eqFn,EX];simp only[eH]
def Po(f g:kA)(V:Sig)(hf:f.wt<=1073741824:=by exact sd)(hg:g.wt<=1073741824:=by exact sd):
  aB prog 161 [.agg (Bp f),.agg (Bp g)] V (rS (.bool (f.beq g)) V):=by
 obtain⟨iq,ij,gV⟩:=f.wt_le;obtain⟨gw1,gw2,gw3⟩:=g.wt_le
 have hk:∀x∈f.aq, ∀y∈g.aq,aB prog 161 ([]++[.agg (Bp x),.agg (Bp y)]++[]) V fun r S''=>r=.ret (.bool (x.beq y))/\S''=V:=fun x hx y hy=>by
  have h1:=bm hx;have h2:=bm hy;exact Po x y V (by obtain⟨k,hk,rfl⟩:=h1;have:=gV k hk;omega) (by obtain⟨k,hk,rfl⟩:=h2;have:=gw3 k hk;omega)
 refine en func161 ntmps161 ?_
 repeat' first|refine gz ?_|refine Fl (Pi f.aq g.aq kA.beq 161 [] _ _ V k0 k0 hk) ?_|refine callPG (Pi f.aq g.aq kA.beq 161 [] _ _ V k0 k0 hk) ?_|refine gz ?_|apply gy<;>intro hh
 any_goals (first|(refine kE (U':=V) ?_;exact⟨by first|rfl|(simp[kA.beq_eq'];done)|(simp_all [kA.beq_eq'];done)|(rw[A4,aW];simp_all [kA.beq_eq']<;>omega),rfl⟩)|fail)
termination_by SizeOf.sizeOf f
decreasing_by exact kA.lt hx
@[reducible,instance] def a161:=fun f g V=>ah2 (@Po f g V)
def aE.beq(x y:aE):Bool:=decide (x=y)
def aG.beq(x y:aG):Bool:=decide (x=y)
def aF.beq(x y:aF):Bool:=decide (x.kind=y.kind)&&decide (x.gen=y.gen)&&decide (x.node=y.node)&&x.kJ.beq y.kJ
def aD.beq(p q:aD):Bool:=eqFn aE.beq p.ak q.ak&&eqFn aF.beq p.k9 q.k9&&eqFn aG.beq p.kC q.kC&&decide (p.am=q.am)&&decide (p.au=q.au)&&decide (p.kH=q.kH)
def aE.beq_eq(x y:aE):x.beq y=(decide (x.ap=y.ap)&&(decide (x.am=y.am)&&decide (x.ar=y.ar))):=by
 unfold aE.beq;rw[aW];cases x;cases y;simp
def aG.beq_eq(x y:aG):x.beq y=(decide (x.op=y.op)&&(decide (x.n=y.n)&&decide (x.aq=y.aq))):=by
 unfold aG.beq;rw[aW];cases x;cases y;simp
def WN(x y:aE)(V:Sig)(hx:x.wt<=1073741824:=by exact sd)(hy:y.wt<=1073741824:=by exact sd):
  aB prog 156 [.agg (kF x),.agg (kF y)] V (rS (.bool (x.beq y)) V):=by
 unfold aE.wt at hx hy;refine en func156 ntmps156 ?_
 repeat' first|refine gz ?_|apply gy<;>intro hh
 any_goals (first|(refine kE (U':=V) ?_;exact⟨by first|rfl|(simp[aE.beq_eq];done)|(simp_all [aE.beq_eq];done)|(rw[A4,aW];simp_all [aE.beq_eq]<;>omega),rfl⟩)|fail)
def WJ(x y:aG)(V:Sig)(hx:x.wt<=1073741824:=by exact sd)(hy:y.wt<=1073741824:=by exact sd):
  aB prog 163 [.agg (Ai x),.agg (Ai y)] V (rS (.bool (x.beq y)) V):=by
 unfold aG.wt at hx hy;refine en func163 ntmps163 ?_
 repeat' first|refine gz ?_|apply gy<;>intro hh
 any_goals (first|(refine kE (U':=V) ?_;exact⟨by first|rfl|(simp[aG.beq_eq];done)|(simp_all [aG.beq_eq];done)|(rw[A4,aW];simp_all [aG.beq_eq]<;>omega),rfl⟩)|fail)
def WK(x y:aF)(V:Sig)(hx:x.wt<=1073741824:=by exact sd)(hy:y.wt<=1073741824:=by exact sd):
  aB prog 160 [.agg (Av x),.agg (Av y)] V (rS (.bool (x.beq y)) V):=by
 unfold aF.wt at hx hy;refine en func160 ntmps160 ?_
 repeat' first|refine gz ?_|apply gy<;>intro hh
 any_goals (first|(refine kE (U':=V) ?_;exact⟨by first|rfl|(simp[aF.beq];done)|(simp_all [aF.beq];done)|(rw[A4,aW];simp_all [aF.beq]<;>omega),rfl⟩)|fail)
def Z2(p q:aD)(V:Sig)(hx:p.wt<=1073741824:=by exact sd)(hy:q.wt<=1073741824:=by exact sd):
  aB prog 68 [.agg (Am p),.agg (Am q)] V (rS (.bool (p.beq q)) V):=by
 obtain⟨p1,p2,p3,p4,p5,p6,p7⟩:=p.wt_le;obtain⟨q1,q2,q3,q4,q5,q6,q7⟩:=q.wt_le
 have h1:∀x∈p.ak, ∀y∈q.ak,aB prog 156 ([]++[.agg (kF x),.agg (kF y)]++[]) V fun r S''=>r=.ret (.bool (x.beq y))/\S''=V:=fun x hx y hy=>by
  obtain⟨k,hk,rfl⟩:=bm hx;obtain⟨j,hj,rfl⟩:=bm hy;exact WN _ _ V (by have:=p5 k hk;omega) (by have:=q5 j hj;omega)
 have h2:∀x∈p.k9, ∀y∈q.k9,aB prog 160 ([]++[.agg (Av x),.agg (Av y)]++[]) V fun r S''=>r=.ret (.bool (x.beq y))/\S''=V:=fun x hx y hy=>by
  obtain⟨k,hk,rfl⟩:=bm hx;obtain⟨j,hj,rfl⟩:=bm hy;exact WK _ _ V (by have:=p6 k hk;omega) (by have:=q6 j hj;omega)
 have h3:∀x∈p.kC, ∀y∈q.kC,aB prog 163 ([]++[.agg (Ai x),.agg (Ai y)]++[]) V fun r S''=>r=.ret (.bool (x.beq y))/\S''=V:=fun x hx y hy=>by
  obtain⟨k,hk,rfl⟩:=bm hx;obtain⟨j,hj,rfl⟩:=bm hy;exact WJ _ _ V (by have:=p7 k hk;omega) (by have:=q7 j hj;omega)
 refine en func68 ntmps68 ?_
 repeat' first|refine gz ?_|refine Au (Pq p.ak q.ak aE.beq 156 [] _ _ V k0 k0 h1) ?_|refine callP (Pq p.ak q.ak aE.beq 156 [] _ _ V k0 k0 h1) ?_|refine Au (Pp p.k9 q.k9 aF.beq 160 [] _ _ V k0 k0 h2) ?_|refine callP (Pp p.k9 q.k9 aF.beq 160 [] _ _ V k0 k0 h2) ?_|refine Au (Pn p.kC q.kC aG.beq 163 [] _ _ V k0 k0 h3) ?_|refine callP (Pn p.kC q.kC aG.beq 163 [] _ _ V k0 k0 h3) ?_|refine gz ?_|apply gy<;>intro hh
 any_goals (first|(refine kE (U':=V) ?_;exact⟨by first|rfl|(simp[aD.beq];done)|(simp_all [aD.beq];done)|(rw[A4,aW];simp_all [aD.beq]<;>omega),rfl⟩)|fail)
def lJ{S:Type}(u r:D)(Good:Sig->S->Prop)(Bad:Sig->Prop)(touch:Nat->Prop)(V:Sig):Option S->DE->Sig->Prop
 |none,x,U'=>x=.panic u/\Bad U'
 |some s,x,U'=>x=.ret r/\Good U' s /\ ∀j o,V j=some o->¬touch j->U' j=some o
def lJ.ret{S:Type}{u r d:D}{Good:Sig->S->Prop}{Bad:Sig->Prop}{touch:Nat->Prop}{V U':Sig}{o:Option S}(h:lJ u r Good Bad touch V o (.ret d) U'): ∃s,o=some s/\d=r/\Good U' s /\ ∀j o,V j=some o->¬touch j->U' j=some o:=by
 cases o with
 |none=>exact absurd h.1 k7
 |some s=>exact⟨s,rfl,by simpa using h.1,h.2⟩
def lJ.pan{S:Type}{u r d:D}{Good:Sig->S->Prop}{Bad:Sig->Prop}{touch:Nat->Prop}{V U':Sig}{o:Option S}(h:lJ u r Good Bad touch V o (.panic d) U'):o=none/\d=u/\Bad U':=by
 cases o with
 |none=>exact⟨rfl,by simpa using h.1,h.2⟩
 |some s=>exact absurd h.1 k7
section
variable {S:Type}
def Nn(f:Int->Int->S->Option S)(x:aG)(size:Int):Nat->fR->S->Option S
 |_,[],s=>some s
 |j,c::r,s=>match f c (if x.op=9/\j=1 then size+1 else size) s with
  |none=>none
  |some s'=>Nn f x size (j+1) r s'
def HG(p:aD)(step:Nat->Int->Int->S->Option S):Nat->Int->Int->S->Option S
 |0,_,_,_=>none
 |k+1,node,size,s=>match step (k+1) node size s with
  |none=>none
  |some s'=>Nn (HG p step k) (Ao p node) size 0 (Ao p node).aq s'
end
def WC{S:Type}(p:aD)(l i:Nat)(Good:Sig->S->Prop)(Bad:Sig->Prop)(touch:Nat->Prop)(step:Nat->Int->Int->S->Option S)(hp:p.wt<=1073741824)(gM:¬touch i)
  (gC:∀node size s,step 0 node size s=none) (gA:∀k node size s s',step k node size s=some s'->0<=node/\node<p.kC.length)
  (hy:∀(k:Nat) (d node size:Int) V s,d=13-(k:Int)->0<=size->size+k<=1000->Good V s->ku prog l [dI node,.agg [dI size,dI d]] V (lJ unf (.bool true) Good Bad touch V (step k node size s))) :
  ∀(k:Nat) (d node size:Int) V s,d=13-(k:Int)->0<=size->size+k<=1000->k<=13->Good V s->V i=some (.cells [.func (.func 171) [] [.aw [.yld l] 0,.aw (Am p) 0,.ptr i 0]])->
   aB prog 171 [dI node,.agg [dI size,dI d],.aw [.yld l] 0,.aw (Am p) 0,.ptr i 0] V (lJ unf (.bool true) Good Bad touch V (HG p step k node size s)):=by
 obtain⟨p1,p2,p3,p4,p5,p6,p7⟩:=p.wt_le;intro k
 induction k with
 | zero =>
  intro d node size V s hd h0 f0 hk hG hi;refine en func171 ntmps171 ?_;refine gz ?_;refine yldW (hy 0 d node size V s hd h0 f0 hG) (fun e U' hr=>?_) (fun e U' hr=>?_)
  ·rw[gC]at hr;obtain⟨_,h,_⟩:=hr.ret;cases h
  ·obtain⟨_,rfl,hb⟩:=hr.pan;exact kV (U':=U') ⟨rfl,hb⟩
 | succ k ih =>
  intro d node size V s hd h0 f0 hk hG hi;refine en func171 ntmps171 ?_;refine gz ?_ [] [10];refine yldW (hy (k+1) d node size V s hd h0 f0 hG) (fun e U' hr=>?_) (fun e U' hr=>?_)
  ·obtain⟨s',gu,rfl,gL,hK⟩:=hr.ret;obtain⟨iy,iv⟩:=gA _ _ _ _ _ gu;obtain⟨q,rfl⟩:∃q:Nat,node=(q:Int):=⟨node.toNat,k0⟩;have hq:q<p.kC.length:=by omega
   have iC:=hK i _ hi gM;have gG:Ao p q=p.kC[q]:=by unfold Ao;simp[aT hq]
   have hW:HG p step (k+1) q size s=Nn (HG p step k) p.kC[q] size 0 (p.kC[q]).aq s':=by rw[HG,gu];simp only;rw[gG]
   rw[hW];have gP:(p.kC[q]).aq.length<=1073741824:=by have:=p7 q hq;unfold aG.wt at this;omega
   generalize hx:p.kC[q]=x at*;refine gf hx ?_ [] [10];refine E2 [0,3,4,6,21,22] (fun (j:Nat) (s1:S) (S1:Sig)=>j<=x.aq.length/\Good S1 s1/\Nn (HG p step k) x size 0 x.aq s'=Nn (HG p step k) x size j (x.aq.drop j) s1/\(∀j o,V j=some o->¬touch j->S1 j=some o)) (fun j _ _=>[(23,dI j)]) (fun _ _ S1=>S1) (fun j _ _=>x.aq.length-j) (0) (s') (U') (by exact⟨k0,gL,k7,hK⟩) (fun j s1 S1 hI=>?_);obtain⟨hj,gT,hR,e8⟩:=hI;have fY:=e8 i _ hi gM
   by_cases gQ:j<x.aq.length
   ·rw [A0 gQ,Nn] at hR;have iB:(k:Int)<=12:=by omega
    refine gf (gi hx fY) ?_ [] [10];refine kR (fun a ha=>?_);have gS:i≠a:=fun e=>by rw[e,ha]at fY;cases fY
    have hz:0<=(if x.op=9/\j=1 then size+1 else size)/\(if x.op=9/\j=1 then size+1 else size)+(k:Int)<=1000:=by split<;>omega
    have hc:=ih (d+1) x.aq[j] (if x.op=9/\j=1 then size+1 else size) S1 s1 k0 hz.1 hz.2 k0 gT fY
    by_cases hl:x.op=9/\j=1
    ·rw[aS hl]at hR hc;obtain⟨gb,rfl⟩:=hl;refine gf (gi hx (gi fY (gi gb gS))) ?_ [] [10];refine drp S1 ?_;refine Ad hc (fun e S2 hr=>?_) (fun e S2 hr=>?_)
     ·obtain⟨s2,gB,rfl,gK,gJ⟩:=hr.ret;rw[gB]at hR;refine gz ?_ [] [10];exact⟨1+1,s2,S2,⟨k0,gK,hR,fun j o h1 h2=>gJ _ _ (e8 _ _ h1 h2) h2⟩,td1,wkR⟩
     ·obtain⟨hn,rfl,hb⟩:=hr.pan;rw[hn]at hR;rw[hR];exact kV (U':=S2) ⟨rfl,hb⟩
    ·rw[aQ hl]at hR hc;have iz:¬(x.op=9/\(j:Int)=1):=by omega
     repeat' first|refine gf (gi hx (gi fY gS)) ?_ [] [10]|apply gy<;>intro hh
     all_goals
      refine drp S1 ?_;refine Ad hc (fun e S2 hr=>?_) (fun e S2 hr=>?_)
      ·obtain⟨s2,gB,rfl,gK,gJ⟩:=hr.ret;rw[gB]at hR;refine gz ?_ [] [10];exact⟨j+1,s2,S2,⟨k0,gK,hR,fun j o h1 h2=>gJ _ _ (e8 _ _ h1 h2) h2⟩,td1,wkR⟩
      ·obtain⟨hn,rfl,hb⟩:=hr.pan;rw[hn]at hR;rw[hR];exact kV (U':=S2) ⟨rfl,hb⟩
   ·rw[A1 gQ,Nn]at hR;rw[hR];refine gf hx ?_ [] [10];refine kE (U':=S1) ?_;exact⟨rfl,gT,e8⟩
  ·obtain⟨gu,rfl,hb⟩:=hr.pan;have hW:HG p step (k+1) node size s=none:=by rw[HG,gu]
   rw[hW];exact kV (U':=U') ⟨rfl,hb⟩
def kQ(touch:Nat->Prop)(V U':Sig):Prop:= ∀j o,V j=some o->¬touch j->U' j=some o
def kQ.refl(touch:Nat->Prop)(V:Sig):kQ touch V V:=fun _ _ h _=>h
def kQ.trans{touch:Nat->Prop}{a b c:Sig}(h:kQ touch a b)(k:kQ touch b c):kQ touch a c:=fun j o h1 h2=>k _ _ (h _ _ h1 h2) h2
def kQ.fresh{touch:Nat->Prop}{a b:Sig}(h:kQ touch a b){i:Nat}{o:kM}(hi:a i=none):kQ touch a (b.set i o):=fun j x h1 h2=>by
 rw[w8 _ _ fun e=>by rw[e,hi]at h1;cases h1];exact h _ _ h1 h2
def WD{S:Type}(p:aD)(l:Nat)(Good:Sig->S->Prop)(Bad:Sig->Prop)(touch:Nat->Prop)(step:Nat->Int->Int->S->Option S)(hp:p.wt<=1073741824)
  (gC:∀node size s,step 0 node size s=none) (gA:∀k node size s s',step k node size s=some s'->0<=node/\node<p.kC.length)
  (hy:∀(k:Nat) (d node size:Int) V s,d=13-(k:Int)->0<=size->size+k<=1000->Good V s->ku prog l [dI node,.agg [dI size,dI d]] V (lJ unf (.bool true) Good Bad touch V (step k node size s)))
  (hm : ∀ V s a o,Good V s->V a=none->Good (V.set a o) s) (k:Nat) (d node size:Int) (V:Sig) (s:S) (ht : ∀ a,V a=none -> ¬ touch a) (hd:d=13-(k:Int)) (h0:0<=size) (f0:size+k<=1000) (hk:k<=13) (hG:Good V s) :
   aB prog 170 [.yld l,.aw (Am p) 0,.aw [dI node] 0,.aw [dI size,dI d] 0] V (lJ unf (.tup []) Good Bad touch V (HG p step k node size s)):=by
 refine en func170 ntmps170 ?_;refine gz ?_ [] [5];refine kR (fun a ha=>?_);refine gz ?_ [] [5];refine Ad (WC p l a Good Bad touch step hp (ht a ha) gC gA hy k d node size (V.set a _) s hd h0 f0 hk (hm _ _ _ _ hG ha) (w7 ..)) (fun e U' hr=>?_) (fun e U' hr=>?_)
 ·obtain⟨s',hs',rfl,gL,hK⟩:=hr.ret;rw[hs'];refine gz ?_ [] [5];refine EA (U':=U') ?_;exact⟨rfl,gL,fun j o h1 h2=>hK j o (by rw[w8 _ _ fun e=>by rw[e,ha]at h1;cases h1];exact h1) h2⟩
 ·obtain⟨hn,rfl,hb⟩:=hr.pan;rw[hn];exact kV (U':=U') ⟨rfl,hb⟩
def YT(p:aD)(node size d:Int)(V:Sig):aB prog 84 [.agg (Am p),dI node,.agg [dI size,dI d]] V (rS (.func (.func 170) [] [.aw (Am p) 0,.aw [dI node] 0,.aw [dI size,dI d] 0]) V):=by
 refine en func84 ntmps84 ?_;refine gz ?_;exact fe1 trivial
@[reducible,instance] def a84:=fun p node size d V=>ah0 (@YT p node size d V)
def VE(p:aD)(x:aG)(k:Int)(V:Sig):aB prog 327 [dI k,.agg (Am p),.agg (Ai x)] V (rS (dI k) V):=by
 refine en func327 ntmps327 ?_;refine gz ?_;exact fe1 trivial
def VD(p:aD)(x:aG)(V:Sig)(h0:0<=x.n:=by exact sd)(h1:x.n<p.au.length:=by exact sd)(hl:p.au.length<=1073741824:=by exact sd):aB prog 328 [.agg [],.agg (Am p),.agg (Ai x)] V (rS (dI (p.au.getD x.n.toNat 0)) V):=by
 refine en func328 ntmps328 ?_;obtain⟨q,hq⟩:∃q:Nat,x.n=(q:Int):=⟨x.n.toNat,k0⟩;have gX:q<p.au.length:=by omega
 have hg:p.au.getD x.n.toNat 0=p.au[q]:=by rw[hq,bj];simp[gX]
 rw[hg];refine gf hq ?_;exact fe1 trivial
def meth327 : Lg prog 140 "consort/bind.many" 327 := by
 intro v w;kernel_rfl
def meth328 : Lg prog 142 "consort/bind.many" 328 := by
 intro v w;kernel_rfl
def ZN{ro:Option Nat}{n:Nat}{ops:Array Oper}{N:Nat}{S0 V:Sig}{Q:DX->St->Prop}{df:List DDf}{γ Sr:Fr}{t:Nat}{ty:TypeId}{pos:String}{after:Array Edge}{l:List (Bool×Oper)}{d e:D}{rv:Operand}{name:String}{args:Array Operand}{ats:Array TypeId}{f T:Nat}{us:fQ}(hM:Lg prog T name f)(h:aB prog f (d::us) V (rS e V))(k:MO prog ro n ops N S0 Q df l ((t,e)::γ) V)
  (hl:A7 γ (Ac (rv::args.toList))=some Sr:=by exact tdR) (hx:ev Sr rv=.iface T d:=by exact tdR) (ha:args.toList.map (ev Sr)=us:=by exact tdR) (gr:decide (t<n)=true:=by exact tdR) (hC:Sub S0 V:=by first|exact Sub.refl _|assumption) :
  MO prog ro n ops N S0 Q df ((true,⟨some t,.call { callee:=.invoke rv name,args,argTypes:=ats },ty,pos,after,none⟩)::l) γ V:=by
 refine mo1 (fun U2 hγ=>?_) gr
 have he:∀x∈rv::args.toList,ev U2 x=ev Sr x:=fun x hx=>by
  rw[hγ x (by simpa[Op.operands,Call.operands] using hx)];exact(CA fun t ht=>Be hl t (BE (by rw[<-ht];exact hx))).symm
 refine KY rfl (by rw[he rv k7];exact hx) hM h ?_ (by simpa[AJ] using gr) (fun d' U' ⟨e1,e2⟩=>?_) (fun d' U' ⟨e1,e2⟩=>by cases e1)
 ·rw[show args.toList.map (ev U2)=args.toList.map (ev Sr) from bF fun x h=>he x (by simp[h]),ha];exact EC _
 ·cases e1;subst e2;exact AU ⟨rfl,by simp only[putD,Aa,bI];exact⟨hC,k⟩⟩
def Ji(p:aD)(inM:Bool):Nat->Int->Int->fR->Option fR
 |0,_,_,_=>none
 |_+1,node,size,s=>
  if node<0\/(p.kC.length:Int)<=node\/0<=s.getD node.toNat 0 then none else
  if((Ao p node).aq.length:Int)≠Cj p (Ao p node)\/BI p (Ao p node) size=false\/((Ao p node).op=18/\inM=false) then none else some (s.set node.toNat size)
def optW:Bool×fR->Option fR
 |(true,s)=>some s
 |(false,_)=>none
def LU(f:Int->Int->fR->Bool×fR)(x:aG)(size:Int): ∀(j:Nat) (l s:fR),Nn (fun a b c=>optW (f a b c)) x size j l s=optW (Bk f x size j l s)
 |_,[],s=>rfl
 | j,c::r,s=>by
  rw[Nn,Bk];cases h:f c (if x.op=9/\j=1 then size+1 else size) s with
  |mk b s'=>cases b with
   |false=>rfl
   |true=>simp only[optW];exact LU f x size (j+1) r s'
def Lu(p:aD)(inM:Bool): ∀(k:Nat) (node size:Int) (s:fR),HG p (Ji p inM) k node size s=optW (BT p inM k node size s)
 |0,_,_,_=>rfl
 | k+1,node,size,s=>by
  rw[HG,BT,Ji]
  by_cases h1:node<0\/(p.kC.length:Int)<=node\/0<=s.getD node.toNat 0
  ·rw[aS h1,aS h1];rfl
  ·rw[aQ h1,aQ h1]
   by_cases h2:((Ao p node).aq.length:Int)≠Cj p (Ao p node)\/BI p (Ao p node) size=false\/((Ao p node).op=18/\inM=false)
   ·rw[aS h2,aS h2];rfl
   ·rw[aQ h2,aQ h2];have e:HG p (Ji p inM) k=fun a b c=>optW (BT p inM k a b c):=by funext a b c;exact Lu p inM k a b c
    simp only[e];exact LU _ _ _ _ _ _
def Ms{P:Program}{n:Nat}{Q:DX->St->Prop}{γ:Fr}{V:Sig}{df:List DDf}{gop:Operand}{ps:Array Tmp}{asg body:Code}{f:Nat}{first cap:fQ}{S:Type}{u:D}(G:Nat->Sig->S->Prop)(Bad:Nat->Sig->Prop)(touch:Nat->Prop)(o:Option S)
  (hf:ev γ gop=.func (.func f) first cap)
  (gk:∀l did,V did=none->V l=none->l≠did->∀LO,LO=kM.loop .ready none ps asg body n γ did->aB P f (first++[.yld l]++cap) ((V.set did .defs).set l LO) (lJ u (.tup []) (fun U' s=>U' l=some LO/\G did U' s) (Bad did) touch ((V.set did .defs).set l LO) o))
  (gD:∀l did s U',o=some s->V did=none->V l=none->l≠did->G did U' s->Q .normal ⟨γ,U'.del l,.coll did::df⟩)
  (gE:∀did U',o=none->V did=none->Bad did U'->Q (.panic u) ⟨γ,U',.coll did::df⟩) :
  DWp P none n (.rangeFunc gop ps asg body) Q ⟨γ,V,df⟩:=by
 refine FK (R:=fun l did=>lJ u (.tup []) (fun U' s=>U' l=some (kM.loop .ready none ps asg body n γ did)/\G did U' s) (Bad did) touch ((V.set did .defs).set l (kM.loop .ready none ps asg body n γ did)) o) hf (fun l did h1 h2 h3=>gk l did h1 h2 h3 _ rfl) (fun l did d U' h1 h2 h3 hr=>?_) (fun l did d U' h1 h2 h3 hr=>?_)
 ·obtain⟨s,hs,rfl,⟨hl,hG⟩,hK⟩:=hr.ret;exact⟨_,_,hl,k7,gD l did s U' hs h1 h2 h3 hG⟩
 ·obtain⟨hn,rfl,hb⟩:=hr.pan;exact gE did U' hn h1 hb
def endM{P:Program}{n:Nat}{fn:Func}{R:DE->Sig->Prop}{γ:Fr}{V:Sig}{did:Nat}(h:R (.ret (.tup [])) (V.del did))(hd:V did=some .defs)(hr:fn.results=#[]:=by rfl): ∃s',Wk P n ⟨γ,V,[.coll did]⟩ s'/\Ub P n fn (Weak R) .normal s':=
 ⟨_,Wk.refl _ _ _,[did],rfl,k7,by simp[hd],.tup [],EF (by simp[resD,hr]),Ft h⟩
def endMP{P:Program}{n:Nat}{fn:Func}{R:DE->Sig->Prop}{γ:Fr}{V:Sig}{did:Nat}{d:D}(h:R (.panic d) (V.del did))(hd:V did=some .defs): ∃s',Wk P n ⟨γ,V,[.coll did]⟩ s'/\Ub P n fn (Weak R) (.panic d) s':=
 ⟨_,Wk.refl _ _ _,[did],rfl,k7,by simp[hd],Ft h⟩
def kQ.del{touch:Nat->Prop}{a b:Sig}(h:kQ touch a b){i:Nat}(hi:a i=none):kQ touch a (b.del i):=fun j x h1 h2=>by
 have e:j≠i:=fun e=>by rw[e,hi]at h1;cases h1
 simp only[Sig.del,e,bl];exact h _ _ h1 h2
def kQ.base{touch:Nat->Prop}{a b:Sig}{i:Nat}{o:kM}(h:kQ touch (a.set i o) b)(hi:a i=none):kQ touch a b:=fun j x h1 h2=>
 h _ _ (by rw[w8 _ _ fun e=>by rw[e,hi]at h1;cases h1];exact h1) h2
def Cx:kM->kM
 |.loop _ _ ps a b n γ d=>.loop .busy none ps a b n γ d
 |o=>o
def Zu(c:Code):kM->kM
 |.loop _ _ ps a b n γ d=>.loop .done (some c) ps a b n γ d
 |o=>o
def SP(l:Nat)(LO:kM)(R:DE->Sig->Prop):DX->St->Prop
 |.normal,s=>s.V l=some (Cx LO)/\R (.ret (.bool true)) (s.V.set l LO)
 |.ret,s=>s.V l=some (Cx LO)/\R (.ret (.bool false)) (s.V.set l (Zu .ret LO))
 |.panic d,s=>s.df=[]/\R (.panic d) s.V
 |.exit id,s=>s.V l=some (Cx LO)/\R (.ret (.bool false)) (s.V.set l (Zu (.exit id) LO))
def EW{P:Program}{l:Nat}{args:fQ}{V:Sig}{R:DE->Sig->Prop}{ps:Array Tmp}{asg body:Code}{n:Nat}{Sl:Fr}{did:Nat}{LO:kM}(gv:LO=.loop .ready none ps asg body n Sl did)(hZ:V l=some LO)
  (h:DWp P (some l) n asg (lW (fun s=>s.V l=some LO/\DWp P (some l) n body (SP l LO R) { s with V:=s.V.set l (Cx LO) }) (fun _ _=>False)) ⟨SD ps.toList args Sl,V,[]⟩) (hl:ps.toList.length=args.length:=by rfl) (hp:∀p∈ps.toList,p<n:=by decide):ku P l args V R:=by
 subst gv;refine NK hZ hl hp ?_;have e:SP l (.loop .ready none ps asg body n Sl did) R=aj l ps asg body n Sl did R:=by funext x s;cases x<;>rfl
 rw[<-e];exact h
def NC (p:aD) (io r:Nat) (inM:Bool) (node size:Int) (s:fR) (V:Sig) (hp:p.wt<=1073741824) (gh:V io=some (.cells [.ax r 0 p.kC.length p.kC.length])) (hr:V r=some (.cells (s.map dI))) (hs:s.length=p.kC.length) (hne:io ≠ r) (hz:0<=size) (gU:size<=900) :
  aB prog 83 [dI node,dI size,.bool inM,.aw (Am p) 0,.ptr io 0] V (lJ unf (.tup []) (fun U' s'=>U' r=some (.cells (s'.map dI))/\s'.length=p.kC.length/\kQ (· = r) V U') (fun U'=>kQ (· = r) V U') (· = r) V (optW (BT p inM 12 node size s))):=by
 obtain⟨p1,p2,p3,p4,p5,p6,p7⟩:=p.wt_le;rw[<-Lu];refine Bw func83 rfl (by decide) ntmps83 k7 ?_;refine gz ?_ o83;refine Ms (u:=unf) (fun did U' s'=>U' r=some (.cells (s'.map dI))/\s'.length=p.kC.length/\kQ (· = r) (V.set did .defs) U') (fun did U'=>kQ (· = r) (V.set did .defs) U') (· = r) (HG p (Ji p inM) 12 node size s) rfl (fun l did hd hl gH LO gv=>?_) (fun l did s' U' ho hd hl gH hG=>?_) (fun did U' ho hd hb=>?_)
 ·have ga:r ≠ did:=fun e=>by rw [e,hd] at hr;cases hr
  have gO:io≠did:=fun e=>by rw[e,hd]at gh;cases gh
  rw[<-w8 V kM.defs gO]at gh;rw[<-w8 V kM.defs ga]at hr;rw[<-w8 V kM.defs gH]at hl;clear hd ga gO;generalize V.set did .defs=Sd at*
  refine WD p l _ _ _ (Ji p inM) hp (fun _ _ _=>rfl) (fun k node size s s' h=>by
   cases k with
   |zero=>cases h
   |succ k=>
    rw[Ji]at h
    split at h
    ·cases h
    ·omega) (fun k d node size S1 s1 hd g8 gU hG=>?_) (fun S1 s1 a o hG ha=>?_) 12 1 node size _ s (fun a ha e=>?_) k0 hz k0 k0 ?_
  ·obtain ⟨gb,d9,gW,e8⟩:=hG;refine EW gv gb ?_;clear gv;refine gz ?_ o83;refine⟨gb,?_⟩;have d7:=e8 io _ gh hne;have d6:l≠io:=fun e=>by rw[e,gh]at hl;cases hl
   have d8:l≠r:=fun e=>by rw[e,hr]at hl;cases hl
   have gw:=e8.fresh (o:=Cx LO) hl;cases k with
   |zero=>
    repeat' first|(exact⟨rfl,rfl,gw⟩)|refine gf (gi d7 (gi d9 (gi d6 (gi d8 hne)))) ?_ o83|apply gy<;>intro hh
   | succ k =>
    by_cases hn:node<0\/(p.kC.length:Int)<=node
    ·have hS:Ji p inM (k+1) node size s1=none:=by rw[Ji,aS k0]
     rw[hS]
     repeat' first|(exact⟨rfl,rfl,gw⟩)|refine gf (gi d7 (gi d9 (gi d6 (gi d8 hne)))) ?_ o83|apply gy<;>intro hh
    ·obtain ⟨q,rfl⟩ : ∃ q:Nat,node=(q:Int):=⟨node.toNat,k0⟩;have hq:q<p.kC.length:=by omega
     have gN:q<s1.length:=by omega
     have gj:s1.getD ((q:Int)).toNat 0=s1[q]:=by simp[bj,gN]
     by_cases h2:0<=s1[q]
     ·have hS:Ji p inM (k+1) q size s1=none:=by rw[Ji,aS (by rw[gj];omega)]
      rw[hS]
      repeat' first|(exact⟨rfl,rfl,gw⟩)|refine gf (gi d7 (gi d9 (gi d6 (gi d8 hne)))) ?_ o83|apply gy<;>intro hh
     ·have gG:Ao p q=p.kC[q]:=by unfold Ao;simp [hq]
      have hS:Ji p inM (k+1) q size s1=if((p.kC[q]).aq.length:Int)≠Cj p p.kC[q]\/BI p p.kC[q] size=false\/((p.kC[q]).op=18/\inM=false) then none else some (s1.set q size):=by
       rw[Ji,aQ (by rw[gj];omega),gG];simp
      have gP:(p.kC[q]).aq.length<=1073741824:=by have:=p7 q hq;unfold aG.wt at this;omega
      generalize hx:p.kC[q]=x at*;have fZ:∀o,kQ (· = r) Sd ((S1.set l (Cx LO)).set r o):=fun o j x h1 h2=>by rw[w8 _ _ h2];exact gw j x h1 h2
      cases fX:BI p x size with
      |false=>
       rw[aS (.inr (.inl fX))]at hS;rw[hS]
       repeat' first|(exact⟨rfl,rfl,fZ _⟩)|refine gf (gi d7 (gi d9 (gi d6 (gi d8 (gi hne (gi hx fX)))))) ?_ o83|apply gy<;>intro hh
      | true =>
       by_cases gx:x.op=18/\inM=false
       ·rw[aS (.inr (.inr gx))]at hS;rw[hS]
        repeat' first|(exact⟨rfl,rfl,fZ _⟩)|refine gf (gi d7 (gi d9 (gi d6 (gi d8 (gi hne (gi hx (gi fX gx.2))))))) ?_ o83|apply gy<;>intro hh
        all_goals exact absurd gx.1 (by assumption)
       ·
        repeat' first|refine gf (gi d7 (gi d9 (gi d6 (gi d8 (gi hne (gi hx fX)))))) ?_ o83|apply gy<;>intro hh
        all_goals try (exfalso;grind)
        all_goals
         have go:BI p x size=false\/(x.op=18/\inM=false)->False:=fun h=>h.elim (by rw[fX];simp) gx
         have e7:(((S1.set l (Cx LO)).set r (.cells (List.take q (List.map dI s1)++dI size::List.drop (q+1) (List.map dI s1)))) l=some (Cx LO)) /\
           (fun U'=>(U' l=some LO/\U' r=some (.cells ((s1.set q size).map dI))/\(s1.set q size).length=p.kC.length/\kQ (· = r) Sd U')/\kQ (· = r) S1 U') (((S1.set l (Cx LO)).set r (.cells (List.take q (List.map dI s1)++dI size::List.drop (q+1) (List.map dI s1)))).set l LO):=by
          refine⟨by rw[w8 _ _ d8,w7],⟨w7 ..,?_,by simpa using gW,fun j o h1 h2=>?_⟩,fun j o h1 h2=>?_⟩
          ·rw[w8 _ _ (aZ d8),w7,eZ,cO,aS (by simpa using gN)]
          ·rw[w8 _ _ fun e=>by rw[e,hl]at h1;cases h1];exact fZ _ j o h1 h2
          ·by_cases hj:j=l
           ·rw[hj]at h1⊢; rw[w7,<-h1,gb]
           ·rw[w8 _ _ hj,w8 _ _ h2,w8 _ _ hj];exact h1
         cases hk:H9 x.op with
         | some kk =>
          have gg:ET x.op=.iface 140 (dI kk):=by unfold ET;rw[hk]
          have gc:Cj p x=kk:=by unfold Cj;rw[hk]
          rw[gc]at hS;refine gf (gi gg (gi d7 (gi d9 (gi d6 (gi d8 (gi hne hx)))))) ?_ o83;refine ZN meth327 (VE p x kk _) ?_
          repeat' first|refine gz ?_ o83|apply gy<;>intro hh
          ·have h6:=hh;rw[hS,aQ (fun h=>h.elim (fun h=>h h6) go)];exact⟨e7.1,rfl,e7.2⟩
          ·have h6:=hh;rw[hS,aS (.inl h6)];exact⟨rfl,rfl,fZ _⟩
         | none =>
          by_cases h5:x.op=5
          ·have gg:ET x.op=.iface 142 (.agg []):=by unfold ET;rw[hk];simp[h5]
           have gF:0<=x.n/\x.n<p.au.length:=by simpa[BI,h5] using fX
           have gc:Cj p x=p.au[x.n.toNat]'(by omega):=by unfold Cj;rw[hk];simp[h5,gF,bj,show x.n.toNat<p.au.length by omega]
           rw[gc]at hS;refine gf (gi gg (gi d7 (gi d9 (gi d6 (gi d8 (gi hne hx)))))) ?_ o83;refine ZN meth328 (VD p x _ gF.1 gF.2) ?_
           repeat' first|refine gz ?_ o83|apply gy<;>intro hh
           ·have h6:=hh;rw[hS,aQ (fun h=>h.elim (fun h=>h h6) go)];exact⟨e7.1,rfl,e7.2⟩
           ·have h6:=hh;rw[hS,aS (.inl h6)];exact⟨rfl,rfl,fZ _⟩
          ·have gg:ET x.op=.niliface:=by unfold ET;rw[hk];simp[h5]
           have gc:Cj p x = -1:=by unfold Cj;rw[hk];simp[h5]
           rw[hS,aS (.inl (by rw[gc];omega))]
           repeat' first|(exact⟨rfl,rfl,fZ _⟩)|refine gf (gi gg (gi d7 (gi d9 (gi d6 (gi d8 (gi hne hx)))))) ?_ o83|apply gy<;>intro hh
  ·obtain⟨g1,g2,g3,g4⟩:=hG;refine⟨by rw[w8 _ _ fun e=>by rw[e,ha]at g1;cases g1];exact g1,by rw[w8 _ _ fun e=>by rw[e,ha]at g2;cases g2];exact g2,g3,fun j x h1 h2=>?_⟩;have:=g4 j x h1 h2;rw[w8 _ _ fun e=>by rw[e,ha]at this;cases this];exact this
  ·have f8:r≠l:=fun e=>by rw[e,hl]at hr;cases hr
   subst e;rw[w8 _ _ f8,hr]at ha;cases ha
  ·have f8:r≠l:=fun e=>by rw[e,hl]at hr;cases hr
   exact⟨w7 .., by rw[w8 _ _ f8];exact hr,hs,(kQ.refl _ Sd).fresh hl⟩
 ·rw[ho];have f8:r≠l:=fun e=>by rw[e,hl]at hr;cases hr
  have ga:r≠did:=fun e=>by rw[e,hd]at hr;cases hr
  have gI:¬did=r:=aZ ga;refine gz ?_ o83;have hk:=((hG.2.2.base hd).del hl).del hd;refine endM ⟨rfl,⟨by simp[Sig.del,ga,f8];exact hG.1,hG.2.1,hk⟩,hk⟩ ?_;simp only[Sig.del,aZ gH,bl];exact hG.2.2 did _ (w7 ..) gI
 ·rw[ho];have gI:¬did=r:=fun e=>by rw[<-e,hd]at hr;cases hr
  exact endMP ⟨rfl,(hb.base hd).del hd⟩ (hb did _ (w7 ..) gI)
def bytesR{ro:Option Nat}{n:Nat}{ops:Array Oper}{Q:DX->St->Prop}{df:List DDf}{rest:List Oper}{γ Sr:Fr}{V:Sig}{t:Nat}{ty:TypeId}{pos:String}{after:Array Edge}{T T' e:Nat}{x:Operand}{s:Str}
  (h:aC prog ro n ops Q rest ⟨(t,.slice (s.map fun b=>[D.int .u8 (b.toNat:Int)]) .no)::γ,V,df⟩) (hl:A7 γ (Ac [x])=some Sr:=by exact tdR) (hx:ev Sr x=.str s:=by exact tdR) (gr:decide (t<n)=true:=by exact tdR)
  (hk:(tab T).k=.str:=by(simp<;>rfl)) (g7:(tab T').k=.slice e:=by(simp<;>rfl)) (gZ:(tab e).k=.int .u8:=by(simp<;>rfl)) :
  aC prog ro n ops Q (⟨some t,.convert T T' x,ty,pos,after,none⟩::rest) ⟨γ,V,df⟩:=U0 Ag h (by simpa using gr) hk g7 gZ (by rw[<-Cz hl];exact hx)
def T3{l:fP}(h:l.Nodup){k:Nat}(hk:k<l.length): ¬l[k]∈l.take k:=fun hm=>by
 obtain⟨j,hj,e⟩:=bm hm;rw[ck]at hj;rw[List.getElem_take]at e;have:=(fO.1 h) j k k0 hk k0;exact this e
def Mg(V:Sig):aB prog 240 [] V fun x U'=> ∃im,V im=none/\x=.ret (.map im)/\U'=V.set im (.map (eSS lV)):=by
 have iA:lV.length=24:=rfl;have gY:lV.Nodup:=by decide
 refine en func240 ntmps240 ?_;refine gz ?_;refine Ng (fun im gR=>?_);refine gz ?_;refine rtw 5 (sl (cS lV)) ?_ (hw:=AO _ _);refine Bb [0,1,5,6,14] (fun (k:Nat)=>k<=lV.length) (fun k=>[(7,dI k)]) (fun k=>V.set im (.map (eSS (lV.take k)))) (fun k=>lV.length-k) (0) k7 (fun k hI=>?_)
 by_cases h:k<lV.length
 ·have hq:ins lV[k] (lV.take k)=lV.take (k+1):=by unfold ins;rw[aQ (T3 gY h),AQ h]
  refine gf hq ?_;exact⟨k+1,k0,td1,wkR⟩
 ·refine gz ?_;refine kE (U':=V.set im (.map (eSS lV))) ?_ (hZ:=by rw[bM k0];exact Sub.refl _);exact⟨im,gR,rfl,rfl⟩
def Mh(s:Str)(im:Nat)(V:Sig)(hm:V im=some (.map (eSS lV)))(hl:s.length<=1073741824):aB prog 239 [.str s,.map im] V (rS (.bool (Ak s)) V):=by
 refine en func239 ntmps239 ?_
 repeat' first|refine gf hm ?_|apply gy<;>intro hh
 ·(refine kE (U':=V) ?_;exact⟨by first|rfl|(simp[Ak,hh];done)|(simp_all [Ak,hh];done)|(rw[A4,aW];simp_all [Ak,hh]<;>omega),rfl⟩)
 ·any_goals (first|(refine kE (U':=V) ?_;exact⟨by first|rfl|(simp[Ak];done)|(simp_all [Ak];done)|(rw[A4,aW];simp_all [Ak]<;>omega),rfl⟩)|fail)
 ·any_goals (first|(refine kE (U':=V) ?_;exact⟨by first|rfl|(simp[Ak];done)|(simp_all [Ak];done)|(rw[A4,aW];simp_all [Ak]<;>omega),rfl⟩)|fail)
 ·rename_i e1 e2;have hk:¬s∈lV:=hh;refine bytesR ?_;refine gz ?_;refine Bb [20,21] (fun (k:Nat)=>k<=s.length/\s.all DS=(s.drop k).all DS) (fun k=>[(22,dI k)]) (fun _=>V) (fun k=>s.length-k) (0) k7 (fun k hI=>?_);obtain⟨gP,hR⟩:=hI
  by_cases h:k<s.length
  ·rw[A0 h,bU]at hR
   repeat' first|refine gz ?_|apply gy<;>intro hh
   ·have hn:DS s[k]=false:=by unfold DS;simp;omega
    rw[hn]at hR
    (refine kE (U':=V) ?_;exact⟨by first|rfl|(simp[Ak,hR];done)|(simp_all [Ak,hR];done)|(rw[A4,aW];simp_all [Ak,hR]<;>omega),rfl⟩)
   ·have hn:DS s[k]=false:=by unfold DS;simp;omega
    rw[hn]at hR
    (refine kE (U':=V) ?_;exact⟨by first|rfl|(simp[Ak,hR];done)|(simp_all [Ak,hR];done)|(rw[A4,aW];simp_all [Ak,hR]<;>omega),rfl⟩)
   ·have hn:DS s[k]=true:=by unfold DS;simp;omega
    exact⟨k+1,⟨k0,by rw[hR,hn];rfl⟩,td1,wkR⟩
  ·rw[A1 h]at hR;have h1:1<=s.length:=by cases s with|nil=>exact absurd rfl e1|cons _ _=>simp
   have hN:Ak s=true:=by unfold Ak;rw[hR,bf k0,ba (by assumption)];rfl
   repeat' first|refine gz ?_|apply gy<;>intro hh
   any_goals (first|exact fe1 hN|fail)
def Ws(s:Str)(V:Sig)(hl:s.length<=1073741824):aB prog 188 [.str s] V (rS (.bool (Ak s)) V):=by
 refine en func188 ntmps188 ?_;refine gz ?_;refine Ad (Mg V) (fun d U' hr=>?_) (fun d U' hr=>by obtain⟨_,_,h,_⟩:=hr;cases h);obtain⟨im,gR,h1,rfl⟩:=hr;simp only[DE.ret.injEq]at h1;subst h1
 repeat' first|refine gz ?_|refine Au (Mh s im _ (w7 ..) hl) ?_|refine callP (Mh s im _ (w7 ..) hl) ?_|refine gz ?_|apply gy<;>intro hh
 exact fe1 trivial
@[reducible,instance] def a188:=fun s V=>ah1 (@Ws s V)
def Fh(s:Str)(im:Nat)(t:fP)(V:Sig)(hm:V im=some (.map (eSS t)))(hl:s.length<=1073741824):
  aB prog 189 [.str s,.map im] V fun x U'=>(Ak s&&!decide (s∈t))=true/\x=.ret (.tup [])/\U'=V.set im (.map (eSS (t++[s])))\/(Ak s&&!decide (s∈t))=false/\x=.panic l7/\U'=V:=by
 refine en func189 ntmps189 ?_
 by_cases hs:s∈t
 ·have hc:(Ak s&&!decide (s∈t))=false:=by simp[hs]
  rw[hc]
  repeat' first|refine gf (gi hm hs) ?_|apply gy<;>intro hh
  all_goals
   refine kV (U':=V) ?_;exact .inr ⟨rfl,rfl,rfl⟩
 ·cases hn:Ak s
  ·refine gf (gi hm (gi hs hn)) ?_;refine kV (U':=V) ?_;exact .inr ⟨rfl,rfl,rfl⟩
  ·have hq:ins s t=t++[s]:=by unfold ins;rw[aQ hs]
   refine gf (gi hm (gi hs (gi hn hq))) ?_;refine EA (U':=V.set im (.map (eSS (t++[s])))) ?_;exact .inl ⟨by simp[hs],rfl,rfl⟩
end Go.DL
