/- A part of the proof. -/
import Derived.Test.YteldimffglchkaaGreatDoorQ19
set_option linter.all false
namespace Go.DL
open Go.Proofs.Tryz
open Go Go.Proofs
set_option maxHeartbeats 8000000
def j5(v:jH):eO:=[dI v.kind,dI v.n]
@[simp] theorem cVal_len(v:jH):(j5 v).length=2:=rfl
@[simp] theorem cVal_flat(v:jH):C6 (j5 v)=true:=rfl
def Lj:EqTy prog 40:=⟨by kernel_rfl,by kernel_rfl,by kernel_rfl⟩
theorem KZ:(tab 40).k=.struct [(0,38),(1,3)]:=rfl
def QX(a b:jH):eqFs tab (j5 a) (j5 b) [(0,38),(1,3)]=some (decide (a=b)):=by
 cases a;cases b;simp[j5,jH.mk.injEq,Bool.decide_and]
def Uj(v:jH)(O:Sig):ar prog 183 [.agg (j5 v)] O (rS (dI (Ah v)) O):=by
 refine en func183 ntmps183 ?_
 repeat' first|refine gz ?_|apply gy<;>intro hh
 any_goals (first|(refine fin1 (U':=O) ?_;exact⟨by first|rfl|(simp[Ah,hh];done)|(simp_all [Ah,hh];done)|(rw[Ae,aR];simp_all [Ah,hh]<;>omega),rfl⟩)|fail)
@[reducible,instance] def a183:=fun v O=>ah0 (@Uj v O)
def Ui(b:Bool)(O:Sig):ar prog 184 [.bool b] O (rS (dI (Dc b)) O):=by
 refine en func184 ntmps184 ?_
 repeat' first|refine gz ?_|apply gy<;>intro hh
 any_goals (first|(refine fin1 (U':=O) ?_;exact⟨by first|rfl|(simp[Dc,hh];done)|(simp_all [Dc,hh];done)|(rw[Ae,aR];simp_all [Dc,hh]<;>omega),rfl⟩)|fail)
@[reducible,instance] def a184:=fun b O=>ah0 (@Ui b O)
def Np(v:jH)(N:Int)(O:Sig):ar prog 175 [.agg (j5 v),dI N] O (rS (.bool (okV N v)) O):=by
 refine en func175 ntmps175 ?_
 repeat' first|refine gz ?_|apply gy<;>intro hh
 any_goals (first|(refine fin1 (U':=O) ?_;exact⟨by first|rfl|(simp[okV,hh];done)|(simp_all [okV,hh];done)|(rw[Ae,aR];simp_all [okV,hh]<;>omega),rfl⟩)|fail)
def Nq(v:jH)(N:Int)(O:Sig):ar prog 174 [.agg (j5 v),.ak [dI N] 0] O (rS (.bool (!okV N v)) O):=by
 refine en func174 ntmps174 ?_
 repeat' first|refine gz ?_|refine Bh (Np v N O) ?_|refine callP (Np v N O) ?_|refine gz ?_|apply gy<;>intro hh
 exact fe1 trivial
def NA(v:jH)(N:Int)(O:Sig):ar prog 104 [.agg (j5 v),.ak [dI N] 0] O (rS (.bool (!okV N v)) O):=by
 refine en func104 ntmps104 ?_
 repeat' first|refine gz ?_|apply gy<;>intro hh
 rotate_left 4
 ·refine neqS _ (decide (v=DS)) Lj KZ (QX v DS) ?_;refine gz ?_;refine fin1 (U':=O) ?_;refine⟨?_,rfl⟩;rw[Ae,aR];obtain⟨k,m⟩:=v;unfold okV DS
  simp_all
 all_goals
  refine fin1 (U':=O) ?_;refine⟨?_,rfl⟩;rw[Ae,aR];unfold okV
  simp_all
  try omega
def No(l:List jH)(p:jH->Bool)(g:Nat)(cap:eO)(o:Own)(O:Sig)(hl:l.length<=1073741824)(hg:∀v∈l,ar prog g ([]++[.agg (j5 v)]++cap) O (rS (.bool (p v)) O)):ar prog 176 [.slice (l.map j5) o,.func (.func g) [] cap] O (rS (dI (kD p l 0)) O):=by
 refine en func176 ntmps176 ?_;refine gz ?_;refine Bz [0,1,7] (fun (k:Nat)=>k<=l.length/\kD p l 0=kD p (l.drop k) k) (fun k=>[(8,dI k)]) (fun _=>O) (fun k=>l.length-k) (0) j1 (fun k hI=>?_);obtain⟨hk,hR⟩:=hI
 by_cases h:k<l.length
 ·rw[A6 h,kD]at hR
  repeat' first|refine Bh (hg (l[k]) (aK h)) ?_|refine callP (hg (l[k]) (aK h)) ?_|refine gz ?_|apply gy<;>intro hh
  ·rw[hh]at hR;exact fe1 hR
  ·rw[hh]at hR;exact⟨k+1,⟨j0,hR⟩,td1,wkR⟩
 ·rw[A9 h,kD]at hR;refine gz ?_;exact fe1 hR
def HL(l:List jH)(p:jH->Bool)(g:Nat)(cap:eO)(o:Own)(O:Sig)(hl:l.length<=1073741824)(hg:∀v∈l,ar prog g ([]++[.agg (j5 v)]++cap) O (rS (.bool (p v)) O)):ar prog 103 [.slice (l.map j5) o,.func (.func g) [] cap] O (rS (.bool (l.any p)) O):=by
 refine en func103 ntmps103 ?_
 repeat' first|refine gz ?_|refine Bh (No l p g cap _ _ hl hg) ?_|refine callP (No l p g cap _ _ hl hg) ?_|refine gz ?_|apply gy<;>intro hh
 rw[<-E8 p l 0];exact fe1 trivial
def UX(l:List jH)(N:Int)(o:Own)(O:Sig)(hl:l.length<=1073741824):ar prog 102 [.slice (l.map j5) o,dI N] O (rS (.bool (jg N l)) O):=by
 refine en func102 ntmps102 ?_
 repeat' first|refine gz ?_|refine Bh (HL l (fun v=> !okV N v) 174 [.ak [dI N] 0] _ _ hl (fun v _=>Nq v N _)) ?_|refine callP (HL l (fun v=> !okV N v) 174 [.ak [dI N] 0] _ _ hl (fun v _=>Nq v N _)) ?_|refine gz ?_|apply gy<;>intro hh
 (refine fin1 (U':=O) ?_;exact⟨by first|rfl|(simp[jg];done)|(simp_all [jg];done)|(rw[Ae,aR];simp_all [jg]<;>omega),rfl⟩)
@[reducible,instance] def a102:=fun l N o O=>ah1 (@UX l N o O)
def X0(l:List jH)(N:Int)(o:Own)(O:Sig)(hl:l.length<=1073741824):ar prog 46 [.slice (l.map j5) o,dI N] O (rS (.bool (jg N l)) O):=by
 refine en func46 ntmps46 ?_
 repeat' first|refine gz ?_|refine Bh (HL l (fun v=> !okV N v) 104 [.ak [dI N] 0] _ _ hl (fun v _=>NA v N _)) ?_|refine callP (HL l (fun v=> !okV N v) 104 [.ak [dI N] 0] _ _ hl (fun v _=>NA v N _)) ?_|refine gz ?_|apply gy<;>intro hh
 (refine fin1 (U':=O) ?_;exact⟨by first|rfl|(simp[jg];done)|(simp_all [jg];done)|(rw[Ae,aR];simp_all [jg]<;>omega),rfl⟩)
@[reducible,instance] def a46:=fun l N o O=>ah1 (@X0 l N o O)
def AF{O:Sig}{a b:Nat}{o:jP}(h:O a=some o)(k:O b=none):a≠b:=fun e=>by rw[e,k]at h;cases h
def ku.am{O:Sig}{sz:Nat}{st:MR}{es:eR}(h:ku O sz st es)(hne:es≠[]): ∃r c, ∀n,mD st n=.am r 0 n c:=by
 rcases st with _|⟨i,cap,rest⟩
 ·exact absurd h hne
 ·exact⟨i,cap,fun _=>rfl⟩
def BK(ib:Nat)(O:Sig)(st:MR)(U':Sig)(st':MR):Prop:= ∀j o,O j=some o->j≠ib->¬GH st j->U' j=some o /\ ¬GH st' j
def BK.trans{ib:Nat}{O S1 S2:Sig}{st st1 st2:MR}(h:BK ib O st S1 st1)(k:BK ib S1 st1 S2 st2):BK ib O st S2 st2:=fun j o hj hi hn=>k j o (h j o hj hi hn).1 hi (h j o hj hi hn).2
def BK.refl(ib:Nat)(O:Sig)(st:MR):BK ib O st O st:=fun j o h _ hn=>⟨h,hn⟩
def BK.fresh{ib:Nat}{O S1:Sig}{st st1:MR}{k:Nat}{o:jP}(h:BK ib O st S1 st1)(hk:S1 k=none):BK ib O st (S1.set k o) st1:=fun j x hj hi hn=>by
 obtain⟨h1,h2⟩:=h j x hj hi hn;exact⟨j2 (AF h1 hk) h1,h2⟩
structure kl(ib:Nat)(s m:D)(st:MR)(j6:List jI)(O:Sig):Prop where
 j7:O ib=some (.cells [mD st j6.length,s,m])
 row:ku O 2 st (j6.map cIns)
 nr:¬GH st ib
section
variable {ib:Nat}{s m:D}{st:MR}{j6:List jI}{O:Sig}
theorem kl.notrow(h:kl ib s m st j6 O){k:Nat}(hk:O k=none): ¬GH st k:=fun hr=>by
 obtain⟨cs,hc⟩:=h.row.cells hr;rw[hk]at hc;cases hc
theorem kl.fresh(h:kl ib s m st j6 O){k:Nat}{o:jP}(hk:O k=none):kl ib s m st j6 (O.set k o):=
 ⟨j2 (AF h.j7 hk) h.j7,h.row.keep fun j x hj hr=>by rw[w7 _ _ fun e=>h.notrow hk (by rw[<-e];exact hr)];exact hj,h.nr⟩
theorem DM(op a:Int)(hn:j6.length<=1000000)(hB:kl ib s m st j6 O):ar prog 132 [.ptr ib 0,dI op,dI a] O fun x U'=>x=.ret (.tup []) /\ ∃st',kl ib s m st' (j6++[⟨op,a⟩]) U'/\BK ib O st U' st':=by
 obtain⟨q1,q2,q3⟩:=hB;refine en func132 ntmps132 ?_;refine gf q1 ?_;refine rapp (es:=j6.map cIns) (fun st2 S2 d5 d6=>?_) (hm:=q2);obtain⟨v1,v2⟩:=d6 _ _ q1 q3;obtain⟨rr,rc,fq⟩:=d5.am j1;have fi:=fq (j6.length+1);refine gf (gi v1 fi) ?_;have fB:(j6++[(⟨op,a⟩:jI)]).map cIns=j6.map cIns++[[dI op,dI a]]:=by simp[cIns]
 refine F3 (U':=S2.set ib (.cells [.am rr 0 (j6.length+1) rc,s,m])) ?_;refine⟨rfl,st2,⟨by rw[w6,fq];simp,?_,v2⟩,fun j o hj fu hr=>?_⟩
 ·rw[fB];exact d5.keep fun j x hj hr=>by rw[w7 _ _ fun e=>v2 (by rw[<-e];exact hr)];exact hj
 ·obtain⟨h3,h4⟩:=d6 j o hj hr;exact⟨j2 fu h3,h4⟩
abbrev cLater(ib k:Nat):D:=.func (.func 259) [] [.ak [.ptr ib 0] 0,.ak [dI k] 0]
theorem Nk(op:Int)(hn:j6.length<=1000000)(hB:kl ib s m st j6 O):ar prog 207 [.ptr ib 0,dI op] O fun x U'=>x=.ret (cLater ib j6.length) /\ ∃st',kl ib s m st' (j6++[⟨op,0⟩]) U'/\BK ib O st U' st':=by
 have fw:=hB;obtain⟨q1,q2,q3⟩:=hB;refine en func207 ntmps207 ?_;cases fe:st with
 |none=>
  subst fe;have h0:j6=[]:=by have:j6.map cIns=[]:=q2;simpa using this
  subst h0;simp only[mD]at q1;refine gf q1 ?_;refine A3 (DM op 0 hn fw) (fun d U' hr=>?_);obtain⟨h1,st',fm,hK⟩:=hr;cases h1;refine gz ?_;refine fin1 (U':=U') ⟨rfl,st',fm,hK⟩
 |some x=>
  obtain⟨rr,rc,rest⟩:=x;subst fe;simp only[mD]at q1;refine gf q1 ?_;refine A3 (DM op 0 hn fw) (fun d U' hr=>?_);obtain⟨h1,st',fm,hK⟩:=hr;cases h1;refine gz ?_;refine fin1 (U':=U') ⟨rfl,st',fm,hK⟩
def setA(l:List jI)(k:Nat)(a:Int):List jI:=l.take k++((l[k]?).map fun x=>(⟨x.op,a⟩:jI)).toList++l.drop (k+1)
theorem Nc(k:Nat)(hk:k<j6.length)(hn:j6.length<=1000000)(hB:kl ib s m st j6 O):ar prog 259 [.ak [.ptr ib 0] 0,.ak [dI k] 0] O fun x U'=>x=.ret (.tup []) /\ ∃st',kl ib s m st' (setA j6 k j6.length) U'/\BK ib O st U' st':=by
 obtain⟨q1,q2,q3⟩:=hB;rcases st with _|⟨r,rc,rest⟩
 ·have:j6.map cIns=[]:=q2;simp at this;subst this;simp at hk
 have hx:j6=j6.take k++j6[k]::j6.drop (k+1):=by simp
 have ff:setA j6 k j6.length=j6.take k++(⟨(j6[k]).op,j6.length⟩:jI)::j6.drop (k+1):=by unfold setA;rw[aD hk];simp
 have fg:O r=some (.cells ((j6.map cIns).flatten++rest))/\((j6.map cIns).flatten++rest).length=rc*2/\(j6.map cIns).length<=rc/\_:=q2;obtain⟨w1,w2,w3,w4⟩:=fg;have fo:((j6.take k).map cIns).flatten.length=k*2:=by rw[Aj (sz:=2) (fun e he=>by obtain⟨x,_,rfl⟩:=aZ.1 he;rfl)];simp;omega
 have fI:(j6.map cIns).flatten++rest=((j6.take k).map cIns).flatten++dI (j6[k]).op::dI (j6[k]).a::(((j6.drop (k+1)).map cIns).flatten++rest):=by
  have h0:j6.map cIns=(j6.take k).map cIns++cIns j6[k]::(j6.drop (k+1)).map cIns:=by rw[<-bd,<-bz,<-hx]
  rw[h0];simp only[bt,br,aO,cIns,bH,bG]
 have eY:((setA j6 k j6.length).map cIns).flatten++rest=((j6.take k).map cIns).flatten++dI (j6[k]).op::dI (j6.length:Int)::(((j6.drop (k+1)).map cIns).flatten++rest):=by
  rw[ff];simp only[bz,bd,bt,br,aO,cIns,bH,bG]
 have hlen:(setA j6 k j6.length).length=j6.length:=by rw[ff];simp;omega
 rw[fI]at w1 w2;generalize hA:((j6.take k).map cIns).flatten=A at*;generalize hM:((j6.drop (k+1)).map cIns).flatten++rest=M at*;have fR:A.length+(2+M.length)=rc*2:=by simp only[aC,aS]at w2;omega
 have fN:k<rc:=by rw[aN]at w3;omega
 have fJ:ib≠r:=fun h=>q3 h;have q1':O ib=some (.cells [.am r 0 j6.length rc,s,m]):=q1
 have fe:(A++dI (j6[k]).op::dI (j6[k]).a::M).set (k*2+1) (dI (j6.length:Int))=A++dI (j6[k]).op::dI (j6.length:Int)::M:=by
  rw[<-fo,List.set_append_right _ _ j0];simp
 have fA:List.take (k*2+1) (A++dI j6[k].op::dI j6[k].a::M)=A++[dI j6[k].op]:=by rw[<-fo,List.take_length_add_append];rfl
 have fH:List.drop (k*2+1+1) (A++dI j6[k].op::dI j6[k].a::M)=M:=by rw[<-fo,cT,List.drop_length_add_append];rfl
 have fP:(setA j6 k j6.length).map cIns=(j6.take k).map cIns++cIns ⟨(j6[k]).op,j6.length⟩::(j6.drop (k+1)).map cIns:=by rw[ff];simp
 refine en func259 ntmps259 ?_;refine gf (gi q1' w1) ?_ o259;rw[fA,fH];refine F3 (U':=O.set r (.cells (A++[dI j6[k].op]++dI (j6.length:Int)::M))) ⟨rfl,some (r,rc,rest),⟨?_,⟨?_,?_,?_,?_⟩,q3⟩,fun j o hj fu hr=>⟨by rw[w7 _ _ fun e=>hr e];exact hj,hr⟩⟩
 ·rw[w7 _ _ fJ,q1',hlen];rfl
 ·rw[w6,eY,aO];rfl
 ·rw[eY];simp only[aC,aS];omega
 ·rw[aN,hlen];rw[aN]at w3;exact w3
 ·intro z hz;obtain⟨x,_,rfl⟩:=aZ.1 hz;rfl
end
section
variable {ro:Ro}{n:Nat}{ops:Array Oper}{N:Nat}{S0:Sig}{Q:DX->St->Prop}{df:List DDf}{rest:List Oper}{γ Sr:List (Nat×D)}{O:Sig}{t:Nat}{ty:TypeId}{pos:String}{after:Array Edge}{d:D}
theorem cutH{T e i off len cap hi:Nat}{k:IntKind}{x y:Operand}(h:au prog ro n ops Q rest ⟨(t,.am i off hi cap)::γ,O,df⟩)(fG:hi<=cap)
  (hl:A5 γ (Aa [x,y])=some Sr:=by exact tdR) (h1:ev Sr x=.am i off len cap:=by exact tdR) (h2:ev Sr y=.int k hi:=by exact tdR) (hk:(tab T).k=.slice e:=by(simp<;>rfl)) (he:A2 (tab e).k=false:=by simp) (fy:decide (t<n)=true:=by exact tdR) :
  au prog ro n ops Q (⟨some t,.slice T x none (some y) none,ty,pos,after,none⟩::rest) ⟨γ,O,df⟩:=by
 obtain⟨e1,e2⟩:=jW hl
 refine Ct (fun d U'=>d=.am i off hi cap/\U'=O) rfl (fun c e=>by cases e) (Ag fun c e=>by cases e) (by simp only[Ax];exact fy) ?_
  (fun d U' ⟨a2,a3⟩=>by subst a2 a3;exact h)
 intro g w a hs hT;have hx:=As hT x;have hy:=As hT y;rw[<-e1,h1]at hx;rw[<-e2,h2]at hy;obtain⟨r,h4,h5⟩:=P1 (w:=w) jB hk he hx hy fG;exact⟨g,w,r,_,O,by simp only[execOp,bx,cZ,aP,h4,aJ,bi],.refl g,hs,h5,rfl,rfl⟩
end
def cEv(e:MEv):eO:=[dI e.deed,dI e.n,.slice (e.vals.map j5) .clip]
def jC(S:Nat->RW)(l:List jF):eR:=l.mapIdx fun k o=>[dI o.jM,(S k).d o.ac.length]
def rCt(R:Nat->RW)(s:GoS):Nat->eR
 |0=>s.jA.map j5
 |1=>s.j7.map j5
 |2=>s.jW.map cEv
 |3=>jC (fun k=>R (k+4)) s.j3
 |k+4=>((s.j3[k]?).getD ⟨0,[]⟩).ac.map j5
def rSz(a:Nat):Nat:=if a=2 then 3 else 2
abbrev AY(p:aw)(R:Nat->RW)(s:GoS):eO:=[dI 0,dI 0,dI 0,dI 0,.aj,dI 0,dI 0,.aj,.aj,(R 3).d s.j3.length,(R 2).d s.jW.length]++A7 p++[dI s.pos,(R 0).d s.jA.length,(R 1).d s.j7.length]
structure jU(ir:Nat)(p:aw)(R:Nat->RW)(s:GoS)(O:Sig):Prop where
 obj:O ir=some (.cells (AY p R s))
 rows:Rows O R rSz (rCt R s)
 ni:∀a, ¬(R a).is ir
 nf:∀a es,R a=.full es->es=[]
def jV(ir:Nat)(R:Nat->RW)(O:Sig)(R':Nat->RW)(U':Sig):Prop:= ∀j o,O j=some o->j≠ir->(∀a, ¬(R a).is j)->U' j=some o /\ ∀a, ¬(R' a).is j
def jV.refl(ir:Nat)(R:Nat->RW)(O:Sig):jV ir R O R O:=fun _ _ h _ k=>⟨h,k⟩
def jV.trans{ir:Nat}{R R1 R2:Nat->RW}{O S1 S2:Sig}(h:jV ir R O R1 S1)(k:jV ir R1 S1 R2 S2):jV ir R O R2 S2:=fun j o hj hi hn=>k j o (h j o hj hi hn).1 hi (h j o hj hi hn).2
section
variable {ir:Nat}{p:aw}{R:Nat->RW}{s:GoS}{O:Sig}
theorem jU.row(h:jU ir p R s O)(a:Nat)(hne:rCt R s a≠[]): ∃i c cs,R a=.row i c cs:=by
 have hk:=h.rows.ok a;cases hR:R a with
 |nil=>rw[hR]at hk;exact absurd hk hne
 |full es=>rw[hR]at hk;obtain⟨h1,_⟩:=hk;rw[h.nf a es hR]at h1;exact absurd h1 hne
 |row i c cs=>exact⟨i,c,cs,rfl⟩
theorem jU.put(h:jU ir p R s O){a:Nat}{i c:Nat}{cs:eO}{es':eR}{s':GoS}{S1:Sig}{ds:eO}(hr:jN S1 (rSz a) (.row i c cs) es')(hk:RWK O (R a) S1 (.row i c cs))(d7:∀b,rCt (jK R a (.row i c cs)) s' b=jK (rCt R s) a es' b)(hd:ds=AY p (jK R a (.row i c cs)) s'):
  jU ir p (jK R a (.row i c cs)) s' (S1.set ir (.cells ds))/\jV ir R O (jK R a (.row i c cs)) (S1.set ir (.cells ds)):=by
 obtain⟨k1,k2⟩:=hk ir _ h.obj (h.ni a);have hR:=(h.rows.upd hr hk).retell d7
 have eV:∀b, ¬(jK R a (.row i c cs) b).is ir:=fun b=>by
  by_cases e:b=a
  ·subst e;rw[Ab];exact k2
  ·rw[A1 _ _ e];exact h.ni b
 refine⟨⟨by rw[w6,hd],hR.keep fun j o hj ⟨b,hb⟩=>by rw[w7 _ _ fun e=>eV b (by rw[<-e];exact hb)];exact hj,eV,fun b es hb=>?_⟩,fun j o hj d9 hn=>⟨by rw[w7 _ _ d9];exact(hk j o hj (hn a)).1,fun b=>?_⟩⟩
 ·by_cases e:b=a
  ·subst e;rw[Ab]at hb;cases hb
  ·rw[A1 _ _ e]at hb;exact h.nf b es hb
 ·by_cases e:b=a
  ·subst e;rw[Ab];exact(hk j o hj (hn b)).2
  ·rw[A1 _ _ e];exact hn b
theorem jU.re(h:jU ir p R s O){a:Nat}{i c:Nat}{cs:eO}{es':eR}{s':GoS}{ds:eO}(hr:jN O (rSz a) (.row i c cs) es')(hi:∀j,(RW.row i c cs).is j->(R a).is j)(d7:∀b,rCt (jK R a (.row i c cs)) s' b=jK (rCt R s) a es' b)(hd:ds=AY p (jK R a (.row i c cs)) s'):
  jU ir p (jK R a (.row i c cs)) s' (O.set ir (.cells ds))/\jV ir R O (jK R a (.row i c cs)) (O.set ir (.cells ds)):=by
 have hR:=(h.rows.re hr hi).retell d7
 have fj:∀b j,(jK R a (.row i c cs) b).is j->(R b).is j:=fun b j hb=>by
  by_cases e:b=a
  ·subst e;rw[Ab]at hb;exact hi j hb
  ·rwa [A1 _ _ e]at hb
 refine⟨⟨by rw[w6,hd],hR.keep fun j o hj ⟨b,hb⟩=>by rw[w7 _ _ fun e=>h.ni b (by rw[<-e];exact fj b j hb)];exact hj,fun b hb=>h.ni b (fj b _ hb),fun b es hb=>?_⟩,fun j o hj d9 hn=>⟨j2 d9 hj,fun b hb=>hn b (fj b j hb)⟩⟩
 by_cases e:b=a
 ·subst e;rw[Ab]at hb;cases hb
 ·rw[A1 _ _ e]at hb;exact h.nf b es hb
@[simp] theorem Cz(i c n:Nat)(cs:eO):(RW.row i c cs).d n=.am i 0 n c:=rfl
@[simp] theorem cVal_tk(v:jH):List.take 2 (j5 v)=j5 v:=rfl
@[simp] theorem cVal_mem(v:jH)(d:D):(d∈j5 v)=(d=dI v.kind\/d=dI v.n):=by simp[j5]
theorem Az{l:List jH}: ∀c∈l.map j5,c.length=2:=fun c h=>by obtain⟨v,_,rfl⟩:=aZ.1 h;rfl
theorem Gm(R:Nat->RW)(a:Nat)(r:RW)(ha:a<4)(l:List jF):jC (fun k=>jK R a r (k+4)) l=jC (fun k=>R (k+4)) l:=by
 unfold jC
 congr 1
 funext k o
 simp only[A1 R r (show k+4≠a by omega)]
theorem Qm(R:Nat->RW)(r:RW)(s:GoS)(l:List jH)(b:Nat):rCt (jK R 0 r) { s with jA:=l } b=jK (rCt R s) 0 (l.map j5) b:=by
 match b with
 |0=>rfl
 |1=>rfl
 |2=>rfl
 |3=>exact Gm R 0 r j0 _
 |k+4=>rfl
theorem W5(R:Nat->RW)(r:RW)(s:GoS)(l:List jH)(b:Nat):rCt (jK R 1 r) { s with j7:=l } b=jK (rCt R s) 1 (l.map j5) b:=by
 match b with
 |0=>rfl
 |1=>rfl
 |2=>rfl
 |3=>exact Gm R 1 r j0 _
 |k+4=>rfl
theorem rCt_2(R:Nat->RW)(r:RW)(s:GoS)(l:List MEv)(b:Nat):rCt (jK R 2 r) { s with jW:=l } b=jK (rCt R s) 2 (l.map cEv) b:=by
 match b with
 |0=>rfl
 |1=>rfl
 |2=>rfl
 |3=>exact Gm R 2 r j0 _
 |k+4=>rfl
theorem BD(v:jH)(hR:jU ir p R s O)(hn:s.jA.length<=1000000):ar prog 177 [.ptr ir 0,.agg (j5 v)] O fun x U'=>x=.ret (.bool false) /\ ∃R',jU ir p R' { s with jA:=s.jA++[v] } U'/\jV ir R O R' U':=by
 have q1:=hR.obj;have q0:jN O 2 (R 0) (s.jA.map j5):=hR.rows.ok 0;have u1:(O.out (R 0).is) ir=some (.cells (AY p R s)):=Dk q1 (hR.ni 0);refine en func177 ntmps177 ?_;refine gf q1 ?_;refine CH (id:=1) (List.range 12) [8] (O.out (R 0).is) (CC _ _) ?_;refine gf u1 ?_ o177;refine Dl (es:=s.jA.map j5) (fun i c cs S2 d5 d6=>?_) (fun j o h=>C2 h) (hm:=q0);obtain⟨v1,v2⟩:=d6 _ _ q1 (hR.ni 0);refine gf v1 ?_ o177;rw[show s.jA.map j5++[j5 v]=(s.jA++[v]).map j5 by simp]at d5;obtain⟨p1,p2⟩:=hR.put (a:=0) (s':={ s with jA:=s.jA++[v] }) d5 d6 (Qm R _ s _) rfl;refine fin1 (U':=_) ⟨rfl,_,p1,p2⟩ (hZ:=?_);simp[AY,A7];exact Sub.refl _
theorem Hb(l:List jH)(v:jH)(m:List jH)(cs:eO):List.take 2 (List.drop (l.length*2) (((l++v::m).map j5).flatten++cs))=j5 v:=by
 have e:((l++v::m).map j5).flatten++cs=(l.map j5).flatten++(j5 v++((m.map j5).flatten++cs)):=by simp
 have h:(l.map j5).flatten.length=l.length*2:=by rw[Aj Az];simp
 rw[e,<-h,List.drop_left];rfl
theorem Dr(l:List jH)(cs:eO):((l.map j5).flatten++cs).length=l.length*2+cs.length:=by
 rw[aC,Aj Az];simp
theorem CJ(r:List jH)(v:jH)(hR:jU ir p R s O)(hs:s.jA=r++[v])(hn:s.jA.length<=1000000):ar prog 181 [.ptr ir 0] O fun x U'=>x=.ret (.agg (j5 v)) /\ ∃R',jU ir p R' { s with jA:=r } U'/\jV ir R O R' U':=by
 have q1:=hR.obj;obtain⟨i,c,cs,h0⟩:=hR.row 0 (by rw[rCt,hs];simp);have q0:jN O 2 (R 0) (s.jA.map j5):=hR.rows.ok 0;have eV:=hR.ni 0;rw[h0,hs]at q0;rw[h0]at eV;have hl:s.jA.length=r.length+1:=by rw[hs];simp
 unfold AY at q1;rw[h0,hl]at q1;simp only[Cz]at q1;obtain⟨z1,z2,z3,z4⟩:=q0;have hv:=Hb r v [] cs;have fL:((List.map j5 (r++[v])).flatten++cs).length=(r.length+1)*2+cs.length:=by rw[Dr];simp
 refine en func181 ntmps181 ?_;refine gz ?_ [] [2];refine je (fun i2 eX=>?_);have n1:ir≠i2:=fun e=>by rw[<-e,hR.obj]at eX;cases eX
 have n2:i≠i2:=fun e=>by rw[<-e,z1]at eX;cases eX
 have q2:(O.set i2 (.cells [.int .i64 0,.int .i64 0])) ir=_:=(w7 _ _ n1).trans q1;have q3:(O.set i2 (.cells [.int .i64 0,.int .i64 0])) i=_:=(w7 _ _ n2).trans z1;have hr:jN O 2 (.row i c (j5 v++cs)) (r.map j5):=⟨by rw[z1];simp,by rw[<-aO];simpa using z2,by simp only[aN,aC,aT]at z3⊢; omega,Az⟩;generalize (List.map j5 (r++[v])).flatten++cs=L at*;have fD:r.length*2+2<=L.length:=by omega
 refine gf (gi q1 (gi z1 (gi hv fD))) ?_ [] [2];simp only[aN,aC,aT]at z3;refine cutH (i:=i) (off:=0) (len:=r.length+1) (cap:=c) (hi:=r.length) ?_ j0;refine gf q1 ?_ [] [2];obtain⟨p1,p2⟩:=hR.re (a:=0) (s':={ s with jA:=r }) hr (by rw[h0];exact fun j h=>h) (Qm R _ s _) rfl;refine jp (U':=_) ⟨rfl,_,p1,p2⟩ (hZ:=fun j o hj=>?_)
 by_cases e:j=ir
 ·subst e;rw[w6]at hj;rw[w7 _ _ n1,w6,<-hj];rfl
 ·rw[w7 _ _ e]at hj;have e2:j≠i2:=fun h=>by rw[h,eX]at hj;cases hj
  rw[w7 _ _ e2,w7 _ _ e,w7 _ _ e2];exact hj
end
abbrev Pu(p:aw)(R:Nat->RW)(s:GoS)(av:D)(b:Bool)(h:GoH):eO:=
 [dI h.kind,dI h.val.kind,dI h.val.n,dI h.gen,av,dI h.fin]++(if b then [dI s.pos,(R 0).d s.jA.length,(R 1).d s.j7.length] else [dI 0,.aj,.aj])++[(R 3).d s.j3.length,(R 2).d s.jW.length]++A7 p++[dI s.pos,(R 0).d s.jA.length,(R 1).d s.j7.length]
structure l8(ir:Nat)(p:aw)(R:Nat->RW)(s:GoS)(av:D)(b:Bool)(h:GoH)(O:Sig):Prop where
 obj:O ir=some (.cells (Pu p R s av b h))
 rows:Rows O R rSz (rCt R s)
 ni:∀a, ¬(R a).is ir
 nf:∀a es,R a=.full es->es=[]
 args:WkD av (sl (h.args.map j5))
 j3:h.j3=s.j3
 jW:h.jW=s.jW
 st:if b then h.pos=s.pos/\h.jA=s.jA/\h.j7=s.j7 else h.pos=0/\h.jA=[]/\h.j7=[]
section
variable {ir:Nat}{p:aw}{R:Nat->RW}{s:GoS}{O:Sig}
theorem jU.halt(h:jU ir p R s O){av:D}{b:Bool}{k:GoH}{ds:eO}(hd:ds=Pu p R s av b k)(ha:WkD av (sl (k.args.map j5)))(ho:k.j3=s.j3)(he:k.jW=s.jW)(hs:if b then k.pos=s.pos/\k.jA=s.jA/\k.j7=s.j7 else k.pos=0/\k.jA=[]/\k.j7=[]):
  l8 ir p R s av b k (O.set ir (.cells ds))/\jV ir R O R (O.set ir (.cells ds)):=
 ⟨⟨by rw[w6,hd],h.rows.keep fun j o hj ⟨b,hb⟩=>by rw[w7 _ _ fun e=>h.ni b (by rw[<-e];exact hb)];exact hj,h.ni,h.nf,ha,ho,he,hs⟩,fun j o hj d9 hn=>⟨j2 d9 hj,hn⟩⟩
theorem RU(R:Nat->RW)(s:GoS)(q:Int)(b:Nat):rCt R { s with pos:=q } b=rCt R s b:=by
 match b with
 |0=>rfl
 |1=>rfl
 |2=>rfl
 |3=>rfl
 |k+4=>rfl
theorem jU.at(h:jU ir p R s O)(q:Int){ds:eO}(hd:ds=AY p R { s with pos:=q }):jU ir p R { s with pos:=q } (O.set ir (.cells ds))/\jV ir R O R (O.set ir (.cells ds)):=
 ⟨⟨by rw[w6,hd],(h.rows.retell (RU R s q)).keep fun j o hj ⟨b,hb⟩=>by rw[w7 _ _ fun e=>h.ni b (by rw[<-e];exact hb)];exact hj,h.ni,h.nf⟩,fun j o hj d9 hn=>⟨j2 d9 hj,hn⟩⟩
theorem VS{ds:eO}{r0 r1:RW}{a:Int}{n m k:Nat}(h:O ir=some (.cells ds))(hl:k+3<=ds.length):EP tab O 34 (.ptr ir k) (.agg [dI a,r0.d n,r1.d m])=some (.any,O.set ir (.cells (ds.take k++[dI a,r0.d n,r1.d m]++ds.drop (k+3)))):=by
 have hf:¬ds.length<k+3:=by omega
 cases r0<;>cases r1<;>simp[EP,h,RW.d,hf]
theorem Jc{ro:Ro}{n:Nat}{ops:Array Oper}{Q:DX->St->Prop}{df:List DDf}{rest:List Oper}{γ Sr:Fr}{ty:TypeId}{pos:String}{after:Array Edge}{x y:Operand}{ds:eO}{r0 r1:RW}{a:Int}{m m' k:Nat}(hc:O ir=some (.cells ds))(h:au prog ro n ops Q rest ⟨γ,O.set ir (.cells (ds.take k++[dI a,r0.d m,r1.d m']++ds.drop (k+3))),df⟩)
  (hl:A5 γ (Aa [x,y])=some Sr:=by exact tdR) (h1:ev Sr x=.ptr ir k:=by exact tdR) (h2:ev Sr y=.agg [dI a,r0.d m,r1.d m']:=by exact tdR) (hlen:k+3<=ds.length:=by simp) :
  au prog ro n ops Q (⟨none,.store 34 x y,ty,pos,after,none⟩::rest) ⟨γ,O,df⟩:=
 FR jB (d:=.any) hl (by show EP tab O 34 (ev Sr x) (ev Sr y)=_;rw[h1,h2];exact VS hc hlen) h
theorem HJ(e:Int)(jA:List jH)(hR:jU ir p R s O):ar prog 178 [.ptr ir 0,dI e] O fun x U'=>x=.ret (.bool true)/\l8 ir p R s .aj false (Dv s e jA) U'/\jV ir R O R U':=by
 have q1:=hR.obj;refine en func178 ntmps178 ?_;refine gf q1 ?_;obtain⟨p1,p2⟩:=hR.halt (av:=.aj) (b:=false) (k:=Dv s e jA) rfl (Ak _ (.inl rfl)) rfl rfl ⟨rfl,rfl,rfl⟩;exact fin1 (U':=_) ⟨rfl,p1,p2⟩
theorem UW(x:jI)(hR:jU ir p R s O)(hn:s.jA.length<=1000000):ar prog 105 [.ptr ir 0,.agg (cIns x)] O fun r U'=>r=.ret (.bool false) /\ ∃R',jU ir p R' { s with jA:=s.jA++[jZ x.a] } U'/\jV ir R O R' U':=by
 refine en func105 ntmps105 ?_;refine gz ?_;refine A3 (BD (jZ x.a) hR hn) (fun d S1 hr=>?_);obtain⟨hd,hr⟩:=hr;cases hd;refine gz ?_;exact fin1 (U':=S1) ⟨rfl,hr⟩
theorem UV(x:jI)(hR:jU ir p R s O)(hn:s.jA.length<=1000000):ar prog 106 [.ptr ir 0,.agg (cIns x)] O fun r U'=>r=.ret (.bool false) /\ ∃R',jU ir p R' { s with jA:=s.jA++[DS] } U'/\jV ir R O R' U':=by
 refine en func106 ntmps106 ?_;refine gz ?_;refine A3 (BD DS hR hn) (fun d S1 hr=>?_);obtain⟨hd,hr⟩:=hr;cases hd;refine gz ?_;exact fin1 (U':=S1) ⟨rfl,hr⟩
theorem UL(x:jI)(r:List jH)(v:jH)(hR:jU ir p R s O)(hs:s.jA=r++[v])(hn:s.jA.length<=1000000):ar prog 116 [.ptr ir 0,.agg (cIns x)] O fun y U'=>y=.ret (.bool false) /\ ∃R',jU ir p R' { s with jA:=r } U'/\jV ir R O R' U':=by
 refine en func116 ntmps116 ?_;refine gz ?_;refine A3 (CJ r v hR hs hn) (fun d S1 hr=>?_);obtain⟨hd,hr⟩:=hr;cases hd;refine gz ?_;exact fin1 (U':=S1) ⟨rfl,hr⟩
theorem UJ(x:jI)(hR:jU ir p R s O):ar prog 118 [.ptr ir 0,.agg (cIns x)] O fun y U'=>y=.ret (.bool false) /\ ∃R',jU ir p R' { s with pos:=x.a } U'/\jV ir R O R' U':=by
 have q1:=hR.obj;refine en func118 ntmps118 ?_;refine gf q1 ?_;obtain⟨p1,p2⟩:=hR.at x.a rfl;exact fin1 (U':=_) ⟨rfl,_,p1,p2⟩
theorem UH(x:jI)(hR:jU ir p R s O):ar prog 120 [.ptr ir 0,.agg (cIns x)] O fun y U'=>y=.ret (.bool true)/\l8 ir p R s .aj true ⟨3,vZ,0,[],0,s.pos,s.jA,s.j7,s.j3,s.jW⟩ U'/\jV ir R O R U':=by
 have q1:=hR.obj;refine en func120 ntmps120 ?_;refine gf q1 ?_;obtain⟨p1,p2⟩:=hR.halt (av:=.aj) (b:=true) (k:=⟨3,vZ,0,[],0,s.pos,s.jA,s.j7,s.j3,s.jW⟩) rfl (Ak _ (.inl rfl)) rfl rfl ⟨rfl,rfl,rfl⟩;refine Jc (w6 ..) ?_;simp only[w8];refine gz ?_;exact fin1 (U':=_) ⟨rfl,p1,p2⟩
theorem rowV{a:Nat}{l:List jH}(h:jN O 2 (R a) (l.map j5))(hne:R a≠.nil)(hf:∀es,R a=.full es->es=[]){n:Nat}(hn:n<l.length): ∃i c cs,R a=.row i c cs /\ ∃L,O i=some (.cells L)/\n*2+2<=L.length/\List.take 2 (List.drop (n*2) L)=j5 l[n]:=by
 cases hR:R a with
 |nil=>exact absurd hR hne
 |full es=>
  rw[hR]at h;have:=hf es hR;subst this;obtain⟨h1,_⟩:=h;simp at h1;rw[h1]at hn;simp at hn
 |row i c cs=>
  rw[hR]at h;refine⟨i,c,cs,rfl,_,h.1,by rw[Dr];omega,?_⟩;have e:l=l.take n++l[n]::l.drop (n+1):=by rw[<-A6 hn,cf]
  have hv:=Hb (l.take n) l[n] (l.drop (n+1)) cs;rw[<-e,List.length_take_of_le j0]at hv;exact hv
theorem UU(x:jI)(n:Nat)(hx:x.a=n)(hn:n<s.j7.length)(hR:jU ir p R s O)(hs:s.jA.length<=1000000)(fQ:s.j7.length<=1000000):ar prog 107 [.ptr ir 0,.agg (cIns x)] O fun y U'=>y=.ret (.bool false) /\ ∃R',jU ir p R' { s with jA:=s.jA++[s.j7[n]] } U'/\jV ir R O R' U':=by
 have q1:=hR.obj;have q0:jN O 2 (R 1) (s.j7.map j5):=hR.rows.ok 1;obtain⟨i,c,cs,h0,L,z1,z2,z3⟩:=rowV q0 (fun e=>by rw[e]at q0;have:s.j7.map j5=[]:=q0;simp at this;rw[this]at hn;simp at hn) (hR.nf 1) hn;unfold AY at q1;rw[h0]at q1;simp only[Cz]at q1;refine en func107 ntmps107 ?_;refine gz ?_;refine mixI (id:=1) (List.range 12) [10] [5,9] [10] (fun s=>s=O) rfl ?_;refine iP _ ?_;refine iP _ ?_;refine iP _ ?_;refine iP _ ?_;refine iP _ ?_;refine iR (.am i 0 s.j7.length c) (fun s hs=>?_) ?_
 ·rw[hs];simp[q1]
 refine iP _ ?_;refine iP (dI n) ?_ (hd:=by rw[<-hx];with_unfolding_all rfl);refine iP (.ptr i (n*2)) ?_ (hd:=by simp;omega);refine iR (.agg (j5 s.j7[n])) (fun s hs=>?_) ?_
 ·rw[hs];simp[z1,z2,z3]
 refine iW (fun _=>True) (BD s.j7[n] hR hs) (fun d S1 hr=>⟨trivial,?_⟩) (fun d S1 hr=>by cases hr.1);obtain⟨hd,hr⟩:=hr;cases hd;refine iP (.bool false) ?_;refine iN ?_;refine gz ?_ o107;exact fin1 (U':=S1) ⟨rfl,hr⟩
end
section
variable {ir:Nat}{p:aw}{R:Nat->RW}{s:GoS}{O:Sig}
theorem UK(x:jI)(r:List jH)(v:jH)(hR:jU ir p R s O)(hs:s.jA=r++[v])(hn:s.jA.length<=1000000):ar prog 117 [.ptr ir 0,.agg (cIns x)] O fun y U'=>y=.ret (.bool false) /\ ∃R',jU ir p R' { s with jA:=r,pos:=if Ah v=0 then x.a else s.pos } U'/\jV ir R O R' U':=by
 refine en func117 ntmps117 ?_;refine gz ?_;refine A3 (CJ r v hR hs hn) (fun d S1 hr=>?_);obtain⟨hd,R1,b6,b7⟩:=hr;cases hd;have q1:=b6.obj
 by_cases h:Ah v=0
 ·rw[aG h];refine gf (gi q1 h) ?_;obtain⟨p1,p2⟩:=b6.at x.a rfl;exact fin1 (U':=_) ⟨rfl,_,p1,b7.trans p2⟩
 ·rw[aE h];refine gf (gi q1 h) ?_;exact fin1 (U':=S1) ⟨rfl,_,b6,b7⟩
theorem UG(x:jI)(r:List jH)(v:jH)(hR:jU ir p R s O)(hs:s.jA=r++[v])(hn:s.jA.length<=1000000):ar prog 121 [.ptr ir 0,.agg (cIns x)] O fun y U'=>y=.ret (.bool true) /\ ∃R',l8 ir p R' { s with jA:=r } .aj false ⟨1,v,0,[],0,0,[],[],s.j3,s.jW⟩ U'/\jV ir R O R' U':=by
 refine en func121 ntmps121 ?_;refine gz ?_;refine A3 (CJ r v hR hs hn) (fun d S1 hr=>?_);obtain⟨hd,R1,b6,b7⟩:=hr;cases hd;have q1:=b6.obj;obtain⟨p1,p2⟩:=b6.halt (av:=.aj) (b:=false) (k:=⟨1,v,0,[],0,0,[],[],s.j3,s.jW⟩) rfl (Ak _ (.inl rfl)) rfl rfl ⟨rfl,rfl,rfl⟩;refine gf q1 ?_;exact fin1 (U':=_) ⟨rfl,_,p1,b7.trans p2⟩
theorem UN(x:jI)(r:List jH)(v:jH)(hR:jU ir p R s O)(hs:s.jA=r++[v])(hn:s.jA.length<=1000000)(he:s.j7.length<=1000000):ar prog 114 [.ptr ir 0,.agg (cIns x)] O fun y U'=>y=.ret (.bool false) /\ ∃R',jU ir p R' { s with jA:=r,j7:=s.j7++[v] } U'/\jV ir R O R' U':=by
 refine en func114 ntmps114 ?_;refine gz ?_ o114;refine A3 (CJ r v hR hs hn) (fun d S1 hr=>?_);obtain⟨hd,R1,b6,b7⟩:=hr;cases hd;have q1:=b6.obj;have q0:jN S1 2 (R1 1) (s.j7.map j5):=b6.rows.ok 1;have u1:=Dk q1 (b6.ni 1);refine gz ?_;refine CH (id:=2) (List.range 12) [8] (S1.out (R1 1).is) (CC _ _) ?_;refine gf u1 ?_ o114;refine Dl (es:=s.j7.map j5) (fun i c cs S2 d5 d6=>?_) (fun j o h=>C2 h) (hm:=q0);obtain⟨v1,v2⟩:=d6 _ _ q1 (b6.ni 1);refine gf v1 ?_ o114;rw[show s.j7.map j5++[j5 v]=(s.j7++[v]).map j5 by simp]at d5;obtain⟨p1,p2⟩:=b6.put (a:=1) (s':={ s with jA:=r,j7:=s.j7++[v] }) d5 d6 (W5 R1 _ { s with jA:=r } _) rfl;refine fin1 (U':=_) ⟨rfl,_,p1,b7.trans p2⟩ (hZ:=?_);simp[AY,A7];exact Sub.refl _
theorem UM(x:jI)(r:List jH)(v:jH)(hR:jU ir p R s O)(hs:s.j7=r++[v])(hn:s.j7.length<=1000000):ar prog 115 [.ptr ir 0,.agg (cIns x)] O fun y U'=>y=.ret (.bool false) /\ ∃R',jU ir p R' { s with j7:=r } U'/\jV ir R O R' U':=by
 have q1:=hR.obj;obtain⟨i,c,cs,h0⟩:=hR.row 1 (by rw[rCt,hs];simp);have q0:jN O 2 (R 1) (s.j7.map j5):=hR.rows.ok 1;rw[h0,hs]at q0;have hl:s.j7.length=r.length+1:=by rw[hs];simp
 unfold AY at q1;rw[h0,hl]at q1;simp only[Cz]at q1;obtain⟨z1,z2,z3,z4⟩:=q0;have hr:jN O 2 (.row i c (j5 v++cs)) (r.map j5):=⟨by rw[z1];simp,by rw[<-aO];simpa using z2,by simp only[aN,aC,aT]at z3⊢; omega,Az⟩;simp only[aN,aC,aT]at z3;refine en func115 ntmps115 ?_;refine gz ?_;refine CH (id:=1) (List.range 17) [] O (Sub.refl _) ?_;refine gf q1 ?_ o115;refine Om jB (i:=i) (off:=0) (len:=r.length+1) (cap:=c) (hi:=r.length) (e:=40) (k:=.i64) ?_ (by decide) (by simp<;>rfl) j1 tdR tdR j0;refine gf q1 ?_ o115;obtain⟨p1,p2⟩:=hR.re (a:=1) (s':={ s with j7:=r }) hr (by rw[h0];exact fun j h=>h) (W5 R _ s _) rfl;exact fin1 (U':=_) ⟨rfl,_,p1,p2⟩
theorem Vt(n:Int):(if 1000000000<(if n < -1000000000 then -1000000000 else n) then(1000000000:Int) else if n < -1000000000 then -1000000000 else n)=CY n:=by
 unfold CY;rw[Int.min_def,Int.max_def];split<;>split<;>(repeat' split)<;>omega
theorem Y1(b:Bool):CY (Dc b)=Dc b:=by cases b<;>rfl
theorem Se{a b:Int}(ha : -1000000000<=a/\a<=1000000000)(hb : -1000000000<=b/\b<=1000000000): -1000000000000000000<=a*b/\a*b<=1000000000000000000:=by
 have h:=Int.natAbs_mul a b;have h2:a.natAbs*b.natAbs<=1000000000*1000000000:=Nat.mul_le_mul j0 j0;omega
theorem UO(x:jI)(r:List jH)(v w:jH)(hx:9<=x.op/\x.op<=13)(hR:jU ir p R s O)(hs:s.jA=r++[v,w])(hn:s.jA.length<=1000000)(hv : -1000000000<=Ah v/\Ah v<=1000000000)(hw : -1000000000<=Ah w/\Ah w<=1000000000):ar prog 113 [.ptr ir 0,.agg (cIns x)] O fun y U'=>y=.ret (.bool false) /\ ∃R',jU ir p R' { s with jA:=r++[Ec x.op v w] } U'/\jV ir R O R' U':=by
 refine en func113 ntmps113 ?_;refine gz ?_ o113;refine A3 (CJ (r++[v]) w hR (by rw[hs];simp) hn) (fun d S1 hr=>?_);obtain⟨hd,R1,b6,b7⟩:=hr;cases hd;have hl:s.jA.length=r.length+2:=by rw[hs];simp
 refine gz ?_ o113;refine A3 (CJ r v b6 rfl (by simp;omega)) (fun d S2 hr=>?_);obtain⟨hd,R2,eZ,fa⟩:=hr;cases hd;have fM:=Se hv hw;have fC:IntKind.i64.wrap (Ah v*Ah w)=Ah v*Ah w:=AA j0 j0
 repeat' first|refine gz ?_ o113|apply gy<;>intro hh
 rotate_left 4
 ·refine eqlS _ (decide (v=w)) Lj KZ (QX v w) ?_;refine gz ?_ o113;simp only[Vt,Y1];have e:Ec x.op v w=jZ (Dc (decide (v=w))):=by unfold Ec;rw[aE (by assumption),aE (by assumption),aE (by assumption),aE (by assumption)]
  rw[e];refine A3 (BD (jZ (Dc (decide (v=w)))) eZ (by simp;omega)) (fun d S3 hr=>?_);obtain⟨hd,R3,b9,c9⟩:=hr;cases hd;refine gz ?_ o113;exact fin1 (U':=S3) ⟨rfl,R3,b9,(b7.trans fa).trans c9⟩
 all_goals
  simp only[fC,Vt,Y1]
 ·have e:Ec x.op v w=jZ (CY (Ah v+Ah w)):=by unfold Ec;rw[aG (by assumption)]
  rw[e];refine A3 (BD (jZ (CY (Ah v+Ah w))) eZ (by simp;omega)) (fun d S3 hr=>?_);obtain⟨hd,R3,b9,c9⟩:=hr;cases hd;refine gz ?_ o113;exact fin1 (U':=S3) ⟨rfl,R3,b9,(b7.trans fa).trans c9⟩
 ·have e:Ec x.op v w=jZ (CY (Ah v-Ah w)):=by unfold Ec;rw[aE (by assumption),aG (by assumption)]
  rw[e];refine A3 (BD (jZ (CY (Ah v-Ah w))) eZ (by simp;omega)) (fun d S3 hr=>?_);obtain⟨hd,R3,b9,c9⟩:=hr;cases hd;refine gz ?_ o113;exact fin1 (U':=S3) ⟨rfl,R3,b9,(b7.trans fa).trans c9⟩
 ·have e:Ec x.op v w=jZ (CY (Ah v*Ah w)):=by unfold Ec;rw[aE (by assumption),aE (by assumption),aG (by assumption)]
  rw[e];refine A3 (BD (jZ (CY (Ah v*Ah w))) eZ (by simp;omega)) (fun d S3 hr=>?_);obtain⟨hd,R3,b9,c9⟩:=hr;cases hd;refine gz ?_ o113;exact fin1 (U':=S3) ⟨rfl,R3,b9,(b7.trans fa).trans c9⟩
 ·have e:Ec x.op v w=jZ (Dc (decide (Ah v<Ah w))):=by unfold Ec;rw[aE (by assumption),aE (by assumption),aE (by assumption),aG (by assumption)]
  rw[e];refine A3 (BD (jZ (Dc (decide (Ah v<Ah w)))) eZ (by simp;omega)) (fun d S3 hr=>?_);obtain⟨hd,R3,b9,c9⟩:=hr;cases hd;refine gz ?_ o113;exact fin1 (U':=S3) ⟨rfl,R3,b9,(b7.trans fa).trans c9⟩
end
def frV(l:List jv)(s:Int):jH:=match l.find? (fun i=>decide (i.slot=s))with
 |some i=>jZ i.n
 |none=>DS
def A0(p:aw):jY:=⟨fun c=>jT p c&&okP p,hasP p,fun c=>(hasP p c).map (frV (D9 p c))⟩
def A4(S:Nat->RW)(l:List jF):(jC S l).length=l.length:=by unfold jC;simp
def B4(S:Nat->RW)(l:List jF)(k:Nat)(h:k<l.length):(jC S l)[k]? = some [dI (l[k]).jM,(S k).d (l[k]).ac.length]:=by
 unfold jC;rw[List.getElem?_mapIdx,aD h];rfl
def BJ{S:Nat->RW}{l:List jF}: ∀c∈jC S l,c.length=2:=fun c h=>by
 obtain⟨k,hk⟩:=List.getElem?_of_mem h;have hl:=(aV.1 hk).1;rw[A4]at hl;rw[B4 S l k hl]at hk;cases hk;rfl
def IR{es:eR}(h2:∀c∈es,c.length=2){k:Nat}{a b:D}(hk:es[k]? = some [a,b])(cs:eO):(es.flatten++cs)[k*2]? = some a/\(es.flatten++cs)[k*2+1]? = some b:=by
 have hl:=(aV.1 hk).1
 have e:es=es.take k++[a,b]::es.drop (k+1):=by
  have:=(aV.1 hk).2;rw[<-this,<-A6 hl,cf]
 have hf:(es.take k).flatten.length=k*2:=by rw[Aj fun c hc=>h2 c (List.mem_of_mem_take hc),List.length_take_of_le j0]
 rw[e,bt,br];simp only[aO];constructor
 ·rw[bK j0,hf,dB];rfl
 ·rw[bK j0,hf,show k*2+1-k*2=1 by omega];rfl
section
variable {ir:Nat}{p:aw}{R:Nat->RW}{s:GoS}{O:Sig}{v:jH}
theorem Nn(v:jH)(x:Int)(hp:p.wt<=1073741824)(hR:jU ir p R s O)(hv:okV s.j3.length v=true)(ho:AI (A0 p) s.j3=true):
  ar prog 180 [.ptr ir 0,.agg (j5 v),dI x] O fun y U'=>U'=O/\((Ap (A0 p) s.j3 v x<0/\y=.ret .aq)\/(0<=Ap (A0 p) s.j3 v x/\v.kind=3 /\ ∃i c cs,R (v.n.toNat+4)=.row i c cs/\y=.ret (.ptr i ((Ap (A0 p) s.j3 v x).toNat*2)))):=by
 have q1:=hR.obj
 by_cases h3:v.kind=3
 rotate_left
 ·have hn:Ap (A0 p) s.j3 v x<0:=by unfold Ap;rw[aE h3];omega
  refine en func180 ntmps180 ?_;refine gf h3 ?_ o180;exact fin1 (U':=O) ⟨rfl,.inl ⟨hn,rfl⟩⟩
 obtain⟨w1,w2,w3⟩:=Dz ho hv h3;obtain⟨u1,u2,u3⟩:=(AE.1 ho).2 _ w1;obtain⟨n,hn⟩:∃n:Nat,v.n=n:=⟨v.n.toNat,j0⟩;have b8:n<s.j3.length:=by omega
 have eU:BG s.j3 v.n=s.j3[n]:=by unfold BG;rw[hn,bF,aD b8];rfl
 rw[eU]at u1 u2 u3;have fb:Ap (A0 p) s.j3 v x=jj x (hasP p (s.j3[n]).jM) 0:=by unfold Ap;rw[aG h3,eU];rfl
 rw[fb];obtain⟨i,c,cs,h0⟩:=hR.row 3 (fun e=>by rw[rCt]at e;have:=bn List.length e;rw[A4]at this;simp at this;rw[this]at b8;simp at b8);have q0:=hR.rows.ok 3;rw[h0]at q0;obtain⟨z1,z2,z3,z4⟩:=q0;obtain⟨y1,y2⟩:=IR (BJ (S:=fun k=>R (k+4)) (l:=s.j3)) (B4 _ _ n b8) cs;rw[show rCt R s 3=jC (fun k=>R (k+4)) s.j3 from rfl]at z1;generalize (jC (fun k=>R (k+4)) s.j3).flatten++cs=L at*;unfold AY at q1;rw[h0]at q1;simp only[Cz]at q1;have eW:(jT p (s.j3[n]).jM&&okP p)=true:=u1;have fO:(hasP p (s.j3[n]).jM).length<=1073741824:=by have a:=Ce p (s.j3[n]).jM;have b:=Db p;omega
 have fc:(s.j3[n]).ac.length=(hasP p (s.j3[n]).jM).length:=u2
 by_cases fh:jj x (hasP p (s.j3[n]).jM) 0<0
 ·refine en func180 ntmps180 ?_;refine gf (gi q1 (gi z1 (gi hn (gi y1 (gi y2 eW))))) ?_ o180;exact fin1 (U':=O) ⟨rfl,.inl ⟨fh,rfl⟩⟩
 ·obtain⟨m1,m2⟩:=Fs (s:=x) (hasP p (s.j3[n]).jM) 0 j0;obtain⟨k,hk⟩:∃k:Nat,jj x (hasP p (s.j3[n]).jM) 0=k:=⟨(jj x (hasP p (s.j3[n]).jM) 0).toNat,j0⟩;have d7:rCt R s (n+4)=(s.j3[n]).ac.map j5:=by show(((s.j3[n]?).getD ⟨0,[]⟩).ac.map j5)=_;rw[aD b8];rfl
  obtain⟨j,cj,csj,hj⟩:=hR.row (n+4) (fun e=>by rw[d7]at e;have:=bn List.length e;simp at this;rw[this]at fc;simp at fc;omega);rw[hj]at y2;simp only[Cz]at y2;rw[hk]at m2;refine en func180 ntmps180 ?_;refine gf (gi q1 (gi z1 (gi hn (gi y1 (gi y2 (gi eW hk)))))) ?_ o180;refine fin1 (U':=O) ⟨rfl,.inr ⟨j0,h3,j,cj,csj,by rw[hn];exact hj,?_⟩⟩;rw[hk];rfl
theorem RK(hR:jU ir p R s O)(hv:okV s.j3.length v=true)(ho:AI (A0 p) s.j3=true){x:Int}(h0:0<=Ap (A0 p) s.j3 v x)(h3:v.kind=3){i c:Nat}{cs:eO}(hi:R (v.n.toNat+4)=.row i c cs):
  ∃n k:Nat,v.n=n/\Ap (A0 p) s.j3 v x=k /\ ∃(hn:n<s.j3.length) (hk:k<(s.j3[n]).ac.length),BG s.j3 v.n=s.j3[n] /\ ∃L,L=((s.j3[n]).ac.map j5).flatten++cs/\O i=some (.cells L)/\k*2+2<=L.length/\List.take 2 (List.drop (k*2) L)=j5 ((s.j3[n]).ac[k]):=by
 obtain⟨w1,w2,w3⟩:=Dz ho hv h3;obtain⟨u1,u2,u3⟩:=(AE.1 ho).2 _ w1;obtain⟨n,hn⟩:∃n:Nat,v.n=n:=⟨v.n.toNat,j0⟩;have b8:n<s.j3.length:=by omega
 have eU:BG s.j3 v.n=s.j3[n]:=by unfold BG;rw[hn,bF,aD b8];rfl
 rw[eU]at u1 u2 u3;have fb:Ap (A0 p) s.j3 v x=jj x (hasP p (s.j3[n]).jM) 0:=by unfold Ap;rw[aG h3,eU];rfl
 have fc:(s.j3[n]).ac.length=(hasP p (s.j3[n]).jM).length:=u2;obtain⟨m1,m2⟩:=Fs (s:=x) (hasP p (s.j3[n]).jM) 0 j0;obtain⟨k,hk⟩:∃k:Nat,jj x (hasP p (s.j3[n]).jM) 0=k:=⟨(jj x (hasP p (s.j3[n]).jM) 0).toNat,j0⟩;rw[hk]at m2 fb;have d8:k<(s.j3[n]).ac.length:=by omega
 have d7:rCt R s (n+4)=(s.j3[n]).ac.map j5:=by show(((s.j3[n]?).getD ⟨0,[]⟩).ac.map j5)=_;rw[aD b8];rfl
 have q:=hR.rows.ok (n+4);rw[show n=v.n.toNat by omega,hi]at q;have z:=q.1;rw[show v.n.toNat=n by omega,d7]at z;refine⟨n,k,hn,fb,b8,d8,eU,_,rfl,z,by rw[Dr];omega,?_⟩;have e:(s.j3[n]).ac=(s.j3[n]).ac.take k++(s.j3[n]).ac[k]::(s.j3[n]).ac.drop (k+1):=by rw[<-A6 d8,cf]
 have hv:=Hb ((s.j3[n]).ac.take k) (s.j3[n]).ac[k] ((s.j3[n]).ac.drop (k+1)) cs;rw[<-e,List.length_take_of_le j0]at hv;exact hv
theorem US(x:jI)(r:List jH)(v:jH)(hp:p.wt<=1073741824)(hR:jU ir p R s O)(hs:s.jA=r++[v])(hn:s.jA.length<=1000000)(hv:okV s.j3.length v=true)(ho:AI (A0 p) s.j3=true):ar prog 109 [.ptr ir 0,.agg (cIns x)] O fun y U'=> ∃R',jV ir R O R' U' /\
  if Ap (A0 p) s.j3 v x.a<0 then y=.ret (.bool true)/\l8 ir p R' { s with jA:=r } .aj false (Dv s 5 r) U' else y=.ret (.bool false)/\jU ir p R' { s with jA:=r++[((BG s.j3 v.n).ac[(Ap (A0 p) s.j3 v x.a).toNat]?).getD vZ] } U':=by
 have hl:s.jA.length=r.length+1:=by rw[hs];simp
 refine en func109 ntmps109 ?_;refine gz ?_;refine FK (id:=1) [0,1,3,4,2,5,6] [2,5] (fun _=>none) (fun _ _ h=>by cases h) ?_;refine gz ?_ o109;refine AX (CJ r v hR hs hn) (fun d S1 hr=>?_) (fun d S1 hr=>by cases hr.1);obtain⟨hd,R1,b6,b7⟩:=hr;cases hd;refine⟨(fun _ _ h=>by cases h),?_⟩;refine AX (Nn v x.a hp b6 hv ho) (fun d S2 hr=>?_) (fun d S2 hr=>by rcases hr.2 with⟨_,h⟩|⟨_,_,_,_,_,_,h⟩<;>cases h);obtain⟨rfl,hr⟩:=hr;refine⟨(fun _ _ h=>by cases h),?_⟩;rcases hr with⟨h0,hd⟩|⟨h0,h3,i,c,cs,hi,hd⟩
 ·cases hd;refine gz ?_ o109;refine A3 (HJ 5 r b6) (fun d S3 hr=>?_);obtain⟨hd,h1,h2⟩:=hr;cases hd;refine gz ?_ o109;exact fin1 (U':=S3) ⟨R1,b7.trans h2,by rw[aG h0];exact⟨rfl,h1⟩⟩
 ·obtain⟨n,k,e1,e2,b8,d8,e3,L,hL,z1,z2,z3⟩:=RK b6 hv ho h0 h3 hi;have e4:Ap (A0 p) s.j3 v x.a=k:=e2;obtain rfl:d=.ptr i (k*2):=by cases hd;show D.ptr i ((Ap (A0 p) s.j3 v x.a).toNat*2)=_;rw[e4];rfl
  have e5:((BG s.j3 v.n).ac[(Ap (A0 p) s.j3 v x.a).toNat]?).getD vZ=(s.j3[n]'b8).ac[k]'d8:=by
   rw[e4,show BG s.j3 v.n=s.j3[n]'b8 from e3,bF,aD d8];rfl
  refine gf (gi z1 (gi z2 z3)) ?_ o109;refine A3 (BD ((s.j3[n]'b8).ac[k]'d8) b6 (by simp;omega)) (fun d S3 hr=>?_);obtain⟨hd,R3,b9,c9⟩:=hr;cases hd;refine gz ?_ o109;exact fin1 (U':=S3) ⟨R3,b7.trans c9,by rw[aE j0,e5];exact⟨rfl,b9⟩⟩
end
def LG(l:List jH)(k:Nat)(hk:k<l.length)(v:jH)(cs:eO):List.take (k*2) ((l.map j5).flatten++cs)++j5 v++List.drop (k*2+2) ((l.map j5).flatten++cs)=((l.set k v).map j5).flatten++cs:=by
 have e:l=l.take k++l[k]::l.drop (k+1):=by rw[<-A6 hk,cf]
 have h:((l.take k).map j5).flatten.length=k*2:=by rw[Aj Az];simp;omega
 have hs:l.set k v=l.take k++v::l.drop (k+1):=by rw[bL,aG hk]
 have e2:(l.map j5).flatten++cs=((l.take k).map j5).flatten++(j5 l[k]++(((l.drop (k+1)).map j5).flatten++cs)):=by
  calc _=((l.take k++l[k]::l.drop (k+1)).map j5).flatten++cs:=by rw[<-e]
   _=_:=by rw[bz,bd,bt,br];simp only[aO]
 have e3:((l.set k v).map j5).flatten++cs=((l.take k).map j5).flatten++(j5 v++(((l.drop (k+1)).map j5).flatten++cs)):=by
  rw[hs,bz,bd,bt,br];simp only[aO]
 rw[e2,e3,<-h,List.take_left,<-List.drop_drop,List.drop_left,aO];rfl
section
variable {ir:Nat}{p:aw}{R:Nat->RW}{s:GoS}{O:Sig}
theorem KA(S:Nat->RW)(l:List jF)(n:Nat)(hn:n<l.length)(x:jF)(hc:x.jM=(l[n]).jM)(hl:x.ac.length=(l[n]).ac.length):jC S (l.set n x)=jC S l:=by
 refine cD fun k=>?_
 by_cases hk:k<l.length
 ·rw[B4 S (l.set n x) k (by simpa using hk),B4 S l k hk]
  by_cases e:k=n
  ·subst e;rw[List.getElem_set_self,hc,hl]
  ·rw[List.getElem_set_ne (fun h=>e h.symm)]
 ·rw[aX (by rw[A4];simp;omega),aX (by rw[A4];omega)]
theorem jU.slot(h:jU ir p R s O){n k:Nat}(hn:n<s.j3.length)(hk:k<(s.j3[n]).ac.length){i c:Nat}{cs:eO}(hi:R (n+4)=.row i c cs)(v:jH){L:eO}(hL:L=((s.j3[n]).ac.map j5).flatten++cs):
  jU ir p R { s with j3:=s.j3.set n ⟨(s.j3[n]).jM,(s.j3[n]).ac.set k v⟩ } (O.set i (.cells (L.take (k*2)++j5 v++L.drop (k*2+2))))/\jV ir R O R (O.set i (.cells (L.take (k*2)++j5 v++L.drop (k*2+2)))):=by
 subst hL;rw[LG _ k hk v cs];have fk:(R (n+4)).is i:=by rw[hi];rfl
 have eV:ir≠i:=fun e=>h.ni (n+4) (e ▸ fk);have d7:rCt R s (n+4)=(s.j3[n]).ac.map j5:=by show(((s.j3[n]?).getD ⟨0,[]⟩).ac.map j5)=_;rw[aD hn];rfl
 have q:=h.rows.ok (n+4);rw[hi,d7]at q;obtain⟨z1,z2,z3,z4⟩:=q;refine⟨⟨?_,⟨fun a=>?_,h.rows.dj⟩,h.ni,h.nf⟩,fun j o hj _ fp=>⟨by rw[w7 _ _ fun e=>fp (n+4) (by rw[e];exact fk)];exact hj,fp⟩⟩
 ·rw[w7 _ _ eV,h.obj];simp[AY]
 ·by_cases ea:a=n+4
  ·subst ea
   have e:rCt R { s with j3:=s.j3.set n ⟨(s.j3[n]).jM,(s.j3[n]).ac.set k v⟩ } (n+4)=((s.j3[n]).ac.set k v).map j5:=by
    show((((s.j3.set n _)[n]?).getD ⟨0,[]⟩).ac.map j5)=_;rw[List.getElem?_set_self hn];rfl
   rw[hi,e];refine⟨by rw[w6],?_,by simpa using z3,Az⟩;have a1:=Dr (s.j3[n]).ac cs;have a2:=Dr ((s.j3[n]).ac.set k v) cs;rw[bP]at a2;exact le_of_le_of_eq z2 (a1.trans a2.symm)
  ·have e:rCt R { s with j3:=s.j3.set n ⟨(s.j3[n]).jM,(s.j3[n]).ac.set k v⟩ } a=rCt R s a:=by
    match a with
    |0=>rfl
    |1=>rfl
    |2=>rfl
    |3=>exact KA _ _ n hn _ rfl j1
    |m+4=>
     show((((s.j3.set n _)[m]?).getD ⟨0,[]⟩).ac.map j5)=((((s.j3)[m]?).getD ⟨0,[]⟩).ac.map j5);rw[List.getElem?_set_ne j0]
   rw[e];exact(h.rows.ok a).keep fun j o hj fE=>by rw[w7 _ _ fun e2=>ea (h.rows.dj a (n+4) j fE (by rw[e2];exact fk))];exact hj
theorem UP(x:jI)(r:List jH)(w v:jH)(hp:p.wt<=1073741824)(hR:jU ir p R s O)(hs:s.jA=r++[w,v])(hn:s.jA.length<=1000000)(hv:okV s.j3.length w=true)(ho:AI (A0 p) s.j3=true):ar prog 112 [.ptr ir 0,.agg (cIns x)] O fun y U'=> ∃R',jV ir R O R' U' /\
  if Ap (A0 p) s.j3 w x.a<0 then y=.ret (.bool true)/\l8 ir p R' { s with jA:=r } .aj false (Dv s 5 (r++[w])) U' else
   y=.ret (.bool false)/\jU ir p R' { s with j3:=setObj s.j3 w.n ⟨(BG s.j3 w.n).jM,(BG s.j3 w.n).ac.set (Ap (A0 p) s.j3 w x.a).toNat v⟩,jA:=r++[v] } U':=by
 have hl:s.jA.length=r.length+2:=by rw[hs];simp
 refine en func112 ntmps112 ?_;refine gz ?_ o112;refine A3 (CJ (r++[w]) v hR (by rw[hs];simp) hn) (fun d S0 hr=>?_);obtain⟨hd,R0,fK,fv⟩:=hr;cases hd;refine gz ?_;refine FK (id:=2) [0,1,3,4,2,5,6] [2,5] (fun _=>none) (fun _ _ h=>by cases h) ?_;refine gz ?_ o112;refine AX (CJ r w fK rfl (by simp;omega)) (fun d S1 hr=>?_) (fun d S1 hr=>by cases hr.1);obtain⟨hd,R1,b6,b7⟩:=hr;cases hd;refine⟨(fun _ _ h=>by cases h),?_⟩;refine AX (Nn w x.a hp b6 hv ho) (fun d S2 hr=>?_) (fun d S2 hr=>by rcases hr.2 with⟨_,h⟩|⟨_,_,_,_,_,_,h⟩<;>cases h);obtain⟨rfl,hr⟩:=hr;refine⟨(fun _ _ h=>by cases h),?_⟩;rcases hr with⟨h0,hd⟩|⟨h0,h3,i,c,cs,hi,hd⟩
 ·cases hd;refine gz ?_ o112;refine A3 (HJ 5 (r++[w]) b6) (fun d S3 hr=>?_);obtain⟨hd,h1,h2⟩:=hr;cases hd;refine gz ?_ o112;exact fin1 (U':=S3) ⟨R1,(fv.trans b7).trans h2,by rw[aG h0];exact⟨rfl,h1⟩⟩
 ·obtain⟨n,k,e1,e2,b8,d8,e3,L,hL,z1,z2,z3⟩:=RK b6 hv ho h0 h3 hi;have e4:Ap (A0 p) s.j3 w x.a=k:=e2;obtain rfl:d=.ptr i (k*2):=by cases hd;show D.ptr i ((Ap (A0 p) s.j3 w x.a).toNat*2)=_;rw[e4];rfl
  have fF:R1 (n+4)=.row i c cs:=by rw[<-hi,e1];rfl
  obtain⟨p1,p2⟩:=b6.slot b8 d8 fF v hL;have hf:¬L.length<k*2+2:=by omega
  rw[aO]at p1 p2
  have e5:setObj s.j3 w.n ⟨(BG s.j3 w.n).jM,(BG s.j3 w.n).ac.set (Ap (A0 p) s.j3 w x.a).toNat v⟩=s.j3.set n ⟨(s.j3[n]'b8).jM,(s.j3[n]'b8).ac.set k v⟩:=by
   unfold setObj;rw[e4,show BG s.j3 w.n=s.j3[n]'b8 from e3,e1];rfl
  refine gf (gi z1 hf) ?_ o112;refine A3 (BD v p1 (by simp;omega)) (fun d S3 hr=>?_);obtain⟨hd,R3,b9,c9⟩:=hr;cases hd;refine gz ?_ o112;exact fin1 (U':=S3) ⟨R3,((fv.trans b7).trans p2).trans c9,by rw[aE j0,e5];exact⟨rfl,b9⟩⟩
theorem UQ(x:jI)(r:List jH)(v:jH)(hR:jU ir p R s O)(hs:s.jA=r++[v])(hn:s.jA.length<=1000000)(he:s.jW.length<=1000000):ar prog 111 [.ptr ir 0,.agg (cIns x)] O fun y U'=>y=.ret (.bool false) /\ ∃R',jU ir p R' { s with jW:=s.jW++[⟨2,0,[v]⟩],jA:=r++[v] } U'/\jV ir R O R' U':=by
 have hl:s.jA.length=r.length+1:=by rw[hs];simp
 refine en func111 ntmps111 ?_;refine gz ?_ o111;refine A3 (CJ r v hR hs hn) (fun d S1 hr=>?_);obtain⟨hd,R1,b6,b7⟩:=hr;cases hd;have q1:=b6.obj;have q0:jN S1 3 (R1 2) (s.jW.map cEv):=b6.rows.ok 2;have u1:=Dk q1 (b6.ni 2);refine gz ?_;refine CH (id:=2) (List.range 14) [10] (S1.out (R1 2).is) (CC _ _) ?_;refine gf u1 ?_ o111;refine Dl (es:=s.jW.map cEv) (fun i c cs S2 d5 d6=>?_) (fun j o h=>C2 h) (hm:=q0);obtain⟨v1,v2⟩:=d6 _ _ q1 (b6.ni 2);refine gf v1 ?_ o111;rw[show s.jW.map cEv++[[D.int .i64 2,D.int .i64 0,.slice [j5 v] .clip]]=(s.jW++[(⟨2,0,[v]⟩:MEv)]).map cEv by simp[cEv]]at d5;obtain⟨p1,p2⟩:=b6.put (a:=2) (s':={ s with jA:=r,jW:=s.jW++[⟨2,0,[v]⟩] }) d5 d6 (rCt_2 R1 _ { s with jA:=r } _) rfl;refine drp (S2.set ir (.cells (AY p (jK R1 2 (.row i c cs)) { s with jA:=r,jW:=s.jW++[⟨2,0,[v]⟩] }))) ?_ (by simp[AY,A7];exact Sub.refl _);refine A3 (BD v p1 (by simp;omega)) (fun d S3 hr=>?_);obtain⟨hd,R3,b9,c9⟩:=hr;cases hd;refine gz ?_ o111;exact fin1 (U':=S3) ⟨rfl,R3,b9,(b7.trans p2).trans c9⟩
end
end Go.DL
