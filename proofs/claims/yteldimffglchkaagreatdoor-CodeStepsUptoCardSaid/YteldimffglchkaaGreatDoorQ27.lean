/- A part of the proof. -/
import Derived.Test.YteldimffglchkaaGreatDoorQ26
set_option linter.all false
namespace Go.DL
open Go.Proofs.Tryz
open Go Go.Proofs
set_option maxHeartbeats 80000000
section
variable {P:Program}{ro:Ro}{n:Nat}{ops:Array Oper}{N:Nat}{S0:Sig}{Q:DX->St->Prop}{df:List DDf}{γ Sr:List (Nat×D)}{O:Sig}{t:Nat}{ty:TypeId}{pos:String}{after:Array Edge}{l:List (Bool×Oper)}{e:Bool}
theorem mo_neqG{tab:Nat->Ty}(ht:AZ P tab){T u:Nat}{x y:Operand}{xs ys:eO}{gd:Option (Nat×Bool)}(fs:List (Nat×Nat))(r:Bool)(hE:EqTy P T)(hk:(tab T).k=.struct fs)(hd:eqFs tab xs ys fs=some r)
  (h:MO P ro n ops N S0 Q df l ((t,.bool (!r))::γ) O) (hw:AJ ops γ ⟨some t,.binOp .neq T x y u,ty,pos,after,gd⟩=some true) (f7:decide (t<n)=true) (hl:A5 γ (Aa [x,y])=some Sr) (hx:ev Sr x=.agg xs) (hy:ev Sr y=.agg ys):MO P ro n ops N S0 Q df ((e,⟨some t,.binOp .neq T x y u,ty,pos,after,gd⟩)::l) γ O:=by
 have hc:∀z∈[x,y],ev Sr z=ev γ z:=fun z hz=>Bs fun t ht=>AB hl t (AL (by rw[<-ht];exact hz))
 have gF:∀z∈[x,y],ev (only (Oper.looksAt ops ⟨some t,.binOp .neq T x y u,ty,pos,after,gd⟩) γ) z=ev γ z:=fun z hz=>Bf (o:=⟨some t,.binOp .neq T x y u,ty,pos,after,gd⟩) (by simp at hz;rcases hz with rfl|rfl<;>simp[Op.operands])
 refine .inl ⟨.bool (!r),⟨f7,.inl ⟨by rw[Ar];exact hw,(fun c e=>by cases e),Ag (fun c e=>by cases e),fun U' hZ g w a hs hT=>?_⟩⟩,h⟩;have:=HO (dst:=some t) (ty:=ty) (pos:=pos) (after:=after) (guard:=gd) (u:=u) ht hs hT hE hk (by rw[gF x j1,<-hc x j1];exact hx) (by rw[gF y j1,<-hc y j1];exact hy) hd true;simpa using this
end
def cWay(r1 r2 N:Nat):D:=.ak [.am r1 0 N N,.am r2 0 N N] 0
structure km(r1 r2 N:Nat)(mb:List Bool)(lv:List jO)(O:Sig):Prop where
 o1:O r1=some (.cells (mb.map D.bool))
 o2:O r2=some (.cells (lv.map jm).flatten)
 l1:mb.length=N
 l2:lv.length=N
 ne:r1≠r2
def LX(lv:List jO)(n:Nat)(h:n<lv.length):List.take 2 (List.drop (n*2) (lv.map jm).flatten)=jm lv[n]:=by
 have hx:lv=lv.take n++lv[n]::lv.drop (n+1):=by simp
 have hA:((lv.take n).map jm).flatten.length=n*2:=by rw[Aj (sz:=2) (fun e he=>by obtain⟨x,_,rfl⟩:=aZ.1 he;rfl)];simp;omega
 have h0:lv.map jm=(lv.take n).map jm++jm lv[n]::(lv.drop (n+1)).map jm:=by rw[<-bd,<-bz,<-hx]
 rw[h0,bt,br,<-hA,List.drop_left];rfl
def lev_set(lv:List jO)(n:Nat)(l:jO)(h:n<lv.length):((lv.set n l).map jm).flatten=List.take (n*2) (lv.map jm).flatten++(jm l++List.drop (n*2+2) (lv.map jm).flatten):=by
 have hx:lv=lv.take n++lv[n]::lv.drop (n+1):=by simp
 have hA:((lv.take n).map jm).flatten.length=n*2:=by rw[Aj (sz:=2) (fun e he=>by obtain⟨x,_,rfl⟩:=aZ.1 he;rfl)];simp;omega
 have h0:lv.map jm=(lv.take n).map jm++jm lv[n]::(lv.drop (n+1)).map jm:=by rw[<-bd,<-bz,<-hx]
 have h1:(lv.set n l).map jm=(lv.take n).map jm++jm l::(lv.drop (n+1)).map jm:=by rw[bL,aG h,bz,bd]
 rw[h0,h1,bt,br,bt,br,<-hA,List.take_left,List.drop_append];simp
def UE(r1 r2 N:Nat)(mb:List Bool)(lv:List jO)(n:Int)(l:jO)(O:Sig)(hN:N<=300)(hW:km r1 r2 N mb lv O):ar prog 124 [cWay r1 r2 N,dI n,.agg (jm l)] O fun x U'=>
  if n<0\/(N:Int)<=n\/(mb.getD n.toNat false=true/\lv.getD n.toNat ⟨0,0⟩≠l) then x=.ret (.bool false)/\U'=O else x=.ret (.bool true)/\km r1 r2 N (mb.set n.toNat true) (lv.set n.toNat l) U' /\ ∀j o,O j=some o->j≠r1->j≠r2->U' j=some o:=by
 obtain⟨o1,o2,l1,l2,hne⟩:=hW;obtain⟨st,em⟩:=l;refine en func124 ntmps124 ?_
 by_cases h1:n<0
 ·refine gz ?_ o124;exact fin1 (U':=O) (by rw[aG (.inl h1)];exact⟨rfl,rfl⟩)
 by_cases h2:(N:Int)<=n
 ·refine gz ?_ o124;exact fin1 (U':=O) (by rw[aG (.inr (.inl h2))];exact⟨rfl,rfl⟩)
 obtain⟨k,rfl⟩:∃k:Nat,n=(k:Int):=⟨n.toNat,j0⟩;have gj:k<mb.length:=by omega
 have fI:k<lv.length:=by omega
 have iG:k<N:=by omega
 have fb:=LX lv k fI;have eU:((lv.map jm).flatten).length=N*2:=by rw[Aj (sz:=2) (fun e he=>by obtain⟨x,_,rfl⟩:=aZ.1 he;rfl)];simp;omega
 generalize hF:(lv.map jm).flatten=F at o2 fb eU;have fy:k*2+2<=F.length:=by omega
 have fK:mb.getD ((k:Int)).toNat false=mb[k]:=by rw[show((k:Int)).toNat=k by omega,aQ,aD gj];rfl
 have fL:lv.getD ((k:Int)).toNat ⟨0,0⟩=lv[k]:=by rw[show((k:Int)).toNat=k by omega,aQ,aD fI];rfl
 have fO:∀U',U'=(O.set r1 (.cells ((mb.map D.bool).set k (.bool true)))).set r2 (.cells (List.take (k*2) F++dI st::dI em::List.drop (k*2+2) F))->km r1 r2 N (mb.set ((k:Int)).toNat true) (lv.set ((k:Int)).toNat ⟨st,em⟩) U' /\ ∀j o,O j=some o->j≠r1->j≠r2->U' j=some o:=fun U' hs=>by
  subst hs;rw[show((k:Int)).toNat=k by omega];refine⟨⟨?_,?_,by simpa using l1,by simpa using l2,hne⟩,fun j o h e1 e2=>by rw[w7 _ _ e2,w7 _ _ e1];exact h⟩
  ·rw[w7 _ _ hne,w6,dX]
  ·rw[w6,lev_set _ _ _ fI,hF];rfl
 cases hb:mb[k]with
 | false =>
  refine gf (gi o1 (gi o2 hb)) ?_ (ji 3 o124);refine CH (id:=3) (List.range 14) [12] (fun _=>none) (fun _ _ h=>by cases h) ?_;refine gz ?_ o124;refine EL (d:=.any) (U':=O.set r1 (.cells ((mb.set k true).map D.bool))) jB tdR ?_ (fun _ _ h=>by cases h) ?_
  ·simp[o1];exact⟨j0,by rw[bL,aG (by simpa using gj)]⟩
  have gh:=hne.symm;refine gf (gi o2 fy) ?_ o124;exact fin1 (U':=_) (by rw[aE (by rw[fK,hb];rintro(h|h|h);exact h1 h;exact h2 h;cases h.1)];exact⟨rfl,fO _ rfl⟩) (hZ:=Sub.refl _)
 | true =>
  refine gf (gi o1 (gi o2 (gi hb (gi fb eU)))) ?_ o124;refine mo_neqG (xs:=jm lv[k]) (ys:=jm ⟨st,em⟩) jB _ (decide (lv[k]=(⟨st,em⟩:jO))) PD Pl (Xn _ _) ?_ rfl rfl rfl rfl rfl
  by_cases he:lv[k]=(⟨st,em⟩:jO)
  ·refine gf he ?_ (ji 3 o124);refine CH (id:=3) (List.range 14) [12] (fun _=>none) (fun _ _ h=>by cases h) ?_;refine gz ?_ o124;refine EL (d:=.any) (U':=O.set r1 (.cells ((mb.set k true).map D.bool))) jB tdR ?_ (fun _ _ h=>by cases h) ?_
   ·simp[o1];exact⟨j0,by rw[bL,aG (by simpa using gj)]⟩
   have gh:=hne.symm;refine gf (gi o2 fy) ?_ o124;exact fin1 (U':=_) (by rw[aE (by rw[fK,fL,hb];rintro(h|h|h);exact h1 h;exact h2 h;exact h.2 he)];exact⟨rfl,fO _ rfl⟩) (hZ:=Sub.refl _)
  ·refine gf he ?_ o124;exact fin1 (U':=O) (by rw[aG (.inr (.inr (by rw[fK,fL];exact⟨hb,he⟩)))];exact⟨rfl,rfl⟩)
section
variable {P:Program}{ro:Ro}{n:Nat}{ops:Array Oper}{Q:DX->St->Prop}{df:List DDf}{rest:List Oper}{γ Sr:List (Nat×D)}{O:Sig}{ty:TypeId}{pos:String}{after:Array Edge}
theorem OF{fop:Operand}{args:Array Operand}{ats:Array TypeId}{f:Nat}{first cap us bs:eO}{R:DE->Sig->Prop}{dst:Option Tmp}{j:Nat}{want:Bool}{k:Nat}(h:ar P f bs O R)(gb:∀d U',R (.ret d) U'->au P ro n ops Q rest ⟨putD dst d γ,U',df⟩)(gg:∀d U',R (.panic d) U'->Q (.panic d) ⟨γ,U',df⟩)(hk:(ops[j]?).bind (·.dst)=some k:=by exact tdR)(hb:γ.lookup k=some (.bool want):=by exact tdR)(hl:A5 γ (Aa (fop::args.toList))=some Sr:=by exact tdR)(hf:ev Sr fop=.func (.func f) first cap:=by exact tdR)(ha:first++args.toList.map (ev Sr)++cap=us:=by exact td0)(hp:bs=us:=by exact tdR)
  (ho:Ax n ⟨dst,(cv fop args ats),ty,pos,after,some (j,want)⟩=true:=by exact tdR):au P ro n ops Q (⟨dst,(cv fop args ats),ty,pos,after,some (j,want)⟩::rest) ⟨γ,O,df⟩:=KH hk hb hl hf ha (.inl hp) h ho gb gg
end
def jw(mb:List Bool)(lv:List jO):Met:=fun j=>if mb.getD j false=true then some (lv.getD j ⟨0,0⟩) else none
def Wl{mb:List Bool}{lv:List jO}{n:Nat}(h1:n<mb.length)(h2:n<lv.length)(l:jO):jw (mb.set n true) (lv.set n l)=kQ (jw mb lv) n l:=by
 funext j
 unfold jw kQ;simp only[aQ,dP]
 by_cases e:n=j
 ·subst e;simp[h1,h2]
 ·have e':¬j=n:=fun h=>e h.symm;simp[e,e']
def D8(r1 r2 N:Nat)(mb:List Bool)(lv:List jO)(n:Int)(l:jO)(O:Sig)(hN:N<=300)(hW:km r1 r2 N mb lv O):ar prog 124 [cWay r1 r2 N,dI n,.agg (jm l)] O fun x U'=> ∃mb' lv',km r1 r2 N mb' lv' U'/\(∀j o,O j=some o->j≠r1->j≠r2->U' j=some o) /\
  ((AQ N (jw mb lv) n l=none/\x=.ret (.bool false)/\jw mb' lv'=jw mb lv)\/(AQ N (jw mb lv) n l=some (jw mb' lv')/\x=.ret (.bool true))):=
 (UE r1 r2 N mb lv n l O hN hW).mono fun x U' h=>by
  have e:(n<0\/(N:Int)<=n\/(mb.getD n.toNat false=true/\lv.getD n.toNat ⟨0,0⟩≠l)) ↔ (n<0\/(N:Int)<=n\/(jw mb lv n.toNat≠none/\jw mb lv n.toNat≠some l)):=by
   unfold jw;cases hh:mb.getD n.toNat false<;>simp
  split at h
  ·rename_i hc;obtain⟨h1,rfl⟩:=h;exact⟨mb,lv,hW,fun j o hj _ _=>hj,.inl ⟨by unfold AQ;exact aG (e.1 hc),h1,rfl⟩⟩
  ·rename_i hc;obtain⟨h1,h2,h3⟩:=h;have k1:¬n<0:=fun k=>hc (.inl k);have k2:¬(N:Int)<=n:=fun k=>hc (.inr (.inl k));refine⟨_,_,h2,h3,.inr ⟨?_,h1⟩⟩;rw[Wl (by rw[hW.l1];omega) (by rw[hW.l2];omega)];unfold AQ;exact aE fun k=>hc (e.2 k)
def Au{O:Sig}{a b:Nat}{o:jP}(h:O a=some o)(k:O b=none):b≠a:=fun e=>by rw[<-e,k]at h;cases h
def km.set{r1 r2 N:Nat}{mb:List Bool}{lv:List jO}{O:Sig}(hW:km r1 r2 N mb lv O){i:Nat}{o:jP}(hi:O i=none):km r1 r2 N mb lv (O.set i o):=
 ⟨j2 ((Au hW.o1 hi).symm) hW.o1,j2 ((Au hW.o2 hi).symm) hW.o2,hW.l1,hW.l2,hW.ne⟩
def UD(p:aw)(c:jD)(r1 r2 q:Nat)(j7:Int)(next:Bool)(mb:List Bool)(lv:List jO)(O:Sig)(hp:p.wt<=1073741824)(hc:c.j6.length<=300)(hq:q<c.j6.length)(hW:km r1 r2 c.j6.length mb lv O)(hu:(An c q).op=19->0<=(An c q).a/\(An c q).a<p.ai.length)(hg:0<=(Af p (An c q)).1/\(Af p (An c q)).1<=3/\0<=(Af p (An c q)).2/\(Af p (An c q)).2<=1)
  (hb:0<=(lv.getD q ⟨0,0⟩).st/\(lv.getD q ⟨0,0⟩).st<=1000 /\ -1000<=(lv.getD q ⟨0,0⟩).j7/\(lv.getD q ⟨0,0⟩).j7<=10000) :
  ar prog 125 [cWay r1 r2 c.j6.length,.agg (A7 p),.agg (cCPg c),dI q,dI j7,.bool next] O fun x U'=> ∃mb' lv',km r1 r2 c.j6.length mb' lv' U'/\(∀j o,O j=some o->j≠r1->j≠r2->U' j=some o) /\
   ((Di p c j7 next q (An c q) (lv.getD q ⟨0,0⟩) (jw mb lv)=none/\x=.ret (.bool false))\/(Di p c j7 next q (An c q) (lv.getD q ⟨0,0⟩) (jw mb lv)=some (jw mb' lv')/\x=.ret (.bool true))):=by
 obtain⟨p1,p2,p3,p4,p5,p6,p7⟩:=p.wt_le;obtain⟨o1,o2,l1,l2,hne⟩:=hW;have hW:km r1 r2 c.j6.length mb lv O:=⟨o1,o2,l1,l2,hne⟩;rw[M0 hq]at hu hg⊢;have fc:q<lv.length:=by omega
 have fL:lv.getD q ⟨0,0⟩=lv[q]:=by rw[aQ,aD fc];rfl
 rw[fL]at hb⊢;have fb:=LX lv q fc;have eU:((lv.map jm).flatten).length=c.j6.length*2:=by rw[Aj (sz:=2) (fun e he=>by obtain⟨x,_,rfl⟩:=aZ.1 he;rfl)];simp;omega
 obtain⟨x,hx⟩:∃x,c.j6[q]=x:=⟨_,rfl⟩;obtain⟨l,hl⟩:∃l,lv[q]=l:=⟨_,rfl⟩;rw[hx]at hu hg⊢;rw[hl]at hb fb⊢;obtain⟨st,em⟩:=l;generalize hF:(lv.map jm).flatten=F at o2 fb eU;have fy:q*2+2<=F.length:=by omega
 refine en func125 ntmps125 ?_;refine gz ?_ [] [13,14,17];refine mixA (id:=1) (List.range 16) [14,15] ?_;refine CZ (d:=.ak (cCPg c) 0) jB rfl tdR tdR (by first|with_unfolding_all rfl|(simp;done)|(simp;rfl)) ?_;refine CZ (d:=sl (c.j6.map cIns)) jB rfl tdR tdR (by first|with_unfolding_all rfl|(simp;done)|(simp;rfl)) ?_;refine CZ (d:=dI q) jB rfl tdR tdR (by first|with_unfolding_all rfl|(simp;done)|(simp;rfl)) ?_;refine CZ (d:=.ak (cIns x) 0) jB rfl tdR tdR (by first|with_unfolding_all rfl|(simp[hq,hx];done)|(simp[hq,hx];rfl)) ?_;refine CZ (d:=.agg (cIns x)) jB rfl tdR tdR (by first|with_unfolding_all rfl|(simp;done)|(simp;rfl)) ?_;refine CZ (d:=cWay r1 r2 c.j6.length) jB rfl tdR tdR (by first|with_unfolding_all rfl|(simp;done)|(simp;rfl)) ?_;refine CZ (d:=cWay r1 r2 c.j6.length) jB rfl tdR tdR (by first|with_unfolding_all rfl|(simp;done)|(simp;rfl)) ?_;refine CZ (d:=.ak [.am r1 0 c.j6.length c.j6.length,.am r2 0 c.j6.length c.j6.length] 1) jB rfl tdR tdR (by first|with_unfolding_all rfl|(simp;done)|(simp;rfl)) ?_
 refine CZ (d:=.am r2 0 c.j6.length c.j6.length) jB rfl tdR tdR (by first|with_unfolding_all rfl|(simp;done)|(simp;rfl)) ?_;refine CZ (d:=dI q) jB rfl tdR tdR (by first|with_unfolding_all rfl|(simp;done)|(simp;rfl)) ?_;refine CZ (d:=.ptr r2 (q*2)) jB rfl tdR tdR (by first|with_unfolding_all rfl|(simp[hq];done)|(simp[hq];rfl)) ?_;refine CZ (d:=.agg [dI st,dI em]) jB rfl tdR tdR (by first|with_unfolding_all rfl|(simp[o2,fb,fy];done)|(simp[o2,fb,fy];rfl)) ?_;refine ML (fun i13 fe=>?_);refine ML (fun i14 fJ=>?_);refine Jw (by rfl) ?_;have gX:(tab 87).zero=[dI 0,dI 0]:=by(simp<;>rfl)
 have gW:(tab 79).zero=[dI 0,dI 0]:=by(simp<;>rfl)
 rw[gX]at fJ⊢;rw[gW];obtain⟨n34,eW⟩:=B2 fJ;have n43:=n34.symm;have f9:Sub O (((O.set i13 (.cells [dI 0,dI 0])).set i14 (.cells [dI 0,dI 0])).set i13 (.cells (cIns x))):=(((Sub.refl _).set fe).set eW).set fe;have eV:Sub O ((((O.set i13 (.cells [dI 0,dI 0])).set i14 (.cells [dI 0,dI 0])).set i13 (.cells (cIns x))).set i14 (.cells [dI st,dI em])):=f9.set eW;refine EL (d:=.any) (U':=((O.set i13 (.cells [dI 0,dI 0])).set i14 (.cells [dI 0,dI 0])).set i13 (.cells (cIns x))) jB tdR (by simp[w7 _ _ n43,cIns]) f9 ?_;refine EL (d:=.any) (U':=(((O.set i13 (.cells [dI 0,dI 0])).set i14 (.cells [dI 0,dI 0])).set i13 (.cells (cIns x))).set i14 (.cells [dI st,dI em])) jB tdR (by simp[w7 _ _ n34]) eV ?_;have a1:i13≠r1:=Au o1 fe;have a2:i13≠r2:=Au o2 fe;have a3:i14≠r1:=Au o1 eW;have a4:i14≠r2:=Au o2 eW;have b9:km r1 r2 c.j6.length mb lv ((((O.set i13 (.cells [dI 0,dI 0])).set i14 (.cells [dI 0,dI 0])).set i13 (.cells (cIns x))).set i14 (.cells [dI st,dI em])):=⟨by simp only[w7 _ _ a1.symm,w7 _ _ a3.symm];exact hW.o1,by simp only[w7 _ _ a2.symm,w7 _ _ a4.symm];exact hW.o2,hW.l1,hW.l2,hne⟩
 have o13:((((O.set i13 (.cells [dI 0,dI 0])).set i14 (.cells [dI 0,dI 0])).set i13 (.cells (cIns x))).set i14 (.cells [dI st,dI em])) i13=some (.cells (cIns x)):=by rw[w7 _ _ n43,w6]
 have o14:((((O.set i13 (.cells [dI 0,dI 0])).set i14 (.cells [dI 0,dI 0])).set i13 (.cells (cIns x))).set i14 (.cells [dI st,dI em])) i14=some (.cells [dI st,dI em]):=w6 ..;generalize ((((O.set i13 (.cells [dI 0,dI 0])).set i14 (.cells [dI 0,dI 0])).set i13 (.cells (cIns x))).set i14 (.cells [dI st,dI em]))=S3 at eV b9 o13 o14⊢;clear f9;have i186:∀O,Ans 186 [.agg (A7 p),.agg (cIns x)] O True (.tup [dI (Af p x).1,dI (Af p x).2]):=fun O=>ah0 (Ug p x O hp hu);generalize gY:Af p x=us at*;obtain⟨take,give⟩:=us;simp only at hg hb
 have eY:Di p c j7 next q x ⟨st,em⟩ (jw mb lv)=if(st<take\/(x.op=3/\em<=x.a)\/(x.op=15/\em<=j7)\/(x.op=20/\next=false)) then none
   else if x.op=21 then(if st=1/\em=j7 then some (jw mb lv) else none)
   else if x.op=14 then AQ c.j6.length (jw mb lv) ((q:Int)+1) ⟨st-take+give,em+1⟩
   else if x.op=15 then AQ c.j6.length (jw mb lv) ((q:Int)+1) ⟨st-take+give,em-1⟩
   else if x.op=18 then AQ c.j6.length (jw mb lv) x.a ⟨st-take+give,em⟩
   else if x.op=17 then(match AQ c.j6.length (jw mb lv) x.a ⟨st-take+give,em⟩with
    |none=>none
    |some m=>AQ c.j6.length m ((q:Int)+1) ⟨st-take+give,em⟩)
   else AQ c.j6.length (jw mb lv) ((q:Int)+1) ⟨st-take+give,em⟩:=by unfold Di;rw[gY];rfl
 rw[eY];clear eY
 by_cases d9:st<take\/(x.op=3/\em<=x.a)\/(x.op=15/\em<=j7)\/(x.op=20/\next=false)
 ·rw[aG d9];rcases d9 with k1|⟨k1,k2⟩|⟨k1,k2⟩|⟨k1,k2⟩
  ·repeat' first|refine gf (gi o13 (gi o14 k1)) ?_ kV [13,14,17]|apply gy<;>intro hh
   all_goals exact fin1 (U':=S3) ⟨mb,lv,b9,fun j o h _ _=>eV j o h,.inl ⟨rfl,rfl⟩⟩
  ·repeat' first|refine gf (gi o13 (gi o14 (gi k1 k2))) ?_ kV [13,14,17]|apply gy<;>intro hh
   all_goals exact fin1 (U':=S3) ⟨mb,lv,b9,fun j o h _ _=>eV j o h,.inl ⟨rfl,rfl⟩⟩
  ·repeat' first|refine gf (gi o13 (gi o14 (gi k1 k2))) ?_ kV [13,14,17]|apply gy<;>intro hh
   all_goals exact fin1 (U':=S3) ⟨mb,lv,b9,fun j o h _ _=>eV j o h,.inl ⟨rfl,rfl⟩⟩
  ·repeat' first|refine gf (gi o13 (gi o14 (gi k1 k2))) ?_ kV [13,14,17]|apply gy<;>intro hh
   all_goals exact fin1 (U':=S3) ⟨mb,lv,b9,fun j o h _ _=>eV j o h,.inl ⟨rfl,rfl⟩⟩
 rw[aE d9];have e1:¬st<take:=fun k=>d9 (.inl k);have e2:x.op=3->¬em<=x.a:=fun k1 k2=>d9 (.inr (.inl ⟨k1,k2⟩));have e3:x.op=15->¬em<=j7:=fun k1 k2=>d9 (.inr (.inr (.inl ⟨k1,k2⟩)));have e4:x.op=20->next=true:=fun k1=>by cases hn:next;exact absurd (.inr (.inr (.inr ⟨k1,hn⟩))) d9;rfl
 by_cases fq:x.op=21
 ·rw[aG fq]
  by_cases k1:st=1
  ·by_cases k2:em=j7
   ·repeat' first|refine gf (gi o13 (gi o14 (gi fq (gi e1 (gi k1 k2))))) ?_ kV [13,14,17]|apply gy<;>intro hh
    all_goals exact fin1 (U':=S3) ⟨mb,lv,b9,fun j o h _ _=>eV j o h,.inr ⟨aG ⟨k1,k2⟩,rfl⟩⟩
   ·repeat' first|refine gf (gi o13 (gi o14 (gi fq (gi e1 (gi k1 k2))))) ?_ kV [13,14,17]|apply gy<;>intro hh
    all_goals exact fin1 (U':=S3) ⟨mb,lv,b9,fun j o h _ _=>eV j o h,.inl ⟨aE (fun k=>k2 k.2),rfl⟩⟩
  ·repeat' first|refine gf (gi o13 (gi o14 (gi fq (gi e1 k1)))) ?_ kV [13,14,17]|apply gy<;>intro hh
   all_goals exact fin1 (U':=S3) ⟨mb,lv,b9,fun j o h _ _=>eV j o h,.inl ⟨aE (fun k=>k1 k.1),rfl⟩⟩
 rw[aE fq]
 by_cases fC:x.op=14
 ·rw[aG fC];refine gf (gi o13 (gi o14 (gi fC e1))) ?_ kV [13,14,17];refine je (fun i17 b6=>?_);have n1:i13≠i17:=fun e=>by rw[<-e,o13]at b6;cases b6
  have ff:∀o,km r1 r2 c.j6.length mb lv (S3.set i17 o):=fun o=>b9.set b6;have d8:∀o,Sub O (S3.set i17 o):=fun o j u h=>(Sub.refl S3).set b6 j u (eV j u h);have q1:i17≠r1:=Au b9.o1 b6;have q2:i17≠r2:=Au b9.o2 b6;refine gf (gi o13 (gi o14 (gi fC (gi e1 n1)))) ?_ kV [13,14,17];refine A3 (D8 r1 r2 c.j6.length mb lv ((q:Int)+1) ⟨st-take+give,em+1⟩ _ hc (ff _)) (fun d S5 hr=>?_) (fun d S5 hr=>by obtain⟨_,_,_,_,⟨_,h,_⟩|⟨_,h⟩⟩:=hr<;>cases h);obtain⟨mb5,lv5,c9,d6,⟨b7,b8,fE⟩|⟨b7,b8⟩⟩:=hr
  ·cases b8;refine gz ?_ kV [13,14,17];exact fin1 (U':=S5) ⟨mb5,lv5,c9,fun j o h k1 k2=>d6 j o (d8 _ j o h) k1 k2,.inl ⟨b7,rfl⟩⟩ (hZ:=Sub.refl _)
  ·cases b8;refine gz ?_ kV [13,14,17];exact fin1 (U':=S5) ⟨mb5,lv5,c9,fun j o h k1 k2=>d6 j o (d8 _ j o h) k1 k2,.inr ⟨b7,rfl⟩⟩ (hZ:=Sub.refl _)
 rw[aE fC]
 by_cases fu:x.op=15
 ·rw[aG fu];have e3':=e3 fu;refine gf (gi o13 (gi o14 (gi fu (gi e1 e3')))) ?_ kV [13,14,17];refine je (fun i17 b6=>?_);have n1:i13≠i17:=fun e=>by rw[<-e,o13]at b6;cases b6
  have ff:∀o,km r1 r2 c.j6.length mb lv (S3.set i17 o):=fun o=>b9.set b6;have d8:∀o,Sub O (S3.set i17 o):=fun o j u h=>(Sub.refl S3).set b6 j u (eV j u h);have q1:i17≠r1:=Au b9.o1 b6;have q2:i17≠r2:=Au b9.o2 b6;refine gf (gi o13 (gi o14 (gi fu (gi e1 (gi e3' n1))))) ?_ kV [13,14,17];refine A3 (D8 r1 r2 c.j6.length mb lv ((q:Int)+1) ⟨st-take+give,em-1⟩ _ hc (ff _)) (fun d S5 hr=>?_) (fun d S5 hr=>by obtain⟨_,_,_,_,⟨_,h,_⟩|⟨_,h⟩⟩:=hr<;>cases h);obtain⟨mb5,lv5,c9,d6,⟨b7,b8,fE⟩|⟨b7,b8⟩⟩:=hr
  ·cases b8;refine gz ?_ kV [13,14,17];exact fin1 (U':=S5) ⟨mb5,lv5,c9,fun j o h k1 k2=>d6 j o (d8 _ j o h) k1 k2,.inl ⟨b7,rfl⟩⟩ (hZ:=Sub.refl _)
  ·cases b8;refine gz ?_ kV [13,14,17];exact fin1 (U':=S5) ⟨mb5,lv5,c9,fun j o h k1 k2=>d6 j o (d8 _ j o h) k1 k2,.inr ⟨b7,rfl⟩⟩ (hZ:=Sub.refl _)
 rw[aE fu]
 by_cases fB:x.op=18
 ·rw[aG fB];refine gf (gi o13 (gi o14 (gi fB e1))) ?_ kV [13,14,17];refine je (fun i17 b6=>?_);have n1:i13≠i17:=fun e=>by rw[<-e,o13]at b6;cases b6
  have ff:∀o,km r1 r2 c.j6.length mb lv (S3.set i17 o):=fun o=>b9.set b6;have d8:∀o,Sub O (S3.set i17 o):=fun o j u h=>(Sub.refl S3).set b6 j u (eV j u h);have q1:i17≠r1:=Au b9.o1 b6;have q2:i17≠r2:=Au b9.o2 b6;refine gf (gi o13 (gi o14 (gi fB (gi e1 n1)))) ?_ kV [13,14,17];refine A3 (D8 r1 r2 c.j6.length mb lv (x.a) ⟨st-take+give,em⟩ _ hc (ff _)) (fun d S5 hr=>?_) (fun d S5 hr=>by obtain⟨_,_,_,_,⟨_,h,_⟩|⟨_,h⟩⟩:=hr<;>cases h);obtain⟨mb5,lv5,c9,d6,⟨b7,b8,fE⟩|⟨b7,b8⟩⟩:=hr
  ·cases b8;refine gz ?_ kV [13,14,17];exact fin1 (U':=S5) ⟨mb5,lv5,c9,fun j o h k1 k2=>d6 j o (d8 _ j o h) k1 k2,.inl ⟨b7,rfl⟩⟩ (hZ:=Sub.refl _)
  ·cases b8;refine gz ?_ kV [13,14,17];exact fin1 (U':=S5) ⟨mb5,lv5,c9,fun j o h k1 k2=>d6 j o (d8 _ j o h) k1 k2,.inr ⟨b7,rfl⟩⟩ (hZ:=Sub.refl _)
 rw[aE fB]
 by_cases eX:x.op=17
 ·rw[aG eX];refine gf (gi o13 (gi o14 (gi eX e1))) ?_ kV [13,14,17];refine je (fun i17 b6=>?_);have n1:i13≠i17:=fun e=>by rw[<-e,o13]at b6;cases b6
  have ff:∀o,km r1 r2 c.j6.length mb lv (S3.set i17 o):=fun o=>b9.set b6;have d8:∀o,Sub O (S3.set i17 o):=fun o j u h=>(Sub.refl S3).set b6 j u (eV j u h);have q1:i17≠r1:=Au b9.o1 b6;have q2:i17≠r2:=Au b9.o2 b6;refine gf (gi o13 (gi o14 (gi eX (gi e1 n1)))) ?_ kV [13,14,17];refine A3 (D8 r1 r2 c.j6.length mb lv (x.a) ⟨st-take+give,em⟩ _ hc (ff _)) (fun d S5 hr=>?_) (fun d S5 hr=>by obtain⟨_,_,_,_,⟨_,h,_⟩|⟨_,h⟩⟩:=hr<;>cases h);obtain⟨mb5,lv5,c9,d6,⟨b7,b8,fE⟩|⟨b7,b8⟩⟩:=hr
  ·cases b8;refine gz ?_ kV [13,14,17];exact fin1 (U':=S5) ⟨mb5,lv5,c9,fun j o h k1 k2=>d6 j o (d8 _ j o h) k1 k2,.inl ⟨by rw[b7],rfl⟩⟩ (hZ:=Sub.refl _)
  ·cases b8;have o17:=d6 i17 _ (w6 ..) q1 q2;refine gf o17 ?_ kV [13,14,17];refine OF (D8 r1 r2 c.j6.length mb5 lv5 ((q:Int)+1) ⟨st-take+give,em⟩ _ hc c9) (fun d S6 hr=>?_) (fun d S6 hr=>by obtain⟨_,_,_,_,⟨_,h,_⟩|⟨_,h⟩⟩:=hr<;>cases h);rw[b7];obtain⟨mb6,lv6,fX,fA,⟨f0,fZ,iA⟩|⟨f0,fZ⟩⟩:=hr
   ·cases fZ;refine gz ?_ kV [13,14,17];exact fin1 (U':=S6) ⟨mb6,lv6,fX,fun j o h k1 k2=>fA j o (d6 j o (d8 _ j o h) k1 k2) k1 k2,.inl ⟨f0,rfl⟩⟩ (hZ:=Sub.refl _)
   ·cases fZ;refine gz ?_ kV [13,14,17];exact fin1 (U':=S6) ⟨mb6,lv6,fX,fun j o h k1 k2=>fA j o (d6 j o (d8 _ j o h) k1 k2) k1 k2,.inr ⟨f0,rfl⟩⟩ (hZ:=Sub.refl _)
 rw[aE eX]
 have ij:(x.op=3 /\ ¬em<=x.a)\/(x.op=20/\next=true)\/(¬x.op=3 /\ ¬x.op=20):=by
  by_cases h3:x.op=3
  ·exact .inl ⟨h3,e2 h3⟩
  ·by_cases gC:x.op=20
   ·exact .inr (.inl ⟨gC,e4 gC⟩)
   ·exact .inr (.inr ⟨h3,gC⟩)
 rcases ij with⟨f1,f2⟩|⟨f1,f2⟩|⟨f1,f2⟩
 all_goals
  refine gf (gi o13 (gi o14 (gi f1 (gi f2 (gi fC (gi fu (gi eX (gi fB (gi fq e1))))))))) ?_ kV [13,14,17];refine je (fun i17 b6=>?_);have n1:i13≠i17:=fun e=>by rw[<-e,o13]at b6;cases b6
  have ff:∀o,km r1 r2 c.j6.length mb lv (S3.set i17 o):=fun o=>b9.set b6;have d8:∀o,Sub O (S3.set i17 o):=fun o j u h=>(Sub.refl S3).set b6 j u (eV j u h);have q1:i17≠r1:=Au b9.o1 b6;have q2:i17≠r2:=Au b9.o2 b6;refine gf (gi o13 (gi o14 (gi f1 (gi f2 (gi fC (gi fu (gi eX (gi fB (gi fq (gi e1 n1)))))))))) ?_ kV [13,14,17];refine A3 (D8 r1 r2 c.j6.length mb lv ((q:Int)+1) ⟨st-take+give,em⟩ _ hc (ff _)) (fun d S5 hr=>?_) (fun d S5 hr=>by obtain⟨_,_,_,_,⟨_,h,_⟩|⟨_,h⟩⟩:=hr<;>cases h);obtain⟨mb5,lv5,c9,d6,⟨b7,b8,fE⟩|⟨b7,b8⟩⟩:=hr
  ·cases b8;refine gz ?_ kV [13,14,17];exact fin1 (U':=S5) ⟨mb5,lv5,c9,fun j o h k1 k2=>d6 j o (d8 _ j o h) k1 k2,.inl ⟨b7,rfl⟩⟩ (hZ:=Sub.refl _)
  ·cases b8;refine gz ?_ kV [13,14,17];exact fin1 (U':=S5) ⟨mb5,lv5,c9,fun j o h k1 k2=>d6 j o (d8 _ j o h) k1 k2,.inr ⟨b7,rfl⟩⟩ (hZ:=Sub.refl _)
end Go.DL
namespace Go.DL
open Go.Proofs.Tryz
open Go Go.Proofs
set_option maxHeartbeats 80000000
set_option maxRecDepth 20000
section
variable {ro:Ro}{n:Nat}{Q:DX->St->Prop}{df:List DDf}{γ Sr:List (Nat×D)}{O:Sig}
variable {P:Program}
theorem loop6{Sk:Fr}{α β δ ε ζ η:Type}{c:Code}(keep:eQ)(I:α->β->δ->ε->ζ->η->Prop)(ov:α->β->δ->ε->ζ->η->Fr)(sg:α->β->δ->ε->ζ->η->Sig)(μ:α->β->δ->ε->ζ->η->Nat)(x0:α)(y0:β)(z0:δ)(u0:ε)(v0:ζ)(w0:η)(h0:I x0 y0 z0 u0 v0 w0)
  (round:∀x y z u v w,I x y z u v w->DWp P ro n c (ka (fun s'=> ∃x' y' z' u' v' w',I x' y' z' u' v' w'/\μ x' y' z' u' v' w'<μ x y z u v w/\Wk P n s' ⟨ov x' y' z' u' v' w'++Sk,sg x' y' z' u' v' w',df⟩) Q) ⟨ov x y z u v w++Sk,sg x y z u v w,df⟩) (hk:DV γ keep=some Sk:=by exact tdR) (h1:jr γ (ov x0 y0 z0 u0 v0 w0++Sk):=by(first|refine FQ ?_ ?_|skip)<;>(repeat' first|exact FP|refine EO tdR ?_ ?_|(first|exact Ac _|exact Cc _ _|exact Ak _ (.inl rfl)|exact EK _|(refine HY _ ?_;first|omega|(simp;done)|(simp;omega))|(refine Cb ?_;(simp;done))|(refine Cb ?_;(simp[cI,cS,cII,EJ,Fa,GD];done))|(refine DC _ ?_;(simp[cI,cS,cII];done))|(refine Cb ?_;(simp_all;done))|assumption))) (h2:Sub (sg x0 y0 z0 u0 v0 w0) O:=by first|exact Sub.refl _|(refine C1 ?_;simp;done)|assumption|exact(Sub.refl _).set (by assumption)):DWp P ro n (.loop c) Q ⟨γ,O,df⟩:=by
 refine F8 (α:=α×β×δ×ε×ζ×η) keep (fun x=>I x.1 x.2.1 x.2.2.1 x.2.2.2.1 x.2.2.2.2.1 x.2.2.2.2.2) (fun x=>ov x.1 x.2.1 x.2.2.1 x.2.2.2.1 x.2.2.2.2.1 x.2.2.2.2.2) (fun x=>sg x.1 x.2.1 x.2.2.1 x.2.2.2.1 x.2.2.2.2.1 x.2.2.2.2.2) (fun x=>μ x.1 x.2.1 x.2.2.1 x.2.2.2.1 x.2.2.2.2.1 x.2.2.2.2.2) (x0,y0,z0,u0,v0,w0) hk h0 h1 h2 fun x hx=>EH (round x.1 x.2.1 x.2.2.1 x.2.2.2.1 x.2.2.2.2.1 x.2.2.2.2.2 hx) ?_;intro e s h;cases e with
 |normal=>obtain⟨x',y',z',u',v',w',h3,h4,h5⟩:=h;exact⟨(x',y',z',u',v',w'),h3,h4,h5⟩
 |_=>exact h
theorem mixN{lo:List Oper}{id:Nat}(ord E:eQ){lp:List (Bool×Oper)}(h:MONw prog ro n lo.toArray 431 O Q df tab lp γ O)(hB:Gu lo.toArray E ord=true:=by kernel_rfl)(hl:GZ lo E ord=some lp:=by exact tdR):DWp prog ro n (.region id lo.toArray true) Q ⟨γ,O,df⟩:=
 Xq jB Ao mixed ord E O hB (Sub.refl _) hl h
end
def Hu{n:Nat}{ro:Ro}{ops:Array Oper}{S0:Sig}{Q:DX->St->Prop}{df:List DDf}{T e N t:Nat}{x:Operand}{z:eO}{ty:TypeId}{pos:String}{after:Array Edge}{e':Bool}{l:List (Bool×Oper)}{γ Sr:Fr}{O:Sig}(h:∀k,O k=none->MONw prog ro n ops 431 S0 Q df tab l ((t,.am k 0 N N)::γ) (O.set k (.cells (List.replicate N z).flatten)))
  (hl:A5 γ (Aa [x])=some Sr:=by exact tdR) (hx:ev Sr x=.int .i64 N:=by exact tdR) (hk:(tab T).k=.slice e:=by(simp<;>rfl)) (he:A2 (tab e).k=false:=by simp) (hz:(tab e).zero=z:=by(simp<;>rfl)) (h0:0<(tab e).size:=by(simp<;>decide)) (hb:N*(tab e).bytes<=140737488355328:=by first|(simp;done)|(simp;omega)) (hm:N<=9223372036854775807:=by omega) (f7:decide (t<n)=true:=by exact tdR) :
  MONw prog ro n ops 431 S0 Q df tab ((e',⟨some t,.makeSlice T x x,ty,pos,after,none⟩)::l) γ O:=by
 rw[CR hl]at hx;refine Wf (t:=t) (mk:=fun k=>.am k 0 N N) (obj:=.cells (List.replicate N z).flatten) rfl ?_ h;subst hz;unfold newD;simp only[hk,hx,he,f7];rw[aG]
 ·simp
 ·simp[h0,hm];exact⟨hb,j0⟩
def Wy{α:Type}(n:Nat)(x:α):(List.replicate n [x]).flatten=List.replicate n x:=by induction n with|zero=>rfl|succ n ih=>rw[dD,br,ih];rfl
def Rv{N r1 r2:Nat}{O:Sig}(h1:O r1=none)(hne:r1≠r2):km r1 r2 N (List.replicate N false) (List.replicate N ⟨0,0⟩) ((O.set r1 (.cells (List.replicate N [D.bool false]).flatten)).set r2 (.cells (List.replicate N [dI 0,dI 0]).flatten)):=
 ⟨by rw[w7 _ _ hne,w6,Wy,List.map_replicate],by rw[w6,List.map_replicate],j1,j1,hne⟩
def Pf(N:Nat)(lv:List jO):jw (List.replicate N false) lv=fun _=>none:=by
 funext j
 unfold jw;rw[aE];rw[aQ,dV];split<;>simp
def Qw{p:aw}{c:jD}{l:List CSt}{aM:List Bool}{aL:List jO}(h:DU p c l (fun _=>none)=some (jw aM aL)){k:Nat}(hk:k<c.j6.length)(hb:aM.getD k false=false):EA p c l=none:=by
 unfold EA;rw[h];refine aE fun hA=>?_;have:=aW.1 hA k (dF.2 hk);unfold jw at this;rw[hb]at this;simp at this
def Qx{p:aw}{c:jD}{l:List CSt}{aM:List Bool}{aL:List jO}(h:DU p c l (fun _=>none)=some (jw aM aL))(hb:∀j,j<c.j6.length->aM.getD j false=true)(hl:aL.length=c.j6.length):EA p c l=some aL:=by
 unfold EA;rw[h];have hm:∀j,j<c.j6.length->jw aM aL j=some (aL.getD j ⟨0,0⟩):=fun j hj=>aG (hb j hj);refine(aG ?_).trans ?_
 ·exact aW.2 fun j hj=>by rw[hm j (dF.1 hj)];rfl
 ·congr 1
  refine List.ext_getElem (by simp[hl]) fun j h1 h2=>?_
  have hj:j<c.j6.length:=by simpa using h1
  rw[eB,List.getElem_range,hm j hj,aQ,aD h2];rfl
def XF{P:Program}{n:Nat}{fn:Func}{R:DE->Sig->Prop}{x:DX}{s s1:St}(hw:Wk P n s s1)(h:DR P n fn R x s1):DR P n fn R x s:=by
 obtain⟨s2,h1,h2⟩:=h;exact⟨s2,hw.trans h1,h2⟩
def VB{P:Program}{n:Nat}{fn:Func}{R:DE->Sig->Prop}{x:DX}{γ:Fr}{O:Sig}{df:List DDf}{t sz:Nat}{r:RW}{es:eR}(hm:jN O sz r es)(h:∀U',(∀j o,O j=some o->¬r.is j->U' j=some o)->DR P n fn R x ⟨(t,.slice es .no)::γ,U',df⟩)(hg:getD γ t=r.d es.length):DR P n fn R x ⟨γ,O,df⟩:=by
 obtain⟨U',hw,hk⟩:=GT (P:=P) (n:=n) (γ:=γ) (df:=df) hm hg;exact XF hw (h U' hk)
def LookR(p:aw)(c:jD)(O:Sig)(x:DE)(U':Sig):Prop:=Sub O U'/\match B6 p c with
 |none=>x=.ret (.tup [.aj,.bool false])
 |some lv=>x=.ret (.tup [.slice (lv.map jm) .no,.bool true])
def WX (p:aw) (c:jD) (O:Sig) (hp:p.wt<=1073741824) (gO:c.j6.length<=1073741824) (gN:c.jG.length<=1073741824):ar prog 50 [.agg (A7 p), .agg (cCPg c)] O (LookR p c O):=by
 obtain⟨p1,p2,p3,p4,p5,p6,p7⟩:=p.wt_le;have iv:(Fo p).isSome=okP p:=by rw[<-Pi p];rfl
 have i29:∀O,Ans 29 [.agg (A7 p)] O True (.bool (okP p)):=fun O=>ah0 (iv ▸ Py p O hp)
 have fj:∀(hm:¬(okP p=true/\c.j6.length<=300/\c.jG.length=p.j9.length)),B6 p c=none:=fun hm=>by
  unfold B6;refine aE fun h=>hm ?_;simp only[aF,aH]at h;exact⟨h.1,h.2.1,h.2.2.1⟩
 refine en func50 ntmps50 ?_
 by_cases h1:okP p=true
 rotate_left
 ·have hL:=fj fun h=>h1 h.1
  repeat' first|refine gf h1 ?_ o50|apply gy<;>intro hh
  all_goals exact kM (U':=O) ⟨Sub.refl _,by rw[hL]⟩
 by_cases h2:c.j6.length<=300
 rotate_left
 ·have hL:=fj fun h=>h2 h.2.1
  repeat' first|refine gf h1 ?_ o50|apply gy<;>intro hh
  all_goals exact kM (U':=O) ⟨Sub.refl _,by rw[hL]⟩
 by_cases h3:c.jG.length=p.j9.length
 rotate_left
 ·have hL:=fj fun h=>h3 h.2.2
  repeat' first|refine gf h1 ?_ o50|apply gy<;>intro hh
  all_goals exact kM (U':=O) ⟨Sub.refl _,by rw[hL]⟩
 clear fj
 have hL:B6 p c=if Dn p c.j6.length c.j6 0 then EA p c (stsP p c) else none:=by
  unfold B6;rw[h1,be h2,be h3];simp
 refine gf (gi h1 h3) ?_ o50;refine Bz ([2,3]++List.range' 7 8++List.range' 52 121) (fun (q:Nat)=>q<=c.j6.length/\Dn p c.j6.length c.j6 0=Dn p c.j6.length (c.j6.drop q) q) (fun q=>[(6,dI q)]) (fun _=>O) (fun q=>c.j6.length-q) (0) (by exact⟨j0,rfl⟩) (fun q hI=>?_);obtain⟨hq,hA⟩:=hI
 by_cases fc:q<c.j6.length
 ·rw[A6 fc,Dn]at hA;generalize hx:c.j6[q]=x at*
  repeat' first|refine gf hx ?_ o50|apply gy<;>intro hh
  ·have fp:B6 p c=none:=by rw[hL,hA,hh];rfl
   exact kM (U':=O) ⟨Sub.refl _,by rw[fp]⟩
  ·rw[hh,bq]at hA;exact⟨q+1,⟨j0,hA⟩,td1,wkR⟩
 ·rw [A9 fc,Dn] at hA;have fN:=hA;have fp:B6 p c=EA p c (stsP p c):=by rw[hL,hA];rfl
  have hj:=QE fN;clear hL hA;refine gz ?_ (ji 8 o50);clear fc hq;refine mixN (id:=8) [0,1,2,4,5,6,3,7,8,9,10] [] ?_;refine Ci (d:=.ak (cCPg c) 0) jB rfl tdR tdR (by first|with_unfolding_all rfl|(simp;done)|(simp;rfl)) ?_;refine Ci (d:=sl (c.j6.map cIns)) jB rfl tdR tdR (by first|with_unfolding_all rfl|(simp;done)|(simp;rfl)) ?_;refine Ci (d:=dI c.j6.length) jB rfl tdR tdR (by first|with_unfolding_all rfl|(simp;done)|(simp;rfl)) ?_;refine Ci (d:=.ak (cCPg c) 0) jB rfl tdR tdR (by first|with_unfolding_all rfl|(simp;done)|(simp;rfl)) ?_;refine Ci (d:=sl (c.j6.map cIns)) jB rfl tdR tdR (by first|with_unfolding_all rfl|(simp;done)|(simp;rfl)) ?_;refine Ci (d:=dI c.j6.length) jB rfl tdR tdR (by first|with_unfolding_all rfl|(simp;done)|(simp;rfl)) ?_;refine Hu (fun ra1 fk=>?_);refine Hu (fun ra2 gc=>?_);refine Gt (by rfl) ?_;obtain⟨n12,eZ⟩:=B2 gc;have ip:=Rv (N:=c.j6.length) fk n12.symm;have iy:Sub O ((O.set ra1 (.cells (List.replicate c.j6.length [D.bool false]).flatten)).set ra2 (.cells (List.replicate c.j6.length [dI 0,dI 0]).flatten)):=((Sub.refl _).set fk).set eZ;have fL:=DY h1;obtain⟨g1,g2,g3,g4,g5⟩:=Gw h1;have gK:=SW h1
  have gL:∀n:Nat,0<=p.ai.getD n 0/\p.ai.getD n 0<=3:=fun n=>by
   rw[aQ];cases hn:p.ai[n]? with
   |none=>simp
   |some g=>have:=g1 g (cJ hn);simp only[ba];omega
  have i123:∀(m:jy) O,Ans 123 [dI m.kind] O True (.bool (Kf m)):=fun m O=>ah0 (by have:=Nz m.kind O;simpa[Kf] using this)
  refine gz ?_ o50;refine Qt ([2,3,7,14]++List.range' 152 21) (fun (i:Nat) (aM:List Bool) (aL:List jO) (S1:Sig)=>i<=c.jG.length+1/\km ra1 ra2 c.j6.length aM aL S1/\Sub O S1/\DU p c (stsP p c) (fun _=>none)=allM p c ((stsP p c).drop i) (jw aM aL)) (fun i _ _ _=>[(8,dI i)]) (fun _ _ _ S1=>S1) (fun i _ _ _=>c.jG.length+1-i) (0) (List.replicate c.j6.length false) (List.replicate c.j6.length ⟨0,0⟩) ((O.set ra1 (.cells (List.replicate c.j6.length [D.bool false]).flatten)).set ra2 (.cells (List.replicate c.j6.length [dI 0,dI 0]).flatten)) (by exact⟨j0,ip,iy,by rw[NV hj,Pf];rfl⟩) (fun i aM aL S1 hI=>?_);obtain⟨hi,d5,hS,hR⟩:=hI;have gD:=RC p c h3
  by_cases iH:i<c.jG.length+1
  ·obtain⟨s,fV⟩:∃s,(stsP p c).drop i=s::(stsP p c).drop (i+1):=⟨_,dC j0⟩
   have fi:∀h:i<c.jG.length,s=De p (p.j9[i]'(by omega)) c.jG[i]:=fun h=>by
    have:=sts_at p c h3 i h;rw[fV]at this;exact(List.cons.inj this).1
   have fa:¬i<c.jG.length->s=⟨c.jf,0,false⟩:=fun h=>by
    have:=sts_end p c h3;rw[show c.jG.length=i by omega,fV]at this;exact(List.cons.inj this).1
   rw[fV]at hR;obtain⟨sp,se,sn⟩:=s
   have iI:0<=se/\se<=3:=by
    by_cases fG:i<c.jG.length
    ·have h:=fi fG;have fK:=gK _ (aK (show i<p.j9.length by omega));have:=gL (p.j9[i]'(by omega)).gen.toNat
     unfold De at h;cases h;exact this
    ·have h:=fa fG;cases h;omega
   clear fV
   repeat ((fail_if_success (first|(refine dwp_cut1 (x1:=.seq _ (.cond _ (.region 14 _ _) _)) [(9,dI sp),(10,dI se),(11,.bool sn)] S1 ?_ (fun _ hK=>?_))|fail));(first|refine go1 trivial ?_|with_reducible refine HU ?_))
   refine dwp_cut1 (x1:=.seq _ (.cond _ (.region 14 _ _) _)) [(9,dI sp),(10,dI se),(11,.bool sn)] S1 ?_ (fun _ hK=>?_)
   rotate_left
   ·by_cases fG:i<c.jG.length
    ·have hv:=fi fG;have gZ:i<p.j9.length:=by omega
     have fK:=gK _ (aK gZ);generalize gG:p.j9[i]=m at*;have ie:p.ai.getD m.gen.toNat 0=p.ai[m.gen.toNat]'(by omega):=by rw[aQ,aD j0];rfl
     unfold De at hv;rw[ie]at hv;obtain⟨v1,v2,v3⟩:=CSt.mk.inj hv;refine gf (gi gG h3) ?_ (ji 14 o50);refine FK (id:=14) (List.range 25) [21] S1 (Sub.refl _) ?_;refine gf (gi gG h3) ?_ o50;exact FH (OM (by first|(simp[v1,v2,v3];done)|(simp_all [v1,v2,v3];done)) (Sub.refl _)) hK
    ·obtain⟨v1,v2,v3⟩:=CSt.mk.inj (fa fG);refine gz ?_ o50;exact FH (OM (by first|(simp[v1,v2,v3];done)|(simp_all [v1,v2,v3];done)) (Sub.refl _)) hK
   clear fi fa;refine gz ?_ (ji 15 o50);refine mixN (id:=15) [0,1,2,4,5,6,3,7,8,9,10] [] ?_;refine Ci (d:=.ak (cCPg c) 0) jB rfl tdR tdR (by first|with_unfolding_all rfl|(simp;done)|(simp;rfl)) ?_;refine Ci (d:=sl (c.j6.map cIns)) jB rfl tdR tdR (by first|with_unfolding_all rfl|(simp;done)|(simp;rfl)) ?_;refine Ci (d:=dI c.j6.length) jB rfl tdR tdR (by first|with_unfolding_all rfl|(simp;done)|(simp;rfl)) ?_;refine Ci (d:=.ak (cCPg c) 0) jB rfl tdR tdR (by first|with_unfolding_all rfl|(simp;done)|(simp;rfl)) ?_;refine Ci (d:=sl (c.j6.map cIns)) jB rfl tdR tdR (by first|with_unfolding_all rfl|(simp;done)|(simp;rfl)) ?_;refine Ci (d:=dI c.j6.length) jB rfl tdR tdR (by first|with_unfolding_all rfl|(simp;done)|(simp;rfl)) ?_;refine Hu (fun r1 b7=>?_);refine Hu (fun r2 b8=>?_);refine Gt (by rfl) ?_;obtain⟨m12,d7⟩:=B2 b8;have gP:=Rv (N:=c.j6.length) b7 m12.symm;have fo:=(d5.set (o:=.cells (List.replicate c.j6.length [D.bool false]).flatten) b7).set (o:=.cells (List.replicate c.j6.length [dI 0,dI 0]).flatten) b8
   have fR:Sub S1 ((S1.set r1 (.cells (List.replicate c.j6.length [D.bool false]).flatten)).set r2 (.cells (List.replicate c.j6.length [dI 0,dI 0]).flatten)):=((Sub.refl _).set b7).set d7;generalize (S1.set r1 (.cells (List.replicate c.j6.length [D.bool false]).flatten)).set r2 (.cells (List.replicate c.j6.length [dI 0,dI 0]).flatten)=S2 at gP fo fR⊢;refine gz ?_ o50;refine A3 (D8 r1 r2 c.j6.length _ _ sp ⟨0,se⟩ _ h2 gP) (fun d S3 hr=>?_) (fun d S3 hr=>by obtain⟨_,_,_,_,⟨_,h,_⟩|⟨_,h⟩⟩:=hr<;>cases h);obtain⟨mb,lv,ik,gw,hr⟩:=hr;have y1:S1 r1=none:=b7;have gS:Sub O S3:=fun j o h=>gw j o (fR j o (hS j o h)) (Au (hS j o h) b7).symm (Au (hS j o h) d7).symm;have gr:km ra1 ra2 c.j6.length aM aL S3:=⟨gw _ _ fo.o1 (Au d5.o1 b7).symm (Au d5.o1 d7).symm,gw _ _ fo.o2 (Au d5.o2 b7).symm (Au d5.o2 d7).symm,d5.l1,d5.l2,d5.ne⟩;rw[Pf]at hr;rcases hr with⟨b7,b8,fE⟩|⟨b7,b8⟩
   ·cases b8;have fg:B6 p c=none:=by rw[fp];exact Id (by rw[hR];exact Mg (VM (s:=⟨sp,se,sn⟩) _ b7))
    refine gz ?_ o50;exact kM (U':=S3) ⟨gS,by rw[fg]⟩ (hZ:=Sub.refl _)
   ·cases b8;obtain⟨t1,t2,t3,t4⟩:=VL (p:=p) (c:=c) (s:=⟨sp,se,sn⟩) (jw aM aL) b7;simp only at t1 t2 t3 t4;obtain⟨sp0,rfl⟩:∃k:Nat,sp=(k:Int):=⟨sp.toNat,j0⟩;rw[show((sp0:Int)).toNat=sp0 by omega]at t3 t4;refine gz ?_ o50;refine loop6 ([2,3,7,8,9,10,11,12,14]++List.range' 62 53++List.range' 152 21) (fun (q:Nat) (mB:List Bool) (lV:List jO) (aM2:List Bool) (aL2:List jO) (S4:Sig)=>sp0<=q/\q<=c.j6.length/\km r1 r2 c.j6.length mB lV S4/\km ra1 ra2 c.j6.length aM2 aL2 S4/\Sub O S4/\Bm p c ⟨(sp0:Int),se,sn⟩ Ea (jw aM aL)=Dq p c se sn Ea (c.j6.length-q) q (jw mB lV) (jw aM2 aL2)/\BdM se q (jw mB lV)) (fun q _ _ _ _ _=>[(13,dI q)]) (fun _ _ _ _ _ S4=>S4) (fun q _ _ _ _ _=>c.j6.length-q) (sp0) (mb) (lv) (aM) (aL) (S3) (by exact⟨j0,j0,ik,gr,gS,t4,by rw[t3];exact PZ _ _ _⟩) (fun q mB lV aM2 aL2 S4 hI=>?_);obtain⟨iD,iC,fW,fm,gv,hG,gB⟩:=hI
    by_cases hq:q<c.j6.length
    ·have o1:=fW.o1;have gE:q<mB.length:=by rw[fW.l1];exact hq
     cases hb:mB[q]with
     |false=>
      have hn:jw mB lV q=none:=by unfold jw;rw[aE];rw[aQ,aD gE,hb];simp
      refine gf (gi o1 hb) ?_ o50;exact⟨q+1,mB,lV,aM2,aL2,S4,⟨j0,j0,fW,fm,gv,by rw[hG,go_skip hq hn],gB.mono j0⟩,td1,wkR⟩
     | true =>
      refine gf hq ?_ o50;refine gf (gi o1 hb) ?_ o50;have hm:jw mB lV q=some (lV.getD q ⟨0,0⟩):=by unfold jw;rw[aG];rw[aQ,aD gE,hb];rfl
      obtain⟨b1,b2,b3,b4⟩:=gB q _ hm;have fM:=NY _ _ fN q _ (aD hq);rw[co]at fM;have hu:=fun gV:(An c q).op=19=>(show 0<=(An c q).a/\(An c q).a<p.ai.length by rw[M0 hq]at gV⊢; unfold kH at fM;rw[gV]at fM;simpa using fM)
      have fD:0<=(Af p (An c q)).1/\(Af p (An c q)).1<=3/\0<=(Af p (An c q)).2/\(Af p (An c q)).2<=1:=by
       have:=gL (An c q).a.toNat
       unfold Af
       repeat' split
       all_goals simp only;omega
      refine OF (UD p c r1 r2 q se sn mB lV S4 hp h2 hq fW hu fD ⟨b1,j0,j0,j0⟩) (fun d S5 hr=>?_) (fun d S5 hr=>by obtain⟨_,_,_,_,⟨_,h⟩|⟨_,h⟩⟩:=hr<;>cases h);obtain⟨mb5,lv5,c9,d6,hr⟩:=hr;have gR:Sub O S5:=fun j o h=>d6 j o (gv j o h) (Au (hS j o h) y1).symm (Au (hS j o h) d7).symm;rcases hr with⟨fv,gm⟩|⟨fv,gm⟩
      ·cases gm;have fg:B6 p c=none:=by rw[fp];exact Id (by rw[hR];exact Mg (by rw[hG];exact go_none hq hm fv))
       refine gz ?_ o50;refine cndB (b:=true) (fun _=>?_) (fun h=>by cases h);refine gz ?_ o50;exact kM (U':=S5) ⟨gR,by rw[fg]⟩ (hZ:=Sub.refl _)
      ·cases gm
       dsimp only[putD]
       have fF:jw mb5 lv5 q=some (lV.getD q ⟨0,0⟩):=by
        rcases Jg fv (hj q) q with h|⟨h,_⟩
        ·rw[h,hm]
        ·omega
       have gH:lv5.getD q ⟨0,0⟩=lV.getD q ⟨0,0⟩:=by
        unfold jw at fF;split at fF
        ·simpa using fF
        ·cases fF
       have fc:q<lv5.length:=by rw[c9.l2];exact hq
       have ii:lv5[q]=lV.getD q ⟨0,0⟩:=by rw[<-gH,aQ,aD fc];rfl
       have fb:=LX lv5 q fc;have eU:((lv5.map jm).flatten).length=c.j6.length*2:=by rw[Aj (sz:=2) (fun e he=>by obtain⟨x,_,rfl⟩:=aZ.1 he;rfl)];simp;have:=c9.l2;omega
       have o2:=c9.o2;rw[ii]at fb;have gA:=RI (p:=p) (c:=c) ⟨fD.1,fD.2.2.1,fD.2.2.2⟩ fv gB hm;generalize hF:(lv5.map jm).flatten=F at o2 fb eU;have fy:q*2+2<=F.length:=by omega
       clear hu fD fM fF gH b1 b2 b3 b4;refine gf (gi o2 (gi fb eU)) ?_ o50;have gq:km ra1 ra2 c.j6.length aM2 aL2 S5:=⟨d6 _ _ fm.o1 (Au d5.o1 y1).symm (Au d5.o1 d7).symm,d6 _ _ fm.o2 (Au d5.o2 y1).symm (Au d5.o2 d7).symm,fm.l1,fm.l2,fm.ne⟩;refine OF (D8 ra1 ra2 c.j6.length aM2 aL2 (q:Int) (lV.getD q ⟨0,0⟩) S5 h2 gq) (fun d S6 hr=>?_) (fun d S6 hr=>by obtain⟨_,_,_,_,⟨_,h,_⟩|⟨_,h⟩⟩:=hr<;>cases h);obtain⟨aM6,aL6,fX,fA,hr⟩:=hr;have gQ:Sub O S6:=fun j o h=>fA j o (gR j o h) (Au h fk).symm (Au h eZ).symm;rcases hr with⟨go,gn,iJ⟩|⟨go,gn⟩
       ·cases gn;have fg:B6 p c=none:=by rw[fp];exact Id (by rw[hR];exact Mg (by rw[hG];exact Wv hq hm fv go))
        refine gz ?_ o50;refine cndB (b:=true) (fun _=>?_) (fun h=>by cases h);refine gz ?_ o50;exact kM (U':=S6) ⟨gQ,by rw[fg]⟩ (hZ:=Sub.refl _)
       ·cases gn
        dsimp only[putD]
        have gu:km r1 r2 c.j6.length mb5 lv5 S6:=⟨fA _ _ c9.o1 (Au d5.o1 y1) (Au d5.o2 y1),fA _ _ c9.o2 (Au d5.o1 d7) (Au d5.o2 d7),c9.l1,c9.l2,c9.ne⟩;refine gz ?_ o50;refine cndB (b:=false) (fun h=>by cases h) (fun _=>?_);refine gz ?_ o50;exact⟨q+1,mb5,lv5,aM6,aL6,S6,⟨j0,j0,gu,fX,gQ,by rw[hG,go_some hq hm fv go],gA⟩,td1,wkR⟩
    ·have iz:Bm p c ⟨(sp0:Int),se,sn⟩ Ea (jw aM aL)=some (jw aM2 aL2):=by rw[hG,show c.j6.length-q=0 by omega];rfl
     refine gf hq ?_ o50;refine cndB (b:=false) (fun h=>by cases h) (fun _=>?_);refine gz ?_ o50;exact⟨i+1,aM2,aL2,S4,⟨j0,fm,gv,by rw[hR,XI iz]⟩,td1,wkR⟩
  ·have gT:DU p c (stsP p c) (fun _=>none)=some (jw aM aL):=by rw[hR,List.drop_eq_nil_of_le j0];rfl
   have o1:=d5.o1;have o2:=d5.o2;have gk:¬i<=c.jG.length:=by omega
   refine gf gk ?_ o50;refine cndB (b:=false) (fun h=>by cases h) (fun _=>?_);refine gz ?_ o50;refine Bz [7,169,170,171,172] (fun (k:Nat)=>k<=c.j6.length /\ ∀j,j<k->aM.getD j false=true) (fun k=>[(14,dI k)]) (fun _=>S1) (fun k=>c.j6.length-k) (0) (by exact⟨j0,fun j hj=>by omega⟩) (fun k hI=>?_);obtain⟨hk,fQ⟩:=hI
   by_cases fH:k<c.j6.length
   ·have gI:k<aM.length:=by rw[d5.l1];exact fH
    cases hb:aM[k]with
    |false=>
     have fg:B6 p c=none:=by rw[fp];exact Qw gT fH (by rw[aQ,aD gI,hb];rfl)
     repeat first|refine gf (gi o1 (gi hb fH)) ?_ o50|refine cndB (b:=true) (fun _=>?_) (fun h=>by cases h)|refine cndB (b:=false) (fun h=>by cases h) (fun _=>?_)
     exact kM (U':=S1) ⟨hS,by rw[fg]⟩ (hZ:=Sub.refl _)
    | true =>
     repeat first|refine gf (gi o1 (gi hb fH)) ?_ o50|refine cndB (b:=true) (fun _=>?_) (fun h=>by cases h)|refine cndB (b:=false) (fun h=>by cases h) (fun _=>?_)
     have fP:∀j,j<k+1->aM.getD j false=true:=fun j hj=>by
      rcases Nat.lt_succ_iff_lt_or_eq.1 hj with h|rfl
      ·exact fQ j h
      ·rw[aQ,aD gI,hb];rfl
     exact⟨k+1,⟨j0,fP⟩,td1,wkR⟩
   ·have fg:B6 p c=some aL:=by rw[fp];exact Qx gT (fun j hj=>fQ j j0) d5.l2
    repeat first|refine gf fH ?_ o50|refine cndB (b:=false) (fun h=>by cases h) (fun _=>?_)
    have hlen:(aL.map jm).length=c.j6.length:=by rw[aN,d5.l2]
    have ga:jN S1 2 (.row ra2 c.j6.length []) (aL.map jm):=⟨by rw[bl];exact o2,by rw[bl,Aj (sz:=2) (fun e he=>by obtain⟨x,_,rfl⟩:=aZ.1 he;rfl),hlen];exact bU _,by rw[hlen];exact bU _,fun e he=>by obtain⟨x,_,rfl⟩:=aZ.1 he;rfl⟩;refine VB (t:=4) ga (fun S2 fI=>?_) (by rw[hlen];exact Ay tdR);exact kM (U':=S2) ⟨fun j o h=>fI j o (hS j o h) (Au h eZ).symm,by rw[fg]⟩ (hZ:=Sub.refl _)
end Go.DL
namespace Go.DL
open Go.Proofs.Tryz
open Go Go.Proofs
set_option maxHeartbeats 8000000
def KX{p:aw}{c:jD}{lv:List jO}(h:B6 p c=some lv):c.j6.length<=300:=by
 rw[H2 p c]at h;cases hL:Cp p c with
 |none=>rw[hL]at h;cases h
 |some W=>
  unfold Cp at hL;split at hL
  ·rename_i h;simp only[aF,aH]at h;exact h.2.1
  ·cases hL
def lenS(n:Nat)(s:GoS):Prop:=s.jA.length<=n/\s.j7.length<=n/\s.jW.length<=n /\ ∀x∈s.jW,x.vals.length<=1
def lenH(n:Nat)(h:GoH):Prop:=h.args.length<=n/\h.jA.length<=n/\h.j7.length<=n/\h.jW.length<=n /\ ∀x∈h.jW,x.vals.length<=1
def SO(n:Nat):GoS ⊕ GoH->Prop
 |.inl t=>lenS (n+1) t
 |.inr h=>lenH (n+1) h
def SN{n:Nat}{c:Prop}[Decidable c]{a b:GoS ⊕ GoH}(h1:SO n a)(h2:SO n b):SO n (if c then a else b):=by split<;>assumption
def Qq{p:aw}{w:jY}{x:jI}{s:GoS}{n:Nat}(h:lenS n s):SO n (FL p w x s):=by
  obtain⟨h1,h2,h3,h4⟩:=h;rw[FL]
  repeat' (refine SN ?_ ?_)
  all_goals simp only[SO,lenS,lenH,Dv,aC,List.length_dropLast,aT,cu,cF,cn]
  all_goals refine⟨j0,j0,j0,?_⟩
  all_goals first
    |exact h4
    |exact⟨j0,h4⟩
    | (intro y hy
       rcases bJ.1 hy with hy|hy
       · exact h4 y hy
       · rw[bC]at hy;subst hy;simp)
def P8{p:aw}{w:jY}{c:jD}: ∀(f n:Nat) (s:GoS),lenS n s->lenH (n+f+1) (mRun p w c f s)
 |0,n,s,h=>by
  obtain⟨h1,h2,h3,h4⟩:=h;rw[mRun];exact⟨by simp[Dv],by simp[Dv],by simp[Dv],by simp only[Dv];omega,h4⟩
 | f+1,n,s,h=>by
  rw[mRun];have hk:=Qq (p:=p) (w:=w) (x:=An c s.pos.toNat) (s:={ s with pos:=s.pos+1 }) (n:=n) h;cases e:FL p w (An c s.pos.toNat) { s with pos:=s.pos+1 } with
  |inl t=>
   rw[e]at hk;have:=P8 (p:=p) (w:=w) (c:=c) f (n+1) t hk;rw[show n+1+f+1=n+(f+1)+1 by omega]at this;exact this
  |inr h'=>
   rw[e]at hk;obtain⟨k1,k2,k3,k4,k5⟩:lenH (n+1) h':=hk
   show lenH _ h';exact⟨j0,j0,j0,j0,k5⟩
def goC_len{p:aw}{c:jD}{j3:List jF}{pos:Int}{jA j7:List jH}(fj:jA.length<=1048576)(gM:j7.length<=1048576):(fun h:GoH=>lenH 1048877 h/\h.j3.length<=40 /\ ∀x∈h.j3,x.ac.length<=40) ((goC p (A0 p) c j3 pos jA j7).getD DJ):=by
 have hz:(fun h:GoH=>lenH 1048877 h/\h.j3.length<=40 /\ ∀x∈h.j3,x.ac.length<=40) DJ:=by
  refine⟨⟨by simp[DJ],by simp[DJ],by simp[DJ],by simp[DJ],fun x h=>by simp[DJ]at h⟩,by simp[DJ],fun x h=>by simp[DJ]at h⟩
 unfold goC;cases hL:B6 p c with
 |none=>exact hz
 | some lv =>
  simp only
  by_cases hg:(AI (A0 p) j3&&C5 lv j3.length pos jA j7)=true
  ·rw[aG hg,ba];simp only[aF]at hg;obtain⟨fw,hlen,fS⟩:=G6 hL;have hI:=(JJ (jW:=[]) hg.1).1 hg.2;have ic:∀n:Nat,0<=p.ai.getD n 0:=fun n=>(DY fw n).1;have hH:=(MG ic (LD fw) fS c.j6.length _ hI (by simp only;omega)).j3;have fU:=KX hL;have hm:=P8 (p:=p) (w:=A0 p) (c:=c) c.j6.length 1048576 ⟨j3,[],pos,jA,j7⟩ ⟨fj,gM,j1,fun x h=>by simp at h⟩;rw[AE]at hH;obtain⟨k1,k2,k3,k4,k5⟩:=hm;refine⟨⟨j0,j0,j0,j0,k5⟩,hH.1,fun x hx=>?_⟩;have:=hH.2 x hx;rw[this.2.1];exact DI fw _
  ·rw[aE hg];exact hz
def Xg(p:aw)(c:jD)(j3:List jF)(pos:Int)(jA j7:List jH)(o1:Own)(O:Sig)(hp:p.wt<=1073741824)(gO:c.j6.length<=1073741824)(gN:c.jG.length<=1073741824)(iF:j3.length<=1073741824)(gD:∀x∈j3,x.ac.length<=1073741824)(fj:jA.length<=1073741824)(gM:j7.length<=1073741824):
  ar prog 14 [.agg (A7 p),.agg (cCPg c),.slice (j3.map cTh) o1,.agg (cFr pos jA j7)] O (rS (.tup [.agg (Cl ((goC p (A0 p) c j3 pos jA j7).getD DJ)),dI (if(goC p (A0 p) c j3 pos jA j7).isSome then 0 else 2)]) O):=by
 obtain⟨H,hH⟩:∃H,H=goC p (A0 p) c j3 pos jA j7:=⟨_,rfl⟩;rw[<-hH];refine en func14 ntmps14 ?_;refine gz ?_;refine je (fun i8 gJ=>?_);have o8:(O.set i8 (.cells [dI 0,dI 0,dI 0,dI 0,.aj,dI 0,dI 0,.aj,.aj,.aj,.aj])) i8=_:=w6 ..;have iq:Sub O (O.set i8 (.cells [dI 0,dI 0,dI 0,dI 0,.aj,dI 0,dI 0,.aj,.aj,.aj,.aj])):=(Sub.refl _).set gJ;generalize O.set i8 (.cells [dI 0,dI 0,dI 0,dI 0,.aj,dI 0,dI 0,.aj,.aj,.aj,.aj])=Sa at*;refine gz ?_;refine A3 (WX p c Sa hp gO gN) (fun d S1 hr=>?_) (fun d S1 hr=>?_)
 rotate_left
 ·obtain⟨_,hr⟩:=hr;split at hr<;>cases hr
 obtain⟨fR,hr⟩:=hr;have o8':=fR _ _ o8;have fin0:∀z,Sub O (S1.set i8 z):=fun z j o hj=>by rw[w7 _ _ (AF hj gJ)];exact fR _ _ (iq j o hj)
 cases hL:B6 p c with
 |none=>
  rw[hL]at hr;cases hr;have hn:H=none:=by rw[hH];unfold goC;rw[hL]
  refine gf o8' ?_;refine jp (U':=O) (d:=.tup [.agg (Cl DJ),dI 2]) ⟨by rw[hn];rfl,rfl⟩ (hw:=?_) (hZ:=fin0 _);exact Ff ⟨H8,Ac _,trivial⟩
 | some lv =>
  rw[hL]at hr;cases hr;obtain⟨fw,hlen,fS⟩:=G6 hL;have fU:=KX hL;have fh:H=if AI (A0 p) j3&&C5 lv j3.length pos jA j7 then some (mRun p (A0 p) c c.j6.length ⟨j3,[],pos,jA,j7⟩) else none:=by rw[hH];unfold goC;rw[hL]
  have eX:=fun O:Sig=>Xd p j3 o1 O hp j0 (fun x hx=>by have:=gD x hx;omega)
  have fY:=fun O:Sig=>WW lv pos j3.length jA j7 O j0 j0 j0;rw[fw,bq]at eX;cases hO:AI (A0 p) j3 with
  |false=>
   rw[hO]at eX fh;have hn:H=none:=fh;have i17:∀O,Ans 17 [.agg (A7 p),.slice (j3.map cTh) o1] O True (.bool false):=fun O=>ah0 (eX O);refine gf o8' ?_;refine jp (U':=O) (d:=.tup [.agg (Cl DJ),dI 2]) ⟨by rw[hn];rfl,rfl⟩ (hw:=?_) (hZ:=fin0 _);exact Ff ⟨H8,Ac _,trivial⟩
  | true =>
   rw[hO,bq]at fh;rw[hO]at eX;have i17:∀O,Ans 17 [.agg (A7 p),.slice (j3.map cTh) o1] O True (.bool true):=fun O=>ah0 (eX O);cases hF:C5 lv j3.length pos jA j7 with
   |false=>
    rw[hF]at fY fh;have hn:H=none:=fh;have i51:∀O,Ans 51 [.slice (lv.map jm) .no,.agg (cFr pos jA j7),dI j3.length] O True (.bool false):=fun O=>ah0 (fY O);refine gf o8' ?_;refine jp (U':=O) (d:=.tup [.agg (Cl DJ),dI 2]) ⟨by rw[hn];rfl,rfl⟩ (hw:=?_) (hZ:=fin0 _);exact Ff ⟨H8,Ac _,trivial⟩
   | true =>
    rw[hF]at fY;rw[hF,aG rfl]at fh;have i51:∀O,Ans 51 [.slice (lv.map jm) .no,.agg (cFr pos jA j7),dI j3.length] O True (.bool true):=fun O=>ah0 (fY O)
    have hsz:jA.length<=900000/\j7.length<=900000:=by
     have gx:=hF;unfold C5 at gx;simp only[aF,aH]at gx;obtain⟨⟨f1,f2,f3,f4⟩,_,_⟩:=gx;have hk:pos.toNat<lv.length:=by omega
     have iB:=Pg hL pos.toNat _ (aD hk);rw[aD hk,ba]at f3 f4;omega
    have f8:∀x∈j3,x.ac.length<=1000000:=fun x hx=>by
     rw[((AE.1 hO).2 x hx).2.1];exact dW (DI fw _) j0
    have gU:=fun O:Sig=>WV p c lv j3 pos jA j7 o1 O hp hL fU (by have:=(AE.1 hO).1;omega) f8 hsz.1 hsz.2 hO hF
    generalize mRun p (A0 p) c c.j6.length ⟨j3,[],pos,jA,j7⟩=h at gU fh;have i52:∀O,Ans 52 [.agg (A7 p),.agg (cCPg c),.slice (j3.map cTh) o1,.agg (cFr pos jA j7)] O True (.agg [dI h.kind,dI h.val.kind,dI h.val.n,dI h.gen,sl (h.args.map j5),dI h.fin,dI h.pos,sl (h.jA.map j5),sl (h.j7.map j5),sl (h.j3.map cTh),sl (h.jW.map cEv)]):=fun O=>ah0 (gU O);refine gf o8' ?_;refine jp (U':=O) (d:=.tup [.agg (Cl h),dI 0]) ⟨by rw[fh];rfl,rfl⟩ (hw:=Ac _) (hZ:=fin0 _)
def exB:aw:=⟨[⟨[],[0],[⟨0,7⟩]⟩,⟨[3],[1],[]⟩,⟨[4,3],[],[⟨0,1⟩]⟩],2,[1],[⟨1,0,.mk 2 0 [] 3 0 [],0⟩,⟨2,0,.mk 3 0 [0] 0 5 [],3⟩],
 [⟨17,0,[1]⟩,⟨4,0,[2]⟩,⟨3,0,[]⟩,⟨9,0,[4,5]⟩,⟨3,0,[]⟩,⟨3,1,[]⟩,⟨5,0,[7]⟩,⟨6,5,[]⟩],6⟩
def exC:jD:=⟨[⟨3,0⟩,⟨5,0⟩,⟨7,0⟩,⟨21,0⟩,⟨3,0⟩,⟨14,0⟩,⟨3,1⟩,⟨15,0⟩,⟨21,0⟩,⟨4,5⟩,⟨19,0⟩,⟨21,0⟩],[0,4],9⟩
def exL:List jO:=[⟨0,1⟩,⟨1,1⟩,⟨1,1⟩,⟨1,1⟩,⟨0,1⟩,⟨1,1⟩,⟨0,2⟩,⟨1,2⟩,⟨1,1⟩,⟨0,0⟩,⟨1,0⟩,⟨1,0⟩]
def L2{l m:eP}(h:∀x,x∈l ↔ x∈m): ∀(a:List jv) (seen:eP),Dm l seen a=Dm m seen a
 |[],_=>rfl
 |x::r,seen=>by rw[Dm,Dm,L2 h r,decide_eq_decide.2 (h x.slot)]
def JD(p:aw):Nat->List ax->Bool
 |_,[]=>true
 |i,c::r=>decide (linE (p.aa.map (·.ae)) ((i:Int)+3)=0)&&Dm (hasG p.aa (((i:Int)+3)-2).toNat [((i:Int)+3)] []) [] c.ah&&JD p (i+1) r
def IB(p:aw): ∀(l:List ax) (i:Nat),AS p i l=JD p i l
 |[],_=>rfl
 |c::r,i=>by
  rw[AS,JD,IB p r]
  congr 2
  exact L2 (fun x=>by unfold hasP Fi;exact List.mem_mergeSort) _ _
def Xm:AS exB 0 exB.aa=true:=by rw[IB];decide +kernel
def QW:Am exB=true:=by
 unfold Am;have h1:AT 0 exB.aa=some 2:=by decide +kernel
 have h2:Bk (exB.aa.map (·.ae))=true:=by decide +kernel
 have h3:decide (exB.aa.length<=10)=true:=by decide +kernel
 have h4:decide ((2:Int)=exB.ac)=true:=by decide +kernel
 rw[h1,h3];simp only[h2,h4,Xm,Bool.and_self,Bool.and_true]
def Xl:okP exB=true:=by
 unfold okP DH;rw[QW]
 decide +kernel
def XN:Fi [1,0]=[0,1]:=by simp[Fi,List.mergeSort,List.MergeSort.Internal.splitInTwo,List.merge]
def ex_has5:hasP exB 5=[0,1]:=by
 unfold hasP;rw[show hasG exB.aa ((5:Int)-2).toNat [5] []=[1,0] by decide +kernel,XN]
def ex_has4:hasP exB 4=[0,1]:=by
 unfold hasP;rw[show hasG exB.aa ((4:Int)-2).toNat [4] []=[1,0] by decide +kernel,XN]
def ex_has3:hasP exB 3=[0]:=by
 unfold hasP;rw[show hasG exB.aa ((3:Int)-2).toNat [3] []=[0] by decide +kernel];simp[Fi]
def V4:D9 exB 5=[⟨0,1⟩]:=by unfold D9;rw[ex_has5];decide +kernel
def V5:D9 exB 4=[⟨0,7⟩]:=by unfold D9;rw[ex_has4];decide +kernel
def V6:D9 exB 3=[⟨0,7⟩]:=by unfold D9;rw[ex_has3];decide +kernel
def exW:jY:=⟨fun c=>decide (3<=c)&&decide (c<6),fun c=>if c=3 then [0] else if c=4 then [0,1] else if c=5 then [0,1] else hasP exB c,
 fun c=>if c=3 then [jZ 7] else if c=4 then [jZ 7,DS] else if c=5 then [jZ 1,DS] else(hasP exB c).map (frV (D9 exB c))⟩
def M6:A0 exB=exW:=by
 unfold A0 exW;rw[Xl]
 congr 1
 ·funext c
  unfold jT;simp[exB]
 ·funext c
  split
  ·rename_i e;subst e;exact ex_has3
  split
  ·rename_i e;subst e;exact ex_has4
  split
  ·rename_i e;subst e;exact ex_has5
  rfl
 ·funext c
  split
  ·rename_i e;subst e;rw[ex_has3,V6];rfl
  split
  ·rename_i e;subst e;rw[ex_has4,V5];rfl
  split
  ·rename_i e;subst e;rw[ex_has5,V4];rfl
  rfl
theorem ex_code:OE exB=exC:=by unfold OE;rw[aG Xl];kernel_rfl
def HN:B6 exB exC=some exL:=by
 unfold B6;rw[Xl]
 kernel_rfl
def V3:(Cp exB exC).map (F2 exC)=some exL:=by rw[<-H2,HN]
def exH1:GoH:=⟨2,vZ,0,[vObj 0],0,11,[],[],[⟨5,[jZ 1,DS]⟩],[]⟩
def exH2:GoH:=⟨1,jZ 1,0,[],0,0,[],[],[⟨5,[jZ 1,DS]⟩],[⟨2,0,[jZ 1]⟩]⟩
def exH3:GoH:=⟨4,vZ,0,[],5,0,[],[],[],[]⟩
def ex_go1:goC exB (A0 exB) exC [] 9 [] []=some exH1:=by
 unfold goC;rw[HN,M6]
 kernel_rfl
def ex_go2:goC exB (A0 exB) exC [⟨5,[jZ 1,DS]⟩] 0 [] [vObj 0]=some exH2:=by
 unfold goC;rw[HN,M6]
 kernel_rfl
def ex_go3:goC exB (A0 exB) exC [] 0 [] [jZ 3]=some exH3:=by
 unfold goC;rw[HN,M6]
 kernel_rfl
def Xk:EX exC=true:=by decide +kernel
def V0:Mr exC=[48,32,52,32,58,32,57,10,110,97,109,101,32,48,10,115,108,111,116,32,48,10,111,117,116,10,101,110,100,10,110,97,109,101,32,48,10,108,101,116,10,110,97,109,101,32,49,10,100,114,111,112,10,101,110,100,10,110,101,119,32,53,10,99,97,108,108,32,48,10,101,110,100,10]:=by decide +kernel
theorem XZ:exL.length=12:=rfl
def PC:(Kb exC).length=25:=by decide +kernel
end Go.DL
