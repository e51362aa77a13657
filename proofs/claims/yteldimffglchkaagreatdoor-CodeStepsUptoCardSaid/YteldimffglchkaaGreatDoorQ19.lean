/- A part of the proof. -/
import Derived.Test.YteldimffglchkaaGreatDoorQ18
import Derived.Test.YteldimffglchkaaGreatDoorQ17
import Derived.Test.YteldimffglchkaaGreatDoorRows
import Derived.WideKeyArgs
import Derived.ChangeSame
import Derived.WalkKit
import Derived.ProofKit
import Derived.OpenShut
import Derived.JoinedCond
import Derived.Test.YteldimffglchkaaGreatDoorCards
import Derived.Test.YteldimffglchkaaGreatDoorTie
import Derived.Deep.DeepHandedRow
import Derived.Lib.LaidTab
set_option linter.all false
namespace Go.DL
open Go.Proofs.Tryz
open Go Go.Proofs
def El(w:World)(c:Int):Nat->Nat->eP
 |0,_=>[]
 |n+1,k=>if hasW w c k=true then(k:Int)::El w c n (k+1) else El w c n (k+1)
def GM(w:World)(c:Int):eP:=El w c w.jQ.length 0
theorem I4(w:World)(c:Int): ∀(n k:Nat) (s:Int),s∈El w c n k ↔ (k:Int)<=s/\s<k+n/\hasW w c s=true
 |0,k,s=>by rw[El];simp;omega
 | n+1,k,s=>by
  rw[El];have h:=I4 w c n (k+1) s;split
  ·rename_i hw;rw[aY,h];constructor
   ·rintro(rfl|⟨a,b,d⟩)
    ·exact⟨j0,j0,hw⟩
    ·exact⟨j0,j0,d⟩
   ·rintro⟨a,b,d⟩
    by_cases e:s=k
    ·exact .inl e
    ·exact .inr ⟨j0,j0,d⟩
  ·rename_i hw;rw[h];constructor
   ·rintro⟨a,b,d⟩;exact⟨j0,j0,d⟩
   ·rintro⟨a,b,d⟩
    exact⟨by have:s≠k:=fun e=>hw (e ▸ d);omega,j0,d⟩
theorem Fj(w:World)(c:Int): ∀(n k:Nat),(El w c n k).Pairwise (· < ·)
 |0,_=>by rw[El];exact .nil
 |n+1,k=>by
  rw[El];split
  ·exact .cons (fun s hs=>by have:=(I4 w c n (k+1) s).1 hs;omega) (Fj w c n (k+1))
  ·exact Fj w c n (k+1)
theorem KJ(w:World)(c:Int): ∀(n k:Nat),(El w c n k).length<=n
 |0,_=>by simp[El]
 |n+1,k=>by
  have:=KJ w c n (k+1);rw[El];split<;>simp<;>omega
theorem KI: ∀(a b:eP),a.Pairwise (· < ·)->b.Pairwise (· < ·)->(∀x,x∈a ↔ x∈b)->a=b
 |[],[],_,_,_=>rfl
 |[],y::b,_,_,h=>absurd ((h y).2 j1) j1
 |x::a,[],_,_,h=>absurd ((h x).1 j1) j1
 | x::a,y::b,ha,hb,h=>by
  rw[List.pairwise_cons]at ha hb
  have e:x=y:=by
   rcases aY.1 ((h x).1 j1)with e|h1
   ·exact e
   ·rcases aY.1 ((h y).2 j1)with e|h2
    ·exact e.symm
    ·have:=ha.1 y h2;have:=hb.1 x h1;omega
  subst e;rw[KI a b ha.2 hb.2 fun z=>⟨fun hz=>?_,fun hz=>?_⟩]
  ·rcases aY.1 ((h z).1 (cd _ hz))with e|h1
   ·have:=ha.1 z hz;omega
   ·exact h1
  ·rcases aY.1 ((h z).2 (cd _ hz))with e|h1
   ·have:=hb.1 z hz;omega
   ·exact h1
theorem Hj: ∀(l:eP) (n m:Int),CA n l=some m->l.Pairwise (· < ·)
 |[],_,_,_=>.nil
 | x::r,n,m,h=>by
  rw[CA]at h;split at h
  ·rename_i hx;exact .cons (fun s hs=>by have:=(I6 r _ _ h s).1 hs;omega) (Hj r _ _ h)
  ·cases h
theorem ID: ∀(cs:List ax) (n m:Int),AT n cs=some m->∀c∈cs,c.ac.Nodup
 |[],_,_,_,c,hc=>by simp at hc
 | x::r,n,m,h,c,hc=>by
  rw[AT]at h;split at h
  ·cases h
  ·split at h
   ·cases h
   ·rename_i m1 hm;rcases aY.1 hc with rfl|hc
    ·exact(Hj _ _ _ hm).imp fun {a b} (gq:a<b)=>by omega
    ·exact ID r _ _ h c hc
theorem Ig{cs:List ax}{N:Int}(hc:AT 0 cs=some N): ∀(n:Nat) (up out:eP),n<=cs.length->out.Nodup->(∀s∈out, ∀(k:Nat) (hk:k<cs.length),k<n->s∉(cs[k]).ac)->(hasG cs n up out).Nodup
 |0,_,_,_,ho,_=>by rw[hasG];exact ho
 | n+1,up,out,hn,ho,hd=>by
  rw[hasG,aD j0];simp only;split
  ·refine Ig hc n _ _ j0 (ex.2 ⟨ho,ID _ _ _ hc _ (aK _),fun a ha b hb e=>hd a ha n j0 j0 (e ▸ hb)⟩) fun s hs k hk fW eX=>?_;rcases bJ.1 hs with hs|hs
   ·exact hd s hs k hk j0 eX
   ·have h1:=((Hn cs 0 0 N hc s k hk).1 eX).2.2;have h2:=((Hn cs 0 0 N hc s n j0).1 hs).2.2;rw[h1]at h2;omega
  ·exact Ig hc n _ _ j0 ho fun s hs k hk fW=>hd s hs k hk j0
theorem Bw{p:aw}(h:Am p=true): ∃N,AT 0 p.aa=some N/\N=p.ac/\Bk (p.aa.map (·.ae))=true/\AS p 0 p.aa=true:=by
 unfold Am at h;simp only[aF,aH]at h;obtain⟨_,h⟩:=h;split at h
 ·cases h
 ·simp only[aF,aH]at h;exact⟨_,by assumption,h.1.1,h.1.2,h.2⟩
theorem JG{p:aw}{N:Int}(hc:AT 0 p.aa=some N){c:Int}(h:c<3+p.aa.length):(hasP p c).Pairwise (· < ·):=by
 have h1:(hasP p c).Pairwise (fun a b=>decide (a<=b)=true):=List.pairwise_mergeSort (fun a b c=>by simp only[aH];omega) (fun a b=>by simp only[bR,aH];omega) _;have h2:(hasP p c).Nodup:=(List.mergeSort_perm _ _).nodup_iff.2 (Ig hc _ _ [] j0 j1 j1);exact(h1.and h2).imp fun {a b} h=>by have:=h.1;have:=h.2;simp only[aH]at*; omega
theorem L7{p:aw}(h:Am p=true){c:Int}(h1:3<=c)(h2:c<3+p.aa.length):hasP p c=GM (AG p) c:=by
 obtain⟨N,hc,_,hg,_⟩:=Bw h;refine KI _ _ (JG hc h2) (Fj _ _ _ _) fun s=>?_;obtain⟨i,rfl⟩:∃i:Nat,c=(i:Int)+3:=⟨(c-3).toNat,j0⟩;have gb:=Fm p.aa 0;obtain⟨hN,_,_⟩:=GB _ _ _ hc;have fM:(AG p).jQ=ownersF p.aa 0:=rfl;unfold GM;rw[Pt hg hc j0,I4,fM];constructor
 ·rintro⟨⟨a,b⟩,d⟩;exact⟨j0,j0,d⟩
 ·rintro⟨a,b,d⟩;exact⟨⟨j0,j0⟩,d⟩
def begI(p:aw)(s c:Int):List jv:=if jT p c=true then((((p.aa[(c-3).toNat]?).map (·.ah)).getD []).filter fun x=>decide (x.slot=s)) else []
def begO(p:aw)(s:Int):eP->List jv
 |[]=>[]
 |c::r=>if begI p s c=[] then begO p s r else begI p s c
def HX(p:aw)(order:eP):eP->List jv
 |[]=>[]
 |s::r=>begO p s order++HX p order r
theorem Fq(b8:eP): ∀(l:List jv) (seen:eP),Dm b8 seen l=true->∀s,(s∈seen->l.filter (fun x=>decide (x.slot=s))=[])/\(l.filter (fun x=>decide (x.slot=s))).length<=1
 |[],_,_,_=>by simp
 | x::r,seen,h,s=>by
  rw[Dm]at h;simp only[aF,bp,aH,bh]at h;obtain⟨⟨⟨_,hx⟩,_⟩,hr⟩:=h;obtain⟨h1,h2⟩:=Fq b8 r _ hr s;rw[cw]
  by_cases e:x.slot=s
  ·rw[aG (by simpa using e)];have:=h1 (by rw[<-e];simp);rw[this];exact⟨fun hs=>absurd (e ▸ hs) hx,j1⟩
  ·rw[aE (by simpa using e)];exact⟨fun hs=>h1 (by simp[hs]),h2⟩
theorem E6{p:aw}: ∀{cs:List ax}{i:Nat},AS p i cs=true->∀(k:Nat) (hk:k<cs.length), ∃b8,Dm b8 [] (cs[k]).ah=true
 |c::r,i,h,0,_=>by rw[AS]at h;simp only[aF,aH]at h;exact⟨_,h.1.2⟩
 |c::r,i,h,k+1,hk=>by
  rw[AS]at h;simp only[aF,aH]at h;exact E6 h.2 k (by simpa using hk)
theorem FW(s:Int): ∀(l:List jv) (m:List (Int×Int)),(l.filter (fun x=>decide (x.slot=s))).length<=1->
  hasM s (BE l m)=(hasM s m||decide (l.filter (fun x=>decide (x.slot=s))≠[])) /\ ∀x,l.filter (fun x=>decide (x.slot=s))=[x]->getM 0 s (BE l m)=x.n
   /\ True
 |[],m,_=>by simp[BE]
 | y::r,m,h=>by
  rw[BE]
  have hz:∀(l:List jv) (m:List (Int×Int)),l.filter (fun x=>decide (x.slot=s))=[]->getM 0 s (BE l m)=getM 0 s m:=fun l=>by
   induction l with
   |nil=>intro m _;rfl
   | cons z l ih =>
    intro m hl;rw[cw]at hl;split at hl
    ·cases hl
    ·rename_i hz;rw[BE,ih _ hl,DA,aE fun e=>hz (by simpa using e.symm)]
  rw[cw]at h⊢
  by_cases e:y.slot=s
  ·rw[aG (by simpa using e)]at h⊢
   have hr:r.filter (fun x=>decide (x.slot=s))=[]:=by
    rw[aS]at h;exact bf.1 j0
   obtain⟨h1,h2⟩:=FW s r (jS y.slot y.n m) (by rw[hr];simp);rw[h1,hr,Ft,e];refine⟨j1,fun x hx=>?_⟩;cases hx;rw[hz _ _ hr,DA,aG rfl];exact⟨rfl,trivial⟩
  ·rw[aE (by simpa using e)]at h⊢;obtain⟨h1,h2⟩:=FW s r (jS y.slot y.n m) h;rw[h1,Ft,bk (p:=s=y.slot) fun e'=>e e'.symm,cO];exact⟨rfl,h2⟩
theorem Hm(s:Int): ∀(l:List jv) (m:List (Int×Int)),l.filter (fun x=>decide (x.slot=s))=[]->getM 0 s (BE l m)=getM 0 s m
 |[],_,_=>rfl
 | z::l,m,hl=>by
  rw[cw]at hl;split at hl
  ·cases hl
  ·rename_i hz;rw[BE,Hm s l _ hl,DA,aE fun e=>hz (by simpa using e.symm)]
theorem Ou{s:Int}{l:List jv}{x:jv}(h:l.filter (fun x=>decide (x.slot=s))=[x]):x=⟨s,x.n⟩:=by
 have:x∈l.filter (fun x=>decide (x.slot=s)):=by rw[h];simp
 have:=(bI.1 this).2;simp only[aH]at this;rw[<-this]
theorem N1{p:aw}(h:Am p=true)(s:Int): ∀order:eP,(∀y∈order,y<3+p.aa.length)->(if hasM s (DK p order)=true then [(⟨s,getM 0 s (DK p order)⟩:jv)] else [])=begO p s order
 |[],_=>rfl
 | c::r,ho=>by
  have ih:=N1 h s r fun y hy=>ho y (cd _ hy);have e:DK p (c::r)=Df p c (DK p r):=rfl;rw[e,begO];unfold Df begI
  by_cases h3:3<=c
  ·have hc:=ho c j1;have b6:jT p c=true:=by simp only[jT,aF,aH];exact⟨h3,hc⟩
   obtain⟨N,_,_,_,hi⟩:=Bw h;have hk:(c-3).toNat<p.aa.length:=by omega
   obtain⟨b8,hI⟩:=E6 hi _ hk;have hu:=(Fq b8 _ _ hI s).2;rw[aG h3,aG b6,aD hk];simp only[bx,ba];generalize (p.aa[(c-3).toNat]).ah=l at*;obtain⟨g1,g2⟩:=FW s l (DK p r) hu;rcases hf:l.filter (fun x=>decide (x.slot=s))with _|⟨x,_|⟨x2,r2⟩⟩
   ·have g3:hasM s (BE l (DK p r))=hasM s (DK p r):=by rw[g1,hf];simp
    rw[g3,Hm s l _ hf,aG hf];exact ih
   ·have g3:hasM s (BE l (DK p r))=true:=by rw[g1,hf];simp
    rw[aG g3,(g2 x hf).1,aE (by rw[hf];simp),hf,<-Ou hf]
   ·rw[hf]at hu;simp at hu
  ·have b6:jT p c=false:=by simp only[jT,dH,bh];exact .inl h3
   rw[aE h3];simp only[b6,bm,bc,bu];exact ih
theorem NT{p:aw}(h:Am p=true){order:eP}(ho:∀y∈order,y<3+p.aa.length): ∀hs:eP,beginL (DK p order) hs=HX p order hs
 |[]=>rfl
 |s::r=>by
  rw[beginL,HX,<-N1 h s order ho,<-NT h ho r];split<;>simp
theorem XH{p:aw}(h:Am p=true){c:Int}(h1:3<=c)(h2:c<3+p.aa.length):D9 p c=HX p (lineF (p.aa.map (·.ae)) c) (GM (AG p) c):=by
 obtain⟨N,_,_,hg,_⟩:=Bw h;unfold D9
 have e:kY (p.aa.map (·.ae)) c=lineF (p.aa.map (·.ae)) c:=by
  unfold kY;rw[aG ⟨hg,j0,by rw[aN];omega⟩]
 rw[e,L7 h h1 h2];refine NT h (fun y hy=>?_) _;obtain⟨x,hx,hy⟩:=Es hy;have:=Er hg _ x hx y hy;rw[aN]at this;omega
theorem PY{p:aw}(hk:Am p=true)(s:Int): ∀order:eP,(begO p s order).length<=1
 |[]=>by simp[begO]
 | c::r=>by
  rw[begO];split
  ·exact PY hk s r
  ·unfold begI;split
   ·rename_i ho;simp only[jT,aF,aH]at ho;obtain⟨N,_,_,_,hi⟩:=Bw hk;have fG:(c-3).toNat<p.aa.length:=by omega
    obtain⟨b8,hI⟩:=E6 hi _ fG;rw[aD fG];exact(Fq b8 _ _ hI s).2
   ·simp
theorem LB(m:List (Int×Int)): ∀l:eP,(beginL m l).length<=l.length
 |[]=>by simp[beginL]
 |s::r=>by
  have:=LB m r;rw[beginL];split<;>simp<;>omega
end Go.DL
namespace Go.DL
open Go.Proofs.Tryz
open Go Go.Proofs
set_option maxHeartbeats 8000000
theorem Ny(w:World)(c:Int)(O:Sig)(hb:Bk w.ae=true)(hc:0<=c/\c<3+w.ae.length)(ho:∀x∈w.jQ,0<=x/\x<3+w.ae.length)(hl:w.jQ.length<=1073741824):
  ar prog 128 [.agg (Dg w),dI c] O (rS (sl (cI (GM w c))) O):=by
 refine en func128 ntmps128 ?_
 try refine gz ?_
 refine ED 5 1 (fun i hi=>?_);refine BO [1,2,4,9,22] (fun (k:Nat) (out:eP)=>k<=w.jQ.length/\out.length<=k/\GM w c=out++El w c (w.jQ.length-k) k) (fun k out=>[(10,dI k),(5,.slice (cI out) (.tag i))]) (fun _ out=>O.set i (.tail 1 out.length)) (fun k _=>w.jQ.length-k) (0) ([]) (by(refine⟨j0,j1,rfl⟩)) (fun k out hI=>?_);obtain⟨hk,hlen,hR⟩:=hI
 by_cases fq:k<w.jQ.length
 ·obtain⟨n,hn⟩:∃n,w.jQ.length-k=n+1:=⟨w.jQ.length-k-1,j0⟩;have fE:w.jQ.length-(k+1)=n:=by omega
  rw[hn,El]at hR;have eU:=fun (O:Sig)=>Nl w c k O hb hc j0 ho
  repeat' first|refine gz ?_|refine Bh (eU _) ?_|refine callP (eU _) ?_|refine gz ?_|apply gy<;>intro hh
  ·rw[aG hh]at hR;exact⟨k+1,out++[(k:Int)],⟨j0,by simp;omega,by rw[hR,fE];simp⟩,td1,wkR⟩
  ·rw[aE (by rw[hh];simp)]at hR;exact⟨k+1,out,⟨j0,j0,by rw[hR,fE]⟩,td1,wkR⟩
 ·rw[show w.jQ.length-k=0 by omega,El,bl]at hR
  try refine gz ?_
  exact finS (U':=O) (es:=cI out) ⟨by rw[hR],rfl⟩
theorem F5(p:aw)(c:Int)(O:Sig)(hp:p.wt<=1073741824)(hk:Am p=true)(hc:3<=c/\c<3+p.aa.length):ar prog 215 [.agg (A7 p),dI c] O (rS (sl (cI (GM (AG p) c))) O):=by
 obtain⟨p1,p2,p3,p4,p5,p6,p7⟩:=p.wt_le;have hW:=J1 hp hk;have fU:(ownersF p.aa 0).length<=40:=hW.few
 have d5:∀c∈p.aa,c.ae.length<=1073741824/\c.ac.length<=1073741824:=fun c hc=>by
  obtain⟨k,hk,rfl⟩:=bT hc;have:=p5 k hk;unfold ax.wt at this;omega
 have fL:∀c∈p.aa,c.ae.length<=1073741824:=fun c hc=>(d5 c hc).1;have f9:∀c∈p.aa,c.ac.length<=1073741824:=fun c hc=>(d5 c hc).2;obtain⟨N,fb,_,hg,_⟩:=Bw hk;have fa:(AG p).ae.length=p.aa.length:=aN _;have eV:=fun (O:Sig)=>Ny (AG p) c O hg (by rw[fa];omega) (fun x hx=>by have:=Ep hx;rw[fa];omega) (by have:(AG p).jQ=ownersF p.aa 0:=rfl;rw[this];omega)
 refine en func215 ntmps215 ?_
 repeat' first|refine gz ?_|refine Bh (eV _) ?_|refine callP (eV _) ?_|refine gz ?_|apply gy<;>intro hh
 exact fe1 trivial
@[reducible,instance] def a215:=fun p c O=>ah3 (@F5 p c O)
theorem U1 (p:aw) (c:Int) (O:Sig) (hp:p.wt<=1073741824) (hk:Am p=true) (hc:3<=c/\c < 3+p.aa.length) :
  ar prog 216 [.agg (A7 p),dI c] O (rS (sl ((HX p (lineF (p.aa.map (·.ae)) c) (GM (AG p) c)).map FB)) O):=by
 obtain⟨p1,p2,p3,p4,p5,p6,p7⟩:=p.wt_le
 have d5:∀c∈p.aa,c.ae.length<=1073741824/\c.ah.length<=1073741824:=fun c hc=>by
  obtain⟨k,hk,rfl⟩:=bT hc;have:=p5 k hk;unfold ax.wt at this;omega
 have fL:∀c∈p.aa,c.ae.length<=1073741824:=fun c hc=>(d5 c hc).1;have fN:∀x∈p.aa.map (·.ae),x.length<=1073741824:=fun x hx=>by obtain⟨c,hc,rfl⟩:=aZ.1 hx;exact(d5 c hc).1
 obtain⟨N,fb,_,hg,fY⟩:=Bw hk;have fa:(p.aa.map (·.ae)).length=p.aa.length:=aN _;have hW:=J1 hp hk;have fU:(ownersF p.aa 0).length<=40:=hW.few;have gh:(lineF (p.aa.map (·.ae)) c).length<=80000000:=CQ hg (bU _) j0
 have ga:(GM (AG p) c).length<=40:=by
  have:=KJ (AG p) c (AG p).jQ.length 0;have e:(AG p).jQ=ownersF p.aa 0:=rfl;rw[e]at this;unfold GM;rw[e];omega
 have f7:=fun s=>PY hk s (lineF (p.aa.map (·.ae)) c);have fJ:=fun (O:Sig)=>JW (p.aa.map (·.ae)) c .no O hg (by rw[fa];omega) fN
 have fI:=fun (O:Sig)=>F5 p c O hp hk hc
 have fm:∀y∈lineF (p.aa.map (·.ae)) c,0<=y/\y<3+p.aa.length:=fun y hy=>by
  obtain⟨x,hx,hy⟩:=Es hy;have:=Er hg _ x hx y hy;rw[aN]at this;omega
 refine en func216 ntmps216 ?_
 repeat' first|refine gz ?_|refine Bh (fJ _) ?_|refine callP (fJ _) ?_|refine Bh (fI _) ?_|refine callP (fI _) ?_|refine gz ?_ o216|apply gy<;>intro hh
 generalize lineF (p.aa.map (·.ae)) c=order at*;generalize GM (AG p) c=hs at*;refine ED 8 2 (fun ix gm=>?_);refine BO [2,4,5,7,80] (fun (k:Nat) (out:List jv)=>k<=hs.length/\out.length<=k/\HX p order hs=out++HX p order (hs.drop k)) (fun k out=>[(9,dI k),(8,.slice (out.map FB) (.tag ix))]) (fun _ out=>O.set ix (.tail 2 out.length)) (fun k _=>hs.length-k) (0) ([]) j1 (fun k out hI=>?_);obtain⟨gk,hlen,hR⟩:=hI
 by_cases fq:k<hs.length
 ·rw [A6 fq,HX] at hR;have fc:=f7 hs[k];generalize eX:hs[k]=s at*
  try refine gz ?_ o216
  refine F1 [2,4,5,7,9,24,25,26,27,28,29,80] (fun (j:Nat) (fd:Bool) (o2:List jv)=>j<=order.length/\(fd=false->o2=out/\begO p s order=begO p s (order.drop j))/\(fd=true->o2=out++begO p s order)) (fun j fd o2=>[(11,dI j),(10,.bool fd),(8,.slice (o2.map FB) (.tag ix))]) (fun _ _ o2=>O.set ix (.tail 2 o2.length)) (fun j _ _=>order.length-j) (0) (false) (out) j1 (fun j fd o2 hI=>?_);obtain⟨hj,hF,hT⟩:=hI;cases fH:fd with
  | true =>
   have e2:=hT fH;subst e2
   by_cases eZ:j<order.length
   ·try refine gz ?_ o216
    exact⟨k+1,out++begO p s order,⟨j0,by rw[aC];omega,by rw[hR,aO]⟩,td1,wkR⟩
   ·try refine gz ?_ o216
    exact⟨k+1,out++begO p s order,⟨j0,by rw[aC];omega,by rw[hR,aO]⟩,td1,wkR⟩
  | false =>
   obtain⟨e2,hB⟩:=hF fH;subst e2
   by_cases eZ:j<order.length
   ·rw [A6 eZ,begO] at hB;have hy:=fm _ (aK eZ);generalize fB:order[j]=y at*
    by_cases fK:3<=y
    ·obtain⟨q,rfl⟩:∃q:Nat,y=3+(q:Int):=⟨(y-3).toNat,j0⟩;have hq:q<p.aa.length:=by omega
     have b6:jT p (3+(q:Int))=true:=by simp only[jT,aF,aH];omega
     have fA:begI p s (3+q)=((p.aa[q]).ah).filter fun x=>decide (x.slot=s):=by
      unfold begI;rw[aG b6,show(3+(q:Int)-3).toNat=q by omega,aD hq];rfl
     have fX:=(d5 _ (aK hq)).2;have fR:3+(q:Int)-3=q:=by omega
     obtain⟨b8,hI⟩:=E6 fY q hq;have hu:=(Fq b8 _ _ hI s).2;rw[fA]at hB;generalize fv:(p.aa[q]).ah=j6 at*
     try refine gf (gi fB (gi b6 (gi fR fv))) ?_ o216
     refine BO ([2,4,5,7,9,11,12]++List.range' 24 33++[80]) (fun (m:Nat) (o3:List jv)=>m<=j6.length/\o3=o2++(j6.take m).filter (fun x=>decide (x.slot=s))) (fun m o3=>[(13,dI m),(10,.bool (decide ((j6.take m).filter (fun x=>decide (x.slot=s))≠[]))),(8,.slice (o3.map FB) (.tag ix))]) (fun _ o3=>O.set ix (.tail 2 o3.length)) (fun m _=>j6.length-m) (0) (o2) j1 (fun m o3 hI=>?_);obtain⟨hm,hO⟩:=hI;have go:((j6.take m).filter (fun x=>decide (x.slot=s))).length<=1:=dW ((List.take_sublist m j6).filter _).length_le hu;have gc:o3.length<=o2.length+1:=by rw[hO,aC];omega
     by_cases fV:m<j6.length
     ·have eW:=aU fV;generalize hx:j6[m]=x at*
      repeat' first|refine gf (gi fv (gi hx eX)) ?_ o216|apply gy<;>intro hh
      ·have e:(j6.take (m+1)).filter (fun x=>decide (x.slot=s))=(j6.take m).filter (fun x=>decide (x.slot=s))++[x]:=by
        rw[eW,bV];congr 1;simp[hh]
       exact⟨m+1,o3++[x],⟨j0,by rw[e,hO,aO]⟩,td1,wkR⟩
      ·have e:(j6.take (m+1)).filter (fun x=>decide (x.slot=s))=(j6.take m).filter (fun x=>decide (x.slot=s)):=by
        rw[eW,bV];simp[hh]
       exact⟨m+1,o3,⟨j0,by rw[e,hO]⟩,td1,wkR⟩
     ·have eW:j6.take m=j6:=ck j0;rw[eW]at hO⊢
      try refine gf fv ?_ o216
      by_cases he:j6.filter (fun x=>decide (x.slot=s))=[]
      ·rw[he]at hO⊢;rw[he,aG rfl]at hB;rw[bl]at hO;subst hO;exact⟨j+1,false,o3,⟨j0,fun _=>⟨rfl,hB⟩,j1⟩,td1,wkR⟩
      ·rw[aE he]at hB;exact⟨j+1,true,o3,⟨j0,j1,fun _=>by rw[hO,hB]⟩,td1,wkR⟩
    ·have b6:jT p y=false:=by simp only[jT,dH,bh];exact .inl fK
     have fA:begI p s y=[]:=by unfold begI;rw[b6];rfl
     rw[fA,aG rfl]at hB
     try refine gf (gi fB b6) ?_ o216
     exact⟨j+1,false,o2,⟨j0,fun _=>⟨rfl,hB⟩,j1⟩,td1,wkR⟩
   ·rw[A9 eZ,begO]at hB
    try refine gz ?_ o216
    exact⟨k+1,o2,⟨j0,j0,by rw[hR,hB,bG]⟩,td1,wkR⟩
 ·rw[A9 fq,HX,bl]at hR
  try refine gz ?_ o216
  exact finS (U':=O) (es:=out.map FB) ⟨by rw[hR],rfl⟩
def BdM(e0:Int)(q:Nat)(met:Met):Prop:= ∀j l,met j=some l->0<=l.st/\l.st<=q/\e0<=l.j7/\l.j7<=e0+q
theorem BdM.mono{e0:Int}{q r:Nat}{met:Met}(h:BdM e0 q met)(hr:q<=r):BdM e0 r met:=fun j l hj=>by obtain⟨a,b,c,d⟩:=h j l hj;omega
theorem BdM.reach{N:Nat}{e0:Int}{q:Nat}{met m:Met}{n:Int}{l:jO}(h:BdM e0 q met)(hr:AQ N met n l=some m)(hl:0<=l.st/\l.st<=q/\e0<=l.j7/\l.j7<=e0+q):BdM e0 q m:=by
 unfold AQ at hr;split at hr
 ·cases hr
 ·cases hr;intro j x hj;unfold kQ at hj;split at hj
  ·cases hj;exact hl
  ·exact h j x hj
theorem RI {p:aw} {c:jD} {j7:Int} {next:Bool} {q:Nat} {x:jI} {l:jO} {met m:Met} (hg:0<=(Af p x).1/\0<=(Af p x).2/\(Af p x).2<=1) (h:Di p c j7 next q x l met=some m) (hb:BdM j7 q met) (hl:met q=some l):BdM j7 (q+1) m:=by
 have b:=hb q l hl;have b2:=hb.mono (Nat.le_succ q);unfold Di at h;split at h
 ·cases h
 ·rename_i hn;have e1:¬l.st<(Af p x).1:=fun k=>hn (.inl k);have e3:x.op=15->¬l.j7<=j7:=fun k1 k2=>hn (.inr (.inr (.inl ⟨k1,k2⟩)));clear hn;split at h
  ·split at h
   ·cases h;exact b2
   ·cases h
  ·split at h
   ·exact b2.reach h (by simp only;omega)
   ·split at h
    ·exact b2.reach h (by simp only;omega)
    ·split at h
     ·exact b2.reach h (by simp only;omega)
     ·split at h
      ·split at h
       ·cases h
       ·rename_i h1;exact(b2.reach h1 (by simp only;omega)).reach h (by simp only;omega)
      ·exact b2.reach h (by simp only;omega)
theorem PZ(e0:Int)(q:Nat)(n:Nat):BdM e0 q (kQ (fun _=>none) n ⟨0,e0⟩):=fun j l h=>by
 unfold kQ at h;split at h
 ·cases h;simp only;omega
 ·cases h
theorem KN{N q:Nat}(W:Met)(l:jO)(h:q<N):AQ N W (q:Int) l=Ea q l W:=by
 unfold AQ Ea;rw[show((q:Int)).toNat=q by omega]
 by_cases e:W q≠none/\W q≠some l
 ·rw[aG e,aG (.inr (.inr e))]
 ·rw[aE e,aE]
  rintro(h1|h1|h1)
  ·omega
  ·omega
  ·exact e h1
def allM(p:aw)(c:jD):List CSt->Met->Option Met
 |[],W=>some W
 |s::r,W=>match Bm p c s Ea W with
  |none=>none
  |some V=>allM p c r V
theorem NV{p:aw}{c:jD}(hf:∀q:Nat,(An c q).op=17\/(An c q).op=18->(q:Int)<(An c q).a): ∀(l:List CSt) (W:Met),DU p c l W=allM p c l W
 |[],_=>rfl
 | s::r,W=>by
  rw[DU,allM,OQ hf];cases wayM p c s with
  |none=>rfl
  |some w=>
   simp only;cases mrgM c.j6.length W w with
   |none=>rfl
   |some V=>exact NV hf r V
theorem NY{p:aw}{N:Nat}: ∀(l:List jI) (q:Nat),Dn p N l q=true->∀(i:Nat) (x:jI),l[i]? = some x->kH p N (q+i) x=true:=fun l q h i x hx=>(Fc l q).1 h i x hx
theorem QE{p:aw}{c:jD}(h:Dn p c.j6.length c.j6 0=true)(q:Nat):(An c q).op=17\/(An c q).op=18->(q:Int)<(An c q).a:=by
 intro ho;cases hq:c.j6[q]? with
 |none=>unfold An at ho;rw[hq]at ho;simp at ho
 |some x=>
  have e:An c q=x:=by unfold An;rw[hq];rfl
  rw[e]at ho⊢;have:=NY _ _ h q x hq;rw[co]at this;unfold kH at this;rcases ho with ho|ho<;>rw[ho]at this<;>simp at this<;>omega
section
variable {p:aw}{c:jD}
theorem VM{s:CSt}(W:Met)(h:AQ c.j6.length (fun _=>none) s.pos ⟨0,s.j7⟩=none):Bm p c s Ea W=none:=by
 unfold AQ at h;split at h
 ·rename_i hc;unfold Bm;refine aG ?_;rcases hc with hc|hc|⟨hc,_⟩
  ·exact .inl hc
  ·exact .inr hc
  ·exact absurd rfl hc
 ·cases h
theorem VL{s:CSt}{m:Met}(W:Met)(h:AQ c.j6.length (fun _=>none) s.pos ⟨0,s.j7⟩=some m):0<=s.pos/\s.pos<c.j6.length/\m=kQ (fun _=>none) s.pos.toNat ⟨0,s.j7⟩/\Bm p c s Ea W=Dq p c s.j7 s.next Ea (c.j6.length-s.pos.toNat) s.pos.toNat m W:=by
 unfold AQ at h;split at h
 ·cases h
 ·rename_i hc;cases h;have h1:¬s.pos<0:=fun k=>hc (.inl k);have h2:¬(c.j6.length:Int)<=s.pos:=fun k=>hc (.inr (.inl k));refine⟨j0,j0,rfl,?_⟩;unfold Bm;exact aE j0
theorem go_skip{j7:Int}{next:Bool}{q:Nat}{met W:Met}(hq:q<c.j6.length)(h:met q=none):Dq p c j7 next Ea (c.j6.length-q) q met W=Dq p c j7 next Ea (c.j6.length-(q+1)) (q+1) met W:=by
 rw[show c.j6.length-q=(c.j6.length-(q+1))+1 by omega,Dq,h]
theorem go_none{j7:Int}{next:Bool}{q:Nat}{met W:Met}{l:jO}(hq:q<c.j6.length)(h:met q=some l)(hs:Di p c j7 next q (An c q) l met=none):Dq p c j7 next Ea (c.j6.length-q) q met W=none:=by
 rw[show c.j6.length-q=(c.j6.length-(q+1))+1 by omega,Dq,h];simp only[hs]
theorem Wv{j7:Int}{next:Bool}{q:Nat}{met W m:Met}{l:jO}(hq:q<c.j6.length)(h:met q=some l)(hs:Di p c j7 next q (An c q) l met=some m)(hg:AQ c.j6.length W (q:Int) l=none):Dq p c j7 next Ea (c.j6.length-q) q met W=none:=by
 rw[KN _ _ hq]at hg;rw[show c.j6.length-q=(c.j6.length-(q+1))+1 by omega,Dq,h];simp only[hs,hg]
theorem go_some{j7:Int}{next:Bool}{q:Nat}{met W m V:Met}{l:jO}(hq:q<c.j6.length)(h:met q=some l)(hs:Di p c j7 next q (An c q) l met=some m)(hg:AQ c.j6.length W (q:Int) l=some V):Dq p c j7 next Ea (c.j6.length-q) q met W=Dq p c j7 next Ea (c.j6.length-(q+1)) (q+1) m V:=by
 rw[KN _ _ hq]at hg;rw[show c.j6.length-q=(c.j6.length-(q+1))+1 by omega,Dq,h];simp only[hs,hg]
theorem XI{s:CSt}{r:List CSt}{W V:Met}(h:Bm p c s Ea W=some V):allM p c (s::r) W=allM p c r V:=by rw[allM,h]
theorem Mg{s:CSt}{r:List CSt}{W:Met}(h:Bm p c s Ea W=none):allM p c (s::r) W=none:=by rw[allM,h]
theorem Id{l:List CSt}(h:DU p c l (fun _=>none)=none):EA p c l=none:=by unfold EA;rw[h]
theorem RC(p:aw)(c:jD)(h:c.jG.length=p.j9.length):(stsP p c).length=c.jG.length+1:=by unfold stsP;simp[h]
theorem sts_at(p:aw)(c:jD)(h:c.jG.length=p.j9.length)(i:Nat)(hi:i<c.jG.length):(stsP p c).drop i=De p (p.j9[i]'(by omega)) c.jG[i]::(stsP p c).drop (i+1):=by
 have hl:=RC p c h;rw[dC j0]
 congr 1
 unfold stsP;rw[List.getElem_append_left (by simp;omega),List.getElem_zipWith]
theorem sts_end(p:aw)(c:jD)(h:c.jG.length=p.j9.length):(stsP p c).drop c.jG.length=[⟨c.jf,0,false⟩]:=by
 unfold stsP;rw[List.drop_append,List.drop_eq_nil_of_le (by simp;omega)];simp[h]
end
theorem uses_bd{p:aw}(hg:∀n:Nat,0<=p.ai.getD n 0)(x:jI):0<=(Af p x).1/\0<=(Af p x).2/\(Af p x).2<=1:=by
 have h:=hg x.a.toNat
 unfold Af
 repeat' split
 all_goals simp only
 all_goals omega
theorem Of{p:aw}{c:jD}{j7:Int}{next:Bool}(hg:∀n:Nat,0<=p.ai.getD n 0): ∀(f q:Nat) (met m:Met),E2 p c j7 next f q met=some m->BdM j7 q met->BdM j7 (q+f) m
 |0,_,_,_,h,hb=>by cases h;exact hb
 | f+1,q,met,m,h,hb=>by
  rw[E2]at h;rw[show q+(f+1)=q+1+f by omega];split at h
  ·exact Of hg f _ _ _ h (hb.mono j0)
  ·rename_i l hl;split at h
   ·cases h
   ·rename_i e;exact Of hg f _ _ _ h (RI (uses_bd hg _) e hb hl)
theorem way_bd{p:aw}{c:jD}{s:CSt}{w:Met}(hg:∀n:Nat,0<=p.ai.getD n 0)(h:wayM p c s=some w):BdM s.j7 c.j6.length w:=by
 unfold wayM at h;split at h
 ·cases h
 ·have:=Of hg _ _ _ _ h (PZ s.j7 s.pos.toNat s.pos.toNat);exact this.mono j0
def smM(B:Int)(W:Met):Prop:= ∀j x,W j=some x->x.st<=B/\x.j7<=B
theorem SJ{p:aw}{c:jD}{B:Int}(hg:∀n:Nat,0<=p.ai.getD n 0): ∀(l:List CSt) (W V:Met),DU p c l W=some V->(∀s∈l,s.j7+c.j6.length<=B)->(c.j6.length:Int)<=B->smM B W->smM B V
 |[],_,_,h,_,_,hW=>by cases h;exact hW
 | s::r,W,V,h,hs,hc,hW=>by
  rw[DU]at h;cases hw:wayM p c s with
  |none=>rw[hw]at h;cases h
  | some w =>
   rw[hw]at h;simp only at h;cases hm:mrgM c.j6.length W w with
   |none=>rw[hm]at h;cases h
   | some U =>
    rw[hm]at h;simp only at h;refine SJ hg r U V h (fun t ht=>hs t (cd _ ht)) hc fun j x hj=>?_;unfold mrgM at hm;split at hm
    ·cases hm;simp only at hj;cases ff:w j with
     |none=>rw[ff]at hj;exact hW j x hj
     |some y=>
      rw[ff]at hj;cases hj;have h1:=way_bd hg hw j _ ff;have h2:=hs s List.mem_cons_self;omega
    ·cases hm
theorem Pg{p:aw}{c:jD}{lv:List jO}(h:B6 p c=some lv): ∀(k:Nat) x,lv[k]? = some x->x.st<=303/\x.j7<=303:=by
 have fD:=(G6 h).1;unfold B6 at h;split at h
 ·rename_i hc;simp only[aF,aH]at hc;obtain⟨W,hW,hl,hi⟩:=MT h;have fP:=SJ (B:=303) (fun n=>(DY fD n).1) _ _ _ hW (fun s hs=>?_) j0 (fun j x hj=>by cases hj)
  ·intro k x hk;exact fP k x ((hi k x).1 hk)
  ·unfold stsP at hs;rcases bJ.1 hs with hs|hs
   ·obtain⟨i,hi,e⟩:=bT hs;rw[List.getElem_zipWith]at e;subst e;have:=(DY fD (p.j9[i]'(by rw[List.length_zipWith]at hi;omega)).gen.toNat).2;unfold De;simp only;omega
   ·rw[bC]at hs;subst hs;simp only;omega
 ·cases h
end Go.DL
namespace Go.DL
open Go.Proofs.Tryz
open Go Go.Proofs
open Go.Proofs.YteldimffglchkaaGreatDoor.Rows (uptoBulk uptoBulkAll)
def g0(W:Go.World):G:={ imm:=fun b o=>W.cell? ⟨b,o,none⟩,rho:=fun _=>none,hist:=fun _ _=>none,keep:=fun k=>W.heap[k]?, io:=(W.os,W.output) }
abbrev Rk (W : Go.World) : Prop := W.var? prog "internal/strconv.uint64pow10" = some (((List.range 20).map fun i => ((10 ^ i : Nat) : Int)).map fun z => Value.int .u64 z).toArray
theorem tabK0(W:Go.World)(h:Rk W):TabK prog (g0 W):=fun w hk=>.inr ⟨by
 unfold Rk at h
 unfold World.var? at h⊢
 cases hg : prog.globalNamed "internal/strconv.uint64pow10" with
 |none=>rw[hg]at h;cases h
 |some g=>
  rw[hg]at h
  simp only[dz]at h⊢
  cases hw:W.heap[g]? with
  |none=>rw[hw]at h;cases h
  |some o=>rw[hw]at h;rw[hk g o hw];exact h,trivial⟩
theorem sim0(W:Go.World)(h:Rk W):Sim prog (g0 W) (fun _=>none) W where
 imm:=fun _ _ _ h=>h
 keep:=fun _ _ h=>h
 obj:=fun _ _ h=>by cases h
 inj:=fun _ _ _ h=>by cases h
 free:=fun _ _ h=>by cases h
 htop:=fun _ _ _ _ h=>by cases h
 hdom:=fun _ _ _ h=>by cases h
 fin:=⟨0,fun _ _=>rfl⟩
 io:=rfl
 tab:=tabK0 W h
theorem K4{α:Type}{p:Nat->α->Prop}: ∀n,(∀i,i<n->∃a,p i a)->∃l:List α,l.length=n /\ ∀i a,l[i]? = some a->p i a
 |0,_=>⟨[],rfl,fun i a h=>by simp at h⟩
 | n+1,h=>by
  obtain⟨l,hl,hp⟩:=K4 n fun i hi=>h i j0;obtain⟨a,ha⟩:=h n j0;refine⟨l++[a],by simp[hl],fun i b hb=>?_⟩
  by_cases hi:i<n
  ·rw[bj j0]at hb;exact hp i b hb
  ·rw[bK j0]at hb
   have h0:i-l.length=0:=by
    rcases Nat.eq_zero_or_pos (i-l.length)with h|h
    ·exact h
    ·rw[aX (by simp;omega)]at hb;cases hb
   rw[h0]at hb;simp at hb;rw[show i=n by omega,<-hb];exact ha
theorem RQ{g:G}{b:Nat}: ∀{ds:eO}{vs:List Value}{o:Nat},jE g ds vs->(∀j v,vs[j]? = some v->g.imm b (o+j)=some v)->ju g b o ds
 |[],_,_,_,_=>trivial
 |d::ds,_,o,⟨v,r,e,h1,h2⟩,hi=>by
  subst e;exact⟨⟨v,hi 0 v rfl,h1⟩,RQ h2 fun j x hx=>by rw[cT,ew 1 j];exact hi (j+1) x hx⟩
theorem RR{g:G}{b sz:Nat}: ∀{l:eR}{o:Nat},(∀i e,l[i]? = some e->e.length=sz/\ju g b (o+i*sz) e)->jn g b sz o l
 |[],_,_=>trivial
 |e::l,o,h=>⟨by simpa using h 0 e rfl,RR fun i x hx=>by
  have:=h (i+1) x hx
  rw[cp,dO,ew (i*sz),<-cT]at this;exact this⟩
theorem XK{α H:Type}{wt:α->Nat}: ∀{l:List α}{xs:List (DataW H)},l.length=xs.length->(∀(i:Nat) a x,l[i]? = some a->xs[i]? = some x->wt a<=uptoBulk x)->wtL wt l<=uptoBulkAll xs
 |[],[],_,_=>cE _
 |a::l,x::xs,h,hp=>by
  have h1:=hp 0 a x rfl rfl;have h2:=XK (l:=l) (xs:=xs) (by simpa using h) fun i b y hb hy=>hp (i+1) b y hb hy
  simp only[wtL,uptoBulkAll];omega
section
variable {H:Type}{enc:TypeId×Value->H}{W:Go.World}
noncomputable abbrev rd(enc:TypeId×Value->H)(W:Go.World)(n t:Nat)(cs:List Value):Option (DataW H×List MemPlace):=DataW.trod enc prog W 0 (fun _=>true) true n t cs
def Dec(enc:TypeId×Value->H)(W:Go.World){α:Type}(n t:Nat)(c:α->eO)(wt:α->Nat):Prop:= ∀cs x,rd enc W n t cs=some x->∃a,jE (g0 W) (c a) cs/\wt a<=uptoBulk x.1
theorem BW{t n:Nat}(ht:prog.underlying t=some (.int .i64)):Dec enc W n t (fun k:Int=>[dI k]) (fun _=>1):=fun cs x h=>by
 obtain⟨k,rfl,rfl,_⟩:=DataW.trod_int ht h;exact⟨k,⟨_,[],rfl,rfl,rfl⟩,by simp[uptoBulk]⟩
theorem CX{α:Type}{t e sz n:Nat}{c:α->eO}{wt:α->Nat}(ht:prog.underlying t=some (.slice e))(hz:prog.cellsOf e=sz)(fS:0<sz)(hc:∀a,(c a).length=sz)(hd:∀m,m<n->Dec enc W m e c wt):
  Dec enc W n t (fun l:List α=>[sl (l.map c)]) (fun l=>1+wtL wt l):=fun cs x h=>by
 rcases DataW.trod_slice ht h with⟨rfl,rfl⟩|⟨a,len,cap,elems,rest,m,rfl,rfl,rfl,hb,hl,hm,hlen,fZ, -, -⟩
 ·exact⟨[],⟨_,[],rfl,⟨Option.none,0,rfl,j1,.inl rfl,trivial⟩,rfl⟩,by simp[uptoBulk,wtL]⟩
 ·have key:∀i,i<len->∃b:α, ∃y vs,elems[i]? = some y/\W.cells? 0 (a.add (i*sz)) sz=some vs/\jE (g0 W) (c b) vs/\wt b<=uptoBulk y.1:=fun i hi=>by
   have h1:=fZ i hi;rw[hz,aD j0]at h1;obtain⟨vs,h2,h3⟩:=Option.bind_eq_some_iff.1 h1;obtain⟨b,h4,h5⟩:=hd m j0 vs _ h3;exact⟨b,_,vs,aD j0,h2,h4,h5⟩
  obtain⟨l,fp,hp⟩:=K4 len key;refine⟨l,⟨_,[],rfl,⟨some a,cap,by simp[fp],by simpa[fp] using hl,?_,trivial⟩,rfl⟩,?_⟩
  ·cases fo:l with
   |nil=>exact .inl rfl
   | cons b0 l' =>
    rw[<-fo];have gj:0<len:=by rw[<-fp,fo];simp
    obtain⟨y,vs,k1,k2,k3,k4⟩:=hp 0 b0 (by rw[fo];rfl);obtain⟨_,k5,k6⟩:=World.cells?_some k2
    have fC:a.spot=none:=by
     have:=k6 0 j0;cases hs:a.spot with
     |none=>rfl
     |some q=>simp[World.cell?, Addr.add,hs]at this;split at this<;>simp_all
    obtain⟨ab,ao,asp⟩:=a;simp only at fC;subst fC;refine .inr ⟨sz,ab,ao,rfl,RR fun i e he=>?_⟩;rw[bA]at he;obtain⟨b,fc,rfl⟩:=ci.1 he;obtain⟨y,vs,k1,k2,k3,k4⟩:=hp i b fc;obtain⟨_,k5,k6⟩:=World.cells?_some k2;refine⟨hc b,RQ k3 fun j v hv=>?_⟩;have hj:j<sz:=by rw[<-k5];exact(aV.1 hv).1
    have:=k6 j hj;rw[hv,BQ,BQ]at this;exact this
  ·have:=XK (wt:=wt) (l:=l) (xs:=elems.map (·.1)) (by simp;omega) fun i b z fc fe=>by
    obtain⟨y,vs,k1,k2,k3,k4⟩:=hp i b fc;rw[bA,k1]at fe;simp at fe;subst fe;exact k4
   simp only[uptoBulk];omega
set_option maxRecDepth 100000
theorem Cg{t n:Nat}{fs:Array Field}(ht:prog.underlying t=some (.struct fs)){cs:List Value}{x:DataW H×List MemPlace}(h:rd enc W n t cs=some x):
  ∃(xs:List (DataW H×List MemPlace)) (m:Nat),m<n/\uptoBulk x.1=uptoBulkAll (xs.map (·.1))+1/\cs.length=prog.cellsOf t/\xs.length=fs.size /\
   ∀(i:Nat) (f:Field),fs[i]? = some f->rd enc W m f.type ((cs.drop f.offset).take (prog.cellsOf f.type))=xs[i]? :=by
 obtain⟨xs,m,rfl,rfl,h1,h2,h3⟩:=DataW.trod_struct ht h;exact⟨xs,m,j0,by simp[uptoBulk],h1,h2,h3⟩
theorem kN:prog.cellsOf 3=1:=by kernel_rfl
theorem GA(n:Nat):Dec enc W n 23 (fun l:eP=>[sl (cI l)]) (fun l=>1+wtL (fun _=>1) l):=CX underlying23 kN j0 (fun _=>rfl) fun _ _=>BW underlying3
theorem Iq{α:Type}: ∀l:List α,wtL (fun _=>1) l=l.length
 |[]=>rfl
 |x::l=>by rw[wtL,Iq l,aS];omega
theorem Ch{m t off k:Nat}{cs cs':List Value}{o:Option (DataW H×List MemPlace)}(h:rd enc W m t ((cs.drop off).take (prog.cellsOf t))=o)(hk:prog.cellsOf t=k)(hc:(cs.drop off).take k=cs'):rd enc W m t cs'=o:=by rw[<-hc,<-hk];exact h
theorem Xx(n:Nat):Dec enc W n 205 FB (fun _=>1):=fun cs x h=>by
 obtain⟨xs,m,hm,hb,hl,hx,hf⟩:=Cg underlying205 h;rw[show prog.cellsOf 205=2 by kernel_rfl]at hl
 match cs,hl with
 | [v0,v1],_ =>
  match xs,hx with
  |[x0,x1],_=>
   obtain⟨a0,r0,w0⟩:=BW underlying3 [v0] x0 (Ch (hf 0 _ rfl) kN rfl);obtain⟨a1,r1,w1⟩:=BW underlying3 [v1] x1 (Ch (hf 1 _ rfl) kN rfl);refine⟨⟨a0,a1⟩,r0.append r1,?_⟩;rw[hb];simp only[uptoBulkAll,bd,bX];omega
theorem Vi(n:Nat):Dec enc W n 206 (fun l:List jv=>[sl (l.map FB)]) (fun l=>1+wtL (fun _=>1) l):=CX underlying206 (by kernel_rfl:prog.cellsOf 205=2) j0 (fun _=>rfl) fun _ _=>Xx _
theorem Re(n:Nat):Dec enc W n 208 Ik ax.wt:=fun cs x h=>by
 obtain⟨xs,m,hm,hb,hl,hx,hf⟩:=Cg underlying208 h;rw[show prog.cellsOf 208=3 by kernel_rfl]at hl
 match cs,hl with
 | [v0,v1,v2],_ =>
  match xs,hx with
  |[x0,x1,x2],_=>
   obtain⟨a0,r0,w0⟩:=GA _ [v0] x0 (Ch (hf 0 _ rfl) (show prog.cellsOf 23=1 by kernel_rfl) rfl);obtain⟨a1,r1,w1⟩:=GA _ [v1] x1 (Ch (hf 1 _ rfl) (show prog.cellsOf 23=1 by kernel_rfl) rfl);obtain⟨a2,r2,w2⟩:=Vi _ [v2] x2 (Ch (hf 2 _ rfl) (show prog.cellsOf 206=1 by kernel_rfl) rfl);refine⟨⟨a0,a1,a2⟩,r0.append (r1.append r2),?_⟩;rw[hb];clear hf hx hl;simp only[Iq]at*; simp only[ax.wt,uptoBulkAll,bd,bX];omega
theorem Vm(n:Nat):Dec enc W n 211 HW ay.wt:=fun cs x h=>by
 obtain⟨xs,m,hm,hb,hl,hx,hf⟩:=Cg underlying211 h;rw[show prog.cellsOf 211=3 by kernel_rfl]at hl
 match cs,hl with
 | [v0,v1,v2],_ =>
  match xs,hx with
  |[x0,x1,x2],_=>
   obtain⟨a0,r0,w0⟩:=BW underlying209 [v0] x0 (Ch (hf 0 _ rfl) (show prog.cellsOf 209=1 by kernel_rfl) rfl);obtain⟨a1,r1,w1⟩:=BW underlying3 [v1] x1 (Ch (hf 1 _ rfl) kN rfl);obtain⟨a2,r2,w2⟩:=GA _ [v2] x2 (Ch (hf 2 _ rfl) (show prog.cellsOf 23=1 by kernel_rfl) rfl);refine⟨⟨a0,a1,a2⟩,r0.append (r1.append r2),?_⟩;rw[hb];clear hf hx hl;simp only[Iq]at*; simp only[ay.wt,uptoBulkAll,bd,bX];omega
theorem Xy: ∀n:Nat,Dec enc W n 62 Cu j8.wt:=fun n=>by
 induction n using Nat.strongRecOn with
 |ind n ih=>
 intro cs x h;obtain⟨xs,m,hm,hb,hl,hx,hf⟩:=Cg underlying62 h;rw[show prog.cellsOf 62=6 by kernel_rfl]at hl
 match cs,hl with
 | [v0,v1,v2,v3,v4,v5],_ =>
  match xs,hx with
  |[x0,x1,x2,x3,x4,x5],_=>
   obtain⟨a0,r0,w0⟩:=BW underlying59 [v0] x0 (Ch (hf 0 _ rfl) (show prog.cellsOf 59=1 by kernel_rfl) rfl);obtain⟨a1,r1,w1⟩:=BW underlying3 [v1] x1 (Ch (hf 1 _ rfl) kN rfl);obtain⟨a2,r2,w2⟩:=GA _ [v2] x2 (Ch (hf 2 _ rfl) (show prog.cellsOf 23=1 by kernel_rfl) rfl);obtain⟨a3,r3,w3⟩:=BW underlying3 [v3] x3 (Ch (hf 3 _ rfl) kN rfl);obtain⟨a4,r4,w4⟩:=BW underlying3 [v4] x4 (Ch (hf 4 _ rfl) kN rfl);obtain⟨a5,r5,w5⟩:=(CX (c:=Cu) (wt:=j8.wt) (t:=60) (e:=62) (n:=m) underlying60 (by kernel_rfl:prog.cellsOf 62=6) j0 (fun f=>by cases f;rfl) fun k hk=>ih k j0) [v5] x5 (Ch (hf 5 _ rfl) (show prog.cellsOf 60=1 by kernel_rfl) rfl);refine⟨.mk a0 a1 a2 a3 a4 a5,by rw[EJ];exact r0.append (r1.append (r2.append (r3.append (r4.append r5)))),?_⟩;rw[hb];clear hf hx hl;simp only[Iq]at*; rw[j8.wt_eq];simp only[j8.path,j8.ag,uptoBulkAll,bd,bX];omega
theorem Vn(n:Nat):Dec enc W n 64 LA jy.wt:=fun cs x h=>by
 obtain⟨xs,m,hm,hb,hl,hx,hf⟩:=Cg underlying64 h;rw[show prog.cellsOf 64=9 by kernel_rfl]at hl
 match cs,hl with
 | [v0,v1,v2,v3,v4,v5,v6,v7,v8],_ =>
  match xs,hx with
  |[x0,x1,x2,x3],_=>
   obtain⟨a0,r0,w0⟩:=BW underlying58 [v0] x0 (Ch (hf 0 _ rfl) (show prog.cellsOf 58=1 by kernel_rfl) rfl);obtain⟨a1,r1,w1⟩:=BW underlying3 [v1] x1 (Ch (hf 1 _ rfl) kN rfl);obtain⟨a2,r2,w2⟩:=Xy _ [v2,v3,v4,v5,v6,v7] x2 (Ch (hf 2 _ rfl) (show prog.cellsOf 62=6 by kernel_rfl) rfl);obtain⟨a3,r3,w3⟩:=BW underlying3 [v8] x3 (Ch (hf 3 _ rfl) kN rfl);refine⟨⟨a0,a1,a2,a3⟩,(r0.append r1).append r2 |>.append r3,?_⟩;rw[hb];simp only[jy.wt,uptoBulkAll,bd,bX];omega
theorem SM(m:jy):(LA m).length=9:=by simp[LA]
theorem Vl(n:Nat):Dec enc W n 27 A7 aw.wt:=fun cs x h=>by
 obtain⟨xs,m,hm,hb,hl,hx,hf⟩:=Cg underlying27 h;rw[show prog.cellsOf 27=6 by kernel_rfl]at hl
 match cs,hl with
 | [v0,v1,v2,v3,v4,v5],_ =>
  match xs,hx with
  |[x0,x1,x2,x3,x4,x5],_=>
   obtain⟨a0,r0,w0⟩:=CX underlying22 (by kernel_rfl:prog.cellsOf 208=3) j0 (fun _=>rfl) (fun _ _=>Re _) [v0] x0 (Ch (hf 0 _ rfl) (show prog.cellsOf 22=1 by kernel_rfl) rfl);obtain⟨a1,r1,w1⟩:=BW underlying3 [v1] x1 (Ch (hf 1 _ rfl) kN rfl);obtain⟨a2,r2,w2⟩:=GA _ [v2] x2 (Ch (hf 2 _ rfl) (show prog.cellsOf 23=1 by kernel_rfl) rfl);obtain⟨a3,r3,w3⟩:=CX underlying24 (by kernel_rfl:prog.cellsOf 64=9) j0 SM (fun _ _=>Vn _) [v3] x3 (Ch (hf 3 _ rfl) (show prog.cellsOf 24=1 by kernel_rfl) rfl);obtain⟨a4,r4,w4⟩:=CX underlying25 (by kernel_rfl:prog.cellsOf 211=3) j0 (fun _=>rfl) (fun _ _=>Vm _) [v4] x4 (Ch (hf 4 _ rfl) (show prog.cellsOf 25=1 by kernel_rfl) rfl);obtain⟨a5,r5,w5⟩:=BW underlying3 [v5] x5 (Ch (hf 5 _ rfl) kN rfl);refine⟨⟨a0,a1,a2,a3,a4,a5⟩,r0.append (r1.append (r2.append (r3.append (r4.append r5)))),?_⟩;rw[hb];clear hf hx hl;simp only[Iq]at*; simp only[aw.wt,uptoBulkAll,bd,bX];omega
end
end Go.DL
namespace Go.DL
open Go.Proofs.Tryz
open Go Go.Proofs Go.ChangeShapes Go.WideShapes Go.ChangeAt Go.RowKit
open Go.Proofs.YteldimffglchkaaGreatDoor
open Go.Proofs.YteldimffglchkaaGreatDoor.Rows (uptoBulk uptoBulkAll)
set_option maxRecDepth 100000
theorem own:ownKnob prog.godebug=none:=by kernel_rfl
theorem SP{N:Nat}{us:eO}(h:Fd prog N us (fun _=>none) fun x _=>x=.ret (.bool true))(W:Go.World)(hP:Rk W){vs:List Value}(hr:jE (g0 W) us vs):
  Calls prog N vs.toArray W fun e W'=>e=.returned (.bool true)/\(∀(k:Nat) (o:Obj),W.heap[k]? = some o->W'.heap[k]? = some o)/\W'.os=W.os/\W'.output=W.output:=by
 refine CallsIn.calls (F:=FX prog { wide:=true }) (n:=0) ((h.run (g0 W) W vs _ rfl (sim0 W hP) hr).mono ?_) fun k=>GX _ _ _
 rintro e W' ⟨g',x,U',fF,hs,hE,rfl⟩
 obtain⟨v,rfl,rfl⟩:=hE;have fu:=hs.io.trans fF.io;simp only[g0,dK]at fu;exact⟨rfl,fun k o hk=>hs.keep k o (fF.keep k o hk),fu.1,fu.2⟩
theorem laidOut:laidOutB prog=true:=by kernel_rfl
section
variable {H:Type}{enc:TypeId×Value->H}{W W':Go.World}
theorem He{sp:Nat->Bool}: ∀{ts:List TypeId}{vs:List Value}{ds:List (DataW H)}{ps:List MemPlace},(∀t∈ts,prog.readableRec t=true/\t<prog.types.size)->DataW.TrodAll enc prog W 0 (fun _=>true) true ts vs ds ps->(∀p∈ps,W.sameAt W' p)->(∀p∈ps,sp p.block=true)->DataW.TrodAll enc prog W' 0 sp true ts vs ds ps
 |[],vs,ds,ps,_,h,_,_=>by
  obtain⟨rfl,rfl,rfl⟩:=trodAll_nil h;exact h
 | t::ts,vs,ds,ps,ht,h,h1,h2=>by
  obtain⟨v,vs1,d,ds1,a,b,rfl,rfl,rfl,k1,k2⟩:=trodAll_cons h
  exact⟨a,b,WideElems.Trod_stays laidOut (ht t j1).1 (ht t j1).2 k1 (fun p hp=>h1 p (by simp[hp])) (fun p hp=>h2 p (by simp[hp])),
   He (fun t hx=>ht t (by simp[hx])) k2 (fun p hp=>h1 p (by simp[hp])) (fun p hp=>h2 p (by simp[hp])),rfl⟩
theorem same_of{p:MemPlace}(b7:∀(k:Nat) (o:Obj),W.heap[k]? = some o->W'.heap[k]? = some o)(hp:p.block<W.heap.size):W.sameAt W' p:=by
 have hk:∀b,b<W.heap.size->W'.heap[b]? = W.heap[b]? :=fun b hb=>by
  rw[bw hb];exact b7 b _ (bw hb)
 cases p with
 |cell b off=>
  show W'.cell? ⟨b,off,none⟩=W.cell? ⟨b,off,none⟩;unfold World.cell?;rw[hk b hp]
 |map b=>exact hk b hp
theorem kept_of{may:MemPlace->Prop}(b7:∀(k:Nat) (o:Obj),W.heap[k]? = some o->W'.heap[k]? = some o)(fk:W'.os=W.os)(c9:W'.output=W.output):W.keptBut W' may:=by
 refine⟨fk,c9,fun i hi=>?_⟩;have h:=bw hi;rw[h,b7 i _ h];cases W.heap[i]<;>simp
theorem Wr{f:Func}{s:ChangeSpec}{args:Array Value}{ds gs:List (DataW H)}{before:List MemPlace}(hv:s.vars=[])(fQ:f.resultTypes=#[4])(fO:∀t∈f.params.toList,prog.readableRec t=true/\t<prog.types.size)
  (hW:DataW.Whole enc prog f.params.toList s.vars false W args.toList ds gs before) (fy:s.fn H (ds++gs)={ results:=[.lit (.bool true)],args:=ds })
  (b7:∀(k:Nat) (o:Obj),W.heap[k]? = some o->W'.heap[k]? = some o) (fk:W'.os=W.os) (c9:W'.output=W.output):s.post enc prog f false true false false W args (.bool true) W':=by
 have eY:=hW.lt;have f8:=hW;obtain⟨p,q,hA,hV,rfl,gn,gg⟩:=hW;rw[hv]at hV;obtain⟨rfl,rfl⟩:=trodVars_none hV;have d8:∀x∈p,W.sameAt W' x:=fun x hx=>same_of b7 (by simpa using eY x (by simp[hx]))
 refine⟨ds,[],p++[],[],p,[],f8,?_,?_,?_,kept_of b7 fk c9,fun h=>by cases h⟩
 ·rw[fQ,fy];exact trodAll_cons_mk (shut_bool underlying4 _) trodAll_mk0
 ·rw[fy];exact He fO hA d8 fun x hx=>by simpa using eY x (by simp[hx])
 ·rw[fy,hv];rfl
end
section
variable {H:Type}{enc:TypeId×Value->H}{W:Go.World}{base:Nat}
theorem RY{v:Value}{d:DataW H}{ps:List MemPlace}(b9:Value.okWide prog W .any base 27 v)(h:DataW.Trod enc prog W 0 (fun _=>true) true 27 v d ps): ∃p:aw,Rep (g0 W) (.agg (A7 p)) v/\p.wt<=Rows.uptoBulk d:=by
 obtain⟨cs,rfl,_⟩:=okWide_struct underlying27 b9;obtain⟨n,hn⟩:=h;obtain⟨p,h1,h2⟩:=Vl n _ _ hn;exact⟨p,⟨cs.toList,j1,h1⟩,h2⟩
theorem Qk:prog.readableRec 27=true:=by kernel_rfl
theorem Q9:27<prog.types.size:=cY (by kernel_rfl)
end
abbrev laids : List (String × DataW Unit) := [("math/bits.deBruijn32tab", Rows.laid_math_bits_deBruijn32tab), ("math/bits.deBruijn64tab", Rows.laid_math_bits_deBruijn64tab), ("internal/strconv.uint64pow10", Rows.laid_internal_strconv_uint64pow10)]
theorem gPow : prog.globalNamed "internal/strconv.uint64pow10" = some 1 := by kernel_rfl
theorem gPowT:(prog.globals[1]?).map (·.type)=some 389:=by kernel_rfl
theorem XB:prog.cellsOf 389=20:=by kernel_rfl
theorem XC:prog.cellsOf 338=1:=by kernel_rfl
theorem laidF : laids.filter (fun x => x.1 == "internal/strconv.uint64pow10") = [("internal/strconv.uint64pow10", Lib.tabData .u64 ((List.range 20).map fun i => ((10 ^ i : Nat) : Int)))] := by kernel_rfl
theorem W6{W:Go.World}(h:laidMetH prog laids W):Rk W:=by
 have h2 := h.filter (fun x => x.1 == "internal/strconv.uint64pow10");rw[laidF]at h2;exact Lib.tabIs_of_head (rest:=[]) gPow gPowT underlying389 underlying338 XC XB h2
def VP:DataW Unit->Array Value
 |.agg xs=>(xs.map fun x=>match x with
  |.lit (.int k z)=>Value.int k z
  |_=>Value.int .i64 0).toArray
 |_=> #[]
def RB(x:DataW Unit):Obj->Obj
 |.cells _ t frozen=>.cells (VP x) t frozen
 |o=>o
noncomputable def JB(os:Os):Go.World:=
 {Go.World.holding prog os ⟨#[], #[],[]⟩with heap:=(((Go.World.holding prog os ⟨#[], #[],[]⟩).heap.modify 6 (RB Rows.laid_math_bits_deBruijn32tab)).modify 7 (RB Rows.laid_math_bits_deBruijn64tab)).modify 1 (RB Rows.laid_internal_strconv_uint64pow10) }
theorem noGo:prog.funcs.any Func.goes=false:=by kernel_rfl
theorem goes_no(c:OpenClaim)(hs:c.start=.entering):false=c.goesBy Tryz.pinned.checked.prog:=by
 have key:∀f,prog.goes f=false:=fun f=>by
  unfold Program.goes;rw[noGo,Bool.and_false,Bool.or_false,List.any_eq_false];intro g _;cases hg:prog.funcs[g]? with
  |none=>simp
  |some fn=>
   have:=Array.any_eq_false.1 noGo g (aI.1 hg).1;rw[(aI.1 hg).2]at this;simpa using this
 show false=prog.goesAt c.start c.func;unfold Program.goesAt Program.goesFrom;rw[hs];cases h:prog.funcNamed c.func with
 |none=>rfl
 |some f=>simp[key f]
end Go.DL
namespace Go.DL
open Go.Proofs.Tryz
open Go Go.Proofs
set_option maxHeartbeats 8000000
def cIns(x:jI):eO:=[dI x.op,dI x.a]
@[simp] theorem cIns_len(x:jI):(cIns x).length=2:=rfl
@[simp] theorem cIns_flat(x:jI):C6 (cIns x)=true:=rfl
abbrev jm(l:jO):eO:=[dI l.st,dI l.j7]
theorem eqTy87:EqTy prog 87:=⟨by kernel_rfl,by kernel_rfl,by kernel_rfl⟩
theorem PD:EqTy prog 79:=⟨by kernel_rfl,by kernel_rfl,by kernel_rfl⟩
theorem kind87:(tab 87).k=.struct [(0,85),(1,3)]:=rfl
theorem Pl:(tab 79).k=.struct [(0,3),(1,3)]:=rfl
theorem eqIns(a b:jI):eqFs tab (cIns a) (cIns b) [(0,85),(1,3)]=some (decide (a=b)):=by
 cases a;cases b;simp[cIns,jI.mk.injEq,Bool.decide_and]
theorem Xn(a b:jO):eqFs tab (jm a) (jm b) [(0,3),(1,3)]=some (decide (a=b)):=by
 cases a;cases b;simp[jm,jO.mk.injEq,Bool.decide_and]
theorem WN(op:Int)(O:Sig):ar prog 72 [dI op] O (rS (.bool (hasA op)) O):=by
 refine en func72 ntmps72 ?_
 repeat' first|refine gz ?_|apply gy<;>intro hh
 any_goals (first|(refine fin1 (U':=O) ?_;exact⟨by first|rfl|(simp[Go.DL.hasA];done)|(simp_all [Go.DL.hasA];done)|(rw[Ae,aR];simp_all [Go.DL.hasA]<;>omega),rfl⟩)|fail)
@[reducible,instance] def a72:=fun op O=>ah0 (@WN op O)
theorem Gh(n:Int)(O:Sig):ar prog 150 [dI n] O (rS (.bool (!farN n)) O):=by
 refine en func150 ntmps150 ?_
 repeat' first|refine gz ?_|apply gy<;>intro hh
 any_goals (first|(refine fin1 (U':=O) ?_;exact⟨by first|rfl|(simp[farN];done)|(simp_all [farN];done)|(rw[Ae,aR];simp_all [farN]<;>omega),rfl⟩)|fail)
@[reducible,instance] def a150:=fun n O=>ah0 (@Gh n O)
def unfC:D:=.iface 245 (.agg [])
theorem WK(b:Bool)(O:Sig):ar prog 78 [.bool b] O fun x U'=>x=(if b then .ret (.tup []) else .panic unfC)/\U'=O:=by
 refine en func78 ntmps78 ?_;cases b
 ·refine gz ?_;refine pan ?_;exact jo (U':=O) ⟨rfl,rfl⟩
 ·refine gz ?_;exact F3 (U':=O) ⟨rfl,rfl⟩
@[reducible,instance] def a78:=fun b O=>gh0 (@WK b O)
theorem Ir{P:Program}{F:Fence}{n:Nat}{Q:Exit->Act->List Frame->Go.World->Prop}{a:Act}{cs cs':List Frame}{w:Go.World}{id t4 ty1:Nat}{p1:String}{a1:Array Edge}{rest:Code}{v:Value}
  (fi:recoverD cs=some (v,cs')\/(recoverD cs=none/\v=.nilIface/\cs'=cs)) (fg:t4<a.tmps.size)
  (h:rest.wpSIn F n P Q (a.put (some t4) v) cs' w) :
  (Code.seq (.region id #[⟨some t4,.call { callee:=.builtin .recover,args:= #[],argTypes:= #[] },ty1,p1,a1,none⟩] false) rest).wpSIn F n P Q a cs w:=by
 refine wpSIn_seq (wpSIn_region ?_);have hr:List.range (#[(⟨some t4,.call { callee:=.builtin .recover,args:= #[],argTypes:= #[] },ty1,p1,a1,none⟩:Oper)]:Array Oper).size=[0]:=rfl;rw[hr];exact Iw (o:=⟨some t4,.call { callee:=.builtin .recover,args:= #[],argTypes:= #[] },ty1,p1,a1,none⟩) rfl rfl (fun f h=>by cases h) rfl fi h
theorem NK{P:Program}{f:Nat}{fn:Func}{id t4 ty1:Nat}{p1:String}{a1:Array Edge}{rest:Code}{args:eO}{O U':Sig}{pan:Option D}{m:Nat}
  (hf:P.funcs[f]? = some fn) (hb:fn.body=some (Code.seq (.region id #[⟨some t4,.call { callee:=.builtin .recover,args:= #[],argTypes:= #[] },ty1,p1,a1,none⟩] false) rest))
  (hm:fn.ntmps=m) (hn:args.length<=m) (fg:t4<m) (fh:fn.results=#[])
  (h:DWp P .none m rest (fun x s=>(x=.normal\/x=.ret)/\s.df=[]/\Sub U' s.O) ⟨(t4,pan.getD .niliface)::BV 0 args,O,[]⟩):Mh P f args O pan U':=by
 intro g w vs u hs ha hu;subst hm;have eY:f<P.funcs.size:=(aI.1 hf).1;refine callsDIn_of_wpSIn hf hb (GK eY _) fun c₀ cs hc=>?_;have hT:=ES ha hn
 have fj:∀(d:D) (v:Value),Rep g d v->kA g ((t4,d)::BV 0 args) fn.ntmps (({ tmps:=vs.toArray++Array.replicate (fn.ntmps-vs.toArray.size) undef,defers:=[] }:Act).put (some t4) v).tmps:=by
  intro d v hv;exact kA.put (o := ⟨some t4, .move (.tmp 0), 0, "", #[], none⟩) (a := { tmps := vs.toArray ++ Array.replicate (fn.ntmps - vs.toArray.size) undef, defers := [] }) hT hv (by simp [Ax, fg])
 have hsz:t4<(vs.toArray++Array.replicate (fn.ntmps-vs.toArray.size) undef).size:=by rw[hT.1];exact fg
 have fin:∀(d:D) (v:Value) (u':FrameMode) (cs':List Frame),pan.getD .niliface=d->Rep g d v->settle u'=.returning->cs'={ c₀ with mode:=u' }::cs->
   rest.wpSIn (FX P {}) 0 P (bodyPostS P fn c₀ cs fun e u' w'=>(∃v,e=.returned v)/\settle u'=.returning /\ ∃g',g.le g'/\Sim P g' U' w')
    (({ tmps:=vs.toArray++Array.replicate (fn.ntmps-vs.toArray.size) undef,defers:=[] }:Act).put (some t4) v) cs' w:=by
  intro d v u' cs' hd hv d7 fb;refine wpSIn_of_wpIn rfl ?_;subst hd;refine dc (h g w _ {} rfl ⟨hs,fj _ v hv,rfl⟩) ?_
  rintro e a w' ⟨g',s',x,l1,l2,l3,hx,f0,d6⟩
  have hd:a.defers=[]:=EU l2.df f0;have hr:(results fn a.tmps).run P w'=.ok (.tuple #[]) w':=by simp[results,fh]
  rcases hx with rfl|rfl
  ·obtain rfl:=l3;exact⟨hd,u',fb,_,hr,⟨_,rfl⟩,d7,g',l1,l2.sim.sub d6⟩
  ·obtain rfl:=l3;exact⟨hd,u',fb,_,hr,⟨_,rfl⟩,d7,g',l1,l2.sim.sub d6⟩
 cases pan with
 |none=>
  have hu:u=.returning:=hu;subst hu;refine Ir (v:=.nilIface) (cs':=c₀::cs) (.inr ⟨?_,rfl,rfl⟩) hsz (fin .niliface .nilIface .returning _ rfl rfl rfl ?_)
  ·simp[recoverD,hc]
  ·rw[<-hc]
 |some d=>
  obtain⟨v,rfl,hv⟩:=hu;refine Ir (v:=v) (cs':={ c₀ with mode:=.panicking [{ v,recovered:=true }] }::cs) (.inl ?_) hsz (fin d v (.panicking [{ v,recovered:=true }]) _ rfl hv rfl rfl);simp[recoverD,hc]
theorem Nr(i:Nat)(b:Bool)(O:Sig)(hi:O i=some (.cells [.bool b])):Mh prog 160 [.ptr i 0] O none O/\Mh prog 160 [.ptr i 0] O (some unfC) (O.set i (.cells [.bool false])):=by
 constructor
 ·refine NK func160 rfl ntmps160 j1 (by decide) rfl ?_;simp only[Option.getD_none]
  repeat' first|refine gz ?_|apply gy<;>intro hh
  exact⟨.inl rfl,rfl,Sub.refl _⟩
 ·refine NK func160 rfl ntmps160 j1 (by decide) rfl ?_;simp only[ba]
  repeat' first|refine gf hi ?_|apply gy<;>intro hh
  exact⟨.inl rfl,rfl,Sub.refl _⟩
theorem WL(g:Nat)(cap:eO)(O:Sig)(R:Sig->DE->Sig->Prop)
  (hg:∀i,O i=none->ar prog g cap (O.set i (.cells [.bool false])) (R (O.set i (.cells [.bool false]))))
  (hR:∀U' d S'',R U' (.panic d) S''->d=unfC) (hk:∀i S'' x,O i=none->R (O.set i (.cells [.bool false])) x S''->S'' i=some (.cells [.bool false])) :
  ar prog 76 [.func (.func g) [] cap] O fun x U'=> ∃i S'',O i=none/\U'=S''.del i /\
   ((∃d,R (O.set i (.cells [.bool false])) (.ret d) S''/\x=.ret (.bool true))\/(R (O.set i (.cells [.bool false])) (.panic unfC) S''/\x=.ret (.bool false))):=by
 refine HT (fd:=160) func76 rfl (C8 func160 (by rfl) (by rfl)) (by rw[Ao];decide) (by decide) ntmps76 j1 ?_;refine gz ?_ [] [2];refine je (fun i hi=>?_);refine gz ?_ [] [2];refine Ln (f:=160) (by rw[Ao];decide) rfl rfl ?_;refine gz ?_ [] [2];refine A3 (hg i hi) (fun d U' hr=>?_) (fun d U' hp=>?_)
 ·have fw:=hk i U' _ hi hr;refine gf fw ?_ [] [2];refine⟨_,Wk.refl _ _ _,[.ptr i 0],U'.set i (.cells [.bool true]),.bool true,rfl,(Nr i true _ (w6 ..)).1,En (ds:=[.bool true]) jB ?_,.ret (.bool true),U'.del i,Ac _,LK,i,U',hi,rfl,.inl ⟨d,hr,rfl⟩⟩;simp[resL]
 ·have fw:=hk i U' _ hi hp;obtain rfl:=hR _ _ _ hp;refine gz ?_ [] [2];refine⟨_,Wk.refl _ _ _,[.ptr i 0],U'.set i (.cells [.bool false]),.bool false,rfl,(Nr i false _ fw).2,En (ds:=[.bool false]) jB ?_,.ret (.bool false),U'.del i,Ac _,LK,i,U',hi,rfl,.inr ⟨hp,rfl⟩⟩;simp[resL]
abbrev cCPg(c:jD):eO:=[sl (c.j6.map cIns),sl (cI c.jG),dI c.jf]
def cChk(p:aw)(c:jD)(im:Nat):D:=.ak (cCPg c++A7 p++[.map im]) 0
theorem Uo(p:aw)(c:jD)(im:Nat)(x:jI)(O:Sig)(hp:p.wt<=1073741824)(hx:x.op=19->0<=x.a/\x.a<p.ai.length):ar prog 171 [cChk p c im,.agg (cIns x)] O (rS (.tup [dI (Af p x).1,dI (Af p x).2]) O):=by
 obtain⟨p1,p2,p3,p4,p5,p6,p7⟩:=p.wt_le
 by_cases d9:x.op=19
 ·obtain⟨h1,h2⟩:=hx d9;have e:p.ai.getD x.a.toNat 0=p.ai[x.a.toNat]'(by omega):=by rw[aQ,aD j0];rfl
  refine en func171 ntmps171 ?_
  repeat' first|refine gf d9 ?_ o171|apply gy<;>intro hh
  any_goals (first|(refine kM (U':=O) ?_;exact⟨by first|rfl|(simp[Af,d9,e];done)|(simp_all [Af,d9,e];done)|(rw[Ae,aR];simp_all [Af,d9,e]<;>omega),rfl⟩)|fail)
 ·refine en func171 ntmps171 ?_
  repeat' first|refine gz ?_ o171|apply gy<;>intro hh
  any_goals (first|(refine kM (U':=O) ?_;exact⟨by first|rfl|(simp[Af];done)|(simp_all [Af];done)|(rw[Ae,aR];simp_all [Af]<;>omega),rfl⟩)|fail)
theorem WB{p:aw}{N q:Nat}{x:jI}(h:x.op<1\/21<x.op):kZ p N q x=false:=by
 unfold kZ;rw[aE j0,aE j0,aE j0,aE j0,aE j0,aE j0,bk j0]
theorem WG(p:aw)(c:jD)(im:Nat)(q:Nat)(x:jI)(O:Sig)(hp:p.wt<=1073741824)(hc:c.j6.length<=300)(hq:q<300)(hs : -1000<=p.ac/\p.ac<=1000):ar prog 99 [cChk p c im,dI q,.agg (cIns x)] O fun r U'=>r=(if kZ p c.j6.length q x then .ret (.tup []) else .panic unfC)/\U'=O:=by
 obtain⟨p1,p2,p3,p4,p5,p6,p7⟩:=p.wt_le;refine en func99 ntmps99 ?_
 repeat' first|((refine jo (U':=O) ⟨?_,rfl⟩;have e:kZ p c.j6.length q x=false:=(by first|(simp_all [kZ,inB]<;>omega)|exact WB j0);rw[e];rfl))|refine gz ?_ o99|apply gy<;>intro hh
 any_goals (first|(refine F3 (U':=O) ⟨?_,rfl⟩;have e:kZ p c.j6.length q x=true:=(by simp_all [kZ,inB]<;>omega);rw[e];rfl)|fail)
@[reducible,instance] def a99:=fun p c im q x O=>gh4 (@WG p c im q x O)
end Go.DL
namespace Go.DL
open Go.Proofs.Tryz
open Go Go.Proofs Go.ChangeShapes Go.WideShapes Go.ChangeAt Go.RowKit
open Go.Proofs.YteldimffglchkaaGreatDoor
open Go.Proofs.YteldimffglchkaaGreatDoor.Rows (uptoBulk uptoBulkAll)
set_option maxRecDepth 100000
section
variable {H:Type}{enc:TypeId×Value->H}{W:Go.World}{base:Nat}
theorem Xz(n:Nat):Dec enc W n 87 cIns (fun _=>1):=fun cs x h=>by
 obtain⟨xs,m,hm,hb,hl,hx,hf⟩:=Cg underlying87 h;rw[show prog.cellsOf 87=2 by kernel_rfl]at hl
 match cs,hl with
 | [v0,v1],_ =>
  match xs,hx with
  |[x0,x1],_=>
   obtain⟨a0,r0,w0⟩:=BW underlying85 [v0] x0 (Ch (hf 0 _ rfl) (show prog.cellsOf 85=1 by kernel_rfl) rfl);obtain⟨a1,r1,w1⟩:=BW underlying3 [v1] x1 (Ch (hf 1 _ rfl) kN rfl);refine⟨⟨a0,a1⟩,r0.append r1,?_⟩;rw[hb];simp only[uptoBulkAll,bd,bX];omega
def jD.wt(c:jD):Nat:=c.j6.length+c.jG.length
theorem Vk(n:Nat):Dec enc W n 30 cCPg jD.wt:=fun cs x h=>by
 obtain⟨xs,m,hm,hb,hl,hx,hf⟩:=Cg underlying30 h;rw[show prog.cellsOf 30=3 by kernel_rfl]at hl
 match cs,hl with
 | [v0,v1,v2],_ =>
  match xs,hx with
  |[x0,x1,x2],_=>
   obtain⟨a0,r0,w0⟩:=CX underlying28 (by kernel_rfl:prog.cellsOf 87=2) j0 (fun _=>rfl) (fun _ _=>Xz _) [v0] x0 (Ch (hf 0 _ rfl) (show prog.cellsOf 28=1 by kernel_rfl) rfl);obtain⟨a1,r1,w1⟩:=GA _ [v1] x1 (Ch (hf 1 _ rfl) (show prog.cellsOf 23=1 by kernel_rfl) rfl);obtain⟨a2,r2,w2⟩:=BW underlying3 [v2] x2 (Ch (hf 2 _ rfl) kN rfl);refine⟨⟨a0,a1,a2⟩,r0.append (r1.append r2),?_⟩;rw[hb];clear hf hx hl;simp only[Iq]at*; simp only[jD.wt,uptoBulkAll,bd,bX];omega
theorem RT{v:Value}{d:DataW H}{ps:List MemPlace}(b9:Value.okWide prog W .any base 30 v)(h:DataW.Trod enc prog W 0 (fun _=>true) true 30 v d ps): ∃c:jD,Rep (g0 W) (.agg (cCPg c)) v/\c.wt<=Rows.uptoBulk d:=by
 obtain⟨cs,rfl,_⟩:=okWide_struct underlying30 b9;obtain⟨n,hn⟩:=h;obtain⟨c,h1,h2⟩:=Vk n _ _ hn;exact⟨c,⟨cs.toList,j1,h1⟩,h2⟩
theorem Qj:prog.readableRec 30=true:=by kernel_rfl
theorem Mn:30<prog.types.size:=cY (by kernel_rfl)
end
end Go.DL
namespace Go.DL
open Go.Proofs.Tryz
open Go Go.Proofs
set_option maxHeartbeats 8000000
theorem Ng(l:List jI)(q:jI->Bool)(g:Nat)(cap:eO)(o:Own)(O:Sig)(hl:l.length<=1073741824)(hg:∀x∈l,ar prog g ([]++[.agg (cIns x)]++cap) O fun r S''=>r=.ret (.bool (q x))/\S''=O):ar prog 231 [.slice (l.map cIns) o,.func (.func g) [] cap] O (rS (dI (kD q l 0)) O):=by
 refine en func231 ntmps231 ?_;refine gz ?_;refine Bz [0,1,7] (fun (k:Nat)=>k<=l.length/\kD q l 0=kD q (l.drop k) k) (fun k=>[(8,dI k)]) (fun _=>O) (fun k=>l.length-k) (0) j1 (fun k hI=>?_);obtain⟨hk,hR⟩:=hI
 by_cases h:k<l.length
 ·rw[A6 h,kD]at hR
  repeat' first|refine Bh (hg (l[k]) (aK h)) ?_|refine callP (hg (l[k]) (aK h)) ?_|refine gz ?_|apply gy<;>intro hh
  ·rw[hh]at hR;exact fe1 hR
  ·rw[hh]at hR;exact⟨k+1,⟨j0,hR⟩,td1,wkR⟩
 ·rw[A9 h,kD]at hR;refine gz ?_;exact fe1 hR
theorem Nu(l:List jI)(q:jI->Bool)(g:Nat)(cap:eO)(o:Own)(O:Sig)(hl:l.length<=1073741824)(hg:∀x∈l,ar prog g ([]++[.agg (cIns x)]++cap) O fun r S''=>r=.ret (.bool (q x))/\S''=O):ar prog 152 [.slice (l.map cIns) o,.func (.func g) [] cap] O (rS (.bool (l.any q)) O):=by
 refine en func152 ntmps152 ?_
 repeat' first|refine gz ?_|refine Bh (Ng l q g cap o O hl hg) ?_|refine callP (Ng l q g cap o O hl hg) ?_|refine gz ?_|apply gy<;>intro hh
 rw[<-E8 q l 0];exact fe1 trivial
theorem Ns(x:jI)(O:Sig):ar prog 154 [.agg (cIns x)] O (rS (.bool (FC x)) O):=by
 refine en func154 ntmps154 ?_
 repeat' first|refine gz ?_|apply gy<;>intro hh
 rotate_left 2
 ·have hn:¬x.op=1:=fun e=>by rw[e]at hh;cases hh
  refine eqlS _ (decide (x=⟨x.op,0⟩)) eqTy87 kind87 (eqIns x ⟨x.op,0⟩) ?_;have he:decide (x=⟨x.op,0⟩)=decide (x.a=0):=by rcases x with⟨o,a⟩;simp
  refine gz ?_;refine fin1 (U':=O) ⟨?_,rfl⟩;rw[he];unfold FC;rw[hh];simp;omega
 all_goals
  refine fin1 (U':=O) ⟨?_,rfl⟩;rw[Ae,aR];unfold FC inB farN
  simp_all<;>omega
theorem Nt(x:jI)(O:Sig):ar prog 153 [.agg (cIns x)] O (rS (.bool (!FC x)) O):=by
 refine en func153 ntmps153 ?_
 repeat' first|refine gz ?_|refine Bh (Ns x O) ?_|refine callP (Ns x O) ?_|refine gz ?_|apply gy<;>intro hh
 exact fe1 trivial
theorem WO(c:jD)(O:Sig)(h1:c.j6.length<=1073741824)(h2:c.jG.length<=1073741824):ar prog 70 [.agg (cCPg c)] O (rS (.bool (EX c)) O):=by
 refine en func70 ntmps70 ?_
 by_cases c1:c.j6.length<=300
 rotate_left
 ·refine gz ?_;refine skipV ?_;refine gz ?_;refine fin1 (U':=O) ?_;refine⟨?_,rfl⟩;rw[Ae,aR];unfold EX;simp[c1]
 by_cases c2:c.jG.length<=16
 rotate_left
 ·refine gz ?_;refine skipV ?_;refine gz ?_;refine fin1 (U':=O) ?_;refine⟨?_,rfl⟩;rw[Ae,aR];unfold EX;simp[c2]
 repeat' first|refine DZ (Gh c.jf) ?_|refine callPG (Gh c.jf) ?_|refine DZ (Nv c.jG (fun n=> !farN n) 150 [] .no O h2 (fun n _=>Gh n O)) ?_|refine callPG (Nv c.jG (fun n=> !farN n) 150 [] .no O h2 (fun n _=>Gh n O)) ?_|refine DZ (Nu c.j6 (fun x=> !FC x) 153 [] .no O h1 (fun x _=>Nt x O)) ?_|refine callPG (Nu c.j6 (fun x=> !FC x) 153 [] .no O h1 (fun x _=>Nt x O)) ?_|refine gz ?_|apply gy<;>intro hh
 all_goals
  refine fin1 (U':=O) ?_;refine⟨?_,rfl⟩;rw[Ae,aR];unfold EX;rw[be c1,be c2]
  simp_all
 ·obtain⟨x,h1,h2⟩:=hh;intro h3;rw[h3 x h1]at h2;cases h2
@[reducible,instance] def a70:=fun c O=>ah2 (@WO c O)
theorem WJ(O:Sig):ar prog 85 [] O (rS (.slice (cS ko) .clip) O):=by
 refine en func85 ntmps85 ?_;refine gz ?_;exact fe1 trivial
@[reducible,instance] def a85:=fun O=>ah0 (@WJ O)
end Go.DL
