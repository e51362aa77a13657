/- A part of the proof. -/
import Derived.Test.YtlfimpogphmbdaaGreatM27
import Derived.Test.YtlfimpogphmbdaaGreatM18
import Derived.Test.YtlfimpogphmbdaaGreatM19
import Derived.Test.YtlfimpogphmbdaaGreatM25
import Derived.Test.YtlfimpogphmbdaaGreatM28
import Derived.Test.YtlfimpogphmbdaaGreatM17
import Derived.Test.YtlfimpogphmbdaaGreatM23
import Derived.Test.YtlfimpogphmbdaaGreatM24
import Derived.Test.YtlfimpogphmbdaaGreatM16
set_option linter.all false
namespace Go.DL
open Go.Proofs.Tryz
open Go Go.Proofs
set_option maxHeartbeats 8000000
def Gf(g:List (List Int)):Nat->Nat->Bool
 |_,0=>true
 |i,n+1=>decide (linE g ((i:Int)+3)=0)&&Gf g (i+1) n
def graphB(p:BProg):List (List Int):=p.classes.map (·.parents)
def FL(f:FProg):Int:=
 if(B9 f).isSome=true then(if Gf (graphB (Ah f)) 0 (graphB (Ah f)).length=true then(if(Ah f).methods.all (fun m=>decide (m.fact.size<=24))=true then 0 else 3) else 7) else 2
def PD:BProg:=⟨[],0,[],[],[],0⟩
def H6(f:FProg):BProg:=if FL f=0 then Ah f else PD
mutual
theorem N8(cm sm:List (Str×Int))(env:Str->Int): ∀x:FFact,(bndF cm sm env x).size<=x.wt
 |.mk o s p c n k=>by
  have hw:(FFact.mk o s p c n k).wt=1+s.length+wtS p+c.length+wtL FFact.wt k:=FFact.wt_eq _;have:=Ks cm sm env k;rw[bndF,Fact.size];omega
theorem Ks(cm sm:List (Str×Int))(env:Str->Int): ∀l:List FFact,Fact.sizes (Gz cm sm env l)<=wtL FFact.wt l
 |[]=>by rw[Gz,Fact.sizes,wtL];omega
 |x::r=>by
  have h1:=N8 cm sm env x;have h2:=Ks cm sm env r;rw[Gz,Fact.sizes,wtL];omega
end
theorem J7(cm sm gm:List (Str×Int)): ∀(l:List FMeth) (k:Nat),(bndMM cm sm gm l k).length=l.length
 |[],_=>rfl
 |m::r,k=>by rw[bndMM,List.length_cons,J7 cm sm gm r,List.length_cons]
theorem Kr(cm sm gm:List (Str×Int)): ∀(l:List FMeth) (k:Nat), ∀x∈bndMM cm sm gm l k,x.fact.size<=wtL FMeth.wt l
 |[],_,x,hx=>by simp[bndMM]at hx
 | m::r,k,x,hx=>by
  rw[bndMM]at hx;rw[wtL];rcases List.mem_cons.1 hx with rfl|hx
  ·have:=N8 cm sm (Ep m) m.fact;unfold FMeth.wt;simp only;omega
  ·have:=Kr cm sm gm r _ x hx;omega
theorem HC(f:FProg)(V:Sig)(hw:f.wt<=10000000):DCall prog 17 [.agg (BA f)] V (rS (.tup [.agg (Am (H6 f)),dI (FL f)]) V):=by
 obtain⟨p1,p2,p3,p4,p5⟩:=f.wt_le
 have hzero:WkD (.tup [.agg [.nils,dI 0,.nils,.nils,.nils,dI 0],dI (FL f)]) (.tup [.agg (Am PD),dI (FL f)]):=
  GB (show WkL _ _ from⟨Ev (show WkL _ (Am PD) from⟨Aq _ (.inl rfl),A7 _,Aq _ (.inl rfl),Aq _ (.inl rfl),Aq _ (.inl rfl),A7 _,trivial⟩),A7 _,trivial⟩)
 refine en func17 ntmps17 ?_
 try refine gz ?_ [] [2]
 refine newV (fun i2 hi2=>?_);cases hs:(B9 f).isSome with
 |false=>
  have hE:FL f=2:=by unfold FL;rw[hs];rfl
  have hP:H6 f=PD:=by unfold H6;rw[hE];rfl
  rw[hP];rw[hE]at hzero⊢
  try refine gf hs ?_ [] [2]
  refine finC (S':=V) ⟨rfl,rfl⟩ (hw:=?_);exact hzero
 | true =>
  have hE0:FL f=if Gf (graphB (Ah f)) 0 (graphB (Ah f)).length=true then(if(Ah f).methods.all (fun m=>decide (m.fact.size<=24))=true then 0 else 3) else 7:=by unfold FL;rw[hs];rfl
  have hcls:(Ah f).classes=f.classes.map (J8 (Bi f) (Bl f)):=rfl;have hcl:(Ah f).classes.length<=10000000:=by rw[hcls,List.length_map];omega
  have hcp:∀c∈(Ah f).classes,c.parents.length<=1073741824:=fun c hc=>by
   rw[hcls]at hc;obtain⟨d,hd,rfl⟩:=List.mem_map.1 hc;obtain⟨k,hk,rfl⟩:=List.getElem_of_mem hd;have:=p4 k hk;obtain⟨_,y2,_⟩:=(f.classes[k]).wt_le;have:=Bk (f.classes[k]).parents;unfold J8;simp only[List.length_map];omega
  have hml:(Ah f).methods.length<=10000000:=by show(bndMM _ _ _ _ _).length<=_;rw[J7];omega
  have hms:∀x∈(Ah f).methods,x.fact.size<=1073741824:=fun x hx=>by have:=Kr _ _ _ _ _ x hx;unfold FProg.wt at hw;omega
  have hgl:(graphB (Ah f)).length<=10000000:=by unfold graphB;rw[List.length_map];exact hcl
  have hgp:∀x∈graphB (Ah f),x.length<=1073741824:=fun x hx=>by obtain⟨c,hc,rfl⟩:=List.mem_map.1 hx;exact hcp c hc
  have hgr:(Ah f).classes.map (·.parents)=graphB (Ah f):=rfl;have hgc:(Ah f).classes.length=(graphB (Ah f)).length:=by unfold graphB;rw[List.length_map]
  try refine gf (gi hs (gi hgr hgc)) ?_ [] [2]
  refine Bj [2,4,5,10,20,35,36,37,38,39,40,41,42,43,44,45,46,47,48] (fun (k:Nat)=>k<=(graphB (Ah f)).length/\Gf (graphB (Ah f)) 0 (graphB (Ah f)).length=Gf (graphB (Ah f)) k ((graphB (Ah f)).length-k)) (fun k=>[(21,dI k)]) (fun _=>V.set i2 (.cells [.nils,dI 0,.nils,.nils,.nils,dI 0])) (fun k=>(graphB (Ah f)).length-k) (0) (by simp) (fun k hI=>?_);obtain⟨hk,hL⟩:=hI
  by_cases hkl:k<(graphB (Ah f)).length
  ·rw[show(graphB (Ah f)).length-k=((graphB (Ah f)).length-(k+1))+1 by omega,Gf]at hL
   by_cases h0:linE (graphB (Ah f)) ((k:Int)+3)=0
   ·rw[decide_eq_true h0,Bool.true_and]at hL
    try refine gf h0 ?_ [] [2]
    exact⟨k+1,⟨by omega,hL⟩,td1,wkR⟩
   ·rw[decide_eq_false h0,Bool.false_and]at hL;have hE:FL f=7:=by rw[hE0,hL];rfl
    have hP:H6 f=PD:=by unfold H6;rw[hE];rfl
    rw[hP];rw[hE]at hzero⊢
    try refine gf h0 ?_ [] [2]
    refine finC (S':=V) ⟨rfl,rfl⟩ (hw:=?_);exact hzero
  ·have hke:k=(graphB (Ah f)).length:=by omega
   rw[hke,Nat.sub_self,Gf]at hL;rw[if_pos hL]at hE0
   try refine gz ?_ [] [2]
   refine Bj [2,4,36,37,48] (fun (j:Nat)=>j<=(Ah f).methods.length/\(Ah f).methods.all (fun m=>decide (m.fact.size<=24))=((Ah f).methods.drop j).all (fun m=>decide (m.fact.size<=24))) (fun j=>[(38,dI j)]) (fun _=>V.set i2 (.cells [.nils,dI 0,.nils,.nils,.nils,dI 0])) (fun j=>(Ah f).methods.length-j) (0) (by simp) (fun j hI=>?_);obtain⟨hj,hA⟩:=hI
   by_cases hjl:j<(Ah f).methods.length
   ·rw[A3 hjl,List.all_cons]at hA;have hmj:=hms _ (List.getElem_mem hjl)
    by_cases h24:((Ah f).methods[j]).fact.size<=24
    ·rw[decide_eq_true h24,Bool.true_and]at hA
     try refine gz ?_ [] [2]
     exact⟨j+1,⟨by omega,hA⟩,td1,wkR⟩
    ·rw[decide_eq_false h24,Bool.false_and]at hA;have hE:FL f=3:=by rw[hE0,if_neg (by rw[hA];simp)]
     have hP:H6 f=PD:=by unfold H6;rw[hE];rfl
     rw[hP];rw[hE]at hzero⊢
     try refine gz ?_ [] [2]
     refine finC (S':=V) ⟨rfl,rfl⟩ (hw:=?_);exact hzero
   ·rw[A2 hjl]at hA;have hE:FL f=0:=by rw[hE0,if_pos (by rw[hA];rfl)]
    have hP:H6 f=Ah f:=by unfold H6;rw[hE];rfl
    rw[hP,hE]
    try refine gz ?_ [] [2]
    exact finC (S':=V) ⟨rfl,rfl⟩
@[reducible,instance] def a17:=fun f V=>ah1 (@HC f V)
theorem Uj{p:BProg}(hg:Ca (p.classes.map (·.parents))=true){k:Nat}(hk:k<p.classes.length):(p.classes[k]).parents.length<=3 /\ ∀x∈(p.classes[k]).parents,3<=x/\x<(k:Int)+3:=by
 have h:=Cg hg (k+3)
 have e:parentsF (p.classes.map (·.parents)) ((k+3:Nat):Int)=(p.classes[k]).parents:=by
  unfold parentsF;rw[if_neg (by omega),show(((k+3:Nat):Int)-3).toNat=k by omega,List.getElem?_eq_getElem (by simpa using hk)];simp
 rw[e]at h;exact⟨h.1,fun x hx=>by have:=h.2 x hx;omega⟩
theorem Kh: ∀(l:List Fact) (n d:Int),Fact.depths l n<=d ↔ n<=d /\ ∀x∈l,x.depth<=d
 |[],n,d=>by rw[Fact.depths];simp
 |f::l,n,d=>by
  rw[Fact.depths,Kh l];have:mx n f.depth<=d ↔ n<=d/\f.depth<=d:=by unfold mx;split<;>omega
  rw[this];simp only[List.mem_cons,forall_eq_or_imp];exact and_assoc
def locP(w:World)(f:Fact):Prop:=1<=f.op/\f.op<=7/\f.kids.length=B5 f.op/\(if Cm f.op then GT w f=true else f.arg=0/\f.path.length=0/\f.cls=0/\f.n=0)
theorem loc_iff(w:World)(f:Fact):(OS w f&&HA w f)=true ↔ locP w f:=by
 unfold locP OS HA GT pathF LL Cm inB wantF B5;rcases Decidable.em (f.op=2)with h2|h2
 ·simp[h2];grind
 ·rcases Decidable.em (f.op=3)with h3|h3
  ·simp[h3];grind
  ·rcases Decidable.em (f.op=4)with h4|h4
   ·simp[h4];grind
   ·simp[h2,h3,h4]
    grind
theorem Ih(w:World): ∀(d:Nat) (f:Fact) (s s':Int),0<=s->s<=1000->(CG w d f s=(true,s') ↔ (s'=s-f.size/\(f.size:Int)<=s/\f.depth<=d/\Ra w f=true))
 |0,f,s,s',_,_=>by
  have:=(Fact.depth_le f).1;simp[CG];omega
 | d+1,f,s,s',h0,h1=>by
  have hw:IntKind.i64.wrap (s-1)=s-1:=An (by omega) (by omega)
  have hall:∀(l:List Fact) (t t':Int),0<=t->t<=1000->(allS (CG w d) l t=(true,t') ↔ (t'=t-Fact.sizes l/\(Fact.sizes l:Int)<=t/\(∀x∈l,x.depth<=d)/\Ig w l=true)):=fun l=>by
   induction l with
   |nil=>intro t t' h0 h1;rw[allS,Fact.sizes,Ig];simp;omega
   | cons x r ih =>
    intro t t' h0 h1;rw[allS,Fact.sizes,Ig];cases hy:CG w d x t with
    | mk b t1 =>
     cases b with
     |false=>
      have hx:=Ih w d x t (t-x.size) h0 h1;rw[hy]at hx;simp only[Prod.mk.injEq,Bool.false_eq_true,false_and,false_iff,List.mem_cons,forall_eq_or_imp,Bool.and_eq_true]at hx⊢
      rintro⟨a1,a2,⟨a3,a4⟩,a5,a6⟩
      exact hx ⟨trivial,by omega,a3,a5⟩
     |true=>
      obtain⟨b1,b2,b3,b4⟩:=(Ih w d x t t1 h0 h1).1 hy;simp only[List.mem_cons,forall_eq_or_imp,Bool.and_eq_true];rw[ih t1 t' (by omega) (by omega)];constructor
      ·rintro⟨a1,a2,a3,a4⟩;exact⟨by omega,by omega,⟨b3,a3⟩,b4,a4⟩
      ·rintro⟨a1,a2,⟨_,a3⟩,_,a4⟩;exact⟨by omega,by omega,a3,a4⟩
  have hloc:=loc_iff w f;rw[CG,hw,Fact.depth_eq,Fact.size_eq,TY,Bool.and_eq_true,hloc]
  have hd:Fact.depths f.kids 0+1<=((d+1:Nat):Int) ↔ ∀x∈f.kids,x.depth<=d:=by
   have:=Kh f.kids 0 d;constructor
   ·intro h;exact(this.1 (by omega)).2
   ·intro h;have:=this.2 ⟨by omega,h⟩;omega
  rw[hd];unfold locP;split
  ·rename_i hc;simp only[Prod.mk.injEq,Bool.false_eq_true,false_and,false_iff]
   rintro⟨a1,a2,a3,⟨a4,a5,a6,a7⟩,a8⟩
   rcases hc with hc|hc|hc|hc<;>omega
  ·rename_i hc;have c1:¬s-1<0:=fun h=>hc (.inl h);have c2:¬f.op<1:=fun h=>hc (.inr (.inl h));have c3:¬7<f.op:=fun h=>hc (.inr (.inr (.inl h)));have c4:f.kids.length=B5 f.op:=Classical.byContradiction fun h=>hc (.inr (.inr (.inr h)));split
   ·rename_i hl
    have hk:f.kids=[]:=by
     have:B5 f.op=0:=by
      unfold Cm at hl;simp only[Bool.or_eq_true,decide_eq_true_eq]at hl;unfold B5;rw[if_neg (by omega),if_neg (by omega)]
     exact List.eq_nil_of_length_eq_zero (by omega)
    rw[hk]at c4⊢;rw[Fact.sizes,Ig];simp only[Prod.mk.injEq];constructor
    ·rintro⟨a1,a2⟩;exact⟨by omega,by omega,by simp,⟨by omega,by omega,c4,a1⟩,trivial⟩
    ·rintro⟨a1,a2,a3,⟨a4,a5,a6,a7⟩,a8⟩;exact⟨a7,by omega⟩
   ·rename_i hl;split
    ·rename_i hz;rw[hall _ _ _ (by omega) (by omega)];constructor
     ·rintro⟨a1,a2,a3,a4⟩;exact⟨by omega,by omega,a3,⟨by omega,by omega,c4,hz⟩,a4⟩
     ·rintro⟨a1,a2,a3,_,a4⟩;exact⟨by omega,by omega,a3,a4⟩
    ·rename_i hz;simp only[Prod.mk.injEq,Bool.false_eq_true,false_and,false_iff]
     rintro⟨a1,a2,a3,⟨a4,a5,a6,a7⟩,a8⟩
     exact hz a7
theorem UV{f:FProg}(h:FOK f){s:Str}(hs:s∈ownR f):clsN (ownR f) s=idxG s (ownR f) 0+3:=by
 have hb:=h.ownB s hs;unfold clsN;have e1:idxG s lits3 0=if wAny=s then 0 else if wInt=s then 1 else if Fk=s then 2 else -1:=rfl
 have h1:wAny≠s:=fun e=>by rw[<-e]at hb;exact absurd hb (by decide)
 have h2:wInt≠s:=fun e=>by rw[<-e]at hb;exact absurd hb (by decide)
 have h3:Fk≠s:=fun e=>by rw[<-e]at hb;exact absurd hb (by decide)
 rw[e1,if_neg h1,if_neg h2,if_neg h3,if_neg (by omega)]
theorem Nk{α β:Type}(f:β->Nat)(g:α->β): ∀l:List α,wtL f (l.map g)=wtL (fun x=>f (g x)) l
 |[]=>by rw[List.map_nil,wtL,wtL]
 |x::r=>by rw[List.map_cons,wtL,wtL,Nk f g r]
theorem N5(cm sm gm:List (Str×Int)): ∀(l:List FMeth) (k:Nat),(FK cm sm gm l k).length=wtL (fun m:FMeth=>m.body.cnt) l
 |[],_=>by rw[FK,wtL];rfl
 |m::r,k=>by rw[FK,wtL,List.length_append,Dt,N5 cm sm gm r]
theorem PN{p:BProg}(h:okP p=true):(Ah (Ai p)).nodes.length=p.nodes.length:=by
 rw[<-Ub h];unfold Ah;simp only[List.length_append];rw[N5,Dt];have e:(Ai p).methods=p.methods.map (spM p):=rfl;rw[e,Nk];have e2:(fun m:BMeth=>(spM p m).body.cnt)=fun m:BMeth=>cntB p 12 m.node:=funext fun m=>Np p _ _ _ _ 12 m.node _ _;have e3:(Ai p).main.cnt=cntB p 12 p.main:=Np p _ _ _ _ 12 p.main _ _;rw[e2,e3]
theorem KI(p:BProg):(spCs p).length=p.classes.length:=by unfold spCs;rw[List.length_map,List.length_zip,B4];omega
theorem M1(p:BProg):(Ah (Ai p)).classes.length=p.classes.length:=by
 unfold Ah;simp only[List.length_map];exact KI p
theorem M0(p:BProg):(Ah (Ai p)).methods.length=p.methods.length:=by
 unfold Ah;simp only;rw[J7];exact List.length_map ..
theorem Ow: ∀(l m:List Str),l.Nodup->(∀x∈l,x∈m)->l.length<=m.length
 |[],m,_,_=>by simp
 | x::r,m,hn,hs=>by
  rw[List.nodup_cons]at hn;have hx:=hs x (by simp)
  have:=Ow r (m.erase x) hn.2 fun y hy=>by
   have hne:y≠x:=fun e=>hn.1 (e ▸ hy);exact(List.mem_erase_of_ne hne).2 (hs y (by simp[hy]))
  rw[List.length_erase_of_mem hx]at this;have h0:0<m.length:=List.length_pos_of_mem hx;rw[List.length_cons];omega
theorem Rw{l:List Str}{n:Int}(h:InR n l.length):ixS l n∈l:=by
 obtain⟨k,_,hk,e⟩:=CU h;rw[e];exact List.getElem_mem hk
theorem NY(e:FExp)(l:List FExp):callsL (e::l)=(if e.op=5 then [e.text] else [])++callsL l:=by
 unfold callsL;rw[List.filter_cons]
 by_cases h:e.op=5
 ·rw[if_pos (decide_eq_true h),if_pos h];rfl
 ·rw[if_neg (by simpa using h),if_neg h];rfl
theorem QE(a b:List FExp):callsL (a++b)=callsL a++callsL b:=by unfold callsL;rw[List.filter_append,List.map_append]
theorem H9{p:BProg}{k:Nat}{f:Int->List Str->Nat->FExp×Nat}{g:List Str}{x:BNode}{txt:Str}{env:List Str}(hf:∀c e t size,okE p k c size->∀s∈callsL (allE (f c e t).1),s∈g):
  ∀(l:List Int) (j t:Nat) (size:Nat),(∀(i:Nat) (h:i<l.length), ∃z,okE p k l[i] z)->∀s∈callsL (Bw (BJ f x.op txt env j l t).1),s∈g
 |[],j,t,size,_,s,hs=>by rw[BJ,Bw]at hs;cases hs
 |c::r,j,t,size,h,s,hs=>by
  rw[BJ,Bw,QE]at hs;obtain⟨z,hz⟩:=h 0 (by simp);rcases List.mem_append.1 hs with hs|hs
  ·exact hf c _ _ z (by simpa using hz) s hs
  ·exact H9 hf r (j+1) _ size (fun i hi=>by have:=h (i+1) (by simpa using hi);simpa using this) s hs
theorem I2(p:BProg)(a b g P:List Str)(hg:g.length=p.gens.length): ∀(k:Nat) (node:Int) (env:List Str) (t size:Nat),okE p k node size->∀s∈callsL (allE (spE p a b g P k node env t).1),s∈g
 |0,_,_,_,_,h=>h.elim
 | k+1,node,env,t,size,h=>by
  rw[okE]at h;obtain⟨_,hnb,hk⟩:=h;intro s hs;rw[spE]at hs;simp only at hs;rw[allE,NY]at hs;rcases List.mem_append.1 hs with hs|hs
  ·by_cases h5:(Aj p node).op=5
   ·have hs:s∈(if(Aj p node).op=5 then [CR a b g P (Aj p node) env t] else []):=hs;rw[if_pos h5,List.mem_singleton]at hs;rw[hs];have e:CR a b g P (Aj p node) env t=ixS g (Aj p node).n:=by unfold CR;rw[h5];rfl
    rw[e];refine Rw ?_;simpa[BF,h5,InR,hg] using hnb
   ·have hs:s∈(if(Aj p node).op=5 then [CR a b g P (Aj p node) env t] else []):=hs;rw[if_neg h5]at hs;cases hs
  ·exact H9 (fun c e t z hz s hs=>I2 p a b g P hg k c e t z hz s hs) _ 0 _ size (fun i hi=>⟨_,hk i hi⟩) s hs
theorem Ru{p:BProg}(hp:SpOK p):(Ah (Ai p)).gens.length<=p.gens.length:=by
 have hl:(Ah (Ai p)).gens.length=(gensN (Ai p)).length:=by
  show(Hq (AN (Ai p)) (Ai p)).length=_;unfold Hq;rw[Du,HG,List.length_replicate,Hz]
 have hg:(spG p).length=p.gens.length:=B4 _;rw[hl,<-hg];refine Ow _ _ (GW _).1 fun s hs=>?_;have hs:s∈(CI (Cu (Ai p)) (metG (Ai p).methods ([],true))).1.map (·.1):=hs;rcases(Fb _ _).2.1 s hs with h|h
 ·rcases(LS _ _).2.1 s h with h|h
  ·cases h
  ·obtain⟨m',h1,rfl⟩:=List.mem_map.1 h;obtain⟨m,h2,rfl⟩:=List.mem_map.1 h1;exact Rw (by rw[hg];exact(hp.met m h2).gen)
 ·rcases Gy _ _ _ h with⟨m',h1,h2⟩|h
  ·obtain⟨m,h3,rfl⟩:=List.mem_map.1 h1;exact I2 p _ _ _ _ hg 12 m.node _ _ _ (hp.met m h3).body s h2
  ·exact I2 p _ _ _ _ hg 12 p.main _ _ _ hp.main s h
theorem DF{p:BProg}(h:Av p=true): ∃N,Cc 0 p.classes=some N/\N=p.slots/\Ca (p.classes.map (·.parents))=true/\AS p 0 p.classes=true:=by
 unfold Av at h;simp only[Bool.and_eq_true,decide_eq_true_eq]at h;obtain⟨_,h⟩:=h;split at h
 ·cases h
 ·simp only[Bool.and_eq_true,decide_eq_true_eq]at h;exact⟨_,by assumption,h.1.1,h.1.2,h.2⟩
theorem Oj(p:BProg)(k:Nat)(h:k<p.classes.length)(h2:k<(spCs p).length)(h3:k<(Bo p.classes.length).length):
  (spCs p)[k]=⟨(Bo p.classes.length)[k],(p.classes[k]).parents.map (ixS (spA p)),(p.classes[k]).slots.map (ixS (spS p)),(p.classes[k]).inits.map fun x=>⟨ixS (spS p) x.slot,x.n⟩⟩:=by
 simp only[spCs,List.getElem_map,List.getElem_zip];rfl
theorem QS(p:BProg):ownR (Ai p)=Bo p.classes.length:=by
 have hl:=B4 p.classes.length;show(spCs p).map (·.name)=_;have hc:=KI p;refine List.ext_getElem (by rw[List.length_map,hc,hl]) fun k h1 h2=>?_
 rw[List.getElem_map,Oj p k (by omega) (by omega) h2]
theorem idxG_at{l:List Str}(hn:l.Nodup){j:Nat}(hj:j<l.length):idxG l[j] l 0=j:=by
 have hs:l=l.take j++l[j]::l.drop (j+1):=by simp
 have h1:l[j]∉l.take j:=fun hm=>by
  have hn':=hn;rw[hs,List.nodup_append]at hn';exact hn'.2.2 _ hm _ List.mem_cons_self rfl
 have h2:=OJ l[j] (l.take j) (l.drop (j+1)) 0 h1;rw[<-hs,List.length_take]at h2;omega
theorem PO{p:BProg}(hok:okP p=true)(hs:(B9 (Ai p)).isSome=true):graphB (Ah (Ai p))=p.classes.map (·.parents):=by
 have hpr:R6 (Ai p)=true:=by rw[prog_eq];exact hs
 have hF:=fok_of hpr;have hgood:=(DF (Df hok));obtain⟨N,_,_,hg,_⟩:=hgood;have hl:=B4 p.classes.length;have hcl:(Ah (Ai p)).classes=(spCs p).map (J8 (Bi (Ai p)) (Bl (Ai p))):=rfl;have hcl2:=KI p;unfold graphB;rw[hcl,List.map_map];refine List.ext_getElem (by rw[List.length_map,List.length_map,hcl2]) fun k h1 h2=>?_
 have hk:k<p.classes.length:=by rw[List.length_map]at h2;exact h2
 rw[List.getElem_map,List.getElem_map,Oj p k hk (by omega) (by omega)];show(((p.classes[k]).parents.map (ixS (spA p))).map fun s=>getM 0 s (Bi (Ai p)))=_;rw[List.map_map];refine Eq.trans (List.map_congr_left fun x hx=>?_) (List.map_id _);obtain⟨y1,y2⟩:=(Uj hg hk).2 x hx;obtain⟨j,rfl⟩:∃j:Nat,x=(j:Int)+3:=⟨(x-3).toNat,by omega⟩;have hj:j<(Bo p.classes.length).length:=by omega
 have e1:ixS (spA p) ((j:Int)+3)=(Bo p.classes.length)[j]:=by
  have hA:spA p=lits3++Bo p.classes.length:=rfl;unfold ixS;rw[hA,show((j:Int)+3).toNat=3+j by omega,List.getElem?_append_right (by show 3<=3+j;omega),show 3+j-lits3.length=j by show 3+j-3=j;omega,List.getElem?_eq_getElem hj];rfl
 have hmem:(Bo p.classes.length)[j]∈ownR (Ai p):=by rw[QS];exact List.getElem_mem hj
 have hnd:=hF.own;rw[QS]at hnd
 show getM 0 (ixS (spA p) ((j:Int)+3)) (Bi (Ai p))=(j:Int)+3;rw[e1,UU _ hF.own _ (List.mem_append_left _ hmem),UV hF hmem,QS,idxG_at hnd hj]
theorem LY{g:List (List Int)}: ∀(n i:Nat),(∀k,i<=k->k<i+n->linE g ((k:Int)+3)=0)->Gf g i n=true
 |0,_,_=>rfl
 |n+1,i,h=>by
  rw[Gf,decide_eq_true (h i (by omega) (by omega)),Bool.true_and];exact LY n (i+1) fun k h1 h2=>h k (by omega) (by omega)
theorem IH{α β:Type}(f:α->List β): ∀l:List α,(l.flatMap f).length=wtL (fun x=>(f x).length) l
 |[]=>by rw[List.flatMap_nil,wtL];rfl
 |x::r=>by rw[List.flatMap_cons,List.length_append,wtL,IH f r]
theorem QI{α β:Type}(f:α->Nat): ∀(l:List α) (m:List β),l.length=m.length->wtL (fun x:α×β=>f x.1) (l.zip m)=wtL f l
 |[],m,h=>by rw[List.zip_nil_left,wtL,wtL]
 |x::l,[],h=>by simp at h
 |x::l,y::m,h=>by rw[List.zip_cons_cons,wtL,wtL,QI f l m (by simpa using h)]
theorem PM{p:BProg}(h:okP p=true):(Ah (Ai p)).slots=p.slots:=by
 obtain⟨N,hc,hN,_,_⟩:=DF (Df h);obtain⟨h1,_,_⟩:=H3 _ _ _ hc;show((Aw (Ai p)).length:Int)=_
 have e:(Aw (Ai p)).length=wtL (fun c:BClass=>c.slots.length) p.classes:=by
  unfold Aw;rw[IH]
  show wtL (fun c:FClass=>c.slots.length) (spCs p)=_;unfold spCs;rw[Nk];have e2:(fun x:BClass×Str=>({ spC (spA p) (spS p) x.1 with name:=x.2 }:FClass).slots.length)=fun x=>(fun c:BClass=>c.slots.length) x.1:=funext fun x=>by simp[spC]
  rw[e2];exact QI (fun c:BClass=>c.slots.length) _ _ (B4 _).symm
 omega
mutual
theorem Kq(cm sm:List (Str×Int))(env:Str->Int)(a b P:List Str): ∀f:Fact,(bndF cm sm env (spF a b P f)).size=f.size
 |.mk o g p c n k=>by rw[spF,bndF,Fact.size,Fact.size,J6 cm sm env a b P k]
theorem J6(cm sm:List (Str×Int))(env:Str->Int)(a b P:List Str): ∀l:List Fact,Fact.sizes (Gz cm sm env (spFs a b P l))=Fact.sizes l
 |[]=>by rw[spFs,Gz]
 |x::r=>by rw[spFs,Gz,Fact.sizes,Fact.sizes,Kq cm sm env a b P x,J6 cm sm env a b P r]
end
theorem TV{p:BProg}(h:okP p=true): ∀m∈p.methods,Dz p m=true/\okE p 12 m.node (Ck p m):=by
 unfold okP CH at h;split at h
 ·rename_i hc;simp only[Bool.and_eq_true,decide_eq_true_eq,List.all_eq_true]at hc;cases hm:Ce p p.methods (List.replicate p.nodes.length (-1))with
  |none=>rw[hm]at h;simp at h
  |some s=>
   obtain⟨k1,_⟩:=Gc p p.methods _ s hm (by simp) (fun g hx=>(hc.2 g hx).1);exact fun m hx=>⟨(k1 m hx).1,(k1 m hx).2.1⟩
 ·simp at h
theorem TW{p:BProg}(h:okP p=true){m:BMeth}(hm:m∈p.methods):Ra (CE p) m.fact=true/\m.fact.size<=24:=by
 have h1:=(TV h m hm).1;unfold Dz at h1;simp only[Bool.and_eq_true]at h1;have h2:=h1.1.2;unfold Ea at h2;cases hf:CG (CE p) 12 m.fact 24 with
 | mk b t =>
  rw[hf]at h2;cases b with
  |false=>cases h2
  |true=>
   obtain⟨_,b2,_,b4⟩:=(Ih (CE p) 12 m.fact 24 t (by omega) (by omega)).1 hf;exact⟨b4,by omega⟩
theorem N6(cm sm gm:List (Str×Int)): ∀(l:List FMeth) (k:Nat), ∀x∈bndMM cm sm gm l k, ∃m∈l,x.fact=bndF cm sm (Ep m) m.fact
 |[],_,x,hx=>by simp[bndMM]at hx
 | m::r,k,x,hx=>by
  rw[bndMM]at hx;rcases List.mem_cons.1 hx with rfl|hx
  ·exact⟨m,by simp,rfl⟩
  ·obtain⟨y,h1,h2⟩:=N6 cm sm gm r _ x hx;exact⟨y,by simp[h1],h2⟩
theorem Hf(p:BProg): ∀(l:List BClass) (i:Nat),AS p i l=true->∀k,i<=k->k<i+l.length->linE (p.classes.map (·.parents)) ((k:Int)+3)=0
 |[],i,_,k,h1,h2=>by simp at h2;omega
 |c::r,i,h,k,h1,h2=>by
  rw[AS]at h;simp only[Bool.and_eq_true,decide_eq_true_eq]at h
  by_cases e:k=i
  ·rw[e];exact h.1.1
  ·exact Hf p r (i+1) h.2 k (by omega) (by simp at h2;omega)
theorem PP{p:BProg}(h:okP p=true)(hs:(B9 (Ai p)).isSome=true):FL (Ai p)=0:=by
 obtain⟨N,_,_,_,hi⟩:=DF (Df h);unfold FL;rw[if_pos hs,PO h hs,if_pos,if_pos]
 ·rw[List.all_eq_true];intro x hx;rw[decide_eq_true_eq];obtain⟨m',h1,h2⟩:=N6 _ _ _ _ _ x hx;obtain⟨m,h3,rfl⟩:=List.mem_map.1 h1;rw[h2];have:=(TW h h3).2;have e:(bndF (Bi (Ai p)) (Bl (Ai p)) (Ep (spM p m)) (spM p m).fact).size=m.fact.size:=Kq _ _ _ _ _ _ _;omega
 ·refine LY _ 0 fun k h1 h2=>Hf p p.classes 0 hi k h1 ?_;rw[List.length_map]at h2;omega
theorem Qk: ∀(n:Nat) (x:FFact) (V:Sig),x.wt<=n->n<=1073741824->DCall prog 149 [.agg (AV x),.agg (AV x)] V (rS (.bool true) V):=by
 intro n
 induction n with
 |zero=>
  intro x V hx;have:=x.wt_pos;omega
 | succ n ih =>
  intro x V hx hw;obtain⟨w1,w2,w3,w4,w5⟩:=x.wt_le;have hpl:x.path.length<=1073741824:=by have:=Bk x.path;omega
  refine en func149 ntmps149 ?_;refine gz ?_ o149;refine Bj [2,3] (fun (k:Nat)=>k<=x.kids.length) (fun k=>[(5,dI k)]) (fun _=>V) (fun k=>x.kids.length-k) (0) (by omega) (fun k hI=>?_);have hk:=hI
  by_cases hkl:k<x.kids.length
  ·have hwk:=w5 k hkl;have i149:∀V:Sig,Ans 149 [.agg (AV x.kids[k]),.agg (AV x.kids[k])] V True (.bool true):=fun V=>ah0 (ih x.kids[k] V (by omega) (by omega))
   refine gz ?_ o149;exact⟨k+1,by omega,td1,wkR⟩
  ·refine gz ?_ o149;exact fin1 (S':=V) ⟨rfl,rfl⟩
theorem Mi: ∀(n:Nat) (x:FExp) (V:Sig),x.wt<=n->n<=1073741824->DCall prog 58 [.agg (AO x),.agg (AO x)] V (rS (.bool true) V):=by
 intro n
 induction n with
 |zero=>
  intro x V hx;have:=x.wt_pos;omega
 | succ n ih =>
  intro x V hx hw;obtain⟨w1,w2,w5⟩:=x.wt_le;refine en func58 ntmps58 ?_;refine gz ?_ o58;refine Bj [2,3] (fun (k:Nat)=>k<=x.kids.length) (fun k=>[(5,dI k)]) (fun _=>V) (fun k=>x.kids.length-k) (0) (by omega) (fun k hI=>?_);have hk:=hI
  by_cases hkl:k<x.kids.length
  ·have hwk:=w5 k hkl;have i58:∀V:Sig,Ans 58 [.agg (AO x.kids[k]),.agg (AO x.kids[k])] V True (.bool true):=fun V=>ah0 (ih x.kids[k] V (by omega) (by omega))
   refine gz ?_ o58;exact⟨k+1,by omega,td1,wkR⟩
  ·refine gz ?_ o58;exact fin1 (S':=V) ⟨rfl,rfl⟩
theorem RN(x:FClass)(V:Sig)(hx:x.wt<=1073741824):DCall prog 59 [.agg (cFClass x),.agg (cFClass x)] V (rS (.bool true) V):=by
 obtain⟨w1,w2,w3,w4,w5⟩:=x.wt_le;have hpl:x.parents.length<=1073741824:=by have:=Bk x.parents;omega
 have hsl:x.slots.length<=1073741824:=by have:=Bk x.slots;omega
 refine en func59 ntmps59 ?_;refine gz ?_ o59;refine Bj [2,3] (fun (k:Nat)=>k<=x.inits.length) (fun k=>[(5,dI k)]) (fun _=>V) (fun k=>x.inits.length-k) (0) (by omega) (fun k hI=>?_);have hk:=hI
 by_cases hkl:k<x.inits.length
 ·refine gz ?_ o59;exact⟨k+1,by omega,td1,wkR⟩
 ·refine gz ?_ o59;exact fin1 (S':=V) ⟨rfl,rfl⟩
theorem RM(x:FMeth)(V:Sig)(hx:x.wt<=1073741824):DCall prog 60 [.agg (D0 x),.agg (D0 x)] V (rS (.bool true) V):=by
 have m1:x.name.length<x.wt/\wtS x.params<x.wt/\x.fact.wt<x.wt/\x.body.wt<x.wt:=by unfold FMeth.wt;omega
 obtain⟨m1,m2,m3,m4⟩:=m1;have hpl:x.params.length<=1073741824:=by have:=Bk x.params;omega
 have i149:∀V:Sig,Ans 149 [.agg (AV x.fact),.agg (AV x.fact)] V True (.bool true):=fun V=>ah0 (Qk x.fact.wt x.fact V (Nat.le_refl _) (by omega))
 have i58:∀V:Sig,Ans 58 [.agg (AO x.body),.agg (AO x.body)] V True (.bool true):=fun V=>ah0 (Mi x.body.wt x.body V (Nat.le_refl _) (by omega))
 refine en func60 ntmps60 ?_;refine gz ?_;exact fin1 (S':=V) ⟨rfl,rfl⟩
theorem Sq(p:FProg)(V:Sig)(hw:p.wt<=1073741824):DCall prog 22 [.agg (BA p),.agg (BA p)] V (rS (.bool true) V):=by
 obtain⟨p1,p2,p3,p4,p5⟩:=p.wt_le;have i58:∀V:Sig,Ans 58 [.agg (AO p.main),.agg (AO p.main)] V True (.bool true):=fun V=>ah0 (Mi p.main.wt p.main V (Nat.le_refl _) (by omega))
 refine en func22 ntmps22 ?_;refine gz ?_ o22;refine Bj [2,3,6,50,51,52,53,54,55,56,57,58,59,60,61,62,63,64,65,66,67,68] (fun (k:Nat)=>k<=p.classes.length) (fun k=>[(5,dI k)]) (fun _=>V) (fun k=>p.classes.length-k) (0) (by omega) (fun k hI=>?_);have hk:=hI
 by_cases hkl:k<p.classes.length
 ·have hwk:=p4 k hkl;have i59:∀V:Sig,Ans 59 [.agg (cFClass p.classes[k]),.agg (cFClass p.classes[k])] V True (.bool true):=fun V=>ah0 (RN p.classes[k] V (by omega))
  refine gz ?_ o22;exact⟨k+1,by omega,td1,wkR⟩
 ·refine gz ?_ o22;clear hk hkl;refine Bj [2,3] (fun (k:Nat)=>k<=p.methods.length) (fun k=>[(6,dI k)]) (fun _=>V) (fun k=>p.methods.length-k) (0) (by omega) (fun k hI=>?_);have hk:=hI
  by_cases hkl:k<p.methods.length
  ·have hwk:=p5 k hkl;have i60:∀V:Sig,Ans 60 [.agg (D0 p.methods[k]),.agg (D0 p.methods[k])] V True (.bool true):=fun V=>ah0 (RM p.methods[k] V (by omega))
   refine gz ?_ o22;exact⟨k+1,by omega,td1,wkR⟩
  ·refine gz ?_ o22;exact fin1 (S':=V) ⟨rfl,rfl⟩
structure FcT(i7 i1 i2:Nat)(op n:Int)(A C:Str)(l:List Str)(ks:List FFact)(V S1:Sig):Prop where
 o7:S1 i7=some (.cells [dI op,(.str A),.slice (cS l) (.tag i1),(.str C),dI n,.slice (ks.map AV) (.tag i2)])
 o1:S1 i1=some (.tail 1 l.length)
 o2:S1 i2=some (.tail 6 ks.length)
 hS:Sub V S1
theorem FcT.path{i7 i1 i2:Nat}{op n:Int}{A C:Str}{l:List Str}{ks:List FFact}{V S1:Sig}(h:FcT i7 i1 i2 op n A C l ks V S1)(v:Str)(h12:i1≠i2)(h7:V i7=none)(h1:V i1=none):
  FcT i7 i1 i2 op n A C (l++[v]) ks V ((S1.set i1 (.tail 1 (l.length+1))).set i7 (.cells [dI op,(.str A),.slice (cS l++[[.str v]]) (.tag i1),(.str C),dI n,.slice (ks.map AV) (.tag i2)])):=by
 have n1:i1≠i7:=A9 h.o1 h.o7 (by simp);have n2:i2≠i7:=A9 h.o2 h.o7 (by simp);refine⟨by rw[w7];simp[cS],by rw[w8 _ _ n1,w7,List.length_append];rfl,by rw[w8 _ _ n2,w8 _ _ (Ne.symm h12)];exact h.o2,fun j o hj=>?_⟩;rw[w8 _ _ (A1 hj h7),w8 _ _ (A1 hj h1)];exact h.hS j o hj
structure D1S(i7 j1 j2 j3:Nat)(nm:Str)(ps ss:List Str)(is:List FInit)(V S1:Sig):Prop where
 o7:S1 i7=some (.cells [.str nm,.slice (cS ps) (.tag j1),.slice (cS ss) (.tag j2),.slice (is.map D1) (.tag j3)])
 o1:S1 j1=some (.tail 1 ps.length)
 o2:S1 j2=some (.tail 1 ss.length)
 o3:S1 j3=some (.tail 2 is.length)
 hS:Sub V S1
section
variable {i7 j1 j2 j3:Nat}{nm:Str}{ps ss:List Str}{is:List FInit}{V S1:Sig}
theorem D1S.par(h:D1S i7 j1 j2 j3 nm ps ss is V S1)(v:Str)(h12:j1≠j2)(h13:j1≠j3)(h7:V i7=none)(h1:V j1=none):
  D1S i7 j1 j2 j3 nm (ps++[v]) ss is V ((S1.set j1 (.tail 1 (ps.length+1))).set i7 (.cells [.str nm,.slice (cS ps++[[.str v]]) (.tag j1),.slice (cS ss) (.tag j2),.slice (is.map D1) (.tag j3)])):=by
 have n1:j1≠i7:=A9 h.o1 h.o7 (by simp);have n2:j2≠i7:=A9 h.o2 h.o7 (by simp);have n3:j3≠i7:=A9 h.o3 h.o7 (by simp);refine⟨by rw[w7];simp[cS],by rw[w8 _ _ n1,w7,List.length_append];rfl,by rw[w8 _ _ n2,w8 _ _ (Ne.symm h12)];exact h.o2,by rw[w8 _ _ n3,w8 _ _ (Ne.symm h13)];exact h.o3,fun j o hj=>?_⟩;rw[w8 _ _ (A1 hj h7),w8 _ _ (A1 hj h1)];exact h.hS j o hj
theorem D1S.slo(h:D1S i7 j1 j2 j3 nm ps ss is V S1)(v:Str)(h12:j1≠j2)(h23:j2≠j3)(h7:V i7=none)(h1:V j2=none):
  D1S i7 j1 j2 j3 nm ps (ss++[v]) is V ((S1.set j2 (.tail 1 (ss.length+1))).set i7 (.cells [.str nm,.slice (cS ps) (.tag j1),.slice (cS ss++[[.str v]]) (.tag j2),.slice (is.map D1) (.tag j3)])):=by
 have n1:j1≠i7:=A9 h.o1 h.o7 (by simp);have n2:j2≠i7:=A9 h.o2 h.o7 (by simp);have n3:j3≠i7:=A9 h.o3 h.o7 (by simp);refine⟨by rw[w7];simp[cS],by rw[w8 _ _ n1,w8 _ _ h12];exact h.o1,by rw[w8 _ _ n2,w7,List.length_append];rfl,by rw[w8 _ _ n3,w8 _ _ (Ne.symm h23)];exact h.o3,fun j o hj=>?_⟩;rw[w8 _ _ (A1 hj h7),w8 _ _ (A1 hj h1)];exact h.hS j o hj
theorem D1S.ini(h:D1S i7 j1 j2 j3 nm ps ss is V S1)(v:FInit)(h13:j1≠j3)(h23:j2≠j3)(h7:V i7=none)(h1:V j3=none):
  D1S i7 j1 j2 j3 nm ps ss (is++[v]) V ((S1.set j3 (.tail 2 (is.length+1))).set i7 (.cells [.str nm,.slice (cS ps) (.tag j1),.slice (cS ss) (.tag j2),.slice (is.map D1++[D1 v]) (.tag j3)])):=by
 have n1:j1≠i7:=A9 h.o1 h.o7 (by simp);have n2:j2≠i7:=A9 h.o2 h.o7 (by simp);have n3:j3≠i7:=A9 h.o3 h.o7 (by simp);refine⟨by rw[w7];simp,by rw[w8 _ _ n1,w8 _ _ h13];exact h.o1,by rw[w8 _ _ n2,w8 _ _ h23];exact h.o2,by rw[w8 _ _ n3,w7,List.length_append];rfl,fun j o hj=>?_⟩;rw[w8 _ _ (A1 hj h7),w8 _ _ (A1 hj h1)];exact h.hS j o hj
end
structure E1S(i2 i4 ic im:Nat)(cl:List FClass)(ms:List FMeth)(V S1:Sig):Prop where
 o4:S1 i4=some (.cells [.slice (cl.map cFClass) (.tag ic),.slice (ms.map D0) (.tag im),dI 0,dI 0,.str [],.nils])
 oc:S1 ic=some (.tail 4 cl.length)
 om:S1 im=some (.tail 13 ms.length)
 o2:S1 i2=some (.cells [.nils,.nils,dI 0,dI 0,.str [],.nils])
 hS:Sub V S1
theorem E1S.cls{i2 i4 ic im:Nat}{cl:List FClass}{V S6 S11:Sig}(h:E1S i2 i4 ic im cl [] V S6)(hS:Sub S6 S11)(hb:V i4=none)(hc:V ic=none)(x:FClass):
  E1S i2 i4 ic im (cl++[x]) [] V ((S11.set ic (.tail 4 (cl.length+1))).set i4 (.cells [.slice (cl.map cFClass++[cFClass x]) (.tag ic),.slice [] (.tag im),dI 0,dI 0,.str [],.nils])):=by
 have n1:ic≠i4:=A9 h.oc h.o4 (by simp);have n2:im≠i4:=A9 h.om h.o4 (by simp);have n3:i2≠i4:=A9 h.o2 h.o4 (by simp);have n4:im≠ic:=A9 h.om h.oc (by simp);have n5:i2≠ic:=A9 h.o2 h.oc (by simp);refine⟨by rw[w7];simp,by rw[w8 _ _ n1,w7,List.length_append];rfl,by rw[w8 _ _ n2,w8 _ _ n4];exact hS _ _ h.om,by rw[w8 _ _ n3,w8 _ _ n5];exact hS _ _ h.o2,fun j o hj=>?_⟩;rw[w8 _ _ (A1 hj hb),w8 _ _ (A1 hj hc)];exact hS _ _ (h.hS j o hj)
def AW(l:List Str):Prop:= ∀s∈l,s.length<=8
theorem FJ{f:Nat->Option Str}: ∀(k j:Nat) (w:Str),Dr f k j=some w->∃i,j<=i/\i<j+k/\f i=some w
 |0,_,_,h=>by simp[Dr]at h
 | k+1,j,w,h=>by
  rw[Dj]at h;split at h
  ·rename_i x hx;cases h;exact⟨j,by omega,by omega,hx⟩
  ·obtain⟨i,h1,h2,h3⟩:=FJ k (j+1) w h;exact⟨i,by omega,by omega,h3⟩
theorem M8(tk:List Str): ∀(n:Nat) (s w:Str),D6 tk n s=some w->w.length=s.length+n
 |0,s,w,h=>by
  rw[D6]at h;split at h
  ·cases h
  ·cases h;rfl
 |n+1,s,w,h=>by
  rw[D6]at h;obtain⟨i,_,_,h1⟩:=FJ _ _ _ h;have:=M8 tk n _ _ h1;simp at this;omega
theorem PU(tk:List Str):(DP tk).length<=8:=by
 unfold DP;cases h:IF tk with
 |none=>simp
 |some w=>
  unfold IF at h;obtain⟨i,h1,h2,h3⟩:=FJ _ _ _ h;have:=M8 tk i _ _ h3;simp at this⊢; omega
theorem Hi: ∀(n:Nat) (l:List Str),AW l->AW (Gl n l)
 |0,l,h=>h
 |n+1,l,h=>by
  rw[Gl];refine Hi n _ fun s hs=>?_;rcases List.mem_append.1 hs with hs|hs
  ·exact h s hs
  ·rw[List.mem_singleton.1 hs];exact PU l
theorem CJ(n:Nat):AW (Bo n):=Hi n [] fun s hs=>by simp at hs
theorem QW(p:BProg):AW (spA p):=fun s hs=>by
 unfold spA at hs;rcases List.mem_append.1 hs with hs|hs
 ·simp at hs;rcases hs with rfl|rfl|rfl<;>decide
 ·exact CJ _ s hs
theorem DC{l:List Str}(h:AW l)(n:Int):(ixS l n).length<=8:=by
 unfold ixS;cases hn:l[n.toNat]? with
 |none=>simp
 |some s=>exact h s (List.mem_of_getElem? hn)
theorem Es: ∀{l:List Str},AW l->wtS l<=9*l.length
 |[],_=>by simp[wtS,wtL]
 |x::l,h=>by
  have h1:=h x (by simp);have h2:=Es (l:=l) fun s hs=>h s (by simp[hs])
  unfold wtS at h2⊢;rw[wtL,List.length_cons];omega
theorem E5{l:List Str}(h:AW l)(k:List Int):AW (k.map (ixS l)):=fun s hs=>by
 obtain⟨x,_,rfl⟩:=List.mem_map.1 hs;exact DC h x
theorem spC_wt{a b:List Str}(ha:AW a)(hb:AW b)(c:BClass)(n:Str)(hn:n.length<=8):FClass.wt { spC a b c with name:=n }<=9*c.wt:=by
 have h1:=Es (E5 ha c.parents);have h2:=Es (E5 hb c.slots)
 have h3:∀l:List Init,wtL FInit.wt (l.map fun x=>⟨ixS b x.slot,x.n⟩)<=9*l.length:=fun l=>by
  induction l with
  |nil=>simp[wtL]
  |cons x l ih=>
   have:=DC hb x.slot;simp only[List.map_cons,wtL,List.length_cons,FInit.wt];omega
 have h4:=h3 c.inits;rw[List.length_map]at h1 h2
 show 1+n.length+wtS (c.parents.map (ixS a))+wtS (c.slots.map (ixS b))+wtL FInit.wt (c.inits.map fun x=>⟨ixS b x.slot,x.n⟩)<=9*(1+c.parents.length+c.slots.length+c.inits.length);omega
mutual
theorem V4{a b P:List Str}(ha:AW a)(hb:AW b)(hP:AW P): ∀f:Fact,(spF a b P f).wt<=17*f.wt
 |.mk o g p c n k=>by
  have h1:=Es (E5 hb p);rw[List.length_map]at h1;have h2:=QU ha hb hP k;have h3:(if o=2\/o=3\/o=4 then ixS P g else([]:Str)).length<=8:=by split;exact DC hP g;simp
  have h4:(if o=2 then ixS a c else([]:Str)).length<=8:=by split;exact DC ha c;simp
  rw[spF,FFact.wt,Fact.wt];omega
theorem QU{a b P:List Str}(ha:AW a)(hb:AW b)(hP:AW P): ∀l:List Fact,FFact.wts (spFs a b P l)<=17*Fact.wts l
 |[]=>by rw[spFs,FFact.wts,Fact.wts];omega
 |x::r=>by
  have h1:=V4 ha hb hP x;have h2:=QU ha hb hP r;rw[spFs,FFact.wts,Fact.wts];omega
end
theorem QT{a b g P env:List Str}(ha:AW a)(hb:AW b)(hg:AW g)(hP:AW P)(he:AW env)(x:BNode)(t:Nat):(CR a b g P x env t).length<=8:=by
 unfold CR
 repeat' split
 ·exact DC he _
 ·exact DC hb _
 ·exact DC hg _
 ·exact DC ha _
 ·exact DC hP _
 ·simp
theorem LA{p:BProg}{k:Nat}{f:Int->List Str->Nat->FExp×Nat}{op:Int}{txt:Str}{env:List Str}(hf:∀c e t,AW e->(f c e t).1.wt<=9*cntB p k c)(he:AW env)(ht:txt.length<=8): ∀(l:List Int) (j t:Nat),FExp.wts (BJ f op txt env j l t).1<=9*wtL (cntB p k) l
 |[],_,_=>by rw[BJ,wtL,FExp.wts];omega
 | c::r,j,t=>by
  have hs:AW (if op=9/\j=1 then env++[txt] else env):=by
   split
   ·intro s hs;rcases List.mem_append.1 hs with hs|hs
    ·exact he s hs
    ·rw[List.mem_singleton.1 hs];exact ht
   ·exact he
  have h1:=hf c _ t hs;have h2:=LA (op:=op) hf he ht r (j+1) (f c (if op=9/\j=1 then env++[txt] else env) t).2;rw[BJ,wtL,FExp.wts];omega
theorem QV(p:BProg){a b g P:List Str}(ha:AW a)(hb:AW b)(hg:AW g)(hP:AW P): ∀(k:Nat) (node:Int) (env:List Str) (t:Nat),AW env->(spE p a b g P k node env t).1.wt<=9*cntB p k node
 |0,_,_,_,_=>by simp[spE,cntB,FExp.wt,FExp.wts]
 |k+1,node,env,t,he=>by
  have ht:=QT ha hb hg hP he (Aj p node) t;have:=LA (op:=(Aj p node).op) (fun c e t hs=>QV p ha hb hg hP k c e t hs) he ht (Aj p node).kids 0 (if(Aj p node).op=9 then t+1 else t);rw[spE,cntB,FExp.wt];omega
theorem Ox (w:World) : ∀ (d:Nat) (f:Fact) (s s':Int),CG w d f s=(true,s')->0<=s/\s<=1000->0<=s'/\(f.wt:Int)<=3*(s-s')
 |0,_,_,_,h,_=>by simp[CG]at h
 | d+1,f,s,s',h,hs=>by
  have hw:IntKind.i64.wrap (s-1)=s-1:=An (by omega) (by omega);rw[CG,hw]at h;split at h
  ·simp at h
  ·rename_i hop;have hkl:f.kids.length=B5 f.op:=Classical.byContradiction fun e=>hop (.inr (.inr (.inr e)));have hs1:0<=s-1:=by omega
   have hfe:f.wt=1+f.path.length+Fact.wts f.kids:=by cases f;rw[Fact.wt];rfl
   split at h
   ·rename_i hl;simp only[Prod.mk.injEq]at h;obtain⟨hlf,rfl⟩:=h;unfold GT at hlf;simp only[Bool.and_eq_true,decide_eq_true_eq]at hlf;obtain⟨⟨_,hpb⟩,_⟩:=hlf;unfold LL at hpb;simp only[Bool.and_eq_true,decide_eq_true_eq]at hpb
    have hk:f.kids=[]:=by
     have:B5 f.op=0:=by
      unfold Cm at hl;simp only[Bool.or_eq_true,decide_eq_true_eq]at hl;unfold B5;rw[if_neg (by omega),if_neg (by omega)]
     exact List.eq_nil_of_length_eq_zero (by omega)
    rw[hk,Fact.wts]at hfe;exact⟨hs1,by have:=hpb.1;omega⟩
   ·split at h
    ·rename_i h0
     have hkw:∀(l:List Fact) (t t':Int),allS (CG w d) l t=(true,t')->0<=t/\t<=1000->0<=t'/\(Fact.wts l:Int)<=3*(t-t'):=fun l=>by
      induction l with
      |nil=>intro t t' h ht;rw[allS]at h;cases h;exact⟨ht.1,by rw[Fact.wts];omega⟩
      | cons x r ih =>
       intro t t' h ht;rw[allS]at h;cases hy:CG w d x t with
       | mk b t1 =>
        rw[hy]at h;cases b with
        |false=>simp at h
        |true=>
         obtain⟨g1,g2⟩:=Ox w d x t t1 hy ht;obtain⟨g3,g4⟩:=ih t1 t' h ⟨g1,by have:=x.wt_pos;omega⟩;exact⟨g3,by rw[Fact.wts];omega⟩
     obtain⟨g1,g2⟩:=hkw _ _ _ h ⟨hs1,by omega⟩;exact⟨g1,by have:=h0.2.1;omega⟩
    ·simp at h
theorem Lp{α β:Type}{g:β->Nat}{h:α->β}{k:Nat}: ∀l:List α,(∀x∈l,g (h x)<=k)->wtL g (l.map h)<=k*l.length
 |[],_=>by simp[wtL]
 |x::r,hx=>by
  have h1:=hx x (by simp);have h2:=Lp (g:=g) (h:=h) (k:=k) r fun y hy=>hx y (by simp[hy])
  rw[List.map_cons,wtL,List.length_cons,Nat.mul_add];omega
theorem V2{a b:List Str}(ha:AW a)(hb:AW b): ∀(l:List BClass) (n:List Str),AW n->wtL FClass.wt ((l.zip n).map fun x=>{ spC a b x.1 with name:=x.2 })<=9*wtL BClass.wt l
 |[],_,_=>by simp[wtL]
 |_::_,[],_=>by simp[wtL]
 |c::r,x::n,hn=>by
  have h1:=spC_wt ha hb c x (hn x (by simp));have h2:=V2 ha hb r n fun s hs=>hn s (by simp[hs])
  rw[List.zip_cons_cons,List.map_cons,wtL,wtL,Nat.mul_add];exact Nat.add_le_add h1 h2
theorem KH {p:BProg} (h:okP p=true):(Ai p).wt<=9*p.wt+60000:=by
 have hsA:=QW p;have hsS:AW (spS p):=CJ _;have hsG:AW (spG p):=CJ _;have hsL:AW (spL p):=CJ _;unfold okP CH at h;split at h
 ·rename_i hc;simp only[Bool.and_eq_true,decide_eq_true_eq,List.all_eq_true]at hc;obtain⟨⟨hcl,⟨⟨h8,h16⟩,hn1⟩,h120⟩,hg⟩:=hc;cases hm:Ce p p.methods (List.replicate p.nodes.length (-1))with
  |none=>rw[hm]at h;simp at h
  | some s =>
   rw[hm]at h;obtain⟨k1,k2,k3⟩:=Gc p p.methods _ s hm (by simp) (fun g hx=>(hg g hx).1);rw[List.length_replicate]at k2;cases hw:Dm p false 12 p.main 0 s with
   | mk b s2 =>
    simp only[hw]at h;cases b with
    |false=>simp[optW]at h
    | true =>
     obtain⟨m1,m2,m3⟩:=Hr p false 12 _ _ _ _ hw k2 (Int.le_refl _);have hns:negS s<=s.length:=List.countP_le_length;have h1:=V2 hsA hsS p.classes (Bo p.classes.length) (CJ _);have h2:=QV p hsA hsS hsG hsL 12 p.main [] 0 (fun s hs=>by simp at hs)
     have h3:wtL FMeth.wt (p.methods.map (spM p))<=3000*p.methods.length:=by
      refine Lp p.methods fun m hmm=>?_;obtain⟨q1,q2,q3⟩:=k1 m hmm;unfold Dz at q1;simp only[Bool.and_eq_true,decide_eq_true_eq]at q1;obtain⟨⟨⟨_,hgen⟩,hform⟩,hsp⟩:=q1
      have hgb:1<=p.gens.getD m.gen.toNat 0/\p.gens.getD m.gen.toNat 0<=3:=by
       have hl:m.gen.toNat<p.gens.length:=by omega
       rw[List.getD_eq_getElem?_getD,List.getElem?_eq_getElem hl];exact hg _ (List.getElem_mem hl)
      have hpar:Ck p m<=3:=by unfold Ck;omega
      have hst:AW ((spL p).take (Ck p m)):=fun s hs=>hsL s (List.mem_of_mem_take hs);have r1:=DC hsG m.gen;have r2:=Es hst;have r3:=V4 hsA hsS hst m.fact;have r4:=QV p hsA hsS hsG hsL 12 m.node ((spL p).take (Ck p m)) (Ck p m) hst
      have r5:m.fact.wt<=72:=by
       unfold Ea at hform;cases hf:CG (CE p) 12 m.fact 24 with
       | mk b t =>
        rw[hf]at hform;cases b with
        |false=>simp at hform
        |true=>
         obtain⟨u1,u2⟩:=Ox (CE p) 12 m.fact 24 t hf (by omega);omega
      have r6:((spL p).take (Ck p m)).length<=3:=by rw[List.length_take];omega
      show 1+(ixS (spG p) m.gen).length+wtS ((spL p).take (Ck p m))+(spF (spA p) (spS p) ((spL p).take (Ck p m)) m.fact).wt+(spE p (spA p) (spS p) (spG p) (spL p) 12 m.node ((spL p).take (Ck p m)) (Ck p m)).1.wt<=3000;omega
     have h4:wtL BClass.wt p.classes<p.wt:=by unfold BProg.wt;omega
     show 1+wtL FClass.wt (spCs p)+wtL FMeth.wt (p.methods.map (spM p))+(spE p (spA p) (spS p) (spG p) (spL p) 12 p.main [] 0).1.wt<=9*p.wt+60000;unfold spCs;omega
 ·simp at h
def Ej:FProg:=⟨[],[],.mk 0 0 [] []⟩
def D7(p:BProg):Int:=if okP p then(if(B9 (Ai p)).isSome then 0 else 3) else 2
def Er(p:BProg):FProg:=if D7 p=0 then Ai p else Ej
theorem HB(p:BProg)(V:Sig)(hw:p.wt<=10000000):DCall prog 20 [.agg (Am p)] V (rS (.tup [.agg (BA (Er p)),dI (D7 p)]) V):=by
 have hzero:WkD (.tup [.agg [.nils,.nils,dI 0,dI 0,.str [],.nils],dI (D7 p)]) (.tup [.agg (BA Ej),dI (D7 p)]):=by
  have e:BA Ej=[sl [],sl [],dI 0,dI 0,.str [],sl []]:=by simp[Ej,FExp.op,FExp.n,FExp.text,FExp.kids]
  rw[e];exact GB (show WkL _ _ from⟨Ev (show WkL _ _ from⟨Aq _ (.inl rfl),Aq _ (.inl rfl),A7 _,A7 _,A7 _,Aq _ (.inl rfl),trivial⟩),A7 _,trivial⟩)
 have h13:=fun (V:Sig)=>Lc p V (by omega)
 cases hok:okP p with
 |false=>
  have hE:D7 p=2:=by unfold D7;rw[hok];rfl
  have hP:Er p=Ej:=by unfold Er;rw[hE];rfl
  rw[hP];rw[hE]at hzero⊢;refine en func20 ntmps20 ?_
  try refine gz ?_ [] [2]
  refine newV (fun i2 hi2=>?_)
  repeat' first|refine gf hok ?_ [] [2]|refine AE (h13 _) ?_|refine callP (h13 _) ?_|refine gf hok ?_ [] [2]|apply gy<;>intro hh
  refine finC (S':=V) ⟨rfl,rfl⟩ (hw:=?_);exact hzero
 | true =>
  have hsp:=sp_ok (p:=p) (by omega) hok;have hsw:=KH hok;have h56:=fun (V:Sig)=>OU p V hsp;have h47:=fun (V:Sig)=>OW (Ai p) V (by omega)
  cases hs:(B9 (Ai p)).isSome with
  |false=>
   have hE:D7 p=3:=by unfold D7;rw[hok,hs];rfl
   have hP:Er p=Ej:=by unfold Er;rw[hE];rfl
   rw[hP];rw[hE]at hzero⊢;refine en func20 ntmps20 ?_
   try refine gz ?_ [] [2]
   refine newV (fun i2 hi2=>?_)
   repeat' first|refine gf (gi hok hs) ?_ [] [2]|refine AE (h13 _) ?_|refine callP (h13 _) ?_|refine AE (h56 _) ?_|refine callP (h56 _) ?_|refine AE (h47 _) ?_|refine callP (h47 _) ?_|refine gf (gi hok hs) ?_ [] [2]|apply gy<;>intro hh
   refine finC (S':=V) ⟨rfl,rfl⟩ (hw:=?_);exact hzero
  |true=>
   have hE:D7 p=0:=by unfold D7;rw[hok,hs];rfl
   have hP:Er p=Ai p:=by unfold Er;rw[hE];rfl
   rw[hP,hE];refine en func20 ntmps20 ?_
   try refine gz ?_ [] [2]
   refine newV (fun i2 hi2=>?_)
   repeat' first|refine gf (gi hok hs) ?_ [] [2]|refine AE (h13 _) ?_|refine callP (h13 _) ?_|refine AE (h56 _) ?_|refine callP (h56 _) ?_|refine AE (h47 _) ?_|refine callP (h47 _) ?_|refine gf (gi hok hs) ?_ [] [2]|apply gy<;>intro hh
   exact finC (S':=V) ⟨rfl,rfl⟩
@[reducible,instance] def a20:=fun p V=>ah1 (@HB p V)
theorem Un(s:Str)(V:Sig):DCall prog 96 [.str s] V (rS (.agg (AO (.mk 3 0 s []))) V):=by
 refine en func96 ntmps96 ?_;refine gz ?_ [] [2];refine newV (fun i hi=>?_);refine gz ?_ [] [2];refine finC (S':=V) ⟨rfl,rfl⟩ (hw:=?_);exact Ev ⟨A7 _,A7 _,A7 _,Aq _ (.inl rfl),trivial⟩
@[reducible,instance] def a96:=fun s V=>ah0 (@Un s V)
theorem IL(op n:Int)(l:List (List D))(o:Own)(V:Sig):DCall prog 97 [dI op,dI n,.slice l o] V (rS (.agg [dI op,dI n,.slice l o]) V):=by
 refine en func97 ntmps97 ?_;refine gz ?_ [] [6];refine newV (fun i hi=>?_);refine gz ?_ [] [6];exact finC (S':=V) ⟨rfl,rfl⟩
@[reducible,instance] def a97a:=fun op n l o V=>ah0 (@IL op n l o V)
theorem IK(op n:Int)(V:Sig):DCall prog 97 [dI op,dI n,.nils] V (rS (.agg [dI op,dI n,.nils]) V):=by
 refine en func97 ntmps97 ?_;refine gz ?_ [] [6];refine newV (fun i hi=>?_);refine gz ?_ [] [6];exact finC (S':=V) ⟨rfl,rfl⟩
@[reducible,instance] def a97n:=fun op n V=>ah0 (@IK op n V)
theorem IM(op:Int)(s:Str)(V:Sig):DCall prog 95 [dI op,.str s,.nils] V (rS (.agg [dI op,dI 0,.str s,.nils]) V):=by
 refine en func95 ntmps95 ?_;refine gz ?_ [] [6];refine newV (fun i hi=>?_);refine gz ?_ [] [6];exact finC (S':=V) ⟨rfl,rfl⟩
@[reducible,instance] def a95n:=fun op s V=>ah0 (@IM op s V)
def exB:BProg:=⟨[⟨[],[0],[⟨0,7⟩]⟩,⟨[3],[1],[]⟩,⟨[4,3],[],[⟨0,1⟩]⟩],2,[1],[⟨1,0,.mk 2 0 [] 3 0 [],0⟩,⟨2,0,.mk 3 0 [0] 0 5 [],3⟩],
 [⟨17,0,[1]⟩,⟨4,0,[2]⟩,⟨3,0,[]⟩,⟨9,0,[4,5]⟩,⟨3,0,[]⟩,⟨3,1,[]⟩,⟨5,0,[7]⟩,⟨6,5,[]⟩],6⟩
def exA(l:List Str):FProg:=⟨[⟨[97],[],[[102]],[⟨[102],7⟩]⟩,⟨[98],[[97]],[[103]],[]⟩,⟨[99],l,[],[⟨[102],1⟩]⟩],
 [⟨1,[115,104,111,119],[[120]],.mk 2 [120] [] [97] 0 [],.mk 17 0 [] [.mk 4 0 [102] [.mk 3 0 [120] []]]⟩,⟨2,[115,104,111,119],[[121]],.mk 3 [121] [[102]] [] 5 [],.mk 9 0 [122] [.mk 3 0 [121] [],.mk 3 0 [122] []]⟩],
 .mk 5 0 [115,104,111,119] [.mk 6 0 [99] []]⟩
theorem UF(V:Sig):DCall prog 46 [] V (rS (.agg (Am exB)) V):=by
 refine en func46 ntmps46 ?_;refine gz ?_ [] [0];refine newV (fun i hi=>?_)
 repeat' first|refine gz ?_ [] [0]|refine AE (IL _ _ _ _ _) ?_|refine callP (IL _ _ _ _ _) ?_|refine AE (IK _ _ _) ?_|refine callP (IK _ _ _) ?_|refine gz ?_ [] [0]|apply gy<;>intro hh
 have e:Am exB=[sl [[sl [],sl [[dI 0]],sl [[dI 0,dI 7]]],[sl [[dI 3]],sl [[dI 1]],sl []],[sl [[dI 4],[dI 3]],sl [],sl [[dI 0,dI 1]]]],dI 2,sl [[dI 1]],sl [[dI 1,dI 0,dI 2,dI 0,sl [],dI 3,dI 0,sl [],dI 0],[dI 2,dI 0,dI 3,dI 0,sl [[dI 0]],dI 0,dI 5,sl [],dI 3]],sl [[dI 17,dI 0,sl [[dI 1]]],[dI 4,dI 0,sl [[dI 2]]],[dI 3,dI 0,sl []],[dI 9,dI 0,sl [[dI 4],[dI 5]]],[dI 3,dI 0,sl []],[dI 3,dI 1,sl []],[dI 5,dI 0,sl [[dI 7]]],[dI 6,dI 5,sl []]],dI 6]:=by
  simp[exB,cI,D8,Fact.op,Fact.arg,Fact.path,Fact.cls,Fact.n,Fact.kids]
 refine finC (S':=V) ⟨rfl,rfl⟩ (hw:=?_);rw[e];refine Ev ?_
 repeat' (first|exact A7 _|exact Aq _ (.inl rfl)|exact trivial|refine GC _ ?_|refine⟨?_,?_⟩)
@[reducible,instance] def a46:=fun V=>ah0 (@UF V)
theorem OX(l:List Str)(o:Own)(V:Sig):DCall prog 45 [.slice (cS l) o] V (rS (.agg (BA (exA l))) V):=by
 refine en func45 ntmps45 ?_;refine gz ?_ [] [2];refine newV (fun i hi=>?_)
 repeat' first|refine gz ?_ [] [2]|refine AE (L5 _ _ _ _ _) ?_|refine callP (L5 _ _ _ _ _) ?_|refine AE (IM _ _ _) ?_|refine callP (IM _ _ _) ?_|refine gz ?_ [] [2]|apply gy<;>intro hh
 have e:BA (exA l)=[sl [[.str [97],sl [],sl [[.str [102]]],sl [[.str [102],dI 7]]],[.str [98],sl [[.str [97]]],sl [[.str [103]]],sl []],[.str [99],sl (cS l),sl [],sl [[.str [102],dI 1]]]],
   sl [[dI 1,.str [115,104,111,119],sl [[.str [120]]],dI 2,.str [120],sl [],.str [97],dI 0,sl [],dI 17,dI 0,.str [],sl [[dI 4,dI 0,.str [102],sl [AO (.mk 3 0 [120] [])]]]],
    [dI 2,.str [115,104,111,119],sl [[.str [121]]],dI 3,.str [121],sl [[.str [102]]],.str [],dI 5,sl [],dI 9,dI 0,.str [122],sl [AO (.mk 3 0 [121] []),AO (.mk 3 0 [122] [])]]],
   dI 5,dI 0,.str [115,104,111,119],sl [[dI 6,dI 0,.str [99],sl []]]]:=by
  simp[exA,cS,C5,Ee,FFact.op,FFact.name,FFact.path,FFact.cls,FFact.n,FFact.kids,FExp.op,FExp.n,FExp.text,FExp.kids]
 refine finC (S':=V) ⟨rfl,rfl⟩ (hw:=?_);rw[e];refine Ev ?_
 repeat' (first|exact A7 _|exact Aq _ (.inl rfl)|exact Bc _ _|exact Dn _|exact trivial|refine GC _ ?_|refine⟨?_,?_⟩)
end Go.DL
