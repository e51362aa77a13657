/- A part of the proof. -/
import Derived.Test.YtlfimpogphmbdaaGreatM20
import Derived.Test.YtlfimpogphmbdaaGreatM11
import Derived.Test.YtlfimpogphmbdaaGreatM21
import Derived.Test.YtlfimpogphmbdaaGreatM25
import Derived.Test.YtlfimpogphmbdaaGreatM15
import Derived.Test.YtlfimpogphmbdaaGreatM14
set_option linter.all false
namespace Go.DL
open Go.Proofs.Tryz
open Go Go.Proofs
set_option maxHeartbeats 8000000
theorem O8{α β:Type}(l:List (α×β)):(l.map (·.1)).zip (l.map (·.2))=l:=by
 induction l with
 |nil=>rfl
 |cons x l ih=>simp only[List.map_cons,List.zip_cons_cons,ih]
theorem To(s:List (Str×Int))(j:Nat):(eSN s).eraseIdx j=eSN (s.eraseIdx j):=by
 unfold eSN eM
 induction s generalizing j with
 |nil=>simp
 |cons x s ih=>cases j with
  |zero=>simp
  |succ j=>simp[ih]
theorem eSN_get{s:List (Str×Int)}{j:Nat}{k v:D}(h:(eSN s)[j]? = some (k,v)): ∃hj:j<s.length,k=.str s[j].1/\v=dI s[j].2:=by
 unfold eSN eM at h;rw[List.getElem?_map]at h
 by_cases hj:j<s.length
 ·rw[List.getElem?_eq_getElem hj]at h;simp only[Option.map_some,Option.some.injEq,Prod.mk.injEq]at h;exact⟨hj,h.1.symm,h.2.symm⟩
 ·rw[List.getElem?_eq_none (by omega)]at h;cases h
section
variable {α β:Type}[DecidableEq α]
theorem Gj(k:α): ∀m:List (α×β),hasM k m=true ↔ k∈m.map (·.1)
 |[]=>by simp[hasM]
 |(x,y)::r=>by simp[hasM,Gj k r]
theorem OF(k:α)(v:β): ∀m:List (α×β),(putM k v m).map (·.1)=if hasM k m=true then m.map (·.1) else m.map (·.1)++[k]
 |[]=>by simp[putM,hasM]
 | (x,y)::r=>by
  by_cases h:k=x
  ·simp[putM,hasM,h]
  ·rw[putM,if_neg h,List.map_cons,OF k v r,hasM]
   by_cases h2:hasM k r=true<;>simp[h,h2]
theorem If(k:α)(v:β){m:List (α×β)}(h:(m.map (·.1)).Nodup):((putM k v m).map (·.1)).Nodup:=by
 rw[OF];split
 ·exact h
 ·rename_i h2;rw[List.nodup_append];refine⟨h,by simp,fun a ha b hb e=>?_⟩;simp only[List.mem_singleton]at hb;subst hb;subst e;exact h2 ((Gj _ _).2 ha)
theorem JL(z:β): ∀(m:List (α×β)) (j:Nat) (hj:j<m.length),(m.map (·.1)).Nodup->((m.eraseIdx j).map (·.1)).Nodup /\ ∀x,hasM x m=(decide (x=m[j].1)||hasM x (m.eraseIdx j))/\(x≠m[j].1->getM z x (m.eraseIdx j)=getM z x m)/\(x=m[j].1->hasM x (m.eraseIdx j)=false/\getM z x m=m[j].2)
 |(a,b)::r,0,_,h=>by
  simp only[List.map_cons,List.nodup_cons]at h;refine⟨h.2,fun x=>⟨rfl,fun hx=>by simp only[List.getElem_cons_zero,ne_eq]at hx;simp[getM,hx],fun hx=>?_⟩⟩;simp only[List.getElem_cons_zero]at hx;subst hx;refine⟨?_,by simp[getM]⟩;simp only[List.eraseIdx_zero,List.tail_cons];cases hh:hasM x r with
  |false=>rfl
  |true=>exact absurd ((Gj _ _).1 hh) h.1
 | (a,b)::r,j+1,hj,h=>by
  have hj':j<r.length:=by simpa using hj
  simp only[List.map_cons,List.nodup_cons]at h;obtain⟨h1,h2⟩:=JL z r j hj' h.2
  have hsub:∀y,y∈(r.eraseIdx j).map (·.1)->y∈r.map (·.1):=fun y hy=>by
   obtain⟨p,hp,rfl⟩:=List.mem_map.1 hy;exact List.mem_map.2 ⟨p,List.mem_of_mem_eraseIdx hp,rfl⟩
  have hmem:r[j].1∈r.map (·.1):=List.mem_map.2 ⟨_,List.getElem_mem hj',rfl⟩;refine⟨by simp only[List.eraseIdx_cons_succ,List.map_cons,List.nodup_cons];exact⟨fun hm=>h.1 (hsub _ hm),h1⟩,fun x=>?_⟩;obtain⟨e1,e2,e3⟩:=h2 x;simp only[List.getElem_cons_succ,List.eraseIdx_cons_succ];refine⟨?_,fun hx=>?_,fun hx=>?_⟩
  ·rw[hasM,e1,hasM];cases decide (x=a)<;>cases decide (x=r[j].1)<;>simp
  ·rw[getM,getM,e2 hx]
  ·have hne:x≠a:=fun e=>h.1 (by rw[<-e,hx];exact hmem)
   rw[hasM,getM,if_neg hne];exact⟨by rw[(e3 hx).1];simp[hne],(e3 hx).2⟩
end
theorem RA{α β:Type}[DecidableEq α]{z:β}{k:α}: ∀{m:List (α×β)},hasM k m=false->getM z k m=z
 |[],_=>rfl
 |(x,y)::r,h=>by
  rw[hasM,Bool.or_eq_false_iff,decide_eq_false_iff_not]at h;rw[getM,if_neg h.1];exact RA h.2
def NmD(nm:D)(m:List (Str×Int)):Prop:=(nm=cNum m\/(nm=.nilmap/\m=[]))/\(m.map (·.1)).Nodup
def updE(env:Str->Int)(s:Str)(v:Int):Str->Int:=fun x=>if x=s then v else env x
theorem SE(ib:Nat)(nm:D)(m:List (Str×Int))(size:Int)(s:Str)(V:Sig)(hn:NmD nm m)(hs:0<=size/\size<=2000000000):
  DCall prog 195 [.agg [.ptr ib 0,nm,dI size],.str s] V fun x S'=> ∃m',x=.ret (.agg [.ptr ib 0,cNum m',dI (size+1)])/\NmD (cNum m') m'/\(∀x,getM 0 x m'=updE (fun y=>getM 0 y m) s size x)/\S'=V:=by
 obtain⟨hn,hnd⟩:=hn;obtain⟨hs0,hs1⟩:=hs
 have hrange:Oq nm=some (eSN m):=by
  rcases hn with rfl|⟨rfl,rfl⟩
  ·show some (((eSN m).map (·.1)).zip ((eSN m).map (·.2)))=_;rw[O8]
  ·rfl
 refine en func195 ntmps195 ?_
 try refine gz ?_ [] [4]
 refine newV (fun i hi=>?_)
 try refine gz ?_ [] [4]
 refine Rb (fun im him=>?_)
 try refine gz ?_ [] [4]
 refine rng (kt:=9) (et:=3) (l:=eSN m) (fun it hit=>?_) (hx:=by exact hrange)
 try refine gz ?_ [] [4]
 have n1:i≠im:=fun e=>by rw[<-e,w7]at him;cases him
 have n2:im≠it:=fun e=>by rw[<-e,w7]at hit;cases hit
 have n3:i≠it:=fun e=>by rw[<-e,w8 _ _ n1,w7]at hit;cases hit
 obtain⟨m1,i2⟩:=Aa him;have i3:V it=none:=by rw[w8 _ _ (Ne.symm n2),w8 _ _ (Ne.symm n3)]at hit;exact hit
 have h0:∀x,getM 0 x m=if hasM x m=true then getM 0 x m else getM 0 x ([]:List (Str×Int)):=fun x=>by
  by_cases h:hasM x m=true
  ·rw[if_pos h]
  ·rw[if_neg h];exact RA (by simpa using h)
 refine FG [1,2,4,5,11,20,21,22,23,24,25,26,27,28,29,30] (fun (L:List (Str×Int)) (acc:List (Str×Int)) (la:Option (D×D))=>(L.map (·.1)).Nodup/\(acc.map (·.1)).Nodup/\(∀x,getM 0 x m=if hasM x L=true then getM 0 x L else getM 0 x acc)) (fun _ _ _=>[]) (fun L acc la=>((V.set i (.cells [.nilp,.nilmap,dI 0])).set im (.map (eSN acc))).set it (.iter (eSN L) la)) (fun L _ _=>L.length) (m) ([]) (none) (by exact⟨hnd,by simp,h0⟩) (fun L acc la hI=>?_);obtain⟨hL,hA,hR⟩:=hI
 try refine gz ?_ [] [4]
 refine nxt (fun hL0=>?_) (fun jj k v hkv=>?_)
 ·have hL1:L=[]:=by unfold eSN eM at hL0;simpa using hL0
  subst hL1;have hR':∀x,getM 0 x m=getM 0 x acc:=fun x=>by have:=hR x;simpa[hasM] using this
  repeat ((fail_if_success (first|(refine cfr 5 (i:=im) (m:=eSN (putM s size acc)) ((w7 ..)) ?_)|fail));(refine goX1 trivial ?_))
  refine cfr 5 (i:=im) (m:=eSN (putM s size acc)) ((w7 ..)) ?_;generalize hSe:Sig.del _ im=Se;have w1:Se i=some (.cells [.nilp,.nilmap,dI 0]):=by rw[<-hSe];simp[Sig.del,n1,w8 _ _ n1,w8 _ _ n3]
  have wS:Sub V Se:=fun j x hj=>by
   have e1:j≠i:=A1 hj hi;have e2:j≠im:=A1 hj i2;have e3:j≠it:=A1 hj i3;rw[<-hSe];simp only[Sig.del,e2,if_false,w8 _ _ e1,w8 _ _ e2,w8 _ _ e3];exact hj
  clear hSe
  try refine gf w1 ?_ [] [4]
  refine finC (S':=V) (d:=.agg [.ptr ib 0,cNum (putM s size acc),dI (size+1)]) ⟨_,rfl,⟨.inl rfl,If _ _ hA⟩,fun x=>?_,rfl⟩ (hU:=wS.set hi);rw[Cn];unfold updE;split
  ·rfl
  ·exact(hR' x).symm
 ·obtain⟨hjj,rfl,rfl⟩:=eSN_get hkv;rw[To];obtain⟨e1,e2⟩:=JL (0:Int) L jj hjj hL
  try refine gz ?_ [] [4]
  refine ent ?_
  try refine gz ?_ [] [4]
  have hle:(L.eraseIdx jj).length<L.length:=by rw[List.length_eraseIdx,if_pos hjj];omega
  have hnx:∀x,getM 0 x m=if hasM x (L.eraseIdx jj)=true then getM 0 x (L.eraseIdx jj) else getM 0 x (putM L[jj].1 L[jj].2 acc):=fun x=>by
   obtain⟨f1,f2,f3⟩:=e2 x;rw[hR x,Cn]
   by_cases hx:x=L[jj].1
   ·rw[if_pos hx,(f3 hx).1,f1,decide_eq_true hx,Bool.true_or,if_pos rfl,if_neg (by simp),(f3 hx).2]
   ·rw[if_neg hx,f1,decide_eq_false hx,Bool.false_or,f2 hx]
  have hsub:Sub (((V.set i (.cells [.nilp,.nilmap,dI 0])).set im (.map (eSN (putM L[jj].1 L[jj].2 acc)))).set it (.iter (eSN (L.eraseIdx jj)) (some (.str L[jj].1,dI L[jj].2)))) ((((V.set i (.cells [.nilp,.nilmap,dI 0])).set im (.map (eSN acc))).set it (.iter (eSN (L.eraseIdx jj)) (some (.str L[jj].1,dI L[jj].2)))).set im (.map (eSN (putM L[jj].1 L[jj].2 acc)))):=by
   rw[set_comm _ (Ne.symm n2),Sig.set_set];exact Sub.refl _
  exact⟨L.eraseIdx jj,putM L[jj].1 L[jj].2 acc,_,⟨e1,If _ _ hA,hnx⟩,td1,wkR⟩
mutual
def bndF(cm sm:List (Str×Int))(env:Str->Int):FFact->Fact
 |.mk o s p c n k=>.mk o (env s) (p.map fun x=>getM 0 x sm) (getM 0 c cm) n (Gz cm sm env k)
def Gz(cm sm:List (Str×Int))(env:Str->Int):List FFact->List Fact
 |[]=>[]
 |x::r=>bndF cm sm env x::Gz cm sm env r
end
theorem N7(cm sm:List (Str×Int))(env:Str->Int): ∀l,Gz cm sm env l=l.map (bndF cm sm env)
 |[]=>by rw[Gz];rfl
 |x::r=>by rw[Gz,N7 cm sm env r];rfl
theorem bndF_eq(cm sm:List (Str×Int))(env:Str->Int)(f:FFact):bndF cm sm env f=.mk f.op (env f.name) (f.path.map fun x=>getM 0 x sm) (getM 0 f.cls cm) f.n (f.kids.map (bndF cm sm env)):=by
 cases f;rw[bndF,N7];rfl
theorem Qf(l:List FFact)(h:FFact->Fact)(g:Nat)(first cap:List D)(o:Own)(V:Sig)(hl:l.length<=1073741824)
  (hg:∀x∈l, ∀S',Sub V S'->DCall prog g (first++[.agg (AV x)]++cap) S' fun r S''=>r=.ret (.agg (Ba (h x)))/\S''=S') :
  DCall prog 197 [.slice (l.map AV) o,.func (.func g) first cap] V (rS (sl ((l.map h).map Ba)) V):=by
 refine en func197 ntmps197 ?_
 try refine gz ?_
 refine Cj 5 6 (fun i hi=>?_);refine Br [1,4,8,9,21,22] (fun (k:Nat) (out:List Fact)=>k<=l.length/\out++(l.drop k).map h=l.map h) (fun k out=>[(10,dI k),(5,.slice (out.map Ba) (.tag i))]) (fun _ out=>V.set i (.tail 6 out.length)) (fun k _=>l.length-k) (0) ([]) (by simp) (fun k out hI=>?_);obtain⟨hk,hR⟩:=hI;have hlen:=congrArg List.length hR;simp at hlen
 by_cases hh:k<l.length
 ·rw[A3 hh]at hR
  try refine gf hh ?_
  refine Ab (hg (l[k]) (List.getElem_mem hh) _ ((Sub.refl _).set hi)) (fun d S' hr=>?_) (fun d S' hr=>by cases hr.1) (ha:=rfl);obtain⟨e1,e2⟩:=hr;cases e1;rw[e2]
  try refine gz ?_
  exact⟨k+1,out++[h l[k]],⟨by omega,by rw[List.append_assoc];exact hR⟩,td1,wkR⟩
 ·try refine gf hh ?_
  rw[A2 hh]at hR;simp at hR;exact finS (S':=V) (es:=out.map Ba) ⟨by rw[hR],rfl⟩
section
variable {ib ia is ig:Nat}{p6:List D}{cm sm gm:List (Str×Int)}
theorem SD(s:Str)(nm:D)(size:Int)(V:Sig)(hE:EnvS ib ia is ig p6 cm sm gm V):DCall prog 196 [.str s,.cptr [.ptr ib 0,nm,dI size] 0] V (rS (dI (getM 0 s sm)) V):=by
 obtain⟨⟨a,b,c,d,e,f,rfl,o1⟩,o2,o3,o4⟩:=hE;refine en func196 ntmps196 ?_
 try refine gf (gi o1 (gi o2 (gi o3 o4))) ?_
 exact fe1 trivial
theorem NmD.cases{nm:D}{m:List (Str×Int)}(h:NmD nm m):(∃ks vs,nm=.cmap ks vs/\ks.zip vs=eSN m)\/(nm=.nilmap /\ ∀x,getM 0 x m=0):=by
 rcases h.1 with rfl|⟨rfl,rfl⟩
 ·exact .inl ⟨_,_,rfl,O8 _⟩
 ·exact .inr ⟨rfl,fun _=>rfl⟩
theorem Tb(nm:D)(m:List (Str×Int))(size:Int)(hn:NmD nm m): ∀(n:Nat) (f:FFact) (V:Sig),f.wt<=n->n<=1073741824->EnvS ib ia is ig p6 cm sm gm V->
  DCall prog 113 [.agg [.ptr ib 0,nm,dI size],.agg (AV f)] V (rS (.agg (Ba (bndF cm sm (fun y=>getM 0 y m) f))) V):=by
 intro n
 induction n with
 |zero=>
  intro f V hx;have:=f.wt_pos;omega
 | succ n ih =>
  intro f V hx hw hE;obtain⟨w1,w2,w3,w4,w5⟩:=f.wt_le;have hpl:f.path.length<=1073741824:=by have:=Bk f.path;omega
  have hE0:=hE;obtain⟨⟨a,b,c,d,e,g,rfl,o1⟩,o2,o3,o4⟩:=hE;refine en func113 ntmps113 ?_
  try refine gz ?_ o113 [4]
  refine newV (fun i hi=>?_);have n1:ib≠i:=A1 o1 hi;have n2:ia≠i:=A1 o2 hi;have n3:is≠i:=A1 o3 hi;have hE2:=hE0.sub (S':=V.set i (.cells [dI 0,dI 0,.nils,dI 0,dI 0,.nils])) ((Sub.refl _).set hi);have h107:=ET f.path (fun s=>getM 0 s sm) 196 [.cptr [.ptr ib 0,nm,dI size] 0] .no (V.set i (.cells [dI 0,dI 0,.nils,dI 0,dI 0,.nils])) hpl (fun x hx S' hs=>SD x nm size S' (hE2.sub hs));have h197:=Qf f.kids (bndF cm sm (fun y=>getM 0 y m)) 113 [.agg [.ptr ib 0,nm,dI size]] [] .no (V.set i (.cells [dI 0,dI 0,.nils,dI 0,dI 0,.nils])) (by omega) (fun x hx S' hs=>ih x S' (by obtain⟨k,hk,rfl⟩:=List.getElem_of_mem hx;have:=w5 k hk;omega) (by omega) (hE2.sub hs));have hb:=bndF_eq cm sm (fun y=>getM 0 y m) f;rcases hn.cases with⟨ks,vs,rfl,hz⟩|⟨rfl,hz⟩
  ·repeat' first|refine gf (gi hz (gi o1 (gi o2 o3))) ?_ [] [4]|refine moR (h107) ?_|refine moP (h107) ?_|refine moR (h197) ?_|refine moP (h197) ?_|refine gf (gi hz (gi o1 (gi o2 o3))) ?_ o113 [4]|apply gy<;>intro hh
   exact finC (S':=V) ⟨rfl,rfl⟩ (hw:=by rw[hb];refine Bd ?_;simp[Fact.op,Fact.arg,Fact.path,Fact.cls,Fact.n,Fact.kids])
  ·repeat' first|refine gf (gi o1 (gi o2 o3)) ?_ [] [4]|refine moR (h107) ?_|refine moP (h107) ?_|refine moR (h197) ?_|refine moP (h197) ?_|refine gf (gi o1 (gi o2 o3)) ?_ o113 [4]|apply gy<;>intro hh
   exact finC (S':=V) ⟨rfl,rfl⟩ (hw:=by rw[hb];refine Bd ?_;simp[Fact.op,Fact.arg,Fact.path,Fact.cls,Fact.n,Fact.kids,hz])
end
mutual
def allE:FExp->List FExp
 |.mk o n t k=>.mk o n t k::Bw k
def Bw:List FExp->List FExp
 |[]=>[]
 |x::r=>allE x++Bw r
end
mutual
theorem Pr: ∀e:FExp,(allE e).length<=e.wt
 |.mk o n t k=>by
  have:=Nf k;rw[allE,FExp.wt_eq];simp only[List.length_cons]
  show _<=1+t.length+wtL FExp.wt k;omega
theorem Nf: ∀l:List FExp,(Bw l).length<=wtL FExp.wt l
 |[]=>by rw[Bw];simp
 |x::r=>by
  have h1:=Pr x;have h2:=Nf r;rw[Bw,List.length_append,wtL];omega
end
theorem RowAt.sref{V:Sig}{sz:Nat}{st:MR}{es:List (List D)}(h:RowAt V sz st es)(hne:es≠[]): ∃r c, ∀n,mD st n=.sref r 0 n c:=by
 rcases st with _|⟨i,cap,rest⟩
 ·exact absurd h hne
 ·exact⟨i,cap,fun _=>rfl⟩
def FExp.cnt(e:FExp):Nat:=(allE e).length
def bndN(cm sm gm:List (Str×Int))(o n:Int)(t:Str)(env:Str->Int):Int:=
 if o=3 then env t else if o=4\/o=7 then getM 0 t sm else if o=5 then getM 0 t gm else if o=6\/o=8 then getM 0 t cm else n
def DZ:List FExp->Nat->List Int
 |[],_=>[]
 |x::r,k=>(k:Int)::DZ r (k+x.cnt)
mutual
def bndE(cm sm gm:List (Str×Int)):FExp->(Str->Int)->Int->Nat->List BNode
 |.mk o n t l,env,size,k=>⟨o,bndN cm sm gm o n t env,DZ l (k+1)⟩::H5 cm sm gm o t l 0 env size (k+1)
def H5(cm sm gm:List (Str×Int))(o:Int)(t:Str):List FExp->Nat->(Str->Int)->Int->Nat->List BNode
 |[],_,_,_,_=>[]
 |x::r,i,env,size,k=>(if o=9/\i=1 then bndE cm sm gm x (updE env t size) (size+1) k else bndE cm sm gm x env size k)++H5 cm sm gm o t r (i+1) env size (k+x.cnt)
end
section
variable {cm sm gm:List (Str×Int)}
theorem bndE_eq(e:FExp)(env:Str->Int)(size:Int)(k:Nat):bndE cm sm gm e env size k=⟨e.op,bndN cm sm gm e.op e.n e.text env,DZ e.kids (k+1)⟩::H5 cm sm gm e.op e.text e.kids 0 env size (k+1):=by cases e;rw[bndE];rfl
mutual
theorem Dt: ∀(e:FExp) (env:Str->Int) (size:Int) (k:Nat),(bndE cm sm gm e env size k).length=e.cnt
 |.mk o n t l,env,size,k=>by
  rw[bndE,List.length_cons,N9 o t l,FExp.cnt,allE];simp
theorem N9(o:Int)(t:Str): ∀(l:List FExp) (i:Nat) (env:Str->Int) (size:Int) (k:Nat),(H5 cm sm gm o t l i env size k).length=(Bw l).length
 |[],_,_,_,_=>by rw[H5,Bw];rfl
 |x::r,i,env,size,k=>by
  rw[H5,Bw,List.length_append,List.length_append,N9 o t r];split
  ·rw[Dt x];rfl
  ·rw[Dt x];rfl
end
end
theorem FExp.cnt_le(e:FExp):e.cnt<=e.wt:=Pr e
structure BS(ib ia is ig:Nat)(a b c d f:D)(cm sm gm:List (Str×Int))(st:MR)(ns:List BNode)(V:Sig):Prop where
 env:V ib=some (.cells [a,b,c,d,mD st ns.length,f,.map ia,.map is,.map ig])
 oa:V ia=some (.map (eSN cm))
 os:V is=some (.map (eSN sm))
 og:V ig=some (.map (eSN gm))
 row:RowAt V 3 st (ns.map Af)
 nr:¬Bq st ib
def BK(ib:Nat)(V:Sig)(st:MR)(S':Sig)(st':MR):Prop:= ∀j o,V j=some o->j≠ib->¬Bq st j->S' j=some o /\ ¬Bq st' j
theorem BK.trans{ib:Nat}{V S1 S2:Sig}{st st1 st2:MR}(h:BK ib V st S1 st1)(k:BK ib S1 st1 S2 st2):BK ib V st S2 st2:=fun j o hj hi hn=>k j o (h j o hj hi hn).1 hi (h j o hj hi hn).2
theorem BK.refl(ib:Nat)(V:Sig)(st:MR):BK ib V st V st:=fun j o h _ hn=>⟨h,hn⟩
theorem BK.fresh{ib:Nat}{V S1:Sig}{st st1:MR}{k:Nat}{o:DObj}(h:BK ib V st S1 st1)(hk:S1 k=none):BK ib V st (S1.set k o) st1:=fun j x hj hi hn=>by
 obtain⟨h1,h2⟩:=h j x hj hi hn;exact⟨by rw[w8 _ _ (A1 h1 hk)];exact h1,h2⟩
section
variable {ib ia is ig:Nat}{a b c d f:D}{cm sm gm:List (Str×Int)}{st:MR}{ns:List BNode}{V:Sig}
theorem BS.set(h:BS ib ia is ig a b c d f cm sm gm st ns V){k:Nat}{o:DObj}(h1:ib≠k)(h2:ia≠k)(h3:is≠k)(h4:ig≠k)(h5:¬Bq st k):BS ib ia is ig a b c d f cm sm gm st ns (V.set k o):=
 ⟨by rw[w8 _ _ h1];exact h.env,by rw[w8 _ _ h2];exact h.oa,by rw[w8 _ _ h3];exact h.os,by rw[w8 _ _ h4];exact h.og,h.row.keep fun j x hj hr=>by rw[w8 _ _ fun e=>h5 (by rw[<-e];exact hr)];exact hj,h.nr⟩
theorem BS.notrow(h:BS ib ia is ig a b c d f cm sm gm st ns V){k:Nat}(hk:V k=none): ¬Bq st k:=fun hr=>by
 obtain⟨cs,hc⟩:=h.row.cells hr;rw[hk]at hc;cases hc
theorem BS.fresh(h:BS ib ia is ig a b c d f cm sm gm st ns V){k:Nat}{o:DObj}(hk:V k=none):BS ib ia is ig a b c d f cm sm gm st ns (V.set k o):=
 h.set (A1 h.env hk) (A1 h.oa hk) (A1 h.os hk) (A1 h.og hk) (h.notrow hk)
theorem BS.tail(h:BS ib ia is ig a b c d f cm sm gm st ns V){k s n:Nat}{o:DObj}(hk:V k=some (.tail s n)): ¬Bq st k/\k≠ib/\BS ib ia is ig a b c d f cm sm gm st ns (V.set k o):=
 have hr:¬Bq st k:=fun hr=>by obtain⟨cs,hc⟩:=h.row.cells hr;rw[hk]at hc;cases hc
 ⟨hr,A9 hk h.env (by simp),h.set (A9 h.env hk (by simp)) (A9 h.oa hk (by simp)) (A9 h.os hk (by simp)) (A9 h.og hk (by simp)) hr⟩
theorem BS.zero(h:BS ib ia is ig a b c d f cm sm gm st ns V):st=none->ns.length=0:=fun e=>by
 subst e;have:ns.map Af=[]:=h.row;simpa using this
theorem MC: ∀(n:Nat) (e:FExp) (nm:D) (m:List (Str×Int)) (size:Int) (st:MR) (ns:List BNode) (V:Sig),e.wt<=n->ns.length+e.wt<=100000000->0<=size->size+n<=1000000000->NmD nm m->
  BS ib ia is ig a b c d f cm sm gm st ns V->DCall prog 112 [.agg [.ptr ib 0,nm,dI size],.agg (AO e)] V fun x S'=>x=.ret (dI ns.length) /\
   ∃st',BS ib ia is ig a b c d f cm sm gm st' (ns++bndE cm sm gm e (fun y=>getM 0 y m) size ns.length) S'/\BK ib V st S' st':=by
 intro n
 induction n with
 |zero=>
  intro e nm m size st ns V hx;have:=e.wt_pos;omega
 | succ n ih =>
  intro e nm m size st ns V hx hn hs0 hs1 hm hB;obtain⟨w1,w2,hw3⟩:=e.wt_le;have hfl:nm.flat=true:=by rcases hm.cases with⟨_,_,rfl,_⟩|⟨rfl,_⟩<;>rfl
  simp only[D.flat]at hfl;have hz:=hB.zero;have hB0:=hB;have hnl:ns.length<=100000000:=by omega
  obtain⟨q1,q2,q3,q4,q5,q6⟩:=hB;refine en func112 ntmps112 ?_
  try refine gf q1 ?_ o112 [6]
  refine newV (fun i hi=>?_);have n1:ib≠i:=A1 q1 hi;have n2:ia≠i:=A1 q2 hi;have n3:is≠i:=A1 q3 hi;have n4:ig≠i:=A1 q4 hi;have hnr:¬Bq st i:=hB0.notrow hi;generalize hnum:bndN cm sm gm e.op e.n e.text (fun y=>getM 0 y m)=num
  repeat ((fail_if_success (first|(refine dwp_cut1 (x1:=.seq _ (.block 0 _)) [] (V.set i (.cells [dI e.op,dI num,.nils])) ?_ (fun _ hK=>?_))|fail));(refine goX1 trivial ?_))
  refine dwp_cut1 (x1:=.seq _ (.block 0 _)) [] (V.set i (.cells [dI e.op,dI num,.nils])) ?_ (fun _ hK=>?_)
  ·refine dwp_wk (Et (az:=[dI e.op,dI num]) (bs:=[]) (d':=sl (cI [])) (w7 ..) (Aq _ (.inl rfl))) ?_;rw[Sig.set_set];have hB1:=hB0.fresh (o:=.cells [dI e.op,dI num,sl (cI [])]) hi;have hK1:=(BK.refl ib V st).fresh (o:=.cells [dI e.op,dI num,sl (cI [])]) hi;have o6:(V.set i (.cells [dI e.op,dI num,sl (cI [])])) i=some (.cells [dI e.op,dI num,sl (cI [])]):=w7 ..;generalize hU1:V.set i (.cells ([dI e.op,dI num]++sl (cI [])::[]))=S1;have hU1:V.set i (.cells [dI e.op,dI num,sl (cI [])])=S1:=hU1;rw[hU1]at hB1 hK1 o6;clear hU1;have r1:=hB1.env;have r5:=hB1.row;have u1:(S1.out (Bq st)) ib=some (.cells [a,b,c,d,mD st ns.length,f,.map ia,.map is,.map ig]):=Hb r1 hB1.nr;have u6:(S1.out (Bq st)) i=some (.cells [dI e.op,dI num,sl (cI [])]):=Hb o6 hnr
   try refine gf (gi r1 o6) ?_ (delO 14 o112) [6]
   refine Im [0,1,2,3,4,5,6,7,8,9,10,11,12,13] [10] (S1.out (Bq st)) (CS _ _) ?_
   try refine gf (gi u1 u6) ?_ o112 [6]
   refine moRapp (es:=ns.map Af) (fun st2 S2 hr2 hk2=>?_) (fun j o h=>EF h) (hm:=r5);obtain⟨v1,v2⟩:=hk2 _ _ r1 hB1.nr;obtain⟨rr,rc,hmd⟩:=hr2.sref (by simp);have hmd1:=hmd (ns.length+1)
   try refine gf (gi v1 hmd1) ?_ o112 [6]
   refine Cj 7 1 (fun it hit=>?_);obtain⟨i1,i2⟩:=Aa hit;have hnd:(ns++[(⟨e.op,num,[]⟩:BNode)]).map Af=ns.map Af++[[dI e.op,dI num,sl []]]:=by simp
   have hB2:BS ib ia is ig a b c d f cm sm gm st2 (ns++[⟨e.op,num,[]⟩]) (S2.set ib (.cells [a,b,c,d,.sref rr 0 (ns.length+1) rc,f,.map ia,.map is,.map ig])):=by
    have hx:∀j o,S1 j=some o->j≠ib->¬Bq st j->(S2.set ib (.cells [a,b,c,d,.sref rr 0 (ns.length+1) rc,f,.map ia,.map is,.map ig])) j=some o:=fun j o hj hjb hr=>by
     rw[w8 _ _ hjb];exact(hk2 j o hj hr).1
    have hnm:∀{k l},S1 k=some (.map l)->k≠ib /\ ¬Bq st k:=fun {k l} hk=>⟨A9 hk r1 (by simp),fun hr=>by obtain⟨cs,hc⟩:=r5.cells hr;rw[hk]at hc;cases hc⟩
    refine⟨by rw[w7,hmd];simp,hx _ _ hB1.oa (hnm hB1.oa).1 (hnm hB1.oa).2,hx _ _ hB1.os (hnm hB1.os).1 (hnm hB1.os).2,hx _ _ hB1.og (hnm hB1.og).1 (hnm hB1.og).2,?_,v2⟩;rw[hnd];exact hr2.keep fun j x hj hr=>by rw[w8 _ _ fun e=>v2 (by rw[<-e];exact hr)];exact hj
   have hK2:BK ib V st (S2.set ib (.cells [a,b,c,d,.sref rr 0 (ns.length+1) rc,f,.map ia,.map is,.map ig])) st2:=fun j o hj hjb hr=>by
    obtain⟨h1,h2⟩:=hK1 j o hj hjb hr;obtain⟨h3,h4⟩:=hk2 j o h1 h2;exact⟨by rw[w8 _ _ hjb];exact h3,h4⟩
   have hB3:=hB2.fresh (o:=.tail 1 0) hit;have hK3:=hK2.fresh (o:=.tail 1 0) hit;have ho3:((S2.set ib (.cells [a,b,c,d,.sref rr 0 (ns.length+1) rc,f,.map ia,.map is,.map ig])).set it (.tail 1 0)) it=some (.tail 1 0):=w7 ..;have hi0:∀o,V it=some o->Bq st it:=fun o h=>Classical.byContradiction fun hr=>by rw[(hK2 it o h i1 hr).1]at hit;cases hit
   refine U9 [2,3,4,5,84,85,111,112,113,114,115,116,117,118,119,120,121,122] (fun (k:Nat) (l:List Int) (ms:List BNode) (st1:MR) (S1:Sig)=>k<=e.kids.length/\l.length=k/\l++DZ (e.kids.drop k) (ns.length+1+ms.length)=DZ e.kids (ns.length+1)/\ms++H5 cm sm gm e.op e.text (e.kids.drop k) k (fun y=>getM 0 y m) size (ns.length+1+ms.length)=H5 cm sm gm e.op e.text e.kids 0 (fun y=>getM 0 y m) size (ns.length+1)/\ns.length+1+ms.length+wtL FExp.wt (e.kids.drop k)<=100000000/\BS ib ia is ig a b c d f cm sm gm st1 (ns++⟨e.op,num,[]⟩::ms) S1/\BK ib V st S1 st1/\S1 it=some (.tail 1 l.length)) (fun k l _ _ _=>[(86,dI k),(7,.slice (cI l) (.tag it))]) (fun _ _ _ _ S1=>S1) (fun k _ _ _ _=>e.kids.length-k) (0) ([]) ([]) (st2) (_) (by exact⟨by omega,rfl,rfl,rfl,by have:=FExp.wt_eq e;simp only[List.length_nil,List.drop_zero];omega,hB3,hK3,ho3⟩) (fun k l ms st1 S1 hI=>?_);obtain⟨hk,hll,hRl,hRm,hbud,hB4,hK4,o4⟩:=hI
   by_cases hkl:k<e.kids.length
   ·rw [A3 hkl] at hRl hRm hbud;rw[DZ]at hRl;rw[H5]at hRm;rw[wtL]at hbud;have hwk:=hw3 k hkl;have hck:=FExp.cnt_le e.kids[k]
    try refine gz ?_ o112 [6]
    refine newV (fun i10 hi10=>?_);have hni:=hB4.tail (o:=.defs) o4
    by_cases hlet:e.op=9/\k=1
    ·rw[if_pos hlet]at hRm;obtain⟨hl1,hl2⟩:=hlet
     try refine gf (gi hl1 hfl) ?_ o112 [6]
     refine Ab (SE ib nm m size e.text _ hm ⟨hs0,by omega⟩) (fun x S2 hr=>?_) (fun x S2 hr=>by obtain⟨_,h,_⟩:=hr;cases h);obtain⟨m',e1,hm',henv,e2⟩:=hr;cases e1;rw[e2];clear e2 S2;have henv:(fun y=>getM 0 y m')=updE (fun y=>getM 0 y m) e.text size:=funext henv;have hB5:=hB4.fresh (o:=.cells [.ptr ib 0,cNum m',dI (size+1)]) hi10;have hK5:=hK4.fresh (o:=.cells [.ptr ib 0,cNum m',dI (size+1)]) hi10;have o5:(S1.set i10 (.cells [.ptr ib 0,cNum m',dI (size+1)])) it=some (.tail 1 l.length):=by rw[w8 _ _ (A1 o4 hi10)];exact o4
     try refine gz ?_ o112 [6]
     refine Ab (ih e.kids[k] (cNum m') m' (size+1) st1 (ns++⟨e.op,num,[]⟩::ms) _ (by omega) (by simp only[List.length_append,List.length_cons];omega) (by omega) (by omega) hm' hB5) (fun x S3 hr=>?_) (fun x S3 hr=>by cases hr.1);obtain⟨e1,st3,hB6,hK6⟩:=hr;cases e1;obtain⟨o6,_⟩:=hK6 _ _ o5 hni.2.1 hni.1;have hK7:=hK5.trans hK6;rw[henv]at hB6;have hpos:(((ns++(⟨e.op,num,[]⟩:BNode)::ms).length:Nat):Int)=((ns.length+1+ms.length:Nat):Int):=by simp only[List.length_append,List.length_cons];omega
     have hlen3:(ns++(⟨e.op,num,[]⟩:BNode)::ms).length=ns.length+1+ms.length:=by simp only[List.length_append,List.length_cons];omega
     rw[hlen3]at hB6;have hB7:=(hB6.tail (o:=.tail 1 (l++[((ns.length+1+ms.length:Nat):Int)]).length) o6).2.2
     have hK8:BK ib V st (S3.set it (.tail 1 (l++[((ns.length+1+ms.length:Nat):Int)]).length)) st3:=fun j x hj hjb hr=>by
      obtain⟨h1,h2⟩:=hK7 j x hj hjb hr;exact⟨by rw[w8 _ _ fun e=>hr (by have:=hi0 x (by rw[<-e];exact hj);rw[e];exact this)];exact h1,h2⟩
     have hbl:=Dt (cm:=cm) (sm:=sm) (gm:=gm) e.kids[k] (updE (fun y=>getM 0 y m) e.text size) (size+1) (ns.length+1+ms.length);have hsub:Sub (S3.set it (.tail 1 (l++[((ns.length+1+ms.length:Nat):Int)]).length)) (S3.set it (.tail 1 (l.length+1))):=by rw[List.length_append];exact Sub.refl _
     rw[List.append_assoc,List.cons_append]at hB7;have hw7:WkD (.slice (cI l++[[dI ((ns.length:Int)+((ms.length:Int)+1))]]) (.tag it)) (.slice (cI (l++[((ns.length+1+ms.length:Nat):Int)])) (.tag it)):=Bd (by simp[cI];omega)
     try refine gf (gi o6 hpos) ?_ o112 [6]
     exact⟨k+1,l++[((ns.length+1+ms.length:Nat):Int)],ms++bndE cm sm gm e.kids[k] (updE (fun y=>getM 0 y m) e.text size) (size+1) (ns.length+1+ms.length),st3,S3.set it (.tail 1 (l++[((ns.length+1+ms.length:Nat):Int)]).length),⟨by omega,by rw[List.length_append,hll];rfl,by rw[List.append_assoc,List.length_append,hbl,<-Nat.add_assoc];exact hRl,by rw[List.append_assoc,List.length_append,hbl,<-Nat.add_assoc];exact hRm,by rw[List.length_append,hbl];omega,hB7,hK8,w7 ..⟩,td1,wkR⟩
    ·rw[if_neg hlet]at hRm;have hB5:=hB4.fresh (o:=.cells [.ptr ib 0,nm,dI size]) hi10;have hK5:=hK4.fresh (o:=.cells [.ptr ib 0,nm,dI size]) hi10;have o5:(S1.set i10 (.cells [.ptr ib 0,nm,dI size])) it=some (.tail 1 l.length):=by rw[w8 _ _ (A1 o4 hi10)];exact o4
     by_cases h9:e.op=9
     ·have hk1:k≠1:=fun h=>hlet ⟨h9,h⟩
      try refine gf (gi h9 hfl) ?_ o112 [6]
      refine Ab (ih e.kids[k] nm m size st1 (ns++⟨e.op,num,[]⟩::ms) _ (by omega) (by simp only[List.length_append,List.length_cons];omega) (by omega) (by omega) hm hB5) (fun x S3 hr=>?_) (fun x S3 hr=>by cases hr.1);obtain⟨e1,st3,hB6,hK6⟩:=hr;cases e1;obtain⟨o6,_⟩:=hK6 _ _ o5 hni.2.1 hni.1;have hK7:=hK5.trans hK6;have hpos:(((ns++(⟨e.op,num,[]⟩:BNode)::ms).length:Nat):Int)=((ns.length+1+ms.length:Nat):Int):=by simp only[List.length_append,List.length_cons];omega
      have hlen3:(ns++(⟨e.op,num,[]⟩:BNode)::ms).length=ns.length+1+ms.length:=by simp only[List.length_append,List.length_cons];omega
      rw[hlen3]at hB6;have hB7:=(hB6.tail (o:=.tail 1 (l++[((ns.length+1+ms.length:Nat):Int)]).length) o6).2.2
      have hK8:BK ib V st (S3.set it (.tail 1 (l++[((ns.length+1+ms.length:Nat):Int)]).length)) st3:=fun j x hj hjb hr=>by
       obtain⟨h1,h2⟩:=hK7 j x hj hjb hr;exact⟨by rw[w8 _ _ fun e=>hr (by have:=hi0 x (by rw[<-e];exact hj);rw[e];exact this)];exact h1,h2⟩
      have hbl:=Dt (cm:=cm) (sm:=sm) (gm:=gm) e.kids[k] (fun y=>getM 0 y m) size (ns.length+1+ms.length);have hsub:Sub (S3.set it (.tail 1 (l++[((ns.length+1+ms.length:Nat):Int)]).length)) (S3.set it (.tail 1 (l.length+1))):=by rw[List.length_append];exact Sub.refl _
      rw[List.append_assoc,List.cons_append]at hB7;have hw7:WkD (.slice (cI l++[[dI ((ns.length:Int)+((ms.length:Int)+1))]]) (.tag it)) (.slice (cI (l++[((ns.length+1+ms.length:Nat):Int)])) (.tag it)):=Bd (by simp[cI];omega)
      try refine gf (gi o6 hpos) ?_ o112 [6]
      exact⟨k+1,l++[((ns.length+1+ms.length:Nat):Int)],ms++bndE cm sm gm e.kids[k] (fun y=>getM 0 y m) size (ns.length+1+ms.length),st3,S3.set it (.tail 1 (l++[((ns.length+1+ms.length:Nat):Int)]).length),⟨by omega,by rw[List.length_append,hll];rfl,by rw[List.append_assoc,List.length_append,hbl,<-Nat.add_assoc];exact hRl,by rw[List.append_assoc,List.length_append,hbl,<-Nat.add_assoc];exact hRm,by rw[List.length_append,hbl];omega,hB7,hK8,w7 ..⟩,td1,wkR⟩
     ·try refine gf hfl ?_ o112 [6]
      refine Ab (ih e.kids[k] nm m size st1 (ns++⟨e.op,num,[]⟩::ms) _ (by omega) (by simp only[List.length_append,List.length_cons];omega) (by omega) (by omega) hm hB5) (fun x S3 hr=>?_) (fun x S3 hr=>by cases hr.1);obtain⟨e1,st3,hB6,hK6⟩:=hr;cases e1;obtain⟨o6,_⟩:=hK6 _ _ o5 hni.2.1 hni.1;have hK7:=hK5.trans hK6;have hpos:(((ns++(⟨e.op,num,[]⟩:BNode)::ms).length:Nat):Int)=((ns.length+1+ms.length:Nat):Int):=by simp only[List.length_append,List.length_cons];omega
      have hlen3:(ns++(⟨e.op,num,[]⟩:BNode)::ms).length=ns.length+1+ms.length:=by simp only[List.length_append,List.length_cons];omega
      rw[hlen3]at hB6;have hB7:=(hB6.tail (o:=.tail 1 (l++[((ns.length+1+ms.length:Nat):Int)]).length) o6).2.2
      have hK8:BK ib V st (S3.set it (.tail 1 (l++[((ns.length+1+ms.length:Nat):Int)]).length)) st3:=fun j x hj hjb hr=>by
       obtain⟨h1,h2⟩:=hK7 j x hj hjb hr;exact⟨by rw[w8 _ _ fun e=>hr (by have:=hi0 x (by rw[<-e];exact hj);rw[e];exact this)];exact h1,h2⟩
      have hbl:=Dt (cm:=cm) (sm:=sm) (gm:=gm) e.kids[k] (fun y=>getM 0 y m) size (ns.length+1+ms.length);have hsub:Sub (S3.set it (.tail 1 (l++[((ns.length+1+ms.length:Nat):Int)]).length)) (S3.set it (.tail 1 (l.length+1))):=by rw[List.length_append];exact Sub.refl _
      rw[List.append_assoc,List.cons_append]at hB7;have hw7:WkD (.slice (cI l++[[dI ((ns.length:Int)+((ms.length:Int)+1))]]) (.tag it)) (.slice (cI (l++[((ns.length+1+ms.length:Nat):Int)])) (.tag it)):=Bd (by simp[cI];omega)
      try refine gf (gi o6 hpos) ?_ o112 [6]
      exact⟨k+1,l++[((ns.length+1+ms.length:Nat):Int)],ms++bndE cm sm gm e.kids[k] (fun y=>getM 0 y m) size (ns.length+1+ms.length),st3,S3.set it (.tail 1 (l++[((ns.length+1+ms.length:Nat):Int)]).length),⟨by omega,by rw[List.length_append,hll];rfl,by rw[List.append_assoc,List.length_append,hbl,<-Nat.add_assoc];exact hRl,by rw[List.append_assoc,List.length_append,hbl,<-Nat.add_assoc];exact hRm,by rw[List.length_append,hbl];omega,hB7,hK8,w7 ..⟩,td1,wkR⟩
   ·rw[A2 hkl,DZ,List.append_nil]at hRl;rw[A2 hkl,H5,List.append_nil]at hRm;obtain⟨t1,t2,t3,t4,t5,t6⟩:=hB4;rcases st1 with _|⟨r,rc,rest⟩
    ·have:(ns++(⟨e.op,num,[]⟩:BNode)::ms).map Af=[]:=t5;simp at this
    ·have hrow:S1 r=some (.cells (((ns++(⟨e.op,num,[]⟩:BNode)::ms).map Af).flatten++rest))/\(((ns++(⟨e.op,num,[]⟩:BNode)::ms).map Af).flatten++rest).length=rc*3/\((ns++(⟨e.op,num,[]⟩:BNode)::ms).map Af).length<=rc/\_:=t5
     have henv:S1 ib=some (.cells [a,b,c,d,.sref r 0 (ns.length+1+ms.length) rc,f,.map ia,.map is,.map ig]):=by
      rw[t1];show some (DObj.cells [a,b,c,d,.sref r 0 (ns++(⟨e.op,num,[]⟩:BNode)::ms).length rc,f,.map ia,.map is,.map ig])=_;rw[show(ns++(⟨e.op,num,[]⟩:BNode)::ms).length=ns.length+1+ms.length by simp only[List.length_append,List.length_cons];omega]
     obtain⟨w1,w2,w3,w4⟩:=hrow;have hAl:(ns.map Af).flatten.length=ns.length*3:=by rw[CK (sz:=3) (by simp)];simp
     have hcs:∀q:List Int,((ns++(⟨e.op,num,q⟩:BNode)::ms).map Af).flatten++rest=(ns.map Af).flatten++[dI e.op,dI num]++sl (cI q)::((ms.map Af).flatten++rest):=fun q=>by simp
     have hcs':((ns++(⟨e.op,num,[]⟩:BNode)::ms).map Af).flatten++rest=(ns.map Af).flatten++dI e.op::dI num::sl (cI [])::((ms.map Af).flatten++rest):=by simp
     rw[hcs']at w1 w2;clear hcs';generalize hA:(ns.map Af).flatten=A at*;generalize hM:(ms.map Af).flatten=M at*;have hcl:A.length+(3+(M.length+rest.length))=rc*3:=by simp only[List.length_append,List.length_cons]at w2;omega
     have w3':=w3;rw[List.length_map,List.length_append,List.length_cons]at w3;have htd:List.take (ns.length*3+2) (A++dI e.op::dI num::sl []::(M++rest))=A++[dI e.op,dI num]:=by rw[<-hAl,List.take_length_add_append];rfl
     have hdd:List.drop (ns.length*3+2+1) (A++dI e.op::dI num::sl []::(M++rest))=M++rest:=by rw[<-hAl,Nat.add_assoc,List.drop_length_add_append];rfl
     try refine gf (gi henv w1) ?_ (delO 25 o112) [6]
     refine mixL (id:=25) [0,1,2,3,4,5,6,7,8,9,10] [8] ?_
     repeat ((fail_if_success (first|(refine celW (List.take (ns.length*3+2) (A++dI e.op::dI num::sl []::(M++rest))) (List.drop (ns.length*3+2+1) (A++dI e.op::dI num::sl []::(M++rest))) (.slice (cI l) .clip) (sl (cI l)) ?_ (w7 ..) (Bc _ _))|fail));(refine goX1 (gi henv w1) ?_))
     refine celW (List.take (ns.length*3+2) (A++dI e.op::dI num::sl []::(M++rest))) (List.drop (ns.length*3+2+1) (A++dI e.op::dI num::sl []::(M++rest))) (.slice (cI l) .clip) (sl (cI l)) ?_ (w7 ..) (Bc _ _);rw[htd,hdd,Sig.set_set];have hbe:bndE cm sm gm e (fun y=>getM 0 y m) size ns.length=⟨e.op,num,l⟩::ms:=by rw[bndE_eq,hnum,<-hRl,<-hRm]
     have hln:(ns++(⟨e.op,num,l⟩:BNode)::ms).length=ns.length+1+ms.length:=by simp only[List.length_append,List.length_cons];omega
     have hnb:∀{j x},S1 j=some (.map x)->j≠r:=fun hj=>A9 hj w1 (by simp)
     have hbr:ib≠r:=fun h=>t6 h
     have hBf:BS ib ia is ig a b c d f cm sm gm (some (r,rc,rest)) (ns++⟨e.op,num,l⟩::ms) (S1.set r (.cells (A++[dI e.op,dI num]++sl (cI l)::(M++rest)))):=by
      refine⟨?_,by rw[w8 _ _ (hnb t2)];exact t2,by rw[w8 _ _ (hnb t3)];exact t3,by rw[w8 _ _ (hnb t4)];exact t4,⟨?_,?_,?_,?_⟩,t6⟩
      ·rw[w8 _ _ hbr,henv,<-hln];rfl
      ·rw[w7,hcs l]
      ·rw[hcs l];simp only[List.length_append,List.length_cons,List.length_nil];omega
      ·rw[List.length_map,hln];omega
      ·intro z hz;obtain⟨x,_,rfl⟩:=List.mem_map.1 hz;rfl
     have hKf:BK ib V st (S1.set r (.cells (A++[dI e.op,dI num]++sl (cI l)::(M++rest)))) (some (r,rc,rest)):=fun j x hj hjb hr=>by
      obtain⟨h1,h2⟩:=hK4 j x hj hjb hr;exact⟨by rw[w8 _ _ fun e=>h2 e];exact h1,h2⟩
     rw[<-hbe]at hBf
     try refine gz ?_ o112 [6]
     exact fin1 (S':=_) ⟨rfl,_,hBf,hKf⟩
  ·rcases hm.cases with⟨ks,vs,rfl,hzp⟩|⟨rfl,hzp⟩
   ·repeat' first|refine gf (gi hzp (gi q1 (gi q2 (gi q3 q4)))) ?_ o112 [6]|apply gy<;>intro hh
    all_goals (refine dwp_wk ?_ hK;clear hK ih;refine Bt (by simp) (BY ?_);rw[<-hnum];unfold bndN;simp[*];done)
   ·repeat' first|refine gf (gi q1 (gi q2 (gi q3 q4))) ?_ o112 [6]|apply gy<;>intro hh
    all_goals (refine dwp_wk ?_ hK;clear hK ih;refine Bt (by simp) (BY ?_);rw[<-hnum];unfold bndN;simp[*];done)
end
section
variable {ops:Array Oper}{n N:Nat}{ro:Option Nat}{S0:Sig}{Q:DX->St->Prop}{df:List DDf}{γ Sr:List (Nat×D)}{V:Sig}{t:Nat}{ty:TypeId}{pos:String}{after:Array Edge}{d:D}
theorem moRd{op:Op}{l:List (Bool×Oper)}(h:MO prog ro n ops N S0 Q df l ((t,d)::γ) V)(hd:dopX tab Sr V op=some d)(hC:Sub S0 V)(hr:EE op=true:=by rfl)(hl:A4 γ (A6 op.operands.toList)=some Sr:=by exact tdR)(htn:decide (t<n)=true:=by exact tdR):
  MO prog ro n ops N S0 Q df ((true,⟨some t,op,ty,pos,after,none⟩)::l) γ V:=
 mo1 (fun U2 hx=>EV Ad hr rfl (by rw[Bp hx];exact(Bp (Cq hl)) ▸ hd) htn (B6 ⟨rfl,by simp only[putD,A8,if_true];exact⟨hC,h⟩⟩)) htn
end
def Bi(f:FProg):List (Str×Int):=putM Fk 2 (putM wInt 1 (putM wAny 0 (numM (f.classes.map (·.name)) 3 [])))
def Bl(f:FProg):List (Str×Int):=numM (Aw f) 0 []
def gensN(f:FProg):List Str:=(Dh f).1.map (·.1)
def AN(f:FProg):List (Str×Int):=numM (gensN f) 0 []
def Ep(m:FMeth):Str->Int:=fun y=>getM 0 y (numM m.params 0 [])
def FK(cm sm gm:List (Str×Int)):List FMeth->Nat->List BNode
 |[],_=>[]
 |m::r,k=>bndE cm sm gm m.body (Ep m) m.params.length k++FK cm sm gm r (k+m.body.cnt)
def bndMM(cm sm gm:List (Str×Int)):List FMeth->Nat->List BMeth
 |[],_=>[]
 |m::r,k=>⟨m.kind,getM 0 m.name gm,bndF cm sm (Ep m) m.fact,k⟩::bndMM cm sm gm r (k+m.body.cnt)
def Ah(f:FProg):BProg:=
 ⟨f.classes.map (J8 (Bi f) (Bl f)),(Aw f).length,Hq (AN f) f,bndMM (Bi f) (Bl f) (AN f) f.methods 0,
  FK (Bi f) (Bl f) (AN f) f.methods 0++bndE (Bi f) (Bl f) (AN f) f.main (fun _=>0) 0 (FK (Bi f) (Bl f) (AN f) f.methods 0).length,(FK (Bi f) (Bl f) (AN f) f.methods 0).length⟩
theorem KO: ∀(l:List Str) (b:Int) (m:List (Str×Int)) (s:Str),(s∈l->b<=getM 0 s (numM l b m)/\getM 0 s (numM l b m)<b+l.length)/\(s∉l->getM 0 s (numM l b m)=getM 0 s m)
 |[],b,m,s=>by simp[numM]
 | x::r,b,m,s=>by
  obtain⟨h1,h2⟩:=KO r (b+1) (putM x b m) s;rw[numM];refine⟨fun h=>?_,fun h=>?_⟩
  ·by_cases hr:s∈r
   ·have:=h1 hr;simp only[List.length_cons];omega
   ·rw[h2 hr,Cn];have:s=x:=(List.mem_cons.1 h).resolve_right hr;rw[if_pos this];simp only[List.length_cons];omega
  ·rw[List.mem_cons,not_or]at h;rw[h2 h.2,Cn,if_neg h.1]
theorem Ov: ∀(l:List Str) (b:Int) (m:List (Str×Int)),l.Nodup->(∀s∈l,hasM s m=false)->(numM l b m).length=m.length+l.length
 |[],b,m,_,_=>by simp[numM]
 | x::r,b,m,hn,hm=>by
  rw[List.nodup_cons]at hn;rw[numM,Ov r _ _ hn.2 fun s hs=>?_,KM x b m (hm x (by simp))]
  ·simp only[List.length_append,List.length_cons,List.length_nil];omega
  ·rw[OL,hm s (by simp[hs])];have:s≠x:=fun e=>hn.1 (e ▸ hs);simp[this]
theorem Fu: ∀(l:List Str) (b:Int) (m:List (Str×Int)),(m.map (·.1)).Nodup->((numM l b m).map (·.1)).Nodup
 |[],_,m,h=>h
 |x::r,b,m,h=>Fu r _ _ (If x b h)
theorem LE(name:Str)(n:Int)(s:GenT)(h:(s.1.map (·.1)).Nodup):((seeG name n s).1.map (·.1)).Nodup/\name∈(seeG name n s).1.map (·.1) /\ ∀x∈s.1.map (·.1),x∈(seeG name n s).1.map (·.1):=by
 unfold seeG;split
 ·rename_i hh;exact⟨h,(Gj _ _).1 hh,fun x hx=>hx⟩
 ·rename_i hh;simp only[List.map_append,List.map_cons,List.map_nil];refine⟨List.nodup_append.2 ⟨h,by simp,fun a ha b hb e=>?_⟩,by simp,fun x hx=>by simp[hx]⟩;simp only[List.mem_singleton]at hb;exact hh ((Gj _ _).2 (by rw[<-hb,<-e];exact ha))
def CallsIn(ks:List Str)(x:FExp):Prop:=x.op=5->x.text∈ks
mutual
theorem EZ{Q R:FExp->Prop}(h:∀x,Q x->R x): ∀e,AllX Q e->AllX R e
 |.mk o n t k,he=>by rw[AllX]at he⊢; exact⟨h _ he.1,Kv h k he.2⟩
theorem Kv{Q R:FExp->Prop}(h:∀x,Q x->R x): ∀l,Eh Q l->Eh R l
 |[],_=>by rw[Eh];trivial
 |x::r,he=>by rw[Eh]at he⊢; exact⟨EZ h x he.1,Kv h r he.2⟩
end
mutual
theorem RC: ∀(e:FExp) (s:GenT),(s.1.map (·.1)).Nodup->((genE e s).1.map (·.1)).Nodup/\(∀x∈s.1.map (·.1),x∈(genE e s).1.map (·.1))/\AllX (CallsIn ((genE e s).1.map (·.1))) e
 | .mk o n t k,s,h=>by
  rw[genE,AllX]
  by_cases h5:o=5
  ·rw[if_pos h5];obtain⟨a1,a2,a3⟩:=LE t k.length s h;obtain⟨b1,b2,b3⟩:=Fc k _ a1;exact⟨b1,fun x hx=>b2 x (a3 x hx),fun _=>b2 _ a2,b3⟩
  ·rw[if_neg h5];obtain⟨b1,b2,b3⟩:=Fc k _ h;exact⟨b1,b2,fun h=>absurd h h5,b3⟩
theorem Fc: ∀(l:List FExp) (s:GenT),(s.1.map (·.1)).Nodup->((CI l s).1.map (·.1)).Nodup/\(∀x∈s.1.map (·.1),x∈(CI l s).1.map (·.1))/\Eh (CallsIn ((CI l s).1.map (·.1))) l
 |[],s,h=>by rw[CI,Eh];exact⟨h,fun _ h=>h,trivial⟩
 |x::r,s,h=>by
  rw[CI,Eh];obtain⟨a1,a2,a3⟩:=RC x s h;obtain⟨b1,b2,b3⟩:=Fc r _ a1;exact⟨b1,fun y hy=>b2 y (a2 y hy),EZ (fun y hq h5=>b2 _ (hq h5)) x a3,b3⟩
end
theorem LT: ∀(l:List FMeth) (s:GenT),(s.1.map (·.1)).Nodup->((metG l s).1.map (·.1)).Nodup/\(∀x∈s.1.map (·.1),x∈(metG l s).1.map (·.1)) /\ ∀m∈l,m.name∈(metG l s).1.map (·.1)
 |[],s,h=>⟨h,fun _ h=>h,by simp⟩
 |m::r,s,h=>by
  obtain⟨a1,a2,a3⟩:=LE m.name m.params.length s h;obtain⟨b1,b2,b3⟩:=LT r _ a1;rw[metG];refine⟨b1,fun x hx=>b2 x (a3 x hx),fun y hy=>?_⟩;rcases List.mem_cons.1 hy with rfl|hy
  ·exact b2 _ a2
  ·exact b3 y hy
theorem Ni{Q:FExp->Prop}: ∀(l:List FExp),Eh Q l->∀x∈l,AllX Q x
 |[],_,x,hx=>by simp at hx
 |y::r,h,x,hx=>by
  rw[Eh]at h;rcases List.mem_cons.1 hx with rfl|hx
  ·exact h.1
  ·exact Ni r h.2 x hx
theorem GW(f:FProg):(gensN f).Nodup/\(∀m∈f.methods,m.name∈gensN f/\AllX (CallsIn (gensN f)) m.body)/\AllX (CallsIn (gensN f)) f.main:=by
 obtain⟨a1,a2,a3⟩:=LT f.methods ([],true) (by simp);obtain⟨b1,b2,b3⟩:=Fc (Cu f) _ a1;have hm:=Ni _ b3;exact⟨b1,fun m hmm=>⟨b2 _ (a3 m hmm),hm _ (by unfold Cu;exact List.mem_append_left _ (List.mem_map_of_mem hmm))⟩,hm _ (by unfold Cu;simp)⟩
theorem Hz(f:FProg):(AN f).length=(gensN f).length:=by
 unfold AN;rw[Ov _ _ _ (GW f).1 (fun _ _=>rfl)];simp
theorem args_ok(f:FProg):(∀m∈f.methods,(0<=getM 0 m.name (AN f)/\getM 0 m.name (AN f)<(AN f).length)/\AllX (QA (AN f) (AN f).length) m.body)/\AllX (QA (AN f) (AN f).length) f.main:=by
 obtain⟨h1,h2,h3⟩:=GW f
 have key:∀s∈gensN f,0<=getM 0 s (AN f)/\getM 0 s (AN f)<(AN f).length:=fun s hs=>by
  have:=(KO (gensN f) 0 [] s).1 hs;rw[Hz];unfold AN;omega
 have hq:∀x,CallsIn (gensN f) x->QA (AN f) (AN f).length x:=fun x hx h5=>key _ (hx h5);exact⟨fun m hm=>⟨key _ (h2 m hm).1,EZ hq _ (h2 m hm).2⟩,EZ hq _ h3⟩
end Go.DL
