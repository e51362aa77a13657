/- Part of the proof that the last text ends. -/
import Derived.Test.YtlfimpogphmbdaaGreatM23
import Derived.Test.YtlfimpogphmbdaaGreatM11
import Derived.Test.YtlfimpogphmbdaaGreatM24
import Derived.Test.YtlfimpogphmbdaaGreatM29
import Derived.Test.YtlfimpogphmbdaaGreatM28
set_option linter.all false
namespace Go.DL
open Go.Proofs.Tryz
open Go Go.Proofs
set_option maxHeartbeats 8000000
theorem OV{α β:Type}(l:List (α×β)):(l.map (·.1)).zip (l.map (·.2))=l:=by
 induction l with
 |nil=>rfl
 |cons x l ih=>simp only[List.map_cons,List.zip_cons_cons,ih]
theorem UQ(s:List (Str×Int))(j:Nat):(eSN s).eraseIdx j=eSN (s.eraseIdx j):=by
 unfold eSN eM
 induction s generalizing j with
 |nil=>simp
 |cons x s ih=>cases j with
  |zero=>simp
  |succ j=>simp[ih]
theorem eSN_get{s:List (Str×Int)}{j:Nat}{k v:D}(h:(eSN s)[j]? = some (k,v)): ∃hj:j<s.length,k=.str s[j].1/\v=dI s[j].2:=by
 unfold eSN eM at h
 rw[List.getElem?_map]at h
 by_cases hj:j<s.length
 ·rw[List.getElem?_eq_getElem hj]at h
  simp only[Option.map_some,Option.some.injEq,Prod.mk.injEq]at h
  exact⟨hj,h.1.symm,h.2.symm⟩
 ·rw[List.getElem?_eq_none (by omega)]at h;cases h
section
variable {α β:Type}[DecidableEq α]
theorem Hk(k:α): ∀m:List (α×β),hasM k m=true ↔ k∈m.map (·.1)
 |[]=>by simp[hasM]
 |(x,y)::r=>by simp[hasM,Hk k r]
theorem Pl(k:α)(v:β): ∀m:List (α×β),(putM k v m).map (·.1)=if hasM k m=true then m.map (·.1) else m.map (·.1)++[k]
 |[]=>by simp[putM,hasM]
 | (x,y)::r=>by
  by_cases h:k=x
  ·simp[putM,hasM,h]
  ·rw[putM,if_neg h,List.map_cons,Pl k v r,hasM]
   by_cases h2:hasM k r=true<;>simp[h,h2]
theorem J2(k:α)(v:β){m:List (α×β)}(h:(m.map (·.1)).Nodup):((putM k v m).map (·.1)).Nodup:=by
 rw[Pl]
 split
 ·exact h
 ·rename_i h2
  rw[List.nodup_append]
  refine⟨h,by simp,fun a ha b hb e=>?_⟩
  simp only[List.mem_singleton]at hb
  subst hb;subst e
  exact h2 ((Hk _ _).2 ha)
theorem KD(z:β): ∀(m:List (α×β)) (j:Nat) (hj:j<m.length),(m.map (·.1)).Nodup->((m.eraseIdx j).map (·.1)).Nodup /\ ∀x,hasM x m=(decide (x=m[j].1)||hasM x (m.eraseIdx j))/\(x≠m[j].1->getM z x (m.eraseIdx j)=getM z x m)/\(x=m[j].1->hasM x (m.eraseIdx j)=false/\getM z x m=m[j].2)
 |(a,b)::r,0,_,h=>by
  simp only[List.map_cons,List.nodup_cons]at h
  refine⟨h.2,fun x=>⟨rfl,fun hx=>by simp only[List.getElem_cons_zero,ne_eq]at hx;simp[getM,hx],fun hx=>?_⟩⟩
  simp only[List.getElem_cons_zero]at hx
  subst hx
  refine⟨?_,by simp[getM]⟩
  simp only[List.eraseIdx_zero,List.tail_cons]
  cases hh:hasM x r with
  |false=>rfl
  |true=>exact absurd ((Hk _ _).1 hh) h.1
 | (a,b)::r,j+1,hj,h=>by
  have be:j<r.length:=by simpa using hj
  simp only[List.map_cons,List.nodup_cons]at h
  obtain⟨h1,h2⟩:=KD z r j be h.2
  have aa:∀y,y∈(r.eraseIdx j).map (·.1)->y∈r.map (·.1):=fun y hy=>by
   obtain⟨p,hp,rfl⟩:=List.mem_map.1 hy
   exact List.mem_map.2 ⟨p,List.mem_of_mem_eraseIdx hp,rfl⟩
  have aU:r[j].1∈r.map (·.1):=List.mem_map.2 ⟨_,List.getElem_mem be,rfl⟩
  refine⟨by simp only[List.eraseIdx_cons_succ,List.map_cons,List.nodup_cons];exact⟨fun hm=>h.1 (aa _ hm),h1⟩,fun x=>?_⟩
  obtain⟨e1,e2,e3⟩:=h2 x
  simp only[List.getElem_cons_succ,List.eraseIdx_cons_succ]
  refine⟨?_,fun hx=>?_,fun hx=>?_⟩
  ·rw[hasM,e1,hasM];cases decide (x=a)<;>cases decide (x=r[j].1)<;>simp
  ·rw[getM,getM,e2 hx]
  ·have hne:x≠a:=fun e=>h.1 (by rw[<-e,hx];exact aU)
   rw[hasM,getM,if_neg hne]
   exact⟨by rw[(e3 hx).1];simp[hne],(e3 hx).2⟩
end
theorem SR{α β:Type}[DecidableEq α]{z:β}{k:α}: ∀{m:List (α×β)},hasM k m=false->getM z k m=z
 |[],_=>rfl
 |(x,y)::r,h=>by
  rw[hasM,Bool.or_eq_false_iff,decide_eq_false_iff_not]at h
  rw[getM,if_neg h.1];exact SR h.2
def NmD(nm:D)(m:List (Str×Int)):Prop:=(nm=cNum m\/(nm=.nilmap/\m=[]))/\(m.map (·.1)).Nodup
def updE(env:Str->Int)(s:Str)(v:Int):Str->Int:=fun x=>if x=s then v else env x
theorem TY(ib:Nat)(nm:D)(m:List (Str×Int))(size:Int)(s:Str)(V:Sig)(hn:NmD nm m)(hs:0<=size/\size<=2000000000):
  DCall prog 195 [.agg [.ptr ib 0,nm,dI size],.str s] V fun x S'=> ∃m',x=.ret (.agg [.ptr ib 0,cNum m',dI (size+1)])/\NmD (cNum m') m'/\(∀x,getM 0 x m'=updE (fun y=>getM 0 y m) s size x)/\S'=V:=by
 obtain⟨hn,bq⟩:=hn
 obtain⟨bP,bO⟩:=hs
 have aB:P8 nm=some (eSN m):=by
  rcases hn with rfl|⟨rfl,rfl⟩
  ·show some (((eSN m).map (·.1)).zip ((eSN m).map (·.2)))=_
   rw[OV]
  ·rfl
 refine en func195 ntmps195 ?_
 try refine gz ?_ [] [4]
 refine newV (fun i hi=>?_)
 try refine gz ?_ [] [4]
 refine Sf (fun im aW=>?_)
 try refine gz ?_ [] [4]
 refine rng (kt:=9) (et:=3) (l:=eSN m) (fun it ak=>?_) (hx:=by exact aB)
 try refine gz ?_ [] [4]
 have n1:i≠im:=fun e=>by rw[<-e,w7]at aW;cases aW
 have n2:im≠it:=fun e=>by rw[<-e,w7]at ak;cases ak
 have n3:i≠it:=fun e=>by rw[<-e,w8 _ _ n1,w7]at ak;cases ak
 obtain⟨m1,i2⟩:=A4 aW
 have i3:V it=none:=by rw[w8 _ _ (Ne.symm n2),w8 _ _ (Ne.symm n3)]at ak;exact ak
 have h0:∀x,getM 0 x m=if hasM x m=true then getM 0 x m else getM 0 x ([]:List (Str×Int)):=fun x=>by
  by_cases h:hasM x m=true
  ·rw[if_pos h]
  ·rw[if_neg h];exact SR (by simpa using h)
 refine D6 [1,2,4,5,11,20,21,22,23,24,25,26,27,28,29,30] (fun (L:List (Str×Int)) (acc:List (Str×Int)) (la:Option (D×D))=>(L.map (·.1)).Nodup/\(acc.map (·.1)).Nodup/\(∀x,getM 0 x m=if hasM x L=true then getM 0 x L else getM 0 x acc)) (fun _ _ _=>[]) (fun L acc la=>((V.set i (.cells [.nilp,.nilmap,dI 0])).set im (.map (eSN acc))).set it (.iter (eSN L) la)) (fun L _ _=>L.length) (m) ([]) (none) (by exact⟨bq,by simp,h0⟩) (fun L acc la hI=>?_)
 obtain⟨hL,hA,hR⟩:=hI
 try refine gz ?_ [] [4]
 refine nxt (fun bg=>?_) (fun jj k v bu=>?_)
 ·have bE:L=[]:=by unfold eSN eM at bg;simpa using bg
  subst bE
  have bC:∀x,getM 0 x m=getM 0 x acc:=fun x=>by have:=hR x;simpa[hasM] using this
  repeat ((fail_if_success (first|(refine cfr 5 (i:=im) (m:=eSN (putM s size acc)) ((w7 ..)) ?_)|fail));(refine goX1 trivial ?_))
  refine cfr 5 (i:=im) (m:=eSN (putM s size acc)) ((w7 ..)) ?_
  generalize aY:Sig.del _ im=Se
  have w1:Se i=some (.cells [.nilp,.nilmap,dI 0]):=by rw[<-aY];simp[Sig.del,n1,w8 _ _ n1,w8 _ _ n3]
  have wS:Sub V Se:=fun j x hj=>by
   have e1:j≠i:=A3 hj hi
   have e2:j≠im:=A3 hj i2
   have e3:j≠it:=A3 hj i3
   rw[<-aY];simp only[Sig.del,e2,if_false,w8 _ _ e1,w8 _ _ e2,w8 _ _ e3];exact hj
  clear aY
  try refine gf w1 ?_ [] [4]
  refine finC (S':=V) (d:=.agg [.ptr ib 0,cNum (putM s size acc),dI (size+1)]) ⟨_,rfl,⟨.inl rfl,J2 _ _ hA⟩,fun x=>?_,rfl⟩ (hZ:=wS.set hi)
  rw[F0];unfold updE
  split
  ·rfl
  ·exact(bC x).symm
 ·obtain⟨bd,rfl,rfl⟩:=eSN_get bu
  rw[UQ]
  obtain⟨e1,e2⟩:=KD (0:Int) L jj bd hL
  try refine gz ?_ [] [4]
  refine ent ?_
  try refine gz ?_ [] [4]
  have bR:(L.eraseIdx jj).length<L.length:=by rw[List.length_eraseIdx,if_pos bd];omega
  have bp:∀x,getM 0 x m=if hasM x (L.eraseIdx jj)=true then getM 0 x (L.eraseIdx jj) else getM 0 x (putM L[jj].1 L[jj].2 acc):=fun x=>by
   obtain⟨f1,f2,f3⟩:=e2 x
   rw[hR x,F0]
   by_cases hx:x=L[jj].1
   ·rw[if_pos hx,(f3 hx).1,f1,decide_eq_true hx,Bool.true_or,if_pos rfl,if_neg (by simp),(f3 hx).2]
   ·rw[if_neg hx,f1,decide_eq_false hx,Bool.false_or,f2 hx]
  have aa:Sub (((V.set i (.cells [.nilp,.nilmap,dI 0])).set im (.map (eSN (putM L[jj].1 L[jj].2 acc)))).set it (.iter (eSN (L.eraseIdx jj)) (some (.str L[jj].1,dI L[jj].2)))) ((((V.set i (.cells [.nilp,.nilmap,dI 0])).set im (.map (eSN acc))).set it (.iter (eSN (L.eraseIdx jj)) (some (.str L[jj].1,dI L[jj].2)))).set im (.map (eSN (putM L[jj].1 L[jj].2 acc)))):=by
   rw[set_comm _ (Ne.symm n2),w9];exact Sub.refl _
  exact⟨L.eraseIdx jj,putM L[jj].1 L[jj].2 acc,_,⟨e1,J2 _ _ hA,bp⟩,td1,wkR⟩
mutual
def bndF(cm sm:List (Str×Int))(env:Str->Int):FFact->Fact
 |.mk o s p c n k=>.mk o (env s) (p.map fun x=>getM 0 x sm) (getM 0 c cm) n (O5 cm sm env k)
def O5(cm sm:List (Str×Int))(env:Str->Int):List FFact->List Fact
 |[]=>[]
 |x::r=>bndF cm sm env x::O5 cm sm env r
end
theorem O4(cm sm:List (Str×Int))(env:Str->Int): ∀l,O5 cm sm env l=l.map (bndF cm sm env)
 |[]=>by rw[O5];rfl
 |x::r=>by rw[O5,O4 cm sm env r];rfl
theorem bndF_eq(cm sm:List (Str×Int))(env:Str->Int)(f:FFact):bndF cm sm env f=.mk f.op (env f.name) (f.path.map fun x=>getM 0 x sm) (getM 0 f.cls cm) f.n (f.kids.map (bndF cm sm env)):=by
 cases f;rw[bndF,O4];rfl
theorem R1(l:List FFact)(h:FFact->Fact)(g:Nat)(first cap:List D)(o:Own)(V:Sig)(hl:l.length<=1073741824)
  (hg:∀x∈l, ∀S',Sub V S'->DCall prog g (first++[.agg (AM x)]++cap) S' fun r S''=>r=.ret (.agg (Bp (h x)))/\S''=S') :
  DCall prog 197 [.slice (l.map AM) o,.func (.func g) first cap] V (rS (sl ((l.map h).map Bp)) V):=by
 refine en func197 ntmps197 ?_
 try refine gz ?_
 refine Bz 5 6 (fun i hi=>?_)
 refine AA [1,4,8,9,21,22] (fun (k:Nat) (out:List Fact)=>k<=l.length/\out++(l.drop k).map h=l.map h) (fun k out=>[(10,dI k),(5,.slice (out.map Bp) (.tag i))]) (fun _ out=>V.set i (.tail 6 out.length)) (fun k _=>l.length-k) (0) ([]) (by simp) (fun k out hI=>?_)
 obtain⟨hk,hR⟩:=hI
 have hlen:=congrArg List.length hR
 simp at hlen
 by_cases hh:k<l.length
 ·rw[A0 hh]at hR
  try refine gf hh ?_
  refine Ab (hg (l[k]) (List.getElem_mem hh) _ ((Sub.refl _).set hi)) (fun d S' hr=>?_) (fun d S' hr=>by cases hr.1) (ha:=rfl)
  obtain⟨e1,e2⟩:=hr
  cases e1
  rw[e2]
  try refine gz ?_
  exact⟨k+1,out++[h l[k]],⟨by omega,by rw[List.append_assoc];exact hR⟩,td1,wkR⟩
 ·try refine gf hh ?_
  rw[A1 hh]at hR
  simp at hR
  exact finS (S':=V) (es:=out.map Bp) ⟨by rw[hR],rfl⟩
section
variable {ib ia is ig:Nat}{p6:List D}{cm sm gm:List (Str×Int)}
theorem TX(s:Str)(nm:D)(size:Int)(V:Sig)(hE:EnvS ib ia is ig p6 cm sm gm V):DCall prog 196 [.str s,.cptr [.ptr ib 0,nm,dI size] 0] V (rS (dI (getM 0 s sm)) V):=by
 obtain⟨⟨a,b,c,d,e,f,rfl,o1⟩,o2,o3,o4⟩:=hE
 refine en func196 ntmps196 ?_
 try refine gf (gi o1 (gi o2 (gi o3 o4))) ?_
 exact fe1 trivial
theorem NmD.cases{nm:D}{m:List (Str×Int)}(h:NmD nm m):(∃ks vs,nm=.cmap ks vs/\ks.zip vs=eSN m)\/(nm=.nilmap /\ ∀x,getM 0 x m=0):=by
 rcases h.1 with rfl|⟨rfl,rfl⟩
 ·exact .inl ⟨_,_,rfl,OV _⟩
 ·exact .inr ⟨rfl,fun _=>rfl⟩
theorem UD(nm:D)(m:List (Str×Int))(size:Int)(hn:NmD nm m): ∀(n:Nat) (f:FFact) (V:Sig),f.wt<=n->n<=1073741824->EnvS ib ia is ig p6 cm sm gm V->
  DCall prog 113 [.agg [.ptr ib 0,nm,dI size],.agg (AM f)] V (rS (.agg (Bp (bndF cm sm (fun y=>getM 0 y m) f))) V):=by
 intro n
 induction n with
 |zero =>
  intro f V hx
  have:=f.wt_pos
  omega
 | succ n ih =>
  intro f V hx hw hE
  obtain⟨w1,w2,w3,w4,w5⟩:=f.wt_le
  have bm:f.path.length<=1073741824:=by have:=Bu f.path;omega
  have bF:=hE
  obtain⟨⟨a,b,c,d,e,g,rfl,o1⟩,o2,o3,o4⟩:=hE
  refine en func113 ntmps113 ?_
  try refine gz ?_ o113 [4]
  refine newV (fun i hi=>?_)
  have n1:ib≠i:=A3 o1 hi
  have n2:ia≠i:=A3 o2 hi
  have n3:is≠i:=A3 o3 hi
  have bi:=bF.sub (S':=V.set i (.cells [dI 0,dI 0,.nils,dI 0,dI 0,.nils])) ((Sub.refl _).set hi)
  have au:=FO f.path (fun s=>getM 0 s sm) 196 [.cptr [.ptr ib 0,nm,dI size] 0] .no (V.set i (.cells [dI 0,dI 0,.nils,dI 0,dI 0,.nils])) bm (fun x hx S' hs=>TX x nm size S' (bi.sub hs))
  have ar:=R1 f.kids (bndF cm sm (fun y=>getM 0 y m)) 113 [.agg [.ptr ib 0,nm,dI size]] [] .no (V.set i (.cells [dI 0,dI 0,.nils,dI 0,dI 0,.nils])) (by omega) (fun x hx S' hs=>ih x S' (by obtain⟨k,hk,rfl⟩:=List.getElem_of_mem hx;have:=w5 k hk;omega) (by omega) (bi.sub hs))
  have hb:=bndF_eq cm sm (fun y=>getM 0 y m) f
  rcases hn.cases with⟨ks,vs,rfl,hz⟩|⟨rfl,hz⟩
  ·repeat' first|refine gf (gi hz (gi o1 (gi o2 o3))) ?_ [] [4]|refine moR (au) ?_|refine moP (au) ?_|refine moR (ar) ?_|refine moP (ar) ?_|refine gf (gi hz (gi o1 (gi o2 o3))) ?_ o113 [4]|apply gy<;>intro hh
   exact finC (S':=V) ⟨rfl,rfl⟩ (hw:=by rw[hb];refine AS ?_;simp[Fact.op,Fact.arg,Fact.path,Fact.cls,Fact.n,Fact.kids])
  ·repeat' first|refine gf (gi o1 (gi o2 o3)) ?_ [] [4]|refine moR (au) ?_|refine moP (au) ?_|refine moR (ar) ?_|refine moP (ar) ?_|refine gf (gi o1 (gi o2 o3)) ?_ o113 [4]|apply gy<;>intro hh
   exact finC (S':=V) ⟨rfl,rfl⟩ (hw:=by rw[hb];refine AS ?_;simp[Fact.op,Fact.arg,Fact.path,Fact.cls,Fact.n,Fact.kids,hz])
end
def BdS(ib:Nat)(a b c d e f:D)(names slots gens:List Str)(V:Sig):Prop:=V ib=some (.cells [a,b,c,d,e,f,sl (cS names),sl (cS slots),sl (cS gens)])
structure FcS(i7 i1 i2:Nat)(op A C n:Int)(l:List Int)(ks:List Fact)(V S1:Sig):Prop where
 o7:S1 i7=some (.cells [dI op,dI A,.slice (cI l) (.tag i1),dI C,dI n,.slice (ks.map Bp) (.tag i2)])
 o1:S1 i1=some (.tail 1 l.length)
 o2:S1 i2=some (.tail 6 ks.length)
 hS:Sub V S1
theorem FcS.path{i7 i1 i2:Nat}{op A C n:Int}{l:List Int}{ks:List Fact}{V S1:Sig}(h:FcS i7 i1 i2 op A C n l ks V S1)(v:Int)(aE:i1≠i2)(h7:V i7=none)(h1:V i1=none):
  FcS i7 i1 i2 op A C n (l++[v]) ks V ((S1.set i1 (.tail 1 (l.length+1))).set i7 (.cells [dI op,dI A,.slice (cI l++[[dI v]]) (.tag i1),dI C,dI n,.slice (ks.map Bp) (.tag i2)])):=by
 have n1:i1≠i7:=Ac h.o1 h.o7 (by simp)
 have n2:i2≠i7:=Ac h.o2 h.o7 (by simp)
 refine⟨by rw[w7];simp[cI],by rw[w8 _ _ n1,w7,List.length_append];rfl,by rw[w8 _ _ n2,w8 _ _ (Ne.symm aE)];exact h.o2,fun j o hj=>?_⟩
 rw[w8 _ _ (A3 hj h7),w8 _ _ (A3 hj h1)];exact h.hS j o hj
theorem FcS.kid{i7 i1 i2:Nat}{op A C n:Int}{l:List Int}{ks:List Fact}{V S1:Sig}(h:FcS i7 i1 i2 op A C n l ks V S1)(v:Fact)(aE:i1≠i2)(h7:V i7=none)(h2:V i2=none):
  FcS i7 i1 i2 op A C n l (ks++[v]) V ((S1.set i2 (.tail 6 (ks.length+1))).set i7 (.cells [dI op,dI A,.slice (cI l) (.tag i1),dI C,dI n,.slice (ks.map Bp++[Bp v]) (.tag i2)])):=by
 have n1:i1≠i7:=Ac h.o1 h.o7 (by simp)
 have n2:i2≠i7:=Ac h.o2 h.o7 (by simp)
 refine⟨by rw[w7];simp,by rw[w8 _ _ n1,w8 _ _ aE];exact h.o1,by rw[w8 _ _ n2,w7,List.length_append];rfl,fun j o hj=>?_⟩
 rw[w8 _ _ (A3 hj h7),w8 _ _ (A3 hj h2)];exact h.hS j o hj
section
variable {ib:Nat}{a b c d e f:D}{names slots gens:List Str}
theorem BdS.fresh{V:Sig}{k:Nat}{o:DObj}(h:BdS ib a b c d e f names slots gens V)(hk:V k=none):BdS ib a b c d e f names slots gens (V.set k o):=by
 unfold BdS at*
 rw[w8 _ _ (A3 h hk)];exact h
theorem BdS.sub{V S':Sig}(h:BdS ib a b c d e f names slots gens V)(hs:Sub V S'):BdS ib a b c d e f names slots gens S':=hs _ _ h
end
theorem Hn(p:BProg)(a b g:List Str)(n:Int)(V:Sig)(hn:InR n (3+a.length))(ha:a.length<=1073741824):DCall prog 145 [cSp0 p a b g,dI n] V (rS (.str (ixS (lits3++a) n)) V):=by
 have ai:cSp0 p a b g=.cptr [sl (p.classes.map Ae),dI p.slots,sl (cI p.gens),sl (p.methods.map Aq),sl (p.nodes.map Ai),dI p.main,sl (cS a),sl (cS b),sl (cS g)] 0:=rfl
 obtain⟨h0,h1⟩:=hn
 refine en func145 ntmps145 ?_
 by_cases h3:n<3
 ·have h:n=0\/n=1\/n=2:=by omega
  rcases h with rfl|rfl|rfl
  ·refine gf ai ?_
   exact fin1 (S':=V) ⟨rfl,rfl⟩
  ·refine gf ai ?_
   exact fin1 (S':=V) ⟨rfl,rfl⟩
  ·refine gf ai ?_
   exact fin1 (S':=V) ⟨rfl,rfl⟩
 ·obtain⟨k,rfl⟩:∃k:Nat,n=(k:Int)+3:=⟨(n-3).toNat,by omega⟩
  have hk:k<a.length:=by omega
  have e:ixS (lits3++a) ((k:Int)+3)=a[k]:=by
   unfold ixS
   rw[show((k:Int)+3).toNat=3+k by omega,List.getElem?_append_right (by show 3<=3+k;omega),show 3+k-lits3.length=k by show 3+k-3=k;omega,List.getElem?_eq_getElem hk];rfl
  refine gf ai ?_
  refine fin1 (S':=V) ?_
  exact⟨by rw[e],rfl⟩
structure FcT(i7 i1 i2:Nat)(op n:Int)(A C:Str)(l:List Str)(ks:List FFact)(V S1:Sig):Prop where
 o7:S1 i7=some (.cells [dI op,(.str A),.slice (cS l) (.tag i1),(.str C),dI n,.slice (ks.map AM) (.tag i2)])
 o1:S1 i1=some (.tail 1 l.length)
 o2:S1 i2=some (.tail 6 ks.length)
 hS:Sub V S1
theorem FcT.path{i7 i1 i2:Nat}{op n:Int}{A C:Str}{l:List Str}{ks:List FFact}{V S1:Sig}(h:FcT i7 i1 i2 op n A C l ks V S1)(v:Str)(aE:i1≠i2)(h7:V i7=none)(h1:V i1=none):
  FcT i7 i1 i2 op n A C (l++[v]) ks V ((S1.set i1 (.tail 1 (l.length+1))).set i7 (.cells [dI op,(.str A),.slice (cS l++[[.str v]]) (.tag i1),(.str C),dI n,.slice (ks.map AM) (.tag i2)])):=by
 have n1:i1≠i7:=Ac h.o1 h.o7 (by simp)
 have n2:i2≠i7:=Ac h.o2 h.o7 (by simp)
 refine⟨by rw[w7];simp[cS],by rw[w8 _ _ n1,w7,List.length_append];rfl,by rw[w8 _ _ n2,w8 _ _ (Ne.symm aE)];exact h.o2,fun j o hj=>?_⟩
 rw[w8 _ _ (A3 hj h7),w8 _ _ (A3 hj h1)];exact h.hS j o hj
theorem FcT.kid{i7 i1 i2:Nat}{op n:Int}{A C:Str}{l:List Str}{ks:List FFact}{V S1:Sig}(h:FcT i7 i1 i2 op n A C l ks V S1)(v:FFact)(aE:i1≠i2)(h7:V i7=none)(h2:V i2=none):
  FcT i7 i1 i2 op n A C l (ks++[v]) V ((S1.set i2 (.tail 6 (ks.length+1))).set i7 (.cells [dI op,(.str A),.slice (cS l) (.tag i1),(.str C),dI n,.slice (ks.map AM++[AM v]) (.tag i2)])):=by
 have n1:i1≠i7:=Ac h.o1 h.o7 (by simp)
 have n2:i2≠i7:=Ac h.o2 h.o7 (by simp)
 refine⟨by rw[w7];simp,by rw[w8 _ _ n1,w8 _ _ aE];exact h.o1,by rw[w8 _ _ n2,w7,List.length_append];rfl,fun j o hj=>?_⟩
 rw[w8 _ _ (A3 hj h7),w8 _ _ (A3 hj h2)];exact h.hS j o hj
section
variable {p:BProg}{a b g P:List Str}
theorem Um(ha:a.length<=1000000000)(hb:b.length<=1073741824)(hP:P.length<=1073741824)(o:Own): ∀(n:Nat) (x:Fact) (V:Sig),x.wt<=n->n<=1073741824->FIx (3+a.length) b.length P.length x->
  DCall prog 146 [cSp0 p a b g,.agg (Bp x),.slice (cS P) o] V (rS (.agg (AM (spF (lits3++a) b P x))) V):=by
 intro n
 induction n with
 |zero =>
  intro x V hx
  have:=x.wt_pos
  omega
 | succ n ih =>
  intro x V hx hw bf
  obtain⟨w1,w2,w5⟩:=x.wt_le
  have ai:cSp0 p a b g=.cptr [sl (p.classes.map Ae),dI p.slots,sl (cI p.gens),sl (p.methods.map Aq),sl (p.nodes.map Ai),dI p.main,sl (cS a),sl (cS b),sl (cS g)] 0:=rfl
  obtain⟨k1,k2,k3,k4⟩:(∀y∈x.path,InR y b.length)/\(x.op=2->InR x.cls (3+a.length))/\(x.op=2\/x.op=3\/x.op=4->InR x.arg P.length)/\FIxs (3+a.length) b.length P.length x.kids:=by
   cases x;rw[FIx]at bf;exact bf
  obtain⟨A,hA⟩:∃A:Str,A=if x.op=2\/x.op=3\/x.op=4 then ixS P x.arg else []:=⟨_,rfl⟩
  obtain⟨C,hC⟩:∃C:Str,C=if x.op=2 then ixS (lits3++a) x.cls else []:=⟨_,rfl⟩
  refine en func146 ntmps146 ?_
  refine gz ?_ o146 [6,7]
  refine newV (fun i6 aD=>?_)
  refine gz ?_ o146 [6,7]
  refine newV (fun i7 aG=>?_)
  obtain⟨m1,m2⟩:=A4 aG
  repeat ((fail_if_success (first|(refine dwp_cut3 (x1:=.region _ _ _) (x2:=.seq _ _) (x3:=.seq _ _) [] ((V.set i6 (.cells [dI 0,.str [],.nils,.str [],dI 0,.nils])).set i7 (.cells [dI x.op,.str A,.nils,.str C,dI x.n,.nils])) ?_ (fun _ hK=>?_))|fail));(refine goX1 trivial ?_))
  refine dwp_cut3 (x1:=.region _ _ _) (x2:=.seq _ _) (x3:=.seq _ _) [] ((V.set i6 (.cells [dI 0,.str [],.nils,.str [],dI 0,.nils])).set i7 (.cells [dI x.op,.str A,.nils,.str C,dI x.n,.nils])) ?_ (fun _ hK=>?_)
  ·refine gz ?_ o146 [6,7]
   refine AD i7 2 1 (ds:=[dI x.op,.str A,.nils,.str C,dI x.n,.nils]) (w7 ..) rfl (fun i1 bz=>?_)
   obtain⟨a1,a2⟩:=A4 bz
   obtain⟨a3,a4⟩:=A4 a2
   refine AD i7 5 6 (ds:=[dI x.op,.str A,.slice [] (.tag i1),.str C,dI x.n,.nils]) (w7 ..) rfl (fun i2 bx=>?_)
   obtain⟨b1,b2⟩:=A4 bx
   obtain⟨b3,b4⟩:=A4 b2
   obtain⟨b5,b6⟩:=A4 b4
   obtain⟨b7,b8⟩:=A4 b6
   generalize ax:Sig.set (Sig.set _ i2 _) i7 _=S1
   have bh:FcT i7 i1 i2 x.op x.n A C [] [] (V.set i6 (.cells [dI 0,.str [],.nils,.str [],dI 0,.nils])) S1:=by
    rw[<-ax]
    refine⟨by rw[w7];simp[cS],by rw[w8 _ _ a1,w8 _ _ (Ne.symm b3),w8 _ _ a1];simp,by rw[w8 _ _ b1];simp,fun j o hj=>?_⟩
    rw[w8 _ _ (A3 hj aG),w8 _ _ (A3 hj b6),w8 _ _ (A3 hj aG),w8 _ _ (A3 hj a2),w8 _ _ (A3 hj aG)];exact hj
   refine D6 [0,2,4,6,7,10,67,68,69,70,71,72,73,74,75,76,77,78,79,80,81,82,83,84,85,86,87] (fun (k:Nat) (l:List Str) (S2:Sig)=>k<=x.path.length/\l++(x.path.drop k).map (ixS b)=x.path.map (ixS b)/\FcT i7 i1 i2 x.op x.n A C l [] (V.set i6 (.cells [dI 0,.str [],.nils,.str [],dI 0,.nils])) S2) (fun k _ _=>[(9,dI k)]) (fun _ _ S2=>S2) (fun k _ _=>x.path.length-k) (0) ([]) (_) (by exact⟨by omega,rfl,bh⟩) (fun k l S2 hI=>?_)
   obtain⟨hk,hR,o7,o1,o2,bb⟩:=hI
   have hlen:=congrArg List.length hR
   simp at hlen
   by_cases aj:k<x.path.length
   ·rw[A0 aj,List.map_cons]at hR
    obtain⟨q,e1,hq,e2⟩:=BP (k1 _ (List.getElem_mem aj))
    have n71:i7≠i1:=Ac o7 o1 (by simp)
    have n72:i7≠i2:=Ac o7 o2 (by simp)
    have n12:i1≠i2:=Ne.symm b3
    have bB:Sub V S2:=fun j o hj=>bb j o ((Sub.refl _).set aD j o hj)
    have u7:(S2.out fun j=>j=i1) i7=some (.cells [dI x.op,.str A,.slice (cS l) (.tag i1),.str C,dI x.n,.slice (([]:List FFact).map AM) (.tag i2)]):=DG o7 n71
    have ag:Sub (S2.out fun j=>j=i1) S2:=Bv _ _
    have aJ:Sub (S2.out fun j=>j=i1) (S2.set i1 (.tail 1 (l.length+1))):=fun j o hj=>by
     obtain⟨h1,h2⟩:=C1 hj
     rw[w8 _ _ h2];exact h1
    refine gz ?_ (delO 10 o146) [6,7]
    refine Do (id:=10) [0,1,2,3,4,5,6,7,8,9,10,11,12,13,14,15] [14] (S2.out fun j=>j=i1) ag ?_
    refine gf (gi u7 (gi ai (gi o7 (gi o1 (gi e1 e2))))) ?_ o146 [6,7]
    rw[<-e2]
    exact⟨k+1,l++[ixS b x.path[k]],_,⟨by omega,by rw[List.append_assoc];exact hR,FcT.path (ks:=[]) ⟨o7,o1,o2,bb⟩ _ n12 aG a2⟩,td1,wkR⟩
   ·rw[A1 aj,List.map_nil,List.append_nil]at hR
    subst hR
    have n71:i7≠i1:=Ac o7 o1 (by simp)
    have n12:i1≠i2:=Ne.symm b3
    refine gz ?_ o146 [6,7]
    clear hlen hk aj bh ax
    refine D6 [0,2,4,6,7,87] (fun (k:Nat) (ks:List FFact) (S3:Sig)=>k<=x.kids.length/\ks++(x.kids.drop k).map (spF (lits3++a) b P)=x.kids.map (spF (lits3++a) b P)/\FcT i7 i1 i2 x.op x.n A C (x.path.map (ixS b)) ks (V.set i6 (.cells [dI 0,.str [],.nils,.str [],dI 0,.nils])) S3) (fun k _ _=>[(10,dI k)]) (fun _ _ S3=>S3) (fun k _ _=>x.kids.length-k) (0) ([]) (_) (by exact⟨by omega,rfl,o7,o1,o2,bb⟩) (fun k ks S3 hI=>?_)
    obtain⟨hk,hR,p7,p1',p2',ba⟩:=hI
    have hlen:=congrArg List.length hR
    simp at hlen
    have n72:i7≠i2:=Ac p7 p2' (by simp)
    have aZ:Sub V S3:=fun j o hj=>ba j o ((Sub.refl _).set aD j o hj)
    by_cases aj:k<x.kids.length
    ·rw[A0 aj,List.map_cons]at hR
     have bJ:=w5 k aj
     have u7:(S3.out fun j=>j=i2) i7=some (.cells [dI x.op,.str A,.slice (cS (x.path.map (ixS b))) (.tag i1),.str C,dI x.n,.slice (ks.map AM) (.tag i2)]):=DG p7 n72
     have ag:Sub (S3.out fun j=>j=i2) S3:=Bv _ _
     have aJ:Sub (S3.out fun j=>j=i2) (S3.set i2 (.tail 6 (ks.length+1))):=fun j o hj=>by
      obtain⟨h1,h2⟩:=C1 hj
      rw[w8 _ _ h2];exact h1
     refine gz ?_ (delO 14 o146) [6,7]
     refine Do (id:=14) [0,1,2,3,4,5,6,7,8,9,10,11,12] [9,11] (S3.out fun j=>j=i2) ag ?_
     repeat' first|refine gf (gi u7 (gi p7 p2')) ?_ [] [6,7]|refine moR (ih x.kids[k] S3 (by omega) (by omega) (Gg k4 _ (List.getElem_mem aj))) ?_|refine moP (ih x.kids[k] S3 (by omega) (by omega) (Gg k4 _ (List.getElem_mem aj))) ?_|refine gf (gi u7 (gi p7 p2')) ?_ o146 [6,7]|apply gy<;>intro hh
     exact⟨k+1,ks++[spF (lits3++a) b P x.kids[k]],_,⟨by omega,by rw[List.append_assoc];exact hR,FcT.kid ⟨p7,p1',p2',ba⟩ _ n12 aG b6⟩,td1,wkR⟩
    ·rw[A1 aj,List.map_nil,List.append_nil]at hR
     subst hR
     have o6:S3 i6=some (.cells [dI 0,.str [],.nils,.str [],dI 0,.nils]):=ba _ _ (w7 ..)
     have bA:∀y,Sub V (S3.set i6 y):=fun y j o hj=>by rw[w8 _ _ (A3 hj aD)];exact aZ j o hj
     refine gf p7 ?_ o146 [6,7]
     refine rtl 87 (.agg [dI x.op,.str A,sl (cS (x.path.map (ixS b))),.str C,dI x.n,sl ((x.kids.map (spF (lits3++a) b P)).map AM)]) ?_ (hw:=E3 (BL (A8 _) (BL (A8 _) (BL (AE _ _) (BL (A8 _) (BL (A8 _) (BL (Cj _ (by simp)) IA)))))))
     refine gf o6 ?_ o146 [6,7]
     have hb:=WJ (lits3++a) b P x
     rw[<-hA,<-hC]at hb
     refine finC (S':=V) ⟨rfl,rfl⟩ (hZ:=bA _) (hw:=?_)
     rw[hb]
     refine AS ?_
     simp[FFact.op,FFact.name,FFact.path,FFact.cls,FFact.n,FFact.kids]
  ·by_cases c2:x.op=2
   ·rw[if_pos c2]at hC
    rw[if_pos (.inl c2)]at hA
    obtain⟨q,e1,hq,e2⟩:=BP (k3 (.inl c2))
    rw[e2]at hA
    have i145:∀V:Sig,Ans 145 [cSp0 p a b g,dI x.cls] V True (.str (ixS (lits3++a) x.cls)):=fun V=>ah0 (Hn p a b g x.cls V (k2 c2) (by omega))
    refine gf (gi c2 e1) ?_ o146 [6,7]
    rw[<-hA,<-hC]
    exact dwp_wk (Ag (by first|(simp;done)|(simp_all;done)) (B3 (by rw[c2]))) hK
   ·rw[if_neg c2]at hC
    subst hC
    by_cases c3:x.op=3\/x.op=4
    ·rw[if_pos (by omega)]at hA
     obtain⟨q,e1,hq,e2⟩:=BP (k3 (by omega))
     rw[e2]at hA
     rcases c3 with c3|c3
     ·refine gf (gi c3 e1) ?_ o146 [6,7]
      rw[<-hA]
      exact dwp_wk (Ag (by first|(simp;done)|(simp_all;done)) (B3 (by rw[c3]))) hK
     ·refine gf (gi c3 e1) ?_ o146 [6,7]
      rw[<-hA]
      exact dwp_wk (Ag (by first|(simp;done)|(simp_all;done)) (B3 (by rw[c3]))) hK
    ·rw[if_neg (by omega)]at hA
     subst hA
     have c4:x.op≠3:=by omega
     have c5:x.op≠4:=by omega
     refine gf (gi c2 (gi c4 c5)) ?_ o146 [6,7]
     exact dwp_wk (Ag (by first|(simp;done)|(simp_all;done)) (Sub.refl _)) hK
end
theorem Nz(p:BProg)(a b g P:List Str)(hp:p.wt<=1073741824)(ha:a.length=p.classes.length)(bW:a.length<=1000000000)(hb:(b.length:Int)=p.slots)(bV:b.length<=1073741824)(hg:g.length=p.gens.length)(hP:P.length<=1000)(bD:∀t,t<P.length->refM (t+1) [] []=some (P.take (t+1))): ∀(k:Nat) (node:Int) (env:List Str) (o:Own) (t ib:Nat) (V:Sig),okE p k node env.length->env.length+k<=1000000000->
  (spE p (lits3++a) b g P k node env t).2<=P.length->V ib=some (.cells [dI t])->
  DCall prog 147 [cSp0 p a b g,dI node,.slice (cS env) o,.ptr ib 0] V fun x S'=>x=.ret (.agg (Ah (spE p (lits3++a) b g P k node env t).1))/\S'=V.set ib (.cells [dI (spE p (lits3++a) b g P k node env t).2]):=by
 obtain⟨p1,p2,p3,p4,p5,p6,p7⟩:=p.wt_le
 intro k
 induction k with
 |zero=>intro node env o t ib V h;exact h.elim
 | succ k ih =>
  intro node env o t ib V bc bN hT aQ
  rw[okE]at bc
  obtain⟨⟨h0,hq⟩,aK,aw⟩:=bc
  obtain⟨q,rfl⟩:∃q:Nat,node=(q:Int):=⟨node.toNat,by omega⟩
  have hq:q<p.nodes.length:=by omega
  have br:Ap p q=p.nodes[q]:=by unfold Ap;rw[show((q:Int)).toNat=q by omega,List.getElem?_eq_getElem hq];rfl
  rw[spE]at hT⊢
  rw[br]at hT aK aw⊢
  generalize hx:p.nodes[q]=x at*
  have bH:x.kids.length<=1073741824:=by
   have:=p7 q hq
   rw[hx]at this
   have bI:x.wt=1+x.kids.length:=rfl
   omega
  generalize hL:CA (spE p (lits3++a) b g P k) x.op (Ch (lits3++a) b g P x env t) env 0 x.kids (if x.op=9 then t+1 else t)=L at*
  have bk:(if x.op=9 then t+1 else t)<=L.2:=by rw[<-hL];exact CD (H0 p (lits3++a) b g P k) _ _ _
  have ai:cSp0 p a b g=.cptr [sl (p.classes.map Ae),dI p.slots,sl (cI p.gens),sl (p.methods.map Aq),sl (p.nodes.map Ai),dI p.main,sl (cS a),sl (cS b),sl (cS g)] 0:=rfl
  have bX:P.length<=1000:=hP
  have r3:x.op=3->InR x.n env.length:=fun h=>by simpa[Bk,h,InR] using aK
  have r47:x.op=4\/x.op=7->InR x.n b.length:=fun h=>by rcases h with h|h<;>simpa[Bk,h,InR,hb] using aK
  have r5:x.op=5->InR x.n g.length:=fun h=>by simpa[Bk,h,InR,hg] using aK
  have r68:x.op=6\/x.op=8->InR x.n (3+a.length):=fun h=>by
   have:3<=x.n/\x.n<3+p.classes.length:=by rcases h with h|h<;>simpa[Bk,h] using aK
   exact⟨by omega,by omega⟩
  have r9:x.op=9->t<P.length:=fun h=>by rw[if_pos h]at bk;omega
  refine en func147 ntmps147 ?_
  refine gz ?_ o147 [8,10]
  refine newV (fun i6 aD=>?_)
  have n6:ib≠i6:=A3 aQ aD
  refine gf (gi aQ (gi hx ai)) ?_ o147 [8,10]
  refine newV (fun i8 aF=>?_)
  have n68:i6≠i8:=fun e=>by rw[<-e,w7]at aF;cases aF
  have n8:ib≠i8:=A3 aQ (A4 aF).2
  generalize ax:V.set i6 (.cells [dI 0,dI 0,.str [],.nils])=S1
  have aC:S1 ib=some (.cells [dI t]):=by rw[<-ax,w8 _ _ n6];exact aQ
  have aa:∀(tx:Str) (m:Int),m=(if x.op=1 then x.n else 0)->tx=Ch (lits3++a) b g P x env t->¬x.op=9->Sub ((S1.set i8 (.cells [dI x.op,dI (if x.op=1 then x.n else 0),.str (Ch (lits3++a) b g P x env t),.nils])).set ib (.cells [dI (if x.op=9 then t+1 else t:Nat)])) (S1.set i8 (.cells [dI x.op,dI m,.str tx,.nils])):=fun tx m h1 h2 h3=>by
   rw[h1,h2,if_neg h3,Sig.set_self _ (by rw[w8 _ _ n8];exact aC)]
   exact Sub.refl _
  repeat ((fail_if_success (first|(refine dwp_cut1 (x1:=.seq _ (.block 0 _)) [] ((S1.set i8 (.cells [dI x.op,dI (if x.op=1 then x.n else 0),.str (Ch (lits3++a) b g P x env t),.nils])).set ib (.cells [dI (if x.op=9 then t+1 else t:Nat)])) ?_ (fun _ hK=>?_))|fail));(refine goX1 trivial ?_))
  refine dwp_cut1 (x1:=.seq _ (.block 0 _)) [] ((S1.set i8 (.cells [dI x.op,dI (if x.op=1 then x.n else 0),.str (Ch (lits3++a) b g P x env t),.nils])).set ib (.cells [dI (if x.op=9 then t+1 else t:Nat)])) ?_ (fun _ hK=>?_)
  ·generalize (if x.op=1 then x.n else 0)=num at*
   generalize bK:Ch (lits3++a) b g P x env t=txt at*
   generalize (if x.op=9 then t+1 else t)=t0 at*
   refine AD i8 3 4 (ds:=[dI x.op,dI num,.str txt,.nils]) (by rw[w8 _ _ (Ne.symm n8)];exact w7 ..) rfl fun it ak=>?_
   have ah:S1 it=none:=(A4 (A4 ak).2).2
   have nbt:ib≠it:=A3 aC ah
   have n8t:i8≠it:=fun e=>by have:=(A4 ak).2;rw[<-e,w7]at this;cases this
   generalize aN:Sig.set (Sig.set (Sig.set _ ib _) it _) i8 _=S2
   have q8:S2 i8=some (.cells [dI x.op,dI num,.str txt,.slice (([]:List FExp).map Ah) (.tag it)]):=by rw[<-aN];exact w7 ..
   have qt:S2 it=some (.tail 4 ([]:List FExp).length):=by rw[<-aN,w8 _ _ (Ne.symm n8t)];exact w7 ..
   have qS:Sub (V.set ib (.cells [dI t0])) S2:=by
    rw[<-aN,<-ax]
    refine Sub.set (Sub.set ?_ ?_) ?_
    ·refine Sub.both ((((Sub.refl _).set aD)).set (A4 aF).2)
    ·rw[w8 _ _ (Ne.symm nbt)];rw[<-ax]at ah;exact(A4 ah).2
    ·rw[w8 _ _ (Ne.symm n8)];exact(A4 aF).2
   have s8:V i8=none:=(A4 aF).2
   have st:V it=none:=by rw[<-ax]at ah;exact(A4 ah).2
   have aM:S1 i6=some (.cells [dI 0,dI 0,.str [],.nils]):=by rw[<-ax];exact w7 ..
   have n6t:i6≠it:=A3 aM ah
   have s6:V i6=none:=aD
   have q6:S2 i6=some (.cells [dI 0,dI 0,.str [],.nils]):=by rw[<-aN,w8 _ _ n68,w8 _ _ n6t,w8 _ _ (Ne.symm n6),w8 _ _ n68];exact aM
   clear aN aa ak
   refine gf q8 ?_ o147 [8,10]
   refine Qu [0,2,3,8,9,10,126] (fun (j:Nat) (out:List FExp) (t':Nat) (S3:Sig)=>j<=x.kids.length/\out.length=j/\out++(CA (spE p (lits3++a) b g P k) x.op txt env j (x.kids.drop j) t').1=L.1/\(CA (spE p (lits3++a) b g P k) x.op txt env j (x.kids.drop j) t').2=L.2/\S3 i8=some (.cells [dI x.op,dI num,.str txt,.slice (out.map Ah) (.tag it)])/\S3 it=some (.tail 4 out.length)/\S3 i6=some (.cells [dI 0,dI 0,.str [],.nils])/\Sub (V.set ib (.cells [dI t'])) S3) (fun j _ _ _=>[(12,dI j)]) (fun _ _ _ S3=>S3) (fun j _ _ _=>x.kids.length-j) (0) ([]) (t0) (S2) (by exact⟨by omega,rfl,by rw[<-hL];rfl,by rw[<-hL];rfl,q8,qt,q6,qS⟩) (fun j out t' S3 hI=>?_)
   obtain⟨hj,bQ,hR,aq,o8,ot,o6,oS⟩:=hI
   by_cases aV:j<x.kids.length
   ·rw[A0 aV,CA]at hR aq
    have aL:=aw j aV
    have bn:out.length+1=j+1:=by omega
    have ap:S3 ib=some (.cells [dI t']):=oS _ _ (w7 ..)
    have u8:(S3.out fun j=>j=ib\/j=it) i8=_:=DG o8 (by rintro(h|h);exact n8 h.symm;exact n8t h)
    have nt':it≠ib:=Ne.symm nbt
    have nt8:it≠i8:=Ne.symm n8t
    have n8':i8≠ib:=Ne.symm n8
    have aH:=hT
    rw[<-aq]at aH
    have aP:∀{c:DObj} (τ:Sig),Sub S3 τ->Sub (S3.out fun j=>j=ib\/j=it) (τ.set ib c):=fun τ hO j z hz=>by
     obtain⟨h1,h2⟩:=C1 hz
     rw[w8 _ _ fun e=>h2 (.inl e)];exact hO _ _ h1
    have aA:∀{c:DObj} (τ:Sig),Sub S3 τ->Sub (S3.out fun j=>j=ib\/j=it) ((τ.set ib c).set it (.tail 4 (out.length+1))):=fun τ hO j z hz=>by
     obtain⟨h1,h2⟩:=C1 hz
     rw[w8 _ _ fun e=>h2 (.inr e)];exact aP τ hO _ _ hz
    have ay:∀(e:FExp) (c:DObj) (τ:Sig),Sub S3 τ->(((τ.set ib c).set it (.tail 4 (out.length+1))).set i8 (.cells [dI x.op,dI num,.str txt,.slice ((out++[e]).map Ah) (.tag it)])) it=some (.tail 4 (out++[e]).length)/\(((τ.set ib c).set it (.tail 4 (out.length+1))).set i8 (.cells [dI x.op,dI num,.str txt,.slice ((out++[e]).map Ah) (.tag it)])) i6=some (.cells [dI 0,dI 0,.str [],.nils])/\Sub (V.set ib c) (((τ.set ib c).set it (.tail 4 (out.length+1))).set i8 (.cells [dI x.op,dI num,.str txt,.slice ((out++[e]).map Ah) (.tag it)])):=fun e c τ hO=>
     ⟨by rw[w8 _ _ nt8,w7,List.length_append];rfl,by rw[w8 _ _ n68,w8 _ _ n6t,w8 _ _ (Ne.symm n6)];exact hO _ _ o6,((Ms (oS.trans hO)).set (by rw[w8 _ _ nt'];exact st)).set (by rw[w8 _ _ n8'];exact s8)⟩
    by_cases c91:x.op=9/\j=1
    ·rw[if_pos c91]at hR aq aL aH
     obtain⟨c9,rfl⟩:=c91
     have bU:cS (env++[txt])=cS env++[[.str txt]]:=by simp[cS]
     refine gf (gi o8 c9) ?_ (delO 25 o147) [8,10]
     refine mixL (id:=25) [0,2,3,4,1,5] [1,5] ?_
     refine gf o8 ?_ o147 [8,10]
     refine Su (fun i4 aR=>?_)
     have nib4:ib≠i4:=A3 ap aR
     have nt4:it≠i4:=A3 ot aR
     have n84:i8≠i4:=A3 o8 aR
     refine gf o8 ?_ (delO 26 o147) [8,10]
     have aO:Sub S3 (S3.set i4 (.tail 1 (env.length+1))):=(Sub.refl _).set aR
     have aX:(S3.set i4 (.tail 1 (env.length+1))) ib=some (.cells [dI t']):=by rw[w8 _ _ nib4];exact ap
     have bl:(S3.set i4 (.tail 1 (env.length+1))) it=some (.tail 4 out.length):=by rw[w8 _ _ nt4];exact ot
     have bG:(S3.set i4 (.tail 1 (env.length+1))) i8=_:=(w8 _ _ n84).trans o8
     generalize S3.set i4 (.tail 1 (env.length+1))=S4 at*
     refine rtw 13 (.slice (cS (env++[txt])) .no) ?_ (hw:=Cj _ (by simp[cS]))
     clear c9
     refine Do (id:=26) [0,1,2,3,4,5,6,7,8,9,10,11,12,13] [10,12] (S3.out fun j=>j=ib\/j=it) ((Bv _ _).trans aO) ?_
     have ag:=(Bv S3 fun j=>j=ib\/j=it).trans aO
     refine gf u8 ?_ o147 [8,10]
     have bw:=ih (x.kids[1]) (env++[txt]) .no t' ib S4 (by simpa using aL) (by simp;omega) (Nat.le_trans (CD (H0 p (lits3++a) b g P k) _ _ _) aH) aX
     refine BF bw (fun d S5 hx=>?_) (fun d S5 hx=>by cases hx.1)
     obtain⟨aI,rfl⟩:=hx
     cases aI
     refine⟨aP _ aO,?_⟩
     simp only[putD]
     have av:=aA (c:=.cells [dI (spE p (lits3++a) b g P k x.kids[1] (env++[txt]) t').2]) _ aO
     refine gf (gi bl bG) ?_ o147 [8,10]
     have ae:=ay (spE p (lits3++a) b g P k x.kids[1] (env++[txt]) t').1 (.cells [dI (spE p (lits3++a) b g P k x.kids[1] (env++[txt]) t').2]) S4 aO
     exact⟨2,out++[(spE p (lits3++a) b g P k x.kids[1] (env++[txt]) t').1],(spE p (lits3++a) b g P k x.kids[1] (env++[txt]) t').2,((S4.set ib (.cells [dI (spE p (lits3++a) b g P k x.kids[1] (env++[txt]) t').2])).set it (.tail 4 (out.length+1))).set i8 (.cells [dI x.op,dI num,.str txt,.slice ((out++[(spE p (lits3++a) b g P k x.kids[1] (env++[txt]) t').1]).map Ah) (.tag it)]),⟨by omega,by simp;omega,by rw[List.append_assoc];exact hR,aq,w7 .., ae.1,ae.2.1,ae.2.2⟩,td1,wkR⟩
    ·rw[if_neg c91]at hR aq aL aH
     by_cases c9:x.op=9
     ·have c1:j≠1:=fun h=>c91 ⟨c9,h⟩
      refine gf (gi o8 c9) ?_ (delO 26 o147) [8,10]
      clear c9 c1
      refine Do (id:=26) [0,1,2,3,4,5,6,7,8,9,10,11,12,13] [10,12] (S3.out fun j=>j=ib\/j=it) (Bv _ _) ?_
      refine gf u8 ?_ o147 [8,10]
      refine BF (ih (x.kids[j]) env o t' ib S3 aL (by omega) (Nat.le_trans (CD (H0 p (lits3++a) b g P k) _ _ _) aH) ap) (fun d S5 hx=>?_) (fun d S5 hx=>by cases hx.1)
      obtain⟨aI,rfl⟩:=hx
      cases aI
      refine⟨aP _ (Sub.refl _),?_⟩
      simp only[putD]
      have av:=aA (c:=.cells [dI (spE p (lits3++a) b g P k x.kids[j] env t').2]) _ (Sub.refl S3)
      refine gf (gi ot o8) ?_ o147 [8,10]
      have ae:=ay (spE p (lits3++a) b g P k x.kids[j] env t').1 (.cells [dI (spE p (lits3++a) b g P k x.kids[j] env t').2]) S3 (Sub.refl _)
      exact⟨j+1,out++[(spE p (lits3++a) b g P k x.kids[j] env t').1],(spE p (lits3++a) b g P k x.kids[j] env t').2,((S3.set ib (.cells [dI (spE p (lits3++a) b g P k x.kids[j] env t').2])).set it (.tail 4 (out.length+1))).set i8 (.cells [dI x.op,dI num,.str txt,.slice ((out++[(spE p (lits3++a) b g P k x.kids[j] env t').1]).map Ah) (.tag it)]),⟨by omega,by simp;omega,by rw[List.append_assoc];exact hR,aq,w7 .., ae.1,ae.2.1,ae.2.2⟩,td1,wkR⟩
     ·refine gf o8 ?_ (delO 26 o147) [8,10]
      refine Do (id:=26) [0,1,2,3,4,5,6,7,8,9,10,11,12,13] [10,12] (S3.out fun j=>j=ib\/j=it) (Bv _ _) ?_
      refine gf u8 ?_ o147 [8,10]
      refine BF (ih (x.kids[j]) env o t' ib S3 aL (by omega) (Nat.le_trans (CD (H0 p (lits3++a) b g P k) _ _ _) aH) ap) (fun d S5 hx=>?_) (fun d S5 hx=>by cases hx.1)
      obtain⟨aI,rfl⟩:=hx
      cases aI
      refine⟨aP _ (Sub.refl _),?_⟩
      simp only[putD]
      have av:=aA (c:=.cells [dI (spE p (lits3++a) b g P k x.kids[j] env t').2]) _ (Sub.refl S3)
      refine gf (gi ot o8) ?_ o147 [8,10]
      have ae:=ay (spE p (lits3++a) b g P k x.kids[j] env t').1 (.cells [dI (spE p (lits3++a) b g P k x.kids[j] env t').2]) S3 (Sub.refl _)
      exact⟨j+1,out++[(spE p (lits3++a) b g P k x.kids[j] env t').1],(spE p (lits3++a) b g P k x.kids[j] env t').2,((S3.set ib (.cells [dI (spE p (lits3++a) b g P k x.kids[j] env t').2])).set it (.tail 4 (out.length+1))).set i8 (.cells [dI x.op,dI num,.str txt,.slice ((out++[(spE p (lits3++a) b g P k x.kids[j] env t').1]).map Ah) (.tag it)]),⟨by omega,by simp;omega,by rw[List.append_assoc];exact hR,aq,w7 .., ae.1,ae.2.1,ae.2.2⟩,td1,wkR⟩
   ·have bT:j=x.kids.length:=by omega
    rw[A1 aV,CA]at hR aq
    rw[List.append_nil]at hR
    rw[<-hR,<-aq]
    refine dwp_wk (CV (az:=[dI x.op,dI num,.str txt]) (bs:=[]) (d':=sl (out.map Ah)) o8 (AE _ _)) ?_
    refine gf o6 ?_ o147 [8,10]
    exact finC (S':=V.set ib (.cells [dI t'])) ⟨rfl,rfl⟩ (hw:=by refine AS ?_;simp[Cz,FExp.op,FExp.n,FExp.text,FExp.kids]) (hZ:=(oS.set (by rw[w8 _ _ (Ne.symm n8)];exact s8)).set (by rw[w8 _ _ (Ne.symm n6)];exact s6))
  ·repeat' first|refine gz ?_ o147 [8,10]|apply gy<;>intro hh
   ·have c:x.op=1:=by assumption
    exact dwp_wk (Ag (by first|(simp;done)|(simp_all;done)) (aa _ _ (by simp[c]) (by simp[Ch,c]) (by omega))) hK
   ·have c:x.op=3:=by assumption
    obtain⟨m,hm,aT,am⟩:=BP (r3 c)
    refine gf hm ?_ o147 [8,10]
    exact dwp_wk (Ag (by first|(simp;done)|(simp_all;done)) (aa _ _ (by simp[c]) (by simp[Ch,c,am]) (by omega))) hK
   ·have c:x.op=4:=by assumption
    obtain⟨m,hm,aT,am⟩:=BP (r47 (.inl c))
    refine gf (gi hm ai) ?_ o147 [8,10]
    exact dwp_wk (Ag (by first|(simp;done)|(simp_all;done)) (aa _ _ (by simp[c]) (by simp[Ch,c,am]) (by omega))) hK
   ·have c:x.op=7:=by assumption
    obtain⟨m,hm,aT,am⟩:=BP (r47 (.inr c))
    refine gf (gi hm ai) ?_ o147 [8,10]
    exact dwp_wk (Ag (by first|(simp;done)|(simp_all;done)) (aa _ _ (by simp[c]) (by simp[Ch,c,am]) (by omega))) hK
   ·have c:x.op=5:=by assumption
    obtain⟨m,hm,aT,am⟩:=BP (r5 c)
    refine gf (gi hm ai) ?_ o147 [8,10]
    exact dwp_wk (Ag (by first|(simp;done)|(simp_all;done)) (aa _ _ (by simp[c]) (by simp[Ch,c,am]) (by omega))) hK
   ·have c:x.op=6:=by assumption
    have i145:∀V:Sig,Ans 145 [cSp0 p a b g,dI x.n] V True (.str (ixS (lits3++a) x.n)):=fun V=>ah0 (Hn p a b g x.n V (r68 (.inl c)) (by omega))
    refine gz ?_ o147 [8,10]
    exact dwp_wk (Ag (by first|(simp;done)|(simp_all;done)) (aa _ _ (by simp[c]) (by simp[Ch,c]) (by omega))) hK
   ·have c:x.op=8:=by assumption
    have i145:∀V:Sig,Ans 145 [cSp0 p a b g,dI x.n] V True (.str (ixS (lits3++a) x.n)):=fun V=>ah0 (Hn p a b g x.n V (r68 (.inr c)) (by omega))
    refine gz ?_ o147 [8,10]
    exact dwp_wk (Ag (by first|(simp;done)|(simp_all;done)) (aa _ _ (by simp[c]) (by simp[Ch,c]) (by omega))) hK
   ·have c:x.op=9:=by assumption
    have ht:=r9 c
    have am:ixS P t=P[t]:=by unfold ixS;rw[show((t:Int)).toNat=t by omega,List.getElem?_eq_getElem ht];rfl
    obtain⟨PT,aS⟩:∃PT,PT=P.take (t+1):=⟨_,rfl⟩
    have i73:∀V:Sig,Ans 73 [.nils,dI ((t:Int)+1)] V True (sl (cS PT)):=fun V=>ah0 (DCall.wk (PB (t+1) [] PT .no V (by simp;omega) (by rw[aS];exact bD t ht)) (BL (Al _ (.inl rfl)) (BL (AS (by simp)) IA)))
    have bM:PT.length=t+1:=by rw[aS,List.length_take];omega
    have bL:t<PT.length:=by omega
    have bj:PT[t]=P[t]:=by simp only[aS];rw[List.getElem_take]
    clear aS
    refine gf aC ?_ o147 [8,10]
    refine dwp_wk (Ag (by simp) (B3 ?_)) hK
    rw[bj]
    simp[Ch,c,am]
   ·exact dwp_wk (Ag (by first|(simp;done)|(simp_all;done)) (aa _ _ (by simp[*]) (by simp[Ch, *]) (by assumption))) hK
end Go.DL
