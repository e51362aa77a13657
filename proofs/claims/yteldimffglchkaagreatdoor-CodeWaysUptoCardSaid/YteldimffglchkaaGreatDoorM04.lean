/- A part of the proof. -/
import Derived.Test.YteldimffglchkaaGreatDoorM03
import Derived.Laws.Tables
set_option linter.all false
namespace Go.DL
open Go
def esOf:D->Option (List (List D))
 |.slice es _=>some es
 |.nils=>some []
 |_=>none
theorem BT{g:G}{d:D}{v:Value}{es:List (List D)}(h:esOf d=some es)(hr:Rep g d v): ∃a cap,v=.slice a es.length cap/\es.length<=cap/\(es=[] \/ ∃sz b o,a=some ⟨b,o,none⟩/\RepE g b sz o es):=by
 cases d<;>simp only[esOf]at h<;>try (cases h;done)
 ·cases h;exact⟨none,0,hr,by simp,.inl rfl⟩
 ·cases h
  obtain⟨a,cap,h1,h2,h3,_⟩:=hr
  exact⟨a,cap,h1,h2,h3⟩
section
variable {P:Program}{T T' ty e e':TypeId}{i:TypeInfo}{z:Value}(ht:P.underlying T=some (.slice e))(aH:P.underlying T'=some (.slice e'))(hi:P.info? e=some i)
include ht aH hi
theorem Bb{w w2:World}{base xa:Option Addr}{n cap m xc:Nat}{news:List Value}(a8:(Builtin.firstCells i.size m (.slice xa m xc)).run P w=.ok news.toArray w)(aa:n+m<=cap)
  (aL:∀a,base=some a->(storeCells (a.add (n*i.size)) news).run P w=.ok () w2) (bm:base=none->w2=w) :
  (Builtin.append_ #[T,T'] ty #[.slice base n cap,.slice xa m xc]).run P w=.ok (.slice base (n+m) cap) w2:=by
 cases base with
 |none=>simp[Builtin.append_,run_underlying ht,run_underlying aH,sizeOf,typeInfo,hi,Builtin.lenOf,aa,a8,bm rfl]
 |some a=>simp[Builtin.append_,run_underlying ht,run_underlying aH,sizeOf,typeInfo,hi,Builtin.lenOf,aa,a8,aL a rfl]
theorem Dg(hz:i.zero=some z){w:World}{base xa:Option Addr}{n cap m xc:Nat}{olds news:List Value}
  (bu:(Builtin.firstCells i.size n (.slice base n cap)).run P w.drew=.ok olds.toArray w.drew) (bw:(Builtin.firstCells i.size m (.slice xa m xc)).run P w.drew=.ok news.toArray w.drew)
  (hg:cap<n+m) (bD:n+m<=9223372036854775807) (aR:(n+m)*i.bytes<=140737488355328) :
  ∃c,n+m<=c/\(Builtin.append_ #[T,T'] ty #[.slice base n cap,.slice xa m xc]).run P w =
   .ok (.slice (some ⟨w.heap.size,0,none⟩) (n+m) c) { w.drew with heap:=w.heap.push (.cells (olds++news++(Builtin.zeroCells z.cells (c-(n+m))).toList).toArray e (0,0)) }:=by
 refine⟨grownCap w (n+m) cap e,grownCap_ge w (n+m) cap e,?_⟩
 have hn:¬(n+m<=cap):=by omega
 have aU:¬(9223372036854775807<((n:Int)+(m:Int))):=by omega
 have hf:=growslice_fits hg aR
 have aV:¬(281474976710656<Builtin.nextslicecap (n+m) cap*i.bytes):=by omega
 simp[Builtin.append_,run_underlying ht,run_underlying aH,sizeOf,typeInfo,zeroValue,hi,hz,Builtin.lenOf,hn,aU,aV,Question.forced,bu,bw,newRow,grownCap]
 have e':∀Z:Array Value,olds.toArray++(news.toArray++Z)=(olds++(news++Z.toList)).toArray:=fun Z=>by apply Array.ext';simp
 rw[e']
 rfl
end
theorem Al{P:Program}{w:World}{size m c:Nat}{a:Option Addr}{vs:List Value}(hl:vs.length=m*size)(h:(m=0) \/ ∃b o,a=some ⟨b,o,none⟩ /\ ∀j v,vs[j]? = some v->w.cell? ⟨b,o+j,none⟩=some v):
  (Builtin.firstCells size m (.slice a m c)).run P w=.ok vs.toArray w:=by
 rcases h with rfl|⟨b,o,rfl,h⟩
 ·have:vs=[]:=by simpa using hl
  subst this
  cases a with
  |none=>exact run_firstCells_none ..
  |some a=>exact run_firstCells_some w size 0 a 0 c [] (by simp) (fun j v h=>by simp at h)
 ·exact run_firstCells_some w size m ⟨b,o,none⟩ m c vs hl (fun j v hj=>by rw[Bu];exact h j v hj)
theorem BL{P:Program}{g:G}{O:Sig}{w:World}{es:List (List D)}{a:Option Addr}{sz:Nat}(hs:Sim P g O w)(hlen:∀c∈es,c.length=sz)(h:es=[] \/ ∃sz b o,a=some ⟨b,o,none⟩/\RepE g b sz o es):
  ∃vs,RepL g es.flatten vs/\vs.length=es.length*sz/\(es.length=0 \/ ∃b o,a=some ⟨b,o,none⟩ /\ ∀j v,vs[j]? = some v->w.cell? ⟨b,o+j,none⟩=some v):=by
 rcases h with rfl|⟨sz',b,o,ha,hr⟩
 ·exact⟨[],rfl,by simp,.inl rfl⟩
 ·by_cases hne:es=[]
  ·subst hne;exact⟨[],rfl,by simp,.inl rfl⟩
  ·obtain rfl:=hr.size hne hlen
   obtain⟨vs,h1,h2,h3⟩:=hr.values
   exact⟨vs,h1,h2,.inr ⟨b,o,ha,fun j v hj=>hs.imm _ _ _ (h3 j v hj)⟩⟩
theorem F2{l:List (List D)}(h:∀c∈l,BC c=true):BC l.flatten=true:=by
 unfold BC at h⊢
 simp only[List.all_eq_true,List.mem_flatten,forall_exists_index,and_imp]at h⊢
 intro d c hc hd
 exact h c hc d hd
section
variable {P:Program}{ro:Ro}{n:Nat}{ops:Array Oper}{Q:DX->St->Prop}{rest:List Oper}{tab:Nat->Ty}{γ:List (Nat×D)}{O:Sig}{df:List DDf}
variable (ht:B2 P tab)
include ht
theorem Bd{T T' e e':Nat}(hk:(tab T).k=.slice e)(ae:(tab T').k=.slice e')(he:A1 (tab e).k=false):
  ∃i z,P.underlying T=some (.slice e)/\P.underlying T'=some (.slice e')/\P.info? e=some i/\i.zero=some z/\i.size=(tab e).size/\i.bytes=(tab e).bytes/\z.cells.size=(tab e).size:=by
 obtain⟨inf,desc,z,h1,h2,h3,h4,h5,h6,h7,h8,h9,_⟩:=BJ (ht e) (Ae he)
 refine⟨inf,z,AB ht hk,AB ht ae,h1,h7,h4,h5,?_⟩
 rw[<-h8,h9];simp
theorem FQ{g:G}{w:World}{T T' ty e e' i:Nat}{es new:List (List D)}{base xa:Option Addr}{cap xc:Nat}(hs:Sim P g O w)(hk:(tab T).k=.slice e)(ae:(tab T').k=.slice e')(he:A1 (tab e).k=false)
  (hlen:∀c∈es,c.length=(tab e).size) (hlen':∀c∈new,c.length=(tab e).size)
  (h1:es=[] \/ ∃sz b o,base=some ⟨b,o,none⟩/\RepE g b sz o es) (h2:new=[] \/ ∃sz b o,xa=some ⟨b,o,none⟩/\RepE g b sz o new) (aS:cap<es.length+new.length)
  (hb:(es.length+new.length)*(tab e).bytes<=140737488355328) (hm:es.length+new.length<=9223372036854775807) (hg:Grows g O i (es.length+new.length)) :
  ∃g' w' v,(Builtin.append_ #[T,T'] ty #[.slice base es.length cap,.slice xa new.length xc]).run P w=.ok v w'/\g.le g'/\Sim P g' (O.set i (.tail (tab e).size (es.length+new.length))) w'/\Rep g' (.slice (es++new) (.tag i)) v:=by
 obtain⟨inf,z,t1,t2,t3,t4,t5,t6,t7⟩:=Bd ht hk ae he
 obtain⟨us,u1,u2,u3⟩:=BL (w:=w.drew) (O:=O) ⟨hs.imm,hs.keep,fun i o h=>by have:=hs.obj i o h;cases o<;>exact this,hs.inj,hs.free,hs.htop,hs.hdom,hs.fin,hs.io,hs.tab⟩ hlen h1
 obtain⟨vs,v1,v2,v3⟩:=BL (w:=w.drew) (O:=O) ⟨hs.imm,hs.keep,fun i o h=>by have:=hs.obj i o h;cases o<;>exact this,hs.inj,hs.free,hs.htop,hs.hdom,hs.fin,hs.io,hs.tab⟩ hlen' h2
 obtain⟨c,hc,au⟩:=Dg (ty:=ty) t1 t2 t3 t4 (w:=w) (base:=base) (xa:=xa) (n:=es.length) (cap:=cap) (m:=new.length) (xc:=xc) (olds:=us) (news:=vs)
  (Al (by rw[t5];exact u2) u3) (Al (by rw[t5];exact v2) v3) aS hm (by rw[t6];exact hb)
 have h0:∀j,0<=j->g.imm w.heap.size j=none:=by
  intro j _
  cases hh:g.imm w.heap.size j with
  |none=>rfl
  |some x=>have:=Lc (hs.imm _ _ _ hh);omega
 have aB:g.keep w.heap.size=none:=by
  cases hh:g.keep w.heap.size with
  |none=>rfl
  |some x=>have:=(Array.getElem?_eq_some_iff.1 (hs.keep _ _ hh)).1;omega
 have aA:(us++vs).length=(es.length+new.length)*(tab e).size:=by simp[u2,v2,Nat.add_mul]
 have aj:=G.put_le (b:=w.heap.size) (start:=0) (vs:=us++vs) (v:=.slice (some ⟨w.heap.size,0,none⟩) (es.length+new.length) c) hs hg h0
 refine⟨_,_,_,au,aj,?_,?_⟩
 ·refine Sim.put (sz:=(tab e).size) (o:=0) (cap:=c) (cs:=(us++vs++(Builtin.zeroCells z.cells (c-(es.length+new.length))).toList).toArray) (ty:=e) hs hg h0 ?_ ?_ ?_ ?_ ?_ ?_ aB ?_ rfl hc ?_
  ·intro k x hx _;exact heap_push hx
  ·simp
  ·intro o x hx;rw[h0 o (by omega)]at hx;cases hx
  ·intro j x hx
   have:j<(us++vs).length:=(List.getElem?_eq_some_iff.1 hx).1
   simp only[Nat.zero_add,List.getElem?_toArray]
   rw[List.getElem?_append_left this];exact hx
  ·omega
  ·simp only[List.size_toArray,List.length_append,Array.length_toList,size_zeroCells,t7,Nat.zero_add]
   rw[<-List.length_append,aA,<-Nat.add_mul]
   exact Nat.mul_le_mul_right _ (by omega)
  ·intro j hj;have:=hs.blk_lt hj;omega
  ·rfl
 ·refine⟨some ⟨w.heap.size,0,none⟩,c,by simp,by simpa using hc,.inr ⟨(tab e).size,w.heap.size,0,rfl,?_⟩,?_⟩
  ·refine Ic (vs:=us++vs) ?_ ?_ ?_
   ·intro c bA
    rcases List.mem_append.1 bA with h|h
    ·exact hlen c h
    ·exact hlen' c h
   ·rw[List.flatten_append];exact RepL.mono aj _ (u1.append v1)
   ·intro j x hx
    have:j<(us++vs).length:=(List.getElem?_eq_some_iff.1 hx).1
    simp only[G.put,Nat.zero_add,Nat.zero_le,true_and,Nat.sub_zero]
    rw[if_pos this];exact hx
  ·simp only[List.length_append,G.put,and_self,if_true]
omit ht in
theorem Aq{a:Act}{s x:Operand}{T T' ty:Nat}{dst:Option Tmp}{pos:String}{after:Array Edge}{guard:Option (Nat×Bool)}{w w':World}{v:Value}
  (h:(Builtin.append_ #[T,T'] ty #[a.eval s,a.eval x]).run P w=.ok v w') :
  (execOp a.eval ⟨dst,(cA s x T T'),ty,pos,after,guard⟩).run P w=.ok (.value v) w':=by
 simp[execOp,resolve,invoke,builtin,h]
theorem Jb {T T' ty e e' id:Nat} {s x:Operand} {dst:Option Tmp} {pos:String} {after:Array Edge} {guard:Option (Nat × Bool)} {es new:List (List D)}
  (hk:(tab T).k=.slice e) (ae:(tab T').k=.slice e') (he:A1 (tab e).k=false) (h1:ev γ s=.slice es (.tag id)) (hU:O id=some (.tail (tab e).size es.length)) (h2:esOf (ev γ x)=some new)
  (hlen:∀c∈es,c.length=(tab e).size) (hlen':∀c∈new,c.length=(tab e).size) (aQ:∀c∈new,BC c=true)
  (hb:(es.length+new.length)*(tab e).bytes<=140737488355328) (hm:es.length+new.length<=9223372036854775807) :
  ∀g w (a:Act),Sim P g O w->RepT g γ n a.tmps->∃g' w' v,((execOp a.eval ⟨dst,(cA s x T T'),ty,pos,after,guard⟩).run P w=.ok (.value v) w' \/
   ((execOp a.eval ⟨dst,(cA s x T T'),ty,pos,after,guard⟩).run P w=.ok .skip w'/\v=undef))/\g.le g'/\Sim P g' (O.set id (.tail (tab e).size (es.length+new.length))) w'/\Rep g' (.slice (es++new) (.tag id)) v:=by
 intro g w a hs hT
 have ai:=Ai hT s
 have bd:=Ai hT x
 rw[h1]at ai
 obtain⟨base,cap,r1,r2,r3,r4⟩:=ai
 obtain⟨xa,xc,q1,q2,q3⟩:=BT h2 bd
 simp only at r4
 by_cases ah:new=[]
 ·subst ah
  refine⟨g,w,a.eval s,.inl (Aq ?_),.refl g,?_,?_⟩
  ·obtain⟨i,z,t1,t2,t3,t4,t5,t6,t7⟩:=Bd ht hk ae he
   rw[r1,q1]
   have:=Bb (ty:=ty) t1 t2 t3 (w:=w) (w2:=w) (base:=base) (xa:=xa) (n:=es.length) (cap:=cap) (m:=0) (xc:=xc) (news:=[]) (Al (by simp) (.inl rfl)) (by omega) (fun b _=>by simp[storeCells,Sem.run]) (fun _=>rfl)
   simpa using this
  ·have e:O.set id (.tail (tab e).size (es.length+([]:List (List D)).length))=O:=by
    funext j
    by_cases hj:j=id
    ·subst hj;rw[w6,hU];rfl
    ·rw[w7 _ _ hj]
   rw[e];exact hs
  ·rw[List.append_nil];exact⟨base,cap,r1,r2,r3,r4⟩
 ·have aw:0 < new.length:=List.length_pos_iff.2 ah
  have ax:Grows g O id (es.length+new.length):=.inr ⟨_,_,hU,by omega⟩
  by_cases aa:es.length+new.length<=cap
  ·obtain⟨i,z,t1,t2,t3,t4,t5,t6,t7⟩:=Bd ht hk ae he
   rcases hs.obj _ _ hU with⟨o1,o2⟩|⟨b,o,cap',vs,ty',o1,o2,o3,o4,o5⟩
   ·rw[r4,r1]at o1
    simp only[Option.some.injEq,Value.slice.injEq]at o1
    omega
   ·rw [r4,r1] at o1
    simp only[Option.some.injEq,Value.slice.injEq,true_and]at o1
    obtain⟨rfl,rfl⟩:=o1
    obtain⟨us,v1,v2,v3⟩:=BL hs hlen' q3
    have be:us.length=new.length*(tab e).size:=v2
    have aL:o+es.length*(tab e).size+us.length=o+(es.length+new.length)*(tab e).size:=by rw[be,Nat.add_mul];omega
    have bb:(es.length+new.length)*(tab e).size<=cap*(tab e).size:=Nat.mul_le_mul_right _ aa
    have bk:=Bw (P:=P) us 0 w vs o3 (CJ v1 (F2 aQ)) (o:=o+es.length*(tab e).size) (by omega)
    have ag:blk g O id=some b:=by simp[blk,hU,r4,r1]
    have h0:∀j,o+es.length*(tab e).size<=j->g.imm b j=none:=o5
    have aj:=G.put_le (b:=b) (start:=o+es.length*(tab e).size) (vs:=us) (v:=.slice (some ⟨b,o,none⟩) (es.length+new.length) cap) hs ax h0
    have au:=Bb (ty:=ty) t1 t2 t3 (w:=w) (base:=some ⟨b,o,none⟩) (xa:=xa) (n:=es.length) (cap:=cap) (m:=new.length) (xc:=xc) (news:=us) (w2:=if us=[] then w else setB w b (.cells (Ba vs (o+es.length*(tab e).size) us) ty' (0,0)))
     (Al (by rw[t5];exact v2) v3) aa (fun a ha=>by cases ha;rw[Bu,t5];simpa using bk) (fun h=>by cases h)
    have aC:(if us=[] then w else setB w b (.cells (Ba vs (o+es.length*(tab e).size) us) ty' (0,0))).heap[b]? = some (.cells (Ba vs (o+es.length*(tab e).size) us) ty' (0,0)):=by
     by_cases hu:us=[]
     ·rw[if_pos hu,hu];exact o3
     ·rw[if_neg hu,Ed o3]
    have aO:∀c x,w.heap[c]? = some x->c≠b->(if us=[] then w else setB w b (.cells (Ba vs (o+es.length*(tab e).size) us) ty' (0,0))).heap[c]? = some x:=by
     intro c x hx hc
     by_cases hu:us=[]
     ·rw[if_pos hu];exact hx
     ·rw[if_neg hu,Ec hc];exact hx
    have aW:=CB us vs (o+es.length*(tab e).size)
    refine⟨_,_,_,.inl (Aq (by rw[r1,q1];exact au)),aj,?_,?_⟩
    ·refine Sim.put (sz:=(tab e).size) (o:=o) (cap:=cap) hs ax h0 aO aC ?_ ?_ aL (by rw[Cd];exact o4) (hs.free id b ag).1 (fun j hj=>hs.inj j id b hj ag) rfl aa ?_
     ·intro j x hx
      rw[aW j (by omega)]
      have br:j<o+es.length*(tab e).size:=by
       rcases Nat.lt_or_ge j (o+es.length*(tab e).size)with h|h
       ·exact h
       ·rw[h0 j h]at hx;cases hx
      rw[if_neg (by omega)]
      have:=hs.imm b j x hx
      simpa[World.cell?, o3] using this
     ·intro j x hx
      have hj:j<us.length:=(List.getElem?_eq_some_iff.1 hx).1
      rw[aW _ (by omega),if_pos (by omega)]
      rwa [show o+es.length*(tab e).size+j-(o+es.length*(tab e).size)=j by omega]
     ·split<;>rfl
    ·refine⟨some ⟨b,o,none⟩,cap,by simp,by simpa using aa,.inr ⟨(tab e).size,b,o,rfl,?_⟩,?_⟩
     ·refine RepE.append ?_ ?_
      ·rcases r3 with rfl|⟨sz',b',o',e1,e2⟩
       ·trivial
       ·cases e1
        by_cases hne:es=[]
        ·subst hne;trivial
        ·obtain rfl:=e2.size hne hlen
         exact RepE.mono aj _ e2
      ·refine Ic (vs:=us) hlen' (RepL.mono aj _ v1) fun j x hx=>?_
       have hj:j<us.length:=(List.getElem?_eq_some_iff.1 hx).1
       simp only[G.put,true_and]
       rw[if_pos (by omega)]
       rwa [show o+es.length*(tab e).size+j-(o+es.length*(tab e).size)=j by omega]
     ·simp only[List.length_append,G.put,and_self,if_true]
  ·obtain⟨g',w',v,s1,s2,s3,s4⟩:=FQ (ty:=ty) (i:=id) (base:=base) (xa:=xa) (cap:=cap) (xc:=xc) ht hs hk ae he hlen hlen' r3 q3 (by omega) hb hm ax
   exact⟨g',w',v,.inl (Aq (by rw[r1,q1];exact s1)),s2,s3,s4⟩
theorem NA{t T T' ty e e' id:Nat}{s x:Operand}{pos:String}{after:Array Edge}{guard:Option (Nat×Bool)}{es new:List (List D)}
  (hw:Ax ops γ ⟨some t,(cA s x T T'),ty,pos,after,guard⟩=some true) (aK:t<n)
  (hk:(tab T).k=.slice e) (ae:(tab T').k=.slice e') (he:A1 (tab e).k=false) (h1:ev γ s=.slice es (.tag id)) (hU:O id=some (.tail (tab e).size es.length)) (h2:esOf (ev γ x)=some new)
  (hlen:∀c∈es,c.length=(tab e).size) (hlen':∀c∈new,c.length=(tab e).size) (aQ:∀c∈new,BC c=true)
  (hb:(es.length+new.length)*(tab e).bytes<=140737488355328) (hm:es.length+new.length<=9223372036854775807)
  (h:DOps P ro n ops Q rest ⟨(t,.slice (es++new) (.tag id))::γ,O.set id (.tail (tab e).size (es.length+new.length)),df⟩) :
  DOps P ro n ops Q (⟨some t,(cA s x T T'),ty,pos,after,guard⟩::rest) ⟨γ,O,df⟩:=by
 refine Ep (d:=.slice (es++new) (.tag id)) (U':=O.set id (.tail (tab e).size (es.length+new.length))) hw (fun c e=>by cases e) (AZ rfl rfl) (Jb ht hk ae he h1 hU h2 hlen hlen' aQ hb hm) (by simp[Ap,aK]) h
end
def Sub(U' O:Sig):Prop:= ∀i o,U' i=some o->O i=some o
theorem Sub.refl(O:Sig):Sub O O:=fun _ _ h=>h
theorem Sub.trans{a b c:Sig}(h:Sub a b)(k:Sub b c):Sub a c:=fun i o x=>k i o (h i o x)
theorem Sub.set{a b:Sig}{i:Nat}{o:DObj}(h:Sub a b)(hi:a i=none):Sub a (b.set i o):=fun j x hx=>by
 by_cases hj:j=i
 ·subst hj;rw[hi]at hx;cases hx
 ·rw[w7 _ _ hj];exact h j x hx
theorem Sub.both{a b:Sig}{i:Nat}{o:DObj}(h:Sub a b):Sub (a.set i o) (b.set i o):=fun j x hx=>by
 by_cases hj:j=i
 ·subst hj;rw[w6]at hx⊢; exact hx
 ·rw[w7 _ _ hj]at hx⊢; exact h j x hx
theorem Sub.none{a b:Sig}{i:Nat}(h:Sub a b)(hb:b i=none):a i=none:=by
 cases ha:a i with
 |none=>rfl
 |some o=>rw[h i o ha]at hb;cases hb
theorem Sig.set_comm(O:Sig){i j:Nat}(o o':DObj)(h:i≠j):(O.set i o).set j o'=(O.set j o').set i o:=by
 funext k
 by_cases h1:k=i
 ·subst h1;simp[Sig.set,h]
 ·by_cases h2:k=j
  ·subst h2;simp[Sig.set,Ne.symm h]
  ·simp[Sig.set,h1,h2]
theorem NG{g:G}{O U':Sig}(h:Sub U' O){i b:Nat}(hb:blk g U' i=some b):blk g O i=some b /\ ∃o,U' i=some o/\O i=some o:=by
 cases hi:U' i with
 |none=>simp[blk,hi]at hb
 |some o=>
  have:=h i o hi
  refine⟨?_,o,rfl,this⟩
  unfold blk at hb⊢
  rw[hi]at hb;rw[this];exact hb
theorem Sim.sub{P:Program}{g:G}{O U':Sig}{w:World}(hs:Sim P g O w)(h:Sub U' O):Sim P g U' w where
 imm:=hs.imm
 keep:=hs.keep
 obj:=fun i o x=>hs.obj i o (h i o x)
 inj:=fun i j b h1 h2=>hs.inj i j b (NG h h1).1 (NG h h2).1
 free:=fun i b hb=>by
  obtain⟨h1,o,h2,h3⟩:=NG h hb
  obtain⟨f1,f2⟩:=hs.free i b h1
  exact⟨f1,fun hh=>f2 fun x hx=>by rw[h3]at hx;cases hx;exact hh _ h2⟩
 htop:=fun i sz n k x hk=>hs.htop i sz n k (h i _ x) hk
 hdom:=hs.hdom
 io:=hs.io
 tab:=hs.tab
 fin:=hs.fin
theorem TP{P:Program}{n:Nat}{γ V':Fr}{O U':Sig}{df:List DDf}(h:Tells γ V')(hU:Sub U' O):Wk P n { γ,O,df } { γ:=V',O:=U',df }:=
 fun g w a hs=>⟨g,.refl g,⟨hs.sim.sub hU,⟨hs.tmps.1,fun t=>h.get t g _ (hs.tmps.2 t)⟩,hs.df⟩⟩
section
variable {P:Program}{ro:Ro}{n:Nat}{Q:DX->St->Prop}{s:St}
theorem Tm{c:Code}(h:DWp P ro n c (fun x s=> ∃s',Wk P n s s'/\Q x s') s):DWp P ro n c Q s:=fun g w a r hr hs=>
 wpIn_mono (h g w a r hr hs) fun _ _ _ ⟨g1,s1,x,h1,h2,h3,s',hw,hq⟩=>
  let ⟨g2,l2,bi⟩:=hw g1 _ _ h2
  ⟨g2,s',x,h1.trans l2,bi,h3.mono l2,hq⟩
theorem Mv{c:Code}(h:∀g w a,SimS P g n s a w->∃g' s',g.le g'/\SimS P g' n s' a w/\DWp P ro n c Q s'):DWp P ro n c Q s:=fun g w a r hr hs=>
 let ⟨g',_,l,bj,k⟩:=h g w a hs
 wpIn_mono (k g' w a r (hr.mono l) bj) fun _ _ _ p=>p.le l
end
def Weak(R:DE->Sig->Prop)(x:DE)(O:Sig):Prop:= ∃x' U',(match x,x' with
  |.ret d,.ret d'=>WkD d d'
  |.panic d,.panic d'=>WkD d d'
  |_,_=>False)/\Sub U' O/\R x' U'
theorem E7{R:DE->Sig->Prop}{x:DE}{O:Sig}(h:R x O):Weak R x O:=⟨x,O,by cases x<;>exact A8 _,.refl _,h⟩
theorem Hb{P:Program}{f:Nat}{args:List D}{O:Sig}{R:DE->Sig->Prop}(h:DCall P f args O (Weak R)):DCall P f args O R:=
 ⟨h.lt,h.ent,fun g w vs hs ha=>(h.run g w vs hs ha).mono fun _ _ ⟨g',x,U',h1,h2,h3,x',S'',hm,aq,hR⟩=>by
  refine⟨g',x',S'',h1,h2.sub aq,?_,hR⟩
  cases x<;>cases x'<;>simp only at hm
  ·obtain⟨v,e,hv⟩:=h3;exact⟨v,e,hm _ _ hv⟩
  ·obtain⟨v,e,hv⟩:=h3;exact⟨v,e,hm _ _ hv⟩⟩
theorem IU{P:Program}{ro:Ro}{f:Nat}{args:List D}{O:Sig}{R:DE->Sig->Prop}(h:DCallR P ro f args O (Weak R)):DCallR P ro f args O R:=
 ⟨h.lt,h.ent,fun g w vs r bl hs ha=>(h.run g w vs r bl hs ha).mono fun _ _ ⟨g',x,U',h1,h2,h3,x',S'',hm,aq,hR⟩=>by
  refine⟨g',x',S'',h1,h2.sub aq,?_,hR⟩
  cases x<;>cases x'<;>simp only at hm
  ·obtain⟨v,e,hv⟩:=h3;exact⟨v,e,hm _ _ hv⟩
  ·obtain⟨v,e,hv⟩:=h3;exact⟨v,e,hm _ _ hv⟩⟩
def Dr(P:Program)(n:Nat)(fn:Func)(R:DE->Sig->Prop)(x:DX)(s:St):Prop:= ∃s',Wk P n s s'/\TL P n fn (Weak R) x s'
theorem L9{P:Program}{f:Nat}{fn:Func}{c:Code}{args:List D}{O:Sig}{R:DE->Sig->Prop}(hf:P.funcs[f]? = some fn)(hb:fn.body=some c)
  (aP : (fn.name == "runtime.NumGoroutine") = false) {m : Nat} (hm : fn.ntmps = m) (hn : args.length <= m) (h : DWp P .none m c (Dr P m fn R) { γ := Bn 0 args, O }) : DCall P f args O R :=
 Hb (MD hf hb aP hm hn (Tm h))
theorem Jp{P:Program}{f:Nat}{fn:Func}{c:Code}{args:List D}{O:Sig}{R:DE->Sig->Prop}(hf:P.funcs[f]? = some fn)(hb:fn.body=some c)
  (aP : (fn.name == "runtime.NumGoroutine") = false) {m : Nat} (hm : fn.ntmps = m) (hn : args.length <= m) (h : DWp P .wide m c (Dr P m fn R) { γ := Bn 0 args, O }) : BH P f args O R :=
 IU (La hf hb aP hm hn (Tm h))
theorem Tl{P:Program}{n:Nat}{fn:Func}{R:DE->Sig->Prop}{γ:Fr}{O U':Sig}{d:D}(hU:Sub U' O)(hR:R (.panic d) U'):Dr P n fn R (.panic d) ⟨γ,O,[]⟩:=
 ⟨⟨γ,U',[]⟩,fun g _ _ hs=>⟨g,.refl g,⟨hs.sim.sub hU,hs.tmps,hs.df⟩⟩,rfl,E7 hR⟩
theorem Sim.tagNil{P:Program}{g:G}{O:Sig}{w:World}{i sz:Nat}(hs:Sim P g O w)(hi:g.rho i=none)(hU:O i=none):
  g.le (g.put i 0 0 0 [] (.slice none 0 0))/\Sim P (g.put i 0 0 0 [] (.slice none 0 0)) (O.set i (.tail sz 0)) w:=by
 have hg:Grows g O i 0:=.inl ⟨hi,hU⟩
 have ak:∀b o,(g.put i 0 0 0 [] (.slice none 0 0)).imm b o=g.imm b o:=by
  intro b o
  simp only[G.put,List.length_nil]
  rw[if_neg (by omega)]
 have aj:g.le (g.put i 0 0 0 [] (.slice none 0 0)):=
  {imm:=fun b o v h=>by rw[ak];exact h
   rho:=fun j c h=>by
    simp only[G.put]
    by_cases hj:j=i
    ·subst hj;rw[hi]at h;cases h
    ·rw[if_neg hj];exact h
   hist:=fun j m x h=>by
    simp only[G.put]
    rw[if_neg];exact h
    rintro⟨rfl,rfl⟩
    rw[hg.none hs _ (Nat.le_refl _)]at h;cases h
   keep:=fun _ _ h=>h,io:=rfl }
 have ag:∀j c,blk (g.put i 0 0 0 [] (.slice none 0 0)) (O.set i (.tail sz 0)) j=some c->j≠i/\blk g O j=some c:=by
  intro j c h
  by_cases hj:j=i
  ·subst hj
   simp[blk,w6,G.put]at h
  ·refine⟨hj,?_⟩
   unfold blk at h⊢
   rw[w7 _ _ hj]at h
   simp only[G.put,hj,false_and,if_false]at h
   exact h
 refine⟨aj,?_⟩
 exact {
  imm:=fun b o v h=>by rw[ak]at h;exact hs.imm b o v h
  keep:=hs.keep
  obj:=fun j d h=>by
   by_cases hj:j=i
   ·subst hj
    rw[w6]at h;cases h
    exact .inl ⟨by simp[G.put],rfl⟩
   ·rw[w7 _ _ hj]at h
    exact(hs.obj j d h).mono aj fun _ _ _ _ _ _ _ _ _ _ hn=>by rw[ak];exact hn
  inj:=fun j l c h1 h2=>hs.inj j l c (ag j c h1).2 (ag l c h2).2
  free:=fun j c h=>by
   obtain⟨hj,h'⟩:=ag j c h
   obtain⟨h1,h2⟩:=hs.free j c h'
   refine⟨h1,fun hh o=>?_⟩
   rw[ak]
   exact h2 (fun x hx=>hh x (by rw[w7 _ _ hj];exact hx)) o
  htop:=fun j sz' n m h hm=>by
   simp only[G.put]
   by_cases hj:j=i
   ·subst hj
    rw[w6]at h;cases h
    rw[if_neg (by omega)]
    exact hg.none hs m (by omega)
   ·rw[w7 _ _ hj]at h
    simp only[hj,false_and,if_false]
    exact hs.htop j sz' n m h hm
  hdom:=fun j m x h=>by
   simp only[G.put]at h⊢
   by_cases hj:j=i
   ·subst hj;simp
   ·simp only[hj,false_and,if_false]at h⊢
    exact hs.hdom j m x h
  io:=hs.io
  tab:=hs.tab
  fin:=by
   obtain⟨m,hm⟩:=hs.fin
   refine⟨max m (i+1),fun j hj=>?_⟩
   simp only[G.put]
   rw[if_neg (by omega)]
   exact hm j (by omega) }
theorem GW{g:G}{i b:Nat}:Rep (g.put i b 0 0 [] (.slice none 0 0)) (.slice [] (.tag i)) (.slice none 0 0):=
 ⟨none,0,rfl,by simp,.inl rfl,by simp[G.put]⟩
section
variable {P:Program}{ro:Ro}{n:Nat}{ops:Array Oper}{Q:DX->St->Prop}{rest:List Oper}{tab:Nat->Ty}{γ:List (Nat×D)}{O:Sig}{df:List DDf}
theorem U3{g:G}{w:World}{a:Act}{t sz i:Nat}(hs:SimS P g n ⟨γ,O,df⟩ a w)(h:getD γ t=.nils)(hi:g.rho i=none)(hU:O i=none):
  g.le (g.put i 0 0 0 [] (.slice none 0 0))/\SimS P (g.put i 0 0 0 [] (.slice none 0 0)) n ⟨(t,.slice [] (.tag i))::γ,O.set i (.tail sz 0),df⟩ a w:=by
 obtain⟨h1,h2⟩:=hs.sim.tagNil (sz:=sz) hi hU
 refine⟨h1,⟨h2,⟨hs.tmps.1,fun k=>?_⟩,hs.df.mono h1⟩⟩
 rw[A6]
 by_cases hk:k=t
 ·rw[if_pos hk,hk]
  have:=hs.tmps.2 t
  rw[h]at this
  rw[show a.tmps.getD t undef=.slice none 0 0 from this]
  exact GW
 ·rw[if_neg hk];exact Rep.mono h1 _ (hs.tmps.2 k)
theorem dwp_tag{c:Code}(t sz:Nat)(ht:getD γ t=.nils)(h:∀i,O i=none->DWp P ro n c Q ⟨(t,.slice [] (.tag i))::γ,O.set i (.tail sz 0),df⟩):DWp P ro n c Q ⟨γ,O,df⟩:=
 Mv fun g w a hs=>by
  obtain⟨i,hi,hU⟩:=hs.sim.fresh
  obtain⟨h1,h2⟩:=U3 (t:=t) (sz:=sz) hs ht hi hU
  exact⟨_,_,h1,h2,h i hU⟩
variable (ht:B2 P tab)
include ht
theorem IR{t T T' ty e e':Nat}{s x:Operand}{pos:String}{after:Array Edge}{guard:Option (Nat×Bool)}{es new:List (List D)}
  (hw:Ax ops γ ⟨some t,(cA s x T T'),ty,pos,after,guard⟩=some true) (aK:t<n)
  (hk:(tab T).k=.slice e) (ae:(tab T').k=.slice e') (he:A1 (tab e).k=false) (h1:(ev γ s=.nils/\es=[])\/(ev γ s=.slice es .clip/\new≠[])) (h2:esOf (ev γ x)=some new)
  (hlen:∀c∈es,c.length=(tab e).size) (hlen':∀c∈new,c.length=(tab e).size)
  (hb:(es.length+new.length)*(tab e).bytes<=140737488355328) (hm:es.length+new.length<=9223372036854775807)
  (h:∀i,O i=none->DOps P ro n ops Q rest ⟨(t,.slice (es++new) (.tag i))::γ,O.set i (.tail (tab e).size (es.length+new.length)),df⟩) :
  DOps P ro n ops Q (⟨some t,(cA s x T T'),ty,pos,after,guard⟩::rest) ⟨γ,O,df⟩:=by
 intro g w a r hr hs
 unfold wpListIn
 rw[AH hs.tmps hw,if_pos rfl]
 refine⟨fun f hf=>(AZ rfl rfl _ _ f hf).elim,?_⟩
 obtain⟨i,hi,hU⟩:=hs.sim.fresh
 have key:∃g' w' v,(Builtin.append_ #[T,T'] ty #[a.eval s,a.eval x]).run P w=.ok v w'/\g.le g'/\Sim P g' (O.set i (.tail (tab e).size (es.length+new.length))) w'/\Rep g' (.slice (es++new) (.tag i)) v:=by
  have ai:=Ai hs.tmps s
  obtain⟨xa,xc,q1,q2,q3⟩:=BT h2 (Ai hs.tmps x)
  have ax:Grows g O i (es.length+new.length):=.inl ⟨hi,hU⟩
  rcases h1 with⟨h1,rfl⟩|⟨h1,hne⟩
  ·rw[show ev (St.mk γ O df).γ s=.nils from h1]at ai
   have ai:a.eval s=.slice none 0 0:=ai
   by_cases ah:new=[]
   ·subst ah
    obtain⟨inf,z,t1,t2,t3,t4,t5,t6,t7⟩:=Bd ht hk ae he
    obtain⟨l1,l2⟩:=hs.sim.tagNil (sz:=(tab e).size) hi hU
    refine⟨_,w,.slice none 0 0,?_,l1,l2,?_⟩
    ·rw[ai,q1]
     exact Bb (ty:=ty) t1 t2 t3 (w:=w) (w2:=w) (base:=none) (xa:=xa) (n:=0) (cap:=0) (m:=0) (xc:=xc) (news:=[]) (Al (by simp) (.inl rfl)) (by omega) (fun b _=>by simp[storeCells,Sem.run]) (fun _=>rfl)
    ·exact GW
   ·have aw:0<new.length:=List.length_pos_iff.2 ah
    rw[ai,q1]
    exact FQ (es:=[]) (base:=none) (cap:=0) ht hs.sim hk ae he (by simp) hlen' (.inl rfl) q3 (by simpa using aw) hb hm ax
  ·rw[show ev (St.mk γ O df).γ s=.slice es .clip from h1]at ai
   obtain⟨base,cap,r1,r2,r3,r4⟩:=ai
   simp only at r4
   subst r4
   have aw:0<new.length:=List.length_pos_iff.2 hne
   rw[r1,q1]
   exact FQ ht hs.sim hk ae he hlen hlen' r3 q3 (by omega) hb hm ax
 obtain⟨g',w',v,k1,k2,k3,k4⟩:=key
 rw[Oper.semAt_eq _ _ _ (fun c e=>by cases e),Aq k1]
 exact AE k2 _ (h i hU g' w' _ r (hr.mono k2) (hs.put (o:=⟨some t,(cA s x T T'),ty,pos,after,guard⟩) k2 k3 k4 (by simp[Ap,aK])))
end
def I6(tab:Nat->Ty):TyK->D->Option D->Option D->Option D->Option D
 |.slice e,x,none,some (.int _ h),none=>if A1 (tab e).k then none else match esOf x with
  |some es=>if 0<=h/\h<=es.length then some (.slice (es.take h.toNat) .no) else none
  |none=>none
 |.slice e,x,some (.int _ l),none,none=>if A1 (tab e).k then none else match esOf x with
  |some es=>if 0<=l/\l<=es.length/\es.all (fun c=>c.length==(tab e).size) then some (.slice (es.drop l.toNat) .no) else none
  |none=>none
 |.slice e,x,none,some (.int _ h),some (.int _ m)=>if A1 (tab e).k then none else match esOf x with
  |some es=>if h=m/\m=es.length then some (.slice es .clip) else none
  |none=>none
 |_,_,_,_,_=>none
def keyB:TyK->D->D->Option Bool
 |.int _,.int k a,.int k' b=>if k=k' then some (a==b) else none
 |.str,.str a,.str b=>some (a==b)
 |_,_,_=>none
def C9(kt:TyK)(k:D):List (D×D)->Nat->Option (Option (Nat×D))
 |[],_=>some none
 |(k',d)::r,i=>match keyB kt k k' with
  |some true=>some (some (i,d))
  |some false=>C9 kt k r (i+1)
  |none=>none
def BZ(O:Sig):D->Option (List (D×D))
 |.nilmap=>some []
 |.cmap ks vs=>some (ks.zip vs)
 |.map id=>match O id with
  |some (.map l)=>some l
  |_=>none
 |_=>none
def Hu(ty:Ty):Option D:=if ty.agg then some (.agg ty.zero) else ty.zero[0]?
def Bg:TyK->D->Bool
 |.int _,.int _ _=>true
 |.str,.str _=>true
 |_,_=>false
def FM (tab:Nat->Ty) (O:Sig) (ok:Bool):TyK->D->D->Option D
 | .map kt et,x,k=>if A1 (tab et).k || !Bg (tab kt).k k then none else match BZ O x with
  | some l=>match C9 (tab kt).k k l 0 with
   |some (some (_,d))=>some (if ok then .tup [d,.bool true] else d)
   |some none=>match Hu (tab et)with
    |some z=>some (if ok then .tup [z,.bool false] else z)
    |none=>none
   |none=>none
  |none=>none
 |_,_,_=>none
def Ja(tab:Nat->Ty)(t:Nat)(ok:Bool):D->Option D
 | .iface t' d=>if A1 (tab t).k || FN (tab t).k then none else
  if t'=t then some (if ok then .tup [d,.bool true] else d) else
  if ok then match Hu (tab t)with
   |some z=>some (.tup [z,.bool false])
   |none=>none
  else none
 | .niliface=>if A1 (tab t).k || FN (tab t).k then none else
  if ok then match Hu (tab t)with
   |some z=>some (.tup [z,.bool false])
   |none=>none
  else none
 |_=>none
def Po (tab:Nat->Ty) (fs:List (Nat × Nat)):List D->Fr->Option (List D)
 |cells,[]=>some cells
 |cells,(i,d)::r=>match fs[i]? with
  | some (off,ft)=>if d.told && d.cells.length==(tab ft).size && decide (off+d.cells.length<=cells.length) then
    Po tab fs (cells.take off++d.cells++cells.drop (off+d.cells.length)) r else none
  |none=>none
def MM(tab:Nat->Ty)(t:Nat)(parts:Fr):TyK->Option D
 |.struct fs=>if fs.all (fun p=> !A1 (tab p.2).k) then(Po tab fs (tab t).zero parts).map .agg else none
 |_=>none
def LJ:Bool->D->D->Option D
 |true,.int k a,.int _ b=>some (.int k (if b>a then b else a))
 |false,.int k a,.int _ b=>some (.int k (if b<a then b else a))
 |_,_,_=>none
def H2(tab:Nat->Ty)(γ:Fr)(O:Sig):List TypeId->List Operand->Option D
 |[t],[x]=>match (tab t).k with
  |.map _ _=>(BZ O (ev γ x)).map fun l=>.int .i64 l.length
  |_=>none
 |_,_=>none
def Fs(tab:Nat->Ty)(γ:Fr)(O:Sig):Callee->List TypeId->List Operand->Option D
 |.builtin .len,ts,xs=>H2 tab γ O ts xs
 |.builtin .max,_,[a,b]=>LJ true (ev γ a) (ev γ b)
 |.builtin .min,_,[a,b]=>LJ false (ev γ a) (ev γ b)
 |_,_,_=>none
def dop2(tab:Nat->Ty)(γ:Fr)(O:Sig):Op->Option D
 |.slice t x lo hi mx=>I6 tab (tab t).k (ev γ x) (lo.map (ev γ)) (hi.map (ev γ)) (mx.map (ev γ))
 |.lookup t x k ok=>FM tab O ok (tab t).k (ev γ x) (ev γ k)
 |.typeAssert x _ t ok=>Ja tab t ok (ev γ x)
 |.build t parts=>MM tab t (parts.toList.map fun p=>(p.1,ev γ p.2)) (tab t).k
 |.call c=>Fs tab γ O c.callee c.argTypes.toList c.args.toList
 |_=>none
theorem RepE.take{g:G}{b sz:Nat}: ∀{es:List (List D)}{o:Nat} (k:Nat),RepE g b sz o es->RepE g b sz o (es.take k)
 |[],_,k,_=>by simp[RepE]
 |e::es,o,0,_=>by simp[RepE]
 |e::es,o,k+1,⟨h1,h2⟩=>by simpa[RepE] using⟨h1,RepE.take k h2⟩
theorem RepE.drop{g:G}{b sz:Nat}: ∀{es:List (List D)}{o:Nat} (k:Nat),RepE g b sz o es->RepE g b sz (o+k*sz) (es.drop k)
 |[],_,k,_=>by simp[RepE]
 |e::es,o,0,h=>by simpa using h
 |e::es,o,k+1,⟨_,h2⟩=>by
  have:=RepE.drop k h2
  simpa[show o+sz+k*sz=o+(k+1)*sz by rw[Nat.add_mul];omega] using this
theorem ME{z:Value}(h:aggV z=false):z.cells=#[z]:=by
 cases z<;>first|rfl|cases h
theorem KD{P:Program}{tab:Nat->Ty}(ht:B2 P tab){t:Nat}{d:D}(hk:A1 (tab t).k=false)(h:Hu (tab t)=some d)(w:World): ∃z,(zeroValue t).run P w=.ok z w /\ ∀g,Rep g d z:=by
 obtain⟨inf,desc,z,h1,h2,h3,h4,h5,h6,h7,h8,h9,aG⟩:=BJ (ht t) (Ae hk)
 refine⟨z,by simp[zeroValue,typeInfo,program,h1,h7,Sem.run],fun g=>?_⟩
 unfold Hu at h
 cases hz:aggV z with
 | true =>
  rw[hz]at aG
  rw[if_pos aG]at h
  cases h
  cases z<;>simp only[aggV]at hz<;>try (cases hz;done)
  rename_i cs
  refine⟨cs.toList,by simp,?_⟩
  rw[h9]
  simp only[Value.cells]
  exact AF (by simp) fun j x v e1 e2=>by
   rw[List.getElem?_map,e2]at e1
   cases e1;exact Dh g v
 |false=>
  rw[hz]at aG
  rw[if_neg (by simp[aG]),h9,ME hz]at h
  have h:some (B7 z)=some d:=h
  cases h
  exact Dh g _
theorem B4{g:G}{k:IntKind}{n:Int}{v:Value}(h:Rep g (.int k n) v):v=.int k n:=h
theorem EG{g:G}{s:List UInt8}{v:Value}(h:Rep g (.str s) v):v=.string ⟨s.toArray⟩:=h
theorem Od{kt:TyK}{desc:TypeDesc}{k k':D}{b:Bool}{g:G}{v u:Value}(hd:KOK desc kt)(h:keyB kt k k'=some b)(hv:Rep g k v)(hu:Rep g k' u):Instr.sameNow desc v u=some b:=by
 unfold keyB at h
 split at h
 ·rename_i k1 a k2 b'
  rw[B4 hv,B4 hu]
  cases desc<;>simp[KOK]at hd
  simp only[Instr.sameNow]
  exact h
 ·rename_i a b'
  rw[EG hv,EG hu]
  cases desc<;>simp[KOK]at hd
  cases h
  simp only[Instr.sameNow,Option.some.injEq]
  rw[Bool.eq_iff_iff]
  show(a.toArray==b'.toArray)=true ↔ _
  simp
 ·cases h
theorem F3{kt:TyK}{desc:TypeDesc}{k:D}{g:G}{v:Value}(hd:KOK desc kt)(hv:Rep g k v): ∀{l:List (D×D)}{es:List MapEntry}{i:Nat}{r:Option (Nat×D)},RepM g l es->C9 kt k l i=some r->
  ∃r',Instr.findNow desc v es i=some r'/\(match r,r' with
   |none,none=>True
   |some (j,d),some (j',x)=>j=j'/\Rep g d x/\i<=j /\ ∃e,es[j-i]? = some e/\Rep g k e.key/\e.val=x
   |_,_=>False)
 |[],es,i,r,h,hf=>by
  simp only[C9,Option.some.injEq]at hf
  subst hf
  rw[show es=[] from h]
  exact⟨none,rfl,trivial⟩
 | (k',d)::l,es,i,r,⟨e,rest,he,h1,h2,h3⟩,hf=>by
  subst he
  simp only[C9]at hf
  split at hf
  ·rename_i hk
   cases hf
   refine⟨some (i,e.val),?_,rfl,h2,Nat.le_refl _,e,by simp,?_,rfl⟩
   ·simp only[Instr.findNow,Od hd hk hv h1]
   ·have:k=k':=by
     unfold keyB at hk
     split at hk
     ·split at hk
      ·rename_i e1;simp at hk;rw[e1,hk]
      ·cases hk
     ·simp at hk;rw[hk]
     ·cases hk
    rw[this];exact h1
  ·rename_i hk
   obtain⟨r',e1,e2⟩:=F3 hd hv (i:=i+1) h3 hf
   refine⟨r',?_,?_⟩
   ·simp only[Instr.findNow,Od hd hk hv h1];exact e1
   ·cases r with
    |none=>cases r'<;>simpa using e2
    | some p =>
     obtain⟨j,d⟩:=p
     cases r' with
     |none=>exact e2
     |some q=>
      obtain⟨j',x⟩:=q
      obtain⟨a1,a2,a3,e',a4,a5,a6⟩:=e2
      refine⟨a1,a2,by omega,e',?_,a5,a6⟩
      rw[show j-i=(j-(i+1))+1 by omega]
      simpa using a4
  ·cases hf
theorem IG{P:Program}{tab:Nat->Ty}{g:G}{fs:List (Nat×Nat)}{places:List (Nat×Nat)}(hp:places=fs.map fun p=>(p.1,(tab p.2).size)): ∀{parts:Fr}{ps:List (Nat×Value)}{cells out:List D}{cs:Array Value},
  Po tab fs cells parts=some out->parts.map (·.1)=ps.map (·.1)->RepL g (parts.map (·.2)) (ps.map (·.2))->RepL g cells cs.toList->
  ∃r,Instr.fill (places.toArray[·]?) cs ps=some r/\RepL g out r.toList
 |[],ps,cells,out,cs,h,hm,hr,hc=>by
  have:ps=[]:=by simpa using hm.symm
  subst this
  cases h
  exact⟨cs,rfl,hc⟩
 |(i,d)::parts,[],_,_,_,h,hm,_,_=>by simp at hm
 | (i,d)::parts,(i',v)::ps,cells,out,cs,h,hm,hr,hc=>by
  simp only[List.map_cons,List.cons.injEq]at hm
  obtain⟨rfl,hm⟩:=hm
  obtain⟨v',r',e1,h1,h2⟩:=hr
  simp only[List.map_cons,List.cons.injEq]at e1
  obtain⟨rfl,rfl⟩:=e1
  simp only[Po]at h
  split at h
  ·rename_i off ft hf
   split at h<;>(try (cases h;done))
   rename_i ap
   simp only[Bool.and_eq_true,beq_iff_eq,decide_eq_true_eq]at ap
   obtain⟨⟨c1,c2⟩,c3⟩:=ap
   have ba:=EH h1 c1
   have hl:=RepL.length ba
   have bx:=RepL.length hc
   simp only[Array.length_toList]at hl bx
   have aN:places[i]? = some (off,(tab ft).size):=by rw[hp,List.getElem?_map,hf];rfl
   have ar:=Qh off v.cells.toList 0 cs (by simp;omega)
   have ar:((v.cells.zipIdx.foldl (fun cs (c,j)=>cs.setIfInBounds (off+j) c) cs)).toList=cs.toList.take off++v.cells.toList++cs.toList.drop (off+v.cells.toList.length):=by
    have e:v.cells.zipIdx.foldl (fun cs (c,j)=>cs.setIfInBounds (off+j) c) cs=(v.cells.toList.zipIdx 0).foldl (fun (cs:Array Value) (p:Value×Nat)=>cs.setIfInBounds (off+p.2) p.1) cs:=by
     rw[<-Array.foldl_toList];simp
    rw[e];simpa using ar
   obtain⟨r,aI,aM⟩:=IG (P:=P) hp (cs:=v.cells.zipIdx.foldl (fun cs (c,j)=>cs.setIfInBounds (off+j) c) cs) h hm h2 (by
    rw[ar]
    refine RepL.append (RepL.append ?_ ba) ?_
    ·refine AF (by simp;omega) fun j x y hx hy=>?_
     rw[List.getElem?_take]at hx hy
     split at hx<;>(try (cases hx;done))
     rename_i hj
     rw[if_pos hj]at hy
     have:=RepL.get hc j
     rw[hx,hy]at this;exact this
    ·refine AF (by simp only[List.length_drop,Array.length_toList];omega) fun j x y hx hy=>?_
     rw[List.getElem?_drop]at hx hy
     have:=RepL.get hc (off+d.cells.length+j)
     simp only[Array.length_toList]at hy
     rw[hl]at hy
     rw[hx,hy]at this;exact this)
   refine⟨r,?_,aM⟩
   rw[Instr.fill]
   simp only[List.getElem?_toArray,aN]
   rw[if_neg (by simp;omega)]
   simp only[List.getElem?_toArray]at aI
   exact aI
  ·cases h
theorem NY{g:G}: ∀{ks vs:List D}{es:List MapEntry},RepL g ks (es.map (·.key))->RepL g vs (es.map (·.val))->RepM g (ks.zip vs) es
 |[],vs,es,h1,_=>by
  have:es=[]:=by have:es.map (·.key)=[]:=h1;simpa using this
  subst this
  exact rfl
 |k::ks,vs,[],⟨_,_,h,_⟩,_=>by simp at h
 |k::ks,[],e::es,_,h=>by have:(e::es).map (·.val)=[]:=h;simp at this
 |k::ks,v::vs,e::es,⟨a,r,h1,h2,h3⟩,⟨a',r',bc,bC,bB⟩=>by
  simp only[List.map_cons,List.cons.injEq]at h1 bc
  obtain⟨rfl,rfl⟩:=h1
  obtain⟨rfl,rfl⟩:=bc
  exact⟨e,es,rfl,h2,bC,NY h3 bB⟩
theorem DQ{P:Program}{w:World}{r clock:Nat}{es:Array MapEntry}(h:w.heap[r]? = some (.map es clock)):(getObj r).run P w=.ok (.map es clock) w:=by simp[getObj,Sem.run,h]
theorem Hm{g:G}{a:Option Addr}{es:List (List D)}{cap:Nat}(h1:es.length<=cap)(h2:es=[] \/ ∃sz b o,a=some ⟨b,o,none⟩/\RepE g b sz o es):Rep g (.slice es .no) (.slice a es.length cap):=
 ⟨a,cap,rfl,h1,h2,trivial⟩
section
variable {P:Program}{tab:Nat->Ty}(ht:B2 P tab){g:G}{O:Sig}{w:World}(hs:Sim P g O w)
include ht hs
theorem PS{t:Nat}{parts:Fr}{ps:List (Nat×Value)}{d:D}(h:MM tab t parts (tab t).k=some d)(hm:parts.map (·.1)=ps.map (·.1))(hr:RepL g (parts.map (·.2)) (ps.map (·.2))):
  PRun P g O d (Instr.build t ps.toArray) w:=by
 unfold MM at h
 split at h<;>(try (cases h;done))
 rename_i fs hk
 split at h<;>(try (cases h;done))
 rename_i aT
 obtain⟨out,ho,rfl⟩:=Option.map_eq_some_iff.1 h
 obtain⟨inf,desc,z,h1,h2,h3,h4,h5,h6,h7,h8,h9,aG⟩:=BJ (ht t) (by rw[hk];simp)
 obtain⟨l,hl,aZ⟩:=GL ht hk
 have hz:RepL g (tab t).zero z.cells.toList:=by
  rw[h9]
  exact AF (by simp) fun j x v e1 e2=>by
   rw[List.getElem?_map,e2]at e1
   cases e1;exact Dh g v
 obtain⟨r,aI,aM⟩:=IG (P:=P) (tab:=tab) (fs:=fs) rfl ho hm hr hz
 have aN:l.toList.mapM (fun f=>(P.info? f.type).map fun i=>(f.offset,i.size))=some (fs.map fun p=>(p.1,(tab p.2).size)):=by
  rw[<-aZ]
  rw[List.map_map]
  have key:∀(fl:List Field),(∀f∈fl,A1 (tab f.type).k=false)->fl.mapM (fun f=>(P.info? f.type).map fun i=>(f.offset,i.size))=some (fl.map ((fun p:Nat×Nat=>(p.1,(tab p.2).size)) ∘ fun f=>(f.offset,f.type))):=by
   intro fl
   induction fl with
   |nil=>intro _;rfl
   |cons f fl ih=>
    intro hh
    obtain⟨inf',_,_,g1,_,_,g4,_⟩:=BJ (ht f.type) (Ae (hh f (by simp)))
    simp only[List.mapM_cons,g1,Option.map_some,Option.bind_eq_bind,Option.bind_some,ih fun x hx=>hh x (by simp[hx])]
    simp[g4]
  refine key _ fun f hf=>?_
  have:=(List.all_eq_true.1 aT) (f.offset,f.type) (by rw[<-aZ];exact List.mem_map.2 ⟨f,hf,rfl⟩)
  simpa using this
 have hb:P.built t ps=some r:=by
  unfold Program.built
  rw[h1,hl]
  simp only[h7,aN]
  exact aI
 exact Au hs (v:=.agg r) (run_build w t ps.toArray r (by simpa using hb)) ⟨r.toList,by simp,aM⟩
theorem P0{t:Nat}{x d:D}{lo hi mx:Option D}{v:Value}{lo' am mx':Option Value}(h:I6 tab (tab t).k x lo hi mx=some d)(hx:Rep g x v)
  (bp:lo'.isSome=lo.isSome /\ ∀a b,lo=some a->lo'=some b->Rep g a b) (aY:am.isSome=hi.isSome /\ ∀a b,hi=some a->am=some b->Rep g a b) (bn:mx'.isSome=mx.isSome /\ ∀a b,mx=some a->mx'=some b->Rep g a b) :
  PRun P g O d (Instr.sliceAt t v lo' am mx') w:=by
 unfold I6 at h
 split at h<;>(try (cases h;done))
 ·rename_i e k hh hk
  obtain⟨hd,h⟩:=B8 h
  split at h<;>(try (cases h;done))
  rename_i es aD
  obtain⟨⟨c1,c2⟩,rfl⟩:=DA h
  obtain⟨a,cap,rfl,r1,r2⟩:=BT aD hx
  obtain rfl:lo'=none:=by cases lo'<;>simp_all
  obtain rfl:mx'=none:=by cases mx'<;>simp_all
  obtain⟨hv,rfl⟩:∃y,am=some y:=by cases am<;>simp_all
  have:=aY.2 _ _ rfl rfl
  rw[B4 this]
  have bt:hh<=(cap:Int):=by omega
  refine Au hs (v:=.slice a hh.toNat cap) ?_ ?_
  ·have hu:=AB ht hk
   simp only[Instr.sliceAt,Instr.slice,Instr.sliceBounds,Instr.sliceBound,asIntOf,Sem.run_bind,Sem.run_pure,Result.andThen_ok,run_underlying hu,c1,bt,and_self,if_true,Ay (ht e) (Ae (by simpa using hd)),Nat.sub_zero,Nat.zero_mul]
   congr 1
   cases a with
   |none=>simp
   |some a=>cases a;simp[Addr.add]
  ·have hl:(es.take hh.toNat).length=hh.toNat:=by simp;omega
   have:=Hm (g:=g) (a:=a) (es:=es.take hh.toNat) (cap:=cap) (by omega) (r2.imp (fun h=>by simp[h]) fun ⟨sz,b,o,q1,q2⟩=>⟨sz,b,o,q1,q2.take _⟩)
   rwa [hl]at this
 ·rename_i e k ll hk
  obtain⟨hd,h⟩:=B8 h
  split at h<;>(try (cases h;done))
  rename_i es aD
  obtain⟨⟨c1,c2,c3⟩,rfl⟩:=DA h
  obtain⟨a,cap,rfl,r1,r2⟩:=BT aD hx
  obtain rfl:am=none:=by cases am<;>simp_all
  obtain rfl:mx'=none:=by cases mx'<;>simp_all
  obtain⟨lv,rfl⟩:∃y,lo'=some y:=by cases lo'<;>simp_all
  have:=bp.2 _ _ rfl rfl
  rw[B4 this]
  refine Au hs (v:=.slice (if cap=ll.toNat then a else a.map (·.add (ll.toNat*(tab e).size))) (es.length-ll.toNat) (cap-ll.toNat)) ?_ ?_
  ·have hu:=AB ht hk
   simp only[Instr.sliceAt,Instr.slice,Instr.sliceBounds,Instr.sliceBound,asIntOf,Sem.run_bind,Sem.run_pure,Result.andThen_ok,run_underlying hu,c1,c2,and_self,if_true,Ay (ht e) (Ae (by simpa using hd))]
  ·have hl:(es.drop ll.toNat).length=es.length-ll.toNat:=by simp
   rw[<-hl]
   refine Hm (by omega) ?_
   by_cases hne:es.drop ll.toNat=[]
   ·exact .inl hne
   ·right
    have aX:ll.toNat<es.length:=by
     rcases Nat.lt_or_ge ll.toNat es.length with h|h
     ·exact h
     ·exact absurd (List.drop_of_length_le h) hne
    rw[if_neg (by omega)]
    rcases r2 with rfl|⟨sz,b,o,rfl,q2⟩
    ·simp at aX
    ·obtain rfl:=q2.size (by rintro rfl;simp at aX) (fun c hc=>by simpa using(List.all_eq_true.1 c3) c hc)
     exact⟨(tab e).size,b,o+ll.toNat*(tab e).size,by simp[Bu],q2.drop _⟩
 ·rename_i e k hh k' mm hk
  obtain⟨hd,h⟩:=B8 h
  split at h<;>(try (cases h;done))
  rename_i es aD
  obtain⟨⟨rfl,c2⟩,rfl⟩:=DA h
  obtain⟨a,cap,rfl,r1,r2⟩:=BT aD hx
  obtain rfl:lo'=none:=by cases lo'<;>simp_all
  obtain⟨mv,rfl⟩:∃y,mx'=some y:=by cases mx'<;>simp_all
  obtain⟨hv,rfl⟩:∃y,am=some y:=by cases am<;>simp_all
  have e1:=aY.2 _ _ rfl rfl
  have e2:=bn.2 _ _ rfl rfl
  rw[B4 e1,B4 e2,c2]
  have c3:((es.length:Nat):Int)<=(cap:Int):=by omega
  refine Au hs (v:=.slice a es.length es.length) ?_ ⟨a,es.length,rfl,Nat.le_refl _,r2,rfl⟩
  have hu:=AB ht hk
  simp only[Instr.sliceAt,Instr.slice,Instr.sliceBounds,Instr.sliceBound,asIntOf,Sem.run_bind,Sem.run_pure,Result.andThen_ok,run_underlying hu,c3,Int.natCast_nonneg,Int.le_refl,Int.toNat_natCast,and_self,if_true,Ay (ht e) (Ae (by simpa using hd)),Nat.sub_zero,Nat.zero_mul,Nat.le_refl]
  congr 1
  cases a with
  |none=>simp
  |some a=>cases a;simp[Addr.add]
theorem Ht{x:D}{l:List (D×D)}{v:Value}(h:BZ O x=some l)(hx:Rep g x v):
  ∃es:Array MapEntry,RepM g l es.toList/\(v=.map none/\es=#[] \/ ∃r clock,v=.map (some r)/\w.heap[r]? = some (.map es clock)):=by
 unfold BZ at h
 split at h<;>(try (cases h;done))
 ·cases h;exact⟨#[],rfl,.inl ⟨hx,rfl⟩⟩
 ·cases h
  obtain⟨b,es,clock,rfl,h1,_,h2,h3⟩:=hx
  exact⟨es,NY h2 h3,.inr ⟨b,clock,rfl,hs.keep _ _ h1⟩⟩
 ·split at h<;>(try (cases h;done))
  rename_i id l' hU
  cases h
  obtain⟨b,es,clock,h1,h2,h3⟩:=hs.obj _ _ hU
  obtain⟨b',h4,rfl⟩:=hx
  rw[h1]at h4;cases h4
  exact⟨es,h3.1,.inr ⟨b,clock,rfl,h2⟩⟩
theorem Ng{t:Nat}{x k d:D}{ok:Bool}{v u:Value}(h:FM tab O ok (tab t).k x k=some d)(hx:Rep g x v)(hk:Rep g k u):PRun P g O d (Instr.lookup t v u ok) w:=by
 unfold FM at h
 split at h<;>(try (cases h;done))
 rename_i x k _ _ _ kt et bf
 obtain⟨hc,h⟩:=B8 h
 simp only[Bool.or_eq_true,not_or,Bool.not_eq_true,Bool.not_eq_eq_eq_not,Bool.not_true]at hc
 obtain⟨bz,aF⟩:=hc
 have aF:Bg (tab kt).k k=true:=by simpa using aF
 split at h<;>(try (cases h;done))
 rename_i l hl
 obtain⟨es,hm,hv⟩:=Ht ht hs hl hx
 have hu:=HU ht bf
 obtain⟨desc,aE,ay⟩:∃desc,P.underlying kt=some desc/\KOK desc (tab kt).k:=Eu ht rfl (by intro e;rw[e]at aF;cases k<;>cases aF)
 have aJ:(Instr.checkKey es.isEmpty 10000 kt u).run P w=.ok () w:=by
  unfold Instr.checkKey
  simp only[Sem.run_bind,run_underlying aE,Result.andThen_ok]
  have bh:(∃kd k1 n1,(tab kt).k=.int kd/\k=.int k1 n1)\/(∃s1,(tab kt).k=.str/\k=.str s1):=by
   cases bq:(tab kt).k<;>cases k<;>simp[bq,Bg]at aF<;>simp
  rcases bh with⟨kd,k1,n1,e1,rfl⟩|⟨s1,e1,rfl⟩
  ·rw[e1]at ay
   rw[B4 hk]
   cases desc<;>simp[KOK]at ay
   rfl
  ·rw[e1]at ay
   rw[EG hk]
   cases desc<;>simp[KOK]at ay
   rfl
 split at h<;>(try (cases h;done))
 ·rename_i j d' hf
  cases h
  obtain⟨r',e1,e2⟩:=F3 (g:=g) ay hk hm hf
  cases r' with
  |none=>exact e2.elim
  | some q =>
   obtain⟨j',y⟩:=q
   obtain⟨_,e2,_⟩:=e2
   refine Au hs (v:=if ok then .tuple #[y,.bool true] else y) ?_ ?_
   ·rcases hv with⟨rfl,rfl⟩|⟨r,clock,rfl,hh⟩
    ·simp only[Instr.lookup,Sem.run_bind,run_underlying hu,Result.andThen_ok,Sem.run_pure,aJ,Instr.findKey,run_underlying aE,e1]
    ·simp only[Instr.lookup,Sem.run_bind,run_underlying hu,Result.andThen_ok,Sem.run_pure,DQ hh,aJ,Instr.findKey,run_underlying aE,e1]
   ·cases ok
    ·exact e2
    ·exact⟨[y,.bool true],by simp,y,[.bool true],rfl,e2,.bool true,[],rfl,rfl,rfl⟩
 ·rename_i hf
  split at h<;>(try (cases h;done))
  rename_i zd hz
  cases h
  obtain⟨z,z1,z2⟩:=KD ht bz hz w
  obtain⟨r',e1,e2⟩:=F3 (g:=g) ay hk hm hf
  cases r' with
  |some q=>exact e2.elim
  | none =>
   refine Au hs (v:=if ok then .tuple #[z,.bool false] else z) ?_ ?_
   ·rcases hv with⟨rfl,rfl⟩|⟨r,clock,rfl,hh⟩
    ·simp only[Instr.lookup,Sem.run_bind,run_underlying hu,Result.andThen_ok,Sem.run_pure,aJ,Instr.findKey,run_underlying aE,e1,z1]
    ·simp only[Instr.lookup,Sem.run_bind,run_underlying hu,Result.andThen_ok,Sem.run_pure,DQ hh,aJ,Instr.findKey,run_underlying aE,e1,z1]
   ·cases ok
    ·exact z2 g
    ·exact⟨[z,.bool false],by simp,z,[.bool false],rfl,z2 g,.bool false,[],rfl,rfl,rfl⟩
end
end Go.DL
