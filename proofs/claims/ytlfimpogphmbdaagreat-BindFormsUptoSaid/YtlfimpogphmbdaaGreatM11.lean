/- Part of the proof that the last text ends. -/
import Derived.Test.YtlfimpogphmbdaaGreatM08
import Derived.Laws.IdiomCopy
import Derived.Laws.IdiomStrings
import Derived.Test.YtlfimpogphmbdaaGreatM10
set_option linter.all false
namespace Go.DL
open Go
section
variable {P:Program}{ro:Option Nat}{n:Nat}{ops:Array Oper}{Q:DX->St->Prop}{rest:List Oper}{tab:Nat->Ty}{O:List (Nat×D)}{V:Sig}{df:List DDf}
def SrcOK(P:Program)(V:Sig)(d:D)(m:Nat)(cs:List D):Prop :=
 ∀g w v,Sim P g V w->Rep g d v->∃a cap us,v=.slice a m cap/\RepL g cs us/\us.length=m/\(m=0 \/ ∃b o,a=some ⟨b,o,none⟩ /\ ∀j v,us[j]? = some v->w.cell? ⟨b,o+j,none⟩=some v)
theorem Vm{i off m cap:Nat}{ds:List D}(hi:V i=some (.cells ds))(h:off+m<=ds.length):SrcOK P V (.sref i off m cap) m ((ds.drop off).take m):=by
 intro g w v hs hr
 obtain⟨b,hb,rfl⟩:=hr
 obtain⟨b',vs,ty,hb',hheap,hr⟩:=hs.obj i _ hi
 obtain rfl:b'=b:=by rw[hb]at hb';cases hb';rfl
 have hlen:=RepL.length hr
 simp only[Array.length_toList]at hlen
 refine⟨_,_,(vs.toList.drop off).take m,rfl,Bb (by simp;omega) fun j d v h1 h2 =>?_,by simp;omega,.inr ⟨b',off,rfl,fun j v hj =>?_⟩⟩
 ·have hj:j<m:=by have:=(List.getElem?_eq_some_iff.1 h1).1;simp at this;omega
  rw[List.getElem?_take_of_lt hj,List.getElem?_drop]at h1 h2
  have:=RepL.get hr (off+j)
  rw[h1,h2]at this
  exact this
 ·have hj':j<m:=by have:=(List.getElem?_eq_some_iff.1 hj).1;simp at this;omega
  rw[List.getElem?_take_of_lt hj',List.getElem?_drop,Array.getElem?_toList]at hj
  simp[World.cell?, hheap,hj]
theorem RI{d:D}{es:List (List D)}(h:esOf d=some es)(hl:∀c∈es,c.length=1):SrcOK P V d es.length es.flatten:=by
 intro g w v hs hr
 obtain⟨xa,xc,q1,q2,q3⟩:=CI h hr
 obtain⟨news,v1,v2,v3⟩:=CM hs hl q3
 exact⟨xa,xc,news,q1,v1,by omega,v3⟩
variable (ht:Ba P tab)
include ht
theorem La{t T T' ty e i off len cap m:Nat}{s x:Operand}{pos:String}{after:Array Edge}{ds cs:List D}
  (htn:t<n) (hk:(tab T).k=.slice e) (he:A6 (tab e).k=false) (hsz:(tab e).size=1) (h1:ev O s=.sref i off len cap) (hi:V i=some (.cells ds)) (hlen:off+len<=ds.length)
  (h2:SrcOK P V (ev O x) m cs) (hcs:D1 cs=true)
  (h:DOps P ro n ops Q rest ⟨(t,.int .i64 ((min m len:Nat):Int))::O,V.set i (.cells (ds.take off++(cs.take (min m len)++ds.drop (off+min m len)))),df⟩) :
  DOps P ro n ops Q (⟨some t,.call { callee := .builtin .copy,args := #[s,x],argTypes := #[T,T'] },ty,pos,after,none⟩::rest) ⟨O,V,df⟩:=by
 refine Ek (fun d S'=>d=.int .i64 ((min m len:Nat):Int)/\S'=V.set i (.cells (ds.take off++(cs.take (min m len)++ds.drop (off+min m len))))) rfl (fun c e=>by cases e) (C6 rfl rfl) (by simp[At,htn]) ?_
  (fun d S' ⟨a2,a3⟩=>by subst a2 a3;exact h)
 intro g w a hs hT
 have hsv:=As hT s
 have hxv:=As hT x
 rw[h1]at hsv
 obtain⟨b,hb,hsv⟩:=hsv
 obtain⟨xa,xc,us,hx,hr,hul,hcell⟩:=h2 g w _ hs hxv
 obtain⟨b2,vs,ty',hb2,hheap,hrv⟩:=hs.obj i _ hi
 obtain rfl:b2=b:=by rw[hb]at hb2;cases hb2;rfl
 have hlv:=RepL.length hrv
 simp only[Array.length_toList]at hlv
 have hcl:=RepL.length hr
 obtain⟨inf,z,t1,t2,t3,t4,t5,t6,t7⟩:=C0 ht hk hk he
 have hu:P.underlying T=some (.slice e):=t1
 have hq:(P.info? e).map (·.size)=some 1:=by rw[t3];simp[t5,hsz]
 have hgo:goInt ((min m len:Nat):Int)=.int .i64 ((min m len:Nat):Int):=rfl
 have hrun : ∃ w',(Builtin.copy_ #[T,T'] ty #[a.eval s,a.eval x]).run P w = .ok (goInt ((min m len:Nat):Int)) w'/\Sim P g (V.set i (.cells (ds.take off++(cs.take (min m len)++ds.drop (off+min m len))))) w':=by
  rw[hsv,hx]
  by_cases h0:min m len=0
  ·refine⟨w,?_,?_⟩
   ·rw[h0];exact run_copy_none w T T' ty e _ _ len cap m xc hu hq (by show min m len=0;exact h0)
   ·rw[h0];simp only[List.take_zero,List.nil_append,Nat.add_zero,List.take_append_drop]
    rw[show V.set i (.cells ds)=V from funext fun j=>by by_cases hj:j=i<;>simp[Sig.set,hj,hi]];exact hs
  ·obtain⟨b3,o3,rfl,hc3⟩:=hcell.resolve_left (by omega)
   have hut:(us.take (min m len)).length=min m len:=by simp;omega
   have hne:us.take (min m len)≠[]:=fun e=>by rw[e]at hut;simp at hut;omega
   have hl:=run_loadCells_list (P:=P) w ⟨b3,o3,none⟩ (us.take (min m len)) (fun j v hj=>by
    rw[C5]
    have hj':j<min m len:=by have:=(List.getElem?_eq_some_iff.1 hj).1;simp at this;omega
    rw[List.getElem?_take_of_lt hj']at hj
    exact hc3 j v hj)
   have hfl:=E8 hr hcs
   have hst:=CE (P:=P) (us.take (min m len)) 0 w vs hheap (fun v hv=>hfl v (List.mem_of_mem_take hv)) (o:=off) (by rw[hut];omega)
   rw[if_neg hne]at hst
   refine⟨_,?_,hs.setObj (ty:=ty') (vs':=Cf vs (off+0) (us.take (min m len))) hi hb ?_ ⟨vs,hheap⟩⟩
   ·have hi1:inf.size=1:=by omega
    have hmin:Nat.min m len=min m len:=rfl
    simp only[Builtin.copy_]
    simp[A2 hu,Builtin.lenOf,Builtin.firstCells,sizeOf,typeInfo,t3,hi1,hmin,hl,hst,hut]
    rw[hut]at hl
    simp[hl,hst]
   ·refine Bb (by simp only[List.length_append,List.length_take,List.length_drop,Array.length_toList,E1];omega) fun j d v h1 h2 =>?_
    have h2':(Cf vs (off+0) (us.take (min m len)))[j]? = some v:=by simpa using h2
    rw[Ev _ _ _ _ (by rw[hut];omega),hut]at h2'
    have hg:=RepL.get hrv j
    rw[List.getElem?_append]at h1
    simp only[List.length_take]at h1
    by_cases c1:j<off
    ·rw[if_neg (by omega)]at h2'
     rw[if_pos (by omega),List.getElem?_take_of_lt c1]at h1
     rw[h1]at hg
     simp only[Array.getElem?_toList,h2',Option.getD_some]at hg
     exact hg
    ·rw[if_neg (by omega),List.getElem?_append]at h1
     simp only[List.length_take]at h1
     have eo:min off ds.length=off:=by omega
     rw[eo]at h1
     by_cases c2:j-off<min m len
     ·rw[if_pos (by omega),List.getElem?_take_of_lt (by omega)]at h2'
      rw[if_pos (by omega),List.getElem?_take_of_lt (by omega)]at h1
      have:=RepL.get hr (j-off)
      rw[h1,show j-off=j-(off+0) by omega,h2']at this
      exact this
     ·rw[if_neg (by omega)]at h2'
      rw[if_neg (by omega),List.getElem?_drop,show off+min m len+(j-off-min (min m len) cs.length)=j by omega]at h1
      rw[h1]at hg
      simp only[Array.getElem?_toList,h2',Option.getD_some]at hg
      exact hg
 obtain⟨w',hrun,hsim⟩:=hrun
 refine⟨g,w',goInt ((min m len:Nat):Int),.int .i64 ((min m len:Nat):Int),_,?_,.refl g,hsim,rfl,rfl,rfl⟩
 simp[execOp,resolve,invoke,builtin,hrun]
omit ht in
theorem Ol{g:G}{i b off len cap:Nat}(h:g.rho i=some b):Rep g (.sref i off len cap) (.slice (some ⟨b,off,none⟩) len cap):=⟨b,h,rfl⟩
theorem Vo{g:G}{w:World}{T e i off len cap:Nat}{k:IntKind}{v u:Value}{lo:Nat}(hk:(tab T).k=.slice e)(he:A6 (tab e).k=false)(hv:Rep g (.sref i off len cap) v)(hu:Rep g (.int k lo) u)(hlo:lo<=len)(hlc:lo<cap):
  ∃r,(Instr.sliceAt T v (some u) none none).run P w=.ok r w/\Rep g (.sref i (off+lo*(tab e).size) (len-lo) (cap-lo)) r:=by
 obtain⟨b,hb,rfl⟩:=hv
 obtain rfl:=BH hu
 refine⟨_,?_,Ol (len:=len-lo) (cap:=cap-lo) (off:=off+lo*(tab e).size) hb⟩
 have hu:=B8 ht hk
 have c1:(0:Int)<=(lo:Int):=by omega
 have c2:(lo:Int)<=(len:Int):=by omega
 have c3:¬cap=lo:=by omega
 simp only[Option.map_some,Instr.sliceAt,Instr.slice,Instr.sliceBounds,Instr.sliceBound,asIntOf,Sem.run_bind,Sem.run_pure,Result.andThen_ok,A2 hu,c1,c2,and_self,if_true,B6 (ht e) (Aj he),Int.toNat_natCast,c3,if_false,C5]
theorem Vp{g:G}{w:World}{T e i off len cap:Nat}{k:IntKind}{v u:Value}{hi:Nat}(hk:(tab T).k=.slice e)(he:A6 (tab e).k=false)(hv:Rep g (.sref i off len cap) v)(hu:Rep g (.int k hi) u)(hhi:hi<=cap):
  ∃r,(Instr.sliceAt T v none (some u) none).run P w=.ok r w/\Rep g (.sref i off hi cap) r:=by
 obtain⟨b,hb,rfl⟩:=hv
 obtain rfl:=BH hu
 refine⟨_,?_,Ol (len:=hi) (cap:=cap) (off:=off) hb⟩
 have hu:=B8 ht hk
 have c1:(0:Int)<=(hi:Int):=by omega
 have c2:(hi:Int)<=(cap:Int):=by omega
 simp only[Instr.sliceAt,Instr.slice,Instr.sliceBounds,Instr.sliceBound,asIntOf,Sem.run_bind,Sem.run_pure,Result.andThen_ok,A2 hu,c1,c2,and_self,if_true,B6 (ht e) (Aj he),Int.toNat_natCast,Nat.sub_zero,Nat.zero_mul]
 congr 1
 split<;>simp[Addr.add]
variable {N:Nat}{S0:Sig}
theorem mo_cutL{t T ty e i off len cap:Nat}{k:IntKind}{x y:Operand}{lo:Nat}{pos:String}{after:Array Edge}{f:Bool}{l:List (Bool×Oper)}
  (h:MO P ro n ops N S0 Q df l ((t,.sref i (off+lo*(tab e).size) (len-lo) (cap-lo))::O) V)
  (htn:t<n) (hk:(tab T).k=.slice e) (he:A6 (tab e).k=false) (h1:ev O x=.sref i off len cap) (h2:ev O y=.int k lo) (hlo:lo<=len) (hlc:lo<cap) :
  MO P ro n ops N S0 Q df ((f,⟨some t,.slice T x (some y) none none,ty,pos,after,none⟩)::l) O V:=by
 refine .inl ⟨_,⟨by simp[At,htn],.inl ⟨rfl,(fun c e=>by cases e),Af (fun c e=>by cases e),fun S' hZ g w a hs hT =>?_⟩⟩,h⟩
 have hx:=As hT x
 have hy:=As hT y
 rw[Cd (o:=⟨some t,.slice T x (some y) none none,ty,pos,after,none⟩) (by simp[Op.operands]),h1]at hx
 rw[Cd (o:=⟨some t,.slice T x (some y) none none,ty,pos,after,none⟩) (by simp[Op.operands]),h2]at hy
 obtain⟨r,h3,h4⟩:=Vo (w:=w) ht hk he hx hy hlo hlc
 exact⟨g,w,r,by simp only[execOp,Option.map_some,Option.map_none,Sem.run_bind,h3,Result.andThen_ok,Sem.run_pure],.refl g,hs,h4⟩
theorem mo_cutH{t T ty e i off len cap:Nat}{k:IntKind}{x y:Operand}{hi:Nat}{pos:String}{after:Array Edge}{f:Bool}{l:List (Bool×Oper)}
  (h:MO P ro n ops N S0 Q df l ((t,.sref i off hi cap)::O) V)
  (htn:t<n) (hk:(tab T).k=.slice e) (he:A6 (tab e).k=false) (h1:ev O x=.sref i off len cap) (h2:ev O y=.int k hi) (hhi:hi<=cap) :
  MO P ro n ops N S0 Q df ((f,⟨some t,.slice T x none (some y) none,ty,pos,after,none⟩)::l) O V:=by
 refine .inl ⟨_,⟨by simp[At,htn],.inl ⟨rfl,(fun c e=>by cases e),Af (fun c e=>by cases e),fun S' hZ g w a hs hT =>?_⟩⟩,h⟩
 have hx:=As hT x
 have hy:=As hT y
 rw[Cd (o:=⟨some t,.slice T x none (some y) none,ty,pos,after,none⟩) (by simp[Op.operands]),h1]at hx
 rw[Cd (o:=⟨some t,.slice T x none (some y) none,ty,pos,after,none⟩) (by simp[Op.operands]),h2]at hy
 obtain⟨r,h3,h4⟩:=Vp (w:=w) ht hk he hx hy hhi
 exact⟨g,w,r,by simp only[execOp,Option.map_some,Option.map_none,Sem.run_bind,h3,Result.andThen_ok,Sem.run_pure],.refl g,hs,h4⟩
omit ht in
theorem Kr{g:G}{b:Nat}{vs:List Value}: ∀(l:List UInt8) (k:Nat),(∀j x,l[j]? = some x->vs[k+j]? = some (.int .u8 (x.toNat:Int)))->RepE (g.addImm b vs) b 1 k (l.map fun x=>[D.int .u8 (x.toNat:Int)])
 |[],_,_=>trivial
 | x::l,k,h=>by
  refine⟨⟨rfl,⟨_,?_,rfl⟩,trivial⟩,Kr l (k+1) fun j y hj =>?_⟩
  ·simp only[G.addImm,if_true];have:=h 0 x rfl;simpa using this
  ·have:=h (j+1) y (by simpa using hj)
   rw[show k+1+j=k+(j+1) by omega];exact this
theorem Ro{t T T' ty e:Nat}{x:Operand}{s:List UInt8}{pos:String}{after:Array Edge}
  (h:DOps P ro n ops Q rest ⟨(t,.slice (s.map fun b=>[D.int .u8 (b.toNat:Int)]) .no)::O,V,df⟩) (htn:t<n) (hk:(tab T).k=.str) (hk':(tab T').k=.slice e) (hke:(tab e).k=.int .u8) (h1:ev O x=.str s) :
  DOps P ro n ops Q (⟨some t,.convert T T' x,ty,pos,after,none⟩::rest) ⟨O,V,df⟩:=by
 refine Ek (fun d S'=>d=.slice (s.map fun b=>[D.int .u8 (b.toNat:Int)]) .no/\S'=V) rfl (fun c e=>by cases e) (Af fun c e=>by cases e) (by simp[At,htn]) ?_
  (fun d S' ⟨a2,a3⟩=>by subst a2 a3;exact h)
 intro g w a hs hT
 have hxv:=As hT x
 rw[h1]at hxv
 have hv:a.eval x=.string ⟨s.toArray⟩:=hxv
 have hrun:=run_bytes_of_string (P:=P) w T T' e ⟨s.toArray⟩ (IJ ht hk) (B8 ht hk') (Lt ht hke)
 have hge:=grownCap_ge w (ByteArray.size ⟨s.toArray⟩) 0 e
 generalize grownCap w (ByteArray.size ⟨s.toArray⟩) 0 e=cap at hrun hge
 have hsz:(ByteArray.size ⟨s.toArray⟩)=s.length:=by simp[ByteArray.size]
 have hsim:=hs.drew.addImm (bytesRow ⟨s.toArray⟩ cap).toList e ((bytesRow ⟨s.toArray⟩ cap).size,(bytesRow ⟨s.toArray⟩ cap).size+1)
 have hle:=G.addImm_le hs.drew (bytesRow ⟨s.toArray⟩ cap).toList
 rw[Array.toArray_toList]at hsim
 have hget:∀j x,s[j]? = some x->(bytesRow ⟨s.toArray⟩ cap).toList[0+j]? = some (.int .u8 (x.toNat:Int)):=fun j x hj=>by
  have hjl:j<s.length:=(List.getElem?_eq_some_iff.1 hj).1
  simp only[bytesRow,Nat.zero_add,Array.toList_append,Array.toList_map]
  rw[List.getElem?_append_left (by simpa using hjl),List.getElem?_map,hj];rfl
 refine⟨_,_,.slice (some ⟨w.heap.size,0,none⟩) s.length cap,_,V,?_,hle,hsim,?_,rfl,rfl⟩
 ·simp only[execOp,hv]
  rw[Sem.run_bind,hrun,hsz]
  rfl
 ·refine⟨some ⟨w.heap.size,0,none⟩,cap,by simp,by rw[List.length_map];omega,.inr ⟨1,w.heap.size,0,rfl,Kr s 0 hget⟩,trivial⟩
end
def isAl(o:Oper):Option (Nat×Nat):=match o with
 |⟨some t,.alloc T,_,_,_,none⟩=>some (t,T)
 |_=>none
theorem EX{o:Oper}{t T:Nat}(h:isAl o=some (t,T)): ∃ty pos af,o=⟨some t,.alloc T,ty,pos,af,none⟩:=by
 unfold isAl at h
 split at h
 ·cases h;exact⟨_,_,_,rfl⟩
 ·cases h
section
variable (P:Program)(ro:Option Nat)(n:Nat)(ops:Array Oper)(N:Nat)(S0:Sig)(Q:DX->St->Prop)(df:List DDf)(tab:Nat->Ty)
def Step2(e:Bool)(o:Oper)(O:Fr)(V:Sig)(K:Fr->Sig->Prop):Prop :=
 match isAl o with
 |some (t,T) => ∀k,V k=none->K ((t,.ptr k 0)::O) (V.set k (.cells (tab T).zero))
 |none=>(∃d,Calm P n ops N S0 O o d/\K (putD o.dst d O) V) \/
  (e=true/\Eff P ro n ops df O V o (fun d S'=>Sub S0 S'/\K (putD o.dst d O) S') (fun d S' => ∀U',Q (.panic d) ⟨U',S',df⟩))
def MOps2(E:List Nat):List Nat->Fr->Sig->Prop
 |[],O,V=>DOps P ro n ops Q [] ⟨O,V,df⟩
 |i::r,O,V => ∃o,ops[i]? = some o/\Step2 P ro n ops N S0 Q df tab (E.contains i) o O V (MOps2 E r)
def MO2:List (Bool×Oper)->Fr->Sig->Prop
 |[],O,V=>DOps P ro n ops Q [] ⟨O,V,df⟩
 |(e,o)::r,O,V=>Step2 P ro n ops N S0 Q df tab e o O V (MO2 r)
end
section
variable {P:Program}{ro:Option Nat}{n:Nat}{ops:Array Oper}{N:Nat}{S0:Sig}{Q:DX->St->Prop}{df:List DDf}{E:List Nat}{tab:Nat->Ty}
theorem Step2.mono{e:Bool}{o:Oper}{O U':Fr}{V:Sig}{K K':Fr->Sig->Prop}(h:Step2 P ro n ops N S0 Q df tab e o O V K)(hal:Alike O U')(hK:∀O U' V,Alike O U'->K O V->K' U' V):Step2 P ro n ops N S0 Q df tab e o U' V K':=by
 unfold Step2 at h⊢
 split at h
 ·exact fun k hk=>hK _ _ _ (hal.put (some _) _) (h k hk)
 ·rcases h with⟨d,h2,h3⟩|⟨h1,h2⟩
  ·exact .inl ⟨d,h2.congr fun t _=>hal t,hK _ _ _ (hal.put _ _) h3⟩
  ·exact .inr ⟨h1,h2.congr (fun t _=>hal t) fun d S' ⟨h3,h4⟩=>⟨h3,hK _ _ _ (hal.put _ _) h4⟩⟩
theorem MOps2.alike: ∀(l:List Nat) {O U':Fr} {V:Sig},Alike O U'->MOps2 P ro n ops N S0 Q df tab E l O V->MOps2 P ro n ops N S0 Q df tab E l U' V
 |[],_,_,_,h,k=>CP h k
 |i::r,_,_,_,h,⟨o,ho,k⟩=>⟨o,ho,k.mono h fun _ _ _ h' k'=>MOps2.alike r h' k'⟩
theorem set_comm(V:Sig){k k':Nat}(h:k≠k')(x y:DObj):(V.set k x).set k' y=(V.set k' y).set k x:=by
 funext j
 simp only[Sig.set]
 by_cases h1:j=k'<;>by_cases h2:j=k<;>simp_all
theorem J7{i:Nat}{oi:Oper}(hi:ops[i]? = some oi)(post:List Nat): ∀(pre:List Nat) (O:Fr) (V:Sig),
  (∀x∈pre,E.contains x=false /\ ∃ox,ops[x]? = some ox/\oi.apart ops ox=true/\((isAl ox).isSome=true->(isAl oi).isSome=true))->MOps2 P ro n ops N S0 Q df tab E (pre++i::post) O V->MOps2 P ro n ops N S0 Q df tab E (i::(pre++post)) O V
 |[],_,_,_,h=>h
 | x::pre,O,V,hp,h=>by
  obtain⟨hxE,ox,hox,hap,hal⟩:=hp x (by simp)
  obtain⟨a1,a2,a3⟩:=Oper.apart_spec hap
  obtain⟨ox',hox',hx⟩:=h
  obtain rfl:ox'=ox:=by rw[hox]at hox';cases hox';rfl
  have ih:∀O V,MOps2 P ro n ops N S0 Q df tab E (pre++i::post) O V->MOps2 P ro n ops N S0 Q df tab E (i::(pre++post)) O V:=fun O V=>J7 hi post pre O V fun y hy=>hp y (by simp[hy])
  refine⟨oi,hi,?_⟩
  cases hax:isAl ox' with
  | some p =>
   obtain⟨t,T⟩:=p
   cases hai:isAl oi with
   |none=>rw[hax,hai]at hal;simp at hal
   | some q =>
    obtain⟨t',T'⟩:=q
    obtain⟨_,_,_,rfl⟩:=EX hax
    obtain⟨_,_,_,rfl⟩:=EX hai
    simp only[Step2,isAl]at hx⊢
    intro k' hk'
    refine⟨_,hox,?_⟩
    simp only[Step2,isAl]
    intro k hk
    have hne:k≠k':=by
     rintro rfl
     simp[Sig.set]at hk
    have hk0:V k=none:=by rw[w8 _ _ hne]at hk;exact hk
    obtain⟨oi',hoi',hh⟩:=ih _ _ (hx k hk0)
    rw[hi]at hoi';cases hoi'
    simp only[Step2,isAl]at hh
    have h3:=hh k' (by rw[w8 _ _ (Ne.symm hne)];exact hk')
    rw[set_comm V hne]at h3
    exact MOps2.alike _ (BD (a:=some t') (b:=some t) _ _ _ fun t p q=>a2 t p q) h3
  | none =>
   simp only[Step2,hax]at hx
   rcases hx with⟨d,hy,h⟩|⟨hE,_⟩
   ·obtain⟨oi',hoi',hh⟩:=ih _ V h
    rw[hi]at hoi';cases hoi'
    cases hai:isAl oi with
    |some q =>
     obtain⟨t',T'⟩:=q
     obtain⟨_,_,_,rfl⟩:=EX hai
     simp only[Step2,isAl]at hh⊢
     intro k' hk'
     refine⟨ox',hox,?_⟩
     simp only[Step2,hax]
     refine .inl ⟨d,hy.congr fun t ht=>(AI (dst:=some t') fun hd=>a1 t hd ht).symm,?_⟩
     exact MOps2.alike _ (BD _ _ _ fun t p q=>a2 t p q) (hh k' hk')
    | none =>
     simp only[Step2,hai]at hh⊢
     rcases hh with⟨e,h2,h3⟩|⟨h1,h2⟩
     ·refine .inl ⟨e,h2.congr fun t ht=>AI fun hd=>a3 t hd ht,ox',hox,?_⟩
      simp only[Step2,hax]
      refine .inl ⟨d,hy.congr fun t ht=>(AI fun hd=>a1 t hd ht).symm,?_⟩
      exact MOps2.alike _ (BD _ _ _ fun t p q=>a2 t p q) h3
     ·refine .inr ⟨h1,h2.congr (fun t ht=>AI fun hd=>a3 t hd ht) fun e S' ⟨h3,h4⟩=>⟨h3,ox',hox,?_⟩⟩
      simp only[Step2,hax]
      refine .inl ⟨d,hy.congr fun t ht=>(AI fun hd=>a1 t hd ht).symm,?_⟩
      exact MOps2.alike _ (BD _ _ _ fun t p q=>a2 t p q) h4
   ·rw[hxE]at hE;cases hE
def K3(ops:Array Oper)(E:List Nat):List Nat->List Nat->Bool
 |_,[]=>true
 | done,i::r => !done.contains i && (match ops[i]? with
  |some o=>(o.after.all fun e => !Region.binds .any e||done.contains e.on)&&done.all fun x=>(!E.contains x&&match ops[x]? with
   |some ox=>o.apart ops ox&&(!(isAl ox).isSome||(isAl o).isSome)
   |none=>false)||Ex ops ops.size i x
  |none=>false)&&K3 ops E (i::done) r
theorem Hg {i:Nat} {l2:List Nat} : ∀ (l1 done:List Nat),K3 ops E done (l1++i::l2)=true->i ∉ l1/\i ∉ done/\i ∉ l2 /\ ∃ o,ops[i]? = some o/\(∀ e ∈ o.after,Region.binds .any e=true->e.on ∈ l1\/e.on ∈ done) /\
   ∀x,x∈l1->Ex ops ops.size i x=true\/(E.contains x=false /\ ∃ox,ops[x]? = some ox/\o.apart ops ox=true/\((isAl ox).isSome=true->(isAl o).isSome=true))
 | [],done,h=>by
  simp only[List.nil_append,K3,Bool.and_eq_true,Bool.not_eq_true',List.contains_eq_mem,decide_eq_false_iff_not]at h
  obtain⟨⟨h1,h2⟩,h3⟩:=h
  have later:∀(l d:List Nat),i∈d->K3 ops E d l=true->i∉l:=by
   intro l
   induction l with
   |nil=>intro _ _ _ h;cases h
   |cons y l ih =>
    intro d hd hm hmem
    simp only[K3,Bool.and_eq_true,Bool.not_eq_true',List.contains_eq_mem,decide_eq_false_iff_not]at hm
    obtain⟨⟨m1,_⟩,m3⟩:=hm
    rcases List.mem_cons.1 hmem with rfl|hmem
    ·exact m1 hd
    ·exact ih (y::d) (by simp[hd]) m3 hmem
  refine⟨by simp,h1,later l2 _ (by simp) h3,?_⟩
  split at h2
  ·rename_i o ho
   simp only[Bool.and_eq_true]at h2
   refine⟨o,ho,fun e he hb =>?_,fun x hx=>by cases hx⟩
   have:=Array.all_eq_true_iff_forall_mem.1 h2.1 e he
   simp only[hb,Bool.not_true,Bool.false_or,List.contains_eq_mem,decide_eq_true_eq]at this
   exact .inr this
  ·cases h2
 | y::l1,done,h=>by
  simp only[List.cons_append,K3,Bool.and_eq_true]at h
  obtain⟨h1,h2,h3,o,ho,he,hx⟩:=Hg l1 (y::done) h.2
  have hiy:i≠y:=fun e=>h2 (by simp[e])
  refine⟨by simp[hiy,h1],fun hd=>h2 (by simp[hd]),h3,o,ho,fun e hm hb =>?_,?_⟩
  ·rcases he e hm hb with h4|h4
   ·exact .inl (by simp[h4])
   ·rcases List.mem_cons.1 h4 with h5|h5
    ·exact .inl (by simp[h5])
    ·exact .inr h5
  ·intro x hmem
   rcases List.mem_cons.1 hmem with rfl|hmem
   ·have back:∀(l d:List Nat),x∈d->K3 ops E d (l++i::l2)=true->Ex ops ops.size i x=true\/(E.contains x=false /\ ∃ox,ops[x]? = some ox/\o.apart ops ox=true/\((isAl ox).isSome=true->(isAl o).isSome=true)):=by
     intro l
     induction l with
     | nil =>
      intro d hd hm
      simp only[List.nil_append,K3,Bool.and_eq_true,ho]at hm
      have:=List.all_eq_true.1 hm.1.2.2 x hd
      simp only[Bool.or_eq_true,Bool.and_eq_true,Bool.not_eq_true']at this
      rcases this.symm with h4|⟨h4,h5⟩
      ·exact .inl h4
      ·refine .inr ⟨h4,?_⟩
       split at h5
       ·rename_i ox hox
        simp only[Bool.and_eq_true,Bool.or_eq_true,Bool.not_eq_true']at h5
        exact⟨ox,hox,h5.1,fun hs=>by rcases h5.2 with h6|h6;rw[h6]at hs;cases hs;exact h6⟩
       ·cases h5
     |cons z l ih =>
      intro d hd hm
      simp only[List.cons_append,K3,Bool.and_eq_true]at hm
      exact ih (z::d) (by simp[hd]) hm.2
    exact back l1 _ (by simp) h.2
   ·exact hx x hmem
def HM(ops:Array Oper)(E ord:List Nat):Bool:=K3 ops E [] ord&&(List.range ops.size).all ord.contains&&ord.length==ops.size
def Rw(tab:Nat->Ty)(n:Nat)(ops:Array Oper):Bool:=ops.all fun o=>match isAl o with
 |some (t,T)=>decide (t<n)&&!A6 (tab T).k
 |none=>true
theorem Sp(ht:Ba P tab)(hN:P.funcs.size=N){ord:List Nat}(hB:HM ops E ord=true)(hA:Rw tab n ops=true){g0:G}{rr:Option Nat}(hr:RoRep g0 ro rr): ∀(m:Nat) (r:List Nat) (listed:Array Bool) (O:Fr) (V:Sig),r.length=m->listed.size=ops.size->
  r=ord.filter (fun i => !listed.getD i true)->Closed ops listed->MOps2 P ro n ops N S0 Q df tab E r O V->Sub S0 V->
   ∀(g:G) (w:World) (a:Act),g0.le g->SimS P g n ⟨O,V,df⟩ a w->wpAnyIn (FX P rr) 0 P .any ops (Post P g0 n Q) m listed a w:=by
 unfold HM at hB
 simp only[Bool.and_eq_true]at hB
 obtain⟨⟨hmix,hall⟩,_⟩:=hB
 have hmem:∀(r:List Nat) (listed:Array Bool),r=ord.filter (fun i => !listed.getD i true)->∀i∈Region.ready .any ops listed,i∈r:=by
  intro r listed hf i hi
  obtain⟨h1,o,ho,_⟩:=mem_ready.1 hi
  have:=List.all_eq_true.1 hall i (by simpa using(Array.getElem?_eq_some_iff.1 ho).1)
  rw[hf,List.mem_filter]
  exact⟨by simpa using this,by rw[h1];rfl⟩
 intro m
 induction m with
 |zero =>
  intro r listed O V hl hsz hf hcl h hC g w a hg hs
  obtain rfl:r=[]:=List.length_eq_zero_iff.1 hl
  refine⟨List.eq_nil_iff_forall_not_mem.2 fun i hi =>?_,?_⟩
  ·have:=hmem [] listed hf i hi;cases this
  ·exact Post.le hg (h g w a rr (hr.mono hg) hs)
 | succ m ih =>
  intro r listed O V hl hsz hf hcl h hC g w a hg hs
  obtain⟨y,t,rfl⟩:∃y t,r=y::t:=by cases r with|nil=>cases hl|cons y t=>exact⟨y,t,rfl⟩
  refine⟨fun he =>?_,fun i hi =>?_⟩
  ·exfalso
   obtain⟨l1,l2,hord,hl1,hy,hl2⟩:=List.filter_eq_cons_iff.1 hf.symm
   subst hord
   obtain⟨h1,_,_,o,ho,hea,_⟩:=Hg l1 [] hmix
   have:y∈Region.ready .any ops listed:=by
    refine mem_ready.2 ⟨by simpa using hy,o,ho,fun e hm hb =>?_⟩
    rcases hea e hm hb with h4|h4
    ·have h5:=hl1 _ h4
     simp only[Bool.not_eq_true,Bool.not_eq_false']at h5
     have hlt:e.on<listed.size:=by
      have:e.on∈l1++y::l2:=by simp[h4]
      obtain⟨p1,p2,hp⟩:=List.append_of_mem this
      rw[hp]at hmix
      obtain⟨_,_,_,o',ho',_⟩:=Hg p1 [] hmix
      rw[hsz];exact(Array.getElem?_eq_some_iff.1 ho').1
     simpa[hlt] using h5
    ·cases h4
   rw[he]at this;cases this
  ·obtain⟨pre,post,hsplit⟩:=List.append_of_mem (hmem _ listed hf i hi)
   rw[hsplit]at hf h hl
   obtain⟨l1',l2',hord,hf1,hf2⟩:=List.filter_eq_append_iff.1 hf.symm
   obtain⟨m1,m2,hl2',hm1,hiu,hf3⟩:=List.filter_eq_cons_iff.1 hf2
   have hord':ord=(l1'++m1)++i::m2:=by rw[hord,hl2'];simp
   rw[hord']at hmix
   obtain⟨n1,_,n3,o,ho,hea,hx⟩:=Hg (l1'++m1) [] hmix
   obtain⟨hiun,o',ho',hdone⟩:=mem_ready.1 hi
   obtain rfl:o'=o:=by rw[ho]at ho';cases ho';rfl
   have hfront:=J7 ho post pre O V (fun x hxp=>by
    have hx1:x∈l1'++m1:=by
     have:x∈l1'.filter (fun i => !listed.getD i true):=by rw[hf1];exact hxp
     simp[(List.mem_filter.1 this).1]
    have hxu:listed.getD x true=false:=by
     have:x∈l1'.filter (fun i => !listed.getD i true):=by rw[hf1];exact hxp
     simpa using(List.mem_filter.1 this).2
    rcases hx x hx1 with h4|h4
    ·exfalso
     have:=Cw hcl ops.size i x o' ho hdone h4
     rcases Nat.lt_or_ge x listed.size with hlt|hlt
     ·simp[hlt]at this hxu;rw[hxu]at this;cases this
     ·simp[Array.getElem?_eq_none hlt]at this
    ·exact h4) h
   have hnext:pre++post=ord.filter (fun j => !(listed.setIfInBounds i true).getD j true):=by
    have hil:i<listed.size:=by
     rw[hsz];exact(Array.getElem?_eq_some_iff.1 ho).1
    rw[hord',List.filter_append,List.filter_cons]
    have e1:(listed.setIfInBounds i true).getD i true=true:=by simp[hil]
    rw[e1,Aw n1,Aw n3]
    simp only[Bool.not_true,Bool.false_eq_true,if_false,List.filter_append,hf1,hf3]
    rw[List.filter_eq_nil_iff.2 (fun x hx=>by simpa using hm1 x hx),List.append_nil]
   have hlen:(pre++post).length=m:=by simp at hl⊢; omega
   obtain⟨o2,ho2,hh⟩:=hfront
   obtain rfl:o2=o':=by rw[ho]at ho2;cases ho2;rfl
   have hok:=Array.all_eq_true_iff_forall_mem.1 hA o2 (Array.mem_of_getElem? ho)
   unfold wpOpIn
   simp only[ho]
   cases hai:isAl o2 with
   | some p =>
    obtain⟨t,T⟩:=p
    rw[hai]at hok
    simp only[Bool.and_eq_true,decide_eq_true_eq,Bool.not_eq_true']at hok
    obtain⟨_,_,_,rfl⟩:=EX hai
    simp only[Step2,isAl]at hh
    refine D2 (Q:=Q) (R:=fun d S' => ∃k,V k=none/\d=.ptr k 0/\S'=V.set k (.cells (tab T).zero)) (Rp:=fun _ _=>False) (hr.mono hg) hg hs ⟨by simp[At,hok.1],rfl,?_⟩ (fun g' w' a' d S' hg' hR hs' =>?_) fun _ _ h=>h.elim
    ·exact DV ht hok.2 hok.1 fun k hk=>AL ⟨rfl,k,hk,by simp[Aa],rfl⟩
    ·obtain⟨k,hk,rfl,rfl⟩:=hR
     exact ih _ _ _ _ hlen (by simpa using hsz) hnext (hcl.set hi) (hh k hk) (fun i o h=>(Sub.refl _).set hk i o (hC i o h)) g' w' a' (hg.trans hg') hs'
   |none =>
    simp only[Step2,hai]at hh
    rcases hh with⟨d,hy,hM⟩|⟨_,hE⟩
    ·exact EK (Q:=Q) hN (hr.mono hg) hg hs hC hy fun g' w' a' hg' hs'=>ih _ _ _ _ hlen (by simpa using hsz) hnext (hcl.set hi) hM hC g' w' a' (hg.trans hg') hs'
    ·exact D2 (Q:=Q) (hr.mono hg) hg hs hE (fun g' w' a' d S' hg' hR hs'=>ih _ _ _ _ hlen (by simpa using hsz) hnext (hcl.set hi) hR.2 hR.1 g' w' a' (hg.trans hg') hs') fun d S' hp=>hp
theorem I2: ∀{ord:List Nat} {O:Fr} {V:Sig},(∀i∈ord,i<ops.size)->MO2 P ro n ops N S0 Q df tab (pick ops E ord) O V->MOps2 P ro n ops N S0 Q df tab E ord O V
 |[],_,_,_,h=>h
 | i::r,O,V,hlt,h=>by
  have hi:ops[i]? = some ops[i]! := by
   have:=hlt i (by simp)
   simp[this]
  have hp:pick ops E (i::r)=(E.contains i,ops[i]!)::pick ops E r:=by
   unfold pick
   rw[List.filterMap_cons,hi]
   rfl
  rw[hp]at h
  refine⟨_,hi,?_⟩
  refine Step2.mono h (fun _=>rfl) fun O U' V hal h=>MOps2.alike _ hal (I2 (fun j hj=>hlt j (by simp[hj])) h)
theorem Wq(ht:Ba P tab)(hN:P.funcs.size=N)(hm:P.follows .mixedOrders=true){l:List Oper}{id:Nat}{O:Fr}{V:Sig}(ord E:List Nat)(S0:Sig)(hB:HM l.toArray E ord=true)(hA:Rw tab n l.toArray=true)(hC:Sub S0 V)
  {lp:List (Bool×Oper)} (hlp:GB l E ord=some lp) (h:MO2 P ro n l.toArray N S0 Q df tab lp O V):DWp P ro n (.region id l.toArray true) Q ⟨O,V,df⟩:=by
 intro g w a r hr hs
 refine wpIn_region_any hm ?_
 have hcl:Closed l.toArray (Array.replicate l.toArray.size false):=by
  intro q o _ hq
  rcases Nat.lt_or_ge q l.length with h'|h'
  ·simp[h']at hq
  ·simp[h']at hq
 have hs':SimS P g n ⟨O,V,df⟩ a { w with drawn:=w.drawn+1 } :=
  ⟨⟨fun b o v h=>hs.sim.imm b o v h,hs.sim.keep,fun i o h=>by
   have:=hs.sim.obj i o h
   cases o<;>exact this,hs.sim.inj,hs.sim.free,hs.sim.htop,hs.sim.hdom,hs.sim.fin,hs.sim.io⟩,hs.tmps,hs.df⟩
 have hlt:∀i∈ord,i<l.toArray.size:=by
  intro i hi
  obtain⟨p1,p2,hp⟩:=List.append_of_mem hi
  have hB':=hB
  unfold HM at hB'
  simp only[Bool.and_eq_true]at hB'
  rw[hp]at hB'
  obtain⟨_,_,_,o',ho',_⟩:=Hg p1 [] hB'.1.1
  exact(Array.getElem?_eq_some_iff.1 ho').1
 have hlen:ord.length=l.toArray.size:=by
  have hB':=hB
  unfold HM at hB'
  simp only[Bool.and_eq_true,beq_iff_eq]at hB'
  exact hB'.2
 have:=Sp ht hN hB hA hr ord.length ord (Array.replicate l.toArray.size false) O V rfl (by simp) (Di hlt).symm hcl (I2 hlt (by rw[IY hlp];exact h)) hC g _ a (.refl g) hs'
 rw[hlen]at this
 exact this
theorem FB: ∀{l:List (Bool×Oper)} {O:Fr} {V:Sig},(l.all fun p => !(isAl p.2).isSome)=true->MO P ro n ops N S0 Q df l O V->MO2 P ro n ops N S0 Q df tab l O V
 |[],_,_,_,h=>h
 |(e,o)::l,O,V,hl,h=>by
  simp only[List.all_cons,Bool.and_eq_true,Bool.not_eq_true']at hl
  have hn:isAl o=none:=by cases h:isAl o with|none=>rfl|some _=>rw[h]at hl;simp at hl
  show Step2 P ro n ops N S0 Q df tab e o O V _
  simp only[Step2,hn]
  rcases h with⟨d,h2,h3⟩|⟨h1,h2⟩
  ·exact .inl ⟨d,h2,FB hl.2 h3⟩
  ·exact .inr ⟨h1,h2.congr (fun _ _=>rfl) fun d S' ⟨h3,h4⟩=>⟨h3,FB hl.2 h4⟩⟩
theorem EC{e:Bool}{t T:Nat}{ty:TypeId}{pos:String}{after:Array Edge}{l:List (Bool×Oper)}{O:Fr}{V:Sig}(h:∀k,V k=none->MO2 P ro n ops N S0 Q df tab l ((t,.ptr k 0)::O) (V.set k (.cells (tab T).zero))):
  MO2 P ro n ops N S0 Q df tab ((e,⟨some t,.alloc T,ty,pos,after,none⟩)::l) O V:=h
theorem VA{e:Bool}{o:Oper}{l:List (Bool×Oper)}{O:Fr}{V:Sig}{d:D}(ha:isAl o=none)(hc:Calm P n ops N S0 O o d)(h:MO2 P ro n ops N S0 Q df tab l (putD o.dst d O) V):
  MO2 P ro n ops N S0 Q df tab ((e,o)::l) O V:=by
 show Step2 P ro n ops N S0 Q df tab e o O V _
 simp only[Step2,ha]
 exact .inl ⟨d,hc,h⟩
theorem Ay(ht:Ba P tab){e:Bool}{t:Nat}{op:Op}{ty:TypeId}{pos:String}{after:Array Edge}{d:D}{l:List (Bool×Oper)}{O Sr:Fr}{V:Sig}(hr:E4 op=true)(htn:decide (t<n)=true)(hl:A5 O (A9 op.operands.toList)=some Sr)(hd:dopX tab Sr S0 op=some d)
  (h:MO2 P ro n ops N S0 Q df tab l ((t,d)::O) V):MO2 P ro n ops N S0 Q df tab ((e,⟨some t,op,ty,pos,after,none⟩)::l) O V:=by
 have hd':=(Be (C3 hl)) ▸ hd
 refine VA (d:=d) ?_ ⟨htn,.inl ⟨by rw[B5];rfl,CF hr,JY ht hd',fun S' hZ g w a hs hT =>?_⟩⟩ h
 ·unfold isAl;split
  ·rename_i heq;cases heq;cases hr
  ·rfl
 ·refine FT ht hs hT (?_:dopX tab (only _ O) S' op=some d)
  rw[Be (U':=O) fun x hx=>Cd (o:=⟨some t,op,ty,pos,after,none⟩) hx]
  exact Hu hZ hd'
end
section
variable (P:Program)(ro:Option Nat)(n:Nat)(ops:Array Oper)(N:Nat)(S0:Sig)(Q:DX->St->Prop)(df:List DDf)(tab:Nat->Ty)
def USt(o:Oper)(O:Fr)(V:Sig)(K:Fr->Sig->Prop):Prop :=
 (∃(dj:Nat->D) (x:DObj),(∀τ,Eff P ro n ops df O τ o (fun d' V' => ∃j,τ j=none/\d'=dj j/\V'=τ.set j x) (fun _ _=>False)) /\ ∀j,V j=none->K (putD o.dst (dj j) O) (V.set j x)) \/
 (∃(j:Nat) (y x:DObj) (d:D),V j=some y/\S0 j=none/\(∀τ,τ j=some y->Eff P ro n ops df O τ o (fun d' V'=>d'=d/\V'=τ.set j x) (fun _ _=>False))/\K (putD o.dst d O) (V.set j x))
def Step3(e u:Bool)(o:Oper)(O:Fr)(V:Sig)(K:Fr->Sig->Prop):Prop :=
 match isAl o with
 |some (t,T) => ∀k,V k=none->K ((t,.ptr k 0)::O) (V.set k (.cells (tab T).zero))
 |none=>(∃d,Calm P n ops N S0 O o d/\K (putD o.dst d O) V) \/
  (e=true/\Eff P ro n ops df O V o (fun d S'=>Sub S0 S'/\K (putD o.dst d O) S') (fun d S' => ∀U',Q (.panic d) ⟨U',S',df⟩)) \/
  (u=true/\USt P ro n ops S0 df o O V K)
def MOps3(E U:List Nat):List Nat->Fr->Sig->Prop
 |[],O,V=>DOps P ro n ops Q [] ⟨O,V,df⟩
 |i::r,O,V => ∃o,ops[i]? = some o/\Step3 P ro n ops N S0 Q df tab (E.contains i) (U.contains i) o O V (MOps3 E U r)
def MO3:List (Bool×Bool×Oper)->Fr->Sig->Prop
 |[],O,V=>DOps P ro n ops Q [] ⟨O,V,df⟩
 |(e,u,o)::r,O,V=>Step3 P ro n ops N S0 Q df tab e u o O V (MO3 r)
end
section
variable {P:Program}{ro:Option Nat}{n:Nat}{ops:Array Oper}{N:Nat}{S0:Sig}{Q:DX->St->Prop}{df:List DDf}{E U:List Nat}{tab:Nat->Ty}
theorem USt.congr{o:Oper}{O U':Fr}{V:Sig}{K K':Fr->Sig->Prop}(h:USt P ro n ops S0 df o O V K)(hal:∀t∈o.looksAt ops,getD O t=getD U' t)(hK:∀d S',K (putD o.dst d O) S'->K' (putD o.dst d U') S'):USt P ro n ops S0 df o U' V K':=by
 rcases h with⟨dj,x,hE,h⟩|⟨j,y,x,d,hj,h0,hE,h⟩
 ·exact .inl ⟨dj,x,fun τ=>(hE τ).congr hal fun _ _ h=>h,fun j hj=>hK _ _ (h j hj)⟩
 ·exact .inr ⟨j,y,x,d,hj,h0,fun τ hO=>(hE τ hO).congr hal fun _ _ h=>h,hK _ _ h⟩
theorem Step3.mono{e u:Bool}{o:Oper}{O U':Fr}{V:Sig}{K K':Fr->Sig->Prop}(h:Step3 P ro n ops N S0 Q df tab e u o O V K)(hal:Alike O U')(hK:∀O U' V,Alike O U'->K O V->K' U' V):Step3 P ro n ops N S0 Q df tab e u o U' V K':=by
 unfold Step3 at h⊢
 split at h
 ·exact fun k hk=>hK _ _ _ (hal.put (some _) _) (h k hk)
 ·rcases h with⟨d,h2,h3⟩|⟨h1,h2⟩|⟨h1,h2⟩
  ·exact .inl ⟨d,h2.congr fun t _=>hal t,hK _ _ _ (hal.put _ _) h3⟩
  ·exact .inr (.inl ⟨h1,h2.congr (fun t _=>hal t) fun d S' ⟨h3,h4⟩=>⟨h3,hK _ _ _ (hal.put _ _) h4⟩⟩)
  ·exact .inr (.inr ⟨h1,h2.congr (fun t _=>hal t) fun d S' h4=>hK _ _ _ (hal.put _ _) h4⟩)
theorem MOps3.alike: ∀(l:List Nat) {O U':Fr} {V:Sig},Alike O U'->MOps3 P ro n ops N S0 Q df tab E U l O V->MOps3 P ro n ops N S0 Q df tab E U l U' V
 |[],_,_,_,h,k=>CP h k
 |i::r,_,_,_,h,⟨o,ho,k⟩=>⟨o,ho,k.mono h fun _ _ _ h' k'=>MOps3.alike r h' k'⟩
theorem J6{i:Nat}{oi:Oper}(hi:ops[i]? = some oi)(post:List Nat): ∀(pre:List Nat) (O:Fr) (V:Sig),
  (∀x∈pre,E.contains x=false/\(U.contains x=true->(isAl oi).isSome=true) /\ ∃ox,ops[x]? = some ox/\oi.apart ops ox=true/\((isAl ox).isSome=true->(isAl oi).isSome=true))->MOps3 P ro n ops N S0 Q df tab E U (pre++i::post) O V->MOps3 P ro n ops N S0 Q df tab E U (i::(pre++post)) O V
 |[],_,_,_,h=>h
 | x::pre,O,V,hp,h=>by
  obtain⟨hxE,hxU,ox,hox,hap,hal⟩:=hp x (by simp)
  obtain⟨a1,a2,a3⟩:=Oper.apart_spec hap
  obtain⟨ox',hox',hx⟩:=h
  obtain rfl:ox'=ox:=by rw[hox]at hox';cases hox';rfl
  have ih:∀O V,MOps3 P ro n ops N S0 Q df tab E U (pre++i::post) O V->MOps3 P ro n ops N S0 Q df tab E U (i::(pre++post)) O V:=fun O V=>J6 hi post pre O V fun y hy=>hp y (by simp[hy])
  refine⟨oi,hi,?_⟩
  cases hax:isAl ox' with
  | some p =>
   obtain⟨t,T⟩:=p
   cases hai:isAl oi with
   |none=>rw[hax,hai]at hal;simp at hal
   | some q =>
    obtain⟨t',T'⟩:=q
    obtain⟨_,_,_,rfl⟩:=EX hax
    obtain⟨_,_,_,rfl⟩:=EX hai
    simp only[Step3,isAl]at hx⊢
    intro k' hk'
    refine⟨_,hox,?_⟩
    simp only[Step3,isAl]
    intro k hk
    have hne:k≠k':=by
     rintro rfl
     simp[Sig.set]at hk
    have hk0:V k=none:=by rw[w8 _ _ hne]at hk;exact hk
    obtain⟨oi',hoi',hh⟩:=ih _ _ (hx k hk0)
    rw[hi]at hoi';cases hoi'
    simp only[Step3,isAl]at hh
    have h3:=hh k' (by rw[w8 _ _ (Ne.symm hne)];exact hk')
    rw[set_comm V hne]at h3
    exact MOps3.alike _ (BD (a:=some t') (b:=some t) _ _ _ fun t p q=>a2 t p q) h3
  | none =>
   simp only[Step3,hax]at hx
   rcases hx with⟨d,hy,h⟩|⟨hE,_⟩|⟨hUx,hu⟩
   ·obtain⟨oi',hoi',hh⟩:=ih _ V h
    rw[hi]at hoi';cases hoi'
    cases hai:isAl oi with
    |some q =>
     obtain⟨t',T'⟩:=q
     obtain⟨_,_,_,rfl⟩:=EX hai
     simp only[Step3,isAl]at hh⊢
     intro k' hk'
     refine⟨ox',hox,?_⟩
     simp only[Step3,hax]
     refine .inl ⟨d,hy.congr fun t ht=>(AI (dst:=some t') fun hd=>a1 t hd ht).symm,?_⟩
     exact MOps3.alike _ (BD _ _ _ fun t p q=>a2 t p q) (hh k' hk')
    | none =>
     simp only[Step3,hai]at hh⊢
     rcases hh with⟨e,h2,h3⟩|⟨h1,h2⟩|⟨h1,h2⟩
     ·refine .inl ⟨e,h2.congr fun t ht=>AI fun hd=>a3 t hd ht,ox',hox,?_⟩
      simp only[Step3,hax]
      refine .inl ⟨d,hy.congr fun t ht=>(AI fun hd=>a1 t hd ht).symm,?_⟩
      exact MOps3.alike _ (BD _ _ _ fun t p q=>a2 t p q) h3
     ·refine .inr (.inl ⟨h1,h2.congr (fun t ht=>AI fun hd=>a3 t hd ht) fun e S' ⟨h3,h4⟩=>⟨h3,ox',hox,?_⟩⟩)
      simp only[Step3,hax]
      refine .inl ⟨d,hy.congr fun t ht=>(AI fun hd=>a1 t hd ht).symm,?_⟩
      exact MOps3.alike _ (BD _ _ _ fun t p q=>a2 t p q) h4
     ·refine .inr (.inr ⟨h1,h2.congr (fun t ht=>AI fun hd=>a3 t hd ht) fun e S' h4=>⟨ox',hox,?_⟩⟩)
      simp only[Step3,hax]
      refine .inl ⟨d,hy.congr fun t ht=>(AI fun hd=>a1 t hd ht).symm,?_⟩
      exact MOps3.alike _ (BD _ _ _ fun t p q=>a2 t p q) h4
   ·rw[hxE]at hE;cases hE
   ·cases hai:isAl oi with
    |none=>rw[hai]at hxU;exact absurd (hxU hUx) (by simp)
    | some q =>
     obtain⟨t',T'⟩:=q
     obtain⟨_,_,_,rfl⟩:=EX hai
     simp only[Step3,isAl]
     intro k hk
     refine⟨ox',hox,?_⟩
     simp only[Step3,hax]
     refine .inr (.inr ⟨hUx,?_⟩)
     rcases hu with⟨dj,xo,hE,hK⟩|⟨j,y,xo,d,hj,h0,hE,hK⟩
     ·refine .inl ⟨dj,xo,fun τ=>(hE τ).congr (fun t ht=>(AI (dst:=some t') fun hd=>a1 t hd ht).symm) fun _ _ h=>h,fun j hj =>?_⟩
      have hne:j≠k:=by
       rintro rfl
       simp[Sig.set]at hj
      have hj0:V j=none:=by rw[w8 _ _ hne]at hj;exact hj
      obtain⟨oi',hoi',hh⟩:=ih _ _ (hK j hj0)
      rw[hi]at hoi';cases hoi'
      simp only[Step3,isAl]at hh
      have h3:=hh k (by rw[w8 _ _ (Ne.symm hne)];exact hk)
      rw[set_comm V hne]at h3
      exact MOps3.alike _ (BD (a:=some t') (b:=ox'.dst) _ _ _ fun t p q=>a2 t p q) h3
     ·have hne:j≠k:=fun e=>by rw[e,hk]at hj;cases hj
      refine .inr ⟨j,y,xo,d,by rw[w8 _ _ hne];exact hj,h0,fun τ hO=>(hE τ hO).congr (fun t ht=>(AI (dst:=some t') fun hd=>a1 t hd ht).symm) fun _ _ h=>h,?_⟩
      obtain⟨oi',hoi',hh⟩:=ih _ _ hK
      rw[hi]at hoi';cases hoi'
      simp only[Step3,isAl]at hh
      have h3:=hh k (by rw[w8 _ _ (Ne.symm hne)];exact hk)
      rw[set_comm V hne]at h3
      exact MOps3.alike _ (BD (a:=some t') (b:=ox'.dst) _ _ _ fun t p q=>a2 t p q) h3
def K2(ops:Array Oper)(E U:List Nat):List Nat->List Nat->Bool
 |_,[]=>true
 | done,i::r => !done.contains i && (match ops[i]? with
  |some o=>(o.after.all fun e => !Region.binds .any e||done.contains e.on)&&done.all fun x=>(!E.contains x&&(!U.contains x||(isAl o).isSome)&&match ops[x]? with
   |some ox=>o.apart ops ox&&(!(isAl ox).isSome||(isAl o).isSome)
   |none=>false)||Ex ops ops.size i x
  |none=>false)&&K2 ops E U (i::done) r
theorem Hf {i:Nat} {l2:List Nat} : ∀ (l1 done:List Nat),K2 ops E U done (l1++i::l2)=true->i ∉ l1/\i ∉ done/\i ∉ l2 /\ ∃ o,ops[i]? = some o/\(∀ e ∈ o.after,Region.binds .any e=true->e.on ∈ l1\/e.on ∈ done) /\
   ∀x,x∈l1->Ex ops ops.size i x=true\/(E.contains x=false/\(U.contains x=true->(isAl o).isSome=true) /\ ∃ox,ops[x]? = some ox/\o.apart ops ox=true/\((isAl ox).isSome=true->(isAl o).isSome=true))
 | [],done,h=>by
  simp only[List.nil_append,K2,Bool.and_eq_true,Bool.not_eq_true',List.contains_eq_mem,decide_eq_false_iff_not]at h
  obtain⟨⟨h1,h2⟩,h3⟩:=h
  have later:∀(l d:List Nat),i∈d->K2 ops E U d l=true->i∉l:=by
   intro l
   induction l with
   |nil=>intro _ _ _ h;cases h
   |cons y l ih =>
    intro d hd hm hmem
    simp only[K2,Bool.and_eq_true,Bool.not_eq_true',List.contains_eq_mem,decide_eq_false_iff_not]at hm
    obtain⟨⟨m1,_⟩,m3⟩:=hm
    rcases List.mem_cons.1 hmem with rfl|hmem
    ·exact m1 hd
    ·exact ih (y::d) (by simp[hd]) m3 hmem
  refine⟨by simp,h1,later l2 _ (by simp) h3,?_⟩
  split at h2
  ·rename_i o ho
   simp only[Bool.and_eq_true]at h2
   refine⟨o,ho,fun e he hb =>?_,fun x hx=>by cases hx⟩
   have:=Array.all_eq_true_iff_forall_mem.1 h2.1 e he
   simp only[hb,Bool.not_true,Bool.false_or,List.contains_eq_mem,decide_eq_true_eq]at this
   exact .inr this
  ·cases h2
 | y::l1,done,h=>by
  simp only[List.cons_append,K2,Bool.and_eq_true]at h
  obtain⟨h1,h2,h3,o,ho,he,hx⟩:=Hf l1 (y::done) h.2
  have hiy:i≠y:=fun e=>h2 (by simp[e])
  refine⟨by simp[hiy,h1],fun hd=>h2 (by simp[hd]),h3,o,ho,fun e hm hb =>?_,?_⟩
  ·rcases he e hm hb with h4|h4
   ·exact .inl (by simp[h4])
   ·rcases List.mem_cons.1 h4 with h5|h5
    ·exact .inl (by simp[h5])
    ·exact .inr h5
  ·intro x hmem
   rcases List.mem_cons.1 hmem with rfl|hmem
   ·have back:∀(l d:List Nat),x∈d->K2 ops E U d (l++i::l2)=true->Ex ops ops.size i x=true\/(E.contains x=false/\(U.contains x=true->(isAl o).isSome=true) /\ ∃ox,ops[x]? = some ox/\o.apart ops ox=true/\((isAl ox).isSome=true->(isAl o).isSome=true)):=by
     intro l
     induction l with
     | nil =>
      intro d hd hm
      simp only[List.nil_append,K2,Bool.and_eq_true,ho]at hm
      have:=List.all_eq_true.1 hm.1.2.2 x hd
      simp only[Bool.or_eq_true,Bool.and_eq_true,Bool.not_eq_true']at this
      rcases this.symm with h4|⟨⟨h4,hu⟩,h5⟩
      ·exact .inl h4
      ·refine .inr ⟨h4,(fun hux=>hu.resolve_left fun h=>by rw[hux]at h;cases h),?_⟩
       split at h5
       ·rename_i ox hox
        simp only[Bool.and_eq_true,Bool.or_eq_true,Bool.not_eq_true']at h5
        exact⟨ox,hox,h5.1,fun hs=>by rcases h5.2 with h6|h6;rw[h6]at hs;cases hs;exact h6⟩
       ·cases h5
     |cons z l ih =>
      intro d hd hm
      simp only[List.cons_append,K2,Bool.and_eq_true]at hm
      exact ih (z::d) (by simp[hd]) hm.2
    exact back l1 _ (by simp) h.2
   ·exact hx x hmem
def HL(ops:Array Oper)(E U ord:List Nat):Bool:=K2 ops E U [] ord&&(List.range ops.size).all ord.contains&&ord.length==ops.size
theorem So(ht:Ba P tab)(hN:P.funcs.size=N){ord:List Nat}(hB:HL ops E U ord=true)(hA:Rw tab n ops=true){g0:G}{rr:Option Nat}(hr:RoRep g0 ro rr): ∀(m:Nat) (r:List Nat) (listed:Array Bool) (O:Fr) (V:Sig),r.length=m->listed.size=ops.size->
  r=ord.filter (fun i => !listed.getD i true)->Closed ops listed->MOps3 P ro n ops N S0 Q df tab E U r O V->Sub S0 V->
   ∀(g:G) (w:World) (a:Act),g0.le g->SimS P g n ⟨O,V,df⟩ a w->wpAnyIn (FX P rr) 0 P .any ops (Post P g0 n Q) m listed a w:=by
 unfold HL at hB
 simp only[Bool.and_eq_true]at hB
 obtain⟨⟨hmix,hall⟩,_⟩:=hB
 have hmem:∀(r:List Nat) (listed:Array Bool),r=ord.filter (fun i => !listed.getD i true)->∀i∈Region.ready .any ops listed,i∈r:=by
  intro r listed hf i hi
  obtain⟨h1,o,ho,_⟩:=mem_ready.1 hi
  have:=List.all_eq_true.1 hall i (by simpa using(Array.getElem?_eq_some_iff.1 ho).1)
  rw[hf,List.mem_filter]
  exact⟨by simpa using this,by rw[h1];rfl⟩
 intro m
 induction m with
 |zero =>
  intro r listed O V hl hsz hf hcl h hC g w a hg hs
  obtain rfl:r=[]:=List.length_eq_zero_iff.1 hl
  refine⟨List.eq_nil_iff_forall_not_mem.2 fun i hi =>?_,?_⟩
  ·have:=hmem [] listed hf i hi;cases this
  ·exact Post.le hg (h g w a rr (hr.mono hg) hs)
 | succ m ih =>
  intro r listed O V hl hsz hf hcl h hC g w a hg hs
  obtain⟨y,t,rfl⟩:∃y t,r=y::t:=by cases r with|nil=>cases hl|cons y t=>exact⟨y,t,rfl⟩
  refine⟨fun he =>?_,fun i hi =>?_⟩
  ·exfalso
   obtain⟨l1,l2,hord,hl1,hy,hl2⟩:=List.filter_eq_cons_iff.1 hf.symm
   subst hord
   obtain⟨h1,_,_,o,ho,hea,_⟩:=Hf l1 [] hmix
   have:y∈Region.ready .any ops listed:=by
    refine mem_ready.2 ⟨by simpa using hy,o,ho,fun e hm hb =>?_⟩
    rcases hea e hm hb with h4|h4
    ·have h5:=hl1 _ h4
     simp only[Bool.not_eq_true,Bool.not_eq_false']at h5
     have hlt:e.on<listed.size:=by
      have:e.on∈l1++y::l2:=by simp[h4]
      obtain⟨p1,p2,hp⟩:=List.append_of_mem this
      rw[hp]at hmix
      obtain⟨_,_,_,o',ho',_⟩:=Hf p1 [] hmix
      rw[hsz];exact(Array.getElem?_eq_some_iff.1 ho').1
     simpa[hlt] using h5
    ·cases h4
   rw[he]at this;cases this
  ·obtain⟨pre,post,hsplit⟩:=List.append_of_mem (hmem _ listed hf i hi)
   rw[hsplit]at hf h hl
   obtain⟨l1',l2',hord,hf1,hf2⟩:=List.filter_eq_append_iff.1 hf.symm
   obtain⟨m1,m2,hl2',hm1,hiu,hf3⟩:=List.filter_eq_cons_iff.1 hf2
   have hord':ord=(l1'++m1)++i::m2:=by rw[hord,hl2'];simp
   rw[hord']at hmix
   obtain⟨n1,_,n3,o,ho,hea,hx⟩:=Hf (l1'++m1) [] hmix
   obtain⟨hiun,o',ho',hdone⟩:=mem_ready.1 hi
   obtain rfl:o'=o:=by rw[ho]at ho';cases ho';rfl
   have hfront:=J6 ho post pre O V (fun x hxp=>by
    have hx1:x∈l1'++m1:=by
     have:x∈l1'.filter (fun i => !listed.getD i true):=by rw[hf1];exact hxp
     simp[(List.mem_filter.1 this).1]
    have hxu:listed.getD x true=false:=by
     have:x∈l1'.filter (fun i => !listed.getD i true):=by rw[hf1];exact hxp
     simpa using(List.mem_filter.1 this).2
    rcases hx x hx1 with h4|h4
    ·exfalso
     have:=Cw hcl ops.size i x o' ho hdone h4
     rcases Nat.lt_or_ge x listed.size with hlt|hlt
     ·simp[hlt]at this hxu;rw[hxu]at this;cases this
     ·simp[Array.getElem?_eq_none hlt]at this
    ·exact h4) h
   have hnext:pre++post=ord.filter (fun j => !(listed.setIfInBounds i true).getD j true):=by
    have hil:i<listed.size:=by
     rw[hsz];exact(Array.getElem?_eq_some_iff.1 ho).1
    rw[hord',List.filter_append,List.filter_cons]
    have e1:(listed.setIfInBounds i true).getD i true=true:=by simp[hil]
    rw[e1,Aw n1,Aw n3]
    simp only[Bool.not_true,Bool.false_eq_true,if_false,List.filter_append,hf1,hf3]
    rw[List.filter_eq_nil_iff.2 (fun x hx=>by simpa using hm1 x hx),List.append_nil]
   have hlen:(pre++post).length=m:=by simp at hl⊢; omega
   obtain⟨o2,ho2,hh⟩:=hfront
   obtain rfl:o2=o':=by rw[ho]at ho2;cases ho2;rfl
   have hok:=Array.all_eq_true_iff_forall_mem.1 hA o2 (Array.mem_of_getElem? ho)
   unfold wpOpIn
   simp only[ho]
   cases hai:isAl o2 with
   | some p =>
    obtain⟨t,T⟩:=p
    rw[hai]at hok
    simp only[Bool.and_eq_true,decide_eq_true_eq,Bool.not_eq_true']at hok
    obtain⟨_,_,_,rfl⟩:=EX hai
    simp only[Step3,isAl]at hh
    refine D2 (Q:=Q) (R:=fun d S' => ∃k,V k=none/\d=.ptr k 0/\S'=V.set k (.cells (tab T).zero)) (Rp:=fun _ _=>False) (hr.mono hg) hg hs ⟨by simp[At,hok.1],rfl,?_⟩ (fun g' w' a' d S' hg' hR hs' =>?_) fun _ _ h=>h.elim
    ·exact DV ht hok.2 hok.1 fun k hk=>AL ⟨rfl,k,hk,by simp[Aa],rfl⟩
    ·obtain⟨k,hk,rfl,rfl⟩:=hR
     exact ih _ _ _ _ hlen (by simpa using hsz) hnext (hcl.set hi) (hh k hk) (fun i o h=>(Sub.refl _).set hk i o (hC i o h)) g' w' a' (hg.trans hg') hs'
   | none =>
    simp only[Step3,hai]at hh
    rcases hh with⟨d,hy,hM⟩|⟨_,hE⟩|⟨_,hu⟩
    ·exact EK (Q:=Q) hN (hr.mono hg) hg hs hC hy fun g' w' a' hg' hs'=>ih _ _ _ _ hlen (by simpa using hsz) hnext (hcl.set hi) hM hC g' w' a' (hg.trans hg') hs'
    ·exact D2 (Q:=Q) (hr.mono hg) hg hs hE (fun g' w' a' d S' hg' hR hs'=>ih _ _ _ _ hlen (by simpa using hsz) hnext (hcl.set hi) hR.2 hR.1 g' w' a' (hg.trans hg') hs') fun d S' hp=>hp
    ·rcases hu with⟨dj,x,hE,hK⟩|⟨j,y,x,d,hj,h0,hE,hK⟩
     ·refine D2 (Q:=Q) (hr.mono hg) hg hs (hE V) (fun g' w' a' d S' hg' hR hs' =>?_) fun _ _ h=>h.elim
      obtain⟨j,hj,rfl,rfl⟩:=hR
      exact ih _ _ _ _ hlen (by simpa using hsz) hnext (hcl.set hi) (hK j hj) (fun i o h=>(Sub.refl _).set hj i o (hC i o h)) g' w' a' (hg.trans hg') hs'
     ·refine D2 (Q:=Q) (hr.mono hg) hg hs (hE V hj) (fun g' w' a' d' S' hg' hR hs' =>?_) fun _ _ h=>h.elim
      obtain⟨rfl,rfl⟩:=hR
      exact ih _ _ _ _ hlen (by simpa using hsz) hnext (hcl.set hi) hK (fun i o h=>by rw[w8 _ _ fun e=>by rw[e,h0]at h;cases h];exact hC i o h) g' w' a' (hg.trans hg') hs'
def RV(ops:List Oper)(E U:List Nat):List Nat->Option (List (Bool×Bool×Oper))
 |[]=>some []
 | i::r=>match nthO ops i with
  |some o=>match RV ops E U r with
   |some l=>some ((E.contains i,U.contains i,o)::l)
   |none=>none
  |none=>none
theorem I1{lo:List Oper}: ∀{ord:List Nat} {lp:List (Bool×Bool×Oper)} {O:Fr} {V:Sig},RV lo E U ord=some lp->MO3 P ro n lo.toArray N S0 Q df tab lp O V->MOps3 P ro n lo.toArray N S0 Q df tab E U ord O V
 |[],_,_,_,hp,h=>by cases hp;exact h
 |i::r,lp,O,V,hp,h=>by
  simp only[RV]at hp
  split at hp<;>(try (cases hp;done))
  rename_i o ho
  split at hp<;>(try (cases hp;done))
  rename_i l hl
  cases hp
  refine⟨o,by rw[J1]at ho;simpa using ho,?_⟩
  exact Step3.mono h (fun _=>rfl) fun O U' V hal h=>MOps3.alike _ hal (I1 hl h)
theorem Wn(ht:Ba P tab)(hN:P.funcs.size=N)(hm:P.follows .mixedOrders=true){l:List Oper}{id:Nat}{O:Fr}{V:Sig}(ord E U:List Nat)(S0:Sig)(hB:HL l.toArray E U ord=true)(hA:Rw tab n l.toArray=true)(hC:Sub S0 V)
  {lp:List (Bool×Bool×Oper)} (hlp:RV l E U ord=some lp) (h:MO3 P ro n l.toArray N S0 Q df tab lp O V):DWp P ro n (.region id l.toArray true) Q ⟨O,V,df⟩:=by
 intro g w a r hr hs
 refine wpIn_region_any hm ?_
 have hcl:Closed l.toArray (Array.replicate l.toArray.size false):=by
  intro q o _ hq
  rcases Nat.lt_or_ge q l.length with h'|h'
  ·simp[h']at hq
  ·simp[h']at hq
 have hs':SimS P g n ⟨O,V,df⟩ a { w with drawn:=w.drawn+1 } :=
  ⟨⟨fun b o v h=>hs.sim.imm b o v h,hs.sim.keep,fun i o h=>by
   have:=hs.sim.obj i o h
   cases o<;>exact this,hs.sim.inj,hs.sim.free,hs.sim.htop,hs.sim.hdom,hs.sim.fin,hs.sim.io⟩,hs.tmps,hs.df⟩
 have hlt:∀i∈ord,i<l.toArray.size:=by
  intro i hi
  obtain⟨p1,p2,hp⟩:=List.append_of_mem hi
  have hB':=hB
  unfold HL at hB'
  simp only[Bool.and_eq_true]at hB'
  rw[hp]at hB'
  obtain⟨_,_,_,o',ho',_⟩:=Hf p1 [] hB'.1.1
  exact(Array.getElem?_eq_some_iff.1 ho').1
 have hlen:ord.length=l.toArray.size:=by
  have hB':=hB
  unfold HL at hB'
  simp only[Bool.and_eq_true,beq_iff_eq]at hB'
  exact hB'.2
 have:=So ht hN hB hA hr ord.length ord (Array.replicate l.toArray.size false) O V rfl (by simp) (Di hlt).symm hcl (I1 hlp h) hC g _ a (.refl g) hs'
 rw[hlen]at this
 exact this
theorem J9: ∀{l:List (Bool×Bool×Oper)} {O:Fr} {V:Sig},(l.all fun p => !(isAl p.2.2).isSome)=true->MO P ro n ops N S0 Q df (l.map fun p=>(p.1,p.2.2)) O V->MO3 P ro n ops N S0 Q df tab l O V
 |[],_,_,_,h=>h
 |(e,u,o)::l,O,V,hl,h=>by
  simp only[List.all_cons,Bool.and_eq_true,Bool.not_eq_true']at hl
  have hn:isAl o=none:=by cases h:isAl o with|none=>rfl|some _=>rw[h]at hl;simp at hl
  show Step3 P ro n ops N S0 Q df tab e u o O V _
  simp only[Step3,hn]
  rcases h with⟨d,h2,h3⟩|⟨h1,h2⟩
  ·exact .inl ⟨d,h2,J9 hl.2 h3⟩
  ·exact .inr (.inl ⟨h1,h2.congr (fun _ _=>rfl) fun d S' ⟨h3,h4⟩=>⟨h3,J9 hl.2 h4⟩⟩)
theorem Sx{e u:Bool}{t T:Nat}{ty:TypeId}{pos:String}{after:Array Edge}{l:List (Bool×Bool×Oper)}{O:Fr}{V:Sig}(h:∀k,V k=none->MO3 P ro n ops N S0 Q df tab l ((t,.ptr k 0)::O) (V.set k (.cells (tab T).zero))):
  MO3 P ro n ops N S0 Q df tab ((e,u,⟨some t,.alloc T,ty,pos,after,none⟩)::l) O V:=h
theorem Vz(ht:Ba P tab){e u:Bool}{t:Nat}{op:Op}{ty:TypeId}{pos:String}{after:Array Edge}{d:D}{l:List (Bool×Bool×Oper)}{O Sr:Fr}{V:Sig}(hr:E4 op=true)(htn:decide (t<n)=true)(hl:A5 O (A9 op.operands.toList)=some Sr)(hd:dopX tab Sr S0 op=some d)
  (h:MO3 P ro n ops N S0 Q df tab l ((t,d)::O) V):MO3 P ro n ops N S0 Q df tab ((e,u,⟨some t,op,ty,pos,after,none⟩)::l) O V:=by
 have hd':=(Be (C3 hl)) ▸ hd
 have ha:isAl ⟨some t,op,ty,pos,after,none⟩=none:=by
  unfold isAl;split
  ·rename_i heq;cases heq;cases hr
  ·rfl
 show Step3 P ro n ops N S0 Q df tab e u _ O V _
 simp only[Step3,ha]
 refine .inl ⟨d,⟨htn,.inl ⟨by rw[B5];rfl,CF hr,JY ht hd',fun S' hZ g w a hs hT =>?_⟩⟩,h⟩
 refine FT ht hs hT (?_:dopX tab (only _ O) S' op=some d)
 rw[Be (U':=O) fun x hx=>Cd (o:=⟨some t,op,ty,pos,after,none⟩) hx]
 exact Hu hZ hd'
theorem mo3_u{e:Bool}{o:Oper}{l:List (Bool×Bool×Oper)}{O:Fr}{V:Sig}(ha:isAl o=none)(h:USt P ro n ops S0 df o O V (MO3 P ro n ops N S0 Q df tab l)):MO3 P ro n ops N S0 Q df tab ((e,true,o)::l) O V:=by
 show Step3 P ro n ops N S0 Q df tab e true o O V _
 simp only[Step3,ha]
 exact .inr (.inr ⟨trivial,h⟩)
end
end Go.DL
