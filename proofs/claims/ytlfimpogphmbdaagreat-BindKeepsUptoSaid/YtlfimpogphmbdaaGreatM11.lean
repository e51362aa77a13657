/- A part of the proof. -/
import Derived.Test.YtlfimpogphmbdaaGreatM08
import Derived.Laws.IdiomCopy
import Derived.Laws.IdiomStrings
import Derived.Test.YtlfimpogphmbdaaGreatM10
import Derived.Laws.BytesArg
set_option linter.all false
namespace Go.DL
open Go
section
variable {P:Program}{ro:Option Nat}{n:Nat}{ops:Array Oper}{Q:DX->St->Prop}{rest:List Oper}{tab:Nat->Ty}{γ:List (Nat×D)}{V:Sig}{df:List DDf}
def SrcOK(P:Program)(V:Sig)(d:D)(m:Nat)(cs:List D):Prop:=
 ∀g w v,Sim P g V w->Rep g d v->∃a cap us,v=.slice a m cap/\RepL g cs us/\us.length=m/\(m=0 \/ ∃b o,a=some ⟨b,o,none⟩ /\ ∀j v,us[j]? = some v->w.cell? ⟨b,o+j,none⟩=some v)
theorem TR{i off m cap:Nat}{ds:List D}(hi:V i=some (.cells ds))(h:off+m<=ds.length):SrcOK P V (.sref i off m cap) m ((ds.drop off).take m):=by
 intro g w v hs hr;obtain⟨b,hb,rfl⟩:=hr;obtain⟨b',vs,ty,hb',hheap,hr⟩:=hs.obj i _ hi;obtain rfl:b'=b:=by rw[hb]at hb';cases hb';rfl
 have hlen:=RepL.length hr;simp only[Array.length_toList]at hlen;refine⟨_,_,(vs.toList.drop off).take m,rfl,AT (by simp;omega) fun j d v h1 h2=>?_,by simp;omega,.inr ⟨b',off,rfl,fun j v hj=>?_⟩⟩
 ·have hj:j<m:=by have:=(List.getElem?_eq_some_iff.1 h1).1;simp at this;omega
  rw[List.getElem?_take_of_lt hj,List.getElem?_drop]at h1 h2;have:=RepL.get hr (off+j);rw[h1,h2]at this;exact this
 ·have hj':j<m:=by have:=(List.getElem?_eq_some_iff.1 hj).1;simp at this;omega
  rw[List.getElem?_take_of_lt hj',List.getElem?_drop,Array.getElem?_toList]at hj;simp[World.cell?, hheap,hj]
theorem QR{d:D}{es:List (List D)}(h:esOf d=some es)(hl:∀c∈es,c.length=1):SrcOK P V d es.length es.flatten:=by
 intro g w v hs hr;obtain⟨xa,xc,q1,q2,q3⟩:=C3 h hr;obtain⟨news,v1,v2,v3⟩:=Cd hs hl q3;exact⟨xa,xc,news,q1,v1,by omega,v3⟩
variable (ht:B8 P tab)
include ht
theorem Kf{t T T' ty e i off len cap m:Nat}{s x:Operand}{pos:String}{after:Array Edge}{ds cs:List D}
  (htn:t<n) (hk:(tab T).k=.slice e) (he:A5 (tab e).k=false) (hsz:(tab e).size=1) (h1:ev γ s=.sref i off len cap) (hi:V i=some (.cells ds)) (hlen:off+len<=ds.length)
  (h2:SrcOK P V (ev γ x) m cs) (hcs:Cp cs=true)
  (h:DOps P ro n ops Q rest ⟨(t,.int .i64 ((min m len:Nat):Int))::γ,V.set i (.cells (ds.take off++(cs.take (min m len)++ds.drop (off+min m len)))),df⟩) :
  DOps P ro n ops Q (⟨some t,.call { callee:=.builtin .copy,args:= #[s,x],argTypes:= #[T,T'] },ty,pos,after,none⟩::rest) ⟨γ,V,df⟩:=by
 refine Ds (fun d S'=>d=.int .i64 ((min m len:Nat):Int)/\S'=V.set i (.cells (ds.take off++(cs.take (min m len)++ds.drop (off+min m len))))) rfl (fun c e=>by cases e) (By rfl rfl) (by simp[As,htn]) ?_
  (fun d S' ⟨a2,a3⟩=>by subst a2 a3;exact h)
 intro g w a hs hT;have hsv:=Ao hT s;have hxv:=Ao hT x;rw[h1]at hsv;obtain⟨b,hb,hsv⟩:=hsv;obtain⟨xa,xc,us,hx,hr,hul,hcell⟩:=h2 g w _ hs hxv;obtain⟨b2,vs,ty',hb2,hheap,hrv⟩:=hs.obj i _ hi;obtain rfl:b2=b:=by rw[hb]at hb2;cases hb2;rfl
 have hlv:=RepL.length hrv;simp only[Array.length_toList]at hlv;have hcl:=RepL.length hr;obtain⟨inf,z,t1,t2,t3,t4,t5,t6,t7⟩:=Bs ht hk hk he;have hu:P.underlying T=some (.slice e):=t1;have hq:(P.info? e).map (·.size)=some 1:=by rw[t3];simp[t5,hsz]
 have hgo:goInt ((min m len:Nat):Int)=.int .i64 ((min m len:Nat):Int):=rfl
 have hrun : ∃ w',(Builtin.copy_ #[T,T'] ty #[a.eval s,a.eval x]).run P w = .ok (goInt ((min m len:Nat):Int)) w'/\Sim P g (V.set i (.cells (ds.take off++(cs.take (min m len)++ds.drop (off+min m len))))) w':=by
  rw[hsv,hx]
  by_cases h0:min m len=0
  ·refine⟨w,?_,?_⟩
   ·rw[h0];exact run_copy_none w T T' ty e _ _ len cap m xc hu hq (by show min m len=0;exact h0)
   ·rw[h0];simp only[List.take_zero,List.nil_append,Nat.add_zero,List.take_append_drop];rw[show V.set i (.cells ds)=V from funext fun j=>by by_cases hj:j=i<;>simp[Sig.set,hj,hi]];exact hs
  ·obtain⟨b3,o3,rfl,hc3⟩:=hcell.resolve_left (by omega);have hut:(us.take (min m len)).length=min m len:=by simp;omega
   have hne:us.take (min m len)≠[]:=fun e=>by rw[e]at hut;simp at hut;omega
   have hl:=run_loadCells_list (P:=P) w ⟨b3,o3,none⟩ (us.take (min m len)) (fun j v hj=>by
    rw[Bx]
    have hj':j<min m len:=by have:=(List.getElem?_eq_some_iff.1 hj).1;simp at this;omega
    rw[List.getElem?_take_of_lt hj']at hj
    exact hc3 j v hj)
   have hfl:=Di hr hcs;have hst:=BZ (P:=P) (us.take (min m len)) 0 w vs hheap (fun v hv=>hfl v (List.mem_of_mem_take hv)) (o:=off) (by rw[hut];omega);rw[if_neg hne]at hst;refine⟨_,?_,hs.setObj (ty:=ty') (vs':=BH vs (off+0) (us.take (min m len))) hi hb ?_ ⟨vs,hheap⟩⟩
   ·have hi1:inf.size=1:=by omega
    have hmin:Nat.min m len=min m len:=rfl;simp only[Builtin.copy_];simp[A0 hu,Builtin.lenOf,Builtin.firstCells,sizeOf,typeInfo,t3,hi1,hmin,hl,hst,hut];rw[hut]at hl;simp[hl,hst]
   ·refine AT (by simp only[List.length_append,List.length_take,List.length_drop,Array.length_toList,De];omega) fun j d v h1 h2=>?_
    have h2':(BH vs (off+0) (us.take (min m len)))[j]? = some v:=by simpa using h2
    rw[DH _ _ _ _ (by rw[hut];omega),hut]at h2';have hg:=RepL.get hrv j;rw[List.getElem?_append]at h1;simp only[List.length_take]at h1
    by_cases c1:j<off
    ·rw[if_neg (by omega)]at h2';rw[if_pos (by omega),List.getElem?_take_of_lt c1]at h1;rw[h1]at hg;simp only[Array.getElem?_toList,h2',Option.getD_some]at hg;exact hg
    ·rw[if_neg (by omega),List.getElem?_append]at h1;simp only[List.length_take]at h1;have eo:min off ds.length=off:=by omega
     rw[eo]at h1
     by_cases c2:j-off<min m len
     ·rw[if_pos (by omega),List.getElem?_take_of_lt (by omega)]at h2';rw[if_pos (by omega),List.getElem?_take_of_lt (by omega)]at h1;have:=RepL.get hr (j-off);rw[h1,show j-off=j-(off+0) by omega,h2']at this;exact this
     ·rw[if_neg (by omega)]at h2';rw[if_neg (by omega),List.getElem?_drop,show off+min m len+(j-off-min (min m len) cs.length)=j by omega]at h1;rw[h1]at hg;simp only[Array.getElem?_toList,h2',Option.getD_some]at hg;exact hg
 obtain⟨w',hrun,hsim⟩:=hrun;refine⟨g,w',goInt ((min m len:Nat):Int),.int .i64 ((min m len:Nat):Int),_,?_,.refl g,hsim,rfl,rfl,rfl⟩;simp[execOp,resolve,invoke,builtin,hrun]
omit ht in
theorem Ns{g:G}{i b off len cap:Nat}(h:g.rho i=some b):Rep g (.sref i off len cap) (.slice (some ⟨b,off,none⟩) len cap):=⟨b,h,rfl⟩
theorem TT{g:G}{w:World}{T e i off len cap:Nat}{k:IntKind}{v u:Value}{lo:Nat}(hk:(tab T).k=.slice e)(he:A5 (tab e).k=false)(hv:Rep g (.sref i off len cap) v)(hu:Rep g (.int k lo) u)(hlo:lo<=len)(hlc:lo<cap):
  ∃r,(Instr.sliceAt T v (some u) none none).run P w=.ok r w/\Rep g (.sref i (off+lo*(tab e).size) (len-lo) (cap-lo)) r:=by
 obtain⟨b,hb,rfl⟩:=hv;obtain rfl:=Be hu;refine⟨_,?_,Ns (len:=len-lo) (cap:=cap-lo) (off:=off+lo*(tab e).size) hb⟩;have hu:=AQ ht hk;have c1:(0:Int)<=(lo:Int):=by omega
 have c2:(lo:Int)<=(len:Int):=by omega
 have c3:¬cap=lo:=by omega
 simp only[Option.map_some,Instr.sliceAt,Instr.slice,Instr.sliceBounds,Instr.sliceBound,asIntOf,Sem.run_bind,Sem.run_pure,Result.andThen_ok,A0 hu,c1,c2,and_self,if_true,AP (ht e) (Ag he),Int.toNat_natCast,c3,if_false,Bx]
theorem TU{g:G}{w:World}{T e i off len cap:Nat}{k:IntKind}{v u:Value}{hi:Nat}(hk:(tab T).k=.slice e)(he:A5 (tab e).k=false)(hv:Rep g (.sref i off len cap) v)(hu:Rep g (.int k hi) u)(hhi:hi<=cap):
  ∃r,(Instr.sliceAt T v none (some u) none).run P w=.ok r w/\Rep g (.sref i off hi cap) r:=by
 obtain⟨b,hb,rfl⟩:=hv;obtain rfl:=Be hu;refine⟨_,?_,Ns (len:=hi) (cap:=cap) (off:=off) hb⟩;have hu:=AQ ht hk;have c1:(0:Int)<=(hi:Int):=by omega
 have c2:(hi:Int)<=(cap:Int):=by omega
 simp only[Instr.sliceAt,Instr.slice,Instr.sliceBounds,Instr.sliceBound,asIntOf,Sem.run_bind,Sem.run_pure,Result.andThen_ok,A0 hu,c1,c2,and_self,if_true,AP (ht e) (Ag he),Int.toNat_natCast,Nat.sub_zero,Nat.zero_mul]
 congr 1
 split<;>simp[Addr.add]
variable {N:Nat}{S0:Sig}
theorem mo_cutL{t T ty e i off len cap:Nat}{k:IntKind}{x y:Operand}{lo:Nat}{pos:String}{after:Array Edge}{f:Bool}{l:List (Bool×Oper)}
  (h:MO P ro n ops N S0 Q df l ((t,.sref i (off+lo*(tab e).size) (len-lo) (cap-lo))::γ) V)
  (htn:t<n) (hk:(tab T).k=.slice e) (he:A5 (tab e).k=false) (h1:ev γ x=.sref i off len cap) (h2:ev γ y=.int k lo) (hlo:lo<=len) (hlc:lo<cap) :
  MO P ro n ops N S0 Q df ((f,⟨some t,.slice T x (some y) none none,ty,pos,after,none⟩)::l) γ V:=by
 refine .inl ⟨_,⟨by simp[As,htn],.inl ⟨rfl,(fun c e=>by cases e),Ac (fun c e=>by cases e),fun S' hU g w a hs hT=>?_⟩⟩,h⟩;have hx:=Ao hT x;have hy:=Ao hT y;rw[CA (o:=⟨some t,.slice T x (some y) none none,ty,pos,after,none⟩) (by simp[Op.operands]),h1]at hx;rw[CA (o:=⟨some t,.slice T x (some y) none none,ty,pos,after,none⟩) (by simp[Op.operands]),h2]at hy;obtain⟨r,h3,h4⟩:=TT (w:=w) ht hk he hx hy hlo hlc;exact⟨g,w,r,by simp only[execOp,Option.map_some,Option.map_none,Sem.run_bind,h3,Result.andThen_ok,Sem.run_pure],.refl g,hs,h4⟩
theorem mo_cutH{t T ty e i off len cap:Nat}{k:IntKind}{x y:Operand}{hi:Nat}{pos:String}{after:Array Edge}{f:Bool}{l:List (Bool×Oper)}
  (h:MO P ro n ops N S0 Q df l ((t,.sref i off hi cap)::γ) V)
  (htn:t<n) (hk:(tab T).k=.slice e) (he:A5 (tab e).k=false) (h1:ev γ x=.sref i off len cap) (h2:ev γ y=.int k hi) (hhi:hi<=cap) :
  MO P ro n ops N S0 Q df ((f,⟨some t,.slice T x none (some y) none,ty,pos,after,none⟩)::l) γ V:=by
 refine .inl ⟨_,⟨by simp[As,htn],.inl ⟨rfl,(fun c e=>by cases e),Ac (fun c e=>by cases e),fun S' hU g w a hs hT=>?_⟩⟩,h⟩;have hx:=Ao hT x;have hy:=Ao hT y;rw[CA (o:=⟨some t,.slice T x none (some y) none,ty,pos,after,none⟩) (by simp[Op.operands]),h1]at hx;rw[CA (o:=⟨some t,.slice T x none (some y) none,ty,pos,after,none⟩) (by simp[Op.operands]),h2]at hy;obtain⟨r,h3,h4⟩:=TU (w:=w) ht hk he hx hy hhi;exact⟨g,w,r,by simp only[execOp,Option.map_some,Option.map_none,Sem.run_bind,h3,Result.andThen_ok,Sem.run_pure],.refl g,hs,h4⟩
omit ht in
theorem Jx{g:G}{b:Nat}{vs:List Value}: ∀(l:List UInt8) (k:Nat),(∀j x,l[j]? = some x->vs[k+j]? = some (.int .u8 (x.toNat:Int)))->RepE (g.addImm b vs) b 1 k (l.map fun x=>[D.int .u8 (x.toNat:Int)])
 |[],_,_=>trivial
 | x::l,k,h=>by
  refine⟨⟨rfl,⟨_,?_,rfl⟩,trivial⟩,Jx l (k+1) fun j y hj=>?_⟩
  ·simp only[G.addImm,if_true];have:=h 0 x rfl;simpa using this
  ·have:=h (j+1) y (by simpa using hj);rw[show k+1+j=k+(j+1) by omega];exact this
theorem Qz{t T T' ty e:Nat}{x:Operand}{s:List UInt8}{pos:String}{after:Array Edge}
  (h:DOps P ro n ops Q rest ⟨(t,.slice (s.map fun b=>[D.int .u8 (b.toNat:Int)]) .no)::γ,V,df⟩) (htn:t<n) (hk:(tab T).k=.str) (hk':(tab T').k=.slice e) (hke:(tab e).k=.int .u8) (h1:ev γ x=.str s) :
  DOps P ro n ops Q (⟨some t,.convert T T' x,ty,pos,after,none⟩::rest) ⟨γ,V,df⟩:=by
 refine Ds (fun d S'=>d=.slice (s.map fun b=>[D.int .u8 (b.toNat:Int)]) .no/\S'=V) rfl (fun c e=>by cases e) (Ac fun c e=>by cases e) (by simp[As,htn]) ?_
  (fun d S' ⟨a2,a3⟩=>by subst a2 a3;exact h)
 intro g w a hs hT;have hxv:=Ao hT x;rw[h1]at hxv;have hv:a.eval x=.string ⟨s.toArray⟩:=hxv;have hrun:=run_bytes_of_string (P:=P) w T T' e ⟨s.toArray⟩ (HU ht hk) (AQ ht hk') (KB ht hke);have hge:=grownCap_ge w (ByteArray.size ⟨s.toArray⟩) 0 e;generalize grownCap w (ByteArray.size ⟨s.toArray⟩) 0 e=cap at hrun hge;have hsz:(ByteArray.size ⟨s.toArray⟩)=s.length:=by simp[ByteArray.size]
 have hsim:=hs.drew.addImm (bytesRow ⟨s.toArray⟩ cap).toList e ((bytesRow ⟨s.toArray⟩ cap).size,(bytesRow ⟨s.toArray⟩ cap).size+1);have hle:=G.addImm_le hs.drew (bytesRow ⟨s.toArray⟩ cap).toList;rw[Array.toArray_toList]at hsim
 have hget:∀j x,s[j]? = some x->(bytesRow ⟨s.toArray⟩ cap).toList[0+j]? = some (.int .u8 (x.toNat:Int)):=fun j x hj=>by
  have hjl:j<s.length:=(List.getElem?_eq_some_iff.1 hj).1;simp only[bytesRow,Nat.zero_add,Array.toList_append,Array.toList_map];rw[List.getElem?_append_left (by simpa using hjl),List.getElem?_map,hj];rfl
 refine⟨_,_,.slice (some ⟨w.heap.size,0,none⟩) s.length cap,_,V,?_,hle,hsim,?_,rfl,rfl⟩
 ·simp only[execOp,hv];rw[Sem.run_bind,hrun,hsz];rfl
 ·refine⟨some ⟨w.heap.size,0,none⟩,cap,by simp,by rw[List.length_map];omega,.inr ⟨1,w.heap.size,0,rfl,Jx s 0 hget⟩,trivial⟩
end
def isAl(o:Oper):Option (Nat×Nat):=match o with
 |⟨some t,.alloc T,_,_,_,none⟩=>some (t,T)
 |_=>none
theorem KZ{o:Oper}{t T:Nat}(h:isAl o=some (t,T)): ∃ty pos af,o=⟨some t,.alloc T,ty,pos,af,none⟩:=by
 unfold isAl at h;split at h
 ·cases h;exact⟨_,_,_,rfl⟩
 ·cases h
section
variable (P:Program)(ro:Option Nat)(n:Nat)(ops:Array Oper)(N:Nat)(S0:Sig)(Q:DX->St->Prop)(df:List DDf)(tab:Nat->Ty)
def Step2(e:Bool)(o:Oper)(γ:Fr)(V:Sig)(K:Fr->Sig->Prop):Prop:=
 match isAl o with
 |some (t,T)=> ∀k,V k=none->K ((t,.ptr k 0)::γ) (V.set k (.cells (tab T).zero))
 |none=>(∃d,Calm P n ops N S0 γ o d/\K (putD o.dst d γ) V) \/
  (e=true/\Eff P ro n ops df γ V o (fun d S'=>Sub S0 S'/\K (putD o.dst d γ) S') (fun d S'=> ∀U',Q (.panic d) ⟨U',S',df⟩))
def MOps2(E:List Nat):List Nat->Fr->Sig->Prop
 |[],γ,V=>DOps P ro n ops Q [] ⟨γ,V,df⟩
 |i::r,γ,V=> ∃o,ops[i]? = some o/\Step2 P ro n ops N S0 Q df tab (E.contains i) o γ V (MOps2 E r)
def MO2:List (Bool×Oper)->Fr->Sig->Prop
 |[],γ,V=>DOps P ro n ops Q [] ⟨γ,V,df⟩
 |(e,o)::r,γ,V=>Step2 P ro n ops N S0 Q df tab e o γ V (MO2 r)
end
section
variable {P:Program}{ro:Option Nat}{n:Nat}{ops:Array Oper}{N:Nat}{S0:Sig}{Q:DX->St->Prop}{df:List DDf}{E:List Nat}{tab:Nat->Ty}
theorem Step2.mono{e:Bool}{o:Oper}{γ U':Fr}{V:Sig}{K K':Fr->Sig->Prop}(h:Step2 P ro n ops N S0 Q df tab e o γ V K)(hal:Alike γ U')(hK:∀γ U' V,Alike γ U'->K γ V->K' U' V):Step2 P ro n ops N S0 Q df tab e o U' V K':=by
 unfold Step2 at h⊢;split at h
 ·exact fun k hk=>hK _ _ _ (hal.put (some _) _) (h k hk)
 ·rcases h with⟨d,h2,h3⟩|⟨h1,h2⟩
  ·exact .inl ⟨d,h2.congr fun t _=>hal t,hK _ _ _ (hal.put _ _) h3⟩
  ·exact .inr ⟨h1,h2.congr (fun t _=>hal t) fun d S' ⟨h3,h4⟩=>⟨h3,hK _ _ _ (hal.put _ _) h4⟩⟩
theorem MOps2.alike: ∀(l:List Nat) {γ U':Fr}{V:Sig},Alike γ U'->MOps2 P ro n ops N S0 Q df tab E l γ V->MOps2 P ro n ops N S0 Q df tab E l U' V
 |[],_,_,_,h,k=>Ch h k
 |i::r,_,_,_,h,⟨o,ho,k⟩=>⟨o,ho,k.mono h fun _ _ _ h' k'=>MOps2.alike r h' k'⟩
theorem set_comm(V:Sig){k k':Nat}(h:k≠k')(x y:DObj):(V.set k x).set k' y=(V.set k' y).set k x:=by
 funext j
 simp only[Sig.set]
 by_cases h1:j=k'<;>by_cases h2:j=k<;>simp_all
theorem Ij{i:Nat}{oi:Oper}(hi:ops[i]? = some oi)(post:List Nat): ∀(pre:List Nat) (γ:Fr) (V:Sig),
  (∀x∈pre,E.contains x=false /\ ∃ox,ops[x]? = some ox/\oi.apart ops ox=true/\((isAl ox).isSome=true->(isAl oi).isSome=true))->MOps2 P ro n ops N S0 Q df tab E (pre++i::post) γ V->MOps2 P ro n ops N S0 Q df tab E (i::(pre++post)) γ V
 |[],_,_,_,h=>h
 | x::pre,γ,V,hp,h=>by
  obtain⟨hxE,ox,hox,hap,hal⟩:=hp x (by simp);obtain⟨a1,a2,a3⟩:=Oper.apart_spec hap;obtain⟨ox',hox',hx⟩:=h;obtain rfl:ox'=ox:=by rw[hox]at hox';cases hox';rfl
  have ih:∀γ V,MOps2 P ro n ops N S0 Q df tab E (pre++i::post) γ V->MOps2 P ro n ops N S0 Q df tab E (i::(pre++post)) γ V:=fun γ V=>Ij hi post pre γ V fun y hy=>hp y (by simp[hy])
  refine⟨oi,hi,?_⟩;cases hax:isAl ox' with
  | some p =>
   obtain⟨t,T⟩:=p;cases hai:isAl oi with
   |none=>rw[hax,hai]at hal;simp at hal
   | some q =>
    obtain⟨t',T'⟩:=q;obtain⟨_,_,_,rfl⟩:=KZ hax;obtain⟨_,_,_,rfl⟩:=KZ hai;simp only[Step2,isAl]at hx⊢;intro k' hk';refine⟨_,hox,?_⟩;simp only[Step2,isAl];intro k hk
    have hne:k≠k':=by
     rintro rfl
     simp[Sig.set]at hk
    have hk0:V k=none:=by rw[w8 _ _ hne]at hk;exact hk
    obtain⟨oi',hoi',hh⟩:=ih _ _ (hx k hk0);rw[hi]at hoi';cases hoi';simp only[Step2,isAl]at hh;have h3:=hh k' (by rw[w8 _ _ (Ne.symm hne)];exact hk');rw[set_comm V hne]at h3;exact MOps2.alike _ (DM (a:=some t') (b:=some t) _ _ _ fun t p q=>a2 t p q) h3
  | none =>
   simp only[Step2,hax]at hx;rcases hx with⟨d,hy,h⟩|⟨hE,_⟩
   ·obtain⟨oi',hoi',hh⟩:=ih _ V h;rw[hi]at hoi';cases hoi';cases hai:isAl oi with
    |some q=>
     obtain⟨t',T'⟩:=q;obtain⟨_,_,_,rfl⟩:=KZ hai;simp only[Step2,isAl]at hh⊢;intro k' hk';refine⟨ox',hox,?_⟩;simp only[Step2,hax];refine .inl ⟨d,hy.congr fun t ht=>(Co (dst:=some t') fun hd=>a1 t hd ht).symm,?_⟩;exact MOps2.alike _ (DM _ _ _ fun t p q=>a2 t p q) (hh k' hk')
    | none =>
     simp only[Step2,hai]at hh⊢;rcases hh with⟨e,h2,h3⟩|⟨h1,h2⟩
     ·refine .inl ⟨e,h2.congr fun t ht=>Co fun hd=>a3 t hd ht,ox',hox,?_⟩;simp only[Step2,hax];refine .inl ⟨d,hy.congr fun t ht=>(Co fun hd=>a1 t hd ht).symm,?_⟩;exact MOps2.alike _ (DM _ _ _ fun t p q=>a2 t p q) h3
     ·refine .inr ⟨h1,h2.congr (fun t ht=>Co fun hd=>a3 t hd ht) fun e S' ⟨h3,h4⟩=>⟨h3,ox',hox,?_⟩⟩;simp only[Step2,hax];refine .inl ⟨d,hy.congr fun t ht=>(Co fun hd=>a1 t hd ht).symm,?_⟩;exact MOps2.alike _ (DM _ _ _ fun t p q=>a2 t p q) h4
   ·rw[hxE]at hE;cases hE
def Jd(ops:Array Oper)(E:List Nat):List Nat->List Nat->Bool
 |_,[]=>true
 | done,i::r => !done.contains i && (match ops[i]? with
  |some o=>(o.after.all fun e=> !Region.binds .any e||done.contains e.on)&&done.all fun x=>(!E.contains x&&match ops[x]? with
   |some ox=>o.apart ops ox&&(!(isAl ox).isSome||(isAl o).isSome)
   |none=>false)||G4 ops ops.size i x
  |none=>false)&&Jd ops E (i::done) r
theorem Gb {i:Nat} {l2:List Nat} : ∀ (l1 done:List Nat),Jd ops E done (l1++i::l2)=true->i ∉ l1/\i ∉ done/\i ∉ l2 /\ ∃ o,ops[i]? = some o/\(∀ e ∈ o.after,Region.binds .any e=true->e.on ∈ l1\/e.on ∈ done) /\
   ∀x,x∈l1->G4 ops ops.size i x=true\/(E.contains x=false /\ ∃ox,ops[x]? = some ox/\o.apart ops ox=true/\((isAl ox).isSome=true->(isAl o).isSome=true))
 | [],done,h=>by
  simp only[List.nil_append,Jd,Bool.and_eq_true,Bool.not_eq_true',List.contains_eq_mem,decide_eq_false_iff_not]at h;obtain⟨⟨h1,h2⟩,h3⟩:=h
  have later:∀(l d:List Nat),i∈d->Jd ops E d l=true->i∉l:=by
   intro l
   induction l with
   |nil=>intro _ _ _ h;cases h
   |cons y l ih=>
    intro d hd hm hmem;simp only[Jd,Bool.and_eq_true,Bool.not_eq_true',List.contains_eq_mem,decide_eq_false_iff_not]at hm;obtain⟨⟨m1,_⟩,m3⟩:=hm;rcases List.mem_cons.1 hmem with rfl|hmem
    ·exact m1 hd
    ·exact ih (y::d) (by simp[hd]) m3 hmem
  refine⟨by simp,h1,later l2 _ (by simp) h3,?_⟩;split at h2
  ·rename_i o ho;simp only[Bool.and_eq_true]at h2;refine⟨o,ho,fun e he hb=>?_,fun x hx=>by cases hx⟩;have:=Array.all_eq_true_iff_forall_mem.1 h2.1 e he;simp only[hb,Bool.not_true,Bool.false_or,List.contains_eq_mem,decide_eq_true_eq]at this;exact .inr this
  ·cases h2
 | y::l1,done,h=>by
  simp only[List.cons_append,Jd,Bool.and_eq_true]at h;obtain⟨h1,h2,h3,o,ho,he,hx⟩:=Gb l1 (y::done) h.2;have hiy:i≠y:=fun e=>h2 (by simp[e])
  refine⟨by simp[hiy,h1],fun hd=>h2 (by simp[hd]),h3,o,ho,fun e hm hb=>?_,?_⟩
  ·rcases he e hm hb with h4|h4
   ·exact .inl (by simp[h4])
   ·rcases List.mem_cons.1 h4 with h5|h5
    ·exact .inl (by simp[h5])
    ·exact .inr h5
  ·intro x hmem;rcases List.mem_cons.1 hmem with rfl|hmem
   ·have back:∀(l d:List Nat),x∈d->Jd ops E d (l++i::l2)=true->G4 ops ops.size i x=true\/(E.contains x=false /\ ∃ox,ops[x]? = some ox/\o.apart ops ox=true/\((isAl ox).isSome=true->(isAl o).isSome=true)):=by
     intro l
     induction l with
     | nil =>
      intro d hd hm;simp only[List.nil_append,Jd,Bool.and_eq_true,ho]at hm;have:=List.all_eq_true.1 hm.1.2.2 x hd;simp only[Bool.or_eq_true,Bool.and_eq_true,Bool.not_eq_true']at this;rcases this.symm with h4|⟨h4,h5⟩
      ·exact .inl h4
      ·refine .inr ⟨h4,?_⟩;split at h5
       ·rename_i ox hox;simp only[Bool.and_eq_true,Bool.or_eq_true,Bool.not_eq_true']at h5;exact⟨ox,hox,h5.1,fun hs=>by rcases h5.2 with h6|h6;rw[h6]at hs;cases hs;exact h6⟩
       ·cases h5
     |cons z l ih=>
      intro d hd hm;simp only[List.cons_append,Jd,Bool.and_eq_true]at hm;exact ih (z::d) (by simp[hd]) hm.2
    exact back l1 _ (by simp) h.2
   ·exact hx x hmem
def GP(ops:Array Oper)(E ord:List Nat):Bool:=Jd ops E [] ord&&(List.range ops.size).all ord.contains&&ord.length==ops.size
def allOK(tab:Nat->Ty)(n:Nat)(ops:Array Oper):Bool:=ops.all fun o=>match isAl o with
 |some (t,T)=>decide (t<n)&&!A5 (tab T).k
 |none=>true
theorem Rh(ht:B8 P tab)(hN:P.funcs.size=N){ord:List Nat}(hB:GP ops E ord=true)(hA:allOK tab n ops=true){g0:G}{rr:Option Nat}(hr:RoRep g0 ro rr): ∀(m:Nat) (r:List Nat) (listed:Array Bool) (γ:Fr) (V:Sig),r.length=m->listed.size=ops.size->
  r=ord.filter (fun i=> !listed.getD i true)->Closed ops listed->MOps2 P ro n ops N S0 Q df tab E r γ V->Sub S0 V->
   ∀(g:G) (w:World) (a:Act),g0.le g->SimS P g n ⟨γ,V,df⟩ a w->wpAnyIn (FX P rr) 0 P .any ops (Post P g0 n Q) m listed a w:=by
 unfold GP at hB;simp only[Bool.and_eq_true]at hB;obtain⟨⟨hmix,hall⟩,_⟩:=hB
 have hmem:∀(r:List Nat) (listed:Array Bool),r=ord.filter (fun i=> !listed.getD i true)->∀i∈Region.ready .any ops listed,i∈r:=by
  intro r listed hf i hi;obtain⟨h1,o,ho,_⟩:=mem_ready.1 hi;have:=List.all_eq_true.1 hall i (by simpa using(Array.getElem?_eq_some_iff.1 ho).1);rw[hf,List.mem_filter];exact⟨by simpa using this,by rw[h1];rfl⟩
 intro m
 induction m with
 |zero=>
  intro r listed γ V hl hsz hf hcl h hC g w a hg hs;obtain rfl:r=[]:=List.length_eq_zero_iff.1 hl;refine⟨List.eq_nil_iff_forall_not_mem.2 fun i hi=>?_,?_⟩
  ·have:=hmem [] listed hf i hi;cases this
  ·exact Post.le hg (h g w a rr (hr.mono hg) hs)
 | succ m ih =>
  intro r listed γ V hl hsz hf hcl h hC g w a hg hs;obtain⟨y,t,rfl⟩:∃y t,r=y::t:=by cases r with|nil=>cases hl|cons y t=>exact⟨y,t,rfl⟩
  refine⟨fun he=>?_,fun i hi=>?_⟩
  ·exfalso
   obtain⟨l1,l2,hord,hl1,hy,hl2⟩:=List.filter_eq_cons_iff.1 hf.symm;subst hord;obtain⟨h1,_,_,o,ho,hea,_⟩:=Gb l1 [] hmix
   have:y∈Region.ready .any ops listed:=by
    refine mem_ready.2 ⟨by simpa using hy,o,ho,fun e hm hb=>?_⟩;rcases hea e hm hb with h4|h4
    ·have h5:=hl1 _ h4;simp only[Bool.not_eq_true,Bool.not_eq_false']at h5
     have hlt:e.on<listed.size:=by
      have:e.on∈l1++y::l2:=by simp[h4]
      obtain⟨p1,p2,hp⟩:=List.append_of_mem this;rw[hp]at hmix;obtain⟨_,_,_,o',ho',_⟩:=Gb p1 [] hmix;rw[hsz];exact(Array.getElem?_eq_some_iff.1 ho').1
     simpa[hlt] using h5
    ·cases h4
   rw[he]at this;cases this
  ·obtain⟨pre,post,hsplit⟩:=List.append_of_mem (hmem _ listed hf i hi);rw[hsplit]at hf h hl;obtain⟨l1',l2',hord,hf1,hf2⟩:=List.filter_eq_append_iff.1 hf.symm;obtain⟨m1,m2,hl2',hm1,hiu,hf3⟩:=List.filter_eq_cons_iff.1 hf2;have hord':ord=(l1'++m1)++i::m2:=by rw[hord,hl2'];simp
   rw[hord']at hmix;obtain⟨n1,_,n3,o,ho,hea,hx⟩:=Gb (l1'++m1) [] hmix;obtain⟨hiun,o',ho',hdone⟩:=mem_ready.1 hi;obtain rfl:o'=o:=by rw[ho]at ho';cases ho';rfl
   have hfront:=Ij ho post pre γ V (fun x hxp=>by
    have hx1:x∈l1'++m1:=by
     have:x∈l1'.filter (fun i=> !listed.getD i true):=by rw[hf1];exact hxp
     simp[(List.mem_filter.1 this).1]
    have hxu:listed.getD x true=false:=by
     have:x∈l1'.filter (fun i=> !listed.getD i true):=by rw[hf1];exact hxp
     simpa using(List.mem_filter.1 this).2
    rcases hx x hx1 with h4|h4
    ·exfalso
     have:=Cz hcl ops.size i x o' ho hdone h4
     rcases Nat.lt_or_ge x listed.size with hlt|hlt
     ·simp[hlt]at this hxu;rw[hxu]at this;cases this
     ·simp[Array.getElem?_eq_none hlt]at this
    ·exact h4) h
   have hnext:pre++post=ord.filter (fun j=> !(listed.setIfInBounds i true).getD j true):=by
    have hil:i<listed.size:=by
     rw[hsz];exact(Array.getElem?_eq_some_iff.1 ho).1
    rw[hord',List.filter_append,List.filter_cons];have e1:(listed.setIfInBounds i true).getD i true=true:=by simp[hil]
    rw[e1,B3 n1,B3 n3];simp only[Bool.not_true,Bool.false_eq_true,if_false,List.filter_append,hf1,hf3];rw[List.filter_eq_nil_iff.2 (fun x hx=>by simpa using hm1 x hx),List.append_nil]
   have hlen:(pre++post).length=m:=by simp at hl⊢; omega
   obtain⟨o2,ho2,hh⟩:=hfront;obtain rfl:o2=o':=by rw[ho]at ho2;cases ho2;rfl
   have hok:=Array.all_eq_true_iff_forall_mem.1 hA o2 (Array.mem_of_getElem? ho);unfold wpOpIn;simp only[ho];cases hai:isAl o2 with
   | some p =>
    obtain⟨t,T⟩:=p;rw[hai]at hok;simp only[Bool.and_eq_true,decide_eq_true_eq,Bool.not_eq_true']at hok;obtain⟨_,_,_,rfl⟩:=KZ hai;simp only[Step2,isAl]at hh;refine Fe (Q:=Q) (R:=fun d S'=> ∃k,V k=none/\d=.ptr k 0/\S'=V.set k (.cells (tab T).zero)) (Rp:=fun _ _=>False) (hr.mono hg) hg hs ⟨by simp[As,hok.1],rfl,?_⟩ (fun g' w' a' d S' hg' hR hs'=>?_) fun _ _ h=>h.elim
    ·exact DT ht hok.2 hok.1 fun k hk=>B6 ⟨rfl,k,hk,by simp[A8],rfl⟩
    ·obtain⟨k,hk,rfl,rfl⟩:=hR;exact ih _ _ _ _ hlen (by simpa using hsz) hnext (hcl.set hi) (hh k hk) (fun i o h=>(Sub.refl _).set hk i o (hC i o h)) g' w' a' (hg.trans hg') hs'
   |none=>
    simp only[Step2,hai]at hh;rcases hh with⟨d,hy,hM⟩|⟨_,hE⟩
    ·exact Gx (Q:=Q) hN (hr.mono hg) hg hs hC hy fun g' w' a' hg' hs'=>ih _ _ _ _ hlen (by simpa using hsz) hnext (hcl.set hi) hM hC g' w' a' (hg.trans hg') hs'
    ·exact Fe (Q:=Q) (hr.mono hg) hg hs hE (fun g' w' a' d S' hg' hR hs'=>ih _ _ _ _ hlen (by simpa using hsz) hnext (hcl.set hi) hR.2 hR.1 g' w' a' (hg.trans hg') hs') fun d S' hp=>hp
theorem Hd: ∀{ord:List Nat}{γ:Fr}{V:Sig},(∀i∈ord,i<ops.size)->MO2 P ro n ops N S0 Q df tab (pick ops E ord) γ V->MOps2 P ro n ops N S0 Q df tab E ord γ V
 |[],_,_,_,h=>h
 | i::r,γ,V,hlt,h=>by
  have hi:ops[i]? = some ops[i]! :=by
   have:=hlt i (by simp);simp[this]
  have hp:pick ops E (i::r)=(E.contains i,ops[i]!)::pick ops E r:=by
   unfold pick;rw[List.filterMap_cons,hi];rfl
  rw[hp]at h;refine⟨_,hi,?_⟩;refine Step2.mono h (fun _=>rfl) fun γ U' V hal h=>MOps2.alike _ hal (Hd (fun j hj=>hlt j (by simp[hj])) h)
theorem UN(ht:B8 P tab)(hN:P.funcs.size=N)(hm:P.follows .mixedOrders=true){l:List Oper}{id:Nat}{γ:Fr}{V:Sig}(ord E:List Nat)(S0:Sig)(hB:GP l.toArray E ord=true)(hA:allOK tab n l.toArray=true)(hC:Sub S0 V)
  {lp:List (Bool×Oper)} (hlp:FF l E ord=some lp) (h:MO2 P ro n l.toArray N S0 Q df tab lp γ V):DWp P ro n (.region id l.toArray true) Q ⟨γ,V,df⟩:=by
 intro g w a r hr hs;refine wpIn_region_any hm ?_
 have hcl:Closed l.toArray (Array.replicate l.toArray.size false):=by
  intro q o _ hq;rcases Nat.lt_or_ge q l.length with h'|h'
  ·simp[h']at hq
  ·simp[h']at hq
 have hs':SimS P g n ⟨γ,V,df⟩ a { w with drawn:=w.drawn+1 }:=
  ⟨⟨fun b o v h=>hs.sim.imm b o v h,hs.sim.keep,fun i o h=>by
   have:=hs.sim.obj i o h
   cases o<;>exact this,hs.sim.inj,hs.sim.free,hs.sim.htop,hs.sim.hdom,hs.sim.fin,hs.sim.io⟩,hs.tmps,hs.df⟩
 have hlt:∀i∈ord,i<l.toArray.size:=by
  intro i hi;obtain⟨p1,p2,hp⟩:=List.append_of_mem hi;have hB':=hB;unfold GP at hB';simp only[Bool.and_eq_true]at hB';rw[hp]at hB';obtain⟨_,_,_,o',ho',_⟩:=Gb p1 [] hB'.1.1;exact(Array.getElem?_eq_some_iff.1 ho').1
 have hlen:ord.length=l.toArray.size:=by
  have hB':=hB;unfold GP at hB';simp only[Bool.and_eq_true,beq_iff_eq]at hB';exact hB'.2
 have:=Rh ht hN hB hA hr ord.length ord (Array.replicate l.toArray.size false) γ V rfl (by simp) (Eb hlt).symm hcl (Hd hlt (by rw[I9 hlp];exact h)) hC g _ a (.refl g) hs';rw[hlen]at this;exact this
theorem EJ: ∀{l:List (Bool×Oper)}{γ:Fr}{V:Sig},(l.all fun p=> !(isAl p.2).isSome)=true->MO P ro n ops N S0 Q df l γ V->MO2 P ro n ops N S0 Q df tab l γ V
 |[],_,_,_,h=>h
 |(e,o)::l,γ,V,hl,h=>by
  simp only[List.all_cons,Bool.and_eq_true,Bool.not_eq_true']at hl;have hn:isAl o=none:=by cases h:isAl o with|none=>rfl|some _=>rw[h]at hl;simp at hl
  show Step2 P ro n ops N S0 Q df tab e o γ V _;simp only[Step2,hn];rcases h with⟨d,h2,h3⟩|⟨h1,h2⟩
  ·exact .inl ⟨d,h2,EJ hl.2 h3⟩
  ·exact .inr ⟨h1,h2.congr (fun _ _=>rfl) fun d S' ⟨h3,h4⟩=>⟨h3,EJ hl.2 h4⟩⟩
theorem DO{e:Bool}{t T:Nat}{ty:TypeId}{pos:String}{after:Array Edge}{l:List (Bool×Oper)}{γ:Fr}{V:Sig}(h:∀k,V k=none->MO2 P ro n ops N S0 Q df tab l ((t,.ptr k 0)::γ) (V.set k (.cells (tab T).zero))):
  MO2 P ro n ops N S0 Q df tab ((e,⟨some t,.alloc T,ty,pos,after,none⟩)::l) γ V:=h
theorem U6{e:Bool}{o:Oper}{l:List (Bool×Oper)}{γ:Fr}{V:Sig}{d:D}(ha:isAl o=none)(hc:Calm P n ops N S0 γ o d)(h:MO2 P ro n ops N S0 Q df tab l (putD o.dst d γ) V):
  MO2 P ro n ops N S0 Q df tab ((e,o)::l) γ V:=by
 show Step2 P ro n ops N S0 Q df tab e o γ V _;simp only[Step2,ha];exact .inl ⟨d,hc,h⟩
theorem Ar(ht:B8 P tab){e:Bool}{t:Nat}{op:Op}{ty:TypeId}{pos:String}{after:Array Edge}{d:D}{l:List (Bool×Oper)}{γ Sr:Fr}{V:Sig}(hr:EE op=true)(htn:decide (t<n)=true)(hl:A4 γ (A6 op.operands.toList)=some Sr)(hd:dopX tab Sr S0 op=some d)
  (h:MO2 P ro n ops N S0 Q df tab l ((t,d)::γ) V):MO2 P ro n ops N S0 Q df tab ((e,⟨some t,op,ty,pos,after,none⟩)::l) γ V:=by
 have hd':=(Bp (Cq hl)) ▸ hd;refine U6 (d:=d) ?_ ⟨htn,.inl ⟨by rw[Bf];rfl,Dw hr,O5 ht hd',fun S' hU g w a hs hT=>?_⟩⟩ h
 ·unfold isAl;split
  ·rename_i heq;cases heq;cases hr
  ·rfl
 ·refine IY ht hs hT (?_:dopX tab (only _ γ) S' op=some d);rw[Bp (U':=γ) fun x hx=>CA (o:=⟨some t,op,ty,pos,after,none⟩) hx];exact MV hU hd'
end
theorem find_born{es:Array MapEntry}(hnd:(es.toList.map (·.born)).Nodup){j:Nat}{e:MapEntry}(hj:es[j]? = some e):es.findIdx? (fun x=>(x.born:Int)==(e.born:Int))=some j:=by
 rw[Array.findIdx?_eq_some_iff_getElem];obtain⟨hl,rfl⟩:=Array.getElem?_eq_some_iff.1 hj;refine⟨hl,by simp,fun k hk=>?_⟩;simp only[Bool.not_eq_true,beq_eq_false_iff_ne,ne_eq];intro he;have he:es[k].born=es[j].born:=by omega
 have:=(List.pairwise_iff_getElem.1 hnd) k j (by simp;omega) (by simp;omega) hk;simp at this;exact this he
theorem Nz(es:Array MapEntry)(j:Nat)(f:MapEntry->MapEntry)(hf:∀e,(f e).born=e.born):(es.modify j f).toList.map (·.born)=es.toList.map (·.born):=by
 apply List.ext_getElem?; intro k;simp only[List.getElem?_map,Array.getElem?_toList,Array.getElem?_modify]
 by_cases hk:j=k
 ·subst hk;rw[if_pos rfl];cases es[j]? with
  |none=>rfl
  |some e=>simp[hf]
 ·rw[if_neg hk]
theorem PH(es:Array MapEntry)(j:Nat)(f h:MapEntry->MapEntry):(es.modify j f).modify j h=es.modify j fun e=>h (f e):=by
 apply Array.ext_getElem?; intro k;simp only[Array.getElem?_modify]
 by_cases hk:j=k
 ·subst hk;simp[Option.map_map];rfl
 ·simp[hk]
theorem Nu(es:Array MapEntry)(e:MapEntry)(f:MapEntry->MapEntry):(es.push e).modify es.size f=es.push (f e):=by
 apply Array.ext_getElem?; intro k;simp only[Array.getElem?_modify,Array.getElem?_push]
 by_cases hk:es.size=k
 ·subst hk;simp
 ·have:¬k=es.size:=fun h=>hk h.symm;simp[hk,this]
theorem I5{P:Program}{w:World}{r clock clock' clock'':Nat}{es es' es'':Array MapEntry}(h:w.heap[r]? = some (.map es clock)):(setObj r (.map es'' clock'')).run P (setB w r (.map es' clock'))=.ok () (setB w r (.map es'' clock'')):=by
 have h2:(setB w r (.map es' clock')).heap[r]? = some (.map es' clock'):=Cw h;have h3:=LC w r (.map es' clock') (.map es'' clock'');rw[<-h3];simp only[setObj,Sem.run,h2];rfl
section
variable {P:Program}{tab:Nat->Ty}(ht:B8 P tab){g:G}{V:Sig}{w:World}(hs:Sim P g V w)
include ht hs
theorem Qp{t kt et id:Nat}{x k d zd:D}{l l':List (D×D)}{m u v:Value}(hkt:(tab t).k=.map kt et)(hoth:A5 (tab et).k=false)(hz:FO (tab et)=some zd)(hk:AY (tab kt).k k=true)(hm:x=.map id)(hU:V id=some (.map l))(hp:BL (tab kt).k k d l=some l')
  (h1:Rep g x m) (h2:Rep g k u) (h3:Rep g d v):∃w1 v0 s w2,(Instr.mapEntry t m u).run P w=.ok (.tuple #[v0,goInt s]) w1/\(Instr.entryStore t m (goInt s) v).run P w1=.ok () w2/\Sim P g (V.set id (.map l')) w2:=by
 subst hm;obtain⟨b',hb',rfl⟩:=h1;obtain⟨b,es,clock,hb,hh,hr,hst⟩:=hs.obj _ _ hU;rw[hb']at hb;cases hb;obtain⟨desc,hd1,hd2,hck⟩:=JI (t:=t) (et:=et) ht hs hk h2 false;have hu:=FA ht hkt;unfold BL at hp;split at hp<;>(try (cases hp;done))
 ·rename_i j dd hf;cases hp;obtain⟨r',e1,e2⟩:=Dk (g:=g) hd2 h2 hr hf;cases r' with
  |none=>exact e2.elim
  | some q =>
   obtain⟨j',y⟩:=q;obtain⟨rfl,e2,_,e,a1,a2,a3⟩:=e2;rw[Nat.sub_zero]at a1;have a1':es[j]? = some e:=by simpa using a1
   refine⟨setB w b' (.map (es.modify j fun e=>{ e with key:=u }) clock),y,e.born,setB w b' (.map (es.modify j fun e=>{ e with key:=u,val:=v }) clock),?_,?_,?_⟩
   ·simp only[Instr.mapEntry,Sem.run_bind,A0 hu,Result.andThen_ok,BC hh,hck,Instr.findKey,A0 hd1,e1,Sem.run_pure,a1',Option.map_some,Option.getD_some,Instr.keyThatStays,I4 hk a2 h2,if_true,F3 ht hs hh]
   ·have hg:(getObj b').run P (setB w b' (.map (es.modify j fun e=>{ e with key:=u }) clock))=.ok (.map (es.modify j fun e=>{ e with key:=u }) clock) (setB w b' (.map (es.modify j fun e=>{ e with key:=u }) clock)):=BC (Cw hh);have hfi:=find_born (es:=es.modify j fun e=>{ e with key:=u }) (e:={ e with key:=u }) (by rw[Nz es j (fun e=>{ e with key:=u }) fun _=>rfl];exact hst.1) (j:=j) (by rw[Array.getElem?_modify,if_pos rfl,a1'];rfl);simp only at hfi;simp only[Instr.entryStore,Sem.run_bind,hg,Result.andThen_ok,asInt,asIntOf,goInt,Sem.run_pure,hfi,PH,I5 hh]
   ·refine hs.setAny hU rfl rfl hb' hh ⟨b',_,clock,hb',Cw hh,?_,hst.modify j⟩;simpa using RepM.set h2 h3 j hr
 ·rename_i hf;cases hp;obtain⟨r',e1,e2⟩:=Dk (g:=g) hd2 h2 hr hf;cases r' with
  |some q=>exact e2.elim
  | none =>
   obtain⟨z,z1,z2⟩:=Ht ht hoth hz w;refine⟨setB w b' (.map (es.push { key:=u,val:=z,born:=clock }) (clock+1)),z,clock,setB w b' (.map (es.push { key:=u,val:=v,born:=clock }) (clock+1)),?_,?_,?_⟩
   ·simp only[Instr.mapEntry,Sem.run_bind,A0 hu,Result.andThen_ok,BC hh,hck,Instr.findKey,A0 hd1,e1,Sem.run_pure,z1,F3 ht hs hh]
   ·have hg:(getObj b').run P (setB w b' (.map (es.push { key:=u,val:=z,born:=clock }) (clock+1)))=.ok (.map (es.push { key:=u,val:=z,born:=clock }) (clock+1)) (setB w b' (.map (es.push { key:=u,val:=z,born:=clock }) (clock+1))):=BC (Cw hh);have hfi:=find_born (es:=es.push { key:=u,val:=z,born:=clock }) (e:={ key:=u,val:=z,born:=clock }) (hst.push).1 (j:=es.size) (by simp);simp only at hfi;simp only[Instr.entryStore,Sem.run_bind,hg,Result.andThen_ok,asInt,asIntOf,goInt,Sem.run_pure,hfi,Nu,I5 hh]
   ·refine hs.setAny hU rfl rfl hb' hh ⟨b',_,clock+1,hb',Cw hh,?_,hst.push⟩;simpa using RepM.push (e:={ key:=u,val:=v,born:=clock }) h2 h3 hr
end
section
variable {P:Program}{ro:Option Nat}{n:Nat}{ops:Array Oper}{Q:DX->St->Prop}{rest:List Oper}{tab:Nat->Ty}{γ:List (Nat×D)}{V:Sig}{df:List DDf}
theorem NV(ht:B8 P tab){t1 t2 T kt et id:Nat}{x k v:Operand}{ty1 ty2 ty3:TypeId}{p1 p2 p3:String}{f1 f2 f3:Array Edge}{zd:D}{l l':List (D×D)}(hkt:(tab T).k=.map kt et)(hoth:A5 (tab et).k=false)(hz:FO (tab et)=some zd)
  (hk:AY (tab kt).k (ev γ k)=true) (hm:ev γ x=.map id) (hU:V id=some (.map l)) (hp:BL (tab kt).k (ev γ k) (ev γ v) l=some l') (ht1:t1<n) (ht2:t2<n) (hx1:x≠.tmp t1) (hx2:x≠.tmp t2) (hv1:v≠.tmp t1) (hv2:v≠.tmp t2)
  (h:DOps P ro n ops Q rest ⟨(t2,.any)::(t1,.any)::γ,V.set id (.map l'),df⟩) :
  DOps P ro n ops Q (⟨some t1,.mapEntry T x k,ty1,p1,f1,none⟩::⟨some t2,.extract (.tmp t1) 1,ty2,p2,f2,none⟩::⟨none,.entryStore T x (.tmp t2) v,ty3,p3,f3,none⟩::rest) ⟨γ,V,df⟩:=by
 intro g w a r hrr hs;have E:=fun y=>Ao hs.tmps y;obtain⟨w1,v0,s,w2,h1,h2,h3⟩:=Qp ht hs.sim hkt hoth hz hk hm hU hp (E x) (E k) (E v);have hsz:=hs.tmps.1
 have e1:((a.put (some t1) (.tuple #[v0,goInt s])).eval (.tmp t1))=.tuple #[v0,goInt s]:=by
  have:t1<a.tmps.size:=by rw[hsz];exact ht1
  simp[Act.put,Act.eval,this]
 have e2:(((a.put (some t1) (.tuple #[v0,goInt s])).put (some t2) (goInt s)).eval (.tmp t2))=goInt s:=by
  have:t2<a.tmps.size:=by rw[hsz];exact ht2
  simp[Act.put,Act.eval,this]
 have e3:∀y,y≠.tmp t1->y≠.tmp t2->((a.put (some t1) (.tuple #[v0,goInt s])).put (some t2) (goInt s)).eval y=a.eval y:=fun y hy1 hy2=>by
  rw[Act.eval_put fun d hd=>by cases hd;exact hy2,Act.eval_put fun d hd=>by cases hd;exact hy1]
 have hS:SimS P g n ⟨(t2,.any)::(t1,.any)::γ,V.set id (.map l'),df⟩ ((a.put (some t1) (.tuple #[v0,goInt s])).put (some t2) (goInt s)) w2:=by
  refine⟨h3,?_,?_⟩
  ·exact(hs.tmps.put (o:=⟨some t1,.mapEntry T x k,ty1,p1,f1,none⟩) (d:=.any) trivial (by simpa[As] using ht1)).put (o:=⟨some t2,.extract (.tmp t1) 1,ty2,p2,f2,none⟩) (d:=.any) trivial (by simpa[As] using ht2)
  ·rw[Act.put_df,Act.put_df];exact hs.df
 have:=h g w2 _ r hrr hS;have hw:∀dst op ty pos af y,Region.wanted ⟨dst,op,ty,pos,af,none⟩ y=true:=fun _ _ _ _ _ _=>rfl;unfold wpListIn;rw[hw,if_pos rfl];refine⟨fun f hf=>(Ac (fun c e=>by cases e) _ _ f hf).elim,?_⟩;rw[Oper.semAt_eq _ _ _ (fun c e=>by cases e)];simp only[execOp,Sem.run_bind,h1,Result.andThen_ok];simp only[Sem.run_pure,Oper.uponIn_value];unfold wpListIn;rw[hw,if_pos rfl];refine⟨fun f hf=>(Ac (fun c e=>by cases e) _ _ f hf).elim,?_⟩;rw[Oper.semAt_eq _ _ _ (fun c e=>by cases e)];simp only[execOp,e1,Instr.extract,List.size_toArray,List.length_cons,List.getElem?_toArray,List.getElem?_cons_succ,List.getElem?_cons_zero,Sem.run_bind,Sem.run_pure,Result.andThen_ok,Oper.uponIn_value];unfold wpListIn;rw[hw,if_pos rfl];refine⟨fun f hf=>(Ac (fun c e=>by cases e) _ _ f hf).elim,?_⟩;rw[Oper.semAt_eq _ _ _ (fun c e=>by cases e)];simp only[execOp,e2,e3 x hx1 hx2,e3 v hv1 hv2,Sem.run_bind,h2,Result.andThen_ok,Sem.run_pure];exact this
end
section
variable {P:Program}{ro:Option Nat}{n:Nat}{ops:Array Oper}{N:Nat}{S0:Sig}{Q:DX->St->Prop}{df:List DDf}{E:List Nat}
def Chain(ops:Array Oper)(k:Nat):Prop:= ∀i,k<=i->∀o,ops[i]? = some o->(∀e∈o.after,Region.binds .any e=true->e.on<i)/\(k<i->∃e∈o.after,Region.binds .any e=true/\e.on=i-1)
theorem O3{F:Fence}{R:Exit->Act->World->Prop}{k:Nat}(hch:Chain ops k): ∀(m q:Nat) (listed:Array Bool) (a:Act) (w:World),q+m=ops.size->k<=q->listed.size=ops.size->(∀i,i<q->listed.getD i true=true)->(∀i,q<=i->i<ops.size->listed.getD i true=false)->
  wpListIn F 0 P ops R (ops.toList.drop q) a w->wpAnyIn F 0 P .any ops R m listed a w:=by
 intro m
 induction m with
 |zero=>
  intro q listed a w hq hk hsz h1 h2 h;rw[List.drop_of_length_le (by simp;omega)]at h;refine⟨List.eq_nil_iff_forall_not_mem.2 fun i hi=>?_,h⟩;obtain⟨h3,o,ho,_⟩:=mem_ready.1 hi;have:=(Array.getElem?_eq_some_iff.1 ho).1;rw[h1 i (by omega)]at h3;cases h3
 | succ m ih =>
  intro q listed a w hq hk hsz h1 h2 h;have hql:q<ops.size:=by omega
  have ho:ops[q]? = some ops[q]:=Array.getElem?_eq_getElem hql;have hd:ops.toList.drop q=ops[q]::ops.toList.drop (q+1):=by rw[List.drop_eq_getElem_cons (by simpa using hql)];simp
  rw[hd]at h
  have hin:∀j,j<q->∀(b:Bool),listed.getD j b=true:=fun j hj b=>by
   have:=h1 j hj;have hl:j<listed.size:=by omega
   simpa[hl] using this
  refine⟨fun he=>?_,fun i hi=>?_⟩
  ·exfalso
   have:q∈Region.ready .any ops listed:=mem_ready.2 ⟨h2 q (Nat.le_refl _) hql,_,ho,fun e hm hb=>hin _ ((hch q hk _ ho).1 e hm hb) _⟩;rw[he]at this;cases this
  ·obtain⟨h3,o,hoi,hdone⟩:=mem_ready.1 hi;have hil:=(Array.getElem?_eq_some_iff.1 hoi).1
   have hiq:i=q:=by
    rcases Nat.lt_trichotomy i q with hlt|heq|hgt
    ·rw[h1 i hlt]at h3;cases h3
    ·exact heq
    ·exfalso
     obtain⟨e,hm,hb,hon⟩:=(hch i (by omega) o hoi).2 (by omega);have h4:=hdone e hm hb;have h5:=h2 (i-1) (by omega) (by omega);rw[hon]at h4;have hl:i-1<listed.size:=by omega
     simp[hl]at h4 h5;rw[h5]at h4;cases h4
   subst hiq
   have hset1:∀j,j<i+1->(listed.setIfInBounds i true).getD j true=true:=fun j hj=>by
    by_cases hji:j=i
    ·subst hji;have:j<listed.size:=by omega
     simp[this]
    ·rw[getD_set_ne true (fun e=>hji e.symm)];exact h1 j (by omega)
   have hset2:∀j,i+1<=j->j<ops.size->(listed.setIfInBounds i true).getD j true=false:=fun j hj hjs=>by
    rw[getD_set_ne true (show i≠j by omega)];exact h2 j (by omega) hjs
   have step:∀a w,wpListIn F 0 P ops R (ops.toList.drop (i+1)) a w->wpAnyIn F 0 P .any ops R m (listed.setIfInBounds i true) a w:=fun a w h=>ih (i+1) _ a w (by omega) (by omega) (by simpa using hsz) hset1 hset2 h
   unfold wpListIn at h;unfold wpOpIn;rw[ho];simp only;split
   ·rename_i hw;rw[if_pos hw]at h;exact Oper.wpIn_mono step h
   ·rename_i hw;rw[if_neg hw]at h;exact⟨h.1,step _ _ h.2⟩
theorem Rf(hN:P.funcs.size=N){ord:List Nat}{k:Nat}(hops:k<ops.size)(hch:Chain ops k)(hmix:mixB ops E [] ord=true)(hall:∀i,i<k->i∈ord)(hlt:∀i∈ord,i<k)
  (hw1:∀i,i<k->G4 ops ops.size k i=true) {g0:G}{rr:Option Nat} (hr:RoRep g0 ro rr) :
  ∀(m:Nat) (r:List Nat) (listed:Array Bool) (γ:Fr) (V:Sig),r.length=m->listed.size=ops.size->r=ord.filter (fun i=> !listed.getD i true)->(∀i,k<=i->i<ops.size->listed.getD i true=false)->Closed ops listed->
   MOps P ro n ops N S0 (Then (fun s=>DOps P ro n ops Q (ops.toList.drop k) s) Q) df E r γ V->Sub S0 V->
   ∀(g:G) (w:World) (a:Act),g0.le g->SimS P g n ⟨γ,V,df⟩ a w->wpAnyIn (FX P rr) 0 P .any ops (Post P g0 n Q) (m+(ops.size-k)) listed a w:=by
 have hmem:∀(r:List Nat) (listed:Array Bool),listed.size=ops.size->(∀i,k<=i->i<ops.size->listed.getD i true=false)->Closed ops listed->r=ord.filter (fun i=> !listed.getD i true)->∀i∈Region.ready .any ops listed,i∈r\/(k<=i/\r=[]):=by
  intro r listed hsz hlk hcl hf i hi;obtain⟨h1,o,ho,hd⟩:=mem_ready.1 hi;have hik:i<ops.size:=(Array.getElem?_eq_some_iff.1 ho).1;rcases Nat.lt_trichotomy i k with hlt|heq|hgt
  ·left
   rw[hf,List.mem_filter];exact⟨hall i hlt,by rw[h1];rfl⟩
  ·subst heq
   right
   refine⟨Nat.le_refl _,?_⟩;rw[hf,List.filter_eq_nil_iff];intro x hx;have:=Cz hcl ops.size i x o ho hd (hw1 x (hlt x hx));rcases Nat.lt_or_ge x listed.size with h|h
   ·simp[h]at this⊢; exact this
   ·simp[Array.getElem?_eq_none h]at this
  ·exfalso
   obtain⟨e,hm,hb,hon⟩:=(hch i (by omega) o ho).2 hgt;have h4:=hd e hm hb;have h5:=hlk (i-1) (by omega) (by omega);rw[hon]at h4;have hl:i-1<listed.size:=by omega
   simp[hl]at h4 h5;rw[h5]at h4;cases h4
 intro m
 induction m with
 | zero =>
  intro r listed γ V hl hsz hf hlk hcl h hC g w a hg hs;obtain rfl:r=[]:=List.length_eq_zero_iff.1 hl
  have hdone:∀x,x<k->listed.getD x true=true:=by
   intro x hx;have:=(List.filter_eq_nil_iff.1 hf.symm) x (hall x hx);simpa using this
  have h1:DOps P ro n ops Q (ops.toList.drop k) ⟨γ,V,df⟩:=fun g w a r hr hs=>by
   have h':=h g w a r hr hs;obtain⟨g',s',x,k1,k2,k3,k4⟩:=h';cases x with
   |normal=>exact At k1 _ (k4 g' w a r (hr.mono k1) k2)
   |ret=>cases k3
   |exit _=>cases k3
   |panic _=>obtain⟨v,k3,_⟩:=k3;cases k3
  rw[Nat.zero_add];exact O3 hch (ops.size-k) k listed a w (by omega) (Nat.le_refl _) hsz hdone hlk (At hg _ (h1 g w a rr (hr.mono hg) hs))
 | succ m ih =>
  intro r listed γ V hl hsz hf hlk hcl h hC g w a hg hs;rw[show m+1+(ops.size-k)=(m+(ops.size-k))+1 by omega];obtain⟨y,t,rfl⟩:∃y t,r=y::t:=by cases r with|nil=>cases hl|cons y t=>exact⟨y,t,rfl⟩
  refine⟨fun he=>?_,fun i hi=>?_⟩
  ·exfalso
   obtain⟨l1,l2,hord,hl1,hy,hl2⟩:=List.filter_eq_cons_iff.1 hf.symm;subst hord;obtain⟨h1,_,_,o,ho,hea,_⟩:=Dx l1 [] hmix
   have:y∈Region.ready .any ops listed:=by
    refine mem_ready.2 ⟨by simpa using hy,o,ho,fun e hm hb=>?_⟩;rcases hea e hm hb with h4|h4
    ·have h5:=hl1 _ h4;simp only[Bool.not_eq_true,Bool.not_eq_false']at h5
     have hlt':e.on<listed.size:=by
      have:=hlt e.on (by simp[h4]);omega
     simpa[hlt'] using h5
    ·cases h4
   rw[he]at this;cases this
  ·have hir:i∈y::t:=by
    rcases hmem _ listed hsz hlk hcl hf i hi with h|h
    ·exact h
    ·exact absurd h.2 (by simp)
   obtain⟨pre,post,hsplit⟩:=List.append_of_mem hir;rw[hsplit]at hf h hl;obtain⟨l1',l2',hord,hf1,hf2⟩:=List.filter_eq_append_iff.1 hf.symm;obtain⟨m1,m2,hl2',hm1,hiu,hf3⟩:=List.filter_eq_cons_iff.1 hf2;have hord':ord=(l1'++m1)++i::m2:=by rw[hord,hl2'];simp
   have hik:i<k:=hlt i (by rw[hord'];simp);rw[hord']at hmix;obtain⟨n1,_,n3,o,ho,hea,hx⟩:=Dx (l1'++m1) [] hmix;obtain⟨hiun,o',ho',hdone⟩:=mem_ready.1 hi;obtain rfl:o'=o:=by rw[ho]at ho';cases ho';rfl
   have hfront:=F7 ho post pre γ V (fun x hxp=>by
    have hx1:x∈l1'++m1:=by
     have:x∈l1'.filter (fun i=> !listed.getD i true):=by rw[hf1];exact hxp
     simp[(List.mem_filter.1 this).1]
    have hxu:listed.getD x true=false:=by
     have:x∈l1'.filter (fun i=> !listed.getD i true):=by rw[hf1];exact hxp
     simpa using(List.mem_filter.1 this).2
    rcases hx x hx1 with h4|h4
    ·exfalso
     have:=Cz hcl ops.size i x o' ho hdone h4
     rcases Nat.lt_or_ge x listed.size with hlt|hlt
     ·simp[hlt]at this hxu;rw[hxu]at this;cases this
     ·simp[Array.getElem?_eq_none hlt]at this
    ·exact h4) h
   have hnext:pre++post=ord.filter (fun j=> !(listed.setIfInBounds i true).getD j true):=by
    have hil:i<listed.size:=by
     rw[hsz];exact(Array.getElem?_eq_some_iff.1 ho).1
    rw[hord',List.filter_append,List.filter_cons];have e1:(listed.setIfInBounds i true).getD i true=true:=by simp[hil]
    rw[e1,B3 n1,B3 n3];simp only[Bool.not_true,Bool.false_eq_true,if_false,List.filter_append,hf1,hf3];rw[List.filter_eq_nil_iff.2 (fun x hx=>by simpa using hm1 x hx),List.append_nil]
   have hlen:(pre++post).length=m:=by simp at hl⊢; omega
   have hlk':∀j,k<=j->j<ops.size->(listed.setIfInBounds i true).getD j true=false:=fun j hj hjs=>by rw[getD_set_ne true (show i≠j by omega)];exact hlk j hj hjs
   obtain⟨o2,ho2,hh⟩:=hfront;obtain rfl:o2=o':=by rw[ho]at ho2;cases ho2;rfl
   unfold wpOpIn;simp only[ho];rcases hh with⟨d,hy,hM⟩|⟨_,hE⟩
   ·exact Gx (Q:=Q) hN (hr.mono hg) hg hs hC hy fun g' w' a' hg' hs'=>ih _ _ _ _ hlen (by simpa using hsz) hnext hlk' (hcl.set hi) hM hC g' w' a' (hg.trans hg') hs'
   ·exact Fe (Q:=Q) (hr.mono hg) hg hs hE (fun g' w' a' d S' hg' hR hs'=>ih _ _ _ _ hlen (by simpa using hsz) hnext hlk' (hcl.set hi) hR.2 hR.1 g' w' a' (hg.trans hg') hs') fun d S' hp=>hp
def Vh(ops:Array Oper)(k:Nat):Bool:=(List.range ops.size).all fun i=>decide (i<k)||match ops[i]? with
 |some o=>o.after.all (fun e=> !Region.binds .any e||decide (e.on<i))&&(decide (i=k)||o.after.any (fun e=>Region.binds .any e&&e.on==i-1))
 |none=>false
theorem UW{k:Nat}(h:Vh ops k=true):Chain ops k:=fun i hk o ho=>by
 have hi:=(Array.getElem?_eq_some_iff.1 ho).1;have:=List.all_eq_true.1 h i (List.mem_range.2 hi);rw[ho,decide_eq_false (by omega),Bool.false_or]at this;simp only[Bool.and_eq_true,Bool.or_eq_true,decide_eq_true_eq]at this;refine⟨fun e hm hb=>?_,fun hlt=>?_⟩
 ·have:=Array.all_eq_true_iff_forall_mem.1 this.1 e hm;simpa[hb] using this
 ·rcases this.2 with h2|h2
  ·omega
  ·rw[Array.any_eq_true']at h2;obtain⟨e,hm,h3⟩:=h2;simp only[Bool.and_eq_true,beq_iff_eq]at h3;exact⟨e,hm,h3⟩
def NF(ops:Array Oper)(E ord:List Nat)(k:Nat):Bool:=mixB ops E [] ord&&(List.range k).all ord.contains&&(ord.length==k)&&ord.all (fun i=>decide (i<k))&&decide (k<ops.size)&&(List.range k).all (fun i=>G4 ops ops.size k i)&&Vh ops k
theorem UM(hN:P.funcs.size=N)(hm:P.follows .mixedOrders=true){l:List Oper}{id:Nat}{γ:Fr}{V:Sig}(k:Nat)(ord E:List Nat)(S0:Sig)(hB:NF l.toArray E ord k=true)(hC:Sub S0 V)
  {lp:List (Bool×Oper)} (hlp:FF l E ord=some lp) (h:MO P ro n l.toArray N S0 (Then (fun s=>DOps P ro n l.toArray Q (l.drop k) s) Q) df lp γ V):DWp P ro n (.region id l.toArray true) Q ⟨γ,V,df⟩:=by
 intro g w a r hr hs;refine wpIn_region_any hm ?_;unfold NF at hB;simp only[Bool.and_eq_true,beq_iff_eq,decide_eq_true_eq]at hB;obtain⟨⟨⟨⟨⟨⟨b1,b2⟩,b3⟩,b4⟩,b5⟩,b6⟩,b7⟩:=hB;have hlt:∀i∈ord,i<k:=fun i hi=>by simpa using List.all_eq_true.1 b4 i hi
 have hs':SimS P g n ⟨γ,V,df⟩ a { w with drawn:=w.drawn+1 }:=
  ⟨⟨fun b o v h=>hs.sim.imm b o v h,hs.sim.keep,fun i o h=>by
   have:=hs.sim.obj i o h
   cases o<;>exact this,hs.sim.inj,hs.sim.free,hs.sim.htop,hs.sim.hdom,hs.sim.fin,hs.sim.io⟩,hs.tmps,hs.df⟩
 have hcl:Closed l.toArray (Array.replicate l.toArray.size false):=by
  intro q o _ hq;rcases Nat.lt_or_ge q l.length with h'|h'
  ·simp[h']at hq
  ·simp[h']at hq
 have hmo:=DN (P:=P) (ro:=ro) (n:=n) (N:=N) (S0:=S0) (Q:=Then (fun s=>DOps P ro n l.toArray Q (l.drop k) s) Q) (df:=df) (ops:=l.toArray) (E:=E) (ord:=ord) (fun i hi=>by have:=hlt i hi;omega) (by rw[I9 hlp];exact h)
 have:=Rf (P:=P) hN (ops:=l.toArray) (k:=k) b5 (UW b7) b1 (fun i hi=>by simpa using List.all_eq_true.1 b2 i (by simpa using hi)) hlt
  (fun i hi=>List.all_eq_true.1 b6 i (List.mem_range.2 hi))
  hr ord.length ord (Array.replicate l.toArray.size false) γ V rfl (by simp) (Eb (fun i hi=>by have:=hlt i hi;omega)).symm (fun i hi his=>by
   rw[Array.getD_eq_getD_getElem?]
   simp only[Array.getElem?_replicate,his,if_true];rfl) hcl (by simpa using hmo) hC g _ a (.refl g) hs'
 rw[b3,show k+(l.toArray.size-k)=l.toArray.size by omega]at this;exact this
end
section
variable {P:Program}{ro:Option Nat}{n:Nat}{ops:Array Oper}{Q:DX->St->Prop}{rest:List Oper}{tab:Nat->Ty}{γ:List (Nat×D)}{V:Sig}{df:List DDf}
variable (ht:B8 P tab)
include ht
theorem UO{t T T' ty e:Nat}{x:Operand}{s:List UInt8}{pos:String}{after:Array Edge}{gd:Option (Nat×Bool)}
  (h:DOps P ro n ops Q rest ⟨(t,.str s)::γ,V,df⟩) (hw:AB ops γ ⟨some t,.convert T T' x,ty,pos,after,gd⟩=some true) (htn:t<n) (hk:(tab T).k=.slice e) (hk':(tab T').k=.str) (hke:(tab e).k=.int .u8) (h1:esOf (ev γ x)=some (s.map fun b=>[D.int .u8 (b.toNat:Int)])) :
  DOps P ro n ops Q (⟨some t,.convert T T' x,ty,pos,after,gd⟩::rest) ⟨γ,V,df⟩:=by
 refine Ds (fun d S'=>d=.str s/\S'=V) hw (fun c e=>by cases e) (Ac fun c e=>by cases e) (by simp[As,htn]) ?_
  (fun d S' ⟨a2,a3⟩=>by subst a2 a3;exact h)
 intro g w a hs hT;have hxv:=Ao hT x;obtain⟨xa,xc,q1,q2,q3⟩:=C3 h1 hxv;obtain⟨vs,v1,v2,v3⟩:=Cd hs (sz:=1) (fun c hc=>by obtain⟨b,_,rfl⟩:=List.mem_map.1 hc;rfl) q3
 have hrun:(convert T T' (a.eval x)).run P w=.ok (.string ⟨s.toArray⟩) w:=by
  rw[q1];cases xa with
  | none =>
   have hs0:s=[]:=by
    rcases v3 with h|⟨b,o,h,_⟩
    ·simpa using h
    ·cases h
   subst hs0;exact run_convert_bytes_nil w T e (AQ ht hk) (KB ht hke) _ _ T' (HU ht hk')
  | some ad =>
   rw[List.length_map];refine run_convert_bytes_back w T T' e ad xc s (AQ ht hk) (KB ht hke) (HU ht hk') fun j hj=>?_;rcases v3 with h|⟨b,o,h,hc⟩
   ·rw[List.length_map]at h;omega
   ·cases h
    have hfl:∀l:List UInt8,(l.map fun b=>[D.int .u8 (b.toNat:Int)]).flatten=l.map fun b=>D.int .u8 (b.toNat:Int):=fun l=>by
     induction l with
     |nil=>rfl
     |cons y l ih=>rw[List.map_cons,List.flatten_cons,ih];rfl
    rw[hfl]at v1;have hg:=RepL.get v1 j;rw[List.getElem?_map,List.getElem?_eq_getElem hj]at hg;have hjv:j<vs.length:=by rw[v2,List.length_map];omega
    rw[List.getElem?_eq_getElem hjv]at hg;simp only[Option.map_some]at hg;have:=hc j _ (List.getElem?_eq_getElem hjv);rw[show vs[j]=.int .u8 ((s[j]).toNat:Int) from Be hg]at this;have hplain:(⟨b,o,none⟩:Addr).add j=⟨b,o+j,none⟩:=by unfold Addr.add;split<;>simp_all
    rw[hplain];exact this
 exact⟨g,w,.string ⟨s.toArray⟩,.str s,V,by simp only[execOp];rw[Sem.run_bind,hrun];rfl,.refl g,hs,rfl,rfl,rfl⟩
end
end Go.DL
