/- A part of the proof. -/
import Derived.CallsIn
import Derived.Laws.Sem
import Derived.TacticsIn
import Derived.Laws.Strings
set_option linter.all false
def aN:=@Bool.and_eq_true
def aO:=@List.length_append
def aP:=@decide_eq_true_eq
def aQ:=@if_neg
def aR:=@List.getElem_mem
def aS:=@if_pos
def aT:=@List.getElem?_eq_getElem
def aU:=@Go.Result.andThen_ok
def aV:=@List.length_cons
def aW:=@Bool.eq_iff_iff
def aX:=@Array.getElem?_eq_some_iff
def aY:=@List.length_map
def aZ:=@Ne.symm
def ba:=@decide_eq_false
def bb:=@Go.Sem.run_bind
def bc:=@List.append_assoc
def bd:=@Bool.true_and
def be:=@List.mem_cons
def bf:=@decide_eq_true
def bg:=@List.map_cons
def bh:=@List.all_eq_true
def bi:=@List.mem_append
def bj:=@List.getD_eq_getElem?_getD
def bk:=@decide_eq_false_iff_not
def bl:=@if_false
def bm:=@List.getElem_of_mem
def bn:=@Nat.le_refl
def bp:=@Go.Sem.run_pure
def bq:=@List.mem_singleton
def br:=@List.append_nil
def bu:=@List.mem_append_left
def bw:=@Bool.false_and
def bx:=@of_decide_eq_true
def bz:=@Bool.false_eq_true
def bA:=@Bool.not_eq_true'
def bB:=@List.length_replicate
def bC:=@List.getElem?_eq_some_iff
def bD:=@List.mem_map
def bE:=@List.cons_append
def bF:=@List.map_congr_left
def bG:=@List.nil_append
def bH:=@List.length_eq_zero_iff
def bI:=@if_true
def bJ:=@Option.some.injEq
def bK:=@List.getElem?_append_left
def bL:=@List.map_append
def bM:=@List.take_of_length_le
def bN:=@List.getElem?_map
def bO:=@Array.getElem?_eq_getElem
def bP:=@List.getElem?_append_right
def bQ:=@List.take_succ_eq_append_getElem
def bR:=@List.mem_filter
def bT:=@Option.map_some
def bU:=@List.all_cons
def bV:=@Bool.or_eq_true
def bW:=@List.getElem?_eq_none
def bX:=@Decidable.em
def bY:=@Array.length_toList
def bZ:=@Nat.zero_add
def ca:=@Option.getD_some
def ce:=@List.length_singleton
def cf:=@congrArg
def cg:=@List.length_set
def cj:=@List.filter_eq_cons_iff
def ck:=@List.length_take
def cn:=@List.filter_append
def co:=@List.append_of_mem
def cp:=@List.mem_map_of_mem
def cq:=@List.map_nil
def cr:=@List.map_map
def cu:=@Array.getElem?_eq_none
def cw:=@List.contains_eq_mem
def cx:=@List.flatMap_cons
def cy:=@Bool.not_eq_true
def cz:=@Array.all_eq_true_iff_forall_mem
def cC:=@List.mem_append_right
def cD:=@Array.getElem?_toList
def cE:=@List.nodup_cons
def cF:=@Nat.lt_or_ge
def cG:=@List.length_nil
def cH:=@List.filter_eq_nil_iff
def cJ:=@decide_eq_decide
def cK:=@Nat.add_mul
def cL:=@beq_iff_eq
def cN:=@Option.map_eq_some_iff
def cO:=@List.set_eq_take_append_cons_drop
def cP:=@List.filter_cons
def cQ:=@Bool.not_true
def cT:=@List.flatten_cons
def cV:=@Array.getD_eq_getD_getElem?
def cW:=@Go.Oper.semAt_eq
def cX:=@List.eq_nil_iff_forall_not_mem
def cY:=@Classical.byContradiction
def cZ:=@Nat.add_assoc
def da:=@List.cons.injEq
def dc:=@List.getElem?_drop
def de:=@List.mem_of_getElem?
def dh:=@List.getElem_map
def di:=@List.getElem?_append
def dk:=@List.nodup_append
def dm:=@List.drop_of_length_le
def dn:=@List.replicate_succ
def dp:=@List.all_append
def dq:=@Array.getElem?_setIfInBounds_ne
def dr:=@List.filter_eq_append_iff
def dt:=@List.take_append_drop
def du:=@List.getElem?_toArray
def dv:=@Array.getElem?_modify
def dw:=@List.mem_flatMap
def dy:=@Nat.le_trans
def dz:=@List.getElem?_take_of_lt
def dA:=@List.not_all_eq_any_not
def dB:=@List.getElem_cons_succ
def dC:=@Prod.mk.injEq
def dD:=@Bool.false_or
def dE:=@List.drop_zero
def dF:=@Go.wpIn_mono
def dG:=@Nat.mul_le_mul_right
def dH:=@List.mem_cons_of_mem
def dJ:=@List.getElem?_set
def dK:=@List.eq_of_mem_replicate
def dL:=@Array.getElem?_push_size
def dM:=@Go.StepsIn.trans
def dN:=@List.take_length
def dO:=@List.getElem?_replicate
def dP:=@List.eq_nil_of_length_eq_zero
def dQ:=@Nat.sub_zero
def dR:=@List.getElem_cons_zero
def dT:=@List.getElem?_take
def dU:=@Bool.not_eq_false'
def dV:=@and_self
def dW:=@List.foldl_cons
def dX:=@not_or
def dY:=@Int.le_refl
def dZ:=@Bool.or_eq_false_iff
def eb:=@Array.ext'
def ec:=@false_and
def ed:=@List.drop_eq_getElem_cons
def ee:=@List.flatten_append
def eg:=@List.getElem?_cons_succ
def eh:=@Nat.sub_self
def ek:=@List.ext_getElem?
def el:=@Int.toNat_natCast
def ep:=@Bool.eq_false_iff
def eu:=@List.length_filter_le
def ew:=@false_iff
def ex:=@Option.bind_some
def ey:=@List.length_drop
def ez:=@Bool.and_self
def eB:=@List.take_append_of_le_length
def eD:=@List.length_pos_iff
def eE:=@List.all_nil
def eF:=@List.set_cons_succ
def eH:=@Bool.and_assoc
def eI:=@Array.getElem?_append_left
def eJ:=@decide_true
def eK:=@Nat.one_mul
def eL:=@Go.fenced_calm
def eO:=@Nat.mod_eq_of_lt
def eR:=@List.not_mem_nil
def eT:=@List.getElem?_cons_zero
def eU:=@List.flatten_nil
def eV:=@List.flatMap_nil
def eW:=@List.filter_cons_of_neg
def eX:=@List.eraseIdx_cons_succ
def eY:=@Nat.add_zero
def eZ:=@List.map_set
def fa:=@Option.map_none
def fb:=@List.sizeOf_lt_of_mem
def fe:=@List.countP_le_length
def ff:=@Bool.not_eq_eq_eq_not
def fg:=@Bool.and_eq_false_iff
def fh:=@true_and
def fi:=@Nat.zero_le
def fj:=@List.length_eraseIdx
def fk:=@Bool.not_false
def fm:=@List.replicate_zero
def fo:=@List.flatMap_append
def fp:=@List.filterMap_cons
def fq:=@List.zip_cons_cons
def fu:=@List.set_cons_zero
def fv:=@List.mem_mergeSort
def fw:=@Array.foldl_toList
def fy:=@Array.any_eq_true'
def fA:=@Nat.zero_mul
def fB:=@Nat.add_comm
def fC:=@List.size_toArray
def fD:=@List.replicate_append_replicate
def fE:=@forall_eq_or_imp
def fF:=@Nat.le_add_right
def fG:=@Array.getElem_setIfInBounds_ne
def fH:=@Int.natCast_add
def fI:=@List.drop_length_add_append
def fJ:=@Option.map_map
def fK:=@List.mem_range
def fL:=@List.mapM_cons
def fM:=@List.foldl_nil
def fN:=@Bool.decide_or
def fO:=@List.pairwise_iff_getElem
namespace Go.DL
open Go
theorem k0{p:Prop}(h:p:=by omega):p:=h
theorem k7{p:Prop}(h:p:=by simp):p:=h
def tdR{α:Sort _}{a b:α}(h:a=b:=by with_unfolding_all rfl):a=b:=h
abbrev cv(fop:Operand)(args:Array Operand)(ats:Array TypeId):Op:=.call { callee:=.value fop,args,argTypes:=ats }
abbrev cA(s x:Operand)(T S:TypeId):Op:=.call { callee:=.builtin .append,args:= #[s,x],argTypes:= #[T,S] }
abbrev fU:=List Nat
abbrev fR:=List Int
abbrev fW:=List fR
inductive Own where
 |no
 |clip
 |tag (id:Nat)
 deriving DecidableEq,Inhabited
inductive D where
 |any
 |bool (b:Bool)
 |int (k:IntKind) (n:Int)
 |str (s:List UInt8)
 |agg (cs:(List D))
 |tup (cs:(List D))
 |aA
 |aw (cells:(List D)) (off:Nat)
 |ptr (id off:Nat)
 |av
 |slice (es:(List (List D))) (own:Own)
 |ax (id off len cap:Nat)
 |map (id:Nat)
 |ay
 |cmap (ks vs:(List D))
 |func (fn:Fn) (first cap:(List D))
 |yld (id:Nat)
 |nilf
 |iface (t:TypeId) (d:D)
 |niliface
 |obj (id:Nat)
 deriving Inhabited
abbrev fQ:=List D
abbrev fV:=List fQ
abbrev Fr:=List (Nat×D)
def D.cells:D->fQ
 |.agg cs=>cs
 |d=>[d]
structure G where
 imm:Nat->Nat->Option Value
 rho:Nat->Option Nat
 hist:Nat->Nat->Option Value
 keep:Nat->Option Obj
 io:Os×Array (Nat×ByteArray)
structure G.le(g g':G):Prop where
 imm:∀b o v,g.imm b o=some v->g'.imm b o=some v
 rho:∀i b,g.rho i=some b->g'.rho i=some b
 hist:∀i n v,g.hist i n=some v->g'.hist i n=some v
 keep:∀b o,g.keep b=some o->g'.keep b=some o
 io:g'.io=g.io
def G.le.refl(g:G):g.le g:=⟨fun _ _ _ h=>h,fun _ _ h=>h,fun _ _ _ h=>h,fun _ _ h=>h,rfl⟩
def G.le.trans{a b c:G}(h:a.le b)(k:b.le c):a.le c:=
 ⟨fun _ _ _ x=>k.imm _ _ _ (h.imm _ _ _ x),fun _ _ x=>k.rho _ _ (h.rho _ _ x),fun _ _ _ x=>k.hist _ _ _ (h.hist _ _ _ x),fun _ _ x=>k.keep _ _ (h.keep _ _ x),k.io.trans h.io⟩
def ln(c:Nat)(es:List MapEntry):Prop:=(es.map (·.born)).Nodup /\ ∀e∈es,e.born<c
mutual
def Rep (g:G):D->Value->Prop
 |.any,_=>True
 |.bool b,v=>v=.bool b
 |.int k n,v=>v=.int k n
 |.str s,v=>v=.string ⟨s.toArray⟩
 |.agg cs,v=> ∃vs:List Value,v=.agg vs.toArray/\kI g cs vs
 |.tup cs,v=> ∃vs:List Value,v=.tuple vs.toArray/\kI g cs vs
 |.aA,v=>v=.pointer none
 |.aw cs off,v=> ∃b o,v=.pointer (some ⟨b,o+off,none⟩)/\kx g b o cs
 |.ptr id off,v=> ∃b,g.rho id=some b/\v=.pointer (some ⟨b,off,none⟩)
 |.av,v=>v=.slice none 0 0
 | .slice es own,v => ∃ a cap,v = .slice a es.length cap/\es.length<=cap /\
   (es=[] \/ ∃sz b o,a=some ⟨b,o,none⟩/\kl g b sz o es) /\
   (match own with
    |.no=>True
    |.clip=>cap=es.length
    |.tag id=>g.hist id es.length=some v)
 |.ax id off len cap,v=> ∃b,g.rho id=some b/\v=.slice (some ⟨b,off,none⟩) len cap
 |.map id,v=> ∃b,g.rho id=some b/\v=.map (some b)
 |.ay,v=>v=.map none
 |.cmap ks vs,v=> ∃b es clock,v=.map (some b)/\g.keep b=some (.map es clock)/\ln clock es.toList/\kI g ks (es.toList.map (·.key))/\kI g vs (es.toList.map (·.val))
 |.func fn first cap,v=> ∃fs cs:List Value,v=.func fn fs.toArray cs.toArray/\kI g first fs/\kI g cap cs
 |.yld id,v=> ∃b,g.rho id=some b/\v=.func (.yield b) #[] #[]
 |.nilf,v=>v=.nilFunc
 |.iface t d,v=> ∃x,v=.iface t x/\Rep g d x
 |.niliface,v=>v=.nilIface
 |.obj id,v=> ∃b,g.rho id=some b/\v=.pointer (some ⟨b,0,none⟩)
def kI(g:G):fQ->List Value->Prop
 |[],vs=>vs=[]
 |d::ds,vs=> ∃v r,vs=v::r/\Rep g d v/\kI g ds r
def kx(g:G)(b:Nat):Nat->fQ->Prop
 |_,[]=>True
 |o,d::ds=>(∃v,g.imm b o=some v/\Rep g d v)/\kx g b (o+1) ds
def kl(g:G)(b sz:Nat):Nat->fV->Prop
 |_,[]=>True
 |o,e::es=>(e.length=sz/\kx g b o e)/\kl g b sz (o+sz) es
end
section mono
variable {g g':G}(h:g.le g')
include h
mutual
theorem Rep.mono: ∀(d:D) {v:Value},Rep g d v->Rep g' d v
 |.any,_=>fun _=>trivial
 |.bool b,v=>fun x=>x
 |.int k n,v=>fun x=>x
 |.str s,v=>fun x=>x
 |.agg cs,v=>fun ⟨vs,e,r⟩=>⟨vs,e,kI.mono cs r⟩
 |.tup cs,v=>fun ⟨vs,e,r⟩=>⟨vs,e,kI.mono cs r⟩
 |.aA,v=>fun x=>x
 |.aw cs off,v=>fun ⟨b,o,e,r⟩=>⟨b,o,e,kx.mono cs r⟩
 |.ptr id off,v=>fun ⟨b,e,r⟩=>⟨b,h.rho _ _ e,r⟩
 |.av,v=>fun x=>x
 | .slice es own,v=>fun ⟨a,cap,e,hc,r,ho⟩=>⟨a,cap,e,hc,(match r with
   |.inl r=>.inl r
   |.inr ⟨sz,b,o,ha,r⟩=>.inr ⟨sz,b,o,ha,kl.mono es r⟩),(match own,ho with
   |.no,_=>trivial
   |.clip,ho=>ho
   |.tag id,ho=>h.hist _ _ _ ho)⟩
 |.ax id off len cap,v=>fun ⟨b,e,r⟩=>⟨b,h.rho _ _ e,r⟩
 |.map id,v=>fun ⟨b,e,r⟩=>⟨b,h.rho _ _ e,r⟩
 |.ay,v=>fun x=>x
 |.cmap ks vs,v=>fun ⟨b,es,c,e,hk,hs,r1,r2⟩=>⟨b,es,c,e,h.keep _ _ hk,hs,kI.mono ks r1,kI.mono vs r2⟩
 |.func fn first cap,v=>fun ⟨fs,cs,e,r1,r2⟩=>⟨fs,cs,e,kI.mono first r1,kI.mono cap r2⟩
 |.yld id,v=>fun ⟨b,e,r⟩=>⟨b,h.rho _ _ e,r⟩
 |.nilf,v=>fun x=>x
 |.iface t d,v=>fun ⟨x,e,r⟩=>⟨x,e,Rep.mono d r⟩
 |.niliface,v=>fun x=>x
 |.obj id,v=>fun ⟨b,e,r⟩=>⟨b,h.rho _ _ e,r⟩
theorem kI.mono: ∀(ds:fQ) {vs:List Value},kI g ds vs->kI g' ds vs
 |[],_=>fun x=>x
 |d::ds,_=>fun ⟨v,r,e,h1,h2⟩=>⟨v,r,e,Rep.mono d h1,kI.mono ds h2⟩
theorem kx.mono: ∀(ds:fQ) {b o:Nat},kx g b o ds->kx g' b o ds
 |[],_,_=>fun _=>trivial
 |d::ds,_,_=>fun ⟨⟨v,h1,h3⟩,h4⟩=>⟨⟨v,h.imm _ _ _ h1,Rep.mono d h3⟩,kx.mono ds h4⟩
theorem kl.mono: ∀(es:fV) {b sz o:Nat},kl g b sz o es->kl g' b sz o es
 |[],_,_,_=>fun _=>trivial
 |e::es,_,_,_=>fun ⟨⟨h1,h2⟩,h3⟩=>⟨⟨h1,kx.mono e h2⟩,kl.mono es h3⟩
end
end mono
inductive kM where
 |cells (ds:fQ)
 |map (es:List (D×D))
 |tail (sz n:Nat)
 |loop (st:LoopState) (pend:Option Code) (ps:Array Tmp) (assign body:Code) (n:Nat) (γ:Fr) (did:Nat)
 |defs
 |iter (left:List (D×D)) (last:Option (D×D))
 deriving Inhabited
inductive DDf where
 |coll (id:Nat)
 |fn (f:Nat) (args cap:fQ)
abbrev Sig:=Nat->Option kM
def Sig.set(V:Sig)(i:Nat)(o:kM):Sig:=fun j=>if j=i then some o else V j
def Sig.del(V:Sig)(i:Nat):Sig:=fun j=>if j=i then none else V j
def getD(γ:Fr)(t:Nat):D:=(γ.lookup t).getD .any
structure St where
 γ:Fr
 V:Sig
 df:List DDf:=[]
def lL(g:G):List (D×D)->List MapEntry->Prop
 |[],es=>es=[]
 |(k,d)::r,es=> ∃e rest,es=e::rest/\Rep g k e.key/\Rep g d e.val/\lL g r rest
def lL.mono{g g':G}(h:g.le g'): ∀(l:List (D×D)) {es:List MapEntry},lL g l es->lL g' l es
 |[],_=>fun x=>x
 |(_,_)::r,_=>fun ⟨e,rest,h1,h2,h3,h4⟩=>⟨e,rest,h1,Rep.mono h _ h2,Rep.mono h _ h3,lL.mono h r h4⟩
def blk(g:G)(V:Sig)(i:Nat):Option Nat:=
 match V i with
 |none=>none
 |some (.tail _ n)=>match g.hist i n with
  |some (.slice (some a) _ _)=>some a.block
  |_=>none
 |some _=>g.rho i
def lF(g:G)(γ:Fr)(n:Nat)(tmps:Array Value):Prop:=
 tmps.size=n /\ ∀t,Rep g (getD γ t) (tmps.getD t undef)
def lM (P:Program) (g:G) (w:World) (i:Nat):kM->Prop
 |.cells ds=> ∃b vs ty,g.rho i=some b/\w.heap[b]? = some (.cells vs ty (0,0))/\kI g ds vs.toList
 |.map l=> ∃b es clock,g.rho i=some b/\w.heap[b]? = some (.map es clock)/\lL g l es.toList/\ln clock es.toList
 | .tail sz n=>(g.hist i n=some (.slice none 0 0)/\n=0) \/
   ∃b o cap vs ty,g.hist i n=some (.slice (some ⟨b,o,none⟩) n cap)/\n<=cap/\w.heap[b]? = some (.cells vs ty (0,0)) /\
    o+cap*sz<=vs.size /\ ∀j,o+n*sz<=j->g.imm b j=none
 | .loop st pend ps assign body n γ did => ∃ b db fn tmps,g.rho i=some b/\g.rho did=some db/\fn < P.funcs.size/\lF g γ n tmps /\
   w.heap[b]? = some (.loop { state:=st,pending:=pend,fn,tmps,params:=ps,assign,body,defers:=db })
 |.defs=> ∃b,g.rho i=some b/\w.heap[b]? = some (.deferred (some []))
 | .iter left last => ∃ b,g.rho i=some b/\((left=[]/\last=none/\w.heap[b]? = some (.mapIter none 0 #[] 0)) \/ ∃ mb es clock seen,w.heap[b]? = some (.mapIter (some mb) clock seen clock)/\g.keep mb=some (.map es clock)/\ln clock es.toList /\
   lL g left (es.toList.filter fun e=> !seen.contains e.born) /\ ∀k v,last=some (k,v)->∃e st,seen.back? = some st/\es.find? (fun e=>e.born==st)=some e/\Rep g k e.key/\Rep g v e.val)
def kM.isTail:kM->Bool
 |.tail .. =>true
 |_=>false
structure Sim(P:Program)(g:G)(V:Sig)(w:World):Prop where
 imm:∀b o v,g.imm b o=some v->w.cell? ⟨b,o,none⟩=some v
 keep:∀k o,g.keep k=some o->w.heap[k]? = some o
 obj:∀i o,V i=some o->lM P g w i o
 inj:∀i j b,blk g V i=some b->blk g V j=some b->i=j
 free:∀i b,blk g V i=some b->g.keep b=none/\((∀o,V i=some o->o.isTail=false)->∀o,g.imm b o=none)
 htop:∀i sz n k,V i=some (.tail sz n)->n<k->g.hist i k=none
 hdom:∀i n v,g.hist i n=some v->(g.rho i).isSome=true
 fin:∃m, ∀i,m<=i->g.rho i=none
 io:(w.os,w.output)=g.io
def lF.mono{g g':G}(h:g.le g'){γ:Fr}{n:Nat}{tmps:Array Value}(r:lF g γ n tmps):lF g' γ n tmps:=
 ⟨r.1,fun t=>Rep.mono h _ (r.2 t)⟩
def FX(P:Program)(r:Option Nat):Fence:={ fn:=fun f=>f<P.funcs.size,depth:=none,alive:=false,round:=r }
def room_FX(P:Program)(r:Option Nat)(n:Nat):(FX P r).room n:=fun _ h=>by simp[FX]at h
def RepDf(g:G):List DDf->List Deferred->Prop
 |[],l=>l=[]
 |.coll i::r,l=> ∃b rest,l={ target:=.collected b,args:= #[] }::rest/\g.rho i=some b/\RepDf g r rest
 |.fn f args cap::r,l=> ∃az cs rest,l={ target:=.fn (.func f) cs.toArray,args:=az.toArray }::rest/\kI g args az/\kI g cap cs/\RepDf g r rest
def RepDf.mono{g g':G}(h:g.le g'): ∀(l:List DDf) {ds:List Deferred},RepDf g l ds->RepDf g' l ds
 |[],_=>fun x=>x
 |.coll _::r,_=>fun ⟨b,rest,h1,h2,h3⟩=>⟨b,rest,h1,h.rho _ _ h2,RepDf.mono h r h3⟩
 |.fn _ _ _::r,_=>fun ⟨az,cs,rest,h1,h2,h3,h4⟩=>⟨az,cs,rest,h1,kI.mono h _ h2,kI.mono h _ h3,RepDf.mono h r h4⟩
structure lP(P:Program)(g:G)(n:Nat)(s:St)(a:Act)(w:World):Prop where
 sim:Sim P g s.V w
 tmps:lF g s.γ n a.tmps
 df:RepDf g s.df a.defers
inductive DX where
 |normal
 |exit (id:Nat)
 |ret
 |panic (d:D)
def XRep(g:G):DX->Exit->Prop
 |.normal,e=>e=.normal
 |.exit id,e=>e=.exit id
 |.ret,e=>e=.ret
 |.panic d,e=> ∃v,e=.panic [{ v,recovered:=false }]/\Rep g d v
def XRep.mono{g g':G}(h:g.le g'){x:DX}{e:Exit}(r:XRep g x e):XRep g' x e:=by
 cases x with
 |panic d=>obtain⟨v,h1,h2⟩:=r;exact⟨v,h1,Rep.mono h _ h2⟩
 |_=>exact r
def lQ(P:Program)(g:G)(n:Nat)(Q:DX->St->Prop)(e:Exit)(a:Act)(w:World):Prop:=
 ∃g' s' x,g.le g'/\lP P g' n s' a w/\XRep g' x e/\Q x s'
def lQ.le{P:Program}{g g':G}{n:Nat}{Q:DX->St->Prop}{e:Exit}{a:Act}{w:World}(h:g.le g')(p:lQ P g' n Q e a w):lQ P g n Q e a w:=
 let ⟨g2,s',x,h1,h2⟩:=p
 ⟨g2,s',x,h.trans h1,h2⟩
def lw(g:G):Option Nat->Option Nat->Prop
 |none,r=>r=none
 |some i,r=> ∃b,r=some b/\g.rho i=some b
def lw.mono{g g':G}(h:g.le g'){ro r:Option Nat}(x:lw g ro r):lw g' ro r:=by
 cases ro with
 |none=>exact x
 |some i=>obtain⟨b,h1,h2⟩:=x;exact⟨b,h1,h.rho _ _ h2⟩
def DWp(P:Program)(ro:Option Nat)(n:Nat)(c:Code)(Q:DX->St->Prop)(s:St):Prop:=
 ∀g w a r,lw g ro r->lP P g n s a w->c.wpIn (FX P r) 0 P (lQ P g n Q) a w
def lW(K:St->Prop)(Q:DX->St->Prop):DX->St->Prop
 |.normal,s=>K s
 |x,s=>Q x s
section
variable {P:Program}{ro:Option Nat}{n:Nat}{Q:DX->St->Prop}{s:St}
theorem FL{c:Code}{Q':DX->St->Prop}(h:DWp P ro n c Q s)(hq:∀x s,Q x s->Q' x s):DWp P ro n c Q' s:=
 fun g w a r hr hs=>dF (h g w a r hr hs) fun _ _ _ ⟨g',s',x,h1,h2,h3,h4⟩=>⟨g',s',x,h1,h2,h3,hq _ _ h4⟩
def Wk(P:Program)(n:Nat)(s s':St):Prop:= ∀g w a,lP P g n s a w->∃g',g.le g'/\lP P g' n s' a w
theorem Wk.refl(P:Program)(n:Nat)(s:St):Wk P n s s:=fun g _ _ h=>⟨g,.refl g,h⟩
theorem Wk.trans{s s' s'':St}(h:Wk P n s s')(k:Wk P n s' s''):Wk P n s s'':=fun g w a x=>
 let ⟨g1,l1,h1⟩:=h g w a x
 let ⟨g2,l2,h2⟩:=k g1 w a h1
 ⟨g2,l1.trans l2,h2⟩
theorem kO{c:Code}{s':St}(h:Wk P n s s')(k:DWp P ro n c Q s'):DWp P ro n c Q s:=fun g w a r hr hs=>
 let ⟨g',l,hs'⟩:=h g w a hs
 dF (k g' w a r (hr.mono l) hs') fun _ _ _ p=>p.le l
theorem NL(h:Q .normal s):DWp P ro n .skip Q s:=fun g _ _ _ _ hs=>wpIn_skip ⟨g,s,.normal,.refl g,hs,rfl,h⟩
theorem PF{l:Nat}(h:Q .normal s):DWp P ro n (.label l) Q s:=fun g _ _ _ _ hs=>wpIn_label ⟨g,s,.normal,.refl g,hs,rfl,h⟩
theorem NM{id:Nat}(h:Q (.exit id) s):DWp P ro n (.exit id) Q s:=fun g _ _ _ _ hs=>wpIn_exit ⟨g,s,.exit id,.refl g,hs,rfl,h⟩
theorem QD(h:Q .ret s):DWp P ro n .ret Q s:=fun g _ _ _ _ hs=>wpIn_ret ⟨g,s,.ret,.refl g,hs,rfl,h⟩
theorem KV{x y:Code}(h:DWp P ro n x (lW (DWp P ro n y Q) Q) s):DWp P ro n (.seq x y) Q s:=by
 intro g w a r hr hs;refine wpIn_seq (dF (h g w a r hr hs) ?_)
 rintro e a' w' ⟨g',s',x,h1,h2,h3,h4⟩
 cases x with
 |normal=>
  obtain rfl:=h3;exact dF (h4 g' w' a' r (hr.mono h1) h2) fun _ _ _ p=>p.le h1
 |exit id=>obtain rfl:=h3;exact⟨g',s',.exit id,h1,h2,rfl,h4⟩
 |ret=>obtain rfl:=h3;exact⟨g',s',.ret,h1,h2,rfl,h4⟩
 |panic d=>obtain⟨v,rfl,h5⟩:=h3;exact⟨g',s',.panic d,h1,h2,⟨v,rfl,h5⟩,h4⟩
def Cu:Value->D
 |.bool b=>.bool b
 |.int k n=>.int k n
 |.string s=>.str s.data.toList
 |.pointer none=>.aA
 |.slice none 0 0=>.av
 |.map none=>.ay
 |.nilFunc=>.nilf
 |.nilIface=>.niliface
 |_=>.any
def ev(γ:Fr):Operand->D
 |.tmp t=>getD γ t
 |.const v=>Cu v
 |.global _=>.any
 |.func f=>.func (.func f) [] []
theorem F1(g:G)(v:Value):Rep g (Cu v) v:=by
 unfold Cu;split<;>simp[Rep]
theorem Az{g:G}{γ:Fr}{m:Nat}{a:Act}(h:lF g γ m a.tmps)(x:Operand):Rep g (ev γ x) (a.eval x):=by
 cases x with
 |tmp t=>exact h.2 t
 |const v=>exact F1 g v
 |global _=>trivial
 |func f=>exact⟨[],[],rfl,rfl,rfl⟩
theorem HW{g:G}{b:Bool}{v:Value}(h:Rep g (.bool b) v):v=.bool b:=h
theorem Sm{c:Operand}{x y:Code}{t:Bool}(hc:ev s.γ c=.bool t)(ht:t=true->DWp P ro n x Q s)(hf:t=false->DWp P ro n y Q s):
  DWp P ro n (.cond c x y) Q s:=by
 intro g w a r hr hs;have he:a.eval c=.bool t:=by have:=Az hs.tmps c;rw[hc]at this;exact this
 cases t
 ·exact wpIn_cond he (hf rfl g w a r hr hs)
 ·exact wpIn_cond he (ht rfl g w a r hr hs)
def InB(id:Nat)(Q:DX->St->Prop):DX->St->Prop
 |.exit i,s=>if i=id then Q .normal s else Q (.exit i) s
 |x,s=>Q x s
theorem KW{id:Nat}{c:Code}(h:DWp P ro n c (InB id Q) s):DWp P ro n (.block id c) Q s:=by
 intro g w a r hr hs;refine wpIn_block (dF (h g w a r hr hs) ?_)
 rintro e a' w' ⟨g',s',x,h1,h2,h3,h4⟩
 cases x with
 |normal=>obtain rfl:=h3;exact⟨g',s',.normal,h1,h2,rfl,h4⟩
 | exit i =>
  obtain rfl:=h3
  by_cases hi:i=id
  ·subst hi;simp only[InB,bI]at h4;simp only[Exit.inBlock,bI];exact⟨g',s',.normal,h1,h2,rfl,h4⟩
  ·simp only[InB,hi,bl]at h4;simp only[Exit.inBlock,hi,bl];exact⟨g',s',.exit i,h1,h2,rfl,h4⟩
 |ret=>obtain rfl:=h3;exact⟨g',s',.ret,h1,h2,rfl,h4⟩
 |panic d=>obtain⟨v,rfl,h5⟩:=h3;exact⟨g',s',.panic d,h1,h2,⟨v,rfl,h5⟩,h4⟩
theorem Sj{α:Type}{c:Code}(I:α->St)(μ:α->Nat)(x0:α)(h0:Wk P n s (I x0))
  (round:∀x,DWp P ro n c (lW (fun s'=> ∃x',μ x'<μ x/\Wk P n s' (I x')) Q) (I x)):DWp P ro n (.loop c) Q s:=by
 intro g w a r hr hs;obtain⟨g0,l0,ga⟩:=h0 g w a hs
 let J:Act->World->Nat->Prop:=fun a w m=> ∃x g',g.le g'/\lP P g' n (I x) a w/\μ x=m
 have least:∀(p:Nat->Prop),(∃m,p m)->∃m,p m /\ ∀k,p k->m<=k:=by
  intro p ⟨m,hm⟩
  induction m using Nat.strongRecOn with
  |_ m ih=>
   by_cases hk:∃k,k<m/\p k
   ·obtain⟨k,h1,h2⟩:=hk;exact ih k h1 h2
   ·exact⟨m,hm,fun k d8=>Nat.le_of_not_lt fun d7=>hk ⟨k,d7,d8⟩⟩
 let M:Act->World->Nat:=fun a w=>Classical.epsilon fun m=>J a w m /\ ∀k,J a w k->m<=k
 have hM:∀a w,(∃m,J a w m)->J a w (M a w) /\ ∀k,J a w k->M a w<=k:=fun a w h=>Classical.epsilon_spec (least _ h);refine wpIn_loop (fun a w=> ∃m,J a w m) M ⟨_,x0,g0,l0,ga,rfl⟩ ?_;intro a w hJ;obtain⟨⟨x,g',l,hs',hx⟩,_⟩:=hM a w hJ;refine dF (round x g' w a r (hr.mono l) hs') ?_
 rintro e a' w' ⟨g2,s',dx,h1,h2,h3,h4⟩
 cases dx with
 |normal=>
  obtain rfl:=h3;obtain⟨x',d7,hw⟩:=h4;obtain⟨g3,l3,f8⟩:=hw g2 w' a' h2;have fZ:J a' w' (μ x'):=⟨x',g3,l.trans (h1.trans l3),f8,rfl⟩;refine⟨⟨_,fZ⟩,Nat.lt_of_le_of_lt ((hM a' w' ⟨_,fZ⟩).2 _ fZ) ?_⟩;rw[<-hx];exact d7
 |exit i=>obtain rfl:=h3;exact⟨g2,s',.exit i,l.trans h1,h2,rfl,h4⟩
 |ret=>obtain rfl:=h3;exact⟨g2,s',.ret,l.trans h1,h2,rfl,h4⟩
 |panic d=>obtain⟨v,rfl,h5⟩:=h3;exact⟨g2,s',.panic d,l.trans h1,h2,⟨v,rfl,h5⟩,h4⟩
end
inductive DE where
 |ret (d:D)
 |panic (d:D)
def ERep(g:G):DE->Ending->Prop
 |.ret d,e=> ∃v,e=.returned v/\Rep g d v
 |.panic d,e=> ∃v,e=.panicked [{ v,recovered:=false }]/\Rep g d v
def QS(P:Program)(g:G)(R:DE->Sig->Prop)(e:Ending)(w:World):Prop:=
 ∃g' x U',g.le g'/\Sim P g' U' w/\ERep g' x e/\R x U'
def DCalls(P:Program)(f:Nat)(args:fQ)(V:Sig)(R:DE->Sig->Prop):Prop:=
 ∀g w vs,Sim P g V w->kI g args vs->CallsIn (FX P none) 0 P f vs.toArray w (QS P g R)
def DCalls.mono{P:Program}{f:Nat}{args:fQ}{V:Sig}{R R':DE->Sig->Prop}(h:DCalls P f args V R)(hr:∀x U',R x U'->R' x U'):DCalls P f args V R':=
 fun g w vs hs ha=>(h g w vs hs ha).mono fun _ _ ⟨g',x,U',h1,h2,h3,h4⟩=>⟨g',x,U',h1,h2,h3,hr _ _ h4⟩
def Dc:Nat->fQ->Fr
 |_,[]=>[]
 |i,d::ds=>(i,d)::Dc (i+1) ds
def kI.length{g:G}: ∀{ds:fQ}{vs:List Value},kI g ds vs->vs.length=ds.length
 |[],_,h=>by simp[kI]at h;simp[h]
 |d::ds,_,h=>by
  obtain⟨v,r,rfl,_,h2⟩:=h;simp[kI.length h2]
def OW(ds:fQ): ∀(i t:Nat),getD (Dc i ds) t=if i<=t then(ds[t-i]?).getD .any else .any:=by
 induction ds with
 |nil=>intro i t;simp[Dc,getD]
 | cons d ds ih =>
  intro i t
  by_cases h:t=i
  ·subst h;simp[Dc,getD,List.lookup]
  ·have hb:(t==i)=false:=by simpa using h
   have:=ih (i+1) t;simp only[getD,Dc,List.lookup,hb]at this⊢;rw[this]
   by_cases h1:i<=t
   ·have h2:i+1<=t:=by omega
    obtain⟨k,hk⟩:∃k,t-i=k+1:=⟨t-i-1,k0⟩;have d8:t-(i+1)=k:=by omega
    simp[h1,h2,hk,d8]
   ·have h2:¬i+1<=t:=by omega
    simp[h1,h2]
def kI.get{g:G}: ∀{ds:fQ}{vs:List Value},kI g ds vs->∀j:Nat,Rep g ((ds[j]?).getD .any) ((vs[j]?).getD undef)
 |[],_,h,j=>by simp[Rep]
 |d::ds,_,h,0=>by obtain⟨v,r,rfl,h1,_⟩:=h;simpa using h1
 |d::ds,_,h,j+1=>by obtain⟨v,r,rfl,_,h2⟩:=h;simpa using kI.get h2 j
def GI{g:G}{ds:fQ}{vs:List Value}{m:Nat}(h:kI g ds vs)(hm:ds.length<=m):
  lF g (Dc 0 ds) m (vs.toArray++Array.replicate (m-vs.toArray.size) undef):=by
 have hl:=kI.length h;refine⟨by simp;omega,fun t=>?_⟩;rw[OW];simp only[fi,bI,dQ]
 by_cases ht:t<vs.length
 ·have:=kI.get h t;simpa[Array.getElem?_append,ht] using this
 ·have:ds[t]? = none:=by simp;omega
  simp[this,Rep]
def resD(fn:Func)(γ:Fr):Option D:=
 match fn.results.toList with
 |[]=>some (.tup [])
 |[.tmp t]=>some (getD γ t)
 |[.tmp t,.tmp u]=>some (.tup [getD γ t,getD γ u])
 |[.tmp t,.tmp u,.tmp v]=>some (.tup [getD γ t,getD γ u,getD γ v])
 |_=>none
def UB{P:Program}{g:G}{fn:Func}{γ:Fr}{m:Nat}{tmps:Array Value}{d:D}(h:resD fn γ=some d)(ht:lF g γ m tmps)(w:World):
  ∃v,(results fn tmps).run P w=.ok v w/\Rep g d v:=by
 obtain⟨l,hl⟩:∃l,fn.results=Array.mk l:=⟨fn.results.toList,k7⟩;unfold resD at h;rw[hl]at h;simp only at h;unfold results;rw[hl];split at h
 ·cases h;exact⟨.tuple #[],k7,[],rfl,rfl⟩
 ·cases h;rename_i t;exact⟨tmps.getD t undef,k7,ht.2 t⟩
 ·cases h;rename_i t u;exact⟨.tuple #[tmps.getD t undef,tmps.getD u undef],k7,[_,_],rfl,_,_,rfl,ht.2 t,_,_,rfl,ht.2 u,rfl⟩
 ·cases h;rename_i t u v;exact⟨.tuple #[tmps.getD t undef,tmps.getD u undef,tmps.getD v undef],k7,[_,_,_],rfl,_,_,rfl,ht.2 t,_,_,rfl,ht.2 u,_,_,rfl,ht.2 v,rfl⟩
 ·cases h
def Q8(P:Program)(n:Nat)(fn:Func)(s:St)(d:D):Prop:= ∀g a w,lP P g n s a w->∃v,(results fn a.tmps).run P w=.ok v w/\Rep g d v
def EF{P:Program}{n:Nat}{fn:Func}{s:St}{d:D}(h:resD fn s.γ=some d):Q8 P n fn s d:=fun _ _ w hs=>UB h hs.tmps w
def BodyQ(P:Program)(n:Nat)(fn:Func)(R:DE->Sig->Prop):DX->St->Prop
 |.normal,s|.ret,s=>s.df=[] /\ ∃d,Q8 P n fn s d/\R (.ret d) s.V
 |.panic d,s=>s.df=[]/\R (.panic d) s.V
 |.exit _,_=>False
def Gh{g:G}{l:List Deferred}{df:List DDf}(h:RepDf g df l)(hd:df=[]):l=[]:=by subst hd;exact h
def NO{P:Program}{f:Nat}{fn:Func}{c:Code}{args:fQ}{V:Sig}{R:DE->Sig->Prop}(hf:P.funcs[f]? = some fn)(hb:fn.body=some c)
  (hn:args.length<=fn.ntmps) (h:DWp P none fn.ntmps c (BodyQ P fn.ntmps fn R) { γ:=Dc 0 args,V }):DCalls P f args V R:=by
 intro g w vs hs ha;refine callsIn_of_wp hf hb (by obtain⟨h1,_⟩:=aX.1 hf;exact h1) ?_ rfl;refine dF (h g w _ none rfl ⟨hs,GI ha hn,rfl⟩) ?_
 rintro e a w' ⟨g',s',x,h1,h2,h3,h4⟩
 cases x with
 |normal=>
  obtain rfl:=h3;obtain⟨hd,d,hr,hR⟩:=h4;obtain⟨v,hv,d6⟩:=hr _ _ _ h2;exact⟨Gh h2.df hd,v,hv,g',.ret d,s'.V,h1,h2.sim,⟨v,rfl,d6⟩,hR⟩
 |ret=>
  obtain rfl:=h3;obtain⟨hd,d,hr,hR⟩:=h4;obtain⟨v,hv,d6⟩:=hr _ _ _ h2;exact⟨Gh h2.df hd,v,hv,g',.ret d,s'.V,h1,h2.sim,⟨v,rfl,d6⟩,hR⟩
 |panic d=>
  obtain⟨v,rfl,d6⟩:=h3;obtain⟨hd,hR⟩:=h4;exact⟨Gh h2.df hd,g',.panic d,s'.V,h1,h2.sim,⟨v,rfl,d6⟩,hR⟩
 |exit i=>exact h4.elim
inductive TyK where
 |slice (e:Nat)
 |struct (fs:List (Nat×Nat))
 |array (len e:Nat)
 |map (k e:Nat)
 |int (k:IntKind)
 |str
 |bool
 |iface
 |ptr (e:Nat)
 |func
 |other
 deriving Inhabited
structure Ty where
 k:TyK
 agg:Bool
 size:Nat
 bytes:Nat
 zero:fQ
 deriving Inhabited
def KOK:TypeDesc->TyK->Prop
 |.slice e,.slice e'=>e=e'
 |.struct fs,.struct l=>fs.toList.map (fun f=>(f.offset,f.type))=l
 |.array n e,.array m e'=>n=m/\e=e'
 |.map k e,.map k' e'=>k=k'/\e=e'
 |.int k,.int k'=>k=k'
 |.string,.str=>True
 |.bool,.bool=>True
 |.interface _,.iface=>True
 |.pointer e,.ptr e'=>e=e'
 |.func _ _ _,.func=>True
 |_,_=>False
def aggV:Value->Bool
 |.agg _=>true
 |_=>false
def TyOK(P:Program)(t:Nat)(i:Ty):Prop:=
 match i.k with
 |.other=>True
 | k => ∃ inf desc z,P.info? t=some inf/\P.underlying t=some desc/\KOK desc k/\inf.size=i.size/\inf.bytes=i.bytes /\
   i.agg=(match desc with|.struct _|.array _ _=>true|_=>false)/\inf.zero=some z/\i.zero.length=i.size/\i.zero=z.cells.toList.map Cu/\i.agg=aggV z
def BC(P:Program)(tab:Nat->Ty):Prop:= ∀t,TyOK P t (tab t)
def Db{P:Program}{t:Nat}{i:Ty}(h:TyOK P t i)(hk:i.k≠.other):
  ∃inf desc z,P.info? t=some inf/\P.underlying t=some desc/\KOK desc i.k/\inf.size=i.size/\inf.bytes=i.bytes /\
   i.agg=(match desc with|.struct _|.array _ _=>true|_=>false)/\inf.zero=some z/\i.zero.length=i.size/\i.zero=z.cells.toList.map Cu/\i.agg=aggV z:=by
 unfold TyOK at h;split at h
 ·rename_i d8;exact absurd d8 hk
 ·exact h
section runs
variable {P:Program}{t:Nat}{i:Ty}(h:TyOK P t i)(hk:i.k≠.other)(w:World)
include h hk
theorem Bh:(sizeOf t).run P w=.ok i.size w:=by
 obtain⟨inf,desc,z,h1,h2,h3,h4,h5,h6,h7,h8⟩:=Db h hk;simp[sizeOf,typeInfo,program,h1,h4,Sem.run]
theorem K7:(isAgg t).run P w=.ok i.agg w:=by
 obtain⟨inf,desc,z,h1,h2,h3,h4,h5,h6,h7,h8⟩:=Db h hk;simp only[isAgg,underlying,program,bb,Sem.run,aU,h2];rw[h6];cases desc<;>simp[Sem.run]
theorem E8: ∃z,(zeroValue t).run P w=.ok z w/\i.zero=z.cells.toList.map Cu/\z.cells.size=i.size:=by
 obtain⟨inf,desc,z,h1,h2,h3,h4,h5,h6,h7,h8,h9,_⟩:=Db h hk;refine⟨z,by simp[zeroValue,typeInfo,program,h1,h7,Sem.run],h9,?_⟩;rw[<-h8,h9];simp
end runs
def A2{P:Program}{t:Nat}{d:TypeDesc}(h:P.underlying t=some d)(w:World):(underlying t).run P w=.ok d w:=by
 simp[underlying,program,h,Sem.run]
def PRun(P:Program)(g:G)(V:Sig)(d:D)(s:Sem Value)(w:World):Prop:=
 ∃g' w' v,s.run P w=.ok v w'/\g.le g'/\Sim P g' V w'/\Rep g' d v
def kx.get{g:G}{b:Nat}: ∀{ds:fQ}{o j:Nat}{d:D},kx g b o ds->ds[j]? = some d->∃v,g.imm b (o+j)=some v/\Rep g d v
 |[],_,_,_,_,h=>by simp at h
 |x::ds,o,0,d,h,e=>by simp at e;subst e;exact h.1
 |x::ds,o,j+1,d,h,e=>by
  have:=kx.get (j:=j) (o:=o+1) h.2 (by simpa using e)
  rwa [show o+1+j=o+(j+1) by omega]at this
def kx.drop{g:G}{b:Nat}: ∀{ds:fQ}{o:Nat} (k:Nat),kx g b o ds->kx g b (o+k) (ds.drop k)
 |[],_,k,_=>by simp[kx]
 |x::ds,o,0,h=>by simpa using h
 |x::ds,o,k+1,h=>by
  have:=kx.drop k h.2;simpa[show o+1+k=o+(k+1) by omega] using this
def kx.take{g:G}{b:Nat}: ∀{ds:fQ}{o:Nat} (k:Nat),kx g b o ds->kx g b o (ds.take k)
 |[],_,k,_=>by simp[kx]
 |x::ds,o,0,h=>by simp[kx]
 |x::ds,o,k+1,h=>by
  have:=kx.take k h.2;simpa[kx] using⟨h.1,this⟩
def Cm(b o n:Nat):(⟨b,o,none⟩:Addr).add n=⟨b,o+n,none⟩:=by
 unfold Addr.add
 by_cases h:n=0<;>simp[h]
def R6{P:Program}{w:World}{a:Addr}{v:Value}(h:w.cell? a=some v):(load a).run P w=.ok v w:=by
 simp[load,Sem.run,h]
def HU{P:Program}{w:World}{b o:Nat}: ∀(n i:Nat) (acc:Array Value) (vs:List Value),vs.length=n->
  (∀j v,vs[j]? = some v->w.cell? ⟨b,o+(i+j),none⟩=some v)->(loadCellsFrom ⟨b,o,none⟩ i n acc).run P w=.ok (acc++vs.toArray) w
 |0,i,acc,vs,hl,_=>by
  have:vs=[]:=by simpa using hl
  subst this;simp[loadCellsFrom,Sem.run]
 | n+1,i,acc,vs,hl,h=>by
  cases vs with
  |nil=>simp at hl
  | cons v vs =>
   have h0:=h 0 v rfl
   have ih:=HU (P:=P) (w:=w) (b:=b) (o:=o) n (i+1) (acc.push v) vs (by simpa using hl) (fun j x hx=>by
    have:=h (j+1) x (by simpa using hx)
    rwa [show i+(j+1)=i+1+j by omega]at this)
   simp only[loadCellsFrom,bb,Cm];rw[R6 (by simpa using h0)];simp only[aU,ih];simp
def Bs{g:G}: ∀{ds:fQ}{vs:List Value},vs.length=ds.length->(∀(j:Nat) d v,ds[j]? = some d->vs[j]? = some v->Rep g d v)->kI g ds vs
 |[],vs,h,_=>by simpa[kI] using h
 |d::ds,[],h,_=>by simp at h
 |d::ds,v::vs,h,hh=>⟨v,vs,rfl,hh 0 d v rfl rfl,Bs (by simpa using h) fun j x y hx hy=>hh (j+1) x y (by simpa using hx) (by simpa using hy)⟩
def kx.values{g:G}{b:Nat}: ∀{ds:fQ}{o:Nat},kx g b o ds->∃vs,kI g ds vs /\ ∀j v,vs[j]? = some v->g.imm b (o+j)=some v
 |[],_,_=>⟨[],rfl,fun j v h=>by simp at h⟩
 |d::ds,o,⟨⟨v,h1,h2⟩,h3⟩=>by
  obtain⟨vs,r,hr⟩:=kx.values h3;refine⟨v::vs,⟨v,vs,rfl,h2,r⟩,fun j x hx=>?_⟩;cases j with
  |zero=>simp at hx;subst hx;simpa using h1
  |succ j=>have:=hr j x (by simpa using hx);rwa [show o+1+j=o+(j+1) by omega]at this
def Em:Option kM->Option fQ
 |some (.cells ds)=>some ds
 |_=>none
def Ln(ty:Ty)(V:Sig):D->Option D
 |.aw cs off=>
  if ty.agg then(if off+ty.size<=cs.length then some (.agg ((cs.drop off).take ty.size)) else none) else cs[off]?
 |.ptr id off=>
  match Em (V id)with
  |some cs=>if ty.agg then(if off+ty.size<=cs.length then some (.agg ((cs.drop off).take ty.size)) else none) else cs[off]?
  |none=>none
 |_=>none
def OE{P:Program}{g:G}{V:Sig}{w:World}{t:Nat}{ty:Ty}(ht:TyOK P t ty)(hk:ty.k≠.other)(hs:Sim P g V w){x d:D}{v:Value}
  (hx:Rep g x v) (h:Ln ty V x=some d):∃v',(Instr.loadAt t v).run P w=.ok v' w/\Rep g d v':=by
 have key : ∀ (b o:Nat) (cs:fQ) (vs:List Value),kI g cs vs->(∀ j v,vs[j]? = some v->w.cell? ⟨b,o+j,none⟩=some v) -> ∀ off,
   (if ty.agg then(if off+ty.size<=cs.length then some (D.agg ((cs.drop off).take ty.size)) else none) else cs[off]?)=some d->
   ∃v',(Instr.loadAt t (.pointer (some ⟨b,o+off,none⟩))).run P w=.ok v' w/\Rep g d v':=by
  intro b o cs vs hr hc off h;have hlen:=kI.length hr;unfold Instr.loadAt Instr.sureAddr loadVar;simp only[bb,bp,aU,K7 ht hk]
  by_cases ha:ty.agg=true
  ·rw [aS ha] at h;rw[aS ha]
   by_cases e7:off+ty.size<=cs.length
   ·rw[aS e7]at h;cases h;have hl:((vs.drop off).take ty.size).length=ty.size:=by simp;omega
    have e8:=HU (P:=P) (w:=w) (b:=b) (o:=o+off) ty.size 0 #[] ((vs.drop off).take ty.size) hl (fun j x hx=>by
     have:vs[off+j]? = some x:=by
      rw[dT]at hx
      split at hx
      ·simpa using hx
      ·cases hx
     have:=hc _ _ this
     rwa [show o+(off+j)=o+off+(0+j) by omega]at this)
    refine⟨.agg ((vs.drop off).take ty.size).toArray,?_,_,rfl,?_⟩
    ·simp only[bb,Bh ht hk,aU,loadCells,e8,bp];simp
    ·refine Bs (by simp;omega) fun j x y hx hy=>?_
     rw[dT]at hx hy;split at hx
     ·rename_i hj;simp only[hj,bI,dc]at hx hy;have:=kI.get hr (off+j);rw[hx,hy]at this;exact this
     ·cases hx
   ·rw[aQ e7]at h;cases h
  ·simp only[cy]at ha;simp only[ha,bz,bl]at h⊢
   have hj:off<vs.length:=by
    have:=(bC.1 h).1;omega
   have hv:vs[off]? = some vs[off]:=aT hj;refine⟨vs[off],by rw[R6 (hc _ _ hv)],?_⟩;have:=kI.get hr off;rw[h,hv]at this;exact this
 cases x<;>simp only[Ln]at h<;>try cases h
 case aw cs off=>
  obtain⟨b,o,rfl,hr⟩:=hx;obtain⟨vs,hl,hv⟩:=hr.values;exact key b o cs vs hl (fun j v hj=>hs.imm _ _ _ (hv j v hj)) off h
 case ptr id off=>
  obtain⟨b,hb,rfl⟩:=hx;cases ho:Em (V id)with
  |none=>rw[ho]at h;cases h
  | some cs =>
   rw[ho]at h
   have fX:V id=some (.cells cs):=by
    unfold Em at ho;split at ho
    ·rename_i e;cases ho;exact e
    ·cases ho
   obtain⟨b',vs,ty',f0,d9,hr⟩:=hs.obj _ _ fX;have:b'=b:=by rw[hb]at f0;cases f0;rfl
   subst this
   have:=key b' 0 cs vs.toList hr (fun j v hj=>by
    simp only[World.cell?, d9,bZ]
    simpa using hj) off h
   simpa using this
def T6{P:Program}{g:G}{V:Sig}{w:World}{t:Nat}{ty:Ty}(ht:TyOK P t ty)(hk:ty.k≠.other)(hs:Sim P g V w){x d:D}{v:Value}
  (hx:Rep g x v) (h:Ln ty V x=some d):PRun P g V d (Instr.loadAt t v) w:=
 let ⟨v',h1,h2⟩:=OE ht hk hs hx h
 ⟨g,w,v',h1,.refl g,hs,h2⟩
def NR{w:World}{b o:Nat}{v:Value}(h:w.cell? ⟨b,o,none⟩=some v):b<w.heap.size:=by
 unfold World.cell? at h;simp only at h;rcases cF b w.heap.size with hb|hb
 ·exact hb
 ·simp[cu hb]at h
def lE{w:World}{o:Obj}{k:Nat}{x:Obj}(h:w.heap[k]? = some x):(w.heap.push o)[k]? = some x:=by
 have hk:=(aX.1 h).1;rw[Array.getElem?_push_lt hk];exact(bO hk).symm.trans h
def PN{w:World}{o:Obj}{b off:Nat}{v:Value}(h:w.cell? ⟨b,off,none⟩=some v):({ w with heap:=w.heap.push o }:World).cell? ⟨b,off,none⟩=some v:=by
 have hb:=NR h;unfold World.cell? at h⊢;simp only at h⊢;rw[Array.getElem?_push_lt hb]
 rwa [bO hb]at h
def lM.push{P:Program}{g:G}{w:World}{i:Nat}{d:kM}(o:Obj)(h:lM P g w i d):lM P g { w with heap:=w.heap.push o } i d:=by
 cases d with
 |cells ds=>obtain⟨b,vs,ty,h1,h2,h3⟩:=h;exact⟨b,vs,ty,h1,lE h2,h3⟩
 |map l=>obtain⟨b,vs,ty,h1,h2,h3⟩:=h;exact⟨b,vs,ty,h1,lE h2,h3⟩
 |tail sz n=>
  rcases h with h|⟨b,o',cap,vs,ty,h1,h2,h3,h4,h5⟩
  ·exact .inl h
  ·exact .inr ⟨b,o',cap,vs,ty,h1,h2,lE h3,h4,h5⟩
 |loop st pe ps az bo n γ did=>obtain⟨b,db,fn,tmps,h1,h2,h3,h4,h5⟩:=h;exact⟨b,db,fn,tmps,h1,h2,h3,h4,lE h5⟩
 |defs=>obtain⟨b,h1,h2⟩:=h;exact⟨b,h1,lE h2⟩
 |iter l la=>obtain⟨b,h1,h2⟩:=h;exact⟨b,h1,h2.imp (fun ⟨a,c,d⟩=>⟨a,c,lE d⟩) (fun ⟨mb,es,c,seen,e1,r⟩=>⟨mb,es,c,seen,lE e1,r⟩)⟩
def lM.mono{P:Program}{g g':G}{w:World}{i:Nat}{d:kM}(hg:g.le g')(fY:∀sz n b o cap,d=.tail sz n->g.hist i n=some (.slice (some ⟨b,o,none⟩) n cap)->b<w.heap.size->∀j,o+n*sz<=j->g.imm b j=none->g'.imm b j=none)
  (h:lM P g w i d):lM P g' w i d:=by
 cases d with
 |cells ds=>obtain⟨b,vs,ty,h1,h2,h3⟩:=h;exact⟨b,vs,ty,hg.rho _ _ h1,h2,kI.mono hg _ h3⟩
 |map l=>obtain⟨b,vs,ty,h1,h2,h3⟩:=h;exact⟨b,vs,ty,hg.rho _ _ h1,h2,lL.mono hg _ h3.1,h3.2⟩
 |tail sz n=>
  rcases h with h|⟨b,o',cap,vs,ty,h1,h2,h3,h4,h5⟩
  ·exact .inl ⟨hg.hist _ _ _ h.1,h.2⟩
  ·exact .inr ⟨b,o',cap,vs,ty,hg.hist _ _ _ h1,h2,h3,h4,fun j hj=>fY sz n b o' cap rfl h1 (aX.1 h3).1 j hj (h5 j hj)⟩
 |loop st pe ps az bo n γ did=>obtain⟨b,db,fn,tmps,h1,h2,h3,h4,h5⟩:=h;exact⟨b,db,fn,tmps,hg.rho _ _ h1,hg.rho _ _ h2,h3,h4.mono hg,h5⟩
 |defs=>obtain⟨b,h1,h2⟩:=h;exact⟨b,hg.rho _ _ h1,h2⟩
 |iter l la=>obtain⟨b,h1,h2⟩:=h;exact⟨b,hg.rho _ _ h1,h2.imp id (fun ⟨mb,es,c,seen,e1,e2,e3,e4,e5⟩=>⟨mb,es,c,seen,e1,hg.keep _ _ e2,e3,lL.mono hg _ e4,fun k v gb=>let ⟨e,st,f1,f2,f3,f4⟩:=e5 k v gb;⟨e,st,f1,f2,Rep.mono hg _ f3,Rep.mono hg _ f4⟩⟩)⟩
def Sim.blk_lt{P:Program}{g:G}{V:Sig}{w:World}(hs:Sim P g V w){i b:Nat}(h:blk g V i=some b):b<w.heap.size:=by
 unfold blk at h;split at h
 ·cases h
 ·rename_i sz n hi;rcases hs.obj _ _ hi with⟨h1,_⟩|⟨b',o',cap,vs,ty,h1,h2,h3,_⟩
  ·rw[h1]at h;cases h
  ·rw[h1]at h;cases h;exact(aX.1 h3).1
 ·rename_i o hn hi;have ho:=hs.obj _ _ hi;cases o with
  |tail sz n=>exact(hn sz n rfl).elim
  |cells ds=>obtain⟨b',vs,ty,h1,h2,_⟩:=ho;rw[h]at h1;cases h1;exact(aX.1 h2).1
  |map ds=>obtain⟨b',vs,ty,h1,h2,_⟩:=ho;rw[h]at h1;cases h1;exact(aX.1 h2).1
  |loop st pe ps az bo n γ did=>obtain⟨b',_,_,_,h1,_,_,_,h2⟩:=ho;rw[h]at h1;cases h1;exact(aX.1 h2).1
  |defs=>obtain⟨b',h1,h2⟩:=ho;rw[h]at h1;cases h1;exact(aX.1 h2).1
  |iter l la=>
   obtain⟨b',h1,h2⟩:=ho;rw[h]at h1;cases h1;rcases h2 with⟨_,_,h2⟩|⟨_,_,_,_,h2,_⟩<;>exact(aX.1 h2).1
def G.addImm(g:G)(b:Nat)(vs:List Value):G:={ g with imm:=fun b' o=>if b'=b then vs[o]? else g.imm b' o }
def G.addImm_le{P:Program}{g:G}{V:Sig}{w:World}(hs:Sim P g V w)(vs:List Value):g.le (g.addImm w.heap.size vs):=
 {imm:=fun b o v h=>by
   have:=NR (hs.imm _ _ _ h)
   simp only[G.addImm]
   rw[aQ k0];exact h
  rho:=fun _ _ h=>h,hist:=fun _ _ _ h=>h,keep:=fun _ _ h=>h,io:=rfl }
def Sim.addImm{P:Program}{g:G}{V:Sig}{w:World}(hs:Sim P g V w)(vs:List Value)(ty:TypeId)(fz:Nat×Nat):
  Sim P (g.addImm w.heap.size vs) V { w with heap:=w.heap.push (.cells vs.toArray ty fz) } where
 imm:=fun b o v h=>by
  simp only[G.addImm]at h
  by_cases hb:b=w.heap.size
  ·rw[aS hb]at h;subst hb;simp only[World.cell?, dL];simpa using h
  ·rw[aQ hb]at h;exact PN (hs.imm _ _ _ h)
 keep:=fun k o h=>lE (hs.keep k o h)
 obj:=fun i o h=>((hs.obj i o h).mono (G.addImm_le hs vs) (by
  intro sz n b o cap _ _ d7 j _ hj
  simp only[G.addImm];rw[aQ k0];exact hj)).push _
 inj:=fun i j b h k=>hs.inj i j b h k
 free:=fun i b h=>by
  have d7:=hs.blk_lt h;obtain⟨h1,h2⟩:=hs.free i b h;exact⟨h1,fun ht o=>by simp only[G.addImm];rw[aQ k0];exact h2 ht o⟩
 htop:=hs.htop
 hdom:=hs.hdom
 io:=hs.io
 fin:=hs.fin
def Hm{g:G}{b:Nat}{vs:List Value}{ds:fQ}(h:kI g ds vs)(e7:g.le (g.addImm b vs)):kx (g.addImm b vs) b 0 ds:=by
 have key:∀(ds:fQ) (ws:List Value) (k:Nat),kI g ds ws->(∀j x,ws[j]? = some x->vs[k+j]? = some x)->kx (g.addImm b vs) b k ds:=by
  intro ds
  induction ds with
  |nil=>intro ws k _ _;simp[kx]
  | cons d ds ih =>
   intro ws k hr hw;obtain⟨v,r,rfl,h1,h2⟩:=hr;refine⟨⟨v,?_,Rep.mono e7 _ h1⟩,ih r (k+1) h2 fun j x hx=>?_⟩
   ·have:=hw 0 v rfl;simpa[G.addImm] using this
   ·have:=hw (j+1) x (by simpa using hx)
    rwa [show k+(j+1)=k+1+j by omega]at this
 exact key ds vs 0 h fun j x hx=>by simpa using hx
def D.told:D->Bool
 |.any=>false
 |_=>true
def Gg{g:G}{d:D}{v:Value}(h:Rep g d v)(ht:d.told=true):kI g d.cells v.cells.toList:=by
 cases d<;>simp only[D.told]at ht<;>try cases ht
 case agg cs=>obtain⟨vs,rfl,hr⟩:=h;simpa[D.cells,Value.cells] using hr
 case bool=>cases h;exact⟨_,_,rfl,rfl,rfl⟩
 case int=>cases h;exact⟨_,_,rfl,rfl,rfl⟩
 case str=>cases h;exact⟨_,_,rfl,rfl,rfl⟩
 case tup cs=>obtain⟨vs,rfl,hr⟩:=h;exact⟨_,_,rfl,⟨vs,rfl,hr⟩,rfl⟩
 case aA=>cases h;exact⟨_,_,rfl,rfl,rfl⟩
 case aw=>obtain⟨b,o,rfl,hr⟩:=h;exact⟨_,_,rfl,⟨b,o,rfl,hr⟩,rfl⟩
 case ptr=>obtain⟨b,hb,rfl⟩:=h;exact⟨_,_,rfl,⟨b,hb,rfl⟩,rfl⟩
 case av=>cases h;exact⟨_,_,rfl,rfl,rfl⟩
 case slice=>obtain⟨a,cap,rfl,hr⟩:=h;exact⟨_,_,rfl,⟨a,cap,rfl,hr⟩,rfl⟩
 case ax=>obtain⟨b,hb,rfl⟩:=h;exact⟨_,_,rfl,⟨b,hb,rfl⟩,rfl⟩
 case map=>obtain⟨b,hb,rfl⟩:=h;exact⟨_,_,rfl,⟨b,hb,rfl⟩,rfl⟩
 case ay=>cases h;exact⟨_,_,rfl,rfl,rfl⟩
 case cmap=>obtain⟨b,es,c,rfl,hr⟩:=h;exact⟨_,_,rfl,⟨b,es,c,rfl,hr⟩,rfl⟩
 case func=>obtain⟨fs,cs,rfl,hr⟩:=h;exact⟨_,_,rfl,⟨fs,cs,rfl,hr⟩,rfl⟩
 case yld=>obtain⟨b,hb,rfl⟩:=h;exact⟨_,_,rfl,⟨b,hb,rfl⟩,rfl⟩
 case nilf=>cases h;exact⟨_,_,rfl,rfl,rfl⟩
 case iface=>obtain⟨x,rfl,hr⟩:=h;exact⟨_,_,rfl,⟨x,rfl,hr⟩,rfl⟩
 case niliface=>cases h;exact⟨_,_,rfl,rfl,rfl⟩
 case obj=>obtain⟨b,hb,rfl⟩:=h;exact⟨_,_,rfl,⟨b,hb,rfl⟩,rfl⟩
def DF{P:Program}(ty:TypeId)(cells:Array Value)(w:World):
  (newRow ty cells).run P w=.ok ⟨w.heap.size,0,none⟩ { w with heap:=w.heap.push (.cells cells ty) }:=by
 simp[newRow,newObj,Sem.run]
def Zx{P:Program}{g:G}{V:Sig}{w:World}(hs:Sim P g V w){d:D}{v:Value}(h:Rep g d v)(ht:d.told=true)(ty:TypeId):
  PRun P g V (.aw d.cells 0) (Instr.box ty v) w:=by
 have hr:=Gg h ht;refine⟨g.addImm w.heap.size v.cells.toList,_,.pointer (some ⟨w.heap.size,0,none⟩),?_,G.addImm_le hs _,hs.addImm v.cells.toList ty (0,0),w.heap.size,0,rfl,Hm hr (G.addImm_le hs _)⟩;simp[Instr.box,newVar,DF,bb]
def binD:BinOp->D->D->Option D
 |.add,.int k a,.int k' b=>if k=k' then some (.int k (k.wrap (a+b))) else none
 |.sub,.int k a,.int k' b=>if k=k' then some (.int k (k.wrap (a-b))) else none
 |.mul,.int k a,.int k' b=>if k=k' then some (.int k (k.wrap (a*b))) else none
 |.quo,.int k a,.int k' b=>if k=k'/\b≠0 then some (.int k (k.wrap (a.tdiv b))) else none
 |.rem,.int k a,.int k' b=>if k=k'/\b≠0 then some (.int k (a.tmod b)) else none
 |.and,.int k a,.int k' b=>if k=k' then some (.int k (k.wrap ((BitVec.ofInt k.bits a &&& BitVec.ofInt k.bits b).toNat))) else none
 |.or,.int k a,.int k' b=>if k=k' then some (.int k (k.wrap ((BitVec.ofInt k.bits a ||| BitVec.ofInt k.bits b).toNat))) else none
 |.xor,.int k a,.int k' b=>if k=k' then some (.int k (k.wrap ((BitVec.ofInt k.bits a ^^^ BitVec.ofInt k.bits b).toNat))) else none
 |.andNot,.int k a,.int k' b=>if k=k' then some (.int k (k.wrap ((BitVec.ofInt k.bits a &&& ~~~ BitVec.ofInt k.bits b).toNat))) else none
 |.shl,.int k a,.int _ b=>if 0<=b then some (.int k (k.wrap (a*2 ^ (min b.toNat k.bits)))) else none
 |.shr,.int k a,.int _ b=>if 0<=b then some (.int k (a.fdiv (2 ^ (min b.toNat k.bits)))) else none
 |.eql,.int k a,.int k' b=>if k=k' then some (.bool (a==b)) else none
 |.neq,.int k a,.int k' b=>if k=k' then some (.bool (a != b)) else none
 |.lss,.int k a,.int k' b=>if k=k' then some (.bool (decide (a<b))) else none
 |.leq,.int k a,.int k' b=>if k=k' then some (.bool (decide (a<=b))) else none
 |.gtr,.int k a,.int k' b=>if k=k' then some (.bool (decide (a>b))) else none
 |.geq,.int k a,.int k' b=>if k=k' then some (.bool (decide (a>=b))) else none
 |.eql,.str a,.str b=>some (.bool (a==b))
 |.neq,.str a,.str b=>some (.bool (a != b))
 |.add,.str a,.str b=>if a.length+b.length<=9223372036854775807 then some (.str (a++b)) else none
 |.lss,.str a,.str b=>some (.bool (Op.bytesLess a b))
 |_,_,_=>none
def SX{P:Program}{a b:List UInt8}(h:a.length+b.length<=9223372036854775807)(w:World):
  (Op.stringOp .add ⟨a.toArray⟩ ⟨b.toArray⟩).run P w=.ok (.string ⟨(a++b).toArray⟩) w:=by
 have hm:IntKind.max .i64=9223372036854775807:=by decide
 have e1:(ByteArray.mk a.toArray).size=a.length:=by simp[ByteArray.size]
 have e2:(ByteArray.mk b.toArray).size=b.length:=by simp[ByteArray.size]
 have hn:¬(((ByteArray.mk a.toArray).size+(ByteArray.mk b.toArray).size:Nat):Int)>IntKind.max .i64:=by rw[hm,e1,e2];omega
 simp only[Op.stringOp,hn,bl]
 have:(ByteArray.mk a.toArray)++(ByteArray.mk b.toArray)=ByteArray.mk (a++b).toArray:=by
  rw[ByteArray.ext_iff];simp
 rw[this];rfl
def XK{P:Program}{op:BinOp}{t:TypeId}{x y d:D}{g:G}{v u:Value}(h:binD op x y=some d)(hx:Rep g x v)(hy:Rep g y u)(o1 o2:Operand)(w:World):
  ∃r,(do eqGuard op t o1 o2 v u;binOp op t v u:Sem Value).run P w=.ok r w/\Rep g d r:=by
 unfold binD at h;split at h<;>(try split at h)<;>(try (cases h;done))<;>cases h<;>cases hx<;>cases hy
 all_goals refine⟨_,?_,rfl⟩
 all_goals first
  |(rename_i hk;subst hk;simp[eqGuard,binOp,Op.intArith,Op.intBits,Op.intCmp,Sem.run];done)
  |(rename_i hk;obtain⟨hk,hb⟩:=hk;subst hk;simp[eqGuard,binOp,Op.intDiv,hb,Sem.run];done)
  |(rename_i hb;simp[eqGuard,binOp,Op.shift,Int.not_lt.2 hb,Sem.run];done)
  |(rename_i hb;simp only[eqGuard,binOp,bb];exact SX hb w)
  |(simp[eqGuard,binOp,Op.stringOp,Sem.run,ByteArray.toList_mk];done)
  |(simp[eqGuard,binOp,Op.stringOp,Sem.run,ByteArray.toList_mk,bne];done)
def Ht:TyK->Bool
 |.iface=>true
 |_=>false
def A5:TyK->Bool
 |.other=>true
 |_=>false
def Aj{i:Ty}(h:A5 i.k=false):i.k≠.other:=by
 intro e;rw[e]at h;cases h
def Nd(ty:Ty)(cs:fQ)(off:Nat):Option D:=
 if ty.agg then(if off+ty.size<=cs.length then some (.agg ((cs.drop off).take ty.size)) else none) else cs[off]?
def lu:D->Nat->Option D
 |.aw cs o,n=>some (.aw cs (o+n))
 |.ptr i o,n=>some (.ptr i (o+n))
 |_,_=>none
def Ql:D->D->D->Option D
 |.bool t,x,y=>some (if t then x else y)
 |_,_,_=>none
def nilD:D->Option D
 |.aw cs o=>some (.aw cs o)
 |.ptr i o=>some (.ptr i o)
 |.func (.func f) a b=>some (.func (.func f) a b)
 |.iface t d=>some (.iface t d)
 |_=>none
def unD:UnOp->D->Option D
 |.not,.bool b=>some (.bool (!b))
 |.neg,.int k n=>some (.int k (k.wrap (0-n)))
 |_,_=>none
def Xw:Bool->TyK->D->Option D
 |false,.int k,.int _ n=>some (.int k (k.wrap n))
 |_,_,_=>none
def Ei(tab:Nat->Ty)(f:Nat)(x:D):TyK->Option D
 |.struct fs=>match fs[f]? with
  |some (off,ft)=>if A5 (tab ft).k||(tab ft).size==0 then none else lu x off
  |none=>none
 |_=>none
def Vv(tab:Nat->Ty)(f:Nat):TyK->D->Option D
 |.struct fs,.agg cs=>match fs[f]? with
  |some (off,ft)=>if A5 (tab ft).k then none else Nd (tab ft) cs off
  |none=>none
 |_,_=>none
def Dh(tab:Nat->Ty):TyK->D->D->Option D
 | .slice e, .slice es _, .int _ n =>
  if A5 (tab e).k then none else
  if 0<=n then match es[n.toNat]? with
   |some c=>if c.length=(tab e).size then some (.aw c 0) else none
   |none=>none
  else none
 |.slice e,.ax id off len _,.int _ n=>
  if A5 (tab e).k then none else if 0<=n/\n.toNat<len then some (.ptr id (off+n.toNat*(tab e).size)) else none
 |.array len e,x,.int _ n=>
  if A5 (tab e).k then none else if 0<=n/\n.toNat<len then lu x (n.toNat*(tab e).size) else none
 |_,_,_=>none
def OQ:TyK->D->D->Option D
 |.str,.str s,.int _ n=>if 0<=n then(s[n.toNat]?).map fun b=>.int .u8 b.toNat else none
 |_,_,_=>none
def Ii(i:Nat):D->Option D
 |.tup ds=>ds[i]?
 |_=>none
def IZ(tab:Nat->Ty)(γ:Fr)(len:Nat)(parts:List (Nat×Operand)):TyK->Option D
 | .slice e =>
  if A5 (tab e).k then none else
  if parts.map (·.1)==List.range len&&len*(tab e).size<=16777216&&parts.all (fun p=>(ev γ p.2).told&&(ev γ p.2).cells.length==(tab e).size) then
   some (.slice (parts.map fun p=>(ev γ p.2).cells) .clip) else none
 |_=>none
def lenD:TyK->D->Option D
 |.slice _,.slice es _=>some (.int .i64 es.length)
 |.slice _,.av=>some (.int .i64 0)
 |.slice _,.ax _ _ len _=>some (.int .i64 len)
 |.str,.str s=>some (.int .i64 s.length)
 |_,_=>none
def lenC(tab:Nat->Ty)(γ:Fr):List TypeId->List Operand->Option D
 |[t],[x]=>lenD (tab t).k (ev γ x)
 |_,_=>none
def boxD(d:D):Option D:=if d.told then some (.aw d.cells 0) else none
def V3(ty:Ty)(t:TypeId)(d:D):Option D:=if A5 ty.k||Ht ty.k then none else some (.iface t d)
def Lm(ty:Ty)(V:Sig)(d:D):Option D:=if A5 ty.k then none else Ln ty V d
def dop(tab:Nat->Ty)(γ:Fr)(V:Sig):Op->Option D
 |.move x|.assign x=>some (ev γ x)
 |.pick c a b=>Ql (ev γ c) (ev γ a) (ev γ b)
 |.box _ v=>boxD (ev γ v)
 |.load t a=>Lm (tab t) V (ev γ a)
 |.nilCheck x=>nilD (ev γ x)
 |.binOp op _ x y _=>binD op (ev γ x) (ev γ y)
 |.unOp op _ x=>unD op (ev γ x)
 |.convert s t x=>Xw (A5 (tab s).k) (tab t).k (ev γ x)
 |.makeInterface t x=>V3 (tab t) t (ev γ x)
 |.makeFunc fn first cap=>some (.func fn (first.toList.map (ev γ)) (cap.toList.map (ev γ)))
 |.fieldAddr s x f=>Ei tab f (ev γ x) (tab s).k
 |.field s x f=>Vv tab f (tab s).k (ev γ x)
 |.indexAddr t x i=>Dh tab (tab t).k (ev γ x) (ev γ i)
 |.index t x i=>OQ (tab t).k (ev γ x) (ev γ i)
 |.extract x i=>Ii i (ev γ x)
 |.buildSlice t len parts=>IZ tab γ len parts.toList (tab t).k
 |.call { callee:=.builtin .len,args,argTypes }=>lenC tab γ argTypes.toList args.toList
 |_=>none
section ops
variable {P:Program}{tab:Nat->Ty}(ht:BC P tab)
include ht
theorem FV{t:Nat}{k:TyK}(h:(tab t).k=k)(hk:k≠.other): ∃desc,P.underlying t=some desc/\KOK desc k:=by
 obtain⟨inf,desc,z,h1,h2,h3,_⟩:=Db (ht t) (by rw[h];exact hk);exact⟨desc,h2,h ▸ h3⟩
theorem Bm{t e:Nat}(h:(tab t).k=.slice e):P.underlying t=some (.slice e):=by
 obtain⟨desc,h1,h2⟩:=FV ht h k7;cases desc<;>simp[KOK]at h2;subst h2;exact h1
theorem JY{t n e:Nat}(h:(tab t).k=.array n e):P.underlying t=some (.array n e):=by
 obtain⟨desc,h1,h2⟩:=FV ht h k7;cases desc<;>simp[KOK]at h2;obtain⟨rfl,rfl⟩:=h2;exact h1
theorem MX{t:Nat}{k:IntKind}(h:(tab t).k=.int k):P.underlying t=some (.int k):=by
 obtain⟨desc,h1,h2⟩:=FV ht h k7;cases desc<;>simp[KOK]at h2;subst h2;exact h1
theorem JX{t:Nat}(h:(tab t).k=.str):P.underlying t=some .string:=by
 obtain⟨desc,h1,h2⟩:=FV ht h k7;cases desc<;>simp[KOK]at h2;exact h1
theorem Hi{t k e:Nat}(h:(tab t).k=.map k e):P.underlying t=some (.map k e):=by
 obtain⟨desc,h1,h2⟩:=FV ht h k7;cases desc<;>simp[KOK]at h2;obtain⟨rfl,rfl⟩:=h2;exact h1
theorem Iy{t:Nat}{fs:List (Nat×Nat)}(h:(tab t).k=.struct fs): ∃l,P.underlying t=some (.struct l)/\l.toList.map (fun f=>(f.offset,f.type))=fs:=by
 obtain⟨desc,h1,h2⟩:=FV ht h k7;cases desc<;>simp[KOK]at h2;exact⟨_,h1,by simpa using h2⟩
theorem Hb{f:Field}{b o:Nat}(h1:A5 (tab f.type).k=false)(h2:(tab f.type).size≠0)(w:World):
  (fieldPlace ⟨b,o,none⟩ f).run P w=.ok ⟨b,o+f.offset,none⟩ w:=by
 simp only[fieldPlace,bb,Bh (ht _) (Aj h1),aU,h2,bl,bp,Cm]
theorem kl.get{g:G}{b sz:Nat}: ∀{es:fV}{o j:Nat}{c:fQ},kl g b sz o es->es[j]? = some c->c.length=sz/\kx g b (o+j*sz) c
 |[],_,_,_,_,h=>by simp at h
 |x::es,o,0,c,h,e=>by simp at e;subst e;simpa using h.1
 |x::es,o,j+1,c,h,e=>by
  have:=kl.get (o:=o+sz) h.2 (by simpa using e)
  rwa [show o+sz+j*sz=o+(j+1)*sz by rw[cK];omega]at this
end ops
end Go.DL
