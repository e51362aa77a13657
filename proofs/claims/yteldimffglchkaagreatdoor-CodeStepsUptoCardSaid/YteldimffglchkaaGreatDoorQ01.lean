/- A part of the proof. -/
import Derived.CallsIn
import Derived.Laws.Sem
import GoSem.Claims
import Derived.TacticsIn
import Derived.Laws.Strings
set_option linter.all false
def aC:=@List.length_append
def aD:=@List.getElem?_eq_getElem
def aE:=@if_neg
def aF:=@Bool.and_eq_true
def aG:=@if_pos
def aH:=@decide_eq_true_eq
def aI:=@Array.getElem?_eq_some_iff
def aJ:=@Go.Result.andThen_ok
def aK:=@List.getElem_mem
def aN:=@List.length_map
def aO:=@List.append_assoc
def aP:=@Go.Sem.run_bind
def aQ:=@List.getD_eq_getElem?_getD
def aR:=@Bool.eq_iff_iff
def aS:=@List.length_cons
def aT:=@List.length_singleton
def aU:=@List.take_succ_eq_append_getElem
def aV:=@List.getElem?_eq_some_iff
def aW:=@List.all_eq_true
def aX:=@List.getElem?_eq_none
def aY:=@List.mem_cons
def aZ:=@List.mem_map
def ba:=@Option.getD_some
def bc:=@if_false
def bd:=@List.map_cons
def be:=@decide_eq_true
def bf:=@List.length_eq_zero_iff
def bh:=@decide_eq_false_iff_not
def bi:=@Go.Sem.run_pure
def bj:=@List.getElem?_append_left
def bk:=@decide_eq_false
def bl:=@List.append_nil
def bm:=@Bool.false_eq_true
def bn:=@congrArg
def bp:=@Bool.not_eq_true'
def bq:=@Bool.true_and
def br:=@List.flatten_cons
def bt:=@List.flatten_append
def bu:=@if_true
def bw:=@Array.getElem?_eq_getElem
def bx:=@Option.map_some
def bz:=@List.map_append
def bA:=@List.getElem?_map
def bB:=@Array.length_toList
def bC:=@List.mem_singleton
def bD:=@Bool.false_and
def bE:=@Option.some.injEq
def bF:=@Int.toNat_natCast
def bG:=@List.nil_append
def bH:=@List.cons_append
def bI:=@List.mem_filter
def bJ:=@List.mem_append
def bK:=@List.getElem?_append_right
def bL:=@List.set_eq_take_append_cons_drop
def bM:=@List.append_of_mem
def bN:=@Classical.byContradiction
def bO:=@Array.getElem?_toList
def bP:=@List.length_set
def bQ:=@List.filter_eq_cons_iff
def bR:=@Bool.or_eq_true
def bS:=@List.contains_eq_mem
def bT:=@List.getElem_of_mem
def bU:=@Nat.le_refl
def bV:=@List.filter_append
def bW:=@Array.all_eq_true_iff_forall_mem
def bX:=@List.map_nil
def bY:=@List.length_replicate
def bZ:=@Bool.not_eq_true
def ca:=@List.map_congr_left
def cb:=@Array.getElem?_eq_none
def cd:=@List.mem_cons_of_mem
def ce:=@Nat.lt_or_ge
def cf:=@List.take_append_drop
def cg:=@Ne.symm
def ci:=@Option.map_eq_some_iff
def ck:=@List.take_of_length_le
def cm:=@List.getElem?_drop
def cn:=@List.length_drop
def co:=@Nat.zero_add
def cp:=@Nat.add_mul
def cr:=@Bool.not_true
def cu:=@List.length_nil
def cw:=@List.filter_cons
def cy:=@List.eq_nil_iff_forall_not_mem
def cz:=@List.getElem?_append
def cB:=@List.filter_eq_nil_iff
def cC:=@List.getElem?_take_of_lt
def cD:=@List.ext_getElem?
def cE:=@Nat.zero_le
def cF:=@List.length_take
def cG:=@List.filter_eq_append_iff
def cH:=@List.take_length
def cJ:=@List.mem_of_getElem?
def cK:=@Array.getD_eq_getD_getElem?
def cM:=@List.all_cons
def cO:=@Bool.false_or
def cP:=@Array.getElem?_setIfInBounds_ne
def cQ:=@Array.getElem?_modify
def cR:=@beq_iff_eq
def cT:=@Nat.add_assoc
def cV:=@List.eq_of_mem_replicate
def cW:=@Nat.mul_le_mul_right
def cX:=@Go.Oper.semAt_eq
def cY:=@of_decide_eq_true
def cZ:=@Option.map_none
def da:=@Array.ext'
def dc:=@Go.wpIn_mono
def de:=@List.length_pos_iff
def dh:=@List.map_map
def dk:=@List.drop_of_length_le
def dm:=@Bool.not_eq_false'
def dn:=@List.getElem?_toArray
def dp:=@Array.getElem?_push_size
def dq:=@Go.StepsIn.trans
def dt:=@and_self
def du:=@List.getElem?_cons_succ
def dv:=@List.getElem?_take
def dw:=@false_and
def dy:=@Array.getElem?_append_left
def dz:=@Option.bind_some
def dA:=@Nat.sub_zero
def dB:=@Nat.sub_self
def dC:=@List.drop_eq_getElem_cons
def dD:=@List.replicate_succ
def dE:=@List.set_cons_succ
def dF:=@List.mem_range
def dG:=@List.length_filter_le
def dH:=@Bool.and_eq_false_iff
def dJ:=@Array.getElem_setIfInBounds_ne
def dK:=@Prod.mk.injEq
def dL:=@List.filterMap_cons
def dM:=@Nat.add_zero
def dN:=@List.set_cons_zero
def dO:=@Nat.one_mul
def dP:=@List.getElem?_set
def dQ:=@Int.le_refl
def dR:=@Go.fenced_calm
def dS:=@Nat.mod_eq_of_lt
def dT:=@List.not_mem_nil
def dU:=@List.not_all_eq_any_not
def dV:=@List.getElem?_replicate
def dW:=@Nat.le_trans
def dX:=@List.map_set
def dY:=@List.getElem_cons_zero
def dZ:=@List.nodup_cons
def eb:=@List.foldl_cons
def ec:=@List.cons.injEq
def ed:=@List.sizeOf_lt_of_mem
def ee:=@Bool.not_eq_eq_eq_not
def eg:=@Bool.or_eq_false_iff
def eh:=@not_or
def ei:=@Array.foldl_toList
def ep:=@true_and
def eu:=@Nat.zero_mul
def ew:=@Nat.add_comm
def ex:=@List.nodup_append
def ey:=@List.replicate_append_replicate
def ez:=@forall_eq_or_imp
def eA:=@Nat.le_add_right
def eB:=@List.getElem_map
def eC:=@List.flatten_nil
def eD:=@decide_true
def eE:=@List.take_append_of_le_length
def eF:=@Int.natCast_add
def eG:=@List.mapM_cons
def eH:=@List.getElem?_cons_zero
def eI:=@List.getElem_cons_succ
def eJ:=@List.all_nil
def eK:=@Decidable.em
def eL:=@List.mem_append_right
namespace Go.DL
open Go
theorem j0{p:Prop}(h:p:=by omega):p:=h
theorem j1{p:Prop}(h:p:=by simp):p:=h
def tdR{α:Sort _}{a b:α}(h:a=b:=by with_unfolding_all rfl):a=b:=h
abbrev cv(fop:Operand)(args:Array Operand)(ats:Array TypeId):Op:=.call { callee:=.value fop,args,argTypes:=ats }
abbrev cA(s x:Operand)(T S:TypeId):Op:=.call { callee:=.builtin .append,args:= #[s,x],argTypes:= #[T,S] }
abbrev eQ:=List Nat
abbrev eP:=List Int
abbrev eT:=List eP
inductive Own where
 |no
 |clip
 |tag (id:Nat)
 deriving DecidableEq,Inhabited
inductive D where
 |any
 |bool (b:Bool)
 |int (k:IntKind) (n:Int)
 |str (s:List UInt8)
 |agg (cs:(List D))
 |tup (cs:(List D))
 |aq
 |ak (cells:(List D)) (off:Nat)
 |ptr (id off:Nat)
 |aj
 |slice (es:(List (List D))) (own:Own)
 |am (id off len cap:Nat)
 |map (id:Nat)
 |nilmap
 |cmap (ks vs:(List D))
 |func (fn:Fn) (first cap:(List D))
 |yld (id:Nat)
 |ap
 |iface (t:TypeId) (d:D)
 |niliface
 |obj (id:Nat)
 deriving Inhabited
abbrev eO:=List D
abbrev eR:=List eO
abbrev Fr:=List (Nat×D)
def D.cells:D->eO
 |.agg cs=>cs
 |d=>[d]
structure G where
 imm:Nat->Nat->Option Value
 rho:Nat->Option Nat
 hist:Nat->Nat->Option Value
 keep:Nat->Option Obj
 io:Os×Array (Nat×ByteArray)
structure G.le(g g':G):Prop where
 imm:∀b o v,g.imm b o=some v->g'.imm b o=some v
 rho:∀i b,g.rho i=some b->g'.rho i=some b
 hist:∀i n v,g.hist i n=some v->g'.hist i n=some v
 keep:∀b o,g.keep b=some o->g'.keep b=some o
 io:g'.io=g.io
def G.le.refl(g:G):g.le g:=⟨fun _ _ _ h=>h,fun _ _ h=>h,fun _ _ _ h=>h,fun _ _ h=>h,rfl⟩
def G.le.trans{a b c:G}(h:a.le b)(k:b.le c):a.le c:=
 ⟨fun _ _ _ x=>k.imm _ _ _ (h.imm _ _ _ x),fun _ _ x=>k.rho _ _ (h.rho _ _ x),fun _ _ _ x=>k.hist _ _ _ (h.hist _ _ _ x),fun _ _ x=>k.keep _ _ (h.keep _ _ x),k.io.trans h.io⟩
def kw(c:Nat)(es:List MapEntry):Prop:=(es.map (·.born)).Nodup /\ ∀e∈es,e.born<c
mutual
def Rep (g:G):D->Value->Prop
 |.any,_=>True
 |.bool b,v=>v=.bool b
 |.int k n,v=>v=.int k n
 |.str s,v=>v=.string ⟨s.toArray⟩
 |.agg cs,v=> ∃vs:List Value,v=.agg vs.toArray/\jE g cs vs
 |.tup cs,v=> ∃vs:List Value,v=.tuple vs.toArray/\jE g cs vs
 |.aq,v=>v=.pointer none
 |.ak cs off,v=> ∃b o,v=.pointer (some ⟨b,o+off,none⟩)/\ju g b o cs
 |.ptr id off,v=> ∃b,g.rho id=some b/\v=.pointer (some ⟨b,off,none⟩)
 |.aj,v=>v=.slice none 0 0
 | .slice es own,v => ∃ a cap,v = .slice a es.length cap/\es.length<=cap /\
   (es=[] \/ ∃sz b o,a=some ⟨b,o,none⟩/\jn g b sz o es) /\
   (match own with
    |.no=>True
    |.clip=>cap=es.length
    |.tag id=>g.hist id es.length=some v)
 |.am id off len cap,v=> ∃b,g.rho id=some b/\v=.slice (some ⟨b,off,none⟩) len cap
 |.map id,v=> ∃b,g.rho id=some b/\v=.map (some b)
 |.nilmap,v=>v=.map none
 |.cmap ks vs,v=> ∃b es clock,v=.map (some b)/\g.keep b=some (.map es clock)/\kw clock es.toList/\jE g ks (es.toList.map (·.key))/\jE g vs (es.toList.map (·.val))
 |.func fn first cap,v=> ∃fs cs:List Value,v=.func fn fs.toArray cs.toArray/\jE g first fs/\jE g cap cs
 |.yld id,v=> ∃b,g.rho id=some b/\v=.func (.yield b) #[] #[]
 |.ap,v=>v=.nilFunc
 |.iface t d,v=> ∃x,v=.iface t x/\Rep g d x
 |.niliface,v=>v=.nilIface
 |.obj id,v=> ∃b,g.rho id=some b/\v=.pointer (some ⟨b,0,none⟩)
def jE(g:G):eO->List Value->Prop
 |[],vs=>vs=[]
 |d::ds,vs=> ∃v r,vs=v::r/\Rep g d v/\jE g ds r
def ju(g:G)(b:Nat):Nat->eO->Prop
 |_,[]=>True
 |o,d::ds=>(∃v,g.imm b o=some v/\Rep g d v)/\ju g b (o+1) ds
def jn(g:G)(b sz:Nat):Nat->eR->Prop
 |_,[]=>True
 |o,e::es=>(e.length=sz/\ju g b o e)/\jn g b sz (o+sz) es
end
section mono
variable {g g':G}(h:g.le g')
include h
mutual
theorem Rep.mono: ∀(d:D) {v:Value},Rep g d v->Rep g' d v
 |.any,_=>fun _=>trivial
 |.bool b,v=>fun x=>x
 |.int k n,v=>fun x=>x
 |.str s,v=>fun x=>x
 |.agg cs,v=>fun ⟨vs,e,r⟩=>⟨vs,e,jE.mono cs r⟩
 |.tup cs,v=>fun ⟨vs,e,r⟩=>⟨vs,e,jE.mono cs r⟩
 |.aq,v=>fun x=>x
 |.ak cs off,v=>fun ⟨b,o,e,r⟩=>⟨b,o,e,ju.mono cs r⟩
 |.ptr id off,v=>fun ⟨b,e,r⟩=>⟨b,h.rho _ _ e,r⟩
 |.aj,v=>fun x=>x
 | .slice es own,v=>fun ⟨a,cap,e,hc,r,ho⟩=>⟨a,cap,e,hc,(match r with
   |.inl r=>.inl r
   |.inr ⟨sz,b,o,ha,r⟩=>.inr ⟨sz,b,o,ha,jn.mono es r⟩),(match own,ho with
   |.no,_=>trivial
   |.clip,ho=>ho
   |.tag id,ho=>h.hist _ _ _ ho)⟩
 |.am id off len cap,v=>fun ⟨b,e,r⟩=>⟨b,h.rho _ _ e,r⟩
 |.map id,v=>fun ⟨b,e,r⟩=>⟨b,h.rho _ _ e,r⟩
 |.nilmap,v=>fun x=>x
 |.cmap ks vs,v=>fun ⟨b,es,c,e,hk,hs,r1,r2⟩=>⟨b,es,c,e,h.keep _ _ hk,hs,jE.mono ks r1,jE.mono vs r2⟩
 |.func fn first cap,v=>fun ⟨fs,cs,e,r1,r2⟩=>⟨fs,cs,e,jE.mono first r1,jE.mono cap r2⟩
 |.yld id,v=>fun ⟨b,e,r⟩=>⟨b,h.rho _ _ e,r⟩
 |.ap,v=>fun x=>x
 |.iface t d,v=>fun ⟨x,e,r⟩=>⟨x,e,Rep.mono d r⟩
 |.niliface,v=>fun x=>x
 |.obj id,v=>fun ⟨b,e,r⟩=>⟨b,h.rho _ _ e,r⟩
theorem jE.mono: ∀(ds:eO) {vs:List Value},jE g ds vs->jE g' ds vs
 |[],_=>fun x=>x
 |d::ds,_=>fun ⟨v,r,e,h1,h2⟩=>⟨v,r,e,Rep.mono d h1,jE.mono ds h2⟩
theorem ju.mono: ∀(ds:eO) {b o:Nat},ju g b o ds->ju g' b o ds
 |[],_,_=>fun _=>trivial
 |d::ds,_,_=>fun ⟨⟨v,h1,h3⟩,h4⟩=>⟨⟨v,h.imm _ _ _ h1,Rep.mono d h3⟩,ju.mono ds h4⟩
theorem jn.mono: ∀(es:eR) {b sz o:Nat},jn g b sz o es->jn g' b sz o es
 |[],_,_,_=>fun _=>trivial
 |e::es,_,_,_=>fun ⟨⟨h1,h2⟩,h3⟩=>⟨⟨h1,ju.mono e h2⟩,jn.mono es h3⟩
end
end mono
inductive jP where
 |cells (ds:eO)
 |map (es:List (D×D))
 |tail (sz n:Nat)
 |loop (st:LoopState) (pend:Option Code) (ps:Array Tmp) (assign body:Code) (n:Nat) (γ:Fr) (did:Nat)
 |defs
 |iter (left:List (D×D)) (last:Option (D×D))
 |tcells (ty:Nat) (ds:eO)
 |mcells (ds:eO)
 deriving Inhabited
inductive DDf where
 |coll (id:Nat)
 |fn (f:Nat) (args cap:eO)
abbrev Sig:=Nat->Option jP
def Sig.set(O:Sig)(i:Nat)(o:jP):Sig:=fun j=>if j=i then some o else O j
def Sig.del(O:Sig)(i:Nat):Sig:=fun j=>if j=i then none else O j
def getD(γ:Fr)(t:Nat):D:=(γ.lookup t).getD .any
structure St where
 γ:Fr
 O:Sig
 df:List DDf:=[]
def kO(g:G):List (D×D)->List MapEntry->Prop
 |[],es=>es=[]
 |(k,d)::r,es=> ∃e rest,es=e::rest/\Rep g k e.key/\Rep g d e.val/\kO g r rest
def kO.mono{g g':G}(h:g.le g'): ∀(l:List (D×D)) {es:List MapEntry},kO g l es->kO g' l es
 |[],_=>fun x=>x
 |(_,_)::r,_=>fun ⟨e,rest,h1,h2,h3,h4⟩=>⟨e,rest,h1,Rep.mono h _ h2,Rep.mono h _ h3,kO.mono h r h4⟩
def blk(g:G)(O:Sig)(i:Nat):Option Nat:=
 match O i with
 |none=>none
 |some (.tail _ n)=>match g.hist i n with
  |some (.slice (some a) _ _)=>some a.block
  |_=>none
 |some _=>g.rho i
def kA(g:G)(γ:Fr)(n:Nat)(tmps:Array Value):Prop:=
 tmps.size=n /\ ∀t,Rep g (getD γ t) (tmps.getD t undef)
def kB (P:Program) (g:G) (w:World) (i:Nat):jP->Prop
 |.cells ds=> ∃b vs ty,g.rho i=some b/\w.heap[b]? = some (.cells vs ty (0,0))/\jE g ds vs.toList
 |.tcells ty ds=> ∃b vs,g.rho i=some b/\w.heap[b]? = some (.cells vs ty (0,0))/\jE g ds vs.toList
 |.mcells ds=> ∃b vs ty,g.rho i=some b/\w.heap[b]? = some (.cells vs ty (vs.size,vs.size+1))/\jE g ds vs.toList
 |.map l=> ∃b es clock,g.rho i=some b/\w.heap[b]? = some (.map es clock)/\kO g l es.toList/\kw clock es.toList
 | .tail sz n=>(g.hist i n=some (.slice none 0 0)/\n=0) \/
   ∃b o cap vs ty,g.hist i n=some (.slice (some ⟨b,o,none⟩) n cap)/\n<=cap/\w.heap[b]? = some (.cells vs ty (0,0)) /\
    o+cap*sz<=vs.size /\ ∀j,o+n*sz<=j->g.imm b j=none
 | .loop st pend ps assign body n γ did => ∃ b db fn tmps,g.rho i=some b/\g.rho did=some db/\fn < P.funcs.size/\kA g γ n tmps /\
   w.heap[b]? = some (.loop { state:=st,pending:=pend,fn,tmps,params:=ps,assign,body,defers:=db })
 |.defs=> ∃b,g.rho i=some b/\w.heap[b]? = some (.deferred (some []))
 | .iter left last => ∃ b,g.rho i=some b/\((left=[]/\last=none/\w.heap[b]? = some (.mapIter none 0 #[] 0)) \/ ∃ mb es clock seen,w.heap[b]? = some (.mapIter (some mb) clock seen clock)/\g.keep mb=some (.map es clock)/\kw clock es.toList /\
   kO g left (es.toList.filter fun e=> !seen.contains e.born) /\ ∀k v,last=some (k,v)->∃e st,seen.back? = some st/\es.find? (fun e=>e.born==st)=some e/\Rep g k e.key/\Rep g v e.val)
def jP.isTail:jP->Bool
 |.tail .. =>true
 |_=>false
def ErrsAre(_:Program)(_:World):Prop:=True
def TabsAre (P : Program) (w : World) : Prop := P.globals.size = 0 \/ (w.var? P "internal/strconv.uint64pow10" = some (((List.range 20).map fun i => ((10 ^ i : Nat) : Int)).map fun z => Value.int .u64 z).toArray /\ ErrsAre P w)
def TabK(P:Program)(g:G):Prop:= ∀w:World,(∀k o,g.keep k=some o->w.heap[k]? = some o)->TabsAre P w
def TabK.mono{P:Program}{g g':G}(b7:g.le g')(h:TabK P g):TabK P g':=fun w hk=>h w fun k o eZ=>hk k o (b7.keep k o eZ)
structure Sim(P:Program)(g:G)(O:Sig)(w:World):Prop where
 imm:∀b o v,g.imm b o=some v->w.cell? ⟨b,o,none⟩=some v
 keep:∀k o,g.keep k=some o->w.heap[k]? = some o
 obj:∀i o,O i=some o->kB P g w i o
 inj:∀i j b,blk g O i=some b->blk g O j=some b->i=j
 free:∀i b,blk g O i=some b->g.keep b=none/\((∀o,O i=some o->o.isTail=false)->∀o,g.imm b o=none)
 htop:∀i sz n k,O i=some (.tail sz n)->n<k->g.hist i k=none
 hdom:∀i n v,g.hist i n=some v->(g.rho i).isSome=true
 fin:∃m, ∀i,m<=i->g.rho i=none
 io:(w.os,w.output)=g.io
 tab:TabK P g
def kA.mono{g g':G}(h:g.le g'){γ:Fr}{n:Nat}{tmps:Array Value}(r:kA g γ n tmps):kA g' γ n tmps:=
 ⟨r.1,fun t=>Rep.mono h _ (r.2 t)⟩
inductive Ro where
 |none
 |wide
 |some (i:Nat)
structure Rx where
 rd:Option Nat:=Option.none
 wide:Bool:=false
def FX(P:Program)(r:Rx):Fence:={ fn:=fun f=>r.wide=false->f<P.funcs.size,depth:=Option.none,alive:=false,round:=r.rd }
def GK{P:Program}{f:Nat}(h:f<P.funcs.size)(r:Rx):(FX P r).fn f:=fun _=>h
def GX(P:Program)(r:Rx)(n:Nat):(FX P r).room n:=fun _ h=>by simp[FX]at h
def Lu{P:Program}{n f:Nat}{args:Array Value}{w:World}{R:Ending->World->Prop}(r:Rx)(h:CallsIn (FX P {}) n P f args w R):CallsIn (FX P r) n P f args w R:=by
 refine⟨fun _=>h.1 rfl,fun cs _=>?_⟩;obtain⟨e,w',fr,h1,h2,h3,h4⟩:=h.2 cs (GX P _ _);refine⟨e,w',fr,h1,?_,h3,h4⟩
 have key:∀m m',StepsIn (Machine.fenced P (FX P {})) P m m'->StepsIn (Machine.fenced P (FX P r)) P m m':=fun m m' hs=>by
  refine StepsIn.mono (fun m hm g hg=>?_) hs;obtain⟨a1,a2,a3,a4⟩:=hm g hg;exact⟨(fun e=>by cases e),a2.imp (fun h _=>h rfl) id,fun f hf _=>a3 f hf rfl,GX P r _⟩
 cases e with
 |returned v=>exact key _ _ h2
 |panicked c=>exact key _ _ h2
 |outgrown=>exact h2
def Ed{P:Program}{f:Nat}{args:Array Value}{w:World}{R:Ending->World->Prop}(h:Calls P f args w R):CallsIn (FX P { wide:=true }) 0 P f args w R:=by
 refine⟨(fun h=>by cases h),fun cs _=>?_⟩;obtain⟨e,w',fr,h1,h2,h3,h4⟩:=(callsIn_wide.2 h:CallsIn Fence.wide 0 P f args w R).2 cs (room_wide _);refine⟨e,w',fr,h1,?_,h3,h4⟩
 have key:∀m m',StepsIn (Machine.fenced P Fence.wide) P m m'->StepsIn (Machine.fenced P (FX P { wide:=true })) P m m':=fun m m' hs=>by
  refine StepsIn.mono (fun m _ g _=>?_) hs;exact⟨(fun e=>by cases e),.inl (fun h=>by cases h),(fun f _ h=>by cases h),GX P _ _⟩
 cases e with
 |returned v=>exact key _ _ h2
 |panicked c=>exact key _ _ h2
 |outgrown=>exact h2
def RepDf(g:G):List DDf->List Deferred->Prop
 |[],l=>l=[]
 |.coll i::r,l=> ∃b rest,l={ target:=.collected b,args:= #[] }::rest/\g.rho i=some b/\RepDf g r rest
 |.fn f args cap::r,l=> ∃az cs rest,l={ target:=.fn (.func f) cs.toArray,args:=az.toArray }::rest/\jE g args az/\jE g cap cs/\RepDf g r rest
def RepDf.mono{g g':G}(h:g.le g'): ∀(l:List DDf) {ds:List Deferred},RepDf g l ds->RepDf g' l ds
 |[],_=>fun x=>x
 |.coll _::r,_=>fun ⟨b,rest,h1,h2,h3⟩=>⟨b,rest,h1,h.rho _ _ h2,RepDf.mono h r h3⟩
 |.fn _ _ _::r,_=>fun ⟨az,cs,rest,h1,h2,h3,h4⟩=>⟨az,cs,rest,h1,jE.mono h _ h2,jE.mono h _ h3,RepDf.mono h r h4⟩
structure kI(P:Program)(g:G)(n:Nat)(s:St)(a:Act)(w:World):Prop where
 sim:Sim P g s.O w
 tmps:kA g s.γ n a.tmps
 df:RepDf g s.df a.defers
inductive DX where
 |normal
 |exit (id:Nat)
 |ret
 |panic (d:D)
def XRep(g:G):DX->Exit->Prop
 |.normal,e=>e=.normal
 |.exit id,e=>e=.exit id
 |.ret,e=>e=.ret
 |.panic d,e=> ∃v,e=.panic [{ v,recovered:=false }]/\Rep g d v
def XRep.mono{g g':G}(h:g.le g'){x:DX}{e:Exit}(r:XRep g x e):XRep g' x e:=by
 cases x with
 |panic d=>obtain⟨v,h1,h2⟩:=r;exact⟨v,h1,Rep.mono h _ h2⟩
 |_=>exact r
def kE(P:Program)(g:G)(n:Nat)(Q:DX->St->Prop)(e:Exit)(a:Act)(w:World):Prop:=
 ∃g' s' x,g.le g'/\kI P g' n s' a w/\XRep g' x e/\Q x s'
def kE.le{P:Program}{g g':G}{n:Nat}{Q:DX->St->Prop}{e:Exit}{a:Act}{w:World}(h:g.le g')(p:kE P g' n Q e a w):kE P g n Q e a w:=
 let ⟨g2,s',x,h1,h2⟩:=p
 ⟨g2,s',x,h.trans h1,h2⟩
def kh(g:G):Ro->Rx->Prop
 |.none,r=>r={}
 |.wide,r=>r={ wide:=true }
 |.some i,r=> ∃b,r={ rd:=Option.some b }/\g.rho i=Option.some b
def kh.mono{g g':G}(h:g.le g'){ro:Ro}{r:Rx}(x:kh g ro r):kh g' ro r:=by
 cases ro with
 |none=>exact x
 |wide=>exact x
 |some i=>obtain⟨b,h1,h2⟩:=x;exact⟨b,h1,h.rho _ _ h2⟩
def DWp(P:Program)(ro:Ro)(n:Nat)(c:Code)(Q:DX->St->Prop)(s:St):Prop:=
 ∀g w a r,kh g ro r->kI P g n s a w->c.wpIn (FX P r) 0 P (kE P g n Q) a w
def ka(K:St->Prop)(Q:DX->St->Prop):DX->St->Prop
 |.normal,s=>K s
 |x,s=>Q x s
section
variable {P:Program}{ro:Ro}{n:Nat}{Q:DX->St->Prop}{s:St}
theorem EH{c:Code}{Q':DX->St->Prop}(h:DWp P ro n c Q s)(hq:∀x s,Q x s->Q' x s):DWp P ro n c Q' s:=
 fun g w a r hr hs=>dc (h g w a r hr hs) fun _ _ _ ⟨g',s',x,h1,h2,h3,h4⟩=>⟨g',s',x,h1,h2,h3,hq _ _ h4⟩
def Wk(P:Program)(n:Nat)(s s':St):Prop:= ∀g w a,kI P g n s a w->∃g',g.le g'/\kI P g' n s' a w
theorem Wk.refl(P:Program)(n:Nat)(s:St):Wk P n s s:=fun g _ _ h=>⟨g,.refl g,h⟩
theorem Wk.trans{s s' s'':St}(h:Wk P n s s')(k:Wk P n s' s''):Wk P n s s'':=fun g w a x=>
 let ⟨g1,l1,h1⟩:=h g w a x
 let ⟨g2,l2,h2⟩:=k g1 w a h1
 ⟨g2,l1.trans l2,h2⟩
theorem FH{c:Code}{s':St}(h:Wk P n s s')(k:DWp P ro n c Q s'):DWp P ro n c Q s:=fun g w a r hr hs=>
 let ⟨g',l,d5⟩:=h g w a hs
 dc (k g' w a r (hr.mono l) d5) fun _ _ _ p=>p.le l
theorem PF(h:Q .normal s):DWp P ro n .skip Q s:=fun g _ _ _ _ hs=>wpIn_skip ⟨g,s,.normal,.refl g,hs,rfl,h⟩
theorem Vc{l:Nat}(h:Q .normal s):DWp P ro n (.label l) Q s:=fun g _ _ _ _ hs=>wpIn_label ⟨g,s,.normal,.refl g,hs,rfl,h⟩
theorem PJ{id:Nat}(h:Q (.exit id) s):DWp P ro n (.exit id) Q s:=fun g _ _ _ _ hs=>wpIn_exit ⟨g,s,.exit id,.refl g,hs,rfl,h⟩
theorem Vb(h:Q .ret s):DWp P ro n .ret Q s:=fun g _ _ _ _ hs=>wpIn_ret ⟨g,s,.ret,.refl g,hs,rfl,h⟩
theorem M8{x y:Code}(h:DWp P ro n x (ka (DWp P ro n y Q) Q) s):DWp P ro n (.seq x y) Q s:=by
 intro g w a r hr hs;refine wpIn_seq (dc (h g w a r hr hs) ?_)
 rintro e a' w' ⟨g',s',x,h1,h2,h3,h4⟩
 cases x with
 |normal=>
  obtain rfl:=h3;exact dc (h4 g' w' a' r (hr.mono h1) h2) fun _ _ _ p=>p.le h1
 |exit id=>obtain rfl:=h3;exact⟨g',s',.exit id,h1,h2,rfl,h4⟩
 |ret=>obtain rfl:=h3;exact⟨g',s',.ret,h1,h2,rfl,h4⟩
 |panic d=>obtain⟨v,rfl,h5⟩:=h3;exact⟨g',s',.panic d,h1,h2,⟨v,rfl,h5⟩,h4⟩
def Bq:Value->D
 |.bool b=>.bool b
 |.int k n=>.int k n
 |.string s=>.str s.data.toList
 |.pointer none=>.aq
 |.slice none 0 0=>.aj
 |.map none=>.nilmap
 |.nilFunc=>.ap
 |.nilIface=>.niliface
 |_=>.any
def ev(γ:Fr):Operand->D
 |.tmp t=>getD γ t
 |.const v=>Bq v
 |.global _=>.any
 |.func f=>.func (.func f) [] []
theorem Eo(g:G)(v:Value):Rep g (Bq v) v:=by
 unfold Bq;split<;>simp[Rep]
theorem As{g:G}{γ:Fr}{m:Nat}{a:Act}(h:kA g γ m a.tmps)(x:Operand):Rep g (ev γ x) (a.eval x):=by
 cases x with
 |tmp t=>exact h.2 t
 |const v=>exact Eo g v
 |global _=>trivial
 |func f=>exact⟨[],[],rfl,rfl,rfl⟩
theorem Hl{g:G}{b:Bool}{v:Value}(h:Rep g (.bool b) v):v=.bool b:=h
theorem PK{c:Operand}{x y:Code}{t:Bool}(hc:ev s.γ c=.bool t)(ht:t=true->DWp P ro n x Q s)(hf:t=false->DWp P ro n y Q s):
  DWp P ro n (.cond c x y) Q s:=by
 intro g w a r hr hs;have he:a.eval c=.bool t:=by have:=As hs.tmps c;rw[hc]at this;exact this
 cases t
 ·exact wpIn_cond he (hf rfl g w a r hr hs)
 ·exact wpIn_cond he (ht rfl g w a r hr hs)
def InB(id:Nat)(Q:DX->St->Prop):DX->St->Prop
 |.exit i,s=>if i=id then Q .normal s else Q (.exit i) s
 |x,s=>Q x s
theorem NE{id:Nat}{c:Code}(h:DWp P ro n c (InB id Q) s):DWp P ro n (.block id c) Q s:=by
 intro g w a r hr hs;refine wpIn_block (dc (h g w a r hr hs) ?_)
 rintro e a' w' ⟨g',s',x,h1,h2,h3,h4⟩
 cases x with
 |normal=>obtain rfl:=h3;exact⟨g',s',.normal,h1,h2,rfl,h4⟩
 | exit i =>
  obtain rfl:=h3
  by_cases hi:i=id
  ·subst hi;simp only[InB,bu]at h4;simp only[Exit.inBlock,bu];exact⟨g',s',.normal,h1,h2,rfl,h4⟩
  ·simp only[InB,hi,bc]at h4;simp only[Exit.inBlock,hi,bc];exact⟨g',s',.exit i,h1,h2,rfl,h4⟩
 |ret=>obtain rfl:=h3;exact⟨g',s',.ret,h1,h2,rfl,h4⟩
 |panic d=>obtain⟨v,rfl,h5⟩:=h3;exact⟨g',s',.panic d,h1,h2,⟨v,rfl,h5⟩,h4⟩
theorem PI{α:Type}{c:Code}(I:α->St)(μ:α->Nat)(x0:α)(h0:Wk P n s (I x0))
  (round:∀x,DWp P ro n c (ka (fun s'=> ∃x',μ x'<μ x/\Wk P n s' (I x')) Q) (I x)):DWp P ro n (.loop c) Q s:=by
 intro g w a r hr hs;obtain⟨g0,l0,eW⟩:=h0 g w a hs
 let J:Act->World->Nat->Prop:=fun a w m=> ∃x g',g.le g'/\kI P g' n (I x) a w/\μ x=m
 have least:∀(p:Nat->Prop),(∃m,p m)->∃m,p m /\ ∀k,p k->m<=k:=by
  intro p ⟨m,hm⟩
  induction m using Nat.strongRecOn with
  |_ m ih=>
   by_cases hk:∃k,k<m/\p k
   ·obtain⟨k,h1,h2⟩:=hk;exact ih k h1 h2
   ·exact⟨m,hm,fun k b9=>Nat.le_of_not_lt fun b8=>hk ⟨k,b8,b9⟩⟩
 let M:Act->World->Nat:=fun a w=>Classical.epsilon fun m=>J a w m /\ ∀k,J a w k->m<=k
 have hM:∀a w,(∃m,J a w m)->J a w (M a w) /\ ∀k,J a w k->M a w<=k:=fun a w h=>Classical.epsilon_spec (least _ h);refine wpIn_loop (fun a w=> ∃m,J a w m) M ⟨_,x0,g0,l0,eW,rfl⟩ ?_;intro a w hJ;obtain⟨⟨x,g',l,d5,hx⟩,_⟩:=hM a w hJ;refine dc (round x g' w a r (hr.mono l) d5) ?_
 rintro e a' w' ⟨g2,s',dx,h1,h2,h3,h4⟩
 cases dx with
 |normal=>
  obtain rfl:=h3;obtain⟨x',b8,hw⟩:=h4;obtain⟨g3,l3,eV⟩:=hw g2 w' a' h2;have d9:J a' w' (μ x'):=⟨x',g3,l.trans (h1.trans l3),eV,rfl⟩;refine⟨⟨_,d9⟩,Nat.lt_of_le_of_lt ((hM a' w' ⟨_,d9⟩).2 _ d9) ?_⟩;rw[<-hx];exact b8
 |exit i=>obtain rfl:=h3;exact⟨g2,s',.exit i,l.trans h1,h2,rfl,h4⟩
 |ret=>obtain rfl:=h3;exact⟨g2,s',.ret,l.trans h1,h2,rfl,h4⟩
 |panic d=>obtain⟨v,rfl,h5⟩:=h3;exact⟨g2,s',.panic d,l.trans h1,h2,⟨v,rfl,h5⟩,h4⟩
end
inductive DE where
 |ret (d:D)
 |panic (d:D)
def ERep(g:G):DE->Ending->Prop
 |.ret d,e=> ∃v,e=.returned v/\Rep g d v
 |.panic d,e=> ∃v,e=.panicked [{ v,recovered:=false }]/\Rep g d v
def Mi(P:Program)(g:G)(R:DE->Sig->Prop)(e:Ending)(w:World):Prop:=
 ∃g' x U',g.le g'/\Sim P g' U' w/\ERep g' x e/\R x U'
def DCalls(P:Program)(f:Nat)(args:eO)(O:Sig)(R:DE->Sig->Prop):Prop:=
 ∀g w vs,Sim P g O w->jE g args vs->CallsIn (FX P {}) 0 P f vs.toArray w (Mi P g R)
def DCalls.mono{P:Program}{f:Nat}{args:eO}{O:Sig}{R R':DE->Sig->Prop}(h:DCalls P f args O R)(hr:∀x U',R x U'->R' x U'):DCalls P f args O R':=
 fun g w vs hs ha=>(h g w vs hs ha).mono fun _ _ ⟨g',x,U',h1,h2,h3,h4⟩=>⟨g',x,U',h1,h2,h3,hr _ _ h4⟩
def BV:Nat->eO->Fr
 |_,[]=>[]
 |i,d::ds=>(i,d)::BV (i+1) ds
def jE.length{g:G}: ∀{ds:eO}{vs:List Value},jE g ds vs->vs.length=ds.length
 |[],_,h=>by simp[jE]at h;simp[h]
 |d::ds,_,h=>by
  obtain⟨v,r,rfl,_,h2⟩:=h;simp[jE.length h2]
def N0(ds:eO): ∀(i t:Nat),getD (BV i ds) t=if i<=t then(ds[t-i]?).getD .any else .any:=by
 induction ds with
 |nil=>intro i t;simp[BV,getD]
 | cons d ds ih =>
  intro i t
  by_cases h:t=i
  ·subst h;simp[BV,getD,List.lookup]
  ·have hb:(t==i)=false:=by simpa using h
   have:=ih (i+1) t;simp only[getD,BV,List.lookup,hb]at this⊢;rw[this]
   by_cases h1:i<=t
   ·have h2:i+1<=t:=by omega
    obtain⟨k,hk⟩:∃k,t-i=k+1:=⟨t-i-1,j0⟩;have b9:t-(i+1)=k:=by omega
    simp[h1,h2,hk,b9]
   ·have h2:¬i+1<=t:=by omega
    simp[h1,h2]
def jE.get{g:G}: ∀{ds:eO}{vs:List Value},jE g ds vs->∀j:Nat,Rep g ((ds[j]?).getD .any) ((vs[j]?).getD undef)
 |[],_,h,j=>by simp[Rep]
 |d::ds,_,h,0=>by obtain⟨v,r,rfl,h1,_⟩:=h;simpa using h1
 |d::ds,_,h,j+1=>by obtain⟨v,r,rfl,_,h2⟩:=h;simpa using jE.get h2 j
def ES{g:G}{ds:eO}{vs:List Value}{m:Nat}(h:jE g ds vs)(hm:ds.length<=m):
  kA g (BV 0 ds) m (vs.toArray++Array.replicate (m-vs.toArray.size) undef):=by
 have hl:=jE.length h;refine⟨by simp;omega,fun t=>?_⟩;rw[N0];simp only[cE,bu,dA]
 by_cases ht:t<vs.length
 ·have:=jE.get h t;simpa[Array.getElem?_append,ht] using this
 ·have:ds[t]? = none:=by simp;omega
  simp[this,Rep]
def resD(fn:Func)(γ:Fr):Option D:=
 match fn.results.toList with
 |[]=>some (.tup [])
 |[.tmp t]=>some (getD γ t)
 |[.tmp t,.tmp u]=>some (.tup [getD γ t,getD γ u])
 |[.tmp t,.tmp u,.tmp v]=>some (.tup [getD γ t,getD γ u,getD γ v])
 |_=>none
def RP{P:Program}{g:G}{fn:Func}{γ:Fr}{m:Nat}{tmps:Array Value}{d:D}(h:resD fn γ=some d)(ht:kA g γ m tmps)(w:World):
  ∃v,(results fn tmps).run P w=.ok v w/\Rep g d v:=by
 obtain⟨l,hl⟩:∃l,fn.results=Array.mk l:=⟨fn.results.toList,j1⟩;unfold resD at h;rw[hl]at h;simp only at h;unfold results;rw[hl];split at h
 ·cases h;exact⟨.tuple #[],j1,[],rfl,rfl⟩
 ·cases h;rename_i t;exact⟨tmps.getD t undef,j1,ht.2 t⟩
 ·cases h;rename_i t u;exact⟨.tuple #[tmps.getD t undef,tmps.getD u undef],j1,[_,_],rfl,_,_,rfl,ht.2 t,_,_,rfl,ht.2 u,rfl⟩
 ·cases h;rename_i t u v;exact⟨.tuple #[tmps.getD t undef,tmps.getD u undef,tmps.getD v undef],j1,[_,_,_],rfl,_,_,rfl,ht.2 t,_,_,rfl,ht.2 u,_,_,rfl,ht.2 v,rfl⟩
 ·cases h
def NZ(P:Program)(n:Nat)(fn:Func)(s:St)(d:D):Prop:= ∀g a w,kI P g n s a w->∃v,(results fn a.tmps).run P w=.ok v w/\Rep g d v
def E3{P:Program}{n:Nat}{fn:Func}{s:St}{d:D}(h:resD fn s.γ=some d):NZ P n fn s d:=fun _ _ w hs=>RP h hs.tmps w
def VF(P:Program)(n:Nat)(fn:Func)(R:DE->Sig->Prop):DX->St->Prop
 |.normal,s|.ret,s=>s.df=[] /\ ∃d,NZ P n fn s d/\R (.ret d) s.O
 |.panic d,s=>s.df=[]/\R (.panic d) s.O
 |.exit _,_=>False
def EU{g:G}{l:List Deferred}{df:List DDf}(h:RepDf g df l)(hd:df=[]):l=[]:=by subst hd;exact h
def GR{P:Program}{ro:Ro}{r:Rx}{f:Nat}{fn:Func}{c:Code}{args:eO}{O:Sig}{R:DE->Sig->Prop}(hf:P.funcs[f]? = some fn)(hb:fn.body=some c)
  (hn:args.length<=fn.ntmps) (h:DWp P ro fn.ntmps c (VF P fn.ntmps fn R) { γ:=BV 0 args,O }) (hr:∀g,kh g ro r) (eX:r.rd=none):∀g w vs,Sim P g O w->jE g args vs->CallsIn (FX P r) 0 P f vs.toArray w (Mi P g R):=by
 intro g w vs hs ha;refine callsIn_of_wp hf hb (by obtain⟨h1,_⟩:=aI.1 hf;exact GK h1 _) ?_ eX;refine dc (h g w _ r (hr g) ⟨hs,ES ha hn,rfl⟩) ?_
 rintro e a w' ⟨g',s',x,h1,h2,h3,h4⟩
 cases x with
 |normal=>
  obtain rfl:=h3;obtain⟨hd,d,hr,hR⟩:=h4;obtain⟨v,hv,b6⟩:=hr _ _ _ h2;exact⟨EU h2.df hd,v,hv,g',.ret d,s'.O,h1,h2.sim,⟨v,rfl,b6⟩,hR⟩
 |ret=>
  obtain rfl:=h3;obtain⟨hd,d,hr,hR⟩:=h4;obtain⟨v,hv,b6⟩:=hr _ _ _ h2;exact⟨EU h2.df hd,v,hv,g',.ret d,s'.O,h1,h2.sim,⟨v,rfl,b6⟩,hR⟩
 |panic d=>
  obtain⟨v,rfl,b6⟩:=h3;obtain⟨hd,hR⟩:=h4;exact⟨EU h2.df hd,g',.panic d,s'.O,h1,h2.sim,⟨v,rfl,b6⟩,hR⟩
 |exit i=>exact h4.elim
def Ma{P:Program}{f:Nat}{fn:Func}{c:Code}{args:eO}{O:Sig}{R:DE->Sig->Prop}(hf:P.funcs[f]? = some fn)(hb:fn.body=some c)
  (hn:args.length<=fn.ntmps) (h:DWp P .none fn.ntmps c (VF P fn.ntmps fn R) { γ:=BV 0 args,O }):DCalls P f args O R:=
 GR hf hb hn h (fun _=>rfl) rfl
inductive TyK where
 |slice (e:Nat)
 |struct (fs:List (Nat×Nat))
 |array (len e:Nat)
 |map (k e:Nat)
 |int (k:IntKind)
 |str
 |bool
 |iface
 |ptr (e:Nat)
 |func
 |other
 deriving Inhabited
structure Ty where
 k:TyK
 agg:Bool
 size:Nat
 bytes:Nat
 zero:eO
 deriving Inhabited
def KOK:TypeDesc->TyK->Prop
 |.slice e,.slice e'=>e=e'
 |.struct fs,.struct l=>fs.toList.map (fun f=>(f.offset,f.type))=l
 |.array n e,.array m e'=>n=m/\e=e'
 |.map k e,.map k' e'=>k=k'/\e=e'
 |.int k,.int k'=>k=k'
 |.string,.str=>True
 |.bool,.bool=>True
 |.interface _,.iface=>True
 |.pointer e,.ptr e'=>e=e'
 |.func _ _ _,.func=>True
 |_,_=>False
def aggV:Value->Bool
 |.agg _=>true
 |_=>false
def TyOK(P:Program)(t:Nat)(i:Ty):Prop:=
 match i.k with
 |.other=>True
 | k => ∃ inf desc z,P.info? t=some inf/\P.underlying t=some desc/\KOK desc k/\inf.size=i.size/\inf.bytes=i.bytes /\
   i.agg=(match desc with|.struct _|.array _ _=>true|_=>false)/\inf.zero=some z/\i.zero.length=i.size/\i.zero=z.cells.toList.map Bq/\i.agg=aggV z
def AZ(P:Program)(tab:Nat->Ty):Prop:= ∀t,TyOK P t (tab t)
def Cx{P:Program}{t:Nat}{i:Ty}(h:TyOK P t i)(hk:i.k≠.other):
  ∃inf desc z,P.info? t=some inf/\P.underlying t=some desc/\KOK desc i.k/\inf.size=i.size/\inf.bytes=i.bytes /\
   i.agg=(match desc with|.struct _|.array _ _=>true|_=>false)/\inf.zero=some z/\i.zero.length=i.size/\i.zero=z.cells.toList.map Bq/\i.agg=aggV z:=by
 unfold TyOK at h;split at h
 ·rename_i b9;exact absurd b9 hk
 ·exact h
section runs
variable {P:Program}{t:Nat}{i:Ty}(h:TyOK P t i)(hk:i.k≠.other)(w:World)
include h hk
theorem AK:(sizeOf t).run P w=.ok i.size w:=by
 obtain⟨inf,desc,z,h1,h2,h3,h4,h5,h6,h7,h8⟩:=Cx h hk;simp[sizeOf,typeInfo,program,h1,h4,Sem.run]
theorem Jk:(isAgg t).run P w=.ok i.agg w:=by
 obtain⟨inf,desc,z,h1,h2,h3,h4,h5,h6,h7,h8⟩:=Cx h hk;simp only[isAgg,underlying,program,aP,Sem.run,aJ,h2];rw[h6];cases desc<;>simp[Sem.run]
theorem Dd: ∃z,(zeroValue t).run P w=.ok z w/\i.zero=z.cells.toList.map Bq/\z.cells.size=i.size:=by
 obtain⟨inf,desc,z,h1,h2,h3,h4,h5,h6,h7,h8,h9,_⟩:=Cx h hk;refine⟨z,by simp[zeroValue,typeInfo,program,h1,h7,Sem.run],h9,?_⟩;rw[<-h8,h9];simp
end runs
def j4{P:Program}{t:Nat}{d:TypeDesc}(h:P.underlying t=some d)(w:World):(underlying t).run P w=.ok d w:=by
 simp[underlying,program,h,Sem.run]
def PRun(P:Program)(g:G)(O:Sig)(d:D)(s:Sem Value)(w:World):Prop:=
 ∃g' w' v,s.run P w=.ok v w'/\g.le g'/\Sim P g' O w'/\Rep g' d v
def ju.get{g:G}{b:Nat}: ∀{ds:eO}{o j:Nat}{d:D},ju g b o ds->ds[j]? = some d->∃v,g.imm b (o+j)=some v/\Rep g d v
 |[],_,_,_,_,h=>by simp at h
 |x::ds,o,0,d,h,e=>by simp at e;subst e;exact h.1
 |x::ds,o,j+1,d,h,e=>by
  have:=ju.get (j:=j) (o:=o+1) h.2 (by simpa using e)
  rwa [show o+1+j=o+(j+1) by omega]at this
def ju.drop{g:G}{b:Nat}: ∀{ds:eO}{o:Nat} (k:Nat),ju g b o ds->ju g b (o+k) (ds.drop k)
 |[],_,k,_=>by simp[ju]
 |x::ds,o,0,h=>by simpa using h
 |x::ds,o,k+1,h=>by
  have:=ju.drop k h.2;simpa[show o+1+k=o+(k+1) by omega] using this
def ju.take{g:G}{b:Nat}: ∀{ds:eO}{o:Nat} (k:Nat),ju g b o ds->ju g b o (ds.take k)
 |[],_,k,_=>by simp[ju]
 |x::ds,o,0,h=>by simp[ju]
 |x::ds,o,k+1,h=>by
  have:=ju.take k h.2;simpa[ju] using⟨h.1,this⟩
def BQ(b o n:Nat):(⟨b,o,none⟩:Addr).add n=⟨b,o+n,none⟩:=by
 unfold Addr.add
 by_cases h:n=0<;>simp[h]
def OZ{P:Program}{w:World}{a:Addr}{v:Value}(h:w.cell? a=some v):(load a).run P w=.ok v w:=by
 simp[load,Sem.run,h]
def Hi{P:Program}{w:World}{b o:Nat}: ∀(n i:Nat) (acc:Array Value) (vs:List Value),vs.length=n->
  (∀j v,vs[j]? = some v->w.cell? ⟨b,o+(i+j),none⟩=some v)->(loadCellsFrom ⟨b,o,none⟩ i n acc).run P w=.ok (acc++vs.toArray) w
 |0,i,acc,vs,hl,_=>by
  have:vs=[]:=by simpa using hl
  subst this;simp[loadCellsFrom,Sem.run]
 | n+1,i,acc,vs,hl,h=>by
  cases vs with
  |nil=>simp at hl
  | cons v vs =>
   have h0:=h 0 v rfl
   have ih:=Hi (P:=P) (w:=w) (b:=b) (o:=o) n (i+1) (acc.push v) vs (by simpa using hl) (fun j x hx=>by
    have:=h (j+1) x (by simpa using hx)
    rwa [show i+(j+1)=i+1+j by omega]at this)
   simp only[loadCellsFrom,aP,BQ];rw[OZ (by simpa using h0)];simp only[aJ,ih];simp
def AP{g:G}: ∀{ds:eO}{vs:List Value},vs.length=ds.length->(∀(j:Nat) d v,ds[j]? = some d->vs[j]? = some v->Rep g d v)->jE g ds vs
 |[],vs,h,_=>by simpa[jE] using h
 |d::ds,[],h,_=>by simp at h
 |d::ds,v::vs,h,hh=>⟨v,vs,rfl,hh 0 d v rfl rfl,AP (by simpa using h) fun j x y hx hy=>hh (j+1) x y (by simpa using hx) (by simpa using hy)⟩
def ju.values{g:G}{b:Nat}: ∀{ds:eO}{o:Nat},ju g b o ds->∃vs,jE g ds vs /\ ∀j v,vs[j]? = some v->g.imm b (o+j)=some v
 |[],_,_=>⟨[],rfl,fun j v h=>by simp at h⟩
 |d::ds,o,⟨⟨v,h1,h2⟩,h3⟩=>by
  obtain⟨vs,r,hr⟩:=ju.values h3;refine⟨v::vs,⟨v,vs,rfl,h2,r⟩,fun j x hx=>?_⟩;cases j with
  |zero=>simp at hx;subst hx;simpa using h1
  |succ j=>have:=hr j x (by simpa using hx);rwa [show o+1+j=o+(j+1) by omega]at this
def Eg:Option jP->Option eO
 |some (.cells ds)=>some ds
 |_=>none
def Kk(ty:Ty)(O:Sig):D->Option D
 |.ak cs off=>
  if ty.agg then(if off+ty.size<=cs.length then some (.agg ((cs.drop off).take ty.size)) else none) else cs[off]?
 |.ptr id off=>
  match Eg (O id)with
  |some cs=>if ty.agg then(if off+ty.size<=cs.length then some (.agg ((cs.drop off).take ty.size)) else none) else cs[off]?
  |none=>none
 |_=>none
def MU{P:Program}{g:G}{O:Sig}{w:World}{t:Nat}{ty:Ty}(ht:TyOK P t ty)(hk:ty.k≠.other)(hs:Sim P g O w){x d:D}{v:Value}
  (hx:Rep g x v) (h:Kk ty O x=some d):∃v',(Instr.loadAt t v).run P w=.ok v' w/\Rep g d v':=by
 have key : ∀ (b o:Nat) (cs:eO) (vs:List Value),jE g cs vs->(∀ j v,vs[j]? = some v->w.cell? ⟨b,o+j,none⟩=some v) -> ∀ off,
   (if ty.agg then(if off+ty.size<=cs.length then some (D.agg ((cs.drop off).take ty.size)) else none) else cs[off]?)=some d->
   ∃v',(Instr.loadAt t (.pointer (some ⟨b,o+off,none⟩))).run P w=.ok v' w/\Rep g d v':=by
  intro b o cs vs hr hc off h;have hlen:=jE.length hr;unfold Instr.loadAt Instr.sureAddr loadVar;simp only[aP,bi,aJ,Jk ht hk]
  by_cases ha:ty.agg=true
  ·rw [aG ha] at h;rw[aG ha]
   by_cases b7:off+ty.size<=cs.length
   ·rw[aG b7]at h;cases h;have hl:((vs.drop off).take ty.size).length=ty.size:=by simp;omega
    have d6:=Hi (P:=P) (w:=w) (b:=b) (o:=o+off) ty.size 0 #[] ((vs.drop off).take ty.size) hl (fun j x hx=>by
     have:vs[off+j]? = some x:=by
      rw[dv]at hx
      split at hx
      ·simpa using hx
      ·cases hx
     have:=hc _ _ this
     rwa [show o+(off+j)=o+off+(0+j) by omega]at this)
    refine⟨.agg ((vs.drop off).take ty.size).toArray,?_,_,rfl,?_⟩
    ·simp only[aP,AK ht hk,aJ,loadCells,d6,bi];simp
    ·refine AP (by simp;omega) fun j x y hx hy=>?_
     rw[dv]at hx hy;split at hx
     ·rename_i hj;simp only[hj,bu,cm]at hx hy;have:=jE.get hr (off+j);rw[hx,hy]at this;exact this
     ·cases hx
   ·rw[aE b7]at h;cases h
  ·simp only[bZ]at ha;simp only[ha,bm,bc]at h⊢
   have hj:off<vs.length:=by
    have:=(aV.1 h).1;omega
   have hv:vs[off]? = some vs[off]:=aD hj;refine⟨vs[off],by rw[OZ (hc _ _ hv)],?_⟩;have:=jE.get hr off;rw[h,hv]at this;exact this
 cases x<;>simp only[Kk]at h<;>try cases h
 case ak cs off=>
  obtain⟨b,o,rfl,hr⟩:=hx;obtain⟨vs,hl,hv⟩:=hr.values;exact key b o cs vs hl (fun j v hj=>hs.imm _ _ _ (hv j v hj)) off h
 case ptr id off=>
  obtain⟨b,hb,rfl⟩:=hx;cases ho:Eg (O id)with
  |none=>rw[ho]at h;cases h
  | some cs =>
   rw[ho]at h
   have d7:O id=some (.cells cs):=by
    unfold Eg at ho;split at ho
    ·rename_i e;cases ho;exact e
    ·cases ho
   obtain⟨b',vs,ty',eU,c9,hr⟩:=hs.obj _ _ d7;have:b'=b:=by rw[hb]at eU;cases eU;rfl
   subst this
   have:=key b' 0 cs vs.toList hr (fun j v hj=>by
    simp only[World.cell?, c9,co]
    simpa using hj) off h
   simpa using this
def Qy{P:Program}{g:G}{O:Sig}{w:World}{t:Nat}{ty:Ty}(ht:TyOK P t ty)(hk:ty.k≠.other)(hs:Sim P g O w){x d:D}{v:Value}
  (hx:Rep g x v) (h:Kk ty O x=some d):PRun P g O d (Instr.loadAt t v) w:=
 let ⟨v',h1,h2⟩:=MU ht hk hs hx h
 ⟨g,w,v',h1,.refl g,hs,h2⟩
def Md{w:World}{b o:Nat}{v:Value}(h:w.cell? ⟨b,o,none⟩=some v):b<w.heap.size:=by
 unfold World.cell? at h;simp only at h;rcases ce b w.heap.size with hb|hb
 ·exact hb
 ·simp[cb hb]at h
def jt{w:World}{o:Obj}{k:Nat}{x:Obj}(h:w.heap[k]? = some x):(w.heap.push o)[k]? = some x:=by
 have hk:=(aI.1 h).1;rw[Array.getElem?_push_lt hk];exact(bw hk).symm.trans h
def NP{w:World}{o:Obj}{b off:Nat}{v:Value}(h:w.cell? ⟨b,off,none⟩=some v):({ w with heap:=w.heap.push o }:World).cell? ⟨b,off,none⟩=some v:=by
 have hb:=Md h;unfold World.cell? at h⊢;simp only at h⊢;rw[Array.getElem?_push_lt hb]
 rwa [bw hb]at h
def kB.push{P:Program}{g:G}{w:World}{i:Nat}{d:jP}(o:Obj)(h:kB P g w i d):kB P g { w with heap:=w.heap.push o } i d:=by
 cases d with
 |cells ds=>obtain⟨b,vs,ty,h1,h2,h3⟩:=h;exact⟨b,vs,ty,h1,jt h2,h3⟩
 |tcells ty ds=>obtain⟨b,vs,h1,h2,h3⟩:=h;exact⟨b,vs,h1,jt h2,h3⟩
 |mcells ds=>obtain⟨b,vs,ty,h1,h2,h3⟩:=h;exact⟨b,vs,ty,h1,jt h2,h3⟩
 |map l=>obtain⟨b,vs,ty,h1,h2,h3⟩:=h;exact⟨b,vs,ty,h1,jt h2,h3⟩
 |tail sz n=>
  rcases h with h|⟨b,o',cap,vs,ty,h1,h2,h3,h4,h5⟩
  ·exact .inl h
  ·exact .inr ⟨b,o',cap,vs,ty,h1,h2,jt h3,h4,h5⟩
 |loop st pe ps az bo n γ did=>obtain⟨b,db,fn,tmps,h1,h2,h3,h4,h5⟩:=h;exact⟨b,db,fn,tmps,h1,h2,h3,h4,jt h5⟩
 |defs=>obtain⟨b,h1,h2⟩:=h;exact⟨b,h1,jt h2⟩
 |iter l la=>obtain⟨b,h1,h2⟩:=h;exact⟨b,h1,h2.imp (fun ⟨a,c,d⟩=>⟨a,c,jt d⟩) (fun ⟨mb,es,c,seen,e1,r⟩=>⟨mb,es,c,seen,jt e1,r⟩)⟩
def kB.mono{P:Program}{g g':G}{w:World}{i:Nat}{d:jP}(hg:g.le g')(d8:∀sz n b o cap,d=.tail sz n->g.hist i n=some (.slice (some ⟨b,o,none⟩) n cap)->b<w.heap.size->∀j,o+n*sz<=j->g.imm b j=none->g'.imm b j=none)
  (h:kB P g w i d):kB P g' w i d:=by
 cases d with
 |cells ds=>obtain⟨b,vs,ty,h1,h2,h3⟩:=h;exact⟨b,vs,ty,hg.rho _ _ h1,h2,jE.mono hg _ h3⟩
 |tcells ty ds=>obtain⟨b,vs,h1,h2,h3⟩:=h;exact⟨b,vs,hg.rho _ _ h1,h2,jE.mono hg _ h3⟩
 |mcells ds=>obtain⟨b,vs,ty,h1,h2,h3⟩:=h;exact⟨b,vs,ty,hg.rho _ _ h1,h2,jE.mono hg _ h3⟩
 |map l=>obtain⟨b,vs,ty,h1,h2,h3⟩:=h;exact⟨b,vs,ty,hg.rho _ _ h1,h2,kO.mono hg _ h3.1,h3.2⟩
 |tail sz n=>
  rcases h with h|⟨b,o',cap,vs,ty,h1,h2,h3,h4,h5⟩
  ·exact .inl ⟨hg.hist _ _ _ h.1,h.2⟩
  ·exact .inr ⟨b,o',cap,vs,ty,hg.hist _ _ _ h1,h2,h3,h4,fun j hj=>d8 sz n b o' cap rfl h1 (aI.1 h3).1 j hj (h5 j hj)⟩
 |loop st pe ps az bo n γ did=>obtain⟨b,db,fn,tmps,h1,h2,h3,h4,h5⟩:=h;exact⟨b,db,fn,tmps,hg.rho _ _ h1,hg.rho _ _ h2,h3,h4.mono hg,h5⟩
 |defs=>obtain⟨b,h1,h2⟩:=h;exact⟨b,hg.rho _ _ h1,h2⟩
 |iter l la=>obtain⟨b,h1,h2⟩:=h;exact⟨b,hg.rho _ _ h1,h2.imp id (fun ⟨mb,es,c,seen,e1,e2,e3,e4,e5⟩=>⟨mb,es,c,seen,e1,hg.keep _ _ e2,e3,kO.mono hg _ e4,fun k v eY=>let ⟨e,st,f1,f2,f3,f4⟩:=e5 k v eY;⟨e,st,f1,f2,Rep.mono hg _ f3,Rep.mono hg _ f4⟩⟩)⟩
def Sim.blk_lt{P:Program}{g:G}{O:Sig}{w:World}(hs:Sim P g O w){i b:Nat}(h:blk g O i=some b):b<w.heap.size:=by
 unfold blk at h;split at h
 ·cases h
 ·rename_i sz n hi;rcases hs.obj _ _ hi with⟨h1,_⟩|⟨b',o',cap,vs,ty,h1,h2,h3,_⟩
  ·rw[h1]at h;cases h
  ·rw[h1]at h;cases h;exact(aI.1 h3).1
 ·rename_i o hn hi;have ho:=hs.obj _ _ hi;cases o with
  |tail sz n=>exact(hn sz n rfl).elim
  |cells ds=>obtain⟨b',vs,ty,h1,h2,_⟩:=ho;rw[h]at h1;cases h1;exact(aI.1 h2).1
  |tcells ty ds=>obtain⟨b',vs,h1,h2,_⟩:=ho;rw[h]at h1;cases h1;exact(aI.1 h2).1
  |mcells ds=>obtain⟨b',vs,ty,h1,h2,_⟩:=ho;rw[h]at h1;cases h1;exact(aI.1 h2).1
  |map ds=>obtain⟨b',vs,ty,h1,h2,_⟩:=ho;rw[h]at h1;cases h1;exact(aI.1 h2).1
  |loop st pe ps az bo n γ did=>obtain⟨b',_,_,_,h1,_,_,_,h2⟩:=ho;rw[h]at h1;cases h1;exact(aI.1 h2).1
  |defs=>obtain⟨b',h1,h2⟩:=ho;rw[h]at h1;cases h1;exact(aI.1 h2).1
  |iter l la=>
   obtain⟨b',h1,h2⟩:=ho;rw[h]at h1;cases h1;rcases h2 with⟨_,_,h2⟩|⟨_,_,_,_,h2,_⟩<;>exact(aI.1 h2).1
def G.addImm(g:G)(b:Nat)(vs:List Value):G:={ g with imm:=fun b' o=>if b'=b then vs[o]? else g.imm b' o }
def G.addImm_le{P:Program}{g:G}{O:Sig}{w:World}(hs:Sim P g O w)(vs:List Value):g.le (g.addImm w.heap.size vs):=
 {imm:=fun b o v h=>by
   have:=Md (hs.imm _ _ _ h)
   simp only[G.addImm]
   rw[aE j0];exact h
  rho:=fun _ _ h=>h,hist:=fun _ _ _ h=>h,keep:=fun _ _ h=>h,io:=rfl }
def Sim.addImm{P:Program}{g:G}{O:Sig}{w:World}(hs:Sim P g O w)(vs:List Value)(ty:TypeId)(fz:Nat×Nat):
  Sim P (g.addImm w.heap.size vs) O { w with heap:=w.heap.push (.cells vs.toArray ty fz) } where
 imm:=fun b o v h=>by
  simp only[G.addImm]at h
  by_cases hb:b=w.heap.size
  ·rw[aG hb]at h;subst hb;simp only[World.cell?, dp];simpa using h
  ·rw[aE hb]at h;exact NP (hs.imm _ _ _ h)
 keep:=fun k o h=>jt (hs.keep k o h)
 obj:=fun i o h=>((hs.obj i o h).mono (G.addImm_le hs vs) (by
  intro sz n b o cap _ _ b8 j _ hj
  simp only[G.addImm];rw[aE j0];exact hj)).push _
 inj:=fun i j b h k=>hs.inj i j b h k
 free:=fun i b h=>by
  have b8:=hs.blk_lt h;obtain⟨h1,h2⟩:=hs.free i b h;exact⟨h1,fun ht o=>by simp only[G.addImm];rw[aE j0];exact h2 ht o⟩
 htop:=hs.htop
 hdom:=hs.hdom
 io:=hs.io
 tab:=hs.tab
 fin:=hs.fin
def GY{g:G}{b:Nat}{vs:List Value}{ds:eO}(h:jE g ds vs)(b7:g.le (g.addImm b vs)):ju (g.addImm b vs) b 0 ds:=by
 have key:∀(ds:eO) (ws:List Value) (k:Nat),jE g ds ws->(∀j x,ws[j]? = some x->vs[k+j]? = some x)->ju (g.addImm b vs) b k ds:=by
  intro ds
  induction ds with
  |nil=>intro ws k _ _;simp[ju]
  | cons d ds ih =>
   intro ws k hr hw;obtain⟨v,r,rfl,h1,h2⟩:=hr;refine⟨⟨v,?_,Rep.mono b7 _ h1⟩,ih r (k+1) h2 fun j x hx=>?_⟩
   ·have:=hw 0 v rfl;simpa[G.addImm] using this
   ·have:=hw (j+1) x (by simpa using hx)
    rwa [show k+(j+1)=k+1+j by omega]at this
 exact key ds vs 0 h fun j x hx=>by simpa using hx
def D.told:D->Bool
 |.any=>false
 |_=>true
def FV{g:G}{d:D}{v:Value}(h:Rep g d v)(ht:d.told=true):jE g d.cells v.cells.toList:=by
 cases d<;>simp only[D.told]at ht<;>try cases ht
 case agg cs=>obtain⟨vs,rfl,hr⟩:=h;simpa[D.cells,Value.cells] using hr
 case bool=>cases h;exact⟨_,_,rfl,rfl,rfl⟩
 case int=>cases h;exact⟨_,_,rfl,rfl,rfl⟩
 case str=>cases h;exact⟨_,_,rfl,rfl,rfl⟩
 case tup cs=>obtain⟨vs,rfl,hr⟩:=h;exact⟨_,_,rfl,⟨vs,rfl,hr⟩,rfl⟩
 case aq=>cases h;exact⟨_,_,rfl,rfl,rfl⟩
 case ak=>obtain⟨b,o,rfl,hr⟩:=h;exact⟨_,_,rfl,⟨b,o,rfl,hr⟩,rfl⟩
 case ptr=>obtain⟨b,hb,rfl⟩:=h;exact⟨_,_,rfl,⟨b,hb,rfl⟩,rfl⟩
 case aj=>cases h;exact⟨_,_,rfl,rfl,rfl⟩
 case slice=>obtain⟨a,cap,rfl,hr⟩:=h;exact⟨_,_,rfl,⟨a,cap,rfl,hr⟩,rfl⟩
 case am=>obtain⟨b,hb,rfl⟩:=h;exact⟨_,_,rfl,⟨b,hb,rfl⟩,rfl⟩
 case map=>obtain⟨b,hb,rfl⟩:=h;exact⟨_,_,rfl,⟨b,hb,rfl⟩,rfl⟩
 case nilmap=>cases h;exact⟨_,_,rfl,rfl,rfl⟩
 case cmap=>obtain⟨b,es,c,rfl,hr⟩:=h;exact⟨_,_,rfl,⟨b,es,c,rfl,hr⟩,rfl⟩
 case func=>obtain⟨fs,cs,rfl,hr⟩:=h;exact⟨_,_,rfl,⟨fs,cs,rfl,hr⟩,rfl⟩
 case yld=>obtain⟨b,hb,rfl⟩:=h;exact⟨_,_,rfl,⟨b,hb,rfl⟩,rfl⟩
 case ap=>cases h;exact⟨_,_,rfl,rfl,rfl⟩
 case iface=>obtain⟨x,rfl,hr⟩:=h;exact⟨_,_,rfl,⟨x,rfl,hr⟩,rfl⟩
 case niliface=>cases h;exact⟨_,_,rfl,rfl,rfl⟩
 case obj=>obtain⟨b,hb,rfl⟩:=h;exact⟨_,_,rfl,⟨b,hb,rfl⟩,rfl⟩
def D5{P:Program}(ty:TypeId)(cells:Array Value)(w:World):
  (newRow ty cells).run P w=.ok ⟨w.heap.size,0,none⟩ { w with heap:=w.heap.push (.cells cells ty) }:=by
 simp[newRow,newObj,Sem.run]
def XD{P:Program}{g:G}{O:Sig}{w:World}(hs:Sim P g O w){d:D}{v:Value}(h:Rep g d v)(ht:d.told=true)(ty:TypeId):
  PRun P g O (.ak d.cells 0) (Instr.box ty v) w:=by
 have hr:=FV h ht;refine⟨g.addImm w.heap.size v.cells.toList,_,.pointer (some ⟨w.heap.size,0,none⟩),?_,G.addImm_le hs _,hs.addImm v.cells.toList ty (0,0),w.heap.size,0,rfl,GY hr (G.addImm_le hs _)⟩;simp[Instr.box,newVar,D5,aP]
def binD:BinOp->D->D->Option D
 |.add,.int k a,.int k' b=>if k=k' then some (.int k (k.wrap (a+b))) else none
 |.sub,.int k a,.int k' b=>if k=k' then some (.int k (k.wrap (a-b))) else none
 |.mul,.int k a,.int k' b=>if k=k' then some (.int k (k.wrap (a*b))) else none
 |.quo,.int k a,.int k' b=>if k=k'/\b≠0 then some (.int k (k.wrap (a.tdiv b))) else none
 |.rem,.int k a,.int k' b=>if k=k'/\b≠0 then some (.int k (a.tmod b)) else none
 |.and,.int k a,.int k' b=>if k=k' then some (.int k (k.wrap ((BitVec.ofInt k.bits a &&& BitVec.ofInt k.bits b).toNat))) else none
 |.or,.int k a,.int k' b=>if k=k' then some (.int k (k.wrap ((BitVec.ofInt k.bits a ||| BitVec.ofInt k.bits b).toNat))) else none
 |.xor,.int k a,.int k' b=>if k=k' then some (.int k (k.wrap ((BitVec.ofInt k.bits a ^^^ BitVec.ofInt k.bits b).toNat))) else none
 |.andNot,.int k a,.int k' b=>if k=k' then some (.int k (k.wrap ((BitVec.ofInt k.bits a &&& ~~~ BitVec.ofInt k.bits b).toNat))) else none
 |.shl,.int k a,.int _ b=>if 0<=b then some (.int k (k.wrap (a*2 ^ (min b.toNat k.bits)))) else none
 |.shr,.int k a,.int _ b=>if 0<=b then some (.int k (a.fdiv (2 ^ (min b.toNat k.bits)))) else none
 |.eql,.int k a,.int k' b=>if k=k' then some (.bool (a==b)) else none
 |.neq,.int k a,.int k' b=>if k=k' then some (.bool (a != b)) else none
 |.lss,.int k a,.int k' b=>if k=k' then some (.bool (decide (a<b))) else none
 |.leq,.int k a,.int k' b=>if k=k' then some (.bool (decide (a<=b))) else none
 |.gtr,.int k a,.int k' b=>if k=k' then some (.bool (decide (a>b))) else none
 |.geq,.int k a,.int k' b=>if k=k' then some (.bool (decide (a>=b))) else none
 |.eql,.str a,.str b=>some (.bool (a==b))
 |.neq,.str a,.str b=>some (.bool (a != b))
 |.add,.str a,.str b=>if a.length+b.length<=9223372036854775807 then some (.str (a++b)) else none
 |.lss,.str a,.str b=>some (.bool (Op.bytesLess a b))
 |_,_,_=>none
def Qe{P:Program}{a b:List UInt8}(h:a.length+b.length<=9223372036854775807)(w:World):
  (Op.stringOp .add ⟨a.toArray⟩ ⟨b.toArray⟩).run P w=.ok (.string ⟨(a++b).toArray⟩) w:=by
 have hm:IntKind.max .i64=9223372036854775807:=by decide
 have e1:(ByteArray.mk a.toArray).size=a.length:=by simp[ByteArray.size]
 have e2:(ByteArray.mk b.toArray).size=b.length:=by simp[ByteArray.size]
 have hn:¬(((ByteArray.mk a.toArray).size+(ByteArray.mk b.toArray).size:Nat):Int)>IntKind.max .i64:=by rw[hm,e1,e2];omega
 simp only[Op.stringOp,hn,bc]
 have:(ByteArray.mk a.toArray)++(ByteArray.mk b.toArray)=ByteArray.mk (a++b).toArray:=by
  rw[ByteArray.ext_iff];simp
 rw[this];rfl
def VD{P:Program}{op:BinOp}{t:TypeId}{x y d:D}{g:G}{v u:Value}(h:binD op x y=some d)(hx:Rep g x v)(hy:Rep g y u)(o1 o2:Operand)(w:World):
  ∃r,(do eqGuard op t o1 o2 v u;binOp op t v u:Sem Value).run P w=.ok r w/\Rep g d r:=by
 unfold binD at h;split at h<;>(try split at h)<;>(try (cases h;done))<;>cases h<;>cases hx<;>cases hy
 all_goals refine⟨_,?_,rfl⟩
 all_goals first
  |(rename_i hk;subst hk;simp[eqGuard,binOp,Op.intArith,Op.intBits,Op.intCmp,Sem.run];done)
  |(rename_i hk;obtain⟨hk,hb⟩:=hk;subst hk;simp[eqGuard,binOp,Op.intDiv,hb,Sem.run];done)
  |(rename_i hb;simp[eqGuard,binOp,Op.shift,Int.not_lt.2 hb,Sem.run];done)
  |(rename_i hb;simp only[eqGuard,binOp,aP];exact Qe hb w)
  |(simp[eqGuard,binOp,Op.stringOp,Sem.run,ByteArray.toList_mk];done)
  |(simp[eqGuard,binOp,Op.stringOp,Sem.run,ByteArray.toList_mk,bne];done)
def H3:TyK->Bool
 |.iface=>true
 |_=>false
def A2:TyK->Bool
 |.other=>true
 |_=>false
def Ai{i:Ty}(h:A2 i.k=false):i.k≠.other:=by
 intro e;rw[e]at h;cases h
def LS(ty:Ty)(cs:eO)(off:Nat):Option D:=
 if ty.agg then(if off+ty.size<=cs.length then some (.agg ((cs.drop off).take ty.size)) else none) else cs[off]?
def kx:D->Nat->Option D
 |.ak cs o,n=>some (.ak cs (o+n))
 |.ptr i o,n=>some (.ptr i (o+n))
 |_,_=>none
def Oi:D->D->D->Option D
 |.bool t,x,y=>some (if t then x else y)
 |_,_,_=>none
def nilD:D->Option D
 |.ak cs o=>some (.ak cs o)
 |.ptr i o=>some (.ptr i o)
 |.func (.func f) a b=>some (.func (.func f) a b)
 |.iface t d=>some (.iface t d)
 |_=>none
def unD:UnOp->D->Option D
 |.not,.bool b=>some (.bool (!b))
 |.neg,.int k n=>some (.int k (k.wrap (0-n)))
 |_,_=>none
def Vp:Bool->TyK->D->Option D
 |false,.int k,.int _ n=>some (.int k (k.wrap n))
 |_,_,_=>none
def Ee(tab:Nat->Ty)(f:Nat)(x:D):TyK->Option D
 |.struct fs=>match fs[f]? with
  |some (off,ft)=>if A2 (tab ft).k||(tab ft).size==0 then none else kx x off
  |none=>none
 |_=>none
def N2(tab:Nat->Ty)(f:Nat):TyK->D->Option D
 |.struct fs,.agg cs=>match fs[f]? with
  |some (off,ft)=>if A2 (tab ft).k then none else LS (tab ft) cs off
  |none=>none
 |_,_=>none
def D7(tab:Nat->Ty):TyK->D->D->Option D
 | .slice e, .slice es _, .int _ n =>
  if A2 (tab e).k then none else
  if 0<=n then match es[n.toNat]? with
   |some c=>if c.length=(tab e).size then some (.ak c 0) else none
   |none=>none
  else none
 |.slice e,.am id off len _,.int _ n=>
  if A2 (tab e).k then none else if 0<=n/\n.toNat<len then some (.ptr id (off+n.toNat*(tab e).size)) else none
 |.array len e,x,.int _ n=>
  if A2 (tab e).k then none else if 0<=n/\n.toNat<len then kx x (n.toNat*(tab e).size) else none
 |_,_,_=>none
def SS:TyK->D->D->Option D
 |.str,.str s,.int _ n=>if 0<=n then(s[n.toNat]?).map fun b=>.int .u8 b.toNat else none
 |_,_,_=>none
def HM(i:Nat):D->Option D
 |.tup ds=>ds[i]?
 |_=>none
def Il(tab:Nat->Ty)(γ:Fr)(len:Nat)(parts:List (Nat×Operand)):TyK->Option D
 | .slice e =>
  if A2 (tab e).k then none else
  if parts.map (·.1)==List.range len&&len*(tab e).size<=16777216&&parts.all (fun p=>(ev γ p.2).told&&(ev γ p.2).cells.length==(tab e).size) then
   some (.slice (parts.map fun p=>(ev γ p.2).cells) .clip) else none
 |_=>none
def lenD:TyK->D->Option D
 |.slice _,.slice es _=>some (.int .i64 es.length)
 |.slice _,.aj=>some (.int .i64 0)
 |.slice _,.am _ _ len _=>some (.int .i64 len)
 |.str,.str s=>some (.int .i64 s.length)
 |_,_=>none
def lenC(tab:Nat->Ty)(γ:Fr):List TypeId->List Operand->Option D
 |[t],[x]=>lenD (tab t).k (ev γ x)
 |_,_=>none
def boxD(d:D):Option D:=if d.told then some (.ak d.cells 0) else none
def Sy(ty:Ty)(t:TypeId)(d:D):Option D:=if A2 ty.k||H3 ty.k then none else some (.iface t d)
def Kj(ty:Ty)(O:Sig)(d:D):Option D:=if A2 ty.k then none else Kk ty O d
def dop(tab:Nat->Ty)(γ:Fr)(O:Sig):Op->Option D
 |.move x|.assign x=>some (ev γ x)
 |.pick c a b=>Oi (ev γ c) (ev γ a) (ev γ b)
 |.box _ v=>boxD (ev γ v)
 |.load t a=>Kj (tab t) O (ev γ a)
 |.nilCheck x=>nilD (ev γ x)
 |.binOp op _ x y _=>binD op (ev γ x) (ev γ y)
 |.unOp op _ x=>unD op (ev γ x)
 |.convert s t x=>Vp (A2 (tab s).k) (tab t).k (ev γ x)
 |.makeInterface t x=>Sy (tab t) t (ev γ x)
 |.makeFunc fn first cap=>some (.func fn (first.toList.map (ev γ)) (cap.toList.map (ev γ)))
 |.fieldAddr s x f=>Ee tab f (ev γ x) (tab s).k
 |.field s x f=>N2 tab f (tab s).k (ev γ x)
 |.indexAddr t x i=>D7 tab (tab t).k (ev γ x) (ev γ i)
 |.index t x i=>SS (tab t).k (ev γ x) (ev γ i)
 |.extract x i=>HM i (ev γ x)
 |.buildSlice t len parts=>Il tab γ len parts.toList (tab t).k
 |.call { callee:=.builtin .len,args,argTypes }=>lenC tab γ argTypes.toList args.toList
 |_=>none
section ops
variable {P:Program}{tab:Nat->Ty}(ht:AZ P tab)
include ht
theorem FO{t:Nat}{k:TyK}(h:(tab t).k=k)(hk:k≠.other): ∃desc,P.underlying t=some desc/\KOK desc k:=by
 obtain⟨inf,desc,z,h1,h2,h3,_⟩:=Cx (ht t) (by rw[h];exact hk);exact⟨desc,h2,h ▸ h3⟩
theorem AR{t e:Nat}(h:(tab t).k=.slice e):P.underlying t=some (.slice e):=by
 obtain⟨desc,h1,h2⟩:=FO ht h j1;cases desc<;>simp[KOK]at h2;subst h2;exact h1
theorem Hd{t n e:Nat}(h:(tab t).k=.array n e):P.underlying t=some (.array n e):=by
 obtain⟨desc,h1,h2⟩:=FO ht h j1;cases desc<;>simp[KOK]at h2;obtain⟨rfl,rfl⟩:=h2;exact h1
theorem O6{t:Nat}{k:IntKind}(h:(tab t).k=.int k):P.underlying t=some (.int k):=by
 obtain⟨desc,h1,h2⟩:=FO ht h j1;cases desc<;>simp[KOK]at h2;subst h2;exact h1
theorem J8{t:Nat}(h:(tab t).k=.str):P.underlying t=some .string:=by
 obtain⟨desc,h1,h2⟩:=FO ht h j1;cases desc<;>simp[KOK]at h2;exact h1
theorem J9{t k e:Nat}(h:(tab t).k=.map k e):P.underlying t=some (.map k e):=by
 obtain⟨desc,h1,h2⟩:=FO ht h j1;cases desc<;>simp[KOK]at h2;obtain⟨rfl,rfl⟩:=h2;exact h1
theorem HZ{t:Nat}{fs:List (Nat×Nat)}(h:(tab t).k=.struct fs): ∃l,P.underlying t=some (.struct l)/\l.toList.map (fun f=>(f.offset,f.type))=fs:=by
 obtain⟨desc,h1,h2⟩:=FO ht h j1;cases desc<;>simp[KOK]at h2;exact⟨_,h1,by simpa using h2⟩
theorem GN{f:Field}{b o:Nat}(h1:A2 (tab f.type).k=false)(h2:(tab f.type).size≠0)(w:World):
  (fieldPlace ⟨b,o,none⟩ f).run P w=.ok ⟨b,o+f.offset,none⟩ w:=by
 simp only[fieldPlace,aP,AK (ht _) (Ai h1),aJ,h2,bc,bi,BQ]
theorem jn.get{g:G}{b sz:Nat}: ∀{es:eR}{o j:Nat}{c:eO},jn g b sz o es->es[j]? = some c->c.length=sz/\ju g b (o+j*sz) c
 |[],_,_,_,_,h=>by simp at h
 |x::es,o,0,c,h,e=>by simp at e;subst e;simpa using h.1
 |x::es,o,j+1,c,h,e=>by
  have:=jn.get (o:=o+sz) h.2 (by simpa using e)
  rwa [show o+sz+j*sz=o+(j+1)*sz by rw[cp];omega]at this
end ops
end Go.DL
