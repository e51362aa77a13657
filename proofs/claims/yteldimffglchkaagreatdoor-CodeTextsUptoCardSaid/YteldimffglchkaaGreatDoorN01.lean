/- A part of the proof. -/
import Derived.CallsIn
import Derived.Laws.Sem
import GoSem.Claims
import Derived.TacticsIn
import Derived.Laws.Strings
set_option linter.all false
namespace Go.DL
open Go
theorem tdR{α:Sort _}{a b:α}(h:a=b:=by with_unfolding_all rfl):a=b:=h
abbrev cv(fop:Operand)(args:Array Operand)(ats:Array TypeId):Op:=.call { callee:=.value fop,args,argTypes:=ats }
abbrev cA(s x:Operand)(T S:TypeId):Op:=.call { callee:=.builtin .append,args:= #[s,x],argTypes:= #[T,S] }
inductive Own where
 |no
 |clip
 |tag (id:Nat)
 deriving DecidableEq,Inhabited
inductive D where
 |any
 |bool (b:Bool)
 |int (k:IntKind) (n:Int)
 |str (s:List UInt8)
 |agg (cs:List D)
 |tup (cs:List D)
 |nilp
 |cptr (cells:List D) (off:Nat)
 |ptr (id off:Nat)
 |nils
 |slice (es:List (List D)) (own:Own)
 |sref (id off len cap:Nat)
 |map (id:Nat)
 |nilmap
 |cmap (ks vs:List D)
 |func (fn:Fn) (first cap:List D)
 |yld (id:Nat)
 |nilf
 |iface (t:TypeId) (d:D)
 |niliface
 |obj (id:Nat)
 deriving Inhabited
abbrev Fr:=List (Nat×D)
def D.cells:D->List D
 |.agg cs=>cs
 |d=>[d]
structure G where
 imm:Nat->Nat->Option Value
 rho:Nat->Option Nat
 hist:Nat->Nat->Option Value
 keep:Nat->Option Obj
 io:Os×Array (Nat×ByteArray)
structure G.le(g g':G):Prop where
 imm:∀b o v,g.imm b o=some v->g'.imm b o=some v
 rho:∀i b,g.rho i=some b->g'.rho i=some b
 hist:∀i n v,g.hist i n=some v->g'.hist i n=some v
 keep:∀b o,g.keep b=some o->g'.keep b=some o
 io:g'.io=g.io
theorem G.le.refl(g:G):g.le g:=⟨fun _ _ _ h=>h,fun _ _ h=>h,fun _ _ _ h=>h,fun _ _ h=>h,rfl⟩
theorem G.le.trans{a b c:G}(h:a.le b)(k:b.le c):a.le c:=
 ⟨fun _ _ _ x=>k.imm _ _ _ (h.imm _ _ _ x),fun _ _ x=>k.rho _ _ (h.rho _ _ x),fun _ _ _ x=>k.hist _ _ _ (h.hist _ _ _ x),fun _ _ x=>k.keep _ _ (h.keep _ _ x),k.io.trans h.io⟩
def Stamps(c:Nat)(es:List MapEntry):Prop:=(es.map (·.born)).Nodup /\ ∀e∈es,e.born<c
mutual
def Rep (g:G):D->Value->Prop
 |.any,_=>True
 |.bool b,v=>v=.bool b
 |.int k n,v=>v=.int k n
 |.str s,v=>v=.string ⟨s.toArray⟩
 |.agg cs,v=> ∃vs:List Value,v=.agg vs.toArray/\RepL g cs vs
 |.tup cs,v=> ∃vs:List Value,v=.tuple vs.toArray/\RepL g cs vs
 |.nilp,v=>v=.pointer none
 |.cptr cs off,v=> ∃b o,v=.pointer (some ⟨b,o+off,none⟩)/\RepI g b o cs
 |.ptr id off,v=> ∃b,g.rho id=some b/\v=.pointer (some ⟨b,off,none⟩)
 |.nils,v=>v=.slice none 0 0
 | .slice es own,v => ∃ a cap,v = .slice a es.length cap/\es.length<=cap /\
   (es=[] \/ ∃sz b o,a=some ⟨b,o,none⟩/\RepE g b sz o es) /\
   (match own with
    |.no=>True
    |.clip=>cap=es.length
    |.tag id=>g.hist id es.length=some v)
 |.sref id off len cap,v=> ∃b,g.rho id=some b/\v=.slice (some ⟨b,off,none⟩) len cap
 |.map id,v=> ∃b,g.rho id=some b/\v=.map (some b)
 |.nilmap,v=>v=.map none
 |.cmap ks vs,v=> ∃b es clock,v=.map (some b)/\g.keep b=some (.map es clock)/\Stamps clock es.toList/\RepL g ks (es.toList.map (·.key))/\RepL g vs (es.toList.map (·.val))
 |.func fn first cap,v=> ∃fs cs:List Value,v=.func fn fs.toArray cs.toArray/\RepL g first fs/\RepL g cap cs
 |.yld id,v=> ∃b,g.rho id=some b/\v=.func (.yield b) #[] #[]
 |.nilf,v=>v=.nilFunc
 |.iface t d,v=> ∃x,v=.iface t x/\Rep g d x
 |.niliface,v=>v=.nilIface
 |.obj id,v=> ∃b,g.rho id=some b/\v=.pointer (some ⟨b,0,none⟩)
def RepL(g:G):List D->List Value->Prop
 |[],vs=>vs=[]
 |d::ds,vs=> ∃v r,vs=v::r/\Rep g d v/\RepL g ds r
def RepI(g:G)(b:Nat):Nat->List D->Prop
 |_,[]=>True
 |o,d::ds=>(∃v,g.imm b o=some v/\Rep g d v)/\RepI g b (o+1) ds
def RepE(g:G)(b sz:Nat):Nat->List (List D)->Prop
 |_,[]=>True
 |o,e::es=>(e.length=sz/\RepI g b o e)/\RepE g b sz (o+sz) es
end
section mono
variable {g g':G}(h:g.le g')
include h
mutual
theorem Rep.mono: ∀(d:D) {v:Value},Rep g d v->Rep g' d v
 |.any,_=>fun _=>trivial
 |.bool b,v=>fun x=>x
 |.int k n,v=>fun x=>x
 |.str s,v=>fun x=>x
 |.agg cs,v=>fun ⟨vs,e,r⟩=>⟨vs,e,RepL.mono cs r⟩
 |.tup cs,v=>fun ⟨vs,e,r⟩=>⟨vs,e,RepL.mono cs r⟩
 |.nilp,v=>fun x=>x
 |.cptr cs off,v=>fun ⟨b,o,e,r⟩=>⟨b,o,e,RepI.mono cs r⟩
 |.ptr id off,v=>fun ⟨b,e,r⟩=>⟨b,h.rho _ _ e,r⟩
 |.nils,v=>fun x=>x
 | .slice es own,v=>fun ⟨a,cap,e,hc,r,ho⟩=>⟨a,cap,e,hc,(match r with
   |.inl r=>.inl r
   |.inr ⟨sz,b,o,ha,r⟩=>.inr ⟨sz,b,o,ha,RepE.mono es r⟩),(match own,ho with
   |.no,_=>trivial
   |.clip,ho=>ho
   |.tag id,ho=>h.hist _ _ _ ho)⟩
 |.sref id off len cap,v=>fun ⟨b,e,r⟩=>⟨b,h.rho _ _ e,r⟩
 |.map id,v=>fun ⟨b,e,r⟩=>⟨b,h.rho _ _ e,r⟩
 |.nilmap,v=>fun x=>x
 |.cmap ks vs,v=>fun ⟨b,es,c,e,hk,hs,r1,r2⟩=>⟨b,es,c,e,h.keep _ _ hk,hs,RepL.mono ks r1,RepL.mono vs r2⟩
 |.func fn first cap,v=>fun ⟨fs,cs,e,r1,r2⟩=>⟨fs,cs,e,RepL.mono first r1,RepL.mono cap r2⟩
 |.yld id,v=>fun ⟨b,e,r⟩=>⟨b,h.rho _ _ e,r⟩
 |.nilf,v=>fun x=>x
 |.iface t d,v=>fun ⟨x,e,r⟩=>⟨x,e,Rep.mono d r⟩
 |.niliface,v=>fun x=>x
 |.obj id,v=>fun ⟨b,e,r⟩=>⟨b,h.rho _ _ e,r⟩
theorem RepL.mono: ∀(ds:List D) {vs:List Value},RepL g ds vs->RepL g' ds vs
 |[],_=>fun x=>x
 |d::ds,_=>fun ⟨v,r,e,h1,h2⟩=>⟨v,r,e,Rep.mono d h1,RepL.mono ds h2⟩
theorem RepI.mono: ∀(ds:List D) {b o:Nat},RepI g b o ds->RepI g' b o ds
 |[],_,_=>fun _=>trivial
 |d::ds,_,_=>fun ⟨⟨v,h1,h3⟩,h4⟩=>⟨⟨v,h.imm _ _ _ h1,Rep.mono d h3⟩,RepI.mono ds h4⟩
theorem RepE.mono: ∀(es:List (List D)) {b sz o:Nat},RepE g b sz o es->RepE g' b sz o es
 |[],_,_,_=>fun _=>trivial
 |e::es,_,_,_=>fun ⟨⟨h1,h2⟩,h3⟩=>⟨⟨h1,RepI.mono e h2⟩,RepE.mono es h3⟩
end
end mono
inductive DObj where
 |cells (ds:List D)
 |map (es:List (D×D))
 |tail (sz n:Nat)
 |loop (st:LoopState) (pend:Option Code) (ps:Array Tmp) (assign body:Code) (n:Nat) (γ:Fr) (did:Nat)
 |defs
 |iter (left:List (D×D)) (last:Option (D×D))
 |tcells (ty:Nat) (ds:List D)
 |mcells (ds:List D)
 deriving Inhabited
inductive DDf where
 |coll (id:Nat)
 |fn (f:Nat) (args cap:List D)
abbrev Sig:=Nat->Option DObj
def Sig.set(O:Sig)(i:Nat)(o:DObj):Sig:=fun j=>if j=i then some o else O j
def Sig.del(O:Sig)(i:Nat):Sig:=fun j=>if j=i then none else O j
def getD(γ:Fr)(t:Nat):D:=(γ.lookup t).getD .any
structure St where
 γ:Fr
 O:Sig
 df:List DDf:=[]
def RepM(g:G):List (D×D)->List MapEntry->Prop
 |[],es=>es=[]
 |(k,d)::r,es=> ∃e rest,es=e::rest/\Rep g k e.key/\Rep g d e.val/\RepM g r rest
theorem RepM.mono{g g':G}(h:g.le g'): ∀(l:List (D×D)) {es:List MapEntry},RepM g l es->RepM g' l es
 |[],_=>fun x=>x
 |(_,_)::r,_=>fun ⟨e,rest,h1,h2,h3,h4⟩=>⟨e,rest,h1,Rep.mono h _ h2,Rep.mono h _ h3,RepM.mono h r h4⟩
def blk(g:G)(O:Sig)(i:Nat):Option Nat:=
 match O i with
 |none=>none
 |some (.tail _ n)=>match g.hist i n with
  |some (.slice (some a) _ _)=>some a.block
  |_=>none
 |some _=>g.rho i
def RepT(g:G)(γ:Fr)(n:Nat)(tmps:Array Value):Prop:=
 tmps.size=n /\ ∀t,Rep g (getD γ t) (tmps.getD t undef)
def ObjRep (P:Program) (g:G) (w:World) (i:Nat):DObj->Prop
 |.cells ds=> ∃b vs ty,g.rho i=some b/\w.heap[b]? = some (.cells vs ty (0,0))/\RepL g ds vs.toList
 |.tcells ty ds=> ∃b vs,g.rho i=some b/\w.heap[b]? = some (.cells vs ty (0,0))/\RepL g ds vs.toList
 |.mcells ds=> ∃b vs ty,g.rho i=some b/\w.heap[b]? = some (.cells vs ty (vs.size,vs.size+1))/\RepL g ds vs.toList
 |.map l=> ∃b es clock,g.rho i=some b/\w.heap[b]? = some (.map es clock)/\RepM g l es.toList/\Stamps clock es.toList
 | .tail sz n=>(g.hist i n=some (.slice none 0 0)/\n=0) \/
   ∃b o cap vs ty,g.hist i n=some (.slice (some ⟨b,o,none⟩) n cap)/\n<=cap/\w.heap[b]? = some (.cells vs ty (0,0)) /\
    o+cap*sz<=vs.size /\ ∀j,o+n*sz<=j->g.imm b j=none
 | .loop st pend ps assign body n γ did => ∃ b db fn tmps,g.rho i=some b/\g.rho did=some db/\fn < P.funcs.size/\RepT g γ n tmps /\
   w.heap[b]? = some (.loop { state:=st,pending:=pend,fn,tmps,params:=ps,assign,body,defers:=db })
 |.defs=> ∃b,g.rho i=some b/\w.heap[b]? = some (.deferred (some []))
 | .iter left last => ∃ b,g.rho i=some b/\((left=[]/\last=none/\w.heap[b]? = some (.mapIter none 0 #[] 0)) \/ ∃ mb es clock seen,w.heap[b]? = some (.mapIter (some mb) clock seen clock)/\g.keep mb=some (.map es clock)/\Stamps clock es.toList /\
   RepM g left (es.toList.filter fun e=> !seen.contains e.born) /\ ∀k v,last=some (k,v)->∃e st,seen.back? = some st/\es.find? (fun e=>e.born==st)=some e/\Rep g k e.key/\Rep g v e.val)
def DObj.isTail:DObj->Bool
 |.tail .. =>true
 |_=>false
def NF(P:Program)(w:World):Prop:=
 (∀ g, P.globalNamed "internal/bytealg.MaxLen" = some g -> ∃ m, w.cell? ⟨g, 0, none⟩ = some (.int .i64 m)) /\
 ∀ x, x = "strconv.ErrSyntax" \/ x = "strconv.ErrRange" -> ∀ g, P.globalNamed x = some g -> ∃ te pe, w.cell? ⟨g, 0, none⟩ = some (.iface te pe)
def TabsAre (P : Program) (w : World) : Prop := P.globals.size = 0 \/ (w.var? P "internal/strconv.uint64pow10" = some (((List.range 20).map fun i => ((10 ^ i : Nat) : Int)).map fun z => Value.int .u64 z).toArray /\ NF P w)
def TabK(P:Program)(g:G):Prop:= ∀w:World,(∀k o,g.keep k=some o->w.heap[k]? = some o)->TabsAre P w
theorem TabK.mono{P:Program}{g g':G}(ae:g.le g')(h:TabK P g):TabK P g':=fun w hk=>h w fun k o aA=>hk k o (ae.keep k o aA)
structure Sim(P:Program)(g:G)(O:Sig)(w:World):Prop where
 imm:∀b o v,g.imm b o=some v->w.cell? ⟨b,o,none⟩=some v
 keep:∀k o,g.keep k=some o->w.heap[k]? = some o
 obj:∀i o,O i=some o->ObjRep P g w i o
 inj:∀i j b,blk g O i=some b->blk g O j=some b->i=j
 free:∀i b,blk g O i=some b->g.keep b=none/\((∀o,O i=some o->o.isTail=false)->∀o,g.imm b o=none)
 htop:∀i sz n k,O i=some (.tail sz n)->n<k->g.hist i k=none
 hdom:∀i n v,g.hist i n=some v->(g.rho i).isSome=true
 fin:∃m, ∀i,m<=i->g.rho i=none
 io:(w.os,w.output)=g.io
 tab:TabK P g
theorem RepT.mono{g g':G}(h:g.le g'){γ:Fr}{n:Nat}{tmps:Array Value}(r:RepT g γ n tmps):RepT g' γ n tmps:=
 ⟨r.1,fun t=>Rep.mono h _ (r.2 t)⟩
inductive Ro where
 |none
 |wide
 |some (i:Nat)
structure Rx where
 rd:Option Nat:=Option.none
 wide:Bool:=false
def FX(P:Program)(r:Rx):Fence:={ fn:=fun f=>r.wide=false->f<P.funcs.size,depth:=Option.none,alive:=false,round:=r.rd }
theorem EA{P:Program}{f:Nat}(h:f<P.funcs.size)(r:Rx):(FX P r).fn f:=fun _=>h
theorem Ef(P:Program)(r:Rx)(n:Nat):(FX P r).room n:=fun _ h=>by simp[FX]at h
theorem K9{P:Program}{n f:Nat}{args:Array Value}{w:World}{R:Ending->World->Prop}(r:Rx)(h:CallsIn (FX P {}) n P f args w R):CallsIn (FX P r) n P f args w R:=by
 refine⟨fun _=>h.1 rfl,fun cs _=>?_⟩
 obtain⟨e,w',fr,h1,h2,h3,h4⟩:=h.2 cs (Ef P _ _)
 refine⟨e,w',fr,h1,?_,h3,h4⟩
 have key:∀m m',StepsIn (Machine.fenced P (FX P {})) P m m'->StepsIn (Machine.fenced P (FX P r)) P m m':=fun m m' hs=>by
  refine StepsIn.mono (fun m hm g hg=>?_) hs
  obtain⟨a1,a2,a3,a4⟩:=hm g hg
  exact⟨(fun e=>by cases e),a2.imp (fun h _=>h rfl) id,fun f hf _=>a3 f hf rfl,Ef P r _⟩
 cases e with
 |returned v=>exact key _ _ h2
 |panicked c=>exact key _ _ h2
 |outgrown=>exact h2
theorem AP{P:Program}{f:Nat}{args:Array Value}{w:World}{R:Ending->World->Prop}(h:Calls P f args w R):CallsIn (FX P { wide:=true }) 0 P f args w R:=by
 refine⟨(fun h=>by cases h),fun cs _=>?_⟩
 obtain⟨e,w',fr,h1,h2,h3,h4⟩:=(callsIn_wide.2 h:CallsIn Fence.wide 0 P f args w R).2 cs (room_wide _)
 refine⟨e,w',fr,h1,?_,h3,h4⟩
 have key:∀m m',StepsIn (Machine.fenced P Fence.wide) P m m'->StepsIn (Machine.fenced P (FX P { wide:=true })) P m m':=fun m m' hs=>by
  refine StepsIn.mono (fun m _ g _=>?_) hs
  exact⟨(fun e=>by cases e),.inl (fun h=>by cases h),(fun f _ h=>by cases h),Ef P _ _⟩
 cases e with
 |returned v=>exact key _ _ h2
 |panicked c=>exact key _ _ h2
 |outgrown=>exact h2
def RepDf(g:G):List DDf->List Deferred->Prop
 |[],l=>l=[]
 |.coll i::r,l=> ∃b rest,l={ target:=.collected b,args:= #[] }::rest/\g.rho i=some b/\RepDf g r rest
 |.fn f args cap::r,l=> ∃az cs rest,l={ target:=.fn (.func f) cs.toArray,args:=az.toArray }::rest/\RepL g args az/\RepL g cap cs/\RepDf g r rest
theorem RepDf.mono{g g':G}(h:g.le g'): ∀(l:List DDf) {ds:List Deferred},RepDf g l ds->RepDf g' l ds
 |[],_=>fun x=>x
 |.coll _::r,_=>fun ⟨b,rest,h1,h2,h3⟩=>⟨b,rest,h1,h.rho _ _ h2,RepDf.mono h r h3⟩
 |.fn _ _ _::r,_=>fun ⟨az,cs,rest,h1,h2,h3,h4⟩=>⟨az,cs,rest,h1,RepL.mono h _ h2,RepL.mono h _ h3,RepDf.mono h r h4⟩
structure SimS(P:Program)(g:G)(n:Nat)(s:St)(a:Act)(w:World):Prop where
 sim:Sim P g s.O w
 tmps:RepT g s.γ n a.tmps
 df:RepDf g s.df a.defers
inductive DX where
 |normal
 |exit (id:Nat)
 |ret
 |panic (d:D)
def XRep(g:G):DX->Exit->Prop
 |.normal,e=>e=.normal
 |.exit id,e=>e=.exit id
 |.ret,e=>e=.ret
 |.panic d,e=> ∃v,e=.panic [{ v,recovered:=false }]/\Rep g d v
theorem XRep.mono{g g':G}(h:g.le g'){x:DX}{e:Exit}(r:XRep g x e):XRep g' x e:=by
 cases x with
 |panic d=>obtain⟨v,h1,h2⟩:=r;exact⟨v,h1,Rep.mono h _ h2⟩
 |_=>exact r
def Post(P:Program)(g:G)(n:Nat)(Q:DX->St->Prop)(e:Exit)(a:Act)(w:World):Prop:=
 ∃g' s' x,g.le g'/\SimS P g' n s' a w/\XRep g' x e/\Q x s'
theorem Post.le{P:Program}{g g':G}{n:Nat}{Q:DX->St->Prop}{e:Exit}{a:Act}{w:World}(h:g.le g')(p:Post P g' n Q e a w):Post P g n Q e a w:=
 let ⟨g2,s',x,h1,h2⟩:=p
 ⟨g2,s',x,h.trans h1,h2⟩
def RoRep(g:G):Ro->Rx->Prop
 |.none,r=>r={}
 |.wide,r=>r={ wide:=true }
 |.some i,r=> ∃b,r={ rd:=Option.some b }/\g.rho i=Option.some b
theorem RoRep.mono{g g':G}(h:g.le g'){ro:Ro}{r:Rx}(x:RoRep g ro r):RoRep g' ro r:=by
 cases ro with
 |none=>exact x
 |wide=>exact x
 |some i=>obtain⟨b,h1,h2⟩:=x;exact⟨b,h1,h.rho _ _ h2⟩
def DWp(P:Program)(ro:Ro)(n:Nat)(c:Code)(Q:DX->St->Prop)(s:St):Prop:=
 ∀g w a r,RoRep g ro r->SimS P g n s a w->c.wpIn (FX P r) 0 P (Post P g n Q) a w
def Then(K:St->Prop)(Q:DX->St->Prop):DX->St->Prop
 |.normal,s=>K s
 |x,s=>Q x s
section
variable {P:Program}{ro:Ro}{n:Nat}{Q:DX->St->Prop}{s:St}
theorem Fj{c:Code}{Q':DX->St->Prop}(h:DWp P ro n c Q s)(hq:∀x s,Q x s->Q' x s):DWp P ro n c Q' s:=
 fun g w a r hr hs=>wpIn_mono (h g w a r hr hs) fun _ _ _ ⟨g',s',x,h1,h2,h3,h4⟩=>⟨g',s',x,h1,h2,h3,hq _ _ h4⟩
def Wk(P:Program)(n:Nat)(s s':St):Prop:= ∀g w a,SimS P g n s a w->∃g',g.le g'/\SimS P g' n s' a w
theorem Wk.refl(P:Program)(n:Nat)(s:St):Wk P n s s:=fun g _ _ h=>⟨g,.refl g,h⟩
theorem Wk.trans{s s' s'':St}(h:Wk P n s s')(k:Wk P n s' s''):Wk P n s s'':=fun g w a x=>
 let ⟨g1,l1,h1⟩:=h g w a x
 let ⟨g2,l2,h2⟩:=k g1 w a h1
 ⟨g2,l1.trans l2,h2⟩
theorem Co{c:Code}{s':St}(h:Wk P n s s')(k:DWp P ro n c Q s'):DWp P ro n c Q s:=fun g w a r hr hs=>
 let ⟨g',l,aj⟩:=h g w a hs
 wpIn_mono (k g' w a r (hr.mono l) aj) fun _ _ _ p=>p.le l
theorem KV(h:Q .normal s):DWp P ro n .skip Q s:=fun g _ _ _ _ hs=>wpIn_skip ⟨g,s,.normal,.refl g,hs,rfl,h⟩
theorem Mn{l:Nat}(h:Q .normal s):DWp P ro n (.label l) Q s:=fun g _ _ _ _ hs=>wpIn_label ⟨g,s,.normal,.refl g,hs,rfl,h⟩
theorem KW{id:Nat}(h:Q (.exit id) s):DWp P ro n (.exit id) Q s:=fun g _ _ _ _ hs=>wpIn_exit ⟨g,s,.exit id,.refl g,hs,rfl,h⟩
theorem Nq(h:Q .ret s):DWp P ro n .ret Q s:=fun g _ _ _ _ hs=>wpIn_ret ⟨g,s,.ret,.refl g,hs,rfl,h⟩
theorem IK{x y:Code}(h:DWp P ro n x (Then (DWp P ro n y Q) Q) s):DWp P ro n (.seq x y) Q s:=by
 intro g w a r hr hs
 refine wpIn_seq (wpIn_mono (h g w a r hr hs) ?_)
 rintro e a' w' ⟨g',s',x,h1,h2,h3,h4⟩
 cases x with
 |normal=>
  obtain rfl:=h3
  exact wpIn_mono (h4 g' w' a' r (hr.mono h1) h2) fun _ _ _ p=>p.le h1
 |exit id=>obtain rfl:=h3;exact⟨g',s',.exit id,h1,h2,rfl,h4⟩
 |ret=>obtain rfl:=h3;exact⟨g',s',.ret,h1,h2,rfl,h4⟩
 |panic d=>obtain⟨v,rfl,h5⟩:=h3;exact⟨g',s',.panic d,h1,h2,⟨v,rfl,h5⟩,h4⟩
def B8:Value->D
 |.bool b=>.bool b
 |.int k n=>.int k n
 |.string s=>.str s.data.toList
 |.pointer none=>.nilp
 |.slice none 0 0=>.nils
 |.map none=>.nilmap
 |.nilFunc=>.nilf
 |.nilIface=>.niliface
 |_=>.any
def ev(γ:Fr):Operand->D
 |.tmp t=>getD γ t
 |.const v=>B8 v
 |.global _=>.any
 |.func f=>.func (.func f) [] []
theorem Dk(g:G)(v:Value):Rep g (B8 v) v:=by
 unfold B8
 split<;>simp[Rep]
theorem Ah{g:G}{γ:Fr}{m:Nat}{a:Act}(h:RepT g γ m a.tmps)(x:Operand):Rep g (ev γ x) (a.eval x):=by
 cases x with
 |tmp t=>exact h.2 t
 |const v=>exact Dk g v
 |global _=>trivial
 |func f=>exact⟨[],[],rfl,rfl,rfl⟩
theorem G5{g:G}{b:Bool}{v:Value}(h:Rep g (.bool b) v):v=.bool b:=h
theorem Oy{c:Operand}{x y:Code}{t:Bool}(hc:ev s.γ c=.bool t)(ht:t=true->DWp P ro n x Q s)(hf:t=false->DWp P ro n y Q s):
  DWp P ro n (.cond c x y) Q s:=by
 intro g w a r hr hs
 have he:a.eval c=.bool t:=by have:=Ah hs.tmps c;rw[hc]at this;exact this
 cases t
 ·exact wpIn_cond he (hf rfl g w a r hr hs)
 ·exact wpIn_cond he (ht rfl g w a r hr hs)
def InB(id:Nat)(Q:DX->St->Prop):DX->St->Prop
 |.exit i,s=>if i=id then Q .normal s else Q (.exit i) s
 |x,s=>Q x s
theorem IL{id:Nat}{c:Code}(h:DWp P ro n c (InB id Q) s):DWp P ro n (.block id c) Q s:=by
 intro g w a r hr hs
 refine wpIn_block (wpIn_mono (h g w a r hr hs) ?_)
 rintro e a' w' ⟨g',s',x,h1,h2,h3,h4⟩
 cases x with
 |normal=>obtain rfl:=h3;exact⟨g',s',.normal,h1,h2,rfl,h4⟩
 | exit i =>
  obtain rfl:=h3
  by_cases hi:i=id
  ·subst hi
   simp only[InB,if_true]at h4
   simp only[Exit.inBlock,if_true]
   exact⟨g',s',.normal,h1,h2,rfl,h4⟩
  ·simp only[InB,hi,if_false]at h4
   simp only[Exit.inBlock,hi,if_false]
   exact⟨g',s',.exit i,h1,h2,rfl,h4⟩
 |ret=>obtain rfl:=h3;exact⟨g',s',.ret,h1,h2,rfl,h4⟩
 |panic d=>obtain⟨v,rfl,h5⟩:=h3;exact⟨g',s',.panic d,h1,h2,⟨v,rfl,h5⟩,h4⟩
theorem Ox{α:Type}{c:Code}(I:α->St)(μ:α->Nat)(x0:α)(h0:Wk P n s (I x0))
  (round:∀x,DWp P ro n c (Then (fun s'=> ∃x',μ x'<μ x/\Wk P n s' (I x')) Q) (I x)):DWp P ro n (.loop c) Q s:=by
 intro g w a r hr hs
 obtain⟨g0,l0,aw⟩:=h0 g w a hs
 let J:Act->World->Nat->Prop:=fun a w m=> ∃x g',g.le g'/\SimS P g' n (I x) a w/\μ x=m
 have least:∀(p:Nat->Prop),(∃m,p m)->∃m,p m /\ ∀k,p k->m<=k:=by
  intro p ⟨m,hm⟩
  induction m using Nat.strongRecOn with
  |_ m ih=>
   by_cases hk:∃k,k<m/\p k
   ·obtain⟨k,h1,h2⟩:=hk;exact ih k h1 h2
   ·exact⟨m,hm,fun k ah=>Nat.le_of_not_lt fun ag=>hk ⟨k,ag,ah⟩⟩
 let M:Act->World->Nat:=fun a w=>Classical.epsilon fun m=>J a w m /\ ∀k,J a w k->m<=k
 have hM:∀a w,(∃m,J a w m)->J a w (M a w) /\ ∀k,J a w k->M a w<=k:=fun a w h=>Classical.epsilon_spec (least _ h)
 refine wpIn_loop (fun a w=> ∃m,J a w m) M ⟨_,x0,g0,l0,aw,rfl⟩ ?_
 intro a w hJ
 obtain⟨⟨x,g',l,aj,hx⟩,_⟩:=hM a w hJ
 refine wpIn_mono (round x g' w a r (hr.mono l) aj) ?_
 rintro e a' w' ⟨g2,s',dx,h1,h2,h3,h4⟩
 cases dx with
 |normal=>
  obtain rfl:=h3
  obtain⟨x',ag,hw⟩:=h4
  obtain⟨g3,l3,au⟩:=hw g2 w' a' h2
  have aq:J a' w' (μ x'):=⟨x',g3,l.trans (h1.trans l3),au,rfl⟩
  refine⟨⟨_,aq⟩,Nat.lt_of_le_of_lt ((hM a' w' ⟨_,aq⟩).2 _ aq) ?_⟩
  rw[<-hx];exact ag
 |exit i=>obtain rfl:=h3;exact⟨g2,s',.exit i,l.trans h1,h2,rfl,h4⟩
 |ret=>obtain rfl:=h3;exact⟨g2,s',.ret,l.trans h1,h2,rfl,h4⟩
 |panic d=>obtain⟨v,rfl,h5⟩:=h3;exact⟨g2,s',.panic d,l.trans h1,h2,⟨v,rfl,h5⟩,h4⟩
end
inductive DE where
 |ret (d:D)
 |panic (d:D)
def ERep(g:G):DE->Ending->Prop
 |.ret d,e=> ∃v,e=.returned v/\Rep g d v
 |.panic d,e=> ∃v,e=.panicked [{ v,recovered:=false }]/\Rep g d v
def Jr(P:Program)(g:G)(R:DE->Sig->Prop)(e:Ending)(w:World):Prop:=
 ∃g' x U',g.le g'/\Sim P g' U' w/\ERep g' x e/\R x U'
def DCalls(P:Program)(f:Nat)(args:List D)(O:Sig)(R:DE->Sig->Prop):Prop:=
 ∀g w vs,Sim P g O w->RepL g args vs->CallsIn (FX P {}) 0 P f vs.toArray w (Jr P g R)
theorem DCalls.mono{P:Program}{f:Nat}{args:List D}{O:Sig}{R R':DE->Sig->Prop}(h:DCalls P f args O R)(hr:∀x U',R x U'->R' x U'):DCalls P f args O R':=
 fun g w vs hs ha=>(h g w vs hs ha).mono fun _ _ ⟨g',x,U',h1,h2,h3,h4⟩=>⟨g',x,U',h1,h2,h3,hr _ _ h4⟩
def Bo:Nat->List D->Fr
 |_,[]=>[]
 |i,d::ds=>(i,d)::Bo (i+1) ds
theorem RepL.length{g:G}: ∀{ds:List D}{vs:List Value},RepL g ds vs->vs.length=ds.length
 |[],_,h=>by simp[RepL]at h;simp[h]
 |d::ds,_,h=>by
  obtain⟨v,r,rfl,_,h2⟩:=h
  simp[RepL.length h2]
theorem LS(ds:List D): ∀(i t:Nat),getD (Bo i ds) t=if i<=t then(ds[t-i]?).getD .any else .any:=by
 induction ds with
 |nil=>intro i t;simp[Bo,getD]
 | cons d ds ih =>
  intro i t
  by_cases h:t=i
  ·subst h;simp[Bo,getD,List.lookup]
  ·have hb:(t==i)=false:=by simpa using h
   have:=ih (i+1) t
   simp only[getD,Bo,List.lookup,hb]at this⊢
   rw[this]
   by_cases h1:i<=t
   ·have h2:i+1<=t:=by omega
    obtain⟨k,hk⟩:∃k,t-i=k+1:=⟨t-i-1,by omega⟩
    have ah:t-(i+1)=k:=by omega
    simp[h1,h2,hk,ah]
   ·have h2:¬i+1<=t:=by omega
    simp[h1,h2]
theorem RepL.get{g:G}: ∀{ds:List D}{vs:List Value},RepL g ds vs->∀j:Nat,Rep g ((ds[j]?).getD .any) ((vs[j]?).getD undef)
 |[],_,h,j=>by simp[Rep]
 |d::ds,_,h,0=>by obtain⟨v,r,rfl,h1,_⟩:=h;simpa using h1
 |d::ds,_,h,j+1=>by obtain⟨v,r,rfl,_,h2⟩:=h;simpa using RepL.get h2 j
theorem De{g:G}{ds:List D}{vs:List Value}{m:Nat}(h:RepL g ds vs)(hm:ds.length<=m):
  RepT g (Bo 0 ds) m (vs.toArray++Array.replicate (m-vs.toArray.size) undef):=by
 have hl:=RepL.length h
 refine⟨by simp;omega,fun t=>?_⟩
 rw[LS]
 simp only[Nat.zero_le,if_true,Nat.sub_zero]
 by_cases ht:t<vs.length
 ·have:=RepL.get h t
  simpa[Array.getElem?_append,ht] using this
 ·have:ds[t]? = none:=by simp;omega
  simp[this,Rep]
def resD(fn:Func)(γ:Fr):Option D:=
 match fn.results.toList with
 |[]=>some (.tup [])
 |[.tmp t]=>some (getD γ t)
 |[.tmp t,.tmp u]=>some (.tup [getD γ t,getD γ u])
 |[.tmp t,.tmp u,.tmp v]=>some (.tup [getD γ t,getD γ u,getD γ v])
 |_=>none
theorem Qi{P:Program}{g:G}{fn:Func}{γ:Fr}{m:Nat}{tmps:Array Value}{d:D}(h:resD fn γ=some d)(ht:RepT g γ m tmps)(w:World):
  ∃v,(results fn tmps).run P w=.ok v w/\Rep g d v:=by
 obtain⟨l,hl⟩:∃l,fn.results=Array.mk l:=⟨fn.results.toList,by simp⟩
 unfold resD at h
 rw[hl]at h
 simp only at h
 unfold results
 rw[hl]
 split at h
 ·cases h;exact⟨.tuple #[],by simp,[],rfl,rfl⟩
 ·cases h;rename_i t;exact⟨tmps.getD t undef,by simp,ht.2 t⟩
 ·cases h;rename_i t u;exact⟨.tuple #[tmps.getD t undef,tmps.getD u undef],by simp,[_,_],rfl,_,_,rfl,ht.2 t,_,_,rfl,ht.2 u,rfl⟩
 ·cases h;rename_i t u v;exact⟨.tuple #[tmps.getD t undef,tmps.getD u undef,tmps.getD v undef],by simp,[_,_,_],rfl,_,_,rfl,ht.2 t,_,_,rfl,ht.2 u,_,_,rfl,ht.2 v,rfl⟩
 ·cases h
def L8(P:Program)(n:Nat)(fn:Func)(s:St)(d:D):Prop:= ∀g a w,SimS P g n s a w->∃v,(results fn a.tmps).run P w=.ok v w/\Rep g d v
theorem CQ{P:Program}{n:Nat}{fn:Func}{s:St}{d:D}(h:resD fn s.γ=some d):L8 P n fn s d:=fun _ _ w hs=>Qi h hs.tmps w
def TJ(P:Program)(n:Nat)(fn:Func)(R:DE->Sig->Prop):DX->St->Prop
 |.normal,s|.ret,s=>s.df=[] /\ ∃d,L8 P n fn s d/\R (.ret d) s.O
 |.panic d,s=>s.df=[]/\R (.panic d) s.O
 |.exit _,_=>False
theorem DT{g:G}{l:List Deferred}{df:List DDf}(h:RepDf g df l)(hd:df=[]):l=[]:=by subst hd;exact h
theorem Fz{P:Program}{ro:Ro}{r:Rx}{f:Nat}{fn:Func}{c:Code}{args:List D}{O:Sig}{R:DE->Sig->Prop}(hf:P.funcs[f]? = some fn)(hb:fn.body=some c)
  (hn:args.length<=fn.ntmps) (h:DWp P ro fn.ntmps c (TJ P fn.ntmps fn R) { γ:=Bo 0 args,O }) (hr:∀g,RoRep g ro r) (ax:r.rd=none):∀g w vs,Sim P g O w->RepL g args vs->CallsIn (FX P r) 0 P f vs.toArray w (Jr P g R):=by
 intro g w vs hs ha
 refine callsIn_of_wp hf hb (by obtain⟨h1,_⟩:=Array.getElem?_eq_some_iff.1 hf;exact EA h1 _) ?_ ax
 refine wpIn_mono (h g w _ r (hr g) ⟨hs,De ha hn,rfl⟩) ?_
 rintro e a w' ⟨g',s',x,h1,h2,h3,h4⟩
 cases x with
 |normal=>
  obtain rfl:=h3
  obtain⟨hd,d,hr,hR⟩:=h4
  obtain⟨v,hv,aa⟩:=hr _ _ _ h2
  exact⟨DT h2.df hd,v,hv,g',.ret d,s'.O,h1,h2.sim,⟨v,rfl,aa⟩,hR⟩
 |ret=>
  obtain rfl:=h3
  obtain⟨hd,d,hr,hR⟩:=h4
  obtain⟨v,hv,aa⟩:=hr _ _ _ h2
  exact⟨DT h2.df hd,v,hv,g',.ret d,s'.O,h1,h2.sim,⟨v,rfl,aa⟩,hR⟩
 |panic d=>
  obtain⟨v,rfl,aa⟩:=h3
  obtain⟨hd,hR⟩:=h4
  exact⟨DT h2.df hd,g',.panic d,s'.O,h1,h2.sim,⟨v,rfl,aa⟩,hR⟩
 |exit i=>exact h4.elim
theorem L1{P:Program}{f:Nat}{fn:Func}{c:Code}{args:List D}{O:Sig}{R:DE->Sig->Prop}(hf:P.funcs[f]? = some fn)(hb:fn.body=some c)
  (hn:args.length<=fn.ntmps) (h:DWp P .none fn.ntmps c (TJ P fn.ntmps fn R) { γ:=Bo 0 args,O }):DCalls P f args O R:=
 Fz hf hb hn h (fun _=>rfl) rfl
inductive TyK where
 |slice (e:Nat)
 |struct (fs:List (Nat×Nat))
 |array (len e:Nat)
 |map (k e:Nat)
 |int (k:IntKind)
 |str
 |bool
 |iface
 |ptr (e:Nat)
 |func
 |other
 deriving Inhabited
structure Ty where
 k:TyK
 agg:Bool
 size:Nat
 bytes:Nat
 zero:List D
 deriving Inhabited
def KOK:TypeDesc->TyK->Prop
 |.slice e,.slice e'=>e=e'
 |.struct fs,.struct l=>fs.toList.map (fun f=>(f.offset,f.type))=l
 |.array n e,.array m e'=>n=m/\e=e'
 |.map k e,.map k' e'=>k=k'/\e=e'
 |.int k,.int k'=>k=k'
 |.string,.str=>True
 |.bool,.bool=>True
 |.interface _,.iface=>True
 |.pointer e,.ptr e'=>e=e'
 |.func _ _ _,.func=>True
 |_,_=>False
def aggV:Value->Bool
 |.agg _=>true
 |_=>false
def TyOK(P:Program)(t:Nat)(i:Ty):Prop:=
 match i.k with
 |.other=>True
 | k => ∃ inf desc z,P.info? t=some inf/\P.underlying t=some desc/\KOK desc k/\inf.size=i.size/\inf.bytes=i.bytes /\
   i.agg=(match desc with|.struct _|.array _ _=>true|_=>false)/\inf.zero=some z/\i.zero.length=i.size/\i.zero=z.cells.toList.map B8/\i.agg=aggV z
def AZ(P:Program)(tab:Nat->Ty):Prop:= ∀t,TyOK P t (tab t)
theorem BO{P:Program}{t:Nat}{i:Ty}(h:TyOK P t i)(hk:i.k≠.other):
  ∃inf desc z,P.info? t=some inf/\P.underlying t=some desc/\KOK desc i.k/\inf.size=i.size/\inf.bytes=i.bytes /\
   i.agg=(match desc with|.struct _|.array _ _=>true|_=>false)/\inf.zero=some z/\i.zero.length=i.size/\i.zero=z.cells.toList.map B8/\i.agg=aggV z:=by
 unfold TyOK at h
 split at h
 ·rename_i ah;exact absurd ah hk
 ·exact h
section runs
variable {P:Program}{t:Nat}{i:Ty}(h:TyOK P t i)(hk:i.k≠.other)(w:World)
include h hk
theorem Az:(sizeOf t).run P w=.ok i.size w:=by
 obtain⟨inf,desc,z,h1,h2,h3,h4,h5,h6,h7,h8⟩:=BO h hk
 simp[sizeOf,typeInfo,program,h1,h4,Sem.run]
theorem I4:(isAgg t).run P w=.ok i.agg w:=by
 obtain⟨inf,desc,z,h1,h2,h3,h4,h5,h6,h7,h8⟩:=BO h hk
 simp only[isAgg,underlying,program,Sem.run_bind,Sem.run,Result.andThen_ok,h2]
 rw[h6]
 cases desc<;>simp[Sem.run]
theorem Ct: ∃z,(zeroValue t).run P w=.ok z w/\i.zero=z.cells.toList.map B8/\z.cells.size=i.size:=by
 obtain⟨inf,desc,z,h1,h2,h3,h4,h5,h6,h7,h8,h9,_⟩:=BO h hk
 refine⟨z,by simp[zeroValue,typeInfo,program,h1,h7,Sem.run],h9,?_⟩
 rw[<-h8,h9];simp
end runs
theorem run_underlying{P:Program}{t:Nat}{d:TypeDesc}(h:P.underlying t=some d)(w:World):(underlying t).run P w=.ok d w:=by
 simp[underlying,program,h,Sem.run]
def PRun(P:Program)(g:G)(O:Sig)(d:D)(s:Sem Value)(w:World):Prop:=
 ∃g' w' v,s.run P w=.ok v w'/\g.le g'/\Sim P g' O w'/\Rep g' d v
theorem RepI.get{g:G}{b:Nat}: ∀{ds:List D}{o j:Nat}{d:D},RepI g b o ds->ds[j]? = some d->∃v,g.imm b (o+j)=some v/\Rep g d v
 |[],_,_,_,_,h=>by simp at h
 |x::ds,o,0,d,h,e=>by simp at e;subst e;exact h.1
 |x::ds,o,j+1,d,h,e=>by
  have:=RepI.get (j:=j) (o:=o+1) h.2 (by simpa using e)
  rwa [show o+1+j=o+(j+1) by omega]at this
theorem RepI.drop{g:G}{b:Nat}: ∀{ds:List D}{o:Nat} (k:Nat),RepI g b o ds->RepI g b (o+k) (ds.drop k)
 |[],_,k,_=>by simp[RepI]
 |x::ds,o,0,h=>by simpa using h
 |x::ds,o,k+1,h=>by
  have:=RepI.drop k h.2
  simpa[show o+1+k=o+(k+1) by omega] using this
theorem RepI.take{g:G}{b:Nat}: ∀{ds:List D}{o:Nat} (k:Nat),RepI g b o ds->RepI g b o (ds.take k)
 |[],_,k,_=>by simp[RepI]
 |x::ds,o,0,h=>by simp[RepI]
 |x::ds,o,k+1,h=>by
  have:=RepI.take k h.2
  simpa[RepI] using⟨h.1,this⟩
theorem Bu(b o n:Nat):(⟨b,o,none⟩:Addr).add n=⟨b,o+n,none⟩:=by
 unfold Addr.add
 by_cases h:n=0<;>simp[h]
theorem NP{P:Program}{w:World}{a:Addr}{v:Value}(h:w.cell? a=some v):(load a).run P w=.ok v w:=by
 simp[load,Sem.run,h]
theorem G3{P:Program}{w:World}{b o:Nat}: ∀(n i:Nat) (acc:Array Value) (vs:List Value),vs.length=n->
  (∀j v,vs[j]? = some v->w.cell? ⟨b,o+(i+j),none⟩=some v)->(loadCellsFrom ⟨b,o,none⟩ i n acc).run P w=.ok (acc++vs.toArray) w
 |0,i,acc,vs,hl,_=>by
  have:vs=[]:=by simpa using hl
  subst this
  simp[loadCellsFrom,Sem.run]
 | n+1,i,acc,vs,hl,h=>by
  cases vs with
  |nil=>simp at hl
  | cons v vs =>
   have h0:=h 0 v rfl
   have ih:=G3 (P:=P) (w:=w) (b:=b) (o:=o) n (i+1) (acc.push v) vs (by simpa using hl) (fun j x hx=>by
    have:=h (j+1) x (by simpa using hx)
    rwa [show i+(j+1)=i+1+j by omega]at this)
   simp only[loadCellsFrom,Sem.run_bind,Bu]
   rw[NP (by simpa using h0)]
   simp only[Result.andThen_ok,ih]
   simp
theorem AE{g:G}: ∀{ds:List D}{vs:List Value},vs.length=ds.length->(∀(j:Nat) d v,ds[j]? = some d->vs[j]? = some v->Rep g d v)->RepL g ds vs
 |[],vs,h,_=>by simpa[RepL] using h
 |d::ds,[],h,_=>by simp at h
 |d::ds,v::vs,h,hh=>⟨v,vs,rfl,hh 0 d v rfl rfl,AE (by simpa using h) fun j x y hx hy=>hh (j+1) x y (by simpa using hx) (by simpa using hy)⟩
theorem RepI.values{g:G}{b:Nat}: ∀{ds:List D}{o:Nat},RepI g b o ds->∃vs,RepL g ds vs /\ ∀j v,vs[j]? = some v->g.imm b (o+j)=some v
 |[],_,_=>⟨[],rfl,fun j v h=>by simp at h⟩
 |d::ds,o,⟨⟨v,h1,h2⟩,h3⟩=>by
  obtain⟨vs,r,hr⟩:=RepI.values h3
  refine⟨v::vs,⟨v,vs,rfl,h2,r⟩,fun j x hx=>?_⟩
  cases j with
  |zero=>simp at hx;subst hx;simpa using h1
  |succ j=>have:=hr j x (by simpa using hx);rwa [show o+1+j=o+(j+1) by omega]at this
def Dh:Option DObj->Option (List D)
 |some (.cells ds)=>some ds
 |_=>none
def Je(ty:Ty)(O:Sig):D->Option D
 |.cptr cs off=>
  if ty.agg then(if off+ty.size<=cs.length then some (.agg ((cs.drop off).take ty.size)) else none) else cs[off]?
 |.ptr id off=>
  match Dh (O id)with
  |some cs=>if ty.agg then(if off+ty.size<=cs.length then some (.agg ((cs.drop off).take ty.size)) else none) else cs[off]?
  |none=>none
 |_=>none
theorem LI{P:Program}{g:G}{O:Sig}{w:World}{t:Nat}{ty:Ty}(ht:TyOK P t ty)(hk:ty.k≠.other)(hs:Sim P g O w){x d:D}{v:Value}
  (hx:Rep g x v) (h:Je ty O x=some d):∃v',(Instr.loadAt t v).run P w=.ok v' w/\Rep g d v':=by
 have key : ∀ (b o:Nat) (cs:List D) (vs:List Value),RepL g cs vs->(∀ j v,vs[j]? = some v->w.cell? ⟨b,o+j,none⟩=some v) -> ∀ off,
   (if ty.agg then(if off+ty.size<=cs.length then some (D.agg ((cs.drop off).take ty.size)) else none) else cs[off]?)=some d->
   ∃v',(Instr.loadAt t (.pointer (some ⟨b,o+off,none⟩))).run P w=.ok v' w/\Rep g d v':=by
  intro b o cs vs hr hc off h
  have hlen:=RepL.length hr
  unfold Instr.loadAt Instr.sureAddr loadVar
  simp only[Sem.run_bind,Sem.run_pure,Result.andThen_ok,I4 ht hk]
  by_cases ha:ty.agg=true
  ·rw [if_pos ha] at h
   rw[if_pos ha]
   by_cases ae:off+ty.size<=cs.length
   ·rw[if_pos ae]at h
    cases h
    have hl:((vs.drop off).take ty.size).length=ty.size:=by simp;omega
    have ak:=G3 (P:=P) (w:=w) (b:=b) (o:=o+off) ty.size 0 #[] ((vs.drop off).take ty.size) hl (fun j x hx=>by
     have:vs[off+j]? = some x:=by
      rw[List.getElem?_take]at hx
      split at hx
      ·simpa using hx
      ·cases hx
     have:=hc _ _ this
     rwa [show o+(off+j)=o+off+(0+j) by omega]at this)
    refine⟨.agg ((vs.drop off).take ty.size).toArray,?_,_,rfl,?_⟩
    ·simp only[Sem.run_bind,Az ht hk,Result.andThen_ok,loadCells,ak,Sem.run_pure]
     simp
    ·refine AE (by simp;omega) fun j x y hx hy=>?_
     rw[List.getElem?_take]at hx hy
     split at hx
     ·rename_i hj
      simp only[hj,if_true,List.getElem?_drop]at hx hy
      have:=RepL.get hr (off+j)
      rw[hx,hy]at this
      exact this
     ·cases hx
   ·rw[if_neg ae]at h;cases h
  ·simp only[Bool.not_eq_true]at ha
   simp only[ha,Bool.false_eq_true,if_false]at h⊢
   have hj:off<vs.length:=by
    have:=(List.getElem?_eq_some_iff.1 h).1;omega
   have hv:vs[off]? = some vs[off]:=List.getElem?_eq_getElem hj
   refine⟨vs[off],by rw[NP (hc _ _ hv)],?_⟩
   have:=RepL.get hr off
   rw[h,hv]at this
   exact this
 cases x<;>simp only[Je]at h<;>try cases h
 case cptr cs off=>
  obtain⟨b,o,rfl,hr⟩:=hx
  obtain⟨vs,hl,hv⟩:=hr.values
  exact key b o cs vs hl (fun j v hj=>hs.imm _ _ _ (hv j v hj)) off h
 case ptr id off=>
  obtain⟨b,hb,rfl⟩:=hx
  cases ho:Dh (O id)with
  |none=>rw[ho]at h;cases h
  | some cs =>
   rw[ho]at h
   have am:O id=some (.cells cs):=by
    unfold Dh at ho
    split at ho
    ·rename_i e;cases ho;exact e
    ·cases ho
   obtain⟨b',vs,ty',ar,ai,hr⟩:=hs.obj _ _ am
   have:b'=b:=by rw[hb]at ar;cases ar;rfl
   subst this
   have:=key b' 0 cs vs.toList hr (fun j v hj=>by
    simp only[World.cell?, ai,Nat.zero_add]
    simpa using hj) off h
   simpa using this
theorem Pe{P:Program}{g:G}{O:Sig}{w:World}{t:Nat}{ty:Ty}(ht:TyOK P t ty)(hk:ty.k≠.other)(hs:Sim P g O w){x d:D}{v:Value}
  (hx:Rep g x v) (h:Je ty O x=some d):PRun P g O d (Instr.loadAt t v) w:=
 let ⟨v',h1,h2⟩:=LI ht hk hs hx h
 ⟨g,w,v',h1,.refl g,hs,h2⟩
theorem L5{w:World}{b o:Nat}{v:Value}(h:w.cell? ⟨b,o,none⟩=some v):b<w.heap.size:=by
 unfold World.cell? at h
 simp only at h
 rcases Nat.lt_or_ge b w.heap.size with hb|hb
 ·exact hb
 ·simp[Array.getElem?_eq_none hb]at h
theorem heap_push{w:World}{o:Obj}{k:Nat}{x:Obj}(h:w.heap[k]? = some x):(w.heap.push o)[k]? = some x:=by
 have hk:=(Array.getElem?_eq_some_iff.1 h).1
 rw[Array.getElem?_push_lt hk]
 exact(Array.getElem?_eq_getElem hk).symm.trans h
theorem Mz{w:World}{o:Obj}{b off:Nat}{v:Value}(h:w.cell? ⟨b,off,none⟩=some v):({ w with heap:=w.heap.push o }:World).cell? ⟨b,off,none⟩=some v:=by
 have hb:=L5 h
 unfold World.cell? at h⊢
 simp only at h⊢
 rw[Array.getElem?_push_lt hb]
 rwa [Array.getElem?_eq_getElem hb]at h
theorem ObjRep.push{P:Program}{g:G}{w:World}{i:Nat}{d:DObj}(o:Obj)(h:ObjRep P g w i d):ObjRep P g { w with heap:=w.heap.push o } i d:=by
 cases d with
 |cells ds=>obtain⟨b,vs,ty,h1,h2,h3⟩:=h;exact⟨b,vs,ty,h1,heap_push h2,h3⟩
 |tcells ty ds=>obtain⟨b,vs,h1,h2,h3⟩:=h;exact⟨b,vs,h1,heap_push h2,h3⟩
 |mcells ds=>obtain⟨b,vs,ty,h1,h2,h3⟩:=h;exact⟨b,vs,ty,h1,heap_push h2,h3⟩
 |map l=>obtain⟨b,vs,ty,h1,h2,h3⟩:=h;exact⟨b,vs,ty,h1,heap_push h2,h3⟩
 |tail sz n=>
  rcases h with h|⟨b,o',cap,vs,ty,h1,h2,h3,h4,h5⟩
  ·exact .inl h
  ·exact .inr ⟨b,o',cap,vs,ty,h1,h2,heap_push h3,h4,h5⟩
 |loop st pe ps az bo n γ did=>obtain⟨b,db,fn,tmps,h1,h2,h3,h4,h5⟩:=h;exact⟨b,db,fn,tmps,h1,h2,h3,h4,heap_push h5⟩
 |defs=>obtain⟨b,h1,h2⟩:=h;exact⟨b,h1,heap_push h2⟩
 |iter l la=>obtain⟨b,h1,h2⟩:=h;exact⟨b,h1,h2.imp (fun ⟨a,c,d⟩=>⟨a,c,heap_push d⟩) (fun ⟨mb,es,c,seen,e1,r⟩=>⟨mb,es,c,seen,heap_push e1,r⟩)⟩
theorem ObjRep.mono{P:Program}{g g':G}{w:World}{i:Nat}{d:DObj}(hg:g.le g')(ap:∀sz n b o cap,d=.tail sz n->g.hist i n=some (.slice (some ⟨b,o,none⟩) n cap)->b<w.heap.size->∀j,o+n*sz<=j->g.imm b j=none->g'.imm b j=none)
  (h:ObjRep P g w i d):ObjRep P g' w i d:=by
 cases d with
 |cells ds=>obtain⟨b,vs,ty,h1,h2,h3⟩:=h;exact⟨b,vs,ty,hg.rho _ _ h1,h2,RepL.mono hg _ h3⟩
 |tcells ty ds=>obtain⟨b,vs,h1,h2,h3⟩:=h;exact⟨b,vs,hg.rho _ _ h1,h2,RepL.mono hg _ h3⟩
 |mcells ds=>obtain⟨b,vs,ty,h1,h2,h3⟩:=h;exact⟨b,vs,ty,hg.rho _ _ h1,h2,RepL.mono hg _ h3⟩
 |map l=>obtain⟨b,vs,ty,h1,h2,h3⟩:=h;exact⟨b,vs,ty,hg.rho _ _ h1,h2,RepM.mono hg _ h3.1,h3.2⟩
 |tail sz n=>
  rcases h with h|⟨b,o',cap,vs,ty,h1,h2,h3,h4,h5⟩
  ·exact .inl ⟨hg.hist _ _ _ h.1,h.2⟩
  ·exact .inr ⟨b,o',cap,vs,ty,hg.hist _ _ _ h1,h2,h3,h4,fun j hj=>ap sz n b o' cap rfl h1 (Array.getElem?_eq_some_iff.1 h3).1 j hj (h5 j hj)⟩
 |loop st pe ps az bo n γ did=>obtain⟨b,db,fn,tmps,h1,h2,h3,h4,h5⟩:=h;exact⟨b,db,fn,tmps,hg.rho _ _ h1,hg.rho _ _ h2,h3,h4.mono hg,h5⟩
 |defs=>obtain⟨b,h1,h2⟩:=h;exact⟨b,hg.rho _ _ h1,h2⟩
 |iter l la=>obtain⟨b,h1,h2⟩:=h;exact⟨b,hg.rho _ _ h1,h2.imp id (fun ⟨mb,es,c,seen,e1,e2,e3,e4,e5⟩=>⟨mb,es,c,seen,e1,hg.keep _ _ e2,e3,RepM.mono hg _ e4,fun k v ay=>let ⟨e,st,f1,f2,f3,f4⟩:=e5 k v ay;⟨e,st,f1,f2,Rep.mono hg _ f3,Rep.mono hg _ f4⟩⟩)⟩
theorem Sim.blk_lt{P:Program}{g:G}{O:Sig}{w:World}(hs:Sim P g O w){i b:Nat}(h:blk g O i=some b):b<w.heap.size:=by
 unfold blk at h
 split at h
 ·cases h
 ·rename_i sz n hi
  rcases hs.obj _ _ hi with⟨h1,_⟩|⟨b',o',cap,vs,ty,h1,h2,h3,_⟩
  ·rw[h1]at h;cases h
  ·rw[h1]at h;cases h;exact(Array.getElem?_eq_some_iff.1 h3).1
 ·rename_i o hn hi
  have ho:=hs.obj _ _ hi
  cases o with
  |tail sz n=>exact(hn sz n rfl).elim
  |cells ds=>obtain⟨b',vs,ty,h1,h2,_⟩:=ho;rw[h]at h1;cases h1;exact(Array.getElem?_eq_some_iff.1 h2).1
  |tcells ty ds=>obtain⟨b',vs,h1,h2,_⟩:=ho;rw[h]at h1;cases h1;exact(Array.getElem?_eq_some_iff.1 h2).1
  |mcells ds=>obtain⟨b',vs,ty,h1,h2,_⟩:=ho;rw[h]at h1;cases h1;exact(Array.getElem?_eq_some_iff.1 h2).1
  |map ds=>obtain⟨b',vs,ty,h1,h2,_⟩:=ho;rw[h]at h1;cases h1;exact(Array.getElem?_eq_some_iff.1 h2).1
  |loop st pe ps az bo n γ did=>obtain⟨b',_,_,_,h1,_,_,_,h2⟩:=ho;rw[h]at h1;cases h1;exact(Array.getElem?_eq_some_iff.1 h2).1
  |defs=>obtain⟨b',h1,h2⟩:=ho;rw[h]at h1;cases h1;exact(Array.getElem?_eq_some_iff.1 h2).1
  |iter l la=>
   obtain⟨b',h1,h2⟩:=ho;rw[h]at h1;cases h1
   rcases h2 with⟨_,_,h2⟩|⟨_,_,_,_,h2,_⟩<;>exact(Array.getElem?_eq_some_iff.1 h2).1
def G.addImm(g:G)(b:Nat)(vs:List Value):G:={ g with imm:=fun b' o=>if b'=b then vs[o]? else g.imm b' o }
theorem G.addImm_le{P:Program}{g:G}{O:Sig}{w:World}(hs:Sim P g O w)(vs:List Value):g.le (g.addImm w.heap.size vs):=
 {imm:=fun b o v h=>by
   have:=L5 (hs.imm _ _ _ h)
   simp only[G.addImm]
   rw[if_neg (by omega)];exact h
  rho:=fun _ _ h=>h,hist:=fun _ _ _ h=>h,keep:=fun _ _ h=>h,io:=rfl }
theorem Sim.addImm{P:Program}{g:G}{O:Sig}{w:World}(hs:Sim P g O w)(vs:List Value)(ty:TypeId)(fz:Nat×Nat):
  Sim P (g.addImm w.heap.size vs) O { w with heap:=w.heap.push (.cells vs.toArray ty fz) } where
 imm:=fun b o v h=>by
  simp only[G.addImm]at h
  by_cases hb:b=w.heap.size
  ·rw[if_pos hb]at h
   subst hb
   simp only[World.cell?, Array.getElem?_push_size]
   simpa using h
  ·rw[if_neg hb]at h
   exact Mz (hs.imm _ _ _ h)
 keep:=fun k o h=>heap_push (hs.keep k o h)
 obj:=fun i o h=>((hs.obj i o h).mono (G.addImm_le hs vs) (by
  intro sz n b o cap _ _ ag j _ hj
  simp only[G.addImm];rw[if_neg (by omega)];exact hj)).push _
 inj:=fun i j b h k=>hs.inj i j b h k
 free:=fun i b h=>by
  have ag:=hs.blk_lt h
  obtain⟨h1,h2⟩:=hs.free i b h
  exact⟨h1,fun ht o=>by simp only[G.addImm];rw[if_neg (by omega)];exact h2 ht o⟩
 htop:=hs.htop
 hdom:=hs.hdom
 io:=hs.io
 tab:=hs.tab
 fin:=hs.fin
theorem FI{g:G}{b:Nat}{vs:List Value}{ds:List D}(h:RepL g ds vs)(ae:g.le (g.addImm b vs)):RepI (g.addImm b vs) b 0 ds:=by
 have key:∀(ds:List D) (ws:List Value) (k:Nat),RepL g ds ws->(∀j x,ws[j]? = some x->vs[k+j]? = some x)->RepI (g.addImm b vs) b k ds:=by
  intro ds
  induction ds with
  |nil=>intro ws k _ _;simp[RepI]
  | cons d ds ih =>
   intro ws k hr hw
   obtain⟨v,r,rfl,h1,h2⟩:=hr
   refine⟨⟨v,?_,Rep.mono ae _ h1⟩,ih r (k+1) h2 fun j x hx=>?_⟩
   ·have:=hw 0 v rfl
    simpa[G.addImm] using this
   ·have:=hw (j+1) x (by simpa using hx)
    rwa [show k+(j+1)=k+1+j by omega]at this
 exact key ds vs 0 h fun j x hx=>by simpa using hx
def D.told:D->Bool
 |.any=>false
 |_=>true
theorem EF{g:G}{d:D}{v:Value}(h:Rep g d v)(ht:d.told=true):RepL g d.cells v.cells.toList:=by
 cases d<;>simp only[D.told]at ht<;>try cases ht
 case agg cs=>obtain⟨vs,rfl,hr⟩:=h;simpa[D.cells,Value.cells] using hr
 case bool=>cases h;exact⟨_,_,rfl,rfl,rfl⟩
 case int=>cases h;exact⟨_,_,rfl,rfl,rfl⟩
 case str=>cases h;exact⟨_,_,rfl,rfl,rfl⟩
 case tup cs=>obtain⟨vs,rfl,hr⟩:=h;exact⟨_,_,rfl,⟨vs,rfl,hr⟩,rfl⟩
 case nilp=>cases h;exact⟨_,_,rfl,rfl,rfl⟩
 case cptr=>obtain⟨b,o,rfl,hr⟩:=h;exact⟨_,_,rfl,⟨b,o,rfl,hr⟩,rfl⟩
 case ptr=>obtain⟨b,hb,rfl⟩:=h;exact⟨_,_,rfl,⟨b,hb,rfl⟩,rfl⟩
 case nils=>cases h;exact⟨_,_,rfl,rfl,rfl⟩
 case slice=>obtain⟨a,cap,rfl,hr⟩:=h;exact⟨_,_,rfl,⟨a,cap,rfl,hr⟩,rfl⟩
 case sref=>obtain⟨b,hb,rfl⟩:=h;exact⟨_,_,rfl,⟨b,hb,rfl⟩,rfl⟩
 case map=>obtain⟨b,hb,rfl⟩:=h;exact⟨_,_,rfl,⟨b,hb,rfl⟩,rfl⟩
 case nilmap=>cases h;exact⟨_,_,rfl,rfl,rfl⟩
 case cmap=>obtain⟨b,es,c,rfl,hr⟩:=h;exact⟨_,_,rfl,⟨b,es,c,rfl,hr⟩,rfl⟩
 case func=>obtain⟨fs,cs,rfl,hr⟩:=h;exact⟨_,_,rfl,⟨fs,cs,rfl,hr⟩,rfl⟩
 case yld=>obtain⟨b,hb,rfl⟩:=h;exact⟨_,_,rfl,⟨b,hb,rfl⟩,rfl⟩
 case nilf=>cases h;exact⟨_,_,rfl,rfl,rfl⟩
 case iface=>obtain⟨x,rfl,hr⟩:=h;exact⟨_,_,rfl,⟨x,rfl,hr⟩,rfl⟩
 case niliface=>cases h;exact⟨_,_,rfl,rfl,rfl⟩
 case obj=>obtain⟨b,hb,rfl⟩:=h;exact⟨_,_,rfl,⟨b,hb,rfl⟩,rfl⟩
theorem Cl{P:Program}(ty:TypeId)(cells:Array Value)(w:World):
  (newRow ty cells).run P w=.ok ⟨w.heap.size,0,none⟩ { w with heap:=w.heap.push (.cells cells ty) }:=by
 simp[newRow,newObj,Sem.run]
theorem Vn{P:Program}{g:G}{O:Sig}{w:World}(hs:Sim P g O w){d:D}{v:Value}(h:Rep g d v)(ht:d.told=true)(ty:TypeId):
  PRun P g O (.cptr d.cells 0) (Instr.box ty v) w:=by
 have hr:=EF h ht
 refine⟨g.addImm w.heap.size v.cells.toList,_,.pointer (some ⟨w.heap.size,0,none⟩),?_,G.addImm_le hs _,hs.addImm v.cells.toList ty (0,0),w.heap.size,0,rfl,FI hr (G.addImm_le hs _)⟩
 simp[Instr.box,newVar,Cl,Sem.run_bind]
def binD:BinOp->D->D->Option D
 |.add,.int k a,.int k' b=>if k=k' then some (.int k (k.wrap (a+b))) else none
 |.sub,.int k a,.int k' b=>if k=k' then some (.int k (k.wrap (a-b))) else none
 |.mul,.int k a,.int k' b=>if k=k' then some (.int k (k.wrap (a*b))) else none
 |.quo,.int k a,.int k' b=>if k=k'/\b≠0 then some (.int k (k.wrap (a.tdiv b))) else none
 |.rem,.int k a,.int k' b=>if k=k'/\b≠0 then some (.int k (a.tmod b)) else none
 |.and,.int k a,.int k' b=>if k=k' then some (.int k (k.wrap ((BitVec.ofInt k.bits a &&& BitVec.ofInt k.bits b).toNat))) else none
 |.or,.int k a,.int k' b=>if k=k' then some (.int k (k.wrap ((BitVec.ofInt k.bits a ||| BitVec.ofInt k.bits b).toNat))) else none
 |.xor,.int k a,.int k' b=>if k=k' then some (.int k (k.wrap ((BitVec.ofInt k.bits a ^^^ BitVec.ofInt k.bits b).toNat))) else none
 |.andNot,.int k a,.int k' b=>if k=k' then some (.int k (k.wrap ((BitVec.ofInt k.bits a &&& ~~~ BitVec.ofInt k.bits b).toNat))) else none
 |.shl,.int k a,.int _ b=>if 0<=b then some (.int k (k.wrap (a*2 ^ (min b.toNat k.bits)))) else none
 |.shr,.int k a,.int _ b=>if 0<=b then some (.int k (a.fdiv (2 ^ (min b.toNat k.bits)))) else none
 |.eql,.int k a,.int k' b=>if k=k' then some (.bool (a==b)) else none
 |.neq,.int k a,.int k' b=>if k=k' then some (.bool (a != b)) else none
 |.lss,.int k a,.int k' b=>if k=k' then some (.bool (decide (a<b))) else none
 |.leq,.int k a,.int k' b=>if k=k' then some (.bool (decide (a<=b))) else none
 |.gtr,.int k a,.int k' b=>if k=k' then some (.bool (decide (a>b))) else none
 |.geq,.int k a,.int k' b=>if k=k' then some (.bool (decide (a>=b))) else none
 |.eql,.str a,.str b=>some (.bool (a==b))
 |.neq,.str a,.str b=>some (.bool (a != b))
 |.add,.str a,.str b=>if a.length+b.length<=9223372036854775807 then some (.str (a++b)) else none
 |.lss,.str a,.str b=>some (.bool (Op.bytesLess a b))
 |_,_,_=>none
theorem OZ{P:Program}{a b:List UInt8}(h:a.length+b.length<=9223372036854775807)(w:World):
  (Op.stringOp .add ⟨a.toArray⟩ ⟨b.toArray⟩).run P w=.ok (.string ⟨(a++b).toArray⟩) w:=by
 have hm:IntKind.max .i64=9223372036854775807:=by decide
 have e1:(ByteArray.mk a.toArray).size=a.length:=by simp[ByteArray.size]
 have e2:(ByteArray.mk b.toArray).size=b.length:=by simp[ByteArray.size]
 have hn:¬(((ByteArray.mk a.toArray).size+(ByteArray.mk b.toArray).size:Nat):Int)>IntKind.max .i64:=by rw[hm,e1,e2];omega
 simp only[Op.stringOp,hn,if_false]
 have:(ByteArray.mk a.toArray)++(ByteArray.mk b.toArray)=ByteArray.mk (a++b).toArray:=by
  rw[ByteArray.ext_iff];simp
 rw[this];rfl
theorem TH{P:Program}{op:BinOp}{t:TypeId}{x y d:D}{g:G}{v u:Value}(h:binD op x y=some d)(hx:Rep g x v)(hy:Rep g y u)(o1 o2:Operand)(w:World):
  ∃r,(do eqGuard op t o1 o2 v u;binOp op t v u:Sem Value).run P w=.ok r w/\Rep g d r:=by
 unfold binD at h
 split at h<;>(try split at h)<;>(try (cases h;done))<;>cases h<;>cases hx<;>cases hy
 all_goals refine⟨_,?_,rfl⟩
 all_goals first
  |(rename_i hk;subst hk;simp[eqGuard,binOp,Op.intArith,Op.intBits,Op.intCmp,Sem.run];done)
  |(rename_i hk;obtain⟨hk,hb⟩:=hk;subst hk;simp[eqGuard,binOp,Op.intDiv,hb,Sem.run];done)
  |(rename_i hb;simp[eqGuard,binOp,Op.shift,Int.not_lt.2 hb,Sem.run];done)
  |(rename_i hb;simp only[eqGuard,binOp,Sem.run_bind];exact OZ hb w)
  |(simp[eqGuard,binOp,Op.stringOp,Sem.run,ByteArray.toList_mk];done)
  |(simp[eqGuard,binOp,Op.stringOp,Sem.run,ByteArray.toList_mk,bne];done)
def FN:TyK->Bool
 |.iface=>true
 |_=>false
def A1:TyK->Bool
 |.other=>true
 |_=>false
theorem Ae{i:Ty}(h:A1 i.k=false):i.k≠.other:=by
 intro e;rw[e]at h;cases h
def KB(ty:Ty)(cs:List D)(off:Nat):Option D:=
 if ty.agg then(if off+ty.size<=cs.length then some (.agg ((cs.drop off).take ty.size)) else none) else cs[off]?
def shiftD:D->Nat->Option D
 |.cptr cs o,n=>some (.cptr cs (o+n))
 |.ptr i o,n=>some (.ptr i (o+n))
 |_,_=>none
def N6:D->D->D->Option D
 |.bool t,x,y=>some (if t then x else y)
 |_,_,_=>none
def nilD:D->Option D
 |.cptr cs o=>some (.cptr cs o)
 |.ptr i o=>some (.ptr i o)
 |.func (.func f) a b=>some (.func (.func f) a b)
 |.iface t d=>some (.iface t d)
 |_=>none
def unD:UnOp->D->Option D
 |.not,.bool b=>some (.bool (!b))
 |.neg,.int k n=>some (.int k (k.wrap (0-n)))
 |_,_=>none
def Tt:Bool->TyK->D->Option D
 |false,.int k,.int _ n=>some (.int k (k.wrap n))
 |_,_,_=>none
def Df(tab:Nat->Ty)(f:Nat)(x:D):TyK->Option D
 |.struct fs=>match fs[f]? with
  |some (off,ft)=>if A1 (tab ft).k||(tab ft).size==0 then none else shiftD x off
  |none=>none
 |_=>none
def LU(tab:Nat->Ty)(f:Nat):TyK->D->Option D
 |.struct fs,.agg cs=>match fs[f]? with
  |some (off,ft)=>if A1 (tab ft).k then none else KB (tab ft) cs off
  |none=>none
 |_,_=>none
def Cn(tab:Nat->Ty):TyK->D->D->Option D
 | .slice e, .slice es _, .int _ n =>
  if A1 (tab e).k then none else
  if 0<=n then match es[n.toNat]? with
   |some c=>if c.length=(tab e).size then some (.cptr c 0) else none
   |none=>none
  else none
 |.slice e,.sref id off len _,.int _ n=>
  if A1 (tab e).k then none else if 0<=n/\n.toNat<len then some (.ptr id (off+n.toNat*(tab e).size)) else none
 |.array len e,x,.int _ n=>
  if A1 (tab e).k then none else if 0<=n/\n.toNat<len then shiftD x (n.toNat*(tab e).size) else none
 |_,_,_=>none
def LP:TyK->D->D->Option D
 |.str,.str s,.int _ n=>if 0<=n then(s[n.toNat]?).map fun b=>.int .u8 b.toNat else none
 |_,_,_=>none
def Gx(i:Nat):D->Option D
 |.tup ds=>ds[i]?
 |_=>none
def Hb(tab:Nat->Ty)(γ:Fr)(len:Nat)(parts:List (Nat×Operand)):TyK->Option D
 | .slice e =>
  if A1 (tab e).k then none else
  if parts.map (·.1)==List.range len&&len*(tab e).size<=16777216&&parts.all (fun p=>(ev γ p.2).told&&(ev γ p.2).cells.length==(tab e).size) then
   some (.slice (parts.map fun p=>(ev γ p.2).cells) .clip) else none
 |_=>none
def lenD:TyK->D->Option D
 |.slice _,.slice es _=>some (.int .i64 es.length)
 |.slice _,.nils=>some (.int .i64 0)
 |.slice _,.sref _ _ len _=>some (.int .i64 len)
 |.str,.str s=>some (.int .i64 s.length)
 |_,_=>none
def lenC(tab:Nat->Ty)(γ:Fr):List TypeId->List Operand->Option D
 |[t],[x]=>lenD (tab t).k (ev γ x)
 |_,_=>none
def boxD(d:D):Option D:=if d.told then some (.cptr d.cells 0) else none
def QO(ty:Ty)(t:TypeId)(d:D):Option D:=if A1 ty.k||FN ty.k then none else some (.iface t d)
def Jd(ty:Ty)(O:Sig)(d:D):Option D:=if A1 ty.k then none else Je ty O d
def dop(tab:Nat->Ty)(γ:Fr)(O:Sig):Op->Option D
 |.move x|.assign x=>some (ev γ x)
 |.pick c a b=>N6 (ev γ c) (ev γ a) (ev γ b)
 |.box _ v=>boxD (ev γ v)
 |.load t a=>Jd (tab t) O (ev γ a)
 |.nilCheck x=>nilD (ev γ x)
 |.binOp op _ x y _=>binD op (ev γ x) (ev γ y)
 |.unOp op _ x=>unD op (ev γ x)
 |.convert s t x=>Tt (A1 (tab s).k) (tab t).k (ev γ x)
 |.makeInterface t x=>QO (tab t) t (ev γ x)
 |.makeFunc fn first cap=>some (.func fn (first.toList.map (ev γ)) (cap.toList.map (ev γ)))
 |.fieldAddr s x f=>Df tab f (ev γ x) (tab s).k
 |.field s x f=>LU tab f (tab s).k (ev γ x)
 |.indexAddr t x i=>Cn tab (tab t).k (ev γ x) (ev γ i)
 |.index t x i=>LP (tab t).k (ev γ x) (ev γ i)
 |.extract x i=>Gx i (ev γ x)
 |.buildSlice t len parts=>Hb tab γ len parts.toList (tab t).k
 |.call { callee:=.builtin .len,args,argTypes }=>lenC tab γ argTypes.toList args.toList
 |_=>none
section ops
variable {P:Program}{tab:Nat->Ty}(ht:AZ P tab)
include ht
theorem Ev{t:Nat}{k:TyK}(h:(tab t).k=k)(hk:k≠.other): ∃desc,P.underlying t=some desc/\KOK desc k:=by
 obtain⟨inf,desc,z,h1,h2,h3,_⟩:=BO (ht t) (by rw[h];exact hk)
 exact⟨desc,h2,h ▸ h3⟩
theorem AJ{t e:Nat}(h:(tab t).k=.slice e):P.underlying t=some (.slice e):=by
 obtain⟨desc,h1,h2⟩:=Ev ht h (by simp)
 cases desc<;>simp[KOK]at h2
 subst h2;exact h1
theorem FU{t n e:Nat}(h:(tab t).k=.array n e):P.underlying t=some (.array n e):=by
 obtain⟨desc,h1,h2⟩:=Ev ht h (by simp)
 cases desc<;>simp[KOK]at h2
 obtain⟨rfl,rfl⟩:=h2;exact h1
theorem MQ{t:Nat}{k:IntKind}(h:(tab t).k=.int k):P.underlying t=some (.int k):=by
 obtain⟨desc,h1,h2⟩:=Ev ht h (by simp)
 cases desc<;>simp[KOK]at h2
 subst h2;exact h1
theorem FF{t:Nat}(h:(tab t).k=.str):P.underlying t=some .string:=by
 obtain⟨desc,h1,h2⟩:=Ev ht h (by simp)
 cases desc<;>simp[KOK]at h2
 exact h1
theorem HO{t k e:Nat}(h:(tab t).k=.map k e):P.underlying t=some (.map k e):=by
 obtain⟨desc,h1,h2⟩:=Ev ht h (by simp)
 cases desc<;>simp[KOK]at h2
 obtain⟨rfl,rfl⟩:=h2;exact h1
theorem GJ{t:Nat}{fs:List (Nat×Nat)}(h:(tab t).k=.struct fs): ∃l,P.underlying t=some (.struct l)/\l.toList.map (fun f=>(f.offset,f.type))=fs:=by
 obtain⟨desc,h1,h2⟩:=Ev ht h (by simp)
 cases desc<;>simp[KOK]at h2
 exact⟨_,h1,by simpa using h2⟩
theorem Fv{f:Field}{b o:Nat}(h1:A1 (tab f.type).k=false)(h2:(tab f.type).size≠0)(w:World):
  (fieldPlace ⟨b,o,none⟩ f).run P w=.ok ⟨b,o+f.offset,none⟩ w:=by
 simp only[fieldPlace,Sem.run_bind,Az (ht _) (Ae h1),Result.andThen_ok,h2,if_false,Sem.run_pure,Bu]
theorem RepE.get{g:G}{b sz:Nat}: ∀{es:List (List D)}{o j:Nat}{c:List D},RepE g b sz o es->es[j]? = some c->c.length=sz/\RepI g b (o+j*sz) c
 |[],_,_,_,_,h=>by simp at h
 |x::es,o,0,c,h,e=>by simp at e;subst e;simpa using h.1
 |x::es,o,j+1,c,h,e=>by
  have:=RepE.get (o:=o+sz) h.2 (by simpa using e)
  rwa [show o+sz+j*sz=o+(j+1)*sz by rw[Nat.add_mul];omega]at this
end ops
end Go.DL
