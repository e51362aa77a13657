/- A part of the proof. -/
import Derived.Test.YteldimffglchkaaGreatDoorQ12
import Derived.Test.YteldimffglchkaaGreatDoorRows
import Derived.WideKeyArgs
import Derived.ChangeSame
import Derived.WalkKit
import Derived.ProofKit
import Derived.OpenShut
import Derived.JoinedCond
import Derived.Test.YteldimffglchkaaGreatDoorCards
import Derived.Test.YteldimffglchkaaGreatDoorTie
import Derived.Deep.DeepHandedRow
import Derived.Lib.LaidTab
import Derived.Test.YteldimffglchkaaGreatDoorQ15
import Derived.Test.YteldimffglchkaaGreatDoorQ19
import Derived.Test.YteldimffglchkaaGreatDoorQ14
import Derived.Test.YteldimffglchkaaGreatDoorQ16
import Derived.Shelf.Strings.Builder1
import Derived.Test.YteldimffglchkaaGreatDoorProg
import Derived.Shelf.LaysM
import Derived.Shelf.Strconv.Itoa3
import Derived.Test.YteldimffglchkaaGreatDoorQ20
set_option linter.all false
namespace Go.DL
open Go.Proofs.Tryz
open Go Go.Proofs
open Go.Proofs.YteldimffglchkaaGreatDoor.Rows (uptoBulk uptoBulkAll)
def g0(W:Go.World):G:={ imm:=fun b o=>W.cell? ⟨b,o,none⟩,rho:=fun _=>none,hist:=fun _ _=>none,keep:=fun k=>W.heap[k]?, io:=(W.os,W.output) }
abbrev OF (W : Go.World) : Prop := W.var? prog "internal/strconv.uint64pow10" = some (((List.range 20).map fun i => ((10 ^ i : Nat) : Int)).map fun z => Value.int .u64 z).toArray
theorem tabK0(W:Go.World)(h:OF W):TabK prog (g0 W):=fun w hk=>.inr ⟨by
 unfold OF at h
 unfold World.var? at h⊢
 cases hg : prog.globalNamed "internal/strconv.uint64pow10" with
 |none=>rw[hg]at h;cases h
 |some g=>
  rw[hg]at h
  simp only[Option.bind_some]at h⊢
  cases hw:W.heap[g]? with
  |none=>rw[hw]at h;cases h
  |some o=>rw[hw]at h;rw[hk g o hw];exact h,trivial⟩
theorem sim0(W:Go.World)(h:OF W):Sim prog (g0 W) (fun _=>none) W where
 imm:=fun _ _ _ h=>h
 keep:=fun _ _ h=>h
 obj:=fun _ _ h=>by cases h
 inj:=fun _ _ _ h=>by cases h
 free:=fun _ _ h=>by cases h
 htop:=fun _ _ _ _ h=>by cases h
 hdom:=fun _ _ _ h=>by cases h
 fin:=⟨0,fun _ _=>rfl⟩
 io:=rfl
 tab:=tabK0 W h
theorem In{α:Type}{p:Nat->α->Prop}: ∀n,(∀i,i<n->∃a,p i a)->∃l:List α,l.length=n /\ ∀i a,l[i]? = some a->p i a
 |0,_=>⟨[],rfl,fun i a h=>by simp at h⟩
 | n+1,h=>by
  obtain⟨l,hl,hp⟩:=In n fun i hi=>h i (by omega)
  obtain⟨a,ha⟩:=h n (by omega)
  refine⟨l++[a],by simp[hl],fun i b hb=>?_⟩
  by_cases hi:i<n
  ·rw[List.getElem?_append_left (by omega)]at hb;exact hp i b hb
  ·rw[List.getElem?_append_right (by omega)]at hb
   have h0:i-l.length=0:=by
    rcases Nat.eq_zero_or_pos (i-l.length)with h|h
    ·exact h
    ·rw[List.getElem?_eq_none (by simp;omega)]at hb;cases hb
   rw[h0]at hb
   simp at hb
   rw[show i=n by omega,<-hb];exact ha
theorem P6{g:G}{b:Nat}: ∀{ds:List D}{vs:List Value}{o:Nat},RepL g ds vs->(∀j v,vs[j]? = some v->g.imm b (o+j)=some v)->RepI g b o ds
 |[],_,_,_,_=>trivial
 |d::ds,_,o,⟨v,r,e,h1,h2⟩,hi=>by
  subst e
  exact⟨⟨v,hi 0 v rfl,h1⟩,P6 h2 fun j x hx=>by rw[Nat.add_assoc,Nat.add_comm 1 j];exact hi (j+1) x hx⟩
theorem P7{g:G}{b sz:Nat}: ∀{l:List (List D)}{o:Nat},(∀i e,l[i]? = some e->e.length=sz/\RepI g b (o+i*sz) e)->RepE g b sz o l
 |[],_,_=>trivial
 |e::l,o,h=>⟨by simpa using h 0 e rfl,P7 fun i x hx=>by
  have:=h (i+1) x hx
  rw[Nat.add_mul,Nat.one_mul,Nat.add_comm (i*sz),<-Nat.add_assoc]at this;exact this⟩
theorem TO{α H:Type}{wt:α->Nat}: ∀{l:List α}{xs:List (DataW H)},l.length=xs.length->(∀(i:Nat) a x,l[i]? = some a->xs[i]? = some x->wt a<=uptoBulk x)->wtL wt l<=uptoBulkAll xs
 |[],[],_,_=>Nat.zero_le _
 |a::l,x::xs,h,hp=>by
  have h1:=hp 0 a x rfl rfl
  have h2:=TO (l:=l) (xs:=xs) (by simpa using h) fun i b y hb hy=>hp (i+1) b y hb hy
  simp only[wtL,uptoBulkAll];omega
section
variable {H:Type}{enc:TypeId×Value->H}{W:Go.World}
noncomputable abbrev rd(enc:TypeId×Value->H)(W:Go.World)(n t:Nat)(cs:List Value):Option (DataW H×List MemPlace):=DataW.trod enc prog W 0 (fun _=>true) true n t cs
def Dec(enc:TypeId×Value->H)(W:Go.World){α:Type}(n t:Nat)(c:α->List D)(wt:α->Nat):Prop:= ∀cs x,rd enc W n t cs=some x->∃a,RepL (g0 W) (c a) cs/\wt a<=uptoBulk x.1
theorem Kh{t n:Nat}(ht:prog.underlying t=some (.int .i64)):Dec enc W n t (fun k:Int=>[dI k]) (fun _=>1):=fun cs x h=>by
 obtain⟨k,rfl,rfl,_⟩:=DataW.trod_int ht h
 exact⟨k,⟨_,[],rfl,rfl,rfl⟩,by simp[uptoBulk]⟩
theorem LA{α:Type}{t e sz n:Nat}{c:α->List D}{wt:α->Nat}(ht:prog.underlying t=some (.slice e))(hz:prog.cellsOf e=sz)(bf:0<sz)(hc:∀a,(c a).length=sz)(hd:∀m,m<n->Dec enc W m e c wt):
  Dec enc W n t (fun l:List α=>[sl (l.map c)]) (fun l=>1+wtL wt l):=fun cs x h=>by
 rcases DataW.trod_slice ht h with⟨rfl,rfl⟩|⟨a,len,cap,elems,rest,m,rfl,rfl,rfl,hb,hl,hm,hlen,bk, -, -⟩
 ·exact⟨[],⟨_,[],rfl,⟨Option.none,0,rfl,by simp,.inl rfl,trivial⟩,rfl⟩,by simp[uptoBulk,wtL]⟩
 ·have key:∀i,i<len->∃b:α, ∃y vs,elems[i]? = some y/\W.cells? 0 (a.add (i*sz)) sz=some vs/\RepL (g0 W) (c b) vs/\wt b<=uptoBulk y.1:=fun i hi=>by
   have h1:=bk i hi
   rw[hz,List.getElem?_eq_getElem (by omega)]at h1
   obtain⟨vs,h2,h3⟩:=Option.bind_eq_some_iff.1 h1
   obtain⟨b,h4,h5⟩:=hd m (by omega) vs _ h3
   exact⟨b,_,vs,List.getElem?_eq_getElem (by omega),h2,h4,h5⟩
  obtain⟨l,aL,hp⟩:=In len key
  refine⟨l,⟨_,[],rfl,⟨some a,cap,by simp[aL],by simpa[aL] using hl,?_,trivial⟩,rfl⟩,?_⟩
  ·cases aK:l with
   |nil=>exact .inl rfl
   | cons b0 l' =>
    rw[<-aK]
    have bh:0<len:=by rw[<-aL,aK];simp
    obtain⟨y,vs,k1,k2,k3,k4⟩:=hp 0 b0 (by rw[aK];rfl)
    obtain⟨_,k5,k6⟩:=World.cells?_some k2
    have aU:a.spot=none:=by
     have:=k6 0 (by omega)
     cases hs:a.spot with
     |none=>rfl
     |some q=>simp[World.cell?, Addr.add,hs]at this;split at this<;>simp_all
    obtain⟨ab,ao,asp⟩:=a
    simp only at aU
    subst aU
    refine .inr ⟨sz,ab,ao,rfl,P7 fun i e he=>?_⟩
    rw[List.getElem?_map]at he
    obtain⟨b,aw,rfl⟩:=Option.map_eq_some_iff.1 he
    obtain⟨y,vs,k1,k2,k3,k4⟩:=hp i b aw
    obtain⟨_,k5,k6⟩:=World.cells?_some k2
    refine⟨hc b,P6 k3 fun j v hv=>?_⟩
    have hj:j<sz:=by rw[<-k5];exact(List.getElem?_eq_some_iff.1 hv).1
    have:=k6 j hj
    rw[hv,Bj,Bj]at this
    exact this
  ·have:=TO (wt:=wt) (l:=l) (xs:=elems.map (·.1)) (by simp;omega) fun i b z aw ax=>by
    obtain⟨y,vs,k1,k2,k3,k4⟩:=hp i b aw
    rw[List.getElem?_map,k1]at ax
    simp at ax;subst ax;exact k4
   simp only[uptoBulk];omega
set_option maxRecDepth 100000
theorem KG{t n:Nat}{fs:Array Field}(ht:prog.underlying t=some (.struct fs)){cs:List Value}{x:DataW H×List MemPlace}(h:rd enc W n t cs=some x):
  ∃(xs:List (DataW H×List MemPlace)) (m:Nat),m<n/\uptoBulk x.1=uptoBulkAll (xs.map (·.1))+1/\cs.length=prog.cellsOf t/\xs.length=fs.size /\
   ∀(i:Nat) (f:Field),fs[i]? = some f->rd enc W m f.type ((cs.drop f.offset).take (prog.cellsOf f.type))=xs[i]? :=by
 obtain⟨xs,m,rfl,rfl,h1,h2,h3⟩:=DataW.trod_struct ht h
 exact⟨xs,m,by omega,by simp[uptoBulk],h1,h2,h3⟩
theorem cellsI:prog.cellsOf 3=1:=by kernel_rfl
theorem TD(n:Nat):Dec enc W n 23 (fun l:List Int=>[sl (cI l)]) (fun l=>1+wtL (fun _=>1) l):=LA underlying23 cellsI (by omega) (fun _=>rfl) fun _ _=>Kh underlying3
theorem TN{α:Type}: ∀l:List α,wtL (fun _=>1) l=l.length
 |[]=>rfl
 |x::l=>by rw[wtL,TN l,List.length_cons];omega
theorem Pc{m t off k:Nat}{cs cs':List Value}{o:Option (DataW H×List MemPlace)}(h:rd enc W m t ((cs.drop off).take (prog.cellsOf t))=o)(hk:prog.cellsOf t=k)(hc:(cs.drop off).take k=cs'):rd enc W m t cs'=o:=by rw[<-hc,<-hk];exact h
end
end Go.DL
namespace Go.DL
open Go.Proofs.Tryz
open Go Go.Proofs Go.ChangeShapes Go.WideShapes Go.ChangeAt Go.RowKit
open Go.Proofs.YteldimffglchkaaGreatDoor
open Go.Proofs.YteldimffglchkaaGreatDoor.Rows (uptoBulk uptoBulkAll)
set_option maxRecDepth 100000
theorem own:ownKnob prog.godebug=none:=by kernel_rfl
theorem PL{N:Nat}{us:List D}(h:E0 prog N us (fun _=>none) fun x _=>x=.ret (.bool true))(W:Go.World)(hP:OF W){vs:List Value}(hr:RepL (g0 W) us vs):
  Calls prog N vs.toArray W fun e W'=>e=.returned (.bool true)/\(∀(k:Nat) (o:Obj),W.heap[k]? = some o->W'.heap[k]? = some o)/\W'.os=W.os/\W'.output=W.output:=by
 refine CallsIn.calls (F:=FX prog { wide:=true }) (n:=0) ((h.run (g0 W) W vs _ rfl (sim0 W hP) hr).mono ?_) fun k=>Fs _ _ _
 rintro e W' ⟨g',x,U',aY,hs,hE,rfl⟩
 obtain⟨v,rfl,rfl⟩:=hE
 have aM:=hs.io.trans aY.io
 simp only[g0,Prod.mk.injEq]at aM
 exact⟨rfl,fun k o hk=>hs.keep k o (aY.keep k o hk),aM.1,aM.2⟩
theorem laidOut:laidOutB prog=true:=by kernel_rfl
section
variable {H:Type}{enc:TypeId×Value->H}{W W':Go.World}
theorem FE{sp:Nat->Bool}: ∀{ts:List TypeId}{vs:List Value}{ds:List (DataW H)}{ps:List MemPlace},(∀t∈ts,prog.readableRec t=true/\t<prog.types.size)->DataW.TrodAll enc prog W 0 (fun _=>true) true ts vs ds ps->(∀p∈ps,W.sameAt W' p)->(∀p∈ps,sp p.block=true)->DataW.TrodAll enc prog W' 0 sp true ts vs ds ps
 |[],vs,ds,ps,_,h,_,_=>by
  obtain⟨rfl,rfl,rfl⟩:=trodAll_nil h
  exact h
 | t::ts,vs,ds,ps,ht,h,h1,h2=>by
  obtain⟨v,vs1,d,ds1,a,b,rfl,rfl,rfl,k1,k2⟩:=trodAll_cons h
  exact⟨a,b,WideElems.Trod_stays laidOut (ht t (by simp)).1 (ht t (by simp)).2 k1 (fun p hp=>h1 p (by simp[hp])) (fun p hp=>h2 p (by simp[hp])),
   FE (fun t hx=>ht t (by simp[hx])) k2 (fun p hp=>h1 p (by simp[hp])) (fun p hp=>h2 p (by simp[hp])),rfl⟩
theorem same_of{p:MemPlace}(aa:∀(k:Nat) (o:Obj),W.heap[k]? = some o->W'.heap[k]? = some o)(hp:p.block<W.heap.size):W.sameAt W' p:=by
 have hk:∀b,b<W.heap.size->W'.heap[b]? = W.heap[b]? :=fun b hb=>by
  rw[Array.getElem?_eq_getElem hb];exact aa b _ (Array.getElem?_eq_getElem hb)
 cases p with
 |cell b off=>
  show W'.cell? ⟨b,off,none⟩=W.cell? ⟨b,off,none⟩
  unfold World.cell?
  rw[hk b hp]
 |map b=>exact hk b hp
theorem kept_of{may:MemPlace->Prop}(aa:∀(k:Nat) (o:Obj),W.heap[k]? = some o->W'.heap[k]? = some o)(ak:W'.os=W.os)(ae:W'.output=W.output):W.keptBut W' may:=by
 refine⟨ak,ae,fun i hi=>?_⟩
 have h:=Array.getElem?_eq_getElem hi
 rw[h,aa i _ h]
 cases W.heap[i]<;>simp
theorem SR{f:Func}{s:ChangeSpec}{args:Array Value}{ds gs:List (DataW H)}{before:List MemPlace}(hv:s.vars=[])(aD:f.resultTypes=#[4])(bd:∀t∈f.params.toList,prog.readableRec t=true/\t<prog.types.size)
  (hW:DataW.Whole enc prog f.params.toList s.vars false W args.toList ds gs before) (ap:s.fn H (ds++gs)={ results:=[.lit (.bool true)],args:=ds })
  (aa:∀(k:Nat) (o:Obj),W.heap[k]? = some o->W'.heap[k]? = some o) (ak:W'.os=W.os) (ae:W'.output=W.output):s.post enc prog f false true false false W args (.bool true) W':=by
 have au:=hW.lt
 have aR:=hW
 obtain⟨p,q,hA,hV,rfl,ba,aI⟩:=hW
 rw[hv]at hV
 obtain⟨rfl,rfl⟩:=trodVars_none hV
 have aj:∀x∈p,W.sameAt W' x:=fun x hx=>same_of aa (by simpa using au x (by simp[hx]))
 refine⟨ds,[],p++[],[],p,[],aR,?_,?_,?_,kept_of aa ak ae,fun h=>by cases h⟩
 ·rw[aD,ap]
  exact trodAll_cons_mk (shut_bool underlying4 _) trodAll_mk0
 ·rw[ap]
  exact FE bd hA aj fun x hx=>by simpa using au x (by simp[hx])
 ·rw[ap,hv]
  rfl
end
abbrev laids : List (String × DataW Unit) := [("math/bits.deBruijn32tab", Rows.laid_math_bits_deBruijn32tab), ("math/bits.deBruijn64tab", Rows.laid_math_bits_deBruijn64tab), ("internal/strconv.uint64pow10", Rows.laid_internal_strconv_uint64pow10)]
theorem gPow : prog.globalNamed "internal/strconv.uint64pow10" = some 1 := by kernel_rfl
theorem gPowT:(prog.globals[1]?).map (·.type)=some 389:=by kernel_rfl
theorem TI:prog.cellsOf 389=20:=by kernel_rfl
theorem TJ:prog.cellsOf 338=1:=by kernel_rfl
theorem laidF : laids.filter (fun x => x.1 == "internal/strconv.uint64pow10") = [("internal/strconv.uint64pow10", Lib.tabData .u64 ((List.range 20).map fun i => ((10 ^ i : Nat) : Int)))] := by kernel_rfl
theorem SA{W:Go.World}(h:laidMetH prog laids W):OF W:=by
 have h2 := h.filter (fun x => x.1 == "internal/strconv.uint64pow10")
 rw[laidF]at h2
 exact Lib.tabIs_of_head (rest:=[]) gPow gPowT underlying389 underlying338 TJ TI h2
def Sm:DataW Unit->Array Value
 |.agg xs=>(xs.map fun x=>match x with
  |.lit (.int k z)=>Value.int k z
  |_=>Value.int .i64 0).toArray
 |_=> #[]
def OU(x:DataW Unit):Obj->Obj
 |.cells _ t frozen=>.cells (Sm x) t frozen
 |o=>o
noncomputable def I1(os:Os):Go.World:=
 {Go.World.holding prog os ⟨#[], #[],[]⟩with heap:=(((Go.World.holding prog os ⟨#[], #[],[]⟩).heap.modify 6 (OU Rows.laid_math_bits_deBruijn32tab)).modify 7 (OU Rows.laid_math_bits_deBruijn64tab)).modify 1 (OU Rows.laid_internal_strconv_uint64pow10) }
theorem noGo:prog.funcs.any Func.goes=false:=by kernel_rfl
theorem goes_no(c:OpenClaim)(hs:c.start=.entering):false=c.goesBy Tryz.pinned.checked.prog:=by
 have key:∀f,prog.goes f=false:=fun f=>by
  unfold Program.goes
  rw[noGo,Bool.and_false,Bool.or_false,List.any_eq_false]
  intro g _
  cases hg:prog.funcs[g]? with
  |none=>simp
  |some fn=>
   have:=Array.any_eq_false.1 noGo g (Array.getElem?_eq_some_iff.1 hg).1
   rw[(Array.getElem?_eq_some_iff.1 hg).2]at this
   simpa using this
 show false=prog.goesAt c.start c.func
 unfold Program.goesAt Program.goesFrom
 rw[hs]
 cases h:prog.funcNamed c.func with
 |none=>rfl
 |some f=>simp[key f]
end Go.DL
namespace Go.DL
open Go.Proofs.Tryz
open Go Go.Proofs
set_option maxHeartbeats 8000000
def cIns(x:CIns):List D:=[dI x.op,dI x.a]
@[simp] theorem cIns_len(x:CIns):(cIns x).length=2:=rfl
@[simp] theorem cIns_flat(x:CIns):Bz (cIns x)=true:=rfl
abbrev cLev(l:CLev):List D:=[dI l.st,dI l.env]
theorem U5:EqTy prog 87:=⟨by kernel_rfl,by kernel_rfl,by kernel_rfl⟩
theorem Rv:EqTy prog 79:=⟨by kernel_rfl,by kernel_rfl,by kernel_rfl⟩
theorem TV:(tab 87).k=.struct [(0,85),(1,3)]:=rfl
theorem PM:(tab 79).k=.struct [(0,3),(1,3)]:=rfl
theorem eqIns(a b:CIns):eqFs tab (cIns a) (cIns b) [(0,85),(1,3)]=some (decide (a=b)):=by
 cases a;cases b
 simp[cIns,CIns.mk.injEq,Bool.decide_and]
theorem eqLev(a b:CLev):eqFs tab (cLev a) (cLev b) [(0,3),(1,3)]=some (decide (a=b)):=by
 cases a;cases b
 simp[cLev,CLev.mk.injEq,Bool.decide_and]
theorem Td(op:Int)(O:Sig):DCall prog 72 [dI op] O (rS (.bool (hasA op)) O):=by
 refine en func72 ntmps72 ?_
 repeat' first|refine gz ?_|apply gy<;>intro hh
 any_goals (first|(refine fin1 (U':=O) ?_;exact⟨by first|rfl|(simp[Go.DL.hasA];done)|(simp_all [Go.DL.hasA];done)|(rw[Am,Bool.eq_iff_iff];simp_all [Go.DL.hasA]<;>omega),rfl⟩)|fail)
@[reducible,instance] def a72:=fun op O=>ah0 (@Td op O)
theorem EN(n:Int)(O:Sig):DCall prog 150 [dI n] O (rS (.bool (!farN n)) O):=by
 refine en func150 ntmps150 ?_
 repeat' first|refine gz ?_|apply gy<;>intro hh
 any_goals (first|(refine fin1 (U':=O) ?_;exact⟨by first|rfl|(simp[farN];done)|(simp_all [farN];done)|(rw[Am,Bool.eq_iff_iff];simp_all [farN]<;>omega),rfl⟩)|fail)
@[reducible,instance] def a150:=fun n O=>ah0 (@EN n O)
def unfC:D:=.iface 245 (.agg [])
theorem Ta(b:Bool)(O:Sig):DCall prog 78 [.bool b] O fun x U'=>x=(if b then .ret (.tup []) else .panic unfC)/\U'=O:=by
 refine en func78 ntmps78 ?_
 cases b
 ·refine gz ?_
  refine pan ?_
  exact finP (U':=O) ⟨rfl,rfl⟩
 ·refine gz ?_
  exact DS (U':=O) ⟨rfl,rfl⟩
@[reducible,instance] def a78:=fun b O=>gh0 (@Ta b O)
theorem GZ{P:Program}{F:Fence}{n:Nat}{Q:Exit->Act->List Frame->Go.World->Prop}{a:Act}{cs cs':List Frame}{w:Go.World}{id t4 ty1:Nat}{p1:String}{a1:Array Edge}{rest:Code}{v:Value}
  (aG:recoverD cs=some (v,cs')\/(recoverD cs=none/\v=.nilIface/\cs'=cs)) (aA:t4<a.tmps.size)
  (h:rest.wpSIn F n P Q (a.put (some t4) v) cs' w) :
  (Code.seq (.region id #[⟨some t4,.call { callee:=.builtin .recover,args:= #[],argTypes:= #[] },ty1,p1,a1,none⟩] false) rest).wpSIn F n P Q a cs w:=by
 refine wpSIn_seq (wpSIn_region ?_)
 have hr:List.range (#[(⟨some t4,.call { callee:=.builtin .recover,args:= #[],argTypes:= #[] },ty1,p1,a1,none⟩:Oper)]:Array Oper).size=[0]:=rfl
 rw[hr]
 exact H5 (o:=⟨some t4,.call { callee:=.builtin .recover,args:= #[],argTypes:= #[] },ty1,p1,a1,none⟩) rfl rfl (fun f h=>by cases h) rfl aG h
theorem LB{P:Program}{f:Nat}{fn:Func}{id t4 ty1:Nat}{p1:String}{a1:Array Edge}{rest:Code}{args:List D}{O U':Sig}{pan:Option D}{m:Nat}
  (hf:P.funcs[f]? = some fn) (hb:fn.body=some (Code.seq (.region id #[⟨some t4,.call { callee:=.builtin .recover,args:= #[],argTypes:= #[] },ty1,p1,a1,none⟩] false) rest))
  (hm:fn.ntmps=m) (hn:args.length<=m) (aA:t4<m) (aF:fn.results=#[])
  (h:DWp P .none m rest (fun x s=>(x=.normal\/x=.ret)/\s.df=[]/\Sub U' s.O) ⟨(t4,pan.getD .niliface)::Bs 0 args,O,[]⟩):Kp P f args O pan U':=by
 intro g w vs u hs ha hu
 subst hm
 have au:f<P.funcs.size:=(Array.getElem?_eq_some_iff.1 hf).1
 refine callsDIn_of_wpSIn hf hb (Fe au _) fun c₀ cs hc=>?_
 have hT:=DK ha hn
 have aH:∀(d:D) (v:Value),Rep g d v->RepT g ((t4,d)::Bs 0 args) fn.ntmps (({ tmps:=vs.toArray++Array.replicate (fn.ntmps-vs.toArray.size) undef,defers:=[] }:Act).put (some t4) v).tmps:=by
  intro d v hv
  exact RepT.put (o := ⟨some t4, .move (.tmp 0), 0, "", #[], none⟩) (a := { tmps := vs.toArray ++ Array.replicate (fn.ntmps - vs.toArray.size) undef, defers := [] }) hT hv (by simp [Ap, aA])
 have hsz:t4<(vs.toArray++Array.replicate (fn.ntmps-vs.toArray.size) undef).size:=by rw[hT.1];exact aA
 have fin:∀(d:D) (v:Value) (u':FrameMode) (cs':List Frame),pan.getD .niliface=d->Rep g d v->settle u'=.returning->cs'={ c₀ with mode:=u' }::cs->
   rest.wpSIn (FX P {}) 0 P (bodyPostS P fn c₀ cs fun e u' w'=>(∃v,e=.returned v)/\settle u'=.returning /\ ∃g',g.le g'/\Sim P g' U' w')
    (({ tmps:=vs.toArray++Array.replicate (fn.ntmps-vs.toArray.size) undef,defers:=[] }:Act).put (some t4) v) cs' w:=by
  intro d v u' cs' hd hv ai ag
  refine wpSIn_of_wpIn rfl ?_
  subst hd
  refine wpIn_mono (h g w _ {} rfl ⟨hs,aH _ v hv,rfl⟩) ?_
  rintro e a w' ⟨g',s',x,l1,l2,l3,hx,bl,ah⟩
  have hd:a.defers=[]:=DN l2.df bl
  have hr:(results fn a.tmps).run P w'=.ok (.tuple #[]) w':=by simp[results,aF]
  rcases hx with rfl|rfl
  ·obtain rfl:=l3
   exact⟨hd,u',ag,_,hr,⟨_,rfl⟩,ai,g',l1,l2.sim.sub ah⟩
  ·obtain rfl:=l3
   exact⟨hd,u',ag,_,hr,⟨_,rfl⟩,ai,g',l1,l2.sim.sub ah⟩
 cases pan with
 |none=>
  have hu:u=.returning:=hu
  subst hu
  refine GZ (v:=.nilIface) (cs':=c₀::cs) (.inr ⟨?_,rfl,rfl⟩) hsz (fin .niliface .nilIface .returning _ rfl rfl rfl ?_)
  ·simp[recoverD,hc]
  ·rw[<-hc]
 |some d=>
  obtain⟨v,rfl,hv⟩:=hu
  refine GZ (v:=v) (cs':={ c₀ with mode:=.panicking [{ v,recovered:=true }] }::cs) (.inl ?_) hsz (fin d v (.panicking [{ v,recovered:=true }]) _ rfl hv rfl rfl)
  simp[recoverD,hc]
theorem Lj(i:Nat)(b:Bool)(O:Sig)(hi:O i=some (.cells [.bool b])):Kp prog 160 [.ptr i 0] O none O/\Kp prog 160 [.ptr i 0] O (some unfC) (O.set i (.cells [.bool false])):=by
 constructor
 ·refine LB func160 rfl ntmps160 (by simp) (by decide) rfl ?_
  simp only[Option.getD_none]
  repeat' first|refine gz ?_|apply gy<;>intro hh
  exact⟨.inl rfl,rfl,Sub.refl _⟩
 ·refine LB func160 rfl ntmps160 (by simp) (by decide) rfl ?_
  simp only[Option.getD_some]
  repeat' first|refine gf hi ?_|apply gy<;>intro hh
  exact⟨.inl rfl,rfl,Sub.refl _⟩
theorem Nd(g:Nat)(cap:List D)(O:Sig)(R:Sig->DE->Sig->Prop)
  (hg:∀i,O i=none->DCall prog g cap (O.set i (.cells [.bool false])) (R (O.set i (.cells [.bool false]))))
  (hR:∀U' d S'',R U' (.panic d) S''->d=unfC) (hk:∀i S'' x,O i=none->R (O.set i (.cells [.bool false])) x S''->S'' i=some (.cells [.bool false])) :
  DCall prog 76 [.func (.func g) [] cap] O fun x U'=> ∃i S'',O i=none/\U'=S''.del i /\
   ((∃d,R (O.set i (.cells [.bool false])) (.ret d) S''/\x=.ret (.bool true))\/(R (O.set i (.cells [.bool false])) (.panic unfC) S''/\x=.ret (.bool false))):=by
 refine Gp (fd:=160) func76 rfl (BA func160 (by rfl) (by rfl)) (by rw[Af];decide) (by decide) ntmps76 (by simp) ?_
 refine gz ?_ [] [2]
 refine newV (fun i hi=>?_)
 refine gz ?_ [] [2]
 refine Js (f:=160) (by rw[Af];decide) rfl rfl ?_
 refine gz ?_ [] [2]
 refine A3 (hg i hi) (fun d U' hr=>?_) (fun d U' hp=>?_)
 ·have aN:=hk i U' _ hi hr
  refine gf aN ?_ [] [2]
  refine⟨_,Wk.refl _ _ _,[.ptr i 0],U'.set i (.cells [.bool true]),.bool true,rfl,(Lj i true _ (w6 ..)).1,D8 (ds:=[.bool true]) Ab ?_,.ret (.bool true),U'.del i,A8 _,JO,i,U',hi,rfl,.inl ⟨d,hr,rfl⟩⟩
  simp[resL]
 ·have aN:=hk i U' _ hi hp
  obtain rfl:=hR _ _ _ hp
  refine gz ?_ [] [2]
  refine⟨_,Wk.refl _ _ _,[.ptr i 0],U'.set i (.cells [.bool false]),.bool false,rfl,(Lj i false _ aN).2,D8 (ds:=[.bool false]) Ab ?_,.ret (.bool false),U'.del i,A8 _,JO,i,U',hi,rfl,.inr ⟨hp,rfl⟩⟩
  simp[resL]
abbrev cCPg(c:CProg):List D:=[sl (c.ins.map cIns),sl (cI c.starts),dI c.main]
def cChk(p:BProg)(c:CProg)(im:Nat):D:=.cptr (cCPg c++Ag p++[.map im]) 0
theorem QU(p:BProg)(c:CProg)(im:Nat)(x:CIns)(O:Sig)(hp:p.wt<=1073741824)(hx:x.op=19->0<=x.a/\x.a<p.gens.length):DCall prog 171 [cChk p c im,.agg (cIns x)] O (rS (.tup [dI (Ao p x).1,dI (Ao p x).2]) O):=by
 obtain⟨p1,p2,p3,p4,p5,p6,p7⟩:=p.wt_le
 by_cases ar:x.op=19
 ·obtain⟨h1,h2⟩:=hx ar
  have e:p.gens.getD x.a.toNat 0=p.gens[x.a.toNat]'(by omega):=by rw[List.getD_eq_getElem?_getD,List.getElem?_eq_getElem (by omega)];rfl
  refine en func171 ntmps171 ?_
  repeat' first|refine gf ar ?_ o171|apply gy<;>intro hh
  any_goals (first|(refine fin2 (U':=O) ?_;exact⟨by first|rfl|(simp[Ao,ar,e];done)|(simp_all [Ao,ar,e];done)|(rw[Am,Bool.eq_iff_iff];simp_all [Ao,ar,e]<;>omega),rfl⟩)|fail)
 ·refine en func171 ntmps171 ?_
  repeat' first|refine gz ?_ o171|apply gy<;>intro hh
  any_goals (first|(refine fin2 (U':=O) ?_;exact⟨by first|rfl|(simp[Ao];done)|(simp_all [Ao];done)|(rw[Am,Bool.eq_iff_iff];simp_all [Ao]<;>omega),rfl⟩)|fail)
theorem T0{p:BProg}{N q:Nat}{x:CIns}(h:x.op<1\/21<x.op):fitsQ p N q x=false:=by
 unfold fitsQ;rw[if_neg (by omega),if_neg (by omega),if_neg (by omega),if_neg (by omega),if_neg (by omega),if_neg (by omega),decide_eq_false (by omega)]
theorem T6(p:BProg)(c:CProg)(im:Nat)(q:Nat)(x:CIns)(O:Sig)(hp:p.wt<=1073741824)(hc:c.ins.length<=300)(hq:q<300)(hs : -1000<=p.slots/\p.slots<=1000):DCall prog 99 [cChk p c im,dI q,.agg (cIns x)] O fun r U'=>r=(if fitsQ p c.ins.length q x then .ret (.tup []) else .panic unfC)/\U'=O:=by
 obtain⟨p1,p2,p3,p4,p5,p6,p7⟩:=p.wt_le
 refine en func99 ntmps99 ?_
 repeat' first|((refine finP (U':=O) ⟨?_,rfl⟩;have e:fitsQ p c.ins.length q x=false:=(by first|(simp_all [fitsQ,inB]<;>omega)|exact T0 (by omega));rw[e];rfl))|refine gz ?_ o99|apply gy<;>intro hh
 any_goals (first|(refine DS (U':=O) ⟨?_,rfl⟩;have e:fitsQ p c.ins.length q x=true:=(by simp_all [fitsQ,inB]<;>omega);rw[e];rfl)|fail)
@[reducible,instance] def a99:=fun p c im q x O=>gh4 (@T6 p c im q x O)
end Go.DL
namespace Go.DL
open Go.Proofs.Tryz
open Go Go.Proofs Go.ChangeShapes Go.WideShapes Go.ChangeAt Go.RowKit
open Go.Proofs.YteldimffglchkaaGreatDoor
open Go.Proofs.YteldimffglchkaaGreatDoor.Rows (uptoBulk uptoBulkAll)
set_option maxRecDepth 100000
section
variable {H:Type}{enc:TypeId×Value->H}{W:Go.World}{base:Nat}
theorem TE(n:Nat):Dec enc W n 87 cIns (fun _=>1):=fun cs x h=>by
 obtain⟨xs,m,hm,hb,hl,hx,hf⟩:=KG underlying87 h
 rw[show prog.cellsOf 87=2 by kernel_rfl]at hl
 match cs,hl with
 | [v0,v1],_ =>
  match xs,hx with
  |[x0,x1],_=>
   obtain⟨a0,r0,w0⟩:=Kh underlying85 [v0] x0 (Pc (hf 0 _ rfl) (show prog.cellsOf 85=1 by kernel_rfl) rfl)
   obtain⟨a1,r1,w1⟩:=Kh underlying3 [v1] x1 (Pc (hf 1 _ rfl) cellsI rfl)
   refine⟨⟨a0,a1⟩,r0.append r1,?_⟩
   rw[hb];simp only[uptoBulkAll,List.map_cons,List.map_nil];omega
def CProg.wt(c:CProg):Nat:=c.ins.length+c.starts.length
theorem RH(n:Nat):Dec enc W n 30 cCPg CProg.wt:=fun cs x h=>by
 obtain⟨xs,m,hm,hb,hl,hx,hf⟩:=KG underlying30 h
 rw[show prog.cellsOf 30=3 by kernel_rfl]at hl
 match cs,hl with
 | [v0,v1,v2],_ =>
  match xs,hx with
  |[x0,x1,x2],_=>
   obtain⟨a0,r0,w0⟩:=LA underlying28 (by kernel_rfl:prog.cellsOf 87=2) (by omega) (fun _=>rfl) (fun _ _=>TE _) [v0] x0 (Pc (hf 0 _ rfl) (show prog.cellsOf 28=1 by kernel_rfl) rfl)
   obtain⟨a1,r1,w1⟩:=TD _ [v1] x1 (Pc (hf 1 _ rfl) (show prog.cellsOf 23=1 by kernel_rfl) rfl)
   obtain⟨a2,r2,w2⟩:=Kh underlying3 [v2] x2 (Pc (hf 2 _ rfl) cellsI rfl)
   refine⟨⟨a0,a1,a2⟩,r0.append (r1.append r2),?_⟩
   rw[hb];clear hf hx hl;simp only[TN]at*; simp only[CProg.wt,uptoBulkAll,List.map_cons,List.map_nil];omega
theorem Pb{v:Value}{d:DataW H}{ps:List MemPlace}(ac:Value.okWide prog W .any base 30 v)(h:DataW.Trod enc prog W 0 (fun _=>true) true 30 v d ps): ∃c:CProg,Rep (g0 W) (.agg (cCPg c)) v/\c.wt<=Rows.uptoBulk d:=by
 obtain⟨cs,rfl,_⟩:=okWide_struct underlying30 ac
 obtain⟨n,hn⟩:=h
 obtain⟨c,h1,h2⟩:=RH n _ _ hn
 exact⟨c,⟨cs.toList,by simp,h1⟩,h2⟩
theorem NT:prog.readableRec 30=true:=by kernel_rfl
theorem Kv:30<prog.types.size:=of_decide_eq_true (by kernel_rfl)
end
section
variable {H:Type}{enc:TypeId×Value->H}{W:Go.World}{base:Nat}
theorem IY{t:TypeId}{k:IntKind}{v:Value}(ht:prog.underlying t=some (.int k))(h:Value.okWide prog W .any base t v): ∃z:Int,Rep (g0 W) (.int k z) v/\k.min<=z/\z<=k.max:=by
 obtain⟨z,rfl⟩:=okWide_int ht h
 refine⟨z,rfl,?_⟩
 simp only[Value.okWide,ht,Cell.okWide,Cell.ok]at h
 have h:k.has z:=by simpa using h
 exact⟨h.1,h.2⟩
theorem NS:prog.readableRec 52=true:=by kernel_rfl
theorem Ku:52<prog.types.size:=of_decide_eq_true (by kernel_rfl)
theorem P9:prog.readableRec 5=true:=by kernel_rfl
theorem LW:5<prog.types.size:=of_decide_eq_true (by kernel_rfl)
theorem law3u{N:Nat}{f:Func}(hf:f.params=#[30,52,5])(aD:f.resultTypes=#[4])(hN:∀(c:CProg) (a b:Nat),c.wt<=1048576->a<=65535->b<=255->E0 prog N [.agg (cCPg c),.int .u16 (a:Int),.int .u8 (b:Int)] (fun _=>none) fun x _=>x=.ret (.bool true))
  {s:ChangeSpec} (hv:s.vars=[]) (ap:∀d e k,s.fn H [d,e,k]={ results:=[.lit (.bool true)],args:=[d,e,k] }) {args:Array Value}{ds gs:List (DataW H)}{before:List MemPlace}
  (ac:∀(j:Nat) t v,f.params[j]? = some t->args[j]? = some v->Value.okWide prog W .any base t v)
  (hW:DataW.Whole enc prog f.params.toList s.vars false W args.toList ds gs before) (hk:Rows.uptoSmall H (ds++gs)=true) (hP:OF W) :
  Calls prog N args W fun e W'=> ∃v,e=.returned v/\s.post enc prog f false true false false W args v W':=by
 have aR:=hW
 obtain⟨p,q,hA,hV,rfl,ba,aI⟩:=hW
 rw[hv]at hV
 obtain⟨rfl,rfl⟩:=trodVars_none hV
 rw[hf]at hA ac
 obtain⟨v0,vs0,d0,ds0,p0,q0,bb,rfl,rfl,h0,r0⟩:=trodAll_cons hA
 obtain⟨v1,vs1,d1,ds1,p1,q1,aQ,rfl,rfl,h1,r1⟩:=trodAll_cons r0
 obtain⟨v2,vs2,d2,ds2,p2,q2,aP,rfl,rfl,h2,r2⟩:=trodAll_cons r1
 obtain⟨rfl,rfl,rfl⟩:=trodAll_nil r2
 obtain rfl:args=#[v0,v1,v2]:=by cases args;simp_all
 have hb:Rows.uptoBulk d0+(Rows.uptoBulk d1+(Rows.uptoBulk d2+0))<=1048576:=of_decide_eq_true hk
 obtain⟨c,hc,bx⟩:=Pb (ac 0 30 v0 rfl rfl) h0
 obtain⟨za,ha,bC,bB⟩:=IY underlying52 (ac 1 52 v1 rfl rfl)
 obtain⟨zb,bq,aw,bA⟩:=IY underlying5 (ac 2 5 v2 rfl rfl)
 obtain⟨a,rfl⟩:∃a:Nat,za=a:=⟨za.toNat,by have e:IntKind.u16.min=0:=rfl;omega⟩
 obtain⟨b,rfl⟩:∃b:Nat,zb=b:=⟨zb.toNat,by have e:IntKind.u8.min=0:=rfl;omega⟩
 have e1:IntKind.u16.max=65535:=rfl
 have e2:IntKind.u8.max=255:=rfl
 refine(PL (hN c a b (by omega) (by omega) (by omega)) W hP (vs:=[v0,v1,v2]) ⟨v0,[v1,v2],rfl,hc,v1,[v2],rfl,ha,v2,[],rfl,bq,rfl⟩).mono fun e W' ⟨he,aa,ak,ae⟩=>?_
 refine⟨_,he,SR hv aD (fun t ht=>?_) aR (ap d0 d1 d2) aa ak ae⟩
 rw[hf]at ht
 have ht:t=30\/t=52\/t=5:=by simpa using ht
 rcases ht with rfl|rfl|rfl
 ·exact⟨NT,Kv⟩
 ·exact⟨NS,Ku⟩
 ·exact⟨P9,LW⟩
end
end Go.DL
namespace Go.DL
open Go.Proofs.Tryz
open Go Go.Proofs
set_option maxHeartbeats 8000000
theorem Lc(l:List CIns)(q:CIns->Bool)(g:Nat)(cap:List D)(o:Own)(O:Sig)(hl:l.length<=1073741824)(hg:∀x∈l,DCall prog g ([]++[.agg (cIns x)]++cap) O fun r S''=>r=.ret (.bool (q x))/\S''=O):DCall prog 231 [.slice (l.map cIns) o,.func (.func g) [] cap] O (rS (dI (idxF q l 0)) O):=by
 refine en func231 ntmps231 ?_
 refine gz ?_
 refine CJ [0,1,7] (fun (k:Nat)=>k<=l.length/\idxF q l 0=idxF q (l.drop k) k) (fun k=>[(8,dI k)]) (fun _=>O) (fun k=>l.length-k) (0) (by simp) (fun k hI=>?_)
 obtain⟨hk,hR⟩:=hI
 by_cases h:k<l.length
 ·rw[Ac h,idxF]at hR
  repeat' first|refine C3 (hg (l[k]) (List.getElem_mem h)) ?_|refine callP (hg (l[k]) (List.getElem_mem h)) ?_|refine gz ?_|apply gy<;>intro hh
  ·rw[hh]at hR
   exact fe1 hR
  ·rw[hh]at hR
   exact⟨k+1,⟨by omega,hR⟩,td1,wkR⟩
 ·rw[Ai h,idxF]at hR
  refine gz ?_
  exact fe1 hR
theorem Lm(l:List CIns)(q:CIns->Bool)(g:Nat)(cap:List D)(o:Own)(O:Sig)(hl:l.length<=1073741824)(hg:∀x∈l,DCall prog g ([]++[.agg (cIns x)]++cap) O fun r S''=>r=.ret (.bool (q x))/\S''=O):DCall prog 152 [.slice (l.map cIns) o,.func (.func g) [] cap] O (rS (.bool (l.any q)) O):=by
 refine en func152 ntmps152 ?_
 repeat' first|refine gz ?_|refine C3 (Lc l q g cap o O hl hg) ?_|refine callP (Lc l q g cap o O hl hg) ?_|refine gz ?_|apply gy<;>intro hh
 rw[<-CZ q l 0]
 exact fe1 trivial
theorem Lk(x:CIns)(O:Sig):DCall prog 154 [.agg (cIns x)] O (rS (.bool (El x)) O):=by
 refine en func154 ntmps154 ?_
 repeat' first|refine gz ?_|apply gy<;>intro hh
 rotate_left 2
 ·have hn:¬x.op=1:=fun e=>by rw[e]at hh;cases hh
  refine eqlS _ (decide (x=⟨x.op,0⟩)) U5 TV (eqIns x ⟨x.op,0⟩) ?_
  have he:decide (x=⟨x.op,0⟩)=decide (x.a=0):=by rcases x with⟨o,a⟩;simp
  refine gz ?_
  refine fin1 (U':=O) ⟨?_,rfl⟩
  rw[he];unfold El;rw[hh];simp;omega
 all_goals
  refine fin1 (U':=O) ⟨?_,rfl⟩
  rw[Am,Bool.eq_iff_iff]
  unfold El inB farN
  simp_all<;>omega
theorem Ll(x:CIns)(O:Sig):DCall prog 153 [.agg (cIns x)] O (rS (.bool (!El x)) O):=by
 refine en func153 ntmps153 ?_
 repeat' first|refine gz ?_|refine C3 (Lk x O) ?_|refine callP (Lk x O) ?_|refine gz ?_|apply gy<;>intro hh
 exact fe1 trivial
theorem Nf(c:CProg)(O:Sig)(h1:c.ins.length<=1073741824)(h2:c.starts.length<=1073741824):DCall prog 70 [.agg (cCPg c)] O (rS (.bool (CG c)) O):=by
 refine en func70 ntmps70 ?_
 by_cases c1:c.ins.length<=300
 rotate_left
 ·refine gz ?_
  refine skipV ?_
  refine gz ?_
  refine fin1 (U':=O) ?_
  refine⟨?_,rfl⟩
  rw[Am,Bool.eq_iff_iff]
  unfold CG
  simp[c1]
 by_cases c2:c.starts.length<=16
 rotate_left
 ·refine gz ?_
  refine skipV ?_
  refine gz ?_
  refine fin1 (U':=O) ?_
  refine⟨?_,rfl⟩
  rw[Am,Bool.eq_iff_iff]
  unfold CG
  simp[c2]
 repeat' first|refine CP (EN c.main) ?_|refine callPG (EN c.main) ?_|refine CP (Ln c.starts (fun n=> !farN n) 150 [] .no O h2 (fun n _=>EN n O)) ?_|refine callPG (Ln c.starts (fun n=> !farN n) 150 [] .no O h2 (fun n _=>EN n O)) ?_|refine CP (Lm c.ins (fun x=> !El x) 153 [] .no O h1 (fun x _=>Ll x O)) ?_|refine callPG (Lm c.ins (fun x=> !El x) 153 [] .no O h1 (fun x _=>Ll x O)) ?_|refine gz ?_|apply gy<;>intro hh
 all_goals
  refine fin1 (U':=O) ?_
  refine⟨?_,rfl⟩
  rw[Am,Bool.eq_iff_iff]
  unfold CG
  rw[decide_eq_true c1,decide_eq_true c2]
  simp_all
 ·obtain⟨x,h1,h2⟩:=hh
  intro h3
  rw[h3 x h1]at h2;cases h2
@[reducible,instance] def a70:=fun c O=>ah2 (@Nf c O)
theorem T9(O:Sig):DCall prog 85 [] O (rS (.slice (cS wordsC) .clip) O):=by
 refine en func85 ntmps85 ?_
 refine gz ?_
 exact fe1 trivial
@[reducible,instance] def a85:=fun O=>ah0 (@T9 O)
end Go.DL
set_option linter.unusedVariables false
namespace Go.Proofs
open Go.Proofs.Tryz
open Go.RowKit Go.Shelf
theorem sizeB:(prog.info? 159).map (·.size)=some 2:=by kernel_rfl
set_option maxHeartbeats 1000000 in
set_option maxRecDepth 100000 in
theorem IK(b:Nat)(w:World)(h0:w.cell? ⟨b,0,none⟩=some (.pointer (some ⟨b,0,none⟩))):
  Calls prog 161 #[.pointer (some ⟨b,0,none⟩)] w fun e w'=>e=.returned (.tuple #[])/\w'=w:=by
 obtain⟨j,hj,_⟩:=Option.map_eq_some_iff.1 sizeB
 have mixed:prog.follows .mixedOrders=true:=by kernel_rfl
 have t72:=underlying159;have a72:=isAgg159;have z72:=sizeOf159;have v72:=zeroValue159;have u72:=run_underlying underlying159
 have t70:=underlying157;have a70:=isAgg157;have z70:=sizeOf157;have v70:=zeroValue157;have u70:=run_underlying underlying157
 have t4:=underlying4;have a4:=isAgg4;have z4:=sizeOf4;have v4:=zeroValue4;have u4:=run_underlying underlying4
 go_enter func161,ntmps161
 go_wp2
 rw[Lib.run_neq_ptr_same w _ underlying157 hj]
 go_wp2
 go_end0
 exact⟨rfl,rfl⟩
set_option maxHeartbeats 1000000 in
set_option maxRecDepth 100000 in
theorem Im(b:Nat)(w:World)(h0:w.cell? ⟨b,0,none⟩=some (.pointer none))(aV:w.shape? b=some (159,2))(ba:w.frozen? ⟨b,0,none⟩=false):
  Calls prog 161 #[.pointer (some ⟨b,0,none⟩)] w fun e w'=>e=.returned (.tuple #[])/\w'=w.setCell ⟨b,0,none⟩ (.pointer (some ⟨b,0,none⟩)):=by
 obtain⟨j,hj,bi⟩:=Option.map_eq_some_iff.1 sizeB
 have mixed:prog.follows .mixedOrders=true:=by kernel_rfl
 have t72:=underlying159;have a72:=isAgg159;have z72:=sizeOf159;have v72:=zeroValue159;have u72:=run_underlying underlying159
 have t70:=underlying157;have a70:=isAgg157;have z70:=sizeOf157;have v70:=zeroValue157;have u70:=run_underlying underlying157
 have t4:=underlying4;have a4:=isAgg4;have z4:=sizeOf4;have v4:=zeroValue4;have u4:=run_underlying underlying4
 have t301:=underlying301;have a301:=isAgg301;have z301:=sizeOf301;have v301:=zeroValue301;have u301:=run_underlying underlying301
 have am:liesAt prog prog.depth 159 (2 / prog.cellsOf 159) 0 159 1=true:=by kernel_rfl
 go_enter func161,ntmps161
 go_wp2
 rw[Lib.run_to_unsafe w ⟨b,0,none⟩ underlying157 underlying301 hj (by rw[bi];decide) aV (Nat.zero_lt_succ 1)]
 simp only[Result.andThen]
 rw[Oper.upon_value]
 go_wp2
 rw[run_callFunc_extern func232 (by kernel_rfl) (by kernel_rfl) (by kernel_rfl) (e:=Extern.AbiNoEscape.same) (by kernel_rfl)]
 rw[Lib.run_noEscape]
 simp only[Result.andThen]
 rw[Oper.upon_value]
 go_wp2
 rw[Lib.run_from_unsafe w ⟨b,0,none⟩ underlying301 underlying157 hj aV am]
 simp only[Result.andThen]
 rw[Oper.upon_value]
 go_wp2
 go_end0
 exact⟨rfl,rfl⟩
set_option maxHeartbeats 1000000 in
set_option maxRecDepth 100000 in
theorem IM(b g cap:Nat)(p:Value)(ty:TypeId)(l:List UInt8)(cur:Array Value)(w:World)(h0:l≠[])(bp:w.heap[b]? = some (.cells #[p,.slice (some ⟨g,0,none⟩) l.length cap] ty (0,0)))(hg:w.heap[g]? = some (.cells cur 5 (0,0)))(bt:l.length<=cap)(ag:l.length<=cur.size)(br:l.length<=9223372036854775807)(aO:∀j x,l[j]? = some x->w.cell? ⟨g,j,none⟩=some (.int .u8 x.toNat)):
  Calls prog 86 #[.pointer (some ⟨b,0,none⟩)] w fun e w'=>e=.returned (.string ⟨l.toArray⟩)/\w'=w.drew.freeze ⟨g,0,none⟩ l.length:=by
 have bh:l.length≠0:=by simpa using h0
 have c1:w.drew.cell? ⟨b,1,none⟩=some (.slice (some ⟨g,0,none⟩) l.length cap):=by
  have:w.drew.heap[b]? = some (.cells #[p,.slice (some ⟨g,0,none⟩) l.length cap] ty (0,0)):=bp
  rw[Lib.cell_of_heap this];rfl
 have bE:(Builtin.unsafeSliceData_ #[96] 246 #[.slice (some ⟨g,0,none⟩) l.length cap]).run prog w.drew=.ok (.pointer (some ⟨g,0,none⟩)) w.drew:=
  Lib.run_unsafeSliceData_row _ _ _ _ _ _ (by omega)
 have bD:(Builtin.unsafeString_ #[246,3] 9 #[.pointer (some ⟨g,0,none⟩),.int .i64 l.length]).run prog w.drew=.ok (.string ⟨l.toArray⟩) (w.drew.freeze ⟨g,0,none⟩ l.length):=by
  refine Lib.run_unsafeString_row w.drew 246 3 9 5 underlying246 (by kernel_rfl) g cur.size (by have bj:w.drew.heap[g]? = some (.cells cur 5 (0,0)):=hg;simp[World.shape?, bj]) l h0 ag br ?_
  intro j x hj
  have e:((⟨g,0,none⟩:Addr).add j)=⟨g,j,none⟩:=by unfold Addr.add;split<;>simp_all
  rw[e];exact aO j x hj
 have mixed:prog.follows .mixedOrders=true:=by kernel_rfl
 have t72:=underlying159;have a72:=isAgg159;have z72:=sizeOf159;have v72:=zeroValue159;have u72:=run_underlying underlying159
 have t70:=underlying157;have a70:=isAgg157;have z70:=sizeOf157;have v70:=zeroValue157;have u70:=run_underlying underlying157
 have t37:=underlying96;have a37:=isAgg96;have z37:=sizeOf96;have v37:=zeroValue96;have u37:=run_underlying underlying96
 have t127:=underlying246;have a127:=isAgg246;have z127:=sizeOf246;have v127:=zeroValue246;have u127:=run_underlying underlying246
 have t3:=underlying3;have a3:=isAgg3;have z3:=sizeOf3;have v3:=zeroValue3;have u3:=run_underlying underlying3
 have t9:=underlying9;have a9:=isAgg9;have z9:=sizeOf9;have v9:=zeroValue9;have u9:=run_underlying underlying9
 have t5:=underlying5;have a5:=isAgg5;have z5:=sizeOf5;have v5:=zeroValue5;have u5:=run_underlying underlying5
 go_enter func86,ntmps86
 go_wp2
 go_region_o
 all_goals (go_wp2;go_ret;exact⟨rfl,rfl⟩)
end Go.Proofs
namespace Go.Proofs
open Go.Proofs.Tryz
open Go.Shelf
def laysM171_ren:Go.Shelf.Ren:=⟨fun|171=>84|243=>162|246=>233|283=>272|284=>273|285=>274|286=>275|129=>316|317=>315|318=>317|319=>318|320=>319|337=>356|338=>357|n=>n,fun|3=>3|9=>9|2=>2|4=>4|171=>337|0=>0|53=>338|37=>96|5=>5|173=>341|212=>389|51=>373|20=>20|213=>390|46=>320|232=>452|233=>453|n=>n,fun|17=>1|18=>6|19=>7|n=>n⟩
theorem laysM171:Go.Proofs.LaysM.n171 prog laysM171_ren:={
 mixed:=by kernel_rfl
 f129:=func316.trans (congrArg some (by kernel_rfl))
 f171:=func84.trans (congrArg some (by kernel_rfl))
 f243:=func162.trans (congrArg some (by kernel_rfl))
 f246:=func233.trans (congrArg some (by kernel_rfl))
 f283:=func272.trans (congrArg some (by kernel_rfl))
 f284:=func273.trans (congrArg some (by kernel_rfl))
 f285:=func274.trans (congrArg some (by kernel_rfl))
 f286:=func275.trans (congrArg some (by kernel_rfl))
 f317:=func315.trans (congrArg some (by kernel_rfl))
 f318:=func317.trans (congrArg some (by kernel_rfl))
 f319:=func318.trans (congrArg some (by kernel_rfl))
 f320:=func319.trans (congrArg some (by kernel_rfl))
 f337:=func356.trans (congrArg some (by kernel_rfl))
 f338:=func357.trans (congrArg some (by kernel_rfl))
 t0:=underlying0
 a0:=isAgg0
 z0:=sizeOf0
 v0:=zeroValue0
 t2:=underlying2
 a2:=isAgg2
 z2:=sizeOf2
 v2:=zeroValue2
 t3:=underlying3
 a3:=isAgg3
 z3:=sizeOf3
 v3:=zeroValue3
 t4:=underlying4
 a4:=isAgg4
 z4:=sizeOf4
 v4:=zeroValue4
 t5:=underlying5
 a5:=isAgg5
 z5:=sizeOf5
 v5:=zeroValue5
 t9:=underlying9
 a9:=isAgg9
 z9:=sizeOf9
 v9:=zeroValue9
 t20:=underlying20
 a20:=isAgg20
 z20:=sizeOf20
 v20:=zeroValue20
 t37:=underlying96
 a37:=isAgg96
 z37:=sizeOf96
 v37:=zeroValue96
 t46:=underlying320
 a46:=isAgg320
 z46:=sizeOf320
 v46:=zeroValue320
 t51:=underlying373
 a51:=isAgg373
 z51:=sizeOf373
 v51:=zeroValue373
 t53:=underlying338
 a53:=isAgg338
 z53:=sizeOf338
 v53:=zeroValue338
 t171:=underlying337
 a171:=isAgg337
 z171:=sizeOf337
 v171:=zeroValue337
 t173:=underlying341
 a173:=isAgg341
 z173:=sizeOf341
 v173:=zeroValue341
 t212:=underlying389
 a212:=isAgg389
 z212:=sizeOf389
 v212:=zeroValue389
 t213:=underlying390
 a213:=isAgg390
 z213:=sizeOf390
 t232:=underlying452
 a232:=isAgg452
 z232:=sizeOf452
 v232:=zeroValue452
 t233:=underlying453
 a233:=isAgg453
 z233:=sizeOf453
 v233:=zeroValue453
 g17:=by kernel_rfl
 g18:=by kernel_rfl
 g19:=by kernel_rfl
 i0:=by kernel_rfl
 i2:=by kernel_rfl
 i3:=by kernel_rfl
 i4:=by kernel_rfl
 i5:=by kernel_rfl
 i9:=by kernel_rfl
 i20:=by kernel_rfl
 i37:=by kernel_rfl
 i46:=by kernel_rfl
 i51:=by kernel_rfl
 i53:=by kernel_rfl
 i171:=by kernel_rfl
 i173:=by kernel_rfl
 i212:=by kernel_rfl
 i232:=by kernel_rfl
 i233:=by kernel_rfl
 m17:=by kernel_rfl
 m18:=by kernel_rfl
 m19:=by kernel_rfl }
open Go.RowKit Go.Sort Go.Lib in
theorem strconv_Itoa (n : Int) (h0 : -9223372036854775808 <= n) (h1 : n <= 9223372036854775807) (w : World) (ay : Lib.TabIs prog w "internal/strconv.uint64pow10" .u64 Lib.pow10Tab) :
  Calls prog 84 #[.int .i64 n] w fun e w'=>e=.returned (.string ⟨(Lib.itoa n).toArray⟩) /\ ∃k os,w'=grow (w.drewN k) os:=Any.strconv_Itoa laysM171 n h0 h1 w ay
end Go.Proofs
namespace Go.DL
open Go.Proofs.Tryz
open Go Go.Proofs
set_option maxHeartbeats 8000000
theorem An{O:Sig}{a b:Nat}{o:DObj}(h:O a=some o)(k:O b=none):a≠b:=fun e=>by rw[e,k]at h;cases h
theorem ne_some{O:Sig}{a b:Nat}{o x:DObj}(h:O a=some o)(k:O b=some x)(hx:o≠x):a≠b:=fun e=>by rw[e,k]at h;cases h;exact hx rfl
theorem RowAt.sref{O:Sig}{sz:Nat}{st:MR}{es:List (List D)}(h:RowAt O sz st es)(hne:es≠[]): ∃r c, ∀n,mD st n=.sref r 0 n c:=by
 rcases st with _|⟨i,cap,rest⟩
 ·exact absurd h hne
 ·exact⟨i,cap,fun _=>rfl⟩
def BK(ib:Nat)(O:Sig)(st:MR)(U':Sig)(st':MR):Prop:= ∀j o,O j=some o->j≠ib->¬Fa st j->U' j=some o /\ ¬Fa st' j
theorem BK.trans{ib:Nat}{O S1 U2:Sig}{st st1 st2:MR}(h:BK ib O st S1 st1)(k:BK ib S1 st1 U2 st2):BK ib O st U2 st2:=fun j o hj hi hn=>k j o (h j o hj hi hn).1 hi (h j o hj hi hn).2
theorem BK.refl(ib:Nat)(O:Sig)(st:MR):BK ib O st O st:=fun j o h _ hn=>⟨h,hn⟩
theorem BK.fresh{ib:Nat}{O S1:Sig}{st st1:MR}{k:Nat}{o:DObj}(h:BK ib O st S1 st1)(hk:S1 k=none):BK ib O st (S1.set k o) st1:=fun j x hj hi hn=>by
 obtain⟨h1,h2⟩:=h j x hj hi hn
 exact⟨by rw[w7 _ _ (An h1 hk)];exact h1,h2⟩
structure BlkS(ib:Nat)(s m:D)(st:MR)(ins:List CIns)(O:Sig):Prop where
 env:O ib=some (.cells [mD st ins.length,s,m])
 row:RowAt O 2 st (ins.map cIns)
 nr:¬Fa st ib
section
variable {ib:Nat}{s m:D}{st:MR}{ins:List CIns}{O:Sig}
theorem BlkS.notrow(h:BlkS ib s m st ins O){k:Nat}(hk:O k=none): ¬Fa st k:=fun hr=>by
 obtain⟨cs,hc⟩:=h.row.cells hr;rw[hk]at hc;cases hc
theorem BlkS.fresh(h:BlkS ib s m st ins O){k:Nat}{o:DObj}(hk:O k=none):BlkS ib s m st ins (O.set k o):=
 ⟨by rw[w7 _ _ (An h.env hk)];exact h.env,h.row.keep fun j x hj hr=>by rw[w7 _ _ fun e=>h.notrow hk (by rw[<-e];exact hr)];exact hj,h.nr⟩
theorem CK(op a:Int)(hn:ins.length<=1000000)(hB:BlkS ib s m st ins O):DCall prog 132 [.ptr ib 0,dI op,dI a] O fun x U'=>x=.ret (.tup []) /\ ∃st',BlkS ib s m st' (ins++[⟨op,a⟩]) U'/\BK ib O st U' st':=by
 obtain⟨q1,q2,q3⟩:=hB
 refine en func132 ntmps132 ?_
 refine gf q1 ?_
 refine rapp (es:=ins.map cIns) (fun st2 U2 aW aZ=>?_) (hm:=q2)
 obtain⟨v1,v2⟩:=aZ _ _ q1 q3
 obtain⟨rr,rc,aX⟩:=aW.sref (by simp)
 have aJ:=aX (ins.length+1)
 refine gf (gi v1 aJ) ?_
 have aI:(ins++[(⟨op,a⟩:CIns)]).map cIns=ins.map cIns++[[dI op,dI a]]:=by simp[cIns]
 refine DS (U':=U2.set ib (.cells [.sref rr 0 (ins.length+1) rc,s,m])) ?_
 refine⟨rfl,st2,⟨by rw[w6,aX];simp,?_,v2⟩,fun j o hj a8 hr=>?_⟩
 ·rw[aI]
  exact aW.keep fun j x hj hr=>by rw[w7 _ _ fun e=>v2 (by rw[<-e];exact hr)];exact hj
 ·obtain⟨h3,h4⟩:=aZ j o hj hr
  exact⟨by rw[w7 _ _ a8];exact h3,h4⟩
abbrev cLater(ib k:Nat):D:=.func (.func 259) [] [.cptr [.ptr ib 0] 0,.cptr [dI k] 0]
theorem Le(op:Int)(hn:ins.length<=1000000)(hB:BlkS ib s m st ins O):DCall prog 207 [.ptr ib 0,dI op] O fun x U'=>x=.ret (cLater ib ins.length) /\ ∃st',BlkS ib s m st' (ins++[⟨op,0⟩]) U'/\BK ib O st U' st':=by
 have bc:=hB
 obtain⟨q1,q2,q3⟩:=hB
 refine en func207 ntmps207 ?_
 cases aB:st with
 |none=>
  subst aB
  have h0:ins=[]:=by have:ins.map cIns=[]:=q2;simpa using this
  subst h0
  simp only[mD]at q1
  refine gf q1 ?_
  refine A3 (CK op 0 hn bc) (fun d U' hr=>?_) (fun d U' hr=>by cases hr.1)
  obtain⟨h1,st',aS,hK⟩:=hr
  cases h1
  refine gz ?_
  refine fin1 (U':=U') ⟨rfl,st',aS,hK⟩
 |some x=>
  obtain⟨rr,rc,rest⟩:=x
  subst aB
  simp only[mD]at q1
  refine gf q1 ?_
  refine A3 (CK op 0 hn bc) (fun d U' hr=>?_) (fun d U' hr=>by cases hr.1)
  obtain⟨h1,st',aS,hK⟩:=hr
  cases h1
  refine gz ?_
  refine fin1 (U':=U') ⟨rfl,st',aS,hK⟩
def setA(l:List CIns)(k:Nat)(a:Int):List CIns:=l.take k++((l[k]?).map fun x=>(⟨x.op,a⟩:CIns)).toList++l.drop (k+1)
theorem L9(k:Nat)(hk:k<ins.length)(hn:ins.length<=1000000)(hB:BlkS ib s m st ins O):DCall prog 259 [.cptr [.ptr ib 0] 0,.cptr [dI k] 0] O fun x U'=>x=.ret (.tup []) /\ ∃st',BlkS ib s m st' (setA ins k ins.length) U'/\BK ib O st U' st':=by
 obtain⟨q1,q2,q3⟩:=hB
 rcases st with _|⟨r,rc,rest⟩
 ·have:ins.map cIns=[]:=q2
  simp at this;subst this;simp at hk
 have hx:ins=ins.take k++ins[k]::ins.drop (k+1):=by simp
 have aC:setA ins k ins.length=ins.take k++(⟨(ins[k]).op,ins.length⟩:CIns)::ins.drop (k+1):=by unfold setA;rw[List.getElem?_eq_getElem hk];simp
 have aE:O r=some (.cells ((ins.map cIns).flatten++rest))/\((ins.map cIns).flatten++rest).length=rc*2/\(ins.map cIns).length<=rc/\_:=q2
 obtain⟨w1,w2,w3,w4⟩:=aE
 have aT:((ins.take k).map cIns).flatten.length=k*2:=by rw[Au (sz:=2) (fun e he=>by obtain⟨x,_,rfl⟩:=List.mem_map.1 he;rfl)];simp;omega
 have ag:(ins.map cIns).flatten++rest=((ins.take k).map cIns).flatten++dI (ins[k]).op::dI (ins[k]).a::(((ins.drop (k+1)).map cIns).flatten++rest):=by
  have h0:ins.map cIns=(ins.take k).map cIns++cIns ins[k]::(ins.drop (k+1)).map cIns:=by rw[<-List.map_cons,<-List.map_append,<-hx]
  rw[h0];simp only[List.flatten_append,List.flatten_cons,List.append_assoc,cIns,List.cons_append,List.nil_append]
 have aq:((setA ins k ins.length).map cIns).flatten++rest=((ins.take k).map cIns).flatten++dI (ins[k]).op::dI (ins.length:Int)::(((ins.drop (k+1)).map cIns).flatten++rest):=by
  rw[aC];simp only[List.map_append,List.map_cons,List.flatten_append,List.flatten_cons,List.append_assoc,cIns,List.cons_append,List.nil_append]
 have hlen:(setA ins k ins.length).length=ins.length:=by rw[aC];simp;omega
 rw[ag]at w1 w2
 generalize hA:((ins.take k).map cIns).flatten=A at*
 generalize hM:((ins.drop (k+1)).map cIns).flatten++rest=M at*
 have bz:A.length+(2+M.length)=rc*2:=by simp only[List.length_append,List.length_cons]at w2;omega
 have bu:k<rc:=by rw[List.length_map]at w3;omega
 have bn:ib≠r:=fun h=>q3 h
 have q1':O ib=some (.cells [.sref r 0 ins.length rc,s,m]):=q1
 have aB:(A++dI (ins[k]).op::dI (ins[k]).a::M).set (k*2+1) (dI (ins.length:Int))=A++dI (ins[k]).op::dI (ins.length:Int)::M:=by
  rw[<-aT,List.set_append_right _ _ (by omega)];simp
 have be:List.take (k*2+1) (A++dI ins[k].op::dI ins[k].a::M)=A++[dI ins[k].op]:=by rw[<-aT,List.take_length_add_append];rfl
 have bm:List.drop (k*2+1+1) (A++dI ins[k].op::dI ins[k].a::M)=M:=by rw[<-aT,Nat.add_assoc,List.drop_length_add_append];rfl
 have bw:(setA ins k ins.length).map cIns=(ins.take k).map cIns++cIns ⟨(ins[k]).op,ins.length⟩::(ins.drop (k+1)).map cIns:=by rw[aC];simp
 refine en func259 ntmps259 ?_
 refine gf (gi q1' w1) ?_ o259
 rw[be,bm]
 refine DS (U':=O.set r (.cells (A++[dI ins[k].op]++dI (ins.length:Int)::M))) ⟨rfl,some (r,rc,rest),⟨?_,⟨?_,?_,?_,?_⟩,q3⟩,fun j o hj a8 hr=>⟨by rw[w7 _ _ fun e=>hr e];exact hj,hr⟩⟩
 ·rw[w7 _ _ bn,q1',hlen];rfl
 ·rw[w6,aq,List.append_assoc];rfl
 ·rw[aq];simp only[List.length_append,List.length_cons];omega
 ·rw[List.length_map,hlen];rw[List.length_map]at w3;exact w3
 ·intro z hz;obtain⟨x,_,rfl⟩:=List.mem_map.1 hz;rfl
end
end Go.DL
