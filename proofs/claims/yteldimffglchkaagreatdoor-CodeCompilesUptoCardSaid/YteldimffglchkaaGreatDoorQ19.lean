/- A part of the proof. -/
import Derived.Test.YteldimffglchkaaGreatDoorQ09
import Derived.Test.YteldimffglchkaaGreatDoorRows
import Derived.WideKeyArgs
import Derived.ChangeSame
import Derived.WalkKit
import Derived.ProofKit
import Derived.OpenShut
import Derived.JoinedCond
import Derived.Test.YteldimffglchkaaGreatDoorCards
import Derived.Test.YteldimffglchkaaGreatDoorTie
import Derived.Deep.DeepHandedRow
import Derived.Lib.LaidTab
import Derived.Test.YteldimffglchkaaGreatDoorQ12
import Derived.Test.YteldimffglchkaaGreatDoorQ16
import Derived.Test.YteldimffglchkaaGreatDoorQ11
import Derived.Test.YteldimffglchkaaGreatDoorQ14
import Derived.Test.YteldimffglchkaaGreatDoorQ17
import Derived.Test.YteldimffglchkaaGreatDoorQ18
import Derived.Test.YteldimffglchkaaGreatDoorQ07
set_option linter.all false
namespace Go.DL
open Go.Proofs.Tryz
open Go Go.Proofs
open Go.Proofs.YteldimffglchkaaGreatDoor.Rows (uptoBulk uptoBulkAll)
def g0(W:Go.World):G:={ imm:=fun b o=>W.cell? ⟨b,o,none⟩,rho:=fun _=>none,hist:=fun _ _=>none,keep:=fun k=>W.heap[k]?, io:=(W.os,W.output) }
abbrev Q7 (W : Go.World) : Prop := W.var? prog "internal/strconv.uint64pow10" = some (((List.range 20).map fun i => ((10 ^ i : Nat) : Int)).map fun z => Value.int .u64 z).toArray
theorem tabK0(W:Go.World)(h:Q7 W):TabK prog (g0 W):=fun w hk=>.inr ⟨by
 unfold Q7 at h
 unfold World.var? at h⊢
 cases hg : prog.globalNamed "internal/strconv.uint64pow10" with
 |none=>rw[hg]at h;cases h
 |some g=>
  rw[hg]at h
  simp only[Option.bind_some]at h⊢
  cases hw:W.heap[g]? with
  |none=>rw[hw]at h;cases h
  |some o=>rw[hw]at h;rw[hk g o hw];exact h,trivial⟩
theorem sim0(W:Go.World)(h:Q7 W):Sim prog (g0 W) (fun _=>none) W where
 imm:=fun _ _ _ h=>h
 keep:=fun _ _ h=>h
 obj:=fun _ _ h=>by cases h
 inj:=fun _ _ _ h=>by cases h
 free:=fun _ _ h=>by cases h
 htop:=fun _ _ _ _ h=>by cases h
 hdom:=fun _ _ _ h=>by cases h
 fin:=⟨0,fun _ _=>rfl⟩
 io:=rfl
 tab:=tabK0 W h
theorem JB{α:Type}{p:Nat->α->Prop}: ∀n,(∀i,i<n->∃a,p i a)->∃l:List α,l.length=n /\ ∀i a,l[i]? = some a->p i a
 |0,_=>⟨[],rfl,fun i a h=>by simp at h⟩
 | n+1,h=>by
  obtain⟨l,hl,hp⟩:=JB n fun i hi=>h i (by omega)
  obtain⟨a,ha⟩:=h n (by omega)
  refine⟨l++[a],by simp[hl],fun i b hb=>?_⟩
  by_cases hi:i<n
  ·rw[List.getElem?_append_left (by omega)]at hb;exact hp i b hb
  ·rw[List.getElem?_append_right (by omega)]at hb
   have h0:i-l.length=0:=by
    rcases Nat.eq_zero_or_pos (i-l.length)with h|h
    ·exact h
    ·rw[List.getElem?_eq_none (by simp;omega)]at hb;cases hb
   rw[h0]at hb
   simp at hb
   rw[show i=n by omega,<-hb];exact ha
theorem Qz{g:G}{b:Nat}: ∀{ds:List D}{vs:List Value}{o:Nat},RepL g ds vs->(∀j v,vs[j]? = some v->g.imm b (o+j)=some v)->RepI g b o ds
 |[],_,_,_,_=>trivial
 |d::ds,_,o,⟨v,r,e,h1,h2⟩,hi=>by
  subst e
  exact⟨⟨v,hi 0 v rfl,h1⟩,Qz h2 fun j x hx=>by rw[Nat.add_assoc,Nat.add_comm 1 j];exact hi (j+1) x hx⟩
theorem QA{g:G}{b sz:Nat}: ∀{l:List (List D)}{o:Nat},(∀i e,l[i]? = some e->e.length=sz/\RepI g b (o+i*sz) e)->RepE g b sz o l
 |[],_,_=>trivial
 |e::l,o,h=>⟨by simpa using h 0 e rfl,QA fun i x hx=>by
  have:=h (i+1) x hx
  rw[Nat.add_mul,Nat.one_mul,Nat.add_comm (i*sz),<-Nat.add_assoc]at this;exact this⟩
theorem VG{α H:Type}{wt:α->Nat}: ∀{l:List α}{xs:List (DataW H)},l.length=xs.length->(∀(i:Nat) a x,l[i]? = some a->xs[i]? = some x->wt a<=uptoBulk x)->wtL wt l<=uptoBulkAll xs
 |[],[],_,_=>Nat.zero_le _
 |a::l,x::xs,h,hp=>by
  have h1:=hp 0 a x rfl rfl
  have h2:=VG (l:=l) (xs:=xs) (by simpa using h) fun i b y hb hy=>hp (i+1) b y hb hy
  simp only[wtL,uptoBulkAll];omega
section
variable {H:Type}{enc:TypeId×Value->H}{W:Go.World}
noncomputable abbrev rd(enc:TypeId×Value->H)(W:Go.World)(n t:Nat)(cs:List Value):Option (DataW H×List MemPlace):=DataW.trod enc prog W 0 (fun _=>true) true n t cs
def Dec(enc:TypeId×Value->H)(W:Go.World){α:Type}(n t:Nat)(c:α->List D)(wt:α->Nat):Prop:= ∀cs x,rd enc W n t cs=some x->∃a,RepL (g0 W) (c a) cs/\wt a<=uptoBulk x.1
theorem CR{t n:Nat}(ht:prog.underlying t=some (.int .i64)):Dec enc W n t (fun k:Int=>[dI k]) (fun _=>1):=fun cs x h=>by
 obtain⟨k,rfl,rfl,_⟩:=DataW.trod_int ht h
 exact⟨k,⟨_,[],rfl,rfl,rfl⟩,by simp[uptoBulk]⟩
theorem EB{α:Type}{t e sz n:Nat}{c:α->List D}{wt:α->Nat}(ht:prog.underlying t=some (.slice e))(hz:prog.cellsOf e=sz)(bf:0<sz)(hc:∀a,(c a).length=sz)(hd:∀m,m<n->Dec enc W m e c wt):
  Dec enc W n t (fun l:List α=>[sl (l.map c)]) (fun l=>1+wtL wt l):=fun cs x h=>by
 rcases DataW.trod_slice ht h with⟨rfl,rfl⟩|⟨a,len,cap,elems,rest,m,rfl,rfl,rfl,hb,hl,hm,hlen,bj, -, -⟩
 ·exact⟨[],⟨_,[],rfl,⟨Option.none,0,rfl,by simp,.inl rfl,trivial⟩,rfl⟩,by simp[uptoBulk,wtL]⟩
 ·have key:∀i,i<len->∃b:α, ∃y vs,elems[i]? = some y/\W.cells? 0 (a.add (i*sz)) sz=some vs/\RepL (g0 W) (c b) vs/\wt b<=uptoBulk y.1:=fun i hi=>by
   have h1:=bj i hi
   rw[hz,List.getElem?_eq_getElem (by omega)]at h1
   obtain⟨vs,h2,h3⟩:=Option.bind_eq_some_iff.1 h1
   obtain⟨b,h4,h5⟩:=hd m (by omega) vs _ h3
   exact⟨b,_,vs,List.getElem?_eq_getElem (by omega),h2,h4,h5⟩
  obtain⟨l,aO,hp⟩:=JB len key
  refine⟨l,⟨_,[],rfl,⟨some a,cap,by simp[aO],by simpa[aO] using hl,?_,trivial⟩,rfl⟩,?_⟩
  ·cases aN:l with
   |nil=>exact .inl rfl
   | cons b0 l' =>
    rw[<-aN]
    have bp:0<len:=by rw[<-aO,aN];simp
    obtain⟨y,vs,k1,k2,k3,k4⟩:=hp 0 b0 (by rw[aN];rfl)
    obtain⟨_,k5,k6⟩:=World.cells?_some k2
    have aX:a.spot=none:=by
     have:=k6 0 (by omega)
     cases hs:a.spot with
     |none=>rfl
     |some q=>simp[World.cell?, Addr.add,hs]at this;split at this<;>simp_all
    obtain⟨ab,ao,asp⟩:=a
    simp only at aX
    subst aX
    refine .inr ⟨sz,ab,ao,rfl,QA fun i e he=>?_⟩
    rw[List.getElem?_map]at he
    obtain⟨b,aT,rfl⟩:=Option.map_eq_some_iff.1 he
    obtain⟨y,vs,k1,k2,k3,k4⟩:=hp i b aT
    obtain⟨_,k5,k6⟩:=World.cells?_some k2
    refine⟨hc b,Qz k3 fun j v hv=>?_⟩
    have hj:j<sz:=by rw[<-k5];exact(List.getElem?_eq_some_iff.1 hv).1
    have:=k6 j hj
    rw[hv,BG,BG]at this
    exact this
  ·have:=VG (wt:=wt) (l:=l) (xs:=elems.map (·.1)) (by simp;omega) fun i b z aT aC=>by
    obtain⟨y,vs,k1,k2,k3,k4⟩:=hp i b aT
    rw[List.getElem?_map,k1]at aC
    simp at aC;subst aC;exact k4
   simp only[uptoBulk];omega
set_option maxRecDepth 100000
theorem Er{t n:Nat}{fs:Array Field}(ht:prog.underlying t=some (.struct fs)){cs:List Value}{x:DataW H×List MemPlace}(h:rd enc W n t cs=some x):
  ∃(xs:List (DataW H×List MemPlace)) (m:Nat),m<n/\uptoBulk x.1=uptoBulkAll (xs.map (·.1))+1/\cs.length=prog.cellsOf t/\xs.length=fs.size /\
   ∀(i:Nat) (f:Field),fs[i]? = some f->rd enc W m f.type ((cs.drop f.offset).take (prog.cellsOf f.type))=xs[i]? :=by
 obtain⟨xs,m,rfl,rfl,h1,h2,h3⟩:=DataW.trod_struct ht h
 exact⟨xs,m,by omega,by simp[uptoBulk],h1,h2,h3⟩
theorem cellsI:prog.cellsOf 3=1:=by kernel_rfl
theorem Hr(n:Nat):Dec enc W n 23 (fun l:List Int=>[sl (cI l)]) (fun l=>1+wtL (fun _=>1) l):=EB underlying23 cellsI (by omega) (fun _=>rfl) fun _ _=>CR underlying3
theorem LT{α:Type}: ∀l:List α,wtL (fun _=>1) l=l.length
 |[]=>rfl
 |x::l=>by rw[wtL,LT l,List.length_cons];omega
theorem Dr{m t off k:Nat}{cs cs':List Value}{o:Option (DataW H×List MemPlace)}(h:rd enc W m t ((cs.drop off).take (prog.cellsOf t))=o)(hk:prog.cellsOf t=k)(hc:(cs.drop off).take k=cs'):rd enc W m t cs'=o:=by rw[<-hc,<-hk];exact h
theorem Vw(n:Nat):Dec enc W n 205 HT (fun _=>1):=fun cs x h=>by
 obtain⟨xs,m,hm,hb,hl,hx,hf⟩:=Er underlying205 h
 rw[show prog.cellsOf 205=2 by kernel_rfl]at hl
 match cs,hl with
 | [v0,v1],_ =>
  match xs,hx with
  |[x0,x1],_=>
   obtain⟨a0,r0,w0⟩:=CR underlying3 [v0] x0 (Dr (hf 0 _ rfl) cellsI rfl)
   obtain⟨a1,r1,w1⟩:=CR underlying3 [v1] x1 (Dr (hf 1 _ rfl) cellsI rfl)
   refine⟨⟨a0,a1⟩,r0.append r1,?_⟩
   rw[hb];simp only[uptoBulkAll,List.map_cons,List.map_nil];omega
theorem TK(n:Nat):Dec enc W n 206 (fun l:List Init=>[sl (l.map HT)]) (fun l=>1+wtL (fun _=>1) l):=EB underlying206 (by kernel_rfl:prog.cellsOf 205=2) (by omega) (fun _=>rfl) fun _ _=>Vw _
theorem Q2(n:Nat):Dec enc W n 208 HU BClass.wt:=fun cs x h=>by
 obtain⟨xs,m,hm,hb,hl,hx,hf⟩:=Er underlying208 h
 rw[show prog.cellsOf 208=3 by kernel_rfl]at hl
 match cs,hl with
 | [v0,v1,v2],_ =>
  match xs,hx with
  |[x0,x1,x2],_=>
   obtain⟨a0,r0,w0⟩:=Hr _ [v0] x0 (Dr (hf 0 _ rfl) (show prog.cellsOf 23=1 by kernel_rfl) rfl)
   obtain⟨a1,r1,w1⟩:=Hr _ [v1] x1 (Dr (hf 1 _ rfl) (show prog.cellsOf 23=1 by kernel_rfl) rfl)
   obtain⟨a2,r2,w2⟩:=TK _ [v2] x2 (Dr (hf 2 _ rfl) (show prog.cellsOf 206=1 by kernel_rfl) rfl)
   refine⟨⟨a0,a1,a2⟩,r0.append (r1.append r2),?_⟩
   rw[hb];clear hf hx hl;simp only[LT]at*; simp only[BClass.wt,uptoBulkAll,List.map_cons,List.map_nil];omega
theorem TM(n:Nat):Dec enc W n 211 Gk BNode.wt:=fun cs x h=>by
 obtain⟨xs,m,hm,hb,hl,hx,hf⟩:=Er underlying211 h
 rw[show prog.cellsOf 211=3 by kernel_rfl]at hl
 match cs,hl with
 | [v0,v1,v2],_ =>
  match xs,hx with
  |[x0,x1,x2],_=>
   obtain⟨a0,r0,w0⟩:=CR underlying209 [v0] x0 (Dr (hf 0 _ rfl) (show prog.cellsOf 209=1 by kernel_rfl) rfl)
   obtain⟨a1,r1,w1⟩:=CR underlying3 [v1] x1 (Dr (hf 1 _ rfl) cellsI rfl)
   obtain⟨a2,r2,w2⟩:=Hr _ [v2] x2 (Dr (hf 2 _ rfl) (show prog.cellsOf 23=1 by kernel_rfl) rfl)
   refine⟨⟨a0,a1,a2⟩,r0.append (r1.append r2),?_⟩
   rw[hb];clear hf hx hl;simp only[LT]at*; simp only[BNode.wt,uptoBulkAll,List.map_cons,List.map_nil];omega
theorem Vx: ∀n:Nat,Dec enc W n 62 Ca Fact.wt:=fun n=>by
 induction n using Nat.strongRecOn with
 |ind n ih=>
 intro cs x h
 obtain⟨xs,m,hm,hb,hl,hx,hf⟩:=Er underlying62 h
 rw[show prog.cellsOf 62=6 by kernel_rfl]at hl
 match cs,hl with
 | [v0,v1,v2,v3,v4,v5],_ =>
  match xs,hx with
  |[x0,x1,x2,x3,x4,x5],_=>
   obtain⟨a0,r0,w0⟩:=CR underlying59 [v0] x0 (Dr (hf 0 _ rfl) (show prog.cellsOf 59=1 by kernel_rfl) rfl)
   obtain⟨a1,r1,w1⟩:=CR underlying3 [v1] x1 (Dr (hf 1 _ rfl) cellsI rfl)
   obtain⟨a2,r2,w2⟩:=Hr _ [v2] x2 (Dr (hf 2 _ rfl) (show prog.cellsOf 23=1 by kernel_rfl) rfl)
   obtain⟨a3,r3,w3⟩:=CR underlying3 [v3] x3 (Dr (hf 3 _ rfl) cellsI rfl)
   obtain⟨a4,r4,w4⟩:=CR underlying3 [v4] x4 (Dr (hf 4 _ rfl) cellsI rfl)
   obtain⟨a5,r5,w5⟩:=(EB (c:=Ca) (wt:=Fact.wt) (t:=60) (e:=62) (n:=m) underlying60 (by kernel_rfl:prog.cellsOf 62=6) (by omega) (fun f=>by cases f;rfl) fun k hk=>ih k (by omega)) [v5] x5 (Dr (hf 5 _ rfl) (show prog.cellsOf 60=1 by kernel_rfl) rfl)
   refine⟨.mk a0 a1 a2 a3 a4 a5,by rw[F4];exact r0.append (r1.append (r2.append (r3.append (r4.append r5)))),?_⟩
   rw[hb];clear hf hx hl;simp only[LT]at*; rw[Fact.wt_eq];simp only[Fact.path,Fact.kids,uptoBulkAll,List.map_cons,List.map_nil];omega
theorem TN(n:Nat):Dec enc W n 64 KZ BMeth.wt:=fun cs x h=>by
 obtain⟨xs,m,hm,hb,hl,hx,hf⟩:=Er underlying64 h
 rw[show prog.cellsOf 64=9 by kernel_rfl]at hl
 match cs,hl with
 | [v0,v1,v2,v3,v4,v5,v6,v7,v8],_ =>
  match xs,hx with
  |[x0,x1,x2,x3],_=>
   obtain⟨a0,r0,w0⟩:=CR underlying58 [v0] x0 (Dr (hf 0 _ rfl) (show prog.cellsOf 58=1 by kernel_rfl) rfl)
   obtain⟨a1,r1,w1⟩:=CR underlying3 [v1] x1 (Dr (hf 1 _ rfl) cellsI rfl)
   obtain⟨a2,r2,w2⟩:=Vx _ [v2,v3,v4,v5,v6,v7] x2 (Dr (hf 2 _ rfl) (show prog.cellsOf 62=6 by kernel_rfl) rfl)
   obtain⟨a3,r3,w3⟩:=CR underlying3 [v8] x3 (Dr (hf 3 _ rfl) cellsI rfl)
   refine⟨⟨a0,a1,a2,a3⟩,(r0.append r1).append r2 |>.append r3,?_⟩
   rw[hb];simp only[BMeth.wt,uptoBulkAll,List.map_cons,List.map_nil];omega
theorem Ri(m:BMeth):(KZ m).length=9:=by simp[KZ]
theorem TL(n:Nat):Dec enc W n 27 Ac BProg.wt:=fun cs x h=>by
 obtain⟨xs,m,hm,hb,hl,hx,hf⟩:=Er underlying27 h
 rw[show prog.cellsOf 27=6 by kernel_rfl]at hl
 match cs,hl with
 | [v0,v1,v2,v3,v4,v5],_ =>
  match xs,hx with
  |[x0,x1,x2,x3,x4,x5],_=>
   obtain⟨a0,r0,w0⟩:=EB underlying22 (by kernel_rfl:prog.cellsOf 208=3) (by omega) (fun _=>rfl) (fun _ _=>Q2 _) [v0] x0 (Dr (hf 0 _ rfl) (show prog.cellsOf 22=1 by kernel_rfl) rfl)
   obtain⟨a1,r1,w1⟩:=CR underlying3 [v1] x1 (Dr (hf 1 _ rfl) cellsI rfl)
   obtain⟨a2,r2,w2⟩:=Hr _ [v2] x2 (Dr (hf 2 _ rfl) (show prog.cellsOf 23=1 by kernel_rfl) rfl)
   obtain⟨a3,r3,w3⟩:=EB underlying24 (by kernel_rfl:prog.cellsOf 64=9) (by omega) Ri (fun _ _=>TN _) [v3] x3 (Dr (hf 3 _ rfl) (show prog.cellsOf 24=1 by kernel_rfl) rfl)
   obtain⟨a4,r4,w4⟩:=EB underlying25 (by kernel_rfl:prog.cellsOf 211=3) (by omega) (fun _=>rfl) (fun _ _=>TM _) [v4] x4 (Dr (hf 4 _ rfl) (show prog.cellsOf 25=1 by kernel_rfl) rfl)
   obtain⟨a5,r5,w5⟩:=CR underlying3 [v5] x5 (Dr (hf 5 _ rfl) cellsI rfl)
   refine⟨⟨a0,a1,a2,a3,a4,a5⟩,r0.append (r1.append (r2.append (r3.append (r4.append r5)))),?_⟩
   rw[hb];clear hf hx hl;simp only[LT]at*; simp only[BProg.wt,uptoBulkAll,List.map_cons,List.map_nil];omega
end
end Go.DL
namespace Go.DL
open Go.Proofs.Tryz
open Go Go.Proofs Go.ChangeShapes Go.WideShapes Go.ChangeAt Go.RowKit
open Go.Proofs.YteldimffglchkaaGreatDoor
open Go.Proofs.YteldimffglchkaaGreatDoor.Rows (uptoBulk uptoBulkAll)
set_option maxRecDepth 100000
theorem own:ownKnob prog.godebug=none:=by kernel_rfl
theorem Rj{N:Nat}{us:List D}(h:EF prog N us (fun _=>none) fun x _=>x=.ret (.bool true))(W:Go.World)(hP:Q7 W){vs:List Value}(hr:RepL (g0 W) us vs):
  Calls prog N vs.toArray W fun e W'=>e=.returned (.bool true)/\(∀(k:Nat) (o:Obj),W.heap[k]? = some o->W'.heap[k]? = some o)/\W'.os=W.os/\W'.output=W.output:=by
 refine CallsIn.calls (F:=FX prog { wide:=true }) (n:=0) ((h.run (g0 W) W vs _ rfl (sim0 W hP) hr).mono ?_) fun k=>Gt _ _ _
 rintro e W' ⟨g',x,U',aA,hs,hE,rfl⟩
 obtain⟨v,rfl,rfl⟩:=hE
 have aP:=hs.io.trans aA.io
 simp only[g0,Prod.mk.injEq]at aP
 exact⟨rfl,fun k o hk=>hs.keep k o (aA.keep k o hk),aP.1,aP.2⟩
theorem laidOut:laidOutB prog=true:=by kernel_rfl
section
variable {H:Type}{enc:TypeId×Value->H}{W W':Go.World}
theorem GO{sp:Nat->Bool}: ∀{ts:List TypeId}{vs:List Value}{ds:List (DataW H)}{ps:List MemPlace},(∀t∈ts,prog.readableRec t=true/\t<prog.types.size)->DataW.TrodAll enc prog W 0 (fun _=>true) true ts vs ds ps->(∀p∈ps,W.sameAt W' p)->(∀p∈ps,sp p.block=true)->DataW.TrodAll enc prog W' 0 sp true ts vs ds ps
 |[],vs,ds,ps,_,h,_,_=>by
  obtain⟨rfl,rfl,rfl⟩:=trodAll_nil h
  exact h
 | t::ts,vs,ds,ps,ht,h,h1,h2=>by
  obtain⟨v,vs1,d,ds1,a,b,rfl,rfl,rfl,k1,k2⟩:=trodAll_cons h
  exact⟨a,b,WideElems.Trod_stays laidOut (ht t (by simp)).1 (ht t (by simp)).2 k1 (fun p hp=>h1 p (by simp[hp])) (fun p hp=>h2 p (by simp[hp])),
   GO (fun t hx=>ht t (by simp[hx])) k2 (fun p hp=>h1 p (by simp[hp])) (fun p hp=>h2 p (by simp[hp])),rfl⟩
theorem same_of{p:MemPlace}(aa:∀(k:Nat) (o:Obj),W.heap[k]? = some o->W'.heap[k]? = some o)(hp:p.block<W.heap.size):W.sameAt W' p:=by
 have hk:∀b,b<W.heap.size->W'.heap[b]? = W.heap[b]? :=fun b hb=>by
  rw[Array.getElem?_eq_getElem hb];exact aa b _ (Array.getElem?_eq_getElem hb)
 cases p with
 |cell b off=>
  show W'.cell? ⟨b,off,none⟩=W.cell? ⟨b,off,none⟩
  unfold World.cell?
  rw[hk b hp]
 |map b=>exact hk b hp
theorem kept_of{may:MemPlace->Prop}(aa:∀(k:Nat) (o:Obj),W.heap[k]? = some o->W'.heap[k]? = some o)(am:W'.os=W.os)(ac:W'.output=W.output):W.keptBut W' may:=by
 refine⟨am,ac,fun i hi=>?_⟩
 have h:=Array.getElem?_eq_getElem hi
 rw[h,aa i _ h]
 cases W.heap[i]<;>simp
theorem UI{f:Func}{s:ChangeSpec}{args:Array Value}{ds gs:List (DataW H)}{before:List MemPlace}(hv:s.vars=[])(aG:f.resultTypes=#[4])(bc:∀t∈f.params.toList,prog.readableRec t=true/\t<prog.types.size)
  (hW:DataW.Whole enc prog f.params.toList s.vars false W args.toList ds gs before) (ar:s.fn H (ds++gs)={ results:=[.lit (.bool true)],args:=ds })
  (aa:∀(k:Nat) (o:Obj),W.heap[k]? = some o->W'.heap[k]? = some o) (am:W'.os=W.os) (ac:W'.output=W.output):s.post enc prog f false true false false W args (.bool true) W':=by
 have ay:=hW.lt
 have aU:=hW
 obtain⟨p,q,hA,hV,rfl,bi,aL⟩:=hW
 rw[hv]at hV
 obtain⟨rfl,rfl⟩:=trodVars_none hV
 have aj:∀x∈p,W.sameAt W' x:=fun x hx=>same_of aa (by simpa using ay x (by simp[hx]))
 refine⟨ds,[],p++[],[],p,[],aU,?_,?_,?_,kept_of aa am ac,fun h=>by cases h⟩
 ·rw[aG,ar]
  exact trodAll_cons_mk (shut_bool underlying4 _) trodAll_mk0
 ·rw[ar]
  exact GO bc hA aj fun x hx=>by simpa using ay x (by simp[hx])
 ·rw[ar,hv]
  rfl
end
section
variable {H:Type}{enc:TypeId×Value->H}{W:Go.World}{base:Nat}
theorem QE{v:Value}{d:DataW H}{ps:List MemPlace}(ae:Value.okWide prog W .any base 27 v)(h:DataW.Trod enc prog W 0 (fun _=>true) true 27 v d ps): ∃p:BProg,Rep (g0 W) (.agg (Ac p)) v/\p.wt<=Rows.uptoBulk d:=by
 obtain⟨cs,rfl,_⟩:=okWide_struct underlying27 ae
 obtain⟨n,hn⟩:=h
 obtain⟨p,h1,h2⟩:=TL n _ _ hn
 exact⟨p,⟨cs.toList,by simp,h1⟩,h2⟩
theorem Pm:prog.readableRec 27=true:=by kernel_rfl
theorem Pd:27<prog.types.size:=of_decide_eq_true (by kernel_rfl)
theorem law1{N:Nat}{f:Func}(hf:f.params=#[27])(aG:f.resultTypes=#[4])(hN:∀p:BProg,p.wt<=1048576->EF prog N [.agg (Ac p)] (fun _=>none) fun x _=>x=.ret (.bool true))
  {s:ChangeSpec} (hv:s.vars=[]) (ar:∀d,s.fn H [d]={ results:=[.lit (.bool true)],args:=[d] }) {args:Array Value}{ds gs:List (DataW H)}{before:List MemPlace}
  (ae:∀(j:Nat) t v,f.params[j]? = some t->args[j]? = some v->Value.okWide prog W .any base t v)
  (hW:DataW.Whole enc prog f.params.toList s.vars false W args.toList ds gs before) (hk:Rows.uptoSmall H (ds++gs)=true) (hP:Q7 W) :
  Calls prog N args W fun e W'=> ∃v,e=.returned v/\s.post enc prog f false true false false W args v W':=by
 have aU:=hW
 obtain⟨p,q,hA,hV,rfl,bi,aL⟩:=hW
 rw[hv]at hV
 obtain⟨rfl,rfl⟩:=trodVars_none hV
 rw[hf]at hA ae
 obtain⟨v0,vs0,d0,ds0,p0,q0,ba,rfl,rfl,h0,r0⟩:=trodAll_cons hA
 obtain⟨rfl,rfl,rfl⟩:=trodAll_nil r0
 obtain rfl:args=#[v0]:=by cases args;simp_all
 have hb:Rows.uptoBulk d0+0<=1048576:=of_decide_eq_true hk
 obtain⟨pr,hr,hw⟩:=QE (ae 0 27 v0 rfl rfl) h0
 refine(Rj (hN pr (by omega)) W hP (vs:=[v0]) ⟨v0,[],rfl,hr,rfl⟩).mono fun e W' ⟨he,aa,am,ac⟩=>?_
 refine⟨_,he,UI hv aG (fun t ht=>?_) aU (ar d0) aa am ac⟩
 rw[hf]at ht
 obtain rfl:t=27:=by simpa using ht
 exact⟨Pm,Pd⟩
end
abbrev laids : List (String × DataW Unit) := [("math/bits.deBruijn32tab", Rows.laid_math_bits_deBruijn32tab), ("math/bits.deBruijn64tab", Rows.laid_math_bits_deBruijn64tab), ("internal/strconv.uint64pow10", Rows.laid_internal_strconv_uint64pow10)]
theorem gPow : prog.globalNamed "internal/strconv.uint64pow10" = some 1 := by kernel_rfl
theorem gPowT:(prog.globals[1]?).map (·.type)=some 389:=by kernel_rfl
theorem VA:prog.cellsOf 389=20:=by kernel_rfl
theorem VB:prog.cellsOf 338=1:=by kernel_rfl
theorem laidF : laids.filter (fun x => x.1 == "internal/strconv.uint64pow10") = [("internal/strconv.uint64pow10", Lib.tabData .u64 ((List.range 20).map fun i => ((10 ^ i : Nat) : Int)))] := by kernel_rfl
theorem Ur{W:Go.World}(h:laidMetH prog laids W):Q7 W:=by
 have h2 := h.filter (fun x => x.1 == "internal/strconv.uint64pow10")
 rw[laidF]at h2
 exact Lib.tabIs_of_head (rest:=[]) gPow gPowT underlying389 underlying338 VB VA h2
def Uf:DataW Unit->Array Value
 |.agg xs=>(xs.map fun x=>match x with
  |.lit (.int k z)=>Value.int k z
  |_=>Value.int .i64 0).toArray
 |_=> #[]
def Qn(x:DataW Unit):Obj->Obj
 |.cells _ t frozen=>.cells (Uf x) t frozen
 |o=>o
noncomputable def J6(os:Os):Go.World:=
 {Go.World.holding prog os ⟨#[], #[],[]⟩with heap:=(((Go.World.holding prog os ⟨#[], #[],[]⟩).heap.modify 6 (Qn Rows.laid_math_bits_deBruijn32tab)).modify 7 (Qn Rows.laid_math_bits_deBruijn64tab)).modify 1 (Qn Rows.laid_internal_strconv_uint64pow10) }
theorem noGo:prog.funcs.any Func.goes=false:=by kernel_rfl
theorem goes_no(c:OpenClaim)(hs:c.start=.entering):false=c.goesBy Tryz.pinned.checked.prog:=by
 have key:∀f,prog.goes f=false:=fun f=>by
  unfold Program.goes
  rw[noGo,Bool.and_false,Bool.or_false,List.any_eq_false]
  intro g _
  cases hg:prog.funcs[g]? with
  |none=>simp
  |some fn=>
   have:=Array.any_eq_false.1 noGo g (Array.getElem?_eq_some_iff.1 hg).1
   rw[(Array.getElem?_eq_some_iff.1 hg).2]at this
   simpa using this
 show false=prog.goesAt c.start c.func
 unfold Program.goesAt Program.goesFrom
 rw[hs]
 cases h:prog.funcNamed c.func with
 |none=>rfl
 |some f=>simp[key f]
end Go.DL
namespace Go.DL
open Go.Proofs.Tryz
open Go Go.Proofs
set_option maxHeartbeats 8000000
def cIns(x:CIns):List D:=[dI x.op,dI x.a]
@[simp] theorem cIns_len(x:CIns):(cIns x).length=2:=rfl
@[simp] theorem cIns_flat(x:CIns):Be (cIns x)=true:=rfl
abbrev cLev(l:CLev):List D:=[dI l.st,dI l.env]
theorem VX:EqTy prog 87:=⟨by kernel_rfl,by kernel_rfl,by kernel_rfl⟩
theorem TB:EqTy prog 79:=⟨by kernel_rfl,by kernel_rfl,by kernel_rfl⟩
theorem VP:(tab 87).k=.struct [(0,85),(1,3)]:=rfl
theorem Rk:(tab 79).k=.struct [(0,3),(1,3)]:=rfl
theorem eqIns(a b:CIns):eqFs tab (cIns a) (cIns b) [(0,85),(1,3)]=some (decide (a=b)):=by
 cases a;cases b
 simp[cIns,CIns.mk.injEq,Bool.decide_and]
theorem eqLev(a b:CLev):eqFs tab (cLev a) (cLev b) [(0,3),(1,3)]=some (decide (a=b)):=by
 cases a;cases b
 simp[cLev,CLev.mk.injEq,Bool.decide_and]
theorem V5(op:Int)(O:Sig):DCall prog 72 [dI op] O (rS (.bool (hasA op)) O):=by
 refine en func72 ntmps72 ?_
 repeat' first|refine gz ?_|apply gy<;>intro hh
 any_goals (first|(refine fin1 (U':=O) ?_;exact⟨by first|rfl|(simp[Go.DL.hasA];done)|(simp_all [Go.DL.hasA];done)|(rw[Ad,Bool.eq_iff_iff];simp_all [Go.DL.hasA]<;>omega),rfl⟩)|fail)
@[reducible,instance] def a72:=fun op O=>ah0 (@V5 op O)
theorem FI(n:Int)(O:Sig):DCall prog 150 [dI n] O (rS (.bool (!farN n)) O):=by
 refine en func150 ntmps150 ?_
 repeat' first|refine gz ?_|apply gy<;>intro hh
 any_goals (first|(refine fin1 (U':=O) ?_;exact⟨by first|rfl|(simp[farN];done)|(simp_all [farN];done)|(rw[Ad,Bool.eq_iff_iff];simp_all [farN]<;>omega),rfl⟩)|fail)
@[reducible,instance] def a150:=fun n O=>ah0 (@FI n O)
def unfC:D:=.iface 245 (.agg [])
theorem V0(b:Bool)(O:Sig):DCall prog 78 [.bool b] O fun x U'=>x=(if b then .ret (.tup []) else .panic unfC)/\U'=O:=by
 refine en func78 ntmps78 ?_
 cases b
 ·refine gz ?_
  refine pan ?_
  exact finP (U':=O) ⟨rfl,rfl⟩
 ·refine gz ?_
  exact EW (U':=O) ⟨rfl,rfl⟩
@[reducible,instance] def a78:=fun b O=>gh0 (@V0 b O)
theorem HZ{P:Program}{F:Fence}{n:Nat}{Q:Exit->Act->List Frame->Go.World->Prop}{a:Act}{cs cs':List Frame}{w:Go.World}{id t4 ty1:Nat}{p1:String}{a1:Array Edge}{rest:Code}{v:Value}
  (aJ:recoverD cs=some (v,cs')\/(recoverD cs=none/\v=.nilIface/\cs'=cs)) (aD:t4<a.tmps.size)
  (h:rest.wpSIn F n P Q (a.put (some t4) v) cs' w) :
  (Code.seq (.region id #[⟨some t4,.call { callee:=.builtin .recover,args:= #[],argTypes:= #[] },ty1,p1,a1,none⟩] false) rest).wpSIn F n P Q a cs w:=by
 refine wpSIn_seq (wpSIn_region ?_)
 have hr:List.range (#[(⟨some t4,.call { callee:=.builtin .recover,args:= #[],argTypes:= #[] },ty1,p1,a1,none⟩:Oper)]:Array Oper).size=[0]:=rfl
 rw[hr]
 exact I4 (o:=⟨some t4,.call { callee:=.builtin .recover,args:= #[],argTypes:= #[] },ty1,p1,a1,none⟩) rfl rfl (fun f h=>by cases h) rfl aJ h
theorem N3{P:Program}{f:Nat}{fn:Func}{id t4 ty1:Nat}{p1:String}{a1:Array Edge}{rest:Code}{args:List D}{O U':Sig}{pan:Option D}{m:Nat}
  (hf:P.funcs[f]? = some fn) (hb:fn.body=some (Code.seq (.region id #[⟨some t4,.call { callee:=.builtin .recover,args:= #[],argTypes:= #[] },ty1,p1,a1,none⟩] false) rest))
  (hm:fn.ntmps=m) (hn:args.length<=m) (aD:t4<m) (aI:fn.results=#[])
  (h:DWp P .none m rest (fun x s=>(x=.normal\/x=.ret)/\s.df=[]/\Sub U' s.O) ⟨(t4,pan.getD .niliface)::BL 0 args,O,[]⟩):LR P f args O pan U':=by
 intro g w vs u hs ha hu
 subst hm
 have ay:f<P.funcs.size:=(Array.getElem?_eq_some_iff.1 hf).1
 refine callsDIn_of_wpSIn hf hb (Gd ay _) fun c₀ cs hc=>?_
 have hT:=El ha hn
 have aK:∀(d:D) (v:Value),Rep g d v->RepT g ((t4,d)::BL 0 args) fn.ntmps (({ tmps:=vs.toArray++Array.replicate (fn.ntmps-vs.toArray.size) undef,defers:=[] }:Act).put (some t4) v).tmps:=by
  intro d v hv
  exact RepT.put (o := ⟨some t4, .move (.tmp 0), 0, "", #[], none⟩) (a := { tmps := vs.toArray ++ Array.replicate (fn.ntmps - vs.toArray.size) undef, defers := [] }) hT hv (by simp [Aq, aD])
 have hsz:t4<(vs.toArray++Array.replicate (fn.ntmps-vs.toArray.size) undef).size:=by rw[hT.1];exact aD
 have fin:∀(d:D) (v:Value) (u':FrameMode) (cs':List Frame),pan.getD .niliface=d->Rep g d v->settle u'=.returning->cs'={ c₀ with mode:=u' }::cs->
   rest.wpSIn (FX P {}) 0 P (bodyPostS P fn c₀ cs fun e u' w'=>(∃v,e=.returned v)/\settle u'=.returning /\ ∃g',g.le g'/\Sim P g' U' w')
    (({ tmps:=vs.toArray++Array.replicate (fn.ntmps-vs.toArray.size) undef,defers:=[] }:Act).put (some t4) v) cs' w:=by
  intro d v u' cs' hd hv ai aB
  refine wpSIn_of_wpIn rfl ?_
  subst hd
  refine wpIn_mono (h g w _ {} rfl ⟨hs,aK _ v hv,rfl⟩) ?_
  rintro e a w' ⟨g',s',x,l1,l2,l3,hx,bk,ah⟩
  have hd:a.defers=[]:=En l2.df bk
  have hr:(results fn a.tmps).run P w'=.ok (.tuple #[]) w':=by simp[results,aI]
  rcases hx with rfl|rfl
  ·obtain rfl:=l3
   exact⟨hd,u',aB,_,hr,⟨_,rfl⟩,ai,g',l1,l2.sim.sub ah⟩
  ·obtain rfl:=l3
   exact⟨hd,u',aB,_,hr,⟨_,rfl⟩,ai,g',l1,l2.sim.sub ah⟩
 cases pan with
 |none=>
  have hu:u=.returning:=hu
  subst hu
  refine HZ (v:=.nilIface) (cs':=c₀::cs) (.inr ⟨?_,rfl,rfl⟩) hsz (fin .niliface .nilIface .returning _ rfl rfl rfl ?_)
  ·simp[recoverD,hc]
  ·rw[<-hc]
 |some d=>
  obtain⟨v,rfl,hv⟩:=hu
  refine HZ (v:=v) (cs':={ c₀ with mode:=.panicking [{ v,recovered:=true }] }::cs) (.inl ?_) hsz (fin d v (.panicking [{ v,recovered:=true }]) _ rfl hv rfl rfl)
  simp[recoverD,hc]
theorem MK(i:Nat)(b:Bool)(O:Sig)(hi:O i=some (.cells [.bool b])):LR prog 160 [.ptr i 0] O none O/\LR prog 160 [.ptr i 0] O (some unfC) (O.set i (.cells [.bool false])):=by
 constructor
 ·refine N3 func160 rfl ntmps160 (by simp) (by decide) rfl ?_
  simp only[Option.getD_none]
  repeat' first|refine gz ?_|apply gy<;>intro hh
  exact⟨.inl rfl,rfl,Sub.refl _⟩
 ·refine N3 func160 rfl ntmps160 (by simp) (by decide) rfl ?_
  simp only[Option.getD_some]
  repeat' first|refine gf hi ?_|apply gy<;>intro hh
  exact⟨.inl rfl,rfl,Sub.refl _⟩
theorem V3(g:Nat)(cap:List D)(O:Sig)(R:Sig->DE->Sig->Prop)
  (hg:∀i,O i=none->DCall prog g cap (O.set i (.cells [.bool false])) (R (O.set i (.cells [.bool false]))))
  (hR:∀U' d S'',R U' (.panic d) S''->d=unfC) (hk:∀i S'' x,O i=none->R (O.set i (.cells [.bool false])) x S''->S'' i=some (.cells [.bool false])) :
  DCall prog 76 [.func (.func g) [] cap] O fun x U'=> ∃i S'',O i=none/\U'=S''.del i /\
   ((∃d,R (O.set i (.cells [.bool false])) (.ret d) S''/\x=.ret (.bool true))\/(R (O.set i (.cells [.bool false])) (.panic unfC) S''/\x=.ret (.bool false))):=by
 refine Hs (fd:=160) func76 rfl (BV func160 (by rfl) (by rfl)) (by rw[Ai];decide) (by decide) ntmps76 (by simp) ?_
 refine gz ?_ [] [2]
 refine newV (fun i hi=>?_)
 refine gz ?_ [] [2]
 refine KN (f:=160) (by rw[Ai];decide) rfl rfl ?_
 refine gz ?_ [] [2]
 refine A7 (hg i hi) (fun d U' hr=>?_) (fun d U' hp=>?_)
 ·have aR:=hk i U' _ hi hr
  refine gf aR ?_ [] [2]
  refine⟨_,Wk.refl _ _ _,[.ptr i 0],U'.set i (.cells [.bool true]),.bool true,rfl,(MK i true _ (w6 ..)).1,DJ (ds:=[.bool true]) Af ?_,.ret (.bool true),U'.del i,Ab _,L9,i,U',hi,rfl,.inl ⟨d,hr,rfl⟩⟩
  simp[resL]
 ·have aR:=hk i U' _ hi hp
  obtain rfl:=hR _ _ _ hp
  refine gz ?_ [] [2]
  refine⟨_,Wk.refl _ _ _,[.ptr i 0],U'.set i (.cells [.bool false]),.bool false,rfl,(MK i false _ aR).2,DJ (ds:=[.bool false]) Af ?_,.ret (.bool false),U'.del i,Ab _,L9,i,U',hi,rfl,.inr ⟨hp,rfl⟩⟩
  simp[resL]
abbrev cCPg(c:CProg):List D:=[sl (c.ins.map cIns),sl (cI c.starts),dI c.main]
def cChk(p:BProg)(c:CProg)(im:Nat):D:=.cptr (cCPg c++Ac p++[.map im]) 0
theorem T4(p:BProg)(c:CProg)(im:Nat)(x:CIns)(O:Sig)(hp:p.wt<=1073741824)(hx:x.op=19->0<=x.a/\x.a<p.gens.length):DCall prog 171 [cChk p c im,.agg (cIns x)] O (rS (.tup [dI (Ah p x).1,dI (Ah p x).2]) O):=by
 obtain⟨p1,p2,p3,p4,p5,p6,p7⟩:=p.wt_le
 by_cases aw:x.op=19
 ·obtain⟨h1,h2⟩:=hx aw
  have e:p.gens.getD x.a.toNat 0=p.gens[x.a.toNat]'(by omega):=by rw[List.getD_eq_getElem?_getD,List.getElem?_eq_getElem (by omega)];rfl
  refine en func171 ntmps171 ?_
  repeat' first|refine gf aw ?_ o171|apply gy<;>intro hh
  any_goals (first|(refine fin2 (U':=O) ?_;exact⟨by first|rfl|(simp[Ah,aw,e];done)|(simp_all [Ah,aw,e];done)|(rw[Ad,Bool.eq_iff_iff];simp_all [Ah,aw,e]<;>omega),rfl⟩)|fail)
 ·refine en func171 ntmps171 ?_
  repeat' first|refine gz ?_ o171|apply gy<;>intro hh
  any_goals (first|(refine fin2 (U':=O) ?_;exact⟨by first|rfl|(simp[Ah];done)|(simp_all [Ah];done)|(rw[Ad,Bool.eq_iff_iff];simp_all [Ah]<;>omega),rfl⟩)|fail)
theorem UR{p:BProg}{N q:Nat}{x:CIns}(h:x.op<1\/21<x.op):fitsQ p N q x=false:=by
 unfold fitsQ;rw[if_neg (by omega),if_neg (by omega),if_neg (by omega),if_neg (by omega),if_neg (by omega),if_neg (by omega),decide_eq_false (by omega)]
theorem UW(p:BProg)(c:CProg)(im:Nat)(q:Nat)(x:CIns)(O:Sig)(hp:p.wt<=1073741824)(hc:c.ins.length<=300)(hq:q<300)(hs : -1000<=p.slots/\p.slots<=1000):DCall prog 99 [cChk p c im,dI q,.agg (cIns x)] O fun r U'=>r=(if fitsQ p c.ins.length q x then .ret (.tup []) else .panic unfC)/\U'=O:=by
 obtain⟨p1,p2,p3,p4,p5,p6,p7⟩:=p.wt_le
 refine en func99 ntmps99 ?_
 repeat' first|((refine finP (U':=O) ⟨?_,rfl⟩;have e:fitsQ p c.ins.length q x=false:=(by first|(simp_all [fitsQ,inB]<;>omega)|exact UR (by omega));rw[e];rfl))|refine gz ?_ o99|apply gy<;>intro hh
 any_goals (first|(refine EW (U':=O) ⟨?_,rfl⟩;have e:fitsQ p c.ins.length q x=true:=(by simp_all [fitsQ,inB]<;>omega);rw[e];rfl)|fail)
@[reducible,instance] def a99:=fun p c im q x O=>gh4 (@UW p c im q x O)
theorem MB(l:List CIns)(q:CIns->Bool)(g:Nat)(cap:List D)(o:Own)(O:Sig)(hl:l.length<=1073741824)(hg:∀x∈l,DCall prog g ([]++[.agg (cIns x)]++cap) O fun r S''=>r=.ret (.bool (q x))/\S''=O):DCall prog 231 [.slice (l.map cIns) o,.func (.func g) [] cap] O (rS (dI (idxF q l 0)) O):=by
 refine en func231 ntmps231 ?_
 refine gz ?_
 refine C1 [0,1,7] (fun (k:Nat)=>k<=l.length/\idxF q l 0=idxF q (l.drop k) k) (fun k=>[(8,dI k)]) (fun _=>O) (fun k=>l.length-k) (0) (by simp) (fun k hI=>?_)
 obtain⟨hk,hR⟩:=hI
 by_cases h:k<l.length
 ·rw[A4 h,idxF]at hR
  repeat' first|refine B9 (hg (l[k]) (List.getElem_mem h)) ?_|refine callP (hg (l[k]) (List.getElem_mem h)) ?_|refine gz ?_|apply gy<;>intro hh
  ·rw[hh]at hR
   exact fe1 hR
  ·rw[hh]at hR
   exact⟨k+1,⟨by omega,hR⟩,td1,wkR⟩
 ·rw[A9 h,idxF]at hR
  refine gz ?_
  exact fe1 hR
theorem MN(l:List CIns)(q:CIns->Bool)(g:Nat)(cap:List D)(o:Own)(O:Sig)(hl:l.length<=1073741824)(hg:∀x∈l,DCall prog g ([]++[.agg (cIns x)]++cap) O fun r S''=>r=.ret (.bool (q x))/\S''=O):DCall prog 152 [.slice (l.map cIns) o,.func (.func g) [] cap] O (rS (.bool (l.any q)) O):=by
 refine en func152 ntmps152 ?_
 repeat' first|refine gz ?_|refine B9 (MB l q g cap o O hl hg) ?_|refine callP (MB l q g cap o O hl hg) ?_|refine gz ?_|apply gy<;>intro hh
 rw[<-Du q l 0]
 exact fe1 trivial
theorem ML(x:CIns)(O:Sig):DCall prog 154 [.agg (cIns x)] O (rS (.bool (F5 x)) O):=by
 refine en func154 ntmps154 ?_
 repeat' first|refine gz ?_|apply gy<;>intro hh
 rotate_left 2
 ·have hn:¬x.op=1:=fun e=>by rw[e]at hh;cases hh
  refine eqlS _ (decide (x=⟨x.op,0⟩)) VX VP (eqIns x ⟨x.op,0⟩) ?_
  have he:decide (x=⟨x.op,0⟩)=decide (x.a=0):=by rcases x with⟨o,a⟩;simp
  refine gz ?_
  refine fin1 (U':=O) ⟨?_,rfl⟩
  rw[he];unfold F5;rw[hh];simp;omega
 all_goals
  refine fin1 (U':=O) ⟨?_,rfl⟩
  rw[Ad,Bool.eq_iff_iff]
  unfold F5 inB farN
  simp_all<;>omega
theorem MM(x:CIns)(O:Sig):DCall prog 153 [.agg (cIns x)] O (rS (.bool (!F5 x)) O):=by
 refine en func153 ntmps153 ?_
 repeat' first|refine gz ?_|refine B9 (ML x O) ?_|refine callP (ML x O) ?_|refine gz ?_|apply gy<;>intro hh
 exact fe1 trivial
theorem V6(c:CProg)(O:Sig)(h1:c.ins.length<=1073741824)(h2:c.starts.length<=1073741824):DCall prog 70 [.agg (cCPg c)] O (rS (.bool (Es c)) O):=by
 refine en func70 ntmps70 ?_
 by_cases c1:c.ins.length<=300
 rotate_left
 ·refine gz ?_
  refine skipV ?_
  refine gz ?_
  refine fin1 (U':=O) ?_
  refine⟨?_,rfl⟩
  rw[Ad,Bool.eq_iff_iff]
  unfold Es
  simp[c1]
 by_cases c2:c.starts.length<=16
 rotate_left
 ·refine gz ?_
  refine skipV ?_
  refine gz ?_
  refine fin1 (U':=O) ?_
  refine⟨?_,rfl⟩
  rw[Ad,Bool.eq_iff_iff]
  unfold Es
  simp[c2]
 repeat' first|refine CJ (FI c.main) ?_|refine callPG (FI c.main) ?_|refine CJ (MP c.starts (fun n=> !farN n) 150 [] .no O h2 (fun n _=>FI n O)) ?_|refine callPG (MP c.starts (fun n=> !farN n) 150 [] .no O h2 (fun n _=>FI n O)) ?_|refine CJ (MN c.ins (fun x=> !F5 x) 153 [] .no O h1 (fun x _=>MM x O)) ?_|refine callPG (MN c.ins (fun x=> !F5 x) 153 [] .no O h1 (fun x _=>MM x O)) ?_|refine gz ?_|apply gy<;>intro hh
 all_goals
  refine fin1 (U':=O) ?_
  refine⟨?_,rfl⟩
  rw[Ad,Bool.eq_iff_iff]
  unfold Es
  rw[decide_eq_true c1,decide_eq_true c2]
  simp_all
 ·obtain⟨x,h1,h2⟩:=hh
  intro h3
  rw[h3 x h1]at h2;cases h2
@[reducible,instance] def a70:=fun c O=>ah2 (@V6 c O)
theorem UZ(O:Sig):DCall prog 85 [] O (rS (.slice (cS wordsC) .clip) O):=by
 refine en func85 ntmps85 ?_
 refine gz ?_
 exact fe1 trivial
@[reducible,instance] def a85:=fun O=>ah0 (@UZ O)
def cVal(v:MVal):List D:=[dI v.kind,dI v.n]
@[simp] theorem cVal_len(v:MVal):(cVal v).length=2:=rfl
@[simp] theorem cVal_flat(v:MVal):Be (cVal v)=true:=rfl
theorem OP:EqTy prog 40:=⟨by kernel_rfl,by kernel_rfl,by kernel_rfl⟩
theorem Ou:(tab 40).k=.struct [(0,38),(1,3)]:=rfl
theorem Vo(a b:MVal):eqFs tab (cVal a) (cVal b) [(0,38),(1,3)]=some (decide (a=b)):=by
 cases a;cases b
 simp[cVal,MVal.mk.injEq,Bool.decide_and]
theorem SY(v:MVal)(O:Sig):DCall prog 183 [.agg (cVal v)] O (rS (dI (AM v)) O):=by
 refine en func183 ntmps183 ?_
 repeat' first|refine gz ?_|apply gy<;>intro hh
 any_goals (first|(refine fin1 (U':=O) ?_;exact⟨by first|rfl|(simp[AM,hh];done)|(simp_all [AM,hh];done)|(rw[Ad,Bool.eq_iff_iff];simp_all [AM,hh]<;>omega),rfl⟩)|fail)
@[reducible,instance] def a183:=fun v O=>ah0 (@SY v O)
theorem SX(b:Bool)(O:Sig):DCall prog 184 [.bool b] O (rS (dI (E2 b)) O):=by
 refine en func184 ntmps184 ?_
 repeat' first|refine gz ?_|apply gy<;>intro hh
 any_goals (first|(refine fin1 (U':=O) ?_;exact⟨by first|rfl|(simp[E2,hh];done)|(simp_all [E2,hh];done)|(rw[Ad,Bool.eq_iff_iff];simp_all [E2,hh]<;>omega),rfl⟩)|fail)
@[reducible,instance] def a184:=fun b O=>ah0 (@SX b O)
theorem MI(v:MVal)(N:Int)(O:Sig):DCall prog 175 [.agg (cVal v),dI N] O (rS (.bool (okV N v)) O):=by
 refine en func175 ntmps175 ?_
 repeat' first|refine gz ?_|apply gy<;>intro hh
 any_goals (first|(refine fin1 (U':=O) ?_;exact⟨by first|rfl|(simp[okV,hh];done)|(simp_all [okV,hh];done)|(rw[Ad,Bool.eq_iff_iff];simp_all [okV,hh]<;>omega),rfl⟩)|fail)
theorem MJ(v:MVal)(N:Int)(O:Sig):DCall prog 174 [.agg (cVal v),.cptr [dI N] 0] O (rS (.bool (!okV N v)) O):=by
 refine en func174 ntmps174 ?_
 repeat' first|refine gz ?_|refine B9 (MI v N O) ?_|refine callP (MI v N O) ?_|refine gz ?_|apply gy<;>intro hh
 exact fe1 trivial
theorem MS(v:MVal)(N:Int)(O:Sig):DCall prog 104 [.agg (cVal v),.cptr [dI N] 0] O (rS (.bool (!okV N v)) O):=by
 refine en func104 ntmps104 ?_
 repeat' first|refine gz ?_|apply gy<;>intro hh
 rotate_left 4
 ·refine neqS _ (decide (v=EJ)) OP Ou (Vo v EJ) ?_
  refine gz ?_
  refine fin1 (U':=O) ?_
  refine⟨?_,rfl⟩
  rw[Ad,Bool.eq_iff_iff]
  obtain⟨k,m⟩:=v
  unfold okV EJ
  simp_all
 all_goals
  refine fin1 (U':=O) ?_
  refine⟨?_,rfl⟩
  rw[Ad,Bool.eq_iff_iff]
  unfold okV
  simp_all
  try omega
theorem MH(l:List MVal)(p:MVal->Bool)(g:Nat)(cap:List D)(o:Own)(O:Sig)(hl:l.length<=1073741824)(hg:∀v∈l,DCall prog g ([]++[.agg (cVal v)]++cap) O (rS (.bool (p v)) O)):DCall prog 176 [.slice (l.map cVal) o,.func (.func g) [] cap] O (rS (dI (idxF p l 0)) O):=by
 refine en func176 ntmps176 ?_
 refine gz ?_
 refine C1 [0,1,7] (fun (k:Nat)=>k<=l.length/\idxF p l 0=idxF p (l.drop k) k) (fun k=>[(8,dI k)]) (fun _=>O) (fun k=>l.length-k) (0) (by simp) (fun k hI=>?_)
 obtain⟨hk,hR⟩:=hI
 by_cases h:k<l.length
 ·rw[A4 h,idxF]at hR
  repeat' first|refine B9 (hg (l[k]) (List.getElem_mem h)) ?_|refine callP (hg (l[k]) (List.getElem_mem h)) ?_|refine gz ?_|apply gy<;>intro hh
  ·rw[hh]at hR
   exact fe1 hR
  ·rw[hh]at hR
   exact⟨k+1,⟨by omega,hR⟩,td1,wkR⟩
 ·rw[A9 h,idxF]at hR
  refine gz ?_
  exact fe1 hR
theorem Hi(l:List MVal)(p:MVal->Bool)(g:Nat)(cap:List D)(o:Own)(O:Sig)(hl:l.length<=1073741824)(hg:∀v∈l,DCall prog g ([]++[.agg (cVal v)]++cap) O (rS (.bool (p v)) O)):DCall prog 103 [.slice (l.map cVal) o,.func (.func g) [] cap] O (rS (.bool (l.any p)) O):=by
 refine en func103 ntmps103 ?_
 repeat' first|refine gz ?_|refine B9 (MH l p g cap _ _ hl hg) ?_|refine callP (MH l p g cap _ _ hl hg) ?_|refine gz ?_|apply gy<;>intro hh
 rw[<-Du p l 0]
 exact fe1 trivial
theorem Ts(l:List MVal)(N:Int)(o:Own)(O:Sig)(hl:l.length<=1073741824):DCall prog 102 [.slice (l.map cVal) o,dI N] O (rS (.bool (okVs N l)) O):=by
 refine en func102 ntmps102 ?_
 repeat' first|refine gz ?_|refine B9 (Hi l (fun v=> !okV N v) 174 [.cptr [dI N] 0] _ _ hl (fun v _=>MJ v N _)) ?_|refine callP (Hi l (fun v=> !okV N v) 174 [.cptr [dI N] 0] _ _ hl (fun v _=>MJ v N _)) ?_|refine gz ?_|apply gy<;>intro hh
 (refine fin1 (U':=O) ?_;exact⟨by first|rfl|(simp[okVs];done)|(simp_all [okVs];done)|(rw[Ad,Bool.eq_iff_iff];simp_all [okVs]<;>omega),rfl⟩)
@[reducible,instance] def a102:=fun l N o O=>ah1 (@Ts l N o O)
theorem Vf(l:List MVal)(N:Int)(o:Own)(O:Sig)(hl:l.length<=1073741824):DCall prog 46 [.slice (l.map cVal) o,dI N] O (rS (.bool (okVs N l)) O):=by
 refine en func46 ntmps46 ?_
 repeat' first|refine gz ?_|refine B9 (Hi l (fun v=> !okV N v) 104 [.cptr [dI N] 0] _ _ hl (fun v _=>MS v N _)) ?_|refine callP (Hi l (fun v=> !okV N v) 104 [.cptr [dI N] 0] _ _ hl (fun v _=>MS v N _)) ?_|refine gz ?_|apply gy<;>intro hh
 (refine fin1 (U':=O) ?_;exact⟨by first|rfl|(simp[okVs];done)|(simp_all [okVs];done)|(rw[Ad,Bool.eq_iff_iff];simp_all [okVs]<;>omega),rfl⟩)
@[reducible,instance] def a46:=fun l N o O=>ah1 (@Vf l N o O)
theorem AQ{O:Sig}{a b:Nat}{o:DObj}(h:O a=some o)(k:O b=none):a≠b:=fun e=>by rw[e,k]at h;cases h
theorem RowAt.sref{O:Sig}{sz:Nat}{st:MR}{es:List (List D)}(h:RowAt O sz st es)(hne:es≠[]): ∃r c, ∀n,mD st n=.sref r 0 n c:=by
 rcases st with _|⟨i,cap,rest⟩
 ·exact absurd h hne
 ·exact⟨i,cap,fun _=>rfl⟩
def BK(ib:Nat)(O:Sig)(st:MR)(U':Sig)(st':MR):Prop:= ∀j o,O j=some o->j≠ib->¬G8 st j->U' j=some o /\ ¬G8 st' j
theorem BK.trans{ib:Nat}{O S1 S2:Sig}{st st1 st2:MR}(h:BK ib O st S1 st1)(k:BK ib S1 st1 S2 st2):BK ib O st S2 st2:=fun j o hj hi hn=>k j o (h j o hj hi hn).1 hi (h j o hj hi hn).2
theorem BK.refl(ib:Nat)(O:Sig)(st:MR):BK ib O st O st:=fun j o h _ hn=>⟨h,hn⟩
theorem BK.fresh{ib:Nat}{O S1:Sig}{st st1:MR}{k:Nat}{o:DObj}(h:BK ib O st S1 st1)(hk:S1 k=none):BK ib O st (S1.set k o) st1:=fun j x hj hi hn=>by
 obtain⟨h1,h2⟩:=h j x hj hi hn
 exact⟨by rw[w7 _ _ (AQ h1 hk)];exact h1,h2⟩
structure BlkS(ib:Nat)(s m:D)(st:MR)(ins:List CIns)(O:Sig):Prop where
 env:O ib=some (.cells [mD st ins.length,s,m])
 row:RowAt O 2 st (ins.map cIns)
 nr:¬G8 st ib
section
variable {ib:Nat}{s m:D}{st:MR}{ins:List CIns}{O:Sig}
theorem BlkS.notrow(h:BlkS ib s m st ins O){k:Nat}(hk:O k=none): ¬G8 st k:=fun hr=>by
 obtain⟨cs,hc⟩:=h.row.cells hr;rw[hk]at hc;cases hc
theorem BlkS.fresh(h:BlkS ib s m st ins O){k:Nat}{o:DObj}(hk:O k=none):BlkS ib s m st ins (O.set k o):=
 ⟨by rw[w7 _ _ (AQ h.env hk)];exact h.env,h.row.keep fun j x hj hr=>by rw[w7 _ _ fun e=>h.notrow hk (by rw[<-e];exact hr)];exact hj,h.nr⟩
theorem Dc(op a:Int)(hn:ins.length<=1000000)(hB:BlkS ib s m st ins O):DCall prog 132 [.ptr ib 0,dI op,dI a] O fun x U'=>x=.ret (.tup []) /\ ∃st',BlkS ib s m st' (ins++[⟨op,a⟩]) U'/\BK ib O st U' st':=by
 obtain⟨q1,q2,q3⟩:=hB
 refine en func132 ntmps132 ?_
 refine gf q1 ?_
 refine rapp (es:=ins.map cIns) (fun st2 S2 ak ap=>?_) (hm:=q2)
 obtain⟨v1,v2⟩:=ap _ _ q1 q3
 obtain⟨rr,rc,aY⟩:=ak.sref (by simp)
 have aM:=aY (ins.length+1)
 refine gf (gi v1 aM) ?_
 have aL:(ins++[(⟨op,a⟩:CIns)]).map cIns=ins.map cIns++[[dI op,dI a]]:=by simp[cIns]
 refine EW (U':=S2.set ib (.cells [.sref rr 0 (ins.length+1) rc,s,m])) ?_
 refine⟨rfl,st2,⟨by rw[w6,aY];simp,?_,v2⟩,fun j o hj aZ hr=>?_⟩
 ·rw[aL]
  exact ak.keep fun j x hj hr=>by rw[w7 _ _ fun e=>v2 (by rw[<-e];exact hr)];exact hj
 ·obtain⟨h3,h4⟩:=ap j o hj hr
  exact⟨by rw[w7 _ _ aZ];exact h3,h4⟩
abbrev cLater(ib k:Nat):D:=.func (.func 259) [] [.cptr [.ptr ib 0] 0,.cptr [dI k] 0]
theorem MF(op:Int)(hn:ins.length<=1000000)(hB:BlkS ib s m st ins O):DCall prog 207 [.ptr ib 0,dI op] O fun x U'=>x=.ret (cLater ib ins.length) /\ ∃st',BlkS ib s m st' (ins++[⟨op,0⟩]) U'/\BK ib O st U' st':=by
 have bb:=hB
 obtain⟨q1,q2,q3⟩:=hB
 refine en func207 ntmps207 ?_
 cases aE:st with
 |none=>
  subst aE
  have h0:ins=[]:=by have:ins.map cIns=[]:=q2;simpa using this
  subst h0
  simp only[mD]at q1
  refine gf q1 ?_
  refine A7 (Dc op 0 hn bb) (fun d U' hr=>?_) (fun d U' hr=>by cases hr.1)
  obtain⟨h1,st',aV,hK⟩:=hr
  cases h1
  refine gz ?_
  refine fin1 (U':=U') ⟨rfl,st',aV,hK⟩
 |some x=>
  obtain⟨rr,rc,rest⟩:=x
  subst aE
  simp only[mD]at q1
  refine gf q1 ?_
  refine A7 (Dc op 0 hn bb) (fun d U' hr=>?_) (fun d U' hr=>by cases hr.1)
  obtain⟨h1,st',aV,hK⟩:=hr
  cases h1
  refine gz ?_
  refine fin1 (U':=U') ⟨rfl,st',aV,hK⟩
def setA(l:List CIns)(k:Nat)(a:Int):List CIns:=l.take k++((l[k]?).map fun x=>(⟨x.op,a⟩:CIns)).toList++l.drop (k+1)
theorem My(k:Nat)(hk:k<ins.length)(hn:ins.length<=1000000)(hB:BlkS ib s m st ins O):DCall prog 259 [.cptr [.ptr ib 0] 0,.cptr [dI k] 0] O fun x U'=>x=.ret (.tup []) /\ ∃st',BlkS ib s m st' (setA ins k ins.length) U'/\BK ib O st U' st':=by
 obtain⟨q1,q2,q3⟩:=hB
 rcases st with _|⟨r,rc,rest⟩
 ·have:ins.map cIns=[]:=q2
  simp at this;subst this;simp at hk
 have hx:ins=ins.take k++ins[k]::ins.drop (k+1):=by simp
 have aF:setA ins k ins.length=ins.take k++(⟨(ins[k]).op,ins.length⟩:CIns)::ins.drop (k+1):=by unfold setA;rw[List.getElem?_eq_getElem hk];simp
 have aH:O r=some (.cells ((ins.map cIns).flatten++rest))/\((ins.map cIns).flatten++rest).length=rc*2/\(ins.map cIns).length<=rc/\_:=q2
 obtain⟨w1,w2,w3,w4⟩:=aH
 have aW:((ins.take k).map cIns).flatten.length=k*2:=by rw[Au (sz:=2) (fun e he=>by obtain⟨x,_,rfl⟩:=List.mem_map.1 he;rfl)];simp;omega
 have aB:(ins.map cIns).flatten++rest=((ins.take k).map cIns).flatten++dI (ins[k]).op::dI (ins[k]).a::(((ins.drop (k+1)).map cIns).flatten++rest):=by
  have h0:ins.map cIns=(ins.take k).map cIns++cIns ins[k]::(ins.drop (k+1)).map cIns:=by rw[<-List.map_cons,<-List.map_append,<-hx]
  rw[h0];simp only[List.flatten_append,List.flatten_cons,List.append_assoc,cIns,List.cons_append,List.nil_append]
 have au:((setA ins k ins.length).map cIns).flatten++rest=((ins.take k).map cIns).flatten++dI (ins[k]).op::dI (ins.length:Int)::(((ins.drop (k+1)).map cIns).flatten++rest):=by
  rw[aF];simp only[List.map_append,List.map_cons,List.flatten_append,List.flatten_cons,List.append_assoc,cIns,List.cons_append,List.nil_append]
 have hlen:(setA ins k ins.length).length=ins.length:=by rw[aF];simp;omega
 rw[aB]at w1 w2
 generalize hA:((ins.take k).map cIns).flatten=A at*
 generalize hM:((ins.drop (k+1)).map cIns).flatten++rest=M at*
 have bu:A.length+(2+M.length)=rc*2:=by simp only[List.length_append,List.length_cons]at w2;omega
 have bq:k<rc:=by rw[List.length_map]at w3;omega
 have bm:ib≠r:=fun h=>q3 h
 have q1':O ib=some (.cells [.sref r 0 ins.length rc,s,m]):=q1
 have aE:(A++dI (ins[k]).op::dI (ins[k]).a::M).set (k*2+1) (dI (ins.length:Int))=A++dI (ins[k]).op::dI (ins.length:Int)::M:=by
  rw[<-aW,List.set_append_right _ _ (by omega)];simp
 have be:List.take (k*2+1) (A++dI ins[k].op::dI ins[k].a::M)=A++[dI ins[k].op]:=by rw[<-aW,List.take_length_add_append];rfl
 have bl:List.drop (k*2+1+1) (A++dI ins[k].op::dI ins[k].a::M)=M:=by rw[<-aW,Nat.add_assoc,List.drop_length_add_append];rfl
 have br:(setA ins k ins.length).map cIns=(ins.take k).map cIns++cIns ⟨(ins[k]).op,ins.length⟩::(ins.drop (k+1)).map cIns:=by rw[aF];simp
 refine en func259 ntmps259 ?_
 refine gf (gi q1' w1) ?_ o259
 rw[be,bl]
 refine EW (U':=O.set r (.cells (A++[dI ins[k].op]++dI (ins.length:Int)::M))) ⟨rfl,some (r,rc,rest),⟨?_,⟨?_,?_,?_,?_⟩,q3⟩,fun j o hj aZ hr=>⟨by rw[w7 _ _ fun e=>hr e];exact hj,hr⟩⟩
 ·rw[w7 _ _ bm,q1',hlen];rfl
 ·rw[w6,au,List.append_assoc];rfl
 ·rw[au];simp only[List.length_append,List.length_cons];omega
 ·rw[List.length_map,hlen];rw[List.length_map]at w3;exact w3
 ·intro z hz;obtain⟨x,_,rfl⟩:=List.mem_map.1 hz;rfl
end
section
variable {ro:Ro}{n:Nat}{ops:Array Oper}{N:Nat}{S0:Sig}{Q:DX->St->Prop}{df:List DDf}{rest:List Oper}{γ Sr:List (Nat×D)}{O:Sig}{t:Nat}{ty:TypeId}{pos:String}{after:Array Edge}{d:D}
theorem cutH{T e i off len cap hi:Nat}{k:IntKind}{x y:Operand}(h:DOps prog ro n ops Q rest ⟨(t,.sref i off hi cap)::γ,O,df⟩)(bh:hi<=cap)
  (hl:A2 γ (A8 [x,y])=some Sr:=by exact tdR) (h1:ev Sr x=.sref i off len cap:=by exact tdR) (h2:ev Sr y=.int k hi:=by exact tdR) (hk:(tab T).k=.slice e:=by(simp<;>rfl)) (he:A0 (tab e).k=false:=by simp) (bd:decide (t<n)=true:=by exact tdR) :
  DOps prog ro n ops Q (⟨some t,.slice T x none (some y) none,ty,pos,after,none⟩::rest) ⟨γ,O,df⟩:=by
 obtain⟨e1,e2⟩:=evs hl
 refine C9 (fun d U'=>d=.sref i off hi cap/\U'=O) rfl (fun c e=>by cases e) (Ae fun c e=>by cases e) (by simp only[Aq];exact bd) ?_
  (fun d U' ⟨a2,a3⟩=>by subst a2 a3;exact h)
 intro g w a hs hT
 have hx:=Am hT x
 have hy:=Am hT y
 rw[<-e1,h1]at hx
 rw[<-e2,h2]at hy
 obtain⟨r,h4,h5⟩:=Oc (w:=w) Af hk he hx hy bh
 exact⟨g,w,r,_,O,by simp only[execOp,Option.map_some,Option.map_none,Sem.run_bind,h4,Result.andThen_ok,Sem.run_pure],.refl g,hs,h5,rfl,rfl⟩
end
def cEv(e:MEv):List D:=[dI e.deed,dI e.n,.slice (e.vals.map cVal) .clip]
def tCells(S:Nat->RW)(l:List MThing):List (List D):=l.mapIdx fun k o=>[dI o.cls,(S k).d o.slots.length]
def rCt(R:Nat->RW)(s:GoS):Nat->List (List D)
 |0=>s.stk.map cVal
 |1=>s.env.map cVal
 |2=>s.evs.map cEv
 |3=>tCells (fun k=>R (k+4)) s.objs
 |k+4=>((s.objs[k]?).getD ⟨0,[]⟩).slots.map cVal
def rSz(a:Nat):Nat:=if a=2 then 3 else 2
abbrev AR(p:BProg)(R:Nat->RW)(s:GoS):List D:=[dI 0,dI 0,dI 0,dI 0,.nils,dI 0,dI 0,.nils,.nils,(R 3).d s.objs.length,(R 2).d s.evs.length]++Ac p++[dI s.pos,(R 0).d s.stk.length,(R 1).d s.env.length]
structure RunS(ir:Nat)(p:BProg)(R:Nat->RW)(s:GoS)(O:Sig):Prop where
 obj:O ir=some (.cells (AR p R s))
 rows:Rows O R rSz (rCt R s)
 ni:∀a, ¬(R a).is ir
 nf:∀a es,R a=.full es->es=[]
def RunK(ir:Nat)(R:Nat->RW)(O:Sig)(R':Nat->RW)(U':Sig):Prop:= ∀j o,O j=some o->j≠ir->(∀a, ¬(R a).is j)->U' j=some o /\ ∀a, ¬(R' a).is j
theorem RunK.refl(ir:Nat)(R:Nat->RW)(O:Sig):RunK ir R O R O:=fun _ _ h _ k=>⟨h,k⟩
theorem RunK.trans{ir:Nat}{R R1 R2:Nat->RW}{O S1 S2:Sig}(h:RunK ir R O R1 S1)(k:RunK ir R1 S1 R2 S2):RunK ir R O R2 S2:=fun j o hj hi hn=>k j o (h j o hj hi hn).1 hi (h j o hj hi hn).2
section
variable {ir:Nat}{p:BProg}{R:Nat->RW}{s:GoS}{O:Sig}
theorem RunS.row(h:RunS ir p R s O)(a:Nat)(hne:rCt R s a≠[]): ∃i c cs,R a=.row i c cs:=by
 have hk:=h.rows.ok a
 cases hR:R a with
 |nil=>rw[hR]at hk;exact absurd hk hne
 |full es=>rw[hR]at hk;obtain⟨h1,_⟩:=hk;rw[h.nf a es hR]at h1;exact absurd h1 hne
 |row i c cs=>exact⟨i,c,cs,rfl⟩
theorem RunS.put(h:RunS ir p R s O){a:Nat}{i c:Nat}{cs:List D}{es':List (List D)}{s':GoS}{S1:Sig}{ds:List D}(hr:RWAt S1 (rSz a) (.row i c cs) es')(hk:RWK O (R a) S1 (.row i c cs))(aS:∀b,rCt (updF R a (.row i c cs)) s' b=updF (rCt R s) a es' b)(hd:ds=AR p (updF R a (.row i c cs)) s'):
  RunS ir p (updF R a (.row i c cs)) s' (S1.set ir (.cells ds))/\RunK ir R O (updF R a (.row i c cs)) (S1.set ir (.cells ds)):=by
 obtain⟨k1,k2⟩:=hk ir _ h.obj (h.ni a)
 have hR:=(h.rows.upd hr hk).retell aS
 have ax:∀b, ¬(updF R a (.row i c cs) b).is ir:=fun b=>by
  by_cases e:b=a
  ·subst e;rw[Aj];exact k2
  ·rw[Aa _ _ e];exact h.ni b
 refine⟨⟨by rw[w6,hd],hR.keep fun j o hj ⟨b,hb⟩=>by rw[w7 _ _ fun e=>ax b (by rw[<-e];exact hb)];exact hj,ax,fun b es hb=>?_⟩,fun j o hj ag hn=>⟨by rw[w7 _ _ ag];exact(hk j o hj (hn a)).1,fun b=>?_⟩⟩
 ·by_cases e:b=a
  ·subst e;rw[Aj]at hb;cases hb
  ·rw[Aa _ _ e]at hb;exact h.nf b es hb
 ·by_cases e:b=a
  ·subst e;rw[Aj];exact(hk j o hj (hn b)).2
  ·rw[Aa _ _ e];exact hn b
theorem RunS.re(h:RunS ir p R s O){a:Nat}{i c:Nat}{cs:List D}{es':List (List D)}{s':GoS}{ds:List D}(hr:RWAt O (rSz a) (.row i c cs) es')(hi:∀j,(RW.row i c cs).is j->(R a).is j)(aS:∀b,rCt (updF R a (.row i c cs)) s' b=updF (rCt R s) a es' b)(hd:ds=AR p (updF R a (.row i c cs)) s'):
  RunS ir p (updF R a (.row i c cs)) s' (O.set ir (.cells ds))/\RunK ir R O (updF R a (.row i c cs)) (O.set ir (.cells ds)):=by
 have hR:=(h.rows.re hr hi).retell aS
 have aQ:∀b j,(updF R a (.row i c cs) b).is j->(R b).is j:=fun b j hb=>by
  by_cases e:b=a
  ·subst e;rw[Aj]at hb;exact hi j hb
  ·rwa [Aa _ _ e]at hb
 refine⟨⟨by rw[w6,hd],hR.keep fun j o hj ⟨b,hb⟩=>by rw[w7 _ _ fun e=>h.ni b (by rw[<-e];exact aQ b j hb)];exact hj,fun b hb=>h.ni b (aQ b _ hb),fun b es hb=>?_⟩,fun j o hj ag hn=>⟨by rw[w7 _ _ ag];exact hj,fun b hb=>hn b (aQ b j hb)⟩⟩
 by_cases e:b=a
 ·subst e;rw[Aj]at hb;cases hb
 ·rw[Aa _ _ e]at hb;exact h.nf b es hb
@[simp] theorem Fh(i c n:Nat)(cs:List D):(RW.row i c cs).d n=.sref i 0 n c:=rfl
@[simp] theorem cVal_tk(v:MVal):List.take 2 (cVal v)=cVal v:=rfl
@[simp] theorem cVal_mem(v:MVal)(d:D):(d∈cVal v)=(d=dI v.kind\/d=dI v.n):=by simp[cVal]
theorem Bv{l:List MVal}: ∀c∈l.map cVal,c.length=2:=fun c h=>by obtain⟨v,_,rfl⟩:=List.mem_map.1 h;rfl
theorem FU(R:Nat->RW)(a:Nat)(r:RW)(ha:a<4)(l:List MThing):tCells (fun k=>updF R a r (k+4)) l=tCells (fun k=>R (k+4)) l:=by
 unfold tCells
 congr 1
 funext k o
 simp only[Aa R r (show k+4≠a by omega)]
theorem rCt_0(R:Nat->RW)(r:RW)(s:GoS)(l:List MVal)(b:Nat):rCt (updF R 0 r) { s with stk:=l } b=updF (rCt R s) 0 (l.map cVal) b:=by
 match b with
 |0=>rfl
 |1=>rfl
 |2=>rfl
 |3=>exact FU R 0 r (by omega) _
 |k+4=>rfl
theorem rCt_1(R:Nat->RW)(r:RW)(s:GoS)(l:List MVal)(b:Nat):rCt (updF R 1 r) { s with env:=l } b=updF (rCt R s) 1 (l.map cVal) b:=by
 match b with
 |0=>rfl
 |1=>rfl
 |2=>rfl
 |3=>exact FU R 1 r (by omega) _
 |k+4=>rfl
theorem rCt_2(R:Nat->RW)(r:RW)(s:GoS)(l:List MEv)(b:Nat):rCt (updF R 2 r) { s with evs:=l } b=updF (rCt R s) 2 (l.map cEv) b:=by
 match b with
 |0=>rfl
 |1=>rfl
 |2=>rfl
 |3=>exact FU R 2 r (by omega) _
 |k+4=>rfl
theorem Bu(v:MVal)(hR:RunS ir p R s O)(hn:s.stk.length<=1000000):DCall prog 177 [.ptr ir 0,.agg (cVal v)] O fun x U'=>x=.ret (.bool false) /\ ∃R',RunS ir p R' { s with stk:=s.stk++[v] } U'/\RunK ir R O R' U':=by
 have q1:=hR.obj
 have q0:RWAt O 2 (R 0) (s.stk.map cVal):=hR.rows.ok 0
 have u1:(O.out (R 0).is) ir=some (.cells (AR p R s)):=Dk q1 (hR.ni 0)
 refine en func177 ntmps177 ?_
 refine gf q1 ?_
 refine Fs (id:=1) [0,1,2,3,4,5,6,7,8,9,10,11] [8] (O.out (R 0).is) (CC _ _) ?_
 refine gf u1 ?_ o177
 refine H3 (es:=s.stk.map cVal) (fun i c cs S2 ak ap=>?_) (fun j o h=>Dh h) (hm:=q0)
 obtain⟨v1,v2⟩:=ap _ _ q1 (hR.ni 0)
 refine gf v1 ?_ o177
 rw[show s.stk.map cVal++[cVal v]=(s.stk++[v]).map cVal by simp]at ak
 obtain⟨p1,p2⟩:=hR.put (a:=0) (s':={ s with stk:=s.stk++[v] }) ak ap (rCt_0 R _ s _) rfl
 refine fin1 (U':=_) ⟨rfl,_,p1,p2⟩ (hZ:=?_)
 simp[AR,Ac]
 exact Sub.refl _
theorem L5(l:List MVal)(v:MVal)(m:List MVal)(cs:List D):List.take 2 (List.drop (l.length*2) (((l++v::m).map cVal).flatten++cs))=cVal v:=by
 have e:((l++v::m).map cVal).flatten++cs=(l.map cVal).flatten++(cVal v++((m.map cVal).flatten++cs)):=by simp
 have h:(l.map cVal).flatten.length=l.length*2:=by rw[Au Bv];simp
 rw[e,<-h,List.drop_left];rfl
theorem Gq(l:List MVal)(cs:List D):((l.map cVal).flatten++cs).length=l.length*2+cs.length:=by
 rw[List.length_append,Au Bv];simp
theorem Ck(r:List MVal)(v:MVal)(hR:RunS ir p R s O)(hs:s.stk=r++[v])(hn:s.stk.length<=1000000):DCall prog 181 [.ptr ir 0] O fun x U'=>x=.ret (.agg (cVal v)) /\ ∃R',RunS ir p R' { s with stk:=r } U'/\RunK ir R O R' U':=by
 have q1:=hR.obj
 obtain⟨i,c,cs,h0⟩:=hR.row 0 (by rw[rCt,hs];simp)
 have q0:RWAt O 2 (R 0) (s.stk.map cVal):=hR.rows.ok 0
 have ax:=hR.ni 0
 rw[h0,hs]at q0
 rw[h0]at ax
 have hl:s.stk.length=r.length+1:=by rw[hs];simp
 unfold AR at q1
 rw[h0,hl]at q1
 simp only[Fh]at q1
 obtain⟨z1,z2,z3,z4⟩:=q0
 have hv:=L5 r v [] cs
 have bn:((List.map cVal (r++[v])).flatten++cs).length=(r.length+1)*2+cs.length:=by rw[Gq];simp
 refine en func181 ntmps181 ?_
 refine gz ?_ [] [2]
 refine newV (fun i2 aq=>?_)
 have n1:ir≠i2:=fun e=>by rw[<-e,hR.obj]at aq;cases aq
 have n2:i≠i2:=fun e=>by rw[<-e,z1]at aq;cases aq
 have q2:(O.set i2 (.cells [.int .i64 0,.int .i64 0])) ir=_:=(w7 _ _ n1).trans q1
 have q3:(O.set i2 (.cells [.int .i64 0,.int .i64 0])) i=_:=(w7 _ _ n2).trans z1
 have hr:RWAt O 2 (.row i c (cVal v++cs)) (r.map cVal):=⟨by rw[z1];simp,by rw[<-List.append_assoc];simpa using z2,by simp only[List.length_map,List.length_append,List.length_singleton]at z3⊢; omega,Bv⟩
 generalize (List.map cVal (r++[v])).flatten++cs=L at*
 have aA:r.length*2+2<=L.length:=by omega
 refine gf (gi q1 (gi z1 (gi hv aA))) ?_ [] [2]
 simp only[List.length_map,List.length_append,List.length_singleton]at z3
 refine cutH (i:=i) (off:=0) (len:=r.length+1) (cap:=c) (hi:=r.length) ?_ (by omega)
 refine gf q1 ?_ [] [2]
 obtain⟨p1,p2⟩:=hR.re (a:=0) (s':={ s with stk:=r }) hr (by rw[h0];exact fun j h=>h) (rCt_0 R _ s _) rfl
 refine finC (U':=_) ⟨rfl,_,p1,p2⟩ (hZ:=fun j o hj=>?_)
 by_cases e:j=ir
 ·subst e;rw[w6]at hj;rw[w7 _ _ n1,w6,<-hj];rfl
 ·rw[w7 _ _ e]at hj
  have e2:j≠i2:=fun h=>by rw[h,aq]at hj;cases hj
  rw[w7 _ _ e2,w7 _ _ e,w7 _ _ e2];exact hj
end
abbrev OB(p:BProg)(R:Nat->RW)(s:GoS)(av:D)(b:Bool)(h:GoH):List D:=
 [dI h.kind,dI h.val.kind,dI h.val.n,dI h.gen,av,dI h.fin]++(if b then [dI s.pos,(R 0).d s.stk.length,(R 1).d s.env.length] else [dI 0,.nils,.nils])++[(R 3).d s.objs.length,(R 2).d s.evs.length]++Ac p++[dI s.pos,(R 0).d s.stk.length,(R 1).d s.env.length]
structure HaltS(ir:Nat)(p:BProg)(R:Nat->RW)(s:GoS)(av:D)(b:Bool)(h:GoH)(O:Sig):Prop where
 obj:O ir=some (.cells (OB p R s av b h))
 rows:Rows O R rSz (rCt R s)
 ni:∀a, ¬(R a).is ir
 nf:∀a es,R a=.full es->es=[]
 args:WkD av (sl (h.args.map cVal))
 objs:h.objs=s.objs
 evs:h.evs=s.evs
 st:if b then h.pos=s.pos/\h.stk=s.stk/\h.env=s.env else h.pos=0/\h.stk=[]/\h.env=[]
section
variable {ir:Nat}{p:BProg}{R:Nat->RW}{s:GoS}{O:Sig}
theorem RunS.halt(h:RunS ir p R s O){av:D}{b:Bool}{k:GoH}{ds:List D}(hd:ds=OB p R s av b k)(ha:WkD av (sl (k.args.map cVal)))(ho:k.objs=s.objs)(he:k.evs=s.evs)(hs:if b then k.pos=s.pos/\k.stk=s.stk/\k.env=s.env else k.pos=0/\k.stk=[]/\k.env=[]):
  HaltS ir p R s av b k (O.set ir (.cells ds))/\RunK ir R O R (O.set ir (.cells ds)):=
 ⟨⟨by rw[w6,hd],h.rows.keep fun j o hj ⟨b,hb⟩=>by rw[w7 _ _ fun e=>h.ni b (by rw[<-e];exact hb)];exact hj,h.ni,h.nf,ha,ho,he,hs⟩,fun j o hj ag hn=>⟨by rw[w7 _ _ ag];exact hj,hn⟩⟩
theorem rCt_pos(R:Nat->RW)(s:GoS)(q:Int)(b:Nat):rCt R { s with pos:=q } b=rCt R s b:=by
 match b with
 |0=>rfl
 |1=>rfl
 |2=>rfl
 |3=>rfl
 |k+4=>rfl
theorem RunS.at(h:RunS ir p R s O)(q:Int){ds:List D}(hd:ds=AR p R { s with pos:=q }):RunS ir p R { s with pos:=q } (O.set ir (.cells ds))/\RunK ir R O R (O.set ir (.cells ds)):=
 ⟨⟨by rw[w6,hd],(h.rows.retell (rCt_pos R s q)).keep fun j o hj ⟨b,hb⟩=>by rw[w7 _ _ fun e=>h.ni b (by rw[<-e];exact hb)];exact hj,h.ni,h.nf⟩,fun j o hj ag hn=>⟨by rw[w7 _ _ ag];exact hj,hn⟩⟩
theorem Uj{ds:List D}{r0 r1:RW}{a:Int}{n m k:Nat}(h:O ir=some (.cells ds))(hl:k+3<=ds.length):Eh tab O 34 (.ptr ir k) (.agg [dI a,r0.d n,r1.d m])=some (.any,O.set ir (.cells (ds.take k++[dI a,r0.d n,r1.d m]++ds.drop (k+3)))):=by
 have hf:¬ds.length<k+3:=by omega
 cases r0<;>cases r1<;>simp[Eh,h,RW.d,hf]
theorem La{ro:Ro}{n:Nat}{ops:Array Oper}{Q:DX->St->Prop}{df:List DDf}{rest:List Oper}{γ Sr:Fr}{ty:TypeId}{pos:String}{after:Array Edge}{x y:Operand}{ds:List D}{r0 r1:RW}{a:Int}{m m' k:Nat}(hc:O ir=some (.cells ds))(h:DOps prog ro n ops Q rest ⟨γ,O.set ir (.cells (ds.take k++[dI a,r0.d m,r1.d m']++ds.drop (k+3))),df⟩)
  (hl:A2 γ (A8 [x,y])=some Sr:=by exact tdR) (h1:ev Sr x=.ptr ir k:=by exact tdR) (h2:ev Sr y=.agg [dI a,r0.d m,r1.d m']:=by exact tdR) (hlen:k+3<=ds.length:=by simp) :
  DOps prog ro n ops Q (⟨none,.store 34 x y,ty,pos,after,none⟩::rest) ⟨γ,O,df⟩:=
 Ei Af (d:=.any) hl (by show Eh tab O 34 (ev Sr x) (ev Sr y)=_;rw[h1,h2];exact Uj hc hlen) h
theorem Hh(e:Int)(stk:List MVal)(hR:RunS ir p R s O):DCall prog 178 [.ptr ir 0,dI e] O fun x U'=>x=.ret (.bool true)/\HaltS ir p R s .nils false (GF s e stk) U'/\RunK ir R O R U':=by
 have q1:=hR.obj
 refine en func178 ntmps178 ?_
 refine gf q1 ?_
 obtain⟨p1,p2⟩:=hR.halt (av:=.nils) (b:=false) (k:=GF s e stk) rfl (Ak _ (.inl rfl)) rfl rfl ⟨rfl,rfl,rfl⟩
 exact fin1 (U':=_) ⟨rfl,p1,p2⟩
theorem Tr(x:CIns)(hR:RunS ir p R s O)(hn:s.stk.length<=1000000):DCall prog 105 [.ptr ir 0,.agg (cIns x)] O fun r U'=>r=.ret (.bool false) /\ ∃R',RunS ir p R' { s with stk:=s.stk++[vInt x.a] } U'/\RunK ir R O R' U':=by
 refine en func105 ntmps105 ?_
 refine gz ?_
 refine A7 (Bu (vInt x.a) hR hn) (fun d S1 hr=>?_) (fun d S1 hr=>by cases hr.1)
 obtain⟨hd,hr⟩:=hr
 cases hd
 refine gz ?_
 exact fin1 (U':=S1) ⟨rfl,hr⟩
theorem Tq(x:CIns)(hR:RunS ir p R s O)(hn:s.stk.length<=1000000):DCall prog 106 [.ptr ir 0,.agg (cIns x)] O fun r U'=>r=.ret (.bool false) /\ ∃R',RunS ir p R' { s with stk:=s.stk++[EJ] } U'/\RunK ir R O R' U':=by
 refine en func106 ntmps106 ?_
 refine gz ?_
 refine A7 (Bu EJ hR hn) (fun d S1 hr=>?_) (fun d S1 hr=>by cases hr.1)
 obtain⟨hd,hr⟩:=hr
 cases hd
 refine gz ?_
 exact fin1 (U':=S1) ⟨rfl,hr⟩
theorem Tg(x:CIns)(r:List MVal)(v:MVal)(hR:RunS ir p R s O)(hs:s.stk=r++[v])(hn:s.stk.length<=1000000):DCall prog 116 [.ptr ir 0,.agg (cIns x)] O fun y U'=>y=.ret (.bool false) /\ ∃R',RunS ir p R' { s with stk:=r } U'/\RunK ir R O R' U':=by
 refine en func116 ntmps116 ?_
 refine gz ?_
 refine A7 (Ck r v hR hs hn) (fun d S1 hr=>?_) (fun d S1 hr=>by cases hr.1)
 obtain⟨hd,hr⟩:=hr
 cases hd
 refine gz ?_
 exact fin1 (U':=S1) ⟨rfl,hr⟩
theorem Te(x:CIns)(hR:RunS ir p R s O):DCall prog 118 [.ptr ir 0,.agg (cIns x)] O fun y U'=>y=.ret (.bool false) /\ ∃R',RunS ir p R' { s with pos:=x.a } U'/\RunK ir R O R' U':=by
 have q1:=hR.obj
 refine en func118 ntmps118 ?_
 refine gf q1 ?_
 obtain⟨p1,p2⟩:=hR.at x.a rfl
 exact fin1 (U':=_) ⟨rfl,_,p1,p2⟩
theorem Tc(x:CIns)(hR:RunS ir p R s O):DCall prog 120 [.ptr ir 0,.agg (cIns x)] O fun y U'=>y=.ret (.bool true)/\HaltS ir p R s .nils true ⟨3,vZ,0,[],0,s.pos,s.stk,s.env,s.objs,s.evs⟩ U'/\RunK ir R O R U':=by
 have q1:=hR.obj
 refine en func120 ntmps120 ?_
 refine gf q1 ?_
 obtain⟨p1,p2⟩:=hR.halt (av:=.nils) (b:=true) (k:=⟨3,vZ,0,[],0,s.pos,s.stk,s.env,s.objs,s.evs⟩) rfl (Ak _ (.inl rfl)) rfl rfl ⟨rfl,rfl,rfl⟩
 refine La (w6 ..) ?_
 simp only[w8]
 refine gz ?_
 exact fin1 (U':=_) ⟨rfl,p1,p2⟩
theorem rowV{a:Nat}{l:List MVal}(h:RWAt O 2 (R a) (l.map cVal))(hne:R a≠.nil)(hf:∀es,R a=.full es->es=[]){n:Nat}(hn:n<l.length): ∃i c cs,R a=.row i c cs /\ ∃L,O i=some (.cells L)/\n*2+2<=L.length/\List.take 2 (List.drop (n*2) L)=cVal l[n]:=by
 cases hR:R a with
 |nil=>exact absurd hR hne
 |full es=>
  rw[hR]at h
  have:=hf es hR
  subst this
  obtain⟨h1,_⟩:=h
  simp at h1
  rw[h1]at hn
  simp at hn
 |row i c cs=>
  rw[hR]at h
  refine⟨i,c,cs,rfl,_,h.1,by rw[Gq];omega,?_⟩
  have e:l=l.take n++l[n]::l.drop (n+1):=by rw[<-A4 hn,List.take_append_drop]
  have hv:=L5 (l.take n) l[n] (l.drop (n+1)) cs
  rw[<-e,List.length_take_of_le (by omega)]at hv
  exact hv
theorem Tp(x:CIns)(n:Nat)(hx:x.a=n)(hn:n<s.env.length)(hR:RunS ir p R s O)(hs:s.stk.length<=1000000)(bt:s.env.length<=1000000):DCall prog 107 [.ptr ir 0,.agg (cIns x)] O fun y U'=>y=.ret (.bool false) /\ ∃R',RunS ir p R' { s with stk:=s.stk++[s.env[n]] } U'/\RunK ir R O R' U':=by
 have q1:=hR.obj
 have q0:RWAt O 2 (R 1) (s.env.map cVal):=hR.rows.ok 1
 obtain⟨i,c,cs,h0,L,z1,z2,z3⟩:=rowV q0 (fun e=>by rw[e]at q0;have:s.env.map cVal=[]:=q0;simp at this;rw[this]at hn;simp at hn) (hR.nf 1) hn
 unfold AR at q1
 rw[h0]at q1
 simp only[Fh]at q1
 refine en func107 ntmps107 ?_
 refine gz ?_
 refine mixI (id:=1) [0,1,2,3,4,5,6,7,8,9,10,11] [10] [5,9] [10] (fun s=>s=O) rfl ?_
 refine iP _ ?_
 refine iP _ ?_
 refine iP _ ?_
 refine iP _ ?_
 refine iP _ ?_
 refine iR (.sref i 0 s.env.length c) (fun s hs=>?_) ?_
 ·rw[hs];simp[q1]
 refine iP _ ?_
 refine iP (dI n) ?_ (hd:=by rw[<-hx];with_unfolding_all rfl)
 refine iP (.ptr i (n*2)) ?_ (hd:=by simp;omega)
 refine iR (.agg (cVal s.env[n])) (fun s hs=>?_) ?_
 ·rw[hs];simp[z1,z2,z3]
 refine iW (fun _=>True) (Bu s.env[n] hR hs) (fun d S1 hr=>⟨trivial,?_⟩) (fun d S1 hr=>by cases hr.1)
 obtain⟨hd,hr⟩:=hr
 cases hd
 refine iP (.bool false) ?_
 refine iN ?_
 refine gz ?_ o107
 exact fin1 (U':=S1) ⟨rfl,hr⟩
end
end Go.DL
