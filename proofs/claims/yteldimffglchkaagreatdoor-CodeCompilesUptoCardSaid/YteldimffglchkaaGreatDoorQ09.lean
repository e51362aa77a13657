/- A part of the proof. -/
import Derived.Test.YteldimffglchkaaGreatDoorQ08
import Derived.Test.YteldimffglchkaaGreatDoorQ07
import Derived.Test.YteldimffglchkaaGreatDoorQ06
import Derived.Test.YteldimffglchkaaGreatDoorQ02
import Derived.Test.YteldimffglchkaaGreatDoorProg
import Derived.KernelRfl
import Derived.Test.YteldimffglchkaaGreatDoorQ04
import Derived.Shelf.Slices.In.SortAlone
import Derived.Shelf.Slices.In.SortNone
set_option linter.all false
namespace Go.DL
open Go.Proofs.Tryz
open Go
def byteC(b:UInt8):D:=.int .u8 (b.toNat:Int)
theorem Ke{g:G}: ∀l:List UInt8,RepL g (l.map byteC) (l.map fun b=>Value.int .u8 (b.toNat:Int))
 |[]=>rfl
 |x::l=>⟨_,_,rfl,rfl,Ke l⟩
abbrev BR:=Option (Nat×Nat×List D)
def BR.d:BR->Nat->D
 |none,_=>.nils
 |some (i,cap,_),n=>.sref i 0 n cap
def BR.is:BR->Nat->Prop
 |none,_=>False
 |some (i,_,_),j=>j=i
def BRAt(e:Nat)(O:Sig):BR->List UInt8->Prop
 |none,bs=>bs=[]
 |some (i,cap,rest),bs=>O i=some (.tcells e (bs.map byteC++rest))/\bs.length+rest.length=cap
section
variable {P:Program}{ro:Ro}{n:Nat}{ops:Array Oper}{Q:DX->St->Prop}{rest:List Oper}{tab:Nat->Ty}{γ:List (Nat×D)}{O:Sig}{df:List DDf}
variable (ht:Bc P tab)
include ht
theorem TH{t T T' ty e:Nat}{s x:Operand}{pos:String}{after:Array Edge}{bs str:List UInt8}{r:BR}
  (ae:t<n) (hk:(tab T).k=.slice e) (ba:(tab T').k=.str) (he:A0 (tab e).k=false) (hsz:(tab e).size=1) (bc:(tab e).bytes=1) (h1:ev γ s=r.d bs.length) (hm:BRAt e O r bs) (h2:ev γ x=.str str)
  (hb:bs.length+str.length<=140737488355328)
  (h:∀r' U',BRAt e U' r' (bs++str)->(∀j o,O j=some o->¬r.is j->U' j=some o /\ ¬r'.is j)->DOps P ro n ops Q rest ⟨(t,r'.d (bs++str).length)::γ,U',df⟩) :
  DOps P ro n ops Q (⟨some t,(cA s x T T'),ty,pos,after,none⟩::rest) ⟨γ,O,df⟩:=by
 refine C9 (fun d U'=> ∃r',BRAt e U' r' (bs++str)/\(∀j o,O j=some o->¬r.is j->U' j=some o /\ ¬r'.is j)/\d=r'.d (bs++str).length) rfl (fun c e=>by cases e) (B7 rfl rfl) (by simp[Aq,ae]) ?_
  (fun d U' ⟨r',a1,a2,a3⟩=>by subst a3;exact h r' U' a1 a2)
 intro g w a hs hT
 have ar:=Am hT s
 have aL:=Am hT x
 rw[h1]at ar
 rw[h2]at aL
 have q1:a.eval x=.string ⟨str.toArray⟩:=aL
 have aj:=Q4 str
 obtain⟨inf,z,t1,_,t3,t4,t5,t6,t7⟩:=Bp ht hk hk he
 have t2:=IB ht ba
 have aO:=IE str
 have v1:=Ke (g:=g) str
 have aM:(str.map fun b=>Value.int .u8 (b.toNat:Int)).length=str.length:=by simp
 have aA:∀u∈(str.map fun b=>Value.int .u8 (b.toNat:Int)),u.oneCell'=true:=fun u hu=>by obtain⟨b,_,rfl⟩:=List.mem_map.1 hu;rfl
 generalize bh:(str.map fun b=>Value.int .u8 (b.toNat:Int))=us at*
 obtain⟨base,cap,olds,r1,r2,r3,r4,r5⟩:∃base cap olds,a.eval s=.slice base bs.length cap/\bs.length<=cap/\RepL g (bs.map byteC) olds/\olds.length=bs.length/\(bs.length=0 \/ ∃b o,base=some ⟨b,o,none⟩ /\ ∀j v,olds[j]? = some v->w.cell? ⟨b,o+j,none⟩=some v):=by
  cases r with
  |none=>
   obtain rfl:bs=[]:=hm
   exact⟨none,0,[],ar,Nat.le_refl _,rfl,rfl,.inl rfl⟩
  |some y=>
   obtain⟨i,cap,rest'⟩:=y
   obtain⟨m1,m2⟩:=hm
   obtain⟨b,ai,hv⟩:=ar
   obtain⟨b2,vs,aB,aa,hr⟩:=hs.obj i _ m1
   obtain rfl:b2=b:=by rw[ai]at aB;cases aB;rfl
   obtain⟨u,v',e1,e2,e3⟩:=hr.split
   refine⟨_,cap,u,hv,by omega,e2,by rw[RepL.length e2];simp,.inr ⟨b2,0,rfl,fun j x hx=>?_⟩⟩
   have hj:j<u.length:=(List.getElem?_eq_some_iff.1 hx).1
   simp only[World.cell?, aa,Nat.zero_add]
   have:vs.toList[j]? = some x:=by rw[e1,List.getElem?_append_left hj];exact hx
   simpa using this
 by_cases ay:str=[]
 ·subst ay
  refine⟨g,w,a.eval s,_,O,An ?_,.refl g,hs,ar,r,by rw[List.append_nil];exact hm,fun j o hj hn=>⟨hj,hn⟩,by rw[List.append_nil]⟩
  rw[r1,q1]
  have:=Fi (ty:=ty) t1 t2 t3 (w:=w) (w2:=w) (base:=base) (n:=bs.length) (cap:=cap) (s:=⟨[].toArray⟩) (by rw[aj];simpa using r2) (fun b _=>by rw[IE];simp[storeCells,Sem.run]) (fun _=>rfl)
  rw[aj]at this
  simpa using this
 have aX:0<str.length:=List.length_pos_iff.2 ay
 by_cases aw:bs.length+str.length<=cap
 ·cases r with
  |none=>
   have e1:a.eval s=.slice none 0 0:=ar
   rw[e1]at r1;injection r1 with f1 f2 f3
   omega
  | some y =>
   obtain⟨i,cap',rest'⟩:=y
   obtain⟨m1,m2⟩:=hm
   obtain⟨b,ai,hv⟩:=ar
   rw[hv]at r1;injection r1 with f1 f2 f3
   subst f3
   subst f1
   obtain⟨b2,vs,aB,aa,hr⟩:=hs.obj i _ m1
   obtain rfl:b2=b:=by rw[ai]at aB;cases aB;rfl
   have aY:=RepL.length hr
   simp only[Array.length_toList,List.length_append,List.length_map]at aY
   have aV:=BI (P:=P) us 0 w vs aa aA (o:=bs.length) (by omega)
   have hne:us≠[]:=fun e=>by rw[e]at aM;simp at aM;omega
   have ag:=Fi (ty:=ty) t1 t2 t3 (w:=w) (base:=some ⟨b2,0,none⟩) (n:=bs.length) (cap:=cap') (s:=⟨str.toArray⟩) (w2:=if us=[] then w else setB w b2 (.cells (Bl vs bs.length us) e (0,0)))
    (by rw[aj];exact aw) (fun a ha=>by cases ha;rw[BG,t5,hsz,aO];simpa using aV) (fun h=>by cases h)
   rw[aj,if_neg hne]at ag
   have ax:RepL g ((bs++str).map byteC++rest'.drop str.length) (Bl vs bs.length us).toList:=by
    refine AG (by simp only[List.length_append,List.length_drop,List.length_map,Array.length_toList,CA];omega) fun j d v h1 h2=>?_
    have aq:(Bl vs bs.length us)[j]? = some v:=by simpa using h2
    rw[CV _ _ _ _ (by omega)]at aq
    rw[List.map_append,List.append_assoc]at h1
    simp only[List.getElem?_append,List.length_map]at h1
    have hg:=RepL.get hr j
    by_cases c1:j<bs.length
    ·rw[if_neg (by omega)]at aq
     rw[if_pos c1]at h1
     rw[List.getElem?_append_left (by simpa using c1),h1]at hg
     simp only[Array.getElem?_toList,aq,Option.getD_some]at hg
     exact hg
    ·rw[if_neg c1]at h1
     by_cases c2:j-bs.length<str.length
     ·rw[if_pos (by omega)]at aq
      rw[if_pos c2]at h1
      have:=RepL.get v1 (j-bs.length)
      rw[h1,aq]at this
      exact this
     ·rw[if_neg (by omega)]at aq
      rw[if_neg c2,List.getElem?_drop]at h1
      rw[List.getElem?_append_right (by simp;omega),List.length_map,show j-bs.length=str.length+(j-bs.length-str.length) by omega,h1]at hg
      simp only[Array.getElem?_toList,aq,Option.getD_some]at hg
      exact hg
   refine⟨g,_,.slice (some ⟨b2,0,none⟩) (bs.length+str.length) cap',.sref i 0 (bs.length+str.length) cap',O.set i (.tcells e ((bs++str).map byteC++rest'.drop str.length)),An (by rw[hv,q1];exact ag),.refl g,?_,FV ai,some (i,cap',rest'.drop str.length),⟨w6 ..,?_⟩,fun j o hj hn=>⟨by rw[w7 _ _ hn];exact hj,hn⟩,by rw[List.length_append];rfl⟩
   ·exact hs.setAny m1 rfl rfl ai aa ⟨b2,_,ai,EN aa,ax⟩
   ·simp only[List.length_append,List.length_drop];omega
 ·obtain⟨c,hc,ag⟩:=If (ty:=ty) t1 t2 t3 t4 (w:=w) (base:=base) (n:=bs.length) (cap:=cap) (s:=⟨str.toArray⟩) (olds:=olds)
   (Al (by rw[t5,hsz,Nat.mul_one];exact r4) r5) (by rw[aj];omega) (by rw[aj];omega) (by rw[t6,bc,aj,Nat.mul_one];exact hb)
  rw[aO,aj]at ag
  rw[aj]at hc
  obtain⟨i',aD,aP⟩:=hs.fresh
  let zs:=(Builtin.zeroCells z.cells (c-(bs.length+str.length))).toList
  have aG:RepL (g.bind i' w.heap.size) ((bs++str).map byteC++zs.map Bj) (olds++us++zs):=by
   rw[List.map_append]
   exact((RepL.mono (G.bind_le aD) _ r3).append (RepL.mono (G.bind_le aD) _ v1)).append (Cf _ _)
  have aH:ObjRep P (g.bind i' w.drew.heap.size) { w.drew with heap:=w.drew.heap.push (.cells (olds++us++zs).toArray e (0,0)) } i' (.tcells e ((bs++str).map byteC++zs.map Bj)):=
   ⟨w.drew.heap.size,(olds++us++zs).toArray,by simp[G.bind],by exact Array.getElem?_push_size,by simpa using aG⟩
  have aF:=hs.drew.newObj aD aP rfl aH
  refine⟨_,_,_,.sref i' 0 (bs.length+str.length) c,_,An (by rw[r1,q1];exact ag),G.bind_le aD,aF,FV (by simp[G.bind]),some (i',c,zs.map Bj),⟨w6 ..,?_⟩,fun j o hj _=>?_,by rw[List.length_append];rfl⟩
  ·have hz:zs.length=c-(bs.length+str.length):=by simp[zs,size_zeroCells,t7,hsz]
   simp only[List.length_append,List.length_map,hz];omega
  ·have hne:j≠i':=fun e=>by rw[e,aP]at hj;cases hj
   exact⟨by rw[w7 _ _ hne];exact hj,hne⟩
theorem NS{t T:Nat}{ty:TypeId}{pos:String}{after:Array Edge}(hk:A0 (tab T).k=false)(ae:t<n)
  (h:∀i,O i=none->DOps P ro n ops Q rest ⟨(t,.ptr i 0)::γ,O.set i (.tcells T (tab T).zero),df⟩) :
  DOps P ro n ops Q (⟨some t,.alloc T,ty,pos,after,none⟩::rest) ⟨γ,O,df⟩:=by
 refine Hq (mk:=fun i=>.ptr i 0) (d:=.tcells T (tab T).zero) rfl (fun c e=>by cases e) (Ae fun c e=>by cases e) (by simp[Aq,ae]) rfl ?_ h
 intro g w a hs hT
 obtain⟨z,hz,aQ,bf⟩:=CN (ht T) (Ag hk) w
 refine⟨.cells z.cells T,.pointer (some ⟨w.heap.size,0,none⟩),?_,fun i hi=>⟨⟨w.heap.size,z.cells,by simp[G.bind],by simp,?_⟩,w.heap.size,by simp[G.bind],rfl⟩⟩
 ·simp only[execOp,Instr.alloc,Sem.run_bind,hz,Result.andThen_ok,newVar,CG]
  rfl
 ·rw[aQ];exact Cf _ _
end
end Go.DL
namespace Go.DL
open Go.Proofs.Tryz
open Go Go.Proofs
@[simp] abbrev sT(n:Nat):Ty:=⟨.slice n,false,1,24,[.nils]⟩
@[simp] abbrev pT(n:Nat):Ty:=⟨.ptr n,false,1,8,[.nilp]⟩
@[simp] abbrev iT:Ty:=⟨.int .i64,false,1,8,[.int .i64 0]⟩
@[simp] abbrev fT:Ty:=⟨.func,false,1,8,[.nilf]⟩
def tyRows:List (Nat×Ty):=[
 (1,fT),
 (2,iT),
 (3,iT),
 (4,⟨.bool,false,1,1,[.bool false]⟩),
 (5,⟨.int .u8,false,1,1,[.int .u8 0]⟩),
 (6,⟨.int .u8,false,1,1,[.int .u8 0]⟩),
 (7,⟨.struct [(0,2),(1,3),(2,4),(3,6)],true,4,24,[.int .i64 0,.int .i64 0,.bool false,.int .u8 0]⟩),
 (8,⟨.struct [(0,2),(1,3),(2,4),(3,6)],true,4,24,[.int .i64 0,.int .i64 0,.bool false,.int .u8 0]⟩),
 (9,⟨.str,false,1,16,[.str []]⟩),
 (10,⟨.str,false,1,16,[.str []]⟩),
 (11,⟨.str,false,1,16,[.str []]⟩),
 (12,⟨.int .u64,false,1,8,[.int .u64 0]⟩),
 (13,⟨.struct [(0,9),(1,12)],true,2,24,[.str [],.int .u64 0]⟩),
 (14,⟨.struct [(0,9),(1,12)],true,2,24,[.str [],.int .u64 0]⟩),
 (15,pT 464),
 (16,pT 467),
 (17,pT 474),
 (18,⟨.struct [(0,17)],true,1,8,[.nilp]⟩),
 (19,⟨.struct [(0,17)],true,1,8,[.nilp]⟩),
 (20,⟨.iface,false,1,16,[.niliface]⟩),
 (21,⟨.int .i32,false,1,4,[.int .i32 0]⟩),
 (22,sT 208),
 (23,sT 3),
 (24,sT 64),
 (25,sT 211),
 (26,⟨.struct [(0,22),(1,3),(2,23),(3,24),(4,25),(5,3)],true,6,112,[.nils,.int .i64 0,.nils,.nils,.nils,.int .i64 0]⟩),
 (27,⟨.struct [(0,22),(1,3),(2,23),(3,24),(4,25),(5,3)],true,6,112,[.nils,.int .i64 0,.nils,.nils,.nils,.int .i64 0]⟩),
 (28,sT 87),
 (30,⟨.struct [(0,28),(1,23),(2,3)],true,3,56,[.nils,.nils,.int .i64 0]⟩),
 (31,sT 131),
 (32,sT 40),
 (33,⟨.struct [(0,3),(1,32),(2,32)],true,3,56,[.int .i64 0,.nils,.nils]⟩),
 (34,⟨.struct [(0,3),(1,32),(2,32)],true,3,56,[.int .i64 0,.nils,.nils]⟩),
 (35,⟨.struct [(0,31),(1,34)],true,4,80,[.nils,.int .i64 0,.nils,.nils]⟩),
 (36,⟨.struct [(0,31),(1,34)],true,4,80,[.nils,.int .i64 0,.nils,.nils]⟩),
 (37,iT),
 (38,iT),
 (39,⟨.struct [(0,38),(1,3)],true,2,16,[.int .i64 0,.int .i64 0]⟩),
 (40,⟨.struct [(0,38),(1,3)],true,2,16,[.int .i64 0,.int .i64 0]⟩),
 (41,iT),
 (42,sT 203),
 (44,⟨.struct [(0,37),(1,40),(3,3),(4,32),(5,41),(6,34),(9,31),(10,42)],true,11,168,[.int .i64 0,.int .i64 0,.int .i64 0,.int .i64 0,.nils,.int .i64 0,.int .i64 0,.nils,.nils,.nils,.nils]⟩),
 (45,iT),
 (47,fT),
 (48,fT),
 (49,fT),
 (50,fT),
 (51,⟨.array 3 3,true,3,24,[.int .i64 0,.int .i64 0,.int .i64 0]⟩),
 (52,⟨.int .u16,false,1,2,[.int .u16 0]⟩),
 (53,⟨.struct [(0,5),(1,51),(4,52)],true,5,40,[.int .u8 0,.int .i64 0,.int .i64 0,.int .i64 0,.int .u16 0]⟩),
 (55,fT),
 (58,iT),
 (59,iT),
 (60,sT 62),
 (62,⟨.struct [(0,59),(1,3),(2,23),(3,3),(4,3),(5,60)],true,6,80,[.int .i64 0,.int .i64 0,.nils,.int .i64 0,.int .i64 0,.nils]⟩),
 (63,⟨.struct [(0,58),(1,3),(2,62),(8,3)],true,9,104,[.int .i64 0,.int .i64 0,.int .i64 0,.int .i64 0,.nils,.int .i64 0,.int .i64 0,.nils,.int .i64 0]⟩),
 (64,⟨.struct [(0,58),(1,3),(2,62),(8,3)],true,9,104,[.int .i64 0,.int .i64 0,.int .i64 0,.int .i64 0,.nils,.int .i64 0,.int .i64 0,.nils,.int .i64 0]⟩),
 (65,fT),
 (66,fT),
 (71,fT),
 (75,sT 79),
 (77,fT),
 (78,⟨.struct [(0,3),(1,3)],true,2,16,[.int .i64 0,.int .i64 0]⟩),
 (79,⟨.struct [(0,3),(1,3)],true,2,16,[.int .i64 0,.int .i64 0]⟩),
 (81,fT),
 (82,fT),
 (83,fT),
 (85,iT),
 (86,⟨.struct [(0,85),(1,3)],true,2,16,[.int .i64 0,.int .i64 0]⟩),
 (87,⟨.struct [(0,85),(1,3)],true,2,16,[.int .i64 0,.int .i64 0]⟩),
 (91,fT),
 (96,sT 5),
 (98,pT 103),
 (101,⟨.map 3 79,false,1,8,[.nilmap]⟩),
 (103,⟨.struct [(0,30),(3,27),(9,101)],true,10,176,[.nils,.nils,.int .i64 0,.nils,.int .i64 0,.nils,.nils,.nils,.int .i64 0,.nilmap]⟩),
 (104,pT 106),
 (106,⟨.struct [(0,44),(11,27),(17,34)],true,20,336,[.int .i64 0,.int .i64 0,.int .i64 0,.int .i64 0,.nils,.int .i64 0,.int .i64 0,.nils,.nils,.nils,.nils,.nils,.int .i64 0,.nils,.nils,.nils,.int .i64 0,.int .i64 0,.nils,.nils]⟩),
 (107,fT),
 (108,fT),
 (109,⟨.array 22 108,true,22,176,[.nilf,.nilf,.nilf,.nilf,.nilf,.nilf,.nilf,.nilf,.nilf,.nilf,.nilf,.nilf,.nilf,.nilf,.nilf,.nilf,.nilf,.nilf,.nilf,.nilf,.nilf,.nilf]⟩),
 (110,fT),
 (112,fT),
 (113,fT),
 (120,sT 23),
 (122,⟨.struct [(0,120),(1,23)],true,2,48,[.nils,.nils]⟩),
 (123,fT),
 (125,pT 127),
 (126,⟨.struct [(0,30)],true,3,56,[.nils,.nils,.int .i64 0]⟩),
 (127,⟨.struct [(0,30)],true,3,56,[.nils,.nils,.int .i64 0]⟩),
 (128,fT),
 (130,⟨.struct [(0,3),(1,32)],true,2,32,[.int .i64 0,.nils]⟩),
 (131,⟨.struct [(0,3),(1,32)],true,2,32,[.int .i64 0,.nils]⟩),
 (145,fT),
 (147,sT 5),
 (153,fT),
 (156,fT),
 (157,pT 159),
 (159,⟨.struct [(0,157),(1,96)],true,2,32,[.nilp,.nils]⟩),
 (161,⟨.iface,false,1,16,[.niliface]⟩),
 (165,sT 9),
 (180,⟨.struct [(0,3),(1,3),(2,4)],true,3,24,[.int .i64 0,.int .i64 0,.bool false]⟩),
 (181,sT 180),
 (182,fT),
 (188,fT),
 (189,fT),
 (192,sT 4),
 (196,fT),
 (199,⟨.struct [(0,27),(6,30),(9,44),(20,34)],true,23,392,[.nils,.int .i64 0,.nils,.nils,.nils,.int .i64 0,.nils,.nils,.int .i64 0,.int .i64 0,.int .i64 0,.int .i64 0,.int .i64 0,.nils,.int .i64 0,.int .i64 0,.nils,.nils,.nils,.nils,.int .i64 0,.nils,.nils]⟩),
 (201,iT),
 (203,⟨.struct [(0,201),(1,3),(2,32)],true,3,40,[.int .i64 0,.int .i64 0,.nils]⟩),
 (205,⟨.struct [(0,3),(1,3)],true,2,16,[.int .i64 0,.int .i64 0]⟩),
 (206,sT 205),
 (208,⟨.struct [(0,23),(1,23),(2,206)],true,3,72,[.nils,.nils,.nils]⟩),
 (209,iT),
 (211,⟨.struct [(0,209),(1,3),(2,23)],true,3,40,[.int .i64 0,.int .i64 0,.nils]⟩),
 (237,fT),
 (240,pT 147),
 (245,⟨.struct [],true,0,0,[]⟩),
 (246,pT 5),
 (248,fT),
 (256,pT 40),
 (267,fT),
 (268,fT),
 (271,⟨.struct [(0,3),(1,3)],true,2,16,[.int .i64 0,.int .i64 0]⟩),
 (274,⟨.iface,false,1,16,[.niliface]⟩),
 (276,iT),
 (277,⟨.struct [],true,0,0,[]⟩),
 (279,fT),
 (283,⟨.map 209 85,false,1,8,[.nilmap]⟩),
 (296,fT),
 (300,fT),
 (307,⟨.map 3 4,false,1,8,[.nilmap]⟩),
 (310,pT 357),
 (313,pT 131),
 (316,⟨.struct [],true,0,0,[]⟩),
 (320,⟨.int .u64,false,1,8,[.int .u64 0]⟩),
 (323,fT),
 (324,pT 421),
 (338,⟨.int .u64,false,1,8,[.int .u64 0]⟩),
 (354,⟨.map 3 23,false,1,8,[.nilmap]⟩),
 (355,⟨.map 3 131,false,1,8,[.nilmap]⟩),
 (357,⟨.struct [(0,27),(6,354),(7,355)],true,8,128,[.nils,.int .i64 0,.nils,.nils,.nils,.int .i64 0,.nilmap,.nilmap]⟩),
 (361,fT),
 (363,fT),
 (366,fT),
 (367,pT 372),
 (370,sT 415),
 (372,⟨.struct [(0,120),(1,370),(2,354)],true,3,56,[.nils,.nils,.nilmap]⟩),
 (373,⟨.int .u32,false,1,4,[.int .u32 0]⟩),
 (403,fT),
 (407,⟨.map 3 3,false,1,8,[.nilmap]⟩),
 (408,fT),
 (409,fT),
 (413,fT),
 (415,⟨.array 1 338,true,1,8,[.int .u64 0]⟩),
 (418,⟨.int .u64,false,1,8,[.int .u64 0]⟩),
 (419,⟨.array 63 418,true,63,504,(List.replicate 63 (.int .u64 0))⟩),
 (421,⟨.struct [(0,122),(2,419)],true,65,552,[.nils,.nils,.int .u64 0,.int .u64 0,.int .u64 0,.int .u64 0,.int .u64 0,.int .u64 0,.int .u64 0,.int .u64 0,.int .u64 0,.int .u64 0,.int .u64 0,.int .u64 0,.int .u64 0,.int .u64 0,.int .u64 0,.int .u64 0,.int .u64 0,.int .u64 0,.int .u64 0,.int .u64 0,.int .u64 0,.int .u64 0,.int .u64 0,.int .u64 0,.int .u64 0,.int .u64 0,.int .u64 0,.int .u64 0,.int .u64 0,.int .u64 0,.int .u64 0,.int .u64 0,.int .u64 0,.int .u64 0,.int .u64 0,.int .u64 0,.int .u64 0,.int .u64 0,.int .u64 0,.int .u64 0,.int .u64 0,.int .u64 0,.int .u64 0,.int .u64 0,.int .u64 0,.int .u64 0,.int .u64 0,.int .u64 0,.int .u64 0,.int .u64 0,.int .u64 0,.int .u64 0,.int .u64 0,.int .u64 0,.int .u64 0,.int .u64 0,.int .u64 0,.int .u64 0,.int .u64 0,.int .u64 0,.int .u64 0,.int .u64 0,.int .u64 0]⟩),
 (425,pT 3),
 (464,⟨.struct [(0,17),(1,17),(2,17),(3,9)],true,4,40,[.nilp,.nilp,.nilp,.str []]⟩),
 (465,⟨.array 0 16,true,0,0,[]⟩),
 (467,⟨.struct [(0,465)],true,0,0,[]⟩),
 (468,⟨.int .u8,false,1,1,[.int .u8 0]⟩),
 (469,⟨.int .u8,false,1,1,[.int .u8 0]⟩),
 (470,fT),
 (471,⟨.int .i32,false,1,4,[.int .i32 0]⟩),
 (472,⟨.int .i32,false,1,4,[.int .i32 0]⟩),
 (474,⟨.struct [(0,12),(1,12),(2,373),(3,468),(4,5),(5,5),(6,469),(7,470),(8,246),(9,471),(10,472)],true,11,48,[.int .u64 0,.int .u64 0,.int .u32 0,.int .u8 0,.int .u8 0,.int .u8 0,.int .u8 0,.nilf,.nilp,.int .i32 0,.int .i32 0]⟩)
]
def tab(t:Nat):Ty:=(tyRows.lookup t).getD ⟨.other,false,0,0,[]⟩
theorem Ue:tyRows.all (fun p=>Nq prog p.1 p.2)=true:=by kernel_rfl
theorem Kq{α:Type}: ∀{l:List (Nat×α)}{t:Nat}{x:α},l.lookup t=some x->(t,x)∈l
 |(k,y)::l,t,x,h=>by
  simp only[List.lookup]at h
  split at h
  ·rename_i e;cases h;have:=beq_iff_eq.1 e;subst this;simp
  ·exact List.mem_cons_of_mem _ (Kq h)
theorem Af:Bc prog tab:=by
 intro t
 unfold tab
 cases h:tyRows.lookup t with
 |none=>exact trivial
 |some i=>exact LX (List.all_eq_true.1 Ue _ (Kq h))
theorem Ai:prog.funcs.size=431:=by kernel_rfl
@[simp] theorem tab1:tab 1=fT:=rfl
@[simp] theorem tab2:tab 2=iT:=rfl
@[simp] theorem tab3:tab 3=iT:=rfl
@[simp] theorem tab4:tab 4=⟨.bool,false,1,1,[.bool false]⟩:=rfl
@[simp] theorem tab5:tab 5=⟨.int .u8,false,1,1,[.int .u8 0]⟩:=rfl
@[simp] theorem tab6:tab 6=⟨.int .u8,false,1,1,[.int .u8 0]⟩:=rfl
@[simp] theorem tab7:tab 7=⟨.struct [(0,2),(1,3),(2,4),(3,6)],true,4,24,[.int .i64 0,.int .i64 0,.bool false,.int .u8 0]⟩:=rfl
@[simp] theorem tab8:tab 8=⟨.struct [(0,2),(1,3),(2,4),(3,6)],true,4,24,[.int .i64 0,.int .i64 0,.bool false,.int .u8 0]⟩:=rfl
@[simp] theorem tab9:tab 9=⟨.str,false,1,16,[.str []]⟩:=rfl
@[simp] theorem tab10:tab 10=⟨.str,false,1,16,[.str []]⟩:=rfl
@[simp] theorem tab11:tab 11=⟨.str,false,1,16,[.str []]⟩:=rfl
@[simp] theorem tab12:tab 12=⟨.int .u64,false,1,8,[.int .u64 0]⟩:=rfl
@[simp] theorem tab13:tab 13=⟨.struct [(0,9),(1,12)],true,2,24,[.str [],.int .u64 0]⟩:=rfl
@[simp] theorem tab14:tab 14=⟨.struct [(0,9),(1,12)],true,2,24,[.str [],.int .u64 0]⟩:=rfl
@[simp] theorem tab15:tab 15=pT 464:=rfl
@[simp] theorem tab16:tab 16=pT 467:=rfl
@[simp] theorem tab17:tab 17=pT 474:=rfl
@[simp] theorem tab18:tab 18=⟨.struct [(0,17)],true,1,8,[.nilp]⟩:=rfl
@[simp] theorem tab19:tab 19=⟨.struct [(0,17)],true,1,8,[.nilp]⟩:=rfl
@[simp] theorem tab20:tab 20=⟨.iface,false,1,16,[.niliface]⟩:=rfl
@[simp] theorem tab21:tab 21=⟨.int .i32,false,1,4,[.int .i32 0]⟩:=rfl
@[simp] theorem tab22:tab 22=sT 208:=rfl
@[simp] theorem tab23:tab 23=sT 3:=rfl
@[simp] theorem tab24:tab 24=sT 64:=rfl
@[simp] theorem tab25:tab 25=sT 211:=rfl
@[simp] theorem tab26:tab 26=⟨.struct [(0,22),(1,3),(2,23),(3,24),(4,25),(5,3)],true,6,112,[.nils,.int .i64 0,.nils,.nils,.nils,.int .i64 0]⟩:=rfl
@[simp] theorem tab27:tab 27=⟨.struct [(0,22),(1,3),(2,23),(3,24),(4,25),(5,3)],true,6,112,[.nils,.int .i64 0,.nils,.nils,.nils,.int .i64 0]⟩:=rfl
@[simp] theorem tab28:tab 28=sT 87:=rfl
@[simp] theorem tab30:tab 30=⟨.struct [(0,28),(1,23),(2,3)],true,3,56,[.nils,.nils,.int .i64 0]⟩:=rfl
@[simp] theorem tab31:tab 31=sT 131:=rfl
@[simp] theorem tab32:tab 32=sT 40:=rfl
@[simp] theorem tab33:tab 33=⟨.struct [(0,3),(1,32),(2,32)],true,3,56,[.int .i64 0,.nils,.nils]⟩:=rfl
@[simp] theorem tab34:tab 34=⟨.struct [(0,3),(1,32),(2,32)],true,3,56,[.int .i64 0,.nils,.nils]⟩:=rfl
@[simp] theorem tab35:tab 35=⟨.struct [(0,31),(1,34)],true,4,80,[.nils,.int .i64 0,.nils,.nils]⟩:=rfl
@[simp] theorem tab36:tab 36=⟨.struct [(0,31),(1,34)],true,4,80,[.nils,.int .i64 0,.nils,.nils]⟩:=rfl
@[simp] theorem tab37:tab 37=iT:=rfl
@[simp] theorem tab38:tab 38=iT:=rfl
@[simp] theorem tab39:tab 39=⟨.struct [(0,38),(1,3)],true,2,16,[.int .i64 0,.int .i64 0]⟩:=rfl
@[simp] theorem tab40:tab 40=⟨.struct [(0,38),(1,3)],true,2,16,[.int .i64 0,.int .i64 0]⟩:=rfl
@[simp] theorem tab41:tab 41=iT:=rfl
@[simp] theorem tab42:tab 42=sT 203:=rfl
@[simp] theorem tab44:tab 44=⟨.struct [(0,37),(1,40),(3,3),(4,32),(5,41),(6,34),(9,31),(10,42)],true,11,168,[.int .i64 0,.int .i64 0,.int .i64 0,.int .i64 0,.nils,.int .i64 0,.int .i64 0,.nils,.nils,.nils,.nils]⟩:=rfl
@[simp] theorem tab45:tab 45=iT:=rfl
@[simp] theorem tab47:tab 47=fT:=rfl
@[simp] theorem tab48:tab 48=fT:=rfl
@[simp] theorem tab49:tab 49=fT:=rfl
@[simp] theorem tab50:tab 50=fT:=rfl
@[simp] theorem tab51:tab 51=⟨.array 3 3,true,3,24,[.int .i64 0,.int .i64 0,.int .i64 0]⟩:=rfl
@[simp] theorem tab52:tab 52=⟨.int .u16,false,1,2,[.int .u16 0]⟩:=rfl
@[simp] theorem tab53:tab 53=⟨.struct [(0,5),(1,51),(4,52)],true,5,40,[.int .u8 0,.int .i64 0,.int .i64 0,.int .i64 0,.int .u16 0]⟩:=rfl
@[simp] theorem tab55:tab 55=fT:=rfl
@[simp] theorem tab58:tab 58=iT:=rfl
@[simp] theorem tab59:tab 59=iT:=rfl
@[simp] theorem tab60:tab 60=sT 62:=rfl
@[simp] theorem tab62:tab 62=⟨.struct [(0,59),(1,3),(2,23),(3,3),(4,3),(5,60)],true,6,80,[.int .i64 0,.int .i64 0,.nils,.int .i64 0,.int .i64 0,.nils]⟩:=rfl
@[simp] theorem tab63:tab 63=⟨.struct [(0,58),(1,3),(2,62),(8,3)],true,9,104,[.int .i64 0,.int .i64 0,.int .i64 0,.int .i64 0,.nils,.int .i64 0,.int .i64 0,.nils,.int .i64 0]⟩:=rfl
@[simp] theorem tab64:tab 64=⟨.struct [(0,58),(1,3),(2,62),(8,3)],true,9,104,[.int .i64 0,.int .i64 0,.int .i64 0,.int .i64 0,.nils,.int .i64 0,.int .i64 0,.nils,.int .i64 0]⟩:=rfl
@[simp] theorem tab65:tab 65=fT:=rfl
@[simp] theorem tab66:tab 66=fT:=rfl
@[simp] theorem tab71:tab 71=fT:=rfl
@[simp] theorem tab75:tab 75=sT 79:=rfl
@[simp] theorem tab77:tab 77=fT:=rfl
@[simp] theorem tab78:tab 78=⟨.struct [(0,3),(1,3)],true,2,16,[.int .i64 0,.int .i64 0]⟩:=rfl
@[simp] theorem tab79:tab 79=⟨.struct [(0,3),(1,3)],true,2,16,[.int .i64 0,.int .i64 0]⟩:=rfl
@[simp] theorem tab81:tab 81=fT:=rfl
@[simp] theorem tab82:tab 82=fT:=rfl
@[simp] theorem tab83:tab 83=fT:=rfl
@[simp] theorem tab85:tab 85=iT:=rfl
@[simp] theorem tab86:tab 86=⟨.struct [(0,85),(1,3)],true,2,16,[.int .i64 0,.int .i64 0]⟩:=rfl
@[simp] theorem tab87:tab 87=⟨.struct [(0,85),(1,3)],true,2,16,[.int .i64 0,.int .i64 0]⟩:=rfl
@[simp] theorem tab91:tab 91=fT:=rfl
@[simp] theorem tab96:tab 96=sT 5:=rfl
@[simp] theorem tab98:tab 98=pT 103:=rfl
@[simp] theorem tab101:tab 101=⟨.map 3 79,false,1,8,[.nilmap]⟩:=rfl
@[simp] theorem tab103:tab 103=⟨.struct [(0,30),(3,27),(9,101)],true,10,176,[.nils,.nils,.int .i64 0,.nils,.int .i64 0,.nils,.nils,.nils,.int .i64 0,.nilmap]⟩:=rfl
@[simp] theorem tab104:tab 104=pT 106:=rfl
@[simp] theorem tab106:tab 106=⟨.struct [(0,44),(11,27),(17,34)],true,20,336,[.int .i64 0,.int .i64 0,.int .i64 0,.int .i64 0,.nils,.int .i64 0,.int .i64 0,.nils,.nils,.nils,.nils,.nils,.int .i64 0,.nils,.nils,.nils,.int .i64 0,.int .i64 0,.nils,.nils]⟩:=rfl
@[simp] theorem tab107:tab 107=fT:=rfl
@[simp] theorem tab108:tab 108=fT:=rfl
@[simp] theorem tab109:tab 109=⟨.array 22 108,true,22,176,[.nilf,.nilf,.nilf,.nilf,.nilf,.nilf,.nilf,.nilf,.nilf,.nilf,.nilf,.nilf,.nilf,.nilf,.nilf,.nilf,.nilf,.nilf,.nilf,.nilf,.nilf,.nilf]⟩:=rfl
@[simp] theorem tab110:tab 110=fT:=rfl
@[simp] theorem tab112:tab 112=fT:=rfl
@[simp] theorem tab113:tab 113=fT:=rfl
@[simp] theorem tab120:tab 120=sT 23:=rfl
@[simp] theorem tab122:tab 122=⟨.struct [(0,120),(1,23)],true,2,48,[.nils,.nils]⟩:=rfl
@[simp] theorem tab123:tab 123=fT:=rfl
@[simp] theorem tab125:tab 125=pT 127:=rfl
@[simp] theorem tab126:tab 126=⟨.struct [(0,30)],true,3,56,[.nils,.nils,.int .i64 0]⟩:=rfl
@[simp] theorem tab127:tab 127=⟨.struct [(0,30)],true,3,56,[.nils,.nils,.int .i64 0]⟩:=rfl
@[simp] theorem tab128:tab 128=fT:=rfl
@[simp] theorem tab130:tab 130=⟨.struct [(0,3),(1,32)],true,2,32,[.int .i64 0,.nils]⟩:=rfl
@[simp] theorem tab131:tab 131=⟨.struct [(0,3),(1,32)],true,2,32,[.int .i64 0,.nils]⟩:=rfl
@[simp] theorem tab145:tab 145=fT:=rfl
@[simp] theorem tab147:tab 147=sT 5:=rfl
@[simp] theorem tab153:tab 153=fT:=rfl
@[simp] theorem tab156:tab 156=fT:=rfl
@[simp] theorem tab157:tab 157=pT 159:=rfl
@[simp] theorem tab159:tab 159=⟨.struct [(0,157),(1,96)],true,2,32,[.nilp,.nils]⟩:=rfl
@[simp] theorem tab161:tab 161=⟨.iface,false,1,16,[.niliface]⟩:=rfl
@[simp] theorem tab165:tab 165=sT 9:=rfl
@[simp] theorem tab180:tab 180=⟨.struct [(0,3),(1,3),(2,4)],true,3,24,[.int .i64 0,.int .i64 0,.bool false]⟩:=rfl
@[simp] theorem tab181:tab 181=sT 180:=rfl
@[simp] theorem tab182:tab 182=fT:=rfl
@[simp] theorem tab188:tab 188=fT:=rfl
@[simp] theorem tab189:tab 189=fT:=rfl
@[simp] theorem tab192:tab 192=sT 4:=rfl
@[simp] theorem tab196:tab 196=fT:=rfl
@[simp] theorem tab199:tab 199=⟨.struct [(0,27),(6,30),(9,44),(20,34)],true,23,392,[.nils,.int .i64 0,.nils,.nils,.nils,.int .i64 0,.nils,.nils,.int .i64 0,.int .i64 0,.int .i64 0,.int .i64 0,.int .i64 0,.nils,.int .i64 0,.int .i64 0,.nils,.nils,.nils,.nils,.int .i64 0,.nils,.nils]⟩:=rfl
@[simp] theorem tab201:tab 201=iT:=rfl
@[simp] theorem tab203:tab 203=⟨.struct [(0,201),(1,3),(2,32)],true,3,40,[.int .i64 0,.int .i64 0,.nils]⟩:=rfl
@[simp] theorem tab205:tab 205=⟨.struct [(0,3),(1,3)],true,2,16,[.int .i64 0,.int .i64 0]⟩:=rfl
@[simp] theorem tab206:tab 206=sT 205:=rfl
@[simp] theorem tab208:tab 208=⟨.struct [(0,23),(1,23),(2,206)],true,3,72,[.nils,.nils,.nils]⟩:=rfl
@[simp] theorem tab209:tab 209=iT:=rfl
@[simp] theorem tab211:tab 211=⟨.struct [(0,209),(1,3),(2,23)],true,3,40,[.int .i64 0,.int .i64 0,.nils]⟩:=rfl
@[simp] theorem tab237:tab 237=fT:=rfl
@[simp] theorem tab240:tab 240=pT 147:=rfl
@[simp] theorem tab245:tab 245=⟨.struct [],true,0,0,[]⟩:=rfl
@[simp] theorem tab246:tab 246=pT 5:=rfl
@[simp] theorem tab248:tab 248=fT:=rfl
@[simp] theorem tab256:tab 256=pT 40:=rfl
@[simp] theorem tab267:tab 267=fT:=rfl
@[simp] theorem tab268:tab 268=fT:=rfl
@[simp] theorem tab271:tab 271=⟨.struct [(0,3),(1,3)],true,2,16,[.int .i64 0,.int .i64 0]⟩:=rfl
@[simp] theorem tab274:tab 274=⟨.iface,false,1,16,[.niliface]⟩:=rfl
@[simp] theorem tab276:tab 276=iT:=rfl
@[simp] theorem tab277:tab 277=⟨.struct [],true,0,0,[]⟩:=rfl
@[simp] theorem tab279:tab 279=fT:=rfl
@[simp] theorem tab283:tab 283=⟨.map 209 85,false,1,8,[.nilmap]⟩:=rfl
@[simp] theorem tab296:tab 296=fT:=rfl
@[simp] theorem tab300:tab 300=fT:=rfl
@[simp] theorem tab307:tab 307=⟨.map 3 4,false,1,8,[.nilmap]⟩:=rfl
@[simp] theorem tab310:tab 310=pT 357:=rfl
@[simp] theorem tab313:tab 313=pT 131:=rfl
@[simp] theorem tab316:tab 316=⟨.struct [],true,0,0,[]⟩:=rfl
@[simp] theorem tab320:tab 320=⟨.int .u64,false,1,8,[.int .u64 0]⟩:=rfl
@[simp] theorem tab323:tab 323=fT:=rfl
@[simp] theorem tab324:tab 324=pT 421:=rfl
@[simp] theorem tab338:tab 338=⟨.int .u64,false,1,8,[.int .u64 0]⟩:=rfl
@[simp] theorem tab354:tab 354=⟨.map 3 23,false,1,8,[.nilmap]⟩:=rfl
@[simp] theorem tab355:tab 355=⟨.map 3 131,false,1,8,[.nilmap]⟩:=rfl
@[simp] theorem tab357:tab 357=⟨.struct [(0,27),(6,354),(7,355)],true,8,128,[.nils,.int .i64 0,.nils,.nils,.nils,.int .i64 0,.nilmap,.nilmap]⟩:=rfl
@[simp] theorem tab361:tab 361=fT:=rfl
@[simp] theorem tab363:tab 363=fT:=rfl
@[simp] theorem tab366:tab 366=fT:=rfl
@[simp] theorem tab367:tab 367=pT 372:=rfl
@[simp] theorem tab370:tab 370=sT 415:=rfl
@[simp] theorem tab372:tab 372=⟨.struct [(0,120),(1,370),(2,354)],true,3,56,[.nils,.nils,.nilmap]⟩:=rfl
@[simp] theorem tab373:tab 373=⟨.int .u32,false,1,4,[.int .u32 0]⟩:=rfl
@[simp] theorem tab403:tab 403=fT:=rfl
@[simp] theorem tab407:tab 407=⟨.map 3 3,false,1,8,[.nilmap]⟩:=rfl
@[simp] theorem tab408:tab 408=fT:=rfl
@[simp] theorem tab409:tab 409=fT:=rfl
@[simp] theorem tab413:tab 413=fT:=rfl
@[simp] theorem tab415:tab 415=⟨.array 1 338,true,1,8,[.int .u64 0]⟩:=rfl
@[simp] theorem tab418:tab 418=⟨.int .u64,false,1,8,[.int .u64 0]⟩:=rfl
@[simp] theorem tab419:tab 419=⟨.array 63 418,true,63,504,(List.replicate 63 (.int .u64 0))⟩:=rfl
@[simp] theorem tab421:tab 421=⟨.struct [(0,122),(2,419)],true,65,552,[.nils,.nils,.int .u64 0,.int .u64 0,.int .u64 0,.int .u64 0,.int .u64 0,.int .u64 0,.int .u64 0,.int .u64 0,.int .u64 0,.int .u64 0,.int .u64 0,.int .u64 0,.int .u64 0,.int .u64 0,.int .u64 0,.int .u64 0,.int .u64 0,.int .u64 0,.int .u64 0,.int .u64 0,.int .u64 0,.int .u64 0,.int .u64 0,.int .u64 0,.int .u64 0,.int .u64 0,.int .u64 0,.int .u64 0,.int .u64 0,.int .u64 0,.int .u64 0,.int .u64 0,.int .u64 0,.int .u64 0,.int .u64 0,.int .u64 0,.int .u64 0,.int .u64 0,.int .u64 0,.int .u64 0,.int .u64 0,.int .u64 0,.int .u64 0,.int .u64 0,.int .u64 0,.int .u64 0,.int .u64 0,.int .u64 0,.int .u64 0,.int .u64 0,.int .u64 0,.int .u64 0,.int .u64 0,.int .u64 0,.int .u64 0,.int .u64 0,.int .u64 0,.int .u64 0,.int .u64 0,.int .u64 0,.int .u64 0,.int .u64 0,.int .u64 0]⟩:=rfl
@[simp] theorem tab425:tab 425=pT 3:=rfl
@[simp] theorem tab464:tab 464=⟨.struct [(0,17),(1,17),(2,17),(3,9)],true,4,40,[.nilp,.nilp,.nilp,.str []]⟩:=rfl
@[simp] theorem tab465:tab 465=⟨.array 0 16,true,0,0,[]⟩:=rfl
@[simp] theorem tab467:tab 467=⟨.struct [(0,465)],true,0,0,[]⟩:=rfl
@[simp] theorem tab468:tab 468=⟨.int .u8,false,1,1,[.int .u8 0]⟩:=rfl
@[simp] theorem tab469:tab 469=⟨.int .u8,false,1,1,[.int .u8 0]⟩:=rfl
@[simp] theorem tab470:tab 470=fT:=rfl
@[simp] theorem tab471:tab 471=⟨.int .i32,false,1,4,[.int .i32 0]⟩:=rfl
@[simp] theorem tab472:tab 472=⟨.int .i32,false,1,4,[.int .i32 0]⟩:=rfl
@[simp] theorem tab474:tab 474=⟨.struct [(0,12),(1,12),(2,373),(3,468),(4,5),(5,5),(6,469),(7,470),(8,246),(9,471),(10,472)],true,11,48,[.int .u64 0,.int .u64 0,.int .u32 0,.int .u8 0,.int .u8 0,.int .u8 0,.int .u8 0,.nilf,.nilp,.int .i32 0,.int .i32 0]⟩:=rfl
theorem mixed:prog.follows .mixedOrders=true:=by kernel_rfl
abbrev Str:=List UInt8
attribute [simp] w6 w8
theorem big1{x:Nat}(h:x<=140737488355328):(140737488355328<x)=False:=by simp;omega
theorem big2{x:Nat}(h:x<=9223372036854775807):(9223372036854775807<x)=False:=by simp;omega
@[simp] theorem getElem0{α:Type}(a:α)(l:List α):(a::l)[0]? = some a:=rfl
abbrev sl(es:List (List D)):D:=.slice es .no
abbrev dI(n:Int):D:=.int .i64 n
def cS(l:List Str):List (List D):=l.map fun s=>[.str s]
@[simp] theorem cS_get(l:List Str)(i:Nat):(cS l)[i]? = (l[i]?).map fun s=>[.str s]:=by simp[cS]
@[simp] theorem C0(l:List Str): ∀c∈cS l,c.length=1:=by simp[cS]
def cI(l:List Int):List (List D):=l.map fun s=>[.int .i64 s]
@[simp] theorem JD(l:List Int):(cI l).length=l.length:=by simp[cI]
@[simp] theorem cI_get(l:List Int)(i:Nat):(cI l)[i]? = (l[i]?).map fun s=>[.int .i64 s]:=by simp[cI]
@[simp] theorem Ba(l:List Int): ∀c∈cI l,c.length=1:=by simp[cI]
def cII(l:List (List Int)):List (List D):=l.map fun s=>[sl (cI s)]
@[simp] theorem cII_len(l:List (List Int)):(cII l).length=l.length:=by simp[cII]
@[simp] theorem cII_get(l:List (List Int))(i:Nat):(cII l)[i]? = (l[i]?).map fun s=>[sl (cI s)]:=by simp[cII]
@[simp] theorem cI_all(l:List Int):(cI l).all (fun c=>c.length==1)=true:=by simp[cI]
@[simp] theorem cII_all(l:List (List Int)):(cII l).all (fun c=>c.length==1)=true:=by simp[cII]
@[simp] theorem AN(l:List (List Int)): ∀c∈cII l,c.length=1:=by simp[cII]
structure Init where
 slot:Int
 n:Int
 deriving DecidableEq
structure BClass where
 parents:List Int
 slots:List Int
 inits:List Init
 deriving DecidableEq
inductive Fact where
 |mk (op arg:Int) (path:List Int) (cls n:Int) (kids:List Fact)
structure BMeth where
 kind:Int
 gen:Int
 fact:Fact
 node:Int
structure BNode where
 op:Int
 n:Int
 kids:List Int
 deriving DecidableEq
structure BProg where
 classes:List BClass
 slots:Int
 gens:List Int
 methods:List BMeth
 nodes:List BNode
 main:Int
inductive FExp where
 |mk (op n:Int) (text:Str) (kids:List FExp)
inductive FFact where
 |mk (op:Int) (name:Str) (path:List Str) (cls:Str) (n:Int) (kids:List FFact)
structure FInit where
 slot:Str
 n:Int
 deriving DecidableEq
structure FClass where
 name:Str
 parents:List Str
 slots:List Str
 inits:List FInit
 deriving DecidableEq
structure FMeth where
 kind:Int
 name:Str
 params:List Str
 fact:FFact
 body:FExp
structure FProg where
 classes:List FClass
 methods:List FMeth
 main:FExp
structure World where
 parents:List (List Int)
 owner:List Int
 deriving DecidableEq
section
def Fact.op:Fact->Int|.mk o _ _ _ _ _=>o
def Fact.arg:Fact->Int|.mk _ a _ _ _ _=>a
def Fact.path:Fact->List Int|.mk _ _ p _ _ _=>p
def Fact.cls:Fact->Int|.mk _ _ _ c _ _=>c
def Fact.n:Fact->Int|.mk _ _ _ _ n _=>n
def Fact.kids:Fact->List Fact|.mk _ _ _ _ _ k=>k
def FExp.op:FExp->Int|.mk o _ _ _=>o
def FExp.n:FExp->Int|.mk _ n _ _=>n
def FExp.text:FExp->Str|.mk _ _ t _=>t
def FExp.kids:FExp->List FExp|.mk _ _ _ k=>k
def FFact.op:FFact->Int|.mk o _ _ _ _ _=>o
def FFact.name:FFact->Str|.mk _ s _ _ _ _=>s
def FFact.path:FFact->List Str|.mk _ _ p _ _ _=>p
def FFact.cls:FFact->Str|.mk _ _ _ c _ _=>c
def FFact.n:FFact->Int|.mk _ _ _ _ n _=>n
def FFact.kids:FFact->List FFact|.mk _ _ _ _ _ k=>k
theorem Fact.lt{f x:Fact}(h:x∈f.kids):SizeOf.sizeOf x<SizeOf.sizeOf f:=by
 cases f;simp only[Fact.kids]at h
 have:=List.sizeOf_lt_of_mem h
 simp;omega
theorem FExp.lt{f x:FExp}(h:x∈f.kids):SizeOf.sizeOf x<SizeOf.sizeOf f:=by
 cases f;simp only[FExp.kids]at h
 have:=List.sizeOf_lt_of_mem h
 simp;omega
theorem FFact.lt{f x:FFact}(h:x∈f.kids):SizeOf.sizeOf x<SizeOf.sizeOf f:=by
 cases f;simp only[FFact.kids]at h
 have:=List.sizeOf_lt_of_mem h
 simp;omega
end
mutual
def Ca:Fact->List D
 |.mk o a p c n k=>[dI o,dI a,sl (cI p),dI c,dI n,sl (Nb k)]
def Nb:List Fact->List (List D)
 |[]=>[]
 |f::l=>Ca f::Nb l
end
theorem KX: ∀l,Nb l=l.map Ca
 |[]=>by rw[Nb];rfl
 |f::l=>by rw[Nb,KX l];rfl
@[simp] theorem F4(f:Fact):Ca f=[dI f.op,dI f.arg,sl (cI f.path),dI f.cls,dI f.n,sl (f.kids.map Ca)]:=by
 cases f;rw[Ca,KX];rfl
mutual
def JG:FExp->List D
 |.mk o n t k=>[dI o,dI n,.str t,sl (Nc k)]
def Nc:List FExp->List (List D)
 |[]=>[]
 |f::l=>JG f::Nc l
end
theorem KY: ∀l,Nc l=l.map JG
 |[]=>by rw[Nc];rfl
 |f::l=>by rw[Nc,KY l];rfl
@[simp] theorem Hv(f:FExp):JG f=[dI f.op,dI f.n,.str f.text,sl (f.kids.map JG)]:=by
 cases f;rw[JG,KY];rfl
mutual
def Hu:FFact->List D
 |.mk o s p c n k=>[dI o,.str s,sl (cS p),.str c,dI n,sl (JF k)]
def JF:List FFact->List (List D)
 |[]=>[]
 |f::l=>Hu f::JF l
end
theorem JE: ∀l,JF l=l.map Hu
 |[]=>by rw[JF];rfl
 |f::l=>by rw[JF,JE l];rfl
@[simp] theorem FP(f:FFact):Hu f=[dI f.op,.str f.name,sl (cS f.path),.str f.cls,dI f.n,sl (f.kids.map Hu)]:=by
 cases f;rw[Hu,JE];rfl
@[simp] def HT(i:Init):List D:=[dI i.slot,dI i.n]
@[simp] def HU(c:BClass):List D:=[sl (cI c.parents),sl (cI c.slots),sl (c.inits.map HT)]
@[simp] def KZ(m:BMeth):List D:=[dI m.kind,dI m.gen]++Ca m.fact++[dI m.node]
@[simp] def Gk(x:BNode):List D:=[dI x.op,dI x.n,sl (cI x.kids)]
@[simp] def Ac(p:BProg):List D:=[sl (p.classes.map HU),dI p.slots,sl (cI p.gens),sl (p.methods.map KZ),sl (p.nodes.map Gk),dI p.main]
@[simp] def U0(i:FInit):List D:=[.str i.slot,dI i.n]
@[simp] def NY(c:FClass):List D:=[.str c.name,sl (cS c.parents),sl (cS c.slots),sl (c.inits.map U0)]
@[simp] def TZ(m:FMeth):List D:=[dI m.kind,.str m.name,sl (cS m.params)]++Hu m.fact++JG m.body
@[simp] def cFProg(p:FProg):List D:=[sl (p.classes.map NY),sl (p.methods.map TZ)]++JG p.main
@[simp] def DV(w:World):List D:=[sl (cII w.parents),sl (cI w.owner)]
theorem AP{O:Sig}{i j:Nat}{o:DObj}(h:O.set i o j=none):j≠i/\O j=none:=by
 by_cases hj:j=i
 ·subst hj;rw[w6]at h;cases h
 ·rw[w7 _ _ hj]at h;exact⟨hj,h⟩
theorem A9{α:Type}{l:List α}{k:Nat}(h:¬k<l.length):l.drop k=[]:=List.drop_of_length_le (by omega)
theorem A4{α:Type}{l:List α}{k:Nat}(h:k<l.length):l.drop k=l[k]::l.drop (k+1):=List.drop_eq_getElem_cons h
@[simp] theorem cI_nil:cI []=[]:=rfl
@[simp] theorem cS_nil:cS []=[]:=rfl
@[simp] theorem cII_nil:cII []=[]:=rfl
@[simp] theorem cI_take(l:List Int)(k:Nat):(cI l).take k=cI (l.take k):=by simp[cI]
@[simp] theorem cI_tail(l:List Int):(cI l).tail=cI l.tail:=by simp[cI]
theorem Bg(f:Fact):[dI f.op,dI f.arg,sl (cI f.path),dI f.cls,dI f.n,sl (f.kids.map Ca)]=Ca f:=by simp
theorem Bh(f:FExp):[dI f.op,dI f.n,.str f.text,sl (f.kids.map JG)]=JG f:=by simp
theorem AW(f:FFact):[dI f.op,.str f.name,sl (cS f.path),.str f.cls,dI f.n,sl (f.kids.map Hu)]=Hu f:=by simp
theorem Bf(i:Init):[dI i.slot,dI i.n]=HT i:=rfl
theorem AI(c:BClass):[sl (cI c.parents),sl (cI c.slots),sl (c.inits.map HT)]=HU c:=rfl
theorem AZ(m:BMeth):[dI m.kind,dI m.gen,dI m.fact.op,dI m.fact.arg,sl (cI m.fact.path),dI m.fact.cls,dI m.fact.n,sl (m.fact.kids.map Ca),dI m.node]=KZ m:=by simp
theorem AY(x:BNode):[dI x.op,dI x.n,sl (cI x.kids)]=Gk x:=rfl
theorem AX(p:BProg):[sl (p.classes.map HU),dI p.slots,sl (cI p.gens),sl (p.methods.map KZ),sl (p.nodes.map Gk),dI p.main]=Ac p:=rfl
theorem AV(i:FInit):[.str i.slot,dI i.n]=U0 i:=rfl
theorem AH(c:FClass):[.str c.name,sl (cS c.parents),sl (cS c.slots),sl (c.inits.map U0)]=NY c:=rfl
theorem AU(m:FMeth):dI m.kind :: .str m.name::sl (cS m.params)::dI m.fact.op :: .str m.fact.name::sl (cS m.fact.path) :: .str m.fact.cls::dI m.fact.n::sl (m.fact.kids.map Hu)::JG m.body=TZ m:=by simp
theorem AT(p:FProg):sl (p.classes.map NY)::sl (p.methods.map TZ)::JG p.main=cFProg p:=by simp
theorem AS(w:World):[sl (cII w.parents),sl (cI w.owner)]=DV w:=rfl
def wtL{α:Type}(f:α->Nat):List α->Nat
 |[]=>0
 |x::l=>f x+wtL f l
theorem Ed{α:Type}(f:α->Nat): ∀(l:List α) (k:Nat) (h:k<l.length),f l[k]<=wtL f l
 |x::l,0,_=>by simp[wtL]
 |x::l,k+1,h=>by
  have:=Ed f l k (by simpa using h)
  simp only[List.getElem_cons_succ,wtL];omega
theorem Ec{α:Type}(f:α->Nat)(hf:∀x,1<=f x): ∀l:List α,l.length<=wtL f l
 |[]=>Nat.le_refl _
 |x::l=>by
  have:=Ec f hf l
  have:=hf x
  simp only[List.length_cons,wtL];omega
theorem Nj{α:Type}(f:α->Nat): ∀l m:List α,wtL f (l++m)=wtL f l+wtL f m
 |[],m=>by simp[wtL]
 |x::l,m=>by simp only[List.cons_append,wtL,Nj f l m];omega
def wtS:List Str->Nat:=wtL fun s=>1+s.length
mutual
def Fact.wt:Fact->Nat
 |.mk _ _ p _ _ k=>1+p.length+Fact.wts k
def Fact.wts:List Fact->Nat
 |[]=>0
 |f::l=>f.wt+Fact.wts l
end
mutual
def FExp.wt:FExp->Nat
 |.mk _ _ t k=>1+t.length+FExp.wts k
def FExp.wts:List FExp->Nat
 |[]=>0
 |f::l=>f.wt+FExp.wts l
end
mutual
def FFact.wt:FFact->Nat
 |.mk _ s p c _ k=>1+s.length+wtS p+c.length+FFact.wts k
def FFact.wts:List FFact->Nat
 |[]=>0
 |f::l=>f.wt+FFact.wts l
end
theorem Fact.wts_eq: ∀l,Fact.wts l=wtL Fact.wt l
 |[]=>by rw[Fact.wts,wtL]
 |f::l=>by rw[Fact.wts,wtL,Fact.wts_eq l]
theorem FExp.wts_eq: ∀l,FExp.wts l=wtL FExp.wt l
 |[]=>by rw[FExp.wts,wtL]
 |f::l=>by rw[FExp.wts,wtL,FExp.wts_eq l]
theorem FFact.wts_eq: ∀l,FFact.wts l=wtL FFact.wt l
 |[]=>by rw[FFact.wts,wtL]
 |f::l=>by rw[FFact.wts,wtL,FFact.wts_eq l]
theorem Fact.wt_eq(f:Fact):f.wt=1+f.path.length+wtL Fact.wt f.kids:=by cases f;rw[Fact.wt,Fact.wts_eq];rfl
theorem FExp.wt_eq(f:FExp):f.wt=1+f.text.length+wtL FExp.wt f.kids:=by cases f;rw[FExp.wt,FExp.wts_eq];rfl
theorem FFact.wt_eq(f:FFact):f.wt=1+f.name.length+wtS f.path+f.cls.length+wtL FFact.wt f.kids:=by cases f;rw[FFact.wt,FFact.wts_eq];rfl
theorem Fact.wt_pos(f:Fact):1<=f.wt:=by rw[Fact.wt_eq];omega
theorem FExp.wt_pos(f:FExp):1<=f.wt:=by rw[FExp.wt_eq];omega
theorem FFact.wt_pos(f:FFact):1<=f.wt:=by rw[FFact.wt_eq];omega
theorem Fact.wt_le(f:Fact):f.path.length<f.wt/\f.kids.length<f.wt /\ ∀(k:Nat) (h:k<f.kids.length),(f.kids[k]).wt<f.wt:=by
 have h1:=Fact.wt_eq f
 have h2:=Ec Fact.wt Fact.wt_pos f.kids
 exact⟨by omega,by omega,fun k h=>by have:=Ed Fact.wt f.kids k h;omega⟩
theorem FExp.wt_le(f:FExp):f.text.length<f.wt/\f.kids.length<f.wt /\ ∀(k:Nat) (h:k<f.kids.length),(f.kids[k]).wt<f.wt:=by
 have h1:=FExp.wt_eq f
 have h2:=Ec FExp.wt FExp.wt_pos f.kids
 exact⟨by omega,by omega,fun k h=>by have:=Ed FExp.wt f.kids k h;omega⟩
theorem FFact.wt_le(f:FFact):f.name.length<f.wt/\wtS f.path<f.wt/\f.cls.length<f.wt/\f.kids.length<f.wt /\ ∀(k:Nat) (h:k<f.kids.length),(f.kids[k]).wt<f.wt:=by
 have h1:=FFact.wt_eq f
 have h2:=Ec FFact.wt FFact.wt_pos f.kids
 exact⟨by omega,by omega,by omega,by omega,fun k h=>by have:=Ed FFact.wt f.kids k h;omega⟩
def BClass.wt(c:BClass):Nat:=1+c.parents.length+c.slots.length+c.inits.length
def BNode.wt(x:BNode):Nat:=1+x.kids.length
def BMeth.wt(m:BMeth):Nat:=1+m.fact.wt
def BProg.wt(p:BProg):Nat:=1+wtL BClass.wt p.classes+p.gens.length+wtL BMeth.wt p.methods+wtL BNode.wt p.nodes
def FInit.wt(i:FInit):Nat:=1+i.slot.length
def FClass.wt(c:FClass):Nat:=1+c.name.length+wtS c.parents+wtS c.slots+wtL FInit.wt c.inits
def FMeth.wt(m:FMeth):Nat:=1+m.name.length+wtS m.params+m.fact.wt+m.body.wt
def FProg.wt(p:FProg):Nat:=1+wtL FClass.wt p.classes+wtL FMeth.wt p.methods+p.main.wt
theorem BProg.wt_le(p:BProg):p.classes.length<p.wt/\p.gens.length<p.wt/\p.methods.length<p.wt/\p.nodes.length<p.wt /\
  (∀(k:Nat) (h:k<p.classes.length),(p.classes[k]).wt<p.wt)/\(∀(k:Nat) (h:k<p.methods.length),(p.methods[k]).wt<p.wt) /\ ∀(k:Nat) (h:k<p.nodes.length),(p.nodes[k]).wt<p.wt:=by
 have h1:=Ec BClass.wt (fun x=>by unfold BClass.wt;omega) p.classes
 have h2:=Ec BMeth.wt (fun x=>by unfold BMeth.wt;omega) p.methods
 have h3:=Ec BNode.wt (fun x=>by unfold BNode.wt;omega) p.nodes
 unfold BProg.wt
 exact⟨by omega,by omega,by omega,by omega,fun k h=>by have:=Ed BClass.wt p.classes k h;omega,fun k h=>by have:=Ed BMeth.wt p.methods k h;omega,fun k h=>by have:=Ed BNode.wt p.nodes k h;omega⟩
theorem FProg.wt_le(p:FProg):p.classes.length<p.wt/\p.methods.length<p.wt/\p.main.wt<p.wt /\
  (∀(k:Nat) (h:k<p.classes.length),(p.classes[k]).wt<p.wt)/\(∀(k:Nat) (h:k<p.methods.length),(p.methods[k]).wt<p.wt):=by
 have h1:=Ec FClass.wt (fun x=>by unfold FClass.wt;omega) p.classes
 have h2:=Ec FMeth.wt (fun x=>by unfold FMeth.wt;omega) p.methods
 unfold FProg.wt
 exact⟨by omega,by omega,by omega,fun k h=>by have:=Ed FClass.wt p.classes k h;omega,fun k h=>by have:=Ed FMeth.wt p.methods k h;omega⟩
theorem FClass.wt_le(c:FClass):c.name.length<c.wt/\wtS c.parents<c.wt/\wtS c.slots<c.wt/\c.inits.length<c.wt /\ ∀(k:Nat) (h:k<c.inits.length),(c.inits[k]).slot.length<c.wt:=by
 have h1:=Ec FInit.wt (fun x=>by unfold FInit.wt;omega) c.inits
 unfold FClass.wt
 exact⟨by omega,by omega,by omega,by omega,fun k h=>by have:=Ed FInit.wt c.inits k h;unfold FInit.wt at this⊢; omega⟩
end Go.DL
namespace Go.Proofs
open Go.Proofs.Tryz
open Go.Shelf
def laysSort_ren:Go.Shelf.Ren:=⟨fun x=>match x with|189=>240|125=>289|257=>288|128=>335|129=>316|294=>326|295=>327|296=>328|297=>329|298=>330|299=>331|216=>332|300=>333|301=>334|328=>360|329=>361|330=>362|331=>363|332=>364|215=>365|343=>383|n=>n,fun x=>match x with|28=>23|3=>3|46=>320|0=>0|51=>373|53=>338|4=>4|183=>400|182=>399|131=>227|5=>5|9=>9|218=>440|222=>425|228=>454|229=>249|n=>n,fun n=>n⟩
theorem laysSort:Lays.n189 prog laysSort_ren:=
 {mixed:=Eq.refl true,f125:=func289.trans (congrArg some (by kernel_rfl)),f128:=func335.trans (congrArg some (by kernel_rfl)),f129:=func316.trans (congrArg some (by kernel_rfl)),f189:=func240.trans (congrArg some (by kernel_rfl)),f215:=func365.trans (congrArg some (by kernel_rfl)),f216:=func332.trans (congrArg some (by kernel_rfl)),f257:=func288.trans (congrArg some (by kernel_rfl)),f294:=func326.trans (congrArg some (by kernel_rfl)),f295:=func327.trans (congrArg some (by kernel_rfl)),f296:=func328.trans (congrArg some (by kernel_rfl)),f297:=func329.trans (congrArg some (by kernel_rfl)),f298:=func330.trans (congrArg some (by kernel_rfl)),f299:=func331.trans (congrArg some (by kernel_rfl)),f300:=func333.trans (congrArg some (by kernel_rfl)),f301:=func334.trans (congrArg some (by kernel_rfl)),f328:=func360.trans (congrArg some (by kernel_rfl)),f329:=func361.trans (congrArg some (by kernel_rfl)),f330:=func362.trans (congrArg some (by kernel_rfl)),f331:=func363.trans (congrArg some (by kernel_rfl)),f332:=func364.trans (congrArg some (by kernel_rfl)),f343:=func383.trans (congrArg some (by kernel_rfl)),t0:=underlying0,a0:=isAgg0,z0:=sizeOf0,v0:=zeroValue0,t3:=underlying3,a3:=isAgg3,z3:=sizeOf3,v3:=zeroValue3,t4:=underlying4,a4:=isAgg4,z4:=sizeOf4,v4:=zeroValue4,t5:=underlying5,a5:=isAgg5,z5:=sizeOf5,v5:=zeroValue5,t9:=underlying9,a9:=isAgg9,z9:=sizeOf9,v9:=zeroValue9,t28:=underlying23,a28:=isAgg23,z28:=sizeOf23,v28:=zeroValue23,t46:=underlying320,a46:=isAgg320,z46:=sizeOf320,v46:=zeroValue320,t51:=underlying373,a51:=isAgg373,z51:=sizeOf373,v51:=zeroValue373,t53:=underlying338,a53:=isAgg338,z53:=sizeOf338,v53:=zeroValue338,t131:=underlying227,a131:=isAgg227,z131:=sizeOf227,v131:=zeroValue227,t182:=underlying399,a182:=isAgg399,z182:=sizeOf399,v182:=zeroValue399,t183:=underlying400,a183:=isAgg400,z183:=sizeOf400,v183:=zeroValue400,t218:=underlying440,a218:=isAgg440,z218:=sizeOf440,v218:=zeroValue440,t222:=underlying425,a222:=isAgg425,z222:=sizeOf425,v222:=zeroValue425,t228:=underlying454,a228:=isAgg454,z228:=sizeOf454,v228:=zeroValue454,t229:=underlying249,a229:=isAgg249,z229:=sizeOf249,v229:=zeroValue249 }
end Go.Proofs
namespace Go.DL
open Go.Proofs.Tryz
open Go Go.Proofs Go.Sort
def EL(l:List Int):List Int:=l.mergeSort fun x y=>decide (x<=y)
theorem GT(l:List Int):(EL l).length=l.length:=by unfold EL;exact List.length_mergeSort _
theorem Mo(l:List Int)(j:Nat)(h:j<l.length):l.toArray[j]! = l[j]:=by simp[getElem!_pos,h]
theorem SD(l:List Int)(st:MR)(O:Sig)(hm:mOK O 1 st (cI l))(hl:l.length<=1073741824):
  DCall prog 240 [mD st l.length] (mS O st (cI l)) fun x U'=>x=.ret (.tup [])/\U'=mS O st (cI (EL l)):=by
 have hL:∀f∈[laysSort_ren.f 189,laysSort_ren.f 257,laysSort_ren.f 125,laysSort_ren.f 294,laysSort_ren.f 295,laysSort_ren.f 296,laysSort_ren.f 297,laysSort_ren.f 298,laysSort_ren.f 299,laysSort_ren.f 216,laysSort_ren.f 300,laysSort_ren.f 301,laysSort_ren.f 129,laysSort_ren.f 328,laysSort_ren.f 329,laysSort_ren.f 330,laysSort_ren.f 331,laysSort_ren.f 332,laysSort_ren.f 215,laysSort_ren.f 343],f<prog.funcs.size:=by
  rw[Ai];decide
 refine⟨by rw[Ai];decide,BV func240 (by rfl) (by rfl),fun g w vs hs ha=>?_⟩
 obtain⟨v,r,rfl,hv,rfl⟩:=ha
 cases st with
 |none=>
  have aZ:l=[]:=by have:cI l=[]:=hm;simpa[cI] using this
  subst aZ
  have aT:v=.slice none 0 0:=hv
  subst aT
  refine(KV (fun D=>AnyS.slices_Sort_int_none_alone laysSort D none 0 w) hL {}).mono ?_
  rintro e w' ⟨rfl,rfl⟩
  refine⟨g,.ret (.tup []),_,.refl g,hs,⟨_,rfl,[],rfl,rfl⟩,rfl,?_⟩
  simp[mS]
 | some x =>
  obtain⟨i,cap,rest⟩:=x
  obtain⟨h1,h2,h3,h4⟩:=hm
  obtain⟨b,hb,hv⟩:=hv
  subst hv
  obtain⟨b',vs,ty,ai,aa,hr⟩:=hs.obj i _ (w6 ..)
  obtain rfl:b'=b:=by rw[hb]at ai;cases ai;rfl
  have ap:∀m:List Int,(cI m).flatten=m.map (D.int .i64):=fun m=>by induction m with
   |nil=>rfl
   |cons x m ih=>simp only[cI,List.map_cons,List.flatten_cons]at ih⊢; rw[ih];rfl
  have hlen:=RepL.length hr
  simp only[Array.length_toList,List.length_append,ap,List.length_map]at hlen
  have aK:∀j (hj:j<l.length),vs[j]? = some (.int .i64 l[j]):=by
   intro j hj
   have:=RepL.get hr j
   rw[List.getElem?_append_left (by simp[ap,hj]),ap]at this
   simp only[List.getElem?_map,List.getElem?_eq_getElem hj,Option.map_some,Option.getD_some,Array.getElem?_toList]at this
   have aC:j<vs.size:=by omega
   rw[Array.getElem?_eq_getElem aC]at this⊢
   have this':vs[j]=.int .i64 l[j]:=this
   rw[this']
  have hH:Holds (Value.int .i64) w b' 0 l.toArray:=by
   intro j hj
   have aN:j<l.length:=by simpa using hj
   refine⟨?_,by simp[Go.World.frozen?, aa]⟩
   simp only[Go.World.cell?, aa,Nat.zero_add]
   rw[Mo l j aN];exact aK j aN
  have bd:b'<w.heap.size:=(Array.getElem?_eq_some_iff.1 aa).1
  refine(KV (fun D=>AnyS.slices_Sort_int_alone laysSort D b' 0 cap l w hH bd (by omega)) hL {}).mono ?_
  rintro e w' ⟨rfl,q,os,rfl⟩
  refine⟨g,.ret (.tup []),_,.refl g,?_,⟨_,rfl,[],rfl,rfl⟩,rfl,rfl⟩
  have aW:=GT l
  have au:=hs.setObj (i:=i) (b:=b') (ds':=(cI (EL l)).flatten++rest) (vs':=putCells (Value.int .i64) 0 (EL l).toArray vs) (ty:=ty) (w6 ..) hb ?_ ⟨vs,aa⟩
  ·have e1:(mS O (some (i,cap,rest)) (cI l)).set i (.cells ((cI (EL l)).flatten++rest))=mS O (some (i,cap,rest)) (cI (EL l)):=w8 ..
   rw[e1]at au
   refine au.later (fun k x hx=>?_) rfl
   have hk:k<w.heap.size:=by have:=(Array.getElem?_eq_some_iff.1 hx).1;simpa[setB] using this
   simp only[grow,putRow,mapBlock]
   have ea:(Sort.ahead w q).heap=w.heap:=rfl
   rw[ea]
   rw[Array.getElem?_append_left (by simpa using hk)]
   by_cases aJ:k=b'
   ·subst aJ
    rw[EN aa]at hx
    rw[Array.getElem?_modify,if_pos rfl,aa,<-hx]
    rfl
   ·rw[EM aJ]at hx
    rw[Array.getElem?_modify,if_neg (fun e=>aJ e.symm),hx]
  ·refine AG (by simp[putCells,ap];omega) fun j d u hd hu=>?_
   rw[ap]at hd
   simp only[putCells,Array.getElem?_toList,Array.getElem?_mapIdx,Nat.zero_le,true_and,Nat.zero_add,List.size_toArray,Nat.sub_zero]at hu
   have aC:j<vs.size:=by
    rcases Nat.lt_or_ge j vs.size with h|h
    ·exact h
    ·rw[Array.getElem?_eq_none h]at hu;cases hu
   rw[Array.getElem?_eq_getElem aC]at hu
   simp only[Option.map_some,Option.some.injEq]at hu
   by_cases hj:j<(EL l).length
   ·rw[if_pos hj,Mo _ _ hj]at hu
    rw[List.getElem?_append_left (by simpa using hj),List.getElem?_map,List.getElem?_eq_getElem hj]at hd
    simp only[Option.map_some,Option.some.injEq]at hd
    subst hd hu
    exact rfl
   ·rw[if_neg hj]at hu
    rw[List.getElem?_append_right (by simpa using hj)]at hd
    have:=RepL.get hr j
    rw[List.getElem?_append_right (by simp[ap];omega),ap]at this
    simp only[List.length_map]at hd this
    rw[aW]at hd
    rw[hd,Array.getElem?_toList,Array.getElem?_eq_getElem aC,hu]at this
    exact this
end Go.DL
namespace Go.DL
open Go.Proofs.Tryz
open Go Go.Proofs
structure Hold(F:Prop):Prop where
 get:F
theorem Df{a b:Int}(h:a<=b):decide (a<=b)=true:=by simp[h]
theorem Cn{a b:Int}(h:b<a):decide (a<=b)=false:=by simp;omega
theorem De{a b:Int}(h:a<b):decide (a<b)=true:=by simp[h]
theorem Cm{a b:Int}(h:b<=a):decide (a<b)=false:=by simp;omega
theorem FA{p:Prop}[Decidable p]{α:Type}{a b:α}(h:p):(if p then a else b)=a:=if_pos h
theorem Dg{a b:Int}(h:a=b):decide (a=b)=true:=by simp[h]
theorem Dd{a b:Int}(h:¬a=b):decide (a=b)=false:=by simp[h]
theorem Ci{a b:Nat}(h:a<=b):decide (a<=b)=true:=by simp[h]
theorem BD{a b:Nat}(h:b<a):decide (a<=b)=false:=by simp;omega
theorem Ch{a b:Nat}(h:a<b):decide (a<b)=true:=by simp[h]
theorem BC{a b:Nat}(h:b<=a):decide (a<b)=false:=by simp;omega
theorem Cj{a b:Nat}(h:a=b):decide (a=b)=true:=by simp[h]
theorem Cg{a b:Nat}(h:¬a=b):decide (a=b)=false:=by simp[h]
theorem Ad(a b:Bool):(DE.ret (.bool a)=DE.ret (.bool b))=(a=b):=by simp
structure VarsAre(vars:List Nat):Prop
theorem IG{P:Program}{ro:Ro}{n:Nat}{ops:Array Oper}{Q:DX->St->Prop}{df:List DDf}{rest:List Oper}{γ Sr:Fr}{O:Sig}{t:Nat}{ty:TypeId}{pos:String}{after:Array Edge}{d:D}{vars:List Nat}(_:VarsAre vars){tab:Nat->Ty}(ht:Bc P tab){T T' ty':Nat}{x:Operand}{pos':String}{after':Array Edge}{cs:List D}(hv:vars.contains t=false)(hT:T'=T)(ae:decide (t<n)=true)(hx:F6 t x=true)(ho:A0 (tab T).k=false)
  (hl:A2 γ (A8 [x])=some Sr) (he:ev Sr x=d) (ac:d.told=true) (hc:d.cells=cs) (hlen:cs.length=(tab T).size) (ah:Be cs=true)
  (h:DOps P ro n ops Q rest ⟨(t,.cptr cs 0)::γ,O,df⟩) :
  DOps P ro n ops Q (⟨some t,.alloc T,ty,pos,after,none⟩::⟨none,.store T' (.tmp t) x,ty',pos',after',none⟩::rest) ⟨γ,O,df⟩:=
 Uk ht vars hv hT ae hx ho hl he ac hc hlen ah h
theorem HB{P:Program}{ro:Ro}{n:Nat}{ops:Array Oper}{Q:DX->St->Prop}{df:List DDf}{rest:List Oper}{γ Sr Sr2:Fr}{O:Sig}{t t2:Nat}{d d2:D}{vars:List Nat}(_:VarsAre vars){tab:Nat->Ty}(ht:Bc P tab){T T' ty ty' ty2:Nat}{x y:Operand}{pos pos' pos2:String}{after after' after2:Array Edge}{cs:List D}(hv:vars.contains t=false)(hT:T'=T)(ae:decide (t<n)=true)(aE:decide (t2<n)=true)(hx:F6 t x=true)(hy:F6 t y=true)(aR:F6 t2 x=true)(be:decide (t2=t)=false)(ho:A0 (tab T).k=false)
  (aI:A2 γ (A8 [y])=some Sr2) (bb:ev Sr2 y=d2) (hl:A2 γ (A8 [x])=some Sr) (he:ev Sr x=d) (ac:d.told=true) (hc:d.cells=cs) (hlen:cs.length=(tab T).size) (ah:Be cs=true)
  (h:DOps P ro n ops Q rest ⟨(t,.cptr cs 0)::(t2,d2)::γ,O,df⟩) :
  DOps P ro n ops Q (⟨some t,.alloc T,ty,pos,after,none⟩::⟨some t2,.assign y,ty2,pos2,after2,none⟩::⟨none,.store T' (.tmp t) x,ty',pos',after',none⟩::rest) ⟨γ,O,df⟩:=
 Qq ht vars hv hT ae aE hx hy aR be ho aI bb hl he ac hc hlen ah h
theorem td0{p:Prop}(h:p:=by simp(disch:=first|omega|assumption) [Ar,big1,big2,w7]<;>(try simp only[Bg,Bh,AW,Bf,AI,AZ,AY,AX,AV,AH,AU,AT,AS])<;>with_unfolding_all rfl):p:=h
theorem tdW{p:Prop}(h:p:=by first|exact Ab _|exact BH _ _|exact Ak _ (.inl rfl)|exact EH _|(refine Iu _ ?_;first|omega|(simp;done)|(simp;omega))|(refine C2 ?_;(simp;done))|(refine C2 ?_;(simp[cI,cS,cII,F4,FP,Hv];done))|(refine DF _ ?_;(simp[cI,cS,cII];done))|(refine C2 ?_;(simp_all;done))|assumption):p:=h
theorem tdT{p:Prop}(h:p:=by(first|refine GQ ?_ ?_|skip)<;>(repeat' first|exact GP|refine FT tdR ?_ ?_|(first|exact Ab _|exact BH _ _|exact Ak _ (.inl rfl)|exact EH _|(refine Iu _ ?_;first|omega|(simp;done)|(simp;omega))|(refine C2 ?_;(simp;done))|(refine C2 ?_;(simp[cI,cS,cII,F4,FP,Hv];done))|(refine DF _ ?_;(simp[cI,cS,cII];done))|(refine C2 ?_;(simp_all;done))|assumption))):p:=h
theorem tdU{p:Prop}(h:p:=by first|exact Sub.refl _|(refine C3 ?_;simp;done)|assumption|exact(Sub.refl _).set (by assumption)):p:=h
section
variable {P:Program}{ro:Ro}{n:Nat}{ops:Array Oper}{N:Nat}{S0:Sig}{Q:DX->St->Prop}{df:List DDf}{rest:List Oper}{γ Sr:List (Nat×D)}{O:Sig}{t:Nat}{ty:TypeId}{pos:String}{after:Array Edge}{l:List (Bool×Oper)}{d:D}
theorem B9{fop:Operand}{args:Array Operand}{ats:Array TypeId}{f:Nat}{first cap us bs:List D}(h:DCall P f bs O (rS d O))(k1:DOps P ro n ops Q rest ⟨(t,d)::γ,O,df⟩)(hl:A2 γ (A8 (fop::args.toList))=some Sr:=by exact tdR)(hf:ev Sr fop=.func (.func f) first cap:=by exact tdR)(ha:first++args.toList.map (ev Sr)++cap=us:=by exact td0)(hp:bs=us:=by exact tdR)(ae:decide (t<n)=true:=by exact tdR):DOps P ro n ops Q (⟨some t,(cv fop args ats),ty,pos,after,none⟩::rest) ⟨γ,O,df⟩:=Ka hl hf ha (.inl hp) h ae k1
theorem CJ{fop:Operand}{args:Array Operand}{ats:Array TypeId}{f:Nat}{first cap us bs:List D}{j:Nat}{want:Bool}{k:Nat}(h:DCall P f bs O (rS d O))(k1:DOps P ro n ops Q rest ⟨(t,d)::γ,O,df⟩)(hk:(ops[j]?).bind (·.dst)=some k:=by exact tdR)(hb:γ.lookup k=some (.bool want):=by exact tdR)(hl:A2 γ (A8 (fop::args.toList))=some Sr:=by exact tdR)(hf:ev Sr fop=.func (.func f) first cap:=by exact tdR)(ha:first++args.toList.map (ev Sr)++cap=us:=by exact td0)(hp:bs=us:=by exact tdR)(ae:decide (t<n)=true:=by exact tdR):DOps P ro n ops Q (⟨some t,(cv fop args ats),ty,pos,after,some (j,want)⟩::rest) ⟨γ,O,df⟩:=IH hk hb hl hf ha (.inl hp) h ae k1
theorem A7{fop:Operand}{args:Array Operand}{ats:Array TypeId}{f:Nat}{first cap us bs:List D}{R:DE->Sig->Prop}{dst:Option Tmp}(h:DCall P f bs O R)(ak:∀d U',R (.ret d) U'->DOps P ro n ops Q rest ⟨putD dst d γ,U',df⟩)(am:∀d U',R (.panic d) U'->Q (.panic d) ⟨γ,U',df⟩)(hl:A2 γ (A8 (fop::args.toList))=some Sr:=by exact tdR)(hf:ev Sr fop=.func (.func f) first cap:=by exact tdR)(ha:first++args.toList.map (ev Sr)++cap=us:=by exact td0)(hp:bs=us:=by exact tdR)
  (ho:Aq n ⟨dst,(cv fop args ats),ty,pos,after,none⟩=true:=by exact tdR):DOps P ro n ops Q (⟨dst,(cv fop args ats),ty,pos,after,none⟩::rest) ⟨γ,O,df⟩:=GS hl hf ha (.inl hp) h ho ak am
theorem TV{fop:Operand}{args:Array Operand}{ats:Array TypeId}{f:Nat}{first cap us bs:List D}{R:DE->Sig->Prop}{dst:Option Tmp}(h:DCall P f bs O R)(ak:∀d U',R (.ret d) U'->DOps P ro n ops Q rest ⟨putD dst d γ,U',df⟩)(am:∀d U',R (.panic d) U'->Q (.panic d) ⟨γ,U',df⟩)(hl:A2 γ (A8 (fop::args.toList))=some Sr:=by exact tdR)(hf:ev Sr fop=.func (.func f) first cap:=by exact tdR)(ha:first++args.toList.map (ev Sr)++cap=us:=by exact td0)(hp:bs=us.map D.plain:=by exact tdR)
  (ho:Aq n ⟨dst,(cv fop args ats),ty,pos,after,none⟩=true:=by exact tdR):DOps P ro n ops Q (⟨dst,(cv fop args ats),ty,pos,after,none⟩::rest) ⟨γ,O,df⟩:=GS hl hf ha (.inr hp) h ho ak am
theorem cndB{c:Nat}{x y:Code}{b:Bool}(ht:b=true->DWp P ro n x Q ⟨(c,.bool true)::γ,O,df⟩)(hf:b=false->DWp P ro n y Q ⟨(c,.bool false)::γ,O,df⟩)(hl:γ.lookup c=some (.bool b):=by exact tdR):DWp P ro n (.cond (.tmp c) x y) Q ⟨γ,O,df⟩:=by
 refine OV (s:=⟨γ,O,df⟩) (t:=b) (As hl) (fun h=>?_) (fun h=>?_)
 ·exact Hn (BM (by rw[As hl,h];exact Ab _)) (ht h)
 ·exact Hn (BM (by rw[As hl,h];exact Ab _)) (hf h)
theorem mix{lo:List Oper}{id:Nat}(ord E:List Nat){lp:List (Bool×Oper)}(h:MO prog ro n lo.toArray 431 O Q df lp γ O)(hB:F7 lo.toArray E ord=true:=by kernel_rfl)(hl:IQ lo E ord=some lp:=by exact tdR):DWp prog ro n (.region id lo.toArray true) Q ⟨γ,O,df⟩:=
 OR Ai mixed ord E O hB (Sub.refl _) hl h
theorem EP{lo:List Oper}{id:Nat}(ord E:List Nat)(S0:Sig)(hC:Sub S0 O){lp:List (Bool×Oper)}(h:MO prog ro n lo.toArray 431 S0 Q df lp γ O)(hB:F7 lo.toArray E ord=true:=by kernel_rfl)(hl:IQ lo E ord=some lp:=by exact tdR):DWp prog ro n (.region id lo.toArray true) Q ⟨γ,O,df⟩:=
 OR Ai mixed ord E S0 hB hC hl h
theorem wkR{V':Fr}{U':Sig}(h:TellsR γ V':=by exact tdT)(hZ:Sub U' O:=by exact tdU):Wk P n ⟨γ,O,df⟩ ⟨V',U',df⟩:=L2 h hZ
theorem C1{Sk:Fr}{α:Type}{c:Code}(keep:List Nat)(I:α->Prop)(ov:α->Fr)(sg:α->Sig)(μ:α->Nat)(x0:α)(h0:I x0)
  (round:∀x,I x->DWp P ro n c (Then (fun s'=> ∃x',I x'/\μ x'<μ x/\Wk P n s' ⟨ov x'++Sk,sg x',df⟩) Q) ⟨ov x++Sk,sg x,df⟩) (hk:DP γ keep=some Sk:=by exact tdR) (h1:TellsR γ (ov x0++Sk):=by exact tdT) (h2:Sub (sg x0) O:=by exact tdU):DWp P ro n (.loop c) Q ⟨γ,O,df⟩:=FJ keep I ov sg μ x0 hk h0 h1 h2 round
theorem BX{Sk:Fr}{α β:Type}{c:Code}(keep:List Nat)(I:α->β->Prop)(ov:α->β->Fr)(sg:α->β->Sig)(μ:α->β->Nat)(x0:α)(y0:β)(h0:I x0 y0)
  (round:∀x y,I x y->DWp P ro n c (Then (fun s'=> ∃x' y',I x' y'/\μ x' y'<μ x y/\Wk P n s' ⟨ov x' y'++Sk,sg x' y',df⟩) Q) ⟨ov x y++Sk,sg x y,df⟩) (hk:DP γ keep=some Sk:=by exact tdR) (h1:TellsR γ (ov x0 y0++Sk):=by exact tdT) (h2:Sub (sg x0 y0) O:=by exact tdU):DWp P ro n (.loop c) Q ⟨γ,O,df⟩:=PU keep I ov sg μ x0 y0 hk h0 h1 h2 round
theorem Ga{Sk:Fr}{α β δ:Type}{c:Code}(keep:List Nat)(I:α->β->δ->Prop)(ov:α->β->δ->Fr)(sg:α->β->δ->Sig)(μ:α->β->δ->Nat)(x0:α)(y0:β)(z0:δ)(h0:I x0 y0 z0)
  (round:∀x y z,I x y z->DWp P ro n c (Then (fun s'=> ∃x' y' z',I x' y' z'/\μ x' y' z'<μ x y z/\Wk P n s' ⟨ov x' y' z'++Sk,sg x' y' z',df⟩) Q) ⟨ov x y z++Sk,sg x y z,df⟩) (hk:DP γ keep=some Sk:=by exact tdR) (h1:TellsR γ (ov x0 y0 z0++Sk):=by exact tdT) (h2:Sub (sg x0 y0 z0) O:=by exact tdU):DWp P ro n (.loop c) Q ⟨γ,O,df⟩:=PT keep I ov sg μ x0 y0 z0 hk h0 h1 h2 round
theorem fin{fn:Func}{R:DE->Sig->Prop}{U':Sig}{d:D}(hR:R (.ret d) U')(hZ:Sub U' O:=by exact tdU)(h:resD fn γ=some d:=by exact tdR):Dy P n fn R .ret ⟨γ,O,[]⟩:=OQ hZ h hR
theorem finS{fn:Func}{R:DE->Sig->Prop}{U':Sig}{es:List (List D)}{o:Own}{t:Nat}(hR:R (.ret (.slice es .no)) U')(hZ:Sub U' O:=by exact tdU)(hr:fn.results=#[.tmp t]:=by exact tdR)(h:getD γ t=.slice es o:=by exact As tdR):Dy P n fn R .ret ⟨γ,O,[]⟩:=TD hZ hr h hR
theorem fin1{fn:Func}{R:DE->Sig->Prop}{U':Sig}{t:Nat}{d d':D}(hR:R (.ret d') U')(hZ:Sub U' O:=by exact tdU)(hr:fn.results=#[.tmp t]:=by exact tdR)(hl:γ.lookup t=some d:=by exact tdR)(hw:WkD d d':=by exact tdW):Dy P n fn R .ret ⟨γ,O,[]⟩:=
 ⟨⟨[(t,d')],U',[]⟩,U7 (show Tells γ [(t,d')] from⟨by rw[As hl];exact hw,trivial⟩) hZ,rfl,d',Dp (by simp[resD,hr]),EI hR⟩
theorem fin2{fn:Func}{R:DE->Sig->Prop}{U':Sig}{t u:Nat}{d d' e e':D}(hR:R (.ret (.tup [d',e'])) U')(hZ:Sub U' O:=by exact tdU)(hr:fn.results=#[.tmp t,.tmp u]:=by exact tdR)(hl:γ.lookup t=some d:=by exact tdR)(aI:γ.lookup u=some e:=by exact tdR)(aU:decide (u=t)=false:=by exact tdR)(hw:WkD d d':=by exact tdW)(aS:WkD e e':=by exact tdW):Dy P n fn R .ret ⟨γ,O,[]⟩:=
 ⟨⟨[(t,d'),(u,e')],U',[]⟩,U7 (show Tells γ [(t,d'),(u,e')] from ⟨by rw [As hl];exact hw,by rw [As aI];exact aS,trivial⟩) hZ,rfl, .tup [d',e'],Dp (by
  have:u≠t:=by simpa using aU
  simp[resD,hr,this]),EI hR⟩
theorem fin0{fn:Func}{R:DE->Sig->Prop}{U':Sig}(hR:R (.ret (.tup [])) U')(hZ:Sub U' O:=by exact tdU)(hr:fn.results=#[]:=by exact tdR):Dy P n fn R .ret ⟨γ,O,[]⟩:=OQ hZ (by simp[resD,hr]) hR
theorem EW{fn:Func}{R:DE->Sig->Prop}{U':Sig}(hR:R (.ret (.tup [])) U')(hZ:Sub U' O:=by exact tdU)(hr:fn.results=#[]:=by exact tdR):Dy P n fn R .normal ⟨γ,O,[]⟩:=NM hZ (by simp[resD,hr]) hR
theorem finP{fn:Func}{R:DE->Sig->Prop}{U':Sig}{d:D}(hR:R (.panic d) U')(hZ:Sub U' O:=by exact tdU):Dy P n fn R (.panic d) ⟨γ,O,[]⟩:=TE hZ hR
theorem Eg{c:Code}(t sz:Nat)(h:∀i,O i=none->DWp P ro n c Q ⟨(t,.slice [] (.tag i))::γ,O.set i (.tail sz 0),df⟩)(ht:getD γ t=.nils:=by exact As tdR):DWp P ro n c Q ⟨γ,O,df⟩:=dwp_tag t sz ht h
end
end Go.DL
