/- Part of a proof in texts M01 on: a layer of pure values over the fenced walk, the walks of the functions, the plain laws. -/
import Derived.Test.YtlfimpogphmbdaaGreatM10
import Derived.Test.YtlfimpogphmbdaaGreatM09
import Derived.Test.YtlfimpogphmbdaaGreatM02
import Derived.Test.YtlfimpogphmbdaaGreatProg
import Derived.KernelRfl
import Derived.Test.YtlfimpogphmbdaaGreatM05
set_option linter.all false
namespace Go.DL
open Go.Proofs.Tryz
open Go
section
variable {P:Program} {tab:Nat->Ty} (ht:Bf P tab) {ro:Option Nat} {n:Nat} {ops:Array Oper} {Q:DX->St->Prop} {df:List DDf} {rest:List Oper} {γ:List (Nat × D)} {σ:Sig}
include ht
theorem QD {g:G} {w:World} {T e i off len cap:Nat} {k k':IntKind} {v u u':Value} {hi m:Nat} (hk:(tab T).k = .slice e) (he:A5 (tab e).k=false) (hv:Rep g (.sref i off len cap) v) (hu:Rep g (.int k hi) u) (hu':Rep g (.int k' m) u') (hhi:hi<=m) (hm:m<=cap) :
  ∃ r,(Instr.sliceAt T v none (some u) (some u')).run P w = .ok r w/\Rep g (.sref i off hi m) r:=by
 obtain ⟨b,hb,rfl⟩:=hv
 obtain rfl:=Bm hu
 obtain rfl:=Bm hu'
 refine ⟨_, ?_,Nq (len:=hi) (cap:=m) (off:=off) hb⟩
 have hu:=AW ht hk
 have c1:(0:Int)<=(hi:Int):=by omega
 have c2:(hi:Int)<=(m:Int):=by omega
 have c3:(0:Int)<=(m:Int):=by omega
 have c4:(m:Int)<=(cap:Int):=by omega
 simp only [Option.map_some,Instr.sliceAt,Instr.slice,Instr.sliceBounds,Instr.sliceBound,asIntOf,Sem.run_bind,Sem.run_pure,Result.andThen_ok,A0 hu,c1,c2,c3,c4,and_self,if_true,AV (ht e) (Ah he),Int.toNat_natCast,Nat.sub_zero,Nat.zero_mul]
 congr 1
 split<;>simp [Addr.add]
theorem Qc {t T ty e i off len cap:Nat} {k k':IntKind} {x y z:Operand} {hi m:Nat} {pos:String} {after:Array Edge}
  (h:DOps P ro n ops Q rest ⟨(t, .sref i off hi m)::γ,σ,df⟩)
  (htn:t < n) (hk:(tab T).k = .slice e) (he:A5 (tab e).k=false) (h1:ev γ x = .sref i off len cap) (h2:ev γ y = .int k hi) (h3:ev γ z = .int k' m) (hhi:hi<=m) (hm:m<=cap) :
  DOps P ro n ops Q (⟨some t, .slice T x none (some y) (some z),ty,pos,after,none⟩::rest) ⟨γ,σ,df⟩:=by
 refine DT (fun d σ'=>d = .sref i off hi m/\σ'=σ) rfl (fun c e=>by cases e) (Ac fun c e=>by cases e) (by simp [Av,htn]) ?_
  (fun d σ' ⟨a2,a3⟩=>by subst a2 a3;exact h)
 intro g w a hs hT
 have hx:=Ao hT x
 have hy:=Ao hT y
 have hz:=Ao hT z
 rw [h1] at hx
 rw [h2] at hy
 rw [h3] at hz
 obtain ⟨r,h4,h5⟩:=QD (w:=w) ht hk he hx hy hz hhi hm
 exact ⟨g,w,r,_,σ,by simp only [execOp,Option.map_some,Option.map_none,Sem.run_bind,h4,Result.andThen_ok,Sem.run_pure], .refl g,hs,h5,rfl,rfl⟩
omit ht in
theorem LA {i j c sz:Nat} {es:List (List D)} {r az bs:List D} (hj:σ j=some (.cells (es.flatten++r))) (hi:σ i=some (.cells (az ++ .sref j 0 es.length c::bs))) (hij:i ≠ j) (m3:es.length<=c) (m4 : ∀ e ∈ es,e.length=sz):Wk P n ⟨γ,σ,df⟩ ⟨γ,(σ.del j).set i (.cells (az ++ .slice es .no::bs)),df⟩:=by
 intro g w a hs
 obtain ⟨b,_,_,hb,_,_⟩:=hs.sim.obj j _ hj
 obtain ⟨g',hle,hs',hri⟩:=hs.sim.freeze (i:=j) hj hb
 have hi':(σ.del j) i=some (.cells (az ++ .sref j 0 es.length c::bs)):=by simp only [Sig.del,hij,if_false];exact hi
 simp only at hs'
 refine ⟨g',hle,⟨hs'.retell hi' fun vs=>HU fun v hv => ?_,hs.tmps.mono hle,hs.df.mono hle⟩⟩
 obtain ⟨b',hb',hv⟩:=hv
 obtain rfl:b'=b:=by have:=hle.rho _ _ hb;rw [this] at hb';cases hb';rfl
 exact ⟨_,c,hv,m3, .inr ⟨sz,b',0,rfl,FE m4 hri⟩,trivial⟩
end
end Go.DL
namespace Go.DL
open Go.Proofs.Tryz
open Go Go.Proofs
def tyRows:List (Nat × Ty):=[
 (1,⟨.func,false,1,8,[.nilf]⟩),
 (2,⟨.int .i64,false,1,8,[.int .i64 0]⟩),
 (3,⟨.int .i64,false,1,8,[.int .i64 0]⟩),
 (4,⟨.bool,false,1,1,[.bool false]⟩),
 (5,⟨.int .u8,false,1,1,[.int .u8 0]⟩),
 (6,⟨.int .u8,false,1,1,[.int .u8 0]⟩),
 (7,⟨.struct [(0,2),(1,3),(2,4),(3,6)],true,4,24,[.int .i64 0, .int .i64 0, .bool false, .int .u8 0]⟩),
 (8,⟨.struct [(0,2),(1,3),(2,4),(3,6)],true,4,24,[.int .i64 0, .int .i64 0, .bool false, .int .u8 0]⟩),
 (9,⟨.str,false,1,16,[.str []]⟩),
 (10,⟨.str,false,1,16,[.str []]⟩),
 (11,⟨.str,false,1,16,[.str []]⟩),
 (12,⟨.int .u64,false,1,8,[.int .u64 0]⟩),
 (13,⟨.struct [(0,9),(1,12)],true,2,24,[.str [], .int .u64 0]⟩),
 (14,⟨.struct [(0,9),(1,12)],true,2,24,[.str [], .int .u64 0]⟩),
 (15,⟨.ptr 386,false,1,8,[.nilp]⟩),
 (16,⟨.ptr 389,false,1,8,[.nilp]⟩),
 (17,⟨.ptr 398,false,1,8,[.nilp]⟩),
 (18,⟨.struct [(0,17)],true,1,8,[.nilp]⟩),
 (19,⟨.struct [(0,17)],true,1,8,[.nilp]⟩),
 (20,⟨.iface,false,1,16,[.niliface]⟩),
 (21,⟨.int .i32,false,1,4,[.int .i32 0]⟩),
 (22,⟨.slice 101,false,1,24,[.nils]⟩),
 (23,⟨.slice 3,false,1,24,[.nils]⟩),
 (24,⟨.slice 98,false,1,24,[.nils]⟩),
 (25,⟨.slice 104,false,1,24,[.nils]⟩),
 (26,⟨.struct [(0,22),(1,3),(2,23),(3,24),(4,25),(5,3)],true,6,112,[.nils, .int .i64 0, .nils, .nils, .nils, .int .i64 0]⟩),
 (27,⟨.struct [(0,22),(1,3),(2,23),(3,24),(4,25),(5,3)],true,6,112,[.nils, .int .i64 0, .nils, .nils, .nils, .int .i64 0]⟩),
 (28,⟨.int .i64,false,1,8,[.int .i64 0]⟩),
 (30,⟨.func,false,1,8,[.nilf]⟩),
 (31,⟨.func,false,1,8,[.nilf]⟩),
 (32,⟨.func,false,1,8,[.nilf]⟩),
 (33,⟨.func,false,1,8,[.nilf]⟩),
 (34,⟨.func,false,1,8,[.nilf]⟩),
 (35,⟨.slice 83,false,1,24,[.nils]⟩),
 (36,⟨.slice 90,false,1,24,[.nils]⟩),
 (37,⟨.int .i64,false,1,8,[.int .i64 0]⟩),
 (38,⟨.slice 40,false,1,24,[.nils]⟩),
 (39,⟨.struct [(0,37),(1,3),(2,9),(3,38)],true,4,56,[.int .i64 0, .int .i64 0, .str [], .nils]⟩),
 (40,⟨.struct [(0,37),(1,3),(2,9),(3,38)],true,4,56,[.int .i64 0, .int .i64 0, .str [], .nils]⟩),
 (42,⟨.struct [(0,35),(1,36),(2,40)],true,6,104,[.nils, .nils, .int .i64 0, .int .i64 0, .str [], .nils]⟩),
 (44,⟨.func,false,1,8,[.nilf]⟩),
 (45,⟨.func,false,1,8,[.nilf]⟩),
 (48,⟨.func,false,1,8,[.nilf]⟩),
 (49,⟨.func,false,1,8,[.nilf]⟩),
 (50,⟨.func,false,1,8,[.nilf]⟩),
 (51,⟨.slice 63,false,1,24,[.nils]⟩),
 (53,⟨.func,false,1,8,[.nilf]⟩),
 (54,⟨.func,false,1,8,[.nilf]⟩),
 (55,⟨.func,false,1,8,[.nilf]⟩),
 (56,⟨.func,false,1,8,[.nilf]⟩),
 (57,⟨.slice 23,false,1,24,[.nils]⟩),
 (58,⟨.func,false,1,8,[.nilf]⟩),
 (59,⟨.func,false,1,8,[.nilf]⟩),
 (62,⟨.struct [(0,3),(1,3)],true,2,16,[.int .i64 0, .int .i64 0]⟩),
 (63,⟨.struct [(0,3),(1,3)],true,2,16,[.int .i64 0, .int .i64 0]⟩),
 (65,⟨.func,false,1,8,[.nilf]⟩),
 (68,⟨.struct [(0,57),(1,23)],true,2,48,[.nils, .nils]⟩),
 (69,⟨.struct [(0,57),(1,23)],true,2,48,[.nils, .nils]⟩),
 (73,⟨.func,false,1,8,[.nilf]⟩),
 (75,⟨.func,false,1,8,[.nilf]⟩),
 (76,⟨.func,false,1,8,[.nilf]⟩),
 (79,⟨.func,false,1,8,[.nilf]⟩),
 (80,⟨.slice 9,false,1,24,[.nils]⟩),
 (81,⟨.slice 150,false,1,24,[.nils]⟩),
 (83,⟨.struct [(0,9),(1,80),(2,80),(3,81)],true,4,88,[.str [], .nils, .nils, .nils]⟩),
 (84,⟨.int .i64,false,1,8,[.int .i64 0]⟩),
 (85,⟨.int .i64,false,1,8,[.int .i64 0]⟩),
 (86,⟨.slice 88,false,1,24,[.nils]⟩),
 (87,⟨.struct [(0,85),(1,9),(2,80),(3,9),(4,3),(5,86)],true,6,96,[.int .i64 0, .str [], .nils, .str [], .int .i64 0, .nils]⟩),
 (88,⟨.struct [(0,85),(1,9),(2,80),(3,9),(4,3),(5,86)],true,6,96,[.int .i64 0, .str [], .nils, .str [], .int .i64 0, .nils]⟩),
 (90,⟨.struct [(0,84),(1,9),(2,80),(3,88),(9,40)],true,13,200,[.int .i64 0, .str [], .nils, .int .i64 0, .str [], .nils, .str [], .int .i64 0, .nils, .int .i64 0, .int .i64 0, .str [], .nils]⟩),
 (91,⟨.func,false,1,8,[.nilf]⟩),
 (93,⟨.func,false,1,8,[.nilf]⟩),
 (94,⟨.slice 96,false,1,24,[.nils]⟩),
 (95,⟨.struct [(0,85),(1,3),(2,23),(3,3),(4,3),(5,94)],true,6,80,[.int .i64 0, .int .i64 0, .nils, .int .i64 0, .int .i64 0, .nils]⟩),
 (96,⟨.struct [(0,85),(1,3),(2,23),(3,3),(4,3),(5,94)],true,6,80,[.int .i64 0, .int .i64 0, .nils, .int .i64 0, .int .i64 0, .nils]⟩),
 (97,⟨.struct [(0,84),(1,3),(2,96),(8,3)],true,9,104,[.int .i64 0, .int .i64 0, .int .i64 0, .int .i64 0, .nils, .int .i64 0, .int .i64 0, .nils, .int .i64 0]⟩),
 (98,⟨.struct [(0,84),(1,3),(2,96),(8,3)],true,9,104,[.int .i64 0, .int .i64 0, .int .i64 0, .int .i64 0, .nils, .int .i64 0, .int .i64 0, .nils, .int .i64 0]⟩),
 (101,⟨.struct [(0,23),(1,23),(2,51)],true,3,72,[.nils, .nils, .nils]⟩),
 (102,⟨.func,false,1,8,[.nilf]⟩),
 (103,⟨.struct [(0,37),(1,3),(2,23)],true,3,40,[.int .i64 0, .int .i64 0, .nils]⟩),
 (104,⟨.struct [(0,37),(1,3),(2,23)],true,3,40,[.int .i64 0, .int .i64 0, .nils]⟩),
 (108,⟨.func,false,1,8,[.nilf]⟩),
 (109,⟨.func,false,1,8,[.nilf]⟩),
 (110,⟨.map 3 3,false,1,8,[.nilmap]⟩),
 (111,⟨.func,false,1,8,[.nilf]⟩),
 (112,⟨.func,false,1,8,[.nilf]⟩),
 (116,⟨.func,false,1,8,[.nilf]⟩),
 (117,⟨.array 19 4,true,19,19,[.bool false, .bool false, .bool false, .bool false, .bool false, .bool false, .bool false, .bool false, .bool false, .bool false, .bool false, .bool false, .bool false, .bool false, .bool false, .bool false, .bool false, .bool false, .bool false]⟩),
 (120,⟨.func,false,1,8,[.nilf]⟩),
 (122,⟨.func,false,1,8,[.nilf]⟩),
 (123,⟨.func,false,1,8,[.nilf]⟩),
 (124,⟨.ptr 3,false,1,8,[.nilp]⟩),
 (126,⟨.func,false,1,8,[.nilf]⟩),
 (127,⟨.func,false,1,8,[.nilf]⟩),
 (130,⟨.func,false,1,8,[.nilf]⟩),
 (131,⟨.func,false,1,8,[.nilf]⟩),
 (132,⟨.func,false,1,8,[.nilf]⟩),
 (133,⟨.func,false,1,8,[.nilf]⟩),
 (134,⟨.struct [(0,3),(1,3)],true,2,16,[.int .i64 0, .int .i64 0]⟩),
 (135,⟨.struct [(0,3),(1,3)],true,2,16,[.int .i64 0, .int .i64 0]⟩),
 (138,⟨.iface,false,1,16,[.niliface]⟩),
 (140,⟨.int .i64,false,1,8,[.int .i64 0]⟩),
 (142,⟨.struct [],true,0,0,[]⟩),
 (144,⟨.func,false,1,8,[.nilf]⟩),
 (150,⟨.struct [(0,9),(1,3)],true,2,24,[.str [], .int .i64 0]⟩),
 (151,⟨.func,false,1,8,[.nilf]⟩),
 (153,⟨.func,false,1,8,[.nilf]⟩),
 (156,⟨.func,false,1,8,[.nilf]⟩),
 (157,⟨.ptr 163,false,1,8,[.nilp]⟩),
 (158,⟨.map 9 3,false,1,8,[.nilmap]⟩),
 (161,⟨.func,false,1,8,[.nilf]⟩),
 (162,⟨.struct [(0,27),(6,158),(7,158),(8,158)],true,9,136,[.nils, .int .i64 0, .nils, .nils, .nils, .int .i64 0, .nilmap, .nilmap, .nilmap]⟩),
 (163,⟨.struct [(0,27),(6,158),(7,158),(8,158)],true,9,136,[.nils, .int .i64 0, .nils, .nils, .nils, .int .i64 0, .nilmap, .nilmap, .nilmap]⟩),
 (167,⟨.func,false,1,8,[.nilf]⟩),
 (168,⟨.func,false,1,8,[.nilf]⟩),
 (169,⟨.func,false,1,8,[.nilf]⟩),
 (170,⟨.func,false,1,8,[.nilf]⟩),
 (172,⟨.struct [(0,157),(1,158),(2,3)],true,3,24,[.nilp, .nilmap, .int .i64 0]⟩),
 (174,⟨.func,false,1,8,[.nilf]⟩),
 (178,⟨.func,false,1,8,[.nilf]⟩),
 (179,⟨.ptr 185,false,1,8,[.nilp]⟩),
 (181,⟨.func,false,1,8,[.nilf]⟩),
 (182,⟨.slice 269,false,1,24,[.nils]⟩),
 (183,⟨.map 3 23,false,1,8,[.nilmap]⟩),
 (185,⟨.struct [(0,57),(1,182),(2,183)],true,3,56,[.nils, .nils, .nilmap]⟩),
 (186,⟨.func,false,1,8,[.nilf]⟩),
 (188,⟨.func,false,1,8,[.nilf]⟩),
 (194,⟨.ptr 196,false,1,8,[.nilp]⟩),
 (196,⟨.struct [(0,27),(6,80),(7,80),(8,80)],true,9,184,[.nils, .int .i64 0, .nils, .nils, .nils, .int .i64 0, .nils, .nils, .nils]⟩),
 (202,⟨.ptr 204,false,1,8,[.nilp]⟩),
 (204,⟨.struct [(0,27),(6,80),(7,80),(8,80)],true,9,184,[.nils, .int .i64 0, .nils, .nils, .nils, .int .i64 0, .nils, .nils, .nils]⟩),
 (207,⟨.func,false,1,8,[.nilf]⟩),
 (209,⟨.func,false,1,8,[.nilf]⟩),
 (210,⟨.func,false,1,8,[.nilf]⟩),
 (212,⟨.ptr 214,false,1,8,[.nilp]⟩),
 (214,⟨.struct [(0,202),(1,80),(2,3)],true,3,40,[.nilp, .nils, .int .i64 0]⟩),
 (217,⟨.ptr 218,false,1,8,[.nilp]⟩),
 (218,⟨.struct [(0,27),(6,80),(7,80),(8,80)],true,9,184,[.nils, .int .i64 0, .nils, .nils, .nils, .int .i64 0, .nils, .nils, .nils]⟩),
 (222,⟨.map 3 4,false,1,8,[.nilmap]⟩),
 (225,⟨.func,false,1,8,[.nilf]⟩),
 (230,⟨.func,false,1,8,[.nilf]⟩),
 (232,⟨.func,false,1,8,[.nilf]⟩),
 (234,⟨.func,false,1,8,[.nilf]⟩),
 (236,⟨.struct [],true,0,0,[]⟩),
 (239,⟨.func,false,1,8,[.nilf]⟩),
 (240,⟨.int .u64,false,1,8,[.int .u64 0]⟩),
 (243,⟨.func,false,1,8,[.nilf]⟩),
 (244,⟨.ptr 345,false,1,8,[.nilp]⟩),
 (251,⟨.func,false,1,8,[.nilf]⟩),
 (252,⟨.ptr 256,false,1,8,[.nilp]⟩),
 (253,⟨.map 9 4,false,1,8,[.nilmap]⟩),
 (254,⟨.slice 253,false,1,24,[.nils]⟩),
 (256,⟨.struct [(0,42),(6,158),(7,254),(8,253),(9,3)],true,10,152,[.nils, .nils, .int .i64 0, .int .i64 0, .str [], .nils, .nilmap, .nils, .nilmap, .int .i64 0]⟩),
 (258,⟨.func,false,1,8,[.nilf]⟩),
 (263,⟨.func,false,1,8,[.nilf]⟩),
 (267,⟨.int .u64,false,1,8,[.int .u64 0]⟩),
 (269,⟨.array 1 267,true,1,8,[.int .u64 0]⟩),
 (275,⟨.slice 4,false,1,24,[.nils]⟩),
 (280,⟨.struct [(0,80),(1,80),(2,80)],true,3,72,[.nils, .nils, .nils]⟩),
 (282,⟨.ptr 284,false,1,8,[.nilp]⟩),
 (284,⟨.struct [(0,80),(1,23),(2,4)],true,3,56,[.nils, .nils, .bool false]⟩),
 (285,⟨.func,false,1,8,[.nilf]⟩),
 (289,⟨.func,false,1,8,[.nilf]⟩),
 (295,⟨.int .u32,false,1,4,[.int .u32 0]⟩),
 (304,⟨.struct [],true,0,0,[]⟩),
 (308,⟨.struct [(0,40)],true,4,56,[.int .i64 0, .int .i64 0, .str [], .nils]⟩),
 (309,⟨.func,false,1,8,[.nilf]⟩),
 (310,⟨.func,false,1,8,[.nilf]⟩),
 (316,⟨.struct [(0,88)],true,6,96,[.int .i64 0, .str [], .nils, .str [], .int .i64 0, .nils]⟩),
 (317,⟨.func,false,1,8,[.nilf]⟩),
 (318,⟨.func,false,1,8,[.nilf]⟩),
 (321,⟨.iface,false,1,16,[.niliface]⟩),
 (333,⟨.int .i64,false,1,8,[.int .i64 0]⟩),
 (341,⟨.slice 5,false,1,24,[.nils]⟩),
 (342,⟨.int .u64,false,1,8,[.int .u64 0]⟩),
 (343,⟨.array 63 342,true,63,504,[.int .u64 0, .int .u64 0, .int .u64 0, .int .u64 0, .int .u64 0, .int .u64 0, .int .u64 0, .int .u64 0, .int .u64 0, .int .u64 0, .int .u64 0, .int .u64 0, .int .u64 0, .int .u64 0, .int .u64 0, .int .u64 0, .int .u64 0, .int .u64 0, .int .u64 0, .int .u64 0, .int .u64 0, .int .u64 0, .int .u64 0, .int .u64 0, .int .u64 0, .int .u64 0, .int .u64 0, .int .u64 0, .int .u64 0, .int .u64 0, .int .u64 0, .int .u64 0, .int .u64 0, .int .u64 0, .int .u64 0, .int .u64 0, .int .u64 0, .int .u64 0, .int .u64 0, .int .u64 0, .int .u64 0, .int .u64 0, .int .u64 0, .int .u64 0, .int .u64 0, .int .u64 0, .int .u64 0, .int .u64 0, .int .u64 0, .int .u64 0, .int .u64 0, .int .u64 0, .int .u64 0, .int .u64 0, .int .u64 0, .int .u64 0, .int .u64 0, .int .u64 0, .int .u64 0, .int .u64 0, .int .u64 0, .int .u64 0, .int .u64 0]⟩),
 (345,⟨.struct [(0,69),(2,343)],true,65,552,[.nils, .nils, .int .u64 0, .int .u64 0, .int .u64 0, .int .u64 0, .int .u64 0, .int .u64 0, .int .u64 0, .int .u64 0, .int .u64 0, .int .u64 0, .int .u64 0, .int .u64 0, .int .u64 0, .int .u64 0, .int .u64 0, .int .u64 0, .int .u64 0, .int .u64 0, .int .u64 0, .int .u64 0, .int .u64 0, .int .u64 0, .int .u64 0, .int .u64 0, .int .u64 0, .int .u64 0, .int .u64 0, .int .u64 0, .int .u64 0, .int .u64 0, .int .u64 0, .int .u64 0, .int .u64 0, .int .u64 0, .int .u64 0, .int .u64 0, .int .u64 0, .int .u64 0, .int .u64 0, .int .u64 0, .int .u64 0, .int .u64 0, .int .u64 0, .int .u64 0, .int .u64 0, .int .u64 0, .int .u64 0, .int .u64 0, .int .u64 0, .int .u64 0, .int .u64 0, .int .u64 0, .int .u64 0, .int .u64 0, .int .u64 0, .int .u64 0, .int .u64 0, .int .u64 0, .int .u64 0, .int .u64 0, .int .u64 0, .int .u64 0, .int .u64 0]⟩),
 (354,⟨.func,false,1,8,[.nilf]⟩),
 (355,⟨.func,false,1,8,[.nilf]⟩),
 (356,⟨.slice 321,false,1,24,[.nils]⟩),
 (361,⟨.int .u64,false,1,8,[.int .u64 0]⟩),
 (369,⟨.struct [(0,4),(1,3),(2,3)],true,3,24,[.bool false, .int .i64 0, .int .i64 0]⟩),
 (371,⟨.map 37 369,false,1,8,[.nilmap]⟩),
 (373,⟨.ptr 375,false,1,8,[.nilp]⟩),
 (375,⟨.struct [(0,373),(1,9)],true,2,24,[.nilp, .str []]⟩),
 (377,⟨.func,false,1,8,[.nilf]⟩),
 (379,⟨.ptr 361,false,1,8,[.nilp]⟩),
 (386,⟨.struct [(0,17),(1,17),(2,17),(3,9)],true,4,40,[.nilp, .nilp, .nilp, .str []]⟩),
 (387,⟨.array 0 16,true,0,0,[]⟩),
 (389,⟨.struct [(0,387)],true,0,0,[]⟩),
 (391,⟨.int .u8,false,1,1,[.int .u8 0]⟩),
 (392,⟨.int .u8,false,1,1,[.int .u8 0]⟩),
 (393,⟨.func,false,1,8,[.nilf]⟩),
 (394,⟨.ptr 5,false,1,8,[.nilp]⟩),
 (395,⟨.int .i32,false,1,4,[.int .i32 0]⟩),
 (396,⟨.int .i32,false,1,4,[.int .i32 0]⟩),
 (398,⟨.struct [(0,12),(1,12),(2,295),(3,391),(4,5),(5,5),(6,392),(7,393),(8,394),(9,395),(10,396)],true,11,48,[.int .u64 0, .int .u64 0, .int .u32 0, .int .u8 0, .int .u8 0, .int .u8 0, .int .u8 0, .nilf, .nilp, .int .i32 0, .int .i32 0]⟩)
]
def tab (t:Nat):Ty:=(tyRows.lookup t).getD ⟨.other,false,0,0,[]⟩
theorem Tf:tyRows.all (fun p=>Nm prog p.1 p.2)=true:=by kernel_rfl
theorem JR {α:Type} : ∀ {l:List (Nat × α)} {t:Nat} {x:α},l.lookup t=some x->(t,x) ∈ l
 | (k,y)::l,t,x,h=>by
  simp only [List.lookup] at h
  split at h
  ·rename_i e;cases h;have:=beq_iff_eq.1 e;subst this;simp
  ·exact List.mem_cons_of_mem _ (JR h)
theorem Ad:Bf prog tab:=by
 intro t
 unfold tab
 cases h:tyRows.lookup t with
 | none=>exact trivial
 | some i=>exact LI (List.all_eq_true.1 Tf _ (JR h))
theorem Ak:prog.funcs.size=334:=by kernel_rfl
@[simp] theorem tab1:tab 1=⟨.func,false,1,8,[.nilf]⟩:=rfl
@[simp] theorem tab2:tab 2=⟨.int .i64,false,1,8,[.int .i64 0]⟩:=rfl
@[simp] theorem tab3:tab 3=⟨.int .i64,false,1,8,[.int .i64 0]⟩:=rfl
@[simp] theorem tab4:tab 4=⟨.bool,false,1,1,[.bool false]⟩:=rfl
@[simp] theorem tab5:tab 5=⟨.int .u8,false,1,1,[.int .u8 0]⟩:=rfl
@[simp] theorem tab6:tab 6=⟨.int .u8,false,1,1,[.int .u8 0]⟩:=rfl
@[simp] theorem tab7:tab 7=⟨.struct [(0,2),(1,3),(2,4),(3,6)],true,4,24,[.int .i64 0, .int .i64 0, .bool false, .int .u8 0]⟩:=rfl
@[simp] theorem tab8:tab 8=⟨.struct [(0,2),(1,3),(2,4),(3,6)],true,4,24,[.int .i64 0, .int .i64 0, .bool false, .int .u8 0]⟩:=rfl
@[simp] theorem tab9:tab 9=⟨.str,false,1,16,[.str []]⟩:=rfl
@[simp] theorem tab10:tab 10=⟨.str,false,1,16,[.str []]⟩:=rfl
@[simp] theorem tab11:tab 11=⟨.str,false,1,16,[.str []]⟩:=rfl
@[simp] theorem tab12:tab 12=⟨.int .u64,false,1,8,[.int .u64 0]⟩:=rfl
@[simp] theorem tab13:tab 13=⟨.struct [(0,9),(1,12)],true,2,24,[.str [], .int .u64 0]⟩:=rfl
@[simp] theorem tab14:tab 14=⟨.struct [(0,9),(1,12)],true,2,24,[.str [], .int .u64 0]⟩:=rfl
@[simp] theorem tab15:tab 15=⟨.ptr 386,false,1,8,[.nilp]⟩:=rfl
@[simp] theorem tab16:tab 16=⟨.ptr 389,false,1,8,[.nilp]⟩:=rfl
@[simp] theorem tab17:tab 17=⟨.ptr 398,false,1,8,[.nilp]⟩:=rfl
@[simp] theorem tab18:tab 18=⟨.struct [(0,17)],true,1,8,[.nilp]⟩:=rfl
@[simp] theorem tab19:tab 19=⟨.struct [(0,17)],true,1,8,[.nilp]⟩:=rfl
@[simp] theorem tab20:tab 20=⟨.iface,false,1,16,[.niliface]⟩:=rfl
@[simp] theorem tab21:tab 21=⟨.int .i32,false,1,4,[.int .i32 0]⟩:=rfl
@[simp] theorem tab22:tab 22=⟨.slice 101,false,1,24,[.nils]⟩:=rfl
@[simp] theorem tab23:tab 23=⟨.slice 3,false,1,24,[.nils]⟩:=rfl
@[simp] theorem tab24:tab 24=⟨.slice 98,false,1,24,[.nils]⟩:=rfl
@[simp] theorem tab25:tab 25=⟨.slice 104,false,1,24,[.nils]⟩:=rfl
@[simp] theorem tab26:tab 26=⟨.struct [(0,22),(1,3),(2,23),(3,24),(4,25),(5,3)],true,6,112,[.nils, .int .i64 0, .nils, .nils, .nils, .int .i64 0]⟩:=rfl
@[simp] theorem tab27:tab 27=⟨.struct [(0,22),(1,3),(2,23),(3,24),(4,25),(5,3)],true,6,112,[.nils, .int .i64 0, .nils, .nils, .nils, .int .i64 0]⟩:=rfl
@[simp] theorem tab28:tab 28=⟨.int .i64,false,1,8,[.int .i64 0]⟩:=rfl
@[simp] theorem tab30:tab 30=⟨.func,false,1,8,[.nilf]⟩:=rfl
@[simp] theorem tab31:tab 31=⟨.func,false,1,8,[.nilf]⟩:=rfl
@[simp] theorem tab32:tab 32=⟨.func,false,1,8,[.nilf]⟩:=rfl
@[simp] theorem tab33:tab 33=⟨.func,false,1,8,[.nilf]⟩:=rfl
@[simp] theorem tab34:tab 34=⟨.func,false,1,8,[.nilf]⟩:=rfl
@[simp] theorem tab35:tab 35=⟨.slice 83,false,1,24,[.nils]⟩:=rfl
@[simp] theorem tab36:tab 36=⟨.slice 90,false,1,24,[.nils]⟩:=rfl
@[simp] theorem tab37:tab 37=⟨.int .i64,false,1,8,[.int .i64 0]⟩:=rfl
@[simp] theorem tab38:tab 38=⟨.slice 40,false,1,24,[.nils]⟩:=rfl
@[simp] theorem tab39:tab 39=⟨.struct [(0,37),(1,3),(2,9),(3,38)],true,4,56,[.int .i64 0, .int .i64 0, .str [], .nils]⟩:=rfl
@[simp] theorem tab40:tab 40=⟨.struct [(0,37),(1,3),(2,9),(3,38)],true,4,56,[.int .i64 0, .int .i64 0, .str [], .nils]⟩:=rfl
@[simp] theorem tab42:tab 42=⟨.struct [(0,35),(1,36),(2,40)],true,6,104,[.nils, .nils, .int .i64 0, .int .i64 0, .str [], .nils]⟩:=rfl
@[simp] theorem tab44:tab 44=⟨.func,false,1,8,[.nilf]⟩:=rfl
@[simp] theorem tab45:tab 45=⟨.func,false,1,8,[.nilf]⟩:=rfl
@[simp] theorem tab48:tab 48=⟨.func,false,1,8,[.nilf]⟩:=rfl
@[simp] theorem tab49:tab 49=⟨.func,false,1,8,[.nilf]⟩:=rfl
@[simp] theorem tab50:tab 50=⟨.func,false,1,8,[.nilf]⟩:=rfl
@[simp] theorem tab51:tab 51=⟨.slice 63,false,1,24,[.nils]⟩:=rfl
@[simp] theorem tab53:tab 53=⟨.func,false,1,8,[.nilf]⟩:=rfl
@[simp] theorem tab54:tab 54=⟨.func,false,1,8,[.nilf]⟩:=rfl
@[simp] theorem tab55:tab 55=⟨.func,false,1,8,[.nilf]⟩:=rfl
@[simp] theorem tab56:tab 56=⟨.func,false,1,8,[.nilf]⟩:=rfl
@[simp] theorem tab57:tab 57=⟨.slice 23,false,1,24,[.nils]⟩:=rfl
@[simp] theorem tab58:tab 58=⟨.func,false,1,8,[.nilf]⟩:=rfl
@[simp] theorem tab59:tab 59=⟨.func,false,1,8,[.nilf]⟩:=rfl
@[simp] theorem tab62:tab 62=⟨.struct [(0,3),(1,3)],true,2,16,[.int .i64 0, .int .i64 0]⟩:=rfl
@[simp] theorem tab63:tab 63=⟨.struct [(0,3),(1,3)],true,2,16,[.int .i64 0, .int .i64 0]⟩:=rfl
@[simp] theorem tab65:tab 65=⟨.func,false,1,8,[.nilf]⟩:=rfl
@[simp] theorem tab68:tab 68=⟨.struct [(0,57),(1,23)],true,2,48,[.nils, .nils]⟩:=rfl
@[simp] theorem tab69:tab 69=⟨.struct [(0,57),(1,23)],true,2,48,[.nils, .nils]⟩:=rfl
@[simp] theorem tab73:tab 73=⟨.func,false,1,8,[.nilf]⟩:=rfl
@[simp] theorem tab75:tab 75=⟨.func,false,1,8,[.nilf]⟩:=rfl
@[simp] theorem tab76:tab 76=⟨.func,false,1,8,[.nilf]⟩:=rfl
@[simp] theorem tab79:tab 79=⟨.func,false,1,8,[.nilf]⟩:=rfl
@[simp] theorem tab80:tab 80=⟨.slice 9,false,1,24,[.nils]⟩:=rfl
@[simp] theorem tab81:tab 81=⟨.slice 150,false,1,24,[.nils]⟩:=rfl
@[simp] theorem tab83:tab 83=⟨.struct [(0,9),(1,80),(2,80),(3,81)],true,4,88,[.str [], .nils, .nils, .nils]⟩:=rfl
@[simp] theorem tab84:tab 84=⟨.int .i64,false,1,8,[.int .i64 0]⟩:=rfl
@[simp] theorem tab85:tab 85=⟨.int .i64,false,1,8,[.int .i64 0]⟩:=rfl
@[simp] theorem tab86:tab 86=⟨.slice 88,false,1,24,[.nils]⟩:=rfl
@[simp] theorem tab87:tab 87=⟨.struct [(0,85),(1,9),(2,80),(3,9),(4,3),(5,86)],true,6,96,[.int .i64 0, .str [], .nils, .str [], .int .i64 0, .nils]⟩:=rfl
@[simp] theorem tab88:tab 88=⟨.struct [(0,85),(1,9),(2,80),(3,9),(4,3),(5,86)],true,6,96,[.int .i64 0, .str [], .nils, .str [], .int .i64 0, .nils]⟩:=rfl
@[simp] theorem tab90:tab 90=⟨.struct [(0,84),(1,9),(2,80),(3,88),(9,40)],true,13,200,[.int .i64 0, .str [], .nils, .int .i64 0, .str [], .nils, .str [], .int .i64 0, .nils, .int .i64 0, .int .i64 0, .str [], .nils]⟩:=rfl
@[simp] theorem tab91:tab 91=⟨.func,false,1,8,[.nilf]⟩:=rfl
@[simp] theorem tab93:tab 93=⟨.func,false,1,8,[.nilf]⟩:=rfl
@[simp] theorem tab94:tab 94=⟨.slice 96,false,1,24,[.nils]⟩:=rfl
@[simp] theorem tab95:tab 95=⟨.struct [(0,85),(1,3),(2,23),(3,3),(4,3),(5,94)],true,6,80,[.int .i64 0, .int .i64 0, .nils, .int .i64 0, .int .i64 0, .nils]⟩:=rfl
@[simp] theorem tab96:tab 96=⟨.struct [(0,85),(1,3),(2,23),(3,3),(4,3),(5,94)],true,6,80,[.int .i64 0, .int .i64 0, .nils, .int .i64 0, .int .i64 0, .nils]⟩:=rfl
@[simp] theorem tab97:tab 97=⟨.struct [(0,84),(1,3),(2,96),(8,3)],true,9,104,[.int .i64 0, .int .i64 0, .int .i64 0, .int .i64 0, .nils, .int .i64 0, .int .i64 0, .nils, .int .i64 0]⟩:=rfl
@[simp] theorem tab98:tab 98=⟨.struct [(0,84),(1,3),(2,96),(8,3)],true,9,104,[.int .i64 0, .int .i64 0, .int .i64 0, .int .i64 0, .nils, .int .i64 0, .int .i64 0, .nils, .int .i64 0]⟩:=rfl
@[simp] theorem tab101:tab 101=⟨.struct [(0,23),(1,23),(2,51)],true,3,72,[.nils, .nils, .nils]⟩:=rfl
@[simp] theorem tab102:tab 102=⟨.func,false,1,8,[.nilf]⟩:=rfl
@[simp] theorem tab103:tab 103=⟨.struct [(0,37),(1,3),(2,23)],true,3,40,[.int .i64 0, .int .i64 0, .nils]⟩:=rfl
@[simp] theorem tab104:tab 104=⟨.struct [(0,37),(1,3),(2,23)],true,3,40,[.int .i64 0, .int .i64 0, .nils]⟩:=rfl
@[simp] theorem tab108:tab 108=⟨.func,false,1,8,[.nilf]⟩:=rfl
@[simp] theorem tab109:tab 109=⟨.func,false,1,8,[.nilf]⟩:=rfl
@[simp] theorem tab110:tab 110=⟨.map 3 3,false,1,8,[.nilmap]⟩:=rfl
@[simp] theorem tab111:tab 111=⟨.func,false,1,8,[.nilf]⟩:=rfl
@[simp] theorem tab112:tab 112=⟨.func,false,1,8,[.nilf]⟩:=rfl
@[simp] theorem tab116:tab 116=⟨.func,false,1,8,[.nilf]⟩:=rfl
@[simp] theorem tab117:tab 117=⟨.array 19 4,true,19,19,[.bool false, .bool false, .bool false, .bool false, .bool false, .bool false, .bool false, .bool false, .bool false, .bool false, .bool false, .bool false, .bool false, .bool false, .bool false, .bool false, .bool false, .bool false, .bool false]⟩:=rfl
@[simp] theorem tab120:tab 120=⟨.func,false,1,8,[.nilf]⟩:=rfl
@[simp] theorem tab122:tab 122=⟨.func,false,1,8,[.nilf]⟩:=rfl
@[simp] theorem tab123:tab 123=⟨.func,false,1,8,[.nilf]⟩:=rfl
@[simp] theorem tab124:tab 124=⟨.ptr 3,false,1,8,[.nilp]⟩:=rfl
@[simp] theorem tab126:tab 126=⟨.func,false,1,8,[.nilf]⟩:=rfl
@[simp] theorem tab127:tab 127=⟨.func,false,1,8,[.nilf]⟩:=rfl
@[simp] theorem tab130:tab 130=⟨.func,false,1,8,[.nilf]⟩:=rfl
@[simp] theorem tab131:tab 131=⟨.func,false,1,8,[.nilf]⟩:=rfl
@[simp] theorem tab132:tab 132=⟨.func,false,1,8,[.nilf]⟩:=rfl
@[simp] theorem tab133:tab 133=⟨.func,false,1,8,[.nilf]⟩:=rfl
@[simp] theorem tab134:tab 134=⟨.struct [(0,3),(1,3)],true,2,16,[.int .i64 0, .int .i64 0]⟩:=rfl
@[simp] theorem tab135:tab 135=⟨.struct [(0,3),(1,3)],true,2,16,[.int .i64 0, .int .i64 0]⟩:=rfl
@[simp] theorem tab138:tab 138=⟨.iface,false,1,16,[.niliface]⟩:=rfl
@[simp] theorem tab140:tab 140=⟨.int .i64,false,1,8,[.int .i64 0]⟩:=rfl
@[simp] theorem tab142:tab 142=⟨.struct [],true,0,0,[]⟩:=rfl
@[simp] theorem tab144:tab 144=⟨.func,false,1,8,[.nilf]⟩:=rfl
@[simp] theorem tab150:tab 150=⟨.struct [(0,9),(1,3)],true,2,24,[.str [], .int .i64 0]⟩:=rfl
@[simp] theorem tab151:tab 151=⟨.func,false,1,8,[.nilf]⟩:=rfl
@[simp] theorem tab153:tab 153=⟨.func,false,1,8,[.nilf]⟩:=rfl
@[simp] theorem tab156:tab 156=⟨.func,false,1,8,[.nilf]⟩:=rfl
@[simp] theorem tab157:tab 157=⟨.ptr 163,false,1,8,[.nilp]⟩:=rfl
@[simp] theorem tab158:tab 158=⟨.map 9 3,false,1,8,[.nilmap]⟩:=rfl
@[simp] theorem tab161:tab 161=⟨.func,false,1,8,[.nilf]⟩:=rfl
@[simp] theorem tab162:tab 162=⟨.struct [(0,27),(6,158),(7,158),(8,158)],true,9,136,[.nils, .int .i64 0, .nils, .nils, .nils, .int .i64 0, .nilmap, .nilmap, .nilmap]⟩:=rfl
@[simp] theorem tab163:tab 163=⟨.struct [(0,27),(6,158),(7,158),(8,158)],true,9,136,[.nils, .int .i64 0, .nils, .nils, .nils, .int .i64 0, .nilmap, .nilmap, .nilmap]⟩:=rfl
@[simp] theorem tab167:tab 167=⟨.func,false,1,8,[.nilf]⟩:=rfl
@[simp] theorem tab168:tab 168=⟨.func,false,1,8,[.nilf]⟩:=rfl
@[simp] theorem tab169:tab 169=⟨.func,false,1,8,[.nilf]⟩:=rfl
@[simp] theorem tab170:tab 170=⟨.func,false,1,8,[.nilf]⟩:=rfl
@[simp] theorem tab172:tab 172=⟨.struct [(0,157),(1,158),(2,3)],true,3,24,[.nilp, .nilmap, .int .i64 0]⟩:=rfl
@[simp] theorem tab174:tab 174=⟨.func,false,1,8,[.nilf]⟩:=rfl
@[simp] theorem tab178:tab 178=⟨.func,false,1,8,[.nilf]⟩:=rfl
@[simp] theorem tab179:tab 179=⟨.ptr 185,false,1,8,[.nilp]⟩:=rfl
@[simp] theorem tab181:tab 181=⟨.func,false,1,8,[.nilf]⟩:=rfl
@[simp] theorem tab182:tab 182=⟨.slice 269,false,1,24,[.nils]⟩:=rfl
@[simp] theorem tab183:tab 183=⟨.map 3 23,false,1,8,[.nilmap]⟩:=rfl
@[simp] theorem tab185:tab 185=⟨.struct [(0,57),(1,182),(2,183)],true,3,56,[.nils, .nils, .nilmap]⟩:=rfl
@[simp] theorem tab186:tab 186=⟨.func,false,1,8,[.nilf]⟩:=rfl
@[simp] theorem tab188:tab 188=⟨.func,false,1,8,[.nilf]⟩:=rfl
@[simp] theorem tab194:tab 194=⟨.ptr 196,false,1,8,[.nilp]⟩:=rfl
@[simp] theorem tab196:tab 196=⟨.struct [(0,27),(6,80),(7,80),(8,80)],true,9,184,[.nils, .int .i64 0, .nils, .nils, .nils, .int .i64 0, .nils, .nils, .nils]⟩:=rfl
@[simp] theorem tab202:tab 202=⟨.ptr 204,false,1,8,[.nilp]⟩:=rfl
@[simp] theorem tab204:tab 204=⟨.struct [(0,27),(6,80),(7,80),(8,80)],true,9,184,[.nils, .int .i64 0, .nils, .nils, .nils, .int .i64 0, .nils, .nils, .nils]⟩:=rfl
@[simp] theorem tab207:tab 207=⟨.func,false,1,8,[.nilf]⟩:=rfl
@[simp] theorem tab209:tab 209=⟨.func,false,1,8,[.nilf]⟩:=rfl
@[simp] theorem tab210:tab 210=⟨.func,false,1,8,[.nilf]⟩:=rfl
@[simp] theorem tab212:tab 212=⟨.ptr 214,false,1,8,[.nilp]⟩:=rfl
@[simp] theorem tab214:tab 214=⟨.struct [(0,202),(1,80),(2,3)],true,3,40,[.nilp, .nils, .int .i64 0]⟩:=rfl
@[simp] theorem tab217:tab 217=⟨.ptr 218,false,1,8,[.nilp]⟩:=rfl
@[simp] theorem tab218:tab 218=⟨.struct [(0,27),(6,80),(7,80),(8,80)],true,9,184,[.nils, .int .i64 0, .nils, .nils, .nils, .int .i64 0, .nils, .nils, .nils]⟩:=rfl
@[simp] theorem tab222:tab 222=⟨.map 3 4,false,1,8,[.nilmap]⟩:=rfl
@[simp] theorem tab225:tab 225=⟨.func,false,1,8,[.nilf]⟩:=rfl
@[simp] theorem tab230:tab 230=⟨.func,false,1,8,[.nilf]⟩:=rfl
@[simp] theorem tab232:tab 232=⟨.func,false,1,8,[.nilf]⟩:=rfl
@[simp] theorem tab234:tab 234=⟨.func,false,1,8,[.nilf]⟩:=rfl
@[simp] theorem tab236:tab 236=⟨.struct [],true,0,0,[]⟩:=rfl
@[simp] theorem tab239:tab 239=⟨.func,false,1,8,[.nilf]⟩:=rfl
@[simp] theorem tab240:tab 240=⟨.int .u64,false,1,8,[.int .u64 0]⟩:=rfl
@[simp] theorem tab243:tab 243=⟨.func,false,1,8,[.nilf]⟩:=rfl
@[simp] theorem tab244:tab 244=⟨.ptr 345,false,1,8,[.nilp]⟩:=rfl
@[simp] theorem tab251:tab 251=⟨.func,false,1,8,[.nilf]⟩:=rfl
@[simp] theorem tab252:tab 252=⟨.ptr 256,false,1,8,[.nilp]⟩:=rfl
@[simp] theorem tab253:tab 253=⟨.map 9 4,false,1,8,[.nilmap]⟩:=rfl
@[simp] theorem tab254:tab 254=⟨.slice 253,false,1,24,[.nils]⟩:=rfl
@[simp] theorem tab256:tab 256=⟨.struct [(0,42),(6,158),(7,254),(8,253),(9,3)],true,10,152,[.nils, .nils, .int .i64 0, .int .i64 0, .str [], .nils, .nilmap, .nils, .nilmap, .int .i64 0]⟩:=rfl
@[simp] theorem tab258:tab 258=⟨.func,false,1,8,[.nilf]⟩:=rfl
@[simp] theorem tab263:tab 263=⟨.func,false,1,8,[.nilf]⟩:=rfl
@[simp] theorem tab267:tab 267=⟨.int .u64,false,1,8,[.int .u64 0]⟩:=rfl
@[simp] theorem tab269:tab 269=⟨.array 1 267,true,1,8,[.int .u64 0]⟩:=rfl
@[simp] theorem tab275:tab 275=⟨.slice 4,false,1,24,[.nils]⟩:=rfl
@[simp] theorem tab280:tab 280=⟨.struct [(0,80),(1,80),(2,80)],true,3,72,[.nils, .nils, .nils]⟩:=rfl
@[simp] theorem tab282:tab 282=⟨.ptr 284,false,1,8,[.nilp]⟩:=rfl
@[simp] theorem tab284:tab 284=⟨.struct [(0,80),(1,23),(2,4)],true,3,56,[.nils, .nils, .bool false]⟩:=rfl
@[simp] theorem tab285:tab 285=⟨.func,false,1,8,[.nilf]⟩:=rfl
@[simp] theorem tab289:tab 289=⟨.func,false,1,8,[.nilf]⟩:=rfl
@[simp] theorem tab295:tab 295=⟨.int .u32,false,1,4,[.int .u32 0]⟩:=rfl
@[simp] theorem tab304:tab 304=⟨.struct [],true,0,0,[]⟩:=rfl
@[simp] theorem tab308:tab 308=⟨.struct [(0,40)],true,4,56,[.int .i64 0, .int .i64 0, .str [], .nils]⟩:=rfl
@[simp] theorem tab309:tab 309=⟨.func,false,1,8,[.nilf]⟩:=rfl
@[simp] theorem tab310:tab 310=⟨.func,false,1,8,[.nilf]⟩:=rfl
@[simp] theorem tab316:tab 316=⟨.struct [(0,88)],true,6,96,[.int .i64 0, .str [], .nils, .str [], .int .i64 0, .nils]⟩:=rfl
@[simp] theorem tab317:tab 317=⟨.func,false,1,8,[.nilf]⟩:=rfl
@[simp] theorem tab318:tab 318=⟨.func,false,1,8,[.nilf]⟩:=rfl
@[simp] theorem tab321:tab 321=⟨.iface,false,1,16,[.niliface]⟩:=rfl
@[simp] theorem tab333:tab 333=⟨.int .i64,false,1,8,[.int .i64 0]⟩:=rfl
@[simp] theorem tab341:tab 341=⟨.slice 5,false,1,24,[.nils]⟩:=rfl
@[simp] theorem tab342:tab 342=⟨.int .u64,false,1,8,[.int .u64 0]⟩:=rfl
@[simp] theorem tab343:tab 343=⟨.array 63 342,true,63,504,[.int .u64 0, .int .u64 0, .int .u64 0, .int .u64 0, .int .u64 0, .int .u64 0, .int .u64 0, .int .u64 0, .int .u64 0, .int .u64 0, .int .u64 0, .int .u64 0, .int .u64 0, .int .u64 0, .int .u64 0, .int .u64 0, .int .u64 0, .int .u64 0, .int .u64 0, .int .u64 0, .int .u64 0, .int .u64 0, .int .u64 0, .int .u64 0, .int .u64 0, .int .u64 0, .int .u64 0, .int .u64 0, .int .u64 0, .int .u64 0, .int .u64 0, .int .u64 0, .int .u64 0, .int .u64 0, .int .u64 0, .int .u64 0, .int .u64 0, .int .u64 0, .int .u64 0, .int .u64 0, .int .u64 0, .int .u64 0, .int .u64 0, .int .u64 0, .int .u64 0, .int .u64 0, .int .u64 0, .int .u64 0, .int .u64 0, .int .u64 0, .int .u64 0, .int .u64 0, .int .u64 0, .int .u64 0, .int .u64 0, .int .u64 0, .int .u64 0, .int .u64 0, .int .u64 0, .int .u64 0, .int .u64 0, .int .u64 0, .int .u64 0]⟩:=rfl
@[simp] theorem tab345:tab 345=⟨.struct [(0,69),(2,343)],true,65,552,[.nils, .nils, .int .u64 0, .int .u64 0, .int .u64 0, .int .u64 0, .int .u64 0, .int .u64 0, .int .u64 0, .int .u64 0, .int .u64 0, .int .u64 0, .int .u64 0, .int .u64 0, .int .u64 0, .int .u64 0, .int .u64 0, .int .u64 0, .int .u64 0, .int .u64 0, .int .u64 0, .int .u64 0, .int .u64 0, .int .u64 0, .int .u64 0, .int .u64 0, .int .u64 0, .int .u64 0, .int .u64 0, .int .u64 0, .int .u64 0, .int .u64 0, .int .u64 0, .int .u64 0, .int .u64 0, .int .u64 0, .int .u64 0, .int .u64 0, .int .u64 0, .int .u64 0, .int .u64 0, .int .u64 0, .int .u64 0, .int .u64 0, .int .u64 0, .int .u64 0, .int .u64 0, .int .u64 0, .int .u64 0, .int .u64 0, .int .u64 0, .int .u64 0, .int .u64 0, .int .u64 0, .int .u64 0, .int .u64 0, .int .u64 0, .int .u64 0, .int .u64 0, .int .u64 0, .int .u64 0, .int .u64 0, .int .u64 0, .int .u64 0, .int .u64 0]⟩:=rfl
@[simp] theorem tab354:tab 354=⟨.func,false,1,8,[.nilf]⟩:=rfl
@[simp] theorem tab355:tab 355=⟨.func,false,1,8,[.nilf]⟩:=rfl
@[simp] theorem tab356:tab 356=⟨.slice 321,false,1,24,[.nils]⟩:=rfl
@[simp] theorem tab361:tab 361=⟨.int .u64,false,1,8,[.int .u64 0]⟩:=rfl
@[simp] theorem tab369:tab 369=⟨.struct [(0,4),(1,3),(2,3)],true,3,24,[.bool false, .int .i64 0, .int .i64 0]⟩:=rfl
@[simp] theorem tab371:tab 371=⟨.map 37 369,false,1,8,[.nilmap]⟩:=rfl
@[simp] theorem tab373:tab 373=⟨.ptr 375,false,1,8,[.nilp]⟩:=rfl
@[simp] theorem tab375:tab 375=⟨.struct [(0,373),(1,9)],true,2,24,[.nilp, .str []]⟩:=rfl
@[simp] theorem tab377:tab 377=⟨.func,false,1,8,[.nilf]⟩:=rfl
@[simp] theorem tab379:tab 379=⟨.ptr 361,false,1,8,[.nilp]⟩:=rfl
@[simp] theorem tab386:tab 386=⟨.struct [(0,17),(1,17),(2,17),(3,9)],true,4,40,[.nilp, .nilp, .nilp, .str []]⟩:=rfl
@[simp] theorem tab387:tab 387=⟨.array 0 16,true,0,0,[]⟩:=rfl
@[simp] theorem tab389:tab 389=⟨.struct [(0,387)],true,0,0,[]⟩:=rfl
@[simp] theorem tab391:tab 391=⟨.int .u8,false,1,1,[.int .u8 0]⟩:=rfl
@[simp] theorem tab392:tab 392=⟨.int .u8,false,1,1,[.int .u8 0]⟩:=rfl
@[simp] theorem tab393:tab 393=⟨.func,false,1,8,[.nilf]⟩:=rfl
@[simp] theorem tab394:tab 394=⟨.ptr 5,false,1,8,[.nilp]⟩:=rfl
@[simp] theorem tab395:tab 395=⟨.int .i32,false,1,4,[.int .i32 0]⟩:=rfl
@[simp] theorem tab396:tab 396=⟨.int .i32,false,1,4,[.int .i32 0]⟩:=rfl
@[simp] theorem tab398:tab 398=⟨.struct [(0,12),(1,12),(2,295),(3,391),(4,5),(5,5),(6,392),(7,393),(8,394),(9,395),(10,396)],true,11,48,[.int .u64 0, .int .u64 0, .int .u32 0, .int .u8 0, .int .u8 0, .int .u8 0, .int .u8 0, .nilf, .nilp, .int .i32 0, .int .i32 0]⟩:=rfl
theorem mixed:prog.follows .mixedOrders=true:=by kernel_rfl
abbrev Str:=List UInt8
attribute [simp] w7 w9
theorem big1 {x:Nat} (h:x<=140737488355328):(140737488355328 < x)=False:=by simp;omega
theorem big2 {x:Nat} (h:x<=9223372036854775807):(9223372036854775807 < x)=False:=by simp;omega
@[simp] theorem getElem0 {α:Type} (a:α) (l:List α):(a::l)[0]? = some a:=rfl
abbrev sl (es:List (List D)):D := .slice es .no
abbrev dI (n:Int):D := .int .i64 n
def cS (l:List Str):List (List D):=l.map fun s=>[.str s]
@[simp] theorem cS_len (l:List Str):(cS l).length=l.length:=by simp [cS]
@[simp] theorem cS_get (l:List Str) (i:Nat):(cS l)[i]? = (l[i]?).map fun s=>[.str s]:=by simp [cS]
@[simp] theorem cS_all (l:List Str):(cS l).all (fun c=>c.length==1)=true:=by simp [cS]
@[simp] theorem DN (l:List Str) : ∀ c ∈ cS l,c.length=1:=by simp [cS]
@[simp] theorem cS_flat (l:List Str):(cS l).all CB=true:=by simp [cS]
def cI (l:List Int):List (List D):=l.map fun s=>[.int .i64 s]
@[simp] theorem HK (l:List Int):(cI l).length=l.length:=by simp [cI]
@[simp] theorem cI_get (l:List Int) (i:Nat):(cI l)[i]? = (l[i]?).map fun s=>[.int .i64 s]:=by simp [cI]
@[simp] theorem BR (l:List Int) : ∀ c ∈ cI l,c.length=1:=by simp [cI]
def cII (l:List (List Int)):List (List D):=l.map fun s=>[sl (cI s)]
@[simp] theorem cII_len (l:List (List Int)):(cII l).length=l.length:=by simp [cII]
@[simp] theorem cII_get (l:List (List Int)) (i:Nat):(cII l)[i]? = (l[i]?).map fun s=>[sl (cI s)]:=by simp [cII]
@[simp] theorem cI_all (l:List Int):(cI l).all (fun c=>c.length==1)=true:=by simp [cI]
@[simp] theorem cII_all (l:List (List Int)):(cII l).all (fun c=>c.length==1)=true:=by simp [cII]
@[simp] theorem BA (l:List (List Int)) : ∀ c ∈ cII l,c.length=1:=by simp [cII]
structure Init where
 slot:Int
 n:Int
 deriving DecidableEq
structure BClass where
 parents:List Int
 slots:List Int
 inits:List Init
 deriving DecidableEq
inductive Fact where
 | mk (op arg:Int) (path:List Int) (cls n:Int) (kids:List Fact)
structure BMeth where
 kind:Int
 gen:Int
 fact:Fact
 node:Int
structure BNode where
 op:Int
 n:Int
 kids:List Int
 deriving DecidableEq
structure BProg where
 classes:List BClass
 slots:Int
 gens:List Int
 methods:List BMeth
 nodes:List BNode
 main:Int
inductive FExp where
 | mk (op n:Int) (text:Str) (kids:List FExp)
inductive FFact where
 | mk (op:Int) (name:Str) (path:List Str) (cls:Str) (n:Int) (kids:List FFact)
structure FInit where
 slot:Str
 n:Int
 deriving DecidableEq
structure FClass where
 name:Str
 parents:List Str
 slots:List Str
 inits:List FInit
 deriving DecidableEq
structure FMeth where
 kind:Int
 name:Str
 params:List Str
 fact:FFact
 body:FExp
structure FProg where
 classes:List FClass
 methods:List FMeth
 main:FExp
structure World where
 parents:List (List Int)
 owner:List Int
 deriving DecidableEq
section
def Fact.op:Fact->Int | .mk o _ _ _ _ _=>o
def Fact.arg:Fact->Int | .mk _ a _ _ _ _=>a
def Fact.path:Fact->List Int | .mk _ _ p _ _ _=>p
def Fact.cls:Fact->Int | .mk _ _ _ c _ _=>c
def Fact.n:Fact->Int | .mk _ _ _ _ n _=>n
def Fact.kids:Fact->List Fact | .mk _ _ _ _ _ k=>k
def FExp.op:FExp->Int | .mk o _ _ _=>o
def FExp.n:FExp->Int | .mk _ n _ _=>n
def FExp.text:FExp->Str | .mk _ _ t _=>t
def FExp.kids:FExp->List FExp | .mk _ _ _ k=>k
def FFact.op:FFact->Int | .mk o _ _ _ _ _=>o
def FFact.name:FFact->Str | .mk _ s _ _ _ _=>s
def FFact.path:FFact->List Str | .mk _ _ p _ _ _=>p
def FFact.cls:FFact->Str | .mk _ _ _ c _ _=>c
def FFact.n:FFact->Int | .mk _ _ _ _ n _=>n
def FFact.kids:FFact->List FFact | .mk _ _ _ _ _ k=>k
theorem Fact.lt {f x:Fact} (h:x ∈ f.kids):SizeOf.sizeOf x < SizeOf.sizeOf f:=by
 cases f;simp only [Fact.kids] at h
 have:=List.sizeOf_lt_of_mem h
 simp;omega
theorem FExp.lt {f x:FExp} (h:x ∈ f.kids):SizeOf.sizeOf x < SizeOf.sizeOf f:=by
 cases f;simp only [FExp.kids] at h
 have:=List.sizeOf_lt_of_mem h
 simp;omega
theorem FFact.lt {f x:FFact} (h:x ∈ f.kids):SizeOf.sizeOf x < SizeOf.sizeOf f:=by
 cases f;simp only [FFact.kids] at h
 have:=List.sizeOf_lt_of_mem h
 simp;omega
end
mutual
def Bk:Fact->List D
 | .mk o a p c n k=>[dI o,dI a,sl (cI p),dI c,dI n,sl (MZ k)]
def MZ:List Fact->List (List D)
 | []=>[]
 | f::l=>Bk f::MZ l
end
theorem Ky : ∀ l,MZ l=l.map Bk
 | []=>by rw [MZ];rfl
 | f::l=>by rw [MZ,Ky l];rfl
@[simp] theorem Dn (f:Fact):Bk f=[dI f.op,dI f.arg,sl (cI f.path),dI f.cls,dI f.n,sl (f.kids.map Bk)]:=by
 cases f;rw [Bk,Ky];rfl
mutual
def Bc:FExp->List D
 | .mk o n t k=>[dI o,dI n, .str t,sl (N0 k)]
def N0:List FExp->List (List D)
 | []=>[]
 | f::l=>Bc f::N0 l
end
theorem Kz : ∀ l,N0 l=l.map Bc
 | []=>by rw [N0];rfl
 | f::l=>by rw [N0,Kz l];rfl
@[simp] theorem EJ (f:FExp):Bc f=[dI f.op,dI f.n, .str f.text,sl (f.kids.map Bc)]:=by
 cases f;rw [Bc,Kz];rfl
mutual
def Bv:FFact->List D
 | .mk o s p c n k=>[dI o, .str s,sl (cS p), .str c,dI n,sl (Jg k)]
def Jg:List FFact->List (List D)
 | []=>[]
 | f::l=>Bv f::Jg l
end
theorem Jf : ∀ l,Jg l=l.map Bv
 | []=>by rw [Jg];rfl
 | f::l=>by rw [Jg,Jf l];rfl
@[simp] theorem Cn (f:FFact):Bv f=[dI f.op, .str f.name,sl (cS f.path), .str f.cls,dI f.n,sl (f.kids.map Bv)]:=by
 cases f;rw [Bv,Jf];rfl
@[simp] def Cm (i:Init):List D:=[dI i.slot,dI i.n]
@[simp] def Ae (c:BClass):List D:=[sl (cI c.parents),sl (cI c.slots),sl (c.inits.map Cm)]
@[simp] def As (m:BMeth):List D:=[dI m.kind,dI m.gen]++Bk m.fact++[dI m.node]
@[simp] def Ai (x:BNode):List D:=[dI x.op,dI x.n,sl (cI x.kids)]
@[simp] def Af (p:BProg):List D:=[sl (p.classes.map Ae),dI p.slots,sl (cI p.gens),sl (p.methods.map As),sl (p.nodes.map Ai),dI p.main]
@[simp] def Fy (i:FInit):List D:=[.str i.slot,dI i.n]
@[simp] def Al (c:FClass):List D:=[.str c.name,sl (cS c.parents),sl (cS c.slots),sl (c.inits.map Fy)]
@[simp] def Fx (m:FMeth):List D:=[dI m.kind, .str m.name,sl (cS m.params)]++Bv m.fact++Bc m.body
@[simp] def Da (p:FProg):List D:=[sl (p.classes.map Al),sl (p.methods.map Fx)]++Bc p.main
@[simp] def CE (w:World):List D:=[sl (cII w.parents),sl (cI w.owner)]
theorem A8 {σ:Sig} {i j:Nat} {o:DObj} (h:σ.set i o j=none):j ≠ i/\σ j=none:=by
 by_cases hj:j=i
 ·subst hj;rw [w7] at h;cases h
 ·rw [w8 _ _ hj] at h;exact ⟨hj,h⟩
theorem A1 {α:Type} {l:List α} {k:Nat} (h : ¬ k < l.length):l.drop k=[]:=List.drop_of_length_le (by omega)
theorem A2 {α:Type} {l:List α} {k:Nat} (h:k < l.length):l.drop k=l[k]::l.drop (k+1):=List.drop_eq_getElem_cons h
@[simp] theorem cI_nil:cI []=[]:=rfl
@[simp] theorem cS_nil:cS []=[]:=rfl
@[simp] theorem cII_nil:cII []=[]:=rfl
@[simp] theorem cI_take (l:List Int) (k:Nat):(cI l).take k=cI (l.take k):=by simp [cI]
@[simp] theorem cI_tail (l:List Int):(cI l).tail=cI l.tail:=by simp [cI]
theorem B9 (f:Fact):[dI f.op,dI f.arg,sl (cI f.path),dI f.cls,dI f.n,sl (f.kids.map Bk)]=Bk f:=by simp
theorem Ba (f:FExp):[dI f.op,dI f.n, .str f.text,sl (f.kids.map Bc)]=Bc f:=by simp
theorem AP (f:FFact):[dI f.op, .str f.name,sl (cS f.path), .str f.cls,dI f.n,sl (f.kids.map Bv)]=Bv f:=by simp
theorem B8 (i:Init):[dI i.slot,dI i.n]=Cm i:=rfl
theorem Az (c:BClass):[sl (cI c.parents),sl (cI c.slots),sl (c.inits.map Cm)]=Ae c:=rfl
theorem AS (m:BMeth):[dI m.kind,dI m.gen,dI m.fact.op,dI m.fact.arg,sl (cI m.fact.path),dI m.fact.cls,dI m.fact.n,sl (m.fact.kids.map Bk),dI m.node]=As m:=by simp
theorem AR (x:BNode):[dI x.op,dI x.n,sl (cI x.kids)]=Ai x:=rfl
theorem AQ (p:BProg):[sl (p.classes.map Ae),dI p.slots,sl (cI p.gens),sl (p.methods.map As),sl (p.nodes.map Ai),dI p.main]=Af p:=rfl
theorem AO (i:FInit):[.str i.slot,dI i.n]=Fy i:=rfl
theorem Ay (c:FClass):[.str c.name,sl (cS c.parents),sl (cS c.slots),sl (c.inits.map Fy)]=Al c:=rfl
theorem AN (m:FMeth):dI m.kind :: .str m.name::sl (cS m.params)::dI m.fact.op :: .str m.fact.name::sl (cS m.fact.path) :: .str m.fact.cls::dI m.fact.n::sl (m.fact.kids.map Bv)::Bc m.body=Fx m:=by simp
theorem AM (p:FProg):sl (p.classes.map Al)::sl (p.methods.map Fx)::Bc p.main=Da p:=by simp
theorem AL (w:World):[sl (cII w.parents),sl (cI w.owner)]=CE w:=rfl
def wtL {α:Type} (f:α->Nat):List α->Nat
 | []=>0
 | x::l=>f x+wtL f l
theorem Dv {α:Type} (f:α->Nat) : ∀ (l:List α) (k:Nat) (h:k < l.length),f l[k]<=wtL f l
 | x::l,0,_=>by simp [wtL]
 | x::l,k+1,h=>by
  have:=Dv f l k (by simpa using h)
  simp only [List.getElem_cons_succ,wtL];omega
theorem Du {α:Type} (f:α->Nat) (hf : ∀ x,1<=f x) : ∀ l:List α,l.length<=wtL f l
 | []=>Nat.le_refl _
 | x::l=>by
  have:=Du f hf l
  have:=hf x
  simp only [List.length_cons,wtL];omega
theorem KD {α:Type} (f:α->Nat) : ∀ l m:List α,wtL f (l++m)=wtL f l+wtL f m
 | [],m=>by simp [wtL]
 | x::l,m=>by simp only [List.cons_append,wtL,KD f l m];omega
def wtS:List Str->Nat:=wtL fun s=>1+s.length
mutual
def Fact.wt:Fact->Nat
 | .mk _ _ p _ _ k=>1+p.length+Fact.wts k
def Fact.wts:List Fact->Nat
 | []=>0
 | f::l=>f.wt+Fact.wts l
end
mutual
def FExp.wt:FExp->Nat
 | .mk _ _ t k=>1+t.length+FExp.wts k
def FExp.wts:List FExp->Nat
 | []=>0
 | f::l=>f.wt+FExp.wts l
end
mutual
def FFact.wt:FFact->Nat
 | .mk _ s p c _ k=>1+s.length+wtS p+c.length+FFact.wts k
def FFact.wts:List FFact->Nat
 | []=>0
 | f::l=>f.wt+FFact.wts l
end
theorem Fact.wts_eq : ∀ l,Fact.wts l=wtL Fact.wt l
 | []=>by rw [Fact.wts,wtL]
 | f::l=>by rw [Fact.wts,wtL,Fact.wts_eq l]
theorem FExp.wts_eq : ∀ l,FExp.wts l=wtL FExp.wt l
 | []=>by rw [FExp.wts,wtL]
 | f::l=>by rw [FExp.wts,wtL,FExp.wts_eq l]
theorem FFact.wts_eq : ∀ l,FFact.wts l=wtL FFact.wt l
 | []=>by rw [FFact.wts,wtL]
 | f::l=>by rw [FFact.wts,wtL,FFact.wts_eq l]
theorem Fact.wt_eq (f:Fact):f.wt=1+f.path.length+wtL Fact.wt f.kids:=by cases f;rw [Fact.wt,Fact.wts_eq];rfl
theorem FExp.wt_eq (f:FExp):f.wt=1+f.text.length+wtL FExp.wt f.kids:=by cases f;rw [FExp.wt,FExp.wts_eq];rfl
theorem FFact.wt_eq (f:FFact):f.wt=1+f.name.length+wtS f.path+f.cls.length+wtL FFact.wt f.kids:=by cases f;rw [FFact.wt,FFact.wts_eq];rfl
theorem Fact.wt_pos (f:Fact):1<=f.wt:=by rw [Fact.wt_eq];omega
theorem FExp.wt_pos (f:FExp):1<=f.wt:=by rw [FExp.wt_eq];omega
theorem FFact.wt_pos (f:FFact):1<=f.wt:=by rw [FFact.wt_eq];omega
theorem CL (l:List Str):l.length<=wtS l:=Du _ (fun x=>by omega) l
theorem Nk (l:List Str) (k:Nat) (h:k < l.length):l[k].length < wtS l:=by
 have:=Dv (fun s:Str=>1+s.length) l k h
 unfold wtS;omega
theorem Fact.wt_le (f:Fact):f.path.length < f.wt/\f.kids.length < f.wt /\ ∀ (k:Nat) (h:k < f.kids.length),(f.kids[k]).wt < f.wt:=by
 have h1:=Fact.wt_eq f
 have h2:=Du Fact.wt Fact.wt_pos f.kids
 exact ⟨by omega,by omega,fun k h=>by have:=Dv Fact.wt f.kids k h;omega⟩
theorem FExp.wt_le (f:FExp):f.text.length < f.wt/\f.kids.length < f.wt /\ ∀ (k:Nat) (h:k < f.kids.length),(f.kids[k]).wt < f.wt:=by
 have h1:=FExp.wt_eq f
 have h2:=Du FExp.wt FExp.wt_pos f.kids
 exact ⟨by omega,by omega,fun k h=>by have:=Dv FExp.wt f.kids k h;omega⟩
theorem FFact.wt_le (f:FFact):f.name.length < f.wt/\wtS f.path < f.wt/\f.cls.length < f.wt/\f.kids.length < f.wt /\ ∀ (k:Nat) (h:k < f.kids.length),(f.kids[k]).wt < f.wt:=by
 have h1:=FFact.wt_eq f
 have h2:=Du FFact.wt FFact.wt_pos f.kids
 exact ⟨by omega,by omega,by omega,by omega,fun k h=>by have:=Dv FFact.wt f.kids k h;omega⟩
def BClass.wt (c:BClass):Nat:=1+c.parents.length+c.slots.length+c.inits.length
def BNode.wt (x:BNode):Nat:=1+x.kids.length
def BMeth.wt (m:BMeth):Nat:=1+m.fact.wt
def BProg.wt (p:BProg):Nat:=1+wtL BClass.wt p.classes+p.gens.length+wtL BMeth.wt p.methods+wtL BNode.wt p.nodes
def FInit.wt (i:FInit):Nat:=1+i.slot.length
def FClass.wt (c:FClass):Nat:=1+c.name.length+wtS c.parents+wtS c.slots+wtL FInit.wt c.inits
def FMeth.wt (m:FMeth):Nat:=1+m.name.length+wtS m.params+m.fact.wt+m.body.wt
def FProg.wt (p:FProg):Nat:=1+wtL FClass.wt p.classes+wtL FMeth.wt p.methods+p.main.wt
theorem BProg.wt_le (p:BProg):p.classes.length < p.wt/\p.gens.length < p.wt/\p.methods.length < p.wt/\p.nodes.length < p.wt /\
  (∀ (k:Nat) (h:k < p.classes.length),(p.classes[k]).wt < p.wt)/\(∀ (k:Nat) (h:k < p.methods.length),(p.methods[k]).wt < p.wt) /\ ∀ (k:Nat) (h:k < p.nodes.length),(p.nodes[k]).wt < p.wt:=by
 have h1:=Du BClass.wt (fun x=>by unfold BClass.wt;omega) p.classes
 have h2:=Du BMeth.wt (fun x=>by unfold BMeth.wt;omega) p.methods
 have h3:=Du BNode.wt (fun x=>by unfold BNode.wt;omega) p.nodes
 unfold BProg.wt
 exact ⟨by omega,by omega,by omega,by omega,fun k h=>by have:=Dv BClass.wt p.classes k h;omega,fun k h=>by have:=Dv BMeth.wt p.methods k h;omega,fun k h=>by have:=Dv BNode.wt p.nodes k h;omega⟩
theorem FProg.wt_le (p:FProg):p.classes.length < p.wt/\p.methods.length < p.wt/\p.main.wt < p.wt /\
  (∀ (k:Nat) (h:k < p.classes.length),(p.classes[k]).wt < p.wt)/\(∀ (k:Nat) (h:k < p.methods.length),(p.methods[k]).wt < p.wt):=by
 have h1:=Du FClass.wt (fun x=>by unfold FClass.wt;omega) p.classes
 have h2:=Du FMeth.wt (fun x=>by unfold FMeth.wt;omega) p.methods
 unfold FProg.wt
 exact ⟨by omega,by omega,by omega,fun k h=>by have:=Dv FClass.wt p.classes k h;omega,fun k h=>by have:=Dv FMeth.wt p.methods k h;omega⟩
theorem FClass.wt_le (c:FClass):c.name.length < c.wt/\wtS c.parents < c.wt/\wtS c.slots < c.wt/\c.inits.length < c.wt /\ ∀ (k:Nat) (h:k < c.inits.length),(c.inits[k]).slot.length < c.wt:=by
 have h1:=Du FInit.wt (fun x=>by unfold FInit.wt;omega) c.inits
 unfold FClass.wt
 exact ⟨by omega,by omega,by omega,by omega,fun k h=>by have:=Dv FInit.wt c.inits k h;unfold FInit.wt at this ⊢; omega⟩
end Go.DL
