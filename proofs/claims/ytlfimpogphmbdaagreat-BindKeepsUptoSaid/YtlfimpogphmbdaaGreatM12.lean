/- A part of the proof. -/
import Derived.Test.YtlfimpogphmbdaaGreatM11
import Derived.Test.YtlfimpogphmbdaaGreatM10
import Derived.Test.YtlfimpogphmbdaaGreatM03
import Derived.Test.YtlfimpogphmbdaaGreatProg
import Derived.KernelRfl
import Derived.Test.YtlfimpogphmbdaaGreatM06
import Derived.Test.YtlfimpogphmbdaaGreatM08
import Derived.Shelf.Slices.In.SortAlone
import Derived.Shelf.Slices.In.SortNone
set_option linter.all false
namespace Go.DL
open Go.Proofs.Tryz
open Go
section
variable {P:Program}{tab:Nat->Ty}(ht:B8 P tab){ro:Option Nat}{n:Nat}{ops:Array Oper}{Q:DX->St->Prop}{df:List DDf}{rest:List Oper}{γ:List (Nat×D)}{V:Sig}
include ht
theorem QZ{g:G}{w:World}{T e i off len cap:Nat}{k k':IntKind}{v u u':Value}{hi m:Nat}(hk:(tab T).k=.slice e)(he:A5 (tab e).k=false)(hv:Rep g (.sref i off len cap) v)(hu:Rep g (.int k hi) u)(hu':Rep g (.int k' m) u')(hhi:hi<=m)(hm:m<=cap):
  ∃r,(Instr.sliceAt T v none (some u) (some u')).run P w=.ok r w/\Rep g (.sref i off hi m) r:=by
 obtain⟨b,hb,rfl⟩:=hv;obtain rfl:=Be hu;obtain rfl:=Be hu';refine⟨_,?_,Ns (len:=hi) (cap:=m) (off:=off) hb⟩;have hu:=AQ ht hk;have c1:(0:Int)<=(hi:Int):=by omega
 have c2:(hi:Int)<=(m:Int):=by omega
 have c3:(0:Int)<=(m:Int):=by omega
 have c4:(m:Int)<=(cap:Int):=by omega
 simp only[Option.map_some,Instr.sliceAt,Instr.slice,Instr.sliceBounds,Instr.sliceBound,asIntOf,Sem.run_bind,Sem.run_pure,Result.andThen_ok,A0 hu,c1,c2,c3,c4,and_self,if_true,AP (ht e) (Ag he),Int.toNat_natCast,Nat.sub_zero,Nat.zero_mul]
 congr 1
 split<;>simp[Addr.add]
theorem Qy{t T ty e i off len cap:Nat}{k k':IntKind}{x y z:Operand}{hi m:Nat}{pos:String}{after:Array Edge}
  (h:DOps P ro n ops Q rest ⟨(t,.sref i off hi m)::γ,V,df⟩)
  (htn:t<n) (hk:(tab T).k=.slice e) (he:A5 (tab e).k=false) (h1:ev γ x=.sref i off len cap) (h2:ev γ y=.int k hi) (h3:ev γ z=.int k' m) (hhi:hi<=m) (hm:m<=cap) :
  DOps P ro n ops Q (⟨some t,.slice T x none (some y) (some z),ty,pos,after,none⟩::rest) ⟨γ,V,df⟩:=by
 refine Ds (fun d S'=>d=.sref i off hi m/\S'=V) rfl (fun c e=>by cases e) (Ac fun c e=>by cases e) (by simp[As,htn]) ?_
  (fun d S' ⟨a2,a3⟩=>by subst a2 a3;exact h)
 intro g w a hs hT;have hx:=Ao hT x;have hy:=Ao hT y;have hz:=Ao hT z;rw[h1]at hx;rw[h2]at hy;rw[h3]at hz;obtain⟨r,h4,h5⟩:=QZ (w:=w) ht hk he hx hy hz hhi hm;exact⟨g,w,r,_,V,by simp only[execOp,Option.map_some,Option.map_none,Sem.run_bind,h4,Result.andThen_ok,Sem.run_pure],.refl g,hs,h5,rfl,rfl⟩
omit ht in
theorem Lq{i j c sz:Nat}{es:List (List D)}{r az bs:List D}(hj:V j=some (.cells (es.flatten++r)))(hi:V i=some (.cells (az ++ .sref j 0 es.length c::bs)))(hij:i≠j)(m3:es.length<=c)(m4:∀e∈es,e.length=sz):Wk P n ⟨γ,V,df⟩ ⟨γ,(V.del j).set i (.cells (az ++ .slice es .no::bs)),df⟩:=by
 intro g w a hs;obtain⟨b,_,_,hb,_,_⟩:=hs.sim.obj j _ hj;obtain⟨g',hle,hs',hri⟩:=hs.sim.freeze (i:=j) hj hb;have hi':(V.del j) i=some (.cells (az ++ .sref j 0 es.length c::bs)):=by simp only[Sig.del,hij,if_false];exact hi
 simp only at hs';refine⟨g',hle,⟨hs'.retell hi' fun vs=>Hu fun v hv=>?_,hs.tmps.mono hle,hs.df.mono hle⟩⟩;obtain⟨b',hb',hv⟩:=hv;obtain rfl:b'=b:=by have:=hle.rho _ _ hb;rw[this]at hb';cases hb';rfl
 exact⟨_,c,hv,m3,.inr ⟨sz,b',0,rfl,F5 m4 hri⟩,trivial⟩
end
section
variable (P:Program)(ro:Option Nat)(n:Nat)(ops:Array Oper)(N:Nat)(S0:Sig)(Q:DX->St->Prop)(df:List DDf)(tab:Nat->Ty)
def USt(o:Oper)(γ:Fr)(V:Sig)(K:Fr->Sig->Prop):Prop:=
 (∃(dj:Nat->D) (x:DObj),(∀τ,Eff P ro n ops df γ τ o (fun d' V'=> ∃j,τ j=none/\d'=dj j/\V'=τ.set j x) (fun _ _=>False)) /\ ∀j,V j=none->K (putD o.dst (dj j) γ) (V.set j x)) \/
 (∃(j:Nat) (y x:DObj) (d:D),V j=some y/\S0 j=none/\(∀τ,τ j=some y->Eff P ro n ops df γ τ o (fun d' V'=>d'=d/\V'=τ.set j x) (fun _ _=>False))/\K (putD o.dst d γ) (V.set j x))
def Step3(e u:Bool)(o:Oper)(γ:Fr)(V:Sig)(K:Fr->Sig->Prop):Prop:=
 match isAl o with
 |some (t,T)=> ∀k,V k=none->K ((t,.ptr k 0)::γ) (V.set k (.cells (tab T).zero))
 |none=>(∃d,Calm P n ops N S0 γ o d/\K (putD o.dst d γ) V) \/
  (e=true/\Eff P ro n ops df γ V o (fun d S'=>Sub S0 S'/\K (putD o.dst d γ) S') (fun d S'=> ∀U',Q (.panic d) ⟨U',S',df⟩)) \/
  (u=true/\USt P ro n ops S0 df o γ V K)
def MOps3(E U:List Nat):List Nat->Fr->Sig->Prop
 |[],γ,V=>DOps P ro n ops Q [] ⟨γ,V,df⟩
 |i::r,γ,V=> ∃o,ops[i]? = some o/\Step3 P ro n ops N S0 Q df tab (E.contains i) (U.contains i) o γ V (MOps3 E U r)
end
section
variable {P:Program}{ro:Option Nat}{n:Nat}{ops:Array Oper}{N:Nat}{S0:Sig}{Q:DX->St->Prop}{df:List DDf}{E U:List Nat}{tab:Nat->Ty}
theorem USt.congr{o:Oper}{γ U':Fr}{V:Sig}{K K':Fr->Sig->Prop}(h:USt P ro n ops S0 df o γ V K)(hal:∀t∈o.looksAt ops,getD γ t=getD U' t)(hK:∀d S',K (putD o.dst d γ) S'->K' (putD o.dst d U') S'):USt P ro n ops S0 df o U' V K':=by
 rcases h with⟨dj,x,hE,h⟩|⟨j,y,x,d,hj,h0,hE,h⟩
 ·exact .inl ⟨dj,x,fun τ=>(hE τ).congr hal fun _ _ h=>h,fun j hj=>hK _ _ (h j hj)⟩
 ·exact .inr ⟨j,y,x,d,hj,h0,fun τ hZ=>(hE τ hZ).congr hal fun _ _ h=>h,hK _ _ h⟩
theorem Step3.mono{e u:Bool}{o:Oper}{γ U':Fr}{V:Sig}{K K':Fr->Sig->Prop}(h:Step3 P ro n ops N S0 Q df tab e u o γ V K)(hal:Alike γ U')(hK:∀γ U' V,Alike γ U'->K γ V->K' U' V):Step3 P ro n ops N S0 Q df tab e u o U' V K':=by
 unfold Step3 at h⊢;split at h
 ·exact fun k hk=>hK _ _ _ (hal.put (some _) _) (h k hk)
 ·rcases h with⟨d,h2,h3⟩|⟨h1,h2⟩|⟨h1,h2⟩
  ·exact .inl ⟨d,h2.congr fun t _=>hal t,hK _ _ _ (hal.put _ _) h3⟩
  ·exact .inr (.inl ⟨h1,h2.congr (fun t _=>hal t) fun d S' ⟨h3,h4⟩=>⟨h3,hK _ _ _ (hal.put _ _) h4⟩⟩)
  ·exact .inr (.inr ⟨h1,h2.congr (fun t _=>hal t) fun d S' h4=>hK _ _ _ (hal.put _ _) h4⟩)
theorem MOps3.alike: ∀(l:List Nat) {γ U':Fr}{V:Sig},Alike γ U'->MOps3 P ro n ops N S0 Q df tab E U l γ V->MOps3 P ro n ops N S0 Q df tab E U l U' V
 |[],_,_,_,h,k=>Ch h k
 |i::r,_,_,_,h,⟨o,ho,k⟩=>⟨o,ho,k.mono h fun _ _ _ h' k'=>MOps3.alike r h' k'⟩
end
section
variable (P:Program)(ro:Option Nat)(n:Nat)(ops:Array Oper)(N:Nat)(Q:DX->St->Prop)(df:List DDf)
def MOps4 (E C K:List Nat):List Nat->Sig->Fr->Sig->Prop
  |[],_,γ,V=>DOps P ro n ops Q [] ⟨γ,V,df⟩
  | i::r,S0,γ,V => ∃ o,ops[i]? = some o /\
    ((∃ d,Calm P n ops N (if C.contains i=true then S0 else fun _=>none) γ o d/\MOps4 E C K r S0 (putD o.dst d γ) V) \/
     (E.contains i=true/\Eff P ro n ops df γ V o (fun d S'=> ∃S1,Sub S1 S'/\(K.contains i=false->S1=S0)/\MOps4 E C K r S1 (putD o.dst d γ) S') (fun d S'=> ∀U',Q (.panic d) ⟨U',S',df⟩)))
end
section
variable {P:Program}{ro:Option Nat}{n:Nat}{ops:Array Oper}{N:Nat}{S0:Sig}{Q:DX->St->Prop}{df:List DDf}{E C K:List Nat}{tab:Nat->Ty}
theorem MOps4.alike: ∀(l:List Nat) {S0:Sig}{γ U':Fr}{V:Sig},Alike γ U'->MOps4 P ro n ops N Q df E C K l S0 γ V->MOps4 P ro n ops N Q df E C K l S0 U' V
 |[],_,_,_,_,h,k=>Ch h k
 |i::r,_,_,_,_,h,⟨o,ho,k⟩=>⟨o,ho,(match k with
  |.inl ⟨d,h2,h3⟩=>.inl ⟨d,h2.congr fun t _=>h t,MOps4.alike r (h.put _ _) h3⟩
  |.inr ⟨h1,h2⟩=>.inr ⟨h1,h2.congr (fun t _=>h t) fun d S' ⟨S1,h3,h5,h4⟩=>⟨S1,h3,h5,MOps4.alike r (h.put _ _) h4⟩⟩)⟩
theorem Calm.base{S0 S1:Sig}{γ:Fr}{o:Oper}{d:D}(h:Calm P n ops N S0 γ o d)(hs:Sub S0 S1):Calm P n ops N S1 γ o d:=
 ⟨h.ok,by
  rcases h.run with⟨a,b,c,e⟩|h|⟨a,e⟩
  ·exact .inl ⟨a,b,c,fun V hU=>e V (hs.trans hU)⟩
  ·exact .inr (.inl h)
  ·exact .inr (.inr ⟨a,fun V hU=>e V (hs.trans hU)⟩)⟩
end
end Go.DL
namespace Go.DL
open Go.Proofs.Tryz
open Go Go.Proofs
@[simp] abbrev sT(n:Nat):Ty:=⟨.slice n,false,1,24,[.nils]⟩
@[simp] abbrev pT(n:Nat):Ty:=⟨.ptr n,false,1,8,[.nilp]⟩
@[simp] abbrev iT:Ty:=⟨.int .i64,false,1,8,[.int .i64 0]⟩
@[simp] abbrev fT:Ty:=⟨.func,false,1,8,[.nilf]⟩
def tyRows:List (Nat×Ty):=[
 (1,fT),
 (2,iT),
 (3,iT),
 (4,⟨.bool,false,1,1,[.bool false]⟩),
 (5,⟨.int .u8,false,1,1,[.int .u8 0]⟩),
 (6,⟨.int .u8,false,1,1,[.int .u8 0]⟩),
 (7,⟨.struct [(0,2),(1,3),(2,4),(3,6)],true,4,24,[.int .i64 0,.int .i64 0,.bool false,.int .u8 0]⟩),
 (8,⟨.struct [(0,2),(1,3),(2,4),(3,6)],true,4,24,[.int .i64 0,.int .i64 0,.bool false,.int .u8 0]⟩),
 (9,⟨.str,false,1,16,[.str []]⟩),
 (10,⟨.str,false,1,16,[.str []]⟩),
 (11,⟨.str,false,1,16,[.str []]⟩),
 (12,⟨.int .u64,false,1,8,[.int .u64 0]⟩),
 (13,⟨.struct [(0,9),(1,12)],true,2,24,[.str [],.int .u64 0]⟩),
 (14,⟨.struct [(0,9),(1,12)],true,2,24,[.str [],.int .u64 0]⟩),
 (15,pT 386),
 (16,pT 389),
 (17,pT 398),
 (18,⟨.struct [(0,17)],true,1,8,[.nilp]⟩),
 (19,⟨.struct [(0,17)],true,1,8,[.nilp]⟩),
 (20,⟨.iface,false,1,16,[.niliface]⟩),
 (21,⟨.int .i32,false,1,4,[.int .i32 0]⟩),
 (22,sT 101),
 (23,sT 3),
 (24,sT 98),
 (25,sT 104),
 (26,⟨.struct [(0,22),(1,3),(2,23),(3,24),(4,25),(5,3)],true,6,112,[.nils,.int .i64 0,.nils,.nils,.nils,.int .i64 0]⟩),
 (27,⟨.struct [(0,22),(1,3),(2,23),(3,24),(4,25),(5,3)],true,6,112,[.nils,.int .i64 0,.nils,.nils,.nils,.int .i64 0]⟩),
 (28,iT),
 (30,fT),
 (31,fT),
 (32,fT),
 (33,fT),
 (34,fT),
 (35,sT 83),
 (36,sT 90),
 (37,iT),
 (38,sT 40),
 (39,⟨.struct [(0,37),(1,3),(2,9),(3,38)],true,4,56,[.int .i64 0,.int .i64 0,.str [],.nils]⟩),
 (40,⟨.struct [(0,37),(1,3),(2,9),(3,38)],true,4,56,[.int .i64 0,.int .i64 0,.str [],.nils]⟩),
 (42,⟨.struct [(0,35),(1,36),(2,40)],true,6,104,[.nils,.nils,.int .i64 0,.int .i64 0,.str [],.nils]⟩),
 (44,fT),
 (45,fT),
 (48,fT),
 (49,fT),
 (50,fT),
 (51,sT 63),
 (53,fT),
 (54,fT),
 (55,fT),
 (57,sT 23),
 (62,⟨.struct [(0,3),(1,3)],true,2,16,[.int .i64 0,.int .i64 0]⟩),
 (63,⟨.struct [(0,3),(1,3)],true,2,16,[.int .i64 0,.int .i64 0]⟩),
 (68,⟨.struct [(0,57),(1,23)],true,2,48,[.nils,.nils]⟩),
 (69,⟨.struct [(0,57),(1,23)],true,2,48,[.nils,.nils]⟩),
 (75,fT),
 (80,sT 9),
 (81,sT 150),
 (83,⟨.struct [(0,9),(1,80),(2,80),(3,81)],true,4,88,[.str [],.nils,.nils,.nils]⟩),
 (84,iT),
 (85,iT),
 (86,sT 88),
 (88,⟨.struct [(0,85),(1,9),(2,80),(3,9),(4,3),(5,86)],true,6,96,[.int .i64 0,.str [],.nils,.str [],.int .i64 0,.nils]⟩),
 (90,⟨.struct [(0,84),(1,9),(2,80),(3,88),(9,40)],true,13,200,[.int .i64 0,.str [],.nils,.int .i64 0,.str [],.nils,.str [],.int .i64 0,.nils,.int .i64 0,.int .i64 0,.str [],.nils]⟩),
 (91,fT),
 (94,sT 96),
 (96,⟨.struct [(0,85),(1,3),(2,23),(3,3),(4,3),(5,94)],true,6,80,[.int .i64 0,.int .i64 0,.nils,.int .i64 0,.int .i64 0,.nils]⟩),
 (97,⟨.struct [(0,84),(1,3),(2,96),(8,3)],true,9,104,[.int .i64 0,.int .i64 0,.int .i64 0,.int .i64 0,.nils,.int .i64 0,.int .i64 0,.nils,.int .i64 0]⟩),
 (98,⟨.struct [(0,84),(1,3),(2,96),(8,3)],true,9,104,[.int .i64 0,.int .i64 0,.int .i64 0,.int .i64 0,.nils,.int .i64 0,.int .i64 0,.nils,.int .i64 0]⟩),
 (101,⟨.struct [(0,23),(1,23),(2,51)],true,3,72,[.nils,.nils,.nils]⟩),
 (102,fT),
 (104,⟨.struct [(0,37),(1,3),(2,23)],true,3,40,[.int .i64 0,.int .i64 0,.nils]⟩),
 (109,fT),
 (110,⟨.map 3 3,false,1,8,[.nilmap]⟩),
 (111,fT),
 (112,fT),
 (116,fT),
 (120,fT),
 (122,fT),
 (123,fT),
 (124,pT 3),
 (130,fT),
 (131,fT),
 (132,fT),
 (135,⟨.struct [(0,3),(1,3)],true,2,16,[.int .i64 0,.int .i64 0]⟩),
 (138,⟨.iface,false,1,16,[.niliface]⟩),
 (140,iT),
 (142,⟨.struct [],true,0,0,[]⟩),
 (144,fT),
 (150,⟨.struct [(0,9),(1,3)],true,2,24,[.str [],.int .i64 0]⟩),
 (151,fT),
 (156,fT),
 (157,pT 163),
 (158,⟨.map 9 3,false,1,8,[.nilmap]⟩),
 (161,fT),
 (163,⟨.struct [(0,27),(6,158),(7,158),(8,158)],true,9,136,[.nils,.int .i64 0,.nils,.nils,.nils,.int .i64 0,.nilmap,.nilmap,.nilmap]⟩),
 (167,fT),
 (169,fT),
 (170,fT),
 (172,⟨.struct [(0,157),(1,158),(2,3)],true,3,24,[.nilp,.nilmap,.int .i64 0]⟩),
 (174,fT),
 (178,fT),
 (179,pT 185),
 (181,fT),
 (182,sT 269),
 (183,⟨.map 3 23,false,1,8,[.nilmap]⟩),
 (185,⟨.struct [(0,57),(1,182),(2,183)],true,3,56,[.nils,.nils,.nilmap]⟩),
 (186,fT),
 (202,pT 204),
 (204,⟨.struct [(0,27),(6,80),(7,80),(8,80)],true,9,184,[.nils,.int .i64 0,.nils,.nils,.nils,.int .i64 0,.nils,.nils,.nils]⟩),
 (207,fT),
 (209,fT),
 (210,fT),
 (212,pT 214),
 (214,⟨.struct [(0,202),(1,80),(2,3)],true,3,40,[.nilp,.nils,.int .i64 0]⟩),
 (222,⟨.map 3 4,false,1,8,[.nilmap]⟩),
 (225,fT),
 (230,fT),
 (232,fT),
 (234,fT),
 (236,⟨.struct [],true,0,0,[]⟩),
 (239,fT),
 (240,⟨.int .u64,false,1,8,[.int .u64 0]⟩),
 (243,fT),
 (244,pT 345),
 (251,fT),
 (252,pT 256),
 (253,⟨.map 9 4,false,1,8,[.nilmap]⟩),
 (254,sT 253),
 (256,⟨.struct [(0,42),(6,158),(7,254),(8,253),(9,3)],true,10,152,[.nils,.nils,.int .i64 0,.int .i64 0,.str [],.nils,.nilmap,.nils,.nilmap,.int .i64 0]⟩),
 (258,fT),
 (263,fT),
 (267,⟨.int .u64,false,1,8,[.int .u64 0]⟩),
 (269,⟨.array 1 267,true,1,8,[.int .u64 0]⟩),
 (285,fT),
 (289,fT),
 (295,⟨.int .u32,false,1,4,[.int .u32 0]⟩),
 (304,⟨.struct [],true,0,0,[]⟩),
 (308,⟨.struct [(0,40)],true,4,56,[.int .i64 0,.int .i64 0,.str [],.nils]⟩),
 (309,fT),
 (310,fT),
 (316,⟨.struct [(0,88)],true,6,96,[.int .i64 0,.str [],.nils,.str [],.int .i64 0,.nils]⟩),
 (317,fT),
 (318,fT),
 (321,⟨.iface,false,1,16,[.niliface]⟩),
 (341,sT 5),
 (342,⟨.int .u64,false,1,8,[.int .u64 0]⟩),
 (343,⟨.array 63 342,true,63,504,(List.replicate 63 (.int .u64 0))⟩),
 (345,⟨.struct [(0,69),(2,343)],true,65,552,[.nils,.nils,.int .u64 0,.int .u64 0,.int .u64 0,.int .u64 0,.int .u64 0,.int .u64 0,.int .u64 0,.int .u64 0,.int .u64 0,.int .u64 0,.int .u64 0,.int .u64 0,.int .u64 0,.int .u64 0,.int .u64 0,.int .u64 0,.int .u64 0,.int .u64 0,.int .u64 0,.int .u64 0,.int .u64 0,.int .u64 0,.int .u64 0,.int .u64 0,.int .u64 0,.int .u64 0,.int .u64 0,.int .u64 0,.int .u64 0,.int .u64 0,.int .u64 0,.int .u64 0,.int .u64 0,.int .u64 0,.int .u64 0,.int .u64 0,.int .u64 0,.int .u64 0,.int .u64 0,.int .u64 0,.int .u64 0,.int .u64 0,.int .u64 0,.int .u64 0,.int .u64 0,.int .u64 0,.int .u64 0,.int .u64 0,.int .u64 0,.int .u64 0,.int .u64 0,.int .u64 0,.int .u64 0,.int .u64 0,.int .u64 0,.int .u64 0,.int .u64 0,.int .u64 0,.int .u64 0,.int .u64 0,.int .u64 0,.int .u64 0,.int .u64 0]⟩),
 (354,fT),
 (355,fT),
 (356,sT 321),
 (369,⟨.struct [(0,4),(1,3),(2,3)],true,3,24,[.bool false,.int .i64 0,.int .i64 0]⟩),
 (371,⟨.map 37 369,false,1,8,[.nilmap]⟩),
 (373,pT 375),
 (375,⟨.struct [(0,373),(1,9)],true,2,24,[.nilp,.str []]⟩),
 (377,fT),
 (386,⟨.struct [(0,17),(1,17),(2,17),(3,9)],true,4,40,[.nilp,.nilp,.nilp,.str []]⟩),
 (387,⟨.array 0 16,true,0,0,[]⟩),
 (389,⟨.struct [(0,387)],true,0,0,[]⟩),
 (391,⟨.int .u8,false,1,1,[.int .u8 0]⟩),
 (392,⟨.int .u8,false,1,1,[.int .u8 0]⟩),
 (393,fT),
 (394,pT 5),
 (395,⟨.int .i32,false,1,4,[.int .i32 0]⟩),
 (396,⟨.int .i32,false,1,4,[.int .i32 0]⟩),
 (398,⟨.struct [(0,12),(1,12),(2,295),(3,391),(4,5),(5,5),(6,392),(7,393),(8,394),(9,395),(10,396)],true,11,48,[.int .u64 0,.int .u64 0,.int .u32 0,.int .u8 0,.int .u8 0,.int .u8 0,.int .u8 0,.nilf,.nilp,.int .i32 0,.int .i32 0]⟩)
]
def tab(t:Nat):Ty:=(tyRows.lookup t).getD ⟨.other,false,0,0,[]⟩
theorem TO:tyRows.all (fun p=>Nl prog p.1 p.2)=true:=by kernel_rfl
theorem JF{α:Type}: ∀{l:List (Nat×α)}{t:Nat}{x:α},l.lookup t=some x->(t,x)∈l
 |(k,y)::l,t,x,h=>by
  simp only[List.lookup]at h;split at h
  ·rename_i e;cases h;have:=beq_iff_eq.1 e;subst this;simp
  ·exact List.mem_cons_of_mem _ (JF h)
theorem Ad:B8 prog tab:=by
 intro t;unfold tab;cases h:tyRows.lookup t with
 |none=>exact trivial
 |some i=>exact Lw (List.all_eq_true.1 TO _ (JF h))
theorem Al:prog.funcs.size=334:=by kernel_rfl
@[simp] theorem tab1:tab 1=fT:=rfl
@[simp] theorem tab2:tab 2=iT:=rfl
@[simp] theorem tab3:tab 3=iT:=rfl
@[simp] theorem tab4:tab 4=⟨.bool,false,1,1,[.bool false]⟩:=rfl
@[simp] theorem tab5:tab 5=⟨.int .u8,false,1,1,[.int .u8 0]⟩:=rfl
@[simp] theorem tab6:tab 6=⟨.int .u8,false,1,1,[.int .u8 0]⟩:=rfl
@[simp] theorem tab7:tab 7=⟨.struct [(0,2),(1,3),(2,4),(3,6)],true,4,24,[.int .i64 0,.int .i64 0,.bool false,.int .u8 0]⟩:=rfl
@[simp] theorem tab8:tab 8=⟨.struct [(0,2),(1,3),(2,4),(3,6)],true,4,24,[.int .i64 0,.int .i64 0,.bool false,.int .u8 0]⟩:=rfl
@[simp] theorem tab9:tab 9=⟨.str,false,1,16,[.str []]⟩:=rfl
@[simp] theorem tab10:tab 10=⟨.str,false,1,16,[.str []]⟩:=rfl
@[simp] theorem tab11:tab 11=⟨.str,false,1,16,[.str []]⟩:=rfl
@[simp] theorem tab12:tab 12=⟨.int .u64,false,1,8,[.int .u64 0]⟩:=rfl
@[simp] theorem tab13:tab 13=⟨.struct [(0,9),(1,12)],true,2,24,[.str [],.int .u64 0]⟩:=rfl
@[simp] theorem tab14:tab 14=⟨.struct [(0,9),(1,12)],true,2,24,[.str [],.int .u64 0]⟩:=rfl
@[simp] theorem tab15:tab 15=pT 386:=rfl
@[simp] theorem tab16:tab 16=pT 389:=rfl
@[simp] theorem tab17:tab 17=pT 398:=rfl
@[simp] theorem tab18:tab 18=⟨.struct [(0,17)],true,1,8,[.nilp]⟩:=rfl
@[simp] theorem tab19:tab 19=⟨.struct [(0,17)],true,1,8,[.nilp]⟩:=rfl
@[simp] theorem tab20:tab 20=⟨.iface,false,1,16,[.niliface]⟩:=rfl
@[simp] theorem tab21:tab 21=⟨.int .i32,false,1,4,[.int .i32 0]⟩:=rfl
@[simp] theorem tab22:tab 22=sT 101:=rfl
@[simp] theorem tab23:tab 23=sT 3:=rfl
@[simp] theorem tab24:tab 24=sT 98:=rfl
@[simp] theorem tab25:tab 25=sT 104:=rfl
@[simp] theorem tab26:tab 26=⟨.struct [(0,22),(1,3),(2,23),(3,24),(4,25),(5,3)],true,6,112,[.nils,.int .i64 0,.nils,.nils,.nils,.int .i64 0]⟩:=rfl
@[simp] theorem tab27:tab 27=⟨.struct [(0,22),(1,3),(2,23),(3,24),(4,25),(5,3)],true,6,112,[.nils,.int .i64 0,.nils,.nils,.nils,.int .i64 0]⟩:=rfl
@[simp] theorem tab28:tab 28=iT:=rfl
@[simp] theorem tab30:tab 30=fT:=rfl
@[simp] theorem tab31:tab 31=fT:=rfl
@[simp] theorem tab32:tab 32=fT:=rfl
@[simp] theorem tab33:tab 33=fT:=rfl
@[simp] theorem tab34:tab 34=fT:=rfl
@[simp] theorem tab35:tab 35=sT 83:=rfl
@[simp] theorem tab36:tab 36=sT 90:=rfl
@[simp] theorem tab37:tab 37=iT:=rfl
@[simp] theorem tab38:tab 38=sT 40:=rfl
@[simp] theorem tab39:tab 39=⟨.struct [(0,37),(1,3),(2,9),(3,38)],true,4,56,[.int .i64 0,.int .i64 0,.str [],.nils]⟩:=rfl
@[simp] theorem tab40:tab 40=⟨.struct [(0,37),(1,3),(2,9),(3,38)],true,4,56,[.int .i64 0,.int .i64 0,.str [],.nils]⟩:=rfl
@[simp] theorem tab42:tab 42=⟨.struct [(0,35),(1,36),(2,40)],true,6,104,[.nils,.nils,.int .i64 0,.int .i64 0,.str [],.nils]⟩:=rfl
@[simp] theorem tab44:tab 44=fT:=rfl
@[simp] theorem tab45:tab 45=fT:=rfl
@[simp] theorem tab48:tab 48=fT:=rfl
@[simp] theorem tab49:tab 49=fT:=rfl
@[simp] theorem tab50:tab 50=fT:=rfl
@[simp] theorem tab51:tab 51=sT 63:=rfl
@[simp] theorem tab53:tab 53=fT:=rfl
@[simp] theorem tab54:tab 54=fT:=rfl
@[simp] theorem tab55:tab 55=fT:=rfl
@[simp] theorem tab57:tab 57=sT 23:=rfl
@[simp] theorem tab62:tab 62=⟨.struct [(0,3),(1,3)],true,2,16,[.int .i64 0,.int .i64 0]⟩:=rfl
@[simp] theorem tab63:tab 63=⟨.struct [(0,3),(1,3)],true,2,16,[.int .i64 0,.int .i64 0]⟩:=rfl
@[simp] theorem tab68:tab 68=⟨.struct [(0,57),(1,23)],true,2,48,[.nils,.nils]⟩:=rfl
@[simp] theorem tab69:tab 69=⟨.struct [(0,57),(1,23)],true,2,48,[.nils,.nils]⟩:=rfl
@[simp] theorem tab75:tab 75=fT:=rfl
@[simp] theorem tab80:tab 80=sT 9:=rfl
@[simp] theorem tab81:tab 81=sT 150:=rfl
@[simp] theorem tab83:tab 83=⟨.struct [(0,9),(1,80),(2,80),(3,81)],true,4,88,[.str [],.nils,.nils,.nils]⟩:=rfl
@[simp] theorem tab84:tab 84=iT:=rfl
@[simp] theorem tab85:tab 85=iT:=rfl
@[simp] theorem tab86:tab 86=sT 88:=rfl
@[simp] theorem tab88:tab 88=⟨.struct [(0,85),(1,9),(2,80),(3,9),(4,3),(5,86)],true,6,96,[.int .i64 0,.str [],.nils,.str [],.int .i64 0,.nils]⟩:=rfl
@[simp] theorem tab90:tab 90=⟨.struct [(0,84),(1,9),(2,80),(3,88),(9,40)],true,13,200,[.int .i64 0,.str [],.nils,.int .i64 0,.str [],.nils,.str [],.int .i64 0,.nils,.int .i64 0,.int .i64 0,.str [],.nils]⟩:=rfl
@[simp] theorem tab91:tab 91=fT:=rfl
@[simp] theorem tab94:tab 94=sT 96:=rfl
@[simp] theorem tab96:tab 96=⟨.struct [(0,85),(1,3),(2,23),(3,3),(4,3),(5,94)],true,6,80,[.int .i64 0,.int .i64 0,.nils,.int .i64 0,.int .i64 0,.nils]⟩:=rfl
@[simp] theorem tab97:tab 97=⟨.struct [(0,84),(1,3),(2,96),(8,3)],true,9,104,[.int .i64 0,.int .i64 0,.int .i64 0,.int .i64 0,.nils,.int .i64 0,.int .i64 0,.nils,.int .i64 0]⟩:=rfl
@[simp] theorem tab98:tab 98=⟨.struct [(0,84),(1,3),(2,96),(8,3)],true,9,104,[.int .i64 0,.int .i64 0,.int .i64 0,.int .i64 0,.nils,.int .i64 0,.int .i64 0,.nils,.int .i64 0]⟩:=rfl
@[simp] theorem tab101:tab 101=⟨.struct [(0,23),(1,23),(2,51)],true,3,72,[.nils,.nils,.nils]⟩:=rfl
@[simp] theorem tab102:tab 102=fT:=rfl
@[simp] theorem tab104:tab 104=⟨.struct [(0,37),(1,3),(2,23)],true,3,40,[.int .i64 0,.int .i64 0,.nils]⟩:=rfl
@[simp] theorem tab109:tab 109=fT:=rfl
@[simp] theorem tab110:tab 110=⟨.map 3 3,false,1,8,[.nilmap]⟩:=rfl
@[simp] theorem tab111:tab 111=fT:=rfl
@[simp] theorem tab112:tab 112=fT:=rfl
@[simp] theorem tab116:tab 116=fT:=rfl
@[simp] theorem tab120:tab 120=fT:=rfl
@[simp] theorem tab122:tab 122=fT:=rfl
@[simp] theorem tab123:tab 123=fT:=rfl
@[simp] theorem tab124:tab 124=pT 3:=rfl
@[simp] theorem tab130:tab 130=fT:=rfl
@[simp] theorem tab131:tab 131=fT:=rfl
@[simp] theorem tab132:tab 132=fT:=rfl
@[simp] theorem tab135:tab 135=⟨.struct [(0,3),(1,3)],true,2,16,[.int .i64 0,.int .i64 0]⟩:=rfl
@[simp] theorem tab138:tab 138=⟨.iface,false,1,16,[.niliface]⟩:=rfl
@[simp] theorem tab140:tab 140=iT:=rfl
@[simp] theorem tab142:tab 142=⟨.struct [],true,0,0,[]⟩:=rfl
@[simp] theorem tab144:tab 144=fT:=rfl
@[simp] theorem tab150:tab 150=⟨.struct [(0,9),(1,3)],true,2,24,[.str [],.int .i64 0]⟩:=rfl
@[simp] theorem tab151:tab 151=fT:=rfl
@[simp] theorem tab156:tab 156=fT:=rfl
@[simp] theorem tab157:tab 157=pT 163:=rfl
@[simp] theorem tab158:tab 158=⟨.map 9 3,false,1,8,[.nilmap]⟩:=rfl
@[simp] theorem tab161:tab 161=fT:=rfl
@[simp] theorem tab163:tab 163=⟨.struct [(0,27),(6,158),(7,158),(8,158)],true,9,136,[.nils,.int .i64 0,.nils,.nils,.nils,.int .i64 0,.nilmap,.nilmap,.nilmap]⟩:=rfl
@[simp] theorem tab167:tab 167=fT:=rfl
@[simp] theorem tab169:tab 169=fT:=rfl
@[simp] theorem tab170:tab 170=fT:=rfl
@[simp] theorem tab172:tab 172=⟨.struct [(0,157),(1,158),(2,3)],true,3,24,[.nilp,.nilmap,.int .i64 0]⟩:=rfl
@[simp] theorem tab174:tab 174=fT:=rfl
@[simp] theorem tab178:tab 178=fT:=rfl
@[simp] theorem tab179:tab 179=pT 185:=rfl
@[simp] theorem tab181:tab 181=fT:=rfl
@[simp] theorem tab182:tab 182=sT 269:=rfl
@[simp] theorem tab183:tab 183=⟨.map 3 23,false,1,8,[.nilmap]⟩:=rfl
@[simp] theorem tab185:tab 185=⟨.struct [(0,57),(1,182),(2,183)],true,3,56,[.nils,.nils,.nilmap]⟩:=rfl
@[simp] theorem tab186:tab 186=fT:=rfl
@[simp] theorem tab202:tab 202=pT 204:=rfl
@[simp] theorem tab204:tab 204=⟨.struct [(0,27),(6,80),(7,80),(8,80)],true,9,184,[.nils,.int .i64 0,.nils,.nils,.nils,.int .i64 0,.nils,.nils,.nils]⟩:=rfl
@[simp] theorem tab207:tab 207=fT:=rfl
@[simp] theorem tab209:tab 209=fT:=rfl
@[simp] theorem tab210:tab 210=fT:=rfl
@[simp] theorem tab212:tab 212=pT 214:=rfl
@[simp] theorem tab214:tab 214=⟨.struct [(0,202),(1,80),(2,3)],true,3,40,[.nilp,.nils,.int .i64 0]⟩:=rfl
@[simp] theorem tab222:tab 222=⟨.map 3 4,false,1,8,[.nilmap]⟩:=rfl
@[simp] theorem tab225:tab 225=fT:=rfl
@[simp] theorem tab230:tab 230=fT:=rfl
@[simp] theorem tab232:tab 232=fT:=rfl
@[simp] theorem tab234:tab 234=fT:=rfl
@[simp] theorem tab236:tab 236=⟨.struct [],true,0,0,[]⟩:=rfl
@[simp] theorem tab239:tab 239=fT:=rfl
@[simp] theorem tab240:tab 240=⟨.int .u64,false,1,8,[.int .u64 0]⟩:=rfl
@[simp] theorem tab243:tab 243=fT:=rfl
@[simp] theorem tab244:tab 244=pT 345:=rfl
@[simp] theorem tab251:tab 251=fT:=rfl
@[simp] theorem tab252:tab 252=pT 256:=rfl
@[simp] theorem tab253:tab 253=⟨.map 9 4,false,1,8,[.nilmap]⟩:=rfl
@[simp] theorem tab254:tab 254=sT 253:=rfl
@[simp] theorem tab256:tab 256=⟨.struct [(0,42),(6,158),(7,254),(8,253),(9,3)],true,10,152,[.nils,.nils,.int .i64 0,.int .i64 0,.str [],.nils,.nilmap,.nils,.nilmap,.int .i64 0]⟩:=rfl
@[simp] theorem tab258:tab 258=fT:=rfl
@[simp] theorem tab263:tab 263=fT:=rfl
@[simp] theorem tab267:tab 267=⟨.int .u64,false,1,8,[.int .u64 0]⟩:=rfl
@[simp] theorem tab269:tab 269=⟨.array 1 267,true,1,8,[.int .u64 0]⟩:=rfl
@[simp] theorem tab285:tab 285=fT:=rfl
@[simp] theorem tab289:tab 289=fT:=rfl
@[simp] theorem tab295:tab 295=⟨.int .u32,false,1,4,[.int .u32 0]⟩:=rfl
@[simp] theorem tab304:tab 304=⟨.struct [],true,0,0,[]⟩:=rfl
@[simp] theorem tab308:tab 308=⟨.struct [(0,40)],true,4,56,[.int .i64 0,.int .i64 0,.str [],.nils]⟩:=rfl
@[simp] theorem tab309:tab 309=fT:=rfl
@[simp] theorem tab310:tab 310=fT:=rfl
@[simp] theorem tab316:tab 316=⟨.struct [(0,88)],true,6,96,[.int .i64 0,.str [],.nils,.str [],.int .i64 0,.nils]⟩:=rfl
@[simp] theorem tab317:tab 317=fT:=rfl
@[simp] theorem tab318:tab 318=fT:=rfl
@[simp] theorem tab321:tab 321=⟨.iface,false,1,16,[.niliface]⟩:=rfl
@[simp] theorem tab341:tab 341=sT 5:=rfl
@[simp] theorem tab342:tab 342=⟨.int .u64,false,1,8,[.int .u64 0]⟩:=rfl
@[simp] theorem tab343:tab 343=⟨.array 63 342,true,63,504,(List.replicate 63 (.int .u64 0))⟩:=rfl
@[simp] theorem tab345:tab 345=⟨.struct [(0,69),(2,343)],true,65,552,[.nils,.nils,.int .u64 0,.int .u64 0,.int .u64 0,.int .u64 0,.int .u64 0,.int .u64 0,.int .u64 0,.int .u64 0,.int .u64 0,.int .u64 0,.int .u64 0,.int .u64 0,.int .u64 0,.int .u64 0,.int .u64 0,.int .u64 0,.int .u64 0,.int .u64 0,.int .u64 0,.int .u64 0,.int .u64 0,.int .u64 0,.int .u64 0,.int .u64 0,.int .u64 0,.int .u64 0,.int .u64 0,.int .u64 0,.int .u64 0,.int .u64 0,.int .u64 0,.int .u64 0,.int .u64 0,.int .u64 0,.int .u64 0,.int .u64 0,.int .u64 0,.int .u64 0,.int .u64 0,.int .u64 0,.int .u64 0,.int .u64 0,.int .u64 0,.int .u64 0,.int .u64 0,.int .u64 0,.int .u64 0,.int .u64 0,.int .u64 0,.int .u64 0,.int .u64 0,.int .u64 0,.int .u64 0,.int .u64 0,.int .u64 0,.int .u64 0,.int .u64 0,.int .u64 0,.int .u64 0,.int .u64 0,.int .u64 0,.int .u64 0,.int .u64 0]⟩:=rfl
@[simp] theorem tab354:tab 354=fT:=rfl
@[simp] theorem tab355:tab 355=fT:=rfl
@[simp] theorem tab356:tab 356=sT 321:=rfl
@[simp] theorem tab369:tab 369=⟨.struct [(0,4),(1,3),(2,3)],true,3,24,[.bool false,.int .i64 0,.int .i64 0]⟩:=rfl
@[simp] theorem tab371:tab 371=⟨.map 37 369,false,1,8,[.nilmap]⟩:=rfl
@[simp] theorem tab373:tab 373=pT 375:=rfl
@[simp] theorem tab375:tab 375=⟨.struct [(0,373),(1,9)],true,2,24,[.nilp,.str []]⟩:=rfl
@[simp] theorem tab377:tab 377=fT:=rfl
@[simp] theorem tab386:tab 386=⟨.struct [(0,17),(1,17),(2,17),(3,9)],true,4,40,[.nilp,.nilp,.nilp,.str []]⟩:=rfl
@[simp] theorem tab387:tab 387=⟨.array 0 16,true,0,0,[]⟩:=rfl
@[simp] theorem tab389:tab 389=⟨.struct [(0,387)],true,0,0,[]⟩:=rfl
@[simp] theorem tab391:tab 391=⟨.int .u8,false,1,1,[.int .u8 0]⟩:=rfl
@[simp] theorem tab392:tab 392=⟨.int .u8,false,1,1,[.int .u8 0]⟩:=rfl
@[simp] theorem tab393:tab 393=fT:=rfl
@[simp] theorem tab394:tab 394=pT 5:=rfl
@[simp] theorem tab395:tab 395=⟨.int .i32,false,1,4,[.int .i32 0]⟩:=rfl
@[simp] theorem tab396:tab 396=⟨.int .i32,false,1,4,[.int .i32 0]⟩:=rfl
@[simp] theorem tab398:tab 398=⟨.struct [(0,12),(1,12),(2,295),(3,391),(4,5),(5,5),(6,392),(7,393),(8,394),(9,395),(10,396)],true,11,48,[.int .u64 0,.int .u64 0,.int .u32 0,.int .u8 0,.int .u8 0,.int .u8 0,.int .u8 0,.nilf,.nilp,.int .i32 0,.int .i32 0]⟩:=rfl
theorem mixed:prog.follows .mixedOrders=true:=by kernel_rfl
abbrev Str:=List UInt8
attribute [simp] w7 Sig.set_set
theorem big1{x:Nat}(h:x<=140737488355328):(140737488355328<x)=False:=by simp;omega
theorem big2{x:Nat}(h:x<=9223372036854775807):(9223372036854775807<x)=False:=by simp;omega
@[simp] theorem getElem0{α:Type}(a:α)(l:List α):(a::l)[0]? = some a:=rfl
abbrev sl(es:List (List D)):D:=.slice es .no
abbrev dI(n:Int):D:=.int .i64 n
def cS(l:List Str):List (List D):=l.map fun s=>[.str s]
@[simp] theorem cS_len(l:List Str):(cS l).length=l.length:=by simp[cS]
@[simp] theorem cS_get(l:List Str)(i:Nat):(cS l)[i]? = (l[i]?).map fun s=>[.str s]:=by simp[cS]
@[simp] theorem cS_all(l:List Str):(cS l).all (fun c=>c.length==1)=true:=by simp[cS]
@[simp] theorem Eo(l:List Str): ∀c∈cS l,c.length=1:=by simp[cS]
@[simp] theorem cS_flat(l:List Str):(cS l).all Cp=true:=by simp[cS]
def cI(l:List Int):List (List D):=l.map fun s=>[.int .i64 s]
@[simp] theorem Kn(l:List Int):(cI l).length=l.length:=by simp[cI]
@[simp] theorem cI_get(l:List Int)(i:Nat):(cI l)[i]? = (l[i]?).map fun s=>[.int .i64 s]:=by simp[cI]
@[simp] theorem C4(l:List Int): ∀c∈cI l,c.length=1:=by simp[cI]
def cII(l:List (List Int)):List (List D):=l.map fun s=>[sl (cI s)]
@[simp] theorem cII_len(l:List (List Int)):(cII l).length=l.length:=by simp[cII]
@[simp] theorem cII_get(l:List (List Int))(i:Nat):(cII l)[i]? = (l[i]?).map fun s=>[sl (cI s)]:=by simp[cII]
@[simp] theorem cI_all(l:List Int):(cI l).all (fun c=>c.length==1)=true:=by simp[cI]
@[simp] theorem cII_all(l:List (List Int)):(cII l).all (fun c=>c.length==1)=true:=by simp[cII]
@[simp] theorem CW(l:List (List Int)): ∀c∈cII l,c.length=1:=by simp[cII]
structure Init where
 slot:Int
 n:Int
 deriving DecidableEq
structure BClass where
 parents:List Int
 slots:List Int
 inits:List Init
 deriving DecidableEq
inductive Fact where
 |mk (op arg:Int) (path:List Int) (cls n:Int) (kids:List Fact)
structure BMeth where
 kind:Int
 gen:Int
 fact:Fact
 node:Int
structure BNode where
 op:Int
 n:Int
 kids:List Int
 deriving DecidableEq
structure BProg where
 classes:List BClass
 slots:Int
 gens:List Int
 methods:List BMeth
 nodes:List BNode
 main:Int
inductive FExp where
 |mk (op n:Int) (text:Str) (kids:List FExp)
inductive FFact where
 |mk (op:Int) (name:Str) (path:List Str) (cls:Str) (n:Int) (kids:List FFact)
structure FInit where
 slot:Str
 n:Int
 deriving DecidableEq
structure FClass where
 name:Str
 parents:List Str
 slots:List Str
 inits:List FInit
 deriving DecidableEq
structure FMeth where
 kind:Int
 name:Str
 params:List Str
 fact:FFact
 body:FExp
structure FProg where
 classes:List FClass
 methods:List FMeth
 main:FExp
structure World where
 parents:List (List Int)
 owner:List Int
 deriving DecidableEq
section
def Fact.op:Fact->Int|.mk o _ _ _ _ _=>o
def Fact.arg:Fact->Int|.mk _ a _ _ _ _=>a
def Fact.path:Fact->List Int|.mk _ _ p _ _ _=>p
def Fact.cls:Fact->Int|.mk _ _ _ c _ _=>c
def Fact.n:Fact->Int|.mk _ _ _ _ n _=>n
def Fact.kids:Fact->List Fact|.mk _ _ _ _ _ k=>k
def FExp.op:FExp->Int|.mk o _ _ _=>o
def FExp.n:FExp->Int|.mk _ n _ _=>n
def FExp.text:FExp->Str|.mk _ _ t _=>t
def FExp.kids:FExp->List FExp|.mk _ _ _ k=>k
def FFact.op:FFact->Int|.mk o _ _ _ _ _=>o
def FFact.name:FFact->Str|.mk _ s _ _ _ _=>s
def FFact.path:FFact->List Str|.mk _ _ p _ _ _=>p
def FFact.cls:FFact->Str|.mk _ _ _ c _ _=>c
def FFact.n:FFact->Int|.mk _ _ _ _ n _=>n
def FFact.kids:FFact->List FFact|.mk _ _ _ _ _ k=>k
theorem Fact.lt{f x:Fact}(h:x∈f.kids):SizeOf.sizeOf x<SizeOf.sizeOf f:=by
 cases f;simp only[Fact.kids]at h;have:=List.sizeOf_lt_of_mem h;simp;omega
theorem FExp.lt{f x:FExp}(h:x∈f.kids):SizeOf.sizeOf x<SizeOf.sizeOf f:=by
 cases f;simp only[FExp.kids]at h;have:=List.sizeOf_lt_of_mem h;simp;omega
theorem FFact.lt{f x:FFact}(h:x∈f.kids):SizeOf.sizeOf x<SizeOf.sizeOf f:=by
 cases f;simp only[FFact.kids]at h;have:=List.sizeOf_lt_of_mem h;simp;omega
end
mutual
def Ba:Fact->List D
 |.mk o a p c n k=>[dI o,dI a,sl (cI p),dI c,dI n,sl (N1 k)]
def N1:List Fact->List (List D)
 |[]=>[]
 |f::l=>Ba f::N1 l
end
theorem Ko: ∀l,N1 l=l.map Ba
 |[]=>by rw[N1];rfl
 |f::l=>by rw[N1,Ko l];rfl
@[simp] theorem D8(f:Fact):Ba f=[dI f.op,dI f.arg,sl (cI f.path),dI f.cls,dI f.n,sl (f.kids.map Ba)]:=by
 cases f;rw[Ba,Ko];rfl
mutual
def AO:FExp->List D
 |.mk o n t k=>[dI o,dI n,.str t,sl (N2 k)]
def N2:List FExp->List (List D)
 |[]=>[]
 |f::l=>AO f::N2 l
end
theorem Kp: ∀l,N2 l=l.map AO
 |[]=>by rw[N2];rfl
 |f::l=>by rw[N2,Kp l];rfl
@[simp] theorem Ee(f:FExp):AO f=[dI f.op,dI f.n,.str f.text,sl (f.kids.map AO)]:=by
 cases f;rw[AO,Kp];rfl
mutual
def AV:FFact->List D
 |.mk o s p c n k=>[dI o,.str s,sl (cS p),.str c,dI n,sl (J4 k)]
def J4:List FFact->List (List D)
 |[]=>[]
 |f::l=>AV f::J4 l
end
theorem J3: ∀l,J4 l=l.map AV
 |[]=>by rw[J4];rfl
 |f::l=>by rw[J4,J3 l];rfl
@[simp] theorem C5(f:FFact):AV f=[dI f.op,.str f.name,sl (cS f.path),.str f.cls,dI f.n,sl (f.kids.map AV)]:=by
 cases f;rw[AV,J3];rfl
@[simp] def CP(i:Init):List D:=[dI i.slot,dI i.n]
@[simp] def cBClass(c:BClass):List D:=[sl (cI c.parents),sl (cI c.slots),sl (c.inits.map CP)]
@[simp] def Ak(m:BMeth):List D:=[dI m.kind,dI m.gen]++Ba m.fact++[dI m.node]
@[simp] def Af(x:BNode):List D:=[dI x.op,dI x.n,sl (cI x.kids)]
@[simp] def Am(p:BProg):List D:=[sl (p.classes.map cBClass),dI p.slots,sl (cI p.gens),sl (p.methods.map Ak),sl (p.nodes.map Af),dI p.main]
@[simp] def D1(i:FInit):List D:=[.str i.slot,dI i.n]
@[simp] def cFClass(c:FClass):List D:=[.str c.name,sl (cS c.parents),sl (cS c.slots),sl (c.inits.map D1)]
@[simp] def D0(m:FMeth):List D:=[dI m.kind,.str m.name,sl (cS m.params)]++AV m.fact++AO m.body
@[simp] def BA(p:FProg):List D:=[sl (p.classes.map cFClass),sl (p.methods.map D0)]++AO p.main
@[simp] def Hl(w:World):List D:=[sl (cII w.parents),sl (cI w.owner)]
theorem Aa{V:Sig}{i j:Nat}{o:DObj}(h:V.set i o j=none):j≠i/\V j=none:=by
 by_cases hj:j=i
 ·subst hj;rw[w7]at h;cases h
 ·rw[w8 _ _ hj]at h;exact⟨hj,h⟩
theorem A2{α:Type}{l:List α}{k:Nat}(h:¬k<l.length):l.drop k=[]:=List.drop_of_length_le (by omega)
theorem A3{α:Type}{l:List α}{k:Nat}(h:k<l.length):l.drop k=l[k]::l.drop (k+1):=List.drop_eq_getElem_cons h
@[simp] theorem cI_nil:cI []=[]:=rfl
@[simp] theorem cS_nil:cS []=[]:=rfl
@[simp] theorem cII_nil:cII []=[]:=rfl
@[simp] theorem cI_take(l:List Int)(k:Nat):(cI l).take k=cI (l.take k):=by simp[cI]
@[simp] theorem cI_tail(l:List Int):(cI l).tail=cI l.tail:=by simp[cI]
theorem B1(f:Fact):[dI f.op,dI f.arg,sl (cI f.path),dI f.cls,dI f.n,sl (f.kids.map Ba)]=Ba f:=by simp
theorem B2(f:FExp):[dI f.op,dI f.n,.str f.text,sl (f.kids.map AO)]=AO f:=by simp
theorem AJ(f:FFact):[dI f.op,.str f.name,sl (cS f.path),.str f.cls,dI f.n,sl (f.kids.map AV)]=AV f:=by simp
theorem B0(i:Init):[dI i.slot,dI i.n]=CP i:=rfl
theorem Ay(c:BClass):[sl (cI c.parents),sl (cI c.slots),sl (c.inits.map CP)]=cBClass c:=rfl
theorem AM(m:BMeth):[dI m.kind,dI m.gen,dI m.fact.op,dI m.fact.arg,sl (cI m.fact.path),dI m.fact.cls,dI m.fact.n,sl (m.fact.kids.map Ba),dI m.node]=Ak m:=by simp
theorem AL(x:BNode):[dI x.op,dI x.n,sl (cI x.kids)]=Af x:=rfl
theorem AK(p:BProg):[sl (p.classes.map cBClass),dI p.slots,sl (cI p.gens),sl (p.methods.map Ak),sl (p.nodes.map Af),dI p.main]=Am p:=rfl
theorem AI(i:FInit):[.str i.slot,dI i.n]=D1 i:=rfl
theorem Ax(c:FClass):[.str c.name,sl (cS c.parents),sl (cS c.slots),sl (c.inits.map D1)]=cFClass c:=rfl
theorem AH(m:FMeth):dI m.kind :: .str m.name::sl (cS m.params)::dI m.fact.op :: .str m.fact.name::sl (cS m.fact.path) :: .str m.fact.cls::dI m.fact.n::sl (m.fact.kids.map AV)::AO m.body=D0 m:=by simp
theorem AG(p:FProg):sl (p.classes.map cFClass)::sl (p.methods.map D0)::AO p.main=BA p:=by simp
theorem AF(w:World):[sl (cII w.parents),sl (cI w.owner)]=Hl w:=rfl
def wtL{α:Type}(f:α->Nat):List α->Nat
 |[]=>0
 |x::l=>f x+wtL f l
theorem Dd{α:Type}(f:α->Nat): ∀(l:List α) (k:Nat) (h:k<l.length),f l[k]<=wtL f l
 |x::l,0,_=>by simp[wtL]
 |x::l,k+1,h=>by
  have:=Dd f l k (by simpa using h);simp only[List.getElem_cons_succ,wtL];omega
theorem CQ{α:Type}(f:α->Nat)(hf:∀x,1<=f x): ∀l:List α,l.length<=wtL f l
 |[]=>Nat.le_refl _
 |x::l=>by
  have:=CQ f hf l;have:=hf x;simp only[List.length_cons,wtL];omega
theorem Fy{α:Type}(f:α->Nat): ∀l m:List α,wtL f (l++m)=wtL f l+wtL f m
 |[],m=>by simp[wtL]
 |x::l,m=>by simp only[List.cons_append,wtL,Fy f l m];omega
def wtS:List Str->Nat:=wtL fun s=>1+s.length
mutual
def Fact.wt:Fact->Nat
 |.mk _ _ p _ _ k=>1+p.length+Fact.wts k
def Fact.wts:List Fact->Nat
 |[]=>0
 |f::l=>f.wt+Fact.wts l
end
mutual
def FExp.wt:FExp->Nat
 |.mk _ _ t k=>1+t.length+FExp.wts k
def FExp.wts:List FExp->Nat
 |[]=>0
 |f::l=>f.wt+FExp.wts l
end
mutual
def FFact.wt:FFact->Nat
 |.mk _ s p c _ k=>1+s.length+wtS p+c.length+FFact.wts k
def FFact.wts:List FFact->Nat
 |[]=>0
 |f::l=>f.wt+FFact.wts l
end
theorem Fact.wts_eq: ∀l,Fact.wts l=wtL Fact.wt l
 |[]=>by rw[Fact.wts,wtL]
 |f::l=>by rw[Fact.wts,wtL,Fact.wts_eq l]
theorem FExp.wts_eq: ∀l,FExp.wts l=wtL FExp.wt l
 |[]=>by rw[FExp.wts,wtL]
 |f::l=>by rw[FExp.wts,wtL,FExp.wts_eq l]
theorem FFact.wts_eq: ∀l,FFact.wts l=wtL FFact.wt l
 |[]=>by rw[FFact.wts,wtL]
 |f::l=>by rw[FFact.wts,wtL,FFact.wts_eq l]
theorem Fact.wt_eq(f:Fact):f.wt=1+f.path.length+wtL Fact.wt f.kids:=by cases f;rw[Fact.wt,Fact.wts_eq];rfl
theorem FExp.wt_eq(f:FExp):f.wt=1+f.text.length+wtL FExp.wt f.kids:=by cases f;rw[FExp.wt,FExp.wts_eq];rfl
theorem FFact.wt_eq(f:FFact):f.wt=1+f.name.length+wtS f.path+f.cls.length+wtL FFact.wt f.kids:=by cases f;rw[FFact.wt,FFact.wts_eq];rfl
theorem Fact.wt_pos(f:Fact):1<=f.wt:=by rw[Fact.wt_eq];omega
theorem FExp.wt_pos(f:FExp):1<=f.wt:=by rw[FExp.wt_eq];omega
theorem FFact.wt_pos(f:FFact):1<=f.wt:=by rw[FFact.wt_eq];omega
theorem Bk(l:List Str):l.length<=wtS l:=CQ _ (fun x=>by omega) l
theorem Nj(l:List Str)(k:Nat)(h:k<l.length):l[k].length<wtS l:=by
 have:=Dd (fun s:Str=>1+s.length) l k h;unfold wtS;omega
theorem Fact.wt_le(f:Fact):f.path.length<f.wt/\f.kids.length<f.wt /\ ∀(k:Nat) (h:k<f.kids.length),(f.kids[k]).wt<f.wt:=by
 have h1:=Fact.wt_eq f;have h2:=CQ Fact.wt Fact.wt_pos f.kids;exact⟨by omega,by omega,fun k h=>by have:=Dd Fact.wt f.kids k h;omega⟩
theorem FExp.wt_le(f:FExp):f.text.length<f.wt/\f.kids.length<f.wt /\ ∀(k:Nat) (h:k<f.kids.length),(f.kids[k]).wt<f.wt:=by
 have h1:=FExp.wt_eq f;have h2:=CQ FExp.wt FExp.wt_pos f.kids;exact⟨by omega,by omega,fun k h=>by have:=Dd FExp.wt f.kids k h;omega⟩
theorem FFact.wt_le(f:FFact):f.name.length<f.wt/\wtS f.path<f.wt/\f.cls.length<f.wt/\f.kids.length<f.wt /\ ∀(k:Nat) (h:k<f.kids.length),(f.kids[k]).wt<f.wt:=by
 have h1:=FFact.wt_eq f;have h2:=CQ FFact.wt FFact.wt_pos f.kids;exact⟨by omega,by omega,by omega,by omega,fun k h=>by have:=Dd FFact.wt f.kids k h;omega⟩
def BClass.wt(c:BClass):Nat:=1+c.parents.length+c.slots.length+c.inits.length
def BNode.wt(x:BNode):Nat:=1+x.kids.length
def BMeth.wt(m:BMeth):Nat:=1+m.fact.wt
def BProg.wt(p:BProg):Nat:=1+wtL BClass.wt p.classes+p.gens.length+wtL BMeth.wt p.methods+wtL BNode.wt p.nodes
def FInit.wt(i:FInit):Nat:=1+i.slot.length
def FClass.wt(c:FClass):Nat:=1+c.name.length+wtS c.parents+wtS c.slots+wtL FInit.wt c.inits
def FMeth.wt(m:FMeth):Nat:=1+m.name.length+wtS m.params+m.fact.wt+m.body.wt
def FProg.wt(p:FProg):Nat:=1+wtL FClass.wt p.classes+wtL FMeth.wt p.methods+p.main.wt
theorem BProg.wt_le(p:BProg):p.classes.length<p.wt/\p.gens.length<p.wt/\p.methods.length<p.wt/\p.nodes.length<p.wt /\
  (∀(k:Nat) (h:k<p.classes.length),(p.classes[k]).wt<p.wt)/\(∀(k:Nat) (h:k<p.methods.length),(p.methods[k]).wt<p.wt) /\ ∀(k:Nat) (h:k<p.nodes.length),(p.nodes[k]).wt<p.wt:=by
 have h1:=CQ BClass.wt (fun x=>by unfold BClass.wt;omega) p.classes;have h2:=CQ BMeth.wt (fun x=>by unfold BMeth.wt;omega) p.methods;have h3:=CQ BNode.wt (fun x=>by unfold BNode.wt;omega) p.nodes;unfold BProg.wt;exact⟨by omega,by omega,by omega,by omega,fun k h=>by have:=Dd BClass.wt p.classes k h;omega,fun k h=>by have:=Dd BMeth.wt p.methods k h;omega,fun k h=>by have:=Dd BNode.wt p.nodes k h;omega⟩
theorem FProg.wt_le(p:FProg):p.classes.length<p.wt/\p.methods.length<p.wt/\p.main.wt<p.wt /\
  (∀(k:Nat) (h:k<p.classes.length),(p.classes[k]).wt<p.wt)/\(∀(k:Nat) (h:k<p.methods.length),(p.methods[k]).wt<p.wt):=by
 have h1:=CQ FClass.wt (fun x=>by unfold FClass.wt;omega) p.classes;have h2:=CQ FMeth.wt (fun x=>by unfold FMeth.wt;omega) p.methods;unfold FProg.wt;exact⟨by omega,by omega,by omega,fun k h=>by have:=Dd FClass.wt p.classes k h;omega,fun k h=>by have:=Dd FMeth.wt p.methods k h;omega⟩
theorem FClass.wt_le(c:FClass):c.name.length<c.wt/\wtS c.parents<c.wt/\wtS c.slots<c.wt/\c.inits.length<c.wt /\ ∀(k:Nat) (h:k<c.inits.length),(c.inits[k]).slot.length<c.wt:=by
 have h1:=CQ FInit.wt (fun x=>by unfold FInit.wt;omega) c.inits;unfold FClass.wt;exact⟨by omega,by omega,by omega,by omega,fun k h=>by have:=Dd FInit.wt c.inits k h;unfold FInit.wt at this⊢; omega⟩
end Go.DL
namespace Go.Proofs
open Go.Proofs.Tryz
open Go.Shelf
def laysSort_ren:Go.Shelf.Ren:=⟨fun x=>match x with|189=>150|125=>220|257=>219|128=>265|129=>266|294=>256|295=>257|296=>258|297=>259|298=>260|299=>261|216=>262|300=>263|301=>264|328=>287|329=>288|330=>289|331=>290|332=>291|215=>292|343=>308|n=>n,fun x=>match x with|28=>23|3=>3|46=>240|0=>0|51=>295|53=>267|4=>4|183=>334|182=>333|131=>114|5=>5|9=>9|218=>361|222=>124|228=>379|229=>380|n=>n,fun n=>n⟩
theorem laysSort:Lays.n189 prog laysSort_ren:=
 {mixed:=Eq.refl true,f125:=func220.trans (congrArg some (by kernel_rfl)),f128:=func265.trans (congrArg some (by kernel_rfl)),f129:=func266.trans (congrArg some (by kernel_rfl)),f189:=func150.trans (congrArg some (by kernel_rfl)),f215:=func292.trans (congrArg some (by kernel_rfl)),f216:=func262.trans (congrArg some (by kernel_rfl)),f257:=func219.trans (congrArg some (by kernel_rfl)),f294:=func256.trans (congrArg some (by kernel_rfl)),f295:=func257.trans (congrArg some (by kernel_rfl)),f296:=func258.trans (congrArg some (by kernel_rfl)),f297:=func259.trans (congrArg some (by kernel_rfl)),f298:=func260.trans (congrArg some (by kernel_rfl)),f299:=func261.trans (congrArg some (by kernel_rfl)),f300:=func263.trans (congrArg some (by kernel_rfl)),f301:=func264.trans (congrArg some (by kernel_rfl)),f328:=func287.trans (congrArg some (by kernel_rfl)),f329:=func288.trans (congrArg some (by kernel_rfl)),f330:=func289.trans (congrArg some (by kernel_rfl)),f331:=func290.trans (congrArg some (by kernel_rfl)),f332:=func291.trans (congrArg some (by kernel_rfl)),f343:=func308.trans (congrArg some (by kernel_rfl)),t0:=underlying0,a0:=isAgg0,z0:=sizeOf0,v0:=zeroValue0,t3:=underlying3,a3:=isAgg3,z3:=sizeOf3,v3:=zeroValue3,t4:=underlying4,a4:=isAgg4,z4:=sizeOf4,v4:=zeroValue4,t5:=underlying5,a5:=isAgg5,z5:=sizeOf5,v5:=zeroValue5,t9:=underlying9,a9:=isAgg9,z9:=sizeOf9,v9:=zeroValue9,t28:=underlying23,a28:=isAgg23,z28:=sizeOf23,v28:=zeroValue23,t46:=underlying240,a46:=isAgg240,z46:=sizeOf240,v46:=zeroValue240,t51:=underlying295,a51:=isAgg295,z51:=sizeOf295,v51:=zeroValue295,t53:=underlying267,a53:=isAgg267,z53:=sizeOf267,v53:=zeroValue267,t131:=underlying114,a131:=isAgg114,z131:=sizeOf114,v131:=zeroValue114,t182:=underlying333,a182:=isAgg333,z182:=sizeOf333,v182:=zeroValue333,t183:=underlying334,a183:=isAgg334,z183:=sizeOf334,v183:=zeroValue334,t218:=underlying361,a218:=isAgg361,z218:=sizeOf361,v218:=zeroValue361,t222:=underlying124,a222:=isAgg124,z222:=sizeOf124,v222:=zeroValue124,t228:=underlying379,a228:=isAgg379,z228:=sizeOf379,v228:=zeroValue379,t229:=underlying380,a229:=isAgg380,z229:=sizeOf380,v229:=zeroValue380 }
end Go.Proofs
namespace Go.DL
open Go.Proofs.Tryz
open Go Go.Proofs Go.Sort
def Ez(l:List Int):List Int:=l.mergeSort fun x y=>decide (x<=y)
theorem FZ(l:List Int):(Ez l).length=l.length:=by unfold Ez;exact List.length_mergeSort _
theorem M9(l:List Int)(j:Nat)(h:j<l.length):l.toArray[j]! = l[j]:=by simp[getElem!_pos,h]
theorem SX(l:List Int)(st:MR)(V:Sig)(hm:mOK V 1 st (cI l))(hl:l.length<=1073741824):
  DCall prog 150 [mD st l.length] (mS V st (cI l)) fun x S'=>x=.ret (.tup [])/\S'=mS V st (cI (Ez l)):=by
 have hL:∀f∈[laysSort_ren.f 189,laysSort_ren.f 257,laysSort_ren.f 125,laysSort_ren.f 294,laysSort_ren.f 295,laysSort_ren.f 296,laysSort_ren.f 297,laysSort_ren.f 298,laysSort_ren.f 299,laysSort_ren.f 216,laysSort_ren.f 300,laysSort_ren.f 301,laysSort_ren.f 129,laysSort_ren.f 328,laysSort_ren.f 329,laysSort_ren.f 330,laysSort_ren.f 331,laysSort_ren.f 332,laysSort_ren.f 215,laysSort_ren.f 343],f<prog.funcs.size:=by
  rw[Al];decide
 refine⟨by rw[Al];decide,Db func150 (by rfl) (by rfl),fun g w vs hs ha=>?_⟩;obtain⟨v,r,rfl,hv,rfl⟩:=ha;cases st with
 |none=>
  have hl0:l=[]:=by have:cI l=[]:=hm;simpa[cI] using this
  subst hl0;have hv':v=.slice none 0 0:=hv;subst hv';refine(Km (fun D=>AnyS.slices_Sort_int_none_alone laysSort D none 0 w) hL none).mono ?_
  rintro e w' ⟨rfl,rfl⟩
  refine⟨g,.ret (.tup []),_,.refl g,hs,⟨_,rfl,[],rfl,rfl⟩,rfl,?_⟩;simp[mS]
 | some x =>
  obtain⟨i,cap,rest⟩:=x;obtain⟨h1,h2,h3,h4⟩:=hm;obtain⟨b,hb,hv⟩:=hv;subst hv;obtain⟨b',vs,ty,hb',hheap,hr⟩:=hs.obj i _ (w7 ..);obtain rfl:b'=b:=by rw[hb]at hb';cases hb';rfl
  have hfl:∀m:List Int,(cI m).flatten=m.map (D.int .i64):=fun m=>by induction m with
   |nil=>rfl
   |cons x m ih=>simp only[cI,List.map_cons,List.flatten_cons]at ih⊢; rw[ih];rfl
  have hlen:=RepL.length hr;simp only[Array.length_toList,List.length_append,hfl,List.length_map]at hlen
  have hget:∀j (hj:j<l.length),vs[j]? = some (.int .i64 l[j]):=by
   intro j hj;have:=RepL.get hr j;rw[List.getElem?_append_left (by simp[hfl,hj]),hfl]at this;simp only[List.getElem?_map,List.getElem?_eq_getElem hj,Option.map_some,Option.getD_some,Array.getElem?_toList]at this;have hjv:j<vs.size:=by omega
   rw[Array.getElem?_eq_getElem hjv]at this⊢;have this':vs[j]=.int .i64 l[j]:=this;rw[this']
  have hH:Holds (Value.int .i64) w b' 0 l.toArray:=by
   intro j hj;have hj':j<l.length:=by simpa using hj
   refine⟨?_,by simp[Go.World.frozen?, hheap]⟩;simp only[Go.World.cell?, hheap,Nat.zero_add];rw[M9 l j hj'];exact hget j hj'
  have hbl:b'<w.heap.size:=(Array.getElem?_eq_some_iff.1 hheap).1;refine(Km (fun D=>AnyS.slices_Sort_int_alone laysSort D b' 0 cap l w hH hbl (by omega)) hL none).mono ?_
  rintro e w' ⟨rfl,q,os,rfl⟩
  refine⟨g,.ret (.tup []),_,.refl g,?_,⟨_,rfl,[],rfl,rfl⟩,rfl,rfl⟩;have hsl:=FZ l;have hset:=hs.setObj (i:=i) (b:=b') (ds':=(cI (Ez l)).flatten++rest) (vs':=putCells (Value.int .i64) 0 (Ez l).toArray vs) (ty:=ty) (w7 ..) hb ?_ ⟨vs,hheap⟩
  ·have e1:(mS V (some (i,cap,rest)) (cI l)).set i (.cells ((cI (Ez l)).flatten++rest))=mS V (some (i,cap,rest)) (cI (Ez l)):=Sig.set_set ..;rw[e1]at hset;refine hset.later (fun k x hx=>?_) rfl;have hk:k<w.heap.size:=by have:=(Array.getElem?_eq_some_iff.1 hx).1;simpa[setB] using this
   simp only[grow,putRow,mapBlock];have ea:(Sort.ahead w q).heap=w.heap:=rfl;rw[ea];rw[Array.getElem?_append_left (by simpa using hk)]
   by_cases hkb:k=b'
   ·subst hkb;rw[Cw hheap]at hx;rw[Array.getElem?_modify,if_pos rfl,hheap,<-hx];rfl
   ·rw[E0 hkb]at hx;rw[Array.getElem?_modify,if_neg (fun e=>hkb e.symm),hx]
  ·refine AT (by simp[putCells,hfl];omega) fun j d u hd hu=>?_
   rw[hfl]at hd;simp only[putCells,Array.getElem?_toList,Array.getElem?_mapIdx,Nat.zero_le,true_and,Nat.zero_add,List.size_toArray,Nat.sub_zero]at hu
   have hjv:j<vs.size:=by
    rcases Nat.lt_or_ge j vs.size with h|h
    ·exact h
    ·rw[Array.getElem?_eq_none h]at hu;cases hu
   rw[Array.getElem?_eq_getElem hjv]at hu;simp only[Option.map_some,Option.some.injEq]at hu
   by_cases hj:j<(Ez l).length
   ·rw[if_pos hj,M9 _ _ hj]at hu;rw[List.getElem?_append_left (by simpa using hj),List.getElem?_map,List.getElem?_eq_getElem hj]at hd;simp only[Option.map_some,Option.some.injEq]at hd;subst hd hu;exact rfl
   ·rw[if_neg hj]at hu;rw[List.getElem?_append_right (by simpa using hj)]at hd;have:=RepL.get hr j;rw[List.getElem?_append_right (by simp[hfl];omega),hfl]at this;simp only[List.length_map]at hd this;rw[hsl]at hd;rw[hd,Array.getElem?_toList,Array.getElem?_eq_getElem hjv,hu]at this;exact this
end Go.DL
