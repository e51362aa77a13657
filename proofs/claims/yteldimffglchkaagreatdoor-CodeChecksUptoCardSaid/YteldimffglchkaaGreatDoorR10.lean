/- A part of the proof. -/
import Derived.Test.YteldimffglchkaaGreatDoorR02
import Derived.Test.YteldimffglchkaaGreatDoorProg
import Derived.KernelRfl
import Derived.Test.YteldimffglchkaaGreatDoorR04
import Derived.Test.YteldimffglchkaaGreatDoorR06
import Derived.Shelf.Slices.In.SortAlone
import Derived.Shelf.Slices.In.SortNone
set_option linter.all false
namespace Go.DL
open Go.Proofs.Tryz
open Go Go.Proofs
@[simp] abbrev sT(n:Nat):Ty:=⟨.slice n,false,1,24,[.nils]⟩
@[simp] abbrev pT(n:Nat):Ty:=⟨.ptr n,false,1,8,[.nilp]⟩
@[simp] abbrev iT:Ty:=⟨.int .i64,false,1,8,[.int .i64 0]⟩
@[simp] abbrev fT:Ty:=⟨.func,false,1,8,[.nilf]⟩
def tyRows:List (Nat×Ty):=[
 (1,fT),
 (2,iT),
 (3,iT),
 (4,⟨.bool,false,1,1,[.bool false]⟩),
 (5,⟨.int .u8,false,1,1,[.int .u8 0]⟩),
 (6,⟨.int .u8,false,1,1,[.int .u8 0]⟩),
 (7,⟨.struct [(0,2),(1,3),(2,4),(3,6)],true,4,24,[.int .i64 0,.int .i64 0,.bool false,.int .u8 0]⟩),
 (8,⟨.struct [(0,2),(1,3),(2,4),(3,6)],true,4,24,[.int .i64 0,.int .i64 0,.bool false,.int .u8 0]⟩),
 (9,⟨.str,false,1,16,[.str []]⟩),
 (10,⟨.str,false,1,16,[.str []]⟩),
 (11,⟨.str,false,1,16,[.str []]⟩),
 (12,⟨.int .u64,false,1,8,[.int .u64 0]⟩),
 (13,⟨.struct [(0,9),(1,12)],true,2,24,[.str [],.int .u64 0]⟩),
 (14,⟨.struct [(0,9),(1,12)],true,2,24,[.str [],.int .u64 0]⟩),
 (15,pT 464),
 (16,pT 467),
 (17,pT 474),
 (18,⟨.struct [(0,17)],true,1,8,[.nilp]⟩),
 (19,⟨.struct [(0,17)],true,1,8,[.nilp]⟩),
 (20,⟨.iface,false,1,16,[.niliface]⟩),
 (21,⟨.int .i32,false,1,4,[.int .i32 0]⟩),
 (22,sT 208),
 (23,sT 3),
 (24,sT 64),
 (25,sT 211),
 (26,⟨.struct [(0,22),(1,3),(2,23),(3,24),(4,25),(5,3)],true,6,112,[.nils,.int .i64 0,.nils,.nils,.nils,.int .i64 0]⟩),
 (27,⟨.struct [(0,22),(1,3),(2,23),(3,24),(4,25),(5,3)],true,6,112,[.nils,.int .i64 0,.nils,.nils,.nils,.int .i64 0]⟩),
 (28,sT 87),
 (30,⟨.struct [(0,28),(1,23),(2,3)],true,3,56,[.nils,.nils,.int .i64 0]⟩),
 (31,sT 131),
 (32,sT 40),
 (33,⟨.struct [(0,3),(1,32),(2,32)],true,3,56,[.int .i64 0,.nils,.nils]⟩),
 (34,⟨.struct [(0,3),(1,32),(2,32)],true,3,56,[.int .i64 0,.nils,.nils]⟩),
 (35,⟨.struct [(0,31),(1,34)],true,4,80,[.nils,.int .i64 0,.nils,.nils]⟩),
 (36,⟨.struct [(0,31),(1,34)],true,4,80,[.nils,.int .i64 0,.nils,.nils]⟩),
 (37,iT),
 (38,iT),
 (39,⟨.struct [(0,38),(1,3)],true,2,16,[.int .i64 0,.int .i64 0]⟩),
 (40,⟨.struct [(0,38),(1,3)],true,2,16,[.int .i64 0,.int .i64 0]⟩),
 (41,iT),
 (42,sT 203),
 (44,⟨.struct [(0,37),(1,40),(3,3),(4,32),(5,41),(6,34),(9,31),(10,42)],true,11,168,[.int .i64 0,.int .i64 0,.int .i64 0,.int .i64 0,.nils,.int .i64 0,.int .i64 0,.nils,.nils,.nils,.nils]⟩),
 (45,iT),
 (47,fT),
 (48,fT),
 (49,fT),
 (50,fT),
 (51,⟨.array 3 3,true,3,24,[.int .i64 0,.int .i64 0,.int .i64 0]⟩),
 (52,⟨.int .u16,false,1,2,[.int .u16 0]⟩),
 (53,⟨.struct [(0,5),(1,51),(4,52)],true,5,40,[.int .u8 0,.int .i64 0,.int .i64 0,.int .i64 0,.int .u16 0]⟩),
 (55,fT),
 (58,iT),
 (59,iT),
 (60,sT 62),
 (62,⟨.struct [(0,59),(1,3),(2,23),(3,3),(4,3),(5,60)],true,6,80,[.int .i64 0,.int .i64 0,.nils,.int .i64 0,.int .i64 0,.nils]⟩),
 (63,⟨.struct [(0,58),(1,3),(2,62),(8,3)],true,9,104,[.int .i64 0,.int .i64 0,.int .i64 0,.int .i64 0,.nils,.int .i64 0,.int .i64 0,.nils,.int .i64 0]⟩),
 (64,⟨.struct [(0,58),(1,3),(2,62),(8,3)],true,9,104,[.int .i64 0,.int .i64 0,.int .i64 0,.int .i64 0,.nils,.int .i64 0,.int .i64 0,.nils,.int .i64 0]⟩),
 (65,fT),
 (66,fT),
 (71,fT),
 (75,sT 79),
 (77,fT),
 (78,⟨.struct [(0,3),(1,3)],true,2,16,[.int .i64 0,.int .i64 0]⟩),
 (79,⟨.struct [(0,3),(1,3)],true,2,16,[.int .i64 0,.int .i64 0]⟩),
 (81,fT),
 (82,fT),
 (83,fT),
 (85,iT),
 (86,⟨.struct [(0,85),(1,3)],true,2,16,[.int .i64 0,.int .i64 0]⟩),
 (87,⟨.struct [(0,85),(1,3)],true,2,16,[.int .i64 0,.int .i64 0]⟩),
 (91,fT),
 (96,sT 5),
 (98,pT 103),
 (101,⟨.map 3 79,false,1,8,[.nilmap]⟩),
 (103,⟨.struct [(0,30),(3,27),(9,101)],true,10,176,[.nils,.nils,.int .i64 0,.nils,.int .i64 0,.nils,.nils,.nils,.int .i64 0,.nilmap]⟩),
 (104,pT 106),
 (106,⟨.struct [(0,44),(11,27),(17,34)],true,20,336,[.int .i64 0,.int .i64 0,.int .i64 0,.int .i64 0,.nils,.int .i64 0,.int .i64 0,.nils,.nils,.nils,.nils,.nils,.int .i64 0,.nils,.nils,.nils,.int .i64 0,.int .i64 0,.nils,.nils]⟩),
 (107,fT),
 (108,fT),
 (109,⟨.array 22 108,true,22,176,[.nilf,.nilf,.nilf,.nilf,.nilf,.nilf,.nilf,.nilf,.nilf,.nilf,.nilf,.nilf,.nilf,.nilf,.nilf,.nilf,.nilf,.nilf,.nilf,.nilf,.nilf,.nilf]⟩),
 (110,fT),
 (112,fT),
 (113,fT),
 (120,sT 23),
 (122,⟨.struct [(0,120),(1,23)],true,2,48,[.nils,.nils]⟩),
 (123,fT),
 (125,pT 127),
 (126,⟨.struct [(0,30)],true,3,56,[.nils,.nils,.int .i64 0]⟩),
 (127,⟨.struct [(0,30)],true,3,56,[.nils,.nils,.int .i64 0]⟩),
 (128,fT),
 (130,⟨.struct [(0,3),(1,32)],true,2,32,[.int .i64 0,.nils]⟩),
 (131,⟨.struct [(0,3),(1,32)],true,2,32,[.int .i64 0,.nils]⟩),
 (133,fT),
 (145,fT),
 (147,sT 5),
 (153,fT),
 (156,fT),
 (157,pT 159),
 (159,⟨.struct [(0,157),(1,96)],true,2,32,[.nilp,.nils]⟩),
 (161,⟨.iface,false,1,16,[.niliface]⟩),
 (165,sT 9),
 (173,fT),
 (180,⟨.struct [(0,3),(1,3),(2,4)],true,3,24,[.int .i64 0,.int .i64 0,.bool false]⟩),
 (181,sT 180),
 (182,fT),
 (188,fT),
 (189,fT),
 (191,pT 194),
 (192,sT 4),
 (194,⟨.struct [(0,192),(1,75)],true,2,48,[.nils,.nils]⟩),
 (196,fT),
 (199,⟨.struct [(0,27),(6,30),(9,44),(20,34)],true,23,392,[.nils,.int .i64 0,.nils,.nils,.nils,.int .i64 0,.nils,.nils,.int .i64 0,.int .i64 0,.int .i64 0,.int .i64 0,.int .i64 0,.nils,.int .i64 0,.int .i64 0,.nils,.nils,.nils,.nils,.int .i64 0,.nils,.nils]⟩),
 (201,iT),
 (203,⟨.struct [(0,201),(1,3),(2,32)],true,3,40,[.int .i64 0,.int .i64 0,.nils]⟩),
 (205,⟨.struct [(0,3),(1,3)],true,2,16,[.int .i64 0,.int .i64 0]⟩),
 (206,sT 205),
 (208,⟨.struct [(0,23),(1,23),(2,206)],true,3,72,[.nils,.nils,.nils]⟩),
 (209,iT),
 (211,⟨.struct [(0,209),(1,3),(2,23)],true,3,40,[.int .i64 0,.int .i64 0,.nils]⟩),
 (237,fT),
 (240,pT 147),
 (245,⟨.struct [],true,0,0,[]⟩),
 (246,pT 5),
 (248,fT),
 (256,pT 40),
 (267,fT),
 (268,fT),
 (271,⟨.struct [(0,3),(1,3)],true,2,16,[.int .i64 0,.int .i64 0]⟩),
 (274,⟨.iface,false,1,16,[.niliface]⟩),
 (276,iT),
 (277,⟨.struct [],true,0,0,[]⟩),
 (279,fT),
 (283,⟨.map 209 85,false,1,8,[.nilmap]⟩),
 (296,fT),
 (300,fT),
 (307,⟨.map 3 4,false,1,8,[.nilmap]⟩),
 (310,pT 357),
 (313,pT 131),
 (316,⟨.struct [],true,0,0,[]⟩),
 (320,⟨.int .u64,false,1,8,[.int .u64 0]⟩),
 (323,fT),
 (324,pT 421),
 (338,⟨.int .u64,false,1,8,[.int .u64 0]⟩),
 (354,⟨.map 3 23,false,1,8,[.nilmap]⟩),
 (355,⟨.map 3 131,false,1,8,[.nilmap]⟩),
 (357,⟨.struct [(0,27),(6,354),(7,355)],true,8,128,[.nils,.int .i64 0,.nils,.nils,.nils,.int .i64 0,.nilmap,.nilmap]⟩),
 (361,fT),
 (363,fT),
 (366,fT),
 (367,pT 372),
 (370,sT 415),
 (372,⟨.struct [(0,120),(1,370),(2,354)],true,3,56,[.nils,.nils,.nilmap]⟩),
 (373,⟨.int .u32,false,1,4,[.int .u32 0]⟩),
 (403,fT),
 (407,⟨.map 3 3,false,1,8,[.nilmap]⟩),
 (408,fT),
 (409,fT),
 (413,fT),
 (415,⟨.array 1 338,true,1,8,[.int .u64 0]⟩),
 (418,⟨.int .u64,false,1,8,[.int .u64 0]⟩),
 (419,⟨.array 63 418,true,63,504,(List.replicate 63 (.int .u64 0))⟩),
 (421,⟨.struct [(0,122),(2,419)],true,65,552,[.nils,.nils,.int .u64 0,.int .u64 0,.int .u64 0,.int .u64 0,.int .u64 0,.int .u64 0,.int .u64 0,.int .u64 0,.int .u64 0,.int .u64 0,.int .u64 0,.int .u64 0,.int .u64 0,.int .u64 0,.int .u64 0,.int .u64 0,.int .u64 0,.int .u64 0,.int .u64 0,.int .u64 0,.int .u64 0,.int .u64 0,.int .u64 0,.int .u64 0,.int .u64 0,.int .u64 0,.int .u64 0,.int .u64 0,.int .u64 0,.int .u64 0,.int .u64 0,.int .u64 0,.int .u64 0,.int .u64 0,.int .u64 0,.int .u64 0,.int .u64 0,.int .u64 0,.int .u64 0,.int .u64 0,.int .u64 0,.int .u64 0,.int .u64 0,.int .u64 0,.int .u64 0,.int .u64 0,.int .u64 0,.int .u64 0,.int .u64 0,.int .u64 0,.int .u64 0,.int .u64 0,.int .u64 0,.int .u64 0,.int .u64 0,.int .u64 0,.int .u64 0,.int .u64 0,.int .u64 0,.int .u64 0,.int .u64 0,.int .u64 0,.int .u64 0]⟩),
 (425,pT 3),
 (464,⟨.struct [(0,17),(1,17),(2,17),(3,9)],true,4,40,[.nilp,.nilp,.nilp,.str []]⟩),
 (465,⟨.array 0 16,true,0,0,[]⟩),
 (467,⟨.struct [(0,465)],true,0,0,[]⟩),
 (468,⟨.int .u8,false,1,1,[.int .u8 0]⟩),
 (469,⟨.int .u8,false,1,1,[.int .u8 0]⟩),
 (470,fT),
 (471,⟨.int .i32,false,1,4,[.int .i32 0]⟩),
 (472,⟨.int .i32,false,1,4,[.int .i32 0]⟩),
 (474,⟨.struct [(0,12),(1,12),(2,373),(3,468),(4,5),(5,5),(6,469),(7,470),(8,246),(9,471),(10,472)],true,11,48,[.int .u64 0,.int .u64 0,.int .u32 0,.int .u8 0,.int .u8 0,.int .u8 0,.int .u8 0,.nilf,.nilp,.int .i32 0,.int .i32 0]⟩)
]
def tab(t:Nat):Ty:=(tyRows.lookup t).getD ⟨.other,false,0,0,[]⟩
theorem Ul:tyRows.all (fun p=>Nl prog p.1 p.2)=true:=by kernel_rfl
theorem Km{α:Type}: ∀{l:List (Nat×α)}{t:Nat}{x:α},l.lookup t=some x->(t,x)∈l
 |(k,y)::l,t,x,h=>by
  simp only[List.lookup]at h
  split at h
  ·rename_i e;cases h;have:=beq_iff_eq.1 e;subst this;simp
  ·exact List.mem_cons_of_mem _ (Km h)
theorem tabOK:AP prog tab:=by
 intro t
 unfold tab
 cases h:tyRows.lookup t with
 |none=>exact trivial
 |some i=>exact LP (List.all_eq_true.1 Ul _ (Km h))
theorem Ah:prog.funcs.size=431:=by kernel_rfl
@[simp] theorem tab1:tab 1=fT:=rfl
@[simp] theorem tab2:tab 2=iT:=rfl
@[simp] theorem tab3:tab 3=iT:=rfl
@[simp] theorem tab4:tab 4=⟨.bool,false,1,1,[.bool false]⟩:=rfl
@[simp] theorem tab5:tab 5=⟨.int .u8,false,1,1,[.int .u8 0]⟩:=rfl
@[simp] theorem tab6:tab 6=⟨.int .u8,false,1,1,[.int .u8 0]⟩:=rfl
@[simp] theorem tab7:tab 7=⟨.struct [(0,2),(1,3),(2,4),(3,6)],true,4,24,[.int .i64 0,.int .i64 0,.bool false,.int .u8 0]⟩:=rfl
@[simp] theorem tab8:tab 8=⟨.struct [(0,2),(1,3),(2,4),(3,6)],true,4,24,[.int .i64 0,.int .i64 0,.bool false,.int .u8 0]⟩:=rfl
@[simp] theorem tab9:tab 9=⟨.str,false,1,16,[.str []]⟩:=rfl
@[simp] theorem tab10:tab 10=⟨.str,false,1,16,[.str []]⟩:=rfl
@[simp] theorem tab11:tab 11=⟨.str,false,1,16,[.str []]⟩:=rfl
@[simp] theorem tab12:tab 12=⟨.int .u64,false,1,8,[.int .u64 0]⟩:=rfl
@[simp] theorem tab13:tab 13=⟨.struct [(0,9),(1,12)],true,2,24,[.str [],.int .u64 0]⟩:=rfl
@[simp] theorem tab14:tab 14=⟨.struct [(0,9),(1,12)],true,2,24,[.str [],.int .u64 0]⟩:=rfl
@[simp] theorem tab15:tab 15=pT 464:=rfl
@[simp] theorem tab16:tab 16=pT 467:=rfl
@[simp] theorem tab17:tab 17=pT 474:=rfl
@[simp] theorem tab18:tab 18=⟨.struct [(0,17)],true,1,8,[.nilp]⟩:=rfl
@[simp] theorem tab19:tab 19=⟨.struct [(0,17)],true,1,8,[.nilp]⟩:=rfl
@[simp] theorem tab20:tab 20=⟨.iface,false,1,16,[.niliface]⟩:=rfl
@[simp] theorem tab21:tab 21=⟨.int .i32,false,1,4,[.int .i32 0]⟩:=rfl
@[simp] theorem tab22:tab 22=sT 208:=rfl
@[simp] theorem tab23:tab 23=sT 3:=rfl
@[simp] theorem tab24:tab 24=sT 64:=rfl
@[simp] theorem tab25:tab 25=sT 211:=rfl
@[simp] theorem tab26:tab 26=⟨.struct [(0,22),(1,3),(2,23),(3,24),(4,25),(5,3)],true,6,112,[.nils,.int .i64 0,.nils,.nils,.nils,.int .i64 0]⟩:=rfl
@[simp] theorem tab27:tab 27=⟨.struct [(0,22),(1,3),(2,23),(3,24),(4,25),(5,3)],true,6,112,[.nils,.int .i64 0,.nils,.nils,.nils,.int .i64 0]⟩:=rfl
@[simp] theorem tab28:tab 28=sT 87:=rfl
@[simp] theorem tab30:tab 30=⟨.struct [(0,28),(1,23),(2,3)],true,3,56,[.nils,.nils,.int .i64 0]⟩:=rfl
@[simp] theorem tab31:tab 31=sT 131:=rfl
@[simp] theorem tab32:tab 32=sT 40:=rfl
@[simp] theorem tab33:tab 33=⟨.struct [(0,3),(1,32),(2,32)],true,3,56,[.int .i64 0,.nils,.nils]⟩:=rfl
@[simp] theorem tab34:tab 34=⟨.struct [(0,3),(1,32),(2,32)],true,3,56,[.int .i64 0,.nils,.nils]⟩:=rfl
@[simp] theorem tab35:tab 35=⟨.struct [(0,31),(1,34)],true,4,80,[.nils,.int .i64 0,.nils,.nils]⟩:=rfl
@[simp] theorem tab36:tab 36=⟨.struct [(0,31),(1,34)],true,4,80,[.nils,.int .i64 0,.nils,.nils]⟩:=rfl
@[simp] theorem tab37:tab 37=iT:=rfl
@[simp] theorem tab38:tab 38=iT:=rfl
@[simp] theorem tab39:tab 39=⟨.struct [(0,38),(1,3)],true,2,16,[.int .i64 0,.int .i64 0]⟩:=rfl
@[simp] theorem tab40:tab 40=⟨.struct [(0,38),(1,3)],true,2,16,[.int .i64 0,.int .i64 0]⟩:=rfl
@[simp] theorem tab41:tab 41=iT:=rfl
@[simp] theorem tab42:tab 42=sT 203:=rfl
@[simp] theorem tab44:tab 44=⟨.struct [(0,37),(1,40),(3,3),(4,32),(5,41),(6,34),(9,31),(10,42)],true,11,168,[.int .i64 0,.int .i64 0,.int .i64 0,.int .i64 0,.nils,.int .i64 0,.int .i64 0,.nils,.nils,.nils,.nils]⟩:=rfl
@[simp] theorem tab45:tab 45=iT:=rfl
@[simp] theorem tab47:tab 47=fT:=rfl
@[simp] theorem tab48:tab 48=fT:=rfl
@[simp] theorem tab49:tab 49=fT:=rfl
@[simp] theorem tab50:tab 50=fT:=rfl
@[simp] theorem tab51:tab 51=⟨.array 3 3,true,3,24,[.int .i64 0,.int .i64 0,.int .i64 0]⟩:=rfl
@[simp] theorem tab52:tab 52=⟨.int .u16,false,1,2,[.int .u16 0]⟩:=rfl
@[simp] theorem tab53:tab 53=⟨.struct [(0,5),(1,51),(4,52)],true,5,40,[.int .u8 0,.int .i64 0,.int .i64 0,.int .i64 0,.int .u16 0]⟩:=rfl
@[simp] theorem tab55:tab 55=fT:=rfl
@[simp] theorem tab58:tab 58=iT:=rfl
@[simp] theorem tab59:tab 59=iT:=rfl
@[simp] theorem tab60:tab 60=sT 62:=rfl
@[simp] theorem tab62:tab 62=⟨.struct [(0,59),(1,3),(2,23),(3,3),(4,3),(5,60)],true,6,80,[.int .i64 0,.int .i64 0,.nils,.int .i64 0,.int .i64 0,.nils]⟩:=rfl
@[simp] theorem tab63:tab 63=⟨.struct [(0,58),(1,3),(2,62),(8,3)],true,9,104,[.int .i64 0,.int .i64 0,.int .i64 0,.int .i64 0,.nils,.int .i64 0,.int .i64 0,.nils,.int .i64 0]⟩:=rfl
@[simp] theorem tab64:tab 64=⟨.struct [(0,58),(1,3),(2,62),(8,3)],true,9,104,[.int .i64 0,.int .i64 0,.int .i64 0,.int .i64 0,.nils,.int .i64 0,.int .i64 0,.nils,.int .i64 0]⟩:=rfl
@[simp] theorem tab65:tab 65=fT:=rfl
@[simp] theorem tab66:tab 66=fT:=rfl
@[simp] theorem tab71:tab 71=fT:=rfl
@[simp] theorem tab75:tab 75=sT 79:=rfl
@[simp] theorem tab77:tab 77=fT:=rfl
@[simp] theorem tab78:tab 78=⟨.struct [(0,3),(1,3)],true,2,16,[.int .i64 0,.int .i64 0]⟩:=rfl
@[simp] theorem tab79:tab 79=⟨.struct [(0,3),(1,3)],true,2,16,[.int .i64 0,.int .i64 0]⟩:=rfl
@[simp] theorem tab81:tab 81=fT:=rfl
@[simp] theorem tab82:tab 82=fT:=rfl
@[simp] theorem tab83:tab 83=fT:=rfl
@[simp] theorem tab85:tab 85=iT:=rfl
@[simp] theorem tab86:tab 86=⟨.struct [(0,85),(1,3)],true,2,16,[.int .i64 0,.int .i64 0]⟩:=rfl
@[simp] theorem tab87:tab 87=⟨.struct [(0,85),(1,3)],true,2,16,[.int .i64 0,.int .i64 0]⟩:=rfl
@[simp] theorem tab91:tab 91=fT:=rfl
@[simp] theorem tab96:tab 96=sT 5:=rfl
@[simp] theorem tab98:tab 98=pT 103:=rfl
@[simp] theorem tab101:tab 101=⟨.map 3 79,false,1,8,[.nilmap]⟩:=rfl
@[simp] theorem tab103:tab 103=⟨.struct [(0,30),(3,27),(9,101)],true,10,176,[.nils,.nils,.int .i64 0,.nils,.int .i64 0,.nils,.nils,.nils,.int .i64 0,.nilmap]⟩:=rfl
@[simp] theorem tab104:tab 104=pT 106:=rfl
@[simp] theorem tab106:tab 106=⟨.struct [(0,44),(11,27),(17,34)],true,20,336,[.int .i64 0,.int .i64 0,.int .i64 0,.int .i64 0,.nils,.int .i64 0,.int .i64 0,.nils,.nils,.nils,.nils,.nils,.int .i64 0,.nils,.nils,.nils,.int .i64 0,.int .i64 0,.nils,.nils]⟩:=rfl
@[simp] theorem tab107:tab 107=fT:=rfl
@[simp] theorem tab108:tab 108=fT:=rfl
@[simp] theorem tab109:tab 109=⟨.array 22 108,true,22,176,[.nilf,.nilf,.nilf,.nilf,.nilf,.nilf,.nilf,.nilf,.nilf,.nilf,.nilf,.nilf,.nilf,.nilf,.nilf,.nilf,.nilf,.nilf,.nilf,.nilf,.nilf,.nilf]⟩:=rfl
@[simp] theorem tab110:tab 110=fT:=rfl
@[simp] theorem tab112:tab 112=fT:=rfl
@[simp] theorem tab113:tab 113=fT:=rfl
@[simp] theorem tab120:tab 120=sT 23:=rfl
@[simp] theorem tab122:tab 122=⟨.struct [(0,120),(1,23)],true,2,48,[.nils,.nils]⟩:=rfl
@[simp] theorem tab123:tab 123=fT:=rfl
@[simp] theorem tab125:tab 125=pT 127:=rfl
@[simp] theorem tab126:tab 126=⟨.struct [(0,30)],true,3,56,[.nils,.nils,.int .i64 0]⟩:=rfl
@[simp] theorem tab127:tab 127=⟨.struct [(0,30)],true,3,56,[.nils,.nils,.int .i64 0]⟩:=rfl
@[simp] theorem tab128:tab 128=fT:=rfl
@[simp] theorem tab130:tab 130=⟨.struct [(0,3),(1,32)],true,2,32,[.int .i64 0,.nils]⟩:=rfl
@[simp] theorem tab131:tab 131=⟨.struct [(0,3),(1,32)],true,2,32,[.int .i64 0,.nils]⟩:=rfl
@[simp] theorem tab133:tab 133=fT:=rfl
@[simp] theorem tab145:tab 145=fT:=rfl
@[simp] theorem tab147:tab 147=sT 5:=rfl
@[simp] theorem tab153:tab 153=fT:=rfl
@[simp] theorem tab156:tab 156=fT:=rfl
@[simp] theorem tab157:tab 157=pT 159:=rfl
@[simp] theorem tab159:tab 159=⟨.struct [(0,157),(1,96)],true,2,32,[.nilp,.nils]⟩:=rfl
@[simp] theorem tab161:tab 161=⟨.iface,false,1,16,[.niliface]⟩:=rfl
@[simp] theorem tab165:tab 165=sT 9:=rfl
@[simp] theorem tab173:tab 173=fT:=rfl
@[simp] theorem tab180:tab 180=⟨.struct [(0,3),(1,3),(2,4)],true,3,24,[.int .i64 0,.int .i64 0,.bool false]⟩:=rfl
@[simp] theorem tab181:tab 181=sT 180:=rfl
@[simp] theorem tab182:tab 182=fT:=rfl
@[simp] theorem tab188:tab 188=fT:=rfl
@[simp] theorem tab189:tab 189=fT:=rfl
@[simp] theorem tab191:tab 191=pT 194:=rfl
@[simp] theorem tab192:tab 192=sT 4:=rfl
@[simp] theorem tab194:tab 194=⟨.struct [(0,192),(1,75)],true,2,48,[.nils,.nils]⟩:=rfl
@[simp] theorem tab196:tab 196=fT:=rfl
@[simp] theorem tab199:tab 199=⟨.struct [(0,27),(6,30),(9,44),(20,34)],true,23,392,[.nils,.int .i64 0,.nils,.nils,.nils,.int .i64 0,.nils,.nils,.int .i64 0,.int .i64 0,.int .i64 0,.int .i64 0,.int .i64 0,.nils,.int .i64 0,.int .i64 0,.nils,.nils,.nils,.nils,.int .i64 0,.nils,.nils]⟩:=rfl
@[simp] theorem tab201:tab 201=iT:=rfl
@[simp] theorem tab203:tab 203=⟨.struct [(0,201),(1,3),(2,32)],true,3,40,[.int .i64 0,.int .i64 0,.nils]⟩:=rfl
@[simp] theorem tab205:tab 205=⟨.struct [(0,3),(1,3)],true,2,16,[.int .i64 0,.int .i64 0]⟩:=rfl
@[simp] theorem tab206:tab 206=sT 205:=rfl
@[simp] theorem tab208:tab 208=⟨.struct [(0,23),(1,23),(2,206)],true,3,72,[.nils,.nils,.nils]⟩:=rfl
@[simp] theorem tab209:tab 209=iT:=rfl
@[simp] theorem tab211:tab 211=⟨.struct [(0,209),(1,3),(2,23)],true,3,40,[.int .i64 0,.int .i64 0,.nils]⟩:=rfl
@[simp] theorem tab237:tab 237=fT:=rfl
@[simp] theorem tab240:tab 240=pT 147:=rfl
@[simp] theorem tab245:tab 245=⟨.struct [],true,0,0,[]⟩:=rfl
@[simp] theorem tab246:tab 246=pT 5:=rfl
@[simp] theorem tab248:tab 248=fT:=rfl
@[simp] theorem tab256:tab 256=pT 40:=rfl
@[simp] theorem tab267:tab 267=fT:=rfl
@[simp] theorem tab268:tab 268=fT:=rfl
@[simp] theorem tab271:tab 271=⟨.struct [(0,3),(1,3)],true,2,16,[.int .i64 0,.int .i64 0]⟩:=rfl
@[simp] theorem tab274:tab 274=⟨.iface,false,1,16,[.niliface]⟩:=rfl
@[simp] theorem tab276:tab 276=iT:=rfl
@[simp] theorem tab277:tab 277=⟨.struct [],true,0,0,[]⟩:=rfl
@[simp] theorem tab279:tab 279=fT:=rfl
@[simp] theorem tab283:tab 283=⟨.map 209 85,false,1,8,[.nilmap]⟩:=rfl
@[simp] theorem tab296:tab 296=fT:=rfl
@[simp] theorem tab300:tab 300=fT:=rfl
@[simp] theorem tab307:tab 307=⟨.map 3 4,false,1,8,[.nilmap]⟩:=rfl
@[simp] theorem tab310:tab 310=pT 357:=rfl
@[simp] theorem tab313:tab 313=pT 131:=rfl
@[simp] theorem tab316:tab 316=⟨.struct [],true,0,0,[]⟩:=rfl
@[simp] theorem tab320:tab 320=⟨.int .u64,false,1,8,[.int .u64 0]⟩:=rfl
@[simp] theorem tab323:tab 323=fT:=rfl
@[simp] theorem tab324:tab 324=pT 421:=rfl
@[simp] theorem tab338:tab 338=⟨.int .u64,false,1,8,[.int .u64 0]⟩:=rfl
@[simp] theorem tab354:tab 354=⟨.map 3 23,false,1,8,[.nilmap]⟩:=rfl
@[simp] theorem tab355:tab 355=⟨.map 3 131,false,1,8,[.nilmap]⟩:=rfl
@[simp] theorem tab357:tab 357=⟨.struct [(0,27),(6,354),(7,355)],true,8,128,[.nils,.int .i64 0,.nils,.nils,.nils,.int .i64 0,.nilmap,.nilmap]⟩:=rfl
@[simp] theorem tab361:tab 361=fT:=rfl
@[simp] theorem tab363:tab 363=fT:=rfl
@[simp] theorem tab366:tab 366=fT:=rfl
@[simp] theorem tab367:tab 367=pT 372:=rfl
@[simp] theorem tab370:tab 370=sT 415:=rfl
@[simp] theorem tab372:tab 372=⟨.struct [(0,120),(1,370),(2,354)],true,3,56,[.nils,.nils,.nilmap]⟩:=rfl
@[simp] theorem tab373:tab 373=⟨.int .u32,false,1,4,[.int .u32 0]⟩:=rfl
@[simp] theorem tab403:tab 403=fT:=rfl
@[simp] theorem tab407:tab 407=⟨.map 3 3,false,1,8,[.nilmap]⟩:=rfl
@[simp] theorem tab408:tab 408=fT:=rfl
@[simp] theorem tab409:tab 409=fT:=rfl
@[simp] theorem tab413:tab 413=fT:=rfl
@[simp] theorem tab415:tab 415=⟨.array 1 338,true,1,8,[.int .u64 0]⟩:=rfl
@[simp] theorem tab418:tab 418=⟨.int .u64,false,1,8,[.int .u64 0]⟩:=rfl
@[simp] theorem tab419:tab 419=⟨.array 63 418,true,63,504,(List.replicate 63 (.int .u64 0))⟩:=rfl
@[simp] theorem tab421:tab 421=⟨.struct [(0,122),(2,419)],true,65,552,[.nils,.nils,.int .u64 0,.int .u64 0,.int .u64 0,.int .u64 0,.int .u64 0,.int .u64 0,.int .u64 0,.int .u64 0,.int .u64 0,.int .u64 0,.int .u64 0,.int .u64 0,.int .u64 0,.int .u64 0,.int .u64 0,.int .u64 0,.int .u64 0,.int .u64 0,.int .u64 0,.int .u64 0,.int .u64 0,.int .u64 0,.int .u64 0,.int .u64 0,.int .u64 0,.int .u64 0,.int .u64 0,.int .u64 0,.int .u64 0,.int .u64 0,.int .u64 0,.int .u64 0,.int .u64 0,.int .u64 0,.int .u64 0,.int .u64 0,.int .u64 0,.int .u64 0,.int .u64 0,.int .u64 0,.int .u64 0,.int .u64 0,.int .u64 0,.int .u64 0,.int .u64 0,.int .u64 0,.int .u64 0,.int .u64 0,.int .u64 0,.int .u64 0,.int .u64 0,.int .u64 0,.int .u64 0,.int .u64 0,.int .u64 0,.int .u64 0,.int .u64 0,.int .u64 0,.int .u64 0,.int .u64 0,.int .u64 0,.int .u64 0,.int .u64 0]⟩:=rfl
@[simp] theorem tab425:tab 425=pT 3:=rfl
@[simp] theorem tab464:tab 464=⟨.struct [(0,17),(1,17),(2,17),(3,9)],true,4,40,[.nilp,.nilp,.nilp,.str []]⟩:=rfl
@[simp] theorem tab465:tab 465=⟨.array 0 16,true,0,0,[]⟩:=rfl
@[simp] theorem tab467:tab 467=⟨.struct [(0,465)],true,0,0,[]⟩:=rfl
@[simp] theorem tab468:tab 468=⟨.int .u8,false,1,1,[.int .u8 0]⟩:=rfl
@[simp] theorem tab469:tab 469=⟨.int .u8,false,1,1,[.int .u8 0]⟩:=rfl
@[simp] theorem tab470:tab 470=fT:=rfl
@[simp] theorem tab471:tab 471=⟨.int .i32,false,1,4,[.int .i32 0]⟩:=rfl
@[simp] theorem tab472:tab 472=⟨.int .i32,false,1,4,[.int .i32 0]⟩:=rfl
@[simp] theorem tab474:tab 474=⟨.struct [(0,12),(1,12),(2,373),(3,468),(4,5),(5,5),(6,469),(7,470),(8,246),(9,471),(10,472)],true,11,48,[.int .u64 0,.int .u64 0,.int .u32 0,.int .u8 0,.int .u8 0,.int .u8 0,.int .u8 0,.nilf,.nilp,.int .i32 0,.int .i32 0]⟩:=rfl
theorem mixed:prog.follows .mixedOrders=true:=by kernel_rfl
abbrev Str:=List UInt8
attribute [simp] w6 w8
theorem big1{x:Nat}(h:x<=140737488355328):(140737488355328<x)=False:=by simp;omega
theorem big2{x:Nat}(h:x<=9223372036854775807):(9223372036854775807<x)=False:=by simp;omega
@[simp] theorem getElem0{α:Type}(a:α)(l:List α):(a::l)[0]? = some a:=rfl
abbrev sl(es:List (List D)):D:=.slice es .no
abbrev dI(n:Int):D:=.int .i64 n
def cS(l:List Str):List (List D):=l.map fun s=>[.str s]
@[simp] theorem cS_get(l:List Str)(i:Nat):(cS l)[i]? = (l[i]?).map fun s=>[.str s]:=by simp[cS]
@[simp] theorem Dq(l:List Str): ∀c∈cS l,c.length=1:=by simp[cS]
def cI(l:List Int):List (List D):=l.map fun s=>[.int .i64 s]
@[simp] theorem JA(l:List Int):(cI l).length=l.length:=by simp[cI]
@[simp] theorem cI_get(l:List Int)(i:Nat):(cI l)[i]? = (l[i]?).map fun s=>[.int .i64 s]:=by simp[cI]
@[simp] theorem C2(l:List Int): ∀c∈cI l,c.length=1:=by simp[cI]
def cII(l:List (List Int)):List (List D):=l.map fun s=>[sl (cI s)]
@[simp] theorem cII_len(l:List (List Int)):(cII l).length=l.length:=by simp[cII]
@[simp] theorem cII_get(l:List (List Int))(i:Nat):(cII l)[i]? = (l[i]?).map fun s=>[sl (cI s)]:=by simp[cII]
@[simp] theorem cI_all(l:List Int):(cI l).all (fun c=>c.length==1)=true:=by simp[cI]
@[simp] theorem cII_all(l:List (List Int)):(cII l).all (fun c=>c.length==1)=true:=by simp[cII]
@[simp] theorem BJ(l:List (List Int)): ∀c∈cII l,c.length=1:=by simp[cII]
structure Init where
 slot:Int
 n:Int
 deriving DecidableEq
structure BClass where
 parents:List Int
 slots:List Int
 inits:List Init
 deriving DecidableEq
inductive Fact where
 |mk (op arg:Int) (path:List Int) (cls n:Int) (kids:List Fact)
structure BMeth where
 kind:Int
 gen:Int
 fact:Fact
 node:Int
structure BNode where
 op:Int
 n:Int
 kids:List Int
 deriving DecidableEq
structure BProg where
 classes:List BClass
 slots:Int
 gens:List Int
 methods:List BMeth
 nodes:List BNode
 main:Int
inductive FExp where
 |mk (op n:Int) (text:Str) (kids:List FExp)
inductive FFact where
 |mk (op:Int) (name:Str) (path:List Str) (cls:Str) (n:Int) (kids:List FFact)
structure FInit where
 slot:Str
 n:Int
 deriving DecidableEq
structure FClass where
 name:Str
 parents:List Str
 slots:List Str
 inits:List FInit
 deriving DecidableEq
structure FMeth where
 kind:Int
 name:Str
 params:List Str
 fact:FFact
 body:FExp
structure FProg where
 classes:List FClass
 methods:List FMeth
 main:FExp
structure World where
 parents:List (List Int)
 owner:List Int
 deriving DecidableEq
section
def Fact.op:Fact->Int|.mk o _ _ _ _ _=>o
def Fact.arg:Fact->Int|.mk _ a _ _ _ _=>a
def Fact.path:Fact->List Int|.mk _ _ p _ _ _=>p
def Fact.cls:Fact->Int|.mk _ _ _ c _ _=>c
def Fact.n:Fact->Int|.mk _ _ _ _ n _=>n
def Fact.kids:Fact->List Fact|.mk _ _ _ _ _ k=>k
def FExp.op:FExp->Int|.mk o _ _ _=>o
def FExp.n:FExp->Int|.mk _ n _ _=>n
def FExp.text:FExp->Str|.mk _ _ t _=>t
def FExp.kids:FExp->List FExp|.mk _ _ _ k=>k
def FFact.op:FFact->Int|.mk o _ _ _ _ _=>o
def FFact.name:FFact->Str|.mk _ s _ _ _ _=>s
def FFact.path:FFact->List Str|.mk _ _ p _ _ _=>p
def FFact.cls:FFact->Str|.mk _ _ _ c _ _=>c
def FFact.n:FFact->Int|.mk _ _ _ _ n _=>n
def FFact.kids:FFact->List FFact|.mk _ _ _ _ _ k=>k
theorem Fact.lt{f x:Fact}(h:x∈f.kids):SizeOf.sizeOf x<SizeOf.sizeOf f:=by
 cases f;simp only[Fact.kids]at h
 have:=List.sizeOf_lt_of_mem h
 simp;omega
theorem FExp.lt{f x:FExp}(h:x∈f.kids):SizeOf.sizeOf x<SizeOf.sizeOf f:=by
 cases f;simp only[FExp.kids]at h
 have:=List.sizeOf_lt_of_mem h
 simp;omega
theorem FFact.lt{f x:FFact}(h:x∈f.kids):SizeOf.sizeOf x<SizeOf.sizeOf f:=by
 cases f;simp only[FFact.kids]at h
 have:=List.sizeOf_lt_of_mem h
 simp;omega
end
mutual
def Cc:Fact->List D
 |.mk o a p c n k=>[dI o,dI a,sl (cI p),dI c,dI n,sl (N4 k)]
def N4:List Fact->List (List D)
 |[]=>[]
 |f::l=>Cc f::N4 l
end
theorem KP: ∀l,N4 l=l.map Cc
 |[]=>by rw[N4];rfl
 |f::l=>by rw[N4,KP l];rfl
@[simp] theorem Ef(f:Fact):Cc f=[dI f.op,dI f.arg,sl (cI f.path),dI f.cls,dI f.n,sl (f.kids.map Cc)]:=by
 cases f;rw[Cc,KP];rfl
mutual
def JD:FExp->List D
 |.mk o n t k=>[dI o,dI n,.str t,sl (N5 k)]
def N5:List FExp->List (List D)
 |[]=>[]
 |f::l=>JD f::N5 l
end
theorem KQ: ∀l,N5 l=l.map JD
 |[]=>by rw[N5];rfl
 |f::l=>by rw[N5,KQ l];rfl
@[simp] theorem G5(f:FExp):JD f=[dI f.op,dI f.n,.str f.text,sl (f.kids.map JD)]:=by
 cases f;rw[JD,KQ];rfl
mutual
def Hq:FFact->List D
 |.mk o s p c n k=>[dI o,.str s,sl (cS p),.str c,dI n,sl (JC k)]
def JC:List FFact->List (List D)
 |[]=>[]
 |f::l=>Hq f::JC l
end
theorem JB: ∀l,JC l=l.map Hq
 |[]=>by rw[JC];rfl
 |f::l=>by rw[JC,JB l];rfl
@[simp] theorem EE(f:FFact):Hq f=[dI f.op,.str f.name,sl (cS f.path),.str f.cls,dI f.n,sl (f.kids.map Hq)]:=by
 cases f;rw[Hq,JB];rfl
@[simp] def HT(i:Init):List D:=[dI i.slot,dI i.n]
@[simp] def HU(c:BClass):List D:=[sl (cI c.parents),sl (cI c.slots),sl (c.inits.map HT)]
@[simp] def KR(m:BMeth):List D:=[dI m.kind,dI m.gen]++Cc m.fact++[dI m.node]
@[simp] def Hr(x:BNode):List D:=[dI x.op,dI x.n,sl (cI x.kids)]
@[simp] def Ad(p:BProg):List D:=[sl (p.classes.map HU),dI p.slots,sl (cI p.gens),sl (p.methods.map KR),sl (p.nodes.map Hr),dI p.main]
@[simp] def U6(i:FInit):List D:=[.str i.slot,dI i.n]
@[simp] def NQ(c:FClass):List D:=[.str c.name,sl (cS c.parents),sl (cS c.slots),sl (c.inits.map U6)]
@[simp] def U5(m:FMeth):List D:=[dI m.kind,.str m.name,sl (cS m.params)]++Hq m.fact++JD m.body
@[simp] def cFProg(p:FProg):List D:=[sl (p.classes.map NQ),sl (p.methods.map U5)]++JD p.main
@[simp] def DW(w:World):List D:=[sl (cII w.parents),sl (cI w.owner)]
theorem Bc{O:Sig}{i j:Nat}{o:DObj}(h:O.set i o j=none):j≠i/\O j=none:=by
 by_cases hj:j=i
 ·subst hj;rw[w6]at h;cases h
 ·rw[w7 _ _ hj]at h;exact⟨hj,h⟩
theorem A9{α:Type}{l:List α}{k:Nat}(h:¬k<l.length):l.drop k=[]:=List.drop_of_length_le (by omega)
theorem A5{α:Type}{l:List α}{k:Nat}(h:k<l.length):l.drop k=l[k]::l.drop (k+1):=List.drop_eq_getElem_cons h
@[simp] theorem cI_nil:cI []=[]:=rfl
@[simp] theorem cS_nil:cS []=[]:=rfl
@[simp] theorem cII_nil:cII []=[]:=rfl
@[simp] theorem cI_take(l:List Int)(k:Nat):(cI l).take k=cI (l.take k):=by simp[cI]
@[simp] theorem cI_tail(l:List Int):(cI l).tail=cI l.tail:=by simp[cI]
theorem Bt(f:Fact):[dI f.op,dI f.arg,sl (cI f.path),dI f.cls,dI f.n,sl (f.kids.map Cc)]=Cc f:=by simp
theorem Bu(f:FExp):[dI f.op,dI f.n,.str f.text,sl (f.kids.map JD)]=JD f:=by simp
theorem AW(f:FFact):[dI f.op,.str f.name,sl (cS f.path),.str f.cls,dI f.n,sl (f.kids.map Hq)]=Hq f:=by simp
theorem Bs(i:Init):[dI i.slot,dI i.n]=HT i:=rfl
theorem AM(c:BClass):[sl (cI c.parents),sl (cI c.slots),sl (c.inits.map HT)]=HU c:=rfl
theorem AZ(m:BMeth):[dI m.kind,dI m.gen,dI m.fact.op,dI m.fact.arg,sl (cI m.fact.path),dI m.fact.cls,dI m.fact.n,sl (m.fact.kids.map Cc),dI m.node]=KR m:=by simp
theorem AY(x:BNode):[dI x.op,dI x.n,sl (cI x.kids)]=Hr x:=rfl
theorem AX(p:BProg):[sl (p.classes.map HU),dI p.slots,sl (cI p.gens),sl (p.methods.map KR),sl (p.nodes.map Hr),dI p.main]=Ad p:=rfl
theorem AV(i:FInit):[.str i.slot,dI i.n]=U6 i:=rfl
theorem AL(c:FClass):[.str c.name,sl (cS c.parents),sl (cS c.slots),sl (c.inits.map U6)]=NQ c:=rfl
theorem AU(m:FMeth):dI m.kind :: .str m.name::sl (cS m.params)::dI m.fact.op :: .str m.fact.name::sl (cS m.fact.path) :: .str m.fact.cls::dI m.fact.n::sl (m.fact.kids.map Hq)::JD m.body=U5 m:=by simp
theorem AT(p:FProg):sl (p.classes.map NQ)::sl (p.methods.map U5)::JD p.main=cFProg p:=by simp
theorem AS(w:World):[sl (cII w.parents),sl (cI w.owner)]=DW w:=rfl
def wtL{α:Type}(f:α->Nat):List α->Nat
 |[]=>0
 |x::l=>f x+wtL f l
theorem Eh{α:Type}(f:α->Nat): ∀(l:List α) (k:Nat) (h:k<l.length),f l[k]<=wtL f l
 |x::l,0,_=>by simp[wtL]
 |x::l,k+1,h=>by
  have:=Eh f l k (by simpa using h)
  simp only[List.getElem_cons_succ,wtL];omega
theorem Eg{α:Type}(f:α->Nat)(hf:∀x,1<=f x): ∀l:List α,l.length<=wtL f l
 |[]=>Nat.le_refl _
 |x::l=>by
  have:=Eg f hf l
  have:=hf x
  simp only[List.length_cons,wtL];omega
theorem Nd{α:Type}(f:α->Nat): ∀l m:List α,wtL f (l++m)=wtL f l+wtL f m
 |[],m=>by simp[wtL]
 |x::l,m=>by simp only[List.cons_append,wtL,Nd f l m];omega
def wtS:List Str->Nat:=wtL fun s=>1+s.length
mutual
def Fact.wt:Fact->Nat
 |.mk _ _ p _ _ k=>1+p.length+Fact.wts k
def Fact.wts:List Fact->Nat
 |[]=>0
 |f::l=>f.wt+Fact.wts l
end
mutual
def FExp.wt:FExp->Nat
 |.mk _ _ t k=>1+t.length+FExp.wts k
def FExp.wts:List FExp->Nat
 |[]=>0
 |f::l=>f.wt+FExp.wts l
end
mutual
def FFact.wt:FFact->Nat
 |.mk _ s p c _ k=>1+s.length+wtS p+c.length+FFact.wts k
def FFact.wts:List FFact->Nat
 |[]=>0
 |f::l=>f.wt+FFact.wts l
end
theorem Fact.wts_eq: ∀l,Fact.wts l=wtL Fact.wt l
 |[]=>by rw[Fact.wts,wtL]
 |f::l=>by rw[Fact.wts,wtL,Fact.wts_eq l]
theorem FExp.wts_eq: ∀l,FExp.wts l=wtL FExp.wt l
 |[]=>by rw[FExp.wts,wtL]
 |f::l=>by rw[FExp.wts,wtL,FExp.wts_eq l]
theorem FFact.wts_eq: ∀l,FFact.wts l=wtL FFact.wt l
 |[]=>by rw[FFact.wts,wtL]
 |f::l=>by rw[FFact.wts,wtL,FFact.wts_eq l]
theorem Fact.wt_eq(f:Fact):f.wt=1+f.path.length+wtL Fact.wt f.kids:=by cases f;rw[Fact.wt,Fact.wts_eq];rfl
theorem FExp.wt_eq(f:FExp):f.wt=1+f.text.length+wtL FExp.wt f.kids:=by cases f;rw[FExp.wt,FExp.wts_eq];rfl
theorem FFact.wt_eq(f:FFact):f.wt=1+f.name.length+wtS f.path+f.cls.length+wtL FFact.wt f.kids:=by cases f;rw[FFact.wt,FFact.wts_eq];rfl
theorem Fact.wt_pos(f:Fact):1<=f.wt:=by rw[Fact.wt_eq];omega
theorem FExp.wt_pos(f:FExp):1<=f.wt:=by rw[FExp.wt_eq];omega
theorem FFact.wt_pos(f:FFact):1<=f.wt:=by rw[FFact.wt_eq];omega
theorem Fact.wt_le(f:Fact):f.path.length<f.wt/\f.kids.length<f.wt /\ ∀(k:Nat) (h:k<f.kids.length),(f.kids[k]).wt<f.wt:=by
 have h1:=Fact.wt_eq f
 have h2:=Eg Fact.wt Fact.wt_pos f.kids
 exact⟨by omega,by omega,fun k h=>by have:=Eh Fact.wt f.kids k h;omega⟩
theorem FExp.wt_le(f:FExp):f.text.length<f.wt/\f.kids.length<f.wt /\ ∀(k:Nat) (h:k<f.kids.length),(f.kids[k]).wt<f.wt:=by
 have h1:=FExp.wt_eq f
 have h2:=Eg FExp.wt FExp.wt_pos f.kids
 exact⟨by omega,by omega,fun k h=>by have:=Eh FExp.wt f.kids k h;omega⟩
theorem FFact.wt_le(f:FFact):f.name.length<f.wt/\wtS f.path<f.wt/\f.cls.length<f.wt/\f.kids.length<f.wt /\ ∀(k:Nat) (h:k<f.kids.length),(f.kids[k]).wt<f.wt:=by
 have h1:=FFact.wt_eq f
 have h2:=Eg FFact.wt FFact.wt_pos f.kids
 exact⟨by omega,by omega,by omega,by omega,fun k h=>by have:=Eh FFact.wt f.kids k h;omega⟩
def BClass.wt(c:BClass):Nat:=1+c.parents.length+c.slots.length+c.inits.length
def BNode.wt(x:BNode):Nat:=1+x.kids.length
def BMeth.wt(m:BMeth):Nat:=1+m.fact.wt
def BProg.wt(p:BProg):Nat:=1+wtL BClass.wt p.classes+p.gens.length+wtL BMeth.wt p.methods+wtL BNode.wt p.nodes
def FInit.wt(i:FInit):Nat:=1+i.slot.length
def FClass.wt(c:FClass):Nat:=1+c.name.length+wtS c.parents+wtS c.slots+wtL FInit.wt c.inits
def FMeth.wt(m:FMeth):Nat:=1+m.name.length+wtS m.params+m.fact.wt+m.body.wt
def FProg.wt(p:FProg):Nat:=1+wtL FClass.wt p.classes+wtL FMeth.wt p.methods+p.main.wt
theorem BProg.wt_le(p:BProg):p.classes.length<p.wt/\p.gens.length<p.wt/\p.methods.length<p.wt/\p.nodes.length<p.wt /\
  (∀(k:Nat) (h:k<p.classes.length),(p.classes[k]).wt<p.wt)/\(∀(k:Nat) (h:k<p.methods.length),(p.methods[k]).wt<p.wt) /\ ∀(k:Nat) (h:k<p.nodes.length),(p.nodes[k]).wt<p.wt:=by
 have h1:=Eg BClass.wt (fun x=>by unfold BClass.wt;omega) p.classes
 have h2:=Eg BMeth.wt (fun x=>by unfold BMeth.wt;omega) p.methods
 have h3:=Eg BNode.wt (fun x=>by unfold BNode.wt;omega) p.nodes
 unfold BProg.wt
 exact⟨by omega,by omega,by omega,by omega,fun k h=>by have:=Eh BClass.wt p.classes k h;omega,fun k h=>by have:=Eh BMeth.wt p.methods k h;omega,fun k h=>by have:=Eh BNode.wt p.nodes k h;omega⟩
theorem FProg.wt_le(p:FProg):p.classes.length<p.wt/\p.methods.length<p.wt/\p.main.wt<p.wt /\
  (∀(k:Nat) (h:k<p.classes.length),(p.classes[k]).wt<p.wt)/\(∀(k:Nat) (h:k<p.methods.length),(p.methods[k]).wt<p.wt):=by
 have h1:=Eg FClass.wt (fun x=>by unfold FClass.wt;omega) p.classes
 have h2:=Eg FMeth.wt (fun x=>by unfold FMeth.wt;omega) p.methods
 unfold FProg.wt
 exact⟨by omega,by omega,by omega,fun k h=>by have:=Eh FClass.wt p.classes k h;omega,fun k h=>by have:=Eh FMeth.wt p.methods k h;omega⟩
theorem FClass.wt_le(c:FClass):c.name.length<c.wt/\wtS c.parents<c.wt/\wtS c.slots<c.wt/\c.inits.length<c.wt /\ ∀(k:Nat) (h:k<c.inits.length),(c.inits[k]).slot.length<c.wt:=by
 have h1:=Eg FInit.wt (fun x=>by unfold FInit.wt;omega) c.inits
 unfold FClass.wt
 exact⟨by omega,by omega,by omega,by omega,fun k h=>by have:=Eh FInit.wt c.inits k h;unfold FInit.wt at this⊢; omega⟩
end Go.DL
namespace Go.Proofs
open Go.Proofs.Tryz
open Go.Shelf
def laysSort_ren:Go.Shelf.Ren:=⟨fun x=>match x with|189=>240|125=>289|257=>288|128=>335|129=>316|294=>326|295=>327|296=>328|297=>329|298=>330|299=>331|216=>332|300=>333|301=>334|328=>360|329=>361|330=>362|331=>363|332=>364|215=>365|343=>383|n=>n,fun x=>match x with|28=>23|3=>3|46=>320|0=>0|51=>373|53=>338|4=>4|183=>400|182=>399|131=>227|5=>5|9=>9|218=>440|222=>425|228=>454|229=>249|n=>n,fun n=>n⟩
theorem laysSort:Lays.n189 prog laysSort_ren:=
 {mixed:=Eq.refl true,f125:=func289.trans (congrArg some (by kernel_rfl)),f128:=func335.trans (congrArg some (by kernel_rfl)),f129:=func316.trans (congrArg some (by kernel_rfl)),f189:=func240.trans (congrArg some (by kernel_rfl)),f215:=func365.trans (congrArg some (by kernel_rfl)),f216:=func332.trans (congrArg some (by kernel_rfl)),f257:=func288.trans (congrArg some (by kernel_rfl)),f294:=func326.trans (congrArg some (by kernel_rfl)),f295:=func327.trans (congrArg some (by kernel_rfl)),f296:=func328.trans (congrArg some (by kernel_rfl)),f297:=func329.trans (congrArg some (by kernel_rfl)),f298:=func330.trans (congrArg some (by kernel_rfl)),f299:=func331.trans (congrArg some (by kernel_rfl)),f300:=func333.trans (congrArg some (by kernel_rfl)),f301:=func334.trans (congrArg some (by kernel_rfl)),f328:=func360.trans (congrArg some (by kernel_rfl)),f329:=func361.trans (congrArg some (by kernel_rfl)),f330:=func362.trans (congrArg some (by kernel_rfl)),f331:=func363.trans (congrArg some (by kernel_rfl)),f332:=func364.trans (congrArg some (by kernel_rfl)),f343:=func383.trans (congrArg some (by kernel_rfl)),t0:=underlying0,a0:=isAgg0,z0:=sizeOf0,v0:=zeroValue0,t3:=underlying3,a3:=isAgg3,z3:=sizeOf3,v3:=zeroValue3,t4:=underlying4,a4:=isAgg4,z4:=sizeOf4,v4:=zeroValue4,t5:=underlying5,a5:=isAgg5,z5:=sizeOf5,v5:=zeroValue5,t9:=underlying9,a9:=isAgg9,z9:=sizeOf9,v9:=zeroValue9,t28:=underlying23,a28:=isAgg23,z28:=sizeOf23,v28:=zeroValue23,t46:=underlying320,a46:=isAgg320,z46:=sizeOf320,v46:=zeroValue320,t51:=underlying373,a51:=isAgg373,z51:=sizeOf373,v51:=zeroValue373,t53:=underlying338,a53:=isAgg338,z53:=sizeOf338,v53:=zeroValue338,t131:=underlying227,a131:=isAgg227,z131:=sizeOf227,v131:=zeroValue227,t182:=underlying399,a182:=isAgg399,z182:=sizeOf399,v182:=zeroValue399,t183:=underlying400,a183:=isAgg400,z183:=sizeOf400,v183:=zeroValue400,t218:=underlying440,a218:=isAgg440,z218:=sizeOf440,v218:=zeroValue440,t222:=underlying425,a222:=isAgg425,z222:=sizeOf425,v222:=zeroValue425,t228:=underlying454,a228:=isAgg454,z228:=sizeOf454,v228:=zeroValue454,t229:=underlying249,a229:=isAgg249,z229:=sizeOf249,v229:=zeroValue249 }
end Go.Proofs
namespace Go.DL
open Go.Proofs.Tryz
open Go Go.Proofs Go.Sort
def EN(l:List Int):List Int:=l.mergeSort fun x y=>decide (x<=y)
theorem GO(l:List Int):(EN l).length=l.length:=by unfold EN;exact List.length_mergeSort _
theorem Mf(l:List Int)(j:Nat)(h:j<l.length):l.toArray[j]! = l[j]:=by simp[getElem!_pos,h]
theorem SB(l:List Int)(st:MR)(O:Sig)(hm:mOK O 1 st (cI l))(hl:l.length<=1073741824):
  DCall prog 240 [mD st l.length] (mS O st (cI l)) fun x U'=>x=.ret (.tup [])/\U'=mS O st (cI (EN l)):=by
 have hL:∀f∈[laysSort_ren.f 189,laysSort_ren.f 257,laysSort_ren.f 125,laysSort_ren.f 294,laysSort_ren.f 295,laysSort_ren.f 296,laysSort_ren.f 297,laysSort_ren.f 298,laysSort_ren.f 299,laysSort_ren.f 216,laysSort_ren.f 300,laysSort_ren.f 301,laysSort_ren.f 129,laysSort_ren.f 328,laysSort_ren.f 329,laysSort_ren.f 330,laysSort_ren.f 331,laysSort_ren.f 332,laysSort_ren.f 215,laysSort_ren.f 343],f<prog.funcs.size:=by
  rw[Ah];decide
 refine⟨by rw[Ah];decide,BT func240 (by rfl) (by rfl),fun g w vs hs ha=>?_⟩
 obtain⟨v,r,rfl,hv,rfl⟩:=ha
 cases st with
 |none=>
  have aF:l=[]:=by have:cI l=[]:=hm;simpa[cI] using this
  subst aF
  have aC:v=.slice none 0 0:=hv
  subst aC
  refine(KO (fun D=>AnyS.slices_Sort_int_none_alone laysSort D none 0 w) hL {}).mono ?_
  rintro e w' ⟨rfl,rfl⟩
  refine⟨g,.ret (.tup []),_,.refl g,hs,⟨_,rfl,[],rfl,rfl⟩,rfl,?_⟩
  simp[mS]
 | some x =>
  obtain⟨i,cap,rest⟩:=x
  obtain⟨h1,h2,h3,h4⟩:=hm
  obtain⟨b,hb,hv⟩:=hv
  subst hv
  obtain⟨b',vs,ty,ay,aa,hr⟩:=hs.obj i _ (w6 ..)
  obtain rfl:b'=b:=by rw[hb]at ay;cases ay;rfl
  have aj:∀m:List Int,(cI m).flatten=m.map (D.int .i64):=fun m=>by induction m with
   |nil=>rfl
   |cons x m ih=>simp only[cI,List.map_cons,List.flatten_cons]at ih⊢; rw[ih];rfl
  have hlen:=RepL.length hr
  simp only[Array.length_toList,List.length_append,aj,List.length_map]at hlen
  have aw:∀j (hj:j<l.length),vs[j]? = some (.int .i64 l[j]):=by
   intro j hj
   have:=RepL.get hr j
   rw[List.getElem?_append_left (by simp[aj,hj]),aj]at this
   simp only[List.getElem?_map,List.getElem?_eq_getElem hj,Option.map_some,Option.getD_some,Array.getElem?_toList]at this
   have ap:j<vs.size:=by omega
   rw[Array.getElem?_eq_getElem ap]at this⊢
   have this':vs[j]=.int .i64 l[j]:=this
   rw[this']
  have hH:Holds (Value.int .i64) w b' 0 l.toArray:=by
   intro j hj
   have ax:j<l.length:=by simpa using hj
   refine⟨?_,by simp[Go.World.frozen?, aa]⟩
   simp only[Go.World.cell?, aa,Nat.zero_add]
   rw[Mf l j ax];exact aw j ax
  have aH:b'<w.heap.size:=(Array.getElem?_eq_some_iff.1 aa).1
  refine(KO (fun D=>AnyS.slices_Sort_int_alone laysSort D b' 0 cap l w hH aH (by omega)) hL {}).mono ?_
  rintro e w' ⟨rfl,q,os,rfl⟩
  refine⟨g,.ret (.tup []),_,.refl g,?_,⟨_,rfl,[],rfl,rfl⟩,rfl,rfl⟩
  have aE:=GO l
  have ak:=hs.setObj (i:=i) (b:=b') (ds':=(cI (EN l)).flatten++rest) (vs':=putCells (Value.int .i64) 0 (EN l).toArray vs) (ty:=ty) (w6 ..) hb ?_ ⟨vs,aa⟩
  ·have e1:(mS O (some (i,cap,rest)) (cI l)).set i (.cells ((cI (EN l)).flatten++rest))=mS O (some (i,cap,rest)) (cI (EN l)):=w8 ..
   rw[e1]at ak
   refine ak.later (fun k x hx=>?_) rfl
   have hk:k<w.heap.size:=by have:=(Array.getElem?_eq_some_iff.1 hx).1;simpa[setB] using this
   simp only[grow,putRow,mapBlock]
   have ea:(Sort.ahead w q).heap=w.heap:=rfl
   rw[ea]
   rw[Array.getElem?_append_left (by simpa using hk)]
   by_cases au:k=b'
   ·subst au
    rw[EP aa]at hx
    rw[Array.getElem?_modify,if_pos rfl,aa,<-hx]
    rfl
   ·rw[EO au]at hx
    rw[Array.getElem?_modify,if_neg (fun e=>au e.symm),hx]
  ·refine AH (by simp[putCells,aj];omega) fun j d u hd hu=>?_
   rw[aj]at hd
   simp only[putCells,Array.getElem?_toList,Array.getElem?_mapIdx,Nat.zero_le,true_and,Nat.zero_add,List.size_toArray,Nat.sub_zero]at hu
   have ap:j<vs.size:=by
    rcases Nat.lt_or_ge j vs.size with h|h
    ·exact h
    ·rw[Array.getElem?_eq_none h]at hu;cases hu
   rw[Array.getElem?_eq_getElem ap]at hu
   simp only[Option.map_some,Option.some.injEq]at hu
   by_cases hj:j<(EN l).length
   ·rw[if_pos hj,Mf _ _ hj]at hu
    rw[List.getElem?_append_left (by simpa using hj),List.getElem?_map,List.getElem?_eq_getElem hj]at hd
    simp only[Option.map_some,Option.some.injEq]at hd
    subst hd hu
    exact rfl
   ·rw[if_neg hj]at hu
    rw[List.getElem?_append_right (by simpa using hj)]at hd
    have:=RepL.get hr j
    rw[List.getElem?_append_right (by simp[aj];omega),aj]at this
    simp only[List.length_map]at hd this
    rw[aE]at hd
    rw[hd,Array.getElem?_toList,Array.getElem?_eq_getElem ap,hu]at this
    exact this
end Go.DL
namespace Go.DL
open Go.Proofs.Tryz
open Go Go.Proofs
structure Hold(F:Prop):Prop where
 get:F
theorem Dj{a b:Int}(h:a<=b):decide (a<=b)=true:=by simp[h]
theorem Cq{a b:Int}(h:b<a):decide (a<=b)=false:=by simp;omega
theorem Di{a b:Int}(h:a<b):decide (a<b)=true:=by simp[h]
theorem Cp{a b:Int}(h:b<=a):decide (a<b)=false:=by simp;omega
theorem FC{p:Prop}[Decidable p]{α:Type}{a b:α}(h:p):(if p then a else b)=a:=if_pos h
theorem Dk{a b:Int}(h:a=b):decide (a=b)=true:=by simp[h]
theorem Dh{a b:Int}(h:¬a=b):decide (a=b)=false:=by simp[h]
theorem Ck{a b:Nat}(h:a<=b):decide (a<=b)=true:=by simp[h]
theorem BC{a b:Nat}(h:b<a):decide (a<=b)=false:=by simp;omega
theorem Cj{a b:Nat}(h:a<b):decide (a<b)=true:=by simp[h]
theorem BB{a b:Nat}(h:b<=a):decide (a<b)=false:=by simp;omega
theorem Cl{a b:Nat}(h:a=b):decide (a=b)=true:=by simp[h]
theorem Ci{a b:Nat}(h:¬a=b):decide (a=b)=false:=by simp[h]
theorem Ac(a b:Bool):(DE.ret (.bool a)=DE.ret (.bool b))=(a=b):=by simp
structure VarsAre(vars:List Nat):Prop
theorem IE{P:Program}{ro:Ro}{n:Nat}{ops:Array Oper}{Q:DX->St->Prop}{df:List DDf}{rest:List Oper}{γ Sr:Fr}{O:Sig}{t:Nat}{ty:TypeId}{pos:String}{after:Array Edge}{d:D}{vars:List Nat}(_:VarsAre vars){tab:Nat->Ty}(ht:AP P tab){T T' ty':Nat}{x:Operand}{pos':String}{after':Array Edge}{cs:List D}(hv:vars.contains t=false)(hT:T'=T)(ac:decide (t<n)=true)(hx:F6 t x=true)(ho:A0 (tab T).k=false)
  (hl:A1 γ (A7 [x])=some Sr) (he:ev Sr x=d) (ae:d.told=true) (hc:d.cells=cs) (hlen:cs.length=(tab T).size) (ag:BS cs=true)
  (h:DOps P ro n ops Q rest ⟨(t,.cptr cs 0)::γ,O,df⟩) :
  DOps P ro n ops Q (⟨some t,.alloc T,ty,pos,after,none⟩::⟨none,.store T' (.tmp t) x,ty',pos',after',none⟩::rest) ⟨γ,O,df⟩:=
 Uq ht vars hv hT ac hx ho hl he ae hc hlen ag h
theorem Hy{P:Program}{ro:Ro}{n:Nat}{ops:Array Oper}{Q:DX->St->Prop}{df:List DDf}{rest:List Oper}{γ Sr Sr2:Fr}{O:Sig}{t t2:Nat}{d d2:D}{vars:List Nat}(_:VarsAre vars){tab:Nat->Ty}(ht:AP P tab){T T' ty ty' ty2:Nat}{x y:Operand}{pos pos' pos2:String}{after after' after2:Array Edge}{cs:List D}(hv:vars.contains t=false)(hT:T'=T)(ac:decide (t<n)=true)(aq:decide (t2<n)=true)(hx:F6 t x=true)(hy:F6 t y=true)(aA:F6 t2 x=true)(aI:decide (t2=t)=false)(ho:A0 (tab T).k=false)
  (ar:A1 γ (A7 [y])=some Sr2) (aG:ev Sr2 y=d2) (hl:A1 γ (A7 [x])=some Sr) (he:ev Sr x=d) (ae:d.told=true) (hc:d.cells=cs) (hlen:cs.length=(tab T).size) (ag:BS cs=true)
  (h:DOps P ro n ops Q rest ⟨(t,.cptr cs 0)::(t2,d2)::γ,O,df⟩) :
  DOps P ro n ops Q (⟨some t,.alloc T,ty,pos,after,none⟩::⟨some t2,.assign y,ty2,pos2,after2,none⟩::⟨none,.store T' (.tmp t) x,ty',pos',after',none⟩::rest) ⟨γ,O,df⟩:=
 Qk ht vars hv hT ac aq hx hy aA aI ho ar aG hl he ae hc hlen ag h
theorem td0{p:Prop}(h:p:=by simp(disch:=first|omega|assumption) [Ay,big1,big2,w7]<;>(try simp only[Bt,Bu,AW,Bs,AM,AZ,AY,AX,AV,AL,AU,AT,AS])<;>with_unfolding_all rfl):p:=h
theorem tdW{p:Prop}(h:p:=by first|exact Ab _|exact BY _ _|exact An _ (.inl rfl)|exact Ei _|(refine Ht _ ?_;first|omega|(simp;done)|(simp;omega))|(refine BX ?_;(simp;done))|(refine BX ?_;(simp[cI,cS,cII,Ef,EE,G5];done))|(refine D9 _ ?_;(simp[cI,cS,cII];done))|(refine BX ?_;(simp_all;done))|assumption):p:=h
theorem tdT{p:Prop}(h:p:=by(first|refine Fi ?_ ?_|skip)<;>(repeat' first|exact Fh|refine Em tdR ?_ ?_|(first|exact Ab _|exact BY _ _|exact An _ (.inl rfl)|exact Ei _|(refine Ht _ ?_;first|omega|(simp;done)|(simp;omega))|(refine BX ?_;(simp;done))|(refine BX ?_;(simp[cI,cS,cII,Ef,EE,G5];done))|(refine D9 _ ?_;(simp[cI,cS,cII];done))|(refine BX ?_;(simp_all;done))|assumption))):p:=h
theorem tdU{p:Prop}(h:p:=by first|exact Sub.refl _|(refine BN ?_;simp;done)|assumption|exact(Sub.refl _).set (by assumption)):p:=h
section
variable {P:Program}{ro:Ro}{n:Nat}{ops:Array Oper}{N:Nat}{S0:Sig}{Q:DX->St->Prop}{df:List DDf}{rest:List Oper}{γ Sr:List (Nat×D)}{O:Sig}{t:Nat}{ty:TypeId}{pos:String}{after:Array Edge}{l:List (Bool×Oper)}{d:D}
theorem Bg{fop:Operand}{args:Array Operand}{ats:Array TypeId}{f:Nat}{first cap us bs:List D}(h:DCall P f bs O (rS d O))(k1:DOps P ro n ops Q rest ⟨(t,d)::γ,O,df⟩)(hl:A1 γ (A7 (fop::args.toList))=some Sr:=by exact tdR)(hf:ev Sr fop=.func (.func f) first cap:=by exact tdR)(ha:first++args.toList.map (ev Sr)++cap=us:=by exact td0)(hp:bs=us:=by exact tdR)(ac:decide (t<n)=true:=by exact tdR):DOps P ro n ops Q (⟨some t,(cv fop args ats),ty,pos,after,none⟩::rest) ⟨γ,O,df⟩:=K6 hl hf ha (.inl hp) h ac k1
theorem CR{fop:Operand}{args:Array Operand}{ats:Array TypeId}{f:Nat}{first cap us bs:List D}{j:Nat}{want:Bool}{k:Nat}(h:DCall P f bs O (rS d O))(k1:DOps P ro n ops Q rest ⟨(t,d)::γ,O,df⟩)(hk:(ops[j]?).bind (·.dst)=some k:=by exact tdR)(hb:γ.lookup k=some (.bool want):=by exact tdR)(hl:A1 γ (A7 (fop::args.toList))=some Sr:=by exact tdR)(hf:ev Sr fop=.func (.func f) first cap:=by exact tdR)(ha:first++args.toList.map (ev Sr)++cap=us:=by exact td0)(hp:bs=us:=by exact tdR)(ac:decide (t<n)=true:=by exact tdR):DOps P ro n ops Q (⟨some t,(cv fop args ats),ty,pos,after,some (j,want)⟩::rest) ⟨γ,O,df⟩:=IF hk hb hl hf ha (.inl hp) h ac k1
theorem A4{fop:Operand}{args:Array Operand}{ats:Array TypeId}{f:Nat}{first cap us bs:List D}{R:DE->Sig->Prop}{dst:Option Tmp}(h:DCall P f bs O R)(ah:∀d U',R (.ret d) U'->DOps P ro n ops Q rest ⟨putD dst d γ,U',df⟩)(ai:∀d U',R (.panic d) U'->Q (.panic d) ⟨γ,U',df⟩)(hl:A1 γ (A7 (fop::args.toList))=some Sr:=by exact tdR)(hf:ev Sr fop=.func (.func f) first cap:=by exact tdR)(ha:first++args.toList.map (ev Sr)++cap=us:=by exact td0)(hp:bs=us:=by exact tdR)
  (ho:At n ⟨dst,(cv fop args ats),ty,pos,after,none⟩=true:=by exact tdR):DOps P ro n ops Q (⟨dst,(cv fop args ats),ty,pos,after,none⟩::rest) ⟨γ,O,df⟩:=GN hl hf ha (.inl hp) h ho ah ai
theorem U0{fop:Operand}{args:Array Operand}{ats:Array TypeId}{f:Nat}{first cap us bs:List D}{R:DE->Sig->Prop}{dst:Option Tmp}(h:DCall P f bs O R)(ah:∀d U',R (.ret d) U'->DOps P ro n ops Q rest ⟨putD dst d γ,U',df⟩)(ai:∀d U',R (.panic d) U'->Q (.panic d) ⟨γ,U',df⟩)(hl:A1 γ (A7 (fop::args.toList))=some Sr:=by exact tdR)(hf:ev Sr fop=.func (.func f) first cap:=by exact tdR)(ha:first++args.toList.map (ev Sr)++cap=us:=by exact td0)(hp:bs=us.map D.plain:=by exact tdR)
  (ho:At n ⟨dst,(cv fop args ats),ty,pos,after,none⟩=true:=by exact tdR):DOps P ro n ops Q (⟨dst,(cv fop args ats),ty,pos,after,none⟩::rest) ⟨γ,O,df⟩:=GN hl hf ha (.inr hp) h ho ah ai
theorem cndB{c:Nat}{x y:Code}{b:Bool}(ht:b=true->DWp P ro n x Q ⟨(c,.bool true)::γ,O,df⟩)(hf:b=false->DWp P ro n y Q ⟨(c,.bool false)::γ,O,df⟩)(hl:γ.lookup c=some (.bool b):=by exact tdR):DWp P ro n (.cond (.tmp c) x y) Q ⟨γ,O,df⟩:=by
 refine OJ (s:=⟨γ,O,df⟩) (t:=b) (Av hl) (fun h=>?_) (fun h=>?_)
 ·exact FL (BL (by rw[Av hl,h];exact Ab _)) (ht h)
 ·exact FL (BL (by rw[Av hl,h];exact Ab _)) (hf h)
theorem mix{lo:List Oper}{id:Nat}(ord E:List Nat){lp:List (Bool×Oper)}(h:MO prog ro n lo.toArray 431 O Q df lp γ O)(hB:F7 lo.toArray E ord=true:=by kernel_rfl)(hl:Gs lo E ord=some lp:=by exact tdR):DWp prog ro n (.region id lo.toArray true) Q ⟨γ,O,df⟩:=
 OG Ah mixed ord E O hB (Sub.refl _) hl h
theorem Fx{lo:List Oper}{id:Nat}(ord E:List Nat)(S0:Sig)(hC:Sub S0 O){lp:List (Bool×Oper)}(h:MO prog ro n lo.toArray 431 S0 Q df lp γ O)(hB:F7 lo.toArray E ord=true:=by kernel_rfl)(hl:Gs lo E ord=some lp:=by exact tdR):DWp prog ro n (.region id lo.toArray true) Q ⟨γ,O,df⟩:=
 OG Ah mixed ord E S0 hB hC hl h
theorem wkR{V':Fr}{U':Sig}(h:TellsR γ V':=by exact tdT)(hZ:Sub U' O:=by exact tdU):Wk P n ⟨γ,O,df⟩ ⟨V',U',df⟩:=KU h hZ
theorem BV{Sk:Fr}{α:Type}{c:Code}(keep:List Nat)(I:α->Prop)(ov:α->Fr)(sg:α->Sig)(μ:α->Nat)(x0:α)(h0:I x0)
  (round:∀x,I x->DWp P ro n c (Then (fun s'=> ∃x',I x'/\μ x'<μ x/\Wk P n s' ⟨ov x'++Sk,sg x',df⟩) Q) ⟨ov x++Sk,sg x,df⟩) (hk:Do γ keep=some Sk:=by exact tdR) (h1:TellsR γ (ov x0++Sk):=by exact tdT) (h2:Sub (sg x0) O:=by exact tdU):DWp P ro n (.loop c) Q ⟨γ,O,df⟩:=EC keep I ov sg μ x0 hk h0 h1 h2 round
theorem BZ{Sk:Fr}{α β:Type}{c:Code}(keep:List Nat)(I:α->β->Prop)(ov:α->β->Fr)(sg:α->β->Sig)(μ:α->β->Nat)(x0:α)(y0:β)(h0:I x0 y0)
  (round:∀x y,I x y->DWp P ro n c (Then (fun s'=> ∃x' y',I x' y'/\μ x' y'<μ x y/\Wk P n s' ⟨ov x' y'++Sk,sg x' y',df⟩) Q) ⟨ov x y++Sk,sg x y,df⟩) (hk:Do γ keep=some Sk:=by exact tdR) (h1:TellsR γ (ov x0 y0++Sk):=by exact tdT) (h2:Sub (sg x0 y0) O:=by exact tdU):DWp P ro n (.loop c) Q ⟨γ,O,df⟩:=PM keep I ov sg μ x0 y0 hk h0 h1 h2 round
theorem Gb{Sk:Fr}{α β δ:Type}{c:Code}(keep:List Nat)(I:α->β->δ->Prop)(ov:α->β->δ->Fr)(sg:α->β->δ->Sig)(μ:α->β->δ->Nat)(x0:α)(y0:β)(z0:δ)(h0:I x0 y0 z0)
  (round:∀x y z,I x y z->DWp P ro n c (Then (fun s'=> ∃x' y' z',I x' y' z'/\μ x' y' z'<μ x y z/\Wk P n s' ⟨ov x' y' z'++Sk,sg x' y' z',df⟩) Q) ⟨ov x y z++Sk,sg x y z,df⟩) (hk:Do γ keep=some Sk:=by exact tdR) (h1:TellsR γ (ov x0 y0 z0++Sk):=by exact tdT) (h2:Sub (sg x0 y0 z0) O:=by exact tdU):DWp P ro n (.loop c) Q ⟨γ,O,df⟩:=PL keep I ov sg μ x0 y0 z0 hk h0 h1 h2 round
theorem fin{fn:Func}{R:DE->Sig->Prop}{U':Sig}{d:D}(hR:R (.ret d) U')(hZ:Sub U' O:=by exact tdU)(h:resD fn γ=some d:=by exact tdR):Dl P n fn R .ret ⟨γ,O,[]⟩:=OF hZ h hR
theorem finS{fn:Func}{R:DE->Sig->Prop}{U':Sig}{es:List (List D)}{o:Own}{t:Nat}(hR:R (.ret (.slice es .no)) U')(hZ:Sub U' O:=by exact tdU)(hr:fn.results=#[.tmp t]:=by exact tdR)(h:getD γ t=.slice es o:=by exact Av tdR):Dl P n fn R .ret ⟨γ,O,[]⟩:=TE hZ hr h hR
theorem fin1{fn:Func}{R:DE->Sig->Prop}{U':Sig}{t:Nat}{d d':D}(hR:R (.ret d') U')(hZ:Sub U' O:=by exact tdU)(hr:fn.results=#[.tmp t]:=by exact tdR)(hl:γ.lookup t=some d:=by exact tdR)(hw:WkD d d':=by exact tdW):Dl P n fn R .ret ⟨γ,O,[]⟩:=
 ⟨⟨[(t,d')],U',[]⟩,Ue (show Tells γ [(t,d')] from⟨by rw[Av hl];exact hw,trivial⟩) hZ,rfl,d',Ds (by simp[resD,hr]),EK hR⟩
theorem fin2{fn:Func}{R:DE->Sig->Prop}{U':Sig}{t u:Nat}{d d' e e':D}(hR:R (.ret (.tup [d',e'])) U')(hZ:Sub U' O:=by exact tdU)(hr:fn.results=#[.tmp t,.tmp u]:=by exact tdR)(hl:γ.lookup t=some d:=by exact tdR)(ar:γ.lookup u=some e:=by exact tdR)(aD:decide (u=t)=false:=by exact tdR)(hw:WkD d d':=by exact tdW)(aB:WkD e e':=by exact tdW):Dl P n fn R .ret ⟨γ,O,[]⟩:=
 ⟨⟨[(t,d'),(u,e')],U',[]⟩,Ue (show Tells γ [(t,d'),(u,e')] from ⟨by rw [Av hl];exact hw,by rw [Av ar];exact aB,trivial⟩) hZ,rfl, .tup [d',e'],Ds (by
  have:u≠t:=by simpa using aD
  simp[resD,hr,this]),EK hR⟩
theorem fin0{fn:Func}{R:DE->Sig->Prop}{U':Sig}(hR:R (.ret (.tup [])) U')(hZ:Sub U' O:=by exact tdU)(hr:fn.results=#[]:=by exact tdR):Dl P n fn R .ret ⟨γ,O,[]⟩:=OF hZ (by simp[resD,hr]) hR
theorem EW{fn:Func}{R:DE->Sig->Prop}{U':Sig}(hR:R (.ret (.tup [])) U')(hZ:Sub U' O:=by exact tdU)(hr:fn.results=#[]:=by exact tdR):Dl P n fn R .normal ⟨γ,O,[]⟩:=ND hZ (by simp[resD,hr]) hR
theorem finP{fn:Func}{R:DE->Sig->Prop}{U':Sig}{d:D}(hR:R (.panic d) U')(hZ:Sub U' O:=by exact tdU):Dl P n fn R (.panic d) ⟨γ,O,[]⟩:=TF hZ hR
theorem F4{c:Code}(t sz:Nat)(h:∀i,O i=none->DWp P ro n c Q ⟨(t,.slice [] (.tag i))::γ,O.set i (.tail sz 0),df⟩)(ht:getD γ t=.nils:=by exact Av tdR):DWp P ro n c Q ⟨γ,O,df⟩:=dwp_tag t sz ht h
end
section
variable {ro:Ro}{n:Nat}{ops:Array Oper}{N:Nat}{S0:Sig}{Q:DX->St->Prop}{df:List DDf}{rest:List Oper}{γ Sr:List (Nat×D)}{O:Sig}{t:Nat}{ty:TypeId}{pos:String}{after:Array Edge}{d:D}{s x:Operand}{T T' e e':Nat}
theorem evs{s x:Operand}(hl:A1 γ (A7 [s,x])=some Sr):ev Sr s=ev γ s/\ev Sr x=ev γ x:=
 have h:∀z∈[s,x],ev Sr z=ev γ z:=fun z hz=>Be fun t ht=>Au hl t (AB (by rw[<-ht];exact hz))
 ⟨h s (by simp),h x (by simp)⟩
theorem appK{new:List (List D)}(h:DOps prog ro n ops Q rest ⟨(t,.slice new .no)::γ,O,df⟩)
  (hl:A1 γ (A7 [s,x])=some Sr:=by exact tdR) (hk:(tab T).k=.slice e:=by(simp<;>rfl)) (am:(tab T').k=.slice e':=by(simp<;>rfl)) (he:A0 (tab e).k=false:=by simp)
  (h1:ev Sr s=.nils:=by exact tdR) (h2:esOf (ev Sr x)=some new:=by(simp<;>with_unfolding_all rfl)) (hlen:∀c∈new,c.length=(tab e).size:=by first|exact C2 _|exact Dq _|exact BJ _|simp)
  (hb:new.length*(tab e).bytes<=140737488355328:=by first|(simp;done)|(simp;omega)) (hm:new.length<=9223372036854775807:=by first|(simp;done)|(simp;omega)) (ac:decide (t<n)=true:=by exact tdR) :
  DOps prog ro n ops Q (⟨some t,(cA s x T T'),ty,pos,after,none⟩::rest) ⟨γ,O,df⟩:=by
 obtain⟨e1,e2⟩:=evs hl
 exact PR tabOK rfl (by simpa using ac) hk am he (by rw[<-e1];exact h1) (by rw[<-e2];exact h2) hlen hb hm h
theorem appC{es new:List (List D)}(h:∀i,O i=none->DOps prog ro n ops Q rest ⟨(t,.slice (es++new) (.tag i))::γ,O.set i (.tail (tab e).size (es.length+new.length)),df⟩)
  (hl:A1 γ (A7 [s,x])=some Sr:=by exact tdR) (hk:(tab T).k=.slice e:=by(simp<;>rfl)) (am:(tab T').k=.slice e':=by(simp<;>rfl)) (he:A0 (tab e).k=false:=by simp)
  (h1:ev Sr s=.slice es .clip:=by exact tdR) (h2:esOf (ev Sr x)=some new:=by(simp<;>with_unfolding_all rfl)) (hne:new≠[]:=by simp)
  (hlen:∀c∈es,c.length=(tab e).size:=by first|exact C2 _|exact Dq _|exact BJ _|simp) (hlen':∀c∈new,c.length=(tab e).size:=by first|exact C2 _|exact Dq _|exact BJ _|simp)
  (hb:(es.length+new.length)*(tab e).bytes<=140737488355328:=by first|(simp;done)|(simp;omega)) (hm:es.length+new.length<=9223372036854775807:=by first|(simp;done)|(simp;omega)) (ac:decide (t<n)=true:=by exact tdR) :
  DOps prog ro n ops Q (⟨some t,(cA s x T T'),ty,pos,after,none⟩::rest) ⟨γ,O,df⟩:=by
 obtain⟨e1,e2⟩:=evs hl
 exact C1 tabOK rfl (by simpa using ac) hk am he (by rw[<-e1];exact h1) (by rw[<-e2];exact h2) hne hlen hlen' hb hm h
theorem app0{es:List (List D)}(h:DOps prog ro n ops Q rest ⟨(t,d)::γ,O,df⟩)
  (hl:A1 γ (A7 [s,x])=some Sr:=by exact tdR) (hd:ev Sr s=d:=by exact tdR) (hk:(tab T).k=.slice e:=by(simp<;>rfl)) (am:(tab T').k=.slice e':=by(simp<;>rfl)) (he:A0 (tab e).k=false:=by simp)
  (h1:esOf d=some es:=by exact tdR) (h2:esOf (ev Sr x)=some []:=by first|with_unfolding_all rfl|(simp_all;done)) (ac:decide (t<n)=true:=by exact tdR) :
  DOps prog ro n ops Q (⟨some t,(cA s x T T'),ty,pos,after,none⟩::rest) ⟨γ,O,df⟩:=by
 obtain⟨e1,e2⟩:=evs hl
 have:=Fa (ops:=ops) (Q:=Q) (rest:=rest) (df:=df) (O:=O) (γ:=γ) (ty:=ty) (pos:=pos) (after:=after) (guard:=none) (es:=es) (ro:=ro) (n:=n) tabOK (T:=T) (T':=T') (s:=s) (x:=x) rfl (by simpa using ac) hk am he (by rw[<-e1,hd];exact h1) (by rw[<-e2];exact h2) (by rw[<-e1,hd];exact h)
 exact this
theorem newM{T:Nat}(h:∀i,O i=none->DOps prog ro n ops Q rest ⟨(t,.map i)::γ,O.set i (.map []),df⟩)(ac:decide (t<n)=true:=by exact tdR):
  DOps prog ro n ops Q (⟨some t,.makeMap T none,ty,pos,after,none⟩::rest) ⟨γ,O,df⟩:=
 MU tabOK rfl (.inl rfl) (by simpa using ac) h
theorem newV{T:Nat}{z:List D}(h:∀i,O i=none->DOps prog ro n ops Q rest ⟨(t,.ptr i 0)::γ,O.set i (.cells z),df⟩)(hk:A0 (tab T).k=false:=by simp)(hz:(tab T).zero=z:=by(simp<;>rfl))(ac:decide (t<n)=true:=by exact tdR):
  DOps prog ro n ops Q (⟨some t,.alloc T,ty,pos,after,none⟩::rest) ⟨γ,O,df⟩:=by
 subst hz;exact D5 tabOK hk (by simpa using ac) h
theorem pan{T:Nat}{dst:Option Tmp}(h:Q (.panic (.iface T d)) ⟨γ,O,df⟩)(hl:A1 γ (A7 [x])=some Sr:=by exact tdR)(hx:ev Sr x=.iface T d:=by exact tdR):
  DOps prog ro n ops Q (⟨dst,.panic x,ty,pos,after,none⟩::rest) ⟨γ,O,df⟩:=PO rfl (by rw[<-Cu hl];exact hx) h
theorem isN{es:List (List D)}{o:Own}(h:∀b,(b=true->es=[])->DOps prog ro n ops Q rest ⟨(t,.bool b)::γ,O,df⟩)(hl:A1 γ (A7 [x])=some Sr:=by exact tdR)(hx:ev Sr x=.slice es o:=by exact tdR)(hk:(tab T).k=.slice e:=by(simp<;>rfl))(ac:decide (t<n)=true:=by exact tdR):
  DOps prog ro n ops Q (⟨some t,.binOp .eql T x (.const (.slice none 0 0)) T',ty,pos,after,none⟩::rest) ⟨γ,O,df⟩:=
 PP tabOK hk rfl (by rw[<-Cu hl];exact hx) (by simpa using ac) h
end
end Go.DL
