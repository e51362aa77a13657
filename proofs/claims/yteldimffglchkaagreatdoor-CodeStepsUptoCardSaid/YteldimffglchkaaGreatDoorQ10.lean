/- A part of the proof. -/
import Derived.Test.YteldimffglchkaaGreatDoorProg
import Derived.KernelRfl
import Derived.Test.YteldimffglchkaaGreatDoorQ06
import Derived.Shelf.Slices.In.SortAlone
import Derived.Shelf.Slices.In.SortNone
set_option linter.all false
namespace Go.DL
open Go.Proofs.Tryz
open Go Go.Proofs
@[simp] abbrev sT(n:Nat):Ty:=⟨.slice n,false,1,24,[.aj]⟩
@[simp] abbrev pT(n:Nat):Ty:=⟨.ptr n,false,1,8,[.aq]⟩
@[simp] abbrev iT:Ty:=⟨.int .i64,false,1,8,[.int .i64 0]⟩
@[simp] abbrev fT:Ty:=⟨.func,false,1,8,[.ap]⟩
def tyRows:List (Nat×Ty):=[
 (1,fT),
 (2,iT),
 (3,iT),
 (4,⟨.bool,false,1,1,[.bool false]⟩),
 (5,⟨.int .u8,false,1,1,[.int .u8 0]⟩),
 (6,⟨.int .u8,false,1,1,[.int .u8 0]⟩),
 (7,⟨.struct [(0,2),(1,3),(2,4),(3,6)],true,4,24,[.int .i64 0,.int .i64 0,.bool false,.int .u8 0]⟩),
 (8,⟨.struct [(0,2),(1,3),(2,4),(3,6)],true,4,24,[.int .i64 0,.int .i64 0,.bool false,.int .u8 0]⟩),
 (9,⟨.str,false,1,16,[.str []]⟩),
 (10,⟨.str,false,1,16,[.str []]⟩),
 (11,⟨.str,false,1,16,[.str []]⟩),
 (12,⟨.int .u64,false,1,8,[.int .u64 0]⟩),
 (13,⟨.struct [(0,9),(1,12)],true,2,24,[.str [],.int .u64 0]⟩),
 (14,⟨.struct [(0,9),(1,12)],true,2,24,[.str [],.int .u64 0]⟩),
 (15,pT 464),
 (16,pT 467),
 (17,pT 474),
 (18,⟨.struct [(0,17)],true,1,8,[.aq]⟩),
 (19,⟨.struct [(0,17)],true,1,8,[.aq]⟩),
 (20,⟨.iface,false,1,16,[.niliface]⟩),
 (21,⟨.int .i32,false,1,4,[.int .i32 0]⟩),
 (22,sT 208),
 (23,sT 3),
 (24,sT 64),
 (25,sT 211),
 (26,⟨.struct [(0,22),(1,3),(2,23),(3,24),(4,25),(5,3)],true,6,112,[.aj,.int .i64 0,.aj,.aj,.aj,.int .i64 0]⟩),
 (27,⟨.struct [(0,22),(1,3),(2,23),(3,24),(4,25),(5,3)],true,6,112,[.aj,.int .i64 0,.aj,.aj,.aj,.int .i64 0]⟩),
 (28,sT 87),
 (30,⟨.struct [(0,28),(1,23),(2,3)],true,3,56,[.aj,.aj,.int .i64 0]⟩),
 (31,sT 131),
 (32,sT 40),
 (33,⟨.struct [(0,3),(1,32),(2,32)],true,3,56,[.int .i64 0,.aj,.aj]⟩),
 (34,⟨.struct [(0,3),(1,32),(2,32)],true,3,56,[.int .i64 0,.aj,.aj]⟩),
 (35,⟨.struct [(0,31),(1,34)],true,4,80,[.aj,.int .i64 0,.aj,.aj]⟩),
 (36,⟨.struct [(0,31),(1,34)],true,4,80,[.aj,.int .i64 0,.aj,.aj]⟩),
 (37,iT),
 (38,iT),
 (39,⟨.struct [(0,38),(1,3)],true,2,16,[.int .i64 0,.int .i64 0]⟩),
 (40,⟨.struct [(0,38),(1,3)],true,2,16,[.int .i64 0,.int .i64 0]⟩),
 (41,iT),
 (42,sT 203),
 (43,⟨.struct [(0,37),(1,40),(3,3),(4,32),(5,41),(6,34),(9,31),(10,42)],true,11,168,[.int .i64 0,.int .i64 0,.int .i64 0,.int .i64 0,.aj,.int .i64 0,.int .i64 0,.aj,.aj,.aj,.aj]⟩),
 (44,⟨.struct [(0,37),(1,40),(3,3),(4,32),(5,41),(6,34),(9,31),(10,42)],true,11,168,[.int .i64 0,.int .i64 0,.int .i64 0,.int .i64 0,.aj,.int .i64 0,.int .i64 0,.aj,.aj,.aj,.aj]⟩),
 (45,iT),
 (47,fT),
 (48,fT),
 (49,fT),
 (50,fT),
 (51,⟨.array 3 3,true,3,24,[.int .i64 0,.int .i64 0,.int .i64 0]⟩),
 (52,⟨.int .u16,false,1,2,[.int .u16 0]⟩),
 (53,⟨.struct [(0,5),(1,51),(4,52)],true,5,40,[.int .u8 0,.int .i64 0,.int .i64 0,.int .i64 0,.int .u16 0]⟩),
 (55,fT),
 (58,iT),
 (59,iT),
 (60,sT 62),
 (62,⟨.struct [(0,59),(1,3),(2,23),(3,3),(4,3),(5,60)],true,6,80,[.int .i64 0,.int .i64 0,.aj,.int .i64 0,.int .i64 0,.aj]⟩),
 (63,⟨.struct [(0,58),(1,3),(2,62),(8,3)],true,9,104,[.int .i64 0,.int .i64 0,.int .i64 0,.int .i64 0,.aj,.int .i64 0,.int .i64 0,.aj,.int .i64 0]⟩),
 (64,⟨.struct [(0,58),(1,3),(2,62),(8,3)],true,9,104,[.int .i64 0,.int .i64 0,.int .i64 0,.int .i64 0,.aj,.int .i64 0,.int .i64 0,.aj,.int .i64 0]⟩),
 (65,fT),
 (66,fT),
 (71,fT),
 (75,sT 79),
 (77,fT),
 (78,⟨.struct [(0,3),(1,3)],true,2,16,[.int .i64 0,.int .i64 0]⟩),
 (79,⟨.struct [(0,3),(1,3)],true,2,16,[.int .i64 0,.int .i64 0]⟩),
 (81,fT),
 (82,fT),
 (83,fT),
 (85,iT),
 (86,⟨.struct [(0,85),(1,3)],true,2,16,[.int .i64 0,.int .i64 0]⟩),
 (87,⟨.struct [(0,85),(1,3)],true,2,16,[.int .i64 0,.int .i64 0]⟩),
 (91,fT),
 (96,sT 5),
 (98,pT 103),
 (101,⟨.map 3 79,false,1,8,[.nilmap]⟩),
 (103,⟨.struct [(0,30),(3,27),(9,101)],true,10,176,[.aj,.aj,.int .i64 0,.aj,.int .i64 0,.aj,.aj,.aj,.int .i64 0,.nilmap]⟩),
 (104,pT 106),
 (106,⟨.struct [(0,44),(11,27),(17,34)],true,20,336,[.int .i64 0,.int .i64 0,.int .i64 0,.int .i64 0,.aj,.int .i64 0,.int .i64 0,.aj,.aj,.aj,.aj,.aj,.int .i64 0,.aj,.aj,.aj,.int .i64 0,.int .i64 0,.aj,.aj]⟩),
 (107,fT),
 (108,fT),
 (109,⟨.array 22 108,true,22,176,[.ap,.ap,.ap,.ap,.ap,.ap,.ap,.ap,.ap,.ap,.ap,.ap,.ap,.ap,.ap,.ap,.ap,.ap,.ap,.ap,.ap,.ap]⟩),
 (110,fT),
 (112,fT),
 (113,fT),
 (120,sT 23),
 (122,⟨.struct [(0,120),(1,23)],true,2,48,[.aj,.aj]⟩),
 (123,fT),
 (125,pT 127),
 (126,⟨.struct [(0,30)],true,3,56,[.aj,.aj,.int .i64 0]⟩),
 (127,⟨.struct [(0,30)],true,3,56,[.aj,.aj,.int .i64 0]⟩),
 (128,fT),
 (130,⟨.struct [(0,3),(1,32)],true,2,32,[.int .i64 0,.aj]⟩),
 (131,⟨.struct [(0,3),(1,32)],true,2,32,[.int .i64 0,.aj]⟩),
 (133,fT),
 (145,fT),
 (147,sT 5),
 (153,fT),
 (156,fT),
 (157,pT 159),
 (159,⟨.struct [(0,157),(1,96)],true,2,32,[.aq,.aj]⟩),
 (161,⟨.iface,false,1,16,[.niliface]⟩),
 (165,sT 9),
 (173,fT),
 (180,⟨.struct [(0,3),(1,3),(2,4)],true,3,24,[.int .i64 0,.int .i64 0,.bool false]⟩),
 (181,sT 180),
 (182,fT),
 (188,fT),
 (189,fT),
 (191,pT 194),
 (192,sT 4),
 (194,⟨.struct [(0,192),(1,75)],true,2,48,[.aj,.aj]⟩),
 (196,fT),
 (198,pT 200),
 (199,⟨.struct [(0,27),(6,30),(9,44),(20,34)],true,23,392,[.aj,.int .i64 0,.aj,.aj,.aj,.int .i64 0,.aj,.aj,.int .i64 0,.int .i64 0,.int .i64 0,.int .i64 0,.int .i64 0,.aj,.int .i64 0,.int .i64 0,.aj,.aj,.aj,.aj,.int .i64 0,.aj,.aj]⟩),
 (200,⟨.struct [(0,27),(6,30),(9,44),(20,34)],true,23,392,[.aj,.int .i64 0,.aj,.aj,.aj,.int .i64 0,.aj,.aj,.int .i64 0,.int .i64 0,.int .i64 0,.int .i64 0,.int .i64 0,.aj,.int .i64 0,.int .i64 0,.aj,.aj,.aj,.aj,.int .i64 0,.aj,.aj]⟩),
 (201,iT),
 (203,⟨.struct [(0,201),(1,3),(2,32)],true,3,40,[.int .i64 0,.int .i64 0,.aj]⟩),
 (205,⟨.struct [(0,3),(1,3)],true,2,16,[.int .i64 0,.int .i64 0]⟩),
 (206,sT 205),
 (208,⟨.struct [(0,23),(1,23),(2,206)],true,3,72,[.aj,.aj,.aj]⟩),
 (209,iT),
 (211,⟨.struct [(0,209),(1,3),(2,23)],true,3,40,[.int .i64 0,.int .i64 0,.aj]⟩),
 (214,fT),
 (237,fT),
 (240,pT 147),
 (245,⟨.struct [],true,0,0,[]⟩),
 (246,pT 5),
 (248,fT),
 (256,pT 40),
 (267,fT),
 (268,fT),
 (271,⟨.struct [(0,3),(1,3)],true,2,16,[.int .i64 0,.int .i64 0]⟩),
 (274,⟨.iface,false,1,16,[.niliface]⟩),
 (276,iT),
 (277,⟨.struct [],true,0,0,[]⟩),
 (279,fT),
 (283,⟨.map 209 85,false,1,8,[.nilmap]⟩),
 (296,fT),
 (300,fT),
 (307,⟨.map 3 4,false,1,8,[.nilmap]⟩),
 (310,pT 357),
 (313,pT 131),
 (316,⟨.struct [],true,0,0,[]⟩),
 (320,⟨.int .u64,false,1,8,[.int .u64 0]⟩),
 (323,fT),
 (324,pT 421),
 (338,⟨.int .u64,false,1,8,[.int .u64 0]⟩),
 (354,⟨.map 3 23,false,1,8,[.nilmap]⟩),
 (355,⟨.map 3 131,false,1,8,[.nilmap]⟩),
 (357,⟨.struct [(0,27),(6,354),(7,355)],true,8,128,[.aj,.int .i64 0,.aj,.aj,.aj,.int .i64 0,.nilmap,.nilmap]⟩),
 (361,fT),
 (363,fT),
 (366,fT),
 (367,pT 372),
 (370,sT 415),
 (372,⟨.struct [(0,120),(1,370),(2,354)],true,3,56,[.aj,.aj,.nilmap]⟩),
 (373,⟨.int .u32,false,1,4,[.int .u32 0]⟩),
 (403,fT),
 (407,⟨.map 3 3,false,1,8,[.nilmap]⟩),
 (408,fT),
 (409,fT),
 (413,fT),
 (415,⟨.array 1 338,true,1,8,[.int .u64 0]⟩),
 (418,⟨.int .u64,false,1,8,[.int .u64 0]⟩),
 (419,⟨.array 63 418,true,63,504,(List.replicate 63 (.int .u64 0))⟩),
 (421,⟨.struct [(0,122),(2,419)],true,65,552,([.aj,.aj]++List.replicate 63 (.int .u64 0))⟩),
 (425,pT 3),
 (464,⟨.struct [(0,17),(1,17),(2,17),(3,9)],true,4,40,[.aq,.aq,.aq,.str []]⟩),
 (465,⟨.array 0 16,true,0,0,[]⟩),
 (467,⟨.struct [(0,465)],true,0,0,[]⟩),
 (468,⟨.int .u8,false,1,1,[.int .u8 0]⟩),
 (469,⟨.int .u8,false,1,1,[.int .u8 0]⟩),
 (470,fT),
 (471,⟨.int .i32,false,1,4,[.int .i32 0]⟩),
 (472,⟨.int .i32,false,1,4,[.int .i32 0]⟩),
 (474,⟨.struct [(0,12),(1,12),(2,373),(3,468),(4,5),(5,5),(6,469),(7,470),(8,246),(9,471),(10,472)],true,11,48,[.int .u64 0,.int .u64 0,.int .u32 0,.int .u8 0,.int .u8 0,.int .u8 0,.int .u8 0,.ap,.aq,.int .i32 0,.int .i32 0]⟩)
]
def tab(t:Nat):Ty:=(tyRows.lookup t).getD ⟨.other,false,0,0,[]⟩
theorem VO:tyRows.all (fun p=>O7 prog p.1 p.2)=true:=by kernel_rfl
def KW{α:Type}: ∀{l:List (Nat×α)}{t:Nat}{x:α},l.lookup t=some x->(t,x)∈l
 |(k,y)::l,t,x,h=>by
  simp only[List.lookup]at h;split at h
  ·rename_i e;cases h;have:=cR.1 e;subst this;simp
  ·exact cd _ (KW h)
def jB:AZ prog tab:=by
 intro t;unfold tab;cases h:tyRows.lookup t with
 |none=>exact trivial
 |some i=>exact Mo (aW.1 VO _ (KW h))
theorem Ao:prog.funcs.size=431:=by kernel_rfl
@[simp] theorem tab1:tab 1=fT:=rfl
@[simp] theorem tab2:tab 2=iT:=rfl
@[simp] theorem tab3:tab 3=iT:=rfl
@[simp] theorem tab4:tab 4=⟨.bool,false,1,1,[.bool false]⟩:=rfl
@[simp] theorem tab5:tab 5=⟨.int .u8,false,1,1,[.int .u8 0]⟩:=rfl
@[simp] theorem tab6:tab 6=⟨.int .u8,false,1,1,[.int .u8 0]⟩:=rfl
@[simp] theorem tab7:tab 7=⟨.struct [(0,2),(1,3),(2,4),(3,6)],true,4,24,[.int .i64 0,.int .i64 0,.bool false,.int .u8 0]⟩:=rfl
@[simp] theorem tab8:tab 8=⟨.struct [(0,2),(1,3),(2,4),(3,6)],true,4,24,[.int .i64 0,.int .i64 0,.bool false,.int .u8 0]⟩:=rfl
@[simp] theorem tab9:tab 9=⟨.str,false,1,16,[.str []]⟩:=rfl
@[simp] theorem tab10:tab 10=⟨.str,false,1,16,[.str []]⟩:=rfl
@[simp] theorem tab11:tab 11=⟨.str,false,1,16,[.str []]⟩:=rfl
@[simp] theorem tab12:tab 12=⟨.int .u64,false,1,8,[.int .u64 0]⟩:=rfl
@[simp] theorem tab13:tab 13=⟨.struct [(0,9),(1,12)],true,2,24,[.str [],.int .u64 0]⟩:=rfl
@[simp] theorem tab14:tab 14=⟨.struct [(0,9),(1,12)],true,2,24,[.str [],.int .u64 0]⟩:=rfl
@[simp] theorem tab15:tab 15=pT 464:=rfl
@[simp] theorem tab16:tab 16=pT 467:=rfl
@[simp] theorem tab17:tab 17=pT 474:=rfl
@[simp] theorem tab18:tab 18=⟨.struct [(0,17)],true,1,8,[.aq]⟩:=rfl
@[simp] theorem tab19:tab 19=⟨.struct [(0,17)],true,1,8,[.aq]⟩:=rfl
@[simp] theorem tab20:tab 20=⟨.iface,false,1,16,[.niliface]⟩:=rfl
@[simp] theorem tab21:tab 21=⟨.int .i32,false,1,4,[.int .i32 0]⟩:=rfl
@[simp] theorem tab22:tab 22=sT 208:=rfl
@[simp] theorem tab23:tab 23=sT 3:=rfl
@[simp] theorem tab24:tab 24=sT 64:=rfl
@[simp] theorem tab25:tab 25=sT 211:=rfl
@[simp] theorem tab26:tab 26=⟨.struct [(0,22),(1,3),(2,23),(3,24),(4,25),(5,3)],true,6,112,[.aj,.int .i64 0,.aj,.aj,.aj,.int .i64 0]⟩:=rfl
@[simp] theorem tab27:tab 27=⟨.struct [(0,22),(1,3),(2,23),(3,24),(4,25),(5,3)],true,6,112,[.aj,.int .i64 0,.aj,.aj,.aj,.int .i64 0]⟩:=rfl
@[simp] theorem tab28:tab 28=sT 87:=rfl
@[simp] theorem tab30:tab 30=⟨.struct [(0,28),(1,23),(2,3)],true,3,56,[.aj,.aj,.int .i64 0]⟩:=rfl
@[simp] theorem tab31:tab 31=sT 131:=rfl
@[simp] theorem tab32:tab 32=sT 40:=rfl
@[simp] theorem tab33:tab 33=⟨.struct [(0,3),(1,32),(2,32)],true,3,56,[.int .i64 0,.aj,.aj]⟩:=rfl
@[simp] theorem tab34:tab 34=⟨.struct [(0,3),(1,32),(2,32)],true,3,56,[.int .i64 0,.aj,.aj]⟩:=rfl
@[simp] theorem tab35:tab 35=⟨.struct [(0,31),(1,34)],true,4,80,[.aj,.int .i64 0,.aj,.aj]⟩:=rfl
@[simp] theorem tab36:tab 36=⟨.struct [(0,31),(1,34)],true,4,80,[.aj,.int .i64 0,.aj,.aj]⟩:=rfl
@[simp] theorem tab37:tab 37=iT:=rfl
@[simp] theorem tab38:tab 38=iT:=rfl
@[simp] theorem tab39:tab 39=⟨.struct [(0,38),(1,3)],true,2,16,[.int .i64 0,.int .i64 0]⟩:=rfl
@[simp] theorem tab40:tab 40=⟨.struct [(0,38),(1,3)],true,2,16,[.int .i64 0,.int .i64 0]⟩:=rfl
@[simp] theorem tab41:tab 41=iT:=rfl
@[simp] theorem tab42:tab 42=sT 203:=rfl
@[simp] theorem tab43:tab 43=⟨.struct [(0,37),(1,40),(3,3),(4,32),(5,41),(6,34),(9,31),(10,42)],true,11,168,[.int .i64 0,.int .i64 0,.int .i64 0,.int .i64 0,.aj,.int .i64 0,.int .i64 0,.aj,.aj,.aj,.aj]⟩:=rfl
@[simp] theorem tab44:tab 44=⟨.struct [(0,37),(1,40),(3,3),(4,32),(5,41),(6,34),(9,31),(10,42)],true,11,168,[.int .i64 0,.int .i64 0,.int .i64 0,.int .i64 0,.aj,.int .i64 0,.int .i64 0,.aj,.aj,.aj,.aj]⟩:=rfl
@[simp] theorem tab45:tab 45=iT:=rfl
@[simp] theorem tab47:tab 47=fT:=rfl
@[simp] theorem tab48:tab 48=fT:=rfl
@[simp] theorem tab49:tab 49=fT:=rfl
@[simp] theorem tab50:tab 50=fT:=rfl
@[simp] theorem tab51:tab 51=⟨.array 3 3,true,3,24,[.int .i64 0,.int .i64 0,.int .i64 0]⟩:=rfl
@[simp] theorem tab52:tab 52=⟨.int .u16,false,1,2,[.int .u16 0]⟩:=rfl
@[simp] theorem tab53:tab 53=⟨.struct [(0,5),(1,51),(4,52)],true,5,40,[.int .u8 0,.int .i64 0,.int .i64 0,.int .i64 0,.int .u16 0]⟩:=rfl
@[simp] theorem tab55:tab 55=fT:=rfl
@[simp] theorem tab58:tab 58=iT:=rfl
@[simp] theorem tab59:tab 59=iT:=rfl
@[simp] theorem tab60:tab 60=sT 62:=rfl
@[simp] theorem tab62:tab 62=⟨.struct [(0,59),(1,3),(2,23),(3,3),(4,3),(5,60)],true,6,80,[.int .i64 0,.int .i64 0,.aj,.int .i64 0,.int .i64 0,.aj]⟩:=rfl
@[simp] theorem tab63:tab 63=⟨.struct [(0,58),(1,3),(2,62),(8,3)],true,9,104,[.int .i64 0,.int .i64 0,.int .i64 0,.int .i64 0,.aj,.int .i64 0,.int .i64 0,.aj,.int .i64 0]⟩:=rfl
@[simp] theorem tab64:tab 64=⟨.struct [(0,58),(1,3),(2,62),(8,3)],true,9,104,[.int .i64 0,.int .i64 0,.int .i64 0,.int .i64 0,.aj,.int .i64 0,.int .i64 0,.aj,.int .i64 0]⟩:=rfl
@[simp] theorem tab65:tab 65=fT:=rfl
@[simp] theorem tab66:tab 66=fT:=rfl
@[simp] theorem tab71:tab 71=fT:=rfl
@[simp] theorem tab75:tab 75=sT 79:=rfl
@[simp] theorem tab77:tab 77=fT:=rfl
@[simp] theorem tab78:tab 78=⟨.struct [(0,3),(1,3)],true,2,16,[.int .i64 0,.int .i64 0]⟩:=rfl
@[simp] theorem tab79:tab 79=⟨.struct [(0,3),(1,3)],true,2,16,[.int .i64 0,.int .i64 0]⟩:=rfl
@[simp] theorem tab81:tab 81=fT:=rfl
@[simp] theorem tab82:tab 82=fT:=rfl
@[simp] theorem tab83:tab 83=fT:=rfl
@[simp] theorem tab85:tab 85=iT:=rfl
@[simp] theorem tab86:tab 86=⟨.struct [(0,85),(1,3)],true,2,16,[.int .i64 0,.int .i64 0]⟩:=rfl
@[simp] theorem tab87:tab 87=⟨.struct [(0,85),(1,3)],true,2,16,[.int .i64 0,.int .i64 0]⟩:=rfl
@[simp] theorem tab91:tab 91=fT:=rfl
@[simp] theorem tab96:tab 96=sT 5:=rfl
@[simp] theorem tab98:tab 98=pT 103:=rfl
@[simp] theorem tab101:tab 101=⟨.map 3 79,false,1,8,[.nilmap]⟩:=rfl
@[simp] theorem tab103:tab 103=⟨.struct [(0,30),(3,27),(9,101)],true,10,176,[.aj,.aj,.int .i64 0,.aj,.int .i64 0,.aj,.aj,.aj,.int .i64 0,.nilmap]⟩:=rfl
@[simp] theorem tab104:tab 104=pT 106:=rfl
@[simp] theorem tab106:tab 106=⟨.struct [(0,44),(11,27),(17,34)],true,20,336,[.int .i64 0,.int .i64 0,.int .i64 0,.int .i64 0,.aj,.int .i64 0,.int .i64 0,.aj,.aj,.aj,.aj,.aj,.int .i64 0,.aj,.aj,.aj,.int .i64 0,.int .i64 0,.aj,.aj]⟩:=rfl
@[simp] theorem tab107:tab 107=fT:=rfl
@[simp] theorem tab108:tab 108=fT:=rfl
@[simp] theorem tab109:tab 109=⟨.array 22 108,true,22,176,[.ap,.ap,.ap,.ap,.ap,.ap,.ap,.ap,.ap,.ap,.ap,.ap,.ap,.ap,.ap,.ap,.ap,.ap,.ap,.ap,.ap,.ap]⟩:=rfl
@[simp] theorem tab110:tab 110=fT:=rfl
@[simp] theorem tab112:tab 112=fT:=rfl
@[simp] theorem tab113:tab 113=fT:=rfl
@[simp] theorem tab120:tab 120=sT 23:=rfl
@[simp] theorem tab122:tab 122=⟨.struct [(0,120),(1,23)],true,2,48,[.aj,.aj]⟩:=rfl
@[simp] theorem tab123:tab 123=fT:=rfl
@[simp] theorem tab125:tab 125=pT 127:=rfl
@[simp] theorem tab126:tab 126=⟨.struct [(0,30)],true,3,56,[.aj,.aj,.int .i64 0]⟩:=rfl
@[simp] theorem tab127:tab 127=⟨.struct [(0,30)],true,3,56,[.aj,.aj,.int .i64 0]⟩:=rfl
@[simp] theorem tab128:tab 128=fT:=rfl
@[simp] theorem tab130:tab 130=⟨.struct [(0,3),(1,32)],true,2,32,[.int .i64 0,.aj]⟩:=rfl
@[simp] theorem tab131:tab 131=⟨.struct [(0,3),(1,32)],true,2,32,[.int .i64 0,.aj]⟩:=rfl
@[simp] theorem tab133:tab 133=fT:=rfl
@[simp] theorem tab145:tab 145=fT:=rfl
@[simp] theorem tab147:tab 147=sT 5:=rfl
@[simp] theorem tab153:tab 153=fT:=rfl
@[simp] theorem tab156:tab 156=fT:=rfl
@[simp] theorem tab157:tab 157=pT 159:=rfl
@[simp] theorem tab159:tab 159=⟨.struct [(0,157),(1,96)],true,2,32,[.aq,.aj]⟩:=rfl
@[simp] theorem tab161:tab 161=⟨.iface,false,1,16,[.niliface]⟩:=rfl
@[simp] theorem tab165:tab 165=sT 9:=rfl
@[simp] theorem tab173:tab 173=fT:=rfl
@[simp] theorem tab180:tab 180=⟨.struct [(0,3),(1,3),(2,4)],true,3,24,[.int .i64 0,.int .i64 0,.bool false]⟩:=rfl
@[simp] theorem tab181:tab 181=sT 180:=rfl
@[simp] theorem tab182:tab 182=fT:=rfl
@[simp] theorem tab188:tab 188=fT:=rfl
@[simp] theorem tab189:tab 189=fT:=rfl
@[simp] theorem tab191:tab 191=pT 194:=rfl
@[simp] theorem tab192:tab 192=sT 4:=rfl
@[simp] theorem tab194:tab 194=⟨.struct [(0,192),(1,75)],true,2,48,[.aj,.aj]⟩:=rfl
@[simp] theorem tab196:tab 196=fT:=rfl
@[simp] theorem tab198:tab 198=pT 200:=rfl
@[simp] theorem tab199:tab 199=⟨.struct [(0,27),(6,30),(9,44),(20,34)],true,23,392,[.aj,.int .i64 0,.aj,.aj,.aj,.int .i64 0,.aj,.aj,.int .i64 0,.int .i64 0,.int .i64 0,.int .i64 0,.int .i64 0,.aj,.int .i64 0,.int .i64 0,.aj,.aj,.aj,.aj,.int .i64 0,.aj,.aj]⟩:=rfl
@[simp] theorem tab200:tab 200=⟨.struct [(0,27),(6,30),(9,44),(20,34)],true,23,392,[.aj,.int .i64 0,.aj,.aj,.aj,.int .i64 0,.aj,.aj,.int .i64 0,.int .i64 0,.int .i64 0,.int .i64 0,.int .i64 0,.aj,.int .i64 0,.int .i64 0,.aj,.aj,.aj,.aj,.int .i64 0,.aj,.aj]⟩:=rfl
@[simp] theorem tab201:tab 201=iT:=rfl
@[simp] theorem tab203:tab 203=⟨.struct [(0,201),(1,3),(2,32)],true,3,40,[.int .i64 0,.int .i64 0,.aj]⟩:=rfl
@[simp] theorem tab205:tab 205=⟨.struct [(0,3),(1,3)],true,2,16,[.int .i64 0,.int .i64 0]⟩:=rfl
@[simp] theorem tab206:tab 206=sT 205:=rfl
@[simp] theorem tab208:tab 208=⟨.struct [(0,23),(1,23),(2,206)],true,3,72,[.aj,.aj,.aj]⟩:=rfl
@[simp] theorem tab209:tab 209=iT:=rfl
@[simp] theorem tab211:tab 211=⟨.struct [(0,209),(1,3),(2,23)],true,3,40,[.int .i64 0,.int .i64 0,.aj]⟩:=rfl
@[simp] theorem tab214:tab 214=fT:=rfl
@[simp] theorem tab237:tab 237=fT:=rfl
@[simp] theorem tab240:tab 240=pT 147:=rfl
@[simp] theorem tab245:tab 245=⟨.struct [],true,0,0,[]⟩:=rfl
@[simp] theorem tab246:tab 246=pT 5:=rfl
@[simp] theorem tab248:tab 248=fT:=rfl
@[simp] theorem tab256:tab 256=pT 40:=rfl
@[simp] theorem tab267:tab 267=fT:=rfl
@[simp] theorem tab268:tab 268=fT:=rfl
@[simp] theorem tab271:tab 271=⟨.struct [(0,3),(1,3)],true,2,16,[.int .i64 0,.int .i64 0]⟩:=rfl
@[simp] theorem tab274:tab 274=⟨.iface,false,1,16,[.niliface]⟩:=rfl
@[simp] theorem tab276:tab 276=iT:=rfl
@[simp] theorem tab277:tab 277=⟨.struct [],true,0,0,[]⟩:=rfl
@[simp] theorem tab279:tab 279=fT:=rfl
@[simp] theorem tab283:tab 283=⟨.map 209 85,false,1,8,[.nilmap]⟩:=rfl
@[simp] theorem tab296:tab 296=fT:=rfl
@[simp] theorem tab300:tab 300=fT:=rfl
@[simp] theorem tab307:tab 307=⟨.map 3 4,false,1,8,[.nilmap]⟩:=rfl
@[simp] theorem tab310:tab 310=pT 357:=rfl
@[simp] theorem tab313:tab 313=pT 131:=rfl
@[simp] theorem tab316:tab 316=⟨.struct [],true,0,0,[]⟩:=rfl
@[simp] theorem tab320:tab 320=⟨.int .u64,false,1,8,[.int .u64 0]⟩:=rfl
@[simp] theorem tab323:tab 323=fT:=rfl
@[simp] theorem tab324:tab 324=pT 421:=rfl
@[simp] theorem tab338:tab 338=⟨.int .u64,false,1,8,[.int .u64 0]⟩:=rfl
@[simp] theorem tab354:tab 354=⟨.map 3 23,false,1,8,[.nilmap]⟩:=rfl
@[simp] theorem tab355:tab 355=⟨.map 3 131,false,1,8,[.nilmap]⟩:=rfl
@[simp] theorem tab357:tab 357=⟨.struct [(0,27),(6,354),(7,355)],true,8,128,[.aj,.int .i64 0,.aj,.aj,.aj,.int .i64 0,.nilmap,.nilmap]⟩:=rfl
@[simp] theorem tab361:tab 361=fT:=rfl
@[simp] theorem tab363:tab 363=fT:=rfl
@[simp] theorem tab366:tab 366=fT:=rfl
@[simp] theorem tab367:tab 367=pT 372:=rfl
@[simp] theorem tab370:tab 370=sT 415:=rfl
@[simp] theorem tab372:tab 372=⟨.struct [(0,120),(1,370),(2,354)],true,3,56,[.aj,.aj,.nilmap]⟩:=rfl
@[simp] theorem tab373:tab 373=⟨.int .u32,false,1,4,[.int .u32 0]⟩:=rfl
@[simp] theorem tab403:tab 403=fT:=rfl
@[simp] theorem tab407:tab 407=⟨.map 3 3,false,1,8,[.nilmap]⟩:=rfl
@[simp] theorem tab408:tab 408=fT:=rfl
@[simp] theorem tab409:tab 409=fT:=rfl
@[simp] theorem tab413:tab 413=fT:=rfl
@[simp] theorem tab415:tab 415=⟨.array 1 338,true,1,8,[.int .u64 0]⟩:=rfl
@[simp] theorem tab418:tab 418=⟨.int .u64,false,1,8,[.int .u64 0]⟩:=rfl
@[simp] theorem tab419:tab 419=⟨.array 63 418,true,63,504,(List.replicate 63 (.int .u64 0))⟩:=rfl
@[simp] theorem tab421:tab 421=⟨.struct [(0,122),(2,419)],true,65,552,([.aj,.aj]++List.replicate 63 (.int .u64 0))⟩:=rfl
@[simp] theorem tab425:tab 425=pT 3:=rfl
@[simp] theorem tab464:tab 464=⟨.struct [(0,17),(1,17),(2,17),(3,9)],true,4,40,[.aq,.aq,.aq,.str []]⟩:=rfl
@[simp] theorem tab465:tab 465=⟨.array 0 16,true,0,0,[]⟩:=rfl
@[simp] theorem tab467:tab 467=⟨.struct [(0,465)],true,0,0,[]⟩:=rfl
@[simp] theorem tab468:tab 468=⟨.int .u8,false,1,1,[.int .u8 0]⟩:=rfl
@[simp] theorem tab469:tab 469=⟨.int .u8,false,1,1,[.int .u8 0]⟩:=rfl
@[simp] theorem tab470:tab 470=fT:=rfl
@[simp] theorem tab471:tab 471=⟨.int .i32,false,1,4,[.int .i32 0]⟩:=rfl
@[simp] theorem tab472:tab 472=⟨.int .i32,false,1,4,[.int .i32 0]⟩:=rfl
@[simp] theorem tab474:tab 474=⟨.struct [(0,12),(1,12),(2,373),(3,468),(4,5),(5,5),(6,469),(7,470),(8,246),(9,471),(10,472)],true,11,48,[.int .u64 0,.int .u64 0,.int .u32 0,.int .u8 0,.int .u8 0,.int .u8 0,.int .u8 0,.ap,.aq,.int .i32 0,.int .i32 0]⟩:=rfl
theorem mixed:prog.follows .mixedOrders=true:=by kernel_rfl
abbrev Str:=List UInt8
abbrev eN:=List Str
attribute [simp] w6 w8
def big1{x:Nat}(h:x<=140737488355328):(140737488355328<x)=False:=by simp;omega
def big2{x:Nat}(h:x<=9223372036854775807):(9223372036854775807<x)=False:=by simp;omega
@[simp] theorem getElem0{α:Type}(a:α)(l:List α):(a::l)[0]? = some a:=rfl
abbrev sl(es:eR):D:=.slice es .no
abbrev dI(n:Int):D:=.int .i64 n
def cS(l:eN):eR:=l.map fun s=>[.str s]
@[simp] theorem cS_get(l:eN)(i:Nat):(cS l)[i]? = (l[i]?).map fun s=>[.str s]:=by simp[cS]
@[simp] theorem E0(l:eN): ∀c∈cS l,c.length=1:=by simp[cS]
def cI(l:eP):eR:=l.map fun s=>[.int .i64 s]
@[simp] theorem K7(l:eP):(cI l).length=l.length:=by simp[cI]
@[simp] theorem cI_get(l:eP)(i:Nat):(cI l)[i]? = (l[i]?).map fun s=>[.int .i64 s]:=by simp[cI]
@[simp] theorem Ck(l:eP): ∀c∈cI l,c.length=1:=by simp[cI]
def cII(l:eT):eR:=l.map fun s=>[sl (cI s)]
@[simp] theorem cII_len(l:eT):(cII l).length=l.length:=by simp[cII]
@[simp] theorem cII_get(l:eT)(i:Nat):(cII l)[i]? = (l[i]?).map fun s=>[sl (cI s)]:=by simp[cII]
@[simp] theorem cI_all(l:eP):(cI l).all (fun c=>c.length==1)=true:=by simp[cI]
@[simp] theorem cII_all(l:eT):(cII l).all (fun c=>c.length==1)=true:=by simp[cII]
@[simp] theorem BX(l:eT): ∀c∈cII l,c.length=1:=by simp[cII]
structure jv where
 slot:Int
 n:Int
 deriving DecidableEq
structure ax where
 ae:eP
 ac:eP
 ah:List jv
 deriving DecidableEq
inductive j8 where
 |mk (op arg:Int) (path:eP) (jM n:Int) (ag:List j8)
structure jy where
 kind:Int
 gen:Int
 kW:j8
 node:Int
structure ay where
 op:Int
 n:Int
 ag:eP
 deriving DecidableEq
structure aw where
 aa:List ax
 ac:Int
 ai:eP
 j9:List jy
 jJ:List ay
 jf:Int
inductive aA where
 |mk (op n:Int) (text:Str) (ag:List aA)
inductive aB where
 |mk (op:Int) (name:Str) (path:eN) (jM:Str) (n:Int) (ag:List aB)
structure FInit where
 slot:Str
 n:Int
 deriving DecidableEq
structure ke where
 name:Str
 ae:eN
 ac:eN
 ah:List FInit
 deriving DecidableEq
structure FMeth where
 kind:Int
 name:Str
 params:eN
 kW:aB
 body:aA
structure FProg where
 aa:List ke
 j9:List FMeth
 jf:aA
structure World where
 ae:eT
 jQ:eP
 deriving DecidableEq
section
def j8.op:j8->Int|.mk o _ _ _ _ _=>o
def j8.arg:j8->Int|.mk _ a _ _ _ _=>a
def j8.path:j8->eP|.mk _ _ p _ _ _=>p
def j8.jM:j8->Int|.mk _ _ _ c _ _=>c
def j8.n:j8->Int|.mk _ _ _ _ n _=>n
def j8.ag:j8->List j8|.mk _ _ _ _ _ k=>k
def aA.op:aA->Int|.mk o _ _ _=>o
def aA.n:aA->Int|.mk _ n _ _=>n
def aA.text:aA->Str|.mk _ _ t _=>t
def aA.ag:aA->List aA|.mk _ _ _ k=>k
def aB.op:aB->Int|.mk o _ _ _ _ _=>o
def aB.name:aB->Str|.mk _ s _ _ _ _=>s
def aB.path:aB->eN|.mk _ _ p _ _ _=>p
def aB.jM:aB->Str|.mk _ _ _ c _ _=>c
def aB.n:aB->Int|.mk _ _ _ _ n _=>n
def aB.ag:aB->List aB|.mk _ _ _ _ _ k=>k
def j8.lt{f x:j8}(h:x∈f.ag):SizeOf.sizeOf x<SizeOf.sizeOf f:=by
 cases f;simp only[j8.ag]at h;have:=ed h;simp;omega
def aA.lt{f x:aA}(h:x∈f.ag):SizeOf.sizeOf x<SizeOf.sizeOf f:=by
 cases f;simp only[aA.ag]at h;have:=ed h;simp;omega
def aB.lt{f x:aB}(h:x∈f.ag):SizeOf.sizeOf x<SizeOf.sizeOf f:=by
 cases f;simp only[aB.ag]at h;have:=ed h;simp;omega
end
mutual
def Cu:j8->eO
 |.mk o a p c n k=>[dI o,dI a,sl (cI p),dI c,dI n,sl (NQ k)]
def NQ:List j8->eR
 |[]=>[]
 |f::l=>Cu f::NQ l
end
def Ly: ∀l,NQ l=l.map Cu
 |[]=>by rw[NQ];rfl
 |f::l=>by rw[NQ,Ly l];rfl
@[simp] theorem EJ(f:j8):Cu f=[dI f.op,dI f.arg,sl (cI f.path),dI f.jM,dI f.n,sl (f.ag.map Cu)]:=by
 cases f;rw[Cu,Ly];rfl
mutual
def Ka:aA->eO
 |.mk o n t k=>[dI o,dI n,.str t,sl (NR k)]
def NR:List aA->eR
 |[]=>[]
 |f::l=>Ka f::NR l
end
def Lz: ∀l,NR l=l.map Ka
 |[]=>by rw[NR];rfl
 |f::l=>by rw[NR,Lz l];rfl
@[simp] theorem GD(f:aA):Ka f=[dI f.op,dI f.n,.str f.text,sl (f.ag.map Ka)]:=by
 cases f;rw[Ka,Lz];rfl
mutual
def HV:aB->eO
 |.mk o s p c n k=>[dI o,.str s,sl (cS p),.str c,dI n,sl (K9 k)]
def K9:List aB->eR
 |[]=>[]
 |f::l=>HV f::K9 l
end
def K8: ∀l,K9 l=l.map HV
 |[]=>by rw[K9];rfl
 |f::l=>by rw[K9,K8 l];rfl
@[simp] theorem Fa(f:aB):HV f=[dI f.op,.str f.name,sl (cS f.path),.str f.jM,dI f.n,sl (f.ag.map HV)]:=by
 cases f;rw[HV,K8];rfl
@[simp] def FB(i:jv):eO:=[dI i.slot,dI i.n]
@[simp] def Ik(c:ax):eO:=[sl (cI c.ae),sl (cI c.ac),sl (c.ah.map FB)]
@[simp] def LA(m:jy):eO:=[dI m.kind,dI m.gen]++Cu m.kW++[dI m.node]
@[simp] def HW(x:ay):eO:=[dI x.op,dI x.n,sl (cI x.ag)]
@[simp] def A7(p:aw):eO:=[sl (p.aa.map Ik),dI p.ac,sl (cI p.ai),sl (p.j9.map LA),sl (p.jJ.map HW),dI p.jf]
@[simp] def Vz(i:FInit):eO:=[.str i.slot,dI i.n]
@[simp] def OG(c:ke):eO:=[.str c.name,sl (cS c.ae),sl (cS c.ac),sl (c.ah.map Vz)]
@[simp] def Vy(m:FMeth):eO:=[dI m.kind,.str m.name,sl (cS m.params)]++HV m.kW++Ka m.body
@[simp] def cFProg(p:FProg):eO:=[sl (p.aa.map OG),sl (p.j9.map Vy)]++Ka p.jf
@[simp] def Dg(w:World):eO:=[sl (cII w.ae),sl (cI w.jQ)]
def B2{O:Sig}{i j:Nat}{o:jP}(h:O.set i o j=none):j≠i/\O j=none:=by
 by_cases hj:j=i
 ·subst hj;rw[w6]at h;cases h
 ·rw[w7 _ _ hj]at h;exact⟨hj,h⟩
def A9{α:Type}{l:List α}{k:Nat}(h:¬k<l.length):l.drop k=[]:=dk j0
def A6{α:Type}{l:List α}{k:Nat}(h:k<l.length):l.drop k=l[k]::l.drop (k+1):=dC h
@[simp] theorem cI_nil:cI []=[]:=rfl
@[simp] theorem cS_nil:cS []=[]:=rfl
@[simp] theorem cII_nil:cII []=[]:=rfl
@[simp] theorem cI_take(l:eP)(k:Nat):(cI l).take k=cI (l.take k):=by simp[cI]
@[simp] theorem cI_tail(l:eP):(cI l).tail=cI l.tail:=by simp[cI]
def BB(f:j8):[dI f.op,dI f.arg,sl (cI f.path),dI f.jM,dI f.n,sl (f.ag.map Cu)]=Cu f:=by simp
def BC(f:aA):[dI f.op,dI f.n,.str f.text,sl (f.ag.map Ka)]=Ka f:=by simp
def Bb(f:aB):[dI f.op,.str f.name,sl (cS f.path),.str f.jM,dI f.n,sl (f.ag.map HV)]=HV f:=by simp
theorem BA(i:jv):[dI i.slot,dI i.n]=FB i:=rfl
theorem AV(c:ax):[sl (cI c.ae),sl (cI c.ac),sl (c.ah.map FB)]=Ik c:=rfl
def Be(m:jy):[dI m.kind,dI m.gen,dI m.kW.op,dI m.kW.arg,sl (cI m.kW.path),dI m.kW.jM,dI m.kW.n,sl (m.kW.ag.map Cu),dI m.node]=LA m:=by simp
theorem Bd(x:ay):[dI x.op,dI x.n,sl (cI x.ag)]=HW x:=rfl
theorem Bc(p:aw):[sl (p.aa.map Ik),dI p.ac,sl (cI p.ai),sl (p.j9.map LA),sl (p.jJ.map HW),dI p.jf]=A7 p:=rfl
theorem Ba(i:FInit):[.str i.slot,dI i.n]=Vz i:=rfl
theorem AU(c:ke):[.str c.name,sl (cS c.ae),sl (cS c.ac),sl (c.ah.map Vz)]=OG c:=rfl
def B9(m:FMeth):dI m.kind :: .str m.name::sl (cS m.params)::dI m.kW.op :: .str m.kW.name::sl (cS m.kW.path) :: .str m.kW.jM::dI m.kW.n::sl (m.kW.ag.map HV)::Ka m.body=Vy m:=by simp
def B8(p:FProg):sl (p.aa.map OG)::sl (p.j9.map Vy)::Ka p.jf=cFProg p:=by simp
theorem B7(w:World):[sl (cII w.ae),sl (cI w.jQ)]=Dg w:=rfl
def wtL{α:Type}(f:α->Nat):List α->Nat
 |[]=>0
 |x::l=>f x+wtL f l
def Ei{α:Type}(f:α->Nat): ∀(l:List α) (k:Nat) (h:k<l.length),f l[k]<=wtL f l
 |x::l,0,_=>by simp[wtL]
 |x::l,k+1,h=>by
  have:=Ei f l k (by simpa using h);simp only[eI,wtL];omega
def wtL_mem{α:Type}(f:α->Nat){l:List α}{x:α}(h:x∈l):f x<=wtL f l:=by
 obtain⟨k,hk,rfl⟩:=bT h;exact Ei f l k hk
def Eh{α:Type}(f:α->Nat)(hf:∀x,1<=f x): ∀l:List α,l.length<=wtL f l
 |[]=>bU _
 |x::l=>by
  have:=Eh f hf l;have:=hf x;simp only[aS,wtL];omega
def O0{α:Type}(f:α->Nat): ∀l m:List α,wtL f (l++m)=wtL f l+wtL f m
 |[],m=>by simp[wtL]
 |x::l,m=>by simp only[bH,wtL,O0 f l m];omega
def wtS:eN->Nat:=wtL fun s=>1+s.length
mutual
def j8.wt:j8->Nat
 |.mk _ _ p _ _ k=>1+p.length+j8.wts k
def j8.wts:List j8->Nat
 |[]=>0
 |f::l=>f.wt+j8.wts l
end
mutual
def aA.wt:aA->Nat
 |.mk _ _ t k=>1+t.length+aA.wts k
def aA.wts:List aA->Nat
 |[]=>0
 |f::l=>f.wt+aA.wts l
end
mutual
def aB.wt:aB->Nat
 |.mk _ s p c _ k=>1+s.length+wtS p+c.length+aB.wts k
def aB.wts:List aB->Nat
 |[]=>0
 |f::l=>f.wt+aB.wts l
end
def j8.wts_eq: ∀l,j8.wts l=wtL j8.wt l
 |[]=>by rw[j8.wts,wtL]
 |f::l=>by rw[j8.wts,wtL,j8.wts_eq l]
def aA.wts_eq: ∀l,aA.wts l=wtL aA.wt l
 |[]=>by rw[aA.wts,wtL]
 |f::l=>by rw[aA.wts,wtL,aA.wts_eq l]
def aB.wts_eq: ∀l,aB.wts l=wtL aB.wt l
 |[]=>by rw[aB.wts,wtL]
 |f::l=>by rw[aB.wts,wtL,aB.wts_eq l]
def j8.wt_eq(f:j8):f.wt=1+f.path.length+wtL j8.wt f.ag:=by cases f;rw[j8.wt,j8.wts_eq];rfl
def aA.wt_eq(f:aA):f.wt=1+f.text.length+wtL aA.wt f.ag:=by cases f;rw[aA.wt,aA.wts_eq];rfl
def aB.wt_eq(f:aB):f.wt=1+f.name.length+wtS f.path+f.jM.length+wtL aB.wt f.ag:=by cases f;rw[aB.wt,aB.wts_eq];rfl
def j8.wt_pos(f:j8):1<=f.wt:=by rw[j8.wt_eq];omega
def aA.wt_pos(f:aA):1<=f.wt:=by rw[aA.wt_eq];omega
def aB.wt_pos(f:aB):1<=f.wt:=by rw[aB.wt_eq];omega
def j8.wt_le(f:j8):f.path.length<f.wt/\f.ag.length<f.wt /\ ∀(k:Nat) (h:k<f.ag.length),(f.ag[k]).wt<f.wt:=by
 have h1:=j8.wt_eq f;have h2:=Eh j8.wt j8.wt_pos f.ag;exact⟨j0,j0,fun k h=>by have:=Ei j8.wt f.ag k h;omega⟩
def aA.wt_le(f:aA):f.text.length<f.wt/\f.ag.length<f.wt /\ ∀(k:Nat) (h:k<f.ag.length),(f.ag[k]).wt<f.wt:=by
 have h1:=aA.wt_eq f;have h2:=Eh aA.wt aA.wt_pos f.ag;exact⟨j0,j0,fun k h=>by have:=Ei aA.wt f.ag k h;omega⟩
def aB.wt_le(f:aB):f.name.length<f.wt/\wtS f.path<f.wt/\f.jM.length<f.wt/\f.ag.length<f.wt /\ ∀(k:Nat) (h:k<f.ag.length),(f.ag[k]).wt<f.wt:=by
 have h1:=aB.wt_eq f;have h2:=Eh aB.wt aB.wt_pos f.ag;exact⟨j0,j0,j0,j0,fun k h=>by have:=Ei aB.wt f.ag k h;omega⟩
def ax.wt(c:ax):Nat:=1+c.ae.length+c.ac.length+c.ah.length
def ay.wt(x:ay):Nat:=1+x.ag.length
def jy.wt(m:jy):Nat:=1+m.kW.wt
def aw.wt(p:aw):Nat:=1+wtL ax.wt p.aa+p.ai.length+wtL jy.wt p.j9+wtL ay.wt p.jJ
def FInit.wt(i:FInit):Nat:=1+i.slot.length
def ke.wt(c:ke):Nat:=1+c.name.length+wtS c.ae+wtS c.ac+wtL FInit.wt c.ah
def FMeth.wt(m:FMeth):Nat:=1+m.name.length+wtS m.params+m.kW.wt+m.body.wt
def FProg.wt(p:FProg):Nat:=1+wtL ke.wt p.aa+wtL FMeth.wt p.j9+p.jf.wt
def aw.wt_le(p:aw):p.aa.length<p.wt/\p.ai.length<p.wt/\p.j9.length<p.wt/\p.jJ.length<p.wt /\
  (∀(k:Nat) (h:k<p.aa.length),(p.aa[k]).wt<p.wt)/\(∀(k:Nat) (h:k<p.j9.length),(p.j9[k]).wt<p.wt) /\ ∀(k:Nat) (h:k<p.jJ.length),(p.jJ[k]).wt<p.wt:=by
 have h1:=Eh ax.wt (fun x=>by unfold ax.wt;omega) p.aa;have h2:=Eh jy.wt (fun x=>by unfold jy.wt;omega) p.j9;have h3:=Eh ay.wt (fun x=>by unfold ay.wt;omega) p.jJ;unfold aw.wt;exact⟨j0,j0,j0,j0,fun k h=>by have:=Ei ax.wt p.aa k h;omega,fun k h=>by have:=Ei jy.wt p.j9 k h;omega,fun k h=>by have:=Ei ay.wt p.jJ k h;omega⟩
def FProg.wt_le(p:FProg):p.aa.length<p.wt/\p.j9.length<p.wt/\p.jf.wt<p.wt /\
  (∀(k:Nat) (h:k<p.aa.length),(p.aa[k]).wt<p.wt)/\(∀(k:Nat) (h:k<p.j9.length),(p.j9[k]).wt<p.wt):=by
 have h1:=Eh ke.wt (fun x=>by unfold ke.wt;omega) p.aa;have h2:=Eh FMeth.wt (fun x=>by unfold FMeth.wt;omega) p.j9;unfold FProg.wt;exact⟨j0,j0,j0,fun k h=>by have:=Ei ke.wt p.aa k h;omega,fun k h=>by have:=Ei FMeth.wt p.j9 k h;omega⟩
def ke.wt_le(c:ke):c.name.length<c.wt/\wtS c.ae<c.wt/\wtS c.ac<c.wt/\c.ah.length<c.wt /\ ∀(k:Nat) (h:k<c.ah.length),(c.ah[k]).slot.length<c.wt:=by
 have h1:=Eh FInit.wt (fun x=>by unfold FInit.wt;omega) c.ah;unfold ke.wt;exact⟨j0,j0,j0,j0,fun k h=>by have:=Ei FInit.wt c.ah k h;unfold FInit.wt at this⊢; omega⟩
end Go.DL
namespace Go.Proofs
open Go.Proofs.Tryz
open Go.Shelf
def jL:Go.Shelf.Ren:=⟨fun x=>match x with|189=>240|125=>289|257=>288|128=>335|129=>316|294=>326|295=>327|296=>328|297=>329|298=>330|299=>331|216=>332|300=>333|301=>334|328=>360|329=>361|330=>362|331=>363|332=>364|215=>365|343=>383|n=>n,fun x=>match x with|28=>23|3=>3|46=>320|0=>0|51=>373|53=>338|4=>4|183=>400|182=>399|131=>227|5=>5|9=>9|218=>440|222=>425|228=>454|229=>249|n=>n,fun n=>n⟩
def laysSort:Lays.n189 prog jL:=
 {mixed:=Eq.refl true,f125:=func289.trans (bn some (by kernel_rfl)),f128:=func335.trans (bn some (by kernel_rfl)),f129:=func316.trans (bn some (by kernel_rfl)),f189:=func240.trans (bn some (by kernel_rfl)),f215:=func365.trans (bn some (by kernel_rfl)),f216:=func332.trans (bn some (by kernel_rfl)),f257:=func288.trans (bn some (by kernel_rfl)),f294:=func326.trans (bn some (by kernel_rfl)),f295:=func327.trans (bn some (by kernel_rfl)),f296:=func328.trans (bn some (by kernel_rfl)),f297:=func329.trans (bn some (by kernel_rfl)),f298:=func330.trans (bn some (by kernel_rfl)),f299:=func331.trans (bn some (by kernel_rfl)),f300:=func333.trans (bn some (by kernel_rfl)),f301:=func334.trans (bn some (by kernel_rfl)),f328:=func360.trans (bn some (by kernel_rfl)),f329:=func361.trans (bn some (by kernel_rfl)),f330:=func362.trans (bn some (by kernel_rfl)),f331:=func363.trans (bn some (by kernel_rfl)),f332:=func364.trans (bn some (by kernel_rfl)),f343:=func383.trans (bn some (by kernel_rfl)),t0:=underlying0,a0:=isAgg0,z0:=sizeOf0,v0:=zeroValue0,t3:=underlying3,a3:=isAgg3,z3:=sizeOf3,v3:=zeroValue3,t4:=underlying4,a4:=isAgg4,z4:=sizeOf4,v4:=zeroValue4,t5:=underlying5,a5:=isAgg5,z5:=sizeOf5,v5:=zeroValue5,t9:=underlying9,a9:=isAgg9,z9:=sizeOf9,v9:=zeroValue9,t28:=underlying23,a28:=isAgg23,z28:=sizeOf23,v28:=zeroValue23,t46:=underlying320,a46:=isAgg320,z46:=sizeOf320,v46:=zeroValue320,t51:=underlying373,a51:=isAgg373,z51:=sizeOf373,v51:=zeroValue373,t53:=underlying338,a53:=isAgg338,z53:=sizeOf338,v53:=zeroValue338,t131:=underlying227,a131:=isAgg227,z131:=sizeOf227,v131:=zeroValue227,t182:=underlying399,a182:=isAgg399,z182:=sizeOf399,v182:=zeroValue399,t183:=underlying400,a183:=isAgg400,z183:=sizeOf400,v183:=zeroValue400,t218:=underlying440,a218:=isAgg440,z218:=sizeOf440,v218:=zeroValue440,t222:=underlying425,a222:=isAgg425,z222:=sizeOf425,v222:=zeroValue425,t228:=underlying454,a228:=isAgg454,z228:=sizeOf454,v228:=zeroValue454,t229:=underlying249,a229:=isAgg249,z229:=sizeOf249,v229:=zeroValue249 }
end Go.Proofs
namespace Go.DL
open Go.Proofs.Tryz
open Go Go.Proofs Go.Sort
def Fi(l:eP):eP:=l.mergeSort fun x y=>decide (x<=y)
def Hg(l:eP):(Fi l).length=l.length:=by unfold Fi;exact List.length_mergeSort _
def MZ(l:eP)(j:Nat)(h:j<l.length):l.toArray[j]! = l[j]:=by simp[getElem!_pos,h]
def TT(l:eP)(st:MR)(O:Sig)(hm:mOK O 1 st (cI l))(hl:l.length<=1073741824):
  ar prog 240 [mD st l.length] (mS O st (cI l)) fun x U'=>x=.ret (.tup [])/\U'=mS O st (cI (Fi l)):=by
 have hL:∀f∈[jL.f 189,jL.f 257,jL.f 125,jL.f 294,jL.f 295,jL.f 296,jL.f 297,jL.f 298,jL.f 299,jL.f 216,jL.f 300,jL.f 301,jL.f 129,jL.f 328,jL.f 329,jL.f 330,jL.f 331,jL.f 332,jL.f 215,jL.f 343],f<prog.funcs.size:=by
  rw[Ao];decide
 refine⟨by rw[Ao];decide,C8 func240 (by rfl) (by rfl),fun g w vs hs ha=>?_⟩;obtain⟨v,r,rfl,hv,rfl⟩:=ha;cases st with
 |none=>
  have fg:l=[]:=by have:cI l=[]:=hm;simpa[cI] using this
  subst fg;have fc:v=.slice none 0 0:=hv;subst fc;refine(Lv (fun D=>AnyS.slices_Sort_int_none_alone laysSort D none 0 w) hL {}).mono ?_
  rintro e w' ⟨rfl,rfl⟩
  refine⟨g,.ret (.tup []),_,.refl g,hs,⟨_,rfl,[],rfl,rfl⟩,rfl,?_⟩;simp[mS]
 | some x =>
  obtain⟨i,cap,rest⟩:=x;obtain⟨h1,h2,h3,h4⟩:=hm;obtain⟨b,hb,hv⟩:=hv;subst hv;obtain⟨b',vs,ty,eZ,b7,hr⟩:=hs.obj i _ (w6 ..);obtain rfl:b'=b:=by rw[hb]at eZ;cases eZ;rfl
  have d6:∀m:eP,(cI m).flatten=m.map (D.int .i64):=fun m=>by induction m with
   |nil=>rfl
   |cons x m ih=>simp only[cI,bd,br]at ih⊢; rw[ih];rfl
  have hlen:=jE.length hr;simp only[bB,aC,d6,aN]at hlen
  have eX:∀j (hj:j<l.length),vs[j]? = some (.int .i64 l[j]):=by
   intro j hj;have:=jE.get hr j;rw[bj (by simp[d6,hj]),d6]at this;simp only[bA,aD hj,bx,ba,bO]at this;have d9:j<vs.size:=by omega
   rw[bw d9]at this⊢;have this':vs[j]=.int .i64 l[j]:=this;rw[this']
  have hH:Holds (Value.int .i64) w b' 0 l.toArray:=by
   intro j hj;have eY:j<l.length:=by simpa using hj
   refine⟨?_,by simp[Go.World.frozen?, b7]⟩;simp only[Go.World.cell?, b7,co];rw[MZ l j eY];exact eX j eY
  have fi:b'<w.heap.size:=(aI.1 b7).1;refine(Lv (fun D=>AnyS.slices_Sort_int_alone laysSort D b' 0 cap l w hH fi j0) hL {}).mono ?_
  rintro e w' ⟨rfl,q,os,rfl⟩
  refine⟨g,.ret (.tup []),_,.refl g,?_,⟨_,rfl,[],rfl,rfl⟩,rfl,rfl⟩;have ff:=Hg l;have d7:=hs.setObj (i:=i) (b:=b') (ds':=(cI (Fi l)).flatten++rest) (vs':=putCells (Value.int .i64) 0 (Fi l).toArray vs) (ty:=ty) (w6 ..) hb ?_ ⟨vs,b7⟩
  ·have e1:(mS O (some (i,cap,rest)) (cI l)).set i (.cells ((cI (Fi l)).flatten++rest))=mS O (some (i,cap,rest)) (cI (Fi l)):=w8 ..;rw[e1]at d7;refine d7.later (fun k x hx=>?_) rfl;have hk:k<w.heap.size:=by have:=(aI.1 hx).1;simpa[setB] using this
   simp only[grow,putRow,mapBlock];have ea:(Sort.ahead w q).heap=w.heap:=rfl;rw[ea];rw[dy (by simpa using hk)]
   by_cases eW:k=b'
   ·subst eW;rw[Fl b7]at hx;rw[cQ,aG rfl,b7,<-hx];rfl
   ·rw[Fk eW]at hx;rw[cQ,aE (fun e=>eW e.symm),hx]
  ·refine AP (by simp[putCells,d6];omega) fun j d u hd hu=>?_
   rw[d6]at hd;simp only[putCells,bO,Array.getElem?_mapIdx,cE,ep,co,List.size_toArray,dA]at hu
   have d9:j<vs.size:=by
    rcases ce j vs.size with h|h
    ·exact h
    ·rw[cb h]at hu;cases hu
   rw[bw d9]at hu;simp only[bx,bE]at hu
   by_cases hj:j<(Fi l).length
   ·rw[aG hj,MZ _ _ hj]at hu;rw[bj (by simpa using hj),bA,aD hj]at hd;simp only[bx,bE]at hd;subst hd hu;exact rfl
   ·rw[aE hj]at hu;rw[bK (by simpa using hj)]at hd;have:=jE.get hr j;rw[bK (by simp[d6];omega),d6]at this;simp only[aN]at hd this;rw[ff]at hd;rw[hd,bO,bw d9,hu]at this;exact this
end Go.DL
namespace Go.DL
open Go.Proofs.Tryz
open Go Go.Proofs
structure Hold(F:Prop):Prop where
 get:F
def DP{a b:Int}(h:a<=b):decide (a<=b)=true:=by simp[h]
def CN{a b:Int}(h:b<a):decide (a<=b)=false:=by simp;omega
def DO{a b:Int}(h:a<b):decide (a<b)=true:=by simp[h]
def CM{a b:Int}(h:b<=a):decide (a<b)=false:=by simp;omega
def G9{p:Prop}[Decidable p]{α:Type}{a b:α}(h:p):(if p then a else b)=a:=aG h
def DQ{a b:Int}(h:a=b):decide (a=b)=true:=by simp[h]
def DN{a b:Int}(h:¬a=b):decide (a=b)=false:=by simp[h]
def CF{a b:Nat}(h:a<=b):decide (a<=b)=true:=by simp[h]
def BM{a b:Nat}(h:b<a):decide (a<=b)=false:=by simp;omega
def CE{a b:Nat}(h:a<b):decide (a<b)=true:=by simp[h]
def BL{a b:Nat}(h:b<=a):decide (a<b)=false:=by simp;omega
def CG{a b:Nat}(h:a=b):decide (a=b)=true:=by simp[h]
def CD{a b:Nat}(h:¬a=b):decide (a=b)=false:=by simp[h]
def Ae(a b:Bool):(DE.ret (.bool a)=DE.ret (.bool b))=(a=b):=by simp
structure l7(vars:eQ):Prop
def Mv{P:Program}{ro:Ro}{n:Nat}{ops:Array Oper}{Q:DX->St->Prop}{df:List DDf}{rest:List Oper}{γ Sr:Fr}{O:Sig}{t:Nat}{ty:TypeId}{pos:String}{after:Array Edge}{d:D}{vars:eQ}(_:l7 vars){tab:Nat->Ty}(ht:AZ P tab){T T' ty':Nat}{x:Operand}{pos':String}{after':Array Edge}{cs:eO}(hv:vars.contains t=false)(hT:T'=T)(b6:decide (t<n)=true)(hx:FD t x=true)(ho:A2 (tab T).k=false)
  (hl:A5 γ (Aa [x])=some Sr) (he:ev Sr x=d) (b8:d.told=true) (hc:d.cells=cs) (hlen:cs.length=(tab T).size) (b9:C6 cs=true)
  (h:au P ro n ops Q rest ⟨(t,.ak cs 0)::γ,O,df⟩) :
  au P ro n ops Q (⟨some t,.alloc T,ty,pos,after,none⟩::⟨none,.store T' (.tmp t) x,ty',pos',after',none⟩::rest) ⟨γ,O,df⟩:=
 VX ht vars hv hT b6 hx ho hl he b8 hc hlen b9 h
def KD{P:Program}{ro:Ro}{n:Nat}{ops:Array Oper}{Q:DX->St->Prop}{df:List DDf}{rest:List Oper}{γ Sr Sr2:Fr}{O:Sig}{t t2:Nat}{d d2:D}{vars:eQ}(_:l7 vars){tab:Nat->Ty}(ht:AZ P tab){T T' ty ty' ty2:Nat}{x y:Operand}{pos pos' pos2:String}{after after' after2:Array Edge}{cs:eO}(hv:vars.contains t=false)(hT:T'=T)(b6:decide (t<n)=true)(eU:decide (t2<n)=true)(hx:FD t x=true)(hy:FD t y=true)(fa:FD t2 x=true)(fj:decide (t2=t)=false)(ho:A2 (tab T).k=false)
  (eV:A5 γ (Aa [y])=some Sr2) (fh:ev Sr2 y=d2) (hl:A5 γ (Aa [x])=some Sr) (he:ev Sr x=d) (b8:d.told=true) (hc:d.cells=cs) (hlen:cs.length=(tab T).size) (b9:C6 cs=true)
  (h:au P ro n ops Q rest ⟨(t,.ak cs 0)::(t2,d2)::γ,O,df⟩) :
  au P ro n ops Q (⟨some t,.alloc T,ty,pos,after,none⟩::⟨some t2,.assign y,ty2,pos2,after2,none⟩::⟨none,.store T' (.tmp t) x,ty',pos',after',none⟩::rest) ⟨γ,O,df⟩:=
 RH ht vars hv hT b6 eU hx hy fa fj ho eV fh hl he b8 hc hlen b9 h
def td0{p:Prop}(h:p:=by simp(disch:=first|omega|assumption) [AA,big1,big2,w7]<;>(try simp only[BB,BC,Bb,BA,AV,Be,Bd,Bc,Ba,AU,B9,B8,B7])<;>with_unfolding_all rfl):p:=h
def tdW{p:Prop}(h:p:=by first|exact Ac _|exact Cc _ _|exact Ak _ (.inl rfl)|exact EK _|(refine HY _ ?_;first|omega|(simp;done)|(simp;omega))|(refine Cb ?_;(simp;done))|(refine Cb ?_;(simp[cI,cS,cII,EJ,Fa,GD];done))|(refine DC _ ?_;(simp[cI,cS,cII];done))|(refine Cb ?_;(simp_all;done))|assumption):p:=h
def tdT{p:Prop}(h:p:=by(first|refine FQ ?_ ?_|skip)<;>(repeat' first|exact FP|refine EO tdR ?_ ?_|(first|exact Ac _|exact Cc _ _|exact Ak _ (.inl rfl)|exact EK _|(refine HY _ ?_;first|omega|(simp;done)|(simp;omega))|(refine Cb ?_;(simp;done))|(refine Cb ?_;(simp[cI,cS,cII,EJ,Fa,GD];done))|(refine DC _ ?_;(simp[cI,cS,cII];done))|(refine Cb ?_;(simp_all;done))|assumption))):p:=h
def tdU{p:Prop}(h:p:=by first|exact Sub.refl _|(refine C1 ?_;simp;done)|assumption|exact(Sub.refl _).set (by assumption)):p:=h
section
variable {P:Program}{ro:Ro}{n:Nat}{ops:Array Oper}{N:Nat}{S0:Sig}{Q:DX->St->Prop}{df:List DDf}{rest:List Oper}{γ Sr:List (Nat×D)}{O:Sig}{t:Nat}{ty:TypeId}{pos:String}{after:Array Edge}{l:List (Bool×Oper)}{d:D}
theorem Bh{fop:Operand}{args:Array Operand}{ats:Array TypeId}{f:Nat}{first cap us bs:eO}(h:ar P f bs O (rS d O))(k1:au P ro n ops Q rest ⟨(t,d)::γ,O,df⟩)(hl:A5 γ (Aa (fop::args.toList))=some Sr:=by exact tdR)(hf:ev Sr fop=.func (.func f) first cap:=by exact tdR)(ha:first++args.toList.map (ev Sr)++cap=us:=by exact td0)(hp:bs=us:=by exact tdR)(b6:decide (t<n)=true:=by exact tdR):au P ro n ops Q (⟨some t,(cv fop args ats),ty,pos,after,none⟩::rest) ⟨γ,O,df⟩:=KG hl hf ha (.inl hp) h b6 k1
theorem DZ{fop:Operand}{args:Array Operand}{ats:Array TypeId}{f:Nat}{first cap us bs:eO}{j:Nat}{want:Bool}{k:Nat}(h:ar P f bs O (rS d O))(k1:au P ro n ops Q rest ⟨(t,d)::γ,O,df⟩)(hk:(ops[j]?).bind (·.dst)=some k:=by exact tdR)(hb:γ.lookup k=some (.bool want):=by exact tdR)(hl:A5 γ (Aa (fop::args.toList))=some Sr:=by exact tdR)(hf:ev Sr fop=.func (.func f) first cap:=by exact tdR)(ha:first++args.toList.map (ev Sr)++cap=us:=by exact td0)(hp:bs=us:=by exact tdR)(b6:decide (t<n)=true:=by exact tdR):au P ro n ops Q (⟨some t,(cv fop args ats),ty,pos,after,some (j,want)⟩::rest) ⟨γ,O,df⟩:=Jf hk hb hl hf ha (.inl hp) h b6 k1
theorem moRG{fop:Operand}{args:Array Operand}{ats:Array TypeId}{f:Nat}{first cap us bs:eO}{j:Nat}{want:Bool}{k:Nat}(h:ar P f bs O (rS d O))(k1:MO P ro n ops N S0 Q df l ((t,d)::γ) O)(hk:(ops[j]?).bind (·.dst)=some k:=by exact tdR)(hb:γ.lookup k=some (.bool want):=by exact tdR)(hl:A5 γ (Aa (fop::args.toList))=some Sr:=by exact tdR)(hf:ev Sr fop=.func (.func f) first cap:=by exact tdR)(ha:first++args.toList.map (ev Sr)++cap=us:=by exact td0)(hp:bs=us:=by exact tdR)(b6:decide (t<n)=true:=by exact tdR)(hC:Sub S0 O:=by first|exact Sub.refl _|assumption):MO P ro n ops N S0 Q df ((true,⟨some t,(cv fop args ats),ty,pos,after,some (j,want)⟩)::l) γ O:=MJ hk hb hl hf ha (.inl hp) h b6 hC k1
theorem A3{fop:Operand}{args:Array Operand}{ats:Array TypeId}{f:Nat}{first cap us bs:eO}{R:DE->Sig->Prop}{dst:Option Tmp}(h:ar P f bs O R)(c9:∀d U',R (.ret d) U'->au P ro n ops Q rest ⟨putD dst d γ,U',df⟩)(d5:∀d U',R (.panic d) U'->Q (.panic d) ⟨γ,U',df⟩:=by intro _ _ z;cases z.1)(hl:A5 γ (Aa (fop::args.toList))=some Sr:=by exact tdR)(hf:ev Sr fop=.func (.func f) first cap:=by exact tdR)(ha:first++args.toList.map (ev Sr)++cap=us:=by exact td0)(hp:bs=us:=by exact tdR)
  (ho:Ax n ⟨dst,(cv fop args ats),ty,pos,after,none⟩=true:=by exact tdR):au P ro n ops Q (⟨dst,(cv fop args ats),ty,pos,after,none⟩::rest) ⟨γ,O,df⟩:=Hf hl hf ha (.inl hp) h ho c9 d5
theorem Vu{fop:Operand}{args:Array Operand}{ats:Array TypeId}{f:Nat}{first cap us bs:eO}{R:DE->Sig->Prop}{dst:Option Tmp}(h:ar P f bs O R)(c9:∀d U',R (.ret d) U'->au P ro n ops Q rest ⟨putD dst d γ,U',df⟩)(d5:∀d U',R (.panic d) U'->Q (.panic d) ⟨γ,U',df⟩)(hl:A5 γ (Aa (fop::args.toList))=some Sr:=by exact tdR)(hf:ev Sr fop=.func (.func f) first cap:=by exact tdR)(ha:first++args.toList.map (ev Sr)++cap=us:=by exact td0)(hp:bs=us.map D.plain:=by exact tdR)
  (ho:Ax n ⟨dst,(cv fop args ats),ty,pos,after,none⟩=true:=by exact tdR):au P ro n ops Q (⟨dst,(cv fop args ats),ty,pos,after,none⟩::rest) ⟨γ,O,df⟩:=Hf hl hf ha (.inr hp) h ho c9 d5
theorem cndB{c:Nat}{x y:Code}{b:Bool}(ht:b=true->DWp P ro n x Q ⟨(c,.bool true)::γ,O,df⟩)(hf:b=false->DWp P ro n y Q ⟨(c,.bool false)::γ,O,df⟩)(hl:γ.lookup c=some (.bool b):=by exact tdR):DWp P ro n (.cond (.tmp c) x y) Q ⟨γ,O,df⟩:=by
 refine PK (s:=⟨γ,O,df⟩) (t:=b) (Ay hl) (fun h=>?_) (fun h=>?_)
 ·exact FH (C0 (by rw[Ay hl,h];exact Ac _)) (ht h)
 ·exact FH (C0 (by rw[Ay hl,h];exact Ac _)) (hf h)
theorem mix{lo:List Oper}{id:Nat}(ord E:eQ){lp:List (Bool×Oper)}(h:MO prog ro n lo.toArray 431 O Q df lp γ O)(hB:FE lo.toArray E ord=true:=by kernel_rfl)(hl:GZ lo E ord=some lp:=by exact tdR):DWp prog ro n (.region id lo.toArray true) Q ⟨γ,O,df⟩:=
 PG Ao mixed ord E O hB (Sub.refl _) hl h
theorem FK{lo:List Oper}{id:Nat}(ord E:eQ)(S0:Sig)(hC:Sub S0 O){lp:List (Bool×Oper)}(h:MO prog ro n lo.toArray 431 S0 Q df lp γ O)(hB:FE lo.toArray E ord=true:=by kernel_rfl)(hl:GZ lo E ord=some lp:=by exact tdR):DWp prog ro n (.region id lo.toArray true) Q ⟨γ,O,df⟩:=
 PG Ao mixed ord E S0 hB hC hl h
theorem wkR{V':Fr}{U':Sig}(h:jr γ V':=by exact tdT)(hZ:Sub U' O:=by exact tdU):Wk P n ⟨γ,O,df⟩ ⟨V',U',df⟩:=LE h hZ
theorem Bz{Sk:Fr}{α:Type}{c:Code}(keep:eQ)(I:α->Prop)(ov:α->Fr)(sg:α->Sig)(μ:α->Nat)(x0:α)(h0:I x0)
  (round:∀x,I x->DWp P ro n c (ka (fun s'=> ∃x',I x'/\μ x'<μ x/\Wk P n s' ⟨ov x'++Sk,sg x',df⟩) Q) ⟨ov x++Sk,sg x,df⟩) (hk:DV γ keep=some Sk:=by exact tdR) (h1:jr γ (ov x0++Sk):=by exact tdT) (h2:Sub (sg x0) O:=by exact tdU):DWp P ro n (.loop c) Q ⟨γ,O,df⟩:=F8 keep I ov sg μ x0 hk h0 h1 h2 round
theorem BO{Sk:Fr}{α β:Type}{c:Code}(keep:eQ)(I:α->β->Prop)(ov:α->β->Fr)(sg:α->β->Sig)(μ:α->β->Nat)(x0:α)(y0:β)(h0:I x0 y0)
  (round:∀x y,I x y->DWp P ro n c (ka (fun s'=> ∃x' y',I x' y'/\μ x' y'<μ x y/\Wk P n s' ⟨ov x' y'++Sk,sg x' y',df⟩) Q) ⟨ov x y++Sk,sg x y,df⟩) (hk:DV γ keep=some Sk:=by exact tdR) (h1:jr γ (ov x0 y0++Sk):=by exact tdT) (h2:Sub (sg x0 y0) O:=by exact tdU):DWp P ro n (.loop c) Q ⟨γ,O,df⟩:=R6 keep I ov sg μ x0 y0 hk h0 h1 h2 round
theorem F1{Sk:Fr}{α β δ:Type}{c:Code}(keep:eQ)(I:α->β->δ->Prop)(ov:α->β->δ->Fr)(sg:α->β->δ->Sig)(μ:α->β->δ->Nat)(x0:α)(y0:β)(z0:δ)(h0:I x0 y0 z0)
  (round:∀x y z,I x y z->DWp P ro n c (ka (fun s'=> ∃x' y' z',I x' y' z'/\μ x' y' z'<μ x y z/\Wk P n s' ⟨ov x' y' z'++Sk,sg x' y' z',df⟩) Q) ⟨ov x y z++Sk,sg x y z,df⟩) (hk:DV γ keep=some Sk:=by exact tdR) (h1:jr γ (ov x0 y0 z0++Sk):=by exact tdT) (h2:Sub (sg x0 y0 z0) O:=by exact tdU):DWp P ro n (.loop c) Q ⟨γ,O,df⟩:=QZ keep I ov sg μ x0 y0 z0 hk h0 h1 h2 round
theorem fin{fn:Func}{R:DE->Sig->Prop}{U':Sig}{d:D}(hR:R (.ret d) U')(hZ:Sub U' O:=by exact tdU)(h:resD fn γ=some d:=by exact tdR):DR P n fn R .ret ⟨γ,O,[]⟩:=PE hZ h hR
theorem finS{fn:Func}{R:DE->Sig->Prop}{U':Sig}{es:eR}{o:Own}{t:Nat}(hR:R (.ret (.slice es .no)) U')(hZ:Sub U' O:=by exact tdU)(hr:fn.results=#[.tmp t]:=by exact tdR)(h:getD γ t=.slice es o:=by exact Ay tdR):DR P n fn R .ret ⟨γ,O,[]⟩:=V8 hZ hr h hR
theorem fin1{fn:Func}{R:DE->Sig->Prop}{U':Sig}{t:Nat}{d d':D}(hR:R (.ret d') U')(hZ:Sub U' O:=by exact tdU)(hr:fn.results=#[.tmp t]:=by exact tdR)(hl:γ.lookup t=some d:=by exact tdR)(hw:WkD d d':=by exact tdW):DR P n fn R .ret ⟨γ,O,[]⟩:=
 ⟨⟨[(t,d')],U',[]⟩,VH (show Tells γ [(t,d')] from⟨by rw[Ay hl];exact hw,trivial⟩) hZ,rfl,d',E3 (by simp[resD,hr]),Fg hR⟩
theorem kM{fn:Func}{R:DE->Sig->Prop}{U':Sig}{t u:Nat}{d d' e e':D}(hR:R (.ret (.tup [d',e'])) U')(hZ:Sub U' O:=by exact tdU)(hr:fn.results=#[.tmp t,.tmp u]:=by exact tdR)(hl:γ.lookup t=some d:=by exact tdR)(eV:γ.lookup u=some e:=by exact tdR)(fe:decide (u=t)=false:=by exact tdR)(hw:WkD d d':=by exact tdW)(fb:WkD e e':=by exact tdW):DR P n fn R .ret ⟨γ,O,[]⟩:=
 ⟨⟨[(t,d'),(u,e')],U',[]⟩,VH (show Tells γ [(t,d'),(u,e')] from ⟨by rw [Ay hl];exact hw,by rw [Ay eV];exact fb,trivial⟩) hZ,rfl, .tup [d',e'],E3 (by
  have:u≠t:=by simpa using fe
  simp[resD,hr,this]),Fg hR⟩
theorem fin0{fn:Func}{R:DE->Sig->Prop}{U':Sig}(hR:R (.ret (.tup [])) U')(hZ:Sub U' O:=by exact tdU)(hr:fn.results=#[]:=by exact tdR):DR P n fn R .ret ⟨γ,O,[]⟩:=PE hZ (by simp[resD,hr]) hR
theorem F3{fn:Func}{R:DE->Sig->Prop}{U':Sig}(hR:R (.ret (.tup [])) U')(hZ:Sub U' O:=by exact tdU)(hr:fn.results=#[]:=by exact tdR):DR P n fn R .normal ⟨γ,O,[]⟩:=Ow hZ (by simp[resD,hr]) hR
theorem jo{fn:Func}{R:DE->Sig->Prop}{U':Sig}{d:D}(hR:R (.panic d) U')(hZ:Sub U' O:=by exact tdU):DR P n fn R (.panic d) ⟨γ,O,[]⟩:=V9 hZ hR
theorem ED{c:Code}(t sz:Nat)(h:∀i,O i=none->DWp P ro n c Q ⟨(t,.slice [] (.tag i))::γ,O.set i (.tail sz 0),df⟩)(ht:getD γ t=.aj:=by exact Ay tdR):DWp P ro n c Q ⟨γ,O,df⟩:=dwp_tag t sz ht h
end
section
variable {ro:Ro}{n:Nat}{ops:Array Oper}{N:Nat}{S0:Sig}{Q:DX->St->Prop}{df:List DDf}{rest:List Oper}{γ Sr:List (Nat×D)}{O:Sig}{t:Nat}{ty:TypeId}{pos:String}{after:Array Edge}{d:D}{s x:Operand}{T T' e e':Nat}
theorem jW{s x:Operand}(hl:A5 γ (Aa [s,x])=some Sr):ev Sr s=ev γ s/\ev Sr x=ev γ x:=
 have h:∀z∈[s,x],ev Sr z=ev γ z:=fun z hz=>Bs fun t ht=>AB hl t (AL (by rw[<-ht];exact hz))
 ⟨h s j1,h x j1⟩
theorem appK{new:eR}(h:au prog ro n ops Q rest ⟨(t,.slice new .no)::γ,O,df⟩)
  (hl:A5 γ (Aa [s,x])=some Sr:=by exact tdR) (hk:(tab T).k=.slice e:=by(simp<;>rfl)) (d8:(tab T').k=.slice e':=by(simp<;>rfl)) (he:A2 (tab e).k=false:=by simp)
  (h1:ev Sr s=.aj:=by exact tdR) (h2:k8 (ev Sr x)=some new:=by(simp<;>with_unfolding_all rfl)) (hlen:∀c∈new,c.length=(tab e).size:=by first|exact Ck _|exact E0 _|exact BX _|simp)
  (hb:new.length*(tab e).bytes<=140737488355328:=by first|(simp;done)|(simp;omega)) (hm:new.length<=9223372036854775807:=by first|(simp;done)|(simp;omega)) (b6:decide (t<n)=true:=by exact tdR) :
  au prog ro n ops Q (⟨some t,(cA s x T T'),ty,pos,after,none⟩::rest) ⟨γ,O,df⟩:=by
 obtain⟨e1,e2⟩:=jW hl;exact Rb jB rfl (by simpa using b6) hk d8 he (by rw[<-e1];exact h1) (by rw[<-e2];exact h2) hlen hb hm h
theorem appC{es new:eR}(h:∀i,O i=none->au prog ro n ops Q rest ⟨(t,.slice (es++new) (.tag i))::γ,O.set i (.tail (tab e).size (es.length+new.length)),df⟩)
  (hl:A5 γ (Aa [s,x])=some Sr:=by exact tdR) (hk:(tab T).k=.slice e:=by(simp<;>rfl)) (d8:(tab T').k=.slice e':=by(simp<;>rfl)) (he:A2 (tab e).k=false:=by simp)
  (h1:ev Sr s=.slice es .clip:=by exact tdR) (h2:k8 (ev Sr x)=some new:=by(simp<;>with_unfolding_all rfl)) (hne:new≠[]:=by simp)
  (hlen:∀c∈es,c.length=(tab e).size:=by first|exact Ck _|exact E0 _|exact BX _|simp) (hlen':∀c∈new,c.length=(tab e).size:=by first|exact Ck _|exact E0 _|exact BX _|simp)
  (hb:(es.length+new.length)*(tab e).bytes<=140737488355328:=by first|(simp;done)|(simp;omega)) (hm:es.length+new.length<=9223372036854775807:=by first|(simp;done)|(simp;omega)) (b6:decide (t<n)=true:=by exact tdR) :
  au prog ro n ops Q (⟨some t,(cA s x T T'),ty,pos,after,none⟩::rest) ⟨γ,O,df⟩:=by
 obtain⟨e1,e2⟩:=jW hl;exact Cj jB rfl (by simpa using b6) hk d8 he (by rw[<-e1];exact h1) (by rw[<-e2];exact h2) hne hlen hlen' hb hm h
theorem app0{es:eR}(h:au prog ro n ops Q rest ⟨(t,d)::γ,O,df⟩)
  (hl:A5 γ (Aa [s,x])=some Sr:=by exact tdR) (hd:ev Sr s=d:=by exact tdR) (hk:(tab T).k=.slice e:=by(simp<;>rfl)) (d8:(tab T').k=.slice e':=by(simp<;>rfl)) (he:A2 (tab e).k=false:=by simp)
  (h1:k8 d=some es:=by exact tdR) (h2:k8 (ev Sr x)=some []:=by first|with_unfolding_all rfl|(simp_all;done)) (b6:decide (t<n)=true:=by exact tdR) :
  au prog ro n ops Q (⟨some t,(cA s x T T'),ty,pos,after,none⟩::rest) ⟨γ,O,df⟩:=by
 obtain⟨e1,e2⟩:=jW hl;have:=FI (ops:=ops) (Q:=Q) (rest:=rest) (df:=df) (O:=O) (γ:=γ) (ty:=ty) (pos:=pos) (after:=after) (guard:=none) (es:=es) (ro:=ro) (n:=n) jB (T:=T) (T':=T') (s:=s) (x:=x) rfl (by simpa using b6) hk d8 he (by rw[<-e1,hd];exact h1) (by rw[<-e2];exact h2) (by rw[<-e1,hd];exact h);exact this
theorem newM{T:Nat}(h:∀i,O i=none->au prog ro n ops Q rest ⟨(t,.map i)::γ,O.set i (.map []),df⟩)(b6:decide (t<n)=true:=by exact tdR):
  au prog ro n ops Q (⟨some t,.makeMap T none,ty,pos,after,none⟩::rest) ⟨γ,O,df⟩:=
 NI jB rfl (.inl rfl) (by simpa using b6) h
theorem je{T:Nat}{z:eO}(h:∀i,O i=none->au prog ro n ops Q rest ⟨(t,.ptr i 0)::γ,O.set i (.cells z),df⟩)(hk:A2 (tab T).k=false:=by simp)(hz:(tab T).zero=z:=by(simp<;>rfl))(b6:decide (t<n)=true:=by exact tdR):
  au prog ro n ops Q (⟨some t,.alloc T,ty,pos,after,none⟩::rest) ⟨γ,O,df⟩:=by
 subst hz;exact Dx jB hk (by simpa using b6) h
theorem pan{T:Nat}{dst:Option Tmp}(h:Q (.panic (.iface T d)) ⟨γ,O,df⟩)(hl:A5 γ (Aa [x])=some Sr:=by exact tdR)(hx:ev Sr x=.iface T d:=by exact tdR):
  au prog ro n ops Q (⟨dst,.panic x,ty,pos,after,none⟩::rest) ⟨γ,O,df⟩:=R8 rfl (by rw[<-CR hl];exact hx) h
theorem isN{es:eR}{o:Own}(h:∀b,(b=true->es=[])->au prog ro n ops Q rest ⟨(t,.bool b)::γ,O,df⟩)(hl:A5 γ (Aa [x])=some Sr:=by exact tdR)(hx:ev Sr x=.slice es o:=by exact tdR)(hk:(tab T).k=.slice e:=by(simp<;>rfl))(b6:decide (t<n)=true:=by exact tdR):
  au prog ro n ops Q (⟨some t,.binOp .eql T x (.const (.slice none 0 0)) T',ty,pos,after,none⟩::rest) ⟨γ,O,df⟩:=
 R9 jB hk rfl (by rw[<-CR hl];exact hx) (by simpa using b6) h
end
end Go.DL
