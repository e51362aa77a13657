/- A part of the proof. -/
import Derived.Test.YteldimffglchkaaGreatDoorM23
import Derived.Test.YteldimffglchkaaGreatDoorM24
import Derived.Test.YteldimffglchkaaGreatDoorM30
set_option linter.all false
namespace Go.DL
open Go.Proofs.Tryz
open Go Go.Proofs
set_option maxHeartbeats 8000000
section
variable {P:Program}{ro:Ro}{n N:Nat}{ops:Array Oper}{Q:DX->St->Prop}{df:List DDf}{γ Sr:List (Nat×D)}{O S0:Sig}{ty:TypeId}{pos:String}{after:Array Edge}
theorem Ug{fop:Operand}{args:Array Operand}{ats:Array TypeId}{f:Nat}{first cap us bs:List D}{R:DE->Sig->Prop}{dst:Option Tmp}{l:List (Bool×Oper)}(h:DCallR P ro f bs O R)(aF:∀d U',R (.ret d) U'->Sub S0 U'/\MO P ro n ops N S0 Q df l (putD dst d γ) U')(aG:∀d U',R (.panic d) U'->∀V',Q (.panic d) ⟨V',U',df⟩)(hl:A0 γ (A5 (fop::args.toList))=some Sr:=by exact tdR)(hf:ev Sr fop=.func (.func f) first cap:=by exact tdR)(ha:first++args.toList.map (ev Sr)++cap=us:=by exact td0)(hp:bs=us\/bs=us.map D.plain:=by first|exact .inl tdR|exact .inr tdR)
  (ho:Ap n ⟨dst,(cv fop args ats),ty,pos,after,none⟩=true:=by exact tdR):MO P ro n ops N S0 Q df ((true,⟨dst,(cv fop args ats),ty,pos,after,none⟩)::l) γ O:=
 O3 tdR hl hf ha hp h ho aF aG
end
theorem HA(b:UInt8): ∀s:Str,(splitB b s).length<=s.length+1 /\ ∀x∈splitB b s,x.length<=s.length
 |[]=>⟨by simp[splitB],by simp[splitB]⟩
 | c::r=>by
  obtain⟨h1,h2⟩:=HA b r
  rw[splitB]
  split
  ·refine⟨by simp only[List.length_cons];omega,fun x hx=>?_⟩
   rcases List.mem_cons.1 hx with rfl|hx
   ·simp
   ·have:=h2 x hx;rw[List.length_cons];omega
  ·split
   ·refine⟨by simp,fun x hx=>?_⟩
    simp at hx;subst hx;simp
   ·rename_i p ps e
    rw[e]at h1 h2
    refine⟨by simp only[List.length_cons]at*; omega,fun x hx=>?_⟩
    rcases List.mem_cons.1 hx with rfl|hx
    ·have:=h2 p (by simp);simp only[List.length_cons];omega
    ·have:=h2 x (by simp[hx]);rw[List.length_cons];omega
def RdT(s:Str)(ic:Nat)(O:Sig)(x:DE)(U':Sig):Prop:=(∀j o,O j=some o->j≠ic->U' j=some o)/\match G5 intP s with
 |none=>x=.panic unfC
 |some c=>x=.ret (.tup [])/\U' ic=some (.cells (cCPg c))
theorem dwp_cutH{P:Program}{ro:Ro}{n:Nat}{Q:DX->St->Prop}{γ:Fr}{O:Sig}{df:List DDf}{x1 b:Code}(X:Prop)(ov:Fr)(U':Sig)(h2:X->DWp P ro n b Q ⟨ov++γ,U',df⟩)(h1:∀b,(X->DWp P ro n b Q ⟨ov++γ,U',df⟩)->DWp P ro n (.seq x1 b) Q ⟨γ,O,df⟩):DWp P ro n (.seq x1 b) Q ⟨γ,O,df⟩:=h1 b h2
theorem O7{α β:Type}(f:α->Option β): ∀l:List α, ∀k (h:k<l.length),mapO f (l.drop k)=match f l[k]with
  |none=>none
  |some y=>match mapO f (l.drop (k+1))with
   |none=>none
   |some r=>some (y::r):=fun l k h=>by rw[Ad h,mapO];rfl
theorem O6{α β:Type}(f:α->Option β): ∀(l:List α) (r:List β),mapO f l=some r->r.length=l.length
 |[],r,h=>by rw[mapO]at h;cases h;rfl
 | x::l,r,h=>by
  rw[mapO]at h
  split at h
  ·cases h
  ·split at h
   ·cases h
   ·rename_i l2 e
    cases h
    rw[List.length_cons,List.length_cons,O6 f l l2 e]
theorem Qt{f:Str->Option Int}{a:Str}{st:List Int}(h:EI f a=some st):st.length<=a.length+1:=by
 unfold EI at h
 split at h
 ·cases h;simp
 ·split at h
  ·have h1:=O6 _ _ _ h
   have h2:=(HA 32 a.dropLast).1
   rw[List.length_dropLast]at h2
   omega
  ·cases h
theorem UD (s:Str) (ic:Nat) (O:Sig) (hs:s.length<=5000) (hi:O ic=some (.cells [.nils, .nils,dI 0])):BH prog 88 [.cptr [.str s] 0, .ptr ic 0] O (RdT s ic O):=by
 refine enW func88 ntmps88 ?_
 refine Ci ic 0 2 hi rfl (fun i1 aB=>?_)
 refine Ci ic 1 1 (w6 ..) rfl (fun i2 ap=>?_)
 obtain⟨n1,ap⟩:=B5 ap
 obtain⟨n2,ap⟩:=B5 ap
 have n3:ic≠i1:=fun e=>by rw[e,aB]at hi;cases hi
 have hR:RdS ic i1 i2 [] [] 0 O ((((O.set i1 (.tail 2 0)).set ic (.cells ([.nils,.nils,dI 0].set 0 (.slice [] (.tag i1))))).set i2 (.tail 1 0)).set ic (.cells (([.nils,.nils,dI 0].set 0 (.slice [] (.tag i1))).set 1 (.slice [] (.tag i2))))):=
  ⟨w6 .., by rw[w7 _ _ n3.symm,w7 _ _ n2.symm,w7 _ _ n3.symm,w6];rfl,by rw[w7 _ _ n1,w6];rfl,n2.symm,fun j o h e=>by rw[w7 _ _ e,w7 _ _ (Af h ap),w7 _ _ e,w7 _ _ (Af h aB)];exact h⟩
 generalize (((O.set i1 (.tail 2 0)).set ic (.cells ([.nils,.nils,dI 0].set 0 (.slice [] (.tag i1))))).set i2 (.tail 1 0)).set ic (.cells (([.nils,.nils,dI 0].set 0 (.slice [] (.tag i1))).set 1 (.slice [] (.tag i2))))=S1 at hR
 refine gz ?_ o88 [16]
 refine AL (Om s 10 S1 (by omega)) (fun d S2 h=>?_) (fun d S2 h=>by cases h.1)
 obtain⟨h1,rfl⟩:=h
 cases h1
 by_cases c1:s.getLast? = some 10
 rotate_left
 ·have c1':=decide_eq_false c1
  have aE:G5 intP s=none:=by unfold G5;rw[if_pos c1]
  repeat' first|((exact finP (U':=S2) ⟨hR.keep,by rw[aE]⟩))|refine gf c1' ?_ o88 [16]|apply gy<;>intro hh
 have c1':=decide_eq_true c1
 refine gf c1' ?_ o88 [16]
 refine AL (Ok s 10 S2 (by omega) c1) (fun d S3 h=>?_) (fun d S3 h=>by cases h.1)
 obtain⟨h1,rfl⟩:=h
 cases h1
 have bd:s.dropLast.length<=5000:=by rw[List.length_dropLast];omega
 refine AL (Ol s.dropLast 10 S3 (by omega)) (fun d S4 h=>?_) (fun d S4 h=>by cases h.1)
 obtain⟨h1,rfl⟩:=h
 cases h1
 have ae:G5 intP s=match splitB 10 s.dropLast with
  |[]=>none
  | l0::ls=>match cut2 l0 with
   |none=>none
   | some (a,m)=>match intP m with
    |none=>none
    | some main=>match EI intP a with
     |none=>none
     |some starts=>match mapO (EJ intP) ls with
      |none=>none
      |some ins=>if AP ⟨ins,starts,main⟩=true then some ⟨ins,starts,main⟩ else none:=by
  unfold G5;rw[if_neg (by rw[c1];simp)];rfl
 obtain⟨sp1,sp2⟩:=HA 10 s.dropLast
 have hne:=Lr 10 s.dropLast
 generalize splitB 10 s.dropLast=L at*
 cases L with
 |nil=>exact absurd rfl hne
 | cons l0 ls =>
  have bc:=sp2 l0 (by simp)
  have aU:∀x∈ls,x.length<=5000:=fun x hx=>by have:=sp2 x (by simp[hx]);omega
  rw[List.length_cons]at sp1
  refine gz ?_ o88 [16]
  refine AL (M1 l0 [58,32] S4 (by omega)) (fun d S5 h=>?_) (fun d S5 h=>by cases h.1)
  obtain⟨h1,rfl⟩:=h
  cases h1
  rw[cut_two]
  simp only at ae
  cases aK:cut2 l0 with
  |none=>
   rw[aK]at ae
   dsimp only[putD]
   repeat' first|((exact finP (U':=S5) ⟨hR.keep,by rw[ae]⟩))|refine gz ?_ o88 [16]|apply gy<;>intro hh
  | some z =>
   obtain⟨a,m⟩:=z
   rw[aK]at ae
   simp only at ae
   have aX:=congrArg List.length (IV l0 a m aK)
   simp only[List.length_append,List.length_cons]at aX
   dsimp only[putD]
   refine gz ?_ o88 [16]
   refine AL (KW m S5 (by omega)) (fun d S6 h=>?_) (fun d S6 h=>?_)
   rotate_left
   ·obtain⟨rfl,h⟩:=h
    cases hm:intP m with
    |some v=>rw[hm]at h;cases h
    |none=>
     rw[hm]at h ae
     cases h
     refine gz ?_ o88 [16]
     exact finP (U':=S6) ⟨hR.keep,by rw[ae]⟩
   obtain⟨rfl,h⟩:=h
   cases hm:intP m with
   |none=>rw[hm]at h;cases h
   | some main =>
    rw[hm]at h ae
    cases h
    simp only at ae
    have u1:=hR.oc
    have ai:RdS ic i1 i2 [] [] main O (S6.set ic (.cells [.slice [] (.tag i1),.slice [] (.tag i2),dI main])):=⟨w6 .., by rw[w7 _ _ n3.symm];exact hR.o1,by rw[w7 _ _ (ne_some hR.oc hR.o2 (by simp)).symm];exact hR.o2,hR.ne,fun j o h e=>by rw[w7 _ _ e];exact hR.keep j o h e⟩
    obtain⟨st0,ah⟩:∃st0,st0=(EI intP a).getD []:=⟨_,rfl⟩
    repeat ((fail_if_success (first|(refine dwp_cutH (x1:=.seq _ (.cond _ _ _)) (∃st,EI intP a=some st) ([35,34,33,32,31,30,29,28,23,27,26,25,24,22,21,20,19,18,17,5,4,3,0].map fun k=>(k,D.any)) (rdB ic i1 i2 [] st0 main O) ?_ (fun _ hK=>?_))|fail));(refine goX1 u1 ?_))
    refine dwp_cutH (x1:=.seq _ (.cond _ _ _)) (∃st,EI intP a=some st) ([35,34,33,32,31,30,29,28,23,27,26,25,24,22,21,20,19,18,17,5,4,3,0].map fun k=>(k,D.any)) (rdB ic i1 i2 [] st0 main O) ?_ (fun _ hK=>?_)
    rotate_left
    ·change DWp _ _ _ _ _ ⟨_,S6.set ic (.cells [.slice [] (.tag i1),.slice [] (.tag i2),dI main]),_⟩
     generalize S6.set ic (.cells [.slice [] (.tag i1),.slice [] (.tag i2),dI main])=S7 at*
     by_cases ha:a=[]
     ·have hS:EI intP a=some []:=by unfold EI;rw[if_pos ha]
      have hK:=hK ⟨[],hS⟩
      rw[hS]at ah
      simp only[Option.getD_some]at ah
      subst ah
      have aZ:=decide_eq_true ha
      refine gf aZ ?_ o88 [16]
      exact Fz (NL (by first|(simp;done)|(simp_all;done)) (ai.sub)) hK
     ·refine gf ha ?_ o88 [16]
      refine AL (Om a 32 S7 (by omega)) (fun d S8 h=>?_) (fun d S8 h=>by cases h.1)
      obtain⟨h1,rfl⟩:=h
      cases h1
      by_cases c2:a.getLast? = some 32
      rotate_left
      ·have c2':=decide_eq_false c2
       have hS:EI intP a=none:=by unfold EI;rw[if_neg ha,if_neg c2]
       rw[hS]at ae
       repeat' first|((exact finP (U':=S8) ⟨ai.keep,by rw[ae]⟩))|refine gf c2' ?_ o88 [16]|apply gy<;>intro hh
      have c2':=decide_eq_true c2
      dsimp only[putD]
      refine gf c2' ?_ o88 [16]
      refine AL (Ok a 32 S8 (by omega) c2) (fun d S9 h=>?_) (fun d S9 h=>by cases h.1)
      obtain⟨h1,rfl⟩:=h
      cases h1
      have be:a.dropLast.length<=5000:=by rw[List.length_dropLast];omega
      refine AL (Ol a.dropLast 32 S9 (by omega)) (fun d S10 h=>?_) (fun d S10 h=>by cases h.1)
      obtain⟨h1,rfl⟩:=h
      cases h1
      have hS:EI intP a=mapO intP (splitB 32 a.dropLast):=by unfold EI;rw[if_neg ha,if_pos c2]
      obtain⟨sp3,sp4⟩:=HA 32 a.dropLast
      generalize splitB 32 a.dropLast=L at*
      dsimp only[putD]
      refine gz ?_ o88 [16]
      refine ET [1,2,8,10,11,12,13,14,15,16,43,44,57,58,59,60,61,62,63,64,65,66,67,68,69,70,71,72,73,74,75,76,77,78,79,80,81,82,83,84,85,86,87,88,89,90,91,92,93,94,95,96,97,98,99,100] (fun (k:Nat) (st:List Int) (S11:Sig)=>k<=L.length/\st.length<=k/\RdS ic i1 i2 [] st main O S11/\mapO intP L=(mapO intP (L.drop k)).map (st ++ ·)) (fun k _ _=>[(45,dI k)]) (fun _ _ S11=>S11) (fun k _ _=>L.length-k) (0) ([]) (S10) (by exact⟨by omega,by simp,ai,by rw[List.drop_zero];cases mapO intP L<;>rfl⟩) (fun k st S11 hI=>?_)
      clear ai
      obtain⟨hk,aS,ai,hM⟩:=hI
      by_cases aw:k<L.length
      ·have aQ:=sp4 _ (List.getElem_mem aw)
       have hw:L[k]? = some L[k]:=List.getElem?_eq_getElem aw
       rw[O7 intP L k aw]at hM
       have n02:ic≠i2:=ne_some ai.oc ai.o2 (by simp)
       have hu:(S11.out (· = i2)) ic=some (.cells [.slice (([]:List CIns).map cIns) (.tag i1),.slice (cI st) (.tag i2),dI main]):=D2 ai.oc n02
       have uc:=ai.oc
       have u2:=ai.o2
       refine gf hw ?_ [] [16]
       refine EP (id:=10) [0,1,2,3,4,5,6] [3,5] (S11.out (· = i2)) (C1 _ _) ?_
       refine gf hu ?_ o88 [16]
       refine Ug (KW L[k] S11 (by omega)) (fun d S12 h=>?_) (fun d S12 h=>?_)
       rotate_left
       ·obtain⟨rfl,h⟩:=h
        cases hm:intP L[k]with
        |some v=>rw[hm]at h;cases h
        |none=>
         rw[hm]at h hM
         cases h
         simp only[Option.map_none]at hM
         rw[hS,hM]at ae
         intro V'
         refine gz ?_ o88 [16]
         exact finP (U':=S12) ⟨ai.keep,by rw[ae]⟩
       obtain⟨rfl,h⟩:=h
       cases hm:intP L[k]with
       |none=>rw[hm]at h;cases h
       | some v =>
        rw[hm]at h hM
        cases h
        refine⟨C1 _ _,?_⟩
        dsimp only[putD]
        have bb:Sub (S12.out (· = i2)) (S12.set i2 (.tail 1 (st.length+1))):=fun j o hj=>by
         obtain⟨h1,h2⟩:=Cf hj
         rw[w7 _ _ h2];exact h1
        have aj:=ai.st_push ap v
        refine gf (gi hu (gi u2 uc)) ?_ o88 [16]
        exact⟨k+1,st++[v],_,⟨by omega,by rw[List.length_append,List.length_singleton];omega,aj,by rw[hM];cases mapO intP (L.drop (k+1))<;>simp⟩,td1,wkR⟩
      ·have aI:L.drop k=[]:=List.drop_eq_nil_of_le (by omega)
       rw[aI,mapO]at hM
       simp only[Option.map_some,List.append_nil]at hM
       rw[hM]at hS
       have hK:=hK ⟨st,hS⟩
       rw[hS]at ah
       simp only[Option.getD_some]at ah
       subst ah
       refine gz ?_ o88 [16]
       exact Fz (NL (by first|(simp;done)|(simp_all;done)) (ai.sub)) hK
    ·rintro⟨st,hS⟩
     rw[hS]at ah ae
     simp only[Option.getD_some]at ah ae
     subst ah
     have aj:=ai.of_rdB (ins':=[]) (st':=st0) (m':=main) aB ap
     clear ai u1 hR
     generalize rdB ic i1 i2 [] st0 main O=S7 at*
     refine gz ?_ o88 [16]
     refine AL ((Ry S7).any _) (fun d S8 h=>?_) (fun d S8 h=>by obtain⟨_,_,h,_⟩:=h;cases h)
     obtain⟨im,aV,hd,rfl⟩:=h
     cases hd
     have nim:∀o,S7 im=some o->False:=fun o h=>by rw[aV]at h;cases h
     have ag:RdS ic i1 i2 [] st0 main O (S7.set im (.map (eSN (Gh 21)))):=⟨by rw[w7 _ _ fun e=>nim _ (by rw[<-e];exact aj.oc)];exact aj.oc,by rw[w7 _ _ fun e=>nim _ (by rw[<-e];exact aj.o1)];exact aj.o1,by rw[w7 _ _ fun e=>nim _ (by rw[<-e];exact aj.o2)];exact aj.o2,aj.ne,fun j o h e=>by rw[w7 _ _ fun e2=>nim _ (by rw[<-e2];exact aj.keep j o h e)];exact aj.keep j o h e⟩
     have am:(S7.set im (.map (eSN (Gh 21)))) im=some (.map (eSN (Gh 21))):=w6 ..
     have nic:ic≠im:=fun e=>nim _ (by rw[<-e];exact aj.oc)
     have ni1:i1≠im:=fun e=>nim _ (by rw[<-e];exact aj.o1)
     clear aj
     generalize aO:Gh 21=KM at*
     generalize S7.set im (.map (eSN KM))=S8 at*
     refine gz ?_ o88 [16]
     refine ET [1,8,59,60,98,99,100] (fun (k:Nat) (ins:List CIns) (S9:Sig)=>k<=ls.length/\ins.length<=k/\RdS ic i1 i2 ins st0 main O S9/\S9 im=some (.map (eSN KM))/\mapO (EJ intP) ls=(mapO (EJ intP) (ls.drop k)).map (ins ++ ·)) (fun k _ _=>[(61,dI k)]) (fun _ _ S9=>S9) (fun k _ _=>ls.length-k) (0) ([]) (S8) (by exact⟨by omega,by simp,ag,am,by rw[List.drop_zero];cases mapO (EJ intP) ls<;>rfl⟩) (fun k ins S9 hI=>?_)
     clear ag am
     obtain⟨hk,aS,ag,am,hM⟩:=hI
     by_cases aw:k<ls.length
     ·have aQ:=aU _ (List.getElem_mem aw)
      have hw:ls[k]? = some ls[k]:=List.getElem?_eq_getElem aw
      rw[O7 (EJ intP) ls k aw]at hM
      refine gf hw ?_ o88 [16]
      refine AL (M1 ls[k] [32] S9 (by omega)) (fun d S10 h=>?_) (fun d S10 h=>by cases h.1)
      obtain⟨h1,rfl⟩:=h
      cases h1
      rw[cut_one]
      have aa:EJ intP ls[k]=match cut1 ls[k]with
       |none=>(match opW ls[k]with
        |none=>none
        |some op=>if hasA op then none else some ⟨op,0⟩)
       | some (w,a)=>match opW w with
        |none=>none
        |some op=>if hasA op then(match intP a with
         |none=>none
         |some n=>some ⟨op,n⟩) else none:=by unfold EJ;rfl
      have aq:EJ intP ls[k]=none->G5 intP s=none:=fun h=>by rw[h]at hM;simp only[Option.map_none]at hM;rw[ae,hM]
      have u1:=ag.oc
      have u2:=ag.o1
      have aM:∀x i5 z,EJ intP ls[k]=some x->S10 i5=none->z=((S10.set i5 (.cells (cIns x))).set i1 (.tail 2 (ins.length+1))).set ic (.cells [.slice (ins.map cIns++[cIns x]) (.tag i1),.slice (cI st0) (.tag i2),dI main])->RdS ic i1 i2 (ins++[x]) st0 main O z/\z im=some (.map (eSN KM))/\mapO (EJ intP) ls=(mapO (EJ intP) (ls.drop (k+1))).map ((ins++[x]) ++ ·):=fun x i5 z hx h5 hz=>by
       have nn:∀j o,S10 j=some o->j≠i5:=fun j o h e=>by rw[e,h5]at h;cases h
       have a8:RdS ic i1 i2 ins st0 main O (S10.set i5 (.cells (cIns x))):=⟨by rw[w7 _ _ (nn _ _ ag.oc)];exact ag.oc,by rw[w7 _ _ (nn _ _ ag.o1)];exact ag.o1,by rw[w7 _ _ (nn _ _ ag.o2)];exact ag.o2,ag.ne,fun j o h e=>by rw[w7 _ _ (nn _ _ (ag.keep j o h e))];exact ag.keep j o h e⟩
       subst hz
       exact⟨a8.ins_push aB x,by rw[w7 _ _ nic.symm,w7 _ _ ni1.symm,w7 _ _ (nn _ _ am)];exact am,by rw[hM,hx];cases mapO (EJ intP) (ls.drop (k+1))<;>simp⟩
      cases hc:cut1 ls[k]with
      | none =>
       rw[hc]at aa
       simp only[QA,aO]at aa
       dsimp only[putD]
       cases hh:hasM ls[k] KM with
       |false=>
        rw[hh]at aa
        repeat' first|((exact finP (U':=S10) ⟨ag.keep,by rw[aq (by rw[aa];rfl)]⟩))|refine gf (gi am hh) ?_ o88 [16]|apply gy<;>intro hh
       | true =>
        rw[hh]at aa
        simp only[if_true]at aa
        obtain⟨op,au⟩:∃op,getM 0 ls[k] KM=op:=⟨_,rfl⟩
        rw[au]at aa
        cases hA:hasA op with
        |true=>
         rw[hA]at aa
         repeat' first|((exact finP (U':=S10) ⟨ag.keep,by rw[aq (by rw[aa];rfl)]⟩))|refine gf (gi am (gi hh (gi au hA))) ?_ o88 [16]|apply gy<;>intro hh
        |false=>
         rw[hA]at aa
         refine gf (gi am (gi hh (gi au hA))) ?_ o88 [16]
         refine newV (fun i5 ak=>?_)
         dsimp only[putD]
         refine gz ?_ o88 [16]
         have hz:=aM ⟨op,0⟩ i5 _ aa ak rfl
         change RdS ic i1 i2 (ins++[⟨op,0⟩]) st0 main O (((S10.set i5 (.cells [dI op,dI 0])).set i1 (.tail 2 (ins.length+1))).set ic (.cells [.slice (ins.map cIns++[[dI op,dI 0]]) (.tag i1),.slice (cI st0) (.tag i2),dI main]))/\(((S10.set i5 (.cells [dI op,dI 0])).set i1 (.tail 2 (ins.length+1))).set ic (.cells [.slice (ins.map cIns++[[dI op,dI 0]]) (.tag i1),.slice (cI st0) (.tag i2),dI main])) im=_/\_ at hz
         have v1:(S10.set i5 (.cells [dI op,dI 0])) ic=some (.cells [.slice (ins.map cIns) (.tag i1),.slice (cI st0) (.tag i2),dI main]):=by rw[w7 _ _ (fun e=>by rw[<-e,u1]at ak;cases ak)];exact u1
         have v2:(S10.set i5 (.cells [dI op,dI 0])) i1=some (.tail 2 ins.length):=by rw[w7 _ _ (fun e=>by rw[<-e,u2]at ak;cases ak)];exact u2
         have v5:(S10.set i5 (.cells [dI op,dI 0])) i5=some (.cells [dI op,dI 0]):=w6 ..
         change DOps _ _ _ _ _ _ ⟨_,S10.set i5 (.cells [dI op,dI 0]),_⟩
         generalize S10.set i5 (.cells [dI op,dI 0])=S11 at*
         refine gf (gi v1 (gi v2 v5)) ?_ o88 [16]
         exact⟨k+1,ins++[⟨op,0⟩],_,⟨by omega,by rw[List.length_append,List.length_singleton];omega,hz.1,hz.2.1,hz.2.2⟩,td1,wkR⟩
      | some z =>
       obtain⟨w,a⟩:=z
       rw[hc]at aa
       simp only[QA,aO]at aa
       dsimp only[putD]
       cases hh:hasM w KM with
       |false=>
        rw[hh]at aa
        repeat' first|((exact finP (U':=S10) ⟨ag.keep,by rw[aq (by rw[aa];rfl)]⟩))|refine gf (gi am hh) ?_ o88 [16]|apply gy<;>intro hh
       | true =>
        rw[hh]at aa
        simp only[if_true]at aa
        obtain⟨op,au⟩:∃op,getM 0 w KM=op:=⟨_,rfl⟩
        rw[au]at aa
        cases hA:hasA op with
        |false=>
         rw[hA]at aa
         repeat' first|((exact finP (U':=S10) ⟨ag.keep,by rw[aq (by rw[aa];rfl)]⟩))|refine gf (gi am (gi hh (gi au hA))) ?_ o88 [16]|apply gy<;>intro hh
        | true =>
         rw[hA]at aa
         refine gf (gi am (gi hh (gi au hA))) ?_ o88 [16]
         refine newV (fun i5 ak=>?_)
         dsimp only[putD]
         have aJ:=congrArg List.length (IX _ _ _ hc)
         simp only[List.length_append,List.length_cons]at aJ
         refine gz ?_ o88 [16]
         refine AL (KW a _ (by omega)) (fun d S11 h=>?_) (fun d S11 h=>?_)
         rotate_left
         ·obtain⟨rfl,h⟩:=h
          cases hm2:intP a with
          |some v=>rw[hm2]at h;cases h
          |none=>
           rw[hm2]at h aa
           cases h
           refine gz ?_ o88 [16]
           refine finP (U':=S10.set i5 (.cells [dI op,dI 0])) ⟨fun j o h e=>?_,by rw[aq (by rw[aa];rfl)]⟩
           have h2:=ag.keep j o h e
           rw[w7 _ _ (Af h2 ak)];exact h2
         obtain⟨rfl,h⟩:=h
         cases hm2:intP a with
         |none=>rw[hm2]at h;cases h
         |some v=>
          rw[hm2]at h aa
          cases h
          simp only[if_true]at aa
          dsimp only[putD]
          refine gz ?_ o88 [16]
          have hz:=aM ⟨op,v⟩ i5 _ aa ak rfl
          change RdS ic i1 i2 (ins++[⟨op,v⟩]) st0 main O (((S10.set i5 (.cells [dI op,dI v])).set i1 (.tail 2 (ins.length+1))).set ic (.cells [.slice (ins.map cIns++[[dI op,dI v]]) (.tag i1),.slice (cI st0) (.tag i2),dI main]))/\(((S10.set i5 (.cells [dI op,dI v])).set i1 (.tail 2 (ins.length+1))).set ic (.cells [.slice (ins.map cIns++[[dI op,dI v]]) (.tag i1),.slice (cI st0) (.tag i2),dI main])) im=_/\_ at hz
          have v1:(S10.set i5 (.cells [dI op,dI v])) ic=some (.cells [.slice (ins.map cIns) (.tag i1),.slice (cI st0) (.tag i2),dI main]):=by rw[w7 _ _ (fun e=>by rw[<-e,u1]at ak;cases ak)];exact u1
          have v2:(S10.set i5 (.cells [dI op,dI v])) i1=some (.tail 2 ins.length):=by rw[w7 _ _ (fun e=>by rw[<-e,u2]at ak;cases ak)];exact u2
          have v5:(S10.set i5 (.cells [dI op,dI v])) i5=some (.cells [dI op,dI v]):=w6 ..
          change DOps _ _ _ _ _ _ ⟨_,S10.set i5 (.cells [dI op,dI v]),_⟩
          generalize S10.set i5 (.cells [dI op,dI v])=S11 at*
          refine gf (gi v1 (gi v2 v5)) ?_ o88 [16]
          exact⟨k+1,ins++[⟨op,v⟩],_,⟨by omega,by rw[List.length_append,List.length_singleton];omega,hz.1,hz.2.1,hz.2.2⟩,td1,wkR⟩
     ·have aI:ls.drop k=[]:=List.drop_eq_nil_of_le (by omega)
      rw[aI,mapO]at hM
      simp only[Option.map_some,List.append_nil]at hM
      rw[hM]at ae
      simp only at ae
      refine Fz (EB (i:=ic) (az:=[]) (bs:=[.slice (cI st0) (.tag i2),dI main]) (d:=.slice (ins.map cIns) (.tag i1)) (d':=sl (ins.map cIns)) ag.oc (Bv _ _)) ?_
      refine Fz (EB (i:=ic) (az:=[sl (ins.map cIns)]) (bs:=[dI main]) (d:=.slice (cI st0) (.tag i2)) (d':=sl (cI st0)) (w6 ..) (Bv _ _)) ?_
      simp only[w8,List.nil_append,List.singleton_append]
      have o9:(S9.set ic (.cells [sl (ins.map cIns),sl (cI st0),dI main])) ic=some (.cells (cCPg ⟨ins,st0,main⟩)):=w6 ..
      have k9:∀j o,O j=some o->j≠ic->(S9.set ic (.cells [sl (ins.map cIns),sl (cI st0),dI main])) j=some o:=fun j o h e=>by rw[w7 _ _ e];exact ag.keep j o h e
      generalize S9.set ic (.cells [sl (ins.map cIns),sl (cI st0),dI main])=S10 at*
      have aR:=Qt hS
      have i70:∀O,Ans 70 [.agg (cCPg ⟨ins,st0,main⟩)] O True (.bool (AP ⟨ins,st0,main⟩)):=fun O=>ah0 (KX ⟨ins,st0,main⟩ O (by simp only;omega) (by simp only;omega))
      cases hp:AP ⟨ins,st0,main⟩with
      |false=>
       rw[if_neg (by rw[hp];simp)]at ae
       repeat' first|((exact finP (U':=S10) ⟨k9,by rw[ae]⟩))|refine gf (gi o9 hp) ?_ o88 [16]|apply gy<;>intro hh
      |true=>
       rw[if_pos hp]at ae
       refine gf (gi o9 hp) ?_ o88 [16]
       refine DK (U':=S10) ⟨k9,by rw[ae];exact⟨rfl,o9⟩⟩
def rdT(s:Str):CProg×Int:=if s.length<=5000 then(match G5 intP s with
 |none=>(zC,4)
 |some c=>(c,0)) else(zC,3)
theorem Oo(s:Str)(O:Sig)(hs:s.length<=1073741824):BH prog 42 [.str s] O (rS (.tup [.agg (cCPg (rdT s).1),dI (rdT s).2]) O):=by
 refine enW func42 ntmps42 ?_
 by_cases hl:s.length<=5000
 rotate_left
 ·have hr:rdT s=(zC,3):=by unfold rdT;rw[if_neg hl]
  rw[hr]
  refine gz ?_ [] [2,4]
  refine newV (fun i hi=>?_)
  refine gf hl ?_ [] [2,4]
  refine finC (U':=O) (d:=.tup [.agg (cCPg zC),dI 3]) ⟨rfl,rfl⟩ (hw:=?_)
  exact TO _
 ·have aE:G5 intP s=none->rdT s=(zC,4):=fun h=>by unfold rdT;rw[if_pos hl,h]
  have aT:∀c,G5 intP s=some c->rdT s=(c,0):=fun c h=>by unfold rdT;rw[if_pos hl,h]
  refine gz ?_ [] [2,4]
  refine newV (fun i2 ap=>?_)
  refine gf hl ?_ [] [2,4]
  refine newV (fun i4 aW=>?_)
  refine gz ?_ [] [2,4]
  obtain⟨n24,ax⟩:=B5 aW
  have o4:((O.set i2 (.cells [.nils,.nils,dI 0])).set i4 (.cells [.nils,.nils,dI 0])) i4=some (.cells [.nils,.nils,dI 0]):=w6 ..
  have o2:((O.set i2 (.cells [.nils,.nils,dI 0])).set i4 (.cells [.nils,.nils,dI 0])) i2=some (.cells [.nils,.nils,dI 0]):=by rw[w7 _ _ n24.symm,w6]
  have hS:Sub O ((O.set i2 (.cells [.nils,.nils,dI 0])).set i4 (.cells [.nils,.nils,dI 0])):=((Sub.refl _).set ap).set ax
  change DOps _ _ _ _ _ _ ⟨_,(O.set i2 (.cells [.nils,.nils,dI 0])).set i4 (.cells [.nils,.nils,dI 0]),_⟩
  generalize (O.set i2 (.cells [.nils,.nils,dI 0])).set i4 (.cells [.nils,.nils,dI 0])=S0 at*
  have aH:∀i,S0 i=none->i≠i4:=fun i hi e=>by rw[e,o4]at hi;cases hi
  refine AL (Rz 88 [.cptr [.str s] 0,.ptr i4 0] S0 (fun S1=>RdT s i4 S1) (fun i hi=>UD s i4 _ hl (by rw[w7 _ _ (aH i hi).symm];exact o4)) (fun S1 d S2 h=>?_) (fun i S2 x hi h=>h.1 i _ (w6 ..) (aH i hi))) (fun d U' ar=>?_) (fun d U' ar=>?_)
  ·obtain⟨_,h⟩:=h
   split at h
   ·simpa using h
   ·exact absurd h.1 (by simp)
  ·obtain⟨i,S2,hi,rfl,ar⟩:=ar
   have aA:∀j o,S0 j=some o->j≠i4->(S0.set i (.cells [.bool false])) j=some o/\j≠i:=fun j o hj e=>by
    have e2:j≠i:=fun e2=>by rw[e2,hi]at hj;cases hj
    exact⟨by rw[w7 _ _ e2];exact hj,e2⟩
   rcases ar with⟨e,⟨hK,h⟩,h2⟩|⟨⟨hK,h⟩,h2⟩
   ·cases h2
    split at h
    ·cases h
    ·rename_i c hc
     obtain⟨_,ho⟩:=h
     have ay:∀j o,S0 j=some o->j≠i4->(S2.del i) j=some o:=fun j o hj e=>by
      obtain⟨q1,q2⟩:=aA j o hj e
      simp only[Sig.del,q2,if_false];exact hK j o q1 e
     have p2:=ay _ _ o2 n24.symm
     have p4:(S2.del i) i4=some (.cells (cCPg c)):=by simp only[Sig.del,(aH i hi).symm,if_false];exact ho
     have pS:∀j o,O j=some o->j≠i4->(S2.del i) j=some o:=fun j o hj e=>ay j o (hS j o hj) e
     generalize S2.del i=S3 at*
     refine gf (gi p2 p4) ?_ [] [2,4]
     refine finC (U':=O) (d:=.tup [.agg (cCPg (rdT s).1),dI (rdT s).2]) ⟨rfl,rfl⟩ (hw:=?_) (hU:=fun j o hj=>?_)
     ·rw[aT c hc];exact A8 _
     ·have e2:=Af hj ap
      have e4:=Af hj ax
      rw[w7 _ _ e2];exact pS j o hj e4
   ·cases h2
    split at h
    ·rename_i hc
     have ay:∀j o,S0 j=some o->j≠i4->(S2.del i) j=some o:=fun j o hj e=>by
      obtain⟨q1,q2⟩:=aA j o hj e
      simp only[Sig.del,q2,if_false];exact hK j o q1 e
     have p2:=ay _ _ o2 n24.symm
     have pS:∀j o,O j=some o->j≠i4->(S2.del i) j=some o:=fun j o hj e=>ay j o (hS j o hj) e
     generalize S2.del i=S3 at*
     refine gf p2 ?_ [] [2,4]
     refine finC (U':=O) (d:=.tup [.agg (cCPg (rdT s).1),dI (rdT s).2]) ⟨rfl,rfl⟩ (hw:=?_) (hU:=fun j o hj=>?_)
     ·rw[aE hc];exact TO _
     ·have e2:=Af hj ap
      have e4:=Af hj ax
      rw[w7 _ _ e2];exact pS j o hj e4
    ·exact absurd h.1 (by simp)
  ·obtain⟨i,S2,hi,rfl,ar⟩:=ar
   rcases ar with⟨e,_,h2⟩|⟨_,h2⟩<;>cases h2
theorem U8{c:CProg}(hp:AP c=true):rdT (EC c)=(c,0):=by
 unfold rdT
 rw[if_pos (Kv hp),(LB Rg _ _).2 ⟨hp,rfl⟩]
theorem Qw{c:CProg}(hp:AP c=true):rdC (CA c)=(c,0):=by
 unfold rdC
 rw[if_pos (J7 hp),(Id _ _).2 ⟨hp,rfl⟩]
theorem rdT_ok(s:Str):((rdT s).1.ins.length<=300/\(rdT s).1.starts.length<=16)/\((rdT s).2=0->AP (rdT s).1=true/\EC (rdT s).1=s):=by
 unfold rdT
 split
 ·split
  ·simp[zC]
  ·rename_i c h
   have h0:=(LB Rg _ _).1 h
   obtain⟨h1,h2,_⟩:=(JH c).1 h0.1
   exact⟨⟨h1,h2⟩,fun _=>h0⟩
 ·simp[zC]
theorem rdC_ok(s:Str):((rdC s).1.ins.length<=300/\(rdC s).1.starts.length<=16)/\((rdC s).2=0->AP (rdC s).1=true/\CA (rdC s).1=s):=by
 refine⟨rdC_len s,?_⟩
 unfold rdC
 split
 ·split
  ·simp
  ·rename_i c h
   exact fun _=>(Id _ _).1 h
 ·simp
theorem UU(c:CProg)(s:Str)(O:Sig)(h1:c.ins.length<=1073741824)(h2:c.starts.length<=1073741824)(hs:s.length<=1073741824):BH prog 12 [.agg (cCPg c),.str s] O fun x _=>x=.ret (.bool true):=by
 have ba:=fun O:Sig=>KZ c O h1 h2
 have aD:=fun O:Sig=>L0 c O h1 h2
 have aL:=fun O:Sig=>Oo s O hs
 have aP:=fun O:Sig=>Oq s O hs
 obtain⟨⟨l1,l2⟩,l3⟩:=rdT_ok s
 obtain⟨⟨m1,m2⟩,m3⟩:=rdC_ok s
 generalize rdT s=X at*
 generalize rdC s=Y at*
 obtain⟨x,g⟩:=X
 obtain⟨y,e⟩:=Y
 simp only at l1 l2 l3 m1 m2 m3 aL aP
 have hx:=fun O:Sig=>KZ x O (by omega) (by omega)
 have hy:=fun O:Sig=>L0 y O (by omega) (by omega)
 obtain⟨b1,e1,hb,aN⟩:∃(b1:Str) (e1:Int),(if AP x then D.tup [.str (EC x),dI 0] else .tup [.str [],dI 2])=.tup [.str b1,dI e1]/\(g=0->e1=0/\b1=s):=by
  cases hp:AP x with
  |false=>exact⟨_,_,rfl,fun h=>by rw[(l3 h).1]at hp;cases hp⟩
  |true=>exact⟨_,_,rfl,fun h=>⟨rfl,(l3 h).2⟩⟩
 rw[hb]at hx
 obtain⟨b2,e2,aY,aC⟩:∃(b2:Str) (e2:Int),(if AP y then D.tup [.str (CA y),dI 0] else .tup [.str [],dI 2])=.tup [.str b2,dI e2]/\(e=0->e2=0/\b2=s):=by
  cases hp:AP y with
  |false=>exact⟨_,_,rfl,fun h=>by rw[(m3 h).1]at hp;cases hp⟩
  |true=>exact⟨_,_,rfl,fun h=>⟨rfl,(m3 h).2⟩⟩
 rw[aY]at hy
 have i38:∀O,Ans 38 [.str s] O True (.tup [.agg (cCPg y),dI e]):=fun O=>ah0 (aP O)
 have i36y:∀O,Ans 36 [.agg (cCPg y)] O True (.tup [.str b2,dI e2]):=fun O=>ah0 (hy O)
 refine enW func12 ntmps12 ?_
 refine gz ?_
 refine AL (ba O) (fun d S1 hr=>?_) (fun d S1 hr=>by cases hr.1)
 obtain⟨hd,rfl⟩:=hr
 cases hd
 cases hp:AP c with
 | false =>
  rw[hp]at aD
  have i36:∀O,Ans 36 [.agg (cCPg c)] O True (.tup [.str [],dI 2]):=fun O=>ah0 (aD O)
  simp only[Bool.false_eq_true,if_false]
  dsimp only[putD]
  refine gz ?_
  refine AL (aL S1) (fun d S2' hr=>?_) (fun d S2' hr=>by cases hr.1)
  obtain⟨hd,rfl⟩:=hr
  cases hd
  dsimp only[putD]
  refine gz ?_
  refine AL (hx S2') (fun d S3 hr=>?_) (fun d S3 hr=>by cases hr.1)
  obtain⟨hd,rfl⟩:=hr
  cases hd
  dsimp only[putD]
  by_cases hg:g=0
  ·obtain⟨q1,q2⟩:=aN hg
   have q6:=decide_eq_true q2
   by_cases he:e=0
   ·obtain⟨q3,q4⟩:=aC he
    have q5:=decide_eq_true q4
    refine gf (gi hg (gi q1 (gi q6 (gi he (gi q3 q5))))) ?_
    refine AL (DC S3) (fun d S9 hr=>?_) (fun d S9 hr=>by cases hr.1)
    obtain⟨hd,rfl⟩:=hr
    cases hd
    dsimp only[putD]
    refine gz ?_
    exact fin1 (U':=S9) rfl (hU:=Sub.refl _)
   ·refine gf (gi hg (gi q1 (gi q6 he))) ?_
    refine AL (DC S3) (fun d S9 hr=>?_) (fun d S9 hr=>by cases hr.1)
    obtain⟨hd,rfl⟩:=hr
    cases hd
    dsimp only[putD]
    refine gz ?_
    exact fin1 (U':=S9) rfl (hU:=Sub.refl _)
  ·by_cases he:e=0
   ·obtain⟨q3,q4⟩:=aC he
    have q5:=decide_eq_true q4
    refine gf (gi hg (gi he (gi q3 q5))) ?_
    refine AL (DC S3) (fun d S9 hr=>?_) (fun d S9 hr=>by cases hr.1)
    obtain⟨hd,rfl⟩:=hr
    cases hd
    dsimp only[putD]
    refine gz ?_
    exact fin1 (U':=S9) rfl (hU:=Sub.refl _)
   ·refine gf (gi hg he) ?_
    refine AL (DC S3) (fun d S9 hr=>?_) (fun d S9 hr=>by cases hr.1)
    obtain⟨hd,rfl⟩:=hr
    cases hd
    dsimp only[putD]
    refine gz ?_
    exact fin1 (U':=S9) rfl (hU:=Sub.refl _)
 | true =>
  rw[hp]at aD
  have i36:∀O,Ans 36 [.agg (cCPg c)] O True (.tup [.str (CA c),dI 0]):=fun O=>ah0 (aD O)
  simp only[if_true]
  dsimp only[putD]
  refine gz ?_
  refine AL (Oo (EC c) S1 (by have:=Kv hp;omega)) (fun d S2 hr=>?_) (fun d S2 hr=>by cases hr.1)
  obtain⟨hd,rfl⟩:=hr
  cases hd
  rw[U8 hp]
  have i38c:∀O,Ans 38 [.str (CA c)] O True (.tup [.agg (cCPg c),dI 0]):=fun O=>ah0 (by have:=Oq (CA c) O (by have:=J7 hp;omega);rw[Qw hp]at this;exact this)
  have i31:∀O,Ans 31 [.agg (cCPg c),.agg (cCPg c)] O True (.bool true):=fun O=>ah0 (by have:=UR c c O (by omega) (by omega) (by omega) (by omega);rw[P1]at this;exact this)
  dsimp only[putD]
  refine gz ?_
  refine AL (aL S2) (fun d S2' hr=>?_) (fun d S2' hr=>by cases hr.1)
  obtain⟨hd,rfl⟩:=hr
  cases hd
  dsimp only[putD]
  refine gz ?_
  refine AL (hx S2') (fun d S3 hr=>?_) (fun d S3 hr=>by cases hr.1)
  obtain⟨hd,rfl⟩:=hr
  cases hd
  dsimp only[putD]
  by_cases hg:g=0
  ·obtain⟨q1,q2⟩:=aN hg
   have q6:=decide_eq_true q2
   by_cases he:e=0
   ·obtain⟨q3,q4⟩:=aC he
    have q5:=decide_eq_true q4
    refine gf (gi hg (gi q1 (gi q6 (gi he (gi q3 q5))))) ?_
    refine AL (DC S3) (fun d S9 hr=>?_) (fun d S9 hr=>by cases hr.1)
    obtain⟨hd,rfl⟩:=hr
    cases hd
    dsimp only[putD]
    refine gz ?_
    exact fin1 (U':=S9) rfl (hU:=Sub.refl _)
   ·refine gf (gi hg (gi q1 (gi q6 he))) ?_
    refine AL (DC S3) (fun d S9 hr=>?_) (fun d S9 hr=>by cases hr.1)
    obtain⟨hd,rfl⟩:=hr
    cases hd
    dsimp only[putD]
    refine gz ?_
    exact fin1 (U':=S9) rfl (hU:=Sub.refl _)
  ·by_cases he:e=0
   ·obtain⟨q3,q4⟩:=aC he
    have q5:=decide_eq_true q4
    refine gf (gi hg (gi he (gi q3 q5))) ?_
    refine AL (DC S3) (fun d S9 hr=>?_) (fun d S9 hr=>by cases hr.1)
    obtain⟨hd,rfl⟩:=hr
    cases hd
    dsimp only[putD]
    refine gz ?_
    exact fin1 (U':=S9) rfl (hU:=Sub.refl _)
   ·refine gf (gi hg he) ?_
    refine AL (DC S3) (fun d S9 hr=>?_) (fun d S9 hr=>by cases hr.1)
    obtain⟨hd,rfl⟩:=hr
    cases hd
    dsimp only[putD]
    refine gz ?_
    exact fin1 (U':=S9) rfl (hU:=Sub.refl _)
end Go.DL
