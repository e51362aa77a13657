/- Part of the proof that the last text ends. -/
import Derived.Test.YtlfimpogphmbdaaGreatM32
import Derived.Test.YtlfimpogphmbdaaGreatM31
import Derived.Test.YtlfimpogphmbdaaGreatM17
import Derived.Test.YtlfimpogphmbdaaGreatM26
import Derived.Test.YtlfimpogphmbdaaGreatM20
import Derived.Test.YtlfimpogphmbdaaGreatM21
import Derived.Test.YtlfimpogphmbdaaGreatM24
set_option linter.all false
namespace Go.DL
open Go.Proofs.Tryz
open Go Go.Proofs
def Bf(l:List Str):Prop:= ∀s∈l,s.length<=8
theorem GJ{f:Nat->Option Str}: ∀(k j:Nat) (w:Str),Ej f k j=some w->∃i,j<=i/\i<j+k/\f i=some w
 |0,_,_,h=>by simp[Ej]at h
 | k+1,j,w,h=>by
  rw[E9]at h
  split at h
  ·rename_i x hx;cases h;exact⟨j,by omega,by omega,hx⟩
  ·obtain⟨i,h1,h2,h3⟩:=GJ k (j+1) w h
   exact⟨i,by omega,by omega,h3⟩
theorem N5(tk:List Str): ∀(n:Nat) (s w:Str),DP tk n s=some w->w.length=s.length+n
 |0,s,w,h=>by
  rw[DP]at h
  split at h
  ·cases h
  ·cases h;rfl
 |n+1,s,w,h=>by
  rw[DP]at h
  obtain⟨i,_,_,h1⟩:=GJ _ _ _ h
  have:=N5 tk n _ _ h1
  simp at this;omega
theorem Qy(tk:List Str):(Ei tk).length<=8:=by
 unfold Ei
 cases h:Jr tk with
 |none=>simp
 |some w =>
  unfold Jr at h
  obtain⟨i,h1,h2,h3⟩:=GJ _ _ _ h
  have:=N5 tk i _ _ h3
  simp at this⊢; omega
theorem I7: ∀(n:Nat) (l:List Str),Bf l->Bf (Dt n l)
 |0,l,h=>h
 |n+1,l,h=>by
  rw[Dt]
  refine I7 n _ fun s hs=>?_
  rcases List.mem_append.1 hs with hs|hs
  ·exact h s hs
  ·rw[List.mem_singleton.1 hs];exact Qy l
theorem Ds(n:Nat):Bf (B1 n):=I7 n [] fun s hs=>by simp at hs
theorem RM(p:BProg):Bf (spA p):=fun s hs=>by
 unfold spA at hs
 rcases List.mem_append.1 hs with hs|hs
 ·simp at hs
  rcases hs with rfl|rfl|rfl<;>decide
 ·exact Ds _ s hs
theorem Et{l:List Str}(h:Bf l)(n:Int):(ixS l n).length<=8:=by
 unfold ixS
 cases hn:l[n.toNat]? with
 |none=>simp
 |some s=>exact h s (List.mem_of_getElem? hn)
theorem Fm: ∀{l:List Str},Bf l->wtS l<=9*l.length
 |[],_=>by simp[wtS,wtL]
 |x::l,h=>by
  have h1:=h x (by simp)
  have h2:=Fm (l:=l) fun s hs=>h s (by simp[hs])
  unfold wtS at h2⊢
  rw[wtL,List.length_cons];omega
theorem EW{l:List Str}(h:Bf l)(k:List Int):Bf (k.map (ixS l)):=fun s hs=>by
 obtain⟨x,_,rfl⟩:=List.mem_map.1 hs
 exact Et h x
theorem spC_wt{a b:List Str}(ha:Bf a)(hb:Bf b)(c:BClass)(n:Str)(hn:n.length<=8):FClass.wt { spC a b c with name:=n }<=9*c.wt:=by
 have h1:=Fm (EW ha c.parents)
 have h2:=Fm (EW hb c.slots)
 have h3:∀l:List Init,wtL FInit.wt (l.map fun x=>⟨ixS b x.slot,x.n⟩)<=9*l.length:=fun l=>by
  induction l with
  |nil=>simp[wtL]
  |cons x l ih =>
   have:=Et hb x.slot
   simp only[List.map_cons,wtL,List.length_cons,FInit.wt];omega
 have h4:=h3 c.inits
 rw[List.length_map]at h1 h2
 show 1+n.length+wtS (c.parents.map (ixS a))+wtS (c.slots.map (ixS b))+wtL FInit.wt (c.inits.map fun x=>⟨ixS b x.slot,x.n⟩)<=9*(1+c.parents.length+c.slots.length+c.inits.length)
 omega
mutual
theorem WI{a b P:List Str}(ha:Bf a)(hb:Bf b)(hP:Bf P): ∀f:Fact,(spF a b P f).wt<=17*f.wt
 |.mk o g p c n k=>by
  have h1:=Fm (EW hb p)
  rw[List.length_map]at h1
  have h2:=RK ha hb hP k
  have h3:(if o=2\/o=3\/o=4 then ixS P g else([]:Str)).length<=8:=by split;exact Et hP g;simp
  have h4:(if o=2 then ixS a c else([]:Str)).length<=8:=by split;exact Et ha c;simp
  rw[spF,FFact.wt,Fact.wt]
  omega
theorem RK{a b P:List Str}(ha:Bf a)(hb:Bf b)(hP:Bf P): ∀l:List Fact,FFact.wts (spFs a b P l)<=17*Fact.wts l
 |[]=>by rw[spFs,FFact.wts,Fact.wts];omega
 |x::r=>by
  have h1:=WI ha hb hP x
  have h2:=RK ha hb hP r
  rw[spFs,FFact.wts,Fact.wts];omega
end
theorem RJ{a b g P env:List Str}(ha:Bf a)(hb:Bf b)(hg:Bf g)(hP:Bf P)(he:Bf env)(x:BNode)(t:Nat):(Ch a b g P x env t).length<=8:=by
 unfold Ch
 repeat' split
 ·exact Et he _
 ·exact Et hb _
 ·exact Et hg _
 ·exact Et ha _
 ·exact Et hP _
 ·simp
theorem Mw{p:BProg}{k:Nat}{f:Int->List Str->Nat->FExp×Nat}{op:Int}{txt:Str}{env:List Str}(hf:∀c e t,Bf e->(f c e t).1.wt<=9*cntB p k c)(he:Bf env)(ht:txt.length<=8): ∀(l:List Int) (j t:Nat),FExp.wts (CA f op txt env j l t).1<=9*wtL (cntB p k) l
 |[],_,_=>by rw[CA,wtL,FExp.wts];omega
 | c::r,j,t=>by
  have hs:Bf (if op=9/\j=1 then env++[txt] else env):=by
   split
   ·intro s hs
    rcases List.mem_append.1 hs with hs|hs
    ·exact he s hs
    ·rw[List.mem_singleton.1 hs];exact ht
   ·exact he
  have h1:=hf c _ t hs
  have h2:=Mw (op:=op) hf he ht r (j+1) (f c (if op=9/\j=1 then env++[txt] else env) t).2
  rw[CA,wtL,FExp.wts]
  omega
theorem RL(p:BProg){a b g P:List Str}(ha:Bf a)(hb:Bf b)(hg:Bf g)(hP:Bf P): ∀(k:Nat) (node:Int) (env:List Str) (t:Nat),Bf env->(spE p a b g P k node env t).1.wt<=9*cntB p k node
 |0,_,_,_,_=>by simp[spE,cntB,FExp.wt,FExp.wts]
 |k+1,node,env,t,he=>by
  have ht:=RJ ha hb hg hP he (Ap p node) t
  have:=Mw (op:=(Ap p node).op) (fun c e t hs=>RL p ha hb hg hP k c e t hs) he ht (Ap p node).kids 0 (if(Ap p node).op=9 then t+1 else t)
  rw[spE,cntB,FExp.wt]
  omega
theorem Pd (w:World) : ∀ (d:Nat) (f:Fact) (s s':Int),Dn w d f s=(true,s')->0<=s/\s<=1000->0<=s'/\(f.wt:Int)<=3*(s-s')
 |0,_,_,_,h,_=>by simp[Dn]at h
 | d+1,f,s,s',h,hs=>by
  have hw:IntKind.i64.wrap (s-1)=s-1:=Ao (by omega) (by omega)
  rw[Dn,hw]at h
  split at h
  ·simp at h
  ·rename_i aV
   have aa:f.kids.length=Bs f.op:=Classical.byContradiction fun e=>aV (.inr (.inr (.inr e)))
   have ai:0<=s-1:=by omega
   have ba:f.wt=1+f.path.length+Fact.wts f.kids:=by cases f;rw[Fact.wt];rfl
   split at h
   ·rename_i hl
    simp only[Prod.mk.injEq]at h
    obtain⟨aI,rfl⟩:=h
    unfold HP at aI
    simp only[Bool.and_eq_true,decide_eq_true_eq]at aI
    obtain⟨⟨_,aH⟩,_⟩:=aI
    unfold MI at aH
    simp only[Bool.and_eq_true,decide_eq_true_eq]at aH
    have hk:f.kids=[]:=by
     have:Bs f.op=0:=by
      unfold BZ at hl
      simp only[Bool.or_eq_true,decide_eq_true_eq]at hl
      unfold Bs
      rw[if_neg (by omega),if_neg (by omega)]
     exact List.eq_nil_of_length_eq_zero (by omega)
    rw[hk,Fact.wts]at ba
    exact⟨ai,by have:=aH.1;omega⟩
   ·split at h
    ·rename_i h0
     have aY:∀(l:List Fact) (t t':Int),allS (Dn w d) l t=(true,t')->0<=t/\t<=1000->0<=t'/\(Fact.wts l:Int)<=3*(t-t'):=fun l=>by
      induction l with
      |nil=>intro t t' h ht;rw[allS]at h;cases h;exact⟨ht.1,by rw[Fact.wts];omega⟩
      | cons x r ih =>
       intro t t' h ht
       rw[allS]at h
       cases hy:Dn w d x t with
       | mk b t1 =>
        rw[hy]at h
        cases b with
        |false=>simp at h
        |true =>
         obtain⟨g1,g2⟩:=Pd w d x t t1 hy ht
         obtain⟨g3,g4⟩:=ih t1 t' h ⟨g1,by have:=x.wt_pos;omega⟩
         exact⟨g3,by rw[Fact.wts];omega⟩
     obtain⟨g1,g2⟩:=aY _ _ _ h ⟨ai,by omega⟩
     exact⟨g1,by have:=h0.2.1;omega⟩
    ·simp at h
theorem Mj{α β:Type}{g:β->Nat}{h:α->β}{k:Nat}: ∀l:List α,(∀x∈l,g (h x)<=k)->wtL g (l.map h)<=k*l.length
 |[],_=>by simp[wtL]
 |x::r,hx=>by
  have h1:=hx x (by simp)
  have h2:=Mj (g:=g) (h:=h) (k:=k) r fun y hy=>hx y (by simp[hy])
  rw[List.map_cons,wtL,List.length_cons,Nat.mul_add];omega
theorem WE{a b:List Str}(ha:Bf a)(hb:Bf b): ∀(l:List BClass) (n:List Str),Bf n->wtL FClass.wt ((l.zip n).map fun x=>{ spC a b x.1 with name:=x.2 })<=9*wtL BClass.wt l
 |[],_,_=>by simp[wtL]
 |_::_,[],_=>by simp[wtL]
 |c::r,x::n,hn=>by
  have h1:=spC_wt ha hb c x (hn x (by simp))
  have h2:=WE ha hb r n fun s hs=>hn s (by simp[hs])
  rw[List.zip_cons_cons,List.map_cons,wtL,wtL,Nat.mul_add]
  exact Nat.add_le_add h1 h2
theorem LA {p:BProg} (h:okP p=true):(Dm p).wt<=9*p.wt+60000:=by
 have aA:=RM p
 have ay:Bf (spS p):=Ds _
 have aG:Bf (spG p):=Ds _
 have aF:Bf (spL p):=Ds _
 unfold okP D0 at h
 split at h
 ·rename_i hc
  simp only[Bool.and_eq_true,decide_eq_true_eq,List.all_eq_true]at hc
  obtain⟨⟨bi,⟨⟨h8,bj⟩,bg⟩,bd⟩,hg⟩:=hc
  cases hm:Dp p p.methods (List.replicate p.nodes.length (-1))with
  |none=>rw[hm]at h;simp at h
  | some s =>
   rw[hm]at h
   obtain⟨k1,k2,k3⟩:=Jb p p.methods _ s hm (by simp) (fun g hx=>(hg g hx).1)
   rw[List.length_replicate]at k2
   cases hw:BR p false 12 p.main 0 s with
   | mk b s2 =>
    simp only[hw]at h
    cases b with
    |false=>simp[optW]at h
    | true =>
     obtain⟨m1,m2,m3⟩:=Ik p false 12 _ _ _ _ hw k2 (Int.le_refl _)
     have bf:negS s<=s.length:=List.countP_le_length
     have h1:=WE aA ay p.classes (B1 p.classes.length) (Ds _)
     have h2:=RL p aA ay aG aF 12 p.main [] 0 (fun s hs=>by simp at hs)
     have h3:wtL FMeth.wt (p.methods.map (spM p))<=3000*p.methods.length:=by
      refine Mj p.methods fun m aX=>?_
      obtain⟨q1,q2,q3⟩:=k1 m aX
      unfold Ep at q1
      simp only[Bool.and_eq_true,decide_eq_true_eq]at q1
      obtain⟨⟨⟨_,aZ⟩,aq⟩,aN⟩:=q1
      have bh:1<=p.gens.getD m.gen.toNat 0/\p.gens.getD m.gen.toNat 0<=3:=by
       have hl:m.gen.toNat<p.gens.length:=by omega
       rw[List.getD_eq_getElem?_getD,List.getElem?_eq_getElem hl]
       exact hg _ (List.getElem_mem hl)
      have aT:CU p m<=3:=by unfold CU;omega
      have aE:Bf ((spL p).take (CU p m)):=fun s hs=>aF s (List.mem_of_mem_take hs)
      have r1:=Et aG m.gen
      have r2:=Fm aE
      have r3:=WI aA ay aE m.fact
      have r4:=RL p aA ay aG aF 12 m.node ((spL p).take (CU p m)) (CU p m) aE
      have r5:m.fact.wt<=72:=by
       unfold Dh at aq
       cases hf:Dn (AR p) 12 m.fact 24 with
       | mk b t =>
        rw[hf]at aq
        cases b with
        |false=>simp at aq
        |true =>
         obtain⟨u1,u2⟩:=Pd (AR p) 12 m.fact 24 t hf (by omega)
         omega
      have r6:((spL p).take (CU p m)).length<=3:=by rw[List.length_take];omega
      show 1+(ixS (spG p) m.gen).length+wtS ((spL p).take (CU p m))+(spF (spA p) (spS p) ((spL p).take (CU p m)) m.fact).wt+(spE p (spA p) (spS p) (spG p) (spL p) 12 m.node ((spL p).take (CU p m)) (CU p m)).1.wt<=3000
      omega
     have h4:wtL BClass.wt p.classes<p.wt:=by unfold BProg.wt;omega
     show 1+wtL FClass.wt (spCs p)+wtL FMeth.wt (p.methods.map (spM p))+(spE p (spA p) (spS p) (spG p) (spL p) 12 p.main [] 0).1.wt<=9*p.wt+60000
     unfold spCs
     omega
 ·simp at h
end Go.DL
namespace Go.DL
open Go.Proofs.Tryz
open Go Go.Proofs
set_option maxHeartbeats 8000000
def progFZ:FProg:=⟨[],[],.mk 0 0 [] []⟩
def DC(p:BProg):Int:=if okP p then(if(BG (Dm p)).isSome then 0 else 3) else 2
def DB(p:BProg):FProg:=if DC p=0 then Dm p else progFZ
theorem M4(p:BProg)(V:Sig)(hw:p.wt<=10000000):DCall prog 20 [.agg (Am p)] V (rS (.tup [.agg (B7 (DB p)),dI (DC p)]) V):=by
 have ak:WkD (.tup [.agg [.nils,.nils,dI 0,dI 0,.str [],.nils],dI (DC p)]) (.tup [.agg (B7 progFZ),dI (DC p)]):=by
  have e:B7 progFZ=[sl [],sl [],dI 0,dI 0,.str [],sl []]:=by simp[progFZ,FExp.op,FExp.n,FExp.text,FExp.kids]
  rw[e]
  exact Gs (show WkL _ _ from⟨E3 (show WkL _ _ from⟨Al _ (.inl rfl),Al _ (.inl rfl),A8 _,A8 _,A8 _,Al _ (.inl rfl),trivial⟩),A8 _,trivial⟩)
 have aw:=fun (V:Sig)=>M6 p V (by omega)
 cases ap:okP p with
 |false =>
  have hE:DC p=2:=by unfold DC;rw[ap];rfl
  have hP:DB p=progFZ:=by unfold DB;rw[hE];rfl
  rw[hP]
  rw[hE]at ak⊢
  refine en func20 ntmps20 ?_
  try refine gz ?_ [] [2]
  refine newV (fun i2 aP=>?_)
  repeat' first|refine gf ap ?_ [] [2]|refine Ax (aw _) ?_|refine callP (aw _) ?_|refine gf ap ?_ [] [2]|apply gy<;>intro hh
  refine finC (S':=V) ⟨rfl,rfl⟩ (hw:=?_)
  exact ak
 | true =>
  have aN:=sp_ok (p:=p) (by omega) ap
  have be:=LA ap
  have aC:=fun (V:Sig)=>PC p V aN
  have aD:=fun (V:Sig)=>PD (Dm p) V (by omega)
  cases hs:(BG (Dm p)).isSome with
  |false =>
   have hE:DC p=3:=by unfold DC;rw[ap,hs];rfl
   have hP:DB p=progFZ:=by unfold DB;rw[hE];rfl
   rw[hP]
   rw[hE]at ak⊢
   refine en func20 ntmps20 ?_
   try refine gz ?_ [] [2]
   refine newV (fun i2 aP=>?_)
   repeat' first|refine gf (gi ap hs) ?_ [] [2]|refine Ax (aw _) ?_|refine callP (aw _) ?_|refine Ax (aC _) ?_|refine callP (aC _) ?_|refine Ax (aD _) ?_|refine callP (aD _) ?_|refine gf (gi ap hs) ?_ [] [2]|apply gy<;>intro hh
   refine finC (S':=V) ⟨rfl,rfl⟩ (hw:=?_)
   exact ak
  |true =>
   have hE:DC p=0:=by unfold DC;rw[ap,hs];rfl
   have hP:DB p=Dm p:=by unfold DB;rw[hE];rfl
   rw[hP,hE]
   refine en func20 ntmps20 ?_
   try refine gz ?_ [] [2]
   refine newV (fun i2 aP=>?_)
   repeat' first|refine gf (gi ap hs) ?_ [] [2]|refine Ax (aw _) ?_|refine callP (aw _) ?_|refine Ax (aC _) ?_|refine callP (aC _) ?_|refine Ax (aD _) ?_|refine callP (aD _) ?_|refine gf (gi ap hs) ?_ [] [2]|apply gy<;>intro hh
   exact finC (S':=V) ⟨rfl,rfl⟩
@[reducible,instance] def a20:=fun p V=>ah1 (@M4 p V)
theorem VP(s:Str)(V:Sig):DCall prog 96 [.str s] V (rS (.agg (Ah (.mk 3 0 s []))) V):=by
 refine en func96 ntmps96 ?_
 refine gz ?_ [] [2]
 refine newV (fun i hi=>?_)
 refine gz ?_ [] [2]
 refine finC (S':=V) ⟨rfl,rfl⟩ (hw:=?_)
 exact E3 ⟨A8 _,A8 _,A8 _,Al _ (.inl rfl),trivial⟩
@[reducible,instance] def a96:=fun s V=>ah0 (@VP s V)
theorem Jy(op n:Int)(l:List (List D))(o:Own)(V:Sig):DCall prog 97 [dI op,dI n,.slice l o] V (rS (.agg [dI op,dI n,.slice l o]) V):=by
 refine en func97 ntmps97 ?_
 refine gz ?_ [] [6]
 refine newV (fun i hi=>?_)
 refine gz ?_ [] [6]
 exact finC (S':=V) ⟨rfl,rfl⟩
@[reducible,instance] def a97a:=fun op n l o V=>ah0 (@Jy op n l o V)
theorem Jx(op n:Int)(V:Sig):DCall prog 97 [dI op,dI n,.nils] V (rS (.agg [dI op,dI n,.nils]) V):=by
 refine en func97 ntmps97 ?_
 refine gz ?_ [] [6]
 refine newV (fun i hi=>?_)
 refine gz ?_ [] [6]
 exact finC (S':=V) ⟨rfl,rfl⟩
@[reducible,instance] def a97n:=fun op n V=>ah0 (@Jx op n V)
theorem Jz(op:Int)(s:Str)(V:Sig):DCall prog 95 [dI op,.str s,.nils] V (rS (.agg [dI op,dI 0,.str s,.nils]) V):=by
 refine en func95 ntmps95 ?_
 refine gz ?_ [] [6]
 refine newV (fun i hi=>?_)
 refine gz ?_ [] [6]
 exact finC (S':=V) ⟨rfl,rfl⟩
@[reducible,instance] def a95n:=fun op s V=>ah0 (@Jz op s V)
def exB:BProg:=⟨[⟨[],[0],[⟨0,7⟩]⟩,⟨[3],[1],[]⟩,⟨[4,3],[],[⟨0,1⟩]⟩],2,[1],[⟨1,0,.mk 2 0 [] 3 0 [],0⟩,⟨2,0,.mk 3 0 [0] 0 5 [],3⟩],
 [⟨17,0,[1]⟩,⟨4,0,[2]⟩,⟨3,0,[]⟩,⟨9,0,[4,5]⟩,⟨3,0,[]⟩,⟨3,1,[]⟩,⟨5,0,[7]⟩,⟨6,5,[]⟩],6⟩
def exA(l:List Str):FProg:=⟨[⟨[97],[],[[102]],[⟨[102],7⟩]⟩,⟨[98],[[97]],[[103]],[]⟩,⟨[99],l,[],[⟨[102],1⟩]⟩],
 [⟨1,[115,104,111,119],[[120]],.mk 2 [120] [] [97] 0 [],.mk 17 0 [] [.mk 4 0 [102] [.mk 3 0 [120] []]]⟩,⟨2,[115,104,111,119],[[121]],.mk 3 [121] [[102]] [] 5 [],.mk 9 0 [122] [.mk 3 0 [121] [],.mk 3 0 [122] []]⟩],
 .mk 5 0 [115,104,111,119] [.mk 6 0 [99] []]⟩
theorem Wc(V:Sig):DCall prog 46 [] V (rS (.agg (Am exB)) V):=by
 refine en func46 ntmps46 ?_
 refine gz ?_ [] [0]
 refine newV (fun i hi=>?_)
 repeat' first|refine gz ?_ [] [0]|refine Ax (Jy _ _ _ _ _) ?_|refine callP (Jy _ _ _ _ _) ?_|refine Ax (Jx _ _ _) ?_|refine callP (Jx _ _ _) ?_|refine gz ?_ [] [0]|apply gy<;>intro hh
 have e:Am exB=[sl [[sl [],sl [[dI 0]],sl [[dI 0,dI 7]]],[sl [[dI 3]],sl [[dI 1]],sl []],[sl [[dI 4],[dI 3]],sl [],sl [[dI 0,dI 1]]]],dI 2,sl [[dI 1]],sl [[dI 1,dI 0,dI 2,dI 0,sl [],dI 3,dI 0,sl [],dI 0],[dI 2,dI 0,dI 3,dI 0,sl [[dI 0]],dI 0,dI 5,sl [],dI 3]],sl [[dI 17,dI 0,sl [[dI 1]]],[dI 4,dI 0,sl [[dI 2]]],[dI 3,dI 0,sl []],[dI 9,dI 0,sl [[dI 4],[dI 5]]],[dI 3,dI 0,sl []],[dI 3,dI 1,sl []],[dI 5,dI 0,sl [[dI 7]]],[dI 6,dI 5,sl []]],dI 6]:=by
  simp[exB,cI,DR,Fact.op,Fact.arg,Fact.path,Fact.cls,Fact.n,Fact.kids]
 refine finC (S':=V) ⟨rfl,rfl⟩ (hw:=?_)
 rw[e]
 refine E3 ?_
 repeat' (first|exact A8 _|exact Al _ (.inl rfl)|exact trivial|refine Hy _ ?_|refine⟨?_,?_⟩)
@[reducible,instance] def a46:=fun V=>ah0 (@Wc V)
theorem PE(l:List Str)(o:Own)(V:Sig):DCall prog 45 [.slice (cS l) o] V (rS (.agg (B7 (exA l))) V):=by
 refine en func45 ntmps45 ?_
 refine gz ?_ [] [2]
 refine newV (fun i hi=>?_)
 repeat' first|refine gz ?_ [] [2]|refine Ax (LV _ _ _ _ _) ?_|refine callP (LV _ _ _ _ _) ?_|refine Ax (Jz _ _ _) ?_|refine callP (Jz _ _ _) ?_|refine gz ?_ [] [2]|apply gy<;>intro hh
 have e:B7 (exA l)=[sl [[.str [97],sl [],sl [[.str [102]]],sl [[.str [102],dI 7]]],[.str [98],sl [[.str [97]]],sl [[.str [103]]],sl []],[.str [99],sl (cS l),sl [],sl [[.str [102],dI 1]]]],
   sl [[dI 1,.str [115,104,111,119],sl [[.str [120]]],dI 2,.str [120],sl [],.str [97],dI 0,sl [],dI 17,dI 0,.str [],sl [[dI 4,dI 0,.str [102],sl [Ah (.mk 3 0 [120] [])]]]],
    [dI 2,.str [115,104,111,119],sl [[.str [121]]],dI 3,.str [121],sl [[.str [102]]],.str [],dI 5,sl [],dI 9,dI 0,.str [122],sl [Ah (.mk 3 0 [121] []),Ah (.mk 3 0 [122] [])]]],
   dI 5,dI 0,.str [115,104,111,119],sl [[dI 6,dI 0,.str [99],sl []]]]:=by
  simp[exA,cS,Cv,Cz,FFact.op,FFact.name,FFact.path,FFact.cls,FFact.n,FFact.kids,FExp.op,FExp.n,FExp.text,FExp.kids]
 refine finC (S':=V) ⟨rfl,rfl⟩ (hw:=?_)
 rw[e]
 refine E3 ?_
 repeat' (first|exact A8 _|exact Al _ (.inl rfl)|exact AE _ _|exact Ec _|exact trivial|refine Hy _ ?_|refine⟨?_,?_⟩)
def all2{α:Type}(f:α->α->Bool):List α->List α->Bool
 |x::l,y::m=>f x y&&all2 f l m
 |_,_=>true
theorem Mg{α:Type}(f:α->α->Bool)(m:List α):all2 f [] m=true:=by rw[all2];intros;contradiction
def eqC(x y:BClass):Bool:=x.parents==y.parents&&x.slots==y.slots&&decide (x.inits=y.inits)
def eqM(x y:BMeth):Bool:=decide (x.kind=y.kind)&&decide (x.gen=y.gen)&&decide (x.node=y.node)&&x.fact.beq y.fact
def eqN(x y:BNode):Bool:=decide (x.op=y.op)&&decide (x.n=y.n)&&x.kids==y.kids
def VK(p q:BProg):Bool:=decide (p.slots=q.slots)&&decide (p.main=q.main)&&p.gens==q.gens&&decide (p.classes.length=q.classes.length)&&decide (p.methods.length=q.methods.length)&&decide (p.nodes.length=q.nodes.length)
def Qk(p q:BProg):Bool:=VK p q&&all2 eqC p.classes q.classes&&all2 eqM p.methods q.methods&&all2 eqN p.nodes q.nodes
theorem PJ(p q:BProg)(V:Sig)(hp:p.wt<=1073741824)(hq:q.wt<=1073741824):DCall prog 19 [.agg (Am p),.agg (Am q)] V (rS (.bool (Qk p q)) V):=by
 obtain⟨p1,p2,p3,p4,p5,p6,p7⟩:=p.wt_le
 obtain⟨q1,q2,q3,q4,q5,q6,q7⟩:=q.wt_le
 cases hd:VK p q with
 |false =>
  have hS:Qk p q=false:=by unfold Qk;rw[hd];rfl
  rw[hS]
  refine en func19 ntmps19 ?_
  repeat' first|refine gz ?_ o19|apply gy<;>intro hh
  all_goals first|exact fin1 (S':=V) ⟨rfl,rfl⟩|(exfalso;unfold VK at hd;simp_all;done)
 | true =>
  have hS:Qk p q=(all2 eqC p.classes q.classes&&all2 eqM p.methods q.methods&&all2 eqN p.nodes q.nodes):=by unfold Qk;rw[hd,Bool.true_and]
  unfold VK at hd
  simp only[Bool.and_eq_true,decide_eq_true_eq,beq_iff_eq]at hd
  obtain⟨⟨⟨⟨⟨e1,e2⟩,e3⟩,e4⟩,e5⟩,e6⟩:=hd
  rw[hS]
  refine en func19 ntmps19 ?_
  repeat' first|refine gz ?_ o19 [6,7,9,10,12,13]|apply gy<;>intro hh
  ·rw[e3]at hh;simp at hh
  generalize aj:(all2 eqC p.classes q.classes&&all2 eqM p.methods q.methods&&all2 eqN p.nodes q.nodes)=sameR
  have aj:=aj.symm
  refine B2 [2,3,8,9,10,11,12,13,100,101,102,103,104,105,106,107,108,109,110,111,112,113,114,115,116,117,118,119,120,121,122,123,124,125,126,127,128,129,130,131,132,133,134,135,136,137,138,139,140,141,142,143,144,145,146,147,148,149,150,151,152,153,154,155,156,157,158,159,160,161,162,163,164,165,166,167,168,169,170,171,172,173,174,175,176,177,178,179,180] (fun (k:Nat)=>k<=p.classes.length/\sameR=(all2 eqC (p.classes.drop k) (q.classes.drop k)&&all2 eqM p.methods q.methods&&all2 eqN p.nodes q.nodes)) (fun k=>[(5,dI k)]) (fun _=>V) (fun k=>p.classes.length-k) (0) (by simp[aj]) (fun k hI=>?_)
  obtain⟨hk,hR⟩:=hI
  by_cases aa:k<p.classes.length
  ·have am:k<q.classes.length:=by omega
   have w1:=p5 k aa
   have w2:=q5 k am
   rw[A0 aa,A0 am,all2]at hR
   refine gz ?_ (delO 6 o19) [6,7,9,10,12,13]
   refine mixA (id:=6) [0,1,2,3,4,5,6,7,8,9,10,11,12,13] [12,13] ?_
   refine Ay (d:=.cptr (Am p) 0) Ad rfl tdR tdR (by first|with_unfolding_all rfl|(simp;done)|(simp;rfl)) ?_
   refine Ay (d:=sl (p.classes.map Ae)) Ad rfl tdR tdR (by first|with_unfolding_all rfl|(simp;done)|(simp;rfl)) ?_
   refine Ay (d:=dI k) Ad rfl tdR tdR (by first|with_unfolding_all rfl|(simp;done)|(simp;rfl)) ?_
   refine Ay (d:=.cptr (Ae p.classes[k]) 0) Ad rfl tdR tdR (by first|with_unfolding_all rfl|(simp[aa];done)|(simp[aa];rfl)) ?_
   refine Ay (d:=.agg (Ae p.classes[k])) Ad rfl tdR tdR (by first|with_unfolding_all rfl|(simp;done)|(simp;rfl)) ?_
   refine Ay (d:=.cptr (Am q) 0) Ad rfl tdR tdR (by first|with_unfolding_all rfl|(simp;done)|(simp;rfl)) ?_
   refine Ay (d:=sl (q.classes.map Ae)) Ad rfl tdR tdR (by first|with_unfolding_all rfl|(simp;done)|(simp;rfl)) ?_
   refine Ay (d:=dI k) Ad rfl tdR tdR (by first|with_unfolding_all rfl|(simp;done)|(simp;rfl)) ?_
   refine Ay (d:=.cptr (Ae q.classes[k]) 0) Ad rfl tdR tdR (by first|with_unfolding_all rfl|(simp[am];done)|(simp[am];rfl)) ?_
   refine Ay (d:=.agg (Ae q.classes[k])) Ad rfl tdR tdR (by first|with_unfolding_all rfl|(simp;done)|(simp;rfl)) ?_
   refine EC (fun i6 ag=>?_)
   refine EC (fun i7 ah=>?_)
   refine FB (by rfl) ?_
   have hz:(tab 101).zero=[.nils,.nils,.nils]:=by(simp<;>rfl)
   rw[hz]at ah⊢
   have n67:i6≠i7:=fun e=>by rw[<-e,w7]at ah;cases ah
   have i70:=(A4 ah).2
   have ai:Sub V (((V.set i6 (.cells [.nils,.nils,.nils])).set i7 (.cells [.nils,.nils,.nils])).set i6 (.cells (Ae p.classes[k]))):=(((Sub.refl _).set ag).set i70).set ag
   have ae:Sub V ((((V.set i6 (.cells [.nils,.nils,.nils])).set i7 (.cells [.nils,.nils,.nils])).set i6 (.cells (Ae p.classes[k]))).set i7 (.cells (Ae q.classes[k]))):=ai.set i70
   simp only[Ae]at ai ae
   unfold BClass.wt at w1 w2
   repeat' first|refine gz ?_ o19 [6,7,9,10,12,13]|apply gy<;>intro hh
   ·have hE:eqC p.classes[k] q.classes[k]=false:=by unfold eqC;clear ai ae hR ag ah hz i70 w1 w2 p5 p6 p7 q5 q6 q7 aj hS e1 e2 e3 e4 e5 e6;simp_all
    rw[hE]at hR
    simp only[Bool.false_and]at hR
    rw[hR]
    exact fin1 (S':=V) ⟨rfl,rfl⟩ (hZ:=ae)
   ·have hE:eqC p.classes[k] q.classes[k]=false:=by unfold eqC;clear ai ae hR ag ah hz i70 w1 w2 p5 p6 p7 q5 q6 q7 aj hS e1 e2 e3 e4 e5 e6;simp_all
    rw[hE]at hR
    simp only[Bool.false_and]at hR
    rw[hR]
    exact fin1 (S':=V) ⟨rfl,rfl⟩ (hZ:=ae)
   ·have hE:eqC p.classes[k] q.classes[k]=false:=by unfold eqC;clear ai ae hR ag ah hz i70 w1 w2 p5 p6 p7 q5 q6 q7 aj hS e1 e2 e3 e4 e5 e6;simp_all
    rw[hE]at hR
    simp only[Bool.false_and]at hR
    rw[hR]
    exact fin1 (S':=V) ⟨rfl,rfl⟩ (hZ:=ae)
   ·have hE:eqC p.classes[k] q.classes[k]=true:=by unfold eqC;clear ai ae hR ag ah hz i70 w1 w2 p5 p6 p7 q5 q6 q7 aj hS e1 e2 e3 e4 e5 e6;simp_all
    rw[hE,Bool.true_and]at hR
    have ar:=ae
    exact⟨k+1,⟨by omega,hR⟩,td1,wkR⟩
  ·rw [A1 aa,Mg] at hR
   try simp only[Bool.true_and]at hR
   have aj:=hR
   clear hR
   refine gz ?_ o19 [6,7,9,10,12,13]
   refine B2 [2,3,11,12,13,144,145,146,147,148,149,150,151,152,153,154,155,156,157,158,159,160,161,162,163,164,165,166,167,168,169,170,171,172,173,174,175,176,177,178,179,180] (fun (k:Nat)=>k<=p.methods.length/\sameR=(all2 eqM (p.methods.drop k) (q.methods.drop k)&&all2 eqN p.nodes q.nodes)) (fun k=>[(8,dI k)]) (fun _=>V) (fun k=>p.methods.length-k) (0) (by simp[aj]) (fun k hI=>?_)
   obtain⟨hk,hR⟩:=hI
   by_cases aa:k<p.methods.length
   ·have am:k<q.methods.length:=by omega
    have w1:=p6 k aa
    have w2:=q6 k am
    rw[A0 aa,A0 am,all2]at hR
    refine gz ?_ (delO 12 o19) [6,7,9,10,12,13]
    refine mixA (id:=12) [0,1,2,3,4,5,6,7,8,9,10,11,12,13] [12,13] ?_
    refine Ay (d:=.cptr (Am p) 3) Ad rfl tdR tdR (by first|with_unfolding_all rfl|(simp;done)|(simp;rfl)) ?_
    refine Ay (d:=sl (p.methods.map Aq)) Ad rfl tdR tdR (by first|with_unfolding_all rfl|(simp;done)|(simp;rfl)) ?_
    refine Ay (d:=dI k) Ad rfl tdR tdR (by first|with_unfolding_all rfl|(simp;done)|(simp;rfl)) ?_
    refine Ay (d:=.cptr (Aq p.methods[k]) 0) Ad rfl tdR tdR (by first|with_unfolding_all rfl|(simp[aa];done)|(simp[aa];rfl)) ?_
    refine Ay (d:=.agg (Aq p.methods[k])) Ad rfl tdR tdR (by first|with_unfolding_all rfl|(simp;done)|(simp;rfl)) ?_
    refine Ay (d:=.cptr (Am q) 3) Ad rfl tdR tdR (by first|with_unfolding_all rfl|(simp;done)|(simp;rfl)) ?_
    refine Ay (d:=sl (q.methods.map Aq)) Ad rfl tdR tdR (by first|with_unfolding_all rfl|(simp;done)|(simp;rfl)) ?_
    refine Ay (d:=dI k) Ad rfl tdR tdR (by first|with_unfolding_all rfl|(simp;done)|(simp;rfl)) ?_
    refine Ay (d:=.cptr (Aq q.methods[k]) 0) Ad rfl tdR tdR (by first|with_unfolding_all rfl|(simp[am];done)|(simp[am];rfl)) ?_
    refine Ay (d:=.agg (Aq q.methods[k])) Ad rfl tdR tdR (by first|with_unfolding_all rfl|(simp;done)|(simp;rfl)) ?_
    refine EC (fun i6 ag=>?_)
    refine EC (fun i7 ah=>?_)
    refine FB (by rfl) ?_
    have hz:(tab 98).zero=[dI 0,dI 0,dI 0,dI 0,.nils,dI 0,dI 0,.nils,dI 0]:=by(simp<;>rfl)
    rw[hz]at ah⊢
    have n67:i6≠i7:=fun e=>by rw[<-e,w7]at ah;cases ah
    have i70:=(A4 ah).2
    have ai:Sub V (((V.set i6 (.cells [dI 0,dI 0,dI 0,dI 0,.nils,dI 0,dI 0,.nils,dI 0])).set i7 (.cells [dI 0,dI 0,dI 0,dI 0,.nils,dI 0,dI 0,.nils,dI 0])).set i6 (.cells (Aq p.methods[k]))):=(((Sub.refl _).set ag).set i70).set ag
    have ae:Sub V ((((V.set i6 (.cells [dI 0,dI 0,dI 0,dI 0,.nils,dI 0,dI 0,.nils,dI 0])).set i7 (.cells [dI 0,dI 0,dI 0,dI 0,.nils,dI 0,dI 0,.nils,dI 0])).set i6 (.cells (Aq p.methods[k]))).set i7 (.cells (Aq q.methods[k]))):=ai.set i70
    simp only[Aq,DR,List.cons_append,List.nil_append]at ai ae
    unfold BMeth.wt at w1 w2
    repeat' first|refine gz ?_ o19 [6,7,9,10,12,13]|apply gy<;>intro hh
    ·have hE:eqM p.methods[k] q.methods[k]=false:=by unfold eqM;clear ai ae hR ag ah hz i70 w1 w2 p5 p6 p7 q5 q6 q7 aj hS e1 e2 e3 e4 e5 e6;simp_all
     rw[hE]at hR
     simp only[Bool.false_and]at hR
     rw[hR]
     exact fin1 (S':=V) ⟨rfl,rfl⟩ (hZ:=ae)
    ·have hE:eqM p.methods[k] q.methods[k]=false:=by unfold eqM;clear ai ae hR ag ah hz i70 w1 w2 p5 p6 p7 q5 q6 q7 aj hS e1 e2 e3 e4 e5 e6;simp_all
     rw[hE]at hR
     simp only[Bool.false_and]at hR
     rw[hR]
     exact fin1 (S':=V) ⟨rfl,rfl⟩ (hZ:=ae)
    ·have hE:eqM p.methods[k] q.methods[k]=false:=by unfold eqM;clear ai ae hR ag ah hz i70 w1 w2 p5 p6 p7 q5 q6 q7 aj hS e1 e2 e3 e4 e5 e6;simp_all
     rw[hE]at hR
     simp only[Bool.false_and]at hR
     rw[hR]
     exact fin1 (S':=V) ⟨rfl,rfl⟩ (hZ:=ae)
    ·have hE:eqM p.methods[k] q.methods[k]=false:=by unfold eqM;clear ai ae hR ag ah hz i70 w1 w2 p5 p6 p7 q5 q6 q7 aj hS e1 e2 e3 e4 e5 e6;simp_all
     rw[hE]at hR
     simp only[Bool.false_and]at hR
     rw[hR]
     exact fin1 (S':=V) ⟨rfl,rfl⟩ (hZ:=ae)
    ·have hE:eqM p.methods[k] q.methods[k]=true:=by unfold eqM;clear ai ae hR ag ah hz i70 w1 w2 p5 p6 p7 q5 q6 q7 aj hS e1 e2 e3 e4 e5 e6;simp_all
     rw[hE,Bool.true_and]at hR
     have ar:=ae
     exact⟨k+1,⟨by omega,hR⟩,td1,wkR⟩
   ·rw[A1 aa,Mg]at hR
    try simp only[Bool.true_and]at hR
    have aj:=hR
    clear hR
    refine gz ?_ o19 [6,7,9,10,12,13]
    refine B2 [2,3] (fun (k:Nat)=>k<=p.nodes.length/\sameR=(all2 eqN (p.nodes.drop k) (q.nodes.drop k))) (fun k=>[(11,dI k)]) (fun _=>V) (fun k=>p.nodes.length-k) (0) (by simp[aj]) (fun k hI=>?_)
    obtain⟨hk,hR⟩:=hI
    by_cases aa:k<p.nodes.length
    ·have am:k<q.nodes.length:=by omega
     have w1:=p7 k aa
     have w2:=q7 k am
     rw[A0 aa,A0 am,all2]at hR
     refine gz ?_ (delO 18 o19) [6,7,9,10,12,13]
     refine mixA (id:=18) [0,1,2,3,4,5,6,7,8,9,10,11,12,13] [12,13] ?_
     refine Ay (d:=.cptr (Am p) 4) Ad rfl tdR tdR (by first|with_unfolding_all rfl|(simp;done)|(simp;rfl)) ?_
     refine Ay (d:=sl (p.nodes.map Ai)) Ad rfl tdR tdR (by first|with_unfolding_all rfl|(simp;done)|(simp;rfl)) ?_
     refine Ay (d:=dI k) Ad rfl tdR tdR (by first|with_unfolding_all rfl|(simp;done)|(simp;rfl)) ?_
     refine Ay (d:=.cptr (Ai p.nodes[k]) 0) Ad rfl tdR tdR (by first|with_unfolding_all rfl|(simp[aa];done)|(simp[aa];rfl)) ?_
     refine Ay (d:=.agg (Ai p.nodes[k])) Ad rfl tdR tdR (by first|with_unfolding_all rfl|(simp;done)|(simp;rfl)) ?_
     refine Ay (d:=.cptr (Am q) 4) Ad rfl tdR tdR (by first|with_unfolding_all rfl|(simp;done)|(simp;rfl)) ?_
     refine Ay (d:=sl (q.nodes.map Ai)) Ad rfl tdR tdR (by first|with_unfolding_all rfl|(simp;done)|(simp;rfl)) ?_
     refine Ay (d:=dI k) Ad rfl tdR tdR (by first|with_unfolding_all rfl|(simp;done)|(simp;rfl)) ?_
     refine Ay (d:=.cptr (Ai q.nodes[k]) 0) Ad rfl tdR tdR (by first|with_unfolding_all rfl|(simp[am];done)|(simp[am];rfl)) ?_
     refine Ay (d:=.agg (Ai q.nodes[k])) Ad rfl tdR tdR (by first|with_unfolding_all rfl|(simp;done)|(simp;rfl)) ?_
     refine EC (fun i6 ag=>?_)
     refine EC (fun i7 ah=>?_)
     refine FB (by rfl) ?_
     have hz:(tab 104).zero=[dI 0,dI 0,.nils]:=by(simp<;>rfl)
     rw[hz]at ah⊢
     have n67:i6≠i7:=fun e=>by rw[<-e,w7]at ah;cases ah
     have i70:=(A4 ah).2
     have ai:Sub V (((V.set i6 (.cells [dI 0,dI 0,.nils])).set i7 (.cells [dI 0,dI 0,.nils])).set i6 (.cells (Ai p.nodes[k]))):=(((Sub.refl _).set ag).set i70).set ag
     have ae:Sub V ((((V.set i6 (.cells [dI 0,dI 0,.nils])).set i7 (.cells [dI 0,dI 0,.nils])).set i6 (.cells (Ai p.nodes[k]))).set i7 (.cells (Ai q.nodes[k]))):=ai.set i70
     simp only[Ai]at ai ae
     unfold BNode.wt at w1 w2
     repeat' first|refine gz ?_ o19 [6,7,9,10,12,13]|apply gy<;>intro hh
     ·have hE:eqN p.nodes[k] q.nodes[k]=false:=by unfold eqN;clear ai ae hR ag ah hz i70 w1 w2 p5 p6 p7 q5 q6 q7 aj hS e1 e2 e3 e4 e5 e6;simp_all
      rw[hE]at hR
      simp only[Bool.false_and]at hR
      rw[hR]
      exact fin1 (S':=V) ⟨rfl,rfl⟩ (hZ:=ae)
     ·have hE:eqN p.nodes[k] q.nodes[k]=false:=by unfold eqN;clear ai ae hR ag ah hz i70 w1 w2 p5 p6 p7 q5 q6 q7 aj hS e1 e2 e3 e4 e5 e6;simp_all
      rw[hE]at hR
      simp only[Bool.false_and]at hR
      rw[hR]
      exact fin1 (S':=V) ⟨rfl,rfl⟩ (hZ:=ae)
     ·have hE:eqN p.nodes[k] q.nodes[k]=false:=by unfold eqN;clear ai ae hR ag ah hz i70 w1 w2 p5 p6 p7 q5 q6 q7 aj hS e1 e2 e3 e4 e5 e6;simp_all
      rw[hE]at hR
      simp only[Bool.false_and]at hR
      rw[hR]
      exact fin1 (S':=V) ⟨rfl,rfl⟩ (hZ:=ae)
     ·have hE:eqN p.nodes[k] q.nodes[k]=true:=by unfold eqN;clear ai ae hR ag ah hz i70 w1 w2 p5 p6 p7 q5 q6 q7 aj hS e1 e2 e3 e4 e5 e6;simp_all
      rw[hE,Bool.true_and]at hR
      have ar:=ae
      exact⟨k+1,⟨by omega,hR⟩,td1,wkR⟩
    ·rw[A1 aa,Mg]at hR
     try simp only[Bool.true_and]at hR
     have aj:=hR
     clear hR
     refine gz ?_ o19 [6,7,9,10,12,13]
     rw[aj]
     exact fin1 (S':=V) ⟨rfl,rfl⟩
@[reducible,instance] def a19:=fun p q V=>ah2 (@PJ p q V)
mutual
def AllX(Q:FExp->Prop):FExp->Prop
 |.mk o n t k=>Q (.mk o n t k)/\Gl Q k
def Gl(Q:FExp->Prop):List FExp->Prop
 |[]=>True
 |x::r=>AllX Q x/\Gl Q r
end
mutual
def argE(gm:List (Str×Int)):FExp->List Int->List Int
 |.mk o _ t k,a=>Gk gm k (if o=5 then a.set (getM 0 t gm).toNat k.length else a)
def Gk(gm:List (Str×Int)):List FExp->List Int->List Int
 |[],a=>a
 |x::r,a=>Gk gm r (argE gm x a)
end
theorem Vb(gm:List (Str×Int))(e:FExp)(a:List Int):argE gm e a=Gk gm e.kids (if e.op=5 then a.set (getM 0 e.text gm).toNat e.kids.length else a):=by cases e;rw[argE];rfl
theorem AllX_eq(Q:FExp->Prop)(e:FExp):AllX Q e ↔ Q e/\Gl Q e.kids:=by cases e;rw[AllX];rfl
mutual
theorem Gf(gm:List (Str×Int)): ∀(e:FExp) (a:List Int),(argE gm e a).length=a.length
 |.mk o n t k,a=>by rw[argE,O9 gm k];split<;>simp
theorem O9(gm:List (Str×Int)): ∀(l:List FExp) (a:List Int),(Gk gm l a).length=a.length
 |[],a=>by rw[Gk]
 |x::r,a=>by rw[Gk,O9 gm r,Gf gm x]
end
def QA(gm:List (Str×Int))(N:Nat)(x:FExp):Prop:=x.op=5->0<=getM 0 x.text gm/\getM 0 x.text gm<N
theorem KY(gm:List (Str×Int))(N ia r ig i6:Nat): ∀(n:Nat) (e:FExp) (a:List Int) (V:Sig),e.wt<=n->n<=1073741824->AllX (QA gm N) e->a.length=N->N<=1073741824->
  V ia=some (.cells [.sref r 0 N N])->V r=some (.cells (a.map dI))->V ig=some (.map (eSN gm))->V i6=some (.cells [.func (.func 193) [] [.ptr ia 0,.cptr [.map ig] 0,.ptr i6 0]])->ia≠r->i6≠r->
  DCall prog 193 [.agg (Ah e),.ptr ia 0,.cptr [.map ig] 0,.ptr i6 0] V fun x S'=>x=.ret (.tup [])/\S'=V.set r (.cells ((argE gm e a).map dI)):=by
 intro n
 induction n with
 |zero =>
  intro e a V hx
  have:=e.wt_pos
  omega
 | succ n ih =>
  intro e a V hx hn hQ aB hN o1 o2 o3 o4 d1 d2
  obtain⟨w1,w2,aM⟩:=e.wt_le
  obtain⟨q1,q2⟩:=(AllX_eq _ _).1 hQ
  have d3:ig≠r:=Ac o3 o2 (by simp)
  refine en func193 ntmps193 ?_
  by_cases h5:e.op=5
  ·obtain⟨p1,p2⟩:=q1 h5
   obtain⟨p,hp⟩:∃p:Nat,getM 0 e.text gm=p:=⟨(getM 0 e.text gm).toNat,by omega⟩
   have aU:p<N:=by omega
   obtain⟨A,hA⟩:∃A,A=a.set p e.kids.length:=⟨_,rfl⟩
   have aL:A.length=N:=by rw[hA,List.length_set];exact aB
   have aJ:argE gm e a=Gk gm e.kids A:=by rw[Vb,if_pos h5,hA,hp];rfl
   have ar:Sub (V.set r (.cells (A.map dI))) (V.set r (.cells (List.take p (List.map dI a)++D.int IntKind.i64 e.kids.length::List.drop (p+1) (List.map dI a)))):=by
    rw[hA,List.map_set,List.set_eq_take_append_cons_drop,if_pos (by rw[List.length_map];omega)];exact Sub.refl _
   refine gf (gi o1 (gi o2 (gi o3 (gi o4 (gi h5 hp))))) ?_
   refine AA [3,20,21] (fun (k:Nat) (b:List Int)=>k<=e.kids.length/\b.length=N/\Gk gm e.kids A=Gk gm (e.kids.drop k) b/\Gl (QA gm N) (e.kids.drop k)) (fun k _=>[(22,dI k)]) (fun _ b=>V.set r (.cells (b.map dI))) (fun k _=>e.kids.length-k) (0) (A) (by exact⟨by omega,aL,rfl,q2⟩) (fun k b hI=>?_)
   obtain⟨hk,hb,hR,au⟩:=hI
   by_cases aa:k<e.kids.length
   ·rw[A0 aa,Gk]at hR
    rw[A0 aa,Gl]at au
    have u1:(V.set r (.cells (b.map dI))) ia=some (.cells [.sref r 0 N N]):=by rw[w8 _ _ d1];exact o1
    have u3:(V.set r (.cells (b.map dI))) ig=some (.map (eSN gm)):=by rw[w8 _ _ d3];exact o3
    have u4:(V.set r (.cells (b.map dI))) i6=some (.cells [.func (.func 193) [] [.ptr ia 0,.cptr [.map ig] 0,.ptr i6 0]]):=by rw[w8 _ _ d2];exact o4
    refine gf o4 ?_
    refine Ab (ih e.kids[k] b _ (by have:=aM k aa;omega) (by omega) au.1 hb hN u1 (w7 ..) u3 u4 d1 d2) (fun d S' hr=>?_) (fun d S' hr=>by cases hr.1)
    obtain⟨g1,rfl⟩:=hr
    cases g1
    refine gz ?_
    exact⟨k+1,argE gm e.kids[k] b,⟨by omega,by rw[Gf];exact hb,hR,au.2⟩,td1,wkR⟩
   ·rw[A1 aa,Gk]at hR
    refine gz ?_
    exact Eb (S':=V.set r (.cells ((argE gm e a).map dI))) ⟨rfl,rfl⟩ (by rw[aJ,hR];exact Sub.refl _)
  ·obtain⟨A,hA⟩:∃A,A=a:=⟨_,rfl⟩
   have aJ:argE gm e a=Gk gm e.kids A:=by rw[Vb,if_neg h5,hA]
   have aL:A.length=N:=by rw[hA];exact aB
   have ar:Sub (V.set r (.cells (A.map dI))) V:=by rw[hA,Sig.set_self _ o2];exact Sub.refl _
   refine gf (gi o1 (gi o2 (gi o3 (gi o4 h5)))) ?_
   refine AA [3,20,21] (fun (k:Nat) (b:List Int)=>k<=e.kids.length/\b.length=N/\Gk gm e.kids A=Gk gm (e.kids.drop k) b/\Gl (QA gm N) (e.kids.drop k)) (fun k _=>[(22,dI k)]) (fun _ b=>V.set r (.cells (b.map dI))) (fun k _=>e.kids.length-k) (0) (A) (by exact⟨by omega,aL,rfl,q2⟩) (fun k b hI=>?_)
   obtain⟨hk,hb,hR,au⟩:=hI
   by_cases aa:k<e.kids.length
   ·rw[A0 aa,Gk]at hR
    rw[A0 aa,Gl]at au
    have u1:(V.set r (.cells (b.map dI))) ia=some (.cells [.sref r 0 N N]):=by rw[w8 _ _ d1];exact o1
    have u3:(V.set r (.cells (b.map dI))) ig=some (.map (eSN gm)):=by rw[w8 _ _ d3];exact o3
    have u4:(V.set r (.cells (b.map dI))) i6=some (.cells [.func (.func 193) [] [.ptr ia 0,.cptr [.map ig] 0,.ptr i6 0]]):=by rw[w8 _ _ d2];exact o4
    refine gf o4 ?_
    refine Ab (ih e.kids[k] b _ (by have:=aM k aa;omega) (by omega) au.1 hb hN u1 (w7 ..) u3 u4 d1 d2) (fun d S' hr=>?_) (fun d S' hr=>by cases hr.1)
    obtain⟨g1,rfl⟩:=hr
    cases g1
    refine gz ?_
    exact⟨k+1,argE gm e.kids[k] b,⟨by omega,by rw[Gf];exact hb,hR,au.2⟩,td1,wkR⟩
   ·rw[A1 aa,Gk]at hR
    refine gz ?_
    exact Eb (S':=V.set r (.cells ((argE gm e a).map dI))) ⟨rfl,rfl⟩ (by rw[aJ,hR];exact Sub.refl _)
def argM(gm:List (Str×Int)):List FMeth->List Int->List Int
 |[],a=>a
 |m::r,a=>argM gm r (argE gm m.body (a.set (getM 0 m.name gm).toNat m.params.length))
def O8(gm:List (Str×Int))(f:FProg):List Int:=argE gm f.main (argM gm f.methods (List.replicate gm.length 0))
theorem Qa(gm:List (Str×Int)): ∀(l:List FMeth) (a:List Int),(argM gm l a).length=a.length
 |[],a=>rfl
 |m::r,a=>by rw[argM,Qa gm r,Gf,List.length_set]
theorem Rb(f:FProg)(gm:List (Str×Int))(ig:Nat)(V:Sig)(hw:f.wt<=1073741824)(hg:gm.length<=1073741824)(o3:V ig=some (.map (eSN gm)))
  (hM:∀m∈f.methods,(0<=getM 0 m.name gm/\getM 0 m.name gm<gm.length)/\AllX (QA gm gm.length) m.body) (hA:AllX (QA gm gm.length) f.main) :
  DCall prog 104 [.agg (B7 f),.map ig] V fun x S'=> ∃r,V r=none/\x=.ret (.sref r 0 gm.length gm.length)/\S'=V.set r (.cells ((O8 gm f).map dI)):=by
 obtain⟨p1,p2,p3,p4,p5⟩:=f.wt_le
 have bb:(eSN gm).length=gm.length:=by simp[eSN,eM]
 refine en func104 ntmps104 ?_
 refine gf (gi o3 bb) ?_ [] [5,6]
 refine Sy (k:=gm.length) (c:=gm.length) (z:=[dI 0]) (sz:=1) (fun r hr hm=>?_)
 have aW:mS V (some (r,gm.length,(List.replicate (gm.length-gm.length) [dI 0]).flatten)) (List.replicate gm.length [dI 0])=V.set r (.cells ((List.replicate gm.length (0:Int)).map dI)):=by
  have h1:(List.replicate gm.length [dI 0]).flatten=(List.replicate gm.length (0:Int)).map dI:=by
   rw[List.map_replicate]
   induction gm.length with
   |zero=>rfl
   |succ n ih=>rw[List.replicate_succ,List.flatten_cons,ih,List.replicate_succ];rfl
  simp only[mS,Nat.sub_self,List.replicate_zero,List.flatten_nil,List.append_nil,h1]
 rw[aW]
 generalize aQ:List.replicate gm.length (0:Int)=a0
 have aB:a0.length=gm.length:=by rw[<-aQ];simp
 refine newV (fun ia av=>?_)
 refine gz ?_ [] [5,6]
 refine newV (fun i6 ag=>?_)
 refine gz ?_ [] [5,6]
 have n1:ia≠r:=fun e=>by rw[e,w7]at av;cases av
 have n2:i6≠ia:=fun e=>by rw[e,w7]at ag;cases ag
 have n3:i6≠r:=fun e=>by rw[e,w8 _ _ (Ne.symm n1),w7]at ag;cases ag
 have n4:ig≠r:=fun e=>by rw[e,hr]at o3;cases o3
 have n5:ig≠ia:=fun e=>by rw[<-e,w8 _ _ n4,o3]at av;cases av
 have n6:ig≠i6:=fun e=>by rw[<-e,w8 _ _ n5,w8 _ _ n4,o3]at ag;cases ag
 generalize ax:((V.set r _).set ia _).set i6 _=S1
 have q1:S1 ia=some (.cells [.sref r 0 gm.length gm.length]):=by rw[<-ax,w8 _ _ (Ne.symm n2),w7]
 have q2:S1 r=some (.cells (a0.map dI)):=by rw[<-ax,w8 _ _ (Ne.symm n3),w8 _ _ (Ne.symm n1),w7]
 have q3:S1 ig=some (.map (eSN gm)):=by rw[<-ax,w8 _ _ n6,w8 _ _ n5,w8 _ _ n4];exact o3
 have q4:S1 i6=some (.cells [.func (.func 193) [] [.ptr ia 0,.cptr [.map ig] 0,.ptr i6 0]]):=by rw[<-ax,w7]
 have aK:∀b:List Int,Sub (V.set r (.cells (b.map dI))) (S1.set r (.cells (b.map dI))):=fun b j x hj=>by
  by_cases e:j=r
  ·rw[e,w7]at hj⊢; exact hj
  ·rw[w8 _ _ e]at hj⊢
   have z1:j≠ia:=fun e2=>by rw[<-e2,w8 _ _ e,hj]at av;cases av
   have z2:j≠i6:=fun e2=>by rw[<-e2,w8 _ _ z1,w8 _ _ e,hj]at ag;cases ag
   rw[<-ax,w8 _ _ z2,w8 _ _ z1,w8 _ _ e];exact hj
 have aO:Sub (S1.set r (.cells (a0.map dI))) S1:=by rw[Sig.set_self _ q2];exact Sub.refl _
 have u1:∀X,(S1.set r X) ia=some (.cells [.sref r 0 gm.length gm.length]):=fun X=>by rw[w8 _ _ n1];exact q1
 have u3:∀X,(S1.set r X) ig=some (.map (eSN gm)):=fun X=>by rw[w8 _ _ n4];exact q3
 have u4:∀X,(S1.set r X) i6=some (.cells [.func (.func 193) [] [.ptr ia 0,.cptr [.map ig] 0,.ptr i6 0]]):=fun X=>by rw[w8 _ _ n3];exact q4
 refine AA [2,3,4,5,6,14,15,34,35,36,37,38] (fun (k:Nat) (b:List Int)=>k<=f.methods.length/\b.length=gm.length/\argM gm f.methods a0=argM gm (f.methods.drop k) b) (fun k _=>[(16,dI k)]) (fun _ b=>S1.set r (.cells (b.map dI))) (fun k _=>f.methods.length-k) (0) (a0) (by exact⟨by omega,aB,rfl⟩) (fun k b hI=>?_)
 obtain⟨hk,hb,hR⟩:=hI
 by_cases aa:k<f.methods.length
 ·rw[A0 aa,argM]at hR
  obtain⟨⟨g1,g2⟩,g3⟩:=hM _ (List.getElem_mem aa)
  obtain⟨p,hp⟩:∃p:Nat,getM 0 f.methods[k].name gm=p:=⟨(getM 0 f.methods[k].name gm).toNat,by omega⟩
  have aU:p<gm.length:=by omega
  have aR:=p5 k aa
  have aS:f.methods[k].body.wt<=1073741824/\f.methods[k].params.length<=1073741824:=by have:=aR;unfold FMeth.wt at this;have:=Bu f.methods[k].params;omega
  have bc:(List.take p (List.map dI b)++D.int IntKind.i64 f.methods[k].params.length::List.drop (p+1) (List.map dI b))=(b.set p f.methods[k].params.length).map dI:=by
   rw[List.map_set,List.set_eq_take_append_cons_drop,if_pos (by rw[List.length_map];omega)]
  rw[hp]at hR
  refine gf (gi q1 (gi q3 (gi q4 (gi hp bc)))) ?_ [] [5,6]
  refine Ab (KY gm gm.length ia r ig i6 _ f.methods[k].body (b.set p f.methods[k].params.length) _ (Nat.le_refl _) aS.1 g3 (by rw[List.length_set];exact hb) hg (u1 _) (by rw[w7,List.map_set]) (u3 _) (u4 _) n1 n3) (fun d S' hr=>?_) (fun d S' hr=>by cases hr.1)
  obtain⟨e1,rfl⟩:=hr
  cases e1
  refine gz ?_ [] [5,6]
  exact⟨k+1,argE gm f.methods[k].body (b.set p f.methods[k].params.length),⟨by omega,by rw[Gf,List.length_set];exact hb,hR⟩,td1,wkR⟩
 ·rw[A1 aa,argM]at hR
  refine gf (gi q1 q4) ?_ [] [5,6]
  refine Ab (KY gm gm.length ia r ig i6 _ f.main b _ (Nat.le_refl _) (by omega) hA hb hg (u1 _) (w7 ..) (u3 _) (u4 _) n1 n3) (fun d S' hr=>?_) (fun d S' hr=>by cases hr.1)
  obtain⟨e1,rfl⟩:=hr
  cases e1
  refine gf q1 ?_ [] [5,6]
  refine fin1 (S':=V.set r (.cells ((O8 gm f).map dI))) ⟨r,hr,rfl,rfl⟩ ?_
  rw[w9]
  unfold O8
  rw[aQ,hR]
  exact aK _
end Go.DL
