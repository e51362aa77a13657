/- A part of the proof. -/
import Derived.Test.YteldimffglchkaaGreatDoorN08
import Derived.Test.YteldimffglchkaaGreatDoorN07
import Derived.Test.YteldimffglchkaaGreatDoorN02
import Derived.Test.YteldimffglchkaaGreatDoorProg
import Derived.KernelRfl
import Derived.Test.YteldimffglchkaaGreatDoorN04
import Derived.Test.YteldimffglchkaaGreatDoorN06
import Derived.Shelf.Slices.In.SortAlone
import Derived.Shelf.Slices.In.SortNone
set_option linter.all false
namespace Go.DL
open Go.Proofs.Tryz
open Go
section
variable (P:Program)(ro:Ro)(n:Nat)(ops:Array Oper)(N:Nat)(Q:DX->St->Prop)(df:List DDf)
def MOpsI (E C K:List Nat):List Nat->(Sig->Prop)->Fr->Sig->Prop
  |[],_,γ,O=>DOps P ro n ops Q [] ⟨γ,O,df⟩
  | i::r,B,γ,O => ∃ o,ops[i]? = some o /\
    ((∃ d,(∀ s,(C.contains i=true->B s)->Calm P n ops N s γ o d)/\MOpsI E C K r B (putD o.dst d γ) O) \/
     (E.contains i=true/\Eff P ro n ops df γ O o (fun d U'=> ∃B1:Sig->Prop,B1 U'/\(K.contains i=false->B1=B)/\MOpsI E C K r B1 (putD o.dst d γ) U') (fun d U'=> ∀V',Q (.panic d) ⟨V',U',df⟩)))
def MOI:List (Bool × Bool × Bool × Oper)->(Sig->Prop)->Fr->Sig->Prop
  |[],_,γ,O=>DOps P ro n ops Q [] ⟨γ,O,df⟩
  | (e,c,k,o)::r,B,γ,O =>
    (∃ d,(∀ s,(c=true->B s)->Calm P n ops N s γ o d)/\MOI r B (putD o.dst d γ) O) \/
     (e=true/\Eff P ro n ops df γ O o (fun d U'=> ∃B1:Sig->Prop,B1 U'/\(k=false->B1=B)/\MOI r B1 (putD o.dst d γ) U') (fun d U'=> ∀V',Q (.panic d) ⟨V',U',df⟩))
end
section
variable {P:Program}{ro:Ro}{n:Nat}{ops:Array Oper}{N:Nat}{B:Sig->Prop}{Q:DX->St->Prop}{df:List DDf}{E C K:List Nat}{tab:Nat->Ty}
theorem MOpsI.alike: ∀(l:List Nat) {B:Sig->Prop}{γ V':Fr}{O:Sig},Alike γ V'->MOpsI P ro n ops N Q df E C K l B γ O->MOpsI P ro n ops N Q df E C K l B V' O
 |[],_,_,_,_,h,k=>C4 h k
 |i::r,_,_,_,_,h,⟨o,ho,k⟩=>⟨o,ho,(match k with
  |.inl ⟨d,h2,h3⟩=>.inl ⟨d,fun s hs=>(h2 s hs).congr fun t _=>h t,MOpsI.alike r (h.put _ _) h3⟩
  |.inr ⟨h1,h2⟩=>.inr ⟨h1,h2.congr (fun t _=>h t) fun d U' ⟨U1,h3,h5,h4⟩=>⟨U1,h3,h5,MOpsI.alike r (h.put _ _) h4⟩⟩)⟩
theorem Ic{i:Nat}{oi:Oper}(hi:ops[i]? = some oi)(post:List Nat): ∀(pre:List Nat) (γ:Fr) (O:Sig),
  (∀x∈pre,E.contains x=false/\(K.contains i&&C.contains x)=false /\ ∃ox,ops[x]? = some ox/\oi.apart ops ox=true)->MOpsI P ro n ops N Q df E C K (pre++i::post) B γ O->MOpsI P ro n ops N Q df E C K (i::(pre++post)) B γ O
 |[],_,_,_,h=>h
 | x::pre,γ,O,hp,h=>by
  obtain⟨be,aX,ox,aM,bD⟩:=hp x (by simp)
  obtain⟨a1,a2,a3⟩:=Oper.apart_spec bD
  obtain⟨ox',aC,hx⟩:=h
  obtain rfl:ox'=ox:=by rw[aM]at aC;cases aC;rfl
  rcases hx with⟨d,hy,h⟩|⟨hE,_⟩
  ·obtain⟨oi',aD,hh⟩:=Ic hi post pre _ O (fun y hy=>hp y (by simp[hy])) h
   obtain rfl:oi'=oi:=by rw[hi]at aD;cases aD;rfl
   refine⟨oi',hi,?_⟩
   rcases hh with⟨e,h2,h3⟩|⟨h1,h2⟩
   ·refine .inl ⟨e,fun s hs=>(h2 s hs).congr fun t ht=>AC fun hd=>a3 t hd ht,ox',aM,.inl ⟨d,fun s hs=>(hy s hs).congr fun t ht=>(AC fun hd=>a1 t hd ht).symm,?_⟩⟩
    exact MOpsI.alike _ (Bq _ _ _ fun t p q=>a2 t p q) h3
   ·refine .inr ⟨h1,h2.congr (fun t ht=>AC fun hd=>a3 t hd ht) fun e U' ⟨U1,h3,h5,h4⟩=>⟨U1,h3,h5,ox',aM,.inl ⟨d,?_,MOpsI.alike _ (Bq _ _ _ fun t p q=>a2 t p q) h4⟩⟩⟩
    have aU:∀s,(C.contains x=true->B s)->Calm P n ops N s (putD oi'.dst e γ) ox' d:=fun s hs=>(hy s hs).congr fun t ht=>(AC fun hd=>a1 t hd ht).symm
    cases hk:K.contains i with
    |false=>rw[h5 hk];exact aU
    |true=>
     rw[hk,Bool.true_and]at aX
     exact fun s _=>aU s fun hc=>by rw[aX]at hc;cases hc
  ·rw[be]at hE;cases hE
theorem QD(hN:P.funcs.size=N){ord:List Nat}(hB:D5 ops E C K ord=true){g0:G}{rr:Rx}(hr:RoRep g0 ro rr): ∀(m:Nat) (r:List Nat) (listed:Array Bool) (B:Sig->Prop) (γ:Fr) (O:Sig),r.length=m->listed.size=ops.size->
  r=ord.filter (fun i=> !listed.getD i true)->Closed ops listed->MOpsI P ro n ops N Q df E C K r B γ O->B O->
   ∀(g:G) (w:World) (a:Act),g0.le g->SimS P g n ⟨γ,O,df⟩ a w->wpAnyIn (FX P rr) 0 P .any ops (Post P g0 n Q) m listed a w:=by
 unfold D5 at hB
 simp only[Bool.and_eq_true]at hB
 obtain⟨⟨ae,aS⟩,_⟩:=hB
 have aE:∀(r:List Nat) (listed:Array Bool),r=ord.filter (fun i=> !listed.getD i true)->∀i∈Region.ready .any ops listed,i∈r:=by
  intro r listed hf i hi
  obtain⟨h1,o,ho,_⟩:=mem_ready.1 hi
  have:=List.all_eq_true.1 aS i (by simpa using(Array.getElem?_eq_some_iff.1 ho).1)
  rw[hf,List.mem_filter]
  exact⟨by simpa using this,by rw[h1];rfl⟩
 intro m
 induction m with
 |zero=>
  intro r listed B γ O hl hsz hf ax h hC g w a hg hs
  obtain rfl:r=[]:=List.length_eq_zero_iff.1 hl
  refine⟨List.eq_nil_iff_forall_not_mem.2 fun i hi=>?_,?_⟩
  ·have:=aE [] listed hf i hi;cases this
  ·exact Post.le hg (h g w a rr (hr.mono hg) hs)
 | succ m ih =>
  intro r listed B γ O hl hsz hf ax h hC g w a hg hs
  obtain⟨y,t,rfl⟩:∃y t,r=y::t:=by cases r with|nil=>cases hl|cons y t=>exact⟨y,t,rfl⟩
  refine⟨fun he=>?_,fun i hi=>?_⟩
  ·exfalso
   obtain⟨l1,l2,ar,br,hy,bF⟩:=List.filter_eq_cons_iff.1 hf.symm
   subst ar
   obtain⟨h1,_,_,o,ho,ba,_⟩:=Db l1 [] ae
   have:y∈Region.ready .any ops listed:=by
    refine mem_ready.2 ⟨by simpa using hy,o,ho,fun e hm hb=>?_⟩
    rcases ba e hm hb with h4|h4
    ·have h5:=br _ h4
     simp only[Bool.not_eq_true,Bool.not_eq_false']at h5
     have ak:e.on<listed.size:=by
      have:e.on∈l1++y::l2:=by simp[h4]
      obtain⟨p1,p2,hp⟩:=List.append_of_mem this
      rw[hp]at ae
      obtain⟨_,_,_,o',aw,_⟩:=Db p1 [] ae
      rw[hsz];exact(Array.getElem?_eq_some_iff.1 aw).1
     simpa[ak] using h5
    ·cases h4
   rw[he]at this;cases this
  ·obtain⟨pre,post,ap⟩:=List.append_of_mem (aE _ listed hf i hi)
   rw[ap]at hf h hl
   obtain⟨l1',l2',ar,aR,bA⟩:=List.filter_eq_append_iff.1 hf.symm
   obtain⟨m1,m2,aN,bp,bG,bz⟩:=List.filter_eq_cons_iff.1 bA
   have ai:ord=(l1'++m1)++i::m2:=by rw[ar,aN];simp
   rw[ai]at ae
   obtain⟨n1,_,n3,o,ho,ba,hx⟩:=Db (l1'++m1) [] ae
   obtain⟨bu,o',aw,aG⟩:=mem_ready.1 hi
   obtain rfl:o'=o:=by rw[ho]at aw;cases aw;rfl
   have au:=Ic ho post pre γ O (fun x aW=>by
    have bf:x∈l1'++m1:=by
     have:x∈l1'.filter (fun i=> !listed.getD i true):=by rw[aR];exact aW
     simp[(List.mem_filter.1 this).1]
    have aV:listed.getD x true=false:=by
     have:x∈l1'.filter (fun i=> !listed.getD i true):=by rw[aR];exact aW
     simpa using(List.mem_filter.1 this).2
    rcases hx x bf with h4|h4
    ·exfalso
     have:=CG ax ops.size i x o' ho aG h4
     rcases Nat.lt_or_ge x listed.size with ak|ak
     ·simp[ak]at this aV;rw[aV]at this;cases this
     ·simp[Array.getElem?_eq_none ak]at this
    ·exact h4) h
   have aj:pre++post=ord.filter (fun j=> !(listed.setIfInBounds i true).getD j true):=by
    have bw:i<listed.size:=by
     rw[hsz];exact(Array.getElem?_eq_some_iff.1 ho).1
    rw[ai,List.filter_append,List.filter_cons]
    have e1:(listed.setIfInBounds i true).getD i true=true:=by simp[bw]
    rw[e1,AK n1,AK n3]
    simp only[Bool.not_true,Bool.false_eq_true,if_false,List.filter_append,aR,bz]
    rw[List.filter_eq_nil_iff.2 (fun x hx=>by simpa using bp x hx),List.append_nil]
   have hlen:(pre++post).length=m:=by simp at hl⊢; omega
   obtain⟨o2,aZ,hh⟩:=au
   obtain rfl:o2=o':=by rw[ho]at aZ;cases aZ;rfl
   unfold wpOpIn
   simp only[ho]
   rcases hh with⟨d,hy,hM⟩|⟨_,hE⟩
   ·exact F6 hN (hr.mono hg) hg hs (Sub.refl _) (hy _ fun _=>hC) fun g' w' a' aQ ay=>ih _ _ _ _ _ hlen (by simpa using hsz) aj (ax.set hi) hM hC g' w' a' (hg.trans aQ) ay
   ·exact CU (hr.mono hg) hg hs hE (fun g' w' a' d U' aQ hR ay=>by obtain⟨B1,h3,_,h4⟩:=hR;exact ih _ _ _ _ _ hlen (by simpa using hsz) aj (ax.set hi) h4 h3 g' w' a' (hg.trans aQ) ay) fun d U' hp=>hp
theorem EM{lo:List Oper}: ∀{ord:List Nat}{lp:List (Bool×Bool×Bool×Oper)}{B:Sig->Prop}{γ:Fr}{O:Sig},KA lo E C K ord=some lp->MOI P ro n lo.toArray N Q df lp B γ O->MOpsI P ro n lo.toArray N Q df E C K ord B γ O
 |[],_,_,_,_,hp,h=>by cases hp;exact h
 |i::r,lp,B,γ,O,hp,h=>by
  simp only[KA]at hp
  split at hp<;>(try (cases hp;done))
  rename_i o ho
  split at hp<;>(try (cases hp;done))
  rename_i l hl
  cases hp
  refine⟨o,by rw[GV]at ho;simpa using ho,?_⟩
  rcases h with⟨d,h2,h3⟩|⟨h1,h2⟩
  ·exact .inl ⟨d,h2,EM hl h3⟩
  ·exact .inr ⟨h1,h2.congr (fun _ _=>rfl) fun d U' ⟨U1,h3,h5,h4⟩=>⟨U1,h3,h5,EM hl h4⟩⟩
theorem Vc(hN:P.funcs.size=N)(hm:P.follows .mixedOrders=true){l:List Oper}{id:Nat}{γ:Fr}{O:Sig}(ord E C K:List Nat)(B:Sig->Prop)(hB:D5 l.toArray E C K ord=true)(hC:B O)
  {lp:List (Bool×Bool×Bool×Oper)} (bq:KA l E C K ord=some lp) (h0:MOI P ro n l.toArray N Q df lp B γ O):DWp P ro n (.region id l.toArray true) Q ⟨γ,O,df⟩:=by
 intro g w a r hr hs
 refine wpIn_region_any hm ?_
 have ax:Closed l.toArray (Array.replicate l.toArray.size false):=by
  intro q o _ hq
  rcases Nat.lt_or_ge q l.length with h'|h'
  ·simp[h']at hq
  ·simp[h']at hq
 have ay:SimS P g n ⟨γ,O,df⟩ a { w with drawn:=w.drawn+1 }:=
  ⟨⟨fun b o v h=>hs.sim.imm b o v h,hs.sim.keep,fun i o h=>by
   have:=hs.sim.obj i o h
   cases o<;>exact this,hs.sim.inj,hs.sim.free,hs.sim.htop,hs.sim.hdom,hs.sim.fin,hs.sim.io,hs.sim.tab⟩,hs.tmps,hs.df⟩
 have ak:∀i∈ord,i<l.toArray.size:=by
  intro i hi
  obtain⟨p1,p2,hp⟩:=List.append_of_mem hi
  have am:=hB
  unfold D5 at am
  simp only[Bool.and_eq_true]at am
  rw[hp]at am
  obtain⟨_,_,_,o',aw,_⟩:=Db p1 [] am.1.1
  exact(Array.getElem?_eq_some_iff.1 aw).1
 have hlen:ord.length=l.toArray.size:=by
  have am:=hB
  unfold D5 at am
  simp only[Bool.and_eq_true,beq_iff_eq]at am
  exact am.2
 have:=QD hN hB hr ord.length ord (Array.replicate l.toArray.size false) B γ O rfl (by simp) (Do ak).symm ax (EM bq h0) hC g _ a (.refl g) ay
 rw[hlen]at this
 exact this
theorem NY(ht:AZ P tab){e c k:Bool}{t:Nat}{op:Op}{ty:TypeId}{pos:String}{after:Array Edge}{d:D}{l:List (Bool×Bool×Bool×Oper)}{γ Sr:Fr}{O:Sig}(hr:Dl op=true)(aJ:decide (t<n)=true)(hl:A0 γ (A5 op.operands.toList)=some Sr)(hd:∀s,(c=true->B s)->dopX tab Sr s op=some d)
  (h:MOI P ro n ops N Q df l B ((t,d)::γ) O):MOI P ro n ops N Q df ((e,c,k,⟨some t,op,ty,pos,after,none⟩)::l) B γ O:=by
 refine .inl ⟨d,fun s hs=>?_,h⟩
 have bc:=(BC (Cj hl)) ▸ hd s hs
 refine⟨aJ,.inl ⟨by rw[Af];rfl,C9 hr,J9 ht bc,fun U' hU g w a hs hT=>?_⟩⟩
 refine F3 ht hs hT (?_:dopX tab (only _ γ) U' op=some d)
 rw[BC (V':=γ) fun x hx=>Bl (o:=⟨some t,op,ty,pos,after,none⟩) hx]
 exact F4 hU bc
theorem QM(ht:AZ P tab){c k:Bool}{o:Oper}{d:D}{U':Sig}{l:List (Bool×Bool×Bool×Oper)}{γ:Fr}{O:Sig}(B1:Sig->Prop)(ho:Ar n o=true)(hw:Ay ops γ o=some true)(he:eopD tab γ O o.op=some (d,U'))(hC:B1 U')(hk:k=false->B1=B)
  (h:MOI P ro n ops N Q df l B1 (putD o.dst d γ) U'):MOI P ro n ops N Q df ((true,c,k,o)::l) B γ O:=by
 refine .inr ⟨rfl,ho,by rw[Af];exact hw,?_⟩
 refine Fk ht (by rw[Af];exact hw) (by rw[Bp (V':=γ) fun x hx=>Bl hx];exact he) ho (Au ⟨rfl,?_⟩)
 cases hd:o.dst with
 |none=>rw[hd]at h;exact⟨B1,hC,hk,h⟩
 |some t=>
  rw[hd]at h
  simp only[putD,A4,if_true]
  exact⟨B1,hC,hk,h⟩
theorem moI_1{c k:Bool}{t:Nat}{op:Op}{ty:TypeId}{pos:String}{after:Array Edge}{l:List (Bool×Bool×Bool×Oper)}{γ:Fr}{O:Sig}(B1:Sig->Prop)(hk:k=false->B1=B)(h:∀V2,(∀x∈op.operands,ev V2 x=ev γ x)->DOps P ro n ops (EQ df (some t) (fun d U'=>B1 U'/\MOI P ro n ops N Q df l B1 ((t,d)::γ) U') (fun d U'=> ∀V',Q (.panic d) ⟨V',U',df⟩)) [⟨some t,op,ty,pos,after,none⟩] ⟨V2,O,df⟩)(aJ:decide (t<n)=true)(hw:Ay ops (only (Oper.looksAt ops ⟨some t,op,ty,pos,after,none⟩) γ) ⟨some t,op,ty,pos,after,none⟩=some true):MOI P ro n ops N Q df ((true,c,k,⟨some t,op,ty,pos,after,none⟩)::l) B γ O:=
 .inr ⟨rfl,aJ,hw,Mq (h _ fun x hx=>Bl (o:=⟨some t,op,ty,pos,after,none⟩) hx) fun x s hq=>by
  cases x with
  |normal=>exact⟨hq.1,⟨B1,hq.2.1,hk,hq.2.2⟩⟩
  |panic d=>exact hq
  |_=>exact hq⟩
end
theorem PL{P:Program}(r:Rx){m m':Machine}{e:Ending}(h:ComesIn (Machine.fenced P (FX P {})) P m m' e):ComesIn (Machine.fenced P (FX P r)) P m m' e:=by
 have key:∀m m',StepsIn (Machine.fenced P (FX P {})) P m m'->StepsIn (Machine.fenced P (FX P r)) P m m':=fun m m' hs=>by
  refine StepsIn.mono (fun m hm g hg=>?_) hs
  obtain⟨a1,a2,a3,a4⟩:=hm g hg
  exact⟨(fun e=>by cases e),a2.imp (fun h _=>h rfl) id,fun f hf _=>a3 f hf rfl,Ef P r _⟩
 cases e with
 |returned v=>exact key _ _ h
 |panicked c=>exact key _ _ h
 |outgrown=>exact h
theorem NA{P:Program}{n f:Nat}{args:Array Value}{u:FrameMode}{w:World}{R:Ending->FrameMode->World->Prop}(r:Rx)(h:CallsDIn (FX P {}) n P f args u w R):CallsDIn (FX P r) n P f args u w R:=by
 refine⟨fun _=>h.1 rfl,fun c cs hc _=>?_⟩
 obtain⟨e,u',w',fr,h1,h2,h3⟩:=h.2 c cs hc (Ef P _ _)
 exact⟨e,u',w',fr,h1,PL r h2,h3⟩
theorem Jk{P:Program}{f fd:Nat}{fn:Func}{c:Code}{args:List D}{O:Sig}{R:DE->Sig->Prop}(hf:P.funcs[f]? = some fn)(hb:fn.body=some c)(bx:MJ P fd)(ah:fd<P.funcs.size)
  (bn : (fn.name == "runtime.NumGoroutine") = false) {m : Nat} (hm : fn.ntmps = m) (hn : args.length <= m) (h : DWp P .wide m c (fun x s => ∃ s', Wk P m s s' /\ BodyD P m fn fd (Weak R) x s') { γ := Bo 0 args, O }) : BL P f args O R := by
 refine IR ⟨(Array.getElem?_eq_some_iff.1 hf).1,AI hf bn (by rw[hb];rfl),fun g w vs r bk hs ha=>?_⟩
 obtain rfl:r=_:=bk
 refine callsIn_of_wp_defers hf hb (by obtain⟨h1,_⟩:=Array.getElem?_eq_some_iff.1 hf;exact EA h1 _) ?_ rfl
 subst hm
 refine wpIn_mono (h g w _ _ rfl ⟨hs,De ha hn,rfl⟩) ?_
 rintro e a w' ⟨g',s1,x,h1,h2,h3,s2,bh,h4⟩
 obtain⟨g2,aF,aT⟩:=bh _ _ _ h2
 have bE:=h1.trans aF
 have key:∀(u:FrameMode) (pan:Option D) (cap:List D) (U':Sig) (d:D),u≠.run->(match pan with|none=>u=.returning|some d=> ∃v,u=.panicking [{ v,recovered:=false }]/\Rep g2 d v)->
   s2.df=[.fn fd [] cap]->Jq P fd cap s2.O pan U'->L8 P fn.ntmps fn ⟨s2.γ,U',[]⟩ d->Weak R (.ret d) U'->LeavesIn (FX P { wide:=true }) 0 P fn a.tmps (Jr P g (Weak R)) a.defers u w':=by
  intro u pan cap U' d hu hp e1 e2 e3 e4
  have bb:=aT.df
  rw[e1]at bb
  obtain⟨az,cs,rest,hd,ra,rc,aA⟩:=bb
  obtain rfl:az=[]:=ra
  obtain rfl:rest=[]:=aA
  rw[hd]
  refine leavesIn_cons hu (fun h=>by cases h) (f:=fd) (args:=cs.toArray) ?_ ?_ ?_
  ·simp only[invoke]
   have:=bx (#[]++cs.toArray) w'
   simpa using this
  ·intro g hg
   simp only[Target.leads,Option.some.injEq]at hg
   subst hg;exact(EA ah _)
  ·refine(NA _ (e2 g2 w' cs u aT.sim rc hp)).mono ?_
   rintro e u' w3 ⟨⟨v,rfl⟩,ag,g3,l3,aY⟩
   simp only[ag]
   obtain⟨v,hv,aq⟩:=e3 g3 { a with defers:=[] } w3 ⟨aY,aT.tmps.mono l3,rfl⟩
   exact⟨v,hv,g3,.ret d,U',bE.trans l3,aY,⟨v,rfl,aq⟩,e4⟩
 cases x with
 |normal=>
  obtain rfl:=h3
  obtain⟨cap,U',d,e1,e2,e3,e4⟩:=h4
  exact key .returning none cap U' d (by simp) rfl e1 e2 e3 e4
 |ret=>
  obtain rfl:=h3
  obtain⟨cap,U',d,e1,e2,e3,e4⟩:=h4
  exact key .returning none cap U' d (by simp) rfl e1 e2 e3 e4
 |panic p=>
  obtain⟨v,rfl,aq⟩:=h3
  obtain⟨cap,U',d,e1,e2,e3,e4⟩:=h4
  exact key _ (some p) cap U' d (by simp) ⟨v,rfl,Rep.mono aF _ aq⟩ e1 e2 e3 e4
 |exit i=>exact h4.elim
section
variable {P:Program}{n:Nat}{ops:Array Oper}{Q:DX->St->Prop}{rest:List Oper}{γ:List (Nat×D)}{O:Sig}{df:List DDf}
theorem Nt{fop:Operand}{args:Array Operand}{ats:Array TypeId}{dst:Option Tmp}{ty:TypeId}{pos:String}{after:Array Edge}{f:Nat}{first cap:List D}(ak:f<P.funcs.size)
  (hf:ev γ fop=.func (.func f) first cap) (ho:Ar n ⟨dst,.defer { callee:=.value fop,args,argTypes:=ats },ty,pos,after,none⟩=true)
  (h:DOps P .wide n ops Q rest ⟨putD dst .any γ,O,.fn f (first++args.toList.map (ev γ)) cap::df⟩) :
  DOps P .wide n ops Q (⟨dst,.defer { callee:=.value fop,args,argTypes:=ats },ty,pos,after,none⟩::rest) ⟨γ,O,df⟩:=by
 intro g w a r hr hs
 obtain rfl:r={ wide:=true }:=hr
 unfold wpListIn
 rw[AH (o:=⟨dst,.defer { callee:=.value fop,args,argTypes:=ats },ty,pos,after,none⟩) (b:=true) hs.tmps rfl,if_pos rfl]
 have aI:=Ah hs.tmps fop
 rw[show ev (St.mk γ O df).γ fop=.func (.func f) first cap from hf]at aI
 obtain⟨fs,cs,aI,bm,bl⟩:=aI
 have aL:(resolve a.eval { callee:=.value fop,args,argTypes:=ats } ty).run P w=.ok { target:=.fn (.func f) cs.toArray,args:=fs.toArray++args.map a.eval } w:=by
  simp[resolve,aI,Deferred.ofValue,Sem.run]
 refine⟨fun f' bB=>(Aa (fun c e=>by cases e) _ _ _ bB).elim,?_⟩
 have aK:(Oper.semAt (FX P { wide:=true }).round a.eval ⟨dst,.defer { callee:=.value fop,args,argTypes:=ats },ty,pos,after,none⟩).run P w=.ok (.defer { target:=.fn (.func f) cs.toArray,args:=fs.toArray++args.map a.eval }) w:=by
  simp only[FX,Oper.semAt,execOp,Sem.run_bind,aL,Result.andThen_ok,Sem.run_pure]
 rw[aK]
 have aB:=hs.put (d:=.any) (v:=undef) (U':=O) (w':=w) (.refl g) hs.sim trivial ho
 refine h g w _ _ rfl ⟨aB.sim,?_,?_⟩
 ·have e:({ a with defers:={ target:=.fn (.func f) cs.toArray,args:=fs.toArray++args.map a.eval }::a.defers }:Act).put dst undef={ (a.put dst undef)with defers:={ target:=.fn (.func f) cs.toArray,args:=fs.toArray++args.map a.eval }::a.defers }:=by cases dst<;>rfl
  show RepT g _ n (({ a with defers:={ target:=.fn (.func f) cs.toArray,args:=fs.toArray++args.map a.eval }::a.defers }:Act).put dst undef).tmps
  rw[e];exact aB.tmps
 ·have e:(({ a with defers:={ target:=.fn (.func f) cs.toArray,args:=fs.toArray++args.map a.eval }::a.defers }:Act).put dst undef).defers={ target:=.fn (.func f) cs.toArray,args:=fs.toArray++args.map a.eval }::a.defers:=by cases dst<;>rfl
  show RepDf g _ (({ a with defers:={ target:=.fn (.func f) cs.toArray,args:=fs.toArray++args.map a.eval }::a.defers }:Act).put dst undef).defers
  rw[e]
  exact⟨fs++args.toList.map a.eval,cs,a.defers,by simp,bm.append (CR hs.tmps _),bl,hs.df⟩
end
end Go.DL
namespace Go.DL
open Go.Proofs.Tryz
open Go Go.Proofs
@[simp] abbrev sT(n:Nat):Ty:=⟨.slice n,false,1,24,[.nils]⟩
@[simp] abbrev pT(n:Nat):Ty:=⟨.ptr n,false,1,8,[.nilp]⟩
@[simp] abbrev iT:Ty:=⟨.int .i64,false,1,8,[.int .i64 0]⟩
@[simp] abbrev fT:Ty:=⟨.func,false,1,8,[.nilf]⟩
def tyRows:List (Nat×Ty):=[
 (1,fT),
 (2,iT),
 (3,iT),
 (4,⟨.bool,false,1,1,[.bool false]⟩),
 (5,⟨.int .u8,false,1,1,[.int .u8 0]⟩),
 (6,⟨.int .u8,false,1,1,[.int .u8 0]⟩),
 (7,⟨.struct [(0,2),(1,3),(2,4),(3,6)],true,4,24,[.int .i64 0,.int .i64 0,.bool false,.int .u8 0]⟩),
 (8,⟨.struct [(0,2),(1,3),(2,4),(3,6)],true,4,24,[.int .i64 0,.int .i64 0,.bool false,.int .u8 0]⟩),
 (9,⟨.str,false,1,16,[.str []]⟩),
 (10,⟨.str,false,1,16,[.str []]⟩),
 (11,⟨.str,false,1,16,[.str []]⟩),
 (12,⟨.int .u64,false,1,8,[.int .u64 0]⟩),
 (13,⟨.struct [(0,9),(1,12)],true,2,24,[.str [],.int .u64 0]⟩),
 (14,⟨.struct [(0,9),(1,12)],true,2,24,[.str [],.int .u64 0]⟩),
 (15,pT 464),
 (16,pT 467),
 (17,pT 474),
 (18,⟨.struct [(0,17)],true,1,8,[.nilp]⟩),
 (19,⟨.struct [(0,17)],true,1,8,[.nilp]⟩),
 (20,⟨.iface,false,1,16,[.niliface]⟩),
 (21,⟨.int .i32,false,1,4,[.int .i32 0]⟩),
 (22,sT 208),
 (23,sT 3),
 (24,sT 64),
 (25,sT 211),
 (26,⟨.struct [(0,22),(1,3),(2,23),(3,24),(4,25),(5,3)],true,6,112,[.nils,.int .i64 0,.nils,.nils,.nils,.int .i64 0]⟩),
 (27,⟨.struct [(0,22),(1,3),(2,23),(3,24),(4,25),(5,3)],true,6,112,[.nils,.int .i64 0,.nils,.nils,.nils,.int .i64 0]⟩),
 (28,sT 87),
 (30,⟨.struct [(0,28),(1,23),(2,3)],true,3,56,[.nils,.nils,.int .i64 0]⟩),
 (31,sT 131),
 (32,sT 40),
 (33,⟨.struct [(0,3),(1,32),(2,32)],true,3,56,[.int .i64 0,.nils,.nils]⟩),
 (34,⟨.struct [(0,3),(1,32),(2,32)],true,3,56,[.int .i64 0,.nils,.nils]⟩),
 (35,⟨.struct [(0,31),(1,34)],true,4,80,[.nils,.int .i64 0,.nils,.nils]⟩),
 (36,⟨.struct [(0,31),(1,34)],true,4,80,[.nils,.int .i64 0,.nils,.nils]⟩),
 (37,iT),
 (38,iT),
 (39,⟨.struct [(0,38),(1,3)],true,2,16,[.int .i64 0,.int .i64 0]⟩),
 (40,⟨.struct [(0,38),(1,3)],true,2,16,[.int .i64 0,.int .i64 0]⟩),
 (41,iT),
 (42,sT 203),
 (44,⟨.struct [(0,37),(1,40),(3,3),(4,32),(5,41),(6,34),(9,31),(10,42)],true,11,168,[.int .i64 0,.int .i64 0,.int .i64 0,.int .i64 0,.nils,.int .i64 0,.int .i64 0,.nils,.nils,.nils,.nils]⟩),
 (45,iT),
 (48,fT),
 (49,fT),
 (50,fT),
 (51,⟨.array 3 3,true,3,24,[.int .i64 0,.int .i64 0,.int .i64 0]⟩),
 (52,⟨.int .u16,false,1,2,[.int .u16 0]⟩),
 (53,⟨.struct [(0,5),(1,51),(4,52)],true,5,40,[.int .u8 0,.int .i64 0,.int .i64 0,.int .i64 0,.int .u16 0]⟩),
 (54,⟨.struct [(0,5),(1,51),(4,52)],true,5,40,[.int .u8 0,.int .i64 0,.int .i64 0,.int .i64 0,.int .u16 0]⟩),
 (55,fT),
 (58,iT),
 (59,iT),
 (60,sT 62),
 (62,⟨.struct [(0,59),(1,3),(2,23),(3,3),(4,3),(5,60)],true,6,80,[.int .i64 0,.int .i64 0,.nils,.int .i64 0,.int .i64 0,.nils]⟩),
 (63,⟨.struct [(0,58),(1,3),(2,62),(8,3)],true,9,104,[.int .i64 0,.int .i64 0,.int .i64 0,.int .i64 0,.nils,.int .i64 0,.int .i64 0,.nils,.int .i64 0]⟩),
 (64,⟨.struct [(0,58),(1,3),(2,62),(8,3)],true,9,104,[.int .i64 0,.int .i64 0,.int .i64 0,.int .i64 0,.nils,.int .i64 0,.int .i64 0,.nils,.int .i64 0]⟩),
 (66,fT),
 (68,⟨.struct [(0,41),(1,40),(3,42),(4,31),(5,3)],true,6,80,[.int .i64 0,.int .i64 0,.int .i64 0,.nils,.nils,.int .i64 0]⟩),
 (71,fT),
 (75,sT 79),
 (77,fT),
 (78,⟨.struct [(0,3),(1,3)],true,2,16,[.int .i64 0,.int .i64 0]⟩),
 (79,⟨.struct [(0,3),(1,3)],true,2,16,[.int .i64 0,.int .i64 0]⟩),
 (81,fT),
 (82,fT),
 (83,fT),
 (85,iT),
 (86,⟨.struct [(0,85),(1,3)],true,2,16,[.int .i64 0,.int .i64 0]⟩),
 (87,⟨.struct [(0,85),(1,3)],true,2,16,[.int .i64 0,.int .i64 0]⟩),
 (91,fT),
 (94,fT),
 (96,sT 5),
 (98,pT 103),
 (101,⟨.map 3 79,false,1,8,[.nilmap]⟩),
 (103,⟨.struct [(0,30),(3,27),(9,101)],true,10,176,[.nils,.nils,.int .i64 0,.nils,.int .i64 0,.nils,.nils,.nils,.int .i64 0,.nilmap]⟩),
 (104,pT 106),
 (106,⟨.struct [(0,44),(11,27),(17,34)],true,20,336,[.int .i64 0,.int .i64 0,.int .i64 0,.int .i64 0,.nils,.int .i64 0,.int .i64 0,.nils,.nils,.nils,.nils,.nils,.int .i64 0,.nils,.nils,.nils,.int .i64 0,.int .i64 0,.nils,.nils]⟩),
 (107,fT),
 (108,fT),
 (109,⟨.array 22 108,true,22,176,[.nilf,.nilf,.nilf,.nilf,.nilf,.nilf,.nilf,.nilf,.nilf,.nilf,.nilf,.nilf,.nilf,.nilf,.nilf,.nilf,.nilf,.nilf,.nilf,.nilf,.nilf,.nilf]⟩),
 (110,fT),
 (112,fT),
 (113,fT),
 (120,sT 23),
 (122,⟨.struct [(0,120),(1,23)],true,2,48,[.nils,.nils]⟩),
 (123,fT),
 (125,pT 127),
 (126,⟨.struct [(0,30)],true,3,56,[.nils,.nils,.int .i64 0]⟩),
 (127,⟨.struct [(0,30)],true,3,56,[.nils,.nils,.int .i64 0]⟩),
 (128,fT),
 (130,⟨.struct [(0,3),(1,32)],true,2,32,[.int .i64 0,.nils]⟩),
 (131,⟨.struct [(0,3),(1,32)],true,2,32,[.int .i64 0,.nils]⟩),
 (145,fT),
 (147,sT 5),
 (157,pT 159),
 (159,⟨.struct [(0,157),(1,96)],true,2,32,[.nilp,.nils]⟩),
 (161,⟨.iface,false,1,16,[.niliface]⟩),
 (165,sT 9),
 (174,⟨.map 9 85,false,1,8,[.nilmap]⟩),
 (180,⟨.struct [(0,3),(1,3),(2,4)],true,3,24,[.int .i64 0,.int .i64 0,.bool false]⟩),
 (181,sT 180),
 (182,fT),
 (188,fT),
 (189,fT),
 (196,fT),
 (199,⟨.struct [(0,27),(6,30),(9,44),(20,34)],true,23,392,[.nils,.int .i64 0,.nils,.nils,.nils,.int .i64 0,.nils,.nils,.int .i64 0,.int .i64 0,.int .i64 0,.int .i64 0,.int .i64 0,.nils,.int .i64 0,.int .i64 0,.nils,.nils,.nils,.nils,.int .i64 0,.nils,.nils]⟩),
 (201,iT),
 (203,⟨.struct [(0,201),(1,3),(2,32)],true,3,40,[.int .i64 0,.int .i64 0,.nils]⟩),
 (205,⟨.struct [(0,3),(1,3)],true,2,16,[.int .i64 0,.int .i64 0]⟩),
 (206,sT 205),
 (208,⟨.struct [(0,23),(1,23),(2,206)],true,3,72,[.nils,.nils,.nils]⟩),
 (209,iT),
 (211,⟨.struct [(0,209),(1,3),(2,23)],true,3,40,[.int .i64 0,.int .i64 0,.nils]⟩),
 (237,fT),
 (240,pT 147),
 (245,⟨.struct [],true,0,0,[]⟩),
 (246,pT 5),
 (248,fT),
 (256,pT 40),
 (267,fT),
 (268,fT),
 (271,⟨.struct [(0,3),(1,3)],true,2,16,[.int .i64 0,.int .i64 0]⟩),
 (274,⟨.iface,false,1,16,[.niliface]⟩),
 (276,iT),
 (277,⟨.struct [],true,0,0,[]⟩),
 (279,fT),
 (283,⟨.map 209 85,false,1,8,[.nilmap]⟩),
 (296,fT),
 (300,fT),
 (307,⟨.map 3 4,false,1,8,[.nilmap]⟩),
 (310,pT 357),
 (313,pT 131),
 (316,⟨.struct [],true,0,0,[]⟩),
 (320,⟨.int .u64,false,1,8,[.int .u64 0]⟩),
 (323,fT),
 (324,pT 421),
 (338,⟨.int .u64,false,1,8,[.int .u64 0]⟩),
 (354,⟨.map 3 23,false,1,8,[.nilmap]⟩),
 (355,⟨.map 3 131,false,1,8,[.nilmap]⟩),
 (357,⟨.struct [(0,27),(6,354),(7,355)],true,8,128,[.nils,.int .i64 0,.nils,.nils,.nils,.int .i64 0,.nilmap,.nilmap]⟩),
 (361,fT),
 (363,fT),
 (366,fT),
 (367,pT 372),
 (370,sT 415),
 (372,⟨.struct [(0,120),(1,370),(2,354)],true,3,56,[.nils,.nils,.nilmap]⟩),
 (373,⟨.int .u32,false,1,4,[.int .u32 0]⟩),
 (403,fT),
 (407,⟨.map 3 3,false,1,8,[.nilmap]⟩),
 (408,fT),
 (409,fT),
 (413,fT),
 (415,⟨.array 1 338,true,1,8,[.int .u64 0]⟩),
 (418,⟨.int .u64,false,1,8,[.int .u64 0]⟩),
 (419,⟨.array 63 418,true,63,504,(List.replicate 63 (.int .u64 0))⟩),
 (421,⟨.struct [(0,122),(2,419)],true,65,552,[.nils,.nils,.int .u64 0,.int .u64 0,.int .u64 0,.int .u64 0,.int .u64 0,.int .u64 0,.int .u64 0,.int .u64 0,.int .u64 0,.int .u64 0,.int .u64 0,.int .u64 0,.int .u64 0,.int .u64 0,.int .u64 0,.int .u64 0,.int .u64 0,.int .u64 0,.int .u64 0,.int .u64 0,.int .u64 0,.int .u64 0,.int .u64 0,.int .u64 0,.int .u64 0,.int .u64 0,.int .u64 0,.int .u64 0,.int .u64 0,.int .u64 0,.int .u64 0,.int .u64 0,.int .u64 0,.int .u64 0,.int .u64 0,.int .u64 0,.int .u64 0,.int .u64 0,.int .u64 0,.int .u64 0,.int .u64 0,.int .u64 0,.int .u64 0,.int .u64 0,.int .u64 0,.int .u64 0,.int .u64 0,.int .u64 0,.int .u64 0,.int .u64 0,.int .u64 0,.int .u64 0,.int .u64 0,.int .u64 0,.int .u64 0,.int .u64 0,.int .u64 0,.int .u64 0,.int .u64 0,.int .u64 0,.int .u64 0,.int .u64 0,.int .u64 0]⟩),
 (425,pT 3),
 (464,⟨.struct [(0,17),(1,17),(2,17),(3,9)],true,4,40,[.nilp,.nilp,.nilp,.str []]⟩),
 (465,⟨.array 0 16,true,0,0,[]⟩),
 (467,⟨.struct [(0,465)],true,0,0,[]⟩),
 (468,⟨.int .u8,false,1,1,[.int .u8 0]⟩),
 (469,⟨.int .u8,false,1,1,[.int .u8 0]⟩),
 (470,fT),
 (471,⟨.int .i32,false,1,4,[.int .i32 0]⟩),
 (472,⟨.int .i32,false,1,4,[.int .i32 0]⟩),
 (474,⟨.struct [(0,12),(1,12),(2,373),(3,468),(4,5),(5,5),(6,469),(7,470),(8,246),(9,471),(10,472)],true,11,48,[.int .u64 0,.int .u64 0,.int .u32 0,.int .u8 0,.int .u8 0,.int .u8 0,.int .u8 0,.nilf,.nilp,.int .i32 0,.int .i32 0]⟩)
]
def tab(t:Nat):Ty:=(tyRows.lookup t).getD ⟨.other,false,0,0,[]⟩
theorem TU:tyRows.all (fun p=>MT prog p.1 p.2)=true:=by kernel_rfl
theorem JK{α:Type}: ∀{l:List (Nat×α)}{t:Nat}{x:α},l.lookup t=some x->(t,x)∈l
 |(k,y)::l,t,x,h=>by
  simp only[List.lookup]at h
  split at h
  ·rename_i e;cases h;have:=beq_iff_eq.1 e;subst this;simp
  ·exact List.mem_cons_of_mem _ (JK h)
theorem Ad:AZ prog tab:=by
 intro t
 unfold tab
 cases h:tyRows.lookup t with
 |none=>exact trivial
 |some i=>exact Lf (List.all_eq_true.1 TU _ (JK h))
theorem Ac:prog.funcs.size=431:=by kernel_rfl
@[simp] theorem tab1:tab 1=fT:=rfl
@[simp] theorem tab2:tab 2=iT:=rfl
@[simp] theorem tab3:tab 3=iT:=rfl
@[simp] theorem tab4:tab 4=⟨.bool,false,1,1,[.bool false]⟩:=rfl
@[simp] theorem tab5:tab 5=⟨.int .u8,false,1,1,[.int .u8 0]⟩:=rfl
@[simp] theorem tab6:tab 6=⟨.int .u8,false,1,1,[.int .u8 0]⟩:=rfl
@[simp] theorem tab7:tab 7=⟨.struct [(0,2),(1,3),(2,4),(3,6)],true,4,24,[.int .i64 0,.int .i64 0,.bool false,.int .u8 0]⟩:=rfl
@[simp] theorem tab8:tab 8=⟨.struct [(0,2),(1,3),(2,4),(3,6)],true,4,24,[.int .i64 0,.int .i64 0,.bool false,.int .u8 0]⟩:=rfl
@[simp] theorem tab9:tab 9=⟨.str,false,1,16,[.str []]⟩:=rfl
@[simp] theorem tab10:tab 10=⟨.str,false,1,16,[.str []]⟩:=rfl
@[simp] theorem tab11:tab 11=⟨.str,false,1,16,[.str []]⟩:=rfl
@[simp] theorem tab12:tab 12=⟨.int .u64,false,1,8,[.int .u64 0]⟩:=rfl
@[simp] theorem tab13:tab 13=⟨.struct [(0,9),(1,12)],true,2,24,[.str [],.int .u64 0]⟩:=rfl
@[simp] theorem tab14:tab 14=⟨.struct [(0,9),(1,12)],true,2,24,[.str [],.int .u64 0]⟩:=rfl
@[simp] theorem tab15:tab 15=pT 464:=rfl
@[simp] theorem tab16:tab 16=pT 467:=rfl
@[simp] theorem tab17:tab 17=pT 474:=rfl
@[simp] theorem tab18:tab 18=⟨.struct [(0,17)],true,1,8,[.nilp]⟩:=rfl
@[simp] theorem tab19:tab 19=⟨.struct [(0,17)],true,1,8,[.nilp]⟩:=rfl
@[simp] theorem tab20:tab 20=⟨.iface,false,1,16,[.niliface]⟩:=rfl
@[simp] theorem tab21:tab 21=⟨.int .i32,false,1,4,[.int .i32 0]⟩:=rfl
@[simp] theorem tab22:tab 22=sT 208:=rfl
@[simp] theorem tab23:tab 23=sT 3:=rfl
@[simp] theorem tab24:tab 24=sT 64:=rfl
@[simp] theorem tab25:tab 25=sT 211:=rfl
@[simp] theorem tab26:tab 26=⟨.struct [(0,22),(1,3),(2,23),(3,24),(4,25),(5,3)],true,6,112,[.nils,.int .i64 0,.nils,.nils,.nils,.int .i64 0]⟩:=rfl
@[simp] theorem tab27:tab 27=⟨.struct [(0,22),(1,3),(2,23),(3,24),(4,25),(5,3)],true,6,112,[.nils,.int .i64 0,.nils,.nils,.nils,.int .i64 0]⟩:=rfl
@[simp] theorem tab28:tab 28=sT 87:=rfl
@[simp] theorem tab30:tab 30=⟨.struct [(0,28),(1,23),(2,3)],true,3,56,[.nils,.nils,.int .i64 0]⟩:=rfl
@[simp] theorem tab31:tab 31=sT 131:=rfl
@[simp] theorem tab32:tab 32=sT 40:=rfl
@[simp] theorem tab33:tab 33=⟨.struct [(0,3),(1,32),(2,32)],true,3,56,[.int .i64 0,.nils,.nils]⟩:=rfl
@[simp] theorem tab34:tab 34=⟨.struct [(0,3),(1,32),(2,32)],true,3,56,[.int .i64 0,.nils,.nils]⟩:=rfl
@[simp] theorem tab35:tab 35=⟨.struct [(0,31),(1,34)],true,4,80,[.nils,.int .i64 0,.nils,.nils]⟩:=rfl
@[simp] theorem tab36:tab 36=⟨.struct [(0,31),(1,34)],true,4,80,[.nils,.int .i64 0,.nils,.nils]⟩:=rfl
@[simp] theorem tab37:tab 37=iT:=rfl
@[simp] theorem tab38:tab 38=iT:=rfl
@[simp] theorem tab39:tab 39=⟨.struct [(0,38),(1,3)],true,2,16,[.int .i64 0,.int .i64 0]⟩:=rfl
@[simp] theorem tab40:tab 40=⟨.struct [(0,38),(1,3)],true,2,16,[.int .i64 0,.int .i64 0]⟩:=rfl
@[simp] theorem tab41:tab 41=iT:=rfl
@[simp] theorem tab42:tab 42=sT 203:=rfl
@[simp] theorem tab44:tab 44=⟨.struct [(0,37),(1,40),(3,3),(4,32),(5,41),(6,34),(9,31),(10,42)],true,11,168,[.int .i64 0,.int .i64 0,.int .i64 0,.int .i64 0,.nils,.int .i64 0,.int .i64 0,.nils,.nils,.nils,.nils]⟩:=rfl
@[simp] theorem tab45:tab 45=iT:=rfl
@[simp] theorem tab48:tab 48=fT:=rfl
@[simp] theorem tab49:tab 49=fT:=rfl
@[simp] theorem tab50:tab 50=fT:=rfl
@[simp] theorem tab51:tab 51=⟨.array 3 3,true,3,24,[.int .i64 0,.int .i64 0,.int .i64 0]⟩:=rfl
@[simp] theorem tab52:tab 52=⟨.int .u16,false,1,2,[.int .u16 0]⟩:=rfl
@[simp] theorem tab53:tab 53=⟨.struct [(0,5),(1,51),(4,52)],true,5,40,[.int .u8 0,.int .i64 0,.int .i64 0,.int .i64 0,.int .u16 0]⟩:=rfl
@[simp] theorem tab54:tab 54=⟨.struct [(0,5),(1,51),(4,52)],true,5,40,[.int .u8 0,.int .i64 0,.int .i64 0,.int .i64 0,.int .u16 0]⟩:=rfl
@[simp] theorem tab55:tab 55=fT:=rfl
@[simp] theorem tab58:tab 58=iT:=rfl
@[simp] theorem tab59:tab 59=iT:=rfl
@[simp] theorem tab60:tab 60=sT 62:=rfl
@[simp] theorem tab62:tab 62=⟨.struct [(0,59),(1,3),(2,23),(3,3),(4,3),(5,60)],true,6,80,[.int .i64 0,.int .i64 0,.nils,.int .i64 0,.int .i64 0,.nils]⟩:=rfl
@[simp] theorem tab63:tab 63=⟨.struct [(0,58),(1,3),(2,62),(8,3)],true,9,104,[.int .i64 0,.int .i64 0,.int .i64 0,.int .i64 0,.nils,.int .i64 0,.int .i64 0,.nils,.int .i64 0]⟩:=rfl
@[simp] theorem tab64:tab 64=⟨.struct [(0,58),(1,3),(2,62),(8,3)],true,9,104,[.int .i64 0,.int .i64 0,.int .i64 0,.int .i64 0,.nils,.int .i64 0,.int .i64 0,.nils,.int .i64 0]⟩:=rfl
@[simp] theorem tab66:tab 66=fT:=rfl
@[simp] theorem tab68:tab 68=⟨.struct [(0,41),(1,40),(3,42),(4,31),(5,3)],true,6,80,[.int .i64 0,.int .i64 0,.int .i64 0,.nils,.nils,.int .i64 0]⟩:=rfl
@[simp] theorem tab71:tab 71=fT:=rfl
@[simp] theorem tab75:tab 75=sT 79:=rfl
@[simp] theorem tab77:tab 77=fT:=rfl
@[simp] theorem tab78:tab 78=⟨.struct [(0,3),(1,3)],true,2,16,[.int .i64 0,.int .i64 0]⟩:=rfl
@[simp] theorem tab79:tab 79=⟨.struct [(0,3),(1,3)],true,2,16,[.int .i64 0,.int .i64 0]⟩:=rfl
@[simp] theorem tab81:tab 81=fT:=rfl
@[simp] theorem tab82:tab 82=fT:=rfl
@[simp] theorem tab83:tab 83=fT:=rfl
@[simp] theorem tab85:tab 85=iT:=rfl
@[simp] theorem tab86:tab 86=⟨.struct [(0,85),(1,3)],true,2,16,[.int .i64 0,.int .i64 0]⟩:=rfl
@[simp] theorem tab87:tab 87=⟨.struct [(0,85),(1,3)],true,2,16,[.int .i64 0,.int .i64 0]⟩:=rfl
@[simp] theorem tab91:tab 91=fT:=rfl
@[simp] theorem tab94:tab 94=fT:=rfl
@[simp] theorem tab96:tab 96=sT 5:=rfl
@[simp] theorem tab98:tab 98=pT 103:=rfl
@[simp] theorem tab101:tab 101=⟨.map 3 79,false,1,8,[.nilmap]⟩:=rfl
@[simp] theorem tab103:tab 103=⟨.struct [(0,30),(3,27),(9,101)],true,10,176,[.nils,.nils,.int .i64 0,.nils,.int .i64 0,.nils,.nils,.nils,.int .i64 0,.nilmap]⟩:=rfl
@[simp] theorem tab104:tab 104=pT 106:=rfl
@[simp] theorem tab106:tab 106=⟨.struct [(0,44),(11,27),(17,34)],true,20,336,[.int .i64 0,.int .i64 0,.int .i64 0,.int .i64 0,.nils,.int .i64 0,.int .i64 0,.nils,.nils,.nils,.nils,.nils,.int .i64 0,.nils,.nils,.nils,.int .i64 0,.int .i64 0,.nils,.nils]⟩:=rfl
@[simp] theorem tab107:tab 107=fT:=rfl
@[simp] theorem tab108:tab 108=fT:=rfl
@[simp] theorem tab109:tab 109=⟨.array 22 108,true,22,176,[.nilf,.nilf,.nilf,.nilf,.nilf,.nilf,.nilf,.nilf,.nilf,.nilf,.nilf,.nilf,.nilf,.nilf,.nilf,.nilf,.nilf,.nilf,.nilf,.nilf,.nilf,.nilf]⟩:=rfl
@[simp] theorem tab110:tab 110=fT:=rfl
@[simp] theorem tab112:tab 112=fT:=rfl
@[simp] theorem tab113:tab 113=fT:=rfl
@[simp] theorem tab120:tab 120=sT 23:=rfl
@[simp] theorem tab122:tab 122=⟨.struct [(0,120),(1,23)],true,2,48,[.nils,.nils]⟩:=rfl
@[simp] theorem tab123:tab 123=fT:=rfl
@[simp] theorem tab125:tab 125=pT 127:=rfl
@[simp] theorem tab126:tab 126=⟨.struct [(0,30)],true,3,56,[.nils,.nils,.int .i64 0]⟩:=rfl
@[simp] theorem tab127:tab 127=⟨.struct [(0,30)],true,3,56,[.nils,.nils,.int .i64 0]⟩:=rfl
@[simp] theorem tab128:tab 128=fT:=rfl
@[simp] theorem tab130:tab 130=⟨.struct [(0,3),(1,32)],true,2,32,[.int .i64 0,.nils]⟩:=rfl
@[simp] theorem tab131:tab 131=⟨.struct [(0,3),(1,32)],true,2,32,[.int .i64 0,.nils]⟩:=rfl
@[simp] theorem tab145:tab 145=fT:=rfl
@[simp] theorem tab147:tab 147=sT 5:=rfl
@[simp] theorem tab157:tab 157=pT 159:=rfl
@[simp] theorem tab159:tab 159=⟨.struct [(0,157),(1,96)],true,2,32,[.nilp,.nils]⟩:=rfl
@[simp] theorem tab161:tab 161=⟨.iface,false,1,16,[.niliface]⟩:=rfl
@[simp] theorem tab165:tab 165=sT 9:=rfl
@[simp] theorem tab174:tab 174=⟨.map 9 85,false,1,8,[.nilmap]⟩:=rfl
@[simp] theorem tab180:tab 180=⟨.struct [(0,3),(1,3),(2,4)],true,3,24,[.int .i64 0,.int .i64 0,.bool false]⟩:=rfl
@[simp] theorem tab181:tab 181=sT 180:=rfl
@[simp] theorem tab182:tab 182=fT:=rfl
@[simp] theorem tab188:tab 188=fT:=rfl
@[simp] theorem tab189:tab 189=fT:=rfl
@[simp] theorem tab196:tab 196=fT:=rfl
@[simp] theorem tab199:tab 199=⟨.struct [(0,27),(6,30),(9,44),(20,34)],true,23,392,[.nils,.int .i64 0,.nils,.nils,.nils,.int .i64 0,.nils,.nils,.int .i64 0,.int .i64 0,.int .i64 0,.int .i64 0,.int .i64 0,.nils,.int .i64 0,.int .i64 0,.nils,.nils,.nils,.nils,.int .i64 0,.nils,.nils]⟩:=rfl
@[simp] theorem tab201:tab 201=iT:=rfl
@[simp] theorem tab203:tab 203=⟨.struct [(0,201),(1,3),(2,32)],true,3,40,[.int .i64 0,.int .i64 0,.nils]⟩:=rfl
@[simp] theorem tab205:tab 205=⟨.struct [(0,3),(1,3)],true,2,16,[.int .i64 0,.int .i64 0]⟩:=rfl
@[simp] theorem tab206:tab 206=sT 205:=rfl
@[simp] theorem tab208:tab 208=⟨.struct [(0,23),(1,23),(2,206)],true,3,72,[.nils,.nils,.nils]⟩:=rfl
@[simp] theorem tab209:tab 209=iT:=rfl
@[simp] theorem tab211:tab 211=⟨.struct [(0,209),(1,3),(2,23)],true,3,40,[.int .i64 0,.int .i64 0,.nils]⟩:=rfl
@[simp] theorem tab237:tab 237=fT:=rfl
@[simp] theorem tab240:tab 240=pT 147:=rfl
@[simp] theorem tab245:tab 245=⟨.struct [],true,0,0,[]⟩:=rfl
@[simp] theorem tab246:tab 246=pT 5:=rfl
@[simp] theorem tab248:tab 248=fT:=rfl
@[simp] theorem tab256:tab 256=pT 40:=rfl
@[simp] theorem tab267:tab 267=fT:=rfl
@[simp] theorem tab268:tab 268=fT:=rfl
@[simp] theorem tab271:tab 271=⟨.struct [(0,3),(1,3)],true,2,16,[.int .i64 0,.int .i64 0]⟩:=rfl
@[simp] theorem tab274:tab 274=⟨.iface,false,1,16,[.niliface]⟩:=rfl
@[simp] theorem tab276:tab 276=iT:=rfl
@[simp] theorem tab277:tab 277=⟨.struct [],true,0,0,[]⟩:=rfl
@[simp] theorem tab279:tab 279=fT:=rfl
@[simp] theorem tab283:tab 283=⟨.map 209 85,false,1,8,[.nilmap]⟩:=rfl
@[simp] theorem tab296:tab 296=fT:=rfl
@[simp] theorem tab300:tab 300=fT:=rfl
@[simp] theorem tab307:tab 307=⟨.map 3 4,false,1,8,[.nilmap]⟩:=rfl
@[simp] theorem tab310:tab 310=pT 357:=rfl
@[simp] theorem tab313:tab 313=pT 131:=rfl
@[simp] theorem tab316:tab 316=⟨.struct [],true,0,0,[]⟩:=rfl
@[simp] theorem tab320:tab 320=⟨.int .u64,false,1,8,[.int .u64 0]⟩:=rfl
@[simp] theorem tab323:tab 323=fT:=rfl
@[simp] theorem tab324:tab 324=pT 421:=rfl
@[simp] theorem tab338:tab 338=⟨.int .u64,false,1,8,[.int .u64 0]⟩:=rfl
@[simp] theorem tab354:tab 354=⟨.map 3 23,false,1,8,[.nilmap]⟩:=rfl
@[simp] theorem tab355:tab 355=⟨.map 3 131,false,1,8,[.nilmap]⟩:=rfl
@[simp] theorem tab357:tab 357=⟨.struct [(0,27),(6,354),(7,355)],true,8,128,[.nils,.int .i64 0,.nils,.nils,.nils,.int .i64 0,.nilmap,.nilmap]⟩:=rfl
@[simp] theorem tab361:tab 361=fT:=rfl
@[simp] theorem tab363:tab 363=fT:=rfl
@[simp] theorem tab366:tab 366=fT:=rfl
@[simp] theorem tab367:tab 367=pT 372:=rfl
@[simp] theorem tab370:tab 370=sT 415:=rfl
@[simp] theorem tab372:tab 372=⟨.struct [(0,120),(1,370),(2,354)],true,3,56,[.nils,.nils,.nilmap]⟩:=rfl
@[simp] theorem tab373:tab 373=⟨.int .u32,false,1,4,[.int .u32 0]⟩:=rfl
@[simp] theorem tab403:tab 403=fT:=rfl
@[simp] theorem tab407:tab 407=⟨.map 3 3,false,1,8,[.nilmap]⟩:=rfl
@[simp] theorem tab408:tab 408=fT:=rfl
@[simp] theorem tab409:tab 409=fT:=rfl
@[simp] theorem tab413:tab 413=fT:=rfl
@[simp] theorem tab415:tab 415=⟨.array 1 338,true,1,8,[.int .u64 0]⟩:=rfl
@[simp] theorem tab418:tab 418=⟨.int .u64,false,1,8,[.int .u64 0]⟩:=rfl
@[simp] theorem tab419:tab 419=⟨.array 63 418,true,63,504,(List.replicate 63 (.int .u64 0))⟩:=rfl
@[simp] theorem tab421:tab 421=⟨.struct [(0,122),(2,419)],true,65,552,[.nils,.nils,.int .u64 0,.int .u64 0,.int .u64 0,.int .u64 0,.int .u64 0,.int .u64 0,.int .u64 0,.int .u64 0,.int .u64 0,.int .u64 0,.int .u64 0,.int .u64 0,.int .u64 0,.int .u64 0,.int .u64 0,.int .u64 0,.int .u64 0,.int .u64 0,.int .u64 0,.int .u64 0,.int .u64 0,.int .u64 0,.int .u64 0,.int .u64 0,.int .u64 0,.int .u64 0,.int .u64 0,.int .u64 0,.int .u64 0,.int .u64 0,.int .u64 0,.int .u64 0,.int .u64 0,.int .u64 0,.int .u64 0,.int .u64 0,.int .u64 0,.int .u64 0,.int .u64 0,.int .u64 0,.int .u64 0,.int .u64 0,.int .u64 0,.int .u64 0,.int .u64 0,.int .u64 0,.int .u64 0,.int .u64 0,.int .u64 0,.int .u64 0,.int .u64 0,.int .u64 0,.int .u64 0,.int .u64 0,.int .u64 0,.int .u64 0,.int .u64 0,.int .u64 0,.int .u64 0,.int .u64 0,.int .u64 0,.int .u64 0,.int .u64 0]⟩:=rfl
@[simp] theorem tab425:tab 425=pT 3:=rfl
@[simp] theorem tab464:tab 464=⟨.struct [(0,17),(1,17),(2,17),(3,9)],true,4,40,[.nilp,.nilp,.nilp,.str []]⟩:=rfl
@[simp] theorem tab465:tab 465=⟨.array 0 16,true,0,0,[]⟩:=rfl
@[simp] theorem tab467:tab 467=⟨.struct [(0,465)],true,0,0,[]⟩:=rfl
@[simp] theorem tab468:tab 468=⟨.int .u8,false,1,1,[.int .u8 0]⟩:=rfl
@[simp] theorem tab469:tab 469=⟨.int .u8,false,1,1,[.int .u8 0]⟩:=rfl
@[simp] theorem tab470:tab 470=fT:=rfl
@[simp] theorem tab471:tab 471=⟨.int .i32,false,1,4,[.int .i32 0]⟩:=rfl
@[simp] theorem tab472:tab 472=⟨.int .i32,false,1,4,[.int .i32 0]⟩:=rfl
@[simp] theorem tab474:tab 474=⟨.struct [(0,12),(1,12),(2,373),(3,468),(4,5),(5,5),(6,469),(7,470),(8,246),(9,471),(10,472)],true,11,48,[.int .u64 0,.int .u64 0,.int .u32 0,.int .u8 0,.int .u8 0,.int .u8 0,.int .u8 0,.nilf,.nilp,.int .i32 0,.int .i32 0]⟩:=rfl
theorem mixed:prog.follows .mixedOrders=true:=by kernel_rfl
abbrev Str:=List UInt8
attribute [simp] w6 Sig.set_set
theorem big1{x:Nat}(h:x<=140737488355328):(140737488355328<x)=False:=by simp;omega
theorem big2{x:Nat}(h:x<=9223372036854775807):(9223372036854775807<x)=False:=by simp;omega
@[simp] theorem getElem0{α:Type}(a:α)(l:List α):(a::l)[0]? = some a:=rfl
abbrev sl(es:List (List D)):D:=.slice es .no
abbrev dI(n:Int):D:=.int .i64 n
def cS(l:List Str):List (List D):=l.map fun s=>[.str s]
@[simp] theorem cS_len(l:List Str):(cS l).length=l.length:=by simp[cS]
@[simp] theorem cS_get(l:List Str)(i:Nat):(cS l)[i]? = (l[i]?).map fun s=>[.str s]:=by simp[cS]
@[simp] theorem cS_all(l:List Str):(cS l).all (fun c=>c.length==1)=true:=by simp[cS]
@[simp] theorem E3(l:List Str): ∀c∈cS l,c.length=1:=by simp[cS]
def cI(l:List Int):List (List D):=l.map fun s=>[.int .i64 s]
@[simp] theorem MC(l:List Int):(cI l).length=l.length:=by simp[cI]
@[simp] theorem cI_get(l:List Int)(i:Nat):(cI l)[i]? = (l[i]?).map fun s=>[.int .i64 s]:=by simp[cI]
@[simp] theorem Cc(l:List Int): ∀c∈cI l,c.length=1:=by simp[cI]
def cII(l:List (List Int)):List (List D):=l.map fun s=>[sl (cI s)]
@[simp] theorem cII_len(l:List (List Int)):(cII l).length=l.length:=by simp[cII]
@[simp] theorem cII_get(l:List (List Int))(i:Nat):(cII l)[i]? = (l[i]?).map fun s=>[sl (cI s)]:=by simp[cII]
@[simp] theorem cI_all(l:List Int):(cI l).all (fun c=>c.length==1)=true:=by simp[cI]
@[simp] theorem cII_all(l:List (List Int)):(cII l).all (fun c=>c.length==1)=true:=by simp[cII]
@[simp] theorem CL(l:List (List Int)): ∀c∈cII l,c.length=1:=by simp[cII]
structure Init where
 slot:Int
 n:Int
 deriving DecidableEq
structure BClass where
 parents:List Int
 slots:List Int
 inits:List Init
 deriving DecidableEq
inductive Fact where
 |mk (op arg:Int) (path:List Int) (cls n:Int) (kids:List Fact)
structure BMeth where
 kind:Int
 gen:Int
 fact:Fact
 node:Int
structure BNode where
 op:Int
 n:Int
 kids:List Int
 deriving DecidableEq
structure BProg where
 classes:List BClass
 slots:Int
 gens:List Int
 methods:List BMeth
 nodes:List BNode
 main:Int
inductive FExp where
 |mk (op n:Int) (text:Str) (kids:List FExp)
inductive FFact where
 |mk (op:Int) (name:Str) (path:List Str) (cls:Str) (n:Int) (kids:List FFact)
structure FInit where
 slot:Str
 n:Int
 deriving DecidableEq
structure FClass where
 name:Str
 parents:List Str
 slots:List Str
 inits:List FInit
 deriving DecidableEq
structure FMeth where
 kind:Int
 name:Str
 params:List Str
 fact:FFact
 body:FExp
structure FProg where
 classes:List FClass
 methods:List FMeth
 main:FExp
structure World where
 parents:List (List Int)
 owner:List Int
 deriving DecidableEq
section
def Fact.op:Fact->Int|.mk o _ _ _ _ _=>o
def Fact.arg:Fact->Int|.mk _ a _ _ _ _=>a
def Fact.path:Fact->List Int|.mk _ _ p _ _ _=>p
def Fact.cls:Fact->Int|.mk _ _ _ c _ _=>c
def Fact.n:Fact->Int|.mk _ _ _ _ n _=>n
def Fact.kids:Fact->List Fact|.mk _ _ _ _ _ k=>k
def FExp.op:FExp->Int|.mk o _ _ _=>o
def FExp.n:FExp->Int|.mk _ n _ _=>n
def FExp.text:FExp->Str|.mk _ _ t _=>t
def FExp.kids:FExp->List FExp|.mk _ _ _ k=>k
def FFact.op:FFact->Int|.mk o _ _ _ _ _=>o
def FFact.name:FFact->Str|.mk _ s _ _ _ _=>s
def FFact.path:FFact->List Str|.mk _ _ p _ _ _=>p
def FFact.cls:FFact->Str|.mk _ _ _ c _ _=>c
def FFact.n:FFact->Int|.mk _ _ _ _ n _=>n
def FFact.kids:FFact->List FFact|.mk _ _ _ _ _ k=>k
theorem Fact.lt{f x:Fact}(h:x∈f.kids):SizeOf.sizeOf x<SizeOf.sizeOf f:=by
 cases f;simp only[Fact.kids]at h
 have:=List.sizeOf_lt_of_mem h
 simp;omega
theorem FExp.lt{f x:FExp}(h:x∈f.kids):SizeOf.sizeOf x<SizeOf.sizeOf f:=by
 cases f;simp only[FExp.kids]at h
 have:=List.sizeOf_lt_of_mem h
 simp;omega
theorem FFact.lt{f x:FFact}(h:x∈f.kids):SizeOf.sizeOf x<SizeOf.sizeOf f:=by
 cases f;simp only[FFact.kids]at h
 have:=List.sizeOf_lt_of_mem h
 simp;omega
end
mutual
def D3:Fact->List D
 |.mk o a p c n k=>[dI o,dI a,sl (cI p),dI c,dI n,sl (MD k)]
def MD:List Fact->List (List D)
 |[]=>[]
 |f::l=>D3 f::MD l
end
theorem Kd: ∀l,MD l=l.map D3
 |[]=>by rw[MD];rfl
 |f::l=>by rw[MD,Kd l];rfl
@[simp] theorem Fm(f:Fact):D3 f=[dI f.op,dI f.arg,sl (cI f.path),dI f.cls,dI f.n,sl (f.kids.map D3)]:=by
 cases f;rw[D3,Kd];rfl
mutual
def J2:FExp->List D
 |.mk o n t k=>[dI o,dI n,.str t,sl (ME k)]
def ME:List FExp->List (List D)
 |[]=>[]
 |f::l=>J2 f::ME l
end
theorem Ke: ∀l,ME l=l.map J2
 |[]=>by rw[ME];rfl
 |f::l=>by rw[ME,Ke l];rfl
@[simp] theorem GI(f:FExp):J2 f=[dI f.op,dI f.n,.str f.text,sl (f.kids.map J2)]:=by
 cases f;rw[J2,Ke];rfl
mutual
def GH:FFact->List D
 |.mk o s p c n k=>[dI o,.str s,sl (cS p),.str c,dI n,sl (J1 k)]
def J1:List FFact->List (List D)
 |[]=>[]
 |f::l=>GH f::J1 l
end
theorem J0: ∀l,J1 l=l.map GH
 |[]=>by rw[J1];rfl
 |f::l=>by rw[J1,J0 l];rfl
@[simp] theorem F7(f:FFact):GH f=[dI f.op,.str f.name,sl (cS f.path),.str f.cls,dI f.n,sl (f.kids.map GH)]:=by
 cases f;rw[GH,J0];rfl
@[simp] def IZ(i:Init):List D:=[dI i.slot,dI i.n]
@[simp] def J3(c:BClass):List D:=[sl (cI c.parents),sl (cI c.slots),sl (c.inits.map IZ)]
@[simp] def TE(m:BMeth):List D:=[dI m.kind,dI m.gen]++D3 m.fact++[dI m.node]
@[simp] def Kf(x:BNode):List D:=[dI x.op,dI x.n,sl (cI x.kids)]
@[simp] def Ai(p:BProg):List D:=[sl (p.classes.map J3),dI p.slots,sl (cI p.gens),sl (p.methods.map TE),sl (p.nodes.map Kf),dI p.main]
@[simp] def TD(i:FInit):List D:=[.str i.slot,dI i.n]
@[simp] def NB(c:FClass):List D:=[.str c.name,sl (cS c.parents),sl (cS c.slots),sl (c.inits.map TD)]
@[simp] def TC(m:FMeth):List D:=[dI m.kind,.str m.name,sl (cS m.params)]++GH m.fact++J2 m.body
@[simp] def cFProg(p:FProg):List D:=[sl (p.classes.map NB),sl (p.methods.map TC)]++J2 p.main
@[simp] def MB(w:World):List D:=[sl (cII w.parents),sl (cI w.owner)]
theorem B5{O:Sig}{i j:Nat}{o:DObj}(h:O.set i o j=none):j≠i/\O j=none:=by
 by_cases hj:j=i
 ·subst hj;rw[w6]at h;cases h
 ·rw[w7 _ _ hj]at h;exact⟨hj,h⟩
theorem Aj{α:Type}{l:List α}{k:Nat}(h:¬k<l.length):l.drop k=[]:=List.drop_of_length_le (by omega)
theorem Ab{α:Type}{l:List α}{k:Nat}(h:k<l.length):l.drop k=l[k]::l.drop (k+1):=List.drop_eq_getElem_cons h
@[simp] theorem cI_nil:cI []=[]:=rfl
@[simp] theorem cS_nil:cS []=[]:=rfl
@[simp] theorem cII_nil:cII []=[]:=rfl
@[simp] theorem cI_take(l:List Int)(k:Nat):(cI l).take k=cI (l.take k):=by simp[cI]
@[simp] theorem cI_tail(l:List Int):(cI l).tail=cI l.tail:=by simp[cI]
@[simp] theorem cS_tail(l:List Str):(cS l).tail=cS l.tail:=by simp[cS]
theorem Bi(f:Fact):[dI f.op,dI f.arg,sl (cI f.path),dI f.cls,dI f.n,sl (f.kids.map D3)]=D3 f:=by simp
theorem Bj(f:FExp):[dI f.op,dI f.n,.str f.text,sl (f.kids.map J2)]=J2 f:=by simp
theorem AV(f:FFact):[dI f.op,.str f.name,sl (cS f.path),.str f.cls,dI f.n,sl (f.kids.map GH)]=GH f:=by simp
theorem Bh(i:Init):[dI i.slot,dI i.n]=IZ i:=rfl
theorem AN(c:BClass):[sl (cI c.parents),sl (cI c.slots),sl (c.inits.map IZ)]=J3 c:=rfl
theorem AY(m:BMeth):[dI m.kind,dI m.gen,dI m.fact.op,dI m.fact.arg,sl (cI m.fact.path),dI m.fact.cls,dI m.fact.n,sl (m.fact.kids.map D3),dI m.node]=TE m:=by simp
theorem AX(x:BNode):[dI x.op,dI x.n,sl (cI x.kids)]=Kf x:=rfl
theorem AW(p:BProg):[sl (p.classes.map J3),dI p.slots,sl (cI p.gens),sl (p.methods.map TE),sl (p.nodes.map Kf),dI p.main]=Ai p:=rfl
theorem AU(i:FInit):[.str i.slot,dI i.n]=TD i:=rfl
theorem AM(c:FClass):[.str c.name,sl (cS c.parents),sl (cS c.slots),sl (c.inits.map TD)]=NB c:=rfl
theorem AT(m:FMeth):dI m.kind :: .str m.name::sl (cS m.params)::dI m.fact.op :: .str m.fact.name::sl (cS m.fact.path) :: .str m.fact.cls::dI m.fact.n::sl (m.fact.kids.map GH)::J2 m.body=TC m:=by simp
theorem AS(p:FProg):sl (p.classes.map NB)::sl (p.methods.map TC)::J2 p.main=cFProg p:=by simp
theorem AR(w:World):[sl (cII w.parents),sl (cI w.owner)]=MB w:=rfl
def wtL{α:Type}(f:α->Nat):List α->Nat
 |[]=>0
 |x::l=>f x+wtL f l
theorem DG{α:Type}(f:α->Nat): ∀(l:List α) (k:Nat) (h:k<l.length),f l[k]<=wtL f l
 |x::l,0,_=>by simp[wtL]
 |x::l,k+1,h=>by
  have:=DG f l k (by simpa using h)
  simp only[List.getElem_cons_succ,wtL];omega
theorem DF{α:Type}(f:α->Nat)(hf:∀x,1<=f x): ∀l:List α,l.length<=wtL f l
 |[]=>Nat.le_refl _
 |x::l=>by
  have:=DF f hf l
  have:=hf x
  simp only[List.length_cons,wtL];omega
theorem MK{α:Type}(f:α->Nat): ∀l m:List α,wtL f (l++m)=wtL f l+wtL f m
 |[],m=>by simp[wtL]
 |x::l,m=>by simp only[List.cons_append,wtL,MK f l m];omega
def wtS:List Str->Nat:=wtL fun s=>1+s.length
mutual
def Fact.wt:Fact->Nat
 |.mk _ _ p _ _ k=>1+p.length+Fact.wts k
def Fact.wts:List Fact->Nat
 |[]=>0
 |f::l=>f.wt+Fact.wts l
end
mutual
def FExp.wt:FExp->Nat
 |.mk _ _ t k=>1+t.length+FExp.wts k
def FExp.wts:List FExp->Nat
 |[]=>0
 |f::l=>f.wt+FExp.wts l
end
mutual
def FFact.wt:FFact->Nat
 |.mk _ s p c _ k=>1+s.length+wtS p+c.length+FFact.wts k
def FFact.wts:List FFact->Nat
 |[]=>0
 |f::l=>f.wt+FFact.wts l
end
theorem Fact.wts_eq: ∀l,Fact.wts l=wtL Fact.wt l
 |[]=>by rw[Fact.wts,wtL]
 |f::l=>by rw[Fact.wts,wtL,Fact.wts_eq l]
theorem FExp.wts_eq: ∀l,FExp.wts l=wtL FExp.wt l
 |[]=>by rw[FExp.wts,wtL]
 |f::l=>by rw[FExp.wts,wtL,FExp.wts_eq l]
theorem FFact.wts_eq: ∀l,FFact.wts l=wtL FFact.wt l
 |[]=>by rw[FFact.wts,wtL]
 |f::l=>by rw[FFact.wts,wtL,FFact.wts_eq l]
theorem Fact.wt_eq(f:Fact):f.wt=1+f.path.length+wtL Fact.wt f.kids:=by cases f;rw[Fact.wt,Fact.wts_eq];rfl
theorem FExp.wt_eq(f:FExp):f.wt=1+f.text.length+wtL FExp.wt f.kids:=by cases f;rw[FExp.wt,FExp.wts_eq];rfl
theorem FFact.wt_eq(f:FFact):f.wt=1+f.name.length+wtS f.path+f.cls.length+wtL FFact.wt f.kids:=by cases f;rw[FFact.wt,FFact.wts_eq];rfl
theorem Fact.wt_pos(f:Fact):1<=f.wt:=by rw[Fact.wt_eq];omega
theorem FExp.wt_pos(f:FExp):1<=f.wt:=by rw[FExp.wt_eq];omega
theorem FFact.wt_pos(f:FFact):1<=f.wt:=by rw[FFact.wt_eq];omega
theorem Fact.wt_le(f:Fact):f.path.length<f.wt/\f.kids.length<f.wt /\ ∀(k:Nat) (h:k<f.kids.length),(f.kids[k]).wt<f.wt:=by
 have h1:=Fact.wt_eq f
 have h2:=DF Fact.wt Fact.wt_pos f.kids
 exact⟨by omega,by omega,fun k h=>by have:=DG Fact.wt f.kids k h;omega⟩
theorem FExp.wt_le(f:FExp):f.text.length<f.wt/\f.kids.length<f.wt /\ ∀(k:Nat) (h:k<f.kids.length),(f.kids[k]).wt<f.wt:=by
 have h1:=FExp.wt_eq f
 have h2:=DF FExp.wt FExp.wt_pos f.kids
 exact⟨by omega,by omega,fun k h=>by have:=DG FExp.wt f.kids k h;omega⟩
theorem FFact.wt_le(f:FFact):f.name.length<f.wt/\wtS f.path<f.wt/\f.cls.length<f.wt/\f.kids.length<f.wt /\ ∀(k:Nat) (h:k<f.kids.length),(f.kids[k]).wt<f.wt:=by
 have h1:=FFact.wt_eq f
 have h2:=DF FFact.wt FFact.wt_pos f.kids
 exact⟨by omega,by omega,by omega,by omega,fun k h=>by have:=DG FFact.wt f.kids k h;omega⟩
def BClass.wt(c:BClass):Nat:=1+c.parents.length+c.slots.length+c.inits.length
def BNode.wt(x:BNode):Nat:=1+x.kids.length
def BMeth.wt(m:BMeth):Nat:=1+m.fact.wt
def BProg.wt(p:BProg):Nat:=1+wtL BClass.wt p.classes+p.gens.length+wtL BMeth.wt p.methods+wtL BNode.wt p.nodes
def FInit.wt(i:FInit):Nat:=1+i.slot.length
def FClass.wt(c:FClass):Nat:=1+c.name.length+wtS c.parents+wtS c.slots+wtL FInit.wt c.inits
def FMeth.wt(m:FMeth):Nat:=1+m.name.length+wtS m.params+m.fact.wt+m.body.wt
def FProg.wt(p:FProg):Nat:=1+wtL FClass.wt p.classes+wtL FMeth.wt p.methods+p.main.wt
theorem BProg.wt_le(p:BProg):p.classes.length<p.wt/\p.gens.length<p.wt/\p.methods.length<p.wt/\p.nodes.length<p.wt /\
  (∀(k:Nat) (h:k<p.classes.length),(p.classes[k]).wt<p.wt)/\(∀(k:Nat) (h:k<p.methods.length),(p.methods[k]).wt<p.wt) /\ ∀(k:Nat) (h:k<p.nodes.length),(p.nodes[k]).wt<p.wt:=by
 have h1:=DF BClass.wt (fun x=>by unfold BClass.wt;omega) p.classes
 have h2:=DF BMeth.wt (fun x=>by unfold BMeth.wt;omega) p.methods
 have h3:=DF BNode.wt (fun x=>by unfold BNode.wt;omega) p.nodes
 unfold BProg.wt
 exact⟨by omega,by omega,by omega,by omega,fun k h=>by have:=DG BClass.wt p.classes k h;omega,fun k h=>by have:=DG BMeth.wt p.methods k h;omega,fun k h=>by have:=DG BNode.wt p.nodes k h;omega⟩
theorem FProg.wt_le(p:FProg):p.classes.length<p.wt/\p.methods.length<p.wt/\p.main.wt<p.wt /\
  (∀(k:Nat) (h:k<p.classes.length),(p.classes[k]).wt<p.wt)/\(∀(k:Nat) (h:k<p.methods.length),(p.methods[k]).wt<p.wt):=by
 have h1:=DF FClass.wt (fun x=>by unfold FClass.wt;omega) p.classes
 have h2:=DF FMeth.wt (fun x=>by unfold FMeth.wt;omega) p.methods
 unfold FProg.wt
 exact⟨by omega,by omega,by omega,fun k h=>by have:=DG FClass.wt p.classes k h;omega,fun k h=>by have:=DG FMeth.wt p.methods k h;omega⟩
theorem FClass.wt_le(c:FClass):c.name.length<c.wt/\wtS c.parents<c.wt/\wtS c.slots<c.wt/\c.inits.length<c.wt /\ ∀(k:Nat) (h:k<c.inits.length),(c.inits[k]).slot.length<c.wt:=by
 have h1:=DF FInit.wt (fun x=>by unfold FInit.wt;omega) c.inits
 unfold FClass.wt
 exact⟨by omega,by omega,by omega,by omega,fun k h=>by have:=DG FInit.wt c.inits k h;unfold FInit.wt at this⊢; omega⟩
end Go.DL
namespace Go.Proofs
open Go.Proofs.Tryz
open Go.Shelf
def laysSort_ren:Go.Shelf.Ren:=⟨fun x=>match x with|189=>240|125=>289|257=>288|128=>335|129=>316|294=>326|295=>327|296=>328|297=>329|298=>330|299=>331|216=>332|300=>333|301=>334|328=>360|329=>361|330=>362|331=>363|332=>364|215=>365|343=>383|n=>n,fun x=>match x with|28=>23|3=>3|46=>320|0=>0|51=>373|53=>338|4=>4|183=>400|182=>399|131=>227|5=>5|9=>9|218=>440|222=>425|228=>454|229=>249|n=>n,fun n=>n⟩
theorem laysSort:Lays.n189 prog laysSort_ren:=
 {mixed:=Eq.refl true,f125:=func289.trans (congrArg some (by kernel_rfl)),f128:=func335.trans (congrArg some (by kernel_rfl)),f129:=func316.trans (congrArg some (by kernel_rfl)),f189:=func240.trans (congrArg some (by kernel_rfl)),f215:=func365.trans (congrArg some (by kernel_rfl)),f216:=func332.trans (congrArg some (by kernel_rfl)),f257:=func288.trans (congrArg some (by kernel_rfl)),f294:=func326.trans (congrArg some (by kernel_rfl)),f295:=func327.trans (congrArg some (by kernel_rfl)),f296:=func328.trans (congrArg some (by kernel_rfl)),f297:=func329.trans (congrArg some (by kernel_rfl)),f298:=func330.trans (congrArg some (by kernel_rfl)),f299:=func331.trans (congrArg some (by kernel_rfl)),f300:=func333.trans (congrArg some (by kernel_rfl)),f301:=func334.trans (congrArg some (by kernel_rfl)),f328:=func360.trans (congrArg some (by kernel_rfl)),f329:=func361.trans (congrArg some (by kernel_rfl)),f330:=func362.trans (congrArg some (by kernel_rfl)),f331:=func363.trans (congrArg some (by kernel_rfl)),f332:=func364.trans (congrArg some (by kernel_rfl)),f343:=func383.trans (congrArg some (by kernel_rfl)),t0:=underlying0,a0:=isAgg0,z0:=sizeOf0,v0:=zeroValue0,t3:=underlying3,a3:=isAgg3,z3:=sizeOf3,v3:=zeroValue3,t4:=underlying4,a4:=isAgg4,z4:=sizeOf4,v4:=zeroValue4,t5:=underlying5,a5:=isAgg5,z5:=sizeOf5,v5:=zeroValue5,t9:=underlying9,a9:=isAgg9,z9:=sizeOf9,v9:=zeroValue9,t28:=underlying23,a28:=isAgg23,z28:=sizeOf23,v28:=zeroValue23,t46:=underlying320,a46:=isAgg320,z46:=sizeOf320,v46:=zeroValue320,t51:=underlying373,a51:=isAgg373,z51:=sizeOf373,v51:=zeroValue373,t53:=underlying338,a53:=isAgg338,z53:=sizeOf338,v53:=zeroValue338,t131:=underlying227,a131:=isAgg227,z131:=sizeOf227,v131:=zeroValue227,t182:=underlying399,a182:=isAgg399,z182:=sizeOf399,v182:=zeroValue399,t183:=underlying400,a183:=isAgg400,z183:=sizeOf400,v183:=zeroValue400,t218:=underlying440,a218:=isAgg440,z218:=sizeOf440,v218:=zeroValue440,t222:=underlying425,a222:=isAgg425,z222:=sizeOf425,v222:=zeroValue425,t228:=underlying454,a228:=isAgg454,z228:=sizeOf454,v228:=zeroValue454,t229:=underlying249,a229:=isAgg249,z229:=sizeOf249,v229:=zeroValue249 }
end Go.Proofs
namespace Go.DL
open Go.Proofs.Tryz
open Go Go.Proofs Go.Sort
def EB(l:List Int):List Int:=l.mergeSort fun x y=>decide (x<=y)
theorem G2(l:List Int):(EB l).length=l.length:=by unfold EB;exact List.length_mergeSort _
theorem LR(l:List Int)(j:Nat)(h:j<l.length):l.toArray[j]! = l[j]:=by simp[getElem!_pos,h]
theorem Sn(l:List Int)(st:MR)(O:Sig)(hm:mOK O 1 st (cI l))(hl:l.length<=1073741824):
  DCall prog 240 [mD st l.length] (mS O st (cI l)) fun x U'=>x=.ret (.tup [])/\U'=mS O st (cI (EB l)):=by
 have hL:∀f∈[laysSort_ren.f 189,laysSort_ren.f 257,laysSort_ren.f 125,laysSort_ren.f 294,laysSort_ren.f 295,laysSort_ren.f 296,laysSort_ren.f 297,laysSort_ren.f 298,laysSort_ren.f 299,laysSort_ren.f 216,laysSort_ren.f 300,laysSort_ren.f 301,laysSort_ren.f 129,laysSort_ren.f 328,laysSort_ren.f 329,laysSort_ren.f 330,laysSort_ren.f 331,laysSort_ren.f 332,laysSort_ren.f 215,laysSort_ren.f 343],f<prog.funcs.size:=by
  rw[Ac];decide
 refine⟨by rw[Ac];decide,AI func240 (by rfl) (by rfl),fun g w vs hs ha=>?_⟩
 obtain⟨v,r,rfl,hv,rfl⟩:=ha
 cases st with
 |none=>
  have bt:l=[]:=by have:cI l=[]:=hm;simpa[cI] using this
  subst bt
  have bi:v=.slice none 0 0:=hv
  subst bi
  refine(Ka (fun D=>AnyS.slices_Sort_int_none_alone laysSort D none 0 w) hL {}).mono ?_
  rintro e w' ⟨rfl,rfl⟩
  refine⟨g,.ret (.tup []),_,.refl g,hs,⟨_,rfl,[],rfl,rfl⟩,rfl,?_⟩
  simp[mS]
 | some x =>
  obtain⟨i,cap,rest⟩:=x
  obtain⟨h1,h2,h3,h4⟩:=hm
  obtain⟨b,hb,hv⟩:=hv
  subst hv
  obtain⟨b',vs,ty,bd,aa,hr⟩:=hs.obj i _ (w6 ..)
  obtain rfl:b'=b:=by rw[hb]at bd;cases bd;rfl
  have ah:∀m:List Int,(cI m).flatten=m.map (D.int .i64):=fun m=>by induction m with
   |nil=>rfl
   |cons x m ih=>simp only[cI,List.map_cons,List.flatten_cons]at ih⊢; rw[ih];rfl
  have hlen:=RepL.length hr
  simp only[Array.length_toList,List.length_append,ah,List.length_map]at hlen
  have aP:∀j (hj:j<l.length),vs[j]? = some (.int .i64 l[j]):=by
   intro j hj
   have:=RepL.get hr j
   rw[List.getElem?_append_left (by simp[ah,hj]),ah]at this
   simp only[List.getElem?_map,List.getElem?_eq_getElem hj,Option.map_some,Option.getD_some,Array.getElem?_toList]at this
   have aH:j<vs.size:=by omega
   rw[Array.getElem?_eq_getElem aH]at this⊢
   have this':vs[j]=.int .i64 l[j]:=this
   rw[this']
  have hH:Holds (Value.int .i64) w b' 0 l.toArray:=by
   intro j hj
   have a8:j<l.length:=by simpa using hj
   refine⟨?_,by simp[Go.World.frozen?, aa]⟩
   simp only[Go.World.cell?, aa,Nat.zero_add]
   rw[LR l j a8];exact aP j a8
  have bC:b'<w.heap.size:=(Array.getElem?_eq_some_iff.1 aa).1
  refine(Ka (fun D=>AnyS.slices_Sort_int_alone laysSort D b' 0 cap l w hH bC (by omega)) hL {}).mono ?_
  rintro e w' ⟨rfl,q,os,rfl⟩
  refine⟨g,.ret (.tup []),_,.refl g,?_,⟨_,rfl,[],rfl,rfl⟩,rfl,rfl⟩
  have bj:=G2 l
  have ag:=hs.setObj (i:=i) (b:=b') (ds':=(cI (EB l)).flatten++rest) (vs':=putCells (Value.int .i64) 0 (EB l).toArray vs) (ty:=ty) (w6 ..) hb ?_ ⟨vs,aa⟩
  ·have e1:(mS O (some (i,cap,rest)) (cI l)).set i (.cells ((cI (EB l)).flatten++rest))=mS O (some (i,cap,rest)) (cI (EB l)):=Sig.set_set ..
   rw[e1]at ag
   refine ag.later (fun k x hx=>?_) rfl
   have hk:k<w.heap.size:=by have:=(Array.getElem?_eq_some_iff.1 hx).1;simpa[setB] using this
   simp only[grow,putRow,mapBlock]
   have ea:(Sort.ahead w q).heap=w.heap:=rfl
   rw[ea]
   rw[Array.getElem?_append_left (by simpa using hk)]
   by_cases aO:k=b'
   ·subst aO
    rw[Ee aa]at hx
    rw[Array.getElem?_modify,if_pos rfl,aa,<-hx]
    rfl
   ·rw[Ed aO]at hx
    rw[Array.getElem?_modify,if_neg (fun e=>aO e.symm),hx]
  ·refine AE (by simp[putCells,ah];omega) fun j d u hd hu=>?_
   rw[ah]at hd
   simp only[putCells,Array.getElem?_toList,Array.getElem?_mapIdx,Nat.zero_le,true_and,Nat.zero_add,List.size_toArray,Nat.sub_zero]at hu
   have aH:j<vs.size:=by
    rcases Nat.lt_or_ge j vs.size with h|h
    ·exact h
    ·rw[Array.getElem?_eq_none h]at hu;cases hu
   rw[Array.getElem?_eq_getElem aH]at hu
   simp only[Option.map_some,Option.some.injEq]at hu
   by_cases hj:j<(EB l).length
   ·rw[if_pos hj,LR _ _ hj]at hu
    rw[List.getElem?_append_left (by simpa using hj),List.getElem?_map,List.getElem?_eq_getElem hj]at hd
    simp only[Option.map_some,Option.some.injEq]at hd
    subst hd hu
    exact rfl
   ·rw[if_neg hj]at hu
    rw[List.getElem?_append_right (by simpa using hj)]at hd
    have:=RepL.get hr j
    rw[List.getElem?_append_right (by simp[ah];omega),ah]at this
    simp only[List.length_map]at hd this
    rw[bj]at hd
    rw[hd,Array.getElem?_toList,Array.getElem?_eq_getElem aH,hu]at this
    exact this
end Go.DL
