/- A part of the proof. -/
import Derived.Test.YteldimffglchkaaGreatDoorQ08
import Derived.Laws.BytesArg
import Derived.Lib.AppendStr
set_option linter.all false
namespace Go.DL
open Go
section
variable (P:Program)(ro:Ro)(n:Nat)(ops:Array Oper)(N:Nat)(Q:DX->St->Prop)(df:List DDf)
def l5 (E C K:eQ):eQ->(Sig->Prop)->Fr->Sig->Prop
  |[],_,γ,O=>au P ro n ops Q [] ⟨γ,O,df⟩
  | i::r,B,γ,O => ∃ o,ops[i]? = some o /\
    ((∃ d,(∀ s,(C.contains i=true->B s)->Calm P n ops N s γ o d)/\l5 E C K r B (putD o.dst d γ) O) \/
     (E.contains i=true/\Eff P ro n ops df γ O o (fun d U'=> ∃B1:Sig->Prop,B1 U'/\(K.contains i=false->B1=B)/\l5 E C K r B1 (putD o.dst d γ) U') (fun d U'=> ∀V',Q (.panic d) ⟨V',U',df⟩)))
def MOI:List (Bool × Bool × Bool × Oper)->(Sig->Prop)->Fr->Sig->Prop
  |[],_,γ,O=>au P ro n ops Q [] ⟨γ,O,df⟩
  | (e,c,k,o)::r,B,γ,O =>
    (∃ d,(∀ s,(c=true->B s)->Calm P n ops N s γ o d)/\MOI r B (putD o.dst d γ) O) \/
     (e=true/\Eff P ro n ops df γ O o (fun d U'=> ∃B1:Sig->Prop,B1 U'/\(k=false->B1=B)/\MOI r B1 (putD o.dst d γ) U') (fun d U'=> ∀V',Q (.panic d) ⟨V',U',df⟩))
end
section
variable {P:Program}{ro:Ro}{n:Nat}{ops:Array Oper}{N:Nat}{B:Sig->Prop}{Q:DX->St->Prop}{df:List DDf}{E C K:eQ}{tab:Nat->Ty}
theorem l5.alike: ∀(l:eQ) {B:Sig->Prop}{γ V':Fr}{O:Sig},kP γ V'->l5 P ro n ops N Q df E C K l B γ O->l5 P ro n ops N Q df E C K l B V' O
 |[],_,_,_,_,h,k=>Cn h k
 |i::r,_,_,_,_,h,⟨o,ho,k⟩=>⟨o,ho,(match k with
  |.inl ⟨d,h2,h3⟩=>.inl ⟨d,fun s hs=>(h2 s hs).congr fun t _=>h t,l5.alike r (h.put _ _) h3⟩
  |.inr ⟨h1,h2⟩=>.inr ⟨h1,h2.congr (fun t _=>h t) fun d U' ⟨S1,h3,h5,h4⟩=>⟨S1,h3,h5,l5.alike r (h.put _ _) h4⟩⟩)⟩
theorem Jr{i:Nat}{oi:Oper}(hi:ops[i]? = some oi)(post:eQ): ∀(pre:eQ) (γ:Fr) (O:Sig),
  (∀x∈pre,E.contains x=false/\(K.contains i&&C.contains x)=false /\ ∃ox,ops[x]? = some ox/\oi.apart ops ox=true)->l5 P ro n ops N Q df E C K (pre++i::post) B γ O->l5 P ro n ops N Q df E C K (i::(pre++post)) B γ O
 |[],_,_,_,h=>h
 | x::pre,γ,O,hp,h=>by
  obtain⟨fL,gc,ox,fe,f8⟩:=hp x j1;obtain⟨a1,a2,a3⟩:=Oper.apart_spec f8;obtain⟨ox',fc,hx⟩:=h;obtain rfl:ox'=ox:=by rw[fe]at fc;cases fc;rfl
  rcases hx with⟨d,hy,h⟩|⟨hE,_⟩
  ·obtain⟨oi',b7,hh⟩:=Jr hi post pre _ O (fun y hy=>hp y (by simp[hy])) h;obtain rfl:oi'=oi:=by rw[hi]at b7;cases b7;rfl
   refine⟨oi',hi,?_⟩;rcases hh with⟨e,h2,h3⟩|⟨h1,h2⟩
   ·refine .inl ⟨e,fun s hs=>(h2 s hs).congr fun t ht=>Al fun hd=>a3 t hd ht,ox',fe,.inl ⟨d,fun s hs=>(hy s hs).congr fun t ht=>(Al fun hd=>a1 t hd ht).symm,?_⟩⟩;exact l5.alike _ (AN _ _ _ fun t p q=>a2 t p q) h3
   ·refine .inr ⟨h1,h2.congr (fun t ht=>Al fun hd=>a3 t hd ht) fun e U' ⟨S1,h3,h5,h4⟩=>⟨S1,h3,h5,ox',fe,.inl ⟨d,?_,l5.alike _ (AN _ _ _ fun t p q=>a2 t p q) h4⟩⟩⟩;have gb:∀s,(C.contains x=true->B s)->Calm P n ops N s (putD oi'.dst e γ) ox' d:=fun s hs=>(hy s hs).congr fun t ht=>(Al fun hd=>a1 t hd ht).symm;cases hk:K.contains i with
    |false=>rw[h5 hk];exact gb
    |true=>
     rw[hk,bq]at gc;exact fun s _=>gb s fun hc=>by rw[gc]at hc;cases hc
  ·rw[fL]at hE;cases hE
theorem Si(hN:P.funcs.size=N){ord:eQ}(hB:DT ops E C K ord=true){g0:G}{rr:Rx}(hr:kh g0 ro rr): ∀(m:Nat) (r:eQ) (listed:Array Bool) (B:Sig->Prop) (γ:Fr) (O:Sig),r.length=m->listed.size=ops.size->
  r=ord.filter (fun i=> !listed.getD i true)->kC ops listed->l5 P ro n ops N Q df E C K r B γ O->B O->
   ∀(g:G) (w:World) (a:Act),g0.le g->kI P g n ⟨γ,O,df⟩ a w->wpAnyIn (FX P rr) 0 P .any ops (kE P g0 n Q) m listed a w:=by
 unfold DT at hB;simp only[aF]at hB;obtain⟨⟨b8,fq⟩,_⟩:=hB
 have b6:∀(r:eQ) (listed:Array Bool),r=ord.filter (fun i=> !listed.getD i true)->∀i∈Region.ready .any ops listed,i∈r:=by
  intro r listed hf i hi;obtain⟨h1,o,ho,_⟩:=mem_ready.1 hi;have:=aW.1 fq i (by simpa using(aI.1 ho).1);rw[hf,bI];exact⟨by simpa using this,by rw[h1];rfl⟩
 intro m
 induction m with
 |zero=>
  intro r listed B γ O hl hsz hf eZ h hC g w a hg hs;obtain rfl:r=[]:=bf.1 hl;refine⟨cy.2 fun i hi=>?_,?_⟩
  ·have:=b6 [] listed hf i hi;cases this
  ·exact kE.le hg (h g w a rr (hr.mono hg) hs)
 | succ m ih =>
  intro r listed B γ O hl hsz hf eZ h hC g w a hg hs;obtain⟨y,t,rfl⟩:∃y t,r=y::t:=by cases r with|nil=>cases hl|cons y t=>exact⟨y,t,rfl⟩
  refine⟨fun he=>?_,fun i hi=>?_⟩
  ·exfalso
   obtain⟨l1,l2,eU,fV,hy,gB⟩:=bQ.1 hf.symm;subst eU;obtain⟨h1,_,_,o,ho,fF,_⟩:=E5 l1 [] b8
   have:y∈Region.ready .any ops listed:=by
    refine mem_ready.2 ⟨by simpa using hy,o,ho,fun e hm hb=>?_⟩;rcases fF e hm hb with h4|h4
    ·have h5:=fV _ h4;simp only[bZ,dm]at h5
     have c9:e.on<listed.size:=by
      have:e.on∈l1++y::l2:=by simp[h4]
      obtain⟨p1,p2,hp⟩:=bM this;rw[hp]at b8;obtain⟨_,_,_,o',fb,_⟩:=E5 p1 [] b8;rw[hsz];exact(aI.1 fb).1
     simpa[c9] using h5
    ·cases h4
   rw[he]at this;cases this
  ·obtain⟨pre,post,d8⟩:=bM (b6 _ listed hf i hi);rw[d8]at hf h hl;obtain⟨l1',l2',eU,fp,f0⟩:=cG.1 hf.symm;obtain⟨m1,m2,fo,fS,gE,fZ⟩:=bQ.1 f0;have d5:ord=(l1'++m1)++i::m2:=by rw[eU,fo];simp
   rw[d5]at b8;obtain⟨n1,_,n3,o,ho,fF,hx⟩:=E5 (l1'++m1) [] b8;obtain⟨fW,o',fb,ff⟩:=mem_ready.1 hi;obtain rfl:o'=o:=by rw[ho]at fb;cases fb;rfl
   have eV:=Jr ho post pre γ O (fun x fB=>by
    have fM:x∈l1'++m1:=by
     have:x∈l1'.filter (fun i=> !listed.getD i true):=by rw[fp];exact fB
     simp[(bI.1 this).1]
    have fA:listed.getD x true=false:=by
     have:x∈l1'.filter (fun i=> !listed.getD i true):=by rw[fp];exact fB
     simpa using(bI.1 this).2
    rcases hx x fM with h4|h4
    ·exfalso
     have:=CP eZ ops.size i x o' ho ff h4
     rcases ce x listed.size with c9|c9
     ·simp[c9]at this fA;rw[fA]at this;cases this
     ·simp[cb c9]at this
    ·exact h4) h
   have b9:pre++post=ord.filter (fun j=> !(listed.setIfInBounds i true).getD j true):=by
    have fX:i<listed.size:=by
     rw[hsz];exact(aI.1 ho).1
    rw[d5,bV,cw];have e1:(listed.setIfInBounds i true).getD i true=true:=by simp[fX]
    rw[e1,Av n1,Av n3];simp only[cr,bm,bc,bV,fp,fZ];rw[cB.2 (fun x hx=>by simpa using fS x hx),bl]
   have hlen:(pre++post).length=m:=by simp at hl⊢; omega
   obtain⟨o2,fC,hh⟩:=eV;obtain rfl:o2=o':=by rw[ho]at fC;cases fC;rfl
   unfold wpOpIn;simp only[ho];rcases hh with⟨d,hy,hM⟩|⟨_,hE⟩
   ·exact Ez hN (hr.mono hg) hg hs (Sub.refl _) (hy _ fun _=>hC) fun g' w' a' fh eX=>ih _ _ _ _ _ hlen (by simpa using hsz) b9 (eZ.set hi) hM hC g' w' a' (hg.trans fh) eX
   ·exact Cs (hr.mono hg) hg hs hE (fun g' w' a' d U' fh hR eX=>by obtain⟨B1,h3,_,h4⟩:=hR;exact ih _ _ _ _ _ hlen (by simpa using hsz) b9 (eZ.set hi) h4 h3 g' w' a' (hg.trans fh) eX) fun d U' hp=>hp
theorem G1{lo:List Oper}: ∀{ord:eQ}{lp:List (Bool×Bool×Bool×Oper)}{B:Sig->Prop}{γ:Fr}{O:Sig},LR lo E C K ord=some lp->MOI P ro n lo.toArray N Q df lp B γ O->l5 P ro n lo.toArray N Q df E C K ord B γ O
 |[],_,_,_,_,hp,h=>by cases hp;exact h
 |i::r,lp,B,γ,O,hp,h=>by
  simp only[LR]at hp;split at hp<;>(try (cases hp;done));rename_i o ho;split at hp<;>(try (cases hp;done));rename_i l hl;cases hp;refine⟨o,by rw[I9]at ho;simpa using ho,?_⟩;rcases h with⟨d,h2,h3⟩|⟨h1,h2⟩
  ·exact .inl ⟨d,h2,G1 hl h3⟩
  ·exact .inr ⟨h1,h2.congr (fun _ _=>rfl) fun d U' ⟨S1,h3,h5,h4⟩=>⟨S1,h3,h5,G1 hl h4⟩⟩
theorem Xs(hN:P.funcs.size=N)(hm:P.follows .mixedOrders=true){l:List Oper}{id:Nat}{γ:Fr}{O:Sig}(ord E C K:eQ)(B:Sig->Prop)(hB:DT l.toArray E C K ord=true)(hC:B O)
  {lp:List (Bool×Bool×Bool×Oper)} (fU:LR l E C K ord=some lp) (h0:MOI P ro n l.toArray N Q df lp B γ O):DWp P ro n (.region id l.toArray true) Q ⟨γ,O,df⟩:=by
 intro g w a r hr hs;refine wpIn_region_any hm ?_
 have eZ:kC l.toArray (Array.replicate l.toArray.size false):=by
  intro q o _ hq;rcases ce q l.length with h'|h'
  ·simp[h']at hq
  ·simp[h']at hq
 have eX:kI P g n ⟨γ,O,df⟩ a { w with drawn:=w.drawn+1 }:=
  ⟨⟨fun b o v h=>hs.sim.imm b o v h,hs.sim.keep,fun i o h=>by
   have:=hs.sim.obj i o h
   cases o<;>exact this,hs.sim.inj,hs.sim.free,hs.sim.htop,hs.sim.hdom,hs.sim.fin,hs.sim.io,hs.sim.tab⟩,hs.tmps,hs.df⟩
 have c9:∀i∈ord,i<l.toArray.size:=by
  intro i hi;obtain⟨p1,p2,hp⟩:=bM hi;have d7:=hB;unfold DT at d7;simp only[aF]at d7;rw[hp]at d7;obtain⟨_,_,_,o',fb,_⟩:=E5 p1 [] d7.1.1;exact(aI.1 fb).1
 have hlen:ord.length=l.toArray.size:=by
  have d7:=hB;unfold DT at d7;simp only[aF,cR]at d7;exact d7.2
 have:=Si hN hB hr ord.length ord (Array.replicate l.toArray.size false) B γ O rfl j1 (D4 c9).symm eZ (G1 fU h0) hC g _ a (.refl g) eX;rw[hlen]at this;exact this
theorem Pd(ht:AZ P tab){e c k:Bool}{t:Nat}{op:Op}{ty:TypeId}{pos:String}{after:Array Edge}{d:D}{l:List (Bool×Bool×Bool×Oper)}{γ Sr:Fr}{O:Sig}(hr:DF op=true)(eW:decide (t<n)=true)(hl:A5 γ (Aa op.operands.toList)=some Sr)(hd:∀s,(c=true->B s)->jX tab Sr s op=some d)
  (h:MOI P ro n ops N Q df l B ((t,d)::γ) O):MOI P ro n ops N Q df ((e,c,k,⟨some t,op,ty,pos,after,none⟩)::l) B γ O:=by
 refine .inl ⟨d,fun s hs=>?_,h⟩;have fG:=(Bg (CK hl)) ▸ hd s hs;refine⟨eW,.inl ⟨by rw[Ar];rfl,BU hr,H7 ht fG,fun U' hZ g w a hs hT=>?_⟩⟩;refine Ex ht hs hT (?_:jX tab (only _ γ) U' op=some d);rw[Bg (V':=γ) fun x hx=>Bf (o:=⟨some t,op,ty,pos,after,none⟩) hx];exact Ey hZ fG
theorem Sw(ht:AZ P tab){c k:Bool}{o:Oper}{d:D}{U':Sig}{l:List (Bool×Bool×Bool×Oper)}{γ:Fr}{O:Sig}(B1:Sig->Prop)(ho:Ax n o=true)(hw:AJ ops γ o=some true)(he:eopD tab γ O o.op=some (d,U'))(hC:B1 U')(hk:k=false->B1=B)
  (h:MOI P ro n ops N Q df l B1 (putD o.dst d γ) U'):MOI P ro n ops N Q df ((true,c,k,o)::l) B γ O:=by
 refine .inr ⟨rfl,ho,by rw[Ar];exact hw,?_⟩;refine Gz ht (by rw[Ar];exact hw) (by rw[BI (V':=γ) fun x hx=>Bf hx];exact he) ho (AD ⟨rfl,?_⟩);cases hd:o.dst with
 |none=>rw[hd]at h;exact⟨B1,hC,hk,h⟩
 |some t=>
  rw[hd]at h;simp only[putD,A8,bu];exact⟨B1,hC,hk,h⟩
theorem moI_1{c k:Bool}{t:Nat}{op:Op}{ty:TypeId}{pos:String}{after:Array Edge}{l:List (Bool×Bool×Bool×Oper)}{γ:Fr}{O:Sig}(B1:Sig->Prop)(hk:k=false->B1=B)(h:∀U2,(∀x∈op.operands,ev U2 x=ev γ x)->au P ro n ops (EQ df (some t) (fun d U'=>B1 U'/\MOI P ro n ops N Q df l B1 ((t,d)::γ) U') (fun d U'=> ∀V',Q (.panic d) ⟨V',U',df⟩)) [⟨some t,op,ty,pos,after,none⟩] ⟨U2,O,df⟩)(eW:decide (t<n)=true)(hw:AJ ops (only (Oper.looksAt ops ⟨some t,op,ty,pos,after,none⟩) γ) ⟨some t,op,ty,pos,after,none⟩=some true):MOI P ro n ops N Q df ((true,c,k,⟨some t,op,ty,pos,after,none⟩)::l) B γ O:=
 .inr ⟨rfl,eW,hw,NG (h _ fun x hx=>Bf (o:=⟨some t,op,ty,pos,after,none⟩) hx) fun x s hq=>by
  cases x with
  |normal=>exact⟨hq.1,⟨B1,hq.2.1,hk,hq.2.2⟩⟩
  |panic d=>exact hq
  |_=>exact hq⟩
end
def isNw(o:Oper):Option Nat:=match o with
 |⟨some t,.alloc _,_,_,_,none⟩=>some t
 |⟨some t,.makeSlice _ _ _,_,_,_,none⟩=>some t
 |_=>none
def SR{o:Oper}{t:Nat}(h:isNw o=some t):(∃T ty pos af,o=⟨some t,.alloc T,ty,pos,af,none⟩) \/ ∃T l m ty pos af,o=⟨some t,.makeSlice T l m,ty,pos,af,none⟩:=by
 unfold isNw at h;split at h
 ·cases h;exact .inl ⟨_,_,_,_,rfl⟩
 ·cases h;exact .inr ⟨_,_,_,_,_,_,rfl⟩
 ·cases h
def IQ{o:Oper}{t:Nat}(h:isNw o=some t):o.dst=some t:=by rcases SR h with⟨_,_,_,_,rfl⟩|⟨_,_,_,_,_,_,rfl⟩<;>rfl
def newD(tab:Nat->Ty)(n:Nat)(γ:Fr)(o:Oper):Option ((Nat->D)×jP):=match o with
 |⟨some t,.alloc T,_,_,_,none⟩=>if decide (t<n)&&!A2 (tab T).k then some (fun k=>.ptr k 0,.cells (tab T).zero) else none
 |⟨some t,.makeSlice T l m,_,_,_,none⟩=>match (tab T).k,ev γ l,ev γ m with
  |.slice e,.int .i64 a,.int .i64 c=>if decide (t<n)&&(!A2 (tab e).k&&decide (0<(tab e).size/\0<=c/\a=c/\c.toNat*(tab e).bytes<=140737488355328/\c<=9223372036854775807)) then some (fun k=>.am k 0 c.toNat c.toNat,.cells (List.replicate c.toNat (tab e).zero).flatten) else none
  |_,_,_=>none
 |_=>none
def Gq{tab:Nat->Ty}{n:Nat}{γ V':Fr}{ops:Array Oper}{o:Oper}(h:∀t∈o.looksAt ops,getD γ t=getD V' t):newD tab n γ o=newD tab n V' o:=by
 have he:∀x∈o.op.operands,ev γ x=ev V' x:=fun x hx=>by rw[<-Bf (ops:=ops) hx,I8 h,Bf hx]
 unfold newD;split
 ·rfl
 ·rw[he _ (by simp[Op.operands]),he _ (by simp[Op.operands])]
 ·rfl
def FinS(O:Sig):Prop:= ∃m, ∀k,m<=k->O k=none
def FinS.set{O:Sig}(h:FinS O)(k:Nat)(o:jP):FinS (O.set k o):=by
 obtain⟨m,hm⟩:=h;exact⟨m+k+1,fun j hj=>by rw[w7 _ _ j0];exact hm j j0⟩
def Sim.finS{P:Program}{g:G}{O:Sig}{w:World}(hs:Sim P g O w):FinS O:=by
 obtain⟨m,hm⟩:=hs.fin;refine⟨m,fun k hk=>?_⟩;cases h:O k with
 |none=>rfl
 |some o=>
  have hr:=hs.obj k o h;have hn:=hm k hk;have hT:∀n v,g.hist k n=some v->False:=fun n v hv=>by have:=hs.hdom k n v hv;rw[hn]at this;cases this
  cases o with
  |cells ds=>obtain⟨_,_,_,h,_⟩:=hr;rw[hn]at h;cases h
  |tcells ty ds=>obtain⟨_,_,h,_⟩:=hr;rw[hn]at h;cases h
  |mcells ds=>obtain⟨_,_,_,h,_⟩:=hr;rw[hn]at h;cases h
  |map l=>obtain⟨_,_,_,h,_⟩:=hr;rw[hn]at h;cases h
  |tail sz n=>rcases hr with⟨h,_⟩|⟨_,_,_,_,_,h,_⟩<;>exact(hT _ _ h).elim
  |loop=>obtain⟨_,_,_,_,h,_⟩:=hr;rw[hn]at h;cases h
  |defs=>obtain⟨_,h,_⟩:=hr;rw[hn]at h;cases h
  |iter=>obtain⟨_,h,_⟩:=hr;rw[hn]at h;cases h
section
variable (P:Program)(ro:Ro)(n:Nat)(ops:Array Oper)(N:Nat)(S0:Sig)(Q:DX->St->Prop)(df:List DDf)(tab:Nat->Ty)
def jk(e:Bool)(o:Oper)(γ:Fr)(O:Sig)(K:Fr->Sig->Prop):Prop:=
 match isNw o with
 |some t=> ∃mk obj,newD tab n γ o=some (mk,obj) /\ ∀k,O k=none->K ((t,mk k)::γ) (O.set k obj)
 |none=>(∃d,Calm P n ops N S0 γ o d/\K (putD o.dst d γ) O) \/
  (e=true/\Eff P ro n ops df γ O o (fun d U'=>Sub S0 U'/\K (putD o.dst d γ) U') (fun d U'=> ∀V',Q (.panic d) ⟨V',U',df⟩))
def kL(E:eQ):eQ->Fr->Sig->Prop
 |[],γ,O=>au P ro n ops Q [] ⟨γ,O,df⟩
 |i::r,γ,O=> ∃o,ops[i]? = some o/\jk P ro n ops N S0 Q df tab (E.contains i) o γ O (kL E r)
def MONw:List (Bool×Oper)->Fr->Sig->Prop
 |[],γ,O=>au P ro n ops Q [] ⟨γ,O,df⟩
 |(e,o)::r,γ,O=>jk P ro n ops N S0 Q df tab e o γ O (MONw r)
end
section
variable {P:Program}{ro:Ro}{n:Nat}{ops:Array Oper}{N:Nat}{S0:Sig}{Q:DX->St->Prop}{df:List DDf}{E:eQ}{tab:Nat->Ty}
theorem jk.mono{e:Bool}{o:Oper}{γ V':Fr}{O:Sig}{K K':Fr->Sig->Prop}(h:jk P ro n ops N S0 Q df tab e o γ O K)(fg:kP γ V')(hK:∀γ V' O,kP γ V'->K γ O->K' V' O):jk P ro n ops N S0 Q df tab e o V' O K':=by
 unfold jk at h⊢;split at h
 ·obtain⟨mk,obj,h1,h2⟩:=h;exact⟨mk,obj,by rw[<-h1];exact(Gq (ops:=ops) fun t _=>fg t).symm,fun k hk=>hK _ _ _ (fg.put (some _) _) (h2 k hk)⟩
 ·rcases h with⟨d,h2,h3⟩|⟨h1,h2⟩
  ·exact .inl ⟨d,h2.congr fun t _=>fg t,hK _ _ _ (fg.put _ _) h3⟩
  ·exact .inr ⟨h1,h2.congr (fun t _=>fg t) fun d U' ⟨h3,h4⟩=>⟨h3,hK _ _ _ (fg.put _ _) h4⟩⟩
theorem kL.alike: ∀(l:eQ) {γ V':Fr}{O:Sig},kP γ V'->kL P ro n ops N S0 Q df tab E l γ O->kL P ro n ops N S0 Q df tab E l V' O
 |[],_,_,_,h,k=>Cn h k
 |i::r,_,_,_,h,⟨o,ho,k⟩=>⟨o,ho,k.mono h fun _ _ _ h' k'=>kL.alike r h' k'⟩
theorem Ix{i:Nat}{oi:Oper}(hi:ops[i]? = some oi)(post:eQ): ∀(pre:eQ) (γ:Fr) (O:Sig),FinS O->
  (∀x∈pre,E.contains x=false /\ ∃ox,ops[x]? = some ox/\oi.apart ops ox=true/\((isNw ox).isSome=true->(isNw oi).isSome=true))->kL P ro n ops N S0 Q df tab E (pre++i::post) γ O->kL P ro n ops N S0 Q df tab E (i::(pre++post)) γ O
 |[],_,_,_,_,h=>h
 | x::pre,γ,O,hF,hp,h=>by
  obtain⟨fL,ox,fe,f8,fg⟩:=hp x j1;obtain⟨a1,a2,a3⟩:=Oper.apart_spec f8;obtain⟨ox',fc,hx⟩:=h;obtain rfl:ox'=ox:=by rw[fe]at fc;cases fc;rfl
  have ih:∀γ O,FinS O->kL P ro n ops N S0 Q df tab E (pre++i::post) γ O->kL P ro n ops N S0 Q df tab E (i::(pre++post)) γ O:=fun γ O hF=>Ix hi post pre γ O hF fun y hy=>hp y (by simp[hy])
  refine⟨oi,hi,?_⟩;cases fk:isNw ox' with
  | some t =>
   have dx:=IQ fk;cases fa:isNw oi with
   |none=>rw[fk,fa]at fg;simp at fg
   | some t' =>
    have di:=IQ fa;simp only[jk,fk,fa]at hx⊢;obtain⟨mk,obj,hn,hx⟩:=hx
    have key:∀d mk' obj',newD tab n ((t,d)::γ) oi=some (mk',obj')->newD tab n γ oi=some (mk',obj'):=fun d mk' obj' h=>by
     rw[<-h];exact Gq (ops:=ops) fun u hu=>(Al (dst:=some t) fun hd=>a3 u (dx.trans hd) hu).symm
    obtain⟨m,hm⟩:=id hF;obtain⟨oi',b7,hh⟩:=ih _ _ (hF.set m obj) (hx m (hm m (bU _)));rw[hi]at b7;cases b7;simp only[jk,fa]at hh;obtain⟨mk',obj',fR,_⟩:=hh;have gh:=key _ _ _ fR;refine⟨mk',obj',gh,fun k' fj=>⟨_,fe,?_⟩⟩;simp only[jk,fk];refine⟨mk,obj,?_,fun k hk=>?_⟩
    ·rw[<-hn];exact Gq (ops:=ops) fun u hu=>Al (dst:=some t') fun hd=>a1 u (di.trans hd) hu
    have hne:k≠k':=by
     rintro rfl
     simp[Sig.set]at hk
    have gC:O k=none:=by rw[w7 _ _ hne]at hk;exact hk
    obtain⟨oi',b7,hh⟩:=ih _ _ (hF.set k obj) (hx k gC);rw[hi]at b7;cases b7;simp only[jk,fa]at hh;obtain⟨mk2,obj2,gx,hh⟩:=hh;have e2:=key _ _ _ gx;rw[gh]at e2;cases e2;have h3:=hh k' (j2 (cg hne) fj);rw[set_comm O hne]at h3;exact kL.alike _ (AN (a:=some t') (b:=some t) _ _ _ fun u p q=>a2 u (di.trans p) (dx.trans q)) h3
  | none =>
   simp only[jk,fk]at hx;rcases hx with⟨d,hy,h⟩|⟨hE,_⟩
   ·obtain⟨oi',b7,hh⟩:=ih _ O hF h;rw[hi]at b7;cases b7;cases fa:isNw oi with
    | some t' =>
     have di:=IQ fa;simp only[jk,fa]at hh⊢;obtain⟨mk',obj',fR,hh⟩:=hh;refine⟨mk',obj',?_,fun k' fj=>?_⟩
     ·rw[<-fR];exact Gq (ops:=ops) fun u hu=>(Al fun hd=>a3 u hd hu).symm
     refine⟨ox',fe,?_⟩;simp only[jk,fk];refine .inl ⟨d,hy.congr fun t ht=>(Al (dst:=some t') fun hd=>a1 t (di.trans hd) ht).symm,?_⟩;exact kL.alike _ (AN (a:=some t') _ _ _ fun t p q=>a2 t (di.trans p) q) (hh k' fj)
    | none =>
     simp only[jk,fa]at hh⊢;rcases hh with⟨e,h2,h3⟩|⟨h1,h2⟩
     ·refine .inl ⟨e,h2.congr fun t ht=>Al fun hd=>a3 t hd ht,ox',fe,?_⟩;simp only[jk,fk];refine .inl ⟨d,hy.congr fun t ht=>(Al fun hd=>a1 t hd ht).symm,?_⟩;exact kL.alike _ (AN _ _ _ fun t p q=>a2 t p q) h3
     ·refine .inr ⟨h1,h2.congr (fun t ht=>Al fun hd=>a3 t hd ht) fun e U' ⟨h3,h4⟩=>⟨h3,ox',fe,?_⟩⟩;simp only[jk,fk];refine .inl ⟨d,hy.congr fun t ht=>(Al fun hd=>a1 t hd ht).symm,?_⟩;exact kL.alike _ (AN _ _ _ fun t p q=>a2 t p q) h4
   ·rw[fL]at hE;cases hE
theorem Wa(ht:AZ P tab){o:Oper}{t:Nat}{γ:Fr}{mk:Nat->D}{obj:jP}(ha:isNw o=some t)(h:newD tab n γ o=some (mk,obj))(O:Sig):Eff P ro n ops df γ O o (fun d U'=> ∃k,O k=none/\d=mk k/\U'=O.set k obj) (fun _ _=>False):=by
 rcases SR ha with⟨T,ty,pos,af,rfl⟩|⟨T,l,m,ty,pos,af,rfl⟩
 ·unfold newD at h;simp only at h;split at h
  ·rename_i hc;simp only[aF,aH,bp]at hc;cases h;exact⟨by simp[Ax,hc.1],rfl,Dx ht hc.2 hc.1 fun k hk=>AD ⟨rfl,k,hk,by simp[A8],rfl⟩⟩
  ·cases h
 ·unfold newD at h;simp only at h;split at h
  ·rename_i e a c hk hl hm;split at h
   ·rename_i hc;simp only[aF,aH,bp]at hc;obtain⟨eW,gv,h0,gL,rfl,hb,fw⟩:=hc;cases h;have e1:(a:Int)=((a.toNat:Nat):Int):=by omega
    have w1:ev (only (Oper.looksAt ops ⟨some t,.makeSlice T l m,ty,pos,af,none⟩) γ) l=.int .i64 ((a.toNat:Nat):Int):=by rw[Bf (by simp[Op.operands]),hl,<-e1]
    have w2:ev (only (Oper.looksAt ops ⟨some t,.makeSlice T l m,ty,pos,af,none⟩) γ) m=.int .i64 ((a.toNat:Nat):Int):=by rw[Bf (by simp[Op.operands]),hm,<-e1]
    refine⟨by simp[Ax,eW],rfl,?_⟩;refine Lm ht eW hk gv rfl h0 rfl w1 w2 (bU _) hb j0 fun k hk _=>AD ⟨rfl,k,hk,by simp[A8],?_⟩
    simp[mS]
   ·cases h
  ·cases h
def GO(ops:Array Oper)(E:eQ):eQ->eQ->Bool
 |_,[]=>true
 | done,i::r => !done.contains i && (match ops[i]? with
  |some o=>(o.after.all fun e=> !Region.binds .any e||done.contains e.on)&&done.all fun x=>(!E.contains x&&match ops[x]? with
   |some ox=>o.apart ops ox&&(!(isNw ox).isSome||(isNw o).isSome)
   |none=>false)||reach ops ops.size i x
  |none=>false)&&GO ops E (i::done) r
theorem G4 {i:Nat} {l2:eQ} : ∀ (l1 done:eQ),GO ops E done (l1++i::l2)=true->i ∉ l1/\i ∉ done/\i ∉ l2 /\ ∃ o,ops[i]? = some o/\(∀ e ∈ o.after,Region.binds .any e=true->e.on ∈ l1\/e.on ∈ done) /\
   ∀x,x∈l1->reach ops ops.size i x=true\/(E.contains x=false /\ ∃ox,ops[x]? = some ox/\o.apart ops ox=true/\((isNw ox).isSome=true->(isNw o).isSome=true))
 | [],done,h=>by
  simp only[bG,GO,aF,bp,bS,bh]at h;obtain⟨⟨h1,h2⟩,h3⟩:=h
  have later:∀(l d:eQ),i∈d->GO ops E d l=true->i∉l:=by
   intro l
   induction l with
   |nil=>intro _ _ _ h;cases h
   |cons y l ih=>
    intro d hd hm b6;simp only[GO,aF,bp,bS,bh]at hm;obtain⟨⟨m1,_⟩,m3⟩:=hm;rcases aY.1 b6 with rfl|b6
    ·exact m1 hd
    ·exact ih (y::d) (by simp[hd]) m3 b6
  refine⟨j1,h1,later l2 _ j1 h3,?_⟩;split at h2
  ·rename_i o ho;simp only[aF]at h2;refine⟨o,ho,fun e he hb=>?_,fun x hx=>by cases hx⟩;have:=bW.1 h2.1 e he;simp only[hb,cr,cO,bS,aH]at this;exact .inr this
  ·cases h2
 | y::l1,done,h=>by
  simp only[bH,GO,aF]at h;obtain⟨h1,h2,h3,o,ho,he,hx⟩:=G4 l1 (y::done) h.2;have gD:i≠y:=fun e=>h2 (by simp[e])
  refine⟨by simp[gD,h1],fun hd=>h2 (by simp[hd]),h3,o,ho,fun e hm hb=>?_,?_⟩
  ·rcases he e hm hb with h4|h4
   ·exact .inl (by simp[h4])
   ·rcases aY.1 h4 with h5|h5
    ·exact .inl (by simp[h5])
    ·exact .inr h5
  ·intro x b6;rcases aY.1 b6 with rfl|b6
   ·have back:∀(l d:eQ),x∈d->GO ops E d (l++i::l2)=true->reach ops ops.size i x=true\/(E.contains x=false /\ ∃ox,ops[x]? = some ox/\o.apart ops ox=true/\((isNw ox).isSome=true->(isNw o).isSome=true)):=by
     intro l
     induction l with
     | nil =>
      intro d hd hm;simp only[bG,GO,aF,ho]at hm;have:=aW.1 hm.1.2.2 x hd;simp only[bR,aF,bp]at this;rcases this.symm with h4|⟨h4,h5⟩
      ·exact .inl h4
      ·refine .inr ⟨h4,?_⟩;split at h5
       ·rename_i ox fe;simp only[aF,bR,bp]at h5;exact⟨ox,fe,h5.1,fun hs=>by rcases h5.2 with h6|h6;rw[h6]at hs;cases hs;exact h6⟩
       ·cases h5
     |cons z l ih=>
      intro d hd hm;simp only[bH,GO,aF]at hm;exact ih (z::d) (by simp[hd]) hm.2
    exact back l1 _ j1 h.2
   ·exact hx x b6
def Gu(ops:Array Oper)(E ord:eQ):Bool:=GO ops E [] ord&&(List.range ops.size).all ord.contains&&ord.length==ops.size
theorem Qr(ht:AZ P tab)(hN:P.funcs.size=N){ord:eQ}(hB:Gu ops E ord=true){g0:G}{rr:Rx}(hr:kh g0 ro rr): ∀(m:Nat) (r:eQ) (listed:Array Bool) (γ:Fr) (O:Sig),r.length=m->listed.size=ops.size->
  r=ord.filter (fun i=> !listed.getD i true)->kC ops listed->kL P ro n ops N S0 Q df tab E r γ O->Sub S0 O->
   ∀(g:G) (w:World) (a:Act),g0.le g->kI P g n ⟨γ,O,df⟩ a w->wpAnyIn (FX P rr) 0 P .any ops (kE P g0 n Q) m listed a w:=by
 unfold Gu at hB;simp only[aF]at hB;obtain⟨⟨b8,fq⟩,_⟩:=hB
 have b6:∀(r:eQ) (listed:Array Bool),r=ord.filter (fun i=> !listed.getD i true)->∀i∈Region.ready .any ops listed,i∈r:=by
  intro r listed hf i hi;obtain⟨h1,o,ho,_⟩:=mem_ready.1 hi;have:=aW.1 fq i (by simpa using(aI.1 ho).1);rw[hf,bI];exact⟨by simpa using this,by rw[h1];rfl⟩
 intro m
 induction m with
 |zero=>
  intro r listed γ O hl hsz hf eZ h hC g w a hg hs;obtain rfl:r=[]:=bf.1 hl;refine⟨cy.2 fun i hi=>?_,?_⟩
  ·have:=b6 [] listed hf i hi;cases this
  ·exact kE.le hg (h g w a rr (hr.mono hg) hs)
 | succ m ih =>
  intro r listed γ O hl hsz hf eZ h hC g w a hg hs;obtain⟨y,t,rfl⟩:∃y t,r=y::t:=by cases r with|nil=>cases hl|cons y t=>exact⟨y,t,rfl⟩
  refine⟨fun he=>?_,fun i hi=>?_⟩
  ·exfalso
   obtain⟨l1,l2,eU,fV,hy,gB⟩:=bQ.1 hf.symm;subst eU;obtain⟨h1,_,_,o,ho,fF,_⟩:=G4 l1 [] b8
   have:y∈Region.ready .any ops listed:=by
    refine mem_ready.2 ⟨by simpa using hy,o,ho,fun e hm hb=>?_⟩;rcases fF e hm hb with h4|h4
    ·have h5:=fV _ h4;simp only[bZ,dm]at h5
     have c9:e.on<listed.size:=by
      have:e.on∈l1++y::l2:=by simp[h4]
      obtain⟨p1,p2,hp⟩:=bM this;rw[hp]at b8;obtain⟨_,_,_,o',fb,_⟩:=G4 p1 [] b8;rw[hsz];exact(aI.1 fb).1
     simpa[c9] using h5
    ·cases h4
   rw[he]at this;cases this
  ·obtain⟨pre,post,d8⟩:=bM (b6 _ listed hf i hi);rw[d8]at hf h hl;obtain⟨l1',l2',eU,fp,f0⟩:=cG.1 hf.symm;obtain⟨m1,m2,fo,fS,gE,fZ⟩:=bQ.1 f0;have d5:ord=(l1'++m1)++i::m2:=by rw[eU,fo];simp
   rw[d5]at b8;obtain⟨n1,_,n3,o,ho,fF,hx⟩:=G4 (l1'++m1) [] b8;obtain⟨fW,o',fb,ff⟩:=mem_ready.1 hi;obtain rfl:o'=o:=by rw[ho]at fb;cases fb;rfl
   have eV:=Ix ho post pre γ O hs.sim.finS (fun x fB=>by
    have fM:x∈l1'++m1:=by
     have:x∈l1'.filter (fun i=> !listed.getD i true):=by rw[fp];exact fB
     simp[(bI.1 this).1]
    have fA:listed.getD x true=false:=by
     have:x∈l1'.filter (fun i=> !listed.getD i true):=by rw[fp];exact fB
     simpa using(bI.1 this).2
    rcases hx x fM with h4|h4
    ·exfalso
     have:=CP eZ ops.size i x o' ho ff h4
     rcases ce x listed.size with c9|c9
     ·simp[c9]at this fA;rw[fA]at this;cases this
     ·simp[cb c9]at this
    ·exact h4) h
   have b9:pre++post=ord.filter (fun j=> !(listed.setIfInBounds i true).getD j true):=by
    have fX:i<listed.size:=by
     rw[hsz];exact(aI.1 ho).1
    rw[d5,bV,cw];have e1:(listed.setIfInBounds i true).getD i true=true:=by simp[fX]
    rw[e1,Av n1,Av n3];simp only[cr,bm,bc,bV,fp,fZ];rw[cB.2 (fun x hx=>by simpa using fS x hx),bl]
   have hlen:(pre++post).length=m:=by simp at hl⊢; omega
   obtain⟨o2,fC,hh⟩:=eV;obtain rfl:o2=o':=by rw[ho]at fC;cases fC;rfl
   unfold wpOpIn;simp only[ho];cases fa:isNw o2 with
   |some t=>
    simp only[jk,fa]at hh;obtain⟨mk,obj,hn,hh⟩:=hh;refine Cs (Q:=Q) (hr.mono hg) hg hs (Wa ht fa hn O) (fun g' w' a' d U' fh hR eX=>?_) fun _ _ h=>h.elim;obtain⟨k,hk,rfl,rfl⟩:=hR;rw[IQ fa]at eX;exact ih _ _ _ _ hlen (by simpa using hsz) b9 (eZ.set hi) (hh k hk) (fun i o h=>(Sub.refl _).set hk i o (hC i o h)) g' w' a' (hg.trans fh) eX
   |none=>
    simp only[jk,fa]at hh;rcases hh with⟨d,hy,hM⟩|⟨_,hE⟩
    ·exact Ez (Q:=Q) hN (hr.mono hg) hg hs hC hy fun g' w' a' fh eX=>ih _ _ _ _ hlen (by simpa using hsz) b9 (eZ.set hi) hM hC g' w' a' (hg.trans fh) eX
    ·exact Cs (Q:=Q) (hr.mono hg) hg hs hE (fun g' w' a' d U' fh hR eX=>ih _ _ _ _ hlen (by simpa using hsz) b9 (eZ.set hi) hR.2 hR.1 g' w' a' (hg.trans fh) eX) fun d U' hp=>hp
theorem Ht: ∀{ord:eQ}{γ:Fr}{O:Sig},(∀i∈ord,i<ops.size)->MONw P ro n ops N S0 Q df tab (pick ops E ord) γ O->kL P ro n ops N S0 Q df tab E ord γ O
 |[],_,_,_,h=>h
 | i::r,γ,O,c9,h=>by
  have hi:ops[i]? = some ops[i]! :=by
   have:=c9 i j1;simp[this]
  have hp:pick ops E (i::r)=(E.contains i,ops[i]!)::pick ops E r:=by
   unfold pick;rw[dL,hi];rfl
  rw[hp]at h;refine⟨_,hi,?_⟩;refine jk.mono h (fun _=>rfl) fun γ V' O fg h=>kL.alike _ fg (Ht (fun j hj=>c9 j (by simp[hj])) h)
theorem Xq(ht:AZ P tab)(hN:P.funcs.size=N)(hm:P.follows .mixedOrders=true){l:List Oper}{id:Nat}{γ:Fr}{O:Sig}(ord E:eQ)(S0:Sig)(hB:Gu l.toArray E ord=true)(hC:Sub S0 O)
  {lp:List (Bool×Oper)} (fU:GZ l E ord=some lp) (h:MONw P ro n l.toArray N S0 Q df tab lp γ O):DWp P ro n (.region id l.toArray true) Q ⟨γ,O,df⟩:=by
 intro g w a r hr hs;refine wpIn_region_any hm ?_
 have eZ:kC l.toArray (Array.replicate l.toArray.size false):=by
  intro q o _ hq;rcases ce q l.length with h'|h'
  ·simp[h']at hq
  ·simp[h']at hq
 have eX:kI P g n ⟨γ,O,df⟩ a { w with drawn:=w.drawn+1 }:=
  ⟨⟨fun b o v h=>hs.sim.imm b o v h,hs.sim.keep,fun i o h=>by
   have:=hs.sim.obj i o h
   cases o<;>exact this,hs.sim.inj,hs.sim.free,hs.sim.htop,hs.sim.hdom,hs.sim.fin,hs.sim.io,hs.sim.tab⟩,hs.tmps,hs.df⟩
 have c9:∀i∈ord,i<l.toArray.size:=by
  intro i hi;obtain⟨p1,p2,hp⟩:=bM hi;have d7:=hB;unfold Gu at d7;simp only[aF]at d7;rw[hp]at d7;obtain⟨_,_,_,o',fb,_⟩:=G4 p1 [] d7.1.1;exact(aI.1 fb).1
 have hlen:ord.length=l.toArray.size:=by
  have d7:=hB;unfold Gu at d7;simp only[aF,cR]at d7;exact d7.2
 have:=Qr ht hN hB hr ord.length ord (Array.replicate l.toArray.size false) γ O rfl j1 (D4 c9).symm eZ (Ht c9 (by rw[Jn fU];exact h)) hC g _ a (.refl g) eX;rw[hlen]at this;exact this
theorem Gt: ∀{l:List (Bool×Oper)}{γ:Fr}{O:Sig},(l.all fun p=> !(isNw p.2).isSome)=true->MO P ro n ops N S0 Q df l γ O->MONw P ro n ops N S0 Q df tab l γ O
 |[],_,_,_,h=>h
 |(e,o)::l,γ,O,hl,h=>by
  simp only[cM,aF,bp]at hl;have hn:isNw o=none:=by cases h:isNw o with|none=>rfl|some _=>rw[h]at hl;simp at hl
  show jk P ro n ops N S0 Q df tab e o γ O _;simp only[jk,hn];rcases h with⟨d,h2,h3⟩|⟨h1,h2⟩
  ·exact .inl ⟨d,h2,Gt hl.2 h3⟩
  ·exact .inr ⟨h1,h2.congr (fun _ _=>rfl) fun d U' ⟨h3,h4⟩=>⟨h3,Gt hl.2 h4⟩⟩
theorem Wf{e:Bool}{o:Oper}{t:Nat}{mk:Nat->D}{obj:jP}{l:List (Bool×Oper)}{γ:Fr}{O:Sig}(ha:isNw o=some t)(hn:newD tab n γ o=some (mk,obj))(h:∀k,O k=none->MONw P ro n ops N S0 Q df tab l ((t,mk k)::γ) (O.set k obj)):
  MONw P ro n ops N S0 Q df tab ((e,o)::l) γ O:=by
 show jk P ro n ops N S0 Q df tab e o γ O _;simp only[jk,ha];exact⟨mk,obj,hn,h⟩
theorem Sv{e:Bool}{o:Oper}{l:List (Bool×Oper)}{γ:Fr}{O:Sig}{d:D}(ha:isNw o=none)(hc:Calm P n ops N S0 γ o d)(h:MONw P ro n ops N S0 Q df tab l (putD o.dst d γ) O):
  MONw P ro n ops N S0 Q df tab ((e,o)::l) γ O:=by
 show jk P ro n ops N S0 Q df tab e o γ O _;simp only[jk,ha];exact .inl ⟨d,hc,h⟩
theorem Ci(ht:AZ P tab){e:Bool}{t:Nat}{op:Op}{ty:TypeId}{pos:String}{after:Array Edge}{d:D}{l:List (Bool×Oper)}{γ Sr:Fr}{O:Sig}(hr:DF op=true)(eW:decide (t<n)=true)(hl:A5 γ (Aa op.operands.toList)=some Sr)(hd:jX tab Sr S0 op=some d)
  (h:MONw P ro n ops N S0 Q df tab l ((t,d)::γ) O):MONw P ro n ops N S0 Q df tab ((e,⟨some t,op,ty,pos,after,none⟩)::l) γ O:=by
 have fG:=(Bg (CK hl)) ▸ hd;refine Sv (d:=d) ?_ ⟨eW,.inl ⟨by rw[Ar];rfl,BU hr,H7 ht fG,fun U' hZ g w a hs hT=>?_⟩⟩ h
 ·unfold isNw;split
  ·rename_i f7;cases f7;cases hr
  ·rename_i f7;cases f7;cases hr
  ·rfl
 ·refine Ex ht hs hT (?_:jX tab (only _ γ) U' op=some d);rw[Bg (V':=γ) fun x hx=>Bf (o:=⟨some t,op,ty,pos,after,none⟩) hx];exact Ey hZ fG
end
section
variable {P:Program}{ro:Ro}{n:Nat}{ops:Array Oper}{Q:DX->St->Prop}{rest:List Oper}{tab:Nat->Ty}{γ:List (Nat×D)}{O:Sig}{df:List DDf}
variable (ht:AZ P tab)
include ht
theorem Xu{t T T' ty e:Nat}{x:Operand}{s:List UInt8}{pos:String}{after:Array Edge}{gd:Option (Nat×Bool)}
  (h:au P ro n ops Q rest ⟨(t,.str s)::γ,O,df⟩) (hw:AJ ops γ ⟨some t,.convert T T' x,ty,pos,after,gd⟩=some true) (eW:t<n) (hk:(tab T).k=.slice e) (fj:(tab T').k=.str) (gj:(tab e).k=.int .u8) (h1:k8 (ev γ x)=some (s.map fun b=>[D.int .u8 (b.toNat:Int)])) :
  au P ro n ops Q (⟨some t,.convert T T' x,ty,pos,after,gd⟩::rest) ⟨γ,O,df⟩:=by
 refine Ct (fun d U'=>d=.str s/\U'=O) hw (fun c e=>by cases e) (Ag fun c e=>by cases e) (by simp[Ax,eW]) ?_
  (fun d U' ⟨a2,a3⟩=>by subst a2 a3;exact h)
 intro g w a hs hT;have fI:=As hT x;obtain⟨xa,xc,q1,q2,q3⟩:=CL h1 fI;obtain⟨vs,v1,v2,v3⟩:=Cy hs (sz:=1) (fun c hc=>by obtain⟨b,_,rfl⟩:=aZ.1 hc;rfl) q3
 have d9:(convert T T' (a.eval x)).run P w=.ok (.string ⟨s.toArray⟩) w:=by
  rw[q1];cases xa with
  | none =>
   have gr:s=[]:=by
    rcases v3 with h|⟨b,o,h,_⟩
    ·simpa using h
    ·cases h
   subst gr;exact run_convert_bytes_nil w T e (AR ht hk) (O6 ht gj) _ _ T' (J8 ht fj)
  | some ad =>
   rw[aN];refine run_convert_bytes_back w T T' e ad xc s (AR ht hk) (O6 ht gj) (J8 ht fj) fun j hj=>?_;rcases v3 with h|⟨b,o,h,hc⟩
   ·rw[aN]at h;omega
   ·cases h
    have gH:∀l:List UInt8,(l.map fun b=>[D.int .u8 (b.toNat:Int)]).flatten=l.map fun b=>D.int .u8 (b.toNat:Int):=fun l=>by
     induction l with
     |nil=>rfl
     |cons y l ih=>rw[bd,br,ih];rfl
    rw[gH]at v1;have hg:=jE.get v1 j;rw[bA,aD hj]at hg;have gk:j<vs.length:=by rw[v2,aN];omega
    rw[aD gk]at hg;simp only[bx]at hg;have:=hc j _ (aD gk);rw[show vs[j]=.int .u8 ((s[j]).toNat:Int) from Bo hg]at this;have fm:(⟨b,o,none⟩:Addr).add j=⟨b,o+j,none⟩:=by unfold Addr.add;split<;>simp_all
    rw[fm];exact this
 exact⟨g,w,.string ⟨s.toArray⟩,.str s,O,by simp only[execOp];rw[aP,d9];rfl,.refl g,hs,rfl,rfl,rfl⟩
end
def byteD(b:UInt8):eO:=[D.int .u8 (b.toNat:Int)]
@[simp] theorem byteD_len(b:UInt8):(byteD b).length=1:=rfl
def Jb(l:List UInt8):Lib.strCells ⟨l.toArray⟩=l.map fun b=>Value.int .u8 (b.toNat:Int):=by simp[Lib.strCells]
def Rg(l:List UInt8):ByteArray.size ⟨l.toArray⟩=l.length:=by simp[ByteArray.size]
section
variable {P:Program}{T T' ty e:TypeId}{i:TypeInfo}{z:Value}(ht:P.underlying T=some (.slice e))(fJ:P.underlying T'=some .string)(hi:P.info? e=some i)
include ht fJ hi
theorem FT{w w2:World}{base:Option Addr}{n cap:Nat}{s:ByteArray}(eY:n+s.size<=cap)
  (fN:∀a,base=some a->(storeCells (a.add (n*i.size)) (Lib.strCells s)).run P w=.ok () w2) (gw:base=none->w2=w) :
  (Builtin.append_ #[T,T'] ty #[.slice base n cap,.string s]).run P w=.ok (.slice base (n+s.size) cap) w2:=by
 have gm:=Lib.run_firstCells_string (P:=P) w i.size s;cases base with
 |none=>simp[Builtin.append_,j4 ht,j4 fJ,sizeOf,typeInfo,hi,Builtin.lenOf,eY,gm,gw rfl]
 |some a=>simp[Builtin.append_,j4 ht,j4 fJ,sizeOf,typeInfo,hi,Builtin.lenOf,eY,gm,fN a rfl]
theorem IH(hz:i.zero=some z){w:World}{base:Option Addr}{n cap:Nat}{s:ByteArray}{olds:List Value}
  (gF:(Builtin.firstCells i.size n (.slice base n cap)).run P w.drew=.ok olds.toArray w.drew)
  (hg:cap<n+s.size) (gM:n+s.size<=9223372036854775807) (fY:(n+s.size)*i.bytes<=140737488355328) :
  ∃c,n+s.size<=c/\(Builtin.append_ #[T,T'] ty #[.slice base n cap,.string s]).run P w =
   .ok (.slice (some ⟨w.heap.size,0,none⟩) (n+s.size) c) { w.drew with heap:=w.heap.push (.cells (olds++Lib.strCells s++(Builtin.zeroCells z.cells (c-(n+s.size))).toList).toArray e (0,0)) }:=by
 refine⟨grownCap w (n+s.size) cap e,grownCap_ge w (n+s.size) cap e,?_⟩;have gG:=Lib.run_firstCells_string (P:=P) w.drew i.size s;have hn:¬(n+s.size<=cap):=by omega
 have f9:¬(9223372036854775807<((n:Int)+(s.size:Int))):=by omega
 have hf:=growslice_fits hg fY;have ga:¬(281474976710656<Builtin.nextslicecap (n+s.size) cap*i.bytes):=by omega
 simp[Builtin.append_,j4 ht,j4 fJ,sizeOf,typeInfo,zeroValue,hi,hz,Builtin.lenOf,hn,f9,ga,Question.forced,gF,gG,newRow,grownCap];have e':∀Z:Array Value,olds.toArray++((Lib.strCells s).toArray++Z)=(olds++(Lib.strCells s++Z.toList)).toArray:=fun Z=>by apply da;simp
 rw[e'];rfl
end
def byteC(b:UInt8):D:=.int .u8 (b.toNat:Int)
def KL{g:G}: ∀l:List UInt8,jE g (l.map byteC) (l.map fun b=>Value.int .u8 (b.toNat:Int))
 |[]=>rfl
 |x::l=>⟨_,_,rfl,rfl,KL l⟩
abbrev BR:=Option (Nat×Nat×eO)
def BR.d:BR->Nat->D
 |none,_=>.aj
 |some (i,cap,_),n=>.am i 0 n cap
def BR.is:BR->Nat->Prop
 |none,_=>False
 |some (i,_,_),j=>j=i
def BRAt(e:Nat)(O:Sig):BR->List UInt8->Prop
 |none,bs=>bs=[]
 |some (i,cap,rest),bs=>O i=some (.tcells e (bs.map byteC++rest))/\bs.length+rest.length=cap
section
variable {P:Program}{ro:Ro}{n:Nat}{ops:Array Oper}{Q:DX->St->Prop}{rest:List Oper}{tab:Nat->Ty}{γ:List (Nat×D)}{O:Sig}{df:List DDf}
variable (ht:AZ P tab)
include ht
theorem Vf{t T T' ty e:Nat}{s x:Operand}{pos:String}{after:Array Edge}{bs str:List UInt8}{r:BR}
  (eW:t<n) (hk:(tab T).k=.slice e) (fj:(tab T').k=.str) (he:A2 (tab e).k=false) (hsz:(tab e).size=1) (gI:(tab e).bytes=1) (h1:ev γ s=r.d bs.length) (hm:BRAt e O r bs) (h2:ev γ x=.str str)
  (hb:bs.length+str.length<=140737488355328)
  (h:∀r' U',BRAt e U' r' (bs++str)->(∀j o,O j=some o->¬r.is j->U' j=some o /\ ¬r'.is j)->au P ro n ops Q rest ⟨(t,r'.d (bs++str).length)::γ,U',df⟩) :
  au P ro n ops Q (⟨some t,(cA s x T T'),ty,pos,after,none⟩::rest) ⟨γ,O,df⟩:=by
 refine Ct (fun d U'=> ∃r',BRAt e U' r' (bs++str)/\(∀j o,O j=some o->¬r.is j->U' j=some o /\ ¬r'.is j)/\d=r'.d (bs++str).length) rfl (fun c e=>by cases e) (Bl rfl rfl) (by simp[Ax,eW]) ?_
  (fun d U' ⟨r',a1,a2,a3⟩=>by subst a3;exact h r' U' a1 a2)
 intro g w a hs hT;have fv:=As hT s;have fI:=As hT x;rw[h1]at fv;rw[h2]at fI;have q1:a.eval x=.string ⟨str.toArray⟩:=fI;have fi:=Rg str;obtain⟨inf,z,t1,_,t3,t4,t5,t6,t7⟩:=Bx ht hk hk he;have t2:=J8 ht fj;have gn:=Jb str;have v1:=KL (g:=g) str;have gg:(str.map fun b=>Value.int .u8 (b.toNat:Int)).length=str.length:=by simp
 have fH:∀u∈(str.map fun b=>Value.int .u8 (b.toNat:Int)),u.oneCell'=true:=fun u hu=>by obtain⟨b,_,rfl⟩:=aZ.1 hu;rfl
 generalize gK:(str.map fun b=>Value.int .u8 (b.toNat:Int))=us at*
 obtain⟨base,cap,olds,r1,r2,r3,r4,r5⟩:∃base cap olds,a.eval s=.slice base bs.length cap/\bs.length<=cap/\jE g (bs.map byteC) olds/\olds.length=bs.length/\(bs.length=0 \/ ∃b o,base=some ⟨b,o,none⟩ /\ ∀j v,olds[j]? = some v->w.cell? ⟨b,o+j,none⟩=some v):=by
  cases r with
  |none=>
   obtain rfl:bs=[]:=hm;exact⟨none,0,[],fv,bU _,rfl,rfl,.inl rfl⟩
  |some y=>
   obtain⟨i,cap,rest'⟩:=y;obtain⟨m1,m2⟩:=hm;obtain⟨b,fy,hv⟩:=fv;obtain⟨b2,vs,fw,d6,hr⟩:=hs.obj i _ m1;obtain rfl:b2=b:=by rw[fy]at fw;cases fw;rfl
   obtain⟨u,v',e1,e2,e3⟩:=hr.split;refine⟨_,cap,u,hv,j0,e2,by rw[jE.length e2];simp,.inr ⟨b2,0,rfl,fun j x hx=>?_⟩⟩;have hj:j<u.length:=(aV.1 hx).1;simp only[World.cell?, d6,co];have:vs.toList[j]? = some x:=by rw[e1,bj hj];exact hx
   simpa using this
 by_cases fE:str=[]
 ·subst fE;refine⟨g,w,a.eval s,_,O,At ?_,.refl g,hs,fv,r,by rw[bl];exact hm,fun j o hj hn=>⟨hj,hn⟩,by rw[bl]⟩;rw[r1,q1];have:=FT (ty:=ty) t1 t2 t3 (w:=w) (w2:=w) (base:=base) (n:=bs.length) (cap:=cap) (s:=⟨[].toArray⟩) (by rw[fi];simpa using r2) (fun b _=>by rw[Jb];simp[storeCells,Sem.run]) (fun _=>rfl);rw[fi]at this;simpa using this
 have gu:0<str.length:=de.2 fE
 by_cases eY:bs.length+str.length<=cap
 ·cases r with
  |none=>
   have e1:a.eval s=.slice none 0 0:=fv;rw[e1]at r1;injection r1 with f1 f2 f3;omega
  | some y =>
   obtain⟨i,cap',rest'⟩:=y;obtain⟨m1,m2⟩:=hm;obtain⟨b,fy,hv⟩:=fv;rw[hv]at r1;injection r1 with f1 f2 f3;subst f3;subst f1;obtain⟨b2,vs,fw,d6,hr⟩:=hs.obj i _ m1;obtain rfl:b2=b:=by rw[fy]at fw;cases fw;rfl
   have gA:=jE.length hr;simp only[bB,aC,aN]at gA;have fN:=BS (P:=P) us 0 w vs d6 fH (o:=bs.length) j0;have hne:us≠[]:=fun e=>by rw[e]at gg;simp at gg;omega
   have d9:=FT (ty:=ty) t1 t2 t3 (w:=w) (base:=some ⟨b2,0,none⟩) (n:=bs.length) (cap:=cap') (s:=⟨str.toArray⟩) (w2:=if us=[] then w else setB w b2 (.cells (Bt vs bs.length us) e (0,0)))
    (by rw[fi];exact eY) (fun a ha=>by cases ha;rw[BQ,t5,hsz,gn];simpa using fN) (fun h=>by cases h)
   rw[fi,aE hne]at d9
   have fD:jE g ((bs++str).map byteC++rest'.drop str.length) (Bt vs bs.length us).toList:=by
    refine AP (by simp only[aC,cn,aN,bB,D2];omega) fun j d v h1 h2=>?_
    have fu:(Bt vs bs.length us)[j]? = some v:=by simpa using h2
    rw[Dp _ _ _ _ j0]at fu;rw[bz,aO]at h1;simp only[cz,aN]at h1;have hg:=jE.get hr j
    by_cases c1:j<bs.length
    ·rw[aE j0]at fu;rw[aG c1]at h1;rw[bj (by simpa using c1),h1]at hg;simp only[bO,fu,ba]at hg;exact hg
    ·rw[aE c1]at h1
     by_cases c2:j-bs.length<str.length
     ·rw[aG j0]at fu;rw[aG c2]at h1;have:=jE.get v1 (j-bs.length);rw[h1,fu]at this;exact this
     ·rw[aE j0]at fu;rw[aE c2,cm]at h1;rw[bK (by simp;omega),aN,show j-bs.length=str.length+(j-bs.length-str.length) by omega,h1]at hg;simp only[bO,fu,ba]at hg;exact hg
   refine⟨g,_,.slice (some ⟨b2,0,none⟩) (bs.length+str.length) cap',.am i 0 (bs.length+str.length) cap',O.set i (.tcells e ((bs++str).map byteC++rest'.drop str.length)),At (by rw[hv,q1];exact d9),.refl g,?_,Gn fy,some (i,cap',rest'.drop str.length),⟨w6 ..,?_⟩,fun j o hj hn=>⟨j2 hn hj,hn⟩,by rw[aC];rfl⟩
   ·exact hs.setAny m1 rfl rfl fy d6 ⟨b2,_,fy,Fl d6,fD⟩
   ·simp only[aC,cn];omega
 ·obtain⟨c,hc,d9⟩:=IH (ty:=ty) t1 t2 t3 t4 (w:=w) (base:=base) (n:=bs.length) (cap:=cap) (s:=⟨str.toArray⟩) (olds:=olds)
   (Aq (by rw[t5,hsz,Nat.mul_one];exact r4) r5) (by rw[fi];omega) (by rw[fi];omega) (by rw[t6,gI,fi,Nat.mul_one];exact hb)
  rw[gn,fi]at d9;rw[fi]at hc;obtain⟨i',fK,go⟩:=hs.fresh
  let zs:=(Builtin.zeroCells z.cells (c-(bs.length+str.length))).toList
  have fP:jE (g.bind i' w.heap.size) ((bs++str).map byteC++zs.map Bq) (olds++us++zs):=by
   rw[bz];exact((jE.mono (G.bind_le fK) _ r3).append (jE.mono (G.bind_le fK) _ v1)).append (CB _ _)
  have fQ:kB P (g.bind i' w.drew.heap.size) { w.drew with heap:=w.drew.heap.push (.cells (olds++us++zs).toArray e (0,0)) } i' (.tcells e ((bs++str).map byteC++zs.map Bq)):=
   ⟨w.drew.heap.size,(olds++us++zs).toArray,by simp[G.bind],by exact dp,by simpa using fP⟩
  have fO:=hs.drew.newObj fK go rfl fQ;refine⟨_,_,_,.am i' 0 (bs.length+str.length) c,_,At (by rw[r1,q1];exact d9),G.bind_le fK,fO,Gn (by simp[G.bind]),some (i',c,zs.map Bq),⟨w6 ..,?_⟩,fun j o hj _=>?_,by rw[aC];rfl⟩
  ·have hz:zs.length=c-(bs.length+str.length):=by simp[zs,size_zeroCells,t7,hsz]
   simp only[aC,aN,hz];omega
  ·have hne:j≠i':=fun e=>by rw[e,go]at hj;cases hj
   exact⟨j2 hne hj,hne⟩
theorem OC{t T:Nat}{ty:TypeId}{pos:String}{after:Array Edge}(hk:A2 (tab T).k=false)(eW:t<n)
  (h:∀i,O i=none->au P ro n ops Q rest ⟨(t,.ptr i 0)::γ,O.set i (.tcells T (tab T).zero),df⟩) :
  au P ro n ops Q (⟨some t,.alloc T,ty,pos,after,none⟩::rest) ⟨γ,O,df⟩:=by
 refine HS (mk:=fun i=>.ptr i 0) (d:=.tcells T (tab T).zero) rfl (fun c e=>by cases e) (Ag fun c e=>by cases e) (by simp[Ax,eW]) rfl ?_ h;intro g w a hs hT;obtain⟨z,hz,gq,gJ⟩:=Dd (ht T) (Ai hk) w;refine⟨.cells z.cells T,.pointer (some ⟨w.heap.size,0,none⟩),?_,fun i hi=>⟨⟨w.heap.size,z.cells,by simp[G.bind],j1,?_⟩,w.heap.size,by simp[G.bind],rfl⟩⟩
 ·simp only[execOp,Instr.alloc,aP,hz,aJ,newVar,D5];rfl
 ·rw[gq];exact CB _ _
end
end Go.DL
