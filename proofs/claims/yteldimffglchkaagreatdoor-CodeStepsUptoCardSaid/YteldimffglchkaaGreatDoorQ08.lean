/- A part of the proof. -/
import Derived.Test.YteldimffglchkaaGreatDoorQ07
set_option linter.all false
namespace Go.DL
open Go
section
variable {P:Program}{n:Nat}{γ:List (Nat×D)}{O:Sig}{df:List DDf}
theorem B5{i sz:Nat}{r:RW}{es:eR}{az bs:eO}(hm:jN O sz r es)(hi:O i=some (.cells (az++r.d es.length::bs)))(fY:¬r.is i):
  ∃U',Wk P n ⟨γ,O,df⟩ ⟨γ,U',df⟩/\U' i=some (.cells (az ++ .slice es .no::bs)) /\ ∀j o,O j=some o->j≠i->¬r.is j->U' j=some o:=by
 cases r with
 |nil=>
  obtain rfl:es=[]:=hm;exact⟨_,GU hi (Ak _ (.inl rfl)),w6 .., fun j o hj fC _=>by rw[w7 _ _ fC];exact hj⟩
 |full es0=>
  obtain⟨rfl,_⟩:=hm;exact⟨_,GU hi (Cc _ _),w6 .., fun j o hj fC _=>by rw[w7 _ _ fC];exact hj⟩
 | row k cap rest =>
  obtain⟨m1,m2,m3,m4⟩:=hm;have f0:i≠k:=fY
  exact⟨_,Mk m1 hi f0 m3 m4,w6 .., fun j o hj fC fM=>by
   rw[w7 _ _ fC]
   have:j≠k:=fM
   simp only[Sig.del,this,bc];exact hj⟩
theorem GT{t sz:Nat}{r:RW}{es:eR}(hm:jN O sz r es)(hg:getD γ t=r.d es.length):
  ∃U',Wk P n ⟨γ,O,df⟩ ⟨(t,.slice es .no)::γ,U',df⟩ /\ ∀j o,O j=some o->¬r.is j->U' j=some o:=by
 cases r with
 |nil=>
  obtain rfl:es=[]:=hm;exact⟨O,C0 (by rw[hg];exact Ak _ (.inl rfl)),fun j o h _=>h⟩
 |full es0=>
  obtain⟨rfl,_⟩:=hm;exact⟨O,C0 (by rw[hg];exact Cc _ _),fun j o h _=>h⟩
 | row k cap rest =>
  obtain⟨m1,m2,m3,m4⟩:=hm
  refine⟨O.del k,fun g w a hs=>?_,fun j o hj fM=>by
   have:j≠k:=fM
   simp only[Sig.del,this,bc];exact hj⟩
  have fS:=hs.tmps.2 t;rw[hg]at fS;obtain⟨b,hb,hv⟩:=fS;obtain⟨g',fK,c9,fX⟩:=hs.sim.freeze (i:=k) m1 hb;refine⟨g',fK,⟨c9,⟨hs.tmps.1,fun q=>?_⟩,hs.df.mono fK⟩⟩;rw[A8]
  by_cases hq:q=t
  ·rw[aG hq,hq];exact⟨_,cap,hv,m3,.inr ⟨sz,b,0,rfl,ET m4 fX⟩,trivial⟩
  ·rw[aE hq];exact Rep.mono fK _ (hs.tmps.2 q)
end
def jc(o:Oper):Option (Nat×Nat):=match o with
 |⟨some t,.alloc T,_,_,_,none⟩=>some (t,T)
 |_=>none
def Fp{o:Oper}{t T:Nat}(h:jc o=some (t,T)): ∃ty pos af,o=⟨some t,.alloc T,ty,pos,af,none⟩:=by
 unfold jc at h;split at h
 ·cases h;exact⟨_,_,_,rfl⟩
 ·cases h
section
variable (P:Program)(ro:Ro)(n:Nat)(ops:Array Oper)(N:Nat)(S0:Sig)(Q:DX->St->Prop)(df:List DDf)(tab:Nat->Ty)
def kK(e:Bool)(o:Oper)(γ:Fr)(O:Sig)(K:Fr->Sig->Prop):Prop:=
 match jc o with
 |some (t,T)=> ∀k,O k=none->K ((t,.ptr k 0)::γ) (O.set k (.cells (tab T).zero))
 |none=>(∃d,Calm P n ops N S0 γ o d/\K (putD o.dst d γ) O) \/
  (e=true/\Eff P ro n ops df γ O o (fun d U'=>Sub S0 U'/\K (putD o.dst d γ) U') (fun d U'=> ∀V',Q (.panic d) ⟨V',U',df⟩))
def ki(E:eQ):eQ->Fr->Sig->Prop
 |[],γ,O=>au P ro n ops Q [] ⟨γ,O,df⟩
 |i::r,γ,O=> ∃o,ops[i]? = some o/\kK P ro n ops N S0 Q df tab (E.contains i) o γ O (ki E r)
def MO2:List (Bool×Oper)->Fr->Sig->Prop
 |[],γ,O=>au P ro n ops Q [] ⟨γ,O,df⟩
 |(e,o)::r,γ,O=>kK P ro n ops N S0 Q df tab e o γ O (MO2 r)
end
section
variable {P:Program}{ro:Ro}{n:Nat}{ops:Array Oper}{N:Nat}{S0:Sig}{Q:DX->St->Prop}{df:List DDf}{E:eQ}{tab:Nat->Ty}
theorem kK.mono{e:Bool}{o:Oper}{γ V':Fr}{O:Sig}{K K':Fr->Sig->Prop}(h:kK P ro n ops N S0 Q df tab e o γ O K)(d6:kP γ V')(hK:∀γ V' O,kP γ V'->K γ O->K' V' O):kK P ro n ops N S0 Q df tab e o V' O K':=by
 unfold kK at h⊢;split at h
 ·exact fun k hk=>hK _ _ _ (d6.put (some _) _) (h k hk)
 ·rcases h with⟨d,h2,h3⟩|⟨h1,h2⟩
  ·exact .inl ⟨d,h2.congr fun t _=>d6 t,hK _ _ _ (d6.put _ _) h3⟩
  ·exact .inr ⟨h1,h2.congr (fun t _=>d6 t) fun d U' ⟨h3,h4⟩=>⟨h3,hK _ _ _ (d6.put _ _) h4⟩⟩
theorem ki.alike: ∀(l:eQ) {γ V':Fr}{O:Sig},kP γ V'->ki P ro n ops N S0 Q df tab E l γ O->ki P ro n ops N S0 Q df tab E l V' O
 |[],_,_,_,h,k=>Cn h k
 |i::r,_,_,_,h,⟨o,ho,k⟩=>⟨o,ho,k.mono h fun _ _ _ h' k'=>ki.alike r h' k'⟩
theorem set_comm(O:Sig){k k':Nat}(h:k≠k')(x y:jP):(O.set k x).set k' y=(O.set k' y).set k x:=by
 funext j
 simp only[Sig.set]
 by_cases h1:j=k'<;>by_cases h2:j=k<;>simp_all
theorem Ju{i:Nat}{oi:Oper}(hi:ops[i]? = some oi)(post:eQ): ∀(pre:eQ) (γ:Fr) (O:Sig),
  (∀x∈pre,E.contains x=false /\ ∃ox,ops[x]? = some ox/\oi.apart ops ox=true/\((jc ox).isSome=true->(jc oi).isSome=true))->ki P ro n ops N S0 Q df tab E (pre++i::post) γ O->ki P ro n ops N S0 Q df tab E (i::(pre++post)) γ O
 |[],_,_,_,h=>h
 | x::pre,γ,O,hp,h=>by
  obtain⟨fu,ox,eV,fI,d6⟩:=hp x j1;obtain⟨a1,a2,a3⟩:=Oper.apart_spec fI;obtain⟨ox',fb,hx⟩:=h;obtain rfl:ox'=ox:=by rw[eV]at fb;cases fb;rfl
  have ih:∀γ O,ki P ro n ops N S0 Q df tab E (pre++i::post) γ O->ki P ro n ops N S0 Q df tab E (i::(pre++post)) γ O:=fun γ O=>Ju hi post pre γ O fun y hy=>hp y (by simp[hy])
  refine⟨oi,hi,?_⟩;cases fe:jc ox' with
  | some p =>
   obtain⟨t,T⟩:=p;cases eY:jc oi with
   |none=>rw[fe,eY]at d6;simp at d6
   | some q =>
    obtain⟨t',T'⟩:=q;obtain⟨_,_,_,rfl⟩:=Fp fe;obtain⟨_,_,_,rfl⟩:=Fp eY;simp only[kK,jc]at hx⊢;intro k' fq;refine⟨_,eV,?_⟩;simp only[kK,jc];intro k hk
    have hne:k≠k':=by
     rintro rfl
     simp[Sig.set]at hk
    have fL:O k=none:=by rw[w7 _ _ hne]at hk;exact hk
    obtain⟨oi',b7,hh⟩:=ih _ _ (hx k fL);rw[hi]at b7;cases b7;simp only[kK,jc]at hh;have h3:=hh k' (j2 (cg hne) fq);rw[set_comm O hne]at h3;exact ki.alike _ (AN (a:=some t') (b:=some t) _ _ _ fun t p q=>a2 t p q) h3
  | none =>
   simp only[kK,fe]at hx;rcases hx with⟨d,hy,h⟩|⟨hE,_⟩
   ·obtain⟨oi',b7,hh⟩:=ih _ O h;rw[hi]at b7;cases b7;cases eY:jc oi with
    |some q=>
     obtain⟨t',T'⟩:=q;obtain⟨_,_,_,rfl⟩:=Fp eY;simp only[kK,jc]at hh⊢;intro k' fq;refine⟨ox',eV,?_⟩;simp only[kK,fe];refine .inl ⟨d,hy.congr fun t ht=>(Al (dst:=some t') fun hd=>a1 t hd ht).symm,?_⟩;exact ki.alike _ (AN _ _ _ fun t p q=>a2 t p q) (hh k' fq)
    | none =>
     simp only[kK,eY]at hh⊢;rcases hh with⟨e,h2,h3⟩|⟨h1,h2⟩
     ·refine .inl ⟨e,h2.congr fun t ht=>Al fun hd=>a3 t hd ht,ox',eV,?_⟩;simp only[kK,fe];refine .inl ⟨d,hy.congr fun t ht=>(Al fun hd=>a1 t hd ht).symm,?_⟩;exact ki.alike _ (AN _ _ _ fun t p q=>a2 t p q) h3
     ·refine .inr ⟨h1,h2.congr (fun t ht=>Al fun hd=>a3 t hd ht) fun e U' ⟨h3,h4⟩=>⟨h3,ox',eV,?_⟩⟩;simp only[kK,fe];refine .inl ⟨d,hy.congr fun t ht=>(Al fun hd=>a1 t hd ht).symm,?_⟩;exact ki.alike _ (AN _ _ _ fun t p q=>a2 t p q) h4
   ·rw[fu]at hE;cases hE
def Ki(ops:Array Oper)(E:eQ):eQ->eQ->Bool
 |_,[]=>true
 | done,i::r => !done.contains i && (match ops[i]? with
  |some o=>(o.after.all fun e=> !Region.binds .any e||done.contains e.on)&&done.all fun x=>(!E.contains x&&match ops[x]? with
   |some ox=>o.apart ops ox&&(!(jc ox).isSome||(jc o).isSome)
   |none=>false)||reach ops ops.size i x
  |none=>false)&&Ki ops E (i::done) r
theorem Hw {i:Nat} {l2:eQ} : ∀ (l1 done:eQ),Ki ops E done (l1++i::l2)=true->i ∉ l1/\i ∉ done/\i ∉ l2 /\ ∃ o,ops[i]? = some o/\(∀ e ∈ o.after,Region.binds .any e=true->e.on ∈ l1\/e.on ∈ done) /\
   ∀x,x∈l1->reach ops ops.size i x=true\/(E.contains x=false /\ ∃ox,ops[x]? = some ox/\o.apart ops ox=true/\((jc ox).isSome=true->(jc o).isSome=true))
 | [],done,h=>by
  simp only[bG,Ki,aF,bp,bS,bh]at h;obtain⟨⟨h1,h2⟩,h3⟩:=h
  have later:∀(l d:eQ),i∈d->Ki ops E d l=true->i∉l:=by
   intro l
   induction l with
   |nil=>intro _ _ _ h;cases h
   |cons y l ih=>
    intro d hd hm b6;simp only[Ki,aF,bp,bS,bh]at hm;obtain⟨⟨m1,_⟩,m3⟩:=hm;rcases aY.1 b6 with rfl|b6
    ·exact m1 hd
    ·exact ih (y::d) (by simp[hd]) m3 b6
  refine⟨j1,h1,later l2 _ j1 h3,?_⟩;split at h2
  ·rename_i o ho;simp only[aF]at h2;refine⟨o,ho,fun e he hb=>?_,fun x hx=>by cases hx⟩;have:=bW.1 h2.1 e he;simp only[hb,cr,cO,bS,aH]at this;exact .inr this
  ·cases h2
 | y::l1,done,h=>by
  simp only[bH,Ki,aF]at h;obtain⟨h1,h2,h3,o,ho,he,hx⟩:=Hw l1 (y::done) h.2;have fD:i≠y:=fun e=>h2 (by simp[e])
  refine⟨by simp[fD,h1],fun hd=>h2 (by simp[hd]),h3,o,ho,fun e hm hb=>?_,?_⟩
  ·rcases he e hm hb with h4|h4
   ·exact .inl (by simp[h4])
   ·rcases aY.1 h4 with h5|h5
    ·exact .inl (by simp[h5])
    ·exact .inr h5
  ·intro x b6;rcases aY.1 b6 with rfl|b6
   ·have back:∀(l d:eQ),x∈d->Ki ops E d (l++i::l2)=true->reach ops ops.size i x=true\/(E.contains x=false /\ ∃ox,ops[x]? = some ox/\o.apart ops ox=true/\((jc ox).isSome=true->(jc o).isSome=true)):=by
     intro l
     induction l with
     | nil =>
      intro d hd hm;simp only[bG,Ki,aF,ho]at hm;have:=aW.1 hm.1.2.2 x hd;simp only[bR,aF,bp]at this;rcases this.symm with h4|⟨h4,h5⟩
      ·exact .inl h4
      ·refine .inr ⟨h4,?_⟩;split at h5
       ·rename_i ox eV;simp only[aF,bR,bp]at h5;exact⟨ox,eV,h5.1,fun hs=>by rcases h5.2 with h6|h6;rw[h6]at hs;cases hs;exact h6⟩
       ·cases h5
     |cons z l ih=>
      intro d hd hm;simp only[bH,Ki,aF]at hm;exact ih (z::d) (by simp[hd]) hm.2
    exact back l1 _ j1 h.2
   ·exact hx x b6
def Ic(ops:Array Oper)(E ord:eQ):Bool:=Ki ops E [] ord&&(List.range ops.size).all ord.contains&&ord.length==ops.size
def Rj(tab:Nat->Ty)(n:Nat)(ops:Array Oper):Bool:=ops.all fun o=>match jc o with
 |some (t,T)=>decide (t<n)&&!A2 (tab T).k
 |none=>true
theorem Sn(ht:AZ P tab)(hN:P.funcs.size=N){ord:eQ}(hB:Ic ops E ord=true)(hA:Rj tab n ops=true){g0:G}{rr:Rx}(hr:kh g0 ro rr): ∀(m:Nat) (r:eQ) (listed:Array Bool) (γ:Fr) (O:Sig),r.length=m->listed.size=ops.size->
  r=ord.filter (fun i=> !listed.getD i true)->kC ops listed->ki P ro n ops N S0 Q df tab E r γ O->Sub S0 O->
   ∀(g:G) (w:World) (a:Act),g0.le g->kI P g n ⟨γ,O,df⟩ a w->wpAnyIn (FX P rr) 0 P .any ops (kE P g0 n Q) m listed a w:=by
 unfold Ic at hB;simp only[aF]at hB;obtain⟨⟨b9,fi⟩,_⟩:=hB
 have b6:∀(r:eQ) (listed:Array Bool),r=ord.filter (fun i=> !listed.getD i true)->∀i∈Region.ready .any ops listed,i∈r:=by
  intro r listed hf i hi;obtain⟨h1,o,ho,_⟩:=mem_ready.1 hi;have:=aW.1 fi i (by simpa using(aI.1 ho).1);rw[hf,bI];exact⟨by simpa using this,by rw[h1];rfl⟩
 intro m
 induction m with
 |zero=>
  intro r listed γ O hl hsz hf d9 h hC g w a hg hs;obtain rfl:r=[]:=bf.1 hl;refine⟨cy.2 fun i hi=>?_,?_⟩
  ·have:=b6 [] listed hf i hi;cases this
  ·exact kE.le hg (h g w a rr (hr.mono hg) hs)
 | succ m ih =>
  intro r listed γ O hl hsz hf d9 h hC g w a hg hs;obtain⟨y,t,rfl⟩:∃y t,r=y::t:=by cases r with|nil=>cases hl|cons y t=>exact⟨y,t,rfl⟩
  refine⟨fun he=>?_,fun i hi=>?_⟩
  ·exfalso
   obtain⟨l1,l2,eW,fB,hy,fQ⟩:=bQ.1 hf.symm;subst eW;obtain⟨h1,_,_,o,ho,fo,_⟩:=Hw l1 [] b9
   have:y∈Region.ready .any ops listed:=by
    refine mem_ready.2 ⟨by simpa using hy,o,ho,fun e hm hb=>?_⟩;rcases fo e hm hb with h4|h4
    ·have h5:=fB _ h4;simp only[bZ,dm]at h5
     have d5:e.on<listed.size:=by
      have:e.on∈l1++y::l2:=by simp[h4]
      obtain⟨p1,p2,hp⟩:=bM this;rw[hp]at b9;obtain⟨_,_,_,o',fa,_⟩:=Hw p1 [] b9;rw[hsz];exact(aI.1 fa).1
     simpa[d5] using h5
    ·cases h4
   rw[he]at this;cases this
  ·obtain⟨pre,post,eU⟩:=bM (b6 _ listed hf i hi);rw[eU]at hf h hl;obtain⟨l1',l2',eW,fh,fH⟩:=cG.1 hf.symm;obtain⟨m1,m2,fg,fy,fR,fG⟩:=bQ.1 fH;have d7:ord=(l1'++m1)++i::m2:=by rw[eW,fg];simp
   rw[d7]at b9;obtain⟨n1,_,n3,o,ho,fo,hx⟩:=Hw (l1'++m1) [] b9;obtain⟨fE,o',fa,fc⟩:=mem_ready.1 hi;obtain rfl:o'=o:=by rw[ho]at fa;cases fa;rfl
   have eX:=Ju ho post pre γ O (fun x fk=>by
    have fv:x∈l1'++m1:=by
     have:x∈l1'.filter (fun i=> !listed.getD i true):=by rw[fh];exact fk
     simp[(bI.1 this).1]
    have fj:listed.getD x true=false:=by
     have:x∈l1'.filter (fun i=> !listed.getD i true):=by rw[fh];exact fk
     simpa using(bI.1 this).2
    rcases hx x fv with h4|h4
    ·exfalso
     have:=CP d9 ops.size i x o' ho fc h4
     rcases ce x listed.size with d5|d5
     ·simp[d5]at this fj;rw[fj]at this;cases this
     ·simp[cb d5]at this
    ·exact h4) h
   have b8:pre++post=ord.filter (fun j=> !(listed.setIfInBounds i true).getD j true):=by
    have fF:i<listed.size:=by
     rw[hsz];exact(aI.1 ho).1
    rw[d7,bV,cw];have e1:(listed.setIfInBounds i true).getD i true=true:=by simp[fF]
    rw[e1,Av n1,Av n3];simp only[cr,bm,bc,bV,fh,fG];rw[cB.2 (fun x hx=>by simpa using fy x hx),bl]
   have hlen:(pre++post).length=m:=by simp at hl⊢; omega
   obtain⟨o2,fm,hh⟩:=eX;obtain rfl:o2=o':=by rw[ho]at fm;cases fm;rfl
   have ff:=bW.1 hA o2 (Array.mem_of_getElem? ho);unfold wpOpIn;simp only[ho];cases eY:jc o2 with
   | some p =>
    obtain⟨t,T⟩:=p;rw[eY]at ff;simp only[aF,aH,bp]at ff;obtain⟨_,_,_,rfl⟩:=Fp eY;simp only[kK,jc]at hh;refine Cs (Q:=Q) (R:=fun d U'=> ∃k,O k=none/\d=.ptr k 0/\U'=O.set k (.cells (tab T).zero)) (Rp:=fun _ _=>False) (hr.mono hg) hg hs ⟨by simp[Ax,ff.1],rfl,?_⟩ (fun g' w' a' d U' eZ hR c9=>?_) fun _ _ h=>h.elim
    ·exact Dx ht ff.2 ff.1 fun k hk=>AD ⟨rfl,k,hk,by simp[A8],rfl⟩
    ·obtain⟨k,hk,rfl,rfl⟩:=hR;exact ih _ _ _ _ hlen (by simpa using hsz) b8 (d9.set hi) (hh k hk) (fun i o h=>(Sub.refl _).set hk i o (hC i o h)) g' w' a' (hg.trans eZ) c9
   |none=>
    simp only[kK,eY]at hh;rcases hh with⟨d,hy,hM⟩|⟨_,hE⟩
    ·exact Ez (Q:=Q) hN (hr.mono hg) hg hs hC hy fun g' w' a' eZ c9=>ih _ _ _ _ hlen (by simpa using hsz) b8 (d9.set hi) hM hC g' w' a' (hg.trans eZ) c9
    ·exact Cs (Q:=Q) (hr.mono hg) hg hs hE (fun g' w' a' d U' eZ hR c9=>ih _ _ _ _ hlen (by simpa using hsz) b8 (d9.set hi) hR.2 hR.1 g' w' a' (hg.trans eZ) c9) fun d U' hp=>hp
theorem Iz: ∀{ord:eQ}{γ:Fr}{O:Sig},(∀i∈ord,i<ops.size)->MO2 P ro n ops N S0 Q df tab (pick ops E ord) γ O->ki P ro n ops N S0 Q df tab E ord γ O
 |[],_,_,_,h=>h
 | i::r,γ,O,d5,h=>by
  have hi:ops[i]? = some ops[i]! :=by
   have:=d5 i j1;simp[this]
  have hp:pick ops E (i::r)=(E.contains i,ops[i]!)::pick ops E r:=by
   unfold pick;rw[dL,hi];rfl
  rw[hp]at h;refine⟨_,hi,?_⟩;refine kK.mono h (fun _=>rfl) fun γ V' O d6 h=>ki.alike _ d6 (Iz (fun j hj=>d5 j (by simp[hj])) h)
theorem Xt(ht:AZ P tab)(hN:P.funcs.size=N)(hm:P.follows .mixedOrders=true){l:List Oper}{id:Nat}{γ:Fr}{O:Sig}(ord E:eQ)(S0:Sig)(hB:Ic l.toArray E ord=true)(hA:Rj tab n l.toArray=true)(hC:Sub S0 O)
  {lp:List (Bool×Oper)} (fA:GZ l E ord=some lp) (h:MO2 P ro n l.toArray N S0 Q df tab lp γ O):DWp P ro n (.region id l.toArray true) Q ⟨γ,O,df⟩:=by
 intro g w a r hr hs;refine wpIn_region_any hm ?_
 have d9:kC l.toArray (Array.replicate l.toArray.size false):=by
  intro q o _ hq;rcases ce q l.length with h'|h'
  ·simp[h']at hq
  ·simp[h']at hq
 have c9:kI P g n ⟨γ,O,df⟩ a { w with drawn:=w.drawn+1 }:=
  ⟨⟨fun b o v h=>hs.sim.imm b o v h,hs.sim.keep,fun i o h=>by
   have:=hs.sim.obj i o h
   cases o<;>exact this,hs.sim.inj,hs.sim.free,hs.sim.htop,hs.sim.hdom,hs.sim.fin,hs.sim.io,hs.sim.tab⟩,hs.tmps,hs.df⟩
 have d5:∀i∈ord,i<l.toArray.size:=by
  intro i hi;obtain⟨p1,p2,hp⟩:=bM hi;have d8:=hB;unfold Ic at d8;simp only[aF]at d8;rw[hp]at d8;obtain⟨_,_,_,o',fa,_⟩:=Hw p1 [] d8.1.1;exact(aI.1 fa).1
 have hlen:ord.length=l.toArray.size:=by
  have d8:=hB;unfold Ic at d8;simp only[aF,cR]at d8;exact d8.2
 have:=Sn ht hN hB hA hr ord.length ord (Array.replicate l.toArray.size false) γ O rfl j1 (D4 d5).symm d9 (Iz d5 (by rw[Jn fA];exact h)) hC g _ a (.refl g) c9;rw[hlen]at this;exact this
theorem Jw: ∀{l:List (Bool×Oper)}{γ:Fr}{O:Sig},(l.all fun p=> !(jc p.2).isSome)=true->MO P ro n ops N S0 Q df l γ O->MO2 P ro n ops N S0 Q df tab l γ O
 |[],_,_,_,h=>h
 |(e,o)::l,γ,O,hl,h=>by
  simp only[cM,aF,bp]at hl;have hn:jc o=none:=by cases h:jc o with|none=>rfl|some _=>rw[h]at hl;simp at hl
  show kK P ro n ops N S0 Q df tab e o γ O _;simp only[kK,hn];rcases h with⟨d,h2,h3⟩|⟨h1,h2⟩
  ·exact .inl ⟨d,h2,Jw hl.2 h3⟩
  ·exact .inr ⟨h1,h2.congr (fun _ _=>rfl) fun d U' ⟨h3,h4⟩=>⟨h3,Jw hl.2 h4⟩⟩
theorem ML{e:Bool}{t T:Nat}{ty:TypeId}{pos:String}{after:Array Edge}{l:List (Bool×Oper)}{γ:Fr}{O:Sig}(h:∀k,O k=none->MO2 P ro n ops N S0 Q df tab l ((t,.ptr k 0)::γ) (O.set k (.cells (tab T).zero))):
  MO2 P ro n ops N S0 Q df tab ((e,⟨some t,.alloc T,ty,pos,after,none⟩)::l) γ O:=h
theorem Wi{e:Bool}{o:Oper}{l:List (Bool×Oper)}{γ:Fr}{O:Sig}{d:D}(ha:jc o=none)(hc:Calm P n ops N S0 γ o d)(h:MO2 P ro n ops N S0 Q df tab l (putD o.dst d γ) O):
  MO2 P ro n ops N S0 Q df tab ((e,o)::l) γ O:=by
 show kK P ro n ops N S0 Q df tab e o γ O _;simp only[kK,ha];exact .inl ⟨d,hc,h⟩
theorem CZ(ht:AZ P tab){e:Bool}{t:Nat}{op:Op}{ty:TypeId}{pos:String}{after:Array Edge}{d:D}{l:List (Bool×Oper)}{γ Sr:Fr}{O:Sig}(hr:DF op=true)(fw:decide (t<n)=true)(hl:A5 γ (Aa op.operands.toList)=some Sr)(hd:jX tab Sr S0 op=some d)
  (h:MO2 P ro n ops N S0 Q df tab l ((t,d)::γ) O):MO2 P ro n ops N S0 Q df tab ((e,⟨some t,op,ty,pos,after,none⟩)::l) γ O:=by
 have fp:=(Bg (CK hl)) ▸ hd;refine Wi (d:=d) ?_ ⟨fw,.inl ⟨by rw[Ar];rfl,BU hr,H7 ht fp,fun U' hZ g w a hs hT=>?_⟩⟩ h
 ·unfold jc;split
  ·rename_i fN;cases fN;cases hr
  ·rfl
 ·refine Ex ht hs hT (?_:jX tab (only _ γ) U' op=some d);rw[Bg (V':=γ) fun x hx=>Bf (o:=⟨some t,op,ty,pos,after,none⟩) hx];exact Ey hZ fp
end
section
variable (P:Program)(ro:Ro)(n:Nat)(ops:Array Oper)(N:Nat)(S0:Sig)(Q:DX->St->Prop)(df:List DDf)(tab:Nat->Ty)
def USt(o:Oper)(γ:Fr)(O:Sig)(K:Fr->Sig->Prop):Prop:=
 (∃(dj:Nat->D) (x:jP),(∀τ,Eff P ro n ops df γ τ o (fun d' X'=> ∃j,τ j=none/\d'=dj j/\X'=τ.set j x) (fun _ _=>False)) /\ ∀j,O j=none->K (putD o.dst (dj j) γ) (O.set j x)) \/
 (∃(j:Nat) (y x:jP) (d:D),O j=some y/\S0 j=none/\(∀τ,τ j=some y->Eff P ro n ops df γ τ o (fun d' X'=>d'=d/\X'=τ.set j x) (fun _ _=>False))/\K (putD o.dst d γ) (O.set j x)) \/
 (∃Rr:Sig->D->Sig->Prop,(∀τ,Eff P ro n ops df γ τ o (Rr τ) (fun _ _=>False))/\(∀τ k x d X',τ k=none->Rr (τ.set k x) d X'->∃U',Rr τ d U'/\U' k=none/\X'=U'.set k x) /\ ∀d U',Rr O d U'->Sub S0 U'/\K (putD o.dst d γ) U')
def jq(e u:Bool)(o:Oper)(γ:Fr)(O:Sig)(K:Fr->Sig->Prop):Prop:=
 match jc o with
 |some (t,T)=> ∀k,O k=none->K ((t,.ptr k 0)::γ) (O.set k (.cells (tab T).zero))
 |none=>(∃d,Calm P n ops N S0 γ o d/\K (putD o.dst d γ) O) \/
  (e=true/\Eff P ro n ops df γ O o (fun d U'=>Sub S0 U'/\K (putD o.dst d γ) U') (fun d U'=> ∀V',Q (.panic d) ⟨V',U',df⟩)) \/
  (u=true/\USt P ro n ops S0 df o γ O K)
def kT(E U:eQ):eQ->Fr->Sig->Prop
 |[],γ,O=>au P ro n ops Q [] ⟨γ,O,df⟩
 |i::r,γ,O=> ∃o,ops[i]? = some o/\jq P ro n ops N S0 Q df tab (E.contains i) (U.contains i) o γ O (kT E U r)
def MO3:List (Bool×Bool×Oper)->Fr->Sig->Prop
 |[],γ,O=>au P ro n ops Q [] ⟨γ,O,df⟩
 |(e,u,o)::r,γ,O=>jq P ro n ops N S0 Q df tab e u o γ O (MO3 r)
end
section
variable {P:Program}{ro:Ro}{n:Nat}{ops:Array Oper}{N:Nat}{S0:Sig}{Q:DX->St->Prop}{df:List DDf}{E U:eQ}{tab:Nat->Ty}
theorem USt.congr{o:Oper}{γ V':Fr}{O:Sig}{K K':Fr->Sig->Prop}(h:USt P ro n ops S0 df o γ O K)(d6:∀t∈o.looksAt ops,getD γ t=getD V' t)(hK:∀d U',K (putD o.dst d γ) U'->K' (putD o.dst d V') U'):USt P ro n ops S0 df o V' O K':=by
 rcases h with⟨dj,x,hE,h⟩|⟨j,y,x,d,hj,h0,hE,h⟩|⟨Rr,hE,hn,h⟩
 rotate_left 2
 ·exact .inr (.inr ⟨Rr,fun τ=>(hE τ).congr d6 fun _ _ h=>h,hn,fun d U' hR=>⟨(h d U' hR).1,hK _ _ (h d U' hR).2⟩⟩)
 ·exact .inl ⟨dj,x,fun τ=>(hE τ).congr d6 fun _ _ h=>h,fun j hj=>hK _ _ (h j hj)⟩
 ·refine .inr (.inl ?_);exact⟨j,y,x,d,hj,h0,fun τ hτ=>(hE τ hτ).congr d6 fun _ _ h=>h,hK _ _ h⟩
theorem jq.mono{e u:Bool}{o:Oper}{γ V':Fr}{O:Sig}{K K':Fr->Sig->Prop}(h:jq P ro n ops N S0 Q df tab e u o γ O K)(d6:kP γ V')(hK:∀γ V' O,kP γ V'->K γ O->K' V' O):jq P ro n ops N S0 Q df tab e u o V' O K':=by
 unfold jq at h⊢;split at h
 ·exact fun k hk=>hK _ _ _ (d6.put (some _) _) (h k hk)
 ·rcases h with⟨d,h2,h3⟩|⟨h1,h2⟩|⟨h1,h2⟩
  ·exact .inl ⟨d,h2.congr fun t _=>d6 t,hK _ _ _ (d6.put _ _) h3⟩
  ·exact .inr (.inl ⟨h1,h2.congr (fun t _=>d6 t) fun d U' ⟨h3,h4⟩=>⟨h3,hK _ _ _ (d6.put _ _) h4⟩⟩)
  ·exact .inr (.inr ⟨h1,h2.congr (fun t _=>d6 t) fun d U' h4=>hK _ _ _ (d6.put _ _) h4⟩)
theorem kT.alike: ∀(l:eQ) {γ V':Fr}{O:Sig},kP γ V'->kT P ro n ops N S0 Q df tab E U l γ O->kT P ro n ops N S0 Q df tab E U l V' O
 |[],_,_,_,h,k=>Cn h k
 |i::r,_,_,_,h,⟨o,ho,k⟩=>⟨o,ho,k.mono h fun _ _ _ h' k'=>kT.alike r h' k'⟩
theorem Jt{i:Nat}{oi:Oper}(hi:ops[i]? = some oi)(post:eQ): ∀(pre:eQ) (γ:Fr) (O:Sig),
  (∀x∈pre,E.contains x=false/\(U.contains x=true->(jc oi).isSome=true) /\ ∃ox,ops[x]? = some ox/\oi.apart ops ox=true/\((jc ox).isSome=true->(jc oi).isSome=true))->kT P ro n ops N S0 Q df tab E U (pre++i::post) γ O->kT P ro n ops N S0 Q df tab E U (i::(pre++post)) γ O
 |[],_,_,_,h=>h
 | x::pre,γ,O,hp,h=>by
  obtain⟨fu,fO,ox,eV,fI,d6⟩:=hp x j1;obtain⟨a1,a2,a3⟩:=Oper.apart_spec fI;obtain⟨ox',fb,hx⟩:=h;obtain rfl:ox'=ox:=by rw[eV]at fb;cases fb;rfl
  have ih:∀γ O,kT P ro n ops N S0 Q df tab E U (pre++i::post) γ O->kT P ro n ops N S0 Q df tab E U (i::(pre++post)) γ O:=fun γ O=>Jt hi post pre γ O fun y hy=>hp y (by simp[hy])
  refine⟨oi,hi,?_⟩;cases fe:jc ox' with
  | some p =>
   obtain⟨t,T⟩:=p;cases eY:jc oi with
   |none=>rw[fe,eY]at d6;simp at d6
   | some q =>
    obtain⟨t',T'⟩:=q;obtain⟨_,_,_,rfl⟩:=Fp fe;obtain⟨_,_,_,rfl⟩:=Fp eY;simp only[jq,jc]at hx⊢;intro k' fq;refine⟨_,eV,?_⟩;simp only[jq,jc];intro k hk
    have hne:k≠k':=by
     rintro rfl
     simp[Sig.set]at hk
    have fL:O k=none:=by rw[w7 _ _ hne]at hk;exact hk
    obtain⟨oi',b7,hh⟩:=ih _ _ (hx k fL);rw[hi]at b7;cases b7;simp only[jq,jc]at hh;have h3:=hh k' (j2 (cg hne) fq);rw[set_comm O hne]at h3;exact kT.alike _ (AN (a:=some t') (b:=some t) _ _ _ fun t p q=>a2 t p q) h3
  | none =>
   simp only[jq,fe]at hx;rcases hx with⟨d,hy,h⟩|⟨hE,_⟩|⟨fU,hu⟩
   ·obtain⟨oi',b7,hh⟩:=ih _ O h;rw[hi]at b7;cases b7;cases eY:jc oi with
    |some q=>
     obtain⟨t',T'⟩:=q;obtain⟨_,_,_,rfl⟩:=Fp eY;simp only[jq,jc]at hh⊢;intro k' fq;refine⟨ox',eV,?_⟩;simp only[jq,fe];refine .inl ⟨d,hy.congr fun t ht=>(Al (dst:=some t') fun hd=>a1 t hd ht).symm,?_⟩;exact kT.alike _ (AN _ _ _ fun t p q=>a2 t p q) (hh k' fq)
    | none =>
     simp only[jq,eY]at hh⊢;rcases hh with⟨e,h2,h3⟩|⟨h1,h2⟩|⟨h1,h2⟩
     ·refine .inl ⟨e,h2.congr fun t ht=>Al fun hd=>a3 t hd ht,ox',eV,?_⟩;simp only[jq,fe];refine .inl ⟨d,hy.congr fun t ht=>(Al fun hd=>a1 t hd ht).symm,?_⟩;exact kT.alike _ (AN _ _ _ fun t p q=>a2 t p q) h3
     ·refine .inr (.inl ⟨h1,h2.congr (fun t ht=>Al fun hd=>a3 t hd ht) fun e U' ⟨h3,h4⟩=>⟨h3,ox',eV,?_⟩⟩);simp only[jq,fe];refine .inl ⟨d,hy.congr fun t ht=>(Al fun hd=>a1 t hd ht).symm,?_⟩;exact kT.alike _ (AN _ _ _ fun t p q=>a2 t p q) h4
     ·refine .inr (.inr ⟨h1,h2.congr (fun t ht=>Al fun hd=>a3 t hd ht) fun e U' h4=>⟨ox',eV,?_⟩⟩);simp only[jq,fe];refine .inl ⟨d,hy.congr fun t ht=>(Al fun hd=>a1 t hd ht).symm,?_⟩;exact kT.alike _ (AN _ _ _ fun t p q=>a2 t p q) h4
   ·rw[fu]at hE;cases hE
   ·cases eY:jc oi with
    |none=>rw[eY]at fO;exact absurd (fO fU) j1
    | some q =>
     obtain⟨t',T'⟩:=q;obtain⟨_,_,_,rfl⟩:=Fp eY;simp only[jq,jc];intro k hk;refine⟨ox',eV,?_⟩;simp only[jq,fe];refine .inr (.inr ⟨fU,?_⟩);rcases hu with⟨dj,xo,hE,hK⟩|⟨j,y,xo,d,hj,h0,hE,hK⟩|⟨Rr,hE,hn,hK⟩
     rotate_left 2
     ·refine .inr (.inr ⟨Rr,fun τ=>(hE τ).congr (fun t ht=>(Al (dst:=some t') fun hd=>a1 t hd ht).symm) fun _ _ h=>h,hn,fun d X' hR=>?_⟩);obtain⟨U',h1,h2,rfl⟩:=hn O k _ d X' hk hR;obtain⟨hs,f7⟩:=hK d U' h1;refine⟨hs.set (hs.none h2),?_⟩;obtain⟨oi',b7,hh⟩:=ih _ _ f7;rw[hi]at b7;cases b7;simp only[jq,jc]at hh;exact kT.alike _ (AN (a:=some t') (b:=ox'.dst) _ _ _ fun t p q=>a2 t p q) (hh k h2)
     ·refine .inl ⟨dj,xo,fun τ=>(hE τ).congr (fun t ht=>(Al (dst:=some t') fun hd=>a1 t hd ht).symm) fun _ _ h=>h,fun j hj=>?_⟩
      have hne:j≠k:=by
       rintro rfl
       simp[Sig.set]at hj
      have fZ:O j=none:=by rw[w7 _ _ hne]at hj;exact hj
      obtain⟨oi',b7,hh⟩:=ih _ _ (hK j fZ);rw[hi]at b7;cases b7;simp only[jq,jc]at hh;have h3:=hh k (j2 (cg hne) hk);rw[set_comm O hne]at h3;exact kT.alike _ (AN (a:=some t') (b:=ox'.dst) _ _ _ fun t p q=>a2 t p q) h3
     ·have hne:j≠k:=fun e=>by rw[e,hk]at hj;cases hj
      refine .inr (.inl ?_);refine⟨j,y,xo,d,j2 hne hj,h0,fun τ hτ=>(hE τ hτ).congr (fun t ht=>(Al (dst:=some t') fun hd=>a1 t hd ht).symm) fun _ _ h=>h,?_⟩;obtain⟨oi',b7,hh⟩:=ih _ _ hK;rw[hi]at b7;cases b7;simp only[jq,jc]at hh;have h3:=hh k (j2 (cg hne) hk);rw[set_comm O hne]at h3;exact kT.alike _ (AN (a:=some t') (b:=ox'.dst) _ _ _ fun t p q=>a2 t p q) h3
def Kh(ops:Array Oper)(E U:eQ):eQ->eQ->Bool
 |_,[]=>true
 | done,i::r => !done.contains i && (match ops[i]? with
  |some o=>(o.after.all fun e=> !Region.binds .any e||done.contains e.on)&&done.all fun x=>(!E.contains x&&(!U.contains x||(jc o).isSome)&&match ops[x]? with
   |some ox=>o.apart ops ox&&(!(jc ox).isSome||(jc o).isSome)
   |none=>false)||reach ops ops.size i x
  |none=>false)&&Kh ops E U (i::done) r
theorem Hv {i:Nat} {l2:eQ} : ∀ (l1 done:eQ),Kh ops E U done (l1++i::l2)=true->i ∉ l1/\i ∉ done/\i ∉ l2 /\ ∃ o,ops[i]? = some o/\(∀ e ∈ o.after,Region.binds .any e=true->e.on ∈ l1\/e.on ∈ done) /\
   ∀x,x∈l1->reach ops ops.size i x=true\/(E.contains x=false/\(U.contains x=true->(jc o).isSome=true) /\ ∃ox,ops[x]? = some ox/\o.apart ops ox=true/\((jc ox).isSome=true->(jc o).isSome=true))
 | [],done,h=>by
  simp only[bG,Kh,aF,bp,bS,bh]at h;obtain⟨⟨h1,h2⟩,h3⟩:=h
  have later:∀(l d:eQ),i∈d->Kh ops E U d l=true->i∉l:=by
   intro l
   induction l with
   |nil=>intro _ _ _ h;cases h
   |cons y l ih=>
    intro d hd hm b6;simp only[Kh,aF,bp,bS,bh]at hm;obtain⟨⟨m1,_⟩,m3⟩:=hm;rcases aY.1 b6 with rfl|b6
    ·exact m1 hd
    ·exact ih (y::d) (by simp[hd]) m3 b6
  refine⟨j1,h1,later l2 _ j1 h3,?_⟩;split at h2
  ·rename_i o ho;simp only[aF]at h2;refine⟨o,ho,fun e he hb=>?_,fun x hx=>by cases hx⟩;have:=bW.1 h2.1 e he;simp only[hb,cr,cO,bS,aH]at this;exact .inr this
  ·cases h2
 | y::l1,done,h=>by
  simp only[bH,Kh,aF]at h;obtain⟨h1,h2,h3,o,ho,he,hx⟩:=Hv l1 (y::done) h.2;have fD:i≠y:=fun e=>h2 (by simp[e])
  refine⟨by simp[fD,h1],fun hd=>h2 (by simp[hd]),h3,o,ho,fun e hm hb=>?_,?_⟩
  ·rcases he e hm hb with h4|h4
   ·exact .inl (by simp[h4])
   ·rcases aY.1 h4 with h5|h5
    ·exact .inl (by simp[h5])
    ·exact .inr h5
  ·intro x b6;rcases aY.1 b6 with rfl|b6
   ·have back:∀(l d:eQ),x∈d->Kh ops E U d (l++i::l2)=true->reach ops ops.size i x=true\/(E.contains x=false/\(U.contains x=true->(jc o).isSome=true) /\ ∃ox,ops[x]? = some ox/\o.apart ops ox=true/\((jc ox).isSome=true->(jc o).isSome=true)):=by
     intro l
     induction l with
     | nil =>
      intro d hd hm;simp only[bG,Kh,aF,ho]at hm;have:=aW.1 hm.1.2.2 x hd;simp only[bR,aF,bp]at this;rcases this.symm with h4|⟨⟨h4,hu⟩,h5⟩
      ·exact .inl h4
      ·refine .inr ⟨h4,(fun fW=>hu.resolve_left fun h=>by rw[fW]at h;cases h),?_⟩;split at h5
       ·rename_i ox eV;simp only[aF,bR,bp]at h5;exact⟨ox,eV,h5.1,fun hs=>by rcases h5.2 with h6|h6;rw[h6]at hs;cases hs;exact h6⟩
       ·cases h5
     |cons z l ih=>
      intro d hd hm;simp only[bH,Kh,aF]at hm;exact ih (z::d) (by simp[hd]) hm.2
    exact back l1 _ j1 h.2
   ·exact hx x b6
def Ib(ops:Array Oper)(E U ord:eQ):Bool:=Kh ops E U [] ord&&(List.range ops.size).all ord.contains&&ord.length==ops.size
theorem Sm(ht:AZ P tab)(hN:P.funcs.size=N){ord:eQ}(hB:Ib ops E U ord=true)(hA:Rj tab n ops=true){g0:G}{rr:Rx}(hr:kh g0 ro rr): ∀(m:Nat) (r:eQ) (listed:Array Bool) (γ:Fr) (O:Sig),r.length=m->listed.size=ops.size->
  r=ord.filter (fun i=> !listed.getD i true)->kC ops listed->kT P ro n ops N S0 Q df tab E U r γ O->Sub S0 O->
   ∀(g:G) (w:World) (a:Act),g0.le g->kI P g n ⟨γ,O,df⟩ a w->wpAnyIn (FX P rr) 0 P .any ops (kE P g0 n Q) m listed a w:=by
 unfold Ib at hB;simp only[aF]at hB;obtain⟨⟨b9,fi⟩,_⟩:=hB
 have b6:∀(r:eQ) (listed:Array Bool),r=ord.filter (fun i=> !listed.getD i true)->∀i∈Region.ready .any ops listed,i∈r:=by
  intro r listed hf i hi;obtain⟨h1,o,ho,_⟩:=mem_ready.1 hi;have:=aW.1 fi i (by simpa using(aI.1 ho).1);rw[hf,bI];exact⟨by simpa using this,by rw[h1];rfl⟩
 intro m
 induction m with
 |zero=>
  intro r listed γ O hl hsz hf d9 h hC g w a hg hs;obtain rfl:r=[]:=bf.1 hl;refine⟨cy.2 fun i hi=>?_,?_⟩
  ·have:=b6 [] listed hf i hi;cases this
  ·exact kE.le hg (h g w a rr (hr.mono hg) hs)
 | succ m ih =>
  intro r listed γ O hl hsz hf d9 h hC g w a hg hs;obtain⟨y,t,rfl⟩:∃y t,r=y::t:=by cases r with|nil=>cases hl|cons y t=>exact⟨y,t,rfl⟩
  refine⟨fun he=>?_,fun i hi=>?_⟩
  ·exfalso
   obtain⟨l1,l2,eW,fB,hy,fQ⟩:=bQ.1 hf.symm;subst eW;obtain⟨h1,_,_,o,ho,fo,_⟩:=Hv l1 [] b9
   have:y∈Region.ready .any ops listed:=by
    refine mem_ready.2 ⟨by simpa using hy,o,ho,fun e hm hb=>?_⟩;rcases fo e hm hb with h4|h4
    ·have h5:=fB _ h4;simp only[bZ,dm]at h5
     have d5:e.on<listed.size:=by
      have:e.on∈l1++y::l2:=by simp[h4]
      obtain⟨p1,p2,hp⟩:=bM this;rw[hp]at b9;obtain⟨_,_,_,o',fa,_⟩:=Hv p1 [] b9;rw[hsz];exact(aI.1 fa).1
     simpa[d5] using h5
    ·cases h4
   rw[he]at this;cases this
  ·obtain⟨pre,post,eU⟩:=bM (b6 _ listed hf i hi);rw[eU]at hf h hl;obtain⟨l1',l2',eW,fh,fH⟩:=cG.1 hf.symm;obtain⟨m1,m2,fg,fy,fR,fG⟩:=bQ.1 fH;have d7:ord=(l1'++m1)++i::m2:=by rw[eW,fg];simp
   rw[d7]at b9;obtain⟨n1,_,n3,o,ho,fo,hx⟩:=Hv (l1'++m1) [] b9;obtain⟨fE,o',fa,fc⟩:=mem_ready.1 hi;obtain rfl:o'=o:=by rw[ho]at fa;cases fa;rfl
   have eX:=Jt ho post pre γ O (fun x fk=>by
    have fv:x∈l1'++m1:=by
     have:x∈l1'.filter (fun i=> !listed.getD i true):=by rw[fh];exact fk
     simp[(bI.1 this).1]
    have fj:listed.getD x true=false:=by
     have:x∈l1'.filter (fun i=> !listed.getD i true):=by rw[fh];exact fk
     simpa using(bI.1 this).2
    rcases hx x fv with h4|h4
    ·exfalso
     have:=CP d9 ops.size i x o' ho fc h4
     rcases ce x listed.size with d5|d5
     ·simp[d5]at this fj;rw[fj]at this;cases this
     ·simp[cb d5]at this
    ·exact h4) h
   have b8:pre++post=ord.filter (fun j=> !(listed.setIfInBounds i true).getD j true):=by
    have fF:i<listed.size:=by
     rw[hsz];exact(aI.1 ho).1
    rw[d7,bV,cw];have e1:(listed.setIfInBounds i true).getD i true=true:=by simp[fF]
    rw[e1,Av n1,Av n3];simp only[cr,bm,bc,bV,fh,fG];rw[cB.2 (fun x hx=>by simpa using fy x hx),bl]
   have hlen:(pre++post).length=m:=by simp at hl⊢; omega
   obtain⟨o2,fm,hh⟩:=eX;obtain rfl:o2=o':=by rw[ho]at fm;cases fm;rfl
   have ff:=bW.1 hA o2 (Array.mem_of_getElem? ho);unfold wpOpIn;simp only[ho];cases eY:jc o2 with
   | some p =>
    obtain⟨t,T⟩:=p;rw[eY]at ff;simp only[aF,aH,bp]at ff;obtain⟨_,_,_,rfl⟩:=Fp eY;simp only[jq,jc]at hh;refine Cs (Q:=Q) (R:=fun d U'=> ∃k,O k=none/\d=.ptr k 0/\U'=O.set k (.cells (tab T).zero)) (Rp:=fun _ _=>False) (hr.mono hg) hg hs ⟨by simp[Ax,ff.1],rfl,?_⟩ (fun g' w' a' d U' eZ hR c9=>?_) fun _ _ h=>h.elim
    ·exact Dx ht ff.2 ff.1 fun k hk=>AD ⟨rfl,k,hk,by simp[A8],rfl⟩
    ·obtain⟨k,hk,rfl,rfl⟩:=hR;exact ih _ _ _ _ hlen (by simpa using hsz) b8 (d9.set hi) (hh k hk) (fun i o h=>(Sub.refl _).set hk i o (hC i o h)) g' w' a' (hg.trans eZ) c9
   | none =>
    simp only[jq,eY]at hh;rcases hh with⟨d,hy,hM⟩|⟨_,hE⟩|⟨_,hu⟩
    ·exact Ez (Q:=Q) hN (hr.mono hg) hg hs hC hy fun g' w' a' eZ c9=>ih _ _ _ _ hlen (by simpa using hsz) b8 (d9.set hi) hM hC g' w' a' (hg.trans eZ) c9
    ·exact Cs (Q:=Q) (hr.mono hg) hg hs hE (fun g' w' a' d U' eZ hR c9=>ih _ _ _ _ hlen (by simpa using hsz) b8 (d9.set hi) hR.2 hR.1 g' w' a' (hg.trans eZ) c9) fun d U' hp=>hp
    ·rcases hu with⟨dj,x,hE,hK⟩|⟨j,y,x,d,hj,h0,hE,hK⟩|⟨Rr,hE,hn,hK⟩
     rotate_left 2
     ·refine Cs (Q:=Q) (hr.mono hg) hg hs (hE O) (fun g' w' a' d U' eZ hR c9=>?_) fun _ _ h=>h.elim;exact ih _ _ _ _ hlen (by simpa using hsz) b8 (d9.set hi) (hK d U' hR).2 (hK d U' hR).1 g' w' a' (hg.trans eZ) c9
     ·refine Cs (Q:=Q) (hr.mono hg) hg hs (hE O) (fun g' w' a' d U' eZ hR c9=>?_) fun _ _ h=>h.elim;obtain⟨j,hj,rfl,rfl⟩:=hR;exact ih _ _ _ _ hlen (by simpa using hsz) b8 (d9.set hi) (hK j hj) (fun i o h=>(Sub.refl _).set hj i o (hC i o h)) g' w' a' (hg.trans eZ) c9
     ·refine Cs (Q:=Q) (hr.mono hg) hg hs (hE O hj) (fun g' w' a' d' U' eZ hR c9=>?_) fun _ _ h=>h.elim;obtain⟨rfl,rfl⟩:=hR;exact ih _ _ _ _ hlen (by simpa using hsz) b8 (d9.set hi) hK (fun i o h=>by rw[w7 _ _ fun e=>by rw[e,h0]at h;cases h];exact hC i o h) g' w' a' (hg.trans eZ) c9
def RV(ops:List Oper)(E U:eQ):eQ->Option (List (Bool×Bool×Oper))
 |[]=>some []
 | i::r=>match nthO ops i with
  |some o=>match RV ops E U r with
   |some l=>some ((E.contains i,U.contains i,o)::l)
   |none=>none
  |none=>none
theorem Iy{lo:List Oper}: ∀{ord:eQ}{lp:List (Bool×Bool×Oper)}{γ:Fr}{O:Sig},RV lo E U ord=some lp->MO3 P ro n lo.toArray N S0 Q df tab lp γ O->kT P ro n lo.toArray N S0 Q df tab E U ord γ O
 |[],_,_,_,hp,h=>by cases hp;exact h
 |i::r,lp,γ,O,hp,h=>by
  simp only[RV]at hp;split at hp<;>(try (cases hp;done));rename_i o ho;split at hp<;>(try (cases hp;done));rename_i l hl;cases hp;refine⟨o,by rw[I9]at ho;simpa using ho,?_⟩;exact jq.mono h (fun _=>rfl) fun γ V' O d6 h=>kT.alike _ d6 (Iy hl h)
theorem Xp(ht:AZ P tab)(hN:P.funcs.size=N)(hm:P.follows .mixedOrders=true){l:List Oper}{id:Nat}{γ:Fr}{O:Sig}(ord E U:eQ)(S0:Sig)(hB:Ib l.toArray E U ord=true)(hA:Rj tab n l.toArray=true)(hC:Sub S0 O)
  {lp:List (Bool×Bool×Oper)} (fA:RV l E U ord=some lp) (h:MO3 P ro n l.toArray N S0 Q df tab lp γ O):DWp P ro n (.region id l.toArray true) Q ⟨γ,O,df⟩:=by
 intro g w a r hr hs;refine wpIn_region_any hm ?_
 have d9:kC l.toArray (Array.replicate l.toArray.size false):=by
  intro q o _ hq;rcases ce q l.length with h'|h'
  ·simp[h']at hq
  ·simp[h']at hq
 have c9:kI P g n ⟨γ,O,df⟩ a { w with drawn:=w.drawn+1 }:=
  ⟨⟨fun b o v h=>hs.sim.imm b o v h,hs.sim.keep,fun i o h=>by
   have:=hs.sim.obj i o h
   cases o<;>exact this,hs.sim.inj,hs.sim.free,hs.sim.htop,hs.sim.hdom,hs.sim.fin,hs.sim.io,hs.sim.tab⟩,hs.tmps,hs.df⟩
 have d5:∀i∈ord,i<l.toArray.size:=by
  intro i hi;obtain⟨p1,p2,hp⟩:=bM hi;have d8:=hB;unfold Ib at d8;simp only[aF]at d8;rw[hp]at d8;obtain⟨_,_,_,o',fa,_⟩:=Hv p1 [] d8.1.1;exact(aI.1 fa).1
 have hlen:ord.length=l.toArray.size:=by
  have d8:=hB;unfold Ib at d8;simp only[aF,cR]at d8;exact d8.2
 have:=Sm ht hN hB hA hr ord.length ord (Array.replicate l.toArray.size false) γ O rfl j1 (D4 d5).symm d9 (Iy fA h) hC g _ a (.refl g) c9;rw[hlen]at this;exact this
theorem Jv: ∀{l:List (Bool×Bool×Oper)}{γ:Fr}{O:Sig},(l.all fun p=> !(jc p.2.2).isSome)=true->MO P ro n ops N S0 Q df (l.map fun p=>(p.1,p.2.2)) γ O->MO3 P ro n ops N S0 Q df tab l γ O
 |[],_,_,_,h=>h
 |(e,u,o)::l,γ,O,hl,h=>by
  simp only[cM,aF,bp]at hl;have hn:jc o=none:=by cases h:jc o with|none=>rfl|some _=>rw[h]at hl;simp at hl
  show jq P ro n ops N S0 Q df tab e u o γ O _;simp only[jq,hn];rcases h with⟨d,h2,h3⟩|⟨h1,h2⟩
  ·exact .inl ⟨d,h2,Jv hl.2 h3⟩
  ·exact .inr (.inl ⟨h1,h2.congr (fun _ _=>rfl) fun d U' ⟨h3,h4⟩=>⟨h3,Jv hl.2 h4⟩⟩)
theorem Sx{e u:Bool}{t T:Nat}{ty:TypeId}{pos:String}{after:Array Edge}{l:List (Bool×Bool×Oper)}{γ:Fr}{O:Sig}(h:∀k,O k=none->MO3 P ro n ops N S0 Q df tab l ((t,.ptr k 0)::γ) (O.set k (.cells (tab T).zero))):
  MO3 P ro n ops N S0 Q df tab ((e,u,⟨some t,.alloc T,ty,pos,after,none⟩)::l) γ O:=h
theorem Wh(ht:AZ P tab){e u:Bool}{t:Nat}{op:Op}{ty:TypeId}{pos:String}{after:Array Edge}{d:D}{l:List (Bool×Bool×Oper)}{γ Sr:Fr}{O:Sig}(hr:DF op=true)(fw:decide (t<n)=true)(hl:A5 γ (Aa op.operands.toList)=some Sr)(hd:jX tab Sr S0 op=some d)
  (h:MO3 P ro n ops N S0 Q df tab l ((t,d)::γ) O):MO3 P ro n ops N S0 Q df tab ((e,u,⟨some t,op,ty,pos,after,none⟩)::l) γ O:=by
 have fp:=(Bg (CK hl)) ▸ hd
 have ha:jc ⟨some t,op,ty,pos,after,none⟩=none:=by
  unfold jc;split
  ·rename_i fN;cases fN;cases hr
  ·rfl
 show jq P ro n ops N S0 Q df tab e u _ γ O _;simp only[jq,ha];refine .inl ⟨d,⟨fw,.inl ⟨by rw[Ar];rfl,BU hr,H7 ht fp,fun U' hZ g w a hs hT=>?_⟩⟩,h⟩;refine Ex ht hs hT (?_:jX tab (only _ γ) U' op=some d);rw[Bg (V':=γ) fun x hx=>Bf (o:=⟨some t,op,ty,pos,after,none⟩) hx];exact Ey hZ fp
theorem mo3_u{e:Bool}{o:Oper}{l:List (Bool×Bool×Oper)}{γ:Fr}{O:Sig}(ha:jc o=none)(h:USt P ro n ops S0 df o γ O (MO3 P ro n ops N S0 Q df tab l)):MO3 P ro n ops N S0 Q df tab ((e,true,o)::l) γ O:=by
 show jq P ro n ops N S0 Q df tab e true o γ O _;simp only[jq,ha];exact .inr (.inr ⟨trivial,h⟩)
end
section
variable (P:Program)(ro:Ro)(n:Nat)(ops:Array Oper)(N:Nat)(Q:DX->St->Prop)(df:List DDf)
def kz (E C K:eQ):eQ->Sig->Fr->Sig->Prop
  |[],_,γ,O=>au P ro n ops Q [] ⟨γ,O,df⟩
  | i::r,S0,γ,O => ∃ o,ops[i]? = some o /\
    ((∃ d,Calm P n ops N (if C.contains i=true then S0 else fun _=>none) γ o d/\kz E C K r S0 (putD o.dst d γ) O) \/
     (E.contains i=true/\Eff P ro n ops df γ O o (fun d U'=> ∃S1,Sub S1 U'/\(K.contains i=false->S1=S0)/\kz E C K r S1 (putD o.dst d γ) U') (fun d U'=> ∀V',Q (.panic d) ⟨V',U',df⟩)))
def MO4:List (Bool × Bool × Bool × Oper)->Sig->Fr->Sig->Prop
  |[],_,γ,O=>au P ro n ops Q [] ⟨γ,O,df⟩
  | (e,c,k,o)::r,S0,γ,O =>
    (∃ d,Calm P n ops N (if c=true then S0 else fun _=>none) γ o d/\MO4 r S0 (putD o.dst d γ) O) \/
     (e=true/\Eff P ro n ops df γ O o (fun d U'=> ∃S1,Sub S1 U'/\(k=false->S1=S0)/\MO4 r S1 (putD o.dst d γ) U') (fun d U'=> ∀V',Q (.panic d) ⟨V',U',df⟩))
end
section
variable {P:Program}{ro:Ro}{n:Nat}{ops:Array Oper}{N:Nat}{S0:Sig}{Q:DX->St->Prop}{df:List DDf}{E C K:eQ}{tab:Nat->Ty}
theorem kz.alike: ∀(l:eQ) {S0:Sig}{γ V':Fr}{O:Sig},kP γ V'->kz P ro n ops N Q df E C K l S0 γ O->kz P ro n ops N Q df E C K l S0 V' O
 |[],_,_,_,_,h,k=>Cn h k
 |i::r,_,_,_,_,h,⟨o,ho,k⟩=>⟨o,ho,(match k with
  |.inl ⟨d,h2,h3⟩=>.inl ⟨d,h2.congr fun t _=>h t,kz.alike r (h.put _ _) h3⟩
  |.inr ⟨h1,h2⟩=>.inr ⟨h1,h2.congr (fun t _=>h t) fun d U' ⟨S1,h3,h5,h4⟩=>⟨S1,h3,h5,kz.alike r (h.put _ _) h4⟩⟩)⟩
theorem Calm.base{S0 S1:Sig}{γ:Fr}{o:Oper}{d:D}(h:Calm P n ops N S0 γ o d)(hs:Sub S0 S1):Calm P n ops N S1 γ o d:=
 ⟨h.ok,by
  rcases h.run with⟨a,b,c,e⟩|h|⟨a,e⟩
  ·exact .inl ⟨a,b,c,fun O hZ=>e O (hs.trans hZ)⟩
  ·exact .inr (.inl h)
  ·exact .inr (.inr ⟨a,fun O hZ=>e O (hs.trans hZ)⟩)⟩
theorem Js{i:Nat}{oi:Oper}(hi:ops[i]? = some oi)(post:eQ): ∀(pre:eQ) (γ:Fr) (O:Sig),
  (∀x∈pre,E.contains x=false/\(K.contains i&&C.contains x)=false /\ ∃ox,ops[x]? = some ox/\oi.apart ops ox=true)->kz P ro n ops N Q df E C K (pre++i::post) S0 γ O->kz P ro n ops N Q df E C K (i::(pre++post)) S0 γ O
 |[],_,_,_,h=>h
 | x::pre,γ,O,hp,h=>by
  obtain⟨fu,fP,ox,eV,fI⟩:=hp x j1;obtain⟨a1,a2,a3⟩:=Oper.apart_spec fI;obtain⟨ox',fb,hx⟩:=h;obtain rfl:ox'=ox:=by rw[eV]at fb;cases fb;rfl
  rcases hx with⟨d,hy,h⟩|⟨hE,_⟩
  ·obtain⟨oi',b7,hh⟩:=Js hi post pre _ O (fun y hy=>hp y (by simp[hy])) h;obtain rfl:oi'=oi:=by rw[hi]at b7;cases b7;rfl
   refine⟨oi',hi,?_⟩;rcases hh with⟨e,h2,h3⟩|⟨h1,h2⟩
   ·refine .inl ⟨e,h2.congr fun t ht=>Al fun hd=>a3 t hd ht,ox',eV,.inl ⟨d,hy.congr fun t ht=>(Al fun hd=>a1 t hd ht).symm,?_⟩⟩;exact kz.alike _ (AN _ _ _ fun t p q=>a2 t p q) h3
   ·refine .inr ⟨h1,h2.congr (fun t ht=>Al fun hd=>a3 t hd ht) fun e U' ⟨S1,h3,h5,h4⟩=>⟨S1,h3,h5,ox',eV,.inl ⟨d,?_,kz.alike _ (AN _ _ _ fun t p q=>a2 t p q) h4⟩⟩⟩;have fJ:=hy.congr (V':=putD oi'.dst e γ) fun t ht=>(Al fun hd=>a1 t hd ht).symm;cases hk:K.contains i with
    |false=>rw[h5 hk];exact fJ
    |true=>
     rw[hk,bq]at fP;rw[fP]at fJ⊢;exact fJ
  ·rw[fu]at hE;cases hE
def Kg(ops:Array Oper)(E C K:eQ):eQ->eQ->Bool
 |_,[]=>true
 | done,i::r => !done.contains i && (match ops[i]? with
  |some o=>(o.after.all fun e=> !Region.binds .any e||done.contains e.on)&&done.all fun x=>(!E.contains x&&!(K.contains i&&C.contains x)&&match ops[x]? with
   |some ox=>o.apart ops ox
   |none=>false)||reach ops ops.size i x
  |none=>false)&&Kg ops E C K (i::done) r
theorem E5{i:Nat}{l2:eQ}: ∀(l1 done:eQ),Kg ops E C K done (l1++i::l2)=true->i∉l1/\i∉done/\i∉l2 /\ ∃o,ops[i]? = some o/\(∀e∈o.after,Region.binds .any e=true->e.on∈l1\/e.on∈done) /\
   ∀x,x∈l1->reach ops ops.size i x=true\/(E.contains x=false/\(K.contains i&&C.contains x)=false /\ ∃ox,ops[x]? = some ox/\o.apart ops ox=true)
 | [],done,h=>by
  simp only[bG,Kg,aF,bp,bS,bh]at h;obtain⟨⟨h1,h2⟩,h3⟩:=h
  have later:∀(l d:eQ),i∈d->Kg ops E C K d l=true->i∉l:=by
   intro l
   induction l with
   |nil=>intro _ _ _ h;cases h
   |cons y l ih=>
    intro d hd hm b6;simp only[Kg,aF,bp,bS,bh]at hm;obtain⟨⟨m1,_⟩,m3⟩:=hm;rcases aY.1 b6 with rfl|b6
    ·exact m1 hd
    ·exact ih (y::d) (by simp[hd]) m3 b6
  refine⟨j1,h1,later l2 _ j1 h3,?_⟩;split at h2
  ·rename_i o ho;simp only[aF]at h2;refine⟨o,ho,fun e he hb=>?_,fun x hx=>by cases hx⟩;have:=bW.1 h2.1 e he;simp only[hb,cr,cO,bS,aH]at this;exact .inr this
  ·cases h2
 | y::l1,done,h=>by
  simp only[bH,Kg,aF]at h;obtain⟨h1,h2,h3,o,ho,he,hx⟩:=E5 l1 (y::done) h.2;have fD:i≠y:=fun e=>h2 (by simp[e])
  refine⟨by simp[fD,h1],fun hd=>h2 (by simp[hd]),h3,o,ho,fun e hm hb=>?_,?_⟩
  ·rcases he e hm hb with h4|h4
   ·exact .inl (by simp[h4])
   ·rcases aY.1 h4 with h5|h5
    ·exact .inl (by simp[h5])
    ·exact .inr h5
  ·intro x b6;rcases aY.1 b6 with rfl|b6
   ·
    have back:∀(l d:eQ),x∈d->Kg ops E C K d (l++i::l2)=true->reach ops ops.size i x=true\/(E.contains x=false/\(K.contains i&&C.contains x)=false /\ ∃ox,ops[x]? = some ox/\o.apart ops ox=true):=by
     intro l
     induction l with
     | nil =>
      intro d hd hm;simp only[bG,Kg,aF,ho]at hm;have:=aW.1 hm.1.2.2 x hd;simp only[bR,aF,bp]at this;rcases this.symm with h4|⟨⟨h4,h6⟩,h5⟩
      ·exact .inl h4
      ·refine .inr ⟨h4,h6,?_⟩;split at h5
       ·rename_i ox eV;exact⟨ox,eV,h5⟩
       ·cases h5
     |cons z l ih=>
      intro d hd hm;simp only[bH,Kg,aF]at hm;exact ih (z::d) (by simp[hd]) hm.2
    exact back l1 _ j1 h.2
   ·exact hx x b6
def DT(ops:Array Oper)(E C K ord:eQ):Bool:=Kg ops E C K [] ord&&(List.range ops.size).all ord.contains&&ord.length==ops.size
theorem Sj(hN:P.funcs.size=N){ord:eQ}(hB:DT ops E C K ord=true){g0:G}{rr:Rx}(hr:kh g0 ro rr): ∀(m:Nat) (r:eQ) (listed:Array Bool) (S0:Sig) (γ:Fr) (O:Sig),r.length=m->listed.size=ops.size->
  r=ord.filter (fun i=> !listed.getD i true)->kC ops listed->kz P ro n ops N Q df E C K r S0 γ O->Sub S0 O->
   ∀(g:G) (w:World) (a:Act),g0.le g->kI P g n ⟨γ,O,df⟩ a w->wpAnyIn (FX P rr) 0 P .any ops (kE P g0 n Q) m listed a w:=by
 unfold DT at hB;simp only[aF]at hB;obtain⟨⟨b9,fi⟩,_⟩:=hB
 have b6:∀(r:eQ) (listed:Array Bool),r=ord.filter (fun i=> !listed.getD i true)->∀i∈Region.ready .any ops listed,i∈r:=by
  intro r listed hf i hi;obtain⟨h1,o,ho,_⟩:=mem_ready.1 hi;have:=aW.1 fi i (by simpa using(aI.1 ho).1);rw[hf,bI];exact⟨by simpa using this,by rw[h1];rfl⟩
 intro m
 induction m with
 |zero=>
  intro r listed S0 γ O hl hsz hf d9 h hC g w a hg hs;obtain rfl:r=[]:=bf.1 hl;refine⟨cy.2 fun i hi=>?_,?_⟩
  ·have:=b6 [] listed hf i hi;cases this
  ·exact kE.le hg (h g w a rr (hr.mono hg) hs)
 | succ m ih =>
  intro r listed S0 γ O hl hsz hf d9 h hC g w a hg hs;obtain⟨y,t,rfl⟩:∃y t,r=y::t:=by cases r with|nil=>cases hl|cons y t=>exact⟨y,t,rfl⟩
  refine⟨fun he=>?_,fun i hi=>?_⟩
  ·exfalso
   obtain⟨l1,l2,eW,fB,hy,fQ⟩:=bQ.1 hf.symm;subst eW;obtain⟨h1,_,_,o,ho,fo,_⟩:=E5 l1 [] b9
   have:y∈Region.ready .any ops listed:=by
    refine mem_ready.2 ⟨by simpa using hy,o,ho,fun e hm hb=>?_⟩;rcases fo e hm hb with h4|h4
    ·have h5:=fB _ h4;simp only[bZ,dm]at h5
     have d5:e.on<listed.size:=by
      have:e.on∈l1++y::l2:=by simp[h4]
      obtain⟨p1,p2,hp⟩:=bM this;rw[hp]at b9;obtain⟨_,_,_,o',fa,_⟩:=E5 p1 [] b9;rw[hsz];exact(aI.1 fa).1
     simpa[d5] using h5
    ·cases h4
   rw[he]at this;cases this
  ·obtain⟨pre,post,eU⟩:=bM (b6 _ listed hf i hi);rw[eU]at hf h hl;obtain⟨l1',l2',eW,fh,fH⟩:=cG.1 hf.symm;obtain⟨m1,m2,fg,fy,fR,fG⟩:=bQ.1 fH;have d7:ord=(l1'++m1)++i::m2:=by rw[eW,fg];simp
   rw[d7]at b9;obtain⟨n1,_,n3,o,ho,fo,hx⟩:=E5 (l1'++m1) [] b9;obtain⟨fE,o',fa,fc⟩:=mem_ready.1 hi;obtain rfl:o'=o:=by rw[ho]at fa;cases fa;rfl
   have eX:=Js ho post pre γ O (fun x fk=>by
    have fv:x∈l1'++m1:=by
     have:x∈l1'.filter (fun i=> !listed.getD i true):=by rw[fh];exact fk
     simp[(bI.1 this).1]
    have fj:listed.getD x true=false:=by
     have:x∈l1'.filter (fun i=> !listed.getD i true):=by rw[fh];exact fk
     simpa using(bI.1 this).2
    rcases hx x fv with h4|h4
    ·exfalso
     have:=CP d9 ops.size i x o' ho fc h4
     rcases ce x listed.size with d5|d5
     ·simp[d5]at this fj;rw[fj]at this;cases this
     ·simp[cb d5]at this
    ·exact h4) h
   have b8:pre++post=ord.filter (fun j=> !(listed.setIfInBounds i true).getD j true):=by
    have fF:i<listed.size:=by
     rw[hsz];exact(aI.1 ho).1
    rw[d7,bV,cw];have e1:(listed.setIfInBounds i true).getD i true=true:=by simp[fF]
    rw[e1,Av n1,Av n3];simp only[cr,bm,bc,bV,fh,fG];rw[cB.2 (fun x hx=>by simpa using fy x hx),bl]
   have hlen:(pre++post).length=m:=by simp at hl⊢; omega
   obtain⟨o2,fm,hh⟩:=eX;obtain rfl:o2=o':=by rw[ho]at fm;cases fm;rfl
   unfold wpOpIn;simp only[ho];rcases hh with⟨d,hy,hM⟩|⟨_,hE⟩
   ·have fV:Calm P n ops N S0 γ o2 d:=hy.base (by split;exact Sub.refl _;exact fun _ _ h=>by cases h);exact Ez hN (hr.mono hg) hg hs hC fV fun g' w' a' eZ c9=>ih _ _ _ _ _ hlen (by simpa using hsz) b8 (d9.set hi) hM hC g' w' a' (hg.trans eZ) c9
   ·exact Cs (hr.mono hg) hg hs hE (fun g' w' a' d U' eZ hR c9=>by obtain⟨S1,h3,_,h4⟩:=hR;exact ih _ _ _ _ _ hlen (by simpa using hsz) b8 (d9.set hi) h4 h3 g' w' a' (hg.trans eZ) c9) fun d U' hp=>hp
def LR(ops:List Oper)(E C K:eQ):eQ->Option (List (Bool×Bool×Bool×Oper))
 |[]=>some []
 | i::r=>match nthO ops i with
  |some o=>match LR ops E C K r with
   |some l=>some ((E.contains i,C.contains i,K.contains i,o)::l)
   |none=>none
  |none=>none
theorem G2{lo:List Oper}: ∀{ord:eQ}{lp:List (Bool×Bool×Bool×Oper)}{S0:Sig}{γ:Fr}{O:Sig},LR lo E C K ord=some lp->MO4 P ro n lo.toArray N Q df lp S0 γ O->kz P ro n lo.toArray N Q df E C K ord S0 γ O
 |[],_,_,_,_,hp,h=>by cases hp;exact h
 |i::r,lp,S0,γ,O,hp,h=>by
  simp only[LR]at hp;split at hp<;>(try (cases hp;done));rename_i o ho;split at hp<;>(try (cases hp;done));rename_i l hl;cases hp;refine⟨o,by rw[I9]at ho;simpa using ho,?_⟩;rcases h with⟨d,h2,h3⟩|⟨h1,h2⟩
  ·exact .inl ⟨d,h2,G2 hl h3⟩
  ·exact .inr ⟨h1,h2.congr (fun _ _=>rfl) fun d U' ⟨S1,h3,h5,h4⟩=>⟨S1,h3,h5,G2 hl h4⟩⟩
theorem Xr(hN:P.funcs.size=N)(hm:P.follows .mixedOrders=true){l:List Oper}{id:Nat}{γ:Fr}{O:Sig}(ord E C K:eQ)(S0:Sig)(hB:DT l.toArray E C K ord=true)(hC:Sub S0 O)
  {lp:List (Bool×Bool×Bool×Oper)} (fA:LR l E C K ord=some lp) (h0:MO4 P ro n l.toArray N Q df lp S0 γ O):DWp P ro n (.region id l.toArray true) Q ⟨γ,O,df⟩:=by
 intro g w a r hr hs;refine wpIn_region_any hm ?_
 have d9:kC l.toArray (Array.replicate l.toArray.size false):=by
  intro q o _ hq;rcases ce q l.length with h'|h'
  ·simp[h']at hq
  ·simp[h']at hq
 have c9:kI P g n ⟨γ,O,df⟩ a { w with drawn:=w.drawn+1 }:=
  ⟨⟨fun b o v h=>hs.sim.imm b o v h,hs.sim.keep,fun i o h=>by
   have:=hs.sim.obj i o h
   cases o<;>exact this,hs.sim.inj,hs.sim.free,hs.sim.htop,hs.sim.hdom,hs.sim.fin,hs.sim.io,hs.sim.tab⟩,hs.tmps,hs.df⟩
 have d5:∀i∈ord,i<l.toArray.size:=by
  intro i hi;obtain⟨p1,p2,hp⟩:=bM hi;have d8:=hB;unfold DT at d8;simp only[aF]at d8;rw[hp]at d8;obtain⟨_,_,_,o',fa,_⟩:=E5 p1 [] d8.1.1;exact(aI.1 fa).1
 have hlen:ord.length=l.toArray.size:=by
  have d8:=hB;unfold DT at d8;simp only[aF,cR]at d8;exact d8.2
 have:=Sj hN hB hr ord.length ord (Array.replicate l.toArray.size false) S0 γ O rfl j1 (D4 d5).symm d9 (G2 fA h0) hC g _ a (.refl g) c9;rw[hlen]at this;exact this
theorem Wg(ht:AZ P tab){e c k:Bool}{t:Nat}{op:Op}{ty:TypeId}{pos:String}{after:Array Edge}{d:D}{l:List (Bool×Bool×Bool×Oper)}{γ Sr:Fr}{O:Sig}(hr:DF op=true)(fw:decide (t<n)=true)(hl:A5 γ (Aa op.operands.toList)=some Sr)(hd:jX tab Sr (if c=true then S0 else fun _=>none) op=some d)
  (h:MO4 P ro n ops N Q df l S0 ((t,d)::γ) O):MO4 P ro n ops N Q df ((e,c,k,⟨some t,op,ty,pos,after,none⟩)::l) S0 γ O:=by
 have fp:=(Bg (CK hl)) ▸ hd;refine .inl ⟨d,⟨fw,.inl ⟨by rw[Ar];rfl,BU hr,H7 ht fp,fun U' hZ g w a hs hT=>?_⟩⟩,h⟩;refine Ex ht hs hT (?_:jX tab (only _ γ) U' op=some d);rw[Bg (V':=γ) fun x hx=>Bf (o:=⟨some t,op,ty,pos,after,none⟩) hx];exact Ey hZ fp
theorem mo4_eff(ht:AZ P tab){c k:Bool}{o:Oper}{d:D}{U':Sig}{l:List (Bool×Bool×Bool×Oper)}{γ:Fr}{O:Sig}(S1:Sig)(ho:Ax n o=true)(hw:AJ ops γ o=some true)(he:eopD tab γ O o.op=some (d,U'))(hC:Sub S1 U')(hk:k=false->S1=S0)
  (h:MO4 P ro n ops N Q df l S1 (putD o.dst d γ) U'):MO4 P ro n ops N Q df ((true,c,k,o)::l) S0 γ O:=by
 refine .inr ⟨rfl,ho,by rw[Ar];exact hw,?_⟩;refine Gz ht (by rw[Ar];exact hw) (by rw[BI (V':=γ) fun x hx=>Bf hx];exact he) ho (AD ⟨rfl,?_⟩);cases hd:o.dst with
 |none=>rw[hd]at h;exact⟨S1,hC,hk,h⟩
 |some t=>
  rw[hd]at h;simp only[putD,A8,bu];exact⟨S1,hC,hk,h⟩
end
end Go.DL
