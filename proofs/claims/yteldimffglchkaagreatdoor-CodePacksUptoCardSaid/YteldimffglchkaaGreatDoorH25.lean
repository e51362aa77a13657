/- A part of the proof. -/
import Derived.Test.YteldimffglchkaaGreatDoorH24
import Derived.Test.YteldimffglchkaaGreatDoorH20
import Derived.Test.YteldimffglchkaaGreatDoorH22
import Derived.Test.YteldimffglchkaaGreatDoorH10
import Derived.Test.YteldimffglchkaaGreatDoorH14
import Derived.Test.YteldimffglchkaaGreatDoorH21
set_option linter.all false
namespace Go.DL
open Go.Proofs.Tryz
open Go Go.Proofs
set_option maxHeartbeats 8000000
section
variable {ro:Ro}{n:Nat}{ops:Array Oper}{N:Nat}{S0:Sig}{Q:DX->St->Prop}{df:List DDf}{rest:List Oper}{γ Sr:List (Nat×D)}{O:Sig}{t:Nat}{ty:TypeId}{pos:String}{after:Array Edge}{d:D}
theorem cutH{T e i off len cap hi:Nat}{k:IntKind}{x y:Operand}(h:DOps prog ro n ops Q rest ⟨(t,.sref i off hi cap)::γ,O,df⟩)(aM:hi<=cap)
  (hl:A0 γ (A5 [x,y])=some Sr:=by exact tdR) (h1:ev Sr x=.sref i off len cap:=by exact tdR) (h2:ev Sr y=.int k hi:=by exact tdR) (hk:(tab T).k=.slice e:=by(simp<;>rfl)) (he:A1 (tab e).k=false:=by simp) (aH:decide (t<n)=true:=by exact tdR) :
  DOps prog ro n ops Q (⟨some t,.slice T x none (some y) none,ty,pos,after,none⟩::rest) ⟨γ,O,df⟩:=by
 obtain⟨e1,e2⟩:=evs hl
 refine Bs (fun d U'=>d=.sref i off hi cap/\U'=O) rfl (fun c e=>by cases e) (Aa fun c e=>by cases e) (by simp only[Ar];exact aH) ?_
  (fun d U' ⟨a2,a3⟩=>by subst a2 a3;exact h)
 intro g w a hs hT
 have hx:=Al hT x
 have hy:=Al hT y
 rw[<-e1,h1]at hx
 rw[<-e2,h2]at hy
 obtain⟨r,h4,h5⟩:=Nc (w:=w) Ac hk he hx hy aM
 exact⟨g,w,r,_,O,by simp only[execOp,Option.map_some,Option.map_none,Sem.run_bind,h4,Result.andThen_ok,Sem.run_pure],.refl g,hs,h5,rfl,rfl⟩
end
def cEv(e:MEv):List D:=[dI e.deed,dI e.n,.slice (e.vals.map cVal) .clip]
def tCells(S:Nat->RW)(l:List MThing):List (List D):=l.mapIdx fun k o=>[dI o.cls,(S k).d o.slots.length]
def rCt(R:Nat->RW)(s:GoS):Nat->List (List D)
 |0=>s.stk.map cVal
 |1=>s.env.map cVal
 |2=>s.evs.map cEv
 |3=>tCells (fun k=>R (k+4)) s.objs
 |k+4=>((s.objs[k]?).getD ⟨0,[]⟩).slots.map cVal
def rSz(a:Nat):Nat:=if a=2 then 3 else 2
abbrev AN(p:BProg)(R:Nat->RW)(s:GoS):List D:=[dI 0,dI 0,dI 0,dI 0,.nils,dI 0,dI 0,.nils,.nils,(R 3).d s.objs.length,(R 2).d s.evs.length]++Aj p++[dI s.pos,(R 0).d s.stk.length,(R 1).d s.env.length]
structure RunS(ir:Nat)(p:BProg)(R:Nat->RW)(s:GoS)(O:Sig):Prop where
 obj:O ir=some (.cells (AN p R s))
 rows:Rows O R rSz (rCt R s)
 ni:∀a, ¬(R a).is ir
 nf:∀a es,R a=.full es->es=[]
def RunK(ir:Nat)(R:Nat->RW)(O:Sig)(R':Nat->RW)(U':Sig):Prop:= ∀j o,O j=some o->j≠ir->(∀a, ¬(R a).is j)->U' j=some o /\ ∀a, ¬(R' a).is j
theorem RunK.refl(ir:Nat)(R:Nat->RW)(O:Sig):RunK ir R O R O:=fun _ _ h _ k=>⟨h,k⟩
theorem RunK.trans{ir:Nat}{R R1 R2:Nat->RW}{O S1 S2:Sig}(h:RunK ir R O R1 S1)(k:RunK ir R1 S1 R2 S2):RunK ir R O R2 S2:=fun j o hj hi hn=>k j o (h j o hj hi hn).1 hi (h j o hj hi hn).2
section
variable {ir:Nat}{p:BProg}{R:Nat->RW}{s:GoS}{O:Sig}
theorem RunS.row(h:RunS ir p R s O)(a:Nat)(hne:rCt R s a≠[]): ∃i c cs,R a=.row i c cs:=by
 have hk:=h.rows.ok a
 cases hR:R a with
 |nil=>rw[hR]at hk;exact absurd hk hne
 |full es=>rw[hR]at hk;obtain⟨h1,_⟩:=hk;rw[h.nf a es hR]at h1;exact absurd h1 hne
 |row i c cs=>exact⟨i,c,cs,rfl⟩
theorem RunS.put(h:RunS ir p R s O){a:Nat}{i c:Nat}{cs:List D}{es':List (List D)}{s':GoS}{S1:Sig}{ds:List D}(hr:RWAt S1 (rSz a) (.row i c cs) es')(hk:RWK O (R a) S1 (.row i c cs))(ai:∀b,rCt (updF R a (.row i c cs)) s' b=updF (rCt R s) a es' b)(hd:ds=AN p (updF R a (.row i c cs)) s'):
  RunS ir p (updF R a (.row i c cs)) s' (S1.set ir (.cells ds))/\RunK ir R O (updF R a (.row i c cs)) (S1.set ir (.cells ds)):=by
 obtain⟨k1,k2⟩:=hk ir _ h.obj (h.ni a)
 have hR:=(h.rows.upd hr hk).retell ai
 have ar:∀b, ¬(updF R a (.row i c cs) b).is ir:=fun b=>by
  by_cases e:b=a
  ·subst e;rw[Ak];exact k2
  ·rw[A7 _ _ e];exact h.ni b
 refine⟨⟨by rw[w6,hd],hR.keep fun j o hj ⟨b,hb⟩=>by rw[w7 _ _ fun e=>ar b (by rw[<-e];exact hb)];exact hj,ar,fun b es hb=>?_⟩,fun j o hj ap hn=>⟨by rw[w7 _ _ ap];exact(hk j o hj (hn a)).1,fun b=>?_⟩⟩
 ·by_cases e:b=a
  ·subst e;rw[Ak]at hb;cases hb
  ·rw[A7 _ _ e]at hb;exact h.nf b es hb
 ·by_cases e:b=a
  ·subst e;rw[Ak];exact(hk j o hj (hn b)).2
  ·rw[A7 _ _ e];exact hn b
theorem RunS.re(h:RunS ir p R s O){a:Nat}{i c:Nat}{cs:List D}{es':List (List D)}{s':GoS}{ds:List D}(hr:RWAt O (rSz a) (.row i c cs) es')(hi:∀j,(RW.row i c cs).is j->(R a).is j)(ai:∀b,rCt (updF R a (.row i c cs)) s' b=updF (rCt R s) a es' b)(hd:ds=AN p (updF R a (.row i c cs)) s'):
  RunS ir p (updF R a (.row i c cs)) s' (O.set ir (.cells ds))/\RunK ir R O (updF R a (.row i c cs)) (O.set ir (.cells ds)):=by
 have hR:=(h.rows.re hr hi).retell ai
 have aD:∀b j,(updF R a (.row i c cs) b).is j->(R b).is j:=fun b j hb=>by
  by_cases e:b=a
  ·subst e;rw[Ak]at hb;exact hi j hb
  ·rwa [A7 _ _ e]at hb
 refine⟨⟨by rw[w6,hd],hR.keep fun j o hj ⟨b,hb⟩=>by rw[w7 _ _ fun e=>h.ni b (by rw[<-e];exact aD b j hb)];exact hj,fun b hb=>h.ni b (aD b _ hb),fun b es hb=>?_⟩,fun j o hj ap hn=>⟨by rw[w7 _ _ ap];exact hj,fun b hb=>hn b (aD b j hb)⟩⟩
 by_cases e:b=a
 ·subst e;rw[Ak]at hb;cases hb
 ·rw[A7 _ _ e]at hb;exact h.nf b es hb
@[simp] theorem EB(i c n:Nat)(cs:List D):(RW.row i c cs).d n=.sref i 0 n c:=rfl
@[simp] theorem cVal_tk(v:MVal):List.take 2 (cVal v)=cVal v:=rfl
@[simp] theorem cVal_mem(v:MVal)(d:D):(d∈cVal v)=(d=dI v.kind\/d=dI v.n):=by simp[cVal]
theorem Bl{l:List MVal}: ∀c∈l.map cVal,c.length=2:=fun c h=>by obtain⟨v,_,rfl⟩:=List.mem_map.1 h;rfl
theorem F7(R:Nat->RW)(a:Nat)(r:RW)(ha:a<4)(l:List MThing):tCells (fun k=>updF R a r (k+4)) l=tCells (fun k=>R (k+4)) l:=by
 unfold tCells
 congr 1
 funext k o
 simp only[A7 R r (show k+4≠a by omega)]
theorem rCt_0(R:Nat->RW)(r:RW)(s:GoS)(l:List MVal)(b:Nat):rCt (updF R 0 r) { s with stk:=l } b=updF (rCt R s) 0 (l.map cVal) b:=by
 match b with
 |0=>rfl
 |1=>rfl
 |2=>rfl
 |3=>exact F7 R 0 r (by omega) _
 |k+4=>rfl
theorem rCt_1(R:Nat->RW)(r:RW)(s:GoS)(l:List MVal)(b:Nat):rCt (updF R 1 r) { s with env:=l } b=updF (rCt R s) 1 (l.map cVal) b:=by
 match b with
 |0=>rfl
 |1=>rfl
 |2=>rfl
 |3=>exact F7 R 1 r (by omega) _
 |k+4=>rfl
theorem rCt_2(R:Nat->RW)(r:RW)(s:GoS)(l:List MEv)(b:Nat):rCt (updF R 2 r) { s with evs:=l } b=updF (rCt R s) 2 (l.map cEv) b:=by
 match b with
 |0=>rfl
 |1=>rfl
 |2=>rfl
 |3=>exact F7 R 2 r (by omega) _
 |k+4=>rfl
theorem Bj(v:MVal)(hR:RunS ir p R s O)(hn:s.stk.length<=1000000):DCall prog 177 [.ptr ir 0,.agg (cVal v)] O fun x U'=>x=.ret (.bool false) /\ ∃R',RunS ir p R' { s with stk:=s.stk++[v] } U'/\RunK ir R O R' U':=by
 have q1:=hR.obj
 have q0:RWAt O 2 (R 0) (s.stk.map cVal):=hR.rows.ok 0
 have u1:(O.out (R 0).is) ir=some (.cells (AN p R s)):=Df q1 (hR.ni 0)
 refine en func177 ntmps177 ?_
 refine gf q1 ?_
 refine Ft (id:=1) [0,1,2,3,4,5,6,7,8,9,10,11] [8] (O.out (R 0).is) (Cr _ _) ?_
 refine gf u1 ?_ o177
 refine G7 (es:=s.stk.map cVal) (fun i c cs S2 aj am=>?_) (fun j o h=>Cs h) (hm:=q0)
 obtain⟨v1,v2⟩:=am _ _ q1 (hR.ni 0)
 refine gf v1 ?_ o177
 rw[show s.stk.map cVal++[cVal v]=(s.stk++[v]).map cVal by simp]at aj
 obtain⟨p1,p2⟩:=hR.put (a:=0) (s':={ s with stk:=s.stk++[v] }) aj am (rCt_0 R _ s _) rfl
 refine fin1 (U':=_) ⟨rfl,_,p1,p2⟩ (hU:=?_)
 simp[AN,Aj]
 exact Sub.refl _
theorem JX(l:List MVal)(v:MVal)(m:List MVal)(cs:List D):List.take 2 (List.drop (l.length*2) (((l++v::m).map cVal).flatten++cs))=cVal v:=by
 have e:((l++v::m).map cVal).flatten++cs=(l.map cVal).flatten++(cVal v++((m.map cVal).flatten++cs)):=by simp
 have h:(l.map cVal).flatten.length=l.length*2:=by rw[Av Bl];simp
 rw[e,<-h,List.drop_left];rfl
theorem FA(l:List MVal)(cs:List D):((l.map cVal).flatten++cs).length=l.length*2+cs.length:=by
 rw[List.length_append,Av Bl];simp
theorem BU(r:List MVal)(v:MVal)(hR:RunS ir p R s O)(hs:s.stk=r++[v])(hn:s.stk.length<=1000000):DCall prog 181 [.ptr ir 0] O fun x U'=>x=.ret (.agg (cVal v)) /\ ∃R',RunS ir p R' { s with stk:=r } U'/\RunK ir R O R' U':=by
 have q1:=hR.obj
 obtain⟨i,c,cs,h0⟩:=hR.row 0 (by rw[rCt,hs];simp)
 have q0:RWAt O 2 (R 0) (s.stk.map cVal):=hR.rows.ok 0
 have ar:=hR.ni 0
 rw[h0,hs]at q0
 rw[h0]at ar
 have hl:s.stk.length=r.length+1:=by rw[hs];simp
 unfold AN at q1
 rw[h0,hl]at q1
 simp only[EB]at q1
 obtain⟨z1,z2,z3,z4⟩:=q0
 have hv:=JX r v [] cs
 have aO:((List.map cVal (r++[v])).flatten++cs).length=(r.length+1)*2+cs.length:=by rw[FA];simp
 refine en func181 ntmps181 ?_
 refine gz ?_ [] [2]
 refine newV (fun i2 aw=>?_)
 have n1:ir≠i2:=fun e=>by rw[<-e,hR.obj]at aw;cases aw
 have n2:i≠i2:=fun e=>by rw[<-e,z1]at aw;cases aw
 have q2:(O.set i2 (.cells [.int .i64 0,.int .i64 0])) ir=_:=(w7 _ _ n1).trans q1
 have q3:(O.set i2 (.cells [.int .i64 0,.int .i64 0])) i=_:=(w7 _ _ n2).trans z1
 have hr:RWAt O 2 (.row i c (cVal v++cs)) (r.map cVal):=⟨by rw[z1];simp,by rw[<-List.append_assoc];simpa using z2,by simp only[List.length_map,List.length_append,List.length_singleton]at z3⊢; omega,Bl⟩
 generalize (List.map cVal (r++[v])).flatten++cs=L at*
 have aJ:r.length*2+2<=L.length:=by omega
 refine gf (gi q1 (gi z1 (gi hv aJ))) ?_ [] [2]
 simp only[List.length_map,List.length_append,List.length_singleton]at z3
 refine cutH (i:=i) (off:=0) (len:=r.length+1) (cap:=c) (hi:=r.length) ?_ (by omega)
 refine gf q1 ?_ [] [2]
 obtain⟨p1,p2⟩:=hR.re (a:=0) (s':={ s with stk:=r }) hr (by rw[h0];exact fun j h=>h) (rCt_0 R _ s _) rfl
 refine finC (U':=_) ⟨rfl,_,p1,p2⟩ (hU:=fun j o hj=>?_)
 by_cases e:j=ir
 ·subst e;rw[w6]at hj;rw[w7 _ _ n1,w6,<-hj];rfl
 ·rw[w7 _ _ e]at hj
  have e2:j≠i2:=fun h=>by rw[h,aw]at hj;cases hj
  rw[w7 _ _ e2,w7 _ _ e,w7 _ _ e2];exact hj
end
abbrev Nu(p:BProg)(R:Nat->RW)(s:GoS)(av:D)(b:Bool)(h:GoH):List D:=
 [dI h.kind,dI h.val.kind,dI h.val.n,dI h.gen,av,dI h.fin]++(if b then [dI s.pos,(R 0).d s.stk.length,(R 1).d s.env.length] else [dI 0,.nils,.nils])++[(R 3).d s.objs.length,(R 2).d s.evs.length]++Aj p++[dI s.pos,(R 0).d s.stk.length,(R 1).d s.env.length]
structure HaltS(ir:Nat)(p:BProg)(R:Nat->RW)(s:GoS)(av:D)(b:Bool)(h:GoH)(O:Sig):Prop where
 obj:O ir=some (.cells (Nu p R s av b h))
 rows:Rows O R rSz (rCt R s)
 ni:∀a, ¬(R a).is ir
 nf:∀a es,R a=.full es->es=[]
 args:WkD av (sl (h.args.map cVal))
 objs:h.objs=s.objs
 evs:h.evs=s.evs
 st:if b then h.pos=s.pos/\h.stk=s.stk/\h.env=s.env else h.pos=0/\h.stk=[]/\h.env=[]
section
variable {ir:Nat}{p:BProg}{R:Nat->RW}{s:GoS}{O:Sig}
theorem RunS.halt(h:RunS ir p R s O){av:D}{b:Bool}{k:GoH}{ds:List D}(hd:ds=Nu p R s av b k)(ha:WkD av (sl (k.args.map cVal)))(ho:k.objs=s.objs)(he:k.evs=s.evs)(hs:if b then k.pos=s.pos/\k.stk=s.stk/\k.env=s.env else k.pos=0/\k.stk=[]/\k.env=[]):
  HaltS ir p R s av b k (O.set ir (.cells ds))/\RunK ir R O R (O.set ir (.cells ds)):=
 ⟨⟨by rw[w6,hd],h.rows.keep fun j o hj ⟨b,hb⟩=>by rw[w7 _ _ fun e=>h.ni b (by rw[<-e];exact hb)];exact hj,h.ni,h.nf,ha,ho,he,hs⟩,fun j o hj ap hn=>⟨by rw[w7 _ _ ap];exact hj,hn⟩⟩
theorem rCt_pos(R:Nat->RW)(s:GoS)(q:Int)(b:Nat):rCt R { s with pos:=q } b=rCt R s b:=by
 match b with
 |0=>rfl
 |1=>rfl
 |2=>rfl
 |3=>rfl
 |k+4=>rfl
theorem RunS.at(h:RunS ir p R s O)(q:Int){ds:List D}(hd:ds=AN p R { s with pos:=q }):RunS ir p R { s with pos:=q } (O.set ir (.cells ds))/\RunK ir R O R (O.set ir (.cells ds)):=
 ⟨⟨by rw[w6,hd],(h.rows.retell (rCt_pos R s q)).keep fun j o hj ⟨b,hb⟩=>by rw[w7 _ _ fun e=>h.ni b (by rw[<-e];exact hb)];exact hj,h.ni,h.nf⟩,fun j o hj ap hn=>⟨by rw[w7 _ _ ap];exact hj,hn⟩⟩
theorem SZ{ds:List D}{r0 r1:RW}{a:Int}{n m k:Nat}(h:O ir=some (.cells ds))(hl:k+3<=ds.length):DM tab O 34 (.ptr ir k) (.agg [dI a,r0.d n,r1.d m])=some (.any,O.set ir (.cells (ds.take k++[dI a,r0.d n,r1.d m]++ds.drop (k+3)))):=by
 have hf:¬ds.length<k+3:=by omega
 cases r0<;>cases r1<;>simp[DM,h,RW.d,hf]
theorem K3{ro:Ro}{n:Nat}{ops:Array Oper}{Q:DX->St->Prop}{df:List DDf}{rest:List Oper}{γ Sr:Fr}{ty:TypeId}{pos:String}{after:Array Edge}{x y:Operand}{ds:List D}{r0 r1:RW}{a:Int}{m m' k:Nat}(hc:O ir=some (.cells ds))(h:DOps prog ro n ops Q rest ⟨γ,O.set ir (.cells (ds.take k++[dI a,r0.d m,r1.d m']++ds.drop (k+3))),df⟩)
  (hl:A0 γ (A5 [x,y])=some Sr:=by exact tdR) (h1:ev Sr x=.ptr ir k:=by exact tdR) (h2:ev Sr y=.agg [dI a,r0.d m,r1.d m']:=by exact tdR) (hlen:k+3<=ds.length:=by simp) :
  DOps prog ro n ops Q (⟨none,.store 34 x y,ty,pos,after,none⟩::rest) ⟨γ,O,df⟩:=
 DN Ac (d:=.any) hl (by show DM tab O 34 (ev Sr x) (ev Sr y)=_;rw[h1,h2];exact SZ hc hlen) h
theorem Gr(e:Int)(stk:List MVal)(hR:RunS ir p R s O):DCall prog 178 [.ptr ir 0,dI e] O fun x U'=>x=.ret (.bool true)/\HaltS ir p R s .nils false (FK s e stk) U'/\RunK ir R O R U':=by
 have q1:=hR.obj
 refine en func178 ntmps178 ?_
 refine gf q1 ?_
 obtain⟨p1,p2⟩:=hR.halt (av:=.nils) (b:=false) (k:=FK s e stk) rfl (Ao _ (.inl rfl)) rfl rfl ⟨rfl,rfl,rfl⟩
 exact fin1 (U':=_) ⟨rfl,p1,p2⟩
theorem RR(x:CIns)(hR:RunS ir p R s O)(hn:s.stk.length<=1000000):DCall prog 105 [.ptr ir 0,.agg (cIns x)] O fun r U'=>r=.ret (.bool false) /\ ∃R',RunS ir p R' { s with stk:=s.stk++[vInt x.a] } U'/\RunK ir R O R' U':=by
 refine en func105 ntmps105 ?_
 refine gz ?_
 refine A4 (Bj (vInt x.a) hR hn) (fun d S1 hr=>?_) (fun d S1 hr=>by cases hr.1)
 obtain⟨hd,hr⟩:=hr
 cases hd
 refine gz ?_
 exact fin1 (U':=S1) ⟨rfl,hr⟩
theorem RQ(x:CIns)(hR:RunS ir p R s O)(hn:s.stk.length<=1000000):DCall prog 106 [.ptr ir 0,.agg (cIns x)] O fun r U'=>r=.ret (.bool false) /\ ∃R',RunS ir p R' { s with stk:=s.stk++[Eb] } U'/\RunK ir R O R' U':=by
 refine en func106 ntmps106 ?_
 refine gz ?_
 refine A4 (Bj Eb hR hn) (fun d S1 hr=>?_) (fun d S1 hr=>by cases hr.1)
 obtain⟨hd,hr⟩:=hr
 cases hd
 refine gz ?_
 exact fin1 (U':=S1) ⟨rfl,hr⟩
theorem RG(x:CIns)(r:List MVal)(v:MVal)(hR:RunS ir p R s O)(hs:s.stk=r++[v])(hn:s.stk.length<=1000000):DCall prog 116 [.ptr ir 0,.agg (cIns x)] O fun y U'=>y=.ret (.bool false) /\ ∃R',RunS ir p R' { s with stk:=r } U'/\RunK ir R O R' U':=by
 refine en func116 ntmps116 ?_
 refine gz ?_
 refine A4 (BU r v hR hs hn) (fun d S1 hr=>?_) (fun d S1 hr=>by cases hr.1)
 obtain⟨hd,hr⟩:=hr
 cases hd
 refine gz ?_
 exact fin1 (U':=S1) ⟨rfl,hr⟩
theorem RE(x:CIns)(hR:RunS ir p R s O):DCall prog 118 [.ptr ir 0,.agg (cIns x)] O fun y U'=>y=.ret (.bool false) /\ ∃R',RunS ir p R' { s with pos:=x.a } U'/\RunK ir R O R' U':=by
 have q1:=hR.obj
 refine en func118 ntmps118 ?_
 refine gf q1 ?_
 obtain⟨p1,p2⟩:=hR.at x.a rfl
 exact fin1 (U':=_) ⟨rfl,_,p1,p2⟩
theorem RC(x:CIns)(hR:RunS ir p R s O):DCall prog 120 [.ptr ir 0,.agg (cIns x)] O fun y U'=>y=.ret (.bool true)/\HaltS ir p R s .nils true ⟨3,vZ,0,[],0,s.pos,s.stk,s.env,s.objs,s.evs⟩ U'/\RunK ir R O R U':=by
 have q1:=hR.obj
 refine en func120 ntmps120 ?_
 refine gf q1 ?_
 obtain⟨p1,p2⟩:=hR.halt (av:=.nils) (b:=true) (k:=⟨3,vZ,0,[],0,s.pos,s.stk,s.env,s.objs,s.evs⟩) rfl (Ao _ (.inl rfl)) rfl rfl ⟨rfl,rfl,rfl⟩
 refine K3 (w6 ..) ?_
 simp only[w8]
 refine gz ?_
 exact fin1 (U':=_) ⟨rfl,p1,p2⟩
theorem rowV{a:Nat}{l:List MVal}(h:RWAt O 2 (R a) (l.map cVal))(hne:R a≠.nil)(hf:∀es,R a=.full es->es=[]){n:Nat}(hn:n<l.length): ∃i c cs,R a=.row i c cs /\ ∃L,O i=some (.cells L)/\n*2+2<=L.length/\List.take 2 (List.drop (n*2) L)=cVal l[n]:=by
 cases hR:R a with
 |nil=>exact absurd hR hne
 |full es=>
  rw[hR]at h
  have:=hf es hR
  subst this
  obtain⟨h1,_⟩:=h
  simp at h1
  rw[h1]at hn
  simp at hn
 |row i c cs=>
  rw[hR]at h
  refine⟨i,c,cs,rfl,_,h.1,by rw[FA];omega,?_⟩
  have e:l=l.take n++l[n]::l.drop (n+1):=by rw[<-Ab hn,List.take_append_drop]
  have hv:=JX (l.take n) l[n] (l.drop (n+1)) cs
  rw[<-e,List.length_take_of_le (by omega)]at hv
  exact hv
theorem RP(x:CIns)(n:Nat)(hx:x.a=n)(hn:n<s.env.length)(hR:RunS ir p R s O)(hs:s.stk.length<=1000000)(aR:s.env.length<=1000000):DCall prog 107 [.ptr ir 0,.agg (cIns x)] O fun y U'=>y=.ret (.bool false) /\ ∃R',RunS ir p R' { s with stk:=s.stk++[s.env[n]] } U'/\RunK ir R O R' U':=by
 have q1:=hR.obj
 have q0:RWAt O 2 (R 1) (s.env.map cVal):=hR.rows.ok 1
 obtain⟨i,c,cs,h0,L,z1,z2,z3⟩:=rowV q0 (fun e=>by rw[e]at q0;have:s.env.map cVal=[]:=q0;simp at this;rw[this]at hn;simp at hn) (hR.nf 1) hn
 unfold AN at q1
 rw[h0]at q1
 simp only[EB]at q1
 refine en func107 ntmps107 ?_
 refine gz ?_
 refine mixI (id:=1) [0,1,2,3,4,5,6,7,8,9,10,11] [10] [5,9] [10] (fun s=>s=O) rfl ?_
 refine iP _ ?_
 refine iP _ ?_
 refine iP _ ?_
 refine iP _ ?_
 refine iP _ ?_
 refine iR (.sref i 0 s.env.length c) (fun s hs=>?_) ?_
 ·rw[hs];simp[q1]
 refine iP _ ?_
 refine iP (dI n) ?_ (hd:=by rw[<-hx];with_unfolding_all rfl)
 refine iP (.ptr i (n*2)) ?_ (hd:=by simp;omega)
 refine iR (.agg (cVal s.env[n])) (fun s hs=>?_) ?_
 ·rw[hs];simp[z1,z2,z3]
 refine iW (fun _=>True) (Bj s.env[n] hR hs) (fun d S1 hr=>⟨trivial,?_⟩) (fun d S1 hr=>by cases hr.1)
 obtain⟨hd,hr⟩:=hr
 cases hd
 refine iP (.bool false) ?_
 refine iN ?_
 refine gz ?_ o107
 exact fin1 (U':=S1) ⟨rfl,hr⟩
end
section
variable {ir:Nat}{p:BProg}{R:Nat->RW}{s:GoS}{O:Sig}
theorem RF(x:CIns)(r:List MVal)(v:MVal)(hR:RunS ir p R s O)(hs:s.stk=r++[v])(hn:s.stk.length<=1000000):DCall prog 117 [.ptr ir 0,.agg (cIns x)] O fun y U'=>y=.ret (.bool false) /\ ∃R',RunS ir p R' { s with stk:=r,pos:=if AI v=0 then x.a else s.pos } U'/\RunK ir R O R' U':=by
 refine en func117 ntmps117 ?_
 refine gz ?_
 refine A4 (BU r v hR hs hn) (fun d S1 hr=>?_) (fun d S1 hr=>by cases hr.1)
 obtain⟨hd,R1,aa,ac⟩:=hr
 cases hd
 have q1:=aa.obj
 by_cases h:AI v=0
 ·rw[if_pos h]
  refine gf (gi q1 h) ?_
  obtain⟨p1,p2⟩:=aa.at x.a rfl
  exact fin1 (U':=_) ⟨rfl,_,p1,ac.trans p2⟩
 ·rw[if_neg h]
  refine gf (gi q1 h) ?_
  exact fin1 (U':=S1) ⟨rfl,_,aa,ac⟩
theorem RB(x:CIns)(r:List MVal)(v:MVal)(hR:RunS ir p R s O)(hs:s.stk=r++[v])(hn:s.stk.length<=1000000):DCall prog 121 [.ptr ir 0,.agg (cIns x)] O fun y U'=>y=.ret (.bool true) /\ ∃R',HaltS ir p R' { s with stk:=r } .nils false ⟨1,v,0,[],0,0,[],[],s.objs,s.evs⟩ U'/\RunK ir R O R' U':=by
 refine en func121 ntmps121 ?_
 refine gz ?_
 refine A4 (BU r v hR hs hn) (fun d S1 hr=>?_) (fun d S1 hr=>by cases hr.1)
 obtain⟨hd,R1,aa,ac⟩:=hr
 cases hd
 have q1:=aa.obj
 obtain⟨p1,p2⟩:=aa.halt (av:=.nils) (b:=false) (k:=⟨1,v,0,[],0,0,[],[],s.objs,s.evs⟩) rfl (Ao _ (.inl rfl)) rfl rfl ⟨rfl,rfl,rfl⟩
 refine gf q1 ?_
 exact fin1 (U':=_) ⟨rfl,_,p1,ac.trans p2⟩
theorem RI(x:CIns)(r:List MVal)(v:MVal)(hR:RunS ir p R s O)(hs:s.stk=r++[v])(hn:s.stk.length<=1000000)(he:s.env.length<=1000000):DCall prog 114 [.ptr ir 0,.agg (cIns x)] O fun y U'=>y=.ret (.bool false) /\ ∃R',RunS ir p R' { s with stk:=r,env:=s.env++[v] } U'/\RunK ir R O R' U':=by
 refine en func114 ntmps114 ?_
 refine gz ?_ o114
 refine A4 (BU r v hR hs hn) (fun d S1 hr=>?_) (fun d S1 hr=>by cases hr.1)
 obtain⟨hd,R1,aa,ac⟩:=hr
 cases hd
 have q1:=aa.obj
 have q0:RWAt S1 2 (R1 1) (s.env.map cVal):=aa.rows.ok 1
 have u1:=Df q1 (aa.ni 1)
 refine gz ?_
 refine Ft (id:=2) [0,1,2,3,4,5,6,7,8,9,10,11] [8] (S1.out (R1 1).is) (Cr _ _) ?_
 refine gf u1 ?_ o114
 refine G7 (es:=s.env.map cVal) (fun i c cs S2 aj am=>?_) (fun j o h=>Cs h) (hm:=q0)
 obtain⟨v1,v2⟩:=am _ _ q1 (aa.ni 1)
 refine gf v1 ?_ o114
 rw[show s.env.map cVal++[cVal v]=(s.env++[v]).map cVal by simp]at aj
 obtain⟨p1,p2⟩:=aa.put (a:=1) (s':={ s with stk:=r,env:=s.env++[v] }) aj am (rCt_1 R1 _ { s with stk:=r } _) rfl
 refine fin1 (U':=_) ⟨rfl,_,p1,ac.trans p2⟩ (hU:=?_)
 simp[AN,Aj]
 exact Sub.refl _
theorem RH(x:CIns)(r:List MVal)(v:MVal)(hR:RunS ir p R s O)(hs:s.env=r++[v])(hn:s.env.length<=1000000):DCall prog 115 [.ptr ir 0,.agg (cIns x)] O fun y U'=>y=.ret (.bool false) /\ ∃R',RunS ir p R' { s with env:=r } U'/\RunK ir R O R' U':=by
 have q1:=hR.obj
 obtain⟨i,c,cs,h0⟩:=hR.row 1 (by rw[rCt,hs];simp)
 have q0:RWAt O 2 (R 1) (s.env.map cVal):=hR.rows.ok 1
 rw[h0,hs]at q0
 have hl:s.env.length=r.length+1:=by rw[hs];simp
 unfold AN at q1
 rw[h0,hl]at q1
 simp only[EB]at q1
 obtain⟨z1,z2,z3,z4⟩:=q0
 have hr:RWAt O 2 (.row i c (cVal v++cs)) (r.map cVal):=⟨by rw[z1];simp,by rw[<-List.append_assoc];simpa using z2,by simp only[List.length_map,List.length_append,List.length_singleton]at z3⊢; omega,Bl⟩
 simp only[List.length_map,List.length_append,List.length_singleton]at z3
 refine en func115 ntmps115 ?_
 refine gz ?_
 refine Ft (id:=1) [0,1,2,3,4,5,6,7,8,9,10,11,12,13,14,15,16] [] O (Sub.refl _) ?_
 refine gf q1 ?_ o115
 refine PS Ac (i:=i) (off:=0) (len:=r.length+1) (cap:=c) (hi:=r.length) (e:=40) (k:=.i64) ?_ (by decide) (by simp<;>rfl) (by simp) tdR tdR (by omega)
 refine gf q1 ?_ o115
 obtain⟨p1,p2⟩:=hR.re (a:=1) (s':={ s with env:=r }) hr (by rw[h0];exact fun j h=>h) (rCt_1 R _ s _) rfl
 exact fin1 (U':=_) ⟨rfl,_,p1,p2⟩
theorem UO(n:Int):(if 1000000000<(if n < -1000000000 then -1000000000 else n) then(1000000000:Int) else if n < -1000000000 then -1000000000 else n)=DB n:=by
 unfold DB;rw[Int.min_def,Int.max_def];split<;>split<;>(repeat' split)<;>omega
theorem UN(b:Bool):DB (Dr b)=Dr b:=by cases b<;>rfl
theorem mul_bnd{a b:Int}(ha : -1000000000<=a/\a<=1000000000)(hb : -1000000000<=b/\b<=1000000000): -1000000000000000000<=a*b/\a*b<=1000000000000000000:=by
 have h:=Int.natAbs_mul a b
 have h2:a.natAbs*b.natAbs<=1000000000*1000000000:=Nat.mul_le_mul (by omega) (by omega)
 omega
theorem RJ(x:CIns)(r:List MVal)(v w:MVal)(hx:9<=x.op/\x.op<=13)(hR:RunS ir p R s O)(hs:s.stk=r++[v,w])(hn:s.stk.length<=1000000)(hv : -1000000000<=AI v/\AI v<=1000000000)(hw : -1000000000<=AI w/\AI w<=1000000000):DCall prog 113 [.ptr ir 0,.agg (cIns x)] O fun y U'=>y=.ret (.bool false) /\ ∃R',RunS ir p R' { s with stk:=r++[GC x.op v w] } U'/\RunK ir R O R' U':=by
 refine en func113 ntmps113 ?_
 refine gz ?_ o113
 refine A4 (BU (r++[v]) w hR (by rw[hs];simp) hn) (fun d S1 hr=>?_) (fun d S1 hr=>by cases hr.1)
 obtain⟨hd,R1,aa,ac⟩:=hr
 cases hd
 have hl:s.stk.length=r.length+2:=by rw[hs];simp
 refine gz ?_ o113
 refine A4 (BU r v aa rfl (by simp;omega)) (fun d S2 hr=>?_) (fun d S2 hr=>by cases hr.1)
 obtain⟨hd,R2,ax,ay⟩:=hr
 cases hd
 have aP:=mul_bnd hv hw
 have aI:IntKind.i64.wrap (AI v*AI w)=AI v*AI w:=An (by omega) (by omega)
 repeat' first|refine gz ?_ o113|apply gy<;>intro hh
 rotate_left 4
 ·refine eqlS _ (decide (v=w)) NH Np (Ud v w) ?_
  refine gz ?_ o113
  simp only[UO,UN]
  have e:GC x.op v w=vInt (Dr (decide (v=w))):=by unfold GC;rw[if_neg (by assumption),if_neg (by assumption),if_neg (by assumption),if_neg (by assumption)]
  rw[e]
  refine A4 (Bj (vInt (Dr (decide (v=w)))) ax (by simp;omega)) (fun d S3 hr=>?_) (fun d S3 hr=>by cases hr.1)
  obtain⟨hd,R3,ag,ah⟩:=hr
  cases hd
  refine gz ?_ o113
  exact fin1 (U':=S3) ⟨rfl,R3,ag,(ac.trans ay).trans ah⟩
 all_goals
  simp only[aI,UO,UN]
 ·have e:GC x.op v w=vInt (DB (AI v+AI w)):=by unfold GC;rw[if_pos (by assumption)]
  rw[e]
  refine A4 (Bj (vInt (DB (AI v+AI w))) ax (by simp;omega)) (fun d S3 hr=>?_) (fun d S3 hr=>by cases hr.1)
  obtain⟨hd,R3,ag,ah⟩:=hr
  cases hd
  refine gz ?_ o113
  exact fin1 (U':=S3) ⟨rfl,R3,ag,(ac.trans ay).trans ah⟩
 ·have e:GC x.op v w=vInt (DB (AI v-AI w)):=by unfold GC;rw[if_neg (by assumption),if_pos (by assumption)]
  rw[e]
  refine A4 (Bj (vInt (DB (AI v-AI w))) ax (by simp;omega)) (fun d S3 hr=>?_) (fun d S3 hr=>by cases hr.1)
  obtain⟨hd,R3,ag,ah⟩:=hr
  cases hd
  refine gz ?_ o113
  exact fin1 (U':=S3) ⟨rfl,R3,ag,(ac.trans ay).trans ah⟩
 ·have e:GC x.op v w=vInt (DB (AI v*AI w)):=by unfold GC;rw[if_neg (by assumption),if_neg (by assumption),if_pos (by assumption)]
  rw[e]
  refine A4 (Bj (vInt (DB (AI v*AI w))) ax (by simp;omega)) (fun d S3 hr=>?_) (fun d S3 hr=>by cases hr.1)
  obtain⟨hd,R3,ag,ah⟩:=hr
  cases hd
  refine gz ?_ o113
  exact fin1 (U':=S3) ⟨rfl,R3,ag,(ac.trans ay).trans ah⟩
 ·have e:GC x.op v w=vInt (Dr (decide (AI v<AI w))):=by unfold GC;rw[if_neg (by assumption),if_neg (by assumption),if_neg (by assumption),if_pos (by assumption)]
  rw[e]
  refine A4 (Bj (vInt (Dr (decide (AI v<AI w)))) ax (by simp;omega)) (fun d S3 hr=>?_) (fun d S3 hr=>by cases hr.1)
  obtain⟨hd,R3,ag,ah⟩:=hr
  cases hd
  refine gz ?_ o113
  exact fin1 (U':=S3) ⟨rfl,R3,ag,(ac.trans ay).trans ah⟩
end
def frV(l:List Init)(s:Int):MVal:=match l.find? (fun i=>decide (i.slot=s))with
 |some i=>vInt i.n
 |none=>Eb
def A2(p:BProg):CWorld:=⟨fun c=>ownF p c&&okP p,hasP p,fun c=>(hasP p c).map (frV (E4 p c))⟩
theorem A6(S:Nat->RW)(l:List MThing):(tCells S l).length=l.length:=by unfold tCells;simp
theorem BA(S:Nat->RW)(l:List MThing)(k:Nat)(h:k<l.length):(tCells S l)[k]? = some [dI (l[k]).cls,(S k).d (l[k]).slots.length]:=by
 unfold tCells;rw[List.getElem?_mapIdx,List.getElem?_eq_getElem h];rfl
theorem CK{S:Nat->RW}{l:List MThing}: ∀c∈tCells S l,c.length=2:=fun c h=>by
 obtain⟨k,hk⟩:=List.getElem?_of_mem h
 have hl:=(List.getElem?_eq_some_iff.1 hk).1
 rw[A6]at hl
 rw[BA S l k hl]at hk
 cases hk;rfl
theorem Nw{es:List (List D)}(h2:∀c∈es,c.length=2){k:Nat}{a b:D}(hk:es[k]? = some [a,b])(cs:List D):(es.flatten++cs)[k*2]? = some a/\(es.flatten++cs)[k*2+1]? = some b:=by
 have hl:=(List.getElem?_eq_some_iff.1 hk).1
 have e:es=es.take k++[a,b]::es.drop (k+1):=by
  have:=(List.getElem?_eq_some_iff.1 hk).2
  rw[<-this,<-Ab hl,List.take_append_drop]
 have hf:(es.take k).flatten.length=k*2:=by rw[Av fun c hc=>h2 c (List.mem_of_mem_take hc),List.length_take_of_le (by omega)]
 rw[e,List.flatten_append,List.flatten_cons]
 simp only[List.append_assoc]
 constructor
 ·rw[List.getElem?_append_right (by omega),hf,Nat.sub_self];rfl
 ·rw[List.getElem?_append_right (by omega),hf,show k*2+1-k*2=1 by omega];rfl
section
variable {ir:Nat}{p:BProg}{R:Nat->RW}{s:GoS}{O:Sig}{v:MVal}
theorem LA(v:MVal)(x:Int)(hp:p.wt<=1073741824)(hR:RunS ir p R s O)(hv:okV s.objs.length v=true)(ho:Ba (A2 p) s.objs=true):
  DCall prog 180 [.ptr ir 0,.agg (cVal v),dI x] O fun y U'=>U'=O/\((Bd (A2 p) s.objs v x<0/\y=.ret .nilp)\/(0<=Bd (A2 p) s.objs v x/\v.kind=3 /\ ∃i c cs,R (v.n.toNat+4)=.row i c cs/\y=.ret (.ptr i ((Bd (A2 p) s.objs v x).toNat*2)))):=by
 have q1:=hR.obj
 by_cases h3:v.kind=3
 rotate_left
 ·have hn:Bd (A2 p) s.objs v x<0:=by unfold Bd;rw[if_neg h3];omega
  refine en func180 ntmps180 ?_
  refine gf h3 ?_ o180
  exact fin1 (U':=O) ⟨rfl,.inl ⟨hn,rfl⟩⟩
 obtain⟨w1,w2,w3⟩:=Fa ho hv h3
 obtain⟨u1,u2,u3⟩:=(BB.1 ho).2 _ w1
 obtain⟨n,hn⟩:∃n:Nat,v.n=n:=⟨v.n.toNat,by omega⟩
 have ae:n<s.objs.length:=by omega
 have aq:CN s.objs v.n=s.objs[n]:=by unfold CN;rw[hn,Int.toNat_natCast,List.getElem?_eq_getElem ae];rfl
 rw[aq]at u1 u2 u3
 have aA:Bd (A2 p) s.objs v x=idxG x (hasP p (s.objs[n]).cls) 0:=by unfold Bd;rw[if_pos h3,aq];rfl
 rw[aA]
 obtain⟨i,c,cs,h0⟩:=hR.row 3 (fun e=>by rw[rCt]at e;have:=congrArg List.length e;rw[A6]at this;simp at this;rw[this]at ae;simp at ae)
 have q0:=hR.rows.ok 3
 rw[h0]at q0
 obtain⟨z1,z2,z3,z4⟩:=q0
 obtain⟨y1,y2⟩:=Nw (CK (S:=fun k=>R (k+4)) (l:=s.objs)) (BA _ _ n ae) cs
 rw[show rCt R s 3=tCells (fun k=>R (k+4)) s.objs from rfl]at z1
 generalize (tCells (fun k=>R (k+4)) s.objs).flatten++cs=L at*
 unfold AN at q1
 rw[h0]at q1
 simp only[EB]at q1
 have au:(ownF p (s.objs[n]).cls&&okP p)=true:=u1
 have aQ:(hasP p (s.objs[n]).cls).length<=1073741824:=by have a:=Cc p (s.objs[n]).cls;have b:=E6 p;omega
 have aB:(s.objs[n]).slots.length=(hasP p (s.objs[n]).cls).length:=u2
 by_cases aC:idxG x (hasP p (s.objs[n]).cls) 0<0
 ·refine en func180 ntmps180 ?_
  refine gf (gi q1 (gi z1 (gi hn (gi y1 (gi y2 au))))) ?_ o180
  exact fin1 (U':=O) ⟨rfl,.inl ⟨aC,rfl⟩⟩
 ·obtain⟨m1,m2⟩:=GV (s:=x) (hasP p (s.objs[n]).cls) 0 (by omega)
  obtain⟨k,hk⟩:∃k:Nat,idxG x (hasP p (s.objs[n]).cls) 0=k:=⟨(idxG x (hasP p (s.objs[n]).cls) 0).toNat,by omega⟩
  have ai:rCt R s (n+4)=(s.objs[n]).slots.map cVal:=by show(((s.objs[n]?).getD ⟨0,[]⟩).slots.map cVal)=_;rw[List.getElem?_eq_getElem ae];rfl
  obtain⟨j,cj,csj,hj⟩:=hR.row (n+4) (fun e=>by rw[ai]at e;have:=congrArg List.length e;simp at this;rw[this]at aB;simp at aB;omega)
  rw[hj]at y2
  simp only[EB]at y2
  rw[hk]at m2
  refine en func180 ntmps180 ?_
  refine gf (gi q1 (gi z1 (gi hn (gi y1 (gi y2 (gi au hk)))))) ?_ o180
  refine fin1 (U':=O) ⟨rfl,.inr ⟨by omega,h3,j,cj,csj,by rw[hn];exact hj,?_⟩⟩
  rw[hk];rfl
theorem Pn(hR:RunS ir p R s O)(hv:okV s.objs.length v=true)(ho:Ba (A2 p) s.objs=true){x:Int}(h0:0<=Bd (A2 p) s.objs v x)(h3:v.kind=3){i c:Nat}{cs:List D}(hi:R (v.n.toNat+4)=.row i c cs):
  ∃n k:Nat,v.n=n/\Bd (A2 p) s.objs v x=k /\ ∃(hn:n<s.objs.length) (hk:k<(s.objs[n]).slots.length),CN s.objs v.n=s.objs[n] /\ ∃L,L=((s.objs[n]).slots.map cVal).flatten++cs/\O i=some (.cells L)/\k*2+2<=L.length/\List.take 2 (List.drop (k*2) L)=cVal ((s.objs[n]).slots[k]):=by
 obtain⟨w1,w2,w3⟩:=Fa ho hv h3
 obtain⟨u1,u2,u3⟩:=(BB.1 ho).2 _ w1
 obtain⟨n,hn⟩:∃n:Nat,v.n=n:=⟨v.n.toNat,by omega⟩
 have ae:n<s.objs.length:=by omega
 have aq:CN s.objs v.n=s.objs[n]:=by unfold CN;rw[hn,Int.toNat_natCast,List.getElem?_eq_getElem ae];rfl
 rw[aq]at u1 u2 u3
 have aA:Bd (A2 p) s.objs v x=idxG x (hasP p (s.objs[n]).cls) 0:=by unfold Bd;rw[if_pos h3,aq];rfl
 have aB:(s.objs[n]).slots.length=(hasP p (s.objs[n]).cls).length:=u2
 obtain⟨m1,m2⟩:=GV (s:=x) (hasP p (s.objs[n]).cls) 0 (by omega)
 obtain⟨k,hk⟩:∃k:Nat,idxG x (hasP p (s.objs[n]).cls) 0=k:=⟨(idxG x (hasP p (s.objs[n]).cls) 0).toNat,by omega⟩
 rw[hk]at m2 aA
 have ak:k<(s.objs[n]).slots.length:=by omega
 have ai:rCt R s (n+4)=(s.objs[n]).slots.map cVal:=by show(((s.objs[n]?).getD ⟨0,[]⟩).slots.map cVal)=_;rw[List.getElem?_eq_getElem ae];rfl
 have q:=hR.rows.ok (n+4)
 rw[show n=v.n.toNat by omega,hi]at q
 have z:=q.1
 rw[show v.n.toNat=n by omega,ai]at z
 refine⟨n,k,hn,aA,ae,ak,aq,_,rfl,z,by rw[FA];omega,?_⟩
 have e:(s.objs[n]).slots=(s.objs[n]).slots.take k++(s.objs[n]).slots[k]::(s.objs[n]).slots.drop (k+1):=by rw[<-Ab ak,List.take_append_drop]
 have hv:=JX ((s.objs[n]).slots.take k) (s.objs[n]).slots[k] ((s.objs[n]).slots.drop (k+1)) cs
 rw[<-e,List.length_take_of_le (by omega)]at hv
 exact hv
theorem RN(x:CIns)(r:List MVal)(v:MVal)(hp:p.wt<=1073741824)(hR:RunS ir p R s O)(hs:s.stk=r++[v])(hn:s.stk.length<=1000000)(hv:okV s.objs.length v=true)(ho:Ba (A2 p) s.objs=true):DCall prog 109 [.ptr ir 0,.agg (cIns x)] O fun y U'=> ∃R',RunK ir R O R' U' /\
  if Bd (A2 p) s.objs v x.a<0 then y=.ret (.bool true)/\HaltS ir p R' { s with stk:=r } .nils false (FK s 5 r) U' else y=.ret (.bool false)/\RunS ir p R' { s with stk:=r++[((CN s.objs v.n).slots[(Bd (A2 p) s.objs v x.a).toNat]?).getD vZ] } U':=by
 have hl:s.stk.length=r.length+1:=by rw[hs];simp
 refine en func109 ntmps109 ?_
 refine gz ?_
 refine Ho (id:=1) [0,1,3,4,2,5,6] [2,5] (fun _=>none) (fun _ _ h=>by cases h) ?_
 refine gz ?_ o109
 refine Bx (BU r v hR hs hn) (fun d S1 hr=>?_) (fun d S1 hr=>by cases hr.1)
 obtain⟨hd,R1,aa,ac⟩:=hr
 cases hd
 refine⟨(fun _ _ h=>by cases h),?_⟩
 refine Bx (LA v x.a hp aa hv ho) (fun d S2 hr=>?_) (fun d S2 hr=>by rcases hr.2 with⟨_,h⟩|⟨_,_,_,_,_,_,h⟩<;>cases h)
 obtain⟨rfl,hr⟩:=hr
 refine⟨(fun _ _ h=>by cases h),?_⟩
 rcases hr with⟨h0,hd⟩|⟨h0,h3,i,c,cs,hi,hd⟩
 ·cases hd
  refine gz ?_ o109
  refine A4 (Gr 5 r aa) (fun d S3 hr=>?_) (fun d S3 hr=>by cases hr.1)
  obtain⟨hd,h1,h2⟩:=hr
  cases hd
  refine gz ?_ o109
  exact fin1 (U':=S3) ⟨R1,ac.trans h2,by rw[if_pos h0];exact⟨rfl,h1⟩⟩
 ·obtain⟨n,k,e1,e2,ae,ak,e3,L,hL,z1,z2,z3⟩:=Pn aa hv ho h0 h3 hi
  have e4:Bd (A2 p) s.objs v x.a=k:=e2
  obtain rfl:d=.ptr i (k*2):=by cases hd;show D.ptr i ((Bd (A2 p) s.objs v x.a).toNat*2)=_;rw[e4];rfl
  have e5:((CN s.objs v.n).slots[(Bd (A2 p) s.objs v x.a).toNat]?).getD vZ=(s.objs[n]'ae).slots[k]'ak:=by
   rw[e4,show CN s.objs v.n=s.objs[n]'ae from e3,Int.toNat_natCast,List.getElem?_eq_getElem ak];rfl
  refine gf (gi z1 (gi z2 z3)) ?_ o109
  refine A4 (Bj ((s.objs[n]'ae).slots[k]'ak) aa (by simp;omega)) (fun d S3 hr=>?_) (fun d S3 hr=>by cases hr.1)
  obtain⟨hd,R3,ag,ah⟩:=hr
  cases hd
  refine gz ?_ o109
  exact fin1 (U':=S3) ⟨R3,ac.trans ah,by rw[if_neg (by omega),e5];exact⟨rfl,ag⟩⟩
end
theorem Pd(l:List MVal)(k:Nat)(hk:k<l.length)(v:MVal)(cs:List D):List.take (k*2) ((l.map cVal).flatten++cs)++cVal v++List.drop (k*2+2) ((l.map cVal).flatten++cs)=((l.set k v).map cVal).flatten++cs:=by
 have e:l=l.take k++l[k]::l.drop (k+1):=by rw[<-Ab hk,List.take_append_drop]
 have h:((l.take k).map cVal).flatten.length=k*2:=by rw[Av Bl];simp;omega
 have hs:l.set k v=l.take k++v::l.drop (k+1):=by rw[List.set_eq_take_append_cons_drop,if_pos hk]
 have e2:(l.map cVal).flatten++cs=((l.take k).map cVal).flatten++(cVal l[k]++(((l.drop (k+1)).map cVal).flatten++cs)):=by
  calc _=((l.take k++l[k]::l.drop (k+1)).map cVal).flatten++cs:=by rw[<-e]
   _=_:=by rw[List.map_append,List.map_cons,List.flatten_append,List.flatten_cons];simp only[List.append_assoc]
 have e3:((l.set k v).map cVal).flatten++cs=((l.take k).map cVal).flatten++(cVal v++(((l.drop (k+1)).map cVal).flatten++cs)):=by
  rw[hs,List.map_append,List.map_cons,List.flatten_append,List.flatten_cons];simp only[List.append_assoc]
 rw[e2,e3,<-h,List.take_left,<-List.drop_drop,List.drop_left,List.append_assoc]
 rfl
section
variable {ir:Nat}{p:BProg}{R:Nat->RW}{s:GoS}{O:Sig}
theorem O5(S:Nat->RW)(l:List MThing)(n:Nat)(hn:n<l.length)(x:MThing)(hc:x.cls=(l[n]).cls)(hl:x.slots.length=(l[n]).slots.length):tCells S (l.set n x)=tCells S l:=by
 refine List.ext_getElem? fun k=>?_
 by_cases hk:k<l.length
 ·rw[BA S (l.set n x) k (by simpa using hk),BA S l k hk]
  by_cases e:k=n
  ·subst e;rw[List.getElem_set_self,hc,hl]
  ·rw[List.getElem_set_ne (fun h=>e h.symm)]
 ·rw[List.getElem?_eq_none (by rw[A6];simp;omega),List.getElem?_eq_none (by rw[A6];omega)]
theorem RunS.slot(h:RunS ir p R s O){n k:Nat}(hn:n<s.objs.length)(hk:k<(s.objs[n]).slots.length){i c:Nat}{cs:List D}(hi:R (n+4)=.row i c cs)(v:MVal){L:List D}(hL:L=((s.objs[n]).slots.map cVal).flatten++cs):
  RunS ir p R { s with objs:=s.objs.set n ⟨(s.objs[n]).cls,(s.objs[n]).slots.set k v⟩ } (O.set i (.cells (L.take (k*2)++cVal v++L.drop (k*2+2))))/\RunK ir R O R (O.set i (.cells (L.take (k*2)++cVal v++L.drop (k*2+2)))):=by
 subst hL
 rw[Pd _ k hk v cs]
 have aE:(R (n+4)).is i:=by rw[hi];rfl
 have ar:ir≠i:=fun e=>h.ni (n+4) (e ▸ aE)
 have ai:rCt R s (n+4)=(s.objs[n]).slots.map cVal:=by show(((s.objs[n]?).getD ⟨0,[]⟩).slots.map cVal)=_;rw[List.getElem?_eq_getElem hn];rfl
 have q:=h.rows.ok (n+4)
 rw[hi,ai]at q
 obtain⟨z1,z2,z3,z4⟩:=q
 refine⟨⟨?_,⟨fun a=>?_,h.rows.dj⟩,h.ni,h.nf⟩,fun j o hj _ aF=>⟨by rw[w7 _ _ fun e=>aF (n+4) (by rw[e];exact aE)];exact hj,aF⟩⟩
 ·rw[w7 _ _ ar,h.obj]
  simp[AN]
 ·by_cases ea:a=n+4
  ·subst ea
   have e:rCt R { s with objs:=s.objs.set n ⟨(s.objs[n]).cls,(s.objs[n]).slots.set k v⟩ } (n+4)=((s.objs[n]).slots.set k v).map cVal:=by
    show((((s.objs.set n _)[n]?).getD ⟨0,[]⟩).slots.map cVal)=_
    rw[List.getElem?_set_self hn];rfl
   rw[hi,e]
   refine⟨by rw[w6],?_,by simpa using z3,Bl⟩
   have a1:=FA (s.objs[n]).slots cs
   have a2:=FA ((s.objs[n]).slots.set k v) cs
   rw[List.length_set]at a2
   exact le_of_le_of_eq z2 (a1.trans a2.symm)
  ·have e:rCt R { s with objs:=s.objs.set n ⟨(s.objs[n]).cls,(s.objs[n]).slots.set k v⟩ } a=rCt R s a:=by
    match a with
    |0=>rfl
    |1=>rfl
    |2=>rfl
    |3=>exact O5 _ _ n hn _ rfl (by simp)
    |m+4=>
     show((((s.objs.set n _)[m]?).getD ⟨0,[]⟩).slots.map cVal)=((((s.objs)[m]?).getD ⟨0,[]⟩).slots.map cVal)
     rw[List.getElem?_set_ne (by omega)]
   rw[e]
   exact(h.rows.ok a).keep fun j o hj aK=>by rw[w7 _ _ fun e2=>ea (h.rows.dj a (n+4) j aK (by rw[e2];exact aE))];exact hj
theorem RK(x:CIns)(r:List MVal)(w v:MVal)(hp:p.wt<=1073741824)(hR:RunS ir p R s O)(hs:s.stk=r++[w,v])(hn:s.stk.length<=1000000)(hv:okV s.objs.length w=true)(ho:Ba (A2 p) s.objs=true):DCall prog 112 [.ptr ir 0,.agg (cIns x)] O fun y U'=> ∃R',RunK ir R O R' U' /\
  if Bd (A2 p) s.objs w x.a<0 then y=.ret (.bool true)/\HaltS ir p R' { s with stk:=r } .nils false (FK s 5 (r++[w])) U' else
   y=.ret (.bool false)/\RunS ir p R' { s with objs:=setObj s.objs w.n ⟨(CN s.objs w.n).cls,(CN s.objs w.n).slots.set (Bd (A2 p) s.objs w x.a).toNat v⟩,stk:=r++[v] } U':=by
 have hl:s.stk.length=r.length+2:=by rw[hs];simp
 refine en func112 ntmps112 ?_
 refine gz ?_ o112
 refine A4 (BU (r++[w]) v hR (by rw[hs];simp) hn) (fun d S0 hr=>?_) (fun d S0 hr=>by cases hr.1)
 obtain⟨hd,R0,aN,aG⟩:=hr
 cases hd
 refine gz ?_
 refine Ho (id:=2) [0,1,3,4,2,5,6] [2,5] (fun _=>none) (fun _ _ h=>by cases h) ?_
 refine gz ?_ o112
 refine Bx (BU r w aN rfl (by simp;omega)) (fun d S1 hr=>?_) (fun d S1 hr=>by cases hr.1)
 obtain⟨hd,R1,aa,ac⟩:=hr
 cases hd
 refine⟨(fun _ _ h=>by cases h),?_⟩
 refine Bx (LA w x.a hp aa hv ho) (fun d S2 hr=>?_) (fun d S2 hr=>by rcases hr.2 with⟨_,h⟩|⟨_,_,_,_,_,_,h⟩<;>cases h)
 obtain⟨rfl,hr⟩:=hr
 refine⟨(fun _ _ h=>by cases h),?_⟩
 rcases hr with⟨h0,hd⟩|⟨h0,h3,i,c,cs,hi,hd⟩
 ·cases hd
  refine gz ?_ o112
  refine A4 (Gr 5 (r++[w]) aa) (fun d S3 hr=>?_) (fun d S3 hr=>by cases hr.1)
  obtain⟨hd,h1,h2⟩:=hr
  cases hd
  refine gz ?_ o112
  exact fin1 (U':=S3) ⟨R1,(aG.trans ac).trans h2,by rw[if_pos h0];exact⟨rfl,h1⟩⟩
 ·obtain⟨n,k,e1,e2,ae,ak,e3,L,hL,z1,z2,z3⟩:=Pn aa hv ho h0 h3 hi
  have e4:Bd (A2 p) s.objs w x.a=k:=e2
  obtain rfl:d=.ptr i (k*2):=by cases hd;show D.ptr i ((Bd (A2 p) s.objs w x.a).toNat*2)=_;rw[e4];rfl
  have aL:R1 (n+4)=.row i c cs:=by rw[<-hi,e1];rfl
  obtain⟨p1,p2⟩:=aa.slot ae ak aL v hL
  have hf:¬L.length<k*2+2:=by omega
  rw[List.append_assoc]at p1 p2
  have e5:setObj s.objs w.n ⟨(CN s.objs w.n).cls,(CN s.objs w.n).slots.set (Bd (A2 p) s.objs w x.a).toNat v⟩=s.objs.set n ⟨(s.objs[n]'ae).cls,(s.objs[n]'ae).slots.set k v⟩:=by
   unfold setObj
   rw[e4,show CN s.objs w.n=s.objs[n]'ae from e3,e1];rfl
  refine gf (gi z1 hf) ?_ o112
  refine A4 (Bj v p1 (by simp;omega)) (fun d S3 hr=>?_) (fun d S3 hr=>by cases hr.1)
  obtain⟨hd,R3,ag,ah⟩:=hr
  cases hd
  refine gz ?_ o112
  exact fin1 (U':=S3) ⟨R3,((aG.trans ac).trans p2).trans ah,by rw[if_neg (by omega),e5];exact⟨rfl,ag⟩⟩
theorem RL(x:CIns)(r:List MVal)(v:MVal)(hR:RunS ir p R s O)(hs:s.stk=r++[v])(hn:s.stk.length<=1000000)(he:s.evs.length<=1000000):DCall prog 111 [.ptr ir 0,.agg (cIns x)] O fun y U'=>y=.ret (.bool false) /\ ∃R',RunS ir p R' { s with evs:=s.evs++[⟨2,0,[v]⟩],stk:=r++[v] } U'/\RunK ir R O R' U':=by
 have hl:s.stk.length=r.length+1:=by rw[hs];simp
 refine en func111 ntmps111 ?_
 refine gz ?_ o111
 refine A4 (BU r v hR hs hn) (fun d S1 hr=>?_) (fun d S1 hr=>by cases hr.1)
 obtain⟨hd,R1,aa,ac⟩:=hr
 cases hd
 have q1:=aa.obj
 have q0:RWAt S1 3 (R1 2) (s.evs.map cEv):=aa.rows.ok 2
 have u1:=Df q1 (aa.ni 2)
 refine gz ?_
 refine Ft (id:=2) [0,1,2,3,4,5,6,7,8,9,10,11,12,13] [10] (S1.out (R1 2).is) (Cr _ _) ?_
 refine gf u1 ?_ o111
 refine G7 (es:=s.evs.map cEv) (fun i c cs S2 aj am=>?_) (fun j o h=>Cs h) (hm:=q0)
 obtain⟨v1,v2⟩:=am _ _ q1 (aa.ni 2)
 refine gf v1 ?_ o111
 rw[show s.evs.map cEv++[[D.int .i64 2,D.int .i64 0,.slice [cVal v] .clip]]=(s.evs++[(⟨2,0,[v]⟩:MEv)]).map cEv by simp[cEv]]at aj
 obtain⟨p1,p2⟩:=aa.put (a:=2) (s':={ s with stk:=r,evs:=s.evs++[⟨2,0,[v]⟩] }) aj am (rCt_2 R1 _ { s with stk:=r } _) rfl
 refine drp (S2.set ir (.cells (AN p (updF R1 2 (.row i c cs)) { s with stk:=r,evs:=s.evs++[⟨2,0,[v]⟩] }))) ?_ (by simp[AN,Aj];exact Sub.refl _)
 refine A4 (Bj v p1 (by simp;omega)) (fun d S3 hr=>?_) (fun d S3 hr=>by cases hr.1)
 obtain⟨hd,R3,ag,ah⟩:=hr
 cases hd
 refine gz ?_ o111
 exact fin1 (U':=S3) ⟨rfl,R3,ag,(ac.trans p2).trans ah⟩
end
end Go.DL
