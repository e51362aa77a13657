/- A part of the proof. -/
import Derived.Test.YteldimffglchkaaGreatDoorN17
import Derived.Test.YteldimffglchkaaGreatDoorN16
import Derived.Test.YteldimffglchkaaGreatDoorN15
import Derived.Test.YteldimffglchkaaGreatDoorN08
import Derived.Test.YteldimffglchkaaGreatDoorN11
set_option linter.all false
namespace Go.DL
open Go.Proofs.Tryz
open Go Go.Proofs
set_option maxHeartbeats 8000000
def cVal(v:MVal):List D:=[dI v.kind,dI v.n]
@[simp] theorem cVal_len(v:MVal):(cVal v).length=2:=rfl
@[simp] theorem cVal_flat(v:MVal):BB (cVal v)=true:=rfl
theorem Ot:EqTy prog 40:=⟨by kernel_rfl,by kernel_rfl,by kernel_rfl⟩
theorem O6:(tab 40).k=.struct [(0,38),(1,3)]:=rfl
theorem V8(a b:MVal):eqFs tab (cVal a) (cVal b) [(0,38),(1,3)]=some (decide (a=b)):=by
 cases a;cases b
 simp[cVal,MVal.mk.injEq,Bool.decide_and]
theorem SC(v:MVal)(O:Sig):DCall prog 183 [.agg (cVal v)] O (rS (dI (AL v)) O):=by
 refine en func183 ntmps183 ?_
 repeat' first|refine gz ?_|apply gy<;>intro hh
 any_goals (first|(refine fin1 (U':=O) ?_;exact⟨by first|rfl|(simp[AL,hh];done)|(simp_all [AL,hh];done)|(rw[Ag,Bool.eq_iff_iff];simp_all [AL,hh]<;>omega),rfl⟩)|fail)
@[reducible,instance] def a183:=fun v O=>ah0 (@SC v O)
theorem SB(b:Bool)(O:Sig):DCall prog 184 [.bool b] O (rS (dI (Dv b)) O):=by
 refine en func184 ntmps184 ?_
 repeat' first|refine gz ?_|apply gy<;>intro hh
 any_goals (first|(refine fin1 (U':=O) ?_;exact⟨by first|rfl|(simp[Dv,hh];done)|(simp_all [Dv,hh];done)|(rw[Ag,Bool.eq_iff_iff];simp_all [Dv,hh]<;>omega),rfl⟩)|fail)
@[reducible,instance] def a184:=fun b O=>ah0 (@SB b O)
theorem Mc(v:MVal)(N:Int)(O:Sig):DCall prog 175 [.agg (cVal v),dI N] O (rS (.bool (okV N v)) O):=by
 refine en func175 ntmps175 ?_
 repeat' first|refine gz ?_|apply gy<;>intro hh
 any_goals (first|(refine fin1 (U':=O) ?_;exact⟨by first|rfl|(simp[okV,hh];done)|(simp_all [okV,hh];done)|(rw[Ag,Bool.eq_iff_iff];simp_all [okV,hh]<;>omega),rfl⟩)|fail)
theorem Md(v:MVal)(N:Int)(O:Sig):DCall prog 174 [.agg (cVal v),.cptr [dI N] 0] O (rS (.bool (!okV N v)) O):=by
 refine en func174 ntmps174 ?_
 repeat' first|refine gz ?_|refine Cb (Mc v N O) ?_|refine callP (Mc v N O) ?_|refine gz ?_|apply gy<;>intro hh
 exact fe1 trivial
theorem Mi(v:MVal)(N:Int)(O:Sig):DCall prog 104 [.agg (cVal v),.cptr [dI N] 0] O (rS (.bool (!okV N v)) O):=by
 refine en func104 ntmps104 ?_
 repeat' first|refine gz ?_|apply gy<;>intro hh
 rotate_left 4
 ·refine neqS _ (decide (v=E9)) Ot O6 (V8 v E9) ?_
  refine gz ?_
  refine fin1 (U':=O) ?_
  refine⟨?_,rfl⟩
  rw[Ag,Bool.eq_iff_iff]
  obtain⟨k,m⟩:=v
  unfold okV E9
  simp_all
 all_goals
  refine fin1 (U':=O) ?_
  refine⟨?_,rfl⟩
  rw[Ag,Bool.eq_iff_iff]
  unfold okV
  simp_all
  try omega
theorem Mb(l:List MVal)(p:MVal->Bool)(g:Nat)(cap:List D)(o:Own)(O:Sig)(hl:l.length<=1073741824)(hg:∀v∈l,DCall prog g ([]++[.agg (cVal v)]++cap) O (rS (.bool (p v)) O)):DCall prog 176 [.slice (l.map cVal) o,.func (.func g) [] cap] O (rS (dI (idxF p l 0)) O):=by
 refine en func176 ntmps176 ?_
 refine gz ?_
 refine Cg [0,1,7] (fun (k:Nat)=>k<=l.length/\idxF p l 0=idxF p (l.drop k) k) (fun k=>[(8,dI k)]) (fun _=>O) (fun k=>l.length-k) (0) (by simp) (fun k hI=>?_)
 obtain⟨hk,hR⟩:=hI
 by_cases h:k<l.length
 ·rw[Ab h,idxF]at hR
  repeat' first|refine Cb (hg (l[k]) (List.getElem_mem h)) ?_|refine callP (hg (l[k]) (List.getElem_mem h)) ?_|refine gz ?_|apply gy<;>intro hh
  ·rw[hh]at hR
   exact fe1 hR
  ·rw[hh]at hR
   exact⟨k+1,⟨by omega,hR⟩,td1,wkR⟩
 ·rw[Aj h,idxF]at hR
  refine gz ?_
  exact fe1 hR
theorem Gw(l:List MVal)(p:MVal->Bool)(g:Nat)(cap:List D)(o:Own)(O:Sig)(hl:l.length<=1073741824)(hg:∀v∈l,DCall prog g ([]++[.agg (cVal v)]++cap) O (rS (.bool (p v)) O)):DCall prog 103 [.slice (l.map cVal) o,.func (.func g) [] cap] O (rS (.bool (l.any p)) O):=by
 refine en func103 ntmps103 ?_
 repeat' first|refine gz ?_|refine Cb (Mb l p g cap _ _ hl hg) ?_|refine callP (Mb l p g cap _ _ hl hg) ?_|refine gz ?_|apply gy<;>intro hh
 rw[<-Dc p l 0]
 exact fe1 trivial
theorem T5(l:List MVal)(N:Int)(o:Own)(O:Sig)(hl:l.length<=1073741824):DCall prog 102 [.slice (l.map cVal) o,dI N] O (rS (.bool (okVs N l)) O):=by
 refine en func102 ntmps102 ?_
 repeat' first|refine gz ?_|refine Cb (Gw l (fun v=> !okV N v) 174 [.cptr [dI N] 0] _ _ hl (fun v _=>Md v N _)) ?_|refine callP (Gw l (fun v=> !okV N v) 174 [.cptr [dI N] 0] _ _ hl (fun v _=>Md v N _)) ?_|refine gz ?_|apply gy<;>intro hh
 (refine fin1 (U':=O) ?_;exact⟨by first|rfl|(simp[okVs];done)|(simp_all [okVs];done)|(rw[Ag,Bool.eq_iff_iff];simp_all [okVs]<;>omega),rfl⟩)
@[reducible,instance] def a102:=fun l N o O=>ah1 (@T5 l N o O)
theorem UT(l:List MVal)(N:Int)(o:Own)(O:Sig)(hl:l.length<=1073741824):DCall prog 46 [.slice (l.map cVal) o,dI N] O (rS (.bool (okVs N l)) O):=by
 refine en func46 ntmps46 ?_
 repeat' first|refine gz ?_|refine Cb (Gw l (fun v=> !okV N v) 104 [.cptr [dI N] 0] _ _ hl (fun v _=>Mi v N _)) ?_|refine callP (Gw l (fun v=> !okV N v) 104 [.cptr [dI N] 0] _ _ hl (fun v _=>Mi v N _)) ?_|refine gz ?_|apply gy<;>intro hh
 (refine fin1 (U':=O) ?_;exact⟨by first|rfl|(simp[okVs];done)|(simp_all [okVs];done)|(rw[Ag,Bool.eq_iff_iff];simp_all [okVs]<;>omega),rfl⟩)
@[reducible,instance] def a46:=fun l N o O=>ah1 (@UT l N o O)
section
variable {ro:Ro}{n:Nat}{ops:Array Oper}{N:Nat}{S0:Sig}{Q:DX->St->Prop}{df:List DDf}{rest:List Oper}{γ Sr:List (Nat×D)}{O:Sig}{t:Nat}{ty:TypeId}{pos:String}{after:Array Edge}{d:D}
theorem cutH{T e i off len cap hi:Nat}{k:IntKind}{x y:Operand}(h:DOps prog ro n ops Q rest ⟨(t,.sref i off hi cap)::γ,O,df⟩)(aV:hi<=cap)
  (hl:A0 γ (A5 [x,y])=some Sr:=by exact tdR) (h1:ev Sr x=.sref i off len cap:=by exact tdR) (h2:ev Sr y=.int k hi:=by exact tdR) (hk:(tab T).k=.slice e:=by(simp<;>rfl)) (he:A1 (tab e).k=false:=by simp) (aj:decide (t<n)=true:=by exact tdR) :
  DOps prog ro n ops Q (⟨some t,.slice T x none (some y) none,ty,pos,after,none⟩::rest) ⟨γ,O,df⟩:=by
 obtain⟨e1,e2⟩:=evs hl
 refine Bx (fun d U'=>d=.sref i off hi cap/\U'=O) rfl (fun c e=>by cases e) (Aa fun c e=>by cases e) (by simp only[Ar];exact aj) ?_
  (fun d U' ⟨a2,a3⟩=>by subst a2 a3;exact h)
 intro g w a hs hT
 have hx:=Ah hT x
 have hy:=Ah hT y
 rw[<-e1,h1]at hx
 rw[<-e2,h2]at hy
 obtain⟨r,h4,h5⟩:=NR (w:=w) Ad hk he hx hy aV
 exact⟨g,w,r,_,O,by simp only[execOp,Option.map_some,Option.map_none,Sem.run_bind,h4,Result.andThen_ok,Sem.run_pure],.refl g,hs,h5,rfl,rfl⟩
end
def cEv(e:MEv):List D:=[dI e.deed,dI e.n,.slice (e.vals.map cVal) .clip]
def tCells(S:Nat->RW)(l:List MThing):List (List D):=l.mapIdx fun k o=>[dI o.cls,(S k).d o.slots.length]
def rCt(R:Nat->RW)(s:GoS):Nat->List (List D)
 |0=>s.stk.map cVal
 |1=>s.env.map cVal
 |2=>s.evs.map cEv
 |3=>tCells (fun k=>R (k+4)) s.objs
 |k+4=>((s.objs[k]?).getD ⟨0,[]⟩).slots.map cVal
def rSz(a:Nat):Nat:=if a=2 then 3 else 2
abbrev AO(p:BProg)(R:Nat->RW)(s:GoS):List D:=[dI 0,dI 0,dI 0,dI 0,.nils,dI 0,dI 0,.nils,.nils,(R 3).d s.objs.length,(R 2).d s.evs.length]++Ai p++[dI s.pos,(R 0).d s.stk.length,(R 1).d s.env.length]
structure RunS(ir:Nat)(p:BProg)(R:Nat->RW)(s:GoS)(O:Sig):Prop where
 obj:O ir=some (.cells (AO p R s))
 rows:Rows O R rSz (rCt R s)
 ni:∀a, ¬(R a).is ir
 nf:∀a es,R a=.full es->es=[]
def RunK(ir:Nat)(R:Nat->RW)(O:Sig)(R':Nat->RW)(U':Sig):Prop:= ∀j o,O j=some o->j≠ir->(∀a, ¬(R a).is j)->U' j=some o /\ ∀a, ¬(R' a).is j
theorem RunK.refl(ir:Nat)(R:Nat->RW)(O:Sig):RunK ir R O R O:=fun _ _ h _ k=>⟨h,k⟩
theorem RunK.trans{ir:Nat}{R R1 R2:Nat->RW}{O U1 U2:Sig}(h:RunK ir R O R1 U1)(k:RunK ir R1 U1 R2 U2):RunK ir R O R2 U2:=fun j o hj hi hn=>k j o (h j o hj hi hn).1 hi (h j o hj hi hn).2
section
variable {ir:Nat}{p:BProg}{R:Nat->RW}{s:GoS}{O:Sig}
theorem RunS.row(h:RunS ir p R s O)(a:Nat)(hne:rCt R s a≠[]): ∃i c cs,R a=.row i c cs:=by
 have hk:=h.rows.ok a
 cases hR:R a with
 |nil=>rw[hR]at hk;exact absurd hk hne
 |full es=>rw[hR]at hk;obtain⟨h1,_⟩:=hk;rw[h.nf a es hR]at h1;exact absurd h1 hne
 |row i c cs=>exact⟨i,c,cs,rfl⟩
theorem RunS.put(h:RunS ir p R s O){a:Nat}{i c:Nat}{cs:List D}{es':List (List D)}{s':GoS}{U1:Sig}{ds:List D}(hr:RWAt U1 (rSz a) (.row i c cs) es')(hk:RWK O (R a) U1 (.row i c cs))(ak:∀b,rCt (updF R a (.row i c cs)) s' b=updF (rCt R s) a es' b)(hd:ds=AO p (updF R a (.row i c cs)) s'):
  RunS ir p (updF R a (.row i c cs)) s' (U1.set ir (.cells ds))/\RunK ir R O (updF R a (.row i c cs)) (U1.set ir (.cells ds)):=by
 obtain⟨k1,k2⟩:=hk ir _ h.obj (h.ni a)
 have hR:=(h.rows.upd hr hk).retell ak
 have ay:∀b, ¬(updF R a (.row i c cs) b).is ir:=fun b=>by
  by_cases e:b=a
  ·subst e;rw[Ak];exact k2
  ·rw[A6 _ _ e];exact h.ni b
 refine⟨⟨by rw[w6,hd],hR.keep fun j o hj ⟨b,hb⟩=>by rw[w7 _ _ fun e=>ay b (by rw[<-e];exact hb)];exact hj,ay,fun b es hb=>?_⟩,fun j o hj aw hn=>⟨by rw[w7 _ _ aw];exact(hk j o hj (hn a)).1,fun b=>?_⟩⟩
 ·by_cases e:b=a
  ·subst e;rw[Ak]at hb;cases hb
  ·rw[A6 _ _ e]at hb;exact h.nf b es hb
 ·by_cases e:b=a
  ·subst e;rw[Ak];exact(hk j o hj (hn b)).2
  ·rw[A6 _ _ e];exact hn b
theorem RunS.re(h:RunS ir p R s O){a:Nat}{i c:Nat}{cs:List D}{es':List (List D)}{s':GoS}{ds:List D}(hr:RWAt O (rSz a) (.row i c cs) es')(hi:∀j,(RW.row i c cs).is j->(R a).is j)(ak:∀b,rCt (updF R a (.row i c cs)) s' b=updF (rCt R s) a es' b)(hd:ds=AO p (updF R a (.row i c cs)) s'):
  RunS ir p (updF R a (.row i c cs)) s' (O.set ir (.cells ds))/\RunK ir R O (updF R a (.row i c cs)) (O.set ir (.cells ds)):=by
 have hR:=(h.rows.re hr hi).retell ak
 have aL:∀b j,(updF R a (.row i c cs) b).is j->(R b).is j:=fun b j hb=>by
  by_cases e:b=a
  ·subst e;rw[Ak]at hb;exact hi j hb
  ·rwa [A6 _ _ e]at hb
 refine⟨⟨by rw[w6,hd],hR.keep fun j o hj ⟨b,hb⟩=>by rw[w7 _ _ fun e=>h.ni b (by rw[<-e];exact aL b j hb)];exact hj,fun b hb=>h.ni b (aL b _ hb),fun b es hb=>?_⟩,fun j o hj aw hn=>⟨by rw[w7 _ _ aw];exact hj,fun b hb=>hn b (aL b j hb)⟩⟩
 by_cases e:b=a
 ·subst e;rw[Ak]at hb;cases hb
 ·rw[A6 _ _ e]at hb;exact h.nf b es hb
@[simp] theorem EC(i c n:Nat)(cs:List D):(RW.row i c cs).d n=.sref i 0 n c:=rfl
@[simp] theorem cVal_tk(v:MVal):List.take 2 (cVal v)=cVal v:=rfl
@[simp] theorem cVal_mem(v:MVal)(d:D):(d∈cVal v)=(d=dI v.kind\/d=dI v.n):=by simp[cVal]
theorem Bm{l:List MVal}: ∀c∈l.map cVal,c.length=2:=fun c h=>by obtain⟨v,_,rfl⟩:=List.mem_map.1 h;rfl
theorem Fb(R:Nat->RW)(a:Nat)(r:RW)(ha:a<4)(l:List MThing):tCells (fun k=>updF R a r (k+4)) l=tCells (fun k=>R (k+4)) l:=by
 unfold tCells
 congr 1
 funext k o
 simp only[A6 R r (show k+4≠a by omega)]
theorem rCt_0(R:Nat->RW)(r:RW)(s:GoS)(l:List MVal)(b:Nat):rCt (updF R 0 r) { s with stk:=l } b=updF (rCt R s) 0 (l.map cVal) b:=by
 match b with
 |0=>rfl
 |1=>rfl
 |2=>rfl
 |3=>exact Fb R 0 r (by omega) _
 |k+4=>rfl
theorem rCt_1(R:Nat->RW)(r:RW)(s:GoS)(l:List MVal)(b:Nat):rCt (updF R 1 r) { s with env:=l } b=updF (rCt R s) 1 (l.map cVal) b:=by
 match b with
 |0=>rfl
 |1=>rfl
 |2=>rfl
 |3=>exact Fb R 1 r (by omega) _
 |k+4=>rfl
theorem rCt_2(R:Nat->RW)(r:RW)(s:GoS)(l:List MEv)(b:Nat):rCt (updF R 2 r) { s with evs:=l } b=updF (rCt R s) 2 (l.map cEv) b:=by
 match b with
 |0=>rfl
 |1=>rfl
 |2=>rfl
 |3=>exact Fb R 2 r (by omega) _
 |k+4=>rfl
theorem Bk(v:MVal)(hR:RunS ir p R s O)(hn:s.stk.length<=1000000):DCall prog 177 [.ptr ir 0,.agg (cVal v)] O fun x U'=>x=.ret (.bool false) /\ ∃R',RunS ir p R' { s with stk:=s.stk++[v] } U'/\RunK ir R O R' U':=by
 have q1:=hR.obj
 have q0:RWAt O 2 (R 0) (s.stk.map cVal):=hR.rows.ok 0
 have u1:(O.out (R 0).is) ir=some (.cells (AO p R s)):=D8 q1 (hR.ni 0)
 refine en func177 ntmps177 ?_
 refine gf q1 ?_
 refine EO (id:=1) [0,1,2,3,4,5,6,7,8,9,10,11] [8] (O.out (R 0).is) (BS _ _) ?_
 refine gf u1 ?_ o177
 refine Gb (es:=s.stk.map cVal) (fun i c cs U2 am aq=>?_) (fun j o h=>D4 h) (hm:=q0)
 obtain⟨v1,v2⟩:=aq _ _ q1 (hR.ni 0)
 refine gf v1 ?_ o177
 rw[show s.stk.map cVal++[cVal v]=(s.stk++[v]).map cVal by simp]at am
 obtain⟨p1,p2⟩:=hR.put (a:=0) (s':={ s with stk:=s.stk++[v] }) am aq (rCt_0 R _ s _) rfl
 refine fin1 (U':=_) ⟨rfl,_,p1,p2⟩ (hU:=?_)
 simp[AO,Ai]
 exact Sub.refl _
theorem Kn(l:List MVal)(v:MVal)(m:List MVal)(cs:List D):List.take 2 (List.drop (l.length*2) (((l++v::m).map cVal).flatten++cs))=cVal v:=by
 have e:((l++v::m).map cVal).flatten++cs=(l.map cVal).flatten++(cVal v++((m.map cVal).flatten++cs)):=by simp
 have h:(l.map cVal).flatten.length=l.length*2:=by rw[Aw Bm];simp
 rw[e,<-h,List.drop_left];rfl
theorem FE(l:List MVal)(cs:List D):((l.map cVal).flatten++cs).length=l.length*2+cs.length:=by
 rw[List.length_append,Aw Bm];simp
theorem BX(r:List MVal)(v:MVal)(hR:RunS ir p R s O)(hs:s.stk=r++[v])(hn:s.stk.length<=1000000):DCall prog 181 [.ptr ir 0] O fun x U'=>x=.ret (.agg (cVal v)) /\ ∃R',RunS ir p R' { s with stk:=r } U'/\RunK ir R O R' U':=by
 have q1:=hR.obj
 obtain⟨i,c,cs,h0⟩:=hR.row 0 (by rw[rCt,hs];simp)
 have q0:RWAt O 2 (R 0) (s.stk.map cVal):=hR.rows.ok 0
 have ay:=hR.ni 0
 rw[h0,hs]at q0
 rw[h0]at ay
 have hl:s.stk.length=r.length+1:=by rw[hs];simp
 unfold AO at q1
 rw[h0,hl]at q1
 simp only[EC]at q1
 obtain⟨z1,z2,z3,z4⟩:=q0
 have hv:=Kn r v [] cs
 have aY:((List.map cVal (r++[v])).flatten++cs).length=(r.length+1)*2+cs.length:=by rw[FE];simp
 refine en func181 ntmps181 ?_
 refine gz ?_ [] [2]
 refine newV (fun i2 aB=>?_)
 have n1:ir≠i2:=fun e=>by rw[<-e,hR.obj]at aB;cases aB
 have n2:i≠i2:=fun e=>by rw[<-e,z1]at aB;cases aB
 have q2:(O.set i2 (.cells [.int .i64 0,.int .i64 0])) ir=_:=(w7 _ _ n1).trans q1
 have q3:(O.set i2 (.cells [.int .i64 0,.int .i64 0])) i=_:=(w7 _ _ n2).trans z1
 have hr:RWAt O 2 (.row i c (cVal v++cs)) (r.map cVal):=⟨by rw[z1];simp,by rw[<-List.append_assoc];simpa using z2,by simp only[List.length_map,List.length_append,List.length_singleton]at z3⊢; omega,Bm⟩
 generalize (List.map cVal (r++[v])).flatten++cs=L at*
 have aR:r.length*2+2<=L.length:=by omega
 refine gf (gi q1 (gi z1 (gi hv aR))) ?_ [] [2]
 simp only[List.length_map,List.length_append,List.length_singleton]at z3
 refine cutH (i:=i) (off:=0) (len:=r.length+1) (cap:=c) (hi:=r.length) ?_ (by omega)
 refine gf q1 ?_ [] [2]
 obtain⟨p1,p2⟩:=hR.re (a:=0) (s':={ s with stk:=r }) hr (by rw[h0];exact fun j h=>h) (rCt_0 R _ s _) rfl
 refine finC (U':=_) ⟨rfl,_,p1,p2⟩ (hU:=fun j o hj=>?_)
 by_cases e:j=ir
 ·subst e;rw[w6]at hj;rw[w7 _ _ n1,w6,<-hj];rfl
 ·rw[w7 _ _ e]at hj
  have e2:j≠i2:=fun h=>by rw[h,aB]at hj;cases hj
  rw[w7 _ _ e2,w7 _ _ e,w7 _ _ e2];exact hj
end
abbrev Ob(p:BProg)(R:Nat->RW)(s:GoS)(av:D)(b:Bool)(h:GoH):List D:=
 [dI h.kind,dI h.val.kind,dI h.val.n,dI h.gen,av,dI h.fin]++(if b then [dI s.pos,(R 0).d s.stk.length,(R 1).d s.env.length] else [dI 0,.nils,.nils])++[(R 3).d s.objs.length,(R 2).d s.evs.length]++Ai p++[dI s.pos,(R 0).d s.stk.length,(R 1).d s.env.length]
structure HaltS(ir:Nat)(p:BProg)(R:Nat->RW)(s:GoS)(av:D)(b:Bool)(h:GoH)(O:Sig):Prop where
 obj:O ir=some (.cells (Ob p R s av b h))
 rows:Rows O R rSz (rCt R s)
 ni:∀a, ¬(R a).is ir
 nf:∀a es,R a=.full es->es=[]
 args:WkD av (sl (h.args.map cVal))
 objs:h.objs=s.objs
 evs:h.evs=s.evs
 st:if b then h.pos=s.pos/\h.stk=s.stk/\h.env=s.env else h.pos=0/\h.stk=[]/\h.env=[]
section
variable {ir:Nat}{p:BProg}{R:Nat->RW}{s:GoS}{O:Sig}
theorem RunS.halt(h:RunS ir p R s O){av:D}{b:Bool}{k:GoH}{ds:List D}(hd:ds=Ob p R s av b k)(ha:WkD av (sl (k.args.map cVal)))(ho:k.objs=s.objs)(he:k.evs=s.evs)(hs:if b then k.pos=s.pos/\k.stk=s.stk/\k.env=s.env else k.pos=0/\k.stk=[]/\k.env=[]):
  HaltS ir p R s av b k (O.set ir (.cells ds))/\RunK ir R O R (O.set ir (.cells ds)):=
 ⟨⟨by rw[w6,hd],h.rows.keep fun j o hj ⟨b,hb⟩=>by rw[w7 _ _ fun e=>h.ni b (by rw[<-e];exact hb)];exact hj,h.ni,h.nf,ha,ho,he,hs⟩,fun j o hj aw hn=>⟨by rw[w7 _ _ aw];exact hj,hn⟩⟩
theorem rCt_pos(R:Nat->RW)(s:GoS)(q:Int)(b:Nat):rCt R { s with pos:=q } b=rCt R s b:=by
 match b with
 |0=>rfl
 |1=>rfl
 |2=>rfl
 |3=>rfl
 |k+4=>rfl
theorem RunS.at(h:RunS ir p R s O)(q:Int){ds:List D}(hd:ds=AO p R { s with pos:=q }):RunS ir p R { s with pos:=q } (O.set ir (.cells ds))/\RunK ir R O R (O.set ir (.cells ds)):=
 ⟨⟨by rw[w6,hd],(h.rows.retell (rCt_pos R s q)).keep fun j o hj ⟨b,hb⟩=>by rw[w7 _ _ fun e=>h.ni b (by rw[<-e];exact hb)];exact hj,h.ni,h.nf⟩,fun j o hj aw hn=>⟨by rw[w7 _ _ aw];exact hj,hn⟩⟩
theorem TX{ds:List D}{r0 r1:RW}{a:Int}{n m k:Nat}(h:O ir=some (.cells ds))(hl:k+3<=ds.length):DO tab O 34 (.ptr ir k) (.agg [dI a,r0.d n,r1.d m])=some (.any,O.set ir (.cells (ds.take k++[dI a,r0.d n,r1.d m]++ds.drop (k+3)))):=by
 have hf:¬ds.length<k+3:=by omega
 cases r0<;>cases r1<;>simp[DO,h,RW.d,hf]
theorem Kr{ro:Ro}{n:Nat}{ops:Array Oper}{Q:DX->St->Prop}{df:List DDf}{rest:List Oper}{γ Sr:Fr}{ty:TypeId}{pos:String}{after:Array Edge}{x y:Operand}{ds:List D}{r0 r1:RW}{a:Int}{m m' k:Nat}(hc:O ir=some (.cells ds))(h:DOps prog ro n ops Q rest ⟨γ,O.set ir (.cells (ds.take k++[dI a,r0.d m,r1.d m']++ds.drop (k+3))),df⟩)
  (hl:A0 γ (A5 [x,y])=some Sr:=by exact tdR) (h1:ev Sr x=.ptr ir k:=by exact tdR) (h2:ev Sr y=.agg [dI a,r0.d m,r1.d m']:=by exact tdR) (hlen:k+3<=ds.length:=by simp) :
  DOps prog ro n ops Q (⟨none,.store 34 x y,ty,pos,after,none⟩::rest) ⟨γ,O,df⟩:=
 DP Ad (d:=.any) hl (by show DO tab O 34 (ev Sr x) (ev Sr y)=_;rw[h1,h2];exact TX hc hlen) h
theorem Gu(e:Int)(stk:List MVal)(hR:RunS ir p R s O):DCall prog 178 [.ptr ir 0,dI e] O fun x U'=>x=.ret (.bool true)/\HaltS ir p R s .nils false (FO s e stk) U'/\RunK ir R O R U':=by
 have q1:=hR.obj
 refine en func178 ntmps178 ?_
 refine gf q1 ?_
 obtain⟨p1,p2⟩:=hR.halt (av:=.nils) (b:=false) (k:=FO s e stk) rfl (Am _ (.inl rfl)) rfl rfl ⟨rfl,rfl,rfl⟩
 exact fin1 (U':=_) ⟨rfl,p1,p2⟩
theorem T4(x:CIns)(hR:RunS ir p R s O)(hn:s.stk.length<=1000000):DCall prog 105 [.ptr ir 0,.agg (cIns x)] O fun r U'=>r=.ret (.bool false) /\ ∃R',RunS ir p R' { s with stk:=s.stk++[vInt x.a] } U'/\RunK ir R O R' U':=by
 refine en func105 ntmps105 ?_
 refine gz ?_
 refine A7 (Bk (vInt x.a) hR hn) (fun d U1 hr=>?_) (fun d U1 hr=>by cases hr.1)
 obtain⟨hd,hr⟩:=hr
 cases hd
 refine gz ?_
 exact fin1 (U':=U1) ⟨rfl,hr⟩
theorem T3(x:CIns)(hR:RunS ir p R s O)(hn:s.stk.length<=1000000):DCall prog 106 [.ptr ir 0,.agg (cIns x)] O fun r U'=>r=.ret (.bool false) /\ ∃R',RunS ir p R' { s with stk:=s.stk++[E9] } U'/\RunK ir R O R' U':=by
 refine en func106 ntmps106 ?_
 refine gz ?_
 refine A7 (Bk E9 hR hn) (fun d U1 hr=>?_) (fun d U1 hr=>by cases hr.1)
 obtain⟨hd,hr⟩:=hr
 cases hd
 refine gz ?_
 exact fin1 (U':=U1) ⟨rfl,hr⟩
theorem SS(x:CIns)(r:List MVal)(v:MVal)(hR:RunS ir p R s O)(hs:s.stk=r++[v])(hn:s.stk.length<=1000000):DCall prog 116 [.ptr ir 0,.agg (cIns x)] O fun y U'=>y=.ret (.bool false) /\ ∃R',RunS ir p R' { s with stk:=r } U'/\RunK ir R O R' U':=by
 refine en func116 ntmps116 ?_
 refine gz ?_
 refine A7 (BX r v hR hs hn) (fun d U1 hr=>?_) (fun d U1 hr=>by cases hr.1)
 obtain⟨hd,hr⟩:=hr
 cases hd
 refine gz ?_
 exact fin1 (U':=U1) ⟨rfl,hr⟩
theorem SQ(x:CIns)(hR:RunS ir p R s O):DCall prog 118 [.ptr ir 0,.agg (cIns x)] O fun y U'=>y=.ret (.bool false) /\ ∃R',RunS ir p R' { s with pos:=x.a } U'/\RunK ir R O R' U':=by
 have q1:=hR.obj
 refine en func118 ntmps118 ?_
 refine gf q1 ?_
 obtain⟨p1,p2⟩:=hR.at x.a rfl
 exact fin1 (U':=_) ⟨rfl,_,p1,p2⟩
theorem SO(x:CIns)(hR:RunS ir p R s O):DCall prog 120 [.ptr ir 0,.agg (cIns x)] O fun y U'=>y=.ret (.bool true)/\HaltS ir p R s .nils true ⟨3,vZ,0,[],0,s.pos,s.stk,s.env,s.objs,s.evs⟩ U'/\RunK ir R O R U':=by
 have q1:=hR.obj
 refine en func120 ntmps120 ?_
 refine gf q1 ?_
 obtain⟨p1,p2⟩:=hR.halt (av:=.nils) (b:=true) (k:=⟨3,vZ,0,[],0,s.pos,s.stk,s.env,s.objs,s.evs⟩) rfl (Am _ (.inl rfl)) rfl rfl ⟨rfl,rfl,rfl⟩
 refine Kr (w6 ..) ?_
 simp only[Sig.set_set]
 refine gz ?_
 exact fin1 (U':=_) ⟨rfl,p1,p2⟩
theorem rowV{a:Nat}{l:List MVal}(h:RWAt O 2 (R a) (l.map cVal))(hne:R a≠.nil)(hf:∀es,R a=.full es->es=[]){n:Nat}(hn:n<l.length): ∃i c cs,R a=.row i c cs /\ ∃L,O i=some (.cells L)/\n*2+2<=L.length/\List.take 2 (List.drop (n*2) L)=cVal l[n]:=by
 cases hR:R a with
 |nil=>exact absurd hR hne
 |full es=>
  rw[hR]at h
  have:=hf es hR
  subst this
  obtain⟨h1,_⟩:=h
  simp at h1
  rw[h1]at hn
  simp at hn
 |row i c cs=>
  rw[hR]at h
  refine⟨i,c,cs,rfl,_,h.1,by rw[FE];omega,?_⟩
  have e:l=l.take n++l[n]::l.drop (n+1):=by rw[<-Ab hn,List.take_append_drop]
  have hv:=Kn (l.take n) l[n] (l.drop (n+1)) cs
  rw[<-e,List.length_take_of_le (by omega)]at hv
  exact hv
theorem T1(x:CIns)(n:Nat)(hx:x.a=n)(hn:n<s.env.length)(hR:RunS ir p R s O)(hs:s.stk.length<=1000000)(bc:s.env.length<=1000000):DCall prog 107 [.ptr ir 0,.agg (cIns x)] O fun y U'=>y=.ret (.bool false) /\ ∃R',RunS ir p R' { s with stk:=s.stk++[s.env[n]] } U'/\RunK ir R O R' U':=by
 have q1:=hR.obj
 have q0:RWAt O 2 (R 1) (s.env.map cVal):=hR.rows.ok 1
 obtain⟨i,c,cs,h0,L,z1,z2,z3⟩:=rowV q0 (fun e=>by rw[e]at q0;have:s.env.map cVal=[]:=q0;simp at this;rw[this]at hn;simp at hn) (hR.nf 1) hn
 unfold AO at q1
 rw[h0]at q1
 simp only[EC]at q1
 refine en func107 ntmps107 ?_
 refine gz ?_
 refine mixI (id:=1) [0,1,2,3,4,5,6,7,8,9,10,11] [10] [5,9] [10] (fun s=>s=O) rfl ?_
 refine iP _ ?_
 refine iP _ ?_
 refine iP _ ?_
 refine iP _ ?_
 refine iP _ ?_
 refine iR (.sref i 0 s.env.length c) (fun s hs=>?_) ?_
 ·rw[hs];simp[q1]
 refine iP _ ?_
 refine iP (dI n) ?_ (hd:=by rw[<-hx];with_unfolding_all rfl)
 refine iP (.ptr i (n*2)) ?_ (hd:=by simp;omega)
 refine iR (.agg (cVal s.env[n])) (fun s hs=>?_) ?_
 ·rw[hs];simp[z1,z2,z3]
 refine iW (fun _=>True) (Bk s.env[n] hR hs) (fun d U1 hr=>⟨trivial,?_⟩) (fun d U1 hr=>by cases hr.1)
 obtain⟨hd,hr⟩:=hr
 cases hd
 refine iP (.bool false) ?_
 refine iN ?_
 refine gz ?_ o107
 exact fin1 (U':=U1) ⟨rfl,hr⟩
end
section
variable {ir:Nat}{p:BProg}{R:Nat->RW}{s:GoS}{O:Sig}
theorem SR(x:CIns)(r:List MVal)(v:MVal)(hR:RunS ir p R s O)(hs:s.stk=r++[v])(hn:s.stk.length<=1000000):DCall prog 117 [.ptr ir 0,.agg (cIns x)] O fun y U'=>y=.ret (.bool false) /\ ∃R',RunS ir p R' { s with stk:=r,pos:=if AL v=0 then x.a else s.pos } U'/\RunK ir R O R' U':=by
 refine en func117 ntmps117 ?_
 refine gz ?_
 refine A7 (BX r v hR hs hn) (fun d U1 hr=>?_) (fun d U1 hr=>by cases hr.1)
 obtain⟨hd,R1,aa,ae⟩:=hr
 cases hd
 have q1:=aa.obj
 by_cases h:AL v=0
 ·rw[if_pos h]
  refine gf (gi q1 h) ?_
  obtain⟨p1,p2⟩:=aa.at x.a rfl
  exact fin1 (U':=_) ⟨rfl,_,p1,ae.trans p2⟩
 ·rw[if_neg h]
  refine gf (gi q1 h) ?_
  exact fin1 (U':=U1) ⟨rfl,_,aa,ae⟩
theorem SN(x:CIns)(r:List MVal)(v:MVal)(hR:RunS ir p R s O)(hs:s.stk=r++[v])(hn:s.stk.length<=1000000):DCall prog 121 [.ptr ir 0,.agg (cIns x)] O fun y U'=>y=.ret (.bool true) /\ ∃R',HaltS ir p R' { s with stk:=r } .nils false ⟨1,v,0,[],0,0,[],[],s.objs,s.evs⟩ U'/\RunK ir R O R' U':=by
 refine en func121 ntmps121 ?_
 refine gz ?_
 refine A7 (BX r v hR hs hn) (fun d U1 hr=>?_) (fun d U1 hr=>by cases hr.1)
 obtain⟨hd,R1,aa,ae⟩:=hr
 cases hd
 have q1:=aa.obj
 obtain⟨p1,p2⟩:=aa.halt (av:=.nils) (b:=false) (k:=⟨1,v,0,[],0,0,[],[],s.objs,s.evs⟩) rfl (Am _ (.inl rfl)) rfl rfl ⟨rfl,rfl,rfl⟩
 refine gf q1 ?_
 exact fin1 (U':=_) ⟨rfl,_,p1,ae.trans p2⟩
theorem SU(x:CIns)(r:List MVal)(v:MVal)(hR:RunS ir p R s O)(hs:s.stk=r++[v])(hn:s.stk.length<=1000000)(he:s.env.length<=1000000):DCall prog 114 [.ptr ir 0,.agg (cIns x)] O fun y U'=>y=.ret (.bool false) /\ ∃R',RunS ir p R' { s with stk:=r,env:=s.env++[v] } U'/\RunK ir R O R' U':=by
 refine en func114 ntmps114 ?_
 refine gz ?_ o114
 refine A7 (BX r v hR hs hn) (fun d U1 hr=>?_) (fun d U1 hr=>by cases hr.1)
 obtain⟨hd,R1,aa,ae⟩:=hr
 cases hd
 have q1:=aa.obj
 have q0:RWAt U1 2 (R1 1) (s.env.map cVal):=aa.rows.ok 1
 have u1:=D8 q1 (aa.ni 1)
 refine gz ?_
 refine EO (id:=2) [0,1,2,3,4,5,6,7,8,9,10,11] [8] (U1.out (R1 1).is) (BS _ _) ?_
 refine gf u1 ?_ o114
 refine Gb (es:=s.env.map cVal) (fun i c cs U2 am aq=>?_) (fun j o h=>D4 h) (hm:=q0)
 obtain⟨v1,v2⟩:=aq _ _ q1 (aa.ni 1)
 refine gf v1 ?_ o114
 rw[show s.env.map cVal++[cVal v]=(s.env++[v]).map cVal by simp]at am
 obtain⟨p1,p2⟩:=aa.put (a:=1) (s':={ s with stk:=r,env:=s.env++[v] }) am aq (rCt_1 R1 _ { s with stk:=r } _) rfl
 refine fin1 (U':=_) ⟨rfl,_,p1,ae.trans p2⟩ (hU:=?_)
 simp[AO,Ai]
 exact Sub.refl _
theorem ST(x:CIns)(r:List MVal)(v:MVal)(hR:RunS ir p R s O)(hs:s.env=r++[v])(hn:s.env.length<=1000000):DCall prog 115 [.ptr ir 0,.agg (cIns x)] O fun y U'=>y=.ret (.bool false) /\ ∃R',RunS ir p R' { s with env:=r } U'/\RunK ir R O R' U':=by
 have q1:=hR.obj
 obtain⟨i,c,cs,h0⟩:=hR.row 1 (by rw[rCt,hs];simp)
 have q0:RWAt O 2 (R 1) (s.env.map cVal):=hR.rows.ok 1
 rw[h0,hs]at q0
 have hl:s.env.length=r.length+1:=by rw[hs];simp
 unfold AO at q1
 rw[h0,hl]at q1
 simp only[EC]at q1
 obtain⟨z1,z2,z3,z4⟩:=q0
 have hr:RWAt O 2 (.row i c (cVal v++cs)) (r.map cVal):=⟨by rw[z1];simp,by rw[<-List.append_assoc];simpa using z2,by simp only[List.length_map,List.length_append,List.length_singleton]at z3⊢; omega,Bm⟩
 simp only[List.length_map,List.length_append,List.length_singleton]at z3
 refine en func115 ntmps115 ?_
 refine gz ?_
 refine EO (id:=1) [0,1,2,3,4,5,6,7,8,9,10,11,12,13,14,15,16] [] O (Sub.refl _) ?_
 refine gf q1 ?_ o115
 refine QJ Ad (i:=i) (off:=0) (len:=r.length+1) (cap:=c) (hi:=r.length) (e:=40) (k:=.i64) ?_ (by decide) (by simp<;>rfl) (by simp) tdR tdR (by omega)
 refine gf q1 ?_ o115
 obtain⟨p1,p2⟩:=hR.re (a:=1) (s':={ s with env:=r }) hr (by rw[h0];exact fun j h=>h) (rCt_1 R _ s _) rfl
 exact fin1 (U':=_) ⟨rfl,_,p1,p2⟩
theorem VK(n:Int):(if 1000000000<(if n < -1000000000 then -1000000000 else n) then(1000000000:Int) else if n < -1000000000 then -1000000000 else n)=DD n:=by
 unfold DD;rw[Int.min_def,Int.max_def];split<;>split<;>(repeat' split)<;>omega
theorem VJ(b:Bool):DD (Dv b)=Dv b:=by cases b<;>rfl
theorem mul_bnd{a b:Int}(ha : -1000000000<=a/\a<=1000000000)(hb : -1000000000<=b/\b<=1000000000): -1000000000000000000<=a*b/\a*b<=1000000000000000000:=by
 have h:=Int.natAbs_mul a b
 have h2:a.natAbs*b.natAbs<=1000000000*1000000000:=Nat.mul_le_mul (by omega) (by omega)
 omega
theorem SV(x:CIns)(r:List MVal)(v w:MVal)(hx:9<=x.op/\x.op<=13)(hR:RunS ir p R s O)(hs:s.stk=r++[v,w])(hn:s.stk.length<=1000000)(hv : -1000000000<=AL v/\AL v<=1000000000)(hw : -1000000000<=AL w/\AL w<=1000000000):DCall prog 113 [.ptr ir 0,.agg (cIns x)] O fun y U'=>y=.ret (.bool false) /\ ∃R',RunS ir p R' { s with stk:=r++[GG x.op v w] } U'/\RunK ir R O R' U':=by
 refine en func113 ntmps113 ?_
 refine gz ?_ o113
 refine A7 (BX (r++[v]) w hR (by rw[hs];simp) hn) (fun d U1 hr=>?_) (fun d U1 hr=>by cases hr.1)
 obtain⟨hd,R1,aa,ae⟩:=hr
 cases hd
 have hl:s.stk.length=r.length+2:=by rw[hs];simp
 refine gz ?_ o113
 refine A7 (BX r v aa rfl (by simp;omega)) (fun d U2 hr=>?_) (fun d U2 hr=>by cases hr.1)
 obtain⟨hd,R2,aC,aD⟩:=hr
 cases hd
 have aZ:=mul_bnd hv hw
 have aQ:IntKind.i64.wrap (AL v*AL w)=AL v*AL w:=At (by omega) (by omega)
 repeat' first|refine gz ?_ o113|apply gy<;>intro hh
 rotate_left 4
 ·refine eqlS _ (decide (v=w)) Ot O6 (V8 v w) ?_
  refine gz ?_ o113
  simp only[VK,VJ]
  have e:GG x.op v w=vInt (Dv (decide (v=w))):=by unfold GG;rw[if_neg (by assumption),if_neg (by assumption),if_neg (by assumption),if_neg (by assumption)]
  rw[e]
  refine A7 (Bk (vInt (Dv (decide (v=w)))) aC (by simp;omega)) (fun d S3 hr=>?_) (fun d S3 hr=>by cases hr.1)
  obtain⟨hd,R3,ah,ai⟩:=hr
  cases hd
  refine gz ?_ o113
  exact fin1 (U':=S3) ⟨rfl,R3,ah,(ae.trans aD).trans ai⟩
 all_goals
  simp only[aQ,VK,VJ]
 ·have e:GG x.op v w=vInt (DD (AL v+AL w)):=by unfold GG;rw[if_pos (by assumption)]
  rw[e]
  refine A7 (Bk (vInt (DD (AL v+AL w))) aC (by simp;omega)) (fun d S3 hr=>?_) (fun d S3 hr=>by cases hr.1)
  obtain⟨hd,R3,ah,ai⟩:=hr
  cases hd
  refine gz ?_ o113
  exact fin1 (U':=S3) ⟨rfl,R3,ah,(ae.trans aD).trans ai⟩
 ·have e:GG x.op v w=vInt (DD (AL v-AL w)):=by unfold GG;rw[if_neg (by assumption),if_pos (by assumption)]
  rw[e]
  refine A7 (Bk (vInt (DD (AL v-AL w))) aC (by simp;omega)) (fun d S3 hr=>?_) (fun d S3 hr=>by cases hr.1)
  obtain⟨hd,R3,ah,ai⟩:=hr
  cases hd
  refine gz ?_ o113
  exact fin1 (U':=S3) ⟨rfl,R3,ah,(ae.trans aD).trans ai⟩
 ·have e:GG x.op v w=vInt (DD (AL v*AL w)):=by unfold GG;rw[if_neg (by assumption),if_neg (by assumption),if_pos (by assumption)]
  rw[e]
  refine A7 (Bk (vInt (DD (AL v*AL w))) aC (by simp;omega)) (fun d S3 hr=>?_) (fun d S3 hr=>by cases hr.1)
  obtain⟨hd,R3,ah,ai⟩:=hr
  cases hd
  refine gz ?_ o113
  exact fin1 (U':=S3) ⟨rfl,R3,ah,(ae.trans aD).trans ai⟩
 ·have e:GG x.op v w=vInt (Dv (decide (AL v<AL w))):=by unfold GG;rw[if_neg (by assumption),if_neg (by assumption),if_neg (by assumption),if_pos (by assumption)]
  rw[e]
  refine A7 (Bk (vInt (Dv (decide (AL v<AL w)))) aC (by simp;omega)) (fun d S3 hr=>?_) (fun d S3 hr=>by cases hr.1)
  obtain⟨hd,R3,ah,ai⟩:=hr
  cases hd
  refine gz ?_ o113
  exact fin1 (U':=S3) ⟨rfl,R3,ah,(ae.trans aD).trans ai⟩
end
def frV(l:List Init)(s:Int):MVal:=match l.find? (fun i=>decide (i.slot=s))with
 |some i=>vInt i.n
 |none=>E9
def A2(p:BProg):CWorld:=⟨fun c=>ownF p c&&okP p,hasP p,fun c=>(hasP p c).map (frV (E5 p c))⟩
theorem A3(S:Nat->RW)(l:List MThing):(tCells S l).length=l.length:=by unfold tCells;simp
theorem Bz(S:Nat->RW)(l:List MThing)(k:Nat)(h:k<l.length):(tCells S l)[k]? = some [dI (l[k]).cls,(S k).d (l[k]).slots.length]:=by
 unfold tCells;rw[List.getElem?_mapIdx,List.getElem?_eq_getElem h];rfl
theorem CP{S:Nat->RW}{l:List MThing}: ∀c∈tCells S l,c.length=2:=fun c h=>by
 obtain⟨k,hk⟩:=List.getElem?_of_mem h
 have hl:=(List.getElem?_eq_some_iff.1 hk).1
 rw[A3]at hl
 rw[Bz S l k hl]at hk
 cases hk;rfl
theorem Oc{es:List (List D)}(h2:∀c∈es,c.length=2){k:Nat}{a b:D}(hk:es[k]? = some [a,b])(cs:List D):(es.flatten++cs)[k*2]? = some a/\(es.flatten++cs)[k*2+1]? = some b:=by
 have hl:=(List.getElem?_eq_some_iff.1 hk).1
 have e:es=es.take k++[a,b]::es.drop (k+1):=by
  have:=(List.getElem?_eq_some_iff.1 hk).2
  rw[<-this,<-Ab hl,List.take_append_drop]
 have hf:(es.take k).flatten.length=k*2:=by rw[Aw fun c hc=>h2 c (List.mem_of_mem_take hc),List.length_take_of_le (by omega)]
 rw[e,List.flatten_append,List.flatten_cons]
 simp only[List.append_assoc]
 constructor
 ·rw[List.getElem?_append_right (by omega),hf,Nat.sub_self];rfl
 ·rw[List.getElem?_append_right (by omega),hf,show k*2+1-k*2=1 by omega];rfl
section
variable {ir:Nat}{p:BProg}{R:Nat->RW}{s:GoS}{O:Sig}{v:MVal}
theorem Ma(v:MVal)(x:Int)(hp:p.wt<=1073741824)(hR:RunS ir p R s O)(hv:okV s.objs.length v=true)(ho:Bc (A2 p) s.objs=true):
  DCall prog 180 [.ptr ir 0,.agg (cVal v),dI x] O fun y U'=>U'=O/\((Be (A2 p) s.objs v x<0/\y=.ret .nilp)\/(0<=Be (A2 p) s.objs v x/\v.kind=3 /\ ∃i c cs,R (v.n.toNat+4)=.row i c cs/\y=.ret (.ptr i ((Be (A2 p) s.objs v x).toNat*2)))):=by
 have q1:=hR.obj
 by_cases h3:v.kind=3
 rotate_left
 ·have hn:Be (A2 p) s.objs v x<0:=by unfold Be;rw[if_neg h3];omega
  refine en func180 ntmps180 ?_
  refine gf h3 ?_ o180
  exact fin1 (U':=O) ⟨rfl,.inl ⟨hn,rfl⟩⟩
 obtain⟨w1,w2,w3⟩:=Fe ho hv h3
 obtain⟨u1,u2,u3⟩:=(BA.1 ho).2 _ w1
 obtain⟨n,hn⟩:∃n:Nat,v.n=n:=⟨v.n.toNat,by omega⟩
 have ag:n<s.objs.length:=by omega
 have ax:CV s.objs v.n=s.objs[n]:=by unfold CV;rw[hn,Int.toNat_natCast,List.getElem?_eq_getElem ag];rfl
 rw[ax]at u1 u2 u3
 have aE:Be (A2 p) s.objs v x=idxG x (hasP p (s.objs[n]).cls) 0:=by unfold Be;rw[if_pos h3,ax];rfl
 rw[aE]
 obtain⟨i,c,cs,h0⟩:=hR.row 3 (fun e=>by rw[rCt]at e;have:=congrArg List.length e;rw[A3]at this;simp at this;rw[this]at ag;simp at ag)
 have q0:=hR.rows.ok 3
 rw[h0]at q0
 obtain⟨z1,z2,z3,z4⟩:=q0
 obtain⟨y1,y2⟩:=Oc (CP (S:=fun k=>R (k+4)) (l:=s.objs)) (Bz _ _ n ag) cs
 rw[show rCt R s 3=tCells (fun k=>R (k+4)) s.objs from rfl]at z1
 generalize (tCells (fun k=>R (k+4)) s.objs).flatten++cs=L at*
 unfold AO at q1
 rw[h0]at q1
 simp only[EC]at q1
 have aA:(ownF p (s.objs[n]).cls&&okP p)=true:=u1
 have ba:(hasP p (s.objs[n]).cls).length<=1073741824:=by have a:=Ci p (s.objs[n]).cls;have b:=E6 p;omega
 have aH:(s.objs[n]).slots.length=(hasP p (s.objs[n]).cls).length:=u2
 by_cases aJ:idxG x (hasP p (s.objs[n]).cls) 0<0
 ·refine en func180 ntmps180 ?_
  refine gf (gi q1 (gi z1 (gi hn (gi y1 (gi y2 aA))))) ?_ o180
  exact fin1 (U':=O) ⟨rfl,.inl ⟨aJ,rfl⟩⟩
 ·obtain⟨m1,m2⟩:=H4 (s:=x) (hasP p (s.objs[n]).cls) 0 (by omega)
  obtain⟨k,hk⟩:∃k:Nat,idxG x (hasP p (s.objs[n]).cls) 0=k:=⟨(idxG x (hasP p (s.objs[n]).cls) 0).toNat,by omega⟩
  have ak:rCt R s (n+4)=(s.objs[n]).slots.map cVal:=by show(((s.objs[n]?).getD ⟨0,[]⟩).slots.map cVal)=_;rw[List.getElem?_eq_getElem ag];rfl
  obtain⟨j,cj,csj,hj⟩:=hR.row (n+4) (fun e=>by rw[ak]at e;have:=congrArg List.length e;simp at this;rw[this]at aH;simp at aH;omega)
  rw[hj]at y2
  simp only[EC]at y2
  rw[hk]at m2
  refine en func180 ntmps180 ?_
  refine gf (gi q1 (gi z1 (gi hn (gi y1 (gi y2 (gi aA hk)))))) ?_ o180
  refine fin1 (U':=O) ⟨rfl,.inr ⟨by omega,h3,j,cj,csj,by rw[hn];exact hj,?_⟩⟩
  rw[hk];rfl
theorem Qc(hR:RunS ir p R s O)(hv:okV s.objs.length v=true)(ho:Bc (A2 p) s.objs=true){x:Int}(h0:0<=Be (A2 p) s.objs v x)(h3:v.kind=3){i c:Nat}{cs:List D}(hi:R (v.n.toNat+4)=.row i c cs):
  ∃n k:Nat,v.n=n/\Be (A2 p) s.objs v x=k /\ ∃(hn:n<s.objs.length) (hk:k<(s.objs[n]).slots.length),CV s.objs v.n=s.objs[n] /\ ∃L,L=((s.objs[n]).slots.map cVal).flatten++cs/\O i=some (.cells L)/\k*2+2<=L.length/\List.take 2 (List.drop (k*2) L)=cVal ((s.objs[n]).slots[k]):=by
 obtain⟨w1,w2,w3⟩:=Fe ho hv h3
 obtain⟨u1,u2,u3⟩:=(BA.1 ho).2 _ w1
 obtain⟨n,hn⟩:∃n:Nat,v.n=n:=⟨v.n.toNat,by omega⟩
 have ag:n<s.objs.length:=by omega
 have ax:CV s.objs v.n=s.objs[n]:=by unfold CV;rw[hn,Int.toNat_natCast,List.getElem?_eq_getElem ag];rfl
 rw[ax]at u1 u2 u3
 have aE:Be (A2 p) s.objs v x=idxG x (hasP p (s.objs[n]).cls) 0:=by unfold Be;rw[if_pos h3,ax];rfl
 have aH:(s.objs[n]).slots.length=(hasP p (s.objs[n]).cls).length:=u2
 obtain⟨m1,m2⟩:=H4 (s:=x) (hasP p (s.objs[n]).cls) 0 (by omega)
 obtain⟨k,hk⟩:∃k:Nat,idxG x (hasP p (s.objs[n]).cls) 0=k:=⟨(idxG x (hasP p (s.objs[n]).cls) 0).toNat,by omega⟩
 rw[hk]at m2 aE
 have ap:k<(s.objs[n]).slots.length:=by omega
 have ak:rCt R s (n+4)=(s.objs[n]).slots.map cVal:=by show(((s.objs[n]?).getD ⟨0,[]⟩).slots.map cVal)=_;rw[List.getElem?_eq_getElem ag];rfl
 have q:=hR.rows.ok (n+4)
 rw[show n=v.n.toNat by omega,hi]at q
 have z:=q.1
 rw[show v.n.toNat=n by omega,ak]at z
 refine⟨n,k,hn,aE,ag,ap,ax,_,rfl,z,by rw[FE];omega,?_⟩
 have e:(s.objs[n]).slots=(s.objs[n]).slots.take k++(s.objs[n]).slots[k]::(s.objs[n]).slots.drop (k+1):=by rw[<-Ab ap,List.take_append_drop]
 have hv:=Kn ((s.objs[n]).slots.take k) (s.objs[n]).slots[k] ((s.objs[n]).slots.drop (k+1)) cs
 rw[<-e,List.length_take_of_le (by omega)]at hv
 exact hv
theorem SZ(x:CIns)(r:List MVal)(v:MVal)(hp:p.wt<=1073741824)(hR:RunS ir p R s O)(hs:s.stk=r++[v])(hn:s.stk.length<=1000000)(hv:okV s.objs.length v=true)(ho:Bc (A2 p) s.objs=true):DCall prog 109 [.ptr ir 0,.agg (cIns x)] O fun y U'=> ∃R',RunK ir R O R' U' /\
  if Be (A2 p) s.objs v x.a<0 then y=.ret (.bool true)/\HaltS ir p R' { s with stk:=r } .nils false (FO s 5 r) U' else y=.ret (.bool false)/\RunS ir p R' { s with stk:=r++[((CV s.objs v.n).slots[(Be (A2 p) s.objs v x.a).toNat]?).getD vZ] } U':=by
 have hl:s.stk.length=r.length+1:=by rw[hs];simp
 refine en func109 ntmps109 ?_
 refine gz ?_
 refine Ij (id:=1) [0,1,3,4,2,5,6] [2,5] (fun _=>none) (fun _ _ h=>by cases h) ?_
 refine gz ?_ o109
 refine BG (BX r v hR hs hn) (fun d U1 hr=>?_) (fun d U1 hr=>by cases hr.1)
 obtain⟨hd,R1,aa,ae⟩:=hr
 cases hd
 refine⟨(fun _ _ h=>by cases h),?_⟩
 refine BG (Ma v x.a hp aa hv ho) (fun d U2 hr=>?_) (fun d U2 hr=>by rcases hr.2 with⟨_,h⟩|⟨_,_,_,_,_,_,h⟩<;>cases h)
 obtain⟨rfl,hr⟩:=hr
 refine⟨(fun _ _ h=>by cases h),?_⟩
 rcases hr with⟨h0,hd⟩|⟨h0,h3,i,c,cs,hi,hd⟩
 ·cases hd
  refine gz ?_ o109
  refine A7 (Gu 5 r aa) (fun d S3 hr=>?_) (fun d S3 hr=>by cases hr.1)
  obtain⟨hd,h1,h2⟩:=hr
  cases hd
  refine gz ?_ o109
  exact fin1 (U':=S3) ⟨R1,ae.trans h2,by rw[if_pos h0];exact⟨rfl,h1⟩⟩
 ·obtain⟨n,k,e1,e2,ag,ap,e3,L,hL,z1,z2,z3⟩:=Qc aa hv ho h0 h3 hi
  have e4:Be (A2 p) s.objs v x.a=k:=e2
  obtain rfl:d=.ptr i (k*2):=by cases hd;show D.ptr i ((Be (A2 p) s.objs v x.a).toNat*2)=_;rw[e4];rfl
  have e5:((CV s.objs v.n).slots[(Be (A2 p) s.objs v x.a).toNat]?).getD vZ=(s.objs[n]'ag).slots[k]'ap:=by
   rw[e4,show CV s.objs v.n=s.objs[n]'ag from e3,Int.toNat_natCast,List.getElem?_eq_getElem ap];rfl
  refine gf (gi z1 (gi z2 z3)) ?_ o109
  refine A7 (Bk ((s.objs[n]'ag).slots[k]'ap) aa (by simp;omega)) (fun d S3 hr=>?_) (fun d S3 hr=>by cases hr.1)
  obtain⟨hd,R3,ah,ai⟩:=hr
  cases hd
  refine gz ?_ o109
  exact fin1 (U':=S3) ⟨R3,ae.trans ai,by rw[if_neg (by omega),e5];exact⟨rfl,ah⟩⟩
end
theorem PY(l:List MVal)(k:Nat)(hk:k<l.length)(v:MVal)(cs:List D):List.take (k*2) ((l.map cVal).flatten++cs)++cVal v++List.drop (k*2+2) ((l.map cVal).flatten++cs)=((l.set k v).map cVal).flatten++cs:=by
 have e:l=l.take k++l[k]::l.drop (k+1):=by rw[<-Ab hk,List.take_append_drop]
 have h:((l.take k).map cVal).flatten.length=k*2:=by rw[Aw Bm];simp;omega
 have hs:l.set k v=l.take k++v::l.drop (k+1):=by rw[List.set_eq_take_append_cons_drop,if_pos hk]
 have e2:(l.map cVal).flatten++cs=((l.take k).map cVal).flatten++(cVal l[k]++(((l.drop (k+1)).map cVal).flatten++cs)):=by
  calc _=((l.take k++l[k]::l.drop (k+1)).map cVal).flatten++cs:=by rw[<-e]
   _=_:=by rw[List.map_append,List.map_cons,List.flatten_append,List.flatten_cons];simp only[List.append_assoc]
 have e3:((l.set k v).map cVal).flatten++cs=((l.take k).map cVal).flatten++(cVal v++(((l.drop (k+1)).map cVal).flatten++cs)):=by
  rw[hs,List.map_append,List.map_cons,List.flatten_append,List.flatten_cons];simp only[List.append_assoc]
 rw[e2,e3,<-h,List.take_left,<-List.drop_drop,List.drop_left,List.append_assoc]
 rfl
section
variable {ir:Nat}{p:BProg}{R:Nat->RW}{s:GoS}{O:Sig}
theorem OU(S:Nat->RW)(l:List MThing)(n:Nat)(hn:n<l.length)(x:MThing)(hc:x.cls=(l[n]).cls)(hl:x.slots.length=(l[n]).slots.length):tCells S (l.set n x)=tCells S l:=by
 refine List.ext_getElem? fun k=>?_
 by_cases hk:k<l.length
 ·rw[Bz S (l.set n x) k (by simpa using hk),Bz S l k hk]
  by_cases e:k=n
  ·subst e;rw[List.getElem_set_self,hc,hl]
  ·rw[List.getElem_set_ne (fun h=>e h.symm)]
 ·rw[List.getElem?_eq_none (by rw[A3];simp;omega),List.getElem?_eq_none (by rw[A3];omega)]
theorem RunS.slot(h:RunS ir p R s O){n k:Nat}(hn:n<s.objs.length)(hk:k<(s.objs[n]).slots.length){i c:Nat}{cs:List D}(hi:R (n+4)=.row i c cs)(v:MVal){L:List D}(hL:L=((s.objs[n]).slots.map cVal).flatten++cs):
  RunS ir p R { s with objs:=s.objs.set n ⟨(s.objs[n]).cls,(s.objs[n]).slots.set k v⟩ } (O.set i (.cells (L.take (k*2)++cVal v++L.drop (k*2+2))))/\RunK ir R O R (O.set i (.cells (L.take (k*2)++cVal v++L.drop (k*2+2)))):=by
 subst hL
 rw[PY _ k hk v cs]
 have aM:(R (n+4)).is i:=by rw[hi];rfl
 have ay:ir≠i:=fun e=>h.ni (n+4) (e ▸ aM)
 have ak:rCt R s (n+4)=(s.objs[n]).slots.map cVal:=by show(((s.objs[n]?).getD ⟨0,[]⟩).slots.map cVal)=_;rw[List.getElem?_eq_getElem hn];rfl
 have q:=h.rows.ok (n+4)
 rw[hi,ak]at q
 obtain⟨z1,z2,z3,z4⟩:=q
 refine⟨⟨?_,⟨fun a=>?_,h.rows.dj⟩,h.ni,h.nf⟩,fun j o hj _ aN=>⟨by rw[w7 _ _ fun e=>aN (n+4) (by rw[e];exact aM)];exact hj,aN⟩⟩
 ·rw[w7 _ _ ay,h.obj]
  simp[AO]
 ·by_cases ea:a=n+4
  ·subst ea
   have e:rCt R { s with objs:=s.objs.set n ⟨(s.objs[n]).cls,(s.objs[n]).slots.set k v⟩ } (n+4)=((s.objs[n]).slots.set k v).map cVal:=by
    show((((s.objs.set n _)[n]?).getD ⟨0,[]⟩).slots.map cVal)=_
    rw[List.getElem?_set_self hn];rfl
   rw[hi,e]
   refine⟨by rw[w6],?_,by simpa using z3,Bm⟩
   have a1:=FE (s.objs[n]).slots cs
   have a2:=FE ((s.objs[n]).slots.set k v) cs
   rw[List.length_set]at a2
   exact le_of_le_of_eq z2 (a1.trans a2.symm)
  ·have e:rCt R { s with objs:=s.objs.set n ⟨(s.objs[n]).cls,(s.objs[n]).slots.set k v⟩ } a=rCt R s a:=by
    match a with
    |0=>rfl
    |1=>rfl
    |2=>rfl
    |3=>exact OU _ _ n hn _ rfl (by simp)
    |m+4=>
     show((((s.objs.set n _)[m]?).getD ⟨0,[]⟩).slots.map cVal)=((((s.objs)[m]?).getD ⟨0,[]⟩).slots.map cVal)
     rw[List.getElem?_set_ne (by omega)]
   rw[e]
   exact(h.rows.ok a).keep fun j o hj aT=>by rw[w7 _ _ fun e2=>ea (h.rows.dj a (n+4) j aT (by rw[e2];exact aM))];exact hj
theorem SW(x:CIns)(r:List MVal)(w v:MVal)(hp:p.wt<=1073741824)(hR:RunS ir p R s O)(hs:s.stk=r++[w,v])(hn:s.stk.length<=1000000)(hv:okV s.objs.length w=true)(ho:Bc (A2 p) s.objs=true):DCall prog 112 [.ptr ir 0,.agg (cIns x)] O fun y U'=> ∃R',RunK ir R O R' U' /\
  if Be (A2 p) s.objs w x.a<0 then y=.ret (.bool true)/\HaltS ir p R' { s with stk:=r } .nils false (FO s 5 (r++[w])) U' else
   y=.ret (.bool false)/\RunS ir p R' { s with objs:=setObj s.objs w.n ⟨(CV s.objs w.n).cls,(CV s.objs w.n).slots.set (Be (A2 p) s.objs w x.a).toNat v⟩,stk:=r++[v] } U':=by
 have hl:s.stk.length=r.length+2:=by rw[hs];simp
 refine en func112 ntmps112 ?_
 refine gz ?_ o112
 refine A7 (BX (r++[w]) v hR (by rw[hs];simp) hn) (fun d S0 hr=>?_) (fun d S0 hr=>by cases hr.1)
 obtain⟨hd,R0,aX,aO⟩:=hr
 cases hd
 refine gz ?_
 refine Ij (id:=2) [0,1,3,4,2,5,6] [2,5] (fun _=>none) (fun _ _ h=>by cases h) ?_
 refine gz ?_ o112
 refine BG (BX r w aX rfl (by simp;omega)) (fun d U1 hr=>?_) (fun d U1 hr=>by cases hr.1)
 obtain⟨hd,R1,aa,ae⟩:=hr
 cases hd
 refine⟨(fun _ _ h=>by cases h),?_⟩
 refine BG (Ma w x.a hp aa hv ho) (fun d U2 hr=>?_) (fun d U2 hr=>by rcases hr.2 with⟨_,h⟩|⟨_,_,_,_,_,_,h⟩<;>cases h)
 obtain⟨rfl,hr⟩:=hr
 refine⟨(fun _ _ h=>by cases h),?_⟩
 rcases hr with⟨h0,hd⟩|⟨h0,h3,i,c,cs,hi,hd⟩
 ·cases hd
  refine gz ?_ o112
  refine A7 (Gu 5 (r++[w]) aa) (fun d S3 hr=>?_) (fun d S3 hr=>by cases hr.1)
  obtain⟨hd,h1,h2⟩:=hr
  cases hd
  refine gz ?_ o112
  exact fin1 (U':=S3) ⟨R1,(aO.trans ae).trans h2,by rw[if_pos h0];exact⟨rfl,h1⟩⟩
 ·obtain⟨n,k,e1,e2,ag,ap,e3,L,hL,z1,z2,z3⟩:=Qc aa hv ho h0 h3 hi
  have e4:Be (A2 p) s.objs w x.a=k:=e2
  obtain rfl:d=.ptr i (k*2):=by cases hd;show D.ptr i ((Be (A2 p) s.objs w x.a).toNat*2)=_;rw[e4];rfl
  have aU:R1 (n+4)=.row i c cs:=by rw[<-hi,e1];rfl
  obtain⟨p1,p2⟩:=aa.slot ag ap aU v hL
  have hf:¬L.length<k*2+2:=by omega
  rw[List.append_assoc]at p1 p2
  have e5:setObj s.objs w.n ⟨(CV s.objs w.n).cls,(CV s.objs w.n).slots.set (Be (A2 p) s.objs w x.a).toNat v⟩=s.objs.set n ⟨(s.objs[n]'ag).cls,(s.objs[n]'ag).slots.set k v⟩:=by
   unfold setObj
   rw[e4,show CV s.objs w.n=s.objs[n]'ag from e3,e1];rfl
  refine gf (gi z1 hf) ?_ o112
  refine A7 (Bk v p1 (by simp;omega)) (fun d S3 hr=>?_) (fun d S3 hr=>by cases hr.1)
  obtain⟨hd,R3,ah,ai⟩:=hr
  cases hd
  refine gz ?_ o112
  exact fin1 (U':=S3) ⟨R3,((aO.trans ae).trans p2).trans ai,by rw[if_neg (by omega),e5];exact⟨rfl,ah⟩⟩
theorem SX(x:CIns)(r:List MVal)(v:MVal)(hR:RunS ir p R s O)(hs:s.stk=r++[v])(hn:s.stk.length<=1000000)(he:s.evs.length<=1000000):DCall prog 111 [.ptr ir 0,.agg (cIns x)] O fun y U'=>y=.ret (.bool false) /\ ∃R',RunS ir p R' { s with evs:=s.evs++[⟨2,0,[v]⟩],stk:=r++[v] } U'/\RunK ir R O R' U':=by
 have hl:s.stk.length=r.length+1:=by rw[hs];simp
 refine en func111 ntmps111 ?_
 refine gz ?_ o111
 refine A7 (BX r v hR hs hn) (fun d U1 hr=>?_) (fun d U1 hr=>by cases hr.1)
 obtain⟨hd,R1,aa,ae⟩:=hr
 cases hd
 have q1:=aa.obj
 have q0:RWAt U1 3 (R1 2) (s.evs.map cEv):=aa.rows.ok 2
 have u1:=D8 q1 (aa.ni 2)
 refine gz ?_
 refine EO (id:=2) [0,1,2,3,4,5,6,7,8,9,10,11,12,13] [10] (U1.out (R1 2).is) (BS _ _) ?_
 refine gf u1 ?_ o111
 refine Gb (es:=s.evs.map cEv) (fun i c cs U2 am aq=>?_) (fun j o h=>D4 h) (hm:=q0)
 obtain⟨v1,v2⟩:=aq _ _ q1 (aa.ni 2)
 refine gf v1 ?_ o111
 rw[show s.evs.map cEv++[[D.int .i64 2,D.int .i64 0,.slice [cVal v] .clip]]=(s.evs++[(⟨2,0,[v]⟩:MEv)]).map cEv by simp[cEv]]at am
 obtain⟨p1,p2⟩:=aa.put (a:=2) (s':={ s with stk:=r,evs:=s.evs++[⟨2,0,[v]⟩] }) am aq (rCt_2 R1 _ { s with stk:=r } _) rfl
 refine drp (U2.set ir (.cells (AO p (updF R1 2 (.row i c cs)) { s with stk:=r,evs:=s.evs++[⟨2,0,[v]⟩] }))) ?_ (by simp[AO,Ai];exact Sub.refl _)
 refine A7 (Bk v p1 (by simp;omega)) (fun d S3 hr=>?_) (fun d S3 hr=>by cases hr.1)
 obtain⟨hd,R3,ah,ai⟩:=hr
 cases hd
 refine gz ?_ o111
 exact fin1 (U':=S3) ⟨rfl,R3,ah,(ae.trans p2).trans ai⟩
end
section
variable {ro:Ro}{n:Nat}{ops:Array Oper}{N:Nat}{B:Sig->Prop}{Q:DX->St->Prop}{df:List DDf}{rest:List Oper}{γ Sr:List (Nat×D)}{O:Sig}{t:Nat}{ty:TypeId}{pos:String}{after:Array Edge}{e1 c1 k1:Bool}{l:List (Bool×Bool×Bool×Oper)}
theorem Qg{g:G}{w:Go.World}{T e i off len cap:Nat}{k:IntKind}{v u:Value}(hk:(tab T).k=.slice e)(he:A1 (tab e).k=false)(hv:Rep g (.sref i off len cap) v)(hu:Rep g (.int k cap) u)(aK:cap<=len):
  ∃r,(Instr.sliceAt T v (some u) none none).run prog w=.ok r w/\Rep g (.sref i off (len-cap) 0) r:=by
 obtain⟨b,hb,rfl⟩:=hv
 obtain rfl:=AQ hu
 refine⟨_,?_,Kz (len:=len-cap) (cap:=0) (off:=off) hb⟩
 have hu:=AJ Ad hk
 have c1:(0:Int)<=(cap:Int):=by omega
 have c2:(cap:Int)<=(len:Int):=by omega
 simp only[Option.map_some,Instr.sliceAt,Instr.slice,Instr.sliceBounds,Instr.sliceBound,asIntOf,Sem.run_bind,Sem.run_pure,Result.andThen_ok,run_underlying hu,c1,c2,and_self,if_true,Az (Ad e) (Ae he),Int.toNat_natCast,Nat.sub_self]
theorem iCutL{T e i off len cap lo:Nat}{k:IntKind}{x y:Operand}(h:∀off',(cap=lo/\off'=off\/lo<cap/\off'=off+lo*(tab e).size)->MOI prog ro n ops N Q df l B ((t,.sref i off' (len-lo) (cap-lo))::γ) O)(hB:B O)(aK:lo<=len)(a8:len<=cap)
  (hl:A0 γ (A5 [x,y])=some Sr:=by exact tdR) (h1:ev Sr x=.sref i off len cap:=by exact tdR) (h2:ev Sr y=.int k lo:=by exact tdR) (hk:(tab T).k=.slice e:=by(simp<;>rfl)) (he:A1 (tab e).k=false:=by simp) (aj:decide (t<n)=true:=by exact tdR) :
  MOI prog ro n ops N Q df ((true,c1,k1,⟨some t,.slice T x (some y) none none,ty,pos,after,none⟩)::l) B γ O:=by
 refine moI_1 B (fun _=>rfl) (fun V2 hx=>?_) aj (by rw[Af];rfl)
 obtain⟨e1,e2⟩:=evs hl
 have g1:ev V2 x=.sref i off len cap:=by rw[hx x (by simp[Op.operands]),<-e1,h1]
 have g2:ev V2 y=.int k lo:=by rw[hx y (by simp[Op.operands]),<-e2,h2]
 refine Bx (fun d U'=>(∃off',(cap=lo/\off'=off\/lo<cap/\off'=off+lo*(tab e).size)/\d=.sref i off' (len-lo) (cap-lo))/\U'=O) rfl (fun c e=>by cases e) (Aa fun c e=>by cases e) (by simp only[Ar];exact aj) ?_
  (fun d U' ⟨⟨o,a1,a2⟩,a3⟩=>by
   subst a2 a3
   refine Au ⟨rfl,?_⟩
   exact⟨hB,by simp only[putD,A4,if_true];exact h o a1⟩)
 intro g w a hs hT
 have hx:=Ah hT x
 have hy:=Ah hT y
 rw[g1]at hx
 rw[g2]at hy
 by_cases hc:lo<cap
 ·obtain⟨r,h4,h5⟩:=NQ (w:=w) Ad hk he hx hy aK hc
  exact⟨g,w,r,_,O,by simp only[execOp,Option.map_some,Option.map_none,Sem.run_bind,h4,Result.andThen_ok,Sem.run_pure],.refl g,hs,h5,⟨_,.inr ⟨hc,rfl⟩,rfl⟩,rfl⟩
 ·obtain rfl:lo=cap:=by omega
  obtain⟨r,h4,h5⟩:=Qg (w:=w) hk he hx hy aK
  exact⟨g,w,r,_,O,by simp only[execOp,Option.map_some,Option.map_none,Sem.run_bind,h4,Result.andThen_ok,Sem.run_pure],.refl g,hs,h5,⟨_,.inl ⟨rfl,rfl⟩,by rw[Nat.sub_self]⟩,rfl⟩
theorem frzT{ops':List Oper}{sz:Nat}{r:RW}{es:List (List D)}(tt:Nat)(hm:RWAt O sz r es)(h:∀U',(∀j o,O j=some o->¬r.is j->U' j=some o)->DOps prog ro n ops Q ops' ⟨(tt,.slice es .no)::γ,U',df⟩)(hg:getD γ tt=r.d es.length:=by simp[getD,List.lookup]):DOps prog ro n ops Q ops' ⟨γ,O,df⟩:=by
 obtain⟨U2,h3,h4⟩:=HF (P:=prog) (n:=n) (γ:=γ) (df:=df) (t:=tt) hm hg
 exact Ck h3 (h U2 h4)
theorem cutN{T e:Nat}{k:IntKind}{x y:Operand}(h:DOps prog ro n ops Q rest ⟨(t,.nils)::γ,O,df⟩)
  (hl:A0 γ (A5 [x,y])=some Sr:=by exact tdR) (h1:ev Sr x=.nils:=by exact tdR) (h2:ev Sr y=.int k 0:=by exact tdR) (hk:(tab T).k=.slice e:=by(simp<;>rfl)) (he:A1 (tab e).k=false:=by simp) (aj:decide (t<n)=true:=by exact tdR) :
  DOps prog ro n ops Q (⟨some t,.slice T x none (some y) none,ty,pos,after,none⟩::rest) ⟨γ,O,df⟩:=by
 obtain⟨e1,e2⟩:=evs hl
 refine Bx (fun d U'=>d=.nils/\U'=O) rfl (fun c e=>by cases e) (Aa fun c e=>by cases e) (by simp only[Ar];exact aj) ?_
  (fun d U' ⟨a2,a3⟩=>by subst a2 a3;exact h)
 intro g w a hs hT
 have hx:=Ah hT x
 have hy:=Ah hT y
 rw[<-e1,h1]at hx
 rw[<-e2,h2]at hy
 have aF:=AQ hy
 have hu:=AJ Ad hk
 have aG:a.eval x=.slice none 0 0:=hx
 refine⟨g,w,.slice none 0 0,.nils,O,?_,.refl g,hs,rfl,rfl,rfl⟩
 simp only[execOp,Option.map_some,Option.map_none,aG,aF,Instr.sliceAt,Instr.slice,Instr.sliceBounds,Instr.sliceBound,asIntOf,Sem.run_bind,Sem.run_pure,Result.andThen_ok,run_underlying hu,Az (Ad e) (Ae he)]
 rfl
theorem cutF{T e:Nat}{k:IntKind}{x y:Operand}(h:DOps prog ro n ops Q rest ⟨(t,.slice [] .clip)::γ,O,df⟩)
  (hl:A0 γ (A5 [x,y])=some Sr:=by exact tdR) (h1:ev Sr x=.slice [] .clip:=by exact tdR) (h2:ev Sr y=.int k 0:=by exact tdR) (hk:(tab T).k=.slice e:=by(simp<;>rfl)) (he:A1 (tab e).k=false:=by simp) (aj:decide (t<n)=true:=by exact tdR) :
  DOps prog ro n ops Q (⟨some t,.slice T x none (some y) none,ty,pos,after,none⟩::rest) ⟨γ,O,df⟩:=by
 obtain⟨e1,e2⟩:=evs hl
 refine Bx (fun d U'=>d=.slice [] .clip/\U'=O) rfl (fun c e=>by cases e) (Aa fun c e=>by cases e) (by simp only[Ar];exact aj) ?_
  (fun d U' ⟨a2,a3⟩=>by subst a2 a3;exact h)
 intro g w a hs hT
 have hx:=Ah hT x
 have hy:=Ah hT y
 rw[<-e1,h1]at hx
 rw[<-e2,h2]at hy
 have aF:=AQ hy
 have hu:=AJ Ad hk
 have aP:=hx
 obtain⟨b,cap,h1,h2,h3,h4⟩:=hx
 obtain rfl:cap=0:=h4
 have aG:a.eval x=.slice b 0 0:=h1
 refine⟨g,w,a.eval x,.slice [] .clip,O,?_,.refl g,hs,aP,rfl,rfl⟩
 simp only[execOp,Option.map_some,Option.map_none,aG,aF,Instr.sliceAt,Instr.slice,Instr.sliceBounds,Instr.sliceBound,asIntOf,Sem.run_bind,Sem.run_pure,Result.andThen_ok,run_underlying hu,Az (Ad e) (Ae he)]
 rfl
theorem xappB{T T' e e' sz:Nat}{s x:Operand}{es new:List (List D)}{r:RW}(h:∀r' U',RWAt U' sz r' (es++new)->RWK O r U' r'->(new=[] \/ ∃i c cs,r'=.row i c cs)->DOps prog ro n ops Q rest ⟨(t,r'.d (es.length+new.length))::γ,U',df⟩)(hm:RWAt O sz r es)(h2:Jp prog O sz (ev Sr x) new)(aW:∀c∈new,BB c=true)
  (hlen':∀c∈new,c.length=sz)
  (hl:A0 γ (A5 [s,x])=some Sr:=by exact tdR) (hk:(tab T).k=.slice e:=by(simp<;>rfl)) (aS:(tab T').k=.slice e':=by(simp<;>rfl)) (he:A1 (tab e).k=false:=by simp) (hsz:(tab e).size=sz:=by simp)
  (h1:ev Sr s=r.d es.length:=by first|with_unfolding_all rfl|(simp[ev,getD,List.lookup];done))
  (hb:(es.length+new.length)*(tab e).bytes<=140737488355328:=by first|(simp;done)|(simp;omega)) (hm2:es.length+new.length<=9223372036854775807:=by first|(simp;done)|(simp;omega)) (aj:decide (t<n)=true:=by exact tdR) :
  DOps prog ro n ops Q (⟨some t,(cA s x T T'),ty,pos,after,none⟩::rest) ⟨γ,O,df⟩:=by
 obtain⟨e1,e2⟩:=evs hl
 exact E1 Ad (by simpa using aj) hk aS he hsz (by rw[<-e1];exact h1) hm (by rw[<-e2];exact h2) hlen' aW hb hm2 fun r' U' h1 h2 h3=>h r' U' h1 h2 (h3.imp (·.1) id)
theorem isR{x:Operand}{i off len cap T T' e:Nat}(h:DOps prog ro n ops Q rest ⟨(t,.bool false)::γ,O,df⟩)(hl:A0 γ (A5 [x])=some Sr:=by exact tdR)(hx:ev Sr x=.sref i off len cap:=by exact tdR)(hk:(tab T).k=.slice e:=by(simp<;>rfl))(aj:decide (t<n)=true:=by exact tdR):
  DOps prog ro n ops Q (⟨some t,.binOp .eql T x (.const (.slice none 0 0)) T',ty,pos,after,none⟩::rest) ⟨γ,O,df⟩:=by
 refine Bx (fun d U'=>d=.bool false/\U'=O) rfl (fun c e=>by cases e) (Aa fun c e=>by cases e) (by simp only[Ar];exact aj) ?_
  (fun d U' ⟨a2,a3⟩=>by subst a2 a3;exact h)
 intro g w a hs hT
 have hv:=Ah hT x
 rw[<-C2 hl,hx]at hv
 obtain⟨b,hb,h1⟩:=hv
 have:=run_equal_slice_nil (P:=prog) w T e (some ⟨b,off,none⟩) len cap (AJ Ad hk)
 refine⟨g,w,.bool false,.bool false,O,?_,.refl g,hs,rfl,rfl,rfl⟩
 have hg:(eqGuard .eql T x (.const (.slice none 0 0)) (a.eval x) (.slice none 0 0)).run prog w=.ok () w:=by rw[h1];rfl
 simp only[execOp,Sem.run_bind,show a.eval (.const (.slice none 0 0))=.slice none 0 0 from rfl,hg,Result.andThen_ok]
 simp only[binOp,Sem.run_bind,h1,this,Result.andThen_ok]
 rfl
end
section
variable {ir:Nat}{p:BProg}{R:Nat->RW}{s:GoS}{O:Sig}
theorem Ru(i off cap:Nat)(new:List MVal)(O:Sig)(hn:new.length<=1000000)(ar:Jp prog O 2 (.sref i off new.length cap) (new.map cVal)):DCall prog 47 [.sref i off new.length cap] O (rS (.slice (new.map cVal) .no) O):=by
 refine en func47 ntmps47 ?_
 refine gz ?_
 refine isR ?_
 refine gz ?_
 refine xappR (r:=.full []) (es:=[]) (new:=new.map cVal) (fun r' U1 h1 h2=>?_) ⟨rfl,by simp⟩ ar (fun c hc=>by obtain⟨v,_,rfl⟩:=List.mem_map.1 hc;rfl) Bm
 refine frzT 7 h1 (fun U2 h4=>?_)
 have hS:Sub O U2:=fun j o hj=>by
  obtain⟨k1,k2⟩:=h2 j o hj id
  exact h4 j o k1 k2
 refine gz ?_
 exact fin1 (U':=O) ⟨rfl,rfl⟩
theorem IC(new:List MVal)(o:Own)(O:Sig)(hn:new.length<=1000000):DCall prog 47 [.slice (new.map cVal) o] O fun x U'=> ∃r':RW,x=.ret (r'.d new.length)/\RWAt U' 2 r' (new.map cVal)/\RWK O .nil U' r' /\ ∀es,r'=.full es->es=[]:=by
 refine en func47 ntmps47 ?_
 refine gz ?_
 refine isN (fun b hb=>?_)
 cases b with
 |true=>
  have aI:new=[]:=by simpa using hb rfl
  subst aI
  refine gz ?_
  exact fin1 (U':=O) ⟨.nil,rfl,rfl,RWK.refl _ _,fun es h=>by cases h⟩
 | false =>
  refine gz ?_
  refine xappB (r:=.full []) (es:=[]) (new:=new.map cVal) (fun r' U1 h1 h2 h3=>?_) ⟨rfl,by simp⟩ (Hi rfl Bm) (fun c hc=>by obtain⟨v,_,rfl⟩:=List.mem_map.1 hc;rfl) Bm
  rw[show([]:List (List D)).length+(new.map cVal).length=new.length by simp]
  refine gz ?_
  refine fin1 (U':=U1) ⟨r',rfl,h1,fun j o hj _=>h2 j o hj id,fun es h=>?_⟩
  rcases h3 with h3|⟨i,c,cs,h3⟩
  ·subst h
   have:=h1.1
   rw[h3]at this
   exact this.symm
  ·rw[h3]at h;cases h
theorem LX(O:Sig):DCall prog 47 [.slice [] .no] O (rS (.slice [] .no) O):=by
 refine en func47 ntmps47 ?_
 refine gz ?_
 refine isN (fun b hb=>?_)
 cases b with
 |true=>
  refine gz ?_
  exact fin1 (U':=O) ⟨rfl,rfl⟩
 | false =>
  refine gz ?_
  refine xappR (sz:=2) (r:=.full []) (es:=[]) (new:=[]) (fun r' U1 h1 h2=>?_) ⟨rfl,by simp⟩ (Hi rfl (by simp)) (by simp) (by simp)
  refine frzT 7 h1 (fun U2 h4=>?_)
  have hS:Sub O U2:=fun j o hj=>by
   obtain⟨k1,k2⟩:=h2 j o hj id
   exact h4 j o k1 k2
  refine gz ?_
  exact fin1 (U':=O) ⟨rfl,rfl⟩
abbrev IX(p:BProg)(R:Nat->RW)(s:GoS)(d0:D)(k g:Int)(a:D):List D:=[dI k,dI 0,dI 0,dI g,a,dI 0,dI 0,.nils,.nils,(R 3).d s.objs.length,(R 2).d s.evs.length]++Ai p++[dI s.pos,d0,(R 1).d s.env.length]
theorem SP(x:CIns)(r args:List MVal)(k:Nat)(hp:p.wt<=1073741824)(hx:x.a=k)(hk:k<p.gens.length)(hg:p.gens[k]=args.length)(hR:RunS ir p R s O)(hs:s.stk=r++args)(hn:s.stk.length<=1000000):DCall prog 119 [.ptr ir 0,.agg (cIns x)] O fun y U'=>y=.ret (.bool true) /\ ∃R' av,HaltS ir p R' { s with stk:=r } av true ⟨2,vZ,x.a,args,0,s.pos,r,s.env,s.objs,s.evs⟩ U'/\RunK ir R O R' U':=by
 have q1:=hR.obj
 have hl:s.stk.length=r.length+args.length:=by rw[hs];simp
 have q0:RWAt O 2 (R 0) (s.stk.map cVal):=hR.rows.ok 0
 have bb:p.gens.length<=1073741824:=by obtain⟨a1,a2,a3,a4,a5,a6,a7⟩:=p.wt_le;omega
 cases h0:R 0 with
 |nil=>
  rw[h0,hs]at q0
  have q00:(r++args).map cVal=[]:=q0
  simp at q00
  obtain⟨rfl,rfl⟩:=q00
  unfold AO at q1
  rw[h0,hl]at q1
  rw[show RW.nil.d (([]:List MVal).length+([]:List MVal).length)=.nils from rfl]at q1
  refine en func119 ntmps119 ?_
  refine gf (gi q1 (gi hx hg)) ?_ (delO 2 o119)
  have q2:O ir=some (.cells (IX p R s .nils 0 0 .nils)):=q1
  refine mixI (id:=2) [0,1,2,3,4,5,6,7,8,9,10,11,12,13,14,15,16,17,18,19,20,21,22,23,24] [12,16,20,24] [9] [16,20,24] (fun s=>s=O) rfl ?_
  refine iP _ ?_
  refine iP _ ?_
  refine iP _ ?_
  refine iP _ ?_
  refine iP (dI x.a) ?_
  refine iP _ ?_
  refine iP _ ?_
  refine iP _ ?_
  refine iP _ ?_
  refine iR .nils (fun s hs=>?_) ?_
  ·rw[hs];simp[q1]
  refine iP (dI 0) ?_
  refine iP (.slice [] .no) ?_
  refine iW (fun s=>s=O) (LX O) (fun d U1 hr=>?_) (fun d U1 hr=>by cases hr.1)
  obtain⟨hd,rfl⟩:=hr
  cases hd
  refine⟨rfl,?_⟩
  refine iP _ ?_
  refine iP _ ?_
  refine iP (.ptr ir 0) ?_
  refine iS (d:=.any) (U':=U1.set ir (.cells (IX p R s .nils 2 0 .nils))) (fun _=>True) trivial ?_ (he:=by simp[q2])
  refine iP _ ?_
  refine iP _ ?_
  refine iP (.ptr ir 3) ?_
  refine iS (d:=.any) (U':=U1.set ir (.cells (IX p R s .nils 2 x.a .nils))) (fun _=>True) trivial ?_ (he:=by simp)
  refine iP _ ?_
  refine iP _ ?_
  refine iP (.ptr ir 4) ?_
  refine iS (d:=.any) (U':=U1.set ir (.cells (IX p R s .nils 2 x.a (.slice [] .no)))) (fun _=>True) trivial ?_ (he:=by simp)
  refine iN ?_
  repeat ((fail_if_success refine cutN ?_);(refine go1 trivial ?_))
  refine cutN ?_
  refine gz ?_ o119
  refine Kr (r0:=.nil) (r1:=R 1) (m:=0) (m':=s.env.length) (w6 ..) ?_
  refine gz ?_ o119
  have au:s.stk=[]:=hs
  obtain⟨p3,p4⟩:=hR.halt (av:=.slice [] .no) (b:=true) (k:=⟨2,vZ,x.a,[],0,s.pos,[],s.env,s.objs,s.evs⟩) rfl (A8 _) rfl rfl ⟨rfl,au.symm,rfl⟩
  have es:s={ s with stk:=[] }:=by rw[<-au]
  rw[<-es]
  refine fin1 (U':=_) ⟨rfl,_,_,p3,p4⟩ (hU:=?_)
  simp only[Sig.set_set]
  unfold Ob
  rw[h0,au]
  exact Sub.refl _
 |full es=>
  obtain rfl:=hR.nf 0 es h0
  rw[h0,hs]at q0
  have q00:(r++args).map cVal=[]:=q0.1
  simp at q00
  obtain⟨rfl,rfl⟩:=q00
  unfold AO at q1
  rw[h0,hl]at q1
  rw[show(RW.full []).d (([]:List MVal).length+([]:List MVal).length)=.slice [] .clip from rfl]at q1
  refine en func119 ntmps119 ?_
  refine gf (gi q1 (gi hx hg)) ?_ (delO 2 o119)
  have q2:O ir=some (.cells (IX p R s (.slice [] .clip) 0 0 .nils)):=q1
  refine mixI (id:=2) [0,1,2,3,4,5,6,7,8,9,10,11,12,13,14,15,16,17,18,19,20,21,22,23,24] [12,16,20,24] [9] [16,20,24] (fun s=>s=O) rfl ?_
  refine iP _ ?_
  refine iP _ ?_
  refine iP _ ?_
  refine iP _ ?_
  refine iP (dI x.a) ?_
  refine iP _ ?_
  refine iP _ ?_
  refine iP _ ?_
  refine iP _ ?_
  refine iR (.slice [] .clip) (fun s hs=>?_) ?_
  ·rw[hs];simp[q1]
  refine iP (dI 0) ?_
  refine iP (.slice [] .no) ?_
  refine iW (fun s=>s=O) (LX O) (fun d U1 hr=>?_) (fun d U1 hr=>by cases hr.1)
  obtain⟨hd,rfl⟩:=hr
  cases hd
  refine⟨rfl,?_⟩
  refine iP _ ?_
  refine iP _ ?_
  refine iP (.ptr ir 0) ?_
  refine iS (d:=.any) (U':=U1.set ir (.cells (IX p R s (.slice [] .clip) 2 0 .nils))) (fun _=>True) trivial ?_ (he:=by simp[q2])
  refine iP _ ?_
  refine iP _ ?_
  refine iP (.ptr ir 3) ?_
  refine iS (d:=.any) (U':=U1.set ir (.cells (IX p R s (.slice [] .clip) 2 x.a .nils))) (fun _=>True) trivial ?_ (he:=by simp)
  refine iP _ ?_
  refine iP _ ?_
  refine iP (.ptr ir 4) ?_
  refine iS (d:=.any) (U':=U1.set ir (.cells (IX p R s (.slice [] .clip) 2 x.a (.slice [] .no)))) (fun _=>True) trivial ?_ (he:=by simp)
  refine iN ?_
  repeat ((fail_if_success refine cutF ?_);(refine go1 trivial ?_))
  refine cutF ?_
  refine gz ?_ o119
  refine Kr (r0:=.full []) (r1:=R 1) (m:=0) (m':=s.env.length) (w6 ..) ?_
  refine gz ?_ o119
  have au:s.stk=[]:=hs
  obtain⟨p3,p4⟩:=hR.halt (av:=.slice [] .no) (b:=true) (k:=⟨2,vZ,x.a,[],0,s.pos,[],s.env,s.objs,s.evs⟩) rfl (A8 _) rfl rfl ⟨rfl,au.symm,rfl⟩
  have es:s={ s with stk:=[] }:=by rw[<-au]
  rw[<-es]
  refine fin1 (U':=_) ⟨rfl,_,_,p3,p4⟩ (hU:=?_)
  simp only[Sig.set_set]
  unfold Ob
  rw[h0,au]
  exact Sub.refl _
 | row i c cs =>
  rw[h0,hs]at q0
  unfold AO at q1
  rw[h0,hl]at q1
  simp only[EC]at q1
  obtain⟨z1,z2,z3,z4⟩:=q0
  simp only[List.length_map,List.length_append]at z3
  refine en func119 ntmps119 ?_
  refine gf (gi q1 (gi hx hg)) ?_ (delO 2 o119)
  refine mixI (id:=2) [0,1,2,3,4,5,6,7,8,9,10,11,12,13,14,15,16,17,18,19,20,21,22,23,24] [11,12,16,20,24] [9] [16,20,24] (fun s=>s=O) rfl ?_
  refine iP _ ?_
  refine iP _ ?_
  refine iP _ ?_
  refine iP _ ?_
  refine iP (dI x.a) ?_
  refine iP _ ?_
  refine iP _ ?_
  refine iP _ ?_
  refine iP _ ?_
  refine iR (.sref i 0 (r.length+args.length) c) (fun s hs=>?_) ?_
  ·rw[hs];simp[q1]
  refine iP (dI r.length) ?_
  refine iCutL (lo:=r.length) (len:=r.length+args.length) (cap:=c) (i:=i) (off:=0) (fun off' ho=>?_) rfl (by omega) z3
  rw[Nat.add_sub_cancel_left]
  have ar:Jp prog O 2 (.sref i off' args.length (c-r.length)) (args.map cVal):=by
   have e:args.length=(args.map cVal).length:=by simp
   rcases ho with⟨rfl,rfl⟩|⟨h1,h2⟩
   ·obtain rfl:args=[]:=List.length_eq_zero_iff.1 (by omega)
    exact Kv (pre:=[]) (es:=[]) (rest:=((List.map cVal (r++[])).flatten++cs)) (by simpa using z1) rfl (by simp) (by simp)
   ·rw[e]
    refine Kv (pre:=(r.map cVal).flatten) (rest:=cs) (by rw[z1];simp) (by rw[Aw Bm,List.length_map,h2];simp) Bm (by simp;omega)
  refine iW (fun s=>s=O) (Ru i off' (c-r.length) args O (by omega) ar) (fun d U1 hr=>?_) (fun d U1 hr=>by cases hr.1)
  obtain⟨hd,rfl⟩:=hr
  cases hd
  refine⟨rfl,?_⟩
  refine iP _ ?_
  refine iP _ ?_
  refine iP (.ptr ir 0) ?_
  refine iS (d:=.any) (U':=U1.set ir (.cells (IX p R s (.sref i 0 (r.length+args.length) c) 2 0 .nils))) (fun _=>True) trivial ?_ (he:=by simp[q1])
  refine iP _ ?_
  refine iP _ ?_
  refine iP (.ptr ir 3) ?_
  refine iS (d:=.any) (U':=U1.set ir (.cells (IX p R s (.sref i 0 (r.length+args.length) c) 2 x.a .nils))) (fun _=>True) trivial ?_ (he:=by simp)
  refine iP _ ?_
  refine iP _ ?_
  refine iP (.ptr ir 4) ?_
  refine iS (d:=.any) (U':=U1.set ir (.cells (IX p R s (.sref i 0 (r.length+args.length) c) 2 x.a (.slice (args.map cVal) .no)))) (fun _=>True) trivial ?_ (he:=by simp)
  refine iN ?_
  refine gz ?_ o119
  refine cutH (i:=i) (off:=0) (len:=r.length+args.length) (cap:=c) (hi:=r.length) ?_ (by omega)
  refine gz ?_ o119
  refine Kr (r0:=.row i c []) (r1:=R 1) (w6 ..) ?_
  refine gz ?_ o119
  have hr:RWAt U1 2 (.row i c ((args.map cVal).flatten++cs)) (r.map cVal):=⟨by rw[z1];simp,by rw[<-List.append_assoc];simpa using z2,by simp;omega,Bm⟩
  obtain⟨p1,p2⟩:=hR.re (a:=0) (s':={ s with stk:=r }) hr (by rw[h0];exact fun j h=>h) (rCt_0 R _ s _) rfl
  obtain⟨p3,p4⟩:=p1.halt (av:=.slice (args.map cVal) .no) (b:=true) (k:=⟨2,vZ,x.a,args,0,s.pos,r,s.env,s.objs,s.evs⟩) rfl (A8 _) rfl rfl ⟨rfl,rfl,rfl⟩
  refine fin1 (U':=_) ⟨rfl,_,_,p3,p2.trans p4⟩ (hU:=?_)
  simp only[Sig.set_set]
  exact Sub.refl _
end
end Go.DL
