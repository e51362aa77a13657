/- A part of the proof. -/
import Derived.Test.YtlfimpogphmbdaaGreatM18
import Derived.Test.YtlfimpogphmbdaaGreatM20
import Derived.Test.YtlfimpogphmbdaaGreatM16
import Derived.Test.YtlfimpogphmbdaaGreatM17
import Derived.Test.YtlfimpogphmbdaaGreatM15
set_option linter.all false
namespace Go.DL
open Go.Proofs.Tryz
open Go Go.Proofs
set_option maxHeartbeats 8000000
def Bm:List Str->Int->List (Str×Int)
 |[],_=>[]
 |s::r,k=>(s,k)::Bm r (k+1)
theorem E7(s:Str): ∀(l:List Str) (k:Int),hasM s (Bm l k)=decide (s∈l)
 |[],_=>by simp[Bm,hasM]
 |x::r,k=>by rw[Bm,hasM,E7 s r];by_cases h:s=x<;>simp[h]
theorem NM(s:Str): ∀(l:List Str) (k:Nat),s∈l->getM 0 s (Bm l k)=idxG s l k/\(k:Int)<=idxG s l k/\idxG s l k<k+l.length
 |[],_,h=>by simp at h
 | x::r,k,h=>by
  by_cases e:s=x
  ·subst e;simp[Bm,getM,idxG];omega
  ·have:=NM s r (k+1) ((List.mem_cons.1 h).resolve_left e);rw[Bm,getM,if_neg e,idxG,if_neg (fun h=>e h.symm)];rw[show((k:Int)+1)=((k+1:Nat):Int) by omega];simp only[List.length_cons];refine⟨this.1,?_,?_⟩<;>omega
theorem Uk{s:Str}{l:List Str}(h:s∈l):getM 0 s (Bm l 0)=idxG s l 0/\0<=idxG s l 0/\idxG s l 0<l.length:=by
 have:=NM s l 0 h;simpa using this
theorem R5(s:Str): ∀(l:List Str) (k:Int), ¬s∈l->putM s (k+l.length) (Bm l k)=Bm (l++[s]) k
 |[],k,_=>by simp[Bm,putM]
 |x::r,k,h=>by
  have h1:¬s=x:=fun e=>h (by simp[e])
  have:=R5 s r (k+1) fun e=>h (by simp[e])
  rw[Bm,putM,if_neg h1,List.cons_append,Bm,<-this]
  congr 2;simp only[List.length_cons];omega
def cM(s:List Str):List D:=[.cmap (s.map .str) (s.map fun _=>.bool true)]
def cMs(hs:List (List Str)):List (List D):=hs.map cM
@[simp] theorem cMs_len(hs:List (List Str)):(cMs hs).length=hs.length:=by simp[cMs]
@[simp] theorem cMs_get(hs:List (List Str))(k:Nat):(cMs hs)[k]? = (hs[k]?).map cM:=by simp[cMs]
@[simp] theorem cMs_all(hs:List (List Str)):(cMs hs).all (fun c=>c.length==1)=true:=by simp[cMs,cM]
theorem cMs_app(hs:List (List Str))(u:List Str):cMs hs++[cM u]=cMs (hs++[u]):=by simp[cMs]
abbrev pObj(f:FProg)(ic is:Nat)(d:D)(n:Int):DObj:=.cells [sl (f.classes.map cFClass),sl (f.methods.map D0),dI f.main.op,dI f.main.n,.str f.main.text,sl (f.main.kids.map AO),.map ic,d,.map is,dI n]
def HasD(S0 V:Sig)(d:D)(hs:List (List Str)):Prop:=(hs=[]/\d=.nils) \/ ∃ih,d=.slice (cMs hs) (.tag ih)/\V ih=some (.tail 1 hs.length)/\S0 ih=none
theorem HasD.set{S0 V:Sig}{d:D}{hs:List (List Str)}(h:HasD S0 V d hs){k:Nat}{o:DObj}(hk:∀n,V k≠some (.tail 1 n)):HasD S0 (V.set k o) d hs:=by
 rcases h with h|⟨ih,h1,h2,h3⟩
 ·exact .inl h
 ·refine .inr ⟨ih,h1,?_,h3⟩;rw[w8 _ _ fun e=>hk _ (e ▸ h2)];exact h2
theorem QH(s:List Str):(s.map D.str).zip (s.map fun _=>D.bool true)=eSS s:=by
 unfold eSS eS
 induction s with
 |nil=>rfl
 |cons x s ih=>simp only[List.map_cons,List.zip_cons_cons,ih]
theorem MM(s:List Str)(j:Nat):(eSS s).eraseIdx j=eSS (s.eraseIdx j):=by
 unfold eSS eS
 induction s generalizing j with
 |nil=>simp
 |cons x s ih=>cases j with
  |zero=>simp
  |succ j=>simp[ih]
theorem Tm{s:List Str}{j:Nat}{k v:D}(h:(eSS s)[j]? = some (k,v)): ∃hj:j<s.length,k=.str s[j]/\v=.bool true:=by
 unfold eSS eS at h;rw[List.getElem?_map]at h
 by_cases hj:j<s.length
 ·rw[List.getElem?_eq_getElem hj]at h;simp only[Option.map_some,Option.some.injEq,Prod.mk.injEq]at h;exact⟨hj,h.1.symm,h.2.symm⟩
 ·rw[List.getElem?_eq_none (by omega)]at h;cases h
theorem Is{s:List Str}{j:Nat}(hj:j<s.length)(x:Str):x∈s ↔ x=s[j]\/x∈s.eraseIdx j:=by
 have e:s=s.take j++s[j]::s.drop (j+1):=by rw[<-List.drop_eq_getElem_cons hj,List.take_append_drop]
 rw[List.eraseIdx_eq_take_drop_succ];constructor
 ·intro h;rw[e]at h;simp only[List.mem_append,List.mem_cons]at h⊢; grind
 ·rintro(rfl|h)
  ·exact List.getElem_mem hj
  ·rw[e];simp only[List.mem_append,List.mem_cons]at h⊢; grind
structure PS(f:FProg)(ip ic is:Nat)(S0 V:Sig)(names slots:List Str)(hs:List (List Str))(d:D)(n:Int):Prop where
 prg:V ip=some (pObj f ic is d n)
 cls:V ic=some (.map (eSN (Bm names 0)))
 slo:V is=some (.map (eSS slots))
 has:HasD S0 V d hs
 keep:Keep (fun j=>j=ip\/j=ic\/j=is) S0 V
theorem PS.non{f:FProg}{ip ic is:Nat}{S0 V:Sig}{names slots:List Str}{hs:List (List Str)}{d:D}{n:Int}(h:PS f ip ic is S0 V names slots hs d n)(k:Nat)(hk:V k=none):S0 k=none:=by
 cases hc:S0 k with
 |none=>rfl
 | some o =>
  by_cases ht:k=ip\/k=ic\/k=is
  ·rcases ht with rfl|rfl|rfl
   ·rw[h.prg]at hk;cases hk
   ·rw[h.cls]at hk;cases hk
   ·rw[h.slo]at hk;cases hk
  ·rw[h.keep k o hc ht]at hk;cases hk
theorem PS.fresh{f:FProg}{ip ic is:Nat}{S0 V:Sig}{names slots:List Str}{hs:List (List Str)}{d:D}{n:Int}(h:PS f ip ic is S0 V names slots hs d n){k:Nat}{o:DObj}(hk:V k=none):PS f ip ic is S0 (V.set k o) names slots hs d n:=by
 have e:∀j x,V j=some x->j≠k:=fun j x h e=>by rw[e,hk]at h;cases h
 refine⟨by rw[w8 _ _ (e _ _ h.prg)];exact h.prg,by rw[w8 _ _ (e _ _ h.cls)];exact h.cls,by rw[w8 _ _ (e _ _ h.slo)];exact h.slo,h.has.set (by rw[hk];simp),fun j x h1 h2=>?_⟩;have:=h.keep j x h1 h2;rw[w8 _ _ (e _ _ this)];exact this
theorem PS.other{f:FProg}{ip ic is:Nat}{S0 V:Sig}{names slots:List Str}{hs:List (List Str)}{d:D}{n:Int}(h:PS f ip ic is S0 V names slots hs d n){k:Nat}{o:DObj}(h0:S0 k=none)(hk:∀n,V k≠some (.tail 1 n))(h1:ip≠k)(h2:ic≠k)(h3:is≠k):PS f ip ic is S0 (V.set k o) names slots hs d n:=
 ⟨by rw [w8 _ _ h1];exact h.prg,by rw [w8 _ _ h2];exact h.cls,by rw [w8 _ _ h3];exact h.slo,h.has.set hk,fun j x h4 h5=>by
  rw[w8 _ _ fun e=>by rw[e,h0]at h4;cases h4];exact h.keep j x h4 h5⟩
def parE(names:List Str):List Str->List Str->Bool
 |_,[]=>true
 |seen,s::r=>decide (s∈names)&&((B7 s&&!decide (s∈seen))&&parE names (seen++[s]) r)
def sloE:List Str->List Str->Bool
 |_,[]=>true
 |seen,s::r=>(B7 s&&!decide (s∈seen))&&sloE (seen++[s]) r
def iniE(mine:List Str):List Str->List FInit->Bool
 |_,[]=>true
 |seen,x::r=>(decide (x.slot∈mine)&&inB x.n)&&((B7 x.slot&&!decide (x.slot∈seen))&&iniE mine (seen++[x.slot]) r)
def M7(names:List Str)(hs:List (List Str))(s:Str):List Str:=(hs[(idxG s names 0).toNat]?).getD []
def Dy(names:List Str)(hs:List (List Str))(c:FClass):List Str:=c.parents.flatMap (M7 names hs)++c.slots
def clsE:List Str->List Str->List (List Str)->List FClass->Bool
 |_,_,_,[]=>true
 | names,slots,hs,c::r=>decide (c.parents.length<=3/\c.slots.length<=4) && (parE names [] c.parents && (sloE slots c.slots && (iniE (Dy names hs c) [] c.inits && ((B7 c.name && !decide (c.name ∈ names)) &&
   clsE (names++[c.name]) (slots++c.slots) (hs++[Dy names hs c]) r))))
def SameE(a b:List (List Str)):Prop:=a.length=b.length /\ ∀(k:Nat) (x:Str),(x∈(a[k]?).getD [] ↔ x∈(b[k]?).getD [])
theorem GU{m m':List Str}(h:∀x,x∈m ↔ x∈m'): ∀(l:List FInit) (seen:List Str),iniE m seen l=iniE m' seen l
 |[],_=>rfl
 |x::r,seen=>by rw[iniE,iniE,GU h r,decide_eq_decide.2 (h x.slot)]
theorem Kl: ∀(cs:List FClass) (names slots:List Str) (a b:List (List Str)),SameE a b->clsE names slots a cs=clsE names slots b cs
 |[],_,_,_,_,_=>rfl
 | c::r,names,slots,a,b,h=>by
  have hm:∀x,x∈Dy names a c ↔ x∈Dy names b c:=fun x=>by
   simp only[Dy,List.mem_append,List.mem_flatMap,M7];exact or_congr (exists_congr fun s=>and_congr_right fun _=>h.2 _ x) Iff.rfl
  rw[clsE,clsE,GU hm,Kl r _ _ (a++[Dy names a c]) (b++[Dy names b c])];refine⟨by simp[h.1],fun k x=>?_⟩
  by_cases h1:k<a.length
  ·rw[List.getElem?_append_left h1,List.getElem?_append_left (by rw[<-h.1];exact h1)];exact h.2 k x
  ·rw[List.getElem?_append_right (by omega),List.getElem?_append_right (by rw[<-h.1];omega),h.1]
   by_cases h2:k-b.length=0
   ·rw[h2];simpa using hm x
   ·rw[List.getElem?_eq_none (by simp;omega),List.getElem?_eq_none (by simp;omega)]
def clsB(f:FProg):Bool:=decide (f.classes.length<=10)&&clsE [] [] [] f.classes
theorem A1{V:Sig}{a b:Nat}{o:DObj}(h:V a=some o)(k:V b=none):a≠b:=fun e=>by rw[e,k]at h;cases h
theorem A9{V:Sig}{a b:Nat}{o x:DObj}(h:V a=some o)(k:V b=some x)(hx:o≠x):a≠b:=fun e=>by rw[e,k]at h;cases h;exact hx rfl
structure Dst(ip ic is isn im ia ii:Nat):Prop where
 a1:ip≠ic
 a2:ip≠is
 a3:ip≠isn
 a4:ip≠im
 a5:ip≠ia
 a6:ip≠ii
 b1:ic≠is
 b2:ic≠isn
 b3:ic≠im
 b4:ic≠ia
 b5:ic≠ii
 c1:is≠isn
 c2:is≠im
 c3:is≠ia
 c4:is≠ii
 d1:isn≠im
 d2:isn≠ia
 d3:isn≠ii
 e1:im≠ia
 e2:im≠ii
 e3:ia≠ii
structure IS(f:FProg)(ip ic is isn im ia ii:Nat)(S0 V:Sig)(names slots:List Str)(hs:List (List Str))(d:D)(sn t a b:List Str):Prop where
 ps:PS f ip ic is S0 V names slots hs d 0
 osn:V isn=some (.map (eSS sn))
 om:V im=some (.map (eSS t))
 oa:V ia=some (.map (eSS a))
 oi:V ii=some (.map (eSS b))
section
variable {f:FProg}{ip ic is isn im ia ii:Nat}{S0 V:Sig}{names slots:List Str}{hs:List (List Str)}{d:D}{sn t a b:List Str}
theorem F6{k:Nat}{m:List (D×D)}(h:V k=some (.map m)): ∀n,V k≠some (.tail 1 n):=fun n e=>by rw[h]at e;cases e
theorem R9{k:Nat}{l:List (D×D)}{la:Option (D×D)}(h:V k=some (.iter l la)): ∀n,V k≠some (.tail 1 n):=fun n e=>by rw[h]at e;cases e
theorem IS.setm(h:IS f ip ic is isn im ia ii S0 V names slots hs d sn t a b)(D:Dst ip ic is isn im ia ii)(h0:S0 im=none)(t':List Str):IS f ip ic is isn im ia ii S0 (V.set im (.map (eSS t'))) names slots hs d sn t' a b:=
 ⟨h.ps.other h0 (F6 h.om) D.a4 D.b3 D.c2,by rw[w8 _ _ D.d1];exact h.osn,w7 .., by rw[w8 _ _ (Ne.symm D.e1)];exact h.oa,by rw[w8 _ _ (Ne.symm D.e2)];exact h.oi⟩
theorem IS.seta(h:IS f ip ic is isn im ia ii S0 V names slots hs d sn t a b)(D:Dst ip ic is isn im ia ii)(h0:S0 ia=none)(a':List Str):IS f ip ic is isn im ia ii S0 (V.set ia (.map (eSS a'))) names slots hs d sn t a' b:=
 ⟨h.ps.other h0 (F6 h.oa) D.a5 D.b4 D.c3,by rw[w8 _ _ D.d2];exact h.osn,by rw[w8 _ _ D.e1];exact h.om,w7 .., by rw[w8 _ _ (Ne.symm D.e3)];exact h.oi⟩
theorem IS.seti(h:IS f ip ic is isn im ia ii S0 V names slots hs d sn t a b)(D:Dst ip ic is isn im ia ii)(h0:S0 ii=none)(b':List Str):IS f ip ic is isn im ia ii S0 (V.set ii (.map (eSS b'))) names slots hs d sn t a b':=
 ⟨h.ps.other h0 (F6 h.oi) D.a6 D.b5 D.c4,by rw[w8 _ _ D.d3];exact h.osn,by rw[w8 _ _ D.e2];exact h.om,by rw[w8 _ _ D.e3];exact h.oa,w7 ..⟩
theorem IS.setn(h:IS f ip ic is isn im ia ii S0 V names slots hs d sn t a b)(D:Dst ip ic is isn im ia ii)(h0:S0 isn=none)(n':List Str):IS f ip ic is isn im ia ii S0 (V.set isn (.map (eSS n'))) names slots hs d n' t a b:=
 ⟨h.ps.other h0 (F6 h.osn) D.a3 D.b2 D.c1,w7 .., by rw[w8 _ _ (Ne.symm D.d1)];exact h.om,by rw[w8 _ _ (Ne.symm D.d2)];exact h.oa,by rw[w8 _ _ (Ne.symm D.d3)];exact h.oi⟩
theorem IS.sets(h:IS f ip ic is isn im ia ii S0 V names slots hs d sn t a b)(D:Dst ip ic is isn im ia ii)(s':List Str):IS f ip ic is isn im ia ii S0 (V.set is (.map (eSS s'))) names s' hs d sn t a b:=
 ⟨⟨by rw [w8 _ _ D.a2];exact h.ps.prg,by rw [w8 _ _ D.b1];exact h.ps.cls,w7 .., h.ps.has.set (F6 h.ps.slo),fun j x h1 h2=>by rw [w8 _ _ fun e=>h2 (.inr (.inr e))];exact h.ps.keep j x h1 h2⟩,
  by rw[w8 _ _ (Ne.symm D.c1)];exact h.osn,by rw[w8 _ _ (Ne.symm D.c2)];exact h.om,by rw[w8 _ _ (Ne.symm D.c3)];exact h.oa,by rw[w8 _ _ (Ne.symm D.c4)];exact h.oi⟩
theorem IS.fresh(h:IS f ip ic is isn im ia ii S0 V names slots hs d sn t a b){k:Nat}{o:DObj}(hk:V k=none):IS f ip ic is isn im ia ii S0 (V.set k o) names slots hs d sn t a b:=
 ⟨h.ps.fresh hk,by rw[w8 _ _ (A1 h.osn hk)];exact h.osn,by rw[w8 _ _ (A1 h.om hk)];exact h.om,by rw[w8 _ _ (A1 h.oa hk)];exact h.oa,by rw[w8 _ _ (A1 h.oi hk)];exact h.oi⟩
theorem IS.iter(h:IS f ip ic is isn im ia ii S0 V names slots hs d sn t a b){k:Nat}{o:DObj}{l:List (D×D)}{la:Option (D×D)}(h0:S0 k=none)(hk:V k=some (.iter l la)):IS f ip ic is isn im ia ii S0 (V.set k o) names slots hs d sn t a b:=
 have e:∀j m,V j=some (.map m)->j≠k:=fun j m hj=>A9 hj hk (by simp)
 ⟨h.ps.other h0 (R9 hk) (A9 h.ps.prg hk (by simp)) (e _ _ h.ps.cls) (e _ _ h.ps.slo),by rw[w8 _ _ (e _ _ h.osn)];exact h.osn,by rw[w8 _ _ (e _ _ h.om)];exact h.om,by rw[w8 _ _ (e _ _ h.oa)];exact h.oa,by rw[w8 _ _ (e _ _ h.oi)];exact h.oi⟩
theorem IS.delm(h:IS f ip ic is isn im ia ii S0 V names slots hs d sn t a b)(D:Dst ip ic is isn im ia ii)(h0:S0 im=none):PS f ip ic is S0 (V.del im) names slots hs d 0:=by
 have e:∀j,j≠im->(V.del im) j=V j:=fun j hj=>by simp[Sig.del,hj]
 refine⟨by rw[e _ D.a4];exact h.ps.prg,by rw[e _ D.b3];exact h.ps.cls,by rw[e _ D.c2];exact h.ps.slo,?_,fun j x h1 h2=>?_⟩
 ·rcases h.ps.has with h1|⟨ih,h1,h2,h3⟩
  ·exact .inl h1
  ·exact .inr ⟨ih,h1,by rw[e _ (A9 h2 h.om (by simp))];exact h2,h3⟩
 ·rw[e _ fun e=>by rw[e,h0]at h1;cases h1];exact h.ps.keep j x h1 h2
theorem PS.setc{n:Int}(h:PS f ip ic is S0 V names slots hs d n)(a1:ip≠ic)(b1:ic≠is){s:Str}(_:¬s∈names):PS f ip ic is S0 (V.set ic (.map (eSN (Bm (names++[s]) 0)))) (names++[s]) slots hs d n:=
 ⟨by rw[w8 _ _ a1];exact h.prg,w7 .., by rw[w8 _ _ (Ne.symm b1)];exact h.slo,h.has.set (F6 h.cls),fun j x h1 h2=>by rw[w8 _ _ fun e=>h2 (.inr (.inl e))];exact h.keep j x h1 h2⟩
theorem PS.setp{n n':Int}{d':D}{hs':List (List Str)}(h:PS f ip ic is S0 V names slots hs d n)(a1:ip≠ic)(a2:ip≠is)(hd:HasD S0 (V.set ip (pObj f ic is d' n')) d' hs'):PS f ip ic is S0 (V.set ip (pObj f ic is d' n')) names slots hs' d' n':=
 ⟨w7 .., by rw[w8 _ _ (Ne.symm a1)];exact h.cls,by rw[w8 _ _ (Ne.symm a2)];exact h.slo,hd,fun j x h1 h2=>by rw[w8 _ _ fun e=>h2 (.inl e)];exact h.keep j x h1 h2⟩
end
theorem Tn(u:List Str):(eSS u).map (·.1)=u.map D.str:=by simp[eSS,eS]
theorem Tl(u:List Str):(eSS u).map (·.2)=u.map fun _=>D.bool true:=by simp[eSS,eS]
def ClsR(f:FProg)(ip ic is:Nat)(V:Sig)(x:DE)(S':Sig):Prop:=
 if clsB f then x=.ret (.tup []) /\ ∃hs d,PS f ip ic is V S' (f.classes.map (·.name)) (f.classes.flatMap (·.slots)) hs d f.classes.length
 else x=.panic unf2 /\ ∃names slots hs d n,PS f ip ic is V S' names slots hs d n
theorem K6 (f:FProg) (ip ic is:Nat) (V:Sig) (hp:f.wt<=1073741824) (h0:PS f ip ic is V V [] [] [] .nils 0) (hcs:ic ≠ is):DCall prog 185 [.ptr ip 0] V (ClsR f ip ic is V):=by
 obtain⟨p1,p2,p3,p4,p5⟩:=f.wt_le
 have hpan:clsB f=false->∀S' names slots hs d n,PS f ip ic is V S' names slots hs d n->ClsR f ip ic is V (.panic unf2) S':=fun h S' names slots hs d n hP=>by
  unfold ClsR;rw[h,if_neg (by simp)];exact⟨rfl,_,_,_,_,_,hP⟩
 have hip:=h0.prg;refine en func185 ntmps185 ?_
 by_cases h10:f.classes.length<=10
 ·refine gf hip ?_ o185;refine KP (fun isn hsn=>?_);have hn0:=h0.keep isn;have hPn:=h0.fresh (o:=.map (eSS [])) hsn;have hip2:=hPn.prg;refine gf hip2 ?_ o185;have d1:isn≠ip:=fun e=>by rw[e,hip]at hsn;cases hsn
  have d2:isn≠ic:=fun e=>by rw[e,h0.cls]at hsn;cases hsn
  have d3:isn≠is:=fun e=>by rw[e,h0.slo]at hsn;cases hsn
  have hn0':=A1 h0.prg hsn;have hB0:clsB f=clsE [] [] [] f.classes:=by unfold clsB;rw[decide_eq_true h10,Bool.true_and]
  refine Ua [0,2,30,31,147,148,149,150,151,152,153,154,155] (fun (i:Nat) (S1:Sig) (hs:List (List Str)) (d:D)=>i<=f.classes.length/\hs.length=i/\S1 isn=some (.map (eSS ((f.classes.take i).map (·.name))))/\PS f ip ic is V S1 ((f.classes.take i).map (·.name)) ((f.classes.take i).flatMap (·.slots)) hs d 0/\clsB f=clsE ((f.classes.take i).map (·.name)) ((f.classes.take i).flatMap (·.slots)) hs (f.classes.drop i)) (fun i _ _ _=>[(32,dI i)]) (fun _ S1 _ _=>S1) (fun i _ _ _=>f.classes.length-i) (0) (_) ([]) (.nils) (by exact⟨by omega,rfl,w7 .., hPn,hB0⟩) (fun i S1 hs d hI=>?_);obtain⟨hi,hhl,hsn1,hP,hB⟩:=hI;have hip1:=hP.prg
  by_cases hil:i<f.classes.length
  ·rw [A3 hil,clsE] at hB;have hcw:=p4 i hil;have hnl:((f.classes.take i).map (·.name)).length=i:=by simp;omega
   generalize hcl:f.classes[i]=c at*;obtain⟨c1,c2,c3,c4,c5⟩:=c.wt_le;have c2':=Bk c.parents;have c3':=Bk c.slots;generalize hnm:(f.classes.take i).map (·.name)=names at*;generalize hsl:(f.classes.take i).flatMap (·.slots)=slots at*
   by_cases hlen:c.parents.length<=3/\c.slots.length<=4
   ·rw [decide_eq_true hlen,Bool.true_and] at hB;refine gf hcl ?_ o185;refine KP (fun im him=>?_);refine KP (fun ia hia=>?_);refine KP (fun ii hii=>?_);have hi0':∀{S':Sig} {names slots hs d n},PS f ip ic is V S' names slots hs d n->∀k,S' k=none->V k=none:=fun h=>h.non;have hi0:=hi0' hP;obtain⟨ea,ha1⟩:=Aa hia;obtain⟨ei,hi1⟩:=Aa hii;obtain⟨ei2,hi2⟩:=Aa hi1
    have hD:Dst ip ic is isn im ia ii:=⟨A9 hP.prg hP.cls (by simp),A9 hP.prg hP.slo (by simp),A9 hP.prg hsn1 (by simp),A1 hP.prg him,A1 hP.prg ha1,A1 hP.prg hi2,
     hcs,Ne.symm d2,A1 hP.cls him,A1 hP.cls ha1,A1 hP.cls hi2,Ne.symm d3,A1 hP.slo him,A1 hP.slo ha1,A1 hP.slo hi2,A1 hsn1 him,A1 hsn1 ha1,A1 hsn1 hi2,Ne.symm ea,Ne.symm ei2,Ne.symm ei⟩
    have hS0:IS f ip ic is isn im ia ii V (((S1.set im (.map (eSS []))).set ia (.map (eSS []))).set ii (.map (eSS []))) names slots hs d names [] [] []:=
     ⟨((hP.fresh him).fresh hia).fresh hii,by rw[w8 _ _ hD.d3,w8 _ _ hD.d2,w8 _ _ hD.d1];exact hsn1,by rw[w8 _ _ hD.e2,w8 _ _ hD.e1,w7],by rw[w8 _ _ hD.e3,w7],w7 ..⟩
    have z1:=hi0 im him;have z2:=hi0 ia ha1;have z3:=hi0 ii hi2;have z4:V isn=none:=hsn;clear hn0;generalize (((S1.set im (.map (eSS []))).set ia (.map (eSS []))).set ii (.map (eSS [])))=S2 at*;refine gf hcl ?_ o185;refine FG [0,2,3,4,5,6,7,14,16,30,31,32,33,34,35,36,37,38,39,40,41,42,43,44,45,46,47,48,49,50,51,52,53,87,88,89,90,91,92,93,94,95,96,97,98,99,100,101,102,103,104,105,106,107,108,109,110,111,112,113,114,115,116,117,118,119,120,121,122,123,124,125,126,127,128,129,130,131,132,133,134,135,136,137,138,139,140,141,142,143,144,145,146,147,148,149,150,151,152,153,154,155] (fun (j:Nat) (S3:Sig) (t:List Str)=>j<=c.parents.length/\IS f ip ic is isn im ia ii V S3 names slots hs d names t (c.parents.take j) []/\(∀x,x∈t ↔ x∈(c.parents.take j).flatMap (M7 names hs))/\clsB f=(parE names (c.parents.take j) (c.parents.drop j)&&(sloE slots c.slots&&(iniE (Dy names hs c) [] c.inits&&((B7 c.name&&!decide (c.name∈names))&&clsE (names++[c.name]) (slots++c.slots) (hs++[Dy names hs c]) (f.classes.drop (i+1))))))) (fun j _ _=>[(54,dI j)]) (fun _ S3 _=>S3) (fun j _ _=>c.parents.length-j) (0) (S2) ([]) (by exact⟨by omega,hS0,by simp,hB⟩) (fun j S3 t hI=>?_);clear hB;obtain⟨hj,hS,ht,hB⟩:=hI
    by_cases hjl:j<c.parents.length
    ·rw [A3 hjl,parE] at hB;have o1:=hS.ps.prg;have o2:=hS.ps.cls;have hpl:(c.parents[j]).length<=1073741824:=by have:=Nj c.parents j hjl;omega
     by_cases hmem:c.parents[j]∈names
     ·rw [decide_eq_true hmem,Bool.true_and] at hB;obtain⟨g1,g2,g3⟩:=Uk hmem;refine gf (gi hcl (gi o1 (gi o2 (gi E7 hmem)))) ?_ o185;refine Ab (DS c.parents[j] ia (c.parents.take j) S3 hS.oa hpl) (fun e S4 hr=>?_) (fun e S4 hr=>?_)
      ·rcases hr with⟨q1,q2,hU4⟩|⟨_,q2,_⟩
       ·simp only[DE.ret.injEq]at q2;subst q2;rw[q1,Bool.true_and]at hB;have hS4:=hS.seta hD z2 (c.parents.take j++[c.parents[j]]);rw[<-hU4,<-AR hjl]at hS4;rw[<-AR hjl]at hB;clear hU4;have o3:=hS4.ps.prg;rcases hS4.ps.has with⟨hh0,_⟩|⟨ih,hd,hih,_⟩
        ·rw[hh0]at hhl;simp at hhl;omega
        ·obtain⟨q,hq⟩:∃q:Nat,getM 0 c.parents[j] (Bm names 0)=(q:Int):=⟨(getM 0 c.parents[j] (Bm names 0)).toNat,by omega⟩;have hqh:q<hs.length:=by omega
         have hat:M7 names hs c.parents[j]=hs[q]:=by unfold M7;rw[show(idxG c.parents[j] names 0).toNat=q by omega,List.getElem?_eq_getElem hqh];rfl
         have hcm:cM hs[q]=[.cmap (hs[q].map .str) (hs[q].map fun _=>.bool true)]:=rfl;rw[hd]at o3;refine gf (gi o3 (gi hq hcm)) ?_ o185;refine rng (kt:=9) (et:=4) (l:=eSS hs[q]) (fun it hit=>?_) (hx:=by rw[<-QH];with_unfolding_all rfl);have hS5:=hS4.fresh (o:=.iter (eSS hs[q]) none) hit;have z5:=hi0' hS4.ps it hit;refine gz ?_ o185;refine Ua [0,2,3,4,5,6,7,9,10,11,14,16,30,31,32,33,34,35,36,37,38,39,40,41,42,43,44,45,46,47,48,49,50,51,52,53,54,55,56,57,58,59,60,61,62,63,64,65,66,67,68,69,70,71,72,73,74,75,76,77,78,79,86,87,88,89,90,91,92,93,94,95,96,97,98,99,100,101,102,103,104,105,106,107,108,109,110,111,112,113,114,115,116,117,118,119,120,121,122,123,124,125,126,127,128,129,130,131,132,133,134,135,136,137,138,139,140,141,142,143,144,145,146,147,148,149,150,151,152,153,154,155] (fun (L:List Str) (u:List Str) (S5:Sig) (la:Option (D×D))=>(∀x,(x∈u\/x∈L) ↔ (x∈t\/x∈hs[q]))/\IS f ip ic is isn im ia ii V S5 names slots hs d names u (c.parents.take (j+1)) []/\S5 it=some (.iter (eSS L) la)) (fun _ _ _ _=>[]) (fun _ _ S5 _=>S5) (fun L _ _ _=>L.length) (hs[q]) (t) (_) (none) (by exact⟨fun x=>Iff.rfl,hS5,w7 ..⟩) (fun L u S5 la hI=>?_);obtain⟨hL,hS6,hit6⟩:=hI;refine gz ?_ o185
         refine nxt (fun hL0=>?_) (fun jj k v hkv=>?_) (hi:=hit6)
         ·have hL1:L=[]:=by unfold eSS eS at hL0;simpa using hL0
          subst hL1;refine gz ?_ o185;exact⟨j+1,S5,u,by refine⟨by omega,hS6,fun x=>?_,hB⟩;rw[AR hjl,List.flatMap_append,List.mem_append,<-ht x,List.flatMap_cons,List.flatMap_nil,List.append_nil,hat,<-hL x];simp,td1,wkR⟩
         ·obtain⟨hjj,rfl,rfl⟩:=Tm hkv;rw[MM];have hS7:=hS6.iter (o:=.iter (eSS (L.eraseIdx jj)) (some (D.str L[jj],D.bool true))) z5 hit6;have o7:=hS7.om;refine gz ?_ o185;refine ent ?_;refine gf o7 ?_ o185;have hle:(L.eraseIdx jj).length<L.length:=by rw[List.length_eraseIdx,if_pos hjj];omega
          have hti:it≠im:=fun e=>by rw[e,hS6.om]at hit6;cases hit6
          exact⟨L.eraseIdx jj,ins L[jj] u,_,_,by refine⟨fun x=>?_,hS7.setm hD z1 _,by rw[w8 _ _ hti];exact w7 ..⟩;rw[Ir,<-hL x,Is hjj x];grind,td1,wkR⟩
       ·cases q2
      ·rcases hr with⟨_,q2,_⟩|⟨q1,q2,hU4⟩
       ·cases q2
       ·have hF:clsB f=false:=by rw[hB,q1];rfl
        simp only[DE.panic.injEq]at q2;subst q2 hU4;exact finP (S':=_) (hpan hF _ _ _ _ _ _ hS.ps)
     ·have hF:clsB f=false:=by rw[hB,decide_eq_false hmem];rfl
      repeat' first|(exact finP (S':=S3) (hpan hF _ _ _ _ _ _ hS.ps))|refine gf (gi hcl (gi o1 (gi o2 (gi E7 hmem)))) ?_ o185|apply gy<;>intro hh
    ·rw [A2 hjl,parE,Bool.true_and] at hB;rw[List.take_of_length_le (by omega)]at hS ht;refine gf hcl ?_ o185;refine FG [0,2,3,4,5,6,7,9,10,11,12,16,30,31,32,33,34,35,36,37,38,39,40,41,42,43,44,45,46,47,48,49,50,51,52,53,54,55,56,57,58,59,60,61,62,63,64,65,66,67,68,69,70,71,72,73,74,75,76,77,78,79,80,81,82,83,84,85,86,87,88,89,103,104,105,106,107,108,109,110,111,112,113,114,115,116,117,118,119,120,121,122,123,124,125,126,127,128,129,130,131,132,133,134,135,136,137,138,139,140,141,142,143,144,145,146,147,148,149,150,151,152,153,154,155] (fun (k:Nat) (S4:Sig) (u:List Str)=>k<=c.slots.length/\IS f ip ic is isn im ia ii V S4 names (slots++c.slots.take k) hs d names u c.parents []/\(∀x,x∈u ↔ (x∈c.parents.flatMap (M7 names hs)\/x∈c.slots.take k))/\clsB f=(sloE (slots++c.slots.take k) (c.slots.drop k)&&(iniE (Dy names hs c) [] c.inits&&((B7 c.name&&!decide (c.name∈names))&&clsE (names++[c.name]) (slots++c.slots) (hs++[Dy names hs c]) (f.classes.drop (i+1)))))) (fun k _ _=>[(90,dI k)]) (fun _ S4 _=>S4) (fun k _ _=>c.slots.length-k) (0) (S3) (t) (by exact⟨by omega,by simpa using hS,by simpa using ht,by simpa using hB⟩) (fun k S4 u hI=>?_);clear hB hS ht;obtain⟨hk,hS,ht,hB⟩:=hI
     by_cases hkl:k<c.slots.length
     ·rw[A3 hkl,sloE]at hB;have o1:=hS.ps.prg;have hpl:(c.slots[k]).length<=1073741824:=by have:=Nj c.slots k hkl;omega
      refine gf (gi hcl o1) ?_ o185;refine Ab (DS c.slots[k] is (slots++c.slots.take k) S4 hS.ps.slo hpl) (fun e S5 hr=>?_) (fun e S5 hr=>?_)
      ·rcases hr with⟨q1,q2,hU5⟩|⟨_,q2,_⟩
       ·simp only[DE.ret.injEq]at q2;subst q2;have hS5:=hS.sets hD (slots++c.slots.take k++[c.slots[k]]);rw[<-hU5,List.append_assoc,<-AR hkl]at hS5;rw[q1,Bool.true_and,List.append_assoc,<-AR hkl]at hB;clear hU5;have o3:=hS5.om;refine gf o3 ?_ o185;exact⟨k+1,_,ins c.slots[k] u,by refine⟨by omega,hS5.setm hD z1 _,fun x=>?_,hB⟩;rw[Ir,ht x,AR hkl,List.mem_append,List.mem_singleton];grind,td1,wkR⟩
       ·cases q2
      ·rcases hr with⟨_,q2,_⟩|⟨q1,q2,hU5⟩
       ·cases q2
       ·have hF:clsB f=false:=by rw[hB,q1];rfl
        simp only[DE.panic.injEq]at q2;subst q2 hU5;exact finP (S':=_) (hpan hF _ _ _ _ _ _ hS.ps)
     ·rw [A2 hkl,sloE,Bool.true_and] at hB;rw[List.take_of_length_le (by omega)]at hS ht;have htm:∀x,x∈u ↔ x∈Dy names hs c:=fun x=>by rw[ht x,Dy,List.mem_append]
      rw[<-GU htm]at hB;refine gf hcl ?_ o185;refine Br [0,2,3,4,5,6,7,9,10,11,12,14,30,31,32,33,34,35,36,37,38,39,40,41,42,43,44,45,46,47,48,49,50,51,52,53,54,55,56,57,58,59,60,61,62,63,64,65,66,67,68,69,70,71,72,73,74,75,76,77,78,79,80,81,82,83,84,85,86,87,88,89,90,91,92,93,94,95,96,97,98,99,100,101,102,103,104,105,125,126,127,128,129,130,131,132,133,134,135,136,137,138,139,140,141,142,143,144,145,146,147,148,149,150,151,152,153,154,155] (fun (q:Nat) (S5:Sig)=>q<=c.inits.length/\IS f ip ic is isn im ia ii V S5 names (slots++c.slots) hs d names u c.parents ((c.inits.take q).map (·.slot))/\clsB f=(iniE u ((c.inits.take q).map (·.slot)) (c.inits.drop q)&&((B7 c.name&&!decide (c.name∈names))&&clsE (names++[c.name]) (slots++c.slots) (hs++[Dy names hs c]) (f.classes.drop (i+1))))) (fun q _=>[(106,dI q)]) (fun _ S5=>S5) (fun q _=>c.inits.length-q) (0) (S4) (by exact⟨by omega,by simpa using hS,by simpa using hB⟩) (fun q S5 hI=>?_);clear hB hS;obtain⟨hq,hS,hB⟩:=hI
      by_cases hql:q<c.inits.length
      ·rw [A3 hql,iniE] at hB;have o1:=hS.om;have hpl:(c.inits[q]).slot.length<=1073741824:=by have:=c5 q hql;omega
       generalize hx:c.inits[q]=x at*;cases hc1:decide (x.slot∈u)&&inB x.n with
       |false=>
        have hF:clsB f=false:=by rw[hB,hc1];rfl
        repeat' first|(exact finP (S':=_) (hpan hF _ _ _ _ _ _ hS.ps))|refine gf (gi hcl (gi o1 hx)) ?_ o185|apply gy<;>intro hh
        rename_i k1;rw[decide_eq_true k1,hh]at hc1;cases hc1
       | true =>
        rw[hc1,Bool.true_and]at hB;simp only[Bool.and_eq_true,decide_eq_true_eq]at hc1;refine gf (gi hcl (gi o1 (gi hx (gi hc1.1 hc1.2)))) ?_ o185;refine Ab (DS x.slot ii ((c.inits.take q).map (·.slot)) S5 hS.oi hpl) (fun e S6 hr=>?_) (fun e S6 hr=>?_)
        ·rcases hr with⟨q1,q2,hU6⟩|⟨_,q2,_⟩
         ·simp only[DE.ret.injEq]at q2;subst q2;have e3:(c.inits.take (q+1)).map (·.slot)=(c.inits.take q).map (·.slot)++[x.slot]:=by rw[AR hql,List.map_append,hx];rfl
          have hS6:=hS.seti hD z3 ((c.inits.take q).map (·.slot)++[x.slot]);rw[<-hU6,<-e3]at hS6;rw[q1,Bool.true_and,<-e3]at hB;clear hU6;refine gz ?_ o185;exact⟨q+1,_,⟨by omega,hS6,hB⟩,td1,wkR⟩
         ·cases q2
        ·rcases hr with⟨_,q2,_⟩|⟨q1,q2,hU6⟩
         ·cases q2
         ·have hF:clsB f=false:=by rw[hB,q1];rfl
          simp only[DE.panic.injEq]at q2;subst q2 hU6;exact finP (S':=_) (hpan hF _ _ _ _ _ _ hS.ps)
      ·rw [A2 hql,iniE,Bool.true_and] at hB;refine gz ?_ o185;refine Ab (DS c.name isn names S5 hS.osn (by omega)) (fun e S6 hr=>?_) (fun e S6 hr=>?_)
       ·rcases hr with⟨q1,q2,hU6⟩|⟨_,q2,_⟩
        ·simp only[DE.ret.injEq]at q2;subst q2;have hS6:=hS.setn hD z4 (names++[c.name]);rw[<-hU6]at hS6;rw[q1,Bool.true_and]at hB;have hnn:¬c.name∈names:=by simp only[Bool.and_eq_true,Bool.not_eq_true',decide_eq_false_iff_not]at q1;exact q1.2
         clear hU6;refine gz ?_;have hdl:=hS6.delm hD z1;refine dwp_wk (HL (t:=5) hS6.om (by exact Au tdR)) ?_;rw[Tn,Tl];have hsn7:(S6.del im) isn=some (.map (eSS (names++[c.name]))):=by simp only[Sig.del,hD.d1,if_false];exact hS6.osn
         clear hS hS6;generalize S6.del im=S7 at*;have o1:=hdl.prg;have o2:=hdl.cls;have hP8:=hdl.setc hD.a1 hD.b1 hnn;have hpx:putM c.name (i:Int) (Bm names 0)=Bm (names++[c.name]) 0:=by have:=R5 c.name names 0 hnn;rw[hnl]at this;simpa using this
         have hsn8:(S7.set ic (.map (eSN (Bm (names++[c.name]) 0)))) isn=some (.map (eSS (names++[c.name]))):=by rw[w8 _ _ (Ne.symm hD.b2)];exact hsn7
         have o3:=hP8.prg
         have hmu:SameE (hs++[Dy names hs c]) (hs++[u]):=by
          refine⟨by simp,fun k x=>?_⟩
          by_cases h1:k<hs.length
          ·rw[List.getElem?_append_left h1,List.getElem?_append_left h1]
          ·rw[List.getElem?_append_right (by omega),List.getElem?_append_right (by omega)]
           by_cases h2:k-hs.length=0
           ·rw[h2];simpa using(htm x).symm
           ·rw[List.getElem?_eq_none (by simp;omega),List.getElem?_eq_none (by simp;omega)]
         rw[Kl _ _ _ _ _ hmu]at hB;have hn2:(f.classes.take (i+1)).map (·.name)=names++[c.name]:=by rw[AR hil,List.map_append,hnm,hcl];rfl
         have hs2:(f.classes.take (i+1)).flatMap (·.slots)=slots++c.slots:=by rw[AR hil,List.flatMap_append,hsl,hcl];simp
         rcases hP8.has with⟨hh0,hd0⟩|⟨ih,hd0,hih,hih0⟩
         ·subst hh0;rw[hd0]at o1 o3 hP8 hdl;refine gf (gi o1 (gi o2 (gi o3 hpx))) ?_ o185;refine appN (fun ih hih=>?_);have hpi:ip≠ih:=A1 hP8.prg hih;have hP9:=hP8.fresh (o:=.tail 1 1) hih;have o4:=hP9.prg;rw[show DObj.tail (tab 253).size ([[D.cmap (u.map D.str) (u.map fun _=>D.bool true)]]:List (List D)).length=.tail 1 1 by simp];refine gf (gi o4 o3) ?_ o185;have hP10:=hP9.setp (d':=.slice (cMs ([]++[u])) (.tag ih)) (n':=0) (hs':=[]++[u]) hD.a1 hD.a2 (.inr ⟨ih,rfl,by rw[w8 _ _ (Ne.symm hpi),w7];rfl,hP8.non ih hih⟩);exact⟨i+1,_,[]++[u],_,by refine⟨by omega,by simp at hhl⊢; omega,?_,by rw[hn2,hs2];exact hP10,by rw[hn2,hs2];exact hB⟩;rw[hn2,w8 _ _ (Ne.symm hD.a3),w8 _ _ (A1 hsn8 hih)];exact hsn8,td1,wkR⟩
         ·have hpi:ip≠ih:=A9 hP8.prg hih (by simp);rw[hd0]at o1 o3 hP8;refine gf (gi o1 (gi o2 (gi o3 (gi hpx (gi hih hpi))))) ?_ o185;have hci:ic≠ih:=A9 hP8.cls hih (by simp);have hsi:is≠ih:=A9 hP8.slo hih (by simp);have hni:isn≠ih:=A9 hsn8 hih (by simp)
          have hP10:PS f ip ic is V (((S7.set ic (.map (eSN (Bm (names++[c.name]) 0)))).set ih (.tail 1 (hs.length+1))).set ip (pObj f ic is (.slice (cMs (hs++[u])) (.tag ih)) 0)) (names++[c.name]) (slots++c.slots) (hs++[u]) (.slice (cMs (hs++[u])) (.tag ih)) 0:=
           ⟨w7 .., by rw [w8 _ _ (Ne.symm hD.a1),w8 _ _ hci];exact hP8.cls,by rw [w8 _ _ (Ne.symm hD.a2),w8 _ _ hsi];exact hP8.slo, .inr ⟨ih,rfl,by rw [w8 _ _ (Ne.symm hpi),w7,List.length_append];rfl,hih0⟩,fun j x h1 h2=>by
            rw[w8 _ _ fun e=>h2 (.inl e),w8 _ _ fun e=>by rw[e,hih0]at h1;cases h1];exact hP8.keep j x h1 h2⟩
          rw[<-cMs_app]at hP10;exact⟨i+1,_,hs++[u],_,by refine⟨by omega,by rw[List.length_append,hhl];rfl,?_,by rw[hn2,hs2];exact hP10,by rw[hn2,hs2];exact hB⟩;rw[hn2,w8 _ _ (Ne.symm hD.a3),w8 _ _ hni];exact hsn8,td1,wkR⟩
        ·cases q2
       ·rcases hr with⟨_,q2,_⟩|⟨q1,q2,hU6⟩
        ·cases q2
        ·have hF:clsB f=false:=by rw[hB,q1];rfl
         simp only[DE.panic.injEq]at q2;subst q2 hU6;exact finP (S':=_) (hpan hF _ _ _ _ _ _ hS.ps)
   ·have hF:clsB f=false:=by rw[hB,decide_eq_false hlen];rfl
    repeat' first|(exact finP (S':=S1) (hpan hF _ _ _ _ _ _ hP))|refine gf hcl ?_ o185|apply gy<;>intro hh
    all_goals (exfalso;omega)
  ·have hil2:i=f.classes.length:=by omega
   subst hil2;rw[A2 hil,clsE]at hB;rw[List.take_length]at hP;have hdd:=hP.has;refine gf hip1 ?_ o185;refine Dl (S':=_) ?_;unfold ClsR;rw[hB,if_pos rfl];exact⟨rfl,hs,d,hP.setp (A9 hP.prg hP.cls (by simp)) (A9 hP.prg hP.slo (by simp)) (hP.has.set (by rw[hip1];simp))⟩
 ·have hF:clsB f=false:=by unfold clsB;rw[decide_eq_false h10];rfl
  repeat' first|(exact finP (S':=V) (hpan hF _ _ _ _ _ _ h0))|refine gf hip ?_ o185|apply gy<;>intro hh
def pE(x:FExp):D:=.iface 308 (.agg (AO x))
def pEs(l:List FExp):List (List D):=l.map fun x=>[pE x]
@[simp] theorem pEs_len(l:List FExp):(pEs l).length=l.length:=by simp[pEs]
@[simp] theorem pEs_get(l:List FExp)(k:Nat):(pEs l)[k]? = (l[k]?).map fun x=>[pE x]:=by simp[pEs]
@[simp] theorem pEs_all(l:List FExp):(pEs l).all (fun c=>c.length==1)=true:=by simp[pEs]
theorem pEs_app(l:List FExp)(x:FExp):pEs l++[[.iface 308 (.agg (AO x))]]=pEs (l++[x]):=by simp[pEs,pE]
theorem Mk(x:FExp)(V:Sig)(hw:x.wt<=1073741824):DCall prog 330 [.agg (AO x)] V (rS (sl (pEs x.kids)) V):=by
 have hkl:x.kids.length<=1073741824:=by have:=x.wt_le;omega
 refine en func330 ntmps330 ?_;refine gz ?_;refine Cj 3 1 (fun i hi=>?_);refine Bj [2,8,9,21] (fun (k:Nat)=>k<=x.kids.length) (fun k=>[(10,dI k),(3,.slice (pEs (x.kids.take k)) (.tag i))]) (fun k=>V.set i (.tail 1 k)) (fun k=>x.kids.length-k) (0) (by simp) (fun k hI=>?_)
 by_cases h:k<x.kids.length
 ·have e:=pEs_app (x.kids.take k) x.kids[k];rw[<-AR h]at e;refine gf (gi h e) ?_;exact⟨k+1,by omega,td1,wkR⟩
 ·rw[show x.kids.take k=x.kids from List.take_of_length_le (by omega)];refine gf h ?_;exact finS (S':=V) (es:=pEs x.kids) ⟨by rfl,rfl⟩
theorem Rn : Jc prog 308 "consort/shape.parts" 330 := by
 intro v w;kernel_rfl
mutual
def visE{S:Type}(step:Int->FExp->S->Option S):FExp->Int->S->Option S
 |.mk o n t k,d,s=>match step d (.mk o n t k) s with
  |none=>none
  |some s'=>CF step k (d+1) s'
def CF{S:Type}(step:Int->FExp->S->Option S):List FExp->Int->S->Option S
 |[],_,s=>some s
 |x::r,d,s=>match visE step x d s with
  |none=>none
  |some s'=>CF step r d s'
end
theorem KA{S:Type}(step:Int->FExp->S->Option S)(x:FExp)(d:Int)(s:S):visE step x d s=match step d x s with
  |none=>none
  |some s'=>CF step x.kids (d+1) s':=by cases x;rw[visE];rfl
theorem PX{S:Type}(l i:Nat)(Good:Sig->S->Prop)(Bad:Sig->Prop)(touch:Nat->Prop)(step:Int->FExp->S->Option S)(hti:¬touch i)
  (hy:∀(d:Int) (x:FExp) V s,1<=d->d<=2147483648->x.wt<=1073741824->Good V s->DYield prog l [dI d,pE x] V (OutO unf2 (.bool true) Good Bad touch V (step d x s))) :
  ∀(n:Nat) (x:FExp) (d:Int) V s,x.wt<=n->n<=1073741824->1<=d->d+n<=2147483648->Good V s->V i=some (.cells [.func (.func 279) [] [.cptr [.yld l] 0,.ptr i 0]])->
   DCall prog 279 [pE x,dI d,.cptr [.yld l] 0,.ptr i 0] V (OutO unf2 (.bool true) Good Bad touch V (visE step x d s)):=by
 intro n
 induction n with
 |zero=>
  intro x d V s hx;have:=x.wt_pos;omega
 | succ n ih =>
  intro x d V s hx hn hd hd2 hG hi;have hpx:pE x=.iface 308 (.agg (AO x)):=rfl;refine en func279 ntmps279 ?_;refine gz ?_;refine yldW (hy d x V s hd (by omega) (by omega) hG) (fun e S' hr=>?_) (fun e S' hr=>?_)
  ·obtain⟨s',hst,rfl,hG',hK⟩:=hr.ret;have hi':=hK i _ hi hti;rw[KA,hst];simp only;have hw3:∀(k:Nat) (h:k<x.kids.length),(x.kids[k]).wt<x.wt:=by have:=x.wt_le;grind
   have hkl:x.kids.length<=1073741824:=by have:=x.wt_le;omega
   refine gz ?_;refine invW Rn (Mk x S' (by omega)) (fun e S2 hr=>?_) (fun e S2 hr=>by cases hr.1) (hx:=by exact hpx);obtain⟨h1,h2⟩:=hr;simp only[DE.ret.injEq]at h1;subst h1;rw[h2];clear h2 S2;refine gz ?_;refine FG [1,3,15,16] (fun (j:Nat) (s1:S) (S1:Sig)=>j<=x.kids.length/\Good S1 s1/\CF step x.kids (d+1) s'=CF step (x.kids.drop j) (d+1) s1/\(∀j o,V j=some o->¬touch j->S1 j=some o)) (fun j _ _=>[(17,dI j)]) (fun _ _ S1=>S1) (fun j _ _=>x.kids.length-j) (0) (s') (S') (by exact⟨by omega,hG',rfl,hK⟩) (fun j s1 S1 hI=>?_);obtain⟨hj,hG1,hR,hK1⟩:=hI;have hi1:=hK1 i _ hi hti
   by_cases hj':j<x.kids.length
   ·rw[A3 hj',CF]at hR;refine gf hi1 ?_;refine Ab (ih x.kids[j] (d+1) S1 s1 (by have:=hw3 j hj';omega) (by omega) (by omega) (by omega) hG1 hi1) (fun e S2 hr=>?_) (fun e S2 hr=>?_)
    ·obtain⟨s2,hs2,rfl,hG2,hK2⟩:=hr.ret;rw[hs2]at hR;refine gz ?_;exact⟨j+1,s2,S2,⟨by omega,hG2,hR,fun j o h1 h2=>hK2 _ _ (hK1 _ _ h1 h2) h2⟩,td1,wkR⟩
    ·obtain⟨hn,rfl,hb⟩:=hr.pan;rw[hn]at hR;rw[hR];exact finP (S':=S2) ⟨rfl,hb⟩
   ·rw[A2 hj',CF]at hR;rw[hR];refine gz ?_;refine fin1 (S':=S1) ?_;exact⟨rfl,hG1,hK1⟩
  ·obtain⟨hst,rfl,hb⟩:=hr.pan;rw[KA,hst];exact finP (S':=S') ⟨rfl,hb⟩
theorem JV{S:Type}(l:Nat)(Good:Sig->S->Prop)(Bad:Sig->Prop)(touch:Nat->Prop)(step:Int->FExp->S->Option S)
  (hy:∀(d:Int) (x:FExp) V s,1<=d->d<=2147483648->x.wt<=1073741824->Good V s->DYield prog l [dI d,pE x] V (OutO unf2 (.bool true) Good Bad touch V (step d x s)))
  (hm : ∀ V s a o,Good V s->V a=none->Good (V.set a o) s) (x:FExp) (V:Sig) (s:S) (ht : ∀ a,V a=none -> ¬ touch a) (hx:x.wt<=1073741824) (hG:Good V s) :
   DCall prog 278 [.yld l,.cptr [pE x] 0] V (OutO unf2 (.tup []) Good Bad touch V (visE step x 1 s)):=by
 refine en func278 ntmps278 ?_;refine gz ?_ [] [3];refine newV (fun a ha=>?_);refine gz ?_ [] [3];refine Ab (PX l a Good Bad touch step (ht a ha) hy x.wt x 1 (V.set a _) s (Nat.le_refl _) hx (by omega) (by omega) (hm _ _ _ _ hG ha) (w7 ..)) (fun e S' hr=>?_) (fun e S' hr=>?_)
 ·obtain⟨s',hs',rfl,hG',hK⟩:=hr.ret;rw[hs'];refine gz ?_ [] [3];refine Dl (S':=S') ?_;exact⟨rfl,hG',fun j o h1 h2=>hK j o (by rw[w8 _ _ fun e=>by rw[e,ha]at h1;cases h1];exact h1) h2⟩
 ·obtain⟨hn,rfl,hb⟩:=hr.pan;rw[hn];exact finP (S':=S') ⟨rfl,hb⟩
theorem Q8(x:FExp)(V:Sig):DCall prog 241 [pE x] V (rS (.func (.func 278) [] [.cptr [pE x] 0]) V):=by
 have hpx:pE x=.iface 308 (.agg (AO x)):=rfl;rw[hpx];refine en func241 ntmps241 ?_;refine gz ?_;exact fe1 trivial
@[reducible,instance] def a241e:=fun x V=>ah0 (@Q8 x V)
def pF(x:FFact):D:=.iface 316 (.agg (AV x))
def pFs(l:List FFact):List (List D):=l.map fun x=>[pF x]
@[simp] theorem pFs_len(l:List FFact):(pFs l).length=l.length:=by simp[pFs]
@[simp] theorem pFs_get(l:List FFact)(k:Nat):(pFs l)[k]? = (l[k]?).map fun x=>[pF x]:=by simp[pFs]
@[simp] theorem pFs_all(l:List FFact):(pFs l).all (fun c=>c.length==1)=true:=by simp[pFs]
theorem pFs_app(l:List FFact)(x:FFact):pFs l++[[.iface 316 (.agg (AV x))]]=pFs (l++[x]):=by simp[pFs,pF]
theorem RO(x:FFact)(V:Sig)(hw:x.wt<=1073741824):DCall prog 331 [.agg (AV x)] V (rS (sl (pFs x.kids)) V):=by
 have hkl:x.kids.length<=1073741824:=by have:=x.wt_le;omega
 refine en func331 ntmps331 ?_;refine gz ?_;refine Cj 3 1 (fun i hi=>?_);refine Bj [2,8,9,21] (fun (k:Nat)=>k<=x.kids.length) (fun k=>[(10,dI k),(3,.slice (pFs (x.kids.take k)) (.tag i))]) (fun k=>V.set i (.tail 1 k)) (fun k=>x.kids.length-k) (0) (by simp) (fun k hI=>?_)
 by_cases h:k<x.kids.length
 ·have e:=pFs_app (x.kids.take k) x.kids[k];rw[<-AR h]at e;refine gf (gi h e) ?_;exact⟨k+1,by omega,td1,wkR⟩
 ·rw[show x.kids.take k=x.kids from List.take_of_length_le (by omega)];refine gf h ?_;exact finS (S':=V) (es:=pFs x.kids) ⟨by rfl,rfl⟩
theorem meth331 : Jc prog 316 "consort/shape.parts" 331 := by
 intro v w;kernel_rfl
mutual
def visF{S:Type}(step:Int->FFact->S->Option S):FFact->Int->S->Option S
 |.mk o nm pa cl n k,d,s=>match step d (.mk o nm pa cl n k) s with
  |none=>none
  |some s'=>Fl step k (d+1) s'
def Fl{S:Type}(step:Int->FFact->S->Option S):List FFact->Int->S->Option S
 |[],_,s=>some s
 |x::r,d,s=>match visF step x d s with
  |none=>none
  |some s'=>Fl step r d s'
end
theorem QM{S:Type}(step:Int->FFact->S->Option S)(x:FFact)(d:Int)(s:S):visF step x d s=match step d x s with
  |none=>none
  |some s'=>Fl step x.kids (d+1) s':=by cases x;rw[visF];rfl
theorem PW{S:Type}(l i:Nat)(Good:Sig->S->Prop)(Bad:Sig->Prop)(touch:Nat->Prop)(step:Int->FFact->S->Option S)(hti:¬touch i)
  (hy:∀(d:Int) (x:FFact) V s,1<=d->d<=2147483648->x.wt<=1073741824->Good V s->DYield prog l [dI d,pF x] V (OutO unf2 (.bool true) Good Bad touch V (step d x s))) :
  ∀(n:Nat) (x:FFact) (d:Int) V s,x.wt<=n->n<=1073741824->1<=d->d+n<=2147483648->Good V s->V i=some (.cells [.func (.func 279) [] [.cptr [.yld l] 0,.ptr i 0]])->
   DCall prog 279 [pF x,dI d,.cptr [.yld l] 0,.ptr i 0] V (OutO unf2 (.bool true) Good Bad touch V (visF step x d s)):=by
 intro n
 induction n with
 |zero=>
  intro x d V s hx;have:=x.wt_pos;omega
 | succ n ih =>
  intro x d V s hx hn hd hd2 hG hi;have hpx:pF x=.iface 316 (.agg (AV x)):=rfl;refine en func279 ntmps279 ?_;refine gz ?_;refine yldW (hy d x V s hd (by omega) (by omega) hG) (fun e S' hr=>?_) (fun e S' hr=>?_)
  ·obtain⟨s',hst,rfl,hG',hK⟩:=hr.ret;have hi':=hK i _ hi hti;rw[QM,hst];simp only;have hw3:∀(k:Nat) (h:k<x.kids.length),(x.kids[k]).wt<x.wt:=by have:=x.wt_le;grind
   have hkl:x.kids.length<=1073741824:=by have:=x.wt_le;omega
   refine gz ?_;refine invW meth331 (RO x S' (by omega)) (fun e S2 hr=>?_) (fun e S2 hr=>by cases hr.1) (hx:=by exact hpx);obtain⟨h1,h2⟩:=hr;simp only[DE.ret.injEq]at h1;subst h1;rw[h2];clear h2 S2;refine gz ?_;refine FG [1,3,15,16] (fun (j:Nat) (s1:S) (S1:Sig)=>j<=x.kids.length/\Good S1 s1/\Fl step x.kids (d+1) s'=Fl step (x.kids.drop j) (d+1) s1/\(∀j o,V j=some o->¬touch j->S1 j=some o)) (fun j _ _=>[(17,dI j)]) (fun _ _ S1=>S1) (fun j _ _=>x.kids.length-j) (0) (s') (S') (by exact⟨by omega,hG',rfl,hK⟩) (fun j s1 S1 hI=>?_);obtain⟨hj,hG1,hR,hK1⟩:=hI;have hi1:=hK1 i _ hi hti
   by_cases hj':j<x.kids.length
   ·rw[A3 hj',Fl]at hR;refine gf hi1 ?_;refine Ab (ih x.kids[j] (d+1) S1 s1 (by have:=hw3 j hj';omega) (by omega) (by omega) (by omega) hG1 hi1) (fun e S2 hr=>?_) (fun e S2 hr=>?_)
    ·obtain⟨s2,hs2,rfl,hG2,hK2⟩:=hr.ret;rw[hs2]at hR;refine gz ?_;exact⟨j+1,s2,S2,⟨by omega,hG2,hR,fun j o h1 h2=>hK2 _ _ (hK1 _ _ h1 h2) h2⟩,td1,wkR⟩
    ·obtain⟨hn,rfl,hb⟩:=hr.pan;rw[hn]at hR;rw[hR];exact finP (S':=S2) ⟨rfl,hb⟩
   ·rw[A2 hj',Fl]at hR;rw[hR];refine gz ?_;refine fin1 (S':=S1) ?_;exact⟨rfl,hG1,hK1⟩
  ·obtain⟨hst,rfl,hb⟩:=hr.pan;rw[QM,hst];exact finP (S':=S') ⟨rfl,hb⟩
theorem JU{S:Type}(l:Nat)(Good:Sig->S->Prop)(Bad:Sig->Prop)(touch:Nat->Prop)(step:Int->FFact->S->Option S)
  (hy:∀(d:Int) (x:FFact) V s,1<=d->d<=2147483648->x.wt<=1073741824->Good V s->DYield prog l [dI d,pF x] V (OutO unf2 (.bool true) Good Bad touch V (step d x s)))
  (hm : ∀ V s a o,Good V s->V a=none->Good (V.set a o) s) (x:FFact) (V:Sig) (s:S) (ht : ∀ a,V a=none -> ¬ touch a) (hx:x.wt<=1073741824) (hG:Good V s) :
   DCall prog 278 [.yld l,.cptr [pF x] 0] V (OutO unf2 (.tup []) Good Bad touch V (visF step x 1 s)):=by
 refine en func278 ntmps278 ?_;refine gz ?_ [] [3];refine newV (fun a ha=>?_);refine gz ?_ [] [3];refine Ab (PW l a Good Bad touch step (ht a ha) hy x.wt x 1 (V.set a _) s (Nat.le_refl _) hx (by omega) (by omega) (hm _ _ _ _ hG ha) (w7 ..)) (fun e S' hr=>?_) (fun e S' hr=>?_)
 ·obtain⟨s',hs',rfl,hG',hK⟩:=hr.ret;rw[hs'];refine gz ?_ [] [3];refine Dl (S':=S') ?_;exact⟨rfl,hG',fun j o h1 h2=>hK j o (by rw[w8 _ _ fun e=>by rw[e,ha]at h1;cases h1];exact h1) h2⟩
 ·obtain⟨hn,rfl,hb⟩:=hr.pan;rw[hn];exact finP (S':=S') ⟨rfl,hb⟩
theorem Q7(x:FFact)(V:Sig):DCall prog 241 [pF x] V (rS (.func (.func 278) [] [.cptr [pF x] 0]) V):=by
 have hpx:pF x=.iface 316 (.agg (AV x)):=rfl;rw[hpx];refine en func241 ntmps241 ?_;refine gz ?_;exact fe1 trivial
@[reducible,instance] def a241f:=fun x V=>ah0 (@Q7 x V)
structure Sh where
 named:Bool
 lo:Int
 hi:Int
def cSh(s:Sh):D:=.agg [.bool s.named,dI s.lo,dI s.hi]
def eSh(m:List (Int×Sh)):List (D×D):=eM dI cSh m
theorem putSh(k:Int)(b:Bool)(x y:Int)(m:List (Int×Sh)):BL (.int .i64) (.int .i64 k) (.agg [.bool b,.int .i64 x,.int .i64 y]) (eSh m)=some (eSh (putM k ⟨b,x,y⟩ m)):=Ot keyI cSh k ⟨b,x,y⟩ m
theorem hitSh(k:Int)(m:List (Int×Sh)):hitD tab 369 true (Cs (.int .i64) (.int .i64 k) (eSh m) 0)=some (.tup [cSh (getM ⟨false,0,0⟩ k m),.bool (hasM k m)]):=L3 keyI cSh rfl k m
def shapesL:List (Int×Sh):=[(1,⟨false,0,0⟩),(2,⟨false,0,0⟩),(18,⟨false,0,0⟩),(3,⟨true,0,0⟩),(6,⟨true,0,0⟩),(4,⟨true,1,1⟩),(8,⟨true,1,1⟩),(7,⟨true,2,2⟩),(9,⟨true,2,2⟩),(5,⟨true,1,3⟩),(10,⟨false,3,3⟩),(17,⟨false,1,1⟩),(11,⟨false,2,2⟩),
 (12,⟨false,2,2⟩),(13,⟨false,2,2⟩),(14,⟨false,2,2⟩),(15,⟨false,2,2⟩),(16,⟨false,2,2⟩)]
def shKs:List D:=(eSh shapesL).map (·.1)
def shVs:List D:=(eSh shapesL).map (·.2)
theorem sh_zip:shKs.zip shVs=eSh shapesL:=rfl
theorem RV(V:Sig):DCall prog 302 [] V (rS (.cmap shKs shVs) V):=by
 refine en func302 ntmps302 ?_;refine gz ?_;refine newM (fun im him=>?_);rw[show DObj.map []=.map (eSh []) from rfl];refine gf putSh ?_
 have h18:∀k:Nat,k<=5->k<5->putM (12+(k:Int)) ⟨false,2,2⟩ (shapesL.take (13+k))=shapesL.take (13+(k+1)):=by
  intro k h1 h2;obtain rfl|rfl|rfl|rfl|rfl:k=0\/k=1\/k=2\/k=3\/k=4:=by omega
  all_goals rfl
 refine Bj [0,1,25] (fun (k:Nat)=>k<=5) (fun k=>[(2,dI (12+k))]) (fun k=>V.set im (.map (eSh (shapesL.take (13+k))))) (fun k=>5-k) (0) (by omega) (fun k hI=>?_)
 by_cases hk:k<5
 ·refine gf (gi putSh (h18 k hI hk)) ?_;exact⟨k+1,by omega,td1,wkR⟩
 ·obtain rfl:k=5:=by omega
  repeat ((fail_if_success (first|(refine cfr 25 (i:=im) (m:=eSh shapesL) (w7 ..) ?_)|fail));(refine goX1 trivial ?_))
  refine cfr 25 (i:=im) (m:=eSh shapesL) (w7 ..) ?_;rw[Sig.set_del _ _ him];refine gz ?_;exact fe1 trivial
@[reducible,instance] def a302:=fun V=>ah0 (@RV V)
def Nx(has:Bool)(sh:Sh)(e:FExp):Bool:=
 (has&&decide (sh.lo<=e.kids.length)&&decide (e.kids.length<=sh.hi)&&(sh.named == !decide (e.text=[])))&&((!sh.named||B7 e.text)&&(decide (e.n=0)||(decide (e.op=1)&&inB e.n)))
def EH(d:Int)(e:FExp):Bool:=decide (d<=12)&&Nx (hasM e.op shapesL) (getM ⟨false,0,0⟩ e.op shapesL) e
theorem Q4(e:FExp)(d:Int)(V:Sig)(hw:e.wt<=1073741824):DCall prog 274 [pE e,dI d] V fun x S'=>x=(if EH d e then .ret (.tup []) else .panic unf2)/\S'=V:=by
 have hpx:pE e=.iface 308 (.agg (AO e)):=rfl;obtain⟨w1,w2,w3⟩:=e.wt_le;refine en func274 ntmps274 ?_
 by_cases hd:d<=12
 ·refine gf hpx ?_;refine mix [1,2,3,0,4,5,6,7,8,9,10] [8,9] ?_;refine gz ?_ o274;refine moQR ?_;refine gf (gi sh_zip hitSh) ?_ o274;refine OA (fun ic hic=>?_);generalize hsh:getM ⟨false,0,0⟩ e.op shapesL=sh;have hcs:cSh sh=.agg [.bool sh.named,dI sh.lo,dI sh.hi]:=rfl;rw[show EH d e=Nx (hasM e.op shapesL) sh e by unfold EH;rw[decide_eq_true hd,hsh];rfl]
  repeat' first|(exact finP (S':=V) ⟨by rw[if_neg];first|(simp_all [Nx];done)|(simp[Nx];intros;omega),rfl⟩)|refine gf hcs ?_ o274|apply gy<;>intro hh
  all_goals refine Dl (S':=V) ⟨?_,rfl⟩
  all_goals (rw[if_pos];simp_all [Nx])
 ·have hF:EH d e=false:=by unfold EH;rw[decide_eq_false hd];rfl
  repeat' first|((with_reducible refine finP (S':=V) ?_);exact⟨by first|(simp[hF];done)|(simp_all [hF];done),rfl⟩)|refine gz ?_ o274|apply gy<;>intro hh
@[reducible,instance] def a274e:=fun e d V=>gh1 (@Q4 e d V)
def C1(op:Int):Bool:=decide (op=2\/op=3\/op=4)
def arF(op:Int):Int:=if op=5 then 1 else if op=6\/op=7 then 2 else 0
def Cl(x:FFact):Bool:=
 (decide (1<=x.op)&&decide (x.op<=7)&&(C1 x.op == !decide (x.name=[]))&&(C1 x.op||decide ((x.path.length:Int)=0))&&decide ((x.path.length:Int)<=2)&&(decide (x.op=2) == !decide (x.cls=[]))) &&
 ((decide (x.op=3\/x.op=4)&&inB x.n)||decide (x.n=0))&&decide (arF x.op=x.kids.length)
def El(d:Int)(x:FFact):Bool:=decide (d<=12)&&Cl x
theorem Q3(x:FFact)(d:Int)(V:Sig)(hw:x.wt<=1073741824):DCall prog 274 [pF x,dI d] V fun r S'=>r=(if El d x then .ret (.tup []) else .panic unf2)/\S'=V:=by
 have hpx:pF x=.iface 316 (.agg (AV x)):=rfl;obtain⟨w1,w2,w3,w4,w5⟩:=x.wt_le;have w6:x.path.length<=1073741824:=by have:=Bk x.path;omega
 have hk0:((0:Int)=(x.kids.length:Int))=(x.kids=[]):=by rw[<-List.length_eq_zero_iff];exact propext ⟨fun h=>by omega,fun h=>by omega⟩
 refine en func274 ntmps274 ?_
 by_cases hd:d<=12
 ·rw[show El d x=Cl x by unfold El;rw[decide_eq_true hd];rfl];rcases Decidable.em (x.op=2)with h2|h2
  ·repeat' first|(exact finP (S':=V) ⟨by rw[if_neg];first|(simp_all [Cl,C1,arF];done)|(simp_all [Cl,C1,arF];omega),rfl⟩)|refine gf (gi hpx h2) ?_ o274|apply gy<;>intro hh
   all_goals refine Dl (S':=V) ⟨?_,rfl⟩
   all_goals (rw[if_pos];first|(simp_all [Cl,C1,arF];done)|(simp_all [Cl,C1,arF];omega))
  rcases Decidable.em (x.op=3)with h3|h3
  ·repeat' first|(exact finP (S':=V) ⟨by rw[if_neg];first|(simp_all [Cl,C1,arF];done)|(simp_all [Cl,C1,arF];omega),rfl⟩)|refine gf (gi hpx h3) ?_ o274|apply gy<;>intro hh
   all_goals refine Dl (S':=V) ⟨?_,rfl⟩
   all_goals (rw[if_pos];first|(simp_all [Cl,C1,arF];done)|(simp_all [Cl,C1,arF];omega))
  rcases Decidable.em (x.op=4)with h4|h4
  ·repeat' first|(exact finP (S':=V) ⟨by rw[if_neg];first|(simp_all [Cl,C1,arF];done)|(simp_all [Cl,C1,arF];omega),rfl⟩)|refine gf (gi hpx h4) ?_ o274|apply gy<;>intro hh
   all_goals refine Dl (S':=V) ⟨?_,rfl⟩
   all_goals (rw[if_pos];first|(simp_all [Cl,C1,arF];done)|(simp_all [Cl,C1,arF];omega))
  ·repeat' first|(exact finP (S':=V) ⟨by rw[if_neg];first|(simp_all [Cl,C1,arF];done)|(simp_all [Cl,C1,arF];omega),rfl⟩)|refine gf hpx ?_ o274|apply gy<;>intro hh
   all_goals refine Dl (S':=V) ⟨?_,rfl⟩
   all_goals (rw[if_pos];first|(simp_all [Cl,C1,arF];done)|(simp_all [Cl,C1,arF];omega))
 ·have hF:El d x=false:=by unfold El;rw[decide_eq_false hd];rfl
  repeat' first|((with_reducible refine finP (S':=V) ?_);exact⟨by first|(simp[hF];done)|(simp_all [hF];done),rfl⟩)|refine gz ?_ o274|apply gy<;>intro hh
@[reducible,instance] def a274f:=fun x d V=>gh1 (@Q3 x d V)
end Go.DL
