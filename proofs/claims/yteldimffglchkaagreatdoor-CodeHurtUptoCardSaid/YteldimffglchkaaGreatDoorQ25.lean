/- A part of the proof. -/
import Derived.Test.YteldimffglchkaaGreatDoorQ24
set_option linter.all false
namespace Go.DL
open Go.Proofs.Tryz
open Go Go.Proofs
set_option maxHeartbeats 8000000
theorem OO(l:List MVal)(k:Nat)(hk:k<l.length)(v:MVal)(cs:List D):List.take (k*2) ((l.map cVal).flatten++cs)++cVal v++List.drop (k*2+2) ((l.map cVal).flatten++cs)=((l.set k v).map cVal).flatten++cs:=by
 have e:l=l.take k++l[k]::l.drop (k+1):=by rw[<-Ac hk,List.take_append_drop]
 have h:((l.take k).map cVal).flatten.length=k*2:=by rw[Au Bi];simp;omega
 have hs:l.set k v=l.take k++v::l.drop (k+1):=by rw[List.set_eq_take_append_cons_drop,if_pos hk]
 have e2:(l.map cVal).flatten++cs=((l.take k).map cVal).flatten++(cVal l[k]++(((l.drop (k+1)).map cVal).flatten++cs)):=by
  calc _=((l.take k++l[k]::l.drop (k+1)).map cVal).flatten++cs:=by rw[<-e]
   _=_:=by rw[List.map_append,List.map_cons,List.flatten_append,List.flatten_cons];simp only[List.append_assoc]
 have e3:((l.set k v).map cVal).flatten++cs=((l.take k).map cVal).flatten++(cVal v++(((l.drop (k+1)).map cVal).flatten++cs)):=by
  rw[hs,List.map_append,List.map_cons,List.flatten_append,List.flatten_cons];simp only[List.append_assoc]
 rw[e2,e3,<-h,List.take_left,<-List.drop_drop,List.drop_left,List.append_assoc]
 rfl
section
variable {ir:Nat}{p:BProg}{R:Nat->RW}{s:GoS}{O:Sig}
theorem NI(S:Nat->RW)(l:List MThing)(n:Nat)(hn:n<l.length)(x:MThing)(hc:x.cls=(l[n]).cls)(hl:x.slots.length=(l[n]).slots.length):tCells S (l.set n x)=tCells S l:=by
 refine List.ext_getElem? fun k=>?_
 by_cases hk:k<l.length
 ·rw[Bx S (l.set n x) k (by simpa using hk),Bx S l k hk]
  by_cases e:k=n
  ·subst e;rw[List.getElem_set_self,hc,hl]
  ·rw[List.getElem_set_ne (fun h=>e h.symm)]
 ·rw[List.getElem?_eq_none (by rw[A5];simp;omega),List.getElem?_eq_none (by rw[A5];omega)]
theorem RunS.slot(h:RunS ir p R s O){n k:Nat}(hn:n<s.objs.length)(hk:k<(s.objs[n]).slots.length){i c:Nat}{cs:List D}(hi:R (n+4)=.row i c cs)(v:MVal){L:List D}(hL:L=((s.objs[n]).slots.map cVal).flatten++cs):
  RunS ir p R { s with objs:=s.objs.set n ⟨(s.objs[n]).cls,(s.objs[n]).slots.set k v⟩ } (O.set i (.cells (L.take (k*2)++cVal v++L.drop (k*2+2))))/\RunK ir R O R (O.set i (.cells (L.take (k*2)++cVal v++L.drop (k*2+2)))):=by
 subst hL
 rw[OO _ k hk v cs]
 have aC:(R (n+4)).is i:=by rw[hi];rfl
 have aN:ir≠i:=fun e=>h.ni (n+4) (e ▸ aC)
 have aU:rCt R s (n+4)=(s.objs[n]).slots.map cVal:=by show(((s.objs[n]?).getD ⟨0,[]⟩).slots.map cVal)=_;rw[List.getElem?_eq_getElem hn];rfl
 have q:=h.rows.ok (n+4)
 rw[hi,aU]at q
 obtain⟨z1,z2,z3,z4⟩:=q
 refine⟨⟨?_,⟨fun a=>?_,h.rows.dj⟩,h.ni,h.nf⟩,fun j o hj _ aH=>⟨by rw[w7 _ _ fun e=>aH (n+4) (by rw[e];exact aC)];exact hj,aH⟩⟩
 ·rw[w7 _ _ aN,h.obj]
  simp[AM]
 ·by_cases ea:a=n+4
  ·subst ea
   have e:rCt R { s with objs:=s.objs.set n ⟨(s.objs[n]).cls,(s.objs[n]).slots.set k v⟩ } (n+4)=((s.objs[n]).slots.set k v).map cVal:=by
    show((((s.objs.set n _)[n]?).getD ⟨0,[]⟩).slots.map cVal)=_
    rw[List.getElem?_set_self hn];rfl
   rw[hi,e]
   refine⟨by rw[w6],?_,by simpa using z3,Bi⟩
   have a1:=Fo (s.objs[n]).slots cs
   have a2:=Fo ((s.objs[n]).slots.set k v) cs
   rw[List.length_set]at a2
   exact le_of_le_of_eq z2 (a1.trans a2.symm)
  ·have e:rCt R { s with objs:=s.objs.set n ⟨(s.objs[n]).cls,(s.objs[n]).slots.set k v⟩ } a=rCt R s a:=by
    match a with
    |0=>rfl
    |1=>rfl
    |2=>rfl
    |3=>exact NI _ _ n hn _ rfl (by simp)
    |m+4=>
     show((((s.objs.set n _)[m]?).getD ⟨0,[]⟩).slots.map cVal)=((((s.objs)[m]?).getD ⟨0,[]⟩).slots.map cVal)
     rw[List.getElem?_set_ne (by omega)]
   rw[e]
   exact(h.rows.ok a).keep fun j o hj aQ=>by rw[w7 _ _ fun e2=>ea (h.rows.dj a (n+4) j aQ (by rw[e2];exact aC))];exact hj
theorem Rc(x:CIns)(r:List MVal)(w v:MVal)(hp:p.wt<=1073741824)(hR:RunS ir p R s O)(hs:s.stk=r++[w,v])(hn:s.stk.length<=1000000)(hv:okV s.objs.length w=true)(ho:B8 (A2 p) s.objs=true):DCall prog 112 [.ptr ir 0,.agg (cIns x)] O fun y U'=> ∃R',RunK ir R O R' U' /\
  if Bb (A2 p) s.objs w x.a<0 then y=.ret (.bool true)/\HaltS ir p R' { s with stk:=r } .nils false (Fz s 5 (r++[w])) U' else
   y=.ret (.bool false)/\RunS ir p R' { s with objs:=setObj s.objs w.n ⟨(CH s.objs w.n).cls,(CH s.objs w.n).slots.set (Bb (A2 p) s.objs w x.a).toNat v⟩,stk:=r++[v] } U':=by
 have hl:s.stk.length=r.length+2:=by rw[hs];simp
 refine en func112 ntmps112 ?_
 refine gz ?_ o112
 refine A3 (BO (r++[w]) v hR (by rw[hs];simp) hn) (fun d S0 hr=>?_) (fun d S0 hr=>by cases hr.1)
 obtain⟨hd,R0,aV,aK⟩:=hr
 cases hd
 refine gz ?_
 refine Hf (id:=2) [0,1,3,4,2,5,6] [2,5] (fun _=>none) (fun _ _ h=>by cases h) ?_
 refine gz ?_ o112
 refine Bt (BO r w aV rfl (by simp;omega)) (fun d S1 hr=>?_) (fun d S1 hr=>by cases hr.1)
 obtain⟨hd,R1,aj,ax⟩:=hr
 cases hd
 refine⟨(fun _ _ h=>by cases h),?_⟩
 refine Bt (Lf w x.a hp aj hv ho) (fun d U2 hr=>?_) (fun d U2 hr=>by rcases hr.2 with⟨_,h⟩|⟨_,_,_,_,_,_,h⟩<;>cases h)
 obtain⟨rfl,hr⟩:=hr
 refine⟨(fun _ _ h=>by cases h),?_⟩
 rcases hr with⟨h0,hd⟩|⟨h0,h3,i,c,cs,hi,hd⟩
 ·cases hd
  refine gz ?_ o112
  refine A3 (Gf 5 (r++[w]) aj) (fun d S3 hr=>?_) (fun d S3 hr=>by cases hr.1)
  obtain⟨hd,h1,h2⟩:=hr
  cases hd
  refine gz ?_ o112
  exact fin1 (U':=S3) ⟨R1,(aK.trans ax).trans h2,by rw[if_pos h0];exact⟨rfl,h1⟩⟩
 ·obtain⟨n,k,e1,e2,aw,aO,e3,L,hL,z1,z2,z3⟩:=OZ aj hv ho h0 h3 hi
  have e4:Bb (A2 p) s.objs w x.a=k:=e2
  obtain rfl:d=.ptr i (k*2):=by cases hd;show D.ptr i ((Bb (A2 p) s.objs w x.a).toNat*2)=_;rw[e4];rfl
  have aS:R1 (n+4)=.row i c cs:=by rw[<-hi,e1];rfl
  obtain⟨p1,p2⟩:=aj.slot aw aO aS v hL
  have hf:¬L.length<k*2+2:=by omega
  rw[List.append_assoc]at p1 p2
  have e5:setObj s.objs w.n ⟨(CH s.objs w.n).cls,(CH s.objs w.n).slots.set (Bb (A2 p) s.objs w x.a).toNat v⟩=s.objs.set n ⟨(s.objs[n]'aw).cls,(s.objs[n]'aw).slots.set k v⟩:=by
   unfold setObj
   rw[e4,show CH s.objs w.n=s.objs[n]'aw from e3,e1];rfl
  refine gf (gi z1 hf) ?_ o112
  refine A3 (Bh v p1 (by simp;omega)) (fun d S3 hr=>?_) (fun d S3 hr=>by cases hr.1)
  obtain⟨hd,R3,aq,au⟩:=hr
  cases hd
  refine gz ?_ o112
  exact fin1 (U':=S3) ⟨R3,((aK.trans ax).trans p2).trans au,by rw[if_neg (by omega),e5];exact⟨rfl,aq⟩⟩
theorem Rd(x:CIns)(r:List MVal)(v:MVal)(hR:RunS ir p R s O)(hs:s.stk=r++[v])(hn:s.stk.length<=1000000)(he:s.evs.length<=1000000):DCall prog 111 [.ptr ir 0,.agg (cIns x)] O fun y U'=>y=.ret (.bool false) /\ ∃R',RunS ir p R' { s with evs:=s.evs++[⟨2,0,[v]⟩],stk:=r++[v] } U'/\RunK ir R O R' U':=by
 have hl:s.stk.length=r.length+1:=by rw[hs];simp
 refine en func111 ntmps111 ?_
 refine gz ?_ o111
 refine A3 (BO r v hR hs hn) (fun d S1 hr=>?_) (fun d S1 hr=>by cases hr.1)
 obtain⟨hd,R1,aj,ax⟩:=hr
 cases hd
 have q1:=aj.obj
 have q0:RWAt S1 3 (R1 2) (s.evs.map cEv):=aj.rows.ok 2
 have u1:=Da q1 (aj.ni 2)
 refine gz ?_
 refine Fg (id:=2) [0,1,2,3,4,5,6,7,8,9,10,11,12,13] [10] (S1.out (R1 2).is) (Cm _ _) ?_
 refine gf u1 ?_ o111
 refine FW (es:=s.evs.map cEv) (fun i c cs U2 aG aJ=>?_) (fun j o h=>Cn h) (hm:=q0)
 obtain⟨v1,v2⟩:=aJ _ _ q1 (aj.ni 2)
 refine gf v1 ?_ o111
 rw[show s.evs.map cEv++[[D.int .i64 2,D.int .i64 0,.slice [cVal v] .clip]]=(s.evs++[(⟨2,0,[v]⟩:MEv)]).map cEv by simp[cEv]]at aG
 obtain⟨p1,p2⟩:=aj.put (a:=2) (s':={ s with stk:=r,evs:=s.evs++[⟨2,0,[v]⟩] }) aG aJ (rCt_2 R1 _ { s with stk:=r } _) rfl
 refine drp (U2.set ir (.cells (AM p (updF R1 2 (.row i c cs)) { s with stk:=r,evs:=s.evs++[⟨2,0,[v]⟩] }))) ?_ (by simp[AM,Ag];exact Sub.refl _)
 refine A3 (Bh v p1 (by simp;omega)) (fun d S3 hr=>?_) (fun d S3 hr=>by cases hr.1)
 obtain⟨hd,R3,aq,au⟩:=hr
 cases hd
 refine gz ?_ o111
 exact fin1 (U':=S3) ⟨rfl,R3,aq,(ax.trans p2).trans au⟩
end
section
variable {ro:Ro}{n:Nat}{ops:Array Oper}{N:Nat}{B:Sig->Prop}{Q:DX->St->Prop}{df:List DDf}{rest:List Oper}{γ Sr:List (Nat×D)}{O:Sig}{t:Nat}{ty:TypeId}{pos:String}{after:Array Edge}{e1 c1 k1:Bool}{l:List (Bool×Bool×Bool×Oper)}
theorem P3{g:G}{w:Go.World}{T e i off len cap:Nat}{k:IntKind}{v u:Value}(hk:(tab T).k=.slice e)(he:A1 (tab e).k=false)(hv:Rep g (.sref i off len cap) v)(hu:Rep g (.int k cap) u)(aB:cap<=len):
  ∃r,(Instr.sliceAt T v (some u) none none).run prog w=.ok r w/\Rep g (.sref i off (len-cap) 0) r:=by
 obtain⟨b,hb,rfl⟩:=hv
 obtain rfl:=AN hu
 refine⟨_,?_,JY (len:=len-cap) (cap:=0) (off:=off) hb⟩
 have hu:=Aw Ab hk
 have c1:(0:Int)<=(cap:Int):=by omega
 have c2:(cap:Int)<=(len:Int):=by omega
 simp only[Option.map_some,Instr.sliceAt,Instr.slice,Instr.sliceBounds,Instr.sliceBound,asIntOf,Sem.run_bind,Sem.run_pure,Result.andThen_ok,run_underlying hu,c1,c2,and_self,if_true,Ay (Ab e) (Ad he),Int.toNat_natCast,Nat.sub_self]
theorem iCutL{T e i off len cap lo:Nat}{k:IntKind}{x y:Operand}(h:∀off',(cap=lo/\off'=off\/lo<cap/\off'=off+lo*(tab e).size)->MOI prog ro n ops N Q df l B ((t,.sref i off' (len-lo) (cap-lo))::γ) O)(hB:B O)(aB:lo<=len)(aW:len<=cap)
  (hl:A0 γ (A4 [x,y])=some Sr:=by exact tdR) (h1:ev Sr x=.sref i off len cap:=by exact tdR) (h2:ev Sr y=.int k lo:=by exact tdR) (hk:(tab T).k=.slice e:=by(simp<;>rfl)) (he:A1 (tab e).k=false:=by simp) (ai:decide (t<n)=true:=by exact tdR) :
  MOI prog ro n ops N Q df ((true,c1,k1,⟨some t,.slice T x (some y) none none,ty,pos,after,none⟩)::l) B γ O:=by
 refine moI_1 B (fun _=>rfl) (fun V2 hx=>?_) ai (by rw[Aj];rfl)
 obtain⟨e1,e2⟩:=evs hl
 have g1:ev V2 x=.sref i off len cap:=by rw[hx x (by simp[Op.operands]),<-e1,h1]
 have g2:ev V2 y=.int k lo:=by rw[hx y (by simp[Op.operands]),<-e2,h2]
 refine B5 (fun d U'=>(∃off',(cap=lo/\off'=off\/lo<cap/\off'=off+lo*(tab e).size)/\d=.sref i off' (len-lo) (cap-lo))/\U'=O) rfl (fun c e=>by cases e) (A9 fun c e=>by cases e) (by simp only[Ap];exact ai) ?_
  (fun d U' ⟨⟨o,a1,a2⟩,a3⟩=>by
   subst a2 a3
   refine Av ⟨rfl,?_⟩
   exact⟨hB,by simp only[putD,A6,if_true];exact h o a1⟩)
 intro g w a hs hT
 have hx:=Ae hT x
 have hy:=Ae hT y
 rw[g1]at hx
 rw[g2]at hy
 by_cases hc:lo<cap
 ·obtain⟨r,h4,h5⟩:=MP (w:=w) Ab hk he hx hy aB hc
  exact⟨g,w,r,_,O,by simp only[execOp,Option.map_some,Option.map_none,Sem.run_bind,h4,Result.andThen_ok,Sem.run_pure],.refl g,hs,h5,⟨_,.inr ⟨hc,rfl⟩,rfl⟩,rfl⟩
 ·obtain rfl:lo=cap:=by omega
  obtain⟨r,h4,h5⟩:=P3 (w:=w) hk he hx hy aB
  exact⟨g,w,r,_,O,by simp only[execOp,Option.map_some,Option.map_none,Sem.run_bind,h4,Result.andThen_ok,Sem.run_pure],.refl g,hs,h5,⟨_,.inl ⟨rfl,rfl⟩,by rw[Nat.sub_self]⟩,rfl⟩
theorem frzT{ops':List Oper}{sz:Nat}{r:RW}{es:List (List D)}(tt:Nat)(hm:RWAt O sz r es)(h:∀U',(∀j o,O j=some o->¬r.is j->U' j=some o)->DOps prog ro n ops Q ops' ⟨(tt,.slice es .no)::γ,U',df⟩)(hg:getD γ tt=r.d es.length:=by simp[getD,List.lookup]):DOps prog ro n ops Q ops' ⟨γ,O,df⟩:=by
 obtain⟨U2,h3,h4⟩:=Ho (P:=prog) (n:=n) (γ:=γ) (df:=df) (t:=tt) hm hg
 exact BQ h3 (h U2 h4)
theorem cutN{T e:Nat}{k:IntKind}{x y:Operand}(h:DOps prog ro n ops Q rest ⟨(t,.nils)::γ,O,df⟩)
  (hl:A0 γ (A4 [x,y])=some Sr:=by exact tdR) (h1:ev Sr x=.nils:=by exact tdR) (h2:ev Sr y=.int k 0:=by exact tdR) (hk:(tab T).k=.slice e:=by(simp<;>rfl)) (he:A1 (tab e).k=false:=by simp) (ai:decide (t<n)=true:=by exact tdR) :
  DOps prog ro n ops Q (⟨some t,.slice T x none (some y) none,ty,pos,after,none⟩::rest) ⟨γ,O,df⟩:=by
 obtain⟨e1,e2⟩:=evs hl
 refine B5 (fun d U'=>d=.nils/\U'=O) rfl (fun c e=>by cases e) (A9 fun c e=>by cases e) (by simp only[Ap];exact ai) ?_
  (fun d U' ⟨a2,a3⟩=>by subst a2 a3;exact h)
 intro g w a hs hT
 have hx:=Ae hT x
 have hy:=Ae hT y
 rw[<-e1,h1]at hx
 rw[<-e2,h2]at hy
 have ay:=AN hy
 have hu:=Aw Ab hk
 have aA:a.eval x=.slice none 0 0:=hx
 refine⟨g,w,.slice none 0 0,.nils,O,?_,.refl g,hs,rfl,rfl,rfl⟩
 simp only[execOp,Option.map_some,Option.map_none,aA,ay,Instr.sliceAt,Instr.slice,Instr.sliceBounds,Instr.sliceBound,asIntOf,Sem.run_bind,Sem.run_pure,Result.andThen_ok,run_underlying hu,Ay (Ab e) (Ad he)]
 rfl
theorem cutF{T e:Nat}{k:IntKind}{x y:Operand}(h:DOps prog ro n ops Q rest ⟨(t,.slice [] .clip)::γ,O,df⟩)
  (hl:A0 γ (A4 [x,y])=some Sr:=by exact tdR) (h1:ev Sr x=.slice [] .clip:=by exact tdR) (h2:ev Sr y=.int k 0:=by exact tdR) (hk:(tab T).k=.slice e:=by(simp<;>rfl)) (he:A1 (tab e).k=false:=by simp) (ai:decide (t<n)=true:=by exact tdR) :
  DOps prog ro n ops Q (⟨some t,.slice T x none (some y) none,ty,pos,after,none⟩::rest) ⟨γ,O,df⟩:=by
 obtain⟨e1,e2⟩:=evs hl
 refine B5 (fun d U'=>d=.slice [] .clip/\U'=O) rfl (fun c e=>by cases e) (A9 fun c e=>by cases e) (by simp only[Ap];exact ai) ?_
  (fun d U' ⟨a2,a3⟩=>by subst a2 a3;exact h)
 intro g w a hs hT
 have hx:=Ae hT x
 have hy:=Ae hT y
 rw[<-e1,h1]at hx
 rw[<-e2,h2]at hy
 have ay:=AN hy
 have hu:=Aw Ab hk
 have aM:=hx
 obtain⟨b,cap,h1,h2,h3,h4⟩:=hx
 obtain rfl:cap=0:=h4
 have aA:a.eval x=.slice b 0 0:=h1
 refine⟨g,w,a.eval x,.slice [] .clip,O,?_,.refl g,hs,aM,rfl,rfl⟩
 simp only[execOp,Option.map_some,Option.map_none,aA,ay,Instr.sliceAt,Instr.slice,Instr.sliceBounds,Instr.sliceBound,asIntOf,Sem.run_bind,Sem.run_pure,Result.andThen_ok,run_underlying hu,Ay (Ab e) (Ad he)]
 rfl
theorem xappB{T T' e e' sz:Nat}{s x:Operand}{es new:List (List D)}{r:RW}(h:∀r' U',RWAt U' sz r' (es++new)->RWK O r U' r'->(new=[] \/ ∃i c cs,r'=.row i c cs)->DOps prog ro n ops Q rest ⟨(t,r'.d (es.length+new.length))::γ,U',df⟩)(hm:RWAt O sz r es)(h2:IN prog O sz (ev Sr x) new)(aT:∀c∈new,Bz c=true)
  (hlen':∀c∈new,c.length=sz)
  (hl:A0 γ (A4 [s,x])=some Sr:=by exact tdR) (hk:(tab T).k=.slice e:=by(simp<;>rfl)) (aP:(tab T').k=.slice e':=by(simp<;>rfl)) (he:A1 (tab e).k=false:=by simp) (hsz:(tab e).size=sz:=by simp)
  (h1:ev Sr s=r.d es.length:=by first|with_unfolding_all rfl|(simp[ev,getD,List.lookup];done))
  (hb:(es.length+new.length)*(tab e).bytes<=140737488355328:=by first|(simp;done)|(simp;omega)) (hm2:es.length+new.length<=9223372036854775807:=by first|(simp;done)|(simp;omega)) (ai:decide (t<n)=true:=by exact tdR) :
  DOps prog ro n ops Q (⟨some t,(cA s x T T'),ty,pos,after,none⟩::rest) ⟨γ,O,df⟩:=by
 obtain⟨e1,e2⟩:=evs hl
 exact DU Ab (by simpa using ai) hk aP he hsz (by rw[<-e1];exact h1) hm (by rw[<-e2];exact h2) hlen' aT hb hm2 fun r' U' h1 h2 h3=>h r' U' h1 h2 (h3.imp (·.1) id)
theorem isR{x:Operand}{i off len cap T T' e:Nat}(h:DOps prog ro n ops Q rest ⟨(t,.bool false)::γ,O,df⟩)(hl:A0 γ (A4 [x])=some Sr:=by exact tdR)(hx:ev Sr x=.sref i off len cap:=by exact tdR)(hk:(tab T).k=.slice e:=by(simp<;>rfl))(ai:decide (t<n)=true:=by exact tdR):
  DOps prog ro n ops Q (⟨some t,.binOp .eql T x (.const (.slice none 0 0)) T',ty,pos,after,none⟩::rest) ⟨γ,O,df⟩:=by
 refine B5 (fun d U'=>d=.bool false/\U'=O) rfl (fun c e=>by cases e) (A9 fun c e=>by cases e) (by simp only[Ap];exact ai) ?_
  (fun d U' ⟨a2,a3⟩=>by subst a2 a3;exact h)
 intro g w a hs hT
 have hv:=Ae hT x
 rw[<-Bu hl,hx]at hv
 obtain⟨b,hb,h1⟩:=hv
 have:=run_equal_slice_nil (P:=prog) w T e (some ⟨b,off,none⟩) len cap (Aw Ab hk)
 refine⟨g,w,.bool false,.bool false,O,?_,.refl g,hs,rfl,rfl,rfl⟩
 have hg:(eqGuard .eql T x (.const (.slice none 0 0)) (a.eval x) (.slice none 0 0)).run prog w=.ok () w:=by rw[h1];rfl
 simp only[execOp,Sem.run_bind,show a.eval (.const (.slice none 0 0))=.slice none 0 0 from rfl,hg,Result.andThen_ok]
 simp only[binOp,Sem.run_bind,h1,this,Result.andThen_ok]
 rfl
end
section
variable {ir:Nat}{p:BProg}{R:Nat->RW}{s:GoS}{O:Sig}
theorem Q0(i off cap:Nat)(new:List MVal)(O:Sig)(hn:new.length<=1000000)(ak:IN prog O 2 (.sref i off new.length cap) (new.map cVal)):DCall prog 47 [.sref i off new.length cap] O (rS (.slice (new.map cVal) .no) O):=by
 refine en func47 ntmps47 ?_
 refine gz ?_
 refine isR ?_
 refine gz ?_
 refine xappR (r:=.full []) (es:=[]) (new:=new.map cVal) (fun r' S1 h1 h2=>?_) ⟨rfl,by simp⟩ ak (fun c hc=>by obtain⟨v,_,rfl⟩:=List.mem_map.1 hc;rfl) Bi
 refine frzT 7 h1 (fun U2 h4=>?_)
 have hS:Sub O U2:=fun j o hj=>by
  obtain⟨k1,k2⟩:=h2 j o hj id
  exact h4 j o k1 k2
 refine gz ?_
 exact fin1 (U':=O) ⟨rfl,rfl⟩
theorem Ic(new:List MVal)(o:Own)(O:Sig)(hn:new.length<=1000000):DCall prog 47 [.slice (new.map cVal) o] O fun x U'=> ∃r':RW,x=.ret (r'.d new.length)/\RWAt U' 2 r' (new.map cVal)/\RWK O .nil U' r' /\ ∀es,r'=.full es->es=[]:=by
 refine en func47 ntmps47 ?_
 refine gz ?_
 refine isN (fun b hb=>?_)
 cases b with
 |true=>
  have ae:new=[]:=by simpa using hb rfl
  subst ae
  refine gz ?_
  exact fin1 (U':=O) ⟨.nil,rfl,rfl,RWK.refl _ _,fun es h=>by cases h⟩
 | false =>
  refine gz ?_
  refine xappB (r:=.full []) (es:=[]) (new:=new.map cVal) (fun r' S1 h1 h2 h3=>?_) ⟨rfl,by simp⟩ (H1 rfl Bi) (fun c hc=>by obtain⟨v,_,rfl⟩:=List.mem_map.1 hc;rfl) Bi
  rw[show([]:List (List D)).length+(new.map cVal).length=new.length by simp]
  refine gz ?_
  refine fin1 (U':=S1) ⟨r',rfl,h1,fun j o hj _=>h2 j o hj id,fun es h=>?_⟩
  rcases h3 with h3|⟨i,c,cs,h3⟩
  ·subst h
   have:=h1.1
   rw[h3]at this
   exact this.symm
  ·rw[h3]at h;cases h
theorem L2(O:Sig):DCall prog 47 [.slice [] .no] O (rS (.slice [] .no) O):=by
 refine en func47 ntmps47 ?_
 refine gz ?_
 refine isN (fun b hb=>?_)
 cases b with
 |true=>
  refine gz ?_
  exact fin1 (U':=O) ⟨rfl,rfl⟩
 | false =>
  refine gz ?_
  refine xappR (sz:=2) (r:=.full []) (es:=[]) (new:=[]) (fun r' S1 h1 h2=>?_) ⟨rfl,by simp⟩ (H1 rfl (by simp)) (by simp) (by simp)
  refine frzT 7 h1 (fun U2 h4=>?_)
  have hS:Sub O U2:=fun j o hj=>by
   obtain⟨k1,k2⟩:=h2 j o hj id
   exact h4 j o k1 k2
  refine gz ?_
  exact fin1 (U':=O) ⟨rfl,rfl⟩
abbrev Io(p:BProg)(R:Nat->RW)(s:GoS)(d0:D)(k g:Int)(a:D):List D:=[dI k,dI 0,dI 0,dI g,a,dI 0,dI 0,.nils,.nils,(R 3).d s.objs.length,(R 2).d s.evs.length]++Ag p++[dI s.pos,d0,(R 1).d s.env.length]
theorem QZ(x:CIns)(r args:List MVal)(k:Nat)(hp:p.wt<=1073741824)(hx:x.a=k)(hk:k<p.gens.length)(hg:p.gens[k]=args.length)(hR:RunS ir p R s O)(hs:s.stk=r++args)(hn:s.stk.length<=1000000):DCall prog 119 [.ptr ir 0,.agg (cIns x)] O fun y U'=>y=.ret (.bool true) /\ ∃R' av,HaltS ir p R' { s with stk:=r } av true ⟨2,vZ,x.a,args,0,s.pos,r,s.env,s.objs,s.evs⟩ U'/\RunK ir R O R' U':=by
 have q1:=hR.obj
 have hl:s.stk.length=r.length+args.length:=by rw[hs];simp
 have q0:RWAt O 2 (R 0) (s.stk.map cVal):=hR.rows.ok 0
 have aX:p.gens.length<=1073741824:=by obtain⟨a1,a2,a3,a4,a5,a6,a7⟩:=p.wt_le;omega
 cases h0:R 0 with
 |nil=>
  rw[h0,hs]at q0
  have q00:(r++args).map cVal=[]:=q0
  simp at q00
  obtain⟨rfl,rfl⟩:=q00
  unfold AM at q1
  rw[h0,hl]at q1
  rw[show RW.nil.d (([]:List MVal).length+([]:List MVal).length)=.nils from rfl]at q1
  refine en func119 ntmps119 ?_
  refine gf (gi q1 (gi hx hg)) ?_ (delO 2 o119)
  have q2:O ir=some (.cells (Io p R s .nils 0 0 .nils)):=q1
  refine mixI (id:=2) [0,1,2,3,4,5,6,7,8,9,10,11,12,13,14,15,16,17,18,19,20,21,22,23,24] [12,16,20,24] [9] [16,20,24] (fun s=>s=O) rfl ?_
  refine iP _ ?_
  refine iP _ ?_
  refine iP _ ?_
  refine iP _ ?_
  refine iP (dI x.a) ?_
  refine iP _ ?_
  refine iP _ ?_
  refine iP _ ?_
  refine iP _ ?_
  refine iR .nils (fun s hs=>?_) ?_
  ·rw[hs];simp[q1]
  refine iP (dI 0) ?_
  refine iP (.slice [] .no) ?_
  refine iW (fun s=>s=O) (L2 O) (fun d S1 hr=>?_) (fun d S1 hr=>by cases hr.1)
  obtain⟨hd,rfl⟩:=hr
  cases hd
  refine⟨rfl,?_⟩
  refine iP _ ?_
  refine iP _ ?_
  refine iP (.ptr ir 0) ?_
  refine iS (d:=.any) (U':=S1.set ir (.cells (Io p R s .nils 2 0 .nils))) (fun _=>True) trivial ?_ (he:=by simp[q2])
  refine iP _ ?_
  refine iP _ ?_
  refine iP (.ptr ir 3) ?_
  refine iS (d:=.any) (U':=S1.set ir (.cells (Io p R s .nils 2 x.a .nils))) (fun _=>True) trivial ?_ (he:=by simp)
  refine iP _ ?_
  refine iP _ ?_
  refine iP (.ptr ir 4) ?_
  refine iS (d:=.any) (U':=S1.set ir (.cells (Io p R s .nils 2 x.a (.slice [] .no)))) (fun _=>True) trivial ?_ (he:=by simp)
  refine iN ?_
  repeat ((fail_if_success refine cutN ?_);(refine go1 trivial ?_))
  refine cutN ?_
  refine gz ?_ o119
  refine JP (r0:=.nil) (r1:=R 1) (m:=0) (m':=s.env.length) (w6 ..) ?_
  refine gz ?_ o119
  have am:s.stk=[]:=hs
  obtain⟨p3,p4⟩:=hR.halt (av:=.slice [] .no) (b:=true) (k:=⟨2,vZ,x.a,[],0,s.pos,[],s.env,s.objs,s.evs⟩) rfl (A8 _) rfl rfl ⟨rfl,am.symm,rfl⟩
  have es:s={ s with stk:=[] }:=by rw[<-am]
  rw[<-es]
  refine fin1 (U':=_) ⟨rfl,_,_,p3,p4⟩ (hU:=?_)
  simp only[w8]
  unfold Na
  rw[h0,am]
  exact Sub.refl _
 |full es=>
  obtain rfl:=hR.nf 0 es h0
  rw[h0,hs]at q0
  have q00:(r++args).map cVal=[]:=q0.1
  simp at q00
  obtain⟨rfl,rfl⟩:=q00
  unfold AM at q1
  rw[h0,hl]at q1
  rw[show(RW.full []).d (([]:List MVal).length+([]:List MVal).length)=.slice [] .clip from rfl]at q1
  refine en func119 ntmps119 ?_
  refine gf (gi q1 (gi hx hg)) ?_ (delO 2 o119)
  have q2:O ir=some (.cells (Io p R s (.slice [] .clip) 0 0 .nils)):=q1
  refine mixI (id:=2) [0,1,2,3,4,5,6,7,8,9,10,11,12,13,14,15,16,17,18,19,20,21,22,23,24] [12,16,20,24] [9] [16,20,24] (fun s=>s=O) rfl ?_
  refine iP _ ?_
  refine iP _ ?_
  refine iP _ ?_
  refine iP _ ?_
  refine iP (dI x.a) ?_
  refine iP _ ?_
  refine iP _ ?_
  refine iP _ ?_
  refine iP _ ?_
  refine iR (.slice [] .clip) (fun s hs=>?_) ?_
  ·rw[hs];simp[q1]
  refine iP (dI 0) ?_
  refine iP (.slice [] .no) ?_
  refine iW (fun s=>s=O) (L2 O) (fun d S1 hr=>?_) (fun d S1 hr=>by cases hr.1)
  obtain⟨hd,rfl⟩:=hr
  cases hd
  refine⟨rfl,?_⟩
  refine iP _ ?_
  refine iP _ ?_
  refine iP (.ptr ir 0) ?_
  refine iS (d:=.any) (U':=S1.set ir (.cells (Io p R s (.slice [] .clip) 2 0 .nils))) (fun _=>True) trivial ?_ (he:=by simp[q2])
  refine iP _ ?_
  refine iP _ ?_
  refine iP (.ptr ir 3) ?_
  refine iS (d:=.any) (U':=S1.set ir (.cells (Io p R s (.slice [] .clip) 2 x.a .nils))) (fun _=>True) trivial ?_ (he:=by simp)
  refine iP _ ?_
  refine iP _ ?_
  refine iP (.ptr ir 4) ?_
  refine iS (d:=.any) (U':=S1.set ir (.cells (Io p R s (.slice [] .clip) 2 x.a (.slice [] .no)))) (fun _=>True) trivial ?_ (he:=by simp)
  refine iN ?_
  repeat ((fail_if_success refine cutF ?_);(refine go1 trivial ?_))
  refine cutF ?_
  refine gz ?_ o119
  refine JP (r0:=.full []) (r1:=R 1) (m:=0) (m':=s.env.length) (w6 ..) ?_
  refine gz ?_ o119
  have am:s.stk=[]:=hs
  obtain⟨p3,p4⟩:=hR.halt (av:=.slice [] .no) (b:=true) (k:=⟨2,vZ,x.a,[],0,s.pos,[],s.env,s.objs,s.evs⟩) rfl (A8 _) rfl rfl ⟨rfl,am.symm,rfl⟩
  have es:s={ s with stk:=[] }:=by rw[<-am]
  rw[<-es]
  refine fin1 (U':=_) ⟨rfl,_,_,p3,p4⟩ (hU:=?_)
  simp only[w8]
  unfold Na
  rw[h0,am]
  exact Sub.refl _
 | row i c cs =>
  rw[h0,hs]at q0
  unfold AM at q1
  rw[h0,hl]at q1
  simp only[Et]at q1
  obtain⟨z1,z2,z3,z4⟩:=q0
  simp only[List.length_map,List.length_append]at z3
  refine en func119 ntmps119 ?_
  refine gf (gi q1 (gi hx hg)) ?_ (delO 2 o119)
  refine mixI (id:=2) [0,1,2,3,4,5,6,7,8,9,10,11,12,13,14,15,16,17,18,19,20,21,22,23,24] [11,12,16,20,24] [9] [16,20,24] (fun s=>s=O) rfl ?_
  refine iP _ ?_
  refine iP _ ?_
  refine iP _ ?_
  refine iP _ ?_
  refine iP (dI x.a) ?_
  refine iP _ ?_
  refine iP _ ?_
  refine iP _ ?_
  refine iP _ ?_
  refine iR (.sref i 0 (r.length+args.length) c) (fun s hs=>?_) ?_
  ·rw[hs];simp[q1]
  refine iP (dI r.length) ?_
  refine iCutL (lo:=r.length) (len:=r.length+args.length) (cap:=c) (i:=i) (off:=0) (fun off' ho=>?_) rfl (by omega) z3
  rw[Nat.add_sub_cancel_left]
  have ak:IN prog O 2 (.sref i off' args.length (c-r.length)) (args.map cVal):=by
   have e:args.length=(args.map cVal).length:=by simp
   rcases ho with⟨rfl,rfl⟩|⟨h1,h2⟩
   ·obtain rfl:args=[]:=List.length_eq_zero_iff.1 (by omega)
    exact JT (pre:=[]) (es:=[]) (rest:=((List.map cVal (r++[])).flatten++cs)) (by simpa using z1) rfl (by simp) (by simp)
   ·rw[e]
    refine JT (pre:=(r.map cVal).flatten) (rest:=cs) (by rw[z1];simp) (by rw[Au Bi,List.length_map,h2];simp) Bi (by simp;omega)
  refine iW (fun s=>s=O) (Q0 i off' (c-r.length) args O (by omega) ak) (fun d S1 hr=>?_) (fun d S1 hr=>by cases hr.1)
  obtain⟨hd,rfl⟩:=hr
  cases hd
  refine⟨rfl,?_⟩
  refine iP _ ?_
  refine iP _ ?_
  refine iP (.ptr ir 0) ?_
  refine iS (d:=.any) (U':=S1.set ir (.cells (Io p R s (.sref i 0 (r.length+args.length) c) 2 0 .nils))) (fun _=>True) trivial ?_ (he:=by simp[q1])
  refine iP _ ?_
  refine iP _ ?_
  refine iP (.ptr ir 3) ?_
  refine iS (d:=.any) (U':=S1.set ir (.cells (Io p R s (.sref i 0 (r.length+args.length) c) 2 x.a .nils))) (fun _=>True) trivial ?_ (he:=by simp)
  refine iP _ ?_
  refine iP _ ?_
  refine iP (.ptr ir 4) ?_
  refine iS (d:=.any) (U':=S1.set ir (.cells (Io p R s (.sref i 0 (r.length+args.length) c) 2 x.a (.slice (args.map cVal) .no)))) (fun _=>True) trivial ?_ (he:=by simp)
  refine iN ?_
  refine gz ?_ o119
  refine cutH (i:=i) (off:=0) (len:=r.length+args.length) (cap:=c) (hi:=r.length) ?_ (by omega)
  refine gz ?_ o119
  refine JP (r0:=.row i c []) (r1:=R 1) (w6 ..) ?_
  refine gz ?_ o119
  have hr:RWAt S1 2 (.row i c ((args.map cVal).flatten++cs)) (r.map cVal):=⟨by rw[z1];simp,by rw[<-List.append_assoc];simpa using z2,by simp;omega,Bi⟩
  obtain⟨p1,p2⟩:=hR.re (a:=0) (s':={ s with stk:=r }) hr (by rw[h0];exact fun j h=>h) (rCt_0 R _ s _) rfl
  obtain⟨p3,p4⟩:=p1.halt (av:=.slice (args.map cVal) .no) (b:=true) (k:=⟨2,vZ,x.a,args,0,s.pos,r,s.env,s.objs,s.evs⟩) rfl (A8 _) rfl rfl ⟨rfl,rfl,rfl⟩
  refine fin1 (U':=_) ⟨rfl,_,_,p3,p2.trans p4⟩ (hU:=?_)
  simp only[w8]
  exact Sub.refl _
end
def cTh(x:MThing):List D:=[dI x.cls,sl (x.slots.map cVal)]
@[simp] theorem cTh_mem(x:MThing)(d:D):(d∈cTh x)=(d=dI x.cls\/d=sl (x.slots.map cVal)):=by simp[cTh]
@[simp] theorem cTh_len(x:MThing):(cTh x).length=2:=rfl
@[simp] theorem cTh_tk(x:MThing):List.take 2 (cTh x)=cTh x:=rfl
@[simp] theorem rwd_nil(n:Nat):RW.nil.d n=.nils:=rfl
@[simp] theorem Sy(es:List (List D))(n:Nat):(RW.full es).d n=.slice es .clip:=rfl
def FrV(O:Sig)(r:RW)(l:List MVal)(U':Sig):Prop:=RWAt U' 2 r (l.map cVal)/\RWK O .nil U' r /\ ∀es,r=.full es->es=[]
theorem Qf(v:MVal)(O:Sig):DCall prog 339 [.agg (cVal v)] O (rS (.agg (cVal v)) O):=by
 refine en func339 ntmps339 ?_
 refine gz ?_ [] [2]
 refine newV (fun i2 ar=>?_)
 refine gz ?_ [] [2]
 exact finC (U':=O) ⟨rfl,rfl⟩
@[reducible,instance] def a339:=fun v O=>ah0 (@Qf v O)
theorem Q9(i n c:Nat)(O:Sig)(hn:n<=c)(hb:n<=1000000):DCall prog 367 [.sref i 0 n c] O (rS (.sref i 0 n n) O):=by
 refine en func367 ntmps367 ?_
 refine gz ?_
 refine Jt Ab (off:=0) (m:=n) (cap:=c) ?_ (by decide) (by simp<;>rfl) (by simp) rfl rfl rfl (Nat.le_refl _) hn
 refine gz ?_
 exact fin1 (U':=O) ⟨rfl,rfl⟩
@[reducible,instance] def a367:=fun i n c O=>ah2 (@Q9 i n c O)
theorem Ob(O:Sig):DCall prog 367 [.nils] O (rS (.slice [] .clip) O):=by
 refine en func367 ntmps367 ?_
 refine gz ?_
 exact fin1 (U':=O) ⟨rfl,rfl⟩
@[reducible,instance] def a367n:=fun O=>ah0 (@Ob O)
theorem Qg(l:List MVal)(o:Own)(O:Sig)(hl:l.length<=1000000):DCall prog 338 [.slice (l.map cVal) o,.func (.func 339) [] []] O fun x U'=> ∃r,x=.ret (r.d l.length)/\FrV O r l U':=by
 refine en func338 ntmps338 ?_
 refine gz ?_
 refine Fw [1,4,8,9,21,22] (fun (k:Nat) (r:RW) (U2:Sig)=>k<=l.length/\RWAt U2 2 r ((l.take k).map cVal)/\RWK O .nil U2 r/\(k=0/\r=.nil \/ ∃i c cs,r=.row i c cs)) (fun k r _=>[(10,dI k),(5,r.d k)]) (fun _ _ U2=>U2) (fun k _ _=>l.length-k) (0) (.nil) (O) (by exact⟨Nat.zero_le _,rfl,RWK.refl _ _,.inl ⟨rfl,rfl⟩⟩) (fun k r U2 hI=>?_)
 obtain⟨aI,hR,hK,hF⟩:=hI
 by_cases hk:k<l.length
 ·have aa:((l.take k).map cVal).length=k:=by simp;omega
  refine gz ?_
  refine xapp (new:=[cVal l[k]]) (fun i c cs S3 aq au=>?_) hR (h1:=by rw[aa];with_unfolding_all rfl) (hb:=by rw[aa];simp;omega) (hm2:=by rw[aa];simp;omega)
  rw[show(l.take k).map cVal++[cVal l[k]]=(l.take (k+1)).map cVal by rw[List.take_succ_eq_append_getElem hk,List.map_append];rfl]at aq
  rw[show((l.take k).map cVal).length+[cVal l[k]].length=k+1 by simp;omega]
  refine gz ?_
  exact⟨k+1,.row i c cs,S3,⟨by omega,aq,hK.trans au,.inr ⟨_,_,_,rfl⟩⟩,td1,wkR⟩
 ·obtain rfl:k=l.length:=by omega
  rw[List.take_length]at hR
  rcases hF with⟨h0,rfl⟩|⟨i,c,cs,rfl⟩
  ·have ae:l=[]:=List.length_eq_zero_iff.1 h0
   subst ae
   refine gz ?_
   exact fin1 (U':=U2) ⟨.full [],rfl,⟨rfl,by simp⟩,hK,fun es h=>by cases h;rfl⟩
  ·have hc:=hR.2.2.1
   rw[List.length_map]at hc
   refine gz ?_
   refine fin1 (U':=U2) ⟨.row i l.length cs,rfl,⟨hR.1,?_,by simp,Bi⟩,hK,fun es h=>by cases h⟩
   rw[List.length_append,Au Bi,List.length_map];omega
theorem L8(l:List MVal)(o:Own)(O:Sig)(hl:l.length<=1000000):DCall prog 293 [.slice (l.map cVal) o] O fun x U'=> ∃r,x=.ret (r.d l.length)/\FrV O r l U':=by
 refine en func293 ntmps293 ?_
 refine gz ?_
 refine A3 (Qg l o O hl) (fun d S1 hr=>?_) (fun d S1 hr=>by obtain⟨_,h,_⟩:=hr;cases h)
 obtain⟨r,hd,hF⟩:=hr
 cases hd
 refine gz ?_
 exact fin1 (U':=S1) ⟨r,rfl,hF⟩
theorem So{ir:Nat}{O:Sig}{ds:List D}{r1:RW}{a:Int}{m k:Nat}(h:O ir=some (.cells ds))(hl:k+2<=ds.length):DG tab O 131 (.ptr ir k) (.agg [dI a,r1.d m])=some (.any,O.set ir (.cells (ds.take k++[dI a,r1.d m]++ds.drop (k+2)))):=by
 have hf:¬ds.length<k+2:=by omega
 cases r1<;>simp[DG,h,RW.d,hf]
theorem Qn(x:MThing)(O:Sig)(hl:x.slots.length<=1000000):DCall prog 295 [.agg (cTh x)] O fun y U'=> ∃r,y=.ret (.agg [dI x.cls,r.d x.slots.length])/\FrV O r x.slots U':=by
 refine en func295 ntmps295 ?_
 refine gz ?_ o295 [2]
 refine newV (fun i2 ar=>?_)
 refine gz ?_ [] [2]
 refine Hf (id:=1) [0,1,2,3,4,5,6] [4,6] O ((Sub.refl _).set ar) ?_
 refine gz ?_ o295 [2]
 refine Bt (L8 x.slots .no _ hl) (fun d S1 hr=>?_) (fun d S1 hr=>by obtain⟨_,h,_⟩:=hr;cases h)
 obtain⟨r,hd,h1,h2,h3⟩:=hr
 have aD:=(h2 i2 _ (w6 ..) id).1
 have aR:=(h2 i2 _ (w6 ..) id).2
 have hS:Sub O S1:=fun j o hj=>(h2 j o (by rw[w7 _ _ fun e=>by rw[e,ar]at hj;cases hj];exact hj) id).1
 have hF:∀ds,FrV O r x.slots (S1.set i2 (.cells ds)):=fun ds=>⟨h1.keep fun j o hj ap=>by rw[w7 _ _ fun e=>aR (by rw[<-e];exact ap)];exact hj,fun j o hj _=>by
  have hne:j≠i2:=fun e=>by rw[e,ar]at hj;cases hj
  have:=h2 j o (by rw[w7 _ _ hne];exact hj) id
  exact⟨by rw[w7 _ _ hne];exact this.1,this.2⟩,h3⟩
 have aE:∀ds,Sub O (S1.set i2 (.cells ds)):=fun ds j o hj=>by rw[w7 _ _ fun e=>by rw[e,ar]at hj;cases hj];exact hS j o hj
 cases hd
 refine⟨hS,?_⟩
 rcases r with _|es|⟨i,c,cs⟩
 ·have aF:Sub O (S1.set i2 (.cells [dI x.cls,.nils])):=aE _
  refine gf aD ?_ o295 [2]
  exact finC (U':=S1.set i2 (.cells [dI x.cls,.nils])) ⟨.nil,rfl,hF _⟩
 ·have aF:Sub O (S1.set i2 (.cells [dI x.cls,.slice es .clip])):=aE _
  refine gf aD ?_ o295 [2]
  exact finC (U':=S1.set i2 (.cells [dI x.cls,.slice es .clip])) ⟨.full es,rfl,hF _⟩
 ·have aF:Sub O (S1.set i2 (.cells [dI x.cls,.sref i 0 x.slots.length c])):=aE _
  refine gf aD ?_ o295 [2]
  exact finC (U':=S1.set i2 (.cells [dI x.cls,.sref i 0 x.slots.length c])) ⟨.row i c cs,rfl,hF _⟩
structure ThS(R:Nat->RW)(l:List MThing)(S0 O:Sig):Prop where
 rows:Rows O R rSz (rCt R ⟨l,[],0,[],[]⟩)
 lo:∀a,a<3->R a=.nil
 nf:∀a es,R a=.full es->es=[]
 keep:∀j o,S0 j=some o->O j=some o /\ ∀a, ¬(R a).is j
theorem ThS.nil(O:Sig):ThS (fun _=>.nil) [] O O:=
 ⟨⟨fun a=>by
  match a with
  |0=>rfl
  |1=>rfl
  |2=>rfl
  |3=>rfl
  |k+4=>rfl,fun _ _ _ h=>h.elim⟩,fun _ _=>rfl,(fun _ _ h=>by cases h),fun _ _ h=>⟨h,fun _ h=>h⟩⟩
theorem ThS.row3{R:Nat->RW}{l:List MThing}{S0 O:Sig}(h:ThS R l S0 O):RWAt O 2 (R 3) (tCells (fun k=>R (k+4)) l):=h.rows.ok 3
theorem IT(S S':Nat->RW)(l:List MThing)(x:MThing)(h:∀k,k<l.length->S' k=S k):tCells S' (l++[x])=tCells S l++[[dI x.cls,(S' l.length).d x.slots.length]]:=by
 refine List.ext_getElem? fun k=>?_
 by_cases hk:k<l.length
 ·rw[Bx _ _ k (by simp;omega),List.getElem?_append_left (by rw[A5];exact hk),Bx _ _ k hk,List.getElem_append_left hk,h k hk]
 ·by_cases e:k=l.length
  ·subst e
   rw[Bx _ _ _ (by simp),List.getElem?_append_right (by rw[A5];omega),A5,Nat.sub_self]
   simp
  ·rw[List.getElem?_eq_none (by rw[A5];simp;omega),List.getElem?_eq_none (by simp[A5];omega)]
theorem ThS.add{R:Nat->RW}{l:List MThing}{S0 O S1 U2:Sig}(h:ThS R l S0 O){x:MThing}{r:RW}(hF:FrV O r x.slots S1){i c:Nat}{cs:List D}(hr:RWAt U2 2 (.row i c cs) (tCells (fun k=>R (k+4)) l++[[dI x.cls,r.d x.slots.length]]))(hk:RWK S1 (R 3) U2 (.row i c cs)):
  ThS (updF (updF R (l.length+4) r) 3 (.row i c cs)) (l++[x]) S0 U2:=by
 obtain⟨f1,f2,f3⟩:=hF
 have e2:rSz (l.length+4)=2:=by unfold rSz;rw[if_neg (by omega)]
 have u1:=h.rows.upd (a:=l.length+4) (r':=r) (by rw[e2];exact f1) (fun j o hj _=>f2 j o hj id)
 have u2:=u1.upd (a:=3) (r':=.row i c cs) hr (by rw[A7 _ _ (by omega)];exact hk)
 refine⟨u2.retell fun a=>?_,fun a ha=>?_,fun a es he=>?_,fun j o hj=>?_⟩
 ·match a with
  |0=>rw[A7 _ _ (by omega),A7 _ _ (by omega)];rfl
  |1=>rw[A7 _ _ (by omega),A7 _ _ (by omega)];rfl
  |2=>rw[A7 _ _ (by omega),A7 _ _ (by omega)];rfl
  |3=>
   rw[Ah]
   show tCells (fun k=>updF (updF R (l.length+4) r) 3 (.row i c cs) (k+4)) (l++[x])=_
   rw[IT (fun k=>R (k+4)) _ l x fun k hk=>by rw[A7 _ _ (by omega),A7 _ _ (by omega)]]
   simp only[A7 (updF R (l.length+4) r) (RW.row i c cs) (show l.length+4≠3 by omega),Ah]
  | k+4 =>
   rw[A7 _ _ (by omega)]
   show(((l++[x])[k]?).getD ⟨0,[]⟩).slots.map cVal=_
   by_cases e:k=l.length
   ·subst e;rw[Ah];simp
   ·rw[A7 _ _ (by omega)]
    show _=((l[k]?).getD ⟨0,[]⟩).slots.map cVal
    by_cases hk:k<l.length
    ·rw[List.getElem?_append_left hk]
    ·rw[List.getElem?_eq_none (by simp;omega),List.getElem?_eq_none (by omega)]
 ·rw[A7 _ _ (by omega),A7 _ _ (by omega)];exact h.lo a ha
 ·by_cases e3:a=3
  ·subst e3;rw[Ah]at he;cases he
  ·rw[A7 _ _ e3]at he
   by_cases e4:a=l.length+4
   ·subst e4;rw[Ah]at he;exact f3 es he
   ·rw[A7 _ _ e4]at he;exact h.nf a es he
 ·obtain⟨k1,k2⟩:=h.keep j o hj
  obtain⟨k3,k4⟩:=f2 j o k1 id
  obtain⟨k5,k6⟩:=hk j o k3 (k2 3)
  refine⟨k5,fun a ha=>?_⟩
  by_cases e3:a=3
  ·subst e3;rw[Ah]at ha;exact k6 ha
  ·rw[A7 _ _ e3]at ha
   by_cases e4:a=l.length+4
   ·subst e4;rw[Ah]at ha;exact k4 ha
   ·rw[A7 _ _ e4]at ha;exact k2 a ha
theorem ThS.re{R:Nat->RW}{l:List MThing}{S0 O:Sig}(h:ThS R l S0 O){r':RW}(hr:RWAt O 2 r' (tCells (fun k=>R (k+4)) l))(hi:∀j,r'.is j->(R 3).is j)(hf:∀es,r'=.full es->es=[]):ThS (updF R 3 r') l S0 O:=by
 have u:=h.rows.re (a:=3) (r':=r') hr hi
 refine⟨u.retell fun a=>?_,fun a ha=>by rw[A7 _ _ (by omega)];exact h.lo a ha,fun a es he=>?_,fun j o hj=>⟨(h.keep j o hj).1,fun a ha=>?_⟩⟩
 ·match a with
  |0=>rw[A7 _ _ (by omega)];rfl
  |1=>rw[A7 _ _ (by omega)];rfl
  |2=>rw[A7 _ _ (by omega)];rfl
  |3=>
   rw[Ah]
   show tCells (fun k=>updF R 3 r' (k+4)) l=_
   rw[EX R 3 r' (by omega)]
  |k+4=>rw[A7 _ _ (by omega)];rfl
 ·by_cases e3:a=3
  ·subst e3;rw[Ah]at he;exact hf es he
  ·rw[A7 _ _ e3]at he;exact h.nf a es he
 ·by_cases e3:a=3
  ·subst e3;rw[Ah]at ha;exact(h.keep j o hj).2 3 (hi j ha)
  ·rw[A7 _ _ e3]at ha;exact(h.keep j o hj).2 a ha
theorem Qe(i n c:Nat)(O:Sig)(hn:n<=c)(hb:n<=1000000):DCall prog 340 [.sref i 0 n c] O (rS (.sref i 0 n n) O):=by
 refine en func340 ntmps340 ?_
 refine gz ?_
 refine Jt Ab (off:=0) (m:=n) (cap:=c) ?_ (by decide) (by simp<;>rfl) (by simp) rfl rfl rfl (Nat.le_refl _) hn
 refine gz ?_
 exact fin1 (U':=O) ⟨rfl,rfl⟩
@[reducible,instance] def a340:=fun i n c O=>ah2 (@Qe i n c O)
theorem Of(O:Sig):DCall prog 340 [.nils] O (rS (.slice [] .clip) O):=by
 refine en func340 ntmps340 ?_
 refine gz ?_
 exact fin1 (U':=O) ⟨rfl,rfl⟩
@[reducible,instance] def a340n:=fun O=>ah0 (@Of O)
theorem Qo(l:List MThing)(o:Own)(O:Sig)(hl:l.length<=1000000)(hs:∀x∈l,x.slots.length<=1000000):DCall prog 294 [.slice (l.map cTh) o,.func (.func 295) [] []] O fun x U'=> ∃R,x=.ret ((R 3).d l.length)/\ThS R l O U':=by
 refine en func294 ntmps294 ?_
 refine gz ?_
 refine Fw [1,4,8,9,21,22] (fun (k:Nat) (R:Nat->RW) (U2:Sig)=>k<=l.length/\ThS R (l.take k) O U2/\(k=0/\R 3=.nil \/ ∃i c cs,R 3=.row i c cs)) (fun k R _=>[(10,dI k),(5,(R 3).d k)]) (fun _ _ U2=>U2) (fun k _ _=>l.length-k) (0) (fun _=>.nil) (O) (by exact⟨Nat.zero_le _,ThS.nil O,.inl ⟨rfl,rfl⟩⟩) (fun k R U2 hI=>?_)
 obtain⟨aI,hT,aL⟩:=hI
 by_cases hk:k<l.length
 ·refine gz ?_
  refine A3 (Qn l[k] U2 (hs _ (List.getElem_mem hk))) (fun d S3 hr=>?_) (fun d S3 hr=>by obtain⟨_,h,_⟩:=hr;cases h)
  obtain⟨r,hd,hF⟩:=hr
  cases hd
  rcases r with _|es|⟨j,c',cs'⟩
  ·refine gz ?_
   have aa:(tCells (fun k=>R (k+4)) (l.take k)).length=k:=by rw[A5];simp;omega
   refine xapp (new:=[[dI (l[k]).cls,D.nils]]) (es:=tCells (fun k=>R (k+4)) (l.take k)) (fun i c cs S4 ag ah=>?_) (hT.row3.keep fun j o hj ap=>(hF.2.1 j o hj id).1) (h1:=by rw[aa];with_unfolding_all rfl) (hb:=by rw[aa];simp;omega) (hm2:=by rw[aa];simp;omega)
   have ac:=hT.add hF ag ah
   rw[<-List.take_succ_eq_append_getElem hk]at ac
   rw[show(tCells (fun k=>R (k+4)) (l.take k)).length+[[dI (l[k]).cls,D.nils]].length=k+1 by rw[aa];rfl]
   refine gz ?_
   exact⟨k+1,updF (updF R ((l.take k).length+4) .nil) 3 (.row i c cs),S4,⟨by omega,ac,.inr ⟨_,_,_,Ah ..⟩⟩,td1,wkR⟩
  ·refine gz ?_
   have aa:(tCells (fun k=>R (k+4)) (l.take k)).length=k:=by rw[A5];simp;omega
   refine xapp (new:=[[dI (l[k]).cls,D.slice es .clip]]) (es:=tCells (fun k=>R (k+4)) (l.take k)) (fun i c cs S4 ag ah=>?_) (hT.row3.keep fun j o hj ap=>(hF.2.1 j o hj id).1) (h1:=by rw[aa];with_unfolding_all rfl) (hb:=by rw[aa];simp;omega) (hm2:=by rw[aa];simp;omega)
   have ac:=hT.add hF ag ah
   rw[<-List.take_succ_eq_append_getElem hk]at ac
   rw[show(tCells (fun k=>R (k+4)) (l.take k)).length+[[dI (l[k]).cls,D.slice es .clip]].length=k+1 by rw[aa];rfl]
   refine gz ?_
   exact⟨k+1,updF (updF R ((l.take k).length+4) (.full es)) 3 (.row i c cs),S4,⟨by omega,ac,.inr ⟨_,_,_,Ah ..⟩⟩,td1,wkR⟩
  ·refine gz ?_
   have aa:(tCells (fun k=>R (k+4)) (l.take k)).length=k:=by rw[A5];simp;omega
   refine xapp (new:=[[dI (l[k]).cls,D.sref j 0 (l[k]).slots.length c']]) (es:=tCells (fun k=>R (k+4)) (l.take k)) (fun i c cs S4 ag ah=>?_) (hT.row3.keep fun j o hj ap=>(hF.2.1 j o hj id).1) (h1:=by rw[aa];with_unfolding_all rfl) (hb:=by rw[aa];simp;omega) (hm2:=by rw[aa];simp;omega)
   have ac:=hT.add hF ag ah
   rw[<-List.take_succ_eq_append_getElem hk]at ac
   rw[show(tCells (fun k=>R (k+4)) (l.take k)).length+[[dI (l[k]).cls,D.sref j 0 (l[k]).slots.length c']].length=k+1 by rw[aa];rfl]
   refine gz ?_
   exact⟨k+1,updF (updF R ((l.take k).length+4) (.row j c' cs')) 3 (.row i c cs),S4,⟨by omega,ac,.inr ⟨_,_,_,Ah ..⟩⟩,td1,wkR⟩
 ·obtain rfl:k=l.length:=by omega
  rw[List.take_length]at hT
  rcases aL with⟨h0,h3⟩|⟨i,c,cs,h3⟩
  ·have ae:l=[]:=List.length_eq_zero_iff.1 h0
   subst ae
   rw[h3]
   refine gz ?_
   refine fin1 (U':=U2) ⟨updF R 3 (.full []),by rw[Ah,Sy],hT.re ⟨rfl,fun e he=>by cases he⟩ (fun _ h=>h.elim) (fun es h=>by cases h;rfl)⟩
  ·have q:=hT.row3
   rw[h3]at q
   have hc:=q.2.2.1
   rw[A5]at hc
   rw[h3]
   refine gz ?_
   refine fin1 (U':=U2) ⟨updF R 3 (.row i l.length cs),by rw[Ah,Et],hT.re ⟨q.1,?_,by rw[A5];exact Nat.le_refl _,CD⟩ (fun j hj=>by rw[h3];exact hj) (fun es h=>by cases h)⟩
   rw[List.length_append,Au CD,A5];omega
theorem Qz(l:List MThing)(o:Own)(O:Sig)(hl:l.length<=1000000)(hs:∀x∈l,x.slots.length<=1000000):DCall prog 245 [.slice (l.map cTh) o] O fun x U'=> ∃R,x=.ret ((R 3).d l.length)/\ThS R l O U':=by
 refine en func245 ntmps245 ?_
 refine gz ?_
 refine A3 (Qo l o O hl hs) (fun d S1 hr=>?_) (fun d S1 hr=>by obtain⟨_,h,_⟩:=hr;cases h)
 obtain⟨r,hd,hF⟩:=hr
 cases hd
 refine gz ?_
 exact fin1 (U':=S1) ⟨r,rfl,hF⟩
theorem Tj(l:List MThing)(o:Own)(O:Sig)(hl:l.length<=1000000)(hs:∀x∈l,x.slots.length<=1000000):DCall prog 48 [.slice (l.map cTh) o] O fun x U'=> ∃R,x=.ret ((R 3).d l.length)/\ThS R l O U':=by
 refine en func48 ntmps48 ?_
 refine gz ?_ o48
 refine Fw [2,6,7,22] (fun (k:Nat) (R:Nat->RW) (U2:Sig)=>k<=l.length/\ThS R (l.take k) O U2/\(k=0/\R 3=.nil \/ ∃i c cs,R 3=.row i c cs)) (fun k R _=>[(8,dI k),(3,(R 3).d k)]) (fun _ _ U2=>U2) (fun k _ _=>l.length-k) (0) (fun _=>.nil) (O) (by exact⟨Nat.zero_le _,ThS.nil O,.inl ⟨rfl,rfl⟩⟩) (fun k R U2 hI=>?_)
 obtain⟨aI,hT,aL⟩:=hI
 by_cases hk:k<l.length
 ·refine gz ?_
  refine Hf (id:=5) [0,1,2,3,4,5,6,7,8,9] [5,8] (fun _=>none) (fun _ _ h=>by cases h) ?_
  refine gz ?_ o48
  refine Bt (Ic (l[k]).slots .no U2 (hs _ (List.getElem_mem hk))) (fun d S3 hr=>?_) (fun d S3 hr=>by obtain⟨_,h,_⟩:=hr;cases h)
  obtain⟨r,hd,hF⟩:=hr
  replace hF:FrV U2 r (l[k]).slots S3:=hF
  cases hd
  refine⟨(fun _ _ h=>by cases h),?_⟩
  rcases r with _|es|⟨j,c',cs'⟩
  ·refine gz ?_ o48
   have aa:(tCells (fun k=>R (k+4)) (l.take k)).length=k:=by rw[A5];simp;omega
   refine FW (new:=[[dI (l[k]).cls,D.nils]]) (es:=tCells (fun k=>R (k+4)) (l.take k)) (fun i c cs S4 ag ah=>?_) (fun j o h=>by cases h) (hm:=hT.row3.keep fun j o hj ap=>(hF.2.1 j o hj id).1) (h1:=by rw[aa];with_unfolding_all rfl) (hb:=by rw[aa];simp;omega) (hm2:=by rw[aa];simp;omega)
   have ac:=hT.add hF ag ah
   rw[<-List.take_succ_eq_append_getElem hk]at ac
   rw[show(tCells (fun k=>R (k+4)) (l.take k)).length+[[dI (l[k]).cls,D.nils]].length=k+1 by rw[aa];rfl]
   refine gz ?_ o48
   exact⟨k+1,updF (updF R ((l.take k).length+4) .nil) 3 (.row i c cs),S4,⟨by omega,ac,.inr ⟨_,_,_,Ah ..⟩⟩,td1,wkR⟩
  ·refine gz ?_ o48
   have aa:(tCells (fun k=>R (k+4)) (l.take k)).length=k:=by rw[A5];simp;omega
   refine FW (new:=[[dI (l[k]).cls,D.slice es .clip]]) (es:=tCells (fun k=>R (k+4)) (l.take k)) (fun i c cs S4 ag ah=>?_) (fun j o h=>by cases h) (hm:=hT.row3.keep fun j o hj ap=>(hF.2.1 j o hj id).1) (h1:=by rw[aa];with_unfolding_all rfl) (hb:=by rw[aa];simp;omega) (hm2:=by rw[aa];simp;omega)
   have ac:=hT.add hF ag ah
   rw[<-List.take_succ_eq_append_getElem hk]at ac
   rw[show(tCells (fun k=>R (k+4)) (l.take k)).length+[[dI (l[k]).cls,D.slice es .clip]].length=k+1 by rw[aa];rfl]
   refine gz ?_ o48
   exact⟨k+1,updF (updF R ((l.take k).length+4) (.full es)) 3 (.row i c cs),S4,⟨by omega,ac,.inr ⟨_,_,_,Ah ..⟩⟩,td1,wkR⟩
  ·refine gz ?_ o48
   have aa:(tCells (fun k=>R (k+4)) (l.take k)).length=k:=by rw[A5];simp;omega
   refine FW (new:=[[dI (l[k]).cls,D.sref j 0 (l[k]).slots.length c']]) (es:=tCells (fun k=>R (k+4)) (l.take k)) (fun i c cs S4 ag ah=>?_) (fun j o h=>by cases h) (hm:=hT.row3.keep fun j o hj ap=>(hF.2.1 j o hj id).1) (h1:=by rw[aa];with_unfolding_all rfl) (hb:=by rw[aa];simp;omega) (hm2:=by rw[aa];simp;omega)
   have ac:=hT.add hF ag ah
   rw[<-List.take_succ_eq_append_getElem hk]at ac
   rw[show(tCells (fun k=>R (k+4)) (l.take k)).length+[[dI (l[k]).cls,D.sref j 0 (l[k]).slots.length c']].length=k+1 by rw[aa];rfl]
   refine gz ?_ o48
   exact⟨k+1,updF (updF R ((l.take k).length+4) (.row j c' cs')) 3 (.row i c cs),S4,⟨by omega,ac,.inr ⟨_,_,_,Ah ..⟩⟩,td1,wkR⟩
 ·obtain rfl:k=l.length:=by omega
  rw[List.take_length]at hT
  refine gz ?_ o48
  exact fin1 (U':=U2) ⟨R,rfl,hT⟩
end Go.DL
