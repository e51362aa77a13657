/- A part of the proof. -/
import Derived.Test.YteldimffglchkaaGreatDoorH25
set_option linter.all false
namespace Go.DL
open Go.Proofs.Tryz
open Go Go.Proofs
set_option maxHeartbeats 8000000
section
variable {ro:Ro}{n:Nat}{ops:Array Oper}{N:Nat}{B:Sig->Prop}{Q:DX->St->Prop}{df:List DDf}{rest:List Oper}{γ Sr:List (Nat×D)}{O:Sig}{t:Nat}{ty:TypeId}{pos:String}{after:Array Edge}{e1 c1 k1:Bool}{l:List (Bool×Bool×Bool×Oper)}
theorem Pr{g:G}{w:Go.World}{T e i off len cap:Nat}{k:IntKind}{v u:Value}(hk:(tab T).k=.slice e)(he:A1 (tab e).k=false)(hv:Rep g (.sref i off len cap) v)(hu:Rep g (.int k cap) u)(aM:cap<=len):
  ∃r,(Instr.sliceAt T v (some u) none none).run prog w=.ok r w/\Rep g (.sref i off (len-cap) 0) r:=by
 obtain⟨b,hb,rfl⟩:=hv
 obtain rfl:=AO hu
 refine⟨_,?_,Kb (len:=len-cap) (cap:=0) (off:=off) hb⟩
 have hu:=AB Ac hk
 have c1:(0:Int)<=(cap:Int):=by omega
 have c2:(cap:Int)<=(len:Int):=by omega
 simp only[Option.map_some,Instr.sliceAt,Instr.slice,Instr.sliceBounds,Instr.sliceBound,asIntOf,Sem.run_bind,Sem.run_pure,Result.andThen_ok,run_underlying hu,c1,c2,and_self,if_true,Az (Ac e) (Ad he),Int.toNat_natCast,Nat.sub_self]
theorem iCutL{T e i off len cap lo:Nat}{k:IntKind}{x y:Operand}(h:∀off',(cap=lo/\off'=off\/lo<cap/\off'=off+lo*(tab e).size)->MOI prog ro n ops N Q df l B ((t,.sref i off' (len-lo) (cap-lo))::γ) O)(hB:B O)(aM:lo<=len)(bp:len<=cap)
  (hl:A0 γ (A5 [x,y])=some Sr:=by exact tdR) (h1:ev Sr x=.sref i off len cap:=by exact tdR) (h2:ev Sr y=.int k lo:=by exact tdR) (hk:(tab T).k=.slice e:=by(simp<;>rfl)) (he:A1 (tab e).k=false:=by simp) (ak:decide (t<n)=true:=by exact tdR) :
  MOI prog ro n ops N Q df ((true,c1,k1,⟨some t,.slice T x (some y) none none,ty,pos,after,none⟩)::l) B γ O:=by
 refine moI_1 B (fun _=>rfl) (fun U2 hx=>?_) ak (by rw[Ag];rfl)
 obtain⟨e1,e2⟩:=evs hl
 have g1:ev U2 x=.sref i off len cap:=by rw[hx x (by simp[Op.operands]),<-e1,h1]
 have g2:ev U2 y=.int k lo:=by rw[hx y (by simp[Op.operands]),<-e2,h2]
 refine Bs (fun d U'=>(∃off',(cap=lo/\off'=off\/lo<cap/\off'=off+lo*(tab e).size)/\d=.sref i off' (len-lo) (cap-lo))/\U'=O) rfl (fun c e=>by cases e) (Aa fun c e=>by cases e) (by simp only[Ar];exact ak) ?_
  (fun d U' ⟨⟨o,a1,a2⟩,a3⟩=>by
   subst a2 a3
   refine Au ⟨rfl,?_⟩
   exact⟨hB,by simp only[putD,A3,if_true];exact h o a1⟩)
 intro g w a hs hT
 have hx:=Al hT x
 have hy:=Al hT y
 rw[g1]at hx
 rw[g2]at hy
 by_cases hc:lo<cap
 ·obtain⟨r,h4,h5⟩:=Nb (w:=w) Ac hk he hx hy aM hc
  exact⟨g,w,r,_,O,by simp only[execOp,Option.map_some,Option.map_none,Sem.run_bind,h4,Result.andThen_ok,Sem.run_pure],.refl g,hs,h5,⟨_,.inr ⟨hc,rfl⟩,rfl⟩,rfl⟩
 ·obtain rfl:lo=cap:=by omega
  obtain⟨r,h4,h5⟩:=Pr (w:=w) hk he hx hy aM
  exact⟨g,w,r,_,O,by simp only[execOp,Option.map_some,Option.map_none,Sem.run_bind,h4,Result.andThen_ok,Sem.run_pure],.refl g,hs,h5,⟨_,.inl ⟨rfl,rfl⟩,by rw[Nat.sub_self]⟩,rfl⟩
theorem frzT{ops':List Oper}{sz:Nat}{r:RW}{es:List (List D)}(tt:Nat)(hm:RWAt O sz r es)(h:∀U',(∀j o,O j=some o->¬r.is j->U' j=some o)->DOps prog ro n ops Q ops' ⟨(tt,.slice es .no)::γ,U',df⟩)(hg:getD γ tt=r.d es.length:=by simp[getD,List.lookup]):DOps prog ro n ops Q ops' ⟨γ,O,df⟩:=by
 obtain⟨S2,h3,h4⟩:=Hw (P:=prog) (n:=n) (γ:=γ) (df:=df) (t:=tt) hm hg
 exact BH h3 (h S2 h4)
theorem cutN{T e:Nat}{k:IntKind}{x y:Operand}(h:DOps prog ro n ops Q rest ⟨(t,.nils)::γ,O,df⟩)
  (hl:A0 γ (A5 [x,y])=some Sr:=by exact tdR) (h1:ev Sr x=.nils:=by exact tdR) (h2:ev Sr y=.int k 0:=by exact tdR) (hk:(tab T).k=.slice e:=by(simp<;>rfl)) (he:A1 (tab e).k=false:=by simp) (ak:decide (t<n)=true:=by exact tdR) :
  DOps prog ro n ops Q (⟨some t,.slice T x none (some y) none,ty,pos,after,none⟩::rest) ⟨γ,O,df⟩:=by
 obtain⟨e1,e2⟩:=evs hl
 refine Bs (fun d U'=>d=.nils/\U'=O) rfl (fun c e=>by cases e) (Aa fun c e=>by cases e) (by simp only[Ar];exact ak) ?_
  (fun d U' ⟨a2,a3⟩=>by subst a2 a3;exact h)
 intro g w a hs hT
 have hx:=Al hT x
 have hy:=Al hT y
 rw[<-e1,h1]at hx
 rw[<-e2,h2]at hy
 have aI:=AO hy
 have hu:=AB Ac hk
 have aJ:a.eval x=.slice none 0 0:=hx
 refine⟨g,w,.slice none 0 0,.nils,O,?_,.refl g,hs,rfl,rfl,rfl⟩
 simp only[execOp,Option.map_some,Option.map_none,aJ,aI,Instr.sliceAt,Instr.slice,Instr.sliceBounds,Instr.sliceBound,asIntOf,Sem.run_bind,Sem.run_pure,Result.andThen_ok,run_underlying hu,Az (Ac e) (Ad he)]
 rfl
theorem cutF{T e:Nat}{k:IntKind}{x y:Operand}(h:DOps prog ro n ops Q rest ⟨(t,.slice [] .clip)::γ,O,df⟩)
  (hl:A0 γ (A5 [x,y])=some Sr:=by exact tdR) (h1:ev Sr x=.slice [] .clip:=by exact tdR) (h2:ev Sr y=.int k 0:=by exact tdR) (hk:(tab T).k=.slice e:=by(simp<;>rfl)) (he:A1 (tab e).k=false:=by simp) (ak:decide (t<n)=true:=by exact tdR) :
  DOps prog ro n ops Q (⟨some t,.slice T x none (some y) none,ty,pos,after,none⟩::rest) ⟨γ,O,df⟩:=by
 obtain⟨e1,e2⟩:=evs hl
 refine Bs (fun d U'=>d=.slice [] .clip/\U'=O) rfl (fun c e=>by cases e) (Aa fun c e=>by cases e) (by simp only[Ar];exact ak) ?_
  (fun d U' ⟨a2,a3⟩=>by subst a2 a3;exact h)
 intro g w a hs hT
 have hx:=Al hT x
 have hy:=Al hT y
 rw[<-e1,h1]at hx
 rw[<-e2,h2]at hy
 have aI:=AO hy
 have hu:=AB Ac hk
 have ba:=hx
 obtain⟨b,cap,h1,h2,h3,h4⟩:=hx
 obtain rfl:cap=0:=h4
 have aJ:a.eval x=.slice b 0 0:=h1
 refine⟨g,w,a.eval x,.slice [] .clip,O,?_,.refl g,hs,ba,rfl,rfl⟩
 simp only[execOp,Option.map_some,Option.map_none,aJ,aI,Instr.sliceAt,Instr.slice,Instr.sliceBounds,Instr.sliceBound,asIntOf,Sem.run_bind,Sem.run_pure,Result.andThen_ok,run_underlying hu,Az (Ac e) (Ad he)]
 rfl
theorem xappB{T T' e e' sz:Nat}{s x:Operand}{es new:List (List D)}{r:RW}(h:∀r' U',RWAt U' sz r' (es++new)->RWK O r U' r'->(new=[] \/ ∃i c cs,r'=.row i c cs)->DOps prog ro n ops Q rest ⟨(t,r'.d (es.length+new.length))::γ,U',df⟩)(hm:RWAt O sz r es)(h2:J1 prog O sz (ev Sr x) new)(bh:∀c∈new,Bw c=true)
  (hlen':∀c∈new,c.length=sz)
  (hl:A0 γ (A5 [s,x])=some Sr:=by exact tdR) (hk:(tab T).k=.slice e:=by(simp<;>rfl)) (bd:(tab T').k=.slice e':=by(simp<;>rfl)) (he:A1 (tab e).k=false:=by simp) (hsz:(tab e).size=sz:=by simp)
  (h1:ev Sr s=r.d es.length:=by first|with_unfolding_all rfl|(simp[ev,getD,List.lookup];done))
  (hb:(es.length+new.length)*(tab e).bytes<=140737488355328:=by first|(simp;done)|(simp;omega)) (hm2:es.length+new.length<=9223372036854775807:=by first|(simp;done)|(simp;omega)) (ak:decide (t<n)=true:=by exact tdR) :
  DOps prog ro n ops Q (⟨some t,(cA s x T T'),ty,pos,after,none⟩::rest) ⟨γ,O,df⟩:=by
 obtain⟨e1,e2⟩:=evs hl
 exact E1 Ac (by simpa using ak) hk bd he hsz (by rw[<-e1];exact h1) hm (by rw[<-e2];exact h2) hlen' bh hb hm2 fun r' U' h1 h2 h3=>h r' U' h1 h2 (h3.imp (·.1) id)
theorem isR{x:Operand}{i off len cap T T' e:Nat}(h:DOps prog ro n ops Q rest ⟨(t,.bool false)::γ,O,df⟩)(hl:A0 γ (A5 [x])=some Sr:=by exact tdR)(hx:ev Sr x=.sref i off len cap:=by exact tdR)(hk:(tab T).k=.slice e:=by(simp<;>rfl))(ak:decide (t<n)=true:=by exact tdR):
  DOps prog ro n ops Q (⟨some t,.binOp .eql T x (.const (.slice none 0 0)) T',ty,pos,after,none⟩::rest) ⟨γ,O,df⟩:=by
 refine Bs (fun d U'=>d=.bool false/\U'=O) rfl (fun c e=>by cases e) (Aa fun c e=>by cases e) (by simp only[Ar];exact ak) ?_
  (fun d U' ⟨a2,a3⟩=>by subst a2 a3;exact h)
 intro g w a hs hT
 have hv:=Al hT x
 rw[<-BJ hl,hx]at hv
 obtain⟨b,hb,h1⟩:=hv
 have:=run_equal_slice_nil (P:=prog) w T e (some ⟨b,off,none⟩) len cap (AB Ac hk)
 refine⟨g,w,.bool false,.bool false,O,?_,.refl g,hs,rfl,rfl,rfl⟩
 have hg:(eqGuard .eql T x (.const (.slice none 0 0)) (a.eval x) (.slice none 0 0)).run prog w=.ok () w:=by rw[h1];rfl
 simp only[execOp,Sem.run_bind,show a.eval (.const (.slice none 0 0))=.slice none 0 0 from rfl,hg,Result.andThen_ok]
 simp only[binOp,Sem.run_bind,h1,this,Result.andThen_ok]
 rfl
end
section
variable {ir:Nat}{p:BProg}{R:Nat->RW}{s:GoS}{O:Sig}
theorem Qq(i off cap:Nat)(new:List MVal)(O:Sig)(hn:new.length<=1000000)(ap:J1 prog O 2 (.sref i off new.length cap) (new.map cVal)):DCall prog 47 [.sref i off new.length cap] O (rS (.slice (new.map cVal) .no) O):=by
 refine en func47 ntmps47 ?_
 refine gz ?_
 refine isR ?_
 refine gz ?_
 refine xappR (r:=.full []) (es:=[]) (new:=new.map cVal) (fun r' S1 h1 h2=>?_) ⟨rfl,by simp⟩ ap (fun c hc=>by obtain⟨v,_,rfl⟩:=List.mem_map.1 hc;rfl) Bl
 refine frzT 7 h1 (fun S2 h4=>?_)
 have hS:Sub O S2:=fun j o hj=>by
  obtain⟨k1,k2⟩:=h2 j o hj id
  exact h4 j o k1 k2
 refine gz ?_
 exact fin1 (U':=O) ⟨rfl,rfl⟩
theorem In(new:List MVal)(o:Own)(O:Sig)(hn:new.length<=1000000):DCall prog 47 [.slice (new.map cVal) o] O fun x U'=> ∃r':RW,x=.ret (r'.d new.length)/\RWAt U' 2 r' (new.map cVal)/\RWK O .nil U' r' /\ ∀es,r'=.full es->es=[]:=by
 refine en func47 ntmps47 ?_
 refine gz ?_
 refine isN (fun b hb=>?_)
 cases b with
 |true=>
  have ag:new=[]:=by simpa using hb rfl
  subst ag
  refine gz ?_
  exact fin1 (U':=O) ⟨.nil,rfl,rfl,RWK.refl _ _,fun es h=>by cases h⟩
 | false =>
  refine gz ?_
  refine xappB (r:=.full []) (es:=[]) (new:=new.map cVal) (fun r' S1 h1 h2 h3=>?_) ⟨rfl,by simp⟩ (Hb rfl Bl) (fun c hc=>by obtain⟨v,_,rfl⟩:=List.mem_map.1 hc;rfl) Bl
  rw[show([]:List (List D)).length+(new.map cVal).length=new.length by simp]
  refine gz ?_
  refine fin1 (U':=S1) ⟨r',rfl,h1,fun j o hj _=>h2 j o hj id,fun es h=>?_⟩
  rcases h3 with h3|⟨i,c,cs,h3⟩
  ·subst h
   have:=h1.1
   rw[h3]at this
   exact this.symm
  ·rw[h3]at h;cases h
theorem Lm(O:Sig):DCall prog 47 [.slice [] .no] O (rS (.slice [] .no) O):=by
 refine en func47 ntmps47 ?_
 refine gz ?_
 refine isN (fun b hb=>?_)
 cases b with
 |true=>
  refine gz ?_
  exact fin1 (U':=O) ⟨rfl,rfl⟩
 | false =>
  refine gz ?_
  refine xappR (sz:=2) (r:=.full []) (es:=[]) (new:=[]) (fun r' S1 h1 h2=>?_) ⟨rfl,by simp⟩ (Hb rfl (by simp)) (by simp) (by simp)
  refine frzT 7 h1 (fun S2 h4=>?_)
  have hS:Sub O S2:=fun j o hj=>by
   obtain⟨k1,k2⟩:=h2 j o hj id
   exact h4 j o k1 k2
  refine gz ?_
  exact fin1 (U':=O) ⟨rfl,rfl⟩
abbrev Iz(p:BProg)(R:Nat->RW)(s:GoS)(d0:D)(k g:Int)(a:D):List D:=[dI k,dI 0,dI 0,dI g,a,dI 0,dI 0,.nils,.nils,(R 3).d s.objs.length,(R 2).d s.evs.length]++Aj p++[dI s.pos,d0,(R 1).d s.env.length]
theorem RD(x:CIns)(r args:List MVal)(k:Nat)(hp:p.wt<=1073741824)(hx:x.a=k)(hk:k<p.gens.length)(hg:p.gens[k]=args.length)(hR:RunS ir p R s O)(hs:s.stk=r++args)(hn:s.stk.length<=1000000):DCall prog 119 [.ptr ir 0,.agg (cIns x)] O fun y U'=>y=.ret (.bool true) /\ ∃R' av,HaltS ir p R' { s with stk:=r } av true ⟨2,vZ,x.a,args,0,s.pos,r,s.env,s.objs,s.evs⟩ U'/\RunK ir R O R' U':=by
 have q1:=hR.obj
 have hl:s.stk.length=r.length+args.length:=by rw[hs];simp
 have q0:RWAt O 2 (R 0) (s.stk.map cVal):=hR.rows.ok 0
 have br:p.gens.length<=1073741824:=by obtain⟨a1,a2,a3,a4,a5,a6,a7⟩:=p.wt_le;omega
 cases h0:R 0 with
 |nil=>
  rw[h0,hs]at q0
  have q00:(r++args).map cVal=[]:=q0
  simp at q00
  obtain⟨rfl,rfl⟩:=q00
  unfold AN at q1
  rw[h0,hl]at q1
  rw[show RW.nil.d (([]:List MVal).length+([]:List MVal).length)=.nils from rfl]at q1
  refine en func119 ntmps119 ?_
  refine gf (gi q1 (gi hx hg)) ?_ (delO 2 o119)
  have q2:O ir=some (.cells (Iz p R s .nils 0 0 .nils)):=q1
  refine mixI (id:=2) [0,1,2,3,4,5,6,7,8,9,10,11,12,13,14,15,16,17,18,19,20,21,22,23,24] [12,16,20,24] [9] [16,20,24] (fun s=>s=O) rfl ?_
  refine iP _ ?_
  refine iP _ ?_
  refine iP _ ?_
  refine iP _ ?_
  refine iP (dI x.a) ?_
  refine iP _ ?_
  refine iP _ ?_
  refine iP _ ?_
  refine iP _ ?_
  refine iR .nils (fun s hs=>?_) ?_
  ·rw[hs];simp[q1]
  refine iP (dI 0) ?_
  refine iP (.slice [] .no) ?_
  refine iW (fun s=>s=O) (Lm O) (fun d S1 hr=>?_) (fun d S1 hr=>by cases hr.1)
  obtain⟨hd,rfl⟩:=hr
  cases hd
  refine⟨rfl,?_⟩
  refine iP _ ?_
  refine iP _ ?_
  refine iP (.ptr ir 0) ?_
  refine iS (d:=.any) (U':=S1.set ir (.cells (Iz p R s .nils 2 0 .nils))) (fun _=>True) trivial ?_ (he:=by simp[q2])
  refine iP _ ?_
  refine iP _ ?_
  refine iP (.ptr ir 3) ?_
  refine iS (d:=.any) (U':=S1.set ir (.cells (Iz p R s .nils 2 x.a .nils))) (fun _=>True) trivial ?_ (he:=by simp)
  refine iP _ ?_
  refine iP _ ?_
  refine iP (.ptr ir 4) ?_
  refine iS (d:=.any) (U':=S1.set ir (.cells (Iz p R s .nils 2 x.a (.slice [] .no)))) (fun _=>True) trivial ?_ (he:=by simp)
  refine iN ?_
  repeat ((fail_if_success refine cutN ?_);(refine go1 trivial ?_))
  refine cutN ?_
  refine gz ?_ o119
  refine K3 (r0:=.nil) (r1:=R 1) (m:=0) (m':=s.env.length) (w6 ..) ?_
  refine gz ?_ o119
  have aq:s.stk=[]:=hs
  obtain⟨p3,p4⟩:=hR.halt (av:=.slice [] .no) (b:=true) (k:=⟨2,vZ,x.a,[],0,s.pos,[],s.env,s.objs,s.evs⟩) rfl (A8 _) rfl rfl ⟨rfl,aq.symm,rfl⟩
  have es:s={ s with stk:=[] }:=by rw[<-aq]
  rw[<-es]
  refine fin1 (U':=_) ⟨rfl,_,_,p3,p4⟩ (hU:=?_)
  simp only[w8]
  unfold Nu
  rw[h0,aq]
  exact Sub.refl _
 |full es=>
  obtain rfl:=hR.nf 0 es h0
  rw[h0,hs]at q0
  have q00:(r++args).map cVal=[]:=q0.1
  simp at q00
  obtain⟨rfl,rfl⟩:=q00
  unfold AN at q1
  rw[h0,hl]at q1
  rw[show(RW.full []).d (([]:List MVal).length+([]:List MVal).length)=.slice [] .clip from rfl]at q1
  refine en func119 ntmps119 ?_
  refine gf (gi q1 (gi hx hg)) ?_ (delO 2 o119)
  have q2:O ir=some (.cells (Iz p R s (.slice [] .clip) 0 0 .nils)):=q1
  refine mixI (id:=2) [0,1,2,3,4,5,6,7,8,9,10,11,12,13,14,15,16,17,18,19,20,21,22,23,24] [12,16,20,24] [9] [16,20,24] (fun s=>s=O) rfl ?_
  refine iP _ ?_
  refine iP _ ?_
  refine iP _ ?_
  refine iP _ ?_
  refine iP (dI x.a) ?_
  refine iP _ ?_
  refine iP _ ?_
  refine iP _ ?_
  refine iP _ ?_
  refine iR (.slice [] .clip) (fun s hs=>?_) ?_
  ·rw[hs];simp[q1]
  refine iP (dI 0) ?_
  refine iP (.slice [] .no) ?_
  refine iW (fun s=>s=O) (Lm O) (fun d S1 hr=>?_) (fun d S1 hr=>by cases hr.1)
  obtain⟨hd,rfl⟩:=hr
  cases hd
  refine⟨rfl,?_⟩
  refine iP _ ?_
  refine iP _ ?_
  refine iP (.ptr ir 0) ?_
  refine iS (d:=.any) (U':=S1.set ir (.cells (Iz p R s (.slice [] .clip) 2 0 .nils))) (fun _=>True) trivial ?_ (he:=by simp[q2])
  refine iP _ ?_
  refine iP _ ?_
  refine iP (.ptr ir 3) ?_
  refine iS (d:=.any) (U':=S1.set ir (.cells (Iz p R s (.slice [] .clip) 2 x.a .nils))) (fun _=>True) trivial ?_ (he:=by simp)
  refine iP _ ?_
  refine iP _ ?_
  refine iP (.ptr ir 4) ?_
  refine iS (d:=.any) (U':=S1.set ir (.cells (Iz p R s (.slice [] .clip) 2 x.a (.slice [] .no)))) (fun _=>True) trivial ?_ (he:=by simp)
  refine iN ?_
  repeat ((fail_if_success refine cutF ?_);(refine go1 trivial ?_))
  refine cutF ?_
  refine gz ?_ o119
  refine K3 (r0:=.full []) (r1:=R 1) (m:=0) (m':=s.env.length) (w6 ..) ?_
  refine gz ?_ o119
  have aq:s.stk=[]:=hs
  obtain⟨p3,p4⟩:=hR.halt (av:=.slice [] .no) (b:=true) (k:=⟨2,vZ,x.a,[],0,s.pos,[],s.env,s.objs,s.evs⟩) rfl (A8 _) rfl rfl ⟨rfl,aq.symm,rfl⟩
  have es:s={ s with stk:=[] }:=by rw[<-aq]
  rw[<-es]
  refine fin1 (U':=_) ⟨rfl,_,_,p3,p4⟩ (hU:=?_)
  simp only[w8]
  unfold Nu
  rw[h0,aq]
  exact Sub.refl _
 | row i c cs =>
  rw[h0,hs]at q0
  unfold AN at q1
  rw[h0,hl]at q1
  simp only[EB]at q1
  obtain⟨z1,z2,z3,z4⟩:=q0
  simp only[List.length_map,List.length_append]at z3
  refine en func119 ntmps119 ?_
  refine gf (gi q1 (gi hx hg)) ?_ (delO 2 o119)
  refine mixI (id:=2) [0,1,2,3,4,5,6,7,8,9,10,11,12,13,14,15,16,17,18,19,20,21,22,23,24] [11,12,16,20,24] [9] [16,20,24] (fun s=>s=O) rfl ?_
  refine iP _ ?_
  refine iP _ ?_
  refine iP _ ?_
  refine iP _ ?_
  refine iP (dI x.a) ?_
  refine iP _ ?_
  refine iP _ ?_
  refine iP _ ?_
  refine iP _ ?_
  refine iR (.sref i 0 (r.length+args.length) c) (fun s hs=>?_) ?_
  ·rw[hs];simp[q1]
  refine iP (dI r.length) ?_
  refine iCutL (lo:=r.length) (len:=r.length+args.length) (cap:=c) (i:=i) (off:=0) (fun off' ho=>?_) rfl (by omega) z3
  rw[Nat.add_sub_cancel_left]
  have ap:J1 prog O 2 (.sref i off' args.length (c-r.length)) (args.map cVal):=by
   have e:args.length=(args.map cVal).length:=by simp
   rcases ho with⟨rfl,rfl⟩|⟨h1,h2⟩
   ·obtain rfl:args=[]:=List.length_eq_zero_iff.1 (by omega)
    exact K7 (pre:=[]) (es:=[]) (rest:=((List.map cVal (r++[])).flatten++cs)) (by simpa using z1) rfl (by simp) (by simp)
   ·rw[e]
    refine K7 (pre:=(r.map cVal).flatten) (rest:=cs) (by rw[z1];simp) (by rw[Av Bl,List.length_map,h2];simp) Bl (by simp;omega)
  refine iW (fun s=>s=O) (Qq i off' (c-r.length) args O (by omega) ap) (fun d S1 hr=>?_) (fun d S1 hr=>by cases hr.1)
  obtain⟨hd,rfl⟩:=hr
  cases hd
  refine⟨rfl,?_⟩
  refine iP _ ?_
  refine iP _ ?_
  refine iP (.ptr ir 0) ?_
  refine iS (d:=.any) (U':=S1.set ir (.cells (Iz p R s (.sref i 0 (r.length+args.length) c) 2 0 .nils))) (fun _=>True) trivial ?_ (he:=by simp[q1])
  refine iP _ ?_
  refine iP _ ?_
  refine iP (.ptr ir 3) ?_
  refine iS (d:=.any) (U':=S1.set ir (.cells (Iz p R s (.sref i 0 (r.length+args.length) c) 2 x.a .nils))) (fun _=>True) trivial ?_ (he:=by simp)
  refine iP _ ?_
  refine iP _ ?_
  refine iP (.ptr ir 4) ?_
  refine iS (d:=.any) (U':=S1.set ir (.cells (Iz p R s (.sref i 0 (r.length+args.length) c) 2 x.a (.slice (args.map cVal) .no)))) (fun _=>True) trivial ?_ (he:=by simp)
  refine iN ?_
  refine gz ?_ o119
  refine cutH (i:=i) (off:=0) (len:=r.length+args.length) (cap:=c) (hi:=r.length) ?_ (by omega)
  refine gz ?_ o119
  refine K3 (r0:=.row i c []) (r1:=R 1) (w6 ..) ?_
  refine gz ?_ o119
  have hr:RWAt S1 2 (.row i c ((args.map cVal).flatten++cs)) (r.map cVal):=⟨by rw[z1];simp,by rw[<-List.append_assoc];simpa using z2,by simp;omega,Bl⟩
  obtain⟨p1,p2⟩:=hR.re (a:=0) (s':={ s with stk:=r }) hr (by rw[h0];exact fun j h=>h) (rCt_0 R _ s _) rfl
  obtain⟨p3,p4⟩:=p1.halt (av:=.slice (args.map cVal) .no) (b:=true) (k:=⟨2,vZ,x.a,args,0,s.pos,r,s.env,s.objs,s.evs⟩) rfl (A8 _) rfl rfl ⟨rfl,rfl,rfl⟩
  refine fin1 (U':=_) ⟨rfl,_,_,p3,p2.trans p4⟩ (hU:=?_)
  simp only[w8]
  exact Sub.refl _
end
def cTh(x:MThing):List D:=[dI x.cls,sl (x.slots.map cVal)]
@[simp] theorem cTh_mem(x:MThing)(d:D):(d∈cTh x)=(d=dI x.cls\/d=sl (x.slots.map cVal)):=by simp[cTh]
@[simp] theorem cTh_len(x:MThing):(cTh x).length=2:=rfl
@[simp] theorem cTh_tk(x:MThing):List.take 2 (cTh x)=cTh x:=rfl
@[simp] theorem rwd_nil(n:Nat):RW.nil.d n=.nils:=rfl
@[simp] theorem T9(es:List (List D))(n:Nat):(RW.full es).d n=.slice es .clip:=rfl
def FrV(O:Sig)(r:RW)(l:List MVal)(U':Sig):Prop:=RWAt U' 2 r (l.map cVal)/\RWK O .nil U' r /\ ∀es,r=.full es->es=[]
theorem QF(v:MVal)(O:Sig):DCall prog 339 [.agg (cVal v)] O (rS (.agg (cVal v)) O):=by
 refine en func339 ntmps339 ?_
 refine gz ?_ [] [2]
 refine newV (fun i2 aC=>?_)
 refine gz ?_ [] [2]
 exact finC (U':=O) ⟨rfl,rfl⟩
@[reducible,instance] def a339:=fun v O=>ah0 (@QF v O)
theorem Qz(i n c:Nat)(O:Sig)(hn:n<=c)(hb:n<=1000000):DCall prog 367 [.sref i 0 n c] O (rS (.sref i 0 n n) O):=by
 refine en func367 ntmps367 ?_
 refine gz ?_
 refine JG Ac (off:=0) (m:=n) (cap:=c) ?_ (by decide) (by simp<;>rfl) (by simp) rfl rfl rfl (Nat.le_refl _) hn
 refine gz ?_
 exact fin1 (U':=O) ⟨rfl,rfl⟩
@[reducible,instance] def a367:=fun i n c O=>ah2 (@Qz i n c O)
theorem OB(O:Sig):DCall prog 367 [.nils] O (rS (.slice [] .clip) O):=by
 refine en func367 ntmps367 ?_
 refine gz ?_
 exact fin1 (U':=O) ⟨rfl,rfl⟩
@[reducible,instance] def a367n:=fun O=>ah0 (@OB O)
theorem QG(l:List MVal)(o:Own)(O:Sig)(hl:l.length<=1000000):DCall prog 338 [.slice (l.map cVal) o,.func (.func 339) [] []] O fun x U'=> ∃r,x=.ret (r.d l.length)/\FrV O r l U':=by
 refine en func338 ntmps338 ?_
 refine gz ?_
 refine FH [1,4,8,9,21,22] (fun (k:Nat) (r:RW) (S2:Sig)=>k<=l.length/\RWAt S2 2 r ((l.take k).map cVal)/\RWK O .nil S2 r/\(k=0/\r=.nil \/ ∃i c cs,r=.row i c cs)) (fun k r _=>[(10,dI k),(5,r.d k)]) (fun _ _ S2=>S2) (fun k _ _=>l.length-k) (0) (.nil) (O) (by exact⟨Nat.zero_le _,rfl,RWK.refl _ _,.inl ⟨rfl,rfl⟩⟩) (fun k r S2 hI=>?_)
 obtain⟨aN,hR,hK,hF⟩:=hI
 by_cases hk:k<l.length
 ·have aa:((l.take k).map cVal).length=k:=by simp;omega
  refine gz ?_
  refine xapp (new:=[cVal l[k]]) (fun i c cs S3 aY bk=>?_) hR (h1:=by rw[aa];with_unfolding_all rfl) (hb:=by rw[aa];simp;omega) (hm2:=by rw[aa];simp;omega)
  rw[show(l.take k).map cVal++[cVal l[k]]=(l.take (k+1)).map cVal by rw[List.take_succ_eq_append_getElem hk,List.map_append];rfl]at aY
  rw[show((l.take k).map cVal).length+[cVal l[k]].length=k+1 by simp;omega]
  refine gz ?_
  exact⟨k+1,.row i c cs,S3,⟨by omega,aY,hK.trans bk,.inr ⟨_,_,_,rfl⟩⟩,td1,wkR⟩
 ·obtain rfl:k=l.length:=by omega
  rw[List.take_length]at hR
  rcases hF with⟨h0,rfl⟩|⟨i,c,cs,rfl⟩
  ·have ag:l=[]:=List.length_eq_zero_iff.1 h0
   subst ag
   refine gz ?_
   exact fin1 (U':=S2) ⟨.full [],rfl,⟨rfl,by simp⟩,hK,fun es h=>by cases h;rfl⟩
  ·have hc:=hR.2.2.1
   rw[List.length_map]at hc
   refine gz ?_
   refine fin1 (U':=S2) ⟨.row i l.length cs,rfl,⟨hR.1,?_,by simp,Bl⟩,hK,fun es h=>by cases h⟩
   rw[List.length_append,Av Bl,List.length_map];omega
theorem Ls(l:List MVal)(o:Own)(O:Sig)(hl:l.length<=1000000):DCall prog 293 [.slice (l.map cVal) o] O fun x U'=> ∃r,x=.ret (r.d l.length)/\FrV O r l U':=by
 refine en func293 ntmps293 ?_
 refine gz ?_
 refine A4 (QG l o O hl) (fun d S1 hr=>?_) (fun d S1 hr=>by obtain⟨_,h,_⟩:=hr;cases h)
 obtain⟨r,hd,hF⟩:=hr
 cases hd
 refine gz ?_
 exact fin1 (U':=S1) ⟨r,rfl,hF⟩
theorem SX{ir:Nat}{O:Sig}{ds:List D}{r1:RW}{a:Int}{m k:Nat}(h:O ir=some (.cells ds))(hl:k+2<=ds.length):DM tab O 131 (.ptr ir k) (.agg [dI a,r1.d m])=some (.any,O.set ir (.cells (ds.take k++[dI a,r1.d m]++ds.drop (k+2)))):=by
 have hf:¬ds.length<k+2:=by omega
 cases r1<;>simp[DM,h,RW.d,hf]
theorem QN(x:MThing)(O:Sig)(hl:x.slots.length<=1000000):DCall prog 295 [.agg (cTh x)] O fun y U'=> ∃r,y=.ret (.agg [dI x.cls,r.d x.slots.length])/\FrV O r x.slots U':=by
 refine en func295 ntmps295 ?_
 refine gz ?_ o295 [2]
 refine newV (fun i2 aC=>?_)
 refine gz ?_ [] [2]
 refine Ho (id:=1) [0,1,2,3,4,5,6] [4,6] O ((Sub.refl _).set aC) ?_
 refine gz ?_ o295 [2]
 refine Bx (Ls x.slots .no _ hl) (fun d S1 hr=>?_) (fun d S1 hr=>by obtain⟨_,h,_⟩:=hr;cases h)
 obtain⟨r,hd,h1,h2,h3⟩:=hr
 have aP:=(h2 i2 _ (w6 ..) id).1
 have be:=(h2 i2 _ (w6 ..) id).2
 have hS:Sub O S1:=fun j o hj=>(h2 j o (by rw[w7 _ _ fun e=>by rw[e,aC]at hj;cases hj];exact hj) id).1
 have hF:∀ds,FrV O r x.slots (S1.set i2 (.cells ds)):=fun ds=>⟨h1.keep fun j o hj am=>by rw[w7 _ _ fun e=>be (by rw[<-e];exact am)];exact hj,fun j o hj _=>by
  have hne:j≠i2:=fun e=>by rw[e,aC]at hj;cases hj
  have:=h2 j o (by rw[w7 _ _ hne];exact hj) id
  exact⟨by rw[w7 _ _ hne];exact this.1,this.2⟩,h3⟩
 have aT:∀ds,Sub O (S1.set i2 (.cells ds)):=fun ds j o hj=>by rw[w7 _ _ fun e=>by rw[e,aC]at hj;cases hj];exact hS j o hj
 cases hd
 refine⟨hS,?_⟩
 rcases r with _|es|⟨i,c,cs⟩
 ·have aV:Sub O (S1.set i2 (.cells [dI x.cls,.nils])):=aT _
  refine gf aP ?_ o295 [2]
  exact finC (U':=S1.set i2 (.cells [dI x.cls,.nils])) ⟨.nil,rfl,hF _⟩
 ·have aV:Sub O (S1.set i2 (.cells [dI x.cls,.slice es .clip])):=aT _
  refine gf aP ?_ o295 [2]
  exact finC (U':=S1.set i2 (.cells [dI x.cls,.slice es .clip])) ⟨.full es,rfl,hF _⟩
 ·have aV:Sub O (S1.set i2 (.cells [dI x.cls,.sref i 0 x.slots.length c])):=aT _
  refine gf aP ?_ o295 [2]
  exact finC (U':=S1.set i2 (.cells [dI x.cls,.sref i 0 x.slots.length c])) ⟨.row i c cs,rfl,hF _⟩
structure ThS(R:Nat->RW)(l:List MThing)(S0 O:Sig):Prop where
 rows:Rows O R rSz (rCt R ⟨l,[],0,[],[]⟩)
 lo:∀a,a<3->R a=.nil
 nf:∀a es,R a=.full es->es=[]
 keep:∀j o,S0 j=some o->O j=some o /\ ∀a, ¬(R a).is j
theorem ThS.nil(O:Sig):ThS (fun _=>.nil) [] O O:=
 ⟨⟨fun a=>by
  match a with
  |0=>rfl
  |1=>rfl
  |2=>rfl
  |3=>rfl
  |k+4=>rfl,fun _ _ _ h=>h.elim⟩,fun _ _=>rfl,(fun _ _ h=>by cases h),fun _ _ h=>⟨h,fun _ h=>h⟩⟩
theorem ThS.row3{R:Nat->RW}{l:List MThing}{S0 O:Sig}(h:ThS R l S0 O):RWAt O 2 (R 3) (tCells (fun k=>R (k+4)) l):=h.rows.ok 3
theorem J6(S S':Nat->RW)(l:List MThing)(x:MThing)(h:∀k,k<l.length->S' k=S k):tCells S' (l++[x])=tCells S l++[[dI x.cls,(S' l.length).d x.slots.length]]:=by
 refine List.ext_getElem? fun k=>?_
 by_cases hk:k<l.length
 ·rw[BA _ _ k (by simp;omega),List.getElem?_append_left (by rw[A6];exact hk),BA _ _ k hk,List.getElem_append_left hk,h k hk]
 ·by_cases e:k=l.length
  ·subst e
   rw[BA _ _ _ (by simp),List.getElem?_append_right (by rw[A6];omega),A6,Nat.sub_self]
   simp
  ·rw[List.getElem?_eq_none (by rw[A6];simp;omega),List.getElem?_eq_none (by simp[A6];omega)]
theorem ThS.add{R:Nat->RW}{l:List MThing}{S0 O S1 S2:Sig}(h:ThS R l S0 O){x:MThing}{r:RW}(hF:FrV O r x.slots S1){i c:Nat}{cs:List D}(hr:RWAt S2 2 (.row i c cs) (tCells (fun k=>R (k+4)) l++[[dI x.cls,r.d x.slots.length]]))(hk:RWK S1 (R 3) S2 (.row i c cs)):
  ThS (updF (updF R (l.length+4) r) 3 (.row i c cs)) (l++[x]) S0 S2:=by
 obtain⟨f1,f2,f3⟩:=hF
 have e2:rSz (l.length+4)=2:=by unfold rSz;rw[if_neg (by omega)]
 have u1:=h.rows.upd (a:=l.length+4) (r':=r) (by rw[e2];exact f1) (fun j o hj _=>f2 j o hj id)
 have u2:=u1.upd (a:=3) (r':=.row i c cs) hr (by rw[A7 _ _ (by omega)];exact hk)
 refine⟨u2.retell fun a=>?_,fun a ha=>?_,fun a es he=>?_,fun j o hj=>?_⟩
 ·match a with
  |0=>rw[A7 _ _ (by omega),A7 _ _ (by omega)];rfl
  |1=>rw[A7 _ _ (by omega),A7 _ _ (by omega)];rfl
  |2=>rw[A7 _ _ (by omega),A7 _ _ (by omega)];rfl
  |3=>
   rw[Ak]
   show tCells (fun k=>updF (updF R (l.length+4) r) 3 (.row i c cs) (k+4)) (l++[x])=_
   rw[J6 (fun k=>R (k+4)) _ l x fun k hk=>by rw[A7 _ _ (by omega),A7 _ _ (by omega)]]
   simp only[A7 (updF R (l.length+4) r) (RW.row i c cs) (show l.length+4≠3 by omega),Ak]
  | k+4 =>
   rw[A7 _ _ (by omega)]
   show(((l++[x])[k]?).getD ⟨0,[]⟩).slots.map cVal=_
   by_cases e:k=l.length
   ·subst e;rw[Ak];simp
   ·rw[A7 _ _ (by omega)]
    show _=((l[k]?).getD ⟨0,[]⟩).slots.map cVal
    by_cases hk:k<l.length
    ·rw[List.getElem?_append_left hk]
    ·rw[List.getElem?_eq_none (by simp;omega),List.getElem?_eq_none (by omega)]
 ·rw[A7 _ _ (by omega),A7 _ _ (by omega)];exact h.lo a ha
 ·by_cases e3:a=3
  ·subst e3;rw[Ak]at he;cases he
  ·rw[A7 _ _ e3]at he
   by_cases e4:a=l.length+4
   ·subst e4;rw[Ak]at he;exact f3 es he
   ·rw[A7 _ _ e4]at he;exact h.nf a es he
 ·obtain⟨k1,k2⟩:=h.keep j o hj
  obtain⟨k3,k4⟩:=f2 j o k1 id
  obtain⟨k5,k6⟩:=hk j o k3 (k2 3)
  refine⟨k5,fun a ha=>?_⟩
  by_cases e3:a=3
  ·subst e3;rw[Ak]at ha;exact k6 ha
  ·rw[A7 _ _ e3]at ha
   by_cases e4:a=l.length+4
   ·subst e4;rw[Ak]at ha;exact k4 ha
   ·rw[A7 _ _ e4]at ha;exact k2 a ha
theorem ThS.re{R:Nat->RW}{l:List MThing}{S0 O:Sig}(h:ThS R l S0 O){r':RW}(hr:RWAt O 2 r' (tCells (fun k=>R (k+4)) l))(hi:∀j,r'.is j->(R 3).is j)(hf:∀es,r'=.full es->es=[]):ThS (updF R 3 r') l S0 O:=by
 have u:=h.rows.re (a:=3) (r':=r') hr hi
 refine⟨u.retell fun a=>?_,fun a ha=>by rw[A7 _ _ (by omega)];exact h.lo a ha,fun a es he=>?_,fun j o hj=>⟨(h.keep j o hj).1,fun a ha=>?_⟩⟩
 ·match a with
  |0=>rw[A7 _ _ (by omega)];rfl
  |1=>rw[A7 _ _ (by omega)];rfl
  |2=>rw[A7 _ _ (by omega)];rfl
  |3=>
   rw[Ak]
   show tCells (fun k=>updF R 3 r' (k+4)) l=_
   rw[F7 R 3 r' (by omega)]
  |k+4=>rw[A7 _ _ (by omega)];rfl
 ·by_cases e3:a=3
  ·subst e3;rw[Ak]at he;exact hf es he
  ·rw[A7 _ _ e3]at he;exact h.nf a es he
 ·by_cases e3:a=3
  ·subst e3;rw[Ak]at ha;exact(h.keep j o hj).2 3 (hi j ha)
  ·rw[A7 _ _ e3]at ha;exact(h.keep j o hj).2 a ha
theorem QE(i n c:Nat)(O:Sig)(hn:n<=c)(hb:n<=1000000):DCall prog 340 [.sref i 0 n c] O (rS (.sref i 0 n n) O):=by
 refine en func340 ntmps340 ?_
 refine gz ?_
 refine JG Ac (off:=0) (m:=n) (cap:=c) ?_ (by decide) (by simp<;>rfl) (by simp) rfl rfl rfl (Nat.le_refl _) hn
 refine gz ?_
 exact fin1 (U':=O) ⟨rfl,rfl⟩
@[reducible,instance] def a340:=fun i n c O=>ah2 (@QE i n c O)
theorem OF(O:Sig):DCall prog 340 [.nils] O (rS (.slice [] .clip) O):=by
 refine en func340 ntmps340 ?_
 refine gz ?_
 exact fin1 (U':=O) ⟨rfl,rfl⟩
@[reducible,instance] def a340n:=fun O=>ah0 (@OF O)
theorem QO(l:List MThing)(o:Own)(O:Sig)(hl:l.length<=1000000)(hs:∀x∈l,x.slots.length<=1000000):DCall prog 294 [.slice (l.map cTh) o,.func (.func 295) [] []] O fun x U'=> ∃R,x=.ret ((R 3).d l.length)/\ThS R l O U':=by
 refine en func294 ntmps294 ?_
 refine gz ?_
 refine FH [1,4,8,9,21,22] (fun (k:Nat) (R:Nat->RW) (S2:Sig)=>k<=l.length/\ThS R (l.take k) O S2/\(k=0/\R 3=.nil \/ ∃i c cs,R 3=.row i c cs)) (fun k R _=>[(10,dI k),(5,(R 3).d k)]) (fun _ _ S2=>S2) (fun k _ _=>l.length-k) (0) (fun _=>.nil) (O) (by exact⟨Nat.zero_le _,ThS.nil O,.inl ⟨rfl,rfl⟩⟩) (fun k R S2 hI=>?_)
 obtain⟨aN,hT,aZ⟩:=hI
 by_cases hk:k<l.length
 ·refine gz ?_
  refine A4 (QN l[k] S2 (hs _ (List.getElem_mem hk))) (fun d S3 hr=>?_) (fun d S3 hr=>by obtain⟨_,h,_⟩:=hr;cases h)
  obtain⟨r,hd,hF⟩:=hr
  cases hd
  rcases r with _|es|⟨j,c',cs'⟩
  ·refine gz ?_
   have aa:(tCells (fun k=>R (k+4)) (l.take k)).length=k:=by rw[A6];simp;omega
   refine xapp (new:=[[dI (l[k]).cls,D.nils]]) (es:=tCells (fun k=>R (k+4)) (l.take k)) (fun i c cs S4 ai aj=>?_) (hT.row3.keep fun j o hj am=>(hF.2.1 j o hj id).1) (h1:=by rw[aa];with_unfolding_all rfl) (hb:=by rw[aa];simp;omega) (hm2:=by rw[aa];simp;omega)
   have ae:=hT.add hF ai aj
   rw[<-List.take_succ_eq_append_getElem hk]at ae
   rw[show(tCells (fun k=>R (k+4)) (l.take k)).length+[[dI (l[k]).cls,D.nils]].length=k+1 by rw[aa];rfl]
   refine gz ?_
   exact⟨k+1,updF (updF R ((l.take k).length+4) .nil) 3 (.row i c cs),S4,⟨by omega,ae,.inr ⟨_,_,_,Ak ..⟩⟩,td1,wkR⟩
  ·refine gz ?_
   have aa:(tCells (fun k=>R (k+4)) (l.take k)).length=k:=by rw[A6];simp;omega
   refine xapp (new:=[[dI (l[k]).cls,D.slice es .clip]]) (es:=tCells (fun k=>R (k+4)) (l.take k)) (fun i c cs S4 ai aj=>?_) (hT.row3.keep fun j o hj am=>(hF.2.1 j o hj id).1) (h1:=by rw[aa];with_unfolding_all rfl) (hb:=by rw[aa];simp;omega) (hm2:=by rw[aa];simp;omega)
   have ae:=hT.add hF ai aj
   rw[<-List.take_succ_eq_append_getElem hk]at ae
   rw[show(tCells (fun k=>R (k+4)) (l.take k)).length+[[dI (l[k]).cls,D.slice es .clip]].length=k+1 by rw[aa];rfl]
   refine gz ?_
   exact⟨k+1,updF (updF R ((l.take k).length+4) (.full es)) 3 (.row i c cs),S4,⟨by omega,ae,.inr ⟨_,_,_,Ak ..⟩⟩,td1,wkR⟩
  ·refine gz ?_
   have aa:(tCells (fun k=>R (k+4)) (l.take k)).length=k:=by rw[A6];simp;omega
   refine xapp (new:=[[dI (l[k]).cls,D.sref j 0 (l[k]).slots.length c']]) (es:=tCells (fun k=>R (k+4)) (l.take k)) (fun i c cs S4 ai aj=>?_) (hT.row3.keep fun j o hj am=>(hF.2.1 j o hj id).1) (h1:=by rw[aa];with_unfolding_all rfl) (hb:=by rw[aa];simp;omega) (hm2:=by rw[aa];simp;omega)
   have ae:=hT.add hF ai aj
   rw[<-List.take_succ_eq_append_getElem hk]at ae
   rw[show(tCells (fun k=>R (k+4)) (l.take k)).length+[[dI (l[k]).cls,D.sref j 0 (l[k]).slots.length c']].length=k+1 by rw[aa];rfl]
   refine gz ?_
   exact⟨k+1,updF (updF R ((l.take k).length+4) (.row j c' cs')) 3 (.row i c cs),S4,⟨by omega,ae,.inr ⟨_,_,_,Ak ..⟩⟩,td1,wkR⟩
 ·obtain rfl:k=l.length:=by omega
  rw[List.take_length]at hT
  rcases aZ with⟨h0,h3⟩|⟨i,c,cs,h3⟩
  ·have ag:l=[]:=List.length_eq_zero_iff.1 h0
   subst ag
   rw[h3]
   refine gz ?_
   refine fin1 (U':=S2) ⟨updF R 3 (.full []),by rw[Ak,T9],hT.re ⟨rfl,fun e he=>by cases he⟩ (fun _ h=>h.elim) (fun es h=>by cases h;rfl)⟩
  ·have q:=hT.row3
   rw[h3]at q
   have hc:=q.2.2.1
   rw[A6]at hc
   rw[h3]
   refine gz ?_
   refine fin1 (U':=S2) ⟨updF R 3 (.row i l.length cs),by rw[Ak,EB],hT.re ⟨q.1,?_,by rw[A6];exact Nat.le_refl _,CK⟩ (fun j hj=>by rw[h3];exact hj) (fun es h=>by cases h)⟩
   rw[List.length_append,Av CK,A6];omega
theorem QZ(l:List MThing)(o:Own)(O:Sig)(hl:l.length<=1000000)(hs:∀x∈l,x.slots.length<=1000000):DCall prog 245 [.slice (l.map cTh) o] O fun x U'=> ∃R,x=.ret ((R 3).d l.length)/\ThS R l O U':=by
 refine en func245 ntmps245 ?_
 refine gz ?_
 refine A4 (QO l o O hl hs) (fun d S1 hr=>?_) (fun d S1 hr=>by obtain⟨_,h,_⟩:=hr;cases h)
 obtain⟨r,hd,hF⟩:=hr
 cases hd
 refine gz ?_
 exact fin1 (U':=S1) ⟨r,rfl,hF⟩
theorem TZ(l:List MThing)(o:Own)(O:Sig)(hl:l.length<=1000000)(hs:∀x∈l,x.slots.length<=1000000):DCall prog 48 [.slice (l.map cTh) o] O fun x U'=> ∃R,x=.ret ((R 3).d l.length)/\ThS R l O U':=by
 refine en func48 ntmps48 ?_
 refine gz ?_ o48
 refine FH [2,6,7,22] (fun (k:Nat) (R:Nat->RW) (S2:Sig)=>k<=l.length/\ThS R (l.take k) O S2/\(k=0/\R 3=.nil \/ ∃i c cs,R 3=.row i c cs)) (fun k R _=>[(8,dI k),(3,(R 3).d k)]) (fun _ _ S2=>S2) (fun k _ _=>l.length-k) (0) (fun _=>.nil) (O) (by exact⟨Nat.zero_le _,ThS.nil O,.inl ⟨rfl,rfl⟩⟩) (fun k R S2 hI=>?_)
 obtain⟨aN,hT,aZ⟩:=hI
 by_cases hk:k<l.length
 ·refine gz ?_
  refine Ho (id:=5) [0,1,2,3,4,5,6,7,8,9] [5,8] (fun _=>none) (fun _ _ h=>by cases h) ?_
  refine gz ?_ o48
  refine Bx (In (l[k]).slots .no S2 (hs _ (List.getElem_mem hk))) (fun d S3 hr=>?_) (fun d S3 hr=>by obtain⟨_,h,_⟩:=hr;cases h)
  obtain⟨r,hd,hF⟩:=hr
  replace hF:FrV S2 r (l[k]).slots S3:=hF
  cases hd
  refine⟨(fun _ _ h=>by cases h),?_⟩
  rcases r with _|es|⟨j,c',cs'⟩
  ·refine gz ?_ o48
   have aa:(tCells (fun k=>R (k+4)) (l.take k)).length=k:=by rw[A6];simp;omega
   refine G7 (new:=[[dI (l[k]).cls,D.nils]]) (es:=tCells (fun k=>R (k+4)) (l.take k)) (fun i c cs S4 ai aj=>?_) (fun j o h=>by cases h) (hm:=hT.row3.keep fun j o hj am=>(hF.2.1 j o hj id).1) (h1:=by rw[aa];with_unfolding_all rfl) (hb:=by rw[aa];simp;omega) (hm2:=by rw[aa];simp;omega)
   have ae:=hT.add hF ai aj
   rw[<-List.take_succ_eq_append_getElem hk]at ae
   rw[show(tCells (fun k=>R (k+4)) (l.take k)).length+[[dI (l[k]).cls,D.nils]].length=k+1 by rw[aa];rfl]
   refine gz ?_ o48
   exact⟨k+1,updF (updF R ((l.take k).length+4) .nil) 3 (.row i c cs),S4,⟨by omega,ae,.inr ⟨_,_,_,Ak ..⟩⟩,td1,wkR⟩
  ·refine gz ?_ o48
   have aa:(tCells (fun k=>R (k+4)) (l.take k)).length=k:=by rw[A6];simp;omega
   refine G7 (new:=[[dI (l[k]).cls,D.slice es .clip]]) (es:=tCells (fun k=>R (k+4)) (l.take k)) (fun i c cs S4 ai aj=>?_) (fun j o h=>by cases h) (hm:=hT.row3.keep fun j o hj am=>(hF.2.1 j o hj id).1) (h1:=by rw[aa];with_unfolding_all rfl) (hb:=by rw[aa];simp;omega) (hm2:=by rw[aa];simp;omega)
   have ae:=hT.add hF ai aj
   rw[<-List.take_succ_eq_append_getElem hk]at ae
   rw[show(tCells (fun k=>R (k+4)) (l.take k)).length+[[dI (l[k]).cls,D.slice es .clip]].length=k+1 by rw[aa];rfl]
   refine gz ?_ o48
   exact⟨k+1,updF (updF R ((l.take k).length+4) (.full es)) 3 (.row i c cs),S4,⟨by omega,ae,.inr ⟨_,_,_,Ak ..⟩⟩,td1,wkR⟩
  ·refine gz ?_ o48
   have aa:(tCells (fun k=>R (k+4)) (l.take k)).length=k:=by rw[A6];simp;omega
   refine G7 (new:=[[dI (l[k]).cls,D.sref j 0 (l[k]).slots.length c']]) (es:=tCells (fun k=>R (k+4)) (l.take k)) (fun i c cs S4 ai aj=>?_) (fun j o h=>by cases h) (hm:=hT.row3.keep fun j o hj am=>(hF.2.1 j o hj id).1) (h1:=by rw[aa];with_unfolding_all rfl) (hb:=by rw[aa];simp;omega) (hm2:=by rw[aa];simp;omega)
   have ae:=hT.add hF ai aj
   rw[<-List.take_succ_eq_append_getElem hk]at ae
   rw[show(tCells (fun k=>R (k+4)) (l.take k)).length+[[dI (l[k]).cls,D.sref j 0 (l[k]).slots.length c']].length=k+1 by rw[aa];rfl]
   refine gz ?_ o48
   exact⟨k+1,updF (updF R ((l.take k).length+4) (.row j c' cs')) 3 (.row i c cs),S4,⟨by omega,ae,.inr ⟨_,_,_,Ak ..⟩⟩,td1,wkR⟩
 ·obtain rfl:k=l.length:=by omega
  rw[List.take_length]at hT
  refine gz ?_ o48
  exact fin1 (U':=S2) ⟨R,rfl,hT⟩
@[simp] theorem cInit_tk(x:Init):List.take 2 (IB x)=IB x:=rfl
theorem Gp(x:Init)(s:Int)(O:Sig):DCall prog 292 ([]++[.agg (IB x)]++[.cptr [dI s] 0]) O (rS (.bool (decide (x.slot=s))) O):=by
 refine en func292 ntmps292 ?_
 refine gz ?_
 exact fe1 trivial
theorem Gq(l:List Init)(p:Init->Bool)(g:Nat)(cap:List D)(o:Own)(O:Sig)(hl:l.length<=1073741824)(hg:∀v∈l,DCall prog g ([]++[.agg (IB v)]++cap) O (rS (.bool (p v)) O)):DCall prog 291 [.slice (l.map IB) o,.func (.func g) [] cap] O (rS (dI (idxF p l 0)) O):=by
 refine en func291 ntmps291 ?_
 refine gz ?_
 refine Cx [0,1,7] (fun (k:Nat)=>k<=l.length/\idxF p l 0=idxF p (l.drop k) k) (fun k=>[(8,dI k)]) (fun _=>O) (fun k=>l.length-k) (0) (by simp) (fun k hI=>?_)
 obtain⟨hk,hR⟩:=hI
 by_cases h:k<l.length
 ·rw[Ab h,idxF]at hR
  repeat' first|refine C9 (hg (l[k]) (List.getElem_mem h)) ?_|refine callP (hg (l[k]) (List.getElem_mem h)) ?_|refine gz ?_|apply gy<;>intro hh
  ·rw[hh]at hR
   exact fe1 hR
  ·rw[hh]at hR
   exact⟨k+1,⟨by omega,hR⟩,td1,wkR⟩
 ·rw[Af h,idxF]at hR
  refine gz ?_
  exact fe1 hR
theorem idxF_find{α:Type}(q:α->Bool): ∀(l:List α) (k:Nat),(idxF q l k = -1/\l.find? q=none) \/ ∃(j:Nat) (hj:j<l.length),idxF q l k=k+j/\l.find? q=some l[j]
 |[],_=>.inl ⟨rfl,rfl⟩
 | x::r,k=>by
  cases h:q x with
  |true=>exact .inr ⟨0,by simp,by rw[idxF,if_pos h];simp,by rw[List.find?_cons,h];rfl⟩
  |false=>
   rcases idxF_find q r (k+1)with⟨h1,h2⟩|⟨j,hj,h1,h2⟩
   ·exact .inl ⟨by rw[idxF,if_neg (by rw[h];simp)];exact h1,by rw[List.find?_cons,h];exact h2⟩
   ·exact .inr ⟨j+1,by simpa using hj,by rw[idxF,if_neg (by rw[h];simp),h1];push_cast;omega,by rw[List.find?_cons,h];exact h2⟩
theorem M7(m:List (Int×Int)): ∀l:List Int,(beginL m l).length<=l.length
 |[]=>Nat.le_refl _
 |s::r=>by
  have:=M7 m r
  rw[beginL];split
  ·simp only[List.length_cons];omega
  ·simp only[List.length_cons];omega
def eIT(m:List (Int×MThing)):List (D×D):=eM dI (fun x=>.agg (cTh x)) m
@[simp] theorem putIT(k c:Int)(l:List MVal)(m:List (Int×MThing)):CE (.int .i64) (.int .i64 k) (.agg [.int .i64 c,.slice (l.map cVal) .no]) (eIT m)=some (eIT (putM k ⟨c,l⟩ m)):=Nh keyI (fun x=>.agg (cTh x)) k ⟨c,l⟩ m
theorem hitIT(k:Int)(m:List (Int×MThing))(h:hasM k m=true):hitD tab 131 false (Cd (.int .i64) (.int .i64 k) (eIT m) 0)=some (.agg (cTh (getM ⟨0,[]⟩ k m))):=by
 have:=UG (tab:=tab) (e:=131) keyI (fun x:MThing=>.agg (cTh x)) (z:=⟨0,[]⟩) rfl k m
 rw[h]at this
 exact this
def mp1(p:BProg):Nat->List (Int×List Int)
 |0=>[]
 |i+1=>putM ((i:Int)+3) (hasP p ((i:Int)+3)) (mp1 p i)
def mp2(p:BProg):Nat->List (Int×MThing)
 |0=>[]
 |i+1=>putM ((i:Int)+3) ⟨(i:Int)+3,(A2 p).fresh ((i:Int)+3)⟩ (mp2 p i)
theorem Kf(p:BProg)(j:Nat): ∀i,j<i->hasM ((j:Int)+3) (mp1 p i)=true/\getM [] ((j:Int)+3) (mp1 p i)=hasP p ((j:Int)+3)
 |0,h=>by omega
 | i+1,h=>by
  rw[mp1,Gf,Em]
  by_cases e:j=i
  ·subst e;simp
  ·rw[if_neg (by omega)]
   obtain⟨h1,h2⟩:=Kf p j i (by omega)
   exact⟨by rw[h1];simp,h2⟩
theorem PK(p:BProg)(j:Nat): ∀i,j<i->hasM ((j:Int)+3) (mp2 p i)=true/\getM ⟨0,[]⟩ ((j:Int)+3) (mp2 p i)=⟨(j:Int)+3,(A2 p).fresh ((j:Int)+3)⟩
 |0,h=>by omega
 | i+1,h=>by
  rw[mp2,Gf,Em]
  by_cases e:j=i
  ·subst e;simp
  ·rw[if_neg (by omega)]
   obtain⟨h1,h2⟩:=PK p j i (by omega)
   exact⟨by rw[h1];simp,h2⟩
def cKnw(p:BProg)(i1 i2:Nat):D:=.cptr (Aj p++[.map i1,.map i2]) 0
def KnwS(p:BProg)(i1 i2:Nat)(S0 O:Sig):Prop:=Sub S0 O/\O i1=some (.map (eIO (mp1 p p.classes.length)))/\O i2=some (.map (eIT (mp2 p p.classes.length)))
theorem frzC{ro:Ro}{n:Nat}{Q:DX->St->Prop}{df:List DDf}{γ:Fr}{O:Sig}{c:Code}{i sz:Nat}{r:RW}{es:List (List D)}(a0 b0:List D)(hm:RWAt O sz r es)(hi:O i=some (.cells (a0++r.d es.length::b0)))(bb:¬r.is i)
  (h:∀U',U' i=some (.cells (a0 ++ .slice es .no::b0))->(∀j o,O j=some o->j≠i->¬r.is j->U' j=some o)->DWp prog ro n c Q ⟨γ,U',df⟩):DWp prog ro n c Q ⟨γ,O,df⟩:=by
 obtain⟨S2,h1,h2,h3⟩:=BF (P:=prog) (n:=n) (γ:=γ) (df:=df) hm hi bb
 exact DA h1 (h S2 h2 h3)
theorem Lv(p:BProg)(O:Sig)(hp:p.wt<=1073741824)(hk:okP p=true):DCall prog 242 [.agg (Aj p)] O fun x U'=> ∃i1 i2,x=.ret (cKnw p i1 i2)/\KnwS p i1 i2 O U':=by
 obtain⟨p1,p2,p3,p4,p5,p6,p7⟩:=p.wt_le
 refine en func242 ntmps242 ?_
 refine gz ?_ o242 [6,11]
 refine newM (fun i1 h1=>?_)
 refine newM (fun i2 h2=>?_)
 have hne:i1≠i2:=fun e=>by rw[<-e,w6]at h2;cases h2
 have a8:O i2=none:=by rw[w7 _ _ fun e=>hne e.symm]at h2;exact h2
 refine gz ?_ o242 [6,11]
 refine Cw [1,2,3,20,82] (fun (k:Nat) (S2:Sig)=>k<=p.classes.length/\Sub O S2/\S2 i1=some (.map (eIO (mp1 p k)))/\S2 i2=some (.map (eIT (mp2 p k)))) (fun k _=>[(21,dI k)]) (fun _ S2=>S2) (fun k _=>p.classes.length-k) (0) ((O.set i1 (.map [])).set i2 (.map [])) (by exact⟨Nat.zero_le _,((Sub.refl _).set h1).set a8,by rw[w7 _ _ hne,w6];rfl,w6 ..⟩) (fun k S2 hI=>?_)
 obtain⟨aN,hS,aL,hm2⟩:=hI
 by_cases bq:k<p.classes.length
 ·have ay:(ownF p ((k:Int)+3)&&okP p)=true:=by unfold ownF;rw[hk];simp;omega
  have ax:Sub (S2.out fun j=>j=i1) (S2.set i1 (.map (eIO (putM ((k:Int)+3) (hasP p ((k:Int)+3)) (mp1 p k))))):=fun j o hj=>by
   obtain⟨a,b⟩:=Cs hj
   rw[w7 _ _ b];exact a
  have hC:Sub (S2.out fun j=>j=i1) S2:=Cr _ _
  refine gz ?_ (delO 6 o242) [6,11]
  refine Ho (id:=6) [0,1,2,3,4,5,6,7,8,9,10,11] [7,11] (S2.out fun j=>j=i1) (Cr _ _) ?_
  refine gf (gi aL ay) ?_ o242 [6,11]
  obtain⟨S3,aE⟩:∃S3,S3=S2.set i1 (.map (eIO (putM ((k:Int)+3) (hasP p ((k:Int)+3)) (mp1 p k)))):=⟨_,rfl⟩
  rw[<-aE]
  have aB:S3 i1=some (.map (eIO (mp1 p (k+1)))):=by rw[aE,w6];rfl
  have aA:S3 i2=some (.map (eIT (mp2 p k))):=by rw[aE,w7 _ _ fun e=>hne e.symm];exact hm2
  have aU:Sub O S3:=fun j o hj=>by rw[aE,w7 _ _ fun e=>by rw[e,h1]at hj;cases hj];exact hS j o hj
  obtain⟨g1,g2⟩:=Kf p k (k+1) (by omega)
  have aR:hitD tab 23 false (Cd (.int .i64) (.int .i64 ((k:Int)+3)) (eIO (mp1 p (k+1))) 0)=some (sl (cI (hasP p ((k:Int)+3)))):=by rw[TC,g1,g2];rfl
  have bf:=Cc p ((k:Int)+3)
  have bm:=E6 p
  clear aE aL hm2 ax hC
  refine newV (fun i6 h6=>?_)
  have n1:i1≠i6:=fun e=>by rw[<-e,aB]at h6;cases h6
  have n2:i2≠i6:=fun e=>by rw[<-e,aA]at h6;cases h6
  refine gf (gi aB (gi aA (gi ay aR))) ?_ o242 [6,11]
  obtain⟨hs,aQ⟩:∃hs,hs=hasP p ((k:Int)+3):=⟨_,rfl⟩
  obtain⟨ini,ar⟩:∃ini,ini=E4 p ((k:Int)+3):=⟨_,rfl⟩
  have aH:ini.length<=1073741824:=by rw[ar];unfold E4;have:=M7 (Hi p (linF (p.classes.map (·.parents)) ((k:Int)+3))) (hasP p ((k:Int)+3));omega
  rw[<-aQ]at bf
  rw[<-aQ,<-ar]
  refine FH [1,2,3,4,5,6,7,8,20,21,22,23,24,25,26,27,28,29,30,31,32,33,34,35,36,37,38,39,40,41,42,43,44,45,46,47,48,49,50,51,75,76,77,78,79,80,81,82] (fun (q:Nat) (r:RW) (S4:Sig)=>q<=hs.length/\Sub S3 S4/\S4 i6=some (.cells [.int .i64 ((k:Int)+3),r.d q])/\RWAt S4 2 r ((hs.take q).map fun s=>cVal (frV ini s)) /\ ¬r.is i6 /\ ∀j,r.is j->S3 j=none) (fun q _ _=>[(52,dI q)]) (fun _ _ S4=>S4) (fun q _ _=>hs.length-q) (0) (.nil) (S3.set i6 (.cells [.int .i64 ((k:Int)+3),.nils])) (by exact⟨Nat.zero_le _,(Sub.refl _).set h6,w6 .., rfl,id,fun _ h=>h.elim⟩) (fun q r S4 hI=>?_)
  obtain⟨bn,aw,o6,hR,aK,aD⟩:=hI
  by_cases aW:q<hs.length
  ·have aa:((hs.take q).map fun s=>cVal (frV ini s)).length=q:=by simp;omega
   refine gf o6 ?_ o242 [6,11]
   refine newV (fun i11 bl=>?_)
   have ah:∀j o,S4 j=some o->j≠i11:=fun j o hj e=>by rw[e,bl]at hj;cases hj
   have n611:=ah _ _ o6
   rcases idxF_find (fun x:Init=>decide (x.slot=hs[q])) ini 0 with⟨hx,au⟩|⟨m,hm,hx,au⟩
   ·repeat' first|refine gf (gi o6 hx) ?_ [] [6,11]|refine C9 (Gq ini (fun x=>decide (x.slot=hs[q])) 292 [.cptr [dI hs[q]] 0] .no _ aH (fun v _=>Gp v hs[q] _)) ?_|refine callP (Gq ini (fun x=>decide (x.slot=hs[q])) 292 [.cptr [dI hs[q]] 0] .no _ aH (fun v _=>Gp v hs[q] _)) ?_|refine gf (gi o6 hx) ?_ o242 [6,11]|apply gy<;>intro hh
    refine xapp (new:=[cVal (Eb)]) (es:=(hs.take q).map fun s=>cVal (frV ini s)) (fun j c cs S6 aF aG=>?_) (hR.keep fun j o hj am=>by rw[w7 _ _ (ah j o hj)];exact hj) (hsz:=by simp) (h1:=by rw[aa];with_unfolding_all rfl) (hb:=by rw[aa];simp;omega) (hm2:=by rw[aa];simp;omega)
    rw[show((hs.take q).map fun s=>cVal (frV ini s))++[cVal (Eb)]=(hs.take (q+1)).map fun s=>cVal (frV ini s) by rw[List.take_succ_eq_append_getElem aW,List.map_append];simp only[List.map_cons,List.map_nil];rw[show frV ini hs[q]=Eb by unfold frV;rw[au]]]at aF
    rw[show((hs.take q).map fun s=>cVal (frV ini s)).length+[cVal (Eb)].length=q+1 by rw[aa];rfl]
    obtain⟨k6,k7⟩:=aG i6 _ ((w7 _ _ n611).trans o6) aK
    have ac:∀x o,S3 x=some o->S6 x=some o /\ ¬(RW.row j c cs).is x:=fun x o hx=>aG x o (by rw[w7 _ _ (ah x o (aw x o hx))];exact aw x o hx) (fun h=>by rw[aD x h]at hx;cases hx)
    have aS:∀x,(RW.row j c cs).is x->S3 x=none:=fun x hx=>by
     cases h:S3 x
     ·rfl
     ·exact absurd hx (ac x _ h).2
    refine gf k6 ?_ o242 [6,11]
    exact⟨q+1,.row j c cs,S6.set i6 (.cells [.int .i64 ((k:Int)+3),.sref j 0 (q+1) c]),⟨by omega,fun x o hx=>by rw[w7 _ _ (fun e=>by rw[e,h6]at hx;cases hx)];exact(ac x o hx).1,w6 .., aF.keep fun x o hx hj=>by rw[w7 _ _ (fun e=>by subst e;exact k7 hj)];exact hx,k7,aS⟩,td1,wkR⟩
   ·repeat' first|refine gf (gi o6 hx) ?_ [] [6,11]|refine C9 (Gq ini (fun x=>decide (x.slot=hs[q])) 292 [.cptr [dI hs[q]] 0] .no _ aH (fun v _=>Gp v hs[q] _)) ?_|refine callP (Gq ini (fun x=>decide (x.slot=hs[q])) 292 [.cptr [dI hs[q]] 0] .no _ aH (fun v _=>Gp v hs[q] _)) ?_|refine gf (gi o6 hx) ?_ o242 [6,11]|apply gy<;>intro hh
    refine xapp (new:=[cVal (vInt (ini[m]).n)]) (es:=(hs.take q).map fun s=>cVal (frV ini s)) (fun j c cs S6 aF aG=>?_) (hR.keep fun j o hj am=>by rw[w7 _ _ (ah j o hj)];exact hj) (hsz:=by simp) (h1:=by rw[aa];with_unfolding_all rfl) (hb:=by rw[aa];simp;omega) (hm2:=by rw[aa];simp;omega)
    rw[show((hs.take q).map fun s=>cVal (frV ini s))++[cVal (vInt (ini[m]).n)]=(hs.take (q+1)).map fun s=>cVal (frV ini s) by rw[List.take_succ_eq_append_getElem aW,List.map_append];simp only[List.map_cons,List.map_nil];rw[show frV ini hs[q]=vInt (ini[m]).n by unfold frV;rw[au]]]at aF
    rw[show((hs.take q).map fun s=>cVal (frV ini s)).length+[cVal (vInt (ini[m]).n)].length=q+1 by rw[aa];rfl]
    obtain⟨k6,k7⟩:=aG i6 _ ((w7 _ _ n611).trans o6) aK
    have ac:∀x o,S3 x=some o->S6 x=some o /\ ¬(RW.row j c cs).is x:=fun x o hx=>aG x o (by rw[w7 _ _ (ah x o (aw x o hx))];exact aw x o hx) (fun h=>by rw[aD x h]at hx;cases hx)
    have aS:∀x,(RW.row j c cs).is x->S3 x=none:=fun x hx=>by
     cases h:S3 x
     ·rfl
     ·exact absurd hx (ac x _ h).2
    refine gf k6 ?_ o242 [6,11]
    exact⟨q+1,.row j c cs,S6.set i6 (.cells [.int .i64 ((k:Int)+3),.sref j 0 (q+1) c]),⟨by omega,fun x o hx=>by rw[w7 _ _ (fun e=>by rw[e,h6]at hx;cases hx)];exact(ac x o hx).1,w6 .., aF.keep fun x o hx hj=>by rw[w7 _ _ (fun e=>by subst e;exact k7 hj)];exact hx,k7,aS⟩,td1,wkR⟩
  ·obtain rfl:q=hs.length:=by omega
   rw[List.take_length]at hR
   have bi:(hs.map fun s=>cVal (frV ini s))=((A2 p).fresh ((k:Int)+3)).map cVal:=by unfold A2;simp only[List.map_map];rw[<-aQ,<-ar];rfl
   have hlen:(hs.map fun s=>cVal (frV ini s)).length=hs.length:=by simp
   refine frzC [.int .i64 ((k:Int)+3)] [] hR (by rw[hlen];exact o6) aK (fun S5 o5 aO=>?_)
   rw[bi]at o5
   have bc:S5 i2=some (.map (eIT (mp2 p k))):=aO i2 _ (aw _ _ aA) n2 (fun h=>by rw[aD _ h]at aA;cases aA)
   have aX:S5 i1=some (.map (eIO (mp1 p (k+1)))):=aO i1 _ (aw _ _ aB) n1 (fun h=>by rw[aD _ h]at aB;cases aB)
   have ax:Sub (S5.out fun j=>j=i2) (S5.set i2 (.map (eIT (putM ((k:Int)+3) ⟨(k:Int)+3,(A2 p).fresh ((k:Int)+3)⟩ (mp2 p k))))):=fun j o hj=>by
    obtain⟨a,b⟩:=Cs hj
    rw[w7 _ _ b];exact a
   have o7:=Df (touch:=fun j=>j=i2) o5 (fun e=>n2 e.symm)
   have m7:=Df (touch:=fun j=>j=i2) aX hne
   have hC:Sub (S5.out fun j=>j=i2) S5:=Cr _ _
   refine gf o7 ?_ (delO 18 o242) [6,11]
   refine Ho (id:=18) [0,1,2,3,4,5,6] [6] (S5.out fun j=>j=i2) (Cr _ _) ?_
   refine gf (gi o7 bc) ?_ o242 [6,11]
   have bj:∀x o,O x=some o->S5 x=some o:=fun x o hx=>aO x o (aw x o (aU x o hx)) (fun e=>by have:=aU x o hx;rw[e,h6]at this;cases this) (fun h=>by have:=aU x o hx;rw[aD x h]at this;cases this)
   exact⟨k+1,S5.set i2 (.map (eIT (putM ((k:Int)+3) ⟨(k:Int)+3,(A2 p).fresh ((k:Int)+3)⟩ (mp2 p k)))),⟨by omega,fun x o hx=>by rw[w7 _ _ (fun e=>by rw[e,a8]at hx;cases hx)];exact bj x o hx,by rw[w7 _ _ hne];exact aX,w6 ..⟩,td1,wkR⟩
 ·obtain rfl:k=p.classes.length:=by omega
  refine gz ?_ o242 [6,11]
  exact fin1 (U':=S2) ⟨i1,i2,rfl,hS,aL,hm2⟩
end Go.DL
