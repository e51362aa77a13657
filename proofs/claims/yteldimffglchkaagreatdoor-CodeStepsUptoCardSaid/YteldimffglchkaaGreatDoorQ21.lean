/- A part of the proof. -/
import Derived.Test.YteldimffglchkaaGreatDoorQ20
set_option linter.all false
namespace Go.DL
open Go.Proofs.Tryz
open Go Go.Proofs
set_option maxHeartbeats 8000000
section
variable {ro:Ro}{n:Nat}{ops:Array Oper}{N:Nat}{B:Sig->Prop}{Q:DX->St->Prop}{df:List DDf}{rest:List Oper}{γ Sr:List (Nat×D)}{O:Sig}{t:Nat}{ty:TypeId}{pos:String}{after:Array Edge}{e1 c1 k1:Bool}{l:List (Bool×Bool×Bool×Oper)}
theorem RN{g:G}{w:Go.World}{T e i off len cap:Nat}{k:IntKind}{v u:Value}(hk:(tab T).k=.slice e)(he:A2 (tab e).k=false)(hv:Rep g (.am i off len cap) v)(hu:Rep g (.int k cap) u)(fp:cap<=len):
  ∃r,(Instr.sliceAt T v (some u) none none).run prog w=.ok r w/\Rep g (.am i off (len-cap) 0) r:=by
 obtain⟨b,hb,rfl⟩:=hv;obtain rfl:=Bo hu;refine⟨_,?_,LQ (len:=len-cap) (cap:=0) (off:=off) hb⟩;have hu:=AR jB hk;have c1:(0:Int)<=(cap:Int):=by omega
 have c2:(cap:Int)<=(len:Int):=by omega
 simp only[bx,Instr.sliceAt,Instr.slice,Instr.sliceBounds,Instr.sliceBound,asIntOf,aP,bi,aJ,j4 hu,c1,c2,dt,bu,AK (jB e) (Ai he),bF,dB]
theorem iCutL{T e i off len cap lo:Nat}{k:IntKind}{x y:Operand}(h:∀off',(cap=lo/\off'=off\/lo<cap/\off'=off+lo*(tab e).size)->MOI prog ro n ops N Q df l B ((t,.am i off' (len-lo) (cap-lo))::γ) O)(hB:B O)(fp:lo<=len)(fX:len<=cap)
  (hl:A5 γ (Aa [x,y])=some Sr:=by exact tdR) (h1:ev Sr x=.am i off len cap:=by exact tdR) (h2:ev Sr y=.int k lo:=by exact tdR) (hk:(tab T).k=.slice e:=by(simp<;>rfl)) (he:A2 (tab e).k=false:=by simp) (d7:decide (t<n)=true:=by exact tdR) :
  MOI prog ro n ops N Q df ((true,c1,k1,⟨some t,.slice T x (some y) none none,ty,pos,after,none⟩)::l) B γ O:=by
 refine moI_1 B (fun _=>rfl) (fun U2 hx=>?_) d7 (by rw[Ar];rfl);obtain⟨e1,e2⟩:=jW hl;have g1:ev U2 x=.am i off len cap:=by rw[hx x (by simp[Op.operands]),<-e1,h1]
 have g2:ev U2 y=.int k lo:=by rw[hx y (by simp[Op.operands]),<-e2,h2]
 refine Ct (fun d U'=>(∃off',(cap=lo/\off'=off\/lo<cap/\off'=off+lo*(tab e).size)/\d=.am i off' (len-lo) (cap-lo))/\U'=O) rfl (fun c e=>by cases e) (Ag fun c e=>by cases e) (by simp only[Ax];exact d7) ?_
  (fun d U' ⟨⟨o,a1,a2⟩,a3⟩=>by
   subst a2 a3
   refine AD ⟨rfl,?_⟩
   exact⟨hB,by simp only[putD,A8,bu];exact h o a1⟩)
 intro g w a hs hT;have hx:=As hT x;have hy:=As hT y;rw[g1]at hx;rw[g2]at hy
 by_cases hc:lo<cap
 ·obtain⟨r,h4,h5⟩:=P0 (w:=w) jB hk he hx hy fp hc;exact⟨g,w,r,_,O,by simp only[execOp,bx,cZ,aP,h4,aJ,bi],.refl g,hs,h5,⟨_,.inr ⟨hc,rfl⟩,rfl⟩,rfl⟩
 ·obtain rfl:lo=cap:=by omega
  obtain⟨r,h4,h5⟩:=RN (w:=w) hk he hx hy fp;exact⟨g,w,r,_,O,by simp only[execOp,bx,cZ,aP,h4,aJ,bi],.refl g,hs,h5,⟨_,.inl ⟨rfl,rfl⟩,by rw[dB]⟩,rfl⟩
theorem frzT{ops':List Oper}{sz:Nat}{r:RW}{es:eR}(tt:Nat)(hm:jN O sz r es)(h:∀U',(∀j o,O j=some o->¬r.is j->U' j=some o)->au prog ro n ops Q ops' ⟨(tt,.slice es .no)::γ,U',df⟩)(hg:getD γ tt=r.d es.length:=by simp[getD,List.lookup]):au prog ro n ops Q ops' ⟨γ,O,df⟩:=by
 obtain⟨S2,h3,h4⟩:=GT (P:=prog) (n:=n) (γ:=γ) (df:=df) (t:=tt) hm hg;exact C9 h3 (h S2 h4)
theorem cutN{T e:Nat}{k:IntKind}{x y:Operand}(h:au prog ro n ops Q rest ⟨(t,.aj)::γ,O,df⟩)
  (hl:A5 γ (Aa [x,y])=some Sr:=by exact tdR) (h1:ev Sr x=.aj:=by exact tdR) (h2:ev Sr y=.int k 0:=by exact tdR) (hk:(tab T).k=.slice e:=by(simp<;>rfl)) (he:A2 (tab e).k=false:=by simp) (d7:decide (t<n)=true:=by exact tdR) :
  au prog ro n ops Q (⟨some t,.slice T x none (some y) none,ty,pos,after,none⟩::rest) ⟨γ,O,df⟩:=by
 obtain⟨e1,e2⟩:=jW hl
 refine Ct (fun d U'=>d=.aj/\U'=O) rfl (fun c e=>by cases e) (Ag fun c e=>by cases e) (by simp only[Ax];exact d7) ?_
  (fun d U' ⟨a2,a3⟩=>by subst a2 a3;exact h)
 intro g w a hs hT;have hx:=As hT x;have hy:=As hT y;rw[<-e1,h1]at hx;rw[<-e2,h2]at hy;have fj:=Bo hy;have hu:=AR jB hk;have fk:a.eval x=.slice none 0 0:=hx;refine⟨g,w,.slice none 0 0,.aj,O,?_,.refl g,hs,rfl,rfl,rfl⟩;simp only[execOp,bx,cZ,fk,fj,Instr.sliceAt,Instr.slice,Instr.sliceBounds,Instr.sliceBound,asIntOf,aP,bi,aJ,j4 hu,AK (jB e) (Ai he)];rfl
theorem cutF{T e:Nat}{k:IntKind}{x y:Operand}(h:au prog ro n ops Q rest ⟨(t,.slice [] .clip)::γ,O,df⟩)
  (hl:A5 γ (Aa [x,y])=some Sr:=by exact tdR) (h1:ev Sr x=.slice [] .clip:=by exact tdR) (h2:ev Sr y=.int k 0:=by exact tdR) (hk:(tab T).k=.slice e:=by(simp<;>rfl)) (he:A2 (tab e).k=false:=by simp) (d7:decide (t<n)=true:=by exact tdR) :
  au prog ro n ops Q (⟨some t,.slice T x none (some y) none,ty,pos,after,none⟩::rest) ⟨γ,O,df⟩:=by
 obtain⟨e1,e2⟩:=jW hl
 refine Ct (fun d U'=>d=.slice [] .clip/\U'=O) rfl (fun c e=>by cases e) (Ag fun c e=>by cases e) (by simp only[Ax];exact d7) ?_
  (fun d U' ⟨a2,a3⟩=>by subst a2 a3;exact h)
 intro g w a hs hT;have hx:=As hT x;have hy:=As hT y;rw[<-e1,h1]at hx;rw[<-e2,h2]at hy;have fj:=Bo hy;have hu:=AR jB hk;have fJ:=hx;obtain⟨b,cap,h1,h2,h3,h4⟩:=hx;obtain rfl:cap=0:=h4;have fk:a.eval x=.slice b 0 0:=h1;refine⟨g,w,a.eval x,.slice [] .clip,O,?_,.refl g,hs,fJ,rfl,rfl⟩;simp only[execOp,bx,cZ,fk,fj,Instr.sliceAt,Instr.slice,Instr.sliceBounds,Instr.sliceBound,asIntOf,aP,bi,aJ,j4 hu,AK (jB e) (Ai he)];rfl
theorem xappB{T T' e e' sz:Nat}{s x:Operand}{es new:eR}{r:RW}(h:∀r' U',jN U' sz r' (es++new)->RWK O r U' r'->(new=[] \/ ∃i c cs,r'=.row i c cs)->au prog ro n ops Q rest ⟨(t,r'.d (es.length+new.length))::γ,U',df⟩)(hm:jN O sz r es)(h2:IK prog O sz (ev Sr x) new)(fP:∀c∈new,C6 c=true)
  (hlen':∀c∈new,c.length=sz)
  (hl:A5 γ (Aa [s,x])=some Sr:=by exact tdR) (hk:(tab T).k=.slice e:=by(simp<;>rfl)) (fM:(tab T').k=.slice e':=by(simp<;>rfl)) (he:A2 (tab e).k=false:=by simp) (hsz:(tab e).size=sz:=by simp)
  (h1:ev Sr s=r.d es.length:=by first|with_unfolding_all rfl|(simp[ev,getD,List.lookup];done))
  (hb:(es.length+new.length)*(tab e).bytes<=140737488355328:=by first|(simp;done)|(simp;omega)) (hm2:es.length+new.length<=9223372036854775807:=by first|(simp;done)|(simp;omega)) (d7:decide (t<n)=true:=by exact tdR) :
  au prog ro n ops Q (⟨some t,(cA s x T T'),ty,pos,after,none⟩::rest) ⟨γ,O,df⟩:=by
 obtain⟨e1,e2⟩:=jW hl;exact F9 jB (by simpa using d7) hk fM he hsz (by rw[<-e1];exact h1) hm (by rw[<-e2];exact h2) hlen' fP hb hm2 fun r' U' h1 h2 h3=>h r' U' h1 h2 (h3.imp (·.1) id)
theorem isR{x:Operand}{i off len cap T T' e:Nat}(h:au prog ro n ops Q rest ⟨(t,.bool false)::γ,O,df⟩)(hl:A5 γ (Aa [x])=some Sr:=by exact tdR)(hx:ev Sr x=.am i off len cap:=by exact tdR)(hk:(tab T).k=.slice e:=by(simp<;>rfl))(d7:decide (t<n)=true:=by exact tdR):
  au prog ro n ops Q (⟨some t,.binOp .eql T x (.const (.slice none 0 0)) T',ty,pos,after,none⟩::rest) ⟨γ,O,df⟩:=by
 refine Ct (fun d U'=>d=.bool false/\U'=O) rfl (fun c e=>by cases e) (Ag fun c e=>by cases e) (by simp only[Ax];exact d7) ?_
  (fun d U' ⟨a2,a3⟩=>by subst a2 a3;exact h)
 intro g w a hs hT;have hv:=As hT x;rw[<-CR hl,hx]at hv;obtain⟨b,hb,h1⟩:=hv;have:=run_equal_slice_nil (P:=prog) w T e (some ⟨b,off,none⟩) len cap (AR jB hk);refine⟨g,w,.bool false,.bool false,O,?_,.refl g,hs,rfl,rfl,rfl⟩;have hg:(eqGuard .eql T x (.const (.slice none 0 0)) (a.eval x) (.slice none 0 0)).run prog w=.ok () w:=by rw[h1];rfl
 simp only[execOp,aP,show a.eval (.const (.slice none 0 0))=.slice none 0 0 from rfl,hg,aJ];simp only[binOp,aP,h1,this,aJ];rfl
end
section
variable {ir:Nat}{p:aw}{R:Nat->RW}{s:GoS}{O:Sig}
theorem T6(i off cap:Nat)(new:List jH)(O:Sig)(hn:new.length<=1000000)(d9:IK prog O 2 (.am i off new.length cap) (new.map j5)):ar prog 47 [.am i off new.length cap] O (rS (.slice (new.map j5) .no) O):=by
 refine en func47 ntmps47 ?_;refine gz ?_;refine isR ?_;refine gz ?_;refine xappR (r:=.full []) (es:=[]) (new:=new.map j5) (fun r' S1 h1 h2=>?_) ⟨rfl,j1⟩ d9 (fun c hc=>by obtain⟨v,_,rfl⟩:=aZ.1 hc;rfl) Az;refine frzT 7 h1 (fun S2 h4=>?_)
 have hS:Sub O S2:=fun j o hj=>by
  obtain⟨k1,k2⟩:=h2 j o hj id;exact h4 j o k1 k2
 refine gz ?_;exact fin1 (U':=O) ⟨rfl,rfl⟩
theorem JN(new:List jH)(o:Own)(O:Sig)(hn:new.length<=1000000):ar prog 47 [.slice (new.map j5) o] O fun x U'=> ∃r':RW,x=.ret (r'.d new.length)/\jN U' 2 r' (new.map j5)/\RWK O .nil U' r' /\ ∀es,r'=.full es->es=[]:=by
 refine en func47 ntmps47 ?_;refine gz ?_;refine isN (fun b hb=>?_);cases b with
 |true=>
  have b9:new=[]:=by simpa using hb rfl
  subst b9;refine gz ?_;exact fin1 (U':=O) ⟨.nil,rfl,rfl,RWK.refl _ _,fun es h=>by cases h⟩
 | false =>
  refine gz ?_;refine xappB (r:=.full []) (es:=[]) (new:=new.map j5) (fun r' S1 h1 h2 h3=>?_) ⟨rfl,j1⟩ (GL rfl Az) (fun c hc=>by obtain⟨v,_,rfl⟩:=aZ.1 hc;rfl) Az;rw[show([]:eR).length+(new.map j5).length=new.length by simp];refine gz ?_;refine fin1 (U':=S1) ⟨r',rfl,h1,fun j o hj _=>h2 j o hj id,fun es h=>?_⟩;rcases h3 with h3|⟨i,c,cs,h3⟩
  ·subst h;have:=h1.1;rw[h3]at this;exact this.symm
  ·rw[h3]at h;cases h
theorem N4(O:Sig):ar prog 47 [.slice [] .no] O (rS (.slice [] .no) O):=by
 refine en func47 ntmps47 ?_;refine gz ?_;refine isN (fun b hb=>?_);cases b with
 |true=>
  refine gz ?_;exact fin1 (U':=O) ⟨rfl,rfl⟩
 | false =>
  refine gz ?_;refine xappR (sz:=2) (r:=.full []) (es:=[]) (new:=[]) (fun r' S1 h1 h2=>?_) ⟨rfl,j1⟩ (GL rfl j1) j1 j1;refine frzT 7 h1 (fun S2 h4=>?_)
  have hS:Sub O S2:=fun j o hj=>by
   obtain⟨k1,k2⟩:=h2 j o hj id;exact h4 j o k1 k2
  refine gz ?_;exact fin1 (U':=O) ⟨rfl,rfl⟩
abbrev K5(p:aw)(R:Nat->RW)(s:GoS)(d0:D)(k g:Int)(a:D):eO:=[dI k,dI 0,dI 0,dI g,a,dI 0,dI 0,.aj,.aj,(R 3).d s.j3.length,(R 2).d s.jW.length]++A7 p++[dI s.pos,d0,(R 1).d s.j7.length]
theorem UI(x:jI)(r args:List jH)(k:Nat)(hp:p.wt<=1073741824)(hx:x.a=k)(hk:k<p.ai.length)(hg:p.ai[k]=args.length)(hR:jU ir p R s O)(hs:s.jA=r++args)(hn:s.jA.length<=1000000):ar prog 119 [.ptr ir 0,.agg (cIns x)] O fun y U'=>y=.ret (.bool true) /\ ∃R' av,l8 ir p R' { s with jA:=r } av true ⟨2,vZ,x.a,args,0,s.pos,r,s.j7,s.j3,s.jW⟩ U'/\jV ir R O R' U':=by
 have q1:=hR.obj;have hl:s.jA.length=r.length+args.length:=by rw[hs];simp
 have q0:jN O 2 (R 0) (s.jA.map j5):=hR.rows.ok 0;have fZ:p.ai.length<=1073741824:=by obtain⟨a1,a2,a3,a4,a5,a6,a7⟩:=p.wt_le;omega
 cases h0:R 0 with
 |nil=>
  rw[h0,hs]at q0;have q00:(r++args).map j5=[]:=q0;simp at q00;obtain⟨rfl,rfl⟩:=q00;unfold AY at q1;rw[h0,hl]at q1;rw[show RW.nil.d (([]:List jH).length+([]:List jH).length)=.aj from rfl]at q1;refine en func119 ntmps119 ?_;refine gf (gi q1 (gi hx hg)) ?_ (ji 2 o119);have q2:O ir=some (.cells (K5 p R s .aj 0 0 .aj)):=q1;refine mixI (id:=2) (List.range 25) [12,16,20,24] [9] [16,20,24] (fun s=>s=O) rfl ?_;refine iP _ ?_;refine iP _ ?_;refine iP _ ?_;refine iP _ ?_;refine iP (dI x.a) ?_;refine iP _ ?_;refine iP _ ?_;refine iP _ ?_;refine iP _ ?_;refine iR .aj (fun s hs=>?_) ?_
  ·rw[hs];simp[q1]
  refine iP (dI 0) ?_;refine iP (.slice [] .no) ?_;refine iW (fun s=>s=O) (N4 O) (fun d S1 hr=>?_) (fun d S1 hr=>by cases hr.1);obtain⟨hd,rfl⟩:=hr;cases hd;refine⟨rfl,?_⟩;refine iP _ ?_;refine iP _ ?_;refine iP (.ptr ir 0) ?_;refine iS (d:=.any) (U':=S1.set ir (.cells (K5 p R s .aj 2 0 .aj))) (fun _=>True) trivial ?_ (he:=by simp[q2]);refine iP _ ?_;refine iP _ ?_;refine iP (.ptr ir 3) ?_;refine iS (d:=.any) (U':=S1.set ir (.cells (K5 p R s .aj 2 x.a .aj))) (fun _=>True) trivial ?_ (he:=by simp);refine iP _ ?_;refine iP _ ?_;refine iP (.ptr ir 4) ?_;refine iS (d:=.any) (U':=S1.set ir (.cells (K5 p R s .aj 2 x.a (.slice [] .no)))) (fun _=>True) trivial ?_ (he:=by simp);refine iN ?_
  repeat ((fail_if_success refine cutN ?_);(refine go1 trivial ?_))
  refine cutN ?_;refine gz ?_ o119;refine Jc (r0:=.nil) (r1:=R 1) (m:=0) (m':=s.j7.length) (w6 ..) ?_;refine gz ?_ o119;have eU:s.jA=[]:=hs;obtain⟨p3,p4⟩:=hR.halt (av:=.slice [] .no) (b:=true) (k:=⟨2,vZ,x.a,[],0,s.pos,[],s.j7,s.j3,s.jW⟩) rfl (Ac _) rfl rfl ⟨rfl,eU.symm,rfl⟩;have es:s={ s with jA:=[] }:=by rw[<-eU]
  rw[<-es];refine fin1 (U':=_) ⟨rfl,_,_,p3,p4⟩ (hZ:=?_);simp only[w8];unfold Pu;rw[h0,eU];exact Sub.refl _
 |full es=>
  obtain rfl:=hR.nf 0 es h0;rw[h0,hs]at q0;have q00:(r++args).map j5=[]:=q0.1;simp at q00;obtain⟨rfl,rfl⟩:=q00;unfold AY at q1;rw[h0,hl]at q1;rw[show(RW.full []).d (([]:List jH).length+([]:List jH).length)=.slice [] .clip from rfl]at q1;refine en func119 ntmps119 ?_;refine gf (gi q1 (gi hx hg)) ?_ (ji 2 o119);have q2:O ir=some (.cells (K5 p R s (.slice [] .clip) 0 0 .aj)):=q1;refine mixI (id:=2) (List.range 25) [12,16,20,24] [9] [16,20,24] (fun s=>s=O) rfl ?_;refine iP _ ?_;refine iP _ ?_;refine iP _ ?_;refine iP _ ?_;refine iP (dI x.a) ?_;refine iP _ ?_;refine iP _ ?_;refine iP _ ?_;refine iP _ ?_;refine iR (.slice [] .clip) (fun s hs=>?_) ?_
  ·rw[hs];simp[q1]
  refine iP (dI 0) ?_;refine iP (.slice [] .no) ?_;refine iW (fun s=>s=O) (N4 O) (fun d S1 hr=>?_) (fun d S1 hr=>by cases hr.1);obtain⟨hd,rfl⟩:=hr;cases hd;refine⟨rfl,?_⟩;refine iP _ ?_;refine iP _ ?_;refine iP (.ptr ir 0) ?_;refine iS (d:=.any) (U':=S1.set ir (.cells (K5 p R s (.slice [] .clip) 2 0 .aj))) (fun _=>True) trivial ?_ (he:=by simp[q2]);refine iP _ ?_;refine iP _ ?_;refine iP (.ptr ir 3) ?_;refine iS (d:=.any) (U':=S1.set ir (.cells (K5 p R s (.slice [] .clip) 2 x.a .aj))) (fun _=>True) trivial ?_ (he:=by simp);refine iP _ ?_;refine iP _ ?_;refine iP (.ptr ir 4) ?_;refine iS (d:=.any) (U':=S1.set ir (.cells (K5 p R s (.slice [] .clip) 2 x.a (.slice [] .no)))) (fun _=>True) trivial ?_ (he:=by simp);refine iN ?_
  repeat ((fail_if_success refine cutF ?_);(refine go1 trivial ?_))
  refine cutF ?_;refine gz ?_ o119;refine Jc (r0:=.full []) (r1:=R 1) (m:=0) (m':=s.j7.length) (w6 ..) ?_;refine gz ?_ o119;have eU:s.jA=[]:=hs;obtain⟨p3,p4⟩:=hR.halt (av:=.slice [] .no) (b:=true) (k:=⟨2,vZ,x.a,[],0,s.pos,[],s.j7,s.j3,s.jW⟩) rfl (Ac _) rfl rfl ⟨rfl,eU.symm,rfl⟩;have es:s={ s with jA:=[] }:=by rw[<-eU]
  rw[<-es];refine fin1 (U':=_) ⟨rfl,_,_,p3,p4⟩ (hZ:=?_);simp only[w8];unfold Pu;rw[h0,eU];exact Sub.refl _
 | row i c cs =>
  rw[h0,hs]at q0;unfold AY at q1;rw[h0,hl]at q1;simp only[Cz]at q1;obtain⟨z1,z2,z3,z4⟩:=q0;simp only[aN,aC]at z3;refine en func119 ntmps119 ?_;refine gf (gi q1 (gi hx hg)) ?_ (ji 2 o119);refine mixI (id:=2) (List.range 25) [11,12,16,20,24] [9] [16,20,24] (fun s=>s=O) rfl ?_;refine iP _ ?_;refine iP _ ?_;refine iP _ ?_;refine iP _ ?_;refine iP (dI x.a) ?_;refine iP _ ?_;refine iP _ ?_;refine iP _ ?_;refine iP _ ?_;refine iR (.am i 0 (r.length+args.length) c) (fun s hs=>?_) ?_
  ·rw[hs];simp[q1]
  refine iP (dI r.length) ?_;refine iCutL (lo:=r.length) (len:=r.length+args.length) (cap:=c) (i:=i) (off:=0) (fun off' ho=>?_) rfl j0 z3;rw[Nat.add_sub_cancel_left]
  have d9:IK prog O 2 (.am i off' args.length (c-r.length)) (args.map j5):=by
   have e:args.length=(args.map j5).length:=by simp
   rcases ho with⟨rfl,rfl⟩|⟨h1,h2⟩
   ·obtain rfl:args=[]:=bf.1 j0;exact I3 (pre:=[]) (es:=[]) (rest:=((List.map j5 (r++[])).flatten++cs)) (by simpa using z1) rfl j1 j1
   ·rw[e];refine I3 (pre:=(r.map j5).flatten) (rest:=cs) (by rw[z1];simp) (by rw[Aj Az,aN,h2];simp) Az (by simp;omega)
  refine iW (fun s=>s=O) (T6 i off' (c-r.length) args O j0 d9) (fun d S1 hr=>?_) (fun d S1 hr=>by cases hr.1);obtain⟨hd,rfl⟩:=hr;cases hd;refine⟨rfl,?_⟩;refine iP _ ?_;refine iP _ ?_;refine iP (.ptr ir 0) ?_;refine iS (d:=.any) (U':=S1.set ir (.cells (K5 p R s (.am i 0 (r.length+args.length) c) 2 0 .aj))) (fun _=>True) trivial ?_ (he:=by simp[q1]);refine iP _ ?_;refine iP _ ?_;refine iP (.ptr ir 3) ?_;refine iS (d:=.any) (U':=S1.set ir (.cells (K5 p R s (.am i 0 (r.length+args.length) c) 2 x.a .aj))) (fun _=>True) trivial ?_ (he:=by simp);refine iP _ ?_;refine iP _ ?_;refine iP (.ptr ir 4) ?_;refine iS (d:=.any) (U':=S1.set ir (.cells (K5 p R s (.am i 0 (r.length+args.length) c) 2 x.a (.slice (args.map j5) .no)))) (fun _=>True) trivial ?_ (he:=by simp);refine iN ?_;refine gz ?_ o119;refine cutH (i:=i) (off:=0) (len:=r.length+args.length) (cap:=c) (hi:=r.length) ?_ j0;refine gz ?_ o119;refine Jc (r0:=.row i c []) (r1:=R 1) (w6 ..) ?_;refine gz ?_ o119;have hr:jN S1 2 (.row i c ((args.map j5).flatten++cs)) (r.map j5):=⟨by rw[z1];simp,by rw[<-aO];simpa using z2,by simp;omega,Az⟩
  obtain⟨p1,p2⟩:=hR.re (a:=0) (s':={ s with jA:=r }) hr (by rw[h0];exact fun j h=>h) (Qm R _ s _) rfl;obtain⟨p3,p4⟩:=p1.halt (av:=.slice (args.map j5) .no) (b:=true) (k:=⟨2,vZ,x.a,args,0,s.pos,r,s.j7,s.j3,s.jW⟩) rfl (Ac _) rfl rfl ⟨rfl,rfl,rfl⟩;refine fin1 (U':=_) ⟨rfl,_,_,p3,p2.trans p4⟩ (hZ:=?_);simp only[w8];exact Sub.refl _
end
def cTh(x:jF):eO:=[dI x.jM,sl (x.ac.map j5)]
@[simp] theorem cTh_mem(x:jF)(d:D):(d∈cTh x)=(d=dI x.jM\/d=sl (x.ac.map j5)):=by simp[cTh]
@[simp] theorem cTh_len(x:jF):(cTh x).length=2:=rfl
@[simp] theorem cTh_tk(x:jF):List.take 2 (cTh x)=cTh x:=rfl
@[simp] theorem rwd_nil(n:Nat):RW.nil.d n=.aj:=rfl
@[simp] theorem W2(es:eR)(n:Nat):(RW.full es).d n=.slice es .clip:=rfl
def FrV(O:Sig)(r:RW)(l:List jH)(U':Sig):Prop:=jN U' 2 r (l.map j5)/\RWK O .nil U' r /\ ∀es,r=.full es->es=[]
theorem Tn(v:jH)(O:Sig):ar prog 339 [.agg (j5 v)] O (rS (.agg (j5 v)) O):=by
 refine en func339 ntmps339 ?_;refine gz ?_ [] [2];refine je (fun i2 fc=>?_);refine gz ?_ [] [2];exact jp (U':=O) ⟨rfl,rfl⟩
@[reducible,instance] def a339:=fun v O=>ah0 (@Tn v O)
theorem Tf(i n c:Nat)(O:Sig)(hn:n<=c)(hb:n<=1000000):ar prog 367 [.am i 0 n c] O (rS (.am i 0 n n) O):=by
 refine en func367 ntmps367 ?_;refine gz ?_;refine Lo jB (off:=0) (m:=n) (cap:=c) ?_ (by decide) (by simp<;>rfl) j1 rfl rfl rfl (bU _) hn;refine gz ?_;exact fin1 (U':=O) ⟨rfl,rfl⟩
@[reducible,instance] def a367:=fun i n c O=>ah2 (@Tf i n c O)
theorem QH(O:Sig):ar prog 367 [.aj] O (rS (.slice [] .clip) O):=by
 refine en func367 ntmps367 ?_;refine gz ?_;exact fin1 (U':=O) ⟨rfl,rfl⟩
@[reducible,instance] def a367n:=fun O=>ah0 (@QH O)
theorem To(l:List jH)(o:Own)(O:Sig)(hl:l.length<=1000000):ar prog 338 [.slice (l.map j5) o,.func (.func 339) [] []] O fun x U'=> ∃r,x=.ret (r.d l.length)/\FrV O r l U':=by
 refine en func338 ntmps338 ?_;refine gz ?_;refine F1 [1,4,8,9,21,22] (fun (k:Nat) (r:RW) (S2:Sig)=>k<=l.length/\jN S2 2 r ((l.take k).map j5)/\RWK O .nil S2 r/\(k=0/\r=.nil \/ ∃i c cs,r=.row i c cs)) (fun k r _=>[(10,dI k),(5,r.d k)]) (fun _ _ S2=>S2) (fun k _ _=>l.length-k) (0) (.nil) (O) (by exact⟨cE _,rfl,RWK.refl _ _,.inl ⟨rfl,rfl⟩⟩) (fun k r S2 hI=>?_);obtain⟨fq,hR,hK,hF⟩:=hI
 by_cases hk:k<l.length
 ·have b6:((l.take k).map j5).length=k:=by simp;omega
  refine gz ?_;refine xapp (new:=[j5 l[k]]) (fun i c cs S3 fG fS=>?_) hR (h1:=by rw[b6];with_unfolding_all rfl) (hb:=by rw[b6];simp;omega) (hm2:=by rw[b6];simp;omega);rw[show(l.take k).map j5++[j5 l[k]]=(l.take (k+1)).map j5 by rw[aU hk,bz];rfl]at fG;rw[show((l.take k).map j5).length+[j5 l[k]].length=k+1 by simp;omega];refine gz ?_;exact⟨k+1,.row i c cs,S3,⟨j0,fG,hK.trans fS,.inr ⟨_,_,_,rfl⟩⟩,td1,wkR⟩
 ·obtain rfl:k=l.length:=by omega
  rw[cH]at hR;rcases hF with⟨h0,rfl⟩|⟨i,c,cs,rfl⟩
  ·have b9:l=[]:=bf.1 h0;subst b9;refine gz ?_;exact fin1 (U':=S2) ⟨.full [],rfl,⟨rfl,j1⟩,hK,fun es h=>by cases h;rfl⟩
  ·have hc:=hR.2.2.1;rw[aN]at hc;refine gz ?_;refine fin1 (U':=S2) ⟨.row i l.length cs,rfl,⟨hR.1,?_,j1,Az⟩,hK,fun es h=>by cases h⟩;rw[aC,Aj Az,aN];omega
theorem Na(l:List jH)(o:Own)(O:Sig)(hl:l.length<=1000000):ar prog 293 [.slice (l.map j5) o] O fun x U'=> ∃r,x=.ret (r.d l.length)/\FrV O r l U':=by
 refine en func293 ntmps293 ?_;refine gz ?_;refine A3 (To l o O hl) (fun d S1 hr=>?_) (fun d S1 hr=>by obtain⟨_,h,_⟩:=hr;cases h);obtain⟨r,hd,hF⟩:=hr;cases hd;refine gz ?_;exact fin1 (U':=S1) ⟨r,rfl,hF⟩
theorem VQ{ir:Nat}{O:Sig}{ds:eO}{r1:RW}{a:Int}{m k:Nat}(h:O ir=some (.cells ds))(hl:k+2<=ds.length):EP tab O 131 (.ptr ir k) (.agg [dI a,r1.d m])=some (.any,O.set ir (.cells (ds.take k++[dI a,r1.d m]++ds.drop (k+2)))):=by
 have hf:¬ds.length<k+2:=by omega
 cases r1<;>simp[EP,h,RW.d,hf]
theorem Tz(x:jF)(O:Sig)(hl:x.ac.length<=1000000):ar prog 295 [.agg (cTh x)] O fun y U'=> ∃r,y=.ret (.agg [dI x.jM,r.d x.ac.length])/\FrV O r x.ac U':=by
 refine en func295 ntmps295 ?_;refine gz ?_ o295 [2];refine je (fun i2 fc=>?_);refine gz ?_ [] [2];refine FK (id:=1) [0,1,2,3,4,5,6] [4,6] O ((Sub.refl _).set fc) ?_;refine gz ?_ o295 [2];refine AX (Na x.ac .no _ hl) (fun d S1 hr=>?_) (fun d S1 hr=>by obtain⟨_,h,_⟩:=hr;cases h);obtain⟨r,hd,h1,h2,h3⟩:=hr;have fv:=(h2 i2 _ (w6 ..) id).1;have fN:=(h2 i2 _ (w6 ..) id).2;have hS:Sub O S1:=fun j o hj=>(h2 j o (by rw[w7 _ _ fun e=>by rw[e,fc]at hj;cases hj];exact hj) id).1
 have hF:∀ds,FrV O r x.ac (S1.set i2 (.cells ds)):=fun ds=>⟨h1.keep fun j o hj d8=>by rw[w7 _ _ fun e=>fN (by rw[<-e];exact d8)];exact hj,fun j o hj _=>by
  have hne:j≠i2:=fun e=>by rw[e,fc]at hj;cases hj
  have:=h2 j o (j2 hne hj) id
  exact⟨j2 hne this.1,this.2⟩,h3⟩
 have fB:∀ds,Sub O (S1.set i2 (.cells ds)):=fun ds j o hj=>by rw[w7 _ _ fun e=>by rw[e,fc]at hj;cases hj];exact hS j o hj
 cases hd;refine⟨hS,?_⟩;rcases r with _|es|⟨i,c,cs⟩
 ·have fD:Sub O (S1.set i2 (.cells [dI x.jM,.aj])):=fB _;refine gf fv ?_ o295 [2];exact jp (U':=S1.set i2 (.cells [dI x.jM,.aj])) ⟨.nil,rfl,hF _⟩
 ·have fD:Sub O (S1.set i2 (.cells [dI x.jM,.slice es .clip])):=fB _;refine gf fv ?_ o295 [2];exact jp (U':=S1.set i2 (.cells [dI x.jM,.slice es .clip])) ⟨.full es,rfl,hF _⟩
 ·have fD:Sub O (S1.set i2 (.cells [dI x.jM,.am i 0 x.ac.length c])):=fB _;refine gf fv ?_ o295 [2];exact jp (U':=S1.set i2 (.cells [dI x.jM,.am i 0 x.ac.length c])) ⟨.row i c cs,rfl,hF _⟩
end Go.DL
namespace Go.DL
open Go.Proofs.Tryz
open Go Go.Proofs Go.ChangeShapes Go.WideShapes Go.ChangeAt Go.RowKit
open Go.Proofs.YteldimffglchkaaGreatDoor
open Go.Proofs.YteldimffglchkaaGreatDoor.Rows (uptoBulk uptoBulkAll)
set_option maxRecDepth 100000
section
variable {H:Type}{enc:TypeId×Value->H}{W:Go.World}{base:Nat}
def jF.wt(x:jF):Nat:=1+x.ac.length
theorem PM(n:Nat):Dec enc W n 40 j5 (fun _=>1):=fun cs x h=>by
 obtain⟨xs,m,hm,hb,hl,hx,hf⟩:=Cg underlying40 h;rw[show prog.cellsOf 40=2 by kernel_rfl]at hl
 match cs,hl with
 | [v0,v1],_ =>
  match xs,hx with
  |[x0,x1],_=>
   obtain⟨a0,r0,w0⟩:=BW underlying38 [v0] x0 (Ch (hf 0 _ rfl) (show prog.cellsOf 38=1 by kernel_rfl) rfl);obtain⟨a1,r1,w1⟩:=BW underlying3 [v1] x1 (Ch (hf 1 _ rfl) kN rfl);refine⟨⟨a0,a1⟩,r0.append r1,?_⟩;rw[hb];simp only[uptoBulkAll,bd,bX];omega
theorem Rd(n:Nat):Dec enc W n 131 cTh jF.wt:=fun cs x h=>by
 obtain⟨xs,m,hm,hb,hl,hx,hf⟩:=Cg underlying131 h;rw[show prog.cellsOf 131=2 by kernel_rfl]at hl
 match cs,hl with
 | [v0,v1],_ =>
  match xs,hx with
  |[x0,x1],_=>
   obtain⟨a0,r0,w0⟩:=BW underlying3 [v0] x0 (Ch (hf 0 _ rfl) kN rfl);obtain⟨a1,r1,w1⟩:=CX underlying32 (by kernel_rfl:prog.cellsOf 40=2) j0 (fun _=>rfl) (fun _ _=>PM _) [v1] x1 (Ch (hf 1 _ rfl) (show prog.cellsOf 32=1 by kernel_rfl) rfl);refine⟨⟨a0,a1⟩,r0.append r1,?_⟩;rw[hb];clear hf hx hl;simp only[Iq]at*; simp only[jF.wt,uptoBulkAll,bd,bX];omega
end
end Go.DL
namespace Go.DL
open Go.Proofs.Tryz
open Go Go.Proofs
set_option maxHeartbeats 8000000
structure ThS(R:Nat->RW)(l:List jF)(S0 O:Sig):Prop where
 rows:Rows O R rSz (rCt R ⟨l,[],0,[],[]⟩)
 lo:∀a,a<3->R a=.nil
 nf:∀a es,R a=.full es->es=[]
 keep:∀j o,S0 j=some o->O j=some o /\ ∀a, ¬(R a).is j
theorem ThS.nil(O:Sig):ThS (fun _=>.nil) [] O O:=
 ⟨⟨fun a=>by
  match a with
  |0=>rfl
  |1=>rfl
  |2=>rfl
  |3=>rfl
  |k+4=>rfl,fun _ _ _ h=>h.elim⟩,fun _ _=>rfl,(fun _ _ h=>by cases h),fun _ _ h=>⟨h,fun _ h=>h⟩⟩
theorem ThS.row3{R:Nat->RW}{l:List jF}{S0 O:Sig}(h:ThS R l S0 O):jN O 2 (R 3) (jC (fun k=>R (k+4)) l):=h.rows.ok 3
theorem I1(S S':Nat->RW)(l:List jF)(x:jF)(h:∀k,k<l.length->S' k=S k):jC S' (l++[x])=jC S l++[[dI x.jM,(S' l.length).d x.ac.length]]:=by
 refine cD fun k=>?_
 by_cases hk:k<l.length
 ·rw[B4 _ _ k (by simp;omega),bj (by rw[A4];exact hk),B4 _ _ k hk,List.getElem_append_left hk,h k hk]
 ·by_cases e:k=l.length
  ·subst e;rw[B4 _ _ _ j1,bK (by rw[A4];omega),A4,dB];simp
  ·rw[aX (by rw[A4];simp;omega),aX (by simp[A4];omega)]
theorem ThS.add{R:Nat->RW}{l:List jF}{S0 O S1 S2:Sig}(h:ThS R l S0 O){x:jF}{r:RW}(hF:FrV O r x.ac S1){i c:Nat}{cs:eO}(hr:jN S2 2 (.row i c cs) (jC (fun k=>R (k+4)) l++[[dI x.jM,r.d x.ac.length]]))(hk:RWK S1 (R 3) S2 (.row i c cs)):
  ThS (jK (jK R (l.length+4) r) 3 (.row i c cs)) (l++[x]) S0 S2:=by
 obtain⟨f1,f2,f3⟩:=hF;have e2:rSz (l.length+4)=2:=by unfold rSz;rw[aE j0]
 have u1:=h.rows.upd (a:=l.length+4) (r':=r) (by rw[e2];exact f1) (fun j o hj _=>f2 j o hj id);have u2:=u1.upd (a:=3) (r':=.row i c cs) hr (by rw[A1 _ _ j0];exact hk);refine⟨u2.retell fun a=>?_,fun a ha=>?_,fun a es he=>?_,fun j o hj=>?_⟩
 ·match a with
  |0=>rw[A1 _ _ j0,A1 _ _ j0];rfl
  |1=>rw[A1 _ _ j0,A1 _ _ j0];rfl
  |2=>rw[A1 _ _ j0,A1 _ _ j0];rfl
  |3=>
   rw[Ab]
   show jC (fun k=>jK (jK R (l.length+4) r) 3 (.row i c cs) (k+4)) (l++[x])=_;rw[I1 (fun k=>R (k+4)) _ l x fun k hk=>by rw[A1 _ _ j0,A1 _ _ j0]];simp only[A1 (jK R (l.length+4) r) (RW.row i c cs) (show l.length+4≠3 by omega),Ab]
  | k+4 =>
   rw[A1 _ _ j0];show(((l++[x])[k]?).getD ⟨0,[]⟩).ac.map j5=_
   by_cases e:k=l.length
   ·subst e;rw[Ab];simp
   ·rw[A1 _ _ j0]
    show _=((l[k]?).getD ⟨0,[]⟩).ac.map j5
    by_cases hk:k<l.length
    ·rw[bj hk]
    ·rw[aX (by simp;omega),aX j0]
 ·rw[A1 _ _ j0,A1 _ _ j0];exact h.lo a ha
 ·by_cases e3:a=3
  ·subst e3;rw[Ab]at he;cases he
  ·rw[A1 _ _ e3]at he
   by_cases e4:a=l.length+4
   ·subst e4;rw[Ab]at he;exact f3 es he
   ·rw[A1 _ _ e4]at he;exact h.nf a es he
 ·obtain⟨k1,k2⟩:=h.keep j o hj;obtain⟨k3,k4⟩:=f2 j o k1 id;obtain⟨k5,k6⟩:=hk j o k3 (k2 3);refine⟨k5,fun a ha=>?_⟩
  by_cases e3:a=3
  ·subst e3;rw[Ab]at ha;exact k6 ha
  ·rw[A1 _ _ e3]at ha
   by_cases e4:a=l.length+4
   ·subst e4;rw[Ab]at ha;exact k4 ha
   ·rw[A1 _ _ e4]at ha;exact k2 a ha
theorem ThS.re{R:Nat->RW}{l:List jF}{S0 O:Sig}(h:ThS R l S0 O){r':RW}(hr:jN O 2 r' (jC (fun k=>R (k+4)) l))(hi:∀j,r'.is j->(R 3).is j)(hf:∀es,r'=.full es->es=[]):ThS (jK R 3 r') l S0 O:=by
 have u:=h.rows.re (a:=3) (r':=r') hr hi;refine⟨u.retell fun a=>?_,fun a ha=>by rw[A1 _ _ j0];exact h.lo a ha,fun a es he=>?_,fun j o hj=>⟨(h.keep j o hj).1,fun a ha=>?_⟩⟩
 ·match a with
  |0=>rw[A1 _ _ j0];rfl
  |1=>rw[A1 _ _ j0];rfl
  |2=>rw[A1 _ _ j0];rfl
  |3=>
   rw[Ab]
   show jC (fun k=>jK R 3 r' (k+4)) l=_;rw[Gm R 3 r' j0]
  |k+4=>rw[A1 _ _ j0];rfl
 ·by_cases e3:a=3
  ·subst e3;rw[Ab]at he;exact hf es he
  ·rw[A1 _ _ e3]at he;exact h.nf a es he
 ·by_cases e3:a=3
  ·subst e3;rw[Ab]at ha;exact(h.keep j o hj).2 3 (hi j ha)
  ·rw[A1 _ _ e3]at ha;exact(h.keep j o hj).2 a ha
theorem Tm(i n c:Nat)(O:Sig)(hn:n<=c)(hb:n<=1000000):ar prog 340 [.am i 0 n c] O (rS (.am i 0 n n) O):=by
 refine en func340 ntmps340 ?_;refine gz ?_;refine Lo jB (off:=0) (m:=n) (cap:=c) ?_ (by decide) (by simp<;>rfl) j1 rfl rfl rfl (bU _) hn;refine gz ?_;exact fin1 (U':=O) ⟨rfl,rfl⟩
@[reducible,instance] def a340:=fun i n c O=>ah2 (@Tm i n c O)
theorem QL(O:Sig):ar prog 340 [.aj] O (rS (.slice [] .clip) O):=by
 refine en func340 ntmps340 ?_;refine gz ?_;exact fin1 (U':=O) ⟨rfl,rfl⟩
@[reducible,instance] def a340n:=fun O=>ah0 (@QL O)
theorem TA(l:List jF)(o:Own)(O:Sig)(hl:l.length<=1000000)(hs:∀x∈l,x.ac.length<=1000000):ar prog 294 [.slice (l.map cTh) o,.func (.func 295) [] []] O fun x U'=> ∃R,x=.ret ((R 3).d l.length)/\ThS R l O U':=by
 refine en func294 ntmps294 ?_;refine gz ?_;refine F1 [1,4,8,9,21,22] (fun (k:Nat) (R:Nat->RW) (S2:Sig)=>k<=l.length/\ThS R (l.take k) O S2/\(k=0/\R 3=.nil \/ ∃i c cs,R 3=.row i c cs)) (fun k R _=>[(10,dI k),(5,(R 3).d k)]) (fun _ _ S2=>S2) (fun k _ _=>l.length-k) (0) (fun _=>.nil) (O) (by exact⟨cE _,ThS.nil O,.inl ⟨rfl,rfl⟩⟩) (fun k R S2 hI=>?_);obtain⟨fq,hT,fH⟩:=hI
 by_cases hk:k<l.length
 ·refine gz ?_;refine A3 (Tz l[k] S2 (hs _ (aK hk))) (fun d S3 hr=>?_) (fun d S3 hr=>by obtain⟨_,h,_⟩:=hr;cases h);obtain⟨r,hd,hF⟩:=hr;cases hd;rcases r with _|es|⟨j,c',cs'⟩
  ·refine gz ?_;have b6:(jC (fun k=>R (k+4)) (l.take k)).length=k:=by rw[A4];simp;omega
   refine xapp (new:=[[dI (l[k]).jM,D.aj]]) (es:=jC (fun k=>R (k+4)) (l.take k)) (fun i c cs S4 d5 d6=>?_) (hT.row3.keep fun j o hj d8=>(hF.2.1 j o hj id).1) (h1:=by rw[b6];with_unfolding_all rfl) (hb:=by rw[b6];simp;omega) (hm2:=by rw[b6];simp;omega);have b8:=hT.add hF d5 d6;rw[<-aU hk]at b8;rw[show(jC (fun k=>R (k+4)) (l.take k)).length+[[dI (l[k]).jM,D.aj]].length=k+1 by rw[b6];rfl];refine gz ?_;exact⟨k+1,jK (jK R ((l.take k).length+4) .nil) 3 (.row i c cs),S4,⟨j0,b8,.inr ⟨_,_,_,Ab ..⟩⟩,td1,wkR⟩
  ·refine gz ?_;have b6:(jC (fun k=>R (k+4)) (l.take k)).length=k:=by rw[A4];simp;omega
   refine xapp (new:=[[dI (l[k]).jM,D.slice es .clip]]) (es:=jC (fun k=>R (k+4)) (l.take k)) (fun i c cs S4 d5 d6=>?_) (hT.row3.keep fun j o hj d8=>(hF.2.1 j o hj id).1) (h1:=by rw[b6];with_unfolding_all rfl) (hb:=by rw[b6];simp;omega) (hm2:=by rw[b6];simp;omega);have b8:=hT.add hF d5 d6;rw[<-aU hk]at b8;rw[show(jC (fun k=>R (k+4)) (l.take k)).length+[[dI (l[k]).jM,D.slice es .clip]].length=k+1 by rw[b6];rfl];refine gz ?_;exact⟨k+1,jK (jK R ((l.take k).length+4) (.full es)) 3 (.row i c cs),S4,⟨j0,b8,.inr ⟨_,_,_,Ab ..⟩⟩,td1,wkR⟩
  ·refine gz ?_;have b6:(jC (fun k=>R (k+4)) (l.take k)).length=k:=by rw[A4];simp;omega
   refine xapp (new:=[[dI (l[k]).jM,D.am j 0 (l[k]).ac.length c']]) (es:=jC (fun k=>R (k+4)) (l.take k)) (fun i c cs S4 d5 d6=>?_) (hT.row3.keep fun j o hj d8=>(hF.2.1 j o hj id).1) (h1:=by rw[b6];with_unfolding_all rfl) (hb:=by rw[b6];simp;omega) (hm2:=by rw[b6];simp;omega);have b8:=hT.add hF d5 d6;rw[<-aU hk]at b8;rw[show(jC (fun k=>R (k+4)) (l.take k)).length+[[dI (l[k]).jM,D.am j 0 (l[k]).ac.length c']].length=k+1 by rw[b6];rfl];refine gz ?_;exact⟨k+1,jK (jK R ((l.take k).length+4) (.row j c' cs')) 3 (.row i c cs),S4,⟨j0,b8,.inr ⟨_,_,_,Ab ..⟩⟩,td1,wkR⟩
 ·obtain rfl:k=l.length:=by omega
  rw[cH]at hT;rcases fH with⟨h0,h3⟩|⟨i,c,cs,h3⟩
  ·have b9:l=[]:=bf.1 h0;subst b9;rw[h3];refine gz ?_;refine fin1 (U':=S2) ⟨jK R 3 (.full []),by rw[Ab,W2],hT.re ⟨rfl,fun e he=>by cases he⟩ (fun _ h=>h.elim) (fun es h=>by cases h;rfl)⟩
  ·have q:=hT.row3;rw[h3]at q;have hc:=q.2.2.1;rw[A4]at hc;rw[h3];refine gz ?_;refine fin1 (U':=S2) ⟨jK R 3 (.row i l.length cs),by rw[Ab,Cz],hT.re ⟨q.1,?_,by rw[A4];exact bU _,BJ⟩ (fun j hj=>by rw[h3];exact hj) (fun es h=>by cases h)⟩;rw[aC,Aj BJ,A4];omega
theorem TQ(l:List jF)(o:Own)(O:Sig)(hl:l.length<=1000000)(hs:∀x∈l,x.ac.length<=1000000):ar prog 245 [.slice (l.map cTh) o] O fun x U'=> ∃R,x=.ret ((R 3).d l.length)/\ThS R l O U':=by
 refine en func245 ntmps245 ?_;refine gz ?_;refine A3 (TA l o O hl hs) (fun d S1 hr=>?_) (fun d S1 hr=>by obtain⟨_,h,_⟩:=hr;cases h);obtain⟨r,hd,hF⟩:=hr;cases hd;refine gz ?_;exact fin1 (U':=S1) ⟨r,rfl,hF⟩
theorem WZ(l:List jF)(o:Own)(O:Sig)(hl:l.length<=1000000)(hs:∀x∈l,x.ac.length<=1000000):ar prog 48 [.slice (l.map cTh) o] O fun x U'=> ∃R,x=.ret ((R 3).d l.length)/\ThS R l O U':=by
 refine en func48 ntmps48 ?_;refine gz ?_ o48;refine F1 [2,6,7,22] (fun (k:Nat) (R:Nat->RW) (S2:Sig)=>k<=l.length/\ThS R (l.take k) O S2/\(k=0/\R 3=.nil \/ ∃i c cs,R 3=.row i c cs)) (fun k R _=>[(8,dI k),(3,(R 3).d k)]) (fun _ _ S2=>S2) (fun k _ _=>l.length-k) (0) (fun _=>.nil) (O) (by exact⟨cE _,ThS.nil O,.inl ⟨rfl,rfl⟩⟩) (fun k R S2 hI=>?_);obtain⟨fq,hT,fH⟩:=hI
 by_cases hk:k<l.length
 ·refine gz ?_;refine FK (id:=5) [0,1,2,3,4,5,6,7,8,9] [5,8] (fun _=>none) (fun _ _ h=>by cases h) ?_;refine gz ?_ o48;refine AX (JN (l[k]).ac .no S2 (hs _ (aK hk))) (fun d S3 hr=>?_) (fun d S3 hr=>by obtain⟨_,h,_⟩:=hr;cases h);obtain⟨r,hd,hF⟩:=hr
  replace hF:FrV S2 r (l[k]).ac S3:=hF
  cases hd;refine⟨(fun _ _ h=>by cases h),?_⟩;rcases r with _|es|⟨j,c',cs'⟩
  ·refine gz ?_ o48;have b6:(jC (fun k=>R (k+4)) (l.take k)).length=k:=by rw[A4];simp;omega
   refine Dl (new:=[[dI (l[k]).jM,D.aj]]) (es:=jC (fun k=>R (k+4)) (l.take k)) (fun i c cs S4 d5 d6=>?_) (fun j o h=>by cases h) (hm:=hT.row3.keep fun j o hj d8=>(hF.2.1 j o hj id).1) (h1:=by rw[b6];with_unfolding_all rfl) (hb:=by rw[b6];simp;omega) (hm2:=by rw[b6];simp;omega);have b8:=hT.add hF d5 d6;rw[<-aU hk]at b8;rw[show(jC (fun k=>R (k+4)) (l.take k)).length+[[dI (l[k]).jM,D.aj]].length=k+1 by rw[b6];rfl];refine gz ?_ o48;exact⟨k+1,jK (jK R ((l.take k).length+4) .nil) 3 (.row i c cs),S4,⟨j0,b8,.inr ⟨_,_,_,Ab ..⟩⟩,td1,wkR⟩
  ·refine gz ?_ o48;have b6:(jC (fun k=>R (k+4)) (l.take k)).length=k:=by rw[A4];simp;omega
   refine Dl (new:=[[dI (l[k]).jM,D.slice es .clip]]) (es:=jC (fun k=>R (k+4)) (l.take k)) (fun i c cs S4 d5 d6=>?_) (fun j o h=>by cases h) (hm:=hT.row3.keep fun j o hj d8=>(hF.2.1 j o hj id).1) (h1:=by rw[b6];with_unfolding_all rfl) (hb:=by rw[b6];simp;omega) (hm2:=by rw[b6];simp;omega);have b8:=hT.add hF d5 d6;rw[<-aU hk]at b8;rw[show(jC (fun k=>R (k+4)) (l.take k)).length+[[dI (l[k]).jM,D.slice es .clip]].length=k+1 by rw[b6];rfl];refine gz ?_ o48;exact⟨k+1,jK (jK R ((l.take k).length+4) (.full es)) 3 (.row i c cs),S4,⟨j0,b8,.inr ⟨_,_,_,Ab ..⟩⟩,td1,wkR⟩
  ·refine gz ?_ o48;have b6:(jC (fun k=>R (k+4)) (l.take k)).length=k:=by rw[A4];simp;omega
   refine Dl (new:=[[dI (l[k]).jM,D.am j 0 (l[k]).ac.length c']]) (es:=jC (fun k=>R (k+4)) (l.take k)) (fun i c cs S4 d5 d6=>?_) (fun j o h=>by cases h) (hm:=hT.row3.keep fun j o hj d8=>(hF.2.1 j o hj id).1) (h1:=by rw[b6];with_unfolding_all rfl) (hb:=by rw[b6];simp;omega) (hm2:=by rw[b6];simp;omega);have b8:=hT.add hF d5 d6;rw[<-aU hk]at b8;rw[show(jC (fun k=>R (k+4)) (l.take k)).length+[[dI (l[k]).jM,D.am j 0 (l[k]).ac.length c']].length=k+1 by rw[b6];rfl];refine gz ?_ o48;exact⟨k+1,jK (jK R ((l.take k).length+4) (.row j c' cs')) 3 (.row i c cs),S4,⟨j0,b8,.inr ⟨_,_,_,Ab ..⟩⟩,td1,wkR⟩
 ·obtain rfl:k=l.length:=by omega
  rw[cH]at hT;refine gz ?_ o48;exact fin1 (U':=S2) ⟨R,rfl,hT⟩
@[simp] theorem cInit_tk(x:jv):List.take 2 (FB x)=FB x:=rfl
theorem HG(x:jv)(s:Int)(O:Sig):ar prog 292 ([]++[.agg (FB x)]++[.ak [dI s] 0]) O (rS (.bool (decide (x.slot=s))) O):=by
 refine en func292 ntmps292 ?_;refine gz ?_;exact fe1 trivial
theorem HH(l:List jv)(p:jv->Bool)(g:Nat)(cap:eO)(o:Own)(O:Sig)(hl:l.length<=1073741824)(hg:∀v∈l,ar prog g ([]++[.agg (FB v)]++cap) O (rS (.bool (p v)) O)):ar prog 291 [.slice (l.map FB) o,.func (.func g) [] cap] O (rS (dI (kD p l 0)) O):=by
 refine en func291 ntmps291 ?_;refine gz ?_;refine Bz [0,1,7] (fun (k:Nat)=>k<=l.length/\kD p l 0=kD p (l.drop k) k) (fun k=>[(8,dI k)]) (fun _=>O) (fun k=>l.length-k) (0) j1 (fun k hI=>?_);obtain⟨hk,hR⟩:=hI
 by_cases h:k<l.length
 ·rw[A6 h,kD]at hR
  repeat' first|refine Bh (hg (l[k]) (aK h)) ?_|refine callP (hg (l[k]) (aK h)) ?_|refine gz ?_|apply gy<;>intro hh
  ·rw[hh]at hR;exact fe1 hR
  ·rw[hh]at hR;exact⟨k+1,⟨j0,hR⟩,td1,wkR⟩
 ·rw[A9 h,kD]at hR;refine gz ?_;exact fe1 hR
theorem idxF_find{α:Type}(q:α->Bool): ∀(l:List α) (k:Nat),(kD q l k = -1/\l.find? q=none) \/ ∃(j:Nat) (hj:j<l.length),kD q l k=k+j/\l.find? q=some l[j]
 |[],_=>.inl ⟨rfl,rfl⟩
 | x::r,k=>by
  cases h:q x with
  |true=>exact .inr ⟨0,j1,by rw[kD,aG h];simp,by rw[List.find?_cons,h];rfl⟩
  |false=>
   rcases idxF_find q r (k+1)with⟨h1,h2⟩|⟨j,hj,h1,h2⟩
   ·exact .inl ⟨by rw[kD,aE (by rw[h];simp)];exact h1,by rw[List.find?_cons,h];exact h2⟩
   ·exact .inr ⟨j+1,by simpa using hj,by rw[kD,aE (by rw[h];simp),h1];push_cast;omega,by rw[List.find?_cons,h];exact h2⟩
theorem NU(m:List (Int×Int)): ∀l:eP,(beginL m l).length<=l.length
 |[]=>bU _
 |s::r=>by
  have:=NU m r;rw[beginL];split
  ·simp only[aS];omega
  ·simp only[aS];omega
def eIT(m:List (Int×jF)):List (D×D):=eM dI (fun x=>.agg (cTh x)) m
@[simp] theorem putIT(k c:Int)(l:List jH)(m:List (Int×jF)):Dt (.int .i64) (.int .i64 k) (.agg [.int .i64 c,.slice (l.map j5) .no]) (eIT m)=some (eIT (jS k ⟨c,l⟩ m)):=P5 keyI (fun x=>.agg (cTh x)) k ⟨c,l⟩ m
theorem hitIT(k:Int)(m:List (Int×jF))(h:hasM k m=true):hitD tab 131 false (D3 (.int .i64) (.int .i64 k) (eIT m) 0)=some (.agg (cTh (getM ⟨0,[]⟩ k m))):=by
 have:=XX (tab:=tab) (e:=131) keyI (fun x:jF=>.agg (cTh x)) (z:=⟨0,[]⟩) rfl k m;rw[h]at this;exact this
def mp1(p:aw):Nat->List (Int×eP)
 |0=>[]
 |i+1=>jS ((i:Int)+3) (hasP p ((i:Int)+3)) (mp1 p i)
def mp2(p:aw):Nat->List (Int×jF)
 |0=>[]
 |i+1=>jS ((i:Int)+3) ⟨(i:Int)+3,(A0 p).fresh ((i:Int)+3)⟩ (mp2 p i)
theorem LT(p:aw)(j:Nat): ∀i,j<i->hasM ((j:Int)+3) (mp1 p i)=true/\getM [] ((j:Int)+3) (mp1 p i)=hasP p ((j:Int)+3)
 |0,h=>by omega
 | i+1,h=>by
  rw[mp1,Ft,DA]
  by_cases e:j=i
  ·subst e;simp
  ·rw[aE j0];obtain⟨h1,h2⟩:=LT p j i j0;exact⟨by rw[h1];simp,h2⟩
theorem Sg(p:aw)(j:Nat): ∀i,j<i->hasM ((j:Int)+3) (mp2 p i)=true/\getM ⟨0,[]⟩ ((j:Int)+3) (mp2 p i)=⟨(j:Int)+3,(A0 p).fresh ((j:Int)+3)⟩
 |0,h=>by omega
 | i+1,h=>by
  rw[mp2,Ft,DA]
  by_cases e:j=i
  ·subst e;simp
  ·rw[aE j0];obtain⟨h1,h2⟩:=Sg p j i j0;exact⟨by rw[h1];simp,h2⟩
def cKnw(p:aw)(i1 i2:Nat):D:=.ak (A7 p++[.map i1,.map i2]) 0
def KnwS(p:aw)(i1 i2:Nat)(S0 O:Sig):Prop:=Sub S0 O/\O i1=some (.map (eIO (mp1 p p.aa.length)))/\O i2=some (.map (eIT (mp2 p p.aa.length)))
theorem frzC{ro:Ro}{n:Nat}{Q:DX->St->Prop}{df:List DDf}{γ:Fr}{O:Sig}{c:Code}{i sz:Nat}{r:RW}{es:eR}(a0 b0:eO)(hm:jN O sz r es)(hi:O i=some (.cells (a0++r.d es.length::b0)))(fK:¬r.is i)
  (h:∀U',U' i=some (.cells (a0 ++ .slice es .no::b0))->(∀j o,O j=some o->j≠i->¬r.is j->U' j=some o)->DWp prog ro n c Q ⟨γ,U',df⟩):DWp prog ro n c Q ⟨γ,O,df⟩:=by
 obtain⟨S2,h1,h2,h3⟩:=B5 (P:=prog) (n:=n) (γ:=γ) (df:=df) hm hi fK;exact FH h1 (h S2 h2 h3)
theorem Nf(p:aw)(O:Sig)(hp:p.wt<=1073741824)(hk:okP p=true):ar prog 242 [.agg (A7 p)] O fun x U'=> ∃i1 i2,x=.ret (cKnw p i1 i2)/\KnwS p i1 i2 O U':=by
 obtain⟨p1,p2,p3,p4,p5,p6,p7⟩:=p.wt_le;refine en func242 ntmps242 ?_;refine gz ?_ o242 [6,11];refine newM (fun i1 h1=>?_);refine newM (fun i2 h2=>?_);have hne:i1≠i2:=fun e=>by rw[<-e,w6]at h2;cases h2
 have fI:O i2=none:=by rw[w7 _ _ fun e=>hne e.symm]at h2;exact h2
 refine gz ?_ o242 [6,11];refine BO [1,2,3,20,82] (fun (k:Nat) (S2:Sig)=>k<=p.aa.length/\Sub O S2/\S2 i1=some (.map (eIO (mp1 p k)))/\S2 i2=some (.map (eIT (mp2 p k)))) (fun k _=>[(21,dI k)]) (fun _ S2=>S2) (fun k _=>p.aa.length-k) (0) ((O.set i1 (.map [])).set i2 (.map [])) (by exact⟨cE _,((Sub.refl _).set h1).set fI,by rw[w7 _ _ hne,w6];rfl,w6 ..⟩) (fun k S2 hI=>?_);obtain⟨fq,hS,fo,hm2⟩:=hI
 by_cases fY:k<p.aa.length
 ·have eZ:(jT p ((k:Int)+3)&&okP p)=true:=by unfold jT;rw[hk];simp;omega
  have eY:Sub (S2.out fun j=>j=i1) (S2.set i1 (.map (eIO (jS ((k:Int)+3) (hasP p ((k:Int)+3)) (mp1 p k))))):=fun j o hj=>by
   obtain⟨a,b⟩:=C2 hj;rw[w7 _ _ b];exact a
  have hC:Sub (S2.out fun j=>j=i1) S2:=CC _ _;refine gz ?_ (ji 6 o242) [6,11];refine FK (id:=6) (List.range 12) [7,11] (S2.out fun j=>j=i1) (CC _ _) ?_;refine gf (gi fo eZ) ?_ o242 [6,11];obtain⟨S3,ff⟩:∃S3,S3=S2.set i1 (.map (eIO (jS ((k:Int)+3) (hasP p ((k:Int)+3)) (mp1 p k)))):=⟨_,rfl⟩;rw[<-ff];have fb:S3 i1=some (.map (eIO (mp1 p (k+1)))):=by rw[ff,w6];rfl
  have fa:S3 i2=some (.map (eIT (mp2 p k))):=by rw[ff,w7 _ _ fun e=>hne e.symm];exact hm2
  have fC:Sub O S3:=fun j o hj=>by rw[ff,w7 _ _ fun e=>by rw[e,h1]at hj;cases hj];exact hS j o hj
  obtain⟨g1,g2⟩:=LT p k (k+1) j0;have fy:hitD tab 23 false (D3 (.int .i64) (.int .i64 ((k:Int)+3)) (eIO (mp1 p (k+1))) 0)=some (sl (cI (hasP p ((k:Int)+3)))):=by rw[Wu,g1,g2];rfl
  have fO:=Ce p ((k:Int)+3);have fV:=Db p;clear ff fo hm2 eY hC;refine je (fun i6 h6=>?_);have n1:i1≠i6:=fun e=>by rw[<-e,fb]at h6;cases h6
  have n2:i2≠i6:=fun e=>by rw[<-e,fa]at h6;cases h6
  refine gf (gi fb (gi fa (gi eZ fy))) ?_ o242 [6,11];obtain⟨hs,fw⟩:∃hs,hs=hasP p ((k:Int)+3):=⟨_,rfl⟩;obtain⟨ini,eV⟩:∃ini,ini=D9 p ((k:Int)+3):=⟨_,rfl⟩;have fi:ini.length<=1073741824:=by rw[eV];unfold D9;have:=NU (DK p (kY (p.aa.map (·.ae)) ((k:Int)+3))) (hasP p ((k:Int)+3));omega
  rw[<-fw]at fO;rw[<-fw,<-eV];refine F1 (List.range' 1 8++List.range' 20 32++List.range' 75 8) (fun (q:Nat) (r:RW) (S4:Sig)=>q<=hs.length/\Sub S3 S4/\S4 i6=some (.cells [.int .i64 ((k:Int)+3),r.d q])/\jN S4 2 r ((hs.take q).map fun s=>j5 (frV ini s)) /\ ¬r.is i6 /\ ∀j,r.is j->S3 j=none) (fun q _ _=>[(52,dI q)]) (fun _ _ S4=>S4) (fun q _ _=>hs.length-q) (0) (.nil) (S3.set i6 (.cells [.int .i64 ((k:Int)+3),.aj])) (by exact⟨cE _,(Sub.refl _).set h6,w6 .., rfl,id,fun _ h=>h.elim⟩) (fun q r S4 hI=>?_);obtain⟨fW,eX,o6,hR,fm,fe⟩:=hI
  by_cases fE:q<hs.length
  ·have b6:((hs.take q).map fun s=>j5 (frV ini s)).length=q:=by simp;omega
   refine gf o6 ?_ o242 [6,11];refine je (fun i11 fU=>?_);have c9:∀j o,S4 j=some o->j≠i11:=fun j o hj e=>by rw[e,fU]at hj;cases hj
   have n611:=c9 _ _ o6;rcases idxF_find (fun x:jv=>decide (x.slot=hs[q])) ini 0 with⟨hx,eW⟩|⟨m,hm,hx,eW⟩
   ·repeat' first|refine gf (gi o6 hx) ?_ [] [6,11]|refine Bh (HH ini (fun x=>decide (x.slot=hs[q])) 292 [.ak [dI hs[q]] 0] .no _ fi (fun v _=>HG v hs[q] _)) ?_|refine callP (HH ini (fun x=>decide (x.slot=hs[q])) 292 [.ak [dI hs[q]] 0] .no _ fi (fun v _=>HG v hs[q] _)) ?_|refine gf (gi o6 hx) ?_ o242 [6,11]|apply gy<;>intro hh
    refine xapp (new:=[j5 (DS)]) (es:=(hs.take q).map fun s=>j5 (frV ini s)) (fun j c cs S6 fg fh=>?_) (hR.keep fun j o hj d8=>by rw[w7 _ _ (c9 j o hj)];exact hj) (hsz:=by simp) (h1:=by rw[b6];with_unfolding_all rfl) (hb:=by rw[b6];simp;omega) (hm2:=by rw[b6];simp;omega);rw[show((hs.take q).map fun s=>j5 (frV ini s))++[j5 (DS)]=(hs.take (q+1)).map fun s=>j5 (frV ini s) by rw[aU fE,bz];simp only[bd,bX];rw[show frV ini hs[q]=DS by unfold frV;rw[eW]]]at fg;rw[show((hs.take q).map fun s=>j5 (frV ini s)).length+[j5 (DS)].length=q+1 by rw[b6];rfl];obtain⟨k6,k7⟩:=fh i6 _ ((w7 _ _ n611).trans o6) fm;have b7:∀x o,S3 x=some o->S6 x=some o /\ ¬(RW.row j c cs).is x:=fun x o hx=>fh x o (j2 (c9 x o (eX x o hx)) (eX x o hx)) (fun h=>by rw[fe x h]at hx;cases hx)
    have fA:∀x,(RW.row j c cs).is x->S3 x=none:=fun x hx=>by
     cases h:S3 x
     ·rfl
     ·exact absurd hx (b7 x _ h).2
    refine gf k6 ?_ o242 [6,11];exact⟨q+1,.row j c cs,S6.set i6 (.cells [.int .i64 ((k:Int)+3),.am j 0 (q+1) c]),⟨j0,fun x o hx=>by rw[w7 _ _ (fun e=>by rw[e,h6]at hx;cases hx)];exact(b7 x o hx).1,w6 .., fg.keep fun x o hx hj=>by rw[w7 _ _ (fun e=>by subst e;exact k7 hj)];exact hx,k7,fA⟩,td1,wkR⟩
   ·repeat' first|refine gf (gi o6 hx) ?_ [] [6,11]|refine Bh (HH ini (fun x=>decide (x.slot=hs[q])) 292 [.ak [dI hs[q]] 0] .no _ fi (fun v _=>HG v hs[q] _)) ?_|refine callP (HH ini (fun x=>decide (x.slot=hs[q])) 292 [.ak [dI hs[q]] 0] .no _ fi (fun v _=>HG v hs[q] _)) ?_|refine gf (gi o6 hx) ?_ o242 [6,11]|apply gy<;>intro hh
    refine xapp (new:=[j5 (jZ (ini[m]).n)]) (es:=(hs.take q).map fun s=>j5 (frV ini s)) (fun j c cs S6 fg fh=>?_) (hR.keep fun j o hj d8=>by rw[w7 _ _ (c9 j o hj)];exact hj) (hsz:=by simp) (h1:=by rw[b6];with_unfolding_all rfl) (hb:=by rw[b6];simp;omega) (hm2:=by rw[b6];simp;omega);rw[show((hs.take q).map fun s=>j5 (frV ini s))++[j5 (jZ (ini[m]).n)]=(hs.take (q+1)).map fun s=>j5 (frV ini s) by rw[aU fE,bz];simp only[bd,bX];rw[show frV ini hs[q]=jZ (ini[m]).n by unfold frV;rw[eW]]]at fg;rw[show((hs.take q).map fun s=>j5 (frV ini s)).length+[j5 (jZ (ini[m]).n)].length=q+1 by rw[b6];rfl];obtain⟨k6,k7⟩:=fh i6 _ ((w7 _ _ n611).trans o6) fm;have b7:∀x o,S3 x=some o->S6 x=some o /\ ¬(RW.row j c cs).is x:=fun x o hx=>fh x o (j2 (c9 x o (eX x o hx)) (eX x o hx)) (fun h=>by rw[fe x h]at hx;cases hx)
    have fA:∀x,(RW.row j c cs).is x->S3 x=none:=fun x hx=>by
     cases h:S3 x
     ·rfl
     ·exact absurd hx (b7 x _ h).2
    refine gf k6 ?_ o242 [6,11];exact⟨q+1,.row j c cs,S6.set i6 (.cells [.int .i64 ((k:Int)+3),.am j 0 (q+1) c]),⟨j0,fun x o hx=>by rw[w7 _ _ (fun e=>by rw[e,h6]at hx;cases hx)];exact(b7 x o hx).1,w6 .., fg.keep fun x o hx hj=>by rw[w7 _ _ (fun e=>by subst e;exact k7 hj)];exact hx,k7,fA⟩,td1,wkR⟩
  ·obtain rfl:q=hs.length:=by omega
   rw[cH]at hR;have fQ:(hs.map fun s=>j5 (frV ini s))=((A0 p).fresh ((k:Int)+3)).map j5:=by unfold A0;simp only[dh];rw[<-fw,<-eV];rfl
   have hlen:(hs.map fun s=>j5 (frV ini s)).length=hs.length:=by simp
   refine frzC [.int .i64 ((k:Int)+3)] [] hR (by rw[hlen];exact o6) fm (fun S5 o5 fu=>?_);rw[fQ]at o5;have fL:S5 i2=some (.map (eIT (mp2 p k))):=fu i2 _ (eX _ _ fa) n2 (fun h=>by rw[fe _ h]at fa;cases fa);have fF:S5 i1=some (.map (eIO (mp1 p (k+1)))):=fu i1 _ (eX _ _ fb) n1 (fun h=>by rw[fe _ h]at fb;cases fb)
   have eY:Sub (S5.out fun j=>j=i2) (S5.set i2 (.map (eIT (jS ((k:Int)+3) ⟨(k:Int)+3,(A0 p).fresh ((k:Int)+3)⟩ (mp2 p k))))):=fun j o hj=>by
    obtain⟨a,b⟩:=C2 hj;rw[w7 _ _ b];exact a
   have o7:=Dk (touch:=fun j=>j=i2) o5 (fun e=>n2 e.symm);have m7:=Dk (touch:=fun j=>j=i2) fF hne;have hC:Sub (S5.out fun j=>j=i2) S5:=CC _ _;refine gf o7 ?_ (ji 18 o242) [6,11];refine FK (id:=18) [0,1,2,3,4,5,6] [6] (S5.out fun j=>j=i2) (CC _ _) ?_;refine gf (gi o7 fL) ?_ o242 [6,11];have fR:∀x o,O x=some o->S5 x=some o:=fun x o hx=>fu x o (eX x o (fC x o hx)) (fun e=>by have:=fC x o hx;rw[e,h6]at this;cases this) (fun h=>by have:=fC x o hx;rw[fe x h]at this;cases this)
   exact⟨k+1,S5.set i2 (.map (eIT (jS ((k:Int)+3) ⟨(k:Int)+3,(A0 p).fresh ((k:Int)+3)⟩ (mp2 p k)))),⟨j0,fun x o hx=>by rw[w7 _ _ (fun e=>by rw[e,fI]at hx;cases hx)];exact fR x o hx,j2 hne fF,w6 ..⟩,td1,wkR⟩
 ·obtain rfl:k=p.aa.length:=by omega
  refine gz ?_ o242 [6,11];exact fin1 (U':=S2) ⟨i1,i2,rfl,hS,fo,hm2⟩
end Go.DL
