/- A part of the proof. -/
import Derived.Test.YteldimffglchkaaGreatDoorQ07
import Derived.Test.YteldimffglchkaaGreatDoorQ10
set_option linter.all false
namespace Go.DL
open Go.Proofs.Tryz
open Go Go.Proofs
def Rs{P:Program}{n:Nat}{γ V':Fr}{O:Sig}{df:List DDf}(h:∀t,WkD (getD γ t) (getD V' t)):Wk P n { γ,O,df } { γ:=V',O,df }:=
 fun g w a hs=>⟨g,.refl g,⟨hs.sim,⟨hs.tmps.1,fun t=>h t g _ (hs.tmps.2 t)⟩,hs.df⟩⟩
def go1{F G' G:Prop}(fx:F)(h:G') (hs:l7 []->Hold F->G'->G:=by
 intro hv fx hG
 (first
  |(with_reducible first|refine Ja ?_|refine Mq ?_|refine OS ?_|refine Kz ?_|refine L5 ?_|refine Pp ?_|refine XW (by decide) ?_|refine ST ?_|refine MY ?_|refine M8 ?_|refine NE ?_|refine PF ?_|refine PJ ?_|refine Vb ?_|refine AD ?_|refine IU ?_|refine XO ?_)
  |((with_reducible refine Je (d:=?_) (Sr:=?_) jB ?h1 ?h2 ?hl ?hd ?_);(case h1=>rfl);(case h2=>rfl);(case hl=>rfl);(case hd=>simp(disch:=first|omega|assumption) [AA,big1,big2,w7,DP,CN,DO,CM,DQ,DN,CF,BM,CE,BL,CG,CD,G9,fx.get]<;>(try simp only[BB,BC,Bb,BA,AV,Be,Bd,Bc,Ba,AU,B9,B8,B7])<;>first|rfl|(and_intros<;>rfl)))
  |((with_reducible refine KC (d:=?_) (k:=?_) (Sr:=?_) jB ?h1 ?h2 ?hk ?hb ?hl ?hd ?_);(case h1=>rfl);(case h2=>rfl);(case hk=>rfl);(case hb=>rfl);(case hl=>rfl);(case hd=>simp(disch:=first|omega|assumption) [AA,big1,big2,w7,DP,CN,DO,CM,DQ,DN,CF,BM,CE,BL,CG,CD,G9,fx.get]<;>(try simp only[BB,BC,Bb,BA,AV,Be,Bd,Bc,Ba,AU,B9,B8,B7])<;>first|rfl|(and_intros<;>rfl)))
  |((with_reducible refine step_read0 (d:=?_) (Sr:=?_) jB ?h1 ?hl ?hd ?_);(case h1=>rfl);(case hl=>rfl);(case hd=>simp(disch:=first|omega|assumption) [AA,big1,big2,w7,DP,CN,DO,CM,DQ,DN,CF,BM,CE,BL,CG,CD,G9,fx.get]<;>(try simp only[BB,BC,Bb,BA,AV,Be,Bd,Bc,Ba,AU,B9,B8,B7])<;>first|rfl|(and_intros<;>rfl)))
  |((with_reducible refine Ok (d:=?_) (Sr:=?_) jB ?h1 ?h2 ?hl ?hd ?_);(case h1=>rfl);(case h2=>rfl);(case hl=>rfl);(case hd=>simp(disch:=first|omega|assumption) [AA,big1,big2,w7,DP,CN,DO,CM,DQ,DN,CF,BM,CE,BL,CG,CD,G9,fx.get]<;>(try simp only[BB,BC,Bb,BA,AV,Be,Bd,Bc,Ba,AU,B9,B8,B7])<;>first|rfl|(and_intros<;>rfl)))
  |((with_reducible refine Pb (d:=?_) (k:=?_) (Sr:=?_) jB ?h1 ?h2 ?hk ?hb ?hl ?hd ?_);(case h1=>rfl);(case h2=>rfl);(case hk=>rfl);(case hb=>rfl);(case hl=>rfl);(case hd=>simp(disch:=first|omega|assumption) [AA,big1,big2,w7,DP,CN,DO,CM,DQ,DN,CF,BM,CE,BL,CG,CD,G9,fx.get]<;>(try simp only[BB,BC,Bb,BA,AV,Be,Bd,Bc,Ba,AU,B9,B8,B7])<;>first|rfl|(and_intros<;>rfl)))
  |((with_reducible refine mo_read0 (d:=?_) (Sr:=?_) jB ?h1 ?hl ?hd ?_);(case h1=>rfl);(case hl=>rfl);(case hd=>simp(disch:=first|omega|assumption) [AA,big1,big2,w7,DP,CN,DO,CM,DQ,DN,CF,BM,CE,BL,CG,CD,G9,fx.get]<;>(try simp only[BB,BC,Bb,BA,AV,Be,Bd,Bc,Ba,AU,B9,B8,B7])<;>first|rfl|(and_intros<;>rfl)))
  |((with_reducible refine Mu (k:=?_) Ao ?hk ?hb ?h1 ?h2 ?_);(case hk=>rfl);(case hb=>rfl);(case h1=>rfl);(case h2=>rfl))
  |((with_reducible refine KB (k:=?_) Ao ?hk ?hb ?h1 ?h2 ?_);(case hk=>rfl);(case hb=>rfl);(case h1=>rfl);(case h2=>rfl))
  |((with_reducible refine step_skip0 (k:=?_) Ao ?hk ?hb ?h1 ?_);(case hk=>rfl);(case hb=>rfl);(case h1=>rfl))
  |((with_reducible refine step_skipU0 (k:=?_) Ao ?hk ?hb ?h1 ?_);(case hk=>rfl);(case hb=>rfl);(case h1=>rfl))
  |((with_reducible refine Pa (k:=?_) ?hk ?hb ?h1 ?h2 ?_);(case hk=>rfl);(case hb=>rfl);(case h1=>rfl);(case h2=>rfl))
  |((with_reducible refine P9 (k:=?_) ?hk ?hb ?h1 ?h2 ?_);(case hk=>rfl);(case hb=>rfl);(case h1=>rfl);(case h2=>rfl))
  |((with_reducible refine mo_skip0 (k:=?_) ?hk ?hb ?h1 ?_);(case hk=>rfl);(case hb=>rfl);(case h1=>rfl))
  |((with_reducible refine mo_skipU0 (k:=?_) ?hk ?hb ?h1 ?_);(case hk=>rfl);(case hb=>rfl);(case h1=>rfl))
  |((with_reducible refine OU (d:=?_) (U':=?_) (Sr:=?_) jB ?hl ?he ?h1 ?_);(case hl=>rfl);(case he=>simp(disch:=first|omega|assumption) [AA,big1,big2,w7,DP,CN,DO,CM,DQ,DN,CF,BM,CE,BL,CG,CD,G9,fx.get]<;>first|rfl|(and_intros<;>rfl));(case h1=>rfl))
  |((with_reducible refine FR (d:=?_) (U':=?_) (Sr:=?_) jB ?hl ?he ?_);(case hl=>rfl);(case he=>simp(disch:=first|omega|assumption) [AA,big1,big2,w7,DP,CN,DO,CM,DQ,DN,CF,BM,CE,BL,CG,CD,G9,fx.get]<;>first|rfl|(and_intros<;>rfl)))
  |((with_reducible refine Ss (d:=?_) (U':=?_) (Sr:=?_) jB ?hl ?he ?h1 ?hC ?_);(case hl=>rfl);(case he=>simp(disch:=first|omega|assumption) [AA,big1,big2,w7,DP,CN,DO,CM,DQ,DN,CF,BM,CE,BL,CG,CD,G9,fx.get]<;>first|rfl|(and_intros<;>rfl));(case h1=>rfl);(case hC=>clear hG;first|exact Sub.refl _|assumption|exact(Sub.refl _).set (by assumption)))
  |((with_reducible refine EL (d:=?_) (U':=?_) (Sr:=?_) jB ?hl ?he ?hC ?_);(case hl=>rfl);(case he=>simp(disch:=first|omega|assumption) [AA,big1,big2,w7,DP,CN,DO,CM,DQ,DN,CF,BM,CE,BL,CG,CD,G9,fx.get]<;>first|rfl|(and_intros<;>rfl));(case hC=>clear hG;first|exact Sub.refl _|assumption|exact(Sub.refl _).set (by assumption)))
  |((with_reducible refine step_neqS (r:=?_) (Sr:=?_) (xs:=?_) (ys:=?_) (fs:=?_) jB ?hE ?h1 ?hl ?hx ?hy ?hk ?hd ?_);(case hE=>with_reducible first|exact eqTy63|exact eqTy150);(case h1=>rfl);(case hl=>rfl);(case hx=>rfl);(case hy=>rfl);(case hk=>simp<;>rfl);(case hd=>simp(disch:=first|omega|assumption) [AA,big1,big2,w7,DP,CN,DO,CM,DQ,DN,CF,BM,CE,BL,CG,CD,G9,fx.get]<;>rfl))
  |((with_reducible refine Ol (r:=?_) (Sr:=?_) (xs:=?_) (ys:=?_) (fs:=?_) jB ?hE ?h1 ?hl ?hx ?hy ?hk ?hd ?_);(case hE=>with_reducible first|exact eqTy63|exact eqTy150);(case h1=>rfl);(case hl=>rfl);(case hx=>rfl);(case hy=>rfl);(case hk=>simp<;>rfl);(case hd=>simp(disch:=first|omega|assumption) [AA,big1,big2,w7,DP,CN,DO,CM,DQ,DN,CF,BM,CE,BL,CG,CD,G9,fx.get]<;>rfl))
  |((with_reducible refine KE (Sr:=?_) ?hl ?hc ?_);(case hl=>rfl);(case hc=>simp(disch:=first|omega|assumption) [AA,big1,big2,w7,DP,CN,DO,CM,DQ,DN,CF,BM,CE,BL,CG,CD,G9,fx.get];done))
  |((with_reducible refine KF (Sr:=?_) ?hl ?hc ?_);(case hl=>rfl);(case hc=>simp(disch:=first|omega|assumption) [AA,big1,big2,w7,DP,CN,DO,CM,DQ,DN,CF,BM,CE,BL,CG,CD,G9,fx.get];done))
  |((with_reducible refine Mv (d:=?_) (cs:=?_) (Sr:=?_) hv jB ?h1 ?h2 ?h3 ?h4 ?h5 ?hl ?he ?h6 ?h7 ?h8 ?h9 ?_);(case h1=>rfl);(case h2=>rfl);(case h3=>rfl);(case h4=>rfl);(case h5=>simp);(case hl=>rfl);(case he=>simp<;>(try simp only[BB,BC,Bb,BA,AV,Be,Bd,Bc,Ba,AU,B9,B8,B7])<;>rfl);(case h6=>rfl);(case h7=>simp<;>(try simp only[BB,BC,Bb,BA,AV,Be,Bd,Bc,Ba,AU,B9,B8,B7])<;>rfl);(case h8=>simp);(case h9=>simp))
  |((with_reducible refine KD (d:=?_) (d2:=?_) (cs:=?_) (Sr:=?_) (Sr2:=?_) hv jB ?h1 ?h2 ?h3 ?h4 ?h5 ?g1 ?g2 ?g3 ?g4 ?gl ?ge ?hl ?he ?h6 ?h7 ?h8 ?h9 ?_);(case h1=>rfl);(case h2=>rfl);(case h3=>rfl);(case h4=>rfl);(case h5=>rfl);(case g1=>rfl);(case g2=>rfl);(case g3=>rfl);(case g4=>simp);(case gl=>rfl);(case ge=>simp<;>(try simp only[BB,BC,Bb,BA,AV,Be,Bd,Bc,Ba,AU,B9,B8,B7])<;>rfl);(case hl=>rfl);(case he=>simp<;>(try simp only[BB,BC,Bb,BA,AV,Be,Bd,Bc,Ba,AU,B9,B8,B7])<;>rfl);(case h6=>rfl);(case h7=>simp<;>(try simp only[BB,BC,Bb,BA,AV,Be,Bd,Bc,Ba,AU,B9,B8,B7])<;>rfl);(case h8=>simp);(case h9=>simp)))
 exact hG):G:=hs ⟨⟩ ⟨fx⟩ h
section
variable {P:Program}{ro:Ro}{n:Nat}{ops:Array Oper}{N:Nat}{S0:Sig}{Q:DX->St->Prop}{df:List DDf}{rest:List Oper}{γ Sr:List (Nat×D)}{O:Sig}{t:Nat}{ty:TypeId}{pos:String}{after:Array Edge}{l:List (Bool×Oper)}{d:D}
theorem needR{fop:Operand}{args:Array Operand}{ats:Array TypeId}{f:Nat}{first cap us bs:eO}{c:Bool}{u d:D}{dst:Option Tmp}(h:ar P f bs O fun x U'=>x=(if c then .ret d else .panic u)/\U'=O)(k1:c=true->au P ro n ops Q rest ⟨putD dst d γ,O,df⟩)(k2:c=false->Q (.panic u) ⟨γ,O,df⟩)(hl:A5 γ (Aa (fop::args.toList))=some Sr:=by exact tdR)(hf:ev Sr fop=.func (.func f) first cap:=by exact tdR)(ha:first++args.toList.map (ev Sr)++cap=us:=by exact td0)(hp:bs=us:=by exact tdR)
  (ho:Ax n ⟨dst,(cv fop args ats),ty,pos,after,none⟩=true:=by exact tdR):au P ro n ops Q (⟨dst,(cv fop args ats),ty,pos,after,none⟩::rest) ⟨γ,O,df⟩:=by
 refine Hf hl hf ha (.inl hp) h ho (fun d' U' hx=>?_) (fun d' U' hx=>?_)
 all_goals obtain⟨hx,rfl⟩:=hx;cases c<;>simp only[bm,bu,bc,DE.ret.injEq,DE.panic.injEq,reduceCtorEq]at hx
 ·subst hx;exact k1 rfl
 ·subst hx;exact k2 rfl
theorem AX{fop:Operand}{args:Array Operand}{ats:Array TypeId}{f:Nat}{first cap us bs:eO}{R:DE->Sig->Prop}{dst:Option Tmp}{l:List (Bool×Oper)}(h:ar P f bs O R)(b9:∀d U',R (.ret d) U'->Sub S0 U'/\MO P ro n ops N S0 Q df l (putD dst d γ) U')(c9:∀d U',R (.panic d) U'->∀V',Q (.panic d) ⟨V',U',df⟩)(hl:A5 γ (Aa (fop::args.toList))=some Sr:=by exact tdR)(hf:ev Sr fop=.func (.func f) first cap:=by exact tdR)(ha:first++args.toList.map (ev Sr)++cap=us:=by exact td0)(hp:bs=us:=by exact tdR)
  (ho:Ax n ⟨dst,(cv fop args ats),ty,pos,after,none⟩=true:=by exact tdR):MO P ro n ops N S0 Q df ((true,⟨dst,(cv fop args ats),ty,pos,after,none⟩)::l) γ O:=LU rfl hl hf ha (.inl hp) h ho b9 c9
theorem nilE{x:Operand}{z:Value}{T T':Nat}{b:Bool}(h:au prog ro n ops Q rest ⟨(t,.bool b)::γ,O,df⟩)(hl:A5 γ (Aa [x])=some Sr:=by exact tdR)(hb:nilB (tab T).k z (ev Sr x)=some b:=by(simp<;>with_unfolding_all rfl))(b6:decide (t<n)=true:=by exact tdR):
  au prog ro n ops Q (⟨some t,.binOp .eql T x (.const z) T',ty,pos,after,none⟩::rest) ⟨γ,O,df⟩:=
 NF jB (b:=b) false rfl (by rw[<-CR hl];exact hb) (by simpa using b6) (by cases b<;>exact h)
theorem nilN{x:Operand}{z:Value}{T T':Nat}{b:Bool}(h:au prog ro n ops Q rest ⟨(t,.bool (!b))::γ,O,df⟩)(hl:A5 γ (Aa [x])=some Sr:=by exact tdR)(hb:nilB (tab T).k z (ev Sr x)=some b:=by(simp<;>with_unfolding_all rfl))(b6:decide (t<n)=true:=by exact tdR):
  au prog ro n ops Q (⟨some t,.binOp .neq T x (.const z) T',ty,pos,after,none⟩::rest) ⟨γ,O,df⟩:=
 NF jB (b:=b) true rfl (by rw[<-CR hl];exact hb) (by simpa using b6) (by cases b<;>exact h)
theorem mapp{T T' e e' sz:Nat}{s x:Operand}{es new:eR}{st:MR}(h:∀st',mOK O sz st' (es++new)->au prog ro n ops Q rest ⟨(t,mD st' (es.length+new.length))::γ,mS O st' (es++new),df⟩)(hm:mOK O sz st es:=by assumption)
  (hl:A5 γ (Aa [s,x])=some Sr:=by exact tdR) (hk:(tab T).k=.slice e:=by(simp<;>rfl)) (b7:(tab T').k=.slice e':=by(simp<;>rfl)) (he:A2 (tab e).k=false:=by simp) (hsz:(tab e).size=sz:=by simp)
  (h1:ev Sr s=mD st es.length:=by first|with_unfolding_all rfl|(simp[ev,getD,List.lookup];done)) (h2:k8 (ev Sr x)=some new:=by(simp<;>with_unfolding_all rfl))
  (hlen':∀c∈new,c.length=sz:=by first|exact Ck _|exact E0 _|exact BX _|simp) (eZ:∀c∈new,C6 c=true:=by simp[cI,cS,cII,C6,D.flat])
  (hb:(es.length+new.length)*(tab e).bytes<=140737488355328:=by first|(simp;done)|(simp;omega)) (hm2:es.length+new.length<=9223372036854775807:=by first|(simp;done)|(simp;omega)) (b6:decide (t<n)=true:=by exact tdR) :
  au prog ro n ops Q (⟨some t,(cA s x T T'),ty,pos,after,none⟩::rest) ⟨γ,mS O st es,df⟩:=by
 obtain⟨e1,e2⟩:=jW hl;exact NH jB (by simpa using b6) hk b7 he hsz (by rw[<-e1];exact h1) hm (by rw[<-e2];exact h2) hlen' eZ hb hm2 (fun st' h'=>by rw[aC];exact h st' h')
theorem mmake{T e k sz c:Nat}{l m:Operand}{z:eO}(h:∀i,O i=none->mOK O sz (some (i,c,(List.replicate (c-k) z).flatten)) (List.replicate k z)->au prog ro n ops Q rest ⟨(t,.am i 0 k c)::γ,mS O (some (i,c,(List.replicate (c-k) z).flatten)) (List.replicate k z),df⟩)
  (hl:A5 γ (Aa [l,m])=some Sr:=by exact tdR) (hk:(tab T).k=.slice e:=by(simp<;>rfl)) (he:A2 (tab e).k=false:=by simp) (hsz:(tab e).size=sz:=by(simp<;>rfl)) (h0:0<sz:=by decide) (hz:(tab e).zero=z:=by(simp<;>rfl))
  (h1:ev Sr l=.int .i64 k:=by exact tdR) (h2:ev Sr m=.int .i64 c:=by exact tdR) (eY:k<=c:=by first|exact bU _|omega) (hb:c*(tab e).bytes<=140737488355328:=by first|(simp;done)|(simp;omega)) (hm:c<=9223372036854775807:=by omega) (b6:decide (t<n)=true:=by exact tdR) :
  au prog ro n ops Q (⟨some t,.makeSlice T l m,ty,pos,after,none⟩::rest) ⟨γ,O,df⟩:=by
 obtain⟨e1,e2⟩:=jW hl;exact Lm jB (by simpa using b6) hk he hsz h0 hz (by rw[<-e1];exact h1) (by rw[<-e2];exact h2) eY hb hm h
theorem mfr(k:Nat){l:List Oper}{sz:Nat}{st:MR}{es:eR}(h:au P ro n ops Q l ⟨(k,.slice es .no)::γ,O,df⟩)(hm:mOK O sz st es:=by assumption)(hk:getD γ k=mD st es.length:=by first|exact Ay tdR|(simp[getD,List.lookup];done)):au P ro n ops Q l ⟨γ,mS O st es,df⟩:=
 C9 (Ku hm hk) h
theorem bldZ{T len e:Nat}{z:eO}(h:au prog ro n ops Q rest ⟨(t,.agg z)::γ,O,df⟩)(hk:(tab T).k=.array len e:=by exact tdR)(he:A2 (tab e).k=false:=by simp)(hz:(tab T).zero=z:=by(simp<;>rfl))(b6:decide (t<n)=true:=by exact tdR):au prog ro n ops Q (⟨some t,.build T #[],ty,pos,after,none⟩::rest) ⟨γ,O,df⟩:=by
 subst hz;exact OA jB (by simpa using b6) hk he h
theorem mfrC(xs ys:eO){i:Nat}{l:List Oper}{sz:Nat}{st:MR}{es:eR}(h:au P ro n ops Q l ⟨γ,O.set i (.cells (xs ++ .slice es .no::ys)),df⟩)(hi:O i=some (.cells (xs++mD st es.length::ys)):=by first|exact w6 .. |(simp;done))(hm:mOK O sz st es:=by assumption):au P ro n ops Q l ⟨γ,mS O st es,df⟩:=
 C9 (O1 hm hi) h
theorem celW(xs ys:eO)(d d':D){i:Nat}{l:List Oper}(h:au P ro n ops Q l ⟨γ,O.set i (.cells (xs++d'::ys)),df⟩)(hi:O i=some (.cells (xs++d::ys)):=by first|exact w6 .. |(simp;done))(hw:WkD d d'):au P ro n ops Q l ⟨γ,O,df⟩:=
 C9 (GU hi hw) h
theorem cfr(k:Nat){l:List Oper}{i:Nat}{m:List (D×D)}(hi:O i=some (.map m))(h:au P ro n ops Q l ⟨(k,.cmap (m.map (·.1)) (m.map (·.2)))::γ,O.del i,df⟩)(hk:getD γ k=.map i:=by exact Ay tdR):au P ro n ops Q l ⟨γ,O,df⟩:=
 C9 (O2 hi hk) h
theorem ent{i:Nat}{x:Operand}{left:List (D×D)}{k v:D}(h:au P ro n ops Q rest ⟨(t,.tup [k,v])::γ,O,df⟩)(hi:O i=some (.iter left (some (k,v))):=by first|exact w6 .. |simp)
  (hl:A5 γ (Aa [x])=some Sr:=by exact tdR) (hx:ev Sr x=.obj i:=by exact tdR) (b6:decide (t<n)=true:=by exact tdR) :
  au P ro n ops Q (⟨some t,.entry x,ty,pos,after,none⟩::rest) ⟨γ,O,df⟩:=
 Ra (by simpa using b6) (by rw[<-CR hl];exact hx) hi h
theorem boxV{T:Nat}{x:Operand}{cs:eO}(h:∀i,O i=none->au P ro n ops Q rest ⟨(t,.ptr i 0)::γ,O.set i (.cells cs),df⟩)(hl:A5 γ (Aa [x])=some Sr:=by exact tdR)(hd:ev Sr x=d:=by(simp<;>with_unfolding_all rfl))(hc:d.cells=cs:=by(simp<;>with_unfolding_all rfl))(ht:d.told=true:=by exact tdR)(b6:decide (t<n)=true:=by exact tdR):
  au P ro n ops Q (⟨some t,.box T x,ty,pos,after,none⟩::rest) ⟨γ,O,df⟩:=by
 subst hc hd;rw[CR hl]at ht h;exact dops_box ht (by simpa using b6) h
theorem finCE{fn:Func}{R:DE->Sig->Prop}{U':Sig}{ds:eO}(h:resL tab O γ fn.results.toList=some ds)(hR:R (.ret (P2 ds)) U')(hZ:Sub U' O:=by first|exact Sub.refl _|(refine C1 ?_;simp;done)|assumption|exact(Sub.refl _).set (by assumption)):DR prog n fn R .ret ⟨γ,O,[]⟩:=HQ jB h (Ac _) hZ hR
theorem jp{fn:Func}{R:DE->Sig->Prop}{U':Sig}{ds:eO}{d:D}(hR:R (.ret d) U')(h:resL tab O γ fn.results.toList=some ds:=by(simp[resL];with_unfolding_all rfl))(hw:WkD (P2 ds) d:=by exact tdW)(hZ:Sub U' O:=by first|exact Sub.refl _|(refine C1 ?_;simp;done)|assumption|exact(Sub.refl _).set (by assumption)):DR prog n fn R .ret ⟨γ,O,[]⟩:=HQ jB h hw hZ hR
theorem mixL{lo:List Oper}{id:Nat}(ord E:eQ){lp:List (Bool×Oper)}{ol:Oper}(h:MO prog ro n lo.toArray 431 O (ka (fun s=>au prog ro n lo.toArray Q [ol] s) Q) df lp γ O)(hB:Jx lo.toArray E ord=true:=by kernel_rfl)(d5:nthO lo (lo.length-1)=some ol:=by exact tdR)(hl:GZ lo E ord=some lp:=by exact tdR):DWp prog ro n (.region id lo.toArray true) Q ⟨γ,O,df⟩:=
 PH Ao mixed ord E O hB d5 (Sub.refl _) hl h
theorem mo1{op:Op}{l:List (Bool×Oper)}(h:∀U2,(∀x∈op.operands,ev U2 x=ev γ x)->au P ro n ops (EQ df (some t) (fun d U'=>Sub S0 U'/\MO P ro n ops N S0 Q df l ((t,d)::γ) U') (fun d U'=> ∀V',Q (.panic d) ⟨V',U',df⟩)) [⟨some t,op,ty,pos,after,none⟩] ⟨U2,O,df⟩)(b6:decide (t<n)=true:=by exact tdR):
  MO P ro n ops N S0 Q df ((true,⟨some t,op,ty,pos,after,none⟩)::l) γ O:=
 mo_eff (o:=⟨some t,op,ty,pos,after,none⟩) b6 rfl rfl (h _ fun _ hx=>Bf (o:=⟨some t,op,ty,pos,after,none⟩) hx)
theorem In{U2:Fr}{s x:Operand}{T T':Nat}(hl:A5 γ (Aa [s,x])=some Sr)(hx:∀y∈((cA s x T T')).operands,ev U2 y=ev γ y):ev U2 s=ev Sr s/\ev U2 x=ev Sr x:=by
 obtain⟨e1,e2⟩:=jW hl;exact⟨by rw[hx s (by simp[Op.operands,Call.operands]),e1],by rw[hx x (by simp[Op.operands,Call.operands]),e2]⟩
theorem moAppC{s x:Operand}{T T' e e':Nat}{es new:eR}{l:List (Bool×Oper)}(h:∀i,O i=none->MO prog ro n ops N S0 Q df l ((t,.slice (es++new) (.tag i))::γ) (O.set i (.tail (tab e).size (es.length+new.length))))(hl:A5 γ (Aa [s,x])=some Sr:=by exact tdR)(hk:(tab T).k=.slice e:=by(simp<;>rfl))(b7:(tab T').k=.slice e':=by(simp<;>rfl))(he:A2 (tab e).k=false:=by simp)
  (h1:ev Sr s=.slice es .clip:=by exact tdR) (h2:k8 (ev Sr x)=some new:=by(simp<;>with_unfolding_all rfl)) (hne:new≠[]:=by first|assumption|(simp;done)|(simp[cI,cS,cII];assumption))
  (hlen:∀c∈es,c.length=(tab e).size:=by first|exact Ck _|exact E0 _|exact BX _|simp) (hlen':∀c∈new,c.length=(tab e).size:=by first|exact Ck _|exact E0 _|exact BX _|simp)
  (hb:(es.length+new.length)*(tab e).bytes<=140737488355328:=by first|(simp;done)|(simp;omega)) (hm:es.length+new.length<=9223372036854775807:=by first|(simp;done)|(simp;omega)) (b6:decide (t<n)=true:=by exact tdR) (hC:Sub S0 O:=by first|exact Sub.refl _|assumption) :
  MO prog ro n ops N S0 Q df ((true,⟨some t,(cA s x T T'),ty,pos,after,none⟩)::l) γ O:=
 mo1 (fun U2 hx=>by
  obtain⟨e1,e2⟩:=In hl hx
  exact Cj jB rfl (by simpa using b6) hk b7 he (by rw[e1];exact h1) (by rw[e2];exact h2) hne hlen hlen' hb hm (fun i hi=>AD ⟨rfl,by simp only[A8,bu];exact⟨hC.set (hC.none hi),h i hi⟩⟩)) b6
theorem moAppCW{s x:Operand}{T T' e e':Nat}{es new:eR}{l:List (Bool×Oper)}(h:∀i,O i=none->MO prog ro n ops N S0 Q df l ((t,.slice (es++new) .no)::γ) (O.set i (.tail (tab e).size (es.length+new.length))))(hl:A5 γ (Aa [s,x])=some Sr:=by exact tdR)(hk:(tab T).k=.slice e:=by(simp<;>rfl))(b7:(tab T').k=.slice e':=by(simp<;>rfl))(he:A2 (tab e).k=false:=by simp)
  (h1:ev Sr s=.slice es .clip:=by exact tdR) (h2:k8 (ev Sr x)=some new:=by(simp<;>with_unfolding_all rfl)) (hne:new≠[]:=by first|assumption|(simp;done)|(simp[cI,cS,cII];assumption))
  (hlen:∀c∈es,c.length=(tab e).size:=by first|exact Ck _|exact E0 _|exact BX _|simp) (hlen':∀c∈new,c.length=(tab e).size:=by first|exact Ck _|exact E0 _|exact BX _|simp)
  (hb:(es.length+new.length)*(tab e).bytes<=140737488355328:=by first|(simp;done)|(simp;omega)) (hm:es.length+new.length<=9223372036854775807:=by first|(simp;done)|(simp;omega)) (b6:decide (t<n)=true:=by exact tdR) (hC:Sub S0 O:=by first|exact Sub.refl _|assumption) :
  MO prog ro n ops N S0 Q df ((true,⟨some t,(cA s x T T'),ty,pos,after,none⟩)::l) γ O:=
 mo1 (fun U2 hx=>by
  obtain⟨e1,e2⟩:=In hl hx
  exact Cj jB rfl (by simpa using b6) hk b7 he (by rw[e1];exact h1) (by rw[e2];exact h2) hne hlen hlen' hb hm (fun i hi=>C9 (C0 (t:=t) (d:=.slice (es++new) .no) (by simp only[A8,bu];exact Cc _ _)) (AD ⟨rfl,by simp only[A8,bu];exact⟨hC.set (hC.none hi),h i hi⟩⟩))) b6
theorem moApp0{s x:Operand}{T T' e e':Nat}{es:eR}{l:List (Bool×Oper)}(h:MO prog ro n ops N S0 Q df l ((t,d)::γ) O)(hl:A5 γ (Aa [s,x])=some Sr:=by exact tdR)(hk:(tab T).k=.slice e:=by(simp<;>rfl))(b7:(tab T').k=.slice e':=by(simp<;>rfl))(he:A2 (tab e).k=false:=by simp)(hd:ev Sr s=d:=by exact tdR)
  (h1:k8 d=some es:=by exact tdR) (h2:k8 (ev Sr x)=some []:=by first|with_unfolding_all rfl|(simp_all;done)) (b6:decide (t<n)=true:=by exact tdR) (hC:Sub S0 O:=by first|exact Sub.refl _|assumption) :
  MO prog ro n ops N S0 Q df ((true,⟨some t,(cA s x T T'),ty,pos,after,none⟩)::l) γ O:=
 mo1 (fun U2 hx=>by
  obtain⟨e1,e2⟩:=In hl hx
  refine FI jB rfl (by simpa using b6) hk b7 he (by rw[e1,hd];exact h1) (by rw[e2];exact h2) (AD ⟨rfl,?_⟩)
  simp only[A8,bu,e1,hd]
  exact⟨hC,h⟩) b6
theorem MK{T:Nat}{z:eO}{l:List (Bool×Oper)}(h:∀i,O i=none->MO prog ro n ops N S0 Q df l ((t,.ptr i 0)::γ) (O.set i (.cells z)))(hk:A2 (tab T).k=false:=by simp)(hz:(tab T).zero=z:=by(simp<;>rfl))(b6:decide (t<n)=true:=by exact tdR)(hC:Sub S0 O:=by first|exact Sub.refl _|assumption):
  MO prog ro n ops N S0 Q df ((true,⟨some t,.alloc T,ty,pos,after,none⟩)::l) γ O:=by
 subst hz;exact mo1 (fun U2 hx=>Dx jB hk (by simpa using b6) (fun i hi=>AD ⟨rfl,by simp only[A8,bu];exact⟨hC.set (hC.none hi),h i hi⟩⟩)) b6
theorem moEffW{op:Op}(d':D){U':Sig}{l:List (Bool×Oper)}(h:MO prog ro n ops N S0 Q df l ((t,d')::γ) U')(hl:A5 γ (Aa op.operands.toList)=some Sr:=by exact tdR)(he:eopD tab Sr O op=some (d,U'):=by(simp(disch:=first|omega|assumption) [AA,big1,big2,w7]<;>first|rfl|(and_intros<;>rfl)|(and_intros<;>first|rfl|omega)))(hw:WkD d d':=by exact tdW)(b6:decide (t<n)=true:=by exact tdR)(hC:Sub S0 U':=by first|exact Sub.refl _|assumption|exact(Sub.refl _).set (by assumption)|exact((Sub.refl _).set (by assumption)).set (by assumption)):
  MO prog ro n ops N S0 Q df ((true,⟨some t,op,ty,pos,after,none⟩)::l) γ O:=
 mo1 (fun U2 hx=>by
  refine Gz jB rfl (by rw[BI (V':=γ) hx];exact(BI (CK hl)) ▸ he) b6 (C9 (C0 (t:=t) (d:=d') (by simp only[putD,A8,bu];exact hw)) (AD ⟨rfl,?_⟩))
  simp only[A8,bu]
  exact⟨hC,h⟩) b6
theorem OL{P:Program}{n:Nat}{γ:Fr}{O U':Sig}{df:List DDf}(hZ:Sub U' O):Wk P n ⟨γ,O,df⟩ ⟨γ,U',df⟩:=
 fun g w a hs=>⟨g,.refl g,⟨hs.sim.sub hZ,hs.tmps,hs.df⟩⟩
theorem drp{l:List Oper}(U':Sig)(h:au P ro n ops Q l ⟨γ,U',df⟩)(hZ:Sub U' O:=by first|exact Sub.refl _|(refine C1 ?_;simp;done)|assumption|exact(Sub.refl _).set (by assumption)):au P ro n ops Q l ⟨γ,O,df⟩:=C9 (OL hZ) h
theorem rtw{c:Code}(k:Nat)(d':D)(h:DWp P ro n c Q ⟨(k,d')::γ,O,df⟩)(hw:WkD (getD γ k) d':=by exact tdW):DWp P ro n c Q ⟨γ,O,df⟩:=FH (C0 hw) h
theorem appCW{s x:Operand}{T T' e e':Nat}{es new:eR}(h:∀i,O i=none->au prog ro n ops Q rest ⟨(t,.slice (es++new) .no)::γ,O.set i (.tail (tab e).size (es.length+new.length)),df⟩)(hl:A5 γ (Aa [s,x])=some Sr:=by exact tdR)(hk:(tab T).k=.slice e:=by(simp<;>rfl))(b7:(tab T').k=.slice e':=by(simp<;>rfl))(he:A2 (tab e).k=false:=by simp)
  (h1:ev Sr s=.slice es .clip:=by exact tdR) (h2:k8 (ev Sr x)=some new:=by(simp<;>with_unfolding_all rfl)) (hne:new≠[]:=by first|assumption|(simp;done)|(simp[cI,cS,cII];assumption))
  (hlen:∀c∈es,c.length=(tab e).size:=by first|exact Ck _|exact E0 _|exact BX _|simp) (hlen':∀c∈new,c.length=(tab e).size:=by first|exact Ck _|exact E0 _|exact BX _|simp)
  (hb:(es.length+new.length)*(tab e).bytes<=140737488355328:=by first|(simp;done)|(simp;omega)) (hm:es.length+new.length<=9223372036854775807:=by first|(simp;done)|(simp;omega)) (b6:decide (t<n)=true:=by exact tdR) :
  au prog ro n ops Q (⟨some t,(cA s x T T'),ty,pos,after,none⟩::rest) ⟨γ,O,df⟩:=by
 obtain⟨e1,e2⟩:=jW hl;exact Cj jB rfl (by simpa using b6) hk b7 he (by rw[<-e1];exact h1) (by rw[<-e2];exact h2) hne hlen hlen' hb hm (fun i hi=>C9 (C0 (t:=t) (d:=.slice (es++new) .no) (by simp only[A8,bu];exact Cc _ _)) (C9 (Rs fun k=>by simp only[A8];split<;>exact Ac _) (h i hi)))
theorem rtl{l:List Oper}(k:Nat)(d':D)(h:au P ro n ops Q l ⟨(k,d')::γ,O,df⟩)(hw:WkD (getD γ k) d':=by exact tdW):au P ro n ops Q l ⟨γ,O,df⟩:=C9 (C0 hw) h
theorem CH{lo:List Oper}{id:Nat}(ord E:eQ)(S0:Sig){lp:List (Bool×Oper)}{ol:Oper}(hC:Sub S0 O)(h:MO prog ro n lo.toArray 431 S0 (ka (fun s=>au prog ro n lo.toArray Q [ol] s) Q) df lp γ O)(hB:Jx lo.toArray E ord=true:=by kernel_rfl)(d5:nthO lo (lo.length-1)=some ol:=by exact tdR)(hl:GZ lo E ord=some lp:=by exact tdR):DWp prog ro n (.region id lo.toArray true) Q ⟨γ,O,df⟩:=
 PH Ao mixed ord E S0 hB d5 hC hl h
theorem yldW{fop:Operand}{args:Array Operand}{ats:Array TypeId}{l:Nat}{us:eO}{R:DE->Sig->Prop}{dst:Option Tmp}(h:kn P l us O R)(b9:∀d U',R (.ret d) U'->au P ro n ops Q rest ⟨putD dst d γ,U',df⟩)(c9:∀d U',R (.panic d) U'->Q (.panic d) ⟨γ,U',df⟩)
  (hl:A5 γ (Aa (fop::args.toList))=some Sr:=by exact tdR) (hf:ev Sr fop=.yld l:=by exact tdR) (ha:args.toList.map (ev Sr)=us:=by exact td0)
  (ho:Ax n ⟨dst,(cv fop args ats),ty,pos,after,none⟩=true:=by exact tdR) :
  au P ro n ops Q (⟨dst,(cv fop args ats),ty,pos,after,none⟩::rest) ⟨γ,O,df⟩:=by
 have hx:∀x∈fop::args.toList,ev Sr x=ev γ x:=fun x hx=>Bs fun t ht=>AB hl t (AL (by rw[<-ht];exact hx))
 refine R7 rfl (by rw[<-hx fop j1];exact hf) ?_ ho b9 c9;rw[show args.toList.map (ev γ)=args.toList.map (ev Sr) from ca fun x h=>(hx x (by simp[h])).symm,ha];exact h
end
def hitD(tab:Nat->Ty)(e:Nat)(c:Bool):Option (Option (Nat×D))->Option D
 |some (some (_,d))=>some (if c then .tup [d,.bool true] else d)
 |some none=>match IF (tab e)with
  |some z=>some (if c then .tup [z,.bool false] else z)
  |none=>none
 |none=>none
@[simp high] theorem lookupD_h {tab:Nat->Ty} {O:Sig} {c:Bool} {T e:Nat} {x d:D}:H1 tab O c (.map T e) x d=if A2 (tab e).k || !By (tab T).k d then none else match CS O x with
  |some l=>hitD tab e c (D3 (tab T).k d l 0)
  |none=>none:=by
 rw[SH]
 by_cases hc:(A2 (tab e).k||!By (tab T).k d)=true
 ·rw[aG hc,aG hc]
 ·rw[aE hc,aE hc];cases CS O x with
  |none=>rfl
  | some l =>
   cases h:D3 (tab T).k d l 0 with
   |none=>simp only[h];rfl
   |some r=>cases r with
    |none=>simp only[h];rfl
    |some p=>simp only[h];rfl
@[simp] theorem hitD_some(tab:Nat->Ty)(e i:Nat)(c:Bool)(d:D):hitD tab e c (some (some (i,d)))=some (if c then .tup [d,.bool true] else d):=rfl
def j6{α:Type}[DecidableEq α](k:α)(s:List α):List α:=if k∈s then s else s++[k]
def mem_ins{α:Type}[DecidableEq α]{k x:α}{s:List α}:x∈j6 k s ↔ x=k\/x∈s:=by
 unfold j6
 by_cases h:k∈s
 ·rw[aG h];exact⟨.inr,fun h'=>h'.elim (fun e=>e ▸ h) id⟩
 ·rw[aE h];simp[or_comm]
def getM{α β:Type}[DecidableEq α](z:β)(k:α):List (α×β)->β
 |[]=>z
 |(k',v)::r=>if k=k' then v else getM z k r
def hasM{α β:Type}[DecidableEq α](k:α):List (α×β)->Bool
 |[]=>false
 |(k',_)::r=>decide (k=k')||hasM k r
def jS{α β:Type}[DecidableEq α](k:α)(v:β):List (α×β)->List (α×β)
 |[]=>[(k,v)]
 |(k',v')::r=>if k=k' then(k,v)::r else(k',v')::jS k v r
def DA{α β:Type}[DecidableEq α](z:β)(k x:α)(v:β): ∀m:List (α×β),getM z x (jS k v m)=if x=k then v else getM z x m
 |[]=>by simp[jS,getM]
 | (k',v')::r=>by
  by_cases h:k=k'
  ·subst h;rw[jS,aG rfl,getM];by_cases hx:x=k<;>simp[hx,getM]
  ·rw[jS,aE h,getM,DA z k x v r]
   by_cases hx:x=k'
   ·rw[aG hx,aE (fun e=>h (e.symm.trans hx)),getM,aG hx]
   ·rw[aE hx,getM,aE hx]
def Ft{α β:Type}[DecidableEq α](k x:α)(v:β): ∀m:List (α×β),hasM x (jS k v m)=(decide (x=k)||hasM x m)
 |[]=>by simp[jS,hasM]
 | (k',v')::r=>by
  by_cases h:k=k'
  ·subst h;rw[jS,aG rfl,hasM,hasM];cases decide (x=k)<;>simp
  ·rw[jS,aE h,hasM,Ft k x v r,hasM];cases decide (x=k')<;>cases decide (x=k)<;>simp
section
def eM{α β:Type}(kf:α->D)(f:β->D)(m:List (α×β)):List (D×D):=m.map fun p=>(kf p.1,f p.2)
def eS{α:Type}(kf:α->D)(s:List α):List (D×D):=s.map fun k=>(kf k,.bool true)
structure KeyOK{α:Type}[DecidableEq α](kt:TyK)(kf:α->D):Prop where
 key:∀a b:α,keyB kt (kf a) (kf b)=some (decide (a=b))
def keyI:KeyOK (.int .i64) dI:=⟨fun a b=>by simp[keyB,H4]⟩
variable {α β:Type}[DecidableEq α]{kt:TyK}{kf:α->D}(hk:KeyOK kt kf)
include hk
theorem Ot(k:α): ∀(s:List α) (i:Nat),(k∈s->∃j,D3 kt (kf k) (eS kf s) i=some (some (i+j,.bool true))/\s[j]? = some k)/\(k∉s->D3 kt (kf k) (eS kf s) i=some none)
 |[],i=>by simp[eS,D3]
 | x::s,i=>by
  obtain⟨h1,h2⟩:=Ot k s (i+1);simp only[eS]at h1 h2;simp only[eS,bd,D3,hk.key]
  by_cases h:k=x
  ·subst h;simp only[eD];exact⟨fun _=>⟨0,rfl,rfl⟩,fun h=>absurd j1 h⟩
  ·have e:decide (k=x)=false:=by simp[h]
   simp only[e];refine⟨fun hm=>?_,fun hm=>h2 fun d7=>hm (by simp[d7])⟩;obtain⟨j,a,b⟩:=h1 ((aY.1 hm).resolve_left h);exact⟨j+1,by rw[a];congr 3;omega,by simpa using b⟩
theorem hit_eS{tab:Nat->Ty}{e:Nat}(hz:IF (tab e)=some (.bool false))(k:α)(s:List α):hitD tab e false (D3 kt (kf k) (eS kf s) 0)=some (.bool (decide (k∈s))):=by
 obtain⟨h1,h2⟩:=Ot hk k s 0
 by_cases h:k∈s
 ·obtain⟨j,a,_⟩:=h1 h;rw[a];simp[h]
 ·rw[h2 h];simp only[hitD,hz,bm,bc,h,decide_false]
theorem put_eS(k:α)(s:List α):Dt kt (kf k) (.bool true) (eS kf s)=some (eS kf (j6 k s)):=by
 obtain⟨h1,h2⟩:=Ot hk k s 0;unfold Dt j6
 by_cases h:k∈s
 ·obtain⟨j,a,b⟩:=h1 h;rw[a,aG h];simp only[co,bE];apply cD;intro i;rw[dP]
  by_cases hi:j=i
  ·subst hi;have d9:j<s.length:=(aV.1 b).1;have hb:s[j]=k:=by rw[aD d9]at b;exact Option.some.inj b
   simp[eS,d9,hb]
  ·rw[aE hi]
 ·rw[h2 h,aE h];simp[eS]
theorem JK(f:β->D)(k:α): ∀(m:List (α×β)) (i:Nat),(hasM k m=true->∃j v,D3 kt (kf k) (eM kf f m) i=some (some (i+j,f v))/\(∀z,getM z k m=v) /\ ∀w,(eM kf f m).set j (kf k,f w)=eM kf f (jS k w m)) /\
  (hasM k m=false->D3 kt (kf k) (eM kf f m) i=some none/\(∀z,getM z k m=z) /\ ∀w,eM kf f m++[(kf k,f w)]=eM kf f (jS k w m))
 |[],i=>by simp[eM,D3,hasM,getM,jS]
 | (x,y)::m,i=>by
  obtain⟨h1,h2⟩:=JK f k m (i+1);simp only[eM]at h1 h2;simp only[eM,bd,D3,hk.key,hasM]
  by_cases h:k=x
  ·subst h;simp only[eD,Bool.true_or];refine⟨fun _=>⟨0,y,rfl,fun z=>by simp[getM],fun w=>by simp[jS]⟩,fun h=>by cases h⟩
  ·have e:decide (k=x)=false:=by simp[h]
   simp only[e,cO];refine⟨fun hm=>?_,fun hm=>?_⟩
   ·obtain⟨j,v,a,b,c⟩:=h1 hm;refine⟨j+1,v,by rw[a];congr 3;omega,fun z=>by rw[getM,aE h];exact b z,fun w=>?_⟩;rw[jS,aE h,bd,dE,c w]
   ·obtain⟨a,b,c⟩:=h2 hm;refine⟨a,fun z=>by rw[getM,aE h];exact b z,fun w=>?_⟩;rw[jS,aE h,bd,bH,c w]
theorem XX{tab:Nat->Ty}{e:Nat}{z:β}{zd:D}(f:β->D)(hz:IF (tab e)=some zd)(k:α)(m:List (α×β)):hitD tab e false (D3 kt (kf k) (eM kf f m) 0)=some (if hasM k m then f (getM z k m) else zd):=by
 obtain⟨h1,h2⟩:=JK hk f k m 0;cases h:hasM k m with
 |true=>obtain⟨j,v,a,b,_⟩:=h1 h;rw[a,b z];simp
 |false=>obtain⟨a,b,_⟩:=h2 h;rw[a];simp only[hitD,hz,bm,bc]
theorem SU{tab:Nat->Ty}{e:Nat}{z:β}(f:β->D)(hz:IF (tab e)=some (f z))(k:α)(m:List (α×β)):hitD tab e false (D3 kt (kf k) (eM kf f m) 0)=some (f (getM z k m)):=by
 obtain⟨h1,h2⟩:=JK hk f k m 0;cases h:hasM k m with
 |true=>obtain⟨j,v,a,b,_⟩:=h1 h;rw[a,b z];simp
 |false=>obtain⟨a,b,_⟩:=h2 h;rw[a,b z];simp only[hitD,hz,bm,bc,bu]
theorem Pr{tab:Nat->Ty}{e:Nat}{z:β}(f:β->D)(hz:IF (tab e)=some (f z))(k:α)(m:List (α×β)):hitD tab e true (D3 kt (kf k) (eM kf f m) 0)=some (.tup [f (getM z k m),.bool (hasM k m)]):=by
 obtain⟨h1,h2⟩:=JK hk f k m 0;cases h:hasM k m with
 |true=>obtain⟨j,v,a,b,_⟩:=h1 h;rw[a,b z];simp
 |false=>obtain⟨a,b,_⟩:=h2 h;rw[a,b z];simp only[hitD,hz,bm,bc,bu]
theorem P5(f:β->D)(k:α)(v:β)(m:List (α×β)):Dt kt (kf k) (f v) (eM kf f m)=some (eM kf f (jS k v m)):=by
 obtain⟨h1,h2⟩:=JK hk f k m 0;unfold Dt;cases h:hasM k m with
 |true=>obtain⟨j,w,a,_,c⟩:=h1 h;rw[a];simp only[co];rw[c v]
 |false=>obtain⟨a,_,c⟩:=h2 h;rw[a];simp only;rw[c v]
end
def eSI(s:eP):List (D×D):=eS dI s
def eIN(m:List (Int×Int)):List (D×D):=eM dI dI m
@[simp] theorem hitI4(k:Int)(s:eP):hitD tab 4 false (D3 (.int .i64) (.int .i64 k) (eSI s) 0)=some (.bool (decide (k∈s))):=hit_eS keyI rfl k s
@[simp] theorem putI4(k:Int)(s:eP):Dt (.int .i64) (.int .i64 k) (.bool true) (eSI s)=some (eSI (j6 k s)):=put_eS keyI k s
@[simp] theorem hitINok(k:Int)(m:List (Int×Int)):hitD tab 3 true (D3 (.int .i64) (.int .i64 k) (eIN m) 0)=some (.tup [.int .i64 (getM 0 k m),.bool (hasM k m)]):=Pr keyI dI rfl k m
@[simp] theorem putIN(k v:Int)(m:List (Int×Int)):Dt (.int .i64) (.int .i64 k) (.int .i64 v) (eIN m)=some (eIN (jS k v m)):=P5 keyI dI k v m
def eIO(m:List (Int×eP)):List (D×D):=eM dI (fun l=>sl (cI l)) m
@[simp] theorem putIO(k:Int)(v:eP)(m:List (Int×eP)):Dt (.int .i64) (.int .i64 k) (sl (cI v)) (eIO m)=some (eIO (jS k v m)):=P5 keyI (fun l=>sl (cI l)) k v m
def Wu(k:Int)(m:List (Int×eP)):hitD tab 23 false (D3 (.int .i64) (.int .i64 k) (eIO m) 0)=some (if hasM k m then sl (cI (getM [] k m)) else .aj):=XX keyI _ rfl k m
section
variable {P:Program}{ro:Ro}{n:Nat}{Q:DX->St->Prop}{df:List DDf}{γ:List (Nat×D)}{O:Sig}
theorem Qt{Sk:Fr}{α β δ ε:Type}{c:Code}(keep:eQ)(I:α->β->δ->ε->Prop)(ov:α->β->δ->ε->Fr)(sg:α->β->δ->ε->Sig)(μ:α->β->δ->ε->Nat)(x0:α)(y0:β)(z0:δ)(u0:ε)(h0:I x0 y0 z0 u0)
  (round:∀x y z u,I x y z u->DWp P ro n c (ka (fun s'=> ∃x' y' z' u',I x' y' z' u'/\μ x' y' z' u'<μ x y z u/\Wk P n s' ⟨ov x' y' z' u'++Sk,sg x' y' z' u',df⟩) Q) ⟨ov x y z u++Sk,sg x y z u,df⟩) (hk:DV γ keep=some Sk:=by exact tdR) (h1:jr γ (ov x0 y0 z0 u0++Sk):=by(first|refine FQ ?_ ?_|skip)<;>(repeat' first|exact FP|refine EO tdR ?_ ?_|(first|exact Ac _|exact Cc _ _|exact Ak _ (.inl rfl)|exact EK _|(refine HY _ ?_;first|omega|(simp;done)|(simp;omega))|(refine Cb ?_;(simp;done))|(refine Cb ?_;(simp[cI,cS,cII,EJ,Fa,GD];done))|(refine DC _ ?_;(simp[cI,cS,cII];done))|(refine Cb ?_;(simp_all;done))|assumption))) (h2:Sub (sg x0 y0 z0 u0) O:=by first|exact Sub.refl _|(refine C1 ?_;simp;done)|assumption|exact(Sub.refl _).set (by assumption)):DWp P ro n (.loop c) Q ⟨γ,O,df⟩:=by
 refine F8 (α:=α×β×δ×ε) keep (fun x=>I x.1 x.2.1 x.2.2.1 x.2.2.2) (fun x=>ov x.1 x.2.1 x.2.2.1 x.2.2.2) (fun x=>sg x.1 x.2.1 x.2.2.1 x.2.2.2) (fun x=>μ x.1 x.2.1 x.2.2.1 x.2.2.2) (x0,y0,z0,u0) hk h0 h1 h2 fun x hx=>EH (round x.1 x.2.1 x.2.2.1 x.2.2.2 hx) ?_;intro e s h;cases e with
 |normal=>obtain⟨x',y',z',u',h3,h4,h5⟩:=h;exact⟨(x',y',z',u'),h3,h4,h5⟩
 |_=>exact h
theorem loop5{Sk:Fr}{α β δ ε ζ:Type}{c:Code}(keep:eQ)(I:α->β->δ->ε->ζ->Prop)(ov:α->β->δ->ε->ζ->Fr)(sg:α->β->δ->ε->ζ->Sig)(μ:α->β->δ->ε->ζ->Nat)(x0:α)(y0:β)(z0:δ)(u0:ε)(v0:ζ)(h0:I x0 y0 z0 u0 v0)
  (round:∀x y z u v,I x y z u v->DWp P ro n c (ka (fun s'=> ∃x' y' z' u' v',I x' y' z' u' v'/\μ x' y' z' u' v'<μ x y z u v/\Wk P n s' ⟨ov x' y' z' u' v'++Sk,sg x' y' z' u' v',df⟩) Q) ⟨ov x y z u v++Sk,sg x y z u v,df⟩) (hk:DV γ keep=some Sk:=by exact tdR) (h1:jr γ (ov x0 y0 z0 u0 v0++Sk):=by(first|refine FQ ?_ ?_|skip)<;>(repeat' first|exact FP|refine EO tdR ?_ ?_|(first|exact Ac _|exact Cc _ _|exact Ak _ (.inl rfl)|exact EK _|(refine HY _ ?_;first|omega|(simp;done)|(simp;omega))|(refine Cb ?_;(simp;done))|(refine Cb ?_;(simp[cI,cS,cII,EJ,Fa,GD];done))|(refine DC _ ?_;(simp[cI,cS,cII];done))|(refine Cb ?_;(simp_all;done))|assumption))) (h2:Sub (sg x0 y0 z0 u0 v0) O:=by first|exact Sub.refl _|(refine C1 ?_;simp;done)|assumption|exact(Sub.refl _).set (by assumption)):DWp P ro n (.loop c) Q ⟨γ,O,df⟩:=by
 refine F8 (α:=α×β×δ×ε×ζ) keep (fun x=>I x.1 x.2.1 x.2.2.1 x.2.2.2.1 x.2.2.2.2) (fun x=>ov x.1 x.2.1 x.2.2.1 x.2.2.2.1 x.2.2.2.2) (fun x=>sg x.1 x.2.1 x.2.2.1 x.2.2.2.1 x.2.2.2.2) (fun x=>μ x.1 x.2.1 x.2.2.1 x.2.2.2.1 x.2.2.2.2) (x0,y0,z0,u0,v0) hk h0 h1 h2 fun x hx=>EH (round x.1 x.2.1 x.2.2.1 x.2.2.2.1 x.2.2.2.2 hx) ?_;intro e s h;cases e with
 |normal=>obtain⟨x',y',z',u',v',h3,h4,h5⟩:=h;exact⟨(x',y',z',u',v'),h3,h4,h5⟩
 |_=>exact h
variable {ops:Array Oper}{rest:List Oper}{Sr:List (Nat×D)}{t:Nat}{ty:TypeId}{pos:String}{after:Array Edge}
theorem newSI{T:Nat}(h:∀i,O i=none->au prog ro n ops Q rest ⟨(t,.map i)::γ,O.set i (.map (eSI [])),df⟩)(b6:decide (t<n)=true:=by exact tdR):au prog ro n ops Q (⟨some t,.makeMap T none,ty,pos,after,none⟩::rest) ⟨γ,O,df⟩:=newM h b6
theorem newIN{T:Nat}(h:∀i,O i=none->au prog ro n ops Q rest ⟨(t,.map i)::γ,O.set i (.map (eIN [])),df⟩)(b6:decide (t<n)=true:=by exact tdR):au prog ro n ops Q (⟨some t,.makeMap T none,ty,pos,after,none⟩::rest) ⟨γ,O,df⟩:=newM h b6
theorem newIO{T:Nat}(h:∀i,O i=none->au prog ro n ops Q rest ⟨(t,.map i)::γ,O.set i (.map (eIO [])),df⟩)(b6:decide (t<n)=true:=by exact tdR):au prog ro n ops Q (⟨some t,.makeMap T none,ty,pos,after,none⟩::rest) ⟨γ,O,df⟩:=newM h b6
theorem lkO{x y:Operand}{i:Nat}{k:Int}{m:List (Int×eP)}(h:au prog ro n ops Q rest ⟨(t,sl (cI (getM [] k m)))::γ,O,df⟩)(hi:O i=some (.map (eIO m)):=by first|assumption|(simp;done))
  (hl:A5 γ (Aa [x,y])=some Sr:=by exact tdR) (hx:ev Sr x=.map i:=by exact tdR) (hy:ev Sr y=dI k:=by exact tdR) (b6:decide (t<n)=true:=by exact tdR) :
  au prog ro n ops Q (⟨some t,.lookup 354 x y false,ty,pos,after,none⟩::rest) ⟨γ,O,df⟩:=by
 refine Je (d:=if hasM k m then sl (cI (getM [] k m)) else .aj) jB rfl b6 hl ?_ ?_
 ·simp only[dopX_lk,hx,hy];simp[hi,Wu]
 ·refine C9 (C0 (t:=t) (d:=sl (cI (getM [] k m))) ?_) (Cn (γ:=(t,sl (cI (getM [] k m)))::γ) (fun j=>?_) h)
  ·rw [A8,aG rfl];cases hh:hasM k m with
   |true=>exact Ac _
   | false =>
    have:getM [] k m=[]:=by
     have key:∀m:List (Int×eP),hasM k m=false->getM [] k m=[]:=fun m=>by
      induction m with
      |nil=>intro _;rfl
      |cons p m ih=>
       intro h;simp only[hasM,eg,bh]at h;rw[getM,aE h.1];exact ih h.2
     exact key m hh
    rw[this];exact Ak _ (.inl rfl)
  ·simp only[A8];split<;>rfl
end
def mS_at{O:Sig}{i sz:Nat}{X:jP}{st:MR}{es:eR}(h:mOK (O.set i X) sz st es):(∀Y,mOK (O.set i Y) sz st es)/\(∀Y,mS (O.set i Y) st es i=some Y) /\ ∀Y Z,(mS (O.set i Y) st es).set i Z=mS (O.set i Z) st es:=by
 cases st with
 |none=>exact⟨fun Y=>h,fun Y=>w6 .., fun Y Z=>w8 ..⟩
 |some x=>
  obtain⟨k,cap,r⟩:=x;obtain⟨h1,h2,h3,h4⟩:=h;have d6:k≠i:=fun e=>by rw[e,w6]at h1;cases h1
  rw[w7 _ _ d6]at h1;refine⟨fun Y=>⟨j2 d6 h1,h2,h3,h4⟩,fun Y=>?_,fun Y Z=>?_⟩
  ·simp only[mS];rw[w7 _ _ (cg d6),w6]
  ·simp only[mS];rw[Sig.set_comm _ _ _ (cg d6),w8];exact Sig.set_comm _ _ _ d6 |>.symm ▸ rfl
def Vw(a b:eP):cI a++cI b=cI (a++b):=by simp[cI]
section
variable {ro:Ro}{n:Nat}{Q:DX->St->Prop}{df:List DDf}{γ Sr:List (Nat×D)}{O:Sig}{ops:Array Oper}{rest:List Oper}{t:Nat}{ty:TypeId}{pos:String}{after:Array Edge}
theorem mappI{T T' e e':Nat}{s x:Operand}{l m:eP}{st:MR}(h:∀st',mOK O 1 st' (cI (l++m))->au prog ro n ops Q rest ⟨(t,mD st' (l++m).length)::γ,mS O st' (cI (l++m)),df⟩)(hm:mOK O 1 st (cI l):=by assumption)
  (hl:A5 γ (Aa [s,x])=some Sr:=by exact tdR) (hk:(tab T).k=.slice e:=by(simp<;>rfl)) (b7:(tab T').k=.slice e':=by(simp<;>rfl)) (he:A2 (tab e).k=false:=by simp) (hsz:(tab e).size=1:=by simp)
  (h1:ev Sr s=mD st l.length:=by exact tdR) (h2:k8 (ev Sr x)=some (cI m):=by(simp<;>with_unfolding_all rfl))
  (hb:(l.length+m.length)*(tab e).bytes<=140737488355328:=by first|(simp;done)|(simp;omega)) (hm2:l.length+m.length<=9223372036854775807:=by omega) (b6:decide (t<n)=true:=by exact tdR) :
  au prog ro n ops Q (⟨some t,(cA s x T T'),ty,pos,after,none⟩::rest) ⟨γ,mS O st (cI l),df⟩:=by
 refine mapp (fun st' d7=>?_) hm hl hk b7 he hsz (by rw[h1,K7]) h2 (Ck _) (by simp[cI,C6,D.flat]) (by simpa using hb) ?_ b6
 ·rw[Vw]at d7⊢;rw[K7,K7,<-aC];exact h st' d7
 ·simpa using hm2
end
structure ShlOf(k:IntKind)(a b:Int) where
 val:Int
 is:val=k.wrap (a*2 ^ (min b.toNat k.bits))
def shlI(k:IntKind)(a b:Int):ShlOf k a b:=⟨_,rfl⟩
def PV(k k':IntKind)(a b:Int)(h:0<=b):binD .shl (.int k a) (.int k' b)=some (.int k (shlI k a b).val):=by
 rw[(shlI k a b).is];simp only[binD,h,bu]
class Ans(f:Nat)(us:eO)(O:Sig)(H:outParam Prop)(d:outParam D):Prop where
 call:H->ar prog f us O (rS d O)
class Giv(f:Nat)(us:eO)(O:Sig)(H:outParam Prop)(c:outParam Bool)(d u:outParam D):Prop where
 call:H->ar prog f us O fun x U'=>x=(if c then .ret d else .panic u)/\U'=O
theorem ah0{f:Nat}{us:eO}{O:Sig}{d:D}(h:ar prog f us O (rS d O)):Ans f us O (True) d:=⟨fun _=>h⟩
theorem ah1{f:Nat}{us:eO}{O:Sig}{d:D}{p:Prop}(h:p->ar prog f us O (rS d O)):Ans f us O (p) d:=⟨fun p=>h p⟩
theorem ah2{f:Nat}{us:eO}{O:Sig}{d:D}{p q:Prop}(h:p->q->ar prog f us O (rS d O)):Ans f us O (p/\q) d:=⟨fun ⟨p,q⟩=>h p q⟩
theorem ah3{f:Nat}{us:eO}{O:Sig}{d:D}{p q r:Prop}(h:p->q->r->ar prog f us O (rS d O)):Ans f us O (p/\q/\r) d:=⟨fun ⟨p,q,r⟩=>h p q r⟩
theorem ah4{f:Nat}{us:eO}{O:Sig}{d:D}{p q r s:Prop}(h:p->q->r->s->ar prog f us O (rS d O)):Ans f us O (p/\q/\r/\s) d:=⟨fun ⟨p,q,r,s⟩=>h p q r s⟩
theorem gh0{f:Nat}{us:eO}{O:Sig}{c:Bool}{d u:D}(h:ar prog f us O fun x U'=>x=(if c then .ret d else .panic u)/\U'=O):Giv f us O (True) c d u:=⟨fun _=>h⟩
theorem gh1{f:Nat}{us:eO}{O:Sig}{c:Bool}{d u:D}{p:Prop}(h:p->ar prog f us O fun x U'=>x=(if c then .ret d else .panic u)/\U'=O):Giv f us O (p) c d u:=⟨fun p=>h p⟩
theorem gh4{f:Nat}{us:eO}{O:Sig}{c:Bool}{d u:D}{p q r s:Prop}(h:p->q->r->s->ar prog f us O fun x U'=>x=(if c then .ret d else .panic u)/\U'=O):Giv f us O (p/\q/\r/\s) c d u:=⟨fun ⟨p,q,r,s⟩=>h p q r s⟩
class ky(b:Bool)(p q:outParam Prop):Prop where
 yes:b=true->p
 no:b=false->q
instance (priority:=low) boolIs (b:Bool):ky b (b=true) (b=false):=⟨id,id⟩
instance (priority:=high) boolIs_t:ky true True False:=⟨fun _=>trivial,(fun h=>by cases h)⟩
instance (priority:=high) boolIs_f:ky false False True:=⟨(fun h=>by cases h),fun _=>trivial⟩
instance boolIs_dec(p:Prop)[inst:Decidable p]:ky (decide p) p (¬p):=⟨cY,of_decide_eq_false⟩
instance boolIs_not(b:Bool)(p q:Prop)[h:ky b p q]:ky (!b) q p:=⟨fun e=>h.no (by cases b<;>simp_all),fun e=>h.yes (by cases b<;>simp_all)⟩
inductive l9(b:Bool):Prop
 |mk
structure Two(A B:Prop):Prop where
 a:A
 b:B
class T2(p q A B:Prop)(C:outParam Prop):Prop where
 to:C->(p->A)/\(q->B)
instance (priority:=low) t2_two (p q A B:Prop):T2 p q A B (Two (p->A) (q->B)):=⟨fun h=>⟨h.a,h.b⟩⟩
instance (priority:=high) t2_a (A B:Prop):T2 True False A B A:=⟨fun h=>⟨fun _=>h,False.elim⟩⟩
instance (priority:=high) t2_b (A B:Prop):T2 False True A B B:=⟨fun h=>⟨False.elim,fun _=>h⟩⟩
def sd{p:Prop}(h:p:=by first|assumption|omega|simp):p:=h
def tdH{p:Prop}(h:p:=by(and_intros<;>first|trivial|assumption|omega|(simp;done)|(simp;omega))):p:=h
def tdS{F p:Prop}(fx:Hold F)(h:Hold F->p:=by intro fx;simp(disch:=first|omega|assumption) [AA,big1,big2,w7,DP,CN,DO,CM,DQ,DN,CF,BM,CE,BL,CG,CD,G9,fx.get]<;>(try simp only[BB,BC,Bb,BA,AV,Be,Bd,Bc,Ba,AU,B9,B8,B7])<;>first|rfl|(and_intros<;>rfl)):p:=h fx
def tdE{F p:Prop}(fx:Hold F)(h:Hold F->p:=by intro fx;simp(disch:=first|omega|assumption) [AA,big1,big2,w7,DP,CN,DO,CM,DQ,DN,CF,BM,CE,BL,CG,CD,G9,fx.get]<;>first|rfl|(and_intros<;>rfl)):p:=h fx
def tdC{F p:Prop}(fx:Hold F)(h:Hold F->p:=by intro fx;simp(disch:=first|omega|assumption) [AA,big1,big2,w7,DP,CN,DO,CM,DQ,DN,CF,BM,CE,BL,CG,CD,G9,fx.get]<;>fail):p:=h fx
def tdF{p:Prop}(h:p:=by simp<;>(try simp only[BB,BC,Bb,BA,AV,Be,Bd,Bc,Ba,AU,B9,B8,B7])<;>rfl):p:=h
def litT:l9 true:=.mk
def litF:l9 false:=.mk
section
variable {P:Program}{ro:Ro}{n:Nat}{ops:Array Oper}{N:Nat}{S0:Sig}{Q:DX->St->Prop}{df:List DDf}{rest:List Oper}{γ Sr:List (Nat×D)}{O:Sig}{t:Nat}{ty:TypeId}{pos:String}{after:Array Edge}{l:List (Bool×Oper)}{d:D}
theorem HU{fop:Operand}{args:Array Operand}{ats:Array TypeId}{f:Nat}{first cap us:eO}{H:Prop}(k1:au prog ro n ops Q rest ⟨(t,d)::γ,O,df⟩)(hl:A5 γ (Aa (fop::args.toList))=some Sr:=by exact tdR)(hf:ev Sr fop=.func (.func f) first cap:=by exact tdR)(ha:first++args.toList.map (ev Sr)++cap=us:=by exact td0)(hs:Ans f us O H d:=by infer_instance)(hH:H:=by exact tdH)(b6:decide (t<n)=true:=by exact tdR):au prog ro n ops Q (⟨some t,(cv fop args ats),ty,pos,after,none⟩::rest) ⟨γ,O,df⟩:=KG hl hf ha (.inl rfl) (hs.call hH) b6 k1
theorem callIRG{fop:Operand}{args:Array Operand}{ats:Array TypeId}{f:Nat}{first cap us:eO}{j:Nat}{want:Bool}{k:Nat}{H:Prop}(k1:au prog ro n ops Q rest ⟨(t,d)::γ,O,df⟩)(hk:(ops[j]?).bind (·.dst)=some k:=by exact tdR)(hb:γ.lookup k=some (.bool want):=by exact tdR)(hl:A5 γ (Aa (fop::args.toList))=some Sr:=by exact tdR)(hf:ev Sr fop=.func (.func f) first cap:=by exact tdR)(ha:first++args.toList.map (ev Sr)++cap=us:=by exact td0)(hs:Ans f us O H d:=by infer_instance)(hH:H:=by exact tdH)(b6:decide (t<n)=true:=by exact tdR):au prog ro n ops Q (⟨some t,(cv fop args ats),ty,pos,after,some (j,want)⟩::rest) ⟨γ,O,df⟩:=Jf hk hb hl hf ha (.inl rfl) (hs.call hH) b6 k1
theorem moIR{fop:Operand}{args:Array Operand}{ats:Array TypeId}{f:Nat}{first cap us:eO}{H:Prop}{l:List (Bool×Oper)}(k1:MO prog ro n ops N S0 Q df l ((t,d)::γ) O)(hl:A5 γ (Aa (fop::args.toList))=some Sr:=by exact tdR)(hf:ev Sr fop=.func (.func f) first cap:=by exact tdR)(ha:first++args.toList.map (ev Sr)++cap=us:=by exact td0)(hs:Ans f us O H d:=by infer_instance)(hH:H:=by exact tdH)(hC:Sub S0 O:=by first|exact Sub.refl _|assumption)(b6:decide (t<n)=true:=by exact tdR):MO prog ro n ops N S0 Q df ((true,⟨some t,(cv fop args ats),ty,pos,after,none⟩)::l) γ O:=We hl hf ha (.inl rfl) (hs.call hH) b6 hC k1
theorem moIRG{fop:Operand}{args:Array Operand}{ats:Array TypeId}{f:Nat}{first cap us:eO}{j:Nat}{want:Bool}{k:Nat}{H:Prop}{l:List (Bool×Oper)}(k1:MO prog ro n ops N S0 Q df l ((t,d)::γ) O)(hk:(ops[j]?).bind (·.dst)=some k:=by exact tdR)(hb:γ.lookup k=some (.bool want):=by exact tdR)(hl:A5 γ (Aa (fop::args.toList))=some Sr:=by exact tdR)(hf:ev Sr fop=.func (.func f) first cap:=by exact tdR)(ha:first++args.toList.map (ev Sr)++cap=us:=by exact td0)(hs:Ans f us O H d:=by infer_instance)(hH:H:=by exact tdH)(hC:Sub S0 O:=by first|exact Sub.refl _|assumption)(b6:decide (t<n)=true:=by exact tdR):MO prog ro n ops N S0 Q df ((true,⟨some t,(cv fop args ats),ty,pos,after,some (j,want)⟩)::l) γ O:=MJ hk hb hl hf ha (.inl rfl) (hs.call hH) b6 hC k1
theorem needIR{fop:Operand}{args:Array Operand}{ats:Array TypeId}{f:Nat}{first cap us:eO}{H p q:Prop}{b b':Bool}{u d:D}{dst:Option Tmp}{C:Prop}(kc:C)(hl:A5 γ (Aa (fop::args.toList))=some Sr:=by exact tdR)(hf:ev Sr fop=.func (.func f) first cap:=by exact tdR)(ha:first++args.toList.map (ev Sr)++cap=us:=by exact td0)(hs:Giv f us O H b d u:=by infer_instance)(he:b=b':=by first|assumption|exact rfl)(b8:ky b' p q:=by infer_instance)(hz:T2 p q (au prog ro n ops Q rest ⟨putD dst d γ,O,df⟩) (Q (.panic u) ⟨γ,O,df⟩) C:=by infer_instance)(hH:H:=by exact tdH)(ho:Ax n ⟨dst,(cv fop args ats),ty,pos,after,none⟩=true:=by exact tdR):au prog ro n ops Q (⟨dst,(cv fop args ats),ty,pos,after,none⟩::rest) ⟨γ,O,df⟩:=needR (hs.call hH) (fun h=>(hz.to kc).1 (b8.yes (he.symm.trans h))) (fun h=>(hz.to kc).2 (b8.no (he.symm.trans h))) (hl:=hl) (hf:=hf) (ha:=ha) (hp:=rfl) (ho:=ho)
theorem cndX{c:Nat}{x y:Code}{b:Bool}{p q C:Prop}(kc:C)(hl:γ.lookup c=some (.bool b):=by exact tdR)(d8:l9 b:=by((fail_if_success (with_reducible exact litT));(fail_if_success (with_reducible exact litF));exact l9.mk))(b8:ky b p q:=by infer_instance)(hz:T2 p q (DWp P ro n x Q ⟨(c,.bool true)::γ,O,df⟩) (DWp P ro n y Q ⟨(c,.bool false)::γ,O,df⟩) C:=by infer_instance):DWp P ro n (.cond (.tmp c) x y) Q ⟨γ,O,df⟩:=cndB (fun h=>(hz.to kc).1 (b8.yes h)) (fun h=>(hz.to kc).2 (b8.no h)) hl
theorem splX{dst:Option Tmp}{op:Op}{j:Nat}{want:Bool}{k:Nat}{b:Bool}{p q C:Prop}(kc:C)(hk:(ops[j]?).bind (·.dst)=some k:=by exact tdR)(hb:γ.lookup k=some (.bool b):=by exact tdR)(d8:l9 b:=by((fail_if_success (with_reducible exact litT));(fail_if_success (with_reducible exact litF));exact l9.mk))(b8:ky b p q:=by infer_instance)(hz:T2 p q (au P ro n ops Q (⟨dst,op,ty,pos,after,some (j,want)⟩::rest) ⟨(k,.bool true)::γ,O,df⟩) (au P ro n ops Q (⟨dst,op,ty,pos,after,some (j,want)⟩::rest) ⟨(k,.bool false)::γ,O,df⟩) C:=by infer_instance):au P ro n ops Q (⟨dst,op,ty,pos,after,some (j,want)⟩::rest) ⟨γ,O,df⟩:=Qc hk hb (fun h=>(hz.to kc).1 (b8.yes h)) (fun h=>(hz.to kc).2 (b8.no h))
theorem moSX{e:Bool}{l:List (Bool×Oper)}{dst:Option Tmp}{op:Op}{j:Nat}{want:Bool}{k:Nat}{b:Bool}{p q C:Prop}(kc:C)(hk:(ops[j]?).bind (·.dst)=some k:=by exact tdR)(hb:γ.lookup k=some (.bool b):=by exact tdR)(d8:l9 b:=by((fail_if_success (with_reducible exact litT));(fail_if_success (with_reducible exact litF));exact l9.mk))(b8:ky b p q:=by infer_instance)(hz:T2 p q (MO P ro n ops N S0 Q df ((e,⟨dst,op,ty,pos,after,some (j,want)⟩)::l) ((k,.bool true)::γ) O) (MO P ro n ops N S0 Q df ((e,⟨dst,op,ty,pos,after,some (j,want)⟩)::l) ((k,.bool false)::γ) O) C:=by infer_instance):MO P ro n ops N S0 Q df ((e,⟨dst,op,ty,pos,after,some (j,want)⟩)::l) γ O:=Wd hk hb (fun h=>(hz.to kc).1 (b8.yes h)) (fun h=>(hz.to kc).2 (b8.no h))
end
abbrev OT:=List (Nat×Bool×List (Nat×Nat)×eQ)
def runO:List (Nat×Nat)->eQ
 |[]=>[]
 |(a,k)::r=>List.range' a k++runO r
def lookO(i:Nat):OT->Option (eQ×eQ)
 |[]=>none
 |(j,_,o,e)::r=>if i==j then some (runO o,e) else lookO i r
def XS(i:Nat):OT->Option (eQ×eQ)
 |[]=>none
 |(j,b,o,e)::r=>if i==j&&b then some ((runO o).dropLast,e.filter fun x=>x+1 != (runO o).length) else XS i r
structure Tab(t:OT):Prop
def ji(i:Nat)(t:OT):OT:=t.filter fun x=>x.1 != i
section
variable {P:Program}{ro:Ro}{n:Nat}{Q:DX->St->Prop}{df:List DDf}{γ:List (Nat×D)}{O:Sig}
theorem mixX{lo:List Oper}{id:Nat}{tb:OT}(_:Tab tb){ord E:eQ}{lp:List (Bool×Oper)}(h:MO prog ro n lo.toArray 431 O Q df lp γ O)(hk:lookO id tb=some (ord,E):=by exact tdR)(hB:FE lo.toArray E ord=true:=by kernel_rfl)(hl:GZ lo E ord=some lp:=by exact tdR):DWp prog ro n (.region id lo.toArray true) Q ⟨γ,O,df⟩:=mix ord E h hB hl
theorem mixY{lo:List Oper}{id:Nat}{tb:OT}(_:Tab tb){ord E:eQ}{lp:List (Bool×Oper)}{ol:Oper}(h:MO prog ro n lo.toArray 431 O (ka (fun s=>au prog ro n lo.toArray Q [ol] s) Q) df lp γ O)(hk:XS id tb=some (ord,E):=by exact tdR)(hB:Jx lo.toArray E ord=true:=by kernel_rfl)(d5:nthO lo (lo.length-1)=some ol:=by exact tdR)(hl:GZ lo E ord=some lp:=by exact tdR):DWp prog ro n (.region id lo.toArray true) Q ⟨γ,O,df⟩:=mixL ord E h hB d5 hl
end
def walkQ{F G' G:Prop}{tb:OT}{vars:eQ} (hs:l7 vars->Hold F->Tab tb->Hold G'->G:=by
 intro hv fx tb hG
 repeat1' (first
  |(with_reducible first|refine Ja ?_|refine Mq ?_|refine OS ?_|refine Kz ?_|refine L5 ?_|refine Pp ?_|refine XW (by decide) ?_|refine ST ?_|refine MY ?_|refine M8 ?_|refine NE ?_|refine PF ?_|refine PJ ?_|refine Vb ?_|refine AD ?_|refine IU ?_|refine XO ?_)
  |((with_reducible refine Je (d:=?_) (Sr:=?_) jB ?h1 ?h2 ?hl ?hd ?_);(case h1=>rfl);(case h2=>rfl);(case hl=>rfl);(case hd=>exact tdS fx))
  |((with_reducible refine KC (d:=?_) (k:=?_) (Sr:=?_) jB ?h1 ?h2 ?hk ?hb ?hl ?hd ?_);(case h1=>rfl);(case h2=>rfl);(case hk=>rfl);(case hb=>rfl);(case hl=>rfl);(case hd=>exact tdS fx))
  |((with_reducible refine step_read0 (d:=?_) (Sr:=?_) jB ?h1 ?hl ?hd ?_);(case h1=>rfl);(case hl=>rfl);(case hd=>exact tdS fx))
  |((with_reducible refine Ok (d:=?_) (Sr:=?_) jB ?h1 ?h2 ?hl ?hd ?_);(case h1=>rfl);(case h2=>rfl);(case hl=>rfl);(case hd=>exact tdS fx))
  |((with_reducible refine Pb (d:=?_) (k:=?_) (Sr:=?_) jB ?h1 ?h2 ?hk ?hb ?hl ?hd ?_);(case h1=>rfl);(case h2=>rfl);(case hk=>rfl);(case hb=>rfl);(case hl=>rfl);(case hd=>exact tdS fx))
  |((with_reducible refine mo_read0 (d:=?_) (Sr:=?_) jB ?h1 ?hl ?hd ?_);(case h1=>rfl);(case hl=>rfl);(case hd=>exact tdS fx))
  |((with_reducible refine Mu (k:=?_) Ao ?hk ?hb ?h1 ?h2 ?_);(case hk=>rfl);(case hb=>rfl);(case h1=>rfl);(case h2=>rfl))
  |((with_reducible refine KB (k:=?_) Ao ?hk ?hb ?h1 ?h2 ?_);(case hk=>rfl);(case hb=>rfl);(case h1=>rfl);(case h2=>rfl))
  |((with_reducible refine step_skip0 (k:=?_) Ao ?hk ?hb ?h1 ?_);(case hk=>rfl);(case hb=>rfl);(case h1=>rfl))
  |((with_reducible refine step_skipU0 (k:=?_) Ao ?hk ?hb ?h1 ?_);(case hk=>rfl);(case hb=>rfl);(case h1=>rfl))
  |((with_reducible refine Pa (k:=?_) ?hk ?hb ?h1 ?h2 ?_);(case hk=>rfl);(case hb=>rfl);(case h1=>rfl);(case h2=>rfl))
  |((with_reducible refine P9 (k:=?_) ?hk ?hb ?h1 ?h2 ?_);(case hk=>rfl);(case hb=>rfl);(case h1=>rfl);(case h2=>rfl))
  |((with_reducible refine mo_skip0 (k:=?_) ?hk ?hb ?h1 ?_);(case hk=>rfl);(case hb=>rfl);(case h1=>rfl))
  |((with_reducible refine mo_skipU0 (k:=?_) ?hk ?hb ?h1 ?_);(case hk=>rfl);(case hb=>rfl);(case h1=>rfl))
  |((with_reducible refine OU (d:=?_) (U':=?_) (Sr:=?_) jB ?hl ?he ?h1 ?_);(case hl=>rfl);(case he=>exact tdE fx);(case h1=>rfl))
  |((with_reducible refine FR (d:=?_) (U':=?_) (Sr:=?_) jB ?hl ?he ?_);(case hl=>rfl);(case he=>exact tdE fx))
  |((with_reducible refine Ss (d:=?_) (U':=?_) (Sr:=?_) jB ?hl ?he ?h1 ?hC ?_);(case hl=>rfl);(case he=>exact tdE fx);(case h1=>rfl);(case hC=>first|exact Sub.refl _|assumption|exact(Sub.refl _).set (by assumption)))
  |((with_reducible refine EL (d:=?_) (U':=?_) (Sr:=?_) jB ?hl ?he ?hC ?_);(case hl=>rfl);(case he=>exact tdE fx);(case hC=>first|exact Sub.refl _|assumption|exact(Sub.refl _).set (by assumption)))
  |((with_reducible refine step_neqS (r:=?_) (Sr:=?_) (xs:=?_) (ys:=?_) (fs:=?_) jB ?hE ?h1 ?hl ?hx ?hy ?hk ?hd ?_);(case hE=>with_reducible first|exact eqTy63|exact eqTy150);(case h1=>rfl);(case hl=>rfl);(case hx=>rfl);(case hy=>rfl);(case hk=>simp<;>rfl);(case hd=>exact tdE fx))
  |((with_reducible refine Ol (r:=?_) (Sr:=?_) (xs:=?_) (ys:=?_) (fs:=?_) jB ?hE ?h1 ?hl ?hx ?hy ?hk ?hd ?_);(case hE=>with_reducible first|exact eqTy63|exact eqTy150);(case h1=>rfl);(case hl=>rfl);(case hx=>rfl);(case hy=>rfl);(case hk=>simp<;>rfl);(case hd=>exact tdE fx))
  |((with_reducible refine KE (Sr:=?_) ?hl ?hc ?_);(case hl=>rfl);(case hc=>exact tdC fx))
  |((with_reducible refine KF (Sr:=?_) ?hl ?hc ?_);(case hl=>rfl);(case hc=>exact tdC fx))
  |((with_reducible refine Mv (d:=?_) (cs:=?_) (Sr:=?_) hv jB ?h1 ?h2 ?h3 ?h4 ?h5 ?hl ?he ?h6 ?h7 ?h8 ?h9 ?_);(case h1=>rfl);(case h2=>rfl);(case h3=>rfl);(case h4=>rfl);(case h5=>simp);(case hl=>rfl);(case he=>exact tdF);(case h6=>rfl);(case h7=>exact tdF);(case h8=>simp);(case h9=>simp))
  |((with_reducible refine KD (d:=?_) (d2:=?_) (cs:=?_) (Sr:=?_) (Sr2:=?_) hv jB ?h1 ?h2 ?h3 ?h4 ?h5 ?g1 ?g2 ?g3 ?g4 ?gl ?ge ?hl ?he ?h6 ?h7 ?h8 ?h9 ?_);(case h1=>rfl);(case h2=>rfl);(case h3=>rfl);(case h4=>rfl);(case h5=>rfl);(case g1=>rfl);(case g2=>rfl);(case g3=>rfl);(case g4=>simp);(case gl=>rfl);(case ge=>exact tdF);(case hl=>rfl);(case he=>exact tdF);(case h6=>rfl);(case h7=>exact tdF);(case h8=>simp);(case h9=>simp))
  |with_reducible refine HU ?_
  |with_reducible refine callIRG ?_
  |with_reducible refine moIR ?_
  |with_reducible refine moIRG ?_
  |with_reducible refine callIP ?_
  |with_reducible refine callIPG ?_
  |with_reducible refine moIP ?_
  |with_reducible refine moIPG ?_
  |with_reducible refine nilE ?_
  |with_reducible refine nilN ?_
  |with_reducible refine boolE ?_
  |with_reducible refine boolN ?_
  |with_reducible refine Va ?_
  |with_reducible refine Vc ?_
  |with_reducible refine mixY tb ?_
  |with_reducible refine mixX tb ?_
  |with_reducible refine needIR ?_
  |with_reducible refine needIP ?_
  |with_reducible refine moNeedIR ?_
  |with_reducible refine moNeedIP ?_
  |with_reducible refine cndX ?_
  |with_reducible refine splX ?_
  |with_reducible refine moSX ?_)
 exact hG.get):l7 vars->Hold F->Tab tb->Hold G'->G:=hs
def gf{F G' G:Prop}(fx:F)(h:G')(tb:OT:=[])(vars:eQ:=[])(hs:l7 vars->Hold F->Tab tb->Hold G'->G:=by exact walkQ):G:=hs ⟨⟩ ⟨fx⟩ ⟨⟩ ⟨h⟩
def gz{G' G:Prop}(h:G')(tb:OT:=[])(vars:eQ:=[])(hs:l7 vars->Hold True->Tab tb->Hold G'->G:=by exact walkQ):G:=hs ⟨⟩ ⟨trivial⟩ ⟨⟩ ⟨h⟩
def gi{a b:Prop}(x:a)(y:b):a/\b:=⟨x,y⟩
def en {f m : Nat} {fn : Func} {c : Code} {args : eO} {O : Sig} {R : DE -> Sig -> Prop} (hf : prog.funcs[f]? = some fn) (hm : fn.ntmps = m) (h : DWp prog .none m c (DR prog m fn R) { γ := BV 0 args, O }) (hb : fn.body = some c := by exact rfl) (eW : (fn.name == "runtime.NumGoroutine") = false := by decide) (hn : args.length <= m := by simp) : ar prog f args O R := Mb hf hb eW hm hn h
def gy{A B:Prop}(a:A)(b:B):Two A B:=⟨a,b⟩
def tdV{F p:Prop} (h:Hold F->p:=by
 intro fx
 have hF:=fx.get
 clear fx
 first|rfl|(simp[hF];done)|(simp_all;done)|(rw[Ae,aR];simp_all<;>omega)):Hold F->p:=h
section
variable {P:Program}{n:Nat}{γ:List (Nat×D)}{O:Sig}
theorem fe1{F:Prop}{fn:Func}{v:DE}{U':Sig}{t:Nat}{d d':D}(fx:F)(hZ:Sub U' O:=by exact tdU)(hr:fn.results=#[.tmp t]:=by exact tdR)(hl:γ.lookup t=some d:=by exact tdR)(hw:WkD d d':=by exact tdW)(hq:Hold F->DE.ret d'=v:=by first|exact tdV|fail):DR P n fn (fun x τ=>x=v/\τ=U') .ret ⟨γ,O,[]⟩:=fin1 ⟨hq ⟨fx⟩,rfl⟩ hZ hr hl hw
theorem fe0{F:Prop}{fn:Func}{v:DE}{U':Sig}(fx:F)(hZ:Sub U' O:=by exact tdU)(hr:fn.results=#[]:=by exact tdR)(hq:Hold F->DE.ret (.tup [])=v:=by first|exact tdV|fail):DR P n fn (fun x τ=>x=v/\τ=U') .ret ⟨γ,O,[]⟩:=fin0 ⟨hq ⟨fx⟩,rfl⟩ hZ hr
theorem fe2{F:Prop}{fn:Func}{v:DE}{U':Sig}{t u:Nat}{d d' e e':D}(fx:F)(hZ:Sub U' O:=by exact tdU)(hr:fn.results=#[.tmp t,.tmp u]:=by exact tdR)(hl:γ.lookup t=some d:=by exact tdR)(eX:γ.lookup u=some e:=by exact tdR)(eV:decide (u=t)=false:=by exact tdR)(hw:WkD d d':=by exact tdW)(eU:WkD e e':=by exact tdW)(hq:Hold F->DE.ret (.tup [d',e'])=v:=by first|exact tdV|fail):DR P n fn (fun x τ=>x=v/\τ=U') .ret ⟨γ,O,[]⟩:=kM ⟨hq ⟨fx⟩,rfl⟩ hZ hr hl eX eV hw eU
end
def td1{p:Prop}(h:p:=by first|omega|(simp;omega)):p:=h
def td2{p:Prop}(h:p:=by first|omega|(simp_all;done)|(simp_all;omega)):p:=h
def td3{p:Prop}(h:p:=by first|omega|simp):p:=h
end Go.DL
