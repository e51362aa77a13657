/- A part of the proof. -/
import Derived.Test.YtlfimpogphmbdaaGreatQ17
set_option linter.all false
namespace Go.DL
open Go.Proofs.Tryz
open Go Go.Proofs
section
variable {P:Program}{ro:Option Nat}{n:Nat}{Q:DX->St->Prop}{γ:List (Nat×D)}{V:Sig}{df:List DDf}
theorem dwp_cut1{x1 b:Code}(ov:Fr)(S':Sig)(h2:DWp P ro n b Q ⟨ov++γ,S',df⟩)(h1:∀b,DWp P ro n b Q ⟨ov++γ,S',df⟩->DWp P ro n (.seq x1 b) Q ⟨γ,V,df⟩):DWp P ro n (.seq x1 b) Q ⟨γ,V,df⟩:=h1 b h2
theorem dwp_cut2{x1 x2 b:Code}(ov:Fr)(S':Sig)(h2:DWp P ro n b Q ⟨ov++γ,S',df⟩)(h1:∀b,DWp P ro n b Q ⟨ov++γ,S',df⟩->DWp P ro n (.seq x1 (.seq x2 b)) Q ⟨γ,V,df⟩):DWp P ro n (.seq x1 (.seq x2 b)) Q ⟨γ,V,df⟩:=h1 b h2
theorem dwp_cut3{x1 x2 x3 b:Code}(ov:Fr)(S':Sig)(h2:DWp P ro n b Q ⟨ov++γ,S',df⟩)(h1:∀b,DWp P ro n b Q ⟨ov++γ,S',df⟩->DWp P ro n (.seq x1 (.seq x2 (.seq x3 b))) Q ⟨γ,V,df⟩):DWp P ro n (.seq x1 (.seq x2 (.seq x3 b))) Q ⟨γ,V,df⟩:=h1 b h2
theorem Xz{x1 x2 x3 x4 x5 x6 b:Code}(ov:Fr)(S':Sig)(h2:DWp P ro n b Q ⟨ov++γ,S',df⟩)(h1:∀b,DWp P ro n b Q ⟨ov++γ,S',df⟩->DWp P ro n (.seq x1 (.seq x2 (.seq x3 (.seq x4 (.seq x5 (.seq x6 b)))))) Q ⟨γ,V,df⟩):DWp P ro n (.seq x1 (.seq x2 (.seq x3 (.seq x4 (.seq x5 (.seq x6 b)))))) Q ⟨γ,V,df⟩:=h1 b h2
theorem Ae{U':Fr}{S':Sig}(h:TellsS γ [] U')(hZ:Sub S' V):Wk P n ⟨γ,V,df⟩ ⟨U',S',df⟩:=(FB h hZ).2
end
section
variable {P:Program}{ro:Option Nat}{n:Nat}{ops:Array Oper}{Q:DX->St->Prop}{df:List DDf}{rest:List Oper}{γ:List (Nat×D)}{V:Sig}
theorem mixT{lo:List Oper}{id:Nat}(k:Nat)(ord E:fG){lp:List (Bool×Oper)}{ls:List Oper}(h:MO prog ro n lo.toArray 334 V (Then (fun s=>av prog ro n lo.toArray Q ls s) Q) df lp γ V)(hB:Pn lo.toArray E ord k=true:=by kernel_rfl)(iL:lo.drop k=ls:=by exact tdR)(hl:GT lo E ord=some lp:=by exact tdR):DWp prog ro n (.region id lo.toArray true) Q ⟨γ,V,df⟩:=by
 subst iL;exact Xw An mixed k ord E V hB (Sub.refl _) hl h
theorem ent3{t1 t2 T id:Nat}{x:Operand}{s:ByteArray}{v:Int}{ty1 ty2 ty3:TypeId}{p1 p2 p3:String}{f1 f2 f3:Array Edge}{m:List (Str×Int)}
  (h:av prog ro n ops Q rest ⟨(t2,.any)::(t1,.any)::γ,V.set id (.map (eSN (putM s.data.toList v m))),df⟩) (hZ:V id=some (.map (eSN m)):=by first|assumption|exact w7 ..) (hm:ev γ x=.map id:=by exact tdR) (hT:T=158:=by rfl) (iq:decide (t1<n)=true:=by exact tdR) (ij:decide (t2<n)=true:=by exact tdR) (g8:x≠.tmp t1:=by simp) (g7:x≠.tmp t2:=by simp) :
  av prog ro n ops Q (⟨some t1,.mapEntry T x (.const (.string s)),ty1,p1,f1,none⟩::⟨some t2,.extract (.tmp t1) 1,ty2,p2,f2,none⟩::⟨none,.entryStore T x (.tmp t2) (.const (.int .i64 v)),ty3,p3,f3,none⟩::rest) ⟨γ,V,df⟩:=by
 subst hT
 exact Pz (tab:=tab) (kt:=9) (et:=3) (l:=eSN m) (zd:=dI 0) Af rfl rfl rfl rfl hm hZ (putSN _ _ _) (by simpa using iq) (by simpa using ij) g8 g7 (by simp) (by simp) h
end
def cB8(s:Str):fH:=s.map fun b=>[D.int .u8 (b.toNat:Int)]
@[simp] theorem cB8_len(l:Str):(cB8 l).length=l.length:=by simp[cB8]
@[simp] theorem cB8_mem(l:Str): ∀c∈cB8 l,c.length=1:=by simp[cB8]
section
variable {ro:Option Nat}{n:Nat}{ops:Array Oper}{Q:DX->St->Prop}{df:List DDf}{rest:List Oper}{γ Sr:List (Nat×D)}{V:Sig}{t:Nat}{ty:TypeId}{pos:String}{after:Array Edge}{gd:Option (Nat×Bool)}
theorem strR{T T' e:Nat}{x:Operand}(s:Str)(h:av prog ro n ops Q rest ⟨(t,.str s)::γ,V,df⟩)(hl:A8 γ (Ad [x])=some Sr:=by exact tdR)(hx:esOf (ev Sr x)=some (cB8 s):=by exact tdR)(hw:AT ops γ ⟨some t,.convert T T' x,ty,pos,after,gd⟩=some true:=by exact tdR)(fM:decide (t<n)=true:=by exact tdR)
  (hk:(tab T).k=.slice e:=by(simp<;>rfl)) (f9:(tab T').k=.str:=by(simp<;>rfl)) (gF:(tab e).k=.int .u8:=by(simp<;>rfl)) :
  av prog ro n ops Q (⟨some t,.convert T T' x,ty,pos,after,gd⟩::rest) ⟨γ,V,df⟩:=XA Af h hw (by simpa using fM) hk f9 gF (by rw[<-Cn hl];exact hx)
theorem skpV{P:Program}{j:Nat}{want:Bool}{k:Nat}{fop:Operand}{args:Array Operand}{ats:Array TypeId}(h:av P ro n ops Q rest ⟨(t,.tup [])::γ,V,df⟩)(hk:(ops[j]?).bind (·.dst)=some k:=by exact tdR)(hb:γ.lookup k=some (.bool (!want)):=by exact tdR)(hl:A8 γ (Ad [fop])=some Sr:=by exact tdR)(hf:ev Sr fop=.tup []:=by exact tdR)(fM:decide (t<n)=true:=by exact tdR):
  av P ro n ops Q (⟨some t,(cv fop args ats),ty,pos,after,some (j,want)⟩::rest) ⟨γ,V,df⟩:=by
 intro g w a r hr hs'
 have g9:AT ops γ ⟨some t,(cv fop args ats),ty,pos,after,some (j,want)⟩=some false:=by simp only[AT,CY hk hb];simp
 have he:=Au hs'.tmps fop
 rw[Cn hl]at hf
 rw[hf]at he
 obtain⟨vs,hv,iB⟩:=he
 obtain rfl:vs=[]:=iB
 unfold wpListIn
 rw[AV hs'.tmps g9,aN (by simp)]
 refine⟨fun f hf=>?_,h g w _ r hr ?_⟩
 ·unfold Oper.about at hf
  simp[resolve,hv,Deferred.ofValue,stuck,Sem.run]at hf
 ·exact hs'.put (g':=g) (o:=⟨some t,(cv fop args ats),ty,pos,after,some (j,want)⟩) (d:=.tup []) (.refl g) hs'.sim ⟨[],rfl,rfl⟩ fM
end
section
variable {ro:Option Nat}{n:Nat}{ops:Array Oper}{N:Nat}{S0:Sig}{Q:DX->St->Prop}{df:List DDf}{rest:List Oper}{γ Sr:List (Nat×D)}{V:Sig}{t:Nat}{ty:TypeId}{pos:String}{after:Array Edge}{l:List (Bool×Oper)}{d:D}{ef:Bool}
theorem moQAppC{s x:Operand}{T T' e e':Nat}{es new:fH}(k1:MO prog ro n ops N S0 Q df l ((t,.slice (es++new) .no)::γ) V)(hl:A8 γ (Ad [s,x])=some Sr:=by exact tdR)(hk:(tab T).k=.slice e:=by(simp<;>rfl))(f9:(tab T').k=.slice e':=by(simp<;>rfl))(he:A6 (tab e).k=false:=by simp)
  (h1:ev Sr s=.slice es .clip:=by exact tdR) (h2:esOf (ev Sr x)=some new:=by(simp<;>with_unfolding_all rfl))
  (hlen:∀c∈es,c.length=(tab e).size:=by first|exact BY _|exact Dj _|exact BR _|simp) (hlen':∀c∈new,c.length=(tab e).size:=by first|exact BY _|exact Dj _|exact BR _|simp)
  (hb:(es.length+new.length)*(tab e).bytes<=140737488355328:=by first|(simp;done)|(simp;omega)) (hm:es.length+new.length<=9223372036854775807:=by first|(simp;done)|(simp;omega)) (fM:decide (t<n)=true:=by exact tdR) :
  MO prog ro n ops N S0 Q df ((ef,⟨some t,(cA s x T T'),ty,pos,after,none⟩)::l) γ V:=by
 have gQ:∀y∈((cA s x T T')).operands,ev (only (Oper.looksAt ops ⟨some t,(cA s x T T'),ty,pos,after,none⟩) γ) y=ev γ y:=fun y hy=>Cj (o:=⟨some t,(cA s x T T'),ty,pos,after,none⟩) hy
 have hx:∀y∈[s,x],ev Sr y=ev γ y:=fun y hy=>Co fun t ht=>B7 hl t (Bw (by rw[<-ht];exact hy))
 refine Qb (.slice (es++new) .no) fM rfl (by rw[B8];rfl) (fun S' je ro' df'=>?_) k1
 have a1:ev (only (Oper.looksAt ops ⟨some t,(cA s x T T'),ty,pos,after,none⟩) γ) s=.slice es .clip:=by rw[gQ s (by simp[Op.operands,Call.operands]),<-hx s (by simp)];exact h1
 have a2:esOf (ev (only (Oper.looksAt ops ⟨some t,(cA s x T T'),ty,pos,after,none⟩) γ) x)=some new:=by rw[gQ x (by simp[Op.operands,Call.operands]),<-hx x (by simp)];exact h2
 by_cases hne:new=[]
 ·subst hne
  refine DJ Af (es:=es) (by rw[B8];rfl) (by simpa using fM) hk f9 he (by rw[a1];rfl) a2 ?_
  rw[a1]
  exact BA (C2 (t:=t) (d:=.slice (es++[]) .no) (by simp only[Aa,bp,bb];exact Ao _ _)) (AP ⟨rfl,by simp only[Aa,bp],Sub.refl _⟩)
 ·exact Ce Af (by rw[B8];rfl) (by simpa using fM) hk f9 he a1 a2 hne hlen hlen' hb hm fun i hi=>BA (C2 (t:=t) (d:=.slice (es++new) .no) (by simp only[Aa,bp];exact Ao _ _)) (AP ⟨rfl,by simp only[Aa,bp],(Sub.refl _).set hi⟩)
end
theorem dwp_cutE3{P:Program}{ro:Option Nat}{n:Nat}{Q:DX->St->Prop}{γ:Fr}{V:Sig}{df:List DDf}{x1 x2 x3 b:Code}(C:Nat->Prop)(ov:Nat->Fr)(S':Nat->Sig)(h2:∀i,C i->DWp P ro n b Q ⟨ov i,S' i,df⟩)(h1:∀b,(∀i,C i->DWp P ro n b Q ⟨ov i,S' i,df⟩)->DWp P ro n (.seq x1 (.seq x2 (.seq x3 b))) Q ⟨γ,V,df⟩):DWp P ro n (.seq x1 (.seq x2 (.seq x3 b))) Q ⟨γ,V,df⟩:=h1 b h2
end Go.DL
namespace Go.DL
open Go.Proofs.Tryz
open Go Go.Proofs
set_option maxHeartbeats 8000000
theorem bytesR{ro:Option Nat}{n:Nat}{ops:Array Oper}{Q:DX->St->Prop}{df:List DDf}{rest:List Oper}{γ Sr:Fr}{V:Sig}{t:Nat}{ty:TypeId}{pos:String}{after:Array Edge}{T T' e:Nat}{x:Operand}{s:Str}
  (h:av prog ro n ops Q rest ⟨(t,.slice (s.map fun b=>[D.int .u8 (b.toNat:Int)]) .no)::γ,V,df⟩) (hl:A8 γ (Ad [x])=some Sr:=by exact tdR) (hx:ev Sr x=.str s:=by exact tdR) (fM:decide (t<n)=true:=by exact tdR)
  (hk:(tab T).k=.str:=by(simp<;>rfl)) (f9:(tab T').k=.slice e:=by(simp<;>rfl)) (gF:(tab e).k=.int .u8:=by(simp<;>rfl)) :
  av prog ro n ops Q (⟨some t,.convert T T' x,ty,pos,after,none⟩::rest) ⟨γ,V,df⟩:=SC Af h (by simpa using fM) hk f9 gF (by rw[<-Cn hl];exact hx)
theorem Rm{l:fD}(h:l.Nodup){k:Nat}(hk:k<l.length): ¬l[k]∈l.take k:=fun hm=>by
 obtain⟨j,hj,e⟩:=bh hm
 rw[cj]at hj
 rw[List.getElem_take]at e
 have:=(fC.1 h) j k (by omega) hk (by omega)
 exact this e
theorem Ls(V:Sig):au prog 240 [] V fun x S'=> ∃im,V im=none/\x=.ret (.map im)/\S'=V.set im (.map (eSS kwds)):=by
 have i0:kwds.length=24:=rfl
 have iH:kwds.Nodup:=by decide
 refine en func240 ntmps240 ?_
 refine gz ?_
 refine Mj (fun im fK=>?_)
 refine gz ?_
 refine rtw 5 (sl (cS kwds)) ?_ (hw:=Ao _ _)
 refine B5 [0,1,5,6,14] (fun (k:Nat)=>k<=kwds.length) (fun k=>[(7,dI k)]) (fun k=>V.set im (.map (eSS (kwds.take k)))) (fun k=>kwds.length-k) (0) (by simp) (fun k hI=>?_)
 by_cases h:k<kwds.length
 ·have hq:ins kwds[k] (kwds.take k)=kwds.take (k+1):=by unfold ins;rw[aN (Rm iH h),AH h]
  refine gf hq ?_
  exact⟨k+1,by omega,td1,wkR⟩
 ·refine gz ?_
  refine fin1 (S':=V.set im (.map (eSS kwds))) ?_ (hZ:=by rw[bA (by omega)];exact Sub.refl _)
  exact⟨im,fK,rfl,rfl⟩
theorem Lt(s:Str)(im:Nat)(V:Sig)(hm:V im=some (.map (eSS kwds)))(hl:s.length<=1073741824):au prog 239 [.str s,.map im] V (rS (.bool (AJ s)) V):=by
 refine en func239 ntmps239 ?_
 repeat' first|refine gf hm ?_|apply gy<;>intro hh
 ·(refine fin1 (S':=V) ?_;exact⟨by first|rfl|(simp[AJ,hh];done)|(simp_all [AJ,hh];done)|(rw[A5,aO];simp_all [AJ,hh]<;>omega),rfl⟩)
 ·any_goals (first|(refine fin1 (S':=V) ?_;exact⟨by first|rfl|(simp[AJ];done)|(simp_all [AJ];done)|(rw[A5,aO];simp_all [AJ]<;>omega),rfl⟩)|fail)
 ·any_goals (first|(refine fin1 (S':=V) ?_;exact⟨by first|rfl|(simp[AJ];done)|(simp_all [AJ];done)|(rw[A5,aO];simp_all [AJ]<;>omega),rfl⟩)|fail)
 ·rename_i e1 e2
  have hk:¬s∈kwds:=hh
  refine bytesR ?_
  refine gz ?_
  refine B5 [20,21] (fun (k:Nat)=>k<=s.length/\s.all DA=(s.drop k).all DA) (fun k=>[(22,dI k)]) (fun _=>V) (fun k=>s.length-k) (0) (by simp) (fun k hI=>?_)
  obtain⟨fJ,hR⟩:=hI
  by_cases h:k<s.length
  ·rw[A2 h,bV]at hR
   repeat' first|refine gz ?_|apply gy<;>intro hh
   ·have hn:DA s[k]=false:=by unfold DA;simp;omega
    rw[hn]at hR
    (refine fin1 (S':=V) ?_;exact⟨by first|rfl|(simp[AJ,hR];done)|(simp_all [AJ,hR];done)|(rw[A5,aO];simp_all [AJ,hR]<;>omega),rfl⟩)
   ·have hn:DA s[k]=false:=by unfold DA;simp;omega
    rw[hn]at hR
    (refine fin1 (S':=V) ?_;exact⟨by first|rfl|(simp[AJ,hR];done)|(simp_all [AJ,hR];done)|(rw[A5,aO];simp_all [AJ,hR]<;>omega),rfl⟩)
   ·have hn:DA s[k]=true:=by unfold DA;simp;omega
    exact⟨k+1,⟨by omega,by rw[hR,hn];rfl⟩,td1,wkR⟩
  ·rw[A1 h]at hR
   have h1:1<=s.length:=by cases s with|nil=>exact absurd rfl e1|cons _ _=>simp
   have hN:AJ s=true:=by unfold AJ;rw[hR,aX (by omega),aV (by assumption)];rfl
   repeat' first|refine gz ?_|apply gy<;>intro hh
   any_goals (first|exact fe1 hN|fail)
theorem V2(s:Str)(V:Sig)(hl:s.length<=1073741824):au prog 188 [.str s] V (rS (.bool (AJ s)) V):=by
 refine en func188 ntmps188 ?_
 refine gz ?_
 refine Ac (Ls V) (fun d S' hr=>?_) (fun d S' hr=>by obtain⟨_,_,h,_⟩:=hr;cases h)
 obtain⟨im,fK,h1,rfl⟩:=hr
 simp only[DE.ret.injEq]at h1
 subst h1
 repeat' first|refine gz ?_|refine Aq (Lt s im _ (w7 ..) hl) ?_|refine callP (Lt s im _ (w7 ..) hl) ?_|refine gz ?_|apply gy<;>intro hh
 exact fe1 trivial
@[reducible,instance] def a188:=fun s V=>ah1 (@V2 s V)
theorem ER(s:Str)(im:Nat)(t:fD)(V:Sig)(hm:V im=some (.map (eSS t)))(hl:s.length<=1073741824):
  au prog 189 [.str s,.map im] V fun x S'=>(AJ s&&!decide (s∈t))=true/\x=.ret (.tup [])/\S'=V.set im (.map (eSS (t++[s])))\/(AJ s&&!decide (s∈t))=false/\x=.panic unf2/\S'=V:=by
 refine en func189 ntmps189 ?_
 by_cases hs:s∈t
 ·have hc:(AJ s&&!decide (s∈t))=false:=by simp[hs]
  rw[hc]
  repeat' first|refine gf (gi hm hs) ?_|apply gy<;>intro hh
  all_goals
   refine finP (S':=V) ?_
   exact .inr ⟨rfl,rfl,rfl⟩
 ·cases hn:AJ s
  ·refine gf (gi hm (gi hs hn)) ?_
   refine finP (S':=V) ?_
   exact .inr ⟨rfl,rfl,rfl⟩
  ·have hq:ins s t=t++[s]:=by unfold ins;rw[aN hs]
   refine gf (gi hm (gi hs (gi hn hq))) ?_
   refine Ef (S':=V.set im (.map (eSS (t++[s])))) ?_
   exact .inl ⟨by simp[hs],rfl,rfl⟩
def C4:fD->Int->List (Str×Int)
 |[],_=>[]
 |s::r,k=>(s,k)::C4 r (k+1)
theorem Fc(s:Str): ∀(l:fD) (k:Int),hasM s (C4 l k)=decide (s∈l)
 |[],_=>by simp[C4,hasM]
 |x::r,k=>by rw[C4,hasM,Fc s r];by_cases h:s=x<;>simp[h]
theorem Pr(s:Str): ∀(l:fD) (k:Nat),s∈l->getM 0 s (C4 l k)=idxG s l k/\(k:Int)<=idxG s l k/\idxG s l k<k+l.length
 |[],_,h=>by simp at h
 | x::r,k,h=>by
  by_cases e:s=x
  ·subst e;simp[C4,getM,idxG];omega
  ·have:=Pr s r (k+1) ((aY.1 h).resolve_left e)
   rw[C4,getM,aN e,idxG,aN (fun h=>e h.symm)]
   rw[show((k:Int)+1)=((k+1:Nat):Int) by omega]
   simp only[aP]
   refine⟨this.1,?_,?_⟩<;>omega
theorem WR{s:Str}{l:fD}(h:s∈l):getM 0 s (C4 l 0)=idxG s l 0/\0<=idxG s l 0/\idxG s l 0<l.length:=by
 have:=Pr s l 0 h
 simpa using this
theorem Tb(s:Str): ∀(l:fD) (k:Int), ¬s∈l->putM s (k+l.length) (C4 l k)=C4 (l++[s]) k
 |[],k,_=>by simp[C4,putM]
 |x::r,k,h=>by
  have h1:¬s=x:=fun e=>h (by simp[e])
  have:=Tb s r (k+1) fun e=>h (by simp[e])
  rw[C4,putM,aN h1,bl,C4,<-this]
  congr 2;simp only[aP];omega
def cM(s:fD):fE:=[.cmap (s.map .str) (s.map fun _=>.bool true)]
def cMs(hs:List fD):fH:=hs.map cM
@[simp] theorem cMs_len(hs:List fD):(cMs hs).length=hs.length:=by simp[cMs]
@[simp] theorem cMs_get(hs:List fD)(k:Nat):(cMs hs)[k]? = (hs[k]?).map cM:=by simp[cMs]
@[simp] theorem cMs_all(hs:List fD):(cMs hs).all (fun c=>c.length==1)=true:=by simp[cMs,cM]
theorem cMs_app(hs:List fD)(u:fD):cMs hs++[cM u]=cMs (hs++[u]):=by simp[cMs]
abbrev pObj(f:aF)(ic is:Nat)(d:D)(n:Int):DObj:=.cells [sl (f.aa.map cFClass),sl (f.methods.map BZ),dI f.main.op,dI f.main.n,.str f.main.text,sl (f.main.ah.map Al),.map ic,d,.map is,dI n]
def HasD(S0 V:Sig)(d:D)(hs:List fD):Prop:=(hs=[]/\d=.ak) \/ ∃ih,d=.slice (cMs hs) (.tag ih)/\V ih=some (.tail 1 hs.length)/\S0 ih=none
theorem HasD.set{S0 V:Sig}{d:D}{hs:List fD}(h:HasD S0 V d hs){k:Nat}{o:DObj}(hk:∀n,V k≠some (.tail 1 n)):HasD S0 (V.set k o) d hs:=by
 rcases h with h|⟨ih,h1,h2,h3⟩
 ·exact .inl h
 ·refine .inr ⟨ih,h1,?_,h3⟩
  rw[w8 _ _ fun e=>hk _ (e ▸ h2)];exact h2
theorem SM(s:fD):(s.map D.str).zip (s.map fun _=>D.bool true)=eSS s:=by
 unfold eSS eS
 induction s with
 |nil=>rfl
 |cons x s ih=>simp only[ba,eY,ih]
theorem OF(s:fD)(j:Nat):(eSS s).eraseIdx j=eSS (s.eraseIdx j):=by
 unfold eSS eS
 induction s generalizing j with
 |nil=>simp
 |cons x s ih=>cases j with
  |zero=>simp
  |succ j=>simp[ih]
theorem VS{s:fD}{j:Nat}{k v:D}(h:(eSS s)[j]? = some (k,v)): ∃hj:j<s.length,k=.str s[j]/\v=.bool true:=by
 unfold eSS eS at h
 rw[bD]at h
 by_cases hj:j<s.length
 ·rw[aM hj]at h
  simp only[bG,bq,da]at h
  exact⟨hj,h.1.symm,h.2.symm⟩
 ·rw[bQ (by omega)]at h;cases h
theorem JH{s:fD}{j:Nat}(hj:j<s.length)(x:Str):x∈s ↔ x=s[j]\/x∈s.eraseIdx j:=by
 have e:s=s.take j++s[j]::s.drop (j+1):=by rw[<-dH hj,dA]
 rw[List.eraseIdx_eq_take_drop_succ]
 constructor
 ·intro h;rw[e]at h;simp only[bk,aY]at h⊢; grind
 ·rintro(rfl|h)
  ·exact aJ hj
  ·rw[e];simp only[bk,aY]at h⊢; grind
structure PS(f:aF)(ip ic is:Nat)(S0 V:Sig)(names ae:fD)(hs:List fD)(d:D)(n:Int):Prop where
 prg:V ip=some (pObj f ic is d n)
 cls:V ic=some (.map (eSN (C4 names 0)))
 slo:V is=some (.map (eSS ae))
 has:HasD S0 V d hs
 keep:Keep (fun j=>j=ip\/j=ic\/j=is) S0 V
theorem PS.non{f:aF}{ip ic is:Nat}{S0 V:Sig}{names ae:fD}{hs:List fD}{d:D}{n:Int}(h:PS f ip ic is S0 V names ae hs d n)(k:Nat)(hk:V k=none):S0 k=none:=by
 cases hc:S0 k with
 |none=>rfl
 | some o =>
  by_cases ht:k=ip\/k=ic\/k=is
  ·rcases ht with rfl|rfl|rfl
   ·rw[h.prg]at hk;cases hk
   ·rw[h.cls]at hk;cases hk
   ·rw[h.slo]at hk;cases hk
  ·rw[h.keep k o hc ht]at hk;cases hk
theorem PS.fresh{f:aF}{ip ic is:Nat}{S0 V:Sig}{names ae:fD}{hs:List fD}{d:D}{n:Int}(h:PS f ip ic is S0 V names ae hs d n){k:Nat}{o:DObj}(hk:V k=none):PS f ip ic is S0 (V.set k o) names ae hs d n:=by
 have e:∀j x,V j=some x->j≠k:=fun j x h e=>by rw[e,hk]at h;cases h
 refine⟨by rw[w8 _ _ (e _ _ h.prg)];exact h.prg,by rw[w8 _ _ (e _ _ h.cls)];exact h.cls,by rw[w8 _ _ (e _ _ h.slo)];exact h.slo,h.has.set (by rw[hk];simp),fun j x h1 h2=>?_⟩
 have:=h.keep j x h1 h2
 rw[w8 _ _ (e _ _ this)];exact this
theorem PS.other{f:aF}{ip ic is:Nat}{S0 V:Sig}{names ae:fD}{hs:List fD}{d:D}{n:Int}(h:PS f ip ic is S0 V names ae hs d n){k:Nat}{o:DObj}(h0:S0 k=none)(hk:∀n,V k≠some (.tail 1 n))(h1:ip≠k)(h2:ic≠k)(h3:is≠k):PS f ip ic is S0 (V.set k o) names ae hs d n:=
 ⟨by rw [w8 _ _ h1];exact h.prg,by rw [w8 _ _ h2];exact h.cls,by rw [w8 _ _ h3];exact h.slo,h.has.set hk,fun j x h4 h5=>by
  rw[w8 _ _ fun e=>by rw[e,h0]at h4;cases h4];exact h.keep j x h4 h5⟩
def parE(names:fD):fD->fD->Bool
 |_,[]=>true
 |seen,s::r=>decide (s∈names)&&((AJ s&&!decide (s∈seen))&&parE names (seen++[s]) r)
def sloE:fD->fD->Bool
 |_,[]=>true
 |seen,s::r=>(AJ s&&!decide (s∈seen))&&sloE (seen++[s]) r
def iniE(mine:fD):fD->List aG->Bool
 |_,[]=>true
 |seen,x::r=>(decide (x.slot∈mine)&&inB x.n)&&((AJ x.slot&&!decide (x.slot∈seen))&&iniE mine (seen++[x.slot]) r)
def NS(names:fD)(hs:List fD)(s:Str):fD:=(hs[(idxG s names 0).toNat]?).getD []
def Eu(names:fD)(hs:List fD)(c:aD):fD:=c.ag.flatMap (NS names hs)++c.ae
def clsE:fD->fD->List fD->List aD->Bool
 |_,_,_,[]=>true
 | names,ae,hs,c::r=>decide (c.ag.length<=3/\c.ae.length<=4) && (parE names [] c.ag && (sloE ae c.ae && (iniE (Eu names hs c) [] c.ai && ((AJ c.name && !decide (c.name ∈ names)) &&
   clsE (names++[c.name]) (ae++c.ae) (hs++[Eu names hs c]) r))))
def SameE(a b:List fD):Prop:=a.length=b.length /\ ∀(k:Nat) (x:Str),(x∈(a[k]?).getD [] ↔ x∈(b[k]?).getD [])
theorem I9{m m':fD}(h:∀x,x∈m ↔ x∈m'): ∀(l:List aG) (seen:fD),iniE m seen l=iniE m' seen l
 |[],_=>rfl
 |x::r,seen=>by rw[iniE,iniE,I9 h r,cJ.2 (h x.slot)]
theorem LQ: ∀(cs:List aD) (names ae:fD) (a b:List fD),SameE a b->clsE names ae a cs=clsE names ae b cs
 |[],_,_,_,_,_=>rfl
 | c::r,names,ae,a,b,h=>by
  have hm:∀x,x∈Eu names a c ↔ x∈Eu names b c:=fun x=>by
   simp only[Eu,bk,dX,NS]
   exact or_congr (exists_congr fun s=>and_congr_right fun _=>h.2 _ x) Iff.rfl
  rw[clsE,clsE,I9 hm,LQ r _ _ (a++[Eu names a c]) (b++[Eu names b c])]
  refine⟨by simp[h.1],fun k x=>?_⟩
  by_cases h1:k<a.length
  ·rw[bx h1,bx (by rw[<-h.1];exact h1)];exact h.2 k x
  ·rw[bR (by omega),bR (by rw[<-h.1];omega),h.1]
   by_cases h2:k-b.length=0
   ·rw[h2];simpa using hm x
   ·rw[bQ (by simp;omega),bQ (by simp;omega)]
def clsB(f:aF):Bool:=decide (f.aa.length<=10)&&clsE [] [] [] f.aa
theorem A0{V:Sig}{a b:Nat}{o:DObj}(h:V a=some o)(k:V b=none):a≠b:=fun e=>by rw[e,k]at h;cases h
theorem A7{V:Sig}{a b:Nat}{o x:DObj}(h:V a=some o)(k:V b=some x)(hx:o≠x):a≠b:=fun e=>by rw[e,k]at h;cases h;exact hx rfl
structure Dst(ip ic is isn im ia ii:Nat):Prop where
 a1:ip≠ic
 a2:ip≠is
 a3:ip≠isn
 a4:ip≠im
 a5:ip≠ia
 a6:ip≠ii
 b1:ic≠is
 b2:ic≠isn
 b3:ic≠im
 b4:ic≠ia
 b5:ic≠ii
 c1:is≠isn
 c2:is≠im
 c3:is≠ia
 c4:is≠ii
 d1:isn≠im
 d2:isn≠ia
 d3:isn≠ii
 e1:im≠ia
 e2:im≠ii
 e3:ia≠ii
structure IS(f:aF)(ip ic is isn im ia ii:Nat)(S0 V:Sig)(names ae:fD)(hs:List fD)(d:D)(sn t a b:fD):Prop where
 ps:PS f ip ic is S0 V names ae hs d 0
 osn:V isn=some (.map (eSS sn))
 om:V im=some (.map (eSS t))
 oa:V ia=some (.map (eSS a))
 oi:V ii=some (.map (eSS b))
section
variable {f:aF}{ip ic is isn im ia ii:Nat}{S0 V:Sig}{names ae:fD}{hs:List fD}{d:D}{sn t a b:fD}
theorem Gf{k:Nat}{m:List (D×D)}(h:V k=some (.map m)): ∀n,V k≠some (.tail 1 n):=fun n e=>by rw[h]at e;cases e
theorem Tm{k:Nat}{l:List (D×D)}{la:Option (D×D)}(h:V k=some (.iter l la)): ∀n,V k≠some (.tail 1 n):=fun n e=>by rw[h]at e;cases e
theorem IS.setm(h:IS f ip ic is isn im ia ii S0 V names ae hs d sn t a b)(D:Dst ip ic is isn im ia ii)(h0:S0 im=none)(t':fD):IS f ip ic is isn im ia ii S0 (V.set im (.map (eSS t'))) names ae hs d sn t' a b:=
 ⟨h.ps.other h0 (Gf h.om) D.a4 D.b3 D.c2,by rw[w8 _ _ D.d1];exact h.osn,w7 .., by rw[w8 _ _ (aQ D.e1)];exact h.oa,by rw[w8 _ _ (aQ D.e2)];exact h.oi⟩
theorem IS.seta(h:IS f ip ic is isn im ia ii S0 V names ae hs d sn t a b)(D:Dst ip ic is isn im ia ii)(h0:S0 ia=none)(a':fD):IS f ip ic is isn im ia ii S0 (V.set ia (.map (eSS a'))) names ae hs d sn t a' b:=
 ⟨h.ps.other h0 (Gf h.oa) D.a5 D.b4 D.c3,by rw[w8 _ _ D.d2];exact h.osn,by rw[w8 _ _ D.e1];exact h.om,w7 .., by rw[w8 _ _ (aQ D.e3)];exact h.oi⟩
theorem IS.seti(h:IS f ip ic is isn im ia ii S0 V names ae hs d sn t a b)(D:Dst ip ic is isn im ia ii)(h0:S0 ii=none)(b':fD):IS f ip ic is isn im ia ii S0 (V.set ii (.map (eSS b'))) names ae hs d sn t a b':=
 ⟨h.ps.other h0 (Gf h.oi) D.a6 D.b5 D.c4,by rw[w8 _ _ D.d3];exact h.osn,by rw[w8 _ _ D.e2];exact h.om,by rw[w8 _ _ D.e3];exact h.oa,w7 ..⟩
theorem IS.setn(h:IS f ip ic is isn im ia ii S0 V names ae hs d sn t a b)(D:Dst ip ic is isn im ia ii)(h0:S0 isn=none)(n':fD):IS f ip ic is isn im ia ii S0 (V.set isn (.map (eSS n'))) names ae hs d n' t a b:=
 ⟨h.ps.other h0 (Gf h.osn) D.a3 D.b2 D.c1,w7 .., by rw[w8 _ _ (aQ D.d1)];exact h.om,by rw[w8 _ _ (aQ D.d2)];exact h.oa,by rw[w8 _ _ (aQ D.d3)];exact h.oi⟩
theorem IS.sets(h:IS f ip ic is isn im ia ii S0 V names ae hs d sn t a b)(D:Dst ip ic is isn im ia ii)(s':fD):IS f ip ic is isn im ia ii S0 (V.set is (.map (eSS s'))) names s' hs d sn t a b:=
 ⟨⟨by rw [w8 _ _ D.a2];exact h.ps.prg,by rw [w8 _ _ D.b1];exact h.ps.cls,w7 .., h.ps.has.set (Gf h.ps.slo),fun j x h1 h2=>by rw [w8 _ _ fun e=>h2 (.inr (.inr e))];exact h.ps.keep j x h1 h2⟩,
  by rw[w8 _ _ (aQ D.c1)];exact h.osn,by rw[w8 _ _ (aQ D.c2)];exact h.om,by rw[w8 _ _ (aQ D.c3)];exact h.oa,by rw[w8 _ _ (aQ D.c4)];exact h.oi⟩
theorem IS.fresh(h:IS f ip ic is isn im ia ii S0 V names ae hs d sn t a b){k:Nat}{o:DObj}(hk:V k=none):IS f ip ic is isn im ia ii S0 (V.set k o) names ae hs d sn t a b:=
 ⟨h.ps.fresh hk,by rw[w8 _ _ (A0 h.osn hk)];exact h.osn,by rw[w8 _ _ (A0 h.om hk)];exact h.om,by rw[w8 _ _ (A0 h.oa hk)];exact h.oa,by rw[w8 _ _ (A0 h.oi hk)];exact h.oi⟩
theorem IS.iter(h:IS f ip ic is isn im ia ii S0 V names ae hs d sn t a b){k:Nat}{o:DObj}{l:List (D×D)}{la:Option (D×D)}(h0:S0 k=none)(hk:V k=some (.iter l la)):IS f ip ic is isn im ia ii S0 (V.set k o) names ae hs d sn t a b:=
 have e:∀j m,V j=some (.map m)->j≠k:=fun j m hj=>A7 hj hk (by simp)
 ⟨h.ps.other h0 (Tm hk) (A7 h.ps.prg hk (by simp)) (e _ _ h.ps.cls) (e _ _ h.ps.slo),by rw[w8 _ _ (e _ _ h.osn)];exact h.osn,by rw[w8 _ _ (e _ _ h.om)];exact h.om,by rw[w8 _ _ (e _ _ h.oa)];exact h.oa,by rw[w8 _ _ (e _ _ h.oi)];exact h.oi⟩
theorem IS.delm(h:IS f ip ic is isn im ia ii S0 V names ae hs d sn t a b)(D:Dst ip ic is isn im ia ii)(h0:S0 im=none):PS f ip ic is S0 (V.del im) names ae hs d 0:=by
 have e:∀j,j≠im->(V.del im) j=V j:=fun j hj=>by simp[Sig.del,hj]
 refine⟨by rw[e _ D.a4];exact h.ps.prg,by rw[e _ D.b3];exact h.ps.cls,by rw[e _ D.c2];exact h.ps.slo,?_,fun j x h1 h2=>?_⟩
 ·rcases h.ps.has with h1|⟨ih,h1,h2,h3⟩
  ·exact .inl h1
  ·exact .inr ⟨ih,h1,by rw[e _ (A7 h2 h.om (by simp))];exact h2,h3⟩
 ·rw[e _ fun e=>by rw[e,h0]at h1;cases h1];exact h.ps.keep j x h1 h2
theorem PS.setc{n:Int}(h:PS f ip ic is S0 V names ae hs d n)(a1:ip≠ic)(b1:ic≠is){s:Str}(_:¬s∈names):PS f ip ic is S0 (V.set ic (.map (eSN (C4 (names++[s]) 0)))) (names++[s]) ae hs d n:=
 ⟨by rw[w8 _ _ a1];exact h.prg,w7 .., by rw[w8 _ _ (aQ b1)];exact h.slo,h.has.set (Gf h.cls),fun j x h1 h2=>by rw[w8 _ _ fun e=>h2 (.inr (.inl e))];exact h.keep j x h1 h2⟩
theorem PS.setp{n n':Int}{d':D}{hs':List fD}(h:PS f ip ic is S0 V names ae hs d n)(a1:ip≠ic)(a2:ip≠is)(hd:HasD S0 (V.set ip (pObj f ic is d' n')) d' hs'):PS f ip ic is S0 (V.set ip (pObj f ic is d' n')) names ae hs' d' n':=
 ⟨w7 .., by rw[w8 _ _ (aQ a1)];exact h.cls,by rw[w8 _ _ (aQ a2)];exact h.slo,hd,fun j x h1 h2=>by rw[w8 _ _ fun e=>h2 (.inl e)];exact h.keep j x h1 h2⟩
end
theorem VT(u:fD):(eSS u).map (·.1)=u.map D.str:=by simp[eSS,eS]
theorem VR(u:fD):(eSS u).map (·.2)=u.map fun _=>D.bool true:=by simp[eSS,eS]
def ClsR(f:aF)(ip ic is:Nat)(V:Sig)(x:DE)(S':Sig):Prop:=
 if clsB f then x=.ret (.tup []) /\ ∃hs d,PS f ip ic is V S' (f.aa.map (·.name)) (f.aa.flatMap (·.ae)) hs d f.aa.length
 else x=.panic unf2 /\ ∃names ae hs d n,PS f ip ic is V S' names ae hs d n
theorem Lz (f:aF) (ip ic is:Nat) (V:Sig) (hp:f.wt<=1073741824) (h0:PS f ip ic is V V [] [] [] .ak 0) (gM:ic ≠ is):au prog 185 [.ptr ip 0] V (ClsR f ip ic is V):=by
 obtain⟨p1,p2,p3,p4,p5⟩:=f.wt_le
 have d7:clsB f=false->∀S' names ae hs d n,PS f ip ic is V S' names ae hs d n->ClsR f ip ic is V (.panic unf2) S':=fun h S' names ae hs d n hP=>by
  unfold ClsR;rw[h,aN (by simp)];exact⟨rfl,_,_,_,_,_,hP⟩
 have gH:=h0.prg
 refine en func185 ntmps185 ?_
 by_cases g6:f.aa.length<=10
 ·refine gf gH ?_ o185
  refine Mj (fun isn fO=>?_)
  have iJ:=h0.keep isn
  have gX:=h0.fresh (o:=.map (eSS [])) fO
  have gG:=gX.prg
  refine gf gG ?_ o185
  have d1:isn≠ip:=fun e=>by rw[e,gH]at fO;cases fO
  have d2:isn≠ic:=fun e=>by rw[e,h0.cls]at fO;cases fO
  have d3:isn≠is:=fun e=>by rw[e,h0.slo]at fO;cases fO
  have iI:=A0 h0.prg fO
  have iX:clsB f=clsE [] [] [] f.aa:=by unfold clsB;rw[aX g6,aW]
  refine Po [0,2,30,31,147,148,149,150,151,152,153,154,155] (fun (i:Nat) (S1:Sig) (hs:List fD) (d:D)=>i<=f.aa.length/\hs.length=i/\S1 isn=some (.map (eSS ((f.aa.take i).map (·.name))))/\PS f ip ic is V S1 ((f.aa.take i).map (·.name)) ((f.aa.take i).flatMap (·.ae)) hs d 0/\clsB f=clsE ((f.aa.take i).map (·.name)) ((f.aa.take i).flatMap (·.ae)) hs (f.aa.drop i)) (fun i _ _ _=>[(32,dI i)]) (fun _ S1 _ _=>S1) (fun i _ _ _=>f.aa.length-i) (0) (_) ([]) (.ak) (by exact⟨by omega,rfl,w7 .., gX,iX⟩) (fun i S1 hs d hI=>?_)
  obtain⟨hi,gx,e8,hP,hB⟩:=hI
  have gc:=hP.prg
  by_cases gg:i<f.aa.length
  ·rw [A2 gg,clsE] at hB
   have jd:=p4 i gg
   have iE:((f.aa.take i).map (·.name)).length=i:=by simp;omega
   generalize d9:f.aa[i]=c at*
   obtain⟨c1,c2,c3,c4,c5⟩:=c.wt_le
   have c2':=Bb c.ag
   have c3':=Bb c.ae
   generalize iD:(f.aa.take i).map (·.name)=names at*
   generalize iv:(f.aa.take i).flatMap (·.ae)=ae at*
   by_cases hlen:c.ag.length<=3/\c.ae.length<=4
   ·rw [aX hlen,aW] at hB
    refine gf d9 ?_ o185
    refine Mj (fun im fK=>?_)
    refine Mj (fun ia gV=>?_)
    refine Mj (fun ii gU=>?_)
    have gk:∀{S':Sig} {names ae hs d n},PS f ip ic is V S' names ae hs d n->∀k,S' k=none->V k=none:=fun h=>h.non
    have gJ:=gk hP
    obtain⟨ea,gn⟩:=A4 gV
    obtain⟨ei,fY⟩:=A4 gU
    obtain⟨ei2,gj⟩:=A4 fY
    have hD:Dst ip ic is isn im ia ii:=⟨A7 hP.prg hP.cls (by simp),A7 hP.prg hP.slo (by simp),A7 hP.prg e8 (by simp),A0 hP.prg fK,A0 hP.prg gn,A0 hP.prg gj,
     gM,aQ d2,A0 hP.cls fK,A0 hP.cls gn,A0 hP.cls gj,aQ d3,A0 hP.slo fK,A0 hP.slo gn,A0 hP.slo gj,A0 e8 fK,A0 e8 gn,A0 e8 gj,aQ ea,aQ ei2,aQ ei⟩
    have iV:IS f ip ic is isn im ia ii V (((S1.set im (.map (eSS []))).set ia (.map (eSS []))).set ii (.map (eSS []))) names ae hs d names [] [] []:=
     ⟨((hP.fresh fK).fresh gV).fresh gU,by rw[w8 _ _ hD.d3,w8 _ _ hD.d2,w8 _ _ hD.d1];exact e8,by rw[w8 _ _ hD.e2,w8 _ _ hD.e1,w7],by rw[w8 _ _ hD.e3,w7],w7 ..⟩
    have z1:=gJ im fK
    have z2:=gJ ia gn
    have z3:=gJ ii gj
    have z4:V isn=none:=fO
    clear iJ
    generalize (((S1.set im (.map (eSS []))).set ia (.map (eSS []))).set ii (.map (eSS [])))=S2 at*
    refine gf d9 ?_ o185
    refine CK [0,2,3,4,5,6,7,14,16,30,31,32,33,34,35,36,37,38,39,40,41,42,43,44,45,46,47,48,49,50,51,52,53,87,88,89,90,91,92,93,94,95,96,97,98,99,100,101,102,103,104,105,106,107,108,109,110,111,112,113,114,115,116,117,118,119,120,121,122,123,124,125,126,127,128,129,130,131,132,133,134,135,136,137,138,139,140,141,142,143,144,145,146,147,148,149,150,151,152,153,154,155] (fun (j:Nat) (S3:Sig) (t:fD)=>j<=c.ag.length/\IS f ip ic is isn im ia ii V S3 names ae hs d names t (c.ag.take j) []/\(∀x,x∈t ↔ x∈(c.ag.take j).flatMap (NS names hs))/\clsB f=(parE names (c.ag.take j) (c.ag.drop j)&&(sloE ae c.ae&&(iniE (Eu names hs c) [] c.ai&&((AJ c.name&&!decide (c.name∈names))&&clsE (names++[c.name]) (ae++c.ae) (hs++[Eu names hs c]) (f.aa.drop (i+1))))))) (fun j _ _=>[(54,dI j)]) (fun _ S3 _=>S3) (fun j _ _=>c.ag.length-j) (0) (S2) ([]) (by exact⟨by omega,iV,by simp,hB⟩) (fun j S3 t hI=>?_)
    clear hB
    obtain⟨hj,hS,ht,hB⟩:=hI
    by_cases ga:j<c.ag.length
    ·rw [A2 ga,parE] at hB
     have o1:=hS.ps.prg
     have o2:=hS.ps.cls
     have gb:(c.ag[j]).length<=1073741824:=by have:=J2 c.ag j ga;omega
     by_cases e9:c.ag[j]∈names
     ·rw [aX e9,aW] at hB
      obtain⟨g1,g2,g3⟩:=WR e9
      refine gf (gi d9 (gi o1 (gi o2 (gi Fc e9)))) ?_ o185
      refine Ac (ER c.ag[j] ia (c.ag.take j) S3 hS.oa gb) (fun e S4 hr=>?_) (fun e S4 hr=>?_)
      ·rcases hr with⟨q1,q2,gC⟩|⟨_,q2,_⟩
       ·simp only[DE.ret.injEq]at q2
        subst q2
        rw[q1,aW]at hB
        have gr:=hS.seta hD z2 (c.ag.take j++[c.ag[j]])
        rw[<-gC,<-AH ga]at gr
        rw[<-AH ga]at hB
        clear gC
        have o3:=gr.ps.prg
        rcases gr.ps.has with⟨gK,_⟩|⟨ih,hd,fL,_⟩
        ·rw[gK]at gx;simp at gx;omega
        ·obtain⟨q,hq⟩:∃q:Nat,getM 0 c.ag[j] (C4 names 0)=(q:Int):=⟨(getM 0 c.ag[j] (C4 names 0)).toNat,by omega⟩
         have iC:q<hs.length:=by omega
         have iU:NS names hs c.ag[j]=hs[q]:=by unfold NS;rw[show(idxG c.ag[j] names 0).toNat=q by omega,aM iC];rfl
         have iQ:cM hs[q]=[.cmap (hs[q].map .str) (hs[q].map fun _=>.bool true)]:=rfl
         rw[hd]at o3
         refine gf (gi o3 (gi hq iQ)) ?_ o185
         refine rng (kt:=9) (et:=4) (l:=eSS hs[q]) (fun it gT=>?_) (hx:=by rw[<-SM];with_unfolding_all rfl)
         have go:=gr.fresh (o:=.iter (eSS hs[q]) none) gT
         have z5:=gk gr.ps it gT
         refine gz ?_ o185
         refine Po [0,2,3,4,5,6,7,9,10,11,14,16,30,31,32,33,34,35,36,37,38,39,40,41,42,43,44,45,46,47,48,49,50,51,52,53,54,55,56,57,58,59,60,61,62,63,64,65,66,67,68,69,70,71,72,73,74,75,76,77,78,79,86,87,88,89,90,91,92,93,94,95,96,97,98,99,100,101,102,103,104,105,106,107,108,109,110,111,112,113,114,115,116,117,118,119,120,121,122,123,124,125,126,127,128,129,130,131,132,133,134,135,136,137,138,139,140,141,142,143,144,145,146,147,148,149,150,151,152,153,154,155] (fun (L:fD) (u:fD) (S5:Sig) (la:Option (D×D))=>(∀x,(x∈u\/x∈L) ↔ (x∈t\/x∈hs[q]))/\IS f ip ic is isn im ia ii V S5 names ae hs d names u (c.ag.take (j+1)) []/\S5 it=some (.iter (eSS L) la)) (fun _ _ _ _=>[]) (fun _ _ S5 _=>S5) (fun L _ _ _=>L.length) (hs[q]) (t) (_) (none) (by exact⟨fun x=>Iff.rfl,go,w7 ..⟩) (fun L u S5 la hI=>?_)
         obtain⟨hL,e7,fP⟩:=hI
         refine gz ?_ o185
         refine nxt (fun gZ=>?_) (fun jj k v iM=>?_) (hi:=fP)
         ·have iW:L=[]:=by unfold eSS eS at gZ;simpa using gZ
          subst iW
          refine gz ?_ o185
          exact⟨j+1,S5,u,by refine⟨by omega,e7,fun x=>?_,hB⟩;rw[AH ga,eW,bk,<-ht x,cz,eC,bb,iU,<-hL x];simp,td1,wkR⟩
         ·obtain⟨gS,rfl,rfl⟩:=VS iM
          rw[OF]
          have gW:=e7.iter (o:=.iter (eSS (L.eraseIdx jj)) (some (D.str L[jj],D.bool true))) z5 fP
          have o7:=gW.om
          refine gz ?_ o185
          refine ent ?_
          refine gf o7 ?_ o185
          have iZ:(L.eraseIdx jj).length<L.length:=by rw[eT,aS gS];omega
          have fV:it≠im:=fun e=>by rw[e,e7.om]at fP;cases fP
          exact⟨L.eraseIdx jj,ins L[jj] u,_,_,by refine⟨fun x=>?_,gW.setm hD z1 _,by rw[w8 _ _ fV];exact w7 ..⟩;rw[I6,<-hL x,JH gS x];grind,td1,wkR⟩
       ·cases q2
      ·rcases hr with⟨_,q2,_⟩|⟨q1,q2,gC⟩
       ·cases q2
       ·have hF:clsB f=false:=by rw[hB,q1];rfl
        simp only[DE.panic.injEq]at q2
        subst q2 gC
        exact finP (S':=_) (d7 hF _ _ _ _ _ _ hS.ps)
     ·have hF:clsB f=false:=by rw[hB,aV e9];rfl
      repeat' first|(exact finP (S':=S3) (d7 hF _ _ _ _ _ _ hS.ps))|refine gf (gi d9 (gi o1 (gi o2 (gi Fc e9)))) ?_ o185|apply gy<;>intro hh
    ·rw [A1 ga,parE,aW] at hB
     rw[bA (by omega)]at hS ht
     refine gf d9 ?_ o185
     refine CK [0,2,3,4,5,6,7,9,10,11,12,16,30,31,32,33,34,35,36,37,38,39,40,41,42,43,44,45,46,47,48,49,50,51,52,53,54,55,56,57,58,59,60,61,62,63,64,65,66,67,68,69,70,71,72,73,74,75,76,77,78,79,80,81,82,83,84,85,86,87,88,89,103,104,105,106,107,108,109,110,111,112,113,114,115,116,117,118,119,120,121,122,123,124,125,126,127,128,129,130,131,132,133,134,135,136,137,138,139,140,141,142,143,144,145,146,147,148,149,150,151,152,153,154,155] (fun (k:Nat) (S4:Sig) (u:fD)=>k<=c.ae.length/\IS f ip ic is isn im ia ii V S4 names (ae++c.ae.take k) hs d names u c.ag []/\(∀x,x∈u ↔ (x∈c.ag.flatMap (NS names hs)\/x∈c.ae.take k))/\clsB f=(sloE (ae++c.ae.take k) (c.ae.drop k)&&(iniE (Eu names hs c) [] c.ai&&((AJ c.name&&!decide (c.name∈names))&&clsE (names++[c.name]) (ae++c.ae) (hs++[Eu names hs c]) (f.aa.drop (i+1)))))) (fun k _ _=>[(90,dI k)]) (fun _ S4 _=>S4) (fun k _ _=>c.ae.length-k) (0) (S3) (t) (by exact⟨by omega,by simpa using hS,by simpa using ht,by simpa using hB⟩) (fun k S4 u hI=>?_)
     clear hB hS ht
     obtain⟨hk,hS,ht,hB⟩:=hI
     by_cases fJ:k<c.ae.length
     ·rw[A2 fJ,sloE]at hB
      have o1:=hS.ps.prg
      have gb:(c.ae[k]).length<=1073741824:=by have:=J2 c.ae k fJ;omega
      refine gf (gi d9 o1) ?_ o185
      refine Ac (ER c.ae[k] is (ae++c.ae.take k) S4 hS.ps.slo gb) (fun e S5 hr=>?_) (fun e S5 hr=>?_)
      ·rcases hr with⟨q1,q2,gB⟩|⟨_,q2,_⟩
       ·simp only[DE.ret.injEq]at q2
        subst q2
        have go:=hS.sets hD (ae++c.ae.take k++[c.ae[k]])
        rw[<-gB,aT,<-AH fJ]at go
        rw[q1,aW,aT,<-AH fJ]at hB
        clear gB
        have o3:=go.om
        refine gf o3 ?_ o185
        exact⟨k+1,_,ins c.ae[k] u,by refine⟨by omega,go.setm hD z1 _,fun x=>?_,hB⟩;rw[I6,ht x,AH fJ,bk,bM];grind,td1,wkR⟩
       ·cases q2
      ·rcases hr with⟨_,q2,_⟩|⟨q1,q2,gB⟩
       ·cases q2
       ·have hF:clsB f=false:=by rw[hB,q1];rfl
        simp only[DE.panic.injEq]at q2
        subst q2 gB
        exact finP (S':=_) (d7 hF _ _ _ _ _ _ hS.ps)
     ·rw [A1 fJ,sloE,aW] at hB
      rw[bA (by omega)]at hS ht
      have gP:∀x,x∈u ↔ x∈Eu names hs c:=fun x=>by rw[ht x,Eu,bk]
      rw[<-I9 gP]at hB
      refine gf d9 ?_ o185
      refine AB [0,2,3,4,5,6,7,9,10,11,12,14,30,31,32,33,34,35,36,37,38,39,40,41,42,43,44,45,46,47,48,49,50,51,52,53,54,55,56,57,58,59,60,61,62,63,64,65,66,67,68,69,70,71,72,73,74,75,76,77,78,79,80,81,82,83,84,85,86,87,88,89,90,91,92,93,94,95,96,97,98,99,100,101,102,103,104,105,125,126,127,128,129,130,131,132,133,134,135,136,137,138,139,140,141,142,143,144,145,146,147,148,149,150,151,152,153,154,155] (fun (q:Nat) (S5:Sig)=>q<=c.ai.length/\IS f ip ic is isn im ia ii V S5 names (ae++c.ae) hs d names u c.ag ((c.ai.take q).map (·.slot))/\clsB f=(iniE u ((c.ai.take q).map (·.slot)) (c.ai.drop q)&&((AJ c.name&&!decide (c.name∈names))&&clsE (names++[c.name]) (ae++c.ae) (hs++[Eu names hs c]) (f.aa.drop (i+1))))) (fun q _=>[(106,dI q)]) (fun _ S5=>S5) (fun q _=>c.ai.length-q) (0) (S4) (by exact⟨by omega,by simpa using hS,by simpa using hB⟩) (fun q S5 hI=>?_)
      clear hB hS
      obtain⟨hq,hS,hB⟩:=hI
      by_cases gv:q<c.ai.length
      ·rw [A2 gv,iniE] at hB
       have o1:=hS.om
       have gb:(c.ai[q]).slot.length<=1073741824:=by have:=c5 q gv;omega
       generalize hx:c.ai[q]=x at*
       cases fZ:decide (x.slot∈u)&&inB x.n with
       |false=>
        have hF:clsB f=false:=by rw[hB,fZ];rfl
        repeat' first|(exact finP (S':=_) (d7 hF _ _ _ _ _ _ hS.ps))|refine gf (gi d9 (gi o1 hx)) ?_ o185|apply gy<;>intro hh
        rename_i k1
        rw[aX k1,hh]at fZ;cases fZ
       | true =>
        rw[fZ,aW]at hB
        simp only[aI,aL]at fZ
        refine gf (gi d9 (gi o1 (gi hx (gi fZ.1 fZ.2)))) ?_ o185
        refine Ac (ER x.slot ii ((c.ai.take q).map (·.slot)) S5 hS.oi gb) (fun e S6 hr=>?_) (fun e S6 hr=>?_)
        ·rcases hr with⟨q1,q2,fQ⟩|⟨_,q2,_⟩
         ·simp only[DE.ret.injEq]at q2
          subst q2
          have e3:(c.ai.take (q+1)).map (·.slot)=(c.ai.take q).map (·.slot)++[x.slot]:=by rw[AH gv,bI,hx];rfl
          have e7:=hS.seti hD z3 ((c.ai.take q).map (·.slot)++[x.slot])
          rw[<-fQ,<-e3]at e7
          rw[q1,aW,<-e3]at hB
          clear fQ
          refine gz ?_ o185
          exact⟨q+1,_,⟨by omega,e7,hB⟩,td1,wkR⟩
         ·cases q2
        ·rcases hr with⟨_,q2,_⟩|⟨q1,q2,fQ⟩
         ·cases q2
         ·have hF:clsB f=false:=by rw[hB,q1];rfl
          simp only[DE.panic.injEq]at q2
          subst q2 fQ
          exact finP (S':=_) (d7 hF _ _ _ _ _ _ hS.ps)
      ·rw [A1 gv,iniE,aW] at hB
       refine gz ?_ o185
       refine Ac (ER c.name isn names S5 hS.osn (by omega)) (fun e S6 hr=>?_) (fun e S6 hr=>?_)
       ·rcases hr with⟨q1,q2,fQ⟩|⟨_,q2,_⟩
        ·simp only[DE.ret.injEq]at q2
         subst q2
         have e7:=hS.setn hD z4 (names++[c.name])
         rw[<-fQ]at e7
         rw[q1,aW]at hB
         have gR:¬c.name∈names:=by simp only[aI,bw,be]at q1;exact q1.2
         clear fQ
         refine gz ?_
         have gA:=e7.delm hD z1
         refine dwp_wk (J4 (t:=5) e7.om (by exact Ap tdR)) ?_
         rw[VT,VR]
         have gE:(S6.del im) isn=some (.map (eSS (names++[c.name]))):=by simp only[Sig.del,hD.d1,bd];exact e7.osn
         clear hS e7
         generalize S6.del im=S7 at*
         have o1:=gA.prg
         have o2:=gA.cls
         have d8:=gA.setc hD.a1 hD.b1 gR
         have d6:putM c.name (i:Int) (C4 names 0)=C4 (names++[c.name]) 0:=by have:=Tb c.name names 0 gR;rw[iE]at this;simpa using this
         have fN:(S7.set ic (.map (eSN (C4 (names++[c.name]) 0)))) isn=some (.map (eSS (names++[c.name]))):=by rw[w8 _ _ (aQ hD.b2)];exact gE
         have o3:=d8.prg
         have iK:SameE (hs++[Eu names hs c]) (hs++[u]):=by
          refine⟨by simp,fun k x=>?_⟩
          by_cases h1:k<hs.length
          ·rw[bx h1,bx h1]
          ·rw[bR (by omega),bR (by omega)]
           by_cases h2:k-hs.length=0
           ·rw[h2];simpa using(gP x).symm
           ·rw[bQ (by simp;omega),bQ (by simp;omega)]
         rw[LQ _ _ _ _ _ iK]at hB
         have f7:(f.aa.take (i+1)).map (·.name)=names++[c.name]:=by rw[AH gg,bI,iD,d9];rfl
         have fU:(f.aa.take (i+1)).flatMap (·.ae)=ae++c.ae:=by rw[AH gg,eW,iv,d9];simp
         rcases d8.has with⟨gK,gL⟩|⟨ih,gL,fL,gh⟩
         ·subst gK
          rw[gL]at o1 o3 d8 gA
          refine gf (gi o1 (gi o2 (gi o3 d6))) ?_ o185
          refine appN (fun ih fL=>?_)
          have gw:ip≠ih:=A0 d8.prg fL
          have gY:=d8.fresh (o:=.tail 1 1) fL
          have o4:=gY.prg
          rw[show DObj.tail (tab 253).size ([[D.cmap (u.map D.str) (u.map fun _=>D.bool true)]]:fH).length=.tail 1 1 by simp]
          refine gf (gi o4 o3) ?_ o185
          have fR:=gY.setp (d':=.slice (cMs ([]++[u])) (.tag ih)) (n':=0) (hs':=[]++[u]) hD.a1 hD.a2 (.inr ⟨ih,rfl,by rw[w8 _ _ (aQ gw),w7];rfl,d8.non ih fL⟩)
          exact⟨i+1,_,[]++[u],_,by refine⟨by omega,by simp at gx⊢; omega,?_,by rw[f7,fU];exact fR,by rw[f7,fU];exact hB⟩;rw[f7,w8 _ _ (aQ hD.a3),w8 _ _ (A0 fN fL)];exact fN,td1,wkR⟩
         ·have gw:ip≠ih:=A7 d8.prg fL (by simp)
          rw[gL]at o1 o3 d8
          refine gf (gi o1 (gi o2 (gi o3 (gi d6 (gi fL gw))))) ?_ o185
          have iR:ic≠ih:=A7 d8.cls fL (by simp)
          have iy:is≠ih:=A7 d8.slo fL (by simp)
          have iF:isn≠ih:=A7 fN fL (by simp)
          have fR:PS f ip ic is V (((S7.set ic (.map (eSN (C4 (names++[c.name]) 0)))).set ih (.tail 1 (hs.length+1))).set ip (pObj f ic is (.slice (cMs (hs++[u])) (.tag ih)) 0)) (names++[c.name]) (ae++c.ae) (hs++[u]) (.slice (cMs (hs++[u])) (.tag ih)) 0:=
           ⟨w7 .., by rw [w8 _ _ (aQ hD.a1),w8 _ _ iR];exact d8.cls,by rw [w8 _ _ (aQ hD.a2),w8 _ _ iy];exact d8.slo, .inr ⟨ih,rfl,by rw [w8 _ _ (aQ gw),w7,aH];rfl,gh⟩,fun j x h1 h2=>by
            rw[w8 _ _ fun e=>h2 (.inl e),w8 _ _ fun e=>by rw[e,gh]at h1;cases h1];exact d8.keep j x h1 h2⟩
          rw[<-cMs_app]at fR
          exact⟨i+1,_,hs++[u],_,by refine⟨by omega,by rw[aH,gx];rfl,?_,by rw[f7,fU];exact fR,by rw[f7,fU];exact hB⟩;rw[f7,w8 _ _ (aQ hD.a3),w8 _ _ iF];exact fN,td1,wkR⟩
        ·cases q2
       ·rcases hr with⟨_,q2,_⟩|⟨q1,q2,fQ⟩
        ·cases q2
        ·have hF:clsB f=false:=by rw[hB,q1];rfl
         simp only[DE.panic.injEq]at q2
         subst q2 fQ
         exact finP (S':=_) (d7 hF _ _ _ _ _ _ hS.ps)
   ·have hF:clsB f=false:=by rw[hB,aV hlen];rfl
    repeat' first|(exact finP (S':=S1) (d7 hF _ _ _ _ _ _ hP))|refine gf d9 ?_ o185|apply gy<;>intro hh
    all_goals (exfalso;omega)
  ·have gI:i=f.aa.length:=by omega
   subst gI
   rw[A1 gg,clsE]at hB
   rw[dr]at hP
   have jc:=hP.has
   refine gf gc ?_ o185
   refine Ef (S':=_) ?_
   unfold ClsR
   rw[hB,aS rfl]
   exact⟨rfl,hs,d,hP.setp (A7 hP.prg hP.cls (by simp)) (A7 hP.prg hP.slo (by simp)) (hP.has.set (by rw[gc];simp))⟩
 ·have hF:clsB f=false:=by unfold clsB;rw[aV g6];rfl
  repeat' first|(exact finP (S':=V) (d7 hF _ _ _ _ _ _ h0))|refine gf gH ?_ o185|apply gy<;>intro hh
def pE(x:aB):D:=.iface 308 (.agg (Al x))
def pEs(l:List aB):fH:=l.map fun x=>[pE x]
@[simp] theorem pEs_len(l:List aB):(pEs l).length=l.length:=by simp[pEs]
@[simp] theorem pEs_get(l:List aB)(k:Nat):(pEs l)[k]? = (l[k]?).map fun x=>[pE x]:=by simp[pEs]
@[simp] theorem pEs_all(l:List aB):(pEs l).all (fun c=>c.length==1)=true:=by simp[pEs]
theorem pEs_app(l:List aB)(x:aB):pEs l++[[.iface 308 (.agg (Al x))]]=pEs (l++[x]):=by simp[pEs,pE]
theorem O5(x:aB)(V:Sig)(hw:x.wt<=1073741824):au prog 330 [.agg (Al x)] V (rS (sl (pEs x.ah)) V):=by
 have fJ:x.ah.length<=1073741824:=by have:=x.wt_le;omega
 refine en func330 ntmps330 ?_
 refine gz ?_
 refine Bv 3 1 (fun i hi=>?_)
 refine B5 [2,8,9,21] (fun (k:Nat)=>k<=x.ah.length) (fun k=>[(10,dI k),(3,.slice (pEs (x.ah.take k)) (.tag i))]) (fun k=>V.set i (.tail 1 k)) (fun k=>x.ah.length-k) (0) (by simp) (fun k hI=>?_)
 by_cases h:k<x.ah.length
 ·have e:=pEs_app (x.ah.take k) x.ah[k]
  rw[<-AH h]at e
  refine gf (gi h e) ?_
  exact⟨k+1,by omega,td1,wkR⟩
 ·rw[show x.ah.take k=x.ah from bA (by omega)]
  refine gf h ?_
  exact finS (S':=V) (es:=pEs x.ah) ⟨by rfl,rfl⟩
theorem TG : Ku prog 308 "consort/shape.parts" 330 := by
 intro v w;kernel_rfl
mutual
def visE{S:Type}(step:Int->aB->S->Option S):aB->Int->S->Option S
 |.mk o n t k,d,s=>match step d (.mk o n t k) s with
  |none=>none
  |some s'=>Du step k (d+1) s'
def Du{S:Type}(step:Int->aB->S->Option S):List aB->Int->S->Option S
 |[],_,s=>some s
 |x::r,d,s=>match visE step x d s with
  |none=>none
  |some s'=>Du step r d s'
end
theorem M5{S:Type}(step:Int->aB->S->Option S)(x:aB)(d:Int)(s:S):visE step x d s=match step d x s with
  |none=>none
  |some s'=>Du step x.ah (d+1) s':=by cases x;rw[visE];rfl
theorem Rx{S:Type}(l i:Nat)(Good:Sig->S->Prop)(Bad:Sig->Prop)(touch:Nat->Prop)(step:Int->aB->S->Option S)(fV:¬touch i)
  (hy:∀(d:Int) (x:aB) V s,1<=d->d<=2147483648->x.wt<=1073741824->Good V s->DYield prog l [dI d,pE x] V (OutO unf2 (.bool true) Good Bad touch V (step d x s))) :
  ∀(n:Nat) (x:aB) (d:Int) V s,x.wt<=n->n<=1073741824->1<=d->d+n<=2147483648->Good V s->V i=some (.cells [.func (.func 279) [] [.am [.yld l] 0,.ptr i 0]])->
   au prog 279 [pE x,dI d,.am [.yld l] 0,.ptr i 0] V (OutO unf2 (.bool true) Good Bad touch V (visE step x d s)):=by
 intro n
 induction n with
 |zero=>
  intro x d V s hx
  have:=x.wt_pos
  omega
 | succ n ih =>
  intro x d V s hx hn hd iP hG hi
  have d6:pE x=.iface 308 (.agg (Al x)):=rfl
  refine en func279 ntmps279 ?_
  refine gz ?_
  refine yldW (hy d x V s hd (by omega) (by omega) hG) (fun e S' hr=>?_) (fun e S' hr=>?_)
  ·obtain⟨s',fW,rfl,f6,hK⟩:=hr.ret
   have iO:=hK i _ hi fV
   rw[M5,fW]
   simp only
   have gD:∀(k:Nat) (h:k<x.ah.length),(x.ah[k]).wt<x.wt:=by have:=x.wt_le;grind
   have fJ:x.ah.length<=1073741824:=by have:=x.wt_le;omega
   refine gz ?_
   refine invW TG (O5 x S' (by omega)) (fun e S2 hr=>?_) (fun e S2 hr=>by cases hr.1) (hx:=by exact d6)
   obtain⟨h1,h2⟩:=hr
   simp only[DE.ret.injEq]at h1
   subst h1
   rw[h2]
   clear h2 S2
   refine gz ?_
   refine CK [1,3,15,16] (fun (j:Nat) (s1:S) (S1:Sig)=>j<=x.ah.length/\Good S1 s1/\Du step x.ah (d+1) s'=Du step (x.ah.drop j) (d+1) s1/\(∀j o,V j=some o->¬touch j->S1 j=some o)) (fun j _ _=>[(17,dI j)]) (fun _ _ S1=>S1) (fun j _ _=>x.ah.length-j) (0) (s') (S') (by exact⟨by omega,f6,rfl,hK⟩) (fun j s1 S1 hI=>?_)
   obtain⟨hj,gu,hR,f0⟩:=hI
   have fY:=f0 i _ hi fV
   by_cases fX:j<x.ah.length
   ·rw[A2 fX,Du]at hR
    refine gf fY ?_
    refine Ac (ih x.ah[j] (d+1) S1 s1 (by have:=gD j fX;omega) (by omega) (by omega) (by omega) gu fY) (fun e S2 hr=>?_) (fun e S2 hr=>?_)
    ·obtain⟨s2,fU,rfl,gO,gN⟩:=hr.ret
     rw[fU]at hR
     refine gz ?_
     exact⟨j+1,s2,S2,⟨by omega,gO,hR,fun j o h1 h2=>gN _ _ (f0 _ _ h1 h2) h2⟩,td1,wkR⟩
    ·obtain⟨hn,rfl,hb⟩:=hr.pan
     rw[hn]at hR;rw[hR]
     exact finP (S':=S2) ⟨rfl,hb⟩
   ·rw[A1 fX,Du]at hR
    rw[hR]
    refine gz ?_
    refine fin1 (S':=S1) ?_
    exact⟨rfl,gu,f0⟩
  ·obtain⟨fW,rfl,hb⟩:=hr.pan
   rw[M5,fW]
   exact finP (S':=S') ⟨rfl,hb⟩
theorem Ln{S:Type}(l:Nat)(Good:Sig->S->Prop)(Bad:Sig->Prop)(touch:Nat->Prop)(step:Int->aB->S->Option S)
  (hy:∀(d:Int) (x:aB) V s,1<=d->d<=2147483648->x.wt<=1073741824->Good V s->DYield prog l [dI d,pE x] V (OutO unf2 (.bool true) Good Bad touch V (step d x s)))
  (hm : ∀ V s a o,Good V s->V a=none->Good (V.set a o) s) (x:aB) (V:Sig) (s:S) (ht : ∀ a,V a=none -> ¬ touch a) (hx:x.wt<=1073741824) (hG:Good V s) :
   au prog 278 [.yld l,.am [pE x] 0] V (OutO unf2 (.tup []) Good Bad touch V (visE step x 1 s)):=by
 refine en func278 ntmps278 ?_
 refine gz ?_ [] [3]
 refine newV (fun a ha=>?_)
 refine gz ?_ [] [3]
 refine Ac (Rx l a Good Bad touch step (ht a ha) hy x.wt x 1 (V.set a _) s (bm _) hx (by omega) (by omega) (hm _ _ _ _ hG ha) (w7 ..)) (fun e S' hr=>?_) (fun e S' hr=>?_)
 ·obtain⟨s',hs',rfl,f6,hK⟩:=hr.ret
  rw[hs']
  refine gz ?_ [] [3]
  refine Ef (S':=S') ?_
  exact⟨rfl,f6,fun j o h1 h2=>hK j o (by rw[w8 _ _ fun e=>by rw[e,ha]at h1;cases h1];exact h1) h2⟩
 ·obtain⟨hn,rfl,hb⟩:=hr.pan
  rw[hn]
  exact finP (S':=S') ⟨rfl,hb⟩
theorem RJ(x:aB)(V:Sig):au prog 241 [pE x] V (rS (.func (.func 278) [] [.am [pE x] 0]) V):=by
 have d6:pE x=.iface 308 (.agg (Al x)):=rfl
 rw[d6]
 refine en func241 ntmps241 ?_
 refine gz ?_
 exact fe1 trivial
@[reducible,instance] def a241e:=fun x V=>ah0 (@RJ x V)
def pF(x:aC):D:=.iface 316 (.agg (B6 x))
def pFs(l:List aC):fH:=l.map fun x=>[pF x]
@[simp] theorem pFs_len(l:List aC):(pFs l).length=l.length:=by simp[pFs]
@[simp] theorem pFs_get(l:List aC)(k:Nat):(pFs l)[k]? = (l[k]?).map fun x=>[pF x]:=by simp[pFs]
@[simp] theorem pFs_all(l:List aC):(pFs l).all (fun c=>c.length==1)=true:=by simp[pFs]
theorem pFs_app(l:List aC)(x:aC):pFs l++[[.iface 316 (.agg (B6 x))]]=pFs (l++[x]):=by simp[pFs,pF]
theorem Uc(x:aC)(V:Sig)(hw:x.wt<=1073741824):au prog 331 [.agg (B6 x)] V (rS (sl (pFs x.ah)) V):=by
 have fJ:x.ah.length<=1073741824:=by have:=x.wt_le;omega
 refine en func331 ntmps331 ?_
 refine gz ?_
 refine Bv 3 1 (fun i hi=>?_)
 refine B5 [2,8,9,21] (fun (k:Nat)=>k<=x.ah.length) (fun k=>[(10,dI k),(3,.slice (pFs (x.ah.take k)) (.tag i))]) (fun k=>V.set i (.tail 1 k)) (fun k=>x.ah.length-k) (0) (by simp) (fun k hI=>?_)
 by_cases h:k<x.ah.length
 ·have e:=pFs_app (x.ah.take k) x.ah[k]
  rw[<-AH h]at e
  refine gf (gi h e) ?_
  exact⟨k+1,by omega,td1,wkR⟩
 ·rw[show x.ah.take k=x.ah from bA (by omega)]
  refine gf h ?_
  exact finS (S':=V) (es:=pFs x.ah) ⟨by rfl,rfl⟩
theorem meth331 : Ku prog 316 "consort/shape.parts" 331 := by
 intro v w;kernel_rfl
mutual
def visF{S:Type}(step:Int->aC->S->Option S):aC->Int->S->Option S
 |.mk o nm pa cl n k,d,s=>match step d (.mk o nm pa cl n k) s with
  |none=>none
  |some s'=>Gw step k (d+1) s'
def Gw{S:Type}(step:Int->aC->S->Option S):List aC->Int->S->Option S
 |[],_,s=>some s
 |x::r,d,s=>match visF step x d s with
  |none=>none
  |some s'=>Gw step r d s'
end
theorem SR{S:Type}(step:Int->aC->S->Option S)(x:aC)(d:Int)(s:S):visF step x d s=match step d x s with
  |none=>none
  |some s'=>Gw step x.ah (d+1) s':=by cases x;rw[visF];rfl
theorem Rw{S:Type}(l i:Nat)(Good:Sig->S->Prop)(Bad:Sig->Prop)(touch:Nat->Prop)(step:Int->aC->S->Option S)(fV:¬touch i)
  (hy:∀(d:Int) (x:aC) V s,1<=d->d<=2147483648->x.wt<=1073741824->Good V s->DYield prog l [dI d,pF x] V (OutO unf2 (.bool true) Good Bad touch V (step d x s))) :
  ∀(n:Nat) (x:aC) (d:Int) V s,x.wt<=n->n<=1073741824->1<=d->d+n<=2147483648->Good V s->V i=some (.cells [.func (.func 279) [] [.am [.yld l] 0,.ptr i 0]])->
   au prog 279 [pF x,dI d,.am [.yld l] 0,.ptr i 0] V (OutO unf2 (.bool true) Good Bad touch V (visF step x d s)):=by
 intro n
 induction n with
 |zero=>
  intro x d V s hx
  have:=x.wt_pos
  omega
 | succ n ih =>
  intro x d V s hx hn hd iP hG hi
  have d6:pF x=.iface 316 (.agg (B6 x)):=rfl
  refine en func279 ntmps279 ?_
  refine gz ?_
  refine yldW (hy d x V s hd (by omega) (by omega) hG) (fun e S' hr=>?_) (fun e S' hr=>?_)
  ·obtain⟨s',fW,rfl,f6,hK⟩:=hr.ret
   have iO:=hK i _ hi fV
   rw[SR,fW]
   simp only
   have gD:∀(k:Nat) (h:k<x.ah.length),(x.ah[k]).wt<x.wt:=by have:=x.wt_le;grind
   have fJ:x.ah.length<=1073741824:=by have:=x.wt_le;omega
   refine gz ?_
   refine invW meth331 (Uc x S' (by omega)) (fun e S2 hr=>?_) (fun e S2 hr=>by cases hr.1) (hx:=by exact d6)
   obtain⟨h1,h2⟩:=hr
   simp only[DE.ret.injEq]at h1
   subst h1
   rw[h2]
   clear h2 S2
   refine gz ?_
   refine CK [1,3,15,16] (fun (j:Nat) (s1:S) (S1:Sig)=>j<=x.ah.length/\Good S1 s1/\Gw step x.ah (d+1) s'=Gw step (x.ah.drop j) (d+1) s1/\(∀j o,V j=some o->¬touch j->S1 j=some o)) (fun j _ _=>[(17,dI j)]) (fun _ _ S1=>S1) (fun j _ _=>x.ah.length-j) (0) (s') (S') (by exact⟨by omega,f6,rfl,hK⟩) (fun j s1 S1 hI=>?_)
   obtain⟨hj,gu,hR,f0⟩:=hI
   have fY:=f0 i _ hi fV
   by_cases fX:j<x.ah.length
   ·rw[A2 fX,Gw]at hR
    refine gf fY ?_
    refine Ac (ih x.ah[j] (d+1) S1 s1 (by have:=gD j fX;omega) (by omega) (by omega) (by omega) gu fY) (fun e S2 hr=>?_) (fun e S2 hr=>?_)
    ·obtain⟨s2,fU,rfl,gO,gN⟩:=hr.ret
     rw[fU]at hR
     refine gz ?_
     exact⟨j+1,s2,S2,⟨by omega,gO,hR,fun j o h1 h2=>gN _ _ (f0 _ _ h1 h2) h2⟩,td1,wkR⟩
    ·obtain⟨hn,rfl,hb⟩:=hr.pan
     rw[hn]at hR;rw[hR]
     exact finP (S':=S2) ⟨rfl,hb⟩
   ·rw[A1 fX,Gw]at hR
    rw[hR]
    refine gz ?_
    refine fin1 (S':=S1) ?_
    exact⟨rfl,gu,f0⟩
  ·obtain⟨fW,rfl,hb⟩:=hr.pan
   rw[SR,fW]
   exact finP (S':=S') ⟨rfl,hb⟩
theorem Lm{S:Type}(l:Nat)(Good:Sig->S->Prop)(Bad:Sig->Prop)(touch:Nat->Prop)(step:Int->aC->S->Option S)
  (hy:∀(d:Int) (x:aC) V s,1<=d->d<=2147483648->x.wt<=1073741824->Good V s->DYield prog l [dI d,pF x] V (OutO unf2 (.bool true) Good Bad touch V (step d x s)))
  (hm : ∀ V s a o,Good V s->V a=none->Good (V.set a o) s) (x:aC) (V:Sig) (s:S) (ht : ∀ a,V a=none -> ¬ touch a) (hx:x.wt<=1073741824) (hG:Good V s) :
   au prog 278 [.yld l,.am [pF x] 0] V (OutO unf2 (.tup []) Good Bad touch V (visF step x 1 s)):=by
 refine en func278 ntmps278 ?_
 refine gz ?_ [] [3]
 refine newV (fun a ha=>?_)
 refine gz ?_ [] [3]
 refine Ac (Rw l a Good Bad touch step (ht a ha) hy x.wt x 1 (V.set a _) s (bm _) hx (by omega) (by omega) (hm _ _ _ _ hG ha) (w7 ..)) (fun e S' hr=>?_) (fun e S' hr=>?_)
 ·obtain⟨s',hs',rfl,f6,hK⟩:=hr.ret
  rw[hs']
  refine gz ?_ [] [3]
  refine Ef (S':=S') ?_
  exact⟨rfl,f6,fun j o h1 h2=>hK j o (by rw[w8 _ _ fun e=>by rw[e,ha]at h1;cases h1];exact h1) h2⟩
 ·obtain⟨hn,rfl,hb⟩:=hr.pan
  rw[hn]
  exact finP (S':=S') ⟨rfl,hb⟩
theorem RI(x:aC)(V:Sig):au prog 241 [pF x] V (rS (.func (.func 278) [] [.am [pF x] 0]) V):=by
 have d6:pF x=.iface 316 (.agg (B6 x)):=rfl
 rw[d6]
 refine en func241 ntmps241 ?_
 refine gz ?_
 exact fe1 trivial
@[reducible,instance] def a241f:=fun x V=>ah0 (@RI x V)
structure Sh where
 named:Bool
 lo:Int
 hi:Int
def cSh(s:Sh):D:=.agg [.bool s.named,dI s.lo,dI s.hi]
def eSh(m:List (Int×Sh)):List (D×D):=eM dI cSh m
theorem putSh(k:Int)(b:Bool)(x y:Int)(m:List (Int×Sh)):Cs (.int .i64) (.int .i64 k) (.agg [.bool b,.int .i64 x,.int .i64 y]) (eSh m)=some (eSh (putM k ⟨b,x,y⟩ m)):=Q4 keyI cSh k ⟨b,x,y⟩ m
theorem hitSh(k:Int)(m:List (Int×Sh)):hitD tab 369 true (Di (.int .i64) (.int .i64 k) (eSh m) 0)=some (.tup [cSh (getM ⟨false,0,0⟩ k m),.bool (hasM k m)]):=Mu keyI cSh rfl k m
def shapesL:List (Int×Sh):=[(1,⟨false,0,0⟩),(2,⟨false,0,0⟩),(18,⟨false,0,0⟩),(3,⟨true,0,0⟩),(6,⟨true,0,0⟩),(4,⟨true,1,1⟩),(8,⟨true,1,1⟩),(7,⟨true,2,2⟩),(9,⟨true,2,2⟩),(5,⟨true,1,3⟩),(10,⟨false,3,3⟩),(17,⟨false,1,1⟩),(11,⟨false,2,2⟩),
 (12,⟨false,2,2⟩),(13,⟨false,2,2⟩),(14,⟨false,2,2⟩),(15,⟨false,2,2⟩),(16,⟨false,2,2⟩)]
def shKs:fE:=(eSh shapesL).map (·.1)
def shVs:fE:=(eSh shapesL).map (·.2)
theorem sh_zip:shKs.zip shVs=eSh shapesL:=rfl
theorem Uk(V:Sig):au prog 302 [] V (rS (.cmap shKs shVs) V):=by
 refine en func302 ntmps302 ?_
 refine gz ?_
 refine newM (fun im fK=>?_)
 rw[show DObj.map []=.map (eSh []) from rfl]
 refine gf putSh ?_
 have iY:∀k:Nat,k<=5->k<5->putM (12+(k:Int)) ⟨false,2,2⟩ (shapesL.take (13+k))=shapesL.take (13+(k+1)):=by
  intro k h1 h2
  obtain rfl|rfl|rfl|rfl|rfl:k=0\/k=1\/k=2\/k=3\/k=4:=by omega
  all_goals rfl
 refine B5 [0,1,25] (fun (k:Nat)=>k<=5) (fun k=>[(2,dI (12+k))]) (fun k=>V.set im (.map (eSh (shapesL.take (13+k))))) (fun k=>5-k) (0) (by omega) (fun k hI=>?_)
 by_cases hk:k<5
 ·refine gf (gi putSh (iY k hI hk)) ?_
  exact⟨k+1,by omega,td1,wkR⟩
 ·obtain rfl:k=5:=by omega
  repeat ((fail_if_success (first|(refine cfr 25 (i:=im) (m:=eSh shapesL) (w7 ..) ?_)|fail));(refine goX1 trivial ?_))
  refine cfr 25 (i:=im) (m:=eSh shapesL) (w7 ..) ?_
  rw[Sig.set_del _ _ fK]
  refine gz ?_
  exact fe1 trivial
@[reducible,instance] def a302:=fun V=>ah0 (@Uk V)
def BT(has:Bool)(sh:Sh)(e:aB):Bool:=
 (has&&decide (sh.lo<=e.ah.length)&&decide (e.ah.length<=sh.hi)&&(sh.named == !decide (e.text=[])))&&((!sh.named||AJ e.text)&&(decide (e.n=0)||(decide (e.op=1)&&inB e.n)))
def F6(d:Int)(e:aB):Bool:=decide (d<=12)&&BT (hasM e.op shapesL) (getM ⟨false,0,0⟩ e.op shapesL) e
theorem RE(e:aB)(d:Int)(V:Sig)(hw:e.wt<=1073741824):au prog 274 [pE e,dI d] V fun x S'=>x=(if F6 d e then .ret (.tup []) else .panic unf2)/\S'=V:=by
 have d6:pE e=.iface 308 (.agg (Al e)):=rfl
 obtain⟨w1,w2,w3⟩:=e.wt_le
 refine en func274 ntmps274 ?_
 by_cases hd:d<=12
 ·refine gf d6 ?_
  refine mix [1,2,3,0,4,5,6,7,8,9,10] [8,9] ?_
  refine gz ?_ o274
  refine moQR ?_
  refine gf (gi sh_zip hitSh) ?_ o274
  refine NA (fun ic jb=>?_)
  generalize iz:getM ⟨false,0,0⟩ e.op shapesL=sh
  have gM:cSh sh=.agg [.bool sh.named,dI sh.lo,dI sh.hi]:=rfl
  rw[show F6 d e=BT (hasM e.op shapesL) sh e by unfold F6;rw[aX hd,iz];rfl]
  repeat' first|(exact finP (S':=V) ⟨by rw[aN];first|(simp_all [BT];done)|(simp[BT];intros;omega),rfl⟩)|refine gf gM ?_ o274|apply gy<;>intro hh
  all_goals refine Ef (S':=V) ⟨?_,rfl⟩
  all_goals (rw[aS];simp_all [BT])
 ·have hF:F6 d e=false:=by unfold F6;rw[aV hd];rfl
  repeat' first|((with_reducible refine finP (S':=V) ?_);exact⟨by first|(simp[hF];done)|(simp_all [hF];done),rfl⟩)|refine gz ?_ o274|apply gy<;>intro hh
@[reducible,instance] def a274e:=fun e d V=>gh1 (@RE e d V)
def AO(op:Int):Bool:=decide (op=2\/op=3\/op=4)
def arF(op:Int):Int:=if op=5 then 1 else if op=6\/op=7 then 2 else 0
def D8(x:aC):Bool:=
 (decide (1<=x.op)&&decide (x.op<=7)&&(AO x.op == !decide (x.name=[]))&&(AO x.op||decide ((x.path.length:Int)=0))&&decide ((x.path.length:Int)<=2)&&(decide (x.op=2) == !decide (x.cls=[]))) &&
 ((decide (x.op=3\/x.op=4)&&inB x.n)||decide (x.n=0))&&decide (arF x.op=x.ah.length)
def Fu(d:Int)(x:aC):Bool:=decide (d<=12)&&D8 x
theorem RD(x:aC)(d:Int)(V:Sig)(hw:x.wt<=1073741824):au prog 274 [pF x,dI d] V fun r S'=>r=(if Fu d x then .ret (.tup []) else .panic unf2)/\S'=V:=by
 have d6:pF x=.iface 316 (.agg (B6 x)):=rfl
 obtain⟨w1,w2,w3,w4,w5⟩:=x.wt_le
 have w6:x.path.length<=1073741824:=by have:=Bb x.path;omega
 have ja:((0:Int)=(x.ah.length:Int))=(x.ah=[]):=by rw[<-bC];exact propext ⟨fun h=>by omega,fun h=>by omega⟩
 refine en func274 ntmps274 ?_
 by_cases hd:d<=12
 ·rw[show Fu d x=D8 x by unfold Fu;rw[aX hd];rfl]
  rcases bK (x.op=2)with h2|h2
  ·repeat' first|(exact finP (S':=V) ⟨by rw[aN];first|(simp_all [D8,AO,arF];done)|(simp_all [D8,AO,arF];omega),rfl⟩)|refine gf (gi d6 h2) ?_ o274|apply gy<;>intro hh
   all_goals refine Ef (S':=V) ⟨?_,rfl⟩
   all_goals (rw[aS];first|(simp_all [D8,AO,arF];done)|(simp_all [D8,AO,arF];omega))
  rcases bK (x.op=3)with h3|h3
  ·repeat' first|(exact finP (S':=V) ⟨by rw[aN];first|(simp_all [D8,AO,arF];done)|(simp_all [D8,AO,arF];omega),rfl⟩)|refine gf (gi d6 h3) ?_ o274|apply gy<;>intro hh
   all_goals refine Ef (S':=V) ⟨?_,rfl⟩
   all_goals (rw[aS];first|(simp_all [D8,AO,arF];done)|(simp_all [D8,AO,arF];omega))
  rcases bK (x.op=4)with h4|h4
  ·repeat' first|(exact finP (S':=V) ⟨by rw[aN];first|(simp_all [D8,AO,arF];done)|(simp_all [D8,AO,arF];omega),rfl⟩)|refine gf (gi d6 h4) ?_ o274|apply gy<;>intro hh
   all_goals refine Ef (S':=V) ⟨?_,rfl⟩
   all_goals (rw[aS];first|(simp_all [D8,AO,arF];done)|(simp_all [D8,AO,arF];omega))
  ·repeat' first|(exact finP (S':=V) ⟨by rw[aN];first|(simp_all [D8,AO,arF];done)|(simp_all [D8,AO,arF];omega),rfl⟩)|refine gf d6 ?_ o274|apply gy<;>intro hh
   all_goals refine Ef (S':=V) ⟨?_,rfl⟩
   all_goals (rw[aS];first|(simp_all [D8,AO,arF];done)|(simp_all [D8,AO,arF];omega))
 ·have hF:Fu d x=false:=by unfold Fu;rw[aV hd];rfl
  repeat' first|((with_reducible refine finP (S':=V) ?_);exact⟨by first|(simp[hF];done)|(simp_all [hF];done),rfl⟩)|refine gz ?_ o274|apply gy<;>intro hh
@[reducible,instance] def a274f:=fun x d V=>gh1 (@RD x d V)
end Go.DL
