/- A part of the proof. -/
import Derived.Test.YtlfimpogphmbdaaGreatH14
set_option linter.all false
namespace Go.DL
open Go.Proofs.Tryz
open Go Go.Proofs
set_option maxHeartbeats 8000000
def Gp(g:fW)(c:Int):fR:=AB (ordersN g (3+g.length)) c
def linE(g:fW)(c:Int):Int:=if Bo g=true/\0<=c/\c<3+g.length then(if Gp g c=[] then 7 else 0) else 2
def lm(g:fW)(c:Int):fR:=if Bo g=true/\0<=c/\c<3+g.length then Gp g c else []
def Z8(g:fW)(c:Int)(o:Own)(V:Sig)(hl:g.length<=1073741824:=by exact sd)(fZ:∀x∈g,x.length<=1073741824:=by exact sd):
  aB prog 50 [.slice (cII g) o,dI c] V (rS (.tup [sl (cI (lm g c)),dI (linE g c)]) V):=by
 refine en func50 ntmps50 ?_
 by_cases hb:Bo g=true
 ·by_cases hc:0<=c/\c<3+g.length
  ·try refine gz ?_
   refine Ad (X3 g [c] o .clip _ hb (by simpa using hc) hl fZ k7) (fun d U' hx=>?_) (fun d U' hx=>by obtain⟨_,_,_,_,_,_,hx,_⟩:=hx;cases hx);obtain⟨ig,im,a,b,om,hne,hx,rfl,iI,iH,iD⟩:=hx;cases hx;simp only[putD];have gk:im≠ig:=fun e=>hne e.symm;have e7:Sub V ((V.set im (.map (eIO om))).set ig (.cells [a,b,.map im])):=((Sub.refl _).set iH).set iI;have iG:(Gp g c).length<=80000000:=Dl hb k0 hc.1;have hL:getM [] c om=Gp g c:=iD c hc.1
   try refine gf gk ?_
   refine lkO ?_ (hi:=by rw[w8 _ _ gk,w7]);rw[hL]
   by_cases he:Gp g c=[]
   ·try refine gf (gi gk he) ?_
    (refine fin2 (U':=V) (d':=sl []) ?_;exact⟨by first|rfl|(simp[lm,linE,hb,hc,he];done)|(simp_all [lm,linE,hb,hc,he];done)|(rw[A4,aW];simp_all [lm,linE,hb,hc,he]<;>omega),rfl⟩)
   ·repeat' first|refine gf gk ?_|apply gy<;>intro hh
    ·exfalso;exact he (by simpa using hh)
    ·refine lkO ?_ (hi:=by rw[w8 _ _ gk,w7]);rw[hL]
     repeat' first|refine gf gk ?_|refine Au (Ih (cI (Gp g c)) .no _ (by simp;omega) (C5 _)) ?_|refine callP (Ih (cI (Gp g c)) .no _ (by simp;omega) (C5 _)) ?_|refine gf gk ?_|apply gy<;>intro hh
     (refine fin2 (U':=V) ?_;exact⟨by first|rfl|(simp[lm,linE,hb,hc,he];done)|(simp_all [lm,linE,hb,hc,he];done)|(rw[A4,aW];simp_all [lm,linE,hb,hc,he]<;>omega),rfl⟩)
  ·repeat' first|refine gz ?_|refine Au (RV g [c] o .clip _ hb (by simpa using hc) hl fZ k7) ?_|refine callP (RV g [c] o .clip _ hb (by simpa using hc) hl fZ k7) ?_|refine gz ?_|apply gy<;>intro hh
   (refine fin2 (U':=V) (d':=sl []) ?_;exact⟨by first|rfl|(simp[lm,linE,hb,hc];done)|(simp_all [lm,linE,hb,hc];done)|(rw[A4,aW];simp_all [lm,linE,hb,hc]<;>omega),rfl⟩)
 ·repeat' first|refine gz ?_|refine Au (RW g [c] o .clip _ (by simpa using hb) hl fZ k7) ?_|refine callP (RW g [c] o .clip _ (by simpa using hb) hl fZ k7) ?_|refine gz ?_|apply gy<;>intro hh
  (refine fin2 (U':=V) (d':=sl []) ?_;exact⟨by first|rfl|(simp[lm,linE,hb];done)|(simp_all [lm,linE,hb];done)|(rw[A4,aW];simp_all [lm,linE,hb]<;>omega),rfl⟩)
@[reducible,instance] def a50:=fun g c o V=>ah2 (@Z8 g c o V)
def LQ: ∀(n:Nat) (ls:fW) (out:fR) (y:Int),y∈(Fb n ls out).1->y∈out \/ ∃l∈ls,y∈l
 |0,_,_,y,h=>.inl h
 | n+1,ls,out,y,h=>by
  rw[Fb]at h;cases hn:F7 ls false ls with
  | mk a s =>
   rw[hn]at h;cases a with
   |none=>exact .inl h
   | some c =>
    obtain⟨e,he,iM⟩:=F6 hn;rcases LQ n _ _ y h with h|⟨l,hl,hy⟩
    ·rcases bi.1 h with h|h
     ·exact .inl h
     ·rw[bq]at h;exact .inr ⟨e,he,h ▸ iM⟩
    ·obtain⟨l',gh,rfl⟩:=bD.1 hl;exact .inr ⟨l',gh,(bR.1 hy).1⟩
def LS{os:fW}: ∀{ps:fR}{ls:fW},Dg os ps=some ls->∀l∈ls, ∃p∈ps,l=(AB os p).filter fun x=> !decide (x=0)
 |[],ls,h,l,hl=>by simp only[Dg,bJ]at h;subst h;cases hl
 | p::r,ls,h,l,hl=>by
  rw[Dg]at h;split at h
  ·cases h
  ·cases hr:Dg os r with
   |none=>rw[hr]at h;cases h
   | some l2 =>
    rw[hr]at h;simp only[bT,bJ]at h;subst h;rcases be.1 hl with rfl|hl
    ·exact⟨p,k7,rfl⟩
    ·obtain⟨q,hq,e⟩:=LS hr l hl;exact⟨q,dH _ hq,e⟩
def Kr{os:fW}{ps:fR}{ls:fW}(h:BW os ps=some ls): ∀l∈ls, ∀y∈l,(∃p∈ps,y∈AB os p)\/y∈ps:=by
 unfold BW at h;cases hr:Dg os ps with
 |none=>rw[hr]at h;cases h
 | some l2 =>
  rw[hr]at h;simp only[bT,bJ]at h;subst h;intro l hl y hy;rcases bi.1 hl with hl|hl
  ·obtain⟨p,hp,rfl⟩:=LS hr l hl;exact .inl ⟨p,hp,(bR.1 hy).1⟩
  ·rw[bq]at hl;exact .inr (hl ▸ hy)
def Hq{os:fW}{p:Int}{y:Int}(h:y∈AB os p): ∃x∈os,y∈x:=by
 unfold AB at h;cases hx:os[p.toNat]? with
 |none=>rw[hx]at h;cases h
 |some x=>rw[hx]at h;exact⟨x,de hx,h⟩
def Hp {g:fW} (hg:Bo g=true) : ∀ n, ∀ x ∈ ordersN g n, ∀ y ∈ x,0<=y/\y < (n:Int)
 |0,x,hx=>by cases hx
 | n+1,x,hx=>by
  have ih:=Hp hg n;rw[ordersN]at hx;intro y hy;rcases bi.1 hx with hx|hx
  ·have:=ih x hx y hy;omega
  ·rw [bq] at hx;subst hx;split at hy
   ·rw[bq]at hy;omega
   ·unfold BM at hy;cases e8:BW (ordersN g n) (parentsF g n)with
    |none=>rw[e8]at hy;cases hy
    | some ls =>
     rw[e8]at hy;simp only at hy;split at hy
     ·simp only[bE,be,bi,eR,or_false]at hy;rcases hy with rfl|hy|rfl
      ·omega
      ·rcases LQ _ _ _ y hy with h|⟨l,hl,g8⟩
       ·cases h
       ·rcases Kr e8 l hl y g8 with⟨p,_,h⟩|h
        ·obtain⟨z,hz,h⟩:=Hq h;have:=ih z hz y h;omega
        ·have:=(BN hg n).2 y h;omega
      ·omega
     ·cases hy
def ownO:Option Nat->Own
 |none=>.clip
 |some i=>.tag i
def sgO(V:Sig)(n:Nat):Option Nat->Sig
 |none=>V
 |some i=>V.set i (.tail 1 n)
attribute [simp] Bv
@[simp] theorem ownO_none:ownO none=.clip:=rfl
@[simp] theorem Gi(i:Nat):ownO (some i)=.tag i:=rfl
@[simp] theorem sgO_none(V:Sig)(n:Nat):sgO V n none=V:=rfl
@[simp] theorem HS(V:Sig)(n i:Nat):sgO V n (some i)=V.set i (.tail 1 n):=rfl
def NE(g:fW)(o:Own)(V:Sig)(hb:Bo g=true)(hl:∀x∈g,x.length<=1073741824:=by exact sd):
  aB prog 67 [.slice (cII g) o] V (rS (sl (cII (ordersN g (3+g.length)))) V):=by
 have hlen:=Ee hb;refine en func67 ntmps67 ?_
 try refine gz ?_
 refine rtw 3 (.slice (cII (ordersN g 1)) .clip) ?_ (Er _ ⟨⟨AO _ _,trivial⟩,trivial⟩);refine AG [0,2,43] (fun (n:Nat) (ow:Option Nat)=>1<=n/\n<=3+g.length /\ ∀i,ow=some i->V i=none) (fun n ow=>[(4,dI n),(3,.slice (cII (ordersN g n)) (ownO ow))]) (fun n ow=>sgO V n ow) (fun n _=>3+g.length-n) (1) (none) (by exact⟨k0,k0,k7⟩) (fun n ow hI=>?_);obtain⟨h1,h2,hi⟩:=hI
 by_cases hn:n<3+g.length
 ·have f8:=Bv g n;have f0:=BN hb n;have hB:∀p:Int,0<=p->(AB (ordersN g n) p).length<=80000000:=fun p hp=>Dl hb k0 hp
  have iP:∀x∈ordersN g n,x.length<=1073741824:=fun x hx=>by
   obtain⟨k,hk,rfl⟩:=bm hx;have:=hB k k0;unfold AB at this;rw[show((k:Int)).toNat=k by omega,aT hk]at this;simp only[ca]at this;omega
  have d8:=WP g (ordersN g n) n o (ownO ow) (sgO V n ow) k0 k0 (by have:=f0.1;omega) (fun p hp=>by have:=f0.2 p hp;rw[Bv];omega) (by rw[Bv];omega) iP;have d7:ordersN g (n+1)=ordersN g n++[BM (ordersN g n) n (parentsF g n)]:=by rw[ordersN,aQ k0]
  cases e8:BW (ordersN g n) (parentsF g n)with
  | none =>
   rw[e8]at d8;have hx:BM (ordersN g n) n (parentsF g n)=[]:=by rw[BM,e8]
   repeat' first|refine gz ?_|refine Au (d8) ?_|refine callP (d8) ?_|refine gz ?_|apply gy<;>intro hh
   refine rtl 41 (.slice [[sl (cI [])]] .clip) ?_ (Er _ ⟨⟨An _ (.inl rfl),trivial⟩,trivial⟩);have d6:∀i,WkD (.slice (cII (ordersN g n)++[[sl (cI (BM (ordersN g n) n (parentsF g n)))]]) (.tag i)) (.slice (cII (ordersN g (n+1))) (ownO (some i))):=fun i=>B9 (by rw[d7];simp[cII])
   rw[hx]at d6;rcases ow with _|i
   ·refine appC (fun i gc=>?_) (hlen:=BX _);have hw:=d6 i;have e7:Sub (sgO V (n+1) (some i)) ((sgO V n none).set i (.tail (tab 23).size ((cII (ordersN g n)).length+[[sl (cI [])]].length))):=BG (by simp[f8])
    try refine gz ?_
    exact⟨n+1,some i,⟨k0,k0,fun _ e=>by cases e;exact gc⟩,td1,wkR⟩
   ·have hw:=d6 i;simp only[Gi,HS]
    try refine gz ?_
    exact⟨n+1,some i,⟨k0,k0,fun _ e=>by cases e;exact hi i rfl⟩,td1,wkR⟩
  | some ls =>
   rw[e8]at d8;have hT:=Gn e8 (fun p hp=>hB p (by have:=f0.2 p hp;omega));have h3:(parentsF g n).length*80000000<=3*80000000:=dG _ f0.1;have h4:=f0.1
   have gg:=WO ls .no (sgO V n ow) (fun x hx y hy=>by
    rcases Kr e8 x hx y hy with⟨p,_,h⟩|h
    ·obtain⟨z,hz,h⟩:=Hq h;exact(Hp hb n z hz y h).1
    ·have:=f0.2 y h;omega) k0 k0
   have gW:=ES ls
   by_cases gX:(Cb ls).1=[]
   ·repeat' first|refine gz ?_|refine Au (d8) ?_|refine callP (d8) ?_|refine Au (gg) ?_|refine callP (gg) ?_|refine gz ?_|apply gy<;>intro hh
    ·have hx:BM (ordersN g n) n (parentsF g n)=[(n:Int),0]:=by rw[BM,e8];simp[hh,gX]
     refine app0 ?_
     try refine gz ?_
     refine appCW (fun j hj=>?_)
     try refine gz ?_
     refine rtl 41 (.slice [[sl (cI [(n:Int),0])]] .clip) ?_;refine drp (sgO V n ow) ?_ ((Sub.refl _).set hj);have d6:∀i,WkD (.slice (cII (ordersN g n)++[[sl (cI (BM (ordersN g n) n (parentsF g n)))]]) (.tag i)) (.slice (cII (ordersN g (n+1))) (ownO (some i))):=fun i=>B9 (by rw[d7];simp[cII])
     rw[hx]at d6;rcases ow with _|i
     ·refine appC (fun i gc=>?_) (hlen:=BX _);have hw:=d6 i;have e7:Sub (sgO V (n+1) (some i)) ((sgO V n none).set i (.tail (tab 23).size ((cII (ordersN g n)).length+[[sl (cI [])]].length))):=BG (by simp[f8])
      try refine gz ?_
      exact⟨n+1,some i,⟨k0,k0,fun _ e=>by cases e;exact gc⟩,td1,wkR⟩
     ·have hw:=d6 i;simp only[Gi,HS]
      try refine gz ?_
      exact⟨n+1,some i,⟨k0,k0,fun _ e=>by cases e;exact hi i rfl⟩,td1,wkR⟩
    ·have hx:BM (ordersN g n) n (parentsF g n)=[]:=by rw[BM,e8];simp[hh]
     refine rtl 41 (.slice [[sl (cI [])]] .clip) ?_ (Er _ ⟨⟨An _ (.inl rfl),trivial⟩,trivial⟩);have d6:∀i,WkD (.slice (cII (ordersN g n)++[[sl (cI (BM (ordersN g n) n (parentsF g n)))]]) (.tag i)) (.slice (cII (ordersN g (n+1))) (ownO (some i))):=fun i=>B9 (by rw[d7];simp[cII])
     rw[hx]at d6;rcases ow with _|i
     ·refine appC (fun i gc=>?_) (hlen:=BX _);have hw:=d6 i;have e7:Sub (sgO V (n+1) (some i)) ((sgO V n none).set i (.tail (tab 23).size ((cII (ordersN g n)).length+[[sl (cI [])]].length))):=BG (by simp[f8])
      try refine gz ?_
      exact⟨n+1,some i,⟨k0,k0,fun _ e=>by cases e;exact gc⟩,td1,wkR⟩
     ·have hw:=d6 i;simp only[Gi,HS]
      try refine gz ?_
      exact⟨n+1,some i,⟨k0,k0,fun _ e=>by cases e;exact hi i rfl⟩,td1,wkR⟩
   ·repeat' first|refine gz ?_|refine Au (d8) ?_|refine callP (d8) ?_|refine Au (gg) ?_|refine callP (gg) ?_|refine gz ?_|apply gy<;>intro hh
    ·have hx:BM (ordersN g n) n (parentsF g n)=(n:Int)::(Cb ls).1++[0]:=by rw[BM,e8];simp[hh]
     refine appC (fun j hj=>?_) (hne:=by simp[cI];exact gX)
     try refine gz ?_
     refine rtl 41 (.slice [[sl (cI ((n:Int)::(Cb ls).1++[0]))]] .clip) ?_ (Er _ ⟨⟨CY _ (by simp[cI]),trivial⟩,trivial⟩);refine drp (sgO V n ow) ?_ ((Sub.refl _).set hj);have d6:∀i,WkD (.slice (cII (ordersN g n)++[[sl (cI (BM (ordersN g n) n (parentsF g n)))]]) (.tag i)) (.slice (cII (ordersN g (n+1))) (ownO (some i))):=fun i=>B9 (by rw[d7];simp[cII])
     rw[hx]at d6;rcases ow with _|i
     ·refine appC (fun i gc=>?_) (hlen:=BX _);have hw:=d6 i;have e7:Sub (sgO V (n+1) (some i)) ((sgO V n none).set i (.tail (tab 23).size ((cII (ordersN g n)).length+[[sl (cI [])]].length))):=BG (by simp[f8])
      try refine gz ?_
      exact⟨n+1,some i,⟨k0,k0,fun _ e=>by cases e;exact gc⟩,td1,wkR⟩
     ·have hw:=d6 i;simp only[Gi,HS]
      try refine gz ?_
      exact⟨n+1,some i,⟨k0,k0,fun _ e=>by cases e;exact hi i rfl⟩,td1,wkR⟩
    ·have hx:BM (ordersN g n) n (parentsF g n)=[]:=by rw[BM,e8];simp[hh]
     refine rtl 41 (.slice [[sl (cI [])]] .clip) ?_ (Er _ ⟨⟨An _ (.inl rfl),trivial⟩,trivial⟩);have d6:∀i,WkD (.slice (cII (ordersN g n)++[[sl (cI (BM (ordersN g n) n (parentsF g n)))]]) (.tag i)) (.slice (cII (ordersN g (n+1))) (ownO (some i))):=fun i=>B9 (by rw[d7];simp[cII])
     rw[hx]at d6;rcases ow with _|i
     ·refine appC (fun i gc=>?_) (hlen:=BX _);have hw:=d6 i;have e7:Sub (sgO V (n+1) (some i)) ((sgO V n none).set i (.tail (tab 23).size ((cII (ordersN g n)).length+[[sl (cI [])]].length))):=BG (by simp[f8])
      try refine gz ?_
      exact⟨n+1,some i,⟨k0,k0,fun _ e=>by cases e;exact gc⟩,td1,wkR⟩
     ·have hw:=d6 i;simp only[Gi,HS]
      try refine gz ?_
      exact⟨n+1,some i,⟨k0,k0,fun _ e=>by cases e;exact hi i rfl⟩,td1,wkR⟩
 ·have hne:n=3+g.length:=by omega
  subst hne
  have e7:Sub V (sgO V (3+g.length) ow):=by
   rcases ow with _|i
   ·exact Sub.refl _
   ·exact(Sub.refl _).set (hi i rfl)
  try refine gz ?_
  exact fe1 (d':=sl (cII (ordersN g (3+g.length)))) trivial
@[reducible,instance] def a67:=fun g o V=>ah2 (@NE g o V)
def Zf(g:fW)(c:Int)(o:Own)(V:Sig)(hb:Bo g=true)(hc:0<=c/\c<3+g.length)(hl:∀x∈g,x.length<=1073741824:=by exact sd):
  aB prog 33 [.slice (cII g) o,dI c] V (rS (.tup [sl (cI (Gp g c)),.bool (decide (0<(Gp g c).length))]) V):=by
 obtain⟨k,rfl⟩:∃k:Nat,c=(k:Int):=⟨c.toNat,k0⟩;have hk:k<3+g.length:=by omega
 have hlen:=Ee hb
 have hL:(ordersN g (3+g.length))[k]'(by simpa using hk)=Gp g k:=by
  unfold Gp AB;rw[show((k:Int)).toNat=k by omega,aT (by simpa using hk)];rfl
 have iG:(Gp g k).length<=80000000:=Dl hb k0 hc.1;have f8:=Bv g (3+g.length);refine en func33 ntmps33 ?_
 repeat' first|refine gf hL ?_|refine Au (NE g o V hb hl) ?_|refine callP (NE g o V hb hl) ?_|refine gf hL ?_|apply gy<;>intro hh
 exact fe2 trivial
def Bq(bs:List Bool):fQ:=bs.map .bool
@[simp] theorem Zz(bs:List Bool):(Bq bs).length=bs.length:=by simp[Bq]
@[simp] theorem boolsD_get(bs:List Bool)(k:Nat):(Bq bs)[k]? = (bs[k]?).map .bool:=by simp[Bq]
def U6(bs:List Bool)(k:Nat)(b:Bool):(Bq bs).set k (.bool b)=Bq (bs.set k b):=by simp[Bq]
@[simp] theorem boolsD_put(bs:List Bool)(k:Nat)(b:Bool)(h:k<bs.length):(Bq bs).take k ++ .bool b::(Bq bs).drop (k+1)=Bq (bs.set k b):=by
 rw[<-U6,cO,aS (by simpa using h)]
def H6(k:Nat):fR->List Bool->List Bool
 |[],bs=>bs
 |p::r,bs=>H6 k r (bs.set p.toNat (bs.getD p.toNat false||bs.getD k false))
def upD(g:fW):Nat->List Bool->List Bool
 |0,bs=>bs
 |j+1,bs=>upD g j (H6 (j+3) (parentsF g (j+3:Nat)) bs)
def upF(g:fW)(c:Int):List Bool:=upD g (c.toNat-2) ((List.replicate (3+g.length) false).set c.toNat true)
def VS(w:World)(c:Int)(V:Sig)(hb:Bo w.ap=true)(hc:0<=c/\c<3+w.ap.length):
  aB prog 273 [.agg (Dx w),dI c] V fun x U'=> ∃i,x=.ret (.ax i 0 (3+w.ap.length) (3+w.ap.length))/\V i=none/\U'=V.set i (.cells (Bq (upF w.ap c))):=by
 have hlen:=Ee hb;obtain⟨k,rfl⟩:∃k:Nat,c=(k:Int):=⟨c.toNat,k0⟩;refine en func273 ntmps273 ?_
 try refine gz ?_
 refine V2 (k:=3+w.ap.length) (c:=3+w.ap.length) (z:=[.bool false]) (sz:=1) (fun i hi hm=>?_)
 have e0:mS V (some (i,3+w.ap.length,(List.replicate (3+w.ap.length-(3+w.ap.length)) [D.bool false]).flatten)) (List.replicate (3+w.ap.length) [D.bool false])=V.set i (.cells (Bq (List.replicate (3+w.ap.length) false))):=by
  simp only[mS,eh,fm,eU,br]
  congr 2
  generalize 3+w.ap.length=m
  induction m with
  |zero=>rfl
  |succ m ih=>rw[dn,dn,cT,ih];rfl
 rw[e0];generalize g7:List.replicate (3+w.ap.length) false=b0;have gY:b0.length=3+w.ap.length:=by rw[<-g7];simp
 try refine gf gY ?_
 refine AG [2,4,5,47] (fun (m:Nat) (bs:List Bool)=>m<=k/\bs.length=3+w.ap.length/\upD w.ap (m-2) bs=upF w.ap k) (fun m _=>[(6,dI m)]) (fun _ bs=>V.set i (.cells (Bq bs))) (fun m _=>m) (k) (b0.set k true) (by exact⟨bn _,by simpa using gY,by rw[upF,<-g7];rfl⟩) (fun m bs hI=>?_);obtain⟨hm,iO,hU⟩:=hI;have jd:(V.set i (.cells (Bq bs))) i=some (.cells (Bq bs)):=w7 ..
 by_cases h3:3<=m
 ·obtain⟨j,hj⟩:∃j,m=j+3:=⟨m-3,k0⟩
  have gI:w.ap[j]'(by omega)=parentsF w.ap m:=by
   unfold parentsF;rw[aQ k0,show((m:Int)-3).toNat=j by omega,aT k0];rfl
  have f0:=BN hb m;rw[show m-2=j+1 by omega,upD,<-hj]at hU;rw[<-gI]at hU f0;have e3:(m:Int)-3=j:=by omega
  generalize gU:w.ap[j]'(by omega)=ps at hU f0
  try refine gf (gi e3 gU) ?_
  refine AG [2,4,5,6,18,19,20,21,22,23,24,25,26,27,28,47] (fun (q:Nat) (b2:List Bool)=>q<=ps.length/\b2.length=3+w.ap.length/\H6 m ps bs=H6 m (ps.drop q) b2) (fun q _=>[(29,dI q)]) (fun _ b2=>V.set i (.cells (Bq b2))) (fun q _=>ps.length-q) (0) (bs) (by exact⟨k0,iO,rfl⟩) (fun q b2 hI=>?_);obtain⟨hq,gr,hR⟩:=hI;have jc:(V.set i (.cells (Bq b2))) i=some (.cells (Bq b2)):=w7 ..
  by_cases gw:q<ps.length
  ·have hp:=f0.2 _ (aR gw);rw[A0 gw,H6]at hR;obtain⟨p,gV⟩:∃p:Nat,ps[q]=(p:Int):=⟨(ps[q]).toNat,k0⟩;rw[gV]at hR hp;have gJ:m<b2.length:=by omega
   have iB:p<b2.length:=by omega
   rw[show((p:Int)).toNat=p by omega,bj,bj,aT gJ,aT iB,ca,ca]at hR
   repeat' first|refine gf (gi e3 (gi gU gV)) ?_|apply gy<;>intro hh
   ·rw[hh,Bool.true_or]at hR;exact⟨q+1,b2.set p true,⟨k0,by simpa using gr,hR⟩,td1,wkR⟩
   ·rw[hh,dD]at hR;exact⟨q+1,b2.set p b2[m],⟨k0,by simpa using gr,hR⟩,td1,wkR⟩
  ·rw[A1 gw,H6]at hR;rw[hR]at hU
   try refine gz ?_
   exact⟨m-1,b2,⟨k0,gr,by rw[show m-1-2=j by omega];exact hU⟩,td1,wkR⟩
 ·rw[show m-2=0 by omega,upD]at hU;subst hU
  try refine gz ?_
  exact kE (U':=V.set i (.cells (Bq (upF w.ap k)))) ⟨i,rfl,hi,rfl⟩
def DQ(k:Nat): ∀(ps:fR) (bs:List Bool),(H6 k ps bs).length=bs.length
 |[],_=>rfl
 |p::r,bs=>by rw[H6,DQ k r,cg]
def Lz(g:fW): ∀(j:Nat) (bs:List Bool),(upD g j bs).length=bs.length
 |0,_=>rfl
 |j+1,bs=>by rw[upD,Lz g j,DQ]
def SS(g:fW)(c:Int):(upF g c).length=3+g.length:=by rw[upF,Lz,cg,bB]
def Jg(g:fW)(a b:Int):Bool:=decide (a=b)||decide (b=0)||(decide (3<=a)&&(upF g a).getD b.toNat false)
def KP(w:World)(a b:Int)(V:Sig)(hb:Bo w.ap=true)(ha:0<=a/\a<3+w.ap.length)(jh:0<=b/\b<3+w.ap.length):
  aB prog 230 [.agg (Dx w),dI a,dI b] V (rS (.bool (Jg w.ap a b)) V):=by
 have hlen:=Ee hb;obtain⟨k,rfl⟩:∃k:Nat,b=(k:Int):=⟨b.toNat,k0⟩;have iU:=SS w.ap a;have hk:k<(upF w.ap a).length:=by omega
 have gN:(upF w.ap a).getD k false=(upF w.ap a)[k]:=by rw[bj,aT hk];rfl
 refine en func230 ntmps230 ?_
 by_cases h1:a=(k:Int)\/(k:Int)=0
 ·have e:Jg w.ap a k=true:=by
   unfold Jg;rcases h1 with h1|h1<;>simp[h1]
  repeat' first|refine gz ?_|apply gy<;>intro hh
  any_goals (first|exact fe1 e|fail)
 ·have e:Jg w.ap a k=(decide (3<=a)&&(upF w.ap a)[k]):=by
   unfold Jg;rw[show((k:Int)).toNat=k by omega,gN];simp only[dX]at h1;rw[ba h1.1,ba h1.2];rfl
  by_cases h3:3<=a
  ·try refine gz ?_
   refine Ad (VS w a _ hb ha) (fun d U' hx=>?_) (fun d U' hx=>by obtain⟨_,hx,_⟩:=hx;cases hx);obtain⟨i,hx,hi,rfl⟩:=hx;cases hx;simp only[putD]
   try refine gz ?_
   exact fe1 (gi e h3)
  ·try refine gz ?_
   exact fe1 (gi e h3)
@[reducible,instance] def a230:=fun w a b V=>ah3 (@KP w a b V)
def hasW(w:World)(c s:Int):Bool:=decide (3<=c)&&Jg w.ap c ((w.owner[s.toNat]?).getD 0)
def Wy(w:World)(c s:Int)(V:Sig)(hb:Bo w.ap=true)(hc:0<=c/\c<3+w.ap.length)(hs:0<=s/\s<w.owner.length)(ho:∀x∈w.owner,0<=x/\x<3+w.ap.length):
  aB prog 176 [.agg (Dx w),dI c,dI s] V (rS (.bool (hasW w c s)) V):=by
 have hlen:=Ee hb;obtain⟨k,rfl⟩:∃k:Nat,s=(k:Int):=⟨s.toNat,k0⟩;have hk:k<w.owner.length:=by omega
 have gE:=ho _ (aR hk)
 have e:hasW w c k=(decide (3<=c)&&Jg w.ap c (w.owner[k])):=by
  unfold hasW;rw[show((k:Int)).toNat=k by omega,aT hk];rfl
 refine en func176 ntmps176 ?_
 by_cases h3:3<=c
 ·repeat' first|refine gz ?_|refine moRG (KP w c (w.owner[k]) V hb hc gE) ?_|refine moPG (KP w c (w.owner[k]) V hb hc gE) ?_|refine gz ?_ o176|apply gy<;>intro hh
  exact fe1 (gi e h3)
 ·try refine gz ?_ o176
  exact fe1 (gi e h3)
@[reducible,instance] def a176:=fun w c s V=>ah4 (@Wy w c s V)
def D2:Int->fR->Option Int
 |n,[]=>some n
 |n,s::r=>if s=n then D2 (n+1) r else none
def G6:Int->List aE->Option Int
 |n,[]=>some n
 |n,c::r=>if 4<c.am.length\/3<c.ap.length then none else match D2 n c.am with
  |none=>none
  |some m=>G6 m r
def G5(w:World)(N c:Int)(x:lR):Bool:=decide (0<=x.slot/\x.slot<N)&&hasW w c x.slot&&inB x.n
def Gs(w:World)(N c:Int):List lR->List lR->Bool
 |_,[]=>true
 |seen,x::r=>G5 w N c x&&(seen.all fun y=> !decide (y.slot=x.slot))&&Gs w N c (seen++[x]) r
def Ec(w:World)(N:Int):Nat->List aE->Bool
 |_,[]=>true
 |i,c::r=>decide (0<(Gp w.ap ((i:Int)+3)).length)&&Gs w N ((i:Int)+3) [] c.ar&&Ec w N (i+1) r
def AP(p:aD):Bool:=decide (p.ak.length<=10)&&match G6 0 p.ak with
 |none=>false
 |some n=>decide (n=p.am)&&Bo (p.ak.map (·.ap))&&Ec (AH p) n 0 p.ak
def Cs: ∀(l:List aE) (i:Nat),(ownersF l i).length=wtL (fun c:aE=>c.am.length) l
 |[],_=>rfl
 |c::r,i=>by rw[ownersF,aO,bB,Cs r];rfl
def Ho: ∀{l:List aE}{i:Nat}{x:Int},x∈ownersF l i->3+(i:Int)<=x/\x<3+i+l.length
 |[],_,_,h=>by cases h
 |c::r,i,x,h=>by
  rw[ownersF]at h;rcases bi.1 h with h|h
  ·have:=dK h;rw[aV];omega
  ·have:=Ho h;rw[aV];omega
def YN (p:aD) (V:Sig) (hp:p.wt<=1073741824:=by exact sd):aB prog 90 [.agg (Am p)] V (rS (.bool (AP p)) V):=by
 obtain⟨p1,p2,p3,p4,p5,p6,p7⟩:=p.wt_le;have ws:=HE p
 have fX:∀c∈p.ak,c.ap.length<=1073741824/\c.am.length<=1073741824/\c.ar.length<=1073741824:=fun c hc=>by
  obtain⟨k,hk,rfl⟩:=bm hc;have:=p5 k hk;have gP:(p.ak[k]).wt=1+(p.ak[k]).ap.length+(p.ak[k]).am.length+(p.ak[k]).ar.length:=rfl;omega
 refine en func90 ntmps90 ?_
 repeat' first|refine gz ?_ o90|apply gy<;>intro hh
 ·(refine kE (U':=V) ?_;exact⟨by first|rfl|(simp[AP];done)|(simp_all [AP];done)|(rw[A4,aW];simp_all [AP]<;>omega),rfl⟩)
 refine AG [1,7,8,9,10,11,12,13,14,15,60,61,62,63,64,65,66,67,68,69,70,71,72,73,74,75,76,77,78,79,80,81,82,83,84,85,86,87,88,89,90,91,92,93,94,95,96,97,98,99,100,101,102,103,104,105,106,107,108,109,110,111,112,113,114,115,116,117,118,119,120,121,122,123,124,125,126,127,128,129,130,131,132,133,134,135,136,137,138,139,140,141,142,143,144,145,146,147,148,149,150,151,152] (fun (i:Nat) (n:Int)=>i<=p.ak.length/\n=wtL (fun c:aE=>c.am.length) (p.ak.take i)/\G6 0 p.ak=G6 n (p.ak.drop i)) (fun i n=>[(4,dI i),(3,dI n)]) (fun _ _=>V) (fun i _=>p.ak.length-i) (0) (0) (by simp[wtL]) (fun i n hI=>?_);obtain⟨hi,hn,hR⟩:=hI
 by_cases h:i<p.ak.length
 ·have hx:=fX _ (aR h);have hT:=Jm (fun c:aE=>c.am.length) p.ak i h;have ji:=Fs (fun c:aE=>c.am.length) p.ak (i+1);rw[A0 h,G6]at hR
  repeat' first|refine gz ?_ o90|apply gy<;>intro hh
  ·have hc:G6 0 p.ak=none:=by rw[hR,aS (.inl k0)]
   (refine kE (U':=V) ?_;exact⟨by first|rfl|(simp[AP,hc];done)|(simp_all [AP,hc];done)|(rw[A4,aW];simp_all [AP,hc]<;>omega),rfl⟩)
  ·have hc:G6 0 p.ak=none:=by rw[hR,aS (.inr k0)]
   (refine kE (U':=V) ?_;exact⟨by first|rfl|(simp[AP,hc];done)|(simp_all [AP,hc];done)|(rw[A4,aW];simp_all [AP,hc]<;>omega),rfl⟩)
  ·rw[aQ k0]at hR;generalize gS:(p.ak[i]).am=sl' at*;refine Bb [1,4,5,7,8,9,10,11,12,13,14,15,20,21,22,23,24,25,26,27,28,29,30,31,32,33,34,35,36,37,38,39,40,41,42,43,44,45,60,61,62,63,64,65,66,67,68,69,70,71,72,73,74,75,76,77,78,79,80,81,82,83,84,85,86,87,88,89,90,91,92,93,94,95,96,97,98,99,100,101,102,103,104,105,106,107,108,109,110,111,112,113,114,115,116,117,118,119,120,121,122,123,124,125,126,127,128,129,130,131,132,133,134,135,136,137,138,139,140,141,142,143,144,145,146,147,148,149,150,151,152] (fun (q:Nat)=>q<=sl'.length/\D2 n sl'=D2 (n+q) (sl'.drop q)) (fun q=>[(6,dI q),(3,dI (n+q))]) (fun _=>V) (fun q=>sl'.length-q) (0) k7 (fun q hI=>?_);obtain⟨hq,hQ⟩:=hI
   by_cases gw:q<sl'.length
   ·rw[A0 gw,D2]at hQ;have iV:=hx.2.1;have iZ:0<=n:=by omega
    have iY:n<=1073741824:=by omega
    repeat' first|refine gz ?_ o90|apply gy<;>intro hh
    ·rw[aQ hh]at hQ;have hc:G6 0 p.ak=none:=by rw[hR,hQ]
     (refine kE (U':=V) ?_;exact⟨by first|rfl|(simp[AP,hc];done)|(simp_all [AP,hc];done)|(rw[A4,aW];simp_all [AP,hc]<;>omega),rfl⟩)
    ·rw[aS hh]at hQ;exact⟨q+1,⟨k0,by rw[hQ,Int.add_assoc];rfl⟩,td1,wkR⟩
   ·rw[A1 gw,D2]at hQ;rw[hQ]at hR;have iW:q=sl'.length:=by omega
    try refine gz ?_ o90
    exact⟨i+1,n+q,⟨k0,by rw[hT];omega,hR⟩,td1,wkR⟩
 ·rw [A1 h,G6] at hR;have ga:(AH p).ap=p.ak.map (·.ap):=rfl;have f8:(AH p).owner.length=wtL (fun c:aE=>c.am.length) p.ak:=Cs _ _;have iE:n=wtL (fun c:aE=>c.am.length) p.ak:=by rw[hn,bM k0]
  have gv:=RP p V k0 (fun c hc=>(fX c hc).1);have gO:=ND p V k0 (fun c hc=>(fX c hc).1) (fun c hc=>(fX c hc).2.1) (by rw[Cs];omega);have d9:=Wz (p.ak.map (·.ap)) .no V (by simp;omega) (fun x hx=>by obtain⟨c,hc,rfl⟩:=bD.1 hx;exact(fX c hc).1)
  by_cases hs:n=p.am
  ·cases hg:Bo (p.ak.map (·.ap)) with
   |false=>
    rw[hg]at d9
    repeat' first|refine gz ?_|refine Au (gv) ?_|refine callP (gv) ?_|refine Fl (d9) ?_|refine callPG (d9) ?_|refine gz ?_ o90|apply gy<;>intro hh
    (refine kE (U':=V) ?_;exact⟨by first|rfl|(simp[AP,hR,hg];done)|(simp_all [AP,hR,hg];done)|(rw[A4,aW];simp_all [AP,hR,hg]<;>omega),rfl⟩)
   | true =>
    rw[hg]at d9;have go:AP p=Ec (AH p) n 0 p.ak:=by unfold AP;rw[hR];simp[hs,hg];omega
    repeat' first|refine gz ?_|refine Au (gv) ?_|refine callP (gv) ?_|refine Fl (d9) ?_|refine callPG (d9) ?_|refine Au (gO) ?_|refine callP (gO) ?_|refine gz ?_ o90|apply gy<;>intro hh
    have iC:∀x∈(AH p).owner,0<=x/\x<3+(AH p).ap.length:=fun x hx=>by
     have:=Ho hx;rw[ga,aY];omega
    have iJ:Bo (AH p).ap=true:=hg;have iq:(AH p).ap.length=p.ak.length:=by rw[ga,aY]
    have f8:((AH p).owner.length:Int)=n:=by rw[iE];exact_mod_cast f8
    clear gv gO d9;generalize hw:AH p=w at*;refine Bb [1,3,7,8] (fun (j:Nat)=>j<=p.ak.length/\Ec w n 0 p.ak=Ec w n j (p.ak.drop j)) (fun j=>[(9,dI j)]) (fun _=>V) (fun j=>p.ak.length-j) (0) k7 (fun j hI=>?_);obtain⟨hj,hJ⟩:=hI
    by_cases h':j<p.ak.length
    ·have hx:=fX _ (aR h');rw[A0 h',Ec]at hJ;have gu:=Zf w.ap ((j:Int)+3) .no V iJ k0 (fun x hx=>by rw[ga]at hx;obtain⟨c,hc,rfl⟩:=bD.1 hx;exact(fX c hc).1);rw[ga]at gu
     by_cases hl:0<(Gp w.ap ((j:Int)+3)).length
     ·rw [bf hl,bd] at hJ;rw[ga]at hl;rw[bf hl]at gu;generalize gZ:(p.ak[j]).ar=ins at hJ hx
      repeat' first|refine gf gZ ?_|refine Au (gu) ?_|refine callP (gu) ?_|refine gf gZ ?_ o90|apply gy<;>intro hh
      refine Bb [1,3,7,8,9,10,11,12,13,73,74,75,76,77,78,79,80,81,82,83,84,85,86,87,88,89,90,91,92,93,94,95] (fun (k:Nat)=>k<=ins.length/\Gs w n ((j:Int)+3) [] ins=Gs w n ((j:Int)+3) (ins.take k) (ins.drop k)) (fun k=>[(14,dI k)]) (fun _=>V) (fun k=>ins.length-k) (0) k7 (fun k hI=>?_);obtain⟨hk,hK⟩:=hI
      by_cases gK:k<ins.length
      ·have jb:=hx.2.2;rw[A0 gK,Gs]at hK
       repeat' first|refine gz ?_ o90|apply gy<;>intro hh
       ·have hf:G5 w n ((j:Int)+3) ins[k]=false:=by unfold G5;rw[ba k0];rfl
        rw[hf,bw,bw]at hK;rw[hK,bw]at hJ;exact fe1 (gi go hJ)
       ·have hf:G5 w n ((j:Int)+3) ins[k]=false:=by unfold G5;rw[ba k0];rfl
        rw[hf,bw,bw]at hK;rw[hK,bw]at hJ;exact fe1 (gi go hJ)
       ·have hf:G5 w n ((j:Int)+3) ins[k]=false:=by unfold G5;simp_all
        rw[hf,bw,bw]at hK;rw[hK,bw]at hJ;exact fe1 (gi go hJ)
       ·have hf:G5 w n ((j:Int)+3) ins[k]=false:=by unfold G5;simp_all
        rw[hf,bw,bw]at hK;rw[hK,bw]at hJ;exact fe1 (gi go hJ)
       ·have ht:G5 w n ((j:Int)+3) ins[k]=true:=by unfold G5;rw[bf k0];simp_all
        rw[ht,bd]at hK;refine Bb [1,3,7,8,9,10,11,12,13,14,73,74,75,76,77,78,79,80,81,82,83,84,85,86,87,88,89,90,91,92,93,94,95,96,97,98,99,100,101,102,103,104,105,106,107,108,109,110,111,112,113,114,115,116,117,118,119,120,121,122,123,124,125,126,127,128,129,130,131,132,133,134,135,136] (fun (m:Nat)=>m<=k/\((ins.take m).all fun y=> !decide (y.slot=(ins[k]).slot))=true) (fun m=>[(15,dI m)]) (fun _=>V) (fun m=>k-m) (0) k7 (fun m hI=>?_);obtain⟨hm,hM⟩:=hI
        by_cases fY:m<k
        ·have gW:m<ins.length:=by omega
         repeat' first|refine gz ?_ o90|apply gy<;>intro hh
         ·have hf:((ins.take k).all fun y=> !decide (y.slot=(ins[k]).slot))=false:=by
           rw[List.all_eq_false];exact⟨ins[m],List.mem_take_iff_getElem.2 ⟨m,k0,rfl⟩,by simp[hh]⟩
          rw[hf,bw]at hK;rw[hK,bw]at hJ;exact fe1 (gi go hJ)
         ·exact⟨m+1,⟨k0,by rw[bQ gW,dp,hM];simp[hh]⟩,td1,wkR⟩
        ·have iF:m=k:=by omega
         subst iF;rw[hM,bd]at hK
         try refine gz ?_ o90
         exact⟨m+1,⟨k0,by rw[hK,AQ gK]⟩,td1,wkR⟩
      ·rw[A1 gK,Gs]at hK;rw[hK,bd]at hJ
       try refine gz ?_ o90
       exact⟨j+1,⟨k0,hJ⟩,td1,wkR⟩
     ·rw[ba hl,bw,bw]at hJ;rw[ga]at hl;rw[ba hl]at gu
      repeat' first|refine gz ?_|refine Au (gu) ?_|refine callP (gu) ?_|refine gz ?_ o90|apply gy<;>intro hh
      exact fe1 (gi go hJ)
    ·rw[A1 h',Ec]at hJ
     try refine gz ?_ o90
     exact fe1 (gi go hJ)
  ·repeat' first|refine gz ?_|refine Au (gv) ?_|refine callP (gv) ?_|refine gz ?_ o90|apply gy<;>intro hh
   (refine kE (U':=V) ?_;exact⟨by first|rfl|(simp[AP,hR,hs];done)|(simp_all [AP,hR,hs];done)|(rw[A4,aW];simp_all [AP,hR,hs]<;>omega),rfl⟩)
mutual
def kA.size_le: ∀f:kA,f.size<=f.wt
 |.mk o a p c n k=>by
  have:=kA.sizes_le k;rw[kA.size,kA.wt];omega
def kA.sizes_le: ∀l:List kA,kA.sizes l<=kA.wts l
 |[]=>bn _
 |f::l=>by
  have h1:=kA.size_le f;have h2:=kA.sizes_le l;rw[kA.sizes,kA.wts];omega
end
def Ew(w:World)(f:kA):Bool:=decide (f.cnt 24<=24)&&decide (f.depth<=12)&&IK w f
def YM(w:World)(f:kA)(V:Sig)(hw:w.ap.length<=1073741824:=by exact sd)(iR:w.owner.length<=1073741824:=by exact sd)(hf:f.wt<=1073741824:=by exact sd):
  aB prog 91 [.agg (Dx w),.agg (Bp f)] V (rS (.bool (Ew w f)) V):=by
 have iy:=kA.size_le f;refine en func91 ntmps91 ?_
 repeat' first|refine gz ?_|apply gy<;>intro hh
 any_goals (first|(refine kE (U':=V) ?_;exact⟨by first|rfl|(simp[Ew];done)|(simp_all [Ew];done)|(rw[A4,aW];simp_all [Ew]<;>omega),rfl⟩)|fail)
def G1(p:aD)(m:aF):Bool:=decide (1<=m.kind/\m.kind<=4)&&decide (0<=m.gen/\m.gen<p.au.length)&&Ew (AH p) m.kJ&&decide (m.kJ.speaks<=p.au.getD m.gen.toNat 0)
def D4(p:aD):List aF->fR->Bool×fR
 |[],s=>(true,s)
 | m::r,s=>if G1 p m then (match BT p (decide (m.kind=1) || decide (m.kind=4)) 12 m.node (p.au.getD m.gen.toNat 0) s with
   |(false,s')=>(false,s')
   |(true,s')=>D4 p r s') else(false,s)
def LZ(p:aD):Bool:=AP p&&decide (p.au.length<=8)&&decide (p.k9.length<=16)&&decide (1<=p.kC.length)&&decide (p.kC.length<=120)
def G7(p:aD):Option fR:=
 if LZ p&&p.au.all (fun g=>decide (1<=g/\g<=3)) then
  match D4 p p.k9 (List.replicate p.kC.length (-1))with
  |(false,_)=>none
  |(true,s)=>match BT p false 12 p.kH 0 s with
   |(false,_)=>none
   |(true,s2)=>if s2.all (fun n=>decide (0<=n)) then some s2 else none
 else none
def En(s:fR):(cI s).flatten=s.map dI:=by
 induction s with
 |nil=>rfl
 |cons x s ih=>rw[show cI (x::s)=[dI x]::cI s from rfl,cT,ih];rfl
def V6(V:Sig)(i cap:Nat)(rest:fQ)(s:fR):mS V (some (i,cap,rest)) (cI s)=V.set i (.cells (rowI s rest)):=by simp only[mS,rowI,En]
def mOK_len{V:Sig}{st:MR}{s s':fR}(h:mOK V 1 st (cI s))(hs:s'.length=s.length):mOK V 1 st (cI s'):=by
 cases st with
 |none=>
  have:cI s=[]:=h;have:s=[]:=by simpa[cI] using this
  subst this;have:s'=[]:=bH.1 hs;subst this;rfl
 |some x=>
  obtain⟨i,cap,rest⟩:=x;obtain⟨m1,m2,m3,m4⟩:=h;refine⟨m1,?_,by simpa[hs] using m3,C5 _⟩;rw[En]at m2⊢;simpa[hs] using m2
def Zb (p:aD) (V:Sig) (hp:p.wt<=1073741824:=by exact sd) :
  aB prog 44 [.agg (Am p)] V (rS (.tup [sl (cI ((G7 p).getD [])),.bool (G7 p).isSome]) V):=by
 obtain⟨p1,p2,p3,p4,p5,p6,p7⟩:=p.wt_le;have ws:=HE p
 have fX:∀c∈p.ak,c.ap.length<=1073741824/\c.am.length<=1073741824:=fun c hc=>by
  obtain⟨k,hk,rfl⟩:=bm hc;have:=p5 k hk;have gP:(p.ak[k]).wt=1+(p.ak[k]).ap.length+(p.ak[k]).am.length+(p.ak[k]).ar.length:=rfl;omega
 have gA:=YN p V hp;refine en func44 ntmps44 ?_;cases gj:LZ p with
 | false =>
  have hL:G7 p=none:=by unfold G7;rw[gj];rfl
  unfold LZ at gj;cases hc:AP p with
  |false=>
   rw[hc]at gA;have i1:=Ans.of gA
   try refine gz ?_ o44
   exact fe2 (d':=sl []) hL
  | true =>
   rw[hc]at gA gj;have i1:=Ans.of gA
   by_cases h1:p.au.length<=8
   ·by_cases h2:p.k9.length<=16
    ·by_cases h3:1<=p.kC.length
     ·have h4:¬p.kC.length<=120:=fun h=>by simp[h1,h2,h3,h]at gj
      try refine gz ?_ o44
      exact fe2 (d':=sl []) hL
     ·try refine gz ?_ o44
      exact fe2 (d':=sl []) hL
    ·try refine gz ?_ o44
     exact fe2 (d':=sl []) hL
   ·try refine gz ?_ o44
    exact fe2 (d':=sl []) hL
 | true =>
  have gL:=gj;unfold LZ at gL;simp only[aN,aP]at gL;obtain⟨⟨⟨⟨hc,h1⟩,h2⟩,h3⟩,h4⟩:=gL;rw[hc]at gA;have i1:=Ans.of gA
  try refine gz ?_ o44
  refine Bb [1,5,6,7,8,9,10,59,60,61,62,63,64,65,66,67,68,69,70,71,72,73,74,75,76,77,78,79,80,81,82,83,84,85,86,87,88,89,90,91,92,93,94,95,96,97,98,99,100,101,102,103,104,105,106,107,108,109,110,111,112,113,114,115,116,117,118,119,120,121,122,123,124,125,126,127,128,129,130,131,132,133,134,135,136,137,138,139,140,141,142,143,144,145,146,147,148,149,150,151,152,153,154,155] (fun (j:Nat)=>j<=p.au.length/\p.au.all (fun g=>decide (1<=g/\g<=3))=(p.au.drop j).all (fun g=>decide (1<=g/\g<=3))) (fun j=>[(4,dI j)]) (fun _=>V) (fun j=>p.au.length-j) (0) k7 (fun j hI=>?_);obtain⟨hj,hJ⟩:=hI
  by_cases gb:j<p.au.length
  ·rw[A0 gb,bU]at hJ
   by_cases jg:p.au[j]<1
   ·have hL:G7 p=none:=by unfold G7;rw[gj,hJ,ba k0];rfl
    try refine gz ?_ o44
    exact fe2 (d':=sl []) hL
   ·by_cases jf:3<p.au[j]
    ·have hL:G7 p=none:=by unfold G7;rw[gj,hJ,ba k0];rfl
     try refine gz ?_ o44
     exact fe2 (d':=sl []) hL
    ·rw[bf k0,bd]at hJ
     try refine gz ?_ o44
     exact⟨j+1,⟨k0,hJ⟩,td1,wkR⟩
  ·rw [A1 gb,eE] at hJ
   have hL:G7 p=match D4 p p.k9 (List.replicate p.kC.length (-1))with
    |(false,_)=>none
    |(true,s)=>match BT p false 12 p.kH 0 s with
     |(false,_)=>none
     |(true,s2)=>if s2.all (fun n=>decide (0<=n)) then some s2 else none:=by unfold G7;rw[gj,hJ];rfl
   try refine gz ?_ o44
   refine AG [1,2,3,7,8,9,10,69,70,71,72,73,74,75,76,77,78,79,80,81,82,83,84,85,86,87,88,89,90,91,92,93,94,95,96,97,98,99,100,101,102,103,104,105,106,107,108,109,110,111,112,113,114,115,116,117,118,119,120,121,122,123,124,125,126,127,128,129,130,131,132,133,134,135,136,137,138,139,140,141,142,143,144,145,146,147,148,149,150,151,152,153,154,155] (fun (n:Nat) (st:MR)=>n<=p.kC.length/\mOK V 1 st (cI (List.replicate n (-1)))) (fun n st=>[(6,dI n),(5,mD st n)]) (fun n st=>mS V st (cI (List.replicate n (-1)))) (fun n _=>p.kC.length-n) (0) (none) (by exact⟨k0,rfl⟩) (fun n st hI=>?_);obtain⟨hn,hm⟩:=hI
   by_cases i0:n<p.kC.length
   ·have hlen:(cI (List.replicate n (-1))).length=n:=by simp
    have e:cI (List.replicate n (-1))++[[D.int .i64 (-1)]]=cI (List.replicate (n+1) (-1)):=by rw[List.replicate_succ'];simp[cI]
    try refine gz ?_ o44
    refine mapp (new:=[[D.int .i64 (-1)]]) (sz:=1) (h1:=by exact(cf (mD st) hlen.symm)) (fun st' fY=>?_) hm;rw[e]at fY⊢;rw[hlen]
    try refine gz ?_ o44
    exact⟨n+1,st',⟨k0,fY⟩,td1,wkR⟩
   ·have hne:n=p.kC.length:=by omega
    subst hne;obtain⟨s0,gT⟩:∃s0,s0=List.replicate p.kC.length (-1:Int):=⟨_,rfl⟩;have gS:s0.length=p.kC.length:=by rw[gT];simp
    rw[<-gT]at hm hL⊢
    obtain⟨i,cap,rest,iz⟩:∃i cap rest,st=some (i,cap,rest):=by
     cases st with
     |none=>
      exfalso
      have h:cI s0=[]:=hm;have h':s0.length=0:=by rw[<-Jf s0,h];rfl
      omega
     |some x=>exact⟨_,_,_,rfl⟩
    subst iz;have hi:V i=none:=hm.1;rw[V6,show mD (some (i,cap,rest)) p.kC.length=.ax i 0 p.kC.length cap from rfl];have ga:(AH p).ap=p.ak.map (·.ap):=rfl;have iq:(AH p).ap.length=p.ak.length:=by rw[ga,aY]
    have f8:(AH p).owner.length=wtL (fun c:aE=>c.am.length) p.ak:=Cs _ _
    repeat' first|refine gz ?_|refine Au (ND p _ k0 (fun c hc=>(fX c hc).1) (fun c hc=>(fX c hc).2) (by rw[Cs];omega)) ?_|refine callP (ND p _ k0 (fun c hc=>(fX c hc).1) (fun c hc=>(fX c hc).2) (by rw[Cs];omega)) ?_|refine gz ?_ o44|apply gy<;>intro hh
    refine AG [1,5,7,10,138,139,140,141,142,143,144,145,146,147,148,149,150,151,152,153,154,155] (fun (j:Nat) (s:fR)=>j<=p.k9.length/\s.length=p.kC.length/\D4 p p.k9 s0=D4 p (p.k9.drop j) s) (fun j _=>[(8,dI j)]) (fun _ s=>V.set i (.cells (rowI s rest))) (fun j _=>p.k9.length-j) (0) (s0) (by exact⟨k0,gS,rfl⟩) (fun j s hI=>?_);obtain⟨hj,gB,hM⟩:=hI
    by_cases gb:j<p.k9.length
    ·rw [A0 gb,D4] at hM;have ij:=p6 j gb;generalize fY:p.k9[j]=m at hM ij;have gP:m.wt=1+m.kJ.wt:=rfl;have iy:=kA.size_le m.kJ;have gG:=YM (AH p) m.kJ (V.set i (.cells (rowI s rest))) k0 k0 k0
     have iK:∀g:Nat,m.gen=g->(hg:g<p.au.length)->p.au.getD m.gen.toNat 0=p.au[g]:=fun g e hg=>by
      rw[e,show((g:Int)).toNat=g by omega,bj,aT hg];rfl
     have bad:G1 p m=false->G7 p=none:=fun h=>by rw[hL,hM,h];rfl
     by_cases k1:1<=m.kind
     ·by_cases k2:m.kind<=4
      ·by_cases g1:0<=m.gen
       ·by_cases g2:m.gen<p.au.length
        ·obtain⟨g,gD⟩:∃g:Nat,m.gen=g:=⟨m.gen.toNat,k0⟩;have gC:g<p.au.length:=by omega
         have gM:=iK g gD gC;cases gF:Ew (AH p) m.kJ with
         |false=>
          rw[gF]at gG;have i1:=Ans.of gG;have hb:=bad (by unfold G1;rw[gF];simp)
          try refine gf (gi fY gD) ?_ o44
          exact fe2 (d':=sl []) hb
         | true =>
          rw[gF]at gG;have i1:=Ans.of gG
          by_cases gR:m.kJ.speaks<=p.au[g]
          ·have gE:G1 p m=true:=by unfold G1;rw[gF,gM,bf k0,bf k0,bf gR];rfl
           rw[gE,aS rfl,gM]at hM;have iL:=bh.1 hJ _ (aR gC);simp only[aP]at iL
           try refine gf (gi fY gD) ?_ (kX 20 o44)
           refine Ox (id:=20) [0,1,2,3,4,5,6,7,8,9,10,12,11,13,14] [11,13] (fun _=>none) (fun _ _ h=>by cases h) ?_;have gQ:Sub (fun _=>none) (V.set i (.cells (rowI s rest))):=fun _ _ h=>by cases h
           try refine gf gD ?_ (kX 20 o44)
           refine C6 (GU p 12 m.node (p.au[g]) (decide (m.kind=1)||decide (m.kind=4)) i cap s rest _ k0 (w7 ..) gB ⟨k0,k0⟩ hp) (fun d U' hx=>?_);obtain⟨gH,rfl⟩:=hx;cases gH;rw[w9];refine⟨fun _ _ h=>(by cases h),?_⟩;simp only[putD];have fZ:=CD p (decide (m.kind=1)||decide (m.kind=4)) 12 m.node (p.au[g]) s;rcases hr:BT p (decide (m.kind=1)||decide (m.kind=4)) 12 m.node (p.au[g]) s with⟨b,s2⟩;rw[hr]at hM fZ;simp only at fZ;cases b with
           |false=>
            simp only at hM;have hb:G7 p=none:=by rw[hL,hM]
            try refine gz ?_ (kX 20 o44)
            exact fe2 (d':=sl []) hb
           |true=>
            simp only at hM
            try refine gz ?_ (kX 20 o44)
            exact⟨j+1,s2,⟨k0,k0,hM⟩,td1,wkR⟩
          ·have hb:=bad (by unfold G1;rw[gM,ba gR];simp)
           try refine gf (gi fY gD) ?_ o44
           exact fe2 (d':=sl []) hb
        ·have hb:=bad (by unfold G1;rw[ba (p:=0<=m.gen/\m.gen<p.au.length) k0];simp)
         try refine gf fY ?_ o44
         exact fe2 (d':=sl []) hb
       ·have hb:=bad (by unfold G1;rw[ba (p:=0<=m.gen/\m.gen<p.au.length) k0];simp)
        try refine gf fY ?_ o44
        exact fe2 (d':=sl []) hb
      ·have hb:=bad (by unfold G1;rw[ba (p:=1<=m.kind/\m.kind<=4) k0];simp)
       try refine gf fY ?_ o44
       exact fe2 (d':=sl []) hb
     ·have hb:=bad (by unfold G1;rw[ba (p:=1<=m.kind/\m.kind<=4) k0];simp)
      try refine gf fY ?_ o44
      exact fe2 (d':=sl []) hb
    ·rw [A1 gb,D4] at hM;rw[hM]at hL;simp only at hL
     try refine gz ?_ o44
     refine Ad (GU p 12 p.kH 0 false i cap s rest _ k0 (w7 ..) gB ⟨k0,k0⟩ hp) (fun d U' hx=>?_);obtain⟨gH,rfl⟩:=hx;cases gH;rw[w9];simp only[putD];have fZ:=CD p false 12 p.kH 0 s;rcases hr:BT p false 12 p.kH 0 s with⟨b,s2⟩;rw[hr]at hL fZ;simp only at fZ;cases b with
     |false=>
      simp only at hL
      try refine gz ?_ o44
      exact fe2 (d':=sl []) hL
     | true =>
      simp only at hL;have gJ:mOK V 1 (some (i,cap,rest)) (cI s2):=mOK_len hm k0;have iA:s2.length=p.kC.length:=by omega
      try refine gz ?_ o44
      rw[<-V6 V i cap];refine kO (Lt (t:=5) gJ (by rw[Jf,iA];rfl)) ?_;refine Bb [5,155] (fun (j:Nat)=>j<=s2.length/\s2.all (fun n=>decide (0<=n))=(s2.drop j).all (fun n=>decide (0<=n))) (fun j=>[(10,dI j)]) (fun _=>V) (fun j=>s2.length-j) (0) k7 (fun j hI=>?_);obtain⟨hj,hA⟩:=hI
      by_cases gb:j<s2.length
      ·rw[A0 gb,bU]at hA
       by_cases h0:0<=s2[j]
       ·rw[bf h0,bd]at hA
        try refine gz ?_ o44
        exact⟨j+1,⟨k0,hA⟩,td1,wkR⟩
       ·rw[ba h0,bw]at hA;rw[hA]at hL
        try refine gz ?_ o44
        exact fe2 (d':=sl []) hL
      ·rw[A1 gb,eE]at hA;rw[hA]at hL
       try refine gz ?_ o44
       exact fe2 (d':=sl (cI s2)) hL
@[reducible,instance] def a44:=fun p V=>ah1 (@Zb p V)
end Go.DL
namespace Go.DL
open Go.Proofs.Tryz
open Go Go.Proofs
set_option maxHeartbeats 4000000
def SQ{x y:lR}(h1:x.slot=y.slot)(h2:x.n=y.n):x=y:=by cases x;cases y;simp_all
def eqFn{α β:Type}(eq:α->β->Bool):List α->List β->Bool
 |[],[]=>true
 |x::xs,y::ys=>eq x y&&eqFn eq xs ys
 |_,_=>false
def CP{α β:Type}{eq:α->β->Bool}: ∀{a:List α}{b:List β},a.length≠b.length->eqFn eq a b=false
 |[],[],h=>absurd rfl h
 |_::_,[],_=>rfl
 |[],_::_,_=>rfl
 |x::xs,y::ys,h=>by rw[eqFn,CP (fun e=>h (by simp[e])),Bool.and_false]
def WM(a b:fR)(o o':Own)(V:Sig)(hl:a.length<=1073741824:=by exact sd)(gh:b.length<=1073741824:=by exact sd):
  aB prog 157 [.slice (cI a) o,.slice (cI b) o'] V (rS (.bool (decide (a=b))) V):=by
 refine en func157 ntmps157 ?_
 repeat' first|refine gz ?_ o157|apply gy<;>intro hh
 ·have hne:a≠b:=fun e=>hh (by rw[e])
  exact fe1 hne
 have gx:=hh;refine Bb [0,1,12] (fun (k:Nat)=>k<=a.length/\(a=b ↔ a.drop k=b.drop k)) (fun k=>[(13,dI k)]) (fun _=>V) (fun k=>a.length-k) (0) k7 (fun k hI=>?_);obtain⟨hk,hR⟩:=hI
 by_cases h:k<a.length
 ·have hb:k<b.length:=by omega
  rw[A0 h,A0 hb]at hR
  repeat' first|refine gf h ?_ o157|apply gy<;>intro hh
  ·have hne:a≠b:=fun e=>by
    subst e;simp at hh
   exact fe1 hne
  ·exact⟨k+1,⟨k0,by rw[hR,da];exact⟨fun e=>e.2,fun e=>⟨hh,e⟩⟩⟩,td1,wkR⟩
 ·have he:a=b:=hR.2 (by rw[A1 k0,A1 k0]);refine gf h ?_ o157;exact fe1 he
@[reducible,instance] def a157:=fun a b o o' V=>ah2 (@WM a b o o' V)
def WL(a b:List lR)(o o':Own)(V:Sig)(hl:a.length<=1073741824:=by exact sd)(gh:b.length<=1073741824:=by exact sd):
  aB prog 158 [.slice (a.map Ef) o,.slice (b.map Ef) o'] V (rS (.bool (decide (a=b))) V):=by
 refine en func158 ntmps158 ?_
 repeat' first|refine gz ?_ o158|apply gy<;>intro hh
 ·have hne:a≠b:=fun e=>hh (by rw[e])
  exact fe1 hne
 have gx:=hh;refine Bb [0,1,12] (fun (k:Nat)=>k<=a.length/\(a=b ↔ a.drop k=b.drop k)) (fun k=>[(13,dI k)]) (fun _=>V) (fun k=>a.length-k) (0) k7 (fun k hI=>?_);obtain⟨hk,hR⟩:=hI
 by_cases h:k<a.length
 ·have hb:k<b.length:=by omega
  rw[A0 h,A0 hb]at hR
  repeat' first|refine gf h ?_ o158|apply gy<;>intro hh
  ·have hne:a≠b:=fun e=>by
    subst e;simp at hh
   exact fe1 hne
  ·exact⟨k+1,by(try simp at hh);exact⟨k0,by rw[hR];simp only[da];exact⟨fun e=>e.2,fun e=>⟨SQ hh.1 hh.2,e⟩⟩⟩,td1,wkR⟩
 ·have he:a=b:=hR.2 (by rw[A1 k0,A1 k0]);refine gf h ?_ o158;exact fe1 he
@[reducible,instance] def a158:=fun a b o o' V=>ah2 (@WL a b o o' V)
def RQ(a b:List lR)(o o':Own)(V:Sig)(hl:a.length<=1073741824:=by exact sd)(gh:b.length<=1073741824:=by exact sd):
  aB prog 27 [.slice (a.map Ef) o,.slice (b.map Ef) o'] V (rS (.bool (decide (a=b))) V):=by
 refine en func27 ntmps27 ?_
 repeat' first|refine gz ?_ o27|apply gy<;>intro hh
 ·have hne:a≠b:=fun e=>hh (by rw[e])
  exact fe1 hne
 have gx:=hh;refine Bb [0,1] (fun (k:Nat)=>k<=a.length/\(a=b ↔ a.drop k=b.drop k)) (fun k=>[(5,dI k)]) (fun _=>V) (fun k=>a.length-k) (0) k7 (fun k hI=>?_);obtain⟨hk,hR⟩:=hI
 by_cases h:k<a.length
 ·have hb:k<b.length:=by omega
  rw[A0 h,A0 hb]at hR
  repeat' first|refine gf h ?_ o27|apply gy<;>intro hh
  ·have hne:a≠b:=fun e=>by
    subst e;simp at hh
   exact fe1 hne
  ·exact⟨k+1,by(try simp at hh);exact⟨k0,by rw[hR];simp only[da];exact⟨fun e=>e.2,fun e=>⟨SQ hh.1 hh.2,e⟩⟩⟩,td1,wkR⟩
 ·have he:a=b:=hR.2 (by rw[A1 k0,A1 k0]);refine gf h ?_ o27;exact fe1 he
@[reducible,instance] def a27:=fun a b o o' V=>ah2 (@RQ a b o o' V)
def Pq(a b:List aE)(eq:aE->aE->Bool)(g:Nat)(cap:fQ)(o o':Own)(V:Sig)(hl:a.length<=1073741824)(gh:b.length<=1073741824)
  (hg:∀x∈a, ∀y∈b,aB prog g ([]++[.agg (kF x),.agg (kF y)]++cap) V fun r S''=>r=.ret (.bool (eq x y))/\S''=V) :
  aB prog 155 [.slice (a.map kF) o,.slice (b.map kF) o',.func (.func g) [] cap] V (rS (.bool (eqFn eq a b)) V):=by
 refine en func155 ntmps155 ?_
 repeat' first|refine gz ?_|apply gy<;>intro hh
 ·(refine kE (U':=V) ?_;exact⟨by first|rfl|(simp[CP hh];done)|(simp_all [CP hh];done)|(rw[A4,aW];simp_all [CP hh]<;>omega),rfl⟩)
 have gx:=hh;refine Bb [1,2,15,16] (fun (k:Nat)=>k<=a.length/\eqFn eq a b=eqFn eq (a.drop k) (b.drop k)) (fun k=>[(17,dI k)]) (fun _=>V) (fun k=>a.length-k) (0) k7 (fun k hI=>?_);obtain⟨hk,hR⟩:=hI
 by_cases h:k<a.length
 ·have hb:k<b.length:=by omega
  rw[A0 h,A0 hb,eqFn]at hR
  repeat' first|refine Au (hg (a[k]) (aR h) (b[k]) (aR hb)) ?_|refine callP (hg (a[k]) (aR h) (b[k]) (aR hb)) ?_|refine gf h ?_|apply gy<;>intro hh
  ·exact fe1 hR
  ·exact⟨k+1,by(try simp at hh);exact⟨k0,by rw[hR,hh];rfl⟩,td1,wkR⟩
 ·refine gf h ?_;rw[A1 k0,A1 k0,eqFn]at hR;exact fe1 hR
def Pp(a b:List aF)(eq:aF->aF->Bool)(g:Nat)(cap:fQ)(o o':Own)(V:Sig)(hl:a.length<=1073741824)(gh:b.length<=1073741824)
  (hg:∀x∈a, ∀y∈b,aB prog g ([]++[.agg (Av x),.agg (Av y)]++cap) V fun r S''=>r=.ret (.bool (eq x y))/\S''=V) :
  aB prog 159 [.slice (a.map Av) o,.slice (b.map Av) o',.func (.func g) [] cap] V (rS (.bool (eqFn eq a b)) V):=by
 refine en func159 ntmps159 ?_
 repeat' first|refine gz ?_|apply gy<;>intro hh
 ·(refine kE (U':=V) ?_;exact⟨by first|rfl|(simp[CP hh];done)|(simp_all [CP hh];done)|(rw[A4,aW];simp_all [CP hh]<;>omega),rfl⟩)
 have gx:=hh;refine Bb [1,2,15,16] (fun (k:Nat)=>k<=a.length/\eqFn eq a b=eqFn eq (a.drop k) (b.drop k)) (fun k=>[(17,dI k)]) (fun _=>V) (fun k=>a.length-k) (0) k7 (fun k hI=>?_);obtain⟨hk,hR⟩:=hI
 by_cases h:k<a.length
 ·have hb:k<b.length:=by omega
  rw[A0 h,A0 hb,eqFn]at hR
  repeat' first|refine Au (hg (a[k]) (aR h) (b[k]) (aR hb)) ?_|refine callP (hg (a[k]) (aR h) (b[k]) (aR hb)) ?_|refine gf h ?_|apply gy<;>intro hh
  ·exact fe1 hR
  ·exact⟨k+1,by(try simp at hh);exact⟨k0,by rw[hR,hh];rfl⟩,td1,wkR⟩
 ·refine gf h ?_;rw[A1 k0,A1 k0,eqFn]at hR;exact fe1 hR
def Pn(a b:List aG)(eq:aG->aG->Bool)(g:Nat)(cap:fQ)(o o':Own)(V:Sig)(hl:a.length<=1073741824)(gh:b.length<=1073741824)
  (hg:∀x∈a, ∀y∈b,aB prog g ([]++[.agg (Ai x),.agg (Ai y)]++cap) V fun r S''=>r=.ret (.bool (eq x y))/\S''=V) :
  aB prog 162 [.slice (a.map Ai) o,.slice (b.map Ai) o',.func (.func g) [] cap] V (rS (.bool (eqFn eq a b)) V):=by
 refine en func162 ntmps162 ?_
 repeat' first|refine gz ?_|apply gy<;>intro hh
 ·(refine kE (U':=V) ?_;exact⟨by first|rfl|(simp[CP hh];done)|(simp_all [CP hh];done)|(rw[A4,aW];simp_all [CP hh]<;>omega),rfl⟩)
 have gx:=hh;refine Bb [1,2,15,16] (fun (k:Nat)=>k<=a.length/\eqFn eq a b=eqFn eq (a.drop k) (b.drop k)) (fun k=>[(17,dI k)]) (fun _=>V) (fun k=>a.length-k) (0) k7 (fun k hI=>?_);obtain⟨hk,hR⟩:=hI
 by_cases h:k<a.length
 ·have hb:k<b.length:=by omega
  rw[A0 h,A0 hb,eqFn]at hR
  repeat' first|refine Au (hg (a[k]) (aR h) (b[k]) (aR hb)) ?_|refine callP (hg (a[k]) (aR h) (b[k]) (aR hb)) ?_|refine gf h ?_|apply gy<;>intro hh
  ·exact fe1 hR
  ·exact⟨k+1,by(try simp at hh);exact⟨k0,by rw[hR,hh];rfl⟩,td1,wkR⟩
 ·refine gf h ?_;rw[A1 k0,A1 k0,eqFn]at hR;exact fe1 hR
def Pi(a b:List kA)(eq:kA->kA->Bool)(g:Nat)(cap:fQ)(o o':Own)(V:Sig)(hl:a.length<=1073741824)(gh:b.length<=1073741824)
  (hg:∀x∈a, ∀y∈b,aB prog g ([]++[.agg (Bp x),.agg (Bp y)]++cap) V fun r S''=>r=.ret (.bool (eq x y))/\S''=V) :
  aB prog 224 [.slice (a.map Bp) o,.slice (b.map Bp) o',.func (.func g) [] cap] V (rS (.bool (eqFn eq a b)) V):=by
 refine en func224 ntmps224 ?_
 repeat' first|refine gz ?_|apply gy<;>intro hh
 ·(refine kE (U':=V) ?_;exact⟨by first|rfl|(simp[CP hh];done)|(simp_all [CP hh];done)|(rw[A4,aW];simp_all [CP hh]<;>omega),rfl⟩)
 have gx:=hh;refine Bb [1,2,15,16] (fun (k:Nat)=>k<=a.length/\eqFn eq a b=eqFn eq (a.drop k) (b.drop k)) (fun k=>[(17,dI k)]) (fun _=>V) (fun k=>a.length-k) (0) k7 (fun k hI=>?_);obtain⟨hk,hR⟩:=hI
 by_cases h:k<a.length
 ·have hb:k<b.length:=by omega
  rw[A0 h,A0 hb,eqFn]at hR
  repeat' first|refine Au (hg (a[k]) (aR h) (b[k]) (aR hb)) ?_|refine callP (hg (a[k]) (aR h) (b[k]) (aR hb)) ?_|refine gf h ?_|apply gy<;>intro hh
  ·exact fe1 hR
  ·exact⟨k+1,by(try simp at hh);exact⟨k0,by rw[hR,hh];rfl⟩,td1,wkR⟩
 ·refine gf h ?_;rw[A1 k0,A1 k0,eqFn]at hR;exact fe1 hR
def idxF{α:Type}(q:α->Bool):List α->Nat->Int
 |[],_=> -1
 |x::r,k=>if q x then k else idxF q r (k+1)
def EJ{α:Type}(q:α->Bool): ∀(l:List α) (k:Nat),decide (0<=idxF q l k)=l.any q
 |[],_=>rfl
 |x::r,k=>by
  rw[idxF,List.any_cons];cases hq:q x
  ·simp only[bz,bl,dD];exact EJ q r (k+1)
  ·simp
def Pa(l:fP)(q:Str->Bool)(g:Nat)(cap:fQ)(o:Own)(V:Sig)(hl:l.length<=1073741824)
  (hg:∀x∈l,aB prog g ([]++[.str x]++cap) V fun r S''=>r=.ret (.bool (q x))/\S''=V) :
  aB prog 304 [.slice (cS l) o,.func (.func g) [] cap] V (rS (dI (idxF q l 0)) V):=by
 refine en func304 ntmps304 ?_;refine gz ?_;refine Bb [0,1,7] (fun (k:Nat)=>k<=l.length/\idxF q l 0=idxF q (l.drop k) k) (fun k=>[(8,dI k)]) (fun _=>V) (fun k=>l.length-k) (0) td3 (fun k hI=>?_);obtain⟨hk,hR⟩:=hI
 by_cases h:k<l.length
 ·rw[A0 h,idxF]at hR
  repeat' first|refine Au (hg (l[k]) (aR h)) ?_|refine callP (hg (l[k]) (aR h)) ?_|refine gf h ?_|apply gy<;>intro hh
  ·exact fe1 hR
  ·exact⟨k+1,⟨k0,by rw[hR,hh];rfl⟩,td1,wkR⟩
 ·refine gf h ?_
  (refine kE (U':=V) ?_;exact⟨by first|rfl|(simp[hR,A1 h,idxF];done)|(simp_all [hR,A1 h,idxF];done)|(rw[A4,aW];simp_all [hR,A1 h,idxF]<;>omega),rfl⟩)
def Pd(l:fP)(q:Str->Bool)(g:Nat)(cap:fQ)(o:Own)(V:Sig)(hl:l.length<=1073741824)
  (hg:∀x∈l,aB prog g ([]++[.str x]++cap) V fun r S''=>r=.ret (.bool (q x))/\S''=V) :
  aB prog 280 [.slice (cS l) o,.func (.func g) [] cap] V (rS (.bool (l.any q)) V):=by
 refine en func280 ntmps280 ?_
 repeat' first|refine gz ?_|refine Au (Pa l q g cap o V hl hg) ?_|refine callP (Pa l q g cap o V hl hg) ?_|refine gz ?_|apply gy<;>intro hh
 (refine kE (U':=V) ?_;exact⟨by first|rfl|(simp[EJ];done)|(simp_all [EJ];done)|(rw[A4,aW];simp_all [EJ]<;>omega),rfl⟩)
def Pc(q:Str->Bool)(g:Nat)(cap:fQ)(x:Str)(V:Sig)
  (hg:aB prog g ([]++[.str x]++cap) V fun r S''=>r=.ret (.bool (q x))/\S''=V) :
  aB prog 281 [.str x,.aw [.func (.func g) [] cap] 0] V (rS (.bool (!q x)) V):=by
 refine en func281 ntmps281 ?_
 repeat' first|refine Au (hg) ?_|refine callP (hg) ?_|refine gz ?_|apply gy<;>intro hh
 exact fe1 trivial
def Pg(l:fP)(q:Str->Bool)(g:Nat)(cap:fQ)(o:Own)(V:Sig)(hl:l.length<=1073741824)
  (hg:∀x∈l,aB prog g ([]++[.str x]++cap) V fun r S''=>r=.ret (.bool (q x))/\S''=V) :
  aB prog 242 [.slice (cS l) o,.func (.func g) [] cap] V (rS (.bool (l.all q)) V):=by
 refine en func242 ntmps242 ?_
 repeat' first|refine gz ?_|refine Au (Pd l (fun x=> !q x) 281 [.aw [.func (.func g) [] cap] 0] o V hl (fun x hx=>Pc q g cap x V (hg x hx))) ?_|refine callP (Pd l (fun x=> !q x) 281 [.aw [.func (.func g) [] cap] 0] o V hl (fun x hx=>Pc q g cap x V (hg x hx))) ?_|refine gz ?_|apply gy<;>intro hh
 (refine kE (U':=V) ?_;exact⟨by first|rfl|(simp[dA];done)|(simp_all [dA];done)|(rw[A4,aW];simp_all [dA]<;>omega),rfl⟩)
end Go.DL
namespace Go.DL
open Go.Proofs.Tryz
open Go Go.Proofs
set_option maxHeartbeats 8000000
def PA{α:Type}:Option α->Int
 |some _=>0
 |none=>2
def Zh(p:aD)(V:Sig)(hp:p.wt<=1073741824:=by exact sd):
  aB prog 28 [.agg (Am p)] V (rS (.bool (G7 p).isSome) V):=by
 refine en func28 ntmps28 ?_
 try refine gz ?_
 exact fe1 trivial
def VY(p:aL)(s:Str)(V:Sig)(hp:p.wt<=1073741824:=by exact sd):aB prog 248 [.agg (AS p),.str s] V (rS (dI (idxF (fun c:aJ=>decide (c.name=s)) p.ak 0)) V):=by
 obtain⟨p1,p2,p3,p4,p5⟩:=p.wt_le;refine en func248 ntmps248 ?_;refine gz ?_;refine Bb [1,2] (fun (k:Nat)=>k<=p.ak.length/\idxF (fun c:aJ=>decide (c.name=s)) p.ak 0=idxF (fun c:aJ=>decide (c.name=s)) (p.ak.drop k) k) (fun k=>[(5,dI k)]) (fun _=>V) (fun k=>p.ak.length-k) (0) td3 (fun k hI=>?_);obtain⟨hk,hR⟩:=hI
 by_cases h:k<p.ak.length
 ·rw[A0 h,idxF]at hR
  repeat' first|refine gz ?_|apply gy<;>intro hh
  ·exact fe1 hR
  ·exact⟨k+1,⟨k0,by rw[hR];simp_all⟩,td1,wkR⟩
 ·rw[A1 h,idxF]at hR;refine gz ?_;exact fe1 hR
@[reducible,instance] def a248:=fun p s V=>ah1 (@VY p s V)
def difE:fP->fP->Bool
 |_,[]=>true
 |seen,x::r=> !decide (x∈seen)&&difE (seen++[x]) r
def Wi(l:fP)(o:Own)(V:Sig)(hl:l.length<=1073741824:=by exact sd):aB prog 203 [.slice (cS l) o] V (rS (.bool (difE [] l)) V):=by
 refine en func203 ntmps203 ?_;refine gz ?_ o203;refine Bb [0] (fun (k:Nat)=>k<=l.length/\difE [] l=difE (l.take k) (l.drop k)) (fun k=>[(3,dI k)]) (fun _=>V) (fun k=>l.length-k) (0) k7 (fun k hI=>?_);obtain⟨hk,hR⟩:=hI
 by_cases h:k<l.length
 ·rw[A0 h,difE,<-AQ h]at hR
  repeat' first|refine gz ?_ o203|apply gy<;>intro hh
  ·exact fe1 hR
  ·exact⟨k+1,⟨k0,by rw[hR];simp_all⟩,td1,wkR⟩
 ·rw[A1 h,difE]at hR;refine gz ?_ o203;exact fe1 hR
@[reducible,instance] def a203:=fun l o V=>ah1 (@Wi l o V)
def CR(l:fP):Bool:=l.all Ak&&difE [] l
def Wg(l:fP)(o:Own)(V:Sig)(hl:l.length<=1073741824:=by exact sd)(hx:∀x∈l,x.length<=1073741824):aB prog 205 [.slice (cS l) o] V (rS (.bool (CR l)) V):=by
 refine en func205 ntmps205 ?_;refine gz ?_;refine Bb [0,16,17] (fun (k:Nat)=>k<=l.length/\l.all Ak=(l.drop k).all Ak) (fun k=>[(3,dI k)]) (fun _=>V) (fun k=>l.length-k) (0) k7 (fun k hI=>?_);obtain⟨hk,hR⟩:=hI
 by_cases h:k<l.length
 ·have iQ:=hx _ (aR h);rw[A0 h,bU]at hR
  repeat' first|refine gz ?_|apply gy<;>intro hh
  ·rw[hh,bw]at hR
   (refine kE (U':=V) ?_;exact⟨by unfold CR;rw[hR];rfl,rfl⟩)
  ·exact⟨k+1,⟨k0,by rw[hR];simp_all⟩,td1,wkR⟩
 ·rw[A1 h]at hR;refine gz ?_
  (refine kE (U':=V) ?_;exact⟨by first|rfl|(simp[CR,hR];done)|(simp_all [CR,hR];done)|(rw[A4,aW];simp_all [CR,hR]<;>omega),rfl⟩)
@[reducible,instance] def a205:=fun l o V=>ah2 (@Wg l o V)
end Go.DL
namespace Go.DL
open Go.Proofs.Tryz
open Go Go.Proofs
set_option maxHeartbeats 4000000
mutual
def kA.beq:kA->kA->Bool
 |.mk o a p c n k,g=>decide (o=g.op)&&decide (a=g.arg)&&decide (c=g.cls)&&decide (n=g.n)&&(p==g.path)&&decide (k.length=g.aq.length)&&kA.beqs k g.aq
def kA.beqs:List kA->List kA->Bool
 |f::l,g::m=>f.beq g&&kA.beqs l m
 |_,_=>true
end
def kA.beq_eq(f g:kA):f.beq g=(decide (f.op=g.op)&&decide (f.arg=g.arg)&&decide (f.cls=g.cls)&&decide (f.n=g.n)&&(f.path==g.path)&&decide (f.aq.length=g.aq.length)&&kA.beqs f.aq g.aq):=by cases f;rw[kA.beq];rfl
def NF(f g:kA)(V:Sig)(hf:f.wt<=1073741824:=by exact sd):
  aB prog 55 [.agg (Bp f),.agg (Bp g)] V (rS (.bool (f.beq g)) V):=by
 obtain⟨ga,iS,iv⟩:=f.wt_le;have iX:f.path.length<=1073741824:=by omega
 refine en func55 ntmps55 ?_
 repeat' first|refine gz ?_ o55|apply gy<;>intro hh
 any_goals (first|(refine kE (U':=V) ?_;exact⟨by first|rfl|(simp[kA.beq_eq];done)|(simp_all [kA.beq_eq];done)|(rw[A4,aW];simp_all [kA.beq_eq]<;>omega),rfl⟩)|fail)
 refine Bb [2,3,51] (fun (k:Nat)=>k<=f.aq.length/\f.beq g=kA.beqs (f.aq.drop k) (g.aq.drop k)) (fun k=>[(52,dI k)]) (fun _=>V) (fun k=>f.aq.length-k) (0) (by simp_all [kA.beq_eq]) (fun k hI=>?_);obtain⟨hk,hR⟩:=hI;have je:f.aq.length=g.aq.length:=by assumption
 by_cases h:k<f.aq.length
 ·rw[A0 h,A0 (l:=g.aq) k0,kA.beqs]at hR;have ja:=iv k h
  repeat' first|refine gf h ?_|refine moR (NF (f.aq[k]) (g.aq[k]) V k0) ?_|refine moP (NF (f.aq[k]) (g.aq[k]) V k0) ?_|refine gf h ?_ o55|apply gy<;>intro hh
  ·exact fe1 hR
  ·exact⟨k+1,by simp_all;omega,td1,wkR⟩
 ·refine gf h ?_ o55
  (refine kE (U':=V) ?_;exact⟨by first|rfl|(simp[hR,A1 h,kA.beqs];done)|(simp_all [hR,A1 h,kA.beqs];done)|(rw[A4,aW];simp_all [hR,A1 h,kA.beqs]<;>omega),rfl⟩)
termination_by SizeOf.sizeOf f
decreasing_by exact kA.lt (aR _)
@[reducible,instance] def a55:=fun f g V=>ah1 (@NF f g V)
end Go.DL
