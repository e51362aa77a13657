/- A part of the proof. -/
import Derived.Test.YteldimffglchkaaGreatDoorQ13
set_option linter.all false
namespace Go.DL
open Go.Proofs.Tryz
open Go Go.Proofs
set_option maxHeartbeats 8000000
def KS: ∀(n:Nat) (ls:eT) (out:eP) (y:Int),y∈(F0 n ls out).1->y∈out \/ ∃l∈ls,y∈l
 |0,_,_,y,h=>.inl h
 | n+1,ls,out,y,h=>by
  rw[F0]at h;cases hn:EZ ls false ls with
  | mk a s =>
   rw[hn]at h;cases a with
   |none=>exact .inl h
   | some c =>
    obtain⟨e,he,gC⟩:=EY hn;rcases KS n _ _ y h with h|⟨l,hl,hy⟩
    ·rcases bJ.1 h with h|h
     ·exact .inl h
     ·rw[bC]at h;exact .inr ⟨e,he,h ▸ gC⟩
    ·obtain⟨l',gw,rfl⟩:=aZ.1 hl;exact .inr ⟨l',gw,(bI.1 hy).1⟩
def KY{os:eT}: ∀{ps:eP}{ls:eT},D6 os ps=some ls->∀l∈ls, ∃p∈ps,l=(AC os p).filter fun x=> !decide (x=0)
 |[],ls,h,l,hl=>by simp only[D6,bE]at h;subst h;cases hl
 | p::r,ls,h,l,hl=>by
  rw[D6]at h;split at h
  ·cases h
  ·cases hr:D6 os r with
   |none=>rw[hr]at h;cases h
   | some l2 =>
    rw[hr]at h;simp only[bx,bE]at h;subst h;rcases aY.1 hl with rfl|hl
    ·exact⟨p,j1,rfl⟩
    ·obtain⟨q,hq,e⟩:=KY hr l hl;exact⟨q,cd _ hq,e⟩
def Jy{os:eT}{ps:eP}{ls:eT}(h:BH os ps=some ls): ∀l∈ls, ∀y∈l,(∃p∈ps,y∈AC os p)\/y∈ps:=by
 unfold BH at h;cases hr:D6 os ps with
 |none=>rw[hr]at h;cases h
 | some l2 =>
  rw[hr]at h;simp only[bx,bE]at h;subst h;intro l hl y hy;rcases bJ.1 hl with hl|hl
  ·obtain⟨p,hp,rfl⟩:=KY hr l hl;exact .inl ⟨p,hp,(bI.1 hy).1⟩
  ·rw[bC]at hl;exact .inr (hl ▸ hy)
def Es{os:eT}{p:Int}{y:Int}(h:y∈AC os p): ∃x∈os,y∈x:=by
 unfold AC at h;cases hx:os[p.toNat]? with
 |none=>rw[hx]at h;cases h
 |some x=>rw[hx]at h;exact⟨x,cJ hx,h⟩
def Er {g:eT} (hg:Bk g=true) : ∀ n, ∀ x ∈ ordersN g n, ∀ y ∈ x,0<=y/\y < (n:Int)
 |0,x,hx=>by cases hx
 | n+1,x,hx=>by
  have ih:=Er hg n;rw[ordersN]at hx;intro y hy;rcases bJ.1 hx with hx|hx
  ·have:=ih x hx y hy;omega
  ·rw [bC] at hx;subst hx;split at hy
   ·rw[bC]at hy;omega
   ·unfold Bv at hy;cases d8:BH (ordersN g n) (parentsF g n)with
    |none=>rw[d8]at hy;cases hy
    | some ls =>
     rw[d8]at hy;simp only at hy;split at hy
     ·simp only[bH,aY,bJ,dT,or_false]at hy;rcases hy with rfl|hy|rfl
      ·omega
      ·rcases KS _ _ _ y hy with h|⟨l,hl,ga⟩
       ·cases h
       ·rcases Jy d8 l hl y ga with⟨p,_,h⟩|h
        ·obtain⟨z,hz,h⟩:=Es h;have:=ih z hz y h;omega
        ·have:=(BP hg n).2 y h;omega
      ·omega
     ·cases hy
def ownO:Option Nat->Own
 |none=>.clip
 |some i=>.tag i
def sgO(O:Sig)(n:Nat):Option Nat->Sig
 |none=>O
 |some i=>O.set i (.tail 1 n)
attribute [simp] Bj
@[simp] theorem ownO_none:ownO none=.clip:=rfl
@[simp] theorem FY(i:Nat):ownO (some i)=.tag i:=rfl
@[simp] theorem sgO_none(O:Sig)(n:Nat):sgO O n none=O:=rfl
@[simp] theorem Hh(O:Sig)(n i:Nat):sgO O n (some i)=O.set i (.tail 1 n):=rfl
def JS(g:eT)(o:Own)(O:Sig)(hb:Bk g=true)(hl:∀x∈g,x.length<=1073741824:=by exact sd):
  ar prog 268 [.slice (cII g) o] O (rS (sl (cII (ordersN g (3+g.length)))) O):=by
 have hlen:=E9 hb;refine en func268 ntmps268 ?_
 try refine gz ?_
 refine rtw 3 (.slice (cII (ordersN g 1)) .clip) ?_ (Ej _ ⟨⟨Cc _ _,trivial⟩,trivial⟩);refine BO [0,2,43] (fun (n:Nat) (ow:Option Nat)=>1<=n/\n<=3+g.length /\ ∀i,ow=some i->O i=none) (fun n ow=>[(4,dI n),(3,.slice (cII (ordersN g n)) (ownO ow))]) (fun n ow=>sgO O n ow) (fun n _=>3+g.length-n) (1) (none) (by exact⟨j0,j0,j1⟩) (fun n ow hI=>?_);obtain⟨h1,h2,hi⟩:=hI
 by_cases hn:n<3+g.length
 ·have fb:=Bj g n;have fa:=BP hb n;have hB:∀p:Int,0<=p->(AC (ordersN g n) p).length<=80000000:=fun p hp=>CQ hb j0 hp
  have gE:∀x∈ordersN g n,x.length<=1073741824:=fun x hx=>by
   obtain⟨k,hk,rfl⟩:=bT hx;have:=hB k j0;unfold AC at this;rw[show((k:Int)).toNat=k by omega,aD hk]at this;simp only[ba]at this;omega
  have c9:=Ts g (ordersN g n) n o (ownO ow) (sgO O n ow) j0 j0 (by have:=fa.1;omega) (fun p hp=>by have:=fa.2 p hp;rw[Bj];omega) (by rw[Bj];omega) gE;have b8:ordersN g (n+1)=ordersN g n++[Bv (ordersN g n) n (parentsF g n)]:=by rw[ordersN,aE j0]
  cases d8:BH (ordersN g n) (parentsF g n)with
  | none =>
   rw[d8]at c9;have hx:Bv (ordersN g n) n (parentsF g n)=[]:=by rw[Bv,d8]
   repeat' first|refine gz ?_|refine Bh (c9) ?_|refine callP (c9) ?_|refine gz ?_|apply gy<;>intro hh
   refine rtl 41 (.slice [[sl (cI [])]] .clip) ?_ (Ej _ ⟨⟨Ak _ (.inl rfl),trivial⟩,trivial⟩);have b7:∀i,WkD (.slice (cII (ordersN g n)++[[sl (cI (Bv (ordersN g n) n (parentsF g n)))]]) (.tag i)) (.slice (cII (ordersN g (n+1))) (ownO (some i))):=fun i=>Cb (by rw[b8];simp[cII])
   rw[hx]at b7;rcases ow with _|i
   ·refine appC (fun i fe=>?_) (hlen:=BX _);have hw:=b7 i;have eY:Sub (sgO O (n+1) (some i)) ((sgO O n none).set i (.tail (tab 23).size ((cII (ordersN g n)).length+[[sl (cI [])]].length))):=C1 (by simp[fb])
    try refine gz ?_
    exact⟨n+1,some i,⟨j0,j0,fun _ e=>by cases e;exact fe⟩,td1,wkR⟩
   ·have hw:=b7 i;simp only[FY,Hh]
    try refine gz ?_
    exact⟨n+1,some i,⟨j0,j0,fun _ e=>by cases e;exact hi i rfl⟩,td1,wkR⟩
  | some ls =>
   rw[d8]at c9;have hT:=G7 d8 (fun p hp=>hB p (by have:=fa.2 p hp;omega));have h3:(parentsF g n).length*80000000<=3*80000000:=cW _ fa.1;have h4:=fa.1
   have fi:=Tr ls .no (sgO O n ow) (fun x hx y hy=>by
    rcases Jy d8 x hx y hy with⟨p,_,h⟩|h
    ·obtain⟨z,hz,h⟩:=Es h;exact(Er hb n z hz y h).1
    ·have:=fa.2 y h;omega) j0 j0
   have fV:=EM ls
   by_cases fW:(C3 ls).1=[]
   ·repeat' first|refine gz ?_|refine Bh (c9) ?_|refine callP (c9) ?_|refine Bh (fi) ?_|refine callP (fi) ?_|refine gz ?_|apply gy<;>intro hh
    ·have hx:Bv (ordersN g n) n (parentsF g n)=[(n:Int),0]:=by rw[Bv,d8];simp[hh,fW]
     refine app0 ?_
     try refine gz ?_
     refine appCW (fun j hj=>?_)
     try refine gz ?_
     refine rtl 41 (.slice [[sl (cI [(n:Int),0])]] .clip) ?_;refine drp (sgO O n ow) ?_ ((Sub.refl _).set hj);have b7:∀i,WkD (.slice (cII (ordersN g n)++[[sl (cI (Bv (ordersN g n) n (parentsF g n)))]]) (.tag i)) (.slice (cII (ordersN g (n+1))) (ownO (some i))):=fun i=>Cb (by rw[b8];simp[cII])
     rw[hx]at b7;rcases ow with _|i
     ·refine appC (fun i fe=>?_) (hlen:=BX _);have hw:=b7 i;have eY:Sub (sgO O (n+1) (some i)) ((sgO O n none).set i (.tail (tab 23).size ((cII (ordersN g n)).length+[[sl (cI [])]].length))):=C1 (by simp[fb])
      try refine gz ?_
      exact⟨n+1,some i,⟨j0,j0,fun _ e=>by cases e;exact fe⟩,td1,wkR⟩
     ·have hw:=b7 i;simp only[FY,Hh]
      try refine gz ?_
      exact⟨n+1,some i,⟨j0,j0,fun _ e=>by cases e;exact hi i rfl⟩,td1,wkR⟩
    ·have hx:Bv (ordersN g n) n (parentsF g n)=[]:=by rw[Bv,d8];simp[hh]
     refine rtl 41 (.slice [[sl (cI [])]] .clip) ?_ (Ej _ ⟨⟨Ak _ (.inl rfl),trivial⟩,trivial⟩);have b7:∀i,WkD (.slice (cII (ordersN g n)++[[sl (cI (Bv (ordersN g n) n (parentsF g n)))]]) (.tag i)) (.slice (cII (ordersN g (n+1))) (ownO (some i))):=fun i=>Cb (by rw[b8];simp[cII])
     rw[hx]at b7;rcases ow with _|i
     ·refine appC (fun i fe=>?_) (hlen:=BX _);have hw:=b7 i;have eY:Sub (sgO O (n+1) (some i)) ((sgO O n none).set i (.tail (tab 23).size ((cII (ordersN g n)).length+[[sl (cI [])]].length))):=C1 (by simp[fb])
      try refine gz ?_
      exact⟨n+1,some i,⟨j0,j0,fun _ e=>by cases e;exact fe⟩,td1,wkR⟩
     ·have hw:=b7 i;simp only[FY,Hh]
      try refine gz ?_
      exact⟨n+1,some i,⟨j0,j0,fun _ e=>by cases e;exact hi i rfl⟩,td1,wkR⟩
   ·repeat' first|refine gz ?_|refine Bh (c9) ?_|refine callP (c9) ?_|refine Bh (fi) ?_|refine callP (fi) ?_|refine gz ?_|apply gy<;>intro hh
    ·have hx:Bv (ordersN g n) n (parentsF g n)=(n:Int)::(C3 ls).1++[0]:=by rw[Bv,d8];simp[hh]
     refine appC (fun j hj=>?_) (hne:=by simp[cI];exact fW)
     try refine gz ?_
     refine rtl 41 (.slice [[sl (cI ((n:Int)::(C3 ls).1++[0]))]] .clip) ?_ (Ej _ ⟨⟨DC _ (by simp[cI]),trivial⟩,trivial⟩);refine drp (sgO O n ow) ?_ ((Sub.refl _).set hj);have b7:∀i,WkD (.slice (cII (ordersN g n)++[[sl (cI (Bv (ordersN g n) n (parentsF g n)))]]) (.tag i)) (.slice (cII (ordersN g (n+1))) (ownO (some i))):=fun i=>Cb (by rw[b8];simp[cII])
     rw[hx]at b7;rcases ow with _|i
     ·refine appC (fun i fe=>?_) (hlen:=BX _);have hw:=b7 i;have eY:Sub (sgO O (n+1) (some i)) ((sgO O n none).set i (.tail (tab 23).size ((cII (ordersN g n)).length+[[sl (cI [])]].length))):=C1 (by simp[fb])
      try refine gz ?_
      exact⟨n+1,some i,⟨j0,j0,fun _ e=>by cases e;exact fe⟩,td1,wkR⟩
     ·have hw:=b7 i;simp only[FY,Hh]
      try refine gz ?_
      exact⟨n+1,some i,⟨j0,j0,fun _ e=>by cases e;exact hi i rfl⟩,td1,wkR⟩
    ·have hx:Bv (ordersN g n) n (parentsF g n)=[]:=by rw[Bv,d8];simp[hh]
     refine rtl 41 (.slice [[sl (cI [])]] .clip) ?_ (Ej _ ⟨⟨Ak _ (.inl rfl),trivial⟩,trivial⟩);have b7:∀i,WkD (.slice (cII (ordersN g n)++[[sl (cI (Bv (ordersN g n) n (parentsF g n)))]]) (.tag i)) (.slice (cII (ordersN g (n+1))) (ownO (some i))):=fun i=>Cb (by rw[b8];simp[cII])
     rw[hx]at b7;rcases ow with _|i
     ·refine appC (fun i fe=>?_) (hlen:=BX _);have hw:=b7 i;have eY:Sub (sgO O (n+1) (some i)) ((sgO O n none).set i (.tail (tab 23).size ((cII (ordersN g n)).length+[[sl (cI [])]].length))):=C1 (by simp[fb])
      try refine gz ?_
      exact⟨n+1,some i,⟨j0,j0,fun _ e=>by cases e;exact fe⟩,td1,wkR⟩
     ·have hw:=b7 i;simp only[FY,Hh]
      try refine gz ?_
      exact⟨n+1,some i,⟨j0,j0,fun _ e=>by cases e;exact hi i rfl⟩,td1,wkR⟩
 ·have hne:n=3+g.length:=by omega
  subst hne
  have eY:Sub O (sgO O (3+g.length) ow):=by
   rcases ow with _|i
   ·exact Sub.refl _
   ·exact(Sub.refl _).set (hi i rfl)
  try refine gz ?_
  exact fe1 (d':=sl (cII (ordersN g (3+g.length)))) trivial
@[reducible,instance] def a268:=fun g o O=>ah2 (@JS g o O)
def JW(g:eT)(c:Int)(o:Own)(O:Sig)(hb:Bk g=true)(hc:0<=c/\c<3+g.length)(hl:∀x∈g,x.length<=1073741824:=by exact sd):
  ar prog 220 [.slice (cII g) o,dI c] O (rS (.tup [sl (cI (lineF g c)),.bool (decide (0<(lineF g c).length))]) O):=by
 obtain⟨k,rfl⟩:∃k:Nat,c=(k:Int):=⟨c.toNat,j0⟩;have hk:k<3+g.length:=by omega
 have hlen:=E9 hb
 have hL:(ordersN g (3+g.length))[k]'(by simpa using hk)=lineF g k:=by
  unfold lineF AC;rw[show((k:Int)).toNat=k by omega,aD (by simpa using hk)];rfl
 have gP:(lineF g k).length<=80000000:=CQ hb j0 hc.1;have fb:=Bj g (3+g.length);refine en func220 ntmps220 ?_
 repeat' first|refine gf hL ?_|refine Bh (JS g o O hb hl) ?_|refine callP (JS g o O hb hl) ?_|refine gf hL ?_|apply gy<;>intro hh
 exact fe2 trivial
@[reducible,instance] def a220:=fun g c o O=>ah3 (@JW g c o O)
def Dh(bs:List Bool):eO:=bs.map .bool
@[simp] theorem XE(bs:List Bool):(Dh bs).length=bs.length:=by simp[Dh]
@[simp] theorem boolsD_get(bs:List Bool)(k:Nat):(Dh bs)[k]? = (bs[k]?).map .bool:=by simp[Dh]
def Ri(bs:List Bool)(k:Nat)(b:Bool):(Dh bs).set k (.bool b)=Dh (bs.set k b):=by simp[Dh]
@[simp] theorem boolsD_put(bs:List Bool)(k:Nat)(b:Bool)(h:k<bs.length):(Dh bs).take k ++ .bool b::(Dh bs).drop (k+1)=Dh (bs.set k b):=by
 rw[<-Ri,bL,aG (by simpa using h)]
def GG(k:Nat):eP->List Bool->List Bool
 |[],bs=>bs
 |p::r,bs=>GG k r (bs.set p.toNat (bs.getD p.toNat false||bs.getD k false))
def upD(g:eT):Nat->List Bool->List Bool
 |0,bs=>bs
 |j+1,bs=>upD g j (GG (j+3) (parentsF g (j+3:Nat)) bs)
def upF(g:eT)(c:Int):List Bool:=upD g (c.toNat-2) ((List.replicate (3+g.length) false).set c.toNat true)
def Tx(w:World)(c:Int)(O:Sig)(hb:Bk w.ae=true)(hc:0<=c/\c<3+w.ae.length):
  ar prog 296 [.agg (Dg w),dI c] O fun x U'=> ∃i,x=.ret (.am i 0 (3+w.ae.length) (3+w.ae.length))/\O i=none/\U'=O.set i (.cells (Dh (upF w.ae c))):=by
 have hlen:=E9 hb;obtain⟨k,rfl⟩:∃k:Nat,c=(k:Int):=⟨c.toNat,j0⟩;refine en func296 ntmps296 ?_
 try refine gz ?_
 refine mmake (k:=3+w.ae.length) (c:=3+w.ae.length) (z:=[.bool false]) (sz:=1) (fun i hi hm=>?_)
 have e0:mS O (some (i,3+w.ae.length,(List.replicate (3+w.ae.length-(3+w.ae.length)) [D.bool false]).flatten)) (List.replicate (3+w.ae.length) [D.bool false])=O.set i (.cells (Dh (List.replicate (3+w.ae.length) false))):=by
  simp only[mS,dB,List.replicate_zero,eC,bl]
  congr 2
  generalize 3+w.ae.length=m
  induction m with
  |zero=>rfl
  |succ m ih=>rw[dD,dD,br,ih];rfl
 rw[e0];generalize f8:List.replicate (3+w.ae.length) false=b0;have fY:b0.length=3+w.ae.length:=by rw[<-f8];simp
 try refine gf fY ?_
 refine BO [2,4,5,47] (fun (m:Nat) (bs:List Bool)=>m<=k/\bs.length=3+w.ae.length/\upD w.ae (m-2) bs=upF w.ae k) (fun m _=>[(6,dI m)]) (fun _ bs=>O.set i (.cells (Dh bs))) (fun m _=>m) (k) (b0.set k true) (by exact⟨bU _,by simpa using fY,by rw[upF,<-f8];rfl⟩) (fun m bs hI=>?_);obtain⟨hm,gD,hU⟩:=hI;have gS:(O.set i (.cells (Dh bs))) i=some (.cells (Dh bs)):=w6 ..
 by_cases h3:3<=m
 ·obtain⟨j,hj⟩:∃j,m=j+3:=⟨m-3,j0⟩
  have fI:w.ae[j]'(by omega)=parentsF w.ae m:=by
   unfold parentsF;rw[aE j0,show((m:Int)-3).toNat=j by omega,aD j0];rfl
  have fa:=BP hb m;rw[show m-2=j+1 by omega,upD,<-hj]at hU;rw[<-fI]at hU fa;have e3:(m:Int)-3=j:=by omega
  generalize fS:w.ae[j]'(by omega)=ps at hU fa
  try refine gf (gi e3 fS) ?_
  refine BO ([2,4,5,6]++List.range' 18 11++[47]) (fun (q:Nat) (b2:List Bool)=>q<=ps.length/\b2.length=3+w.ae.length/\GG m ps bs=GG m (ps.drop q) b2) (fun q _=>[(29,dI q)]) (fun _ b2=>O.set i (.cells (Dh b2))) (fun q _=>ps.length-q) (0) (bs) (by exact⟨j0,gD,rfl⟩) (fun q b2 hI=>?_);obtain⟨hq,fo,hR⟩:=hI;have gR:(O.set i (.cells (Dh b2))) i=some (.cells (Dh b2)):=w6 ..
  by_cases fu:q<ps.length
  ·have hp:=fa.2 _ (aK fu);rw[A6 fu,GG]at hR;obtain⟨p,fU⟩:∃p:Nat,ps[q]=(p:Int):=⟨(ps[q]).toNat,j0⟩;rw[fU]at hR hp;have hm2:m<b2.length:=by omega
   have go:p<b2.length:=by omega
   rw[show((p:Int)).toNat=p by omega,aQ,aQ,aD hm2,aD go,ba,ba]at hR
   repeat' first|refine gf (gi e3 (gi fS fU)) ?_|apply gy<;>intro hh
   ·rw[hh,Bool.true_or]at hR;exact⟨q+1,b2.set p true,⟨j0,by simpa using fo,hR⟩,td1,wkR⟩
   ·rw[hh,cO]at hR;exact⟨q+1,b2.set p b2[m],⟨j0,by simpa using fo,hR⟩,td1,wkR⟩
  ·rw[A9 fu,GG]at hR;rw[hR]at hU
   try refine gz ?_
   exact⟨m-1,b2,⟨j0,fo,by rw[show m-1-2=j by omega];exact hU⟩,td1,wkR⟩
 ·rw[show m-2=0 by omega,upD]at hU;subst hU
  try refine gz ?_
  exact fin1 (U':=O.set i (.cells (Dh (upF w.ae k)))) ⟨i,rfl,hi,rfl⟩
def DD(k:Nat): ∀(ps:eP) (bs:List Bool),(GG k ps bs).length=bs.length
 |[],_=>rfl
 |p::r,bs=>by rw[GG,DD k r,bP]
def Ky(g:eT): ∀(j:Nat) (bs:List Bool),(upD g j bs).length=bs.length
 |0,_=>rfl
 |j+1,bs=>by rw[upD,Ky g j,DD]
def Q8(g:eT)(c:Int):(upF g c).length=3+g.length:=by rw[upF,Ky,bP,bY]
def IE(g:eT)(a b:Int):Bool:=decide (a=b)||decide (b=0)||(decide (3<=a)&&(upF g a).getD b.toNat false)
def JT(w:World)(a b:Int)(O:Sig)(hb:Bk w.ae=true)(ha:0<=a/\a<3+w.ae.length)(gV:0<=b/\b<3+w.ae.length):
  ar prog 248 [.agg (Dg w),dI a,dI b] O (rS (.bool (IE w.ae a b)) O):=by
 have hlen:=E9 hb;obtain⟨k,rfl⟩:∃k:Nat,b=(k:Int):=⟨b.toNat,j0⟩;have gH:=Q8 w.ae a;have hk:k<(upF w.ae a).length:=by omega
 have ff:(upF w.ae a).getD k false=(upF w.ae a)[k]:=by rw[aQ,aD hk];rfl
 refine en func248 ntmps248 ?_
 by_cases h1:a=(k:Int)\/(k:Int)=0
 ·have e:IE w.ae a k=true:=by
   unfold IE;rcases h1 with h1|h1<;>simp[h1]
  repeat' first|refine gz ?_|apply gy<;>intro hh
  any_goals (first|exact fe1 e|fail)
 ·have e:IE w.ae a k=(decide (3<=a)&&(upF w.ae a)[k]):=by
   unfold IE;rw[show((k:Int)).toNat=k by omega,ff];simp only[eh]at h1;rw[bk h1.1,bk h1.2];rfl
  by_cases h3:3<=a
  ·try refine gz ?_
   refine A3 (Tx w a _ hb ha) (fun d U' hx=>?_) (fun d U' hx=>by obtain⟨_,hx,_⟩:=hx;cases hx);obtain⟨i,hx,hi,rfl⟩:=hx;cases hx;simp only[putD]
   try refine gz ?_
   exact fe1 (gi e h3)
  ·try refine gz ?_
   exact fe1 (gi e h3)
@[reducible,instance] def a248:=fun w a b O=>ah3 (@JT w a b O)
def hasW(w:World)(c s:Int):Bool:=decide (3<=c)&&IE w.ae c ((w.jQ[s.toNat]?).getD 0)
def Nl(w:World)(c s:Int)(O:Sig)(hb:Bk w.ae=true)(hc:0<=c/\c<3+w.ae.length)(hs:0<=s/\s<w.jQ.length)(ho:∀x∈w.jQ,0<=x/\x<3+w.ae.length):
  ar prog 193 [.agg (Dg w),dI c,dI s] O (rS (.bool (hasW w c s)) O):=by
 have hlen:=E9 hb;obtain⟨k,rfl⟩:∃k:Nat,s=(k:Int):=⟨s.toNat,j0⟩;have hk:k<w.jQ.length:=by omega
 have fD:=ho _ (aK hk)
 have e:hasW w c k=(decide (3<=c)&&IE w.ae c (w.jQ[k])):=by
  unfold hasW;rw[show((k:Int)).toNat=k by omega,aD hk];rfl
 refine en func193 ntmps193 ?_
 by_cases h3:3<=c
 ·repeat' first|refine gz ?_|refine moRG (JT w c (w.jQ[k]) O hb hc fD) ?_|refine moPG (JT w c (w.jQ[k]) O hb hc fD) ?_|refine gz ?_ o193|apply gy<;>intro hh
  exact fe1 (gi e h3)
 ·try refine gz ?_ o193
  exact fe1 (gi e h3)
@[reducible,instance] def a193:=fun w c s O=>ah4 (@Nl w c s O)
def CA:Int->eP->Option Int
 |n,[]=>some n
 |n,s::r=>if s=n then CA (n+1) r else none
def FJ:Int->List ax->Option Int
 |n,[]=>some n
 |n,c::r=>if 4<c.ac.length\/3<c.ae.length then none else match CA n c.ac with
  |none=>none
  |some m=>FJ m r
def FG(w:World)(N c:Int)(x:jv):Bool:=decide (0<=x.slot/\x.slot<N)&&hasW w c x.slot&&inB x.n
def Ga(w:World)(N c:Int):List jv->List jv->Bool
 |_,[]=>true
 |seen,x::r=>FG w N c x&&(seen.all fun y=> !decide (y.slot=x.slot))&&Ga w N c (seen++[x]) r
def E7(w:World)(N:Int):Nat->List ax->Bool
 |_,[]=>true
 |i,c::r=>decide (0<(lineF w.ae ((i:Int)+3)).length)&&Ga w N ((i:Int)+3) [] c.ah&&E7 w N (i+1) r
def AM(p:aw):Bool:=decide (p.aa.length<=10)&&match FJ 0 p.aa with
 |none=>false
 |some n=>decide (n=p.ac)&&Bk (p.aa.map (·.ae))&&E7 (AG p) n 0 p.aa
def Cm: ∀(l:List ax) (i:Nat),(ownersF l i).length=wtL (fun c:ax=>c.ac.length) l
 |[],_=>rfl
 |c::r,i=>by rw[ownersF,aC,bY,Cm r];rfl
def Ep: ∀{l:List ax}{i:Nat}{x:Int},x∈ownersF l i->3+(i:Int)<=x/\x<3+i+l.length
 |[],_,_,h=>by cases h
 |c::r,i,x,h=>by
  rw[ownersF]at h;rcases bJ.1 h with h|h
  ·have:=cV h;rw[aS];omega
  ·have:=Ep h;rw[aS];omega
def Us (p:aw) (O:Sig) (hp:p.wt<=1073741824:=by exact sd):ar prog 144 [.agg (A7 p)] O (rS (.bool (AM p)) O):=by
 obtain⟨p1,p2,p3,p4,p5,p6,p7⟩:=p.wt_le;have ws:=Db p
 have eW:∀c∈p.aa,c.ae.length<=1073741824/\c.ac.length<=1073741824/\c.ah.length<=1073741824:=fun c hc=>by
  obtain⟨k,hk,rfl⟩:=bT hc;have:=p5 k hk;have fF:(p.aa[k]).wt=1+(p.aa[k]).ae.length+(p.aa[k]).ac.length+(p.aa[k]).ah.length:=rfl;omega
 refine en func144 ntmps144 ?_
 repeat' first|refine gz ?_ o144|apply gy<;>intro hh
 ·(refine fin1 (U':=O) ?_;exact⟨by first|rfl|(simp[AM];done)|(simp_all [AM];done)|(rw[Ae,aR];simp_all [AM]<;>omega),rfl⟩)
 refine BO ([1]++List.range' 7 9++List.range' 60 93) (fun (i:Nat) (n:Int)=>i<=p.aa.length/\n=wtL (fun c:ax=>c.ac.length) (p.aa.take i)/\FJ 0 p.aa=FJ n (p.aa.drop i)) (fun i n=>[(4,dI i),(3,dI n)]) (fun _ _=>O) (fun i _=>p.aa.length-i) (0) (0) (by simp[wtL]) (fun i n hI=>?_);obtain⟨hi,hn,hR⟩:=hI
 by_cases h:i<p.aa.length
 ·have hx:=eW _ (aK h);have hT:=IL (fun c:ax=>c.ac.length) p.aa i h;have gY:=Fe (fun c:ax=>c.ac.length) p.aa (i+1);rw[A6 h,FJ]at hR
  repeat' first|refine gz ?_ o144|apply gy<;>intro hh
  ·have hc:FJ 0 p.aa=none:=by rw[hR,aG (.inl j0)]
   (refine fin1 (U':=O) ?_;exact⟨by first|rfl|(simp[AM,hc];done)|(simp_all [AM,hc];done)|(rw[Ae,aR];simp_all [AM,hc]<;>omega),rfl⟩)
  ·have hc:FJ 0 p.aa=none:=by rw[hR,aG (.inr j0)]
   (refine fin1 (U':=O) ?_;exact⟨by first|rfl|(simp[AM,hc];done)|(simp_all [AM,hc];done)|(rw[Ae,aR];simp_all [AM,hc]<;>omega),rfl⟩)
  ·rw[aE j0]at hR;generalize fP:(p.aa[i]).ac=sl' at*;refine Bz ([1,4,5]++List.range' 7 9++List.range' 20 26++List.range' 60 93) (fun (q:Nat)=>q<=sl'.length/\CA n sl'=CA (n+q) (sl'.drop q)) (fun q=>[(6,dI q),(3,dI (n+q))]) (fun _=>O) (fun q=>sl'.length-q) (0) j1 (fun q hI=>?_);obtain⟨hq,hQ⟩:=hI
   by_cases fu:q<sl'.length
   ·rw[A6 fu,CA]at hQ;have gI:=hx.2.1;have gN:0<=n:=by omega
    have gM:n<=1073741824:=by omega
    repeat' first|refine gz ?_ o144|apply gy<;>intro hh
    ·rw[aE hh]at hQ;have hc:FJ 0 p.aa=none:=by rw[hR,hQ]
     (refine fin1 (U':=O) ?_;exact⟨by first|rfl|(simp[AM,hc];done)|(simp_all [AM,hc];done)|(rw[Ae,aR];simp_all [AM,hc]<;>omega),rfl⟩)
    ·rw[aG hh]at hQ;exact⟨q+1,⟨j0,by rw[hQ,Int.add_assoc];rfl⟩,td1,wkR⟩
   ·rw[A9 fu,CA]at hQ;rw[hQ]at hR;have fR:q=sl'.length:=by omega
    try refine gz ?_ o144
    exact⟨i+1,n+q,⟨j0,by rw[hT];omega,hR⟩,td1,wkR⟩
 ·rw [A9 h,FJ] at hR;have fj:(AG p).ae=p.aa.map (·.ae):=rfl;have fb:(AG p).jQ.length=wtL (fun c:ax=>c.ac.length) p.aa:=Cm _ _;have gr:n=wtL (fun c:ax=>c.ac.length) p.aa:=by rw[hn,ck j0]
  have fq:=Nx p O j0 (fun c hc=>(eW c hc).1);have fL:=IS p O j0 (fun c hc=>(eW c hc).1) (fun c hc=>(eW c hc).2.1) (by rw[Cm];omega);have d6:=TY (p.aa.map (·.ae)) .no O (by simp;omega) (fun x hx=>by obtain⟨c,hc,rfl⟩:=aZ.1 hx;exact(eW c hc).1)
  by_cases hs:n=p.ac
  ·cases hg:Bk (p.aa.map (·.ae)) with
   |false=>
    rw[hg]at d6
    repeat' first|refine gz ?_|refine Bh (fq) ?_|refine callP (fq) ?_|refine DZ (d6) ?_|refine callPG (d6) ?_|refine gz ?_ o144|apply gy<;>intro hh
    (refine fin1 (U':=O) ?_;exact⟨by first|rfl|(simp[AM,hR,hg];done)|(simp_all [AM,hR,hg];done)|(rw[Ae,aR];simp_all [AM,hR,hg]<;>omega),rfl⟩)
   | true =>
    rw[hg]at d6;have fm:AM p=E7 (AG p) n 0 p.aa:=by unfold AM;rw[hR];simp[hs,hg];omega
    repeat' first|refine gz ?_|refine Bh (fq) ?_|refine callP (fq) ?_|refine DZ (d6) ?_|refine callPG (d6) ?_|refine Bh (fL) ?_|refine callP (fL) ?_|refine gz ?_ o144|apply gy<;>intro hh
    have gq:∀x∈(AG p).jQ,0<=x/\x<3+(AG p).ae.length:=fun x hx=>by
     have:=Ep hx;rw[fj,aN];omega
    have gx:Bk (AG p).ae=true:=hg;have gc:(AG p).ae.length=p.aa.length:=by rw[fj,aN]
    have fb:((AG p).jQ.length:Int)=n:=by rw[gr];exact_mod_cast fb
    clear fq fL d6;generalize hw:AG p=w at*;refine Bz [1,3,7,8] (fun (j:Nat)=>j<=p.aa.length/\E7 w n 0 p.aa=E7 w n j (p.aa.drop j)) (fun j=>[(9,dI j)]) (fun _=>O) (fun j=>p.aa.length-j) (0) j1 (fun j hI=>?_);obtain⟨hj,hJ⟩:=hI
    by_cases h':j<p.aa.length
    ·have hx:=eW _ (aK h');rw[A6 h',E7]at hJ;have fp:=JW w.ae ((j:Int)+3) .no O gx j0 (fun x hx=>by rw[fj]at hx;obtain⟨c,hc,rfl⟩:=aZ.1 hx;exact(eW c hc).1);rw[fj]at fp
     by_cases hl:0<(lineF w.ae ((j:Int)+3)).length
     ·rw [be hl,bq] at hJ;rw[fj]at hl;rw[be hl]at fp;generalize fZ:(p.aa[j]).ah=j6 at hJ hx
      repeat' first|refine gf fZ ?_|refine Bh (fp) ?_|refine callP (fp) ?_|refine gf fZ ?_ o144|apply gy<;>intro hh
      refine Bz ([1,3,7,8,9,10,11,12,13]++List.range' 73 23) (fun (k:Nat)=>k<=j6.length/\Ga w n ((j:Int)+3) [] j6=Ga w n ((j:Int)+3) (j6.take k) (j6.drop k)) (fun k=>[(14,dI k)]) (fun _=>O) (fun k=>j6.length-k) (0) j1 (fun k hI=>?_);obtain⟨hk,hK⟩:=hI
      by_cases d9:k<j6.length
      ·have gQ:=hx.2.2;rw[A6 d9,Ga]at hK
       repeat' first|refine gz ?_ o144|apply gy<;>intro hh
       ·have hf:FG w n ((j:Int)+3) j6[k]=false:=by unfold FG;rw[bk j0];rfl
        rw[hf,bD,bD]at hK;rw[hK,bD]at hJ;exact fe1 (gi fm hJ)
       ·have hf:FG w n ((j:Int)+3) j6[k]=false:=by unfold FG;rw[bk j0];rfl
        rw[hf,bD,bD]at hK;rw[hK,bD]at hJ;exact fe1 (gi fm hJ)
       ·have hf:FG w n ((j:Int)+3) j6[k]=false:=by unfold FG;simp_all
        rw[hf,bD,bD]at hK;rw[hK,bD]at hJ;exact fe1 (gi fm hJ)
       ·have hf:FG w n ((j:Int)+3) j6[k]=false:=by unfold FG;simp_all
        rw[hf,bD,bD]at hK;rw[hK,bD]at hJ;exact fe1 (gi fm hJ)
       ·have ht:FG w n ((j:Int)+3) j6[k]=true:=by unfold FG;rw[be j0];simp_all
        rw[ht,bq]at hK;refine Bz ([1,3]++List.range' 7 8++List.range' 73 64) (fun (m:Nat)=>m<=k/\((j6.take m).all fun y=> !decide (y.slot=(j6[k]).slot))=true) (fun m=>[(15,dI m)]) (fun _=>O) (fun m=>k-m) (0) j1 (fun m hI=>?_);obtain⟨hm,hM⟩:=hI
        by_cases eZ:m<k
        ·have fV:m<j6.length:=by omega
         repeat' first|refine gz ?_ o144|apply gy<;>intro hh
         ·have hf:((j6.take k).all fun y=> !decide (y.slot=(j6[k]).slot))=false:=by
           rw[List.all_eq_false];exact⟨j6[m],List.mem_take_iff_getElem.2 ⟨m,j0,rfl⟩,by simp[hh]⟩
          rw[hf,bD]at hK;rw[hK,bD]at hJ;exact fe1 (gi fm hJ)
         ·exact⟨m+1,⟨j0,by rw[aU fV,List.all_append,hM];simp[hh]⟩,td1,wkR⟩
        ·have gv:m=k:=by omega
         subst gv;rw[hM,bq]at hK
         try refine gz ?_ o144
         exact⟨m+1,⟨j0,by rw[hK,Ek d9]⟩,td1,wkR⟩
      ·rw[A9 d9,Ga]at hK;rw[hK,bq]at hJ
       try refine gz ?_ o144
       exact⟨j+1,⟨j0,hJ⟩,td1,wkR⟩
     ·rw[bk hl,bD,bD]at hJ;rw[fj]at hl;rw[bk hl]at fp
      repeat' first|refine gz ?_|refine Bh (fp) ?_|refine callP (fp) ?_|refine gz ?_ o144|apply gy<;>intro hh
      exact fe1 (gi fm hJ)
    ·rw[A9 h',E7]at hJ
     try refine gz ?_ o144
     exact fe1 (gi fm hJ)
  ·repeat' first|refine gz ?_|refine Bh (fq) ?_|refine callP (fq) ?_|refine gz ?_ o144|apply gy<;>intro hh
   (refine fin1 (U':=O) ?_;exact⟨by first|rfl|(simp[AM,hR,hs];done)|(simp_all [AM,hR,hs];done)|(rw[Ae,aR];simp_all [AM,hR,hs]<;>omega),rfl⟩)
def W7(w:World)(l:eP):Bool:=l.all (fun s=>decide (0<=s/\s<w.jQ.length))&&decide (l.length<=2)
def GV(op:Int):Int:=if op=5 then 1 else if op=6\/op=7 then 2 else 0
def JM(w:World)(f:j8):Bool:=
 if f.op=2 then decide (f.n=0)&&decide (0<=f.jM/\f.jM<3+w.ae.length)
 else if f.op=3\/f.op=4 then decide (f.jM=0)&&decide (-1000000000<=f.n/\f.n<=1000000000)
 else decide (f.op=1\/f.op=5\/f.op=6\/f.op=7)
def Fv(w:World)(f:j8):Bool:=
 decide ((f.ag.length:Int)=GV f.op)&&decide (0<=f.arg/\f.arg<3)&&W7 w f.path&&(CU f.op||(decide (f.arg=0)&&decide (f.path.length=0)&&decide (f.jM=0)&&decide (f.n=0)))
mutual
def Jq(w:World):j8->Bool
 |.mk o a p c n k=>JM w (.mk o a p c n k)&&Fv w (.mk o a p c n k)&&Et w k
def Et(w:World):List j8->Bool
 |[]=>true
 |f::l=>Jq w f&&Et w l
end
def P6(w:World)(f:j8):Jq w f=(JM w f&&Fv w f&&Et w f.ag):=by cases f;rw[Jq];rfl
theorem Ans.of{f:Nat}{us:eO}{O:Sig}{d:D}(h:ar prog f us O (rS d O)):Ans f us O True d:=⟨fun _=>h⟩
def Nj (w:World) (f:j8) (O:Sig) (hw:w.ae.length<=1073741824:=by exact sd) (fG:w.jQ.length<=1073741824:=by exact sd) (hf:f.wt<=1073741824:=by exact sd) :
  ar prog 224 [.agg (Dg w),.agg (Cu f)] O (rS (.bool (Jq w f)) O):=by
 obtain⟨f1,f2,f3⟩:=f.wt_le;have fc:∀(k:Nat) (hk:k<f.ag.length),ar prog 224 [.agg (Dg w),.agg (Cu (f.ag[k]))] O (rS (.bool (Jq w (f.ag[k]))) O):=fun k hk=>Nj w (f.ag[k]) O hw fG (by have:=f3 k hk;omega)
 have b6:=P6 w f;refine en func224 ntmps224 ?_;cases ho:JM w f with
 | false =>
  rw[ho,bD,bD]at b6;unfold JM at ho
  by_cases h2:f.op=2
  ·rw[aG h2,dH,bh]at ho
   by_cases hn:f.n=0
   ·have hc:decide (0<=f.jM/\f.jM<3+(w.ae.length:Int))=false:=ho.resolve_left (fun h=>h hn);refine gf (gi h2 hc) ?_;exact fe1 b6
   ·refine gf h2 ?_;exact fe1 b6
  ·rw [aE h2] at ho
   by_cases fg:f.op=3\/f.op=4
   ·rw [aG fg,dH,bh,bh] at ho
    by_cases hc:f.jM=0
    ·by_cases hn:f.n < -1000000000
     ·rcases fg with h3|h4
      ·refine gz ?_;exact fe1 b6
      ·refine gz ?_;exact fe1 b6
     ·rcases fg with h3|h4
      ·refine gz ?_;exact fe1 b6
      ·refine gz ?_;exact fe1 b6
    ·rcases fg with h3|h4
     ·refine gz ?_;exact fe1 b6
     ·refine gz ?_;exact fe1 b6
   ·rw[aE fg]at ho;have gL:=of_decide_eq_false ho;refine gz ?_;exact fe1 b6
 | true =>
  rw[ho,bq]at b6;unfold JM at ho
  repeat ((fail_if_success refine dwp_join (c:=.block 0 _) 5 (dI 0) ?_ ?_);(refine go1 trivial ?_))
  refine dwp_join (c:=.block 0 _) 5 (dI (GV f.op)) ?_ ?_
  ·by_cases h2:f.op=2
   ·rw[aG h2,aF,aH]at ho;have d7:GV f.op=0:=by rw[h2];rfl
    refine gf (gi h2 ho.2) ?_;refine FM ?_ (Sub.refl _);simp[d7]
   ·rw[aE h2]at ho
    by_cases fg:f.op=3\/f.op=4
    ·rw[aG fg,aF,aH,aH]at ho;rcases fg with h3|h4
     ·have d7:GV f.op=0:=by rw[h3];rfl
      refine gz ?_;refine FM ?_ (Sub.refl _);simp[d7]
     ·have d7:GV f.op=0:=by rw[h4];rfl
      refine gz ?_;refine FM ?_ (Sub.refl _);simp[d7]
    ·rw[aE fg]at ho;rcases cY ho with h1|h1|h1|h1
     ·have d7:GV f.op=0:=by rw[h1];rfl
      refine gz ?_;refine FM ?_ (Sub.refl _);simp[d7]
     ·have d7:GV f.op=1:=by rw[h1];rfl
      refine gz ?_;refine FM ?_ (Sub.refl _);simp[d7]
     ·have d7:GV f.op=2:=by rw[h1];rfl
      refine gz ?_;refine FM ?_ (Sub.refl _);simp[d7]
     ·have d7:GV f.op=2:=by rw[h1];rfl
      refine gz ?_;refine FM ?_ (Sub.refl _);simp[d7]
  ·clear ho
   have gG:GV f.op=0\/GV f.op=1\/GV f.op=2:=by
    unfold GV;split
    ·exact .inr (.inl rfl)
    ·split
     ·exact .inr (.inr rfl)
     ·exact .inl rfl
   have eU:ar prog 271 [.agg (Dg w),.slice (cI f.path) .no] O (rS (.bool (W7 w f.path)) O):=TD w f.path .no O fG j0;have eV:=Ni f O;cases hr:Fv w f with
   | false =>
    rw[hr,bD]at b6;unfold Fv at hr
    by_cases hk:(f.ag.length:Int)=GV f.op
    ·rw [be hk,bq] at hr
     by_cases gX:f.arg<0
     ·refine gz ?_;exact fe1 b6
     ·by_cases gW:3<=f.arg
      ·refine gz ?_;exact fe1 b6
      ·rw [be j0,bq] at hr;cases hp:W7 w f.path with
       |false=>
        rw[hp]at eU;have i232:=Ans.of eU;refine gz ?_;exact fe1 b6
       | true =>
        rw[hp]at eU;have i232:=Ans.of eU;rw[hp,bq,eg]at hr;rw[hr.1]at eV;have i180:=Ans.of eV
        have gJ:¬(f.arg=0/\(f.path.length=0)/\f.jM=0/\f.n=0):=fun h=>by
         have:=hr.2;rw[be h.1,be h.2.1,be h.2.2.1,be h.2.2.2]at this;cases this
        by_cases gn:f.arg=0
        ·by_cases fR:f.path.length=0
         ·by_cases gm:f.jM=0
          ·refine gz ?_;exact fe1 b6
          ·refine gz ?_;exact fe1 b6
         ·refine gz ?_;exact fe1 b6
        ·refine gz ?_;exact fe1 b6
    ·refine gz ?_;exact fe1 b6
   | true =>
    rw[hr,bq]at b6;unfold Fv at hr;simp only[aF,aH]at hr;obtain⟨⟨⟨hk,ha⟩,hp⟩,hl⟩:=hr;rw[hp]at eU;have i232:=Ans.of eU;cases fX:CU f.op with
    | true =>
     rw[fX]at eV;have i180:=Ans.of eV;refine gz ?_;refine Bz [2,92,93] (fun (k:Nat)=>k<=f.ag.length/\Et w f.ag=Et w (f.ag.drop k)) (fun k=>[(94,dI k)]) (fun _=>O) (fun k=>f.ag.length-k) (0) j1 (fun k hI=>?_);obtain⟨hk,hK⟩:=hI
     by_cases d9:k<f.ag.length
     ·rw[A6 d9,Et]at hK
      repeat' first|refine gz ?_|refine Bh (fc k d9) ?_|refine callP (fc k d9) ?_|refine gz ?_|apply gy<;>intro hh
      ·exact fe1 (gi b6 hK)
      ·rw[show Jq w f.ag[k]=true by simpa using hh,bq]at hK;exact⟨k+1,⟨j0,hK⟩,td1,wkR⟩
     ·rw[A9 d9,Et]at hK;refine gz ?_;exact fe1 (gi b6 hK)
    | false =>
     rw[fX]at eV hl;have i180:=Ans.of eV;simp only[cO,aF,aH]at hl;obtain⟨⟨⟨gn,fR⟩,gm⟩,gK⟩:=hl;refine gz ?_;refine Bz [2,92,93] (fun (k:Nat)=>k<=f.ag.length/\Et w f.ag=Et w (f.ag.drop k)) (fun k=>[(94,dI k)]) (fun _=>O) (fun k=>f.ag.length-k) (0) j1 (fun k hI=>?_);obtain⟨hk,hK⟩:=hI
     by_cases d9:k<f.ag.length
     ·rw[A6 d9,Et]at hK
      repeat' first|refine gz ?_|refine Bh (fc k d9) ?_|refine callP (fc k d9) ?_|refine gz ?_|apply gy<;>intro hh
      ·exact fe1 (gi b6 hK)
      ·rw[show Jq w f.ag[k]=true by simpa using hh,bq]at hK;exact⟨k+1,⟨j0,hK⟩,td1,wkR⟩
     ·rw[A9 d9,Et]at hK;refine gz ?_;exact fe1 (gi b6 hK)
termination_by SizeOf.sizeOf f
decreasing_by exact j8.lt (aK _)
@[reducible,instance] def a224:=fun w f O=>ah3 (@Nj w f O)
def Bi(f:Int->Int->eP->Bool×eP)(x:ay)(size:Int):Nat->eP->eP->Bool×eP
 |_,[],s=>(true,s)
 |j,c::r,s=>match f c (if x.op=9/\j=1 then size+1 else size) s with
  |(false,s')=>(false,s')
  |(true,s')=>Bi f x size (j+1) r s'
def Ad(p:aw)(n:Int):ay:=(p.jJ[n.toNat]?).getD ⟨0,0,[]⟩
def BF(p:aw)(inM:Bool):Nat->Int->Int->eP->Bool×eP
 |0,_,_,s=>(false,s)
 |k+1,node,size,s=>
  if node<0\/(p.jJ.length:Int)<=node\/0<=s.getD node.toNat 0 then(false,s) else
  if((Ad p node).ag.length:Int)≠C4 p (Ad p node)\/Co p (Ad p node) size=false\/((Ad p node).op=18/\inM=false) then(false,s.set node.toNat size) else
  Bi (BF p inM k) (Ad p node) size 0 (Ad p node).ag (s.set node.toNat size)
def FN{f:Int->Int->eP->Bool×eP}{x:ay}{size:Int}(hf:∀c z s,(f c z s).2.length=s.length): ∀(j:Nat) (l s:eP),(Bi f x size j l s).2.length=s.length
 |_,[],_=>rfl
 |j,c::r,s=>by
  rw[Bi];have h:=hf c (if x.op=9/\j=1 then size+1 else size) s;split
  ·rename_i s' e;rw[e]at h;exact h
  ·rename_i s' e;rw[e]at h;rw[FN hf];exact h
def Cw(p:aw)(inM:Bool): ∀(k:Nat) (node size:Int) (s:eP),(BF p inM k node size s).2.length=s.length
 |0,_,_,_=>rfl
 | k+1,node,size,s=>by
  rw[BF];split
  ·rfl
  ·split
   ·simp
   ·rw[FN (Cw p inM k),bP]
def rowI(s:eP)(rest:eO):eO:=s.map dI++rest
@[simp] theorem rowI_length(s:eP)(rest:eO):(rowI s rest).length=s.length+rest.length:=by simp[rowI]
@[simp] theorem rowI_get(s:eP)(rest:eO)(k:Nat)(h:k<s.length):(rowI s rest)[k]? = some (dI s[k]):=by
 unfold rowI;rw[bj (by simpa using h),bA,aD h];rfl
@[simp] theorem rowI_put(s:eP)(rest:eO)(k:Nat)(v:Int)(h:k<s.length):(rowI s rest).take k ++ .int .i64 v::(rowI s rest).drop (k+1)=rowI (s.set k v) rest:=by
 unfold rowI;rw[eE (by simp;omega),List.drop_append_of_le_length (by simp;omega),<-List.map_take,<-List.map_drop,bL,aG h];simp[dI]
def Sig.set_self(O:Sig){i:Nat}{o:jP}(h:O i=some o):O.set i o=O:=by
 funext k;simp only[Sig.set];split
 ·rename_i e;rw[e,h]
 ·rfl
def F7 (p:aw) (k:Nat) (node size:Int) (inM:Bool) (i cap:Nat) (s:eP) (rest:eO) (O:Sig) (hk:k<=13) (hi:O i=some (.cells (rowI s rest))) (hs:s.length=p.jJ.length) (hsz:0<=size/\size+k<=1073741824) (hp:p.wt<=1073741824) :
  ar prog 147 [.agg (A7 p),dI node,dI size,dI (13-(k:Int)),.bool inM,.am i 0 p.jJ.length cap] O fun x U'=>x=.ret (.bool (BF p inM k node size s).1)/\U'=O.set i (.cells (rowI (BF p inM k node size s).2 rest)):=by
 obtain⟨p1,p2,p3,p4,p5,p6,p7⟩:=p.wt_le;refine en func147 ntmps147 ?_
 by_cases h1:node<0\/(p.jJ.length:Int)<=node
 ·have hW:BF p inM k node size s=(false,s):=by
   cases k with
   |zero=>rfl
   |succ k=>rw[BF,aG (by rcases h1 with h|h;exact .inl h;exact .inr (.inl h))]
  rw[hW,Sig.set_self O hi];rcases h1 with h1|h1
  ·refine gz ?_ kX;exact fe1 trivial
  ·refine gz ?_ kX;exact fe1 trivial
 ·obtain ⟨q,rfl⟩ : ∃ q:Nat,node=(q:Int):=⟨node.toNat,j0⟩;have hq:q<p.jJ.length:=by omega
  have gk:q<s.length:=by omega
  have fH:((q:Int)).toNat=q:=by omega
  have ff:s.getD ((q:Int)).toNat 0=s[q]:=by rw[fH,aQ,aD gk];rfl
  by_cases h2:0<=s[q]
  ·have hW:BF p inM k q size s=(false,s):=by
    cases k with
    |zero=>rfl
    |succ k=>rw[BF,aG (.inr (.inr (by rw[ff];exact h2)))]
   rw[hW,Sig.set_self O hi];refine gf hi ?_ kX;exact fe1 trivial
  ·cases k with
   |zero=>
    rw[BF,Sig.set_self O hi];refine gf hi ?_ kX;exact fe1 trivial
   | succ k =>
    rw[BF,aE (by rw[ff];omega)];have gu:Ad p q=p.jJ[q]:=by unfold Ad;rw[fH,aD hq];rfl
    rw[gu,fH];generalize hx:p.jJ[q]=x
    have gF:x.ag.length<=1073741824:=by
     have:=p7 q hq;rw[hx]at this;have fF:x.wt=1+x.ag.length:=rfl;omega
    have fh:=TU p x size (O.set i (.cells (rowI (s.set q size) rest))) j0 j0
    by_cases f7:(x.ag.length:Int)=C4 p x
    ·cases f0:Co p x size with
     |false=>
      rw[aG (.inr (.inl rfl))];rw[f0]at fh;have i182:=Ans.of fh;refine gf (gi hi hx) ?_ kX;exact fe1 trivial
     | true =>
      rw[f0]at fh;have i182:=Ans.of fh
      by_cases fC:x.op=18/\inM=false
      ·rw[aG (.inr (.inr fC))];obtain⟨fC,rfl⟩:=fC;refine gf (gi hi hx) ?_ kX;exact fe1 trivial
      ·rw [aE (by simp [f7,fC])]
       by_cases fM:x.op=18
       ·obtain rfl:inM=true:=by cases inM;exact absurd ⟨fM,rfl⟩ fC;rfl
        refine gf (gi hi hx) ?_ kX;refine BO [2,3,4,5,6,13] (fun (j:Nat) (s':eP)=>j<=x.ag.length/\s'.length=s.length/\Bi (BF p true k) x size 0 x.ag (s.set q size)=Bi (BF p true k) x size j (x.ag.drop j) s') (fun j _=>[(14,dI j)]) (fun _ s'=>O.set i (.cells (rowI s' rest))) (fun j _=>x.ag.length-j) (0) (s.set q size) j1 (fun j s' hI=>?_);obtain⟨hj,gj,hR⟩:=hI;have e13:(13:Int)-((k:Int)+1)+1=13-k:=by omega
        by_cases d5:j<x.ag.length
        ·rw[A6 d5,Bi]at hR;rw[aE j0]at hR;refine gf hi ?_ (ji 13 kX);refine FK (id:=13) (List.range 13) [11] (fun _=>none) (fun _ _ h=>by cases h) ?_;refine gf (gi hi e13) ?_ (ji 13 kX);refine AX (F7 p k (x.ag[j]) (size) true i cap s' rest _ j0 (w6 ..) j0 ⟨j0,j0⟩ hp) (fun d U' hx=>?_) (fun d U' hx=>by cases hx.1);obtain⟨eX,rfl⟩:=hx;cases eX;rw[w8];refine⟨fun _ _ h=>(by cases h),?_⟩;simp only[putD];have b9:=Cw p true k x.ag[j] (size) s';rcases hr:BF p true k (x.ag[j]) (size) s' with⟨b,s2⟩;rw[hr]at hR b9;simp only at b9;cases b with
         |false=>
          simp only at hR;rw[hR];refine gz ?_ (ji 13 kX);exact fe1 trivial
         |true=>
          simp only at hR;refine gz ?_ (ji 13 kX);exact⟨j+1,s2,⟨j0,j0,hR⟩,td1,wkR⟩
        ·rw[A9 d5,Bi]at hR;rw[hR];refine gz ?_ kX;exact fe1 trivial
       ·refine gf (gi hi hx) ?_ kX;refine BO [2,3,4,5,6,13] (fun (j:Nat) (s':eP)=>j<=x.ag.length/\s'.length=s.length/\Bi (BF p inM k) x size 0 x.ag (s.set q size)=Bi (BF p inM k) x size j (x.ag.drop j) s') (fun j _=>[(14,dI j)]) (fun _ s'=>O.set i (.cells (rowI s' rest))) (fun j _=>x.ag.length-j) (0) (s.set q size) j1 (fun j s' hI=>?_);obtain⟨hj,gj,hR⟩:=hI;have e13:(13:Int)-((k:Int)+1)+1=13-k:=by omega
        by_cases d5:j<x.ag.length
        ·rw [A6 d5,Bi] at hR
         by_cases h9:x.op=9/\j=1
         ·rw[aG h9]at hR;refine gf hi ?_ (ji 13 kX);refine FK (id:=13) (List.range 13) [11] (fun _=>none) (fun _ _ h=>by cases h) ?_;refine gf (gi hi e13) ?_ (ji 13 kX);refine AX (F7 p k (x.ag[j]) (size+1) inM i cap s' rest _ j0 (w6 ..) j0 ⟨j0,j0⟩ hp) (fun d U' hx=>?_) (fun d U' hx=>by cases hx.1);obtain⟨eX,rfl⟩:=hx;cases eX;rw[w8];refine⟨fun _ _ h=>(by cases h),?_⟩;simp only[putD];have b9:=Cw p inM k x.ag[j] (size+1) s';rcases hr:BF p inM k (x.ag[j]) (size+1) s' with⟨b,s2⟩;rw[hr]at hR b9;simp only at b9;cases b with
          |false=>
           simp only at hR;rw[hR];refine gz ?_ (ji 13 kX);exact fe1 trivial
          |true=>
           simp only at hR;refine gz ?_ (ji 13 kX);exact⟨j+1,s2,⟨j0,j0,hR⟩,td1,wkR⟩
         ·rw[aE h9]at hR
          by_cases f9:x.op=9
          ·have fv:¬j=1:=fun h=>h9 ⟨f9,h⟩;refine gf (gi hi (gi fv f9)) ?_ (ji 13 kX);refine FK (id:=13) (List.range 13) [11] (fun _=>none) (fun _ _ h=>by cases h) ?_;refine gf (gi hi e13) ?_ (ji 13 kX);refine AX (F7 p k (x.ag[j]) (size) inM i cap s' rest _ j0 (w6 ..) j0 ⟨j0,j0⟩ hp) (fun d U' hx=>?_) (fun d U' hx=>by cases hx.1);obtain⟨eX,rfl⟩:=hx;cases eX;rw[w8];refine⟨fun _ _ h=>(by cases h),?_⟩;simp only[putD];have b9:=Cw p inM k x.ag[j] (size) s';rcases hr:BF p inM k (x.ag[j]) (size) s' with⟨b,s2⟩;rw[hr]at hR b9;simp only at b9;cases b with
           |false=>
            simp only at hR;rw[hR];refine gz ?_ (ji 13 kX);exact fe1 trivial
           |true=>
            simp only at hR;refine gz ?_ (ji 13 kX);exact⟨j+1,s2,⟨j0,j0,hR⟩,td1,wkR⟩
          ·refine gf hi ?_ (ji 13 kX);refine FK (id:=13) (List.range 13) [11] (fun _=>none) (fun _ _ h=>by cases h) ?_;refine gf (gi hi e13) ?_ (ji 13 kX);refine AX (F7 p k (x.ag[j]) (size) inM i cap s' rest _ j0 (w6 ..) j0 ⟨j0,j0⟩ hp) (fun d U' hx=>?_) (fun d U' hx=>by cases hx.1);obtain⟨eX,rfl⟩:=hx;cases eX;rw[w8];refine⟨fun _ _ h=>(by cases h),?_⟩;simp only[putD];have b9:=Cw p inM k x.ag[j] (size) s';rcases hr:BF p inM k (x.ag[j]) (size) s' with⟨b,s2⟩;rw[hr]at hR b9;simp only at b9;cases b with
           |false=>
            simp only at hR;rw[hR];refine gz ?_ (ji 13 kX);exact fe1 trivial
           |true=>
            simp only at hR;refine gz ?_ (ji 13 kX);exact⟨j+1,s2,⟨j0,j0,hR⟩,td1,wkR⟩
        ·rw[A9 d5,Bi]at hR;rw[hR];refine gz ?_ kX;exact fe1 trivial
    ·rw[aG (.inl f7)];refine gf (gi hi hx) ?_ kX;exact fe1 trivial
termination_by k
mutual
def j8.size_le: ∀f:j8,f.size<=f.wt
 |.mk o a p c n k=>by
  have:=j8.sizes_le k;rw[j8.size,j8.wt];omega
def j8.sizes_le: ∀l:List j8,j8.sizes l<=j8.wts l
 |[]=>bU _
 |f::l=>by
  have h1:=j8.size_le f;have h2:=j8.sizes_le l;rw[j8.sizes,j8.wts];omega
end
def Ev(w:World)(f:j8):Bool:=decide (f.cnt 24<=24)&&decide (f.depth<=12)&&Jq w f
def Ur(w:World)(f:j8)(O:Sig)(hw:w.ae.length<=1073741824:=by exact sd)(fG:w.jQ.length<=1073741824:=by exact sd)(hf:f.wt<=1073741824:=by exact sd):
  ar prog 145 [.agg (Dg w),.agg (Cu f)] O (rS (.bool (Ev w f)) O):=by
 have hsz:=j8.size_le f;refine en func145 ntmps145 ?_
 repeat' first|refine gz ?_|apply gy<;>intro hh
 any_goals (first|(refine fin1 (U':=O) ?_;exact⟨by first|rfl|(simp[Ev];done)|(simp_all [Ev];done)|(rw[Ae,aR];simp_all [Ev]<;>omega),rfl⟩)|fail)
def FF(p:aw)(m:jy):Bool:=decide (1<=m.kind/\m.kind<=4)&&decide (0<=m.gen/\m.gen<p.ai.length)&&Ev (AG p) m.kW&&decide (m.kW.speaks<=p.ai.getD m.gen.toNat 0)
def CW(p:aw):List jy->eP->Bool×eP
 |[],s=>(true,s)
 | m::r,s=>if FF p m then (match BF p (decide (m.kind=1) || decide (m.kind=4)) 12 m.node (p.ai.getD m.gen.toNat 0) s with
   |(false,s')=>(false,s')
   |(true,s')=>CW p r s') else(false,s)
def L6(p:aw):Bool:=AM p&&decide (p.ai.length<=8)&&decide (p.j9.length<=16)&&decide (1<=p.jJ.length)&&decide (p.jJ.length<=120)
def Fo(p:aw):Option eP:=
 if L6 p&&p.ai.all (fun g=>decide (1<=g/\g<=3)) then
  match CW p p.j9 (List.replicate p.jJ.length (-1))with
  |(false,_)=>none
  |(true,s)=>match BF p false 12 p.jf 0 s with
   |(false,_)=>none
   |(true,s2)=>if s2.all (fun n=>decide (0<=n)) then some s2 else none
 else none
def GC(s:eP):(cI s).flatten=s.map dI:=by
 induction s with
 |nil=>rfl
 |cons x s ih=>rw[show cI (x::s)=[dI x]::cI s from rfl,br,ih];rfl
def SC(O:Sig)(i cap:Nat)(rest:eO)(s:eP):mS O (some (i,cap,rest)) (cI s)=O.set i (.cells (rowI s rest)):=by simp only[mS,rowI,GC]
def mOK_len{O:Sig}{st:MR}{s s':eP}(h:mOK O 1 st (cI s))(hs:s'.length=s.length):mOK O 1 st (cI s'):=by
 cases st with
 |none=>
  have:cI s=[]:=h;have:s=[]:=by simpa[cI] using this
  subst this;have:s'=[]:=bf.1 hs;subst this;rfl
 |some x=>
  obtain⟨i,cap,rest⟩:=x;obtain⟨m1,m2,m3,m4⟩:=h;refine⟨m1,?_,by simpa[hs] using m3,Ck _⟩;rw[GC]at m2⊢;simpa[hs] using m2
def WP (p:aw) (O:Sig) (hp:p.wt<=1073741824:=by exact sd) :
  ar prog 67 [.agg (A7 p)] O (rS (.tup [sl (cI ((Fo p).getD [])),.bool (Fo p).isSome]) O):=by
 obtain⟨p1,p2,p3,p4,p5,p6,p7⟩:=p.wt_le;have ws:=Db p
 have eW:∀c∈p.aa,c.ae.length<=1073741824/\c.ac.length<=1073741824:=fun c hc=>by
  obtain⟨k,hk,rfl⟩:=bT hc;have:=p5 k hk;have fF:(p.aa[k]).wt=1+(p.aa[k]).ae.length+(p.aa[k]).ac.length+(p.aa[k]).ah.length:=rfl;omega
 have fw:=Us p O hp;refine en func67 ntmps67 ?_;cases fk:L6 p with
 | false =>
  have hL:Fo p=none:=by unfold Fo;rw[fk];rfl
  unfold L6 at fk;cases hc:AM p with
  |false=>
   rw[hc]at fw;have i1:=Ans.of fw
   try refine gz ?_ o67
   exact fe2 (d':=sl []) hL
  | true =>
   rw[hc]at fw fk;have i1:=Ans.of fw
   by_cases h1:p.ai.length<=8
   ·by_cases h2:p.j9.length<=16
    ·by_cases h3:1<=p.jJ.length
     ·have h4:¬p.jJ.length<=120:=fun h=>by simp[h1,h2,h3,h]at fk
      try refine gz ?_ o67
      exact fe2 (d':=sl []) hL
     ·try refine gz ?_ o67
      exact fe2 (d':=sl []) hL
    ·try refine gz ?_ o67
     exact fe2 (d':=sl []) hL
   ·try refine gz ?_ o67
    exact fe2 (d':=sl []) hL
 | true =>
  have fJ:=fk;unfold L6 at fJ;simp only[aF,aH]at fJ;obtain⟨⟨⟨⟨hc,h1⟩,h2⟩,h3⟩,h4⟩:=fJ;rw[hc]at fw;have i1:=Ans.of fw
  try refine gz ?_ o67
  refine Bz ([1,5,6,7,8,9,10]++List.range' 59 97) (fun (j:Nat)=>j<=p.ai.length/\p.ai.all (fun g=>decide (1<=g/\g<=3))=(p.ai.drop j).all (fun g=>decide (1<=g/\g<=3))) (fun j=>[(4,dI j)]) (fun _=>O) (fun j=>p.ai.length-j) (0) j1 (fun j hI=>?_);obtain⟨hj,hJ⟩:=hI
  by_cases d5:j<p.ai.length
  ·rw[A6 d5,cM]at hJ
   by_cases gU:p.ai[j]<1
   ·have hL:Fo p=none:=by unfold Fo;rw[fk,hJ,bk j0];rfl
    try refine gz ?_ o67
    exact fe2 (d':=sl []) hL
   ·by_cases gT:3<p.ai[j]
    ·have hL:Fo p=none:=by unfold Fo;rw[fk,hJ,bk j0];rfl
     try refine gz ?_ o67
     exact fe2 (d':=sl []) hL
    ·rw[be j0,bq]at hJ
     try refine gz ?_ o67
     exact⟨j+1,⟨j0,hJ⟩,td1,wkR⟩
  ·rw [A9 d5,eJ] at hJ
   have hL:Fo p=match CW p p.j9 (List.replicate p.jJ.length (-1))with
    |(false,_)=>none
    |(true,s)=>match BF p false 12 p.jf 0 s with
     |(false,_)=>none
     |(true,s2)=>if s2.all (fun n=>decide (0<=n)) then some s2 else none:=by unfold Fo;rw[fk,hJ];rfl
   try refine gz ?_ o67
   refine BO ([1,2,3,7,8,9,10]++List.range' 69 87) (fun (n:Nat) (st:MR)=>n<=p.jJ.length/\mOK O 1 st (cI (List.replicate n (-1)))) (fun n st=>[(6,dI n),(5,mD st n)]) (fun n st=>mS O st (cI (List.replicate n (-1)))) (fun n _=>p.jJ.length-n) (0) (none) (by exact⟨j0,rfl⟩) (fun n st hI=>?_);obtain⟨hn,hm⟩:=hI
   by_cases gO:n<p.jJ.length
   ·have hlen:(cI (List.replicate n (-1))).length=n:=by simp
    have e:cI (List.replicate n (-1))++[[D.int .i64 (-1)]]=cI (List.replicate (n+1) (-1)):=by rw[List.replicate_succ'];simp[cI]
    try refine gz ?_ o67
    refine mapp (new:=[[D.int .i64 (-1)]]) (sz:=1) (h1:=by exact(bn (mD st) hlen.symm)) (fun st' eZ=>?_) hm;rw[e]at eZ⊢;rw[hlen]
    try refine gz ?_ o67
    exact⟨n+1,st',⟨j0,eZ⟩,td1,wkR⟩
   ·have hne:n=p.jJ.length:=by omega
    subst hne;obtain⟨s0,fQ⟩:∃s0,s0=List.replicate p.jJ.length (-1:Int):=⟨_,rfl⟩;have fP:s0.length=p.jJ.length:=by rw[fQ];simp
    rw[<-fQ]at hm hL⊢
    obtain⟨i,cap,rest,gg⟩:∃i cap rest,st=some (i,cap,rest):=by
     cases st with
     |none=>
      exfalso
      have h:cI s0=[]:=hm;have h':s0.length=0:=by rw[<-K7 s0,h];rfl
      omega
     |some x=>exact⟨_,_,_,rfl⟩
    subst gg;have hi:O i=none:=hm.1;rw[SC,show mD (some (i,cap,rest)) p.jJ.length=.am i 0 p.jJ.length cap from rfl];have fj:(AG p).ae=p.aa.map (·.ae):=rfl;have gc:(AG p).ae.length=p.aa.length:=by rw[fj,aN]
    have fb:(AG p).jQ.length=wtL (fun c:ax=>c.ac.length) p.aa:=Cm _ _
    repeat' first|refine gz ?_|refine Bh (IS p _ j0 (fun c hc=>(eW c hc).1) (fun c hc=>(eW c hc).2) (by rw[Cm];omega)) ?_|refine callP (IS p _ j0 (fun c hc=>(eW c hc).1) (fun c hc=>(eW c hc).2) (by rw[Cm];omega)) ?_|refine gz ?_ o67|apply gy<;>intro hh
    refine BO ([1,5,7,10]++List.range' 138 18) (fun (j:Nat) (s:eP)=>j<=p.j9.length/\s.length=p.jJ.length/\CW p p.j9 s0=CW p (p.j9.drop j) s) (fun j _=>[(8,dI j)]) (fun _ s=>O.set i (.cells (rowI s rest))) (fun j _=>p.j9.length-j) (0) (s0) (by exact⟨j0,fP,rfl⟩) (fun j s hI=>?_);obtain⟨hj,fy,hM⟩:=hI
    by_cases d5:j<p.j9.length
    ·rw [A6 d5,CW] at hM;have gb:=p6 j d5;generalize eZ:p.j9[j]=m at hM gb;have fF:m.wt=1+m.kW.wt:=rfl;have hsz:=j8.size_le m.kW;have fv:=Ur (AG p) m.kW (O.set i (.cells (rowI s rest))) j0 j0 j0
     have gA:∀g:Nat,m.gen=g->(hg:g<p.ai.length)->p.ai.getD m.gen.toNat 0=p.ai[g]:=fun g e hg=>by
      rw[e,show((g:Int)).toNat=g by omega,aQ,aD hg];rfl
     have bad:FF p m=false->Fo p=none:=fun h=>by rw[hL,hM,h];rfl
     by_cases k1:1<=m.kind
     ·by_cases k2:m.kind<=4
      ·by_cases g1:0<=m.gen
       ·by_cases g2:m.gen<p.ai.length
        ·obtain⟨g,fB⟩:∃g:Nat,m.gen=g:=⟨m.gen.toNat,j0⟩;have fA:g<p.ai.length:=by omega
         have fK:=gA g fB fA;cases fE:Ev (AG p) m.kW with
         |false=>
          rw[fE]at fv;have i1:=Ans.of fv;have hb:=bad (by unfold FF;rw[fE];simp)
          try refine gf (gi eZ fB) ?_ o67
          exact fe2 (d':=sl []) hb
         | true =>
          rw[fE]at fv;have i1:=Ans.of fv
          by_cases fO:m.kW.speaks<=p.ai[g]
          ·have fD:FF p m=true:=by unfold FF;rw[fE,fK,be j0,be j0,be fO];rfl
           rw[fD,aG rfl,fK]at hM;have gB:=aW.1 hJ _ (aK fA);simp only[aH]at gB
           try refine gf (gi eZ fB) ?_ (ji 20 o67)
           refine FK (id:=20) (List.range 11++[12,11,13,14]) [11,13] (fun _=>none) (fun _ _ h=>by cases h) ?_;have fN:Sub (fun _=>none) (O.set i (.cells (rowI s rest))):=fun _ _ h=>by cases h
           try refine gf fB ?_ (ji 20 o67)
           refine AX (F7 p 12 m.node (p.ai[g]) (decide (m.kind=1)||decide (m.kind=4)) i cap s rest _ j0 (w6 ..) fy ⟨j0,j0⟩ hp) (fun d U' hx=>?_) (fun d U' hx=>by cases hx.1);obtain⟨eX,rfl⟩:=hx;cases eX;rw[w8];refine⟨fun _ _ h=>(by cases h),?_⟩;simp only[putD];have b9:=Cw p (decide (m.kind=1)||decide (m.kind=4)) 12 m.node (p.ai[g]) s;rcases hr:BF p (decide (m.kind=1)||decide (m.kind=4)) 12 m.node (p.ai[g]) s with⟨b,s2⟩;rw[hr]at hM b9;simp only at b9;cases b with
           |false=>
            simp only at hM;have hb:Fo p=none:=by rw[hL,hM]
            try refine gz ?_ (ji 20 o67)
            exact fe2 (d':=sl []) hb
           |true=>
            simp only at hM
            try refine gz ?_ (ji 20 o67)
            exact⟨j+1,s2,⟨j0,j0,hM⟩,td1,wkR⟩
          ·have hb:=bad (by unfold FF;rw[fK,bk fO];simp)
           try refine gf (gi eZ fB) ?_ o67
           exact fe2 (d':=sl []) hb
        ·have hb:=bad (by unfold FF;rw[bk (p:=0<=m.gen/\m.gen<p.ai.length) j0];simp)
         try refine gf eZ ?_ o67
         exact fe2 (d':=sl []) hb
       ·have hb:=bad (by unfold FF;rw[bk (p:=0<=m.gen/\m.gen<p.ai.length) j0];simp)
        try refine gf eZ ?_ o67
        exact fe2 (d':=sl []) hb
      ·have hb:=bad (by unfold FF;rw[bk (p:=1<=m.kind/\m.kind<=4) j0];simp)
       try refine gf eZ ?_ o67
       exact fe2 (d':=sl []) hb
     ·have hb:=bad (by unfold FF;rw[bk (p:=1<=m.kind/\m.kind<=4) j0];simp)
      try refine gf eZ ?_ o67
      exact fe2 (d':=sl []) hb
    ·rw [A9 d5,CW] at hM;rw[hM]at hL;simp only at hL
     try refine gz ?_ o67
     refine A3 (F7 p 12 p.jf 0 false i cap s rest _ j0 (w6 ..) fy ⟨j0,j0⟩ hp) (fun d U' hx=>?_);obtain⟨eX,rfl⟩:=hx;cases eX;rw[w8];simp only[putD];have b9:=Cw p false 12 p.jf 0 s;rcases hr:BF p false 12 p.jf 0 s with⟨b,s2⟩;rw[hr]at hL b9;simp only at b9;cases b with
     |false=>
      simp only at hL
      try refine gz ?_ o67
      exact fe2 (d':=sl []) hL
     | true =>
      simp only at hL;have hm2:mOK O 1 (some (i,cap,rest)) (cI s2):=mOK_len hm j0;have gh:s2.length=p.jJ.length:=by omega
      try refine gz ?_ o67
      rw[<-SC O i cap];refine FH (Ku (t:=5) hm2 (by rw[K7,gh];rfl)) ?_;refine Bz [5,155] (fun (j:Nat)=>j<=s2.length/\s2.all (fun n=>decide (0<=n))=(s2.drop j).all (fun n=>decide (0<=n))) (fun j=>[(10,dI j)]) (fun _=>O) (fun j=>s2.length-j) (0) j1 (fun j hI=>?_);obtain⟨hj,hA⟩:=hI
      by_cases d5:j<s2.length
      ·rw[A6 d5,cM]at hA
       by_cases h0:0<=s2[j]
       ·rw[be h0,bq]at hA
        try refine gz ?_ o67
        exact⟨j+1,⟨j0,hA⟩,td1,wkR⟩
       ·rw[bk h0,bD]at hA;rw[hA]at hL
        try refine gz ?_ o67
        exact fe2 (d':=sl []) hL
      ·rw[A9 d5,eJ]at hA;rw[hA]at hL
       try refine gz ?_ o67
       exact fe2 (d':=sl (cI s2)) hL
@[reducible,instance] def a67:=fun p O=>ah1 (@WP p O)
end Go.DL
namespace Go.DL
open Go.Proofs.Tryz
open Go Go.Proofs
set_option maxHeartbeats 4000000
def kD{α:Type}(q:α->Bool):List α->Nat->Int
 |[],_=> -1
 |x::r,k=>if q x then k else kD q r (k+1)
def E8{α:Type}(q:α->Bool): ∀(l:List α) (k:Nat),decide (0<=kD q l k)=l.any q
 |[],_=>rfl
 |x::r,k=>by
  rw[kD,List.any_cons];cases hq:q x
  ·simp only[bm,bc,cO];exact E8 q r (k+1)
  ·simp
def Nh(l:eP)(q:Int->Bool)(g:Nat)(cap:eO)(o:Own)(O:Sig)(hl:l.length<=1073741824)
  (hg:∀x∈l,ar prog g ([]++[dI x]++cap) O fun r S''=>r=.ret (.bool (q x))/\S''=O) :
  ar prog 230 [.slice (cI l) o,.func (.func g) [] cap] O (rS (dI (kD q l 0)) O):=by
 refine en func230 ntmps230 ?_;refine gz ?_;refine Bz [0,1,7] (fun (k:Nat)=>k<=l.length/\kD q l 0=kD q (l.drop k) k) (fun k=>[(8,dI k)]) (fun _=>O) (fun k=>l.length-k) (0) td3 (fun k hI=>?_);obtain⟨hk,hR⟩:=hI
 by_cases h:k<l.length
 ·rw[A6 h,kD]at hR
  repeat' first|refine Bh (hg (l[k]) (aK h)) ?_|refine callP (hg (l[k]) (aK h)) ?_|refine gf h ?_|apply gy<;>intro hh
  ·exact fe1 hR
  ·exact⟨k+1,⟨j0,by rw[hR,hh];rfl⟩,td1,wkR⟩
 ·refine gf h ?_
  (refine fin1 (U':=O) ?_;exact⟨by first|rfl|(simp[hR,A9 h,kD];done)|(simp_all [hR,A9 h,kD];done)|(rw[Ae,aR];simp_all [hR,A9 h,kD]<;>omega),rfl⟩)
def Nv(l:eP)(q:Int->Bool)(g:Nat)(cap:eO)(o:Own)(O:Sig)(hl:l.length<=1073741824)
  (hg:∀x∈l,ar prog g ([]++[dI x]++cap) O fun r S''=>r=.ret (.bool (q x))/\S''=O) :
  ar prog 151 [.slice (cI l) o,.func (.func g) [] cap] O (rS (.bool (l.any q)) O):=by
 refine en func151 ntmps151 ?_
 repeat' first|refine gz ?_|refine Bh (Nh l q g cap o O hl hg) ?_|refine callP (Nh l q g cap o O hl hg) ?_|refine gz ?_|apply gy<;>intro hh
 (refine fin1 (U':=O) ?_;exact⟨by first|rfl|(simp[E8];done)|(simp_all [E8];done)|(rw[Ae,aR];simp_all [E8]<;>omega),rfl⟩)
end Go.DL
