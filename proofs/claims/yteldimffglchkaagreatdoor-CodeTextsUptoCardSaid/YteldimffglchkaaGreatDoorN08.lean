/- A part of the proof. -/
import Derived.Test.YteldimffglchkaaGreatDoorN06
import Derived.Test.YteldimffglchkaaGreatDoorN07
set_option linter.all false
namespace Go.DL
open Go
inductive RW where
 |nil
 |full (es:List (List D))
 |row (i cap:Nat) (rest:List D)
def RW.d:RW->Nat->D
 |.nil,_=>.nils
 |.full es,_=>.slice es .clip
 |.row i cap _,n=>.sref i 0 n cap
def RW.is:RW->Nat->Prop
 |.row i _ _,j=>j=i
 |_,_=>False
def RWAt(O:Sig)(sz:Nat):RW->List (List D)->Prop
 |.row i cap rest,es=>O i=some (.cells (es.flatten++rest))/\cap*sz<=(es.flatten++rest).length/\es.length<=cap /\ ∀e∈es,e.length=sz
 |.full es0,es=>es=es0 /\ ∀e∈es,e.length=sz
 |.nil,es=>es=[]
def Jp(P:Program)(O:Sig)(sz:Nat)(d:D)(new:List (List D)):Prop:= ∀g w v,Sim P g O w->Rep g d v->∃xa xc,v=.slice xa new.length xc/\new.length<=xc /\ ∃us,RepL g new.flatten us/\us.length=new.length*sz/\(new.length=0 \/ ∃b o,xa=some ⟨b,o,none⟩ /\ ∀j v,us[j]? = some v->w.cell? ⟨b,o+j,none⟩=some v)
theorem RWAt.len{O:Sig}{sz:Nat}{r:RW}{es:List (List D)}(h:RWAt O sz r es): ∀e∈es,e.length=sz:=by
 cases r with
 |row i cap rest=>exact h.2.2.2
 |nil=>obtain rfl:es=[]:=h;simp
 |full es0=>exact h.2
theorem RWAt.keep{O U':Sig}{sz:Nat}{r:RW}{es:List (List D)}(h:RWAt O sz r es)(hk:∀j o,O j=some o->r.is j->U' j=some o):RWAt U' sz r es:=by
 cases r with
 |row i cap rest=>exact⟨hk _ _ h.1 rfl,h.2⟩
 |nil=>exact h
 |full es0=>exact h
theorem RWAt.cells{O:Sig}{sz:Nat}{r:RW}{es:List (List D)}(h:RWAt O sz r es){j:Nat}(hj:r.is j): ∃cs,O j=some (.cells cs):=by
 cases r with
 |row i cap rest=>cases hj;exact⟨_,h.1⟩
 |nil=>exact hj.elim
 |full es0=>exact hj.elim
section
variable {P:Program}{O:Sig}{sz:Nat}
theorem Hi{d:D}{new:List (List D)}(h:esOf d=some new)(hl:∀c∈new,c.length=sz):Jp P O sz d new:=fun g w v hs hr=>by
 obtain⟨xa,xc,q1,q2,q3⟩:=BY h hr
 exact⟨xa,xc,q1,q2,BP hs hl q3⟩
theorem Kv{i off cap:Nat}{pre rest:List D}{es:List (List D)}(hi:O i=some (.cells (pre++(es.flatten++rest))))(hp:pre.length=off)(hl:∀c∈es,c.length=sz)(hc:es.length<=cap):Jp P O sz (.sref i off es.length cap) es:=fun g w v hs hr=>by
 obtain⟨b,hb,rfl⟩:=hr
 obtain⟨b',vs,ty,aw,ag,hr⟩:=hs.obj i _ hi
 obtain rfl:b'=b:=by rw[hb]at aw;cases aw;rfl
 obtain⟨u0,v0,e1,e2,e3⟩:=hr.split
 obtain⟨u,v',f1,f2,f3⟩:=e3.split
 refine⟨_,cap,rfl,hc,u,f2,by rw[RepL.length f2,Aw hl],.inr ⟨b',off,rfl,fun j x hx=>?_⟩⟩
 have hj:j<u.length:=(List.getElem?_eq_some_iff.1 hx).1
 simp only[World.cell?, ag]
 have:vs.toList[off+j]? = some x:=by
  rw[e1,List.getElem?_append_right (by rw[RepL.length e2,hp];omega),RepL.length e2,hp,Nat.add_sub_cancel_left,f1,List.getElem?_append_left hj];exact hx
 simpa using this
theorem RWAt.src{r:RW}{es:List (List D)}(h:RWAt O sz r es):Jp P O sz (r.d es.length) es:=by
 cases r with
 |row i cap rest=>exact Kv (pre:=[]) h.1 rfl h.2.2.2 h.2.2.1
 |nil=>obtain rfl:es=[]:=h;exact Hi rfl (by simp)
 |full es0=>obtain⟨rfl,h⟩:=h;exact Hi rfl h
end
section
variable {P:Program}{ro:Ro}{n:Nat}{ops:Array Oper}{Q:DX->St->Prop}{rest:List Oper}{tab:Nat->Ty}{γ:List (Nat×D)}{O:Sig}{df:List DDf}
variable (ht:AZ P tab)
include ht
theorem E1{t T T' ty e e' sz:Nat}{s x:Operand}{pos:String}{after:Array Edge}{es new:List (List D)}{r:RW}
  (aJ:t<n) (hk:(tab T).k=.slice e) (aX:(tab T').k=.slice e') (he:A1 (tab e).k=false) (hsz:(tab e).size=sz) (h1:ev γ s=r.d es.length) (hm:RWAt O sz r es) (h2:Jp P O sz (ev γ x) new)
  (hlen':∀c∈new,c.length=sz) (cb:∀c∈new,BB c=true)
  (hb:(es.length+new.length)*(tab e).bytes<=140737488355328) (hm2:es.length+new.length<=9223372036854775807)
  (h:∀r' U',RWAt U' sz r' (es++new)->(∀j o,O j=some o->¬r.is j->U' j=some o /\ ¬r'.is j)->(new=[]/\r'=r \/ ∃i c rest,r'=.row i c rest)->DOps P ro n ops Q rest ⟨(t,r'.d (es.length+new.length))::γ,U',df⟩) :
  DOps P ro n ops Q (⟨some t,(cA s x T T'),ty,pos,after,none⟩::rest) ⟨γ,O,df⟩:=by
 subst hsz
 refine Bx (fun d U'=> ∃r',RWAt U' (tab e).size r' (es++new)/\(∀j o,O j=some o->¬r.is j->U' j=some o /\ ¬r'.is j)/\(new=[]/\r'=r \/ ∃i c rest,r'=.row i c rest)/\d=r'.d (es.length+new.length)) rfl (fun c e=>by cases e) (B4 rfl rfl) (by simp[Ar,aJ]) ?_
  (fun d U' ⟨r',a1,a2,a4,a3⟩=>by subst a3;exact h r' U' a1 a2 a4)
 intro g w a hs hT
 have aG:=Ah hT s
 have bl:=Ah hT x
 rw[h1]at aG
 obtain⟨base,cap,r1,r2,us,r3,r4,r5⟩:=hm.src g w _ hs aG
 obtain⟨xa,xc,q1,q2,news,v1,v2,v3⟩:=h2 g w _ hs bl
 obtain⟨inf,z,t1,t2,t3,t4,t5,t6,t7⟩:=Bd ht hk aX he
 have be:=hm.len
 have aL:∀c∈es++new,c.length=(tab e).size:=fun c hc=>(List.mem_append.1 hc).elim (be c) (hlen' c)
 by_cases aC:new=[]
 ·subst aC
  have bW:news=[]:=List.length_eq_zero_iff.1 (by rw[v2];simp)
  refine⟨g,w,a.eval s,_,O,Ap ?_,.refl g,hs,aG,r,by rw[List.append_nil];exact hm,fun j o hj hn=>⟨hj,hn⟩,.inl ⟨rfl,rfl⟩,by simp⟩
  rw[r1,q1]
  have:=Bb (ty:=ty) t1 t2 t3 (w:=w) (w2:=w) (base:=base) (xa:=xa) (n:=es.length) (cap:=cap) (m:=0) (xc:=xc) (news:=[]) (Al (by simp) (.inl rfl)) (by omega) (fun b _=>by simp[storeCells,Sem.run]) (fun _=>rfl)
  simpa using this
 have bV:0<new.length:=List.length_pos_iff.2 aC
 by_cases ak:es.length+new.length<=cap
 ·
  cases r with
  |nil=>
   obtain rfl:es=[]:=hm
   have e1:a.eval s=.slice none 0 0:=aG
   rw[e1]at r1;injection r1 with f1 f2 f3
   simp only[List.length_nil]at ak;omega
  |full es0=>
   obtain⟨rfl,hl⟩:=hm
   obtain⟨a',c',e1,e2,_,e3⟩:=aG
   rw[e1]at r1;injection r1 with f1 f2 f3
   simp only at e3;omega
  | row i cap' rest' =>
   obtain⟨m1,m2,m3,m4⟩:=hm
   obtain⟨b,aw,hv⟩:=aG
   rw[hv]at r1;injection r1 with f1 f2 f3
   subst f3
   subst f1
   obtain⟨b2,vs,ty',aR,ag,hr⟩:=hs.obj i _ m1
   obtain rfl:b2=b:=by rw[aw]at aR;cases aR;rfl
   have bm:=RepL.length hr
   simp only[Array.length_toList]at bm
   have cm:=Aw m4
   have ck:=Aw hlen'
   have bW:=RepL.length v1
   simp only[List.length_append]at m2 bm
   have bu:(es.length+new.length)*(tab e).size<=cap'*(tab e).size:=Nat.mul_le_mul_right _ ak
   rw[Nat.add_mul]at bu
   have br:=Bv (P:=P) news 0 w vs ag (CK v1 (EY cb)) (o:=es.length*(tab e).size) (by omega)
   have am:=Bb (ty:=ty) t1 t2 t3 (w:=w) (base:=some ⟨b2,0,none⟩) (xa:=xa) (n:=es.length) (cap:=cap') (m:=new.length) (xc:=xc) (news:=news) (w2:=if news=[] then w else setB w b2 (.cells (Ba vs (0+es.length*(tab e).size) news) ty' (0,0)))
    (Al (by rw[t5];exact v2) v3) ak (fun a ha=>by cases ha;rw[Bu,t5];simpa using br) (fun h=>by cases h)
   have aC:RepL g (es.flatten++(new.flatten++rest'.drop (new.length*(tab e).size))) (Ba vs (0+es.length*(tab e).size) news).toList:=by
    refine AE (by simp only[List.length_append,List.length_drop,Array.length_toList,Ce];omega) fun j d v h1 h2=>?_
    have aF:(Ba vs (0+es.length*(tab e).size) news)[j]? = some v:=by simpa using h2
    rw[CD _ _ _ _ (by omega)]at aF
    simp only[List.getElem?_append]at h1
    have hg:=RepL.get hr j
    by_cases c1:j<es.flatten.length
    ·rw[if_neg (by omega)]at aF
     rw[if_pos c1]at h1
     rw[List.getElem?_append_left c1,h1]at hg
     simp only[Array.getElem?_toList,aF,Option.getD_some]at hg
     exact hg
    ·rw[if_neg c1]at h1
     by_cases c2:j-es.flatten.length<new.flatten.length
     ·rw[if_pos (by omega)]at aF
      rw[if_pos c2]at h1
      have:=RepL.get v1 (j-es.flatten.length)
      rw[h1,show j-es.flatten.length=j-(0+es.length*(tab e).size) by omega,aF]at this
      exact this
     ·rw[if_neg (by omega)]at aF
      rw[if_neg c2,List.getElem?_drop]at h1
      rw[List.getElem?_append_right (by omega),show j-es.flatten.length=new.length*(tab e).size+(j-es.flatten.length-new.flatten.length) by omega,h1]at hg
      simp only[Array.getElem?_toList,aF,Option.getD_some]at hg
      exact hg
   have bG:es.flatten++(new.flatten++rest'.drop (new.length*(tab e).size))=(es++new).flatten++rest'.drop (new.length*(tab e).size):=by simp
   refine⟨g,_,.slice (some ⟨b2,0,none⟩) (es.length+new.length) cap',.sref i 0 (es.length+new.length) cap',O.set i (.cells ((es++new).flatten++rest'.drop (new.length*(tab e).size))),Ap (by rw[hv,q1];exact am),.refl g,?_,Fc aw,.row i cap' (rest'.drop (new.length*(tab e).size)),⟨w6 ..,?_,by simpa using ak,aL⟩,fun j o hj hn=>⟨by rw[w7 _ _ hn];exact hj,hn⟩,.inr ⟨_,_,_,rfl⟩,rfl⟩
   ·have aO:=hs.setObj (i:=i) (b:=b2) (ds':=es.flatten++(new.flatten++rest'.drop (new.length*(tab e).size))) (vs':=Ba vs (0+es.length*(tab e).size) news) (ty:=ty') m1 aw aC ⟨vs,ag⟩
    rw[bG]at aO
    by_cases hne:news=[]
    ·rw[if_pos hne]
     subst hne
     have bR:setB w b2 (.cells (Ba vs (0+es.length*(tab e).size) []) ty' (0,0))=w:=by
      obtain⟨au,ca⟩:=Array.getElem?_eq_some_iff.1 ag
      have e:w.heap.setIfInBounds b2 (.cells vs ty' (0,0))=w.heap:=by
       apply Array.ext (by simp);intro k h1 h2;by_cases hk:b2=k
       ·subst hk;simp[ca]
       ·rw[Array.getElem_setIfInBounds_ne _ hk]
      show { w with heap:=w.heap.setIfInBounds b2 (.cells vs ty' (0,0)) }=w
      rw[e]
     rw[bR]at aO;exact aO
    ·rw[if_neg hne];exact aO
   ·simp only[List.flatten_append,List.length_append,List.length_drop];omega
 ·
  obtain⟨c,hc,am⟩:=Dj (ty:=ty) t1 t2 t3 t4 (w:=w) (base:=base) (xa:=xa) (n:=es.length) (cap:=cap) (m:=new.length) (xc:=xc) (olds:=us) (news:=news)
   (Al (by rw[t5];exact r4) r5) (Al (by rw[t5];exact v2) v3) (by omega) hm2 (by rw[t6];exact hb)
  obtain⟨i',aM,bk⟩:=hs.fresh
  let zs:=(Builtin.zeroCells z.cells (c-(es.length+new.length))).toList
  have aU:RepL (g.bind i' w.heap.size) ((es++new).flatten++zs.map B8) (us++news++zs):=by
   rw[List.flatten_append]
   exact((RepL.mono (G.bind_le aM) _ r3).append (RepL.mono (G.bind_le aM) _ v1)).append (BQ _ _)
  have aV:ObjRep P (g.bind i' w.drew.heap.size) { w.drew with heap:=w.drew.heap.push (.cells (us++news++zs).toArray e (0,0)) } i' (.cells ((es++new).flatten++zs.map B8)):=
   ⟨w.drew.heap.size,(us++news++zs).toArray,e,by simp[G.bind],by exact Array.getElem?_push_size,by simpa using aU⟩
  have aT:=hs.drew.newObj aM bk rfl aV
  refine⟨_,_,_,.sref i' 0 (es.length+new.length) c,_,Ap (by rw[r1,q1];exact am),G.bind_le aM,aT,Fc (by simp[G.bind]),.row i' c (zs.map B8),⟨w6 ..,?_,by simpa using hc,aL⟩,fun j o hj _=>?_,.inr ⟨_,_,_,rfl⟩,rfl⟩
  ·have hz:zs.length=(c-(es.length+new.length))*(tab e).size:=by simp[zs,size_zeroCells,t7]
   simp only[List.length_append,List.length_map,hz,Aw aL,<-Nat.add_mul]
   refine Nat.le_of_eq ?_
   congr 1;omega
  ·have hne:j≠i':=fun e=>by rw[e,bk]at hj;cases hj
   exact⟨by rw[w7 _ _ hne];exact hj,hne⟩
end
def byteC(b:UInt8):D:=.int .u8 (b.toNat:Int)
theorem Jz{g:G}: ∀l:List UInt8,RepL g (l.map byteC) (l.map fun b=>Value.int .u8 (b.toNat:Int))
 |[]=>rfl
 |x::l=>⟨_,_,rfl,rfl,Jz l⟩
abbrev BR:=Option (Nat×Nat×List D)
def BR.d:BR->Nat->D
 |none,_=>.nils
 |some (i,cap,_),n=>.sref i 0 n cap
def BR.is:BR->Nat->Prop
 |none,_=>False
 |some (i,_,_),j=>j=i
def BRAt(e:Nat)(O:Sig):BR->List UInt8->Prop
 |none,bs=>bs=[]
 |some (i,cap,rest),bs=>O i=some (.tcells e (bs.map byteC++rest))/\bs.length+rest.length=cap
section
variable {P:Program}{ro:Ro}{n:Nat}{ops:Array Oper}{Q:DX->St->Prop}{rest:List Oper}{tab:Nat->Ty}{γ:List (Nat×D)}{O:Sig}{df:List DDf}
variable (ht:AZ P tab)
include ht
theorem Tk{t T T' ty e:Nat}{s x:Operand}{pos:String}{after:Array Edge}{bs str:List UInt8}{r:BR}
  (aJ:t<n) (hk:(tab T).k=.slice e) (aX:(tab T').k=.str) (he:A1 (tab e).k=false) (hsz:(tab e).size=1) (ce:(tab e).bytes=1) (h1:ev γ s=r.d bs.length) (hm:BRAt e O r bs) (h2:ev γ x=.str str)
  (hb:bs.length+str.length<=140737488355328)
  (h:∀r' U',BRAt e U' r' (bs++str)->(∀j o,O j=some o->¬r.is j->U' j=some o /\ ¬r'.is j)->DOps P ro n ops Q rest ⟨(t,r'.d (bs++str).length)::γ,U',df⟩) :
  DOps P ro n ops Q (⟨some t,(cA s x T T'),ty,pos,after,none⟩::rest) ⟨γ,O,df⟩:=by
 refine Bx (fun d U'=> ∃r',BRAt e U' r' (bs++str)/\(∀j o,O j=some o->¬r.is j->U' j=some o /\ ¬r'.is j)/\d=r'.d (bs++str).length) rfl (fun c e=>by cases e) (B4 rfl rfl) (by simp[Ar,aJ]) ?_
  (fun d U' ⟨r',a1,a2,a3⟩=>by subst a3;exact h r' U' a1 a2)
 intro g w a hs hT
 have aG:=Ah hT s
 have bl:=Ah hT x
 rw[h1]at aG
 rw[h2]at bl
 have q1:a.eval x=.string ⟨str.toArray⟩:=bl
 have aP:=PM str
 obtain⟨inf,z,t1,_,t3,t4,t5,t6,t7⟩:=Bd ht hk hk he
 have t2:=FF ht aX
 have bO:=HS str
 have v1:=Jz (g:=g) str
 have bK:(str.map fun b=>Value.int .u8 (b.toNat:Int)).length=str.length:=by simp
 have bj:∀u∈(str.map fun b=>Value.int .u8 (b.toNat:Int)),u.oneCell'=true:=fun u hu=>by obtain⟨b,_,rfl⟩:=List.mem_map.1 hu;rfl
 generalize ci:(str.map fun b=>Value.int .u8 (b.toNat:Int))=us at*
 obtain⟨base,cap,olds,r1,r2,r3,r4,r5⟩:∃base cap olds,a.eval s=.slice base bs.length cap/\bs.length<=cap/\RepL g (bs.map byteC) olds/\olds.length=bs.length/\(bs.length=0 \/ ∃b o,base=some ⟨b,o,none⟩ /\ ∀j v,olds[j]? = some v->w.cell? ⟨b,o+j,none⟩=some v):=by
  cases r with
  |none=>
   obtain rfl:bs=[]:=hm
   exact⟨none,0,[],aG,Nat.le_refl _,rfl,rfl,.inl rfl⟩
  |some y=>
   obtain⟨i,cap,rest'⟩:=y
   obtain⟨m1,m2⟩:=hm
   obtain⟨b,aw,hv⟩:=aG
   obtain⟨b2,vs,aR,ag,hr⟩:=hs.obj i _ m1
   obtain rfl:b2=b:=by rw[aw]at aR;cases aR;rfl
   obtain⟨u,v',e1,e2,e3⟩:=hr.split
   refine⟨_,cap,u,hv,by omega,e2,by rw[RepL.length e2];simp,.inr ⟨b2,0,rfl,fun j x hx=>?_⟩⟩
   have hj:j<u.length:=(List.getElem?_eq_some_iff.1 hx).1
   simp only[World.cell?, ag,Nat.zero_add]
   have:vs.toList[j]? = some x:=by rw[e1,List.getElem?_append_left hj];exact hx
   simpa using this
 by_cases aC:str=[]
 ·subst aC
  refine⟨g,w,a.eval s,_,O,Ap ?_,.refl g,hs,aG,r,by rw[List.append_nil];exact hm,fun j o hj hn=>⟨hj,hn⟩,by rw[List.append_nil]⟩
  rw[r1,q1]
  have:=ED (ty:=ty) t1 t2 t3 (w:=w) (w2:=w) (base:=base) (n:=bs.length) (cap:=cap) (s:=⟨[].toArray⟩) (by rw[aP];simpa using r2) (fun b _=>by rw[HS];simp[storeCells,Sem.run]) (fun _=>rfl)
  rw[aP]at this
  simpa using this
 have bU:0<str.length:=List.length_pos_iff.2 aC
 by_cases ak:bs.length+str.length<=cap
 ·cases r with
  |none=>
   have e1:a.eval s=.slice none 0 0:=aG
   rw[e1]at r1;injection r1 with f1 f2 f3
   omega
  | some y =>
   obtain⟨i,cap',rest'⟩:=y
   obtain⟨m1,m2⟩:=hm
   obtain⟨b,aw,hv⟩:=aG
   rw[hv]at r1;injection r1 with f1 f2 f3
   subst f3
   subst f1
   obtain⟨b2,vs,aR,ag,hr⟩:=hs.obj i _ m1
   obtain rfl:b2=b:=by rw[aw]at aR;cases aR;rfl
   have bm:=RepL.length hr
   simp only[Array.length_toList,List.length_append,List.length_map]at bm
   have br:=Bv (P:=P) us 0 w vs ag bj (o:=bs.length) (by omega)
   have hne:us≠[]:=fun e=>by rw[e]at bK;simp at bK;omega
   have am:=ED (ty:=ty) t1 t2 t3 (w:=w) (base:=some ⟨b2,0,none⟩) (n:=bs.length) (cap:=cap') (s:=⟨str.toArray⟩) (w2:=if us=[] then w else setB w b2 (.cells (Ba vs bs.length us) e (0,0)))
    (by rw[aP];exact ak) (fun a ha=>by cases ha;rw[Bu,t5,hsz,bO];simpa using br) (fun h=>by cases h)
   rw[aP,if_neg hne]at am
   have bd:RepL g ((bs++str).map byteC++rest'.drop str.length) (Ba vs bs.length us).toList:=by
    refine AE (by simp only[List.length_append,List.length_drop,List.length_map,Array.length_toList,Ce];omega) fun j d v h1 h2=>?_
    have aF:(Ba vs bs.length us)[j]? = some v:=by simpa using h2
    rw[CD _ _ _ _ (by omega)]at aF
    rw[List.map_append,List.append_assoc]at h1
    simp only[List.getElem?_append,List.length_map]at h1
    have hg:=RepL.get hr j
    by_cases c1:j<bs.length
    ·rw[if_neg (by omega)]at aF
     rw[if_pos c1]at h1
     rw[List.getElem?_append_left (by simpa using c1),h1]at hg
     simp only[Array.getElem?_toList,aF,Option.getD_some]at hg
     exact hg
    ·rw[if_neg c1]at h1
     by_cases c2:j-bs.length<str.length
     ·rw[if_pos (by omega)]at aF
      rw[if_pos c2]at h1
      have:=RepL.get v1 (j-bs.length)
      rw[h1,aF]at this
      exact this
     ·rw[if_neg (by omega)]at aF
      rw[if_neg c2,List.getElem?_drop]at h1
      rw[List.getElem?_append_right (by simp;omega),List.length_map,show j-bs.length=str.length+(j-bs.length-str.length) by omega,h1]at hg
      simp only[Array.getElem?_toList,aF,Option.getD_some]at hg
      exact hg
   refine⟨g,_,.slice (some ⟨b2,0,none⟩) (bs.length+str.length) cap',.sref i 0 (bs.length+str.length) cap',O.set i (.tcells e ((bs++str).map byteC++rest'.drop str.length)),Ap (by rw[hv,q1];exact am),.refl g,?_,Fc aw,some (i,cap',rest'.drop str.length),⟨w6 ..,?_⟩,fun j o hj hn=>⟨by rw[w7 _ _ hn];exact hj,hn⟩,by rw[List.length_append];rfl⟩
   ·exact hs.setAny m1 rfl rfl aw ag ⟨b2,_,aw,Ee ag,bd⟩
   ·simp only[List.length_append,List.length_drop];omega
 ·obtain⟨c,hc,am⟩:=Ht (ty:=ty) t1 t2 t3 t4 (w:=w) (base:=base) (n:=bs.length) (cap:=cap) (s:=⟨str.toArray⟩) (olds:=olds)
   (Al (by rw[t5,hsz,Nat.mul_one];exact r4) r5) (by rw[aP];omega) (by rw[aP];omega) (by rw[t6,ce,aP,Nat.mul_one];exact hb)
  rw[bO,aP]at am
  rw[aP]at hc
  obtain⟨i',aM,bk⟩:=hs.fresh
  let zs:=(Builtin.zeroCells z.cells (c-(bs.length+str.length))).toList
  have aU:RepL (g.bind i' w.heap.size) ((bs++str).map byteC++zs.map B8) (olds++us++zs):=by
   rw[List.map_append]
   exact((RepL.mono (G.bind_le aM) _ r3).append (RepL.mono (G.bind_le aM) _ v1)).append (BQ _ _)
  have aV:ObjRep P (g.bind i' w.drew.heap.size) { w.drew with heap:=w.drew.heap.push (.cells (olds++us++zs).toArray e (0,0)) } i' (.tcells e ((bs++str).map byteC++zs.map B8)):=
   ⟨w.drew.heap.size,(olds++us++zs).toArray,by simp[G.bind],by exact Array.getElem?_push_size,by simpa using aU⟩
  have aT:=hs.drew.newObj aM bk rfl aV
  refine⟨_,_,_,.sref i' 0 (bs.length+str.length) c,_,Ap (by rw[r1,q1];exact am),G.bind_le aM,aT,Fc (by simp[G.bind]),some (i',c,zs.map B8),⟨w6 ..,?_⟩,fun j o hj _=>?_,by rw[List.length_append];rfl⟩
  ·have hz:zs.length=c-(bs.length+str.length):=by simp[zs,size_zeroCells,t7,hsz]
   simp only[List.length_append,List.length_map,hz];omega
  ·have hne:j≠i':=fun e=>by rw[e,bk]at hj;cases hj
   exact⟨by rw[w7 _ _ hne];exact hj,hne⟩
theorem Nw{t T:Nat}{ty:TypeId}{pos:String}{after:Array Edge}(hk:A1 (tab T).k=false)(aJ:t<n)
  (h:∀i,O i=none->DOps P ro n ops Q rest ⟨(t,.ptr i 0)::γ,O.set i (.tcells T (tab T).zero),df⟩) :
  DOps P ro n ops Q (⟨some t,.alloc T,ty,pos,after,none⟩::rest) ⟨γ,O,df⟩:=by
 refine GD (mk:=fun i=>.ptr i 0) (d:=.tcells T (tab T).zero) rfl (fun c e=>by cases e) (Aa fun c e=>by cases e) (by simp[Ar,aJ]) rfl ?_ h
 intro g w a hs hT
 obtain⟨z,hz,bP,cg⟩:=Ct (ht T) (Ae hk) w
 refine⟨.cells z.cells T,.pointer (some ⟨w.heap.size,0,none⟩),?_,fun i hi=>⟨⟨w.heap.size,z.cells,by simp[G.bind],by simp,?_⟩,w.heap.size,by simp[G.bind],rfl⟩⟩
 ·simp only[execOp,Instr.alloc,Sem.run_bind,hz,Result.andThen_ok,newVar,Cl]
  rfl
 ·rw[bP];exact BQ _ _
end
section
variable {P:Program}{tab:Nat->Ty}(ht:AZ P tab){ro:Ro}{n:Nat}{ops:Array Oper}{Q:DX->St->Prop}{df:List DDf}{rest:List Oper}{γ:List (Nat×D)}{O:Sig}
include ht
theorem Qh{g:G}{w:World}{T e i off len cap:Nat}{k k':IntKind}{v u u':Value}{hi m:Nat}(hk:(tab T).k=.slice e)(he:A1 (tab e).k=false)(hv:Rep g (.sref i off len cap) v)(hu:Rep g (.int k hi) u)(bT:Rep g (.int k' m) u')(bL:hi<=m)(hm:m<=cap):
  ∃r,(Instr.sliceAt T v none (some u) (some u')).run P w=.ok r w/\Rep g (.sref i off hi m) r:=by
 obtain⟨b,hb,rfl⟩:=hv
 obtain rfl:=AQ hu
 obtain rfl:=AQ bT
 refine⟨_,?_,Kz (len:=hi) (cap:=m) (off:=off) hb⟩
 have hu:=AJ ht hk
 have c1:(0:Int)<=(hi:Int):=by omega
 have c2:(hi:Int)<=(m:Int):=by omega
 have c3:(0:Int)<=(m:Int):=by omega
 have c4:(m:Int)<=(cap:Int):=by omega
 simp only[Option.map_some,Instr.sliceAt,Instr.slice,Instr.sliceBounds,Instr.sliceBound,asIntOf,Sem.run_bind,Sem.run_pure,Result.andThen_ok,run_underlying hu,c1,c2,c3,c4,and_self,if_true,Az (ht e) (Ae he),Int.toNat_natCast,Nat.sub_zero,Nat.zero_mul]
 congr 1
 split<;>simp[Addr.add]
theorem K5{t T ty e i off len cap:Nat}{k k':IntKind}{x y z:Operand}{hi m:Nat}{pos:String}{after:Array Edge}
  (h:DOps P ro n ops Q rest ⟨(t,.sref i off hi m)::γ,O,df⟩)
  (aJ:t<n) (hk:(tab T).k=.slice e) (he:A1 (tab e).k=false) (h1:ev γ x=.sref i off len cap) (h2:ev γ y=.int k hi) (h3:ev γ z=.int k' m) (bL:hi<=m) (hm:m<=cap) :
  DOps P ro n ops Q (⟨some t,.slice T x none (some y) (some z),ty,pos,after,none⟩::rest) ⟨γ,O,df⟩:=by
 refine Bx (fun d U'=>d=.sref i off hi m/\U'=O) rfl (fun c e=>by cases e) (Aa fun c e=>by cases e) (by simp[Ar,aJ]) ?_
  (fun d U' ⟨a2,a3⟩=>by subst a2 a3;exact h)
 intro g w a hs hT
 have hx:=Ah hT x
 have hy:=Ah hT y
 have hz:=Ah hT z
 rw[h1]at hx
 rw[h2]at hy
 rw[h3]at hz
 obtain⟨r,h4,h5⟩:=Qh (w:=w) ht hk he hx hy hz bL hm
 exact⟨g,w,r,_,O,by simp only[execOp,Option.map_some,Option.map_none,Sem.run_bind,h4,Result.andThen_ok,Sem.run_pure],.refl g,hs,h5,rfl,rfl⟩
omit ht in
theorem Lc{i j c sz:Nat}{es:List (List D)}{r az bs:List D}(hj:O j=some (.cells (es.flatten++r)))(hi:O i=some (.cells (az ++ .sref j 0 es.length c::bs)))(b9:i≠j)(m3:es.length<=c)(m4:∀e∈es,e.length=sz):Wk P n ⟨γ,O,df⟩ ⟨γ,(O.del j).set i (.cells (az ++ .slice es .no::bs)),df⟩:=by
 intro g w a hs
 obtain⟨b,_,_,hb,_,_⟩:=hs.sim.obj j _ hj
 obtain⟨g',aQ,ai,bt⟩:=hs.sim.freeze (i:=j) hj hb
 have aM:(O.del j) i=some (.cells (az ++ .sref j 0 es.length c::bs)):=by simp only[Sig.del,b9,if_false];exact hi
 simp only at ai
 refine⟨g',aQ,⟨ai.retell aM fun vs=>Hw fun v hv=>?_,hs.tmps.mono aQ,hs.df.mono aQ⟩⟩
 obtain⟨b',aw,hv⟩:=hv
 obtain rfl:b'=b:=by have:=aQ.rho _ _ hb;rw[this]at aw;cases aw;rfl
 exact⟨_,c,hv,m3,.inr ⟨sz,b',0,rfl,DS m4 bt⟩,trivial⟩
end
section
variable {P:Program}{n:Nat}{γ:List (Nat×D)}{O:Sig}{df:List DDf}
theorem BE{i sz:Nat}{r:RW}{es:List (List D)}{az bs:List D}(hm:RWAt O sz r es)(hi:O i=some (.cells (az++r.d es.length::bs)))(bX:¬r.is i):
  ∃U',Wk P n ⟨γ,O,df⟩ ⟨γ,U',df⟩/\U' i=some (.cells (az ++ .slice es .no::bs)) /\ ∀j o,O j=some o->j≠i->¬r.is j->U' j=some o:=by
 cases r with
 |nil=>
  obtain rfl:es=[]:=hm
  exact⟨_,DH hi (Am _ (.inl rfl)),w6 .., fun j o hj bf _=>by rw[w7 _ _ bf];exact hj⟩
 |full es0=>
  obtain⟨rfl,_⟩:=hm
  exact⟨_,DH hi (BF _ _),w6 .., fun j o hj bf _=>by rw[w7 _ _ bf];exact hj⟩
 | row k cap rest =>
  obtain⟨m1,m2,m3,m4⟩:=hm
  have b8:i≠k:=bX
  exact⟨_,Lc m1 hi b8 m3 m4,w6 .., fun j o hj bf bA=>by
   rw[w7 _ _ bf]
   have:j≠k:=bA
   simp only[Sig.del,this,if_false];exact hj⟩
theorem HF{t sz:Nat}{r:RW}{es:List (List D)}(hm:RWAt O sz r es)(hg:getD γ t=r.d es.length):
  ∃U',Wk P n ⟨γ,O,df⟩ ⟨(t,.slice es .no)::γ,U',df⟩ /\ ∀j o,O j=some o->¬r.is j->U' j=some o:=by
 cases r with
 |nil=>
  obtain rfl:es=[]:=hm
  exact⟨O,BN (by rw[hg];exact Am _ (.inl rfl)),fun j o h _=>h⟩
 |full es0=>
  obtain⟨rfl,_⟩:=hm
  exact⟨O,BN (by rw[hg];exact BF _ _),fun j o h _=>h⟩
 | row k cap rest =>
  obtain⟨m1,m2,m3,m4⟩:=hm
  refine⟨O.del k,fun g w a hs=>?_,fun j o hj bA=>by
   have:j≠k:=bA
   simp only[Sig.del,this,if_false];exact hj⟩
  have bM:=hs.tmps.2 t
  rw[hg]at bM
  obtain⟨b,hb,hv⟩:=bM
  obtain⟨g',aQ,ai,bt⟩:=hs.sim.freeze (i:=k) m1 hb
  refine⟨g',aQ,⟨ai,⟨hs.tmps.1,fun q=>?_⟩,hs.df.mono aQ⟩⟩
  rw[A4]
  by_cases hq:q=t
  ·rw[if_pos hq,hq]
   exact⟨_,cap,hv,m3,.inr ⟨sz,b,0,rfl,DS m4 bt⟩,trivial⟩
  ·rw[if_neg hq];exact Rep.mono aQ _ (hs.tmps.2 q)
end
section
variable (P:Program)(ro:Ro)(n:Nat)(ops:Array Oper)(N:Nat)(S0:Sig)(Q:DX->St->Prop)(df:List DDf)(tab:Nat->Ty)
def USt(o:Oper)(γ:Fr)(O:Sig)(K:Fr->Sig->Prop):Prop:=
 (∃(dj:Nat->D) (x:DObj),(∀τ,Eff P ro n ops df γ τ o (fun d' X'=> ∃j,τ j=none/\d'=dj j/\X'=τ.set j x) (fun _ _=>False)) /\ ∀j,O j=none->K (putD o.dst (dj j) γ) (O.set j x)) \/
 (∃(j:Nat) (y x:DObj) (d:D),O j=some y/\S0 j=none/\(∀τ,τ j=some y->Eff P ro n ops df γ τ o (fun d' X'=>d'=d/\X'=τ.set j x) (fun _ _=>False))/\K (putD o.dst d γ) (O.set j x)) \/
 (∃Rr:Sig->D->Sig->Prop,(∀τ,Eff P ro n ops df γ τ o (Rr τ) (fun _ _=>False))/\(∀τ k x d X',τ k=none->Rr (τ.set k x) d X'->∃U',Rr τ d U'/\U' k=none/\X'=U'.set k x) /\ ∀d U',Rr O d U'->Sub S0 U'/\K (putD o.dst d γ) U')
def Step3(e u:Bool)(o:Oper)(γ:Fr)(O:Sig)(K:Fr->Sig->Prop):Prop:=
 match isAl o with
 |some (t,T)=> ∀k,O k=none->K ((t,.ptr k 0)::γ) (O.set k (.cells (tab T).zero))
 |none=>(∃d,Calm P n ops N S0 γ o d/\K (putD o.dst d γ) O) \/
  (e=true/\Eff P ro n ops df γ O o (fun d U'=>Sub S0 U'/\K (putD o.dst d γ) U') (fun d U'=> ∀V',Q (.panic d) ⟨V',U',df⟩)) \/
  (u=true/\USt P ro n ops S0 df o γ O K)
def MOps3(E U:List Nat):List Nat->Fr->Sig->Prop
 |[],γ,O=>DOps P ro n ops Q [] ⟨γ,O,df⟩
 |i::r,γ,O=> ∃o,ops[i]? = some o/\Step3 P ro n ops N S0 Q df tab (E.contains i) (U.contains i) o γ O (MOps3 E U r)
def MO3:List (Bool×Bool×Oper)->Fr->Sig->Prop
 |[],γ,O=>DOps P ro n ops Q [] ⟨γ,O,df⟩
 |(e,u,o)::r,γ,O=>Step3 P ro n ops N S0 Q df tab e u o γ O (MO3 r)
end
section
variable {P:Program}{ro:Ro}{n:Nat}{ops:Array Oper}{N:Nat}{S0:Sig}{Q:DX->St->Prop}{df:List DDf}{E U:List Nat}{tab:Nat->Ty}
theorem USt.congr{o:Oper}{γ V':Fr}{O:Sig}{K K':Fr->Sig->Prop}(h:USt P ro n ops S0 df o γ O K)(ax:∀t∈o.looksAt ops,getD γ t=getD V' t)(hK:∀d U',K (putD o.dst d γ) U'->K' (putD o.dst d V') U'):USt P ro n ops S0 df o V' O K':=by
 rcases h with⟨dj,x,hE,h⟩|⟨j,y,x,d,hj,h0,hE,h⟩|⟨Rr,hE,hn,h⟩
 rotate_left 2
 ·exact .inr (.inr ⟨Rr,fun τ=>(hE τ).congr ax fun _ _ h=>h,hn,fun d U' hR=>⟨(h d U' hR).1,hK _ _ (h d U' hR).2⟩⟩)
 ·exact .inl ⟨dj,x,fun τ=>(hE τ).congr ax fun _ _ h=>h,fun j hj=>hK _ _ (h j hj)⟩
 ·refine .inr (.inl ?_)
  exact⟨j,y,x,d,hj,h0,fun τ hτ=>(hE τ hτ).congr ax fun _ _ h=>h,hK _ _ h⟩
theorem Step3.mono{e u:Bool}{o:Oper}{γ V':Fr}{O:Sig}{K K':Fr->Sig->Prop}(h:Step3 P ro n ops N S0 Q df tab e u o γ O K)(ax:Alike γ V')(hK:∀γ V' O,Alike γ V'->K γ O->K' V' O):Step3 P ro n ops N S0 Q df tab e u o V' O K':=by
 unfold Step3 at h⊢
 split at h
 ·exact fun k hk=>hK _ _ _ (ax.put (some _) _) (h k hk)
 ·rcases h with⟨d,h2,h3⟩|⟨h1,h2⟩|⟨h1,h2⟩
  ·exact .inl ⟨d,h2.congr fun t _=>ax t,hK _ _ _ (ax.put _ _) h3⟩
  ·exact .inr (.inl ⟨h1,h2.congr (fun t _=>ax t) fun d U' ⟨h3,h4⟩=>⟨h3,hK _ _ _ (ax.put _ _) h4⟩⟩)
  ·exact .inr (.inr ⟨h1,h2.congr (fun t _=>ax t) fun d U' h4=>hK _ _ _ (ax.put _ _) h4⟩)
theorem MOps3.alike: ∀(l:List Nat) {γ V':Fr}{O:Sig},Alike γ V'->MOps3 P ro n ops N S0 Q df tab E U l γ O->MOps3 P ro n ops N S0 Q df tab E U l V' O
 |[],_,_,_,h,k=>C4 h k
 |i::r,_,_,_,h,⟨o,ho,k⟩=>⟨o,ho,k.mono h fun _ _ _ h' k'=>MOps3.alike r h' k'⟩
theorem Ie{i:Nat}{oi:Oper}(hi:ops[i]? = some oi)(post:List Nat): ∀(pre:List Nat) (γ:Fr) (O:Sig),
  (∀x∈pre,E.contains x=false/\(U.contains x=true->(isAl oi).isSome=true) /\ ∃ox,ops[x]? = some ox/\oi.apart ops ox=true/\((isAl ox).isSome=true->(isAl oi).isSome=true))->MOps3 P ro n ops N S0 Q df tab E U (pre++i::post) γ O->MOps3 P ro n ops N S0 Q df tab E U (i::(pre++post)) γ O
 |[],_,_,_,h=>h
 | x::pre,γ,O,hp,h=>by
  obtain⟨bp,bI,ox,aA,bH,ax⟩:=hp x (by simp)
  obtain⟨a1,a2,a3⟩:=Oper.apart_spec bH
  obtain⟨ox',aK,hx⟩:=h
  obtain rfl:ox'=ox:=by rw[aA]at aK;cases aK;rfl
  have ih:∀γ O,MOps3 P ro n ops N S0 Q df tab E U (pre++i::post) γ O->MOps3 P ro n ops N S0 Q df tab E U (i::(pre++post)) γ O:=fun γ O=>Ie hi post pre γ O fun y hy=>hp y (by simp[hy])
  refine⟨oi,hi,?_⟩
  cases aS:isAl ox' with
  | some p =>
   obtain⟨t,T⟩:=p
   cases aI:isAl oi with
   |none=>rw[aS,aI]at ax;simp at ax
   | some q =>
    obtain⟨t',T'⟩:=q
    obtain⟨_,_,_,rfl⟩:=Iq aS
    obtain⟨_,_,_,rfl⟩:=Iq aI
    simp only[Step3,isAl]at hx⊢
    intro k' aX
    refine⟨_,aA,?_⟩
    simp only[Step3,isAl]
    intro k hk
    have hne:k≠k':=by
     rintro rfl
     simp[Sig.set]at hk
    have bZ:O k=none:=by rw[w7 _ _ hne]at hk;exact hk
    obtain⟨oi',ae,hh⟩:=ih _ _ (hx k bZ)
    rw[hi]at ae;cases ae
    simp only[Step3,isAl]at hh
    have h3:=hh k' (by rw[w7 _ _ (Ne.symm hne)];exact aX)
    rw[set_comm O hne]at h3
    exact MOps3.alike _ (Bq (a:=some t') (b:=some t) _ _ _ fun t p q=>a2 t p q) h3
  | none =>
   simp only[Step3,aS]at hx
   rcases hx with⟨d,hy,h⟩|⟨hE,_⟩|⟨bN,hu⟩
   ·obtain⟨oi',ae,hh⟩:=ih _ O h
    rw[hi]at ae;cases ae
    cases aI:isAl oi with
    |some q=>
     obtain⟨t',T'⟩:=q
     obtain⟨_,_,_,rfl⟩:=Iq aI
     simp only[Step3,isAl]at hh⊢
     intro k' aX
     refine⟨ox',aA,?_⟩
     simp only[Step3,aS]
     refine .inl ⟨d,hy.congr fun t ht=>(AC (dst:=some t') fun hd=>a1 t hd ht).symm,?_⟩
     exact MOps3.alike _ (Bq _ _ _ fun t p q=>a2 t p q) (hh k' aX)
    | none =>
     simp only[Step3,aI]at hh⊢
     rcases hh with⟨e,h2,h3⟩|⟨h1,h2⟩|⟨h1,h2⟩
     ·refine .inl ⟨e,h2.congr fun t ht=>AC fun hd=>a3 t hd ht,ox',aA,?_⟩
      simp only[Step3,aS]
      refine .inl ⟨d,hy.congr fun t ht=>(AC fun hd=>a1 t hd ht).symm,?_⟩
      exact MOps3.alike _ (Bq _ _ _ fun t p q=>a2 t p q) h3
     ·refine .inr (.inl ⟨h1,h2.congr (fun t ht=>AC fun hd=>a3 t hd ht) fun e U' ⟨h3,h4⟩=>⟨h3,ox',aA,?_⟩⟩)
      simp only[Step3,aS]
      refine .inl ⟨d,hy.congr fun t ht=>(AC fun hd=>a1 t hd ht).symm,?_⟩
      exact MOps3.alike _ (Bq _ _ _ fun t p q=>a2 t p q) h4
     ·refine .inr (.inr ⟨h1,h2.congr (fun t ht=>AC fun hd=>a3 t hd ht) fun e U' h4=>⟨ox',aA,?_⟩⟩)
      simp only[Step3,aS]
      refine .inl ⟨d,hy.congr fun t ht=>(AC fun hd=>a1 t hd ht).symm,?_⟩
      exact MOps3.alike _ (Bq _ _ _ fun t p q=>a2 t p q) h4
   ·rw[bp]at hE;cases hE
   ·cases aI:isAl oi with
    |none=>rw[aI]at bI;exact absurd (bI bN) (by simp)
    | some q =>
     obtain⟨t',T'⟩:=q
     obtain⟨_,_,_,rfl⟩:=Iq aI
     simp only[Step3,isAl]
     intro k hk
     refine⟨ox',aA,?_⟩
     simp only[Step3,aS]
     refine .inr (.inr ⟨bN,?_⟩)
     rcases hu with⟨dj,xo,hE,hK⟩|⟨j,y,xo,d,hj,h0,hE,hK⟩|⟨Rr,hE,hn,hK⟩
     rotate_left 2
     ·refine .inr (.inr ⟨Rr,fun τ=>(hE τ).congr (fun t ht=>(AC (dst:=some t') fun hd=>a1 t hd ht).symm) fun _ _ h=>h,hn,fun d X' hR=>?_⟩)
      obtain⟨U',h1,h2,rfl⟩:=hn O k _ d X' hk hR
      obtain⟨hs,cf⟩:=hK d U' h1
      refine⟨hs.set (hs.none h2),?_⟩
      obtain⟨oi',ae,hh⟩:=ih _ _ cf
      rw[hi]at ae;cases ae
      simp only[Step3,isAl]at hh
      exact MOps3.alike _ (Bq (a:=some t') (b:=ox'.dst) _ _ _ fun t p q=>a2 t p q) (hh k h2)
     ·refine .inl ⟨dj,xo,fun τ=>(hE τ).congr (fun t ht=>(AC (dst:=some t') fun hd=>a1 t hd ht).symm) fun _ _ h=>h,fun j hj=>?_⟩
      have hne:j≠k:=by
       rintro rfl
       simp[Sig.set]at hj
      have b6:O j=none:=by rw[w7 _ _ hne]at hj;exact hj
      obtain⟨oi',ae,hh⟩:=ih _ _ (hK j b6)
      rw[hi]at ae;cases ae
      simp only[Step3,isAl]at hh
      have h3:=hh k (by rw[w7 _ _ (Ne.symm hne)];exact hk)
      rw[set_comm O hne]at h3
      exact MOps3.alike _ (Bq (a:=some t') (b:=ox'.dst) _ _ _ fun t p q=>a2 t p q) h3
     ·have hne:j≠k:=fun e=>by rw[e,hk]at hj;cases hj
      refine .inr (.inl ?_)
      refine⟨j,y,xo,d,by rw[w7 _ _ hne];exact hj,h0,fun τ hτ=>(hE τ hτ).congr (fun t ht=>(AC (dst:=some t') fun hd=>a1 t hd ht).symm) fun _ _ h=>h,?_⟩
      obtain⟨oi',ae,hh⟩:=ih _ _ hK
      rw[hi]at ae;cases ae
      simp only[Step3,isAl]at hh
      have h3:=hh k (by rw[w7 _ _ (Ne.symm hne)];exact hk)
      rw[set_comm O hne]at h3
      exact MOps3.alike _ (Bq (a:=some t') (b:=ox'.dst) _ _ _ fun t p q=>a2 t p q) h3
def Jc(ops:Array Oper)(E U:List Nat):List Nat->List Nat->Bool
 |_,[]=>true
 | done,i::r => !done.contains i && (match ops[i]? with
  |some o=>(o.after.all fun e=> !Region.binds .any e||done.contains e.on)&&done.all fun x=>(!E.contains x&&(!U.contains x||(isAl o).isSome)&&match ops[x]? with
   |some ox=>o.apart ops ox&&(!(isAl ox).isSome||(isAl o).isSome)
   |none=>false)||FJ ops ops.size i x
  |none=>false)&&Jc ops E U (i::done) r
theorem Gc {i:Nat} {l2:List Nat} : ∀ (l1 done:List Nat),Jc ops E U done (l1++i::l2)=true->i ∉ l1/\i ∉ done/\i ∉ l2 /\ ∃ o,ops[i]? = some o/\(∀ e ∈ o.after,Region.binds .any e=true->e.on ∈ l1\/e.on ∈ done) /\
   ∀x,x∈l1->FJ ops ops.size i x=true\/(E.contains x=false/\(U.contains x=true->(isAl o).isSome=true) /\ ∃ox,ops[x]? = some ox/\o.apart ops ox=true/\((isAl ox).isSome=true->(isAl o).isSome=true))
 | [],done,h=>by
  simp only[List.nil_append,Jc,Bool.and_eq_true,Bool.not_eq_true',List.contains_eq_mem,decide_eq_false_iff_not]at h
  obtain⟨⟨h1,h2⟩,h3⟩:=h
  have later:∀(l d:List Nat),i∈d->Jc ops E U d l=true->i∉l:=by
   intro l
   induction l with
   |nil=>intro _ _ _ h;cases h
   |cons y l ih=>
    intro d hd hm aa
    simp only[Jc,Bool.and_eq_true,Bool.not_eq_true',List.contains_eq_mem,decide_eq_false_iff_not]at hm
    obtain⟨⟨m1,_⟩,m3⟩:=hm
    rcases List.mem_cons.1 aa with rfl|aa
    ·exact m1 hd
    ·exact ih (y::d) (by simp[hd]) m3 aa
  refine⟨by simp,h1,later l2 _ (by simp) h3,?_⟩
  split at h2
  ·rename_i o ho
   simp only[Bool.and_eq_true]at h2
   refine⟨o,ho,fun e he hb=>?_,fun x hx=>by cases hx⟩
   have:=Array.all_eq_true_iff_forall_mem.1 h2.1 e he
   simp only[hb,Bool.not_true,Bool.false_or,List.contains_eq_mem,decide_eq_true_eq]at this
   exact .inr this
  ·cases h2
 | y::l1,done,h=>by
  simp only[List.cons_append,Jc,Bool.and_eq_true]at h
  obtain⟨h1,h2,h3,o,ho,he,hx⟩:=Gc l1 (y::done) h.2
  have bB:i≠y:=fun e=>h2 (by simp[e])
  refine⟨by simp[bB,h1],fun hd=>h2 (by simp[hd]),h3,o,ho,fun e hm hb=>?_,?_⟩
  ·rcases he e hm hb with h4|h4
   ·exact .inl (by simp[h4])
   ·rcases List.mem_cons.1 h4 with h5|h5
    ·exact .inl (by simp[h5])
    ·exact .inr h5
  ·intro x aa
   rcases List.mem_cons.1 aa with rfl|aa
   ·have back:∀(l d:List Nat),x∈d->Jc ops E U d (l++i::l2)=true->FJ ops ops.size i x=true\/(E.contains x=false/\(U.contains x=true->(isAl o).isSome=true) /\ ∃ox,ops[x]? = some ox/\o.apart ops ox=true/\((isAl ox).isSome=true->(isAl o).isSome=true)):=by
     intro l
     induction l with
     | nil =>
      intro d hd hm
      simp only[List.nil_append,Jc,Bool.and_eq_true,ho]at hm
      have:=List.all_eq_true.1 hm.1.2.2 x hd
      simp only[Bool.or_eq_true,Bool.and_eq_true,Bool.not_eq_true']at this
      rcases this.symm with h4|⟨⟨h4,hu⟩,h5⟩
      ·exact .inl h4
      ·refine .inr ⟨h4,(fun bS=>hu.resolve_left fun h=>by rw[bS]at h;cases h),?_⟩
       split at h5
       ·rename_i ox aA
        simp only[Bool.and_eq_true,Bool.or_eq_true,Bool.not_eq_true']at h5
        exact⟨ox,aA,h5.1,fun hs=>by rcases h5.2 with h6|h6;rw[h6]at hs;cases hs;exact h6⟩
       ·cases h5
     |cons z l ih=>
      intro d hd hm
      simp only[List.cons_append,Jc,Bool.and_eq_true]at hm
      exact ih (z::d) (by simp[hd]) hm.2
    exact back l1 _ (by simp) h.2
   ·exact hx x aa
def GX(ops:Array Oper)(E U ord:List Nat):Bool:=Jc ops E U [] ord&&(List.range ops.size).all ord.contains&&ord.length==ops.size
theorem QF(ht:AZ P tab)(hN:P.funcs.size=N){ord:List Nat}(hB:GX ops E U ord=true)(hA:allOK tab n ops=true){g0:G}{rr:Rx}(hr:RoRep g0 ro rr): ∀(m:Nat) (r:List Nat) (listed:Array Bool) (γ:Fr) (O:Sig),r.length=m->listed.size=ops.size->
  r=ord.filter (fun i=> !listed.getD i true)->Closed ops listed->MOps3 P ro n ops N S0 Q df tab E U r γ O->Sub S0 O->
   ∀(g:G) (w:World) (a:Act),g0.le g->SimS P g n ⟨γ,O,df⟩ a w->wpAnyIn (FX P rr) 0 P .any ops (Post P g0 n Q) m listed a w:=by
 unfold GX at hB
 simp only[Bool.and_eq_true]at hB
 obtain⟨⟨aj,aZ⟩,_⟩:=hB
 have aa:∀(r:List Nat) (listed:Array Bool),r=ord.filter (fun i=> !listed.getD i true)->∀i∈Region.ready .any ops listed,i∈r:=by
  intro r listed hf i hi
  obtain⟨h1,o,ho,_⟩:=mem_ready.1 hi
  have:=List.all_eq_true.1 aZ i (by simpa using(Array.getElem?_eq_some_iff.1 ho).1)
  rw[hf,List.mem_filter]
  exact⟨by simpa using this,by rw[h1];rfl⟩
 intro m
 induction m with
 |zero=>
  intro r listed γ O hl hsz hf aq h hC g w a hg hs
  obtain rfl:r=[]:=List.length_eq_zero_iff.1 hl
  refine⟨List.eq_nil_iff_forall_not_mem.2 fun i hi=>?_,?_⟩
  ·have:=aa [] listed hf i hi;cases this
  ·exact Post.le hg (h g w a rr (hr.mono hg) hs)
 | succ m ih =>
  intro r listed γ O hl hsz hf aq h hC g w a hg hs
  obtain⟨y,t,rfl⟩:∃y t,r=y::t:=by cases r with|nil=>cases hl|cons y t=>exact⟨y,t,rfl⟩
  refine⟨fun he=>?_,fun i hi=>?_⟩
  ·exfalso
   obtain⟨l1,l2,aB,bz,hy,bY⟩:=List.filter_eq_cons_iff.1 hf.symm
   subst aB
   obtain⟨h1,_,_,o,ho,bh,_⟩:=Gc l1 [] aj
   have:y∈Region.ready .any ops listed:=by
    refine mem_ready.2 ⟨by simpa using hy,o,ho,fun e hm hb=>?_⟩
    rcases bh e hm hb with h4|h4
    ·have h5:=bz _ h4
     simp only[Bool.not_eq_true,Bool.not_eq_false']at h5
     have au:e.on<listed.size:=by
      have:e.on∈l1++y::l2:=by simp[h4]
      obtain⟨p1,p2,hp⟩:=List.append_of_mem this
      rw[hp]at aj
      obtain⟨_,_,_,o',aH,_⟩:=Gc p1 [] aj
      rw[hsz];exact(Array.getElem?_eq_some_iff.1 aH).1
     simpa[au] using h5
    ·cases h4
   rw[he]at this;cases this
  ·obtain⟨pre,post,ay⟩:=List.append_of_mem (aa _ listed hf i hi)
   rw[ay]at hf h hl
   obtain⟨l1',l2',aB,aY,bF⟩:=List.filter_eq_append_iff.1 hf.symm
   obtain⟨m1,m2,aW,bw,b7,bE⟩:=List.filter_eq_cons_iff.1 bF
   have ap:ord=(l1'++m1)++i::m2:=by rw[aB,aW];simp
   rw[ap]at aj
   obtain⟨n1,_,n3,o,ho,bh,hx⟩:=Gc (l1'++m1) [] aj
   obtain⟨bC,o',aH,aN⟩:=mem_ready.1 hi
   obtain rfl:o'=o:=by rw[ho]at aH;cases aH;rfl
   have aE:=Ie ho post pre γ O (fun x ba=>by
    have bq:x∈l1'++m1:=by
     have:x∈l1'.filter (fun i=> !listed.getD i true):=by rw[aY];exact ba
     simp[(List.mem_filter.1 this).1]
    have a8:listed.getD x true=false:=by
     have:x∈l1'.filter (fun i=> !listed.getD i true):=by rw[aY];exact ba
     simpa using(List.mem_filter.1 this).2
    rcases hx x bq with h4|h4
    ·exfalso
     have:=CG aq ops.size i x o' ho aN h4
     rcases Nat.lt_or_ge x listed.size with au|au
     ·simp[au]at this a8;rw[a8]at this;cases this
     ·simp[Array.getElem?_eq_none au]at this
    ·exact h4) h
   have ah:pre++post=ord.filter (fun j=> !(listed.setIfInBounds i true).getD j true):=by
    have bD:i<listed.size:=by
     rw[hsz];exact(Array.getElem?_eq_some_iff.1 ho).1
    rw[ap,List.filter_append,List.filter_cons]
    have e1:(listed.setIfInBounds i true).getD i true=true:=by simp[bD]
    rw[e1,AK n1,AK n3]
    simp only[Bool.not_true,Bool.false_eq_true,if_false,List.filter_append,aY,bE]
    rw[List.filter_eq_nil_iff.2 (fun x hx=>by simpa using bw x hx),List.append_nil]
   have hlen:(pre++post).length=m:=by simp at hl⊢; omega
   obtain⟨o2,bc,hh⟩:=aE
   obtain rfl:o2=o':=by rw[ho]at bc;cases bc;rfl
   have bb:=Array.all_eq_true_iff_forall_mem.1 hA o2 (Array.mem_of_getElem? ho)
   unfold wpOpIn
   simp only[ho]
   cases aI:isAl o2 with
   | some p =>
    obtain⟨t,T⟩:=p
    rw[aI]at bb
    simp only[Bool.and_eq_true,decide_eq_true_eq,Bool.not_eq_true']at bb
    obtain⟨_,_,_,rfl⟩:=Iq aI
    simp only[Step3,isAl]at hh
    refine CU (Q:=Q) (R:=fun d U'=> ∃k,O k=none/\d=.ptr k 0/\U'=O.set k (.cells (tab T).zero)) (Rp:=fun _ _=>False) (hr.mono hg) hg hs ⟨by simp[Ar,bb.1],rfl,?_⟩ (fun g' w' a' d U' aD hR ai=>?_) fun _ _ h=>h.elim
    ·exact E2 ht bb.2 bb.1 fun k hk=>Au ⟨rfl,k,hk,by simp[A4],rfl⟩
    ·obtain⟨k,hk,rfl,rfl⟩:=hR
     exact ih _ _ _ _ hlen (by simpa using hsz) ah (aq.set hi) (hh k hk) (fun i o h=>(Sub.refl _).set hk i o (hC i o h)) g' w' a' (hg.trans aD) ai
   | none =>
    simp only[Step3,aI]at hh
    rcases hh with⟨d,hy,hM⟩|⟨_,hE⟩|⟨_,hu⟩
    ·exact F6 (Q:=Q) hN (hr.mono hg) hg hs hC hy fun g' w' a' aD ai=>ih _ _ _ _ hlen (by simpa using hsz) ah (aq.set hi) hM hC g' w' a' (hg.trans aD) ai
    ·exact CU (Q:=Q) (hr.mono hg) hg hs hE (fun g' w' a' d U' aD hR ai=>ih _ _ _ _ hlen (by simpa using hsz) ah (aq.set hi) hR.2 hR.1 g' w' a' (hg.trans aD) ai) fun d U' hp=>hp
    ·rcases hu with⟨dj,x,hE,hK⟩|⟨j,y,x,d,hj,h0,hE,hK⟩|⟨Rr,hE,hn,hK⟩
     rotate_left 2
     ·refine CU (Q:=Q) (hr.mono hg) hg hs (hE O) (fun g' w' a' d U' aD hR ai=>?_) fun _ _ h=>h.elim
      exact ih _ _ _ _ hlen (by simpa using hsz) ah (aq.set hi) (hK d U' hR).2 (hK d U' hR).1 g' w' a' (hg.trans aD) ai
     ·refine CU (Q:=Q) (hr.mono hg) hg hs (hE O) (fun g' w' a' d U' aD hR ai=>?_) fun _ _ h=>h.elim
      obtain⟨j,hj,rfl,rfl⟩:=hR
      exact ih _ _ _ _ hlen (by simpa using hsz) ah (aq.set hi) (hK j hj) (fun i o h=>(Sub.refl _).set hj i o (hC i o h)) g' w' a' (hg.trans aD) ai
     ·refine CU (Q:=Q) (hr.mono hg) hg hs (hE O hj) (fun g' w' a' d' U' aD hR ai=>?_) fun _ _ h=>h.elim
      obtain⟨rfl,rfl⟩:=hR
      exact ih _ _ _ _ hlen (by simpa using hsz) ah (aq.set hi) hK (fun i o h=>by rw[w7 _ _ fun e=>by rw[e,h0]at h;cases h];exact hC i o h) g' w' a' (hg.trans aD) ai
def Qr(ops:List Oper)(E U:List Nat):List Nat->Option (List (Bool×Bool×Oper))
 |[]=>some []
 | i::r=>match nthO ops i with
  |some o=>match Qr ops E U r with
   |some l=>some ((E.contains i,U.contains i,o)::l)
   |none=>none
  |none=>none
theorem Hm{lo:List Oper}: ∀{ord:List Nat}{lp:List (Bool×Bool×Oper)}{γ:Fr}{O:Sig},Qr lo E U ord=some lp->MO3 P ro n lo.toArray N S0 Q df tab lp γ O->MOps3 P ro n lo.toArray N S0 Q df tab E U ord γ O
 |[],_,_,_,hp,h=>by cases hp;exact h
 |i::r,lp,γ,O,hp,h=>by
  simp only[Qr]at hp
  split at hp<;>(try (cases hp;done))
  rename_i o ho
  split at hp<;>(try (cases hp;done))
  rename_i l hl
  cases hp
  refine⟨o,by rw[GV]at ho;simpa using ho,?_⟩
  exact Step3.mono h (fun _=>rfl) fun γ V' O ax h=>MOps3.alike _ ax (Hm hl h)
theorem Va(ht:AZ P tab)(hN:P.funcs.size=N)(hm:P.follows .mixedOrders=true){l:List Oper}{id:Nat}{γ:Fr}{O:Sig}(ord E U:List Nat)(S0:Sig)(hB:GX l.toArray E U ord=true)(hA:allOK tab n l.toArray=true)(hC:Sub S0 O)
  {lp:List (Bool×Bool×Oper)} (bx:Qr l E U ord=some lp) (h:MO3 P ro n l.toArray N S0 Q df tab lp γ O):DWp P ro n (.region id l.toArray true) Q ⟨γ,O,df⟩:=by
 intro g w a r hr hs
 refine wpIn_region_any hm ?_
 have aq:Closed l.toArray (Array.replicate l.toArray.size false):=by
  intro q o _ hq
  rcases Nat.lt_or_ge q l.length with h'|h'
  ·simp[h']at hq
  ·simp[h']at hq
 have ai:SimS P g n ⟨γ,O,df⟩ a { w with drawn:=w.drawn+1 }:=
  ⟨⟨fun b o v h=>hs.sim.imm b o v h,hs.sim.keep,fun i o h=>by
   have:=hs.sim.obj i o h
   cases o<;>exact this,hs.sim.inj,hs.sim.free,hs.sim.htop,hs.sim.hdom,hs.sim.fin,hs.sim.io,hs.sim.tab⟩,hs.tmps,hs.df⟩
 have au:∀i∈ord,i<l.toArray.size:=by
  intro i hi
  obtain⟨p1,p2,hp⟩:=List.append_of_mem hi
  have ar:=hB
  unfold GX at ar
  simp only[Bool.and_eq_true]at ar
  rw[hp]at ar
  obtain⟨_,_,_,o',aH,_⟩:=Gc p1 [] ar.1.1
  exact(Array.getElem?_eq_some_iff.1 aH).1
 have hlen:ord.length=l.toArray.size:=by
  have ar:=hB
  unfold GX at ar
  simp only[Bool.and_eq_true,beq_iff_eq]at ar
  exact ar.2
 have:=QF ht hN hB hA hr ord.length ord (Array.replicate l.toArray.size false) γ O rfl (by simp) (Do au).symm aq (Hm bx h) hC g _ a (.refl g) ai
 rw[hlen]at this
 exact this
theorem Ih: ∀{l:List (Bool×Bool×Oper)}{γ:Fr}{O:Sig},(l.all fun p=> !(isAl p.2.2).isSome)=true->MO P ro n ops N S0 Q df (l.map fun p=>(p.1,p.2.2)) γ O->MO3 P ro n ops N S0 Q df tab l γ O
 |[],_,_,_,h=>h
 |(e,u,o)::l,γ,O,hl,h=>by
  simp only[List.all_cons,Bool.and_eq_true,Bool.not_eq_true']at hl
  have hn:isAl o=none:=by cases h:isAl o with|none=>rfl|some _=>rw[h]at hl;simp at hl
  show Step3 P ro n ops N S0 Q df tab e u o γ O _
  simp only[Step3,hn]
  rcases h with⟨d,h2,h3⟩|⟨h1,h2⟩
  ·exact .inl ⟨d,h2,Ih hl.2 h3⟩
  ·exact .inr (.inl ⟨h1,h2.congr (fun _ _=>rfl) fun d U' ⟨h3,h4⟩=>⟨h3,Ih hl.2 h4⟩⟩)
theorem QN{e u:Bool}{t T:Nat}{ty:TypeId}{pos:String}{after:Array Edge}{l:List (Bool×Bool×Oper)}{γ:Fr}{O:Sig}(h:∀k,O k=none->MO3 P ro n ops N S0 Q df tab l ((t,.ptr k 0)::γ) (O.set k (.cells (tab T).zero))):
  MO3 P ro n ops N S0 Q df tab ((e,u,⟨some t,.alloc T,ty,pos,after,none⟩)::l) γ O:=h
theorem Ui(ht:AZ P tab){e u:Bool}{t:Nat}{op:Op}{ty:TypeId}{pos:String}{after:Array Edge}{d:D}{l:List (Bool×Bool×Oper)}{γ Sr:Fr}{O:Sig}(hr:Dl op=true)(aJ:decide (t<n)=true)(hl:A0 γ (A5 op.operands.toList)=some Sr)(hd:dopX tab Sr S0 op=some d)
  (h:MO3 P ro n ops N S0 Q df tab l ((t,d)::γ) O):MO3 P ro n ops N S0 Q df tab ((e,u,⟨some t,op,ty,pos,after,none⟩)::l) γ O:=by
 have bi:=(BC (Cj hl)) ▸ hd
 have ha:isAl ⟨some t,op,ty,pos,after,none⟩=none:=by
  unfold isAl;split
  ·rename_i cd;cases cd;cases hr
  ·rfl
 show Step3 P ro n ops N S0 Q df tab e u _ γ O _
 simp only[Step3,ha]
 refine .inl ⟨d,⟨aJ,.inl ⟨by rw[Af];rfl,C9 hr,J9 ht bi,fun U' hU g w a hs hT=>?_⟩⟩,h⟩
 refine F3 ht hs hT (?_:dopX tab (only _ γ) U' op=some d)
 rw[BC (V':=γ) fun x hx=>Bl (o:=⟨some t,op,ty,pos,after,none⟩) hx]
 exact F4 hU bi
theorem mo3_u{e:Bool}{o:Oper}{l:List (Bool×Bool×Oper)}{γ:Fr}{O:Sig}(ha:isAl o=none)(h:USt P ro n ops S0 df o γ O (MO3 P ro n ops N S0 Q df tab l)):MO3 P ro n ops N S0 Q df tab ((e,true,o)::l) γ O:=by
 show Step3 P ro n ops N S0 Q df tab e true o γ O _
 simp only[Step3,ha]
 exact .inr (.inr ⟨trivial,h⟩)
end
section
variable (P:Program)(ro:Ro)(n:Nat)(ops:Array Oper)(N:Nat)(Q:DX->St->Prop)(df:List DDf)
def MOps4 (E C K:List Nat):List Nat->Sig->Fr->Sig->Prop
  |[],_,γ,O=>DOps P ro n ops Q [] ⟨γ,O,df⟩
  | i::r,S0,γ,O => ∃ o,ops[i]? = some o /\
    ((∃ d,Calm P n ops N (if C.contains i=true then S0 else fun _=>none) γ o d/\MOps4 E C K r S0 (putD o.dst d γ) O) \/
     (E.contains i=true/\Eff P ro n ops df γ O o (fun d U'=> ∃U1,Sub U1 U'/\(K.contains i=false->U1=S0)/\MOps4 E C K r U1 (putD o.dst d γ) U') (fun d U'=> ∀V',Q (.panic d) ⟨V',U',df⟩)))
def MO4:List (Bool × Bool × Bool × Oper)->Sig->Fr->Sig->Prop
  |[],_,γ,O=>DOps P ro n ops Q [] ⟨γ,O,df⟩
  | (e,c,k,o)::r,S0,γ,O =>
    (∃ d,Calm P n ops N (if c=true then S0 else fun _=>none) γ o d/\MO4 r S0 (putD o.dst d γ) O) \/
     (e=true/\Eff P ro n ops df γ O o (fun d U'=> ∃U1,Sub U1 U'/\(k=false->U1=S0)/\MO4 r U1 (putD o.dst d γ) U') (fun d U'=> ∀V',Q (.panic d) ⟨V',U',df⟩))
end
section
variable {P:Program}{ro:Ro}{n:Nat}{ops:Array Oper}{N:Nat}{S0:Sig}{Q:DX->St->Prop}{df:List DDf}{E C K:List Nat}{tab:Nat->Ty}
theorem MOps4.alike: ∀(l:List Nat) {S0:Sig}{γ V':Fr}{O:Sig},Alike γ V'->MOps4 P ro n ops N Q df E C K l S0 γ O->MOps4 P ro n ops N Q df E C K l S0 V' O
 |[],_,_,_,_,h,k=>C4 h k
 |i::r,_,_,_,_,h,⟨o,ho,k⟩=>⟨o,ho,(match k with
  |.inl ⟨d,h2,h3⟩=>.inl ⟨d,h2.congr fun t _=>h t,MOps4.alike r (h.put _ _) h3⟩
  |.inr ⟨h1,h2⟩=>.inr ⟨h1,h2.congr (fun t _=>h t) fun d U' ⟨U1,h3,h5,h4⟩=>⟨U1,h3,h5,MOps4.alike r (h.put _ _) h4⟩⟩)⟩
theorem Calm.base{S0 U1:Sig}{γ:Fr}{o:Oper}{d:D}(h:Calm P n ops N S0 γ o d)(hs:Sub S0 U1):Calm P n ops N U1 γ o d:=
 ⟨h.ok,by
  rcases h.run with⟨a,b,c,e⟩|h|⟨a,e⟩
  ·exact .inl ⟨a,b,c,fun O hU=>e O (hs.trans hU)⟩
  ·exact .inr (.inl h)
  ·exact .inr (.inr ⟨a,fun O hU=>e O (hs.trans hU)⟩)⟩
theorem Id{i:Nat}{oi:Oper}(hi:ops[i]? = some oi)(post:List Nat): ∀(pre:List Nat) (γ:Fr) (O:Sig),
  (∀x∈pre,E.contains x=false/\(K.contains i&&C.contains x)=false /\ ∃ox,ops[x]? = some ox/\oi.apart ops ox=true)->MOps4 P ro n ops N Q df E C K (pre++i::post) S0 γ O->MOps4 P ro n ops N Q df E C K (i::(pre++post)) S0 γ O
 |[],_,_,_,h=>h
 | x::pre,γ,O,hp,h=>by
  obtain⟨bp,bJ,ox,aA,bH⟩:=hp x (by simp)
  obtain⟨a1,a2,a3⟩:=Oper.apart_spec bH
  obtain⟨ox',aK,hx⟩:=h
  obtain rfl:ox'=ox:=by rw[aA]at aK;cases aK;rfl
  rcases hx with⟨d,hy,h⟩|⟨hE,_⟩
  ·obtain⟨oi',ae,hh⟩:=Id hi post pre _ O (fun y hy=>hp y (by simp[hy])) h
   obtain rfl:oi'=oi:=by rw[hi]at ae;cases ae;rfl
   refine⟨oi',hi,?_⟩
   rcases hh with⟨e,h2,h3⟩|⟨h1,h2⟩
   ·refine .inl ⟨e,h2.congr fun t ht=>AC fun hd=>a3 t hd ht,ox',aA,.inl ⟨d,hy.congr fun t ht=>(AC fun hd=>a1 t hd ht).symm,?_⟩⟩
    exact MOps4.alike _ (Bq _ _ _ fun t p q=>a2 t p q) h3
   ·refine .inr ⟨h1,h2.congr (fun t ht=>AC fun hd=>a3 t hd ht) fun e U' ⟨U1,h3,h5,h4⟩=>⟨U1,h3,h5,ox',aA,.inl ⟨d,?_,MOps4.alike _ (Bq _ _ _ fun t p q=>a2 t p q) h4⟩⟩⟩
    have bn:=hy.congr (V':=putD oi'.dst e γ) fun t ht=>(AC fun hd=>a1 t hd ht).symm
    cases hk:K.contains i with
    |false=>rw[h5 hk];exact bn
    |true=>
     rw[hk,Bool.true_and]at bJ
     rw[bJ]at bn⊢
     exact bn
  ·rw[bp]at hE;cases hE
def Jb(ops:Array Oper)(E C K:List Nat):List Nat->List Nat->Bool
 |_,[]=>true
 | done,i::r => !done.contains i && (match ops[i]? with
  |some o=>(o.after.all fun e=> !Region.binds .any e||done.contains e.on)&&done.all fun x=>(!E.contains x&&!(K.contains i&&C.contains x)&&match ops[x]? with
   |some ox=>o.apart ops ox
   |none=>false)||FJ ops ops.size i x
  |none=>false)&&Jb ops E C K (i::done) r
theorem Db{i:Nat}{l2:List Nat}: ∀(l1 done:List Nat),Jb ops E C K done (l1++i::l2)=true->i∉l1/\i∉done/\i∉l2 /\ ∃o,ops[i]? = some o/\(∀e∈o.after,Region.binds .any e=true->e.on∈l1\/e.on∈done) /\
   ∀x,x∈l1->FJ ops ops.size i x=true\/(E.contains x=false/\(K.contains i&&C.contains x)=false /\ ∃ox,ops[x]? = some ox/\o.apart ops ox=true)
 | [],done,h=>by
  simp only[List.nil_append,Jb,Bool.and_eq_true,Bool.not_eq_true',List.contains_eq_mem,decide_eq_false_iff_not]at h
  obtain⟨⟨h1,h2⟩,h3⟩:=h
  have later:∀(l d:List Nat),i∈d->Jb ops E C K d l=true->i∉l:=by
   intro l
   induction l with
   |nil=>intro _ _ _ h;cases h
   |cons y l ih=>
    intro d hd hm aa
    simp only[Jb,Bool.and_eq_true,Bool.not_eq_true',List.contains_eq_mem,decide_eq_false_iff_not]at hm
    obtain⟨⟨m1,_⟩,m3⟩:=hm
    rcases List.mem_cons.1 aa with rfl|aa
    ·exact m1 hd
    ·exact ih (y::d) (by simp[hd]) m3 aa
  refine⟨by simp,h1,later l2 _ (by simp) h3,?_⟩
  split at h2
  ·rename_i o ho
   simp only[Bool.and_eq_true]at h2
   refine⟨o,ho,fun e he hb=>?_,fun x hx=>by cases hx⟩
   have:=Array.all_eq_true_iff_forall_mem.1 h2.1 e he
   simp only[hb,Bool.not_true,Bool.false_or,List.contains_eq_mem,decide_eq_true_eq]at this
   exact .inr this
  ·cases h2
 | y::l1,done,h=>by
  simp only[List.cons_append,Jb,Bool.and_eq_true]at h
  obtain⟨h1,h2,h3,o,ho,he,hx⟩:=Db l1 (y::done) h.2
  have bB:i≠y:=fun e=>h2 (by simp[e])
  refine⟨by simp[bB,h1],fun hd=>h2 (by simp[hd]),h3,o,ho,fun e hm hb=>?_,?_⟩
  ·rcases he e hm hb with h4|h4
   ·exact .inl (by simp[h4])
   ·rcases List.mem_cons.1 h4 with h5|h5
    ·exact .inl (by simp[h5])
    ·exact .inr h5
  ·intro x aa
   rcases List.mem_cons.1 aa with rfl|aa
   ·
    have back:∀(l d:List Nat),x∈d->Jb ops E C K d (l++i::l2)=true->FJ ops ops.size i x=true\/(E.contains x=false/\(K.contains i&&C.contains x)=false /\ ∃ox,ops[x]? = some ox/\o.apart ops ox=true):=by
     intro l
     induction l with
     | nil =>
      intro d hd hm
      simp only[List.nil_append,Jb,Bool.and_eq_true,ho]at hm
      have:=List.all_eq_true.1 hm.1.2.2 x hd
      simp only[Bool.or_eq_true,Bool.and_eq_true,Bool.not_eq_true']at this
      rcases this.symm with h4|⟨⟨h4,h6⟩,h5⟩
      ·exact .inl h4
      ·refine .inr ⟨h4,h6,?_⟩
       split at h5
       ·rename_i ox aA;exact⟨ox,aA,h5⟩
       ·cases h5
     |cons z l ih=>
      intro d hd hm
      simp only[List.cons_append,Jb,Bool.and_eq_true]at hm
      exact ih (z::d) (by simp[hd]) hm.2
    exact back l1 _ (by simp) h.2
   ·exact hx x aa
def D5(ops:Array Oper)(E C K ord:List Nat):Bool:=Jb ops E C K [] ord&&(List.range ops.size).all ord.contains&&ord.length==ops.size
theorem QE(hN:P.funcs.size=N){ord:List Nat}(hB:D5 ops E C K ord=true){g0:G}{rr:Rx}(hr:RoRep g0 ro rr): ∀(m:Nat) (r:List Nat) (listed:Array Bool) (S0:Sig) (γ:Fr) (O:Sig),r.length=m->listed.size=ops.size->
  r=ord.filter (fun i=> !listed.getD i true)->Closed ops listed->MOps4 P ro n ops N Q df E C K r S0 γ O->Sub S0 O->
   ∀(g:G) (w:World) (a:Act),g0.le g->SimS P g n ⟨γ,O,df⟩ a w->wpAnyIn (FX P rr) 0 P .any ops (Post P g0 n Q) m listed a w:=by
 unfold D5 at hB
 simp only[Bool.and_eq_true]at hB
 obtain⟨⟨aj,aZ⟩,_⟩:=hB
 have aa:∀(r:List Nat) (listed:Array Bool),r=ord.filter (fun i=> !listed.getD i true)->∀i∈Region.ready .any ops listed,i∈r:=by
  intro r listed hf i hi
  obtain⟨h1,o,ho,_⟩:=mem_ready.1 hi
  have:=List.all_eq_true.1 aZ i (by simpa using(Array.getElem?_eq_some_iff.1 ho).1)
  rw[hf,List.mem_filter]
  exact⟨by simpa using this,by rw[h1];rfl⟩
 intro m
 induction m with
 |zero=>
  intro r listed S0 γ O hl hsz hf aq h hC g w a hg hs
  obtain rfl:r=[]:=List.length_eq_zero_iff.1 hl
  refine⟨List.eq_nil_iff_forall_not_mem.2 fun i hi=>?_,?_⟩
  ·have:=aa [] listed hf i hi;cases this
  ·exact Post.le hg (h g w a rr (hr.mono hg) hs)
 | succ m ih =>
  intro r listed S0 γ O hl hsz hf aq h hC g w a hg hs
  obtain⟨y,t,rfl⟩:∃y t,r=y::t:=by cases r with|nil=>cases hl|cons y t=>exact⟨y,t,rfl⟩
  refine⟨fun he=>?_,fun i hi=>?_⟩
  ·exfalso
   obtain⟨l1,l2,aB,bz,hy,bY⟩:=List.filter_eq_cons_iff.1 hf.symm
   subst aB
   obtain⟨h1,_,_,o,ho,bh,_⟩:=Db l1 [] aj
   have:y∈Region.ready .any ops listed:=by
    refine mem_ready.2 ⟨by simpa using hy,o,ho,fun e hm hb=>?_⟩
    rcases bh e hm hb with h4|h4
    ·have h5:=bz _ h4
     simp only[Bool.not_eq_true,Bool.not_eq_false']at h5
     have au:e.on<listed.size:=by
      have:e.on∈l1++y::l2:=by simp[h4]
      obtain⟨p1,p2,hp⟩:=List.append_of_mem this
      rw[hp]at aj
      obtain⟨_,_,_,o',aH,_⟩:=Db p1 [] aj
      rw[hsz];exact(Array.getElem?_eq_some_iff.1 aH).1
     simpa[au] using h5
    ·cases h4
   rw[he]at this;cases this
  ·obtain⟨pre,post,ay⟩:=List.append_of_mem (aa _ listed hf i hi)
   rw[ay]at hf h hl
   obtain⟨l1',l2',aB,aY,bF⟩:=List.filter_eq_append_iff.1 hf.symm
   obtain⟨m1,m2,aW,bw,b7,bE⟩:=List.filter_eq_cons_iff.1 bF
   have ap:ord=(l1'++m1)++i::m2:=by rw[aB,aW];simp
   rw[ap]at aj
   obtain⟨n1,_,n3,o,ho,bh,hx⟩:=Db (l1'++m1) [] aj
   obtain⟨bC,o',aH,aN⟩:=mem_ready.1 hi
   obtain rfl:o'=o:=by rw[ho]at aH;cases aH;rfl
   have aE:=Id ho post pre γ O (fun x ba=>by
    have bq:x∈l1'++m1:=by
     have:x∈l1'.filter (fun i=> !listed.getD i true):=by rw[aY];exact ba
     simp[(List.mem_filter.1 this).1]
    have a8:listed.getD x true=false:=by
     have:x∈l1'.filter (fun i=> !listed.getD i true):=by rw[aY];exact ba
     simpa using(List.mem_filter.1 this).2
    rcases hx x bq with h4|h4
    ·exfalso
     have:=CG aq ops.size i x o' ho aN h4
     rcases Nat.lt_or_ge x listed.size with au|au
     ·simp[au]at this a8;rw[a8]at this;cases this
     ·simp[Array.getElem?_eq_none au]at this
    ·exact h4) h
   have ah:pre++post=ord.filter (fun j=> !(listed.setIfInBounds i true).getD j true):=by
    have bD:i<listed.size:=by
     rw[hsz];exact(Array.getElem?_eq_some_iff.1 ho).1
    rw[ap,List.filter_append,List.filter_cons]
    have e1:(listed.setIfInBounds i true).getD i true=true:=by simp[bD]
    rw[e1,AK n1,AK n3]
    simp only[Bool.not_true,Bool.false_eq_true,if_false,List.filter_append,aY,bE]
    rw[List.filter_eq_nil_iff.2 (fun x hx=>by simpa using bw x hx),List.append_nil]
   have hlen:(pre++post).length=m:=by simp at hl⊢; omega
   obtain⟨o2,bc,hh⟩:=aE
   obtain rfl:o2=o':=by rw[ho]at bc;cases bc;rfl
   unfold wpOpIn
   simp only[ho]
   rcases hh with⟨d,hy,hM⟩|⟨_,hE⟩
   ·have bQ:Calm P n ops N S0 γ o2 d:=hy.base (by split;exact Sub.refl _;exact fun _ _ h=>by cases h)
    exact F6 hN (hr.mono hg) hg hs hC bQ fun g' w' a' aD ai=>ih _ _ _ _ _ hlen (by simpa using hsz) ah (aq.set hi) hM hC g' w' a' (hg.trans aD) ai
   ·exact CU (hr.mono hg) hg hs hE (fun g' w' a' d U' aD hR ai=>by obtain⟨U1,h3,_,h4⟩:=hR;exact ih _ _ _ _ _ hlen (by simpa using hsz) ah (aq.set hi) h4 h3 g' w' a' (hg.trans aD) ai) fun d U' hp=>hp
def KA(ops:List Oper)(E C K:List Nat):List Nat->Option (List (Bool×Bool×Bool×Oper))
 |[]=>some []
 | i::r=>match nthO ops i with
  |some o=>match KA ops E C K r with
   |some l=>some ((E.contains i,C.contains i,K.contains i,o)::l)
   |none=>none
  |none=>none
theorem EN{lo:List Oper}: ∀{ord:List Nat}{lp:List (Bool×Bool×Bool×Oper)}{S0:Sig}{γ:Fr}{O:Sig},KA lo E C K ord=some lp->MO4 P ro n lo.toArray N Q df lp S0 γ O->MOps4 P ro n lo.toArray N Q df E C K ord S0 γ O
 |[],_,_,_,_,hp,h=>by cases hp;exact h
 |i::r,lp,S0,γ,O,hp,h=>by
  simp only[KA]at hp
  split at hp<;>(try (cases hp;done))
  rename_i o ho
  split at hp<;>(try (cases hp;done))
  rename_i l hl
  cases hp
  refine⟨o,by rw[GV]at ho;simpa using ho,?_⟩
  rcases h with⟨d,h2,h3⟩|⟨h1,h2⟩
  ·exact .inl ⟨d,h2,EN hl h3⟩
  ·exact .inr ⟨h1,h2.congr (fun _ _=>rfl) fun d U' ⟨U1,h3,h5,h4⟩=>⟨U1,h3,h5,EN hl h4⟩⟩
theorem Vb(hN:P.funcs.size=N)(hm:P.follows .mixedOrders=true){l:List Oper}{id:Nat}{γ:Fr}{O:Sig}(ord E C K:List Nat)(S0:Sig)(hB:D5 l.toArray E C K ord=true)(hC:Sub S0 O)
  {lp:List (Bool×Bool×Bool×Oper)} (bx:KA l E C K ord=some lp) (h0:MO4 P ro n l.toArray N Q df lp S0 γ O):DWp P ro n (.region id l.toArray true) Q ⟨γ,O,df⟩:=by
 intro g w a r hr hs
 refine wpIn_region_any hm ?_
 have aq:Closed l.toArray (Array.replicate l.toArray.size false):=by
  intro q o _ hq
  rcases Nat.lt_or_ge q l.length with h'|h'
  ·simp[h']at hq
  ·simp[h']at hq
 have ai:SimS P g n ⟨γ,O,df⟩ a { w with drawn:=w.drawn+1 }:=
  ⟨⟨fun b o v h=>hs.sim.imm b o v h,hs.sim.keep,fun i o h=>by
   have:=hs.sim.obj i o h
   cases o<;>exact this,hs.sim.inj,hs.sim.free,hs.sim.htop,hs.sim.hdom,hs.sim.fin,hs.sim.io,hs.sim.tab⟩,hs.tmps,hs.df⟩
 have au:∀i∈ord,i<l.toArray.size:=by
  intro i hi
  obtain⟨p1,p2,hp⟩:=List.append_of_mem hi
  have ar:=hB
  unfold D5 at ar
  simp only[Bool.and_eq_true]at ar
  rw[hp]at ar
  obtain⟨_,_,_,o',aH,_⟩:=Db p1 [] ar.1.1
  exact(Array.getElem?_eq_some_iff.1 aH).1
 have hlen:ord.length=l.toArray.size:=by
  have ar:=hB
  unfold D5 at ar
  simp only[Bool.and_eq_true,beq_iff_eq]at ar
  exact ar.2
 have:=QE hN hB hr ord.length ord (Array.replicate l.toArray.size false) S0 γ O rfl (by simp) (Do au).symm aq (EN bx h0) hC g _ a (.refl g) ai
 rw[hlen]at this
 exact this
theorem Uh(ht:AZ P tab){e c k:Bool}{t:Nat}{op:Op}{ty:TypeId}{pos:String}{after:Array Edge}{d:D}{l:List (Bool×Bool×Bool×Oper)}{γ Sr:Fr}{O:Sig}(hr:Dl op=true)(aJ:decide (t<n)=true)(hl:A0 γ (A5 op.operands.toList)=some Sr)(hd:dopX tab Sr (if c=true then S0 else fun _=>none) op=some d)
  (h:MO4 P ro n ops N Q df l S0 ((t,d)::γ) O):MO4 P ro n ops N Q df ((e,c,k,⟨some t,op,ty,pos,after,none⟩)::l) S0 γ O:=by
 have bi:=(BC (Cj hl)) ▸ hd
 refine .inl ⟨d,⟨aJ,.inl ⟨by rw[Af];rfl,C9 hr,J9 ht bi,fun U' hU g w a hs hT=>?_⟩⟩,h⟩
 refine F3 ht hs hT (?_:dopX tab (only _ γ) U' op=some d)
 rw[BC (V':=γ) fun x hx=>Bl (o:=⟨some t,op,ty,pos,after,none⟩) hx]
 exact F4 hU bi
theorem mo4_eff(ht:AZ P tab){c k:Bool}{o:Oper}{d:D}{U':Sig}{l:List (Bool×Bool×Bool×Oper)}{γ:Fr}{O:Sig}(U1:Sig)(ho:Ar n o=true)(hw:Ay ops γ o=some true)(he:eopD tab γ O o.op=some (d,U'))(hC:Sub U1 U')(hk:k=false->U1=S0)
  (h:MO4 P ro n ops N Q df l U1 (putD o.dst d γ) U'):MO4 P ro n ops N Q df ((true,c,k,o)::l) S0 γ O:=by
 refine .inr ⟨rfl,ho,by rw[Af];exact hw,?_⟩
 refine Fk ht (by rw[Af];exact hw) (by rw[Bp (V':=γ) fun x hx=>Bl hx];exact he) ho (Au ⟨rfl,?_⟩)
 cases hd:o.dst with
 |none=>rw[hd]at h;exact⟨U1,hC,hk,h⟩
 |some t=>
  rw[hd]at h
  simp only[putD,A4,if_true]
  exact⟨U1,hC,hk,h⟩
end
end Go.DL
