/- What functions of the program come to, and what that says in plain words: part 2. -/
import Derived.Test.YtkpedbhebddkdaaGreatDoorMa
import Derived.Test.YtkpedbhebddkdaaGreatDoorTXh
import Derived.Test.YtkpedbhebddkdaaGreatDoorProg
set_option linter.unusedSimpArgs false
set_option linter.unusedVariables false
open Bool renaming and_eq_true → q9
open Int renaming toNat_natCast → z6
open List renaming length_singleton → z9
open List renaming length_append → j6
open List renaming length_take → j7
open List renaming mem_append → j8
open List renaming map_cons → j9
open List renaming length_cons → k7
open List renaming length_nil → k8
open Bool renaming or_true → k9
open Bool renaming cond_self → v5
open List renaming getElem?_eq_some_iff → v6
open Int renaming toNat → v7
open List renaming length → v8
open Option renaming getD → v9
open Go.IntKind renaming wrap → qqq
open List renaming replicate → qqw
open List renaming eq_of_mem_replicate → qqz
open List renaming mem_singleton → qqj
namespace Go.SX
open Go.Proofs Go.Proofs.Tryz
set_option maxRecDepth 100000
theorem Tw:(∀ m:Nat,leI 0 (m:Int)=true)∧leI 0 (-1)=false:=⟨fun m=>cG (by omega),rfl⟩
theorem VI{α:Type}(l:List α)(p:α→Bool):(l.any fun k=> !p k)= !l.all p:=by simp [List.all_eq_not_any_not]
def gG(b:arp×(ajd)):(Unit)→Nat ⊕ (Unit)
 |_=>(bif(cP b.2)then(.inl 0)else(.inr ()))
def dc(a:agS)(i:Nat):(Unit)→bP
 |_=>((i:Int),(↑a.length:Int),a)
def sq:bP→Unit
 |(_,_,_)=>()
theorem MB(c:agS) (hn:c.length≤9223372036854775807):
  aF.fin ((0:Int),(↑c.length:Int),c)=true∧aF.res ((0:Int),(↑c.length:Int),c)=((bH (gG) 1 c 0 ()).1,(dc c) (bH (gG) 1 c 0 ()).2.1 (bH (gG) 1 c 0 ()).2.2):=by
 have qa:=aF.along (dc c) sq (gG) 1 (fun _ _=>True) c () (by trivial) (by simp only [aF,dc];omega) (fun i b a hb hI=> ?_) (fun a hI=> ?_)
 ·exact qa
 ·obtain⟨⟩:=a
  have iX:=(v6.1 hb).1
  have pI: ∀ d,v9 c[i]? d=b:=fun d=>by rw [hb];rfl
  have hw:=AV iX hn
  have lR:ltI (i:Int) (c.length:Int)=true:=ew (by omega)
  have Nl:leI (0:Int) (i:Int)=true:=cG (by omega)
  have wO:ltN i c.length=true:=gM iX
  refine⟨?_,?_,?_,?_⟩
  ·simp only [kx,nV,nW,nX,jT,aF,LT.nds,allT,dc,lR,Nl,wO,z6,cond_true,Bool.and_self]
   cases gL (i:Int) c <;> simp [LT.nds]
  ·simp [kx,nV,nW,nX,gL,tD,jT,aF,LT.each,dc,sq,hw]
  ·have hg2:gL (i:Int) c=cP b.2:=by
    simp only [gL,z6];exact congrArg (fun z:LN=>cP z.2) (pI _)
   simp only [kx,jT,aF,LT.fn,dc,sq,gG,lR,hg2,cond_true]
  ·exact fun _ _=>trivial
 ·obtain⟨⟩:=a
  simp [kx,nV,nW,nX,gL,tD,jT,aF,LT.out,dc]
theorem apg(ins vs os:List arp)(ls:List LN)(hn:ls.length≤1048576):
  le ins vs os ls=(leN ins.length 20&&(leN vs.length 20&&(leN os.length 20&&(leN ls.length 40&&ls.all fun l=>leN l.2.length 40))))∧lg ins vs os ls=true:=by
 obtain⟨w1,w2⟩:=MB ls (by omega)
 have hc: ∀ (k:Nat) (m:Nat),leI (m:Int) (k:Int)=leN m k:=fun k m=>by rw [Bool.eq_iff_iff,FN,iC];omega
 have hc20: ∀ m:Nat,leI (m:Int) 20=leN m 20:=fun m=>hc 20 m
 have hc40: ∀ m:Nat,leI (m:Int) 40=leN m 40:=fun m=>hc 40 m
 rw [oq (P:=fun k=> !leN k.2.length 40) (j:=0) (fun k=>by
  simp only [gG,cP]
  have:ltI 40 (k.2.length:Int)= !leN k.2.length 40:=by rw [VW,hc40]
  rw [this]),VI]at w2
 simp only [le,lg,pM,tw,tx,vQ,vR,pJ,w1,w2,allT,dc,hc20,hc40,k9,cond_true]
 refine⟨?_,trivial⟩
 generalize (ls.all fun k=>leN k.2.length 40)=q
 cases leN ins.length 20 <;> cases leN vs.length 20 <;> cases leN os.length 20 <;> cases leN ls.length 40 <;> cases q <;> simp [Nat.beq,Tw.1,Tw.2]
def gH(b:arp×(ajd)):(Unit)→Nat ⊕ (Unit)
 |_=>(bif(zx b.1 b.2)then(.inl 0)else(.inr ()))
def dd(a:agS)(i:Nat):(Unit)→bQ
 |_=>((i:Int),(↑a.length:Int),a)
def sr:bQ→Unit
 |(_,_,_)=>()
theorem MC(c:agS) (hn:c.length≤9223372036854775807) (hA: ∀ l∈c,TL l.2=true):
  aG.fin ((0:Int),(↑c.length:Int),c)=true∧aG.res ((0:Int),(↑c.length:Int),c)=((bH (gH) 1 c 0 ()).1,(dd c) (bH (gH) 1 c 0 ()).2.1 (bH (gH) 1 c 0 ()).2.2):=by
 have qa:=aG.along (dd c) sr (gH) 1 (fun _ _=>True) c () (by trivial) (by simp only [aG,dd];omega) (fun i b a hb hI=> ?_) (fun a hI=> ?_)
 ·exact qa
 ·obtain⟨⟩:=a
  have iX:=(v6.1 hb).1
  have pI: ∀ d,v9 c[i]? d=b:=fun d=>by rw [hb];rfl
  have hw:=AV iX hn
  have lR:ltI (i:Int) (c.length:Int)=true:=ew (by omega)
  have Nl:leI (0:Int) (i:Int)=true:=cG (by omega)
  have wO:ltN i c.length=true:=gM iX
  refine⟨?_,?_,?_,?_⟩
  ·have hg2:cp (i:Int) c=b:=by simp only [cp,z6];exact pI _
   have hm:=hA b (List.mem_of_getElem? hb)
   have h4:kz (i:Int) c=true:=by simp only [kz,hg2,Fa,hm,allT,cond_true]
   simp only [ky,nY,nZ,oa,jU,aG,LT.nds,allT,dd,h4,lR,Nl,wO,z6,cond_true,Bool.and_self]
   cases kA (i:Int) c <;> simp [LT.nds]
  ·simp [cp,ky,nY,nZ,oa,kz,kA,tE,jU,aG,LT.each,dd,sr,hw]
  ·have hg2:cp (i:Int) c=b:=by simp only [cp,z6];exact pI _
   simp only [ky,kA,jU,aG,LT.fn,dd,sr,gH,lR,hg2,cond_true]
  ·exact fun _ _=>trivial
 ·obtain⟨⟩:=a
  simp [cp,ky,nY,nZ,oa,kz,kA,tE,jU,aG,LT.out,dd]
theorem abo(nm:arp)(ins vs os:List arp)(g:arp)(ls:List LN)(h:PK nm ins vs os g ls=true):
  yT nm g ins vs os ls=abW nm ins vs os g ls∧Gm nm g ins vs os ls=true:=by
 obtain⟨h1,h2,h3,h4,h5,h6,h7⟩:=LB.1 h
 obtain⟨hn,hA⟩:=Ma.1 h7
 obtain⟨w1,w2⟩:=MC ls (by omega) (fun l hl=>(hA l hl).2)
 rw [oq (P:=fun k=> !lineB k) (j:=0) (fun k=>by simp only [gH,zx]),VI]at w2
 obtain⟨s1,s2⟩:=apg ins vs os ls hn
 have t1:Fq [ins,vs,os]≤2000000:=by simp [Fq];omega
 have t2: [ins,vs,os].flatten.length≤2000000:=by simp;omega
 have hfl: [ins,vs,os].flatten.all jP=(ins.all jP&&(vs.all jP&&os.all jP)):=by simp [List.all_append,Bool.and_assoc]
 have hcont:nR ls= !ls.all lineB∧nS ls=true:=by
  simp only [nR,nS,vS,vT,pK,w1,w2,allT,dd]
  cases ls.all lineB <;> simp [Nat.beq,Tw.1,Tw.2]
 refine⟨?_,?_⟩
 ·have hz: ∀ m k:Nat,inR (m:Int) 1 (k:Int)=(ltI 0 (m:Int)&&leN m k):=fun m k=>by
   rw [Bool.eq_iff_iff,Es,q9,TU,iC];omega
  have hz0: ∀ m k:Nat,inR (m:Int) ((0:Nat):Int) (k:Int)=leN m k:=fun m k=>by
   rw [Bool.eq_iff_iff,Es,iC];omega
  have c1:inR (ins.length:Int) ((1:Nat):Int) 20=(ltI 0 (ins.length:Int)&&leN ins.length 20):=hz _ 20
  have c2:inR (os.length:Int) ((1:Nat):Int) 20=(ltI 0 (os.length:Int)&&leN os.length 20):=hz _ 20
  have c3:inR (ls.length:Int) 1 40=(ltI 0 (ls.length:Int)&&leN ls.length 40):=hz _ 40
  have c4:inR (vs.length:Int) ((0:Nat):Int) 20=leN vs.length 20:=hz0 _ 20
  have hl40:ls.all lineB=true→(ls.all fun l=>leN l.2.length 40)=true:=fun hl=>by
   rw [List.all_eq_true]at hl ⊢
   intro l hm
   exact bK (VV (hl l hm)).2.1
  simp only [yT,Ek,Kj,Pp,Pq,RF,s1,hcont.1,Rb,abW,Xa,c1,c2,c3,c4]
  cases hq:ls.all lineB with
  |false=>simp
  |true=>
   rw [hl40 hq]
   cases jP nm with
   |false=>simp
   |true=>
    simp only [Bool.and_true,cond_true,hfl]
    generalize ins.all jP=p2
    generalize vs.all jP=p4
    generalize os.all jP=p6
    generalize (g.toList== [])=p8
    generalize jP g=p9
    generalize ltI 0 (ins.length:Int)=r1
    generalize ltI 0 (os.length:Int)=r2
    generalize ltI 0 (ls.length:Int)=r3
    generalize leN ins.length 20=r4
    generalize leN vs.length 20=r5
    generalize leN os.length 20=r6
    generalize leN ls.length 40=r7
    cases p2 <;> simp <;> cases p4 <;> simp <;> cases p6 <;> simp <;> cases r1 <;> simp <;> cases r2 <;> simp <;> cases r3 <;> simp <;> cases r4 <;> simp <;> cases r5 <;> simp <;> cases r6 <;> simp <;> cases r7 <;> simp <;> cases p8 <;> simp
 ·simp only [Gm,Ek,Kj,s2,hcont.2,RF,allT,k9,cond_true]
  cases jP nm with
  |false=>simp
  |true=>
   have t4:leN [ins,vs,os].flatten.length 9223372036854775807=true:=bK (by omega)
   have t5:leN (Fq [ins,vs,os]) 2000000=true:=bK t1
   have t6:leN [ins,vs,os].length 1000=true:=rfl
   simp only [Bool.and_true,cond_true,t4,t5,t6,Bool.and_self,k9]
theorem aoG(l:List arp)(s:arp):ltI (gh l s) 0= !hasS l s:=by rw [VW,WK]
theorem agE(s:arp)(ins vs:List arp)(h1:leN ins.length 9223372036854775807=true)(h2:leN vs.length 9223372036854775807=true):
  sY s ins vs=PN ins vs s∧Dp s ins vs=true:=by
 simp only [sY,Dp,WK,h1,h2,PN,allT,k9,cond_true,and_true]
 cases hasS ins s <;> rfl
def madeB(vs os:List arp)(l:LN):Bool:=hasS vs l.1||hasS os l.1
def nM(c d:List arp)(b:arp×(ajd)):(List arp)→Nat ⊕ (List arp)
 |a=>(bif(bif ltI (gh c b.1) 0 then ltI (gh d b.1) 0 else false)then(.inl 0)else(.inr (a++ [b.1])))
def ri(a b:arp)(d e f:List arp)(g:agS)(i:Nat):(List arp)→nJ
 |c=>((i:Int),a,b,c,d,e,f,g)
def MR:nJ→List arp
 |(_,_,_,a,_,_,_,_)=>a
theorem aeo(c e:arp)(g j k:List arp)(l:agS)(f:List arp)(hn:l.length≤9223372036854775807)(hv:leN j.length 9223372036854775807=true)(ho:leN k.length 9223372036854775807=true)(hN:l.length≤1048576)(h3:f.length=0):
  ec.fin ((0:Int),c,e,f,g,j,k,l)=true∧ec.res ((0:Int),c,e,f,g,j,k,l)=((bH (nM j k) 1 l 0 f).1,(ri c e g j k l) (bH (nM j k) 1 l 0 f).2.1 (bH (nM j k) 1 l 0 f).2.2):=by
 have qa:=ec.along (ri c e g j k l) MR (nM j k) 1 (fun i a=>a.length=i) l f h3 (by simp only [ec,ri];omega) (fun i b a hb hI=> ?_) (fun a hI=> ?_)
 ·exact qa
 ·obtain f:=a
  have iX:=(v6.1 hb).1
  have pI: ∀ d,v9 l[i]? d=b:=fun d=>by rw [hb];rfl
  have hw:=AV iX hn
  have lR:ltI (i:Int) (l.length:Int)=true:=ew (by omega)
  have Nl:leI (0:Int) (i:Int)=true:=cG (by omega)
  have wO:ltN i l.length=true:=gM iX
  refine⟨?_,?_,?_,?_⟩
  ·have hg2:jF (i:Int) l=b.1:=by simp only [jF,z6];exact congrArg Prod.fst (pI _)
   have l1: ∀ s:arp,leN (a.length + v8 [s]) 9223372036854775807=true:=fun s=>bK (by rw [z9];omega)
   have l2: ∀ s:arp,leN ((a.length + v8 [s]) * 16) 140737488355328=true:=fun s=>bK (by rw [z9];omega)
   simp only [zi,Db,Dc,Dd,De,Df,Dg,Dh,Di,Dj,Bf,ec,LT.nds,allT,ri,lR,Nl,wO,hg2,hv,ho,l1,l2,z6,cond_true,k9,Bool.and_self]
   generalize (bif ltI (gh j b.1) 0 then ltI (gh k b.1) 0 else false)=q
   cases q <;> simp [LT.nds]
  ·simp [jF,zi,Db,Dc,Dd,De,Df,Dg,Dh,Di,Dj,Bf,ec,LT.each,ri,MR,hw]
  ·have hg2:jF (i:Int) l=b.1:=by simp only [jF,z6];exact congrArg Prod.fst (pI _)
   simp only [zi,Db,Dc,Dd,De,Df,Dg,Dh,Di,Dj,Bf,ec,LT.fn,ri,MR,nM,lR,hg2,cond_true]
  ·intro a' hf
   simp only [nM]at hf
   revert hf
   generalize (bif ltI (gh j b.1) 0 then ltI (gh k b.1) 0 else false)=q
   cases q with
   |true=>intro hf;cases hf
   |false=>intro hf;simp only [cond_false,Sum.inr.injEq]at hf;subst hf;simp [hI]
 ·obtain f:=a
  simp [jF,zi,Db,Dc,Dd,De,Df,Dg,Dh,Di,Dj,Bf,ec,LT.out,ri]
theorem afl(vs os:List arp): ∀ (ls:List LN) (i:Nat) (acc:List arp),(bH (nM vs os) 1 ls i acc).1=(bif !ls.all (madeB vs os)then 0 else 1)∧
  (ls.all (madeB vs os)=true→(bH (nM vs os) 1 ls i acc).2.2=acc++ls.map Prod.fst)
 | [],i,acc=>by simp [bH]
 |l::r,i,acc=>by
  have hf:nM vs os l acc=bif madeB vs os l then .inr (acc++ [l.1])else .inl 0:=by
   simp only [nM,aoG,madeB]
   cases hasS vs l.1 <;> cases hasS os l.1 <;> rfl
  obtain⟨h1,h2⟩:=afl vs os r (i + 1) (acc++ [l.1])
  simp only [bH,hf,List.all_cons]
  cases hm:madeB vs os l with
  |false=>simp
  |true=>
   simp only [cond_true,Bool.true_and]
   refine⟨h1,fun h=> ?_⟩
   rw [h2 h];simp
theorem amJ(k:Nat)(u v:arp)(ins vs os:List arp)(ls:List LN)(l:LN)(hl:ls[k]? =some l)(hn:l.2.length≤1048576)(h1:leN ins.length 9223372036854775807=true)(h2:leN vs.length 9223372036854775807=true):
  eu.fin ((0:Int),(k:Int),u,v,ins,vs,os,ls)=true∧(eu.res ((0:Int),(k:Int),u,v,ins,vs,os,ls)).1=bif !l.2.all (usedB ins vs)then 0 else 1:=by
 have hkl:=(v6.1 hl).1
 have hgl: ∀ d,v9 ls[k]? d=l:=fun d=>by rw [hl];rfl
 have ha2:xJ (k:Int) ls=l.2:=by simp only [xJ,z6];exact congrArg Prod.snd (hgl _)
 have c0:Kd (k:Int)=true:=cG (by omega)
 have c1:Ke (k:Int) ls=true:=ew (by omega)
 have c2:DH (k:Int) ls=true:=by simp only [DH,z6];exact gM hkl
 have qa:=eu.along2 (fun i (_:Unit)=>((i:Int),(k:Int),u,v,ins,vs,os,ls)) (fun _=>()) (fun(b:TM) (_:Unit)=>bif !usedB ins vs b then .inl 0 else .inr ()) 1 (fun _ _=>True) l.2 () trivial (by omega)
  (fun i b a hb hI=> ?_) (fun a hI=> ?_)
 ·rw [oq (P:=fun b=> !usedB ins vs b) (j:=0) (fun b=>rfl),VI]at qa
  exact⟨qa.1,by rw [show ((0:Int),(k:Int),u,v,ins,vs,os,ls)=(((0:Nat):Int),(k:Int),u,v,ins,vs,os,ls) from rfl,qa.2]⟩
 ·have iX:=(v6.1 hb).1
  have hw:IntKind.i64.wrap ((i:Int) + 1)=((i + 1:Nat):Int):=by rw [be (by omega) (by omega)];omega
  have Nl:leI (0:Int) (i:Int)=true:=cG (by omega)
  have hg2:xK (i:Int) (k:Int) ls=b:=by simp only [xK,ha2,z6,hb,Option.getD_some]
  have hg3:vi (i:Int) (k:Int) ls=true:=by simp only [vi,ha2];exact ew (by omega)
  have c4:QM (i:Int)=true:=Nl
  have c5:Kf (i:Int) (k:Int) ls=true:=by simp only [Kf,ha2,z6];exact gM iX
  obtain⟨r1,r2⟩:=agE b.2.1 ins vs h1 h2
  have c6:Kg (i:Int) (k:Int) ins vs ls=true:=by simp only [Kg,hg2,r2,k9]
  have c7:Kh (i:Int) (k:Int) ins vs ls= !usedB ins vs b:=by
   simp only [Kh,Iu,hg2,r1,usedB]
   cases b.1==1 <;> simp
  have c8:QN (i:Int)=((i + 1:Nat):Int):=hw
  refine⟨?_,?_,?_,fun _ _=>trivial⟩
  ·simp only [eu,xk,LT.nds,allT,c0,c1,c2,c4,c5,c6,c7,hg3,cond_true,Bool.and_self]
   cases usedB ins vs b <;> simp [LT.nds]
  ·simp only [eu,xk,LT.each,c7,c8,hg3]
   cases usedB ins vs b <;> simp [LT.each]
  ·simp only [eu,xk,LT.fn,c7,hg3,cond_true]
 ·have lR:vi (l.2.length:Int) (k:Int) ls=false:=by simp only [vi,ha2];exact CE (by omega)
  simp [eu,xk,LT.out,allT,c0,c1,c2,lR]
theorem apm(u v:arp)(ins vs os:List arp)(ls:List LN)(hN:ls.length≤1048576)(hL: ∀ l∈ls,l.2.length≤1048576)(h1:leN ins.length 9223372036854775807=true)(h2:leN vs.length 9223372036854775807=true):
  eS.fin ((0:Int),u,v,ins,vs,os,ls)=true∧(eS.res ((0:Int),u,v,ins,vs,os,ls)).1=bif !ls.all (fun l=>l.2.all (usedB ins vs))then 0 else 1:=by
 have qa:=eS.along2 (fun i (_:Unit)=>((i:Int),u,v,ins,vs,os,ls)) (fun _=>()) (fun(b:LN) (_:Unit)=>bif !b.2.all (usedB ins vs)then .inl 0 else .inr ()) 1 (fun _ _=>True) ls () trivial (by omega)
  (fun i b a hb hI=> ?_) (fun a hI=> ?_)
 ·rw [oq (P:=fun b:LN=> !b.2.all (usedB ins vs)) (j:=0) (fun b=>rfl),VI]at qa
  exact⟨qa.1,by rw [show ((0:Int),u,v,ins,vs,os,ls)=(((0:Nat):Int),u,v,ins,vs,os,ls) from rfl,qa.2]⟩
 ·have iX:=(v6.1 hb).1
  have hw:IntKind.i64.wrap ((i:Int) + 1)=((i + 1:Nat):Int):=by rw [be (by omega) (by omega)];omega
  obtain⟨k1,k2⟩:=amJ i u v ins vs os ls b hb (hL b (List.mem_of_getElem? hb)) h1 h2
  have c0:Oy (i:Int) ls=true:=ew (by omega)
  have c1:Vg (i:Int) u v ins vs os ls=true:=k1
  have c2:Oz (i:Int) u v ins vs os ls= !b.2.all (usedB ins vs):=by
   simp only [Oz,Nk,k2]
   cases b.2.all (usedB ins vs) <;> rfl
  have c3:Vh (i:Int)=((i + 1:Nat):Int):=hw
  refine⟨?_,?_,?_,fun _ _=>trivial⟩
  ·simp only [eS,Bg,LT.nds,allT,c0,c1,c2,cond_true]
   cases b.2.all (usedB ins vs) <;> simp [LT.nds]
  ·simp only [eS,Bg,LT.each,c0,c2,c3]
   cases b.2.all (usedB ins vs) <;> simp [LT.each]
  ·simp only [eS,Bg,LT.fn,c0,c2,cond_true]
 ·have lR:Oy (ls.length:Int) ls=false:=CE (by omega)
  simp [eS,Bg,LT.out,lR]
theorem akh(nm:arp)(ins vs os:List arp)(g:arp)(ls:List LN)(h:PK nm ins vs os g ls=true):
  (NY nm g ins vs os ls==0)=aix ins vs os g ls∧NZ nm g ins vs os ls=true:=by
 obtain⟨h1,h2,h3,h4,h5,h6,h7⟩:=LB.1 h
 obtain⟨hn,hA⟩:=Ma.1 h7
 have hL: ∀ l∈ls,l.2.length≤1048576:=fun l hl=>(MA.1 (hA l hl).2).1
 obtain⟨l1,l2,l3⟩:=ak7 h2 h3 h4
 obtain⟨w1,w2⟩:=aeo nm g ins vs os ls [] (by omega) l2 l3 hn rfl
 obtain⟨t1,t2⟩:=afl vs os ls 0 []
 obtain⟨u1,u2⟩:=apm nm g ins vs os ls hn hL l1 l2
 obtain⟨r1,r2⟩:=agE g ins vs l1 l2
 have a4:GY nm g ins vs os ls= !ls.all (madeB vs os):=by
  simp only [GY,BR,Mw,w2,t1]
  cases ls.all (madeB vs os) <;> rfl
 have a5:ls.all (madeB vs os)=true→BT nm g ins vs os ls=ls.map Prod.fst:=fun hm=>by
  simp only [BT,BR,Mw,w2,ri]
  rw [t2 hm];rfl
 have a6:ls.all (madeB vs os)=true→Mx nm g ins vs os ls= !leN (vs.length + os.length) ls.length:=fun hm=>by
  simp only [Mx,a5 hm,List.length_map]
  rw [be (by omega) (by omega),Bool.eq_iff_iff,TU,Bool.not_eq_true',← Bool.not_eq_true,iC]
  omega
 have e7:(Lp.res eS (My nm g ins vs os ls)).1=bif !ls.all (fun l=>l.2.all (usedB ins vs))then 0 else 1:=u2
 have e8:Lp.fin eS (My nm g ins vs os ls)=true:=u1
 have hnil:(g.toList==ByteArray.toList { data:= #[] })=(g.toList== []):=by rw [Rb]
 refine⟨?_,?_⟩
 ·simp only [NY,wN,zh,hnil,r1,a4,e7,aix]
  cases hm:ls.all (madeB vs os)with
  |false=>
   have hm2:(ls.all fun l=>hasS vs l.1||hasS os l.1)=false:=hm
   rw [hm2]
   generalize oH (ins++vs++os)=p1
   generalize (g.toList== [])=p2
   generalize PN ins vs g=p3
   cases p1 <;> cases p2 <;> cases p3 <;> rfl
  |true=>
   have hm2:(ls.all fun l=>hasS vs l.1||hasS os l.1)=true:=hm
   rw [hm2,a5 hm,a6 hm]
   generalize oH (ins++vs++os)=p1
   generalize (g.toList== [])=p2
   generalize PN ins vs g=p3
   generalize oH (ls.map Prod.fst)=p4
   generalize leN (vs.length + os.length) ls.length=p5
   generalize (ls.all fun l=>l.2.all (usedB ins vs))=p6
   cases p1 <;> cases p2 <;> cases p3 <;> cases p4 <;> cases p5 <;> cases p6 <;> rfl
 ·have f1:leN (ins.length + vs.length + os.length) 2000000=true:=bK h6
  have f2:leN (ins++vs++os).length 9223372036854775807=true:=bK (by simp;omega)
  have f3:Lp.fin ec (BR nm g ins vs os ls)=true:=w1
  simp only [NZ,wN,zh,f1,f2,f3,r2,a4,e8,allT,k9,cond_true]
  cases hm:ls.all (madeB vs os)with
  |false=>simp
  |true=>
   have f4:leN (ls.map Prod.fst).length 9223372036854775807=true:=bK (by rw [List.length_map];omega)
   rw [a5 hm,f4]
   simp
def cX(b:arp×(ajd)):(List arp)→Nat ⊕ (List arp)
 |a=>(.inr (a++([b.1])))
def bZ(a:agS)(i:Nat):(List arp)→bf
 |b=>((i:Int),(↑a.length:Int),a,b)
def pw:bf→List arp
 |(_,_,_,a)=>a
theorem Hl(c:agS)(e:List arp)(hn:c.length≤9223372036854775807)(hN:c.length≤1048576)(h3:e.length=0):
  ap.fin ((0:Int),(↑c.length:Int),c,e)=true∧ap.res ((0:Int),(↑c.length:Int),c,e)=((bH (cX) 0 c 0 e).1,(bZ c) (bH (cX) 0 c 0 e).2.1 (bH (cX) 0 c 0 e).2.2):=by
 have qa:=ap.along (bZ c) pw (cX) 0 (fun i a=>a.length=i) c e h3 (by simp only [ap,bZ];omega) (fun i b a hb hI=> ?_) (fun a hI=> ?_)
 ·exact qa
 ·obtain e:=a
  have iX:=(v6.1 hb).1
  have pI: ∀ d,v9 c[i]? d=b:=fun d=>by rw [hb];rfl
  have hw:=AV iX hn
  have lR:ltI (i:Int) (c.length:Int)=true:=ew (by omega)
  have Nl:leI (0:Int) (i:Int)=true:=cG (by omega)
  have wO:ltN i c.length=true:=gM iX
  refine⟨?_,?_,?_,?_⟩
  ·have hg2:bx (i:Int) c= [b.1]:=by simp only [bx,z6];exact congrArg (fun z:LN=> [z.1]) (pI _)
   have l1: ∀ s:arp,leN (a.length + v8 [s]) 9223372036854775807=true:=fun s=>bK (by rw [z9];omega)
   have l2: ∀ s:arp,leN ((a.length + v8 [s]) * 16) 140737488355328=true:=fun s=>bK (by rw [z9];omega)
   simp only [gq,gr,gt,gu,gv,gw,gx,gy,gc,ap,LT.nds,allT,bZ,lR,Nl,wO,hg2,l1,l2,z6,cond_true,Bool.and_self]
  ·simp [bx,gq,gr,gt,gu,gv,gw,gx,gy,gc,ap,LT.each,bZ,pw,hw]
  ·have hg2:bx (i:Int) c= [b.1]:=by simp only [bx,z6];exact congrArg (fun z:LN=> [z.1]) (pI _)
   simp only [gq,gr,gt,gu,gv,gw,gx,gy,gc,ap,LT.fn,bZ,pw,cX,lR,hg2,cond_true]
  ·intro a' hf
   simp only [cX,Sum.inr.injEq]at hf
   subst hf;simp [hI]
 ·obtain e:=a
  simp [bx,gq,gr,gt,gu,gv,gw,gx,gy,gc,ap,LT.out,bZ]
theorem akN: ∀ (ls:List LN) (acc:List arp),ls.foldl (fun a l=>a++ [l.1]) acc=acc++ls.map Prod.fst
 | [],acc=>by simp
 |l::r,acc=>by rw [List.foldl_cons,akN r];simp
def iD(a:List arp)(b:arp):(Unit)→Nat ⊕ (Unit)
 |_=>(bif(mL b a)then(.inl 0)else(.inr ()))
def ct(a b:List arp)(i:Nat):(Unit)→bt
 |_=>((i:Int),(↑a.length:Int),a,b)
def qj:bt→Unit
 |(_,_,_,_)=>()
theorem IU(c e:List arp) (hn:c.length≤9223372036854775807) (hm:leN e.length 9223372036854775807=true):
  al.fin ((0:Int),(↑c.length:Int),c,e)=true∧al.res ((0:Int),(↑c.length:Int),c,e)=((bH (iD e) 1 c 0 ()).1,(ct c e) (bH (iD e) 1 c 0 ()).2.1 (bH (iD e) 1 c 0 ()).2.2):=by
 have qa:=al.along (ct c e) qj (iD e) 1 (fun _ _=>True) c () (by trivial) (by simp only [al,ct];omega) (fun i b a hb hI=> ?_) (fun a hI=> ?_)
 ·exact qa
 ·obtain⟨⟩:=a
  have iX:=(v6.1 hb).1
  have pI: ∀ d,v9 c[i]? d=b:=fun d=>by rw [hb];rfl
  have hw:=AV iX hn
  have lR:ltI (i:Int) (c.length:Int)=true:=ew (by omega)
  have Nl:leI (0:Int) (i:Int)=true:=cG (by omega)
  have wO:ltN i c.length=true:=gM iX
  refine⟨?_,?_,?_,?_⟩
  ·have h4:eQ e=true:=by simp only [eQ,mM,hm,allT,cond_true]
   simp only [iM,iN,iO,iP,ip,al,LT.nds,allT,ct,h4,lR,Nl,wO,z6,cond_true,Bool.and_self]
   cases iQ (i:Int) c e <;> simp [LT.nds]
  ·simp [iM,iN,iO,iP,eQ,iQ,lG,ip,al,LT.each,ct,qj,hw]
  ·simp only [iM,iN,iO,iP,eQ,iQ,lG,ip,al,LT.fn,ct,qj,iD,z6,lR,Nl,wO,pI,cond_true,v5]
  ·exact fun _ _=>trivial
 ·obtain⟨⟩:=a
  simp [iM,iN,iO,iP,eQ,iQ,lG,ip,al,LT.out,ct]
def iE(a:List arp)(b:arp):(Unit)→Nat ⊕ (Unit)
 |_=>(bif(mN b a)then(.inl 0)else(.inr ()))
def cu(a b:List arp)(i:Nat):(Unit)→bu
 |_=>((i:Int),(↑a.length:Int),a,b)
def qk:bu→Unit
 |(_,_,_,_)=>()
theorem IV(c e:List arp) (hn:c.length≤9223372036854775807) (hm:leN e.length 9223372036854775807=true):
  am.fin ((0:Int),(↑c.length:Int),c,e)=true∧am.res ((0:Int),(↑c.length:Int),c,e)=((bH (iE e) 1 c 0 ()).1,(cu c e) (bH (iE e) 1 c 0 ()).2.1 (bH (iE e) 1 c 0 ()).2.2):=by
 have qa:=am.along (cu c e) qk (iE e) 1 (fun _ _=>True) c () (by trivial) (by simp only [am,cu];omega) (fun i b a hb hI=> ?_) (fun a hI=> ?_)
 ·exact qa
 ·obtain⟨⟩:=a
  have iX:=(v6.1 hb).1
  have pI: ∀ d,v9 c[i]? d=b:=fun d=>by rw [hb];rfl
  have hw:=AV iX hn
  have lR:ltI (i:Int) (c.length:Int)=true:=ew (by omega)
  have Nl:leI (0:Int) (i:Int)=true:=cG (by omega)
  have wO:ltN i c.length=true:=gM iX
  refine⟨?_,?_,?_,?_⟩
  ·have h4:eR e=true:=by simp only [eR,mO,hm,allT,cond_true]
   simp only [iR,iS,iT,iU,iq,am,LT.nds,allT,cu,h4,lR,Nl,wO,z6,cond_true,Bool.and_self]
   cases iV (i:Int) c e <;> simp [LT.nds]
  ·simp [iR,iS,iT,iU,eR,iV,lH,iq,am,LT.each,cu,qk,hw]
  ·simp only [iR,iS,iT,iU,eR,iV,lH,iq,am,LT.fn,cu,qk,iE,z6,lR,Nl,wO,pI,cond_true,v5]
  ·exact fun _ _=>trivial
 ·obtain⟨⟩:=a
  simp [iR,iS,iT,iU,eR,iV,lH,iq,am,LT.out,cu]
theorem apW(a b:List arp)(ha:leN a.length 9223372036854775807=true)(hb:leN b.length 9223372036854775807=true):
  dA a b=(a.any fun s=> !hasS b s)∧cz a b=a∧lC a b=b∧lD a b=true:=by
 obtain⟨w1,w2⟩:=IU a b (iC.1 ha) hb
 rw [oq (P:=fun s=> !hasS b s) (j:=0) (fun s=>rfl)]at w2
 refine⟨?_,v5 _ _,v5 _ _,?_⟩
 ·simp only [dA,sE,jz,mI,w2,ct]
  cases (a.any fun s=> !hasS b s) <;> simp [Nat.beq,Tw.1,Tw.2]
 ·simp only [lD,sF,jz,w1,allT,cond_true]
theorem apX(a b:List arp)(ha:leN a.length 9223372036854775807=true)(hb:leN b.length 9223372036854775807=true):
  lE a b=(a.any fun s=> !hasS b s)∧yo a b=a∧yp a b=b∧lF a b=true:=by
 obtain⟨w1,w2⟩:=IV a b (iC.1 ha) hb
 rw [oq (P:=fun s=> !hasS b s) (j:=0) (fun s=>rfl)]at w2
 refine⟨?_,v5 _ _,v5 _ _,?_⟩
 ·simp only [lE,sG,jA,mJ,w2,cu]
  cases (a.any fun s=> !hasS b s) <;> simp [Nat.beq,Tw.1,Tw.2]
 ·simp only [lF,sH,jA,w1,allT,cond_true]
def gJ(a c:List arp)(b:Int×(arp×Int)):(Unit)→Nat ⊕ (Unit)
 |_=>(bif(fK b.1 (b.2.1) a c)then(.inl 0)else(.inr ()))
def df(a b:arp)(c:ajd)(d e f:List arp)(g:agS)(i:Nat):(Unit)→bS
 |_=>((i:Int),(↑c.length:Int),a,b,c,d,e,f,g)
def sv:bS→Unit
 |(_,_,_,_,_,_,_,_,_)=>()
theorem ME(c e:arp)(f:ajd)(g j k:List arp)(l:agS) (hn:f.length≤9223372036854775807) (h5:leN g.length 9223372036854775807=true) (h6:leN j.length 9223372036854775807=true):
  aI.fin ((0:Int),(↑f.length:Int),c,e,f,g,j,k,l)=true∧aI.res ((0:Int),(↑f.length:Int),c,e,f,g,j,k,l)=((bH (gJ g j) 1 f 0 ()).1,(df c e f g j k l) (bH (gJ g j) 1 f 0 ()).2.1 (bH (gJ g j) 1 f 0 ()).2.2):=by
 have qa:=aI.along (df c e f g j k l) sv (gJ g j) 1 (fun _ _=>True) f () (by trivial) (by simp only [aI,df];omega) (fun i b a hb hI=> ?_) (fun a hI=> ?_)
 ·exact qa
 ·obtain⟨⟩:=a
  have iX:=(v6.1 hb).1
  have pI: ∀ d,v9 f[i]? d=b:=fun d=>by rw [hb];rfl
  have hw:=AV iX hn
  have lR:ltI (i:Int) (f.length:Int)=true:=ew (by omega)
  have Nl:leI (0:Int) (i:Int)=true:=cG (by omega)
  have wO:ltN i f.length=true:=gM iX
  refine⟨?_,?_,?_,?_⟩
  ·have hg2:bJ (i:Int) f=b:=by simp only [bJ,z6];exact pI _
   have h4:kF (i:Int) f g j=true:=by simp only [kF,kL,h5,h6,allT,k9,cond_true]
   simp only [kE,og,oh,oi,jW,aI,LT.nds,allT,df,h4,lR,Nl,wO,z6,cond_true,Bool.and_self]
   cases kG (i:Int) f g j <;> simp [LT.nds]
  ·simp [bJ,kE,og,oh,oi,kF,kG,tG,jW,aI,LT.each,df,sv,hw]
  ·have hg2:bJ (i:Int) f=b:=by simp only [bJ,z6];exact pI _
   simp only [kE,kG,jW,aI,LT.fn,df,sv,gJ,lR,hg2,cond_true]
  ·exact fun _ _=>trivial
 ·obtain⟨⟩:=a
  simp [bJ,kE,og,oh,oi,kF,kG,tG,jW,aI,LT.out,df]
theorem aiC(u v:arp)(ins vs os:List arp)(ls:List LN)(ts:List TM)(hn:ts.length≤1048576)(h1:leN ins.length 9223372036854775807=true)(h2:leN vs.length 9223372036854775807=true):
  dX u v ins vs os ls ts= !ts.all (usedB ins vs)∧gi u v ins vs os ls ts=true:=by
 obtain⟨w1,w2⟩:=ME u v ts ins vs os ls (by omega) h1 h2
 rw [oq (P:=fun b=> !usedB ins vs b) (j:=0) (fun b=>by
  simp only [gJ,fK,kb,usedB,PN]
  cases b.1==1 <;> cases hasS ins b.2.1 <;> cases hasS vs b.2.1 <;> rfl),VI]at w2
 refine⟨?_,?_⟩
 ·simp only [dX,tz,vW,lq,pL,w2,df]
  cases ts.all (usedB ins vs) <;> simp [Nat.beq,Tw.1,Tw.2]
 ·simp only [gi,tA,vX,lq,w1,allT,cond_true]
def gI(a c:arp)(d e f:List arp)(g:agS)(b:arp×(ajd)):(Unit)→Nat ⊕ (Unit)
 |_=>(bif(dX a c d e f g b.2)then(.inl 0)else(.inr ()))
def de(a b:arp)(c d e:List arp)(f:agS)(i:Nat):(Unit)→bR
 |_=>((i:Int),(↑f.length:Int),a,b,c,d,e,f)
def su:bR→Unit
 |(_,_,_,_,_,_,_,_)=>()
theorem MD(c e:arp)(f g j:List arp)(k:agS) (hn:k.length≤9223372036854775807) (hL: ∀ l∈k,l.2.length≤1048576) (h4:leN f.length 9223372036854775807=true) (h5:leN g.length 9223372036854775807=true):
  aH.fin ((0:Int),(↑k.length:Int),c,e,f,g,j,k)=true∧aH.res ((0:Int),(↑k.length:Int),c,e,f,g,j,k)=((bH (gI c e f g j k) 1 k 0 ()).1,(de c e f g j k) (bH (gI c e f g j k) 1 k 0 ()).2.1 (bH (gI c e f g j k) 1 k 0 ()).2.2):=by
 have qa:=aH.along (de c e f g j k) su (gI c e f g j k) 1 (fun _ _=>True) k () (by trivial) (by simp only [aH,de];omega) (fun i b a hb hI=> ?_) (fun a hI=> ?_)
 ·exact qa
 ·obtain⟨⟩:=a
  have iX:=(v6.1 hb).1
  have pI: ∀ d,v9 k[i]? d=b:=fun d=>by rw [hb];rfl
  have hw:=AV iX hn
  have lR:ltI (i:Int) (k.length:Int)=true:=ew (by omega)
  have Nl:leI (0:Int) (i:Int)=true:=cG (by omega)
  have wO:ltN i k.length=true:=gM iX
  refine⟨?_,?_,?_,?_⟩
  ·have hg2:db (i:Int) k=b.2:=by simp only [db,z6];exact congrArg Prod.snd (pI _)
   have k4:kC (i:Int) c e f g j k=true:=by simp only [kC,hg2];exact(aiC c e f g j k b.2 (hL b (List.mem_of_getElem? hb)) h4 h5).2
   simp only [kB,oc,od,oe,jV,aH,LT.nds,allT,de,k4,lR,Nl,wO,z6,cond_true,Bool.and_self]
   cases kD (i:Int) c e f g j k <;> simp [LT.nds]
  ·simp [db,kB,oc,od,oe,kC,kD,tF,jV,aH,LT.each,de,su,hw]
  ·have hg2:db (i:Int) k=b.2:=by simp only [db,z6];exact congrArg Prod.snd (pI _)
   simp only [kB,kD,jV,aH,LT.fn,de,su,gI,lR,hg2,cond_true]
  ·exact fun _ _=>trivial
 ·obtain⟨⟩:=a
  simp [db,kB,oc,od,oe,kC,kD,tF,jV,aH,LT.out,de]
theorem apl(u v:arp)(ins vs os:List arp)(ls:List LN)(hN:ls.length≤1048576)(hL: ∀ l∈ls,l.2.length≤1048576)(h1:leN ins.length 9223372036854775807=true)(h2:leN vs.length 9223372036854775807=true):
  nT u v ls ins vs os= !ls.all (fun l=>l.2.all (usedB ins vs))∧nU u v ls ins vs os=true:=by
 obtain⟨w1,w2⟩:=MD u v ins vs os ls (by omega) hL h1 h2
 rw [WC (g:=fun(b:LN) (_:Unit)=>bif !b.2.all (usedB ins vs)then(.inl 0:Nat ⊕ Unit)else .inr ()) (fun b hb a=>by
  simp only [gI,(aiC u v ins vs os ls b.2 (hL b hb) h1 h2).1]),oq (P:=fun b:LN=> !b.2.all (usedB ins vs)) (j:=0) (fun b=>rfl),VI]at w2
 refine⟨?_,?_⟩
 ·simp only [nT,vU,lp,w2,de]
  cases ls.all (fun l=>l.2.all (usedB ins vs)) <;> simp [Nat.beq,Tw.1,Tw.2]
 ·simp only [nU,vV,lp,w1,allT,cond_true]
theorem aeN(nm:arp)(ins vs os:List arp)(g:arp)(ls:List LN)(h:PK nm ins vs os g ls=true):
  (jb nm g ins vs os ls==0)=aix ins vs os g ls∧je nm g ins vs os ls=true:=by
 obtain⟨h1,h2,h3,h4,h5,h6,h7⟩:=LB.1 h
 obtain⟨hn,hA⟩:=Ma.1 h7
 have hL: ∀ l∈ls,l.2.length≤1048576:=fun l hl=>(MA.1 (hA l hl).2).1
 obtain⟨l1,l2,l3⟩:=ak7 h2 h3 h4
 obtain⟨w1,w2⟩:=Hl ls [] (by omega) hn rfl
 rw [Ye (f:=cX) (g:=fun a (l:LN)=>a++ [l.1]) (fun b a=>rfl),akN]at w2
 have a3:au ls=ls.map Prod.fst:=by
  simp only [au,ly,w2,bZ,List.nil_append]
 have a4:aw vs os=vs++os:=by simp [aw]
 have n0:ae ins vs os=ins++vs++os:=by simp [ae,bM]
 have k1:leN (ls.map Prod.fst).length 9223372036854775807=true:=bK (by rw [List.length_map];omega)
 have k2:leN (vs++os).length 9223372036854775807=true:=bK (by rw [j6];omega)
 obtain⟨s1,s2,s3,s4⟩:=apW (ls.map Prod.fst) (vs++os) k1 k2
 obtain⟨v1,v2,v3,v4⟩:=apX (vs++os) (ls.map Prod.fst) k2 k1
 obtain⟨u1,u2⟩:=apl nm g ins vs os ls hn hL l1 l2
 have hnil:(g.toList==ByteArray.toList { data:= #[] })=(g.toList== []):=by rw [Rb]
 have hmade:((ls.map Prod.fst).any fun s=> !hasS (vs++os) s)= !ls.all (fun l=>hasS vs l.1||hasS os l.1):=by
  rw [VI,List.all_map]
  congr 2
  funext l
  simp only [Function.comp,Hq]
 have a5:lz vs os ls=(vs++os).any fun s=> !hasS (ls.map Prod.fst) s:=by
  simp only [lz,a3,a4,s2,s3,v1]
 refine⟨?_,?_⟩
 ·simp only [jb,n0,eI,lx,hnil,a3,a4,s1,s2,u1,hmade,a5,aix,PN]
  cases p1:oH (ins++vs++os)with
  |true=>rfl
  |false=>
   cases p3:(ls.all fun l=>hasS vs l.1||hasS os l.1)with
   |false=>
    generalize (g.toList== [])=q1
    generalize hasS ins g=q2
    generalize hasS vs g=q3
    cases q1 <;> cases q2 <;> cases q3 <;> rfl
   |true=>
    cases p4:oH (ls.map Prod.fst)with
    |true=>
     generalize (g.toList== [])=q1
     generalize hasS ins g=q2
     generalize hasS vs g=q3
     cases q1 <;> cases q2 <;> cases q3 <;> rfl
    |false=>
     rw [aoU p1 p3 p4]
     generalize (g.toList== [])=q1
     generalize hasS ins g=q2
     generalize hasS vs g=q3
     generalize leN (vs.length + os.length) ls.length=q4
     generalize (ls.all fun l=>l.2.all (usedB ins vs))=q5
     cases q1 <;> cases q2 <;> cases q3 <;> cases q4 <;> cases q5 <;> rfl
 ·have f1:Lp.fin ap (ly ls)=true:=w1
  have f2:(leN [vs,os].length 1000&&leN (Fq [vs,os]) 2000000)=true:=by
   rw [q9];exact⟨rfl,bK (by simp [Fq];omega)⟩
  have f3:cJ ins vs os=true:=by
   have:(leN [ins,vs,os].length 1000&&leN (Fq [ins,vs,os]) 2000000)=true:=by
    rw [q9];exact⟨rfl,bK (by simp [Fq];omega)⟩
   simp only [cJ,bM,this,allT,cond_true]
  have f4:leN (ins++vs++os).length 9223372036854775807=true:=bK (by simp;omega)
  simp only [je,f1,f2,f3,n0,f4,a3,a4,s2,s3,s4,v2,v3,v4,u2,l1,l2,k1,k2,allT,k9,cond_true]
def kP(nm:arp)(ins vs os:List arp)(g:arp)(ls:List LN):Bool:=abW nm ins vs os g ls&&aix ins vs os g ls
theorem ajY(nm:arp)(ins vs os:List arp)(g:arp)(ls:List LN)(h:PK nm ins vs os g ls=true):
  Up nm g ins vs os ls=kP nm ins vs os g ls∧Uq nm g ins vs os ls=true:=by
 obtain⟨a1,a2⟩:=abo nm ins vs os g ls h
 obtain⟨b1,b2⟩:=aeN nm ins vs os g ls h
 simp only [Up,Uq,a1,a2,b1,b2,kP,allT,k9,cond_true,and_true]
 cases abW nm ins vs os g ls <;> rfl
def aaU:arq
 | [.one ⟨true,[.val (.string a),.ref 0,.ref 1,.ref 2,.val (.string b),.ref 3]⟩],[.row false 9 (.str) c,.row false 9 (.str) d,.row false 9 (.str) e,.row false 61 (.pair (.str) (.sl 64 (.pair (.int .i64) (.pair (.str) (.int .i64))))) f]=>some ⟨art (.val (.bool (kP a c d e b f))),[arv c,arv d,arv e,arz f],[],[PK a c d e b f]⟩
 |_,_=>none
def jh:PF prog:=PF.alt aic aaU (by
 intro args es o h cm;unfold aaU at h;split at h
 ·rename_i a b c d e f
  cases h
  have cm:=lv cm
  have hh:=ajY a c d e b f cm
  obtain⟨e0,en⟩:=hh
  exact re rfl (la en) (by simp only [e0] <;> rfl) rfl rfl
 ·cases h)
def Vd(a b:arp)(c d e:List arp)(f:agT):Int:=bif !GS a b c d e f then(1:Int)else bif NY a b c d e f !=0 then(5:Int)else(0:Int)
def Ve(a b:arp)(c d e:List arp)(f:agT):Bool:=allT [Mt a b c d e f,!GS a b c d e f||NZ a b c d e f]
def aaM:arq
 | [.one ⟨true,[.val (.string a),.ref 0,.ref 1,.ref 2,.val (.string b),.ref 3]⟩],[.row false 9 (.str) c,.row false 9 (.str) d,.row false 9 (.str) e,.row false 61 (.pair (.str) (.sl 64 (.pair (.int .i64) (.pair (.str) (.int .i64))))) f]=>some ⟨aru (Vd a b c d e f),[arv c,arv d,arv e,arz f],[],[Ve a b c d e f]⟩
 |_,_=>none
def aim:PF prog:=PF.ofG prog (T3z [Rd,SQ]) [] aZ 27 f27 func27 (fun c _=>LOk.nil c) aaM (by
 intro _ _ _ h;unfold aaM at h;split at h<;>cases h;kernel_rfl)
def QW(a b:arp)(c d e:List arp)(f:agT):Int:=bif !yT a b c d e f then(1:Int)else bif jb a b c d e f !=0 then(5:Int)else(0:Int)
def QX(a b:arp)(c d e:List arp)(f:agT):Bool:=allT [Gm a b c d e f,!yT a b c d e f||je a b c d e f]
def Xl:arq
 | [.one ⟨true,[.val (.string a),.ref 0,.ref 1,.ref 2,.val (.string b),.ref 3]⟩],[.row false 9 (.str) c,.row false 9 (.str) d,.row false 9 (.str) e,.row false 61 (.pair (.str) (.sl 64 (.pair (.int .i64) (.pair (.str) (.int .i64))))) f]=>some ⟨aru (QW a b c d e f),[arv c,arv d,arv e,arz f],[],[QX a b c d e f]⟩
 |_,_=>none
def afX:PF prog:=PF.ofG prog (T3z [BN,fA]) [] aZ 22 f22 func22 (fun c _=>LOk.nil c) Xl (by
 intro _ _ _ h;unfold Xl at h;split at h<;>cases h;kernel_rfl)
def vD(a:List arp):Bool:=allT [ltN 0 a.length,false||leN (0 + v8 a) 9223372036854775807,false||leN ((0 + v8 a) * 16) 140737488355328]
def Iy:arq
 | [.one ⟨false,[.ref 0]⟩],[.row false 9 (.str) a]=>some ⟨art (.ref 1),[arv a],[arw a],[vD a]⟩
 |_,_=>none
def SP:PF prog:=PF.ofG prog [] [] aZ 72 f72 func72 (fun c _=>LOk.nil c) Iy (by
 intro _ _ _ h;unfold Iy at h;split at h<;>cases h;kernel_rfl)
def sdC(nm:arp)(ins vs os:List arp)(g:arp)(ls:List LN):Int:=bif !abW nm ins vs os g ls then 1 else bif !aix ins vs os g ls then 5 else 0
theorem XW{nm:arp}{ins vs os:List arp}{g:arp}{ls:List LN}:(sdC nm ins vs os g ls !=0)= !kP nm ins vs os g ls:=by
 simp only [sdC,kP];cases abW nm ins vs os g ls <;> cases aix ins vs os g ls <;> rfl
theorem anM(nm:arp)(ins vs os:List arp)(g:arp)(ls:List LN)(h:PK nm ins vs os g ls=true):
  QW nm g ins vs os ls=sdC nm ins vs os g ls∧QX nm g ins vs os ls=true:=by
 obtain⟨a1,a2⟩:=abo nm ins vs os g ls h
 obtain⟨b1,b2⟩:=aeN nm ins vs os g ls h
 simp only [QW,QX,bne,a1,a2,b1,b2,sdC,allT,k9,cond_true,and_self]
theorem an6(nm:arp)(ins vs os:List arp)(g:arp)(ls:List LN)(h:PK nm ins vs os g ls=true):
  Vd nm g ins vs os ls=sdC nm ins vs os g ls∧Ve nm g ins vs os ls=true:=by
 obtain⟨a1,a2⟩:=aiz nm ins vs os g ls h
 obtain⟨b1,b2⟩:=akh nm ins vs os g ls h
 simp only [Vd,Ve,bne,a1,a2,b1,b2,sdC,allT,k9,cond_true,and_self]
def Xv:arq
 | [.one ⟨true,[.val (.string a),.ref 0,.ref 1,.ref 2,.val (.string b),.ref 3]⟩],[.row false 9 (.str) c,.row false 9 (.str) d,.row false 9 (.str) e,.row false 61 (.pair (.str) (.sl 64 (.pair (.int .i64) (.pair (.str) (.int .i64))))) f]=>some ⟨aru (sdC a c d e b f),[arv c,arv d,arv e,arz f],[],[PK a c d e b f]⟩
 |_,_=>none
def te:PF prog:=PF.alt afX Xv (by
 intro args es o h cm;unfold Xv at h;split at h
 ·rename_i a b c d e f
  cases h
  have cm:=lv cm
  have hh:=anM a c d e b f cm
  obtain⟨e0,en⟩:=hh
  exact re rfl (la en) (by simp only [e0] <;> rfl) rfl rfl
 ·cases h)
def aa3:arq
 | [.one ⟨true,[.val (.string a),.ref 0,.ref 1,.ref 2,.val (.string b),.ref 3]⟩],[.row false 9 (.str) c,.row false 9 (.str) d,.row false 9 (.str) e,.row false 61 (.pair (.str) (.sl 64 (.pair (.int .i64) (.pair (.str) (.int .i64))))) f]=>some ⟨aru (sdC a c d e b f),[arv c,arv d,arv e,arz f],[],[PK a c d e b f]⟩
 |_,_=>none
def jj:PF prog:=PF.alt aim aa3 (by
 intro args es o h cm;unfold aa3 at h;split at h
 ·rename_i a b c d e f
  cases h
  have cm:=lv cm
  have hh:=an6 a c d e b f cm
  obtain⟨e0,en⟩:=hh
  exact re rfl (la en) (by simp only [e0] <;> rfl) rfl rfl
 ·cases h)
theorem anC(xs:List arp)(h:(leN 1 xs.length&&leN xs.length 1048576)=true):vD xs=true:=by
 simp only [q9,iC]at h
 simp [vD,allT]
 omega
def aev:arq
 | [.one ⟨false,[.val (.slice none 0 0)]⟩],[]=>some ⟨art (.ref 0),[],[.row true 9 .str []],[true]⟩
 |_,_=>none
def akd:PF prog:=PF.ofG prog [PF.raw prog] [] aZ 72 f72 func72 (fun c _=>LOk.nil c) aev (by
 intro _ _ _ h;unfold aev at h;split at h<;>cases h;kernel_rfl)
def aeu:arq
 | [.one ⟨false,[.val (.slice (some _) 0 _)]⟩],[]=>some ⟨art (.ref 0),[],[.row true 9 .str []],[true]⟩
 |_,_=>none
def akc:PF prog:=PF.ofG prog [] [] aZ 72 f72 func72 (fun c _=>LOk.nil c) aeu (by
 intro _ _ _ h;unfold aeu at h;split at h<;>cases h;kernel_rfl)
def IC:arq
 | [.one ⟨false,[.ref 0]⟩],[.row false 9 .str a]=>some ⟨art (.ref 1),[.row false 9 .str a],[.row true 9 .str a],[leN a.length 1048576]⟩
 |_,_=>none
def mU:PF prog where
 k:=72
 F:=IC
 ok:=by
  intro args es o h cm mem ρ w hp
  unfold IC at h
  split at h
  ·rename_i a
   cases h
   have hl:=cm _ (qqj.2 rfl)
   cases a with
   |nil=>
    exact(alZ akd akc rfl rfl rfl (fun _ _=>rfl) (by simp) (by simp) hp).mono fun en w' ⟨ρ',h1,h2,h3⟩=>⟨ρ',h1,h2,rfl,(by intro v hv;rw [qqj.1 hv];rfl),h3⟩
   |cons x xs=>exact SP.ok _ _ ⟨_,_,_,[vD (x::xs)]⟩ rfl (fun b hb=>by rw [qqj.1 hb];exact anC (x::xs) ((q9 _ _).mpr ⟨bK (Nat.succ_pos _),hl⟩)) mem ρ w hp
  ·cases h
abbrev uH:=Int×Int×arp×arp×List arp
section
variable (a b:Int)(c d:arp)(e:List arp)
def yW:Bool:=ByteArray.toList (v9 e[v7 a]? ByteArray.empty)==ByteArray.toList c
def Pt:Bool:=ltI a b
def VM:Bool:=leI 0 a
def VN:Bool:=ltI a (↑e.length:Int)
def VO:Bool:=ltN a.toNat e.length
def VP:Bool:= !yW a c e||leI 0 a
def VQ:Bool:= !yW a c e||ltI a (↑e.length:Int)
def VR:Bool:= !yW a c e||ltN a.toNat e.length
def VS:Int:=qqq .i64 (a + (1:Int))
def Pu:List arp:=bif yW a c e then List.set e a.toNat d else e
end
def adv:uH→List (Nat×SV)
 |(a,b,c,d,_)=> [(14,(aru a)),(13,(aru b)),(12,(art (.ref 0))),(1,(art (.val (.string c)))),(7,(art (.ref 0))),(2,(art (.val (.string d))))]
def adp:uH→List (Nat×Entry)
 |(_,_,_,_,a)=> [(0,(arw a))]
def adH:Nat→uH→List (Nat×SV)
 |_,_=>[]
def Of:uH→LT uH
 |(a,b,c,d,e)=> .ite (Pt a b) (.need [VM a,VN a e,VO a e] (.need [VP a c e,VQ a c e,VR a c e] (.nrm ((VS a),b,c,d,(Pu a c d e)) [(0,0)]))) (.ext 0 [(0,0)])
def Oj(s:St):Option uH:=do
 let some ⟨none,.one ⟨false,[.val (.int .i64 a)]⟩⟩:=s.look 14|none
 let some ⟨none,.one ⟨false,[.val (.int .i64 b)]⟩⟩:=s.look 13|none
 let some ⟨none,.one ⟨false,[.ref 256]⟩⟩:=s.look 12|none
 let some ⟨none,.one ⟨false,[.val (.string c)]⟩⟩:=s.look 1|none
 let some ⟨none,.one ⟨false,[.ref 256]⟩⟩:=s.look 7|none
 let some ⟨none,.one ⟨false,[.val (.string d)]⟩⟩:=s.look 2|none
 let some (.row true 9 (.str) e):=s.ent 256|none
 some (a,b,c,d,e)
def kM:Lp uH where
 h:=⟨[15,16,17,18,8,9,19,20,21,22,23,24,25,26,14],[0],[],[]⟩
 JL:=adv
 JE:=adp
 XL:=adH
 XE:=fun _=>adp
 q:=fun j=>match j with | _=> .exit 0
 tags:= [0]
 lt:=Of
 fuel:=fun(a,b,c,d,e)=>a.natAbs + b.natAbs + c.size + d.size + e.length
 fix:=fun(_,b,c,d,_) (a,_,_,_,e)=>(a,b,c,d,e)
 σ:= [(0,256)]
 rd:=Oj
theorem abw:LoopOk prog (fun k=>Nat.blt k Tryz.f45.ntmps) kM.F (bc f45 0):=by
 refine Lp.ok (tbl:= (T3z [mU])) (lf:= []) aZ kM (by kernel_rfl) (LOk.nil _) (fun _=>rfl) (fun _ _=>rfl) ?_ ?_ ?_ ?_ (fun _=>rfl) ?_
 ·intro _;kernel_rfl
 ·intro _;kernel_rfl
 ·intro s x h
  have h:Oj s=some x:=h
  unfold Oj at h
  repeat' split at h
  all_goals cases h
  constructor<;>repeat(first|refine aa ‹_› rfl ?_|refine ab rfl ‹_› rfl ?_|rfl)
 ·intro _;kernel_rfl
 ·intro _ _;exact(And.intro rfl trivial)
section
variable (a b:arp)(c:List arp)
def NN:Int×Int×arp×arp×List arp:=((0:Int),(↑c.length:Int),a,b,c)
def Uv:List arp:=(Lp.res kM (NN a b c)).2.2.2.2.2
def Uw:Bool:=allT [leN c.length (1048576:Nat),Lp.fin kM (NN a b c)]
end
def aaB:arq
 | [.one ⟨false,[.ref 0]⟩,.one ⟨false,[.val (.string a)]⟩,.one ⟨false,[.val (.string b)]⟩],[.row false 9 (.str) c]=>some ⟨art (.ref 1),[arv c],[arw (Uv a b c)],[Uw a b c]⟩
 |_,_=>none
def aie:PF prog:=PF.ofG prog (T3z [mU]) [kM.F] aZ 45 f45 func45 (LOk.fnT (l:= [bc f45 0]) (by kernel_rfl) (.cons abw (.nil _))) aaB (by
 intro _ _ _ h;unfold aaB at h;split at h<;>cases h;kernel_rfl)
abbrev uK:=Int×arp×arp×List arp×List arp
section
variable (a:Int)(b c:arp)(d e:List arp)
def zk:arp:=v9 d[v7 a]? ByteArray.empty
def qw:Bool:=ByteArray.toList (zk a d)==ByteArray.toList b
def Ky:Bool:=ltI a (↑d.length:Int)
def Ws:Bool:=leI 0 a
def Wt:Bool:=ltN a.toNat d.length
def Wu:Bool:= !qw a b d||leN (v8 e + v8 [c]) (9223372036854775807:Nat)
def Wv:Bool:= !qw a b d||leN ((v8 e + v8 [c]) * (16:Nat)) 140737488355328
def Ww:Bool:=qw a b d||leI 0 a
def Wx:Bool:=qw a b d||ltI a (↑d.length:Int)
def Wy:Bool:=qw a b d||ltN a.toNat d.length
def Wz:Bool:=qw a b d||leN (v8 e + v8 [zk a d]) (9223372036854775807:Nat)
def WA:Bool:=qw a b d||leN ((v8 e + v8 [zk a d]) * (16:Nat)) 140737488355328
def Vk:Bool:=qw a b d
def OA:Int:=qqq .i64 (a + (1:Int))
def Vl:List arp:=e++ [c]
def Vm:List arp:=e++ [zk a d]
end
def adz:uK→List (Nat×SV)
 |(a,b,c,_,_)=> [(8,(aru a)),(0,(art (.ref 0))),(1,(art (.val (.string b)))),(7,(art (.ref 1))),(2,(art (.val (.string c))))]
def adt:uK→List (Nat×Entry)
 |(_,_,_,a,b)=> [(0,(arv a)),(1,(arw b))]
def adL:Nat→uK→List (Nat×SV)
 |_,(_,_,_,_,_)=> [(7,(art (.ref 1)))]
def Og:uK→LT uK
 |(a,b,c,d,e)=> .ite (Ky a d) (.need [Ws a,Ky a d,Wt a d] (.need [Wu a b c d e,Wv a b c d e,Ww a b d,Wx a b d,Wy a b d,Wz a b d e,WA a b d e] (.ite (Vk a b d) (.nrm ((OA a),b,c,d,(Vl c e)) [(0,0),(1,896)]) (.nrm ((OA a),b,c,d,(Vm a d e)) [(0,0),(1,1088)])))) (.ext 0 [(0,0),(1,1)])
def On(s:St):Option uK:=do
 let some ⟨none,.one ⟨false,[.val (.int .i64 a)]⟩⟩:=s.look 8|none
 let some ⟨none,.one ⟨false,[.ref 0]⟩⟩:=s.look 0|none
 let some ⟨none,.one ⟨false,[.val (.string b)]⟩⟩:=s.look 1|none
 let some ⟨none,.one ⟨false,[.ref 192]⟩⟩:=s.look 7|none
 let some ⟨none,.one ⟨false,[.val (.string c)]⟩⟩:=s.look 2|none
 let some (.row false 9 (.str) d):=s.ent 0|none
 let some (.row true 9 (.str) e):=s.ent 192|none
 some (a,b,c,d,e)
def kN:Lp uK where
 h:=⟨[10,11,12,13,16,17,18,19,20,21,22,23,24,25,7,26,27,28,29,30,31,32,14,15,8],[0],[1],[]⟩
 JL:=adz
 JE:=adt
 XL:=adL
 XE:=fun _=>adt
 q:=fun j=>match j with | _=> .exit 0
 tags:= [0]
 lt:=Og
 fuel:=fun(a,b,c,d,e)=>a.natAbs + b.size + c.size + d.length + e.length
 fix:=fun(_,b,c,d,_) (a,_,_,_,e)=>(a,b,c,d,e)
 σ:= [(0,0),(1,192)]
 rd:=On
theorem abA:LoopOk prog (fun k=>Nat.blt k Tryz.f31.ntmps) kN.F (bc f31 0):=by
 refine Lp.ok (tbl:= []) (lf:= []) aZ kN (by kernel_rfl) (LOk.nil _) (fun _=>rfl) (fun _ _=>rfl) ?_ ?_ ?_ ?_ (fun _=>rfl) ?_
 ·intro _;kernel_rfl
 ·intro _;kernel_rfl
 ·intro s x h
  have h:On s=some x:=h
  unfold On at h
  repeat' split at h
  all_goals cases h
  constructor<;>repeat(first|refine aa ‹_› rfl ?_|refine ab rfl ‹_› rfl ?_|rfl)
 ·intro _;kernel_rfl
 ·intro _ _;exact(And.intro (And.intro rfl rfl) trivial)
section
variable (a b:arp)(c:List arp)
def Ob:Int×arp×arp×List arp×List arp:=((0:Int),a,b,c,[])
def Vi:List arp:=(Lp.res kN (Ob a b c)).2.2.2.2.2
def Vj:Bool:=allT [Lp.fin kN (Ob a b c)]
end
def aaO:arq
 | [.one ⟨false,[.ref 0]⟩,.one ⟨false,[.val (.string a)]⟩,.one ⟨false,[.val (.string b)]⟩],[.row false 9 (.str) c]=>some ⟨art (.ref 1),[arv c],[arw (Vi a b c)],[Vj a b c]⟩
 |_,_=>none
def aio:PF prog:=PF.ofG prog [] [kN.F] aZ 31 f31 func31 (LOk.fnT (l:= [bc f31 0]) (by kernel_rfl) (.cons abA (.nil _))) aaO (by
 intro _ _ _ h;unfold aaO at h;split at h<;>cases h;kernel_rfl)
section
variable (a:aro)(b:alL)(c:arp)(d e:List arp)(f g:aro)
def IP:Int:=bif leI 0 (gh d c)then v9 g[v7 (gh d c)]? 0 else v9 f[v7 (gh e c)]? 0
def IQ:Bool:=allT [leN d.length (9223372036854775807:Nat),!leI 0 (gh d c)||leI 0 (gh d c),!leI 0 (gh d c)||ltI (gh d c) (↑g.length:Int),!leI 0 (gh d c)||ltN (v7 (gh d c)) g.length,leI 0 (gh d c)||leN e.length (9223372036854775807:Nat),leI 0 (gh d c)||leI 0 (gh e c),leI 0 (gh d c)||ltI (gh e c) (↑f.length:Int),leI 0 (gh d c)||ltN (v7 (gh e c)) f.length]
def md:Bool:=allT [leN a.length (1048576:Nat),leN b.length (1048576:Nat)]
end
def yC:arq
 | [.one ⟨true,[.ref 0,.ref 1]⟩],[.row false 2 (.int .i64) a,.row false 129 (.pair (.int .i64) (.pair (.int .i64) (.int .i64))) b]=>some ⟨.one ⟨true,[.ref 2,.ref 3]⟩,[arB a,arG b],[arC a,arF b],[md a b]⟩
 |_,_=>none
def yI:PF prog:=PF.ofG prog (T3z [CI,yZ]) [] aZ 89 f89 func89 (fun c _=>LOk.nil c) yC (by
 intro _ _ _ h;unfold yC at h;split at h<;>cases h;kernel_rfl)
def AE(a:aro)(b:List arp):Bool:= !bitsB (↑b.length:Int) a
def Gy(a:aro):Bool:=allT [leN a.length (9223372036854775807:Nat)]
def OC:arq
 | [.one ⟨false,[.ref 0]⟩,.one ⟨false,[.ptr 1 0]⟩],[.row false 2 (.int .i64) a,.box 27 [.val (.string b),.ref 2,.ref 3,.ref 4,.val (.string c),.ref 5],.row false 9 (.str) d,.row false 9 (.str) e,.row false 9 (.str) f,.row false 61 (.pair .str (.sl 64 (.pair (.int .i64) (.pair .str (.int .i64))))) g]=>some ⟨art (.val (.bool (AE a d))),[arB a,.box 27 [.val (.string b),.ref 2,.ref 3,.ref 4,.val (.string c),.ref 5],arv d,arv e,arv f,arx g],[],[Gy a]⟩
 |_,_=>none
def sa:PF prog:=PF.ofG prog (T3z [xm]) [] aZ 87 f87 func87 (fun c _=>LOk.nil c) OC (by
 intro _ _ _ h;unfold OC at h;split at h<;>cases h;kernel_rfl)
abbrev bB:=Int×Int×arp×arp×List (List Int)×List arp×List arp×List arp×List (arp×(List (Int×(arp×Int))))
section
variable (a b:Int)(c:amc)(d:List arp)
def cK:aro:=v9 c[v7 a]? (ul aiL)
def jw:Bool:=ltI a b
def mE:Bool:=leI 0 a
def mF:Bool:=ltI a (↑c.length:Int)
def mG:Bool:=ltN a.toNat c.length
def jx:Bool:=Gy (cK a c)
def jy:Bool:=AE (cK a c) d
def rY:Int:=qqq .i64 (a + (1:Int))
end
def Jb:bB→List (Nat×SV)
 |(a,b,_,_,_,_,_,_,_)=> [(8,(aru a)),(7,(aru b)),(1,(art (.clo 87 [0]))),(0,(art (.ref 1)))]
def Ja:bB→List (Nat×Entry)
 |(_,_,a,b,c,d,e,f,g)=> [(0,(.box 27 [.val (.string a),.ref 2,.ref 3,.ref 4,.val (.string b),.ref 5])),(1,(arI c)),(2,(arv d)),(3,(arv e)),(4,(arv f)),(5,(arx g))]
def Jd:Nat→bB→List (Nat×SV)
 |0,(a,_,_,_,_,_,_,_,_)=> [(4,(aru a))]
 |_,_=>[]
def jg:bB→LT bB
 |(a,b,c,d,e,f,g,i,j)=> .ite (jw a b) (.need [mE a,mF a e,mG a e,jx a e] (.ite (jy a e f) (.ext 0 [(0,0),(1,1),(2,2),(3,3),(4,4),(5,5)]) (.nrm ((rY a),b,c,d,e,f,g,i,j) [(0,0),(1,1),(2,2),(3,3),(4,4),(5,5)]))) (.ext 1 [(0,0),(1,1),(2,2),(3,3),(4,4),(5,5)])
def ro(s:St):Option bB:=do
 let some ⟨none,.one ⟨false,[.val (.int .i64 a)]⟩⟩:=s.look 8|none
 let some ⟨none,.one ⟨false,[.val (.int .i64 b)]⟩⟩:=s.look 7|none
 let some ⟨none,.one ⟨false,[.clo 87 [1]]⟩⟩:=s.look 1|none
 let some ⟨none,.one ⟨false,[.ref 0]⟩⟩:=s.look 0|none
 let some (.box 27 [.val (.string c),.ref 2,.ref 3,.ref 4,.val (.string d),.ref 5]):=s.ent 1|none
 let some (.row false 41 (.sl 2 (.int .i64)) e):=s.ent 0|none
 let some (.row false 9 (.str) f):=s.ent 2|none
 let some (.row false 9 (.str) g):=s.ent 3|none
 let some (.row false 9 (.str) i):=s.ent 4|none
 let some (.row false 61 (.pair .str (.sl 64 (.pair (.int .i64) (.pair .str (.int .i64))))) j):=s.ent 5|none
 some (a,b,c,d,e,f,g,i,j)
def aA:Lp bB where
 h:=⟨[9,10,5,11,12,13,14,15,16,17,4,18,8],[0,1,2,3,4,5],[],[]⟩
 JL:=Jb
 JE:=Ja
 XL:=Jd
 XE:=fun _=>Ja
 q:=fun j=>match j with | 0=> .ret | _=> .exit 0
 tags:= [0,1]
 lt:=jg
 fuel:=fun(a,b,c,d,e,f,g,i,k)=>a.natAbs + b.natAbs + c.size + d.size + e.length + f.length + g.length + i.length + k.length
 fix:=fun(_,b,c,d,e,f,g,i,k) (a,_,_,_,_,_,_,_,_)=>(a,b,c,d,e,f,g,i,k)
 σ:= [(0,1),(1,0),(2,2),(3,3),(4,4),(5,5)]
 rd:=ro
theorem HW:LoopOk prog (fun k=>Nat.blt k Tryz.f106.ntmps) aA.F (bc f106 0):=by
 refine Lp.ok (tbl:= (T3z [sa])) (lf:= []) aZ aA (by kernel_rfl) (LOk.nil _) (fun _=>rfl) (fun j _=>by unfold aA;match j with | 0=>rfl | _ + 1=>rfl) ?_ ?_ ?_ ?_ (fun _=>rfl) ?_
 ·intro _;kernel_rfl
 ·intro _;kernel_rfl
 ·intro s x h
  have h:ro s=some x:=h
  unfold ro at h
  repeat' split at h
  all_goals cases h
  constructor<;>repeat(first|refine aa ‹_› rfl ?_|refine ab rfl ‹_› rfl ?_|rfl)
 ·intro _;kernel_rfl
 ·intro _ _;exact(And.intro (And.intro trivial rfl) trivial)
section
variable (a:amc)(b c:arp)(d e f:List arp)(g:agT)
def kH:Int×Int×arp×arp×amc×List arp×List arp×List arp×agT:=((0:Int),(↑a.length:Int),b,c,a,d,e,f,g)
def ol:Bool:=Nat.beq ((Lp.res aA (kH a b c d e f g)).1) 0
def ut:Int:=bif ol a b c d e f g then ((Lp.res aA (kH a b c d e f g)).2).1else(-1:Int)
def Bj:arp:=bif ol a b c d e f g then b else b
def Bk:arp:=bif ol a b c d e f g then c else c
def uu:Bool:=allT [Lp.fin aA (kH a b c d e f g)]
end
def AW:arq
 | [.one ⟨false,[.ref 0]⟩,.one ⟨false,[.clo 87 [1]]⟩],[.row false 41 (.sl 2 (.int .i64)) a,.box 27 [.val (.string b),.ref 2,.ref 3,.ref 4,.val (.string c),.ref 5],.row false 9 (.str) d,.row false 9 (.str) e,.row false 9 (.str) f,.row false 61 (.pair .str (.sl 64 (.pair (.int .i64) (.pair .str (.int .i64))))) g]=>some ⟨aru (ut a b c d e f g),[arI a,.box 27 [.val (.string (Bj a b c d e f g)),.ref 2,.ref 3,.ref 4,.val (.string (Bk a b c d e f g)),.ref 5],arv d,arv e,arv f,arx g],[],[uu a b c d e f g]⟩
 |_,_=>none
def ur:PF prog:=PF.ofG prog (T3z [sa]) [aA.F] aZ 106 f106 func106 (LOk.fnT (l:= [bc f106 0]) (by kernel_rfl) (.cons HW (.nil _))) AW (by
 intro _ _ _ h;unfold AW at h;split at h<;>cases h;kernel_rfl)
section
variable (a:amc)(b c:arp)(d e f:List arp)(g:agT)
def mC:Bool:=leI 0 (ut a b c d e f g)
def KD:arp:=Bj a b c d e f g
def KE:arp:=Bk a b c d e f g
def mD:Bool:=allT [uu a b c d e f g]
end
def zs:arq
 | [.one ⟨false,[.ref 0]⟩,.one ⟨false,[.clo 87 [1]]⟩],[.row false 41 (.sl 2 (.int .i64)) a,.box 27 [.val (.string b),.ref 2,.ref 3,.ref 4,.val (.string c),.ref 5],.row false 9 (.str) d,.row false 9 (.str) e,.row false 9 (.str) f,.row false 61 (.pair .str (.sl 64 (.pair (.int .i64) (.pair .str (.int .i64))))) g]=>some ⟨art (.val (.bool (mC a b c d e f g))),[arI a,.box 27 [.val (.string (KD a b c d e f g)),.ref 2,.ref 3,.ref 4,.val (.string (KE a b c d e f g)),.ref 5],arv d,arv e,arv f,arx g],[],[mD a b c d e f g]⟩
 |_,_=>none
def rX:PF prog:=PF.ofG prog (T3z [ur]) [] aZ 86 f86 func86 (fun c _=>LOk.nil c) zs (by
 intro _ _ _ h;unfold zs at h;split at h<;>cases h;kernel_rfl)
def SJ(a b:arp)(c d e:List arp)(f:agT)(g:aro)(i:alL)(j:amc):Int:=bif !kP a c d e b f then(1:Int)else bif bif !Kz (↑d.length:Int) (blL f) g i then true else mC j a b c d e f then(2:Int)else(0:Int)
def SK(a b:arp)(c d e:List arp)(f:agT)(g:aro)(i:alL)(j:amc):Bool:=allT [PK a c d e b f,!kP a c d e b f||aeU f,!kP a c d e b f||leN g.length (9223372036854775807:Nat)&&(leN (v8 (blL f)) 9223372036854775807&&ac6 (blL f)),!kP a c d e b f||(!(!!Kz (↑d.length:Int) (blL f) g i&&true)||mD j a b c d e f)]
def Zm:arq
 | [.one ⟨true,[.val (.string a),.ref 0,.ref 1,.ref 2,.val (.string b),.ref 3]⟩,.one ⟨true,[.ref 4,.ref 5]⟩,.one ⟨false,[.ref 6]⟩],[.row false 9 (.str) c,.row false 9 (.str) d,.row false 9 (.str) e,.row false 61 (.pair (.str) (.sl 64 (.pair (.int .i64) (.pair (.str) (.int .i64))))) f,.row false 2 (.int .i64) g,.row false 129 (.pair (.int .i64) (.pair (.int .i64) (.int .i64))) i,.row false 41 (.sl 2 (.int .i64)) j]=>some ⟨aru (SJ a b c d e f g i j),[arv c,arv d,arv e,arz f,arB g,arG i,arH j],[],[SK a b c d e f g i j]⟩
 |_,_=>none
def ag5:PF prog:=PF.ofG prog (T3z [jh,rW,eK,rX]) [] aZ 54 f54 func54 (fun c _=>LOk.nil c) Zm (by
 intro _ _ _ h;unfold Zm at h;split at h<;>cases h;kernel_rfl)
section
variable (a b c:arp)(d:Int)(e f:List arp)(g:aro)(i:alL)(j k:aro)
def kt:Int:=bif leI 0 (gh e a)then v9 j[v7 (gh e a)]? 0 else v9 g[v7 (gh f a)]? 0
def GG:arp:=bif leI 0 (gh e a)then b else b
def GH:arp:=bif leI 0 (gh e a)then c else c
def GI:Int:=bif leI 0 (gh e a)then d else d
def pq:aro:=bif leI 0 (gh e a)then g else g
def pt:alK:=bif leI 0 (gh e a)then i else i
def pu:aro:=bif leI 0 (gh e a)then k else k
def ku:Bool:=allT [leN e.length (9223372036854775807:Nat),!leI 0 (gh e a)||leI 0 (gh e a),!leI 0 (gh e a)||ltI (gh e a) (↑j.length:Int),!leI 0 (gh e a)||ltN (v7 (gh e a)) j.length,leI 0 (gh e a)||leN f.length (9223372036854775807:Nat),leI 0 (gh e a)||leI 0 (gh f a),leI 0 (gh e a)||ltI (gh f a) (↑g.length:Int),leI 0 (gh e a)||ltN (v7 (gh f a)) g.length]
end
def we:arq
 | [.one ⟨false,[.ptr 0 0]⟩,.one ⟨false,[.val (.string a)]⟩],[.box 117 [.val (.string b),.ref 1,.ref 2,.ref 3,.val (.string c),.ref 4,.ref 5,.ref 6,.ref 7,.ref 8,.val (.int .i64 d)],.row false 9 (.str) e,.row false 9 (.str) f,.row false 9 (.str) g,.row false 61 (.pair (.str) (.sl 64 (.pair (.int .i64) (.pair (.str) (.int .i64))))) i,.row true 2 (.int .i64) j,.row true 129 (.pair (.int .i64) (.pair (.int .i64) (.int .i64))) k,.row false 2 (.int .i64) l,.row true 2 (.int .i64) m]=>some ⟨aru (kt a e f j l),[.box 117 [.val (.string (GG a b e)),.ref 1,.ref 2,.ref 3,.val (.string (GH a c e)),.ref 4,.ref 5,.ref 6,.ref 7,.ref 8,ars (GI a d e)],arv e,arv f,arv g,arz i,arC (pq a e j),arF (pt a e k),arB l,arC (pu a e m)],[],[ku a e f j l]⟩
 |_,_=>none
def wD:PF prog:=PF.ofG prog [vA] [] aZ 91 f91 func91 (fun c _=>LOk.nil c) we (by
 intro _ _ _ h;unfold we at h;split at h<;>cases h;kernel_rfl)
section
variable (a b c:arp)(d:Int)(e f:List arp)(g:aro)(i:alL)(j:aro)
def pg:Int:=bif leI 0 (gh e a)then v9 j[v7 (gh e a)]? 0 else v9 g[v7 (gh f a)]? 0
def ph:arp:=bif leI 0 (gh e a)then b else b
def pj:arp:=bif leI 0 (gh e a)then c else c
def pm:Int:=bif leI 0 (gh e a)then d else d
def po:alK:=bif leI 0 (gh e a)then i else i
def pp:Bool:=allT [leN e.length (9223372036854775807:Nat),!leI 0 (gh e a)||leI 0 (gh e a),!leI 0 (gh e a)||ltI (gh e a) (↑j.length:Int),!leI 0 (gh e a)||ltN (v7 (gh e a)) j.length,leI 0 (gh e a)||leN f.length (9223372036854775807:Nat),leI 0 (gh e a)||leI 0 (gh f a),leI 0 (gh e a)||ltI (gh f a) (↑g.length:Int),leI 0 (gh e a)||ltN (v7 (gh f a)) g.length]
end
def wd:arq
 | [.one ⟨false,[.ptr 0 0]⟩,.one ⟨false,[.val (.string a)]⟩],[.box 117 [.val (.string b),.ref 1,.ref 2,.ref 3,.val (.string c),.ref 4,.ref 5,.ref 6,.ref 7,.ref 8,.val (.int .i64 d)],.row false 9 (.str) e,.row false 9 (.str) f,.row false 9 (.str) g,.row false 61 (.pair (.str) (.sl 64 (.pair (.int .i64) (.pair (.str) (.int .i64))))) i,.row false 2 (.int .i64) j,.row true 129 (.pair (.int .i64) (.pair (.int .i64) (.int .i64))) k,.row false 2 (.int .i64) l,.row false 2 (.int .i64) m]=>some ⟨aru (pg a e f j l),[.box 117 [.val (.string (ph a b e)),.ref 1,.ref 2,.ref 3,.val (.string (pj a c e)),.ref 4,.ref 5,.ref 6,.ref 7,.ref 8,ars (pm a d e)],arv e,arv f,arv g,arz i,arB j,arF (po a e k),arB l,arB m],[],[pp a e f j l]⟩
 |_,_=>none
def GP:PF prog:=PF.ofG prog [vA] [] aZ 91 f91 func91 (fun c _=>LOk.nil c) wd (by
 intro _ _ _ h;unfold wd at h;split at h<;>cases h;kernel_rfl)
section
variable (a b c:Int)(d:aro)(e:alL)
def aE:Int×Int×Int:=v9 e[v7 c]? ((0:Int),(0:Int),(0:Int))
def pN:Int:=El a b ((aE c e).1) (((aE c e).2).1) ((aE c e).2.2) d
def pO:Int:=qqq .i64 (c + (1:Int))
def pP:alK:=List.set e c.toNat (BH a b ((aE c e).1) (((aE c e).2).1) ((aE c e).2.2) d,BI a (((aE c e).2).1) ((aE c e).2.2) d,BJ a b ((aE c e).1) (((aE c e).2).1) ((aE c e).2.2) d)
def pQ:Bool:=allT [leI 0 c,ltI c (↑e.length:Int),ltN c.toNat e.length,Em d,leI 0 c,ltI c (↑e.length:Int),ltN c.toNat e.length]
end
def wT:arq
 | [.one ⟨false,[.ptr 0 0]⟩,.one ⟨true,[.val (.int .i64 a),.val (.string _x1),.val (.int .i64 b)]⟩,.one ⟨false,[.ref 1]⟩],[.box 117 [.val (.string c),.ref 2,.ref 3,.ref 4,.val (.string d),.ref 5,.ref 6,.ref 7,.ref 8,.ref 9,.val (.int .i64 e)],.row false 2 (.int .i64) f,.row false 9 (.str) g,.row false 9 (.str) i,.row false 9 (.str) j,.row false 61 (.pair (.str) (.sl 64 (.pair (.int .i64) (.pair (.str) (.int .i64))))) k,.row false 2 (.int .i64) l,.row true 129 (.pair (.int .i64) (.pair (.int .i64) (.int .i64))) m,.row false 2 (.int .i64) n,.row false 2 (.int .i64) o]=>some ⟨aru (pN a b e f m),[.box 117 [.val (.string c),.ref 2,.ref 3,.ref 4,.val (.string d),.ref 5,.ref 6,.ref 7,.ref 8,.ref 9,ars (pO e)],arB f,arv g,arv i,arv j,arz k,arB l,arF (pP a b e f m),arB n,arB o],[],[pQ e f m]⟩
 |_,_=>none
def Hk:PF prog:=PF.ofG prog [ali] [] aZ 117 f117 func117 (fun c _=>LOk.nil c) wT (by
 intro _ _ _ h;unfold wT at h;split at h<;>cases h;kernel_rfl)
section
variable (a:Int)(b:arp)(c:Int)(d e:arp)(f:Int)(g:aro)(i j:List arp)(k:aro)(l:alL)(m:aro)
def kr:Int:=v9 g[v7 0]? 0
def ce:Int:=bif a==1 then pg b i j k m else bif a==2 then(1:Int)else bif a==3 then(0:Int)else bif a==4 then qqq .i64 ((1:Int) - kr g)else bif a==5 then qqq .i64 (↑(BitVec.toNat (BitVec.ofInt (IntKind.bits IntKind.i64) (kr g)&&& BitVec.ofInt (IntKind.bits IntKind.i64) (v9 g[v7 1]? 0))):Int)else bif a==6 then qqq .i64 (↑(BitVec.toNat (BitVec.ofInt (IntKind.bits IntKind.i64) (kr g)||| BitVec.ofInt (IntKind.bits IntKind.i64) (v9 g[v7 1]? 0))):Int)else pN a c f g l
def gC:arp:=bif a==1 then ph b d i else bif a==2 then d else bif a==3 then d else bif a==4 then d else bif a==5 then d else bif a==6 then d else d
def gD:arp:=bif a==1 then pj b e i else bif a==2 then e else bif a==3 then e else bif a==4 then e else bif a==5 then e else bif a==6 then e else e
def bg:Int:=bif a==1 then pm b f i else bif a==2 then f else bif a==3 then f else bif a==4 then f else bif a==5 then f else bif a==6 then f else pO f
def bh:alK:=bif a==1 then po b i l else bif a==2 then l else bif a==3 then l else bif a==4 then l else bif a==5 then l else bif a==6 then l else pP a c f g l
def bi:Bool:=allT [!a==1||pp b i j k m,a==1||(a==2||(a==3||(!a==4||leI 0 0))),a==1||(a==2||(a==3||(!a==4||ltI 0 (↑g.length:Int)))),a==1||(a==2||(a==3||(!a==4||ltN (v7 0) g.length))),a==1||(a==2||(a==3||(a==4||(!a==5||leI 0 0)))),a==1||(a==2||(a==3||(a==4||(!a==5||ltI 0 (↑g.length:Int))))),a==1||(a==2||(a==3||(a==4||(!a==5||ltN (v7 0) g.length)))),a==1||(a==2||(a==3||(a==4||(!a==5||leI 0 1)))),a==1||(a==2||(a==3||(a==4||(!a==5||ltI 1 (↑g.length:Int))))),a==1||(a==2||(a==3||(a==4||(!a==5||ltN (v7 1) g.length)))),a==1||(a==2||(a==3||(a==4||(a==5||(!a==6||leI 0 0))))),a==1||(a==2||(a==3||(a==4||(a==5||(!a==6||ltI 0 (↑g.length:Int)))))),a==1||(a==2||(a==3||(a==4||(a==5||(!a==6||ltN (v7 0) g.length))))),a==1||(a==2||(a==3||(a==4||(a==5||(!a==6||leI 0 1))))),a==1||(a==2||(a==3||(a==4||(a==5||(!a==6||ltI 1 (↑g.length:Int)))))),a==1||(a==2||(a==3||(a==4||(a==5||(!a==6||ltN (v7 1) g.length))))),a==1||(a==2||(a==3||(a==4||(a==5||(a==6||pQ f g l)))))]
end
def wV:arq
 | [.one ⟨false,[.ptr 0 0]⟩,.one ⟨true,[.val (.int .i64 a),.val (.string b),.val (.int .i64 c)]⟩,.one ⟨false,[.ref 1]⟩],[.box 117 [.val (.string d),.ref 2,.ref 3,.ref 4,.val (.string e),.ref 5,.ref 6,.ref 7,.ref 8,.ref 9,.val (.int .i64 f)],.row false 2 (.int .i64) g,.row false 9 (.str) i,.row false 9 (.str) j,.row false 9 (.str) k,.row false 61 (.pair (.str) (.sl 64 (.pair (.int .i64) (.pair (.str) (.int .i64))))) l,.row false 2 (.int .i64) m,.row true 129 (.pair (.int .i64) (.pair (.int .i64) (.int .i64))) n,.row false 2 (.int .i64) o,.row false 2 (.int .i64) p]=>some ⟨aru (ce a b c f g i j m n o),[.box 117 [.val (.string (gC a b d i)),.ref 2,.ref 3,.ref 4,.val (.string (gD a b e i)),.ref 5,.ref 6,.ref 7,.ref 8,.ref 9,ars (bg a b f i)],arB g,arv i,arv j,arv k,arz l,arB m,arF (bh a b c f g i n),arB o,arB p],[],[bi a b f g i j m n o]⟩
 |_,_=>none
def wY:PF prog:=PF.ofG prog [GP,Hk] [] aZ 112 f112 func112 (fun c _=>LOk.nil c) wV (by
 intro _ _ _ h;unfold wV at h;split at h<;>cases h;kernel_rfl)
abbrev bI:=Int×Int×List (Int×(arp×Int))×List Int×arp×arp×Int×List arp×List arp×List arp×List (arp×(List (Int×(arp×Int))))×List Int×List (Int×(Int×Int))×List Int×List Int
section
variable (a b:Int)(c:ajd)(d:aro)(e f:arp)(g:Int)(i j:List arp)(k:aro)(l:alK)(m:aro)
def ah:Int×arp×Int:=v9 c[v7 a]? ((0:Int),ByteArray.empty,(0:Int))
def aP:Int:=qqq .i64 ((↑d.length:Int) - tc ((ah a c).1))
def fk:aro:= [ce ((ah a c).1) (((ah a c).2).1) ((ah a c).2.2) g (List.drop (v7 (aP a c d)) d) i j k l m]
def fB:Bool:=ltI a b
def fC:Bool:=leI 0 a
def fD:Bool:=ltI a (↑c.length:Int)
def fE:Bool:=ltN a.toNat c.length
def dD:Bool:=leI 0 (aP a c d)
def dE:Bool:=leI (aP a c d) (↑d.length:Int)
def fF:Bool:=leN (v7 (aP a c d)) d.length
def fG:Bool:=bi ((ah a c).1) (((ah a c).2).1) g (List.drop (v7 (aP a c d)) d) i j k l m
def fH:Bool:=leN (v8 (List.take (v7 (aP a c d)) d) + v8 (fk a c d g i j k l m)) 9223372036854775807
def fI:Bool:=leN ((v8 (List.take (v7 (aP a c d)) d) + v8 (fk a c d g i j k l m)) * 8) 140737488355328
def fc:Int:=qqq .i64 (a + (1:Int))
def fe:aro:=List.take (v7 (aP a c d)) d++fk a c d g i j k l m
def ff:arp:=gC ((ah a c).1) (((ah a c).2).1) e i
def fg:arp:=gD ((ah a c).1) (((ah a c).2).1) f i
def fh:Int:=bg ((ah a c).1) (((ah a c).2).1) g i
def fj:alK:=bh ((ah a c).1) (((ah a c).2).1) ((ah a c).2.2) g (List.drop (v7 (aP a c d)) d) i l
end
def Eg:bI→List (Nat×SV)
 |(a,b,_,_,_,_,_,_,_,_,_,_,_,_,_)=> [(13,(aru a)),(12,(aru b)),(11,(art (.ref 0))),(4,(art (.ref 1))),(0,(art (.ptr 2 0)))]
def Ef:bI→List (Nat×Entry)
 |(_,_,a,b,c,d,e,f,g,i,j,k,l,m,n)=> [(0,(arA a)),(2,(.box 117 [.val (.string c),.ref 3,.ref 4,.ref 5,.val (.string d),.ref 6,.ref 7,.ref 8,.ref 9,.ref 10,ars e])),(3,(arv f)),(4,(arv g)),(5,(arv i)),(6,(arx j)),(7,(arC k)),(8,(arF l)),(9,(arB m)),(10,(arC n)),(1,(arC b))]
def Ei:Nat→bI→List (Nat×SV)
 |_,(_,_,_,_,_,_,_,_,_,_,_,_,_,_,_)=> [(4,(art (.ref 1)))]
def Eh:Nat→bI→List (Nat×Entry)
 |_,(_,_,a,b,c,d,e,f,g,i,j,k,l,m,n)=> [(0,(arA a)),(1,(arC b)),(2,(.box 117 [.val (.string c),.ref 3,.ref 4,.ref 5,.val (.string d),.ref 6,.ref 7,.ref 8,.ref 9,.ref 10,ars e])),(3,(arv f)),(4,(arv g)),(5,(arv i)),(6,(arx j)),(7,(arC k)),(8,(arF l)),(9,(arB m)),(10,(arC n))]
def fm:bI→LT bI
 |(a,b,c,d,e,f,g,i,j,k,l,m,n,o,p)=> .ite (fB a b) (.need [fC a,fD a c,fE a c] (.need [dD a c d,dE a c d,fF a c d,fG a c d g i j m n o] (.need [dD a c d,dE a c d,fH a c d g i j m n o,fI a c d g i j m n o] (.nrm ((fc a),b,c,fe a c d g i j m n o,ff a c e i,fg a c f i,fh a c g i,i,j,k,l,m,fj a c d g i n,o,p) [(0,0),(1,1600),(2,2),(3,3),(4,4),(5,5),(6,6),(7,7),(8,8),(9,9),(10,10)])))) (.ext 0 [(0,0),(1,1),(2,2),(3,3),(4,4),(5,5),(6,6),(7,7),(8,8),(9,9),(10,10)])
def nr(s:St):Option bI:=do
 let some ⟨none,.one ⟨false,[.val (.int .i64 a)]⟩⟩:=s.look 13|none
 let some ⟨none,.one ⟨false,[.val (.int .i64 b)]⟩⟩:=s.look 12|none
 let some ⟨none,.one ⟨false,[.ref 1]⟩⟩:=s.look 11|none
 let some ⟨none,.one ⟨false,[.ref 768]⟩⟩:=s.look 4|none
 let some ⟨none,.one ⟨false,[.ptr 0 0]⟩⟩:=s.look 0|none
 let some (.row false 64 (.pair (.int .i64) (.pair .str (.int .i64))) c):=s.ent 1|none
 let some (.box 117 [.val (.string e),.ref 2,.ref 3,.ref 4,.val (.string f),.ref 5,.ref 6,.ref 7,.ref 8,.ref 9,.val (.int .i64 g)]):=s.ent 0|none
 let some (.row false 9 (.str) i):=s.ent 2|none
 let some (.row false 9 (.str) j):=s.ent 3|none
 let some (.row false 9 (.str) k):=s.ent 4|none
 let some (.row false 61 (.pair .str (.sl 64 (.pair (.int .i64) (.pair .str (.int .i64))))) l):=s.ent 5|none
 let some (.row true 2 (.int .i64) m):=s.ent 6|none
 let some (.row true 129 (.pair (.int .i64) (.pair (.int .i64) (.int .i64))) n):=s.ent 7|none
 let some (.row false 2 (.int .i64) o):=s.ent 8|none
 let some (.row true 2 (.int .i64) p):=s.ent 9|none
 let some (.row true 2 (.int .i64) d):=s.ent 768|none
 some (a,b,c,d,e,f,g,i,j,k,l,m,n,o,p)
def aq:Lp bI where
 h:=⟨[14,15,16,6,17,18,19,20,21,22,7,23,24,25,26,27,28,8,29,30,31,32,33,34,4,35,13],[0,2,3,4,5,6,7,8,9,10],[1],[]⟩
 JL:=Eg
 JE:=Ef
 XL:=Ei
 XE:=Eh
 q:=fun j=>match j with | _=> .exit 0
 tags:= [0]
 lt:=fm
 fuel:=fun(a,b,c,d,e,f,g,i,k,l,m,n,o,p,r)=>a.natAbs + b.natAbs + c.length + d.length + e.size + f.size + g.natAbs + i.length + k.length + l.length + m.length + n.length + o.length + p.length + r.length
 fix:=fun(_,b,c,_,_,_,_,i,k,l,m,n,_,p,r) (a,_,_,d,e,f,g,_,_,_,_,_,o,_,_)=>(a,b,c,d,e,f,g,i,k,l,m,n,o,p,r)
 σ:= [(0,1),(2,0),(3,2),(4,3),(5,4),(6,5),(7,6),(8,7),(9,8),(10,9),(1,768)]
 rd:=nr
theorem DJ:LoopOk prog (fun k=>Nat.blt k Tryz.f90.ntmps) aq.F (bc f90 0):=by
 refine Lp.ok (tbl:= [PF.views prog,vA,Md,PF.lendBut 129 (PF.view wY)]) (lf:= []) aZ aq (by kernel_rfl) (LOk.nil _) (fun _=>rfl) (fun _ _=>rfl) ?_ ?_ ?_ ?_ (fun _=>rfl) ?_
 ·intro _;kernel_rfl
 ·intro _;kernel_rfl
 ·intro s x h
  have h:nr s=some x:=h
  unfold nr at h
  repeat' split at h
  all_goals cases h
  constructor<;>repeat(first|refine aa ‹_› rfl ?_|refine ab rfl ‹_› rfl ?_|rfl)
 ·intro _;kernel_rfl
 ·intro _ _;exact(And.intro rfl trivial)
section
variable (a b c:arp)(d:Int)(e:aje)(f g i:List arp)(j:agT)(k:aro)(l:alL)(m n:aro)
def bX:Int×Int×aje×aro×arp×arp×Int×List arp×List arp×List arp×agT×aro×alL×aro×aro:=((0:Int),(↑e.length:Int),e,[],b,c,d,f,g,i,j,k,l,m,n)
def cQ:aro×arp×arp×Int×List arp×List arp×List arp×agT×aro×alL×aro×aro:=(Lp.res aq (bX b c d e f g i j k l m n)).2.2.2.2
def ea:arp×arp×Int×List arp×List arp×List arp×agT×aro×alL×aro×aro:=(cQ b c d e f g i j k l m n).2
def fY:arp×Int×List arp×List arp×List arp×agT×aro×alL×aro×aro:=(ea b c d e f g i j k l m n).2
def km:Int×List arp×List arp×List arp×agT×aro×alL×aro×aro:=(fY b c d e f g i j k l m n).2
def fZ:aro:=(cQ b c d e f g i j k l m n).1
def kn:Int:=v9 (fZ b c d e f g i j k l m n)[v7 0]? 0
def ko:Bool:=ltI 0 (↑(v8 (fZ b c d e f g i j k l m n)):Int)
def kq:Bool:=ltN (v7 0) (v8 (fZ b c d e f g i j k l m n))
def kT:arp:=(ea b c d e f g i j k l m n).1
def kU:arp:=(fY b c d e f g i j k l m n).1
def kV:Int:=(km b c d e f g i j k l m n).1
def kW:aro:=bif leI 0 (gh g a)then List.set k (v7 (gh g a)) (kn b c d e f g i j k l m n)else k
def kX:alK:=((km b c d e f g i j k l m n).2.2.2.2.2.2).1
def kY:aro:=bif leI 0 (gh g a)then n else List.set n (v7 (gh i a)) (kn b c d e f g i j k l m n)
def gB:Bool:=allT [Lp.fin aq (bX b c d e f g i j k l m n),leN g.length (9223372036854775807:Nat),!leI 0 (gh g a)||leI 0 0,!leI 0 (gh g a)||ko b c d e f g i j k l m n,!leI 0 (gh g a)||kq b c d e f g i j k l m n,!leI 0 (gh g a)||leI 0 (gh g a),!leI 0 (gh g a)||ltI (gh g a) (↑k.length:Int),!leI 0 (gh g a)||ltN (v7 (gh g a)) k.length,leI 0 (gh g a)||leN i.length (9223372036854775807:Nat),leI 0 (gh g a)||leI 0 0,leI 0 (gh g a)||ko b c d e f g i j k l m n,leI 0 (gh g a)||kq b c d e f g i j k l m n,leI 0 (gh g a)||leI 0 (gh i a),leI 0 (gh g a)||ltI (gh i a) (↑n.length:Int),leI 0 (gh g a)||ltN (v7 (gh i a)) n.length]
end
def wU:arq
 | [.one ⟨false,[.ptr 0 0]⟩,.one ⟨true,[.val (.string a),.ref 1]⟩],[.box 117 [.val (.string b),.ref 2,.ref 3,.ref 4,.val (.string c),.ref 5,.ref 6,.ref 7,.ref 8,.ref 9,.val (.int .i64 d)],.row false 64 (.pair (.int .i64) (.pair (.str) (.int .i64))) e,.row false 9 (.str) f,.row false 9 (.str) g,.row false 9 (.str) i,.row false 61 (.pair (.str) (.sl 64 (.pair (.int .i64) (.pair (.str) (.int .i64))))) j,.row true 2 (.int .i64) k,.row true 129 (.pair (.int .i64) (.pair (.int .i64) (.int .i64))) l,.row false 2 (.int .i64) m,.row true 2 (.int .i64) n]=>some ⟨.tup [],[.box 117 [.val (.string (kT b c d e f g i j k l m n)),.ref 2,.ref 3,.ref 4,.val (.string (kU b c d e f g i j k l m n)),.ref 5,.ref 6,.ref 7,.ref 8,.ref 9,ars (kV b c d e f g i j k l m n)],arA e,arv f,arv g,arv i,arz j,arC (kW a b c d e f g i j k l m n),arF (kX b c d e f g i j k l m n),arB m,arC (kY a b c d e f g i j k l m n)],[],[gB a b c d e f g i j k l m n]⟩
 |_,_=>none
def wX:PF prog:=PF.ofG prog [PF.views prog,vA,Md,PF.lendBut 129 (PF.view wY)] [aq.F] aZ 90 f90 func90 (LOk.fnT (l:= [bc f90 0]) (by kernel_rfl) (.cons DJ (.nil _))) wU (by
 intro _ _ _ h;unfold wU at h;split at h<;>cases h;kernel_rfl)
theorem anw{a b:Int}(ha:a=0∨a=1)(hb:b=0∨b=1):IntKind.i64.wrap ((BitVec.toNat (BitVec.ofInt (IntKind.bits IntKind.i64) a&&& BitVec.ofInt (IntKind.bits IntKind.i64) b):Nat):Int)=aod a b:=by
 rcases ha with rfl | rfl <;> rcases hb with rfl | rfl <;> rfl
theorem ao4{a b:Int}(ha:a=0∨a=1)(hb:b=0∨b=1):IntKind.i64.wrap ((BitVec.toNat (BitVec.ofInt (IntKind.bits IntKind.i64) a||| BitVec.ofInt (IntKind.bits IntKind.i64) b):Nat):Int)=orI a b:=by
 rcases ha with rfl | rfl <;> rcases hb with rfl | rfl <;> rfl
theorem ao0{a:Int}(ha:a=0∨a=1):IntKind.i64.wrap (1 - a)=1 - a:=by rcases ha with rfl | rfl <;> rfl
theorem ab0{l:List arp}{s:arp}(h:hasS l s=true):gh l s=(SR l s:Int):=by simp only [gh,h,cond_true]
theorem alG(s:arp)(ins vs:List arp)(inp xs:aro)(hr:PN ins vs s=true)(h1:leN ins.length 9223372036854775807=true)(h2:leN vs.length 9223372036854775807=true)(hi:inp.length=ins.length)(hx:xs.length=vs.length):
  IP s ins vs xs inp=nmV ins vs inp xs s∧IQ s ins vs xs inp=true:=by
 cases h:hasS ins s with
 |true=>
  have e:=ab0 h
  have hp:=afb h
  have l0:leI 0 (SR ins s:Int)=true:=cG (by omega)
  have l1:ltI (SR ins s:Int) (inp.length:Int)=true:=ew (by omega)
  have l2:ltN (SR ins s) inp.length=true:=gM (by omega)
  refine⟨?_,?_⟩
  ·simp only [IP,nmV,h,e,l0,cond_true];rfl
  ·simp only [IQ,e,l0,l1,l2,h1,h2,allT,z6,k9,Bool.true_or,cond_true]
 |false=>
  have hv:hasS vs s=true:=by simpa [PN,h] using hr
  have e0:leI 0 (gh ins s)=false:=by rw [WK,h]
  have e:=ab0 hv
  have hp:=afb hv
  have l0:leI 0 (SR vs s:Int)=true:=cG (by omega)
  have l1:ltI (SR vs s:Int) (xs.length:Int)=true:=ew (by omega)
  have l2:ltN (SR vs s) xs.length=true:=gM (by omega)
  refine⟨?_,?_⟩
  ·simp only [IP,nmV,h,e0,e,cond_false];rfl
  ·simp only [IQ,e0,e,l0,l1,l2,h1,h2,allT,z6,k9,Bool.true_or,Bool.not_false,cond_true]
theorem ajC(s:arp)(ins vs:List arp)(inp xs:aro):pg s ins vs xs inp=IP s ins vs xs inp∧pp s ins vs xs inp=IQ s ins vs xs inp:=⟨rfl,rfl⟩
theorem ajD(s:arp)(ins vs:List arp)(inp xs:aro):kt s ins vs xs inp=IP s ins vs xs inp∧ku s ins vs xs inp=IQ s ins vs xs inp:=⟨rfl,rfl⟩
structure TmOk (ins vs:List arp) (inp xs:aro) (t:TM) (ar:aro) (k:Nat) (ss:List BS3):Prop where
 hT:termB t.1 t.2.1 t.2.2=true
 ha:bitsB (takesK t.1) ar=true
 hu:usedB ins vs t=true
 h1:leN ins.length 9223372036854775807=true
 h2:leN vs.length 9223372036854775807=true
 hi:inp.length=ins.length
 hx:xs.length=vs.length
 hb:leI 7 t.1=true→k < ss.length∧possB t.1 t.2.2 (stAt ss k).1 (stAt ss k).2.1 (stAt ss k).2.2=true
 hs:ss.length≤100000
theorem apZ{ins vs:List arp}{inp xs:aro}{kd:Int}{nm:arp}{num:Int}{ar:aro}{k:Nat}{ss:List BS3}(h:TmOk ins vs inp xs (kd,nm,num) ar k ss)(hk:k≤ss.length)(u v:arp):
  ce kd nm num (k:Int) ar ins vs xs ss inp=tmV ins vs inp xs (kd,nm,num) ar (stAt ss k)∧
  gC kd nm u ins=u∧gD kd nm v ins=v∧
  bg kd nm (k:Int) ins=((bif leI 7 kd then k + 1 else k:Nat):Int)∧
  bh kd nm num (k:Int) ar ins ss=(bif leI 7 kd then ss.set k (adj kd num ar (stAt ss k))else ss)∧
  bi kd nm (k:Int) ar ins vs xs ss inp=true:=by
 obtain⟨hT,ha,hu,h1,h2,hi,hx,hb,hs⟩:=h
 have hkk:=ajz hT
 simp only at hT ha hu hb hkk
 have hbits:=(lc.1 ha).1
 have nN:=(lc.1 ha).2
 have a0:=YC hbits 0
 have a1:=YC hbits 1
 have hc:kd=1∨kd=2∨kd=3∨kd=4∨kd=5∨kd=6∨(7≤kd∧kd≤12):=by omega
 have c1: ∀ x:arp,ph nm x ins=x:=fun x=>v5 _ _
 have c2: ∀ x:arp,pj nm x ins=x:=fun x=>v5 _ _
 have c3: ∀ x:Int,pm nm x ins=x:=fun x=>v5 _ _
 have c4: ∀ x:List BS3,po nm ins x=x:=fun x=>v5 _ _
 have z00:leI (0:Int) 0=true:=rfl
 have z01:leI (0:Int) 1=true:=rfl
 have e0:kr ar=atZ ar 0:=rfl
 have e1:v9 ar[v7 (1:Int)]? (0:Int)=atZ ar 1:=rfl
 rcases hc with rfl | rfl | rfl | rfl | rfl | rfl | hc
 ·have hr:PN ins vs nm=true:=by simpa [usedB] using hu
  obtain⟨v1,v2⟩:=alG nm ins vs inp xs hr h1 h2 hi hx
  have q:leI 7 (1:Int)=false:=rfl
  refine⟨?_,?_,?_,?_,?_,?_⟩
  ·simp [ce,tmV,(ajC nm ins vs inp xs).1,v1]
  ·simp [gC,c1]
  ·simp [gD,c2]
  ·simp [bg,c3,q]
  ·simp [bh,c4,q]
  ·simp [bi,(ajC nm ins vs inp xs).2,v2,allT]
 ·have q:leI 7 (2:Int)=false:=rfl
  refine⟨rfl,rfl,rfl,?_,?_,?_⟩
  ·simp [bg,q]
  ·simp [bh,q]
  ·simp [bi,allT]
 ·have q:leI 7 (3:Int)=false:=rfl
  refine⟨rfl,rfl,rfl,?_,?_,?_⟩
  ·simp [bg,q]
  ·simp [bh,q]
  ·simp [bi,allT]
 ·have q:leI 7 (4:Int)=false:=rfl
  have t:takesK 4=1:=rfl
  rw [t]at nN
  have s1:ltI 0 (ar.length:Int)=true:=ew (by omega)
  have s2:ltN (v7 0) ar.length=true:=gM (by simp only [Int.toNat_zero];omega)
  refine⟨?_,rfl,rfl,?_,?_,?_⟩
  ·simp [ce,tmV,e0,ao0 a0]
  ·simp [bg,q]
  ·simp [bh,q]
  ·simp only [bi,allT,z00,s1,s2];rfl
 ·have q:leI 7 (5:Int)=false:=rfl
  have t:takesK 5=2:=rfl
  rw [t]at nN
  have s1:ltI 0 (ar.length:Int)=true:=ew (by omega)
  have s2:ltN (v7 0) ar.length=true:=gM (by simp only [Int.toNat_zero];omega)
  have s3:ltI 1 (ar.length:Int)=true:=ew (by omega)
  have s4:ltN (v7 1) ar.length=true:=gM (by have:(v7 1)=1:=rfl;omega)
  refine⟨?_,rfl,rfl,?_,?_,?_⟩
  ·have:=anw a0 a1
   simp only [ce,tmV,e0,e1,this];rfl
  ·simp [bg,q]
  ·simp [bh,q]
  ·simp only [bi,allT,z00,z01,s1,s2,s3,s4];rfl
 ·have q:leI 7 (6:Int)=false:=rfl
  have t:takesK 6=2:=rfl
  rw [t]at nN
  have s1:ltI 0 (ar.length:Int)=true:=ew (by omega)
  have s2:ltN (v7 0) ar.length=true:=gM (by simp only [Int.toNat_zero];omega)
  have s3:ltI 1 (ar.length:Int)=true:=ew (by omega)
  have s4:ltN (v7 1) ar.length=true:=gM (by have:(v7 1)=1:=rfl;omega)
  refine⟨?_,rfl,rfl,?_,?_,?_⟩
  ·have:=ao4 a0 a1
   simp only [ce,tmV,e0,e1,this];rfl
  ·simp [bg,q]
  ·simp [bh,q]
  ·simp only [bi,allT,z00,z01,s1,s2,s3,s4];rfl
 ·have q:leI 7 kd=true:=cG hc.1
  obtain⟨b1,b2⟩:=hb q
  have hB:=Zd (t:=(kd,nm,num)) hT q
  simp only at hB
  obtain⟨p0,p1,p2,p3,p4,p5,p6⟩:=anp hB b2 ha
  have t1:(kd==1)=false:=by simp;omega
  have t2:(kd==2)=false:=by simp;omega
  have t3:(kd==3)=false:=by simp;omega
  have t4:(kd==4)=false:=by simp;omega
  have t5:(kd==5)=false:=by simp;omega
  have t6:(kd==6)=false:=by simp;omega
  have ca:aE (k:Int) ss=stAt ss k:=by simp only [aE,z6,stAt]
  have l0:leI 0 (k:Int)=true:=cG (by omega)
  have l1:ltI (k:Int) (ss.length:Int)=true:=ew (by omega)
  have l2:ltN k ss.length=true:=gM b1
  have hw:IntKind.i64.wrap ((k:Int) + 1)=((k + 1:Nat):Int):=by rw [be (by omega) (by omega)];omega
  refine⟨?_,?_,?_,?_,?_,?_⟩
  ·simp only [ce,tmV,t1,t2,t3,t4,t5,t6,cond_false,pN,ca,p0,aqD]
  ·simp only [gC,t1,t2,t3,t4,t5,t6,cond_false]
  ·simp only [gD,t1,t2,t3,t4,t5,t6,cond_false]
  ·simp only [bg,t1,t2,t3,t4,t5,t6,cond_false,q,cond_true,pO,hw]
  ·simp only [bh,t1,t2,t3,t4,t5,t6,cond_false,q,cond_true,pP,ca,p1,p2,p3,adj,z6]
  ·simp only [bi,t1,t2,t3,t4,t5,t6,pQ,p4,l0,l1,l2,z6,allT,Bool.false_or,Bool.not_false,Bool.true_or,k9,cond_true]
theorem amY(ins vs:List arp)(inp xs:aro): ∀ (ts:List TM) (a:LS),ts.foldl (fun a t=>lnS ins vs inp xs t a) a=aeT ins vs inp xs ts a
 | [],a=>rfl
 |t::r,a=>by rw [List.foldl_cons,amY ins vs inp xs r];rfl
structure LineH (ins vs:List arp) (inp xs:aro) (pre post ts:List TM):Prop where
 hi:bitsB ins.length inp=true
 hx:bitsB vs.length xs=true
 ok: ∃ e,htT ts 0=some e
 hu:ts.all (usedB ins vs)=true
 hn:ts.length≤40
 hbl:(pre++blT ts++post).length≤2000
 h1:leN ins.length 9223372036854775807=true
 h2:leN vs.length 9223372036854775807=true
theorem LineH.tm{ins vs:List arp}{inp xs:aro}{pre post ts:List TM}(h:LineH ins vs inp xs pre post ts){i:Nat}{t:TM}{a:LS}(ht:ts[i]? =some t)(hI:ajE pre post ts i a):
  TmOk ins vs inp xs t (a.1.drop (ltk t a.1)) a.2.2 a.2.1∧a.2.2≤a.2.1.length∧a.2.1.length≤2000∧(0≤takesK t.1∧takesK t.1≤a.1.length)∧a.1.length≤40∧ajE pre post ts (i + 1) (lnS ins vs inp xs t a):=by
 obtain⟨e,ok⟩:=h.ok
 obtain⟨g1,g2,g3,g4,g5,g6,g7,g8,g9⟩:=aji (ins:=ins) (vs:=vs) h.hi h.hx ok ht hI
 have hi2:=(lc.1 h.hi).2
 have hx2:=(lc.1 h.hx).2
 have hil:=(v6.1 ht).1
 have hn:=h.hn
 have hbl:=h.hbl
 refine⟨⟨g3,g4,List.all_eq_true.1 h.hu t (List.mem_of_getElem? ht),h.h1,h.h2,by omega,by omega,fun h7=> ?_,by omega⟩,by omega,by omega,g1,by omega,g9⟩
 obtain⟨q1,q2⟩:=g6 h7
 exact⟨by omega,q2⟩
theorem aoN{ins vs:List arp}{inp xs:aro}{pre post ts:List TM}(h:LineH ins vs inp xs pre post ts)(u v:arp)(os:List arp)(ls:List LN)(ou:aro)(ss:List BS3)(k:Nat)(h0:ajE pre post ts 0 ([],ss,k)):
  aq.fin ((0:Int),(ts.length:Int),ts,[],u,v,(k:Int),ins,vs,os,ls,xs,ss,inp,ou)=true∧
  aq.res ((0:Int),(ts.length:Int),ts,[],u,v,(k:Int),ins,vs,os,ls,xs,ss,inp,ou)=
   (0,((ts.length:Int),(ts.length:Int),ts,(aeT ins vs inp xs ts ([],ss,k)).1,u,v,((aeT ins vs inp xs ts ([],ss,k)).2.2:Int),ins,vs,os,ls,xs,(aeT ins vs inp xs ts ([],ss,k)).2.1,inp,ou)):=by
 have qa:=aq.along2 (fun i (a:LS)=>((i:Int),(ts.length:Int),ts,a.1,u,v,(a.2.2:Int),ins,vs,os,ls,xs,a.2.1,inp,ou)) (fun x=>(x.2.2.2.1,x.2.2.2.2.2.2.2.2.2.2.2.2.1,x.2.2.2.2.2.2.1.toNat))
  (fun(t:TM) a=> .inr (lnS ins vs inp xs t a)) 0 (fun i a=>ajE pre post ts i a) ts ([],ss,k) h0 (by have:=h.hn;omega) (fun i t a hb hI=> ?_) (fun a hI=> ?_)
 ·rw [Ye (g:=fun a t=>lnS ins vs inp xs t a) (fun b a=>rfl),amY]at qa
  simpa using qa
 ·obtain⟨hm,hk,hs,htk,hst,hI2⟩:=h.tm hb hI
  have iX:=(v6.1 hb).1
  have hn:=h.hn
  have hw:IntKind.i64.wrap ((i:Int) + 1)=((i + 1:Nat):Int):=by rw [be (by omega) (by omega)];omega
  obtain⟨kd,nm,num⟩:=t
  obtain⟨stk,ss',k'⟩:=a
  simp only at hk hs htk hst hm
  have g0:ah (i:Int) ts=(kd,nm,num):=by simp only [ah,z6,hb,Option.getD_some]
  have g1:aP (i:Int) ts stk=((ltk (kd,nm,num) stk:Nat):Int):=by
   simp only [aP,g0,amO,ltk]
   rw [be (by omega) (by omega)];omega
  obtain⟨r0,r1,r2,r3,r4,r5⟩:=apZ hm hk u v
  have g2:fk (i:Int) ts stk (k':Int) ins vs xs ss' inp= [tmV ins vs inp xs (kd,nm,num) (stk.drop (ltk (kd,nm,num) stk)) (stAt ss' k')]:=by
   simp only [fk,g0,g1,z6,r0]
  have hlk:ltk (kd,nm,num) stk≤stk.length:=Nat.sub_le _ _
  have l0:ltI (i:Int) (ts.length:Int)=true:=ew (by omega)
  have l1:leI 0 (i:Int)=true:=cG (by omega)
  have l2:ltN i ts.length=true:=gM iX
  have l3:leI 0 ((ltk (kd,nm,num) stk:Nat):Int)=true:=cG (by omega)
  have l4:leI ((ltk (kd,nm,num) stk:Nat):Int) (stk.length:Int)=true:=cG (by omega)
  have l5:leN (ltk (kd,nm,num) stk) stk.length=true:=bK hlk
  have l6:leN ((List.take (ltk (kd,nm,num) stk) stk).length + 1) 9223372036854775807=true:=bK (by rw [j7];omega)
  have l7:leN (((List.take (ltk (kd,nm,num) stk) stk).length + 1) * 8) 140737488355328=true:=bK (by rw [j7];omega)
  refine⟨?_,?_,?_,fun a' hf=> ?_⟩
  ·simp only [fB,fC,fD,fE,dD,dE,fF,fG,fH,fI,fc,fe,ff,fg,fh,fj,fm,aq,LT.nds,allT,g0,g1,g2,r5,l0,l1,l2,l3,l4,l5,l6,l7,z9,z6,cond_true,Bool.and_self]
  ·simp only [fB,fC,fD,fE,dD,dE,fF,fG,fH,fI,fc,fe,ff,fg,fh,fj,fm,aq,LT.each,g0,g1,g2,r1,r2,r3,r4,l0,hw,z6,Bool.and_true,and_self]
  ·simp only [fB,fC,fD,fE,dD,dE,fF,fG,fH,fI,fc,fe,ff,fg,fh,fj,fm,aq,LT.fn,g0,g1,g2,r3,r4,l0,z6,cond_true,lnS]
  ·simp only [Sum.inr.injEq]at hf
   subst hf;exact hI2
 ·have lR:ltI (ts.length:Int) (ts.length:Int)=false:=CE (by omega)
  simp [fB,fC,fD,fE,dD,dE,fF,fG,fH,fI,fc,fe,ff,fg,fh,fj,fm,aq,LT.out,lR]
abbrev cn:=Int×Int×List (arp×(List (Int×(arp×Int))))×arp×arp×Int×List arp×List arp×List arp×List Int×List (Int×(Int×Int))×List Int×List Int
section
variable (a b:Int)(c:agS)(d e:arp)(f:Int)(g i j:List arp)(k:aro)(l:alK)(m n:aro)
def aQ:arp×aje:=v9 c[v7 a]? (ul aao)
def hO:Bool:=ltI a b
def hY:Bool:=leI 0 a
def hZ:Bool:=ltI a (↑c.length:Int)
def ia:Bool:=ltN a.toNat c.length
def ib:Bool:=gB ((aQ a c).1) d e f ((aQ a c).2) g i j c k l m n
def ic:Int:=qqq .i64 (a + (1:Int))
def ie:arp:=kT d e f ((aQ a c).2) g i j c k l m n
def ig:arp:=kU d e f ((aQ a c).2) g i j c k l m n
def ii:Int:=kV d e f ((aQ a c).2) g i j c k l m n
def ij:aro:=kW ((aQ a c).1) d e f ((aQ a c).2) g i j c k l m n
def gz:alK:=kX d e f ((aQ a c).2) g i j c k l m n
def gA:aro:=kY ((aQ a c).1) d e f ((aQ a c).2) g i j c k l m n
end
def He:cn→List (Nat×SV)
 |(a,b,_,_,_,_,_,_,_,_,_,_,_)=> [(24,(aru a)),(23,(aru b)),(22,(art (.ref 0))),(8,(art (.ptr 1 0)))]
def Hc:cn→List (Nat×Entry)
 |(_,_,a,b,c,d,e,f,g,i,j,k,l)=> [(0,(arx a)),(1,(.box 117 [.val (.string b),.ref 2,.ref 3,.ref 4,.val (.string c),.ref 0,.ref 5,.ref 6,.ref 7,.ref 8,ars d])),(2,(arv e)),(3,(arv f)),(4,(arv g)),(5,(arC i)),(6,(arF j)),(7,(arB k)),(8,(arC l))]
def Hi:Nat→cn→List (Nat×SV)
 |_,_=>[]
def gF:cn→LT cn
 |(a,b,c,d,e,f,g,i,j,k,l,m,n)=> .ite (hO a b) (.need [hY a,hZ a c,ia a c] (.need [ib a c d e f g i j k l m n] (.nrm ((ic a),b,c,ie a c d e f g i j k l m n,ig a c d e f g i j k l m n,ii a c d e f g i j k l m n,g,i,j,ij a c d e f g i j k l m n,gz a c d e f g i j k l m n,m,(gA a c d e f g i j k l m n)) [(0,0),(1,1),(2,2),(3,3),(4,4),(5,5),(6,6),(7,7),(8,8)]))) (.ext 0 [(0,0),(1,1),(2,2),(3,3),(4,4),(5,5),(6,6),(7,7),(8,8)])
def pT(s:St):Option cn:=do
 let some ⟨none,.one ⟨false,[.val (.int .i64 a)]⟩⟩:=s.look 24|none
 let some ⟨none,.one ⟨false,[.val (.int .i64 b)]⟩⟩:=s.look 23|none
 let some ⟨none,.one ⟨false,[.ref 3]⟩⟩:=s.look 22|none
 let some ⟨none,.one ⟨false,[.ptr 1344 0]⟩⟩:=s.look 8|none
 let some (.row false 61 (.pair .str (.sl 64 (.pair (.int .i64) (.pair .str (.int .i64))))) c):=s.ent 3|none
 let some (.box 117 [.val (.string d),.ref 0,.ref 1,.ref 2,.val (.string e),.ref 3,.ref 896,.ref 897,.ref 6,.ref 1216,.val (.int .i64 f)]):=s.ent 1344|none
 let some (.row false 9 (.str) g):=s.ent 0|none
 let some (.row false 9 (.str) i):=s.ent 1|none
 let some (.row false 9 (.str) j):=s.ent 2|none
 let some (.row true 2 (.int .i64) k):=s.ent 896|none
 let some (.row true 129 (.pair (.int .i64) (.pair (.int .i64) (.int .i64))) l):=s.ent 897|none
 let some (.row false 2 (.int .i64) m):=s.ent 6|none
 let some (.row true 2 (.int .i64) n):=s.ent 1216|none
 some (a,b,c,d,e,f,g,i,j,k,l,m,n)
def aK:Lp cn where
 h:=⟨[25,26,27,10,28,29,30,31,24],[0,1,2,3,4,5,6,7,8],[],[]⟩
 JL:=He
 JE:=Hc
 XL:=Hi
 XE:=fun _=>Hc
 q:=fun j=>match j with | _=> .exit 0
 tags:= [0]
 lt:=gF
 fuel:=fun(a,b,c,d,e,f,g,i,k,l,m,n,o)=>a.natAbs + b.natAbs + c.length + d.size + e.size + f.natAbs + g.length + i.length + k.length + l.length + m.length + n.length + o.length
 fix:=fun(_,b,c,_,_,_,g,i,k,_,_,n,_) (a,_,_,d,e,f,_,_,_,l,m,_,o)=>(a,b,c,d,e,f,g,i,k,l,m,n,o)
 σ:= [(0,3),(1,1344),(2,0),(3,1),(4,2),(5,896),(6,897),(7,6),(8,1216)]
 rd:=pT
theorem FJ:LoopOk prog (fun k=>Nat.blt k Tryz.f55.ntmps) aK.F (bc f55 0):=by
 refine Lp.ok (tbl:= [yI,wX,wD]) (lf:= []) aZ aK (by kernel_rfl) (LOk.nil _) (fun _=>rfl) (fun _ _=>rfl) ?_ ?_ ?_ ?_ (fun _=>rfl) ?_
 ·intro _;kernel_rfl
 ·intro _;kernel_rfl
 ·intro s x h
  have h:pT s=some x:=h
  unfold pT at h
  repeat' split at h
  all_goals cases h
  constructor<;>repeat(first|refine aa ‹_› rfl ?_|refine ab rfl ‹_› rfl ?_|rfl)
 ·intro _;kernel_rfl
 ·intro _ _;exact(And.intro rfl trivial)
section
variable (a b:arp)(c d e:List arp)(f:agT)(g:aro)(i:alL)(j:aro)
def dK:Bool:= !ByteArray.toList b==ByteArray.toList (ByteArray.mk #[])
def jf:Int×Int×agT×arp×arp×Int×List arp×List arp×List arp×aro×alL×aro×aro:=((0:Int),(↑f.length:Int),f,a,b,(0:Int),c,d,e,g,i,j,qqw (v7 (↑e.length:Int)) (0:Int))
def me:aro×alL×aro×aro:=(Lp.res aK (jf a b c d e f g i j)).2.2.2.2.2.2.2.2.2.2
def fu:aro:=(me a b c d e f g i j).1
def mf:alL×aro×aro:=(me a b c d e f g i j).2
def rl:aro:=(mf a b c d e f g i j).2.2
def mg:aro:=bif dK b&&true then pu b c (rl a b c d e f g i j)else rl a b c d e f g i j
def mh:alL:=(mf a b c d e f g i j).1
def rS:aro:=bif bif dK b then kt b c d (fu a b c d e f g i j) j==0 else false then Yg (v8 (mg a b c d e f g i j))else mg a b c d e f g i j
def rT:aro:=bif dK b&&true then pq b c (fu a b c d e f g i j)else fu a b c d e f g i j
def rU:alK:=bif dK b&&true then pt b c (mh a b c d e f g i j)else mh a b c d e f g i j
def rV:Bool:=allT [md g i,leI 0 (↑e.length:Int),leI (↑e.length:Int) (↑e.length:Int),leI ((↑(8:Nat):Int) * (↑e.length:Int)) 281474976710656,leI (↑e.length:Int) 9223372036854775807,Lp.fin aK (jf a b c d e f g i j),!(dK b&&true)||ku b c d (fu a b c d e f g i j) j]
end
def zq:arq
 | [.one ⟨true,[.val (.string a),.ref 0,.ref 1,.ref 2,.val (.string b),.ref 3]⟩,.one ⟨true,[.ref 4,.ref 5]⟩,.one ⟨false,[.ref 6]⟩],[.row false 9 (.str) c,.row false 9 (.str) d,.row false 9 (.str) e,.row false 61 (.pair (.str) (.sl 64 (.pair (.int .i64) (.pair (.str) (.int .i64))))) f,.row false 2 (.int .i64) g,.row false 129 (.pair (.int .i64) (.pair (.int .i64) (.int .i64))) i,.row false 2 (.int .i64) j]=>some ⟨.tup [⟨false,[.ref 7]⟩,⟨true,[.ref 8,.ref 9]⟩],[arv c,arv d,arv e,arz f,arB g,arG i,arB j],[arC (rS a b c d e f g i j),arC (rT a b c d e f g i j),arF (rU a b c d e f g i j)],[rV a b c d e f g i j]⟩
 |_,_=>none
def KC:PF prog:=PF.ofG prog [yI,wX,wD] [aK.F] aZ 55 f55 func55 (LOk.fnT (l:= [bc f55 0]) (by kernel_rfl) (.cons FJ (.nil _))) zq (by
 intro _ _ _ h;unfold zq at h;split at h<;>cases h;kernel_rfl)
structure ScH (ins vs os:List arp) (inp:aro) (ls:List LN):Prop where
 hi:bitsB ins.length inp=true
 hL:ls.all lineB=true
 hm:ls.all (madeB vs os)=true
 hu:ls.all (fun l=>l.2.all (usedB ins vs))=true
 hn:ls.length≤40
 h1:ins.length≤20
 h2:vs.length≤20
 h3:os.length≤20
theorem aoj: ∀ (ls:List LN),ls.all lineB=true→(blL ls).length≤40 * ls.length
 | [],_=>by simp [blL]
 |l::r,h=>by
  simp only [List.all_cons,q9]at h
  have h1:=aoj r h.2
  have h2:=(VV h.1).2.1
  have h3:(blT l.2).length≤l.2.length:=List.length_filter_le ..
  have h4:blL (l::r)=blT l.2++blL r:=rfl
  rw [h4,j6,k7]
  omega
theorem ScH.bl{ins vs os:List arp}{inp:aro}{ls:List LN}(h:ScH ins vs os inp ls):(blL ls).length≤1600:=by
 have:=aoj ls h.hL
 have:=h.hn
 omega
theorem ScH.line{ins vs os:List arp}{inp:aro}{ls:List LN}(h:ScH ins vs os inp ls){i:Nat}{a:SS4}{l:LN}(hl:ls[i]? =some l)(hI:ScAt vs os ls i a):
  LineH ins vs inp a.1 (blL (ls.take i)) (blL (ls.drop (i + 1))) l.2:=by
 have hm:=List.mem_of_getElem? hl
 obtain⟨q1,q2,q3⟩:=VV (List.all_eq_true.1 h.hL l hm)
 have h1:=h.h1
 have h2:=h.h2
 have hb:=h.bl
 rw [(aiv hl).1]at hb
 exact⟨h.hi,hI.hx,⟨1,q3⟩,List.all_eq_true.1 h.hu l hm,q2,by omega,bK (by omega),bK (by omega)⟩
theorem amk{ins vs os:List arp}{inp:aro}{ls:List LN}(h:ScH ins vs os inp ls){i:Nat}{a:SS4}{l:LN}(hl:ls[i]? =some l)(hI:ScAt vs os ls i a)(u v:arp):
  (kT u v (a.2.2.2:Int) l.2 ins vs os ls a.1 a.2.2.1 inp a.2.1=u∧
  kU u v (a.2.2.2:Int) l.2 ins vs os ls a.1 a.2.2.1 inp a.2.1=v∧
  kV u v (a.2.2.2:Int) l.2 ins vs os ls a.1 a.2.2.1 inp a.2.1=((scS ins vs os inp l a).2.2.2:Int))∧
  kW l.1 u v (a.2.2.2:Int) l.2 ins vs os ls a.1 a.2.2.1 inp a.2.1=(scS ins vs os inp l a).1∧
  kX u v (a.2.2.2:Int) l.2 ins vs os ls a.1 a.2.2.1 inp a.2.1=(scS ins vs os inp l a).2.2.1∧
  kY l.1 u v (a.2.2.2:Int) l.2 ins vs os ls a.1 a.2.2.1 inp a.2.1=(scS ins vs os inp l a).2.1∧
  gB l.1 u v (a.2.2.2:Int) l.2 ins vs os ls a.1 a.2.2.1 inp a.2.1=true:=by
 obtain⟨w1,w2⟩:=aoN (h.line hl hI) u v os ls a.2.1 a.2.2.1 a.2.2.2 (ajw hl hI)
 have hm:=List.mem_of_getElem? hl
 obtain⟨g1,g2,g3⟩:=af6 (ins:=ins) (inp:=inp) h.hi (List.all_eq_true.1 h.hL l hm) hl hI
 have hmd:(hasS vs l.1||hasS os l.1)=true:=List.all_eq_true.1 h.hm l hm
 have h2:=h.h2
 have h3:=h.h3
 have hx:=(lc.1 hI.hx).2
 have ho:=(lc.1 hI.ho).2
 rw [show aeT ins vs inp a.1 l.2 ([],a.2.2.1,a.2.2.2)=lnV ins vs inp l a from rfl]at w2
 have e5:fZ u v (a.2.2.2:Int) l.2 ins vs os ls a.1 a.2.2.1 inp a.2.1=(lnV ins vs inp l a).1:=by
  simp only [fZ,cQ,bX,w2]
 have e6:kn u v (a.2.2.2:Int) l.2 ins vs os ls a.1 a.2.2.1 inp a.2.1=atZ (lnV ins vs inp l a).1 0:=by
  simp only [kn,e5];rfl
 have e7:ko u v (a.2.2.2:Int) l.2 ins vs os ls a.1 a.2.2.1 inp a.2.1=true:=by
  simp only [ko,e5,g1];rfl
 have e8:kq u v (a.2.2.2:Int) l.2 ins vs os ls a.1 a.2.2.1 inp a.2.1=true:=by
  simp only [kq,e5,g1];rfl
 have z0:leI (0:Int) 0=true:=rfl
 refine⟨⟨?_,?_,?_⟩,?_,?_,?_,?_⟩
 ·simp only [kT,ea,cQ,bX,w2]
 ·simp only [kU,fY,ea,cQ,bX,w2]
 ·simp only [kV,km,fY,ea,cQ,bX,w2,scS]
 ·simp only [kW,e6,WK,scS]
  cases hv:hasS vs l.1 with
  |true=>simp only [cond_true,ab0 hv,z6]
  |false=>rfl
 ·simp only [kX,km,fY,ea,cQ,bX,w2,scS]
 ·simp only [kY,e6,WK,scS]
  cases hv:hasS vs l.1 with
  |true=>rfl
  |false=>
   have ho':hasS os l.1=true:=by simpa [hv] using hmd
   simp only [cond_false,ab0 ho',z6]
 ·have l1:leN vs.length 9223372036854775807=true:=bK (by omega)
  have l2:leN os.length 9223372036854775807=true:=bK (by omega)
  have hf:Lp.fin aq (bX u v (a.2.2.2:Int) l.2 ins vs os ls a.1 a.2.2.1 inp a.2.1)=true:=w1
  cases hv:hasS vs l.1 with
  |true=>
   have hp:=afb hv
   have k1:ltI (SR vs l.1:Int) (a.1.length:Int)=true:=ew (by omega)
   have k2:ltN (SR vs l.1) a.1.length=true:=gM (by omega)
   simp only [gB,hf,WK,hv,ab0 hv,Tw.1,e7,e8,z0,l1,k1,k2,allT,z6,k9,Bool.true_or,cond_true]
  |false=>
   have ho':hasS os l.1=true:=by simpa [hv] using hmd
   have hp:=afb ho'
   have k1:ltI (SR os l.1:Int) (a.2.1.length:Int)=true:=ew (by omega)
   have k2:ltN (SR os l.1) a.2.1.length=true:=gM (by omega)
   simp only [gB,hf,WK,hv,ho',ab0 ho',Tw.1,e7,e8,z0,l1,l2,k1,k2,allT,z6,k9,Bool.true_or,Bool.not_false,cond_true]
theorem amZ(ins vs os:List arp)(inp:aro): ∀ (ls:List LN) (a:SS4),ls.foldl (fun a l=>scS ins vs os inp l a) a=aiW ins vs os inp ls a
 | [],a=>rfl
 |l::r,a=>by rw [List.foldl_cons,amZ ins vs os inp r];rfl
theorem apd{ins vs os:List arp}{inp xs:aro}{ss:List BS3}{ls:List LN}(h:ScH ins vs os inp ls)(hs:Kz vs.length (blL ls) xs ss=true)(u v:arp):
  aK.fin ((0:Int),(ls.length:Int),ls,u,v,(0:Int),ins,vs,os,xs,ss,inp,qqw os.length 0)=true∧
  aK.res ((0:Int),(ls.length:Int),ls,u,v,(0:Int),ins,vs,os,xs,ss,inp,qqw os.length 0)=
   (0,((ls.length:Int),(ls.length:Int),ls,u,v,((scE ins vs os ls inp xs ss).2.2.2:Int),ins,vs,os,(scE ins vs os ls inp xs ss).1,(scE ins vs os ls inp xs ss).2.2.1,inp,(scE ins vs os ls inp xs ss).2.1)):=by
 obtain⟨s1,s2,s3⟩:=Yd.1 hs
 have h0:ScAt vs os ls 0 (xs,qqw os.length 0,ss,0):=⟨s2,lc.2 ⟨fun z hz=> .inl (qqz hz),by simp⟩,s1,s3,by simp [blL]⟩
 have hn:=h.hn
 have qa:=aK.along2 (fun i (a:SS4)=>((i:Int),(ls.length:Int),ls,u,v,(a.2.2.2:Int),ins,vs,os,a.1,a.2.2.1,inp,a.2.1)) (fun x=>(x.2.2.2.2.2.2.2.2.2.1,x.2.2.2.2.2.2.2.2.2.2.2.2,x.2.2.2.2.2.2.2.2.2.2.1,x.2.2.2.2.2.1.toNat))
  (fun(l:LN) a=> .inr (scS ins vs os inp l a)) 0 (fun i a=>ScAt vs os ls i a) ls (xs,qqw os.length 0,ss,0) h0 (by omega) (fun i l a hb hI=> ?_) (fun a hI=> ?_)
 ·rw [Ye (g:=fun a l=>scS ins vs os inp l a) (fun b a=>rfl),amZ]at qa
  simpa [scE] using qa
 ·have iX:=(v6.1 hb).1
  have hm:=List.mem_of_getElem? hb
  have hw:IntKind.i64.wrap ((i:Int) + 1)=((i + 1:Nat):Int):=by rw [be (by omega) (by omega)];omega
  obtain⟨g1,g2,g3⟩:=af6 (ins:=ins) (inp:=inp) h.hi (List.all_eq_true.1 h.hL l hm) hb hI
  obtain⟨⟨r0,r1,r2⟩,r3,r4,r5,r6⟩:=amk h hb hI u v
  have pI: ∀ d:LN,v9 ls[i]? d=l:=fun d=>by rw [hb];rfl
  have q0:aQ (i:Int) ls=l:=by simp only [aQ,z6];exact pI _
  have p0:ltI (i:Int) (ls.length:Int)=true:=ew (by omega)
  have p1:leI 0 (i:Int)=true:=cG (by omega)
  have p3:ltN i ls.length=true:=gM iX
  refine⟨?_,?_,?_,fun a' hf=> ?_⟩
  ·simp only [hO,hY,hZ,ia,ib,ic,ie,ig,ii,ij,gz,gA,gF,aK,LT.nds,allT,q0,r0,r1,r2,r3,r4,r5,r6,p0,p1,p3,z6,cond_true,Bool.and_self]
  ·simp only [hO,hY,hZ,ia,ib,ic,ie,ig,ii,ij,gz,gA,gF,aK,LT.each,q0,r0,r1,r2,r3,r4,r5,p0,hw,z6,Bool.and_true,and_self]
  ·simp only [hO,hY,hZ,ia,ib,ic,ie,ig,ii,ij,gz,gA,gF,aK,LT.fn,q0,r2,r3,r4,r5,p0,z6,cond_true]
  ·simp only [Sum.inr.injEq]at hf
   subst hf;exact g3
 ·have lR:ltI (ls.length:Int) (ls.length:Int)=false:=CE (by omega)
  simp [hO,hY,hZ,ia,ib,ic,ie,ig,ii,ij,gz,gA,gF,aK,LT.out,lR]
theorem akS: ∀ (ts:List TM) (n e:Int),htT ts n=some e→ac6 (blT ts)=true
 | [],n,e,_=>rfl
 |t::r,n,e,h=>by
  simp only [htT]at h
  cases hc:(termB t.1 t.2.1 t.2.2&&leI (takesK t.1) n)with
  |false=>rw [hc]at h;cases h
  |true=>
   rw [hc,cond_true]at h
   simp only [q9]at hc
   have h1:=akS r _ e h
   cases h7:leI 7 t.1 with
   |false=>simpa only [blT,List.filter_cons,h7,Bool.false_eq_true,if_false] using h1
   |true=>
    simp only [blT,List.filter_cons,h7,if_true,ac6,List.all_cons,q9]
    exact⟨Zd hc.1 h7,h1⟩
theorem ahC: ∀ (ls:List LN),ls.all lineB=true→ac6 (blL ls)=true
 | [],_=>rfl
 |l::r,h=>by
  simp only [List.all_cons,q9]at h
  have h1:=ahC r h.2
  have h2:=akS _ _ _ (VV h.1).2.2
  have h4:blL (l::r)=blT l.2++blL r:=rfl
  simp only [ac6]at h1 h2
  simp only [h4,ac6,List.all_append,h1,h2,Bool.and_self]
theorem Ea{nm:arp}{ins vs os:List arp}{g:arp}{ls:List LN}(h:kP nm ins vs os g ls=true):
  (g.toList== []||PN ins vs g)=true∧ls.all lineB=true∧ls.all (madeB vs os)=true∧ls.all (fun l=>l.2.all (usedB ins vs))=true∧ls.length≤40∧ins.length≤20∧vs.length≤20∧os.length≤20:=by
 simp only [kP,abW,aix,Xa,q9,Es]at h
 obtain⟨⟨_,⟨_,i1⟩,⟨_,i2⟩,⟨_,i3⟩,_,hL,hn⟩,_,hg,hm,_,_,hu⟩:=h
 exact⟨hg,hL,hm,hu,by omega,by omega,by omega,by omega⟩
theorem akf{nm:arp}{ins vs os:List arp}{g:arp}{ls:List LN}{inp:aro}(h:kP nm ins vs os g ls=true)(hi:bitsB ins.length inp=true):ScH ins vs os inp ls:=by
 obtain⟨_,hL,hm,hu,hn,h1,h2,h3⟩:=Ea h
 exact⟨hi,hL,hm,hu,hn,h1,h2,h3⟩
def scG(nm:arp)(ins vs os:List arp)(g:arp)(ls:List LN)(xs:aro)(ss:List BS3)(inp:aro):Bool:=kP nm ins vs os g ls&&(Kz vs.length (blL ls) xs ss&&bitsB ins.length inp)
theorem afg{nm:arp}{ins vs os:List arp}{g:arp}{ls:List LN}{xs:aro}{ss:List BS3}{inp:aro}:
  scG nm ins vs os g ls xs ss inp=true↔kP nm ins vs os g ls=true∧Kz vs.length (blL ls) xs ss=true∧bitsB ins.length inp=true:=by
 simp only [scG,q9]
theorem akX(nm:arp)(ins vs os:List arp)(g:arp)(ls:List LN)(xs:aro)(ss:List BS3)(inp:aro)(h:scG nm ins vs os g ls xs ss inp=true):
  rS nm g ins vs os ls xs ss inp=scO ins vs os g ls inp xs ss∧rT nm g ins vs os ls xs ss inp=scV ins vs os ls inp xs ss∧
  rU nm g ins vs os ls xs ss inp=scB ins vs os ls inp xs ss∧rV nm g ins vs os ls xs ss inp=true:=by
 obtain⟨h1,h2,h3⟩:=afg.1 h
 obtain⟨hg,_⟩:=Ea h1
 have hS:=akf h1 h3
 obtain⟨w1,w2⟩:=apd hS h2 nm g
 have hE:=apc (os:=os) h3 hS.hL h2
 obtain⟨s1,s2,s3⟩:=Yd.1 h2
 have hb:=hS.bl
 have b1:=hS.h1
 have b2:=hS.h2
 have b3:=hS.h3
 have hx2:=(lc.1 s2).2
 have a1:jf nm g ins vs os ls xs ss inp=((0:Int),(ls.length:Int),ls,nm,g,(0:Int),ins,vs,os,xs,ss,inp,qqw os.length 0):=by
  simp only [jf,z6]
 have a0:dK g= !(g.toList== []):=by simp only [dK];rw [Rb]
 have e2:me nm g ins vs os ls xs ss inp=((scE ins vs os ls inp xs ss).1,(scE ins vs os ls inp xs ss).2.2.1,inp,(scE ins vs os ls inp xs ss).2.1):=by
  simp only [me,a1,w2]
 have e3:fu nm g ins vs os ls xs ss inp=(scE ins vs os ls inp xs ss).1:=by simp only [fu,e2]
 have e6:mg nm g ins vs os ls xs ss inp=(scE ins vs os ls inp xs ss).2.1:=by
  simp only [mg,rl,mf,e2,pu]
  rw [v5,v5]
 have e7:mh nm g ins vs os ls xs ss inp=(scE ins vs os ls inp xs ss).2.2.1:=by
  simp only [mh,mf,e2]
 have hv:(g.toList== [])=false→kt g ins vs (scE ins vs os ls inp xs ss).1 inp=nmV ins vs inp (scE ins vs os ls inp xs ss).1 g∧ku g ins vs (scE ins vs os ls inp xs ss).1 inp=true:=fun hgg=>by
  rw [hgg,Bool.false_or]at hg
  have q1:=(lc.1 h3).2
  have q2:=(lc.1 hE.hx).2
  rw [(ajD _ _ _ _ _).1,(ajD _ _ _ _ _).2]
  exact alG g ins vs inp _ hg (bK (by omega)) (bK (by omega)) (by omega) (by omega)
 have hol:(scE ins vs os ls inp xs ss).2.1.length=os.length:=by have:=(lc.1 hE.ho).2;omega
 refine⟨?_,?_,?_,?_⟩
 ·simp only [rS,a0,e3,e6,Yg,hol,scO]
  cases hgg:g.toList== []with
  |true=>rfl
  |false=>simp only [Bool.not_false,cond_true,(hv hgg).1,Bool.true_and];rfl
 ·simp only [rT,e3,pq,scV]
  rw [v5,v5]
 ·simp only [rU,e7,pt,scB]
  rw [v5,v5]
 ·have f1:Lp.fin aK (jf nm g ins vs os ls xs ss inp)=true:=by rw [a1];exact w1
  have f0:md xs ss=true:=by
   simp only [md,allT,bK (show xs.length≤1048576 by omega),bK (show ss.length≤1048576 by omega),cond_true]
  have f2:leI 0 (os.length:Int)=true:=cG (by omega)
  have f3:leI (os.length:Int) (os.length:Int)=true:=cG (by omega)
  have f4:leI (((8:Nat):Int) * (os.length:Int)) 281474976710656=true:=cG (by omega)
  have f5:leI (os.length:Int) 9223372036854775807=true:=cG (by omega)
  simp only [rV,f0,f1,f2,f3,f4,f5,a0,e3,allT,k9,cond_true,Bool.and_true]
  cases hgg:g.toList== []with
  |true=>rfl
  |false=>simp only [(hv hgg).2];rfl
def zu:arq
 | [.one ⟨true,[.val (.string a),.ref 0,.ref 1,.ref 2,.val (.string b),.ref 3]⟩,.one ⟨true,[.ref 4,.ref 5]⟩,.one ⟨false,[.ref 6]⟩],[.row false 9 (.str) c,.row false 9 (.str) d,.row false 9 (.str) e,.row false 61 (.pair (.str) (.sl 64 (.pair (.int .i64) (.pair (.str) (.int .i64))))) f,.row false 2 (.int .i64) g,.row false 129 (.pair (.int .i64) (.pair (.int .i64) (.int .i64))) i,.row false 2 (.int .i64) j]=>some ⟨.tup [⟨false,[.ref 7]⟩,⟨true,[.ref 8,.ref 9]⟩],[arv c,arv d,arv e,arz f,arB g,arG i,arB j],[arC (scO c d e b f j g i),arC (scV c d e f j g i),arF (scB c d e f j g i)],[scG a c d e b f g i j]⟩
 |_,_=>none
def fN:PF prog:=PF.alt KC zu (by
 intro args es o h cm;unfold zu at h;split at h
 ·rename_i a b c d e f g i j
  cases h
  have cm:=lv cm
  have hh:=akX a c d e b f g i j cm
  obtain⟨e0,e1,e2,en⟩:=hh
  exact re rfl (la en) rfl rfl (by simp only [e0,e1,e2] <;> rfl)
 ·cases h)
theorem amR: ∀ (ls:List LN),(∀ l∈ls,l.2.length≤1048576)→(blL ls).length≤1048576 * ls.length
 | [],_=>by simp [blL]
 |l::r,h=>by
  have h1:=amR r (fun x hx=>h x (by simp [hx]))
  have h2:=h l (by simp)
  have h3:(blT l.2).length≤l.2.length:=List.length_filter_le ..
  have h4:blL (l::r)=blT l.2++blL r:=rfl
  rw [h4,j6,k7]
  omega
theorem aqt{ls:List LN}(h:aeU ls=true):(blL ls).length≤1099511627776:=by
 obtain⟨hn,hA⟩:=Ma.1 h
 have:=amR ls (fun l hl=>(MA.1 (hA l hl).2).1)
 omega
def amC(nm:arp)(ins vs os:List arp)(g:arp)(ls:List LN)(xs:aro)(ss:List BS3)(inps:amc):Int:=bif !kP nm ins vs os g ls then 1 else bif !Kz vs.length (blL ls) xs ss|| !inps.all (fun l=>bitsB ins.length l)then 2 else 0
def cdG(nm:arp)(ins vs os:List arp)(g:arp)(ls:List LN)(xs:aro)(inps:amc):Bool:=PK nm ins vs os g ls&&(leN xs.length 9223372036854775807&&(leN inps.length 1048576&&inps.all fun l=>leN l.length 9223372036854775807))
theorem amU{nm:arp}{ins vs os:List arp}{g:arp}{ls:List LN}{xs:aro}{inps:amc}:
  cdG nm ins vs os g ls xs inps=true↔PK nm ins vs os g ls=true∧leN xs.length 9223372036854775807=true∧inps.length≤1048576∧ ∀ l∈inps,leN l.length 9223372036854775807=true:=by
 simp only [cdG,q9,iC,List.all_eq_true]
def fM(a:List arp)(b:aro):(Unit)→Nat ⊕ (Unit)
 |_=>(bif(AE b a)then(.inl 0)else(.inr ()))
def cM(a b:arp)(c:amc)(d e f:List arp)(g:agS)(i:Nat):(Unit)→bB
 |_=>((i:Int),(↑c.length:Int),a,b,c,d,e,f,g)
def rn:bB→Unit
 |(_,_,_,_,_,_,_,_,_)=>()
theorem KF(c e:arp)(f:amc)(g j k:List arp)(m:agS) (hn:f.length≤9223372036854775807) (hA: ∀ l∈f,leN l.length 9223372036854775807=true):
  aA.fin ((0:Int),(↑f.length:Int),c,e,f,g,j,k,m)=true∧aA.res ((0:Int),(↑f.length:Int),c,e,f,g,j,k,m)=((bH (fM g) 1 f 0 ()).1,(cM c e f g j k m) (bH (fM g) 1 f 0 ()).2.1 (bH (fM g) 1 f 0 ()).2.2):=by
 have qa:=aA.along (cM c e f g j k m) rn (fM g) 1 (fun _ _=>True) f () (by trivial) (by simp only [aA,cM];omega) (fun i b a hb hI=> ?_) (fun a hI=> ?_)
 ·exact qa
 ·obtain⟨⟩:=a
  have iX:=(v6.1 hb).1
  have pI: ∀ d,v9 f[i]? d=b:=fun d=>by rw [hb];rfl
  have hw:=AV iX hn
  have lR:ltI (i:Int) (f.length:Int)=true:=ew (by omega)
  have Nl:leI (0:Int) (i:Int)=true:=cG (by omega)
  have wO:ltN i f.length=true:=gM iX
  refine⟨?_,?_,?_,?_⟩
  ·have hg2:cK (i:Int) f=b:=by simp only [cK,z6];exact pI _
   have h4:jx (i:Int) f=true:=by simp only [jx,Gy,hg2,hA b (List.mem_of_getElem? hb),allT,cond_true]
   simp only [jw,mE,mF,mG,jg,aA,LT.nds,allT,cM,h4,lR,Nl,wO,z6,cond_true,Bool.and_self]
   cases jy (i:Int) f g <;> simp [LT.nds]
  ·simp [cK,jw,mE,mF,mG,jx,jy,rY,jg,aA,LT.each,cM,rn,hw]
  ·have hg2:cK (i:Int) f=b:=by simp only [cK,z6];exact pI _
   simp only [jw,jy,jg,aA,LT.fn,cM,rn,fM,lR,hg2,cond_true]
  ·exact fun _ _=>trivial
 ·obtain⟨⟩:=a
  simp [cK,jw,mE,mF,mG,jx,jy,rY,jg,aA,LT.out,cM]
theorem akV(nm:arp)(ins vs os:List arp)(g:arp)(ls:List LN)(xs:aro)(ss:List BS3)(inps:amc)(h:cdG nm ins vs os g ls xs inps=true):
  SJ nm g ins vs os ls xs ss inps=amC nm ins vs os g ls xs ss inps∧SK nm g ins vs os ls xs ss inps=true:=by
 obtain⟨h1,h2,h3,h4⟩:=amU.1 h
 obtain⟨w1,w2⟩:=KF nm g inps ins vs os ls (by omega) h4
 rw [oq (P:=fun l=> !bitsB ins.length l) (j:=0) (fun l=>by simp only [fM,AE]),VI]at w2
 have hlk:=(LB.1 h1).2.2.2.2.2.2
 have hbl:=aqt hlk
 have c0:mC inps nm g ins vs os ls= !inps.all (fun l=>bitsB ins.length l):=by
  simp only [mC,ut,kH,ol,w2,cM]
  cases (inps.all fun l=>bitsB ins.length l) <;> simp [Nat.beq,Tw.1,Tw.2]
 have c3:mD inps nm g ins vs os ls=true:=by
  simp only [mD,uu,kH,w1,allT,cond_true]
 have k:kP nm ins vs os g ls=true→ac6 (blL ls)=true:=fun hs=>ahC ls (Ea hs).2.1
 have hbl2:leN (blL ls).length 9223372036854775807=true:=bK (by omega)
 refine⟨?_,?_⟩
 ·simp only [SJ,c0,amC]
  cases Kz vs.length (blL ls) xs ss <;> rfl
 ·simp only [SK,h1,c3,h2,hlk,hbl2,allT,k9,cond_true]
  cases hs:kP nm ins vs os g ls with
  |false=>rfl
  |true=>rw [k hs];rfl
def ZB:arq
 | [.one ⟨true,[.val (.string a),.ref 0,.ref 1,.ref 2,.val (.string b),.ref 3]⟩,.one ⟨true,[.ref 4,.ref 5]⟩,.one ⟨false,[.ref 6]⟩],[.row false 9 (.str) c,.row false 9 (.str) d,.row false 9 (.str) e,.row false 61 (.pair (.str) (.sl 64 (.pair (.int .i64) (.pair (.str) (.int .i64))))) f,.row false 2 (.int .i64) g,.row false 129 (.pair (.int .i64) (.pair (.int .i64) (.int .i64))) i,.row false 41 (.sl 2 (.int .i64)) j]=>some ⟨aru (amC a c d e b f g i j),[arv c,arv d,arv e,arz f,arB g,arG i,arH j],[],[cdG a c d e b f g j]⟩
 |_,_=>none
def DW:PF prog:=PF.alt ag5 ZB (by
 intro args es o h cm;unfold ZB at h;split at h
 ·rename_i a b c d e f g i j
  cases h
  have cm:=lv cm
  have hh:=akV a c d e b f g i j cm
  obtain⟨e0,en⟩:=hh
  exact re rfl (la en) (by simp only [e0] <;> rfl) rfl rfl
 ·cases h)
section
variable (a b:Int)
def HI:aro:=qqw a.toNat (0:Int)
def HJ:alK:=qqw b.toNat ((0:Int),(0:Int),(0:Int))
def HK:Bool:=allT [leI 0 a,leI a a,leI ((↑(8:Nat):Int) * a) 281474976710656,leI a 9223372036854775807,leI 0 b,leI b b,leI ((↑(24:Nat):Int) * b) 281474976710656,leI b 9223372036854775807]
end
def Pb:arq
 | [.one ⟨false,[.val (.int .i64 a)]⟩,.one ⟨false,[.val (.int .i64 b)]⟩],[]=>some ⟨.one ⟨true,[.ref 0,.ref 1]⟩,[],[arC (HI a),arF (HJ b)],[HK a b]⟩
 |_,_=>none
def YZ:PF prog:=PF.ofG prog [] [] aZ 83 f83 func83 (fun c _=>LOk.nil c) Pb (by
 intro _ _ _ h;unfold Pb at h;split at h<;>cases h;kernel_rfl)
section
variable (a:List arp)(b:agT)
def cv:aro:=HI (↑a.length:Int)
def dC:alK:=HJ (↑(v8 (blL b)):Int)
def jK:Bool:=allT [aeU b,HK (↑a.length:Int) (↑(v8 (blL b)):Int)]
end
def vj:arq
 | [.one ⟨true,[.val (.string _x0),.ref 0,.ref 1,.ref 2,.val (.string _x1),.ref 3]⟩],[.row false 9 (.str) a,.row false 9 (.str) b,.row false 9 (.str) c,.row false 61 (.pair (.str) (.sl 64 (.pair (.int .i64) (.pair (.str) (.int .i64))))) d]=>some ⟨.one ⟨true,[.ref 4,.ref 5]⟩,[arv a,arv b,arv c,arz d],[arC (cv b),arF (dC d)],[jK b d]⟩
 |_,_=>none
def dG:PF prog:=PF.ofG prog (T3z [eK,YZ]) [] aZ 53 f53 func53 (fun c _=>LOk.nil c) vj (by
 intro _ _ _ h;unfold vj at h;split at h<;>cases h;kernel_rfl)
abbrev nG:=Int×Int×List (List Int)×arp×arp×List (List Int)×List arp×List arp×List arp×List (arp×(List (Int×(arp×Int))))×List Int×List (Int×(Int×Int))
section
variable (a b:Int)(c:amc)(d e:arp)(f:amc)(g i j:List arp)(k:agS)(l:aro)(m:alK)
def mt:aro:=v9 c[v7 a]? (ul aiL)
def uq:amc:= [scO g i j e k (mt a c) l m]
def Cj:Bool:=ltI a b
def Ck:Bool:=leI 0 a
def Cl:Bool:=ltI a (↑c.length:Int)
def Cm:Bool:=ltN a.toNat c.length
def Cn:Bool:=scG d g i j e k l m (mt a c)
def Co:Bool:=leN (v8 f + v8 (uq a c e g i j k l m)) 9223372036854775807
def Cp:Bool:=leN ((v8 f + v8 (uq a c e g i j k l m)) * 24) 140737488355328
def Cq:Int:=qqq .i64 (a + (1:Int))
def Cr:amc:=f++uq a c e g i j k l m
def Cs:aro:=scV g i j k (mt a c) l m
def Ba:alK:=scB g i j k (mt a c) l m
end
def aco:nG→List (Nat×SV)
 |(a,b,_,_,_,_,_,_,_,_,_,_)=> [(36,(aru a)),(35,(aru b)),(34,(art (.ref 0))),(2,(art (.ptr 1 0))),(7,(art (.ptr 2 0))),(9,(art (.ref 3)))]
def acf:nG→List (Nat×Entry)
 |(_,_,a,b,c,d,e,f,g,i,j,k)=> [(0,(arI a)),(1,(.box 27 [.val (.string b),.ref 4,.ref 5,.ref 6,.val (.string c),.ref 7])),(2,(.box 74 [.ref 8,.ref 9])),(4,(arv e)),(5,(arv f)),(6,(arv g)),(7,(arx i)),(3,(.tree 41 aiL d none)),(8,(arC j)),(9,(arF k))]
def acG:Nat→nG→List (Nat×SV)
 |_,(_,_,_,_,_,_,_,_,_,_,_,_)=> [(9,(art (.ref 3)))]
def acx:Nat→nG→List (Nat×Entry)
 |_,(_,_,a,b,c,d,e,f,g,i,j,k)=> [(0,(arI a)),(1,(.box 27 [.val (.string b),.ref 4,.ref 5,.ref 6,.val (.string c),.ref 7])),(2,(.box 74 [.ref 8,.ref 9])),(3,(.tree 41 aiL d none)),(4,(arv e)),(5,(arv f)),(6,(arv g)),(7,(arx i)),(8,(arC j)),(9,(arF k))]
def Bc:nG→LT nG
 |(a,b,c,d,e,f,g,i,j,k,l,m)=> .ite (Cj a b) (.need [Ck a,Cl a c,Cm a c] (.need [Cn a c d e g i j k l m] (.need [Co a c e f g i j k l m,Cp a c e f g i j k l m] (.nrm ((Cq a),b,c,d,e,Cr a c e f g i j k l m,g,i,j,k,Cs a c g i j k l m,(Ba a c g i j k l m)) [(0,0),(1,1),(2,2),(3,1152),(4,4),(5,5),(6,6),(7,7),(8,513),(9,514)])))) (.ext 0 [(0,0),(1,1),(2,2),(3,3),(4,4),(5,5),(6,6),(7,7),(8,8),(9,9)])
def MW(s:St):Option nG:=do
 let some ⟨none,.one ⟨false,[.val (.int .i64 a)]⟩⟩:=s.look 36|none
 let some ⟨none,.one ⟨false,[.val (.int .i64 b)]⟩⟩:=s.look 35|none
 let some ⟨none,.one ⟨false,[.ref 4]⟩⟩:=s.look 34|none
 let some ⟨none,.one ⟨false,[.ptr 384 0]⟩⟩:=s.look 2|none
 let some ⟨none,.one ⟨false,[.ptr 1280 0]⟩⟩:=s.look 7|none
 let some ⟨none,.one ⟨false,[.ref 1856]⟩⟩:=s.look 9|none
 let some (.row false 41 (.sl 2 (.int .i64)) c):=s.ent 4|none
 let some (.box 27 [.val (.string d),.ref 0,.ref 1,.ref 2,.val (.string e),.ref 3]):=s.ent 384|none
 let some (.box 74 [.ref 1216,.ref 1217]):=s.ent 1280|none
 let some (.row false 9 (.str) g):=s.ent 0|none
 let some (.row false 9 (.str) i):=s.ent 1|none
 let some (.row false 9 (.str) j):=s.ent 2|none
 let some (.row false 61 (.pair .str (.sl 64 (.pair (.int .i64) (.pair .str (.int .i64))))) k):=s.ent 3|none
 let some (.tree 41 (.sl 2 (.int .i64)) f none):=s.ent 1856|none
 let some (.row true 2 (.int .i64) l):=s.ent 1216|none
 let some (.row true 129 (.pair (.int .i64) (.pair (.int .i64) (.int .i64))) m):=s.ent 1217|none
 some (a,b,c,d,e,f,g,i,j,k,l,m)
def iB:Lp nG where
 h:=⟨[37,38,39,11,41,42,43,44,40,45,46,13,12,47,48,49,50,9,51,52,36],[0,1,2,4,5,6,7],[3,8,9],[]⟩
 JL:=aco
 JE:=acf
 XL:=acG
 XE:=acx
 q:=fun j=>match j with | _=> .exit 1
 tags:= [0]
 lt:=Bc
 fuel:=fun(a,b,c,d,e,f,g,i,k,l,m,n)=>a.natAbs + b.natAbs + c.length + d.size + e.size + f.length + g.length + i.length + k.length + l.length + m.length + n.length
 fix:=fun(_,b,c,d,e,_,g,i,k,l,_,_) (a,_,_,_,_,f,_,_,_,_,m,n)=>(a,b,c,d,e,f,g,i,k,l,m,n)
 σ:= [(0,4),(1,384),(2,1280),(4,0),(5,1),(6,2),(7,3),(3,1856),(8,1216),(9,1217)]
 rd:=MW
theorem aar:LoopOk prog (fun k=>Nat.blt k Tryz.f36.ntmps) iB.F (bc f36 0):=by
 refine Lp.ok (tbl:= (PF.trees prog::T3z [DW,fN,jh,dG])) (lf:= []) aZ iB (by kernel_rfl) (LOk.nil _) (fun _=>rfl) (fun _ _=>rfl) ?_ ?_ ?_ ?_ (fun _=>rfl) ?_
 ·intro _;kernel_rfl
 ·intro _;kernel_rfl
 ·intro s x h
  have h:MW s=some x:=h
  unfold MW at h
  repeat' split at h
  all_goals cases h
  constructor<;>repeat(first|refine aa ‹_› rfl ?_|refine ab rfl ‹_› rfl ?_|rfl)
 ·intro _;kernel_rfl
 ·intro _ _;exact(And.intro rfl trivial)
section
variable (a b:arp)(c d e:List arp)(f:agT)(g:amc)
def wh:Bool:=ltI 200 (↑g.length:Int)
def BL:Bool:=amC a c d e b f (cv d) (dC f) g !=0
def LW:Int×Int×amc×arp×arp×amc×List arp×List arp×List arp×agT×aro×alL:=((0:Int),(↑g.length:Int),g,a,b,[],c,d,e,f,cv d,dC f)
def QU:amc×List arp×List arp×List arp×agT×aro×alL:=(Lp.res iB (LW a b c d e f g)).2.2.2.2.2.2
def QV:aro×alL:=(QU a b c d e f g).2.2.2.2.2
def NO:Int:=bif !kP a c d e b f then(1:Int)else bif wh g then(3:Int)else bif BL a b c d e f g then amC a c d e b f (cv d) (dC f) g else(0:Int)
def NP:amc:=bif !kP a c d e b f then []else bif wh g then []else bif BL a b c d e f g then []else (QU a b c d e f g).1
def SH:aro:=bif !kP a c d e b f then []else bif wh g then []else bif BL a b c d e f g then []else (QV a b c d e f g).1
def SI:alK:=bif !kP a c d e b f then []else bif wh g then []else bif BL a b c d e f g then []else (QV a b c d e f g).2
def NQ:Bool:=allT [PK a c d e b f,!kP a c d e b f||(wh g||jK d f),!kP a c d e b f||(wh g||cdG a c d e b f (cv d) g),!kP a c d e b f||(wh g||(BL a b c d e f g||Lp.fin iB (LW a b c d e f g)))]
end
def Zl:arq
 | [.one ⟨true,[.val (.string a),.ref 0,.ref 1,.ref 2,.val (.string b),.ref 3]⟩,.one ⟨false,[.ref 4]⟩],[.row false 9 (.str) c,.row false 9 (.str) d,.row false 9 (.str) e,.row false 61 (.pair (.str) (.sl 64 (.pair (.int .i64) (.pair (.str) (.int .i64))))) f,.row false 41 (.sl 2 (.int .i64)) g]=>some ⟨.tup [⟨false,[.ref 5]⟩,⟨true,[.ref 6,.ref 7]⟩,⟨false,[ars (NO a b c d e f g)]⟩],[arv c,arv d,arv e,arz f,arH g],[.tree 41 aiL (NP a b c d e f g) none,arC (SH a b c d e f g),arF (SI a b c d e f g)],[NQ a b c d e f g]⟩
 |_,_=>none
def SO:PF prog:=PF.ofG prog (PF.trees prog::T3z [DW,fN,jh,dG]) [iB.F] aZ 36 f36 func36 (LOk.fnT (l:= [bc f36 0]) (by kernel_rfl) (.cons aar (.nil _))) Zl (by
 intro _ _ _ h;unfold Zl at h;split at h<;>cases h;kernel_rfl)
section
variable (a b:arp)(c d e:List arp)(f:agT)(g:amc)
def ZH:Int:=NO a b c d e f g
def ZI:amc:=NP a b c d e f g
def SC:Bool:=allT [NQ a b c d e f g]
end
def Zi:arq
 | [.one ⟨true,[.val (.string a),.ref 0,.ref 1,.ref 2,.val (.string b),.ref 3]⟩,.one ⟨false,[.ref 4]⟩],[.row false 9 (.str) c,.row false 9 (.str) d,.row false 9 (.str) e,.row false 61 (.pair (.str) (.sl 64 (.pair (.int .i64) (.pair (.str) (.int .i64))))) f,.row false 41 (.sl 2 (.int .i64)) g]=>some ⟨.tup [⟨false,[.ref 5]⟩,⟨false,[ars (ZH a b c d e f g)]⟩],[arv c,arv d,arv e,arz f,arH g],[.tree 41 aiL (ZI a b c d e f g) none],[SC a b c d e f g]⟩
 |_,_=>none
def ag2:PF prog:=PF.ofG prog (PF.trees prog::T3z [SO]) [] aZ 15 f15 func15 (fun c _=>LOk.nil c) Zi (by
 intro _ _ _ h;unfold Zi at h;split at h<;>cases h;kernel_rfl)
abbrev MS:=Int×List Int×List Int×List Int×List BS3
theorem apj{v:Int}{bs:List TM}{xs:aro}{ss:List BS3}:Kz v bs xs ss=true↔ss.length=bs.length∧bitsB v xs=true∧ ∀ k,k < bs.length→possAt bs ss k=true:=by
 simp only [Kz,q9,beq_iff_eq,List.all_eq_true,List.mem_range]
 constructor
 ·rintro⟨h1,h2,h3⟩;exact⟨by omega,h2,h3⟩
 ·rintro⟨h1,h2,h3⟩;exact⟨by omega,h2,h3⟩
def m0:MS:=(0,[],[],[],[])
def amH(ll:amc):Nat:=(ll.map v8).sum
theorem an0{k:Int}{s:arp}{n:Int}(h:WH k s n=true):possB k n 0 0 0=true:=by
 obtain⟨h1,h2,h3⟩:=YE h
 have t:inR 0 0 n=true:=Es.2 (by omega)
 have t1:inR 0 0 1=true:=rfl
 rcases kinds h1 with rfl | rfl | rfl | rfl | rfl | rfl <;> simp [possB,ei,cd,YO,t,t1] <;> omega
def Yf(bs:List TM):List BS3:=qqw bs.length ((0:Int),(0:Int),(0:Int))
theorem aoL{l:amc}(h:ltI 200 (l.length:Int)=false):l.length≤200:=by
 rcases Nat.lt_or_ge 200 l.length with h' | h'
 ·rw [ew (by omega)]at h;cases h
 ·exact h'
def sgO(ins vs os:List arp)(g:arp)(ls:List LN):amc→aro→List BS3→amc
 | [],_,_=> []
 |inp::r,xs,ss=>scO ins vs os g ls inp xs ss::sgO ins vs os g ls r (scV ins vs os ls inp xs ss) (scB ins vs os ls inp xs ss)
def sgM(ins vs os:List arp)(ls:List LN):amc→aro→List BS3→aro×List BS3
 | [],xs,ss=>(xs,ss)
 |inp::r,xs,ss=>sgM ins vs os ls r (scV ins vs os ls inp xs ss) (scB ins vs os ls inp xs ss)
def zv(vs:List arp):aro:=qqw vs.length 0
theorem anm{nm:arp}{ins vs os:List arp}{g:arp}{ls:List LN}{xs:aro}{ss:List BS3}{inp:aro}(h:scG nm ins vs os g ls xs ss inp=true):
  Kz vs.length (blL ls) (scV ins vs os ls inp xs ss) (scB ins vs os ls inp xs ss)=true∧(scO ins vs os g ls inp xs ss).length≤20:=by
 obtain⟨h1,h2,h3⟩:=afg.1 h
 have hS:=akf h1 h3
 obtain⟨a,b⟩:=apU (os:=os) (g:=g) h3 hS.hL h2
 have:=(lc.1 b).2
 have:=hS.h3
 exact⟨a,by omega⟩
theorem alx{nm:arp}{ins vs os:List arp}{g:arp}{ls:List LN}(hS:kP nm ins vs os g ls=true): ∀ (r:amc) (xs:aro) (ss:List BS3),
  (∀ x∈r,bitsB ins.length x=true)→Kz vs.length (blL ls) xs ss=true→
  (sgO ins vs os g ls r xs ss).length=r.length∧(∀ x∈sgO ins vs os g ls r xs ss,x.length≤20)∧Kz vs.length (blL ls) (sgM ins vs os ls r xs ss).1 (sgM ins vs os ls r xs ss).2=true
 | [],_,_,_,hs=>⟨rfl,fun x hx=>(List.not_mem_nil hx).elim,hs⟩
 |inp::r,xs,ss,hA,hs=>by
  obtain⟨h1,h2⟩:=anm (afg.2 ⟨hS,hs,hA inp (by simp)⟩)
  obtain⟨g1,g2,g3⟩:=alx hS r _ _ (fun x hx=>hA x (by simp [hx])) h1
  refine⟨by simp [sgO,g1],fun x hx=> ?_,g3⟩
  rcases List.mem_cons.1 hx with rfl | hx
  ·exact h2
  ·exact g2 x hx
theorem anr{nm:arp}{ins vs os:List arp}{g:arp}{ls:List LN}(hS:kP nm ins vs os g ls=true):Kz vs.length (blL ls) (zv vs) (Yf (blL ls))=true:=by
 have hB:=ahC ls (Ea hS).2.1
 refine apj.2 ⟨by simp [Yf],lc.2 ⟨fun z hz=> .inl (qqz hz),by rw [zv,List.length_replicate]⟩,fun k hk=> ?_⟩
 simp only [ac6,List.all_eq_true]at hB
 have h1:stAt (Yf (blL ls)) k=(0,0,0):=by
  simp only [stAt,Yf]
  rw [List.getElem?_replicate,if_pos hk];rfl
 have h2:Qt (blL ls) k∈blL ls:=by
  simp only [Qt,List.getElem?_eq_getElem hk];exact List.getElem_mem hk
 simp only [possAt,h1]
 exact an0 (hB _ h2)
def rgC(nm:arp)(ins vs os:List arp)(g:arp)(ls:List LN)(l:amc):Int:=bif !kP nm ins vs os g ls then 1 else bif ltI 200 (l.length:Int)then 3 else bif !l.all (fun x=>bitsB ins.length x)then 2 else 0
def rgO(nm:arp)(ins vs os:List arp)(g:arp)(ls:List LN)(l:amc):amc:=bif rgC nm ins vs os g ls l==0 then sgO ins vs os g ls l (zv vs) (Yf (blL ls))else []
def rgV(nm:arp)(ins vs os:List arp)(g:arp)(ls:List LN)(l:amc):aro:=bif rgC nm ins vs os g ls l==0 then(sgM ins vs os ls l (zv vs) (Yf (blL ls))).1 else []
def rgB(nm:arp)(ins vs os:List arp)(g:arp)(ls:List LN)(l:amc):List BS3:=bif rgC nm ins vs os g ls l==0 then(sgM ins vs os ls l (zv vs) (Yf (blL ls))).2 else []
def rgN(nm:arp)(ins vs os:List arp)(g:arp)(ls:List LN)(l:amc):Bool:=PK nm ins vs os g ls&&apV 9223372036854775807 l
theorem alr(nm:arp)(ins vs os:List arp)(g:arp)(ls:List LN)(l:amc):
  (kP nm ins vs os g ls=false∧rgC nm ins vs os g ls l=1)∨(kP nm ins vs os g ls=true∧ltI 200 (l.length:Int)=true∧rgC nm ins vs os g ls l=3)∨
  (kP nm ins vs os g ls=true∧ltI 200 (l.length:Int)=false∧l.all (fun x=>bitsB ins.length x)=false∧rgC nm ins vs os g ls l=2)∨
  (kP nm ins vs os g ls=true∧ltI 200 (l.length:Int)=false∧l.all (fun x=>bitsB ins.length x)=true∧rgC nm ins vs os g ls l=0):=by
 simp only [rgC]
 cases kP nm ins vs os g ls <;> cases ltI 200 (l.length:Int) <;> cases l.all (fun x=>bitsB ins.length x) <;> simp
def vI(a:arp)(d e f:List arp)(g:agS)(b:aro):(amc×aro×alK)→Nat ⊕ (amc×aro×alK)
 |(c,i,j)=>(.inr ((c++([scO d e f a g b i j])),scV d e f g b i j,(scB d e f g b i j)))
def rh(a:amc)(b c:arp)(e f g:List arp)(j:agS)(i:Nat):(amc×aro×alK)→nG
 |(d,k,l)=>((i:Int),(↑a.length:Int),a,b,c,d,e,f,g,j,k,l)
def MO:nG→amc×aro×alK
 |(_,_,_,_,_,a,_,_,_,_,b,c)=>(a,b,c)
theorem ael(c:amc)(e f:arp)(j k l:List arp)(m:agS)(g:amc)(n:aro)(o:alK)(hn:c.length≤9223372036854775807)(hC:kP e j k l f m=true)(hA: ∀ x∈c,bitsB j.length x=true)(h200:c.length≤200)(hS:Kz k.length (blL m) n o=true)(h5:g.length=0):
  iB.fin ((0:Int),(↑c.length:Int),c,e,f,g,j,k,l,m,n,o)=true∧iB.res ((0:Int),(↑c.length:Int),c,e,f,g,j,k,l,m,n,o)=((bH (vI f j k l m) 0 c 0 (g,n,o)).1,(rh c e f j k l m) (bH (vI f j k l m) 0 c 0 (g,n,o)).2.1 (bH (vI f j k l m) 0 c 0 (g,n,o)).2.2):=by
 have qa:=iB.along (rh c e f j k l m) MO (vI f j k l m) 0 (fun i a=>Kz k.length (blL m) a.2.1 a.2.2=true∧a.1.length=i) c (g,n,o) ⟨hS,h5⟩ (by simp only [iB,rh];omega) (fun i b a hb hI=> ?_) (fun a hI=> ?_)
 ·exact qa
 ·obtain⟨g,n,o⟩:=a
  have iX:=(v6.1 hb).1
  have pI: ∀ d,v9 c[i]? d=b:=fun d=>by rw [hb];rfl
  have hw:=AV iX hn
  have lR:ltI (i:Int) (c.length:Int)=true:=ew (by omega)
  have Nl:leI (0:Int) (i:Int)=true:=cG (by omega)
  have wO:ltN i c.length=true:=gM iX
  refine⟨?_,?_,?_,?_⟩
  ·have hg2:mt (i:Int) c=b:=by simp only [mt,z6];exact pI _
   have hl:=hI.2
   have he:scG e j k l f m n o b=true:=afg.2 ⟨hC,hI.1,hA b (List.mem_of_getElem? hb)⟩
   have h6:leN (g.length + 1) 9223372036854775807=true:=bK (by simp only at hl;omega)
   have h7:leN ((g.length + 1) * 24) 140737488355328=true:=bK (by simp only at hl;omega)
   simp only [Cj,Ck,Cl,Cm,Cn,Co,Cp,Cq,Cr,Cs,Ba,Bc,iB,uq,LT.nds,allT,rh,lR,Nl,wO,hg2,he,z9,h6,h7,z6,cond_true]
  ·simp [mt,uq,Cj,Ck,Cl,Cm,Cn,Co,Cp,Cq,Cr,Cs,Ba,Bc,iB,LT.each,rh,MO,hw]
  ·have hg2:mt (i:Int) c=b:=by simp only [mt,z6];exact pI _
   simp only [Cj,Ck,Cl,Cm,Cn,Co,Cp,Cq,Cr,Cs,Ba,Bc,iB,uq,LT.fn,rh,MO,vI,z6,lR,hg2,cond_true]
  ·intro a' hf
   simp only [vI,Sum.inr.injEq]at hf
   subst hf
   have he:scG e j k l f m n o b=true:=afg.2 ⟨hC,hI.1,hA b (List.mem_of_getElem? hb)⟩
   exact⟨(anm he).1,by have hl:=hI.2;simp only at hl;simp [hl]⟩
 ·obtain⟨g,n,o⟩:=a
  simp [mt,uq,Cj,Ck,Cl,Cm,Cn,Co,Cp,Cq,Cr,Cs,Ba,Bc,iB,LT.out,rh]
theorem anu{ins vs os:List arp}{g:arp}{ls:List LN}{f:aro→amc×aro×List BS3→Nat ⊕ (amc×aro×List BS3)}
  (hf: ∀ b a,f b a= .inr (a.1++ [scO ins vs os g ls b a.2.1 a.2.2],scV ins vs os ls b a.2.1 a.2.2,scB ins vs os ls b a.2.1 a.2.2)) {e:Nat}:
  ∀ (r:amc) (i:Nat) (acc:amc) (xs:aro) (ss:List BS3),bH f e r i (acc,xs,ss)=(e,i + r.length,acc++sgO ins vs os g ls r xs ss,sgM ins vs os ls r xs ss)
 | [],i,acc,xs,ss=>by simp [bH,sgO,sgM]
 |b::r,i,acc,xs,ss=>by
  simp only [bH,hf]
  rw [anu hf r]
  simp only [sgO,sgM,List.append_assoc,List.singleton_append,k7]
  congr 2
  omega
theorem zvs(vs:List arp):qqw (v7 (vs.length:Int)) (0:Int)=zv vs:=by rw [z6];rfl
theorem zbs(ls:List LN):qqw (v7 ((blL ls).length:Int)) ((0:Int),(0:Int),(0:Int))=Yf (blL ls):=by rw [z6];rfl
theorem aqq(nm:arp)(ins vs os:List arp)(g:arp)(ls:List LN)(l:amc)(h:rgN nm ins vs os g ls l=true):
  NO nm g ins vs os ls l=rgC nm ins vs os g ls l∧NP nm g ins vs os ls l=rgO nm ins vs os g ls l∧SH nm g ins vs os ls l=rgV nm ins vs os g ls l∧
  SI nm g ins vs os ls l=rgB nm ins vs os g ls l∧NQ nm g ins vs os ls l=true:=by
 simp only [rgN,q9]at h
 obtain⟨hT,hl⟩:=h
 obtain⟨hn,hA⟩:=api.1 hl
 have d0:cv vs=zv vs:=by simp only [cv,HI,zvs]
 have d1:dC ls=Yf (blL ls):=by simp only [dC,HJ,zbs]
 have e2:LW nm g ins vs os ls l=((0:Int),(l.length:Int),l,nm,g,[],ins,vs,os,ls,zv vs,Yf (blL ls)):=by simp only [LW,d0,d1]
 simp only [NO,NP,SH,SI,NQ,wh,BL,QU,QV,d0,d1,e2,hT,rgO,rgV,rgB,allT]
 rcases alr nm ins vs os g ls l with⟨h1,h2⟩ | ⟨h1,h3,h2⟩ | h
 ·rw [h1,h2];simp
 ·rw [h1,h2,h3];simp
 ·have h1:kP nm ins vs os g ls=true:=by rcases h with h | h <;> exact h.1
  have h3:ltI 200 (l.length:Int)=false:=by rcases h with h | h <;> exact h.2.1
  have hS:=anr h1
  have hX:=akf (inp:=qqw ins.length 0) h1 (lc.2 ⟨fun z hz=> .inl (qqz hz),by simp⟩)
  have hb:=hX.bl
  have hv:=hX.h2
  have u1:leI 0 (vs.length:Int)=true:=cG (by omega)
  have u2:leI (vs.length:Int) (vs.length:Int)=true:=cG (by omega)
  have u3:leI ((↑(8:Nat):Int) * (vs.length:Int)) 281474976710656=true:=cG (by omega)
  have u4:leI (vs.length:Int) 9223372036854775807=true:=cG (by omega)
  have u5:leI 0 ((blL ls).length:Int)=true:=cG (by omega)
  have u6:leI ((blL ls).length:Int) ((blL ls).length:Int)=true:=cG (by omega)
  have u7:leI ((↑(24:Nat):Int) * ((blL ls).length:Int)) 281474976710656=true:=cG (by omega)
  have u8:leI ((blL ls).length:Int) 9223372036854775807=true:=cG (by omega)
  have hLn:=(LB.1 hT).2.2.2.2.2.2
  have f2:jK vs ls=true:=by simp only [jK,HK,u1,u2,u3,u4,u5,u6,u7,u8,hLn,allT,cond_true]
  have h200:=aoL h3
  have m1:cdG nm ins vs os g ls (zv vs) l=true:=amU.2 ⟨hT,bK (by rw [zv,List.length_replicate];omega),by omega,fun x hx=>bK (hA x hx)⟩
  have m2:amC nm ins vs os g ls (zv vs) (Yf (blL ls)) l=bif !l.all (fun x=>bitsB ins.length x)then 2 else 0:=by
   simp only [amC,h1,hS];cases l.all (fun x=>bitsB ins.length x) <;> rfl
  rw [m1,m2,h1,h3,f2]
  rcases h with⟨_,_,h4,h2⟩ | ⟨_,_,h4,h2⟩
  ·rw [h2,h4];simp
  ·have hA2: ∀ x∈l,bitsB ins.length x=true:=List.all_eq_true.1 h4
   obtain⟨v1,v2⟩:=ael l nm g ins vs os ls [] (zv vs) (Yf (blL ls)) (by omega) h1 hA2 h200 hS rfl
   rw [anu (ins:=ins) (vs:=vs) (os:=os) (g:=g) (ls:=ls) (f:=vI g ins vs os ls) (fun b a=>rfl)]at v2
   rw [h2,h4,v1,v2]
   simp [rh]
theorem anK(nm:arp)(ins vs os:List arp)(g:arp)(ls:List LN)(l:amc)(h:rgN nm ins vs os g ls l=true):ZH nm g ins vs os ls l=rgC nm ins vs os g ls l∧ZI nm g ins vs os ls l=rgO nm ins vs os g ls l∧SC nm g ins vs os ls l=true:=by
 obtain⟨s0,s1,s2,s3,s4⟩:=aqq nm ins vs os g ls l h
 exact⟨s0,s1,by simp only [SC,s4,allT,cond_true]⟩
def Zy:arq
 | [.one ⟨true,[.val (.string a),.ref 0,.ref 1,.ref 2,.val (.string b),.ref 3]⟩,.one ⟨false,[.ref 4]⟩],[.row false 9 (.str) c,.row false 9 (.str) d,.row false 9 (.str) e,.row false 61 (.pair (.str) (.sl 64 (.pair (.int .i64) (.pair (.str) (.int .i64))))) f,.row false 41 (.sl 2 (.int .i64)) g]=>some ⟨.tup [⟨false,[.ref 5]⟩,⟨false,[ars (rgC a c d e b f g)]⟩],[arv c,arv d,arv e,arz f,arH g],[.tree 41 aiL (rgO a c d e b f g) none],[rgN a c d e b f g]⟩
 |_,_=>none
def vz:PF prog:=PF.alt ag2 Zy (by
 intro args es o h cm;unfold Zy at h;split at h
 ·rename_i a b c d e f g
  cases h
  have cm:=lv cm
  have hh:=anK a c d e b f g cm
  obtain⟨e0,e1,en⟩:=hh
  exact re rfl (la en) (by simp only [e0] <;> rfl) rfl (by simp only [e1] <;> rfl)
 ·cases h)
abbrev uI:=Int×List Int×Int×Int
section
variable (a:Int)(b:aro)
def Kt:Bool:=bif ltI a (↑b.length:Int)then ltI a 64 else false
def Wc:Bool:=leI 0 a
def Wd:Bool:=ltI a (↑b.length:Int)
def We:Bool:=ltN a.toNat b.length
end
def Wf:Bool:=neI 2147483647 0
def Wg(a:Int):Int:=qqq .i64 (a + (1:Int))
def Wh(a:Int)(b:aro)(c:Int):Int:=Int.tmod (qqq .i64 (qqq .i64 (c * (59:Int)) + qqq .i64 (v9 b[v7 a]? 0))) 2147483647
def adw:uI→List (Nat×SV)
 |(a,_,_,_)=> [(4,(aru a)),(0,(art (.ref 0))),(3,(art (.ptr 1 0)))]
def adq:uI→List (Nat×Entry)
 |(_,a,b,c)=> [(0,(ary a)),(1,(.box 80 [.ref 0,ars b,ars c]))]
def adI:Nat→uI→List (Nat×SV)
 |_,_=>[]
def CF:uI→LT uI
 |(a,b,c,d)=> .ite (Kt a b) (.need [Wc a,Wd a b,We a b,Wf] (.nrm ((Wg a),b,c,(Wh a b d)) [(0,0),(1,1)])) (.ext 0 [(0,0),(1,1)])
def Ok(s:St):Option uI:=do
 let some ⟨none,.one ⟨false,[.val (.int .i64 a)]⟩⟩:=s.look 4|none
 let some ⟨none,.one ⟨false,[.ref 0]⟩⟩:=s.look 0|none
 let some ⟨none,.one ⟨false,[.ptr 320 0]⟩⟩:=s.look 3|none
 let some (.row false 5 (.int IntKind.u8) b):=s.ent 0|none
 let some (.box 80 [.ref 0,.val (.int .i64 c),.val (.int .i64 d)]):=s.ent 320|none
 some (a,b,c,d)
def qe:Lp uI where
 h:=⟨[8,9,10,11,12,13,14,15,18,19,20,21,22,23,24,25,26,27,28,29,30,31,32,16,17,4],[0,1],[],[]⟩
 JL:=adw
 JE:=adq
 XL:=adI
 XE:=fun _=>adq
 q:=fun j=>match j with | _=> .exit 0
 tags:= [0]
 lt:=CF
 fuel:=fun(a,b,c,d)=>a.natAbs + b.length + c.natAbs + d.natAbs
 fix:=fun(_,b,c,_) (a,_,_,d)=>(a,b,c,d)
 σ:= [(0,0),(1,320)]
 rd:=Ok
theorem abx:LoopOk prog (fun k=>Nat.blt k Tryz.f18.ntmps) qe.F (bc f18 0):=by
 refine Lp.ok (tbl:= []) (lf:= []) aZ qe (by kernel_rfl) (LOk.nil _) (fun _=>rfl) (fun _ _=>rfl) ?_ ?_ ?_ ?_ (fun _=>rfl) ?_
 ·intro _;kernel_rfl
 ·intro _;kernel_rfl
 ·intro s x h
  have h:Ok s=some x:=h
  unfold Ok at h
  repeat' split at h
  all_goals cases h
  constructor<;>repeat(first|refine aa ‹_› rfl ?_|refine ab rfl ‹_› rfl ?_|rfl)
 ·intro _;kernel_rfl
 ·intro _ _;exact(And.intro rfl trivial)
section
variable (a:aro)
def IL:Int×aro×Int×Int:=((0:Int),a,(0:Int),(52021:Int))
def LH:Int:=(Lp.res qe (IL a)).2.2.2.2
def PV:Bool:=allT [Lp.fin qe (IL a)]
end
def aaE:arq
 | [.one ⟨false,[.ref 0]⟩],[.row false 5 (.int .u8) a]=>some ⟨art (.ptr 1 0),[ary a],[.box 80 [.ref 0,ars 0,ars (LH a)]],[PV a]⟩
 |_,_=>none
def aih:PF prog:=PF.ofG prog [] [qe.F] aZ 18 f18 func18 (LOk.fnT (l:= [bc f18 0]) (by kernel_rfl) (.cons abx (.nil _))) aaE (by
 intro _ _ _ h;unfold aaE at h;split at h<;>cases h;kernel_rfl)
section
variable (a b c:Int)(d:aro)
def Eb:Int:=qqq .i64 (b + (1:Int))
def IM:Bool:=bif leI a 256 then Int.tmod (Eb b) 2==0 else false
def Ec:Int:=qqq .i64 (Eb b - (1:Int))
def yq:Int:=Int.tmod (qqq .i64 (qqq .i64 (c * (48271:Int)) + (29:Int))) 2147483647
def lV:Int:=bif leI a 1 then(0:Int)else Int.tmod (bif ltI b (↑d.length:Int)then bif IM a b then qqq .i64 (v9 d[v7 (Ec b)]? 0)else qqq .i64 (qqq .i64 (Int.tdiv (yq c) 31) + qqq .i64 (v9 d[v7 b]? 0))else qqq .i64 (Int.tdiv (yq c) 31)) a
def CT:Int:=bif leI a 1 then b else bif ltI b (↑d.length:Int)then Eb b else b
def CU:Int:=bif leI a 1 then c else bif ltI b (↑d.length:Int)then yq c else yq c
def CV:Bool:=allT [leI a 1||neI 2147483647 0,leI a 1||neI 31 0,leI a 1||(!ltI b (↑d.length:Int)||leI 0 b),leI a 1||(!ltI b (↑d.length:Int)||ltI b (↑d.length:Int)),leI a 1||(!ltI b (↑d.length:Int)||ltN b.toNat d.length),leI a 1||(!ltI b (↑d.length:Int)||(!(leI a 256&&true)||neI 2 0)),leI a 1||(!ltI b (↑d.length:Int)||(!IM a b||leI 0 (Ec b))),leI a 1||(!ltI b (↑d.length:Int)||(!IM a b||ltI (Ec b) (↑d.length:Int))),leI a 1||(!ltI b (↑d.length:Int)||(!IM a b||ltN (v7 (Ec b)) d.length)),leI a 1||neI a 0]
end
def aaF:arq
 | [.one ⟨false,[.ptr 0 0]⟩,.one ⟨false,[.val (.int .i64 a)]⟩],[.box 80 [.ref 1,.val (.int .i64 b),.val (.int .i64 c)],.row false 5 (.int .u8) d]=>some ⟨aru (lV a b c d),[.box 80 [.ref 1,ars (CT a b d),ars (CU a b c d)],ary d],[],[CV a b d]⟩
 |_,_=>none
def PI:PF prog:=PF.ofG prog [] [] aZ 21 f21 func21 (fun c _=>LOk.nil c) aaF (by
 intro _ _ _ h;unfold aaF at h;split at h<;>cases h;kernel_rfl)
section
variable (a b:Int)(c d:aro)
def PW:Int:=v9 c[v7 (lV (↑c.length:Int) a b d)]? 0
def UP:Int:=CT (↑c.length:Int) a d
def UQ:Int:=CU (↑c.length:Int) a b d
def PX:Bool:=allT [CV (↑c.length:Int) a d,leI 0 (lV (↑c.length:Int) a b d),ltI (lV (↑c.length:Int) a b d) (↑c.length:Int),ltN (v7 (lV (↑c.length:Int) a b d)) c.length]
end
def aaG:arq
 | [.one ⟨false,[.ptr 0 0]⟩,.one ⟨false,[.ref 1]⟩],[.box 80 [.ref 2,.val (.int .i64 a),.val (.int .i64 b)],.row false 2 (.int .i64) c,.row false 5 (.int .u8) d]=>some ⟨aru (PW a b c d),[.box 80 [.ref 2,ars (UP a c d),ars (UQ a b c d)],arB c,ary d],[],[PX a b c d]⟩
 |_,_=>none
def aii:PF prog:=PF.ofG prog (T3z [PI]) [] aZ 98 f98 func98 (fun c _=>LOk.nil c) aaG (by
 intro _ _ _ h;unfold aaG at h;split at h<;>cases h;kernel_rfl)
def aY(a s:Int)(c:aro):Bool:=(leI 0 a&&leI a 4096)&&((leI 0 s&&ltI s 2147483647)&&(leN c.length 4096&&c.all fun x=>inR x 0 255))
theorem acb{a s:Int}{c:aro}:aY a s c=true↔(0≤a∧a≤4096)∧(0≤s∧s < 2147483647)∧c.length≤4096∧ ∀ x∈c,0≤x∧x≤255:=by
 simp only [aY,q9,FN,TU,iC,List.all_eq_true,Es]
theorem Sm{x n:Int}(h:0≤x)(hn:0 < n):0≤Int.tmod x n∧Int.tmod x n < n:=by
 rw [Int.tmod_eq_emod_of_nonneg h]
 exact⟨Int.emod_nonneg _ (by omega),Int.emod_lt_of_pos _ hn⟩
theorem akE{code:aro}(hb: ∀ x∈code,0≤x∧x≤255)(i:Nat):0≤(code[i]?.getD 0)∧(code[i]?.getD 0)≤255:=by
 cases h:code[i]? with
 |none=>simp
 |some x=>exact hb x (List.mem_of_getElem? h)
def nxV(n a s:Int)(c:aro):Int:=lV n a s c
def nxA(n a:Int)(c:aro):Int:=CT n a c
def nxS(n a s:Int)(c:aro):Int:=CU n a s c
theorem ae3(n:Int){a s:Int}{code:aro}(h:aY a s code=true):
  CV n a code=true∧aY (nxA n a code) (nxS n a s code) code=true∧0≤nxV n a s code∧(1≤n→nxV n a s code < n):=by
 obtain⟨⟨h0,h1⟩,⟨s0,s1⟩,hn,hb⟩:=acb.1 h
 have hw1:IntKind.i64.wrap (s * 48271)=s * 48271:=be (by omega) (by omega)
 have hw2:IntKind.i64.wrap (s * 48271 + 29)=s * 48271 + 29:=be (by omega) (by omega)
 have hw3:IntKind.i64.wrap (a + 1)=a + 1:=be (by omega) (by omega)
 have hw4:IntKind.i64.wrap (a + 1 - 1)=a:=by rw [be (by omega) (by omega)];omega
 obtain⟨t0,t1⟩:=Sm (x:=s * 48271 + 29) (n:=2147483647) (by omega) (by omega)
 have hd0:0≤Int.tdiv (Int.tmod (s * 48271 + 29) 2147483647) 31:=Int.tdiv_nonneg t0 (by omega)
 have hd1:Int.tdiv (Int.tmod (s * 48271 + 29) 2147483647) 31≤2147483647:=by
  rw [Int.tdiv_eq_ediv_of_nonneg t0];omega
 have hw7:IntKind.i64.wrap (Int.tdiv (Int.tmod (s * 48271 + 29) 2147483647) 31)=Int.tdiv (Int.tmod (s * 48271 + 29) 2147483647) 31:=be (by omega) (by omega)
 have q1:neI 2147483647 0=true:=by decide
 have q2:neI 31 0=true:=by decide
 have q3:neI 2 0=true:=by decide
 simp only [nxA,nxS,nxV]
 by_cases hq:n≤1
 ·have d:leI n 1=true:=cG hq
  refine⟨by simp [CV,allT,d],?_,by simp [lV,d],fun h=>by simp [lV,d];omega⟩
  simp only [CT,CU,d,cond_true]
  exact h
 ·have d:leI n 1=false:=aqL (by omega)
  have q4:neI n 0=true:=ap8 (by omega)
  by_cases hl:a < (code.length:Int)
  ·have dl:ltI a (code.length:Int)=true:=ew hl
   obtain⟨c0,c1⟩:=akE hb a.toNat
   have hw5:IntKind.i64.wrap (code[a.toNat]?.getD 0)=code[a.toNat]?.getD 0:=be (by omega) (by omega)
   have hw6:IntKind.i64.wrap (Int.tdiv (Int.tmod (s * 48271 + 29) 2147483647) 31 + code[a.toNat]?.getD 0)=Int.tdiv (Int.tmod (s * 48271 + 29) 2147483647) 31 + code[a.toNat]?.getD 0:=be (by omega) (by omega)
   have dn:ltN a.toNat code.length=true:=gM (by omega)
   have dz:leI 0 a=true:=cG h0
   have hwa:IntKind.i64.wrap a=a:=be (by omega) (by omega)
   refine⟨?_,?_,?_⟩
   ·simp [CV,Eb,Ec,allT,d,dl,dn,hw3,hw4,hwa,dz,q1,q2,q3,q4]
   ·simp only [CT,CU,Eb,yq,d,dl,cond_true,cond_false,hw1,hw2,hw3]
    exact acb.2 ⟨⟨by omega,by omega⟩,⟨t0,t1⟩,hn,hb⟩
   ·simp only [lV,IM,Ec,Eb,yq,d,dl,cond_true,cond_false,hw1,hw2,hw3,hw4,hw5,hw7,hw6]
    cases (bif leI n 256 then Int.tmod (a + 1) 2==0 else false)with
    |true=>
     obtain⟨m0,m1⟩:=Sm (x:=code[a.toNat]?.getD 0) (n:=n) c0 (by omega)
     exact⟨m0,fun _=>m1⟩
    |false=>
     obtain⟨m0,m1⟩:=Sm (x:=Int.tdiv (Int.tmod (s * 48271 + 29) 2147483647) 31 + code[a.toNat]?.getD 0) (n:=n) (by omega) (by omega)
     exact⟨m0,fun _=>m1⟩
  ·have dl:ltI a (code.length:Int)=false:=CE (by omega)
   refine⟨?_,?_,?_⟩
   ·simp [CV,allT,d,dl,q1,q2,q4]
   ·simp only [CT,CU,yq,d,dl,cond_false,hw1,hw2]
    exact acb.2 ⟨⟨h0,h1⟩,⟨t0,t1⟩,hn,hb⟩
   ·simp only [lV,yq,d,dl,cond_false,hw1,hw2,hw7]
    obtain⟨m0,m1⟩:=Sm (x:=Int.tdiv (Int.tmod (s * 48271 + 29) 2147483647) 31) (n:=n) hd0 (by omega)
    exact⟨m0,fun _=>m1⟩
theorem agZ(a b c:Int)(d:aro)(h:aY b c d=true):lV a b c d=nxV a b c d∧CT a b d=nxA a b d∧CU a b c d=nxS a b c d∧CV a b d=true:=⟨rfl,rfl,rfl,(ae3 a h).1⟩
def aaZ:arq
 | [.one ⟨false,[.ptr 0 0]⟩,.one ⟨false,[.val (.int .i64 a)]⟩],[.box 80 [.ref 1,.val (.int .i64 b),.val (.int .i64 c)],.row false 5 (.int .u8) d]=>some ⟨aru (nxV a b c d),[.box 80 [.ref 1,ars (nxA a b d),ars (nxS a b c d)],ary d],[],[aY b c d]⟩
 |_,_=>none
def aS:PF prog:=PF.alt PI aaZ (by
 intro args es o h cm;unfold aaZ at h;split at h
 ·rename_i a b c d
  cases h
  have cm:=lv cm
  have hh:=agZ a b c d cm
  obtain⟨e0,e1,e2,en⟩:=hh
  exact re rfl (la en) (by simp only [e0] <;> rfl) (by simp only [e1,e2] <;> rfl) rfl
 ·cases h)
def pkV(a s:Int)(l c:aro):Int:=PW a s l c
def pkA(a:Int)(l c:aro):Int:=UP a l c
def pkS(a s:Int)(l c:aro):Int:=UQ a s l c
theorem anh{a s:Int}{l code:aro}(h:(aY a s code&&leN 1 l.length)=true):
  PX a s l code=true∧aY (pkA a l code) (pkS a s l code) code=true∧pkV a s l code∈l:=by
 simp only [q9,iC]at h
 obtain⟨n3,n1,n0,nl⟩:=ae3 (l.length:Int) h.1
 have nl:=nl (by omega)
 simp only [nxV]at n0 nl
 refine⟨?_,n1,?_⟩
 ·have t1:leI 0 (lV (l.length:Int) a s code)=true:=cG n0
  have t2:ltI (lV (l.length:Int) a s code) (l.length:Int)=true:=ew nl
  have t3:ltN (lV (l.length:Int) a s code).toNat l.length=true:=gM (by omega)
  simp only [PX,allT,n3,t1,t2,t3,cond_true]
 ·have iX:(lV (l.length:Int) a s code).toNat < l.length:=by omega
  simp only [pkV,PW,List.getElem?_eq_getElem iX,Option.getD_some]
  exact List.getElem_mem iX
theorem ag0(a b:Int)(c d:aro)(h:(aY a b d&&leN 1 c.length)=true):PW a b c d=pkV a b c d∧UP a c d=pkA a c d∧UQ a b c d=pkS a b c d∧PX a b c d=true:=⟨rfl,rfl,rfl,(anh h).1⟩
def aa0:arq
 | [.one ⟨false,[.ptr 0 0]⟩,.one ⟨false,[.ref 1]⟩],[.box 80 [.ref 2,.val (.int .i64 a),.val (.int .i64 b)],.row false 2 (.int .i64) c,.row false 5 (.int .u8) d]=>some ⟨aru (pkV a b c d),[.box 80 [.ref 2,ars (pkA a c d),ars (pkS a b c d)],arB c,ary d],[],[aY a b d&&leN 1 c.length]⟩
 |_,_=>none
def ji:PF prog:=PF.alt aii aa0 (by
 intro args es o h cm;unfold aa0 at h;split at h
 ·rename_i a b c d
  cases h
  have cm:=lv cm
  have hh:=ag0 a b c d cm
  obtain⟨e0,e1,e2,en⟩:=hh
  exact re rfl (la en) (by simp only [e0] <;> rfl) (by simp only [e1,e2] <;> rfl) rfl
 ·cases h)
def anI(b:Int)(a:Nat×Int):Nat ⊕ (Nat×Int):=bif decide (a.1 < 64)then .inr (a.1 + 1,Int.tmod (a.2 * 59 + b) 2147483647)else .inl 0
def frS(c:aro):Int:=LH c
theorem ajS(code:aro)(h:aY 0 0 code=true):PV code=true∧aY 0 (frS code) code=true:=by
 obtain⟨_,_,hn,hb⟩:=acb.1 h
 have qa:=ab7 (lt:=CF) (fun i (a:Nat×Int)=>((i:Int),code,(0:Int),a.2)) anI 0 (fun i a=>a.1=i∧0≤a.2∧a.2 < 2147483647) code (fun i b a he hI=>⟨?_,fun a' hf=> ?_⟩) (fun a hI=> ?_) code 0 (0,52021) rfl (by simp) (by decide)
 ·have hres:=qe.run qa (Fg (by simp only [qe];omega))
  have r1:qe.fin ((0:Int),code,(0:Int),(52021:Int))=true:=hres.1
  have r2:qe.res ((0:Int),code,(0:Int),(52021:Int))=_:=hres.2
  have inv: ∀ (r:aro) (i:Nat) (a:Nat×Int),(∀ x∈r,0≤x∧x≤255)→0≤a.2∧a.2 < 2147483647→0≤(bH anI 0 r i a).2.2.2∧(bH anI 0 r i a).2.2.2 < 2147483647:=by
   intro r
   induction r with
   |nil=>intro i a _ h;exact h
   |cons b r ih=>
    intro i a hx h
    simp only [bH,anI]
    cases decide (a.1 < 64)with
    |false=>exact h
    |true=>
     have hb:=hx b (by simp)
     exact ih _ _ (fun x hm=>hx x (by simp [hm])) (Sm (by omega) (by omega))
  obtain⟨q0,q1⟩:=inv code 0 (0,52021) hb (by decide)
  refine⟨by simp [PV,IL,allT,r1],acb.2 ⟨by decide,⟨?_,?_⟩,hn,hb⟩⟩
  ·simp only [frS,LH,IL,r2];exact q0
  ·simp only [frS,LH,IL,r2];exact q1
 ·obtain⟨iX,he⟩:=v6.1 he
  subst he
  obtain⟨h1,h2,h3⟩:=hI
  have hw:=AV iX (by omega)
  obtain⟨c0,c1⟩:=hb code[i] (List.getElem_mem iX)
  have hw1:IntKind.i64.wrap (a.2 * 59)=a.2 * 59:=be (by omega) (by omega)
  have hw2:IntKind.i64.wrap code[i]=code[i]:=be (by omega) (by omega)
  have hw3:IntKind.i64.wrap (a.2 * 59 + code[i])=a.2 * 59 + code[i]:=be (by omega) (by omega)
  have q1:neI 2147483647 0=true:=by decide
  have q2:ltI (i:Int) (code.length:Int)=true:=ew (by omega)
  have q3:leI 0 (i:Int)=true:=cG (by omega)
  have q4:ltN i code.length=true:=gM iX
  simp only [anI,h1]
  by_cases h64:i < 64
  ·have d:decide (i < 64)=true:=decide_eq_true h64
   have d':ltI (i:Int) 64=true:=ew (by omega)
   simp [CF,LT.out,allT,Kt,Wc,Wd,We,Wf,Wg,Wh,iX,hw,d,d',hw1,hw2,hw3,q1,q2,q3,q4]
  ·have d:decide (i < 64)=false:=decide_eq_false h64
   have d':ltI (i:Int) 64=false:=CE (by omega)
   simp [CF,LT.out,Kt,d,d']
 ·simp only [anI]at hf
  obtain⟨h1,h2,h3⟩:=hI
  obtain⟨c0,c1⟩:=hb b (List.mem_of_getElem? he)
  cases hd:decide (a.1 < 64)with
  |false=>rw [hd]at hf;cases hf
  |true=>
   rw [hd]at hf
   simp only [cond_true,Sum.inr.injEq]at hf
   subst hf
   obtain⟨m0,m1⟩:=Sm (x:=a.2 * 59 + b) (n:=2147483647) (by omega) (by omega)
   exact⟨by simp [h1],m0,m1⟩
 ·simp [CF,LT.out,Kt]
theorem agY(a:aro)(h:aY 0 0 a=true):LH a=frS a∧PV a=true:=⟨rfl,(ajS a h).1⟩
def aaY:arq
 | [.one ⟨false,[.ref 0]⟩],[.row false 5 (.int .u8) a]=>some ⟨art (.ptr 1 0),[ary a],[.box 80 [.ref 0,ars 0,ars (frS a)]],[aY 0 0 a]⟩
 |_,_=>none
def GN:PF prog:=PF.alt aih aaY (by
 intro args es o h cm;unfold aaY at h;split at h
 ·rename_i a
  cases h
  have cm:=lv cm
  have hh:=agY a cm
  obtain⟨e0,en⟩:=hh
  exact re rfl (la en) rfl rfl (by simp only [e0] <;> rfl)
 ·cases h)
def PF.never{P:Program}(k:FuncId)(F:arq)(h: ∀ args es o,F args es=some o→false∈o.nd):PF P where
 k:=k
 F:=F
 ok:=fun args es o ho cm=>absurd (cm _ (h args es o ho)) (by simp)
def Rz:arq
 | [.one ⟨false,[.ptr 0 0]⟩,.one ⟨false,[.ref 1]⟩,.one ⟨false,[.val (.int .i64 _)]⟩],[.box 80 [.ref 2,.val (.int .i64 a),.val (.int .i64 b)],.row false 9 (.str) c,.row false 5 (.int .u8) d]=>
  some ⟨.one ⟨false,[.ref 3]⟩,[.box 80 [.ref 2,.val (.int .i64 a),.val (.int .i64 b)],.row false 9 (.str) c,.row false 5 (.int .u8) d],[.row true 64 (.pair (.int .i64) (.pair (.str) (.int .i64))) []],[false]⟩
 |_,_=>none
def LA:PF prog:=PF.never 68 Rz (by
 intro args es o h;unfold Rz at h;split at h
 ·cases h;exact qqj.2 rfl
 ·cases h)
def aaD:arq
 | [.one ⟨false,[.val (.int .i64 _)]⟩],[]=>some ⟨art (.val (.string ⟨#[]⟩)),[],[],[false]⟩
 |_,_=>none
def aig:PF prog:=PF.never 67 aaD (by
 intro args es o h;unfold aaD at h;split at h
 ·cases h;exact qqj.2 rfl
 ·cases h)
section
variable (a b c:Int)(d:List arp)(e:aro)
def bE:Bool:=bif a==0 then true else nxV 4 b c e==0
def DF:Bool:= !a==0&&true
def ek:Int:=bif DF a then nxA 4 b e else b
def rr:Int:=bif DF a then nxS 4 b c e else c
def QH:Int:=nxV 12 (ek a b e) (rr a b c e) e
def mi:Bool:=QH a b c e==0
def mj:Bool:=QH a b c e==1
def ml:Int:=pkV (ek a b e) (rr a b c e) [(4:Int),(5:Int),(6:Int),(5:Int),(6:Int),(7:Int),(8:Int),(9:Int),(10:Int),(11:Int),(12:Int)] e
def gn:Bool:=lJ (ml a b c e)==2
def yL:Int:=pkA (ek a b e) [(4:Int),(5:Int),(6:Int),(5:Int),(6:Int),(7:Int),(8:Int),(9:Int),(10:Int),(11:Int),(12:Int)] e
def Qa:Int:=bif aj (ml a b c e)then nxA 4 (yL a b e) e else yL a b e
def tP:Int:=nxS 12 (ek a b e) (rr a b c e) e
def BC:Int:=pkS (ek a b e) (rr a b c e) [(4:Int),(5:Int),(6:Int),(5:Int),(6:Int),(7:Int),(8:Int),(9:Int),(10:Int),(11:Int),(12:Int)] e
def Qb:Int:=bif aj (ml a b c e)then nxS 4 (yL a b e) (BC a b c e) e else BC a b c e
def xG:Int:=nxV (↑d.length:Int) (nxA 12 (ek a b e) e) (tP a b c e) e
def BD:aje:= [(bif aj (ml a b c e)then ml a b c e else ml a b c e,bif aj (ml a b c e)then ByteArray.mk #[]else ByteArray.mk #[],bif aj (ml a b c e)then nxV 4 (yL a b e) (BC a b c e) e else(0:Int))]
def Qc:Bool:= !aj (ml a b c e)||aY (yL a b e) (BC a b c e) e
def Qd:Bool:=leN (0 + v8 (BD a b c e)) 9223372036854775807
def Qe:Bool:=leN ((0 + v8 (BD a b c e)) * 32) 140737488355328
def wI:Int:=bif bE a b c e then bif mi a b c e then nxA 12 (ek a b e) e else bif mj a b c e then nxA 12 (ek a b e) e else nxA (↑d.length:Int) (nxA 12 (ek a b e) e) e else bif gn a b c e then Qa a b c e else Qa a b c e
def wJ:Int:=bif bE a b c e then bif mi a b c e then tP a b c e else bif mj a b c e then tP a b c e else nxS (↑d.length:Int) (nxA 12 (ek a b e) e) (tP a b c e) e else bif gn a b c e then Qb a b c e else Qb a b c e
def wK:ajd:=bif bE a b c e then bif mi a b c e then [((2:Int),ByteArray.mk #[],(0:Int))]else bif mj a b c e then [((3:Int),ByteArray.mk #[],(0:Int))]else [((1:Int),v9 d[v7 (xG a b c d e)]? ByteArray.empty,(0:Int))]else bif gn a b c e then BD a b c e else BD a b c e
def LO:Bool:=allT [!DF a||aY b c e,!bE a b c e||aY (ek a b e) (rr a b c e) e,!bE a b c e||(mi a b c e||(mj a b c e||aY (nxA 12 (ek a b e) e) (tP a b c e) e)),!bE a b c e||(mi a b c e||(mj a b c e||leI 0 (xG a b c d e))),!bE a b c e||(mi a b c e||(mj a b c e||ltI (xG a b c d e) (↑d.length:Int))),!bE a b c e||(mi a b c e||(mj a b c e||ltN (v7 (xG a b c d e)) d.length)),bE a b c e||aY (ek a b e) (rr a b c e) e&&leN 1 (v8 [(4:Int),(5:Int),(6:Int),(5:Int),(6:Int),(7:Int),(8:Int),(9:Int),(10:Int),(11:Int),(12:Int)]),bE a b c e||false,bE a b c e||(!gn a b c e||false),bE a b c e||(!gn a b c e||leN (0 + 0) 9223372036854775807),bE a b c e||(!gn a b c e||leN ((0 + 0) * 32) 140737488355328),bE a b c e||(!gn a b c e||Qc a b c e),bE a b c e||(!gn a b c e||Qd a b c e),bE a b c e||(!gn a b c e||Qe a b c e),bE a b c e||(gn a b c e||Qc a b c e),bE a b c e||(gn a b c e||Qd a b c e),bE a b c e||(gn a b c e||Qe a b c e)]
end
def Rw:arq
 | [.one ⟨false,[.ptr 0 0]⟩,.one ⟨false,[.ref 1]⟩,.one ⟨false,[.val (.int .i64 a)]⟩],[.box 80 [.ref 2,.val (.int .i64 b),.val (.int .i64 c)],.row false 9 (.str) d,.row false 5 (.int .u8) e]=>some ⟨art (.ref 3),[.box 80 [.ref 2,ars (wI a b c d e),ars (wJ a b c d e)],arv d,ary e],[arE (wK a b c d e)],[LO a b c d e]⟩
 |_,_=>none
def abJ:PF prog:=PF.ofG prog (T3z [aS,ji,DZ,GQ,LA]) [] aZ 68 f68 func68 (fun c _=>LOk.nil c) Rw (by
 intro _ _ _ h;unfold Rw at h;split at h<;>cases h;kernel_rfl)
def alc(ns:List arp):Bool:=leN 1 ns.length&&(leN ns.length 1000&&ns.all fun s=>leN s.size 1000)
def dtN(k d a s:Int)(ns:List arp)(c:aro):Bool:=(leI 0 d&&leI d k)&&(aY a s c&&alc ns)
def dtL(n:Nat)(ts:List TM):Prop:=1≤ts.length∧ts.length≤n∧ ∀ t∈ts,t.2.1.size≤1000
theorem NK{k d a s:Int}{ns:List arp}{c:aro}:dtN k d a s ns c=true↔(0≤d∧d≤k)∧aY a s c=true∧alc ns=true:=by
 simp only [dtN,q9,FN]
theorem XS{ns:List arp}:alc ns=true↔1≤ns.length∧ns.length≤1000∧ ∀ s∈ns,s.size≤1000:=by
 simp only [alc,q9,iC,List.all_eq_true]
theorem mT{n a s:Int}{c:aro}(h:aY a s c=true):aY (nxA n a c) (nxS n a s c) c=true:=(ae3 n h).2.1
theorem aeh{a s x:Int}{l c:aro}(h:aY a s c=true):aY (pkA a (x::l) c) (pkS a s (x::l) c) c=true:=(anh (l:=x::l) (by rw [h];rfl)).2.1
theorem ao2{C:Type}(x:C)(l:List C):leN 1 (x::l).length=true:=bK (by simp)
theorem Ly{n a s:Int}{c:aro}(h:aY a s c=true)(hn:1≤n):0≤nxV n a s c∧nxV n a s c < n:=⟨(ae3 n h).2.2.1,(ae3 n h).2.2.2 hn⟩
theorem yx{t:Bool}{a a' s s':Int}{c:aro}(h:aY a s c=true)(h':aY a' s' c=true):aY (bif t then a else a') (bif t then s else s') c=true:=by cases t <;> assumption
theorem aj7{ns:List arp}{i:Int}(hn:alc ns=true)(d:arp)(h0:0≤i)(h1:i < ns.length):(v9 ns[i.toNat]? d).size≤1000:=by
 have iX:i.toNat < ns.length:=by omega
 rw [List.getElem?_eq_getElem iX]
 exact(XS.1 hn).2.2 _ (List.getElem_mem iX)
theorem al3(d a s:Int)(ns:List arp)(c:aro)(h:dtN 0 d a s ns c=true):
  LO d a s ns c=true∧aY (wI d a s ns c) (wJ d a s ns c) c=true∧dtL 1 (wK d a s ns c):=by
 obtain⟨⟨h0,h1⟩,hs,hn⟩:=NK.1 h
 have hd:d=0:=by omega
 subst hd
 obtain⟨n1,n2,n3⟩:=XS.1 hn
 have a0:bE 0 a s c=true:=rfl
 have a1:DF 0=false:=rfl
 have a2:ek 0 a c=a:=rfl
 have a3:rr 0 a s c=s:=rfl
 have a11:tP 0 a s c=nxS 12 a s c:=rfl
 have hs2:aY (nxA 12 a c) (nxS 12 a s c) c=true:=mT hs
 have a14:xG 0 a s ns c=nxV (ns.length:Int) (nxA 12 a c) (nxS 12 a s c) c:=rfl
 obtain⟨i0,i1⟩:=Ly (n:=(ns.length:Int)) hs2 (by omega)
 have j0:=cG i0
 have j1:=ew i1
 have j2:ltN (nxV (ns.length:Int) (nxA 12 a c) (nxS 12 a s c) c).toNat ns.length=true:=gM (by omega)
 refine⟨?_,?_,?_⟩
 ·simp only [LO,a0,a1,a2,a3,a11,a14,hs,hs2,j0,j1,j2,allT,Bool.true_or,k9,Bool.not_true,Bool.not_false,Bool.false_or,cond_true]
  all_goals simp
 ·simp only [wI,wJ,a0,a2,a11,cond_true]
  cases mi 0 a s c
  ·cases mj 0 a s c
   ·exact mT hs2
   ·exact hs2
  ·exact hs2
 ·simp only [wK,a0,a14,cond_true]
  cases mi 0 a s c
  ·cases mj 0 a s c
   ·refine⟨by simp,by simp,fun t ht=> ?_⟩
    rw [cond_false,cond_false,qqj]at ht
    subst ht
    exact aj7 hn _ i0 i1
   ·exact⟨by simp,by simp,fun t ht=>by rw [cond_false,cond_true,qqj]at ht;subst ht;exact Nat.zero_le _⟩
  ·exact⟨by simp,by simp,fun t ht=>by rw [cond_true,qqj]at ht;subst ht;exact Nat.zero_le _⟩
theorem HD{n:Nat}{k m:Int}{s:arp}(h:s.size≤1000):dtL (n + 1) [(k,s,m)]:=
 ⟨by simp,by simp,fun t ht=>by rw [qqj]at ht;subst ht;exact h⟩
theorem TR{n m k:Nat}{a b:List TM}(h1:dtL n a)(h2:dtL m b)(h:n + m≤k):dtL k (a++b):=by
 obtain⟨p1,p2,p3⟩:=h1
 obtain⟨q1,q2,q3⟩:=h2
 refine⟨by rw [j6];omega,by rw [j6];omega,fun t ht=> ?_⟩
 rcases j8.1 ht with h | h
 ·exact p3 t h
 ·exact q3 t h
def RA:arq
 | [.one ⟨false,[.ptr 0 0]⟩,.one ⟨false,[.ref 1]⟩,.one ⟨false,[.val (.int .i64 a)]⟩],[.box 80 [.ref 2,.val (.int .i64 b),.val (.int .i64 c)],.row false 9 (.str) d,.row false 5 (.int .u8) e]=>some ⟨art (.ref 3),[.box 80 [.ref 2,ars (wI a b c d e),ars (wJ a b c d e)],arv d,ary e],[arE (wK a b c d e)],[dtN 0 a b c d e]⟩
 |_,_=>none
def Lu:PF prog:=PF.alt abJ RA (by
 intro args es o h cm;unfold RA at h;split at h
 ·rename_i a b c d e
  cases h
  have cm:=lv cm
  have hh:=(al3 a b c d e cm).1
  have en:=hh
  exact re rfl (la en) rfl rfl rfl
 ·cases h)
section
variable (a b c:Int)(d:List arp)(e:aro)
def bF:Bool:=bif a==0 then true else nxV 4 b c e==0
def Kb:Bool:= !a==0&&true
def dN:Int:=bif Kb a then nxA 4 b e else b
def rt:Int:=bif Kb a then nxS 4 b c e else c
def QI:Int:=nxV 12 (dN a b e) (rt a b c e) e
def mm:Bool:=QI a b c e==0
def mn:Bool:=QI a b c e==1
def dO:Int:=pkV (dN a b e) (rt a b c e) [(4:Int),(5:Int),(6:Int),(5:Int),(6:Int),(7:Int),(8:Int),(9:Int),(10:Int),(11:Int),(12:Int)] e
def em:Bool:=lJ (dO a b c e)==2
def jq:Int:=qqq .i64 (a - (1:Int))
def tQ:Int:=pkA (dN a b e) [(4:Int),(5:Int),(6:Int),(5:Int),(6:Int),(7:Int),(8:Int),(9:Int),(10:Int),(11:Int),(12:Int)] e
def tR:Int:=pkS (dN a b e) (rt a b c e) [(4:Int),(5:Int),(6:Int),(5:Int),(6:Int),(7:Int),(8:Int),(9:Int),(10:Int),(11:Int),(12:Int)] e
def iv:Int:=wI (jq a) (tQ a b e) (tR a b c e) d e
def jN:Int:=wJ (jq a) (tQ a b e) (tR a b c e) d e
def tS:Int:=wI (jq a) (iv a b c d e) (jN a b c d e) d e
def tT:Int:=nxS 12 (dN a b e) (rt a b c e) e
def xH:Int:=wJ (jq a) (iv a b c d e) (jN a b c d e) d e
def qu:Int:=nxV (↑d.length:Int) (nxA 12 (dN a b e) e) (tT a b c e) e
def iw:aje:=wK (jq a) (tQ a b e) (tR a b c e) d e
def tU:aje:=wK (jq a) (iv a b c d e) (jN a b c d e) d e
def tV:aje:=iw a b c d e++tU a b c d e
def Qf:Int:=bif aj (dO a b c e)then dO a b c e else dO a b c e
def BE:arp:=bif aj (dO a b c e)then ByteArray.mk #[]else ByteArray.mk #[]
def tW:aje:= [(Qf a b c e,BE a b c e,bif aj (dO a b c e)then nxV 4 (tS a b c d e) (xH a b c d e) e else(0:Int))]
def tX:aje:= [(Qf a b c e,BE a b c e,bif aj (dO a b c e)then nxV 4 (iv a b c d e) (jN a b c d e) e else(0:Int))]
def sL:Int:=bif bF a b c e then bif mm a b c e then nxA 12 (dN a b e) e else bif mn a b c e then nxA 12 (dN a b e) e else nxA (↑d.length:Int) (nxA 12 (dN a b e) e) e else bif em a b c e then bif aj (dO a b c e)then nxA 4 (tS a b c d e) e else tS a b c d e else bif aj (dO a b c e)then nxA 4 (iv a b c d e) e else iv a b c d e
def sM:Int:=bif bF a b c e then bif mm a b c e then tT a b c e else bif mn a b c e then tT a b c e else nxS (↑d.length:Int) (nxA 12 (dN a b e) e) (tT a b c e) e else bif em a b c e then bif aj (dO a b c e)then nxS 4 (tS a b c d e) (xH a b c d e) e else xH a b c d e else bif aj (dO a b c e)then nxS 4 (iv a b c d e) (jN a b c d e) e else jN a b c d e
def sN:ajd:=bif bF a b c e then bif mm a b c e then [((2:Int),ByteArray.mk #[],(0:Int))]else bif mn a b c e then [((3:Int),ByteArray.mk #[],(0:Int))]else [((1:Int),v9 d[v7 (qu a b c d e)]? ByteArray.empty,(0:Int))]else bif em a b c e then tV a b c d e++tW a b c d e else iw a b c d e++tX a b c d e
def EU:Bool:=allT [!Kb a||aY b c e,!bF a b c e||aY (dN a b e) (rt a b c e) e,!bF a b c e||(mm a b c e||(mn a b c e||aY (nxA 12 (dN a b e) e) (tT a b c e) e)),!bF a b c e||(mm a b c e||(mn a b c e||leI 0 (qu a b c d e))),!bF a b c e||(mm a b c e||(mn a b c e||ltI (qu a b c d e) (↑d.length:Int))),!bF a b c e||(mm a b c e||(mn a b c e||ltN (v7 (qu a b c d e)) d.length)),bF a b c e||aY (dN a b e) (rt a b c e) e&&leN 1 (v8 [(4:Int),(5:Int),(6:Int),(5:Int),(6:Int),(7:Int),(8:Int),(9:Int),(10:Int),(11:Int),(12:Int)]),bF a b c e||dtN 0 (jq a) (tQ a b e) (tR a b c e) d e,bF a b c e||(!em a b c e||dtN 0 (jq a) (iv a b c d e) (jN a b c d e) d e),bF a b c e||(!em a b c e||leN (v8 (iw a b c d e) + v8 (tU a b c d e)) 9223372036854775807),bF a b c e||(!em a b c e||leN ((v8 (iw a b c d e) + v8 (tU a b c d e)) * 32) 140737488355328),bF a b c e||(!em a b c e||(!aj (dO a b c e)||aY (tS a b c d e) (xH a b c d e) e)),bF a b c e||(!em a b c e||leN (v8 (tV a b c d e) + v8 (tW a b c d e)) 9223372036854775807),bF a b c e||(!em a b c e||leN ((v8 (tV a b c d e) + v8 (tW a b c d e)) * 32) 140737488355328),bF a b c e||(em a b c e||(!aj (dO a b c e)||aY (iv a b c d e) (jN a b c d e) e)),bF a b c e||(em a b c e||leN (v8 (iw a b c d e) + v8 (tX a b c d e)) 9223372036854775807),bF a b c e||(em a b c e||leN ((v8 (iw a b c d e) + v8 (tX a b c d e)) * 32) 140737488355328)]
end
def Rx:arq
 | [.one ⟨false,[.ptr 0 0]⟩,.one ⟨false,[.ref 1]⟩,.one ⟨false,[.val (.int .i64 a)]⟩],[.box 80 [.ref 2,.val (.int .i64 b),.val (.int .i64 c)],.row false 9 (.str) d,.row false 5 (.int .u8) e]=>some ⟨art (.ref 3),[.box 80 [.ref 2,ars (sL a b c d e),ars (sM a b c d e)],arv d,ary e],[arE (sN a b c d e)],[EU a b c d e]⟩
 |_,_=>none
def abK:PF prog:=PF.ofG prog (T3z [aS,ji,DZ,GQ,Lu]) [] aZ 68 f68 func68 (fun c _=>LOk.nil c) Rx (by
 intro _ _ _ h;unfold Rx at h;split at h<;>cases h;kernel_rfl)
theorem al4(d a s:Int)(ns:List arp)(c:aro)(h:dtN 1 d a s ns c=true):
  EU d a s ns c=true∧aY (sL d a s ns c) (sM d a s ns c) c=true∧dtL 3 (sN d a s ns c):=by
 obtain⟨⟨h0,h1⟩,hs,hn⟩:=NK.1 h
 obtain⟨n1,n2,n3⟩:=XS.1 hn
 have s23:aY (dN d a c) (rt d a s c) c=true:=yx (mT hs) hs
 have hs2:aY (nxA 12 (dN d a c) c) (tT d a s c) c=true:=mT s23
 obtain⟨i0,i1⟩:0≤qu d a s ns c∧qu d a s ns c < (ns.length:Int):=Ly (n:=(ns.length:Int)) hs2 (by omega)
 have j0:=cG i0
 have j1:=ew i1
 have j2:ltN (qu d a s ns c).toNat ns.length=true:=gM (by omega)
 cases h0:bF d a s c with
 |true=>
  refine⟨?_,?_,?_⟩
  ·simp only [EU,h0,hs,s23,hs2,j0,j1,j2,allT,Bool.true_or,k9,Bool.not_true,Bool.false_or,cond_true]
  ·simp only [sL,sM,h0,cond_true]
   cases mm d a s c
   ·cases mn d a s c
    ·exact mT hs2
    ·exact hs2
   ·exact hs2
  ·simp only [sN,h0,cond_true]
   cases mm d a s c
   ·cases mn d a s c
    ·exact HD (aj7 hn _ i0 i1)
    ·exact HD (Nat.zero_le _)
   ·exact HD (Nat.zero_le _)
 |false=>
  have hd:1≤d:=by
   by_cases hd0:d=0
   ·rw [hd0]at h0;cases h0
   ·omega
  have a9:jq d=d - 1:=be (by omega) (by omega)
  have s10:aY (tQ d a c) (tR d a s c) c=true:=aeh s23
  have d1:dtN 0 (jq d) (tQ d a c) (tR d a s c) ns c=true:=NK.2 ⟨by omega,s10,hn⟩
  obtain⟨_,s12,q18⟩:=al3 _ _ _ ns c d1
  have s12:aY (iv d a s ns c) (jN d a s ns c) c=true:=s12
  have q18:dtL 1 (iw d a s ns c):=q18
  have d2:dtN 0 (jq d) (iv d a s ns c) (jN d a s ns c) ns c=true:=NK.2 ⟨by omega,s12,hn⟩
  obtain⟨_,s14,q19⟩:=al3 _ _ _ ns c d2
  have s14:aY (tS d a s ns c) (xH d a s ns c) c=true:=s14
  have q19:dtL 1 (tU d a s ns c):=q19
  have q23:dtL 1 (tW d a s ns c):=HD (by simp only [BE];cases aj (dO d a s c) <;> exact Nat.zero_le _)
  have q24:dtL 1 (tX d a s ns c):=HD (by simp only [BE];cases aj (dO d a s c) <;> exact Nat.zero_le _)
  have q20:dtL 2 (tV d a s ns c):=TR q18 q19 (by omega)
  have l18:=q18.2.1
  have l19:=q19.2.1
  have l20:=q20.2.1
  have l23:=q23.2.1
  have l24:=q24.2.1
  have p10:leN 1 (v8 [(4:Int),5,6,5,6,7,8,9,10,11,12])=true:=rfl
  refine⟨?_,?_,?_⟩
  ·simp only [EU,h0,hs,s23,s10,d1,d2,s12,s14,p10,bK (show (iw d a s ns c).length + (tU d a s ns c).length≤9223372036854775807 by omega),bK (show ((iw d a s ns c).length + (tU d a s ns c).length) * 32≤140737488355328 by omega),
    bK (show (tV d a s ns c).length + (tW d a s ns c).length≤9223372036854775807 by omega),bK (show ((tV d a s ns c).length + (tW d a s ns c).length) * 32≤140737488355328 by omega),
    bK (show (iw d a s ns c).length + (tX d a s ns c).length≤9223372036854775807 by omega),bK (show ((iw d a s ns c).length + (tX d a s ns c).length) * 32≤140737488355328 by omega),
    allT,Bool.true_or,k9,Bool.not_false,Bool.false_or,Bool.and_self,cond_true]
  ·simp only [sL,sM,h0,cond_false]
   cases em d a s c <;> simp only [cond_true,cond_false]
   ·exact yx (mT s12) s12
   ·exact yx (mT s14) s14
  ·simp only [sN,h0,cond_false]
   cases em d a s c <;> simp only [cond_true,cond_false]
   ·exact TR q18 q24 (by omega)
   ·exact TR q20 q23 (by omega)
def RB:arq
 | [.one ⟨false,[.ptr 0 0]⟩,.one ⟨false,[.ref 1]⟩,.one ⟨false,[.val (.int .i64 a)]⟩],[.box 80 [.ref 2,.val (.int .i64 b),.val (.int .i64 c)],.row false 9 (.str) d,.row false 5 (.int .u8) e]=>some ⟨art (.ref 3),[.box 80 [.ref 2,ars (sL a b c d e),ars (sM a b c d e)],arv d,ary e],[arE (sN a b c d e)],[dtN 1 a b c d e]⟩
 |_,_=>none
def Lv:PF prog:=PF.alt abK RB (by
 intro args es o h cm;unfold RB at h;split at h
 ·rename_i a b c d e
  cases h
  have cm:=lv cm
  have hh:=(al4 a b c d e cm).1
  have en:=hh
  exact re rfl (la en) rfl rfl rfl
 ·cases h)
section
variable (a b c:Int)(d:List arp)(e:aro)
def bG:Bool:=bif a==0 then true else nxV 4 b c e==0
def Kc:Bool:= !a==0&&true
def dP:Int:=bif Kc a then nxA 4 b e else b
def ru:Int:=bif Kc a then nxS 4 b c e else c
def QJ:Int:=nxV 12 (dP a b e) (ru a b c e) e
def mo:Bool:=QJ a b c e==0
def mp:Bool:=QJ a b c e==1
def dQ:Int:=pkV (dP a b e) (ru a b c e) [(4:Int),(5:Int),(6:Int),(5:Int),(6:Int),(7:Int),(8:Int),(9:Int),(10:Int),(11:Int),(12:Int)] e
def eo:Bool:=lJ (dQ a b c e)==2
def jr:Int:=qqq .i64 (a - (1:Int))
def tY:Int:=pkA (dP a b e) [(4:Int),(5:Int),(6:Int),(5:Int),(6:Int),(7:Int),(8:Int),(9:Int),(10:Int),(11:Int),(12:Int)] e
def tZ:Int:=pkS (dP a b e) (ru a b c e) [(4:Int),(5:Int),(6:Int),(5:Int),(6:Int),(7:Int),(8:Int),(9:Int),(10:Int),(11:Int),(12:Int)] e
def iy:Int:=sL (jr a) (tY a b e) (tZ a b c e) d e
def jO:Int:=sM (jr a) (tY a b e) (tZ a b c e) d e
def ua:Int:=sL (jr a) (iy a b c d e) (jO a b c d e) d e
def ub:Int:=nxS 12 (dP a b e) (ru a b c e) e
def xI:Int:=sM (jr a) (iy a b c d e) (jO a b c d e) d e
def qv:Int:=nxV (↑d.length:Int) (nxA 12 (dP a b e) e) (ub a b c e) e
def iz:aje:=sN (jr a) (tY a b e) (tZ a b c e) d e
def uc:aje:=sN (jr a) (iy a b c d e) (jO a b c d e) d e
def ud:aje:=iz a b c d e++uc a b c d e
def Qg:Int:=bif aj (dQ a b c e)then dQ a b c e else dQ a b c e
def BF:arp:=bif aj (dQ a b c e)then ByteArray.mk #[]else ByteArray.mk #[]
def ue:aje:= [(Qg a b c e,BF a b c e,bif aj (dQ a b c e)then nxV 4 (ua a b c d e) (xI a b c d e) e else(0:Int))]
def uf:aje:= [(Qg a b c e,BF a b c e,bif aj (dQ a b c e)then nxV 4 (iy a b c d e) (jO a b c d e) e else(0:Int))]
def sO:Int:=bif bG a b c e then bif mo a b c e then nxA 12 (dP a b e) e else bif mp a b c e then nxA 12 (dP a b e) e else nxA (↑d.length:Int) (nxA 12 (dP a b e) e) e else bif eo a b c e then bif aj (dQ a b c e)then nxA 4 (ua a b c d e) e else ua a b c d e else bif aj (dQ a b c e)then nxA 4 (iy a b c d e) e else iy a b c d e
def sP:Int:=bif bG a b c e then bif mo a b c e then ub a b c e else bif mp a b c e then ub a b c e else nxS (↑d.length:Int) (nxA 12 (dP a b e) e) (ub a b c e) e else bif eo a b c e then bif aj (dQ a b c e)then nxS 4 (ua a b c d e) (xI a b c d e) e else xI a b c d e else bif aj (dQ a b c e)then nxS 4 (iy a b c d e) (jO a b c d e) e else jO a b c d e
def sQ:ajd:=bif bG a b c e then bif mo a b c e then [((2:Int),ByteArray.mk #[],(0:Int))]else bif mp a b c e then [((3:Int),ByteArray.mk #[],(0:Int))]else [((1:Int),v9 d[v7 (qv a b c d e)]? ByteArray.empty,(0:Int))]else bif eo a b c e then ud a b c d e++ue a b c d e else iz a b c d e++uf a b c d e
def EV:Bool:=allT [!Kc a||aY b c e,!bG a b c e||aY (dP a b e) (ru a b c e) e,!bG a b c e||(mo a b c e||(mp a b c e||aY (nxA 12 (dP a b e) e) (ub a b c e) e)),!bG a b c e||(mo a b c e||(mp a b c e||leI 0 (qv a b c d e))),!bG a b c e||(mo a b c e||(mp a b c e||ltI (qv a b c d e) (↑d.length:Int))),!bG a b c e||(mo a b c e||(mp a b c e||ltN (v7 (qv a b c d e)) d.length)),bG a b c e||aY (dP a b e) (ru a b c e) e&&leN 1 (v8 [(4:Int),(5:Int),(6:Int),(5:Int),(6:Int),(7:Int),(8:Int),(9:Int),(10:Int),(11:Int),(12:Int)]),bG a b c e||dtN 1 (jr a) (tY a b e) (tZ a b c e) d e,bG a b c e||(!eo a b c e||dtN 1 (jr a) (iy a b c d e) (jO a b c d e) d e),bG a b c e||(!eo a b c e||leN (v8 (iz a b c d e) + v8 (uc a b c d e)) 9223372036854775807),bG a b c e||(!eo a b c e||leN ((v8 (iz a b c d e) + v8 (uc a b c d e)) * 32) 140737488355328),bG a b c e||(!eo a b c e||(!aj (dQ a b c e)||aY (ua a b c d e) (xI a b c d e) e)),bG a b c e||(!eo a b c e||leN (v8 (ud a b c d e) + v8 (ue a b c d e)) 9223372036854775807),bG a b c e||(!eo a b c e||leN ((v8 (ud a b c d e) + v8 (ue a b c d e)) * 32) 140737488355328),bG a b c e||(eo a b c e||(!aj (dQ a b c e)||aY (iy a b c d e) (jO a b c d e) e)),bG a b c e||(eo a b c e||leN (v8 (iz a b c d e) + v8 (uf a b c d e)) 9223372036854775807),bG a b c e||(eo a b c e||leN ((v8 (iz a b c d e) + v8 (uf a b c d e)) * 32) 140737488355328)]
end
def Ry:arq
 | [.one ⟨false,[.ptr 0 0]⟩,.one ⟨false,[.ref 1]⟩,.one ⟨false,[.val (.int .i64 a)]⟩],[.box 80 [.ref 2,.val (.int .i64 b),.val (.int .i64 c)],.row false 9 (.str) d,.row false 5 (.int .u8) e]=>some ⟨art (.ref 3),[.box 80 [.ref 2,ars (sO a b c d e),ars (sP a b c d e)],arv d,ary e],[arE (sQ a b c d e)],[EV a b c d e]⟩
 |_,_=>none
def abL:PF prog:=PF.ofG prog (T3z [aS,ji,DZ,GQ,Lv]) [] aZ 68 f68 func68 (fun c _=>LOk.nil c) Ry (by
 intro _ _ _ h;unfold Ry at h;split at h<;>cases h;kernel_rfl)
theorem al5(d a s:Int)(ns:List arp)(c:aro)(h:dtN 2 d a s ns c=true):
  EV d a s ns c=true∧aY (sO d a s ns c) (sP d a s ns c) c=true∧dtL 7 (sQ d a s ns c):=by
 obtain⟨⟨h0,h1⟩,hs,hn⟩:=NK.1 h
 obtain⟨n1,n2,n3⟩:=XS.1 hn
 have s23:aY (dP d a c) (ru d a s c) c=true:=yx (mT hs) hs
 have hs2:aY (nxA 12 (dP d a c) c) (ub d a s c) c=true:=mT s23
 obtain⟨i0,i1⟩:0≤qv d a s ns c∧qv d a s ns c < (ns.length:Int):=Ly (n:=(ns.length:Int)) hs2 (by omega)
 have j0:=cG i0
 have j1:=ew i1
 have j2:ltN (qv d a s ns c).toNat ns.length=true:=gM (by omega)
 cases h0:bG d a s c with
 |true=>
  refine⟨?_,?_,?_⟩
  ·simp only [EV,h0,hs,s23,hs2,j0,j1,j2,allT,Bool.true_or,k9,Bool.not_true,Bool.false_or,cond_true]
  ·simp only [sO,sP,h0,cond_true]
   cases mo d a s c
   ·cases mp d a s c
    ·exact mT hs2
    ·exact hs2
   ·exact hs2
  ·simp only [sQ,h0,cond_true]
   cases mo d a s c
   ·cases mp d a s c
    ·exact HD (aj7 hn _ i0 i1)
    ·exact HD (Nat.zero_le _)
   ·exact HD (Nat.zero_le _)
 |false=>
  have hd:1≤d:=by
   by_cases hd0:d=0
   ·rw [hd0]at h0;cases h0
   ·omega
  have a9:jr d=d - 1:=be (by omega) (by omega)
  have s10:aY (tY d a c) (tZ d a s c) c=true:=aeh s23
  have d1:dtN 1 (jr d) (tY d a c) (tZ d a s c) ns c=true:=NK.2 ⟨by omega,s10,hn⟩
  obtain⟨_,s12,q18⟩:=al4 _ _ _ ns c d1
  have s12:aY (iy d a s ns c) (jO d a s ns c) c=true:=s12
  have q18:dtL 3 (iz d a s ns c):=q18
  have d2:dtN 1 (jr d) (iy d a s ns c) (jO d a s ns c) ns c=true:=NK.2 ⟨by omega,s12,hn⟩
  obtain⟨_,s14,q19⟩:=al4 _ _ _ ns c d2
  have s14:aY (ua d a s ns c) (xI d a s ns c) c=true:=s14
  have q19:dtL 3 (uc d a s ns c):=q19
  have q23:dtL 1 (ue d a s ns c):=HD (by simp only [BF];cases aj (dQ d a s c) <;> exact Nat.zero_le _)
  have q24:dtL 1 (uf d a s ns c):=HD (by simp only [BF];cases aj (dQ d a s c) <;> exact Nat.zero_le _)
  have q20:dtL 6 (ud d a s ns c):=TR q18 q19 (by omega)
  have l18:=q18.2.1
  have l19:=q19.2.1
  have l20:=q20.2.1
  have l23:=q23.2.1
  have l24:=q24.2.1
  have p10:leN 1 (v8 [(4:Int),5,6,5,6,7,8,9,10,11,12])=true:=rfl
  refine⟨?_,?_,?_⟩
  ·simp only [EV,h0,hs,s23,s10,d1,d2,s12,s14,p10,bK (show (iz d a s ns c).length + (uc d a s ns c).length≤9223372036854775807 by omega),bK (show ((iz d a s ns c).length + (uc d a s ns c).length) * 32≤140737488355328 by omega),
    bK (show (ud d a s ns c).length + (ue d a s ns c).length≤9223372036854775807 by omega),bK (show ((ud d a s ns c).length + (ue d a s ns c).length) * 32≤140737488355328 by omega),
    bK (show (iz d a s ns c).length + (uf d a s ns c).length≤9223372036854775807 by omega),bK (show ((iz d a s ns c).length + (uf d a s ns c).length) * 32≤140737488355328 by omega),
    allT,Bool.true_or,k9,Bool.not_false,Bool.false_or,Bool.and_self,cond_true]
  ·simp only [sO,sP,h0,cond_false]
   cases eo d a s c <;> simp only [cond_true,cond_false]
   ·exact yx (mT s12) s12
   ·exact yx (mT s14) s14
  ·simp only [sQ,h0,cond_false]
   cases eo d a s c <;> simp only [cond_true,cond_false]
   ·exact TR q18 q24 (by omega)
   ·exact TR q20 q23 (by omega)
def RC:arq
 | [.one ⟨false,[.ptr 0 0]⟩,.one ⟨false,[.ref 1]⟩,.one ⟨false,[.val (.int .i64 a)]⟩],[.box 80 [.ref 2,.val (.int .i64 b),.val (.int .i64 c)],.row false 9 (.str) d,.row false 5 (.int .u8) e]=>some ⟨art (.ref 3),[.box 80 [.ref 2,ars (sO a b c d e),ars (sP a b c d e)],arv d,ary e],[arE (sQ a b c d e)],[dtN 2 a b c d e]⟩
 |_,_=>none
def Lw:PF prog:=PF.alt abL RC (by
 intro args es o h cm;unfold RC at h;split at h
 ·rename_i a b c d e
  cases h
  have cm:=lv cm
  have hh:=(al5 a b c d e cm).1
  have en:=hh
  exact re rfl (la en) rfl rfl rfl
 ·cases h)
section
variable (a b c:Int)(d:List arp)(e:aro)
def bY:Bool:=bif a==0 then true else nxV 4 b c e==0
def LP:Bool:= !a==0&&true
def ef:Int:=bif LP a then nxA 4 b e else b
def sR:Int:=bif LP a then nxS 4 b c e else c
def Sl:Int:=nxV 12 (ef a b e) (sR a b c e) e
def nD:Bool:=Sl a b c e==0
def nE:Bool:=Sl a b c e==1
def eg:Int:=pkV (ef a b e) (sR a b c e) [(4:Int),(5:Int),(6:Int),(5:Int),(6:Int),(7:Int),(8:Int),(9:Int),(10:Int),(11:Int),(12:Int)] e
def fo:Bool:=lJ (eg a b c e)==2
def jY:Int:=qqq .i64 (a - (1:Int))
def va:Int:=pkA (ef a b e) [(4:Int),(5:Int),(6:Int),(5:Int),(6:Int),(7:Int),(8:Int),(9:Int),(10:Int),(11:Int),(12:Int)] e
def vb:Int:=pkS (ef a b e) (sR a b c e) [(4:Int),(5:Int),(6:Int),(5:Int),(6:Int),(7:Int),(8:Int),(9:Int),(10:Int),(11:Int),(12:Int)] e
def jt:Int:=sO (jY a) (va a b e) (vb a b c e) d e
def kJ:Int:=sP (jY a) (va a b e) (vb a b c e) d e
def vc:Int:=sO (jY a) (jt a b c d e) (kJ a b c d e) d e
def vd:Int:=nxS 12 (ef a b e) (sR a b c e) e
def yM:Int:=sP (jY a) (jt a b c d e) (kJ a b c d e) d e
def rv:Int:=nxV (↑d.length:Int) (nxA 12 (ef a b e) e) (vd a b c e) e
def ju:aje:=sQ (jY a) (va a b e) (vb a b c e) d e
def ve:aje:=sQ (jY a) (jt a b c d e) (kJ a b c d e) d e
def vf:aje:=ju a b c d e++ve a b c d e
def QK:Int:=bif aj (eg a b c e)then eg a b c e else eg a b c e
def DG:arp:=bif aj (eg a b c e)then ByteArray.mk #[]else ByteArray.mk #[]
def vg:aje:= [(QK a b c e,DG a b c e,bif aj (eg a b c e)then nxV 4 (vc a b c d e) (yM a b c d e) e else(0:Int))]
def vh:aje:= [(QK a b c e,DG a b c e,bif aj (eg a b c e)then nxV 4 (jt a b c d e) (kJ a b c d e) e else(0:Int))]
def uy:Int:=bif bY a b c e then bif nD a b c e then nxA 12 (ef a b e) e else bif nE a b c e then nxA 12 (ef a b e) e else nxA (↑d.length:Int) (nxA 12 (ef a b e) e) e else bif fo a b c e then bif aj (eg a b c e)then nxA 4 (vc a b c d e) e else vc a b c d e else bif aj (eg a b c e)then nxA 4 (jt a b c d e) e else jt a b c d e
def uz:Int:=bif bY a b c e then bif nD a b c e then vd a b c e else bif nE a b c e then vd a b c e else nxS (↑d.length:Int) (nxA 12 (ef a b e) e) (vd a b c e) e else bif fo a b c e then bif aj (eg a b c e)then nxS 4 (vc a b c d e) (yM a b c d e) e else yM a b c d e else bif aj (eg a b c e)then nxS 4 (jt a b c d e) (kJ a b c d e) e else kJ a b c d e
def uA:ajd:=bif bY a b c e then bif nD a b c e then [((2:Int),ByteArray.mk #[],(0:Int))]else bif nE a b c e then [((3:Int),ByteArray.mk #[],(0:Int))]else [((1:Int),v9 d[v7 (rv a b c d e)]? ByteArray.empty,(0:Int))]else bif fo a b c e then vf a b c d e++vg a b c d e else ju a b c d e++vh a b c d e
def Gb:Bool:=allT [!LP a||aY b c e,!bY a b c e||aY (ef a b e) (sR a b c e) e,!bY a b c e||(nD a b c e||(nE a b c e||aY (nxA 12 (ef a b e) e) (vd a b c e) e)),!bY a b c e||(nD a b c e||(nE a b c e||leI 0 (rv a b c d e))),!bY a b c e||(nD a b c e||(nE a b c e||ltI (rv a b c d e) (↑d.length:Int))),!bY a b c e||(nD a b c e||(nE a b c e||ltN (v7 (rv a b c d e)) d.length)),bY a b c e||aY (ef a b e) (sR a b c e) e&&leN 1 (v8 [(4:Int),(5:Int),(6:Int),(5:Int),(6:Int),(7:Int),(8:Int),(9:Int),(10:Int),(11:Int),(12:Int)]),bY a b c e||dtN 2 (jY a) (va a b e) (vb a b c e) d e,bY a b c e||(!fo a b c e||dtN 2 (jY a) (jt a b c d e) (kJ a b c d e) d e),bY a b c e||(!fo a b c e||leN (v8 (ju a b c d e) + v8 (ve a b c d e)) 9223372036854775807),bY a b c e||(!fo a b c e||leN ((v8 (ju a b c d e) + v8 (ve a b c d e)) * 32) 140737488355328),bY a b c e||(!fo a b c e||(!aj (eg a b c e)||aY (vc a b c d e) (yM a b c d e) e)),bY a b c e||(!fo a b c e||leN (v8 (vf a b c d e) + v8 (vg a b c d e)) 9223372036854775807),bY a b c e||(!fo a b c e||leN ((v8 (vf a b c d e) + v8 (vg a b c d e)) * 32) 140737488355328),bY a b c e||(fo a b c e||(!aj (eg a b c e)||aY (jt a b c d e) (kJ a b c d e) e)),bY a b c e||(fo a b c e||leN (v8 (ju a b c d e) + v8 (vh a b c d e)) 9223372036854775807),bY a b c e||(fo a b c e||leN ((v8 (ju a b c d e) + v8 (vh a b c d e)) * 32) 140737488355328)]
end
def Tq:arq
 | [.one ⟨false,[.ptr 0 0]⟩,.one ⟨false,[.ref 1]⟩,.one ⟨false,[.val (.int .i64 a)]⟩],[.box 80 [.ref 2,.val (.int .i64 b),.val (.int .i64 c)],.row false 9 (.str) d,.row false 5 (.int .u8) e]=>some ⟨art (.ref 3),[.box 80 [.ref 2,ars (uy a b c d e),ars (uz a b c d e)],arv d,ary e],[arE (uA a b c d e)],[Gb a b c d e]⟩
 |_,_=>none
def acS:PF prog:=PF.ofG prog (T3z [aS,ji,DZ,GQ,Lw]) [] aZ 68 f68 func68 (fun c _=>LOk.nil c) Tq (by
 intro _ _ _ h;unfold Tq at h;split at h<;>cases h;kernel_rfl)
theorem aow(d a s:Int)(ns:List arp)(c:aro)(h:dtN 3 d a s ns c=true):
  Gb d a s ns c=true∧aY (uy d a s ns c) (uz d a s ns c) c=true∧dtL 15 (uA d a s ns c):=by
 obtain⟨⟨h0,h1⟩,hs,hn⟩:=NK.1 h
 obtain⟨n1,n2,n3⟩:=XS.1 hn
 have s23:aY (ef d a c) (sR d a s c) c=true:=yx (mT hs) hs
 have hs2:aY (nxA 12 (ef d a c) c) (vd d a s c) c=true:=mT s23
 obtain⟨i0,i1⟩:0≤rv d a s ns c∧rv d a s ns c < (ns.length:Int):=Ly (n:=(ns.length:Int)) hs2 (by omega)
 have j0:=cG i0
 have j1:=ew i1
 have j2:ltN (rv d a s ns c).toNat ns.length=true:=gM (by omega)
 cases h0:bY d a s c with
 |true=>
  refine⟨?_,?_,?_⟩
  ·simp only [Gb,h0,hs,s23,hs2,j0,j1,j2,allT,Bool.true_or,k9,Bool.not_true,Bool.false_or,cond_true]
  ·simp only [uy,uz,h0,cond_true]
   cases nD d a s c
   ·cases nE d a s c
    ·exact mT hs2
    ·exact hs2
   ·exact hs2
  ·simp only [uA,h0,cond_true]
   cases nD d a s c
   ·cases nE d a s c
    ·exact HD (aj7 hn _ i0 i1)
    ·exact HD (Nat.zero_le _)
   ·exact HD (Nat.zero_le _)
 |false=>
  have hd:1≤d:=by
   by_cases hd0:d=0
   ·rw [hd0]at h0;cases h0
   ·omega
  have a9:jY d=d - 1:=be (by omega) (by omega)
  have s10:aY (va d a c) (vb d a s c) c=true:=aeh s23
  have d1:dtN 2 (jY d) (va d a c) (vb d a s c) ns c=true:=NK.2 ⟨by omega,s10,hn⟩
  obtain⟨_,s12,q18⟩:=al5 _ _ _ ns c d1
  have s12:aY (jt d a s ns c) (kJ d a s ns c) c=true:=s12
  have q18:dtL 7 (ju d a s ns c):=q18
  have d2:dtN 2 (jY d) (jt d a s ns c) (kJ d a s ns c) ns c=true:=NK.2 ⟨by omega,s12,hn⟩
  obtain⟨_,s14,q19⟩:=al5 _ _ _ ns c d2
  have s14:aY (vc d a s ns c) (yM d a s ns c) c=true:=s14
  have q19:dtL 7 (ve d a s ns c):=q19
  have q23:dtL 1 (vg d a s ns c):=HD (by simp only [DG];cases aj (eg d a s c) <;> exact Nat.zero_le _)
  have q24:dtL 1 (vh d a s ns c):=HD (by simp only [DG];cases aj (eg d a s c) <;> exact Nat.zero_le _)
  have q20:dtL 14 (vf d a s ns c):=TR q18 q19 (by omega)
  have l18:=q18.2.1
  have l19:=q19.2.1
  have l20:=q20.2.1
  have l23:=q23.2.1
  have l24:=q24.2.1
  have p10:leN 1 (v8 [(4:Int),5,6,5,6,7,8,9,10,11,12])=true:=rfl
  refine⟨?_,?_,?_⟩
  ·simp only [Gb,h0,hs,s23,s10,d1,d2,s12,s14,p10,bK (show (ju d a s ns c).length + (ve d a s ns c).length≤9223372036854775807 by omega),bK (show ((ju d a s ns c).length + (ve d a s ns c).length) * 32≤140737488355328 by omega),
    bK (show (vf d a s ns c).length + (vg d a s ns c).length≤9223372036854775807 by omega),bK (show ((vf d a s ns c).length + (vg d a s ns c).length) * 32≤140737488355328 by omega),
    bK (show (ju d a s ns c).length + (vh d a s ns c).length≤9223372036854775807 by omega),bK (show ((ju d a s ns c).length + (vh d a s ns c).length) * 32≤140737488355328 by omega),
    allT,Bool.true_or,k9,Bool.not_false,Bool.false_or,Bool.and_self,cond_true]
  ·simp only [uy,uz,h0,cond_false]
   cases fo d a s c <;> simp only [cond_true,cond_false]
   ·exact yx (mT s12) s12
   ·exact yx (mT s14) s14
  ·simp only [uA,h0,cond_false]
   cases fo d a s c <;> simp only [cond_true,cond_false]
   ·exact TR q18 q24 (by omega)
   ·exact TR q20 q23 (by omega)
def Tu:arq
 | [.one ⟨false,[.ptr 0 0]⟩,.one ⟨false,[.ref 1]⟩,.one ⟨false,[.val (.int .i64 a)]⟩],[.box 80 [.ref 2,.val (.int .i64 b),.val (.int .i64 c)],.row false 9 (.str) d,.row false 5 (.int .u8) e]=>some ⟨art (.ref 3),[.box 80 [.ref 2,ars (uy a b c d e),ars (uz a b c d e)],arv d,ary e],[arE (uA a b c d e)],[dtN 3 a b c d e]⟩
 |_,_=>none
def jC:PF prog:=PF.alt acS Tu (by
 intro args es o h cm;unfold Tu at h;split at h
 ·rename_i a b c d e
  cases h
  have cm:=lv cm
  have hh:=(aow a b c d e cm).1
  have en:=hh
  exact re rfl (la en) rfl rfl rfl
 ·cases h)
abbrev rA:=List arp×Int×Int×List (arp×(List (Int×(arp×Int))))×List arp×List Int
section
variable (a:List arp)(b c:Int)(d:agS)(e:List arp)(f:aro)
def zd:Int:=nxV 4 (nxA (↑a.length:Int) b f) (nxS (↑a.length:Int) b c f) f
def ze:Int:=nxA 4 (nxA (↑a.length:Int) b f) f
def zf:Int:=nxS 4 (nxA (↑a.length:Int) b f) (nxS (↑a.length:Int) b c f) f
def Im:agT:= [(v9 a[v7 (nxV (↑a.length:Int) b c f)]? ByteArray.empty,uA (zd a b c f) (ze a b f) (zf a b c f) e f)]
def wa:List arp:=List.drop (v7 0) (List.take (v7 (nxV (↑a.length:Int) b c f)) a)
def Io:Int:=qqq .i64 (nxV (↑a.length:Int) b c f + (1:Int))
def CW:List arp:=List.drop (v7 (Io a b c f)) (List.take (v7 (↑a.length:Int)) a)
def Kx:Bool:=ltI 0 (↑a.length:Int)
def Wk:Bool:=aY b c f
def Qi:Bool:=leI 0 (nxV (↑a.length:Int) b c f)
def Wl:Bool:=ltI (nxV (↑a.length:Int) b c f) (↑a.length:Int)
def Wm:Bool:=ltN (v7 (nxV (↑a.length:Int) b c f)) a.length
def Wn:Bool:=aY (nxA (↑a.length:Int) b f) (nxS (↑a.length:Int) b c f) f
def Wo:Bool:=dtN 3 (zd a b c f) (ze a b f) (zf a b c f) e f
def Wp:Bool:=leN (v8 d + v8 (Im a b c e f)) 9223372036854775807
def Wq:Bool:=leN ((v8 d + v8 (Im a b c e f)) * 40) 140737488355328
end
def Wr:Bool:=leI 0 0
section
variable (a:List arp)(b c:Int)(d:agS)(e:List arp)(f:aro)
def UU:Bool:=leI (nxV (↑a.length:Int) b c f) (↑a.length:Int)
def UV:Bool:=leN (0 + v8 (wa a b c f)) 9223372036854775807
def UW:Bool:=leN ((0 + v8 (wa a b c f)) * 16) 140737488355328
def UX:Bool:=leI 0 (Io a b c f)
def UY:Bool:=leI (Io a b c f) (↑a.length:Int)
def UZ:Bool:=leI (↑a.length:Int) (↑a.length:Int)
def Va:Bool:=leN (v8 (wa a b c f) + v8 (CW a b c f)) 9223372036854775807
def Vb:Bool:=leN ((v8 (wa a b c f) + v8 (CW a b c f)) * 16) 140737488355328
def zc:List arp:=wa a b c f++CW a b c f
def aef:Int:=uy (zd a b c f) (ze a b f) (zf a b c f) e f
def aeg:Int:=uz (zd a b c f) (ze a b f) (zf a b c f) e f
def Il:agS:=d++Im a b c e f
end
def ady:rA→List (Nat×SV)
 |(_,_,_,_,_,_)=> [(7,(art (.ref 0))),(0,(art (.ptr 1 0))),(8,(art (.ref 2))),(6,(art (.ref 3)))]
def ads:rA→List (Nat×Entry)
 |(a,b,c,d,e,f)=> [(1,(.box 80 [.ref 4,ars b,ars c])),(3,(arv e)),(4,(ary f)),(0,(arv a)),(2,(arD d))]
def adK:Nat→rA→List (Nat×SV)
 |_,(_,_,_,_,_,_)=> [(8,(art (.ref 2)))]
def adE:Nat→rA→List (Nat×Entry)
 |_,(a,b,c,d,e,f)=> [(0,(arv a)),(1,(.box 80 [.ref 4,ars b,ars c])),(2,(arD d)),(3,(arv e)),(4,(ary f))]
def HY:rA→LT rA
 |(a,b,c,d,e,f)=> .ite (Kx a) (.need [Wk b c f] (.need [Qi a b c f,Wl a b c f,Wm a b c f,Wn a b c f,Wo a b c e f,Wp a b c d e f,Wq a b c d e f] (.need [Wr,Qi a b c f,UU a b c f,UV a b c f,UW a b c f,UX a b c f,UY a b c f,UZ a,Va a b c f,Vb a b c f] (.nrm ((zc a b c f),aef a b c e f,aeg a b c e f,Il a b c d e f,e,f) [(0,2048),(1,1),(2,1344),(3,3),(4,4)])))) (.ext 0 [(0,0),(1,1),(2,2),(3,3),(4,4)])
def Om(s:St):Option rA:=do
 let some ⟨none,.one ⟨false,[.ref 1984]⟩⟩:=s.look 7|none
 let some ⟨none,.one ⟨false,[.ptr 0 0]⟩⟩:=s.look 0|none
 let some ⟨none,.one ⟨false,[.ref 2112]⟩⟩:=s.look 8|none
 let some ⟨none,.one ⟨false,[.ref 1600]⟩⟩:=s.look 6|none
 let some (.box 80 [.ref 1,.val (.int .i64 b),.val (.int .i64 c)]):=s.ent 0|none
 let some (.row false 9 (.str) e):=s.ent 1600|none
 let some (.row false 5 (.int IntKind.u8) f):=s.ent 1|none
 let some (.row false 9 (.str) a):=s.ent 1984|none
 let some (.row true 61 (.pair .str (.sl 64 (.pair (.int .i64) (.pair .str (.int .i64))))) d):=s.ent 2112|none
 some (a,b,c,d,e,f)
def lS:Lp rA where
 h:=⟨[36,37,38,39,40,41,42,9,43,44,45,46,47,48,49,50,51,52,53,54,55,8,56,57,58,59,60,61,62,63,64,65,7],[1,3,4],[0,2],[]⟩
 JL:=ady
 JE:=ads
 XL:=adK
 XE:=adE
 q:=fun j=>match j with | _=> .exit 0
 tags:= [0]
 lt:=HY
 fuel:=fun(a,b,c,d,e,f)=>a.length + b.natAbs + c.natAbs + d.length + e.length + f.length
 fix:=fun(_,_,_,_,e,f) (a,b,c,d,_,_)=>(a,b,c,d,e,f)
 σ:= [(1,0),(3,1600),(4,1),(0,1984),(2,2112)]
 rd:=Om
 fz:= [1000007,1000006]
theorem abz:LoopOk prog (fun k=>Nat.blt k Tryz.f41.ntmps) lS.F (bc f41 0):=by
 refine Lp.ok (tbl:= (T3z [aS,jC])) (lf:= []) aZ lS (by kernel_rfl) (LOk.nil _) (fun _=>rfl) (fun _ _=>rfl) ?_ ?_ ?_ ?_ (fun _=>rfl) ?_
 ·intro _;kernel_rfl
 ·intro _;kernel_rfl
 ·intro s x h
  have h:Om s=some x:=h
  unfold Om at h
  repeat' split at h
  all_goals cases h
  constructor<;>repeat(first|refine aa ‹_› rfl ?_|refine ab rfl ‹_› rfl ?_|rfl)
 ·intro _;kernel_rfl
 ·intro _ _;exact(And.intro rfl trivial)
section
variable (a b:Int)(c:aro)
def yt:Int:=nxV 4 (nxA 3 a c) (nxS 3 a b c) c
def jD:List arp:=List.take (v7 (yt a b c)) [ByteArray.mk #[120],ByteArray.mk #[121],ByteArray.mk #[122]]
def yu:Int:=nxA 4 (nxA 3 a c) c
def Ed:Int:=nxS 4 (nxA 3 a c) (nxS 3 a b c) c
def AR:Int:=qqq .i64 ((1:Int) + nxV 2 (yu a c) (Ed a b c) c)
def qU:List arp:=List.take (v7 (AR a b c)) [ByteArray.mk #[113],ByteArray.mk #[108,97,109,112]]
def AU:Int:=qqq .i64 ((1:Int) + nxV 3 a b c)
def oU:List arp:=List.take (v7 (AU a b c)) [ByteArray.mk #[97],ByteArray.mk #[98],ByteArray.mk #[107,101,121]]
def lI:List arp:=oU a b c++jD a b c
def NX:List arp×Int×Int×agT×List arp×aro:=(jD a b c++qU a b c,nxA 2 (yu a c) c,nxS 2 (yu a c) (Ed a b c) c,[],lI a b c,c)
def GX:Int×Int×agT×List arp×aro:=(Lp.res lS (NX a b c)).2.2
def mV:Int:=(GX a b c).1
def Mv:Int×agT×List arp×aro:=(GX a b c).2
def BP:Int:=(Mv a b c).1
def rb:Bool:=ltI 0 (nxV 3 (mV a b c) (BP a b c) c)
def BQ:Int:=nxS 3 (mV a b c) (BP a b c) c
def zb:Int:=nxV (↑(v8 (lI a b c)):Int) (nxA 3 (mV a b c) c) (BQ a b c) c
def Rj:Bool:=leN (0 + v8 (oU a b c)) 9223372036854775807
def Rk:Bool:=leN ((0 + v8 (oU a b c)) * 16) 140737488355328
def Rl:Bool:=leN (0 + v8 (jD a b c)) 9223372036854775807
def Rm:Bool:=leN ((0 + v8 (jD a b c)) * 16) 140737488355328
def pA:arp:=bif rb a b c then ByteArray.mk #[114,105,100,101]else ByteArray.mk #[114,105,100,101]
def qT:arp:=bif rb a b c then v9 (lI a b c)[v7 (zb a b c)]? ByteArray.empty else ByteArray.mk #[]
def pB:Int:=bif rb a b c then nxA (↑(v8 (lI a b c)):Int) (nxA 3 (mV a b c) c) c else nxA 3 (mV a b c) c
def Ag:Int:=bif rb a b c then nxS (↑(v8 (lI a b c)):Int) (nxA 3 (mV a b c) c) (BQ a b c) c else BQ a b c
def lZ:List arp:=oU a b c
def eF:List arp:=jD a b c
def pC:List arp:=qU a b c
def gf:agS:=((Mv a b c).2).1
def UT:Bool:=allT [aY a b c,leI 0 (AU a b c),leI (AU a b c) (↑(v8 [ByteArray.mk #[97],ByteArray.mk #[98],ByteArray.mk #[107,101,121]]):Int),aY (nxA 3 a c) (nxS 3 a b c) c,leI 0 (yt a b c),leI (yt a b c) (↑(v8 [ByteArray.mk #[120],ByteArray.mk #[121],ByteArray.mk #[122]]):Int),aY (yu a c) (Ed a b c) c,leI 0 (AR a b c),leI (AR a b c) (↑(v8 [ByteArray.mk #[113],ByteArray.mk #[108,97,109,112]]):Int),Rj a b c,Rk a b c,leN (v8 (oU a b c) + v8 (jD a b c)) 9223372036854775807,leN ((v8 (oU a b c) + v8 (jD a b c)) * 16) 140737488355328,Rl a b c,Rm a b c,leN (v8 (jD a b c) + v8 (qU a b c)) 9223372036854775807,leN ((v8 (jD a b c) + v8 (qU a b c)) * 16) 140737488355328,Lp.fin lS (NX a b c),Rj a b c,Rk a b c,Rl a b c,Rm a b c,leN (0 + v8 (qU a b c)) 9223372036854775807,leN ((0 + v8 (qU a b c)) * 16) 140737488355328,aY (mV a b c) (BP a b c) c,!rb a b c||aY (nxA 3 (mV a b c) c) (BQ a b c) c,!rb a b c||leI 0 (zb a b c),!rb a b c||ltI (zb a b c) (↑(v8 (lI a b c)):Int),!rb a b c||ltN (v7 (zb a b c)) (v8 (lI a b c))]
end
def aaI:arq
 | [.one ⟨false,[.ptr 0 0]⟩],[.box 80 [.ref 1,.val (.int .i64 a),.val (.int .i64 b)],.row false 5 (.int .u8) c]=>some ⟨.one ⟨true,[.val (.string (pA a b c)),.ref 2,.ref 3,.ref 4,.val (.string (qT a b c)),.ref 5]⟩,[.box 80 [.ref 1,ars (pB a b c),ars (Ag a b c)],ary c],[arw (lZ a b c),arw (eF a b c),arw (pC a b c),arD (gf a b c)],[UT a b c]⟩
 |_,_=>none
def aik:PF prog:=PF.ofG prog (T3z [aS,jC]) [(fun s=>lS.F (afq [(1000007,0),(1000006,0)] s))] aZ 41 f41 func41 (LOk.fnT (l:= [bc f41 0]) (by kernel_rfl) (.cons (abz.alias [(1000007,0),(1000006,0)]) (.nil _))) aaI (by
 intro _ _ _ h;unfold aaI at h;split at h<;>cases h;kernel_rfl)
abbrev gg:=List (Int×(arp×Int))×Int×Int×List Int
section
variable (a:ajd)(b c:Int)(d:aro)
def Bw:Bool:=aY b c d
def Bx:Bool:=ltI (↑a.length:Int) (qqq .i64 ((40:Int) + nxV 2 b c d))
def Bz:Bool:=leN (v8 a + v8 [((4:Int),ByteArray.mk #[],(0:Int))]) 9223372036854775807
def BA:Bool:=leN ((v8 a + v8 [((4:Int),ByteArray.mk #[],(0:Int))]) * 32) 140737488355328
def BB:ajd:=a++ [((4:Int),ByteArray.mk #[],(0:Int))]
def om:Int:=nxA 2 b d
def oo:Int:=nxS 2 b c d
end
def So:gg→List (Nat×SV)
 |(_,_,_,_)=> [(3,(art (.ref 0))),(0,(art (.ptr 1 0)))]
def Sn:gg→List (Nat×Entry)
 |(a,b,c,d)=> [(1,(.box 80 [.ref 2,ars b,ars c])),(2,(ary d)),(0,(arE a))]
def Sr:Nat→gg→List (Nat×SV)
 |_,(_,_,_,_)=> [(3,(art (.ref 0)))]
def Sq:Nat→gg→List (Nat×Entry)
 |_,(a,b,c,d)=> [(0,(arE a)),(1,(.box 80 [.ref 2,ars (om b d),ars (oo b c d)])),(2,(ary d))]
def AO:gg→LT gg
 |(a,b,c,d)=> .need [Bw b c d] (.ite (Bx a b c d) (.need [Bz a,BA a] (.nrm ((BB a),om b d,oo b c d,d) [(0,640),(1,1),(2,2)])) (.ext 0 [(0,0),(1,1),(2,2)]))
def AQ(s:St):Option gg:=do
 let some ⟨none,.one ⟨false,[.ref 512]⟩⟩:=s.look 3|none
 let some ⟨none,.one ⟨false,[.ptr 0 0]⟩⟩:=s.look 0|none
 let some (.box 80 [.ref 1,.val (.int .i64 b),.val (.int .i64 c)]):=s.ent 0|none
 let some (.row false 5 (.int IntKind.u8) d):=s.ent 1|none
 let some (.row true 64 (.pair (.int .i64) (.pair .str (.int .i64))) a):=s.ent 512|none
 some (a,b,c,d)
def cO:Lp gg where
 h:=⟨[52,53,54,55,56,57,58,59,60,61,3],[1,2],[0],[]⟩
 JL:=So
 JE:=Sn
 XL:=Sr
 XE:=Sq
 q:=fun j=>match j with | _=> .exit 1
 tags:= [0]
 lt:=AO
 fuel:=fun(a,b,c,d)=>a.length + b.natAbs + c.natAbs + d.length
 fix:=fun(_,_,_,d) (a,b,c,_)=>(a,b,c,d)
 σ:= [(1,0),(2,1),(0,512)]
 rd:=AQ
theorem QY:LoopOk prog (fun k=>Nat.blt k Tryz.f66.ntmps) cO.F (bc f66 0):=by
 refine Lp.ok (tbl:= (T3z [aS,ji,jC])) (lf:= []) aZ cO (by kernel_rfl) (LOk.nil _) (fun _=>rfl) (fun _ _=>rfl) ?_ ?_ ?_ ?_ (fun _=>rfl) ?_
 ·intro _;kernel_rfl
 ·intro _;kernel_rfl
 ·intro s x h
  have h:AQ s=some x:=h
  unfold AQ at h
  repeat' split at h
  all_goals cases h
  constructor<;>repeat(first|refine aa ‹_› rfl ?_|refine ab rfl ‹_› rfl ?_|rfl)
 ·intro _;kernel_rfl
 ·intro _ _;exact(And.intro rfl trivial)
section
variable (a b:Int)(c:aro)
def eD:aje:=uA (nxV 4 a b c) (nxA 4 a c) (nxS 4 a b c) [ByteArray.mk #[97],ByteArray.mk #[98],ByteArray.mk #[103,97,116,101]] c
def ch:Int:=(↑(v8 (eD a b c)):Int)
def ja:Int:=uy (nxV 4 a b c) (nxA 4 a c) (nxS 4 a b c) [ByteArray.mk #[97],ByteArray.mk #[98],ByteArray.mk #[103,97,116,101]] c
def yA:Int:=uz (nxV 4 a b c) (nxA 4 a c) (nxS 4 a b c) [ByteArray.mk #[97],ByteArray.mk #[98],ByteArray.mk #[103,97,116,101]] c
def yB:Int:=nxS (ch a b c) (ja a b c) (yA a b c) c
def uj:Int:=nxV 24 (nxA (ch a b c) (ja a b c) c) (yB a b c) c
def aR:Bool:=uj a b c==0
def bL:Int:=nxA 24 (nxA (ch a b c) (ja a b c) c) c
def bn:Bool:=uj a b c==1
def eE:Bool:=uj a b c==2
def lW:Bool:=uj a b c==3
def sK:Bool:=uj a b c==4
def cT:Int:=nxS 24 (nxA (ch a b c) (ja a b c) c) (yB a b c) c
def pz:aje×Int×Int×aro:=(eD a b c,bL a b c,cT a b c,c)
def lX:Int×Int×aro:=(Lp.res cO (pz a b c)).2.2
def bq:Int:=nxV (ch a b c) (ja a b c) (yA a b c) c
def lY:Int×arp×Int:=v9 (eD a b c)[v7 (bq a b c)]? ((0:Int),ByteArray.empty,(0:Int))
def iu:Int:=nxV 4 (bL a b c) (cT a b c) c
def xF:Bool:=ltN (v7 (bq a b c)) (v8 (eD a b c))
def vr:Int:=bif aR a b c then pkA (bL a b c) [(0:Int),(4:Int),(5:Int),(13:Int)] c else bif bn a b c then nxA 4 (bL a b c) c else bif eE a b c then pkA (bL a b c) [(-1:Int),(1:Int),(9999:Int),(10000:Int)] c else bif lW a b c then bL a b c else bif sK a b c then om ((lX a b c).1) c else bL a b c
def vt:Int:=bif aR a b c then pkS (bL a b c) (cT a b c) [(0:Int),(4:Int),(5:Int),(13:Int)] c else bif bn a b c then nxS 4 (bL a b c) (cT a b c) c else bif eE a b c then pkS (bL a b c) (cT a b c) [(-1:Int),(1:Int),(9999:Int),(10000:Int)] c else bif lW a b c then cT a b c else bif sK a b c then oo ((lX a b c).1) (((lX a b c).2).1) c else cT a b c
def vu:ajd:=bif aR a b c then List.set (eD a b c) (v7 (bq a b c)) (pkV (bL a b c) (cT a b c) [(0:Int),(4:Int),(5:Int),(13:Int)] c,((lY a b c).2).1,(lY a b c).2.2)else bif bn a b c then List.set (eD a b c) (v7 (bq a b c)) ((lY a b c).1,v9 [ByteArray.mk #[],ByteArray.mk #[97,110,100],ByteArray.mk #[120],ByteArray.mk #[89]][v7 (iu a b c)]? ByteArray.empty,(lY a b c).2.2)else bif eE a b c then List.set (eD a b c) (v7 (bq a b c)) ((lY a b c).1,((lY a b c).2).1,pkV (bL a b c) (cT a b c) [(-1:Int),(1:Int),(9999:Int),(10000:Int)] c)else bif lW a b c then List.take (v7 (bq a b c)) (eD a b c)else bif sK a b c then ((Lp.res cO (pz a b c)).2).1else eD a b c
def Fp:Bool:=allT [aY a b c,dtN 3 (nxV 4 a b c) (nxA 4 a c) (nxS 4 a b c) [ByteArray.mk #[97],ByteArray.mk #[98],ByteArray.mk #[103,97,116,101]] c,aY (ja a b c) (yA a b c) c,aY (nxA (ch a b c) (ja a b c) c) (yB a b c) c,!aR a b c||aY (bL a b c) (cT a b c) c&&leN 1 (v8 [(0:Int),(4:Int),(5:Int),(13:Int)]),!aR a b c||leI 0 (bq a b c),!aR a b c||ltI (bq a b c) (ch a b c),!aR a b c||xF a b c,aR a b c||(!bn a b c||aY (bL a b c) (cT a b c) c),aR a b c||(!bn a b c||leI 0 (iu a b c)),aR a b c||(!bn a b c||ltI (iu a b c) (↑(v8 [ByteArray.mk #[],ByteArray.mk #[97,110,100],ByteArray.mk #[120],ByteArray.mk #[89]]):Int)),aR a b c||(!bn a b c||ltN (v7 (iu a b c)) (v8 [ByteArray.mk #[],ByteArray.mk #[97,110,100],ByteArray.mk #[120],ByteArray.mk #[89]])),aR a b c||(!bn a b c||leI 0 (bq a b c)),aR a b c||(!bn a b c||ltI (bq a b c) (ch a b c)),aR a b c||(!bn a b c||xF a b c),aR a b c||(bn a b c||(!eE a b c||aY (bL a b c) (cT a b c) c&&leN 1 (v8 [(-1:Int),(1:Int),(9999:Int),(10000:Int)]))),aR a b c||(bn a b c||(!eE a b c||leI 0 (bq a b c))),aR a b c||(bn a b c||(!eE a b c||ltI (bq a b c) (ch a b c))),aR a b c||(bn a b c||(!eE a b c||xF a b c)),aR a b c||(bn a b c||(eE a b c||(!lW a b c||leI 0 (bq a b c)))),aR a b c||(bn a b c||(eE a b c||(!lW a b c||leI (bq a b c) (ch a b c)))),aR a b c||(bn a b c||(eE a b c||(lW a b c||(!sK a b c||Lp.fin cO (pz a b c)))))]
end
def Nq:arq
 | [.one ⟨false,[.ptr 0 0]⟩],[.box 80 [.ref 1,.val (.int .i64 a),.val (.int .i64 b)],.row false 5 (.int .u8) c]=>some ⟨art (.ref 2),[.box 80 [.ref 1,ars (vr a b c),ars (vt a b c)],ary c],[arE (vu a b c)],[Fp a b c]⟩
 |_,_=>none
def Xe:PF prog:=PF.ofG prog (T3z [aS,ji,jC]) [cO.F] aZ 66 f66 func66 (LOk.fnT (l:= [bc f66 0]) (by kernel_rfl) (.cons QY (.nil _))) Nq (by
 intro _ _ _ h;unfold Nq at h;split at h<;>cases h;kernel_rfl)
theorem S1:(∀ b:Bool,(b||false)=b)∧((false=true)=False)∧(∀ a b:Bool,((a&&b)=true)=(a=true∧b=true))∧(∀ a b:Int,(ltI a b=true)=(a < b))∧(∀ a b:Int,(leI a b=true)=(a≤b))∧(∀ a b:Int,(ltI a b=false)=(b≤a))∧(∀ a b:Int,(leI a b=false)=(b < a)):=by and_intros <;> intros <;> simp
theorem S2:(∀ (α:Type) (a b:List α),(a++b).length=a.length + b.length)∧(∀ (α:Type) (a:α) (l:List α),(a::l).length=l.length + 1)∧(∀ α:Type,([]:List α).length=0):=by and_intros <;> intros <;> simp
theorem adP{b:Bool}{l:List Bool}:allT (b::l)=true↔b=true∧allT l=true:=by cases b <;> simp [allT]
theorem adQ:allT []=true↔True:=by simp [allT]
theorem aoM{α:Type}{t:Bool}{l l':List α}{n:Nat}(h:l.length≤n)(h':l'.length≤n):(bif t then l else l').length≤n:=by cases t <;> assumption
def LT.ok{X:Type}(J:X→Prop)(Q:Nat→Prop):LT X→Prop
 | .nrm x _=>J x
 | .ext j _=>Q j
 | .need nd t=>allT nd=true∧t.ok J Q
 | .ite b t e=>(b=true→t.ok J Q)∧(b=false→e.ok J Q)
theorem LT.ok_out{X:Type}{J:X→Prop}{Q:Nat→Prop}: ∀ {t:LT X},t.ok J Q→(∃ j,t.out=some (.inl j)∧Q j)∨ ∃ y,t.out=some (.inr y)∧J y
 | .nrm x _,h=> .inr ⟨x,rfl,h⟩
 | .ext j _,h=> .inl ⟨j,rfl,h⟩
 | .need nd t,h=>by
  simp only [LT.ok]at h
  simp only [LT.out,h.1,cond_true]
  exact LT.ok_out (t:=t) h.2
 | .ite b t e,h=>by
  simp only [LT.ok]at h
  simp only [LT.out]
  cases b with
  |true=>exact LT.ok_out (t:=t) (h.1 rfl)
  |false=>exact LT.ok_out (t:=e) (h.2 rfl)
theorem Lp.inv2{X:Type}(p:Lp X)(I:Nat→X→Prop)(Q:X→Prop)(hs: ∀ k x,I (k + 1) x→(p.lt x).ok (I k) (fun _=>Q x))(he: ∀ x,I 0 x→(p.lt x).ok (fun _=>False) (fun _=>Q x))
  (N:Nat) (x:X) (hN:N≤999) (h:I N x):p.fin x=true∧ ∃ j y,p.res x=(j,y)∧Q y:=
 p.inv I (fun _ y=>Q y) (fun k x hx=>LT.ok_out (hs k x hx)) (fun x hx=>by
  rcases LT.ok_out (he x hx)with h | ⟨_,_,h⟩
  ·exact h
  ·exact h.elim) N x hN h
theorem apB{α:Type}{l:List α}(h:ltI 0 (l.length:Int)=true):1≤l.length:=by have:=TU.1 h;omega
 attribute [local irreducible] nxA nxS nxV pkA pkS pkV
end Go.SX
namespace Go.SX
open Go.Proofs Go.Proofs.Tryz
set_option maxRecDepth 100000
def Mb(n:Nat)(l:List arp):Bool:=leN l.length n&&l.all fun s=>leN s.size 1000
def Qy(n:Nat)(l:List TM):Bool:=leN l.length n&&l.all fun t=>leN t.2.1.size 1000
def WU(n:Nat)(ls:List LN):Bool:=leN ls.length n&&ls.all fun l=>leN l.1.size 1000&&Qy 100 l.2
def prD(nm:arp)(ins vs os:List arp)(g:arp)(ls:List LN):Bool:=leN nm.size 1000&&(Mb 50 ins&&(Mb 50 vs&&(Mb 50 os&&(leN g.size 1000&&WU 100 ls))))
theorem lU{n:Nat}{l:List arp}:Mb n l=true↔l.length≤n∧ ∀ s∈l,s.size≤1000:=by simp only [Mb,q9,iC,List.all_eq_true]
theorem Dv{n:Nat}{l:List TM}:Qy n l=true↔l.length≤n∧ ∀ t∈l,t.2.1.size≤1000:=by simp only [Qy,q9,iC,List.all_eq_true]
theorem GE{n:Nat}{l:List LN}:WU n l=true↔l.length≤n∧ ∀ x∈l,x.1.size≤1000∧Qy 100 x.2=true:=by simp only [WU,q9,iC,List.all_eq_true]
theorem FP{nm:arp}{ins vs os:List arp}{g:arp}{ls:List LN}:prD nm ins vs os g ls=true↔
  nm.size≤1000∧Mb 50 ins=true∧Mb 50 vs=true∧Mb 50 os=true∧g.size≤1000∧WU 100 ls=true:=by simp only [prD,q9,iC]
theorem afP{n m:Nat}{l:List arp}(h:Mb n l=true)(hm:n≤m):Mb m l=true:=by
 obtain⟨h1,h2⟩:=lU.1 h;exact lU.2 ⟨by omega,h2⟩
theorem anU{n m:Nat}{l:List LN}(h:WU n l=true)(hm:n≤m):WU m l=true:=by
 obtain⟨h1,h2⟩:=GE.1 h;exact GE.2 ⟨by omega,h2⟩
theorem abF{n m k:Nat}{a b:List arp}(ha:Mb n a=true)(hb:Mb m b=true)(h:n + m≤k):Mb k (a++b)=true:=by
 obtain⟨h1,h2⟩:=lU.1 ha;obtain⟨h3,h4⟩:=lU.1 hb
 exact lU.2 ⟨by rw [j6];omega,fun s hs=>(j8.1 hs).elim (h2 s) (h4 s)⟩
theorem XR{n:Nat}(k:Nat){l:List arp}(h:Mb n l=true):Mb n (l.take k)=true:=by
 obtain⟨h1,h2⟩:=lU.1 h
 exact lU.2 ⟨by rw [j7];omega,fun s hs=>h2 s (List.mem_of_mem_take hs)⟩
theorem aoQ{n:Nat}{a:List LN}{b:LN}(ha:WU n a=true)(h1:b.1.size≤1000)(h2:Qy 100 b.2=true):WU (n + 1) (a++ [b])=true:=by
 obtain⟨k1,k2⟩:=GE.1 ha
 refine GE.2 ⟨by rw [j6,z9];omega,fun x hx=> ?_⟩
 rcases j8.1 hx with hx | hx
 ·exact k2 x hx
 ·rw [qqj.1 hx];exact⟨h1,h2⟩
theorem amV{n m:Nat}{l:List TM}(h:dtL n l)(hm:n≤m):Qy m l=true:=Dv.2 ⟨by have:=h.2.1;omega,h.2.2⟩
theorem ae5{n:Nat}{l:List arp}(h:Mb n l=true)(k:Nat):(v9 l[k]? ByteArray.empty).size≤1000:=by
 cases hk:l[k]? with
 |none=>exact Nat.zero_le _
 |some s=>exact(lU.1 h).2 s (List.mem_of_getElem? hk)
 attribute [local irreducible] nxA nxS nxV pkA pkS pkV
theorem abR(c:aro)(x:rA)(hx:match x with | (a,b,e,f,g,i)=>a.length≤(5:Nat)∧Mb 50 a=true∧aY b e i=true∧(f.length + a.length≤50∧1≤f.length + a.length)∧WU f.length f=true∧alc g=true∧i=c):
  lS.fin x=true∧ ∃ j y,lS.res x=(j,y)∧(match y with | (a,b,e,f,g,i)=>aY b e c=true∧(1≤f.length∧f.length≤50)∧WU f.length f=true∧c=i):=by
 refine lS.inv2 (fun k x=>match x with | (a,b,e,f,g,i)=>a.length≤k∧Mb 50 a=true∧aY b e i=true∧(f.length + a.length≤50∧1≤f.length + a.length)∧WU f.length f=true∧alc g=true∧i=c) (fun y=>match y with | (a,b,e,f,g,i)=>aY b e c=true∧(1≤f.length∧f.length≤50)∧WU f.length f=true∧c=i) (fun k x hx=> ?_) (fun x hx=> ?_) 5 x (by omega) hx
 ·obtain⟨a,b,e,f,g,i⟩:=x
  obtain⟨h0,h1,h2,⟨h3,h4⟩,h5,h6,rfl⟩:=hx
  cases ht:ltI 0 (a.length:Int)with
  |false=>
   have:=YS.1 ht
   simp only [lS,HY,LT.ok,Kx,ht,Bool.false_eq_true,false_implies,true_implies,true_and,and_true]
   exact⟨h2,by omega,h5⟩
  |true=>
   have hp:=apB ht
   obtain⟨i0,i1⟩:=Ly (n:=(a.length:Int)) h2 (by omega)
   have s5:aY (nxA (a.length:Int) b i) (nxS (a.length:Int) b e i) i=true:=mT h2
   have n4:=Ly (n:=4) s5 (by omega)
   have s12:aY (ze a b i) (zf a b e i) i=true:=mT s5
   have d:dtN 3 (zd a b e i) (ze a b i) (zf a b e i) g i=true:=NK.2 ⟨by simp only [zd];omega,s12,h6⟩
   obtain⟨_,t01,t2⟩:=aow _ _ _ g i d
   have hw:Io a b e i=nxV (a.length:Int) b e i + 1:=be (by omega) (by omega)
   have l3:(Im a b e g i).length=1:=rfl
   have l4:(wa a b e i).length=(nxV (a.length:Int) b e i).toNat:=by
    simp only [wa,Int.toNat_zero,List.drop_zero,j7];omega
   have l6:(CW a b e i).length=a.length - (nxV (a.length:Int) b e i + 1).toNat:=by
    simp only [CW,hw,z6,List.take_length,List.length_drop]
   have m18:Mb 50 (zc a b e i)=true:=by
    refine lU.2 ⟨by simp only [zc,j6,l4,l6];omega,fun s hs=> ?_⟩
    simp only [zc,j8]at hs
    rcases hs with hs | hs
    ·exact(lU.1 h1).2 s (List.mem_of_mem_take (List.mem_of_mem_drop hs))
    ·exact(lU.1 h1).2 s (List.mem_of_mem_take (List.mem_of_mem_drop hs))
   have p1:Wk b e i=true:=h2
   have p2:Qi a b e i=true:=cG i0
   have p3:Wl a b e i=true:=ew i1
   have p4:Wm a b e i=true:=gM (by omega)
   have p5:Wn a b e i=true:=s5
   have p6:Wo a b e g i=true:=d
   have p7:Wp a b e f g i=true:=bK (by rw [l3];omega)
   have p8:Wq a b e f g i=true:=bK (by rw [l3];omega)
   have p9:Wr=true:=rfl
   have p10:UU a b e i=true:=cG (by omega)
   have p11:UV a b e i=true:=bK (by rw [l4];omega)
   have p12:UW a b e i=true:=bK (by rw [l4];omega)
   have p13:UX a b e i=true:=cG (by rw [hw];omega)
   have p14:UY a b e i=true:=cG (by rw [hw];omega)
   have p15:UZ a=true:=cG (by omega)
   have p16:Va a b e i=true:=bK (by rw [l4,l6];omega)
   have p17:Vb a b e i=true:=bK (by rw [l4,l6];omega)
   have l18:(zc a b e i).length=a.length - 1:=by simp only [zc,j6,l4,l6];omega
   have l21:(Il a b e f g i).length=f.length + 1:=by simp only [Il,j6,l3]
   have m21:WU (f.length + 1) (Il a b e f g i)=true:=aoQ h5 (ae5 h1 _) (amV t2 (by omega))
   simp only [lS,HY,LT.ok,Kx,ht,Bool.false_eq_true,reduceCtorEq,false_implies,true_implies,true_and,and_true,adP,adQ,p1,p2,p3,p4,p5,p6,p7,p8,p9,p10,p11,p12,p13,p14,p15,p16,p17]
   exact⟨by omega,m18,t01,by omega,by rw [l21];exact m21,h6⟩
 ·obtain⟨a,b,e,f,g,i⟩:=x
  obtain⟨h0,h1,h2,⟨h3,h4⟩,h5,h6,rfl⟩:=hx
  have ht:ltI 0 (a.length:Int)=false:=CE (by omega)
  simp only [lS,HY,LT.ok,Kx,ht,Bool.false_eq_true,false_implies,true_implies,true_and,and_true]
  exact⟨h2,by omega,h5⟩
theorem Qh(a c:Int)(d:aro)(h:aY a c d=true):
  UT a c d=true∧aY (pB a c d) (Ag a c d) d=true∧(prD (pA a c d) (lZ a c d) (eF a c d) (pC a c d) (qT a c d) (gf a c d)=true∧1≤(lZ a c d).length)∧1≤(gf a c d).length∧(gf a c d).length≤50:=by
 have n3:=Ly (n:=3) h (by omega)
 have s1:aY (nxA 3 a d) (nxS 3 a c d) d=true:=mT h
 have n4:0≤yt a c d∧yt a c d < 4:=Ly (n:=4) s1 (by omega)
 have s2:aY (yu a d) (Ed a c d) d=true:=mT s1
 have n2:=Ly (n:=2) s2 (by omega)
 have s3:aY (nxA 2 (yu a d) d) (nxS 2 (yu a d) (Ed a c d) d) d=true:=mT s2
 have w6:AU a c d=1 + nxV 3 a c d:=be (by omega) (by omega)
 have w4:AR a c d=1 + nxV 2 (yu a d) (Ed a c d) d:=be (by omega) (by omega)
 have l7:(oU a c d).length=(AU a c d).toNat:=by simp only [oU,j7,k7,k8];omega
 have l1:(jD a c d).length=(yt a c d).toNat:=by simp only [jD,j7,k7,k8];omega
 have l5:(qU a c d).length=(AR a c d).toNat:=by simp only [qU,j7,k7,k8];omega
 have m7:Mb 3 (oU a c d)=true:=XR _ rfl
 have m1:Mb 3 (jD a c d)=true:=XR _ rfl
 have m5:Mb 2 (qU a c d)=true:=XR _ rfl
 have m8:Mb 6 (lI a c d)=true:=abF m7 m1 (by omega)
 have l8:(lI a c d).length=(oU a c d).length + (jD a c d).length:=by simp only [lI,j6]
 have d8:alc (lI a c d)=true:=XS.2 ⟨by omega,by omega,(lU.1 m8).2⟩
 obtain⟨f0,j0,⟨z0,z1,z2,z3,z4,z5⟩,g0,q1,q2,q3,q4⟩:=abR d (NX a c d) (by
  simp only [NX]
  exact⟨by rw [j6];omega,abF m1 m5 (by omega),s3,⟨by rw [j6,k8];omega,by rw [j6,k8];omega⟩,rfl,d8,trivial⟩)
 have e11:mV a c d=z1:=by simp only [mV,GX,g0]
 have e13:BP a c d=z2:=by simp only [BP,Mv,GX,g0]
 have e7:gf a c d=z3:=by simp only [gf,Mv,GX,g0]
 have s4:aY (nxA 3 (mV a c d) d) (BQ a c d) d=true:=by simp only [BQ,e11,e13];exact mT q1
 have n8:0≤zb a c d∧zb a c d < ((lI a c d).length:Int):=Ly (n:=((lI a c d).length:Int)) s4 (by omega)
 have q1':aY (mV a c d) (BP a c d) d=true:=by rw [e11,e13];exact q1
 have k1:=cG n8.1
 have k2:=ew n8.2
 have k3:ltN (zb a c d).toNat (lI a c d).length=true:=gM (by omega)
 refine⟨?_,?_,⟨?_,?_⟩,?_,?_⟩
 ·have u1:leI 0 (AU a c d)=true:=cG (by omega)
  have u2:leI (AU a c d) (([ByteArray.mk #[97],ByteArray.mk #[98],ByteArray.mk #[107,101,121]]:List arp).length:Int)=true:=cG (by simp only [k7,k8];omega)
  have u3:leI 0 (yt a c d)=true:=cG (by omega)
  have u4:leI (yt a c d) (([ByteArray.mk #[120],ByteArray.mk #[121],ByteArray.mk #[122]]:List arp).length:Int)=true:=cG (by simp only [k7,k8];omega)
  have u5:leI 0 (AR a c d)=true:=cG (by omega)
  have u6:leI (AR a c d) (([ByteArray.mk #[113],ByteArray.mk #[108,97,109,112]]:List arp).length:Int)=true:=cG (by simp only [k7,k8];omega)
  have b: ∀ (i j:Nat),i≤100→j≤100→leN (i + j) 9223372036854775807=true∧leN ((i + j) * 16) 140737488355328=true:=fun i j hi hj=>⟨bK (by omega),bK (by omega)⟩
  obtain⟨b1,b2⟩:=b (oU a c d).length (jD a c d).length (by omega) (by omega)
  obtain⟨b3,b4⟩:=b (jD a c d).length (qU a c d).length (by omega) (by omega)
  obtain⟨b5,b6⟩:=b 0 (oU a c d).length (by omega) (by omega)
  obtain⟨b7,b8⟩:=b 0 (jD a c d).length (by omega) (by omega)
  obtain⟨b9,b10⟩:=b 0 (qU a c d).length (by omega) (by omega)
  have c17:Rj a c d=true:=b5
  have c18:Rk a c d=true:=b6
  have c19:Rl a c d=true:=b7
  have c20:Rm a c d=true:=b8
  simp only [UT,h,s1,s2,q1',s4,f0,u1,u2,u3,u4,u5,u6,b1,b2,b3,b4,b9,b10,c17,c18,c19,c20,k1,k2,k3,allT,k9,cond_true]
 ·simp only [pB,Ag];exact yx (mT s4) s4
 ·refine FP.2 ⟨?_,afP m7 (by omega),afP m1 (by omega),afP m5 (by omega),?_,?_⟩
  ·simp only [pA];cases rb a c d <;> exact(by decide)
  ·simp only [qT]
   cases rb a c d
   ·exact Nat.zero_le _
   ·exact ae5 m8 _
  ·rw [e7];exact anU q3 (by omega)
 ·simp only [lZ,l7];omega
 ·rw [e7];exact q2.1
 ·rw [e7];exact q2.2
def aa2:arq
 | [.one ⟨false,[.ptr 0 0]⟩],[.box 80 [.ref 1,.val (.int .i64 a),.val (.int .i64 b)],.row false 5 (.int .u8) c]=>some ⟨.one ⟨true,[.val (.string (pA a b c)),.ref 2,.ref 3,.ref 4,.val (.string (qT a b c)),.ref 5]⟩,[.box 80 [.ref 1,ars (pB a b c),ars (Ag a b c)],ary c],[arw (lZ a b c),arw (eF a b c),arw (pC a b c),arD (gf a b c)],[aY a b c]⟩
 |_,_=>none
def qK:PF prog:=PF.alt aik aa2 (by
 intro args es o h cm;unfold aa2 at h;split at h
 ·rename_i a b c
  cases h
  have cm:=lv cm
  have hh:=(Qh a b c cm).1
  have en:=hh
  exact re rfl (la en) rfl rfl rfl
 ·cases h)
end Go.SX
namespace Go.SX
open Go.Proofs Go.Proofs.Tryz
set_option maxRecDepth 100000
theorem amr{nm:arp}{ins vs os:List arp}{g:arp}{ls:List LN}(h:prD nm ins vs os g ls=true):PK nm ins vs os g ls=true:=by
 obtain⟨h1,h2,h3,h4,h5,h6⟩:=FP.1 h
 obtain⟨i0,i1⟩:=lU.1 h2
 obtain⟨v0,v1⟩:=lU.1 h3
 obtain⟨o0,o1⟩:=lU.1 h4
 obtain⟨l0,l1⟩:=GE.1 h6
 have qa: ∀ {l:List arp},l.length≤50→(∀ s∈l,s.size≤1000)→QO l=true:=fun {l} a b=>by
  simp only [QO,q9,List.all_eq_true]
  exact⟨bK (by omega),fun t ht=>bK (by have:=b t ht;omega)⟩
 refine LB.2 ⟨by omega,qa i0 i1,qa v0 v1,qa o0 o1,by omega,by omega,Ma.2 ⟨by omega,fun l hl=> ?_⟩⟩
 obtain⟨a,b⟩:=l1 l hl
 obtain⟨b0,b1⟩:=Dv.1 b
 exact⟨by omega,MA.2 ⟨by omega,fun t ht=>by have:=b1 t ht;omega⟩⟩
def rnS(f t s:arp):arp:=bif s.toList==f.toList then t else s
def rnT(f t:arp)(x:TM):TM:=(x.1,rnS f t x.2.1,x.2.2)
def rnL(f t:arp)(l:LN):LN:=(rnS f t l.1,l.2.map (rnT f t))
theorem agJ{a b:arp}(h:a.toList=b.toList):a=b:=by
 rw [Go.Lib.toList_data,Go.Lib.toList_data]at h
 exact ByteArray.ext (Array.toList_inj.1 h)
structure RnH (N:List arp) (f t:arp):Prop where
 hf:hasS N f=true
 ht:t.toList=f.toList∨hasS N t=false
 ne:(f.toList== [])=false
theorem RnH.inj{N:List arp}{f t a b:arp}(h:RnH N f t)(ha:hasS N a=true)(hb:hasS N b=true):((rnS f t a).toList==(rnS f t b).toList)=(a.toList==b.toList):=by
 have qa: ∀ x,hasS N x=true→(x.toList==f.toList)=false→(t.toList==x.toList)=false:=fun x hx hxf=>by
  rcases h.ht with e | e
  ·rw [e,BEq.comm];exact hxf
  ·cases hc:t.toList==x.toList with
   |false=>rfl
   |true=>
    have e1:t.toList=x.toList:=eq_of_beq hc
    have:hasS N t=true:=IG.2 (by rw [e1];exact IG.1 hx)
    rw [this]at e;cases e
 simp only [rnS]
 cases h1:a.toList==f.toList with
 |true=>
  have e1:a.toList=f.toList:=eq_of_beq h1
  cases h2:b.toList==f.toList with
  |true=>
   have e2:b.toList=f.toList:=eq_of_beq h2
   simp only [cond_true,e1,e2,beq_self_eq_true]
  |false=>
   simp only [cond_true,cond_false]
   rw [qa b hb h2,e1,BEq.comm,h2]
 |false=>
  cases h2:b.toList==f.toList with
  |true=>
   have e2:b.toList=f.toList:=eq_of_beq h2
   simp only [cond_true,cond_false]
   rw [BEq.comm,qa a ha h1,e2,h1]
  |false=>simp only [cond_false]
theorem QQ{N:List arp}{f t s:arp}(h:RnH N f t)(hs:hasS N s=true): ∀ (l:List arp),(∀ k∈l,hasS N k=true)→hasS (l.map (rnS f t)) (rnS f t s)=hasS l s∧SR (l.map (rnS f t)) (rnS f t s)=SR l s
 | [],_=>⟨rfl,rfl⟩
 |k::r,hl=>by
  obtain⟨h1,h2⟩:=QQ h hs r (fun x hx=>hl x (List.mem_cons_of_mem _ hx))
  have e:=h.inj (hl k (List.mem_cons_self ..)) hs
  simp only [hasS,SR]at h1 h2
  simp only [hasS,SR,j9,List.any_cons,e,h1,List.takeWhile_cons]
  cases k.toList==s.toList <;> simp [h2]
theorem aof{α:Type}{p q:α→Bool}: ∀ (l:List α),(∀ x∈l,p x=q x)→l.any p=l.any q
 | [],_=>rfl
 |x::r,h=>by rw [List.any_cons,List.any_cons,h x (List.mem_cons_self ..),aof r (fun y hy=>h y (List.mem_cons_of_mem _ hy))]
theorem ajH{α β:Type}{p:α→Bool}{q:β→Bool}{g:α→β}: ∀ (l:List α),(∀ x∈l,q (g x)=p x)→(l.map g).all q=l.all p
 | [],_=>rfl
 |x::r,h=>by rw [j9,List.all_cons,List.all_cons,h x (List.mem_cons_self ..),ajH r (fun y hy=>h y (List.mem_cons_of_mem _ hy))]
theorem alF{N:List arp}{f t:arp}(h:RnH N f t)(l:List arp)(hl: ∀ k∈l,hasS N k=true):oH (l.map (rnS f t))=oH l:=by
 simp only [oH,List.length_map]
 refine aof _ (fun i hi=> ?_)
 have iX:=List.mem_range.1 hi
 rw [List.getElem?_eq_getElem (by rw [List.length_map];exact iX),List.getElem?_eq_getElem iX,List.getElem_map,← List.map_take]
 exact(QQ h (hl _ (List.getElem_mem iX)) _ (fun k hk=>hl k (List.mem_of_mem_take hk))).1
theorem aob{N:List arp}{f t:arp}(h:RnH N f t)(ls:List LN)(hl: ∀ l∈ls,hasS N l.1=true):oH ((ls.map (rnL f t)).map Prod.fst)=oH (ls.map Prod.fst):=by
 have e:(ls.map (rnL f t)).map Prod.fst=(ls.map Prod.fst).map (rnS f t):=by rw [List.map_map,List.map_map];rfl
 rw [e]
 exact alF h _ (fun k hk=>by obtain⟨l,h1,rfl⟩:=List.mem_map.1 hk;exact hl l h1)
def tmK(N:List arp)(x:TM):Prop:=x.1=1∧hasS N x.2.1=true∨x.1≠1∧x.2.1.toList= []
theorem anj{N:List arp}{f t s:arp}(h:RnH N f t)(hs:s.toList= []):rnS f t s=s:=by
 have:(s.toList==f.toList)=false:=by rw [hs,BEq.comm];exact h.ne
 simp only [rnS,this,cond_false]
theorem ake{N:List arp}{f t:arp}{x:TM}(h:RnH N f t)(h1:x.1≠1)(h2:x.2.1.toList= []):rnT f t x=x:=by
 simp only [rnT,anj h h2]
theorem ap0{N ins vs:List arp}{f t:arp}{x:TM}(h:RnH N f t)(hi: ∀ k∈ins,hasS N k=true)(hv: ∀ k∈vs,hasS N k=true)(hx:tmK N x):
  usedB (ins.map (rnS f t)) (vs.map (rnS f t)) (rnT f t x)=usedB ins vs x:=by
 rcases hx with⟨h1,h2⟩ | ⟨h1,h2⟩
 ·simp only [usedB,PN,rnT,(QQ h h2 ins hi).1,(QQ h h2 vs hv).1]
 ·have:(x.1==1)=false:=by simpa using h1
  simp only [usedB,rnT,this,Bool.not_false,Bool.true_or]
theorem aoY{N ins vs:List arp}{f t s:arp}(h:RnH N f t)(hi: ∀ k∈ins,hasS N k=true)(hv: ∀ k∈vs,hasS N k=true)(hs:hasS N s=true)(inp xs:aro):
  nmV (ins.map (rnS f t)) (vs.map (rnS f t)) inp xs (rnS f t s)=nmV ins vs inp xs s:=by
 obtain⟨a1,a2⟩:=QQ h hs ins hi
 obtain⟨b1,b2⟩:=QQ h hs vs hv
 simp only [nmV,a1,a2,b2]
theorem aqs{N ins vs:List arp}{f t:arp}{x:TM}(h:RnH N f t)(hi: ∀ k∈ins,hasS N k=true)(hv: ∀ k∈vs,hasS N k=true)(hx:tmK N x)(inp xs:aro)(a:LS):
  lnS (ins.map (rnS f t)) (vs.map (rnS f t)) inp xs (rnT f t x) a=lnS ins vs inp xs x a:=by
 rcases hx with⟨h1,h2⟩ | ⟨h1,h2⟩
 ·have e:ltk (rnT f t x) a.1=ltk x a.1:=rfl
  have e1:(rnT f t x).1=x.1:=rfl
  have e2:(rnT f t x).2.2=x.2.2:=rfl
  have e3:(rnT f t x).2.1=rnS f t x.2.1:=rfl
  simp only [lnS,tmV,e,e1,e2,e3,aoY h hi hv h2]
 ·rw [ake h h1 h2]
  have e:(x.1==1)=false:=by simpa using h1
  simp only [lnS,tmV,e,cond_false]
theorem am8{N ins vs:List arp}{f t:arp}(h:RnH N f t)(hi: ∀ k∈ins,hasS N k=true)(hv: ∀ k∈vs,hasS N k=true)(inp xs:aro): ∀ (ts:List TM) (a:LS),(∀ x∈ts,tmK N x)→
  aeT (ins.map (rnS f t)) (vs.map (rnS f t)) inp xs (ts.map (rnT f t)) a=aeT ins vs inp xs ts a
 | [],a,_=>rfl
 |x::r,a,hx=>by
  simp only [j9,aeT]
  rw [aqs h hi hv (hx x (List.mem_cons_self ..)),am8 h hi hv inp xs r _ (fun y hy=>hx y (List.mem_cons_of_mem _ hy))]
structure PrH (N ins vs os:List arp) (ls:List LN):Prop where
 hi: ∀ k∈ins,hasS N k=true
 hv: ∀ k∈vs,hasS N k=true
 ho: ∀ k∈os,hasS N k=true
 ht: ∀ l∈ls,hasS N l.1=true
 hx: ∀ l∈ls,∀ x∈l.2,tmK N x
theorem aqA{N ins vs os:List arp}{f t:arp}{ls:List LN}{l:LN}(h:RnH N f t)(p:PrH N ins vs os ls)(hl:l∈ls)(inp:aro)(a:SS4):
  scS (ins.map (rnS f t)) (vs.map (rnS f t)) (os.map (rnS f t)) inp (rnL f t l) a=scS ins vs os inp l a:=by
 obtain⟨a1,a2⟩:=QQ h (p.ht l hl) vs p.hv
 obtain⟨_,b2⟩:=QQ h (p.ht l hl) os p.ho
 have e1:(rnL f t l).1=rnS f t l.1:=rfl
 have e2:lnV (ins.map (rnS f t)) (vs.map (rnS f t)) inp (rnL f t l) a=lnV ins vs inp l a:=am8 h p.hi p.hv inp a.1 l.2 _ (p.hx l hl)
 simp only [scS,e1,e2,a1,a2,b2]
theorem anl{N ins vs os:List arp}{f t:arp}{ls:List LN}(h:RnH N f t)(p:PrH N ins vs os ls)(inp:aro): ∀ (r:List LN) (a:SS4),(∀ l∈r,l∈ls)→
  aiW (ins.map (rnS f t)) (vs.map (rnS f t)) (os.map (rnS f t)) inp (r.map (rnL f t)) a=aiW ins vs os inp r a
 | [],a,_=>rfl
 |l::r,a,hr=>by
  simp only [j9,aiW]
  rw [aqA h p (hr l (List.mem_cons_self ..)),anl h p inp r _ (fun y hy=>hr y (List.mem_cons_of_mem _ hy))]
theorem aqz{N ins vs os:List arp}{f t:arp}{ls:List LN}(h:RnH N f t)(p:PrH N ins vs os ls)(inp xs:aro)(ss:List BS3):
  scE (ins.map (rnS f t)) (vs.map (rnS f t)) (os.map (rnS f t)) (ls.map (rnL f t)) inp xs ss=scE ins vs os ls inp xs ss:=by
 simp only [scE,List.length_map]
 exact anl h p inp ls _ (fun _ hl=>hl)
theorem amn{N:List arp}{f t g:arp}(h:RnH N f t)(htn:(t.toList== [])=false):((rnS f t g).toList== [])=(g.toList== []):=by
 simp only [rnS]
 cases e:g.toList==f.toList with
 |true=>
  have e1:g.toList=f.toList:=eq_of_beq e
  simp only [cond_true,htn,e1,h.ne]
 |false=>rfl
theorem ape{N ins vs os:List arp}{f t g:arp}{ls:List LN}(h:RnH N f t)(p:PrH N ins vs os ls)(htn:(t.toList== [])=false)(hg:(g.toList== [])=true∨hasS N g=true): ∀ (l:amc) (xs:aro) (ss:List BS3),
  sgO (ins.map (rnS f t)) (vs.map (rnS f t)) (os.map (rnS f t)) (rnS f t g) (ls.map (rnL f t)) l xs ss=sgO ins vs os g ls l xs ss
 | [],_,_=>rfl
 |inp::r,xs,ss=>by
  have e:=aqz (f:=f) (t:=t) h p inp xs ss
  have eO:scO (ins.map (rnS f t)) (vs.map (rnS f t)) (os.map (rnS f t)) (rnS f t g) (ls.map (rnL f t)) inp xs ss=scO ins vs os g ls inp xs ss:=by
   simp only [scO,e,amn h htn,List.length_map]
   rcases hg with hg | hg
   ·simp only [hg,Bool.not_true,Bool.false_and,cond_false]
   ·rw [aoY h p.hi p.hv hg]
  simp only [sgO,scV,scB,e,eO]
  rw [ape h p htn hg r]
theorem aoF: ∀ (ts:List TM) (n e:Int),htT ts n=some e→ ∀ x∈ts,termB x.1 x.2.1 x.2.2=true
 | [],n,e,_=>fun x hx=>(List.not_mem_nil hx).elim
 |y::r,n,e,h=>by
  simp only [htT]at h
  cases hc:(termB y.1 y.2.1 y.2.2&&leI (takesK y.1) n)with
  |false=>rw [hc]at h;cases h
  |true=>
   rw [hc,cond_true]at h
   simp only [q9]at hc
   intro x hx
   rcases List.mem_cons.1 hx with rfl | hx
   ·exact hc.1
   ·exact aoF r _ e h x hx
theorem agH{nm:arp}{ins vs os:List arp}{g:arp}{ls:List LN}(hS:kP nm ins vs os g ls=true):
  (∀ k∈ins++vs++os,jP k=true)∧(∀ l∈ls,jP l.1=true)∧((g.toList== [])=true∨jP g=true):=by
 simp only [kP,abW,Xa,q9]at hS
 obtain⟨⟨_,⟨i1,_⟩,⟨v1,_⟩,⟨o1,_⟩,g1,l1,_⟩,_⟩:=hS
 refine⟨fun k hk=> ?_,fun l hl=>(VV (List.all_eq_true.1 l1 l hl)).1,?_⟩
 ·rcases j8.1 hk with hk | hk
  ·rcases j8.1 hk with hk | hk
   ·exact List.all_eq_true.1 i1 k hk
   ·exact List.all_eq_true.1 v1 k hk
  ·exact List.all_eq_true.1 o1 k hk
 ·simpa using g1
theorem aeM{l:List arp}{k:arp}(h:k∈l):hasS l k=true:=IG.2 (List.mem_map.2 ⟨k,h,rfl⟩)
theorem alC{nm:arp}{ins vs os:List arp}{g:arp}{ls:List LN}(hS:kP nm ins vs os g ls=true){l:LN}(hl:l∈ls){x:TM}(hx:x∈l.2):tmK (ins++vs++os) x∧termB x.1 x.2.1 x.2.2=true:=by
 obtain⟨_,hL,_,hu,_⟩:=Ea hS
 have hT:=aoF _ _ _ (VV (List.all_eq_true.1 hL l hl)).2.2 x hx
 have hU:=List.all_eq_true.1 (List.all_eq_true.1 hu l hl) x hx
 refine⟨?_,hT⟩
 by_cases h1:x.1=1
 ·have:PN ins vs x.2.1=true:=by simpa [usedB,h1] using hU
  refine .inl ⟨h1,?_⟩
  simp only [PN,Bool.or_eq_true]at this
  rw [Hq,Hq]
  rcases this with e | e <;> simp [e]
 ·simp only [termB,q9]at hT
  have e:(x.1==1)=false:=by simpa using h1
  have:=hT.2.2.2
  rw [e,cond_false]at this
  exact .inr ⟨h1,eq_of_beq this⟩
theorem ams{nm:arp}{ins vs os:List arp}{g:arp}{ls:List LN}(hS:kP nm ins vs os g ls=true):
  PrH (ins++vs++os) ins vs os ls∧((g.toList== [])=true∨hasS (ins++vs++os) g=true):=by
 obtain⟨hg,_,hm,_⟩:=Ea hS
 refine⟨⟨fun k hk=>aeM (by simp [hk]),fun k hk=>aeM (by simp [hk]),fun k hk=>aeM (by simp [hk]),fun l hl=> ?_,fun l hl x hx=>(alC hS hl hx).1⟩,?_⟩
 ·have:=List.all_eq_true.1 hm l hl
  simp only [madeB,Bool.or_eq_true]at this
  rw [Hq,Hq]
  rcases this with e | e <;> simp [e]
 ·simp only [PN,Bool.or_eq_true]at hg
  rw [Hq,Hq]
  rcases hg with e | e | e
  ·exact .inl e
  ·exact .inr (by simp [e])
  ·exact .inr (by simp [e])
theorem ae0{f t s:arp}(ht:jP t=true)(hs:jP s=true):jP (rnS f t s)=true:=by
 simp only [rnS];cases s.toList==f.toList <;> assumption
theorem aoE{N:List arp}{f t:arp}(h:RnH N f t)(htb:jP t=true): ∀ (ts:List TM) (n:Int),(∀ x∈ts,tmK N x∧termB x.1 x.2.1 x.2.2=true)→htT (ts.map (rnT f t)) n=htT ts n
 | [],n,_=>rfl
 |x::r,n,hx=>by
  obtain⟨k,hT⟩:=hx x (List.mem_cons_self ..)
  have e:termB (rnT f t x).1 (rnT f t x).2.1 (rnT f t x).2.2=termB x.1 x.2.1 x.2.2:=by
   rcases k with⟨h1,_⟩ | ⟨h1,h2⟩
   ·obtain⟨kd,s,num⟩:=x
    simp only at h1 hT
    subst h1
    rw [hT]
    simp only [termB,rnT,q9]at hT ⊢
    exact⟨hT.1,hT.2.1,hT.2.2.1,ae0 htb hT.2.2.2⟩
   ·rw [ake h h1 h2]
  have e1:(rnT f t x).1=x.1:=rfl
  simp only [j9,htT]
  rw [e,e1,aoE h htb r _ (fun y hy=>hx y (List.mem_cons_of_mem _ hy))]
theorem aph{nm:arp}{ins vs os:List arp}{g f t:arp}{ls:List LN}(hS:kP nm ins vs os g ls=true)(h:RnH (ins++vs++os) f t)(htb:jP t=true):
  kP nm (ins.map (rnS f t)) (vs.map (rnS f t)) (os.map (rnS f t)) (rnS f t g) (ls.map (rnL f t))=true:=by
 obtain⟨p,hg⟩:=ams hS
 obtain⟨q1,q2,q3⟩:=agH hS
 have htn:=ahj htb
 have hN: ∀ (l:List arp) (lo:Nat),(∀ k∈l,k∈ins++vs++os)→Xa l lo=true→Xa (l.map (rnS f t)) lo=true:=fun l lo hl hb=>by
  simp only [Xa,q9,List.length_map]at hb ⊢
  exact⟨List.all_eq_true.2 fun y hy=>by obtain⟨k,hk,rfl⟩:=List.mem_map.1 hy;exact ae0 htb (q1 k (hl k hk)),hb.2⟩
 have hS':=hS
 simp only [kP,q9]at hS' ⊢
 obtain⟨hW,hD⟩:=hS'
 refine⟨?_,?_⟩
 ·simp only [abW,q9,List.length_map]at hW ⊢
  obtain⟨w1,w2,w3,w4,w5,w6,w7⟩:=hW
  refine⟨w1,hN _ _ (fun k hk=>by simp [hk]) w2,hN _ _ (fun k hk=>by simp [hk]) w3,hN _ _ (fun k hk=>by simp [hk]) w4,?_,?_,w7⟩
  ·rw [amn h htn]
   rcases q3 with e | e
   ·rw [e];rfl
   ·rw [ae0 htb e,k9]
  ·refine List.all_eq_true.2 fun y hy=> ?_
   obtain⟨l,hl,rfl⟩:=List.mem_map.1 hy
   have hL:=List.all_eq_true.1 w6 l hl
   simp only [lineB,ac8,q9,rnL,List.length_map]at hL ⊢
   rw [aoE h htb l.2 0 (fun x hx=>alC hS hl hx)]
   exact⟨ae0 htb hL.1,hL.2⟩
 ·have e:aix (ins.map (rnS f t)) (vs.map (rnS f t)) (os.map (rnS f t)) (rnS f t g) (ls.map (rnL f t))=aix ins vs os g ls:=by
   have a1:oH (ins.map (rnS f t)++vs.map (rnS f t)++os.map (rnS f t))=oH (ins++vs++os):=by
    rw [← List.map_append,← List.map_append];exact alF h _ (fun k hk=>aeM hk)
   have a2:((rnS f t g).toList== []||PN (ins.map (rnS f t)) (vs.map (rnS f t)) (rnS f t g))=(g.toList== []||PN ins vs g):=by
    rw [amn h htn]
    rcases hg with e | e
    ·rw [e];rfl
    ·simp only [PN,(QQ h e ins p.hi).1,(QQ h e vs p.hv).1]
   have a3:((ls.map (rnL f t)).all fun l=>hasS (vs.map (rnS f t)) l.1||hasS (os.map (rnS f t)) l.1)=ls.all fun l=>hasS vs l.1||hasS os l.1:=
    ajH ls (fun l hl=>by
     show (hasS (vs.map (rnS f t)) (rnS f t l.1)||hasS (os.map (rnS f t)) (rnS f t l.1))=_
     rw [(QQ h (p.ht l hl) vs p.hv).1,(QQ h (p.ht l hl) os p.ho).1])
   have a4:=aob h ls p.ht
   have a5:((ls.map (rnL f t)).all fun l=>l.2.all (usedB (ins.map (rnS f t)) (vs.map (rnS f t))))=ls.all fun l=>l.2.all (usedB ins vs):=
    ajH ls (fun l hl=>ajH l.2 (fun x hx=>ap0 h p.hi p.hv (p.hx l hl x hx)))
   simp only [aix,a1,a2,a3,a4,a5,List.length_map]
  rw [e];exact hD
theorem aqh{nm:arp}{ins vs os:List arp}{g f t:arp}{ls:List LN}(hS:kP nm ins vs os g ls=true)(h:RnH (ins++vs++os) f t):blL (ls.map (rnL f t))=blL ls:=by
 have qa: ∀ ts:List TM,(∀ x∈ts,tmK (ins++vs++os) x)→blT (ts.map (rnT f t))=blT ts:=by
  intro ts
  induction ts with
  |nil=>intro _;rfl
  |cons x r ih=>
   intro hx
   have ih:=ih (fun y hy=>hx y (List.mem_cons_of_mem _ hy))
   simp only [blT]at ih
   have e1:(rnT f t x).1=x.1:=rfl
   simp only [j9,blT,List.filter_cons,e1,ih]
   cases h7:leI 7 x.1 with
   |false=>rfl
   |true=>
    rcases hx x (List.mem_cons_self ..)with⟨k,_⟩ | ⟨k,k2⟩
    ·rw [k]at h7;cases h7
    ·rw [ake h k k2]
 have h2:=(ams hS).1.hx
 clear hS
 induction ls with
 |nil=>rfl
 |cons l r ih=>
  have ih:=ih (fun l' hl'=>h2 l' (List.mem_cons_of_mem _ hl'))
  simp only [blL]at ih
  simp only [blL,j9,List.flatMap_cons,ih,rnL,qa l.2 (h2 l (List.mem_cons_self ..))]
theorem ahm{N:List arp}{f t s:arp}(h:RnH N f t)(hs:hasS N s=true):rnS t f (rnS f t s)=s:=by
 simp only [rnS]
 cases e:s.toList==f.toList with
 |true=>
  simp only [cond_true,beq_self_eq_true]
  exact(agJ (eq_of_beq e)).symm
 |false=>
  simp only [cond_false]
  have:(s.toList==t.toList)=false:=by
   rcases h.ht with q | q
   ·rw [q];exact e
   ·cases hc:s.toList==t.toList with
    |false=>rfl
    |true=>
     have e1:s.toList=t.toList:=eq_of_beq hc
     have:hasS N t=true:=IG.2 (by rw [← e1];exact IG.1 hs)
     rw [this]at q;cases q
  rw [this,cond_false]
theorem aeW{N:List arp}{f t:arp}(h:RnH N f t): ∀ (l:List arp),(∀ k∈l,hasS N k=true)→(l.map (rnS f t)).map (rnS t f)=l
 | [],_=>rfl
 |k::r,hl=>by
  rw [j9,j9,ahm h (hl k (List.mem_cons_self ..)),aeW h r (fun y hy=>hl y (List.mem_cons_of_mem _ hy))]
theorem alb{N:List arp}{f t s:arp}(h:RnH N f t)(htn:(t.toList== [])=false)(hs:s.toList= []):rnS t f (rnS f t s)=s:=by
 rw [anj h hs]
 have:(s.toList==t.toList)=false:=by rw [hs,BEq.comm];exact htn
 simp only [rnS,this,cond_false]
theorem ant{N:List arp}{f t:arp}(h:RnH N f t)(htn:(t.toList== [])=false): ∀ (ts:List TM),(∀ x∈ts,tmK N x)→(ts.map (rnT f t)).map (rnT t f)=ts
 | [],_=>rfl
 |x::r,hx=>by
  have e:rnT t f (rnT f t x)=x:=by
   obtain⟨a,b,c⟩:=x
   rcases hx _ (List.mem_cons_self ..)with⟨_,k⟩ | ⟨_,k⟩
   ·simp only [rnT,ahm h k]
   ·simp only [rnT,alb h htn k]
  rw [j9,j9,e,ant h htn r (fun y hy=>hx y (List.mem_cons_of_mem _ hy))]
theorem apD{N ins vs os:List arp}{f t:arp}{ls:List LN}(h:RnH N f t)(htn:(t.toList== [])=false)(p:PrH N ins vs os ls):(ls.map (rnL f t)).map (rnL t f)=ls:=by
 have qa: ∀ (r:List LN),(∀ l∈r,l∈ls)→(r.map (rnL f t)).map (rnL t f)=r:=by
  intro r
  induction r with
  |nil=>intro _;rfl
  |cons l r ih=>
   intro hr
   have hl:=hr l (List.mem_cons_self ..)
   have e:rnL t f (rnL f t l)=l:=by
    obtain⟨a,b⟩:=l
    simp only [rnL,ahm h (p.ht _ hl),ant h htn b (p.hx _ hl)]
   rw [j9,j9,e,ih (fun y hy=>hr y (List.mem_cons_of_mem _ hy))]
 exact qa ls (fun _ hl=>hl)
theorem ao8{N:List arp}{f t:arp}(h:RnH N f t)(htn:(t.toList== [])=false):RnH (N.map (rnS f t)) t f:=by
 refine⟨?_,?_,htn⟩
 ·have:=(QQ h h.hf N (fun k hk=>aeM hk)).1
  rw [h.hf]at this
  have e:rnS f t f=t:=by simp only [rnS,beq_self_eq_true,cond_true]
  rwa [e]at this
 ·rcases h.ht with e | e
  ·exact .inl e.symm
  ·by_cases hc:t.toList=f.toList
   ·exact .inl hc.symm
   ·refine .inr ?_
    rw [← Bool.not_eq_true,IG]
    intro hm
    rw [List.map_map]at hm
    obtain⟨k,hk,he⟩:=List.mem_map.1 hm
    simp only [Function.comp,rnS]at he
    cases hkf:k.toList==f.toList with
    |true=>rw [hkf,cond_true]at he;exact hc he
    |false=>
     rw [hkf,cond_false]at he
     have:(k.toList==f.toList)=true:=beq_iff_eq.2 he
     rw [this]at hkf;cases hkf
def yw(f t:arp)(l:List arp):List arp:=l.map (rnS f t)
theorem ao9(f t:arp)(n:Nat)(hn:n≤1048576): ∀ (r A:List arp),A.length + r.length=n→
  DK kM.lt (r.length + 1) ((A.length:Int),(n:Int),f,t,A++r)=some (0,((n:Int),(n:Int),f,t,A++yw f t r))
 | [],A,hl=>by
  have e:A.length=n:=by simpa using hl
  rw [e]
  have q:ltI (n:Int) (n:Int)=false:=CE (by omega)
  refine rE _ ?_
  simp only [kM,Of,LT.out,Pt,q,cond_false,yw,List.map_nil]
 |s::r,A,hl=>by
  simp only [k7]at hl
  have nN:(A++s::r).length=n:=by simp;omega
  have hg:(A++s::r)[A.length]? =some s:=by rw [List.getElem?_append_right (Nat.le_refl _),Nat.sub_self];rfl
  have q0:ltI (A.length:Int) (n:Int)=true:=ew (by omega)
  have q1:leI 0 (A.length:Int)=true:=cG (by omega)
  have q2:ltI (A.length:Int) ((A++s::r).length:Int)=true:=ew (by omega)
  have q3:ltN A.length (A++s::r).length=true:=gM (by omega)
  have q4:qqq .i64 ((A.length:Int) + 1)=((A++ [rnS f t s]).length:Int):=by rw [be (by omega) (by omega),j6,z9];omega
  have a0:yW (A.length:Int) f (A++s::r)=(s.toList==f.toList):=by simp only [yW,z6,hg,Option.getD_some]
  have q8:Pu (A.length:Int) f t (A++s::r)=A++ [rnS f t s]++r:=by
   simp only [Pu,a0,rnS,z6]
   cases s.toList==f.toList with
   |false=>simp
   |true=>simp
  rw [k7,py (y:=(((A++ [rnS f t s]).length:Int),(n:Int),f,t,A++ [rnS f t s]++r)) _ (by
   simp only [kM,Of,LT.out,Pt,VM,VN,VO,VP,VQ,VR,VS,a0,q8,z6,q0,q1,q2,q3,q4,k9,allT,cond_true])]
  rw [ao9 f t n hn r (A++ [rnS f t s]) (by rw [j6,z9];omega)]
  simp only [yw,j9,List.append_assoc,List.cons_append,List.nil_append]
theorem anL(f t:arp)(l:List arp)(h:leN l.length 1048576=true):Uv f t l=yw f t l∧Uw f t l=true:=by
 obtain⟨p1,p2⟩:=kM.run (ao9 f t l.length (iC.1 h) l [] (by simp)) (Fg (by simp only [kM];have:=iC.1 h;omega))
 have p1:kM.fin (NN f t l)=true:=p1
 have p2:kM.res (NN f t l)=_:=p2
 simp only [Uv,Uw,p1,p2,h,allT,cond_true,List.nil_append,and_self]
theorem apk(f t:arp)(l:List arp)(hn:l.length≤1048576): ∀ (r:List arp) (i:Nat) (acc:List arp),l.drop i=r→i + r.length=l.length→acc.length=i→
  DK kN.lt (r.length + 1) ((i:Int),f,t,l,acc)=some (0,((l.length:Int),f,t,l,acc++yw f t r))
 | [],i,acc,_,hl,_=>by
  have e:i=l.length:=by simpa using hl
  rw [e]
  have q:ltI (l.length:Int) (l.length:Int)=false:=CE (by omega)
  rw [show yw f t []= [] from rfl,List.append_nil]
  refine rE _ ?_
  simp only [kN,Og,LT.out,Ky,q,cond_false]
 |s::r,i,acc,hd,hl,ha=>by
  simp only [k7]at hl
  have hg:l[i]? =some s:=by
   have:(l.drop i)[0]? =some s:=by rw [hd];rfl
   rw [List.getElem?_drop]at this;simpa using this
  have hd':l.drop (i + 1)=r:=by
   have e:l.drop (i + 1)=(l.drop i).drop 1:=by rw [List.drop_drop]
   rw [e,hd];rfl
  have q0:ltI (i:Int) (l.length:Int)=true:=ew (by omega)
  have q1:leI 0 (i:Int)=true:=cG (by omega)
  have q2:ltN i l.length=true:=gM (by omega)
  have q3:qqq .i64 ((i:Int) + 1)=((i + 1:Nat):Int):=by rw [be (by omega) (by omega)];omega
  have q4: ∀ x:arp,leN (acc.length + [x].length) 9223372036854775807=true:=fun x=>bK (by simp only [k7,k8];omega)
  have q5: ∀ x:arp,leN ((acc.length + [x].length) * 16) 140737488355328=true:=fun x=>bK (by simp only [k7,k8];omega)
  have a0:zk (i:Int) l=s:=by simp only [zk,z6,hg,Option.getD_some]
  rw [k7,py (y:=(((i + 1:Nat):Int),f,t,l,acc++ [rnS f t s])) _ (by
   simp only [kN,Og,LT.out,Ky,Ws,Wt,Wu,Wv,Ww,Wx,Wy,Wz,WA,Vk,OA,Vl,Vm,qw,a0,z6,q0,q1,q2,q3,q4,q5,k9,allT,cond_true,rnS]
   cases s.toList==f.toList <;> rfl)]
  rw [apk f t l hn r (i + 1) (acc++ [rnS f t s]) hd' (by omega) (by rw [j6,z9];omega)]
  simp only [yw,j9,List.append_assoc,List.cons_append,List.nil_append]
theorem an5(f t:arp)(l:List arp)(h:leN l.length 1048576=true):Vi f t l=yw f t l∧Vj f t l=true:=by
 have hn:=iC.1 h
 obtain⟨p1,p2⟩:=kN.run (apk f t l hn l 0 [] (List.drop_zero ..) (by omega) rfl) (Fg (by simp only [kN];omega))
 have p1:kN.fin (Ob f t l)=true:=p1
 have p2:kN.res (Ob f t l)=_:=p2
 simp only [Vi,Vj,p1,p2,allT,cond_true,List.nil_append,and_self]
def aaW:arq
 | [.one ⟨false,[.ref 0]⟩,.one ⟨false,[.val (.string a)]⟩,.one ⟨false,[.val (.string b)]⟩],[.row false 9 (.str) c]=>some ⟨art (.ref 1),[arv c],[arw (yw a b c)],[leN c.length 1048576]⟩
 |_,_=>none
def xo:PF prog:=PF.alt aie aaW (by
 intro args es o h cm;unfold aaW at h;split at h
 ·rename_i a b c
  cases h
  have cm:=lv cm
  have hh:=anL a b c cm
  obtain⟨e0,en⟩:=hh
  exact re rfl (la en) rfl rfl (by simp only [e0] <;> rfl)
 ·cases h)
def aa5:arq
 | [.one ⟨false,[.ref 0]⟩,.one ⟨false,[.val (.string a)]⟩,.one ⟨false,[.val (.string b)]⟩],[.row false 9 (.str) c]=>some ⟨art (.ref 1),[arv c],[arw (yw a b c)],[leN c.length 1048576]⟩
 |_,_=>none
def xt:PF prog:=PF.alt aio aa5 (by
 intro args es o h cm;unfold aa5 at h;split at h
 ·rename_i a b c
  cases h
  have cm:=lv cm
  have hh:=an5 a b c cm
  obtain⟨e0,en⟩:=hh
  exact re rfl (la en) rfl rfl (by simp only [e0] <;> rfl)
 ·cases h)
end Go.SX
