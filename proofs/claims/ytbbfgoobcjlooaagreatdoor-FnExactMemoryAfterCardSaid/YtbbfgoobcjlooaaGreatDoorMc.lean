/- What functions of the program come to, and what that says in plain words: part 3. -/
import Derived.Test.YtbbfgoobcjlooaaGreatDoorMb
import Derived.Test.YtbbfgoobcjlooaaGreatDoorTXh
import Derived.Test.YtbbfgoobcjlooaaGreatDoorProg
set_option linter.unusedSimpArgs false
set_option linter.unusedVariables false
namespace Go.SX
open Go.Proofs Go.Proofs.Tryz
set_option maxRecDepth 100000
theorem arq(l:List ByteArray)(s:ByteArray):ltI (iQ l s) 0= !mw l s:=by rw [Vi,Sa]
theorem ah0(s:ByteArray)(ins vs:List ByteArray)(h1:leN ins.length 9223372036854775807=true)(h2:leN vs.length 9223372036854775807=true):
  rL s ins vs=Xc ins vs s∧DB s ins vs=true:=by
 simp only [rL,DB,Sa,h1,h2,Xc,allT,Bool.or_true,cond_true,and_true]
 cases mw ins s <;> rfl
def madeB(vs os:List ByteArray)(l:LN):Bool:=mw vs l.1||mw os l.1
def mW(y5 y6:List ByteArray)(b:ByteArray×(List (Int×(ByteArray×Int)))):(List ByteArray)→Nat ⊕ (List ByteArray)
 |y3=>(bif(bif ltI (iQ y5 b.1) (0:Int)then ltI (iQ y6 b.1) (0:Int)else false)then(.inl 0)else(.inr (y3++ [b.1])))
def ql(y1 y2:ByteArray)(y4 y5 y6:List ByteArray)(y7:List (ByteArray×(List (Int×(ByteArray×Int)))))(i:Nat):(List ByteArray)→mT
 |y3=>((i:Int),y1,y2,y3,y4,y5,y6,y7)
def Mr:mT→List ByteArray
 |(_,_,_,y3,_,_,_,_)=>y3
theorem afm(y1 y2:ByteArray)(y4 y5 y6:List ByteArray)(y7:List (ByteArray×(List (Int×(ByteArray×Int)))))(y3:List ByteArray)(hn:y7.length≤9223372036854775807)(hv:leN y5.length 9223372036854775807=true)(ho:leN y6.length 9223372036854775807=true)(hN:y7.length≤1048576)(h3:y3.length=0):
  dx.fin ((0:Int),y1,y2,y3,y4,y5,y6,y7)=true∧dx.res ((0:Int),y1,y2,y3,y4,y5,y6,y7)=((af (mW y5 y6) 1 y7 0 y3).1,(ql y1 y2 y4 y5 y6 y7) (af (mW y5 y6) 1 y7 0 y3).2.1 (af (mW y5 y6) 1 y7 0 y3).2.2):=by
 have jb:=dx.along (ql y1 y2 y4 y5 y6 y7) Mr (mW y5 y6) 1 (fun i a=>a.length=i) y7 y3 h3 (by simp only [dx,ql];omega) (fun i b a hb hI=> ?_) (fun a hI=> ?_)
 ·exact jb
 ·obtain y3:=a
  have eB:=(List.getElem?_eq_some_iff.1 hb).1
  have il: ∀ d,Option.getD y7[i]? d=b:=fun d=>by rw [hb];rfl
  have hw:=tZ eB hn
  have bM:ltI (i:Int) (y7.length:Int)=true:=dO (by omega)
  have vC:leI (0:Int) (i:Int)=true:=bw (by omega)
  have gI:ltN i y7.length=true:=fQ eB
  refine⟨?_,?_,?_,?_⟩
  ·have hg2:iN (i:Int) y7=b.1:=by simp only [iN,Int.toNat_natCast];exact congrArg Prod.fst (il _)
   have l1: ∀ s:ByteArray,leN (a.length + List.length [s]) 9223372036854775807=true:=fun s=>dv (by rw [List.length_singleton];omega)
   have l2: ∀ s:ByteArray,leN ((a.length + List.length [s]) * 16) 140737488355328=true:=fun s=>dv (by rw [List.length_singleton];omega)
   simp only [yg,Do,Dp,Dq,Dr,Ds,Dt,Du,Dv,Dw,Bu,dx,LT.nds,allT,ql,bM,vC,gI,hg2,hv,ho,l1,l2,Int.toNat_natCast,cond_true,Bool.or_true,Bool.and_self]
   generalize (bif ltI (iQ y5 b.1) 0 then ltI (iQ y6 b.1) 0 else false)=q
   cases q <;> simp [LT.nds]
  ·simp [iN,yg,Do,Dp,Dq,Dr,Ds,Dt,Du,Dv,Dw,Bu,dx,LT.each,ql,Mr,hw]
  ·have hg2:iN (i:Int) y7=b.1:=by simp only [iN,Int.toNat_natCast];exact congrArg Prod.fst (il _)
   simp only [yg,Do,Dp,Dq,Dr,Ds,Dt,Du,Dv,Dw,Bu,dx,LT.fn,ql,Mr,mW,bM,hg2,cond_true]
  ·intro a' hf
   simp only [mW]at hf
   revert hf
   generalize (bif ltI (iQ y5 b.1) 0 then ltI (iQ y6 b.1) 0 else false)=q
   cases q with
   |true=>intro hf;cases hf
   |false=>intro hf;simp only [cond_false,Sum.inr.injEq]at hf;subst hf;simp [hI]
 ·obtain y3:=a
  simp [iN,yg,Do,Dp,Dq,Dr,Ds,Dt,Du,Dv,Dw,Bu,dx,LT.out,ql]
theorem agA(vs os:List ByteArray): ∀ (ls:List LN) (i:Nat) (acc:List ByteArray),(af (mW vs os) 1 ls i acc).1=(bif !ls.all (madeB vs os)then 0 else 1)∧
  (ls.all (madeB vs os)=true→(af (mW vs os) 1 ls i acc).2.2=acc++ls.map Prod.fst)
 | [],i,acc=>by simp [af]
 |l::r,i,acc=>by
  have hf:mW vs os l acc=bif madeB vs os l then .inr (acc++ [l.1])else .inl 0:=by
   simp only [mW,arq,madeB]
   cases mw vs l.1 <;> cases mw os l.1 <;> rfl
  obtain⟨h1,h2⟩:=agA vs os r (i + 1) (acc++ [l.1])
  simp only [af,hf,List.all_cons]
  cases hm:madeB vs os l with
  |false=>simp
  |true=>
   simp only [cond_true,Bool.true_and]
   refine⟨h1,fun h=> ?_⟩
   rw [h2 h];simp
theorem aor(k:Nat)(u v:ByteArray)(ins vs os:List ByteArray)(ls:List LN)(l:LN)(hl:ls[k]? =some l)(hn:l.2.length≤1048576)(h1:leN ins.length 9223372036854775807=true)(h2:leN vs.length 9223372036854775807=true):
  dH.fin ((0:Int),(k:Int),u,v,ins,vs,os,ls)=true∧(dH.res ((0:Int),(k:Int),u,v,ins,vs,os,ls)).1=bif !l.2.all (usedB ins vs)then 0 else 1:=by
 have hkl:=(List.getElem?_eq_some_iff.1 hl).1
 have hgl: ∀ d,Option.getD ls[k]? d=l:=fun d=>by rw [hl];rfl
 have ha2:wx (k:Int) ls=l.2:=by simp only [wx,Int.toNat_natCast];exact congrArg Prod.snd (hgl _)
 have c0:Jt (k:Int)=true:=bw (by omega)
 have c1:Ju (k:Int) ls=true:=dO (by omega)
 have c2:DJ (k:Int) ls=true:=by simp only [DJ,Int.toNat_natCast];exact fQ hkl
 have jb:=dH.along2 (fun i (_:Unit)=>((i:Int),(k:Int),u,v,ins,vs,os,ls)) (fun _=>()) (fun(b:TM) (_:Unit)=>bif !usedB ins vs b then .inl 0 else .inr ()) 1 (fun _ _=>True) l.2 () trivial (by omega)
  (fun i b a hb hI=> ?_) (fun a hI=> ?_)
 ·rw [iH (P:=fun b=> !usedB ins vs b) (j:=0) (fun b=>rfl),Vb]at jb
  exact⟨jb.1,by rw [show ((0:Int),(k:Int),u,v,ins,vs,os,ls)=(((0:Nat):Int),(k:Int),u,v,ins,vs,os,ls) from rfl,jb.2]⟩
 ·have eB:=(List.getElem?_eq_some_iff.1 hb).1
  have hw:IntKind.i64.wrap ((i:Int) + 1)=((i + 1:Nat):Int):=by rw [aR (by omega) (by omega)];omega
  have vC:leI (0:Int) (i:Int)=true:=bw (by omega)
  have hg2:wy (i:Int) (k:Int) ls=b:=by simp only [wy,ha2,Int.toNat_natCast,hb,Option.getD_some]
  have hg3:tN (i:Int) (k:Int) ls=true:=by simp only [tN,ha2];exact dO (by omega)
  have c4:QC (i:Int)=true:=vC
  have c5:Jv (i:Int) (k:Int) ls=true:=by simp only [Jv,ha2,Int.toNat_natCast];exact fQ eB
  obtain⟨r1,r2⟩:=ah0 b.2.1 ins vs h1 h2
  have c6:Jw (i:Int) (k:Int) ins vs ls=true:=by simp only [Jw,hg2,r2,Bool.or_true]
  have c7:Jz (i:Int) (k:Int) ins vs ls= !usedB ins vs b:=by
   simp only [Jz,Im,hg2,r1,usedB]
   cases b.1==1 <;> simp
  have c8:QD (i:Int)=((i + 1:Nat):Int):=hw
  refine⟨?_,?_,?_,fun _ _=>trivial⟩
  ·simp only [dH,vZ,LT.nds,allT,c0,c1,c2,c4,c5,c6,c7,hg3,cond_true,Bool.and_self]
   cases usedB ins vs b <;> simp [LT.nds]
  ·simp only [dH,vZ,LT.each,c7,c8,hg3]
   cases usedB ins vs b <;> simp [LT.each]
  ·simp only [dH,vZ,LT.fn,c7,hg3,cond_true]
 ·have bM:tN (l.2.length:Int) (k:Int) ls=false:=by simp only [tN,ha2];exact QB (by omega)
  simp [dH,vZ,LT.out,allT,c0,c1,c2,bM]
theorem aqo(u v:ByteArray)(ins vs os:List ByteArray)(ls:List LN)(hN:ls.length≤1048576)(hL: ∀ l∈ls,l.2.length≤1048576)(h1:leN ins.length 9223372036854775807=true)(h2:leN vs.length 9223372036854775807=true):
  dX.fin ((0:Int),u,v,ins,vs,os,ls)=true∧(dX.res ((0:Int),u,v,ins,vs,os,ls)).1=bif !ls.all (fun l=>l.2.all (usedB ins vs))then 0 else 1:=by
 have jb:=dX.along2 (fun i (_:Unit)=>((i:Int),u,v,ins,vs,os,ls)) (fun _=>()) (fun(b:LN) (_:Unit)=>bif !b.2.all (usedB ins vs)then .inl 0 else .inr ()) 1 (fun _ _=>True) ls () trivial (by omega)
  (fun i b a hb hI=> ?_) (fun a hI=> ?_)
 ·rw [iH (P:=fun b:LN=> !b.2.all (usedB ins vs)) (j:=0) (fun b=>rfl),Vb]at jb
  exact⟨jb.1,by rw [show ((0:Int),u,v,ins,vs,os,ls)=(((0:Nat):Int),u,v,ins,vs,os,ls) from rfl,jb.2]⟩
 ·have eB:=(List.getElem?_eq_some_iff.1 hb).1
  have hw:IntKind.i64.wrap ((i:Int) + 1)=((i + 1:Nat):Int):=by rw [aR (by omega) (by omega)];omega
  obtain⟨k1,k2⟩:=aor i u v ins vs os ls b hb (hL b (List.mem_of_getElem? hb)) h1 h2
  have c0:Oo (i:Int) ls=true:=dO (by omega)
  have c1:Uq (i:Int) u v ins vs os ls=true:=k1
  have c2:Oq (i:Int) u v ins vs os ls= !b.2.all (usedB ins vs):=by
   simp only [Oq,MH,k2]
   cases b.2.all (usedB ins vs) <;> rfl
  have c3:Ur (i:Int)=((i + 1:Nat):Int):=hw
  refine⟨?_,?_,?_,fun _ _=>trivial⟩
  ·simp only [dX,Bv,LT.nds,allT,c0,c1,c2,cond_true]
   cases b.2.all (usedB ins vs) <;> simp [LT.nds]
  ·simp only [dX,Bv,LT.each,c0,c2,c3]
   cases b.2.all (usedB ins vs) <;> simp [LT.each]
  ·simp only [dX,Bv,LT.fn,c0,c2,cond_true]
 ·have bM:Oo (ls.length:Int) ls=false:=QB (by omega)
  simp [dX,Bv,LT.out,bM]
theorem alO(nm:ByteArray)(ins vs os:List ByteArray)(g:ByteArray)(ls:List LN)(h:prOk nm ins vs os g ls=true):
  (Ny nm g ins vs os ls==0)=app ins vs os g ls∧Nz nm g ins vs os ls=true:=by
 obtain⟨h1,h2,h3,h4,h5,h6,h7⟩:=RQ.1 h
 obtain⟨hn,hA⟩:=OM.1 h7
 have hL: ∀ l∈ls,l.2.length≤1048576:=fun l hl=>(OS.1 (hA l hl).2).1
 obtain⟨l1,l2,l3⟩:=amD h2 h3 h4
 obtain⟨w1,w2⟩:=afm nm g ins vs os ls [] (by omega) l2 l3 hn rfl
 obtain⟨t1,t2⟩:=agA vs os ls 0 []
 obtain⟨u1,u2⟩:=aqo nm g ins vs os ls hn hL l1 l2
 obtain⟨r1,r2⟩:=ah0 g ins vs l1 l2
 have a4:GQ nm g ins vs os ls= !ls.all (madeB vs os):=by
  simp only [GQ,BT,LX,w2,t1]
  cases ls.all (madeB vs os) <;> rfl
 have a5:ls.all (madeB vs os)=true→BU nm g ins vs os ls=ls.map Prod.fst:=fun hm=>by
  simp only [BU,BT,LX,w2,ql]
  rw [t2 hm];rfl
 have a6:ls.all (madeB vs os)=true→LY nm g ins vs os ls= !leN (vs.length + os.length) ls.length:=fun hm=>by
  simp only [LY,a5 hm,List.length_map]
  rw [aR (by omega) (by omega),Bool.eq_iff_iff,aiF,Bool.not_eq_true',← Bool.not_eq_true,fX]
  omega
 have e7:(Lp.res dX (LZ nm g ins vs os ls)).1=bif !ls.all (fun l=>l.2.all (usedB ins vs))then 0 else 1:=u2
 have e8:Lp.fin dX (LZ nm g ins vs os ls)=true:=u1
 have hnil:(g.toList==ByteArray.toList { data:= #[] })=(g.toList== []):=by rw [OP]
 refine⟨?_,?_⟩
 ·simp only [Ny,vz,yf,hnil,r1,a4,e7,app]
  cases hm:ls.all (madeB vs os)with
  |false=>
   have hm2:(ls.all fun l=>mw vs l.1||mw os l.1)=false:=hm
   rw [hm2]
   generalize rU (ins++vs++os)=p1
   generalize (g.toList== [])=p2
   generalize Xc ins vs g=p3
   cases p1 <;> cases p2 <;> cases p3 <;> rfl
  |true=>
   have hm2:(ls.all fun l=>mw vs l.1||mw os l.1)=true:=hm
   rw [hm2,a5 hm,a6 hm]
   generalize rU (ins++vs++os)=p1
   generalize (g.toList== [])=p2
   generalize Xc ins vs g=p3
   generalize rU (ls.map Prod.fst)=p4
   generalize leN (vs.length + os.length) ls.length=p5
   generalize (ls.all fun l=>l.2.all (usedB ins vs))=p6
   cases p1 <;> cases p2 <;> cases p3 <;> cases p4 <;> cases p5 <;> cases p6 <;> rfl
 ·have f1:leN (ins.length + vs.length + os.length) 2000000=true:=dv h6
  have f2:leN (ins++vs++os).length 9223372036854775807=true:=dv (by simp;omega)
  have f3:Lp.fin dx (BT nm g ins vs os ls)=true:=w1
  simp only [Nz,vz,yf,f1,f2,f3,r2,a4,e8,allT,Bool.or_true,cond_true]
  cases hm:ls.all (madeB vs os)with
  |false=>simp
  |true=>
   have f4:leN (ls.map Prod.fst).length 9223372036854775807=true:=dv (by rw [List.length_map];omega)
   rw [a5 hm,f4]
   simp
def cG(b:ByteArray×(List (Int×(ByteArray×Int)))):(List ByteArray)→Nat ⊕ (List ByteArray)
 |y3=>(.inr (y3++([b.1])))
def bJ(y2:List (ByteArray×(List (Int×(ByteArray×Int)))))(i:Nat):(List ByteArray)→aY
 |y3=>((i:Int),(↑y2.length:Int),y2,y3)
def oG:aY→List ByteArray
 |(_,_,_,y3)=>y3
theorem Hu(y2:List (ByteArray×(List (Int×(ByteArray×Int)))))(y3:List ByteArray)(hn:y2.length≤9223372036854775807)(hN:y2.length≤1048576)(h3:y3.length=0):
  aj.fin ((0:Int),(↑y2.length:Int),y2,y3)=true∧aj.res ((0:Int),(↑y2.length:Int),y2,y3)=((af (cG) 0 y2 0 y3).1,(bJ y2) (af (cG) 0 y2 0 y3).2.1 (af (cG) 0 y2 0 y3).2.2):=by
 have jb:=aj.along (bJ y2) oG (cG) 0 (fun i a=>a.length=i) y2 y3 h3 (by simp only [aj,bJ];omega) (fun i b a hb hI=> ?_) (fun a hI=> ?_)
 ·exact jb
 ·obtain y3:=a
  have eB:=(List.getElem?_eq_some_iff.1 hb).1
  have il: ∀ d,Option.getD y2[i]? d=b:=fun d=>by rw [hb];rfl
  have hw:=tZ eB hn
  have bM:ltI (i:Int) (y2.length:Int)=true:=dO (by omega)
  have vC:leI (0:Int) (i:Int)=true:=bw (by omega)
  have gI:ltN i y2.length=true:=fQ eB
  refine⟨?_,?_,?_,?_⟩
  ·have hg2:bp (i:Int) y2= [b.1]:=by simp only [bp,Int.toNat_natCast];exact congrArg (fun z:LN=> [z.1]) (il _)
   have l1: ∀ s:ByteArray,leN (a.length + List.length [s]) 9223372036854775807=true:=fun s=>dv (by rw [List.length_singleton];omega)
   have l2: ∀ s:ByteArray,leN ((a.length + List.length [s]) * 16) 140737488355328=true:=fun s=>dv (by rw [List.length_singleton];omega)
   simp only [fD,fE,fF,fG,fH,fI,fJ,fK,fw,aj,LT.nds,allT,bJ,bM,vC,gI,hg2,l1,l2,Int.toNat_natCast,cond_true,Bool.and_self]
  ·simp [bp,fD,fE,fF,fG,fH,fI,fJ,fK,fw,aj,LT.each,bJ,oG,hw]
  ·have hg2:bp (i:Int) y2= [b.1]:=by simp only [bp,Int.toNat_natCast];exact congrArg (fun z:LN=> [z.1]) (il _)
   simp only [fD,fE,fF,fG,fH,fI,fJ,fK,fw,aj,LT.fn,bJ,oG,cG,bM,hg2,cond_true]
  ·intro a' hf
   simp only [cG,Sum.inr.injEq]at hf
   subst hf;simp [hI]
 ·obtain y3:=a
  simp [bp,fD,fE,fF,fG,fH,fI,fJ,fK,fw,aj,LT.out,bJ]
theorem aml: ∀ (ls:List LN) (acc:List ByteArray),ls.foldl (fun a l=>a++ [l.1]) acc=acc++ls.map Prod.fst
 | [],acc=>by simp
 |l::r,acc=>by rw [List.foldl_cons,aml r];simp
def gM(y3:List ByteArray)(b:ByteArray):(Unit)→Nat ⊕ (Unit)
 |_=>(bif(mm b y3)then(.inl 0)else(.inr ()))
def ce(y2 y3:List ByteArray)(i:Nat):(Unit)→bn
 |_=>((i:Int),(↑y2.length:Int),y2,y3)
def pA:bn→Unit
 |(_,_,_,_)=>()
theorem IL(y2 y3:List ByteArray) (hn:y2.length≤9223372036854775807) (hm:leN y3.length 9223372036854775807=true):
  ah.fin ((0:Int),(↑y2.length:Int),y2,y3)=true∧ah.res ((0:Int),(↑y2.length:Int),y2,y3)=((af (gM y3) 1 y2 0 ()).1,(ce y2 y3) (af (gM y3) 1 y2 0 ()).2.1 (af (gM y3) 1 y2 0 ()).2.2):=by
 have jb:=ah.along (ce y2 y3) pA (gM y3) 1 (fun _ _=>True) y2 () (by trivial) (by simp only [ah,ce];omega) (fun i b a hb hI=> ?_) (fun a hI=> ?_)
 ·exact jb
 ·obtain⟨⟩:=a
  have eB:=(List.getElem?_eq_some_iff.1 hb).1
  have il: ∀ d,Option.getD y2[i]? d=b:=fun d=>by rw [hb];rfl
  have hw:=tZ eB hn
  have bM:ltI (i:Int) (y2.length:Int)=true:=dO (by omega)
  have vC:leI (0:Int) (i:Int)=true:=bw (by omega)
  have gI:ltN i y2.length=true:=fQ eB
  refine⟨?_,?_,?_,?_⟩
  ·have h4:dS y3=true:=by simp only [dS,mn,hm,allT,cond_true]
   simp only [gX,gY,gZ,hY,gE,ah,LT.nds,allT,ce,h4,bM,vC,gI,Int.toNat_natCast,cond_true,Bool.and_self]
   cases hZ (i:Int) y2 y3 <;> simp [LT.nds]
  ·simp [gX,gY,gZ,hY,dS,hZ,kY,gE,ah,LT.each,ce,pA,hw]
  ·simp only [gX,gY,gZ,hY,dS,hZ,kY,gE,ah,LT.fn,ce,pA,gM,Int.toNat_natCast,bM,vC,gI,il,cond_true,Bool.cond_self]
  ·exact fun _ _=>trivial
 ·obtain⟨⟩:=a
  simp [gX,gY,gZ,hY,dS,hZ,kY,gE,ah,LT.out,ce]
def gN(y3:List ByteArray)(b:ByteArray):(Unit)→Nat ⊕ (Unit)
 |_=>(bif(mo b y3)then(.inl 0)else(.inr ()))
def cf(y2 y3:List ByteArray)(i:Nat):(Unit)→bo
 |_=>((i:Int),(↑y2.length:Int),y2,y3)
def pB:bo→Unit
 |(_,_,_,_)=>()
theorem IM(y2 y3:List ByteArray) (hn:y2.length≤9223372036854775807) (hm:leN y3.length 9223372036854775807=true):
  ai.fin ((0:Int),(↑y2.length:Int),y2,y3)=true∧ai.res ((0:Int),(↑y2.length:Int),y2,y3)=((af (gN y3) 1 y2 0 ()).1,(cf y2 y3) (af (gN y3) 1 y2 0 ()).2.1 (af (gN y3) 1 y2 0 ()).2.2):=by
 have jb:=ai.along (cf y2 y3) pB (gN y3) 1 (fun _ _=>True) y2 () (by trivial) (by simp only [ai,cf];omega) (fun i b a hb hI=> ?_) (fun a hI=> ?_)
 ·exact jb
 ·obtain⟨⟩:=a
  have eB:=(List.getElem?_eq_some_iff.1 hb).1
  have il: ∀ d,Option.getD y2[i]? d=b:=fun d=>by rw [hb];rfl
  have hw:=tZ eB hn
  have bM:ltI (i:Int) (y2.length:Int)=true:=dO (by omega)
  have vC:leI (0:Int) (i:Int)=true:=bw (by omega)
  have gI:ltN i y2.length=true:=fQ eB
  refine⟨?_,?_,?_,?_⟩
  ·have h4:dU y3=true:=by simp only [dU,mp,hm,allT,cond_true]
   simp only [ia,ib,ic,ie,gF,ai,LT.nds,allT,cf,h4,bM,vC,gI,Int.toNat_natCast,cond_true,Bool.and_self]
   cases ig (i:Int) y2 y3 <;> simp [LT.nds]
  ·simp [ia,ib,ic,ie,dU,ig,kZ,gF,ai,LT.each,cf,pB,hw]
  ·simp only [ia,ib,ic,ie,dU,ig,kZ,gF,ai,LT.fn,cf,pB,gN,Int.toNat_natCast,bM,vC,gI,il,cond_true,Bool.cond_self]
  ·exact fun _ _=>trivial
 ·obtain⟨⟩:=a
  simp [ia,ib,ic,ie,dU,ig,kZ,gF,ai,LT.out,cf]
theorem aqX(a b:List ByteArray)(ha:leN a.length 9223372036854775807=true)(hb:leN b.length 9223372036854775807=true):
  cX a b=(a.any fun s=> !mw b s)∧cj a b=a∧kU a b=b∧kV a b=true:=by
 obtain⟨w1,w2⟩:=IL a b (fX.1 ha) hb
 rw [iH (P:=fun s=> !mw b s) (j:=0) (fun s=>rfl)]at w2
 refine⟨?_,Bool.cond_self _ _,Bool.cond_self _ _,?_⟩
 ·simp only [cX,rF,iL,mf,w2,ce]
  cases (a.any fun s=> !mw b s) <;> simp [Nat.beq,Qw.1,Qw.2]
 ·simp only [kV,rG,iL,w1,allT,cond_true]
theorem aqY(a b:List ByteArray)(ha:leN a.length 9223372036854775807=true)(hb:leN b.length 9223372036854775807=true):
  kW a b=(a.any fun s=> !mw b s)∧wZ a b=a∧xa a b=b∧kX a b=true:=by
 obtain⟨w1,w2⟩:=IM a b (fX.1 ha) hb
 rw [iH (P:=fun s=> !mw b s) (j:=0) (fun s=>rfl)]at w2
 refine⟨?_,Bool.cond_self _ _,Bool.cond_self _ _,?_⟩
 ·simp only [kW,rH,iM,mg,w2,cf]
  cases (a.any fun s=> !mw b s) <;> simp [Nat.beq,Qw.1,Qw.2]
 ·simp only [kX,rI,iM,w1,allT,cond_true]
def fW(y5 y6:List ByteArray)(b:Int×(ByteArray×Int)):(Unit)→Nat ⊕ (Unit)
 |_=>(bif(eT b.1 (b.2.1) y5 y6)then(.inl 0)else(.inr ()))
def cN(y2 y3:ByteArray)(y4:List (Int×(ByteArray×Int)))(y5 y6 y7:List ByteArray)(y8:List (ByteArray×(List (Int×(ByteArray×Int)))))(i:Nat):(Unit)→bG
 |_=>((i:Int),(↑y4.length:Int),y2,y3,y4,y5,y6,y7,y8)
def rx:bG→Unit
 |(_,_,_,_,_,_,_,_,_)=>()
theorem Me(y2 y3:ByteArray)(y4:List (Int×(ByteArray×Int)))(y5 y6 y7:List ByteArray)(y8:List (ByteArray×(List (Int×(ByteArray×Int))))) (hn:y4.length≤9223372036854775807) (h5:leN y5.length 9223372036854775807=true) (h6:leN y6.length 9223372036854775807=true):
  aD.fin ((0:Int),(↑y4.length:Int),y2,y3,y4,y5,y6,y7,y8)=true∧aD.res ((0:Int),(↑y4.length:Int),y2,y3,y4,y5,y6,y7,y8)=((af (fW y5 y6) 1 y4 0 ()).1,(cN y2 y3 y4 y5 y6 y7 y8) (af (fW y5 y6) 1 y4 0 ()).2.1 (af (fW y5 y6) 1 y4 0 ()).2.2):=by
 have jb:=aD.along (cN y2 y3 y4 y5 y6 y7 y8) rx (fW y5 y6) 1 (fun _ _=>True) y4 () (by trivial) (by simp only [aD,cN];omega) (fun i b a hb hI=> ?_) (fun a hI=> ?_)
 ·exact jb
 ·obtain⟨⟩:=a
  have eB:=(List.getElem?_eq_some_iff.1 hb).1
  have il: ∀ d,Option.getD y4[i]? d=b:=fun d=>by rw [hb];rfl
  have hw:=tZ eB hn
  have bM:ltI (i:Int) (y4.length:Int)=true:=dO (by omega)
  have vC:leI (0:Int) (i:Int)=true:=bw (by omega)
  have gI:ltN i y4.length=true:=fQ eB
  refine⟨?_,?_,?_,?_⟩
  ·have hg2:bA (i:Int) y4=b:=by simp only [bA,Int.toNat_natCast];exact il _
   have h4:jM (i:Int) y4 y5 y6=true:=by simp only [jM,jT,h5,h6,allT,Bool.or_true,cond_true]
   simp only [jL,nF,nG,nH,jm,aD,LT.nds,allT,cN,h4,bM,vC,gI,Int.toNat_natCast,cond_true,Bool.and_self]
   cases jN (i:Int) y4 y5 y6 <;> simp [LT.nds]
  ·simp [bA,jL,nF,nG,nH,jM,jN,sA,jm,aD,LT.each,cN,rx,hw]
  ·have hg2:bA (i:Int) y4=b:=by simp only [bA,Int.toNat_natCast];exact il _
   simp only [jL,jN,jm,aD,LT.fn,cN,rx,fW,bM,hg2,cond_true]
  ·exact fun _ _=>trivial
 ·obtain⟨⟩:=a
  simp [bA,jL,nF,nG,nH,jM,jN,sA,jm,aD,LT.out,cN]
theorem aj6(u v:ByteArray)(ins vs os:List ByteArray)(ls:List LN)(ts:List TM)(hn:ts.length≤1048576)(h1:leN ins.length 9223372036854775807=true)(h2:leN vs.length 9223372036854775807=true):
  dq u v ins vs os ls ts= !ts.all (usedB ins vs)∧fy u v ins vs os ls ts=true:=by
 obtain⟨w1,w2⟩:=Me u v ts ins vs os ls (by omega) h1 h2
 rw [iH (P:=fun b=> !usedB ins vs b) (j:=0) (fun b=>by
  simp only [fW,eT,jp,usedB,Xc]
  cases b.1==1 <;> cases mw ins b.2.1 <;> cases mw vs b.2.1 <;> rfl),Vb]at w2
 refine⟨?_,?_⟩
 ·simp only [dq,sv,uB,kw,oS,w2,cN]
  cases ts.all (usedB ins vs) <;> simp [Nat.beq,Qw.1,Qw.2]
 ·simp only [fy,sw,uC,kw,w1,allT,cond_true]
def fV(y2 y3:ByteArray)(y4 y5 y6:List ByteArray)(y7:List (ByteArray×(List (Int×(ByteArray×Int)))))(b:ByteArray×(List (Int×(ByteArray×Int)))):(Unit)→Nat ⊕ (Unit)
 |_=>(bif(dq y2 y3 y4 y5 y6 y7 b.2)then(.inl 0)else(.inr ()))
def cM(y2 y3:ByteArray)(y4 y5 y6:List ByteArray)(y7:List (ByteArray×(List (Int×(ByteArray×Int)))))(i:Nat):(Unit)→bF
 |_=>((i:Int),(↑y7.length:Int),y2,y3,y4,y5,y6,y7)
def rv:bF→Unit
 |(_,_,_,_,_,_,_,_)=>()
theorem Md(y2 y3:ByteArray)(y4 y5 y6:List ByteArray)(y7:List (ByteArray×(List (Int×(ByteArray×Int))))) (hn:y7.length≤9223372036854775807) (hL: ∀ l∈y7,l.2.length≤1048576) (h4:leN y4.length 9223372036854775807=true) (h5:leN y5.length 9223372036854775807=true):
  aC.fin ((0:Int),(↑y7.length:Int),y2,y3,y4,y5,y6,y7)=true∧aC.res ((0:Int),(↑y7.length:Int),y2,y3,y4,y5,y6,y7)=((af (fV y2 y3 y4 y5 y6 y7) 1 y7 0 ()).1,(cM y2 y3 y4 y5 y6 y7) (af (fV y2 y3 y4 y5 y6 y7) 1 y7 0 ()).2.1 (af (fV y2 y3 y4 y5 y6 y7) 1 y7 0 ()).2.2):=by
 have jb:=aC.along (cM y2 y3 y4 y5 y6 y7) rv (fV y2 y3 y4 y5 y6 y7) 1 (fun _ _=>True) y7 () (by trivial) (by simp only [aC,cM];omega) (fun i b a hb hI=> ?_) (fun a hI=> ?_)
 ·exact jb
 ·obtain⟨⟩:=a
  have eB:=(List.getElem?_eq_some_iff.1 hb).1
  have il: ∀ d,Option.getD y7[i]? d=b:=fun d=>by rw [hb];rfl
  have hw:=tZ eB hn
  have bM:ltI (i:Int) (y7.length:Int)=true:=dO (by omega)
  have vC:leI (0:Int) (i:Int)=true:=bw (by omega)
  have gI:ltN i y7.length=true:=fQ eB
  refine⟨?_,?_,?_,?_⟩
  ·have hg2:cJ (i:Int) y7=b.2:=by simp only [cJ,Int.toNat_natCast];exact congrArg Prod.snd (il _)
   have k4:jJ (i:Int) y2 y3 y4 y5 y6 y7=true:=by simp only [jJ,hg2];exact(aj6 y2 y3 y4 y5 y6 y7 b.2 (hL b (List.mem_of_getElem? hb)) h4 h5).2
   simp only [jI,nC,nD,nE,jl,aC,LT.nds,allT,cM,k4,bM,vC,gI,Int.toNat_natCast,cond_true,Bool.and_self]
   cases jK (i:Int) y2 y3 y4 y5 y6 y7 <;> simp [LT.nds]
  ·simp [cJ,jI,nC,nD,nE,jJ,jK,sz,jl,aC,LT.each,cM,rv,hw]
  ·have hg2:cJ (i:Int) y7=b.2:=by simp only [cJ,Int.toNat_natCast];exact congrArg Prod.snd (il _)
   simp only [jI,jK,jl,aC,LT.fn,cM,rv,fV,bM,hg2,cond_true]
  ·exact fun _ _=>trivial
 ·obtain⟨⟩:=a
  simp [cJ,jI,nC,nD,nE,jJ,jK,sz,jl,aC,LT.out,cM]
theorem aqn(u v:ByteArray)(ins vs os:List ByteArray)(ls:List LN)(hN:ls.length≤1048576)(hL: ∀ l∈ls,l.2.length≤1048576)(h1:leN ins.length 9223372036854775807=true)(h2:leN vs.length 9223372036854775807=true):
  nt u v ls ins vs os= !ls.all (fun l=>l.2.all (usedB ins vs))∧nu u v ls ins vs os=true:=by
 obtain⟨w1,w2⟩:=Md u v ins vs os ls (by omega) hL h1 h2
 rw [Vv (g:=fun(b:LN) (_:Unit)=>bif !b.2.all (usedB ins vs)then(.inl 0:Nat ⊕ Unit)else .inr ()) (fun b hb a=>by
  simp only [fV,(aj6 u v ins vs os ls b.2 (hL b hb) h1 h2).1]),iH (P:=fun b:LN=> !b.2.all (usedB ins vs)) (j:=0) (fun b=>rfl),Vb]at w2
 refine⟨?_,?_⟩
 ·simp only [nt,uz,kv,w2,cM]
  cases ls.all (fun l=>l.2.all (usedB ins vs)) <;> simp [Nat.beq,Qw.1,Qw.2]
 ·simp only [nu,uA,kv,w1,allT,cond_true]
theorem aly(nm:ByteArray)(ins vs os:List ByteArray)(g:ByteArray)(ls:List LN)(h:prOk nm ins vs os g ls=true):
  (lp nm g ins vs os ls==0)=app ins vs os g ls∧lq nm g ins vs os ls=true:=by
 obtain⟨h1,h2,h3,h4,h5,h6,h7⟩:=RQ.1 h
 obtain⟨hn,hA⟩:=OM.1 h7
 have hL: ∀ l∈ls,l.2.length≤1048576:=fun l hl=>(OS.1 (hA l hl).2).1
 obtain⟨l1,l2,l3⟩:=amD h2 h3 h4
 obtain⟨w1,w2⟩:=Hu ls [] (by omega) hn rfl
 rw [Lm (f:=cG) (g:=fun a (l:LN)=>a++ [l.1]) (fun b a=>rfl),aml]at w2
 have a3:al ls=ls.map Prod.fst:=by
  simp only [al,kR,w2,bJ,List.nil_append]
 have a4:am vs os=vs++os:=by simp [am]
 have n0:aX ins vs os=ins++vs++os:=by simp [aX,gO]
 have k1:leN (ls.map Prod.fst).length 9223372036854775807=true:=dv (by rw [List.length_map];omega)
 have k2:leN (vs++os).length 9223372036854775807=true:=dv (by rw [List.length_append];omega)
 obtain⟨s1,s2,s3,s4⟩:=aqX (ls.map Prod.fst) (vs++os) k1 k2
 obtain⟨v1,v2,v3,v4⟩:=aqY (vs++os) (ls.map Prod.fst) k2 k1
 obtain⟨u1,u2⟩:=aqn nm g ins vs os ls hn hL l1 l2
 have hnil:(g.toList==ByteArray.toList { data:= #[] })=(g.toList== []):=by rw [OP]
 have hmade:((ls.map Prod.fst).any fun s=> !mw (vs++os) s)= !ls.all (fun l=>mw vs l.1||mw os l.1):=by
  rw [Vb,List.all_map]
  congr 2
  funext l
  simp only [Function.comp,ahK]
 have a5:kT vs os ls=(vs++os).any fun s=> !mw (ls.map Prod.fst) s:=by
  simp only [kT,a3,a4,s2,s3,v1]
 refine⟨?_,?_⟩
 ·simp only [lp,n0,dM,kQ,hnil,a3,a4,s1,s2,u1,hmade,a5,app,Xc]
  cases p1:rU (ins++vs++os)with
  |true=>rfl
  |false=>
   cases p3:(ls.all fun l=>mw vs l.1||mw os l.1)with
   |false=>
    generalize (g.toList== [])=q1
    generalize mw ins g=q2
    generalize mw vs g=q3
    cases q1 <;> cases q2 <;> cases q3 <;> rfl
   |true=>
    cases p4:rU (ls.map Prod.fst)with
    |true=>
     generalize (g.toList== [])=q1
     generalize mw ins g=q2
     generalize mw vs g=q3
     cases q1 <;> cases q2 <;> cases q3 <;> rfl
    |false=>
     rw [ap3 p1 p3 p4]
     generalize (g.toList== [])=q1
     generalize mw ins g=q2
     generalize mw vs g=q3
     generalize leN (vs.length + os.length) ls.length=q4
     generalize (ls.all fun l=>l.2.all (usedB ins vs))=q5
     cases q1 <;> cases q2 <;> cases q3 <;> cases q4 <;> cases q5 <;> rfl
 ·have f1:Lp.fin aj (kR ls)=true:=w1
  have f2:(leN [vs,os].length 1000&&leN (IJ [vs,os]) 2000000)=true:=by
   rw [Bool.and_eq_true];exact⟨rfl,dv (by simp [IJ];omega)⟩
  have f3:lr ins vs os=true:=by
   have:(leN [ins,vs,os].length 1000&&leN (IJ [ins,vs,os]) 2000000)=true:=by
    rw [Bool.and_eq_true];exact⟨rfl,dv (by simp [IJ];omega)⟩
   simp only [lr,gO,this,allT,cond_true]
  have f4:leN (ins++vs++os).length 9223372036854775807=true:=dv (by simp;omega)
  simp only [lq,f1,f2,f3,n0,f4,a3,a4,s2,s3,s4,v2,v3,v4,u2,l1,l2,k1,k2,allT,Bool.or_true,cond_true]
def nb(nm:ByteArray)(ins vs os:List ByteArray)(g:ByteArray)(ls:List LN):Bool:=aie nm ins vs os g ls&&app ins vs os g ls
theorem alQ(nm:ByteArray)(ins vs os:List ByteArray)(g:ByteArray)(ls:List LN)(h:prOk nm ins vs os g ls=true):
  Ui nm g ins vs os ls=nb nm ins vs os g ls∧Uj nm g ins vs os ls=true:=by
 obtain⟨a1,a2⟩:=ajR nm ins vs os g ls h
 obtain⟨b1,b2⟩:=alO nm ins vs os g ls h
 simp only [Ui,Uj,a1,a2,b1,b2,nb,allT,Bool.or_true,cond_true,and_true]
 cases aie nm ins vs os g ls <;> rfl
theorem alz(nm:ByteArray)(ins vs os:List ByteArray)(g:ByteArray)(ls:List LN)(h:prOk nm ins vs os g ls=true):
  TC nm g ins vs os ls=nb nm ins vs os g ls∧TD nm g ins vs os ls=true:=by
 obtain⟨a1,a2⟩:=ajf nm ins vs os g ls h
 obtain⟨b1,b2⟩:=aly nm ins vs os g ls h
 simp only [TC,TD,a1,a2,b1,b2,nb,allT,Bool.or_true,cond_true,and_true]
 cases aie nm ins vs os g ls <;> rfl
def aaC:List SV→List Entry→Option Out
 | [.one ⟨true,[.val (.string x0),.ref 0,.ref 1,.ref 2,.val (.string x1),.ref 3]⟩],[.row false 9 (.str) x2,.row false 9 (.str) x3,.row false 9 (.str) x4,.row false 204 (.pair (.str) (.sl 178 (.pair (.int .i64) (.pair (.str) (.int .i64))))) x5]=>some ⟨.one ⟨false,[.val (.bool (nb x0 x2 x3 x4 x1 x5))]⟩,[.row false 9 aih x2,.row false 9 aih x3,.row false 9 aih x4,.row false 204 (CTy.pair CTy.str (CTy.sl (178:TypeId) acD)) x5],[],[prOk x0 x2 x3 x4 x1 x5]⟩
 |_,_=>none
def we:PF prog:=PF.alt ajD aaC (by
 intro args es o h cB;unfold aaC at h;split at h
 ·rename_i x0 x1 x2 x3 x4 x5
  cases h
  have cB:=mq cB
  have hh:=alQ x0 x2 x3 x4 x1 x5 cB
  obtain⟨e0,en⟩:=hh
  exact rg rfl (lJ en) (by simp only [e0] <;> rfl) rfl rfl
 ·cases h)
def aax:List SV→List Entry→Option Out
 | [.one ⟨true,[.val (.string x0),.ref 0,.ref 1,.ref 2,.val (.string x1),.ref 3]⟩],[.row false 9 (.str) x2,.row false 9 (.str) x3,.row false 9 (.str) x4,.row false 204 (.pair (.str) (.sl 178 (.pair (.int .i64) (.pair (.str) (.int .i64))))) x5]=>some ⟨.one ⟨false,[.val (.bool (nb x0 x2 x3 x4 x1 x5))]⟩,[.row false 9 aih x2,.row false 9 aih x3,.row false 9 aih x4,.row false 204 (CTy.pair CTy.str (CTy.sl (178:TypeId) acD)) x5],[],[prOk x0 x2 x3 x4 x1 x5]⟩
 |_,_=>none
def wc:PF prog:=PF.alt ajy aax (by
 intro args es o h cB;unfold aax at h;split at h
 ·rename_i x0 x1 x2 x3 x4 x5
  cases h
  have cB:=mq cB
  have hh:=alz x0 x2 x3 x4 x1 x5 cB
  obtain⟨e0,en⟩:=hh
  exact rg rfl (lJ en) (by simp only [e0] <;> rfl) rfl rfl
 ·cases h)
def RB(x0:List Int)(x1:List (Int×Int×Int)):Bool:=allT [leN x0.length (1048576:Nat),leN ((0:Nat) + List.length x1) (9223372036854775807:Nat),leN (((0:Nat) + List.length x1) * (24:Nat)) (140737488355328:Nat)]
def ac8:List SV→List Entry→Option Out
 | [.one ⟨true,[.ref 0,.ref 1]⟩],[.row false 2 (.int .i64) x0,.row false 172 (.pair (.int .i64) (.pair (.int .i64) (.int .i64))) x1]=>some ⟨.one ⟨true,[.ref 2,.ref 3]⟩,[.row false 2 agR x0,.row false 172 abM x1],[.row true 2 agR x0,.row true 172 abM x1],[RB x0 x1]⟩
 |_,_=>none
def yC:PF prog:=PF.ofG prog [na,PF.lend na,PF.fz na] [] aN 179 f179 func179 (fun c _=>LOk.nil c) ac8 (by
 intro vs es r h;unfold ac8 at h;split at h
 ·cases h;kernel_rfl
 ·cases h)
def rW(x2:ByteArray)(x3 x4:List ByteArray)(x7 x9:List Int):Int:=bif leI (0:Int) (iQ x3 x2)then Option.getD x9[Int.toNat (iQ x3 x2)]? (0:Int)else Option.getD x7[Int.toNat (iQ x4 x2)]? (0:Int)
def rX(x2:ByteArray)(x3 x4:List ByteArray)(x7 x9:List Int):Bool:=allT [leN x3.length (9223372036854775807:Nat),!leI (0:Int) (iQ x3 x2)||leI (0:Int) (iQ x3 x2),!leI (0:Int) (iQ x3 x2)||ltI (iQ x3 x2) (↑x9.length:Int),!leI (0:Int) (iQ x3 x2)||ltN (Int.toNat (iQ x3 x2)) x9.length,leI (0:Int) (iQ x3 x2)||leN x4.length (9223372036854775807:Nat),leI (0:Int) (iQ x3 x2)||leI (0:Int) (iQ x4 x2),leI (0:Int) (iQ x3 x2)||ltI (iQ x4 x2) (↑x7.length:Int),leI (0:Int) (iQ x3 x2)||ltN (Int.toNat (iQ x4 x2)) x7.length]
def YG:List SV→List Entry→Option Out
 | [.one ⟨true,[.val (.string _x0),.ref 0,.ref 1,.ref 2,.val (.string _x1),.ref 3]⟩,.one ⟨true,[.ref 4,.ref 5]⟩,.one ⟨false,[.ref 6]⟩,.one ⟨false,[.val (.string x2)]⟩],[.row false 9 (.str) x3,.row false 9 (.str) x4,.row false 9 (.str) x5,.row false 204 (.pair (.str) (.sl 178 (.pair (.int .i64) (.pair (.str) (.int .i64))))) x6,.row false 2 (.int .i64) x7,.row false 172 (.pair (.int .i64) (.pair (.int .i64) (.int .i64))) x8,.row false 2 (.int .i64) x9]=>some ⟨.one ⟨false,[.val (.int .i64 (rW x2 x3 x4 x7 x9))]⟩,[.row false 9 aih x3,.row false 9 aih x4,.row false 9 aih x5,.row false 204 (CTy.pair CTy.str (CTy.sl (178:TypeId) acD)) x6,.row false 2 agR x7,.row false 172 abM x8,.row false 2 agR x9],[],[rX x2 x3 x4 x7 x9]⟩
 |_,_=>none
def dD:PF prog:=PF.ofG prog [bV,PF.lend bV,PF.fz bV] [] aN 181 f181 func181 (fun c _=>LOk.nil c) YG (by
 intro vs es r h;unfold YG at h;split at h
 ·cases h;kernel_rfl
 ·cases h)
abbrev tx:=Int×Int×List (Int×(ByteArray×Int))×List Int×ByteArray×ByteArray×List Int×List ByteArray×List ByteArray×List ByteArray×List (ByteArray×(List (Int×(ByteArray×Int))))×List Int×List (Int×(Int×Int))
section
variable (y0 y1:Int)(y2:List (Int×(ByteArray×Int)))(y3 y6:List Int)(y7 y8:List ByteArray)(y11:List Int)(y12:List (Int×(Int×Int)))
def dZ:Int×ByteArray×Int:=Option.getD y2[Int.toNat y0]? ((0:Int),ByteArray.empty,(0:Int))
def Ip:Int:=IntKind.wrap .i64 ((↑y3.length:Int) - mu ((dZ y0 y2).1))
def iG:List Int:=List.drop (Int.toNat (Ip y0 y2 y3)) (List.take (Int.toNat (↑y3.length:Int)) y3)
def Iq:List Int:=List.drop (Int.toNat (0:Int)) (List.take (Int.toNat (Ip y0 y2 y3)) y3)
def aU:Bool:=(dZ y0 y2).1==(1:Int)
def bQ:Bool:=(dZ y0 y2).1==(2:Int)
def bR:Bool:=(dZ y0 y2).1==(3:Int)
def bS:Bool:=(dZ y0 y2).1==(4:Int)
def Or:Bool:=ltI (0:Int) (↑(List.length (iG y0 y2 y3)):Int)
def Ot:Bool:=ltN (Int.toNat (0:Int)) (List.length (iG y0 y2 y3))
def cu:Bool:=(dZ y0 y2).1==(5:Int)
def SO:Bool:=ltI (1:Int) (↑(List.length (iG y0 y2 y3)):Int)
def SP:Bool:=ltN (Int.toNat (1:Int)) (List.length (iG y0 y2 y3))
def gL:Bool:=(dZ y0 y2).1==(6:Int)
def MI:Int:=Option.getD (iG y0 y2 y3)[Int.toNat (0:Int)]? (0:Int)
def lU:Int×Int×Int:=Option.getD y12[Int.toNat y1]? ((0:Int),(0:Int),(0:Int))
def MJ:List Int:= [bif aU y0 y2 then rW (((dZ y0 y2).2).1) y7 y8 y11 y6 else bif bQ y0 y2 then(1:Int)else bif bR y0 y2 then(0:Int)else bif bS y0 y2 then IntKind.wrap .i64 ((1:Int) - MI y0 y2 y3)else bif cu y0 y2 then IntKind.wrap .i64 (↑(BitVec.toNat (BitVec.ofInt (IntKind.bits IntKind.i64) (MI y0 y2 y3)&&& BitVec.ofInt (IntKind.bits IntKind.i64) (Option.getD (iG y0 y2 y3)[Int.toNat (1:Int)]? (0:Int)))):Int)else bif gL y0 y2 then IntKind.wrap .i64 (↑(BitVec.toNat (BitVec.ofInt (IntKind.bits IntKind.i64) (MI y0 y2 y3)||| BitVec.ofInt (IntKind.bits IntKind.i64) (Option.getD (iG y0 y2 y3)[Int.toNat (1:Int)]? (0:Int)))):Int)else gG ((dZ y0 y2).1) ((dZ y0 y2).2.2) ((lU y1 y12).1) (((lU y1 y12).2).1) ((lU y1 y12).2.2) (iG y0 y2 y3)]
def Vr:Bool:=ltI y0 (↑y2.length:Int)
def agj:Bool:=leI (0:Int) y0
def agk:Bool:=ltN y0.toNat y2.length
def Vs:Bool:=leI (0:Int) (Ip y0 y2 y3)
def Vt:Bool:=leI (Ip y0 y2 y3) (↑y3.length:Int)
def agl:Bool:=leI (↑y3.length:Int) (↑y3.length:Int)
def agm:Bool:=leN (List.length (iG y0 y2 y3)) (1048576:Nat)
end
def agn:Bool:=leI (0:Int) (0:Int)
section
variable (y0 y1:Int)(y2:List (Int×(ByteArray×Int)))(y3 y6:List Int)(y7 y8 y9:List ByteArray)(y11:List Int)(y12:List (Int×(Int×Int)))
def ago:Bool:=leN (List.length (Iq y0 y2 y3)) (1048576:Nat)
def agp:Bool:= !aU y0 y2||rX (((dZ y0 y2).2).1) y7 y8 y11 y6
def aeL:Bool:=aU y0 y2||(bQ y0 y2||(bR y0 y2||(!bS y0 y2||leI (0:Int) (0:Int))))
def aeM:Bool:=aU y0 y2||(bQ y0 y2||(bR y0 y2||(!bS y0 y2||Or y0 y2 y3)))
def aeN:Bool:=aU y0 y2||(bQ y0 y2||(bR y0 y2||(!bS y0 y2||Ot y0 y2 y3)))
def aeO:Bool:=aU y0 y2||(bQ y0 y2||(bR y0 y2||(bS y0 y2||(!cu y0 y2||leI (0:Int) (0:Int)))))
def aeP:Bool:=aU y0 y2||(bQ y0 y2||(bR y0 y2||(bS y0 y2||(!cu y0 y2||Or y0 y2 y3))))
def aeQ:Bool:=aU y0 y2||(bQ y0 y2||(bR y0 y2||(bS y0 y2||(!cu y0 y2||Ot y0 y2 y3))))
def aeR:Bool:=aU y0 y2||(bQ y0 y2||(bR y0 y2||(bS y0 y2||(!cu y0 y2||leI (0:Int) (1:Int)))))
def aeS:Bool:=aU y0 y2||(bQ y0 y2||(bR y0 y2||(bS y0 y2||(!cu y0 y2||SO y0 y2 y3))))
def aeT:Bool:=aU y0 y2||(bQ y0 y2||(bR y0 y2||(bS y0 y2||(!cu y0 y2||SP y0 y2 y3))))
def aeU:Bool:=aU y0 y2||(bQ y0 y2||(bR y0 y2||(bS y0 y2||(cu y0 y2||(!gL y0 y2||leI (0:Int) (0:Int))))))
def aeV:Bool:=aU y0 y2||(bQ y0 y2||(bR y0 y2||(bS y0 y2||(cu y0 y2||(!gL y0 y2||Or y0 y2 y3)))))
def aeW:Bool:=aU y0 y2||(bQ y0 y2||(bR y0 y2||(bS y0 y2||(cu y0 y2||(!gL y0 y2||Ot y0 y2 y3)))))
def aeX:Bool:=aU y0 y2||(bQ y0 y2||(bR y0 y2||(bS y0 y2||(cu y0 y2||(!gL y0 y2||leI (0:Int) (1:Int))))))
def aeY:Bool:=aU y0 y2||(bQ y0 y2||(bR y0 y2||(bS y0 y2||(cu y0 y2||(!gL y0 y2||SO y0 y2 y3)))))
def aeZ:Bool:=aU y0 y2||(bQ y0 y2||(bR y0 y2||(bS y0 y2||(cu y0 y2||(!gL y0 y2||SP y0 y2 y3)))))
def Us:Bool:=aU y0 y2||(bQ y0 y2||(bR y0 y2||(bS y0 y2||(cu y0 y2||(gL y0 y2||leI (0:Int) y1)))))
def Ut:Bool:=aU y0 y2||(bQ y0 y2||(bR y0 y2||(bS y0 y2||(cu y0 y2||(gL y0 y2||ltI y1 (↑y12.length:Int))))))
def Uu:Bool:=aU y0 y2||(bQ y0 y2||(bR y0 y2||(bS y0 y2||(cu y0 y2||(gL y0 y2||ltN y1.toNat y12.length)))))
def ae0:Bool:=aU y0 y2||(bQ y0 y2||(bR y0 y2||(bS y0 y2||(cu y0 y2||(gL y0 y2||kj (iG y0 y2 y3))))))
def ae1:Bool:=leN (List.length (Iq y0 y2 y3) + List.length (MJ y0 y1 y2 y3 y6 y7 y8 y11 y12)) (9223372036854775807:Nat)
def ae2:Bool:=leN ((List.length (Iq y0 y2 y3) + List.length (MJ y0 y1 y2 y3 y6 y7 y8 y11 y12)) * (8:Nat)) (140737488355328:Nat)
def ae3:Int:=IntKind.wrap .i64 (y0 + (1:Int))
def ae4:Int:=bif aU y0 y2 then y1 else bif bQ y0 y2 then y1 else bif bR y0 y2 then y1 else bif bS y0 y2 then y1 else bif cu y0 y2 then y1 else bif gL y0 y2 then y1 else IntKind.wrap .i64 (y1 + (1:Int))
def ae5:List Int:=Iq y0 y2 y3++MJ y0 y1 y2 y3 y6 y7 y8 y11 y12
def ae6:List Int:=bif aU y0 y2 then y6 else y6
def ae7:List ByteArray:=bif aU y0 y2 then y7 else y7
def ae8:List ByteArray:=bif aU y0 y2 then y8 else y8
def ae9:List ByteArray:=bif aU y0 y2 then y9 else y9
end
def afa(y0:Int)(y2:List (Int×(ByteArray×Int)))(y10:List (ByteArray×(List (Int×(ByteArray×Int))))):List (ByteArray×(List (Int×(ByteArray×Int)))):=bif aU y0 y2 then y10 else y10
def afb(y0:Int)(y2:List (Int×(ByteArray×Int)))(y11:List Int):List Int:=bif aU y0 y2 then y11 else y11
def afc(y0 y1:Int)(y2:List (Int×(ByteArray×Int)))(y3:List Int)(y12:List (Int×(Int×Int))):List (Int×(Int×Int)):=bif aU y0 y2 then y12 else bif bQ y0 y2 then y12 else bif bR y0 y2 then y12 else bif bS y0 y2 then y12 else bif cu y0 y2 then y12 else bif gL y0 y2 then y12 else List.set y12 y1.toNat (iy ((dZ y0 y2).1) ((dZ y0 y2).2.2) ((lU y1 y12).1) (((lU y1 y12).2).1) ((lU y1 y12).2.2) (iG y0 y2 y3),iz ((dZ y0 y2).1) (((lU y1 y12).2).1) ((lU y1 y12).2.2) (iG y0 y2 y3),iA ((dZ y0 y2).1) ((dZ y0 y2).2.2) ((lU y1 y12).1) ((lU y1 y12).2.2) (iG y0 y2 y3))
def adS:tx→List (Nat×SV)
 |(y0,y1,_,_,_,_,_,_,_,_,_,_,_)=> [(12,(.one ⟨false,[.val (.int .i64 y0)]⟩)),(3,(.one ⟨false,[.ref 0]⟩)),(11,(.one ⟨false,[.ref 1]⟩)),(5,(.one ⟨false,[.ptr 2 0]⟩)),(6,(.one ⟨false,[.ptr 3 0]⟩)),(2,(.one ⟨false,[.ref 4]⟩)),(4,(.one ⟨false,[.val (.int .i64 y1)]⟩))]
def adI:tx→List (Nat×Entry)
 |(_,_,y2,y3,y4,y5,y6,y7,y8,y9,y10,y11,y12)=> [(0,(.row true 178 acD y2)),(2,(.box 63 [.val (.string y4),.ref 5,.ref 6,.ref 7,.val (.string y5),.ref 8])),(3,(.box 48 [.ref 9,.ref 10])),(4,(.row true 2 agR y6)),(5,(.row true 9 aih y7)),(6,(.row true 9 aih y8)),(7,(.row true 9 aih y9)),(8,(.row true 204 (CTy.pair CTy.str (CTy.sl (178:Nat) acD)) y10)),(9,(.row true 2 agR y11)),(10,(.row true 172 abM y12)),(1,(.row true 2 agR y3))]
def aec:Nat→tx→List (Nat×SV)
 |_,(_,_,_,_,_,_,_,_,_,_,_,_,_)=> [(11,(.one ⟨false,[.ref 1]⟩))]
def ad2:Nat→tx→List (Nat×Entry)
 |_,(_,_,y2,y3,y4,y5,y6,y7,y8,y9,y10,y11,y12)=> [(0,(.row true 178 acD y2)),(1,(.row true 2 agR y3)),(2,(.box 63 [.val (.string y4),.ref 5,.ref 6,.ref 7,.val (.string y5),.ref 8])),(3,(.box 48 [.ref 9,.ref 10])),(4,(.row true 2 agR y6)),(5,(.row true 9 aih y7)),(6,(.row true 9 aih y8)),(7,(.row true 9 aih y9)),(8,(.row true 204 (CTy.pair CTy.str (CTy.sl (178:Nat) acD)) y10)),(9,(.row true 2 agR y11)),(10,(.row true 172 abM y12))]
def aey:tx→LT tx
 |(y0,y1,y2,y3,y4,y5,y6,y7,y8,y9,y10,y11,y12)=> .ite (Vr y0 y2) (.need [agj y0,Vr y0 y2,agk y0 y2] (.need [Vs y0 y2 y3,Vt y0 y2 y3,agl y3,agm y0 y2 y3] (.need [agn,Vs y0 y2 y3,Vt y0 y2 y3,ago y0 y2 y3] (.need [agp y0 y2 y6 y7 y8 y11,aeL y0 y2,aeM y0 y2 y3,aeN y0 y2 y3,aeO y0 y2,aeP y0 y2 y3,aeQ y0 y2 y3,aeR y0 y2,aeS y0 y2 y3,aeT y0 y2 y3,aeU y0 y2,aeV y0 y2 y3,aeW y0 y2 y3,aeX y0 y2,aeY y0 y2 y3,aeZ y0 y2 y3,Us y0 y1 y2,Ut y0 y1 y2 y12,Uu y0 y1 y2 y12,ae0 y0 y2 y3,Us y0 y1 y2,Ut y0 y1 y2 y12,Uu y0 y1 y2 y12] (.need [ae1 y0 y1 y2 y3 y6 y7 y8 y11 y12,ae2 y0 y1 y2 y3 y6 y7 y8 y11 y12] (.nrm ((ae3 y0),ae4 y0 y1 y2,y2,ae5 y0 y1 y2 y3 y6 y7 y8 y11 y12,y4,y5,ae6 y0 y2 y6,ae7 y0 y2 y7,ae8 y0 y2 y8,ae9 y0 y2 y9,afa y0 y2 y10,afb y0 y2 y11,(afc y0 y1 y2 y3 y12)) [(0,0),(1,4544),(2,2),(3,3),(4,4),(5,5),(6,6),(7,7),(8,8),(9,9),(10,10)])))))) (.ext 0 [(0,0),(1,1),(2,2),(3,3),(4,4),(5,5),(6,6),(7,7),(8,8),(9,9),(10,10)])
def Oh(s:St):Option tx:=
 (match s.look 12 with
 |some ⟨none,.one ⟨false,[.val (.int .i64 y0)]⟩⟩=>
 (match s.look 3 with
 |some ⟨none,.one ⟨false,[.ref 7]⟩⟩=>
 (match s.look 11 with
 |some ⟨none,.one ⟨false,[.ref 768]⟩⟩=>
 (match s.look 5 with
 |some ⟨none,.one ⟨false,[.ptr 576 0]⟩⟩=>
 (match s.look 6 with
 |some ⟨none,.one ⟨false,[.ptr 640 0]⟩⟩=>
 (match s.look 2 with
 |some ⟨none,.one ⟨false,[.ref 6]⟩⟩=>
 (match s.look 4 with
 |some ⟨none,.one ⟨false,[.val (.int .i64 y1)]⟩⟩=>
 (match s.ent 7 with
 |some (.row true 178 (.pair (.int .i64) (.pair .str (.int .i64))) y2)=>
 (match s.ent 576 with
 |some (.box 63 [.val (.string y4),.ref 0,.ref 1,.ref 2,.val (.string y5),.ref 3])=>
 (match s.ent 640 with
 |some (.box 48 [.ref 4,.ref 5])=>
 (match s.ent 6 with
 |some (.row true 2 (.int .i64) y6)=>
 (match s.ent 0 with
 |some (.row true 9 (.str) y7)=>
 (match s.ent 1 with
 |some (.row true 9 (.str) y8)=>
 (match s.ent 2 with
 |some (.row true 9 (.str) y9)=>
 (match s.ent 3 with
 |some (.row true 204 (.pair .str (.sl (178:Nat) (.pair (.int .i64) (.pair .str (.int .i64))))) y10)=>
 (match s.ent 4 with
 |some (.row true 2 (.int .i64) y11)=>
 (match s.ent 5 with
 |some (.row true 172 (.pair (.int .i64) (.pair (.int .i64) (.int .i64))) y12)=>
 (match s.ent 768 with
 |some (.row true 2 (.int .i64) y3)=>
 some (y0,y1,y2,y3,y4,y5,y6,y7,y8,y9,y10,y11,y12)
 |_=>none)
 |_=>none)
 |_=>none)
 |_=>none)
 |_=>none)
 |_=>none)
 |_=>none)
 |_=>none)
 |_=>none)
 |_=>none)
 |_=>none)
 |_=>none)
 |_=>none)
 |_=>none)
 |_=>none)
 |_=>none)
 |_=>none)
 |_=>none)
def CN:Lp tx where
 h:=⟨[20,21,22,23,26,27,28,29,13,30,31,32,33,34,35,14,36,37,38,39,15,40,41,42,43,11,16,44,45,66,65,67,68,69,70,71,72,74,73,76,75,78,77,79,80,81,82,84,83,85,86,87,88,89,90,91,93,92,94,95,96,97,98,99,100,47,48,49,50,51,52,53,54,46,55,56,18,17,57,58,59,60,61,62,63,64,4,101,102,103,104,24,25,12],[0,2,3,4,5,6,7,8,9,10],[1],[]⟩
 JL:=adS
 JE:=adI
 XL:=aec
 XE:=ad2
 q:=fun j=>match j with | _=> .exit 0
 tags:= [0]
 lt:=aey
 fuel:=fun(y0,y1,y2,y3,y4,y5,y6,y7,y8,y9,y10,y11,y12)=>y0.natAbs + y1.natAbs + y2.length + y3.length + y4.size + y5.size + y6.length + y7.length + y8.length + y9.length + y10.length + y11.length + y12.length
 fix:=fun(_,_,y2,_,y4,y5,_,_,_,_,_,_,_) (y0,y1,_,y3,_,_,y6,y7,y8,y9,y10,y11,y12)=>(y0,y1,y2,y3,y4,y5,y6,y7,y8,y9,y10,y11,y12)
 σ:= [(0,7),(2,576),(3,640),(4,6),(5,0),(6,1),(7,2),(8,3),(9,4),(10,5),(1,768)]
 rd:=Oh
theorem abq:LoopOk prog (fun k=>Nat.blt k Tryz.f180.ntmps) CN.F (aL f180 0):=by
 refine Lp.ok (tbl:= [PF.mark prog,na,PF.lend na,PF.fz na,dD,PF.lend dD,PF.fz dD,pN,PF.lend pN,PF.fz pN,DW]) (lf:= []) aN CN (by kernel_rfl) (LOk.nil _) (fun _=>rfl) (fun _ _=>rfl) ?_ ?_ ?_ ?_ (fun _=>rfl) ?_
 ·rintro⟨y0,y1,y2,y3,y4,y5,y6,y7,y8,y9,y10,y11,y12⟩;kernel_rfl
 ·rintro⟨y0,y1,y2,y3,y4,y5,y6,y7,y8,y9,y10,y11,y12⟩;kernel_rfl
 ·intro s x h
  have h:Oh s=some x:=h
  unfold Oh at h
  repeat' split at h
  all_goals cases h
  exact⟨aa (by assumption) rfl (aa (by assumption) rfl (aa (by assumption) rfl (aa (by assumption) rfl (aa (by assumption) rfl (aa (by assumption) rfl (aa (by assumption) rfl (rfl))))))),ab rfl (by assumption) rfl (ab rfl (by assumption) rfl (ab rfl (by assumption) rfl (ab rfl (by assumption) rfl (ab rfl (by assumption) rfl (ab rfl (by assumption) rfl (ab rfl (by assumption) rfl (ab rfl (by assumption) rfl (ab rfl (by assumption) rfl (ab rfl (by assumption) rfl (ab rfl (by assumption) rfl (rfl)))))))))))⟩
 ·rintro⟨y0,y1,y2,y3,y4,y5,y6,y7,y8,y9,y10,y11,y12⟩;kernel_rfl
 ·rintro⟨y0,y1,y2,y3,y4,y5,y6,y7,y8,y9,y10,y11,y12⟩ z;exact(And.intro rfl trivial)
section
variable (x0 x1:ByteArray)(x2:Int)(x3 x4 x5:List ByteArray)(x6:List (ByteArray×List (Int×ByteArray×Int)))(x7:List Int)(x8:List (Int×Int×Int))(x9:List Int)(x10:List (Int×ByteArray×Int))
def YW:Int×Int×List (Int×ByteArray×Int)×List Int×ByteArray×ByteArray×List Int×List ByteArray×List ByteArray×List ByteArray×List (ByteArray×List (Int×ByteArray×Int))×List Int×List (Int×Int×Int):=((0:Int),x2,x10,[],x0,x1,x9,x3,x4,x5,x6,x7,x8)
def YX:List Int×ByteArray×ByteArray×List Int×List ByteArray×List ByteArray×List ByteArray×List (ByteArray×List (Int×ByteArray×Int))×List Int×List (Int×Int×Int):=(Lp.res CN (YW x0 x1 x2 x3 x4 x5 x6 x7 x8 x9 x10)).2.2.2.2
def SB:List Int:=(YX x0 x1 x2 x3 x4 x5 x6 x7 x8 x9 x10).1
def YY:List Int×List ByteArray×List ByteArray×List ByteArray×List (ByteArray×List (Int×ByteArray×Int))×List Int×List (Int×Int×Int):=(YX x0 x1 x2 x3 x4 x5 x6 x7 x8 x9 x10).2.2.2
def YZ:List ByteArray×List ByteArray×List ByteArray×List (ByteArray×List (Int×ByteArray×Int))×List Int×List (Int×Int×Int):=(YY x0 x1 x2 x3 x4 x5 x6 x7 x8 x9 x10).2
def Za:List ByteArray×List ByteArray×List (ByteArray×List (Int×ByteArray×Int))×List Int×List (Int×Int×Int):=(YZ x0 x1 x2 x3 x4 x5 x6 x7 x8 x9 x10).2
def Zb:List ByteArray×List (ByteArray×List (Int×ByteArray×Int))×List Int×List (Int×Int×Int):=(Za x0 x1 x2 x3 x4 x5 x6 x7 x8 x9 x10).2
def Zc:List (ByteArray×List (Int×ByteArray×Int))×List Int×List (Int×Int×Int):=(Zb x0 x1 x2 x3 x4 x5 x6 x7 x8 x9 x10).2
def Zd:List Int×List (Int×Int×Int):=(Zc x0 x1 x2 x3 x4 x5 x6 x7 x8 x9 x10).2
def ajS:Int:=Option.getD (SB x0 x1 x2 x3 x4 x5 x6 x7 x8 x9 x10)[Int.toNat (0:Int)]? (0:Int)
def ajT:List ByteArray:=(YZ x0 x1 x2 x3 x4 x5 x6 x7 x8 x9 x10).1
def ajU:List ByteArray:=(Za x0 x1 x2 x3 x4 x5 x6 x7 x8 x9 x10).1
def ajV:List ByteArray:=(Zb x0 x1 x2 x3 x4 x5 x6 x7 x8 x9 x10).1
def ajW:List (ByteArray×(List (Int×(ByteArray×Int)))):=(Zc x0 x1 x2 x3 x4 x5 x6 x7 x8 x9 x10).1
def ajX:List Int:=(Zd x0 x1 x2 x3 x4 x5 x6 x7 x8 x9 x10).1
def ajY:List (Int×(Int×Int)):=(Zd x0 x1 x2 x3 x4 x5 x6 x7 x8 x9 x10).2
def ajZ:List Int:=(YY x0 x1 x2 x3 x4 x5 x6 x7 x8 x9 x10).1
def aj0:Bool:=allT [Lp.fin CN (YW x0 x1 x2 x3 x4 x5 x6 x7 x8 x9 x10),ltI (0:Int) (↑(List.length (SB x0 x1 x2 x3 x4 x5 x6 x7 x8 x9 x10)):Int),ltN (Int.toNat (0:Int)) (List.length (SB x0 x1 x2 x3 x4 x5 x6 x7 x8 x9 x10))]
end
def aaa:List SV→List Entry→Option Out
 | [.one ⟨true,[.val (.string x0),.ref 0,.ref 1,.ref 2,.val (.string x1),.ref 3]⟩,.one ⟨true,[.ref 4,.ref 5]⟩,.one ⟨false,[.ref 6]⟩,.one ⟨false,[.ref 7]⟩,.one ⟨false,[.val (.int .i64 x2)]⟩],[.row true 9 (.str) x3,.row true 9 (.str) x4,.row true 9 (.str) x5,.row true 204 (.pair (.str) (.sl 178 (.pair (.int .i64) (.pair (.str) (.int .i64))))) x6,.row true 2 (.int .i64) x7,.row true 172 (.pair (.int .i64) (.pair (.int .i64) (.int .i64))) x8,.row true 2 (.int .i64) x9,.row true 178 (.pair (.int .i64) (.pair (.str) (.int .i64))) x10]=>some ⟨.one ⟨false,[.val (.int .i64 (ajS x0 x1 x2 x3 x4 x5 x6 x7 x8 x9 x10))]⟩,[.row true 9 aih (ajT x0 x1 x2 x3 x4 x5 x6 x7 x8 x9 x10),.row true 9 aih (ajU x0 x1 x2 x3 x4 x5 x6 x7 x8 x9 x10),.row true 9 aih (ajV x0 x1 x2 x3 x4 x5 x6 x7 x8 x9 x10),.row true 204 (CTy.pair CTy.str (CTy.sl (178:Nat) acD)) (ajW x0 x1 x2 x3 x4 x5 x6 x7 x8 x9 x10),.row true 2 agR (ajX x0 x1 x2 x3 x4 x5 x6 x7 x8 x9 x10),.row true 172 abM (ajY x0 x1 x2 x3 x4 x5 x6 x7 x8 x9 x10),.row true 2 agR (ajZ x0 x1 x2 x3 x4 x5 x6 x7 x8 x9 x10),.row true 178 acD x10],[],[aj0 x0 x1 x2 x3 x4 x5 x6 x7 x8 x9 x10]⟩
 |_,_=>none
def wi:PF prog:=PF.ofG prog [PF.mark prog,na,PF.lend na,PF.fz na,dD,PF.lend dD,PF.fz dD,pN,PF.lend pN,PF.fz pN,DW] [CN.F] aN 180 f180 func180 (LOk.fnT (l:= [aL f180 0]) (by kernel_rfl) (.cons abq (.nil _))) aaa (by
 intro vs es r h;unfold aaa at h;split at h
 ·cases h;kernel_rfl
 ·cases h)
abbrev lz:=Int×Int×List (Int×(ByteArray×Int))×List Int×ByteArray×ByteArray×List Int×List ByteArray×List ByteArray×List ByteArray×List (ByteArray×(List (Int×(ByteArray×Int))))×List Int×List (Int×(Int×Int))
section
variable (y0 y1:Int)(y2:List (Int×(ByteArray×Int)))(y3 y6:List Int)(y7 y8:List ByteArray)(y11:List Int)(y12:List (Int×(Int×Int)))
def br:Int×ByteArray×Int:=Option.getD y2[Int.toNat y0]? ((0:Int),ByteArray.empty,(0:Int))
def qb:Int:=IntKind.wrap .i64 ((↑y3.length:Int) - mu ((br y0 y2).1))
def ch:List Int:=List.drop (Int.toNat (qb y0 y2 y3)) (List.take (Int.toNat (↑y3.length:Int)) y3)
def qc:List Int:=List.drop (Int.toNat (0:Int)) (List.take (Int.toNat (qb y0 y2 y3)) y3)
def ax:Bool:=(br y0 y2).1==(1:Int)
def aG:Bool:=(br y0 y2).1==(2:Int)
def aH:Bool:=(br y0 y2).1==(3:Int)
def aI:Bool:=(br y0 y2).1==(4:Int)
def iZ:Bool:=ltI (0:Int) (↑(List.length (ch y0 y2 y3)):Int)
def ja:Bool:=ltN (Int.toNat (0:Int)) (List.length (ch y0 y2 y3))
def aP:Bool:=(br y0 y2).1==(5:Int)
def pq:Bool:=ltI (1:Int) (↑(List.length (ch y0 y2 y3)):Int)
def pt:Bool:=ltN (Int.toNat (1:Int)) (List.length (ch y0 y2 y3))
def bT:Bool:=(br y0 y2).1==(6:Int)
def sZ:Int:=Option.getD (ch y0 y2 y3)[Int.toNat (0:Int)]? (0:Int)
def du:Int×Int×Int:=Option.getD y12[Int.toNat y1]? ((0:Int),(0:Int),(0:Int))
def bf:List Int:= [bif ax y0 y2 then rW (((br y0 y2).2).1) y7 y8 y11 y6 else bif aG y0 y2 then(1:Int)else bif aH y0 y2 then(0:Int)else bif aI y0 y2 then IntKind.wrap .i64 ((1:Int) - sZ y0 y2 y3)else bif aP y0 y2 then IntKind.wrap .i64 (↑(BitVec.toNat (BitVec.ofInt (IntKind.bits IntKind.i64) (sZ y0 y2 y3)&&& BitVec.ofInt (IntKind.bits IntKind.i64) (Option.getD (ch y0 y2 y3)[Int.toNat (1:Int)]? (0:Int)))):Int)else bif bT y0 y2 then IntKind.wrap .i64 (↑(BitVec.toNat (BitVec.ofInt (IntKind.bits IntKind.i64) (sZ y0 y2 y3)||| BitVec.ofInt (IntKind.bits IntKind.i64) (Option.getD (ch y0 y2 y3)[Int.toNat (1:Int)]? (0:Int)))):Int)else gG ((br y0 y2).1) ((br y0 y2).2.2) ((du y1 y12).1) (((du y1 y12).2).1) ((du y1 y12).2.2) (ch y0 y2 y3)]
def dW:Bool:=ltI y0 (↑y2.length:Int)
def lA:Bool:=leI (0:Int) y0
def lB:Bool:=ltN y0.toNat y2.length
def jP:Bool:=leI (0:Int) (qb y0 y2 y3)
def jQ:Bool:=leI (qb y0 y2 y3) (↑y3.length:Int)
def lC:Bool:=leI (↑y3.length:Int) (↑y3.length:Int)
def lD:Bool:=leN (List.length (ch y0 y2 y3)) (1048576:Nat)
end
def lE:Bool:=leI (0:Int) (0:Int)
section
variable (y0 y1:Int)(y2:List (Int×(ByteArray×Int)))(y3 y6:List Int)(y7 y8:List ByteArray)(y11:List Int)(y12:List (Int×(Int×Int)))
def lF:Bool:=leN (List.length (qc y0 y2 y3)) (1048576:Nat)
def lG:Bool:= !ax y0 y2||rX (((br y0 y2).2).1) y7 y8 y11 y6
def kx:Bool:=ax y0 y2||(aG y0 y2||(aH y0 y2||(!aI y0 y2||leI (0:Int) (0:Int))))
def ky:Bool:=ax y0 y2||(aG y0 y2||(aH y0 y2||(!aI y0 y2||iZ y0 y2 y3)))
def kz:Bool:=ax y0 y2||(aG y0 y2||(aH y0 y2||(!aI y0 y2||ja y0 y2 y3)))
def kA:Bool:=ax y0 y2||(aG y0 y2||(aH y0 y2||(aI y0 y2||(!aP y0 y2||leI (0:Int) (0:Int)))))
def kB:Bool:=ax y0 y2||(aG y0 y2||(aH y0 y2||(aI y0 y2||(!aP y0 y2||iZ y0 y2 y3))))
def kC:Bool:=ax y0 y2||(aG y0 y2||(aH y0 y2||(aI y0 y2||(!aP y0 y2||ja y0 y2 y3))))
def kD:Bool:=ax y0 y2||(aG y0 y2||(aH y0 y2||(aI y0 y2||(!aP y0 y2||leI (0:Int) (1:Int)))))
def kE:Bool:=ax y0 y2||(aG y0 y2||(aH y0 y2||(aI y0 y2||(!aP y0 y2||pq y0 y2 y3))))
def kF:Bool:=ax y0 y2||(aG y0 y2||(aH y0 y2||(aI y0 y2||(!aP y0 y2||pt y0 y2 y3))))
def kG:Bool:=ax y0 y2||(aG y0 y2||(aH y0 y2||(aI y0 y2||(aP y0 y2||(!bT y0 y2||leI (0:Int) (0:Int))))))
def kH:Bool:=ax y0 y2||(aG y0 y2||(aH y0 y2||(aI y0 y2||(aP y0 y2||(!bT y0 y2||iZ y0 y2 y3)))))
def kI:Bool:=ax y0 y2||(aG y0 y2||(aH y0 y2||(aI y0 y2||(aP y0 y2||(!bT y0 y2||ja y0 y2 y3)))))
def kJ:Bool:=ax y0 y2||(aG y0 y2||(aH y0 y2||(aI y0 y2||(aP y0 y2||(!bT y0 y2||leI (0:Int) (1:Int))))))
def kK:Bool:=ax y0 y2||(aG y0 y2||(aH y0 y2||(aI y0 y2||(aP y0 y2||(!bT y0 y2||pq y0 y2 y3)))))
def kL:Bool:=ax y0 y2||(aG y0 y2||(aH y0 y2||(aI y0 y2||(aP y0 y2||(!bT y0 y2||pt y0 y2 y3)))))
def iT:Bool:=ax y0 y2||(aG y0 y2||(aH y0 y2||(aI y0 y2||(aP y0 y2||(bT y0 y2||leI (0:Int) y1)))))
def iU:Bool:=ax y0 y2||(aG y0 y2||(aH y0 y2||(aI y0 y2||(aP y0 y2||(bT y0 y2||ltI y1 (↑y12.length:Int))))))
def iV:Bool:=ax y0 y2||(aG y0 y2||(aH y0 y2||(aI y0 y2||(aP y0 y2||(bT y0 y2||ltN y1.toNat y12.length)))))
def kM:Bool:=ax y0 y2||(aG y0 y2||(aH y0 y2||(aI y0 y2||(aP y0 y2||(bT y0 y2||kj (ch y0 y2 y3))))))
def kN:Bool:=leN (List.length (qc y0 y2 y3) + List.length (bf y0 y1 y2 y3 y6 y7 y8 y11 y12)) (9223372036854775807:Nat)
def kO:Bool:=leN ((List.length (qc y0 y2 y3) + List.length (bf y0 y1 y2 y3 y6 y7 y8 y11 y12)) * (8:Nat)) (140737488355328:Nat)
def iW:Int:=IntKind.wrap .i64 (y0 + (1:Int))
def bK:Int:=bif ax y0 y2 then y1 else bif aG y0 y2 then y1 else bif aH y0 y2 then y1 else bif aI y0 y2 then y1 else bif aP y0 y2 then y1 else bif bT y0 y2 then y1 else IntKind.wrap .i64 (y1 + (1:Int))
def iX:List Int:=qc y0 y2 y3++bf y0 y1 y2 y3 y6 y7 y8 y11 y12
def iY:List Int:=bif ax y0 y2 then y11 else y11
def bL:List (Int×(Int×Int)):=bif ax y0 y2 then y12 else bif aG y0 y2 then y12 else bif aH y0 y2 then y12 else bif aI y0 y2 then y12 else bif aP y0 y2 then y12 else bif bT y0 y2 then y12 else List.set y12 y1.toNat (iy ((br y0 y2).1) ((br y0 y2).2.2) ((du y1 y12).1) (((du y1 y12).2).1) ((du y1 y12).2.2) (ch y0 y2 y3),iz ((br y0 y2).1) (((du y1 y12).2).1) ((du y1 y12).2.2) (ch y0 y2 y3),iA ((br y0 y2).1) ((br y0 y2).2.2) ((du y1 y12).1) ((du y1 y12).2.2) (ch y0 y2 y3))
end
def VA:lz→List (Nat×SV)
 |(y0,y1,_,_,_,_,_,_,_,_,_,_,_)=> [(12,(.one ⟨false,[.val (.int .i64 y0)]⟩)),(3,(.one ⟨false,[.ref 0]⟩)),(11,(.one ⟨false,[.ref 1]⟩)),(5,(.one ⟨false,[.ptr 2 0]⟩)),(6,(.one ⟨false,[.ptr 3 0]⟩)),(2,(.one ⟨false,[.ref 4]⟩)),(4,(.one ⟨false,[.val (.int .i64 y1)]⟩))]
def Vy:lz→List (Nat×Entry)
 |(_,_,y2,y3,y4,y5,y6,y7,y8,y9,y10,y11,y12)=> [(0,(.row false 178 acD y2)),(2,(.box 63 [.val (.string y4),.ref 5,.ref 6,.ref 7,.val (.string y5),.ref 8])),(3,(.box 48 [.ref 9,.ref 10])),(4,(.row false 2 agR y6)),(5,(.row false 9 aih y7)),(6,(.row false 9 aih y8)),(7,(.row false 9 aih y9)),(8,(.row false 204 (CTy.pair CTy.str (CTy.sl (178:Nat) acD)) y10)),(9,(.row true 2 agR y11)),(10,(.row true 172 abM y12)),(1,(.row true 2 agR y3))]
def VE:Nat→lz→List (Nat×SV)
 |_,(_,_,_,_,_,_,_,_,_,_,_,_,_)=> [(11,(.one ⟨false,[.ref 1]⟩))]
def VC:Nat→lz→List (Nat×Entry)
 |_,(_,_,y2,y3,y4,y5,y6,y7,y8,y9,y10,y11,y12)=> [(0,(.row false 178 acD y2)),(1,(.row true 2 agR y3)),(2,(.box 63 [.val (.string y4),.ref 5,.ref 6,.ref 7,.val (.string y5),.ref 8])),(3,(.box 48 [.ref 9,.ref 10])),(4,(.row false 2 agR y6)),(5,(.row false 9 aih y7)),(6,(.row false 9 aih y8)),(7,(.row false 9 aih y9)),(8,(.row false 204 (CTy.pair CTy.str (CTy.sl (178:Nat) acD)) y10)),(9,(.row true 2 agR y11)),(10,(.row true 172 abM y12))]
def eQ:lz→LT lz
 |(y0,y1,y2,y3,y4,y5,y6,y7,y8,y9,y10,y11,y12)=> .ite (dW y0 y2) (.need [lA y0,dW y0 y2,lB y0 y2] (.need [jP y0 y2 y3,jQ y0 y2 y3,lC y3,lD y0 y2 y3] (.need [lE,jP y0 y2 y3,jQ y0 y2 y3,lF y0 y2 y3] (.need [lG y0 y2 y6 y7 y8 y11,kx y0 y2,ky y0 y2 y3,kz y0 y2 y3,kA y0 y2,kB y0 y2 y3,kC y0 y2 y3,kD y0 y2,kE y0 y2 y3,kF y0 y2 y3,kG y0 y2,kH y0 y2 y3,kI y0 y2 y3,kJ y0 y2,kK y0 y2 y3,kL y0 y2 y3,iT y0 y1 y2,iU y0 y1 y2 y12,iV y0 y1 y2 y12,kM y0 y2 y3,iT y0 y1 y2,iU y0 y1 y2 y12,iV y0 y1 y2 y12] (.need [kN y0 y1 y2 y3 y6 y7 y8 y11 y12,kO y0 y1 y2 y3 y6 y7 y8 y11 y12] (.nrm ((iW y0),bK y0 y1 y2,y2,iX y0 y1 y2 y3 y6 y7 y8 y11 y12,y4,y5,y6,y7,y8,y9,y10,iY y0 y2 y11,(bL y0 y1 y2 y3 y12)) [(0,0),(1,4544),(2,2),(3,3),(4,4),(5,5),(6,6),(7,7),(8,8),(9,9),(10,10)])))))) (.ext 0 [(0,0),(1,1),(2,2),(3,3),(4,4),(5,5),(6,6),(7,7),(8,8),(9,9),(10,10)])
def Fy(s:St):Option lz:=
 (match s.look 12 with
 |some ⟨none,.one ⟨false,[.val (.int .i64 y0)]⟩⟩=>
 (match s.look 3 with
 |some ⟨none,.one ⟨false,[.ref 7]⟩⟩=>
 (match s.look 11 with
 |some ⟨none,.one ⟨false,[.ref 768]⟩⟩=>
 (match s.look 5 with
 |some ⟨none,.one ⟨false,[.ptr 576 0]⟩⟩=>
 (match s.look 6 with
 |some ⟨none,.one ⟨false,[.ptr 640 0]⟩⟩=>
 (match s.look 2 with
 |some ⟨none,.one ⟨false,[.ref 6]⟩⟩=>
 (match s.look 4 with
 |some ⟨none,.one ⟨false,[.val (.int .i64 y1)]⟩⟩=>
 (match s.ent 7 with
 |some (.row false 178 (.pair (.int .i64) (.pair .str (.int .i64))) y2)=>
 (match s.ent 576 with
 |some (.box 63 [.val (.string y4),.ref 0,.ref 1,.ref 2,.val (.string y5),.ref 3])=>
 (match s.ent 640 with
 |some (.box 48 [.ref 4,.ref 5])=>
 (match s.ent 6 with
 |some (.row false 2 (.int .i64) y6)=>
 (match s.ent 0 with
 |some (.row false 9 (.str) y7)=>
 (match s.ent 1 with
 |some (.row false 9 (.str) y8)=>
 (match s.ent 2 with
 |some (.row false 9 (.str) y9)=>
 (match s.ent 3 with
 |some (.row false 204 (.pair .str (.sl (178:Nat) (.pair (.int .i64) (.pair .str (.int .i64))))) y10)=>
 (match s.ent 4 with
 |some (.row true 2 (.int .i64) y11)=>
 (match s.ent 5 with
 |some (.row true 172 (.pair (.int .i64) (.pair (.int .i64) (.int .i64))) y12)=>
 (match s.ent 768 with
 |some (.row true 2 (.int .i64) y3)=>
 some (y0,y1,y2,y3,y4,y5,y6,y7,y8,y9,y10,y11,y12)
 |_=>none)
 |_=>none)
 |_=>none)
 |_=>none)
 |_=>none)
 |_=>none)
 |_=>none)
 |_=>none)
 |_=>none)
 |_=>none)
 |_=>none)
 |_=>none)
 |_=>none)
 |_=>none)
 |_=>none)
 |_=>none)
 |_=>none)
 |_=>none)
def aW:Lp lz where
 h:=⟨[20,21,22,23,26,27,28,29,13,30,31,32,33,34,35,14,36,37,38,39,15,40,41,42,43,11,16,44,45,66,65,67,68,69,70,71,72,74,73,76,75,78,77,79,80,81,82,84,83,85,86,87,88,89,90,91,93,92,94,95,96,97,98,99,100,47,48,49,50,51,52,53,54,46,55,56,18,17,57,58,59,60,61,62,63,64,4,101,102,103,104,24,25,12],[0,2,3,4,5,6,7,8,9,10],[1],[]⟩
 JL:=VA
 JE:=Vy
 XL:=VE
 XE:=VC
 q:=fun j=>match j with | _=> .exit 0
 tags:= [0]
 lt:=eQ
 fuel:=fun(y0,y1,y2,y3,y4,y5,y6,y7,y8,y9,y10,y11,y12)=>y0.natAbs + y1.natAbs + y2.length + y3.length + y4.size + y5.size + y6.length + y7.length + y8.length + y9.length + y10.length + y11.length + y12.length
 fix:=fun(_,_,y2,_,y4,y5,y6,y7,y8,y9,y10,_,_) (y0,y1,_,y3,_,_,_,_,_,_,_,y11,y12)=>(y0,y1,y2,y3,y4,y5,y6,y7,y8,y9,y10,y11,y12)
 σ:= [(0,7),(2,576),(3,640),(4,6),(5,0),(6,1),(7,2),(8,3),(9,4),(10,5),(1,768)]
 rd:=Fy
theorem TV:LoopOk prog (fun k=>Nat.blt k Tryz.f180.ntmps) aW.F (aL f180 0):=by
 refine Lp.ok (tbl:= [PF.mark prog,na,PF.lend na,PF.fz na,dD,PF.lend dD,PF.fz dD,pN,PF.lend pN,PF.fz pN,DW]) (lf:= []) aN aW (by kernel_rfl) (LOk.nil _) (fun _=>rfl) (fun _ _=>rfl) ?_ ?_ ?_ ?_ (fun _=>rfl) ?_
 ·rintro⟨y0,y1,y2,y3,y4,y5,y6,y7,y8,y9,y10,y11,y12⟩;kernel_rfl
 ·rintro⟨y0,y1,y2,y3,y4,y5,y6,y7,y8,y9,y10,y11,y12⟩;kernel_rfl
 ·intro s x h
  have h:Fy s=some x:=h
  unfold Fy at h
  repeat' split at h
  all_goals cases h
  exact⟨aa (by assumption) rfl (aa (by assumption) rfl (aa (by assumption) rfl (aa (by assumption) rfl (aa (by assumption) rfl (aa (by assumption) rfl (aa (by assumption) rfl (rfl))))))),ab rfl (by assumption) rfl (ab rfl (by assumption) rfl (ab rfl (by assumption) rfl (ab rfl (by assumption) rfl (ab rfl (by assumption) rfl (ab rfl (by assumption) rfl (ab rfl (by assumption) rfl (ab rfl (by assumption) rfl (ab rfl (by assumption) rfl (ab rfl (by assumption) rfl (ab rfl (by assumption) rfl (rfl)))))))))))⟩
 ·rintro⟨y0,y1,y2,y3,y4,y5,y6,y7,y8,y9,y10,y11,y12⟩;kernel_rfl
 ·rintro⟨y0,y1,y2,y3,y4,y5,y6,y7,y8,y9,y10,y11,y12⟩ z;exact(And.intro rfl trivial)
section
variable (x0 x1:ByteArray)(x2:Int)(x3 x4 x5:List ByteArray)(x6:List (ByteArray×List (Int×ByteArray×Int)))(x7:List Int)(x8:List (Int×Int×Int))(x9:List Int)(x10:List (Int×ByteArray×Int))
def tO:Int×Int×List (Int×ByteArray×Int)×List Int×ByteArray×ByteArray×List Int×List ByteArray×List ByteArray×List ByteArray×List (ByteArray×List (Int×ByteArray×Int))×List Int×List (Int×Int×Int):=((0:Int),x2,x10,[],x0,x1,x9,x3,x4,x5,x6,x7,x8)
def xH:List Int×ByteArray×ByteArray×List Int×List ByteArray×List ByteArray×List ByteArray×List (ByteArray×List (Int×ByteArray×Int))×List Int×List (Int×Int×Int):=(Lp.res aW (tO x0 x1 x2 x3 x4 x5 x6 x7 x8 x9 x10)).2.2.2.2
def xI:List Int:=(xH x0 x1 x2 x3 x4 x5 x6 x7 x8 x9 x10).1
def DK:List Int×List (Int×Int×Int):=(xH x0 x1 x2 x3 x4 x5 x6 x7 x8 x9 x10).2.2.2.2.2.2.2.2
def Fc:Int:=Option.getD (xI x0 x1 x2 x3 x4 x5 x6 x7 x8 x9 x10)[Int.toNat (0:Int)]? (0:Int)
def Fd:List Int:=(DK x0 x1 x2 x3 x4 x5 x6 x7 x8 x9 x10).1
def Fe:List (Int×(Int×Int)):=(DK x0 x1 x2 x3 x4 x5 x6 x7 x8 x9 x10).2
def Ff:Bool:=allT [Lp.fin aW (tO x0 x1 x2 x3 x4 x5 x6 x7 x8 x9 x10),ltI (0:Int) (↑(List.length (xI x0 x1 x2 x3 x4 x5 x6 x7 x8 x9 x10)):Int),ltN (Int.toNat (0:Int)) (List.length (xI x0 x1 x2 x3 x4 x5 x6 x7 x8 x9 x10))]
end
def RJ:List SV→List Entry→Option Out
 | [.one ⟨true,[.val (.string x0),.ref 0,.ref 1,.ref 2,.val (.string x1),.ref 3]⟩,.one ⟨true,[.ref 4,.ref 5]⟩,.one ⟨false,[.ref 6]⟩,.one ⟨false,[.ref 7]⟩,.one ⟨false,[.val (.int .i64 x2)]⟩],[.row false 9 (.str) x3,.row false 9 (.str) x4,.row false 9 (.str) x5,.row false 204 (.pair .str (.sl (178:Nat) (.pair (.int .i64) (.pair .str (.int .i64))))) x6,.row true 2 (.int .i64) x7,.row true 172 (.pair (.int .i64) (.pair (.int .i64) (.int .i64))) x8,.row false 2 (.int .i64) x9,.row false 178 (.pair (.int .i64) (.pair .str (.int .i64))) x10]=>some ⟨.one ⟨false,[.val (.int .i64 (Fc x0 x1 x2 x3 x4 x5 x6 x7 x8 x9 x10))]⟩,[.row false 9 aih x3,.row false 9 aih x4,.row false 9 aih x5,.row false 204 (CTy.pair CTy.str (CTy.sl (178:Nat) acD)) x6,.row true 2 agR (Fd x0 x1 x2 x3 x4 x5 x6 x7 x8 x9 x10),.row true 172 abM (Fe x0 x1 x2 x3 x4 x5 x6 x7 x8 x9 x10),.row false 2 agR x9,.row false 178 acD x10],[],[Ff x0 x1 x2 x3 x4 x5 x6 x7 x8 x9 x10]⟩
 |_,_=>none
def mA:PF prog:=PF.ofG prog [PF.mark prog,na,PF.lend na,PF.fz na,dD,PF.lend dD,PF.fz dD,pN,PF.lend pN,PF.fz pN,DW] [aW.F] aN 180 f180 func180 (LOk.fnT (l:= [aL f180 0]) (by kernel_rfl) (.cons TV (.nil _))) RJ (by
 intro vs es r h;unfold RJ at h;split at h
 ·cases h;kernel_rfl
 ·cases h)
abbrev pc:=Int×Int×Int×ByteArray×ByteArray×List ByteArray×List ByteArray×List ByteArray×List (ByteArray×(List (Int×(ByteArray×Int))))
def xJ(y1:Int)(y8:List (ByteArray×(List (Int×(ByteArray×Int))))):List (Int×ByteArray×Int):=(Option.getD y8[Int.toNat y1]? (rY (CTy.pair CTy.str (CTy.sl (178:Nat) acD)))).2
def Fh(y1:Int):Bool:=leI (0:Int) y1
def Fi(y1:Int)(y8:List (ByteArray×(List (Int×(ByteArray×Int))))):Bool:=ltI y1 (↑y8.length:Int)
def Fj(y1:Int)(y8:List (ByteArray×(List (Int×(ByteArray×Int))))):Bool:=ltN y1.toNat y8.length
def vA(y0 y1:Int)(y8:List (ByteArray×(List (Int×(ByteArray×Int))))):Bool:=ltI y0 (↑(List.length (xJ y1 y8)):Int)
def RU(y0:Int):Bool:=leI (0:Int) y0
def RW(y0 y1:Int)(y8:List (ByteArray×(List (Int×(ByteArray×Int))))):Bool:=ltN y0.toNat (List.length (xJ y1 y8))
def RX(y0:Int):Int:=IntKind.wrap .i64 (y0 + (1:Int))
def Ll(y0 y1 y2:Int)(y8:List (ByteArray×(List (Int×(ByteArray×Int))))):Int:=bif leI (7:Int) ((Option.getD (xJ y1 y8)[Int.toNat y0]? ((0:Int),ByteArray.empty,(0:Int))).1)then IntKind.wrap .i64 (y2 + (1:Int))else y2
def Zn:pc→List (Nat×SV)
 |(y0,y1,y2,_,_,_,_,_,_)=> [(14,(.one ⟨false,[.val (.int .i64 y0)]⟩)),(3,(.one ⟨false,[.ptr 0 0]⟩)),(11,(.one ⟨false,[.val (.int .i64 y1)]⟩)),(10,(.one ⟨false,[.val (.int .i64 y2)]⟩))]
def Zi:pc→List (Nat×Entry)
 |(_,_,_,y3,y4,y5,y6,y7,y8)=> [(0,(.box 63 [.val (.string y3),.ref 1,.ref 2,.ref 3,.val (.string y4),.ref 4])),(1,(.row false 9 aih y5)),(2,(.row false 9 aih y6)),(3,(.row false 9 aih y7)),(4,(.row false 204 (CTy.pair CTy.str (CTy.sl (178:Nat) acD)) y8))]
def Zx:Nat→pc→List (Nat×SV)
 |_,(_,_,y2,_,_,_,_,_,_)=> [(10,(.one ⟨false,[.val (.int .i64 y2)]⟩))]
def Zs:Nat→pc→List (Nat×Entry)
 |_,(_,_,_,y3,y4,y5,y6,y7,y8)=> [(0,(.box 63 [.val (.string y3),.ref 1,.ref 2,.ref 3,.val (.string y4),.ref 4])),(1,(.row false 9 aih y5)),(2,(.row false 9 aih y6)),(3,(.row false 9 aih y7)),(4,(.row false 204 (CTy.pair CTy.str (CTy.sl (178:Nat) acD)) y8))]
def xB:pc→LT pc
 |(y0,y1,y2,y3,y4,y5,y6,y7,y8)=> .need [Fh y1,Fi y1 y8,Fj y1 y8] (.ite (vA y0 y1 y8) (.need [Fh y1,Fi y1 y8,Fj y1 y8,RU y0,vA y0 y1 y8,RW y0 y1 y8] (.nrm ((RX y0),y1,Ll y0 y1 y2 y8,y3,y4,y5,y6,y7,y8) [(0,0),(1,1),(2,2),(3,3),(4,4)])) (.ext 0 [(0,0),(1,1),(2,2),(3,3),(4,4)]))
def Js(s:St):Option pc:=
 (match s.look 14 with
 |some ⟨none,.one ⟨false,[.val (.int .i64 y0)]⟩⟩=>
 (match s.look 3 with
 |some ⟨none,.one ⟨false,[.ptr 0 0]⟩⟩=>
 (match s.look 11 with
 |some ⟨none,.one ⟨false,[.val (.int .i64 y1)]⟩⟩=>
 (match s.look 10 with
 |some ⟨none,.one ⟨false,[.val (.int .i64 y2)]⟩⟩=>
 (match s.ent 0 with
 |some (.box 63 [.val (.string y3),.ref 4,.ref 5,.ref 6,.val (.string y4),.ref 7])=>
 (match s.ent 4 with
 |some (.row false 9 (.str) y5)=>
 (match s.ent 5 with
 |some (.row false 9 (.str) y6)=>
 (match s.ent 6 with
 |some (.row false 9 (.str) y7)=>
 (match s.ent 7 with
 |some (.row false 204 (.pair .str (.sl (178:Nat) (.pair (.int .i64) (.pair .str (.int .i64))))) y8)=>
 some (y0,y1,y2,y3,y4,y5,y6,y7,y8)
 |_=>none)
 |_=>none)
 |_=>none)
 |_=>none)
 |_=>none)
 |_=>none)
 |_=>none)
 |_=>none)
 |_=>none)
def fB:Lp pc where
 h:=⟨[67,68,69,70,71,72,73,74,75,78,79,80,81,82,83,84,85,86,87,88,89,90,10,76,77,14],[0,1,2,3,4],[],[]⟩
 JL:=Zn
 JE:=Zi
 XL:=Zx
 XE:=Zs
 q:=fun j=>match j with | _=> .exit 2
 tags:= [0]
 lt:=xB
 fuel:=fun(y0,y1,y2,y3,y4,y5,y6,y7,y8)=>y0.natAbs + y1.natAbs + y2.natAbs + y3.size + y4.size + y5.length + y6.length + y7.length + y8.length
 fix:=fun(_,y1,_,y3,y4,y5,y6,y7,y8) (y0,_,y2,_,_,_,_,_,_)=>(y0,y1,y2,y3,y4,y5,y6,y7,y8)
 σ:= [(0,0),(1,4),(2,5),(3,6),(4,7)]
 rd:=Js
theorem WV:LoopOk prog (memN [21,22,23,24,25,28,29,30,31,32,33,34,35,36,37,38,12,39,40,41,42,43,44,45,46,47,13,48,49,50,51,52,53,54,55,56,57,58,59,60,61,62,63,64,65,66,14,67,68,69,70,71,72,73,74,75,78,79,80,81,82,83,84,85,86,87,88,89,90,10,76,77,26,27,11]) fB.F (abi (aL f113 0) 0):=by
 refine Lp.ok (tbl:= [bV,PF.lend bV,PF.fz bV,yC,PF.lend yC,PF.fz yC,wi,PF.lend wi,PF.fz wi,dD,PF.lend dD,PF.fz dD,mA,PF.lend mA,PF.fz mA]) (lf:= []) aN fB (by kernel_rfl) (LOk.nil _) (fun _=>rfl) (fun _ _=>rfl) ?_ ?_ ?_ ?_ (fun _=>rfl) ?_
 ·rintro⟨y0,y1,y2,y3,y4,y5,y6,y7,y8⟩;kernel_rfl
 ·rintro⟨y0,y1,y2,y3,y4,y5,y6,y7,y8⟩;kernel_rfl
 ·intro s x h
  have h:Js s=some x:=h
  unfold Js at h
  repeat' split at h
  all_goals cases h
  exact⟨aa (by assumption) rfl (aa (by assumption) rfl (aa (by assumption) rfl (aa (by assumption) rfl (rfl)))),ab rfl (by assumption) rfl (ab rfl (by assumption) rfl (ab rfl (by assumption) rfl (ab rfl (by assumption) rfl (ab rfl (by assumption) rfl (rfl)))))⟩
 ·rintro⟨y0,y1,y2,y3,y4,y5,y6,y7,y8⟩;kernel_rfl
 ·rintro⟨y0,y1,y2,y3,y4,y5,y6,y7,y8⟩ z;exact(And.intro rfl trivial)
abbrev tz:=Int×Int×ByteArray×ByteArray×List Int×List Int×List ByteArray×List ByteArray×List ByteArray×List (ByteArray×(List (Int×(ByteArray×Int))))×List Int×List (Int×(Int×Int))
def OD(y0:Int)(y9:List (ByteArray×(List (Int×(ByteArray×Int))))):Bool:=ltI y0 (↑y9.length:Int)
def OE(y0:Int)(y9:List (ByteArray×(List (Int×(ByteArray×Int))))):Bool:=ltN y0.toNat y9.length
def rM(y0:Int)(y9:List (ByteArray×(List (Int×(ByteArray×Int))))):ByteArray×List (Int×ByteArray×Int):=Option.getD y9[Int.toNat y0]? (rY (CTy.pair CTy.str (CTy.sl (178:Nat) acD)))
def dj(y0:Int)(y7:List ByteArray)(y9:List (ByteArray×(List (Int×(ByteArray×Int))))):Int:=iQ y7 ((rM y0 y9).1)
def yo(y0 y1:Int)(y2 y3:ByteArray)(y4:List Int)(y6 y7 y8:List ByteArray)(y9:List (ByteArray×(List (Int×(ByteArray×Int)))))(y10:List Int)(y11:List (Int×(Int×Int))):List Int:=Fd y2 y3 y1 y6 y7 y8 y9 y10 y11 y4 ((rM y0 y9).2)
def yp(y0:Int)(y8:List ByteArray)(y9:List (ByteArray×(List (Int×(ByteArray×Int))))):Int:=iQ y8 ((rM y0 y9).1)
def OG(y0 y1:Int)(y2 y3:ByteArray)(y6 y7 y8:List ByteArray)(y9:List (ByteArray×(List (Int×(ByteArray×Int))))):Int×Int×Int×ByteArray×ByteArray×List ByteArray×List ByteArray×List ByteArray×List (ByteArray×List (Int×ByteArray×Int)):=((0:Int),y0,y1,y2,y3,y6,y7,y8,y9)
def Ir(y0 y1:Int)(y2 y3:ByteArray)(y4:List Int)(y6 y7 y8:List ByteArray)(y9:List (ByteArray×(List (Int×(ByteArray×Int)))))(y10:List Int)(y11:List (Int×(Int×Int))):Int:=Fc y2 y3 y1 y6 y7 y8 y9 y10 y11 y4 ((rM y0 y9).2)
def Fg(y0:Int)(y9:List (ByteArray×(List (Int×(ByteArray×Int))))):Bool:=OD y0 y9
def Qh(y0:Int):Bool:=leI (0:Int) y0
def Qi(y0:Int)(y9:List (ByteArray×(List (Int×(ByteArray×Int))))):Bool:=OE y0 y9
def Qj(y0 y1:Int)(y2 y3:ByteArray)(y4:List Int)(y6 y7 y8:List ByteArray)(y9:List (ByteArray×(List (Int×(ByteArray×Int)))))(y10:List Int)(y11:List (Int×(Int×Int))):Bool:=Ff y2 y3 y1 y6 y7 y8 y9 y10 y11 y4 ((rM y0 y9).2)
def Vu(y7:List ByteArray):Bool:=leN y7.length (9223372036854775807:Nat)
def Qk(y0:Int)(y7:List ByteArray)(y9:List (ByteArray×(List (Int×(ByteArray×Int))))):Bool:= !leI (0:Int) (dj y0 y7 y9)||leI (0:Int) (dj y0 y7 y9)
def Ql(y0 y1:Int)(y2 y3:ByteArray)(y4:List Int)(y6 y7 y8:List ByteArray)(y9:List (ByteArray×(List (Int×(ByteArray×Int)))))(y10:List Int)(y11:List (Int×(Int×Int))):Bool:= !leI (0:Int) (dj y0 y7 y9)||ltI (dj y0 y7 y9) (↑(List.length (yo y0 y1 y2 y3 y4 y6 y7 y8 y9 y10 y11)):Int)
def Qm(y0 y1:Int)(y2 y3:ByteArray)(y4:List Int)(y6 y7 y8:List ByteArray)(y9:List (ByteArray×(List (Int×(ByteArray×Int)))))(y10:List Int)(y11:List (Int×(Int×Int))):Bool:= !leI (0:Int) (dj y0 y7 y9)||ltN (Int.toNat (dj y0 y7 y9)) (List.length (yo y0 y1 y2 y3 y4 y6 y7 y8 y9 y10 y11))
def Qn(y0:Int)(y7:List ByteArray)(y9:List (ByteArray×(List (Int×(ByteArray×Int))))):Bool:=leI (0:Int) (dj y0 y7 y9)||leI (0:Int) y0
def Qo(y0:Int)(y7:List ByteArray)(y9:List (ByteArray×(List (Int×(ByteArray×Int))))):Bool:=leI (0:Int) (dj y0 y7 y9)||OD y0 y9
def Ou(y0:Int)(y7:List ByteArray)(y9:List (ByteArray×(List (Int×(ByteArray×Int))))):Bool:=leI (0:Int) (dj y0 y7 y9)||OE y0 y9
def Ov(y0:Int)(y7 y8:List ByteArray)(y9:List (ByteArray×(List (Int×(ByteArray×Int))))):Bool:=leI (0:Int) (dj y0 y7 y9)||leN y8.length (9223372036854775807:Nat)
def Ow(y0:Int)(y7 y8:List ByteArray)(y9:List (ByteArray×(List (Int×(ByteArray×Int))))):Bool:=leI (0:Int) (dj y0 y7 y9)||leI (0:Int) (yp y0 y8 y9)
def Ox(y0:Int)(y5:List Int)(y7 y8:List ByteArray)(y9:List (ByteArray×(List (Int×(ByteArray×Int))))):Bool:=leI (0:Int) (dj y0 y7 y9)||ltI (yp y0 y8 y9) (↑y5.length:Int)
def Oy(y0:Int)(y5:List Int)(y7 y8:List ByteArray)(y9:List (ByteArray×(List (Int×(ByteArray×Int))))):Bool:=leI (0:Int) (dj y0 y7 y9)||ltN (Int.toNat (yp y0 y8 y9)) y5.length
def UC(y0 y1:Int)(y2 y3:ByteArray)(y6 y7 y8:List ByteArray)(y9:List (ByteArray×(List (Int×(ByteArray×Int))))):Bool:=Lp.fin fB (OG y0 y1 y2 y3 y6 y7 y8 y9)
def UD(y0:Int):Int:=IntKind.wrap .i64 (y0 + (1:Int))
def Oz(y0 y1:Int)(y2 y3:ByteArray)(y6 y7 y8:List ByteArray)(y9:List (ByteArray×(List (Int×(ByteArray×Int))))):Int:=((Lp.res fB (OG y0 y1 y2 y3 y6 y7 y8 y9)).2.2.2).1
def OA(y0 y1:Int)(y2 y3:ByteArray)(y4 y5:List Int)(y6 y7 y8:List ByteArray)(y9:List (ByteArray×(List (Int×(ByteArray×Int)))))(y10:List Int)(y11:List (Int×(Int×Int))):List Int:=bif leI (0:Int) (dj y0 y7 y9)then y5 else List.set y5 (Int.toNat (yp y0 y8 y9)) (Ir y0 y1 y2 y3 y4 y6 y7 y8 y9 y10 y11)
def OB(y0 y1:Int)(y2 y3:ByteArray)(y4:List Int)(y6 y7 y8:List ByteArray)(y9:List (ByteArray×(List (Int×(ByteArray×Int)))))(y10:List Int)(y11:List (Int×(Int×Int))):List Int:=bif leI (0:Int) (dj y0 y7 y9)then List.set (yo y0 y1 y2 y3 y4 y6 y7 y8 y9 y10 y11) (Int.toNat (dj y0 y7 y9)) (Ir y0 y1 y2 y3 y4 y6 y7 y8 y9 y10 y11)else yo y0 y1 y2 y3 y4 y6 y7 y8 y9 y10 y11
def OC(y0 y1:Int)(y2 y3:ByteArray)(y4:List Int)(y6 y7 y8:List ByteArray)(y9:List (ByteArray×(List (Int×(ByteArray×Int)))))(y10:List Int)(y11:List (Int×(Int×Int))):List (Int×(Int×Int)):=Fe y2 y3 y1 y6 y7 y8 y9 y10 y11 y4 ((rM y0 y9).2)
def adT:tz→List (Nat×SV)
 |(y0,y1,_,_,_,_,_,_,_,_,_,_)=> [(11,(.one ⟨false,[.val (.int .i64 y0)]⟩)),(3,(.one ⟨false,[.ptr 0 0]⟩)),(8,(.one ⟨false,[.ptr 1 0]⟩)),(2,(.one ⟨false,[.ref 2]⟩)),(10,(.one ⟨false,[.val (.int .i64 y1)]⟩)),(9,(.one ⟨false,[.ref 3]⟩))]
def adJ:tz→List (Nat×Entry)
 |(_,_,y2,y3,y4,y5,y6,y7,y8,y9,y10,y11)=> [(0,(.box 63 [.val (.string y2),.ref 4,.ref 5,.ref 6,.val (.string y3),.ref 7])),(1,(.box 48 [.ref 8,.ref 9])),(2,(.row false 2 agR y4)),(3,(.row true 2 agR y5)),(4,(.row false 9 aih y6)),(5,(.row false 9 aih y7)),(6,(.row false 9 aih y8)),(7,(.row false 204 (CTy.pair CTy.str (CTy.sl (178:Nat) acD)) y9)),(8,(.row true 2 agR y10)),(9,(.row true 172 abM y11))]
def aed:Nat→tz→List (Nat×SV)
 |_,(_,_,_,_,_,_,_,_,_,_,_,_)=> []
def ad3:Nat→tz→List (Nat×Entry)
 |_,(_,_,y2,y3,y4,y5,y6,y7,y8,y9,y10,y11)=> [(0,(.box 63 [.val (.string y2),.ref 4,.ref 5,.ref 6,.val (.string y3),.ref 7])),(1,(.box 48 [.ref 8,.ref 9])),(2,(.row false 2 agR y4)),(3,(.row true 2 agR y5)),(4,(.row false 9 aih y6)),(5,(.row false 9 aih y7)),(6,(.row false 9 aih y8)),(7,(.row false 204 (CTy.pair CTy.str (CTy.sl (178:Nat) acD)) y9)),(8,(.row true 2 agR y10)),(9,(.row true 172 abM y11))]
def CW:tz→LT tz
 |(y0,y1,y2,y3,y4,y5,y6,y7,y8,y9,y10,y11)=> .ite (Fg y0 y9) (.need [Qh y0,Fg y0 y9,Qi y0 y9,Qj y0 y1 y2 y3 y4 y6 y7 y8 y9 y10 y11] (.need [Qh y0,Fg y0 y9,Qi y0 y9,Vu y7] (.need [Qk y0 y7 y9,Ql y0 y1 y2 y3 y4 y6 y7 y8 y9 y10 y11,Qm y0 y1 y2 y3 y4 y6 y7 y8 y9 y10 y11,Qn y0 y7 y9,Qo y0 y7 y9,Ou y0 y7 y9,Ov y0 y7 y8 y9,Ow y0 y7 y8 y9,Ox y0 y5 y7 y8 y9,Oy y0 y5 y7 y8 y9] (.need [UC y0 y1 y2 y3 y6 y7 y8 y9] (.nrm ((UD y0),Oz y0 y1 y2 y3 y6 y7 y8 y9,y2,y3,y4,OA y0 y1 y2 y3 y4 y5 y6 y7 y8 y9 y10 y11,y6,y7,y8,y9,OB y0 y1 y2 y3 y4 y6 y7 y8 y9 y10 y11,(OC y0 y1 y2 y3 y4 y6 y7 y8 y9 y10 y11)) [(0,0),(1,1),(2,2),(3,3),(4,4),(5,5),(6,6),(7,7),(8,8),(9,9)]))))) (.ext 0 [(0,0),(1,1),(2,2),(3,3),(4,4),(5,5),(6,6),(7,7),(8,8),(9,9)])
def Oi(s:St):Option tz:=
 (match s.look 11 with
 |some ⟨none,.one ⟨false,[.val (.int .i64 y0)]⟩⟩=>
 (match s.look 3 with
 |some ⟨none,.one ⟨false,[.ptr 512 0]⟩⟩=>
 (match s.look 8 with
 |some ⟨none,.one ⟨false,[.ptr 896 0]⟩⟩=>
 (match s.look 2 with
 |some ⟨none,.one ⟨false,[.ref 6]⟩⟩=>
 (match s.look 10 with
 |some ⟨none,.one ⟨false,[.val (.int .i64 y1)]⟩⟩=>
 (match s.look 9 with
 |some ⟨none,.one ⟨false,[.ref 1216]⟩⟩=>
 (match s.ent 512 with
 |some (.box 63 [.val (.string y2),.ref 0,.ref 1,.ref 2,.val (.string y3),.ref 3])=>
 (match s.ent 896 with
 |some (.box 48 [.ref 832,.ref 833])=>
 (match s.ent 6 with
 |some (.row false 2 (.int .i64) y4)=>
 (match s.ent 1216 with
 |some (.row true 2 (.int .i64) y5)=>
 (match s.ent 0 with
 |some (.row false 9 (.str) y6)=>
 (match s.ent 1 with
 |some (.row false 9 (.str) y7)=>
 (match s.ent 2 with
 |some (.row false 9 (.str) y8)=>
 (match s.ent 3 with
 |some (.row false 204 (.pair .str (.sl (178:Nat) (.pair (.int .i64) (.pair .str (.int .i64))))) y9)=>
 (match s.ent 832 with
 |some (.row true 2 (.int .i64) y10)=>
 (match s.ent 833 with
 |some (.row true 172 (.pair (.int .i64) (.pair (.int .i64) (.int .i64))) y11)=>
 some (y0,y1,y2,y3,y4,y5,y6,y7,y8,y9,y10,y11)
 |_=>none)
 |_=>none)
 |_=>none)
 |_=>none)
 |_=>none)
 |_=>none)
 |_=>none)
 |_=>none)
 |_=>none)
 |_=>none)
 |_=>none)
 |_=>none)
 |_=>none)
 |_=>none)
 |_=>none)
 |_=>none)
def iF:Lp tz where
 h:=⟨[21,22,23,24,25,28,29,30,31,32,33,34,35,36,37,38,12,39,40,41,42,43,44,45,46,47,13,48,49,50,51,52,53,54,55,56,57,58,59,60,61,62,63,64,65,66,14,67,68,69,70,71,72,73,74,75,78,79,80,81,82,83,84,85,86,87,88,89,90,10,76,77,26,27,11],[0,1,2,3,4,5,6,7,8,9],[],[]⟩
 JL:=adT
 JE:=adJ
 XL:=aed
 XE:=ad3
 q:=fun j=>match j with | _=> .exit 0
 tags:= [0]
 lt:=CW
 fuel:=fun(y0,y1,y2,y3,y4,y5,y6,y7,y8,y9,y10,y11)=>y0.natAbs + y1.natAbs + y2.size + y3.size + y4.length + y5.length + y6.length + y7.length + y8.length + y9.length + y10.length + y11.length
 fix:=fun(_,_,y2,y3,y4,_,y6,y7,y8,y9,_,_) (y0,y1,_,_,_,y5,_,_,_,_,y10,y11)=>(y0,y1,y2,y3,y4,y5,y6,y7,y8,y9,y10,y11)
 σ:= [(0,512),(1,896),(2,6),(3,1216),(4,0),(5,1),(6,2),(7,3),(8,832),(9,833)]
 rd:=Oi
theorem abr:LoopOk prog (fun k=>Nat.blt k Tryz.f113.ntmps) iF.F (aL f113 0):=by
 refine Lp.ok (tbl:= [bV,PF.lend bV,PF.fz bV,yC,PF.lend yC,PF.fz yC,wi,PF.lend wi,PF.fz wi,dD,PF.lend dD,PF.fz dD,mA,PF.lend mA,PF.fz mA]) (lf:= [fB.F]) aN iF (by kernel_rfl) (LOk.allT (l:= [abi (aL f113 0) 0]) (by kernel_rfl) (.cons WV (.nil _))) (fun _=>rfl) (fun _ _=>rfl) ?_ ?_ ?_ ?_ (fun _=>rfl) ?_
 ·rintro⟨y0,y1,y2,y3,y4,y5,y6,y7,y8,y9,y10,y11⟩;kernel_rfl
 ·rintro⟨y0,y1,y2,y3,y4,y5,y6,y7,y8,y9,y10,y11⟩;kernel_rfl
 ·intro s x h
  have h:Oi s=some x:=h
  unfold Oi at h
  repeat' split at h
  all_goals cases h
  exact⟨aa (by assumption) rfl (aa (by assumption) rfl (aa (by assumption) rfl (aa (by assumption) rfl (aa (by assumption) rfl (aa (by assumption) rfl (rfl)))))),ab rfl (by assumption) rfl (ab rfl (by assumption) rfl (ab rfl (by assumption) rfl (ab rfl (by assumption) rfl (ab rfl (by assumption) rfl (ab rfl (by assumption) rfl (ab rfl (by assumption) rfl (ab rfl (by assumption) rfl (ab rfl (by assumption) rfl (ab rfl (by assumption) rfl (rfl))))))))))⟩
 ·rintro⟨y0,y1,y2,y3,y4,y5,y6,y7,y8,y9,y10,y11⟩;kernel_rfl
 ·rintro⟨y0,y1,y2,y3,y4,y5,y6,y7,y8,y9,y10,y11⟩ z;exact(And.intro rfl trivial)
def DX(x1:ByteArray):Bool:=
 !ByteArray.toList x1==ByteArray.toList { data:= #[] }
section
variable (x0 x1:ByteArray)(x2 x3 x4:List ByteArray)(x5:List (ByteArray×List (Int×ByteArray×Int)))(x6:List Int)(x7:List (Int×Int×Int))(x8:List Int)
def NC:List Int:=List.replicate (Int.toNat (↑x4.length:Int)) (0:Int)
def II:Int×Int×ByteArray×ByteArray×List Int×List Int×List ByteArray×List ByteArray×List ByteArray×List (ByteArray×List (Int×ByteArray×Int))×List Int×List (Int×Int×Int):=((0:Int),(0:Int),x0,x1,x8,NC x4,x2,x3,x4,x5,x6,x7)
def ND:List Int×List ByteArray×List ByteArray×List ByteArray×List (ByteArray×List (Int×ByteArray×Int))×List Int×List (Int×Int×Int):=(Lp.res iF (II x0 x1 x2 x3 x4 x5 x6 x7 x8)).2.2.2.2.2.2
def NE:List Int×List (Int×Int×Int):=(ND x0 x1 x2 x3 x4 x5 x6 x7 x8).2.2.2.2.2
def DY:List Int:=(NE x0 x1 x2 x3 x4 x5 x6 x7 x8).1
def ue:Bool:=bif DX x1 then rW x1 x2 x3 (DY x0 x1 x2 x3 x4 x5 x6 x7 x8) x8==(0:Int)else false
def NF:List Int:=bif DX x1&&true then DY x0 x1 x2 x3 x4 x5 x6 x7 x8 else DY x0 x1 x2 x3 x4 x5 x6 x7 x8
def NG:List (Int×Int×Int):=(NE x0 x1 x2 x3 x4 x5 x6 x7 x8).2
def NH:List (Int×Int×Int):=bif DX x1&&true then NG x0 x1 x2 x3 x4 x5 x6 x7 x8 else NG x0 x1 x2 x3 x4 x5 x6 x7 x8
def Rs:Bool:=leI (↑x4.length:Int) (↑x4.length:Int)
def Rt:Bool:=leI ((↑(8:Nat):Int) * (↑x4.length:Int)) (281474976710656:Int)
def Uy:List Int:=bif ue x0 x1 x2 x3 x4 x5 x6 x7 x8 then NC x4 else (ND x0 x1 x2 x3 x4 x5 x6 x7 x8).1
def Uz:List Int:=bif ue x0 x1 x2 x3 x4 x5 x6 x7 x8 then NF x0 x1 x2 x3 x4 x5 x6 x7 x8 else NF x0 x1 x2 x3 x4 x5 x6 x7 x8
def UA:List (Int×(Int×Int)):=bif ue x0 x1 x2 x3 x4 x5 x6 x7 x8 then NH x0 x1 x2 x3 x4 x5 x6 x7 x8 else NH x0 x1 x2 x3 x4 x5 x6 x7 x8
def UB:Bool:=allT [RB x6 x7,leI (0:Int) (↑x4.length:Int),Rs x4,Rt x4,leI (↑x4.length:Int) (9223372036854775807:Int),Lp.fin iF (II x0 x1 x2 x3 x4 x5 x6 x7 x8),!(DX x1&&true)||rX x1 x2 x3 (DY x0 x1 x2 x3 x4 x5 x6 x7 x8) x8,!ue x0 x1 x2 x3 x4 x5 x6 x7 x8||leI (0:Int) (↑x4.length:Int),!ue x0 x1 x2 x3 x4 x5 x6 x7 x8||Rs x4,!ue x0 x1 x2 x3 x4 x5 x6 x7 x8||Rt x4,!ue x0 x1 x2 x3 x4 x5 x6 x7 x8||leI (↑x4.length:Int) (9223372036854775807:Int)]
end
def aab:List SV→List Entry→Option Out
 | [.one ⟨true,[.val (.string x0),.ref 0,.ref 1,.ref 2,.val (.string x1),.ref 3]⟩,.one ⟨true,[.ref 4,.ref 5]⟩,.one ⟨false,[.ref 6]⟩],[.row false 9 (.str) x2,.row false 9 (.str) x3,.row false 9 (.str) x4,.row false 204 (.pair (.str) (.sl 178 (.pair (.int .i64) (.pair (.str) (.int .i64))))) x5,.row false 2 (.int .i64) x6,.row false 172 (.pair (.int .i64) (.pair (.int .i64) (.int .i64))) x7,.row false 2 (.int .i64) x8]=>some ⟨.tup [⟨false,[.ref 7]⟩,⟨true,[.ref 8,.ref 9]⟩],[.row false 9 aih x2,.row false 9 aih x3,.row false 9 aih x4,.row false 204 (CTy.pair CTy.str (CTy.sl (178:TypeId) acD)) x5,.row false 2 agR x6,.row false 172 abM x7,.row false 2 agR x8],[.row true 2 agR (Uy x0 x1 x2 x3 x4 x5 x6 x7 x8),.row true 2 agR (Uz x0 x1 x2 x3 x4 x5 x6 x7 x8),.row true 172 abM (UA x0 x1 x2 x3 x4 x5 x6 x7 x8)],[UB x0 x1 x2 x3 x4 x5 x6 x7 x8]⟩
 |_,_=>none
def ajH:PF prog:=PF.ofG prog [bV,PF.lend bV,PF.fz bV,yC,PF.lend yC,PF.fz yC,wi,PF.lend wi,PF.fz wi,dD,PF.lend dD,PF.fz dD,mA,PF.lend mA,PF.fz mA] [iF.F] aN 113 f113 func113 (LOk.fnT (l:= [aL f113 0]) (by kernel_rfl) (.cons abr (.nil _))) aab (by
 intro vs es r h;unfold aab at h;split at h
 ·cases h;kernel_rfl
 ·cases h)
def ln(x0:List Int)(x1:List (Int×Int×Int)):Bool:=allT [leN x0.length (1048576:Nat),leN x1.length (1048576:Nat)]
def xc:List SV→List Entry→Option Out
 | [.one ⟨true,[.ref 0,.ref 1]⟩],[.row false 2 (.int .i64) x0,.row false 172 (.pair (.int .i64) (.pair (.int .i64) (.int .i64))) x1]=>some ⟨.one ⟨true,[.ref 2,.ref 3]⟩,[.row false 2 agR x0,.row false 172 abM x1],[.row true 2 agR x0,.row true 172 abM x1],[ln x0 x1]⟩
 |_,_=>none
def xD:PF prog:=PF.ofG prog [CZ,PF.lend CZ,PF.fz CZ,xZ,PF.lend xZ,PF.fz xZ] [] aN 176 f176 func176 (fun c _=>LOk.nil c) xc (by
 intro vs es r h;unfold xc at h;split at h
 ·cases h;kernel_rfl
 ·cases h)
def zT(x0:List Int)(x3:List ByteArray):Bool:= !bitsB (↑x3.length:Int) x0
def GC(x0:List Int):Bool:=allT [leN x0.length (9223372036854775807:Nat)]
def OI:List SV→List Entry→Option Out
 | [.one ⟨false,[.ref 0]⟩,.one ⟨false,[.ptr 1 0]⟩],[.row false 2 (.int .i64) x0,.box 63 [.val (.string x1),.ref 2,.ref 3,.ref 4,.val (.string x2),.ref 5],.row false 9 (.str) x3,.row false 9 (.str) x4,.row false 9 (.str) x5,.row false 204 (.pair .str (.sl (178:Nat) (.pair (.int .i64) (.pair .str (.int .i64))))) x6]=>some ⟨.one ⟨false,[.val (.bool (zT x0 x3))]⟩,[.row false 2 agR x0,.box 63 [.val (.string x1),.ref 2,.ref 3,.ref 4,.val (.string x2),.ref 5],.row false 9 aih x3,.row false 9 aih x4,.row false 9 aih x5,.row false 204 (CTy.pair CTy.str (CTy.sl (178:Nat) acD)) x6],[],[GC x0]⟩
 |_,_=>none
def qW:PF prog:=PF.ofG prog [wd,PF.lend wd,PF.fz wd] [] aN 175 f175 func175 (fun c _=>LOk.nil c) OI (by
 intro vs es r h;unfold OI at h;split at h
 ·cases h;kernel_rfl
 ·cases h)
abbrev bt:=Int×Int×ByteArray×ByteArray×List (List Int)×List ByteArray×List ByteArray×List ByteArray×List (ByteArray×(List (Int×(ByteArray×Int))))
section
variable (y0 y1:Int)(y4:List (List Int))(y5:List ByteArray)
def cq:List Int:=Option.getD y4[Int.toNat y0]? (rY (CTy.sl (2:Nat) agR))
def iI:Bool:=ltI y0 y1
def mb:Bool:=leI (0:Int) y0
def mc:Bool:=ltI y0 (↑y4.length:Int)
def md:Bool:=ltN y0.toNat y4.length
def iJ:Bool:=GC (cq y0 y4)
def iK:Bool:=zT (cq y0 y4) y5
def qS:Int:=IntKind.wrap .i64 (y0 + (1:Int))
end
def IZ:bt→List (Nat×SV)
 |(y0,y1,_,_,_,_,_,_,_)=> [(8,(.one ⟨false,[.val (.int .i64 y0)]⟩)),(7,(.one ⟨false,[.val (.int .i64 y1)]⟩)),(1,(.one ⟨false,[.clo 175 [0]]⟩)),(0,(.one ⟨false,[.ref 1]⟩))]
def IY:bt→List (Nat×Entry)
 |(_,_,y2,y3,y4,y5,y6,y7,y8)=> [(0,(.box 63 [.val (.string y2),.ref 2,.ref 3,.ref 4,.val (.string y3),.ref 5])),(1,(.row false 41 (CTy.sl (2:Nat) agR) y4)),(2,(.row false 9 aih y5)),(3,(.row false 9 aih y6)),(4,(.row false 9 aih y7)),(5,(.row false 204 (CTy.pair CTy.str (CTy.sl (178:Nat) acD)) y8))]
def Jc:Nat→bt→List (Nat×SV)
 |0,(y0,_,_,_,_,_,_,_,_)=> [(4,(.one ⟨false,[.val (.int .i64 y0)]⟩))]
 |_,(_,_,_,_,_,_,_,_,_)=> []
def Jb:Nat→bt→List (Nat×Entry)
 |0,(_,_,y2,y3,y4,y5,y6,y7,y8)=> [(0,(.box 63 [.val (.string y2),.ref 2,.ref 3,.ref 4,.val (.string y3),.ref 5])),(1,(.row false 41 (CTy.sl (2:Nat) agR) y4)),(2,(.row false 9 aih y5)),(3,(.row false 9 aih y6)),(4,(.row false 9 aih y7)),(5,(.row false 204 (CTy.pair CTy.str (CTy.sl (178:Nat) acD)) y8))]
 |_,(_,_,y2,y3,y4,y5,y6,y7,y8)=> [(0,(.box 63 [.val (.string y2),.ref 2,.ref 3,.ref 4,.val (.string y3),.ref 5])),(1,(.row false 41 (CTy.sl (2:Nat) agR) y4)),(2,(.row false 9 aih y5)),(3,(.row false 9 aih y6)),(4,(.row false 9 aih y7)),(5,(.row false 204 (CTy.pair CTy.str (CTy.sl (178:Nat) acD)) y8))]
def io:bt→LT bt
 |(y0,y1,y2,y3,y4,y5,y6,y7,y8)=> .ite (iI y0 y1) (.need [mb y0,mc y0 y4,md y0 y4,iJ y0 y4] (.ite (iK y0 y4 y5) (.ext 0 [(0,0),(1,1),(2,2),(3,3),(4,4),(5,5)]) (.nrm ((qS y0),y1,y2,y3,y4,y5,y6,y7,y8) [(0,0),(1,1),(2,2),(3,3),(4,4),(5,5)]))) (.ext 1 [(0,0),(1,1),(2,2),(3,3),(4,4),(5,5)])
def qt(s:St):Option bt:=
 (match s.look 8 with
 |some ⟨none,.one ⟨false,[.val (.int .i64 y0)]⟩⟩=>
 (match s.look 7 with
 |some ⟨none,.one ⟨false,[.val (.int .i64 y1)]⟩⟩=>
 (match s.look 1 with
 |some ⟨none,.one ⟨false,[.clo 175 [1]]⟩⟩=>
 (match s.look 0 with
 |some ⟨none,.one ⟨false,[.ref 0]⟩⟩=>
 (match s.ent 1 with
 |some (.box 63 [.val (.string y2),.ref 2,.ref 3,.ref 4,.val (.string y3),.ref 5])=>
 (match s.ent 0 with
 |some (.row false 41 (.sl 2 (.int .i64)) y4)=>
 (match s.ent 2 with
 |some (.row false 9 (.str) y5)=>
 (match s.ent 3 with
 |some (.row false 9 (.str) y6)=>
 (match s.ent 4 with
 |some (.row false 9 (.str) y7)=>
 (match s.ent 5 with
 |some (.row false 204 (.pair .str (.sl (178:Nat) (.pair (.int .i64) (.pair .str (.int .i64))))) y8)=>
 some (y0,y1,y2,y3,y4,y5,y6,y7,y8)
 |_=>none)
 |_=>none)
 |_=>none)
 |_=>none)
 |_=>none)
 |_=>none)
 |_=>none)
 |_=>none)
 |_=>none)
 |_=>none)
def aq:Lp bt where
 h:=⟨[9,10,5,11,12,13,14,15,16,17,4,18,8],[0,1,2,3,4,5],[],[]⟩
 JL:=IZ
 JE:=IY
 XL:=Jc
 XE:=Jb
 q:=fun j=>match j with | 0=> .ret | _=> .exit 0
 tags:= [0,1]
 lt:=io
 fuel:=fun(y0,y1,y2,y3,y4,y5,y6,y7,y8)=>y0.natAbs + y1.natAbs + y2.size + y3.size + y4.length + y5.length + y6.length + y7.length + y8.length
 fix:=fun(_,y1,y2,y3,y4,y5,y6,y7,y8) (y0,_,_,_,_,_,_,_,_)=>(y0,y1,y2,y3,y4,y5,y6,y7,y8)
 σ:= [(0,1),(1,0),(2,2),(3,3),(4,4),(5,5)]
 rd:=qt
theorem HX:LoopOk prog (fun k=>Nat.blt k Tryz.f217.ntmps) aq.F (aL f217 0):=by
 refine Lp.ok (tbl:= [qW,PF.lend qW,PF.fz qW]) (lf:= []) aN aq (by kernel_rfl) (LOk.nil _) (fun _=>rfl) (fun j _=>by unfold aq;match j with | 0=>rfl | _ + 1=>rfl) ?_ ?_ ?_ ?_ (fun _=>rfl) ?_
 ·rintro⟨y0,y1,y2,y3,y4,y5,y6,y7,y8⟩;kernel_rfl
 ·rintro⟨y0,y1,y2,y3,y4,y5,y6,y7,y8⟩;kernel_rfl
 ·intro s x h
  have h:qt s=some x:=h
  unfold qt at h
  repeat' split at h
  all_goals cases h
  exact⟨aa (by assumption) rfl (aa (by assumption) rfl (aa (by assumption) rfl (aa (by assumption) rfl (rfl)))),ab rfl (by assumption) rfl (ab rfl (by assumption) rfl (ab rfl (by assumption) rfl (ab rfl (by assumption) rfl (ab rfl (by assumption) rfl (ab rfl (by assumption) rfl (rfl))))))⟩
 ·rintro⟨y0,y1,y2,y3,y4,y5,y6,y7,y8⟩;kernel_rfl
 ·rintro⟨y0,y1,y2,y3,y4,y5,y6,y7,y8⟩ z;exact(And.intro (And.intro trivial rfl) trivial)
section
variable (x0:List (List Int))(x1 x2:ByteArray)(x3 x4 x5:List ByteArray)(x6:List (ByteArray×List (Int×ByteArray×Int)))
def jO:Int×Int×ByteArray×ByteArray×List (List Int)×List ByteArray×List ByteArray×List ByteArray×List (ByteArray×List (Int×ByteArray×Int)):=((0:Int),(↑x0.length:Int),x1,x2,x0,x3,x4,x5,x6)
def nI:Bool:=Nat.beq ((Lp.res aq (jO x0 x1 x2 x3 x4 x5 x6)).1) (0:Nat)
def tj:Int:=bif nI x0 x1 x2 x3 x4 x5 x6 then ((Lp.res aq (jO x0 x1 x2 x3 x4 x5 x6)).2).1else(-1:Int)
def Bz:ByteArray:=bif nI x0 x1 x2 x3 x4 x5 x6 then x1 else x1
def BA:ByteArray:=bif nI x0 x1 x2 x3 x4 x5 x6 then x2 else x2
def tn:Bool:=allT [Lp.fin aq (jO x0 x1 x2 x3 x4 x5 x6)]
end
def Ar:List SV→List Entry→Option Out
 | [.one ⟨false,[.ref 0]⟩,.one ⟨false,[.clo 175 [1]]⟩],[.row false 41 (.sl 2 (.int .i64)) x0,.box 63 [.val (.string x1),.ref 2,.ref 3,.ref 4,.val (.string x2),.ref 5],.row false 9 (.str) x3,.row false 9 (.str) x4,.row false 9 (.str) x5,.row false 204 (.pair .str (.sl (178:Nat) (.pair (.int .i64) (.pair .str (.int .i64))))) x6]=>some ⟨.one ⟨false,[.val (.int .i64 (tj x0 x1 x2 x3 x4 x5 x6))]⟩,[.row false 41 (CTy.sl (2:Nat) agR) x0,.box 63 [.val (.string (Bz x0 x1 x2 x3 x4 x5 x6)),.ref 2,.ref 3,.ref 4,.val (.string (BA x0 x1 x2 x3 x4 x5 x6)),.ref 5],.row false 9 aih x3,.row false 9 aih x4,.row false 9 aih x5,.row false 204 (CTy.pair CTy.str (CTy.sl (178:Nat) acD)) x6],[],[tn x0 x1 x2 x3 x4 x5 x6]⟩
 |_,_=>none
def ti:PF prog:=PF.ofG prog [qW,PF.lend qW,PF.fz qW] [aq.F] aN 217 f217 func217 (LOk.fnT (l:= [aL f217 0]) (by kernel_rfl) (.cons HX (.nil _))) Ar (by
 intro vs es r h;unfold Ar at h;split at h
 ·cases h;kernel_rfl
 ·cases h)
section
variable (x0:List (List Int))(x1 x2:ByteArray)(x3 x4 x5:List ByteArray)(x6:List (ByteArray×List (Int×ByteArray×Int)))
def lZ:Bool:=leI (0:Int) (tj x0 x1 x2 x3 x4 x5 x6)
def Kj:ByteArray:=Bz x0 x1 x2 x3 x4 x5 x6
def Kk:ByteArray:=BA x0 x1 x2 x3 x4 x5 x6
def ma:Bool:=allT [tn x0 x1 x2 x3 x4 x5 x6]
end
def yu:List SV→List Entry→Option Out
 | [.one ⟨false,[.ref 0]⟩,.one ⟨false,[.clo 175 [1]]⟩],[.row false 41 (.sl 2 (.int .i64)) x0,.box 63 [.val (.string x1),.ref 2,.ref 3,.ref 4,.val (.string x2),.ref 5],.row false 9 (.str) x3,.row false 9 (.str) x4,.row false 9 (.str) x5,.row false 204 (.pair .str (.sl (178:Nat) (.pair (.int .i64) (.pair .str (.int .i64))))) x6]=>some ⟨.one ⟨false,[.val (.bool (lZ x0 x1 x2 x3 x4 x5 x6))]⟩,[.row false 41 (CTy.sl (2:Nat) agR) x0,.box 63 [.val (.string (Kj x0 x1 x2 x3 x4 x5 x6)),.ref 2,.ref 3,.ref 4,.val (.string (Kk x0 x1 x2 x3 x4 x5 x6)),.ref 5],.row false 9 aih x3,.row false 9 aih x4,.row false 9 aih x5,.row false 204 (CTy.pair CTy.str (CTy.sl (178:Nat) acD)) x6],[],[ma x0 x1 x2 x3 x4 x5 x6]⟩
 |_,_=>none
def qR:PF prog:=PF.ofG prog [ti,PF.lend ti,PF.fz ti] [] aN 163 f163 func163 (fun c _=>LOk.nil c) yu (by
 intro vs es r h;unfold yu at h;split at h
 ·cases h;kernel_rfl
 ·cases h)
def Sg(x0 x1:ByteArray)(x2 x3 x4:List ByteArray)(x5:List (ByteArray×List (Int×ByteArray×Int)))(x6:List Int)(x7:List (Int×Int×Int))(x8:List (List Int)):Int:=bif !nb x0 x2 x3 x4 x1 x5 then(1:Int)else bif bif !Hg (↑x3.length:Int) (blL x5) x6 x7 then true else lZ x8 x0 x1 x2 x3 x4 x5 then(2:Int)else(0:Int)
def Sh(x0 x1:ByteArray)(x2 x3 x4:List ByteArray)(x5:List (ByteArray×List (Int×ByteArray×Int)))(x6:List Int)(x7:List (Int×Int×Int))(x8:List (List Int)):Bool:=allT [prOk x0 x2 x3 x4 x1 x5,!nb x0 x2 x3 x4 x1 x5||YT x5,!nb x0 x2 x3 x4 x1 x5||leN x6.length (9223372036854775807:Nat)&&(leN (List.length (blL x5)) (9223372036854775807:Nat)&&adf (blL x5)),!nb x0 x2 x3 x4 x1 x5||(!(!!Hg (↑x3.length:Int) (blL x5) x6 x7&&true)||ma x8 x0 x1 x2 x3 x4 x5)]
def Yr:List SV→List Entry→Option Out
 | [.one ⟨true,[.val (.string x0),.ref 0,.ref 1,.ref 2,.val (.string x1),.ref 3]⟩,.one ⟨true,[.ref 4,.ref 5]⟩,.one ⟨false,[.ref 6]⟩],[.row false 9 (.str) x2,.row false 9 (.str) x3,.row false 9 (.str) x4,.row false 204 (.pair (.str) (.sl 178 (.pair (.int .i64) (.pair (.str) (.int .i64))))) x5,.row false 2 (.int .i64) x6,.row false 172 (.pair (.int .i64) (.pair (.int .i64) (.int .i64))) x7,.row false 41 (.sl 2 (.int .i64)) x8]=>some ⟨.one ⟨false,[.val (.int .i64 (Sg x0 x1 x2 x3 x4 x5 x6 x7 x8))]⟩,[.row false 9 aih x2,.row false 9 aih x3,.row false 9 aih x4,.row false 204 (CTy.pair CTy.str (CTy.sl (178:TypeId) acD)) x5,.row false 2 agR x6,.row false 172 abM x7,.row false 41 (CTy.sl (2:TypeId) agR) x8],[],[Sh x0 x1 x2 x3 x4 x5 x6 x7 x8]⟩
 |_,_=>none
def aip:PF prog:=PF.ofG prog [wc,PF.lend wc,PF.fz wc,qQ,PF.lend qQ,PF.fz qQ,dP,PF.lend dP,PF.fz dP,qR,PF.lend qR,PF.fz qR] [] aN 110 f110 func110 (fun c _=>LOk.nil c) Yr (by
 intro vs es r h;unfold Yr at h;split at h
 ·cases h;kernel_rfl
 ·cases h)
section
variable (x0 x1 x2:ByteArray)(x3:Int)(x4 x5:List ByteArray)(x8:List Int)(x9:List (Int×Int×Int))(x10 x11:List Int)
def jB:Int:=bif leI (0:Int) (iQ x4 x0)then Option.getD x10[Int.toNat (iQ x4 x0)]? (0:Int)else Option.getD x8[Int.toNat (iQ x5 x0)]? (0:Int)
def GF:ByteArray:=bif leI (0:Int) (iQ x4 x0)then x1 else x1
def GG:ByteArray:=bif leI (0:Int) (iQ x4 x0)then x2 else x2
def GH:Int:=bif leI (0:Int) (iQ x4 x0)then x3 else x3
def oC:List Int:=bif leI (0:Int) (iQ x4 x0)then x8 else x8
def oD:List (Int×(Int×Int)):=bif leI (0:Int) (iQ x4 x0)then x9 else x9
def oE:List Int:=bif leI (0:Int) (iQ x4 x0)then x11 else x11
def jC:Bool:=allT [leN x4.length (9223372036854775807:Nat),!leI (0:Int) (iQ x4 x0)||leI (0:Int) (iQ x4 x0),!leI (0:Int) (iQ x4 x0)||ltI (iQ x4 x0) (↑x10.length:Int),!leI (0:Int) (iQ x4 x0)||ltN (Int.toNat (iQ x4 x0)) x10.length,leI (0:Int) (iQ x4 x0)||leN x5.length (9223372036854775807:Nat),leI (0:Int) (iQ x4 x0)||leI (0:Int) (iQ x5 x0),leI (0:Int) (iQ x4 x0)||ltI (iQ x5 x0) (↑x8.length:Int),leI (0:Int) (iQ x4 x0)||ltN (Int.toNat (iQ x5 x0)) x8.length]
end
def uI:List SV→List Entry→Option Out
 | [.one ⟨false,[.ptr 0 0]⟩,.one ⟨false,[.val (.string x0)]⟩],[.box 202 [.val (.string x1),.ref 1,.ref 2,.ref 3,.val (.string x2),.ref 4,.ref 5,.ref 6,.ref 7,.ref 8,.val (.int .i64 x3)],.row false 9 (.str) x4,.row false 9 (.str) x5,.row false 9 (.str) x6,.row false 204 (.pair (.str) (.sl 178 (.pair (.int .i64) (.pair (.str) (.int .i64))))) x7,.row true 2 (.int .i64) x8,.row true 172 (.pair (.int .i64) (.pair (.int .i64) (.int .i64))) x9,.row false 2 (.int .i64) x10,.row true 2 (.int .i64) x11]=>some ⟨.one ⟨false,[.val (.int .i64 (jB x0 x4 x5 x8 x10))]⟩,[.box 202 [.val (.string (GF x0 x1 x4)),.ref 1,.ref 2,.ref 3,.val (.string (GG x0 x2 x4)),.ref 4,.ref 5,.ref 6,.ref 7,.ref 8,.val (.int .i64 (GH x0 x3 x4))],.row false 9 aih x4,.row false 9 aih x5,.row false 9 aih x6,.row false 204 (CTy.pair CTy.str (CTy.sl (178:TypeId) acD)) x7,.row true 2 agR (oC x0 x4 x8),.row true 172 abM (oD x0 x4 x9),.row false 2 agR x10,.row true 2 agR (oE x0 x4 x11)],[],[jC x0 x4 x5 x8 x10]⟩
 |_,_=>none
def vj:PF prog:=PF.ofG prog [ub] [] aN 178 f178 func178 (fun c _=>LOk.nil c) uI (by
 intro vs es r h;unfold uI at h;split at h
 ·cases h;kernel_rfl
 ·cases h)
section
variable (x0 x1 x2:ByteArray)(x3:Int)(x4 x5:List ByteArray)(x8:List Int)(x9:List (Int×Int×Int))(x10:List Int)
def ow:Int:=bif leI (0:Int) (iQ x4 x0)then Option.getD x10[Int.toNat (iQ x4 x0)]? (0:Int)else Option.getD x8[Int.toNat (iQ x5 x0)]? (0:Int)
def ox:ByteArray:=bif leI (0:Int) (iQ x4 x0)then x1 else x1
def oy:ByteArray:=bif leI (0:Int) (iQ x4 x0)then x2 else x2
def oz:Int:=bif leI (0:Int) (iQ x4 x0)then x3 else x3
def oA:List (Int×(Int×Int)):=bif leI (0:Int) (iQ x4 x0)then x9 else x9
def oB:Bool:=allT [leN x4.length (9223372036854775807:Nat),!leI (0:Int) (iQ x4 x0)||leI (0:Int) (iQ x4 x0),!leI (0:Int) (iQ x4 x0)||ltI (iQ x4 x0) (↑x10.length:Int),!leI (0:Int) (iQ x4 x0)||ltN (Int.toNat (iQ x4 x0)) x10.length,leI (0:Int) (iQ x4 x0)||leN x5.length (9223372036854775807:Nat),leI (0:Int) (iQ x4 x0)||leI (0:Int) (iQ x5 x0),leI (0:Int) (iQ x4 x0)||ltI (iQ x5 x0) (↑x8.length:Int),leI (0:Int) (iQ x4 x0)||ltN (Int.toNat (iQ x5 x0)) x8.length]
end
def uH:List SV→List Entry→Option Out
 | [.one ⟨false,[.ptr 0 0]⟩,.one ⟨false,[.val (.string x0)]⟩],[.box 202 [.val (.string x1),.ref 1,.ref 2,.ref 3,.val (.string x2),.ref 4,.ref 5,.ref 6,.ref 7,.ref 8,.val (.int .i64 x3)],.row false 9 (.str) x4,.row false 9 (.str) x5,.row false 9 (.str) x6,.row false 204 (.pair (.str) (.sl 178 (.pair (.int .i64) (.pair (.str) (.int .i64))))) x7,.row false 2 (.int .i64) x8,.row true 172 (.pair (.int .i64) (.pair (.int .i64) (.int .i64))) x9,.row false 2 (.int .i64) x10,.row false 2 (.int .i64) x11]=>some ⟨.one ⟨false,[.val (.int .i64 (ow x0 x4 x5 x8 x10))]⟩,[.box 202 [.val (.string (ox x0 x1 x4)),.ref 1,.ref 2,.ref 3,.val (.string (oy x0 x2 x4)),.ref 4,.ref 5,.ref 6,.ref 7,.ref 8,.val (.int .i64 (oz x0 x3 x4))],.row false 9 aih x4,.row false 9 aih x5,.row false 9 aih x6,.row false 204 (CTy.pair CTy.str (CTy.sl (178:TypeId) acD)) x7,.row false 2 agR x8,.row true 172 abM (oA x0 x4 x9),.row false 2 agR x10,.row false 2 agR x11],[],[oB x0 x4 x5 x8 x10]⟩
 |_,_=>none
def GL:PF prog:=PF.ofG prog [ub] [] aN 178 f178 func178 (fun c _=>LOk.nil c) uH (by
 intro vs es r h;unfold uH at h;split at h
 ·cases h;kernel_rfl
 ·cases h)
section
variable (x0 x2 x5:Int)(x6:List Int)(x12:List (Int×Int×Int))
def ay:Int×Int×Int:=Option.getD x12[Int.toNat x5]? ((0:Int),(0:Int),(0:Int))
def oV:Int:=Eg x0 x2 ((ay x5 x12).1) (((ay x5 x12).2).1) ((ay x5 x12).2.2) x6
def oW:Int:=IntKind.wrap .i64 (x5 + (1:Int))
def oX:List (Int×(Int×Int)):=List.set x12 x5.toNat (BL x0 x2 ((ay x5 x12).1) (((ay x5 x12).2).1) ((ay x5 x12).2.2) x6,BM x0 (((ay x5 x12).2).1) ((ay x5 x12).2.2) x6,BN x0 x2 ((ay x5 x12).1) (((ay x5 x12).2).1) ((ay x5 x12).2.2) x6)
def oY:Bool:=allT [leI (0:Int) x5,ltI x5 (↑x12.length:Int),ltN x5.toNat x12.length,Eh x6,leI (0:Int) x5,ltI x5 (↑x12.length:Int),ltN x5.toNat x12.length]
end
def vH:List SV→List Entry→Option Out
 | [.one ⟨false,[.ptr 0 0]⟩,.one ⟨true,[.val (.int .i64 x0),.val (.string _x1),.val (.int .i64 x2)]⟩,.one ⟨false,[.ref 1]⟩],[.box 202 [.val (.string x3),.ref 2,.ref 3,.ref 4,.val (.string x4),.ref 5,.ref 6,.ref 7,.ref 8,.ref 9,.val (.int .i64 x5)],.row false 2 (.int .i64) x6,.row false 9 (.str) x7,.row false 9 (.str) x8,.row false 9 (.str) x9,.row false 204 (.pair (.str) (.sl 178 (.pair (.int .i64) (.pair (.str) (.int .i64))))) x10,.row false 2 (.int .i64) x11,.row true 172 (.pair (.int .i64) (.pair (.int .i64) (.int .i64))) x12,.row false 2 (.int .i64) x13,.row false 2 (.int .i64) x14]=>some ⟨.one ⟨false,[.val (.int .i64 (oV x0 x2 x5 x6 x12))]⟩,[.box 202 [.val (.string x3),.ref 2,.ref 3,.ref 4,.val (.string x4),.ref 5,.ref 6,.ref 7,.ref 8,.ref 9,.val (.int .i64 (oW x5))],.row false 2 agR x6,.row false 9 aih x7,.row false 9 aih x8,.row false 9 aih x9,.row false 204 (CTy.pair CTy.str (CTy.sl (178:TypeId) acD)) x10,.row false 2 agR x11,.row true 172 abM (oX x0 x2 x5 x6 x12),.row false 2 agR x13,.row false 2 agR x14],[],[oY x5 x6 x12]⟩
 |_,_=>none
def Ht:PF prog:=PF.ofG prog [amP] [] aN 256 f256 func256 (fun c _=>LOk.nil c) vH (by
 intro vs es r h;unfold vH at h;split at h
 ·cases h;kernel_rfl
 ·cases h)
section
variable (x0:Int)(x1:ByteArray)(x2:Int)(x3 x4:ByteArray)(x5:Int)(x6:List Int)(x7 x8:List ByteArray)(x11:List Int)(x12:List (Int×Int×Int))(x13:List Int)
def jA:Int:=Option.getD x6[Int.toNat (0:Int)]? (0:Int)
def bN:Int:=bif x0==(1:Int)then ow x1 x7 x8 x11 x13 else bif x0==(2:Int)then(1:Int)else bif x0==(3:Int)then(0:Int)else bif x0==(4:Int)then IntKind.wrap .i64 ((1:Int) - jA x6)else bif x0==(5:Int)then IntKind.wrap .i64 (↑(BitVec.toNat (BitVec.ofInt (IntKind.bits IntKind.i64) (jA x6)&&& BitVec.ofInt (IntKind.bits IntKind.i64) (Option.getD x6[Int.toNat (1:Int)]? (0:Int)))):Int)else bif x0==(6:Int)then IntKind.wrap .i64 (↑(BitVec.toNat (BitVec.ofInt (IntKind.bits IntKind.i64) (jA x6)||| BitVec.ofInt (IntKind.bits IntKind.i64) (Option.getD x6[Int.toNat (1:Int)]? (0:Int)))):Int)else oV x0 x2 x5 x6 x12
def fO:ByteArray:=bif x0==(1:Int)then ox x1 x3 x7 else bif x0==(2:Int)then x3 else bif x0==(3:Int)then x3 else bif x0==(4:Int)then x3 else bif x0==(5:Int)then x3 else bif x0==(6:Int)then x3 else x3
def fP:ByteArray:=bif x0==(1:Int)then oy x1 x4 x7 else bif x0==(2:Int)then x4 else bif x0==(3:Int)then x4 else bif x0==(4:Int)then x4 else bif x0==(5:Int)then x4 else bif x0==(6:Int)then x4 else x4
def aZ:Int:=bif x0==(1:Int)then oz x1 x5 x7 else bif x0==(2:Int)then x5 else bif x0==(3:Int)then x5 else bif x0==(4:Int)then x5 else bif x0==(5:Int)then x5 else bif x0==(6:Int)then x5 else oW x5
def ba:List (Int×(Int×Int)):=bif x0==(1:Int)then oA x1 x7 x12 else bif x0==(2:Int)then x12 else bif x0==(3:Int)then x12 else bif x0==(4:Int)then x12 else bif x0==(5:Int)then x12 else bif x0==(6:Int)then x12 else oX x0 x2 x5 x6 x12
def bc:Bool:=allT [!x0==(1:Int)||oB x1 x7 x8 x11 x13,x0==(1:Int)||(x0==(2:Int)||(x0==(3:Int)||(!x0==(4:Int)||leI (0:Int) (0:Int)))),x0==(1:Int)||(x0==(2:Int)||(x0==(3:Int)||(!x0==(4:Int)||ltI (0:Int) (↑x6.length:Int)))),x0==(1:Int)||(x0==(2:Int)||(x0==(3:Int)||(!x0==(4:Int)||ltN (Int.toNat (0:Int)) x6.length))),x0==(1:Int)||(x0==(2:Int)||(x0==(3:Int)||(x0==(4:Int)||(!x0==(5:Int)||leI (0:Int) (0:Int))))),x0==(1:Int)||(x0==(2:Int)||(x0==(3:Int)||(x0==(4:Int)||(!x0==(5:Int)||ltI (0:Int) (↑x6.length:Int))))),x0==(1:Int)||(x0==(2:Int)||(x0==(3:Int)||(x0==(4:Int)||(!x0==(5:Int)||ltN (Int.toNat (0:Int)) x6.length)))),x0==(1:Int)||(x0==(2:Int)||(x0==(3:Int)||(x0==(4:Int)||(!x0==(5:Int)||leI (0:Int) (1:Int))))),x0==(1:Int)||(x0==(2:Int)||(x0==(3:Int)||(x0==(4:Int)||(!x0==(5:Int)||ltI (1:Int) (↑x6.length:Int))))),x0==(1:Int)||(x0==(2:Int)||(x0==(3:Int)||(x0==(4:Int)||(!x0==(5:Int)||ltN (Int.toNat (1:Int)) x6.length)))),x0==(1:Int)||(x0==(2:Int)||(x0==(3:Int)||(x0==(4:Int)||(x0==(5:Int)||(!x0==(6:Int)||leI (0:Int) (0:Int)))))),x0==(1:Int)||(x0==(2:Int)||(x0==(3:Int)||(x0==(4:Int)||(x0==(5:Int)||(!x0==(6:Int)||ltI (0:Int) (↑x6.length:Int)))))),x0==(1:Int)||(x0==(2:Int)||(x0==(3:Int)||(x0==(4:Int)||(x0==(5:Int)||(!x0==(6:Int)||ltN (Int.toNat (0:Int)) x6.length))))),x0==(1:Int)||(x0==(2:Int)||(x0==(3:Int)||(x0==(4:Int)||(x0==(5:Int)||(!x0==(6:Int)||leI (0:Int) (1:Int)))))),x0==(1:Int)||(x0==(2:Int)||(x0==(3:Int)||(x0==(4:Int)||(x0==(5:Int)||(!x0==(6:Int)||ltI (1:Int) (↑x6.length:Int)))))),x0==(1:Int)||(x0==(2:Int)||(x0==(3:Int)||(x0==(4:Int)||(x0==(5:Int)||(!x0==(6:Int)||ltN (Int.toNat (1:Int)) x6.length))))),x0==(1:Int)||(x0==(2:Int)||(x0==(3:Int)||(x0==(4:Int)||(x0==(5:Int)||(x0==(6:Int)||oY x5 x6 x12)))))]
end
def vJ:List SV→List Entry→Option Out
 | [.one ⟨false,[.ptr 0 0]⟩,.one ⟨true,[.val (.int .i64 x0),.val (.string x1),.val (.int .i64 x2)]⟩,.one ⟨false,[.ref 1]⟩],[.box 202 [.val (.string x3),.ref 2,.ref 3,.ref 4,.val (.string x4),.ref 5,.ref 6,.ref 7,.ref 8,.ref 9,.val (.int .i64 x5)],.row false 2 (.int .i64) x6,.row false 9 (.str) x7,.row false 9 (.str) x8,.row false 9 (.str) x9,.row false 204 (.pair (.str) (.sl 178 (.pair (.int .i64) (.pair (.str) (.int .i64))))) x10,.row false 2 (.int .i64) x11,.row true 172 (.pair (.int .i64) (.pair (.int .i64) (.int .i64))) x12,.row false 2 (.int .i64) x13,.row false 2 (.int .i64) x14]=>some ⟨.one ⟨false,[.val (.int .i64 (bN x0 x1 x2 x5 x6 x7 x8 x11 x12 x13))]⟩,[.box 202 [.val (.string (fO x0 x1 x3 x7)),.ref 2,.ref 3,.ref 4,.val (.string (fP x0 x1 x4 x7)),.ref 5,.ref 6,.ref 7,.ref 8,.ref 9,.val (.int .i64 (aZ x0 x1 x5 x7))],.row false 2 agR x6,.row false 9 aih x7,.row false 9 aih x8,.row false 9 aih x9,.row false 204 (CTy.pair CTy.str (CTy.sl (178:TypeId) acD)) x10,.row false 2 agR x11,.row true 172 abM (ba x0 x1 x2 x5 x6 x7 x12),.row false 2 agR x13,.row false 2 agR x14],[],[bc x0 x1 x5 x6 x7 x8 x11 x12 x13]⟩
 |_,_=>none
def vL:PF prog:=PF.ofG prog [GL,Ht] [] aN 223 f223 func223 (fun c _=>LOk.nil c) vJ (by
 intro vs es r h;unfold vJ at h;split at h
 ·cases h;kernel_rfl
 ·cases h)
abbrev bz:=Int×Int×List (Int×(ByteArray×Int))×List Int×ByteArray×ByteArray×Int×List ByteArray×List ByteArray×List ByteArray×List (ByteArray×(List (Int×(ByteArray×Int))))×List Int×List (Int×(Int×Int))×List Int×List Int
section
variable (y0 y1:Int)(y2:List (Int×(ByteArray×Int)))(y3:List Int)(y4 y5:ByteArray)(y6:Int)(y7 y8:List ByteArray)(y11:List Int)(y12:List (Int×(Int×Int)))(y13:List Int)
def ac:Int×ByteArray×Int:=Option.getD y2[Int.toNat y0]? ((0:Int),ByteArray.empty,(0:Int))
def aJ:Int:=IntKind.wrap .i64 ((↑y3.length:Int) - sa ((ac y0 y2).1))
def et:List Int:= [bN ((ac y0 y2).1) (((ac y0 y2).2).1) ((ac y0 y2).2.2) y6 (List.drop (Int.toNat (aJ y0 y2 y3)) y3) y7 y8 y11 y12 y13]
def eH:Bool:=ltI y0 y1
def eI:Bool:=leI (0:Int) y0
def eJ:Bool:=ltI y0 (↑y2.length:Int)
def eK:Bool:=ltN y0.toNat y2.length
def da:Bool:=leI (0:Int) (aJ y0 y2 y3)
def db:Bool:=leI (aJ y0 y2 y3) (↑y3.length:Int)
def eL:Bool:=leN (Int.toNat (aJ y0 y2 y3)) y3.length
def eN:Bool:=bc ((ac y0 y2).1) (((ac y0 y2).2).1) y6 (List.drop (Int.toNat (aJ y0 y2 y3)) y3) y7 y8 y11 y12 y13
def eO:Bool:=leN (List.length (List.take (Int.toNat (aJ y0 y2 y3)) y3) + List.length (et y0 y2 y3 y6 y7 y8 y11 y12 y13)) (9223372036854775807:Nat)
def eP:Bool:=leN ((List.length (List.take (Int.toNat (aJ y0 y2 y3)) y3) + List.length (et y0 y2 y3 y6 y7 y8 y11 y12 y13)) * (8:Nat)) (140737488355328:Nat)
def ek:Int:=IntKind.wrap .i64 (y0 + (1:Int))
def em:List Int:=List.take (Int.toNat (aJ y0 y2 y3)) y3++et y0 y2 y3 y6 y7 y8 y11 y12 y13
def eo:ByteArray:=fO ((ac y0 y2).1) (((ac y0 y2).2).1) y4 y7
def ep:ByteArray:=fP ((ac y0 y2).1) (((ac y0 y2).2).1) y5 y7
def eq:Int:=aZ ((ac y0 y2).1) (((ac y0 y2).2).1) y6 y7
def er:List (Int×(Int×Int)):=ba ((ac y0 y2).1) (((ac y0 y2).2).1) ((ac y0 y2).2.2) y6 (List.drop (Int.toNat (aJ y0 y2 y3)) y3) y7 y12
end
def Eb:bz→List (Nat×SV)
 |(y0,y1,_,_,_,_,_,_,_,_,_,_,_,_,_)=> [(13,(.one ⟨false,[.val (.int .i64 y0)]⟩)),(12,(.one ⟨false,[.val (.int .i64 y1)]⟩)),(11,(.one ⟨false,[.ref 0]⟩)),(4,(.one ⟨false,[.ref 1]⟩)),(0,(.one ⟨false,[.ptr 2 0]⟩))]
def Ea:bz→List (Nat×Entry)
 |(_,_,y2,y3,y4,y5,y6,y7,y8,y9,y10,y11,y12,y13,y14)=> [(0,(.row false 178 acD y2)),(2,(.box 202 [.val (.string y4),.ref 3,.ref 4,.ref 5,.val (.string y5),.ref 6,.ref 7,.ref 8,.ref 9,.ref 10,.val (.int .i64 y6)])),(3,(.row false 9 aih y7)),(4,(.row false 9 aih y8)),(5,(.row false 9 aih y9)),(6,(.row false 204 (CTy.pair CTy.str (CTy.sl (178:Nat) acD)) y10)),(7,(.row true 2 agR y11)),(8,(.row true 172 abM y12)),(9,(.row false 2 agR y13)),(10,(.row true 2 agR y14)),(1,(.row true 2 agR y3))]
def Ed:Nat→bz→List (Nat×SV)
 |_,(_,_,_,_,_,_,_,_,_,_,_,_,_,_,_)=> [(4,(.one ⟨false,[.ref 1]⟩))]
def Ec:Nat→bz→List (Nat×Entry)
 |_,(_,_,y2,y3,y4,y5,y6,y7,y8,y9,y10,y11,y12,y13,y14)=> [(0,(.row false 178 acD y2)),(1,(.row true 2 agR y3)),(2,(.box 202 [.val (.string y4),.ref 3,.ref 4,.ref 5,.val (.string y5),.ref 6,.ref 7,.ref 8,.ref 9,.ref 10,.val (.int .i64 y6)])),(3,(.row false 9 aih y7)),(4,(.row false 9 aih y8)),(5,(.row false 9 aih y9)),(6,(.row false 204 (CTy.pair CTy.str (CTy.sl (178:Nat) acD)) y10)),(7,(.row true 2 agR y11)),(8,(.row true 172 abM y12)),(9,(.row false 2 agR y13)),(10,(.row true 2 agR y14))]
def ez:bz→LT bz
 |(y0,y1,y2,y3,y4,y5,y6,y7,y8,y9,y10,y11,y12,y13,y14)=> .ite (eH y0 y1) (.need [eI y0,eJ y0 y2,eK y0 y2] (.need [da y0 y2 y3,db y0 y2 y3,eL y0 y2 y3,eN y0 y2 y3 y6 y7 y8 y11 y12 y13] (.need [da y0 y2 y3,db y0 y2 y3,eO y0 y2 y3 y6 y7 y8 y11 y12 y13,eP y0 y2 y3 y6 y7 y8 y11 y12 y13] (.nrm ((ek y0),y1,y2,em y0 y2 y3 y6 y7 y8 y11 y12 y13,eo y0 y2 y4 y7,ep y0 y2 y5 y7,eq y0 y2 y6 y7,y7,y8,y9,y10,y11,er y0 y2 y3 y6 y7 y12,y13,y14) [(0,0),(1,1600),(2,2),(3,3),(4,4),(5,5),(6,6),(7,7),(8,8),(9,9),(10,10)])))) (.ext 0 [(0,0),(1,1),(2,2),(3,3),(4,4),(5,5),(6,6),(7,7),(8,8),(9,9),(10,10)])
def mB(s:St):Option bz:=
 (match s.look 13 with
 |some ⟨none,.one ⟨false,[.val (.int .i64 y0)]⟩⟩=>
 (match s.look 12 with
 |some ⟨none,.one ⟨false,[.val (.int .i64 y1)]⟩⟩=>
 (match s.look 11 with
 |some ⟨none,.one ⟨false,[.ref 1]⟩⟩=>
 (match s.look 4 with
 |some ⟨none,.one ⟨false,[.ref 768]⟩⟩=>
 (match s.look 0 with
 |some ⟨none,.one ⟨false,[.ptr 0 0]⟩⟩=>
 (match s.ent 1 with
 |some (.row false 178 (.pair (.int .i64) (.pair .str (.int .i64))) y2)=>
 (match s.ent 0 with
 |some (.box 202 [.val (.string y4),.ref 2,.ref 3,.ref 4,.val (.string y5),.ref 5,.ref 6,.ref 7,.ref 8,.ref 9,.val (.int .i64 y6)])=>
 (match s.ent 2 with
 |some (.row false 9 (.str) y7)=>
 (match s.ent 3 with
 |some (.row false 9 (.str) y8)=>
 (match s.ent 4 with
 |some (.row false 9 (.str) y9)=>
 (match s.ent 5 with
 |some (.row false 204 (.pair .str (.sl (178:Nat) (.pair (.int .i64) (.pair .str (.int .i64))))) y10)=>
 (match s.ent 6 with
 |some (.row true 2 (.int .i64) y11)=>
 (match s.ent 7 with
 |some (.row true 172 (.pair (.int .i64) (.pair (.int .i64) (.int .i64))) y12)=>
 (match s.ent 8 with
 |some (.row false 2 (.int .i64) y13)=>
 (match s.ent 9 with
 |some (.row true 2 (.int .i64) y14)=>
 (match s.ent 768 with
 |some (.row true 2 (.int .i64) y3)=>
 some (y0,y1,y2,y3,y4,y5,y6,y7,y8,y9,y10,y11,y12,y13,y14)
 |_=>none)
 |_=>none)
 |_=>none)
 |_=>none)
 |_=>none)
 |_=>none)
 |_=>none)
 |_=>none)
 |_=>none)
 |_=>none)
 |_=>none)
 |_=>none)
 |_=>none)
 |_=>none)
 |_=>none)
 |_=>none)
def ak:Lp bz where
 h:=⟨[14,15,16,6,17,18,19,20,21,22,7,23,24,25,26,27,28,8,29,30,31,32,33,34,4,35,13],[0,2,3,4,5,6,7,8,9,10],[1],[]⟩
 JL:=Eb
 JE:=Ea
 XL:=Ed
 XE:=Ec
 q:=fun j=>match j with | _=> .exit 0
 tags:= [0]
 lt:=ez
 fuel:=fun(y0,y1,y2,y3,y4,y5,y6,y7,y8,y9,y10,y11,y12,y13,y14)=>y0.natAbs + y1.natAbs + y2.length + y3.length + y4.size + y5.size + y6.natAbs + y7.length + y8.length + y9.length + y10.length + y11.length + y12.length + y13.length + y14.length
 fix:=fun(_,y1,y2,_,_,_,_,y7,y8,y9,y10,y11,_,y13,y14) (y0,_,_,y3,y4,y5,y6,_,_,_,_,_,y12,_,_)=>(y0,y1,y2,y3,y4,y5,y6,y7,y8,y9,y10,y11,y12,y13,y14)
 σ:= [(0,1),(2,0),(3,2),(4,3),(5,4),(6,5),(7,6),(8,7),(9,8),(10,9),(1,768)]
 rd:=mB
theorem DL:LoopOk prog (fun k=>Nat.blt k Tryz.f177.ntmps) ak.F (aL f177 0):=by
 refine Lp.ok (tbl:= [PF.views prog,ub,LH,PF.lendBut 172 (PF.view vL)]) (lf:= []) aN ak (by kernel_rfl) (LOk.nil _) (fun _=>rfl) (fun _ _=>rfl) ?_ ?_ ?_ ?_ (fun _=>rfl) ?_
 ·rintro⟨y0,y1,y2,y3,y4,y5,y6,y7,y8,y9,y10,y11,y12,y13,y14⟩;kernel_rfl
 ·rintro⟨y0,y1,y2,y3,y4,y5,y6,y7,y8,y9,y10,y11,y12,y13,y14⟩;kernel_rfl
 ·intro s x h
  have h:mB s=some x:=h
  unfold mB at h
  repeat' split at h
  all_goals cases h
  exact⟨aa (by assumption) rfl (aa (by assumption) rfl (aa (by assumption) rfl (aa (by assumption) rfl (aa (by assumption) rfl (rfl))))),ab rfl (by assumption) rfl (ab rfl (by assumption) rfl (ab rfl (by assumption) rfl (ab rfl (by assumption) rfl (ab rfl (by assumption) rfl (ab rfl (by assumption) rfl (ab rfl (by assumption) rfl (ab rfl (by assumption) rfl (ab rfl (by assumption) rfl (ab rfl (by assumption) rfl (ab rfl (by assumption) rfl (rfl)))))))))))⟩
 ·rintro⟨y0,y1,y2,y3,y4,y5,y6,y7,y8,y9,y10,y11,y12,y13,y14⟩;kernel_rfl
 ·rintro⟨y0,y1,y2,y3,y4,y5,y6,y7,y8,y9,y10,y11,y12,y13,y14⟩ z;exact(And.intro rfl trivial)
section
variable (x0 x1 x2:ByteArray)(x3:Int)(x4:List (Int×ByteArray×Int))(x5 x6 x7:List ByteArray)(x8:List (ByteArray×List (Int×ByteArray×Int)))(x9:List Int)(x10:List (Int×Int×Int))(x11 x12:List Int)
def bI:Int×Int×List (Int×ByteArray×Int)×List Int×ByteArray×ByteArray×Int×List ByteArray×List ByteArray×List ByteArray×List (ByteArray×List (Int×ByteArray×Int))×List Int×List (Int×Int×Int)×List Int×List Int:=((0:Int),(↑x4.length:Int),x4,[],x1,x2,x3,x5,x6,x7,x8,x9,x10,x11,x12)
def cw:List Int×ByteArray×ByteArray×Int×List ByteArray×List ByteArray×List ByteArray×List (ByteArray×List (Int×ByteArray×Int))×List Int×List (Int×Int×Int)×List Int×List Int:=(Lp.res ak (bI x1 x2 x3 x4 x5 x6 x7 x8 x9 x10 x11 x12)).2.2.2.2
def dw:ByteArray×ByteArray×Int×List ByteArray×List ByteArray×List ByteArray×List (ByteArray×List (Int×ByteArray×Int))×List Int×List (Int×Int×Int)×List Int×List Int:=(cw x1 x2 x3 x4 x5 x6 x7 x8 x9 x10 x11 x12).2
def fo:ByteArray×Int×List ByteArray×List ByteArray×List ByteArray×List (ByteArray×List (Int×ByteArray×Int))×List Int×List (Int×Int×Int)×List Int×List Int:=(dw x1 x2 x3 x4 x5 x6 x7 x8 x9 x10 x11 x12).2
def jw:Int×List ByteArray×List ByteArray×List ByteArray×List (ByteArray×List (Int×ByteArray×Int))×List Int×List (Int×Int×Int)×List Int×List Int:=(fo x1 x2 x3 x4 x5 x6 x7 x8 x9 x10 x11 x12).2
def fq:List Int:=(cw x1 x2 x3 x4 x5 x6 x7 x8 x9 x10 x11 x12).1
def jx:Int:=Option.getD (fq x1 x2 x3 x4 x5 x6 x7 x8 x9 x10 x11 x12)[Int.toNat (0:Int)]? (0:Int)
def jy:Bool:=ltI (0:Int) (↑(List.length (fq x1 x2 x3 x4 x5 x6 x7 x8 x9 x10 x11 x12)):Int)
def jz:Bool:=ltN (Int.toNat (0:Int)) (List.length (fq x1 x2 x3 x4 x5 x6 x7 x8 x9 x10 x11 x12))
def jZ:ByteArray:=(dw x1 x2 x3 x4 x5 x6 x7 x8 x9 x10 x11 x12).1
def ka:ByteArray:=(fo x1 x2 x3 x4 x5 x6 x7 x8 x9 x10 x11 x12).1
def kb:Int:=(jw x1 x2 x3 x4 x5 x6 x7 x8 x9 x10 x11 x12).1
def ke:List Int:=bif leI (0:Int) (iQ x6 x0)then List.set x9 (Int.toNat (iQ x6 x0)) (jx x1 x2 x3 x4 x5 x6 x7 x8 x9 x10 x11 x12)else x9
def kf:List (Int×(Int×Int)):=((jw x1 x2 x3 x4 x5 x6 x7 x8 x9 x10 x11 x12).2.2.2.2.2.2).1
def kg:List Int:=bif leI (0:Int) (iQ x6 x0)then x12 else List.set x12 (Int.toNat (iQ x7 x0)) (jx x1 x2 x3 x4 x5 x6 x7 x8 x9 x10 x11 x12)
def fN:Bool:=allT [Lp.fin ak (bI x1 x2 x3 x4 x5 x6 x7 x8 x9 x10 x11 x12),leN x6.length (9223372036854775807:Nat),!leI (0:Int) (iQ x6 x0)||leI (0:Int) (0:Int),!leI (0:Int) (iQ x6 x0)||jy x1 x2 x3 x4 x5 x6 x7 x8 x9 x10 x11 x12,!leI (0:Int) (iQ x6 x0)||jz x1 x2 x3 x4 x5 x6 x7 x8 x9 x10 x11 x12,!leI (0:Int) (iQ x6 x0)||leI (0:Int) (iQ x6 x0),!leI (0:Int) (iQ x6 x0)||ltI (iQ x6 x0) (↑x9.length:Int),!leI (0:Int) (iQ x6 x0)||ltN (Int.toNat (iQ x6 x0)) x9.length,leI (0:Int) (iQ x6 x0)||leN x7.length (9223372036854775807:Nat),leI (0:Int) (iQ x6 x0)||leI (0:Int) (0:Int),leI (0:Int) (iQ x6 x0)||jy x1 x2 x3 x4 x5 x6 x7 x8 x9 x10 x11 x12,leI (0:Int) (iQ x6 x0)||jz x1 x2 x3 x4 x5 x6 x7 x8 x9 x10 x11 x12,leI (0:Int) (iQ x6 x0)||leI (0:Int) (iQ x7 x0),leI (0:Int) (iQ x6 x0)||ltI (iQ x7 x0) (↑x12.length:Int),leI (0:Int) (iQ x6 x0)||ltN (Int.toNat (iQ x7 x0)) x12.length]
end
def vI:List SV→List Entry→Option Out
 | [.one ⟨false,[.ptr 0 0]⟩,.one ⟨true,[.val (.string x0),.ref 1]⟩],[.box 202 [.val (.string x1),.ref 2,.ref 3,.ref 4,.val (.string x2),.ref 5,.ref 6,.ref 7,.ref 8,.ref 9,.val (.int .i64 x3)],.row false 178 (.pair (.int .i64) (.pair (.str) (.int .i64))) x4,.row false 9 (.str) x5,.row false 9 (.str) x6,.row false 9 (.str) x7,.row false 204 (.pair (.str) (.sl 178 (.pair (.int .i64) (.pair (.str) (.int .i64))))) x8,.row true 2 (.int .i64) x9,.row true 172 (.pair (.int .i64) (.pair (.int .i64) (.int .i64))) x10,.row false 2 (.int .i64) x11,.row true 2 (.int .i64) x12]=>some ⟨.tup [],[.box 202 [.val (.string (jZ x1 x2 x3 x4 x5 x6 x7 x8 x9 x10 x11 x12)),.ref 2,.ref 3,.ref 4,.val (.string (ka x1 x2 x3 x4 x5 x6 x7 x8 x9 x10 x11 x12)),.ref 5,.ref 6,.ref 7,.ref 8,.ref 9,.val (.int .i64 (kb x1 x2 x3 x4 x5 x6 x7 x8 x9 x10 x11 x12))],.row false 178 acD x4,.row false 9 aih x5,.row false 9 aih x6,.row false 9 aih x7,.row false 204 (CTy.pair CTy.str (CTy.sl (178:TypeId) acD)) x8,.row true 2 agR (ke x0 x1 x2 x3 x4 x5 x6 x7 x8 x9 x10 x11 x12),.row true 172 abM (kf x1 x2 x3 x4 x5 x6 x7 x8 x9 x10 x11 x12),.row false 2 agR x11,.row true 2 agR (kg x0 x1 x2 x3 x4 x5 x6 x7 x8 x9 x10 x11 x12)],[],[fN x0 x1 x2 x3 x4 x5 x6 x7 x8 x9 x10 x11 x12]⟩
 |_,_=>none
def vK:PF prog:=PF.ofG prog [PF.views prog,ub,LH,PF.lendBut 172 (PF.view vL)] [ak.F] aN 177 f177 func177 (LOk.fnT (l:= [aL f177 0]) (by kernel_rfl) (.cons DL (.nil _))) vI (by
 intro vs es r h;unfold vI at h;split at h
 ·cases h;kernel_rfl
 ·cases h)
theorem akx{a b:Int}(ha:a=0∨a=1)(hb:b=0∨b=1):IntKind.i64.wrap ((BitVec.toNat (BitVec.ofInt (IntKind.bits IntKind.i64) a&&& BitVec.ofInt (IntKind.bits IntKind.i64) b):Nat):Int)=apz a b:=by
 rcases ha with rfl | rfl <;> rcases hb with rfl | rfl <;> rfl
theorem amM{a b:Int}(ha:a=0∨a=1)(hb:b=0∨b=1):IntKind.i64.wrap ((BitVec.toNat (BitVec.ofInt (IntKind.bits IntKind.i64) a||| BitVec.ofInt (IntKind.bits IntKind.i64) b):Nat):Int)=orI a b:=by
 rcases ha with rfl | rfl <;> rcases hb with rfl | rfl <;> rfl
theorem amI{a:Int}(ha:a=0∨a=1):IntKind.i64.wrap (1 - a)=1 - a:=by rcases ha with rfl | rfl <;> rfl
theorem Ry{l:List ByteArray}{s:ByteArray}(h:mw l s=true):iQ l s=(Sr l s:Int):=by simp only [iQ,h,cond_true]
theorem agr(s:ByteArray)(ins vs:List ByteArray)(inp xs:List Int)(hr:Xc ins vs s=true)(h1:leN ins.length 9223372036854775807=true)(h2:leN vs.length 9223372036854775807=true)(hi:inp.length=ins.length)(hx:xs.length=vs.length):
  rW s ins vs xs inp=nmV ins vs inp xs s∧rX s ins vs xs inp=true:=by
 cases h:mw ins s with
 |true=>
  have e:=Ry h
  have hp:=Yh h
  have l0:leI 0 (Sr ins s:Int)=true:=bw (by omega)
  have l1:ltI (Sr ins s:Int) (inp.length:Int)=true:=dO (by omega)
  have l2:ltN (Sr ins s) inp.length=true:=fQ (by omega)
  refine⟨?_,?_⟩
  ·simp only [rW,nmV,h,e,l0,cond_true];rfl
  ·simp only [rX,e,l0,l1,l2,h1,h2,allT,Int.toNat_natCast,Bool.or_true,Bool.true_or,cond_true]
 |false=>
  have hv:mw vs s=true:=by simpa [Xc,h] using hr
  have e0:leI 0 (iQ ins s)=false:=by rw [Sa,h]
  have e:=Ry hv
  have hp:=Yh hv
  have l0:leI 0 (Sr vs s:Int)=true:=bw (by omega)
  have l1:ltI (Sr vs s:Int) (xs.length:Int)=true:=dO (by omega)
  have l2:ltN (Sr vs s) xs.length=true:=fQ (by omega)
  refine⟨?_,?_⟩
  ·simp only [rW,nmV,h,e0,e,cond_false];rfl
  ·simp only [rX,e0,e,l0,l1,l2,h1,h2,allT,Int.toNat_natCast,Bool.or_true,Bool.true_or,Bool.not_false,cond_true]
theorem ak9(s:ByteArray)(ins vs:List ByteArray)(inp xs:List Int):ow s ins vs xs inp=rW s ins vs xs inp∧oB s ins vs xs inp=rX s ins vs xs inp:=⟨rfl,rfl⟩
theorem ala(s:ByteArray)(ins vs:List ByteArray)(inp xs:List Int):jB s ins vs xs inp=rW s ins vs xs inp∧jC s ins vs xs inp=rX s ins vs xs inp:=⟨rfl,rfl⟩
structure TmOk (ins vs:List ByteArray) (inp xs:List Int) (t:TM) (ar:List Int) (k:Nat) (ss:List BS3):Prop where
 hT:termB t.1 t.2.1 t.2.2=true
 ha:bitsB (takesK t.1) ar=true
 hu:usedB ins vs t=true
 h1:leN ins.length 9223372036854775807=true
 h2:leN vs.length 9223372036854775807=true
 hi:inp.length=ins.length
 hx:xs.length=vs.length
 hb:leI 7 t.1=true→k < ss.length∧possB t.1 t.2.2 (stAt ss k).1 (stAt ss k).2.1 (stAt ss k).2.2=true
 hs:ss.length≤100000
theorem aq2{ins vs:List ByteArray}{inp xs:List Int}{kd:Int}{nm:ByteArray}{num:Int}{ar:List Int}{k:Nat}{ss:List BS3}(h:TmOk ins vs inp xs (kd,nm,num) ar k ss)(hk:k≤ss.length)(u v:ByteArray):
  bN kd nm num (k:Int) ar ins vs xs ss inp=tmV ins vs inp xs (kd,nm,num) ar (stAt ss k)∧
  fO kd nm u ins=u∧fP kd nm v ins=v∧
  aZ kd nm (k:Int) ins=((bif leI 7 kd then k + 1 else k:Nat):Int)∧
  ba kd nm num (k:Int) ar ins ss=(bif leI 7 kd then ss.set k (YU kd num ar (stAt ss k))else ss)∧
  bc kd nm (k:Int) ar ins vs xs ss inp=true:=by
 obtain⟨hT,ha,hu,h1,h2,hi,hx,hb,hs⟩:=h
 have hkk:=ahw hT
 simp only at hT ha hu hb hkk
 have hbits:=(fj.1 ha).1
 have oI:=(fj.1 ha).2
 have a0:=SW hbits 0
 have a1:=SW hbits 1
 have hc:kd=1∨kd=2∨kd=3∨kd=4∨kd=5∨kd=6∨(7≤kd∧kd≤12):=by omega
 have c1: ∀ x:ByteArray,ox nm x ins=x:=fun x=>Bool.cond_self _ _
 have c2: ∀ x:ByteArray,oy nm x ins=x:=fun x=>Bool.cond_self _ _
 have c3: ∀ x:Int,oz nm x ins=x:=fun x=>Bool.cond_self _ _
 have c4: ∀ x:List BS3,oA nm ins x=x:=fun x=>Bool.cond_self _ _
 have z00:leI (0:Int) 0=true:=rfl
 have z01:leI (0:Int) 1=true:=rfl
 have e0:jA ar=atZ ar 0:=rfl
 have e1:Option.getD ar[Int.toNat (1:Int)]? (0:Int)=atZ ar 1:=rfl
 rcases hc with rfl | rfl | rfl | rfl | rfl | rfl | hc
 ·have hr:Xc ins vs nm=true:=by simpa [usedB] using hu
  obtain⟨v1,v2⟩:=agr nm ins vs inp xs hr h1 h2 hi hx
  have q:leI 7 (1:Int)=false:=rfl
  refine⟨?_,?_,?_,?_,?_,?_⟩
  ·simp [bN,tmV,(ak9 nm ins vs inp xs).1,v1]
  ·simp [fO,c1]
  ·simp [fP,c2]
  ·simp [aZ,c3,q]
  ·simp [ba,c4,q]
  ·simp [bc,(ak9 nm ins vs inp xs).2,v2,allT]
 ·have q:leI 7 (2:Int)=false:=rfl
  refine⟨rfl,rfl,rfl,?_,?_,?_⟩
  ·simp [aZ,q]
  ·simp [ba,q]
  ·simp [bc,allT]
 ·have q:leI 7 (3:Int)=false:=rfl
  refine⟨rfl,rfl,rfl,?_,?_,?_⟩
  ·simp [aZ,q]
  ·simp [ba,q]
  ·simp [bc,allT]
 ·have q:leI 7 (4:Int)=false:=rfl
  have t:takesK 4=1:=rfl
  rw [t]at oI
  have s1:ltI 0 (ar.length:Int)=true:=dO (by omega)
  have s2:ltN (Int.toNat 0) ar.length=true:=fQ (by simp only [Int.toNat_zero];omega)
  refine⟨?_,rfl,rfl,?_,?_,?_⟩
  ·simp [bN,tmV,e0,amI a0]
  ·simp [aZ,q]
  ·simp [ba,q]
  ·simp only [bc,allT,z00,s1,s2];rfl
 ·have q:leI 7 (5:Int)=false:=rfl
  have t:takesK 5=2:=rfl
  rw [t]at oI
  have s1:ltI 0 (ar.length:Int)=true:=dO (by omega)
  have s2:ltN (Int.toNat 0) ar.length=true:=fQ (by simp only [Int.toNat_zero];omega)
  have s3:ltI 1 (ar.length:Int)=true:=dO (by omega)
  have s4:ltN (Int.toNat 1) ar.length=true:=fQ (by have:(Int.toNat 1)=1:=rfl;omega)
  refine⟨?_,rfl,rfl,?_,?_,?_⟩
  ·have:=akx a0 a1
   simp only [bN,tmV,e0,e1,this];rfl
  ·simp [aZ,q]
  ·simp [ba,q]
  ·simp only [bc,allT,z00,z01,s1,s2,s3,s4];rfl
 ·have q:leI 7 (6:Int)=false:=rfl
  have t:takesK 6=2:=rfl
  rw [t]at oI
  have s1:ltI 0 (ar.length:Int)=true:=dO (by omega)
  have s2:ltN (Int.toNat 0) ar.length=true:=fQ (by simp only [Int.toNat_zero];omega)
  have s3:ltI 1 (ar.length:Int)=true:=dO (by omega)
  have s4:ltN (Int.toNat 1) ar.length=true:=fQ (by have:(Int.toNat 1)=1:=rfl;omega)
  refine⟨?_,rfl,rfl,?_,?_,?_⟩
  ·have:=amM a0 a1
   simp only [bN,tmV,e0,e1,this];rfl
  ·simp [aZ,q]
  ·simp [ba,q]
  ·simp only [bc,allT,z00,z01,s1,s2,s3,s4];rfl
 ·have q:leI 7 kd=true:=bw hc.1
  obtain⟨b1,b2⟩:=hb q
  have hB:=UG (t:=(kd,nm,num)) hT q
  simp only at hB
  obtain⟨p0,p1,p2,p3,p4,p5,p6⟩:=alT hB b2 ha
  have t1:(kd==1)=false:=by simp;omega
  have t2:(kd==2)=false:=by simp;omega
  have t3:(kd==3)=false:=by simp;omega
  have t4:(kd==4)=false:=by simp;omega
  have t5:(kd==5)=false:=by simp;omega
  have t6:(kd==6)=false:=by simp;omega
  have ca:ay (k:Int) ss=stAt ss k:=by simp only [ay,Int.toNat_natCast,stAt]
  have l0:leI 0 (k:Int)=true:=bw (by omega)
  have l1:ltI (k:Int) (ss.length:Int)=true:=dO (by omega)
  have l2:ltN k ss.length=true:=fQ b1
  have hw:IntKind.i64.wrap ((k:Int) + 1)=((k + 1:Nat):Int):=by rw [aR (by omega) (by omega)];omega
  refine⟨?_,?_,?_,?_,?_,?_⟩
  ·simp only [bN,tmV,t1,t2,t3,t4,t5,t6,cond_false,oV,ca,p0,aq5]
  ·simp only [fO,t1,t2,t3,t4,t5,t6,cond_false]
  ·simp only [fP,t1,t2,t3,t4,t5,t6,cond_false]
  ·simp only [aZ,t1,t2,t3,t4,t5,t6,cond_false,q,cond_true,oW,hw]
  ·simp only [ba,t1,t2,t3,t4,t5,t6,cond_false,q,cond_true,oX,ca,p1,p2,p3,YU,Int.toNat_natCast]
  ·simp only [bc,t1,t2,t3,t4,t5,t6,oY,p4,l0,l1,l2,Int.toNat_natCast,allT,Bool.false_or,Bool.not_false,Bool.true_or,Bool.or_true,cond_true]
theorem alr(ins vs:List ByteArray)(inp xs:List Int): ∀ (ts:List TM) (a:LS),ts.foldl (fun a t=>lnS ins vs inp xs t a) a=aex ins vs inp xs ts a
 | [],a=>rfl
 |t::r,a=>by rw [List.foldl_cons,alr ins vs inp xs r];rfl
structure LineH (ins vs:List ByteArray) (inp xs:List Int) (pre post ts:List TM):Prop where
 hi:bitsB ins.length inp=true
 hx:bitsB vs.length xs=true
 ok: ∃ e,htT ts 0=some e
 hu:ts.all (usedB ins vs)=true
 hn:ts.length≤40
 hbl:(pre++blT ts++post).length≤2000
 h1:leN ins.length 9223372036854775807=true
 h2:leN vs.length 9223372036854775807=true
theorem LineH.tm{ins vs:List ByteArray}{inp xs:List Int}{pre post ts:List TM}(h:LineH ins vs inp xs pre post ts){i:Nat}{t:TM}{a:LS}(ht:ts[i]? =some t)(hI:aiM pre post ts i a):
  TmOk ins vs inp xs t (a.1.drop (ltk t a.1)) a.2.2 a.2.1∧a.2.2≤a.2.1.length∧a.2.1.length≤2000∧(0≤takesK t.1∧takesK t.1≤a.1.length)∧a.1.length≤40∧aiM pre post ts (i + 1) (lnS ins vs inp xs t a):=by
 obtain⟨e,ok⟩:=h.ok
 obtain⟨g1,g2,g3,g4,g5,g6,g7,g8,g9⟩:=akQ (ins:=ins) (vs:=vs) h.hi h.hx ok ht hI
 have hi2:=(fj.1 h.hi).2
 have hx2:=(fj.1 h.hx).2
 have hil:=(List.getElem?_eq_some_iff.1 ht).1
 have hn:=h.hn
 have hbl:=h.hbl
 refine⟨⟨g3,g4,List.all_eq_true.1 h.hu t (List.mem_of_getElem? ht),h.h1,h.h2,by omega,by omega,fun h7=> ?_,by omega⟩,by omega,by omega,g1,by omega,g9⟩
 obtain⟨q1,q2⟩:=g6 h7
 exact⟨by omega,q2⟩
theorem apZ{ins vs:List ByteArray}{inp xs:List Int}{pre post ts:List TM}(h:LineH ins vs inp xs pre post ts)(u v:ByteArray)(os:List ByteArray)(ls:List LN)(ou:List Int)(ss:List BS3)(k:Nat)(h0:aiM pre post ts 0 ([],ss,k)):
  ak.fin ((0:Int),(ts.length:Int),ts,[],u,v,(k:Int),ins,vs,os,ls,xs,ss,inp,ou)=true∧
  ak.res ((0:Int),(ts.length:Int),ts,[],u,v,(k:Int),ins,vs,os,ls,xs,ss,inp,ou)=
   (0,((ts.length:Int),(ts.length:Int),ts,(aex ins vs inp xs ts ([],ss,k)).1,u,v,((aex ins vs inp xs ts ([],ss,k)).2.2:Int),ins,vs,os,ls,xs,(aex ins vs inp xs ts ([],ss,k)).2.1,inp,ou)):=by
 have jb:=ak.along2 (fun i (a:LS)=>((i:Int),(ts.length:Int),ts,a.1,u,v,(a.2.2:Int),ins,vs,os,ls,xs,a.2.1,inp,ou)) (fun x=>(x.2.2.2.1,x.2.2.2.2.2.2.2.2.2.2.2.2.1,x.2.2.2.2.2.2.1.toNat))
  (fun(t:TM) a=> .inr (lnS ins vs inp xs t a)) 0 (fun i a=>aiM pre post ts i a) ts ([],ss,k) h0 (by have:=h.hn;omega) (fun i t a hb hI=> ?_) (fun a hI=> ?_)
 ·rw [Lm (g:=fun a t=>lnS ins vs inp xs t a) (fun b a=>rfl),alr]at jb
  simpa using jb
 ·obtain⟨hm,hk,hs,ZK,hst,hI2⟩:=h.tm hb hI
  have eB:=(List.getElem?_eq_some_iff.1 hb).1
  have hn:=h.hn
  have hw:IntKind.i64.wrap ((i:Int) + 1)=((i + 1:Nat):Int):=by rw [aR (by omega) (by omega)];omega
  obtain⟨kd,nm,num⟩:=t
  obtain⟨stk,ss',k'⟩:=a
  simp only at hk hs ZK hst hm
  have g0:ac (i:Int) ts=(kd,nm,num):=by simp only [ac,Int.toNat_natCast,hb,Option.getD_some]
  have g1:aJ (i:Int) ts stk=((ltk (kd,nm,num) stk:Nat):Int):=by
   simp only [aJ,g0,aov,ltk]
   rw [aR (by omega) (by omega)];omega
  obtain⟨r0,r1,r2,r3,r4,r5⟩:=aq2 hm hk u v
  have g2:et (i:Int) ts stk (k':Int) ins vs xs ss' inp= [tmV ins vs inp xs (kd,nm,num) (stk.drop (ltk (kd,nm,num) stk)) (stAt ss' k')]:=by
   simp only [et,g0,g1,Int.toNat_natCast,r0]
  have hlk:ltk (kd,nm,num) stk≤stk.length:=Nat.sub_le _ _
  have l0:ltI (i:Int) (ts.length:Int)=true:=dO (by omega)
  have l1:leI 0 (i:Int)=true:=bw (by omega)
  have l2:ltN i ts.length=true:=fQ eB
  have l3:leI 0 ((ltk (kd,nm,num) stk:Nat):Int)=true:=bw (by omega)
  have l4:leI ((ltk (kd,nm,num) stk:Nat):Int) (stk.length:Int)=true:=bw (by omega)
  have l5:leN (ltk (kd,nm,num) stk) stk.length=true:=dv hlk
  have l6:leN ((List.take (ltk (kd,nm,num) stk) stk).length + 1) 9223372036854775807=true:=dv (by rw [List.length_take];omega)
  have l7:leN (((List.take (ltk (kd,nm,num) stk) stk).length + 1) * 8) 140737488355328=true:=dv (by rw [List.length_take];omega)
  refine⟨?_,?_,?_,fun a' hf=> ?_⟩
  ·simp only [eH,eI,eJ,eK,da,db,eL,eN,eO,eP,ek,em,eo,ep,eq,er,ez,ak,LT.nds,allT,g0,g1,g2,r5,l0,l1,l2,l3,l4,l5,l6,l7,List.length_singleton,Int.toNat_natCast,cond_true,Bool.and_self]
  ·simp only [eH,eI,eJ,eK,da,db,eL,eN,eO,eP,ek,em,eo,ep,eq,er,ez,ak,LT.each,g0,g1,g2,r1,r2,r3,r4,l0,hw,Int.toNat_natCast,Bool.and_true,and_self]
  ·simp only [eH,eI,eJ,eK,da,db,eL,eN,eO,eP,ek,em,eo,ep,eq,er,ez,ak,LT.fn,g0,g1,g2,r3,r4,l0,Int.toNat_natCast,cond_true,lnS]
  ·simp only [Sum.inr.injEq]at hf
   subst hf;exact hI2
 ·have bM:ltI (ts.length:Int) (ts.length:Int)=false:=QB (by omega)
  simp [eH,eI,eJ,eK,da,db,eL,eN,eO,eP,ek,em,eo,ep,eq,er,ez,ak,LT.out,bM]
theorem ap1{ins vs:List ByteArray}{inp xs:List Int}{pre post ts:List TM}(h:LineH ins vs inp xs pre post ts)(u v:ByteArray)(os:List ByteArray)(ls:List LN)(ss:List BS3)(k:Nat)(h0:aiM pre post ts 0 ([],ss,k)):
  aW.fin ((0:Int),(k:Int),ts,[],u,v,inp,ins,vs,os,ls,xs,ss)=true∧
  aW.res ((0:Int),(k:Int),ts,[],u,v,inp,ins,vs,os,ls,xs,ss)=
   (0,((ts.length:Int),((aex ins vs inp xs ts ([],ss,k)).2.2:Int),ts,(aex ins vs inp xs ts ([],ss,k)).1,u,v,inp,ins,vs,os,ls,xs,(aex ins vs inp xs ts ([],ss,k)).2.1)):=by
 have jb:=aW.along2 (fun i (a:LS)=>((i:Int),(a.2.2:Int),ts,a.1,u,v,inp,ins,vs,os,ls,xs,a.2.1)) (fun x=>(x.2.2.2.1,x.2.2.2.2.2.2.2.2.2.2.2.2,x.2.1.toNat))
  (fun(t:TM) a=> .inr (lnS ins vs inp xs t a)) 0 (fun i a=>aiM pre post ts i a) ts ([],ss,k) h0 (by have:=h.hn;omega) (fun i t a hb hI=> ?_) (fun a hI=> ?_)
 ·rw [Lm (g:=fun a t=>lnS ins vs inp xs t a) (fun b a=>rfl),alr]at jb
  simpa using jb
 ·obtain⟨hm,hk,hs,ZK,hst,hI2⟩:=h.tm hb hI
  have eB:=(List.getElem?_eq_some_iff.1 hb).1
  have hn:=h.hn
  have hw:IntKind.i64.wrap ((i:Int) + 1)=((i + 1:Nat):Int):=by rw [aR (by omega) (by omega)];omega
  obtain⟨kd,nm,num⟩:=t
  obtain⟨stk,ss',k'⟩:=a
  simp only at hk hs ZK hst hm
  have g0:br (i:Int) ts=(kd,nm,num):=by simp only [br,Int.toNat_natCast,hb,Option.getD_some]
  have g1:qb (i:Int) ts stk=((ltk (kd,nm,num) stk:Nat):Int):=by
   simp only [qb,g0,show mu kd=takesK kd from rfl,ltk]
   rw [aR (by omega) (by omega)];omega
  have g2:ch (i:Int) ts stk=stk.drop (ltk (kd,nm,num) stk):=by
   simp only [ch,g1,Int.toNat_natCast,List.take_length]
  have g3:qc (i:Int) ts stk=stk.take (ltk (kd,nm,num) stk):=by
   simp only [qc,g1,Int.toNat_natCast,Int.toNat_zero,List.drop_zero]
  have q4:ax (i:Int) ts=(kd==1):=by simp only [ax,g0]
  have q5:aG (i:Int) ts=(kd==2):=by simp only [aG,g0]
  have q6:aH (i:Int) ts=(kd==3):=by simp only [aH,g0]
  have q7:aI (i:Int) ts=(kd==4):=by simp only [aI,g0]
  have q10:aP (i:Int) ts=(kd==5):=by simp only [aP,g0]
  have q13:bT (i:Int) ts=(kd==6):=by simp only [bT,g0]
  have q15:du (k':Int) ss'=stAt ss' k':=by simp only [du,Int.toNat_natCast,stAt]
  obtain⟨hT,ha,hu,h1,h2,hi,hx,hb7,hss⟩:=hm
  have hkk:=ahw hT
  simp only at hT ha hu hb7 hkk
  have hbits:=(fj.1 ha).1
  have oI:=(fj.1 ha).2
  generalize hA:stk.drop (ltk (kd,nm,num) stk)=ar at g2 ha hbits oI
  have a0:=SW hbits 0
  have a1:=SW hbits 1
  have e14:sZ (i:Int) ts stk=atZ ar 0:=by simp only [sZ,g2];rfl
  have e1:Option.getD ar[Int.toNat (1:Int)]? (0:Int)=atZ ar 1:=rfl
  have hlk:ltk (kd,nm,num) stk≤stk.length:=Nat.sub_le _ _
  have l0:ltI (i:Int) (ts.length:Int)=true:=dO (by omega)
  have l1:leI 0 (i:Int)=true:=bw (by omega)
  have l2:ltN i ts.length=true:=fQ eB
  have l3:leI 0 ((ltk (kd,nm,num) stk:Nat):Int)=true:=bw (by omega)
  have l4:leI ((ltk (kd,nm,num) stk:Nat):Int) (stk.length:Int)=true:=bw (by omega)
  have l5:leI (stk.length:Int) (stk.length:Int)=true:=bw (by omega)
  have hal:ar.length≤40:=by rw [← hA,List.length_drop];omega
  have l6:leN ar.length 1048576=true:=dv (by omega)
  have l6b:leN (List.take (ltk (kd,nm,num) stk) stk).length 1048576=true:=dv (by rw [List.length_take];omega)
  have l7:leN ((List.take (ltk (kd,nm,num) stk) stk).length + 1) 9223372036854775807=true:=dv (by rw [List.length_take];omega)
  have l8:leN (((List.take (ltk (kd,nm,num) stk) stk).length + 1) * 8) 140737488355328=true:=dv (by rw [List.length_take];omega)
  have z00:leI (0:Int) 0=true:=rfl
  have z01:leI (0:Int) 1=true:=rfl
  have y0:iY (i:Int) ts xs=xs:=Bool.cond_self _ _
  have hfin:bf (i:Int) (k':Int) ts stk inp ins vs xs ss'= [tmV ins vs inp xs (kd,nm,num) ar (stAt ss' k')]∧
    bK (i:Int) (k':Int) ts=((bif leI 7 kd then k' + 1 else k':Nat):Int)∧bL (i:Int) (k':Int) ts stk ss'=(bif leI 7 kd then ss'.set k' (YU kd num ar (stAt ss' k'))else ss')∧
    (aW.lt ((i:Int),(k':Int),ts,stk,u,v,inp,ins,vs,os,ls,xs,ss')).nds=true:=by
   have hc:kd=1∨kd=2∨kd=3∨kd=4∨kd=5∨kd=6∨(7≤kd∧kd≤12):=by omega
   have n29: ∀ z:Int,leN (List.length (List.take (ltk (kd,nm,num) stk) stk) + List.length [z]) 9223372036854775807=true:=fun z=>l7
   have n30: ∀ z:Int,leN ((List.length (List.take (ltk (kd,nm,num) stk) stk) + List.length [z]) * 8) 140737488355328=true:=fun z=>l8
   rcases hc with rfl | rfl | rfl | rfl | rfl | rfl | hc
   ·have hr:Xc ins vs nm=true:=by simpa [usedB] using hu
    obtain⟨v1,v2⟩:=agr nm ins vs inp xs hr h1 h2 hi hx
    have hv:bf (i:Int) (k':Int) ts stk inp ins vs xs ss'= [tmV ins vs inp xs (1,nm,num) ar (stAt ss' k')]:=by simp [bf,tmV,q4,g0,v1]
    refine⟨hv,?_,?_,?_⟩
    ·simp [bK,q4,show leI 7 (1:Int)=false from rfl]
    ·simp [bL,q4,show leI 7 (1:Int)=false from rfl]
    ·simp only [dW,lA,lB,jP,jQ,lC,lD,lE,lF,lG,kx,ky,kz,kA,kB,kC,kD,kE,kF,kG,kH,kI,kJ,kK,kL,iT,iU,iV,kM,kN,kO,iW,bK,iX,iY,bL,eQ,aW,LT.nds,allT,g0,g1,g2,g3,q4,q5,q6,q7,q10,q13,hv,v2,l0,l1,l2,l3,l4,l5,l6,l6b,n29,n30,z00,Int.toNat_natCast];rfl
   ·have hv:bf (i:Int) (k':Int) ts stk inp ins vs xs ss'= [tmV ins vs inp xs (2,nm,num) ar (stAt ss' k')]:=by simp [bf,tmV,q4,q5]
    refine⟨hv,?_,?_,?_⟩
    ·simp [bK,q4,q5,show leI 7 (2:Int)=false from rfl]
    ·simp [bL,q4,q5,show leI 7 (2:Int)=false from rfl]
    ·simp only [dW,lA,lB,jP,jQ,lC,lD,lE,lF,lG,kx,ky,kz,kA,kB,kC,kD,kE,kF,kG,kH,kI,kJ,kK,kL,iT,iU,iV,kM,kN,kO,iW,bK,iX,iY,bL,eQ,aW,LT.nds,allT,g0,g1,g2,g3,q4,q5,q6,q7,q10,q13,hv,l0,l1,l2,l3,l4,l5,l6,l6b,n29,n30,z00,Int.toNat_natCast];rfl
   ·have hv:bf (i:Int) (k':Int) ts stk inp ins vs xs ss'= [tmV ins vs inp xs (3,nm,num) ar (stAt ss' k')]:=by simp [bf,tmV,q4,q5,q6]
    refine⟨hv,?_,?_,?_⟩
    ·simp [bK,q4,q5,q6,show leI 7 (3:Int)=false from rfl]
    ·simp [bL,q4,q5,q6,show leI 7 (3:Int)=false from rfl]
    ·simp only [dW,lA,lB,jP,jQ,lC,lD,lE,lF,lG,kx,ky,kz,kA,kB,kC,kD,kE,kF,kG,kH,kI,kJ,kK,kL,iT,iU,iV,kM,kN,kO,iW,bK,iX,iY,bL,eQ,aW,LT.nds,allT,g0,g1,g2,g3,q4,q5,q6,q7,q10,q13,hv,l0,l1,l2,l3,l4,l5,l6,l6b,n29,n30,z00,Int.toNat_natCast];rfl
   ·have t:takesK 4=1:=rfl
    rw [t]at oI
    have s1:iZ (i:Int) ts stk=true:=by simp only [iZ,g2];exact dO (by omega)
    have s2:ja (i:Int) ts stk=true:=by simp only [ja,g2];exact fQ (by simp only [Int.toNat_zero];omega)
    have hv:bf (i:Int) (k':Int) ts stk inp ins vs xs ss'= [tmV ins vs inp xs (4,nm,num) ar (stAt ss' k')]:=by simp [bf,tmV,q4,q5,q6,q7,e14,amI a0]
    refine⟨hv,?_,?_,?_⟩
    ·simp [bK,q4,q5,q6,q7,show leI 7 (4:Int)=false from rfl]
    ·simp [bL,q4,q5,q6,q7,show leI 7 (4:Int)=false from rfl]
    ·simp only [dW,lA,lB,jP,jQ,lC,lD,lE,lF,lG,kx,ky,kz,kA,kB,kC,kD,kE,kF,kG,kH,kI,kJ,kK,kL,iT,iU,iV,kM,kN,kO,iW,bK,iX,iY,bL,eQ,aW,LT.nds,allT,g0,g1,g2,g3,q4,q5,q6,q7,q10,q13,s1,s2,hv,l0,l1,l2,l3,l4,l5,l6,l6b,n29,n30,z00,Int.toNat_natCast];rfl
   ·have t:takesK 5=2:=rfl
    rw [t]at oI
    have s1:iZ (i:Int) ts stk=true:=by simp only [iZ,g2];exact dO (by omega)
    have s2:ja (i:Int) ts stk=true:=by simp only [ja,g2];exact fQ (by simp only [Int.toNat_zero];omega)
    have s3:pq (i:Int) ts stk=true:=by simp only [pq,g2];exact dO (by omega)
    have s4:pt (i:Int) ts stk=true:=by simp only [pt,g2];exact fQ (by have:(Int.toNat 1)=1:=rfl;omega)
    have hv:bf (i:Int) (k':Int) ts stk inp ins vs xs ss'= [tmV ins vs inp xs (5,nm,num) ar (stAt ss' k')]:=by
     have:=akx a0 a1
     simp only [bf,tmV,q4,q5,q6,q7,q10,e14,g2,e1,this];rfl
    refine⟨hv,?_,?_,?_⟩
    ·simp [bK,q4,q5,q6,q7,q10,show leI 7 (5:Int)=false from rfl]
    ·simp [bL,q4,q5,q6,q7,q10,show leI 7 (5:Int)=false from rfl]
    ·simp only [dW,lA,lB,jP,jQ,lC,lD,lE,lF,lG,kx,ky,kz,kA,kB,kC,kD,kE,kF,kG,kH,kI,kJ,kK,kL,iT,iU,iV,kM,kN,kO,iW,bK,iX,iY,bL,eQ,aW,LT.nds,allT,g0,g1,g2,g3,q4,q5,q6,q7,q10,q13,s1,s2,s3,s4,hv,l0,l1,l2,l3,l4,l5,l6,l6b,n29,n30,z00,z01,Int.toNat_natCast];rfl
   ·have t:takesK 6=2:=rfl
    rw [t]at oI
    have s1:iZ (i:Int) ts stk=true:=by simp only [iZ,g2];exact dO (by omega)
    have s2:ja (i:Int) ts stk=true:=by simp only [ja,g2];exact fQ (by simp only [Int.toNat_zero];omega)
    have s3:pq (i:Int) ts stk=true:=by simp only [pq,g2];exact dO (by omega)
    have s4:pt (i:Int) ts stk=true:=by simp only [pt,g2];exact fQ (by have:(Int.toNat 1)=1:=rfl;omega)
    have hv:bf (i:Int) (k':Int) ts stk inp ins vs xs ss'= [tmV ins vs inp xs (6,nm,num) ar (stAt ss' k')]:=by
     have:=amM a0 a1
     simp only [bf,tmV,q4,q5,q6,q7,q10,q13,e14,g2,e1,this];rfl
    refine⟨hv,?_,?_,?_⟩
    ·simp [bK,q4,q5,q6,q7,q10,q13,show leI 7 (6:Int)=false from rfl]
    ·simp [bL,q4,q5,q6,q7,q10,q13,show leI 7 (6:Int)=false from rfl]
    ·simp only [dW,lA,lB,jP,jQ,lC,lD,lE,lF,lG,kx,ky,kz,kA,kB,kC,kD,kE,kF,kG,kH,kI,kJ,kK,kL,iT,iU,iV,kM,kN,kO,iW,bK,iX,iY,bL,eQ,aW,LT.nds,allT,g0,g1,g2,g3,q4,q5,q6,q7,q10,q13,s1,s2,s3,s4,hv,l0,l1,l2,l3,l4,l5,l6,l6b,n29,n30,z00,z01,Int.toNat_natCast];rfl
   ·have q:leI 7 kd=true:=bw hc.1
    obtain⟨b1,b2⟩:=hb7 q
    have hB:=UG (t:=(kd,nm,num)) hT q
    simp only at hB
    obtain⟨p0,p1,p2,p3,p4,p5,p6⟩:=alT hB b2 ha
    have t1:(kd==1)=false:=by simp;omega
    have t2:(kd==2)=false:=by simp;omega
    have t3:(kd==3)=false:=by simp;omega
    have t4:(kd==4)=false:=by simp;omega
    have t5:(kd==5)=false:=by simp;omega
    have t6:(kd==6)=false:=by simp;omega
    have m0:leI 0 (k':Int)=true:=bw (by omega)
    have m1:ltI (k':Int) (ss'.length:Int)=true:=dO (by omega)
    have m2:ltN k' ss'.length=true:=fQ b1
    have hw2:IntKind.i64.wrap ((k':Int) + 1)=((k' + 1:Nat):Int):=by rw [aR (by omega) (by omega)];omega
    have hv:bf (i:Int) (k':Int) ts stk inp ins vs xs ss'= [tmV ins vs inp xs (kd,nm,num) ar (stAt ss' k')]:=by
     simp only [bf,tmV,q4,q5,q6,q7,q10,q13,t1,t2,t3,t4,t5,t6,cond_false,g0,q15,g2,aq5]
    refine⟨hv,?_,?_,?_⟩
    ·simp only [bK,q4,q5,q6,q7,q10,q13,t1,t2,t3,t4,t5,t6,cond_false,q,cond_true,hw2]
    ·simp only [bL,q4,q5,q6,q7,q10,q13,t1,t2,t3,t4,t5,t6,cond_false,q,cond_true,g0,q15,g2,YU,Int.toNat_natCast]
    ·simp only [dW,lA,lB,jP,jQ,lC,lD,lE,lF,lG,kx,ky,kz,kA,kB,kC,kD,kE,kF,kG,kH,kI,kJ,kK,kL,iT,iU,iV,kM,kN,kO,iW,bK,iX,iY,bL,eQ,aW,LT.nds,allT,g0,g1,g2,g3,q4,q5,q6,q7,q10,q13,t1,t2,t3,t4,t5,t6,hv,p5,m0,m1,m2,l0,l1,l2,l3,l4,l5,l6,l6b,n29,n30,z00,z01,Int.toNat_natCast];rfl
  obtain⟨f1,f2,f3,f4⟩:=hfin
  refine⟨f4,?_,?_,fun a' hf=> ?_⟩
  ·have c31:iW (i:Int)=((i + 1:Nat):Int):=hw
   have c0:dW (i:Int) ts=true:=l0
   simp only [aW,eQ,LT.each,c0,c31,f2,y0,Int.toNat_natCast]
   simp
  ·have c0:dW (i:Int) ts=true:=l0
   simp only [aW,eQ,LT.fn,c0,cond_true,iX,f1,f2,f3,g3,Int.toNat_natCast,lnS,hA]
  ·simp only [Sum.inr.injEq]at hf
   subst hf;exact hI2
 ·have bM:dW (ts.length:Int) ts=false:=QB (by omega)
  simp only [aW,eQ,LT.out,bM]
  rfl
abbrev bY:=Int×Int×List (ByteArray×(List (Int×(ByteArray×Int))))×ByteArray×ByteArray×Int×List ByteArray×List ByteArray×List ByteArray×List Int×List (Int×(Int×Int))×List Int×List Int
def aK(y0:Int)(y2:List (ByteArray×(List (Int×(ByteArray×Int))))):ByteArray×List (Int×ByteArray×Int):=Option.getD y2[Int.toNat y0]? (rY (CTy.pair CTy.str (CTy.sl (178:Nat) acD)))
def gm(y0 y1:Int):Bool:=ltI y0 y1
def gn(y0:Int):Bool:=leI (0:Int) y0
def gp(y0:Int)(y2:List (ByteArray×(List (Int×(ByteArray×Int))))):Bool:=ltI y0 (↑y2.length:Int)
def gq(y0:Int)(y2:List (ByteArray×(List (Int×(ByteArray×Int))))):Bool:=ltN y0.toNat y2.length
def gr(y0:Int)(y2:List (ByteArray×(List (Int×(ByteArray×Int)))))(y3 y4:ByteArray)(y5:Int)(y6 y7 y8:List ByteArray)(y9:List Int)(y10:List (Int×(Int×Int)))(y11 y12:List Int):Bool:=fN ((aK y0 y2).1) y3 y4 y5 ((aK y0 y2).2) y6 y7 y8 y2 y9 y10 y11 y12
def gt(y0:Int):Int:=IntKind.wrap .i64 (y0 + (1:Int))
def gu(y0:Int)(y2:List (ByteArray×(List (Int×(ByteArray×Int)))))(y3 y4:ByteArray)(y5:Int)(y6 y7 y8:List ByteArray)(y9:List Int)(y10:List (Int×(Int×Int)))(y11 y12:List Int):ByteArray:=jZ y3 y4 y5 ((aK y0 y2).2) y6 y7 y8 y2 y9 y10 y11 y12
def gv(y0:Int)(y2:List (ByteArray×(List (Int×(ByteArray×Int)))))(y3 y4:ByteArray)(y5:Int)(y6 y7 y8:List ByteArray)(y9:List Int)(y10:List (Int×(Int×Int)))(y11 y12:List Int):ByteArray:=ka y3 y4 y5 ((aK y0 y2).2) y6 y7 y8 y2 y9 y10 y11 y12
def gw(y0:Int)(y2:List (ByteArray×(List (Int×(ByteArray×Int)))))(y3 y4:ByteArray)(y5:Int)(y6 y7 y8:List ByteArray)(y9:List Int)(y10:List (Int×(Int×Int)))(y11 y12:List Int):Int:=kb y3 y4 y5 ((aK y0 y2).2) y6 y7 y8 y2 y9 y10 y11 y12
def gx(y0:Int)(y2:List (ByteArray×(List (Int×(ByteArray×Int)))))(y3 y4:ByteArray)(y5:Int)(y6 y7 y8:List ByteArray)(y9:List Int)(y10:List (Int×(Int×Int)))(y11 y12:List Int):List Int:=ke ((aK y0 y2).1) y3 y4 y5 ((aK y0 y2).2) y6 y7 y8 y2 y9 y10 y11 y12
def fL(y0:Int)(y2:List (ByteArray×(List (Int×(ByteArray×Int)))))(y3 y4:ByteArray)(y5:Int)(y6 y7 y8:List ByteArray)(y9:List Int)(y10:List (Int×(Int×Int)))(y11 y12:List Int):List (Int×(Int×Int)):=kf y3 y4 y5 ((aK y0 y2).2) y6 y7 y8 y2 y9 y10 y11 y12
def fM(y0:Int)(y2:List (ByteArray×(List (Int×(ByteArray×Int)))))(y3 y4:ByteArray)(y5:Int)(y6 y7 y8:List ByteArray)(y9:List Int)(y10:List (Int×(Int×Int)))(y11 y12:List Int):List Int:=kg ((aK y0 y2).1) y3 y4 y5 ((aK y0 y2).2) y6 y7 y8 y2 y9 y10 y11 y12
def Hm:bY→List (Nat×SV)
 |(y0,y1,_,_,_,_,_,_,_,_,_,_,_)=> [(24,(.one ⟨false,[.val (.int .i64 y0)]⟩)),(23,(.one ⟨false,[.val (.int .i64 y1)]⟩)),(22,(.one ⟨false,[.ref 0]⟩)),(8,(.one ⟨false,[.ptr 1 0]⟩))]
def Hk:bY→List (Nat×Entry)
 |(_,_,y2,y3,y4,y5,y6,y7,y8,y9,y10,y11,y12)=> [(0,(.row false 204 (CTy.pair CTy.str (CTy.sl (178:Nat) acD)) y2)),(1,(.box 202 [.val (.string y3),.ref 2,.ref 3,.ref 4,.val (.string y4),.ref 0,.ref 5,.ref 6,.ref 7,.ref 8,.val (.int .i64 y5)])),(2,(.row false 9 aih y6)),(3,(.row false 9 aih y7)),(4,(.row false 9 aih y8)),(5,(.row true 2 agR y9)),(6,(.row true 172 abM y10)),(7,(.row false 2 agR y11)),(8,(.row true 2 agR y12))]
def Hr:Nat→bY→List (Nat×SV)
 |_,(_,_,_,_,_,_,_,_,_,_,_,_,_)=> []
def Ho:Nat→bY→List (Nat×Entry)
 |_,(_,_,y2,y3,y4,y5,y6,y7,y8,y9,y10,y11,y12)=> [(0,(.row false 204 (CTy.pair CTy.str (CTy.sl (178:Nat) acD)) y2)),(1,(.box 202 [.val (.string y3),.ref 2,.ref 3,.ref 4,.val (.string y4),.ref 0,.ref 5,.ref 6,.ref 7,.ref 8,.val (.int .i64 y5)])),(2,(.row false 9 aih y6)),(3,(.row false 9 aih y7)),(4,(.row false 9 aih y8)),(5,(.row true 2 agR y9)),(6,(.row true 172 abM y10)),(7,(.row false 2 agR y11)),(8,(.row true 2 agR y12))]
def fS:bY→LT bY
 |(y0,y1,y2,y3,y4,y5,y6,y7,y8,y9,y10,y11,y12)=> .ite (gm y0 y1) (.need [gn y0,gp y0 y2,gq y0 y2] (.need [gr y0 y2 y3 y4 y5 y6 y7 y8 y9 y10 y11 y12] (.nrm ((gt y0),y1,y2,gu y0 y2 y3 y4 y5 y6 y7 y8 y9 y10 y11 y12,gv y0 y2 y3 y4 y5 y6 y7 y8 y9 y10 y11 y12,gw y0 y2 y3 y4 y5 y6 y7 y8 y9 y10 y11 y12,y6,y7,y8,gx y0 y2 y3 y4 y5 y6 y7 y8 y9 y10 y11 y12,fL y0 y2 y3 y4 y5 y6 y7 y8 y9 y10 y11 y12,y11,(fM y0 y2 y3 y4 y5 y6 y7 y8 y9 y10 y11 y12)) [(0,0),(1,1),(2,2),(3,3),(4,4),(5,5),(6,6),(7,7),(8,8)]))) (.ext 0 [(0,0),(1,1),(2,2),(3,3),(4,4),(5,5),(6,6),(7,7),(8,8)])
def pb(s:St):Option bY:=
 (match s.look 24 with
 |some ⟨none,.one ⟨false,[.val (.int .i64 y0)]⟩⟩=>
 (match s.look 23 with
 |some ⟨none,.one ⟨false,[.val (.int .i64 y1)]⟩⟩=>
 (match s.look 22 with
 |some ⟨none,.one ⟨false,[.ref 3]⟩⟩=>
 (match s.look 8 with
 |some ⟨none,.one ⟨false,[.ptr 1344 0]⟩⟩=>
 (match s.ent 3 with
 |some (.row false 204 (.pair .str (.sl (178:Nat) (.pair (.int .i64) (.pair .str (.int .i64))))) y2)=>
 (match s.ent 1344 with
 |some (.box 202 [.val (.string y3),.ref 0,.ref 1,.ref 2,.val (.string y4),.ref 3,.ref 896,.ref 897,.ref 6,.ref 1216,.val (.int .i64 y5)])=>
 (match s.ent 0 with
 |some (.row false 9 (.str) y6)=>
 (match s.ent 1 with
 |some (.row false 9 (.str) y7)=>
 (match s.ent 2 with
 |some (.row false 9 (.str) y8)=>
 (match s.ent 896 with
 |some (.row true 2 (.int .i64) y9)=>
 (match s.ent 897 with
 |some (.row true 172 (.pair (.int .i64) (.pair (.int .i64) (.int .i64))) y10)=>
 (match s.ent 6 with
 |some (.row false 2 (.int .i64) y11)=>
 (match s.ent 1216 with
 |some (.row true 2 (.int .i64) y12)=>
 some (y0,y1,y2,y3,y4,y5,y6,y7,y8,y9,y10,y11,y12)
 |_=>none)
 |_=>none)
 |_=>none)
 |_=>none)
 |_=>none)
 |_=>none)
 |_=>none)
 |_=>none)
 |_=>none)
 |_=>none)
 |_=>none)
 |_=>none)
 |_=>none)
def aE:Lp bY where
 h:=⟨[25,26,27,10,28,29,30,31,24],[0,1,2,3,4,5,6,7,8],[],[]⟩
 JL:=Hm
 JE:=Hk
 XL:=Hr
 XE:=Ho
 q:=fun j=>match j with | _=> .exit 0
 tags:= [0]
 lt:=fS
 fuel:=fun(y0,y1,y2,y3,y4,y5,y6,y7,y8,y9,y10,y11,y12)=>y0.natAbs + y1.natAbs + y2.length + y3.size + y4.size + y5.natAbs + y6.length + y7.length + y8.length + y9.length + y10.length + y11.length + y12.length
 fix:=fun(_,y1,y2,_,_,_,y6,y7,y8,_,_,y11,_) (y0,_,_,y3,y4,y5,_,_,_,y9,y10,_,y12)=>(y0,y1,y2,y3,y4,y5,y6,y7,y8,y9,y10,y11,y12)
 σ:= [(0,3),(1,1344),(2,0),(3,1),(4,2),(5,896),(6,897),(7,6),(8,1216)]
 rd:=pb
theorem FI:LoopOk prog (fun k=>Nat.blt k Tryz.f111.ntmps) aE.F (aL f111 0):=by
 refine Lp.ok (tbl:= [xD,vK,vj]) (lf:= []) aN aE (by kernel_rfl) (LOk.nil _) (fun _=>rfl) (fun _ _=>rfl) ?_ ?_ ?_ ?_ (fun _=>rfl) ?_
 ·rintro⟨y0,y1,y2,y3,y4,y5,y6,y7,y8,y9,y10,y11,y12⟩;kernel_rfl
 ·rintro⟨y0,y1,y2,y3,y4,y5,y6,y7,y8,y9,y10,y11,y12⟩;kernel_rfl
 ·intro s x h
  have h:pb s=some x:=h
  unfold pb at h
  repeat' split at h
  all_goals cases h
  exact⟨aa (by assumption) rfl (aa (by assumption) rfl (aa (by assumption) rfl (aa (by assumption) rfl (rfl)))),ab rfl (by assumption) rfl (ab rfl (by assumption) rfl (ab rfl (by assumption) rfl (ab rfl (by assumption) rfl (ab rfl (by assumption) rfl (ab rfl (by assumption) rfl (ab rfl (by assumption) rfl (ab rfl (by assumption) rfl (ab rfl (by assumption) rfl (rfl)))))))))⟩
 ·rintro⟨y0,y1,y2,y3,y4,y5,y6,y7,y8,y9,y10,y11,y12⟩;kernel_rfl
 ·rintro⟨y0,y1,y2,y3,y4,y5,y6,y7,y8,y9,y10,y11,y12⟩ z;exact(And.intro rfl trivial)
section
variable (x0 x1:ByteArray)(x2 x3 x4:List ByteArray)(x5:List (ByteArray×List (Int×ByteArray×Int)))(x6:List Int)(x7:List (Int×Int×Int))(x8:List Int)
def df:Bool:= !ByteArray.toList x1==ByteArray.toList (ByteArray.mk #[])
def im:Int×Int×List (ByteArray×List (Int×ByteArray×Int))×ByteArray×ByteArray×Int×List ByteArray×List ByteArray×List ByteArray×List Int×List (Int×Int×Int)×List Int×List Int:=((0:Int),(↑x5.length:Int),x5,x0,x1,(0:Int),x2,x3,x4,x6,x7,x8,List.replicate (Int.toNat (↑x4.length:Int)) (0:Int))
def lu:List Int×List (Int×Int×Int)×List Int×List Int:=(Lp.res aE (im x0 x1 x2 x3 x4 x5 x6 x7 x8)).2.2.2.2.2.2.2.2.2.2
def eD:List Int:=(lu x0 x1 x2 x3 x4 x5 x6 x7 x8).1
def lv:List (Int×Int×Int)×List Int×List Int:=(lu x0 x1 x2 x3 x4 x5 x6 x7 x8).2
def qp:List Int:=(lv x0 x1 x2 x3 x4 x5 x6 x7 x8).2.2
def lw:List Int:=bif df x1&&true then oE x1 x2 (qp x0 x1 x2 x3 x4 x5 x6 x7 x8)else qp x0 x1 x2 x3 x4 x5 x6 x7 x8
def lx:List (Int×Int×Int):=(lv x0 x1 x2 x3 x4 x5 x6 x7 x8).1
def qM:List Int:=bif bif df x1 then jB x1 x2 x3 (eD x0 x1 x2 x3 x4 x5 x6 x7 x8) x8==(0:Int)else false then Xm (List.length (lw x0 x1 x2 x3 x4 x5 x6 x7 x8))else lw x0 x1 x2 x3 x4 x5 x6 x7 x8
def qN:List Int:=bif df x1&&true then oC x1 x2 (eD x0 x1 x2 x3 x4 x5 x6 x7 x8)else eD x0 x1 x2 x3 x4 x5 x6 x7 x8
def qO:List (Int×(Int×Int)):=bif df x1&&true then oD x1 x2 (lx x0 x1 x2 x3 x4 x5 x6 x7 x8)else lx x0 x1 x2 x3 x4 x5 x6 x7 x8
def qP:Bool:=allT [ln x6 x7,leI (0:Int) (↑x4.length:Int),leI (↑x4.length:Int) (↑x4.length:Int),leI ((↑(8:Nat):Int) * (↑x4.length:Int)) (281474976710656:Int),leI (↑x4.length:Int) (9223372036854775807:Int),Lp.fin aE (im x0 x1 x2 x3 x4 x5 x6 x7 x8),!(df x1&&true)||jC x1 x2 x3 (eD x0 x1 x2 x3 x4 x5 x6 x7 x8) x8]
end
def yt:List SV→List Entry→Option Out
 | [.one ⟨true,[.val (.string x0),.ref 0,.ref 1,.ref 2,.val (.string x1),.ref 3]⟩,.one ⟨true,[.ref 4,.ref 5]⟩,.one ⟨false,[.ref 6]⟩],[.row false 9 (.str) x2,.row false 9 (.str) x3,.row false 9 (.str) x4,.row false 204 (.pair (.str) (.sl 178 (.pair (.int .i64) (.pair (.str) (.int .i64))))) x5,.row false 2 (.int .i64) x6,.row false 172 (.pair (.int .i64) (.pair (.int .i64) (.int .i64))) x7,.row false 2 (.int .i64) x8]=>some ⟨.tup [⟨false,[.ref 7]⟩,⟨true,[.ref 8,.ref 9]⟩],[.row false 9 aih x2,.row false 9 aih x3,.row false 9 aih x4,.row false 204 (CTy.pair CTy.str (CTy.sl (178:TypeId) acD)) x5,.row false 2 agR x6,.row false 172 abM x7,.row false 2 agR x8],[.row true 2 agR (qM x0 x1 x2 x3 x4 x5 x6 x7 x8),.row true 2 agR (qN x0 x1 x2 x3 x4 x5 x6 x7 x8),.row true 172 abM (qO x0 x1 x2 x3 x4 x5 x6 x7 x8)],[qP x0 x1 x2 x3 x4 x5 x6 x7 x8]⟩
 |_,_=>none
def Ki:PF prog:=PF.ofG prog [xD,vK,vj] [aE.F] aN 111 f111 func111 (LOk.fnT (l:= [aL f111 0]) (by kernel_rfl) (.cons FI (.nil _))) yt (by
 intro vs es r h;unfold yt at h;split at h
 ·cases h;kernel_rfl
 ·cases h)
structure ScH (ins vs os:List ByteArray) (inp:List Int) (ls:List LN):Prop where
 hi:bitsB ins.length inp=true
 hL:ls.all lineB=true
 hm:ls.all (madeB vs os)=true
 hu:ls.all (fun l=>l.2.all (usedB ins vs))=true
 hn:ls.length≤40
 h1:ins.length≤20
 h2:vs.length≤20
 h3:os.length≤20
theorem apC: ∀ (ls:List LN),ls.all lineB=true→(blL ls).length≤40 * ls.length
 | [],_=>by simp [blL]
 |l::r,h=>by
  simp only [List.all_cons,Bool.and_eq_true]at h
  have h1:=apC r h.2
  have h2:=(abO h.1).2.1
  have h3:(blT l.2).length≤l.2.length:=List.length_filter_le ..
  have h4:blL (l::r)=blT l.2++blL r:=rfl
  rw [h4,List.length_append,List.length_cons]
  omega
theorem ScH.bl{ins vs os:List ByteArray}{inp:List Int}{ls:List LN}(h:ScH ins vs os inp ls):(blL ls).length≤1600:=by
 have:=apC ls h.hL
 have:=h.hn
 omega
theorem ScH.line{ins vs os:List ByteArray}{inp:List Int}{ls:List LN}(h:ScH ins vs os inp ls){i:Nat}{a:SS4}{l:LN}(hl:ls[i]? =some l)(hI:ScAt vs os ls i a):
  LineH ins vs inp a.1 (blL (ls.take i)) (blL (ls.drop (i + 1))) l.2:=by
 have hm:=List.mem_of_getElem? hl
 obtain⟨q1,q2,q3⟩:=abO (List.all_eq_true.1 h.hL l hm)
 have h1:=h.h1
 have h2:=h.h2
 have hb:=h.bl
 rw [(abE hl).1]at hb
 exact⟨h.hi,hI.hx,⟨1,q3⟩,List.all_eq_true.1 h.hu l hm,q2,by omega,dv (by omega),dv (by omega)⟩
theorem anU{ins vs os:List ByteArray}{inp:List Int}{ls:List LN}(h:ScH ins vs os inp ls){i:Nat}{a:SS4}{l:LN}(hl:ls[i]? =some l)(hI:ScAt vs os ls i a)(u v:ByteArray):
  (jZ u v (a.2.2.2:Int) l.2 ins vs os ls a.1 a.2.2.1 inp a.2.1=u∧
  ka u v (a.2.2.2:Int) l.2 ins vs os ls a.1 a.2.2.1 inp a.2.1=v∧
  kb u v (a.2.2.2:Int) l.2 ins vs os ls a.1 a.2.2.1 inp a.2.1=((scS ins vs os inp l a).2.2.2:Int))∧
  ke l.1 u v (a.2.2.2:Int) l.2 ins vs os ls a.1 a.2.2.1 inp a.2.1=(scS ins vs os inp l a).1∧
  kf u v (a.2.2.2:Int) l.2 ins vs os ls a.1 a.2.2.1 inp a.2.1=(scS ins vs os inp l a).2.2.1∧
  kg l.1 u v (a.2.2.2:Int) l.2 ins vs os ls a.1 a.2.2.1 inp a.2.1=(scS ins vs os inp l a).2.1∧
  fN l.1 u v (a.2.2.2:Int) l.2 ins vs os ls a.1 a.2.2.1 inp a.2.1=true:=by
 obtain⟨w1,w2⟩:=apZ (h.line hl hI) u v os ls a.2.1 a.2.2.1 a.2.2.2 (ahs hl hI)
 have hm:=List.mem_of_getElem? hl
 obtain⟨g1,g2,g3⟩:=Xe (ins:=ins) (inp:=inp) h.hi (List.all_eq_true.1 h.hL l hm) hl hI
 have hmd:(mw vs l.1||mw os l.1)=true:=List.all_eq_true.1 h.hm l hm
 have h2:=h.h2
 have h3:=h.h3
 have hx:=(fj.1 hI.hx).2
 have ho:=(fj.1 hI.ho).2
 rw [show aex ins vs inp a.1 l.2 ([],a.2.2.1,a.2.2.2)=lnV ins vs inp l a from rfl]at w2
 have e5:fq u v (a.2.2.2:Int) l.2 ins vs os ls a.1 a.2.2.1 inp a.2.1=(lnV ins vs inp l a).1:=by
  simp only [fq,cw,bI,w2]
 have e6:jx u v (a.2.2.2:Int) l.2 ins vs os ls a.1 a.2.2.1 inp a.2.1=atZ (lnV ins vs inp l a).1 0:=by
  simp only [jx,e5];rfl
 have e7:jy u v (a.2.2.2:Int) l.2 ins vs os ls a.1 a.2.2.1 inp a.2.1=true:=by
  simp only [jy,e5,g1];rfl
 have e8:jz u v (a.2.2.2:Int) l.2 ins vs os ls a.1 a.2.2.1 inp a.2.1=true:=by
  simp only [jz,e5,g1];rfl
 have z0:leI (0:Int) 0=true:=rfl
 refine⟨⟨?_,?_,?_⟩,?_,?_,?_,?_⟩
 ·simp only [jZ,dw,cw,bI,w2]
 ·simp only [ka,fo,dw,cw,bI,w2]
 ·simp only [kb,jw,fo,dw,cw,bI,w2,scS]
 ·simp only [ke,e6,Sa,scS]
  cases hv:mw vs l.1 with
  |true=>simp only [cond_true,Ry hv,Int.toNat_natCast]
  |false=>rfl
 ·simp only [kf,jw,fo,dw,cw,bI,w2,scS]
 ·simp only [kg,e6,Sa,scS]
  cases hv:mw vs l.1 with
  |true=>rfl
  |false=>
   have ho':mw os l.1=true:=by simpa [hv] using hmd
   simp only [cond_false,Ry ho',Int.toNat_natCast]
 ·have l1:leN vs.length 9223372036854775807=true:=dv (by omega)
  have l2:leN os.length 9223372036854775807=true:=dv (by omega)
  have hf:Lp.fin ak (bI u v (a.2.2.2:Int) l.2 ins vs os ls a.1 a.2.2.1 inp a.2.1)=true:=w1
  cases hv:mw vs l.1 with
  |true=>
   have hp:=Yh hv
   have k1:ltI (Sr vs l.1:Int) (a.1.length:Int)=true:=dO (by omega)
   have k2:ltN (Sr vs l.1) a.1.length=true:=fQ (by omega)
   simp only [fN,hf,Sa,hv,Ry hv,Qw.1,e7,e8,z0,l1,k1,k2,allT,Int.toNat_natCast,Bool.or_true,Bool.true_or,cond_true]
  |false=>
   have ho':mw os l.1=true:=by simpa [hv] using hmd
   have hp:=Yh ho'
   have k1:ltI (Sr os l.1:Int) (a.2.1.length:Int)=true:=dO (by omega)
   have k2:ltN (Sr os l.1) a.2.1.length=true:=fQ (by omega)
   simp only [fN,hf,Sa,hv,ho',Ry ho',Qw.1,e7,e8,z0,l1,l2,k1,k2,allT,Int.toNat_natCast,Bool.or_true,Bool.true_or,Bool.not_false,cond_true]
theorem ap0{ins vs os:List ByteArray}{inp:List Int}{ls:List LN}(h:ScH ins vs os inp ls){i:Nat}{a:SS4}{l:LN}(hl:ls[i]? =some l)(hI:ScAt vs os ls i a)(u v:ByteArray):
  Fc u v (a.2.2.2:Int) ins vs os ls a.1 a.2.2.1 inp l.2=atZ (lnV ins vs inp l a).1 0∧
  Fd u v (a.2.2.2:Int) ins vs os ls a.1 a.2.2.1 inp l.2=a.1∧
  Fe u v (a.2.2.2:Int) ins vs os ls a.1 a.2.2.1 inp l.2=(scS ins vs os inp l a).2.2.1∧
  Ff u v (a.2.2.2:Int) ins vs os ls a.1 a.2.2.1 inp l.2=true:=by
 obtain⟨w1,w2⟩:=ap1 (h.line hl hI) u v os ls a.2.2.1 a.2.2.2 (ahs hl hI)
 have hm:=List.mem_of_getElem? hl
 obtain⟨g1,g2,g3⟩:=Xe (ins:=ins) (inp:=inp) h.hi (List.all_eq_true.1 h.hL l hm) hl hI
 rw [show aex ins vs inp a.1 l.2 ([],a.2.2.1,a.2.2.2)=lnV ins vs inp l a from rfl]at w2
 have e2:xI u v (a.2.2.2:Int) ins vs os ls a.1 a.2.2.1 inp l.2=(lnV ins vs inp l a).1:=by
  simp only [xI,xH,tO,w2]
 have z0:leI (0:Int) 0=true:=rfl
 have k1:ltI 0 ((lnV ins vs inp l a).1.length:Int)=true:=by rw [g1];rfl
 have k2:ltN (Int.toNat 0) (lnV ins vs inp l a).1.length=true:=by rw [g1];rfl
 have hf:Lp.fin aW (tO u v (a.2.2.2:Int) ins vs os ls a.1 a.2.2.1 inp l.2)=true:=w1
 refine⟨?_,?_,?_,?_⟩
 ·simp only [Fc,e2];rfl
 ·simp only [Fd,DK,xH,tO,w2]
 ·simp only [Fe,DK,xH,tO,w2,scS]
 ·simp only [Ff,hf,e2,z0,k1,k2,allT,cond_true]
def anA(n:Nat)(t:TM):Nat:=bif leI 7 t.1 then n + 1 else n
theorem akI: ∀ (ts:List TM) (n:Nat),ts.foldl anA n=n + (blT ts).length
 | [],n=>by simp [blT]
 |t::r,n=>by
  rw [List.foldl_cons,akI r]
  simp only [anA,blT,List.filter_cons]
  cases leI 7 t.1 <;> simp <;> omega
theorem ark(u v:ByteArray)(ins vs os:List ByteArray)(ls:List LN){i k:Nat}{l:LN}(hl:ls[i]? =some l)(hn:l.2.length≤40)(hk:k≤2000):
  fB.fin ((0:Int),(i:Int),(k:Int),u,v,ins,vs,os,ls)=true∧
  fB.res ((0:Int),(i:Int),(k:Int),u,v,ins,vs,os,ls)=(0,((l.2.length:Int),(i:Int),((k + (blT l.2).length:Nat):Int),u,v,ins,vs,os,ls)):=by
 have eB:=(List.getElem?_eq_some_iff.1 hl).1
 have n0:leI 0 (i:Int)=true:=bw (by omega)
 have n1:ltI (i:Int) (ls.length:Int)=true:=dO (by omega)
 have n2:ltN i ls.length=true:=fQ eB
 have il: ∀ d:LN,Option.getD ls[i]? d=l:=fun d=>by rw [hl];rfl
 have g0:xJ (i:Int) ls=l.2:=by simp only [xJ,Int.toNat_natCast];exact congrArg Prod.snd (il _)
 have jb:=fB.along2 (fun j (a:Nat)=>((j:Int),(i:Int),(a:Int),u,v,ins,vs,os,ls)) (fun x=>x.2.2.1.toNat)
  (fun(t:TM) a=> .inr (anA a t)) 0 (fun j a=>a≤k + j) l.2 k (by omega) (by omega) (fun j t a hb hI=> ?_) (fun a hI=> ?_)
 ·rw [Lm (g:=anA) (fun b a=>rfl),akI]at jb
  simpa using jb
 ·have hjt:=(List.getElem?_eq_some_iff.1 hb).1
  have hw:IntKind.i64.wrap ((j:Int) + 1)=((j + 1:Nat):Int):=by rw [aR (by omega) (by omega)];omega
  have hw2:IntKind.i64.wrap ((a:Int) + 1)=((a + 1:Nat):Int):=by rw [aR (by omega) (by omega)];omega
  have l0:leI 0 (j:Int)=true:=bw (by omega)
  have l1:ltI (j:Int) (l.2.length:Int)=true:=dO (by omega)
  have l2:ltN j l.2.length=true:=fQ hjt
  have c7:Ll (j:Int) (i:Int) (a:Int) ls=((anA a t:Nat):Int):=by
   simp only [Ll,g0,Int.toNat_natCast,hb,Option.getD_some,hw2,anA]
   cases leI 7 t.1 <;> rfl
  refine⟨?_,?_,?_,fun a' hf=> ?_⟩
  ·simp only [fB,xB,Fh,Fi,Fj,vA,RU,RW,LT.nds,allT,g0,n0,n1,n2,l0,l1,l2,Int.toNat_natCast,cond_true,Bool.and_self]
  ·simp only [fB,xB,vA,RX,LT.each,c7,g0,l1,hw,Int.toNat_natCast,Bool.and_true,and_self]
  ·simp only [fB,xB,vA,LT.fn,c7,g0,l1,Int.toNat_natCast,cond_true]
  ·simp only [Sum.inr.injEq]at hf
   subst hf
   simp only [anA]
   cases leI 7 t.1 <;> simp <;> omega
 ·have bM:ltI (l.2.length:Int) (l.2.length:Int)=false:=QB (by omega)
  simp [fB,xB,Fh,Fi,Fj,vA,LT.out,g0,n0,n1,n2,bM,allT]
theorem als(ins vs os:List ByteArray)(inp:List Int): ∀ (ls:List LN) (a:SS4),ls.foldl (fun a l=>scS ins vs os inp l a) a=aoc ins vs os inp ls a
 | [],a=>rfl
 |l::r,a=>by rw [List.foldl_cons,als ins vs os inp r];rfl
theorem aqk{ins vs os:List ByteArray}{inp xs:List Int}{ss:List BS3}{ls:List LN}(h:ScH ins vs os inp ls)(hs:Hg vs.length (blL ls) xs ss=true)(u v:ByteArray):
  iF.fin ((0:Int),(0:Int),u,v,inp,List.replicate os.length 0,ins,vs,os,ls,xs,ss)=true∧
  iF.res ((0:Int),(0:Int),u,v,inp,List.replicate os.length 0,ins,vs,os,ls,xs,ss)=
   (0,((ls.length:Int),((scE ins vs os ls inp xs ss).2.2.2:Int),u,v,inp,(scE ins vs os ls inp xs ss).2.1,ins,vs,os,ls,(scE ins vs os ls inp xs ss).1,(scE ins vs os ls inp xs ss).2.2.1)):=by
 obtain⟨s1,s2,s3⟩:=Ru.1 hs
 have h0:ScAt vs os ls 0 (xs,List.replicate os.length 0,ss,0):=⟨s2,fj.2 ⟨fun z hz=> .inl (List.eq_of_mem_replicate hz),by simp⟩,s1,s3,by simp [blL]⟩
 have hn:=h.hn
 have h2:=h.h2
 have h3:=h.h3
 have jb:=iF.along2 (fun i (a:SS4)=>((i:Int),(a.2.2.2:Int),u,v,inp,a.2.1,ins,vs,os,ls,a.1,a.2.2.1)) (fun x=>(x.2.2.2.2.2.2.2.2.2.2.1,x.2.2.2.2.2.1,x.2.2.2.2.2.2.2.2.2.2.2,x.2.1.toNat))
  (fun(l:LN) a=> .inr (scS ins vs os inp l a)) 0 (fun i a=>ScAt vs os ls i a) ls (xs,List.replicate os.length 0,ss,0) h0 (by omega) (fun i l a hb hI=> ?_) (fun a hI=> ?_)
 ·rw [Lm (g:=fun a l=>scS ins vs os inp l a) (fun b a=>rfl),als]at jb
  simpa [scE] using jb
 ·have eB:=(List.getElem?_eq_some_iff.1 hb).1
  have hm:=List.mem_of_getElem? hb
  have hL:=List.all_eq_true.1 h.hL l hm
  have hw:IntKind.i64.wrap ((i:Int) + 1)=((i + 1:Nat):Int):=by rw [aR (by omega) (by omega)];omega
  obtain⟨g1,g2,g3⟩:=Xe (ins:=ins) (inp:=inp) h.hi hL hb hI
  obtain⟨r0,r1,r2,r3⟩:=ap0 h hb hI u v
  have hbl:=h.bl
  have hsp:=(abE hb).2
  have hspl:=(abE hb).1
  have hk1:=hI.hk
  have hk2:=g3.hk
  have hkk:a.2.2.2≤2000:=by
   rw [hspl,List.length_append,List.length_append]at hbl
   omega
  obtain⟨c1,c2⟩:=ark u v ins vs os ls hb (abO hL).2.1 hkk
  have hknew:a.2.2.2 + (blT l.2).length=(scS ins vs os inp l a).2.2.2:=by omega
  have hmd:(mw vs l.1||mw os l.1)=true:=List.all_eq_true.1 h.hm l hm
  have hx:=(fj.1 hI.hx).2
  have ho:=(fj.1 hI.ho).2
  have q0:OD (i:Int) ls=true:=dO (by omega)
  have q1:OE (i:Int) ls=true:=fQ (by simpa using eB)
  have il: ∀ d:LN,Option.getD ls[i]? d=l:=fun d=>by rw [hb];rfl
  have q2:rM (i:Int) ls=l:=by simp only [rM,Int.toNat_natCast];exact il _
  have q3:dj (i:Int) vs ls=iQ vs l.1:=by simp only [dj,q2]
  have q5:yp (i:Int) os ls=iQ os l.1:=by simp only [yp,q2]
  have q4:yo (i:Int) (a.2.2.2:Int) u v inp ins vs os ls a.1 a.2.2.1=a.1:=by simp only [yo,q2,r1]
  have q7:Ir (i:Int) (a.2.2.2:Int) u v inp ins vs os ls a.1 a.2.2.1=atZ (lnV ins vs inp l a).1 0:=by simp only [Ir,q2,r0]
  have p1:Qh (i:Int)=true:=bw (by omega)
  have p3:Qj (i:Int) (a.2.2.2:Int) u v inp ins vs os ls a.1 a.2.2.1=true:=by simp only [Qj,q2,r3]
  have p4:Vu vs=true:=dv (by omega)
  have p15:UC (i:Int) (a.2.2.2:Int) u v ins vs os ls=true:=c1
  have p16:UD (i:Int)=((i + 1:Nat):Int):=hw
  have p17:Oz (i:Int) (a.2.2.2:Int) u v ins vs os ls=((scS ins vs os inp l a).2.2.2:Int):=by
   simp only [Oz,OG,c2,hknew]
  have p20:OC (i:Int) (a.2.2.2:Int) u v inp ins vs os ls a.1 a.2.2.1=(scS ins vs os inp l a).2.2.1:=by simp only [OC,q2,r2]
  have p18:OA (i:Int) (a.2.2.2:Int) u v inp a.2.1 ins vs os ls a.1 a.2.2.1=(scS ins vs os inp l a).2.1:=by
   simp only [OA,q3,q5,q7,Sa,scS]
   cases hv:mw vs l.1 with
   |true=>rfl
   |false=>
    have ho':mw os l.1=true:=by simpa [hv] using hmd
    simp only [cond_false,Ry ho',Int.toNat_natCast]
  have p19:OB (i:Int) (a.2.2.2:Int) u v inp ins vs os ls a.1 a.2.2.1=(scS ins vs os inp l a).1:=by
   simp only [OB,q3,q4,q7,Sa,scS]
   cases hv:mw vs l.1 with
   |true=>simp only [cond_true,Ry hv,Int.toNat_natCast]
   |false=>rfl
  have pm:Qk (i:Int) vs ls=true∧Ql (i:Int) (a.2.2.2:Int) u v inp ins vs os ls a.1 a.2.2.1=true∧Qm (i:Int) (a.2.2.2:Int) u v inp ins vs os ls a.1 a.2.2.1=true∧
    Qn (i:Int) vs ls=true∧Qo (i:Int) vs ls=true∧Ou (i:Int) vs ls=true∧Ov (i:Int) vs os ls=true∧
    Ow (i:Int) vs os ls=true∧Ox (i:Int) a.2.1 vs os ls=true∧Oy (i:Int) a.2.1 vs os ls=true:=by
   simp only [Qk,Ql,Qm,Qn,Qo,Ou,Ov,Ow,Ox,Oy,q0,q1,q3,q4,q5,Sa]
   have m1:leI 0 (i:Int)=true:=p1
   have m2:leN os.length 9223372036854775807=true:=dv (by omega)
   cases hv:mw vs l.1 with
   |true=>
    have hp:=Yh hv
    have k1:ltI (Sr vs l.1:Int) (a.1.length:Int)=true:=dO (by omega)
    have k2:ltN (Sr vs l.1) a.1.length=true:=fQ (by omega)
    simp only [Ry hv,Qw.1,k1,k2,Int.toNat_natCast,Bool.or_true,Bool.true_or,and_self]
   |false=>
    have ho':mw os l.1=true:=by simpa [hv] using hmd
    have hp:=Yh ho'
    have k1:ltI (Sr os l.1:Int) (a.2.1.length:Int)=true:=dO (by omega)
    have k2:ltN (Sr os l.1) a.2.1.length=true:=fQ (by omega)
    simp only [ho',Ry ho',Qw.1,k1,k2,m1,m2,Int.toNat_natCast,Bool.or_true,Bool.true_or,Bool.not_false,and_self]
  obtain⟨m5,m6,m7,m8,m9,m10,m11,m12,m13,m14⟩:=pm
  have p0:Fg (i:Int) ls=true:=q0
  have p2:Qi (i:Int) ls=true:=q1
  refine⟨?_,?_,?_,fun a' hf=> ?_⟩
  ·simp only [iF,CW,LT.nds,allT,p0,p1,p2,p3,p4,m5,m6,m7,m8,m9,m10,m11,m12,m13,m14,p15,cond_true,Bool.and_self]
  ·simp only [iF,CW,LT.each,p0,p16,p17,p18,p19,p20,Int.toNat_natCast,Bool.and_true,and_self]
  ·simp only [iF,CW,LT.fn,p0,p17,p18,p19,p20,Int.toNat_natCast,cond_true]
  ·simp only [Sum.inr.injEq]at hf
   subst hf;exact g3
 ·have bM:Fg (ls.length:Int) ls=false:=QB (by omega)
  simp [iF,CW,LT.out,bM]
theorem aqj{ins vs os:List ByteArray}{inp xs:List Int}{ss:List BS3}{ls:List LN}(h:ScH ins vs os inp ls)(hs:Hg vs.length (blL ls) xs ss=true)(u v:ByteArray):
  aE.fin ((0:Int),(ls.length:Int),ls,u,v,(0:Int),ins,vs,os,xs,ss,inp,List.replicate os.length 0)=true∧
  aE.res ((0:Int),(ls.length:Int),ls,u,v,(0:Int),ins,vs,os,xs,ss,inp,List.replicate os.length 0)=
   (0,((ls.length:Int),(ls.length:Int),ls,u,v,((scE ins vs os ls inp xs ss).2.2.2:Int),ins,vs,os,(scE ins vs os ls inp xs ss).1,(scE ins vs os ls inp xs ss).2.2.1,inp,(scE ins vs os ls inp xs ss).2.1)):=by
 obtain⟨s1,s2,s3⟩:=Ru.1 hs
 have h0:ScAt vs os ls 0 (xs,List.replicate os.length 0,ss,0):=⟨s2,fj.2 ⟨fun z hz=> .inl (List.eq_of_mem_replicate hz),by simp⟩,s1,s3,by simp [blL]⟩
 have hn:=h.hn
 have jb:=aE.along2 (fun i (a:SS4)=>((i:Int),(ls.length:Int),ls,u,v,(a.2.2.2:Int),ins,vs,os,a.1,a.2.2.1,inp,a.2.1)) (fun x=>(x.2.2.2.2.2.2.2.2.2.1,x.2.2.2.2.2.2.2.2.2.2.2.2,x.2.2.2.2.2.2.2.2.2.2.1,x.2.2.2.2.2.1.toNat))
  (fun(l:LN) a=> .inr (scS ins vs os inp l a)) 0 (fun i a=>ScAt vs os ls i a) ls (xs,List.replicate os.length 0,ss,0) h0 (by omega) (fun i l a hb hI=> ?_) (fun a hI=> ?_)
 ·rw [Lm (g:=fun a l=>scS ins vs os inp l a) (fun b a=>rfl),als]at jb
  simpa [scE] using jb
 ·have eB:=(List.getElem?_eq_some_iff.1 hb).1
  have hm:=List.mem_of_getElem? hb
  have hw:IntKind.i64.wrap ((i:Int) + 1)=((i + 1:Nat):Int):=by rw [aR (by omega) (by omega)];omega
  obtain⟨g1,g2,g3⟩:=Xe (ins:=ins) (inp:=inp) h.hi (List.all_eq_true.1 h.hL l hm) hb hI
  obtain⟨⟨r0,r1,r2⟩,r3,r4,r5,r6⟩:=anU h hb hI u v
  have il: ∀ d:LN,Option.getD ls[i]? d=l:=fun d=>by rw [hb];rfl
  have q0:aK (i:Int) ls=l:=by simp only [aK,Int.toNat_natCast];exact il _
  have p0:ltI (i:Int) (ls.length:Int)=true:=dO (by omega)
  have p1:leI 0 (i:Int)=true:=bw (by omega)
  have p3:ltN i ls.length=true:=fQ eB
  refine⟨?_,?_,?_,fun a' hf=> ?_⟩
  ·simp only [gm,gn,gp,gq,gr,gt,gu,gv,gw,gx,fL,fM,fS,aE,LT.nds,allT,q0,r0,r1,r2,r3,r4,r5,r6,p0,p1,p3,Int.toNat_natCast,cond_true,Bool.and_self]
  ·simp only [gm,gn,gp,gq,gr,gt,gu,gv,gw,gx,fL,fM,fS,aE,LT.each,q0,r0,r1,r2,r3,r4,r5,p0,hw,Int.toNat_natCast,Bool.and_true,and_self]
  ·simp only [gm,gn,gp,gq,gr,gt,gu,gv,gw,gx,fL,fM,fS,aE,LT.fn,q0,r2,r3,r4,r5,p0,Int.toNat_natCast,cond_true]
  ·simp only [Sum.inr.injEq]at hf
   subst hf;exact g3
 ·have bM:ltI (ls.length:Int) (ls.length:Int)=false:=QB (by omega)
  simp [gm,gn,gp,gq,gr,gt,gu,gv,gw,gx,fL,fM,fS,aE,LT.out,bM]
theorem amr: ∀ (ts:List TM) (n e:Int),htT ts n=some e→adf (blT ts)=true
 | [],n,e,_=>rfl
 |t::r,n,e,h=>by
  simp only [htT]at h
  cases hc:(termB t.1 t.2.1 t.2.2&&leI (takesK t.1) n)with
  |false=>rw [hc]at h;cases h
  |true=>
   rw [hc,cond_true]at h
   simp only [Bool.and_eq_true]at hc
   have h1:=amr r _ e h
   cases h7:leI 7 t.1 with
   |false=>simpa only [blT,List.filter_cons,h7,Bool.false_eq_true,if_false] using h1
   |true=>
    simp only [blT,List.filter_cons,h7,if_true,adf,List.all_cons,Bool.and_eq_true]
    exact⟨UG hc.1 h7,h1⟩
theorem aiX: ∀ (ls:List LN),ls.all lineB=true→adf (blL ls)=true
 | [],_=>rfl
 |l::r,h=>by
  simp only [List.all_cons,Bool.and_eq_true]at h
  have h1:=aiX r h.2
  have h2:=amr _ _ _ (abO h.1).2.2
  have h4:blL (l::r)=blT l.2++blL r:=rfl
  simp only [adf]at h1 h2
  simp only [h4,adf,List.all_append,h1,h2,Bool.and_self]
theorem Xg{nm:ByteArray}{ins vs os:List ByteArray}{g:ByteArray}{ls:List LN}(h:nb nm ins vs os g ls=true):
  (g.toList== []||Xc ins vs g)=true∧ls.all lineB=true∧ls.all (madeB vs os)=true∧ls.all (fun l=>l.2.all (usedB ins vs))=true∧ls.length≤40∧ins.length≤20∧vs.length≤20∧os.length≤20:=by
 simp only [nb,aie,app,ag2,Bool.and_eq_true,FL]at h
 obtain⟨⟨_,⟨_,i1⟩,⟨_,i2⟩,⟨_,i3⟩,_,hL,hn⟩,_,hg,hm,_,_,hu⟩:=h
 exact⟨hg,hL,hm,hu,by omega,by omega,by omega,by omega⟩
theorem aht{nm:ByteArray}{ins vs os:List ByteArray}{g:ByteArray}{ls:List LN}{inp:List Int}(h:nb nm ins vs os g ls=true)(hi:bitsB ins.length inp=true):ScH ins vs os inp ls:=by
 obtain⟨_,hL,hm,hu,hn,h1,h2,h3⟩:=Xg h
 exact⟨hi,hL,hm,hu,hn,h1,h2,h3⟩
def scG(nm:ByteArray)(ins vs os:List ByteArray)(g:ByteArray)(ls:List LN)(xs:List Int)(ss:List BS3)(inp:List Int):Bool:=nb nm ins vs os g ls&&(Hg vs.length (blL ls) xs ss&&bitsB ins.length inp)
theorem Vn{nm:ByteArray}{ins vs os:List ByteArray}{g:ByteArray}{ls:List LN}{xs:List Int}{ss:List BS3}{inp:List Int}:
  scG nm ins vs os g ls xs ss inp=true↔nb nm ins vs os g ls=true∧Hg vs.length (blL ls) xs ss=true∧bitsB ins.length inp=true:=by
 simp only [scG,Bool.and_eq_true]
theorem am5(nm:ByteArray)(ins vs os:List ByteArray)(g:ByteArray)(ls:List LN)(xs:List Int)(ss:List BS3)(inp:List Int)(h:scG nm ins vs os g ls xs ss inp=true):
  Uy nm g ins vs os ls xs ss inp=scO ins vs os g ls inp xs ss∧Uz nm g ins vs os ls xs ss inp=scV ins vs os ls inp xs ss∧
  UA nm g ins vs os ls xs ss inp=scB ins vs os ls inp xs ss∧UB nm g ins vs os ls xs ss inp=true:=by
 obtain⟨h1,h2,h3⟩:=Vn.1 h
 obtain⟨hg,_⟩:=Xg h1
 have hS:=aht h1 h3
 obtain⟨w1,w2⟩:=aqk hS h2 nm g
 have hE:=aob (os:=os) h3 hS.hL h2
 obtain⟨s1,s2,s3⟩:=Ru.1 h2
 have hb:=hS.bl
 have b1:=hS.h1
 have b2:=hS.h2
 have b3:=hS.h3
 have hx2:=(fj.1 s2).2
 have a1:NC os=List.replicate os.length 0:=by simp only [NC,Int.toNat_natCast]
 have a0:DX g= !(g.toList== []):=by simp only [DX,OP]
 have e3:ND nm g ins vs os ls xs ss inp=((scE ins vs os ls inp xs ss).2.1,ins,vs,os,ls,(scE ins vs os ls inp xs ss).1,(scE ins vs os ls inp xs ss).2.2.1):=by
  simp only [ND,II,a1,w2]
 have e5:DY nm g ins vs os ls xs ss inp=(scE ins vs os ls inp xs ss).1:=by simp only [DY,NE,e3]
 have e8:NG nm g ins vs os ls xs ss inp=(scE ins vs os ls inp xs ss).2.2.1:=by simp only [NG,NE,e3]
 have e7:NF nm g ins vs os ls xs ss inp=(scE ins vs os ls inp xs ss).1:=by simp only [NF,e5];exact Bool.cond_self _ _
 have e9:NH nm g ins vs os ls xs ss inp=(scE ins vs os ls inp xs ss).2.2.1:=by simp only [NH,e8];exact Bool.cond_self _ _
 have hv:(g.toList== [])=false→rW g ins vs (scE ins vs os ls inp xs ss).1 inp=nmV ins vs inp (scE ins vs os ls inp xs ss).1 g∧rX g ins vs (scE ins vs os ls inp xs ss).1 inp=true:=fun hgg=>by
  rw [hgg,Bool.false_or]at hg
  have q1:=(fj.1 h3).2
  have q2:=(fj.1 hE.hx).2
  exact agr g ins vs inp _ hg (dv (by omega)) (dv (by omega)) (by omega) (by omega)
 have e6:ue nm g ins vs os ls xs ss inp=(!(g.toList== [])&&nmV ins vs inp (scE ins vs os ls inp xs ss).1 g==0):=by
  simp only [ue,a0,e5]
  cases hgg:g.toList== []with
  |true=>rfl
  |false=>simp only [Bool.not_false,cond_true,(hv hgg).1,Bool.true_and]
 refine⟨?_,?_,?_,?_⟩
 ·simp only [Uy,e6,e3,a1,scO]
 ·simp only [Uz,e7,scV];exact Bool.cond_self _ _
 ·simp only [UA,e9,scB];exact Bool.cond_self _ _
 ·have f1:Lp.fin iF (II nm g ins vs os ls xs ss inp)=true:=by simp only [II,a1];exact w1
  have f0:RB xs ss=true:=by
   simp only [RB,allT,dv (show xs.length≤1048576 by omega),dv (show 0 + ss.length≤9223372036854775807 by omega),dv (show (0 + ss.length) * 24≤140737488355328 by omega),cond_true]
  have f2:leI 0 (os.length:Int)=true:=bw (by omega)
  have f3:leI (os.length:Int) (os.length:Int)=true:=bw (by omega)
  have f4:leI (((8:Nat):Int) * (os.length:Int)) 281474976710656=true:=bw (by omega)
  have f5:leI (os.length:Int) 9223372036854775807=true:=bw (by omega)
  have f6:Rs os=true:=f3
  have f7:Rt os=true:=f4
  simp only [UB,f0,f1,f2,f5,f6,f7,a0,e5,allT,Bool.or_true,cond_true,Bool.and_true]
  cases hgg:g.toList== []with
  |true=>rfl
  |false=>simp only [(hv hgg).2];rfl
theorem amw(nm:ByteArray)(ins vs os:List ByteArray)(g:ByteArray)(ls:List LN)(xs:List Int)(ss:List BS3)(inp:List Int)(h:scG nm ins vs os g ls xs ss inp=true):
  qM nm g ins vs os ls xs ss inp=scO ins vs os g ls inp xs ss∧qN nm g ins vs os ls xs ss inp=scV ins vs os ls inp xs ss∧
  qO nm g ins vs os ls xs ss inp=scB ins vs os ls inp xs ss∧qP nm g ins vs os ls xs ss inp=true:=by
 obtain⟨h1,h2,h3⟩:=Vn.1 h
 obtain⟨hg,_⟩:=Xg h1
 have hS:=aht h1 h3
 obtain⟨w1,w2⟩:=aqj hS h2 nm g
 have hE:=aob (os:=os) h3 hS.hL h2
 obtain⟨s1,s2,s3⟩:=Ru.1 h2
 have hb:=hS.bl
 have b1:=hS.h1
 have b2:=hS.h2
 have b3:=hS.h3
 have hx2:=(fj.1 s2).2
 have a1:im nm g ins vs os ls xs ss inp=((0:Int),(ls.length:Int),ls,nm,g,(0:Int),ins,vs,os,xs,ss,inp,List.replicate os.length 0):=by
  simp only [im,Int.toNat_natCast]
 have a0:df g= !(g.toList== []):=by simp only [df];rw [OP]
 have e2:lu nm g ins vs os ls xs ss inp=((scE ins vs os ls inp xs ss).1,(scE ins vs os ls inp xs ss).2.2.1,inp,(scE ins vs os ls inp xs ss).2.1):=by
  simp only [lu,a1,w2]
 have e3:eD nm g ins vs os ls xs ss inp=(scE ins vs os ls inp xs ss).1:=by simp only [eD,e2]
 have e6:lw nm g ins vs os ls xs ss inp=(scE ins vs os ls inp xs ss).2.1:=by
  simp only [lw,qp,lv,e2,oE]
  rw [Bool.cond_self,Bool.cond_self]
 have e7:lx nm g ins vs os ls xs ss inp=(scE ins vs os ls inp xs ss).2.2.1:=by
  simp only [lx,lv,e2]
 have hv:(g.toList== [])=false→jB g ins vs (scE ins vs os ls inp xs ss).1 inp=nmV ins vs inp (scE ins vs os ls inp xs ss).1 g∧jC g ins vs (scE ins vs os ls inp xs ss).1 inp=true:=fun hgg=>by
  rw [hgg,Bool.false_or]at hg
  have q1:=(fj.1 h3).2
  have q2:=(fj.1 hE.hx).2
  rw [(ala _ _ _ _ _).1,(ala _ _ _ _ _).2]
  exact agr g ins vs inp _ hg (dv (by omega)) (dv (by omega)) (by omega) (by omega)
 have hol:(scE ins vs os ls inp xs ss).2.1.length=os.length:=by have:=(fj.1 hE.ho).2;omega
 refine⟨?_,?_,?_,?_⟩
 ·simp only [qM,a0,e3,e6,Xm,hol,scO]
  cases hgg:g.toList== []with
  |true=>rfl
  |false=>simp only [Bool.not_false,cond_true,(hv hgg).1,Bool.true_and];rfl
 ·simp only [qN,e3,oC,scV]
  rw [Bool.cond_self,Bool.cond_self]
 ·simp only [qO,e7,oD,scB]
  rw [Bool.cond_self,Bool.cond_self]
 ·have f1:Lp.fin aE (im nm g ins vs os ls xs ss inp)=true:=by rw [a1];exact w1
  have f0:ln xs ss=true:=by
   simp only [ln,allT,dv (show xs.length≤1048576 by omega),dv (show ss.length≤1048576 by omega),cond_true]
  have f2:leI 0 (os.length:Int)=true:=bw (by omega)
  have f3:leI (os.length:Int) (os.length:Int)=true:=bw (by omega)
  have f4:leI (((8:Nat):Int) * (os.length:Int)) 281474976710656=true:=bw (by omega)
  have f5:leI (os.length:Int) 9223372036854775807=true:=bw (by omega)
  simp only [qP,f0,f1,f2,f3,f4,f5,a0,e3,allT,Bool.or_true,cond_true,Bool.and_true]
  cases hgg:g.toList== []with
  |true=>rfl
  |false=>simp only [(hv hgg).2];rfl
def aaE:List SV→List Entry→Option Out
 | [.one ⟨true,[.val (.string x0),.ref 0,.ref 1,.ref 2,.val (.string x1),.ref 3]⟩,.one ⟨true,[.ref 4,.ref 5]⟩,.one ⟨false,[.ref 6]⟩],[.row false 9 (.str) x2,.row false 9 (.str) x3,.row false 9 (.str) x4,.row false 204 (.pair (.str) (.sl 178 (.pair (.int .i64) (.pair (.str) (.int .i64))))) x5,.row false 2 (.int .i64) x6,.row false 172 (.pair (.int .i64) (.pair (.int .i64) (.int .i64))) x7,.row false 2 (.int .i64) x8]=>some ⟨.tup [⟨false,[.ref 7]⟩,⟨true,[.ref 8,.ref 9]⟩],[.row false 9 aih x2,.row false 9 aih x3,.row false 9 aih x4,.row false 204 (CTy.pair CTy.str (CTy.sl (178:TypeId) acD)) x5,.row false 2 agR x6,.row false 172 abM x7,.row false 2 agR x8],[.row true 2 agR (scO x2 x3 x4 x1 x5 x8 x6 x7),.row true 2 agR (scV x2 x3 x4 x5 x8 x6 x7),.row true 172 abM (scB x2 x3 x4 x5 x8 x6 x7)],[scG x0 x2 x3 x4 x1 x5 x6 x7 x8]⟩
 |_,_=>none
def wg:PF prog:=PF.alt ajH aaE (by
 intro args es o h cB;unfold aaE at h;split at h
 ·rename_i x0 x1 x2 x3 x4 x5 x6 x7 x8
  cases h
  have cB:=mq cB
  have hh:=am5 x0 x2 x3 x4 x1 x5 x6 x7 x8 cB
  obtain⟨e0,e1,e2,en⟩:=hh
  exact rg rfl (lJ en) rfl rfl (by simp only [e0,e1,e2] <;> rfl)
 ·cases h)
def yx:List SV→List Entry→Option Out
 | [.one ⟨true,[.val (.string x0),.ref 0,.ref 1,.ref 2,.val (.string x1),.ref 3]⟩,.one ⟨true,[.ref 4,.ref 5]⟩,.one ⟨false,[.ref 6]⟩],[.row false 9 (.str) x2,.row false 9 (.str) x3,.row false 9 (.str) x4,.row false 204 (.pair (.str) (.sl 178 (.pair (.int .i64) (.pair (.str) (.int .i64))))) x5,.row false 2 (.int .i64) x6,.row false 172 (.pair (.int .i64) (.pair (.int .i64) (.int .i64))) x7,.row false 2 (.int .i64) x8]=>some ⟨.tup [⟨false,[.ref 7]⟩,⟨true,[.ref 8,.ref 9]⟩],[.row false 9 aih x2,.row false 9 aih x3,.row false 9 aih x4,.row false 204 (CTy.pair CTy.str (CTy.sl (178:TypeId) acD)) x5,.row false 2 agR x6,.row false 172 abM x7,.row false 2 agR x8],[.row true 2 agR (scO x2 x3 x4 x1 x5 x8 x6 x7),.row true 2 agR (scV x2 x3 x4 x5 x8 x6 x7),.row true 172 abM (scB x2 x3 x4 x5 x8 x6 x7)],[scG x0 x2 x3 x4 x1 x5 x6 x7 x8]⟩
 |_,_=>none
def eW:PF prog:=PF.alt Ki yx (by
 intro args es o h cB;unfold yx at h;split at h
 ·rename_i x0 x1 x2 x3 x4 x5 x6 x7 x8
  cases h
  have cB:=mq cB
  have hh:=amw x0 x2 x3 x4 x1 x5 x6 x7 x8 cB
  obtain⟨e0,e1,e2,en⟩:=hh
  exact rg rfl (lJ en) rfl rfl (by simp only [e0,e1,e2] <;> rfl)
 ·cases h)
theorem aoy: ∀ (ls:List LN),(∀ l∈ls,l.2.length≤1048576)→(blL ls).length≤1048576 * ls.length
 | [],_=>by simp [blL]
 |l::r,h=>by
  have h1:=aoy r (fun x hx=>h x (by simp [hx]))
  have h2:=h l (by simp)
  have h3:(blT l.2).length≤l.2.length:=List.length_filter_le ..
  have h4:blL (l::r)=blT l.2++blL r:=rfl
  rw [h4,List.length_append,List.length_cons]
  omega
theorem aru{ls:List LN}(h:YT ls=true):(blL ls).length≤1099511627776:=by
 obtain⟨hn,hA⟩:=OM.1 h
 have:=aoy ls (fun l hl=>(OS.1 (hA l hl).2).1)
 omega
def aod(nm:ByteArray)(ins vs os:List ByteArray)(g:ByteArray)(ls:List LN)(xs:List Int)(ss:List BS3)(inps:List (List Int)):Int:=bif !nb nm ins vs os g ls then 1 else bif !Hg vs.length (blL ls) xs ss|| !inps.all (fun l=>bitsB ins.length l)then 2 else 0
def cdG(nm:ByteArray)(ins vs os:List ByteArray)(g:ByteArray)(ls:List LN)(xs:List Int)(inps:List (List Int)):Bool:=prOk nm ins vs os g ls&&(leN xs.length 9223372036854775807&&(leN inps.length 1048576&&inps.all fun l=>leN l.length 9223372036854775807))
theorem aoB{nm:ByteArray}{ins vs os:List ByteArray}{g:ByteArray}{ls:List LN}{xs:List Int}{inps:List (List Int)}:
  cdG nm ins vs os g ls xs inps=true↔prOk nm ins vs os g ls=true∧leN xs.length 9223372036854775807=true∧inps.length≤1048576∧ ∀ l∈inps,leN l.length 9223372036854775807=true:=by
 simp only [cdG,Bool.and_eq_true,fX,List.all_eq_true]
def eV(y5:List ByteArray)(b:List Int):(Unit)→Nat ⊕ (Unit)
 |_=>(bif(zT b y5)then(.inl 0)else(.inr ()))
def ct(y2 y3:ByteArray)(y4:List (List Int))(y5 y6 y7:List ByteArray)(y8:List (ByteArray×(List (Int×(ByteArray×Int)))))(i:Nat):(Unit)→bt
 |_=>((i:Int),(↑y4.length:Int),y2,y3,y4,y5,y6,y7,y8)
def qs:bt→Unit
 |(_,_,_,_,_,_,_,_,_)=>()
theorem Kl(y2 y3:ByteArray)(y4:List (List Int))(y5 y6 y7:List ByteArray)(y8:List (ByteArray×(List (Int×(ByteArray×Int))))) (hn:y4.length≤9223372036854775807) (hA: ∀ l∈y4,leN l.length 9223372036854775807=true):
  aq.fin ((0:Int),(↑y4.length:Int),y2,y3,y4,y5,y6,y7,y8)=true∧aq.res ((0:Int),(↑y4.length:Int),y2,y3,y4,y5,y6,y7,y8)=((af (eV y5) 1 y4 0 ()).1,(ct y2 y3 y4 y5 y6 y7 y8) (af (eV y5) 1 y4 0 ()).2.1 (af (eV y5) 1 y4 0 ()).2.2):=by
 have jb:=aq.along (ct y2 y3 y4 y5 y6 y7 y8) qs (eV y5) 1 (fun _ _=>True) y4 () (by trivial) (by simp only [aq,ct];omega) (fun i b a hb hI=> ?_) (fun a hI=> ?_)
 ·exact jb
 ·obtain⟨⟩:=a
  have eB:=(List.getElem?_eq_some_iff.1 hb).1
  have il: ∀ d,Option.getD y4[i]? d=b:=fun d=>by rw [hb];rfl
  have hw:=tZ eB hn
  have bM:ltI (i:Int) (y4.length:Int)=true:=dO (by omega)
  have vC:leI (0:Int) (i:Int)=true:=bw (by omega)
  have gI:ltN i y4.length=true:=fQ eB
  refine⟨?_,?_,?_,?_⟩
  ·have hg2:cq (i:Int) y4=b:=by simp only [cq,Int.toNat_natCast];exact il _
   have h4:iJ (i:Int) y4=true:=by simp only [iJ,GC,hg2,hA b (List.mem_of_getElem? hb),allT,cond_true]
   simp only [iI,mb,mc,md,io,aq,LT.nds,allT,ct,h4,bM,vC,gI,Int.toNat_natCast,cond_true,Bool.and_self]
   cases iK (i:Int) y4 y5 <;> simp [LT.nds]
  ·simp [cq,iI,mb,mc,md,iJ,iK,qS,io,aq,LT.each,ct,qs,hw]
  ·have hg2:cq (i:Int) y4=b:=by simp only [cq,Int.toNat_natCast];exact il _
   simp only [iI,iK,io,aq,LT.fn,ct,qs,eV,bM,hg2,cond_true]
  ·exact fun _ _=>trivial
 ·obtain⟨⟩:=a
  simp [cq,iI,mb,mc,md,iJ,iK,qS,io,aq,LT.out,ct]
theorem amu(nm:ByteArray)(ins vs os:List ByteArray)(g:ByteArray)(ls:List LN)(xs:List Int)(ss:List BS3)(inps:List (List Int))(h:cdG nm ins vs os g ls xs inps=true):
  Sg nm g ins vs os ls xs ss inps=aod nm ins vs os g ls xs ss inps∧Sh nm g ins vs os ls xs ss inps=true:=by
 obtain⟨h1,h2,h3,h4⟩:=aoB.1 h
 obtain⟨w1,w2⟩:=Kl nm g inps ins vs os ls (by omega) h4
 rw [iH (P:=fun l=> !bitsB ins.length l) (j:=0) (fun l=>by simp only [eV,zT]),Vb]at w2
 have hlk:=(RQ.1 h1).2.2.2.2.2.2
 have hbl:=aru hlk
 have c0:lZ inps nm g ins vs os ls= !inps.all (fun l=>bitsB ins.length l):=by
  simp only [lZ,tj,jO,nI,w2,ct]
  cases (inps.all fun l=>bitsB ins.length l) <;> simp [Nat.beq,Qw.1,Qw.2]
 have c3:ma inps nm g ins vs os ls=true:=by
  simp only [ma,tn,jO,w1,allT,cond_true]
 have k:nb nm ins vs os g ls=true→adf (blL ls)=true:=fun hs=>aiX ls (Xg hs).2.1
 have hbl2:leN (blL ls).length 9223372036854775807=true:=dv (by omega)
 refine⟨?_,?_⟩
 ·simp only [Sg,c0,aod]
  cases Hg vs.length (blL ls) xs ss <;> rfl
 ·simp only [Sh,h1,c3,h2,hlk,hbl2,allT,Bool.or_true,cond_true]
  cases hs:nb nm ins vs os g ls with
  |false=>rfl
  |true=>rw [k hs];rfl
def YJ:List SV→List Entry→Option Out
 | [.one ⟨true,[.val (.string x0),.ref 0,.ref 1,.ref 2,.val (.string x1),.ref 3]⟩,.one ⟨true,[.ref 4,.ref 5]⟩,.one ⟨false,[.ref 6]⟩],[.row false 9 (.str) x2,.row false 9 (.str) x3,.row false 9 (.str) x4,.row false 204 (.pair (.str) (.sl 178 (.pair (.int .i64) (.pair (.str) (.int .i64))))) x5,.row false 2 (.int .i64) x6,.row false 172 (.pair (.int .i64) (.pair (.int .i64) (.int .i64))) x7,.row false 41 (.sl 2 (.int .i64)) x8]=>some ⟨.one ⟨false,[.val (.int .i64 (aod x0 x2 x3 x4 x1 x5 x6 x7 x8))]⟩,[.row false 9 aih x2,.row false 9 aih x3,.row false 9 aih x4,.row false 204 (CTy.pair CTy.str (CTy.sl (178:TypeId) acD)) x5,.row false 2 agR x6,.row false 172 abM x7,.row false 41 (CTy.sl (2:TypeId) agR) x8],[],[cdG x0 x2 x3 x4 x1 x5 x6 x8]⟩
 |_,_=>none
def DS:PF prog:=PF.alt aip YJ (by
 intro args es o h cB;unfold YJ at h;split at h
 ·rename_i x0 x1 x2 x3 x4 x5 x6 x7 x8
  cases h
  have cB:=mq cB
  have hh:=amu x0 x2 x3 x4 x1 x5 x6 x7 x8 cB
  obtain⟨e0,en⟩:=hh
  exact rg rfl (lJ en) (by simp only [e0] <;> rfl) rfl rfl
 ·cases h)
section
variable (x3:List ByteArray)(x5:List (ByteArray×List (Int×ByteArray×Int)))
def Sz:List Int:=List.replicate (Int.toNat (↑x3.length:Int)) (0:Int)
def SA:List (Int×(Int×Int)):=List.replicate (Int.toNat (↑(List.length (blL x5)):Int)) ((0:Int),(0:Int),(0:Int))
def NB:Bool:=allT [leI (0:Int) (↑x3.length:Int),leI (↑x3.length:Int) (↑x3.length:Int),leI ((↑(8:Nat):Int) * (↑x3.length:Int)) (281474976710656:Int),leI (↑x3.length:Int) (9223372036854775807:Int),YT x5,leI (0:Int) (↑(List.length (blL x5)):Int),leI (↑(List.length (blL x5)):Int) (↑(List.length (blL x5)):Int),leI ((↑(24:Nat):Int) * (↑(List.length (blL x5)):Int)) (281474976710656:Int),leI (↑(List.length (blL x5)):Int) (9223372036854775807:Int)]
end
def YF:List SV→List Entry→Option Out
 | [.one ⟨true,[.val (.string _x0),.ref 0,.ref 1,.ref 2,.val (.string _x1),.ref 3]⟩],[.row false 9 (.str) x2,.row false 9 (.str) x3,.row false 9 (.str) x4,.row false 204 (.pair (.str) (.sl 178 (.pair (.int .i64) (.pair (.str) (.int .i64))))) x5]=>some ⟨.one ⟨true,[.ref 4,.ref 5]⟩,[.row false 9 aih x2,.row false 9 aih x3,.row false 9 aih x4,.row false 204 (CTy.pair CTy.str (CTy.sl (178:TypeId) acD)) x5],[.row true 2 agR (Sz x3),.row true 172 abM (SA x5)],[NB x3 x5]⟩
 |_,_=>none
def ud:PF prog:=PF.ofG prog [Rf,PF.lend Rf,PF.fz Rf] [] aN 203 f203 func203 (fun c _=>LOk.nil c) YF (by
 intro vs es r h;unfold YF at h;split at h
 ·cases h;kernel_rfl
 ·cases h)
abbrev pV:=Int×List (List Int)×ByteArray×ByteArray×List ByteArray×List ByteArray×List ByteArray×List (ByteArray×(List (Int×(ByteArray×Int))))×List Int×List (Int×(Int×Int))
section
variable (y0:Int)(y1:List (List Int))(y4:List ByteArray)
def tH:List Int:=Option.getD y1[Int.toNat y0]? (rY (CTy.sl (2:Nat) agR))
def BV:Bool:=ltI y0 (↑y1.length:Int)
def GR:Bool:=leI (0:Int) y0
def GS:Bool:=ltN y0.toNat y1.length
def GU:Bool:=leN (List.length (tH y0 y1)) (9223372036854775807:Nat)
def GV:Bool:= !bitsB (↑y4.length:Int) (tH y0 y1)
def GW:Int:=IntKind.wrap .i64 (y0 + (1:Int))
end
def afy:pV→List (Nat×SV)
 |(y0,_,_,_,_,_,_,_,_,_)=> [(7,(.one ⟨false,[.val (.int .i64 y0)]⟩)),(1,(.one ⟨false,[.ref 0]⟩)),(2,(.one ⟨false,[.ptr 1 0]⟩)),(5,(.one ⟨false,[.ptr 2 0]⟩))]
def afv:pV→List (Nat×Entry)
 |(_,y1,y2,y3,y4,y5,y6,y7,y8,y9)=> [(0,(.row false 41 (CTy.sl (2:Nat) agR) y1)),(1,(.box 63 [.val (.string y2),.ref 3,.ref 4,.ref 5,.val (.string y3),.ref 6])),(2,(.box 48 [.ref 7,.ref 8])),(3,(.row false 9 aih y4)),(4,(.row false 9 aih y5)),(5,(.row false 9 aih y6)),(6,(.row false 204 (CTy.pair CTy.str (CTy.sl (178:Nat) acD)) y7)),(7,(.row true 2 agR y8)),(8,(.row true 172 abM y9))]
def afE:Nat→pV→List (Nat×SV)
 |0,(_,_,_,_,_,_,_,_,_,_)=> [(4,(.one ⟨false,[.ref 9]⟩)),(6,(.one ⟨false,[.val (.int .i64 (2:Int))]⟩))]
 |_,(_,_,_,_,_,_,_,_,_,_)=> []
def afB:Nat→pV→List (Nat×Entry)
 |0,(_,y1,y2,y3,y4,y5,y6,y7,y8,y9)=> [(0,(.row false 41 (CTy.sl (2:Nat) agR) y1)),(1,(.box 63 [.val (.string y2),.ref 3,.ref 4,.ref 5,.val (.string y3),.ref 6])),(2,(.box 48 [.ref 10,.ref 11])),(3,(.row false 9 aih y4)),(4,(.row false 9 aih y5)),(5,(.row false 9 aih y6)),(6,(.row false 204 (CTy.pair CTy.str (CTy.sl (178:Nat) acD)) y7)),(7,(.row true 2 agR y8)),(8,(.row true 172 abM y9)),(9,(.row true 41 (CTy.sl (2:Nat) agR) [])),(10,(.row true 2 agR [])),(11,(.row true 172 abM []))]
 |_,(_,y1,y2,y3,y4,y5,y6,y7,y8,y9)=> [(0,(.row false 41 (CTy.sl (2:Nat) agR) y1)),(1,(.box 63 [.val (.string y2),.ref 3,.ref 4,.ref 5,.val (.string y3),.ref 6])),(2,(.box 48 [.ref 7,.ref 8])),(3,(.row false 9 aih y4)),(4,(.row false 9 aih y5)),(5,(.row false 9 aih y6)),(6,(.row false 204 (CTy.pair CTy.str (CTy.sl (178:Nat) acD)) y7)),(7,(.row true 2 agR y8)),(8,(.row true 172 abM y9))]
def EY:pV→LT pV
 |(y0,y1,y2,y3,y4,y5,y6,y7,y8,y9)=> .ite (BV y0 y1) (.need [GR y0,BV y0 y1,GS y0 y1,GU y0 y1] (.ite (GV y0 y1 y4) (.ext 0 [(0,0),(1,1),(2,2),(3,3),(4,4),(5,5),(6,6),(7,7),(8,8),(9,960),(10,896),(11,897)]) (.nrm ((GW y0),y1,y2,y3,y4,y5,y6,y7,y8,y9) [(0,0),(1,1),(2,2),(3,3),(4,4),(5,5),(6,6),(7,7),(8,8)]))) (.ext 1 [(0,0),(1,1),(2,2),(3,3),(4,4),(5,5),(6,6),(7,7),(8,8)])
def PT(s:St):Option pV:=
 (match s.look 7 with
 |some ⟨none,.one ⟨false,[.val (.int .i64 y0)]⟩⟩=>
 (match s.look 1 with
 |some ⟨none,.one ⟨false,[.ref 4]⟩⟩=>
 (match s.look 2 with
 |some ⟨none,.one ⟨false,[.ptr 384 0]⟩⟩=>
 (match s.look 5 with
 |some ⟨none,.one ⟨false,[.ptr 512 0]⟩⟩=>
 (match s.ent 4 with
 |some (.row false 41 (.sl 2 (.int .i64)) y1)=>
 (match s.ent 384 with
 |some (.box 63 [.val (.string y2),.ref 0,.ref 1,.ref 2,.val (.string y3),.ref 3])=>
 (match s.ent 512 with
 |some (.box 48 [.ref 513,.ref 514])=>
 (match s.ent 0 with
 |some (.row false 9 (.str) y4)=>
 (match s.ent 1 with
 |some (.row false 9 (.str) y5)=>
 (match s.ent 2 with
 |some (.row false 9 (.str) y6)=>
 (match s.ent 3 with
 |some (.row false 204 (.pair .str (.sl (178:Nat) (.pair (.int .i64) (.pair .str (.int .i64))))) y7)=>
 (match s.ent 513 with
 |some (.row true 2 (.int .i64) y8)=>
 (match s.ent 514 with
 |some (.row true 172 (.pair (.int .i64) (.pair (.int .i64) (.int .i64))) y9)=>
 some (y0,y1,y2,y3,y4,y5,y6,y7,y8,y9)
 |_=>none)
 |_=>none)
 |_=>none)
 |_=>none)
 |_=>none)
 |_=>none)
 |_=>none)
 |_=>none)
 |_=>none)
 |_=>none)
 |_=>none)
 |_=>none)
 |_=>none)
def iC:Lp pV where
 h:=⟨[21,22,23,24,27,28,29,30,31,32,33,34,35,36,4,6,25,26,7],[0,1,2,3,4,5,6,7,8],[],[9,10,11]⟩
 JL:=afy
 JE:=afv
 XL:=afE
 XE:=afB
 q:=fun j=>match j with | 0=> .ret | _=> .exit 0
 tags:= [0,1]
 lt:=EY
 fuel:=fun(y0,y1,y2,y3,y4,y5,y6,y7,y8,y9)=>y0.natAbs + y1.length + y2.size + y3.size + y4.length + y5.length + y6.length + y7.length + y8.length + y9.length
 fix:=fun(_,y1,y2,y3,y4,y5,y6,y7,y8,y9) (y0,_,_,_,_,_,_,_,_,_)=>(y0,y1,y2,y3,y4,y5,y6,y7,y8,y9)
 σ:= [(0,4),(1,384),(2,512),(3,0),(4,1),(5,2),(6,3),(7,513),(8,514)]
 rd:=PT
theorem acG:LoopOk prog (fun k=>Nat.blt k Tryz.f135.ntmps) iC.F (aL f135 0):=by
 refine Lp.ok (tbl:= [wg,PF.lend wg,PF.fz wg,we,PF.lend we,PF.fz we,ud,PF.lend ud,PF.fz ud,wh,PF.lend wh,PF.fz wh]) (lf:= []) aN iC (by kernel_rfl) (LOk.nil _) (fun _=>rfl) (fun j _=>by unfold iC;match j with | 0=>rfl | _ + 1=>rfl) ?_ ?_ ?_ ?_ (fun _=>rfl) ?_
 ·rintro⟨y0,y1,y2,y3,y4,y5,y6,y7,y8,y9⟩;kernel_rfl
 ·rintro⟨y0,y1,y2,y3,y4,y5,y6,y7,y8,y9⟩;kernel_rfl
 ·intro s x h
  have h:PT s=some x:=h
  unfold PT at h
  repeat' split at h
  all_goals cases h
  exact⟨aa (by assumption) rfl (aa (by assumption) rfl (aa (by assumption) rfl (aa (by assumption) rfl (rfl)))),ab rfl (by assumption) rfl (ab rfl (by assumption) rfl (ab rfl (by assumption) rfl (ab rfl (by assumption) rfl (ab rfl (by assumption) rfl (ab rfl (by assumption) rfl (ab rfl (by assumption) rfl (ab rfl (by assumption) rfl (ab rfl (by assumption) rfl (rfl)))))))))⟩
 ·rintro⟨y0,y1,y2,y3,y4,y5,y6,y7,y8,y9⟩;kernel_rfl
 ·rintro⟨y0,y1,y2,y3,y4,y5,y6,y7,y8,y9⟩ z;exact(And.intro (And.intro trivial rfl) trivial)
abbrev pW:=Int×List (List Int)×ByteArray×ByteArray×List (List Int)×List ByteArray×List ByteArray×List ByteArray×List (ByteArray×(List (Int×(ByteArray×Int))))×List Int×List (Int×(Int×Int))
def oT(y0:Int)(y1:List (List Int)):List Int:=Option.getD y1[Int.toNat y0]? (rY (CTy.sl (2:Nat) agR))
def wz(y0:Int)(y1:List (List Int))(y3:ByteArray)(y5 y6 y7:List ByteArray)(y8:List (ByteArray×(List (Int×(ByteArray×Int)))))(y9:List Int)(y10:List (Int×(Int×Int))):List (List Int):= [scO y5 y6 y7 y3 y8 (oT y0 y1) y9 y10]
section
variable (y0:Int)(y1:List (List Int))
def BW:Bool:=ltI y0 (↑y1.length:Int)
def GX:Bool:=leI (0:Int) y0
def GY:Bool:=ltN y0.toNat y1.length
end
def GZ(y0:Int)(y1:List (List Int))(y2 y3:ByteArray)(y5 y6 y7:List ByteArray)(y8:List (ByteArray×(List (Int×(ByteArray×Int)))))(y9:List Int)(y10:List (Int×(Int×Int))):Bool:=scG y2 y5 y6 y7 y3 y8 y9 y10 (oT y0 y1)
def Ha(y0:Int)(y1:List (List Int))(y3:ByteArray)(y4:List (List Int))(y5 y6 y7:List ByteArray)(y8:List (ByteArray×(List (Int×(ByteArray×Int)))))(y9:List Int)(y10:List (Int×(Int×Int))):Bool:=leN (List.length y4 + List.length (wz y0 y1 y3 y5 y6 y7 y8 y9 y10)) (9223372036854775807:Nat)
def Hb(y0:Int)(y1:List (List Int))(y3:ByteArray)(y4:List (List Int))(y5 y6 y7:List ByteArray)(y8:List (ByteArray×(List (Int×(ByteArray×Int)))))(y9:List Int)(y10:List (Int×(Int×Int))):Bool:=leN ((List.length y4 + List.length (wz y0 y1 y3 y5 y6 y7 y8 y9 y10)) * (24:Nat)) (140737488355328:Nat)
def Hc(y0:Int):Int:=IntKind.wrap .i64 (y0 + (1:Int))
def Hd(y0:Int)(y1:List (List Int))(y3:ByteArray)(y4:List (List Int))(y5 y6 y7:List ByteArray)(y8:List (ByteArray×(List (Int×(ByteArray×Int)))))(y9:List Int)(y10:List (Int×(Int×Int))):List (List Int):=y4++wz y0 y1 y3 y5 y6 y7 y8 y9 y10
def He(y0:Int)(y1:List (List Int))(y5 y6 y7:List ByteArray)(y8:List (ByteArray×(List (Int×(ByteArray×Int)))))(y9:List Int)(y10:List (Int×(Int×Int))):List Int:=scV y5 y6 y7 y8 (oT y0 y1) y9 y10
def Hf(y0:Int)(y1:List (List Int))(y5 y6 y7:List ByteArray)(y8:List (ByteArray×(List (Int×(ByteArray×Int)))))(y9:List Int)(y10:List (Int×(Int×Int))):List (Int×(Int×Int)):=scB y5 y6 y7 y8 (oT y0 y1) y9 y10
def afz:pW→List (Nat×SV)
 |(y0,_,_,_,_,_,_,_,_,_,_)=> [(10,(.one ⟨false,[.val (.int .i64 y0)]⟩)),(1,(.one ⟨false,[.ref 0]⟩)),(2,(.one ⟨false,[.ptr 1 0]⟩)),(9,(.one ⟨false,[.ptr 2 0]⟩)),(8,(.one ⟨false,[.ref 3]⟩))]
def afw:pW→List (Nat×Entry)
 |(_,y1,y2,y3,y4,y5,y6,y7,y8,y9,y10)=> [(0,(.row false 41 (CTy.sl (2:Nat) agR) y1)),(1,(.box 63 [.val (.string y2),.ref 4,.ref 5,.ref 6,.val (.string y3),.ref 7])),(2,(.box 48 [.ref 8,.ref 9])),(4,(.row false 9 aih y5)),(5,(.row false 9 aih y6)),(6,(.row false 9 aih y7)),(7,(.row false 204 (CTy.pair CTy.str (CTy.sl (178:Nat) acD)) y8)),(3,(.row true 41 (CTy.sl (2:Nat) agR) y4)),(8,(.row true 2 agR y9)),(9,(.row true 172 abM y10))]
def afF:Nat→pW→List (Nat×SV)
 |_,(_,_,_,_,_,_,_,_,_,_,_)=> [(8,(.one ⟨false,[.ref 3]⟩))]
def afC:Nat→pW→List (Nat×Entry)
 |_,(_,y1,y2,y3,y4,y5,y6,y7,y8,y9,y10)=> [(0,(.row false 41 (CTy.sl (2:Nat) agR) y1)),(1,(.box 63 [.val (.string y2),.ref 4,.ref 5,.ref 6,.val (.string y3),.ref 7])),(2,(.box 48 [.ref 8,.ref 9])),(3,(.row true 41 (CTy.sl (2:Nat) agR) y4)),(4,(.row false 9 aih y5)),(5,(.row false 9 aih y6)),(6,(.row false 9 aih y7)),(7,(.row false 204 (CTy.pair CTy.str (CTy.sl (178:Nat) acD)) y8)),(8,(.row true 2 agR y9)),(9,(.row true 172 abM y10))]
def EZ:pW→LT pW
 |(y0,y1,y2,y3,y4,y5,y6,y7,y8,y9,y10)=> .ite (BW y0 y1) (.need [GX y0,BW y0 y1,GY y0 y1,GZ y0 y1 y2 y3 y5 y6 y7 y8 y9 y10] (.need [Ha y0 y1 y3 y4 y5 y6 y7 y8 y9 y10,Hb y0 y1 y3 y4 y5 y6 y7 y8 y9 y10] (.nrm ((Hc y0),y1,y2,y3,Hd y0 y1 y3 y4 y5 y6 y7 y8 y9 y10,y5,y6,y7,y8,He y0 y1 y5 y6 y7 y8 y9 y10,(Hf y0 y1 y5 y6 y7 y8 y9 y10)) [(0,0),(1,1),(2,2),(3,1344),(4,4),(5,5),(6,6),(7,7),(8,705),(9,706)]))) (.ext 0 [(0,0),(1,1),(2,2),(3,3),(4,4),(5,5),(6,6),(7,7),(8,8),(9,9)])
def PU(s:St):Option pW:=
 (match s.look 10 with
 |some ⟨none,.one ⟨false,[.val (.int .i64 y0)]⟩⟩=>
 (match s.look 1 with
 |some ⟨none,.one ⟨false,[.ref 4]⟩⟩=>
 (match s.look 2 with
 |some ⟨none,.one ⟨false,[.ptr 384 0]⟩⟩=>
 (match s.look 9 with
 |some ⟨none,.one ⟨false,[.ptr 1408 0]⟩⟩=>
 (match s.look 8 with
 |some ⟨none,.one ⟨false,[.ref 1152]⟩⟩=>
 (match s.ent 4 with
 |some (.row false 41 (.sl 2 (.int .i64)) y1)=>
 (match s.ent 384 with
 |some (.box 63 [.val (.string y2),.ref 0,.ref 1,.ref 2,.val (.string y3),.ref 3])=>
 (match s.ent 1408 with
 |some (.box 48 [.ref 1344,.ref 1345])=>
 (match s.ent 0 with
 |some (.row false 9 (.str) y5)=>
 (match s.ent 1 with
 |some (.row false 9 (.str) y6)=>
 (match s.ent 2 with
 |some (.row false 9 (.str) y7)=>
 (match s.ent 3 with
 |some (.row false 204 (.pair .str (.sl (178:Nat) (.pair (.int .i64) (.pair .str (.int .i64))))) y8)=>
 (match s.ent 1152 with
 |some (.row true 41 (.sl 2 (.int .i64)) y4)=>
 (match s.ent 1344 with
 |some (.row true 2 (.int .i64) y9)=>
 (match s.ent 1345 with
 |some (.row true 172 (.pair (.int .i64) (.pair (.int .i64) (.int .i64))) y10)=>
 some (y0,y1,y2,y3,y4,y5,y6,y7,y8,y9,y10)
 |_=>none)
 |_=>none)
 |_=>none)
 |_=>none)
 |_=>none)
 |_=>none)
 |_=>none)
 |_=>none)
 |_=>none)
 |_=>none)
 |_=>none)
 |_=>none)
 |_=>none)
 |_=>none)
 |_=>none)
def jD:Lp pW where
 h:=⟨[40,41,42,43,47,48,49,50,51,52,53,46,54,55,12,11,56,57,58,59,8,60,44,45,10],[0,1,2,4,5,6,7],[3,8,9],[]⟩
 JL:=afz
 JE:=afw
 XL:=afF
 XE:=afC
 q:=fun j=>match j with | _=> .exit 2
 tags:= [0]
 lt:=EZ
 fuel:=fun(y0,y1,y2,y3,y4,y5,y6,y7,y8,y9,y10)=>y0.natAbs + y1.length + y2.size + y3.size + y4.length + y5.length + y6.length + y7.length + y8.length + y9.length + y10.length
 fix:=fun(_,y1,y2,y3,_,y5,y6,y7,y8,_,_) (y0,_,_,_,y4,_,_,_,_,y9,y10)=>(y0,y1,y2,y3,y4,y5,y6,y7,y8,y9,y10)
 σ:= [(0,4),(1,384),(2,1408),(4,0),(5,1),(6,2),(7,3),(3,1152),(8,1344),(9,1345)]
 rd:=PU
theorem acH:LoopOk prog (fun k=>Nat.blt k Tryz.f135.ntmps) jD.F (aL f135 1):=by
 refine Lp.ok (tbl:= [wg,PF.lend wg,PF.fz wg,we,PF.lend we,PF.fz we,ud,PF.lend ud,PF.fz ud,wh,PF.lend wh,PF.fz wh]) (lf:= []) aN jD (by kernel_rfl) (LOk.nil _) (fun _=>rfl) (fun _ _=>rfl) ?_ ?_ ?_ ?_ (fun _=>rfl) ?_
 ·rintro⟨y0,y1,y2,y3,y4,y5,y6,y7,y8,y9,y10⟩;kernel_rfl
 ·rintro⟨y0,y1,y2,y3,y4,y5,y6,y7,y8,y9,y10⟩;kernel_rfl
 ·intro s x h
  have h:PU s=some x:=h
  unfold PU at h
  repeat' split at h
  all_goals cases h
  exact⟨aa (by assumption) rfl (aa (by assumption) rfl (aa (by assumption) rfl (aa (by assumption) rfl (aa (by assumption) rfl (rfl))))),ab rfl (by assumption) rfl (ab rfl (by assumption) rfl (ab rfl (by assumption) rfl (ab rfl (by assumption) rfl (ab rfl (by assumption) rfl (ab rfl (by assumption) rfl (ab rfl (by assumption) rfl (ab rfl (by assumption) rfl (ab rfl (by assumption) rfl (ab rfl (by assumption) rfl (rfl))))))))))⟩
 ·rintro⟨y0,y1,y2,y3,y4,y5,y6,y7,y8,y9,y10⟩;kernel_rfl
 ·rintro⟨y0,y1,y2,y3,y4,y5,y6,y7,y8,y9,y10⟩ z;exact(And.intro rfl trivial)
section
variable (x0 x1:ByteArray)(x2 x3 x4:List ByteArray)(x5:List (ByteArray×List (Int×ByteArray×Int)))(x6:List (List Int))
def zF:Bool:=ltI (200:Int) (↑x6.length:Int)
def Uv:Int×List (List Int)×ByteArray×ByteArray×List ByteArray×List ByteArray×List ByteArray×List (ByteArray×List (Int×ByteArray×Int))×List Int×List (Int×Int×Int):=((0:Int),x6,x0,x1,x2,x3,x4,x5,[],[])
def zG:Bool:=Nat.beq ((Lp.res iC (Uv x0 x1 x2 x3 x4 x5 x6)).1) (0:Nat)
def Qg:Int×List (List Int)×ByteArray×ByteArray×List (List Int)×List ByteArray×List ByteArray×List ByteArray×List (ByteArray×List (Int×ByteArray×Int))×List Int×List (Int×Int×Int):=((0:Int),x6,x0,x1,[],x2,x3,x4,x5,Sz x3,SA x5)
def Uw:List (List Int)×List ByteArray×List ByteArray×List ByteArray×List (ByteArray×List (Int×ByteArray×Int))×List Int×List (Int×Int×Int):=(Lp.res jD (Qg x0 x1 x2 x3 x4 x5 x6)).2.2.2.2.2
def Ux:List Int×List (Int×Int×Int):=(Uw x0 x1 x2 x3 x4 x5 x6).2.2.2.2.2
def RC:Int:=bif !nb x0 x2 x3 x4 x1 x5 then(1:Int)else bif zF x6 then(3:Int)else bif zG x0 x1 x2 x3 x4 x5 x6 then(2:Int)else(0:Int)
def Wc:List (List Int):=bif !nb x0 x2 x3 x4 x1 x5 then []else bif zF x6 then []else bif zG x0 x1 x2 x3 x4 x5 x6 then []else (Uw x0 x1 x2 x3 x4 x5 x6).1
def RD:List Int:=bif !nb x0 x2 x3 x4 x1 x5 then []else bif zF x6 then []else bif zG x0 x1 x2 x3 x4 x5 x6 then []else (Ux x0 x1 x2 x3 x4 x5 x6).1
def RE:List (Int×(Int×Int)):=bif !nb x0 x2 x3 x4 x1 x5 then []else bif zF x6 then []else bif zG x0 x1 x2 x3 x4 x5 x6 then []else (Ux x0 x1 x2 x3 x4 x5 x6).2
def RF:Bool:=allT [prOk x0 x2 x3 x4 x1 x5,!nb x0 x2 x3 x4 x1 x5||(zF x6||Lp.fin iC (Uv x0 x1 x2 x3 x4 x5 x6)),!nb x0 x2 x3 x4 x1 x5||(zF x6||(zG x0 x1 x2 x3 x4 x5 x6||NB x3 x5)),!nb x0 x2 x3 x4 x1 x5||(zF x6||(zG x0 x1 x2 x3 x4 x5 x6||Lp.fin jD (Qg x0 x1 x2 x3 x4 x5 x6)))]
end
def ac9:List SV→List Entry→Option Out
 | [.one ⟨true,[.val (.string x0),.ref 0,.ref 1,.ref 2,.val (.string x1),.ref 3]⟩,.one ⟨false,[.ref 4]⟩],[.row false 9 (.str) x2,.row false 9 (.str) x3,.row false 9 (.str) x4,.row false 204 (.pair (.str) (.sl 178 (.pair (.int .i64) (.pair (.str) (.int .i64))))) x5,.row false 41 (.sl 2 (.int .i64)) x6]=>some ⟨.tup [⟨false,[.ref 5]⟩,⟨true,[.ref 6,.ref 7]⟩,⟨false,[.val (.int .i64 (RC x0 x1 x2 x3 x4 x5 x6))]⟩],[.row false 9 aih x2,.row false 9 aih x3,.row false 9 aih x4,.row false 204 (CTy.pair CTy.str (CTy.sl (178:TypeId) acD)) x5,.row false 41 (CTy.sl (2:TypeId) agR) x6],[.row true 41 (CTy.sl (2:Nat) agR) (Wc x0 x1 x2 x3 x4 x5 x6),.row true 2 agR (RD x0 x1 x2 x3 x4 x5 x6),.row true 172 abM (RE x0 x1 x2 x3 x4 x5 x6)],[RF x0 x1 x2 x3 x4 x5 x6]⟩
 |_,_=>none
def VZ:PF prog:=PF.ofG prog [wg,PF.lend wg,PF.fz wg,we,PF.lend we,PF.fz we,ud,PF.lend ud,PF.fz ud,wh,PF.lend wh,PF.fz wh] [iC.F,jD.F] aN 135 f135 func135 (LOk.fnT (l:= [aL f135 0,aL f135 1]) (by kernel_rfl) (.cons acG (.cons acH (.nil _)))) ac9 (by
 intro vs es r h;unfold ac9 at h;split at h
 ·cases h;kernel_rfl
 ·cases h)
section
variable (x0 x1:ByteArray)(x2 x3 x4:List ByteArray)(x5:List (ByteArray×List (Int×ByteArray×Int)))(x6:List (List Int))
def Uk:Int:=RC x0 x1 x2 x3 x4 x5 x6
def Ul:List Int:=RD x0 x1 x2 x3 x4 x5 x6
def Um:List (Int×(Int×Int)):=RE x0 x1 x2 x3 x4 x5 x6
def Ok:Bool:=allT [RF x0 x1 x2 x3 x4 x5 x6]
end
def Tk:List SV→List Entry→Option Out
 | [.one ⟨true,[.val (.string x0),.ref 0,.ref 1,.ref 2,.val (.string x1),.ref 3]⟩,.one ⟨false,[.ref 4]⟩],[.row false 9 (.str) x2,.row false 9 (.str) x3,.row false 9 (.str) x4,.row false 204 (.pair (.str) (.sl 178 (.pair (.int .i64) (.pair (.str) (.int .i64))))) x5,.row false 41 (.sl 2 (.int .i64)) x6]=>some ⟨.tup [⟨true,[.ref 5,.ref 6]⟩,⟨false,[.val (.int .i64 (Uk x0 x1 x2 x3 x4 x5 x6))]⟩],[.row false 9 aih x2,.row false 9 aih x3,.row false 9 aih x4,.row false 204 (CTy.pair CTy.str (CTy.sl (178:TypeId) acD)) x5,.row false 41 (CTy.sl (2:TypeId) agR) x6],[.row true 2 agR (Ul x0 x1 x2 x3 x4 x5 x6),.row true 172 abM (Um x0 x1 x2 x3 x4 x5 x6)],[Ok x0 x1 x2 x3 x4 x5 x6]⟩
 |_,_=>none
def aeG:PF prog:=PF.ofG prog [VZ,PF.lend VZ,PF.fz VZ] [] aN 64 f64 func64 (fun c _=>LOk.nil c) Tk (by
 intro vs es r h;unfold Tk at h;split at h
 ·cases h;kernel_rfl
 ·cases h)
section
variable (x0 x1:Int)
def HN:List Int:=List.replicate x0.toNat (0:Int)
def HO:List (Int×(Int×Int)):=List.replicate x1.toNat ((0:Int),(0:Int),(0:Int))
def HP:Bool:=allT [leI (0:Int) x0,leI x0 x0,leI ((↑(8:Nat):Int) * x0) (281474976710656:Int),leI x0 (9223372036854775807:Int),leI (0:Int) x1,leI x1 x1,leI ((↑(24:Nat):Int) * x1) (281474976710656:Int),leI x1 (9223372036854775807:Int)]
end
def Ph:List SV→List Entry→Option Out
 | [.one ⟨false,[.val (.int .i64 x0)]⟩,.one ⟨false,[.val (.int .i64 x1)]⟩],[]=>some ⟨.one ⟨true,[.ref 0,.ref 1]⟩,[],[.row true 2 agR (HN x0),.row true 172 abM (HO x1)],[HP x0 x1]⟩
 |_,_=>none
def Yd:PF prog:=PF.ofG prog [] [] aN 93 f93 func93 (fun c _=>LOk.nil c) Ph (by
 intro vs es r h;unfold Ph at h;split at h
 ·cases h;kernel_rfl
 ·cases h)
section
variable (x3:List ByteArray)(x5:List (ByteArray×List (Int×ByteArray×Int)))
def cg:List Int:=HN (↑x3.length:Int)
def cZ:List (Int×(Int×Int)):=HO (↑(List.length (blL x5)):Int)
def iR:Bool:=allT [YT x5,HP (↑x3.length:Int) (↑(List.length (blL x5)):Int)]
end
def tP:List SV→List Entry→Option Out
 | [.one ⟨true,[.val (.string _x0),.ref 0,.ref 1,.ref 2,.val (.string _x1),.ref 3]⟩],[.row false 9 (.str) x2,.row false 9 (.str) x3,.row false 9 (.str) x4,.row false 204 (.pair (.str) (.sl 178 (.pair (.int .i64) (.pair (.str) (.int .i64))))) x5]=>some ⟨.one ⟨true,[.ref 4,.ref 5]⟩,[.row false 9 aih x2,.row false 9 aih x3,.row false 9 aih x4,.row false 204 (CTy.pair CTy.str (CTy.sl (178:TypeId) acD)) x5],[.row true 2 agR (cg x3),.row true 172 abM (cZ x5)],[iR x3 x5]⟩
 |_,_=>none
def dc:PF prog:=PF.ofG prog [dP,PF.lend dP,PF.fz dP,Yd] [] aN 204 f204 func204 (fun c _=>LOk.nil c) tP (by
 intro vs es r h;unfold tP at h;split at h
 ·cases h;kernel_rfl
 ·cases h)
abbrev mO:=Int×Int×List (List Int)×ByteArray×ByteArray×List (List Int)×List ByteArray×List ByteArray×List ByteArray×List (ByteArray×(List (Int×(ByteArray×Int))))×List Int×List (Int×(Int×Int))
def lT(y0:Int)(y2:List (List Int)):List Int:=Option.getD y2[Int.toNat y0]? (rY (CTy.sl (2:Nat) agR))
def tf(y0:Int)(y2:List (List Int))(y4:ByteArray)(y6 y7 y8:List ByteArray)(y9:List (ByteArray×(List (Int×(ByteArray×Int)))))(y10:List Int)(y11:List (Int×(Int×Int))):List (List Int):= [scO y6 y7 y8 y4 y9 (lT y0 y2) y10 y11]
section
variable (y0 y1:Int)(y2:List (List Int))
def Cl:Bool:=ltI y0 y1
def Cm:Bool:=leI (0:Int) y0
def Cn:Bool:=ltI y0 (↑y2.length:Int)
def Co:Bool:=ltN y0.toNat y2.length
end
def Cp(y0:Int)(y2:List (List Int))(y3 y4:ByteArray)(y6 y7 y8:List ByteArray)(y9:List (ByteArray×(List (Int×(ByteArray×Int)))))(y10:List Int)(y11:List (Int×(Int×Int))):Bool:=scG y3 y6 y7 y8 y4 y9 y10 y11 (lT y0 y2)
def Cq(y0:Int)(y2:List (List Int))(y4:ByteArray)(y5:List (List Int))(y6 y7 y8:List ByteArray)(y9:List (ByteArray×(List (Int×(ByteArray×Int)))))(y10:List Int)(y11:List (Int×(Int×Int))):Bool:=leN (List.length y5 + List.length (tf y0 y2 y4 y6 y7 y8 y9 y10 y11)) (9223372036854775807:Nat)
def Cr(y0:Int)(y2:List (List Int))(y4:ByteArray)(y5:List (List Int))(y6 y7 y8:List ByteArray)(y9:List (ByteArray×(List (Int×(ByteArray×Int)))))(y10:List Int)(y11:List (Int×(Int×Int))):Bool:=leN ((List.length y5 + List.length (tf y0 y2 y4 y6 y7 y8 y9 y10 y11)) * (24:Nat)) (140737488355328:Nat)
def Cs(y0:Int):Int:=IntKind.wrap .i64 (y0 + (1:Int))
def Ct(y0:Int)(y2:List (List Int))(y4:ByteArray)(y5:List (List Int))(y6 y7 y8:List ByteArray)(y9:List (ByteArray×(List (Int×(ByteArray×Int)))))(y10:List Int)(y11:List (Int×(Int×Int))):List (List Int):=y5++tf y0 y2 y4 y6 y7 y8 y9 y10 y11
def Cu(y0:Int)(y2:List (List Int))(y6 y7 y8:List ByteArray)(y9:List (ByteArray×(List (Int×(ByteArray×Int)))))(y10:List Int)(y11:List (Int×(Int×Int))):List Int:=scV y6 y7 y8 y9 (lT y0 y2) y10 y11
def Av(y0:Int)(y2:List (List Int))(y6 y7 y8:List ByteArray)(y9:List (ByteArray×(List (Int×(ByteArray×Int)))))(y10:List Int)(y11:List (Int×(Int×Int))):List (Int×(Int×Int)):=scB y6 y7 y8 y9 (lT y0 y2) y10 y11
def ab9:mO→List (Nat×SV)
 |(y0,y1,_,_,_,_,_,_,_,_,_,_)=> [(36,(.one ⟨false,[.val (.int .i64 y0)]⟩)),(35,(.one ⟨false,[.val (.int .i64 y1)]⟩)),(34,(.one ⟨false,[.ref 0]⟩)),(2,(.one ⟨false,[.ptr 1 0]⟩)),(7,(.one ⟨false,[.ptr 2 0]⟩)),(9,(.one ⟨false,[.ref 3]⟩))]
def abZ:mO→List (Nat×Entry)
 |(_,_,y2,y3,y4,y5,y6,y7,y8,y9,y10,y11)=> [(0,(.row false 41 (CTy.sl (2:Nat) agR) y2)),(1,(.box 63 [.val (.string y3),.ref 4,.ref 5,.ref 6,.val (.string y4),.ref 7])),(2,(.box 48 [.ref 8,.ref 9])),(4,(.row false 9 aih y6)),(5,(.row false 9 aih y7)),(6,(.row false 9 aih y8)),(7,(.row false 204 (CTy.pair CTy.str (CTy.sl (178:Nat) acD)) y9)),(3,(.tree 41 (CTy.sl (2:Nat) agR) y5 none)),(8,(.row true 2 agR y10)),(9,(.row true 172 abM y11))]
def acu:Nat→mO→List (Nat×SV)
 |_,(_,_,_,_,_,_,_,_,_,_,_,_)=> [(9,(.one ⟨false,[.ref 3]⟩))]
def ack:Nat→mO→List (Nat×Entry)
 |_,(_,_,y2,y3,y4,y5,y6,y7,y8,y9,y10,y11)=> [(0,(.row false 41 (CTy.sl (2:Nat) agR) y2)),(1,(.box 63 [.val (.string y3),.ref 4,.ref 5,.ref 6,.val (.string y4),.ref 7])),(2,(.box 48 [.ref 8,.ref 9])),(3,(.tree 41 (CTy.sl (2:Nat) agR) y5 none)),(4,(.row false 9 aih y6)),(5,(.row false 9 aih y7)),(6,(.row false 9 aih y8)),(7,(.row false 204 (CTy.pair CTy.str (CTy.sl (178:Nat) acD)) y9)),(8,(.row true 2 agR y10)),(9,(.row true 172 abM y11))]
def Bq:mO→LT mO
 |(y0,y1,y2,y3,y4,y5,y6,y7,y8,y9,y10,y11)=> .ite (Cl y0 y1) (.need [Cm y0,Cn y0 y2,Co y0 y2] (.need [Cp y0 y2 y3 y4 y6 y7 y8 y9 y10 y11] (.need [Cq y0 y2 y4 y5 y6 y7 y8 y9 y10 y11,Cr y0 y2 y4 y5 y6 y7 y8 y9 y10 y11] (.nrm ((Cs y0),y1,y2,y3,y4,Ct y0 y2 y4 y5 y6 y7 y8 y9 y10 y11,y6,y7,y8,y9,Cu y0 y2 y6 y7 y8 y9 y10 y11,(Av y0 y2 y6 y7 y8 y9 y10 y11)) [(0,0),(1,1),(2,2),(3,1152),(4,4),(5,5),(6,6),(7,7),(8,513),(9,514)])))) (.ext 0 [(0,0),(1,1),(2,2),(3,3),(4,4),(5,5),(6,6),(7,7),(8,8),(9,9)])
def Mw(s:St):Option mO:=
 (match s.look 36 with
 |some ⟨none,.one ⟨false,[.val (.int .i64 y0)]⟩⟩=>
 (match s.look 35 with
 |some ⟨none,.one ⟨false,[.val (.int .i64 y1)]⟩⟩=>
 (match s.look 34 with
 |some ⟨none,.one ⟨false,[.ref 4]⟩⟩=>
 (match s.look 2 with
 |some ⟨none,.one ⟨false,[.ptr 384 0]⟩⟩=>
 (match s.look 7 with
 |some ⟨none,.one ⟨false,[.ptr 1280 0]⟩⟩=>
 (match s.look 9 with
 |some ⟨none,.one ⟨false,[.ref 1856]⟩⟩=>
 (match s.ent 4 with
 |some (.row false 41 (.sl 2 (.int .i64)) y2)=>
 (match s.ent 384 with
 |some (.box 63 [.val (.string y3),.ref 0,.ref 1,.ref 2,.val (.string y4),.ref 3])=>
 (match s.ent 1280 with
 |some (.box 48 [.ref 1216,.ref 1217])=>
 (match s.ent 0 with
 |some (.row false 9 (.str) y6)=>
 (match s.ent 1 with
 |some (.row false 9 (.str) y7)=>
 (match s.ent 2 with
 |some (.row false 9 (.str) y8)=>
 (match s.ent 3 with
 |some (.row false 204 (.pair .str (.sl (178:Nat) (.pair (.int .i64) (.pair .str (.int .i64))))) y9)=>
 (match s.ent 1856 with
 |some (.tree 41 (.sl 2 (.int .i64)) y5 none)=>
 (match s.ent 1216 with
 |some (.row true 2 (.int .i64) y10)=>
 (match s.ent 1217 with
 |some (.row true 172 (.pair (.int .i64) (.pair (.int .i64) (.int .i64))) y11)=>
 some (y0,y1,y2,y3,y4,y5,y6,y7,y8,y9,y10,y11)
 |_=>none)
 |_=>none)
 |_=>none)
 |_=>none)
 |_=>none)
 |_=>none)
 |_=>none)
 |_=>none)
 |_=>none)
 |_=>none)
 |_=>none)
 |_=>none)
 |_=>none)
 |_=>none)
 |_=>none)
 |_=>none)
def gJ:Lp mO where
 h:=⟨[37,38,39,11,41,42,43,44,40,45,46,13,12,47,48,49,50,9,51,52,36],[0,1,2,4,5,6,7],[3,8,9],[]⟩
 JL:=ab9
 JE:=abZ
 XL:=acu
 XE:=ack
 q:=fun j=>match j with | _=> .exit 1
 tags:= [0]
 lt:=Bq
 fuel:=fun(y0,y1,y2,y3,y4,y5,y6,y7,y8,y9,y10,y11)=>y0.natAbs + y1.natAbs + y2.length + y3.size + y4.size + y5.length + y6.length + y7.length + y8.length + y9.length + y10.length + y11.length
 fix:=fun(_,y1,y2,y3,y4,_,y6,y7,y8,y9,_,_) (y0,_,_,_,_,y5,_,_,_,_,y10,y11)=>(y0,y1,y2,y3,y4,y5,y6,y7,y8,y9,y10,y11)
 σ:= [(0,4),(1,384),(2,1280),(4,0),(5,1),(6,2),(7,3),(3,1856),(8,1216),(9,1217)]
 rd:=Mw
theorem ZA:LoopOk prog (fun k=>Nat.blt k Tryz.f136.ntmps) gJ.F (aL f136 0):=by
 refine Lp.ok (tbl:= [PF.trees prog,DS,PF.lend DS,PF.fz DS,eW,PF.lend eW,PF.fz eW,wc,PF.lend wc,PF.fz wc,dc,PF.lend dc,PF.fz dc]) (lf:= []) aN gJ (by kernel_rfl) (LOk.nil _) (fun _=>rfl) (fun _ _=>rfl) ?_ ?_ ?_ ?_ (fun _=>rfl) ?_
 ·rintro⟨y0,y1,y2,y3,y4,y5,y6,y7,y8,y9,y10,y11⟩;kernel_rfl
 ·rintro⟨y0,y1,y2,y3,y4,y5,y6,y7,y8,y9,y10,y11⟩;kernel_rfl
 ·intro s x h
  have h:Mw s=some x:=h
  unfold Mw at h
  repeat' split at h
  all_goals cases h
  exact⟨aa (by assumption) rfl (aa (by assumption) rfl (aa (by assumption) rfl (aa (by assumption) rfl (aa (by assumption) rfl (aa (by assumption) rfl (rfl)))))),ab rfl (by assumption) rfl (ab rfl (by assumption) rfl (ab rfl (by assumption) rfl (ab rfl (by assumption) rfl (ab rfl (by assumption) rfl (ab rfl (by assumption) rfl (ab rfl (by assumption) rfl (ab rfl (by assumption) rfl (ab rfl (by assumption) rfl (ab rfl (by assumption) rfl (rfl))))))))))⟩
 ·rintro⟨y0,y1,y2,y3,y4,y5,y6,y7,y8,y9,y10,y11⟩;kernel_rfl
 ·rintro⟨y0,y1,y2,y3,y4,y5,y6,y7,y8,y9,y10,y11⟩ z;exact(And.intro rfl trivial)
section
variable (x0 x1:ByteArray)(x2 x3 x4:List ByteArray)(x5:List (ByteArray×List (Int×ByteArray×Int)))(x6:List (List Int))
def uK:Bool:=ltI (200:Int) (↑x6.length:Int)
def BO:Bool:=aod x0 x2 x3 x4 x1 x5 (cg x3) (cZ x5) x6 !=(0:Int)
def Lq:Int×Int×List (List Int)×ByteArray×ByteArray×List (List Int)×List ByteArray×List ByteArray×List ByteArray×List (ByteArray×List (Int×ByteArray×Int))×List Int×List (Int×Int×Int):=((0:Int),(↑x6.length:Int),x6,x0,x1,[],x2,x3,x4,x5,cg x3,cZ x5)
def QK:List (List Int)×List ByteArray×List ByteArray×List ByteArray×List (ByteArray×List (Int×ByteArray×Int))×List Int×List (Int×Int×Int):=(Lp.res gJ (Lq x0 x1 x2 x3 x4 x5 x6)).2.2.2.2.2.2
def QL:List Int×List (Int×Int×Int):=(QK x0 x1 x2 x3 x4 x5 x6).2.2.2.2.2
def MZ:Int:=bif !nb x0 x2 x3 x4 x1 x5 then(1:Int)else bif uK x6 then(3:Int)else bif BO x0 x1 x2 x3 x4 x5 x6 then aod x0 x2 x3 x4 x1 x5 (cg x3) (cZ x5) x6 else(0:Int)
def Sf:List (List Int):=bif !nb x0 x2 x3 x4 x1 x5 then []else bif uK x6 then []else bif BO x0 x1 x2 x3 x4 x5 x6 then []else (QK x0 x1 x2 x3 x4 x5 x6).1
def Na:List Int:=bif !nb x0 x2 x3 x4 x1 x5 then []else bif uK x6 then []else bif BO x0 x1 x2 x3 x4 x5 x6 then []else (QL x0 x1 x2 x3 x4 x5 x6).1
def Nb:List (Int×(Int×Int)):=bif !nb x0 x2 x3 x4 x1 x5 then []else bif uK x6 then []else bif BO x0 x1 x2 x3 x4 x5 x6 then []else (QL x0 x1 x2 x3 x4 x5 x6).2
def Nc:Bool:=allT [prOk x0 x2 x3 x4 x1 x5,!nb x0 x2 x3 x4 x1 x5||(uK x6||iR x3 x5),!nb x0 x2 x3 x4 x1 x5||(uK x6||cdG x0 x2 x3 x4 x1 x5 (cg x3) x6),!nb x0 x2 x3 x4 x1 x5||(uK x6||(BO x0 x1 x2 x3 x4 x5 x6||Lp.fin gJ (Lq x0 x1 x2 x3 x4 x5 x6)))]
end
def Yq:List SV→List Entry→Option Out
 | [.one ⟨true,[.val (.string x0),.ref 0,.ref 1,.ref 2,.val (.string x1),.ref 3]⟩,.one ⟨false,[.ref 4]⟩],[.row false 9 (.str) x2,.row false 9 (.str) x3,.row false 9 (.str) x4,.row false 204 (.pair (.str) (.sl 178 (.pair (.int .i64) (.pair (.str) (.int .i64))))) x5,.row false 41 (.sl 2 (.int .i64)) x6]=>some ⟨.tup [⟨false,[.ref 5]⟩,⟨true,[.ref 6,.ref 7]⟩,⟨false,[.val (.int .i64 (MZ x0 x1 x2 x3 x4 x5 x6))]⟩],[.row false 9 aih x2,.row false 9 aih x3,.row false 9 aih x4,.row false 204 (CTy.pair CTy.str (CTy.sl (178:TypeId) acD)) x5,.row false 41 (CTy.sl (2:TypeId) agR) x6],[.tree 41 (CTy.sl (2:Nat) agR) (Sf x0 x1 x2 x3 x4 x5 x6) none,.row true 2 agR (Na x0 x1 x2 x3 x4 x5 x6),.row true 172 abM (Nb x0 x1 x2 x3 x4 x5 x6)],[Nc x0 x1 x2 x3 x4 x5 x6]⟩
 |_,_=>none
def Sn:PF prog:=PF.ofG prog [PF.trees prog,DS,PF.lend DS,PF.fz DS,eW,PF.lend eW,PF.fz eW,wc,PF.lend wc,PF.fz wc,dc,PF.lend dc,PF.fz dc] [gJ.F] aN 136 f136 func136 (LOk.fnT (l:= [aL f136 0]) (by kernel_rfl) (.cons ZA (.nil _))) Yq (by
 intro vs es r h;unfold Yq at h;split at h
 ·cases h;kernel_rfl
 ·cases h)
section
variable (x0 x1:ByteArray)(x2 x3 x4:List ByteArray)(x5:List (ByteArray×List (Int×ByteArray×Int)))(x6:List (List Int))
def TE:Int:=MZ x0 x1 x2 x3 x4 x5 x6
def TF:List Int:=Na x0 x1 x2 x3 x4 x5 x6
def TG:List (Int×(Int×Int)):=Nb x0 x1 x2 x3 x4 x5 x6
def NK:Bool:=allT [Nc x0 x1 x2 x3 x4 x5 x6]
end
def Tg:List SV→List Entry→Option Out
 | [.one ⟨true,[.val (.string x0),.ref 0,.ref 1,.ref 2,.val (.string x1),.ref 3]⟩,.one ⟨false,[.ref 4]⟩],[.row false 9 (.str) x2,.row false 9 (.str) x3,.row false 9 (.str) x4,.row false 204 (.pair (.str) (.sl 178 (.pair (.int .i64) (.pair (.str) (.int .i64))))) x5,.row false 41 (.sl 2 (.int .i64)) x6]=>some ⟨.tup [⟨true,[.ref 5,.ref 6]⟩,⟨false,[.val (.int .i64 (TE x0 x1 x2 x3 x4 x5 x6))]⟩],[.row false 9 aih x2,.row false 9 aih x3,.row false 9 aih x4,.row false 204 (CTy.pair CTy.str (CTy.sl (178:TypeId) acD)) x5,.row false 41 (CTy.sl (2:TypeId) agR) x6],[.row true 2 agR (TF x0 x1 x2 x3 x4 x5 x6),.row true 172 abM (TG x0 x1 x2 x3 x4 x5 x6)],[NK x0 x1 x2 x3 x4 x5 x6]⟩
 |_,_=>none
def aeE:PF prog:=PF.ofG prog [PF.trees prog,Sn,PF.lend Sn,PF.fz Sn] [] aN 65 f65 func65 (fun c _=>LOk.nil c) Tg (by
 intro vs es r h;unfold Tg at h;split at h
 ·cases h;kernel_rfl
 ·cases h)
abbrev MS:=Int×List Int×List Int×List Int×List BS3
theorem aqm{v:Int}{bs:List TM}{xs:List Int}{ss:List BS3}:Hg v bs xs ss=true↔ss.length=bs.length∧bitsB v xs=true∧ ∀ k,k < bs.length→possAt bs ss k=true:=by
 simp only [Hg,Bool.and_eq_true,beq_iff_eq,List.all_eq_true,List.mem_range]
 constructor
 ·rintro⟨h1,h2,h3⟩;exact⟨by omega,h2,h3⟩
 ·rintro⟨h1,h2,h3⟩;exact⟨by omega,h2,h3⟩
def m0:MS:=(0,[],[],[],[])
abbrev lN:=Int×Int×List (List Int)
section
variable (y0 y1:Int)(y2:List (List Int))
def my:List Int:=Option.getD y2[Int.toNat y0]? (rY (CTy.sl (2:TypeId) agR))
def wH:Bool:=ltI y0 (↑y2.length:Int)
def FO:Bool:=leI (0:Int) y0
def FP:Bool:=ltN y0.toNat y2.length
def FQ:Bool:=leN (List.length (my y0 y2)) (9223372036854775807:Nat)&&(leI (-1:Int) y1&&leI y1 (1048576:Int))
def AY:Bool:=ltI (szV y1 (my y0 y2)) (0:Int)
end
def AZ:Int:=(-1:Int)
def FR(y0:Int):Int:=IntKind.wrap .i64 (y0 + (1:Int))
def Ba(y0 y1:Int)(y2:List (List Int)):Int:=szV y1 (my y0 y2)
def aar:lN→List (Nat×SV)
 |(y0,y1,_)=> [(5,(.one ⟨false,[.val (.int .i64 y0)]⟩)),(0,(.one ⟨false,[.ref 0]⟩)),(1,(.one ⟨false,[.val (.int .i64 y1)]⟩))]
def aah:lN→List (Nat×Entry)
 |(_,_,y2)=> [(0,(.row false 41 (CTy.sl (2:TypeId) agR) y2))]
def aaU:Nat→lN→List (Nat×SV)
 |0,(_,_,_)=> [(4,(.one ⟨false,[.val (.int .i64 (AZ))]⟩))]
 |_,(_,y1,_)=> [(1,(.one ⟨false,[.val (.int .i64 y1)]⟩))]
def aaK:Nat→lN→List (Nat×Entry)
 |0,(_,_,y2)=> [(0,(.row false 41 (CTy.sl (2:TypeId) agR) y2))]
 |_,(_,_,y2)=> [(0,(.row false 41 (CTy.sl (2:TypeId) agR) y2))]
def za:lN→LT lN
 |(y0,y1,y2)=> .ite (wH y0 y2) (.need [FO y0,wH y0 y2,FP y0 y2,FQ y0 y1 y2] (.ite (AY y0 y1 y2) (.ext 0 [(0,0)]) (.nrm ((FR y0),Ba y0 y1 y2,y2) [(0,0)]))) (.ext 1 [(0,0)])
def Ld(s:St):Option lN:=
 (match s.look 5 with
 |some ⟨none,.one ⟨false,[.val (.int .i64 y0)]⟩⟩=>
 (match s.look 0 with
 |some ⟨none,.one ⟨false,[.ref 0]⟩⟩=>
 (match s.look 1 with
 |some ⟨none,.one ⟨false,[.val (.int .i64 y1)]⟩⟩=>
 (match s.ent 0 with
 |some (.row false 41 (.sl 2 (.int .i64)) y2)=>
 some (y0,y1,y2)
 |_=>none)
 |_=>none)
 |_=>none)
 |_=>none)
def dy:Lp lN where
 h:=⟨[12,13,14,15,18,19,20,21,22,23,1,24,25,4,16,17,5],[0],[],[]⟩
 JL:=aar
 JE:=aah
 XL:=aaU
 XE:=aaK
 q:=fun j=>match j with | 0=> .ret | _=> .exit 0
 tags:= [0,1]
 lt:=za
 fuel:=fun(y0,y1,y2)=>y0.natAbs + y1.natAbs + y2.length
 fix:=fun(_,_,y2) (y0,y1,_)=>(y0,y1,y2)
 σ:= [(0,0)]
 rd:=Ld
theorem XT:LoopOk prog (fun k=>Nat.blt k Tryz.f16.ntmps) dy.F (aL f16 0):=by
 refine Lp.ok (tbl:= [DT,PF.lend DT,PF.fz DT]) (lf:= []) aN dy (by kernel_rfl) (LOk.nil _) (fun _=>rfl) (fun j _=>by unfold dy;match j with | 0=>rfl | _ + 1=>rfl) ?_ ?_ ?_ ?_ (fun _=>rfl) ?_
 ·rintro⟨y0,y1,y2⟩;kernel_rfl
 ·rintro⟨y0,y1,y2⟩;kernel_rfl
 ·intro s x h
  have h:Ld s=some x:=h
  unfold Ld at h
  repeat' split at h
  all_goals cases h
  exact⟨aa (by assumption) rfl (aa (by assumption) rfl (aa (by assumption) rfl (rfl))),ab rfl (by assumption) rfl (rfl)⟩
 ·rintro⟨y0,y1,y2⟩;kernel_rfl
 ·rintro⟨y0,y1,y2⟩ z;exact(And.intro (And.intro trivial rfl) trivial)
section
variable (x0:Int)(x1:List (List Int))
def JQ:Int:=IntKind.wrap .i64 (x0 - (↑x1.length:Int))
def JR:Int×Int×List (List Int):=((0:Int),JQ x0 x1,x1)
def QQ:Int:=bif ltI (JQ x0 x1) (0:Int)then(-1:Int)else bif Nat.beq ((Lp.res dy (JR x0 x1)).1) (0:Nat)then AZ else ((Lp.res dy (JR x0 x1)).2.2).1
def QR:Bool:=allT [ltI (JQ x0 x1) (0:Int)||Lp.fin dy (JR x0 x1)]
end
def Wn:List SV→List Entry→Option Out
 | [.one ⟨false,[.ref 0]⟩,.one ⟨false,[.val (.int .i64 x0)]⟩],[.row false 41 (.sl 2 (.int .i64)) x1]=>some ⟨.one ⟨false,[.val (.int .i64 (QQ x0 x1))]⟩,[.row false 41 (CTy.sl (2:TypeId) agR) x1],[],[QR x0 x1]⟩
 |_,_=>none
def ahf:PF prog:=PF.ofG prog [DT,PF.lend DT,PF.fz DT] [dy.F] aN 16 f16 func16 (LOk.fnT (l:= [aL f16 0]) (by kernel_rfl) (.cons XT (.nil _))) Wn (by
 intro vs es r h;unfold Wn at h;split at h
 ·cases h;kernel_rfl
 ·cases h)
abbrev lP:=Int×List (List Int)×List (List Int)
section
variable (y0:Int)(y1 y2:List (List Int))
def vg:List Int:=Option.getD y1[Int.toNat y0]? (rY (CTy.sl (2:TypeId) agR))
def wJ:Bool:=ltI y0 (↑y1.length:Int)
def wK:Bool:=leI (0:Int) y0
def Bg:Bool:=ltN y0.toNat y1.length
def Bh:Bool:=leN (List.length (vg y0 y1)) (1048576:Nat)
def Bi:Bool:=ltI y0 (↑y2.length:Int)
def Bj:Bool:=ltN y0.toNat y2.length
def FS:Int:=IntKind.wrap .i64 (y0 + (1:Int))
def FT:List (List Int):=List.set y2 y0.toNat (vg y0 y1)
end
def aat:lP→List (Nat×SV)
 |(y0,_,_)=> [(4,(.one ⟨false,[.val (.int .i64 y0)]⟩)),(0,(.one ⟨false,[.ref 0]⟩)),(3,(.one ⟨false,[.ref 1]⟩))]
def aaj:lP→List (Nat×Entry)
 |(_,y1,y2)=> [(0,(.row false 41 (CTy.sl (2:TypeId) agR) y1)),(1,(.tree 41 (CTy.sl (2:Nat) agR) y2 none))]
def aaW:Nat→lP→List (Nat×SV)
 |_,(_,_,_)=> []
def aaM:Nat→lP→List (Nat×Entry)
 |_,(_,y1,y2)=> [(0,(.row false 41 (CTy.sl (2:TypeId) agR) y1)),(1,(.tree 41 (CTy.sl (2:Nat) agR) y2 none))]
def zc:lP→LT lP
 |(y0,y1,y2)=> .ite (wJ y0 y1) (.need [wK y0,wJ y0 y1,Bg y0 y1,Bh y0 y1,wK y0,Bi y0 y2,Bj y0 y2] (.nrm ((FS y0),y1,(FT y0 y1 y2)) [(0,0),(1,1)])) (.ext 0 [(0,0),(1,1)])
def Lf(s:St):Option lP:=
 (match s.look 4 with
 |some ⟨none,.one ⟨false,[.val (.int .i64 y0)]⟩⟩=>
 (match s.look 0 with
 |some ⟨none,.one ⟨false,[.ref 0]⟩⟩=>
 (match s.look 3 with
 |some ⟨none,.one ⟨false,[.ref 320]⟩⟩=>
 (match s.ent 0 with
 |some (.row false 41 (.sl 2 (.int .i64)) y1)=>
 (match s.ent 320 with
 |some (.tree 41 (.sl 2 (.int .i64)) y2 none)=>
 some (y0,y1,y2)
 |_=>none)
 |_=>none)
 |_=>none)
 |_=>none)
 |_=>none)
def fu:Lp lP where
 h:=⟨[8,9,10,11,14,15,16,17,18,19,20,21,12,13,4],[0,1],[],[]⟩
 JL:=aat
 JE:=aaj
 XL:=aaW
 XE:=aaM
 q:=fun j=>match j with | _=> .exit 0
 tags:= [0]
 lt:=zc
 fuel:=fun(y0,y1,y2)=>y0.natAbs + y1.length + y2.length
 fix:=fun(_,y1,_) (y0,_,y2)=>(y0,y1,y2)
 σ:= [(0,0),(1,320)]
 rd:=Lf
theorem XV:LoopOk prog (fun k=>Nat.blt k Tryz.f19.ntmps) fu.F (aL f19 0):=by
 refine Lp.ok (tbl:= [PF.trees prog,DU,PF.lend DU,PF.fz DU]) (lf:= []) aN fu (by kernel_rfl) (LOk.nil _) (fun _=>rfl) (fun _ _=>rfl) ?_ ?_ ?_ ?_ (fun _=>rfl) ?_
 ·rintro⟨y0,y1,y2⟩;kernel_rfl
 ·rintro⟨y0,y1,y2⟩;kernel_rfl
 ·intro s x h
  have h:Lf s=some x:=h
  unfold Lf at h
  repeat' split at h
  all_goals cases h
  exact⟨aa (by assumption) rfl (aa (by assumption) rfl (aa (by assumption) rfl (rfl))),ab rfl (by assumption) rfl (ab rfl (by assumption) rfl (rfl))⟩
 ·rintro⟨y0,y1,y2⟩;kernel_rfl
 ·rintro⟨y0,y1,y2⟩ z;exact(And.intro rfl trivial)
section
variable (x0:List (List Int))
def JY:Int×List (List Int)×List (List Int):=((0:Int),x0,List.replicate (Int.toNat (↑x0.length:Int)) [])
def QV:List (List Int):=(Lp.res fu (JY x0)).2.2.2
def QW:Bool:=allT [leI (0:Int) (↑x0.length:Int),leI (↑x0.length:Int) (↑x0.length:Int),leI ((↑(24:Nat):Int) * (↑x0.length:Int)) (281474976710656:Int),leI (↑x0.length:Int) (9223372036854775807:Int),Lp.fin fu (JY x0)]
end
def Wq:List SV→List Entry→Option Out
 | [.one ⟨false,[.ref 0]⟩],[.row false 41 (.sl 2 (.int .i64)) x0]=>some ⟨.one ⟨false,[.ref 1]⟩,[.row false 41 (CTy.sl (2:TypeId) agR) x0],[.tree 41 (CTy.sl (2:Nat) agR) (QV x0) none],[QW x0]⟩
 |_,_=>none
def ahh:PF prog:=PF.ofG prog [PF.trees prog,DU,PF.lend DU,PF.fz DU] [fu.F] aN 19 f19 func19 (LOk.fnT (l:= [aL f19 0]) (by kernel_rfl) (.cons XV (.nil _))) Wq (by
 intro vs es r h;unfold Wq at h;split at h
 ·cases h;kernel_rfl
 ·cases h)
abbrev lK:=Int×List (List Int)×List (List Int)
section
variable (y0:Int)(y1 y2:List (List Int))
def uW:List Int:=Option.getD y1[Int.toNat y0]? (rY (CTy.sl (2:TypeId) agR))
def wC:Bool:=ltI y0 (↑y1.length:Int)
def wD:Bool:=leI (0:Int) y0
def Ax:Bool:=ltN y0.toNat y1.length
def Ay:Bool:=ltI y0 (↑y2.length:Int)
def Az:Bool:=ltN y0.toNat y2.length
def AA:Bool:=leN (List.length (uW y0 y1)) (9223372036854775807:Nat)
def AB:Bool:= !eqL (uW y0 y1) (Option.getD y2[Int.toNat y0]? (rY (CTy.sl (2:TypeId) agR)))
def AC:Int:=IntKind.wrap .i64 (y0 + (1:Int))
end
def aan:lK→List (Nat×SV)
 |(y0,_,_)=> [(5,(.one ⟨false,[.val (.int .i64 y0)]⟩)),(0,(.one ⟨false,[.ref 0]⟩)),(1,(.one ⟨false,[.ref 1]⟩))]
def aad:lK→List (Nat×Entry)
 |(_,y1,y2)=> [(0,(.row false 41 (CTy.sl (2:TypeId) agR) y1)),(1,(.row false 41 (CTy.sl (2:TypeId) agR) y2))]
def aaQ:Nat→lK→List (Nat×SV)
 |0,(_,_,_)=> [(4,(.one ⟨false,[.val (.bool false)]⟩))]
 |_,(_,_,_)=> []
def aaG:Nat→lK→List (Nat×Entry)
 |0,(_,y1,y2)=> [(0,(.row false 41 (CTy.sl (2:TypeId) agR) y1)),(1,(.row false 41 (CTy.sl (2:TypeId) agR) y2))]
 |_,(_,y1,y2)=> [(0,(.row false 41 (CTy.sl (2:TypeId) agR) y1)),(1,(.row false 41 (CTy.sl (2:TypeId) agR) y2))]
def yW:lK→LT lK
 |(y0,y1,y2)=> .ite (wC y0 y1) (.need [wD y0,wC y0 y1,Ax y0 y1,wD y0,Ay y0 y2,Az y0 y2,AA y0 y1] (.ite (AB y0 y1 y2) (.ext 0 [(0,0),(1,1)]) (.nrm ((AC y0),y1,y2) [(0,0),(1,1)]))) (.ext 1 [(0,0),(1,1)])
def KZ(s:St):Option lK:=
 (match s.look 5 with
 |some ⟨none,.one ⟨false,[.val (.int .i64 y0)]⟩⟩=>
 (match s.look 0 with
 |some ⟨none,.one ⟨false,[.ref 0]⟩⟩=>
 (match s.look 1 with
 |some ⟨none,.one ⟨false,[.ref 1]⟩⟩=>
 (match s.ent 0 with
 |some (.row false 41 (.sl 2 (.int .i64)) y1)=>
 (match s.ent 1 with
 |some (.row false 41 (.sl 2 (.int .i64)) y2)=>
 some (y0,y1,y2)
 |_=>none)
 |_=>none)
 |_=>none)
 |_=>none)
 |_=>none)
def eu:Lp lK where
 h:=⟨[11,12,13,14,17,18,19,20,21,22,23,24,25,26,4,15,16,5],[0,1],[],[]⟩
 JL:=aan
 JE:=aad
 XL:=aaQ
 XE:=aaG
 q:=fun j=>match j with | 0=> .ret | _=> .exit 0
 tags:= [0,1]
 lt:=yW
 fuel:=fun(y0,y1,y2)=>y0.natAbs + y1.length + y2.length
 fix:=fun(_,y1,y2) (y0,_,_)=>(y0,y1,y2)
 σ:= [(0,0),(1,1)]
 rd:=KZ
theorem XP:LoopOk prog (fun k=>Nat.blt k Tryz.f21.ntmps) eu.F (aL f21 0):=by
 refine Lp.ok (tbl:= [ua,PF.lend ua,PF.fz ua]) (lf:= []) aN eu (by kernel_rfl) (LOk.nil _) (fun _=>rfl) (fun j _=>by unfold eu;match j with | 0=>rfl | _ + 1=>rfl) ?_ ?_ ?_ ?_ (fun _=>rfl) ?_
 ·rintro⟨y0,y1,y2⟩;kernel_rfl
 ·rintro⟨y0,y1,y2⟩;kernel_rfl
 ·intro s x h
  have h:KZ s=some x:=h
  unfold KZ at h
  repeat' split at h
  all_goals cases h
  exact⟨aa (by assumption) rfl (aa (by assumption) rfl (aa (by assumption) rfl (rfl))),ab rfl (by assumption) rfl (ab rfl (by assumption) rfl (rfl))⟩
 ·rintro⟨y0,y1,y2⟩;kernel_rfl
 ·rintro⟨y0,y1,y2⟩ z;exact(And.intro (And.intro trivial rfl) trivial)
section
variable (x0 x1:List (List Int))
def JC:Bool:=(↑x0.length:Int)!=(↑x1.length:Int)
def JD:Int×List (List Int)×List (List Int):=((0:Int),x0,x1)
def Lt:Bool:=bif JC x0 x1 then false else bif Nat.beq ((Lp.res eu (JD x0 x1)).1) (0:Nat)then false else true
def Lu:Bool:=allT [JC x0 x1||Lp.fin eu (JD x0 x1)]
end
def Wi:List SV→List Entry→Option Out
 | [.one ⟨false,[.ref 0]⟩,.one ⟨false,[.ref 1]⟩],[.row false 41 (.sl 2 (.int .i64)) x0,.row false 41 (.sl 2 (.int .i64)) x1]=>some ⟨.one ⟨false,[.val (.bool (Lt x0 x1))]⟩,[.row false 41 (CTy.sl (2:TypeId) agR) x0,.row false 41 (CTy.sl (2:TypeId) agR) x1],[],[Lu x0 x1]⟩
 |_,_=>none
def ahc:PF prog:=PF.ofG prog [ua,PF.lend ua,PF.fz ua] [eu.F] aN 21 f21 func21 (LOk.fnT (l:= [aL f21 0]) (by kernel_rfl) (.cons XP (.nil _))) Wi (by
 intro vs es r h;unfold Wi at h;split at h
 ·cases h;kernel_rfl
 ·cases h)
abbrev jR:=Int×Int×List (List Int)
section
variable (y0 y1:Int)(y2:List (List Int))
def tL:Bool:=ltI y0 (↑y2.length:Int)
def xk:Bool:=leI (0:Int) y0
def xl:Bool:=ltN y0.toNat y2.length
def tM:Bool:=ag0 y1 (List.length (Option.getD y2[Int.toNat y0]? (rY (CTy.sl (2:TypeId) agR))))
def xm:Int:=IntKind.wrap .i64 (y0 + (1:Int))
def xo:Int:=y1 + (↑(List.length (Option.getD y2[Int.toNat y0]? (rY (CTy.sl (2:TypeId) agR)))):Int)
def xt:List (List Int):=List.set y2 y0.toNat (Aq y1 (List.length (Option.getD y2[Int.toNat y0]? (rY (CTy.sl (2:TypeId) agR)))))
end
def Xs:jR→List (Nat×SV)
 |(y0,y1,_)=> [(5,(.one ⟨false,[.val (.int .i64 y0)]⟩)),(0,(.one ⟨false,[.ref 0]⟩)),(1,(.one ⟨false,[.val (.int .i64 y1)]⟩))]
def Xp:jR→List (Nat×Entry)
 |(_,_,y2)=> [(0,(.tree 41 (CTy.sl (2:TypeId) agR) y2 none))]
def Xy:Nat→jR→List (Nat×SV)
 |_,(_,y1,_)=> [(1,(.one ⟨false,[.val (.int .i64 y1)]⟩))]
def Xv:Nat→jR→List (Nat×Entry)
 |_,(_,_,y2)=> [(0,(.tree 41 (CTy.sl (2:TypeId) agR) y2 none))]
def vX:jR→LT jR
 |(y0,y1,y2)=> .ite (tL y0 y2) (.need [xk y0,tL y0 y2,xl y0 y2,tM y0 y1 y2] (.nrm ((xm y0),xo y0 y1 y2,(xt y0 y1 y2)) [(0,0)])) (.ext 0 [(0,0)])
def Ib(s:St):Option jR:=
 (match s.look 5 with
 |some ⟨none,.one ⟨false,[.val (.int .i64 y0)]⟩⟩=>
 (match s.look 0 with
 |some ⟨none,.one ⟨false,[.ref 0]⟩⟩=>
 (match s.look 1 with
 |some ⟨none,.one ⟨false,[.val (.int .i64 y1)]⟩⟩=>
 (match s.ent 0 with
 |some (.tree 41 (.sl 2 (.int .i64)) y2 none)=>
 some (y0,y1,y2)
 |_=>none)
 |_=>none)
 |_=>none)
 |_=>none)
def dG:Lp jR where
 h:=⟨[6,7,8,9,12,13,14,15,16,17,1,10,11,5],[0],[],[]⟩
 JL:=Xs
 JE:=Xp
 XL:=Xy
 XE:=Xv
 q:=fun j=>match j with | _=> .exit 0
 tags:= [0]
 lt:=vX
 fuel:=fun(y0,y1,y2)=>y0.natAbs + y1.natAbs + y2.length
 fix:=fun(_,_,_) (y0,y1,y2)=>(y0,y1,y2)
 σ:= [(0,0)]
 rd:=Ib
theorem VT:LoopOk prog (fun k=>Nat.blt k Tryz.f24.ntmps) dG.F (aL f24 0):=by
 refine Lp.ok (tbl:= [PF.trees prog,qA,PF.lend qA,PF.fz qA]) (lf:= []) aN dG (by kernel_rfl) (LOk.nil _) (fun _=>rfl) (fun _ _=>rfl) ?_ ?_ ?_ ?_ (fun _=>rfl) ?_
 ·rintro⟨y0,y1,y2⟩;kernel_rfl
 ·rintro⟨y0,y1,y2⟩;kernel_rfl
 ·intro s x h
  have h:Ib s=some x:=h
  unfold Ib at h
  repeat' split at h
  all_goals cases h
  exact⟨aa (by assumption) rfl (aa (by assumption) rfl (aa (by assumption) rfl (rfl))),ab rfl (by assumption) rfl (rfl)⟩
 ·rintro⟨y0,y1,y2⟩;kernel_rfl
 ·rintro⟨y0,y1,y2⟩ z;exact(And.intro rfl trivial)
section
variable (x0:Int)(x1:List (List Int))
def AJ:Int×Int×List (List Int):=((0:Int),x0,x1)
def AK:Int×List (List Int):=(Lp.res dG (AJ x0 x1)).2.2
def CB:Int:=(AK x0 x1).1
def CC:List (List Int):=(AK x0 x1).2
def CD:Bool:=allT [Lp.fin dG (AJ x0 x1)]
end
def Th:List SV→List Entry→Option Out
 | [.one ⟨false,[.ref 0]⟩,.one ⟨false,[.val (.int .i64 x0)]⟩],[.tree 41 (.sl 2 (.int .i64)) x1 none]=>some ⟨.one ⟨false,[.val (.int .i64 (CB x0 x1))]⟩,[.tree 41 (CTy.sl (2:TypeId) agR) (CC x0 x1) none],[],[CD x0 x1]⟩
 |_,_=>none
def aeF:PF prog:=PF.ofG prog [PF.trees prog,qA,PF.lend qA,PF.fz qA] [dG.F] aN 24 f24 func24 (LOk.fnT (l:= [aL f24 0]) (by kernel_rfl) (.cons VT (.nil _))) Th (by
 intro vs es r h;unfold Th at h;split at h
 ·cases h;kernel_rfl
 ·cases h)
def Is(ll:List (List Int)):Nat:=(ll.map List.length).sum
def acK:Int→List (List Int)→List (List Int)
 |_,[]=> []
 |k,l::r=>Aq k l.length::acK (k + l.length) r
def aoh:Int→List (List Int)→Int
 |k,[]=>k
 |k,l::r=>bif ltI (szV k l) 0 then -1 else aoh (szV k l) r
def aom(k:Int)(ll:List (List Int)):Int:=bif ltI (k - ll.length) 0 then -1 else aoh (k - ll.length) ll
def aa9(xs ys:List (List Int)):Bool:=decide (xs=ys)
theorem ao2(xs:List (List Int)):aa9 xs xs=true:=by simp [aa9]
theorem am7(a b:List (List Int)):Is (a++b)=Is a + Is b:=by simp [Is]
theorem aib: ∀ (a b:List (List Int)) (k:Int),acK k (a++b)=acK k a++acK (k + Is a) b
 | [],b,k=>by simp [acK,Is]
 |l::a,b,k=>by
  simp only [List.cons_append,acK,aib a b]
  congr 3
  simp [Is];omega
theorem aic: ∀ (a:List (List Int)) (k:Int),(acK k a).length=a.length
 | [],_=>rfl
 |l::a,k=>by simp [acK,aic a]
theorem aq4{x:List Int}{xs:List (List Int)}(h:x∈xs):x.length≤Is xs:=by
 induction xs with
 |nil=>cases h
 |cons l r ih=>
  simp only [Is,List.map_cons,List.sum_cons]
  rcases List.mem_cons.1 h with rfl | h
  ·omega
  ·have:=ih h;simp only [Is]at this;omega
theorem aj2: ∀ (r:List (List Int)) (k:Int),ltI (aoh k r) 0=false→(Is r:Int)≤k
 | [],k,h=>by simp [Is];have:=vW.1 h;simpa [aoh] using this
 |l::r,k,h=>by
  simp only [aoh]at h
  cases h1:ltI (szV k l) 0 with
  |true=>rw [h1]at h;simp at h
  |false=>
   rw [h1,cond_false]at h
   have h2:=aj2 r _ h
   have h3:szV k l=k - l.length:=by
    simp only [szV]at h1 ⊢
    cases h4:ltI (k - (l.length:Int)) 0 with
    |true=>rw [h4]at h1;simp at h1
    |false=>rfl
   rw [h3]at h2
   simp [Is]at h2 ⊢;omega
theorem aon{k:Int}{ll:List (List Int)}(h:ltI (aom k ll) 0=false):(ll.length:Int) + Is ll≤k:=by
 simp only [aom]at h
 cases h1:ltI (k - (ll.length:Int)) 0 with
 |true=>rw [h1]at h;simp at h
 |false=>
  rw [h1,cond_false]at h
  have:=aj2 _ _ h
  omega
theorem aqW{m:Nat}{ll:List (List Int)}(h1:ll.length≤m)(h2:Is ll≤m):abF m ll=true:=
 afd.2 ⟨h1,fun x hx=>Nat.le_trans (aq4 hx) h2⟩
theorem arb{m:Nat}{xs:List (List Int)}(h: ∀ x∈xs,x.length≤m)(b:Nat):((xs[b]?).getD []).length≤m:=by
 cases hb:xs[b]? with
 |none=>simp
 |some x=>simpa using h x (List.mem_of_getElem? hb)
theorem anc{f:Nat→Int×List (List Int)→Nat ⊕ (Int×List (List Int))}{e:Nat}(hf: ∀ b k xs,f b (k,xs)= .inr (k + (((xs[b]?).getD []).length:Int),xs.set b (Aq k ((xs[b]?).getD []).length)))(xs:List (List Int))(k:Int):
  af f e (List.range xs.length) 0 (k,xs)=(e,xs.length,(k + Is xs,acK k xs)):=by
 rw [Vw (g:=fun a b=>(a.1 + (((a.2[b]?).getD []).length:Int),a.2.set b (Aq a.1 ((a.2[b]?).getD []).length))) (fun b a=>hf b a.1 a.2)]
 have jb: ∀ (n:Nat),n≤xs.length→(List.range n).foldl (fun(a:Int×List (List Int)) b=>(a.1 + (((a.2[b]?).getD []).length:Int),a.2.set b (Aq a.1 ((a.2[b]?).getD []).length))) (k,xs)=(k + Is (xs.take n),acK k (xs.take n)++xs.drop n):=by
  intro n
  induction n with
  |zero=>intro _;simp [Is,acK]
  |succ n ih=>
   intro hn
   rw [List.range_succ,List.foldl_append,ih (by omega)]
   have hl:(acK k (xs.take n)).length=n:=by rw [aic,List.length_take];omega
   have hg:(acK k (xs.take n)++xs.drop n)[n]? =some (xs[n]'(by omega)):=by
    rw [List.getElem?_append_right (by omega),hl,Nat.sub_self,List.getElem?_drop,Nat.add_zero,List.getElem?_eq_getElem (by omega)]
   have ht:xs.take (n + 1)=xs.take n++ [xs[n]'(by omega)]:=by rw [List.take_succ_eq_append_getElem (by omega)]
   simp only [List.foldl_cons,List.foldl_nil,hg,Option.getD_some,ht,am7,aib,Prod.mk.injEq]
   refine⟨by simp [Is];omega,?_⟩
   have h3:xs.drop n=xs[n]'(by omega)::xs.drop (n + 1):=by rw [List.drop_eq_getElem_cons (by omega)]
   rw [List.set_append_right _ _ (by omega),hl,Nat.sub_self,h3,List.set_cons_zero]
   simp only [acK,List.append_assoc,List.cons_append,List.nil_append]
 rw [jb xs.length (Nat.le_refl _)]
 simp
def tb(y1:List (List Int))(b:Nat):(List (List Int))→Nat ⊕ (List (List Int))
 |y2=>(.inr (List.set y2 b (Option.getD y1[b]? (rY (CTy.sl (2:TypeId) agR)))))
def pk(y1:List (List Int))(i:Nat):(List (List Int))→lP
 |y2=>((i:Int),y1,y2)
def KW:lP→List (List Int)
 |(_,_,y2)=>y2
theorem acQ(y1 y2:List (List Int))(hn:y1.length≤9223372036854775807)(hl:y2.length=y1.length)(hA: ∀ x∈y1,x.length≤1048576):
  fu.fin ((0:Int),y1,y2)=true∧fu.res ((0:Int),y1,y2)=((af (tb y1) 0 (List.range y1.length) 0 y2).1,(pk y1) (af (tb y1) 0 (List.range y1.length) 0 y2).2.1 (af (tb y1) 0 (List.range y1.length) 0 y2).2.2):=by
 have jb:=fu.along (pk y1) KW (tb y1) 0 (fun _ a=>a.length=y1.length) (List.range y1.length) y2 hl (by simp only [fu,pk,List.length_range];omega) (fun i b a hb hI=> ?_) (fun a hI=> ?_)
 ·exact jb
 ·obtain y2:=a
  obtain⟨rfl,eB⟩:=np hb
  have hw:IntKind.i64.wrap ((b:Int) + 1)=((b + 1:Nat):Int):=by rw [aR (by omega) (by omega)];omega
  have bM:ltI (b:Int) (y1.length:Int)=true:=dO (by omega)
  have vC:leI (0:Int) (b:Int)=true:=bw (by omega)
  have gI:ltN b y1.length=true:=fQ (by omega)
  refine⟨?_,?_,?_,?_⟩
  ·have h6:Bh (b:Int) y1=true:=dv (by simp only [vg,Int.toNat_natCast];exact arb hA b)
   simp [wJ,wK,Bg,Bi,Bj,zc,fu,LT.nds,allT,pk,bM,vC,gI,hI,h6]
  ·simp [vg,wJ,wK,Bg,Bh,Bi,Bj,FS,FT,zc,fu,LT.each,pk,KW,hw,hI]
  ·simp only [vg,wJ,wK,Bg,Bh,Bi,Bj,FS,FT,zc,fu,LT.fn,pk,KW,tb,Int.toNat_natCast,bM,cond_true]
  ·intro a' hf;simp only [tb,Sum.inr.injEq]at hf;subst hf;simpa using hI
 ·obtain y2:=a
  simp [vg,wJ,wK,Bg,Bh,Bi,Bj,FS,FT,zc,fu,LT.out,pk,List.length_range]
def At(y1 y2:List (List Int))(b:Nat):(Unit)→Nat ⊕ (Unit)
 |_=>(bif(!eqL (Option.getD y1[b]? (rY (CTy.sl (2:TypeId) agR))) (Option.getD y2[b]? (rY (CTy.sl (2:TypeId) agR))))then(.inl 0)else(.inr ()))
def rN(y1 y2:List (List Int))(i:Nat):(Unit)→lK
 |_=>((i:Int),y1,y2)
def KR:lK→Unit
 |(_,_,_)=>()
theorem acL(y1 y2:List (List Int)) (hn:y1.length≤9223372036854775807) (he:y2.length=y1.length) (hA: ∀ x∈y1,x.length≤9223372036854775807):
  eu.fin ((0:Int),y1,y2)=true∧eu.res ((0:Int),y1,y2)=((af (At y1 y2) 1 (List.range y1.length) 0 ()).1,(rN y1 y2) (af (At y1 y2) 1 (List.range y1.length) 0 ()).2.1 (af (At y1 y2) 1 (List.range y1.length) 0 ()).2.2):=by
 have jb:=eu.along (rN y1 y2) KR (At y1 y2) 1 (fun _ _=>True) (List.range y1.length) () (by trivial) (by simp only [eu,rN,List.length_range];omega) (fun i b a hb hI=> ?_) (fun a hI=> ?_)
 ·exact jb
 ·obtain⟨⟩:=a
  obtain⟨rfl,eB⟩:=np hb
  have hw:IntKind.i64.wrap ((b:Int) + 1)=((b + 1:Nat):Int):=by rw [aR (by omega) (by omega)];omega
  have bM:ltI (b:Int) (y1.length:Int)=true:=dO (by omega)
  have vC:leI (0:Int) (b:Int)=true:=bw (by omega)
  have gI:ltN b y1.length=true:=fQ (by omega)
  refine⟨?_,?_,?_,?_⟩
  ·have h6:AA (b:Int) y1=true:=dv (by simp only [uW,Int.toNat_natCast];exact arb hA b)
   simp [wC,wD,Ax,Ay,Az,AB,AC,yW,eu,LT.nds,allT,rN,bM,vC,gI,he,h6]
  ·simp [uW,wC,wD,Ax,Ay,Az,AA,AB,AC,yW,eu,LT.each,rN,KR,hw,he]
  ·simp only [uW,wC,wD,Ax,Ay,Az,AA,AB,AC,yW,eu,LT.fn,rN,KR,At,Int.toNat_natCast,bM,cond_true]
  ·exact fun _ _=>trivial
 ·obtain⟨⟩:=a
  simp [uW,wC,wD,Ax,Ay,Az,AA,AB,AC,yW,eu,LT.out,rN,List.length_range]
def qn(b:Nat):(Int×List (List Int))→Nat ⊕ (Int×List (List Int))
 |(y1,y2)=>(.inr ((y1 + (↑(List.length (Option.getD y2[b]? (rY (CTy.sl (2:TypeId) agR)))):Int)),(List.set y2 b (Aq y1 (List.length (Option.getD y2[b]? (rY (CTy.sl (2:TypeId) agR))))))))
def ko(i:Nat):(Int×List (List Int))→jR
 |(y1,y2)=>((i:Int),y1,y2)
def Ia:jR→Int×List (List Int)
 |(_,y1,y2)=>(y1,y2)
theorem ZJ(y1:Int)(y2:List (List Int))(n:Nat)(hl:y2.length=n)(hn:n≤9223372036854775807)(h1:0≤y1)(h2:y1 + Is y2≤9223372036854775807):
  dG.fin ((0:Int),y1,y2)=true∧dG.res ((0:Int),y1,y2)=((af (qn) 0 (List.range n) 0 (y1,y2)).1,(ko) (af (qn) 0 (List.range n) 0 (y1,y2)).2.1 (af (qn) 0 (List.range n) 0 (y1,y2)).2.2):=by
 have jb:=dG.along (ko) Ia (qn) 0 (fun i a=>a.2.length=n∧0≤a.1∧a.1 + Is (a.2.drop i)≤9223372036854775807) (List.range n) (y1,y2) ⟨hl,h1,by simpa using h2⟩ (by simp only [dG,ko,List.length_range];omega) (fun i b a hb hI=> ?_) (fun a hI=> ?_)
 ·exact jb
 ·obtain⟨y1,y2⟩:=a
  obtain⟨rfl,eB⟩:=np hb
  have hI0:y2.length=n:=hI.1
  have hw:IntKind.i64.wrap ((b:Int) + 1)=((b + 1:Nat):Int):=by rw [aR (by omega) (by omega)];omega
  have bM:ltI (b:Int) (y2.length:Int)=true:=dO (by omega)
  have vC:leI (0:Int) (b:Int)=true:=bw (by omega)
  have gI:ltN b y2.length=true:=fQ (by omega)
  refine⟨?_,?_,?_,?_⟩
  ·have hd:y2.drop b=y2[b]'(by omega)::y2.drop (b + 1):=by rw [List.drop_eq_getElem_cons (by omega)]
   have hg:y2[b]? =some (y2[b]'(by omega)):=List.getElem?_eq_getElem (by omega)
   have hk:=hI.2
   have h6:tM (b:Int) y1 y2=true:=by
    simp only [tM,Int.toNat_natCast,hg]
    show ag0 y1 (y2[b]'(by omega)).length=true
    refine WZ.2 ⟨hk.1,?_⟩
    have:=hk.2
    simp only [hd,Is,List.map_cons,List.sum_cons]at this
    omega
   simp [tL,xk,xl,xm,xo,xt,vX,dG,LT.nds,allT,ko,bM,vC,gI,h6]
  ·simp [tL,xk,xl,tM,xm,xo,xt,vX,dG,LT.each,ko,Ia,hw]
  ·simp only [tL,xk,xl,tM,xm,xo,xt,vX,dG,LT.fn,ko,Ia,qn,Int.toNat_natCast,bM,vC,gI,cond_true,Bool.cond_self]
  ·have hd:y2.drop b=y2[b]'(by omega)::y2.drop (b + 1):=by rw [List.drop_eq_getElem_cons (by omega)]
   have hg:y2[b]? =some (y2[b]'(by omega)):=List.getElem?_eq_getElem (by omega)
   have hk:=hI.2
   intro a' hf;simp only [qn,Sum.inr.injEq,hg]at hf
   have hf:(y1 + ((y2[b]'(by omega)).length:Int),y2.set b (Aq y1 (y2[b]'(by omega)).length))=a':=hf
   subst hf
   have:=hk.2
   simp only [hd,Is,List.map_cons,List.sum_cons]at this
   refine⟨by simp [hI0],by have:=hk.1;simp only;omega,?_⟩
   simp only [List.drop_set_of_lt (show b < b + 1 by omega),Is]
   omega
 ·obtain⟨y1,y2⟩:=a
  have hI0:y2.length=n:=hI.1
  simp [tL,xk,xl,tM,xm,xo,xt,vX,dG,LT.out,ko,hI0,List.length_range]
def ta(b:List Int):(Int)→Nat ⊕ (Int)
 |y1=>(bif(ltI (szV y1 b) (0:Int))then(.inl 0)else(.inr (szV y1 b)))
def ph(y2:List (List Int))(i:Nat):(Int)→lN
 |y1=>((i:Int),y1,y2)
def KU:lN→Int
 |(_,y1,_)=>y1
theorem acO(y2:List (List Int))(y1:Int)(hn:y2.length≤9223372036854775807)(hA: ∀ x∈y2,x.length≤9223372036854775807)(h1:0≤y1∧y1≤1048576):
  dy.fin ((0:Int),y1,y2)=true∧dy.res ((0:Int),y1,y2)=((af (ta) 1 y2 0 y1).1,(ph y2) (af (ta) 1 y2 0 y1).2.1 (af (ta) 1 y2 0 y1).2.2):=by
 have jb:=dy.along (ph y2) KU (ta) 1 (fun _ a=>0≤a∧a≤1048576) y2 y1 h1 (by simp only [dy,ph];omega) (fun i b a hb hI=> ?_) (fun a hI=> ?_)
 ·exact jb
 ·obtain y1:=a
  have eB:=(List.getElem?_eq_some_iff.1 hb).1
  have il: ∀ d,Option.getD y2[i]? d=b:=fun d=>by rw [hb];rfl
  have hw:=tZ eB hn
  have bM:ltI (i:Int) (y2.length:Int)=true:=dO (by omega)
  have vC:leI (0:Int) (i:Int)=true:=bw (by omega)
  have gI:ltN i y2.length=true:=fQ eB
  refine⟨?_,?_,?_,?_⟩
  ·have hg2:my (i:Int) y2=b:=by simp only [my,Int.toNat_natCast];exact il _
   have h6:leN b.length 9223372036854775807=true:=dv (hA b (List.mem_of_getElem? hb))
   have h7:leI (-1) a=true:=bw (by omega)
   have h8:leI a 1048576=true:=bw (by omega)
   simp [wH,FO,FP,FQ,AY,FR,Ba,za,dy,LT.nds,allT,ph,bM,vC,gI,hg2,h6,h7,h8]
  ·simp [my,wH,FO,FP,FQ,AY,AZ,FR,Ba,za,dy,LT.each,ph,KU,hw]
  ·have hg2:my (i:Int) y2=b:=by simp only [my,Int.toNat_natCast];exact il _
   simp only [wH,AY,Ba,za,dy,LT.fn,ph,KU,ta,Int.toNat_natCast,bM,hg2,cond_true]
  ·intro a' hf
   simp only [ta]at hf
   cases h9:ltI (szV a b) 0 with
   |true=>rw [h9]at hf;cases hf
   |false=>
    rw [h9]at hf;cases hf
    refine⟨vW.1 h9,?_⟩
    simp only [szV]
    cases ltI (a - (b.length:Int)) 0 <;> simp <;> omega
 ·obtain y1:=a
  simp [my,wH,FO,FP,FQ,AY,AZ,FR,Ba,za,dy,LT.out,ph]
theorem aoS{f:List Int→Int→Nat ⊕ Int}(hf: ∀ l k,f l k=bif ltI (szV k l) 0 then .inl 0 else .inr (szV k l)): ∀ (r:List (List Int)) (i:Nat) (k:Int),0≤k→
  (bif Nat.beq (af f 1 r i k).1 0 then(-1:Int)else(af f 1 r i k).2.2)=aoh k r
 | [],i,k,_=>rfl
 |l::r,i,k,hk=>by
  simp only [af,hf,aoh]
  cases h:ltI (szV k l) 0 with
  |true=>rfl
  |false=>exact aoS hf r (i + 1) _ (vW.1 h)
theorem aq1(k:Int)(xs:List (List Int))(h:(abF 9223372036854775807 xs&&(leI (-1) k&&leI k 1048576))=true):QQ k xs=aom k xs∧QR k xs=true:=by
 simp only [Bool.and_eq_true,EV]at h
 obtain⟨h1,h2,h3⟩:=h
 obtain⟨hn,hA⟩:=afd.1 h1
 have hw:IntKind.i64.wrap (k - (xs.length:Int))=k - (xs.length:Int):=aR (by omega) (by omega)
 simp only [QQ,QR,JQ,JR,AZ,hw,aom,allT]
 cases hq:ltI (k - (xs.length:Int)) 0 with
 |true=>simp
 |false=>
  have hq':=vW.1 hq
  obtain⟨w1,w2⟩:=acO xs (k - (xs.length:Int)) hn hA (by omega)
  simp only [w1,w2,cond_false,ph,Bool.or_true,cond_true]
  exact⟨aoS (f:=ta) (fun l k=>rfl) xs 0 _ hq',trivial⟩
theorem aq3(xs:List (List Int))(h:abF 1048576 xs=true):QV xs=xs∧QW xs=true:=by
 obtain⟨hn,hA⟩:=afd.1 h
 have hr:(List.replicate (Int.toNat (xs.length:Int)) ([]:List Int)).length=xs.length:=by simp
 obtain⟨w1,w2⟩:=acQ xs (List.replicate (Int.toNat (xs.length:Int)) []) (by omega) hr hA
 have hc:=Xl (xs:=xs) (d:=([]:List Int)) (g:=fun x=>x) (f:=tb xs) (e:=0) (fun b a=>rfl) hr
 rw [hc]at w2
 refine⟨?_,?_⟩
 ·simp only [QV,JY,w2,pk];simp
 ·simp only [QW,JY,w1,allT];simp;omega
theorem aqv(xs ys:List (List Int))(h:abF 9223372036854775807 xs=true):Lt xs ys=aa9 xs ys∧Lu xs ys=true:=by
 obtain⟨hn,hA⟩:=afd.1 h
 unfold aa9
 by_cases hl:ys.length=xs.length
 ·obtain⟨w1,w2⟩:=acL xs ys hn hl hA
  have ha:=aiR (d:=([]:List Int)) hl (P:=fun b=> !eqL ((xs[b]?).getD []) ((ys[b]?).getD [])) (fun b=>by simp [eqL])
  rw [iH (P:=fun b=> !eqL ((xs[b]?).getD []) ((ys[b]?).getD [])) (j:=0) (fun b=>rfl),ha]at w2
  simp only [JC,JD,Lt,Lu,w1,w2,allT]
  by_cases he:xs=ys
  ·subst he;simp;decide
  ·simp [he,hl]
 ·have QG:xs≠ys:=fun h=>hl (by rw [h])
  simp [JC,JD,Lt,Lu,allT,QG]
  omega
theorem ape(k:Int)(xs:List (List Int))(h:(ag0 k (Is xs)&&leN xs.length 9223372036854775807)=true):CB k xs=k + Is xs∧CC k xs=acK k xs∧CD k xs=true:=by
 simp only [Bool.and_eq_true,fX]at h
 obtain⟨h0,h2⟩:=WZ.1 h.1
 obtain⟨w1,w2⟩:=ZJ k xs xs.length rfl h.2 h0 h2
 rw [anc (f:=qn) (fun b k xs=>rfl)]at w2
 refine⟨?_,?_,?_⟩
 ·simp only [AJ,AK,CB,CC,CD,w2,ko]
 ·simp only [AJ,AK,CB,CC,CD,w2,ko]
 ·simp only [AJ,AK,CB,CC,CD,w1,allT,cond_true]
def WD:List SV→List Entry→Option Out
 | [.one ⟨false,[.ref 0]⟩,.one ⟨false,[.val (.int .i64 x0)]⟩],[.row false 41 (.sl 2 (.int .i64)) x1]=>some ⟨.one ⟨false,[.val (.int .i64 (aom x0 x1))]⟩,[.row false 41 (CTy.sl (2:TypeId) agR) x1],[],[abF 9223372036854775807 x1&&(leI (-1) x0&&leI x0 1048576)]⟩
 |_,_=>none
def Rb:PF prog:=PF.alt ahf WD (by
 intro args es o h cB;unfold WD at h;split at h
 ·rename_i x0 x1
  cases h
  have cB:=mq cB
  have hh:=aq1 x0 x1 cB
  obtain⟨e0,en⟩:=hh
  exact rg rfl (lJ en) (by simp only [e0] <;> rfl) rfl rfl
 ·cases h)
def WF:List SV→List Entry→Option Out
 | [.one ⟨false,[.ref 0]⟩],[.row false 41 (.sl 2 (.int .i64)) x0]=>some ⟨.one ⟨false,[.ref 1]⟩,[.row false 41 (CTy.sl (2:TypeId) agR) x0],[.tree 41 (CTy.sl (2:Nat) agR) x0 none],[abF 1048576 x0]⟩
 |_,_=>none
def Rd:PF prog:=PF.alt ahh WF (by
 intro args es o h cB;unfold WF at h;split at h
 ·rename_i x0
  cases h
  have cB:=mq cB
  have hh:=aq3 x0 cB
  obtain⟨e0,en⟩:=hh
  exact rg rfl (lJ en) rfl rfl (by simp only [e0] <;> rfl)
 ·cases h)
def WA:List SV→List Entry→Option Out
 | [.one ⟨false,[.ref 0]⟩,.one ⟨false,[.ref 1]⟩],[.row false 41 (.sl 2 (.int .i64)) x0,.row false 41 (.sl 2 (.int .i64)) x1]=>some ⟨.one ⟨false,[.val (.bool (aa9 x0 x1))]⟩,[.row false 41 (CTy.sl (2:TypeId) agR) x0,.row false 41 (CTy.sl (2:TypeId) agR) x1],[],[abF 9223372036854775807 x0]⟩
 |_,_=>none
def QZ:PF prog:=PF.alt ahc WA (by
 intro args es o h cB;unfold WA at h;split at h
 ·rename_i x0 x1
  cases h
  have cB:=mq cB
  have hh:=aqv x0 x1 cB
  obtain⟨e0,en⟩:=hh
  exact rg rfl (lJ en) (by simp only [e0] <;> rfl) rfl rfl
 ·cases h)
def Ts:List SV→List Entry→Option Out
 | [.one ⟨false,[.ref 0]⟩,.one ⟨false,[.val (.int .i64 x0)]⟩],[.tree 41 (.sl 2 (.int .i64)) x1 none]=>some ⟨.one ⟨false,[.val (.int .i64 (x0 + (Is x1:Int)))]⟩,[.tree 41 (CTy.sl (2:TypeId) agR) (acK x0 x1) none],[],[ag0 x0 (Is x1)&&leN x1.length 9223372036854775807]⟩
 |_,_=>none
def NO:PF prog:=PF.alt aeF Ts (by
 intro args es o h cB;unfold Ts at h;split at h
 ·rename_i x0 x1
  cases h
  have cB:=mq cB
  have hh:=ape x0 x1 cB
  obtain⟨e0,e1,en⟩:=hh
  exact rg rfl (lJ en) (by simp only [e0] <;> rfl) (by simp only [e1] <;> rfl) rfl
 ·cases h)
end Go.SX
