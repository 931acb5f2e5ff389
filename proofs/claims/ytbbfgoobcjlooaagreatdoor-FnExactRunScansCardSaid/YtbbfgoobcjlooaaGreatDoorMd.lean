/- What functions of the program come to, and what that says in plain words: part 4. -/
import Derived.Test.YtbbfgoobcjlooaaGreatDoorMc
import Derived.Test.YtbbfgoobcjlooaaGreatDoorTXh
import Derived.Test.YtbbfgoobcjlooaaGreatDoorProg
import Derived.Test.YtbbfgoobcjlooaaGreatDoorTXi
set_option linter.unusedSimpArgs false
set_option linter.unusedVariables false
namespace Go.SX
open Go.Proofs Go.Proofs.Tryz
set_option maxRecDepth 100000
def sgO(ins vs os:List ByteArray)(g:ByteArray)(ls:List LN):List (List Int)→List Int→List BS3→List (List Int)
 | [],_,_=> []
 |inp::r,xs,ss=>scO ins vs os g ls inp xs ss::sgO ins vs os g ls r (scV ins vs os ls inp xs ss) (scB ins vs os ls inp xs ss)
def sgM(ins vs os:List ByteArray)(ls:List LN):List (List Int)→List Int→List BS3→List Int×List BS3
 | [],xs,ss=>(xs,ss)
 |inp::r,xs,ss=>sgM ins vs os ls r (scV ins vs os ls inp xs ss) (scB ins vs os ls inp xs ss)
def zv(vs:List ByteArray):List Int:=List.replicate vs.length 0
theorem ake{nm:ByteArray}{ins vs os:List ByteArray}{g:ByteArray}{ls:List LN}{xs:List Int}{ss:List BS3}{inp:List Int}(h:scG nm ins vs os g ls xs ss inp=true):
  Ga vs.length (blL ls) (scV ins vs os ls inp xs ss) (scB ins vs os ls inp xs ss)=true∧(scO ins vs os g ls inp xs ss).length≤20:=by
 obtain⟨h1,h2,h3⟩:=Tt.1 h
 have hS:=afV h1 h3
 obtain⟨a,b⟩:=apk (os:=os) (g:=g) h3 hS.hL h2
 have:=(fa.1 b).2
 have:=hS.h3
 exact⟨a,by omega⟩
theorem alv{nm:ByteArray}{ins vs os:List ByteArray}{g:ByteArray}{ls:List LN}(hS:mI nm ins vs os g ls=true): ∀ (r:List (List Int)) (xs:List Int) (ss:List BS3),
  (∀ x∈r,bitsB ins.length x=true)→Ga vs.length (blL ls) xs ss=true→
  (sgO ins vs os g ls r xs ss).length=r.length∧(∀ x∈sgO ins vs os g ls r xs ss,x.length≤20)∧Ga vs.length (blL ls) (sgM ins vs os ls r xs ss).1 (sgM ins vs os ls r xs ss).2=true
 | [],_,_,_,hs=>⟨rfl,fun x hx=>(List.not_mem_nil hx).elim,hs⟩
 |inp::r,xs,ss,hA,hs=>by
  obtain⟨h1,h2⟩:=ake (Tt.2 ⟨hS,hs,hA inp (by simp)⟩)
  obtain⟨g1,g2,g3⟩:=alv hS r _ _ (fun x hx=>hA x (by simp [hx])) h1
  refine⟨by simp [sgO,g1],fun x hx=> ?_,g3⟩
  rcases List.mem_cons.1 hx with rfl | hx
  ·exact h2
  ·exact g2 x hx
theorem ako{nm:ByteArray}{ins vs os:List ByteArray}{g:ByteArray}{ls:List LN}(hS:mI nm ins vs os g ls=true):Ga vs.length (blL ls) (zv vs) (SR (blL ls))=true:=by
 have hB:=ahp ls (Vl hS).2.1
 refine aoM.2 ⟨by simp [SR],fa.2 ⟨fun z hz=> .inl (List.eq_of_mem_replicate hz),by rw [zv,List.length_replicate]⟩,fun k hk=> ?_⟩
 simp only [abM,List.all_eq_true]at hB
 have h1:stAt (SR (blL ls)) k=(0,0,0):=by
  simp only [stAt,SR]
  rw [List.getElem?_replicate,if_pos hk];rfl
 have h2:OO (blL ls) k∈blL ls:=by
  simp only [OO,List.getElem?_eq_getElem hk];exact List.getElem_mem hk
 simp only [possAt,h1]
 exact anP (hB _ h2)
def rgC(nm:ByteArray)(ins vs os:List ByteArray)(g:ByteArray)(ls:List LN)(l:List (List Int)):Int:=bif !mI nm ins vs os g ls then 1 else bif ltI 200 (l.length:Int)then 3 else bif !l.all (fun x=>bitsB ins.length x)then 2 else 0
def rgO(nm:ByteArray)(ins vs os:List ByteArray)(g:ByteArray)(ls:List LN)(l:List (List Int)):List (List Int):=bif rgC nm ins vs os g ls l==0 then sgO ins vs os g ls l (zv vs) (SR (blL ls))else []
def rgV(nm:ByteArray)(ins vs os:List ByteArray)(g:ByteArray)(ls:List LN)(l:List (List Int)):List Int:=bif rgC nm ins vs os g ls l==0 then(sgM ins vs os ls l (zv vs) (SR (blL ls))).1 else []
def rgB(nm:ByteArray)(ins vs os:List ByteArray)(g:ByteArray)(ls:List LN)(l:List (List Int)):List BS3:=bif rgC nm ins vs os g ls l==0 then(sgM ins vs os ls l (zv vs) (SR (blL ls))).2 else []
def rgN(nm:ByteArray)(ins vs os:List ByteArray)(g:ByteArray)(ls:List LN)(l:List (List Int)):Bool:=prOk nm ins vs os g ls&&SM 9223372036854775807 l
theorem aid(nm:ByteArray)(ins vs os:List ByteArray)(g:ByteArray)(ls:List LN)(l:List (List Int)):
  (mI nm ins vs os g ls=false∧rgC nm ins vs os g ls l=1)∨(mI nm ins vs os g ls=true∧ltI 200 (l.length:Int)=true∧rgC nm ins vs os g ls l=3)∨
  (mI nm ins vs os g ls=true∧ltI 200 (l.length:Int)=false∧l.all (fun x=>bitsB ins.length x)=false∧rgC nm ins vs os g ls l=2)∨
  (mI nm ins vs os g ls=true∧ltI 200 (l.length:Int)=false∧l.all (fun x=>bitsB ins.length x)=true∧rgC nm ins vs os g ls l=0):=by
 simp only [rgC]
 cases mI nm ins vs os g ls <;> cases ltI 200 (l.length:Int) <;> cases l.all (fun x=>bitsB ins.length x) <;> simp
def Fk(y4:List ByteArray)(b:List Int):(Unit)→Nat ⊕ (Unit)
 |_=>(bif(!bitsB (↑y4.length:Int) b)then(.inl 0)else(.inr ()))
def vt(y1:List (List Int))(y2 y3:ByteArray)(y4 y5 y6:List ByteArray)(y7:List (ByteArray×(List (Int×(ByteArray×Int)))))(y8:List Int)(y9:List (Int×(Int×Int)))(i:Nat):(Unit)→pg
 |_=>((i:Int),y1,y2,y3,y4,y5,y6,y7,y8,y9)
def Om:pg→Unit
 |(_,_,_,_,_,_,_,_,_,_)=>()
theorem af0(y1:List (List Int))(y2 y3:ByteArray)(y4 y5 y6:List ByteArray)(y7:List (ByteArray×(List (Int×(ByteArray×Int)))))(y8:List Int)(y9:List (Int×(Int×Int))) (hn:y1.length≤9223372036854775807) (hA: ∀ x∈y1,x.length≤9223372036854775807):
  ip.fin ((0:Int),y1,y2,y3,y4,y5,y6,y7,y8,y9)=true∧ip.res ((0:Int),y1,y2,y3,y4,y5,y6,y7,y8,y9)=((af (Fk y4) 1 y1 0 ()).1,(vt y1 y2 y3 y4 y5 y6 y7 y8 y9) (af (Fk y4) 1 y1 0 ()).2.1 (af (Fk y4) 1 y1 0 ()).2.2):=by
 have iY:=ip.along (vt y1 y2 y3 y4 y5 y6 y7 y8 y9) Om (Fk y4) 1 (fun _ _=>True) y1 () (by trivial) (by simp only [ip,vt];omega) (fun i b a hb hI=> ?_) (fun a hI=> ?_)
 ·exact iY
 ·obtain⟨⟩:=a
  have eB:=(List.getElem?_eq_some_iff.1 hb).1
  have gZ: ∀ d,Option.getD y1[i]? d=b:=fun d=>by rw [hb];rfl
  have hw:=sX eB hn
  have bW:ltI (i:Int) (y1.length:Int)=true:=et (by omega)
  have vL:leI (0:Int) (i:Int)=true:=bv (by omega)
  have im:ltN i y1.length=true:=gu eB
  refine⟨?_,?_,?_,?_⟩
  ·have hg2:sD (i:Int) y1=b:=by simp only [sD,Int.toNat_natCast];exact gZ _
   have h6:leN b.length 9223372036854775807=true:=dm (hA b (List.mem_of_getElem? hb))
   simp only [AU,FM,FN,FO,FP,FQ,DU,ip,LT.nds,allT,vt,Int.toNat_natCast,bW,vL,im,hg2,h6,cond_true,Bool.and_self]
   cases !bitsB (y4.length:Int) b <;> rfl
  ·simp [sD,AU,FM,FN,FO,FP,FQ,DU,ip,LT.each,vt,Om,hw]
  ·have hg2:sD (i:Int) y1=b:=by simp only [sD,Int.toNat_natCast];exact gZ _
   simp only [AU,FM,FN,FO,FP,FQ,DU,ip,LT.fn,vt,Om,Fk,Int.toNat_natCast,bW,hg2,cond_true]
  ·exact fun _ _=>trivial
 ·obtain⟨⟩:=a
  simp [sD,AU,FM,FN,FO,FP,FQ,DU,ip,LT.out,vt]
def wJ(y3:ByteArray)(y5 y6 y7:List ByteArray)(y8:List (ByteArray×(List (Int×(ByteArray×Int)))))(b:List Int):(List (List Int)×List Int×List (Int×(Int×Int)))→Nat ⊕ (List (List Int)×List Int×List (Int×(Int×Int)))
 |(y4,y9,y10)=>(.inr ((y4++([scO y5 y6 y7 y3 y8 b y9 y10])),scV y5 y6 y7 y8 b y9 y10,(scB y5 y6 y7 y8 b y9 y10)))
def sF(y1:List (List Int))(y2 y3:ByteArray)(y5 y6 y7:List ByteArray)(y8:List (ByteArray×(List (Int×(ByteArray×Int)))))(i:Nat):(List (List Int)×List Int×List (Int×(Int×Int)))→ph
 |(y4,y9,y10)=>((i:Int),y1,y2,y3,y4,y5,y6,y7,y8,y9,y10)
def On:ph→List (List Int)×List Int×List (Int×(Int×Int))
 |(_,_,_,_,y4,_,_,_,_,y9,y10)=>(y4,y9,y10)
theorem af1(y1:List (List Int))(y2 y3:ByteArray)(y5 y6 y7:List ByteArray)(y8:List (ByteArray×(List (Int×(ByteArray×Int)))))(y4:List (List Int))(y9:List Int)(y10:List (Int×(Int×Int)))(hn:y1.length≤9223372036854775807)(hC:mI y2 y5 y6 y7 y3 y8=true)(hA: ∀ x∈y1,bitsB y5.length x=true)(h200:y1.length≤200)(hS:Ga y6.length (blL y8) y9 y10=true)(h4:y4.length=0):
  jp.fin ((0:Int),y1,y2,y3,y4,y5,y6,y7,y8,y9,y10)=true∧jp.res ((0:Int),y1,y2,y3,y4,y5,y6,y7,y8,y9,y10)=((af (wJ y3 y5 y6 y7 y8) 0 y1 0 (y4,y9,y10)).1,(sF y1 y2 y3 y5 y6 y7 y8) (af (wJ y3 y5 y6 y7 y8) 0 y1 0 (y4,y9,y10)).2.1 (af (wJ y3 y5 y6 y7 y8) 0 y1 0 (y4,y9,y10)).2.2):=by
 have iY:=jp.along (sF y1 y2 y3 y5 y6 y7 y8) On (wJ y3 y5 y6 y7 y8) 0 (fun i a=>Ga y6.length (blL y8) a.2.1 a.2.2=true∧a.1.length=i) y1 (y4,y9,y10) ⟨hS,h4⟩ (by simp only [jp,sF];omega) (fun i b a hb hI=> ?_) (fun a hI=> ?_)
 ·exact iY
 ·obtain⟨y4,y9,y10⟩:=a
  have eB:=(List.getElem?_eq_some_iff.1 hb).1
  have gZ: ∀ d,Option.getD y1[i]? d=b:=fun d=>by rw [hb];rfl
  have hw:=sX eB hn
  have bW:ltI (i:Int) (y1.length:Int)=true:=et (by omega)
  have vL:leI (0:Int) (i:Int)=true:=bv (by omega)
  have im:ltN i y1.length=true:=gu eB
  refine⟨?_,?_,?_,?_⟩
  ·have hg2:od (i:Int) y1=b:=by simp only [od,Int.toNat_natCast];exact gZ _
   have hl:=hI.2
   have he:scG y2 y5 y6 y7 y3 y8 y9 y10 b=true:=Tt.2 ⟨hC,hI.1,hA b (List.mem_of_getElem? hb)⟩
   have h6:leN (y4.length + 1) 9223372036854775807=true:=dm (by simp only at hl;omega)
   have h7:leN ((y4.length + 1) * 24) 140737488355328=true:=dm (by simp only at hl;omega)
   simp only [AV,FR,FS,FT,FU,FV,FW,FX,FY,FZ,DV,jp,vr,LT.nds,allT,sF,bW,vL,im,hg2,he,List.length_singleton,h6,h7,Int.toNat_natCast,cond_true]
  ·simp [od,vr,AV,FR,FS,FT,FU,FV,FW,FX,FY,FZ,DV,jp,LT.each,sF,On,hw]
  ·have hg2:od (i:Int) y1=b:=by simp only [od,Int.toNat_natCast];exact gZ _
   simp only [AV,FR,FS,FT,FU,FV,FW,FX,FY,FZ,DV,jp,vr,LT.fn,sF,On,wJ,Int.toNat_natCast,bW,hg2,cond_true]
  ·intro a' hf
   simp only [wJ,Sum.inr.injEq]at hf
   subst hf
   have he:scG y2 y5 y6 y7 y3 y8 y9 y10 b=true:=Tt.2 ⟨hC,hI.1,hA b (List.mem_of_getElem? hb)⟩
   exact⟨(ake he).1,by have hl:=hI.2;simp only at hl;simp [hl]⟩
 ·obtain⟨y4,y9,y10⟩:=a
  simp [od,vr,AV,FR,FS,FT,FU,FV,FW,FX,FY,FZ,DV,jp,LT.out,sF]
def tc(y4:ByteArray)(y6 y7 y8:List ByteArray)(y9:List (ByteArray×(List (Int×(ByteArray×Int)))))(b:List Int):(List (List Int)×List Int×List (Int×(Int×Int)))→Nat ⊕ (List (List Int)×List Int×List (Int×(Int×Int)))
 |(y5,y10,y11)=>(.inr ((y5++([scO y6 y7 y8 y4 y9 b y10 y11])),scV y6 y7 y8 y9 b y10 y11,(scB y6 y7 y8 y9 b y10 y11)))
def pG(y2:List (List Int))(y3 y4:ByteArray)(y6 y7 y8:List ByteArray)(y9:List (ByteArray×(List (Int×(ByteArray×Int)))))(i:Nat):(List (List Int)×List Int×List (Int×(Int×Int)))→mv
 |(y5,y10,y11)=>((i:Int),(↑y2.length:Int),y2,y3,y4,y5,y6,y7,y8,y9,y10,y11)
def KS:mv→List (List Int)×List Int×List (Int×(Int×Int))
 |(_,_,_,_,_,y5,_,_,_,_,y10,y11)=>(y5,y10,y11)
theorem adO(y2:List (List Int))(y3 y4:ByteArray)(y6 y7 y8:List ByteArray)(y9:List (ByteArray×(List (Int×(ByteArray×Int)))))(y5:List (List Int))(y10:List Int)(y11:List (Int×(Int×Int)))(hn:y2.length≤9223372036854775807)(hC:mI y3 y6 y7 y8 y4 y9=true)(hA: ∀ x∈y2,bitsB y6.length x=true)(h200:y2.length≤200)(hS:Ga y7.length (blL y9) y10 y11=true)(h5:y5.length=0):
  gz.fin ((0:Int),(↑y2.length:Int),y2,y3,y4,y5,y6,y7,y8,y9,y10,y11)=true∧gz.res ((0:Int),(↑y2.length:Int),y2,y3,y4,y5,y6,y7,y8,y9,y10,y11)=((af (tc y4 y6 y7 y8 y9) 0 y2 0 (y5,y10,y11)).1,(pG y2 y3 y4 y6 y7 y8 y9) (af (tc y4 y6 y7 y8 y9) 0 y2 0 (y5,y10,y11)).2.1 (af (tc y4 y6 y7 y8 y9) 0 y2 0 (y5,y10,y11)).2.2):=by
 have iY:=gz.along (pG y2 y3 y4 y6 y7 y8 y9) KS (tc y4 y6 y7 y8 y9) 0 (fun i a=>Ga y7.length (blL y9) a.2.1 a.2.2=true∧a.1.length=i) y2 (y5,y10,y11) ⟨hS,h5⟩ (by simp only [gz,pG];omega) (fun i b a hb hI=> ?_) (fun a hI=> ?_)
 ·exact iY
 ·obtain⟨y5,y10,y11⟩:=a
  have eB:=(List.getElem?_eq_some_iff.1 hb).1
  have gZ: ∀ d,Option.getD y2[i]? d=b:=fun d=>by rw [hb];rfl
  have hw:=sX eB hn
  have bW:ltI (i:Int) (y2.length:Int)=true:=et (by omega)
  have vL:leI (0:Int) (i:Int)=true:=bv (by omega)
  have im:ltN i y2.length=true:=gu eB
  refine⟨?_,?_,?_,?_⟩
  ·have hg2:lD (i:Int) y2=b:=by simp only [lD,Int.toNat_natCast];exact gZ _
   have hl:=hI.2
   have he:scG y3 y6 y7 y8 y4 y9 y10 y11 b=true:=Tt.2 ⟨hC,hI.1,hA b (List.mem_of_getElem? hb)⟩
   have h6:leN (y5.length + 1) 9223372036854775807=true:=dm (by simp only at hl;omega)
   have h7:leN ((y5.length + 1) * 24) 140737488355328=true:=dm (by simp only at hl;omega)
   simp only [Bj,Bk,Bl,Bm,Bn,Bo,Bp,Bq,Br,Bs,zw,An,gz,sc,LT.nds,allT,pG,bW,vL,im,hg2,he,List.length_singleton,h6,h7,Int.toNat_natCast,cond_true]
  ·simp [lD,sc,Bj,Bk,Bl,Bm,Bn,Bo,Bp,Bq,Br,Bs,zw,An,gz,LT.each,pG,KS,hw]
  ·have hg2:lD (i:Int) y2=b:=by simp only [lD,Int.toNat_natCast];exact gZ _
   simp only [Bj,Bk,Bl,Bm,Bn,Bo,Bp,Bq,Br,Bs,zw,An,gz,sc,LT.fn,pG,KS,tc,Int.toNat_natCast,bW,hg2,cond_true]
  ·intro a' hf
   simp only [tc,Sum.inr.injEq]at hf
   subst hf
   have he:scG y3 y6 y7 y8 y4 y9 y10 y11 b=true:=Tt.2 ⟨hC,hI.1,hA b (List.mem_of_getElem? hb)⟩
   exact⟨(ake he).1,by have hl:=hI.2;simp only at hl;simp [hl]⟩
 ·obtain⟨y5,y10,y11⟩:=a
  simp [lD,sc,Bj,Bk,Bl,Bm,Bn,Bo,Bp,Bq,Br,Bs,zw,An,gz,LT.out,pG]
theorem aku{ins vs os:List ByteArray}{g:ByteArray}{ls:List LN}{f:List Int→List (List Int)×List Int×List BS3→Nat ⊕ (List (List Int)×List Int×List BS3)}
  (hf: ∀ b a,f b a= .inr (a.1++ [scO ins vs os g ls b a.2.1 a.2.2],scV ins vs os ls b a.2.1 a.2.2,scB ins vs os ls b a.2.1 a.2.2)) {e:Nat}:
  ∀ (r:List (List Int)) (i:Nat) (acc:List (List Int)) (xs:List Int) (ss:List BS3),af f e r i (acc,xs,ss)=(e,i + r.length,acc++sgO ins vs os g ls r xs ss,sgM ins vs os ls r xs ss)
 | [],i,acc,xs,ss=>by simp [af,sgO,sgM]
 |b::r,i,acc,xs,ss=>by
  simp only [af,hf]
  rw [aku hf r]
  simp only [sgO,sgM,List.append_assoc,List.singleton_append,List.length_cons]
  congr 2
  omega
theorem zvs(vs:List ByteArray):List.replicate (Int.toNat (vs.length:Int)) (0:Int)=zv vs:=by rw [Int.toNat_natCast];rfl
theorem zbs(ls:List LN):List.replicate (Int.toNat ((blL ls).length:Int)) ((0:Int),(0:Int),(0:Int))=SR (blL ls):=by rw [Int.toNat_natCast];rfl
theorem apV(nm:ByteArray)(ins vs os:List ByteArray)(g:ByteArray)(ls:List LN)(l:List (List Int))(h:rgN nm ins vs os g ls l=true):
  Qd nm g ins vs os ls l=rgC nm ins vs os g ls l∧Qe nm g ins vs os ls l=rgO nm ins vs os g ls l∧Uh nm g ins vs os ls l=rgV nm ins vs os g ls l∧
  Ui nm g ins vs os ls l=rgB nm ins vs os g ls l∧Qf nm g ins vs os ls l=true:=by
 simp only [rgN,Bool.and_eq_true]at h
 obtain⟨hT,hl⟩:=h
 obtain⟨hn,hA⟩:=Wq.1 hl
 obtain⟨w1,w2⟩:=af0 l nm g ins vs os ls [] [] hn hA
 rw [iQ (P:=fun x=> !bitsB ins.length x) (j:=0) (fun x=>rfl)]at w2
 have e5:(l.any fun x=> !bitsB ins.length x)= !l.all (fun x=>bitsB ins.length x):=by simp [List.all_eq_not_any_not]
 rw [e5]at w2
 have e1:SB nm g ins vs os ls l=((0:Int),l,nm,g,ins,vs,os,ls,[],[]):=rfl
 have e2:yH nm g ins vs os ls l= !l.all (fun x=>bitsB ins.length x):=by
  simp only [yH,e1,w2]
  cases l.all (fun x=>bitsB ins.length x) <;> rfl
 have e3:OE nm g ins vs os ls l=((0:Int),l,nm,g,[],ins,vs,os,ls,zv vs,SR (blL ls)):=by simp only [OE,QY,QZ,zvs,zbs]
 simp only [Qd,Qe,Uh,Ui,Qf,yG,SC,SD,e1,e2,e3,w1,hT,rgO,rgV,rgB,allT]
 rcases aid nm ins vs os g ls l with⟨h1,h2⟩ | ⟨h1,h3,h2⟩ | ⟨h1,h3,h4,h2⟩ | ⟨h1,h3,h4,h2⟩
 ·rw [h1,h2];simp
 ·rw [h1,h2,h3];simp
 ·rw [h1,h2,h3,h4];simp
 ·have hA2: ∀ x∈l,bitsB ins.length x=true:=List.all_eq_true.1 h4
  have hS:=ako h1
  obtain⟨v1,v2⟩:=af1 l nm g ins vs os ls [] (zv vs) (SR (blL ls)) (by have:=aj6 h3;omega) h1 hA2 (aj6 h3) hS rfl
  rw [aku (ins:=ins) (vs:=vs) (os:=os) (g:=g) (ls:=ls) (f:=wJ g ins vs os ls) (fun b a=>rfl)]at v2
  have hX:=afV (inp:=List.replicate ins.length 0) h1 (fa.2 ⟨fun z hz=> .inl (List.eq_of_mem_replicate hz),by simp⟩)
  have hb:=hX.bl
  have hv:=hX.h2
  have u1:leI 0 (vs.length:Int)=true:=bv (by omega)
  have u2:leI (vs.length:Int) (vs.length:Int)=true:=bv (by omega)
  have u3:leI ((↑(8:Nat):Int) * (vs.length:Int)) 281474976710656=true:=bv (by omega)
  have u4:leI (vs.length:Int) 9223372036854775807=true:=bv (by omega)
  have u5:leI 0 ((blL ls).length:Int)=true:=bv (by omega)
  have u6:leI ((blL ls).length:Int) ((blL ls).length:Int)=true:=bv (by omega)
  have u7:leI ((↑(24:Nat):Int) * ((blL ls).length:Int)) 281474976710656=true:=bv (by omega)
  have u8:leI ((blL ls).length:Int) 9223372036854775807=true:=bv (by omega)
  have hLn:=(Qp.1 hT).2.2.2.2.2.2
  have f2:Mf vs ls=true:=by simp only [Mf,u1,u2,u3,u4,u5,u6,u7,u8,hLn,allT,cond_true]
  rw [h1,h2,h3,h4,v1,v2,f2]
  simp [sF]
theorem apO(nm:ByteArray)(ins vs os:List ByteArray)(g:ByteArray)(ls:List LN)(l:List (List Int))(h:rgN nm ins vs os g ls l=true):
  LE nm g ins vs os ls l=rgC nm ins vs os g ls l∧LF nm g ins vs os ls l=rgO nm ins vs os g ls l∧QE nm g ins vs os ls l=rgV nm ins vs os g ls l∧
  QF nm g ins vs os ls l=rgB nm ins vs os g ls l∧LG nm g ins vs os ls l=true:=by
 simp only [rgN,Bool.and_eq_true]at h
 obtain⟨hT,hl⟩:=h
 obtain⟨hn,hA⟩:=Wq.1 hl
 have d0:ce vs=zv vs:=by simp only [ce,GI,zvs]
 have d1:cV ls=SR (blL ls):=by simp only [cV,GJ,zbs]
 have e2:Kb nm g ins vs os ls l=((0:Int),(l.length:Int),l,nm,g,[],ins,vs,os,ls,zv vs,SR (blL ls)):=by simp only [Kb,d0,d1]
 simp only [LE,LF,QE,QF,LG,tK,AL,Pl,Pm,d0,d1,e2,hT,rgO,rgV,rgB,allT]
 rcases aid nm ins vs os g ls l with⟨h1,h2⟩ | ⟨h1,h3,h2⟩ | h
 ·rw [h1,h2];simp
 ·rw [h1,h2,h3];simp
 ·have h1:mI nm ins vs os g ls=true:=by rcases h with h | h <;> exact h.1
  have h3:ltI 200 (l.length:Int)=false:=by rcases h with h | h <;> exact h.2.1
  have hS:=ako h1
  have hX:=afV (inp:=List.replicate ins.length 0) h1 (fa.2 ⟨fun z hz=> .inl (List.eq_of_mem_replicate hz),by simp⟩)
  have hb:=hX.bl
  have hv:=hX.h2
  have u1:leI 0 (vs.length:Int)=true:=bv (by omega)
  have u2:leI (vs.length:Int) (vs.length:Int)=true:=bv (by omega)
  have u3:leI ((↑(8:Nat):Int) * (vs.length:Int)) 281474976710656=true:=bv (by omega)
  have u4:leI (vs.length:Int) 9223372036854775807=true:=bv (by omega)
  have u5:leI 0 ((blL ls).length:Int)=true:=bv (by omega)
  have u6:leI ((blL ls).length:Int) ((blL ls).length:Int)=true:=bv (by omega)
  have u7:leI ((↑(24:Nat):Int) * ((blL ls).length:Int)) 281474976710656=true:=bv (by omega)
  have u8:leI ((blL ls).length:Int) 9223372036854775807=true:=bv (by omega)
  have hLn:=(Qp.1 hT).2.2.2.2.2.2
  have f2:iG vs ls=true:=by simp only [iG,GK,u1,u2,u3,u4,u5,u6,u7,u8,hLn,allT,cond_true]
  have h200:=aj6 h3
  have m1:cdG nm ins vs os g ls (zv vs) l=true:=am3.2 ⟨hT,dm (by rw [zv,List.length_replicate];omega),by omega,fun x hx=>dm (hA x hx)⟩
  have m2:amF nm ins vs os g ls (zv vs) (SR (blL ls)) l=bif !l.all (fun x=>bitsB ins.length x)then 2 else 0:=by
   simp only [amF,h1,hS];cases l.all (fun x=>bitsB ins.length x) <;> rfl
  rw [m1,m2,h1,h3,f2]
  rcases h with⟨_,_,h4,h2⟩ | ⟨_,_,h4,h2⟩
  ·rw [h2,h4];simp
  ·have hA2: ∀ x∈l,bitsB ins.length x=true:=List.all_eq_true.1 h4
   obtain⟨v1,v2⟩:=adO l nm g ins vs os ls [] (zv vs) (SR (blL ls)) (by omega) h1 hA2 h200 hS rfl
   rw [aku (ins:=ins) (vs:=vs) (os:=os) (g:=g) (ls:=ls) (f:=tc g ins vs os ls) (fun b a=>rfl)]at v2
   rw [h2,h4,v1,v2]
   simp [pG]
theorem anV(nm:ByteArray)(ins vs os:List ByteArray)(g:ByteArray)(ls:List LN)(l:List (List Int))(h:rgN nm ins vs os g ls l=true):Xi nm g ins vs os ls l=rgC nm ins vs os g ls l∧Xj nm g ins vs os ls l=rgO nm ins vs os g ls l∧QR nm g ins vs os ls l=true:=by
 obtain⟨s0,s1,s2,s3,s4⟩:=apV nm ins vs os g ls l h
 exact⟨s0,s1,by simp only [QR,s4,allT,cond_true]⟩
theorem anE(nm:ByteArray)(ins vs os:List ByteArray)(g:ByteArray)(ls:List LN)(l:List (List Int))(h:rgN nm ins vs os g ls l=true):Xc nm g ins vs os ls l=rgC nm ins vs os g ls l∧Xd nm g ins vs os ls l=rgO nm ins vs os g ls l∧Qz nm g ins vs os ls l=true:=by
 obtain⟨s0,s1,s2,s3,s4⟩:=apO nm ins vs os g ls l h
 exact⟨s0,s1,by simp only [Qz,s4,allT,cond_true]⟩
def WX:List SV→List Entry→Option Out
 | [.one ⟨true,[.val (.string x0),.ref 0,.ref 1,.ref 2,.val (.string x1),.ref 3]⟩,.one ⟨false,[.ref 4]⟩],[.row false 9 (.str) x2,.row false 9 (.str) x3,.row false 9 (.str) x4,.row false 204 (.pair (.str) (.sl 178 (.pair (.int .i64) (.pair (.str) (.int .i64))))) x5,.row false 41 (.sl 2 (.int .i64)) x6]=>some ⟨.tup [⟨false,[.ref 5]⟩,⟨false,[.val (.int .i64 (rgC x0 x2 x3 x4 x1 x5 x6))]⟩],[.row false 9 ahF x2,.row false 9 ahF x3,.row false 9 ahF x4,.row false 204 (CTy.pair CTy.str (CTy.sl (178:TypeId) afk)) x5,.row false 41 (CTy.sl (2:TypeId) agJ) x6],[.row true 41 (CTy.sl (2:Nat) agJ) (rgO x0 x2 x3 x4 x1 x5 x6)],[rgN x0 x2 x3 x4 x1 x5 x6]⟩
 |_,_=>none
def QM:PF prog:=PF.alt agW WX (by
 intro args es o h cE;unfold WX at h;split at h
 ·rename_i x0 x1 x2 x3 x4 x5 x6
  cases h
  have cE:=mH cE
  have hh:=anV x0 x2 x3 x4 x1 x5 x6 cE
  obtain⟨e0,e1,en⟩:=hh
  exact rV rfl (md en) (by simp only [e0] <;> rfl) rfl (by simp only [e1] <;> rfl)
 ·cases h)
def WP:List SV→List Entry→Option Out
 | [.one ⟨true,[.val (.string x0),.ref 0,.ref 1,.ref 2,.val (.string x1),.ref 3]⟩,.one ⟨false,[.ref 4]⟩],[.row false 9 (.str) x2,.row false 9 (.str) x3,.row false 9 (.str) x4,.row false 204 (.pair (.str) (.sl 178 (.pair (.int .i64) (.pair (.str) (.int .i64))))) x5,.row false 41 (.sl 2 (.int .i64)) x6]=>some ⟨.tup [⟨false,[.ref 5]⟩,⟨false,[.val (.int .i64 (rgC x0 x2 x3 x4 x1 x5 x6))]⟩],[.row false 9 ahF x2,.row false 9 ahF x3,.row false 9 ahF x4,.row false 204 (CTy.pair CTy.str (CTy.sl (178:TypeId) afk)) x5,.row false 41 (CTy.sl (2:TypeId) agJ) x6],[.tree 41 (CTy.sl (2:Nat) agJ) (rgO x0 x2 x3 x4 x1 x5 x6) none],[rgN x0 x2 x3 x4 x1 x5 x6]⟩
 |_,_=>none
def QK:PF prog:=PF.alt agO WP (by
 intro args es o h cE;unfold WP at h;split at h
 ·rename_i x0 x1 x2 x3 x4 x5 x6
  cases h
  have cE:=mH cE
  have hh:=anE x0 x2 x3 x4 x1 x5 x6 cE
  obtain⟨e0,e1,en⟩:=hh
  exact rV rfl (md en) (by simp only [e0] <;> rfl) rfl (by simp only [e1] <;> rfl)
 ·cases h)
def aix:List ByteArray→Nat
 | []=>0
 |s::r=>s.size + aix r
def amN(k:Int)(s:ByteArray):Int:=IntKind.i64.wrap (k - (s.size:Int))
def agy:Int→List ByteArray→Int
 |k,[]=>k
 |k,s::r=>bif ltI (amN k s) 0 then -1 else agy (amN k s) r
def LC(k:Int)(ts:List ByteArray):Int:=bif ltI (k - ts.length) 0 then -1 else agy (k - ts.length) ts
def pD(b:ByteArray):(Int)→Nat ⊕ (Int)
 |y1=>(bif(ltI (IntKind.wrap .i64 (y1 - (↑(ByteArray.size b):Int))) (0:Int))then(.inl 0)else(.inr (IntKind.wrap .i64 (y1 - (↑(ByteArray.size b):Int)))))
def oz(y2:List ByteArray)(i:Nat):(Int)→ly
 |y1=>((i:Int),y1,y2)
def JG:ly→Int
 |(_,y1,_)=>y1
theorem abn(y2:List ByteArray)(y1:Int)(hn:y2.length≤9223372036854775807):
  dr.fin ((0:Int),y1,y2)=true∧dr.res ((0:Int),y1,y2)=((af (pD) 1 y2 0 y1).1,(oz y2) (af (pD) 1 y2 0 y1).2.1 (af (pD) 1 y2 0 y1).2.2):=by
 have iY:=dr.along (oz y2) JG (pD) 1 (fun _ _=>True) y2 y1 (by trivial) (by simp only [dr,oz];omega) (fun i b a hb hI=> ?_) (fun a hI=> ?_)
 ·exact iY
 ·obtain y1:=a
  have eB:=(List.getElem?_eq_some_iff.1 hb).1
  have gZ: ∀ d,Option.getD y2[i]? d=b:=fun d=>by rw [hb];rfl
  have hw:=sX eB hn
  have bW:ltI (i:Int) (y2.length:Int)=true:=et (by omega)
  have vL:leI (0:Int) (i:Int)=true:=bv (by omega)
  have im:ltN i y2.length=true:=gu eB
  refine⟨?_,?_,?_,?_⟩
  ·simp [tZ,vE,zY,zZ,Aa,se,Ab,Ac,xX,dr,LT.nds,allT,oz,bW,vL,im,gZ]
  ·simp [tZ,vE,zY,zZ,Aa,se,Ab,Ac,xX,dr,LT.each,oz,JG,hw]
  ·simp only [tZ,vE,zY,zZ,Aa,se,Ab,Ac,xX,dr,LT.fn,oz,JG,pD,Int.toNat_natCast,bW,vL,im,gZ,cond_true,Bool.cond_self]
  ·exact fun _ _=>trivial
 ·obtain y1:=a
  simp [tZ,vE,zY,zZ,Aa,se,Ab,Ac,xX,dr,LT.out,oz]
theorem alI: ∀ (r:List ByteArray) (i:Nat) (k:Int),(bif Nat.beq (af pD 1 r i k).1 0 then -1 else(af pD 1 r i k).2.2)=agy k r
 | [],i,k=>rfl
 |t::r,i,k=>by
  have hf:pD t k=bif ltI (amN k t) 0 then .inl 0 else .inr (amN k t):=rfl
  simp only [af,hf,agy]
  cases h:ltI (amN k t) 0 with
  |true=>rfl
  |false=>simp only [cond_false];exact alI r (i + 1) _
theorem apX(k:Int)(xs:List ByteArray)(h:(leN xs.length 9223372036854775807&&(leI (-1) k&&leI k 1048576))=true):Pu k xs=LC k xs∧Pv k xs=true:=by
 simp only [Bool.and_eq_true,io,DR]at h
 have hw:IntKind.i64.wrap (k - (xs.length:Int))=k - (xs.length:Int):=bc (by omega) (by omega)
 obtain⟨w1,w2⟩:=abn xs (k - (xs.length:Int)) h.1
 have hs:=alI xs 0 (k - (xs.length:Int))
 have e:se= -1:=rfl
 simp only [Pu,Pv,IC,ID,hw,w1,w2,oz,allT,Bool.or_true,cond_true,LC,e,hs,and_self]
theorem agz: ∀ (r:List ByteArray) (k:Int),(∀ t∈r,t.size≤9223372036854775807)→0≤k→k≤1048576→ltI (agy k r) 0=false→agy k r=k - aix r∧(aix r:Int)≤k
 | [],k,_,h0,h1,_=>by simp [agy,aix];omega
 |t::r,k,hs,h0,h1,h=>by
  have hz:=hs t (by simp)
  have ht:amN k t=k - (t.size:Int):=by rw [amN];exact bc (by omega) (by omega)
  simp only [agy]at h ⊢
  rw [ht]at h ⊢
  cases h2:ltI (k - (t.size:Int)) 0 with
  |true=>rw [h2]at h;exact absurd (show ltI (-1) 0=false from h) (by decide)
  |false=>
   have h3:=uQ.1 h2
   rw [h2,cond_false]at h
   obtain⟨q1,q2⟩:=agz r _ (fun t ht=>hs t (by simp [ht])) h3 (by omega) h
   rw [cond_false,q1]
   simp only [aix]
   omega
theorem adL{k:Int}{xs:List ByteArray}(hs: ∀ t∈xs,t.size≤9223372036854775807)(hk:k≤1048576)(h:ltI (LC k xs) 0=false):LC k xs=k - xs.length - aix xs∧(xs.length:Int) + aix xs≤k:=by
 simp only [LC]at h ⊢
 cases h2:ltI (k - (xs.length:Int)) 0 with
 |true=>rw [h2]at h;simp at h
 |false=>
  have h3:=uQ.1 h2
  rw [h2,cond_false]at h
  obtain⟨q1,q2⟩:=agz xs _ hs h3 (by omega) h
  rw [cond_false,q1]
  omega
def UK:List SV→List Entry→Option Out
 | [.one ⟨false,[.ref 0]⟩,.one ⟨false,[.val (.int .i64 x0)]⟩],[.row false 9 (.str) x1]=>some ⟨.one ⟨false,[.val (.int .i64 (LC x0 x1))]⟩,[.row false 9 ahF x1],[],[leN x1.length 9223372036854775807&&(leI (-1) x0&&leI x0 1048576)]⟩
 |_,_=>none
def PD:PF prog:=PF.alt afI UK (by
 intro args es o h cE;unfold UK at h;split at h
 ·rename_i x0 x1
  cases h
  have cE:=mH cE
  have hh:=apX x0 x1 cE
  obtain⟨e0,en⟩:=hh
  exact rV rfl (md en) (by simp only [e0] <;> rfl) rfl rfl
 ·cases h)
def aei(xs ys:List ByteArray):Bool:=decide (xs=ys)
theorem anw(xs:List ByteArray):aei xs xs=true:=by simp [aei]
def rZ(y1:List ByteArray)(b:Nat):(List ByteArray)→Nat ⊕ (List ByteArray)
 |y2=>(.inr (List.set y2 b (Option.getD y1[b]? ByteArray.empty)))
def oB(y1:List ByteArray)(i:Nat):(List ByteArray)→lA
 |y2=>((i:Int),y1,y2)
def JI:lA→List ByteArray
 |(_,_,y2)=>y2
theorem abp(y1 y2:List ByteArray)(hn:y1.length≤9223372036854775807)(hl:y2.length=y1.length):
  fk.fin ((0:Int),y1,y2)=true∧fk.res ((0:Int),y1,y2)=((af (rZ y1) 0 (List.range y1.length) 0 y2).1,(oB y1) (af (rZ y1) 0 (List.range y1.length) 0 y2).2.1 (af (rZ y1) 0 (List.range y1.length) 0 y2).2.2):=by
 have iY:=fk.along (oB y1) JI (rZ y1) 0 (fun _ a=>a.length=y1.length) (List.range y1.length) y2 hl (by simp only [fk,oB,List.length_range];omega) (fun i b a hb hI=> ?_) (fun a hI=> ?_)
 ·exact iY
 ·obtain y2:=a
  obtain⟨rfl,eB⟩:=oC hb
  have hw:IntKind.i64.wrap ((b:Int) + 1)=((b + 1:Nat):Int):=by rw [bc (by omega) (by omega)];omega
  have bW:ltI (b:Int) (y1.length:Int)=true:=et (by omega)
  have vL:leI (0:Int) (b:Int)=true:=bv (by omega)
  have im:ltN b y1.length=true:=gu (by omega)
  refine⟨?_,?_,?_,?_⟩
  ·simp [vH,vI,Ah,Ai,Aj,Ak,Al,xZ,fk,LT.nds,allT,oB,bW,vL,im,hI]
  ·simp [vH,vI,Ah,Ai,Aj,Ak,Al,xZ,fk,LT.each,oB,JI,hw,hI]
  ·simp only [vH,vI,Ah,Ai,Aj,Ak,Al,xZ,fk,LT.fn,oB,JI,rZ,Int.toNat_natCast,bW,cond_true]
  ·intro a' hf;simp only [rZ,Sum.inr.injEq]at hf;subst hf;simpa using hI
 ·obtain y2:=a
  simp [vH,vI,Ah,Ai,Aj,Ak,Al,xZ,fk,LT.out,oB,List.length_range]
def vu(y1 y2:List ByteArray)(b:Nat):(Unit)→Nat ⊕ (Unit)
 |_=>(bif(!ByteArray.toList (Option.getD y1[b]? ByteArray.empty)==ByteArray.toList (Option.getD y2[b]? ByteArray.empty))then(.inl 0)else(.inr ()))
def rf(y1 y2:List ByteArray)(i:Nat):(Unit)→lv
 |_=>((i:Int),y1,y2)
def JC:lv→Unit
 |(_,_,_)=>()
theorem abk(y1 y2:List ByteArray) (hn:y1.length≤9223372036854775807) (he:y2.length=y1.length):
  ep.fin ((0:Int),y1,y2)=true∧ep.res ((0:Int),y1,y2)=((af (vu y1 y2) 1 (List.range y1.length) 0 ()).1,(rf y1 y2) (af (vu y1 y2) 1 (List.range y1.length) 0 ()).2.1 (af (vu y1 y2) 1 (List.range y1.length) 0 ()).2.2):=by
 have iY:=ep.along (rf y1 y2) JC (vu y1 y2) 1 (fun _ _=>True) (List.range y1.length) () (by trivial) (by simp only [ep,rf,List.length_range];omega) (fun i b a hb hI=> ?_) (fun a hI=> ?_)
 ·exact iY
 ·obtain⟨⟩:=a
  obtain⟨rfl,eB⟩:=oC hb
  have hw:IntKind.i64.wrap ((b:Int) + 1)=((b + 1:Nat):Int):=by rw [bc (by omega) (by omega)];omega
  have bW:ltI (b:Int) (y1.length:Int)=true:=et (by omega)
  have vL:leI (0:Int) (b:Int)=true:=bv (by omega)
  have im:ltN b y1.length=true:=gu (by omega)
  refine⟨?_,?_,?_,?_⟩
  ·simp [vA,vB,zE,zF,zG,zH,zI,xT,ep,LT.nds,allT,rf,bW,vL,im,he]
  ·simp [vA,vB,zE,zF,zG,zH,zI,xT,ep,LT.each,rf,JC,hw,he]
  ·simp only [vA,vB,zE,zF,zG,zH,zI,xT,ep,LT.fn,rf,JC,vu,Int.toNat_natCast,bW,cond_true]
  ·exact fun _ _=>trivial
 ·obtain⟨⟩:=a
  simp [vA,vB,zE,zF,zG,zH,zI,xT,ep,LT.out,rf,List.length_range]
theorem akq(xs:List ByteArray)(hn:leN xs.length 1048576=true):Ko xs=xs∧Kp xs=true:=by
 have hn:=io.1 hn
 have hr:(List.replicate (Int.toNat (xs.length:Int)) (⟨#[]⟩:ByteArray)).length=xs.length:=by simp
 obtain⟨w1,w2⟩:=abp xs (List.replicate (Int.toNat (xs.length:Int)) (⟨#[]⟩:ByteArray)) (by omega) hr
 have hc:=Vp (xs:=xs) (d:=ByteArray.empty) (g:=fun x=>x) (f:=rZ xs) (e:=0) (fun b a=>rfl) hr
 rw [hc]at w2
 refine⟨?_,?_⟩
 ·simp only [IH,Ko,Kp,w2,oB];simp
 ·simp only [IH,Ko,Kp,w1,allT];simp;omega
def UM:List SV→List Entry→Option Out
 | [.one ⟨false,[.ref 0]⟩],[.row false 9 (.str) x0]=>some ⟨.one ⟨false,[.ref 1]⟩,[.row false 9 ahF x0],[.row true 9 ahF x0],[leN x0.length 1048576]⟩
 |_,_=>none
def PG:PF prog:=PF.alt afK UM (by
 intro args es o h cE;unfold UM at h;split at h
 ·rename_i x0
  cases h
  have cE:=mH cE
  have hh:=akq x0 cE
  obtain⟨e0,en⟩:=hh
  exact rV rfl (md en) rfl rfl (by simp only [e0] <;> rfl)
 ·cases h)
theorem ajQ(xs ys:List ByteArray)(hn:leN xs.length 9223372036854775807=true):Kj xs ys=aei xs ys∧Kk xs ys=true:=by
 have hn:=io.1 hn
 unfold aei
 have h3: ∀ a b:ByteArray,(!(a.toList==b.toList))= !decide (a=b):=fun a b=>by
  by_cases h:a=b <;> simp [h,akB]
 by_cases hl:ys.length=xs.length
 ·obtain⟨w1,w2⟩:=abk xs ys hn hl
  have ha:=ajG (d:=ByteArray.empty) hl (P:=fun b=> !decide (Option.getD xs[b]? ByteArray.empty=Option.getD ys[b]? ByteArray.empty)) (fun b=>rfl)
  rw [iQ (P:=fun b=> !decide (Option.getD xs[b]? ByteArray.empty=Option.getD ys[b]? ByteArray.empty)) (j:=0) (fun b=>by simp only [vu,h3]),ha]at w2
  simp only [Ir,Is,Kj,Kk,w1,w2,allT]
  by_cases he:xs=ys
  ·subst he;simp;decide
  ·simp [he,hl]
 ·have Ql:xs≠ys:=fun h=>hl (by rw [h])
  simp [Ir,Is,Kj,Kk,allT,Ql]
  omega
def UH:List SV→List Entry→Option Out
 | [.one ⟨false,[.ref 0]⟩,.one ⟨false,[.ref 1]⟩],[.row false 9 (.str) x0,.row false 9 (.str) x1]=>some ⟨.one ⟨false,[.val (.bool (aei x0 x1))]⟩,[.row false 9 ahF x0,.row false 9 ahF x1],[],[leN x0.length 9223372036854775807]⟩
 |_,_=>none
def PB:PF prog:=PF.alt afF UH (by
 intro args es o h cE;unfold UH at h;split at h
 ·rename_i x0 x1
  cases h
  have cE:=mH cE
  have hh:=ajQ x0 x1 cE
  obtain⟨e0,en⟩:=hh
  exact rV rfl (md en) (by simp only [e0] <;> rfl) rfl rfl
 ·cases h)
section
variable (x0:ByteArray)(x1:Int)(x2:List (Int×ByteArray×Int))
def xR:Int:=IntKind.wrap .i64 (x1 - (↑(ByteArray.size x0):Int))
def HD:Int:=bif ltI (xR x0 x1) (0:Int)then(-1:Int)else bif ltI (akp (xR x0 x1) x2) (0:Int)then(-1:Int)else akp (xR x0 x1) x2
def Qb:Bool:=allT [ltI (xR x0 x1) (0:Int)||leN x2.length (9223372036854775807:Nat)&&(leI (-1:Int) (xR x0 x1)&&leI (xR x0 x1) (1048576:Int))]
end
def abz:List SV→List Entry→Option Out
 | [.one ⟨true,[.val (.string x0),.ref 0]⟩,.one ⟨false,[.val (.int .i64 x1)]⟩],[.row false 175 (.pair (.int .i64) (.pair (.str) (.int .i64))) x2]=>some ⟨.one ⟨false,[.val (.int .i64 (HD x0 x1 x2))]⟩,[.row false 175 afk x2],[],[Qb x0 x1 x2]⟩
 |_,_=>none
def HG:PF prog:=PF.ofG prog [Sh,PF.lend Sh,PF.fz Sh] [] aP 200 f200 func200 (fun c _=>LOk.nil c) abz (by
 intro vs es r h;unfold abz at h;split at h
 ·cases h;kernel_rfl
 ·cases h)
abbrev nU:=Int×Int×List (ByteArray×(List (Int×(ByteArray×Int))))
def mF(y0:Int)(y2:List (ByteArray×(List (Int×(ByteArray×Int))))):ByteArray×List (Int×ByteArray×Int):=Option.getD y2[Int.toNat y0]? (qA (CTy.pair CTy.str (CTy.sl (175:Nat) afk)))
def BF(y0 y1:Int)(y2:List (ByteArray×(List (Int×(ByteArray×Int))))):Int:=HD ((mF y0 y2).1) y1 ((mF y0 y2).2)
def za(y0:Int)(y2:List (ByteArray×(List (Int×(ByteArray×Int))))):Bool:=ltI y0 (↑y2.length:Int)
def Iy(y0:Int):Bool:=leI (0:Int) y0
def Iz(y0:Int)(y2:List (ByteArray×(List (Int×(ByteArray×Int))))):Bool:=ltN y0.toNat y2.length
def Dz(y0 y1:Int)(y2:List (ByteArray×(List (Int×(ByteArray×Int))))):Bool:=Qb ((mF y0 y2).1) y1 ((mF y0 y2).2)
def DA(y0 y1:Int)(y2:List (ByteArray×(List (Int×(ByteArray×Int))))):Bool:=ltI (BF y0 y1 y2) (0:Int)
def DB:Int:=(-1:Int)
def Oc(y0:Int):Int:=IntKind.wrap .i64 (y0 + (1:Int))
def IA(y0 y1:Int)(y2:List (ByteArray×(List (Int×(ByteArray×Int))))):Int:=BF y0 y1 y2
def ack:nU→List (Nat×SV)
 |(y0,y1,_)=> [(5,(.one ⟨false,[.val (.int .i64 y0)]⟩)),(0,(.one ⟨false,[.ref 0]⟩)),(1,(.one ⟨false,[.val (.int .i64 y1)]⟩))]
def ab9:nU→List (Nat×Entry)
 |(_,_,y2)=> [(0,(.row false 225 (CTy.pair CTy.str (CTy.sl (175:Nat) afk)) y2))]
def acE:Nat→nU→List (Nat×SV)
 |0,(_,_,_)=> [(4,(.one ⟨false,[.val (.int .i64 (DB))]⟩))]
 |_,(_,y1,_)=> [(1,(.one ⟨false,[.val (.int .i64 y1)]⟩))]
def acu:Nat→nU→List (Nat×Entry)
 |0,(_,_,y2)=> [(0,(.row false 225 (CTy.pair CTy.str (CTy.sl (175:Nat) afk)) y2))]
 |_,(_,_,y2)=> [(0,(.row false 225 (CTy.pair CTy.str (CTy.sl (175:Nat) afk)) y2))]
def BP:nU→LT nU
 |(y0,y1,y2)=> .ite (za y0 y2) (.need [Iy y0,za y0 y2,Iz y0 y2,Dz y0 y1 y2] (.ite (DA y0 y1 y2) (.ext 0 [(0,0)]) (.nrm ((Oc y0),IA y0 y1 y2,y2) [(0,0)]))) (.ext 1 [(0,0)])
def MH(s:St):Option nU:=
 (match s.look 5 with
 |some ⟨none,.one ⟨false,[.val (.int .i64 y0)]⟩⟩=>
 (match s.look 0 with
 |some ⟨none,.one ⟨false,[.ref 0]⟩⟩=>
 (match s.look 1 with
 |some ⟨none,.one ⟨false,[.val (.int .i64 y1)]⟩⟩=>
 (match s.ent 0 with
 |some (.row false 225 (.pair .str (.sl (175:Nat) (.pair (.int .i64) (.pair .str (.int .i64))))) y2)=>
 some (y0,y1,y2)
 |_=>none)
 |_=>none)
 |_=>none)
 |_=>none)
def eU:Lp nU where
 h:=⟨[12,13,14,15,18,19,20,21,22,23,1,24,25,4,16,17,5],[0],[],[]⟩
 JL:=ack
 JE:=ab9
 XL:=acE
 XE:=acu
 q:=fun j=>match j with | 0=> .ret | _=> .exit 0
 tags:= [0,1]
 lt:=BP
 fuel:=fun(y0,y1,y2)=>y0.natAbs + y1.natAbs + y2.length
 fix:=fun(_,_,y2) (y0,y1,_)=>(y0,y1,y2)
 σ:= [(0,0)]
 rd:=MH
theorem ZL:LoopOk prog (fun k=>Nat.blt k Tryz.f130.ntmps) eU.F (aL f130 0):=by
 refine Lp.ok (tbl:= [HG,PF.lend HG,PF.fz HG]) (lf:= []) aP eU (by kernel_rfl) (LOk.nil _) (fun _=>rfl) (fun j _=>by unfold eU;match j with | 0=>rfl | _ + 1=>rfl) ?_ ?_ ?_ ?_ (fun _=>rfl) ?_
 ·rintro⟨y0,y1,y2⟩;kernel_rfl
 ·rintro⟨y0,y1,y2⟩;kernel_rfl
 ·intro s x h
  have h:MH s=some x:=h
  unfold MH at h
  repeat' split at h
  all_goals cases h
  exact⟨aa (by assumption) rfl (aa (by assumption) rfl (aa (by assumption) rfl (rfl))),ab rfl (by assumption) rfl (rfl)⟩
 ·rintro⟨y0,y1,y2⟩;kernel_rfl
 ·rintro⟨y0,y1,y2⟩ z;exact(And.intro (And.intro trivial rfl) trivial)
section
variable (x0:Int)(x1:List (ByteArray×List (Int×ByteArray×Int)))
def Hr:Int:=IntKind.wrap .i64 (x0 - (↑x1.length:Int))
def LM:Int×Int×List (ByteArray×List (Int×ByteArray×Int)):=((0:Int),Hr x0 x1,x1)
def Fy:Int:=bif ltI (Hr x0 x1) (0:Int)then(-1:Int)else bif Nat.beq ((Lp.res eU (LM x0 x1)).1) (0:Nat)then DB else ((Lp.res eU (LM x0 x1)).2.2).1
def Ju:Bool:=allT [ltI (Hr x0 x1) (0:Int)||Lp.fin eU (LM x0 x1)]
end
def Yg:List SV→List Entry→Option Out
 | [.one ⟨false,[.ref 0]⟩,.one ⟨false,[.val (.int .i64 x0)]⟩],[.row false 225 (.pair (.str) (.sl 175 (.pair (.int .i64) (.pair (.str) (.int .i64))))) x1]=>some ⟨.one ⟨false,[.val (.int .i64 (Fy x0 x1))]⟩,[.row false 225 (CTy.pair CTy.str (CTy.sl (175:TypeId) afk)) x1],[],[Ju x0 x1]⟩
 |_,_=>none
def Sk:PF prog:=PF.ofG prog [HG,PF.lend HG,PF.fz HG] [eU.F] aP 130 f130 func130 (LOk.fnT (l:= [aL f130 0]) (by kernel_rfl) (.cons ZL (.nil _))) Yg (by
 intro vs es r h;unfold Yg at h;split at h
 ·cases h;kernel_rfl
 ·cases h)
section
variable (x0 x1:ByteArray)(x2:Int)(x3 x4 x5:List ByteArray)(x6:List (ByteArray×List (Int×ByteArray×Int)))
def cR:Int:=IntKind.wrap .i64 (x2 - (↑(ByteArray.size x0):Int))
def DC:Bool:=ltI (LC (LC (cR x0 x2) x3) x4) (0:Int)
def IB:Bool:=ltI (LC (LC (LC (cR x0 x2) x3) x4) x5) (0:Int)
def zb:Int:=IntKind.wrap .i64 (LC (LC (LC (cR x0 x2) x3) x4) x5 - (↑(ByteArray.size x1):Int))
def DD:Bool:=ltI (zb x0 x1 x2 x3 x4 x5) (0:Int)
def fb:Int:=bif ltI (cR x0 x2) (0:Int)then(-1:Int)else bif ltI (LC (cR x0 x2) x3) (0:Int)then(-1:Int)else bif DC x0 x2 x3 x4 then(-1:Int)else bif IB x0 x2 x3 x4 x5 then(-1:Int)else bif DD x0 x1 x2 x3 x4 x5 then(-1:Int)else bif ltI (Fy (zb x0 x1 x2 x3 x4 x5) x6) (0:Int)then(-1:Int)else Fy (zb x0 x1 x2 x3 x4 x5) x6
def rt:Bool:=allT [ltI (cR x0 x2) (0:Int)||leN x3.length (9223372036854775807:Nat)&&(leI (-1:Int) (cR x0 x2)&&leI (cR x0 x2) (1048576:Int)),ltI (cR x0 x2) (0:Int)||(ltI (LC (cR x0 x2) x3) (0:Int)||leN x4.length (9223372036854775807:Nat)&&(leI (-1:Int) (LC (cR x0 x2) x3)&&leI (LC (cR x0 x2) x3) (1048576:Int))),ltI (cR x0 x2) (0:Int)||(ltI (LC (cR x0 x2) x3) (0:Int)||(DC x0 x2 x3 x4||leN x5.length (9223372036854775807:Nat)&&(leI (-1:Int) (LC (LC (cR x0 x2) x3) x4)&&leI (LC (LC (cR x0 x2) x3) x4) (1048576:Int)))),ltI (cR x0 x2) (0:Int)||(ltI (LC (cR x0 x2) x3) (0:Int)||(DC x0 x2 x3 x4||(IB x0 x2 x3 x4 x5||(DD x0 x1 x2 x3 x4 x5||Ju (zb x0 x1 x2 x3 x4 x5) x6))))]
end
def Uu:List SV→List Entry→Option Out
 | [.one ⟨true,[.val (.string x0),.ref 0,.ref 1,.ref 2,.val (.string x1),.ref 3]⟩,.one ⟨false,[.val (.int .i64 x2)]⟩],[.row false 9 (.str) x3,.row false 9 (.str) x4,.row false 9 (.str) x5,.row false 225 (.pair (.str) (.sl 175 (.pair (.int .i64) (.pair (.str) (.int .i64))))) x6]=>some ⟨.one ⟨false,[.val (.int .i64 (fb x0 x1 x2 x3 x4 x5 x6))]⟩,[.row false 9 ahF x3,.row false 9 ahF x4,.row false 9 ahF x5,.row false 225 (CTy.pair CTy.str (CTy.sl (175:TypeId) afk)) x6],[],[rt x0 x1 x2 x3 x4 x5 x6]⟩
 |_,_=>none
def PL:PF prog:=PF.ofG prog [PD,PF.lend PD,PF.fz PD,Sk,PF.lend Sk,PF.fz Sk] [] aP 58 f58 func58 (fun c _=>LOk.nil c) Uu (by
 intro vs es r h;unfold Uu at h;split at h
 ·cases h;kernel_rfl
 ·cases h)
def TV(x1:List (Int×ByteArray×Int)):Bool:=allT [leN x1.length (1048576:Nat)]
def abB:List SV→List Entry→Option Out
 | [.one ⟨true,[.val (.string x0),.ref 0]⟩],[.row false 175 (.pair (.int .i64) (.pair (.str) (.int .i64))) x1]=>some ⟨.one ⟨true,[.val (.string x0),.ref 1]⟩,[.row false 175 afk x1],[.row true 178 afk x1],[TV x1]⟩
 |_,_=>none
def HH:PF prog:=PF.ofG prog [Si,PF.lend Si,PF.fz Si] [] aP 201 f201 func201 (fun c _=>LOk.nil c) abB (by
 intro vs es r h;unfold abB at h;split at h
 ·cases h;kernel_rfl
 ·cases h)
abbrev nW:=Int×List (ByteArray×(List (Int×(ByteArray×Int))))×List (ByteArray×(List (Int×(ByteArray×Int))))
def th(y0:Int)(y1:List (ByteArray×(List (Int×(ByteArray×Int))))):ByteArray×List (Int×ByteArray×Int):=Option.getD y1[Int.toNat y0]? (qA (CTy.pair CTy.str (CTy.sl (175:Nat) afk)))
def zd(y0:Int)(y1:List (ByteArray×(List (Int×(ByteArray×Int))))):Bool:=ltI y0 (↑y1.length:Int)
def ze(y0:Int):Bool:=leI (0:Int) y0
def DJ(y0:Int)(y1:List (ByteArray×(List (Int×(ByteArray×Int))))):Bool:=ltN y0.toNat y1.length
def zf(y0:Int)(y1:List (ByteArray×(List (Int×(ByteArray×Int))))):Bool:=TV ((th y0 y1).2)
def DK(y0:Int)(y2:List (ByteArray×(List (Int×(ByteArray×Int))))):Bool:=ltI y0 (↑y2.length:Int)
def DL(y0:Int)(y2:List (ByteArray×(List (Int×(ByteArray×Int))))):Bool:=ltN y0.toNat y2.length
def IF(y0:Int):Int:=IntKind.wrap .i64 (y0 + (1:Int))
def IG(y0:Int)(y1 y2:List (ByteArray×(List (Int×(ByteArray×Int))))):List (ByteArray×(List (Int×(ByteArray×Int)))):=List.set y2 y0.toNat ((th y0 y1).1,(th y0 y1).2)
def acm:nW→List (Nat×SV)
 |(y0,_,_)=> [(4,(.one ⟨false,[.val (.int .i64 y0)]⟩)),(0,(.one ⟨false,[.ref 0]⟩)),(3,(.one ⟨false,[.ref 1]⟩))]
def acb:nW→List (Nat×Entry)
 |(_,y1,y2)=> [(0,(.row false 225 (CTy.pair CTy.str (CTy.sl (175:Nat) afk)) y1)),(1,(.tree 204 (CTy.pair CTy.str (CTy.sl (178:Nat) afk)) y2 none))]
def acG:Nat→nW→List (Nat×SV)
 |_,(_,_,_)=> []
def acw:Nat→nW→List (Nat×Entry)
 |_,(_,y1,y2)=> [(0,(.row false 225 (CTy.pair CTy.str (CTy.sl (175:Nat) afk)) y1)),(1,(.tree 204 (CTy.pair CTy.str (CTy.sl (178:Nat) afk)) y2 none))]
def BR:nW→LT nW
 |(y0,y1,y2)=> .ite (zd y0 y1) (.need [ze y0,zd y0 y1,DJ y0 y1,zf y0 y1,ze y0,DK y0 y2,DL y0 y2] (.nrm ((IF y0),y1,(IG y0 y1 y2)) [(0,0),(1,1)])) (.ext 0 [(0,0),(1,1)])
def MJ(s:St):Option nW:=
 (match s.look 4 with
 |some ⟨none,.one ⟨false,[.val (.int .i64 y0)]⟩⟩=>
 (match s.look 0 with
 |some ⟨none,.one ⟨false,[.ref 0]⟩⟩=>
 (match s.look 3 with
 |some ⟨none,.one ⟨false,[.ref 320]⟩⟩=>
 (match s.ent 0 with
 |some (.row false 225 (.pair .str (.sl (175:Nat) (.pair (.int .i64) (.pair .str (.int .i64))))) y1)=>
 (match s.ent 320 with
 |some (.tree 204 (.pair .str (.sl (178:Nat) (.pair (.int .i64) (.pair .str (.int .i64))))) y2 none)=>
 some (y0,y1,y2)
 |_=>none)
 |_=>none)
 |_=>none)
 |_=>none)
 |_=>none)
def iq:Lp nW where
 h:=⟨[8,9,10,11,14,15,16,17,18,19,20,21,12,13,4],[0,1],[],[]⟩
 JL:=acm
 JE:=acb
 XL:=acG
 XE:=acw
 q:=fun j=>match j with | _=> .exit 0
 tags:= [0]
 lt:=BR
 fuel:=fun(y0,y1,y2)=>y0.natAbs + y1.length + y2.length
 fix:=fun(_,y1,_) (y0,_,y2)=>(y0,y1,y2)
 σ:= [(0,0),(1,320)]
 rd:=MJ
theorem ZN:LoopOk prog (fun k=>Nat.blt k Tryz.f132.ntmps) iq.F (aL f132 0):=by
 refine Lp.ok (tbl:= [PF.trees prog,HH,PF.lend HH,PF.fz HH]) (lf:= []) aP iq (by kernel_rfl) (LOk.nil _) (fun _=>rfl) (fun _ _=>rfl) ?_ ?_ ?_ ?_ (fun _=>rfl) ?_
 ·rintro⟨y0,y1,y2⟩;kernel_rfl
 ·rintro⟨y0,y1,y2⟩;kernel_rfl
 ·intro s x h
  have h:MJ s=some x:=h
  unfold MJ at h
  repeat' split at h
  all_goals cases h
  exact⟨aa (by assumption) rfl (aa (by assumption) rfl (aa (by assumption) rfl (rfl))),ab rfl (by assumption) rfl (ab rfl (by assumption) rfl (rfl))⟩
 ·rintro⟨y0,y1,y2⟩;kernel_rfl
 ·rintro⟨y0,y1,y2⟩ z;exact(And.intro rfl trivial)
def vV(x0:List (ByteArray×List (Int×ByteArray×Int))):Int:=(↑x0.length:Int)
def LU(x0:List (ByteArray×List (Int×ByteArray×Int))):Int×List (ByteArray×List (Int×ByteArray×Int))×List (ByteArray×List (Int×ByteArray×Int)):=
 ((0:Int),x0,List.replicate (Int.toNat (vV x0)) ({ data:= #[] },[]))
def Jv(x0:List (ByteArray×List (Int×ByteArray×Int))):List (ByteArray×(List (Int×(ByteArray×Int)))):=(Lp.res iq (LU x0)).2.2.2
def Od(x0:List (ByteArray×List (Int×ByteArray×Int))):Bool:=allT [leI (0:Int) (vV x0),leI (vV x0) (vV x0),leI ((↑(40:Nat):Int) * vV x0) (281474976710656:Int),leI (vV x0) (9223372036854775807:Int),Lp.fin iq (LU x0)]
def Yi:List SV→List Entry→Option Out
 | [.one ⟨false,[.ref 0]⟩],[.row false 225 (.pair (.str) (.sl 175 (.pair (.int .i64) (.pair (.str) (.int .i64))))) x0]=>some ⟨.one ⟨false,[.ref 1]⟩,[.row false 225 (CTy.pair CTy.str (CTy.sl (175:TypeId) afk)) x0],[.tree 204 (CTy.pair CTy.str (CTy.sl (178:Nat) afk)) (Jv x0) none],[Od x0]⟩
 |_,_=>none
def Sl:PF prog:=PF.ofG prog [PF.trees prog,HH,PF.lend HH,PF.fz HH] [iq.F] aP 132 f132 func132 (LOk.fnT (l:= [aL f132 0]) (by kernel_rfl) (.cons ZN (.nil _))) Yi (by
 intro vs es r h;unfold Yi at h;split at h
 ·cases h;kernel_rfl
 ·cases h)
def dz(x5:List (ByteArray×List (Int×ByteArray×Int))):List (ByteArray×(List (Int×(ByteArray×Int)))):=Jv x5
def AM(x2 x3 x4:List ByteArray)(x5:List (ByteArray×List (Int×ByteArray×Int))):Bool:=allT [leN x2.length (1048576:Nat),leN x3.length (1048576:Nat),leN x4.length (1048576:Nat),Od x5]
def Ux:List SV→List Entry→Option Out
 | [.one ⟨true,[.val (.string x0),.ref 0,.ref 1,.ref 2,.val (.string x1),.ref 3]⟩],[.row false 9 (.str) x2,.row false 9 (.str) x3,.row false 9 (.str) x4,.row false 225 (.pair (.str) (.sl 175 (.pair (.int .i64) (.pair (.str) (.int .i64))))) x5]=>some ⟨.one ⟨true,[.val (.string x0),.ref 4,.ref 5,.ref 6,.val (.string x1),.ref 7]⟩,[.row false 9 ahF x2,.row false 9 ahF x3,.row false 9 ahF x4,.row false 225 (CTy.pair CTy.str (CTy.sl (175:TypeId) afk)) x5],[.row true 9 ahF x2,.row true 9 ahF x3,.row true 9 ahF x4,.tree 204 (CTy.pair CTy.str (CTy.sl (178:Nat) afk)) (dz x5) none],[AM x2 x3 x4 x5]⟩
 |_,_=>none
def PM:PF prog:=PF.ofG prog [PF.trees prog,PG,PF.lend PG,PF.fz PG,Sl,PF.lend Sl,PF.fz Sl] [] aP 59 f59 func59 (fun c _=>LOk.nil c) Ux (by
 intro vs es r h;unfold Ux at h;split at h
 ·cases h;kernel_rfl
 ·cases h)
section
variable (x0 x1:ByteArray)(x2 x3:List (Int×ByteArray×Int))
def RU:Bool:= !ByteArray.toList x0==ByteArray.toList x1
def Lv:Bool:=bif RU x0 x1 then false else bif !anx x2 x3 then false else true
def TU:Bool:=allT [RU x0 x1||leN x2.length (9223372036854775807:Nat)]
end
def abx:List SV→List Entry→Option Out
 | [.one ⟨true,[.val (.string x0),.ref 0]⟩,.one ⟨true,[.val (.string x1),.ref 1]⟩],[.row false 178 (.pair (.int .i64) (.pair (.str) (.int .i64))) x2,.row false 178 (.pair (.int .i64) (.pair (.str) (.int .i64))) x3]=>some ⟨.one ⟨false,[.val (.bool (Lv x0 x1 x2 x3))]⟩,[.row false 178 afk x2,.row false 178 afk x3],[],[TU x0 x1 x2]⟩
 |_,_=>none
def HF:PF prog:=PF.ofG prog [Sg,PF.lend Sg,PF.fz Sg] [] aP 202 f202 func202 (fun c _=>LOk.nil c) abx (by
 intro vs es r h;unfold abx at h;split at h
 ·cases h;kernel_rfl
 ·cases h)
abbrev nR:=Int×List (ByteArray×(List (Int×(ByteArray×Int))))×List (ByteArray×(List (Int×(ByteArray×Int))))
def oH(y0:Int)(y1:List (ByteArray×(List (Int×(ByteArray×Int))))):ByteArray×List (Int×ByteArray×Int):=Option.getD y1[Int.toNat y0]? (qA (CTy.pair CTy.str (CTy.sl (178:Nat) afk)))
def wO(y0:Int)(y2:List (ByteArray×(List (Int×(ByteArray×Int))))):ByteArray×List (Int×ByteArray×Int):=Option.getD y2[Int.toNat y0]? (qA (CTy.pair CTy.str (CTy.sl (178:Nat) afk)))
def yV(y0:Int)(y1:List (ByteArray×(List (Int×(ByteArray×Int))))):Bool:=ltI y0 (↑y1.length:Int)
def yW(y0:Int):Bool:=leI (0:Int) y0
def Dm(y0:Int)(y1:List (ByteArray×(List (Int×(ByteArray×Int))))):Bool:=ltN y0.toNat y1.length
def Dn(y0:Int)(y2:List (ByteArray×(List (Int×(ByteArray×Int))))):Bool:=ltI y0 (↑y2.length:Int)
def Do(y0:Int)(y2:List (ByteArray×(List (Int×(ByteArray×Int))))):Bool:=ltN y0.toNat y2.length
def yX(y0:Int)(y1 y2:List (ByteArray×(List (Int×(ByteArray×Int))))):Bool:=TU ((oH y0 y1).1) ((wO y0 y2).1) ((oH y0 y1).2)
def Dp(y0:Int)(y1 y2:List (ByteArray×(List (Int×(ByteArray×Int))))):Bool:= !Lv ((oH y0 y1).1) ((wO y0 y2).1) ((oH y0 y1).2) ((wO y0 y2).2)
def Ip(y0:Int):Int:=IntKind.wrap .i64 (y0 + (1:Int))
def aci:nR→List (Nat×SV)
 |(y0,_,_)=> [(5,(.one ⟨false,[.val (.int .i64 y0)]⟩)),(0,(.one ⟨false,[.ref 0]⟩)),(1,(.one ⟨false,[.ref 1]⟩))]
def ab7:nR→List (Nat×Entry)
 |(_,y1,y2)=> [(0,(.row false 204 (CTy.pair CTy.str (CTy.sl (178:Nat) afk)) y1)),(1,(.row false 204 (CTy.pair CTy.str (CTy.sl (178:Nat) afk)) y2))]
def acC:Nat→nR→List (Nat×SV)
 |0,(_,_,_)=> [(4,(.one ⟨false,[.val (.bool false)]⟩))]
 |_,(_,_,_)=> []
def acs:Nat→nR→List (Nat×Entry)
 |0,(_,y1,y2)=> [(0,(.row false 204 (CTy.pair CTy.str (CTy.sl (178:Nat) afk)) y1)),(1,(.row false 204 (CTy.pair CTy.str (CTy.sl (178:Nat) afk)) y2))]
 |_,(_,y1,y2)=> [(0,(.row false 204 (CTy.pair CTy.str (CTy.sl (178:Nat) afk)) y1)),(1,(.row false 204 (CTy.pair CTy.str (CTy.sl (178:Nat) afk)) y2))]
def BN:nR→LT nR
 |(y0,y1,y2)=> .ite (yV y0 y1) (.need [yW y0,yV y0 y1,Dm y0 y1,yW y0,Dn y0 y2,Do y0 y2,yX y0 y1 y2] (.ite (Dp y0 y1 y2) (.ext 0 [(0,0),(1,1)]) (.nrm ((Ip y0),y1,y2) [(0,0),(1,1)]))) (.ext 1 [(0,0),(1,1)])
def MF(s:St):Option nR:=
 (match s.look 5 with
 |some ⟨none,.one ⟨false,[.val (.int .i64 y0)]⟩⟩=>
 (match s.look 0 with
 |some ⟨none,.one ⟨false,[.ref 0]⟩⟩=>
 (match s.look 1 with
 |some ⟨none,.one ⟨false,[.ref 1]⟩⟩=>
 (match s.ent 0 with
 |some (.row false 204 (.pair .str (.sl (178:Nat) (.pair (.int .i64) (.pair .str (.int .i64))))) y1)=>
 (match s.ent 1 with
 |some (.row false 204 (.pair .str (.sl (178:Nat) (.pair (.int .i64) (.pair .str (.int .i64))))) y2)=>
 some (y0,y1,y2)
 |_=>none)
 |_=>none)
 |_=>none)
 |_=>none)
 |_=>none)
def gp:Lp nR where
 h:=⟨[11,12,13,14,17,18,19,20,21,22,23,24,25,26,4,15,16,5],[0,1],[],[]⟩
 JL:=aci
 JE:=ab7
 XL:=acC
 XE:=acs
 q:=fun j=>match j with | 0=> .ret | _=> .exit 0
 tags:= [0,1]
 lt:=BN
 fuel:=fun(y0,y1,y2)=>y0.natAbs + y1.length + y2.length
 fix:=fun(_,y1,y2) (y0,_,_)=>(y0,y1,y2)
 σ:= [(0,0),(1,1)]
 rd:=MF
theorem ZJ:LoopOk prog (fun k=>Nat.blt k Tryz.f134.ntmps) gp.F (aL f134 0):=by
 refine Lp.ok (tbl:= [HF,PF.lend HF,PF.fz HF]) (lf:= []) aP gp (by kernel_rfl) (LOk.nil _) (fun _=>rfl) (fun j _=>by unfold gp;match j with | 0=>rfl | _ + 1=>rfl) ?_ ?_ ?_ ?_ (fun _=>rfl) ?_
 ·rintro⟨y0,y1,y2⟩;kernel_rfl
 ·rintro⟨y0,y1,y2⟩;kernel_rfl
 ·intro s x h
  have h:MF s=some x:=h
  unfold MF at h
  repeat' split at h
  all_goals cases h
  exact⟨aa (by assumption) rfl (aa (by assumption) rfl (aa (by assumption) rfl (rfl))),ab rfl (by assumption) rfl (ab rfl (by assumption) rfl (rfl))⟩
 ·rintro⟨y0,y1,y2⟩;kernel_rfl
 ·rintro⟨y0,y1,y2⟩ z;exact(And.intro (And.intro trivial rfl) trivial)
section
variable (x0 x1:List (ByteArray×List (Int×ByteArray×Int)))
def LJ:Bool:=(↑x0.length:Int)!=(↑x1.length:Int)
def QI:Int×List (ByteArray×List (Int×ByteArray×Int))×List (ByteArray×List (Int×ByteArray×Int)):=((0:Int),x0,x1)
def NW:Bool:=bif LJ x0 x1 then false else bif Nat.beq ((Lp.res gp (QI x0 x1)).1) (0:Nat)then false else true
def NX:Bool:=allT [LJ x0 x1||Lp.fin gp (QI x0 x1)]
end
def Ye:List SV→List Entry→Option Out
 | [.one ⟨false,[.ref 0]⟩,.one ⟨false,[.ref 1]⟩],[.row false 204 (.pair (.str) (.sl 178 (.pair (.int .i64) (.pair (.str) (.int .i64))))) x0,.row false 204 (.pair (.str) (.sl 178 (.pair (.int .i64) (.pair (.str) (.int .i64))))) x1]=>some ⟨.one ⟨false,[.val (.bool (NW x0 x1))]⟩,[.row false 204 (CTy.pair CTy.str (CTy.sl (178:TypeId) afk)) x0,.row false 204 (CTy.pair CTy.str (CTy.sl (178:TypeId) afk)) x1],[],[NX x0 x1]⟩
 |_,_=>none
def Sj:PF prog:=PF.ofG prog [HF,PF.lend HF,PF.fz HF] [gp.F] aP 134 f134 func134 (LOk.fnT (l:= [aL f134 0]) (by kernel_rfl) (.cons ZJ (.nil _))) Ye (by
 intro vs es r h;unfold Ye at h;split at h
 ·cases h;kernel_rfl
 ·cases h)
section
variable (x0 x1 x2 x3:ByteArray)(x4 x5 x6:List ByteArray)(x7:List (ByteArray×List (Int×ByteArray×Int)))(x8 x9 x10:List ByteArray)(x11:List (ByteArray×List (Int×ByteArray×Int)))
def uO:Bool:= !ByteArray.toList x0==ByteArray.toList x2
def Iq:Bool:= !ByteArray.toList x1==ByteArray.toList x3
def Kh:Bool:=bif uO x0 x2 then false else bif !aei x4 x8 then false else bif !aei x5 x9 then false else bif !aei x6 x10 then false else bif Iq x1 x3 then false else bif !NW x7 x11 then false else true
def Ki:Bool:=allT [uO x0 x2||leN x4.length (9223372036854775807:Nat),uO x0 x2||(!aei x4 x8||leN x5.length (9223372036854775807:Nat)),uO x0 x2||(!aei x4 x8||(!aei x5 x9||leN x6.length (9223372036854775807:Nat))),uO x0 x2||(!aei x4 x8||(!aei x5 x9||(!aei x6 x10||(Iq x1 x3||NX x7 x11))))]
end
def Up:List SV→List Entry→Option Out
 | [.one ⟨true,[.val (.string x0),.ref 0,.ref 1,.ref 2,.val (.string x1),.ref 3]⟩,.one ⟨true,[.val (.string x2),.ref 4,.ref 5,.ref 6,.val (.string x3),.ref 7]⟩],[.row false 9 (.str) x4,.row false 9 (.str) x5,.row false 9 (.str) x6,.row false 204 (.pair (.str) (.sl 178 (.pair (.int .i64) (.pair (.str) (.int .i64))))) x7,.row false 9 (.str) x8,.row false 9 (.str) x9,.row false 9 (.str) x10,.row false 204 (.pair (.str) (.sl 178 (.pair (.int .i64) (.pair (.str) (.int .i64))))) x11]=>some ⟨.one ⟨false,[.val (.bool (Kh x0 x1 x2 x3 x4 x5 x6 x7 x8 x9 x10 x11))]⟩,[.row false 9 ahF x4,.row false 9 ahF x5,.row false 9 ahF x6,.row false 204 (CTy.pair CTy.str (CTy.sl (178:TypeId) afk)) x7,.row false 9 ahF x8,.row false 9 ahF x9,.row false 9 ahF x10,.row false 204 (CTy.pair CTy.str (CTy.sl (178:TypeId) afk)) x11],[],[Ki x0 x1 x2 x3 x4 x5 x6 x7 x8 x9 x10 x11]⟩
 |_,_=>none
def PJ:PF prog:=PF.ofG prog [PB,PF.lend PB,PF.fz PB,Sj,PF.lend Sj,PF.fz Sj] [] aP 60 f60 func60 (fun c _=>LOk.nil c) Up (by
 intro vs es r h;unfold Up at h;split at h
 ·cases h;kernel_rfl
 ·cases h)
def lnSz(l:LN):Prop:=l.1.size≤9223372036854775807∧l.2.length≤9223372036854775807∧ ∀ t∈l.2,t.2.1.size≤9223372036854775807
def ag4(k:Int)(l:LN):Int:=HD l.1 k l.2
theorem adK{l:LN}{k:Int}(h:lnSz l)(hk:0≤k∧k≤1048576):
  Qb l.1 k l.2=true∧(ltI (ag4 k l) 0=false→ag4 k l=k - l.1.size - l.2.length - aiU l.2∧(l.1.size:Int) + l.2.length + aiU l.2≤k):=by
 obtain⟨h1,h2,h3⟩:=h
 have ha:xR l.1 k=k - (l.1.size:Int):=by simp only [xR];exact bc (by omega) (by omega)
 simp only [ag4,HD,Qb,ha]
 cases e:ltI (k - (l.1.size:Int)) 0 with
 |true=>exact⟨rfl,fun h=>absurd (show ltI (-1) 0=false from h) (by decide)⟩
 |false=>
  have e2:=uQ.1 e
  have t1:leI (-1) (k - (l.1.size:Int))=true:=bv (by omega)
  have t2:leI (k - (l.1.size:Int)) 1048576=true:=bv (by omega)
  refine⟨by simp only [dm h2,t1,t2,allT,Bool.false_or,Bool.and_self,cond_true],?_⟩
  cases e3:ltI (akp (k - (l.1.size:Int)) l.2) 0 with
  |true=>exact fun h=>absurd (show ltI (-1) 0=false from h) (by decide)
  |false=>
   intro _
   obtain⟨q1,q2⟩:=amQ h3 (by omega) e3
   simp only [cond_false]
   omega
def agw:Int→List LN→Int
 |k,[]=>k
 |k,l::r=>bif ltI (ag4 k l) 0 then -1 else agw (ag4 k l) r
def amK(k:Int)(ls:List LN):Int:=bif ltI (k - ls.length) 0 then -1 else agw (k - ls.length) ls
def totL:List LN→Nat
 | []=>0
 |l::r=>l.1.size + l.2.length + aiU l.2 + totL r
def sw(b:ByteArray×(List (Int×(ByteArray×Int)))):(Int)→Nat ⊕ (Int)
 |y1=>(bif(ltI (HD b.1 y1 b.2) (0:Int))then(.inl 0)else(.inr (HD b.1 y1 b.2)))
def rg(y2:List (ByteArray×(List (Int×(ByteArray×Int)))))(i:Nat):(Int)→nU
 |y1=>((i:Int),y1,y2)
def MA:nU→Int
 |(_,y1,_)=>y1
theorem aeY(y2:List (ByteArray×(List (Int×(ByteArray×Int)))))(y1:Int)(hn:y2.length≤9223372036854775807)(hA: ∀ l∈y2,lnSz l)(h1:0≤y1∧y1≤1048576):
  eU.fin ((0:Int),y1,y2)=true∧eU.res ((0:Int),y1,y2)=((af (sw) 1 y2 0 y1).1,(rg y2) (af (sw) 1 y2 0 y1).2.1 (af (sw) 1 y2 0 y1).2.2):=by
 have iY:=eU.along (rg y2) MA (sw) 1 (fun _ a=>0≤a∧a≤1048576) y2 y1 h1 (by simp only [eU,rg];omega) (fun i b a hb hI=> ?_) (fun a hI=> ?_)
 ·exact iY
 ·obtain y1:=a
  have eB:=(List.getElem?_eq_some_iff.1 hb).1
  have gZ: ∀ d,Option.getD y2[i]? d=b:=fun d=>by rw [hb];rfl
  have hw:=sX eB hn
  have bW:ltI (i:Int) (y2.length:Int)=true:=et (by omega)
  have vL:leI (0:Int) (i:Int)=true:=bv (by omega)
  have im:ltN i y2.length=true:=gu eB
  refine⟨?_,?_,?_,?_⟩
  ·have hg2:mF (i:Int) y2=b:=by simp only [mF,Int.toNat_natCast];exact gZ _
   have h3:Dz (i:Int) a y2=true:=by simp only [Dz,hg2];exact(adK (hA b (List.mem_of_getElem? hb)) hI).1
   simp only [za,Iy,Iz,BP,eU,LT.nds,allT,rg,h3,bW,vL,im,Int.toNat_natCast,cond_true,Bool.and_self]
   cases DA (i:Int) a y2 <;> simp [LT.nds]
  ·simp [mF,BF,za,Iy,Iz,Dz,DA,DB,Oc,IA,BP,eU,LT.each,rg,MA,hw]
  ·have hg2:mF (i:Int) y2=b:=by simp only [mF,Int.toNat_natCast];exact gZ _
   simp only [za,DA,IA,BF,BP,eU,LT.fn,rg,MA,sw,bW,hg2,cond_true]
  ·intro a' hf
   have hs:=(adK (hA b (List.mem_of_getElem? hb)) hI).2
   have hf':(bif ltI (ag4 a b) 0 then(.inl 0:Nat ⊕ Int)else .inr (ag4 a b))= .inr a':=hf
   cases e:ltI (ag4 a b) 0 with
   |true=>rw [e]at hf';cases hf'
   |false=>
    rw [e]at hf'
    simp only [cond_false,Sum.inr.injEq]at hf'
    subst hf'
    obtain⟨q1,q2⟩:=hs e
    omega
 ·obtain y1:=a
  simp [mF,BF,za,Iy,Iz,Dz,DA,DB,Oc,IA,BP,eU,LT.out,rg]
theorem alH: ∀ (r:List LN) (i:Nat) (k:Int),(bif Nat.beq (af sw 1 r i k).1 0 then -1 else(af sw 1 r i k).2.2)=agw k r
 | [],i,k=>rfl
 |t::r,i,k=>by
  have hf:sw t k=bif ltI (ag4 k t) 0 then .inl 0 else .inr (ag4 k t):=rfl
  simp only [af,hf,agw]
  cases h:ltI (ag4 k t) 0 with
  |true=>rfl
  |false=>simp only [cond_false];exact alH r (i + 1) _
theorem agx: ∀ (r:List LN) (k:Int),(∀ t∈r,lnSz t)→0≤k→k≤1048576→ltI (agw k r) 0=false→agw k r=k - totL r∧(totL r:Int)≤k
 | [],k,_,h0,h1,_=>by simp [agw,totL];omega
 |t::r,k,hs,h0,h1,h=>by
  have hz:=(adK (hs t (by simp)) ⟨h0,h1⟩).2
  simp only [agw]at h ⊢
  cases h2:ltI (ag4 k t) 0 with
  |true=>rw [h2]at h;exact absurd (show ltI (-1) 0=false from h) (by decide)
  |false=>
   obtain⟨z1,z2⟩:=hz h2
   have h3:=uQ.1 h2
   rw [h2,cond_false]at h
   obtain⟨q1,q2⟩:=agx r _ (fun t ht=>hs t (by simp [ht])) h3 (by omega) h
   rw [cond_false,q1]
   simp only [totL]
   omega
theorem apo(k:Int)(xs:List LN)(hn:xs.length≤9223372036854775807)(hA: ∀ l∈xs,lnSz l)(hk:0≤k∧k≤1048576):
  Fy k xs=amK k xs∧Ju k xs=true:=by
 have hw:IntKind.i64.wrap (k - (xs.length:Int))=k - (xs.length:Int):=bc (by omega) (by omega)
 have e:DB= -1:=rfl
 cases h2:ltI (k - (xs.length:Int)) 0 with
 |true=>simp only [Fy,Ju,Hr,hw,h2,amK,allT,Bool.true_or,cond_true,and_self]
 |false=>
  have h3:=uQ.1 h2
  obtain⟨w1,w2⟩:=aeY xs (k - (xs.length:Int)) hn hA ⟨h3,by omega⟩
  have hs:=alH xs 0 (k - (xs.length:Int))
  simp only [Fy,Ju,Hr,LM,hw,h2,w1,w2,rg,allT,Bool.or_true,cond_true,cond_false,amK,e,hs,and_self]
theorem amL{k:Int}{xs:List LN}(hA: ∀ l∈xs,lnSz l)(hk:k≤1048576)(h:ltI (amK k xs) 0=false):amK k xs=k - xs.length - totL xs∧(xs.length:Int) + totL xs≤k:=by
 simp only [amK]at h ⊢
 cases h2:ltI (k - (xs.length:Int)) 0 with
 |true=>rw [h2]at h;simp at h
 |false=>
  have h3:=uQ.1 h2
  rw [h2,cond_false]at h
  obtain⟨q1,q2⟩:=agx xs _ hA h3 (by omega) h
  rw [cond_false,q1]
  omega
theorem aiw: ∀ {ls:List LN} {l:LN},l∈ls→l.2.length≤totL ls
 |a::r,l,h=>by
  simp only [totL]
  rcases List.mem_cons.1 h with rfl | h
  ·omega
  ·have:=aiw h;omega
structure PrSz (nm:ByteArray) (ins vs os:List ByteArray) (g:ByteArray) (ls:List LN):Prop where
 n:nm.size≤9223372036854775807
 i0:ins.length≤9223372036854775807
 i1: ∀ t∈ins,t.size≤9223372036854775807
 v0:vs.length≤9223372036854775807
 v1: ∀ t∈vs,t.size≤9223372036854775807
 o0:os.length≤9223372036854775807
 o1: ∀ t∈os,t.size≤9223372036854775807
 g0:g.size≤9223372036854775807
 l0:ls.length≤9223372036854775807
 l1: ∀ l∈ls,lnSz l
structure PrFit (nm:ByteArray) (ins vs os:List ByteArray) (g:ByteArray) (ls:List LN) (k z:Int):Prop where
 zz:0≤z∧z≤k
 sum:(nm.size:Int) + ins.length + vs.length + os.length + g.size + ls.length + totL ls + z≤k
 pr:prOk nm ins vs os g ls=true
theorem aiv{l:List ByteArray}(h0:l.length≤9223372036854775807)(h1: ∀ t∈l,t.size≤9223372036854775807):Pf l=true:=by
 simp only [Pf,Bool.and_eq_true,List.all_eq_true]
 exact⟨dm h0,fun t ht=>dm (h1 t ht)⟩
theorem aar{P:Prop}(h:ltI (-1) 0=false):P:=absurd h (by decide)
theorem amM{nm:ByteArray}{ins vs os:List ByteArray}{g:ByteArray}{ls:List LN}(h:PrSz nm ins vs os g ls):
  rt nm g 1048576 ins vs os ls=true∧(ltI (fb nm g 1048576 ins vs os ls) 0=false→PrFit nm ins vs os g ls 1048576 (fb nm g 1048576 ins vs os ls)):=by
 obtain⟨n0,i0,i1,v0,v1,o0,o1,g0,l0,l1⟩:=h
 have a0:cR nm 1048576=1048576 - (nm.size:Int):=by simp only [cR];exact bc (by omega) (by omega)
 cases e0:ltI (1048576 - (nm.size:Int)) 0 with
 |true=>
  simp only [fb,rt,a0,e0,allT,Bool.true_or,cond_true,true_and]
  exact aar
 |false=>
 have z0:=uQ.1 e0
 generalize hk0:1048576 - (nm.size:Int)=k0 at a0 e0 z0
 have t0:leI (-1) k0=true:=bv (by omega)
 have t1:leI k0 1048576=true:=bv (by omega)
 cases e1:ltI (LC k0 ins) 0 with
 |true=>
  simp only [fb,rt,a0,e0,e1,t0,t1,dm i0,allT,Bool.true_or,Bool.or_true,Bool.and_self,cond_true,cond_false,true_and]
  exact aar
 |false=>
 have z1:=uQ.1 e1
 obtain⟨p1,p2⟩:=adL i1 (by omega) e1
 generalize hk1:LC k0 ins=k1 at e1 z1 p1
 have t2:leI (-1) k1=true:=bv (by omega)
 have t3:leI k1 1048576=true:=bv (by omega)
 have a1:DC nm 1048576 ins vs=ltI (LC k1 vs) 0:=by simp only [DC,a0,hk1]
 cases e2:ltI (LC k1 vs) 0 with
 |true=>
  simp only [fb,rt,a0,a1,e0,e1,e2,hk1,t0,t1,t2,t3,dm i0,dm v0,allT,Bool.true_or,Bool.or_true,Bool.and_self,cond_true,cond_false,true_and]
  exact aar
 |false=>
 have z2:=uQ.1 e2
 obtain⟨p3,p4⟩:=adL v1 (by omega) e2
 generalize hk2:LC k1 vs=k2 at e2 z2 p3 a1
 have t4:leI (-1) k2=true:=bv (by omega)
 have t5:leI k2 1048576=true:=bv (by omega)
 have a2:IB nm 1048576 ins vs os=ltI (LC k2 os) 0:=by simp only [IB,a0,hk1,hk2]
 cases e3:ltI (LC k2 os) 0 with
 |true=>
  simp only [fb,rt,a0,a1,a2,e0,e1,e2,e3,hk1,hk2,t0,t1,t2,t3,t4,t5,dm i0,dm v0,dm o0,allT,Bool.true_or,Bool.or_true,Bool.and_self,cond_true,cond_false,true_and]
  exact aar
 |false=>
 have z3:=uQ.1 e3
 obtain⟨p5,p6⟩:=adL o1 (by omega) e3
 generalize hk3:LC k2 os=k3 at e3 z3 p5 a2
 have a3:zb nm g 1048576 ins vs os=k3 - (g.size:Int):=by
  simp only [zb,a0,hk1,hk2,hk3];exact bc (by omega) (by omega)
 cases e4:ltI (k3 - (g.size:Int)) 0 with
 |true=>
  simp only [fb,rt,DD,a0,a1,a2,a3,e0,e1,e2,e3,e4,hk1,hk2,hk3,t0,t1,t2,t3,t4,t5,dm i0,dm v0,dm o0,allT,Bool.true_or,Bool.or_true,Bool.and_self,cond_true,cond_false,true_and]
  exact aar
 |false=>
 have z4:=uQ.1 e4
 obtain⟨s1,s2⟩:=apo (k3 - (g.size:Int)) ls l0 l1 ⟨z4,by omega⟩
 refine⟨by simp only [rt,DD,a0,a1,a2,a3,e0,e1,e2,e3,e4,hk1,hk2,hk3,s2,t0,t1,t2,t3,t4,t5,dm i0,dm v0,dm o0,allT,Bool.true_or,Bool.or_true,Bool.and_self,cond_true,cond_false],?_⟩
 simp only [fb,DD,a0,a1,a2,a3,e0,e1,e2,e3,e4,hk1,hk2,hk3,s1,cond_false]
 cases e5:ltI (amK (k3 - (g.size:Int)) ls) 0 with
 |true=>exact aar
 |false=>
  intro _
  obtain⟨p7,p8⟩:=amL l1 (by omega) e5
  have z5:=uQ.1 e5
  simp only [cond_false]
  refine⟨⟨z5,by omega⟩,by omega,?_⟩
  refine Qp.2 ⟨n0,aiv i0 i1,aiv v0 v1,aiv o0 o1,g0,by omega,?_⟩
  refine Nr.2 ⟨by omega,fun l hl=>⟨(l1 l hl).1,Nx.2 ⟨?_,(l1 l hl).2.2⟩⟩⟩
  have:=aiw hl
  omega
def uH(y1:List (ByteArray×(List (Int×(ByteArray×Int)))))(b:Nat):(List (ByteArray×(List (Int×(ByteArray×Int)))))→Nat ⊕ (List (ByteArray×(List (Int×(ByteArray×Int)))))
 |y2=>(.inr (List.set y2 b ((Option.getD y1[b]? (qA (CTy.pair CTy.str (CTy.sl (175:Nat) afk)))).1,(Option.getD y1[b]? (qA (CTy.pair CTy.str (CTy.sl (175:Nat) afk)))).2)))
def ri(y1:List (ByteArray×(List (Int×(ByteArray×Int)))))(i:Nat):(List (ByteArray×(List (Int×(ByteArray×Int)))))→nW
 |y2=>((i:Int),y1,y2)
def MC:nW→List (ByteArray×(List (Int×(ByteArray×Int))))
 |(_,_,y2)=>y2
theorem ae0(y1 y2:List (ByteArray×(List (Int×(ByteArray×Int)))))(hn:y1.length≤9223372036854775807)(hl:y2.length=y1.length)(hA: ∀ l∈y1,leN l.2.length 1048576=true):
  iq.fin ((0:Int),y1,y2)=true∧iq.res ((0:Int),y1,y2)=((af (uH y1) 0 (List.range y1.length) 0 y2).1,(ri y1) (af (uH y1) 0 (List.range y1.length) 0 y2).2.1 (af (uH y1) 0 (List.range y1.length) 0 y2).2.2):=by
 have iY:=iq.along (ri y1) MC (uH y1) 0 (fun _ a=>a.length=y1.length) (List.range y1.length) y2 hl (by simp only [iq,ri,List.length_range];omega) (fun i b a hb hI=> ?_) (fun a hI=> ?_)
 ·exact iY
 ·obtain y2:=a
  obtain⟨rfl,eB⟩:=oC hb
  have hw:IntKind.i64.wrap ((b:Int) + 1)=((b + 1:Nat):Int):=by rw [bc (by omega) (by omega)];omega
  have bW:ltI (b:Int) (y1.length:Int)=true:=et (by omega)
  have vL:leI (0:Int) (b:Int)=true:=bv (by omega)
  have im:ltN b y1.length=true:=gu (by omega)
  refine⟨?_,?_,?_,?_⟩
  ·have Fl: ∀ d:LN,(Option.getD y1[b]? d)∈y1:=fun d=>by rw [List.getElem?_eq_getElem eB];exact List.getElem_mem eB
   have h3:zf (b:Int) y1=true:=by simp only [zf,TV,th,Int.toNat_natCast,allT];exact congrArg (fun z:Bool=>bif z then true else false) (hA _ (Fl _))
   simp only [zd,ze,DJ,DK,DL,BR,iq,LT.nds,allT,ri,h3,hI,bW,vL,im,Int.toNat_natCast,cond_true,Bool.and_self]
  ·simp [th,zd,ze,DJ,zf,DK,DL,IF,IG,BR,iq,LT.each,ri,MC,hw,hI]
  ·simp only [th,zd,ze,DJ,zf,DK,DL,IF,IG,BR,iq,LT.fn,ri,MC,uH,Int.toNat_natCast,bW,cond_true]
  ·intro a' hf;simp only [uH,Sum.inr.injEq]at hf;subst hf;simpa using hI
 ·obtain y2:=a
  simp [th,zd,ze,DJ,zf,DK,DL,IF,IG,BR,iq,LT.out,ri,List.length_range]
def yP(y1 y2:List (ByteArray×(List (Int×(ByteArray×Int)))))(b:Nat):(Unit)→Nat ⊕ (Unit)
 |_=>(bif(!Lv ((Option.getD y1[b]? (qA (CTy.pair CTy.str (CTy.sl (178:Nat) afk)))).1) ((Option.getD y2[b]? (qA (CTy.pair CTy.str (CTy.sl (178:Nat) afk)))).1) ((Option.getD y1[b]? (qA (CTy.pair CTy.str (CTy.sl (178:Nat) afk)))).2) ((Option.getD y2[b]? (qA (CTy.pair CTy.str (CTy.sl (178:Nat) afk)))).2))then(.inl 0)else(.inr ()))
def tD(y1 y2:List (ByteArray×(List (Int×(ByteArray×Int)))))(i:Nat):(Unit)→nR
 |_=>((i:Int),y1,y2)
def My:nR→Unit
 |(_,_,_)=>()
theorem aeW(y1 y2:List (ByteArray×(List (Int×(ByteArray×Int))))) (hn:y1.length≤9223372036854775807) (he:y2.length=y1.length) (hA: ∀ l∈y1,leN l.2.length 9223372036854775807=true):
  gp.fin ((0:Int),y1,y2)=true∧gp.res ((0:Int),y1,y2)=((af (yP y1 y2) 1 (List.range y1.length) 0 ()).1,(tD y1 y2) (af (yP y1 y2) 1 (List.range y1.length) 0 ()).2.1 (af (yP y1 y2) 1 (List.range y1.length) 0 ()).2.2):=by
 have iY:=gp.along (tD y1 y2) My (yP y1 y2) 1 (fun _ _=>True) (List.range y1.length) () (by trivial) (by simp only [gp,tD,List.length_range];omega) (fun i b a hb hI=> ?_) (fun a hI=> ?_)
 ·exact iY
 ·obtain⟨⟩:=a
  obtain⟨rfl,eB⟩:=oC hb
  have hw:IntKind.i64.wrap ((b:Int) + 1)=((b + 1:Nat):Int):=by rw [bc (by omega) (by omega)];omega
  have bW:ltI (b:Int) (y1.length:Int)=true:=et (by omega)
  have vL:leI (0:Int) (b:Int)=true:=bv (by omega)
  have im:ltN b y1.length=true:=gu (by omega)
  refine⟨?_,?_,?_,?_⟩
  ·have Fl: ∀ d:LN,(Option.getD y1[b]? d)∈y1:=fun d=>by rw [List.getElem?_eq_getElem eB];exact List.getElem_mem eB
   have h5:yX (b:Int) y1 y2=true:=by
    have q:leN (List.length ((oH (b:Int) y1).2)) 9223372036854775807=true:=by simp only [oH,Int.toNat_natCast];exact hA _ (Fl _)
    simp only [yX,TU,q,allT,Bool.or_true,cond_true]
   simp only [yV,yW,Dm,Dn,Do,BN,gp,LT.nds,allT,tD,h5,he,bW,vL,im,Int.toNat_natCast,cond_true,Bool.and_self]
   cases Dp (b:Int) y1 y2 <;> simp [LT.nds]
  ·simp [oH,wO,yV,yW,Dm,Dn,Do,yX,Dp,Ip,BN,gp,LT.each,tD,My,hw,he]
  ·simp only [oH,wO,yV,yW,Dm,Dn,Do,yX,Dp,Ip,BN,gp,LT.fn,tD,My,yP,Int.toNat_natCast,bW,cond_true]
  ·exact fun _ _=>trivial
 ·obtain⟨⟩:=a
  simp [oH,wO,yV,yW,Dm,Dn,Do,yX,Dp,Ip,BN,gp,LT.out,tD,List.length_range]
theorem amR(xs:List LN)(hn:xs.length≤1048576)(hA: ∀ l∈xs,leN l.2.length 1048576=true):Jv xs=xs∧Od xs=true:=by
 have hr:(List.replicate (Int.toNat (xs.length:Int)) (((⟨#[]⟩:ByteArray),[]):LN)).length=xs.length:=by simp
 obtain⟨w1,w2⟩:=ae0 xs (List.replicate (Int.toNat (xs.length:Int)) (((⟨#[]⟩:ByteArray),[]):LN)) (by omega) hr hA
 have hc:=Vp (C:=LN) (xs:=xs) (d:=qA (CTy.pair CTy.str (CTy.sl (175:Nat) afk))) (g:=fun x:LN=>(x.1,x.2)) (f:=uH xs) (e:=0) (fun b a=>rfl) hr
 have kC:xs.map (fun x:LN=>(x.1,x.2))=xs:=List.map_id' xs
 rw [kC]at hc
 rw [hc]at w2
 refine⟨?_,?_⟩
 ·simp only [Jv,vV,LU,w2,ri]
 ·have q1:leI 0 (xs.length:Int)=true:=bv (by omega)
  have q2:leI (xs.length:Int) (xs.length:Int)=true:=bv (by omega)
  have q3:leI (((40:Nat):Int) * (xs.length:Int)) 281474976710656=true:=bv (by omega)
  have q4:leI (xs.length:Int) 9223372036854775807=true:=bv (by omega)
  simp only [Od,vV,LU,w1,q1,q2,q3,q4,allT,cond_true]
theorem ajO(xs:List LN)(hn:xs.length≤9223372036854775807)(hA: ∀ l∈xs,leN l.2.length 9223372036854775807=true):NW xs xs=true∧NX xs xs=true:=by
 obtain⟨w1,w2⟩:=aeW xs xs hn rfl hA
 have h3: ∀ a:LN,(!Lv a.1 a.1 a.2 a.2)=false:=fun a=>by simp [Lv,RU,anz]
 rw [iQ (P:=fun _=>false) (j:=0) (fun b=>by simp only [yP,h3])]at w2
 have hf:((List.range xs.length).any fun _=>false)=false:=by simp
 rw [hf]at w2
 have a0:LJ xs xs=false:=by simp [LJ]
 simp only [NW,NX,QI,a0,w1,w2,allT]
 simp [Nat.beq]
theorem anQ{nm:ByteArray}{ins vs os:List ByteArray}{g:ByteArray}{ls:List LN}(h:PrSz nm ins vs os g ls):
  Kh nm g nm g ins vs os ls ins vs os ls=true∧Ki nm g nm g ins vs os ls ins vs os ls=true:=by
 obtain⟨e1,e2⟩:=ajO ls h.l0 (fun l hl=>dm (h.l1 l hl).2.1)
 have a0:uO nm nm=false:=by simp [uO]
 have a1:Iq g g=false:=by simp [Iq]
 simp only [Kh,Ki,a0,a1,anw,e1,e2,dm h.i0,dm h.v0,dm h.o0,allT,Bool.not_true,Bool.or_true,cond_true,cond_false,and_self]
theorem apf{nm:ByteArray}{ins vs os:List ByteArray}{g:ByteArray}{ls:List LN}{z:Int}(h:PrFit nm ins vs os g ls 1048576 z)(h2:PrSz nm ins vs os g ls):
  Jv ls=ls∧dz ls=ls∧AM ins vs os ls=true:=by
 have hs:=h.sum
 have hz:=h.zz
 obtain⟨t1,t2⟩:=amR ls (by omega) (fun l hl=>by have:=aiw hl;exact dm (by omega))
 refine⟨t1,t1,?_⟩
 simp only [AM,t2,dm (show ins.length≤1048576 by omega),dm (show vs.length≤1048576 by omega),dm (show os.length≤1048576 by omega),allT,cond_true]
abbrev pA:=Int×Int×List (ByteArray×(List (Int×(ByteArray×Int))))
def qD(y0 y1:Int)(y2:List (ByteArray×(List (Int×(ByteArray×Int))))):List (ByteArray×List (Int×ByteArray×Int)):=List.set y2 y0.toNat (nz y1,(Option.getD y2[Int.toNat y0]? (qA (CTy.pair CTy.str (CTy.sl (178:Nat) afk)))).2)
def xP(y1:Int):Int:=IntKind.wrap .i64 (y1 + (1:Int))
def qE(y0 y1:Int)(y2:List (ByteArray×(List (Int×(ByteArray×Int))))):ByteArray×List (Int×ByteArray×Int):=Option.getD (qD y0 y1 y2)[Int.toNat y0]? (qA (CTy.pair CTy.str (CTy.sl (178:Nat) afk)))
def EI(y0:Int)(y2:List (ByteArray×(List (Int×(ByteArray×Int))))):Bool:=ltI y0 (↑y2.length:Int)
def Rg(y1:Int):Bool:=leI (0:Int) y1&&leI y1 (9223372036854775807:Int)
def KM(y0:Int):Bool:=leI (0:Int) y0
def Rh(y0:Int)(y2:List (ByteArray×(List (Int×(ByteArray×Int))))):Bool:=ltN y0.toNat y2.length
def Ri(y0 y1:Int)(y2:List (ByteArray×(List (Int×(ByteArray×Int))))):Bool:=ltI y0 (↑(List.length (qD y0 y1 y2)):Int)
def Rj(y0 y1:Int)(y2:List (ByteArray×(List (Int×(ByteArray×Int))))):Bool:=ltN y0.toNat (List.length (qD y0 y1 y2))
def KN(y0 y1:Int)(y2:List (ByteArray×(List (Int×(ByteArray×Int))))):Bool:=ala (3:Nat) (xP y1) (List.length ((qE y0 y1 y2).2))&&leN (List.length ((qE y0 y1 y2).2)) (9223372036854775807:Nat)
def Rk(y0:Int):Int:=IntKind.wrap .i64 (y0 + (1:Int))
def zL(y0 y1:Int)(y2:List (ByteArray×(List (Int×(ByteArray×Int))))):Int:=xP y1 + (3:Int) * (↑(List.length ((qE y0 y1 y2).2)):Int)
def zM(y0 y1:Int)(y2:List (ByteArray×(List (Int×(ByteArray×Int))))):List (ByteArray×(List (Int×(ByteArray×Int)))):=List.set (qD y0 y1 y2) y0.toNat ((qE y0 y1 y2).1,Po (xP y1) ((qE y0 y1 y2).2))
def YG:pA→List (Nat×SV)
 |(y0,y1,_)=> [(5,(.one ⟨false,[.val (.int .i64 y0)]⟩)),(0,(.one ⟨false,[.ref 0]⟩)),(1,(.one ⟨false,[.val (.int .i64 y1)]⟩))]
def Yw:pA→List (Nat×Entry)
 |(_,_,y2)=> [(0,(.tree 204 (CTy.pair CTy.str (CTy.sl (178:Nat) afk)) y2 none))]
def Zj:Nat→pA→List (Nat×SV)
 |_,(_,y1,_)=> [(1,(.one ⟨false,[.val (.int .i64 y1)]⟩))]
def YZ:Nat→pA→List (Nat×Entry)
 |_,(_,_,y2)=> [(0,(.tree 204 (CTy.pair CTy.str (CTy.sl (178:Nat) afk)) y2 none))]
def xU:pA→LT pA
 |(y0,y1,y2)=> .ite (EI y0 y2) (.need [Rg y1,KM y0,EI y0 y2,Rh y0 y2] (.need [KM y0,Ri y0 y1 y2,Rj y0 y1 y2,KN y0 y1 y2] (.nrm ((Rk y0),zL y0 y1 y2,(zM y0 y1 y2)) [(0,0)]))) (.ext 0 [(0,0)])
def JN(s:St):Option pA:=
 (match s.look 5 with
 |some ⟨none,.one ⟨false,[.val (.int .i64 y0)]⟩⟩=>
 (match s.look 0 with
 |some ⟨none,.one ⟨false,[.ref 0]⟩⟩=>
 (match s.look 1 with
 |some ⟨none,.one ⟨false,[.val (.int .i64 y1)]⟩⟩=>
 (match s.ent 0 with
 |some (.tree 204 (.pair .str (.sl (178:Nat) (.pair (.int .i64) (.pair .str (.int .i64))))) y2 none)=>
 some (y0,y1,y2)
 |_=>none)
 |_=>none)
 |_=>none)
 |_=>none)
def gF:Lp pA where
 h:=⟨[6,7,8,9,12,13,14,15,16,17,18,19,1,20,21,22,23,24,25,26,10,11,5],[0],[],[]⟩
 JL:=YG
 JE:=Yw
 XL:=Zj
 XE:=YZ
 q:=fun j=>match j with | _=> .exit 0
 tags:= [0]
 lt:=xU
 fuel:=fun(y0,y1,y2)=>y0.natAbs + y1.natAbs + y2.length
 fix:=fun(_,_,_) (y0,y1,y2)=>(y0,y1,y2)
 σ:= [(0,0)]
 rd:=JN
theorem VY:LoopOk prog (fun k=>Nat.blt k Tryz.f138.ntmps) gF.F (aL f138 0):=by
 refine Lp.ok (tbl:= [PF.trees prog,LX,AP,PF.lend AP,PF.fz AP]) (lf:= []) aP gF (by kernel_rfl) (LOk.nil _) (fun _=>rfl) (fun _ _=>rfl) ?_ ?_ ?_ ?_ (fun _=>rfl) ?_
 ·rintro⟨y0,y1,y2⟩;kernel_rfl
 ·rintro⟨y0,y1,y2⟩;kernel_rfl
 ·intro s x h
  have h:JN s=some x:=h
  unfold JN at h
  repeat' split at h
  all_goals cases h
  exact⟨aa (by assumption) rfl (aa (by assumption) rfl (aa (by assumption) rfl (rfl))),ab rfl (by assumption) rfl (rfl)⟩
 ·rintro⟨y0,y1,y2⟩;kernel_rfl
 ·rintro⟨y0,y1,y2⟩ z;exact(And.intro rfl trivial)
section
variable (x0:Int)(x1:List (ByteArray×List (Int×ByteArray×Int)))
def Iu:Int×Int×List (ByteArray×List (Int×ByteArray×Int)):=((0:Int),x0,x1)
def Oa:Int×List (ByteArray×List (Int×ByteArray×Int)):=(Lp.res gF (Iu x0 x1)).2.2
def Kl:Int:=(Oa x0 x1).1
def UX:List (ByteArray×(List (Int×(ByteArray×Int)))):=(Oa x0 x1).2
def Km:Bool:=allT [Lp.fin gF (Iu x0 x1)]
end
def Ur:List SV→List Entry→Option Out
 | [.one ⟨false,[.ref 0]⟩,.one ⟨false,[.val (.int .i64 x0)]⟩],[.tree 204 (.pair (.str) (.sl 178 (.pair (.int .i64) (.pair (.str) (.int .i64))))) x1 none]=>some ⟨.one ⟨false,[.val (.int .i64 (Kl x0 x1))]⟩,[.tree 204 (CTy.pair CTy.str (CTy.sl (178:Nat) afk)) (UX x0 x1) none],[],[Km x0 x1]⟩
 |_,_=>none
def PK:PF prog:=PF.ofG prog [PF.trees prog,LX,AP,PF.lend AP,PF.fz AP] [gF.F] aP 138 f138 func138 (LOk.fnT (l:= [aL f138 0]) (by kernel_rfl) (.cons VY (.nil _))) Ur (by
 intro vs es r h;unfold Ur at h;split at h
 ·cases h;kernel_rfl
 ·cases h)
section
variable (x2:Int)(x3 x4 x5:List ByteArray)(x6:List (ByteArray×List (Int×ByteArray×Int)))
def qF:Int:=Kl (da (da (da x2 x3) x4) x5) x6
def ac0:List ByteArray:=GM x2 x3
def ac1:List ByteArray:=GM (da x2 x3) x4
def ac2:List ByteArray:=GM (da (da x2 x3) x4) x5
def ac3:List (ByteArray×(List (Int×(ByteArray×Int)))):=UX (da (da (da x2 x3) x4) x5) x6
def GL:Bool:=allT [wP x2 x3,wP (da x2 x3) x4,wP (da (da x2 x3) x4) x5,Km (da (da (da x2 x3) x4) x5) x6]
end
def RE:List SV→List Entry→Option Out
 | [.one ⟨true,[.val (.string _x0),.ref 0,.ref 1,.ref 2,.val (.string _x1),.ref 3]⟩,.one ⟨false,[.val (.int .i64 x2)]⟩],[.row true 9 (.str) x3,.row true 9 (.str) x4,.row true 9 (.str) x5,.tree 204 (.pair (.str) (.sl 178 (.pair (.int .i64) (.pair (.str) (.int .i64))))) x6 none]=>some ⟨.one ⟨false,[.val (.int .i64 (qF x2 x3 x4 x5 x6))]⟩,[.row true 9 ahF (ac0 x2 x3),.row true 9 ahF (ac1 x2 x3 x4),.row true 9 ahF (ac2 x2 x3 x4 x5),.tree 204 (CTy.pair CTy.str (CTy.sl (178:Nat) afk)) (ac3 x2 x3 x4 x5 x6) none],[],[GL x2 x3 x4 x5 x6]⟩
 |_,_=>none
def Mw:PF prog:=PF.ofG prog [PF.trees prog,Mx,PF.lend Mx,PF.fz Mx,PK,PF.lend PK,PF.fz PK] [] aP 63 f63 func63 (fun c _=>LOk.nil c) RE (by
 intro vs es r h;unfold RE at h;split at h
 ·cases h;kernel_rfl
 ·cases h)
theorem af2{A B:Type}(f:B→A→Nat ⊕ A)(e:Nat)(Inv:Nat→A→Prop): ∀ (xs:List B) (i:Nat) (a:A),Inv i a→(∀ j b a,xs[j]? =some b→Inv (i + j) a→ ∃ a',f b a= .inr a'∧Inv (i + j + 1) a')→
  (af f e xs i a).1=e∧(af f e xs i a).2.1=i + xs.length∧Inv (i + xs.length) (af f e xs i a).2.2
 | [],i,a,h,_=>⟨rfl,rfl,h⟩
 |b::r,i,a,h,hs=>by
  obtain⟨a',h1,h2⟩:=hs 0 b a rfl h
  have ih:=af2 f e Inv r (i + 1) a' h2 (fun j b a hb hI=>by
   have:=hs (j + 1) b a (by simpa using hb) (by rw [show i + (j + 1)=i + 1 + j by omega];exact hI)
   rw [show i + (j + 1) + 1=i + 1 + j + 1 by omega]at this
   exact this)
  simp only [af,h1,List.length_cons]
  rw [show i + (r.length + 1)=i + 1 + r.length by omega]
  exact ih
theorem afr(k:Int)(xs:List ByteArray)(h0:0≤k)(h1:k + xs.length≤9000000000000000000)(hn:xs.length≤1048576):da k xs=k + xs.length∧wP k xs=true:=by
 have hst: ∀ i b (a:Int×List ByteArray),(List.range xs.length)[i]? =some b→(a.2.length=xs.length∧0≤a.1∧a.1 + ((xs.length - i:Nat):Int)=k + xs.length)→
   ∃ a',(fun(b:Nat) (a:Int×List ByteArray)=>(.inr (wm a.1,wn (b:Int) a.1 a.2):Nat ⊕ (Int×List ByteArray))) b a= .inr a'∧(a'.2.length=xs.length∧0≤a'.1∧a'.1 + ((xs.length - (i + 1):Nat):Int)=k + xs.length):=by
  intro i b a hb hI
  obtain⟨rfl,eB⟩:=oC hb
  obtain⟨i1,i2,i3⟩:=hI
  refine⟨_,rfl,?_⟩
  have hw:IntKind.i64.wrap (a.1 + 1)=a.1 + 1:=bc (by omega) (by omega)
  simp only [wm,wn,List.length_set,hw]
  refine⟨i1,by omega,by omega⟩
 have iY:=eP.along2 (fun i (a:Int×List ByteArray)=>((i:Int),a.1,a.2)) (fun x=>x.2) (fun(b:Nat) (a:Int×List ByteArray)=> .inr (wm a.1,wn (b:Int) a.1 a.2)) 0
  (fun i a=>a.2.length=xs.length∧0≤a.1∧a.1 + ((xs.length - i:Nat):Int)=k + xs.length) (List.range xs.length) (k,xs) ⟨rfl,h0,by simp⟩ (by rw [List.length_range];omega) (fun i b a hb hI=> ?_) (fun a hI=> ?_)
 ·obtain⟨_,q1,q2,q3,q4⟩:=af2 (fun(b:Nat) (a:Int×List ByteArray)=>(.inr (wm a.1,wn (b:Int) a.1 a.2):Nat ⊕ (Int×List ByteArray))) 0
   (fun i a=>a.2.length=xs.length∧0≤a.1∧a.1 + ((xs.length - i:Nat):Int)=k + xs.length) (List.range xs.length) 0 (k,xs) ⟨rfl,h0,by simp⟩ (fun j b a hb hI=>by rw [Nat.zero_add]at hI ⊢;exact hst j b a hb hI)
  obtain⟨w1,w2⟩:=iY
  refine⟨?_,?_⟩
  ·have w2':eP.res ((0:Int),k,xs)=_:=w2
   simp only [da,KO,EJ,w2']
   rw [Nat.zero_add,List.length_range,Nat.sub_self]at q4
   simpa using q4
  ·have w1':eP.fin ((0:Int),k,xs)=true:=w1
   simp only [wP,EJ,w1',allT,cond_true]
 ·obtain⟨a',ha,hI'⟩:=hst i b a hb hI
  obtain⟨rfl,eB⟩:=oC hb
  obtain⟨i1,i2,i3⟩:=hI
  have hw:IntKind.i64.wrap ((b:Int) + 1)=((b + 1:Nat):Int):=by rw [bc (by omega) (by omega)];omega
  have c0:CF (b:Int) a.2=true:=et (by omega)
  have c1:OW a.1=true:=(Bool.and_eq_true _ _).mpr ⟨bv (by omega),bv (by omega)⟩
  have c2:OX (b:Int)=true:=bv (by omega)
  have c3:OY (b:Int) a.2=true:=gu (by simp only [Int.toNat_natCast];omega)
  have c4:OZ (b:Int)=((b + 1:Nat):Int):=hw
  refine⟨?_,?_,?_,fun a'' hf=> ?_⟩
  ·simp only [eP,uU,LT.nds,allT,c0,c1,c2,c3,cond_true,Bool.and_self]
  ·simp only [eP,uU,LT.each,c0,c4,Bool.and_true,and_self]
  ·simp only [eP,uU,LT.fn,c0,cond_true]
  ·have hq:=ha.symm.trans hf
   simp only [Sum.inr.injEq]at hq
   subst hq
   exact hI'
 ·have bW:CF (((List.range xs.length).length:Nat):Int) a.2=false:=Pa (by rw [List.length_range];have:=hI.1;omega)
  simp only [eP,uU,LT.out,bW]
  rfl
def mkL:List LN→Nat
 | []=>0
 |l::r=>1 + 3 * l.2.length + mkL r
theorem aoy: ∀ ls:List LN,mkL ls≤ls.length + 3 * totL ls
 | []=>by simp [mkL]
 |l::r=>by have:=aoy r;simp only [mkL,totL,List.length_cons];omega
def an1(ls:List LN)(K:Int)(i:Nat)(a:Int×List LN):Prop:=a.2.length=ls.length∧a.2.drop i=ls.drop i∧0≤a.1∧a.1 + (mkL (ls.drop i):Nat)=K
def ao6(b:Nat)(a:Int×List LN):Nat ⊕ (Int×List LN):= .inr (zL (b:Int) a.1 a.2,zM (b:Int) a.1 a.2)
theorem ak9{ls:List LN}{K:Int}{i:Nat}{a:Int×List LN}(eB:i < ls.length)(hK:K≤9000000000000000000)(hI:an1 ls K i a):
  (KN (i:Int) a.1 a.2=true∧(qD (i:Int) a.1 a.2).length=ls.length∧a.1≤9000000000000000000)∧an1 ls K (i + 1) (zL (i:Int) a.1 a.2,zM (i:Int) a.1 a.2):=by
 obtain⟨i1,i2,i3,i4⟩:=hI
 have hd:ls.drop i=ls[i]::ls.drop (i + 1):=List.drop_eq_getElem_cons eB
 have hm:mkL (ls.drop i)=1 + 3 * ls[i].2.length + mkL (ls.drop (i + 1)):=by rw [hd];rfl
 have hg:a.2[i]? =some ls[i]:=by
  have h1:(a.2.drop i)[0]? =a.2[i]? :=by rw [List.getElem?_drop];rfl
  rw [← h1,i2,hd];rfl
 have gZ: ∀ d:LN,Option.getD a.2[i]? d=ls[i]:=fun d=>by rw [hg];rfl
 have hA0:qD (i:Int) a.1 a.2=List.set a.2 i (nz a.1,ls[i].2):=by
  simp only [qD,Int.toNat_natCast];exact congrArg (fun z:LN=>List.set a.2 i (nz a.1,z.2)) (gZ _)
 have hA1:xP a.1=a.1 + 1:=by simp only [xP];exact bc (by omega) (by omega)
 have hq: ∀ (t:LN) (d:LN),Option.getD (List.set a.2 i t)[i]? d=t:=fun t d=>by rw [List.getElem?_set_self (by omega)];rfl
 have hA2:qE (i:Int) a.1 a.2=(nz a.1,ls[i].2):=by
  simp only [qE,hA0,Int.toNat_natCast];exact hq _ _
 refine⟨⟨?_,by rw [hA0,List.length_set];exact i1,by omega⟩,?_,?_,?_,?_⟩
 ·simp only [KN,hA1,hA2]
  rw [ajk.2 ⟨by omega,by omega⟩,dm (by omega)];rfl
 ·simp only [zM,hA0,List.length_set];exact i1
 ·simp only [zM,hA0,Int.toNat_natCast]
  rw [List.drop_set,if_pos (by omega),List.drop_set,if_pos (by omega),← List.drop_drop,i2,List.drop_drop]
 ·simp only [zL,hA1,hA2];omega
 ·simp only [zL,hA1,hA2];omega
theorem aow(k:Int)(ls:List LN)(h0:0≤k)(h1:k + (mkL ls:Nat)≤9000000000000000000)(hn:ls.length≤1048576):Kl k ls=k + (mkL ls:Nat)∧Km k ls=true:=by
 have hi0:an1 ls (k + (mkL ls:Nat)) 0 (k,ls):=⟨rfl,rfl,h0,rfl⟩
 have iY:=gF.along2 (fun i (a:Int×List LN)=>((i:Int),a.1,a.2)) (fun x=>x.2) ao6 0 (an1 ls (k + (mkL ls:Nat))) (List.range ls.length) (k,ls) hi0 (by rw [List.length_range];omega) (fun i b a hb hI=> ?_) (fun a hI=> ?_)
 ·obtain⟨_,q1,q2⟩:=af2 ao6 0 (an1 ls (k + (mkL ls:Nat))) (List.range ls.length) 0 (k,ls) hi0 (fun j b a hb hI=>by
   obtain⟨rfl,eB⟩:=oC hb
   rw [Nat.zero_add]at hI ⊢
   exact⟨_,rfl,(ak9 eB h1 hI).2⟩)
  obtain⟨w1,w2⟩:=iY
  refine⟨?_,?_⟩
  ·have w2':gF.res ((0:Int),k,ls)=_:=w2
   simp only [Kl,Oa,Iu,w2']
   have q4:=q2.2.2.2
   rw [Nat.zero_add,List.length_range,List.drop_length]at q4
   simpa [mkL] using q4
  ·have w1':gF.fin ((0:Int),k,ls)=true:=w1
   simp only [Km,Iu,w1',allT,cond_true]
 ·obtain⟨rfl,eB⟩:=oC hb
  obtain⟨⟨s1,s2,s3⟩,s4⟩:=ak9 eB h1 hI
  obtain⟨i1,i2,i3,i4⟩:=hI
  have hw:IntKind.i64.wrap ((b:Int) + 1)=((b + 1:Nat):Int):=by rw [bc (by omega) (by omega)];omega
  have c0:EI (b:Int) a.2=true:=et (by omega)
  have c1:Rg a.1=true:=(Bool.and_eq_true _ _).mpr ⟨bv (by omega),bv (by omega)⟩
  have c2:KM (b:Int)=true:=bv (by omega)
  have c3:Rh (b:Int) a.2=true:=gu (by simp only [Int.toNat_natCast];omega)
  have c4:Ri (b:Int) a.1 a.2=true:=et (by omega)
  have c5:Rj (b:Int) a.1 a.2=true:=gu (by simp only [Int.toNat_natCast];omega)
  have c7:Rk (b:Int)=((b + 1:Nat):Int):=hw
  refine⟨?_,?_,?_,fun a'' hf=> ?_⟩
  ·simp only [gF,xU,LT.nds,allT,c0,c1,c2,c3,c4,c5,s1,cond_true,Bool.and_self]
  ·simp only [gF,xU,LT.each,c0,c7,Bool.and_true,and_self]
  ·simp only [gF,xU,LT.fn,c0,cond_true,ao6]
  ·simp only [ao6,Sum.inr.injEq]at hf
   subst hf
   exact s4
 ·have bW:EI (((List.range ls.length).length:Nat):Int) a.2=false:=Pa (by rw [List.length_range];have:=hI.1;omega)
  simp only [gF,xU,LT.out,bW]
  rfl
theorem amt{nm:ByteArray}{ins vs os:List ByteArray}{g:ByteArray}{ls:List LN}{z:Int}(h:PrFit nm ins vs os g ls 1048576 z):
  GL 1 ins vs os ls=true∧0≤qF 1 ins vs os ls∧qF 1 ins vs os ls≤5000000:=by
 have hs:=h.sum
 have hz:=h.zz
 have hm:=aoy ls
 obtain⟨a1,a2⟩:=afr 1 ins (by omega) (by omega) (by omega)
 obtain⟨b1,b2⟩:=afr (1 + ins.length) vs (by omega) (by omega) (by omega)
 obtain⟨c1,c2⟩:=afr (1 + ins.length + vs.length) os (by omega) (by omega) (by omega)
 obtain⟨d1,d2⟩:=aow (1 + ins.length + vs.length + os.length) ls (by omega) (by omega) (by omega)
 simp only [GL,qF,a1,a2,b1,b2,c1,c2,d1,d2,allT,cond_true,true_and]
 omega
section
variable (x0 x1:ByteArray)(x2 x3 x4:List ByteArray)(x5:List (ByteArray×List (Int×ByteArray×Int)))(x6:List (List Int))
def aJ:Bool:=ltI (fb x0 x1 (1048576:Int) x2 x3 x4 x5) (0:Int)
def aO:Bool:=ltI (amO (fb x0 x1 (1048576:Int) x2 x3 x4 x5) x6) (0:Int)
def qp:Bool:= !VR (rgO x0 x2 x3 x4 x1 (dz x5) x6) (rgO x0 x2 x3 x4 x1 (dz x5) x6)
def nB:Bool:=rgC x0 x2 x3 x4 x1 (dz x5) x6 !=rgC x0 x2 x3 x4 x1 (dz x5) x6
def bm:Bool:=bif qp x0 x1 x2 x3 x4 x5 x6 then true else nB x0 x1 x2 x3 x4 x5 x6
def bF:Bool:= !Kh x0 x1 x0 x1 x2 x3 x4 (dz x5) x2 x3 x4 (dz x5)
def nC:Bool:=ltI (qF (1:Int) x2 x3 x4 (dz x5) + (↑(xh x6):Int)) (0:Int)
def dH:Bool:=bif bif nC x2 x3 x4 x5 x6 then true else qp x0 x1 x2 x3 x4 x5 x6 then true else nB x0 x1 x2 x3 x4 x5 x6
def jb:List (List Int):=bif !nC x2 x3 x4 x5 x6&&true then rgO x0 x2 x3 x4 x1 (dz x5) x6 else rgO x0 x2 x3 x4 x1 (dz x5) x6
def qq:List (List Int):=Rw (1:Int) (jb x0 x1 x2 x3 x4 x5 x6)
def po:Int:=TJ (1:Int) (qq x0 x1 x2 x3 x4 x5 x6)
def eC:Bool:=ltI (po x0 x1 x2 x3 x4 x5 x6) (0:Int)
def eD:Bool:=po x0 x1 x2 x3 x4 x5 x6 !=(1:Int) + (↑(xh (jb x0 x1 x2 x3 x4 x5 x6)):Int)
def pp:Bool:=bif !VR (rgO x0 x2 x3 x4 x1 (dz x5) x6) (jb x0 x1 x2 x3 x4 x5 x6)then true else nB x0 x1 x2 x3 x4 x5 x6
def pq:Bool:=aJ x0 x1 x2 x3 x4 x5||(aO x0 x1 x2 x3 x4 x5 x6||AM x2 x3 x4 x5)
def pt:Bool:=aJ x0 x1 x2 x3 x4 x5||(aO x0 x1 x2 x3 x4 x5 x6||SM (1048576:Nat) x6)
def pu:Bool:=aJ x0 x1 x2 x3 x4 x5||(aO x0 x1 x2 x3 x4 x5 x6||rgN x0 x2 x3 x4 x1 (dz x5) x6)
def mE:Bool:=SM (9223372036854775807:Nat) (rgO x0 x2 x3 x4 x1 (dz x5) x6)
def pv:Bool:=SM (9223372036854775807:Nat) (qq x0 x1 x2 x3 x4 x5 x6)
def uM:Bool:=bif aJ x0 x1 x2 x3 x4 x5 then true else bif aO x0 x1 x2 x3 x4 x5 x6 then true else bif bm x0 x1 x2 x3 x4 x5 x6 then false else bif bF x0 x1 x2 x3 x4 x5 then false else bif !VR x6 x6 then false else bif dH x0 x1 x2 x3 x4 x5 x6 then false else bif eC x0 x1 x2 x3 x4 x5 x6 then false else bif eD x0 x1 x2 x3 x4 x5 x6 then false else bif pp x0 x1 x2 x3 x4 x5 x6 then false else bif eC x0 x1 x2 x3 x4 x5 x6 then false else bif eD x0 x1 x2 x3 x4 x5 x6 then false else true
def uN:Bool:=allT [rt x0 x1 (1048576:Int) x2 x3 x4 x5,aJ x0 x1 x2 x3 x4 x5||SM (9223372036854775807:Nat) x6&&(leI (-1:Int) (fb x0 x1 (1048576:Int) x2 x3 x4 x5)&&leI (fb x0 x1 (1048576:Int) x2 x3 x4 x5) (1048576:Int)),pq x0 x1 x2 x3 x4 x5 x6,pt x0 x1 x2 x3 x4 x5 x6,pu x0 x1 x2 x3 x4 x5 x6,pq x0 x1 x2 x3 x4 x5 x6,pt x0 x1 x2 x3 x4 x5 x6,pu x0 x1 x2 x3 x4 x5 x6,aJ x0 x1 x2 x3 x4 x5||(aO x0 x1 x2 x3 x4 x5 x6||mE x0 x1 x2 x3 x4 x5 x6),aJ x0 x1 x2 x3 x4 x5||(aO x0 x1 x2 x3 x4 x5 x6||(bm x0 x1 x2 x3 x4 x5 x6||AM x2 x3 x4 x5)),aJ x0 x1 x2 x3 x4 x5||(aO x0 x1 x2 x3 x4 x5 x6||(bm x0 x1 x2 x3 x4 x5 x6||Ki x0 x1 x0 x1 x2 x3 x4 (dz x5) x2 x3 x4 (dz x5))),aJ x0 x1 x2 x3 x4 x5||(aO x0 x1 x2 x3 x4 x5 x6||(bm x0 x1 x2 x3 x4 x5 x6||(bF x0 x1 x2 x3 x4 x5||SM (1048576:Nat) x6))),aJ x0 x1 x2 x3 x4 x5||(aO x0 x1 x2 x3 x4 x5 x6||(bm x0 x1 x2 x3 x4 x5 x6||(bF x0 x1 x2 x3 x4 x5||SM (9223372036854775807:Nat) x6))),aJ x0 x1 x2 x3 x4 x5||(aO x0 x1 x2 x3 x4 x5 x6||(bm x0 x1 x2 x3 x4 x5 x6||(bF x0 x1 x2 x3 x4 x5||(!VR x6 x6||GL (1:Int) x2 x3 x4 (dz x5))))),aJ x0 x1 x2 x3 x4 x5||(aO x0 x1 x2 x3 x4 x5 x6||(bm x0 x1 x2 x3 x4 x5 x6||(bF x0 x1 x2 x3 x4 x5||(!VR x6 x6||abg (qF (1:Int) x2 x3 x4 (dz x5)) (xh x6)&&leN x6.length (9223372036854775807:Nat))))),aJ x0 x1 x2 x3 x4 x5||(aO x0 x1 x2 x3 x4 x5 x6||(bm x0 x1 x2 x3 x4 x5 x6||(bF x0 x1 x2 x3 x4 x5||(!VR x6 x6||(!(!nC x2 x3 x4 x5 x6&&true)||mE x0 x1 x2 x3 x4 x5 x6))))),aJ x0 x1 x2 x3 x4 x5||(aO x0 x1 x2 x3 x4 x5 x6||(bm x0 x1 x2 x3 x4 x5 x6||(bF x0 x1 x2 x3 x4 x5||(!VR x6 x6||(dH x0 x1 x2 x3 x4 x5 x6||abg (1:Int) (xh (jb x0 x1 x2 x3 x4 x5 x6))&&leN (List.length (jb x0 x1 x2 x3 x4 x5 x6)) (9223372036854775807:Nat)))))),aJ x0 x1 x2 x3 x4 x5||(aO x0 x1 x2 x3 x4 x5 x6||(bm x0 x1 x2 x3 x4 x5 x6||(bF x0 x1 x2 x3 x4 x5||(!VR x6 x6||(dH x0 x1 x2 x3 x4 x5 x6||pv x0 x1 x2 x3 x4 x5 x6))))),aJ x0 x1 x2 x3 x4 x5||(aO x0 x1 x2 x3 x4 x5 x6||(bm x0 x1 x2 x3 x4 x5 x6||(bF x0 x1 x2 x3 x4 x5||(!VR x6 x6||(dH x0 x1 x2 x3 x4 x5 x6||(eC x0 x1 x2 x3 x4 x5 x6||(eD x0 x1 x2 x3 x4 x5 x6||AM x2 x3 x4 x5))))))),aJ x0 x1 x2 x3 x4 x5||(aO x0 x1 x2 x3 x4 x5 x6||(bm x0 x1 x2 x3 x4 x5 x6||(bF x0 x1 x2 x3 x4 x5||(!VR x6 x6||(dH x0 x1 x2 x3 x4 x5 x6||(eC x0 x1 x2 x3 x4 x5 x6||(eD x0 x1 x2 x3 x4 x5 x6||SM (1048576:Nat) x6))))))),aJ x0 x1 x2 x3 x4 x5||(aO x0 x1 x2 x3 x4 x5 x6||(bm x0 x1 x2 x3 x4 x5 x6||(bF x0 x1 x2 x3 x4 x5||(!VR x6 x6||(dH x0 x1 x2 x3 x4 x5 x6||(eC x0 x1 x2 x3 x4 x5 x6||(eD x0 x1 x2 x3 x4 x5 x6||rgN x0 x2 x3 x4 x1 (dz x5) x6))))))),aJ x0 x1 x2 x3 x4 x5||(aO x0 x1 x2 x3 x4 x5 x6||(bm x0 x1 x2 x3 x4 x5 x6||(bF x0 x1 x2 x3 x4 x5||(!VR x6 x6||(dH x0 x1 x2 x3 x4 x5 x6||(eC x0 x1 x2 x3 x4 x5 x6||(eD x0 x1 x2 x3 x4 x5 x6||mE x0 x1 x2 x3 x4 x5 x6))))))),aJ x0 x1 x2 x3 x4 x5||(aO x0 x1 x2 x3 x4 x5 x6||(bm x0 x1 x2 x3 x4 x5 x6||(bF x0 x1 x2 x3 x4 x5||(!VR x6 x6||(dH x0 x1 x2 x3 x4 x5 x6||(eC x0 x1 x2 x3 x4 x5 x6||(eD x0 x1 x2 x3 x4 x5 x6||(pp x0 x1 x2 x3 x4 x5 x6||pv x0 x1 x2 x3 x4 x5 x6))))))))]
end
def NL:List SV→List Entry→Option Out
 | [.one ⟨true,[.val (.string x0),.ref 0,.ref 1,.ref 2,.val (.string x1),.ref 3]⟩,.one ⟨false,[.ref 4]⟩],[.row false 9 (.str) x2,.row false 9 (.str) x3,.row false 9 (.str) x4,.row false 225 (.pair (.str) (.sl 175 (.pair (.int .i64) (.pair (.str) (.int .i64))))) x5,.row false 41 (.sl 2 (.int .i64)) x6]=>some ⟨.one ⟨false,[.val (.bool (uM x0 x1 x2 x3 x4 x5 x6))]⟩,[.row false 9 ahF x2,.row false 9 ahF x3,.row false 9 ahF x4,.row false 225 (CTy.pair CTy.str (CTy.sl (175:TypeId) afk)) x5,.row false 41 (CTy.sl (2:TypeId) agJ) x6],[],[uN x0 x1 x2 x3 x4 x5 x6]⟩
 |_,_=>none
def Wm:PF prog:=PF.ofG prog [PF.trees prog,PC,PF.lend PC,PF.fz PC,PE,PF.lend PE,PF.fz PE,PA,PF.lend PA,PF.fz PA,Mu,PF.lend Mu,PF.fz Mu,Mt,PF.lend Mt,PF.fz Mt,PL,PF.lend PL,PF.fz PL,PM,PF.lend PM,PF.fz PM,PJ,PF.lend PJ,PF.fz PJ,QM,PF.lend QM,PF.fz QM,QK,PF.lend QK,PF.fz QK,Mw,PF.lend Mw,PF.fz Mw] [] aP 9 f9 func9 (fun c _=>LOk.nil c) NL (by
 intro vs es r h;unfold NL at h;split at h
 ·cases h;kernel_rfl
 ·cases h)
theorem aoG(nm:ByteArray)(ins vs os:List ByteArray)(g:ByteArray)(ls:List LN)(l:List (List Int)):
  (xh (rgO nm ins vs os g ls l)≤4000∧(rgO nm ins vs os g ls l).length≤200∧ ∀ x∈rgO nm ins vs os g ls l,x.length≤20)∧(rgV nm ins vs os g ls l).length≤20∧(rgB nm ins vs os g ls l).length≤1600:=by
 have ht: ∀ (l:List (List Int)),(∀ x∈l,x.length≤20)→xh l≤20 * l.length:=by
  intro l
  induction l with
  |nil=>intro _;simp [xh]
  |cons a r ih=>
   intro h
   have h1:=h a (by simp)
   have h2:=ih fun x hx=>h x (by simp [hx])
   simp only [xh,List.map_cons,List.sum_cons,List.length_cons]at h2 ⊢
   omega
 simp only [rgO,rgV,rgB]
 rcases aid nm ins vs os g ls l with⟨h1,h2⟩ | ⟨h1,h3,h2⟩ | ⟨h1,h3,h4,h2⟩ | ⟨h1,h3,h4,h2⟩
 ·rw [h2];simp [xh]
 ·rw [h2];simp [xh]
 ·rw [h2];simp [xh]
 ·rw [h2]
  obtain⟨g1,g2,g3⟩:=alv h1 l (zv vs) (SR (blL ls)) (List.all_eq_true.1 h4) (ako h1)
  obtain⟨s1,s2,_⟩:=PV.1 g3
  have b2:=(fa.1 s2).2
  have:=aj6 h3
  have h5:=ht _ g2
  have hX:=afV (inp:=List.replicate ins.length 0) h1 (fa.2 ⟨fun z hz=> .inl (List.eq_of_mem_replicate hz),by simp⟩)
  have hb:=hX.bl
  have hv:=hX.h2
  simp only [beq_self_eq_true,cond_true]
  exact⟨⟨by omega,by omega,g2⟩,by omega,by omega⟩
theorem aj4(x0:ByteArray)(x2 x3 x4:List ByteArray)(x1:ByteArray)(x5:List LN)(x6:List (List Int))
  (w0:wfD .str x0) (w2:wfD (.sl 9 .str) x2) (w3:wfD (.sl 9 .str) x3) (w4:wfD (.sl 9 .str) x4) (w1:wfD .str x1) (w5:wfD (.sl 225 (.pair (.str) (.sl 175 (.pair (.int .i64) (.pair (.str) (.int .i64)))))) x5) (w6:wfD (.sl 41 (.sl 2 (.int .i64))) x6):
  uM x0 x1 x2 x3 x4 x5 x6=true∧uN x0 x1 x2 x3 x4 x5 x6=true:=by
 have l6:x6.length≤9223372036854775807:=w6.1
 have hx: ∀ x∈x6,x.length≤9223372036854775807:=fun x hx=>(w6.2 x hx).1
 have mS:SM 9223372036854775807 x6=true:=Wq.2 ⟨l6,hx⟩
 have hP:PrSz x0 x2 x3 x4 x1 x5:=⟨w0,w2.1,w2.2,w3.1,w3.2,w4.1,w4.2,w1,w5.1,fun l hl=>⟨(w5.2 l hl).1,(w5.2 l hl).2.1,fun t ht=>((w5.2 l hl).2.2 t ht).2.1⟩⟩
 obtain⟨s1,s2⟩:=amM hP
 cases h1:ltI (fb x0 x1 1048576 x2 x3 x4 x5) 0 with
 |true=>simp [uM,uN,aJ,aO,qp,nB,bm,bF,nC,dH,jb,qq,po,eC,eD,pp,pq,pt,pu,mE,pv,h1,s1,allT]
 |false=>
  have hF:=s2 h1
  have hsum:=hF.sum
  have hzz:=hF.zz
  have i3:leI (-1) (fb x0 x1 1048576 x2 x3 x4 x5)=true:=bv (by omega)
  have i4:leI (fb x0 x1 1048576 x2 x3 x4 x5) 1048576=true:=bv (by omega)
  cases h2:ltI (amO (fb x0 x1 1048576 x2 x3 x4 x5) x6) 0 with
  |true=>simp [uM,uN,aJ,aO,qp,nB,bm,bF,nC,dH,jb,qq,po,eC,eD,pp,pq,pt,pu,mE,pv,h1,h2,s1,mS,i3,i4,allT]
  |false=>
   have d:=amP h2
   have r0:=h1
   have r1:=h2
   have i1:leN x6.length 9223372036854775807=true:=dm l6
   have i2:leN x6.length 1048576=true:=dm (by omega)
   have kS:SM 1048576 x6=true:=ank (by omega) (by omega)
   obtain⟨p1,p2,p3⟩:=apf hF hP
   obtain⟨e1,e2⟩:=anQ hP
   have hG:rgN x0 x2 x3 x4 x1 x5 x6=true:=by simp only [rgN,hF.pr,mS,Bool.and_self]
   have eS: ∀ l:List (List Int),VR l l=true:=anv
   obtain⟨⟨n1,n2,n3⟩,n4,n5⟩:=aoG x0 x2 x3 x4 x1 x5 x6
   generalize hO:rgO x0 x2 x3 x4 x1 x5 x6=A at n1 n2 n3
   generalize hV:rgV x0 x2 x3 x4 x1 x5 x6=V at n4
   generalize hB:rgB x0 x2 x3 x4 x1 x5 x6=B at n5
   obtain⟨pm,pm0,pm1⟩:=amt hF
   have g4:abg (qF 1 x2 x3 x4 x5) (xh x6)=true:=Oh.2 (by omega)
   have g5:ltI (qF 1 x2 x3 x4 x5 + (xh x6:Int)) 0=false:=Pa (by omega)
   have nS:SM 9223372036854775807 A=true:=Wq.2 ⟨by omega,fun x hx=>by have:=n3 x hx;omega⟩
   have lS:leN A.length 9223372036854775807=true:=dm (by omega)
   have mk1:abg 1 (xh A)=true:=Oh.2 (by omega)
   have v1:TJ 1 (Rw 1 A)=1 + xh A:=ajb A 1 mk1
   have v2:ltI (1 + (xh A:Int)) 0=false:=Pa (by omega)
   have uS:SM 9223372036854775807 (Rw 1 A)=true:=ank (by rw [aaf];omega) (by rw [anm];omega)
   have r_a0:=Eq.refl (aJ x0 x1 x2 x3 x4 x5)
   conv at r_a0=>rhs;simp only [aJ,S0z,allT,i1,i2,i3,i4,mS,kS,r0,r1,s1,p1,p2,p3,e1,e2,hG,eS,pm,g4,g5,hO,nS,lS,mk1,v1,v2,uS]
   have r_a1:=Eq.refl (aO x0 x1 x2 x3 x4 x5 x6)
   conv at r_a1=>rhs;simp only [aO,S0z,allT,i1,i2,i3,i4,mS,kS,r0,r1,s1,p1,p2,p3,e1,e2,hG,eS,pm,g4,g5,hO,nS,lS,mk1,v1,v2,uS,r_a0]
   have r_a2:=Eq.refl (qp x0 x1 x2 x3 x4 x5 x6)
   conv at r_a2=>rhs;simp only [qp,S0z,allT,i1,i2,i3,i4,mS,kS,r0,r1,s1,p1,p2,p3,e1,e2,hG,eS,pm,g4,g5,hO,nS,lS,mk1,v1,v2,uS,r_a0,r_a1]
   have r_a3:=Eq.refl (nB x0 x1 x2 x3 x4 x5 x6)
   conv at r_a3=>rhs;simp only [nB,S0z,allT,i1,i2,i3,i4,mS,kS,r0,r1,s1,p1,p2,p3,e1,e2,hG,eS,pm,g4,g5,hO,nS,lS,mk1,v1,v2,uS,r_a0,r_a1,r_a2]
   have r_a4:=Eq.refl (bm x0 x1 x2 x3 x4 x5 x6)
   conv at r_a4=>rhs;simp only [bm,S0z,allT,i1,i2,i3,i4,mS,kS,r0,r1,s1,p1,p2,p3,e1,e2,hG,eS,pm,g4,g5,hO,nS,lS,mk1,v1,v2,uS,r_a0,r_a1,r_a2,r_a3]
   have r_a5:=Eq.refl (bF x0 x1 x2 x3 x4 x5)
   conv at r_a5=>rhs;simp only [bF,S0z,allT,i1,i2,i3,i4,mS,kS,r0,r1,s1,p1,p2,p3,e1,e2,hG,eS,pm,g4,g5,hO,nS,lS,mk1,v1,v2,uS,r_a0,r_a1,r_a2,r_a3,r_a4]
   have r_a6:=Eq.refl (nC x2 x3 x4 x5 x6)
   conv at r_a6=>rhs;simp only [nC,S0z,allT,i1,i2,i3,i4,mS,kS,r0,r1,s1,p1,p2,p3,e1,e2,hG,eS,pm,g4,g5,hO,nS,lS,mk1,v1,v2,uS,r_a0,r_a1,r_a2,r_a3,r_a4,r_a5]
   have r_a7:=Eq.refl (dH x0 x1 x2 x3 x4 x5 x6)
   conv at r_a7=>rhs;simp only [dH,S0z,allT,i1,i2,i3,i4,mS,kS,r0,r1,s1,p1,p2,p3,e1,e2,hG,eS,pm,g4,g5,hO,nS,lS,mk1,v1,v2,uS,r_a0,r_a1,r_a2,r_a3,r_a4,r_a5,r_a6]
   have r_a8:=Eq.refl (jb x0 x1 x2 x3 x4 x5 x6)
   conv at r_a8=>rhs;simp only [jb,S0z,allT,i1,i2,i3,i4,mS,kS,r0,r1,s1,p1,p2,p3,e1,e2,hG,eS,pm,g4,g5,hO,nS,lS,mk1,v1,v2,uS,r_a0,r_a1,r_a2,r_a3,r_a4,r_a5,r_a6,r_a7]
   have r_a9:=Eq.refl (qq x0 x1 x2 x3 x4 x5 x6)
   conv at r_a9=>rhs;simp only [qq,S0z,allT,i1,i2,i3,i4,mS,kS,r0,r1,s1,p1,p2,p3,e1,e2,hG,eS,pm,g4,g5,hO,nS,lS,mk1,v1,v2,uS,r_a0,r_a1,r_a2,r_a3,r_a4,r_a5,r_a6,r_a7,r_a8]
   have r_a10:=Eq.refl (po x0 x1 x2 x3 x4 x5 x6)
   conv at r_a10=>rhs;simp only [po,S0z,allT,i1,i2,i3,i4,mS,kS,r0,r1,s1,p1,p2,p3,e1,e2,hG,eS,pm,g4,g5,hO,nS,lS,mk1,v1,v2,uS,r_a0,r_a1,r_a2,r_a3,r_a4,r_a5,r_a6,r_a7,r_a8,r_a9]
   have r_a11:=Eq.refl (eC x0 x1 x2 x3 x4 x5 x6)
   conv at r_a11=>rhs;simp only [eC,S0z,allT,i1,i2,i3,i4,mS,kS,r0,r1,s1,p1,p2,p3,e1,e2,hG,eS,pm,g4,g5,hO,nS,lS,mk1,v1,v2,uS,r_a0,r_a1,r_a2,r_a3,r_a4,r_a5,r_a6,r_a7,r_a8,r_a9,r_a10]
   have r_a12:=Eq.refl (eD x0 x1 x2 x3 x4 x5 x6)
   conv at r_a12=>rhs;simp only [eD,S0z,allT,i1,i2,i3,i4,mS,kS,r0,r1,s1,p1,p2,p3,e1,e2,hG,eS,pm,g4,g5,hO,nS,lS,mk1,v1,v2,uS,r_a0,r_a1,r_a2,r_a3,r_a4,r_a5,r_a6,r_a7,r_a8,r_a9,r_a10,r_a11]
   have r_a13:=Eq.refl (pp x0 x1 x2 x3 x4 x5 x6)
   conv at r_a13=>rhs;simp only [pp,S0z,allT,i1,i2,i3,i4,mS,kS,r0,r1,s1,p1,p2,p3,e1,e2,hG,eS,pm,g4,g5,hO,nS,lS,mk1,v1,v2,uS,r_a0,r_a1,r_a2,r_a3,r_a4,r_a5,r_a6,r_a7,r_a8,r_a9,r_a10,r_a11,r_a12]
   have r_a14:=Eq.refl (pq x0 x1 x2 x3 x4 x5 x6)
   conv at r_a14=>rhs;simp only [pq,S0z,allT,i1,i2,i3,i4,mS,kS,r0,r1,s1,p1,p2,p3,e1,e2,hG,eS,pm,g4,g5,hO,nS,lS,mk1,v1,v2,uS,r_a0,r_a1,r_a2,r_a3,r_a4,r_a5,r_a6,r_a7,r_a8,r_a9,r_a10,r_a11,r_a12,r_a13]
   have r_a15:=Eq.refl (pt x0 x1 x2 x3 x4 x5 x6)
   conv at r_a15=>rhs;simp only [pt,S0z,allT,i1,i2,i3,i4,mS,kS,r0,r1,s1,p1,p2,p3,e1,e2,hG,eS,pm,g4,g5,hO,nS,lS,mk1,v1,v2,uS,r_a0,r_a1,r_a2,r_a3,r_a4,r_a5,r_a6,r_a7,r_a8,r_a9,r_a10,r_a11,r_a12,r_a13,r_a14]
   have r_a16:=Eq.refl (pu x0 x1 x2 x3 x4 x5 x6)
   conv at r_a16=>rhs;simp only [pu,S0z,allT,i1,i2,i3,i4,mS,kS,r0,r1,s1,p1,p2,p3,e1,e2,hG,eS,pm,g4,g5,hO,nS,lS,mk1,v1,v2,uS,r_a0,r_a1,r_a2,r_a3,r_a4,r_a5,r_a6,r_a7,r_a8,r_a9,r_a10,r_a11,r_a12,r_a13,r_a14,r_a15]
   have r_a17:=Eq.refl (mE x0 x1 x2 x3 x4 x5 x6)
   conv at r_a17=>rhs;simp only [mE,S0z,allT,i1,i2,i3,i4,mS,kS,r0,r1,s1,p1,p2,p3,e1,e2,hG,eS,pm,g4,g5,hO,nS,lS,mk1,v1,v2,uS,r_a0,r_a1,r_a2,r_a3,r_a4,r_a5,r_a6,r_a7,r_a8,r_a9,r_a10,r_a11,r_a12,r_a13,r_a14,r_a15,r_a16]
   have r_a18:=Eq.refl (pv x0 x1 x2 x3 x4 x5 x6)
   conv at r_a18=>rhs;simp only [pv,S0z,allT,i1,i2,i3,i4,mS,kS,r0,r1,s1,p1,p2,p3,e1,e2,hG,eS,pm,g4,g5,hO,nS,lS,mk1,v1,v2,uS,r_a0,r_a1,r_a2,r_a3,r_a4,r_a5,r_a6,r_a7,r_a8,r_a9,r_a10,r_a11,r_a12,r_a13,r_a14,r_a15,r_a16,r_a17]
   refine⟨?_,?_⟩ <;> simp only [uM,uN,S0z,allT,i1,i2,i3,i4,mS,kS,r0,r1,s1,p1,p2,p3,e1,e2,hG,eS,pm,g4,g5,hO,nS,lS,mk1,v1,v2,uS,r_a0,r_a1,r_a2,r_a3,r_a4,r_a5,r_a6,r_a7,r_a8,r_a9,r_a10,r_a11,r_a12,r_a13,r_a14,r_a15,r_a16,r_a17,r_a18]
end Go.SX
