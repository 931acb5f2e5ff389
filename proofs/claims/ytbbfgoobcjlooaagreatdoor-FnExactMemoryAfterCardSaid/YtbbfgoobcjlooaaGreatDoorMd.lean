/- What functions of the program come to, and what that says in plain words: part 4. -/
import Derived.Test.YtbbfgoobcjlooaaGreatDoorMc
import Derived.Test.YtbbfgoobcjlooaaGreatDoorTXh
import Derived.Test.YtbbfgoobcjlooaaGreatDoorProg
import Derived.Test.YtbbfgoobcjlooaaGreatDoorTXi
set_option linter.unusedSimpArgs false
set_option linter.unusedVariables false
namespace Go.SX
open Go.Proofs Go.Proofs.Tryz
set_option maxRecDepth 100000
def IA(x0:List Int)(x1:List (Int×Int×Int))(x2:List Int)(x3:List (Int×Int×Int)):Bool:=bif !eqL x0 x2 then false else bif !aoY x1 x3 then false else true
def IB(x0:List Int)(x1:List (Int×Int×Int))(x2:List Int):Bool:=allT [leN x0.length (9223372036854775807:Nat),!eqL x0 x2||leN x1.length (9223372036854775807:Nat)]
def Yu:List SV→List Entry→Option Out
 | [.one ⟨true,[.ref 0,.ref 1]⟩,.one ⟨true,[.ref 2,.ref 3]⟩],[.row false 2 (.int .i64) x0,.row false 172 (.pair (.int .i64) (.pair (.int .i64) (.int .i64))) x1,.row false 2 (.int .i64) x2,.row false 172 (.pair (.int .i64) (.pair (.int .i64) (.int .i64))) x3]=>some ⟨.one ⟨false,[.val (.bool (IA x0 x1 x2 x3))]⟩,[.row false 2 agR x0,.row false 172 abM x1,.row false 2 agR x2,.row false 172 abM x3],[],[IB x0 x1 x2]⟩
 |_,_=>none
def So:PF prog:=PF.ofG prog [KP,PF.lend KP,PF.fz KP,ua,PF.lend ua,PF.fz ua] [] aN 32 f32 func32 (fun c _=>LOk.nil c) Yu (by
 intro vs es r h;unfold Yu at h;split at h
 ·cases h;kernel_rfl
 ·cases h)
section
variable (x0:Int)(x1:List Int)(x2:List (Int×Int×Int))
def uk:Int:=x0 + (↑x1.length:Int)
def Aa:Int:=uk x0 x1 + (3:Int) * (↑x2.length:Int)
def Ab:List Int:=Aq x0 x1.length
def Ac:List (Int×(Int×Int)):=upG (3:Nat) mkB (uk x0 x1) x2.length
def JO:Bool:=allT [ag0 x0 x1.length,adq (3:Nat) (uk x0 x1) x2.length&&leN x2.length (9223372036854775807:Nat)]
end
def UW:List SV→List Entry→Option Out
 | [.one ⟨true,[.ref 0,.ref 1]⟩,.one ⟨false,[.val (.int .i64 x0)]⟩],[.row true 2 (.int .i64) x1,.row true 172 (.pair (.int .i64) (.pair (.int .i64) (.int .i64))) x2]=>some ⟨.one ⟨false,[.val (.int .i64 (Aa x0 x1 x2))]⟩,[.row true 2 agR (Ab x0 x1),.row true 172 abM (Ac x0 x1 x2)],[],[JO x0 x1 x2]⟩
 |_,_=>none
def PN:PF prog:=PF.ofG prog [HZ,PF.lend HZ,PF.fz HZ,qA,PF.lend qA,PF.fz qA] [] aN 33 f33 func33 (fun c _=>LOk.nil c) UW (by
 intro vs es r h;unfold UW at h;split at h
 ·cases h;kernel_rfl
 ·cases h)
def JK(x0:Int)(x1:List Int)(x2:List (Int×Int×Int)):Int:=bif ltI (ahL x0 x1) (0:Int)then(-1:Int)else bif ltI (akK (ahL x0 x1) x2) (0:Int)then(-1:Int)else akK (ahL x0 x1) x2
def JM(x0:Int)(x1:List Int)(x2:List (Int×Int×Int)):Bool:=allT [leN x1.length (9223372036854775807:Nat),ltI (ahL x0 x1) (0:Int)||leN x2.length (9223372036854775807:Nat)]
def UU:List SV→List Entry→Option Out
 | [.one ⟨true,[.ref 0,.ref 1]⟩,.one ⟨false,[.val (.int .i64 x0)]⟩],[.row false 2 (.int .i64) x1,.row false 172 (.pair (.int .i64) (.pair (.int .i64) (.int .i64))) x2]=>some ⟨.one ⟨false,[.val (.int .i64 (JK x0 x1 x2))]⟩,[.row false 2 agR x1,.row false 172 abM x2],[],[JM x0 x1 x2]⟩
 |_,_=>none
def PM:PF prog:=PF.ofG prog [HY,PF.lend HY,PF.fz HY,PJ,PF.lend PJ,PF.fz PJ] [] aN 36 f36 func36 (fun c _=>LOk.nil c) UU (by
 intro vs es r h;unfold UU at h;split at h
 ·cases h;kernel_rfl
 ·cases h)
theorem ap6(k:Int)(b:List Int)(c:List BS3)(h0:0≤k)(h:k + b.length + 3 * (c.length:Int)≤900000000):
  JK k (Ab k b) (Ac k b c)=Aa k b c∧JM k (Ab k b) (Ac k b c)=true∧
  ltI (Aa k b c) 0=false∧JO k b c=true:=by
 have m1:ag0 k b.length=true:=WZ.2 (by omega)
 have m2:adq 3 (k + (b.length:Int)) c.length=true:=WY.2 (by omega)
 have l1:leN b.length 9223372036854775807=true:=dv (by omega)
 have l2:leN c.length 9223372036854775807=true:=dv (by omega)
 have v1:=apV k b.length m1
 have v2:=apU _ c.length ((Bool.and_eq_true _ _).mpr ⟨m2,l2⟩)
 have t1:ltI (k + (b.length:Int)) 0=false:=QB (by omega)
 have t2:ltI (k + (b.length:Int) + 3 * (c.length:Int)) 0=false:=QB (by omega)
 refine⟨?_,?_,?_,?_⟩
 ·simp only [JK,Aa,Ab,Ac,uk,v1,v2,t1,t2,cond_false]
 ·simp only [JM,Ab,Ac,uk,v1,t1,RH,aj7,l1,l2,allT,Bool.or_true,cond_true]
 ·simp only [Aa,uk,t2]
 ·simp only [JO,uk,m1,m2,l2,allT,Bool.and_self,cond_true]
theorem apl{k:Int}{s:ByteArray}{n:Int}(h:VF k s n=true):possB k n 0 0 0=true:=by
 obtain⟨h1,h2,h3⟩:=XH h
 have t:inR 0 0 n=true:=FL.2 (by omega)
 have t1:inR 0 0 1=true:=rfl
 rcases kinds h1 with rfl | rfl | rfl | rfl | rfl | rfl <;> simp [possB,dB,bx,VP,t,t1] <;> omega
def UK(bs:List TM):List BS3:=List.replicate bs.length ((0:Int),(0:Int),(0:Int))
theorem alE{l:List (List Int)}(h:ltI 200 (l.length:Int)=false):l.length≤200:=by
 rcases Nat.lt_or_ge 200 l.length with h' | h'
 ·rw [dO (by omega)]at h;cases h
 ·exact h'
def sgO(ins vs os:List ByteArray)(g:ByteArray)(ls:List LN):List (List Int)→List Int→List BS3→List (List Int)
 | [],_,_=> []
 |inp::r,xs,ss=>scO ins vs os g ls inp xs ss::sgO ins vs os g ls r (scV ins vs os ls inp xs ss) (scB ins vs os ls inp xs ss)
def sgM(ins vs os:List ByteArray)(ls:List LN):List (List Int)→List Int→List BS3→List Int×List BS3
 | [],xs,ss=>(xs,ss)
 |inp::r,xs,ss=>sgM ins vs os ls r (scV ins vs os ls inp xs ss) (scB ins vs os ls inp xs ss)
def zv(vs:List ByteArray):List Int:=List.replicate vs.length 0
theorem alM{nm:ByteArray}{ins vs os:List ByteArray}{g:ByteArray}{ls:List LN}{xs:List Int}{ss:List BS3}{inp:List Int}(h:scG nm ins vs os g ls xs ss inp=true):
  Hg vs.length (blL ls) (scV ins vs os ls inp xs ss) (scB ins vs os ls inp xs ss)=true∧(scO ins vs os g ls inp xs ss).length≤20:=by
 obtain⟨h1,h2,h3⟩:=Vn.1 h
 have hS:=aht h1 h3
 obtain⟨a,b⟩:=aqV (os:=os) (g:=g) h3 hS.hL h2
 have:=(fj.1 b).2
 have:=hS.h3
 exact⟨a,by omega⟩
theorem am0{nm:ByteArray}{ins vs os:List ByteArray}{g:ByteArray}{ls:List LN}(hS:nb nm ins vs os g ls=true): ∀ (r:List (List Int)) (xs:List Int) (ss:List BS3),
  (∀ x∈r,bitsB ins.length x=true)→Hg vs.length (blL ls) xs ss=true→
  (sgO ins vs os g ls r xs ss).length=r.length∧(∀ x∈sgO ins vs os g ls r xs ss,x.length≤20)∧Hg vs.length (blL ls) (sgM ins vs os ls r xs ss).1 (sgM ins vs os ls r xs ss).2=true
 | [],_,_,_,hs=>⟨rfl,fun x hx=>(List.not_mem_nil hx).elim,hs⟩
 |inp::r,xs,ss,hA,hs=>by
  obtain⟨h1,h2⟩:=alM (Vn.2 ⟨hS,hs,hA inp (by simp)⟩)
  obtain⟨g1,g2,g3⟩:=am0 hS r _ _ (fun x hx=>hA x (by simp [hx])) h1
  refine⟨by simp [sgO,g1],fun x hx=> ?_,g3⟩
  rcases List.mem_cons.1 hx with rfl | hx
  ·exact h2
  ·exact g2 x hx
theorem alW{nm:ByteArray}{ins vs os:List ByteArray}{g:ByteArray}{ls:List LN}(hS:nb nm ins vs os g ls=true):Hg vs.length (blL ls) (zv vs) (UK (blL ls))=true:=by
 have hB:=aiX ls (Xg hS).2.1
 refine aqm.2 ⟨by simp [UK],fj.2 ⟨fun z hz=> .inl (List.eq_of_mem_replicate hz),by rw [zv,List.length_replicate]⟩,fun k hk=> ?_⟩
 simp only [adf,List.all_eq_true]at hB
 have h1:stAt (UK (blL ls)) k=(0,0,0):=by
  simp only [stAt,UK]
  rw [List.getElem?_replicate,if_pos hk];rfl
 have h2:Qp (blL ls) k∈blL ls:=by
  simp only [Qp,List.getElem?_eq_getElem hk];exact List.getElem_mem hk
 simp only [possAt,h1]
 exact apl (hB _ h2)
def rgC(nm:ByteArray)(ins vs os:List ByteArray)(g:ByteArray)(ls:List LN)(l:List (List Int)):Int:=bif !nb nm ins vs os g ls then 1 else bif ltI 200 (l.length:Int)then 3 else bif !l.all (fun x=>bitsB ins.length x)then 2 else 0
def rgO(nm:ByteArray)(ins vs os:List ByteArray)(g:ByteArray)(ls:List LN)(l:List (List Int)):List (List Int):=bif rgC nm ins vs os g ls l==0 then sgO ins vs os g ls l (zv vs) (UK (blL ls))else []
def rgV(nm:ByteArray)(ins vs os:List ByteArray)(g:ByteArray)(ls:List LN)(l:List (List Int)):List Int:=bif rgC nm ins vs os g ls l==0 then(sgM ins vs os ls l (zv vs) (UK (blL ls))).1 else []
def rgB(nm:ByteArray)(ins vs os:List ByteArray)(g:ByteArray)(ls:List LN)(l:List (List Int)):List BS3:=bif rgC nm ins vs os g ls l==0 then(sgM ins vs os ls l (zv vs) (UK (blL ls))).2 else []
def rgN(nm:ByteArray)(ins vs os:List ByteArray)(g:ByteArray)(ls:List LN)(l:List (List Int)):Bool:=prOk nm ins vs os g ls&&abF 9223372036854775807 l
theorem ajL(nm:ByteArray)(ins vs os:List ByteArray)(g:ByteArray)(ls:List LN)(l:List (List Int)):
  (nb nm ins vs os g ls=false∧rgC nm ins vs os g ls l=1)∨(nb nm ins vs os g ls=true∧ltI 200 (l.length:Int)=true∧rgC nm ins vs os g ls l=3)∨
  (nb nm ins vs os g ls=true∧ltI 200 (l.length:Int)=false∧l.all (fun x=>bitsB ins.length x)=false∧rgC nm ins vs os g ls l=2)∨
  (nb nm ins vs os g ls=true∧ltI 200 (l.length:Int)=false∧l.all (fun x=>bitsB ins.length x)=true∧rgC nm ins vs os g ls l=0):=by
 simp only [rgC]
 cases nb nm ins vs os g ls <;> cases ltI 200 (l.length:Int) <;> cases l.all (fun x=>bitsB ins.length x) <;> simp
def Gp(y4:List ByteArray)(b:List Int):(Unit)→Nat ⊕ (Unit)
 |_=>(bif(!bitsB (↑y4.length:Int) b)then(.inl 0)else(.inr ()))
def wA(y1:List (List Int))(y2 y3:ByteArray)(y4 y5 y6:List ByteArray)(y7:List (ByteArray×(List (Int×(ByteArray×Int)))))(y8:List Int)(y9:List (Int×(Int×Int)))(i:Nat):(Unit)→pV
 |_=>((i:Int),y1,y2,y3,y4,y5,y6,y7,y8,y9)
def PQ:pV→Unit
 |(_,_,_,_,_,_,_,_,_,_)=>()
theorem ahy(y1:List (List Int))(y2 y3:ByteArray)(y4 y5 y6:List ByteArray)(y7:List (ByteArray×(List (Int×(ByteArray×Int)))))(y8:List Int)(y9:List (Int×(Int×Int))) (hn:y1.length≤9223372036854775807) (hA: ∀ x∈y1,x.length≤9223372036854775807):
  iC.fin ((0:Int),y1,y2,y3,y4,y5,y6,y7,y8,y9)=true∧iC.res ((0:Int),y1,y2,y3,y4,y5,y6,y7,y8,y9)=((af (Gp y4) 1 y1 0 ()).1,(wA y1 y2 y3 y4 y5 y6 y7 y8 y9) (af (Gp y4) 1 y1 0 ()).2.1 (af (Gp y4) 1 y1 0 ()).2.2):=by
 have jb:=iC.along (wA y1 y2 y3 y4 y5 y6 y7 y8 y9) PQ (Gp y4) 1 (fun _ _=>True) y1 () (by trivial) (by simp only [iC,wA];omega) (fun i b a hb hI=> ?_) (fun a hI=> ?_)
 ·exact jb
 ·obtain⟨⟩:=a
  have eB:=(List.getElem?_eq_some_iff.1 hb).1
  have il: ∀ d,Option.getD y1[i]? d=b:=fun d=>by rw [hb];rfl
  have hw:=tZ eB hn
  have bM:ltI (i:Int) (y1.length:Int)=true:=dO (by omega)
  have vC:leI (0:Int) (i:Int)=true:=bw (by omega)
  have gI:ltN i y1.length=true:=fQ eB
  refine⟨?_,?_,?_,?_⟩
  ·have hg2:tH (i:Int) y1=b:=by simp only [tH,Int.toNat_natCast];exact il _
   have h6:leN b.length 9223372036854775807=true:=dv (hA b (List.mem_of_getElem? hb))
   simp only [BV,GR,GS,GU,GV,GW,EY,iC,LT.nds,allT,wA,Int.toNat_natCast,bM,vC,gI,hg2,h6,cond_true,Bool.and_self]
   cases !bitsB (y4.length:Int) b <;> rfl
  ·simp [tH,BV,GR,GS,GU,GV,GW,EY,iC,LT.each,wA,PQ,hw]
  ·have hg2:tH (i:Int) y1=b:=by simp only [tH,Int.toNat_natCast];exact il _
   simp only [BV,GR,GS,GU,GV,GW,EY,iC,LT.fn,wA,PQ,Gp,Int.toNat_natCast,bM,hg2,cond_true]
  ·exact fun _ _=>trivial
 ·obtain⟨⟩:=a
  simp [tH,BV,GR,GS,GU,GV,GW,EY,iC,LT.out,wA]
def xP(y3:ByteArray)(y5 y6 y7:List ByteArray)(y8:List (ByteArray×(List (Int×(ByteArray×Int)))))(b:List Int):(List (List Int)×List Int×List (Int×(Int×Int)))→Nat ⊕ (List (List Int)×List Int×List (Int×(Int×Int)))
 |(y4,y9,y10)=>(.inr ((y4++([scO y5 y6 y7 y3 y8 b y9 y10])),scV y5 y6 y7 y8 b y9 y10,(scB y5 y6 y7 y8 b y9 y10)))
def tJ(y1:List (List Int))(y2 y3:ByteArray)(y5 y6 y7:List ByteArray)(y8:List (ByteArray×(List (Int×(ByteArray×Int)))))(i:Nat):(List (List Int)×List Int×List (Int×(Int×Int)))→pW
 |(y4,y9,y10)=>((i:Int),y1,y2,y3,y4,y5,y6,y7,y8,y9,y10)
def PR:pW→List (List Int)×List Int×List (Int×(Int×Int))
 |(_,_,_,_,y4,_,_,_,_,y9,y10)=>(y4,y9,y10)
theorem ahz(y1:List (List Int))(y2 y3:ByteArray)(y5 y6 y7:List ByteArray)(y8:List (ByteArray×(List (Int×(ByteArray×Int)))))(y4:List (List Int))(y9:List Int)(y10:List (Int×(Int×Int)))(hn:y1.length≤9223372036854775807)(hC:nb y2 y5 y6 y7 y3 y8=true)(hA: ∀ x∈y1,bitsB y5.length x=true)(h200:y1.length≤200)(hS:Hg y6.length (blL y8) y9 y10=true)(h4:y4.length=0):
  jD.fin ((0:Int),y1,y2,y3,y4,y5,y6,y7,y8,y9,y10)=true∧jD.res ((0:Int),y1,y2,y3,y4,y5,y6,y7,y8,y9,y10)=((af (xP y3 y5 y6 y7 y8) 0 y1 0 (y4,y9,y10)).1,(tJ y1 y2 y3 y5 y6 y7 y8) (af (xP y3 y5 y6 y7 y8) 0 y1 0 (y4,y9,y10)).2.1 (af (xP y3 y5 y6 y7 y8) 0 y1 0 (y4,y9,y10)).2.2):=by
 have jb:=jD.along (tJ y1 y2 y3 y5 y6 y7 y8) PR (xP y3 y5 y6 y7 y8) 0 (fun i a=>Hg y6.length (blL y8) a.2.1 a.2.2=true∧a.1.length=i) y1 (y4,y9,y10) ⟨hS,h4⟩ (by simp only [jD,tJ];omega) (fun i b a hb hI=> ?_) (fun a hI=> ?_)
 ·exact jb
 ·obtain⟨y4,y9,y10⟩:=a
  have eB:=(List.getElem?_eq_some_iff.1 hb).1
  have il: ∀ d,Option.getD y1[i]? d=b:=fun d=>by rw [hb];rfl
  have hw:=tZ eB hn
  have bM:ltI (i:Int) (y1.length:Int)=true:=dO (by omega)
  have vC:leI (0:Int) (i:Int)=true:=bw (by omega)
  have gI:ltN i y1.length=true:=fQ eB
  refine⟨?_,?_,?_,?_⟩
  ·have hg2:oT (i:Int) y1=b:=by simp only [oT,Int.toNat_natCast];exact il _
   have hl:=hI.2
   have he:scG y2 y5 y6 y7 y3 y8 y9 y10 b=true:=Vn.2 ⟨hC,hI.1,hA b (List.mem_of_getElem? hb)⟩
   have h6:leN (y4.length + 1) 9223372036854775807=true:=dv (by simp only at hl;omega)
   have h7:leN ((y4.length + 1) * 24) 140737488355328=true:=dv (by simp only at hl;omega)
   simp only [BW,GX,GY,GZ,Ha,Hb,Hc,Hd,He,Hf,EZ,jD,wz,LT.nds,allT,tJ,bM,vC,gI,hg2,he,List.length_singleton,h6,h7,Int.toNat_natCast,cond_true]
  ·simp [oT,wz,BW,GX,GY,GZ,Ha,Hb,Hc,Hd,He,Hf,EZ,jD,LT.each,tJ,PR,hw]
  ·have hg2:oT (i:Int) y1=b:=by simp only [oT,Int.toNat_natCast];exact il _
   simp only [BW,GX,GY,GZ,Ha,Hb,Hc,Hd,He,Hf,EZ,jD,wz,LT.fn,tJ,PR,xP,Int.toNat_natCast,bM,hg2,cond_true]
  ·intro a' hf
   simp only [xP,Sum.inr.injEq]at hf
   subst hf
   have he:scG y2 y5 y6 y7 y3 y8 y9 y10 b=true:=Vn.2 ⟨hC,hI.1,hA b (List.mem_of_getElem? hb)⟩
   exact⟨(alM he).1,by have hl:=hI.2;simp only at hl;simp [hl]⟩
 ·obtain⟨y4,y9,y10⟩:=a
  simp [oT,wz,BW,GX,GY,GZ,Ha,Hb,Hc,Hd,He,Hf,EZ,jD,LT.out,tJ]
def uf(y4:ByteArray)(y6 y7 y8:List ByteArray)(y9:List (ByteArray×(List (Int×(ByteArray×Int)))))(b:List Int):(List (List Int)×List Int×List (Int×(Int×Int)))→Nat ⊕ (List (List Int)×List Int×List (Int×(Int×Int)))
 |(y5,y10,y11)=>(.inr ((y5++([scO y6 y7 y8 y4 y9 b y10 y11])),scV y6 y7 y8 y9 b y10 y11,(scB y6 y7 y8 y9 b y10 y11)))
def qj(y2:List (List Int))(y3 y4:ByteArray)(y6 y7 y8:List ByteArray)(y9:List (ByteArray×(List (Int×(ByteArray×Int)))))(i:Nat):(List (List Int)×List Int×List (Int×(Int×Int)))→mO
 |(y5,y10,y11)=>((i:Int),(↑y2.length:Int),y2,y3,y4,y5,y6,y7,y8,y9,y10,y11)
def Mn:mO→List (List Int)×List Int×List (Int×(Int×Int))
 |(_,_,_,_,_,y5,_,_,_,_,y10,y11)=>(y5,y10,y11)
theorem afi(y2:List (List Int))(y3 y4:ByteArray)(y6 y7 y8:List ByteArray)(y9:List (ByteArray×(List (Int×(ByteArray×Int)))))(y5:List (List Int))(y10:List Int)(y11:List (Int×(Int×Int)))(hn:y2.length≤9223372036854775807)(hC:nb y3 y6 y7 y8 y4 y9=true)(hA: ∀ x∈y2,bitsB y6.length x=true)(h200:y2.length≤200)(hS:Hg y7.length (blL y9) y10 y11=true)(h5:y5.length=0):
  gJ.fin ((0:Int),(↑y2.length:Int),y2,y3,y4,y5,y6,y7,y8,y9,y10,y11)=true∧gJ.res ((0:Int),(↑y2.length:Int),y2,y3,y4,y5,y6,y7,y8,y9,y10,y11)=((af (uf y4 y6 y7 y8 y9) 0 y2 0 (y5,y10,y11)).1,(qj y2 y3 y4 y6 y7 y8 y9) (af (uf y4 y6 y7 y8 y9) 0 y2 0 (y5,y10,y11)).2.1 (af (uf y4 y6 y7 y8 y9) 0 y2 0 (y5,y10,y11)).2.2):=by
 have jb:=gJ.along (qj y2 y3 y4 y6 y7 y8 y9) Mn (uf y4 y6 y7 y8 y9) 0 (fun i a=>Hg y7.length (blL y9) a.2.1 a.2.2=true∧a.1.length=i) y2 (y5,y10,y11) ⟨hS,h5⟩ (by simp only [gJ,qj];omega) (fun i b a hb hI=> ?_) (fun a hI=> ?_)
 ·exact jb
 ·obtain⟨y5,y10,y11⟩:=a
  have eB:=(List.getElem?_eq_some_iff.1 hb).1
  have il: ∀ d,Option.getD y2[i]? d=b:=fun d=>by rw [hb];rfl
  have hw:=tZ eB hn
  have bM:ltI (i:Int) (y2.length:Int)=true:=dO (by omega)
  have vC:leI (0:Int) (i:Int)=true:=bw (by omega)
  have gI:ltN i y2.length=true:=fQ eB
  refine⟨?_,?_,?_,?_⟩
  ·have hg2:lT (i:Int) y2=b:=by simp only [lT,Int.toNat_natCast];exact il _
   have hl:=hI.2
   have he:scG y3 y6 y7 y8 y4 y9 y10 y11 b=true:=Vn.2 ⟨hC,hI.1,hA b (List.mem_of_getElem? hb)⟩
   have h6:leN (y5.length + 1) 9223372036854775807=true:=dv (by simp only at hl;omega)
   have h7:leN ((y5.length + 1) * 24) 140737488355328=true:=dv (by simp only at hl;omega)
   simp only [Cl,Cm,Cn,Co,Cp,Cq,Cr,Cs,Ct,Cu,Av,Bq,gJ,tf,LT.nds,allT,qj,bM,vC,gI,hg2,he,List.length_singleton,h6,h7,Int.toNat_natCast,cond_true]
  ·simp [lT,tf,Cl,Cm,Cn,Co,Cp,Cq,Cr,Cs,Ct,Cu,Av,Bq,gJ,LT.each,qj,Mn,hw]
  ·have hg2:lT (i:Int) y2=b:=by simp only [lT,Int.toNat_natCast];exact il _
   simp only [Cl,Cm,Cn,Co,Cp,Cq,Cr,Cs,Ct,Cu,Av,Bq,gJ,tf,LT.fn,qj,Mn,uf,Int.toNat_natCast,bM,hg2,cond_true]
  ·intro a' hf
   simp only [uf,Sum.inr.injEq]at hf
   subst hf
   have he:scG y3 y6 y7 y8 y4 y9 y10 y11 b=true:=Vn.2 ⟨hC,hI.1,hA b (List.mem_of_getElem? hb)⟩
   exact⟨(alM he).1,by have hl:=hI.2;simp only at hl;simp [hl]⟩
 ·obtain⟨y5,y10,y11⟩:=a
  simp [lT,tf,Cl,Cm,Cn,Co,Cp,Cq,Cr,Cs,Ct,Cu,Av,Bq,gJ,LT.out,qj]
theorem al2{ins vs os:List ByteArray}{g:ByteArray}{ls:List LN}{f:List Int→List (List Int)×List Int×List BS3→Nat ⊕ (List (List Int)×List Int×List BS3)}
  (hf: ∀ b a,f b a= .inr (a.1++ [scO ins vs os g ls b a.2.1 a.2.2],scV ins vs os ls b a.2.1 a.2.2,scB ins vs os ls b a.2.1 a.2.2)) {e:Nat}:
  ∀ (r:List (List Int)) (i:Nat) (acc:List (List Int)) (xs:List Int) (ss:List BS3),af f e r i (acc,xs,ss)=(e,i + r.length,acc++sgO ins vs os g ls r xs ss,sgM ins vs os ls r xs ss)
 | [],i,acc,xs,ss=>by simp [af,sgO,sgM]
 |b::r,i,acc,xs,ss=>by
  simp only [af,hf]
  rw [al2 hf r]
  simp only [sgO,sgM,List.append_assoc,List.singleton_append,List.length_cons]
  congr 2
  omega
theorem zvs(vs:List ByteArray):List.replicate (Int.toNat (vs.length:Int)) (0:Int)=zv vs:=by rw [Int.toNat_natCast];rfl
theorem zbs(ls:List LN):List.replicate (Int.toNat ((blL ls).length:Int)) ((0:Int),(0:Int),(0:Int))=UK (blL ls):=by rw [Int.toNat_natCast];rfl
theorem arz(nm:ByteArray)(ins vs os:List ByteArray)(g:ByteArray)(ls:List LN)(l:List (List Int))(h:rgN nm ins vs os g ls l=true):
  RC nm g ins vs os ls l=rgC nm ins vs os g ls l∧Wc nm g ins vs os ls l=rgO nm ins vs os g ls l∧RD nm g ins vs os ls l=rgV nm ins vs os g ls l∧
  RE nm g ins vs os ls l=rgB nm ins vs os g ls l∧RF nm g ins vs os ls l=true:=by
 simp only [rgN,Bool.and_eq_true]at h
 obtain⟨hT,hl⟩:=h
 obtain⟨hn,hA⟩:=afd.1 hl
 obtain⟨w1,w2⟩:=ahy l nm g ins vs os ls [] [] hn hA
 rw [iH (P:=fun x=> !bitsB ins.length x) (j:=0) (fun x=>rfl)]at w2
 have e5:(l.any fun x=> !bitsB ins.length x)= !l.all (fun x=>bitsB ins.length x):=by simp [List.all_eq_not_any_not]
 rw [e5]at w2
 have e1:Uv nm g ins vs os ls l=((0:Int),l,nm,g,ins,vs,os,ls,[],[]):=rfl
 have e2:zG nm g ins vs os ls l= !l.all (fun x=>bitsB ins.length x):=by
  simp only [zG,e1,w2]
  cases l.all (fun x=>bitsB ins.length x) <;> rfl
 have e3:Qg nm g ins vs os ls l=((0:Int),l,nm,g,[],ins,vs,os,ls,zv vs,UK (blL ls)):=by simp only [Qg,Sz,SA,zvs,zbs]
 simp only [RC,Wc,RD,RE,RF,zF,Uw,Ux,e1,e2,e3,w1,hT,rgO,rgV,rgB,allT]
 rcases ajL nm ins vs os g ls l with⟨h1,h2⟩ | ⟨h1,h3,h2⟩ | ⟨h1,h3,h4,h2⟩ | ⟨h1,h3,h4,h2⟩
 ·rw [h1,h2];simp
 ·rw [h1,h2,h3];simp
 ·rw [h1,h2,h3,h4];simp
 ·have hA2: ∀ x∈l,bitsB ins.length x=true:=List.all_eq_true.1 h4
  have hS:=alW h1
  obtain⟨v1,v2⟩:=ahz l nm g ins vs os ls [] (zv vs) (UK (blL ls)) (by have:=alE h3;omega) h1 hA2 (alE h3) hS rfl
  rw [al2 (ins:=ins) (vs:=vs) (os:=os) (g:=g) (ls:=ls) (f:=xP g ins vs os ls) (fun b a=>rfl)]at v2
  have hX:=aht (inp:=List.replicate ins.length 0) h1 (fj.2 ⟨fun z hz=> .inl (List.eq_of_mem_replicate hz),by simp⟩)
  have hb:=hX.bl
  have hv:=hX.h2
  have u1:leI 0 (vs.length:Int)=true:=bw (by omega)
  have u2:leI (vs.length:Int) (vs.length:Int)=true:=bw (by omega)
  have u3:leI ((↑(8:Nat):Int) * (vs.length:Int)) 281474976710656=true:=bw (by omega)
  have u4:leI (vs.length:Int) 9223372036854775807=true:=bw (by omega)
  have u5:leI 0 ((blL ls).length:Int)=true:=bw (by omega)
  have u6:leI ((blL ls).length:Int) ((blL ls).length:Int)=true:=bw (by omega)
  have u7:leI ((↑(24:Nat):Int) * ((blL ls).length:Int)) 281474976710656=true:=bw (by omega)
  have u8:leI ((blL ls).length:Int) 9223372036854775807=true:=bw (by omega)
  have hLn:=(RQ.1 hT).2.2.2.2.2.2
  have f2:NB vs ls=true:=by simp only [NB,u1,u2,u3,u4,u5,u6,u7,u8,hLn,allT,cond_true]
  rw [h1,h2,h3,h4,v1,v2,f2]
  simp [tJ]
theorem ars(nm:ByteArray)(ins vs os:List ByteArray)(g:ByteArray)(ls:List LN)(l:List (List Int))(h:rgN nm ins vs os g ls l=true):
  MZ nm g ins vs os ls l=rgC nm ins vs os g ls l∧Sf nm g ins vs os ls l=rgO nm ins vs os g ls l∧Na nm g ins vs os ls l=rgV nm ins vs os g ls l∧
  Nb nm g ins vs os ls l=rgB nm ins vs os g ls l∧Nc nm g ins vs os ls l=true:=by
 simp only [rgN,Bool.and_eq_true]at h
 obtain⟨hT,hl⟩:=h
 obtain⟨hn,hA⟩:=afd.1 hl
 have d0:cg vs=zv vs:=by simp only [cg,HN,zvs]
 have d1:cZ ls=UK (blL ls):=by simp only [cZ,HO,zbs]
 have e2:Lq nm g ins vs os ls l=((0:Int),(l.length:Int),l,nm,g,[],ins,vs,os,ls,zv vs,UK (blL ls)):=by simp only [Lq,d0,d1]
 simp only [MZ,Sf,Na,Nb,Nc,uK,BO,QK,QL,d0,d1,e2,hT,rgO,rgV,rgB,allT]
 rcases ajL nm ins vs os g ls l with⟨h1,h2⟩ | ⟨h1,h3,h2⟩ | h
 ·rw [h1,h2];simp
 ·rw [h1,h2,h3];simp
 ·have h1:nb nm ins vs os g ls=true:=by rcases h with h | h <;> exact h.1
  have h3:ltI 200 (l.length:Int)=false:=by rcases h with h | h <;> exact h.2.1
  have hS:=alW h1
  have hX:=aht (inp:=List.replicate ins.length 0) h1 (fj.2 ⟨fun z hz=> .inl (List.eq_of_mem_replicate hz),by simp⟩)
  have hb:=hX.bl
  have hv:=hX.h2
  have u1:leI 0 (vs.length:Int)=true:=bw (by omega)
  have u2:leI (vs.length:Int) (vs.length:Int)=true:=bw (by omega)
  have u3:leI ((↑(8:Nat):Int) * (vs.length:Int)) 281474976710656=true:=bw (by omega)
  have u4:leI (vs.length:Int) 9223372036854775807=true:=bw (by omega)
  have u5:leI 0 ((blL ls).length:Int)=true:=bw (by omega)
  have u6:leI ((blL ls).length:Int) ((blL ls).length:Int)=true:=bw (by omega)
  have u7:leI ((↑(24:Nat):Int) * ((blL ls).length:Int)) 281474976710656=true:=bw (by omega)
  have u8:leI ((blL ls).length:Int) 9223372036854775807=true:=bw (by omega)
  have hLn:=(RQ.1 hT).2.2.2.2.2.2
  have f2:iR vs ls=true:=by simp only [iR,HP,u1,u2,u3,u4,u5,u6,u7,u8,hLn,allT,cond_true]
  have h200:=alE h3
  have m1:cdG nm ins vs os g ls (zv vs) l=true:=aoB.2 ⟨hT,dv (by rw [zv,List.length_replicate];omega),by omega,fun x hx=>dv (hA x hx)⟩
  have m2:aod nm ins vs os g ls (zv vs) (UK (blL ls)) l=bif !l.all (fun x=>bitsB ins.length x)then 2 else 0:=by
   simp only [aod,h1,hS];cases l.all (fun x=>bitsB ins.length x) <;> rfl
  rw [m1,m2,h1,h3,f2]
  rcases h with⟨_,_,h4,h2⟩ | ⟨_,_,h4,h2⟩
  ·rw [h2,h4];simp
  ·have hA2: ∀ x∈l,bitsB ins.length x=true:=List.all_eq_true.1 h4
   obtain⟨v1,v2⟩:=afi l nm g ins vs os ls [] (zv vs) (UK (blL ls)) (by omega) h1 hA2 h200 hS rfl
   rw [al2 (ins:=ins) (vs:=vs) (os:=os) (g:=g) (ls:=ls) (f:=uf g ins vs os ls) (fun b a=>rfl)]at v2
   rw [h2,h4,v1,v2]
   simp [qj]
theorem apr(nm:ByteArray)(ins vs os:List ByteArray)(g:ByteArray)(ls:List LN)(l:List (List Int))(h:rgN nm ins vs os g ls l=true):Uk nm g ins vs os ls l=rgC nm ins vs os g ls l∧Ul nm g ins vs os ls l=rgV nm ins vs os g ls l∧Um nm g ins vs os ls l=rgB nm ins vs os g ls l∧Ok nm g ins vs os ls l=true:=by
 obtain⟨s0,s1,s2,s3,s4⟩:=arz nm ins vs os g ls l h
 exact⟨s0,s2,s3,by simp only [Ok,s4,allT,cond_true]⟩
theorem apa(nm:ByteArray)(ins vs os:List ByteArray)(g:ByteArray)(ls:List LN)(l:List (List Int))(h:rgN nm ins vs os g ls l=true):TE nm g ins vs os ls l=rgC nm ins vs os g ls l∧TF nm g ins vs os ls l=rgV nm ins vs os g ls l∧TG nm g ins vs os ls l=rgB nm ins vs os g ls l∧NK nm g ins vs os ls l=true:=by
 obtain⟨s0,s1,s2,s3,s4⟩:=ars nm ins vs os g ls l h
 exact⟨s0,s2,s3,by simp only [NK,s4,allT,cond_true]⟩
def Tt:List SV→List Entry→Option Out
 | [.one ⟨true,[.val (.string x0),.ref 0,.ref 1,.ref 2,.val (.string x1),.ref 3]⟩,.one ⟨false,[.ref 4]⟩],[.row false 9 (.str) x2,.row false 9 (.str) x3,.row false 9 (.str) x4,.row false 204 (.pair (.str) (.sl 178 (.pair (.int .i64) (.pair (.str) (.int .i64))))) x5,.row false 41 (.sl 2 (.int .i64)) x6]=>some ⟨.tup [⟨true,[.ref 5,.ref 6]⟩,⟨false,[.val (.int .i64 (rgC x0 x2 x3 x4 x1 x5 x6))]⟩],[.row false 9 aih x2,.row false 9 aih x3,.row false 9 aih x4,.row false 204 (CTy.pair CTy.str (CTy.sl (178:TypeId) acD)) x5,.row false 41 (CTy.sl (2:TypeId) agR) x6],[.row true 2 agR (rgV x0 x2 x3 x4 x1 x5 x6),.row true 172 abM (rgB x0 x2 x3 x4 x1 x5 x6)],[rgN x0 x2 x3 x4 x1 x5 x6]⟩
 |_,_=>none
def NP:PF prog:=PF.alt aeG Tt (by
 intro args es o h cB;unfold Tt at h;split at h
 ·rename_i x0 x1 x2 x3 x4 x5 x6
  cases h
  have cB:=mq cB
  have hh:=apr x0 x2 x3 x4 x1 x5 x6 cB
  obtain⟨e0,e1,e2,en⟩:=hh
  exact rg rfl (lJ en) (by simp only [e0] <;> rfl) rfl (by simp only [e1,e2] <;> rfl)
 ·cases h)
def Tr:List SV→List Entry→Option Out
 | [.one ⟨true,[.val (.string x0),.ref 0,.ref 1,.ref 2,.val (.string x1),.ref 3]⟩,.one ⟨false,[.ref 4]⟩],[.row false 9 (.str) x2,.row false 9 (.str) x3,.row false 9 (.str) x4,.row false 204 (.pair (.str) (.sl 178 (.pair (.int .i64) (.pair (.str) (.int .i64))))) x5,.row false 41 (.sl 2 (.int .i64)) x6]=>some ⟨.tup [⟨true,[.ref 5,.ref 6]⟩,⟨false,[.val (.int .i64 (rgC x0 x2 x3 x4 x1 x5 x6))]⟩],[.row false 9 aih x2,.row false 9 aih x3,.row false 9 aih x4,.row false 204 (CTy.pair CTy.str (CTy.sl (178:TypeId) acD)) x5,.row false 41 (CTy.sl (2:TypeId) agR) x6],[.row true 2 agR (rgV x0 x2 x3 x4 x1 x5 x6),.row true 172 abM (rgB x0 x2 x3 x4 x1 x5 x6)],[rgN x0 x2 x3 x4 x1 x5 x6]⟩
 |_,_=>none
def NN:PF prog:=PF.alt aeE Tr (by
 intro args es o h cB;unfold Tr at h;split at h
 ·rename_i x0 x1 x2 x3 x4 x5 x6
  cases h
  have cB:=mq cB
  have hh:=apa x0 x2 x3 x4 x1 x5 x6 cB
  obtain⟨e0,e1,e2,en⟩:=hh
  exact rg rfl (lJ en) (by simp only [e0] <;> rfl) rfl (by simp only [e1,e2] <;> rfl)
 ·cases h)
def aj5:List ByteArray→Nat
 | []=>0
 |s::r=>s.size + aj5 r
def aol(k:Int)(s:ByteArray):Int:=IntKind.i64.wrap (k - (s.size:Int))
def ah6:Int→List ByteArray→Int
 |k,[]=>k
 |k,s::r=>bif ltI (aol k s) 0 then -1 else ah6 (aol k s) r
def MX(k:Int)(ts:List ByteArray):Int:=bif ltI (k - ts.length) 0 then -1 else ah6 (k - ts.length) ts
def qg(b:ByteArray):(Int)→Nat ⊕ (Int)
 |y1=>(bif(ltI (IntKind.wrap .i64 (y1 - (↑(ByteArray.size b):Int))) (0:Int))then(.inl 0)else(.inr (IntKind.wrap .i64 (y1 - (↑(ByteArray.size b):Int)))))
def pj(y2:List ByteArray)(i:Nat):(Int)→lO
 |y1=>((i:Int),y1,y2)
def KV:lO→Int
 |(_,y1,_)=>y1
theorem acP(y2:List ByteArray)(y1:Int)(hn:y2.length≤9223372036854775807):
  dz.fin ((0:Int),y1,y2)=true∧dz.res ((0:Int),y1,y2)=((af (qg) 1 y2 0 y1).1,(pj y2) (af (qg) 1 y2 0 y1).2.1 (af (qg) 1 y2 0 y1).2.2):=by
 have jb:=dz.along (pj y2) KV (qg) 1 (fun _ _=>True) y2 y1 (by trivial) (by simp only [dz,pj];omega) (fun i b a hb hI=> ?_) (fun a hI=> ?_)
 ·exact jb
 ·obtain y1:=a
  have eB:=(List.getElem?_eq_some_iff.1 hb).1
  have il: ∀ d,Option.getD y2[i]? d=b:=fun d=>by rw [hb];rfl
  have hw:=tZ eB hn
  have bM:ltI (i:Int) (y2.length:Int)=true:=dO (by omega)
  have vC:leI (0:Int) (i:Int)=true:=bw (by omega)
  have gI:ltN i y2.length=true:=fQ eB
  refine⟨?_,?_,?_,?_⟩
  ·simp [vf,wI,Bb,Bc,Bd,th,Be,Bf,zb,dz,LT.nds,allT,pj,bM,vC,gI,il]
  ·simp [vf,wI,Bb,Bc,Bd,th,Be,Bf,zb,dz,LT.each,pj,KV,hw]
  ·simp only [vf,wI,Bb,Bc,Bd,th,Be,Bf,zb,dz,LT.fn,pj,KV,qg,Int.toNat_natCast,bM,vC,gI,il,cond_true,Bool.cond_self]
  ·exact fun _ _=>trivial
 ·obtain y1:=a
  simp [vf,wI,Bb,Bc,Bd,th,Be,Bf,zb,dz,LT.out,pj]
theorem anf: ∀ (r:List ByteArray) (i:Nat) (k:Int),(bif Nat.beq (af qg 1 r i k).1 0 then -1 else(af qg 1 r i k).2.2)=ah6 k r
 | [],i,k=>rfl
 |t::r,i,k=>by
  have hf:qg t k=bif ltI (aol k t) 0 then .inl 0 else .inr (aol k t):=rfl
  simp only [af,hf,ah6]
  cases h:ltI (aol k t) 0 with
  |true=>rfl
  |false=>simp only [cond_false];exact anf r (i + 1) _
theorem arB(k:Int)(xs:List ByteArray)(h:(leN xs.length 9223372036854775807&&(leI (-1) k&&leI k 1048576))=true):QT k xs=MX k xs∧QU k xs=true:=by
 simp only [Bool.and_eq_true,fX,EV]at h
 have hw:IntKind.i64.wrap (k - (xs.length:Int))=k - (xs.length:Int):=aR (by omega) (by omega)
 obtain⟨w1,w2⟩:=acP xs (k - (xs.length:Int)) h.1
 have hs:=anf xs 0 (k - (xs.length:Int))
 have e:th= -1:=rfl
 simp only [QT,QU,JW,JX,hw,w1,w2,pj,allT,Bool.or_true,cond_true,MX,e,hs,and_self]
theorem ah7: ∀ (r:List ByteArray) (k:Int),(∀ t∈r,t.size≤9223372036854775807)→0≤k→k≤1048576→ltI (ah6 k r) 0=false→ah6 k r=k - aj5 r∧(aj5 r:Int)≤k
 | [],k,_,h0,h1,_=>by simp [ah6,aj5];omega
 |t::r,k,hs,h0,h1,h=>by
  have hz:=hs t (by simp)
  have ht:aol k t=k - (t.size:Int):=by rw [aol];exact aR (by omega) (by omega)
  simp only [ah6]at h ⊢
  rw [ht]at h ⊢
  cases h2:ltI (k - (t.size:Int)) 0 with
  |true=>rw [h2]at h;exact absurd (show ltI (-1) 0=false from h) (by decide)
  |false=>
   have h3:=vW.1 h2
   rw [h2,cond_false]at h
   obtain⟨q1,q2⟩:=ah7 r _ (fun t ht=>hs t (by simp [ht])) h3 (by omega) h
   rw [cond_false,q1]
   simp only [aj5]
   omega
theorem aff{k:Int}{xs:List ByteArray}(hs: ∀ t∈xs,t.size≤9223372036854775807)(hk:k≤1048576)(h:ltI (MX k xs) 0=false):MX k xs=k - xs.length - aj5 xs∧(xs.length:Int) + aj5 xs≤k:=by
 simp only [MX]at h ⊢
 cases h2:ltI (k - (xs.length:Int)) 0 with
 |true=>rw [h2]at h;simp at h
 |false=>
  have h3:=vW.1 h2
  rw [h2,cond_false]at h
  obtain⟨q1,q2⟩:=ah7 xs _ hs h3 (by omega) h
  rw [cond_false,q1]
  omega
def WE:List SV→List Entry→Option Out
 | [.one ⟨false,[.ref 0]⟩,.one ⟨false,[.val (.int .i64 x0)]⟩],[.row false 9 (.str) x1]=>some ⟨.one ⟨false,[.val (.int .i64 (MX x0 x1))]⟩,[.row false 9 aih x1],[],[leN x1.length 9223372036854775807&&(leI (-1) x0&&leI x0 1048576)]⟩
 |_,_=>none
def Rc:PF prog:=PF.alt ahg WE (by
 intro args es o h cB;unfold WE at h;split at h
 ·rename_i x0 x1
  cases h
  have cB:=mq cB
  have hh:=arB x0 x1 cB
  obtain⟨e0,en⟩:=hh
  exact rg rfl (lJ en) (by simp only [e0] <;> rfl) rfl rfl
 ·cases h)
def afN(xs ys:List ByteArray):Bool:=decide (xs=ys)
theorem ao3(xs:List ByteArray):afN xs xs=true:=by simp [afN]
def tc(y1:List ByteArray)(b:Nat):(List ByteArray)→Nat ⊕ (List ByteArray)
 |y2=>(.inr (List.set y2 b (Option.getD y1[b]? ByteArray.empty)))
def po(y1:List ByteArray)(i:Nat):(List ByteArray)→lQ
 |y2=>((i:Int),y1,y2)
def KX:lQ→List ByteArray
 |(_,_,y2)=>y2
theorem acR(y1 y2:List ByteArray)(hn:y1.length≤9223372036854775807)(hl:y2.length=y1.length):
  fv.fin ((0:Int),y1,y2)=true∧fv.res ((0:Int),y1,y2)=((af (tc y1) 0 (List.range y1.length) 0 y2).1,(po y1) (af (tc y1) 0 (List.range y1.length) 0 y2).2.1 (af (tc y1) 0 (List.range y1.length) 0 y2).2.2):=by
 have jb:=fv.along (po y1) KX (tc y1) 0 (fun _ a=>a.length=y1.length) (List.range y1.length) y2 hl (by simp only [fv,po,List.length_range];omega) (fun i b a hb hI=> ?_) (fun a hI=> ?_)
 ·exact jb
 ·obtain y2:=a
  obtain⟨rfl,eB⟩:=np hb
  have hw:IntKind.i64.wrap ((b:Int) + 1)=((b + 1:Nat):Int):=by rw [aR (by omega) (by omega)];omega
  have bM:ltI (b:Int) (y1.length:Int)=true:=dO (by omega)
  have vC:leI (0:Int) (b:Int)=true:=bw (by omega)
  have gI:ltN b y1.length=true:=fQ (by omega)
  refine⟨?_,?_,?_,?_⟩
  ·simp [wL,wM,Bk,Bl,Bm,Bn,Bo,zd,fv,LT.nds,allT,po,bM,vC,gI,hI]
  ·simp [wL,wM,Bk,Bl,Bm,Bn,Bo,zd,fv,LT.each,po,KX,hw,hI]
  ·simp only [wL,wM,Bk,Bl,Bm,Bn,Bo,zd,fv,LT.fn,po,KX,tc,Int.toNat_natCast,bM,cond_true]
  ·intro a' hf;simp only [tc,Sum.inr.injEq]at hf;subst hf;simpa using hI
 ·obtain y2:=a
  simp [wL,wM,Bk,Bl,Bm,Bn,Bo,zd,fv,LT.out,po,List.length_range]
def wB(y1 y2:List ByteArray)(b:Nat):(Unit)→Nat ⊕ (Unit)
 |_=>(bif(!ByteArray.toList (Option.getD y1[b]? ByteArray.empty)==ByteArray.toList (Option.getD y2[b]? ByteArray.empty))then(.inl 0)else(.inr ()))
def rO(y1 y2:List ByteArray)(i:Nat):(Unit)→lL
 |_=>((i:Int),y1,y2)
def KS:lL→Unit
 |(_,_,_)=>()
theorem acM(y1 y2:List ByteArray) (hn:y1.length≤9223372036854775807) (he:y2.length=y1.length):
  ew.fin ((0:Int),y1,y2)=true∧ew.res ((0:Int),y1,y2)=((af (wB y1 y2) 1 (List.range y1.length) 0 ()).1,(rO y1 y2) (af (wB y1 y2) 1 (List.range y1.length) 0 ()).2.1 (af (wB y1 y2) 1 (List.range y1.length) 0 ()).2.2):=by
 have jb:=ew.along (rO y1 y2) KS (wB y1 y2) 1 (fun _ _=>True) (List.range y1.length) () (by trivial) (by simp only [ew,rO,List.length_range];omega) (fun i b a hb hI=> ?_) (fun a hI=> ?_)
 ·exact jb
 ·obtain⟨⟩:=a
  obtain⟨rfl,eB⟩:=np hb
  have hw:IntKind.i64.wrap ((b:Int) + 1)=((b + 1:Nat):Int):=by rw [aR (by omega) (by omega)];omega
  have bM:ltI (b:Int) (y1.length:Int)=true:=dO (by omega)
  have vC:leI (0:Int) (b:Int)=true:=bw (by omega)
  have gI:ltN b y1.length=true:=fQ (by omega)
  refine⟨?_,?_,?_,?_⟩
  ·simp [wE,wF,AD,AE,AF,AG,AH,yX,ew,LT.nds,allT,rO,bM,vC,gI,he]
  ·simp [wE,wF,AD,AE,AF,AG,AH,yX,ew,LT.each,rO,KS,hw,he]
  ·simp only [wE,wF,AD,AE,AF,AG,AH,yX,ew,LT.fn,rO,KS,wB,Int.toNat_natCast,bM,cond_true]
  ·exact fun _ _=>trivial
 ·obtain⟨⟩:=a
  simp [wE,wF,AD,AE,AF,AG,AH,yX,ew,LT.out,rO,List.length_range]
theorem alY(xs:List ByteArray)(hn:leN xs.length 1048576=true):LE xs=xs∧LF xs=true:=by
 have hn:=fX.1 hn
 have hr:(List.replicate (Int.toNat (xs.length:Int)) (⟨#[]⟩:ByteArray)).length=xs.length:=by simp
 obtain⟨w1,w2⟩:=acR xs (List.replicate (Int.toNat (xs.length:Int)) (⟨#[]⟩:ByteArray)) (by omega) hr
 have hc:=Xl (xs:=xs) (d:=ByteArray.empty) (g:=fun x=>x) (f:=tc xs) (e:=0) (fun b a=>rfl) hr
 rw [hc]at w2
 refine⟨?_,?_⟩
 ·simp only [Kb,LE,LF,w2,po];simp
 ·simp only [Kb,LE,LF,w1,allT];simp;omega
def WG:List SV→List Entry→Option Out
 | [.one ⟨false,[.ref 0]⟩],[.row false 9 (.str) x0]=>some ⟨.one ⟨false,[.ref 1]⟩,[.row false 9 aih x0],[.row true 9 aih x0],[leN x0.length 1048576]⟩
 |_,_=>none
def Re:PF prog:=PF.alt ahi WG (by
 intro args es o h cB;unfold WG at h;split at h
 ·rename_i x0
  cases h
  have cB:=mq cB
  have hh:=alY x0 cB
  obtain⟨e0,en⟩:=hh
  exact rg rfl (lJ en) rfl rfl (by simp only [e0] <;> rfl)
 ·cases h)
theorem alo(xs ys:List ByteArray)(hn:leN xs.length 9223372036854775807=true):Lz xs ys=afN xs ys∧LA xs ys=true:=by
 have hn:=fX.1 hn
 unfold afN
 have h3: ∀ a b:ByteArray,(!(a.toList==b.toList))= !decide (a=b):=fun a b=>by
  by_cases h:a=b <;> simp [h,al9]
 by_cases hl:ys.length=xs.length
 ·obtain⟨w1,w2⟩:=acM xs ys hn hl
  have ha:=aiR (d:=ByteArray.empty) hl (P:=fun b=> !decide (Option.getD xs[b]? ByteArray.empty=Option.getD ys[b]? ByteArray.empty)) (fun b=>rfl)
  rw [iH (P:=fun b=> !decide (Option.getD xs[b]? ByteArray.empty=Option.getD ys[b]? ByteArray.empty)) (j:=0) (fun b=>by simp only [wB,h3]),ha]at w2
  simp only [JH,JI,Lz,LA,w1,w2,allT]
  by_cases he:xs=ys
  ·subst he;simp;decide
  ·simp [he,hl]
 ·have QG:xs≠ys:=fun h=>hl (by rw [h])
  simp [JH,JI,Lz,LA,allT,QG]
  omega
def WB:List SV→List Entry→Option Out
 | [.one ⟨false,[.ref 0]⟩,.one ⟨false,[.ref 1]⟩],[.row false 9 (.str) x0,.row false 9 (.str) x1]=>some ⟨.one ⟨false,[.val (.bool (afN x0 x1))]⟩,[.row false 9 aih x0,.row false 9 aih x1],[],[leN x0.length 9223372036854775807]⟩
 |_,_=>none
def Ra:PF prog:=PF.alt ahd WB (by
 intro args es o h cB;unfold WB at h;split at h
 ·rename_i x0 x1
  cases h
  have cB:=mq cB
  have hh:=alo x0 x1 cB
  obtain⟨e0,en⟩:=hh
  exact rg rfl (lJ en) (by simp only [e0] <;> rfl) rfl rfl
 ·cases h)
section
variable (x0:ByteArray)(x1:Int)(x2:List (Int×ByteArray×Int))
def yV:Int:=IntKind.wrap .i64 (x1 - (↑(ByteArray.size x0):Int))
def IQ:Int:=bif ltI (yV x0 x1) (0:Int)then(-1:Int)else bif ltI (alX (yV x0 x1) x2) (0:Int)then(-1:Int)else alX (yV x0 x1) x2
def RA:Bool:=allT [ltI (yV x0 x1) (0:Int)||leN x2.length (9223372036854775807:Nat)&&(leI (-1:Int) (yV x0 x1)&&leI (yV x0 x1) (1048576:Int))]
end
def ac1:List SV→List Entry→Option Out
 | [.one ⟨true,[.val (.string x0),.ref 0]⟩,.one ⟨false,[.val (.int .i64 x1)]⟩],[.row false 175 (.pair (.int .i64) (.pair (.str) (.int .i64))) x2]=>some ⟨.one ⟨false,[.val (.int .i64 (IQ x0 x1 x2))]⟩,[.row false 175 acD x2],[],[RA x0 x1 x2]⟩
 |_,_=>none
def IV:PF prog:=PF.ofG prog [TZ,PF.lend TZ,PF.fz TZ] [] aN 200 f200 func200 (fun c _=>LOk.nil c) ac1 (by
 intro vs es r h;unfold ac1 at h;split at h
 ·cases h;kernel_rfl
 ·cases h)
abbrev oL:=Int×Int×List (ByteArray×(List (Int×(ByteArray×Int))))
def mZ(y0:Int)(y2:List (ByteArray×(List (Int×(ByteArray×Int))))):ByteArray×List (Int×ByteArray×Int):=Option.getD y2[Int.toNat y0]? (rY (CTy.pair CTy.str (CTy.sl (175:Nat) acD)))
def CG(y0 y1:Int)(y2:List (ByteArray×(List (Int×(ByteArray×Int))))):Int:=IQ ((mZ y0 y2).1) y1 ((mZ y0 y2).2)
def Ad(y0:Int)(y2:List (ByteArray×(List (Int×(ByteArray×Int))))):Bool:=ltI y0 (↑y2.length:Int)
def JS(y0:Int):Bool:=leI (0:Int) y0
def JT(y0:Int)(y2:List (ByteArray×(List (Int×(ByteArray×Int))))):Bool:=ltN y0.toNat y2.length
def ED(y0 y1:Int)(y2:List (ByteArray×(List (Int×(ByteArray×Int))))):Bool:=RA ((mZ y0 y2).1) y1 ((mZ y0 y2).2)
def EE(y0 y1:Int)(y2:List (ByteArray×(List (Int×(ByteArray×Int))))):Bool:=ltI (CG y0 y1 y2) (0:Int)
def EF:Int:=(-1:Int)
def PD(y0:Int):Int:=IntKind.wrap .i64 (y0 + (1:Int))
def JU(y0 y1:Int)(y2:List (ByteArray×(List (Int×(ByteArray×Int))))):Int:=CG y0 y1 y2
def adN:oL→List (Nat×SV)
 |(y0,y1,_)=> [(5,(.one ⟨false,[.val (.int .i64 y0)]⟩)),(0,(.one ⟨false,[.ref 0]⟩)),(1,(.one ⟨false,[.val (.int .i64 y1)]⟩))]
def adD:oL→List (Nat×Entry)
 |(_,_,y2)=> [(0,(.row false 225 (CTy.pair CTy.str (CTy.sl (175:Nat) acD)) y2))]
def ad7:Nat→oL→List (Nat×SV)
 |0,(_,_,_)=> [(4,(.one ⟨false,[.val (.int .i64 (EF))]⟩))]
 |_,(_,y1,_)=> [(1,(.one ⟨false,[.val (.int .i64 y1)]⟩))]
def adX:Nat→oL→List (Nat×Entry)
 |0,(_,_,y2)=> [(0,(.row false 225 (CTy.pair CTy.str (CTy.sl (175:Nat) acD)) y2))]
 |_,(_,_,y2)=> [(0,(.row false 225 (CTy.pair CTy.str (CTy.sl (175:Nat) acD)) y2))]
def CR:oL→LT oL
 |(y0,y1,y2)=> .ite (Ad y0 y2) (.need [JS y0,Ad y0 y2,JT y0 y2,ED y0 y1 y2] (.ite (EE y0 y1 y2) (.ext 0 [(0,0)]) (.nrm ((PD y0),JU y0 y1 y2,y2) [(0,0)]))) (.ext 1 [(0,0)])
def Oc(s:St):Option oL:=
 (match s.look 5 with
 |some ⟨none,.one ⟨false,[.val (.int .i64 y0)]⟩⟩=>
 (match s.look 0 with
 |some ⟨none,.one ⟨false,[.ref 0]⟩⟩=>
 (match s.look 1 with
 |some ⟨none,.one ⟨false,[.val (.int .i64 y1)]⟩⟩=>
 (match s.ent 0 with
 |some (.row false 225 (.pair .str (.sl (175:Nat) (.pair (.int .i64) (.pair .str (.int .i64))))) y2)=>
 some (y0,y1,y2)
 |_=>none)
 |_=>none)
 |_=>none)
 |_=>none)
def eY:Lp oL where
 h:=⟨[12,13,14,15,18,19,20,21,22,23,1,24,25,4,16,17,5],[0],[],[]⟩
 JL:=adN
 JE:=adD
 XL:=ad7
 XE:=adX
 q:=fun j=>match j with | 0=> .ret | _=> .exit 0
 tags:= [0,1]
 lt:=CR
 fuel:=fun(y0,y1,y2)=>y0.natAbs + y1.natAbs + y2.length
 fix:=fun(_,_,y2) (y0,y1,_)=>(y0,y1,y2)
 σ:= [(0,0)]
 rd:=Oc
theorem abl:LoopOk prog (fun k=>Nat.blt k Tryz.f130.ntmps) eY.F (aL f130 0):=by
 refine Lp.ok (tbl:= [IV,PF.lend IV,PF.fz IV]) (lf:= []) aN eY (by kernel_rfl) (LOk.nil _) (fun _=>rfl) (fun j _=>by unfold eY;match j with | 0=>rfl | _ + 1=>rfl) ?_ ?_ ?_ ?_ (fun _=>rfl) ?_
 ·rintro⟨y0,y1,y2⟩;kernel_rfl
 ·rintro⟨y0,y1,y2⟩;kernel_rfl
 ·intro s x h
  have h:Oc s=some x:=h
  unfold Oc at h
  repeat' split at h
  all_goals cases h
  exact⟨aa (by assumption) rfl (aa (by assumption) rfl (aa (by assumption) rfl (rfl))),ab rfl (by assumption) rfl (rfl)⟩
 ·rintro⟨y0,y1,y2⟩;kernel_rfl
 ·rintro⟨y0,y1,y2⟩ z;exact(And.intro (And.intro trivial rfl) trivial)
section
variable (x0:Int)(x1:List (ByteArray×List (Int×ByteArray×Int)))
def ID:Int:=IntKind.wrap .i64 (x0 - (↑x1.length:Int))
def Nj:Int×Int×List (ByteArray×List (Int×ByteArray×Int)):=((0:Int),ID x0 x1,x1)
def GD:Int:=bif ltI (ID x0 x1) (0:Int)then(-1:Int)else bif Nat.beq ((Lp.res eY (Nj x0 x1)).1) (0:Nat)then EF else ((Lp.res eY (Nj x0 x1)).2.2).1
def KL:Bool:=allT [ltI (ID x0 x1) (0:Int)||Lp.fin eY (Nj x0 x1)]
end
def ZP:List SV→List Entry→Option Out
 | [.one ⟨false,[.ref 0]⟩,.one ⟨false,[.val (.int .i64 x0)]⟩],[.row false 225 (.pair (.str) (.sl 175 (.pair (.int .i64) (.pair (.str) (.int .i64))))) x1]=>some ⟨.one ⟨false,[.val (.int .i64 (GD x0 x1))]⟩,[.row false 225 (CTy.pair CTy.str (CTy.sl (175:TypeId) acD)) x1],[],[KL x0 x1]⟩
 |_,_=>none
def Uc:PF prog:=PF.ofG prog [IV,PF.lend IV,PF.fz IV] [eY.F] aN 130 f130 func130 (LOk.fnT (l:= [aL f130 0]) (by kernel_rfl) (.cons abl (.nil _))) ZP (by
 intro vs es r h;unfold ZP at h;split at h
 ·cases h;kernel_rfl
 ·cases h)
section
variable (x0 x1:ByteArray)(x2:Int)(x3 x4 x5:List ByteArray)(x6:List (ByteArray×List (Int×ByteArray×Int)))
def cU:Int:=IntKind.wrap .i64 (x2 - (↑(ByteArray.size x0):Int))
def EG:Bool:=ltI (MX (MX (cU x0 x2) x3) x4) (0:Int)
def JV:Bool:=ltI (MX (MX (MX (cU x0 x2) x3) x4) x5) (0:Int)
def Ae:Int:=IntKind.wrap .i64 (MX (MX (MX (cU x0 x2) x3) x4) x5 - (↑(ByteArray.size x1):Int))
def EH:Bool:=ltI (Ae x0 x1 x2 x3 x4 x5) (0:Int)
def fk:Int:=bif ltI (cU x0 x2) (0:Int)then(-1:Int)else bif ltI (MX (cU x0 x2) x3) (0:Int)then(-1:Int)else bif EG x0 x2 x3 x4 then(-1:Int)else bif JV x0 x2 x3 x4 x5 then(-1:Int)else bif EH x0 x1 x2 x3 x4 x5 then(-1:Int)else bif ltI (GD (Ae x0 x1 x2 x3 x4 x5) x6) (0:Int)then(-1:Int)else GD (Ae x0 x1 x2 x3 x4 x5) x6
def sc:Bool:=allT [ltI (cU x0 x2) (0:Int)||leN x3.length (9223372036854775807:Nat)&&(leI (-1:Int) (cU x0 x2)&&leI (cU x0 x2) (1048576:Int)),ltI (cU x0 x2) (0:Int)||(ltI (MX (cU x0 x2) x3) (0:Int)||leN x4.length (9223372036854775807:Nat)&&(leI (-1:Int) (MX (cU x0 x2) x3)&&leI (MX (cU x0 x2) x3) (1048576:Int))),ltI (cU x0 x2) (0:Int)||(ltI (MX (cU x0 x2) x3) (0:Int)||(EG x0 x2 x3 x4||leN x5.length (9223372036854775807:Nat)&&(leI (-1:Int) (MX (MX (cU x0 x2) x3) x4)&&leI (MX (MX (cU x0 x2) x3) x4) (1048576:Int)))),ltI (cU x0 x2) (0:Int)||(ltI (MX (cU x0 x2) x3) (0:Int)||(EG x0 x2 x3 x4||(JV x0 x2 x3 x4 x5||(EH x0 x1 x2 x3 x4 x5||KL (Ae x0 x1 x2 x3 x4 x5) x6))))]
end
def Wo:List SV→List Entry→Option Out
 | [.one ⟨true,[.val (.string x0),.ref 0,.ref 1,.ref 2,.val (.string x1),.ref 3]⟩,.one ⟨false,[.val (.int .i64 x2)]⟩],[.row false 9 (.str) x3,.row false 9 (.str) x4,.row false 9 (.str) x5,.row false 225 (.pair (.str) (.sl 175 (.pair (.int .i64) (.pair (.str) (.int .i64))))) x6]=>some ⟨.one ⟨false,[.val (.int .i64 (fk x0 x1 x2 x3 x4 x5 x6))]⟩,[.row false 9 aih x3,.row false 9 aih x4,.row false 9 aih x5,.row false 225 (CTy.pair CTy.str (CTy.sl (175:TypeId) acD)) x6],[],[sc x0 x1 x2 x3 x4 x5 x6]⟩
 |_,_=>none
def Rj:PF prog:=PF.ofG prog [Rc,PF.lend Rc,PF.fz Rc,Uc,PF.lend Uc,PF.fz Uc] [] aN 58 f58 func58 (fun c _=>LOk.nil c) Wo (by
 intro vs es r h;unfold Wo at h;split at h
 ·cases h;kernel_rfl
 ·cases h)
def VR(x1:List (Int×ByteArray×Int)):Bool:=allT [leN x1.length (1048576:Nat)]
def ac3:List SV→List Entry→Option Out
 | [.one ⟨true,[.val (.string x0),.ref 0]⟩],[.row false 175 (.pair (.int .i64) (.pair (.str) (.int .i64))) x1]=>some ⟨.one ⟨true,[.val (.string x0),.ref 1]⟩,[.row false 175 acD x1],[.row true 178 acD x1],[VR x1]⟩
 |_,_=>none
def IW:PF prog:=PF.ofG prog [Ua,PF.lend Ua,PF.fz Ua] [] aN 201 f201 func201 (fun c _=>LOk.nil c) ac3 (by
 intro vs es r h;unfold ac3 at h;split at h
 ·cases h;kernel_rfl
 ·cases h)
abbrev oN:=Int×List (ByteArray×(List (Int×(ByteArray×Int))))×List (ByteArray×(List (Int×(ByteArray×Int))))
def ul(y0:Int)(y1:List (ByteArray×(List (Int×(ByteArray×Int))))):ByteArray×List (Int×ByteArray×Int):=Option.getD y1[Int.toNat y0]? (rY (CTy.pair CTy.str (CTy.sl (175:Nat) acD)))
def Ag(y0:Int)(y1:List (ByteArray×(List (Int×(ByteArray×Int))))):Bool:=ltI y0 (↑y1.length:Int)
def Ah(y0:Int):Bool:=leI (0:Int) y0
def EN(y0:Int)(y1:List (ByteArray×(List (Int×(ByteArray×Int))))):Bool:=ltN y0.toNat y1.length
def Ai(y0:Int)(y1:List (ByteArray×(List (Int×(ByteArray×Int))))):Bool:=VR ((ul y0 y1).2)
def EO(y0:Int)(y2:List (ByteArray×(List (Int×(ByteArray×Int))))):Bool:=ltI y0 (↑y2.length:Int)
def EP(y0:Int)(y2:List (ByteArray×(List (Int×(ByteArray×Int))))):Bool:=ltN y0.toNat y2.length
def JZ(y0:Int):Int:=IntKind.wrap .i64 (y0 + (1:Int))
def Ka(y0:Int)(y1 y2:List (ByteArray×(List (Int×(ByteArray×Int))))):List (ByteArray×(List (Int×(ByteArray×Int)))):=List.set y2 y0.toNat ((ul y0 y1).1,(ul y0 y1).2)
def adP:oN→List (Nat×SV)
 |(y0,_,_)=> [(4,(.one ⟨false,[.val (.int .i64 y0)]⟩)),(0,(.one ⟨false,[.ref 0]⟩)),(3,(.one ⟨false,[.ref 1]⟩))]
def adF:oN→List (Nat×Entry)
 |(_,y1,y2)=> [(0,(.row false 225 (CTy.pair CTy.str (CTy.sl (175:Nat) acD)) y1)),(1,(.tree 204 (CTy.pair CTy.str (CTy.sl (178:Nat) acD)) y2 none))]
def ad9:Nat→oN→List (Nat×SV)
 |_,(_,_,_)=> []
def adZ:Nat→oN→List (Nat×Entry)
 |_,(_,y1,y2)=> [(0,(.row false 225 (CTy.pair CTy.str (CTy.sl (175:Nat) acD)) y1)),(1,(.tree 204 (CTy.pair CTy.str (CTy.sl (178:Nat) acD)) y2 none))]
def CT:oN→LT oN
 |(y0,y1,y2)=> .ite (Ag y0 y1) (.need [Ah y0,Ag y0 y1,EN y0 y1,Ai y0 y1,Ah y0,EO y0 y2,EP y0 y2] (.nrm ((JZ y0),y1,(Ka y0 y1 y2)) [(0,0),(1,1)])) (.ext 0 [(0,0),(1,1)])
def Oe(s:St):Option oN:=
 (match s.look 4 with
 |some ⟨none,.one ⟨false,[.val (.int .i64 y0)]⟩⟩=>
 (match s.look 0 with
 |some ⟨none,.one ⟨false,[.ref 0]⟩⟩=>
 (match s.look 3 with
 |some ⟨none,.one ⟨false,[.ref 320]⟩⟩=>
 (match s.ent 0 with
 |some (.row false 225 (.pair .str (.sl (175:Nat) (.pair (.int .i64) (.pair .str (.int .i64))))) y1)=>
 (match s.ent 320 with
 |some (.tree 204 (.pair .str (.sl (178:Nat) (.pair (.int .i64) (.pair .str (.int .i64))))) y2 none)=>
 some (y0,y1,y2)
 |_=>none)
 |_=>none)
 |_=>none)
 |_=>none)
 |_=>none)
def iD:Lp oN where
 h:=⟨[8,9,10,11,14,15,16,17,18,19,20,21,12,13,4],[0,1],[],[]⟩
 JL:=adP
 JE:=adF
 XL:=ad9
 XE:=adZ
 q:=fun j=>match j with | _=> .exit 0
 tags:= [0]
 lt:=CT
 fuel:=fun(y0,y1,y2)=>y0.natAbs + y1.length + y2.length
 fix:=fun(_,y1,_) (y0,_,y2)=>(y0,y1,y2)
 σ:= [(0,0),(1,320)]
 rd:=Oe
theorem abn:LoopOk prog (fun k=>Nat.blt k Tryz.f132.ntmps) iD.F (aL f132 0):=by
 refine Lp.ok (tbl:= [PF.trees prog,IW,PF.lend IW,PF.fz IW]) (lf:= []) aN iD (by kernel_rfl) (LOk.nil _) (fun _=>rfl) (fun _ _=>rfl) ?_ ?_ ?_ ?_ (fun _=>rfl) ?_
 ·rintro⟨y0,y1,y2⟩;kernel_rfl
 ·rintro⟨y0,y1,y2⟩;kernel_rfl
 ·intro s x h
  have h:Oe s=some x:=h
  unfold Oe at h
  repeat' split at h
  all_goals cases h
  exact⟨aa (by assumption) rfl (aa (by assumption) rfl (aa (by assumption) rfl (rfl))),ab rfl (by assumption) rfl (ab rfl (by assumption) rfl (rfl))⟩
 ·rintro⟨y0,y1,y2⟩;kernel_rfl
 ·rintro⟨y0,y1,y2⟩ z;exact(And.intro rfl trivial)
def wY(x0:List (ByteArray×List (Int×ByteArray×Int))):Int:=(↑x0.length:Int)
def Nq(x0:List (ByteArray×List (Int×ByteArray×Int))):Int×List (ByteArray×List (Int×ByteArray×Int))×List (ByteArray×List (Int×ByteArray×Int)):=
 ((0:Int),x0,List.replicate (Int.toNat (wY x0)) ({ data:= #[] },[]))
def KM(x0:List (ByteArray×List (Int×ByteArray×Int))):List (ByteArray×(List (Int×(ByteArray×Int)))):=(Lp.res iD (Nq x0)).2.2.2
def PE(x0:List (ByteArray×List (Int×ByteArray×Int))):Bool:=allT [leI (0:Int) (wY x0),leI (wY x0) (wY x0),leI ((↑(40:Nat):Int) * wY x0) (281474976710656:Int),leI (wY x0) (9223372036854775807:Int),Lp.fin iD (Nq x0)]
def ZR:List SV→List Entry→Option Out
 | [.one ⟨false,[.ref 0]⟩],[.row false 225 (.pair (.str) (.sl 175 (.pair (.int .i64) (.pair (.str) (.int .i64))))) x0]=>some ⟨.one ⟨false,[.ref 1]⟩,[.row false 225 (CTy.pair CTy.str (CTy.sl (175:TypeId) acD)) x0],[.tree 204 (CTy.pair CTy.str (CTy.sl (178:Nat) acD)) (KM x0) none],[PE x0]⟩
 |_,_=>none
def Ud:PF prog:=PF.ofG prog [PF.trees prog,IW,PF.lend IW,PF.fz IW] [iD.F] aN 132 f132 func132 (LOk.fnT (l:= [aL f132 0]) (by kernel_rfl) (.cons abn (.nil _))) ZR (by
 intro vs es r h;unfold ZR at h;split at h
 ·cases h;kernel_rfl
 ·cases h)
def bu(x5:List (ByteArray×List (Int×ByteArray×Int))):List (ByteArray×(List (Int×(ByteArray×Int)))):=KM x5
def BP(x2 x3 x4:List ByteArray)(x5:List (ByteArray×List (Int×ByteArray×Int))):Bool:=allT [leN x2.length (1048576:Nat),leN x3.length (1048576:Nat),leN x4.length (1048576:Nat),PE x5]
def Wr:List SV→List Entry→Option Out
 | [.one ⟨true,[.val (.string x0),.ref 0,.ref 1,.ref 2,.val (.string x1),.ref 3]⟩],[.row false 9 (.str) x2,.row false 9 (.str) x3,.row false 9 (.str) x4,.row false 225 (.pair (.str) (.sl 175 (.pair (.int .i64) (.pair (.str) (.int .i64))))) x5]=>some ⟨.one ⟨true,[.val (.string x0),.ref 4,.ref 5,.ref 6,.val (.string x1),.ref 7]⟩,[.row false 9 aih x2,.row false 9 aih x3,.row false 9 aih x4,.row false 225 (CTy.pair CTy.str (CTy.sl (175:TypeId) acD)) x5],[.row true 9 aih x2,.row true 9 aih x3,.row true 9 aih x4,.tree 204 (CTy.pair CTy.str (CTy.sl (178:Nat) acD)) (bu x5) none],[BP x2 x3 x4 x5]⟩
 |_,_=>none
def Rk:PF prog:=PF.ofG prog [PF.trees prog,Re,PF.lend Re,PF.fz Re,Ud,PF.lend Ud,PF.fz Ud] [] aN 59 f59 func59 (fun c _=>LOk.nil c) Wr (by
 intro vs es r h;unfold Wr at h;split at h
 ·cases h;kernel_rfl
 ·cases h)
section
variable (x0 x1:ByteArray)(x2 x3:List (Int×ByteArray×Int))
def TL:Bool:= !ByteArray.toList x0==ByteArray.toList x1
def MP:Bool:=bif TL x0 x1 then false else bif !ao4 x2 x3 then false else true
def VQ:Bool:=allT [TL x0 x1||leN x2.length (9223372036854775807:Nat)]
end
def acZ:List SV→List Entry→Option Out
 | [.one ⟨true,[.val (.string x0),.ref 0]⟩,.one ⟨true,[.val (.string x1),.ref 1]⟩],[.row false 178 (.pair (.int .i64) (.pair (.str) (.int .i64))) x2,.row false 178 (.pair (.int .i64) (.pair (.str) (.int .i64))) x3]=>some ⟨.one ⟨false,[.val (.bool (MP x0 x1 x2 x3))]⟩,[.row false 178 acD x2,.row false 178 acD x3],[],[VQ x0 x1 x2]⟩
 |_,_=>none
def IU:PF prog:=PF.ofG prog [TY,PF.lend TY,PF.fz TY] [] aN 202 f202 func202 (fun c _=>LOk.nil c) acZ (by
 intro vs es r h;unfold acZ at h;split at h
 ·cases h;kernel_rfl
 ·cases h)
abbrev oJ:=Int×List (ByteArray×(List (Int×(ByteArray×Int))))×List (ByteArray×(List (Int×(ByteArray×Int))))
def pw(y0:Int)(y1:List (ByteArray×(List (Int×(ByteArray×Int))))):ByteArray×List (Int×ByteArray×Int):=Option.getD y1[Int.toNat y0]? (rY (CTy.pair CTy.str (CTy.sl (178:Nat) acD)))
def xU(y0:Int)(y2:List (ByteArray×(List (Int×(ByteArray×Int))))):ByteArray×List (Int×ByteArray×Int):=Option.getD y2[Int.toNat y0]? (rY (CTy.pair CTy.str (CTy.sl (178:Nat) acD)))
def zU(y0:Int)(y1:List (ByteArray×(List (Int×(ByteArray×Int))))):Bool:=ltI y0 (↑y1.length:Int)
def zV(y0:Int):Bool:=leI (0:Int) y0
def Eo(y0:Int)(y1:List (ByteArray×(List (Int×(ByteArray×Int))))):Bool:=ltN y0.toNat y1.length
def Ep(y0:Int)(y2:List (ByteArray×(List (Int×(ByteArray×Int))))):Bool:=ltI y0 (↑y2.length:Int)
def Er(y0:Int)(y2:List (ByteArray×(List (Int×(ByteArray×Int))))):Bool:=ltN y0.toNat y2.length
def zW(y0:Int)(y1 y2:List (ByteArray×(List (Int×(ByteArray×Int))))):Bool:=VQ ((pw y0 y1).1) ((xU y0 y2).1) ((pw y0 y1).2)
def Es(y0:Int)(y1 y2:List (ByteArray×(List (Int×(ByteArray×Int))))):Bool:= !MP ((pw y0 y1).1) ((xU y0 y2).1) ((pw y0 y1).2) ((xU y0 y2).2)
def JF(y0:Int):Int:=IntKind.wrap .i64 (y0 + (1:Int))
def adL:oJ→List (Nat×SV)
 |(y0,_,_)=> [(5,(.one ⟨false,[.val (.int .i64 y0)]⟩)),(0,(.one ⟨false,[.ref 0]⟩)),(1,(.one ⟨false,[.ref 1]⟩))]
def adB:oJ→List (Nat×Entry)
 |(_,y1,y2)=> [(0,(.row false 204 (CTy.pair CTy.str (CTy.sl (178:Nat) acD)) y1)),(1,(.row false 204 (CTy.pair CTy.str (CTy.sl (178:Nat) acD)) y2))]
def ad5:Nat→oJ→List (Nat×SV)
 |0,(_,_,_)=> [(4,(.one ⟨false,[.val (.bool false)]⟩))]
 |_,(_,_,_)=> []
def adV:Nat→oJ→List (Nat×Entry)
 |0,(_,y1,y2)=> [(0,(.row false 204 (CTy.pair CTy.str (CTy.sl (178:Nat) acD)) y1)),(1,(.row false 204 (CTy.pair CTy.str (CTy.sl (178:Nat) acD)) y2))]
 |_,(_,y1,y2)=> [(0,(.row false 204 (CTy.pair CTy.str (CTy.sl (178:Nat) acD)) y1)),(1,(.row false 204 (CTy.pair CTy.str (CTy.sl (178:Nat) acD)) y2))]
def CP:oJ→LT oJ
 |(y0,y1,y2)=> .ite (zU y0 y1) (.need [zV y0,zU y0 y1,Eo y0 y1,zV y0,Ep y0 y2,Er y0 y2,zW y0 y1 y2] (.ite (Es y0 y1 y2) (.ext 0 [(0,0),(1,1)]) (.nrm ((JF y0),y1,y2) [(0,0),(1,1)]))) (.ext 1 [(0,0),(1,1)])
def Oa(s:St):Option oJ:=
 (match s.look 5 with
 |some ⟨none,.one ⟨false,[.val (.int .i64 y0)]⟩⟩=>
 (match s.look 0 with
 |some ⟨none,.one ⟨false,[.ref 0]⟩⟩=>
 (match s.look 1 with
 |some ⟨none,.one ⟨false,[.ref 1]⟩⟩=>
 (match s.ent 0 with
 |some (.row false 204 (.pair .str (.sl (178:Nat) (.pair (.int .i64) (.pair .str (.int .i64))))) y1)=>
 (match s.ent 1 with
 |some (.row false 204 (.pair .str (.sl (178:Nat) (.pair (.int .i64) (.pair .str (.int .i64))))) y2)=>
 some (y0,y1,y2)
 |_=>none)
 |_=>none)
 |_=>none)
 |_=>none)
 |_=>none)
def gz:Lp oJ where
 h:=⟨[11,12,13,14,17,18,19,20,21,22,23,24,25,26,4,15,16,5],[0,1],[],[]⟩
 JL:=adL
 JE:=adB
 XL:=ad5
 XE:=adV
 q:=fun j=>match j with | 0=> .ret | _=> .exit 0
 tags:= [0,1]
 lt:=CP
 fuel:=fun(y0,y1,y2)=>y0.natAbs + y1.length + y2.length
 fix:=fun(_,y1,y2) (y0,_,_)=>(y0,y1,y2)
 σ:= [(0,0),(1,1)]
 rd:=Oa
theorem abj:LoopOk prog (fun k=>Nat.blt k Tryz.f134.ntmps) gz.F (aL f134 0):=by
 refine Lp.ok (tbl:= [IU,PF.lend IU,PF.fz IU]) (lf:= []) aN gz (by kernel_rfl) (LOk.nil _) (fun _=>rfl) (fun j _=>by unfold gz;match j with | 0=>rfl | _ + 1=>rfl) ?_ ?_ ?_ ?_ (fun _=>rfl) ?_
 ·rintro⟨y0,y1,y2⟩;kernel_rfl
 ·rintro⟨y0,y1,y2⟩;kernel_rfl
 ·intro s x h
  have h:Oa s=some x:=h
  unfold Oa at h
  repeat' split at h
  all_goals cases h
  exact⟨aa (by assumption) rfl (aa (by assumption) rfl (aa (by assumption) rfl (rfl))),ab rfl (by assumption) rfl (ab rfl (by assumption) rfl (rfl))⟩
 ·rintro⟨y0,y1,y2⟩;kernel_rfl
 ·rintro⟨y0,y1,y2⟩ z;exact(And.intro (And.intro trivial rfl) trivial)
section
variable (x0 x1:List (ByteArray×List (Int×ByteArray×Int)))
def Ng:Bool:=(↑x0.length:Int)!=(↑x1.length:Int)
def Si:Int×List (ByteArray×List (Int×ByteArray×Int))×List (ByteArray×List (Int×ByteArray×Int)):=((0:Int),x0,x1)
def Px:Bool:=bif Ng x0 x1 then false else bif Nat.beq ((Lp.res gz (Si x0 x1)).1) (0:Nat)then false else true
def Py:Bool:=allT [Ng x0 x1||Lp.fin gz (Si x0 x1)]
end
def ZN:List SV→List Entry→Option Out
 | [.one ⟨false,[.ref 0]⟩,.one ⟨false,[.ref 1]⟩],[.row false 204 (.pair (.str) (.sl 178 (.pair (.int .i64) (.pair (.str) (.int .i64))))) x0,.row false 204 (.pair (.str) (.sl 178 (.pair (.int .i64) (.pair (.str) (.int .i64))))) x1]=>some ⟨.one ⟨false,[.val (.bool (Px x0 x1))]⟩,[.row false 204 (CTy.pair CTy.str (CTy.sl (178:TypeId) acD)) x0,.row false 204 (CTy.pair CTy.str (CTy.sl (178:TypeId) acD)) x1],[],[Py x0 x1]⟩
 |_,_=>none
def Ub:PF prog:=PF.ofG prog [IU,PF.lend IU,PF.fz IU] [gz.F] aN 134 f134 func134 (LOk.fnT (l:= [aL f134 0]) (by kernel_rfl) (.cons abj (.nil _))) ZN (by
 intro vs es r h;unfold ZN at h;split at h
 ·cases h;kernel_rfl
 ·cases h)
section
variable (x0 x1 x2 x3:ByteArray)(x4 x5 x6:List ByteArray)(x7:List (ByteArray×List (Int×ByteArray×Int)))(x8 x9 x10:List ByteArray)(x11:List (ByteArray×List (Int×ByteArray×Int)))
def vU:Bool:= !ByteArray.toList x0==ByteArray.toList x2
def JG:Bool:= !ByteArray.toList x1==ByteArray.toList x3
def Lx:Bool:=bif vU x0 x2 then false else bif !afN x4 x8 then false else bif !afN x5 x9 then false else bif !afN x6 x10 then false else bif JG x1 x3 then false else bif !Px x7 x11 then false else true
def Ly:Bool:=allT [vU x0 x2||leN x4.length (9223372036854775807:Nat),vU x0 x2||(!afN x4 x8||leN x5.length (9223372036854775807:Nat)),vU x0 x2||(!afN x4 x8||(!afN x5 x9||leN x6.length (9223372036854775807:Nat))),vU x0 x2||(!afN x4 x8||(!afN x5 x9||(!afN x6 x10||(JG x1 x3||Py x7 x11))))]
end
def Wj:List SV→List Entry→Option Out
 | [.one ⟨true,[.val (.string x0),.ref 0,.ref 1,.ref 2,.val (.string x1),.ref 3]⟩,.one ⟨true,[.val (.string x2),.ref 4,.ref 5,.ref 6,.val (.string x3),.ref 7]⟩],[.row false 9 (.str) x4,.row false 9 (.str) x5,.row false 9 (.str) x6,.row false 204 (.pair (.str) (.sl 178 (.pair (.int .i64) (.pair (.str) (.int .i64))))) x7,.row false 9 (.str) x8,.row false 9 (.str) x9,.row false 9 (.str) x10,.row false 204 (.pair (.str) (.sl 178 (.pair (.int .i64) (.pair (.str) (.int .i64))))) x11]=>some ⟨.one ⟨false,[.val (.bool (Lx x0 x1 x2 x3 x4 x5 x6 x7 x8 x9 x10 x11))]⟩,[.row false 9 aih x4,.row false 9 aih x5,.row false 9 aih x6,.row false 204 (CTy.pair CTy.str (CTy.sl (178:TypeId) acD)) x7,.row false 9 aih x8,.row false 9 aih x9,.row false 9 aih x10,.row false 204 (CTy.pair CTy.str (CTy.sl (178:TypeId) acD)) x11],[],[Ly x0 x1 x2 x3 x4 x5 x6 x7 x8 x9 x10 x11]⟩
 |_,_=>none
def Rh:PF prog:=PF.ofG prog [Ra,PF.lend Ra,PF.fz Ra,Ub,PF.lend Ub,PF.fz Ub] [] aN 60 f60 func60 (fun c _=>LOk.nil c) Wj (by
 intro vs es r h;unfold Wj at h;split at h
 ·cases h;kernel_rfl
 ·cases h)
def lnSz(l:LN):Prop:=l.1.size≤9223372036854775807∧l.2.length≤9223372036854775807∧ ∀ t∈l.2,t.2.1.size≤9223372036854775807
def aiB(k:Int)(l:LN):Int:=IQ l.1 k l.2
theorem afe{l:LN}{k:Int}(h:lnSz l)(hk:0≤k∧k≤1048576):
  RA l.1 k l.2=true∧(ltI (aiB k l) 0=false→aiB k l=k - l.1.size - l.2.length - akt l.2∧(l.1.size:Int) + l.2.length + akt l.2≤k):=by
 obtain⟨h1,h2,h3⟩:=h
 have ha:yV l.1 k=k - (l.1.size:Int):=by simp only [yV];exact aR (by omega) (by omega)
 simp only [aiB,IQ,RA,ha]
 cases e:ltI (k - (l.1.size:Int)) 0 with
 |true=>exact⟨rfl,fun h=>absurd (show ltI (-1) 0=false from h) (by decide)⟩
 |false=>
  have e2:=vW.1 e
  have t1:leI (-1) (k - (l.1.size:Int))=true:=bw (by omega)
  have t2:leI (k - (l.1.size:Int)) 1048576=true:=bw (by omega)
  refine⟨by simp only [dv h2,t1,t2,allT,Bool.false_or,Bool.and_self,cond_true],?_⟩
  cases e3:ltI (alX (k - (l.1.size:Int)) l.2) 0 with
  |true=>exact fun h=>absurd (show ltI (-1) 0=false from h) (by decide)
  |false=>
   intro _
   obtain⟨q1,q2⟩:=aoo h3 (by omega) e3
   simp only [cond_false]
   omega
def ah4:Int→List LN→Int
 |k,[]=>k
 |k,l::r=>bif ltI (aiB k l) 0 then -1 else ah4 (aiB k l) r
def aoi(k:Int)(ls:List LN):Int:=bif ltI (k - ls.length) 0 then -1 else ah4 (k - ls.length) ls
def totL:List LN→Nat
 | []=>0
 |l::r=>l.1.size + l.2.length + akt l.2 + totL r
def tA(b:ByteArray×(List (Int×(ByteArray×Int)))):(Int)→Nat ⊕ (Int)
 |y1=>(bif(ltI (IQ b.1 y1 b.2) (0:Int))then(.inl 0)else(.inr (IQ b.1 y1 b.2)))
def rP(y2:List (ByteArray×(List (Int×(ByteArray×Int)))))(i:Nat):(Int)→oL
 |y1=>((i:Int),y1,y2)
def NV:oL→Int
 |(_,y1,_)=>y1
theorem agu(y2:List (ByteArray×(List (Int×(ByteArray×Int)))))(y1:Int)(hn:y2.length≤9223372036854775807)(hA: ∀ l∈y2,lnSz l)(h1:0≤y1∧y1≤1048576):
  eY.fin ((0:Int),y1,y2)=true∧eY.res ((0:Int),y1,y2)=((af (tA) 1 y2 0 y1).1,(rP y2) (af (tA) 1 y2 0 y1).2.1 (af (tA) 1 y2 0 y1).2.2):=by
 have jb:=eY.along (rP y2) NV (tA) 1 (fun _ a=>0≤a∧a≤1048576) y2 y1 h1 (by simp only [eY,rP];omega) (fun i b a hb hI=> ?_) (fun a hI=> ?_)
 ·exact jb
 ·obtain y1:=a
  have eB:=(List.getElem?_eq_some_iff.1 hb).1
  have il: ∀ d,Option.getD y2[i]? d=b:=fun d=>by rw [hb];rfl
  have hw:=tZ eB hn
  have bM:ltI (i:Int) (y2.length:Int)=true:=dO (by omega)
  have vC:leI (0:Int) (i:Int)=true:=bw (by omega)
  have gI:ltN i y2.length=true:=fQ eB
  refine⟨?_,?_,?_,?_⟩
  ·have hg2:mZ (i:Int) y2=b:=by simp only [mZ,Int.toNat_natCast];exact il _
   have h3:ED (i:Int) a y2=true:=by simp only [ED,hg2];exact(afe (hA b (List.mem_of_getElem? hb)) hI).1
   simp only [Ad,JS,JT,CR,eY,LT.nds,allT,rP,h3,bM,vC,gI,Int.toNat_natCast,cond_true,Bool.and_self]
   cases EE (i:Int) a y2 <;> simp [LT.nds]
  ·simp [mZ,CG,Ad,JS,JT,ED,EE,EF,PD,JU,CR,eY,LT.each,rP,NV,hw]
  ·have hg2:mZ (i:Int) y2=b:=by simp only [mZ,Int.toNat_natCast];exact il _
   simp only [Ad,EE,JU,CG,CR,eY,LT.fn,rP,NV,tA,bM,hg2,cond_true]
  ·intro a' hf
   have hs:=(afe (hA b (List.mem_of_getElem? hb)) hI).2
   have hf':(bif ltI (aiB a b) 0 then(.inl 0:Nat ⊕ Int)else .inr (aiB a b))= .inr a':=hf
   cases e:ltI (aiB a b) 0 with
   |true=>rw [e]at hf';cases hf'
   |false=>
    rw [e]at hf'
    simp only [cond_false,Sum.inr.injEq]at hf'
    subst hf'
    obtain⟨q1,q2⟩:=hs e
    omega
 ·obtain y1:=a
  simp [mZ,CG,Ad,JS,JT,ED,EE,EF,PD,JU,CR,eY,LT.out,rP]
theorem ane: ∀ (r:List LN) (i:Nat) (k:Int),(bif Nat.beq (af tA 1 r i k).1 0 then -1 else(af tA 1 r i k).2.2)=ah4 k r
 | [],i,k=>rfl
 |t::r,i,k=>by
  have hf:tA t k=bif ltI (aiB k t) 0 then .inl 0 else .inr (aiB k t):=rfl
  simp only [af,hf,ah4]
  cases h:ltI (aiB k t) 0 with
  |true=>rfl
  |false=>simp only [cond_false];exact ane r (i + 1) _
theorem ah5: ∀ (r:List LN) (k:Int),(∀ t∈r,lnSz t)→0≤k→k≤1048576→ltI (ah4 k r) 0=false→ah4 k r=k - totL r∧(totL r:Int)≤k
 | [],k,_,h0,h1,_=>by simp [ah4,totL];omega
 |t::r,k,hs,h0,h1,h=>by
  have hz:=(afe (hs t (by simp)) ⟨h0,h1⟩).2
  simp only [ah4]at h ⊢
  cases h2:ltI (aiB k t) 0 with
  |true=>rw [h2]at h;exact absurd (show ltI (-1) 0=false from h) (by decide)
  |false=>
   obtain⟨z1,z2⟩:=hz h2
   have h3:=vW.1 h2
   rw [h2,cond_false]at h
   obtain⟨q1,q2⟩:=ah5 r _ (fun t ht=>hs t (by simp [ht])) h3 (by omega) h
   rw [cond_false,q1]
   simp only [totL]
   omega
theorem aq0(k:Int)(xs:List LN)(hn:xs.length≤9223372036854775807)(hA: ∀ l∈xs,lnSz l)(hk:0≤k∧k≤1048576):
  GD k xs=aoi k xs∧KL k xs=true:=by
 have hw:IntKind.i64.wrap (k - (xs.length:Int))=k - (xs.length:Int):=aR (by omega) (by omega)
 have e:EF= -1:=rfl
 cases h2:ltI (k - (xs.length:Int)) 0 with
 |true=>simp only [GD,KL,ID,hw,h2,aoi,allT,Bool.true_or,cond_true,and_self]
 |false=>
  have h3:=vW.1 h2
  obtain⟨w1,w2⟩:=agu xs (k - (xs.length:Int)) hn hA ⟨h3,by omega⟩
  have hs:=ane xs 0 (k - (xs.length:Int))
  simp only [GD,KL,ID,Nj,hw,h2,w1,w2,rP,allT,Bool.or_true,cond_true,cond_false,aoi,e,hs,and_self]
theorem aoj{k:Int}{xs:List LN}(hA: ∀ l∈xs,lnSz l)(hk:k≤1048576)(h:ltI (aoi k xs) 0=false):aoi k xs=k - xs.length - totL xs∧(xs.length:Int) + totL xs≤k:=by
 simp only [aoi]at h ⊢
 cases h2:ltI (k - (xs.length:Int)) 0 with
 |true=>rw [h2]at h;simp at h
 |false=>
  have h3:=vW.1 h2
  rw [h2,cond_false]at h
  obtain⟨q1,q2⟩:=ah5 xs _ hA h3 (by omega) h
  rw [cond_false,q1]
  omega
theorem aj4: ∀ {ls:List LN} {l:LN},l∈ls→l.2.length≤totL ls
 |a::r,l,h=>by
  simp only [totL]
  rcases List.mem_cons.1 h with rfl | h
  ·omega
  ·have:=aj4 h;omega
structure PrSz (nm:ByteArray) (ins vs os:List ByteArray) (g:ByteArray) (ls:List LN):Prop where
 n:nm.size≤9223372036854775807
 i0:ins.length≤9223372036854775807
 i1: ∀ t∈ins,t.size≤9223372036854775807
 v0:vs.length≤9223372036854775807
 v1: ∀ t∈vs,t.size≤9223372036854775807
 o0:os.length≤9223372036854775807
 o1: ∀ t∈os,t.size≤9223372036854775807
 g0:g.size≤9223372036854775807
 l0:ls.length≤9223372036854775807
 l1: ∀ l∈ls,lnSz l
structure PrFit (nm:ByteArray) (ins vs os:List ByteArray) (g:ByteArray) (ls:List LN) (k z:Int):Prop where
 zz:0≤z∧z≤k
 sum:(nm.size:Int) + ins.length + vs.length + os.length + g.size + ls.length + totL ls + z≤k
 pr:prOk nm ins vs os g ls=true
theorem aj3{l:List ByteArray}(h0:l.length≤9223372036854775807)(h1: ∀ t∈l,t.size≤9223372036854775807):QE l=true:=by
 simp only [QE,Bool.and_eq_true,List.all_eq_true]
 exact⟨dv h0,fun t ht=>dv (h1 t ht)⟩
theorem abS{P:Prop}(h:ltI (-1) 0=false):P:=absurd h (by decide)
theorem aok{nm:ByteArray}{ins vs os:List ByteArray}{g:ByteArray}{ls:List LN}(h:PrSz nm ins vs os g ls):
  sc nm g 1048576 ins vs os ls=true∧(ltI (fk nm g 1048576 ins vs os ls) 0=false→PrFit nm ins vs os g ls 1048576 (fk nm g 1048576 ins vs os ls)):=by
 obtain⟨n0,i0,i1,v0,v1,o0,o1,g0,l0,l1⟩:=h
 have a0:cU nm 1048576=1048576 - (nm.size:Int):=by simp only [cU];exact aR (by omega) (by omega)
 cases e0:ltI (1048576 - (nm.size:Int)) 0 with
 |true=>
  simp only [fk,sc,a0,e0,allT,Bool.true_or,cond_true,true_and]
  exact abS
 |false=>
 have z0:=vW.1 e0
 generalize hk0:1048576 - (nm.size:Int)=k0 at a0 e0 z0
 have t0:leI (-1) k0=true:=bw (by omega)
 have t1:leI k0 1048576=true:=bw (by omega)
 cases e1:ltI (MX k0 ins) 0 with
 |true=>
  simp only [fk,sc,a0,e0,e1,t0,t1,dv i0,allT,Bool.true_or,Bool.or_true,Bool.and_self,cond_true,cond_false,true_and]
  exact abS
 |false=>
 have z1:=vW.1 e1
 obtain⟨p1,p2⟩:=aff i1 (by omega) e1
 generalize hk1:MX k0 ins=k1 at e1 z1 p1
 have t2:leI (-1) k1=true:=bw (by omega)
 have t3:leI k1 1048576=true:=bw (by omega)
 have a1:EG nm 1048576 ins vs=ltI (MX k1 vs) 0:=by simp only [EG,a0,hk1]
 cases e2:ltI (MX k1 vs) 0 with
 |true=>
  simp only [fk,sc,a0,a1,e0,e1,e2,hk1,t0,t1,t2,t3,dv i0,dv v0,allT,Bool.true_or,Bool.or_true,Bool.and_self,cond_true,cond_false,true_and]
  exact abS
 |false=>
 have z2:=vW.1 e2
 obtain⟨p3,p4⟩:=aff v1 (by omega) e2
 generalize hk2:MX k1 vs=k2 at e2 z2 p3 a1
 have t4:leI (-1) k2=true:=bw (by omega)
 have t5:leI k2 1048576=true:=bw (by omega)
 have a2:JV nm 1048576 ins vs os=ltI (MX k2 os) 0:=by simp only [JV,a0,hk1,hk2]
 cases e3:ltI (MX k2 os) 0 with
 |true=>
  simp only [fk,sc,a0,a1,a2,e0,e1,e2,e3,hk1,hk2,t0,t1,t2,t3,t4,t5,dv i0,dv v0,dv o0,allT,Bool.true_or,Bool.or_true,Bool.and_self,cond_true,cond_false,true_and]
  exact abS
 |false=>
 have z3:=vW.1 e3
 obtain⟨p5,p6⟩:=aff o1 (by omega) e3
 generalize hk3:MX k2 os=k3 at e3 z3 p5 a2
 have a3:Ae nm g 1048576 ins vs os=k3 - (g.size:Int):=by
  simp only [Ae,a0,hk1,hk2,hk3];exact aR (by omega) (by omega)
 cases e4:ltI (k3 - (g.size:Int)) 0 with
 |true=>
  simp only [fk,sc,EH,a0,a1,a2,a3,e0,e1,e2,e3,e4,hk1,hk2,hk3,t0,t1,t2,t3,t4,t5,dv i0,dv v0,dv o0,allT,Bool.true_or,Bool.or_true,Bool.and_self,cond_true,cond_false,true_and]
  exact abS
 |false=>
 have z4:=vW.1 e4
 obtain⟨s1,s2⟩:=aq0 (k3 - (g.size:Int)) ls l0 l1 ⟨z4,by omega⟩
 refine⟨by simp only [sc,EH,a0,a1,a2,a3,e0,e1,e2,e3,e4,hk1,hk2,hk3,s2,t0,t1,t2,t3,t4,t5,dv i0,dv v0,dv o0,allT,Bool.true_or,Bool.or_true,Bool.and_self,cond_true,cond_false],?_⟩
 simp only [fk,EH,a0,a1,a2,a3,e0,e1,e2,e3,e4,hk1,hk2,hk3,s1,cond_false]
 cases e5:ltI (aoi (k3 - (g.size:Int)) ls) 0 with
 |true=>exact abS
 |false=>
  intro _
  obtain⟨p7,p8⟩:=aoj l1 (by omega) e5
  have z5:=vW.1 e5
  simp only [cond_false]
  refine⟨⟨z5,by omega⟩,by omega,?_⟩
  refine RQ.2 ⟨n0,aj3 i0 i1,aj3 v0 v1,aj3 o0 o1,g0,by omega,?_⟩
  refine OM.2 ⟨by omega,fun l hl=>⟨(l1 l hl).1,OS.2 ⟨?_,(l1 l hl).2.2⟩⟩⟩
  have:=aj4 hl
  omega
def vP(y1:List (ByteArray×(List (Int×(ByteArray×Int)))))(b:Nat):(List (ByteArray×(List (Int×(ByteArray×Int)))))→Nat ⊕ (List (ByteArray×(List (Int×(ByteArray×Int)))))
 |y2=>(.inr (List.set y2 b ((Option.getD y1[b]? (rY (CTy.pair CTy.str (CTy.sl (175:Nat) acD)))).1,(Option.getD y1[b]? (rY (CTy.pair CTy.str (CTy.sl (175:Nat) acD)))).2)))
def rR(y1:List (ByteArray×(List (Int×(ByteArray×Int)))))(i:Nat):(List (ByteArray×(List (Int×(ByteArray×Int)))))→oN
 |y2=>((i:Int),y1,y2)
def NX:oN→List (ByteArray×(List (Int×(ByteArray×Int))))
 |(_,_,y2)=>y2
theorem agw(y1 y2:List (ByteArray×(List (Int×(ByteArray×Int)))))(hn:y1.length≤9223372036854775807)(hl:y2.length=y1.length)(hA: ∀ l∈y1,leN l.2.length 1048576=true):
  iD.fin ((0:Int),y1,y2)=true∧iD.res ((0:Int),y1,y2)=((af (vP y1) 0 (List.range y1.length) 0 y2).1,(rR y1) (af (vP y1) 0 (List.range y1.length) 0 y2).2.1 (af (vP y1) 0 (List.range y1.length) 0 y2).2.2):=by
 have jb:=iD.along (rR y1) NX (vP y1) 0 (fun _ a=>a.length=y1.length) (List.range y1.length) y2 hl (by simp only [iD,rR,List.length_range];omega) (fun i b a hb hI=> ?_) (fun a hI=> ?_)
 ·exact jb
 ·obtain y2:=a
  obtain⟨rfl,eB⟩:=np hb
  have hw:IntKind.i64.wrap ((b:Int) + 1)=((b + 1:Nat):Int):=by rw [aR (by omega) (by omega)];omega
  have bM:ltI (b:Int) (y1.length:Int)=true:=dO (by omega)
  have vC:leI (0:Int) (b:Int)=true:=bw (by omega)
  have gI:ltN b y1.length=true:=fQ (by omega)
  refine⟨?_,?_,?_,?_⟩
  ·have Gq: ∀ d:LN,(Option.getD y1[b]? d)∈y1:=fun d=>by rw [List.getElem?_eq_getElem eB];exact List.getElem_mem eB
   have h3:Ai (b:Int) y1=true:=by simp only [Ai,VR,ul,Int.toNat_natCast,allT];exact congrArg (fun z:Bool=>bif z then true else false) (hA _ (Gq _))
   simp only [Ag,Ah,EN,EO,EP,CT,iD,LT.nds,allT,rR,h3,hI,bM,vC,gI,Int.toNat_natCast,cond_true,Bool.and_self]
  ·simp [ul,Ag,Ah,EN,Ai,EO,EP,JZ,Ka,CT,iD,LT.each,rR,NX,hw,hI]
  ·simp only [ul,Ag,Ah,EN,Ai,EO,EP,JZ,Ka,CT,iD,LT.fn,rR,NX,vP,Int.toNat_natCast,bM,cond_true]
  ·intro a' hf;simp only [vP,Sum.inr.injEq]at hf;subst hf;simpa using hI
 ·obtain y2:=a
  simp [ul,Ag,Ah,EN,Ai,EO,EP,JZ,Ka,CT,iD,LT.out,rR,List.length_range]
def zO(y1 y2:List (ByteArray×(List (Int×(ByteArray×Int)))))(b:Nat):(Unit)→Nat ⊕ (Unit)
 |_=>(bif(!MP ((Option.getD y1[b]? (rY (CTy.pair CTy.str (CTy.sl (178:Nat) acD)))).1) ((Option.getD y2[b]? (rY (CTy.pair CTy.str (CTy.sl (178:Nat) acD)))).1) ((Option.getD y1[b]? (rY (CTy.pair CTy.str (CTy.sl (178:Nat) acD)))).2) ((Option.getD y2[b]? (rY (CTy.pair CTy.str (CTy.sl (178:Nat) acD)))).2))then(.inl 0)else(.inr ()))
def uD(y1 y2:List (ByteArray×(List (Int×(ByteArray×Int)))))(i:Nat):(Unit)→oJ
 |_=>((i:Int),y1,y2)
def NT:oJ→Unit
 |(_,_,_)=>()
theorem ags(y1 y2:List (ByteArray×(List (Int×(ByteArray×Int))))) (hn:y1.length≤9223372036854775807) (he:y2.length=y1.length) (hA: ∀ l∈y1,leN l.2.length 9223372036854775807=true):
  gz.fin ((0:Int),y1,y2)=true∧gz.res ((0:Int),y1,y2)=((af (zO y1 y2) 1 (List.range y1.length) 0 ()).1,(uD y1 y2) (af (zO y1 y2) 1 (List.range y1.length) 0 ()).2.1 (af (zO y1 y2) 1 (List.range y1.length) 0 ()).2.2):=by
 have jb:=gz.along (uD y1 y2) NT (zO y1 y2) 1 (fun _ _=>True) (List.range y1.length) () (by trivial) (by simp only [gz,uD,List.length_range];omega) (fun i b a hb hI=> ?_) (fun a hI=> ?_)
 ·exact jb
 ·obtain⟨⟩:=a
  obtain⟨rfl,eB⟩:=np hb
  have hw:IntKind.i64.wrap ((b:Int) + 1)=((b + 1:Nat):Int):=by rw [aR (by omega) (by omega)];omega
  have bM:ltI (b:Int) (y1.length:Int)=true:=dO (by omega)
  have vC:leI (0:Int) (b:Int)=true:=bw (by omega)
  have gI:ltN b y1.length=true:=fQ (by omega)
  refine⟨?_,?_,?_,?_⟩
  ·have Gq: ∀ d:LN,(Option.getD y1[b]? d)∈y1:=fun d=>by rw [List.getElem?_eq_getElem eB];exact List.getElem_mem eB
   have h5:zW (b:Int) y1 y2=true:=by
    have q:leN (List.length ((pw (b:Int) y1).2)) 9223372036854775807=true:=by simp only [pw,Int.toNat_natCast];exact hA _ (Gq _)
    simp only [zW,VQ,q,allT,Bool.or_true,cond_true]
   simp only [zU,zV,Eo,Ep,Er,CP,gz,LT.nds,allT,uD,h5,he,bM,vC,gI,Int.toNat_natCast,cond_true,Bool.and_self]
   cases Es (b:Int) y1 y2 <;> simp [LT.nds]
  ·simp [pw,xU,zU,zV,Eo,Ep,Er,zW,Es,JF,CP,gz,LT.each,uD,NT,hw,he]
  ·simp only [pw,xU,zU,zV,Eo,Ep,Er,zW,Es,JF,CP,gz,LT.fn,uD,NT,zO,Int.toNat_natCast,bM,cond_true]
  ·exact fun _ _=>trivial
 ·obtain⟨⟩:=a
  simp [pw,xU,zU,zV,Eo,Ep,Er,zW,Es,JF,CP,gz,LT.out,uD,List.length_range]
theorem aop(xs:List LN)(hn:xs.length≤1048576)(hA: ∀ l∈xs,leN l.2.length 1048576=true):KM xs=xs∧PE xs=true:=by
 have hr:(List.replicate (Int.toNat (xs.length:Int)) (((⟨#[]⟩:ByteArray),[]):LN)).length=xs.length:=by simp
 obtain⟨w1,w2⟩:=agw xs (List.replicate (Int.toNat (xs.length:Int)) (((⟨#[]⟩:ByteArray),[]):LN)) (by omega) hr hA
 have hc:=Xl (C:=LN) (xs:=xs) (d:=rY (CTy.pair CTy.str (CTy.sl (175:Nat) acD))) (g:=fun x:LN=>(x.1,x.2)) (f:=vP xs) (e:=0) (fun b a=>rfl) hr
 have kP:xs.map (fun x:LN=>(x.1,x.2))=xs:=List.map_id' xs
 rw [kP]at hc
 rw [hc]at w2
 refine⟨?_,?_⟩
 ·simp only [KM,wY,Nq,w2,rR]
 ·have q1:leI 0 (xs.length:Int)=true:=bw (by omega)
  have q2:leI (xs.length:Int) (xs.length:Int)=true:=bw (by omega)
  have q3:leI (((40:Nat):Int) * (xs.length:Int)) 281474976710656=true:=bw (by omega)
  have q4:leI (xs.length:Int) 9223372036854775807=true:=bw (by omega)
  simp only [PE,wY,Nq,w1,q1,q2,q3,q4,allT,cond_true]
theorem alm(xs:List LN)(hn:xs.length≤9223372036854775807)(hA: ∀ l∈xs,leN l.2.length 9223372036854775807=true):Px xs xs=true∧Py xs xs=true:=by
 obtain⟨w1,w2⟩:=ags xs xs hn rfl hA
 have h3: ∀ a:LN,(!MP a.1 a.1 a.2 a.2)=false:=fun a=>by simp [MP,TL,ao5]
 rw [iH (P:=fun _=>false) (j:=0) (fun b=>by simp only [zO,h3])]at w2
 have hf:((List.range xs.length).any fun _=>false)=false:=by simp
 rw [hf]at w2
 have a0:Ng xs xs=false:=by simp [Ng]
 simp only [Px,Py,Si,a0,w1,w2,allT]
 simp [Nat.beq]
theorem apm{nm:ByteArray}{ins vs os:List ByteArray}{g:ByteArray}{ls:List LN}(h:PrSz nm ins vs os g ls):
  Lx nm g nm g ins vs os ls ins vs os ls=true∧Ly nm g nm g ins vs os ls ins vs os ls=true:=by
 obtain⟨e1,e2⟩:=alm ls h.l0 (fun l hl=>dv (h.l1 l hl).2.1)
 have a0:vU nm nm=false:=by simp [vU]
 have a1:JG g g=false:=by simp [JG]
 simp only [Lx,Ly,a0,a1,ao3,e1,e2,dv h.i0,dv h.v0,dv h.o0,allT,Bool.not_true,Bool.or_true,cond_true,cond_false,and_self]
theorem aqQ{nm:ByteArray}{ins vs os:List ByteArray}{g:ByteArray}{ls:List LN}{z:Int}(h:PrFit nm ins vs os g ls 1048576 z)(h2:PrSz nm ins vs os g ls):
  KM ls=ls∧bu ls=ls∧BP ins vs os ls=true:=by
 have hs:=h.sum
 have hz:=h.zz
 obtain⟨t1,t2⟩:=aop ls (by omega) (fun l hl=>by have:=aj4 hl;exact dv (by omega))
 refine⟨t1,t1,?_⟩
 simp only [BP,t2,dv (show ins.length≤1048576 by omega),dv (show vs.length≤1048576 by omega),dv (show os.length≤1048576 by omega),allT,cond_true]
abbrev qd:=Int×Int×List (ByteArray×(List (Int×(ByteArray×Int))))
def rj(y0 y1:Int)(y2:List (ByteArray×(List (Int×(ByteArray×Int))))):List (ByteArray×List (Int×ByteArray×Int)):=List.set y2 y0.toNat (oc y1,(Option.getD y2[Int.toNat y0]? (rY (CTy.pair CTy.str (CTy.sl (178:Nat) acD)))).2)
def yT(y1:Int):Int:=IntKind.wrap .i64 (y1 + (1:Int))
def rk(y0 y1:Int)(y2:List (ByteArray×(List (Int×(ByteArray×Int))))):ByteArray×List (Int×ByteArray×Int):=Option.getD (rj y0 y1 y2)[Int.toNat y0]? (rY (CTy.pair CTy.str (CTy.sl (178:Nat) acD)))
def FM(y0:Int)(y2:List (ByteArray×(List (Int×(ByteArray×Int))))):Bool:=ltI y0 (↑y2.length:Int)
def SI(y1:Int):Bool:=leI (0:Int) y1&&leI y1 (9223372036854775807:Int)
def Mh(y0:Int):Bool:=leI (0:Int) y0
def SJ(y0:Int)(y2:List (ByteArray×(List (Int×(ByteArray×Int))))):Bool:=ltN y0.toNat y2.length
def SK(y0 y1:Int)(y2:List (ByteArray×(List (Int×(ByteArray×Int))))):Bool:=ltI y0 (↑(List.length (rj y0 y1 y2)):Int)
def SL(y0 y1:Int)(y2:List (ByteArray×(List (Int×(ByteArray×Int))))):Bool:=ltN y0.toNat (List.length (rj y0 y1 y2))
def Mi(y0 y1:Int)(y2:List (ByteArray×(List (Int×(ByteArray×Int))))):Bool:=adq (3:Nat) (yT y1) (List.length ((rk y0 y1 y2).2))&&leN (List.length ((rk y0 y1 y2).2)) (9223372036854775807:Nat)
def SM(y0:Int):Int:=IntKind.wrap .i64 (y0 + (1:Int))
def AL(y0 y1:Int)(y2:List (ByteArray×(List (Int×(ByteArray×Int))))):Int:=yT y1 + (3:Int) * (↑(List.length ((rk y0 y1 y2).2)):Int)
def AM(y0 y1:Int)(y2:List (ByteArray×(List (Int×(ByteArray×Int))))):List (ByteArray×(List (Int×(ByteArray×Int)))):=List.set (rj y0 y1 y2) y0.toNat ((rk y0 y1 y2).1,QN (yT y1) ((rk y0 y1 y2).2))
def aap:qd→List (Nat×SV)
 |(y0,y1,_)=> [(5,(.one ⟨false,[.val (.int .i64 y0)]⟩)),(0,(.one ⟨false,[.ref 0]⟩)),(1,(.one ⟨false,[.val (.int .i64 y1)]⟩))]
def aaf:qd→List (Nat×Entry)
 |(_,_,y2)=> [(0,(.tree 204 (CTy.pair CTy.str (CTy.sl (178:Nat) acD)) y2 none))]
def aaS:Nat→qd→List (Nat×SV)
 |_,(_,y1,_)=> [(1,(.one ⟨false,[.val (.int .i64 y1)]⟩))]
def aaI:Nat→qd→List (Nat×Entry)
 |_,(_,_,y2)=> [(0,(.tree 204 (CTy.pair CTy.str (CTy.sl (178:Nat) acD)) y2 none))]
def yY:qd→LT qd
 |(y0,y1,y2)=> .ite (FM y0 y2) (.need [SI y1,Mh y0,FM y0 y2,SJ y0 y2] (.need [Mh y0,SK y0 y1 y2,SL y0 y1 y2,Mi y0 y1 y2] (.nrm ((SM y0),AL y0 y1 y2,(AM y0 y1 y2)) [(0,0)]))) (.ext 0 [(0,0)])
def Lb(s:St):Option qd:=
 (match s.look 5 with
 |some ⟨none,.one ⟨false,[.val (.int .i64 y0)]⟩⟩=>
 (match s.look 0 with
 |some ⟨none,.one ⟨false,[.ref 0]⟩⟩=>
 (match s.look 1 with
 |some ⟨none,.one ⟨false,[.val (.int .i64 y1)]⟩⟩=>
 (match s.ent 0 with
 |some (.tree 204 (.pair .str (.sl (178:Nat) (.pair (.int .i64) (.pair .str (.int .i64))))) y2 none)=>
 some (y0,y1,y2)
 |_=>none)
 |_=>none)
 |_=>none)
 |_=>none)
def gP:Lp qd where
 h:=⟨[6,7,8,9,12,13,14,15,16,17,18,19,1,20,21,22,23,24,25,26,10,11,5],[0],[],[]⟩
 JL:=aap
 JE:=aaf
 XL:=aaS
 XE:=aaI
 q:=fun j=>match j with | _=> .exit 0
 tags:= [0]
 lt:=yY
 fuel:=fun(y0,y1,y2)=>y0.natAbs + y1.natAbs + y2.length
 fix:=fun(_,_,_) (y0,y1,y2)=>(y0,y1,y2)
 σ:= [(0,0)]
 rd:=Lb
theorem XR:LoopOk prog (fun k=>Nat.blt k Tryz.f138.ntmps) gP.F (aL f138 0):=by
 refine Lp.ok (tbl:= [PF.trees prog,Nt,BR,PF.lend BR,PF.fz BR]) (lf:= []) aN gP (by kernel_rfl) (LOk.nil _) (fun _=>rfl) (fun _ _=>rfl) ?_ ?_ ?_ ?_ (fun _=>rfl) ?_
 ·rintro⟨y0,y1,y2⟩;kernel_rfl
 ·rintro⟨y0,y1,y2⟩;kernel_rfl
 ·intro s x h
  have h:Lb s=some x:=h
  unfold Lb at h
  repeat' split at h
  all_goals cases h
  exact⟨aa (by assumption) rfl (aa (by assumption) rfl (aa (by assumption) rfl (rfl))),ab rfl (by assumption) rfl (rfl)⟩
 ·rintro⟨y0,y1,y2⟩;kernel_rfl
 ·rintro⟨y0,y1,y2⟩ z;exact(And.intro rfl trivial)
section
variable (x0:Int)(x1:List (ByteArray×List (Int×ByteArray×Int)))
def JN:Int×Int×List (ByteArray×List (Int×ByteArray×Int)):=((0:Int),x0,x1)
def PB:Int×List (ByteArray×List (Int×ByteArray×Int)):=(Lp.res gP (JN x0 x1)).2.2
def LB:Int:=(PB x0 x1).1
def WQ:List (ByteArray×(List (Int×(ByteArray×Int)))):=(PB x0 x1).2
def LC:Bool:=allT [Lp.fin gP (JN x0 x1)]
end
def Wl:List SV→List Entry→Option Out
 | [.one ⟨false,[.ref 0]⟩,.one ⟨false,[.val (.int .i64 x0)]⟩],[.tree 204 (.pair (.str) (.sl 178 (.pair (.int .i64) (.pair (.str) (.int .i64))))) x1 none]=>some ⟨.one ⟨false,[.val (.int .i64 (LB x0 x1))]⟩,[.tree 204 (CTy.pair CTy.str (CTy.sl (178:Nat) acD)) (WQ x0 x1) none],[],[LC x0 x1]⟩
 |_,_=>none
def Ri:PF prog:=PF.ofG prog [PF.trees prog,Nt,BR,PF.lend BR,PF.fz BR] [gP.F] aN 138 f138 func138 (LOk.fnT (l:= [aL f138 0]) (by kernel_rfl) (.cons XR (.nil _))) Wl (by
 intro vs es r h;unfold Wl at h;split at h
 ·cases h;kernel_rfl
 ·cases h)
section
variable (x2:Int)(x3 x4 x5:List ByteArray)(x6:List (ByteArray×List (Int×ByteArray×Int)))
def rl:Int:=LB (de (de (de x2 x3) x4) x5) x6
def aet:List ByteArray:=HV x2 x3
def aeu:List ByteArray:=HV (de x2 x3) x4
def aev:List ByteArray:=HV (de (de x2 x3) x4) x5
def aew:List (ByteArray×(List (Int×(ByteArray×Int)))):=WQ (de (de (de x2 x3) x4) x5) x6
def HU:Bool:=allT [xV x2 x3,xV (de x2 x3) x4,xV (de (de x2 x3) x4) x5,LC (de (de (de x2 x3) x4) x5) x6]
end
def Ti:List SV→List Entry→Option Out
 | [.one ⟨true,[.val (.string _x0),.ref 0,.ref 1,.ref 2,.val (.string _x1),.ref 3]⟩,.one ⟨false,[.val (.int .i64 x2)]⟩],[.row true 9 (.str) x3,.row true 9 (.str) x4,.row true 9 (.str) x5,.tree 204 (.pair (.str) (.sl 178 (.pair (.int .i64) (.pair (.str) (.int .i64))))) x6 none]=>some ⟨.one ⟨false,[.val (.int .i64 (rl x2 x3 x4 x5 x6))]⟩,[.row true 9 aih (aet x2 x3),.row true 9 aih (aeu x2 x3 x4),.row true 9 aih (aev x2 x3 x4 x5),.tree 204 (CTy.pair CTy.str (CTy.sl (178:Nat) acD)) (aew x2 x3 x4 x5 x6) none],[],[HU x2 x3 x4 x5 x6]⟩
 |_,_=>none
def NR:PF prog:=PF.ofG prog [PF.trees prog,NS,PF.lend NS,PF.fz NS,Ri,PF.lend Ri,PF.fz Ri] [] aN 63 f63 func63 (fun c _=>LOk.nil c) Ti (by
 intro vs es r h;unfold Ti at h;split at h
 ·cases h;kernel_rfl
 ·cases h)
theorem ahA{A B:Type}(f:B→A→Nat ⊕ A)(e:Nat)(Inv:Nat→A→Prop): ∀ (xs:List B) (i:Nat) (a:A),Inv i a→(∀ j b a,xs[j]? =some b→Inv (i + j) a→ ∃ a',f b a= .inr a'∧Inv (i + j + 1) a')→
  (af f e xs i a).1=e∧(af f e xs i a).2.1=i + xs.length∧Inv (i + xs.length) (af f e xs i a).2.2
 | [],i,a,h,_=>⟨rfl,rfl,h⟩
 |b::r,i,a,h,hs=>by
  obtain⟨a',h1,h2⟩:=hs 0 b a rfl h
  have ih:=ahA f e Inv r (i + 1) a' h2 (fun j b a hb hI=>by
   have:=hs (j + 1) b a (by simpa using hb) (by rw [show i + (j + 1)=i + 1 + j by omega];exact hI)
   rw [show i + (j + 1) + 1=i + 1 + j + 1 by omega]at this
   exact this)
  simp only [af,h1,List.length_cons]
  rw [show i + (r.length + 1)=i + 1 + r.length by omega]
  exact ih
theorem agY(k:Int)(xs:List ByteArray)(h0:0≤k)(h1:k + xs.length≤9000000000000000000)(hn:xs.length≤1048576):de k xs=k + xs.length∧xV k xs=true:=by
 have hst: ∀ i b (a:Int×List ByteArray),(List.range xs.length)[i]? =some b→(a.2.length=xs.length∧0≤a.1∧a.1 + ((xs.length - i:Nat):Int)=k + xs.length)→
   ∃ a',(fun(b:Nat) (a:Int×List ByteArray)=>(.inr (xu a.1,xw (b:Int) a.1 a.2):Nat ⊕ (Int×List ByteArray))) b a= .inr a'∧(a'.2.length=xs.length∧0≤a'.1∧a'.1 + ((xs.length - (i + 1):Nat):Int)=k + xs.length):=by
  intro i b a hb hI
  obtain⟨rfl,eB⟩:=np hb
  obtain⟨i1,i2,i3⟩:=hI
  refine⟨_,rfl,?_⟩
  have hw:IntKind.i64.wrap (a.1 + 1)=a.1 + 1:=aR (by omega) (by omega)
  simp only [xu,xw,List.length_set,hw]
  refine⟨i1,by omega,by omega⟩
 have jb:=eU.along2 (fun i (a:Int×List ByteArray)=>((i:Int),a.1,a.2)) (fun x=>x.2) (fun(b:Nat) (a:Int×List ByteArray)=> .inr (xu a.1,xw (b:Int) a.1 a.2)) 0
  (fun i a=>a.2.length=xs.length∧0≤a.1∧a.1 + ((xs.length - i:Nat):Int)=k + xs.length) (List.range xs.length) (k,xs) ⟨rfl,h0,by simp⟩ (by rw [List.length_range];omega) (fun i b a hb hI=> ?_) (fun a hI=> ?_)
 ·obtain⟨_,q1,q2,q3,q4⟩:=ahA (fun(b:Nat) (a:Int×List ByteArray)=>(.inr (xu a.1,xw (b:Int) a.1 a.2):Nat ⊕ (Int×List ByteArray))) 0
   (fun i a=>a.2.length=xs.length∧0≤a.1∧a.1 + ((xs.length - i:Nat):Int)=k + xs.length) (List.range xs.length) 0 (k,xs) ⟨rfl,h0,by simp⟩ (fun j b a hb hI=>by rw [Nat.zero_add]at hI ⊢;exact hst j b a hb hI)
  obtain⟨w1,w2⟩:=jb
  refine⟨?_,?_⟩
  ·have w2':eU.res ((0:Int),k,xs)=_:=w2
   simp only [de,Mj,FN,w2']
   rw [Nat.zero_add,List.length_range,Nat.sub_self]at q4
   simpa using q4
  ·have w1':eU.fin ((0:Int),k,xs)=true:=w1
   simp only [xV,FN,w1',allT,cond_true]
 ·obtain⟨a',ha,hI'⟩:=hst i b a hb hI
  obtain⟨rfl,eB⟩:=np hb
  obtain⟨i1,i2,i3⟩:=hI
  have hw:IntKind.i64.wrap ((b:Int) + 1)=((b + 1:Nat):Int):=by rw [aR (by omega) (by omega)];omega
  have c0:DI (b:Int) a.2=true:=dO (by omega)
  have c1:Qx a.1=true:=(Bool.and_eq_true _ _).mpr ⟨bw (by omega),bw (by omega)⟩
  have c2:Qy (b:Int)=true:=bw (by omega)
  have c3:Qz (b:Int) a.2=true:=fQ (by simp only [Int.toNat_natCast];omega)
  have c4:QA (b:Int)=((b + 1:Nat):Int):=hw
  refine⟨?_,?_,?_,fun a'' hf=> ?_⟩
  ·simp only [eU,vY,LT.nds,allT,c0,c1,c2,c3,cond_true,Bool.and_self]
  ·simp only [eU,vY,LT.each,c0,c4,Bool.and_true,and_self]
  ·simp only [eU,vY,LT.fn,c0,cond_true]
  ·have hq:=ha.symm.trans hf
   simp only [Sum.inr.injEq]at hq
   subst hq
   exact hI'
 ·have bM:DI (((List.range xs.length).length:Nat):Int) a.2=false:=QB (by rw [List.length_range];have:=hI.1;omega)
  simp only [eU,vY,LT.out,bM]
  rfl
def mkL:List LN→Nat
 | []=>0
 |l::r=>1 + 3 * l.2.length + mkL r
theorem ap8: ∀ ls:List LN,mkL ls≤ls.length + 3 * totL ls
 | []=>by simp [mkL]
 |l::r=>by have:=ap8 r;simp only [mkL,totL,List.length_cons];omega
def apx(ls:List LN)(K:Int)(i:Nat)(a:Int×List LN):Prop:=a.2.length=ls.length∧a.2.drop i=ls.drop i∧0≤a.1∧a.1 + (mkL (ls.drop i):Nat)=K
def aqH(b:Nat)(a:Int×List LN):Nat ⊕ (Int×List LN):= .inr (AL (b:Int) a.1 a.2,AM (b:Int) a.1 a.2)
theorem amH{ls:List LN}{K:Int}{i:Nat}{a:Int×List LN}(eB:i < ls.length)(hK:K≤9000000000000000000)(hI:apx ls K i a):
  (Mi (i:Int) a.1 a.2=true∧(rj (i:Int) a.1 a.2).length=ls.length∧a.1≤9000000000000000000)∧apx ls K (i + 1) (AL (i:Int) a.1 a.2,AM (i:Int) a.1 a.2):=by
 obtain⟨i1,i2,i3,i4⟩:=hI
 have hd:ls.drop i=ls[i]::ls.drop (i + 1):=List.drop_eq_getElem_cons eB
 have hm:mkL (ls.drop i)=1 + 3 * ls[i].2.length + mkL (ls.drop (i + 1)):=by rw [hd];rfl
 have hg:a.2[i]? =some ls[i]:=by
  have h1:(a.2.drop i)[0]? =a.2[i]? :=by rw [List.getElem?_drop];rfl
  rw [← h1,i2,hd];rfl
 have il: ∀ d:LN,Option.getD a.2[i]? d=ls[i]:=fun d=>by rw [hg];rfl
 have hA0:rj (i:Int) a.1 a.2=List.set a.2 i (oc a.1,ls[i].2):=by
  simp only [rj,Int.toNat_natCast];exact congrArg (fun z:LN=>List.set a.2 i (oc a.1,z.2)) (il _)
 have hA1:yT a.1=a.1 + 1:=by simp only [yT];exact aR (by omega) (by omega)
 have hq: ∀ (t:LN) (d:LN),Option.getD (List.set a.2 i t)[i]? d=t:=fun t d=>by rw [List.getElem?_set_self (by omega)];rfl
 have hA2:rk (i:Int) a.1 a.2=(oc a.1,ls[i].2):=by
  simp only [rk,hA0,Int.toNat_natCast];exact hq _ _
 refine⟨⟨?_,by rw [hA0,List.length_set];exact i1,by omega⟩,?_,?_,?_,?_⟩
 ·simp only [Mi,hA1,hA2]
  rw [WY.2 ⟨by omega,by omega⟩,dv (by omega)];rfl
 ·simp only [AM,hA0,List.length_set];exact i1
 ·simp only [AM,hA0,Int.toNat_natCast]
  rw [List.drop_set,if_pos (by omega),List.drop_set,if_pos (by omega),← List.drop_drop,i2,List.drop_drop]
 ·simp only [AL,hA1,hA2];omega
 ·simp only [AL,hA1,hA2];omega
theorem ap5(k:Int)(ls:List LN)(h0:0≤k)(h1:k + (mkL ls:Nat)≤9000000000000000000)(hn:ls.length≤1048576):LB k ls=k + (mkL ls:Nat)∧LC k ls=true:=by
 have hi0:apx ls (k + (mkL ls:Nat)) 0 (k,ls):=⟨rfl,rfl,h0,rfl⟩
 have jb:=gP.along2 (fun i (a:Int×List LN)=>((i:Int),a.1,a.2)) (fun x=>x.2) aqH 0 (apx ls (k + (mkL ls:Nat))) (List.range ls.length) (k,ls) hi0 (by rw [List.length_range];omega) (fun i b a hb hI=> ?_) (fun a hI=> ?_)
 ·obtain⟨_,q1,q2⟩:=ahA aqH 0 (apx ls (k + (mkL ls:Nat))) (List.range ls.length) 0 (k,ls) hi0 (fun j b a hb hI=>by
   obtain⟨rfl,eB⟩:=np hb
   rw [Nat.zero_add]at hI ⊢
   exact⟨_,rfl,(amH eB h1 hI).2⟩)
  obtain⟨w1,w2⟩:=jb
  refine⟨?_,?_⟩
  ·have w2':gP.res ((0:Int),k,ls)=_:=w2
   simp only [LB,PB,JN,w2']
   have q4:=q2.2.2.2
   rw [Nat.zero_add,List.length_range,List.drop_length]at q4
   simpa [mkL] using q4
  ·have w1':gP.fin ((0:Int),k,ls)=true:=w1
   simp only [LC,JN,w1',allT,cond_true]
 ·obtain⟨rfl,eB⟩:=np hb
  obtain⟨⟨s1,s2,s3⟩,s4⟩:=amH eB h1 hI
  obtain⟨i1,i2,i3,i4⟩:=hI
  have hw:IntKind.i64.wrap ((b:Int) + 1)=((b + 1:Nat):Int):=by rw [aR (by omega) (by omega)];omega
  have c0:FM (b:Int) a.2=true:=dO (by omega)
  have c1:SI a.1=true:=(Bool.and_eq_true _ _).mpr ⟨bw (by omega),bw (by omega)⟩
  have c2:Mh (b:Int)=true:=bw (by omega)
  have c3:SJ (b:Int) a.2=true:=fQ (by simp only [Int.toNat_natCast];omega)
  have c4:SK (b:Int) a.1 a.2=true:=dO (by omega)
  have c5:SL (b:Int) a.1 a.2=true:=fQ (by simp only [Int.toNat_natCast];omega)
  have c7:SM (b:Int)=((b + 1:Nat):Int):=hw
  refine⟨?_,?_,?_,fun a'' hf=> ?_⟩
  ·simp only [gP,yY,LT.nds,allT,c0,c1,c2,c3,c4,c5,s1,cond_true,Bool.and_self]
  ·simp only [gP,yY,LT.each,c0,c7,Bool.and_true,and_self]
  ·simp only [gP,yY,LT.fn,c0,cond_true,aqH]
  ·simp only [aqH,Sum.inr.injEq]at hf
   subst hf
   exact s4
 ·have bM:FM (((List.range ls.length).length:Nat):Int) a.2=false:=QB (by rw [List.length_range];have:=hI.1;omega)
  simp only [gP,yY,LT.out,bM]
  rfl
theorem an1{nm:ByteArray}{ins vs os:List ByteArray}{g:ByteArray}{ls:List LN}{z:Int}(h:PrFit nm ins vs os g ls 1048576 z):
  HU 1 ins vs os ls=true∧0≤rl 1 ins vs os ls∧rl 1 ins vs os ls≤5000000:=by
 have hs:=h.sum
 have hz:=h.zz
 have hm:=ap8 ls
 obtain⟨a1,a2⟩:=agY 1 ins (by omega) (by omega) (by omega)
 obtain⟨b1,b2⟩:=agY (1 + ins.length) vs (by omega) (by omega) (by omega)
 obtain⟨c1,c2⟩:=agY (1 + ins.length + vs.length) os (by omega) (by omega) (by omega)
 obtain⟨d1,d2⟩:=ap5 (1 + ins.length + vs.length + os.length) ls (by omega) (by omega) (by omega)
 simp only [HU,rl,a1,a2,b1,b2,c1,c2,d1,d2,allT,cond_true,true_and]
 omega
section
variable (x0 x1:ByteArray)(x2 x3 x4:List ByteArray)(x5:List (ByteArray×List (Int×ByteArray×Int)))(x6:List (List Int))
def aw:Bool:=ltI (fk x0 x1 (1048576:Int) x2 x3 x4 x5) (0:Int)
def az:Bool:=ltI (aom (fk x0 x1 (1048576:Int) x2 x3 x4 x5) x6) (0:Int)
def oe:Bool:= !IA (rgV x0 x2 x3 x4 x1 (bu x5) x6) (rgB x0 x2 x3 x4 x1 (bu x5) x6) (rgV x0 x2 x3 x4 x1 (bu x5) x6) (rgB x0 x2 x3 x4 x1 (bu x5) x6)
def li:Bool:=rgC x0 x2 x3 x4 x1 (bu x5) x6 !=rgC x0 x2 x3 x4 x1 (bu x5) x6
def aS:Bool:=bif oe x0 x1 x2 x3 x4 x5 x6 then true else li x0 x1 x2 x3 x4 x5 x6
def bj:Bool:= !Lx x0 x1 x0 x1 x2 x3 x4 (bu x5) x2 x3 x4 (bu x5)
def jf:Bool:=ltI (rl (1:Int) x2 x3 x4 (bu x5) + (↑(Is x6):Int)) (0:Int)
def cW:Bool:=bif bif jf x2 x3 x4 x5 x6 then true else oe x0 x1 x2 x3 x4 x5 x6 then true else li x0 x1 x2 x3 x4 x5 x6
def eG:List Int:=bif !jf x2 x3 x4 x5 x6&&true then rgV x0 x2 x3 x4 x1 (bu x5) x6 else rgV x0 x2 x3 x4 x1 (bu x5) x6
def og:List Int:=Ab (1:Int) (eG x0 x1 x2 x3 x4 x5 x6)
def iB:List (Int×Int×Int):=bif !jf x2 x3 x4 x5 x6&&true then rgB x0 x2 x3 x4 x1 (bu x5) x6 else rgB x0 x2 x3 x4 x1 (bu x5) x6
def ne:List (Int×Int×Int):=Ac (1:Int) (eG x0 x1 x2 x3 x4 x5 x6) (iB x0 x1 x2 x3 x4 x5 x6)
def nf:Int:=JK (1:Int) (og x0 x1 x2 x3 x4 x5 x6) (ne x0 x1 x2 x3 x4 x5 x6)
def dl:Bool:=ltI (nf x0 x1 x2 x3 x4 x5 x6) (0:Int)
def dm:Bool:=nf x0 x1 x2 x3 x4 x5 x6 !=Aa (1:Int) (eG x0 x1 x2 x3 x4 x5 x6) (iB x0 x1 x2 x3 x4 x5 x6)
def ng:Bool:=bif !IA (rgV x0 x2 x3 x4 x1 (bu x5) x6) (rgB x0 x2 x3 x4 x1 (bu x5) x6) (eG x0 x1 x2 x3 x4 x5 x6) (iB x0 x1 x2 x3 x4 x5 x6)then true else li x0 x1 x2 x3 x4 x5 x6
def nh:Bool:=aw x0 x1 x2 x3 x4 x5||(az x0 x1 x2 x3 x4 x5 x6||BP x2 x3 x4 x5)
def ni:Bool:=aw x0 x1 x2 x3 x4 x5||(az x0 x1 x2 x3 x4 x5 x6||abF (1048576:Nat) x6)
def nj:Bool:=aw x0 x1 x2 x3 x4 x5||(az x0 x1 x2 x3 x4 x5 x6||rgN x0 x2 x3 x4 x1 (bu x5) x6)
def nk:Bool:=IB (rgV x0 x2 x3 x4 x1 (bu x5) x6) (rgB x0 x2 x3 x4 x1 (bu x5) x6) (rgV x0 x2 x3 x4 x1 (bu x5) x6)
def nn:Bool:=JM (1:Int) (og x0 x1 x2 x3 x4 x5 x6) (ne x0 x1 x2 x3 x4 x5 x6)
def sJ:Bool:=bif aw x0 x1 x2 x3 x4 x5 then true else bif az x0 x1 x2 x3 x4 x5 x6 then true else bif aS x0 x1 x2 x3 x4 x5 x6 then false else bif bj x0 x1 x2 x3 x4 x5 then false else bif !aa9 x6 x6 then false else bif cW x0 x1 x2 x3 x4 x5 x6 then false else bif dl x0 x1 x2 x3 x4 x5 x6 then false else bif dm x0 x1 x2 x3 x4 x5 x6 then false else bif ng x0 x1 x2 x3 x4 x5 x6 then false else bif dl x0 x1 x2 x3 x4 x5 x6 then false else bif dm x0 x1 x2 x3 x4 x5 x6 then false else true
def sK:Bool:=allT [sc x0 x1 (1048576:Int) x2 x3 x4 x5,aw x0 x1 x2 x3 x4 x5||abF (9223372036854775807:Nat) x6&&(leI (-1:Int) (fk x0 x1 (1048576:Int) x2 x3 x4 x5)&&leI (fk x0 x1 (1048576:Int) x2 x3 x4 x5) (1048576:Int)),nh x0 x1 x2 x3 x4 x5 x6,ni x0 x1 x2 x3 x4 x5 x6,nj x0 x1 x2 x3 x4 x5 x6,nh x0 x1 x2 x3 x4 x5 x6,ni x0 x1 x2 x3 x4 x5 x6,nj x0 x1 x2 x3 x4 x5 x6,aw x0 x1 x2 x3 x4 x5||(az x0 x1 x2 x3 x4 x5 x6||nk x0 x1 x2 x3 x4 x5 x6),aw x0 x1 x2 x3 x4 x5||(az x0 x1 x2 x3 x4 x5 x6||(aS x0 x1 x2 x3 x4 x5 x6||BP x2 x3 x4 x5)),aw x0 x1 x2 x3 x4 x5||(az x0 x1 x2 x3 x4 x5 x6||(aS x0 x1 x2 x3 x4 x5 x6||Ly x0 x1 x0 x1 x2 x3 x4 (bu x5) x2 x3 x4 (bu x5))),aw x0 x1 x2 x3 x4 x5||(az x0 x1 x2 x3 x4 x5 x6||(aS x0 x1 x2 x3 x4 x5 x6||(bj x0 x1 x2 x3 x4 x5||abF (1048576:Nat) x6))),aw x0 x1 x2 x3 x4 x5||(az x0 x1 x2 x3 x4 x5 x6||(aS x0 x1 x2 x3 x4 x5 x6||(bj x0 x1 x2 x3 x4 x5||abF (9223372036854775807:Nat) x6))),aw x0 x1 x2 x3 x4 x5||(az x0 x1 x2 x3 x4 x5 x6||(aS x0 x1 x2 x3 x4 x5 x6||(bj x0 x1 x2 x3 x4 x5||(!aa9 x6 x6||HU (1:Int) x2 x3 x4 (bu x5))))),aw x0 x1 x2 x3 x4 x5||(az x0 x1 x2 x3 x4 x5 x6||(aS x0 x1 x2 x3 x4 x5 x6||(bj x0 x1 x2 x3 x4 x5||(!aa9 x6 x6||ag0 (rl (1:Int) x2 x3 x4 (bu x5)) (Is x6)&&leN x6.length (9223372036854775807:Nat))))),aw x0 x1 x2 x3 x4 x5||(az x0 x1 x2 x3 x4 x5 x6||(aS x0 x1 x2 x3 x4 x5 x6||(bj x0 x1 x2 x3 x4 x5||(!aa9 x6 x6||(!(!jf x2 x3 x4 x5 x6&&true)||nk x0 x1 x2 x3 x4 x5 x6))))),aw x0 x1 x2 x3 x4 x5||(az x0 x1 x2 x3 x4 x5 x6||(aS x0 x1 x2 x3 x4 x5 x6||(bj x0 x1 x2 x3 x4 x5||(!aa9 x6 x6||(cW x0 x1 x2 x3 x4 x5 x6||JO (1:Int) (eG x0 x1 x2 x3 x4 x5 x6) (iB x0 x1 x2 x3 x4 x5 x6)))))),aw x0 x1 x2 x3 x4 x5||(az x0 x1 x2 x3 x4 x5 x6||(aS x0 x1 x2 x3 x4 x5 x6||(bj x0 x1 x2 x3 x4 x5||(!aa9 x6 x6||(cW x0 x1 x2 x3 x4 x5 x6||nn x0 x1 x2 x3 x4 x5 x6))))),aw x0 x1 x2 x3 x4 x5||(az x0 x1 x2 x3 x4 x5 x6||(aS x0 x1 x2 x3 x4 x5 x6||(bj x0 x1 x2 x3 x4 x5||(!aa9 x6 x6||(cW x0 x1 x2 x3 x4 x5 x6||(dl x0 x1 x2 x3 x4 x5 x6||(dm x0 x1 x2 x3 x4 x5 x6||BP x2 x3 x4 x5))))))),aw x0 x1 x2 x3 x4 x5||(az x0 x1 x2 x3 x4 x5 x6||(aS x0 x1 x2 x3 x4 x5 x6||(bj x0 x1 x2 x3 x4 x5||(!aa9 x6 x6||(cW x0 x1 x2 x3 x4 x5 x6||(dl x0 x1 x2 x3 x4 x5 x6||(dm x0 x1 x2 x3 x4 x5 x6||abF (1048576:Nat) x6))))))),aw x0 x1 x2 x3 x4 x5||(az x0 x1 x2 x3 x4 x5 x6||(aS x0 x1 x2 x3 x4 x5 x6||(bj x0 x1 x2 x3 x4 x5||(!aa9 x6 x6||(cW x0 x1 x2 x3 x4 x5 x6||(dl x0 x1 x2 x3 x4 x5 x6||(dm x0 x1 x2 x3 x4 x5 x6||rgN x0 x2 x3 x4 x1 (bu x5) x6))))))),aw x0 x1 x2 x3 x4 x5||(az x0 x1 x2 x3 x4 x5 x6||(aS x0 x1 x2 x3 x4 x5 x6||(bj x0 x1 x2 x3 x4 x5||(!aa9 x6 x6||(cW x0 x1 x2 x3 x4 x5 x6||(dl x0 x1 x2 x3 x4 x5 x6||(dm x0 x1 x2 x3 x4 x5 x6||IB (rgV x0 x2 x3 x4 x1 (bu x5) x6) (rgB x0 x2 x3 x4 x1 (bu x5) x6) (eG x0 x1 x2 x3 x4 x5 x6)))))))),aw x0 x1 x2 x3 x4 x5||(az x0 x1 x2 x3 x4 x5 x6||(aS x0 x1 x2 x3 x4 x5 x6||(bj x0 x1 x2 x3 x4 x5||(!aa9 x6 x6||(cW x0 x1 x2 x3 x4 x5 x6||(dl x0 x1 x2 x3 x4 x5 x6||(dm x0 x1 x2 x3 x4 x5 x6||(ng x0 x1 x2 x3 x4 x5 x6||nn x0 x1 x2 x3 x4 x5 x6))))))))]
end
def Mf:List SV→List Entry→Option Out
 | [.one ⟨true,[.val (.string x0),.ref 0,.ref 1,.ref 2,.val (.string x1),.ref 3]⟩,.one ⟨false,[.ref 4]⟩],[.row false 9 (.str) x2,.row false 9 (.str) x3,.row false 9 (.str) x4,.row false 225 (.pair (.str) (.sl 175 (.pair (.int .i64) (.pair (.str) (.int .i64))))) x5,.row false 41 (.sl 2 (.int .i64)) x6]=>some ⟨.one ⟨false,[.val (.bool (sJ x0 x1 x2 x3 x4 x5 x6))]⟩,[.row false 9 aih x2,.row false 9 aih x3,.row false 9 aih x4,.row false 225 (CTy.pair CTy.str (CTy.sl (175:TypeId) acD)) x5,.row false 41 (CTy.sl (2:TypeId) agR) x6],[],[sK x0 x1 x2 x3 x4 x5 x6]⟩
 |_,_=>none
def UO:PF prog:=PF.ofG prog [PF.trees prog,Rb,PF.lend Rb,PF.fz Rb,Rd,PF.lend Rd,PF.fz Rd,QZ,PF.lend QZ,PF.fz QZ,NO,PF.lend NO,PF.fz NO,So,PF.lend So,PF.fz So,PN,PF.lend PN,PF.fz PN,PM,PF.lend PM,PF.fz PM,Rj,PF.lend Rj,PF.fz Rj,Rk,PF.lend Rk,PF.fz Rk,Rh,PF.lend Rh,PF.fz Rh,NR,PF.lend NR,PF.fz NR,NP,PF.lend NP,PF.fz NP,NN,PF.lend NN,PF.fz NN] [] aN 11 f11 func11 (fun c _=>LOk.nil c) Mf (by
 intro vs es r h;unfold Mf at h;split at h
 ·cases h;kernel_rfl
 ·cases h)
theorem aqg(nm:ByteArray)(ins vs os:List ByteArray)(g:ByteArray)(ls:List LN)(l:List (List Int)):
  (Is (rgO nm ins vs os g ls l)≤4000∧(rgO nm ins vs os g ls l).length≤200∧ ∀ x∈rgO nm ins vs os g ls l,x.length≤20)∧(rgV nm ins vs os g ls l).length≤20∧(rgB nm ins vs os g ls l).length≤1600:=by
 have ht: ∀ (l:List (List Int)),(∀ x∈l,x.length≤20)→Is l≤20 * l.length:=by
  intro l
  induction l with
  |nil=>intro _;simp [Is]
  |cons a r ih=>
   intro h
   have h1:=h a (by simp)
   have h2:=ih fun x hx=>h x (by simp [hx])
   simp only [Is,List.map_cons,List.sum_cons,List.length_cons]at h2 ⊢
   omega
 simp only [rgO,rgV,rgB]
 rcases ajL nm ins vs os g ls l with⟨h1,h2⟩ | ⟨h1,h3,h2⟩ | ⟨h1,h3,h4,h2⟩ | ⟨h1,h3,h4,h2⟩
 ·rw [h2];simp [Is]
 ·rw [h2];simp [Is]
 ·rw [h2];simp [Is]
 ·rw [h2]
  obtain⟨g1,g2,g3⟩:=am0 h1 l (zv vs) (UK (blL ls)) (List.all_eq_true.1 h4) (alW h1)
  obtain⟨s1,s2,_⟩:=Ru.1 g3
  have b2:=(fj.1 s2).2
  have:=alE h3
  have h5:=ht _ g2
  have hX:=aht (inp:=List.replicate ins.length 0) h1 (fj.2 ⟨fun z hz=> .inl (List.eq_of_mem_replicate hz),by simp⟩)
  have hb:=hX.bl
  have hv:=hX.h2
  simp only [beq_self_eq_true,cond_true]
  exact⟨⟨by omega,by omega,g2⟩,by omega,by omega⟩
theorem aii(x0:ByteArray)(x2 x3 x4:List ByteArray)(x1:ByteArray)(x5:List LN)(x6:List (List Int))
  (w0:wfD .str x0) (w2:wfD (.sl 9 .str) x2) (w3:wfD (.sl 9 .str) x3) (w4:wfD (.sl 9 .str) x4) (w1:wfD .str x1) (w5:wfD (.sl 225 (.pair (.str) (.sl 175 (.pair (.int .i64) (.pair (.str) (.int .i64)))))) x5) (w6:wfD (.sl 41 (.sl 2 (.int .i64))) x6):
  sJ x0 x1 x2 x3 x4 x5 x6=true∧sK x0 x1 x2 x3 x4 x5 x6=true:=by
 have l6:x6.length≤9223372036854775807:=w6.1
 have hx: ∀ x∈x6,x.length≤9223372036854775807:=fun x hx=>(w6.2 x hx).1
 have mS:abF 9223372036854775807 x6=true:=afd.2 ⟨l6,hx⟩
 have hP:PrSz x0 x2 x3 x4 x1 x5:=⟨w0,w2.1,w2.2,w3.1,w3.2,w4.1,w4.2,w1,w5.1,fun l hl=>⟨(w5.2 l hl).1,(w5.2 l hl).2.1,fun t ht=>((w5.2 l hl).2.2 t ht).2.1⟩⟩
 obtain⟨s1,s2⟩:=aok hP
 cases h1:ltI (fk x0 x1 1048576 x2 x3 x4 x5) 0 with
 |true=>simp [sJ,sK,aw,az,oe,li,aS,bj,jf,cW,eG,og,iB,ne,nf,dl,dm,ng,nh,ni,nj,nk,nn,h1,s1,allT]
 |false=>
  have hF:=s2 h1
  have hsum:=hF.sum
  have hzz:=hF.zz
  have i3:leI (-1) (fk x0 x1 1048576 x2 x3 x4 x5)=true:=bw (by omega)
  have i4:leI (fk x0 x1 1048576 x2 x3 x4 x5) 1048576=true:=bw (by omega)
  cases h2:ltI (aom (fk x0 x1 1048576 x2 x3 x4 x5) x6) 0 with
  |true=>simp [sJ,sK,aw,az,oe,li,aS,bj,jf,cW,eG,og,iB,ne,nf,dl,dm,ng,nh,ni,nj,nk,nn,h1,h2,s1,mS,i3,i4,allT]
  |false=>
   have d:=aon h2
   have r0:=h1
   have r1:=h2
   have i1:leN x6.length 9223372036854775807=true:=dv l6
   have i2:leN x6.length 1048576=true:=dv (by omega)
   have kS:abF 1048576 x6=true:=aqW (by omega) (by omega)
   obtain⟨p1,p2,p3⟩:=aqQ hF hP
   obtain⟨e1,e2⟩:=apm hP
   have hG:rgN x0 x2 x3 x4 x1 x5 x6=true:=by simp only [rgN,hF.pr,mS,Bool.and_self]
   have eS: ∀ l:List (List Int),aa9 l l=true:=ao2
   obtain⟨⟨n1,n2,n3⟩,n4,n5⟩:=aqg x0 x2 x3 x4 x1 x5 x6
   generalize hO:rgO x0 x2 x3 x4 x1 x5 x6=A at n1 n2 n3
   generalize hV:rgV x0 x2 x3 x4 x1 x5 x6=V at n4
   generalize hB:rgB x0 x2 x3 x4 x1 x5 x6=B at n5
   obtain⟨pm,pm0,pm1⟩:=an1 hF
   have g4:ag0 (rl 1 x2 x3 x4 x5) (Is x6)=true:=WZ.2 (by omega)
   have g5:ltI (rl 1 x2 x3 x4 x5 + (Is x6:Int)) 0=false:=QB (by omega)
   have eM:IA V B V B=true:=by simp [IA,apN,aoZ]
   have eM1:IB V B V=true:=by simp [IB,dv (show V.length≤9223372036854775807 by omega),dv (show B.length≤9223372036854775807 by omega),allT]
   obtain⟨d1,d2,d3,d4⟩:=ap6 1 V B (by omega) (by omega)
   have r_a0:=Eq.refl (aw x0 x1 x2 x3 x4 x5)
   conv at r_a0=>rhs;simp only [aw,S0z,allT,i1,i2,i3,i4,mS,kS,r0,r1,s1,p1,p2,p3,e1,e2,hG,eS,pm,g4,g5,hV,hB,eM,eM1,d1,d2,d3,d4]
   have r_a1:=Eq.refl (az x0 x1 x2 x3 x4 x5 x6)
   conv at r_a1=>rhs;simp only [az,S0z,allT,i1,i2,i3,i4,mS,kS,r0,r1,s1,p1,p2,p3,e1,e2,hG,eS,pm,g4,g5,hV,hB,eM,eM1,d1,d2,d3,d4,r_a0]
   have r_a2:=Eq.refl (oe x0 x1 x2 x3 x4 x5 x6)
   conv at r_a2=>rhs;simp only [oe,S0z,allT,i1,i2,i3,i4,mS,kS,r0,r1,s1,p1,p2,p3,e1,e2,hG,eS,pm,g4,g5,hV,hB,eM,eM1,d1,d2,d3,d4,r_a0,r_a1]
   have r_a3:=Eq.refl (li x0 x1 x2 x3 x4 x5 x6)
   conv at r_a3=>rhs;simp only [li,S0z,allT,i1,i2,i3,i4,mS,kS,r0,r1,s1,p1,p2,p3,e1,e2,hG,eS,pm,g4,g5,hV,hB,eM,eM1,d1,d2,d3,d4,r_a0,r_a1,r_a2]
   have r_a4:=Eq.refl (aS x0 x1 x2 x3 x4 x5 x6)
   conv at r_a4=>rhs;simp only [aS,S0z,allT,i1,i2,i3,i4,mS,kS,r0,r1,s1,p1,p2,p3,e1,e2,hG,eS,pm,g4,g5,hV,hB,eM,eM1,d1,d2,d3,d4,r_a0,r_a1,r_a2,r_a3]
   have r_a5:=Eq.refl (bj x0 x1 x2 x3 x4 x5)
   conv at r_a5=>rhs;simp only [bj,S0z,allT,i1,i2,i3,i4,mS,kS,r0,r1,s1,p1,p2,p3,e1,e2,hG,eS,pm,g4,g5,hV,hB,eM,eM1,d1,d2,d3,d4,r_a0,r_a1,r_a2,r_a3,r_a4]
   have r_a6:=Eq.refl (jf x2 x3 x4 x5 x6)
   conv at r_a6=>rhs;simp only [jf,S0z,allT,i1,i2,i3,i4,mS,kS,r0,r1,s1,p1,p2,p3,e1,e2,hG,eS,pm,g4,g5,hV,hB,eM,eM1,d1,d2,d3,d4,r_a0,r_a1,r_a2,r_a3,r_a4,r_a5]
   have r_a7:=Eq.refl (cW x0 x1 x2 x3 x4 x5 x6)
   conv at r_a7=>rhs;simp only [cW,S0z,allT,i1,i2,i3,i4,mS,kS,r0,r1,s1,p1,p2,p3,e1,e2,hG,eS,pm,g4,g5,hV,hB,eM,eM1,d1,d2,d3,d4,r_a0,r_a1,r_a2,r_a3,r_a4,r_a5,r_a6]
   have r_a8:=Eq.refl (eG x0 x1 x2 x3 x4 x5 x6)
   conv at r_a8=>rhs;simp only [eG,S0z,allT,i1,i2,i3,i4,mS,kS,r0,r1,s1,p1,p2,p3,e1,e2,hG,eS,pm,g4,g5,hV,hB,eM,eM1,d1,d2,d3,d4,r_a0,r_a1,r_a2,r_a3,r_a4,r_a5,r_a6,r_a7]
   have r_a9:=Eq.refl (og x0 x1 x2 x3 x4 x5 x6)
   conv at r_a9=>rhs;simp only [og,S0z,allT,i1,i2,i3,i4,mS,kS,r0,r1,s1,p1,p2,p3,e1,e2,hG,eS,pm,g4,g5,hV,hB,eM,eM1,d1,d2,d3,d4,r_a0,r_a1,r_a2,r_a3,r_a4,r_a5,r_a6,r_a7,r_a8]
   have r_a10:=Eq.refl (iB x0 x1 x2 x3 x4 x5 x6)
   conv at r_a10=>rhs;simp only [iB,S0z,allT,i1,i2,i3,i4,mS,kS,r0,r1,s1,p1,p2,p3,e1,e2,hG,eS,pm,g4,g5,hV,hB,eM,eM1,d1,d2,d3,d4,r_a0,r_a1,r_a2,r_a3,r_a4,r_a5,r_a6,r_a7,r_a8,r_a9]
   have r_a11:=Eq.refl (ne x0 x1 x2 x3 x4 x5 x6)
   conv at r_a11=>rhs;simp only [ne,S0z,allT,i1,i2,i3,i4,mS,kS,r0,r1,s1,p1,p2,p3,e1,e2,hG,eS,pm,g4,g5,hV,hB,eM,eM1,d1,d2,d3,d4,r_a0,r_a1,r_a2,r_a3,r_a4,r_a5,r_a6,r_a7,r_a8,r_a9,r_a10]
   have r_a12:=Eq.refl (nf x0 x1 x2 x3 x4 x5 x6)
   conv at r_a12=>rhs;simp only [nf,S0z,allT,i1,i2,i3,i4,mS,kS,r0,r1,s1,p1,p2,p3,e1,e2,hG,eS,pm,g4,g5,hV,hB,eM,eM1,d1,d2,d3,d4,r_a0,r_a1,r_a2,r_a3,r_a4,r_a5,r_a6,r_a7,r_a8,r_a9,r_a10,r_a11]
   have r_a13:=Eq.refl (dl x0 x1 x2 x3 x4 x5 x6)
   conv at r_a13=>rhs;simp only [dl,S0z,allT,i1,i2,i3,i4,mS,kS,r0,r1,s1,p1,p2,p3,e1,e2,hG,eS,pm,g4,g5,hV,hB,eM,eM1,d1,d2,d3,d4,r_a0,r_a1,r_a2,r_a3,r_a4,r_a5,r_a6,r_a7,r_a8,r_a9,r_a10,r_a11,r_a12]
   have r_a14:=Eq.refl (dm x0 x1 x2 x3 x4 x5 x6)
   conv at r_a14=>rhs;simp only [dm,S0z,allT,i1,i2,i3,i4,mS,kS,r0,r1,s1,p1,p2,p3,e1,e2,hG,eS,pm,g4,g5,hV,hB,eM,eM1,d1,d2,d3,d4,r_a0,r_a1,r_a2,r_a3,r_a4,r_a5,r_a6,r_a7,r_a8,r_a9,r_a10,r_a11,r_a12,r_a13]
   have r_a15:=Eq.refl (ng x0 x1 x2 x3 x4 x5 x6)
   conv at r_a15=>rhs;simp only [ng,S0z,allT,i1,i2,i3,i4,mS,kS,r0,r1,s1,p1,p2,p3,e1,e2,hG,eS,pm,g4,g5,hV,hB,eM,eM1,d1,d2,d3,d4,r_a0,r_a1,r_a2,r_a3,r_a4,r_a5,r_a6,r_a7,r_a8,r_a9,r_a10,r_a11,r_a12,r_a13,r_a14]
   have r_a16:=Eq.refl (nh x0 x1 x2 x3 x4 x5 x6)
   conv at r_a16=>rhs;simp only [nh,S0z,allT,i1,i2,i3,i4,mS,kS,r0,r1,s1,p1,p2,p3,e1,e2,hG,eS,pm,g4,g5,hV,hB,eM,eM1,d1,d2,d3,d4,r_a0,r_a1,r_a2,r_a3,r_a4,r_a5,r_a6,r_a7,r_a8,r_a9,r_a10,r_a11,r_a12,r_a13,r_a14,r_a15]
   have r_a17:=Eq.refl (ni x0 x1 x2 x3 x4 x5 x6)
   conv at r_a17=>rhs;simp only [ni,S0z,allT,i1,i2,i3,i4,mS,kS,r0,r1,s1,p1,p2,p3,e1,e2,hG,eS,pm,g4,g5,hV,hB,eM,eM1,d1,d2,d3,d4,r_a0,r_a1,r_a2,r_a3,r_a4,r_a5,r_a6,r_a7,r_a8,r_a9,r_a10,r_a11,r_a12,r_a13,r_a14,r_a15,r_a16]
   have r_a18:=Eq.refl (nj x0 x1 x2 x3 x4 x5 x6)
   conv at r_a18=>rhs;simp only [nj,S0z,allT,i1,i2,i3,i4,mS,kS,r0,r1,s1,p1,p2,p3,e1,e2,hG,eS,pm,g4,g5,hV,hB,eM,eM1,d1,d2,d3,d4,r_a0,r_a1,r_a2,r_a3,r_a4,r_a5,r_a6,r_a7,r_a8,r_a9,r_a10,r_a11,r_a12,r_a13,r_a14,r_a15,r_a16,r_a17]
   have r_a19:=Eq.refl (nk x0 x1 x2 x3 x4 x5 x6)
   conv at r_a19=>rhs;simp only [nk,S0z,allT,i1,i2,i3,i4,mS,kS,r0,r1,s1,p1,p2,p3,e1,e2,hG,eS,pm,g4,g5,hV,hB,eM,eM1,d1,d2,d3,d4,r_a0,r_a1,r_a2,r_a3,r_a4,r_a5,r_a6,r_a7,r_a8,r_a9,r_a10,r_a11,r_a12,r_a13,r_a14,r_a15,r_a16,r_a17,r_a18]
   have r_a20:=Eq.refl (nn x0 x1 x2 x3 x4 x5 x6)
   conv at r_a20=>rhs;simp only [nn,S0z,allT,i1,i2,i3,i4,mS,kS,r0,r1,s1,p1,p2,p3,e1,e2,hG,eS,pm,g4,g5,hV,hB,eM,eM1,d1,d2,d3,d4,r_a0,r_a1,r_a2,r_a3,r_a4,r_a5,r_a6,r_a7,r_a8,r_a9,r_a10,r_a11,r_a12,r_a13,r_a14,r_a15,r_a16,r_a17,r_a18,r_a19]
   refine⟨?_,?_⟩ <;> simp only [sJ,sK,S0z,allT,i1,i2,i3,i4,mS,kS,r0,r1,s1,p1,p2,p3,e1,e2,hG,eS,pm,g4,g5,hV,hB,eM,eM1,d1,d2,d3,d4,r_a0,r_a1,r_a2,r_a3,r_a4,r_a5,r_a6,r_a7,r_a8,r_a9,r_a10,r_a11,r_a12,r_a13,r_a14,r_a15,r_a16,r_a17,r_a18,r_a19,r_a20]
end Go.SX
