/- What functions of the program come to, and what that says in plain words: part 4. -/
import Derived.Test.YtbajbgcdcaknpaaGreatDoorMc
import Derived.Test.YtbajbgcdcaknpaaGreatDoorTXh
import Derived.Test.YtbajbgcdcaknpaaGreatDoorProg
import Derived.Test.YtbajbgcdcaknpaaGreatDoorTXi
set_option linter.unusedSimpArgs false
set_option linter.unusedVariables false
namespace Go.SX
open Go.Proofs
set_option maxRecDepth 100000
def c9(y6:List Int)(y8:List (List Int))(b:Int×(Int×((Int×Int)×(Int×(Int×Bool))))):(Unit)→Nat ⊕ (Unit)
 |_=>(bif(wW b.1 (b.2.1) (b.2.2.1.1) (b.2.2.1.2) (b.2.2.2.1) (b.2.2.2.2.1) b.2.2.2.2.2 y6 y8)then(.inl 0)else(.inr ()))
def bX(y2 y3 y4:Int)(y5:List (Int×(Int×((Int×Int)×(Int×(Int×Bool))))))(y6:List Int)(y7:List (Int×(Int×Int)))(y8:List (List Int))(y9:List (Int×(Int×Int)))(y10 y11:List (Int×Int))(i:Nat):(Unit)→bf
 |_=>((i:Int),(↑y5.length:Int),y2,y3,y4,y5,y6,y7,y8,y9,y10,y11)
def mz:bf→Unit
 |(_,_,_,_,_,_,_,_,_,_,_,_)=>()
theorem IU(y2 y3 y4:Int)(y5:List (Int×(Int×((Int×Int)×(Int×(Int×Bool))))))(y6:List Int)(y7:List (Int×(Int×Int)))(y8:List (List Int))(y9:List (Int×(Int×Int)))(y10 y11:List (Int×Int)) (hn:y5.length≤9223372036854775807) (f:RideF y2 y3 y4 y6 y7 y8 y9 y10 y11):
  ax.fin ((0:Int),(↑y5.length:Int),y2,y3,y4,y5,y6,y7,y8,y9,y10,y11)=true∧ax.res ((0:Int),(↑y5.length:Int),y2,y3,y4,y5,y6,y7,y8,y9,y10,y11)=((aU (c9 y6 y8) 1 y5 0 ()).1,(bX y2 y3 y4 y5 y6 y7 y8 y9 y10 y11) (aU (c9 y6 y8) 1 y5 0 ()).2.1 (aU (c9 y6 y8) 1 y5 0 ()).2.2):=by
 have key:=ax.along (bX y2 y3 y4 y5 y6 y7 y8 y9 y10 y11) mz (c9 y6 y8) 1 (fun _ _=>True) y5 () (by trivial) (by simp only [ax,bX];omega) (fun i b a hb hI=> ?_) (fun a hI=> ?_)
 ·exact key
 ·obtain⟨⟩:=a
  have hlt:=(List.getElem?_eq_some_iff.1 hb).1
  have hget: ∀ d,Option.getD y5[i]? d=b:=fun d=>by rw [hb];rfl
  have hw:=vu hlt hn
  have hdec:ltI (i:Int) (y5.length:Int)=true:=et (by omega)
  have hnn:leI (0:Int) (i:Int)=true:=dk (by omega)
  have hltd:ltN i y5.length=true:=fJ hlt
  refine⟨?_,?_,?_,?_⟩
  ·have e:=(ajX b.1 b.2.1 b.2.2.1.1 b.2.2.1.2 b.2.2.2.1 b.2.2.2.2.1 b.2.2.2.2.2 f).2
   simp [cT,cU,cV,cW,bH,cX,fu,fv,fw,fy,fA,fB,fC,eL,ax,LT.nds,allT,bX,Fe,hdec,hnn,hltd,hget,e]
  ·simp [cT,cU,cV,cW,bH,cX,fu,fv,fw,fy,fA,fB,fC,eL,ax,LT.each,bX,mz,hw]
  ·simp only [cT,cU,cV,cW,bH,cX,fu,fv,fw,fy,fA,fB,fC,eL,ax,LT.fn,bX,mz,c9,Int.toNat_natCast,hdec,hnn,hltd,hget,cond_true,Bool.cond_self]
  ·exact fun _ _=>trivial
 ·obtain⟨⟩:=a
  simp [cT,cU,cV,cW,bH,cX,fu,fv,fw,fy,fA,fB,fC,eL,ax,LT.out,bX]
def amQ(ps:LI)(rs:List LI)(xs:List RX):Bool:=xs.any fun x=> !isX ps rs x
def rrC(n mode day:Int)(ps:LI)(fs:L3)(rs:List LI)(lf:L3)(pl ls:L2)(xs:List RX):Int:=bif !nX n ps fs rs lf mode pl ls day then 1 else bif ltI 200 (xs.length:Int)then 3 else bif amQ ps rs xs then 2 else 0
def rrE(n mode day:Int)(ps:LI)(fs:L3)(rs:List LI)(lf:L3)(pl ls:L2)(xs:List RX):RS:=xs.foldl (stX n day fs lf pl ls) (mode,ps,rs,[],0)
def rrB(n mode day:Int)(ps:LI)(fs:L3)(rs:List LI)(lf:L3)(pl ls:L2)(xs:List RX):Bool:=rrC n mode day ps fs rs lf pl ls xs==0
def rrN(n mode day:Int)(ps:LI)(fs:L3)(rs:List LI)(lf:L3)(pl ls:L2)(xs:List RX):Int:=bif rrB n mode day ps fs rs lf pl ls xs then n else 0
def rrM(n mode day:Int)(ps:LI)(fs:L3)(rs:List LI)(lf:L3)(pl ls:L2)(xs:List RX):Int:=bif rrB n mode day ps fs rs lf pl ls xs then(rrE n mode day ps fs rs lf pl ls xs).1 else 0
def rrD(n mode day:Int)(ps:LI)(fs:L3)(rs:List LI)(lf:L3)(pl ls:L2)(xs:List RX):Int:=bif rrB n mode day ps fs rs lf pl ls xs then day else 0
def rrP(n mode day:Int)(ps:LI)(fs:L3)(rs:List LI)(lf:L3)(pl ls:L2)(xs:List RX):LI:=bif rrB n mode day ps fs rs lf pl ls xs then(rrE n mode day ps fs rs lf pl ls xs).2.1 else []
def rrF(n mode day:Int)(ps:LI)(fs:L3)(rs:List LI)(lf:L3)(pl ls:L2)(xs:List RX):L3:=bif rrB n mode day ps fs rs lf pl ls xs then fs else []
def rrR(n mode day:Int)(ps:LI)(fs:L3)(rs:List LI)(lf:L3)(pl ls:L2)(xs:List RX):List LI:=bif rrB n mode day ps fs rs lf pl ls xs then(rrE n mode day ps fs rs lf pl ls xs).2.2.1 else []
def rrL(n mode day:Int)(ps:LI)(fs:L3)(rs:List LI)(lf:L3)(pl ls:L2)(xs:List RX):L3:=bif rrB n mode day ps fs rs lf pl ls xs then lf else []
def VJ(n mode day:Int)(ps:LI)(fs:L3)(rs:List LI)(lf:L3)(pl ls:L2)(xs:List RX):L2:=bif rrB n mode day ps fs rs lf pl ls xs then pl else []
def VI(n mode day:Int)(ps:LI)(fs:L3)(rs:List LI)(lf:L3)(pl ls:L2)(xs:List RX):L2:=bif rrB n mode day ps fs rs lf pl ls xs then ls else []
def rrV(n mode day:Int)(ps:LI)(fs:L3)(rs:List LI)(lf:L3)(pl ls:L2)(xs:List RX):LI:=bif rrB n mode day ps fs rs lf pl ls xs then(rrE n mode day ps fs rs lf pl ls xs).2.2.2.1 else []
def rrT(n mode day:Int)(ps:LI)(fs:L3)(rs:List LI)(lf:L3)(pl ls:L2)(xs:List RX):Int:=bif rrB n mode day ps fs rs lf pl ls xs then(rrE n mode day ps fs rs lf pl ls xs).2.2.2.2 else 0
theorem arc{ps:LI}{rs:List LI}{xs:List RX}(h:amQ ps rs xs=false): ∀ x∈xs,isX ps rs x=true:=by
 simp only [amQ,List.any_eq_false,Bool.not_eq_true',Bool.not_eq_false]at h
 exact h
theorem aqi{n mode day:Int}{ps:LI}{fs:L3}{rs:List LI}{lf:L3}{pl ls:L2}(f:RideF n mode day ps fs rs lf pl ls):al0 n day fs lf pl ls ps rs 0 (mode,ps,rs,[],0):=
 ⟨f,rfl,rfl,Nat.le_refl _⟩
theorem am6(n mode day:Int)(ps:LI)(fs:L3)(rs:List LI)(lf:L3)(pl ls:L2)(xs:List RX)(hN:zC 9223372036854775807 ps fs rs lf pl ls=true):
  wm n mode day ps fs rs lf pl ls xs=rrC n mode day ps fs rs lf pl ls xs∧Br n mode day ps fs rs lf pl ls xs=true:=by
 cases hO:nX n ps fs rs lf mode pl ls day with
 |false=>simp [wm,Br,rrC,hO,hN,allT]
 |true=>
  have f:=akG hO
  cases h2:PB xs with
  |true=>
   have h2':ltI 200 (xs.length:Int)=true:=h2
   simp only [wm,Br,rrC,hO,hN,h2,h2',allT,Bool.not_true,cond_false,cond_true,Bool.or_true,Bool.true_or,and_self,Bool.false_or]
  |false=>
   have h2':ltI 200 (xs.length:Int)=false:=h2
   have hl:xs.length≤200:=by have:=aI.1 h2';omega
   obtain⟨w1,w2⟩:=IU n mode day xs ps fs rs lf pl ls (by omega) f
   rw [kU (P:=fun x=> !isX ps rs x) (j:=0) (fun b=>by
    simp only [c9,wW,(ajX b.1 b.2.1 b.2.2.1.1 b.2.2.1.2 b.2.2.2.1 b.2.2.2.2.1 b.2.2.2.2.2 f).1];rfl)]at w2
   have w1':Lp.fin ax (gr xs n mode day ps fs rs lf pl ls)=true:=w1
   have e:jb xs n mode day ps fs rs lf pl ls=amQ ps rs xs:=by
    rw [jb,pP,gt,gr,w2]
    show leI 0 (bif Nat.beq (bif amQ ps rs xs then 0 else 1) 0 then _ else(-1:Int))=_
    cases amQ ps rs xs with
    |true=>exact dk (Int.natCast_nonneg _)
    |false=>rfl
   simp only [wm,Br,na,pQ,rrC,hO,hN,h2,h2',e,w1',allT,Bool.not_true,cond_false,cond_true,Bool.or_true,Bool.true_or,and_self,Bool.false_or]
theorem akH{n mode day:Int}{ps:LI}{fs:L3}{rs:List LI}{lf:L3}{pl ls:L2}{xs:List RX}(h:rrB n mode day ps fs rs lf pl ls xs=true):
  RideF n mode day ps fs rs lf pl ls∧xs.length≤200∧ ∀ x∈xs,isX ps rs x=true:=by
 simp only [rrB,rrC]at h
 cases hO:nX n ps fs rs lf mode pl ls day with
 |false=>rw [hO]at h;cases h
 |true=>
  cases h2:ltI 200 (xs.length:Int)with
  |true=>rw [hO,h2]at h;cases h
  |false=>
   cases hB:amQ ps rs xs with
   |true=>rw [hO,h2,hB]at h;cases h
   |false=>exact⟨akG hO,by have:=aI.1 h2;omega,arc hB⟩
theorem aqE{n day:Int}{fs lf:L3}{pl ls:L2}{ps0:LI}{rs0:List LI}{i:Nat}{s:RS}(hI:al0 n day fs lf pl ls ps0 rs0 i s){b:RX}(hm:isX ps0 rs0 b=true):
  lZ b (ajM n day fs lf pl ls s)= .inr (ajM n day fs lf pl ls (stX n day fs lf pl ls s b)):=by
 obtain⟨hx,_⟩:=ZO hI hm
 obtain⟨o0,o1,o2,o3,o4,o5,o6,o7,o8,o9,o10⟩:=aaA hI.1 hx
 simp only [ajM,lZ,o0,o1,o2,o3,o4,o5,o6,o7,o8,o9]
 rfl
theorem ajr(n mode day:Int)(ps:LI)(fs:L3)(rs:List LI)(lf:L3)(pl ls:L2)(xs:List RX):(rrC n mode day ps fs rs lf pl ls xs !=0)= !rrB n mode day ps fs rs lf pl ls xs:=rfl
theorem aoi(n mode day:Int)(ps:LI)(fs:L3)(rs:List LI)(lf:L3)(pl ls:L2)(xs:List RX)(hN:zC 9223372036854775807 ps fs rs lf pl ls=true):
  KJ n mode day ps fs rs lf pl ls xs=rrN n mode day ps fs rs lf pl ls xs∧KK n mode day ps fs rs lf pl ls xs=rrM n mode day ps fs rs lf pl ls xs∧
  KL n mode day ps fs rs lf pl ls xs=rrD n mode day ps fs rs lf pl ls xs∧
  KM n mode day ps fs rs lf pl ls xs=rrC n mode day ps fs rs lf pl ls xs∧KN n mode day ps fs rs lf pl ls xs=rrP n mode day ps fs rs lf pl ls xs∧
  KO n mode day ps fs rs lf pl ls xs=rrF n mode day ps fs rs lf pl ls xs∧KP n mode day ps fs rs lf pl ls xs=rrR n mode day ps fs rs lf pl ls xs∧
  KQ n mode day ps fs rs lf pl ls xs=rrL n mode day ps fs rs lf pl ls xs∧KR n mode day ps fs rs lf pl ls xs=VJ n mode day ps fs rs lf pl ls xs∧
  KS n mode day ps fs rs lf pl ls xs=VI n mode day ps fs rs lf pl ls xs∧Is n mode day ps fs rs lf pl ls xs=rrV n mode day ps fs rs lf pl ls xs∧
  It n mode day ps fs rs lf pl ls xs=true:=by
 obtain⟨c1,c2⟩:=am6 n mode day ps fs rs lf pl ls xs hN
 have a0:iq n mode day ps fs rs lf pl ls xs= !rrB n mode day ps fs rs lf pl ls xs:=by rw [iq,c1];rfl
 cases hb:rrB n mode day ps fs rs lf pl ls xs with
 |false=>
  rw [hb,Bool.not_false]at a0
  simp only [KJ,KK,KL,KM,KN,KO,KP,KQ,KR,KS,Is,It,rrN,rrM,rrD,rrT,rrP,rrF,rrR,rrL,VJ,VI,rrV,hb,c1,c2,a0,allT,cond_true,cond_false,Bool.true_or,and_self]
 |true=>
  rw [hb,Bool.not_true]at a0
  have hc:rrC n mode day ps fs rs lf pl ls xs=0:=beq_iff_eq.1 hb
  obtain⟨f,hl,hX⟩:=akH hb
  obtain⟨o1,o2⟩:=amj n mode day f.cp
  obtain⟨v1,v2⟩:=ahF xs [] n mode day ps fs rs lf pl ls (by omega) n day fs lf pl ls ps rs hX (mode,ps,rs,[],0) rfl (aqi f) hl
  have hw:=(anR (e:=0) (i:=0) (r:=xs) (f:=lZ) (g:=stX n day fs lf pl ls) (emb:=ajM n day fs lf pl ls) (Inv:=fun s=> ∃ i,al0 n day fs lf pl ls ps rs i s)
   (fun b hb s hs=>by obtain⟨i,hI⟩:=hs;exact⟨aqE hI (hX b hb),_,(ZO hI (hX b hb)).2⟩) ⟨0,aqi f⟩).1
  change aU lZ 0 xs 0 (([]:LI),n,mode,day,ps,fs,rs,lf,pl,ls)=_ at hw
  rw [hw]at v2
  have v1':Lp.fin dP (DM n mode day ps fs rs lf pl ls xs)=true:=by rw [DM,o1];exact v1
  have v2':Lp.res dP (DM n mode day ps fs rs lf pl ls xs)=(0,mM xs xs.length (ajM n day fs lf pl ls (rrE n mode day ps fs rs lf pl ls xs))):=by
   rw [DM,o1,v2];simp only [Nat.zero_add];rfl
  simp only [KJ,KK,KL,KM,KN,KO,KP,KQ,KR,KS,Is,It,Tx,Ty,Tz,TA,TB,TC,TD,TE,RZ,v2',v1',o2,mM,ajM,rrN,rrM,rrD,rrT,rrP,rrF,rrR,rrL,VJ,VI,rrV,hb,hc,c1,c2,a0,allT,cond_true,cond_false,Bool.or_true,Bool.and_self,and_self]
theorem art(n mode day:Int)(ps:LI)(fs:L3)(rs:List LI)(lf:L3)(pl ls:L2)(x:RX):
  rrC n mode day ps fs rs lf pl ls [x]=bif !nX n ps fs rs lf mode pl ls day then 1 else bif !isX ps rs x then 2 else 0:=by
 simp only [rrC,amQ,List.any_cons,List.any_nil,Bool.or_false];rfl
def srV(n mode day:Int)(ps:LI)(fs:L3)(rs:List LI)(lf:L3)(pl ls:L2)(x:RX):Int:=bif rrB n mode day ps fs rs lf pl ls [x]then vX n day fs lf pl ls (mode,ps,rs,[],0) x else 0
theorem arv(n mode day:Int)(ps:LI)(fs:L3)(rs:List LI)(lf:L3)(pl ls:L2)(x:RX)(h:rrB n mode day ps fs rs lf pl ls [x]=true):rrV n mode day ps fs rs lf pl ls [x]= [srV n mode day ps fs rs lf pl ls x]:=by
 rw [rrV,srV,h];rfl
theorem apG(n mode day k t rk row ck role:Int)(key:Bool)(ps:LI)(fs:L3)(rs:List LI)(lf:L3)(pl ls:L2)(hN:zC 9223372036854775807 ps fs rs lf pl ls=true):
  IC n mode day k t rk row ck role key ps fs rs lf pl ls=rrN n mode day ps fs rs lf pl ls [(k,t,(rk,row),ck,role,key)]∧ID n mode day k t rk row ck role key ps fs rs lf pl ls=rrM n mode day ps fs rs lf pl ls [(k,t,(rk,row),ck,role,key)]∧
  IE n mode day k t rk row ck role key ps fs rs lf pl ls=rrD n mode day ps fs rs lf pl ls [(k,t,(rk,row),ck,role,key)]∧IF n mode day k t rk row ck role key ps fs rs lf pl ls=srV n mode day ps fs rs lf pl ls (k,t,(rk,row),ck,role,key)∧
  IG n mode day k t rk row ck role key ps fs rs lf pl ls=rrC n mode day ps fs rs lf pl ls [(k,t,(rk,row),ck,role,key)]∧IH n mode day k t rk row ck role key ps fs rs lf pl ls=rrP n mode day ps fs rs lf pl ls [(k,t,(rk,row),ck,role,key)]∧
  II n mode day k t rk row ck role key ps fs rs lf pl ls=rrF n mode day ps fs rs lf pl ls [(k,t,(rk,row),ck,role,key)]∧IJ n mode day k t rk row ck role key ps fs rs lf pl ls=rrR n mode day ps fs rs lf pl ls [(k,t,(rk,row),ck,role,key)]∧
  IK n mode day k t rk row ck role key ps fs rs lf pl ls=rrL n mode day ps fs rs lf pl ls [(k,t,(rk,row),ck,role,key)]∧IL n mode day k t rk row ck role key ps fs rs lf pl ls=VJ n mode day ps fs rs lf pl ls [(k,t,(rk,row),ck,role,key)]∧
  GC n mode day k t rk row ck role key ps fs rs lf pl ls=VI n mode day ps fs rs lf pl ls [(k,t,(rk,row),ck,role,key)]∧GD n mode day k t rk row ck role key ps fs rs lf pl ls=true:=by
 have hc1:=art n mode day ps fs rs lf pl ls (k,t,(rk,row),ck,role,key)
 obtain⟨i1,i2⟩:=alT n mode day k t rk row ck role key ps fs rs lf pl ls hN
 cases hO:nX n ps fs rs lf mode pl ls day with
 |false=>
  have hc:rrC n mode day ps fs rs lf pl ls [(k,t,(rk,row),ck,role,key)]=1:=by rw [hc1,hO];rfl
  have hb:rrB n mode day ps fs rs lf pl ls [(k,t,(rk,row),ck,role,key)]=false:=by rw [rrB,hc];rfl
  simp [IC,ID,IE,IF,IG,IH,II,IJ,IK,IL,GC,GD,rrN,rrM,rrD,srV,rrP,rrF,rrR,rrL,VJ,VI,hO,hc,hb,hN,allT]
 |true=>
  have a0:ik n mode day k t rk row ck role key ps fs rs lf pl ls= !isX ps rs (k,t,(rk,row),ck,role,key):=by rw [ik,i1,hO,Bool.true_and];rfl
  cases hx:isX ps rs (k,t,(rk,row),ck,role,key)with
  |false=>
   have hc:rrC n mode day ps fs rs lf pl ls [(k,t,(rk,row),ck,role,key)]=2:=by rw [hc1,hO,hx];rfl
   have hb:rrB n mode day ps fs rs lf pl ls [(k,t,(rk,row),ck,role,key)]=false:=by rw [rrB,hc];rfl
   simp [IC,ID,IE,IF,IG,IH,II,IJ,IK,IL,GC,GD,rrN,rrM,rrD,srV,rrP,rrF,rrR,rrL,VJ,VI,a0,hx,i2,hO,hc,hb,hN,allT]
  |true=>
   have hc:rrC n mode day ps fs rs lf pl ls [(k,t,(rk,row),ck,role,key)]=0:=by rw [hc1,hO,hx];rfl
   have hb:rrB n mode day ps fs rs lf pl ls [(k,t,(rk,row),ck,role,key)]=true:=by rw [rrB,hc];rfl
   obtain⟨o0,o1,o2,o3,o4,o5,o6,o7,o8,o9,o10⟩:=anK (akG hO) hx
   simp only [IC,ID,IE,IF,IG,IH,II,IJ,IK,IL,GC,GD,rrN,rrM,rrD,srV,rrP,rrF,rrR,rrL,VJ,VI,rrE,List.foldl_cons,List.foldl_nil,stX,vX,a0,hx,i2,hO,hc,hb,hN,o0,o1,o2,o3,o4,o5,o6,o7,o8,o9,o10,allT,Bool.not_true,cond_true,cond_false,Bool.false_or,Bool.and_self,and_self]
theorem apq(n mode day k t rk row ck role:Int)(key:Bool)(ps:LI)(fs:L3)(rs:List LI)(lf:L3)(pl ls:L2)(hN:zC 9223372036854775807 ps fs rs lf pl ls=true):
  Nc n mode day k t rk row ck role key ps fs rs lf pl ls=rrN n mode day ps fs rs lf pl ls [(k,t,(rk,row),ck,role,key)]∧Nd n mode day k t rk row ck role key ps fs rs lf pl ls=rrM n mode day ps fs rs lf pl ls [(k,t,(rk,row),ck,role,key)]∧
  Nf n mode day k t rk row ck role key ps fs rs lf pl ls=rrD n mode day ps fs rs lf pl ls [(k,t,(rk,row),ck,role,key)]∧Ng n mode day k t rk row ck role key ps fs rs lf pl ls=srV n mode day ps fs rs lf pl ls (k,t,(rk,row),ck,role,key)∧
  Nh n mode day k t rk row ck role key ps fs rs lf pl ls=rrC n mode day ps fs rs lf pl ls [(k,t,(rk,row),ck,role,key)]∧Ni n mode day k t rk row ck role key ps fs rs lf pl ls=rrP n mode day ps fs rs lf pl ls [(k,t,(rk,row),ck,role,key)]∧
  Nj n mode day k t rk row ck role key ps fs rs lf pl ls=rrF n mode day ps fs rs lf pl ls [(k,t,(rk,row),ck,role,key)]∧Nk n mode day k t rk row ck role key ps fs rs lf pl ls=rrR n mode day ps fs rs lf pl ls [(k,t,(rk,row),ck,role,key)]∧
  Nl n mode day k t rk row ck role key ps fs rs lf pl ls=rrL n mode day ps fs rs lf pl ls [(k,t,(rk,row),ck,role,key)]∧Nn n mode day k t rk row ck role key ps fs rs lf pl ls=VJ n mode day ps fs rs lf pl ls [(k,t,(rk,row),ck,role,key)]∧
  LH n mode day k t rk row ck role key ps fs rs lf pl ls=VI n mode day ps fs rs lf pl ls [(k,t,(rk,row),ck,role,key)]∧LJ n mode day k t rk row ck role key ps fs rs lf pl ls=true:=by
 obtain⟨o0,o1,o2,o3,o4,o5,o6,o7,o8,o9,o10,o11⟩:=aoi n mode day ps fs rs lf pl ls [(k,t,(rk,row),ck,role,key)] hN
 cases hb:rrB n mode day ps fs rs lf pl ls [(k,t,(rk,row),ck,role,key)]with
 |false=>
  have hb':=hb
  rw [rrB]at hb'
  simp only [g8,LK,eX,Gd,Nc,Nd,Nf,Ng,Nh,Ni,Nj,Nk,Nl,Nn,LH,LJ,o0,o1,o2,o3,o4,o5,o6,o7,o8,o9,o10,o11,ajr,hb,rrN,rrM,rrD,srV,rrP,rrF,rrR,rrL,VJ,VI,allT,Bool.not_false,Bool.true_or,cond_true,cond_false,and_self]
 |true=>
  have hc:rrC n mode day ps fs rs lf pl ls [(k,t,(rk,row),ck,role,key)]=0:=beq_iff_eq.1 hb
  have hv:=arv n mode day ps fs rs lf pl ls _ hb
  have n1:leI 0 0=true:=rfl
  have n2:ltI 0 (([srV n mode day ps fs rs lf pl ls (k,t,(rk,row),ck,role,key)].length:Nat):Int)=true:=rfl
  have n3:ltN (Int.toNat 0) [srV n mode day ps fs rs lf pl ls (k,t,(rk,row),ck,role,key)].length=true:=rfl
  simp only [g8,LK,eX,Gd,Nc,Nd,Nf,Ng,Nh,Ni,Nj,Nk,Nl,Nn,LH,LJ,o0,o1,o2,o3,o4,o5,o6,o7,o8,o9,o10,o11,ajr,hb,hv,n1,n2,n3,allT,Bool.not_true,Bool.false_or,cond_true,cond_false,and_self,true_and]
  exact⟨rfl,hc.symm,trivial⟩
def abb:List SV→List Entry→Option Out
 | [.one ⟨true,[.val (.int .i64 x0),.ref 0,.ref 1,.ref 2,.ref 3,.val (.int .i64 x1),.ref 4,.ref 5,.val (.int .i64 x2)]⟩,.one ⟨true,[.val (.int .i64 x3),.val (.int .i64 x4),.val (.int .i64 x5),.val (.int .i64 x6),.val (.int .i64 x7),.val (.int .i64 x8),.val (.bool x9)]⟩],[.row false 2 (.int .i64) x10,.row false 169 (.pair (.int .i64) (.pair (.int .i64) (.int .i64))) x11,.row false 24 (.sl 2 (.int .i64)) x12,.row false 100 (.pair (.int .i64) (.pair (.int .i64) (.int .i64))) x13,.row false 173 (.pair (.int .i64) (.int .i64)) x14,.row false 176 (.pair (.int .i64) (.int .i64)) x15]=>some ⟨(.tup [⟨true,[(.val (.int .i64 (rrN x0 x1 x2 x10 x11 x12 x13 x14 x15 [(x3,x4,(x5,x6),x7,x8,x9)]))),(.ref 6),(.ref 7),(.ref 8),(.ref 9),(.val (.int .i64 (rrM x0 x1 x2 x10 x11 x12 x13 x14 x15 [(x3,x4,(x5,x6),x7,x8,x9)]))),(.ref 10),(.ref 11),(.val (.int .i64 (rrD x0 x1 x2 x10 x11 x12 x13 x14 x15 [(x3,x4,(x5,x6),x7,x8,x9)])))]⟩,⟨false,[(.val (.int .i64 (srV x0 x1 x2 x10 x11 x12 x13 x14 x15 (x3,x4,(x5,x6),x7,x8,x9))))]⟩,⟨false,[(.val (.int .i64 (rrC x0 x1 x2 x10 x11 x12 x13 x14 x15 [(x3,x4,(x5,x6),x7,x8,x9)])))]⟩]),[(.row false 2 asg x10),(.row false 169 ase x11),(.row false 24 (CTy.sl (2:TypeId) asg) x12),(.row false 100 ase x13),(.row false 173 asf x14),(.row false 176 asf x15)],[(.row true 2 asg (rrP x0 x1 x2 x10 x11 x12 x13 x14 x15 [(x3,x4,(x5,x6),x7,x8,x9)])),(.row true 169 ase (rrF x0 x1 x2 x10 x11 x12 x13 x14 x15 [(x3,x4,(x5,x6),x7,x8,x9)])),(.row true 24 (CTy.sl (2:Nat) asg) (rrR x0 x1 x2 x10 x11 x12 x13 x14 x15 [(x3,x4,(x5,x6),x7,x8,x9)])),(.row true 100 ase (rrL x0 x1 x2 x10 x11 x12 x13 x14 x15 [(x3,x4,(x5,x6),x7,x8,x9)])),(.row true 173 asf (VJ x0 x1 x2 x10 x11 x12 x13 x14 x15 [(x3,x4,(x5,x6),x7,x8,x9)])),(.row true 176 asf (VI x0 x1 x2 x10 x11 x12 x13 x14 x15 [(x3,x4,(x5,x6),x7,x8,x9)]))],[zC 9223372036854775807 x10 x11 x12 x13 x14 x15]⟩
 |_,_=>none
def TL:PF Tryz.prog:=PF.alt ajk abb (by
 intro args es o h hnd;unfold abb at h;split at h
 ·rename_i x0 x1 x2 x3 x4 x5 x6 x7 x8 x9 x10 x11 x12 x13 x14 x15
  cases h
  have hnd:=gO hnd
  have hh:=apG x0 x1 x2 x3 x4 x5 x6 x7 x8 x9 x10 x11 x12 x13 x14 x15 hnd
  obtain⟨e0,e1,e2,e3,e4,e5,e6,e7,e8,e9,e10,en⟩:=hh
  exact jO rfl (gn en) (by simp only [e0,e1,e2,e3,e4] <;> rfl) rfl (by simp only [e5,e6,e7,e8,e9,e10] <;> rfl)
 ·cases h)
def aa7:List SV→List Entry→Option Out
 | [.one ⟨true,[.val (.int .i64 x0),.ref 0,.ref 1,.ref 2,.ref 3,.val (.int .i64 x1),.ref 4,.ref 5,.val (.int .i64 x2)]⟩,.one ⟨true,[.val (.int .i64 x3),.val (.int .i64 x4),.val (.int .i64 x5),.val (.int .i64 x6),.val (.int .i64 x7),.val (.int .i64 x8),.val (.bool x9)]⟩],[.row false 2 (.int .i64) x10,.row false 169 (.pair (.int .i64) (.pair (.int .i64) (.int .i64))) x11,.row false 24 (.sl 2 (.int .i64)) x12,.row false 100 (.pair (.int .i64) (.pair (.int .i64) (.int .i64))) x13,.row false 173 (.pair (.int .i64) (.int .i64)) x14,.row false 176 (.pair (.int .i64) (.int .i64)) x15]=>some ⟨(.tup [⟨true,[(.val (.int .i64 (rrN x0 x1 x2 x10 x11 x12 x13 x14 x15 [(x3,x4,(x5,x6),x7,x8,x9)]))),(.ref 6),(.ref 7),(.ref 8),(.ref 9),(.val (.int .i64 (rrM x0 x1 x2 x10 x11 x12 x13 x14 x15 [(x3,x4,(x5,x6),x7,x8,x9)]))),(.ref 10),(.ref 11),(.val (.int .i64 (rrD x0 x1 x2 x10 x11 x12 x13 x14 x15 [(x3,x4,(x5,x6),x7,x8,x9)])))]⟩,⟨false,[(.val (.int .i64 (srV x0 x1 x2 x10 x11 x12 x13 x14 x15 (x3,x4,(x5,x6),x7,x8,x9))))]⟩,⟨false,[(.val (.int .i64 (rrC x0 x1 x2 x10 x11 x12 x13 x14 x15 [(x3,x4,(x5,x6),x7,x8,x9)])))]⟩]),[(.row false 2 asg x10),(.row false 169 ase x11),(.row false 24 (CTy.sl (2:TypeId) asg) x12),(.row false 100 ase x13),(.row false 173 asf x14),(.row false 176 asf x15)],[(.row true 2 asg (rrP x0 x1 x2 x10 x11 x12 x13 x14 x15 [(x3,x4,(x5,x6),x7,x8,x9)])),(.row true 169 ase (rrF x0 x1 x2 x10 x11 x12 x13 x14 x15 [(x3,x4,(x5,x6),x7,x8,x9)])),(.tree 24 (CTy.sl (2:Nat) asg) (rrR x0 x1 x2 x10 x11 x12 x13 x14 x15 [(x3,x4,(x5,x6),x7,x8,x9)]) none),(.row true 100 ase (rrL x0 x1 x2 x10 x11 x12 x13 x14 x15 [(x3,x4,(x5,x6),x7,x8,x9)])),(.row true 173 asf (VJ x0 x1 x2 x10 x11 x12 x13 x14 x15 [(x3,x4,(x5,x6),x7,x8,x9)])),(.row true 176 asf (VI x0 x1 x2 x10 x11 x12 x13 x14 x15 [(x3,x4,(x5,x6),x7,x8,x9)]))],[zC 9223372036854775807 x10 x11 x12 x13 x14 x15]⟩
 |_,_=>none
def TJ:PF Tryz.prog:=PF.alt ajg aa7 (by
 intro args es o h hnd;unfold aa7 at h;split at h
 ·rename_i x0 x1 x2 x3 x4 x5 x6 x7 x8 x9 x10 x11 x12 x13 x14 x15
  cases h
  have hnd:=gO hnd
  have hh:=apq x0 x1 x2 x3 x4 x5 x6 x7 x8 x9 x10 x11 x12 x13 x14 x15 hnd
  obtain⟨e0,e1,e2,e3,e4,e5,e6,e7,e8,e9,e10,en⟩:=hh
  exact jO rfl (gn en) (by simp only [e0,e1,e2,e3,e4] <;> rfl) rfl (by simp only [e5,e6,e7,e8,e9,e10] <;> rfl)
 ·cases h)
end Go.SX

namespace Go.SX
open Go.Proofs
set_option maxRecDepth 100000
abbrev gM:=Int×Int×List Int×Int×Int×List Int
section
variable (y0 y1:Int)(y2:List Int)(y3 y4:Int)(y5:List Int)
def Fv:Bool:=ltI y0 y1
def Fw:Bool:=aD y3 y4 y5&&leN (1:Nat) (List.length [(2:Int),(2:Int),(1:Int),(0:Int)])
def Fx:Bool:=leI (0:Int) y0
def Fy:Bool:=ltI y0 (↑y2.length:Int)
def Fz:Bool:=ltN y0.toNat y2.length
def FA:Int:=IntKind.wrap .i64 (y0 + (1:Int))
def FB:List Int:=List.set y2 y0.toNat (pkV y3 y4 [(2:Int),(2:Int),(1:Int),(0:Int)] y5)
def FC:Int:=pkA y3 [(2:Int),(2:Int),(1:Int),(0:Int)] y5
def FD:Int:=pkS y3 y4 [(2:Int),(2:Int),(1:Int),(0:Int)] y5
end
def Wv:gM→List (Nat×SV)
 |(y0,y1,_,_,_,_)=> [(9,(.one ⟨false,[(.val (.int .i64 y0))]⟩)),(4,(.one ⟨false,[(.val (.int .i64 y1))]⟩)),(8,(.one ⟨false,[(.ref 0)]⟩)),(0,(.one ⟨false,[(.ptr 1 0)]⟩))]
def Wt:gM→List (Nat×Entry)
 |(_,_,y2,y3,y4,y5)=> [(0,(.row true 2 asg y2)),(1,(.box 157 [(.ref 2),(.val (.int .i64 y3)),(.val (.int .i64 y4))])),(2,(.row false 5 ash y5))]
def Wz:Nat→gM→List (Nat×SV)
 |_,(_,_,_,_,_,_)=> []
def Wx:Nat→gM→List (Nat×Entry)
 |_,(_,_,y2,y3,y4,y5)=> [(0,(.row true 2 asg y2)),(1,(.box 157 [(.ref 2),(.val (.int .i64 y3)),(.val (.int .i64 y4))])),(2,(.row false 5 ash y5))]
def DH:gM→LT gM
 |(y0,y1,y2,y3,y4,y5)=> .ite (Fv y0 y1) (.need [(Fw y3 y4 y5),(Fx y0),(Fy y0 y2),(Fz y0 y2)] (.nrm ((FA y0),y1,(FB y0 y2 y3 y4 y5),(FC y3 y5),(FD y3 y4 y5),y5) [(0,0),(1,1),(2,2)])) (.ext 0 [(0,0),(1,1),(2,2)])
def DL(s:St):Option gM:=
 (match s.look 9 with
 |some ⟨none,(.one ⟨false,[(.val (.int .i64 y0))]⟩)⟩=>
 (match s.look 4 with
 |some ⟨none,(.one ⟨false,[(.val (.int .i64 y1))]⟩)⟩=>
 (match s.look 8 with
 |some ⟨none,(.one ⟨false,[(.ref 448)]⟩)⟩=>
 (match s.look 0 with
 |some ⟨none,(.one ⟨false,[(.ptr 1 0)]⟩)⟩=>
 (match s.ent 448 with
 |some (.row true 2 (.int .i64) y2)=>
 (match s.ent 1 with
 |some (.box 157 [(.ref 4),(.val (.int .i64 y3)),(.val (.int .i64 y4))])=>
 (match s.ent 4 with
 |some (.row false 5 (.int IntKind.u8) y5)=>
 some (y0,y1,y2,y3,y4,y5)
 |_=>none)
 |_=>none)
 |_=>none)
 |_=>none)
 |_=>none)
 |_=>none)
 |_=>none)
def dZ:Lp gM where
 h:=⟨[57,58,59,62,63,64,65,66,67,60,61,9],[0,1,2],[],[]⟩
 JL:=Wv
 JE:=Wt
 XL:=Wz
 XE:=Wx
 q:=fun j=>match j with | _=> .exit 2
 tags:= [0]
 lt:=DH
 fuel:=fun(y0,y1,y2,y3,y4,y5)=>y0.natAbs + y1.natAbs + y2.length + y3.natAbs + y4.natAbs + y5.length
 fix:=fun(_,y1,_,_,_,y5) (y0,_,y2,y3,y4,_)=>(y0,y1,y2,y3,y4,y5)
 σ:= [(0,448),(1,1),(2,4)]
 rd:=DL
theorem Uv:LoopOk Tryz.prog (memN [32,33,34,35,36,39,40,8,41,42,43,44,45,46,47,48,49,50,51,52,53,54,55,56,9,57,58,59,62,63,64,65,66,67,60,61,68,69,70,71,6,37,38,7]) dZ.F (ade (aT Tryz.f51 0) 0):=by
 refine Lp.ok (tbl:= [uf,PF.lend uf,PF.fz uf,j7,PF.lend j7,PF.fz j7,j8,PF.lend j8,PF.fz j8,ug,PF.lend ug,PF.fz ug,lr,PF.lend lr,PF.fz lr,ar,PF.lend ar,PF.fz ar,au,PF.lend au,PF.fz au,Vv]) (lf:= []) aS dZ (by kernel_rfl) (LOk.nil _) (fun _=>rfl) (fun _ _=>rfl) ?_ ?_ ?_ ?_ (fun _=>rfl) ?_
 ·rintro⟨y0,y1,y2,y3,y4,y5⟩;kernel_rfl
 ·rintro⟨y0,y1,y2,y3,y4,y5⟩;kernel_rfl
 ·intro s x h
  have h:DL s=some x:=h
  unfold DL at h
  repeat' split at h
  all_goals cases h
  exact⟨aa (by assumption) rfl (aa (by assumption) rfl (aa (by assumption) rfl (aa (by assumption) rfl (rfl)))),ab rfl (by assumption) rfl (ab rfl (by assumption) rfl (ab rfl (by assumption) rfl (rfl)))⟩
 ·rintro⟨y0,y1,y2,y3,y4,y5⟩;kernel_rfl
 ·rintro⟨y0,y1,y2,y3,y4,y5⟩ z;exact(And.intro rfl trivial)
abbrev jn:=Int×Int×Int×Int×Int×List (List Int)×List Int×List Int
section
variable (y0 y1 y2 y3 y4:Int)(y5:List (List Int))(y6 y7:List Int)
def Bg:Bool:=Option.getD y6[Int.toNat y0]? (0:Int)==IntKind.wrap .i64 (IntKind.wrap .i64 ((3:Int) * IntKind.wrap .i64 (y2 - (1:Int))) + (1:Int))
def mL:Bool:=bif Bg y0 y2 y6 then true else nxV (40:Int) y3 y4 y7==(0:Int)
def Bh:Int:=bif !Bg y0 y2 y6&&true then nxA (40:Int) y3 y7 else y3
def Bi:Int:=bif !Bg y0 y2 y6&&true then nxS (40:Int) y3 y4 y7 else y4
def Bj:Int×Int×List Int×Int×Int×List Int:=((0:Int),y1,qg y1 (2:Int),Bh y0 y2 y3 y6 y7,Bi y0 y2 y3 y4 y6 y7,y7)
def Bk:List Int×Int×Int×List Int:=(Lp.res dZ (Bj y0 y1 y2 y3 y4 y6 y7)).2.2.2
def uN:List (List Int):= [bif mL y0 y2 y3 y4 y6 y7 then (Bk y0 y1 y2 y3 y4 y6 y7).1else qg y1 (2:Int)]
def Ie:Int×Int×List Int:=(Bk y0 y1 y2 y3 y4 y6 y7).2
def Dz:Bool:=ltI y0 (↑y6.length:Int)
def RC:Bool:=leI (0:Int) y1&&leI y1 (500:Int)
def RD:Bool:=leI (0:Int) y0
def RE:Bool:=ltN y0.toNat y6.length
def RF:Bool:= !(!Bg y0 y2 y6&&true)||aD y3 y4 y7
def RG:Bool:= !mL y0 y2 y3 y4 y6 y7||Lp.fin dZ (Bj y0 y1 y2 y3 y4 y6 y7)
def RH:Bool:=leN (List.length y5 + List.length (uN y0 y1 y2 y3 y4 y6 y7)) (9223372036854775807:Nat)
def RI:Bool:=leN ((List.length y5 + List.length (uN y0 y1 y2 y3 y4 y6 y7)) * (24:Nat)) (140737488355328:Nat)
def RJ:Int:=IntKind.wrap .i64 (y0 + (1:Int))
def JM:Int:=bif mL y0 y2 y3 y4 y6 y7 then (Ie y0 y1 y2 y3 y4 y6 y7).1else Bh y0 y2 y3 y6 y7
def Id:Int:=bif mL y0 y2 y3 y4 y6 y7 then ((Ie y0 y1 y2 y3 y4 y6 y7).2).1else Bi y0 y2 y3 y4 y6 y7
def QF:List (List Int):=y5++uN y0 y1 y2 y3 y4 y6 y7
def QG:List Int:=bif mL y0 y2 y3 y4 y6 y7 then y7 else y7
end
def aak:jn→List (Nat×SV)
 |(y0,y1,_,_,_,_,_,_)=> [(7,(.one ⟨false,[(.val (.int .i64 y0))]⟩)),(3,(.one ⟨false,[(.ptr 0 0)]⟩)),(4,(.one ⟨false,[(.val (.int .i64 y1))]⟩)),(0,(.one ⟨false,[(.ptr 1 0)]⟩)),(6,(.one ⟨false,[(.ref 2)]⟩))]
def aai:jn→List (Nat×Entry)
 |(_,_,y2,y3,y4,y5,y6,y7)=> [(0,(.box 26 [(.val (.int .i64 y2)),(.ref 3)])),(1,(.box 157 [(.ref 4),(.val (.int .i64 y3)),(.val (.int .i64 y4))])),(3,(.row true 2 asg y6)),(4,(.row false 5 ash y7)),(2,(.row true 24 (CTy.sl (2:Nat) asg) y5))]
def aao:Nat→jn→List (Nat×SV)
 |_,(_,_,_,_,_,_,_,_)=> [(6,(.one ⟨false,[(.ref 2)]⟩))]
def aam:Nat→jn→List (Nat×Entry)
 |_,(_,_,y2,y3,y4,y5,y6,y7)=> [(0,(.box 26 [(.val (.int .i64 y2)),(.ref 3)])),(1,(.box 157 [(.ref 4),(.val (.int .i64 y3)),(.val (.int .i64 y4))])),(2,(.row true 24 (CTy.sl (2:Nat) asg) y5)),(3,(.row true 2 asg y6)),(4,(.row false 5 ash y7))]
def HM:jn→LT jn
 |(y0,y1,y2,y3,y4,y5,y6,y7)=> .ite (Dz y0 y6) (.need [(RC y1)] (.need [(RD y0),(Dz y0 y6),(RE y0 y6),(RF y0 y2 y3 y4 y6 y7)] (.need [(RG y0 y1 y2 y3 y4 y6 y7)] (.need [(RH y0 y1 y2 y3 y4 y5 y6 y7),(RI y0 y1 y2 y3 y4 y5 y6 y7)] (.nrm ((RJ y0),y1,y2,(JM y0 y1 y2 y3 y4 y6 y7),(Id y0 y1 y2 y3 y4 y6 y7),(QF y0 y1 y2 y3 y4 y5 y6 y7),y6,(QG y0 y2 y3 y4 y6 y7)) [(0,0),(1,1),(2,1920),(3,3),(4,4)]))))) (.ext 0 [(0,0),(1,1),(2,2),(3,3),(4,4)])
def HQ(s:St):Option jn:=
 (match s.look 7 with
 |some ⟨none,(.one ⟨false,[(.val (.int .i64 y0))]⟩)⟩=>
 (match s.look 3 with
 |some ⟨none,(.one ⟨false,[(.ptr 384 0)]⟩)⟩=>
 (match s.look 4 with
 |some ⟨none,(.one ⟨false,[(.val (.int .i64 y1))]⟩)⟩=>
 (match s.look 0 with
 |some ⟨none,(.one ⟨false,[(.ptr 0 0)]⟩)⟩=>
 (match s.look 6 with
 |some ⟨none,(.one ⟨false,[(.ref 1920)]⟩)⟩=>
 (match s.ent 384 with
 |some (.box 26 [(.val (.int .i64 y2)),(.ref 320)])=>
 (match s.ent 0 with
 |some (.box 157 [(.ref 1),(.val (.int .i64 y3)),(.val (.int .i64 y4))])=>
 (match s.ent 320 with
 |some (.row true 2 (.int .i64) y6)=>
 (match s.ent 1 with
 |some (.row false 5 (.int IntKind.u8) y7)=>
 (match s.ent 1920 with
 |some (.row true 24 (.sl 2 (.int .i64)) y5)=>
 some (y0,y1,y2,y3,y4,y5,y6,y7)
 |_=>none)
 |_=>none)
 |_=>none)
 |_=>none)
 |_=>none)
 |_=>none)
 |_=>none)
 |_=>none)
 |_=>none)
 |_=>none)
def gN:Lp jn where
 h:=⟨[32,33,34,35,36,39,40,8,41,42,43,44,45,46,47,48,49,50,51,52,53,54,55,56,9,57,58,59,62,63,64,65,66,67,60,61,68,69,70,71,6,37,38,7],[0,1,3,4],[2],[]⟩
 JL:=aak
 JE:=aai
 XL:=aao
 XE:=aam
 q:=fun j=>match j with | _=> .exit 0
 tags:= [0]
 lt:=HM
 fuel:=fun(y0,y1,y2,y3,y4,y5,y6,y7)=>y0.natAbs + y1.natAbs + y2.natAbs + y3.natAbs + y4.natAbs + y5.length + y6.length + y7.length
 fix:=fun(_,y1,y2,_,_,_,y6,_) (y0,_,_,y3,y4,y5,_,y7)=>(y0,y1,y2,y3,y4,y5,y6,y7)
 σ:= [(0,384),(1,0),(3,320),(4,1),(2,1920)]
 rd:=HQ
theorem Ym:LoopOk Tryz.prog (fun k=>Nat.blt k Tryz.f51.ntmps) gN.F (aT Tryz.f51 0):=by
 refine Lp.ok (tbl:= [uf,PF.lend uf,PF.fz uf,j7,PF.lend j7,PF.fz j7,j8,PF.lend j8,PF.fz j8,ug,PF.lend ug,PF.fz ug,lr,PF.lend lr,PF.fz lr,ar,PF.lend ar,PF.fz ar,au,PF.lend au,PF.fz au,Vv]) (lf:= [dZ.F]) aS gN (by kernel_rfl) (LOk.allT (l:= [ade (aT Tryz.f51 0) 0]) (by kernel_rfl) (.cons Uv (.nil _))) (fun _=>rfl) (fun _ _=>rfl) ?_ ?_ ?_ ?_ (fun _=>rfl) ?_
 ·rintro⟨y0,y1,y2,y3,y4,y5,y6,y7⟩;kernel_rfl
 ·rintro⟨y0,y1,y2,y3,y4,y5,y6,y7⟩;kernel_rfl
 ·intro s x h
  have h:HQ s=some x:=h
  unfold HQ at h
  repeat' split at h
  all_goals cases h
  exact⟨aa (by assumption) rfl (aa (by assumption) rfl (aa (by assumption) rfl (aa (by assumption) rfl (aa (by assumption) rfl (rfl))))),ab rfl (by assumption) rfl (ab rfl (by assumption) rfl (ab rfl (by assumption) rfl (ab rfl (by assumption) rfl (ab rfl (by assumption) rfl (rfl)))))⟩
 ·rintro⟨y0,y1,y2,y3,y4,y5,y6,y7⟩;kernel_rfl
 ·rintro⟨y0,y1,y2,y3,y4,y5,y6,y7⟩ z;exact(And.intro rfl trivial)
section
variable (x0 x1:Int)(x2:List Int)
def q9:Int:=IntKind.wrap .i64 ((1:Int) + nxV (3:Int) (lP x0 x1 x2) (yH x0 x1 x2) x2)
def AC:Int:=nxS (3:Int) (lP x0 x1 x2) (yH x0 x1 x2) x2
def AD:Int:=yU (jm x0 x1 x2) (nxA (3:Int) (lP x0 x1 x2) x2) (AC x0 x1 x2) x2
def AE:Int:=yV (jm x0 x1 x2) (nxA (3:Int) (lP x0 x1 x2) x2) (AC x0 x1 x2) x2
def lA:Int:=ka (q9 x0 x1 x2) (AD x0 x1 x2) (AE x0 x1 x2) x2
def FW:Int:=kb (q9 x0 x1 x2) (AD x0 x1 x2) (AE x0 x1 x2) x2
def AF:List Int:= [(3:Int),(3:Int),(3:Int),(2:Int),nxV (6:Int) (lA x0 x1 x2) (FW x0 x1 x2) x2]
def AG:Int:=pkA (nxA (6:Int) (lA x0 x1 x2) x2) (AF x0 x1 x2) x2
def FX:Int:=nxS (6:Int) (lA x0 x1 x2) (FW x0 x1 x2) x2
def FY:Int:=pkS (nxA (6:Int) (lA x0 x1 x2) x2) (FX x0 x1 x2) (AF x0 x1 x2) x2
def EW:Int×Int×Int×Int×Int×List (List Int)×List Int×List Int:=((0:Int),q9 x0 x1 x2,jm x0 x1 x2,nxA (40:Int) (AG x0 x1 x2) x2,nxS (40:Int) (AG x0 x1 x2) (FY x0 x1 x2) x2,[],p7 x0 x1 x2,x2)
def tu:Int×Int×List (List Int)×List Int×List Int:=(Lp.res gN (EW x0 x1 x2)).2.2.2.2
def tv:Int:=(tu x0 x1 x2).1
def zk:Int×List (List Int)×List Int×List Int:=(tu x0 x1 x2).2
def zl:Int:=(zk x0 x1 x2).1
def EX:List (List Int)×List Int×List Int:=(zk x0 x1 x2).2
def aA:List Int:=(EX x0 x1 x2).2.2
def aP:Bool:=nxV (3:Int) (tv x0 x1 x2) (zl x0 x1 x2) (aA x0 x1 x2)==(0:Int)
def kj:Int:=nxA (3:Int) (tv x0 x1 x2) (aA x0 x1 x2)
def mq:Int:=nxS (3:Int) (tv x0 x1 x2) (zl x0 x1 x2) (aA x0 x1 x2)
def tw:Int:=uH (kj x0 x1 x2) (mq x0 x1 x2) (aA x0 x1 x2)
def tx:Int:=uI (kj x0 x1 x2) (mq x0 x1 x2) (aA x0 x1 x2)
def tz:Int:=lx (tw x0 x1 x2) (tx x0 x1 x2) (aA x0 x1 x2)
def zm:Int:=ly (tw x0 x1 x2) (tx x0 x1 x2) (aA x0 x1 x2)
def Lm:Int:=nxV (40:Int) (tz x0 x1 x2) (zm x0 x1 x2) (aA x0 x1 x2)
def bj:Bool:=Lm x0 x1 x2==(0:Int)
def bo:Bool:=Lm x0 x1 x2==(1:Int)
def qa:Bool:=Lm x0 x1 x2==(2:Int)
def Ln:Int:=nxV (40:Int) (kj x0 x1 x2) (mq x0 x1 x2) (aA x0 x1 x2)
def bp:Bool:=Ln x0 x1 x2==(0:Int)
def bx:Bool:=Ln x0 x1 x2==(1:Int)
def qb:Bool:=Ln x0 x1 x2==(2:Int)
def gV:Int:=nxA (40:Int) (tz x0 x1 x2) (aA x0 x1 x2)
def kk:Int:=nxS (40:Int) (tz x0 x1 x2) (zm x0 x1 x2) (aA x0 x1 x2)
def tA:Int:=pkV (nxA (6:Int) (lA x0 x1 x2) x2) (FX x0 x1 x2) (AF x0 x1 x2) x2
def gW:Int:=nxA (40:Int) (kj x0 x1 x2) (aA x0 x1 x2)
def km:Int:=nxS (40:Int) (kj x0 x1 x2) (mq x0 x1 x2) (aA x0 x1 x2)
def tB:Int:=nxV (40:Int) (AG x0 x1 x2) (FY x0 x1 x2) x2
def qc:List (Int×Int×Int):=yW (jm x0 x1 x2) (nxA (3:Int) (lP x0 x1 x2) x2) (AC x0 x1 x2) x2
def kn:List (List Int):=(EX x0 x1 x2).1
def tC:List (List Int):=kn x0 x1 x2++ [[(2:Int)]]
def qd:List (Int×Int×Int):=kd (q9 x0 x1 x2) (AD x0 x1 x2) (AE x0 x1 x2) x2
def zn:List (Int×Int):=uJ (kj x0 x1 x2) (mq x0 x1 x2) (aA x0 x1 x2)
def EY:List (Int×Int):=bif bp x0 x1 x2 then []else bif bx x0 x1 x2 then []else []
def zo:List (Int×Int):=lz (tw x0 x1 x2) (tx x0 x1 x2) (aA x0 x1 x2)
def Lo:Bool:=aD (kj x0 x1 x2) (mq x0 x1 x2) (aA x0 x1 x2)
def Lq:Bool:=aD (gV x0 x1 x2) (kk x0 x1 x2) (aA x0 x1 x2)
def Lr:Bool:=leN (List.length (kn x0 x1 x2) + List.length [[(2:Int)]]) (9223372036854775807:Nat)
def Lt:Bool:=leN ((List.length (kn x0 x1 x2) + List.length [[(2:Int)]]) * (24:Nat)) (140737488355328:Nat)
def Lu:Bool:=aD (gW x0 x1 x2) (km x0 x1 x2) (aA x0 x1 x2)
def Oq:Int:=bif aP x0 x1 x2 then bif bj x0 x1 x2 then jm x0 x1 x2 else bif bo x0 x1 x2 then jm x0 x1 x2 else bif qa x0 x1 x2 then jm x0 x1 x2 else jm x0 x1 x2 else bif bp x0 x1 x2 then jm x0 x1 x2 else bif bx x0 x1 x2 then jm x0 x1 x2 else bif qb x0 x1 x2 then jm x0 x1 x2 else jm x0 x1 x2
def Ot:Int:=bif aP x0 x1 x2 then bif bj x0 x1 x2 then pkV (gV x0 x1 x2) (kk x0 x1 x2) [(-1:Int),(6:Int)] (aA x0 x1 x2)else bif bo x0 x1 x2 then tA x0 x1 x2 else bif qa x0 x1 x2 then tA x0 x1 x2 else tA x0 x1 x2 else bif bp x0 x1 x2 then pkV (gW x0 x1 x2) (km x0 x1 x2) [(-1:Int),(6:Int)] (aA x0 x1 x2)else bif bx x0 x1 x2 then tA x0 x1 x2 else bif qb x0 x1 x2 then tA x0 x1 x2 else tA x0 x1 x2
def Ou:Int:=bif aP x0 x1 x2 then bif bj x0 x1 x2 then tB x0 x1 x2 else bif bo x0 x1 x2 then tB x0 x1 x2 else bif qa x0 x1 x2 then pkV (gV x0 x1 x2) (kk x0 x1 x2) [(-1:Int),(100000:Int),(100001:Int)] (aA x0 x1 x2)else tB x0 x1 x2 else bif bp x0 x1 x2 then tB x0 x1 x2 else bif bx x0 x1 x2 then tB x0 x1 x2 else bif qb x0 x1 x2 then pkV (gW x0 x1 x2) (km x0 x1 x2) [(-1:Int),(100000:Int),(100001:Int)] (aA x0 x1 x2)else tB x0 x1 x2
def iu:Int:=bif aP x0 x1 x2 then bif bj x0 x1 x2 then pkA (gV x0 x1 x2) [(-1:Int),(6:Int)] (aA x0 x1 x2)else bif bo x0 x1 x2 then gV x0 x1 x2 else bif qa x0 x1 x2 then pkA (gV x0 x1 x2) [(-1:Int),(100000:Int),(100001:Int)] (aA x0 x1 x2)else gV x0 x1 x2 else bif bp x0 x1 x2 then pkA (gW x0 x1 x2) [(-1:Int),(6:Int)] (aA x0 x1 x2)else bif bx x0 x1 x2 then gW x0 x1 x2 else bif qb x0 x1 x2 then pkA (gW x0 x1 x2) [(-1:Int),(100000:Int),(100001:Int)] (aA x0 x1 x2)else gW x0 x1 x2
def iv:Int:=bif aP x0 x1 x2 then bif bj x0 x1 x2 then pkS (gV x0 x1 x2) (kk x0 x1 x2) [(-1:Int),(6:Int)] (aA x0 x1 x2)else bif bo x0 x1 x2 then kk x0 x1 x2 else bif qa x0 x1 x2 then pkS (gV x0 x1 x2) (kk x0 x1 x2) [(-1:Int),(100000:Int),(100001:Int)] (aA x0 x1 x2)else kk x0 x1 x2 else bif bp x0 x1 x2 then pkS (gW x0 x1 x2) (km x0 x1 x2) [(-1:Int),(6:Int)] (aA x0 x1 x2)else bif bx x0 x1 x2 then km x0 x1 x2 else bif qb x0 x1 x2 then pkS (gW x0 x1 x2) (km x0 x1 x2) [(-1:Int),(100000:Int),(100001:Int)] (aA x0 x1 x2)else km x0 x1 x2
def wD:List Int:=bif aP x0 x1 x2 then bif bj x0 x1 x2 then p7 x0 x1 x2 else bif bo x0 x1 x2 then p7 x0 x1 x2 else p7 x0 x1 x2 else bif bp x0 x1 x2 then p7 x0 x1 x2 else bif bx x0 x1 x2 then p7 x0 x1 x2 else p7 x0 x1 x2
def wE:List (Int×(Int×Int)):=bif aP x0 x1 x2 then bif bj x0 x1 x2 then qc x0 x1 x2 else bif bo x0 x1 x2 then qc x0 x1 x2 else qc x0 x1 x2 else bif bp x0 x1 x2 then qc x0 x1 x2 else bif bx x0 x1 x2 then qc x0 x1 x2 else qc x0 x1 x2
def eV:List (List Int):=bif aP x0 x1 x2 then bif bj x0 x1 x2 then kn x0 x1 x2 else bif bo x0 x1 x2 then tC x0 x1 x2 else kn x0 x1 x2 else bif bp x0 x1 x2 then kn x0 x1 x2 else bif bx x0 x1 x2 then tC x0 x1 x2 else kn x0 x1 x2
def wF:List (Int×(Int×Int)):=bif aP x0 x1 x2 then bif bj x0 x1 x2 then qd x0 x1 x2 else bif bo x0 x1 x2 then qd x0 x1 x2 else qd x0 x1 x2 else bif bp x0 x1 x2 then qd x0 x1 x2 else bif bx x0 x1 x2 then qd x0 x1 x2 else qd x0 x1 x2
def wG:List (Int×Int):=bif aP x0 x1 x2 then bif bj x0 x1 x2 then zn x0 x1 x2 else bif bo x0 x1 x2 then zn x0 x1 x2 else zn x0 x1 x2 else EY x0 x1 x2
def ve:List (Int×Int):=bif aP x0 x1 x2 then bif bj x0 x1 x2 then zo x0 x1 x2 else bif bo x0 x1 x2 then zo x0 x1 x2 else zo x0 x1 x2 else EY x0 x1 x2
def Mu:Bool:=allT [aD x0 x1 x2,aD (lP x0 x1 x2) (yH x0 x1 x2) x2,aD (nxA (3:Int) (lP x0 x1 x2) x2) (AC x0 x1 x2) x2,aD (AD x0 x1 x2) (AE x0 x1 x2) x2,aD (lA x0 x1 x2) (FW x0 x1 x2) x2,aD (nxA (6:Int) (lA x0 x1 x2) x2) (FX x0 x1 x2) x2&&leN (1:Nat) (List.length (AF x0 x1 x2)),aD (AG x0 x1 x2) (FY x0 x1 x2) x2,Lp.fin gN (EW x0 x1 x2),aD (tv x0 x1 x2) (zl x0 x1 x2) (aA x0 x1 x2),!aP x0 x1 x2||Lo x0 x1 x2,!aP x0 x1 x2||aD (tw x0 x1 x2) (tx x0 x1 x2) (aA x0 x1 x2),!aP x0 x1 x2||aD (tz x0 x1 x2) (zm x0 x1 x2) (aA x0 x1 x2),!aP x0 x1 x2||(!bj x0 x1 x2||Lq x0 x1 x2&&leN (1:Nat) (List.length [(-1:Int),(6:Int)])),!aP x0 x1 x2||(bj x0 x1 x2||(!bo x0 x1 x2||Lr x0 x1 x2)),!aP x0 x1 x2||(bj x0 x1 x2||(!bo x0 x1 x2||Lt x0 x1 x2)),!aP x0 x1 x2||(bj x0 x1 x2||(bo x0 x1 x2||(!qa x0 x1 x2||Lq x0 x1 x2&&leN (1:Nat) (List.length [(-1:Int),(100000:Int),(100001:Int)])))),aP x0 x1 x2||Lo x0 x1 x2,aP x0 x1 x2||(!bp x0 x1 x2||Lu x0 x1 x2&&leN (1:Nat) (List.length [(-1:Int),(6:Int)])),aP x0 x1 x2||(bp x0 x1 x2||(!bx x0 x1 x2||Lr x0 x1 x2)),aP x0 x1 x2||(bp x0 x1 x2||(!bx x0 x1 x2||Lt x0 x1 x2)),aP x0 x1 x2||(bp x0 x1 x2||(bx x0 x1 x2||(!qb x0 x1 x2||Lu x0 x1 x2&&leN (1:Nat) (List.length [(-1:Int),(100000:Int),(100001:Int)]))))]
end
def UI:List SV→List Entry→Option Out
 | [.one ⟨false,[.ptr 0 0]⟩],[.box 157 [.ref 1,.val (.int .i64 x0),.val (.int .i64 x1)],.row false 5 (.int .u8) x2]=>some ⟨(.one ⟨true,[(.val (.int .i64 (Oq x0 x1 x2))),(.ref 2),(.ref 3),(.ref 4),(.ref 5),(.val (.int .i64 (Ot x0 x1 x2))),(.ref 6),(.ref 7),(.val (.int .i64 (Ou x0 x1 x2)))]⟩),[(.box 157 [(.ref 1),(.val (.int .i64 (iu x0 x1 x2))),(.val (.int .i64 (iv x0 x1 x2)))]),(.row false 5 ash x2)],[(.row true 2 asg (wD x0 x1 x2)),(.row true 169 ase (wE x0 x1 x2)),(.row true 24 (CTy.sl (2:Nat) asg) (eV x0 x1 x2)),(.row true 100 ase (wF x0 x1 x2)),(.row true 173 asf (wG x0 x1 x2)),(.row true 176 asf (ve x0 x1 x2))],[(Mu x0 x1 x2)]⟩
 |_,_=>none
def af7:PF Tryz.prog:=PF.ofG Tryz.prog [uf,PF.lend uf,PF.fz uf,j7,PF.lend j7,PF.fz j7,j8,PF.lend j8,PF.fz j8,ug,PF.lend ug,PF.fz ug,lr,PF.lend lr,PF.fz lr,ar,PF.lend ar,PF.fz ar,au,PF.lend au,PF.fz au,Vv] [gN.F] aS 51 Tryz.f51 Tryz.func51 (LOk.fnT (l:= [aT Tryz.f51 0]) (by kernel_rfl) (.cons Ym (.nil _))) UI (by
 intro vs es r h;unfold UI at h;split at h
 ·cases h;kernel_rfl
 ·cases h)
section
variable (x3 x4:Int)(x7:List (List Int))(x11:List Int)
def Mv:Int:=nxV (6:Int) (nxA (↑x7.length:Int) x3 x11) (nxS (↑x7.length:Int) x3 x4 x11) x11
def Un:Bool:=Mv x3 x4 x7 x11==(0:Int)
def dX:Bool:=bif Un x3 x4 x7 x11 then Un x3 x4 x7 x11 else Mv x3 x4 x7 x11==(1:Int)
def vf:Bool:=ltI (0:Int) (↑x7.length:Int)
def AH:Int:=bif vf x7 then(↑(List.length (Option.getD x7[Int.toNat (0:Int)]? (AK (CTy.sl (2:TypeId) asg)))):Int)else(1:Int)
def fh:Int:=nxA (6:Int) (nxA (↑x7.length:Int) x3 x11) x11
def fj:Int:=nxS (6:Int) (nxA (↑x7.length:Int) x3 x11) (nxS (↑x7.length:Int) x3 x4 x11) x11
def lB:Bool:=Mv x3 x4 x7 x11==(2:Int)
def dY:Int:=bif dX x3 x4 x7 x11 then Dn (AH x7) (fh x3 x7 x11) (fj x3 x4 x7 x11) x11 else bif lB x3 x4 x7 x11 then Lj (fh x3 x7 x11) (fj x3 x4 x7 x11) x11 else fh x3 x7 x11
def AJ:Int:=bif dX x3 x4 x7 x11 then Do (AH x7) (fh x3 x7 x11) (fj x3 x4 x7 x11) x11 else bif lB x3 x4 x7 x11 then Lk (fh x3 x7 x11) (fj x3 x4 x7 x11) x11 else fj x3 x4 x7 x11
def Tf:Int:=nxV (80:Int) (dY x3 x4 x7 x11) (AJ x3 x4 x7 x11) x11
def gX:Bool:=Tf x3 x4 x7 x11==(0:Int)
def qe:Int:=nxS (80:Int) (dY x3 x4 x7 x11) (AJ x3 x4 x7 x11) x11
def i7:Bool:=Tf x3 x4 x7 x11==(1:Int)
def Tg:Int:=bif dX x3 x4 x7 x11 then(1:Int)else bif lB x3 x4 x7 x11 then(2:Int)else(0:Int)
def Th:Int:=bif dX x3 x4 x7 x11 then nxV (↑x7.length:Int) x3 x4 x11 else bif lB x3 x4 x7 x11 then(0:Int)else nxV (↑x7.length:Int) x3 x4 x11
def qf:List Int:= [(-1:Int),(↑x7.length:Int)]
def Ti:Int:=bif lB x3 x4 x7 x11 then(0:Int)else(0:Int)
def Lv:Int:=bif dX x3 x4 x7 x11 then Ib (AH x7) (fh x3 x7 x11) (fj x3 x4 x7 x11) x11 else Ti x3 x4 x7 x11
def Lw:Int:=bif dX x3 x4 x7 x11 then Ic (AH x7) (fh x3 x7 x11) (fj x3 x4 x7 x11) x11 else Ti x3 x4 x7 x11
def Lx:Int:=bif dX x3 x4 x7 x11 then(0:Int)else bif lB x3 x4 x7 x11 then Qx (fh x3 x7 x11) (fj x3 x4 x7 x11) x11 else(0:Int)
def Ly:Int:=bif dX x3 x4 x7 x11 then(0:Int)else bif lB x3 x4 x7 x11 then Qy (fh x3 x7 x11) (fj x3 x4 x7 x11) x11 else(0:Int)
def Lz:Bool:=bif dX x3 x4 x7 x11 then false else bif lB x3 x4 x7 x11 then Qz (fh x3 x7 x11) (fj x3 x4 x7 x11) x11 else false
def EZ:Bool:=aD (nxA (80:Int) (dY x3 x4 x7 x11) x11) (qe x3 x4 x7 x11) x11
def Ov:Int:=bif gX x3 x4 x7 x11 then pkV (nxA (80:Int) (dY x3 x4 x7 x11) x11) (qe x3 x4 x7 x11) [(-1:Int),(3:Int),(0:Int),(1:Int),(2:Int)] x11 else bif i7 x3 x4 x7 x11 then Tg x3 x4 x7 x11 else Tg x3 x4 x7 x11
def Ow:Int:=bif gX x3 x4 x7 x11 then Th x3 x4 x7 x11 else bif i7 x3 x4 x7 x11 then pkV (nxA (80:Int) (dY x3 x4 x7 x11) x11) (qe x3 x4 x7 x11) (qf x7) x11 else Th x3 x4 x7 x11
def Ox:Int:=bif gX x3 x4 x7 x11 then Lv x3 x4 x7 x11 else bif i7 x3 x4 x7 x11 then Lv x3 x4 x7 x11 else Lv x3 x4 x7 x11
def Oy:Int:=bif gX x3 x4 x7 x11 then Lw x3 x4 x7 x11 else bif i7 x3 x4 x7 x11 then Lw x3 x4 x7 x11 else Lw x3 x4 x7 x11
def Oz:Int:=bif gX x3 x4 x7 x11 then Lx x3 x4 x7 x11 else bif i7 x3 x4 x7 x11 then Lx x3 x4 x7 x11 else Lx x3 x4 x7 x11
def OA:Int:=bif gX x3 x4 x7 x11 then Ly x3 x4 x7 x11 else bif i7 x3 x4 x7 x11 then Ly x3 x4 x7 x11 else Ly x3 x4 x7 x11
def OB:Bool:=bif gX x3 x4 x7 x11 then Lz x3 x4 x7 x11 else bif i7 x3 x4 x7 x11 then Lz x3 x4 x7 x11 else Lz x3 x4 x7 x11
def Ig:Int:=bif gX x3 x4 x7 x11 then pkA (nxA (80:Int) (dY x3 x4 x7 x11) x11) [(-1:Int),(3:Int),(0:Int),(1:Int),(2:Int)] x11 else bif i7 x3 x4 x7 x11 then pkA (nxA (80:Int) (dY x3 x4 x7 x11) x11) (qf x7) x11 else nxA (80:Int) (dY x3 x4 x7 x11) x11
def Ih:Int:=bif gX x3 x4 x7 x11 then pkS (nxA (80:Int) (dY x3 x4 x7 x11) x11) (qe x3 x4 x7 x11) [(-1:Int),(3:Int),(0:Int),(1:Int),(2:Int)] x11 else bif i7 x3 x4 x7 x11 then pkS (nxA (80:Int) (dY x3 x4 x7 x11) x11) (qe x3 x4 x7 x11) (qf x7) x11 else qe x3 x4 x7 x11
def Ii:Bool:=allT [aD x3 x4 x11,aD (nxA (↑x7.length:Int) x3 x11) (nxS (↑x7.length:Int) x3 x4 x11) x11,!dX x3 x4 x7 x11||(!vf x7||leI (0:Int) (0:Int)),!dX x3 x4 x7 x11||(!vf x7||vf x7),!dX x3 x4 x7 x11||(!vf x7||ltN (Int.toNat (0:Int)) x7.length),!dX x3 x4 x7 x11||aD (fh x3 x7 x11) (fj x3 x4 x7 x11) x11,dX x3 x4 x7 x11||(!lB x3 x4 x7 x11||aD (fh x3 x7 x11) (fj x3 x4 x7 x11) x11),aD (dY x3 x4 x7 x11) (AJ x3 x4 x7 x11) x11,!gX x3 x4 x7 x11||EZ x3 x4 x7 x11&&leN (1:Nat) (List.length [(-1:Int),(3:Int),(0:Int),(1:Int),(2:Int)]),gX x3 x4 x7 x11||(!i7 x3 x4 x7 x11||EZ x3 x4 x7 x11&&leN (1:Nat) (List.length (qf x7)))]
end
def UJ:List SV→List Entry→Option Out
 | [.one ⟨false,[.ptr 0 0]⟩,.one ⟨true,[.val (.int .i64 _x0),.ref 1,.ref 2,.ref 3,.ref 4,.val (.int .i64 _x1),.ref 5,.ref 6,.val (.int .i64 _x2)]⟩],[.box 157 [.ref 7,.val (.int .i64 x3),.val (.int .i64 x4)],.row false 2 (.int .i64) x5,.row false 169 (.pair (.int .i64) (.pair (.int .i64) (.int .i64))) x6,.row false 24 (.sl 2 (.int .i64)) x7,.row false 100 (.pair (.int .i64) (.pair (.int .i64) (.int .i64))) x8,.row false 173 (.pair (.int .i64) (.int .i64)) x9,.row false 176 (.pair (.int .i64) (.int .i64)) x10,.row false 5 (.int .u8) x11]=>some ⟨(.one ⟨true,[(.val (.int .i64 (Ov x3 x4 x7 x11))),(.val (.int .i64 (Ow x3 x4 x7 x11))),(.val (.int .i64 (Ox x3 x4 x7 x11))),(.val (.int .i64 (Oy x3 x4 x7 x11))),(.val (.int .i64 (Oz x3 x4 x7 x11))),(.val (.int .i64 (OA x3 x4 x7 x11))),(.val (.bool (OB x3 x4 x7 x11)))]⟩),[(.box 157 [(.ref 7),(.val (.int .i64 (Ig x3 x4 x7 x11))),(.val (.int .i64 (Ih x3 x4 x7 x11)))]),(.row false 2 asg x5),(.row false 169 ase x6),(.row false 24 (CTy.sl (2:TypeId) asg) x7),(.row false 100 ase x8),(.row false 173 asf x9),(.row false 176 asf x10),(.row false 5 ash x11)],[],[(Ii x3 x4 x7 x11)]⟩
 |_,_=>none
def af8:PF Tryz.prog:=PF.ofG Tryz.prog [NR,PF.lend NR,PF.fz NR,Vu,PF.lend Vu,PF.fz Vu,ar,PF.lend ar,PF.fz ar,au,PF.lend au,PF.fz au] [] aS 53 Tryz.f53 Tryz.func53 (fun c _=>LOk.nil c) UJ (by
 intro vs es r h;unfold UJ at h;split at h
 ·cases h;kernel_rfl
 ·cases h)
end Go.SX

namespace Go.SX
open Go.Proofs
set_option maxRecDepth 100000
 attribute [local irreducible] nxA nxS nxV pkA pkS pkV
def ajE(n:Nat)(l:List (List Int)):Prop:= ∀ x∈l,x.length≤n
theorem apK(n:Nat):ajE n []:=fun _ h=>by cases h
theorem amM{n:Nat}{l:List (List Int)}{x:List Int}(h:ajE n l)(hx:x.length≤n):ajE n (l++ [x]):=fun y hy=>by
 simp only [List.mem_append,List.mem_cons,List.not_mem_nil,or_false]at hy
 rcases hy with hy | rfl
 ·exact h y hy
 ·exact hx
theorem apJ{n:Nat}{l:List (List Int)}{x:List Int}(h:ajE n l)(hx:x∈l):x.length≤n:=h x hx
 attribute [local irreducible] ajE
theorem Uw(c:List Int)(x:gM)(hx:match x with | (y0,y1,y2,y3,y4,y5)=>y1 - y0≤((500:Nat):Int)∧0≤y0∧(y2.length:Int)=y1∧y1≤500∧aD y3 y4 y5=true∧y5=c):
  dZ.fin x=true∧ ∃ j y,dZ.res x=(j,y)∧(match y with | (y0,y1,y2,y3,y4,y5)=>(y2.length:Int)≤500∧aD y3 y4 c=true∧c=y5):=by
 refine dZ.inv2 (fun k x=>match x with | (y0,y1,y2,y3,y4,y5)=>y1 - y0≤(k:Int)∧0≤y0∧(y2.length:Int)=y1∧y1≤500∧aD y3 y4 y5=true∧y5=c) (fun y=>match y with | (y0,y1,y2,y3,y4,y5)=>(y2.length:Int)≤500∧aD y3 y4 c=true∧c=y5) (fun k x hx=> ?_) (fun x hx=> ?_) 500 x (by omega) hx
 ·obtain⟨y0,y1,y2,y3,y4,y5⟩:=x
  obtain⟨h0,h1,h2,h3,h4,rfl⟩:=hx
  skip
  simp only [dZ,DH,LT.ok,DE,DF,and_true,Fv,Fw,Fx,Fy,Fz,FA,FB,FC,FD,Bool.or_eq_true,Bool.and_eq_true]
  repeat' (first | refine And.intro ?_ ?_ | intro _)
  all_goals first
   |assumption
   |exact trivial
   |rfl
   |omega
   |(repeat (first | assumption | apply gq | apply ot | apply qF | refine Or.inr ?_ | refine And.intro ?_ ?_ | exact trivial | exact qt _ _ | rfl)
     done)
   |((repeat refine Or.inr ?_)
     exact br (by simp only [List.length_append,List.length_cons,List.length_nil];omega))
   |(simp only [List.length_append,List.length_cons,List.length_nil]
     omega)
   |((repeat refine Or.inr ?_)
     exact br (by omega))
   |(repeat' apply l7
     all_goals first | omega | (simp only [List.length_append,List.length_cons,List.length_nil];omega))
   |(try simp only [Bool.or_false,Bool.false_eq_true,Bool.and_eq_true,aH,aE,aI,aN,HL,c8,List.length_set]at *
     rw [aj (by omega) (by omega)]
     omega)
   |(try simp only [Bool.or_false,Bool.false_eq_true,Bool.and_eq_true,aH,aE,aI,aN,HL,c8,List.length_set]at *
     rw [aj (by omega) (by omega)]
     simp only [List.length_append,List.length_cons,List.length_nil]
     omega)
   |(simp only [Bool.or_false,Bool.false_eq_true,Bool.and_eq_true,aH,aE,aI,aN,HL,c8,List.length_set]at *
     omega)
   |(exfalso
     simp only [Bool.or_false,Bool.false_eq_true,Bool.and_eq_true,aH,aE,aI,aN,HL,c8,List.length_set]at *
     omega)
   |(exfalso;simp_all;done)
 ·obtain⟨y0,y1,y2,y3,y4,y5⟩:=x
  obtain⟨h0,h1,h2,h3,h4,rfl⟩:=hx
  skip
  skip
  simp only [dZ,DH,LT.ok,DE,DF,and_true,Fv,Fw,Fx,Fy,Fz,FA,FB,FC,FD,Bool.or_eq_true,Bool.and_eq_true]
  repeat' (first | refine And.intro ?_ ?_ | intro _)
  all_goals first
   |assumption
   |exact trivial
   |rfl
   |omega
   |(repeat (first | assumption | apply gq | apply ot | apply qF | refine Or.inr ?_ | refine And.intro ?_ ?_ | exact trivial | exact qt _ _ | rfl)
     done)
   |((repeat refine Or.inr ?_)
     exact br (by simp only [List.length_append,List.length_cons,List.length_nil];omega))
   |(simp only [List.length_append,List.length_cons,List.length_nil]
     omega)
   |((repeat refine Or.inr ?_)
     exact br (by omega))
   |(repeat' apply l7
     all_goals first | omega | (simp only [List.length_append,List.length_cons,List.length_nil];omega))
   |(try simp only [Bool.or_false,Bool.false_eq_true,Bool.and_eq_true,aH,aE,aI,aN,HL,c8,List.length_set]at *
     rw [aj (by omega) (by omega)]
     omega)
   |(try simp only [Bool.or_false,Bool.false_eq_true,Bool.and_eq_true,aH,aE,aI,aN,HL,c8,List.length_set]at *
     rw [aj (by omega) (by omega)]
     simp only [List.length_append,List.length_cons,List.length_nil]
     omega)
   |(simp only [Bool.or_false,Bool.false_eq_true,Bool.and_eq_true,aH,aE,aI,aN,HL,c8,List.length_set]at *
     omega)
   |(exfalso
     simp only [Bool.or_false,Bool.false_eq_true,Bool.and_eq_true,aH,aE,aI,aN,HL,c8,List.length_set]at *
     omega)
   |(exfalso;simp_all;done)
theorem YC(c:List Int)(x:jn)(hx:match x with | (y0,y1,y2,y3,y4,y5,y6,y7)=>0≤y0∧(y6.length:Int) - y0≤((9:Nat):Int)∧y6.length≤9∧(1≤y1∧y1≤500)∧aD y3 y4 y7=true∧y5.length + (9:Nat)≤9∧ajE 500 y5∧y7=c):
  gN.fin x=true∧ ∃ j y,gN.res x=(j,y)∧(match y with | (y0,y1,y2,y3,y4,y5,y6,y7)=>aD y3 y4 c=true∧y5.length≤9∧ajE 500 y5∧c=y7):=by
 refine gN.inv2 (fun k x=>match x with | (y0,y1,y2,y3,y4,y5,y6,y7)=>0≤y0∧(y6.length:Int) - y0≤(k:Int)∧y6.length≤9∧(1≤y1∧y1≤500)∧aD y3 y4 y7=true∧y5.length + k≤9∧ajE 500 y5∧y7=c) (fun y=>match y with | (y0,y1,y2,y3,y4,y5,y6,y7)=>aD y3 y4 c=true∧y5.length≤9∧ajE 500 y5∧c=y7) (fun k x hx=> ?_) (fun x hx=> ?_) 9 x (by omega) hx
 ·obtain⟨y0,y1,y2,y3,y4,y5,y6,y7⟩:=x
  obtain⟨h0,h1,h2,h3,h4,h5,h6,rfl⟩:=hx
  have hs:aD (Bh y0 y2 y3 y6 y7) (Bi y0 y2 y3 y4 y6 y7) y7=true:=by simp only [Bh,Bi];exact qF (gq h4) h4
  have hf:=XA y1 2 (by rw [dk (by omega),dk (by omega)];rfl)
  obtain⟨f1,j1,⟨z0,z1,z2,z3,z4,z5⟩,g1,q1,q2,q3⟩:=Uw y7 (Bj y0 y1 y2 y3 y4 y6 y7) (by
   simp only [Bj]
   refine⟨by omega,by omega,hf.2,by omega,?_⟩
   exact⟨hs,trivial⟩)
  subst q3
  have hr:leI 0 y1=true∧leI y1 500=true:=⟨dk (by omega),dk (by omega)⟩
  have hl:(bif mL y0 y2 y3 y4 y6 y7 then z2 else qg y1 2).length≤500:=l7 (by omega) (by omega)
  have e9:aD (JM y0 y1 y2 y3 y4 y6 y7) (Id y0 y1 y2 y3 y4 y6 y7) y7=true:=by
   simp only [JM,Id,Ie,Bk,g1]
   exact qF q2 hs
  have e6:uN y0 y1 y2 y3 y4 y6 y7= [bif mL y0 y2 y3 y4 y6 y7 then z2 else qg y1 2]:=by simp only [uN,Bk,g1]
  simp only [gN,HM,LT.ok,DE,DF,and_true,Dz,RC,RD,RE,RF,RG,RH,RI,RJ,QF,QG,Bool.cond_self,f1,e6,Bool.or_eq_true,Bool.and_eq_true]
  repeat' (first | refine And.intro ?_ ?_ | intro _)
  all_goals first
   |exact amM h6 hl
   |exact e9
   |exact hr.1
   |exact hr.2
   |assumption
   |exact trivial
   |rfl
   |omega
   |(repeat (first | assumption | apply gq | apply ot | apply qF | refine Or.inr ?_ | refine And.intro ?_ ?_ | exact trivial | exact qt _ _ | rfl | exact gq h4 | exact h4)
     done)
   |((repeat refine Or.inr ?_)
     exact br (by simp only [List.length_append,List.length_cons,List.length_nil];omega))
   |(simp only [List.length_append,List.length_cons,List.length_nil]
     omega)
   |((repeat refine Or.inr ?_)
     exact br (by omega))
   |(repeat' apply l7
     all_goals first | omega | (simp only [List.length_append,List.length_cons,List.length_nil];omega))
   |(try simp only [Bool.or_false,Bool.false_eq_true,Bool.and_eq_true,aH,aE,aI,aN,HL,c8,List.length_set]at *
     rw [aj (by omega) (by omega)]
     omega)
   |(try simp only [Bool.or_false,Bool.false_eq_true,Bool.and_eq_true,aH,aE,aI,aN,HL,c8,List.length_set]at *
     rw [aj (by omega) (by omega)]
     simp only [List.length_append,List.length_cons,List.length_nil]
     omega)
   |(simp only [Bool.or_false,Bool.false_eq_true,Bool.and_eq_true,aH,aE,aI,aN,HL,c8,List.length_set]at *
     omega)
   |(exfalso
     simp only [Bool.or_false,Bool.false_eq_true,Bool.and_eq_true,aH,aE,aI,aN,HL,c8,List.length_set]at *
     omega)
   |(exfalso;simp_all;done)
 ·obtain⟨y0,y1,y2,y3,y4,y5,y6,y7⟩:=x
  obtain⟨h0,h1,h2,h3,h4,h5,h6,rfl⟩:=hx
  have e0:ltI y0 (y6.length:Int)=false:=aj8 (by omega)
  simp only [gN,HM,LT.ok,Dz,e0,Bool.false_eq_true,false_implies,true_implies,true_and,and_true]
  exact⟨h4,by omega,h6⟩
theorem JK(a s:Int)(c:List Int)(h:aD a s c=true):Mu a s c=true∧aD (iu a s c) (iv a s c) c=true∧
  zC 1000000 (wD a s c) (wE a s c) (eV a s c) (wF a s c) (wG a s c) (ve a s c)=true:=by
 obtain⟨_,d1,d2⟩:=aj0 a s c h
 have s1:aD (nxA 3 (lP a s c) c) (AC a s c) c=true:=gq d1
 have n1:=ZL (n:=3) d1 (by omega)
 have r0:q9 a s c=1 + nxV 3 (lP a s c) (yH a s c) c:=by simp only [q9];exact aj (by omega) (by omega)
 obtain⟨_,d3,d4⟩:=ae1 (jm a s c) _ _ c s1
 have s2:aD (AD a s c) (AE a s c) c=true:=d3
 obtain⟨_,d5,d6⟩:=Ph (q9 a s c) _ _ c s2
 have s3:aD (lA a s c) (FW a s c) c=true:=d5
 have s4:aD (nxA 6 (lA a s c) c) (FX a s c) c=true:=gq s3
 have s5:aD (AG a s c) (FY a s c) c=true:=ot s4
 obtain⟨f0,j0,⟨z0,z1,z2,z3,z4,z5,z6,z7⟩,g0,q1,q2,q3,q4⟩:=YC c (EW a s c) (by
  simp only [EW]
  exact⟨by omega,by omega,d2,by omega,gq s5,by simp,apK _,trivial⟩)
 subst q4
 have e12:tv a s c=z3:=by simp only [tv,tu,g0]
 have e14:zl a s c=z4:=by simp only [zl,zk,tu,g0]
 have e16:aA a s c=c:=by simp only [aA,EX,zk,tu,g0]
 have e39:kn a s c=z5:=by simp only [kn,EX,zk,tu,g0]
 have s6:aD (kj a s c) (mq a s c) c=true:=by simp only [kj,mq,e12,e14,e16];exact gq q1
 obtain⟨_,d7,d8⟩:=Xz _ _ c s6
 have s7:aD (tw a s c) (tx a s c) c=true:=by simp only [tw,tx,e16];exact d7
 obtain⟨_,d9,d10⟩:=QB _ _ c s7
 have s8:aD (tz a s c) (zm a s c) c=true:=by simp only [tz,zm,e16];exact d9
 have s9:aD (gV a s c) (kk a s c) c=true:=by simp only [gV,kk,e16];exact gq s8
 have s10:aD (gW a s c) (km a s c) c=true:=by simp only [gW,km,e16];exact gq s6
 have l5:z5.length≤9:=q2
 refine⟨?_,?_,?_⟩
 ·have k1:leN (z5.length + [[(2:Int)]].length) 9223372036854775807=true:=br (by simp only [List.length_cons,List.length_nil];omega)
  have k2:leN ((z5.length + [[(2:Int)]].length) * 24) 140737488355328=true:=br (by simp only [List.length_cons,List.length_nil];omega)
  have s11:aD z3 z4 c=true:=q1
  simp only [Mu,Lo,Lq,Lr,Lt,Lu,AF,e12,e14,e16,e39,h,d1,s1,s2,s3,s4,s5,s6,s7,s8,s9,s10,s11,f0,k1,k2,qt,allT,Bool.or_true,Bool.and_self,cond_true]
 ·simp only [iu,iv,e16]
  cases aP a s c <;> cases bj a s c <;> cases bo a s c <;> cases qa a s c <;> cases bp a s c <;> cases bx a s c <;> cases qb a s c <;> first | exact s9 | exact s10 | exact ot s9 | exact ot s10
 ·have m0:ajE 500 (tC a s c):=by simp only [tC,e39];exact amM q3 (by simp)
  have m1:(tC a s c).length≤10:=by simp only [tC,e39,List.length_append,List.length_cons,List.length_nil];omega
  have m2:(eV a s c).length≤10∧ajE 500 (eV a s c):=by
   simp only [eV,e39]
   cases aP a s c <;> cases bj a s c <;> cases bo a s c <;> cases bp a s c <;> cases bx a s c <;> (simp only [cond_true,cond_false];first | exact⟨by omega,q3⟩ | exact⟨m1,m0⟩)
  have m3:(wD a s c).length≤20:=by
   simp only [wD]
   cases aP a s c <;> cases bj a s c <;> cases bo a s c <;> cases bp a s c <;> cases bx a s c <;> (simp only [cond_true,cond_false];omega)
  have m4:(wE a s c).length≤20:=by
   have d4':(qc a s c).length≤15:=d4
   simp only [wE]
   cases aP a s c <;> cases bj a s c <;> cases bo a s c <;> cases bp a s c <;> cases bx a s c <;> (simp only [cond_true,cond_false];omega)
  have m5:(wF a s c).length≤20:=by
   have d6':(qd a s c).length≤20:=d6
   simp only [wF]
   cases aP a s c <;> cases bj a s c <;> cases bo a s c <;> cases bp a s c <;> cases bx a s c <;> (simp only [cond_true,cond_false];omega)
  have m6:(wG a s c).length≤20:=by
   have d8':(zn a s c).length≤20:=by simp only [zn,e16];exact d8
   simp only [wG,EY]
   cases aP a s c <;> cases bj a s c <;> cases bo a s c <;> cases bp a s c <;> cases bx a s c <;> (simp only [cond_true,cond_false,List.length_nil];omega)
  have m7:(ve a s c).length≤20:=by
   have d10':(zo a s c).length≤20:=by simp only [zo,e16];exact d10
   simp only [ve,EY]
   cases aP a s c <;> cases bj a s c <;> cases bo a s c <;> cases bp a s c <;> cases bx a s c <;> (simp only [cond_true,cond_false,List.length_nil];omega)
  have m8:=m2.2
  refine UB.2 ⟨by omega,by omega,⟨by omega,fun x hx=> ?_⟩,by omega,by omega,by omega⟩
  have:=apJ m8 hx
  omega
def UL:List SV→List Entry→Option Out
 | [.one ⟨false,[.ptr 0 0]⟩],[.box 157 [.ref 1,.val (.int .i64 x0),.val (.int .i64 x1)],.row false 5 (.int .u8) x2]=>some ⟨(.one ⟨true,[(.val (.int .i64 (Oq x0 x1 x2))),(.ref 2),(.ref 3),(.ref 4),(.ref 5),(.val (.int .i64 (Ot x0 x1 x2))),(.ref 6),(.ref 7),(.val (.int .i64 (Ou x0 x1 x2)))]⟩),[(.box 157 [(.ref 1),(.val (.int .i64 (iu x0 x1 x2))),(.val (.int .i64 (iv x0 x1 x2)))]),(.row false 5 ash x2)],[(.row true 2 asg (wD x0 x1 x2)),(.row true 169 ase (wE x0 x1 x2)),(.row true 24 (CTy.sl (2:Nat) asg) (eV x0 x1 x2)),(.row true 100 ase (wF x0 x1 x2)),(.row true 173 asf (wG x0 x1 x2)),(.row true 176 asf (ve x0 x1 x2))],[aD x0 x1 x2]⟩
 |_,_=>none
def NS:PF Tryz.prog:=PF.alt af7 UL (by
 intro args es o h hnd;unfold UL at h;split at h
 ·rename_i x0 x1 x2
  cases h
  have hnd:=gO hnd
  have hh:=(JK x0 x1 x2 hnd).1
  have en:=hh
  exact jO rfl (gn en) rfl rfl rfl
 ·cases h)
theorem ab5(a s:Int)(rs:List (List Int))(c:List Int)(h:aD a s c=true):Ii a s rs c=true∧aD (Ig a s rs c) (Ih a s rs c) c=true:=by
 have s1:aD (nxA (rs.length:Int) a c) (nxS (rs.length:Int) a s c) c=true:=gq h
 have s2:aD (fh a rs c) (fj a s rs c) c=true:=gq s1
 have d1:=(RB (AH rs) _ _ c s2).2
 have d2:=(Xy _ _ c s2).2
 have s3:aD (dY a s rs c) (AJ a s rs c) c=true:=by simp only [dY,AJ];exact qF d1 (qF d2 s2)
 have s4:aD (nxA 80 (dY a s rs c) c) (qe a s rs c) c=true:=gq s3
 refine⟨?_,?_⟩
 ·cases h3:vf rs with
  |false=>simp only [Ii,EZ,qf,h,h3,s1,s2,s3,s4,qt,aj1,allT,Bool.not_false,Bool.true_or,Bool.or_true,Bool.and_self,cond_true]
  |true=>
   have h4:=aH.1 h3
   have h5:ltN (Int.toNat 0) rs.length=true:=fJ (by simp only [Int.toNat_zero];omega)
   simp only [Ii,EZ,qf,h,h3,h5,s1,s2,s3,s4,qt,aj1,allT,Bool.not_true,Bool.false_or,Bool.or_true,Bool.and_self,cond_true]
 ·simp only [Ig,Ih,qf]
  exact qF (ot s4) (qF (ot s4) s4)
def UM:List SV→List Entry→Option Out
 | [.one ⟨false,[.ptr 0 0]⟩,.one ⟨true,[.val (.int .i64 _x0),.ref 1,.ref 2,.ref 3,.ref 4,.val (.int .i64 _x1),.ref 5,.ref 6,.val (.int .i64 _x2)]⟩],[.box 157 [.ref 7,.val (.int .i64 x3),.val (.int .i64 x4)],.row false 2 (.int .i64) x5,.row false 169 (.pair (.int .i64) (.pair (.int .i64) (.int .i64))) x6,.row false 24 (.sl 2 (.int .i64)) x7,.row false 100 (.pair (.int .i64) (.pair (.int .i64) (.int .i64))) x8,.row false 173 (.pair (.int .i64) (.int .i64)) x9,.row false 176 (.pair (.int .i64) (.int .i64)) x10,.row false 5 (.int .u8) x11]=>some ⟨(.one ⟨true,[(.val (.int .i64 (Ov x3 x4 x7 x11))),(.val (.int .i64 (Ow x3 x4 x7 x11))),(.val (.int .i64 (Ox x3 x4 x7 x11))),(.val (.int .i64 (Oy x3 x4 x7 x11))),(.val (.int .i64 (Oz x3 x4 x7 x11))),(.val (.int .i64 (OA x3 x4 x7 x11))),(.val (.bool (OB x3 x4 x7 x11)))]⟩),[(.box 157 [(.ref 7),(.val (.int .i64 (Ig x3 x4 x7 x11))),(.val (.int .i64 (Ih x3 x4 x7 x11)))]),(.row false 2 asg x5),(.row false 169 ase x6),(.row false 24 (CTy.sl (2:TypeId) asg) x7),(.row false 100 ase x8),(.row false 173 asf x9),(.row false 176 asf x10),(.row false 5 ash x11)],[],[aD x3 x4 x11]⟩
 |_,_=>none
def NT:PF Tryz.prog:=PF.alt af8 UM (by
 intro args es o h hnd;unfold UM at h;split at h
 ·rename_i _x0 _x1 _x2 x3 x4 x5 x6 x7 x8 x9 x10 x11
  cases h
  have hnd:=gO hnd
  have hh:=(ab5 x3 x4 x7 x11 hnd).1
  have en:=hh
  exact jO rfl (gn en) rfl rfl rfl
 ·cases h)
end Go.SX

namespace Go.SX
open Go.Proofs
set_option maxRecDepth 100000
def pJ(x0:List Int):Bool:=ltI (4096:Int) (↑x0.length:Int)
def ajC:List SV→List Entry→Option Out
 | [.one ⟨false,[.ref 0]⟩],[.row false 5 (.int .u8) x0]=>some ⟨(.one ⟨false,[(.val (.bool (pJ x0)))]⟩),[(.row false 5 ash x0)],[],[]⟩
 |_,_=>none
def af5:PF Tryz.prog:=PF.ofG Tryz.prog [] [] aS 10 Tryz.f10 Tryz.func10 (fun c _=>LOk.nil c) ajC (by
 intro vs es r h;unfold ajC at h;split at h
 ·cases h;kernel_rfl
 ·cases h)
def Al(x0 x1:Int)(x2 x3:List Int):Bool:=bif x0==x1 then eqL x2 x3 else false
def FT(x0 x1:Int)(x2:List Int):Bool:=allT [!(x0==x1&&true)||leN x2.length (9223372036854775807:Nat)]
def TX:List SV→List Entry→Option Out
 | [.one ⟨true,[.val (.int .i64 x0),.ref 0]⟩,.one ⟨true,[.val (.int .i64 x1),.ref 1]⟩],[.row false 2 (.int .i64) x2,.row false 2 (.int .i64) x3]=>some ⟨(.one ⟨false,[(.val (.bool (Al x0 x1 x2 x3)))]⟩),[(.row false 2 asg x2),(.row false 2 asg x3)],[],[(FT x0 x1 x2)]⟩
 |_,_=>none
def lu:PF Tryz.prog:=PF.ofG Tryz.prog [lD,PF.lend lD,PF.fz lD] [] aS 58 Tryz.f58 Tryz.func58 (fun c _=>LOk.nil c) TX (by
 intro vs es r h;unfold TX at h;split at h
 ·cases h;kernel_rfl
 ·cases h)
abbrev il:=Int×List (Int×(Int×Int))×List (Int×(Int×Int))
section
variable (y0:Int)(y1 y2:List (Int×(Int×Int)))
def mu:Int×Int×Int:=Option.getD y1[Int.toNat y0]? ((0:Int),(0:Int),(0:Int))
def mv:Int×Int×Int:=Option.getD y2[Int.toNat y0]? ((0:Int),(0:Int),(0:Int))
def ro:Bool:=ltI y0 (↑y1.length:Int)
def rp:Bool:=leI (0:Int) y0
def vK:Bool:=ltN y0.toNat y1.length
def vL:Bool:=ltI y0 (↑y2.length:Int)
def vM:Bool:=ltN y0.toNat y2.length
def vN:Bool:= !bif (mu y0 y1).1==(mv y0 y2).1then bif ((mu y0 y1).2).1==((mv y0 y2).2).1then bif (mu y0 y1).2.2==(mv y0 y2).2.2then true else false else false else false
def vO:Int:=IntKind.wrap .i64 (y0 + (1:Int))
end
def aaj:il→List (Nat×SV)
 |(y0,_,_)=> [(5,(.one ⟨false,[(.val (.int .i64 y0))]⟩)),(0,(.one ⟨false,[(.ref 0)]⟩)),(1,(.one ⟨false,[(.ref 1)]⟩))]
def aah:il→List (Nat×Entry)
 |(_,y1,y2)=> [(0,(.row false 169 ase y1)),(1,(.row false 169 ase y2))]
def aan:Nat→il→List (Nat×SV)
 |0,(_,_,_)=> [(4,(.one ⟨false,[(.val (.bool false))]⟩))]
 |_,(_,_,_)=> []
def aal:Nat→il→List (Nat×Entry)
 |0,(_,y1,y2)=> [(0,(.row false 169 ase y1)),(1,(.row false 169 ase y2))]
 |_,(_,y1,y2)=> [(0,(.row false 169 ase y1)),(1,(.row false 169 ase y2))]
def ud:il→LT il
 |(y0,y1,y2)=> .ite (ro y0 y1) (.need [(rp y0),(ro y0 y1),(vK y0 y1),(rp y0),(vL y0 y2),(vM y0 y2)] (.ite (vN y0 y1 y2) (.ext 0 [(0,0),(1,1)]) (.nrm ((vO y0),y1,y2) [(0,0),(1,1)]))) (.ext 1 [(0,0),(1,1)])
def HP(s:St):Option il:=
 (match s.look 5 with
 |some ⟨none,(.one ⟨false,[(.val (.int .i64 y0))]⟩)⟩=>
 (match s.look 0 with
 |some ⟨none,(.one ⟨false,[(.ref 0)]⟩)⟩=>
 (match s.look 1 with
 |some ⟨none,(.one ⟨false,[(.ref 1)]⟩)⟩=>
 (match s.ent 0 with
 |some (.row false 169 (.pair (.int .i64) (.pair (.int .i64) (.int .i64))) y1)=>
 (match s.ent 1 with
 |some (.row false 169 (.pair (.int .i64) (.pair (.int .i64) (.int .i64))) y2)=>
 some (y0,y1,y2)
 |_=>none)
 |_=>none)
 |_=>none)
 |_=>none)
 |_=>none)
def cm:Lp il where
 h:=⟨[11,12,13,14,17,18,19,20,21,22,23,24,25,4,15,16,5],[0,1],[],[]⟩
 JL:=aaj
 JE:=aah
 XL:=aan
 XE:=aal
 q:=fun j=>match j with | 0=> .ret | _=> .exit 0
 tags:= [0,1]
 lt:=ud
 fuel:=fun(y0,y1,y2)=>y0.natAbs + y1.length + y2.length
 fix:=fun(_,y1,y2) (y0,_,_)=>(y0,y1,y2)
 σ:= [(0,0),(1,1)]
 rd:=HP
theorem Yl:LoopOk Tryz.prog (fun k=>Nat.blt k Tryz.f59.ntmps) cm.F (aT Tryz.f59 0):=by
 refine Lp.ok (tbl:= []) (lf:= []) aS cm (by kernel_rfl) (LOk.nil _) (fun _=>rfl) (fun j _=>by unfold cm;match j with | 0=>rfl | _ + 1=>rfl) ?_ ?_ ?_ ?_ (fun _=>rfl) ?_
 ·rintro⟨y0,y1,y2⟩;kernel_rfl
 ·rintro⟨y0,y1,y2⟩;kernel_rfl
 ·intro s x h
  have h:HP s=some x:=h
  unfold HP at h
  repeat' split at h
  all_goals cases h
  exact⟨aa (by assumption) rfl (aa (by assumption) rfl (aa (by assumption) rfl (rfl))),ab rfl (by assumption) rfl (ab rfl (by assumption) rfl (rfl))⟩
 ·rintro⟨y0,y1,y2⟩;kernel_rfl
 ·rintro⟨y0,y1,y2⟩ z;exact(And.intro (And.intro trivial rfl) trivial)
section
variable (x0 x1:List (Int×Int×Int))
def Ak:Bool:=(↑x0.length:Int)!=(↑x1.length:Int)
def FS:Int×List (Int×Int×Int)×List (Int×Int×Int):=((0:Int),x0,x1)
def HG:Bool:=bif Ak x0 x1 then false else bif Nat.beq ((Lp.res cm (FS x0 x1)).1) (0:Nat)then false else true
def CE:Bool:=allT [Ak x0 x1||Lp.fin cm (FS x0 x1)]
end
def UG:List SV→List Entry→Option Out
 | [.one ⟨false,[.ref 0]⟩,.one ⟨false,[.ref 1]⟩],[.row false 169 (.pair (.int .i64) (.pair (.int .i64) (.int .i64))) x0,.row false 169 (.pair (.int .i64) (.pair (.int .i64) (.int .i64))) x1]=>some ⟨(.one ⟨false,[(.val (.bool (HG x0 x1)))]⟩),[(.row false 169 ase x0),(.row false 169 ase x1)],[],[(CE x0 x1)]⟩
 |_,_=>none
def my:PF Tryz.prog:=PF.ofG Tryz.prog [] [cm.F] aS 59 Tryz.f59 Tryz.func59 (LOk.fnT (l:= [aT Tryz.f59 0]) (by kernel_rfl) (.cons Yl (.nil _))) UG (by
 intro vs es r h;unfold UG at h;split at h
 ·cases h;kernel_rfl
 ·cases h)
abbrev iU:=Int×List (Int×Int)×List (Int×Int)
section
variable (y0:Int)(y1 y2:List (Int×Int))
def ru:Int×Int:=Option.getD y1[Int.toNat y0]? ((0:Int),(0:Int))
def rv:Int×Int:=Option.getD y2[Int.toNat y0]? ((0:Int),(0:Int))
def sQ:Bool:=ltI y0 (↑y1.length:Int)
def sR:Bool:=leI (0:Int) y0
def yq:Bool:=ltN y0.toNat y1.length
def yt:Bool:=ltI y0 (↑y2.length:Int)
def yu:Bool:=ltN y0.toNat y2.length
def yw:Bool:= !bif (ru y0 y1).1==(rv y0 y2).1then bif (ru y0 y1).2==(rv y0 y2).2then true else false else false
def yx:Int:=IntKind.wrap .i64 (y0 + (1:Int))
end
def abw:iU→List (Nat×SV)
 |(y0,_,_)=> [(5,(.one ⟨false,[(.val (.int .i64 y0))]⟩)),(0,(.one ⟨false,[(.ref 0)]⟩)),(1,(.one ⟨false,[(.ref 1)]⟩))]
def abm:iU→List (Nat×Entry)
 |(_,y1,y2)=> [(0,(.row false 173 asf y1)),(1,(.row false 173 asf y2))]
def abQ:Nat→iU→List (Nat×SV)
 |0,(_,_,_)=> [(4,(.one ⟨false,[(.val (.bool false))]⟩))]
 |_,(_,_,_)=> []
def abG:Nat→iU→List (Nat×Entry)
 |0,(_,y1,y2)=> [(0,(.row false 173 asf y1)),(1,(.row false 173 asf y2))]
 |_,(_,y1,y2)=> [(0,(.row false 173 asf y1)),(1,(.row false 173 asf y2))]
def vU:iU→LT iU
 |(y0,y1,y2)=> .ite (sQ y0 y1) (.need [(sR y0),(sQ y0 y1),(yq y0 y1),(sR y0),(yt y0 y2),(yu y0 y2)] (.ite (yw y0 y1 y2) (.ext 0 [(0,0),(1,1)]) (.nrm ((yx y0),y1,y2) [(0,0),(1,1)]))) (.ext 1 [(0,0),(1,1)])
def JF(s:St):Option iU:=
 (match s.look 5 with
 |some ⟨none,(.one ⟨false,[(.val (.int .i64 y0))]⟩)⟩=>
 (match s.look 0 with
 |some ⟨none,(.one ⟨false,[(.ref 0)]⟩)⟩=>
 (match s.look 1 with
 |some ⟨none,(.one ⟨false,[(.ref 1)]⟩)⟩=>
 (match s.ent 0 with
 |some (.row false 173 (.pair (.int .i64) (.int .i64)) y1)=>
 (match s.ent 1 with
 |some (.row false 173 (.pair (.int .i64) (.int .i64)) y2)=>
 some (y0,y1,y2)
 |_=>none)
 |_=>none)
 |_=>none)
 |_=>none)
 |_=>none)
def cM:Lp iU where
 h:=⟨[11,12,13,14,17,18,19,20,21,22,23,24,25,4,15,16,5],[0,1],[],[]⟩
 JL:=abw
 JE:=abm
 XL:=abQ
 XE:=abG
 q:=fun j=>match j with | 0=> .ret | _=> .exit 0
 tags:= [0,1]
 lt:=vU
 fuel:=fun(y0,y1,y2)=>y0.natAbs + y1.length + y2.length
 fix:=fun(_,y1,y2) (y0,_,_)=>(y0,y1,y2)
 σ:= [(0,0),(1,1)]
 rd:=JF
theorem ZB:LoopOk Tryz.prog (fun k=>Nat.blt k Tryz.f60.ntmps) cM.F (aT Tryz.f60 0):=by
 refine Lp.ok (tbl:= []) (lf:= []) aS cM (by kernel_rfl) (LOk.nil _) (fun _=>rfl) (fun j _=>by unfold cM;match j with | 0=>rfl | _ + 1=>rfl) ?_ ?_ ?_ ?_ (fun _=>rfl) ?_
 ·rintro⟨y0,y1,y2⟩;kernel_rfl
 ·rintro⟨y0,y1,y2⟩;kernel_rfl
 ·intro s x h
  have h:JF s=some x:=h
  unfold JF at h
  repeat' split at h
  all_goals cases h
  exact⟨aa (by assumption) rfl (aa (by assumption) rfl (aa (by assumption) rfl (rfl))),ab rfl (by assumption) rfl (ab rfl (by assumption) rfl (rfl))⟩
 ·rintro⟨y0,y1,y2⟩;kernel_rfl
 ·rintro⟨y0,y1,y2⟩ z;exact(And.intro (And.intro trivial rfl) trivial)
section
variable (x0 x1:List (Int×Int))
def CM:Bool:=(↑x0.length:Int)!=(↑x1.length:Int)
def HI:Int×List (Int×Int)×List (Int×Int):=((0:Int),x0,x1)
def JS:Bool:=bif CM x0 x1 then false else bif Nat.beq ((Lp.res cM (HI x0 x1)).1) (0:Nat)then false else true
def Ej:Bool:=allT [CM x0 x1||Lp.fin cM (HI x0 x1)]
end
def WN:List SV→List Entry→Option Out
 | [.one ⟨false,[.ref 0]⟩,.one ⟨false,[.ref 1]⟩],[.row false 173 (.pair (.int .i64) (.int .i64)) x0,.row false 173 (.pair (.int .i64) (.int .i64)) x1]=>some ⟨(.one ⟨false,[(.val (.bool (JS x0 x1)))]⟩),[(.row false 173 asf x0),(.row false 173 asf x1)],[],[(Ej x0 x1)]⟩
 |_,_=>none
def oE:PF Tryz.prog:=PF.ofG Tryz.prog [] [cM.F] aS 60 Tryz.f60 Tryz.func60 (LOk.fnT (l:= [aT Tryz.f60 0]) (by kernel_rfl) (.cons ZB (.nil _))) WN (by
 intro vs es r h;unfold WN at h;split at h
 ·cases h;kernel_rfl
 ·cases h)
abbrev iR:=Int×List (Int×Int)×List (Int×Int)
section
variable (y0:Int)(y1 y2:List (Int×Int))
def rq:Int×Int:=Option.getD y1[Int.toNat y0]? ((0:Int),(0:Int))
def rr:Int×Int:=Option.getD y2[Int.toNat y0]? ((0:Int),(0:Int))
def sK:Bool:=ltI y0 (↑y1.length:Int)
def sL:Bool:=leI (0:Int) y0
def xU:Bool:=ltN y0.toNat y1.length
def xV:Bool:=ltI y0 (↑y2.length:Int)
def xW:Bool:=ltN y0.toNat y2.length
def xX:Bool:= !bif (rq y0 y1).1==(rr y0 y2).1then bif (rq y0 y1).2==(rr y0 y2).2then true else false else false
def xY:Int:=IntKind.wrap .i64 (y0 + (1:Int))
end
def abt:iR→List (Nat×SV)
 |(y0,_,_)=> [(5,(.one ⟨false,[(.val (.int .i64 y0))]⟩)),(0,(.one ⟨false,[(.ref 0)]⟩)),(1,(.one ⟨false,[(.ref 1)]⟩))]
def abj:iR→List (Nat×Entry)
 |(_,y1,y2)=> [(0,(.row false 176 asf y1)),(1,(.row false 176 asf y2))]
def abN:Nat→iR→List (Nat×SV)
 |0,(_,_,_)=> [(4,(.one ⟨false,[(.val (.bool false))]⟩))]
 |_,(_,_,_)=> []
def abD:Nat→iR→List (Nat×Entry)
 |0,(_,y1,y2)=> [(0,(.row false 176 asf y1)),(1,(.row false 176 asf y2))]
 |_,(_,y1,y2)=> [(0,(.row false 176 asf y1)),(1,(.row false 176 asf y2))]
def vR:iR→LT iR
 |(y0,y1,y2)=> .ite (sK y0 y1) (.need [(sL y0),(sK y0 y1),(xU y0 y1),(sL y0),(xV y0 y2),(xW y0 y2)] (.ite (xX y0 y1 y2) (.ext 0 [(0,0),(1,1)]) (.nrm ((xY y0),y1,y2) [(0,0),(1,1)]))) (.ext 1 [(0,0),(1,1)])
def JB(s:St):Option iR:=
 (match s.look 5 with
 |some ⟨none,(.one ⟨false,[(.val (.int .i64 y0))]⟩)⟩=>
 (match s.look 0 with
 |some ⟨none,(.one ⟨false,[(.ref 0)]⟩)⟩=>
 (match s.look 1 with
 |some ⟨none,(.one ⟨false,[(.ref 1)]⟩)⟩=>
 (match s.ent 0 with
 |some (.row false 176 (.pair (.int .i64) (.int .i64)) y1)=>
 (match s.ent 1 with
 |some (.row false 176 (.pair (.int .i64) (.int .i64)) y2)=>
 some (y0,y1,y2)
 |_=>none)
 |_=>none)
 |_=>none)
 |_=>none)
 |_=>none)
def cJ:Lp iR where
 h:=⟨[11,12,13,14,17,18,19,20,21,22,23,24,25,4,15,16,5],[0,1],[],[]⟩
 JL:=abt
 JE:=abj
 XL:=abN
 XE:=abD
 q:=fun j=>match j with | 0=> .ret | _=> .exit 0
 tags:= [0,1]
 lt:=vR
 fuel:=fun(y0,y1,y2)=>y0.natAbs + y1.length + y2.length
 fix:=fun(_,y1,y2) (y0,_,_)=>(y0,y1,y2)
 σ:= [(0,0),(1,1)]
 rd:=JB
theorem Zy:LoopOk Tryz.prog (fun k=>Nat.blt k Tryz.f61.ntmps) cJ.F (aT Tryz.f61 0):=by
 refine Lp.ok (tbl:= []) (lf:= []) aS cJ (by kernel_rfl) (LOk.nil _) (fun _=>rfl) (fun j _=>by unfold cJ;match j with | 0=>rfl | _ + 1=>rfl) ?_ ?_ ?_ ?_ (fun _=>rfl) ?_
 ·rintro⟨y0,y1,y2⟩;kernel_rfl
 ·rintro⟨y0,y1,y2⟩;kernel_rfl
 ·intro s x h
  have h:JB s=some x:=h
  unfold JB at h
  repeat' split at h
  all_goals cases h
  exact⟨aa (by assumption) rfl (aa (by assumption) rfl (aa (by assumption) rfl (rfl))),ab rfl (by assumption) rfl (ab rfl (by assumption) rfl (rfl))⟩
 ·rintro⟨y0,y1,y2⟩;kernel_rfl
 ·rintro⟨y0,y1,y2⟩ z;exact(And.intro (And.intro trivial rfl) trivial)
section
variable (x0 x1:List (Int×Int))
def CL:Bool:=(↑x0.length:Int)!=(↑x1.length:Int)
def HH:Int×List (Int×Int)×List (Int×Int):=((0:Int),x0,x1)
def JQ:Bool:=bif CL x0 x1 then false else bif Nat.beq ((Lp.res cJ (HH x0 x1)).1) (0:Nat)then false else true
def Ei:Bool:=allT [CL x0 x1||Lp.fin cJ (HH x0 x1)]
end
def WL:List SV→List Entry→Option Out
 | [.one ⟨false,[.ref 0]⟩,.one ⟨false,[.ref 1]⟩],[.row false 176 (.pair (.int .i64) (.int .i64)) x0,.row false 176 (.pair (.int .i64) (.int .i64)) x1]=>some ⟨(.one ⟨false,[(.val (.bool (JQ x0 x1)))]⟩),[(.row false 176 asf x0),(.row false 176 asf x1)],[],[(Ei x0 x1)]⟩
 |_,_=>none
def oD:PF Tryz.prog:=PF.ofG Tryz.prog [] [cJ.F] aS 61 Tryz.f61 Tryz.func61 (LOk.fnT (l:= [aT Tryz.f61 0]) (by kernel_rfl) (.cons Zy (.nil _))) WL (by
 intro vs es r h;unfold WL at h;split at h
 ·cases h;kernel_rfl
 ·cases h)
abbrev iS:=Int×Int×Int×Int×Int×Int×Int×List Int×List (Int×(Int×Int))×List (List Int)×List (Int×(Int×Int))×List (Int×Int)×List (Int×Int)×List Int×List (Int×(Int×Int))×List (List Int)×List (Int×(Int×Int))×List (Int×Int)×List (Int×Int)
section
variable (y0:Int)(y9 y15:List (List Int))
def rt:List Int:=Option.getD y9[Int.toNat y0]? (AK (CTy.sl (2:Nat) asg))
def sM:Bool:=ltI y0 (↑y9.length:Int)
def sN:Bool:=leI (0:Int) y0
def xZ:Bool:=ltN y0.toNat y9.length
def ya:Bool:=ltI y0 (↑y15.length:Int)
def yc:Bool:=ltN y0.toNat y15.length
def yf:Bool:=leN (List.length (rt y0 y9)) (9223372036854775807:Nat)
def yg:Bool:= !eqL (rt y0 y9) (Option.getD y15[Int.toNat y0]? (AK (CTy.sl (2:Nat) asg)))
def yh:Int:=IntKind.wrap .i64 (y0 + (1:Int))
end
def abu:iS→List (Nat×SV)
 |(y0,_,_,_,_,_,_,_,_,_,_,_,_,_,_,_,_,_,_)=> [(5,(.one ⟨false,[(.val (.int .i64 y0))]⟩)),(2,(.one ⟨false,[(.ptr 0 0)]⟩)),(3,(.one ⟨false,[(.ptr 1 0)]⟩))]
def abk:iS→List (Nat×Entry)
 |(_,y1,y2,y3,y4,y5,y6,y7,y8,y9,y10,y11,y12,y13,y14,y15,y16,y17,y18)=> [(0,(.box 33 [(.val (.int .i64 y1)),(.ref 2),(.ref 3),(.ref 4),(.ref 5),(.val (.int .i64 y2)),(.ref 6),(.ref 7),(.val (.int .i64 y3))])),(1,(.box 33 [(.val (.int .i64 y4)),(.ref 8),(.ref 9),(.ref 10),(.ref 11),(.val (.int .i64 y5)),(.ref 12),(.ref 13),(.val (.int .i64 y6))])),(2,(.row false 2 asg y7)),(3,(.row false 169 ase y8)),(4,(.row false 24 (CTy.sl (2:Nat) asg) y9)),(5,(.row false 100 ase y10)),(6,(.row false 173 asf y11)),(7,(.row false 176 asf y12)),(8,(.row false 2 asg y13)),(9,(.row false 169 ase y14)),(10,(.row false 24 (CTy.sl (2:Nat) asg) y15)),(11,(.row false 100 ase y16)),(12,(.row false 173 asf y17)),(13,(.row false 176 asf y18))]
def abO:Nat→iS→List (Nat×SV)
 |0,(_,_,_,_,_,_,_,_,_,_,_,_,_,_,_,_,_,_,_)=> [(4,(.one ⟨false,[(.val (.bool false))]⟩))]
 |_,(_,_,_,_,_,_,_,_,_,_,_,_,_,_,_,_,_,_,_)=> []
def abE:Nat→iS→List (Nat×Entry)
 |0,(_,y1,y2,y3,y4,y5,y6,y7,y8,y9,y10,y11,y12,y13,y14,y15,y16,y17,y18)=> [(0,(.box 33 [(.val (.int .i64 y1)),(.ref 2),(.ref 3),(.ref 4),(.ref 5),(.val (.int .i64 y2)),(.ref 6),(.ref 7),(.val (.int .i64 y3))])),(1,(.box 33 [(.val (.int .i64 y4)),(.ref 8),(.ref 9),(.ref 10),(.ref 11),(.val (.int .i64 y5)),(.ref 12),(.ref 13),(.val (.int .i64 y6))])),(2,(.row false 2 asg y7)),(3,(.row false 169 ase y8)),(4,(.row false 24 (CTy.sl (2:Nat) asg) y9)),(5,(.row false 100 ase y10)),(6,(.row false 173 asf y11)),(7,(.row false 176 asf y12)),(8,(.row false 2 asg y13)),(9,(.row false 169 ase y14)),(10,(.row false 24 (CTy.sl (2:Nat) asg) y15)),(11,(.row false 100 ase y16)),(12,(.row false 173 asf y17)),(13,(.row false 176 asf y18))]
 |_,(_,y1,y2,y3,y4,y5,y6,y7,y8,y9,y10,y11,y12,y13,y14,y15,y16,y17,y18)=> [(0,(.box 33 [(.val (.int .i64 y1)),(.ref 2),(.ref 3),(.ref 4),(.ref 5),(.val (.int .i64 y2)),(.ref 6),(.ref 7),(.val (.int .i64 y3))])),(1,(.box 33 [(.val (.int .i64 y4)),(.ref 8),(.ref 9),(.ref 10),(.ref 11),(.val (.int .i64 y5)),(.ref 12),(.ref 13),(.val (.int .i64 y6))])),(2,(.row false 2 asg y7)),(3,(.row false 169 ase y8)),(4,(.row false 24 (CTy.sl (2:Nat) asg) y9)),(5,(.row false 100 ase y10)),(6,(.row false 173 asf y11)),(7,(.row false 176 asf y12)),(8,(.row false 2 asg y13)),(9,(.row false 169 ase y14)),(10,(.row false 24 (CTy.sl (2:Nat) asg) y15)),(11,(.row false 100 ase y16)),(12,(.row false 173 asf y17)),(13,(.row false 176 asf y18))]
def vS:iS→LT iS
 |(y0,y1,y2,y3,y4,y5,y6,y7,y8,y9,y10,y11,y12,y13,y14,y15,y16,y17,y18)=> .ite (sM y0 y9) (.need [(sN y0),(sM y0 y9),(xZ y0 y9),(sN y0),(ya y0 y15),(yc y0 y15),(yf y0 y9)] (.ite (yg y0 y9 y15) (.ext 0 [(0,0),(1,1),(2,2),(3,3),(4,4),(5,5),(6,6),(7,7),(8,8),(9,9),(10,10),(11,11),(12,12),(13,13)]) (.nrm ((yh y0),y1,y2,y3,y4,y5,y6,y7,y8,y9,y10,y11,y12,y13,y14,y15,y16,y17,y18) [(0,0),(1,1),(2,2),(3,3),(4,4),(5,5),(6,6),(7,7),(8,8),(9,9),(10,10),(11,11),(12,12),(13,13)]))) (.ext 1 [(0,0),(1,1),(2,2),(3,3),(4,4),(5,5),(6,6),(7,7),(8,8),(9,9),(10,10),(11,11),(12,12),(13,13)])
def JC(s:St):Option iS:=
 (match s.look 5 with
 |some ⟨none,(.one ⟨false,[(.val (.int .i64 y0))]⟩)⟩=>
 (match s.look 2 with
 |some ⟨none,(.one ⟨false,[(.ptr 832 0)]⟩)⟩=>
 (match s.look 3 with
 |some ⟨none,(.one ⟨false,[(.ptr 896 0)]⟩)⟩=>
 (match s.ent 832 with
 |some (.box 33 [(.val (.int .i64 y1)),(.ref 0),(.ref 1),(.ref 2),(.ref 3),(.val (.int .i64 y2)),(.ref 4),(.ref 5),(.val (.int .i64 y3))])=>
 (match s.ent 896 with
 |some (.box 33 [(.val (.int .i64 y4)),(.ref 6),(.ref 7),(.ref 8),(.ref 9),(.val (.int .i64 y5)),(.ref 10),(.ref 11),(.val (.int .i64 y6))])=>
 (match s.ent 0 with
 |some (.row false 2 (.int .i64) y7)=>
 (match s.ent 1 with
 |some (.row false 169 (.pair (.int .i64) (.pair (.int .i64) (.int .i64))) y8)=>
 (match s.ent 2 with
 |some (.row false 24 (.sl 2 (.int .i64)) y9)=>
 (match s.ent 3 with
 |some (.row false 100 (.pair (.int .i64) (.pair (.int .i64) (.int .i64))) y10)=>
 (match s.ent 4 with
 |some (.row false 173 (.pair (.int .i64) (.int .i64)) y11)=>
 (match s.ent 5 with
 |some (.row false 176 (.pair (.int .i64) (.int .i64)) y12)=>
 (match s.ent 6 with
 |some (.row false 2 (.int .i64) y13)=>
 (match s.ent 7 with
 |some (.row false 169 (.pair (.int .i64) (.pair (.int .i64) (.int .i64))) y14)=>
 (match s.ent 8 with
 |some (.row false 24 (.sl 2 (.int .i64)) y15)=>
 (match s.ent 9 with
 |some (.row false 100 (.pair (.int .i64) (.pair (.int .i64) (.int .i64))) y16)=>
 (match s.ent 10 with
 |some (.row false 173 (.pair (.int .i64) (.int .i64)) y17)=>
 (match s.ent 11 with
 |some (.row false 176 (.pair (.int .i64) (.int .i64)) y18)=>
 some (y0,y1,y2,y3,y4,y5,y6,y7,y8,y9,y10,y11,y12,y13,y14,y15,y16,y17,y18)
 |_=>none)
 |_=>none)
 |_=>none)
 |_=>none)
 |_=>none)
 |_=>none)
 |_=>none)
 |_=>none)
 |_=>none)
 |_=>none)
 |_=>none)
 |_=>none)
 |_=>none)
 |_=>none)
 |_=>none)
 |_=>none)
 |_=>none)
def cK:Lp iS where
 h:=⟨[23,24,25,26,27,30,31,32,33,34,35,36,37,38,39,40,41,4,28,29,5],[0,1,2,3,4,5,6,7,8,9,10,11,12,13],[],[]⟩
 JL:=abu
 JE:=abk
 XL:=abO
 XE:=abE
 q:=fun j=>match j with | 0=> .ret | _=> .exit 0
 tags:= [0,1]
 lt:=vS
 fuel:=fun(y0,y1,y2,y3,y4,y5,y6,y7,y8,y9,y10,y11,y12,y13,y14,y15,y16,y17,y18)=>y0.natAbs + y1.natAbs + y2.natAbs + y3.natAbs + y4.natAbs + y5.natAbs + y6.natAbs + y7.length + y8.length + y9.length + y10.length + y11.length + y12.length + y13.length + y14.length + y15.length + y16.length + y17.length + y18.length
 fix:=fun(_,y1,y2,y3,y4,y5,y6,y7,y8,y9,y10,y11,y12,y13,y14,y15,y16,y17,y18) (y0,_,_,_,_,_,_,_,_,_,_,_,_,_,_,_,_,_,_)=>(y0,y1,y2,y3,y4,y5,y6,y7,y8,y9,y10,y11,y12,y13,y14,y15,y16,y17,y18)
 σ:= [(0,832),(1,896),(2,0),(3,1),(4,2),(5,3),(6,4),(7,5),(8,6),(9,7),(10,8),(11,9),(12,10),(13,11)]
 rd:=JC
theorem Zz:LoopOk Tryz.prog (fun k=>Nat.blt k Tryz.f15.ntmps) cK.F (aT Tryz.f15 0):=by
 refine Lp.ok (tbl:= [lD,PF.lend lD,PF.fz lD,lu,PF.lend lu,PF.fz lu,my,PF.lend my,PF.fz my,oE,PF.lend oE,PF.fz oE,oD,PF.lend oD,PF.fz oD]) (lf:= []) aS cK (by kernel_rfl) (LOk.nil _) (fun _=>rfl) (fun j _=>by unfold cK;match j with | 0=>rfl | _ + 1=>rfl) ?_ ?_ ?_ ?_ (fun _=>rfl) ?_
 ·rintro⟨y0,y1,y2,y3,y4,y5,y6,y7,y8,y9,y10,y11,y12,y13,y14,y15,y16,y17,y18⟩;kernel_rfl
 ·rintro⟨y0,y1,y2,y3,y4,y5,y6,y7,y8,y9,y10,y11,y12,y13,y14,y15,y16,y17,y18⟩;kernel_rfl
 ·intro s x h
  have h:JC s=some x:=h
  unfold JC at h
  repeat' split at h
  all_goals cases h
  exact⟨aa (by assumption) rfl (aa (by assumption) rfl (aa (by assumption) rfl (rfl))),ab rfl (by assumption) rfl (ab rfl (by assumption) rfl (ab rfl (by assumption) rfl (ab rfl (by assumption) rfl (ab rfl (by assumption) rfl (ab rfl (by assumption) rfl (ab rfl (by assumption) rfl (ab rfl (by assumption) rfl (ab rfl (by assumption) rfl (ab rfl (by assumption) rfl (ab rfl (by assumption) rfl (ab rfl (by assumption) rfl (ab rfl (by assumption) rfl (ab rfl (by assumption) rfl (rfl))))))))))))))⟩
 ·rintro⟨y0,y1,y2,y3,y4,y5,y6,y7,y8,y9,y10,y11,y12,y13,y14,y15,y16,y17,y18⟩;kernel_rfl
 ·rintro⟨y0,y1,y2,y3,y4,y5,y6,y7,y8,y9,y10,y11,y12,y13,y14,y15,y16,y17,y18⟩ z;exact(And.intro (And.intro trivial rfl) trivial)
abbrev iT:=Int×Int×Int×Int×Int×Int×Int×List Int×List (Int×(Int×Int))×List (List Int)×List (Int×(Int×Int))×List (Int×Int)×List (Int×Int)×List Int×List (Int×(Int×Int))×List (List Int)×List (Int×(Int×Int))×List (Int×Int)×List (Int×Int)
section
variable (y0:Int)(y10 y16:List (Int×(Int×Int)))
def nI:Int×Int×Int:=Option.getD y10[Int.toNat y0]? ((0:Int),(0:Int),(0:Int))
def nJ:Int×Int×Int:=Option.getD y16[Int.toNat y0]? ((0:Int),(0:Int),(0:Int))
def sO:Bool:=ltI y0 (↑y10.length:Int)
def sP:Bool:=leI (0:Int) y0
def yj:Bool:=ltN y0.toNat y10.length
def yk:Bool:=ltI y0 (↑y16.length:Int)
def ym:Bool:=ltN y0.toNat y16.length
def yo:Bool:= !bif (nI y0 y10).1==(nJ y0 y16).1then bif ((nI y0 y10).2).1==((nJ y0 y16).2).1then bif (nI y0 y10).2.2==(nJ y0 y16).2.2then true else false else false else false
def yp:Int:=IntKind.wrap .i64 (y0 + (1:Int))
end
def abv:iT→List (Nat×SV)
 |(y0,_,_,_,_,_,_,_,_,_,_,_,_,_,_,_,_,_,_)=> [(6,(.one ⟨false,[(.val (.int .i64 y0))]⟩)),(2,(.one ⟨false,[(.ptr 0 0)]⟩)),(3,(.one ⟨false,[(.ptr 1 0)]⟩))]
def abl:iT→List (Nat×Entry)
 |(_,y1,y2,y3,y4,y5,y6,y7,y8,y9,y10,y11,y12,y13,y14,y15,y16,y17,y18)=> [(0,(.box 33 [(.val (.int .i64 y1)),(.ref 2),(.ref 3),(.ref 4),(.ref 5),(.val (.int .i64 y2)),(.ref 6),(.ref 7),(.val (.int .i64 y3))])),(1,(.box 33 [(.val (.int .i64 y4)),(.ref 8),(.ref 9),(.ref 10),(.ref 11),(.val (.int .i64 y5)),(.ref 12),(.ref 13),(.val (.int .i64 y6))])),(2,(.row false 2 asg y7)),(3,(.row false 169 ase y8)),(4,(.row false 24 (CTy.sl (2:Nat) asg) y9)),(5,(.row false 100 ase y10)),(6,(.row false 173 asf y11)),(7,(.row false 176 asf y12)),(8,(.row false 2 asg y13)),(9,(.row false 169 ase y14)),(10,(.row false 24 (CTy.sl (2:Nat) asg) y15)),(11,(.row false 100 ase y16)),(12,(.row false 173 asf y17)),(13,(.row false 176 asf y18))]
def abP:Nat→iT→List (Nat×SV)
 |0,(_,_,_,_,_,_,_,_,_,_,_,_,_,_,_,_,_,_,_)=> [(4,(.one ⟨false,[(.val (.bool false))]⟩))]
 |_,(_,_,_,_,_,_,_,_,_,_,_,_,_,_,_,_,_,_,_)=> []
def abF:Nat→iT→List (Nat×Entry)
 |0,(_,y1,y2,y3,y4,y5,y6,y7,y8,y9,y10,y11,y12,y13,y14,y15,y16,y17,y18)=> [(0,(.box 33 [(.val (.int .i64 y1)),(.ref 2),(.ref 3),(.ref 4),(.ref 5),(.val (.int .i64 y2)),(.ref 6),(.ref 7),(.val (.int .i64 y3))])),(1,(.box 33 [(.val (.int .i64 y4)),(.ref 8),(.ref 9),(.ref 10),(.ref 11),(.val (.int .i64 y5)),(.ref 12),(.ref 13),(.val (.int .i64 y6))])),(2,(.row false 2 asg y7)),(3,(.row false 169 ase y8)),(4,(.row false 24 (CTy.sl (2:Nat) asg) y9)),(5,(.row false 100 ase y10)),(6,(.row false 173 asf y11)),(7,(.row false 176 asf y12)),(8,(.row false 2 asg y13)),(9,(.row false 169 ase y14)),(10,(.row false 24 (CTy.sl (2:Nat) asg) y15)),(11,(.row false 100 ase y16)),(12,(.row false 173 asf y17)),(13,(.row false 176 asf y18))]
 |_,(_,y1,y2,y3,y4,y5,y6,y7,y8,y9,y10,y11,y12,y13,y14,y15,y16,y17,y18)=> [(0,(.box 33 [(.val (.int .i64 y1)),(.ref 2),(.ref 3),(.ref 4),(.ref 5),(.val (.int .i64 y2)),(.ref 6),(.ref 7),(.val (.int .i64 y3))])),(1,(.box 33 [(.val (.int .i64 y4)),(.ref 8),(.ref 9),(.ref 10),(.ref 11),(.val (.int .i64 y5)),(.ref 12),(.ref 13),(.val (.int .i64 y6))])),(2,(.row false 2 asg y7)),(3,(.row false 169 ase y8)),(4,(.row false 24 (CTy.sl (2:Nat) asg) y9)),(5,(.row false 100 ase y10)),(6,(.row false 173 asf y11)),(7,(.row false 176 asf y12)),(8,(.row false 2 asg y13)),(9,(.row false 169 ase y14)),(10,(.row false 24 (CTy.sl (2:Nat) asg) y15)),(11,(.row false 100 ase y16)),(12,(.row false 173 asf y17)),(13,(.row false 176 asf y18))]
def vT:iT→LT iT
 |(y0,y1,y2,y3,y4,y5,y6,y7,y8,y9,y10,y11,y12,y13,y14,y15,y16,y17,y18)=> .ite (sO y0 y10) (.need [(sP y0),(sO y0 y10),(yj y0 y10),(sP y0),(yk y0 y16),(ym y0 y16)] (.ite (yo y0 y10 y16) (.ext 0 [(0,0),(1,1),(2,2),(3,3),(4,4),(5,5),(6,6),(7,7),(8,8),(9,9),(10,10),(11,11),(12,12),(13,13)]) (.nrm ((yp y0),y1,y2,y3,y4,y5,y6,y7,y8,y9,y10,y11,y12,y13,y14,y15,y16,y17,y18) [(0,0),(1,1),(2,2),(3,3),(4,4),(5,5),(6,6),(7,7),(8,8),(9,9),(10,10),(11,11),(12,12),(13,13)]))) (.ext 1 [(0,0),(1,1),(2,2),(3,3),(4,4),(5,5),(6,6),(7,7),(8,8),(9,9),(10,10),(11,11),(12,12),(13,13)])
def JD(s:St):Option iT:=
 (match s.look 6 with
 |some ⟨none,(.one ⟨false,[(.val (.int .i64 y0))]⟩)⟩=>
 (match s.look 2 with
 |some ⟨none,(.one ⟨false,[(.ptr 832 0)]⟩)⟩=>
 (match s.look 3 with
 |some ⟨none,(.one ⟨false,[(.ptr 896 0)]⟩)⟩=>
 (match s.ent 832 with
 |some (.box 33 [(.val (.int .i64 y1)),(.ref 0),(.ref 1),(.ref 2),(.ref 3),(.val (.int .i64 y2)),(.ref 4),(.ref 5),(.val (.int .i64 y3))])=>
 (match s.ent 896 with
 |some (.box 33 [(.val (.int .i64 y4)),(.ref 6),(.ref 7),(.ref 8),(.ref 9),(.val (.int .i64 y5)),(.ref 10),(.ref 11),(.val (.int .i64 y6))])=>
 (match s.ent 0 with
 |some (.row false 2 (.int .i64) y7)=>
 (match s.ent 1 with
 |some (.row false 169 (.pair (.int .i64) (.pair (.int .i64) (.int .i64))) y8)=>
 (match s.ent 2 with
 |some (.row false 24 (.sl 2 (.int .i64)) y9)=>
 (match s.ent 3 with
 |some (.row false 100 (.pair (.int .i64) (.pair (.int .i64) (.int .i64))) y10)=>
 (match s.ent 4 with
 |some (.row false 173 (.pair (.int .i64) (.int .i64)) y11)=>
 (match s.ent 5 with
 |some (.row false 176 (.pair (.int .i64) (.int .i64)) y12)=>
 (match s.ent 6 with
 |some (.row false 2 (.int .i64) y13)=>
 (match s.ent 7 with
 |some (.row false 169 (.pair (.int .i64) (.pair (.int .i64) (.int .i64))) y14)=>
 (match s.ent 8 with
 |some (.row false 24 (.sl 2 (.int .i64)) y15)=>
 (match s.ent 9 with
 |some (.row false 100 (.pair (.int .i64) (.pair (.int .i64) (.int .i64))) y16)=>
 (match s.ent 10 with
 |some (.row false 173 (.pair (.int .i64) (.int .i64)) y17)=>
 (match s.ent 11 with
 |some (.row false 176 (.pair (.int .i64) (.int .i64)) y18)=>
 some (y0,y1,y2,y3,y4,y5,y6,y7,y8,y9,y10,y11,y12,y13,y14,y15,y16,y17,y18)
 |_=>none)
 |_=>none)
 |_=>none)
 |_=>none)
 |_=>none)
 |_=>none)
 |_=>none)
 |_=>none)
 |_=>none)
 |_=>none)
 |_=>none)
 |_=>none)
 |_=>none)
 |_=>none)
 |_=>none)
 |_=>none)
 |_=>none)
def cL:Lp iT where
 h:=⟨[42,43,44,45,46,49,50,51,52,53,54,55,56,57,58,59,4,47,48,6],[0,1,2,3,4,5,6,7,8,9,10,11,12,13],[],[]⟩
 JL:=abv
 JE:=abl
 XL:=abP
 XE:=abF
 q:=fun j=>match j with | 0=> .ret | _=> .exit 2
 tags:= [0,1]
 lt:=vT
 fuel:=fun(y0,y1,y2,y3,y4,y5,y6,y7,y8,y9,y10,y11,y12,y13,y14,y15,y16,y17,y18)=>y0.natAbs + y1.natAbs + y2.natAbs + y3.natAbs + y4.natAbs + y5.natAbs + y6.natAbs + y7.length + y8.length + y9.length + y10.length + y11.length + y12.length + y13.length + y14.length + y15.length + y16.length + y17.length + y18.length
 fix:=fun(_,y1,y2,y3,y4,y5,y6,y7,y8,y9,y10,y11,y12,y13,y14,y15,y16,y17,y18) (y0,_,_,_,_,_,_,_,_,_,_,_,_,_,_,_,_,_,_)=>(y0,y1,y2,y3,y4,y5,y6,y7,y8,y9,y10,y11,y12,y13,y14,y15,y16,y17,y18)
 σ:= [(0,832),(1,896),(2,0),(3,1),(4,2),(5,3),(6,4),(7,5),(8,6),(9,7),(10,8),(11,9),(12,10),(13,11)]
 rd:=JD
theorem ZA:LoopOk Tryz.prog (fun k=>Nat.blt k Tryz.f15.ntmps) cL.F (aT Tryz.f15 1):=by
 refine Lp.ok (tbl:= [lD,PF.lend lD,PF.fz lD,lu,PF.lend lu,PF.fz lu,my,PF.lend my,PF.fz my,oE,PF.lend oE,PF.fz oE,oD,PF.lend oD,PF.fz oD]) (lf:= []) aS cL (by kernel_rfl) (LOk.nil _) (fun _=>rfl) (fun j _=>by unfold cL;match j with | 0=>rfl | _ + 1=>rfl) ?_ ?_ ?_ ?_ (fun _=>rfl) ?_
 ·rintro⟨y0,y1,y2,y3,y4,y5,y6,y7,y8,y9,y10,y11,y12,y13,y14,y15,y16,y17,y18⟩;kernel_rfl
 ·rintro⟨y0,y1,y2,y3,y4,y5,y6,y7,y8,y9,y10,y11,y12,y13,y14,y15,y16,y17,y18⟩;kernel_rfl
 ·intro s x h
  have h:JD s=some x:=h
  unfold JD at h
  repeat' split at h
  all_goals cases h
  exact⟨aa (by assumption) rfl (aa (by assumption) rfl (aa (by assumption) rfl (rfl))),ab rfl (by assumption) rfl (ab rfl (by assumption) rfl (ab rfl (by assumption) rfl (ab rfl (by assumption) rfl (ab rfl (by assumption) rfl (ab rfl (by assumption) rfl (ab rfl (by assumption) rfl (ab rfl (by assumption) rfl (ab rfl (by assumption) rfl (ab rfl (by assumption) rfl (ab rfl (by assumption) rfl (ab rfl (by assumption) rfl (ab rfl (by assumption) rfl (ab rfl (by assumption) rfl (rfl))))))))))))))⟩
 ·rintro⟨y0,y1,y2,y3,y4,y5,y6,y7,y8,y9,y10,y11,y12,y13,y14,y15,y16,y17,y18⟩;kernel_rfl
 ·rintro⟨y0,y1,y2,y3,y4,y5,y6,y7,y8,y9,y10,y11,y12,y13,y14,y15,y16,y17,y18⟩ z;exact(And.intro (And.intro trivial rfl) trivial)
section
variable (x0 x1 x2 x3 x4 x5:Int)(x6:List Int)(x7:List (Int×Int×Int))(x8:List (List Int))(x9:List (Int×Int×Int))(x10 x11:List (Int×Int))(x12:List Int)(x13:List (Int×Int×Int))(x14:List (List Int))(x15:List (Int×Int×Int))(x16 x17:List (Int×Int))
def ky:Bool:=bif(↑x8.length:Int)!=(↑x14.length:Int)then true else(↑x9.length:Int)!=(↑x15.length:Int)
def sf:Int×Int×Int×Int×Int×Int×Int×List Int×List (Int×Int×Int)×List (List Int)×List (Int×Int×Int)×List (Int×Int)×List (Int×Int)×List Int×List (Int×Int×Int)×List (List Int)×List (Int×Int×Int)×List (Int×Int)×List (Int×Int):=((0:Int),x0,x1,x2,x3,x4,x5,x6,x7,x8,x9,x10,x11,x12,x13,x14,x15,x16,x17)
def pK:Bool:=Nat.beq ((Lp.res cK (sf x0 x1 x2 x3 x4 x5 x6 x7 x8 x9 x10 x11 x12 x13 x14 x15 x16 x17)).1) (0:Nat)
def sg:Bool:=Nat.beq ((Lp.res cL (sf x0 x1 x2 x3 x4 x5 x6 x7 x8 x9 x10 x11 x12 x13 x14 x15 x16 x17)).1) (0:Nat)
def NL:Bool:=bif bif Al x0 x3 x6 x12 then HG x7 x13 else false then x1==x4 else false
def NM:Bool:=bif NL x0 x1 x3 x4 x6 x7 x12 x13 then JS x10 x16 else false
def uc:Bool:=bif ky x8 x9 x14 x15 then false else bif pK x0 x1 x2 x3 x4 x5 x6 x7 x8 x9 x10 x11 x12 x13 x14 x15 x16 x17 then false else bif sg x0 x1 x2 x3 x4 x5 x6 x7 x8 x9 x10 x11 x12 x13 x14 x15 x16 x17 then false else bif bif NM x0 x1 x3 x4 x6 x7 x10 x12 x13 x16 then JQ x11 x17 else false then x2==x5 else false
def JR:Bool:=allT [ky x8 x9 x14 x15||Lp.fin cK (sf x0 x1 x2 x3 x4 x5 x6 x7 x8 x9 x10 x11 x12 x13 x14 x15 x16 x17),ky x8 x9 x14 x15||(pK x0 x1 x2 x3 x4 x5 x6 x7 x8 x9 x10 x11 x12 x13 x14 x15 x16 x17||Lp.fin cL (sf x0 x1 x2 x3 x4 x5 x6 x7 x8 x9 x10 x11 x12 x13 x14 x15 x16 x17)),ky x8 x9 x14 x15||(pK x0 x1 x2 x3 x4 x5 x6 x7 x8 x9 x10 x11 x12 x13 x14 x15 x16 x17||(sg x0 x1 x2 x3 x4 x5 x6 x7 x8 x9 x10 x11 x12 x13 x14 x15 x16 x17||FT x0 x3 x6)),ky x8 x9 x14 x15||(pK x0 x1 x2 x3 x4 x5 x6 x7 x8 x9 x10 x11 x12 x13 x14 x15 x16 x17||(sg x0 x1 x2 x3 x4 x5 x6 x7 x8 x9 x10 x11 x12 x13 x14 x15 x16 x17||(!(Al x0 x3 x6 x12&&true)||CE x7 x13))),ky x8 x9 x14 x15||(pK x0 x1 x2 x3 x4 x5 x6 x7 x8 x9 x10 x11 x12 x13 x14 x15 x16 x17||(sg x0 x1 x2 x3 x4 x5 x6 x7 x8 x9 x10 x11 x12 x13 x14 x15 x16 x17||(!(NL x0 x1 x3 x4 x6 x7 x12 x13&&true)||Ej x10 x16))),ky x8 x9 x14 x15||(pK x0 x1 x2 x3 x4 x5 x6 x7 x8 x9 x10 x11 x12 x13 x14 x15 x16 x17||(sg x0 x1 x2 x3 x4 x5 x6 x7 x8 x9 x10 x11 x12 x13 x14 x15 x16 x17||(!(NM x0 x1 x3 x4 x6 x7 x10 x12 x13 x16&&true)||Ei x11 x17)))]
end
def WM:List SV→List Entry→Option Out
 | [.one ⟨true,[.val (.int .i64 x0),.ref 0,.ref 1,.ref 2,.ref 3,.val (.int .i64 x1),.ref 4,.ref 5,.val (.int .i64 x2)]⟩,.one ⟨true,[.val (.int .i64 x3),.ref 6,.ref 7,.ref 8,.ref 9,.val (.int .i64 x4),.ref 10,.ref 11,.val (.int .i64 x5)]⟩],[.row false 2 (.int .i64) x6,.row false 169 (.pair (.int .i64) (.pair (.int .i64) (.int .i64))) x7,.row false 24 (.sl 2 (.int .i64)) x8,.row false 100 (.pair (.int .i64) (.pair (.int .i64) (.int .i64))) x9,.row false 173 (.pair (.int .i64) (.int .i64)) x10,.row false 176 (.pair (.int .i64) (.int .i64)) x11,.row false 2 (.int .i64) x12,.row false 169 (.pair (.int .i64) (.pair (.int .i64) (.int .i64))) x13,.row false 24 (.sl 2 (.int .i64)) x14,.row false 100 (.pair (.int .i64) (.pair (.int .i64) (.int .i64))) x15,.row false 173 (.pair (.int .i64) (.int .i64)) x16,.row false 176 (.pair (.int .i64) (.int .i64)) x17]=>some ⟨(.one ⟨false,[(.val (.bool (uc x0 x1 x2 x3 x4 x5 x6 x7 x8 x9 x10 x11 x12 x13 x14 x15 x16 x17)))]⟩),[(.row false 2 asg x6),(.row false 169 ase x7),(.row false 24 (CTy.sl (2:TypeId) asg) x8),(.row false 100 ase x9),(.row false 173 asf x10),(.row false 176 asf x11),(.row false 2 asg x12),(.row false 169 ase x13),(.row false 24 (CTy.sl (2:TypeId) asg) x14),(.row false 100 ase x15),(.row false 173 asf x16),(.row false 176 asf x17)],[],[(JR x0 x1 x2 x3 x4 x5 x6 x7 x8 x9 x10 x11 x12 x13 x14 x15 x16 x17)]⟩
 |_,_=>none
def ahn:PF Tryz.prog:=PF.ofG Tryz.prog [lD,PF.lend lD,PF.fz lD,lu,PF.lend lu,PF.fz lu,my,PF.lend my,PF.fz my,oE,PF.lend oE,PF.fz oE,oD,PF.lend oD,PF.fz oD] [cK.F,cL.F] aS 15 Tryz.f15 Tryz.func15 (LOk.fnT (l:= [aT Tryz.f15 0,aT Tryz.f15 1]) (by kernel_rfl) (.cons Zz (.cons ZA (.nil _)))) WM (by
 intro vs es r h;unfold WM at h;split at h
 ·cases h;kernel_rfl
 ·cases h)
section
variable (x0:List Int)
def Rp:Int:=Oq (0:Int) (frS x0) x0
def Rq:Int:=Ot (0:Int) (frS x0) x0
def Rr:Int:=Ou (0:Int) (frS x0) x0
def Rs:Int:=Ov (iu (0:Int) (frS x0) x0) (iv (0:Int) (frS x0) x0) (eV (0:Int) (frS x0) x0) x0
def Rt:Int:=Ow (iu (0:Int) (frS x0) x0) (iv (0:Int) (frS x0) x0) (eV (0:Int) (frS x0) x0) x0
def Ru:Int:=Ox (iu (0:Int) (frS x0) x0) (iv (0:Int) (frS x0) x0) (eV (0:Int) (frS x0) x0) x0
def Rv:Int:=Oy (iu (0:Int) (frS x0) x0) (iv (0:Int) (frS x0) x0) (eV (0:Int) (frS x0) x0) x0
def Rw:Int:=Oz (iu (0:Int) (frS x0) x0) (iv (0:Int) (frS x0) x0) (eV (0:Int) (frS x0) x0) x0
def Rx:Int:=OA (iu (0:Int) (frS x0) x0) (iv (0:Int) (frS x0) x0) (eV (0:Int) (frS x0) x0) x0
def Ry:Bool:=OB (iu (0:Int) (frS x0) x0) (iv (0:Int) (frS x0) x0) (eV (0:Int) (frS x0) x0) x0
def HR:List Int:=wD (0:Int) (frS x0) x0
def HS:List (Int×(Int×Int)):=wE (0:Int) (frS x0) x0
def HT:List (List Int):=eV (0:Int) (frS x0) x0
def HU:List (Int×(Int×Int)):=wF (0:Int) (frS x0) x0
def HV:List (Int×Int):=wG (0:Int) (frS x0) x0
def HW:List (Int×Int):=ve (0:Int) (frS x0) x0
def AP:Bool:=allT [aD (0:Int) (0:Int) x0,aD (0:Int) (frS x0) x0,aD (iu (0:Int) (frS x0) x0) (iv (0:Int) (frS x0) x0) x0]
end
def Rl:List SV→List Entry→Option Out
 | [.one ⟨false,[.ref 0]⟩],[.row false 5 (.int .u8) x0]=>some ⟨(.tup [⟨true,[(.val (.int .i64 (Rp x0))),(.ref 1),(.ref 2),(.ref 3),(.ref 4),(.val (.int .i64 (Rq x0))),(.ref 5),(.ref 6),(.val (.int .i64 (Rr x0)))]⟩,⟨true,[(.val (.int .i64 (Rs x0))),(.val (.int .i64 (Rt x0))),(.val (.int .i64 (Ru x0))),(.val (.int .i64 (Rv x0))),(.val (.int .i64 (Rw x0))),(.val (.int .i64 (Rx x0))),(.val (.bool (Ry x0)))]⟩]),[(.row false 5 ash x0)],[(.row true 2 asg (HR x0)),(.row true 169 ase (HS x0)),(.row true 24 (CTy.sl (2:Nat) asg) (HT x0)),(.row true 100 ase (HU x0)),(.row true 173 asf (HV x0)),(.row true 176 asf (HW x0))],[(AP x0)]⟩
 |_,_=>none
def Jm:PF Tryz.prog:=PF.ofG Tryz.prog [Vs,PF.lend Vs,PF.fz Vs,NS,PF.lend NS,PF.fz NS,NT,PF.lend NT,PF.fz NT] [] aS 97 Tryz.f97 Tryz.func97 (fun c _=>LOk.nil c) Rl (by
 intro vs es r h;unfold Rl at h;split at h
 ·cases h;kernel_rfl
 ·cases h)
section
variable (x0:List Int)
def am:Int:=Rp x0
def ao:Int:=Rq x0
def aq:Int:=Rr x0
def jF:Int:=Rs x0
def cu:Int:=Rt x0
def uU:Int:=Ru x0
def uV:Int:=Rv x0
def uW:Int:=Rw x0
def uX:Int:=Rx x0
def uY:Bool:=Ry x0
def ad:List Int:=HR x0
def ag:List (Int×(Int×Int)):=HS x0
def ae:List (List Int):=HT x0
def af:List (Int×(Int×Int)):=HU x0
def ah:List (Int×Int):=HV x0
def ai:List (Int×Int):=HW x0
def Ld:Bool:=allT [AP x0]
end
def TY:List SV→List Entry→Option Out
 | [.one ⟨false,[.ref 0]⟩],[.row false 5 (.int .u8) x0]=>some ⟨(.tup [⟨true,[(.val (.int .i64 (am x0))),(.ref 1),(.ref 2),(.ref 3),(.ref 4),(.val (.int .i64 (ao x0))),(.ref 5),(.ref 6),(.val (.int .i64 (aq x0)))]⟩,⟨true,[(.val (.int .i64 (jF x0))),(.val (.int .i64 (cu x0))),(.val (.int .i64 (uU x0))),(.val (.int .i64 (uV x0))),(.val (.int .i64 (uW x0))),(.val (.int .i64 (uX x0))),(.val (.bool (uY x0)))]⟩]),[(.row false 5 ash x0)],[(.row true 2 asg (ad x0)),(.row true 169 ase (ag x0)),(.row true 24 (CTy.sl (2:Nat) asg) (ae x0)),(.row true 100 ase (af x0)),(.row true 173 asf (ah x0)),(.row true 176 asf (ai x0))],[(Ld x0)]⟩
 |_,_=>none
def aeD:PF Tryz.prog:=PF.ofG Tryz.prog [Jm,PF.lend Jm,PF.fz Jm] [] aS 32 Tryz.f32 Tryz.func32 (fun c _=>LOk.nil c) TY (by
 intro vs es r h;unfold TY at h;split at h
 ·cases h;kernel_rfl
 ·cases h)
end Go.SX

namespace Go.SX
open Go.Proofs
set_option maxRecDepth 100000
def rm(y1 y2:List (Int×(Int×Int)))(b:Nat):(Unit)→Nat ⊕ (Unit)
 |_=>(bif(!bif (Option.getD y1[b]? ((0:Int),(0:Int),(0:Int))).1==(Option.getD y2[b]? ((0:Int),(0:Int),(0:Int))).1then bif ((Option.getD y1[b]? ((0:Int),(0:Int),(0:Int))).2).1==((Option.getD y2[b]? ((0:Int),(0:Int),(0:Int))).2).1then bif (Option.getD y1[b]? ((0:Int),(0:Int),(0:Int))).2.2==(Option.getD y2[b]? ((0:Int),(0:Int),(0:Int))).2.2then true else false else false else false)then(.inl 0)else(.inr ()))
def mN(y1 y2:List (Int×(Int×Int)))(i:Nat):(Unit)→il
 |_=>((i:Int),y1,y2)
def HO:il→Unit
 |(_,_,_)=>()
theorem RK(y1 y2:List (Int×(Int×Int))) (hn:y1.length≤9223372036854775807) (he:y2.length=y1.length):
  cm.fin ((0:Int),y1,y2)=true∧cm.res ((0:Int),y1,y2)=((aU (rm y1 y2) 1 (List.range y1.length) 0 ()).1,(mN y1 y2) (aU (rm y1 y2) 1 (List.range y1.length) 0 ()).2.1 (aU (rm y1 y2) 1 (List.range y1.length) 0 ()).2.2):=by
 have key:=cm.along (mN y1 y2) HO (rm y1 y2) 1 (fun _ _=>True) (List.range y1.length) () (by trivial) (by simp only [cm,mN,List.length_range];omega) (fun i b a hb hI=> ?_) (fun a hI=> ?_)
 ·exact key
 ·obtain⟨⟩:=a
  obtain⟨rfl,hlt⟩:=qw hb
  have hw:IntKind.i64.wrap ((b:Int) + 1)=((b + 1:Nat):Int):=by rw [aj (by omega) (by omega)];omega
  have hdec:ltI (b:Int) (y1.length:Int)=true:=et (by omega)
  have hnn:leI (0:Int) (b:Int)=true:=dk (by omega)
  have hltd:ltN b y1.length=true:=fJ (by omega)
  refine⟨?_,?_,?_,?_⟩
  ·simp [mu,mv,ro,rp,vK,vL,vM,vN,vO,ud,cm,LT.nds,allT,mN,hdec,hnn,hltd,he]
  ·simp [mu,mv,ro,rp,vK,vL,vM,vN,vO,ud,cm,LT.each,mN,HO,hw,he]
  ·simp only [mu,mv,ro,rp,vK,vL,vM,vN,vO,ud,cm,LT.fn,mN,HO,rm,Int.toNat_natCast,hdec,cond_true]
  ·exact fun _ _=>trivial
 ·obtain⟨⟩:=a
  simp [mu,mv,ro,rp,vK,vL,vM,vN,vO,ud,cm,LT.out,mN,List.length_range]
theorem ak3(xs ys:List (Int×Int×Int))(h:leN xs.length 9223372036854775807=true):CE xs ys=true:=by
 have hn:=c8.1 h
 cases ha:Ak xs ys with
 |true=>simp [CE,ha,allT]
 |false=>
  have hl:ys.length=xs.length:=by simp [Ak]at ha;omega
  obtain⟨w1,w2⟩:=RK xs ys hn hl
  simp only [CE,FS,w1,allT,Bool.or_true,cond_true]
theorem ai6(xs:List (Int×Int×Int))(h:leN xs.length 9223372036854775807=true):HG xs xs=true:=by
 have hn:=c8.1 h
 obtain⟨w1,w2⟩:=RK xs xs hn rfl
 rw [kU (P:=fun _=>false) (j:=0) (fun b=>by simp [rm])]at w2
 have e:(List.range xs.length).any (fun _=>false)=false:=by simp
 simp only [HG,Ak,FS,w2,e,bne_self_eq_false,cond_false]
 rfl
def sI(y1 y2:List (Int×Int))(b:Nat):(Unit)→Nat ⊕ (Unit)
 |_=>(bif(!bif (Option.getD y1[b]? ((0:Int),(0:Int))).1==(Option.getD y2[b]? ((0:Int),(0:Int))).1then bif (Option.getD y1[b]? ((0:Int),(0:Int))).2==(Option.getD y2[b]? ((0:Int),(0:Int))).2then true else false else false)then(.inl 0)else(.inr ()))
def ox(y1 y2:List (Int×Int))(i:Nat):(Unit)→iU
 |_=>((i:Int),y1,y2)
def Js:iU→Unit
 |(_,_,_)=>()
theorem Tn(y1 y2:List (Int×Int)) (hn:y1.length≤9223372036854775807) (he:y2.length=y1.length):
  cM.fin ((0:Int),y1,y2)=true∧cM.res ((0:Int),y1,y2)=((aU (sI y1 y2) 1 (List.range y1.length) 0 ()).1,(ox y1 y2) (aU (sI y1 y2) 1 (List.range y1.length) 0 ()).2.1 (aU (sI y1 y2) 1 (List.range y1.length) 0 ()).2.2):=by
 have key:=cM.along (ox y1 y2) Js (sI y1 y2) 1 (fun _ _=>True) (List.range y1.length) () (by trivial) (by simp only [cM,ox,List.length_range];omega) (fun i b a hb hI=> ?_) (fun a hI=> ?_)
 ·exact key
 ·obtain⟨⟩:=a
  obtain⟨rfl,hlt⟩:=qw hb
  have hw:IntKind.i64.wrap ((b:Int) + 1)=((b + 1:Nat):Int):=by rw [aj (by omega) (by omega)];omega
  have hdec:ltI (b:Int) (y1.length:Int)=true:=et (by omega)
  have hnn:leI (0:Int) (b:Int)=true:=dk (by omega)
  have hltd:ltN b y1.length=true:=fJ (by omega)
  refine⟨?_,?_,?_,?_⟩
  ·simp [ru,rv,sQ,sR,yq,yt,yu,yw,yx,vU,cM,LT.nds,allT,ox,hdec,hnn,hltd,he]
  ·simp [ru,rv,sQ,sR,yq,yt,yu,yw,yx,vU,cM,LT.each,ox,Js,hw,he]
  ·simp only [ru,rv,sQ,sR,yq,yt,yu,yw,yx,vU,cM,LT.fn,ox,Js,sI,Int.toNat_natCast,hdec,cond_true]
  ·exact fun _ _=>trivial
 ·obtain⟨⟩:=a
  simp [ru,rv,sQ,sR,yq,yt,yu,yw,yx,vU,cM,LT.out,ox,List.length_range]
theorem amq(xs ys:List (Int×Int))(h:leN xs.length 9223372036854775807=true):Ej xs ys=true:=by
 have hn:=c8.1 h
 cases ha:CM xs ys with
 |true=>simp [Ej,ha,allT]
 |false=>
  have hl:ys.length=xs.length:=by simp [CM]at ha;omega
  obtain⟨w1,w2⟩:=Tn xs ys hn hl
  simp only [Ej,HI,w1,allT,Bool.or_true,cond_true]
theorem aj7(xs:List (Int×Int))(h:leN xs.length 9223372036854775807=true):JS xs xs=true:=by
 have hn:=c8.1 h
 obtain⟨w1,w2⟩:=Tn xs xs hn rfl
 rw [kU (P:=fun _=>false) (j:=0) (fun b=>by simp [sI])]at w2
 have e:(List.range xs.length).any (fun _=>false)=false:=by simp
 simp only [JS,CM,HI,w2,e,bne_self_eq_false,cond_false]
 rfl
def sF(y1 y2:List (Int×Int))(b:Nat):(Unit)→Nat ⊕ (Unit)
 |_=>(bif(!bif (Option.getD y1[b]? ((0:Int),(0:Int))).1==(Option.getD y2[b]? ((0:Int),(0:Int))).1then bif (Option.getD y1[b]? ((0:Int),(0:Int))).2==(Option.getD y2[b]? ((0:Int),(0:Int))).2then true else false else false)then(.inl 0)else(.inr ()))
def ou(y1 y2:List (Int×Int))(i:Nat):(Unit)→iR
 |_=>((i:Int),y1,y2)
def Jp:iR→Unit
 |(_,_,_)=>()
theorem Tk(y1 y2:List (Int×Int)) (hn:y1.length≤9223372036854775807) (he:y2.length=y1.length):
  cJ.fin ((0:Int),y1,y2)=true∧cJ.res ((0:Int),y1,y2)=((aU (sF y1 y2) 1 (List.range y1.length) 0 ()).1,(ou y1 y2) (aU (sF y1 y2) 1 (List.range y1.length) 0 ()).2.1 (aU (sF y1 y2) 1 (List.range y1.length) 0 ()).2.2):=by
 have key:=cJ.along (ou y1 y2) Jp (sF y1 y2) 1 (fun _ _=>True) (List.range y1.length) () (by trivial) (by simp only [cJ,ou,List.length_range];omega) (fun i b a hb hI=> ?_) (fun a hI=> ?_)
 ·exact key
 ·obtain⟨⟩:=a
  obtain⟨rfl,hlt⟩:=qw hb
  have hw:IntKind.i64.wrap ((b:Int) + 1)=((b + 1:Nat):Int):=by rw [aj (by omega) (by omega)];omega
  have hdec:ltI (b:Int) (y1.length:Int)=true:=et (by omega)
  have hnn:leI (0:Int) (b:Int)=true:=dk (by omega)
  have hltd:ltN b y1.length=true:=fJ (by omega)
  refine⟨?_,?_,?_,?_⟩
  ·simp [rq,rr,sK,sL,xU,xV,xW,xX,xY,vR,cJ,LT.nds,allT,ou,hdec,hnn,hltd,he]
  ·simp [rq,rr,sK,sL,xU,xV,xW,xX,xY,vR,cJ,LT.each,ou,Jp,hw,he]
  ·simp only [rq,rr,sK,sL,xU,xV,xW,xX,xY,vR,cJ,LT.fn,ou,Jp,sF,Int.toNat_natCast,hdec,cond_true]
  ·exact fun _ _=>trivial
 ·obtain⟨⟩:=a
  simp [rq,rr,sK,sL,xU,xV,xW,xX,xY,vR,cJ,LT.out,ou,List.length_range]
theorem amp(xs ys:List (Int×Int))(h:leN xs.length 9223372036854775807=true):Ei xs ys=true:=by
 have hn:=c8.1 h
 cases ha:CL xs ys with
 |true=>simp [Ei,ha,allT]
 |false=>
  have hl:ys.length=xs.length:=by simp [CL]at ha;omega
  obtain⟨w1,w2⟩:=Tk xs ys hn hl
  simp only [Ei,HH,w1,allT,Bool.or_true,cond_true]
theorem aj5(xs:List (Int×Int))(h:leN xs.length 9223372036854775807=true):JQ xs xs=true:=by
 have hn:=c8.1 h
 obtain⟨w1,w2⟩:=Tk xs xs hn rfl
 rw [kU (P:=fun _=>false) (j:=0) (fun b=>by simp [sF])]at w2
 have e:(List.range xs.length).any (fun _=>false)=false:=by simp
 simp only [JQ,CL,HH,w2,e,bne_self_eq_false,cond_false]
 rfl
theorem arx{m:Nat}{xs:List (List Int)}(h: ∀ x∈xs,x.length≤m)(b:Nat):((xs[b]?).getD []).length≤m:=by
 cases hb:xs[b]? with
 |none=>simp
 |some x=>simpa using h x (List.mem_of_getElem? hb)
def sG(y9 y15:List (List Int))(b:Nat):(Unit)→Nat ⊕ (Unit)
 |_=>(bif(!eqL (Option.getD y9[b]? (AK (CTy.sl (2:Nat) asg))) (Option.getD y15[b]? (AK (CTy.sl (2:Nat) asg))))then(.inl 0)else(.inr ()))
def ov(y1 y2 y3 y4 y5 y6:Int)(y7:List Int)(y8:List (Int×(Int×Int)))(y9:List (List Int))(y10:List (Int×(Int×Int)))(y11 y12:List (Int×Int))(y13:List Int)(y14:List (Int×(Int×Int)))(y15:List (List Int))(y16:List (Int×(Int×Int)))(y17 y18:List (Int×Int))(i:Nat):(Unit)→iS
 |_=>((i:Int),y1,y2,y3,y4,y5,y6,y7,y8,y9,y10,y11,y12,y13,y14,y15,y16,y17,y18)
def Jq:iS→Unit
 |(_,_,_,_,_,_,_,_,_,_,_,_,_,_,_,_,_,_,_)=>()
theorem Tl(y1 y2 y3 y4 y5 y6:Int)(y7:List Int)(y8:List (Int×(Int×Int)))(y9:List (List Int))(y10:List (Int×(Int×Int)))(y11 y12:List (Int×Int))(y13:List Int)(y14:List (Int×(Int×Int)))(y15:List (List Int))(y16:List (Int×(Int×Int)))(y17 y18:List (Int×Int)) (hn:y9.length≤9223372036854775807) (he:y15.length=y9.length) (hA: ∀ x∈y9,x.length≤9223372036854775807):
  cK.fin ((0:Int),y1,y2,y3,y4,y5,y6,y7,y8,y9,y10,y11,y12,y13,y14,y15,y16,y17,y18)=true∧cK.res ((0:Int),y1,y2,y3,y4,y5,y6,y7,y8,y9,y10,y11,y12,y13,y14,y15,y16,y17,y18)=((aU (sG y9 y15) 1 (List.range y9.length) 0 ()).1,(ov y1 y2 y3 y4 y5 y6 y7 y8 y9 y10 y11 y12 y13 y14 y15 y16 y17 y18) (aU (sG y9 y15) 1 (List.range y9.length) 0 ()).2.1 (aU (sG y9 y15) 1 (List.range y9.length) 0 ()).2.2):=by
 have key:=cK.along (ov y1 y2 y3 y4 y5 y6 y7 y8 y9 y10 y11 y12 y13 y14 y15 y16 y17 y18) Jq (sG y9 y15) 1 (fun _ _=>True) (List.range y9.length) () (by trivial) (by simp only [cK,ov,List.length_range];omega) (fun i b a hb hI=> ?_) (fun a hI=> ?_)
 ·exact key
 ·obtain⟨⟩:=a
  obtain⟨rfl,hlt⟩:=qw hb
  have hw:IntKind.i64.wrap ((b:Int) + 1)=((b + 1:Nat):Int):=by rw [aj (by omega) (by omega)];omega
  have hdec:ltI (b:Int) (y9.length:Int)=true:=et (by omega)
  have hnn:leI (0:Int) (b:Int)=true:=dk (by omega)
  have hltd:ltN b y9.length=true:=fJ (by omega)
  refine⟨?_,?_,?_,?_⟩
  ·have h6:yf (b:Int) y9=true:=br (by simp only [rt,Int.toNat_natCast];exact arx hA b)
   simp [sM,sN,xZ,ya,yc,yg,yh,vS,cK,LT.nds,allT,ov,hdec,hnn,hltd,he,h6]
  ·simp [rt,sM,sN,xZ,ya,yc,yf,yg,yh,vS,cK,LT.each,ov,Jq,hw,he]
  ·simp only [rt,sM,sN,xZ,ya,yc,yf,yg,yh,vS,cK,LT.fn,ov,Jq,sG,Int.toNat_natCast,hdec,cond_true]
  ·exact fun _ _=>trivial
 ·obtain⟨⟩:=a
  simp [rt,sM,sN,xZ,ya,yc,yf,yg,yh,vS,cK,LT.out,ov,List.length_range]
def sH(y10 y16:List (Int×(Int×Int)))(b:Nat):(Unit)→Nat ⊕ (Unit)
 |_=>(bif(!bif (Option.getD y10[b]? ((0:Int),(0:Int),(0:Int))).1==(Option.getD y16[b]? ((0:Int),(0:Int),(0:Int))).1then bif ((Option.getD y10[b]? ((0:Int),(0:Int),(0:Int))).2).1==((Option.getD y16[b]? ((0:Int),(0:Int),(0:Int))).2).1then bif (Option.getD y10[b]? ((0:Int),(0:Int),(0:Int))).2.2==(Option.getD y16[b]? ((0:Int),(0:Int),(0:Int))).2.2then true else false else false else false)then(.inl 0)else(.inr ()))
def ow(y1 y2 y3 y4 y5 y6:Int)(y7:List Int)(y8:List (Int×(Int×Int)))(y9:List (List Int))(y10:List (Int×(Int×Int)))(y11 y12:List (Int×Int))(y13:List Int)(y14:List (Int×(Int×Int)))(y15:List (List Int))(y16:List (Int×(Int×Int)))(y17 y18:List (Int×Int))(i:Nat):(Unit)→iT
 |_=>((i:Int),y1,y2,y3,y4,y5,y6,y7,y8,y9,y10,y11,y12,y13,y14,y15,y16,y17,y18)
def Jr:iT→Unit
 |(_,_,_,_,_,_,_,_,_,_,_,_,_,_,_,_,_,_,_)=>()
theorem Tm(y1 y2 y3 y4 y5 y6:Int)(y7:List Int)(y8:List (Int×(Int×Int)))(y9:List (List Int))(y10:List (Int×(Int×Int)))(y11 y12:List (Int×Int))(y13:List Int)(y14:List (Int×(Int×Int)))(y15:List (List Int))(y16:List (Int×(Int×Int)))(y17 y18:List (Int×Int)) (hn:y10.length≤9223372036854775807) (he:y16.length=y10.length):
  cL.fin ((0:Int),y1,y2,y3,y4,y5,y6,y7,y8,y9,y10,y11,y12,y13,y14,y15,y16,y17,y18)=true∧cL.res ((0:Int),y1,y2,y3,y4,y5,y6,y7,y8,y9,y10,y11,y12,y13,y14,y15,y16,y17,y18)=((aU (sH y10 y16) 1 (List.range y10.length) 0 ()).1,(ow y1 y2 y3 y4 y5 y6 y7 y8 y9 y10 y11 y12 y13 y14 y15 y16 y17 y18) (aU (sH y10 y16) 1 (List.range y10.length) 0 ()).2.1 (aU (sH y10 y16) 1 (List.range y10.length) 0 ()).2.2):=by
 have key:=cL.along (ow y1 y2 y3 y4 y5 y6 y7 y8 y9 y10 y11 y12 y13 y14 y15 y16 y17 y18) Jr (sH y10 y16) 1 (fun _ _=>True) (List.range y10.length) () (by trivial) (by simp only [cL,ow,List.length_range];omega) (fun i b a hb hI=> ?_) (fun a hI=> ?_)
 ·exact key
 ·obtain⟨⟩:=a
  obtain⟨rfl,hlt⟩:=qw hb
  have hw:IntKind.i64.wrap ((b:Int) + 1)=((b + 1:Nat):Int):=by rw [aj (by omega) (by omega)];omega
  have hdec:ltI (b:Int) (y10.length:Int)=true:=et (by omega)
  have hnn:leI (0:Int) (b:Int)=true:=dk (by omega)
  have hltd:ltN b y10.length=true:=fJ (by omega)
  refine⟨?_,?_,?_,?_⟩
  ·simp [nI,nJ,sO,sP,yj,yk,ym,yo,yp,vT,cL,LT.nds,allT,ow,hdec,hnn,hltd,he]
  ·simp [nI,nJ,sO,sP,yj,yk,ym,yo,yp,vT,cL,LT.each,ow,Jr,hw,he]
  ·simp only [nI,nJ,sO,sP,yj,yk,ym,yo,yp,vT,cL,LT.fn,ow,Jr,sH,Int.toNat_natCast,hdec,cond_true]
  ·exact fun _ _=>trivial
 ·obtain⟨⟩:=a
  simp [nI,nJ,sO,sP,yj,yk,ym,yo,yp,vT,cL,LT.out,ow,List.length_range]
theorem aqc(n m d n' m' d':Int)(ps:LI)(fs:L3)(rs:List LI)(lf:L3)(pl ls:L2)(ps':LI)(fs':L3)(rs':List LI)(lf':L3)(pl' ls':L2)(h:zC 9223372036854775807 ps fs rs lf pl ls=true):
  JR n m d n' m' d' ps fs rs lf pl ls ps' fs' rs' lf' pl' ls'=true:=by
 have h':=h
 simp only [zC,Bool.and_eq_true]at h'
 obtain⟨h1,h2,h3,h4,h5,h6⟩:=h'
 obtain⟨hn,hA⟩:=aoJ.1 h3
 have q1:FT n n' ps=true:=by simp only [FT,h1,allT,Bool.or_true,cond_true]
 have q2:=ak3 fs fs' h2
 have q3:=amq pl pl' h5
 have q4:=amp ls ls' h6
 cases ha:ky rs lf rs' lf' with
 |true=>simp only [JR,ha,allT,Bool.true_or,cond_true]
 |false=>
  have hl:rs'.length=rs.length∧lf'.length=lf.length:=by
   simp only [ky]at ha
   cases hq:((rs.length:Int)!=(rs'.length:Int))with
   |true=>rw [hq]at ha;cases ha
   |false=>rw [hq,cond_false]at ha;simp at ha hq;omega
  obtain⟨w1,_⟩:=Tl n m d n' m' d' ps fs rs lf pl ls ps' fs' rs' lf' pl' ls' hn hl.1 hA
  obtain⟨v1,_⟩:=Tm n m d n' m' d' ps fs rs lf pl ls ps' fs' rs' lf' pl' ls' (c8.1 h4) hl.2
  simp only [JR,sf,w1,v1,q1,q2,q3,q4,allT,Bool.or_true,cond_true]
theorem aj6(n m d:Int)(ps:LI)(fs:L3)(rs:List LI)(lf:L3)(pl ls:L2)(h:zC 9223372036854775807 ps fs rs lf pl ls=true):
  uc n m d n m d ps fs rs lf pl ls ps fs rs lf pl ls=true:=by
 have h':=h
 simp only [zC,Bool.and_eq_true]at h'
 obtain⟨h1,h2,h3,h4,h5,h6⟩:=h'
 obtain⟨hn,hA⟩:=aoJ.1 h3
 have q1:Al n n ps ps=true:=by simp [Al,eqL]
 have q2:=ai6 fs h2
 have q3:=aj7 pl h5
 have q4:=aj5 ls h6
 obtain⟨_,w2⟩:=Tl n m d n m d ps fs rs lf pl ls ps fs rs lf pl ls hn rfl hA
 obtain⟨_,v2⟩:=Tm n m d n m d ps fs rs lf pl ls ps fs rs lf pl ls (c8.1 h4) rfl
 rw [kU (P:=fun _=>false) (j:=0) (fun b=>by simp [sG,eqL])]at w2
 rw [kU (P:=fun _=>false) (j:=0) (fun b=>by simp [sH])]at v2
 have e: ∀ k:Nat,(List.range k).any (fun _=>false)=false:=fun k=>by simp
 have a2:pK n m d n m d ps fs rs lf pl ls ps fs rs lf pl ls=false:=by simp only [pK,sf,w2,e,cond_false];rfl
 have a3:sg n m d n m d ps fs rs lf pl ls ps fs rs lf pl ls=false:=by simp only [sg,sf,v2,e,cond_false];rfl
 simp only [uc,ky,a2,a3,NL,NM,q1,q2,q3,q4,bne_self_eq_false,beq_self_eq_true,cond_false,cond_true]
def WW:List SV→List Entry→Option Out
 | [.one ⟨true,[.val (.int .i64 x0),.ref 0,.ref 1,.ref 2,.ref 3,.val (.int .i64 x1),.ref 4,.ref 5,.val (.int .i64 x2)]⟩,.one ⟨true,[.val (.int .i64 x3),.ref 6,.ref 7,.ref 8,.ref 9,.val (.int .i64 x4),.ref 10,.ref 11,.val (.int .i64 x5)]⟩],[.row false 2 (.int .i64) x6,.row false 169 (.pair (.int .i64) (.pair (.int .i64) (.int .i64))) x7,.row false 24 (.sl 2 (.int .i64)) x8,.row false 100 (.pair (.int .i64) (.pair (.int .i64) (.int .i64))) x9,.row false 173 (.pair (.int .i64) (.int .i64)) x10,.row false 176 (.pair (.int .i64) (.int .i64)) x11,.row false 2 (.int .i64) x12,.row false 169 (.pair (.int .i64) (.pair (.int .i64) (.int .i64))) x13,.row false 24 (.sl 2 (.int .i64)) x14,.row false 100 (.pair (.int .i64) (.pair (.int .i64) (.int .i64))) x15,.row false 173 (.pair (.int .i64) (.int .i64)) x16,.row false 176 (.pair (.int .i64) (.int .i64)) x17]=>some ⟨(.one ⟨false,[(.val (.bool (uc x0 x1 x2 x3 x4 x5 x6 x7 x8 x9 x10 x11 x12 x13 x14 x15 x16 x17)))]⟩),[(.row false 2 asg x6),(.row false 169 ase x7),(.row false 24 (CTy.sl (2:TypeId) asg) x8),(.row false 100 ase x9),(.row false 173 asf x10),(.row false 176 asf x11),(.row false 2 asg x12),(.row false 169 ase x13),(.row false 24 (CTy.sl (2:TypeId) asg) x14),(.row false 100 ase x15),(.row false 173 asf x16),(.row false 176 asf x17)],[],[zC 9223372036854775807 x6 x7 x8 x9 x10 x11]⟩
 |_,_=>none
def PI:PF Tryz.prog:=PF.alt ahn WW (by
 intro args es o h hnd;unfold WW at h;split at h
 ·rename_i x0 x1 x2 x3 x4 x5 x6 x7 x8 x9 x10 x11 x12 x13 x14 x15 x16 x17
  cases h
  have hnd:=gO hnd
  have hh:=aqc x0 x1 x2 x3 x4 x5 x6 x7 x8 x9 x10 x11 x12 x13 x14 x15 x16 x17 hnd
  have en:=hh
  exact jO rfl (gn en) rfl rfl rfl
 ·cases h)
theorem ari(c:List Int)(h:aD 0 0 c=true):AP c=true:=by
 have h1:=(ame c h).2
 have h2:=(JK 0 (frS c) c h1).2.1
 simp only [AP,h,h1,h2,allT,cond_true]
theorem arC(c:List Int)(h:aD 0 0 c=true):zC 1000000 (HR c) (HS c) (HT c) (HU c) (HV c) (HW c)=true:=
 (JK 0 (frS c) c (ame c h).2).2.2
theorem aqC(c:List Int)(h:aD 0 0 c=true):Ld c=true:=by simp only [Ld,ari c h,allT,cond_true]
def Ua:List SV→List Entry→Option Out
 | [.one ⟨false,[.ref 0]⟩],[.row false 5 (.int .u8) x0]=>some ⟨(.tup [⟨true,[(.val (.int .i64 (am x0))),(.ref 1),(.ref 2),(.ref 3),(.ref 4),(.val (.int .i64 (ao x0))),(.ref 5),(.ref 6),(.val (.int .i64 (aq x0)))]⟩,⟨true,[(.val (.int .i64 (jF x0))),(.val (.int .i64 (cu x0))),(.val (.int .i64 (uU x0))),(.val (.int .i64 (uV x0))),(.val (.int .i64 (uW x0))),(.val (.int .i64 (uX x0))),(.val (.bool (uY x0)))]⟩]),[(.row false 5 ash x0)],[(.row true 2 asg (ad x0)),(.row true 169 ase (ag x0)),(.row true 24 (CTy.sl (2:Nat) asg) (ae x0)),(.row true 100 ase (af x0)),(.row true 173 asf (ah x0)),(.row true 176 asf (ai x0))],[aD 0 0 x0]⟩
 |_,_=>none
def LZ:PF Tryz.prog:=PF.alt aeD Ua (by
 intro args es o h hnd;unfold Ua at h;split at h
 ·rename_i x0
  cases h
  have hnd:=gO hnd
  have hh:=aqC x0 hnd
  have en:=hh
  exact jO rfl (gn en) rfl rfl rfl
 ·cases h)
end Go.SX

namespace Go.SX
open Go.Proofs
set_option maxRecDepth 100000
section
variable (x0:List Int)(x1:List (Int×Int×Int))
def DW:Int:=bif !areR x0 then(1:Int)else bif !lfOk (bI x0) x1 then(2:Int)else(0:Int)
def ag3:List Int:=bif !areR x0 then []else bif !lfOk (bI x0) x1 then []else tV x0 x1
def ag4:List Int:=bif !areR x0 then []else bif !lfOk (bI x0) x1 then []else zy x0 x1
def JP:Bool:=allT [leN x0.length (9223372036854775807:Nat),!areR x0||leN x1.length (9223372036854775807:Nat),!areR x0||(!lfOk (bI x0) x1||tW x0 x1)]
end
def WH:List SV→List Entry→Option Out
 | [.one ⟨false,[.ref 0]⟩,.one ⟨false,[.ref 1]⟩],[.row false 2 (.int .i64) x0,.row false 100 (.pair (.int .i64) (.pair (.int .i64) (.int .i64))) x1]=>some ⟨(.tup [⟨true,[(.ref 2),(.ref 3)]⟩,⟨false,[(.val (.int .i64 (DW x0 x1)))]⟩]),[(.row false 2 asg x0),(.row false 100 ase x1)],[(.row true 2 asg (ag3 x0 x1)),(.row true 2 asg (ag4 x0 x1))],[(JP x0 x1)]⟩
 |_,_=>none
def PN:PF Tryz.prog:=PF.ofG Tryz.prog [zA,PF.lend zA,PF.fz zA,jY,PF.lend jY,PF.fz jY,jX,PF.lend jX,PF.fz jX,aK,PF.lend aK,PF.fz aK] [] aS 102 Tryz.f102 Tryz.func102 (fun c _=>LOk.nil c) WH (by
 intro vs es r h;unfold WH at h;split at h
 ·cases h;kernel_rfl
 ·cases h)
section
variable (x0:List Int)(x1:List (Int×Int×Int))
def Ir:Bool:=DW x0 x1 !=(0:Int)
def Pt:Bool:=bif Ir x0 x1 then false else Qg x0 x1
def Pu:Int:=bif Ir x0 x1 then DW x0 x1 else(0:Int)
def Pv:Bool:=allT [JP x0 x1,Ir x0 x1||ab4 x0 x1]
end
def ab7:List SV→List Entry→Option Out
 | [.one ⟨false,[.ref 0]⟩,.one ⟨false,[.ref 1]⟩],[.row false 2 (.int .i64) x0,.row false 100 (.pair (.int .i64) (.pair (.int .i64) (.int .i64))) x1]=>some ⟨(.tup [⟨false,[(.val (.bool (Pt x0 x1)))]⟩,⟨false,[(.val (.int .i64 (Pu x0 x1)))]⟩]),[(.row false 2 asg x0),(.row false 100 ase x1)],[],[(Pv x0 x1)]⟩
 |_,_=>none
def Vw:PF Tryz.prog:=PF.ofG Tryz.prog [PN,PF.lend PN,PF.fz PN,Gj,PF.lend Gj,PF.fz Gj] [] aS 36 Tryz.f36 Tryz.func36 (fun c _=>LOk.nil c) ab7 (by
 intro vs es r h;unfold ab7 at h;split at h
 ·cases h;kernel_rfl
 ·cases h)
section
variable (x0:List Int)
def al:Int×Int×(Int×Int)×Int×Int×Bool:=(jF x0,cu x0,(uU x0,uV x0),uW x0,uX x0,uY x0)
def bB:Int:=rrC (am x0) (ao x0) (aq x0) (ad x0) (ag x0) (ae x0) (af x0) (ah x0) (ai x0) [al x0]
def bC:Int:=srV (am x0) (ao x0) (aq x0) (ad x0) (ag x0) (ae x0) (af x0) (ah x0) (ai x0) (al x0)
def bV:Bool:=bif bB x0 !=bB x0 then true else bC x0 !=bC x0
def eY:Int:=rrN (am x0) (ao x0) (aq x0) (ad x0) (ag x0) (ae x0) (af x0) (ah x0) (ai x0) [al x0]
def eZ:Int:=rrM (am x0) (ao x0) (aq x0) (ad x0) (ag x0) (ae x0) (af x0) (ah x0) (ai x0) [al x0]
def fa:Int:=rrD (am x0) (ao x0) (aq x0) (ad x0) (ag x0) (ae x0) (af x0) (ah x0) (ai x0) [al x0]
def fb:Bool:=bif bV x0 then true else !uc (eY x0) (eZ x0) (fa x0) (eY x0) (eZ x0) (fa x0) (rrP (am x0) (ao x0) (aq x0) (ad x0) (ag x0) (ae x0) (af x0) (ah x0) (ai x0) [al x0]) (rrF (am x0) (ao x0) (aq x0) (ad x0) (ag x0) (ae x0) (af x0) (ah x0) (ai x0) [al x0]) (rrR (am x0) (ao x0) (aq x0) (ad x0) (ag x0) (ae x0) (af x0) (ah x0) (ai x0) [al x0]) (rrL (am x0) (ao x0) (aq x0) (ad x0) (ag x0) (ae x0) (af x0) (ah x0) (ai x0) [al x0]) (VJ (am x0) (ao x0) (aq x0) (ad x0) (ag x0) (ae x0) (af x0) (ah x0) (ai x0) [al x0]) (VI (am x0) (ao x0) (aq x0) (ad x0) (ag x0) (ae x0) (af x0) (ah x0) (ai x0) [al x0]) (rrP (am x0) (ao x0) (aq x0) (ad x0) (ag x0) (ae x0) (af x0) (ah x0) (ai x0) [al x0]) (rrF (am x0) (ao x0) (aq x0) (ad x0) (ag x0) (ae x0) (af x0) (ah x0) (ai x0) [al x0]) (rrR (am x0) (ao x0) (aq x0) (ad x0) (ag x0) (ae x0) (af x0) (ah x0) (ai x0) [al x0]) (rrL (am x0) (ao x0) (aq x0) (ad x0) (ag x0) (ae x0) (af x0) (ah x0) (ai x0) [al x0]) (VJ (am x0) (ao x0) (aq x0) (ad x0) (ag x0) (ae x0) (af x0) (ah x0) (ai x0) [al x0]) (VI (am x0) (ao x0) (aq x0) (ad x0) (ag x0) (ae x0) (af x0) (ah x0) (ai x0) [al x0])
def bP:Bool:=bif fb x0 then true else !zw (am x0) (ao x0) (aq x0) (jF x0) (cu x0) (uU x0) (uV x0) (uW x0) (uX x0) (uY x0) (ad x0) (ag x0) (ae x0) (af x0) (ah x0) (ai x0)==ux (am x0) (ao x0) (aq x0) (jF x0) (cu x0) (uU x0) (uV x0) (uW x0) (uX x0) (uY x0) (ad x0) (ag x0) (ae x0) (af x0) (ah x0) (ai x0)
def gH:List Int:=bif !bV x0&&true then rrP (am x0) (ao x0) (aq x0) (ad x0) (ag x0) (ae x0) (af x0) (ah x0) (ai x0) [al x0]else rrP (am x0) (ao x0) (aq x0) (ad x0) (ag x0) (ae x0) (af x0) (ah x0) (ai x0) [al x0]
def fk:List (Int×Int×Int):=bif !bV x0&&true then rrF (am x0) (ao x0) (aq x0) (ad x0) (ag x0) (ae x0) (af x0) (ah x0) (ai x0) [al x0]else rrF (am x0) (ao x0) (aq x0) (ad x0) (ag x0) (ae x0) (af x0) (ah x0) (ai x0) [al x0]
def fl:List (List Int):=bif !bV x0&&true then rrR (am x0) (ao x0) (aq x0) (ad x0) (ag x0) (ae x0) (af x0) (ah x0) (ai x0) [al x0]else rrR (am x0) (ao x0) (aq x0) (ad x0) (ag x0) (ae x0) (af x0) (ah x0) (ai x0) [al x0]
def fm:List (Int×Int×Int):=bif !bV x0&&true then rrL (am x0) (ao x0) (aq x0) (ad x0) (ag x0) (ae x0) (af x0) (ah x0) (ai x0) [al x0]else rrL (am x0) (ao x0) (aq x0) (ad x0) (ag x0) (ae x0) (af x0) (ah x0) (ai x0) [al x0]
def fo:List (Int×Int):=bif !bV x0&&true then VJ (am x0) (ao x0) (aq x0) (ad x0) (ag x0) (ae x0) (af x0) (ah x0) (ai x0) [al x0]else VJ (am x0) (ao x0) (aq x0) (ad x0) (ag x0) (ae x0) (af x0) (ah x0) (ai x0) [al x0]
def fq:List (Int×Int):=bif !bV x0&&true then VI (am x0) (ao x0) (aq x0) (ad x0) (ag x0) (ae x0) (af x0) (ah x0) (ai x0) [al x0]else VI (am x0) (ao x0) (aq x0) (ad x0) (ag x0) (ae x0) (af x0) (ah x0) (ai x0) [al x0]
def cv:Bool:=bif jF x0 !=(0:Int)then true else Option.getD (ad x0)[Int.toNat (cu x0)]? (0:Int)!=IntKind.wrap .i64 (IntKind.wrap .i64 ((3:Int) * am x0) - (2:Int))
def ea:List Int:=Option.getD (ae x0)[Int.toNat (cu x0)]? (AK (CTy.sl (2:TypeId) asg))
def eb:Bool:=pJ x0||zC (9223372036854775807:Nat) (ad x0) (ag x0) (ae x0) (af x0) (ah x0) (ai x0)
def ec:Bool:= !(!jF x0 !=(0:Int)&&true)
def pH:Bool:=bif pJ x0 then true else bif bP x0 then false else bif bB x0 !=(0:Int)then true else bif bC x0 !=(0:Int)then uc (eY x0) (eZ x0) (fa x0) (am x0) (ao x0) (aq x0) (gH x0) (fk x0) (fl x0) (fm x0) (fo x0) (fq x0) (ad x0) (ag x0) (ae x0) (af x0) (ah x0) (ai x0)else bif cv x0 then true else bif bif Pu (ea x0) (af x0)==(0:Int)then Pt (ea x0) (af x0)else false then ao x0==(3:Int)else false
def pI:Bool:=allT [pJ x0||aD (0:Int) (0:Int) x0,eb x0,eb x0,pJ x0||(!(!bV x0&&true)||zC (9223372036854775807:Nat) (rrP (am x0) (ao x0) (aq x0) (ad x0) (ag x0) (ae x0) (af x0) (ah x0) (ai x0) [al x0]) (rrF (am x0) (ao x0) (aq x0) (ad x0) (ag x0) (ae x0) (af x0) (ah x0) (ai x0) [al x0]) (rrR (am x0) (ao x0) (aq x0) (ad x0) (ag x0) (ae x0) (af x0) (ah x0) (ai x0) [al x0]) (rrL (am x0) (ao x0) (aq x0) (ad x0) (ag x0) (ae x0) (af x0) (ah x0) (ai x0) [al x0]) (VJ (am x0) (ao x0) (aq x0) (ad x0) (ag x0) (ae x0) (af x0) (ah x0) (ai x0) [al x0]) (VI (am x0) (ao x0) (aq x0) (ad x0) (ag x0) (ae x0) (af x0) (ah x0) (ai x0) [al x0])),pJ x0||(!(!fb x0&&true)||DV (am x0) (ao x0) (aq x0) (jF x0) (cu x0) (ad x0) (ag x0) (ae x0) (af x0) (ah x0) (ai x0)),pJ x0||(!(!fb x0&&true)||zE (am x0) (ao x0) (aq x0) (jF x0) (cu x0) (ad x0) (ag x0) (ae x0) (af x0) (ah x0) (ai x0)),pJ x0||(bP x0||(bB x0 !=(0:Int)||(!bC x0 !=(0:Int)||zC (9223372036854775807:Nat) (gH x0) (fk x0) (fl x0) (fm x0) (fo x0) (fq x0)))),pJ x0||(bP x0||(bB x0 !=(0:Int)||(bC x0 !=(0:Int)||(ec x0||leI (0:Int) (cu x0))))),pJ x0||(bP x0||(bB x0 !=(0:Int)||(bC x0 !=(0:Int)||(ec x0||ltI (cu x0) (↑(List.length (ad x0)):Int))))),pJ x0||(bP x0||(bB x0 !=(0:Int)||(bC x0 !=(0:Int)||(ec x0||ltN (Int.toNat (cu x0)) (List.length (ad x0)))))),pJ x0||(bP x0||(bB x0 !=(0:Int)||(bC x0 !=(0:Int)||(cv x0||leI (0:Int) (cu x0))))),pJ x0||(bP x0||(bB x0 !=(0:Int)||(bC x0 !=(0:Int)||(cv x0||ltI (cu x0) (↑(List.length (ae x0)):Int))))),pJ x0||(bP x0||(bB x0 !=(0:Int)||(bC x0 !=(0:Int)||(cv x0||ltN (Int.toNat (cu x0)) (List.length (ae x0)))))),pJ x0||(bP x0||(bB x0 !=(0:Int)||(bC x0 !=(0:Int)||(cv x0||Pv (ea x0) (af x0)))))]
end
def UF:List SV→List Entry→Option Out
 | [.one ⟨false,[.ref 0]⟩],[.row false 5 (.int .u8) x0]=>some ⟨(.one ⟨false,[(.val (.bool (pH x0)))]⟩),[(.row false 5 ash x0)],[],[(pI x0)]⟩
 |_,_=>none
def af4:PF Tryz.prog:=PF.ofG Tryz.prog [af5,PF.lend af5,PF.fz af5,PI,PF.lend PI,PF.fz PI,TJ,PF.lend TJ,PF.fz TJ,LZ,PF.lend LZ,PF.fz LZ,TL,PF.lend TL,PF.fz TL,PM,PF.lend PM,PF.fz PM,zB,PF.lend zB,PF.fz zB,Vw,PF.lend Vw,PF.fz Vw] [] aS 6 Tryz.f6 Tryz.func6 (fun c _=>LOk.nil c) UF (by
 intro vs es r h;unfold UF at h;split at h
 ·cases h;kernel_rfl
 ·cases h)
end Go.SX

namespace Go.SX
open Go.Proofs
set_option maxRecDepth 100000
theorem alM{n day:Int}{fs lf:L3}{pl ls:L2}{ps0:LI}{rs0:List LI}: ∀ {r:List RX} {i:Nat} {s:RS},al0 n day fs lf pl ls ps0 rs0 i s→(∀ x∈r,isX ps0 rs0 x=true)→al0 n day fs lf pl ls ps0 rs0 (i + r.length) (r.foldl (stX n day fs lf pl ls) s)
 | [],i,s,h,_=>h
 |x::r,i,s,h,hx=>by
  have h1:=(ZO h (hx x (by simp))).2
  have h2:=alM (r:=r) h1 (fun y hy=>hx y (by simp [hy]))
  rw [List.foldl_cons,List.length_cons,show i + (r.length + 1)=i + 1 + r.length by omega]
  exact h2
theorem RideF.rK{n mode day:Int}{ps:LI}{fs:L3}{rs:List LI}{lf:L3}{pl ls:L2}(h:RideF n mode day ps fs rs lf pl ls):zC 1048576 ps fs rs lf pl ls=true:=by
 have:=h.lp;have:=h.lfs;have:=h.llf;have:=h.lpl;have:=h.lls;have:=h.hl
 refine UB.2 ⟨by omega,by omega,⟨by omega,fun x hx=> ?_⟩,by omega,by omega,by omega⟩
 have:=(DU.1 (h.hA x hx).1).1
 omega
theorem aqk(n mode day:Int)(ps:LI)(fs:L3)(rs:List LI)(lf:L3)(pl ls:L2)(xs:List RX):
  zC 1048576 (rrP n mode day ps fs rs lf pl ls xs) (rrF n mode day ps fs rs lf pl ls xs) (rrR n mode day ps fs rs lf pl ls xs) (rrL n mode day ps fs rs lf pl ls xs) (VJ n mode day ps fs rs lf pl ls xs) (VI n mode day ps fs rs lf pl ls xs)=true∧(rrV n mode day ps fs rs lf pl ls xs).length≤200:=by
 cases hb:rrB n mode day ps fs rs lf pl ls xs with
 |false=>simp only [rrP,rrF,rrR,rrL,VJ,VI,rrV,hb,cond_false];exact⟨rfl,by simp⟩
 |true=>
  obtain⟨f,hl,hX⟩:=akH hb
  obtain⟨g,_,_,h4⟩:=alM (r:=xs) (aqi f) hX
  simp only [rrP,rrF,rrR,rrL,VJ,VI,rrV,hb,cond_true]
  refine⟨g.rK,?_⟩
  simp only [rrE];omega
end Go.SX

namespace Go.SX
open Go.Proofs
set_option maxRecDepth 100000
theorem arw{c:List Int}(hb: ∀ (i:Nat) (x:Int),c[i]? =some x→0≤x∧x≤255)(h:pJ c=false):aD 0 0 c=true:=by
 have:=aI.1 h
 refine adY.2 ⟨by omega,by omega,by omega,fun x hx=> ?_⟩
 obtain⟨i,hi⟩:=List.getElem?_of_mem hx
 exact hb i x hi
theorem aq1{n mode day:Int}{ps:LI}{fs:L3}{rs:List LI}{lf:L3}{pl ls:L2}{k t rk row ck role:Int}{key:Bool}(h:Vf ps rs k t rk row ck role key=true)(hv:(stV n mode day ps fs rs lf pl ls k t rk row ck role key !=0)=true):
  stM mode day pl ls k ck role key=mode∧stP n mode ps fs rs lf k t=ps∧stR n ps rs k t rk row=rs:=by
 rcases Se h with⟨rfl,_⟩ | ⟨rfl,_,_⟩ | ⟨rfl,_⟩
 ·refine⟨rfl,?_,rfl⟩
  have h1:(abg n mode ps fs rs lf t==0)=false:=by
   have:(abg n mode ps fs rs lf t !=0)=true:=hv
   simpa [bne] using this
  simp only [stP,h1,Bool.and_false,cond_false]
 ·refine⟨rfl,rfl,?_⟩
  simp only [stV]at hv
  simp only [stR]
  cases h1:Mw n t ps <;> cases h2:kM (rs[t.toNat]?.getD []) rk row <;> rw [h1,h2]at hv <;> first | rfl | (exact absurd hv (by simp))
 ·refine⟨?_,rfl,rfl⟩
  simp only [stV]at hv
  simp only [stM]
  cases h1:vdC mode ck role key !=0 <;> cases h2:ck==1&& !ahb pl ls day <;> rw [h1,h2]at hv <;> first | rfl | (exact absurd hv (by simp))
theorem apm(n mode day k t rk row ck role:Int)(key:Bool)(ps:LI)(fs:L3)(rs:List LI)(lf:L3)(pl ls:L2)(hN:zC 9223372036854775807 ps fs rs lf pl ls=true):
  zw n mode day k t rk row ck role key ps fs rs lf pl ls=(nX n ps fs rs lf mode pl ls day&&Vf ps rs k t rk row ck role key)∧
  DV n mode day k t ps fs rs lf pl ls=true:=by
 cases hO:nX n ps fs rs lf mode pl ls day with
 |false=>simp [zw,DV,hO,hN,allT]
 |true=>
  obtain⟨q1,q2⟩:=alA k t rk row ck role key (akG hO)
  simp only [zw,DV,hO,hN,q1,q2,allT,cond_true,Bool.true_and,Bool.or_true,and_self]
theorem aop{st:LI}{lf:L3}(h:ab4 st lf=true):tW st lf=true:=by
 have hh:=(ag2 st lf h).2
 simp only [PA,allT]at hh
 cases hq:tW st lf with
 |true=>rfl
 |false=>rw [hq]at hh;simp at hh
theorem am5{st:LI}{lf:L3}(h:ab4 st lf=true)(h1:st.length≤9223372036854775807)(h2:lf.length≤9223372036854775807):Pt st lf=Qg st lf∧Pu st lf=0∧Pv st lf=true:=by
 have hd:=h
 simp only [ab4,Bool.and_eq_true]at hd
 obtain⟨g1,g2⟩:=hd
 have hl:lfOk (bI st) lf=true:=g2
 have e0:DW st lf=0:=by simp only [DW,g1,hl,Bool.not_true,cond_false]
 have e1:Ir st lf=false:=by rw [Ir,e0];rfl
 have e2:JP st lf=true:=by simp only [JP,br h1,br h2,aop h,allT,Bool.or_true,cond_true]
 simp only [Pt,Pu,Pv,e1,e2,h,allT,cond_false,cond_true,Bool.or_true,and_self]
theorem ak2(c:List Int)(w:wfD (.sl 5 (.int .u8)) c):pH c=true∧pI c=true:=by
 have hb: ∀ (i:Nat) (x:Int),c[i]? =some x→0≤x∧x≤255:=fun i x hx=>arM (w.2 x (List.mem_of_getElem? hx))
 cases hbig:pJ c with
 |true=>simp [pH,pI,allT,hbig,eb]
 |false=>
  have hsrc:=arw hb hbig
  have hM:zC 1000000 (ad c) (ag c) (ae c) (af c) (ah c) (ai c)=true:=arC c hsrc
  generalize u0:am c=n
  generalize u1:ao c=mode
  generalize u2:aq c=day
  generalize u3:jF c=k
  generalize u4:cu c=t
  generalize u5:uU c=rk
  generalize u6:uV c=row
  generalize u7:uW c=ck
  generalize u8:uX c=role
  generalize u9:uY c=key
  generalize u10:ad c=ps at hM
  generalize u11:ag c=fs at hM
  generalize u12:ae c=rs at hM
  generalize u13:af c=lf at hM
  generalize u14:ah c=pl at hM
  generalize u15:ai c=ls at hM
  have hN:zC 9223372036854775807 ps fs rs lf pl ls=true:=akF hM (by omega)
  have nS:=akF (aqk n mode day ps fs rs lf pl ls [(k,t,(rk,row),ck,role,key)]).1 (show 1048576≤9223372036854775807 by omega)
  have e1: ∀ a b d,uc a b d a b d (rrP n mode day ps fs rs lf pl ls [(k,t,(rk,row),ck,role,key)]) (rrF n mode day ps fs rs lf pl ls [(k,t,(rk,row),ck,role,key)]) (rrR n mode day ps fs rs lf pl ls [(k,t,(rk,row),ck,role,key)]) (rrL n mode day ps fs rs lf pl ls [(k,t,(rk,row),ck,role,key)]) (VJ n mode day ps fs rs lf pl ls [(k,t,(rk,row),ck,role,key)]) (VI n mode day ps fs rs lf pl ls [(k,t,(rk,row),ck,role,key)]) (rrP n mode day ps fs rs lf pl ls [(k,t,(rk,row),ck,role,key)]) (rrF n mode day ps fs rs lf pl ls [(k,t,(rk,row),ck,role,key)]) (rrR n mode day ps fs rs lf pl ls [(k,t,(rk,row),ck,role,key)]) (rrL n mode day ps fs rs lf pl ls [(k,t,(rk,row),ck,role,key)]) (VJ n mode day ps fs rs lf pl ls [(k,t,(rk,row),ck,role,key)]) (VI n mode day ps fs rs lf pl ls [(k,t,(rk,row),ck,role,key)])=true:=fun a b d=>aj6 a b d _ _ _ _ _ _ nS
  obtain⟨p1,i1⟩:=apm n mode day k t rk row ck role key ps fs rs lf pl ls hN
  obtain⟨p2,i2⟩:=alT n mode day k t rk row ck role key ps fs rs lf pl ls hN
  have i0:(zw n mode day k t rk row ck role key ps fs rs lf pl ls==ux n mode day k t rk row ck role key ps fs rs lf pl ls)=true:=by rw [p1,p2];exact beq_self_eq_true _
  cases hB:rrB n mode day ps fs rs lf pl ls [(k,t,(rk,row),ck,role,key)]with
  |false=>
   have hc:(rrC n mode day ps fs rs lf pl ls [(k,t,(rk,row),ck,role,key)]!=0)=true:=by rw [ajr,hB];rfl
   have r_a0:=Eq.refl (al c)
   conv at r_a0=>rhs;simp only [al,cond_true,cond_false,Bool.cond_self,Bool.not_true,Bool.not_false,Bool.true_or,Bool.or_true,Bool.false_or,Bool.or_false,Bool.and_self,Bool.and_true,Bool.true_and,Bool.false_and,Bool.and_false,bne_self_eq_false,beq_self_eq_true,allT,hbig,hsrc,u0,u1,u2,u3,u4,u5,u6,u7,u8,u9,u10,u11,u12,u13,u14,u15,hN,e1,nS,i0,i1,i2,hc]
   have r_a1:=Eq.refl (bB c)
   conv at r_a1=>rhs;simp only [bB,cond_true,cond_false,Bool.cond_self,Bool.not_true,Bool.not_false,Bool.true_or,Bool.or_true,Bool.false_or,Bool.or_false,Bool.and_self,Bool.and_true,Bool.true_and,Bool.false_and,Bool.and_false,bne_self_eq_false,beq_self_eq_true,allT,hbig,hsrc,u0,u1,u2,u3,u4,u5,u6,u7,u8,u9,u10,u11,u12,u13,u14,u15,hN,e1,nS,i0,i1,i2,hc,r_a0]
   have r_a2:=Eq.refl (bC c)
   conv at r_a2=>rhs;simp only [bC,cond_true,cond_false,Bool.cond_self,Bool.not_true,Bool.not_false,Bool.true_or,Bool.or_true,Bool.false_or,Bool.or_false,Bool.and_self,Bool.and_true,Bool.true_and,Bool.false_and,Bool.and_false,bne_self_eq_false,beq_self_eq_true,allT,hbig,hsrc,u0,u1,u2,u3,u4,u5,u6,u7,u8,u9,u10,u11,u12,u13,u14,u15,hN,e1,nS,i0,i1,i2,hc,r_a0,r_a1]
   have r_a3:=Eq.refl (bV c)
   conv at r_a3=>rhs;simp only [bV,cond_true,cond_false,Bool.cond_self,Bool.not_true,Bool.not_false,Bool.true_or,Bool.or_true,Bool.false_or,Bool.or_false,Bool.and_self,Bool.and_true,Bool.true_and,Bool.false_and,Bool.and_false,bne_self_eq_false,beq_self_eq_true,allT,hbig,hsrc,u0,u1,u2,u3,u4,u5,u6,u7,u8,u9,u10,u11,u12,u13,u14,u15,hN,e1,nS,i0,i1,i2,hc,r_a0,r_a1,r_a2]
   have r_a4:=Eq.refl (eY c)
   conv at r_a4=>rhs;simp only [eY,cond_true,cond_false,Bool.cond_self,Bool.not_true,Bool.not_false,Bool.true_or,Bool.or_true,Bool.false_or,Bool.or_false,Bool.and_self,Bool.and_true,Bool.true_and,Bool.false_and,Bool.and_false,bne_self_eq_false,beq_self_eq_true,allT,hbig,hsrc,u0,u1,u2,u3,u4,u5,u6,u7,u8,u9,u10,u11,u12,u13,u14,u15,hN,e1,nS,i0,i1,i2,hc,r_a0,r_a1,r_a2,r_a3]
   have r_a5:=Eq.refl (eZ c)
   conv at r_a5=>rhs;simp only [eZ,cond_true,cond_false,Bool.cond_self,Bool.not_true,Bool.not_false,Bool.true_or,Bool.or_true,Bool.false_or,Bool.or_false,Bool.and_self,Bool.and_true,Bool.true_and,Bool.false_and,Bool.and_false,bne_self_eq_false,beq_self_eq_true,allT,hbig,hsrc,u0,u1,u2,u3,u4,u5,u6,u7,u8,u9,u10,u11,u12,u13,u14,u15,hN,e1,nS,i0,i1,i2,hc,r_a0,r_a1,r_a2,r_a3,r_a4]
   have r_a6:=Eq.refl (fa c)
   conv at r_a6=>rhs;simp only [fa,cond_true,cond_false,Bool.cond_self,Bool.not_true,Bool.not_false,Bool.true_or,Bool.or_true,Bool.false_or,Bool.or_false,Bool.and_self,Bool.and_true,Bool.true_and,Bool.false_and,Bool.and_false,bne_self_eq_false,beq_self_eq_true,allT,hbig,hsrc,u0,u1,u2,u3,u4,u5,u6,u7,u8,u9,u10,u11,u12,u13,u14,u15,hN,e1,nS,i0,i1,i2,hc,r_a0,r_a1,r_a2,r_a3,r_a4,r_a5]
   have r_a7:=Eq.refl (fb c)
   conv at r_a7=>rhs;simp only [fb,cond_true,cond_false,Bool.cond_self,Bool.not_true,Bool.not_false,Bool.true_or,Bool.or_true,Bool.false_or,Bool.or_false,Bool.and_self,Bool.and_true,Bool.true_and,Bool.false_and,Bool.and_false,bne_self_eq_false,beq_self_eq_true,allT,hbig,hsrc,u0,u1,u2,u3,u4,u5,u6,u7,u8,u9,u10,u11,u12,u13,u14,u15,hN,e1,nS,i0,i1,i2,hc,r_a0,r_a1,r_a2,r_a3,r_a4,r_a5,r_a6]
   have r_a8:=Eq.refl (bP c)
   conv at r_a8=>rhs;simp only [bP,cond_true,cond_false,Bool.cond_self,Bool.not_true,Bool.not_false,Bool.true_or,Bool.or_true,Bool.false_or,Bool.or_false,Bool.and_self,Bool.and_true,Bool.true_and,Bool.false_and,Bool.and_false,bne_self_eq_false,beq_self_eq_true,allT,hbig,hsrc,u0,u1,u2,u3,u4,u5,u6,u7,u8,u9,u10,u11,u12,u13,u14,u15,hN,e1,nS,i0,i1,i2,hc,r_a0,r_a1,r_a2,r_a3,r_a4,r_a5,r_a6,r_a7]
   have r_a9:=Eq.refl (gH c)
   conv at r_a9=>rhs;simp only [gH,cond_true,cond_false,Bool.cond_self,Bool.not_true,Bool.not_false,Bool.true_or,Bool.or_true,Bool.false_or,Bool.or_false,Bool.and_self,Bool.and_true,Bool.true_and,Bool.false_and,Bool.and_false,bne_self_eq_false,beq_self_eq_true,allT,hbig,hsrc,u0,u1,u2,u3,u4,u5,u6,u7,u8,u9,u10,u11,u12,u13,u14,u15,hN,e1,nS,i0,i1,i2,hc,r_a0,r_a1,r_a2,r_a3,r_a4,r_a5,r_a6,r_a7,r_a8]
   have r_a10:=Eq.refl (fk c)
   conv at r_a10=>rhs;simp only [fk,cond_true,cond_false,Bool.cond_self,Bool.not_true,Bool.not_false,Bool.true_or,Bool.or_true,Bool.false_or,Bool.or_false,Bool.and_self,Bool.and_true,Bool.true_and,Bool.false_and,Bool.and_false,bne_self_eq_false,beq_self_eq_true,allT,hbig,hsrc,u0,u1,u2,u3,u4,u5,u6,u7,u8,u9,u10,u11,u12,u13,u14,u15,hN,e1,nS,i0,i1,i2,hc,r_a0,r_a1,r_a2,r_a3,r_a4,r_a5,r_a6,r_a7,r_a8,r_a9]
   have r_a11:=Eq.refl (fl c)
   conv at r_a11=>rhs;simp only [fl,cond_true,cond_false,Bool.cond_self,Bool.not_true,Bool.not_false,Bool.true_or,Bool.or_true,Bool.false_or,Bool.or_false,Bool.and_self,Bool.and_true,Bool.true_and,Bool.false_and,Bool.and_false,bne_self_eq_false,beq_self_eq_true,allT,hbig,hsrc,u0,u1,u2,u3,u4,u5,u6,u7,u8,u9,u10,u11,u12,u13,u14,u15,hN,e1,nS,i0,i1,i2,hc,r_a0,r_a1,r_a2,r_a3,r_a4,r_a5,r_a6,r_a7,r_a8,r_a9,r_a10]
   have r_a12:=Eq.refl (fm c)
   conv at r_a12=>rhs;simp only [fm,cond_true,cond_false,Bool.cond_self,Bool.not_true,Bool.not_false,Bool.true_or,Bool.or_true,Bool.false_or,Bool.or_false,Bool.and_self,Bool.and_true,Bool.true_and,Bool.false_and,Bool.and_false,bne_self_eq_false,beq_self_eq_true,allT,hbig,hsrc,u0,u1,u2,u3,u4,u5,u6,u7,u8,u9,u10,u11,u12,u13,u14,u15,hN,e1,nS,i0,i1,i2,hc,r_a0,r_a1,r_a2,r_a3,r_a4,r_a5,r_a6,r_a7,r_a8,r_a9,r_a10,r_a11]
   have r_a13:=Eq.refl (fo c)
   conv at r_a13=>rhs;simp only [fo,cond_true,cond_false,Bool.cond_self,Bool.not_true,Bool.not_false,Bool.true_or,Bool.or_true,Bool.false_or,Bool.or_false,Bool.and_self,Bool.and_true,Bool.true_and,Bool.false_and,Bool.and_false,bne_self_eq_false,beq_self_eq_true,allT,hbig,hsrc,u0,u1,u2,u3,u4,u5,u6,u7,u8,u9,u10,u11,u12,u13,u14,u15,hN,e1,nS,i0,i1,i2,hc,r_a0,r_a1,r_a2,r_a3,r_a4,r_a5,r_a6,r_a7,r_a8,r_a9,r_a10,r_a11,r_a12]
   have r_a14:=Eq.refl (fq c)
   conv at r_a14=>rhs;simp only [fq,cond_true,cond_false,Bool.cond_self,Bool.not_true,Bool.not_false,Bool.true_or,Bool.or_true,Bool.false_or,Bool.or_false,Bool.and_self,Bool.and_true,Bool.true_and,Bool.false_and,Bool.and_false,bne_self_eq_false,beq_self_eq_true,allT,hbig,hsrc,u0,u1,u2,u3,u4,u5,u6,u7,u8,u9,u10,u11,u12,u13,u14,u15,hN,e1,nS,i0,i1,i2,hc,r_a0,r_a1,r_a2,r_a3,r_a4,r_a5,r_a6,r_a7,r_a8,r_a9,r_a10,r_a11,r_a12,r_a13]
   have r_a15:=Eq.refl (cv c)
   conv at r_a15=>rhs;simp only [cv,cond_true,cond_false,Bool.cond_self,Bool.not_true,Bool.not_false,Bool.true_or,Bool.or_true,Bool.false_or,Bool.or_false,Bool.and_self,Bool.and_true,Bool.true_and,Bool.false_and,Bool.and_false,bne_self_eq_false,beq_self_eq_true,allT,hbig,hsrc,u0,u1,u2,u3,u4,u5,u6,u7,u8,u9,u10,u11,u12,u13,u14,u15,hN,e1,nS,i0,i1,i2,hc,r_a0,r_a1,r_a2,r_a3,r_a4,r_a5,r_a6,r_a7,r_a8,r_a9,r_a10,r_a11,r_a12,r_a13,r_a14]
   have r_a16:=Eq.refl (ea c)
   conv at r_a16=>rhs;simp only [ea,cond_true,cond_false,Bool.cond_self,Bool.not_true,Bool.not_false,Bool.true_or,Bool.or_true,Bool.false_or,Bool.or_false,Bool.and_self,Bool.and_true,Bool.true_and,Bool.false_and,Bool.and_false,bne_self_eq_false,beq_self_eq_true,allT,hbig,hsrc,u0,u1,u2,u3,u4,u5,u6,u7,u8,u9,u10,u11,u12,u13,u14,u15,hN,e1,nS,i0,i1,i2,hc,r_a0,r_a1,r_a2,r_a3,r_a4,r_a5,r_a6,r_a7,r_a8,r_a9,r_a10,r_a11,r_a12,r_a13,r_a14,r_a15]
   have r_a17:=Eq.refl (eb c)
   conv at r_a17=>rhs;simp only [eb,cond_true,cond_false,Bool.cond_self,Bool.not_true,Bool.not_false,Bool.true_or,Bool.or_true,Bool.false_or,Bool.or_false,Bool.and_self,Bool.and_true,Bool.true_and,Bool.false_and,Bool.and_false,bne_self_eq_false,beq_self_eq_true,allT,hbig,hsrc,u0,u1,u2,u3,u4,u5,u6,u7,u8,u9,u10,u11,u12,u13,u14,u15,hN,e1,nS,i0,i1,i2,hc,r_a0,r_a1,r_a2,r_a3,r_a4,r_a5,r_a6,r_a7,r_a8,r_a9,r_a10,r_a11,r_a12,r_a13,r_a14,r_a15,r_a16]
   have r_a18:=Eq.refl (ec c)
   conv at r_a18=>rhs;simp only [ec,cond_true,cond_false,Bool.cond_self,Bool.not_true,Bool.not_false,Bool.true_or,Bool.or_true,Bool.false_or,Bool.or_false,Bool.and_self,Bool.and_true,Bool.true_and,Bool.false_and,Bool.and_false,bne_self_eq_false,beq_self_eq_true,allT,hbig,hsrc,u0,u1,u2,u3,u4,u5,u6,u7,u8,u9,u10,u11,u12,u13,u14,u15,hN,e1,nS,i0,i1,i2,hc,r_a0,r_a1,r_a2,r_a3,r_a4,r_a5,r_a6,r_a7,r_a8,r_a9,r_a10,r_a11,r_a12,r_a13,r_a14,r_a15,r_a16,r_a17]
   refine⟨?_,?_⟩ <;> simp only [pH,pI,cond_true,cond_false,Bool.cond_self,Bool.not_true,Bool.not_false,Bool.true_or,Bool.or_true,Bool.false_or,Bool.or_false,Bool.and_self,Bool.and_true,Bool.true_and,Bool.false_and,Bool.and_false,bne_self_eq_false,beq_self_eq_true,allT,hbig,hsrc,u0,u1,u2,u3,u4,u5,u6,u7,u8,u9,u10,u11,u12,u13,u14,u15,hN,e1,nS,i0,i1,i2,hc,r_a0,r_a1,r_a2,r_a3,r_a4,r_a5,r_a6,r_a7,r_a8,r_a9,r_a10,r_a11,r_a12,r_a13,r_a14,r_a15,r_a16,r_a17,r_a18]
  |true=>
   have hc0:rrC n mode day ps fs rs lf pl ls [(k,t,(rk,row),ck,role,key)]=0:=beq_iff_eq.1 hB
   have hc:(rrC n mode day ps fs rs lf pl ls [(k,t,(rk,row),ck,role,key)]!=0)=false:=by rw [ajr,hB];rfl
   obtain⟨f,_,hX⟩:=akH hB
   have hx:Vf ps rs k t rk row ck role key=true:=hX (k,t,(rk,row),ck,role,key) (by simp)
   have hv:srV n mode day ps fs rs lf pl ls (k,t,(rk,row),ck,role,key)=(stV n mode day ps fs rs lf pl ls k t rk row ck role key):=by rw [srV,hB];rfl
   cases hv0:(stV n mode day ps fs rs lf pl ls k t rk row ck role key)!=0 with
   |true=>
    obtain⟨k1,k2,k3⟩:=aq1 hx hv0
    have m0:rrN n mode day ps fs rs lf pl ls [(k,t,(rk,row),ck,role,key)]=n:=by rw [rrN,hB];rfl
    have m1:rrM n mode day ps fs rs lf pl ls [(k,t,(rk,row),ck,role,key)]=mode:=by rw [rrM,hB];exact k1
    have m2:rrD n mode day ps fs rs lf pl ls [(k,t,(rk,row),ck,role,key)]=day:=by rw [rrD,hB];rfl
    have m3:rrP n mode day ps fs rs lf pl ls [(k,t,(rk,row),ck,role,key)]=ps:=by rw [rrP,hB];exact k2
    have m4:rrF n mode day ps fs rs lf pl ls [(k,t,(rk,row),ck,role,key)]=fs:=by rw [rrF,hB];rfl
    have m5:rrR n mode day ps fs rs lf pl ls [(k,t,(rk,row),ck,role,key)]=rs:=by rw [rrR,hB];exact k3
    have m6:rrL n mode day ps fs rs lf pl ls [(k,t,(rk,row),ck,role,key)]=lf:=by rw [rrL,hB];rfl
    have m7:VJ n mode day ps fs rs lf pl ls [(k,t,(rk,row),ck,role,key)]=pl:=by rw [VJ,hB];rfl
    have m8:VI n mode day ps fs rs lf pl ls [(k,t,(rk,row),ck,role,key)]=ls:=by rw [VI,hB];rfl
    have e2:=aj6 n mode day ps fs rs lf pl ls hN
    have r_a0:=Eq.refl (al c)
    conv at r_a0=>rhs;simp only [al,cond_true,cond_false,Bool.cond_self,Bool.not_true,Bool.not_false,Bool.true_or,Bool.or_true,Bool.false_or,Bool.or_false,Bool.and_self,Bool.and_true,Bool.true_and,Bool.false_and,Bool.and_false,bne_self_eq_false,beq_self_eq_true,allT,hbig,hsrc,u0,u1,u2,u3,u4,u5,u6,u7,u8,u9,u10,u11,u12,u13,u14,u15,hN,i0,i1,i2,hc,hc0,hv,hv0,m0,m1,m2,m3,m4,m5,m6,m7,m8,e2]
    have r_a1:=Eq.refl (bB c)
    conv at r_a1=>rhs;simp only [bB,cond_true,cond_false,Bool.cond_self,Bool.not_true,Bool.not_false,Bool.true_or,Bool.or_true,Bool.false_or,Bool.or_false,Bool.and_self,Bool.and_true,Bool.true_and,Bool.false_and,Bool.and_false,bne_self_eq_false,beq_self_eq_true,allT,hbig,hsrc,u0,u1,u2,u3,u4,u5,u6,u7,u8,u9,u10,u11,u12,u13,u14,u15,hN,i0,i1,i2,hc,hc0,hv,hv0,m0,m1,m2,m3,m4,m5,m6,m7,m8,e2,r_a0]
    have r_a2:=Eq.refl (bC c)
    conv at r_a2=>rhs;simp only [bC,cond_true,cond_false,Bool.cond_self,Bool.not_true,Bool.not_false,Bool.true_or,Bool.or_true,Bool.false_or,Bool.or_false,Bool.and_self,Bool.and_true,Bool.true_and,Bool.false_and,Bool.and_false,bne_self_eq_false,beq_self_eq_true,allT,hbig,hsrc,u0,u1,u2,u3,u4,u5,u6,u7,u8,u9,u10,u11,u12,u13,u14,u15,hN,i0,i1,i2,hc,hc0,hv,hv0,m0,m1,m2,m3,m4,m5,m6,m7,m8,e2,r_a0,r_a1]
    have r_a3:=Eq.refl (bV c)
    conv at r_a3=>rhs;simp only [bV,cond_true,cond_false,Bool.cond_self,Bool.not_true,Bool.not_false,Bool.true_or,Bool.or_true,Bool.false_or,Bool.or_false,Bool.and_self,Bool.and_true,Bool.true_and,Bool.false_and,Bool.and_false,bne_self_eq_false,beq_self_eq_true,allT,hbig,hsrc,u0,u1,u2,u3,u4,u5,u6,u7,u8,u9,u10,u11,u12,u13,u14,u15,hN,i0,i1,i2,hc,hc0,hv,hv0,m0,m1,m2,m3,m4,m5,m6,m7,m8,e2,r_a0,r_a1,r_a2]
    have r_a4:=Eq.refl (eY c)
    conv at r_a4=>rhs;simp only [eY,cond_true,cond_false,Bool.cond_self,Bool.not_true,Bool.not_false,Bool.true_or,Bool.or_true,Bool.false_or,Bool.or_false,Bool.and_self,Bool.and_true,Bool.true_and,Bool.false_and,Bool.and_false,bne_self_eq_false,beq_self_eq_true,allT,hbig,hsrc,u0,u1,u2,u3,u4,u5,u6,u7,u8,u9,u10,u11,u12,u13,u14,u15,hN,i0,i1,i2,hc,hc0,hv,hv0,m0,m1,m2,m3,m4,m5,m6,m7,m8,e2,r_a0,r_a1,r_a2,r_a3]
    have r_a5:=Eq.refl (eZ c)
    conv at r_a5=>rhs;simp only [eZ,cond_true,cond_false,Bool.cond_self,Bool.not_true,Bool.not_false,Bool.true_or,Bool.or_true,Bool.false_or,Bool.or_false,Bool.and_self,Bool.and_true,Bool.true_and,Bool.false_and,Bool.and_false,bne_self_eq_false,beq_self_eq_true,allT,hbig,hsrc,u0,u1,u2,u3,u4,u5,u6,u7,u8,u9,u10,u11,u12,u13,u14,u15,hN,i0,i1,i2,hc,hc0,hv,hv0,m0,m1,m2,m3,m4,m5,m6,m7,m8,e2,r_a0,r_a1,r_a2,r_a3,r_a4]
    have r_a6:=Eq.refl (fa c)
    conv at r_a6=>rhs;simp only [fa,cond_true,cond_false,Bool.cond_self,Bool.not_true,Bool.not_false,Bool.true_or,Bool.or_true,Bool.false_or,Bool.or_false,Bool.and_self,Bool.and_true,Bool.true_and,Bool.false_and,Bool.and_false,bne_self_eq_false,beq_self_eq_true,allT,hbig,hsrc,u0,u1,u2,u3,u4,u5,u6,u7,u8,u9,u10,u11,u12,u13,u14,u15,hN,i0,i1,i2,hc,hc0,hv,hv0,m0,m1,m2,m3,m4,m5,m6,m7,m8,e2,r_a0,r_a1,r_a2,r_a3,r_a4,r_a5]
    have r_a7:=Eq.refl (fb c)
    conv at r_a7=>rhs;simp only [fb,cond_true,cond_false,Bool.cond_self,Bool.not_true,Bool.not_false,Bool.true_or,Bool.or_true,Bool.false_or,Bool.or_false,Bool.and_self,Bool.and_true,Bool.true_and,Bool.false_and,Bool.and_false,bne_self_eq_false,beq_self_eq_true,allT,hbig,hsrc,u0,u1,u2,u3,u4,u5,u6,u7,u8,u9,u10,u11,u12,u13,u14,u15,hN,i0,i1,i2,hc,hc0,hv,hv0,m0,m1,m2,m3,m4,m5,m6,m7,m8,e2,r_a0,r_a1,r_a2,r_a3,r_a4,r_a5,r_a6]
    have r_a8:=Eq.refl (bP c)
    conv at r_a8=>rhs;simp only [bP,cond_true,cond_false,Bool.cond_self,Bool.not_true,Bool.not_false,Bool.true_or,Bool.or_true,Bool.false_or,Bool.or_false,Bool.and_self,Bool.and_true,Bool.true_and,Bool.false_and,Bool.and_false,bne_self_eq_false,beq_self_eq_true,allT,hbig,hsrc,u0,u1,u2,u3,u4,u5,u6,u7,u8,u9,u10,u11,u12,u13,u14,u15,hN,i0,i1,i2,hc,hc0,hv,hv0,m0,m1,m2,m3,m4,m5,m6,m7,m8,e2,r_a0,r_a1,r_a2,r_a3,r_a4,r_a5,r_a6,r_a7]
    have r_a9:=Eq.refl (gH c)
    conv at r_a9=>rhs;simp only [gH,cond_true,cond_false,Bool.cond_self,Bool.not_true,Bool.not_false,Bool.true_or,Bool.or_true,Bool.false_or,Bool.or_false,Bool.and_self,Bool.and_true,Bool.true_and,Bool.false_and,Bool.and_false,bne_self_eq_false,beq_self_eq_true,allT,hbig,hsrc,u0,u1,u2,u3,u4,u5,u6,u7,u8,u9,u10,u11,u12,u13,u14,u15,hN,i0,i1,i2,hc,hc0,hv,hv0,m0,m1,m2,m3,m4,m5,m6,m7,m8,e2,r_a0,r_a1,r_a2,r_a3,r_a4,r_a5,r_a6,r_a7,r_a8]
    have r_a10:=Eq.refl (fk c)
    conv at r_a10=>rhs;simp only [fk,cond_true,cond_false,Bool.cond_self,Bool.not_true,Bool.not_false,Bool.true_or,Bool.or_true,Bool.false_or,Bool.or_false,Bool.and_self,Bool.and_true,Bool.true_and,Bool.false_and,Bool.and_false,bne_self_eq_false,beq_self_eq_true,allT,hbig,hsrc,u0,u1,u2,u3,u4,u5,u6,u7,u8,u9,u10,u11,u12,u13,u14,u15,hN,i0,i1,i2,hc,hc0,hv,hv0,m0,m1,m2,m3,m4,m5,m6,m7,m8,e2,r_a0,r_a1,r_a2,r_a3,r_a4,r_a5,r_a6,r_a7,r_a8,r_a9]
    have r_a11:=Eq.refl (fl c)
    conv at r_a11=>rhs;simp only [fl,cond_true,cond_false,Bool.cond_self,Bool.not_true,Bool.not_false,Bool.true_or,Bool.or_true,Bool.false_or,Bool.or_false,Bool.and_self,Bool.and_true,Bool.true_and,Bool.false_and,Bool.and_false,bne_self_eq_false,beq_self_eq_true,allT,hbig,hsrc,u0,u1,u2,u3,u4,u5,u6,u7,u8,u9,u10,u11,u12,u13,u14,u15,hN,i0,i1,i2,hc,hc0,hv,hv0,m0,m1,m2,m3,m4,m5,m6,m7,m8,e2,r_a0,r_a1,r_a2,r_a3,r_a4,r_a5,r_a6,r_a7,r_a8,r_a9,r_a10]
    have r_a12:=Eq.refl (fm c)
    conv at r_a12=>rhs;simp only [fm,cond_true,cond_false,Bool.cond_self,Bool.not_true,Bool.not_false,Bool.true_or,Bool.or_true,Bool.false_or,Bool.or_false,Bool.and_self,Bool.and_true,Bool.true_and,Bool.false_and,Bool.and_false,bne_self_eq_false,beq_self_eq_true,allT,hbig,hsrc,u0,u1,u2,u3,u4,u5,u6,u7,u8,u9,u10,u11,u12,u13,u14,u15,hN,i0,i1,i2,hc,hc0,hv,hv0,m0,m1,m2,m3,m4,m5,m6,m7,m8,e2,r_a0,r_a1,r_a2,r_a3,r_a4,r_a5,r_a6,r_a7,r_a8,r_a9,r_a10,r_a11]
    have r_a13:=Eq.refl (fo c)
    conv at r_a13=>rhs;simp only [fo,cond_true,cond_false,Bool.cond_self,Bool.not_true,Bool.not_false,Bool.true_or,Bool.or_true,Bool.false_or,Bool.or_false,Bool.and_self,Bool.and_true,Bool.true_and,Bool.false_and,Bool.and_false,bne_self_eq_false,beq_self_eq_true,allT,hbig,hsrc,u0,u1,u2,u3,u4,u5,u6,u7,u8,u9,u10,u11,u12,u13,u14,u15,hN,i0,i1,i2,hc,hc0,hv,hv0,m0,m1,m2,m3,m4,m5,m6,m7,m8,e2,r_a0,r_a1,r_a2,r_a3,r_a4,r_a5,r_a6,r_a7,r_a8,r_a9,r_a10,r_a11,r_a12]
    have r_a14:=Eq.refl (fq c)
    conv at r_a14=>rhs;simp only [fq,cond_true,cond_false,Bool.cond_self,Bool.not_true,Bool.not_false,Bool.true_or,Bool.or_true,Bool.false_or,Bool.or_false,Bool.and_self,Bool.and_true,Bool.true_and,Bool.false_and,Bool.and_false,bne_self_eq_false,beq_self_eq_true,allT,hbig,hsrc,u0,u1,u2,u3,u4,u5,u6,u7,u8,u9,u10,u11,u12,u13,u14,u15,hN,i0,i1,i2,hc,hc0,hv,hv0,m0,m1,m2,m3,m4,m5,m6,m7,m8,e2,r_a0,r_a1,r_a2,r_a3,r_a4,r_a5,r_a6,r_a7,r_a8,r_a9,r_a10,r_a11,r_a12,r_a13]
    have r_a15:=Eq.refl (cv c)
    conv at r_a15=>rhs;simp only [cv,cond_true,cond_false,Bool.cond_self,Bool.not_true,Bool.not_false,Bool.true_or,Bool.or_true,Bool.false_or,Bool.or_false,Bool.and_self,Bool.and_true,Bool.true_and,Bool.false_and,Bool.and_false,bne_self_eq_false,beq_self_eq_true,allT,hbig,hsrc,u0,u1,u2,u3,u4,u5,u6,u7,u8,u9,u10,u11,u12,u13,u14,u15,hN,i0,i1,i2,hc,hc0,hv,hv0,m0,m1,m2,m3,m4,m5,m6,m7,m8,e2,r_a0,r_a1,r_a2,r_a3,r_a4,r_a5,r_a6,r_a7,r_a8,r_a9,r_a10,r_a11,r_a12,r_a13,r_a14]
    have r_a16:=Eq.refl (ea c)
    conv at r_a16=>rhs;simp only [ea,cond_true,cond_false,Bool.cond_self,Bool.not_true,Bool.not_false,Bool.true_or,Bool.or_true,Bool.false_or,Bool.or_false,Bool.and_self,Bool.and_true,Bool.true_and,Bool.false_and,Bool.and_false,bne_self_eq_false,beq_self_eq_true,allT,hbig,hsrc,u0,u1,u2,u3,u4,u5,u6,u7,u8,u9,u10,u11,u12,u13,u14,u15,hN,i0,i1,i2,hc,hc0,hv,hv0,m0,m1,m2,m3,m4,m5,m6,m7,m8,e2,r_a0,r_a1,r_a2,r_a3,r_a4,r_a5,r_a6,r_a7,r_a8,r_a9,r_a10,r_a11,r_a12,r_a13,r_a14,r_a15]
    have r_a17:=Eq.refl (eb c)
    conv at r_a17=>rhs;simp only [eb,cond_true,cond_false,Bool.cond_self,Bool.not_true,Bool.not_false,Bool.true_or,Bool.or_true,Bool.false_or,Bool.or_false,Bool.and_self,Bool.and_true,Bool.true_and,Bool.false_and,Bool.and_false,bne_self_eq_false,beq_self_eq_true,allT,hbig,hsrc,u0,u1,u2,u3,u4,u5,u6,u7,u8,u9,u10,u11,u12,u13,u14,u15,hN,i0,i1,i2,hc,hc0,hv,hv0,m0,m1,m2,m3,m4,m5,m6,m7,m8,e2,r_a0,r_a1,r_a2,r_a3,r_a4,r_a5,r_a6,r_a7,r_a8,r_a9,r_a10,r_a11,r_a12,r_a13,r_a14,r_a15,r_a16]
    have r_a18:=Eq.refl (ec c)
    conv at r_a18=>rhs;simp only [ec,cond_true,cond_false,Bool.cond_self,Bool.not_true,Bool.not_false,Bool.true_or,Bool.or_true,Bool.false_or,Bool.or_false,Bool.and_self,Bool.and_true,Bool.true_and,Bool.false_and,Bool.and_false,bne_self_eq_false,beq_self_eq_true,allT,hbig,hsrc,u0,u1,u2,u3,u4,u5,u6,u7,u8,u9,u10,u11,u12,u13,u14,u15,hN,i0,i1,i2,hc,hc0,hv,hv0,m0,m1,m2,m3,m4,m5,m6,m7,m8,e2,r_a0,r_a1,r_a2,r_a3,r_a4,r_a5,r_a6,r_a7,r_a8,r_a9,r_a10,r_a11,r_a12,r_a13,r_a14,r_a15,r_a16,r_a17]
    refine⟨?_,?_⟩ <;> simp only [pH,pI,cond_true,cond_false,Bool.cond_self,Bool.not_true,Bool.not_false,Bool.true_or,Bool.or_true,Bool.false_or,Bool.or_false,Bool.and_self,Bool.and_true,Bool.true_and,Bool.false_and,Bool.and_false,bne_self_eq_false,beq_self_eq_true,allT,hbig,hsrc,u0,u1,u2,u3,u4,u5,u6,u7,u8,u9,u10,u11,u12,u13,u14,u15,hN,i0,i1,i2,hc,hc0,hv,hv0,m0,m1,m2,m3,m4,m5,m6,m7,m8,e2,r_a0,r_a1,r_a2,r_a3,r_a4,r_a5,r_a6,r_a7,r_a8,r_a9,r_a10,r_a11,r_a12,r_a13,r_a14,r_a15,r_a16,r_a17,r_a18]
   |false=>
    have v0:(stV n mode day ps fs rs lf pl ls k t rk row ck role key)=0:=by simpa [bne] using hv0
    cases hk:k !=0 with
    |true=>
     have r_a0:=Eq.refl (al c)
     conv at r_a0=>rhs;simp only [al,cond_true,cond_false,Bool.cond_self,Bool.not_true,Bool.not_false,Bool.true_or,Bool.or_true,Bool.false_or,Bool.or_false,Bool.and_self,Bool.and_true,Bool.true_and,Bool.false_and,Bool.and_false,bne_self_eq_false,beq_self_eq_true,allT,hbig,hsrc,u0,u1,u2,u3,u4,u5,u6,u7,u8,u9,u10,u11,u12,u13,u14,u15,hN,e1,nS,i0,i1,i2,hc,hc0,hv,hv0,hk]
     have r_a1:=Eq.refl (bB c)
     conv at r_a1=>rhs;simp only [bB,cond_true,cond_false,Bool.cond_self,Bool.not_true,Bool.not_false,Bool.true_or,Bool.or_true,Bool.false_or,Bool.or_false,Bool.and_self,Bool.and_true,Bool.true_and,Bool.false_and,Bool.and_false,bne_self_eq_false,beq_self_eq_true,allT,hbig,hsrc,u0,u1,u2,u3,u4,u5,u6,u7,u8,u9,u10,u11,u12,u13,u14,u15,hN,e1,nS,i0,i1,i2,hc,hc0,hv,hv0,hk,r_a0]
     have r_a2:=Eq.refl (bC c)
     conv at r_a2=>rhs;simp only [bC,cond_true,cond_false,Bool.cond_self,Bool.not_true,Bool.not_false,Bool.true_or,Bool.or_true,Bool.false_or,Bool.or_false,Bool.and_self,Bool.and_true,Bool.true_and,Bool.false_and,Bool.and_false,bne_self_eq_false,beq_self_eq_true,allT,hbig,hsrc,u0,u1,u2,u3,u4,u5,u6,u7,u8,u9,u10,u11,u12,u13,u14,u15,hN,e1,nS,i0,i1,i2,hc,hc0,hv,hv0,hk,r_a0,r_a1]
     have r_a3:=Eq.refl (bV c)
     conv at r_a3=>rhs;simp only [bV,cond_true,cond_false,Bool.cond_self,Bool.not_true,Bool.not_false,Bool.true_or,Bool.or_true,Bool.false_or,Bool.or_false,Bool.and_self,Bool.and_true,Bool.true_and,Bool.false_and,Bool.and_false,bne_self_eq_false,beq_self_eq_true,allT,hbig,hsrc,u0,u1,u2,u3,u4,u5,u6,u7,u8,u9,u10,u11,u12,u13,u14,u15,hN,e1,nS,i0,i1,i2,hc,hc0,hv,hv0,hk,r_a0,r_a1,r_a2]
     have r_a4:=Eq.refl (eY c)
     conv at r_a4=>rhs;simp only [eY,cond_true,cond_false,Bool.cond_self,Bool.not_true,Bool.not_false,Bool.true_or,Bool.or_true,Bool.false_or,Bool.or_false,Bool.and_self,Bool.and_true,Bool.true_and,Bool.false_and,Bool.and_false,bne_self_eq_false,beq_self_eq_true,allT,hbig,hsrc,u0,u1,u2,u3,u4,u5,u6,u7,u8,u9,u10,u11,u12,u13,u14,u15,hN,e1,nS,i0,i1,i2,hc,hc0,hv,hv0,hk,r_a0,r_a1,r_a2,r_a3]
     have r_a5:=Eq.refl (eZ c)
     conv at r_a5=>rhs;simp only [eZ,cond_true,cond_false,Bool.cond_self,Bool.not_true,Bool.not_false,Bool.true_or,Bool.or_true,Bool.false_or,Bool.or_false,Bool.and_self,Bool.and_true,Bool.true_and,Bool.false_and,Bool.and_false,bne_self_eq_false,beq_self_eq_true,allT,hbig,hsrc,u0,u1,u2,u3,u4,u5,u6,u7,u8,u9,u10,u11,u12,u13,u14,u15,hN,e1,nS,i0,i1,i2,hc,hc0,hv,hv0,hk,r_a0,r_a1,r_a2,r_a3,r_a4]
     have r_a6:=Eq.refl (fa c)
     conv at r_a6=>rhs;simp only [fa,cond_true,cond_false,Bool.cond_self,Bool.not_true,Bool.not_false,Bool.true_or,Bool.or_true,Bool.false_or,Bool.or_false,Bool.and_self,Bool.and_true,Bool.true_and,Bool.false_and,Bool.and_false,bne_self_eq_false,beq_self_eq_true,allT,hbig,hsrc,u0,u1,u2,u3,u4,u5,u6,u7,u8,u9,u10,u11,u12,u13,u14,u15,hN,e1,nS,i0,i1,i2,hc,hc0,hv,hv0,hk,r_a0,r_a1,r_a2,r_a3,r_a4,r_a5]
     have r_a7:=Eq.refl (fb c)
     conv at r_a7=>rhs;simp only [fb,cond_true,cond_false,Bool.cond_self,Bool.not_true,Bool.not_false,Bool.true_or,Bool.or_true,Bool.false_or,Bool.or_false,Bool.and_self,Bool.and_true,Bool.true_and,Bool.false_and,Bool.and_false,bne_self_eq_false,beq_self_eq_true,allT,hbig,hsrc,u0,u1,u2,u3,u4,u5,u6,u7,u8,u9,u10,u11,u12,u13,u14,u15,hN,e1,nS,i0,i1,i2,hc,hc0,hv,hv0,hk,r_a0,r_a1,r_a2,r_a3,r_a4,r_a5,r_a6]
     have r_a8:=Eq.refl (bP c)
     conv at r_a8=>rhs;simp only [bP,cond_true,cond_false,Bool.cond_self,Bool.not_true,Bool.not_false,Bool.true_or,Bool.or_true,Bool.false_or,Bool.or_false,Bool.and_self,Bool.and_true,Bool.true_and,Bool.false_and,Bool.and_false,bne_self_eq_false,beq_self_eq_true,allT,hbig,hsrc,u0,u1,u2,u3,u4,u5,u6,u7,u8,u9,u10,u11,u12,u13,u14,u15,hN,e1,nS,i0,i1,i2,hc,hc0,hv,hv0,hk,r_a0,r_a1,r_a2,r_a3,r_a4,r_a5,r_a6,r_a7]
     have r_a9:=Eq.refl (gH c)
     conv at r_a9=>rhs;simp only [gH,cond_true,cond_false,Bool.cond_self,Bool.not_true,Bool.not_false,Bool.true_or,Bool.or_true,Bool.false_or,Bool.or_false,Bool.and_self,Bool.and_true,Bool.true_and,Bool.false_and,Bool.and_false,bne_self_eq_false,beq_self_eq_true,allT,hbig,hsrc,u0,u1,u2,u3,u4,u5,u6,u7,u8,u9,u10,u11,u12,u13,u14,u15,hN,e1,nS,i0,i1,i2,hc,hc0,hv,hv0,hk,r_a0,r_a1,r_a2,r_a3,r_a4,r_a5,r_a6,r_a7,r_a8]
     have r_a10:=Eq.refl (fk c)
     conv at r_a10=>rhs;simp only [fk,cond_true,cond_false,Bool.cond_self,Bool.not_true,Bool.not_false,Bool.true_or,Bool.or_true,Bool.false_or,Bool.or_false,Bool.and_self,Bool.and_true,Bool.true_and,Bool.false_and,Bool.and_false,bne_self_eq_false,beq_self_eq_true,allT,hbig,hsrc,u0,u1,u2,u3,u4,u5,u6,u7,u8,u9,u10,u11,u12,u13,u14,u15,hN,e1,nS,i0,i1,i2,hc,hc0,hv,hv0,hk,r_a0,r_a1,r_a2,r_a3,r_a4,r_a5,r_a6,r_a7,r_a8,r_a9]
     have r_a11:=Eq.refl (fl c)
     conv at r_a11=>rhs;simp only [fl,cond_true,cond_false,Bool.cond_self,Bool.not_true,Bool.not_false,Bool.true_or,Bool.or_true,Bool.false_or,Bool.or_false,Bool.and_self,Bool.and_true,Bool.true_and,Bool.false_and,Bool.and_false,bne_self_eq_false,beq_self_eq_true,allT,hbig,hsrc,u0,u1,u2,u3,u4,u5,u6,u7,u8,u9,u10,u11,u12,u13,u14,u15,hN,e1,nS,i0,i1,i2,hc,hc0,hv,hv0,hk,r_a0,r_a1,r_a2,r_a3,r_a4,r_a5,r_a6,r_a7,r_a8,r_a9,r_a10]
     have r_a12:=Eq.refl (fm c)
     conv at r_a12=>rhs;simp only [fm,cond_true,cond_false,Bool.cond_self,Bool.not_true,Bool.not_false,Bool.true_or,Bool.or_true,Bool.false_or,Bool.or_false,Bool.and_self,Bool.and_true,Bool.true_and,Bool.false_and,Bool.and_false,bne_self_eq_false,beq_self_eq_true,allT,hbig,hsrc,u0,u1,u2,u3,u4,u5,u6,u7,u8,u9,u10,u11,u12,u13,u14,u15,hN,e1,nS,i0,i1,i2,hc,hc0,hv,hv0,hk,r_a0,r_a1,r_a2,r_a3,r_a4,r_a5,r_a6,r_a7,r_a8,r_a9,r_a10,r_a11]
     have r_a13:=Eq.refl (fo c)
     conv at r_a13=>rhs;simp only [fo,cond_true,cond_false,Bool.cond_self,Bool.not_true,Bool.not_false,Bool.true_or,Bool.or_true,Bool.false_or,Bool.or_false,Bool.and_self,Bool.and_true,Bool.true_and,Bool.false_and,Bool.and_false,bne_self_eq_false,beq_self_eq_true,allT,hbig,hsrc,u0,u1,u2,u3,u4,u5,u6,u7,u8,u9,u10,u11,u12,u13,u14,u15,hN,e1,nS,i0,i1,i2,hc,hc0,hv,hv0,hk,r_a0,r_a1,r_a2,r_a3,r_a4,r_a5,r_a6,r_a7,r_a8,r_a9,r_a10,r_a11,r_a12]
     have r_a14:=Eq.refl (fq c)
     conv at r_a14=>rhs;simp only [fq,cond_true,cond_false,Bool.cond_self,Bool.not_true,Bool.not_false,Bool.true_or,Bool.or_true,Bool.false_or,Bool.or_false,Bool.and_self,Bool.and_true,Bool.true_and,Bool.false_and,Bool.and_false,bne_self_eq_false,beq_self_eq_true,allT,hbig,hsrc,u0,u1,u2,u3,u4,u5,u6,u7,u8,u9,u10,u11,u12,u13,u14,u15,hN,e1,nS,i0,i1,i2,hc,hc0,hv,hv0,hk,r_a0,r_a1,r_a2,r_a3,r_a4,r_a5,r_a6,r_a7,r_a8,r_a9,r_a10,r_a11,r_a12,r_a13]
     have r_a15:=Eq.refl (cv c)
     conv at r_a15=>rhs;simp only [cv,cond_true,cond_false,Bool.cond_self,Bool.not_true,Bool.not_false,Bool.true_or,Bool.or_true,Bool.false_or,Bool.or_false,Bool.and_self,Bool.and_true,Bool.true_and,Bool.false_and,Bool.and_false,bne_self_eq_false,beq_self_eq_true,allT,hbig,hsrc,u0,u1,u2,u3,u4,u5,u6,u7,u8,u9,u10,u11,u12,u13,u14,u15,hN,e1,nS,i0,i1,i2,hc,hc0,hv,hv0,hk,r_a0,r_a1,r_a2,r_a3,r_a4,r_a5,r_a6,r_a7,r_a8,r_a9,r_a10,r_a11,r_a12,r_a13,r_a14]
     have r_a16:=Eq.refl (ea c)
     conv at r_a16=>rhs;simp only [ea,cond_true,cond_false,Bool.cond_self,Bool.not_true,Bool.not_false,Bool.true_or,Bool.or_true,Bool.false_or,Bool.or_false,Bool.and_self,Bool.and_true,Bool.true_and,Bool.false_and,Bool.and_false,bne_self_eq_false,beq_self_eq_true,allT,hbig,hsrc,u0,u1,u2,u3,u4,u5,u6,u7,u8,u9,u10,u11,u12,u13,u14,u15,hN,e1,nS,i0,i1,i2,hc,hc0,hv,hv0,hk,r_a0,r_a1,r_a2,r_a3,r_a4,r_a5,r_a6,r_a7,r_a8,r_a9,r_a10,r_a11,r_a12,r_a13,r_a14,r_a15]
     have r_a17:=Eq.refl (eb c)
     conv at r_a17=>rhs;simp only [eb,cond_true,cond_false,Bool.cond_self,Bool.not_true,Bool.not_false,Bool.true_or,Bool.or_true,Bool.false_or,Bool.or_false,Bool.and_self,Bool.and_true,Bool.true_and,Bool.false_and,Bool.and_false,bne_self_eq_false,beq_self_eq_true,allT,hbig,hsrc,u0,u1,u2,u3,u4,u5,u6,u7,u8,u9,u10,u11,u12,u13,u14,u15,hN,e1,nS,i0,i1,i2,hc,hc0,hv,hv0,hk,r_a0,r_a1,r_a2,r_a3,r_a4,r_a5,r_a6,r_a7,r_a8,r_a9,r_a10,r_a11,r_a12,r_a13,r_a14,r_a15,r_a16]
     have r_a18:=Eq.refl (ec c)
     conv at r_a18=>rhs;simp only [ec,cond_true,cond_false,Bool.cond_self,Bool.not_true,Bool.not_false,Bool.true_or,Bool.or_true,Bool.false_or,Bool.or_false,Bool.and_self,Bool.and_true,Bool.true_and,Bool.false_and,Bool.and_false,bne_self_eq_false,beq_self_eq_true,allT,hbig,hsrc,u0,u1,u2,u3,u4,u5,u6,u7,u8,u9,u10,u11,u12,u13,u14,u15,hN,e1,nS,i0,i1,i2,hc,hc0,hv,hv0,hk,r_a0,r_a1,r_a2,r_a3,r_a4,r_a5,r_a6,r_a7,r_a8,r_a9,r_a10,r_a11,r_a12,r_a13,r_a14,r_a15,r_a16,r_a17]
     refine⟨?_,?_⟩ <;> simp only [pH,pI,cond_true,cond_false,Bool.cond_self,Bool.not_true,Bool.not_false,Bool.true_or,Bool.or_true,Bool.false_or,Bool.or_false,Bool.and_self,Bool.and_true,Bool.true_and,Bool.false_and,Bool.and_false,bne_self_eq_false,beq_self_eq_true,allT,hbig,hsrc,u0,u1,u2,u3,u4,u5,u6,u7,u8,u9,u10,u11,u12,u13,u14,u15,hN,e1,nS,i0,i1,i2,hc,hc0,hv,hv0,hk,r_a0,r_a1,r_a2,r_a3,r_a4,r_a5,r_a6,r_a7,r_a8,r_a9,r_a10,r_a11,r_a12,r_a13,r_a14,r_a15,r_a16,r_a17,r_a18]
    |false=>
     have k0:k=0:=by simpa [bne] using hk
     subst k0
     have ht:LF ps t=true:=by
      rcases Se hx with⟨_,h⟩ | ⟨h,_⟩ | ⟨h,_⟩
      ·exact h
      ·cases h
      ·cases h
     obtain⟨t1,t2,t3,t4,t5⟩:=f.tn ht
     obtain⟨w1,w2,w3⟩:=f.rd ht
     have hn:=f.n1
     have hw:IntKind.i64.wrap (IntKind.i64.wrap (3 * n) - 2)=3 * n - 2:=by rw [aj (x:=3 * n) (by omega) (by omega),aj (by omega) (by omega)]
     have hA:=(DU.1 w2).1
     obtain⟨j1,j2,j3⟩:=am5 w1 (by omega) (by have:=f.llf;omega)
     cases hp:ps[t.toNat]?.getD 0 !=3 * n - 2 with
     |true=>
      have r_a0:=Eq.refl (al c)
      conv at r_a0=>rhs;simp only [al,cond_true,cond_false,Bool.cond_self,Bool.not_true,Bool.not_false,Bool.true_or,Bool.or_true,Bool.false_or,Bool.or_false,Bool.and_self,Bool.and_true,Bool.true_and,Bool.false_and,Bool.and_false,bne_self_eq_false,beq_self_eq_true,allT,hbig,hsrc,u0,u1,u2,u3,u4,u5,u6,u7,u8,u9,u10,u11,u12,u13,u14,u15,hN,e1,nS,i0,i1,i2,hc,hc0,hv,hv0,hk,hw,hp,t1,t2,t3,t4,t5]
      have r_a1:=Eq.refl (bB c)
      conv at r_a1=>rhs;simp only [bB,cond_true,cond_false,Bool.cond_self,Bool.not_true,Bool.not_false,Bool.true_or,Bool.or_true,Bool.false_or,Bool.or_false,Bool.and_self,Bool.and_true,Bool.true_and,Bool.false_and,Bool.and_false,bne_self_eq_false,beq_self_eq_true,allT,hbig,hsrc,u0,u1,u2,u3,u4,u5,u6,u7,u8,u9,u10,u11,u12,u13,u14,u15,hN,e1,nS,i0,i1,i2,hc,hc0,hv,hv0,hk,hw,hp,t1,t2,t3,t4,t5,r_a0]
      have r_a2:=Eq.refl (bC c)
      conv at r_a2=>rhs;simp only [bC,cond_true,cond_false,Bool.cond_self,Bool.not_true,Bool.not_false,Bool.true_or,Bool.or_true,Bool.false_or,Bool.or_false,Bool.and_self,Bool.and_true,Bool.true_and,Bool.false_and,Bool.and_false,bne_self_eq_false,beq_self_eq_true,allT,hbig,hsrc,u0,u1,u2,u3,u4,u5,u6,u7,u8,u9,u10,u11,u12,u13,u14,u15,hN,e1,nS,i0,i1,i2,hc,hc0,hv,hv0,hk,hw,hp,t1,t2,t3,t4,t5,r_a0,r_a1]
      have r_a3:=Eq.refl (bV c)
      conv at r_a3=>rhs;simp only [bV,cond_true,cond_false,Bool.cond_self,Bool.not_true,Bool.not_false,Bool.true_or,Bool.or_true,Bool.false_or,Bool.or_false,Bool.and_self,Bool.and_true,Bool.true_and,Bool.false_and,Bool.and_false,bne_self_eq_false,beq_self_eq_true,allT,hbig,hsrc,u0,u1,u2,u3,u4,u5,u6,u7,u8,u9,u10,u11,u12,u13,u14,u15,hN,e1,nS,i0,i1,i2,hc,hc0,hv,hv0,hk,hw,hp,t1,t2,t3,t4,t5,r_a0,r_a1,r_a2]
      have r_a4:=Eq.refl (eY c)
      conv at r_a4=>rhs;simp only [eY,cond_true,cond_false,Bool.cond_self,Bool.not_true,Bool.not_false,Bool.true_or,Bool.or_true,Bool.false_or,Bool.or_false,Bool.and_self,Bool.and_true,Bool.true_and,Bool.false_and,Bool.and_false,bne_self_eq_false,beq_self_eq_true,allT,hbig,hsrc,u0,u1,u2,u3,u4,u5,u6,u7,u8,u9,u10,u11,u12,u13,u14,u15,hN,e1,nS,i0,i1,i2,hc,hc0,hv,hv0,hk,hw,hp,t1,t2,t3,t4,t5,r_a0,r_a1,r_a2,r_a3]
      have r_a5:=Eq.refl (eZ c)
      conv at r_a5=>rhs;simp only [eZ,cond_true,cond_false,Bool.cond_self,Bool.not_true,Bool.not_false,Bool.true_or,Bool.or_true,Bool.false_or,Bool.or_false,Bool.and_self,Bool.and_true,Bool.true_and,Bool.false_and,Bool.and_false,bne_self_eq_false,beq_self_eq_true,allT,hbig,hsrc,u0,u1,u2,u3,u4,u5,u6,u7,u8,u9,u10,u11,u12,u13,u14,u15,hN,e1,nS,i0,i1,i2,hc,hc0,hv,hv0,hk,hw,hp,t1,t2,t3,t4,t5,r_a0,r_a1,r_a2,r_a3,r_a4]
      have r_a6:=Eq.refl (fa c)
      conv at r_a6=>rhs;simp only [fa,cond_true,cond_false,Bool.cond_self,Bool.not_true,Bool.not_false,Bool.true_or,Bool.or_true,Bool.false_or,Bool.or_false,Bool.and_self,Bool.and_true,Bool.true_and,Bool.false_and,Bool.and_false,bne_self_eq_false,beq_self_eq_true,allT,hbig,hsrc,u0,u1,u2,u3,u4,u5,u6,u7,u8,u9,u10,u11,u12,u13,u14,u15,hN,e1,nS,i0,i1,i2,hc,hc0,hv,hv0,hk,hw,hp,t1,t2,t3,t4,t5,r_a0,r_a1,r_a2,r_a3,r_a4,r_a5]
      have r_a7:=Eq.refl (fb c)
      conv at r_a7=>rhs;simp only [fb,cond_true,cond_false,Bool.cond_self,Bool.not_true,Bool.not_false,Bool.true_or,Bool.or_true,Bool.false_or,Bool.or_false,Bool.and_self,Bool.and_true,Bool.true_and,Bool.false_and,Bool.and_false,bne_self_eq_false,beq_self_eq_true,allT,hbig,hsrc,u0,u1,u2,u3,u4,u5,u6,u7,u8,u9,u10,u11,u12,u13,u14,u15,hN,e1,nS,i0,i1,i2,hc,hc0,hv,hv0,hk,hw,hp,t1,t2,t3,t4,t5,r_a0,r_a1,r_a2,r_a3,r_a4,r_a5,r_a6]
      have r_a8:=Eq.refl (bP c)
      conv at r_a8=>rhs;simp only [bP,cond_true,cond_false,Bool.cond_self,Bool.not_true,Bool.not_false,Bool.true_or,Bool.or_true,Bool.false_or,Bool.or_false,Bool.and_self,Bool.and_true,Bool.true_and,Bool.false_and,Bool.and_false,bne_self_eq_false,beq_self_eq_true,allT,hbig,hsrc,u0,u1,u2,u3,u4,u5,u6,u7,u8,u9,u10,u11,u12,u13,u14,u15,hN,e1,nS,i0,i1,i2,hc,hc0,hv,hv0,hk,hw,hp,t1,t2,t3,t4,t5,r_a0,r_a1,r_a2,r_a3,r_a4,r_a5,r_a6,r_a7]
      have r_a9:=Eq.refl (gH c)
      conv at r_a9=>rhs;simp only [gH,cond_true,cond_false,Bool.cond_self,Bool.not_true,Bool.not_false,Bool.true_or,Bool.or_true,Bool.false_or,Bool.or_false,Bool.and_self,Bool.and_true,Bool.true_and,Bool.false_and,Bool.and_false,bne_self_eq_false,beq_self_eq_true,allT,hbig,hsrc,u0,u1,u2,u3,u4,u5,u6,u7,u8,u9,u10,u11,u12,u13,u14,u15,hN,e1,nS,i0,i1,i2,hc,hc0,hv,hv0,hk,hw,hp,t1,t2,t3,t4,t5,r_a0,r_a1,r_a2,r_a3,r_a4,r_a5,r_a6,r_a7,r_a8]
      have r_a10:=Eq.refl (fk c)
      conv at r_a10=>rhs;simp only [fk,cond_true,cond_false,Bool.cond_self,Bool.not_true,Bool.not_false,Bool.true_or,Bool.or_true,Bool.false_or,Bool.or_false,Bool.and_self,Bool.and_true,Bool.true_and,Bool.false_and,Bool.and_false,bne_self_eq_false,beq_self_eq_true,allT,hbig,hsrc,u0,u1,u2,u3,u4,u5,u6,u7,u8,u9,u10,u11,u12,u13,u14,u15,hN,e1,nS,i0,i1,i2,hc,hc0,hv,hv0,hk,hw,hp,t1,t2,t3,t4,t5,r_a0,r_a1,r_a2,r_a3,r_a4,r_a5,r_a6,r_a7,r_a8,r_a9]
      have r_a11:=Eq.refl (fl c)
      conv at r_a11=>rhs;simp only [fl,cond_true,cond_false,Bool.cond_self,Bool.not_true,Bool.not_false,Bool.true_or,Bool.or_true,Bool.false_or,Bool.or_false,Bool.and_self,Bool.and_true,Bool.true_and,Bool.false_and,Bool.and_false,bne_self_eq_false,beq_self_eq_true,allT,hbig,hsrc,u0,u1,u2,u3,u4,u5,u6,u7,u8,u9,u10,u11,u12,u13,u14,u15,hN,e1,nS,i0,i1,i2,hc,hc0,hv,hv0,hk,hw,hp,t1,t2,t3,t4,t5,r_a0,r_a1,r_a2,r_a3,r_a4,r_a5,r_a6,r_a7,r_a8,r_a9,r_a10]
      have r_a12:=Eq.refl (fm c)
      conv at r_a12=>rhs;simp only [fm,cond_true,cond_false,Bool.cond_self,Bool.not_true,Bool.not_false,Bool.true_or,Bool.or_true,Bool.false_or,Bool.or_false,Bool.and_self,Bool.and_true,Bool.true_and,Bool.false_and,Bool.and_false,bne_self_eq_false,beq_self_eq_true,allT,hbig,hsrc,u0,u1,u2,u3,u4,u5,u6,u7,u8,u9,u10,u11,u12,u13,u14,u15,hN,e1,nS,i0,i1,i2,hc,hc0,hv,hv0,hk,hw,hp,t1,t2,t3,t4,t5,r_a0,r_a1,r_a2,r_a3,r_a4,r_a5,r_a6,r_a7,r_a8,r_a9,r_a10,r_a11]
      have r_a13:=Eq.refl (fo c)
      conv at r_a13=>rhs;simp only [fo,cond_true,cond_false,Bool.cond_self,Bool.not_true,Bool.not_false,Bool.true_or,Bool.or_true,Bool.false_or,Bool.or_false,Bool.and_self,Bool.and_true,Bool.true_and,Bool.false_and,Bool.and_false,bne_self_eq_false,beq_self_eq_true,allT,hbig,hsrc,u0,u1,u2,u3,u4,u5,u6,u7,u8,u9,u10,u11,u12,u13,u14,u15,hN,e1,nS,i0,i1,i2,hc,hc0,hv,hv0,hk,hw,hp,t1,t2,t3,t4,t5,r_a0,r_a1,r_a2,r_a3,r_a4,r_a5,r_a6,r_a7,r_a8,r_a9,r_a10,r_a11,r_a12]
      have r_a14:=Eq.refl (fq c)
      conv at r_a14=>rhs;simp only [fq,cond_true,cond_false,Bool.cond_self,Bool.not_true,Bool.not_false,Bool.true_or,Bool.or_true,Bool.false_or,Bool.or_false,Bool.and_self,Bool.and_true,Bool.true_and,Bool.false_and,Bool.and_false,bne_self_eq_false,beq_self_eq_true,allT,hbig,hsrc,u0,u1,u2,u3,u4,u5,u6,u7,u8,u9,u10,u11,u12,u13,u14,u15,hN,e1,nS,i0,i1,i2,hc,hc0,hv,hv0,hk,hw,hp,t1,t2,t3,t4,t5,r_a0,r_a1,r_a2,r_a3,r_a4,r_a5,r_a6,r_a7,r_a8,r_a9,r_a10,r_a11,r_a12,r_a13]
      have r_a15:=Eq.refl (cv c)
      conv at r_a15=>rhs;simp only [cv,cond_true,cond_false,Bool.cond_self,Bool.not_true,Bool.not_false,Bool.true_or,Bool.or_true,Bool.false_or,Bool.or_false,Bool.and_self,Bool.and_true,Bool.true_and,Bool.false_and,Bool.and_false,bne_self_eq_false,beq_self_eq_true,allT,hbig,hsrc,u0,u1,u2,u3,u4,u5,u6,u7,u8,u9,u10,u11,u12,u13,u14,u15,hN,e1,nS,i0,i1,i2,hc,hc0,hv,hv0,hk,hw,hp,t1,t2,t3,t4,t5,r_a0,r_a1,r_a2,r_a3,r_a4,r_a5,r_a6,r_a7,r_a8,r_a9,r_a10,r_a11,r_a12,r_a13,r_a14]
      have r_a16:=Eq.refl (ea c)
      conv at r_a16=>rhs;simp only [ea,cond_true,cond_false,Bool.cond_self,Bool.not_true,Bool.not_false,Bool.true_or,Bool.or_true,Bool.false_or,Bool.or_false,Bool.and_self,Bool.and_true,Bool.true_and,Bool.false_and,Bool.and_false,bne_self_eq_false,beq_self_eq_true,allT,hbig,hsrc,u0,u1,u2,u3,u4,u5,u6,u7,u8,u9,u10,u11,u12,u13,u14,u15,hN,e1,nS,i0,i1,i2,hc,hc0,hv,hv0,hk,hw,hp,t1,t2,t3,t4,t5,r_a0,r_a1,r_a2,r_a3,r_a4,r_a5,r_a6,r_a7,r_a8,r_a9,r_a10,r_a11,r_a12,r_a13,r_a14,r_a15]
      have r_a17:=Eq.refl (eb c)
      conv at r_a17=>rhs;simp only [eb,cond_true,cond_false,Bool.cond_self,Bool.not_true,Bool.not_false,Bool.true_or,Bool.or_true,Bool.false_or,Bool.or_false,Bool.and_self,Bool.and_true,Bool.true_and,Bool.false_and,Bool.and_false,bne_self_eq_false,beq_self_eq_true,allT,hbig,hsrc,u0,u1,u2,u3,u4,u5,u6,u7,u8,u9,u10,u11,u12,u13,u14,u15,hN,e1,nS,i0,i1,i2,hc,hc0,hv,hv0,hk,hw,hp,t1,t2,t3,t4,t5,r_a0,r_a1,r_a2,r_a3,r_a4,r_a5,r_a6,r_a7,r_a8,r_a9,r_a10,r_a11,r_a12,r_a13,r_a14,r_a15,r_a16]
      have r_a18:=Eq.refl (ec c)
      conv at r_a18=>rhs;simp only [ec,cond_true,cond_false,Bool.cond_self,Bool.not_true,Bool.not_false,Bool.true_or,Bool.or_true,Bool.false_or,Bool.or_false,Bool.and_self,Bool.and_true,Bool.true_and,Bool.false_and,Bool.and_false,bne_self_eq_false,beq_self_eq_true,allT,hbig,hsrc,u0,u1,u2,u3,u4,u5,u6,u7,u8,u9,u10,u11,u12,u13,u14,u15,hN,e1,nS,i0,i1,i2,hc,hc0,hv,hv0,hk,hw,hp,t1,t2,t3,t4,t5,r_a0,r_a1,r_a2,r_a3,r_a4,r_a5,r_a6,r_a7,r_a8,r_a9,r_a10,r_a11,r_a12,r_a13,r_a14,r_a15,r_a16,r_a17]
      refine⟨?_,?_⟩ <;> simp only [pH,pI,cond_true,cond_false,Bool.cond_self,Bool.not_true,Bool.not_false,Bool.true_or,Bool.or_true,Bool.false_or,Bool.or_false,Bool.and_self,Bool.and_true,Bool.true_and,Bool.false_and,Bool.and_false,bne_self_eq_false,beq_self_eq_true,allT,hbig,hsrc,u0,u1,u2,u3,u4,u5,u6,u7,u8,u9,u10,u11,u12,u13,u14,u15,hN,e1,nS,i0,i1,i2,hc,hc0,hv,hv0,hk,hw,hp,t1,t2,t3,t4,t5,r_a0,r_a1,r_a2,r_a3,r_a4,r_a5,r_a6,r_a7,r_a8,r_a9,r_a10,r_a11,r_a12,r_a13,r_a14,r_a15,r_a16,r_a17,r_a18]
     |false=>
      have hp0:ps[t.toNat]?.getD 0=3 * n - 2:=by simpa [bne] using hp
      have hV:abg n mode ps fs rs lf t=0:=v0
      have hm3:(Int.tmod (3 * n - 2) 3==1)=true:=by rw [Int.tmod_eq_emod_of_nonneg (by omega)];exact beq_iff_eq.2 (by omega)
      have hst:Mw n t ps=true:=by
       simp only [Mw,cZ,hp0]
       rw [aj (x:=n - 1) (by omega) (by omega),aj (x:=3 * (n - 1)) (by omega) (by omega),aj (by omega) (by omega)]
       exact beq_iff_eq.2 (by omega)
      have hfin:(mode==3)=true∧Qg (rs[t.toNat]?.getD []) lf=true:=by
       simp only [abg,hp0,hm3,hst,Bool.not_true,cond_false,Bool.true_and]at hV
       cases h1:mode==3 <;> cases h2:adD n ps (DD n ps fs 0) (DD n ps fs 1) t <;> cases h3:Qg (rs[t.toNat]?.getD []) lf <;> simp [bne,h1,h2,h3]at hV ⊢
      obtain⟨z1,z2⟩:=hfin
      have r_a0:=Eq.refl (al c)
      conv at r_a0=>rhs;simp only [al,cond_true,cond_false,Bool.cond_self,Bool.not_true,Bool.not_false,Bool.true_or,Bool.or_true,Bool.false_or,Bool.or_false,Bool.and_self,Bool.and_true,Bool.true_and,Bool.false_and,Bool.and_false,bne_self_eq_false,beq_self_eq_true,allT,hbig,hsrc,u0,u1,u2,u3,u4,u5,u6,u7,u8,u9,u10,u11,u12,u13,u14,u15,hN,e1,nS,i0,i1,i2,hc,hc0,hv,hv0,hk,hw,hp,t1,t2,t3,t4,t5,j1,j2,j3,z1,z2,jT]
      have r_a1:=Eq.refl (bB c)
      conv at r_a1=>rhs;simp only [bB,cond_true,cond_false,Bool.cond_self,Bool.not_true,Bool.not_false,Bool.true_or,Bool.or_true,Bool.false_or,Bool.or_false,Bool.and_self,Bool.and_true,Bool.true_and,Bool.false_and,Bool.and_false,bne_self_eq_false,beq_self_eq_true,allT,hbig,hsrc,u0,u1,u2,u3,u4,u5,u6,u7,u8,u9,u10,u11,u12,u13,u14,u15,hN,e1,nS,i0,i1,i2,hc,hc0,hv,hv0,hk,hw,hp,t1,t2,t3,t4,t5,j1,j2,j3,z1,z2,jT,r_a0]
      have r_a2:=Eq.refl (bC c)
      conv at r_a2=>rhs;simp only [bC,cond_true,cond_false,Bool.cond_self,Bool.not_true,Bool.not_false,Bool.true_or,Bool.or_true,Bool.false_or,Bool.or_false,Bool.and_self,Bool.and_true,Bool.true_and,Bool.false_and,Bool.and_false,bne_self_eq_false,beq_self_eq_true,allT,hbig,hsrc,u0,u1,u2,u3,u4,u5,u6,u7,u8,u9,u10,u11,u12,u13,u14,u15,hN,e1,nS,i0,i1,i2,hc,hc0,hv,hv0,hk,hw,hp,t1,t2,t3,t4,t5,j1,j2,j3,z1,z2,jT,r_a0,r_a1]
      have r_a3:=Eq.refl (bV c)
      conv at r_a3=>rhs;simp only [bV,cond_true,cond_false,Bool.cond_self,Bool.not_true,Bool.not_false,Bool.true_or,Bool.or_true,Bool.false_or,Bool.or_false,Bool.and_self,Bool.and_true,Bool.true_and,Bool.false_and,Bool.and_false,bne_self_eq_false,beq_self_eq_true,allT,hbig,hsrc,u0,u1,u2,u3,u4,u5,u6,u7,u8,u9,u10,u11,u12,u13,u14,u15,hN,e1,nS,i0,i1,i2,hc,hc0,hv,hv0,hk,hw,hp,t1,t2,t3,t4,t5,j1,j2,j3,z1,z2,jT,r_a0,r_a1,r_a2]
      have r_a4:=Eq.refl (eY c)
      conv at r_a4=>rhs;simp only [eY,cond_true,cond_false,Bool.cond_self,Bool.not_true,Bool.not_false,Bool.true_or,Bool.or_true,Bool.false_or,Bool.or_false,Bool.and_self,Bool.and_true,Bool.true_and,Bool.false_and,Bool.and_false,bne_self_eq_false,beq_self_eq_true,allT,hbig,hsrc,u0,u1,u2,u3,u4,u5,u6,u7,u8,u9,u10,u11,u12,u13,u14,u15,hN,e1,nS,i0,i1,i2,hc,hc0,hv,hv0,hk,hw,hp,t1,t2,t3,t4,t5,j1,j2,j3,z1,z2,jT,r_a0,r_a1,r_a2,r_a3]
      have r_a5:=Eq.refl (eZ c)
      conv at r_a5=>rhs;simp only [eZ,cond_true,cond_false,Bool.cond_self,Bool.not_true,Bool.not_false,Bool.true_or,Bool.or_true,Bool.false_or,Bool.or_false,Bool.and_self,Bool.and_true,Bool.true_and,Bool.false_and,Bool.and_false,bne_self_eq_false,beq_self_eq_true,allT,hbig,hsrc,u0,u1,u2,u3,u4,u5,u6,u7,u8,u9,u10,u11,u12,u13,u14,u15,hN,e1,nS,i0,i1,i2,hc,hc0,hv,hv0,hk,hw,hp,t1,t2,t3,t4,t5,j1,j2,j3,z1,z2,jT,r_a0,r_a1,r_a2,r_a3,r_a4]
      have r_a6:=Eq.refl (fa c)
      conv at r_a6=>rhs;simp only [fa,cond_true,cond_false,Bool.cond_self,Bool.not_true,Bool.not_false,Bool.true_or,Bool.or_true,Bool.false_or,Bool.or_false,Bool.and_self,Bool.and_true,Bool.true_and,Bool.false_and,Bool.and_false,bne_self_eq_false,beq_self_eq_true,allT,hbig,hsrc,u0,u1,u2,u3,u4,u5,u6,u7,u8,u9,u10,u11,u12,u13,u14,u15,hN,e1,nS,i0,i1,i2,hc,hc0,hv,hv0,hk,hw,hp,t1,t2,t3,t4,t5,j1,j2,j3,z1,z2,jT,r_a0,r_a1,r_a2,r_a3,r_a4,r_a5]
      have r_a7:=Eq.refl (fb c)
      conv at r_a7=>rhs;simp only [fb,cond_true,cond_false,Bool.cond_self,Bool.not_true,Bool.not_false,Bool.true_or,Bool.or_true,Bool.false_or,Bool.or_false,Bool.and_self,Bool.and_true,Bool.true_and,Bool.false_and,Bool.and_false,bne_self_eq_false,beq_self_eq_true,allT,hbig,hsrc,u0,u1,u2,u3,u4,u5,u6,u7,u8,u9,u10,u11,u12,u13,u14,u15,hN,e1,nS,i0,i1,i2,hc,hc0,hv,hv0,hk,hw,hp,t1,t2,t3,t4,t5,j1,j2,j3,z1,z2,jT,r_a0,r_a1,r_a2,r_a3,r_a4,r_a5,r_a6]
      have r_a8:=Eq.refl (bP c)
      conv at r_a8=>rhs;simp only [bP,cond_true,cond_false,Bool.cond_self,Bool.not_true,Bool.not_false,Bool.true_or,Bool.or_true,Bool.false_or,Bool.or_false,Bool.and_self,Bool.and_true,Bool.true_and,Bool.false_and,Bool.and_false,bne_self_eq_false,beq_self_eq_true,allT,hbig,hsrc,u0,u1,u2,u3,u4,u5,u6,u7,u8,u9,u10,u11,u12,u13,u14,u15,hN,e1,nS,i0,i1,i2,hc,hc0,hv,hv0,hk,hw,hp,t1,t2,t3,t4,t5,j1,j2,j3,z1,z2,jT,r_a0,r_a1,r_a2,r_a3,r_a4,r_a5,r_a6,r_a7]
      have r_a9:=Eq.refl (gH c)
      conv at r_a9=>rhs;simp only [gH,cond_true,cond_false,Bool.cond_self,Bool.not_true,Bool.not_false,Bool.true_or,Bool.or_true,Bool.false_or,Bool.or_false,Bool.and_self,Bool.and_true,Bool.true_and,Bool.false_and,Bool.and_false,bne_self_eq_false,beq_self_eq_true,allT,hbig,hsrc,u0,u1,u2,u3,u4,u5,u6,u7,u8,u9,u10,u11,u12,u13,u14,u15,hN,e1,nS,i0,i1,i2,hc,hc0,hv,hv0,hk,hw,hp,t1,t2,t3,t4,t5,j1,j2,j3,z1,z2,jT,r_a0,r_a1,r_a2,r_a3,r_a4,r_a5,r_a6,r_a7,r_a8]
      have r_a10:=Eq.refl (fk c)
      conv at r_a10=>rhs;simp only [fk,cond_true,cond_false,Bool.cond_self,Bool.not_true,Bool.not_false,Bool.true_or,Bool.or_true,Bool.false_or,Bool.or_false,Bool.and_self,Bool.and_true,Bool.true_and,Bool.false_and,Bool.and_false,bne_self_eq_false,beq_self_eq_true,allT,hbig,hsrc,u0,u1,u2,u3,u4,u5,u6,u7,u8,u9,u10,u11,u12,u13,u14,u15,hN,e1,nS,i0,i1,i2,hc,hc0,hv,hv0,hk,hw,hp,t1,t2,t3,t4,t5,j1,j2,j3,z1,z2,jT,r_a0,r_a1,r_a2,r_a3,r_a4,r_a5,r_a6,r_a7,r_a8,r_a9]
      have r_a11:=Eq.refl (fl c)
      conv at r_a11=>rhs;simp only [fl,cond_true,cond_false,Bool.cond_self,Bool.not_true,Bool.not_false,Bool.true_or,Bool.or_true,Bool.false_or,Bool.or_false,Bool.and_self,Bool.and_true,Bool.true_and,Bool.false_and,Bool.and_false,bne_self_eq_false,beq_self_eq_true,allT,hbig,hsrc,u0,u1,u2,u3,u4,u5,u6,u7,u8,u9,u10,u11,u12,u13,u14,u15,hN,e1,nS,i0,i1,i2,hc,hc0,hv,hv0,hk,hw,hp,t1,t2,t3,t4,t5,j1,j2,j3,z1,z2,jT,r_a0,r_a1,r_a2,r_a3,r_a4,r_a5,r_a6,r_a7,r_a8,r_a9,r_a10]
      have r_a12:=Eq.refl (fm c)
      conv at r_a12=>rhs;simp only [fm,cond_true,cond_false,Bool.cond_self,Bool.not_true,Bool.not_false,Bool.true_or,Bool.or_true,Bool.false_or,Bool.or_false,Bool.and_self,Bool.and_true,Bool.true_and,Bool.false_and,Bool.and_false,bne_self_eq_false,beq_self_eq_true,allT,hbig,hsrc,u0,u1,u2,u3,u4,u5,u6,u7,u8,u9,u10,u11,u12,u13,u14,u15,hN,e1,nS,i0,i1,i2,hc,hc0,hv,hv0,hk,hw,hp,t1,t2,t3,t4,t5,j1,j2,j3,z1,z2,jT,r_a0,r_a1,r_a2,r_a3,r_a4,r_a5,r_a6,r_a7,r_a8,r_a9,r_a10,r_a11]
      have r_a13:=Eq.refl (fo c)
      conv at r_a13=>rhs;simp only [fo,cond_true,cond_false,Bool.cond_self,Bool.not_true,Bool.not_false,Bool.true_or,Bool.or_true,Bool.false_or,Bool.or_false,Bool.and_self,Bool.and_true,Bool.true_and,Bool.false_and,Bool.and_false,bne_self_eq_false,beq_self_eq_true,allT,hbig,hsrc,u0,u1,u2,u3,u4,u5,u6,u7,u8,u9,u10,u11,u12,u13,u14,u15,hN,e1,nS,i0,i1,i2,hc,hc0,hv,hv0,hk,hw,hp,t1,t2,t3,t4,t5,j1,j2,j3,z1,z2,jT,r_a0,r_a1,r_a2,r_a3,r_a4,r_a5,r_a6,r_a7,r_a8,r_a9,r_a10,r_a11,r_a12]
      have r_a14:=Eq.refl (fq c)
      conv at r_a14=>rhs;simp only [fq,cond_true,cond_false,Bool.cond_self,Bool.not_true,Bool.not_false,Bool.true_or,Bool.or_true,Bool.false_or,Bool.or_false,Bool.and_self,Bool.and_true,Bool.true_and,Bool.false_and,Bool.and_false,bne_self_eq_false,beq_self_eq_true,allT,hbig,hsrc,u0,u1,u2,u3,u4,u5,u6,u7,u8,u9,u10,u11,u12,u13,u14,u15,hN,e1,nS,i0,i1,i2,hc,hc0,hv,hv0,hk,hw,hp,t1,t2,t3,t4,t5,j1,j2,j3,z1,z2,jT,r_a0,r_a1,r_a2,r_a3,r_a4,r_a5,r_a6,r_a7,r_a8,r_a9,r_a10,r_a11,r_a12,r_a13]
      have r_a15:=Eq.refl (cv c)
      conv at r_a15=>rhs;simp only [cv,cond_true,cond_false,Bool.cond_self,Bool.not_true,Bool.not_false,Bool.true_or,Bool.or_true,Bool.false_or,Bool.or_false,Bool.and_self,Bool.and_true,Bool.true_and,Bool.false_and,Bool.and_false,bne_self_eq_false,beq_self_eq_true,allT,hbig,hsrc,u0,u1,u2,u3,u4,u5,u6,u7,u8,u9,u10,u11,u12,u13,u14,u15,hN,e1,nS,i0,i1,i2,hc,hc0,hv,hv0,hk,hw,hp,t1,t2,t3,t4,t5,j1,j2,j3,z1,z2,jT,r_a0,r_a1,r_a2,r_a3,r_a4,r_a5,r_a6,r_a7,r_a8,r_a9,r_a10,r_a11,r_a12,r_a13,r_a14]
      have r_a16:=Eq.refl (ea c)
      conv at r_a16=>rhs;simp only [ea,cond_true,cond_false,Bool.cond_self,Bool.not_true,Bool.not_false,Bool.true_or,Bool.or_true,Bool.false_or,Bool.or_false,Bool.and_self,Bool.and_true,Bool.true_and,Bool.false_and,Bool.and_false,bne_self_eq_false,beq_self_eq_true,allT,hbig,hsrc,u0,u1,u2,u3,u4,u5,u6,u7,u8,u9,u10,u11,u12,u13,u14,u15,hN,e1,nS,i0,i1,i2,hc,hc0,hv,hv0,hk,hw,hp,t1,t2,t3,t4,t5,j1,j2,j3,z1,z2,jT,r_a0,r_a1,r_a2,r_a3,r_a4,r_a5,r_a6,r_a7,r_a8,r_a9,r_a10,r_a11,r_a12,r_a13,r_a14,r_a15]
      have r_a17:=Eq.refl (eb c)
      conv at r_a17=>rhs;simp only [eb,cond_true,cond_false,Bool.cond_self,Bool.not_true,Bool.not_false,Bool.true_or,Bool.or_true,Bool.false_or,Bool.or_false,Bool.and_self,Bool.and_true,Bool.true_and,Bool.false_and,Bool.and_false,bne_self_eq_false,beq_self_eq_true,allT,hbig,hsrc,u0,u1,u2,u3,u4,u5,u6,u7,u8,u9,u10,u11,u12,u13,u14,u15,hN,e1,nS,i0,i1,i2,hc,hc0,hv,hv0,hk,hw,hp,t1,t2,t3,t4,t5,j1,j2,j3,z1,z2,jT,r_a0,r_a1,r_a2,r_a3,r_a4,r_a5,r_a6,r_a7,r_a8,r_a9,r_a10,r_a11,r_a12,r_a13,r_a14,r_a15,r_a16]
      have r_a18:=Eq.refl (ec c)
      conv at r_a18=>rhs;simp only [ec,cond_true,cond_false,Bool.cond_self,Bool.not_true,Bool.not_false,Bool.true_or,Bool.or_true,Bool.false_or,Bool.or_false,Bool.and_self,Bool.and_true,Bool.true_and,Bool.false_and,Bool.and_false,bne_self_eq_false,beq_self_eq_true,allT,hbig,hsrc,u0,u1,u2,u3,u4,u5,u6,u7,u8,u9,u10,u11,u12,u13,u14,u15,hN,e1,nS,i0,i1,i2,hc,hc0,hv,hv0,hk,hw,hp,t1,t2,t3,t4,t5,j1,j2,j3,z1,z2,jT,r_a0,r_a1,r_a2,r_a3,r_a4,r_a5,r_a6,r_a7,r_a8,r_a9,r_a10,r_a11,r_a12,r_a13,r_a14,r_a15,r_a16,r_a17]
      refine⟨?_,?_⟩ <;> simp only [pH,pI,cond_true,cond_false,Bool.cond_self,Bool.not_true,Bool.not_false,Bool.true_or,Bool.or_true,Bool.false_or,Bool.or_false,Bool.and_self,Bool.and_true,Bool.true_and,Bool.false_and,Bool.and_false,bne_self_eq_false,beq_self_eq_true,allT,hbig,hsrc,u0,u1,u2,u3,u4,u5,u6,u7,u8,u9,u10,u11,u12,u13,u14,u15,hN,e1,nS,i0,i1,i2,hc,hc0,hv,hv0,hk,hw,hp,t1,t2,t3,t4,t5,j1,j2,j3,z1,z2,jT,r_a0,r_a1,r_a2,r_a3,r_a4,r_a5,r_a6,r_a7,r_a8,r_a9,r_a10,r_a11,r_a12,r_a13,r_a14,r_a15,r_a16,r_a17,r_a18]
end Go.SX
