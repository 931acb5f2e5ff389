/- What functions of the program come to, and what that says in plain words: part 4. -/
import Derived.Test.YtbajbgcdcaknpaaGreatDoorMc
import Derived.Test.YtbajbgcdcaknpaaGreatDoorTXh
import Derived.Test.YtbajbgcdcaknpaaGreatDoorProg
import Derived.Test.YtbajbgcdcaknpaaGreatDoorTXi
set_option linter.unusedSimpArgs false
set_option linter.unusedVariables false
namespace Go.SX
open Go.Proofs
set_option maxRecDepth 100000
def cL(y6:List Int)(y8:List (List Int))(b:Int×(Int×((Int×Int)×(Int×(Int×Bool))))):(Unit)→Nat ⊕ (Unit)
 |_=>(bif(vF b.1 (b.2.1) (b.2.2.1.1) (b.2.2.1.2) (b.2.2.2.1) (b.2.2.2.2.1) b.2.2.2.2.2 y6 y8)then(.inl 0)else(.inr ()))
def bG(y2 y3 y4:Int)(y5:List (Int×(Int×((Int×Int)×(Int×(Int×Bool))))))(y6:List Int)(y7:List (Int×(Int×Int)))(y8:List (List Int))(y9:List (Int×(Int×Int)))(y10 y11:List (Int×Int))(i:Nat):(Unit)→aQ
 |_=>((i:Int),(↑y5.length:Int),y2,y3,y4,y5,y6,y7,y8,y9,y10,y11)
def lP:aQ→Unit
 |(_,_,_,_,_,_,_,_,_,_,_,_)=>()
theorem Hz(y2 y3 y4:Int)(y5:List (Int×(Int×((Int×Int)×(Int×(Int×Bool))))))(y6:List Int)(y7:List (Int×(Int×Int)))(y8:List (List Int))(y9:List (Int×(Int×Int)))(y10 y11:List (Int×Int)) (hn:y5.length≤9223372036854775807) (f:RideF y2 y3 y4 y6 y7 y8 y9 y10 y11):
  ai.fin ((0:Int),(↑y5.length:Int),y2,y3,y4,y5,y6,y7,y8,y9,y10,y11)=true∧ai.res ((0:Int),(↑y5.length:Int),y2,y3,y4,y5,y6,y7,y8,y9,y10,y11)=((ag (cL y6 y8) 1 y5 0 ()).1,(bG y2 y3 y4 y5 y6 y7 y8 y9 y10 y11) (ag (cL y6 y8) 1 y5 0 ()).2.1 (ag (cL y6 y8) 1 y5 0 ()).2.2):=by
 have key:=ai.along (bG y2 y3 y4 y5 y6 y7 y8 y9 y10 y11) lP (cL y6 y8) 1 (fun _ _=>True) y5 () (by trivial) (by simp only [ai,bG];omega) (fun i b a hb hI=> ?_) (fun a hI=> ?_)
 ·exact key
 ·obtain⟨⟩:=a
  have hlt:=(List.getElem?_eq_some_iff.1 hb).1
  have hget: ∀ d,Option.getD y5[i]? d=b:=fun d=>by rw [hb];rfl
  have hw:=py hlt hn
  have hdec:ltI (i:Int) (y5.length:Int)=true:=ce (by omega)
  have hnn:leI (0:Int) (i:Int)=true:=bH (by omega)
  have hltd:ltN i y5.length=true:=cM hlt
  refine⟨?_,?_,?_,?_⟩
  ·have e:=(akc b.1 b.2.1 b.2.2.1.1 b.2.2.1.2 b.2.2.2.1 b.2.2.2.2.1 b.2.2.2.2.2 f).2
   simp [cE,cF,cG,cH,bj,cI,eV,eW,eY,eZ,fa,fb,fc,eC,ai,LT.nds,allT,bG,Ee,hdec,hnn,hltd,hget,e]
  ·simp [cE,cF,cG,cH,bj,cI,eV,eW,eY,eZ,fa,fb,fc,eC,ai,LT.each,bG,lP,hw]
  ·simp only [cE,cF,cG,cH,bj,cI,eV,eW,eY,eZ,fa,fb,fc,eC,ai,LT.fn,bG,lP,cL,Int.toNat_natCast,hdec,hnn,hltd,hget,cond_true,Bool.cond_self]
  ·exact fun _ _=>trivial
 ·obtain⟨⟩:=a
  simp [cE,cF,cG,cH,bj,cI,eV,eW,eY,eZ,fa,fb,fc,eC,ai,LT.out,bG]
def amZ(ps:LI)(rs:List LI)(xs:List RX):Bool:=xs.any fun x=> !isX ps rs x
def rrC(n mode day:Int)(ps:LI)(fs:L3)(rs:List LI)(lf:L3)(pl ls:L2)(xs:List RX):Int:=bif !pS n ps fs rs lf mode pl ls day then 1 else bif ltI 200 (xs.length:Int)then 3 else bif amZ ps rs xs then 2 else 0
def rrE(n mode day:Int)(ps:LI)(fs:L3)(rs:List LI)(lf:L3)(pl ls:L2)(xs:List RX):RS:=xs.foldl (stX n day fs lf pl ls) (mode,ps,rs,[],0)
def rrB(n mode day:Int)(ps:LI)(fs:L3)(rs:List LI)(lf:L3)(pl ls:L2)(xs:List RX):Bool:=rrC n mode day ps fs rs lf pl ls xs==0
def rrN(n mode day:Int)(ps:LI)(fs:L3)(rs:List LI)(lf:L3)(pl ls:L2)(xs:List RX):Int:=bif rrB n mode day ps fs rs lf pl ls xs then n else 0
def rrM(n mode day:Int)(ps:LI)(fs:L3)(rs:List LI)(lf:L3)(pl ls:L2)(xs:List RX):Int:=bif rrB n mode day ps fs rs lf pl ls xs then(rrE n mode day ps fs rs lf pl ls xs).1 else 0
def rrD(n mode day:Int)(ps:LI)(fs:L3)(rs:List LI)(lf:L3)(pl ls:L2)(xs:List RX):Int:=bif rrB n mode day ps fs rs lf pl ls xs then day else 0
def rrP(n mode day:Int)(ps:LI)(fs:L3)(rs:List LI)(lf:L3)(pl ls:L2)(xs:List RX):LI:=bif rrB n mode day ps fs rs lf pl ls xs then(rrE n mode day ps fs rs lf pl ls xs).2.1 else []
def rrF(n mode day:Int)(ps:LI)(fs:L3)(rs:List LI)(lf:L3)(pl ls:L2)(xs:List RX):L3:=bif rrB n mode day ps fs rs lf pl ls xs then fs else []
def rrR(n mode day:Int)(ps:LI)(fs:L3)(rs:List LI)(lf:L3)(pl ls:L2)(xs:List RX):List LI:=bif rrB n mode day ps fs rs lf pl ls xs then(rrE n mode day ps fs rs lf pl ls xs).2.2.1 else []
def rrL(n mode day:Int)(ps:LI)(fs:L3)(rs:List LI)(lf:L3)(pl ls:L2)(xs:List RX):L3:=bif rrB n mode day ps fs rs lf pl ls xs then lf else []
def Uw(n mode day:Int)(ps:LI)(fs:L3)(rs:List LI)(lf:L3)(pl ls:L2)(xs:List RX):L2:=bif rrB n mode day ps fs rs lf pl ls xs then pl else []
def Vx(n mode day:Int)(ps:LI)(fs:L3)(rs:List LI)(lf:L3)(pl ls:L2)(xs:List RX):L2:=bif rrB n mode day ps fs rs lf pl ls xs then ls else []
def rrV(n mode day:Int)(ps:LI)(fs:L3)(rs:List LI)(lf:L3)(pl ls:L2)(xs:List RX):LI:=bif rrB n mode day ps fs rs lf pl ls xs then(rrE n mode day ps fs rs lf pl ls xs).2.2.2.1 else []
def rrT(n mode day:Int)(ps:LI)(fs:L3)(rs:List LI)(lf:L3)(pl ls:L2)(xs:List RX):Int:=bif rrB n mode day ps fs rs lf pl ls xs then(rrE n mode day ps fs rs lf pl ls xs).2.2.2.2 else 0
theorem arW{ps:LI}{rs:List LI}{xs:List RX}(h:amZ ps rs xs=false): ∀ x∈xs,isX ps rs x=true:=by
 simp only [amZ,List.any_eq_false,Bool.not_eq_true',Bool.not_eq_false]at h
 exact h
theorem aqU{n mode day:Int}{ps:LI}{fs:L3}{rs:List LI}{lf:L3}{pl ls:L2}(f:RideF n mode day ps fs rs lf pl ls):al6 n day fs lf pl ls ps rs 0 (mode,ps,rs,[],0):=
 ⟨f,rfl,rfl,Nat.le_refl _⟩
theorem anm(n mode day:Int)(ps:LI)(fs:L3)(rs:List LI)(lf:L3)(pl ls:L2)(xs:List RX)(hN:p8 9223372036854775807 ps fs rs lf pl ls=true):
  u4 n mode day ps fs rs lf pl ls xs=rrC n mode day ps fs rs lf pl ls xs∧zJ n mode day ps fs rs lf pl ls xs=true:=by
 cases hO:pS n ps fs rs lf mode pl ls day with
 |false=>simp [u4,zJ,rrC,hO,hN,allT]
 |true=>
  have f:=amJ hO
  cases h2:NI xs with
  |true=>
   have h2':ltI 200 (xs.length:Int)=true:=h2
   simp only [u4,zJ,rrC,hO,hN,h2,h2',allT,Bool.not_true,cond_false,cond_true,Bool.or_true,Bool.true_or,and_self,Bool.false_or]
  |false=>
   have h2':ltI 200 (xs.length:Int)=false:=h2
   have hl:xs.length≤200:=by have:=IB.1 h2';omega
   obtain⟨w1,w2⟩:=Hz n mode day xs ps fs rs lf pl ls (by omega) f
   rw [kf (P:=fun x=> !isX ps rs x) (j:=0) (fun b=>by
    simp only [cL,vF,(akc b.1 b.2.1 b.2.2.1.1 b.2.2.1.2 b.2.2.2.1 b.2.2.2.2.1 b.2.2.2.2.2 f).1];rfl)]at w2
   have w1':Lp.fin ai (fW xs n mode day ps fs rs lf pl ls)=true:=w1
   have e:iC xs n mode day ps fs rs lf pl ls=amZ ps rs xs:=by
    rw [iC,oO,fX,fW,w2]
    show leI 0 (bif Nat.beq (bif amZ ps rs xs then 0 else 1) 0 then _ else(-1:Int))=_
    cases amZ ps rs xs with
    |true=>exact bH (Int.natCast_nonneg _)
    |false=>rfl
   simp only [u4,zJ,me,oP,rrC,hO,hN,h2,h2',e,w1',allT,Bool.not_true,cond_false,cond_true,Bool.or_true,Bool.true_or,and_self,Bool.false_or]
theorem anN{n mode day:Int}{ps:LI}{fs:L3}{rs:List LI}{lf:L3}{pl ls:L2}{xs:List RX}(h:rrB n mode day ps fs rs lf pl ls xs=true):
  RideF n mode day ps fs rs lf pl ls∧xs.length≤200∧ ∀ x∈xs,isX ps rs x=true:=by
 simp only [rrB,rrC]at h
 cases hO:pS n ps fs rs lf mode pl ls day with
 |false=>rw [hO]at h;cases h
 |true=>
  cases h2:ltI 200 (xs.length:Int)with
  |true=>rw [hO,h2]at h;cases h
  |false=>
   cases hB:amZ ps rs xs with
   |true=>rw [hO,h2,hB]at h;cases h
   |false=>exact⟨amJ hO,by have:=IB.1 h2;omega,arW hB⟩
theorem arl{n day:Int}{fs lf:L3}{pl ls:L2}{ps0:LI}{rs0:List LI}{i:Nat}{s:RS}(hI:al6 n day fs lf pl ls ps0 rs0 i s){b:RX}(hm:isX ps0 rs0 b=true):
  kX b (aj2 n day fs lf pl ls s)= .inr (aj2 n day fs lf pl ls (stX n day fs lf pl ls s b)):=by
 obtain⟨hx,_⟩:=YB hI hm
 obtain⟨o0,o1,o2,o3,o4,o5,o6,o7,o8,o9,o10⟩:=Zl hI.1 hx
 simp only [aj2,kX,o0,o1,o2,o3,o4,o5,o6,o7,o8,o9]
 rfl
theorem apr(n mode day:Int)(ps:LI)(fs:L3)(rs:List LI)(lf:L3)(pl ls:L2)(xs:List RX):(rrC n mode day ps fs rs lf pl ls xs !=0)= !rrB n mode day ps fs rs lf pl ls xs:=rfl
theorem aoL(n mode day:Int)(ps:LI)(fs:L3)(rs:List LI)(lf:L3)(pl ls:L2)(xs:List RX)(hN:p8 9223372036854775807 ps fs rs lf pl ls=true):
  Jk n mode day ps fs rs lf pl ls xs=rrN n mode day ps fs rs lf pl ls xs∧Jl n mode day ps fs rs lf pl ls xs=rrM n mode day ps fs rs lf pl ls xs∧
  Jm n mode day ps fs rs lf pl ls xs=rrD n mode day ps fs rs lf pl ls xs∧
  Jn n mode day ps fs rs lf pl ls xs=rrC n mode day ps fs rs lf pl ls xs∧Jo n mode day ps fs rs lf pl ls xs=rrP n mode day ps fs rs lf pl ls xs∧
  Jp n mode day ps fs rs lf pl ls xs=rrF n mode day ps fs rs lf pl ls xs∧Jq n mode day ps fs rs lf pl ls xs=rrR n mode day ps fs rs lf pl ls xs∧
  Jr n mode day ps fs rs lf pl ls xs=rrL n mode day ps fs rs lf pl ls xs∧Js n mode day ps fs rs lf pl ls xs=Uw n mode day ps fs rs lf pl ls xs∧
  Jt n mode day ps fs rs lf pl ls xs=Vx n mode day ps fs rs lf pl ls xs∧Hb n mode day ps fs rs lf pl ls xs=rrV n mode day ps fs rs lf pl ls xs∧
  Hc n mode day ps fs rs lf pl ls xs=true:=by
 obtain⟨c1,c2⟩:=anm n mode day ps fs rs lf pl ls xs hN
 have a0:gP n mode day ps fs rs lf pl ls xs= !rrB n mode day ps fs rs lf pl ls xs:=by rw [gP,c1];rfl
 cases hb:rrB n mode day ps fs rs lf pl ls xs with
 |false=>
  rw [hb,Bool.not_false]at a0
  simp only [Jk,Jl,Jm,Jn,Jo,Jp,Jq,Jr,Js,Jt,Hb,Hc,rrN,rrM,rrD,rrT,rrP,rrF,rrR,rrL,Uw,Vx,rrV,hb,c1,c2,a0,allT,cond_true,cond_false,Bool.true_or,and_self]
 |true=>
  rw [hb,Bool.not_true]at a0
  have hc:rrC n mode day ps fs rs lf pl ls xs=0:=beq_iff_eq.1 hb
  obtain⟨f,hl,hX⟩:=anN hb
  obtain⟨o1,o2⟩:=amq n mode day f.cp
  obtain⟨v1,v2⟩:=ahA xs [] n mode day ps fs rs lf pl ls (by omega) n day fs lf pl ls ps rs hX (mode,ps,rs,[],0) rfl (aqU f) hl
  have hw:=(aof (e:=0) (i:=0) (r:=xs) (f:=kX) (g:=stX n day fs lf pl ls) (emb:=aj2 n day fs lf pl ls) (Inv:=fun s=> ∃ i,al6 n day fs lf pl ls ps rs i s)
   (fun b hb s hs=>by obtain⟨i,hI⟩:=hs;exact⟨arl hI (hX b hb),_,(YB hI (hX b hb)).2⟩) ⟨0,aqU f⟩).1
  change ag kX 0 xs 0 (([]:LI),n,mode,day,ps,fs,rs,lf,pl,ls)=_ at hw
  rw [hw]at v2
  have v1':Lp.fin dD (Cv n mode day ps fs rs lf pl ls xs)=true:=by rw [Cv,o1];exact v1
  have v2':Lp.res dD (Cv n mode day ps fs rs lf pl ls xs)=(0,lW xs xs.length (aj2 n day fs lf pl ls (rrE n mode day ps fs rs lf pl ls xs))):=by
   rw [Cv,o1,v2];simp only [Nat.zero_add];rfl
  simp only [Jk,Jl,Jm,Jn,Jo,Jp,Jq,Jr,Js,Jt,Hb,Hc,RM,RN,RO,RP,RQ,RR,RT,RU,PN,v2',v1',o2,lW,aj2,rrN,rrM,rrD,rrT,rrP,rrF,rrR,rrL,Uw,Vx,rrV,hb,hc,c1,c2,a0,allT,cond_true,cond_false,Bool.or_true,Bool.and_self,and_self]
theorem asd(n mode day:Int)(ps:LI)(fs:L3)(rs:List LI)(lf:L3)(pl ls:L2)(x:RX):
  rrC n mode day ps fs rs lf pl ls [x]=bif !pS n ps fs rs lf mode pl ls day then 1 else bif !isX ps rs x then 2 else 0:=by
 simp only [rrC,amZ,List.any_cons,List.any_nil,Bool.or_false];rfl
def srV(n mode day:Int)(ps:LI)(fs:L3)(rs:List LI)(lf:L3)(pl ls:L2)(x:RX):Int:=bif rrB n mode day ps fs rs lf pl ls [x]then vX n day fs lf pl ls (mode,ps,rs,[],0) x else 0
theorem asf(n mode day:Int)(ps:LI)(fs:L3)(rs:List LI)(lf:L3)(pl ls:L2)(x:RX)(h:rrB n mode day ps fs rs lf pl ls [x]=true):rrV n mode day ps fs rs lf pl ls [x]= [srV n mode day ps fs rs lf pl ls x]:=by
 rw [rrV,srV,h];rfl
theorem aqf(n mode day k t rk row ck role:Int)(key:Bool)(ps:LI)(fs:L3)(rs:List LI)(lf:L3)(pl ls:L2)(hN:p8 9223372036854775807 ps fs rs lf pl ls=true):
  Hm n mode day k t rk row ck role key ps fs rs lf pl ls=rrN n mode day ps fs rs lf pl ls [(k,t,(rk,row),ck,role,key)]∧Hn n mode day k t rk row ck role key ps fs rs lf pl ls=rrM n mode day ps fs rs lf pl ls [(k,t,(rk,row),ck,role,key)]∧
  Ho n mode day k t rk row ck role key ps fs rs lf pl ls=rrD n mode day ps fs rs lf pl ls [(k,t,(rk,row),ck,role,key)]∧Hq n mode day k t rk row ck role key ps fs rs lf pl ls=srV n mode day ps fs rs lf pl ls (k,t,(rk,row),ck,role,key)∧
  Hr n mode day k t rk row ck role key ps fs rs lf pl ls=rrC n mode day ps fs rs lf pl ls [(k,t,(rk,row),ck,role,key)]∧Hs n mode day k t rk row ck role key ps fs rs lf pl ls=rrP n mode day ps fs rs lf pl ls [(k,t,(rk,row),ck,role,key)]∧
  Ht n mode day k t rk row ck role key ps fs rs lf pl ls=rrF n mode day ps fs rs lf pl ls [(k,t,(rk,row),ck,role,key)]∧Hu n mode day k t rk row ck role key ps fs rs lf pl ls=rrR n mode day ps fs rs lf pl ls [(k,t,(rk,row),ck,role,key)]∧
  Hv n mode day k t rk row ck role key ps fs rs lf pl ls=rrL n mode day ps fs rs lf pl ls [(k,t,(rk,row),ck,role,key)]∧Hw n mode day k t rk row ck role key ps fs rs lf pl ls=Uw n mode day ps fs rs lf pl ls [(k,t,(rk,row),ck,role,key)]∧
  FG n mode day k t rk row ck role key ps fs rs lf pl ls=Vx n mode day ps fs rs lf pl ls [(k,t,(rk,row),ck,role,key)]∧FH n mode day k t rk row ck role key ps fs rs lf pl ls=true:=by
 have hc1:=asd n mode day ps fs rs lf pl ls (k,t,(rk,row),ck,role,key)
 obtain⟨i1,i2⟩:=aqb n mode day k t rk row ck role key ps fs rs lf pl ls hN
 cases hO:pS n ps fs rs lf mode pl ls day with
 |false=>
  have hc:rrC n mode day ps fs rs lf pl ls [(k,t,(rk,row),ck,role,key)]=1:=by rw [hc1,hO];rfl
  have hb:rrB n mode day ps fs rs lf pl ls [(k,t,(rk,row),ck,role,key)]=false:=by rw [rrB,hc];rfl
  simp [Hm,Hn,Ho,Hq,Hr,Hs,Ht,Hu,Hv,Hw,FG,FH,rrN,rrM,rrD,srV,rrP,rrF,rrR,rrL,Uw,Vx,hO,hc,hb,hN,allT]
 |true=>
  have a0:gK n mode day k t rk row ck role key ps fs rs lf pl ls= !isX ps rs (k,t,(rk,row),ck,role,key):=by rw [gK,i1,hO,Bool.true_and];rfl
  cases hx:isX ps rs (k,t,(rk,row),ck,role,key)with
  |false=>
   have hc:rrC n mode day ps fs rs lf pl ls [(k,t,(rk,row),ck,role,key)]=2:=by rw [hc1,hO,hx];rfl
   have hb:rrB n mode day ps fs rs lf pl ls [(k,t,(rk,row),ck,role,key)]=false:=by rw [rrB,hc];rfl
   simp [Hm,Hn,Ho,Hq,Hr,Hs,Ht,Hu,Hv,Hw,FG,FH,rrN,rrM,rrD,srV,rrP,rrF,rrR,rrL,Uw,Vx,a0,hx,i2,hO,hc,hb,hN,allT]
  |true=>
   have hc:rrC n mode day ps fs rs lf pl ls [(k,t,(rk,row),ck,role,key)]=0:=by rw [hc1,hO,hx];rfl
   have hb:rrB n mode day ps fs rs lf pl ls [(k,t,(rk,row),ck,role,key)]=true:=by rw [rrB,hc];rfl
   obtain⟨o0,o1,o2,o3,o4,o5,o6,o7,o8,o9,o10⟩:=an2 (amJ hO) hx
   simp only [Hm,Hn,Ho,Hq,Hr,Hs,Ht,Hu,Hv,Hw,FG,FH,rrN,rrM,rrD,srV,rrP,rrF,rrR,rrL,Uw,Vx,rrE,List.foldl_cons,List.foldl_nil,stX,vX,a0,hx,i2,hO,hc,hb,hN,o0,o1,o2,o3,o4,o5,o6,o7,o8,o9,o10,allT,Bool.not_true,cond_true,cond_false,Bool.false_or,Bool.and_self,and_self]
theorem apU(n mode day k t rk row ck role:Int)(key:Bool)(ps:LI)(fs:L3)(rs:List LI)(lf:L3)(pl ls:L2)(hN:p8 9223372036854775807 ps fs rs lf pl ls=true):
  Lx n mode day k t rk row ck role key ps fs rs lf pl ls=rrN n mode day ps fs rs lf pl ls [(k,t,(rk,row),ck,role,key)]∧Ly n mode day k t rk row ck role key ps fs rs lf pl ls=rrM n mode day ps fs rs lf pl ls [(k,t,(rk,row),ck,role,key)]∧
  Lz n mode day k t rk row ck role key ps fs rs lf pl ls=rrD n mode day ps fs rs lf pl ls [(k,t,(rk,row),ck,role,key)]∧LA n mode day k t rk row ck role key ps fs rs lf pl ls=srV n mode day ps fs rs lf pl ls (k,t,(rk,row),ck,role,key)∧
  LB n mode day k t rk row ck role key ps fs rs lf pl ls=rrC n mode day ps fs rs lf pl ls [(k,t,(rk,row),ck,role,key)]∧LC n mode day k t rk row ck role key ps fs rs lf pl ls=rrP n mode day ps fs rs lf pl ls [(k,t,(rk,row),ck,role,key)]∧
  LD n mode day k t rk row ck role key ps fs rs lf pl ls=rrF n mode day ps fs rs lf pl ls [(k,t,(rk,row),ck,role,key)]∧LE n mode day k t rk row ck role key ps fs rs lf pl ls=rrR n mode day ps fs rs lf pl ls [(k,t,(rk,row),ck,role,key)]∧
  LF n mode day k t rk row ck role key ps fs rs lf pl ls=rrL n mode day ps fs rs lf pl ls [(k,t,(rk,row),ck,role,key)]∧LG n mode day k t rk row ck role key ps fs rs lf pl ls=Uw n mode day ps fs rs lf pl ls [(k,t,(rk,row),ck,role,key)]∧
  Ki n mode day k t rk row ck role key ps fs rs lf pl ls=Vx n mode day ps fs rs lf pl ls [(k,t,(rk,row),ck,role,key)]∧Kj n mode day k t rk row ck role key ps fs rs lf pl ls=true:=by
 obtain⟨o0,o1,o2,o3,o4,o5,o6,o7,o8,o9,o10,o11⟩:=aoL n mode day ps fs rs lf pl ls [(k,t,(rk,row),ck,role,key)] hN
 cases hb:rrB n mode day ps fs rs lf pl ls [(k,t,(rk,row),ck,role,key)]with
 |false=>
  have hb':=hb
  rw [rrB]at hb'
  simp only [gz,Kk,eN,Fc,Lx,Ly,Lz,LA,LB,LC,LD,LE,LF,LG,Ki,Kj,o0,o1,o2,o3,o4,o5,o6,o7,o8,o9,o10,o11,apr,hb,rrN,rrM,rrD,srV,rrP,rrF,rrR,rrL,Uw,Vx,allT,Bool.not_false,Bool.true_or,cond_true,cond_false,and_self]
 |true=>
  have hc:rrC n mode day ps fs rs lf pl ls [(k,t,(rk,row),ck,role,key)]=0:=beq_iff_eq.1 hb
  have hv:=asf n mode day ps fs rs lf pl ls _ hb
  have n1:leI 0 0=true:=rfl
  have n2:ltI 0 (([srV n mode day ps fs rs lf pl ls (k,t,(rk,row),ck,role,key)].length:Nat):Int)=true:=rfl
  have n3:ltN (Int.toNat 0) [srV n mode day ps fs rs lf pl ls (k,t,(rk,row),ck,role,key)].length=true:=rfl
  simp only [gz,Kk,eN,Fc,Lx,Ly,Lz,LA,LB,LC,LD,LE,LF,LG,Ki,Kj,o0,o1,o2,o3,o4,o5,o6,o7,o8,o9,o10,o11,apr,hb,hv,n1,n2,n3,allT,Bool.not_true,Bool.false_or,cond_true,cond_false,and_self,true_and]
  exact⟨rfl,hc.symm,trivial⟩
def aar:List SV→List Entry→Option Out
 | [.one ⟨true,[.val (.int .i64 x0),.ref 0,.ref 1,.ref 2,.ref 3,.val (.int .i64 x1),.ref 4,.ref 5,.val (.int .i64 x2)]⟩,.one ⟨true,[.val (.int .i64 x3),.val (.int .i64 x4),.val (.int .i64 x5),.val (.int .i64 x6),.val (.int .i64 x7),.val (.int .i64 x8),.val (.bool x9)]⟩],[.row false 2 (.int .i64) x10,.row false 169 (.pair (.int .i64) (.pair (.int .i64) (.int .i64))) x11,.row false 24 (.sl 2 (.int .i64)) x12,.row false 100 (.pair (.int .i64) (.pair (.int .i64) (.int .i64))) x13,.row false 173 (.pair (.int .i64) (.int .i64)) x14,.row false 176 (.pair (.int .i64) (.int .i64)) x15]=>some ⟨(.tup [⟨true,[(.val (.int .i64 (rrN x0 x1 x2 x10 x11 x12 x13 x14 x15 [(x3,x4,(x5,x6),x7,x8,x9)]))),(.ref 6),(.ref 7),(.ref 8),(.ref 9),(.val (.int .i64 (rrM x0 x1 x2 x10 x11 x12 x13 x14 x15 [(x3,x4,(x5,x6),x7,x8,x9)]))),(.ref 10),(.ref 11),(.val (.int .i64 (rrD x0 x1 x2 x10 x11 x12 x13 x14 x15 [(x3,x4,(x5,x6),x7,x8,x9)])))]⟩,⟨false,[(.val (.int .i64 (srV x0 x1 x2 x10 x11 x12 x13 x14 x15 (x3,x4,(x5,x6),x7,x8,x9))))]⟩,⟨false,[(.val (.int .i64 (rrC x0 x1 x2 x10 x11 x12 x13 x14 x15 [(x3,x4,(x5,x6),x7,x8,x9)])))]⟩]),[(.row false 2 asZ x10),(.row false 169 asX x11),(.row false 24 (CTy.sl (2:TypeId) asZ) x12),(.row false 100 asX x13),(.row false 173 asY x14),(.row false 176 asY x15)],[(.row true 2 asZ (rrP x0 x1 x2 x10 x11 x12 x13 x14 x15 [(x3,x4,(x5,x6),x7,x8,x9)])),(.row true 169 asX (rrF x0 x1 x2 x10 x11 x12 x13 x14 x15 [(x3,x4,(x5,x6),x7,x8,x9)])),(.row true 24 (CTy.sl (2:Nat) asZ) (rrR x0 x1 x2 x10 x11 x12 x13 x14 x15 [(x3,x4,(x5,x6),x7,x8,x9)])),(.row true 100 asX (rrL x0 x1 x2 x10 x11 x12 x13 x14 x15 [(x3,x4,(x5,x6),x7,x8,x9)])),(.row true 173 asY (Uw x0 x1 x2 x10 x11 x12 x13 x14 x15 [(x3,x4,(x5,x6),x7,x8,x9)])),(.row true 176 asY (Vx x0 x1 x2 x10 x11 x12 x13 x14 x15 [(x3,x4,(x5,x6),x7,x8,x9)]))],[p8 9223372036854775807 x10 x11 x12 x13 x14 x15]⟩
 |_,_=>none
def Sj:PF Tryz.prog:=PF.alt ajE aar (by
 intro args es o h hnd;unfold aar at h;split at h
 ·rename_i x0 x1 x2 x3 x4 x5 x6 x7 x8 x9 x10 x11 x12 x13 x14 x15
  cases h
  have hnd:=cf hnd
  have hh:=aqf x0 x1 x2 x3 x4 x5 x6 x7 x8 x9 x10 x11 x12 x13 x14 x15 hnd
  obtain⟨e0,e1,e2,e3,e4,e5,e6,e7,e8,e9,e10,en⟩:=hh
  exact eT rfl (cg en) (by simp only [e0,e1,e2,e3,e4] <;> rfl) rfl (by simp only [e5,e6,e7,e8,e9,e10] <;> rfl)
 ·cases h)
def aaj:List SV→List Entry→Option Out
 | [.one ⟨true,[.val (.int .i64 x0),.ref 0,.ref 1,.ref 2,.ref 3,.val (.int .i64 x1),.ref 4,.ref 5,.val (.int .i64 x2)]⟩,.one ⟨true,[.val (.int .i64 x3),.val (.int .i64 x4),.val (.int .i64 x5),.val (.int .i64 x6),.val (.int .i64 x7),.val (.int .i64 x8),.val (.bool x9)]⟩],[.row false 2 (.int .i64) x10,.row false 169 (.pair (.int .i64) (.pair (.int .i64) (.int .i64))) x11,.row false 24 (.sl 2 (.int .i64)) x12,.row false 100 (.pair (.int .i64) (.pair (.int .i64) (.int .i64))) x13,.row false 173 (.pair (.int .i64) (.int .i64)) x14,.row false 176 (.pair (.int .i64) (.int .i64)) x15]=>some ⟨(.tup [⟨true,[(.val (.int .i64 (rrN x0 x1 x2 x10 x11 x12 x13 x14 x15 [(x3,x4,(x5,x6),x7,x8,x9)]))),(.ref 6),(.ref 7),(.ref 8),(.ref 9),(.val (.int .i64 (rrM x0 x1 x2 x10 x11 x12 x13 x14 x15 [(x3,x4,(x5,x6),x7,x8,x9)]))),(.ref 10),(.ref 11),(.val (.int .i64 (rrD x0 x1 x2 x10 x11 x12 x13 x14 x15 [(x3,x4,(x5,x6),x7,x8,x9)])))]⟩,⟨false,[(.val (.int .i64 (srV x0 x1 x2 x10 x11 x12 x13 x14 x15 (x3,x4,(x5,x6),x7,x8,x9))))]⟩,⟨false,[(.val (.int .i64 (rrC x0 x1 x2 x10 x11 x12 x13 x14 x15 [(x3,x4,(x5,x6),x7,x8,x9)])))]⟩]),[(.row false 2 asZ x10),(.row false 169 asX x11),(.row false 24 (CTy.sl (2:TypeId) asZ) x12),(.row false 100 asX x13),(.row false 173 asY x14),(.row false 176 asY x15)],[(.row true 2 asZ (rrP x0 x1 x2 x10 x11 x12 x13 x14 x15 [(x3,x4,(x5,x6),x7,x8,x9)])),(.row true 169 asX (rrF x0 x1 x2 x10 x11 x12 x13 x14 x15 [(x3,x4,(x5,x6),x7,x8,x9)])),(.tree 24 (CTy.sl (2:Nat) asZ) (rrR x0 x1 x2 x10 x11 x12 x13 x14 x15 [(x3,x4,(x5,x6),x7,x8,x9)]) none),(.row true 100 asX (rrL x0 x1 x2 x10 x11 x12 x13 x14 x15 [(x3,x4,(x5,x6),x7,x8,x9)])),(.row true 173 asY (Uw x0 x1 x2 x10 x11 x12 x13 x14 x15 [(x3,x4,(x5,x6),x7,x8,x9)])),(.row true 176 asY (Vx x0 x1 x2 x10 x11 x12 x13 x14 x15 [(x3,x4,(x5,x6),x7,x8,x9)]))],[p8 9223372036854775807 x10 x11 x12 x13 x14 x15]⟩
 |_,_=>none
def Sf:PF Tryz.prog:=PF.alt ajw aaj (by
 intro args es o h hnd;unfold aaj at h;split at h
 ·rename_i x0 x1 x2 x3 x4 x5 x6 x7 x8 x9 x10 x11 x12 x13 x14 x15
  cases h
  have hnd:=cf hnd
  have hh:=apU x0 x1 x2 x3 x4 x5 x6 x7 x8 x9 x10 x11 x12 x13 x14 x15 hnd
  obtain⟨e0,e1,e2,e3,e4,e5,e6,e7,e8,e9,e10,en⟩:=hh
  exact eT rfl (cg en) (by simp only [e0,e1,e2,e3,e4] <;> rfl) rfl (by simp only [e5,e6,e7,e8,e9,e10] <;> rfl)
 ·cases h)
end Go.SX

namespace Go.SX
open Go.Proofs
set_option maxRecDepth 100000
section
variable (x0 x1 x2 x3 x4 x5 x6 x7 x8:Int)(x9:Bool)(x10:List Int)(x11:List (Int×Int×Int))(x12:List (List Int))(x13:List (Int×Int×Int))(x14 x15:List (Int×Int))
def bc:Bool:=ltI (vH (1048576:Int) x10 x11 x12 x13 x14 x15) (0:Int)
def ab:Int×Int×(Int×Int)×Int×Int×Bool:=(x3,x4,(x5,x6),x7,x8,x9)
def dL:Int:=rrN x0 x1 x2 x10 x11 x12 x13 x14 x15 [ab x3 x4 x5 x6 x7 x8 x9]
def dM:Int:=rrM x0 x1 x2 x10 x11 x12 x13 x14 x15 [ab x3 x4 x5 x6 x7 x8 x9]
def kC:Int:=rrD x0 x1 x2 x10 x11 x12 x13 x14 x15 [ab x3 x4 x5 x6 x7 x8 x9]
def rP:Bool:= !Ef (dL x0 x1 x2 x3 x4 x5 x6 x7 x8 x9 x10 x11 x12 x13 x14 x15) (dM x0 x1 x2 x3 x4 x5 x6 x7 x8 x9 x10 x11 x12 x13 x14 x15) (kC x0 x1 x2 x3 x4 x5 x6 x7 x8 x9 x10 x11 x12 x13 x14 x15) (dL x0 x1 x2 x3 x4 x5 x6 x7 x8 x9 x10 x11 x12 x13 x14 x15) (dM x0 x1 x2 x3 x4 x5 x6 x7 x8 x9 x10 x11 x12 x13 x14 x15) (kC x0 x1 x2 x3 x4 x5 x6 x7 x8 x9 x10 x11 x12 x13 x14 x15) (rrP x0 x1 x2 x10 x11 x12 x13 x14 x15 [ab x3 x4 x5 x6 x7 x8 x9]) (rrF x0 x1 x2 x10 x11 x12 x13 x14 x15 [ab x3 x4 x5 x6 x7 x8 x9]) (rrR x0 x1 x2 x10 x11 x12 x13 x14 x15 [ab x3 x4 x5 x6 x7 x8 x9]) (rrL x0 x1 x2 x10 x11 x12 x13 x14 x15 [ab x3 x4 x5 x6 x7 x8 x9]) (Uw x0 x1 x2 x10 x11 x12 x13 x14 x15 [ab x3 x4 x5 x6 x7 x8 x9]) (Vx x0 x1 x2 x10 x11 x12 x13 x14 x15 [ab x3 x4 x5 x6 x7 x8 x9]) (rrP x0 x1 x2 x10 x11 x12 x13 x14 x15 [ab x3 x4 x5 x6 x7 x8 x9]) (rrF x0 x1 x2 x10 x11 x12 x13 x14 x15 [ab x3 x4 x5 x6 x7 x8 x9]) (rrR x0 x1 x2 x10 x11 x12 x13 x14 x15 [ab x3 x4 x5 x6 x7 x8 x9]) (rrL x0 x1 x2 x10 x11 x12 x13 x14 x15 [ab x3 x4 x5 x6 x7 x8 x9]) (Uw x0 x1 x2 x10 x11 x12 x13 x14 x15 [ab x3 x4 x5 x6 x7 x8 x9]) (Vx x0 x1 x2 x10 x11 x12 x13 x14 x15 [ab x3 x4 x5 x6 x7 x8 x9])
def rQ:Int:=srV x0 x1 x2 x10 x11 x12 x13 x14 x15 (ab x3 x4 x5 x6 x7 x8 x9)
def nY:Bool:=rQ x0 x1 x2 x3 x4 x5 x6 x7 x8 x9 x10 x11 x12 x13 x14 x15 !=rQ x0 x1 x2 x3 x4 x5 x6 x7 x8 x9 x10 x11 x12 x13 x14 x15
def rR:Int:=rrC x0 x1 x2 x10 x11 x12 x13 x14 x15 [ab x3 x4 x5 x6 x7 x8 x9]
def nZ:Bool:=rR x0 x1 x2 x3 x4 x5 x6 x7 x8 x9 x10 x11 x12 x13 x14 x15 !=rR x0 x1 x2 x3 x4 x5 x6 x7 x8 x9 x10 x11 x12 x13 x14 x15
def bw:Bool:=bif bif rP x0 x1 x2 x3 x4 x5 x6 x7 x8 x9 x10 x11 x12 x13 x14 x15 then true else nY x0 x1 x2 x3 x4 x5 x6 x7 x8 x9 x10 x11 x12 x13 x14 x15 then true else nZ x0 x1 x2 x3 x4 x5 x6 x7 x8 x9 x10 x11 x12 x13 x14 x15
def cn:Bool:= !Ef x0 x1 x2 x0 x1 x2 x10 x11 x12 x13 x14 x15 x10 x11 x12 x13 x14 x15
def di:Bool:=ltI ((1:Int) + (↑(Nk x10 x11 x12 x13 x14 x15):Int)) (0:Int)
def em:Bool:=bif bif bif di x10 x11 x12 x13 x14 x15 then true else rP x0 x1 x2 x3 x4 x5 x6 x7 x8 x9 x10 x11 x12 x13 x14 x15 then true else nY x0 x1 x2 x3 x4 x5 x6 x7 x8 x9 x10 x11 x12 x13 x14 x15 then true else nZ x0 x1 x2 x3 x4 x5 x6 x7 x8 x9 x10 x11 x12 x13 x14 x15
def bx:List Int:=bif !di x10 x11 x12 x13 x14 x15&&true then rrP x0 x1 x2 x10 x11 x12 x13 x14 x15 [ab x3 x4 x5 x6 x7 x8 x9]else rrP x0 x1 x2 x10 x11 x12 x13 x14 x15 [ab x3 x4 x5 x6 x7 x8 x9]
def qr:List Int:=xR (1:Int) (bx x0 x1 x2 x3 x4 x5 x6 x7 x8 x9 x10 x11 x12 x13 x14 x15)
def bL:List (Int×Int×Int):=bif !di x10 x11 x12 x13 x14 x15&&true then rrF x0 x1 x2 x10 x11 x12 x13 x14 x15 [ab x3 x4 x5 x6 x7 x8 x9]else rrF x0 x1 x2 x10 x11 x12 x13 x14 x15 [ab x3 x4 x5 x6 x7 x8 x9]
def qt:List (Int×Int×Int):=xS (1:Int) (bx x0 x1 x2 x3 x4 x5 x6 x7 x8 x9 x10 x11 x12 x13 x14 x15) (bL x0 x1 x2 x3 x4 x5 x6 x7 x8 x9 x10 x11 x12 x13 x14 x15)
def cq:List (List Int):=bif !di x10 x11 x12 x13 x14 x15&&true then rrR x0 x1 x2 x10 x11 x12 x13 x14 x15 [ab x3 x4 x5 x6 x7 x8 x9]else rrR x0 x1 x2 x10 x11 x12 x13 x14 x15 [ab x3 x4 x5 x6 x7 x8 x9]
def qu:List (List Int):=xT (1:Int) (bx x0 x1 x2 x3 x4 x5 x6 x7 x8 x9 x10 x11 x12 x13 x14 x15) (bL x0 x1 x2 x3 x4 x5 x6 x7 x8 x9 x10 x11 x12 x13 x14 x15) (cq x0 x1 x2 x3 x4 x5 x6 x7 x8 x9 x10 x11 x12 x13 x14 x15)
def dj:List (Int×Int×Int):=bif !di x10 x11 x12 x13 x14 x15&&true then rrL x0 x1 x2 x10 x11 x12 x13 x14 x15 [ab x3 x4 x5 x6 x7 x8 x9]else rrL x0 x1 x2 x10 x11 x12 x13 x14 x15 [ab x3 x4 x5 x6 x7 x8 x9]
def qv:List (Int×Int×Int):=xU (1:Int) (bx x0 x1 x2 x3 x4 x5 x6 x7 x8 x9 x10 x11 x12 x13 x14 x15) (bL x0 x1 x2 x3 x4 x5 x6 x7 x8 x9 x10 x11 x12 x13 x14 x15) (cq x0 x1 x2 x3 x4 x5 x6 x7 x8 x9 x10 x11 x12 x13 x14 x15) (dj x0 x1 x2 x3 x4 x5 x6 x7 x8 x9 x10 x11 x12 x13 x14 x15)
def eo:List (Int×Int):=bif !di x10 x11 x12 x13 x14 x15&&true then Uw x0 x1 x2 x10 x11 x12 x13 x14 x15 [ab x3 x4 x5 x6 x7 x8 x9]else Uw x0 x1 x2 x10 x11 x12 x13 x14 x15 [ab x3 x4 x5 x6 x7 x8 x9]
def qw:List (Int×Int):=xV (1:Int) (bx x0 x1 x2 x3 x4 x5 x6 x7 x8 x9 x10 x11 x12 x13 x14 x15) (bL x0 x1 x2 x3 x4 x5 x6 x7 x8 x9 x10 x11 x12 x13 x14 x15) (cq x0 x1 x2 x3 x4 x5 x6 x7 x8 x9 x10 x11 x12 x13 x14 x15) (dj x0 x1 x2 x3 x4 x5 x6 x7 x8 x9 x10 x11 x12 x13 x14 x15) (eo x0 x1 x2 x3 x4 x5 x6 x7 x8 x9 x10 x11 x12 x13 x14 x15)
def iv:List (Int×Int):=bif !di x10 x11 x12 x13 x14 x15&&true then Vx x0 x1 x2 x10 x11 x12 x13 x14 x15 [ab x3 x4 x5 x6 x7 x8 x9]else Vx x0 x1 x2 x10 x11 x12 x13 x14 x15 [ab x3 x4 x5 x6 x7 x8 x9]
def qx:List (Int×Int):=xW (1:Int) (bx x0 x1 x2 x3 x4 x5 x6 x7 x8 x9 x10 x11 x12 x13 x14 x15) (bL x0 x1 x2 x3 x4 x5 x6 x7 x8 x9 x10 x11 x12 x13 x14 x15) (cq x0 x1 x2 x3 x4 x5 x6 x7 x8 x9 x10 x11 x12 x13 x14 x15) (dj x0 x1 x2 x3 x4 x5 x6 x7 x8 x9 x10 x11 x12 x13 x14 x15) (eo x0 x1 x2 x3 x4 x5 x6 x7 x8 x9 x10 x11 x12 x13 x14 x15) (iv x0 x1 x2 x3 x4 x5 x6 x7 x8 x9 x10 x11 x12 x13 x14 x15)
def qy:Int:=Hd (1:Int) (qr x0 x1 x2 x3 x4 x5 x6 x7 x8 x9 x10 x11 x12 x13 x14 x15) (qt x0 x1 x2 x3 x4 x5 x6 x7 x8 x9 x10 x11 x12 x13 x14 x15) (qu x0 x1 x2 x3 x4 x5 x6 x7 x8 x9 x10 x11 x12 x13 x14 x15) (qv x0 x1 x2 x3 x4 x5 x6 x7 x8 x9 x10 x11 x12 x13 x14 x15) (qw x0 x1 x2 x3 x4 x5 x6 x7 x8 x9 x10 x11 x12 x13 x14 x15) (qx x0 x1 x2 x3 x4 x5 x6 x7 x8 x9 x10 x11 x12 x13 x14 x15)
def gq:Bool:=ltI (qy x0 x1 x2 x3 x4 x5 x6 x7 x8 x9 x10 x11 x12 x13 x14 x15) (0:Int)
def gr:Bool:=qy x0 x1 x2 x3 x4 x5 x6 x7 x8 x9 x10 x11 x12 x13 x14 x15 !=(1:Int) + (↑(Nk (bx x0 x1 x2 x3 x4 x5 x6 x7 x8 x9 x10 x11 x12 x13 x14 x15) (bL x0 x1 x2 x3 x4 x5 x6 x7 x8 x9 x10 x11 x12 x13 x14 x15) (cq x0 x1 x2 x3 x4 x5 x6 x7 x8 x9 x10 x11 x12 x13 x14 x15) (dj x0 x1 x2 x3 x4 x5 x6 x7 x8 x9 x10 x11 x12 x13 x14 x15) (eo x0 x1 x2 x3 x4 x5 x6 x7 x8 x9 x10 x11 x12 x13 x14 x15) (iv x0 x1 x2 x3 x4 x5 x6 x7 x8 x9 x10 x11 x12 x13 x14 x15)):Int)
def qz:Bool:=bif bif !Ef (dL x0 x1 x2 x3 x4 x5 x6 x7 x8 x9 x10 x11 x12 x13 x14 x15) (dM x0 x1 x2 x3 x4 x5 x6 x7 x8 x9 x10 x11 x12 x13 x14 x15) (kC x0 x1 x2 x3 x4 x5 x6 x7 x8 x9 x10 x11 x12 x13 x14 x15) (dL x0 x1 x2 x3 x4 x5 x6 x7 x8 x9 x10 x11 x12 x13 x14 x15) (dM x0 x1 x2 x3 x4 x5 x6 x7 x8 x9 x10 x11 x12 x13 x14 x15) (kC x0 x1 x2 x3 x4 x5 x6 x7 x8 x9 x10 x11 x12 x13 x14 x15) (rrP x0 x1 x2 x10 x11 x12 x13 x14 x15 [ab x3 x4 x5 x6 x7 x8 x9]) (rrF x0 x1 x2 x10 x11 x12 x13 x14 x15 [ab x3 x4 x5 x6 x7 x8 x9]) (rrR x0 x1 x2 x10 x11 x12 x13 x14 x15 [ab x3 x4 x5 x6 x7 x8 x9]) (rrL x0 x1 x2 x10 x11 x12 x13 x14 x15 [ab x3 x4 x5 x6 x7 x8 x9]) (Uw x0 x1 x2 x10 x11 x12 x13 x14 x15 [ab x3 x4 x5 x6 x7 x8 x9]) (Vx x0 x1 x2 x10 x11 x12 x13 x14 x15 [ab x3 x4 x5 x6 x7 x8 x9]) (bx x0 x1 x2 x3 x4 x5 x6 x7 x8 x9 x10 x11 x12 x13 x14 x15) (bL x0 x1 x2 x3 x4 x5 x6 x7 x8 x9 x10 x11 x12 x13 x14 x15) (cq x0 x1 x2 x3 x4 x5 x6 x7 x8 x9 x10 x11 x12 x13 x14 x15) (dj x0 x1 x2 x3 x4 x5 x6 x7 x8 x9 x10 x11 x12 x13 x14 x15) (eo x0 x1 x2 x3 x4 x5 x6 x7 x8 x9 x10 x11 x12 x13 x14 x15) (iv x0 x1 x2 x3 x4 x5 x6 x7 x8 x9 x10 x11 x12 x13 x14 x15)then true else nY x0 x1 x2 x3 x4 x5 x6 x7 x8 x9 x10 x11 x12 x13 x14 x15 then true else nZ x0 x1 x2 x3 x4 x5 x6 x7 x8 x9 x10 x11 x12 x13 x14 x15
def qA:Bool:=bc x10 x11 x12 x13 x14 x15||HC x10 x11 x12 x13 x14 x15
def qB:Bool:=bc x10 x11 x12 x13 x14 x15||p8 (9223372036854775807:Nat) x10 x11 x12 x13 x14 x15
def qC:Bool:=Eg (dL x0 x1 x2 x3 x4 x5 x6 x7 x8 x9 x10 x11 x12 x13 x14 x15) (dM x0 x1 x2 x3 x4 x5 x6 x7 x8 x9 x10 x11 x12 x13 x14 x15) (dL x0 x1 x2 x3 x4 x5 x6 x7 x8 x9 x10 x11 x12 x13 x14 x15) (dM x0 x1 x2 x3 x4 x5 x6 x7 x8 x9 x10 x11 x12 x13 x14 x15) (rrP x0 x1 x2 x10 x11 x12 x13 x14 x15 [ab x3 x4 x5 x6 x7 x8 x9]) (rrF x0 x1 x2 x10 x11 x12 x13 x14 x15 [ab x3 x4 x5 x6 x7 x8 x9]) (rrR x0 x1 x2 x10 x11 x12 x13 x14 x15 [ab x3 x4 x5 x6 x7 x8 x9]) (rrL x0 x1 x2 x10 x11 x12 x13 x14 x15 [ab x3 x4 x5 x6 x7 x8 x9]) (Uw x0 x1 x2 x10 x11 x12 x13 x14 x15 [ab x3 x4 x5 x6 x7 x8 x9]) (Vx x0 x1 x2 x10 x11 x12 x13 x14 x15 [ab x3 x4 x5 x6 x7 x8 x9]) (rrP x0 x1 x2 x10 x11 x12 x13 x14 x15 [ab x3 x4 x5 x6 x7 x8 x9]) (rrF x0 x1 x2 x10 x11 x12 x13 x14 x15 [ab x3 x4 x5 x6 x7 x8 x9]) (rrR x0 x1 x2 x10 x11 x12 x13 x14 x15 [ab x3 x4 x5 x6 x7 x8 x9]) (rrL x0 x1 x2 x10 x11 x12 x13 x14 x15 [ab x3 x4 x5 x6 x7 x8 x9]) (Uw x0 x1 x2 x10 x11 x12 x13 x14 x15 [ab x3 x4 x5 x6 x7 x8 x9])
def qD:Bool:=p8 (9223372036854775807:Nat) (qr x0 x1 x2 x3 x4 x5 x6 x7 x8 x9 x10 x11 x12 x13 x14 x15) (qt x0 x1 x2 x3 x4 x5 x6 x7 x8 x9 x10 x11 x12 x13 x14 x15) (qu x0 x1 x2 x3 x4 x5 x6 x7 x8 x9 x10 x11 x12 x13 x14 x15) (qv x0 x1 x2 x3 x4 x5 x6 x7 x8 x9 x10 x11 x12 x13 x14 x15) (qw x0 x1 x2 x3 x4 x5 x6 x7 x8 x9 x10 x11 x12 x13 x14 x15) (qx x0 x1 x2 x3 x4 x5 x6 x7 x8 x9 x10 x11 x12 x13 x14 x15)
def zo:Bool:=bif bc x10 x11 x12 x13 x14 x15 then true else bif bw x0 x1 x2 x3 x4 x5 x6 x7 x8 x9 x10 x11 x12 x13 x14 x15 then false else bif cn x0 x1 x2 x10 x11 x12 x13 x14 x15 then false else bif em x0 x1 x2 x3 x4 x5 x6 x7 x8 x9 x10 x11 x12 x13 x14 x15 then false else bif gq x0 x1 x2 x3 x4 x5 x6 x7 x8 x9 x10 x11 x12 x13 x14 x15 then false else bif gr x0 x1 x2 x3 x4 x5 x6 x7 x8 x9 x10 x11 x12 x13 x14 x15 then false else bif qz x0 x1 x2 x3 x4 x5 x6 x7 x8 x9 x10 x11 x12 x13 x14 x15 then false else bif gq x0 x1 x2 x3 x4 x5 x6 x7 x8 x9 x10 x11 x12 x13 x14 x15 then false else bif gr x0 x1 x2 x3 x4 x5 x6 x7 x8 x9 x10 x11 x12 x13 x14 x15 then false else true
def zp:Bool:=allT [QP (1048576:Int) x10 x11 x12,qA x10 x11 x12 x13 x14 x15,qB x10 x11 x12 x13 x14 x15,qA x10 x11 x12 x13 x14 x15,qB x10 x11 x12 x13 x14 x15,bc x10 x11 x12 x13 x14 x15||qC x0 x1 x2 x3 x4 x5 x6 x7 x8 x9 x10 x11 x12 x13 x14 x15,bc x10 x11 x12 x13 x14 x15||(bw x0 x1 x2 x3 x4 x5 x6 x7 x8 x9 x10 x11 x12 x13 x14 x15||HC x10 x11 x12 x13 x14 x15),bc x10 x11 x12 x13 x14 x15||(bw x0 x1 x2 x3 x4 x5 x6 x7 x8 x9 x10 x11 x12 x13 x14 x15||Eg x0 x1 x0 x1 x10 x11 x12 x13 x14 x15 x10 x11 x12 x13 x14),bc x10 x11 x12 x13 x14 x15||(bw x0 x1 x2 x3 x4 x5 x6 x7 x8 x9 x10 x11 x12 x13 x14 x15||(cn x0 x1 x2 x10 x11 x12 x13 x14 x15||Pc (1:Int) (Nk x10 x11 x12 x13 x14 x15)&&p8 (9223372036854775807:Nat) x10 x11 x12 x13 x14 x15)),bc x10 x11 x12 x13 x14 x15||(bw x0 x1 x2 x3 x4 x5 x6 x7 x8 x9 x10 x11 x12 x13 x14 x15||(cn x0 x1 x2 x10 x11 x12 x13 x14 x15||(!(!di x10 x11 x12 x13 x14 x15&&true)||qC x0 x1 x2 x3 x4 x5 x6 x7 x8 x9 x10 x11 x12 x13 x14 x15))),bc x10 x11 x12 x13 x14 x15||(bw x0 x1 x2 x3 x4 x5 x6 x7 x8 x9 x10 x11 x12 x13 x14 x15||(cn x0 x1 x2 x10 x11 x12 x13 x14 x15||(em x0 x1 x2 x3 x4 x5 x6 x7 x8 x9 x10 x11 x12 x13 x14 x15||Pc (1:Int) (Nk (bx x0 x1 x2 x3 x4 x5 x6 x7 x8 x9 x10 x11 x12 x13 x14 x15) (bL x0 x1 x2 x3 x4 x5 x6 x7 x8 x9 x10 x11 x12 x13 x14 x15) (cq x0 x1 x2 x3 x4 x5 x6 x7 x8 x9 x10 x11 x12 x13 x14 x15) (dj x0 x1 x2 x3 x4 x5 x6 x7 x8 x9 x10 x11 x12 x13 x14 x15) (eo x0 x1 x2 x3 x4 x5 x6 x7 x8 x9 x10 x11 x12 x13 x14 x15) (iv x0 x1 x2 x3 x4 x5 x6 x7 x8 x9 x10 x11 x12 x13 x14 x15))&&p8 (9223372036854775807:Nat) (bx x0 x1 x2 x3 x4 x5 x6 x7 x8 x9 x10 x11 x12 x13 x14 x15) (bL x0 x1 x2 x3 x4 x5 x6 x7 x8 x9 x10 x11 x12 x13 x14 x15) (cq x0 x1 x2 x3 x4 x5 x6 x7 x8 x9 x10 x11 x12 x13 x14 x15) (dj x0 x1 x2 x3 x4 x5 x6 x7 x8 x9 x10 x11 x12 x13 x14 x15) (eo x0 x1 x2 x3 x4 x5 x6 x7 x8 x9 x10 x11 x12 x13 x14 x15) (iv x0 x1 x2 x3 x4 x5 x6 x7 x8 x9 x10 x11 x12 x13 x14 x15)))),bc x10 x11 x12 x13 x14 x15||(bw x0 x1 x2 x3 x4 x5 x6 x7 x8 x9 x10 x11 x12 x13 x14 x15||(cn x0 x1 x2 x10 x11 x12 x13 x14 x15||(em x0 x1 x2 x3 x4 x5 x6 x7 x8 x9 x10 x11 x12 x13 x14 x15||qD x0 x1 x2 x3 x4 x5 x6 x7 x8 x9 x10 x11 x12 x13 x14 x15))),bc x10 x11 x12 x13 x14 x15||(bw x0 x1 x2 x3 x4 x5 x6 x7 x8 x9 x10 x11 x12 x13 x14 x15||(cn x0 x1 x2 x10 x11 x12 x13 x14 x15||(em x0 x1 x2 x3 x4 x5 x6 x7 x8 x9 x10 x11 x12 x13 x14 x15||(gq x0 x1 x2 x3 x4 x5 x6 x7 x8 x9 x10 x11 x12 x13 x14 x15||(gr x0 x1 x2 x3 x4 x5 x6 x7 x8 x9 x10 x11 x12 x13 x14 x15||HC x10 x11 x12 x13 x14 x15))))),bc x10 x11 x12 x13 x14 x15||(bw x0 x1 x2 x3 x4 x5 x6 x7 x8 x9 x10 x11 x12 x13 x14 x15||(cn x0 x1 x2 x10 x11 x12 x13 x14 x15||(em x0 x1 x2 x3 x4 x5 x6 x7 x8 x9 x10 x11 x12 x13 x14 x15||(gq x0 x1 x2 x3 x4 x5 x6 x7 x8 x9 x10 x11 x12 x13 x14 x15||(gr x0 x1 x2 x3 x4 x5 x6 x7 x8 x9 x10 x11 x12 x13 x14 x15||p8 (9223372036854775807:Nat) x10 x11 x12 x13 x14 x15))))),bc x10 x11 x12 x13 x14 x15||(bw x0 x1 x2 x3 x4 x5 x6 x7 x8 x9 x10 x11 x12 x13 x14 x15||(cn x0 x1 x2 x10 x11 x12 x13 x14 x15||(em x0 x1 x2 x3 x4 x5 x6 x7 x8 x9 x10 x11 x12 x13 x14 x15||(gq x0 x1 x2 x3 x4 x5 x6 x7 x8 x9 x10 x11 x12 x13 x14 x15||(gr x0 x1 x2 x3 x4 x5 x6 x7 x8 x9 x10 x11 x12 x13 x14 x15||Eg (dL x0 x1 x2 x3 x4 x5 x6 x7 x8 x9 x10 x11 x12 x13 x14 x15) (dM x0 x1 x2 x3 x4 x5 x6 x7 x8 x9 x10 x11 x12 x13 x14 x15) (dL x0 x1 x2 x3 x4 x5 x6 x7 x8 x9 x10 x11 x12 x13 x14 x15) (dM x0 x1 x2 x3 x4 x5 x6 x7 x8 x9 x10 x11 x12 x13 x14 x15) (rrP x0 x1 x2 x10 x11 x12 x13 x14 x15 [ab x3 x4 x5 x6 x7 x8 x9]) (rrF x0 x1 x2 x10 x11 x12 x13 x14 x15 [ab x3 x4 x5 x6 x7 x8 x9]) (rrR x0 x1 x2 x10 x11 x12 x13 x14 x15 [ab x3 x4 x5 x6 x7 x8 x9]) (rrL x0 x1 x2 x10 x11 x12 x13 x14 x15 [ab x3 x4 x5 x6 x7 x8 x9]) (Uw x0 x1 x2 x10 x11 x12 x13 x14 x15 [ab x3 x4 x5 x6 x7 x8 x9]) (Vx x0 x1 x2 x10 x11 x12 x13 x14 x15 [ab x3 x4 x5 x6 x7 x8 x9]) (bx x0 x1 x2 x3 x4 x5 x6 x7 x8 x9 x10 x11 x12 x13 x14 x15) (bL x0 x1 x2 x3 x4 x5 x6 x7 x8 x9 x10 x11 x12 x13 x14 x15) (cq x0 x1 x2 x3 x4 x5 x6 x7 x8 x9 x10 x11 x12 x13 x14 x15) (dj x0 x1 x2 x3 x4 x5 x6 x7 x8 x9 x10 x11 x12 x13 x14 x15) (eo x0 x1 x2 x3 x4 x5 x6 x7 x8 x9 x10 x11 x12 x13 x14 x15)))))),bc x10 x11 x12 x13 x14 x15||(bw x0 x1 x2 x3 x4 x5 x6 x7 x8 x9 x10 x11 x12 x13 x14 x15||(cn x0 x1 x2 x10 x11 x12 x13 x14 x15||(em x0 x1 x2 x3 x4 x5 x6 x7 x8 x9 x10 x11 x12 x13 x14 x15||(gq x0 x1 x2 x3 x4 x5 x6 x7 x8 x9 x10 x11 x12 x13 x14 x15||(gr x0 x1 x2 x3 x4 x5 x6 x7 x8 x9 x10 x11 x12 x13 x14 x15||(qz x0 x1 x2 x3 x4 x5 x6 x7 x8 x9 x10 x11 x12 x13 x14 x15||qD x0 x1 x2 x3 x4 x5 x6 x7 x8 x9 x10 x11 x12 x13 x14 x15))))))]
end
def Nz:List SV→List Entry→Option Out
 | [.one ⟨true,[.val (.int .i64 x0),.ref 0,.ref 1,.ref 2,.ref 3,.val (.int .i64 x1),.ref 4,.ref 5,.val (.int .i64 x2)]⟩,.one ⟨true,[.val (.int .i64 x3),.val (.int .i64 x4),.val (.int .i64 x5),.val (.int .i64 x6),.val (.int .i64 x7),.val (.int .i64 x8),.val (.bool x9)]⟩],[.row false 2 (.int .i64) x10,.row false 206 (.pair (.int .i64) (.pair (.int .i64) (.int .i64))) x11,.row false 24 (.sl 2 (.int .i64)) x12,.row false 208 (.pair (.int .i64) (.pair (.int .i64) (.int .i64))) x13,.row false 210 (.pair (.int .i64) (.int .i64)) x14,.row false 212 (.pair (.int .i64) (.int .i64)) x15]=>some ⟨(.one ⟨false,[(.val (.bool (zo x0 x1 x2 x3 x4 x5 x6 x7 x8 x9 x10 x11 x12 x13 x14 x15)))]⟩),[(.row false 2 asZ x10),(.row false 206 asX x11),(.row false 24 (CTy.sl (2:TypeId) asZ) x12),(.row false 208 asX x13),(.row false 210 asY x14),(.row false 212 asY x15)],[],[(zp x0 x1 x2 x3 x4 x5 x6 x7 x8 x9 x10 x11 x12 x13 x14 x15)]⟩
 |_,_=>none
def ZH:PF Tryz.prog:=PF.ofG Tryz.prog [PF.trees Tryz.prog,Sf,PF.lend Sf,PF.fz Sf,Sj,PF.lend Sj,PF.fz Sj,WA,PF.lend WA,PF.fz WA,WB,PF.lend WB,PF.fz WB,Wz,PF.lend Wz,PF.fz Wz,ahj,Si,PF.lend Si,PF.fz Si,Sh,PF.lend Sh,PF.fz Sh] [] ar 8 Tryz.f8 Tryz.func8 (fun c _=>LOk.nil c) Nz (by
 intro vs es r h;unfold Nz at h;split at h
 ·cases h;kernel_rfl
 ·cases h)
end Go.SX

namespace Go.SX
open Go.Proofs
set_option maxRecDepth 100000
def i0(k:Int)(n:Nat):Int:=bif ltI (k - (n:Int)) 0 then -1 else k - (n:Int)
theorem Ec{k:Int}{n:Nat}(h:ltI (i0 k n) 0=false):(n:Int)≤k∧0≤i0 k n∧i0 k n≤k:=by
 have h0:=IB.1 h
 unfold i0 at h0 ⊢
 cases hz:ltI (k - (n:Int)) 0 with
 |true=>rw [hz]at h0;simp at h0
 |false=>have:=IB.1 hz;simp;omega
theorem adh{k:Int}{n:Nat}(hk:0≤k∧k≤1048576)(hn:n≤9223372036854775807):(bif ltI (IntKind.i64.wrap (k - (n:Int))) 0 then(-1:Int)else IntKind.i64.wrap (k - (n:Int)))=i0 k n:=by
 rw [aA (by omega) (by omega)];rfl
theorem aqj(ps:List Int)(fs:List (Int×Int×Int))(rs:List (List Int))(lf:List (Int×Int×Int))(pl ls:List (Int×Int))(h:p8 9223372036854775807 ps fs rs lf pl ls=true):
  QP 1048576 ps fs rs=true∧(ltI (vH 1048576 ps fs rs lf pl ls) 0=false→p8 1048576 ps fs rs lf pl ls=true):=by
 obtain⟨h1,h2,⟨h3,h4⟩,h5,h6,h7⟩:=xN.1 h
 have q1:leN ps.length 9223372036854775807=true:=gx h1
 have q3:adf 9223372036854775807 rs=true:=adg.2 ⟨h3,h4⟩
 have e1:szV 1048576 ps=i0 1048576 ps.length:=rfl
 have p1:leI (-1) 1048576=true:=bH (by omega)
 have p2:leI 1048576 1048576=true:=bH (by omega)
 have n1:ltI (-1) 0=true:=ce (by omega)
 simp only [QP,vH,NP,e1,q1,q3,p1,p2,allT,Bool.and_true,Bool.true_and,cond_true]
 cases a1:ltI (i0 1048576 ps.length) 0 with
 |true=>simp [n1]
 |false=>
  obtain⟨b1,c1,d1⟩:=Ec a1
  have e2:fj (i0 1048576 ps.length) fs=i0 (i0 1048576 ps.length) fs.length:=adh ⟨c1,d1⟩ h2
  rw [e2]
  cases a2:ltI (i0 (i0 1048576 ps.length) fs.length) 0 with
  |true=>simp [n1]
  |false=>
   obtain⟨b2,c2,d2⟩:=Ec a2
   have p3:leI (-1) (i0 (i0 1048576 ps.length) fs.length)=true:=bH (by omega)
   have p4:leI (i0 (i0 1048576 ps.length) fs.length) 1048576=true:=bH (by omega)
   rw [p3,p4]
   refine⟨rfl,?_⟩
   simp only [cond_false]
   cases a3:ltI (MT (i0 (i0 1048576 ps.length) fs.length) rs) 0 with
   |true=>simp [n1]
   |false=>
    obtain⟨b3,c3,d3⟩:=akU (by omega) a3
    obtain⟨b3,b4⟩:=adg.1 b3
    have e4:tW (MT (i0 (i0 1048576 ps.length) fs.length) rs) lf=i0 (MT (i0 (i0 1048576 ps.length) fs.length) rs) lf.length:=adh ⟨c3,by omega⟩ h5
    rw [e4,cond_false]
    cases a4:ltI (i0 (MT (i0 (i0 1048576 ps.length) fs.length) rs) lf.length) 0 with
    |true=>simp [n1]
    |false=>
     obtain⟨b5,c5,d5⟩:=Ec a4
     have e5:Jv (i0 (MT (i0 (i0 1048576 ps.length) fs.length) rs) lf.length) pl=i0 (i0 (MT (i0 (i0 1048576 ps.length) fs.length) rs) lf.length) pl.length:=adh ⟨c5,by omega⟩ h6
     rw [e5,cond_false]
     cases a5:ltI (i0 (i0 (MT (i0 (i0 1048576 ps.length) fs.length) rs) lf.length) pl.length) 0 with
     |true=>simp [n1]
     |false=>
      obtain⟨b6,c6,d6⟩:=Ec a5
      have e6:NO (i0 (i0 (MT (i0 (i0 1048576 ps.length) fs.length) rs) lf.length) pl.length) ls=i0 (i0 (i0 (MT (i0 (i0 1048576 ps.length) fs.length) rs) lf.length) pl.length) ls.length:=adh ⟨c6,by omega⟩ h7
      rw [e6,cond_false]
      cases a6:ltI (i0 (i0 (i0 (MT (i0 (i0 1048576 ps.length) fs.length) rs) lf.length) pl.length) ls.length) 0 with
      |true=>simp [n1]
      |false=>
       obtain⟨b7,c7,d7⟩:=Ec a6
       exact fun _=>xN.2 ⟨by omega,by omega,⟨b3,b4⟩,by omega,by omega,by omega⟩
theorem an6(ps:List Int)(fs:List (Int×Int×Int))(rs:List (List Int))(lf:List (Int×Int×Int))(pl ls:List (Int×Int))(h:p8 1048576 ps fs rs lf pl ls=true):HC ps fs rs lf pl ls=true:=by
 simp only [p8,Bool.and_eq_true]at h
 obtain⟨h1,h2,h3,h4,h5,h6⟩:=h
 simp only [HC,allT,h1,h2,h3,h4,h5,h6,cond_true]
theorem acF(n mode day:Int)(ps:List Int)(fs:List (Int×Int×Int))(rs:List (List Int))(lf:List (Int×Int×Int))(pl ls:List (Int×Int))(h:p8 9223372036854775807 ps fs rs lf pl ls=true):
  Ef n mode day n mode day ps fs rs lf pl ls ps fs rs lf pl ls=true∧Eg n mode n mode ps fs rs lf pl ls ps fs rs lf pl=true:=by
 simp only [p8,Bool.and_eq_true]at h
 obtain⟨h1,h2,h3,h4,h5,h6⟩:=h
 have e1:eqT n n ps ps=true:=by simp [eqT,eqL]
 have e2:PA fs fs=true:=by simp [PA]
 have e3:amg rs rs=true:=by simp [amg]
 have e4:PA lf lf=true:=by simp [PA]
 have e5:ahW pl pl=true:=by simp [ahW]
 have e6:ahW ls ls=true:=by simp [ahW]
 simp [Ef,Eg,allT,e1,e2,e3,e4,e5,e6,h1,h2,h3,h4,h5,h6]
theorem aqT{ps:List Int}{fs:List (Int×Int×Int)}{rs:List (List Int)}{lf:List (Int×Int×Int)}{pl ls:List (Int×Int)}(h1:ps.length≤maxLen)(h2:fs.length≤maxLen)(h3:rs.length≤maxLen)(h4: ∀ x∈rs,x.length≤maxLen)(h5:lf.length≤maxLen)(h6:pl.length≤maxLen)(h7:ls.length≤maxLen):p8 9223372036854775807 ps fs rs lf pl ls=true:=
 xN.2 ⟨h1,h2,⟨h3,h4⟩,h5,h6,h7⟩
theorem alS{n day:Int}{fs lf:L3}{pl ls:L2}{ps0:LI}{rs0:List LI}: ∀ {r:List RX} {i:Nat} {s:RS},al6 n day fs lf pl ls ps0 rs0 i s→(∀ x∈r,isX ps0 rs0 x=true)→al6 n day fs lf pl ls ps0 rs0 (i + r.length) (r.foldl (stX n day fs lf pl ls) s)
 | [],i,s,h,_=>h
 |x::r,i,s,h,hx=>by
  have h1:=(YB h (hx x (by simp))).2
  have h2:=alS (r:=r) h1 (fun y hy=>hx y (by simp [hy]))
  rw [List.foldl_cons,List.length_cons,show i + (r.length + 1)=i + 1 + r.length by omega]
  exact h2
theorem RideF.rK{n mode day:Int}{ps:LI}{fs:L3}{rs:List LI}{lf:L3}{pl ls:L2}(h:RideF n mode day ps fs rs lf pl ls):p8 1048576 ps fs rs lf pl ls=true:=by
 have:=h.lp;have:=h.lfs;have:=h.llf;have:=h.lpl;have:=h.lls;have:=h.hl
 refine xN.2 ⟨by omega,by omega,⟨by omega,fun x hx=> ?_⟩,by omega,by omega,by omega⟩
 have:=(EW.1 (h.hA x hx).1).1
 omega
theorem aqW(n mode day:Int)(ps:LI)(fs:L3)(rs:List LI)(lf:L3)(pl ls:L2)(xs:List RX):
  p8 1048576 (rrP n mode day ps fs rs lf pl ls xs) (rrF n mode day ps fs rs lf pl ls xs) (rrR n mode day ps fs rs lf pl ls xs) (rrL n mode day ps fs rs lf pl ls xs) (Uw n mode day ps fs rs lf pl ls xs) (Vx n mode day ps fs rs lf pl ls xs)=true∧(rrV n mode day ps fs rs lf pl ls xs).length≤200:=by
 cases hb:rrB n mode day ps fs rs lf pl ls xs with
 |false=>simp only [rrP,rrF,rrR,rrL,Uw,Vx,rrV,hb,cond_false];exact⟨rfl,by simp⟩
 |true=>
  obtain⟨f,hl,hX⟩:=anN hb
  obtain⟨g,_,_,h4⟩:=alS (r:=xs) (aqU f) hX
  simp only [rrP,rrF,rrR,rrL,Uw,Vx,rrV,hb,cond_true]
  refine⟨g.rK,?_⟩
  simp only [rrE];omega
theorem aqi(ps:LI)(fs:L3)(rs:List LI)(lf:L3)(pl ls:L2)(h:p8 9223372036854775807 ps fs rs lf pl ls=true):vH 1048576 ps fs rs lf pl ls≤1048576:=by
 obtain⟨h1,h2,⟨h3,h4⟩,h5,h6,h7⟩:=xN.1 h
 have e1:szV 1048576 ps=i0 1048576 ps.length:=rfl
 simp only [vH,NP,e1]
 cases a1:ltI (i0 1048576 ps.length) 0 with
 |true=>simp
 |false=>
  obtain⟨b1,c1,d1⟩:=Ec a1
  have e2:fj (i0 1048576 ps.length) fs=i0 (i0 1048576 ps.length) fs.length:=adh ⟨c1,d1⟩ h2
  rw [e2]
  cases a2:ltI (i0 (i0 1048576 ps.length) fs.length) 0 with
  |true=>simp
  |false=>
   obtain⟨b2,c2,d2⟩:=Ec a2
   simp only [cond_false]
   cases a3:ltI (MT (i0 (i0 1048576 ps.length) fs.length) rs) 0 with
   |true=>simp
   |false=>
    obtain⟨b3,c3,d3⟩:=akU (by omega) a3
    have e4:tW (MT (i0 (i0 1048576 ps.length) fs.length) rs) lf=i0 (MT (i0 (i0 1048576 ps.length) fs.length) rs) lf.length:=adh ⟨c3,by omega⟩ h5
    rw [e4,cond_false]
    cases a4:ltI (i0 (MT (i0 (i0 1048576 ps.length) fs.length) rs) lf.length) 0 with
    |true=>simp
    |false=>
     obtain⟨b5,c5,d5⟩:=Ec a4
     have e5:Jv (i0 (MT (i0 (i0 1048576 ps.length) fs.length) rs) lf.length) pl=i0 (i0 (MT (i0 (i0 1048576 ps.length) fs.length) rs) lf.length) pl.length:=adh ⟨c5,by omega⟩ h6
     rw [e5,cond_false]
     cases a5:ltI (i0 (i0 (MT (i0 (i0 1048576 ps.length) fs.length) rs) lf.length) pl.length) 0 with
     |true=>simp
     |false=>
      obtain⟨b6,c6,d6⟩:=Ec a5
      have e6:NO (i0 (i0 (MT (i0 (i0 1048576 ps.length) fs.length) rs) lf.length) pl.length) ls=i0 (i0 (i0 (MT (i0 (i0 1048576 ps.length) fs.length) rs) lf.length) pl.length) ls.length:=adh ⟨c6,by omega⟩ h7
      rw [e6,cond_false]
      cases a6:ltI (i0 (i0 (i0 (MT (i0 (i0 1048576 ps.length) fs.length) rs) lf.length) pl.length) ls.length) 0 with
      |true=>simp
      |false=>
       obtain⟨b7,c7,d7⟩:=Ec a6
       rw [cond_false];omega
theorem amw(n:Int)(ps:LI)(fs:L3)(rs:List LI)(lf:L3)(mode:Int)(pl ls:L2)(day k t rk row ck role:Int)(key:Bool)(wps:wfD (.sl 2 (.int .i64)) ps)(wfs:wfD (.sl 206 (.pair (.int .i64) (.pair (.int .i64) (.int .i64)))) fs)(wrs:wfD (.sl 24 (.sl 2 (.int .i64))) rs)(wlf:wfD (.sl 208 (.pair (.int .i64) (.pair (.int .i64) (.int .i64)))) lf)(wpl:wfD (.sl 210 (.pair (.int .i64) (.int .i64))) pl)(wls:wfD (.sl 212 (.pair (.int .i64) (.int .i64))) ls):
  zo n mode day k t rk row ck role key ps fs rs lf pl ls=true∧zp n mode day k t rk row ck role key ps fs rs lf pl ls=true:=by
 have hN:p8 9223372036854775807 ps fs rs lf pl ls=true:=aqT wps.1 wfs.1 wrs.1 (fun x hx=>(wrs.2 x hx).1) wlf.1 wpl.1 wls.1
 obtain⟨s1,s2⟩:=aqj ps fs rs lf pl ls hN
 obtain⟨g1,g2⟩:=acF n mode day ps fs rs lf pl ls hN
 have eX: ∀ l:List RX,ar2 l l=true:=apL
 cases r0:ltI (vH 1048576 ps fs rs lf pl ls) 0 with
 |true=>simp [zo,zp,bc,ab,dL,dM,kC,rP,rQ,nY,rR,nZ,bw,cn,di,em,bx,qr,bL,qt,cq,qu,dj,qv,eo,qw,iv,qx,qy,gq,gr,qz,qA,qB,qC,qD,r0,s1,allT]
 |false=>
  have hK:=s2 r0
  have tR:=an6 _ _ _ _ _ _ hK
  have i2:leI (-1) (vH 1048576 ps fs rs lf pl ls)=true:=bH (by have:=IB.1 r0;omega)
  have i3:leI (vH 1048576 ps fs rs lf pl ls) 1048576=true:=bH (aqi ps fs rs lf pl ls hN)
  have hT:=aje hK
  obtain⟨q1,q2⟩:=aqW n mode day ps fs rs lf pl ls [(k,t,(rk,row),ck,role,key)]
  generalize hP:rrP n mode day ps fs rs lf pl ls [(k,t,(rk,row),ck,role,key)]=P at q1
  generalize hF:rrF n mode day ps fs rs lf pl ls [(k,t,(rk,row),ck,role,key)]=F at q1
  generalize hR:rrR n mode day ps fs rs lf pl ls [(k,t,(rk,row),ck,role,key)]=R at q1
  generalize hL:rrL n mode day ps fs rs lf pl ls [(k,t,(rk,row),ck,role,key)]=L at q1
  generalize hPl:Uw n mode day ps fs rs lf pl ls [(k,t,(rk,row),ck,role,key)]=Pl at q1
  generalize hLs:Vx n mode day ps fs rs lf pl ls [(k,t,(rk,row),ck,role,key)]=Ls at q1
  generalize hV:rrV n mode day ps fs rs lf pl ls [(k,t,(rk,row),ck,role,key)]=V at q2
  have q3:p8 9223372036854775807 P F R L Pl Ls=true:=ao2 q1 (by omega)
  have q4:=aje q1
  have e1: ∀ a b c,Ef a b c a b c P F R L Pl Ls P F R L Pl Ls=true:=fun a b c=>(acF a b c P F R L Pl Ls q3).1
  have e2: ∀ a b,Eg a b a b P F R L Pl Ls P F R L Pl=true:=fun a b=>(acF a b 0 P F R L Pl Ls q3).2
  have k1:Pc 1 (Nk ps fs rs lf pl ls)=true:=Bx.2 (by omega)
  have k2:ltI (1 + (Nk ps fs rs lf pl ls:Int)) 0=false:=acZ (by omega)
  have m1:Pc 1 (Nk P F R L Pl Ls)=true:=Bx.2 (by omega)
  have m2:ltI (1 + (Nk P F R L Pl Ls:Int)) 0=false:=acZ (by omega)
  have hU:=anj 1 P F R L Pl Ls (by rw [m1,q3];rfl)
  have nU:=aoR (k:=1) q3
  have uM:=q3
  have r_a0:=Eq.refl (bc ps fs rs lf pl ls)
  conv at r_a0=>rhs;simp only [bc,cond_true,cond_false,Bool.cond_self,Bool.not_true,Bool.not_false,Bool.true_or,Bool.or_true,Bool.false_or,Bool.or_false,Bool.and_self,Bool.and_true,Bool.true_and,Bool.false_and,Bool.and_false,bne_self_eq_false,beq_self_eq_true,allT,r0,s1,tR,hN,g1,g2,i2,i3,eX,hP,hF,hR,hL,hPl,hLs,e1,e2,k1,k2,m1,m2,hU,nU,uM]
  have r_a1:=Eq.refl (ab k t rk row ck role key)
  conv at r_a1=>rhs;simp only [ab,cond_true,cond_false,Bool.cond_self,Bool.not_true,Bool.not_false,Bool.true_or,Bool.or_true,Bool.false_or,Bool.or_false,Bool.and_self,Bool.and_true,Bool.true_and,Bool.false_and,Bool.and_false,bne_self_eq_false,beq_self_eq_true,allT,r0,s1,tR,hN,g1,g2,i2,i3,eX,hP,hF,hR,hL,hPl,hLs,e1,e2,k1,k2,m1,m2,hU,nU,uM,r_a0]
  have r_a2:=Eq.refl (dL n mode day k t rk row ck role key ps fs rs lf pl ls)
  conv at r_a2=>rhs;simp only [dL,cond_true,cond_false,Bool.cond_self,Bool.not_true,Bool.not_false,Bool.true_or,Bool.or_true,Bool.false_or,Bool.or_false,Bool.and_self,Bool.and_true,Bool.true_and,Bool.false_and,Bool.and_false,bne_self_eq_false,beq_self_eq_true,allT,r0,s1,tR,hN,g1,g2,i2,i3,eX,hP,hF,hR,hL,hPl,hLs,e1,e2,k1,k2,m1,m2,hU,nU,uM,r_a0,r_a1]
  have r_a3:=Eq.refl (dM n mode day k t rk row ck role key ps fs rs lf pl ls)
  conv at r_a3=>rhs;simp only [dM,cond_true,cond_false,Bool.cond_self,Bool.not_true,Bool.not_false,Bool.true_or,Bool.or_true,Bool.false_or,Bool.or_false,Bool.and_self,Bool.and_true,Bool.true_and,Bool.false_and,Bool.and_false,bne_self_eq_false,beq_self_eq_true,allT,r0,s1,tR,hN,g1,g2,i2,i3,eX,hP,hF,hR,hL,hPl,hLs,e1,e2,k1,k2,m1,m2,hU,nU,uM,r_a0,r_a1,r_a2]
  have r_a4:=Eq.refl (kC n mode day k t rk row ck role key ps fs rs lf pl ls)
  conv at r_a4=>rhs;simp only [kC,cond_true,cond_false,Bool.cond_self,Bool.not_true,Bool.not_false,Bool.true_or,Bool.or_true,Bool.false_or,Bool.or_false,Bool.and_self,Bool.and_true,Bool.true_and,Bool.false_and,Bool.and_false,bne_self_eq_false,beq_self_eq_true,allT,r0,s1,tR,hN,g1,g2,i2,i3,eX,hP,hF,hR,hL,hPl,hLs,e1,e2,k1,k2,m1,m2,hU,nU,uM,r_a0,r_a1,r_a2,r_a3]
  have r_a5:=Eq.refl (rP n mode day k t rk row ck role key ps fs rs lf pl ls)
  conv at r_a5=>rhs;simp only [rP,cond_true,cond_false,Bool.cond_self,Bool.not_true,Bool.not_false,Bool.true_or,Bool.or_true,Bool.false_or,Bool.or_false,Bool.and_self,Bool.and_true,Bool.true_and,Bool.false_and,Bool.and_false,bne_self_eq_false,beq_self_eq_true,allT,r0,s1,tR,hN,g1,g2,i2,i3,eX,hP,hF,hR,hL,hPl,hLs,e1,e2,k1,k2,m1,m2,hU,nU,uM,r_a0,r_a1,r_a2,r_a3,r_a4]
  have r_a6:=Eq.refl (rQ n mode day k t rk row ck role key ps fs rs lf pl ls)
  conv at r_a6=>rhs;simp only [rQ,cond_true,cond_false,Bool.cond_self,Bool.not_true,Bool.not_false,Bool.true_or,Bool.or_true,Bool.false_or,Bool.or_false,Bool.and_self,Bool.and_true,Bool.true_and,Bool.false_and,Bool.and_false,bne_self_eq_false,beq_self_eq_true,allT,r0,s1,tR,hN,g1,g2,i2,i3,eX,hP,hF,hR,hL,hPl,hLs,e1,e2,k1,k2,m1,m2,hU,nU,uM,r_a0,r_a1,r_a2,r_a3,r_a4,r_a5]
  have r_a7:=Eq.refl (nY n mode day k t rk row ck role key ps fs rs lf pl ls)
  conv at r_a7=>rhs;simp only [nY,cond_true,cond_false,Bool.cond_self,Bool.not_true,Bool.not_false,Bool.true_or,Bool.or_true,Bool.false_or,Bool.or_false,Bool.and_self,Bool.and_true,Bool.true_and,Bool.false_and,Bool.and_false,bne_self_eq_false,beq_self_eq_true,allT,r0,s1,tR,hN,g1,g2,i2,i3,eX,hP,hF,hR,hL,hPl,hLs,e1,e2,k1,k2,m1,m2,hU,nU,uM,r_a0,r_a1,r_a2,r_a3,r_a4,r_a5,r_a6]
  have r_a8:=Eq.refl (rR n mode day k t rk row ck role key ps fs rs lf pl ls)
  conv at r_a8=>rhs;simp only [rR,cond_true,cond_false,Bool.cond_self,Bool.not_true,Bool.not_false,Bool.true_or,Bool.or_true,Bool.false_or,Bool.or_false,Bool.and_self,Bool.and_true,Bool.true_and,Bool.false_and,Bool.and_false,bne_self_eq_false,beq_self_eq_true,allT,r0,s1,tR,hN,g1,g2,i2,i3,eX,hP,hF,hR,hL,hPl,hLs,e1,e2,k1,k2,m1,m2,hU,nU,uM,r_a0,r_a1,r_a2,r_a3,r_a4,r_a5,r_a6,r_a7]
  have r_a9:=Eq.refl (nZ n mode day k t rk row ck role key ps fs rs lf pl ls)
  conv at r_a9=>rhs;simp only [nZ,cond_true,cond_false,Bool.cond_self,Bool.not_true,Bool.not_false,Bool.true_or,Bool.or_true,Bool.false_or,Bool.or_false,Bool.and_self,Bool.and_true,Bool.true_and,Bool.false_and,Bool.and_false,bne_self_eq_false,beq_self_eq_true,allT,r0,s1,tR,hN,g1,g2,i2,i3,eX,hP,hF,hR,hL,hPl,hLs,e1,e2,k1,k2,m1,m2,hU,nU,uM,r_a0,r_a1,r_a2,r_a3,r_a4,r_a5,r_a6,r_a7,r_a8]
  have r_a10:=Eq.refl (bw n mode day k t rk row ck role key ps fs rs lf pl ls)
  conv at r_a10=>rhs;simp only [bw,cond_true,cond_false,Bool.cond_self,Bool.not_true,Bool.not_false,Bool.true_or,Bool.or_true,Bool.false_or,Bool.or_false,Bool.and_self,Bool.and_true,Bool.true_and,Bool.false_and,Bool.and_false,bne_self_eq_false,beq_self_eq_true,allT,r0,s1,tR,hN,g1,g2,i2,i3,eX,hP,hF,hR,hL,hPl,hLs,e1,e2,k1,k2,m1,m2,hU,nU,uM,r_a0,r_a1,r_a2,r_a3,r_a4,r_a5,r_a6,r_a7,r_a8,r_a9]
  have r_a11:=Eq.refl (cn n mode day ps fs rs lf pl ls)
  conv at r_a11=>rhs;simp only [cn,cond_true,cond_false,Bool.cond_self,Bool.not_true,Bool.not_false,Bool.true_or,Bool.or_true,Bool.false_or,Bool.or_false,Bool.and_self,Bool.and_true,Bool.true_and,Bool.false_and,Bool.and_false,bne_self_eq_false,beq_self_eq_true,allT,r0,s1,tR,hN,g1,g2,i2,i3,eX,hP,hF,hR,hL,hPl,hLs,e1,e2,k1,k2,m1,m2,hU,nU,uM,r_a0,r_a1,r_a2,r_a3,r_a4,r_a5,r_a6,r_a7,r_a8,r_a9,r_a10]
  have r_a12:=Eq.refl (di ps fs rs lf pl ls)
  conv at r_a12=>rhs;simp only [di,cond_true,cond_false,Bool.cond_self,Bool.not_true,Bool.not_false,Bool.true_or,Bool.or_true,Bool.false_or,Bool.or_false,Bool.and_self,Bool.and_true,Bool.true_and,Bool.false_and,Bool.and_false,bne_self_eq_false,beq_self_eq_true,allT,r0,s1,tR,hN,g1,g2,i2,i3,eX,hP,hF,hR,hL,hPl,hLs,e1,e2,k1,k2,m1,m2,hU,nU,uM,r_a0,r_a1,r_a2,r_a3,r_a4,r_a5,r_a6,r_a7,r_a8,r_a9,r_a10,r_a11]
  have r_a13:=Eq.refl (em n mode day k t rk row ck role key ps fs rs lf pl ls)
  conv at r_a13=>rhs;simp only [em,cond_true,cond_false,Bool.cond_self,Bool.not_true,Bool.not_false,Bool.true_or,Bool.or_true,Bool.false_or,Bool.or_false,Bool.and_self,Bool.and_true,Bool.true_and,Bool.false_and,Bool.and_false,bne_self_eq_false,beq_self_eq_true,allT,r0,s1,tR,hN,g1,g2,i2,i3,eX,hP,hF,hR,hL,hPl,hLs,e1,e2,k1,k2,m1,m2,hU,nU,uM,r_a0,r_a1,r_a2,r_a3,r_a4,r_a5,r_a6,r_a7,r_a8,r_a9,r_a10,r_a11,r_a12]
  have r_a14:=Eq.refl (bx n mode day k t rk row ck role key ps fs rs lf pl ls)
  conv at r_a14=>rhs;simp only [bx,cond_true,cond_false,Bool.cond_self,Bool.not_true,Bool.not_false,Bool.true_or,Bool.or_true,Bool.false_or,Bool.or_false,Bool.and_self,Bool.and_true,Bool.true_and,Bool.false_and,Bool.and_false,bne_self_eq_false,beq_self_eq_true,allT,r0,s1,tR,hN,g1,g2,i2,i3,eX,hP,hF,hR,hL,hPl,hLs,e1,e2,k1,k2,m1,m2,hU,nU,uM,r_a0,r_a1,r_a2,r_a3,r_a4,r_a5,r_a6,r_a7,r_a8,r_a9,r_a10,r_a11,r_a12,r_a13]
  have r_a15:=Eq.refl (qr n mode day k t rk row ck role key ps fs rs lf pl ls)
  conv at r_a15=>rhs;simp only [qr,cond_true,cond_false,Bool.cond_self,Bool.not_true,Bool.not_false,Bool.true_or,Bool.or_true,Bool.false_or,Bool.or_false,Bool.and_self,Bool.and_true,Bool.true_and,Bool.false_and,Bool.and_false,bne_self_eq_false,beq_self_eq_true,allT,r0,s1,tR,hN,g1,g2,i2,i3,eX,hP,hF,hR,hL,hPl,hLs,e1,e2,k1,k2,m1,m2,hU,nU,uM,r_a0,r_a1,r_a2,r_a3,r_a4,r_a5,r_a6,r_a7,r_a8,r_a9,r_a10,r_a11,r_a12,r_a13,r_a14]
  have r_a16:=Eq.refl (bL n mode day k t rk row ck role key ps fs rs lf pl ls)
  conv at r_a16=>rhs;simp only [bL,cond_true,cond_false,Bool.cond_self,Bool.not_true,Bool.not_false,Bool.true_or,Bool.or_true,Bool.false_or,Bool.or_false,Bool.and_self,Bool.and_true,Bool.true_and,Bool.false_and,Bool.and_false,bne_self_eq_false,beq_self_eq_true,allT,r0,s1,tR,hN,g1,g2,i2,i3,eX,hP,hF,hR,hL,hPl,hLs,e1,e2,k1,k2,m1,m2,hU,nU,uM,r_a0,r_a1,r_a2,r_a3,r_a4,r_a5,r_a6,r_a7,r_a8,r_a9,r_a10,r_a11,r_a12,r_a13,r_a14,r_a15]
  have r_a17:=Eq.refl (qt n mode day k t rk row ck role key ps fs rs lf pl ls)
  conv at r_a17=>rhs;simp only [qt,cond_true,cond_false,Bool.cond_self,Bool.not_true,Bool.not_false,Bool.true_or,Bool.or_true,Bool.false_or,Bool.or_false,Bool.and_self,Bool.and_true,Bool.true_and,Bool.false_and,Bool.and_false,bne_self_eq_false,beq_self_eq_true,allT,r0,s1,tR,hN,g1,g2,i2,i3,eX,hP,hF,hR,hL,hPl,hLs,e1,e2,k1,k2,m1,m2,hU,nU,uM,r_a0,r_a1,r_a2,r_a3,r_a4,r_a5,r_a6,r_a7,r_a8,r_a9,r_a10,r_a11,r_a12,r_a13,r_a14,r_a15,r_a16]
  have r_a18:=Eq.refl (cq n mode day k t rk row ck role key ps fs rs lf pl ls)
  conv at r_a18=>rhs;simp only [cq,cond_true,cond_false,Bool.cond_self,Bool.not_true,Bool.not_false,Bool.true_or,Bool.or_true,Bool.false_or,Bool.or_false,Bool.and_self,Bool.and_true,Bool.true_and,Bool.false_and,Bool.and_false,bne_self_eq_false,beq_self_eq_true,allT,r0,s1,tR,hN,g1,g2,i2,i3,eX,hP,hF,hR,hL,hPl,hLs,e1,e2,k1,k2,m1,m2,hU,nU,uM,r_a0,r_a1,r_a2,r_a3,r_a4,r_a5,r_a6,r_a7,r_a8,r_a9,r_a10,r_a11,r_a12,r_a13,r_a14,r_a15,r_a16,r_a17]
  have r_a19:=Eq.refl (qu n mode day k t rk row ck role key ps fs rs lf pl ls)
  conv at r_a19=>rhs;simp only [qu,cond_true,cond_false,Bool.cond_self,Bool.not_true,Bool.not_false,Bool.true_or,Bool.or_true,Bool.false_or,Bool.or_false,Bool.and_self,Bool.and_true,Bool.true_and,Bool.false_and,Bool.and_false,bne_self_eq_false,beq_self_eq_true,allT,r0,s1,tR,hN,g1,g2,i2,i3,eX,hP,hF,hR,hL,hPl,hLs,e1,e2,k1,k2,m1,m2,hU,nU,uM,r_a0,r_a1,r_a2,r_a3,r_a4,r_a5,r_a6,r_a7,r_a8,r_a9,r_a10,r_a11,r_a12,r_a13,r_a14,r_a15,r_a16,r_a17,r_a18]
  have r_a20:=Eq.refl (dj n mode day k t rk row ck role key ps fs rs lf pl ls)
  conv at r_a20=>rhs;simp only [dj,cond_true,cond_false,Bool.cond_self,Bool.not_true,Bool.not_false,Bool.true_or,Bool.or_true,Bool.false_or,Bool.or_false,Bool.and_self,Bool.and_true,Bool.true_and,Bool.false_and,Bool.and_false,bne_self_eq_false,beq_self_eq_true,allT,r0,s1,tR,hN,g1,g2,i2,i3,eX,hP,hF,hR,hL,hPl,hLs,e1,e2,k1,k2,m1,m2,hU,nU,uM,r_a0,r_a1,r_a2,r_a3,r_a4,r_a5,r_a6,r_a7,r_a8,r_a9,r_a10,r_a11,r_a12,r_a13,r_a14,r_a15,r_a16,r_a17,r_a18,r_a19]
  have r_a21:=Eq.refl (qv n mode day k t rk row ck role key ps fs rs lf pl ls)
  conv at r_a21=>rhs;simp only [qv,cond_true,cond_false,Bool.cond_self,Bool.not_true,Bool.not_false,Bool.true_or,Bool.or_true,Bool.false_or,Bool.or_false,Bool.and_self,Bool.and_true,Bool.true_and,Bool.false_and,Bool.and_false,bne_self_eq_false,beq_self_eq_true,allT,r0,s1,tR,hN,g1,g2,i2,i3,eX,hP,hF,hR,hL,hPl,hLs,e1,e2,k1,k2,m1,m2,hU,nU,uM,r_a0,r_a1,r_a2,r_a3,r_a4,r_a5,r_a6,r_a7,r_a8,r_a9,r_a10,r_a11,r_a12,r_a13,r_a14,r_a15,r_a16,r_a17,r_a18,r_a19,r_a20]
  have r_a22:=Eq.refl (eo n mode day k t rk row ck role key ps fs rs lf pl ls)
  conv at r_a22=>rhs;simp only [eo,cond_true,cond_false,Bool.cond_self,Bool.not_true,Bool.not_false,Bool.true_or,Bool.or_true,Bool.false_or,Bool.or_false,Bool.and_self,Bool.and_true,Bool.true_and,Bool.false_and,Bool.and_false,bne_self_eq_false,beq_self_eq_true,allT,r0,s1,tR,hN,g1,g2,i2,i3,eX,hP,hF,hR,hL,hPl,hLs,e1,e2,k1,k2,m1,m2,hU,nU,uM,r_a0,r_a1,r_a2,r_a3,r_a4,r_a5,r_a6,r_a7,r_a8,r_a9,r_a10,r_a11,r_a12,r_a13,r_a14,r_a15,r_a16,r_a17,r_a18,r_a19,r_a20,r_a21]
  have r_a23:=Eq.refl (qw n mode day k t rk row ck role key ps fs rs lf pl ls)
  conv at r_a23=>rhs;simp only [qw,cond_true,cond_false,Bool.cond_self,Bool.not_true,Bool.not_false,Bool.true_or,Bool.or_true,Bool.false_or,Bool.or_false,Bool.and_self,Bool.and_true,Bool.true_and,Bool.false_and,Bool.and_false,bne_self_eq_false,beq_self_eq_true,allT,r0,s1,tR,hN,g1,g2,i2,i3,eX,hP,hF,hR,hL,hPl,hLs,e1,e2,k1,k2,m1,m2,hU,nU,uM,r_a0,r_a1,r_a2,r_a3,r_a4,r_a5,r_a6,r_a7,r_a8,r_a9,r_a10,r_a11,r_a12,r_a13,r_a14,r_a15,r_a16,r_a17,r_a18,r_a19,r_a20,r_a21,r_a22]
  have r_a24:=Eq.refl (iv n mode day k t rk row ck role key ps fs rs lf pl ls)
  conv at r_a24=>rhs;simp only [iv,cond_true,cond_false,Bool.cond_self,Bool.not_true,Bool.not_false,Bool.true_or,Bool.or_true,Bool.false_or,Bool.or_false,Bool.and_self,Bool.and_true,Bool.true_and,Bool.false_and,Bool.and_false,bne_self_eq_false,beq_self_eq_true,allT,r0,s1,tR,hN,g1,g2,i2,i3,eX,hP,hF,hR,hL,hPl,hLs,e1,e2,k1,k2,m1,m2,hU,nU,uM,r_a0,r_a1,r_a2,r_a3,r_a4,r_a5,r_a6,r_a7,r_a8,r_a9,r_a10,r_a11,r_a12,r_a13,r_a14,r_a15,r_a16,r_a17,r_a18,r_a19,r_a20,r_a21,r_a22,r_a23]
  have r_a25:=Eq.refl (qx n mode day k t rk row ck role key ps fs rs lf pl ls)
  conv at r_a25=>rhs;simp only [qx,cond_true,cond_false,Bool.cond_self,Bool.not_true,Bool.not_false,Bool.true_or,Bool.or_true,Bool.false_or,Bool.or_false,Bool.and_self,Bool.and_true,Bool.true_and,Bool.false_and,Bool.and_false,bne_self_eq_false,beq_self_eq_true,allT,r0,s1,tR,hN,g1,g2,i2,i3,eX,hP,hF,hR,hL,hPl,hLs,e1,e2,k1,k2,m1,m2,hU,nU,uM,r_a0,r_a1,r_a2,r_a3,r_a4,r_a5,r_a6,r_a7,r_a8,r_a9,r_a10,r_a11,r_a12,r_a13,r_a14,r_a15,r_a16,r_a17,r_a18,r_a19,r_a20,r_a21,r_a22,r_a23,r_a24]
  have r_a26:=Eq.refl (qy n mode day k t rk row ck role key ps fs rs lf pl ls)
  conv at r_a26=>rhs;simp only [qy,cond_true,cond_false,Bool.cond_self,Bool.not_true,Bool.not_false,Bool.true_or,Bool.or_true,Bool.false_or,Bool.or_false,Bool.and_self,Bool.and_true,Bool.true_and,Bool.false_and,Bool.and_false,bne_self_eq_false,beq_self_eq_true,allT,r0,s1,tR,hN,g1,g2,i2,i3,eX,hP,hF,hR,hL,hPl,hLs,e1,e2,k1,k2,m1,m2,hU,nU,uM,r_a0,r_a1,r_a2,r_a3,r_a4,r_a5,r_a6,r_a7,r_a8,r_a9,r_a10,r_a11,r_a12,r_a13,r_a14,r_a15,r_a16,r_a17,r_a18,r_a19,r_a20,r_a21,r_a22,r_a23,r_a24,r_a25]
  have r_a27:=Eq.refl (gq n mode day k t rk row ck role key ps fs rs lf pl ls)
  conv at r_a27=>rhs;simp only [gq,cond_true,cond_false,Bool.cond_self,Bool.not_true,Bool.not_false,Bool.true_or,Bool.or_true,Bool.false_or,Bool.or_false,Bool.and_self,Bool.and_true,Bool.true_and,Bool.false_and,Bool.and_false,bne_self_eq_false,beq_self_eq_true,allT,r0,s1,tR,hN,g1,g2,i2,i3,eX,hP,hF,hR,hL,hPl,hLs,e1,e2,k1,k2,m1,m2,hU,nU,uM,r_a0,r_a1,r_a2,r_a3,r_a4,r_a5,r_a6,r_a7,r_a8,r_a9,r_a10,r_a11,r_a12,r_a13,r_a14,r_a15,r_a16,r_a17,r_a18,r_a19,r_a20,r_a21,r_a22,r_a23,r_a24,r_a25,r_a26]
  have r_a28:=Eq.refl (gr n mode day k t rk row ck role key ps fs rs lf pl ls)
  conv at r_a28=>rhs;simp only [gr,cond_true,cond_false,Bool.cond_self,Bool.not_true,Bool.not_false,Bool.true_or,Bool.or_true,Bool.false_or,Bool.or_false,Bool.and_self,Bool.and_true,Bool.true_and,Bool.false_and,Bool.and_false,bne_self_eq_false,beq_self_eq_true,allT,r0,s1,tR,hN,g1,g2,i2,i3,eX,hP,hF,hR,hL,hPl,hLs,e1,e2,k1,k2,m1,m2,hU,nU,uM,r_a0,r_a1,r_a2,r_a3,r_a4,r_a5,r_a6,r_a7,r_a8,r_a9,r_a10,r_a11,r_a12,r_a13,r_a14,r_a15,r_a16,r_a17,r_a18,r_a19,r_a20,r_a21,r_a22,r_a23,r_a24,r_a25,r_a26,r_a27]
  have r_a29:=Eq.refl (qz n mode day k t rk row ck role key ps fs rs lf pl ls)
  conv at r_a29=>rhs;simp only [qz,cond_true,cond_false,Bool.cond_self,Bool.not_true,Bool.not_false,Bool.true_or,Bool.or_true,Bool.false_or,Bool.or_false,Bool.and_self,Bool.and_true,Bool.true_and,Bool.false_and,Bool.and_false,bne_self_eq_false,beq_self_eq_true,allT,r0,s1,tR,hN,g1,g2,i2,i3,eX,hP,hF,hR,hL,hPl,hLs,e1,e2,k1,k2,m1,m2,hU,nU,uM,r_a0,r_a1,r_a2,r_a3,r_a4,r_a5,r_a6,r_a7,r_a8,r_a9,r_a10,r_a11,r_a12,r_a13,r_a14,r_a15,r_a16,r_a17,r_a18,r_a19,r_a20,r_a21,r_a22,r_a23,r_a24,r_a25,r_a26,r_a27,r_a28]
  have r_a30:=Eq.refl (qA ps fs rs lf pl ls)
  conv at r_a30=>rhs;simp only [qA,cond_true,cond_false,Bool.cond_self,Bool.not_true,Bool.not_false,Bool.true_or,Bool.or_true,Bool.false_or,Bool.or_false,Bool.and_self,Bool.and_true,Bool.true_and,Bool.false_and,Bool.and_false,bne_self_eq_false,beq_self_eq_true,allT,r0,s1,tR,hN,g1,g2,i2,i3,eX,hP,hF,hR,hL,hPl,hLs,e1,e2,k1,k2,m1,m2,hU,nU,uM,r_a0,r_a1,r_a2,r_a3,r_a4,r_a5,r_a6,r_a7,r_a8,r_a9,r_a10,r_a11,r_a12,r_a13,r_a14,r_a15,r_a16,r_a17,r_a18,r_a19,r_a20,r_a21,r_a22,r_a23,r_a24,r_a25,r_a26,r_a27,r_a28,r_a29]
  have r_a31:=Eq.refl (qB ps fs rs lf pl ls)
  conv at r_a31=>rhs;simp only [qB,cond_true,cond_false,Bool.cond_self,Bool.not_true,Bool.not_false,Bool.true_or,Bool.or_true,Bool.false_or,Bool.or_false,Bool.and_self,Bool.and_true,Bool.true_and,Bool.false_and,Bool.and_false,bne_self_eq_false,beq_self_eq_true,allT,r0,s1,tR,hN,g1,g2,i2,i3,eX,hP,hF,hR,hL,hPl,hLs,e1,e2,k1,k2,m1,m2,hU,nU,uM,r_a0,r_a1,r_a2,r_a3,r_a4,r_a5,r_a6,r_a7,r_a8,r_a9,r_a10,r_a11,r_a12,r_a13,r_a14,r_a15,r_a16,r_a17,r_a18,r_a19,r_a20,r_a21,r_a22,r_a23,r_a24,r_a25,r_a26,r_a27,r_a28,r_a29,r_a30]
  have r_a32:=Eq.refl (qC n mode day k t rk row ck role key ps fs rs lf pl ls)
  conv at r_a32=>rhs;simp only [qC,cond_true,cond_false,Bool.cond_self,Bool.not_true,Bool.not_false,Bool.true_or,Bool.or_true,Bool.false_or,Bool.or_false,Bool.and_self,Bool.and_true,Bool.true_and,Bool.false_and,Bool.and_false,bne_self_eq_false,beq_self_eq_true,allT,r0,s1,tR,hN,g1,g2,i2,i3,eX,hP,hF,hR,hL,hPl,hLs,e1,e2,k1,k2,m1,m2,hU,nU,uM,r_a0,r_a1,r_a2,r_a3,r_a4,r_a5,r_a6,r_a7,r_a8,r_a9,r_a10,r_a11,r_a12,r_a13,r_a14,r_a15,r_a16,r_a17,r_a18,r_a19,r_a20,r_a21,r_a22,r_a23,r_a24,r_a25,r_a26,r_a27,r_a28,r_a29,r_a30,r_a31]
  have r_a33:=Eq.refl (qD n mode day k t rk row ck role key ps fs rs lf pl ls)
  conv at r_a33=>rhs;simp only [qD,cond_true,cond_false,Bool.cond_self,Bool.not_true,Bool.not_false,Bool.true_or,Bool.or_true,Bool.false_or,Bool.or_false,Bool.and_self,Bool.and_true,Bool.true_and,Bool.false_and,Bool.and_false,bne_self_eq_false,beq_self_eq_true,allT,r0,s1,tR,hN,g1,g2,i2,i3,eX,hP,hF,hR,hL,hPl,hLs,e1,e2,k1,k2,m1,m2,hU,nU,uM,r_a0,r_a1,r_a2,r_a3,r_a4,r_a5,r_a6,r_a7,r_a8,r_a9,r_a10,r_a11,r_a12,r_a13,r_a14,r_a15,r_a16,r_a17,r_a18,r_a19,r_a20,r_a21,r_a22,r_a23,r_a24,r_a25,r_a26,r_a27,r_a28,r_a29,r_a30,r_a31,r_a32]
  refine⟨?_,?_⟩ <;> simp only [zo,zp,cond_true,cond_false,Bool.cond_self,Bool.not_true,Bool.not_false,Bool.true_or,Bool.or_true,Bool.false_or,Bool.or_false,Bool.and_self,Bool.and_true,Bool.true_and,Bool.false_and,Bool.and_false,bne_self_eq_false,beq_self_eq_true,allT,r0,s1,tR,hN,g1,g2,i2,i3,eX,hP,hF,hR,hL,hPl,hLs,e1,e2,k1,k2,m1,m2,hU,nU,uM,r_a0,r_a1,r_a2,r_a3,r_a4,r_a5,r_a6,r_a7,r_a8,r_a9,r_a10,r_a11,r_a12,r_a13,r_a14,r_a15,r_a16,r_a17,r_a18,r_a19,r_a20,r_a21,r_a22,r_a23,r_a24,r_a25,r_a26,r_a27,r_a28,r_a29,r_a30,r_a31,r_a32,r_a33]
end Go.SX
