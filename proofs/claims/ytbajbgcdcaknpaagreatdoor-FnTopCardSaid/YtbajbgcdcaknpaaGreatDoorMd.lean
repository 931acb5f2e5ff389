/- What functions of the program come to, and what that says in plain words: part 4. -/
import Derived.Test.YtbajbgcdcaknpaaGreatDoorMc
import Derived.Test.YtbajbgcdcaknpaaGreatDoorTXh
import Derived.Test.YtbajbgcdcaknpaaGreatDoorProg
import Derived.Test.YtbajbgcdcaknpaaGreatDoorTXi
set_option linter.unusedSimpArgs false
set_option linter.unusedVariables false
namespace Go.SX
open Go.Proofs Go.Proofs.Tryz
set_option maxRecDepth 100000
def dq(y6:List Int)(y8:List (List Int))(b:Int×(Int×((Int×Int)×(Int×(Int×Bool))))):(Unit)→Nat ⊕ (Unit)
 |_=>(bif(zL b.1 (b.2.1) (b.2.2.1.1) (b.2.2.1.2) (b.2.2.2.1) (b.2.2.2.2.1) b.2.2.2.2.2 y6 y8)then(.inl 0)else(.inr ()))
def cf(y2 y3 y4:Int)(y5:List (Int×(Int×((Int×Int)×(Int×(Int×Bool))))))(y6:List Int)(y7:List (Int×(Int×Int)))(y8:List (List Int))(y9:List (Int×(Int×Int)))(y10 y11:List (Int×Int))(i:Nat):(Unit)→bk
 |_=>((i:Int),(↑y5.length:Int),y2,y3,y4,y5,y6,y7,y8,y9,y10,y11)
def nB:bk→Unit
 |(_,_,_,_,_,_,_,_,_,_,_,_)=>()
theorem Nb(y2 y3 y4:Int)(y5:List (Int×(Int×((Int×Int)×(Int×(Int×Bool))))))(y6:List Int)(y7:List (Int×(Int×Int)))(y8:List (List Int))(y9:List (Int×(Int×Int)))(y10 y11:List (Int×Int)) (hn:y5.length≤9223372036854775807) (f:RideF y2 y3 y4 y6 y7 y8 y9 y10 y11):
  ax.fin ((0:Int),(↑y5.length:Int),y2,y3,y4,y5,y6,y7,y8,y9,y10,y11)=true∧ax.res ((0:Int),(↑y5.length:Int),y2,y3,y4,y5,y6,y7,y8,y9,y10,y11)=((aN (dq y6 y8) 1 y5 0 ()).1,(cf y2 y3 y4 y5 y6 y7 y8 y9 y10 y11) (aN (dq y6 y8) 1 y5 0 ()).2.1 (aN (dq y6 y8) 1 y5 0 ()).2.2):=by
 have cH:=ax.along (cf y2 y3 y4 y5 y6 y7 y8 y9 y10 y11) nB (dq y6 y8) 1 (fun _ _=>True) y5 () (by trivial) (by simp only [ax,cf];omega) (fun i b a hb hI=> ?_) (fun a hI=> ?_)
 ·exact cH
 ·obtain⟨⟩:=a
  have dd:=(List.getElem?_eq_some_iff.1 hb).1
  have gc: ∀ d,Option.getD y5[i]? d=b:=fun d=>by rw [hb];rfl
  have hw:=tQ dd hn
  have bW:ltI (i:Int) (y5.length:Int)=true:=du (by omega)
  have pY:leI (0:Int) (i:Int)=true:=ct (by omega)
  have dw:ltN i y5.length=true:=ec dd
  refine⟨?_,?_,?_,?_⟩
  ·have e:=(aqc b.1 b.2.1 b.2.2.1.1 b.2.2.1.2 b.2.2.2.1 b.2.2.2.2.1 b.2.2.2.2.2 f).2
   simp [df,dg,dh,di,bN,dj,fP,fQ,fR,fS,fT,fU,fW,fh,ax,LT.nds,allT,cf,ID,bW,pY,dw,gc,e]
  ·simp [df,dg,dh,di,bN,dj,fP,fQ,fR,fS,fT,fU,fW,fh,ax,LT.each,cf,nB,hw]
  ·simp only [df,dg,dh,di,bN,dj,fP,fQ,fR,fS,fT,fU,fW,fh,ax,LT.fn,cf,nB,dq,Int.toNat_natCast,bW,pY,dw,gc,cond_true,Bool.cond_self]
  ·exact fun _ _=>trivial
 ·obtain⟨⟩:=a
  simp [df,dg,dh,di,bN,dj,fP,fQ,fR,fS,fT,fU,fW,fh,ax,LT.out,cf]
def ape(ps:LI)(rs:List LI)(xs:List RX):Bool:=xs.any fun x=> !isX ps rs x
def rrC(n mode day:Int)(ps:LI)(fs:L3)(rs:List LI)(lf:L3)(pl ls:L2)(xs:List RX):Int:=bif !kO n ps fs rs lf mode pl ls day then 1 else bif ltI 200 (xs.length:Int)then 3 else bif ape ps rs xs then 2 else 0
def rrE(n mode day:Int)(ps:LI)(fs:L3)(rs:List LI)(lf:L3)(pl ls:L2)(xs:List RX):RS:=xs.foldl (stX n day fs lf pl ls) (mode,ps,rs,[],0)
def rrB(n mode day:Int)(ps:LI)(fs:L3)(rs:List LI)(lf:L3)(pl ls:L2)(xs:List RX):Bool:=rrC n mode day ps fs rs lf pl ls xs==0
def rrN(n mode day:Int)(ps:LI)(fs:L3)(rs:List LI)(lf:L3)(pl ls:L2)(xs:List RX):Int:=bif rrB n mode day ps fs rs lf pl ls xs then n else 0
def rrM(n mode day:Int)(ps:LI)(fs:L3)(rs:List LI)(lf:L3)(pl ls:L2)(xs:List RX):Int:=bif rrB n mode day ps fs rs lf pl ls xs then(rrE n mode day ps fs rs lf pl ls xs).1 else 0
def rrD(n mode day:Int)(ps:LI)(fs:L3)(rs:List LI)(lf:L3)(pl ls:L2)(xs:List RX):Int:=bif rrB n mode day ps fs rs lf pl ls xs then day else 0
def rrP(n mode day:Int)(ps:LI)(fs:L3)(rs:List LI)(lf:L3)(pl ls:L2)(xs:List RX):LI:=bif rrB n mode day ps fs rs lf pl ls xs then(rrE n mode day ps fs rs lf pl ls xs).2.1 else []
def rrF(n mode day:Int)(ps:LI)(fs:L3)(rs:List LI)(lf:L3)(pl ls:L2)(xs:List RX):L3:=bif rrB n mode day ps fs rs lf pl ls xs then fs else []
def rrR(n mode day:Int)(ps:LI)(fs:L3)(rs:List LI)(lf:L3)(pl ls:L2)(xs:List RX):List LI:=bif rrB n mode day ps fs rs lf pl ls xs then(rrE n mode day ps fs rs lf pl ls xs).2.2.1 else []
def rrL(n mode day:Int)(ps:LI)(fs:L3)(rs:List LI)(lf:L3)(pl ls:L2)(xs:List RX):L3:=bif rrB n mode day ps fs rs lf pl ls xs then lf else []
def RJ(n mode day:Int)(ps:LI)(fs:L3)(rs:List LI)(lf:L3)(pl ls:L2)(xs:List RX):L2:=bif rrB n mode day ps fs rs lf pl ls xs then pl else []
def RI(n mode day:Int)(ps:LI)(fs:L3)(rs:List LI)(lf:L3)(pl ls:L2)(xs:List RX):L2:=bif rrB n mode day ps fs rs lf pl ls xs then ls else []
def rrV(n mode day:Int)(ps:LI)(fs:L3)(rs:List LI)(lf:L3)(pl ls:L2)(xs:List RX):LI:=bif rrB n mode day ps fs rs lf pl ls xs then(rrE n mode day ps fs rs lf pl ls xs).2.2.2.1 else []
def rrT(n mode day:Int)(ps:LI)(fs:L3)(rs:List LI)(lf:L3)(pl ls:L2)(xs:List RX):Int:=bif rrB n mode day ps fs rs lf pl ls xs then(rrE n mode day ps fs rs lf pl ls xs).2.2.2.2 else 0
theorem awq{ps:LI}{rs:List LI}{xs:List RX}(h:ape ps rs xs=false): ∀ x∈xs,isX ps rs x=true:=by
 simp only [ape,List.any_eq_false,Bool.not_eq_true',Bool.not_eq_false]at h
 exact h
theorem apa{n mode day:Int}{ps:LI}{fs:L3}{rs:List LI}{lf:L3}{pl ls:L2}(f:RideF n mode day ps fs rs lf pl ls):ajO n day fs lf pl ls ps rs 0 (mode,ps,rs,[],0):=
 ⟨f,rfl,rfl,Nat.le_refl _⟩
theorem axp{n day:Int}{fs lf:L3}{pl ls:L2}{ps0:LI}{rs0:List LI}{i:Nat}{s:RS}(hI:ajO n day fs lf pl ls ps0 rs0 i s){b:RX}(hm:isX ps0 rs0 b=true):
  rY b (anU n day fs lf pl ls s)= .inr (anU n day fs lf pl ls (stX n day fs lf pl ls s b)):=by
 obtain⟨hx,_⟩:=GQ hI hm
 obtain⟨o0,o1,o2,o3,o4,o5,o6,o7,o8,o9,o10⟩:=aiZ hI.1 hx
 simp only [anU,rY,o0,o1,o2,o3,o4,o5,o6,o7,o8,o9,stX,vX,DX]
 generalize stV n s.1 day s.2.1 fs s.2.2.1 lf pl ls b.1 b.2.1 b.2.2.1.1 b.2.2.1.2 b.2.2.2.1 b.2.2.2.2.1 b.2.2.2.2.2=v
 cases b.1==0 <;> cases v==0 <;> rfl
theorem avb(n mode day:Int)(ps:LI)(fs:L3)(rs:List LI)(lf:L3)(pl ls:L2)(xs:List RX)(hN:rV 9223372036854775807 ps fs rs lf pl ls=true):
  Jk n mode day ps fs rs lf pl ls xs=rrN n mode day ps fs rs lf pl ls xs∧Jl n mode day ps fs rs lf pl ls xs=rrM n mode day ps fs rs lf pl ls xs∧
  Jm n mode day ps fs rs lf pl ls xs=rrD n mode day ps fs rs lf pl ls xs∧Nj n mode day ps fs rs lf pl ls xs=rrT n mode day ps fs rs lf pl ls xs∧
  Jn n mode day ps fs rs lf pl ls xs=rrC n mode day ps fs rs lf pl ls xs∧Jo n mode day ps fs rs lf pl ls xs=rrP n mode day ps fs rs lf pl ls xs∧
  Jp n mode day ps fs rs lf pl ls xs=rrF n mode day ps fs rs lf pl ls xs∧Jq n mode day ps fs rs lf pl ls xs=rrR n mode day ps fs rs lf pl ls xs∧
  Jr n mode day ps fs rs lf pl ls xs=rrL n mode day ps fs rs lf pl ls xs∧Js n mode day ps fs rs lf pl ls xs=RJ n mode day ps fs rs lf pl ls xs∧
  Gr n mode day ps fs rs lf pl ls xs=RI n mode day ps fs rs lf pl ls xs∧Gs n mode day ps fs rs lf pl ls xs=rrV n mode day ps fs rs lf pl ls xs∧
  Gt n mode day ps fs rs lf pl ls xs=true:=by
 cases hO:kO n ps fs rs lf mode pl ls day with
 |false=>
  have hc:rrC n mode day ps fs rs lf pl ls xs=1:=by simp [rrC,hO]
  have hb:rrB n mode day ps fs rs lf pl ls xs=false:=by rw [rrB,hc];rfl
  simp [Jk,Jl,Jm,Nj,Jn,Jo,Jp,Jq,Jr,Js,Gr,Gs,Gt,rrN,rrM,rrD,rrT,rrP,rrF,rrR,rrL,RJ,RI,rrV,hO,hc,hb,hN,allT]
 |true=>
  have f:=aqT hO
  cases h2:jb xs with
  |true=>
   have h2':ltI 200 (xs.length:Int)=true:=h2
   have hc:rrC n mode day ps fs rs lf pl ls xs=3:=by simp only [rrC,hO,h2',Bool.not_true,cond_false,cond_true]
   have hb:rrB n mode day ps fs rs lf pl ls xs=false:=by rw [rrB,hc];rfl
   simp [Jk,Jl,Jm,Nj,Jn,Jo,Jp,Jq,Jr,Js,Gr,Gs,Gt,rrN,rrM,rrD,rrT,rrP,rrF,rrR,rrL,RJ,RI,rrV,hO,h2,hc,hb,hN,allT]
  |false=>
   have h2':ltI 200 (xs.length:Int)=false:=h2
   have hl:xs.length≤200:=by have:=XA.1 h2';omega
   obtain⟨w1,w2⟩:=aoH xs n mode day 0 0 0 ps fs rs lf pl ls [] [] [] [] [] [] (by omega) f
   rw [kH (P:=fun x=> !isX ps rs x) (j:=0) (fun b=>by
    simp only [Ee,(aoz n mode day b.1 b.2.1 b.2.2.1.1 b.2.2.1.2 b.2.2.2.1 b.2.2.2.2.1 b.2.2.2.2.2 ps fs rs lf pl ls hN).1,hO,Bool.true_and];rfl)]at w2
   have a2:je n mode day ps fs rs lf pl ls xs=ape ps rs xs:=by
    rw [je,Wc,w2]
    show Nat.beq (bif ape ps rs xs then 0 else 1) 0=_
    cases ape ps rs xs <;> rfl
   have w1':Lp.fin ff (Wc n mode day ps fs rs lf pl ls xs)=true:=w1
   cases hB:ape ps rs xs with
   |true=>
    have hc:rrC n mode day ps fs rs lf pl ls xs=2:=by simp only [rrC,hO,h2',hB,Bool.not_true,cond_false,cond_true]
    have hb:rrB n mode day ps fs rs lf pl ls xs=false:=by rw [rrB,hc];rfl
    rw [hB]at a2
    simp [Jk,Jl,Jm,Nj,Jn,Jo,Jp,Jq,Jr,Js,Gr,Gs,Gt,rrN,rrM,rrD,rrT,rrP,rrF,rrR,rrL,RJ,RI,rrV,hO,h2,a2,w1',hc,hb,hN,allT]
   |false=>
    have hX:=awq hB
    have hc:rrC n mode day ps fs rs lf pl ls xs=0:=by simp only [rrC,hO,h2',hB,Bool.not_true,cond_false]
    have hb:rrB n mode day ps fs rs lf pl ls xs=true:=by rw [rrB,hc];rfl
    obtain⟨o1,o2⟩:=aq1 n mode day f.cp
    obtain⟨v1,v2⟩:=aoI xs 0 n mode day [] ps fs rs lf pl ls (by omega) n day fs lf pl ls ps rs hX (mode,ps,rs,[],0) rfl (apa f) hl
    have hw:=(aq6 (e:=0) (i:=0) (r:=xs) (f:=rY) (g:=stX n day fs lf pl ls) (emb:=anU n day fs lf pl ls) (Inv:=fun s=> ∃ i,ajO n day fs lf pl ls ps rs i s)
     (fun b hb s hs=>by obtain⟨i,hI⟩:=hs;exact⟨axp hI (hX b hb),_,(GQ hI (hX b hb)).2⟩) ⟨0,apa f⟩).1
    rw [show ((0:Int),n,mode,day,([]:LI),ps,fs,rs,lf,pl,ls)=anU n day fs lf pl ls (mode,ps,rs,[],0) from rfl,hw]at v2
    rw [hB]at a2
    have v1':Lp.fin fg (Lc n mode day ps fs rs lf pl ls xs)=true:=by rw [Lc,o1];exact v1
    have v2':Lp.res fg (Lc n mode day ps fs rs lf pl ls xs)=(0,pX xs xs.length (anU n day fs lf pl ls (rrE n mode day ps fs rs lf pl ls xs))):=by
     rw [Lc,o1,v2];simp only [Nat.zero_add];rfl
    simp only [Jk,Jl,Jm,Nj,Jn,Jo,Jp,Jq,Jr,Js,Gr,Gs,Gt,abA,abB,abC,abD,abE,abF,Ze,Zf,Zg,Zh,v2',v1',w1',o2,pX,anU,rrN,rrM,rrD,rrT,rrP,rrF,rrR,rrL,RJ,RI,rrV,hO,h2,a2,hc,hb,hN,allT,Bool.not_true,cond_false,cond_true,Bool.or_true,Bool.and_self,and_self]
theorem ats(n mode day:Int)(ps:LI)(fs:L3)(rs:List LI)(lf:L3)(pl ls:L2)(xs:List RX)(hN:rV 9223372036854775807 ps fs rs lf pl ls=true):
  za n mode day ps fs rs lf pl ls xs=rrC n mode day ps fs rs lf pl ls xs∧Eg n mode day ps fs rs lf pl ls xs=true:=by
 cases hO:kO n ps fs rs lf mode pl ls day with
 |false=>simp [za,Eg,rrC,hO,hN,allT]
 |true=>
  have f:=aqT hO
  cases h2:UB xs with
  |true=>
   have h2':ltI 200 (xs.length:Int)=true:=h2
   simp only [za,Eg,rrC,hO,hN,h2,h2',allT,Bool.not_true,cond_false,cond_true,Bool.or_true,Bool.true_or,and_self,Bool.false_or]
  |false=>
   have h2':ltI 200 (xs.length:Int)=false:=h2
   have hl:xs.length≤200:=by have:=XA.1 h2';omega
   obtain⟨w1,w2⟩:=Nb n mode day xs ps fs rs lf pl ls (by omega) f
   rw [kH (P:=fun x=> !isX ps rs x) (j:=0) (fun b=>by
    simp only [dq,zL,(aqc b.1 b.2.1 b.2.2.1.1 b.2.2.1.2 b.2.2.2.1 b.2.2.2.2.1 b.2.2.2.2.2 f).1];rfl)]at w2
   have w1':Lp.fin ax (gN xs n mode day ps fs rs lf pl ls)=true:=w1
   have e:jO xs n mode day ps fs rs lf pl ls=ape ps rs xs:=by
    rw [jO,ra,gO,gN,w2]
    show leI 0 (bif Nat.beq (bif ape ps rs xs then 0 else 1) 0 then _ else(-1:Int))=_
    cases ape ps rs xs with
    |true=>exact ct (Int.natCast_nonneg _)
    |false=>rfl
   simp only [za,Eg,oj,rb,rrC,hO,hN,h2,h2',e,w1',allT,Bool.not_true,cond_false,cond_true,Bool.or_true,Bool.true_or,and_self,Bool.false_or]
theorem aqU{n mode day:Int}{ps:LI}{fs:L3}{rs:List LI}{lf:L3}{pl ls:L2}{xs:List RX}(h:rrB n mode day ps fs rs lf pl ls xs=true):
  RideF n mode day ps fs rs lf pl ls∧xs.length≤200∧ ∀ x∈xs,isX ps rs x=true:=by
 simp only [rrB,rrC]at h
 cases hO:kO n ps fs rs lf mode pl ls day with
 |false=>rw [hO]at h;cases h
 |true=>
  cases h2:ltI 200 (xs.length:Int)with
  |true=>rw [hO,h2]at h;cases h
  |false=>
   cases hB:ape ps rs xs with
   |true=>rw [hO,h2,hB]at h;cases h
   |false=>exact⟨aqT hO,by have:=XA.1 h2;omega,awq hB⟩
theorem axo{n day:Int}{fs lf:L3}{pl ls:L2}{ps0:LI}{rs0:List LI}{i:Nat}{s:RS}(hI:ajO n day fs lf pl ls ps0 rs0 i s){b:RX}(hm:isX ps0 rs0 b=true):
  mP b (apY n day fs lf pl ls s)= .inr (apY n day fs lf pl ls (stX n day fs lf pl ls s b)):=by
 obtain⟨hx,_⟩:=GQ hI hm
 obtain⟨o0,o1,o2,o3,o4,o5,o6,o7,o8,o9,o10⟩:=afD hI.1 hx
 simp only [apY,mP,o0,o1,o2,o3,o4,o5,o6,o7,o8,o9]
 rfl
theorem apF(n mode day:Int)(ps:LI)(fs:L3)(rs:List LI)(lf:L3)(pl ls:L2)(xs:List RX):(rrC n mode day ps fs rs lf pl ls xs !=0)= !rrB n mode day ps fs rs lf pl ls xs:=rfl
theorem aqa(n mode day:Int)(ps:LI)(fs:L3)(rs:List LI)(lf:L3)(pl ls:L2)(xs:List RX)(hN:rV 9223372036854775807 ps fs rs lf pl ls=true):
  Pj n mode day ps fs rs lf pl ls xs=rrN n mode day ps fs rs lf pl ls xs∧Pk n mode day ps fs rs lf pl ls xs=rrM n mode day ps fs rs lf pl ls xs∧
  Pl n mode day ps fs rs lf pl ls xs=rrD n mode day ps fs rs lf pl ls xs∧
  Pm n mode day ps fs rs lf pl ls xs=rrC n mode day ps fs rs lf pl ls xs∧Pn n mode day ps fs rs lf pl ls xs=rrP n mode day ps fs rs lf pl ls xs∧
  Po n mode day ps fs rs lf pl ls xs=rrF n mode day ps fs rs lf pl ls xs∧Pp n mode day ps fs rs lf pl ls xs=rrR n mode day ps fs rs lf pl ls xs∧
  Pq n mode day ps fs rs lf pl ls xs=rrL n mode day ps fs rs lf pl ls xs∧Pr n mode day ps fs rs lf pl ls xs=RJ n mode day ps fs rs lf pl ls xs∧
  Ps n mode day ps fs rs lf pl ls xs=RI n mode day ps fs rs lf pl ls xs∧MK n mode day ps fs rs lf pl ls xs=rrV n mode day ps fs rs lf pl ls xs∧
  ML n mode day ps fs rs lf pl ls xs=true:=by
 obtain⟨c1,c2⟩:=ats n mode day ps fs rs lf pl ls xs hN
 have a0:iR n mode day ps fs rs lf pl ls xs= !rrB n mode day ps fs rs lf pl ls xs:=by rw [iR,c1];rfl
 cases hb:rrB n mode day ps fs rs lf pl ls xs with
 |false=>
  rw [hb,Bool.not_false]at a0
  simp only [Pj,Pk,Pl,Pm,Pn,Po,Pp,Pq,Pr,Ps,MK,ML,rrN,rrM,rrD,rrT,rrP,rrF,rrR,rrL,RJ,RI,rrV,hb,c1,c2,a0,allT,cond_true,cond_false,Bool.true_or,and_self]
 |true=>
  rw [hb,Bool.not_true]at a0
  have hc:rrC n mode day ps fs rs lf pl ls xs=0:=beq_iff_eq.1 hb
  obtain⟨f,hl,hX⟩:=aqU hb
  obtain⟨o1,o2⟩:=asz n mode day f.cp
  obtain⟨v1,v2⟩:=anA xs [] n mode day ps fs rs lf pl ls (by omega) n day fs lf pl ls ps rs hX (mode,ps,rs,[],0) rfl (apa f) hl
  have hw:=(aq6 (e:=0) (i:=0) (r:=xs) (f:=mP) (g:=stX n day fs lf pl ls) (emb:=apY n day fs lf pl ls) (Inv:=fun s=> ∃ i,ajO n day fs lf pl ls ps rs i s)
   (fun b hb s hs=>by obtain⟨i,hI⟩:=hs;exact⟨axo hI (hX b hb),_,(GQ hI (hX b hb)).2⟩) ⟨0,apa f⟩).1
  change aN mP 0 xs 0 (([]:LI),n,mode,day,ps,fs,rs,lf,pl,ls)=_ at hw
  rw [hw]at v2
  have v1':Lp.fin ek (GN n mode day ps fs rs lf pl ls xs)=true:=by rw [GN,o1];exact v1
  have v2':Lp.res ek (GN n mode day ps fs rs lf pl ls xs)=(0,nQ xs xs.length (apY n day fs lf pl ls (rrE n mode day ps fs rs lf pl ls xs))):=by
   rw [GN,o1,v2];simp only [Nat.zero_add];rfl
  simp only [Pj,Pk,Pl,Pm,Pn,Po,Pp,Pq,Pr,Ps,MK,ML,YH,YI,YJ,YK,YL,YM,YN,YO,WY,v2',v1',o2,nQ,apY,rrN,rrM,rrD,rrT,rrP,rrF,rrR,rrL,RJ,RI,rrV,hb,hc,c1,c2,a0,allT,cond_true,cond_false,Bool.or_true,Bool.and_self,and_self]
theorem aye(n mode day:Int)(ps:LI)(fs:L3)(rs:List LI)(lf:L3)(pl ls:L2)(x:RX):
  rrC n mode day ps fs rs lf pl ls [x]=bif !kO n ps fs rs lf mode pl ls day then 1 else bif !isX ps rs x then 2 else 0:=by
 simp only [rrC,ape,List.any_cons,List.any_nil,Bool.or_false];rfl
def srV(n mode day:Int)(ps:LI)(fs:L3)(rs:List LI)(lf:L3)(pl ls:L2)(x:RX):Int:=bif rrB n mode day ps fs rs lf pl ls [x]then vX n day fs lf pl ls (mode,ps,rs,[],0) x else 0
theorem ayg(n mode day:Int)(ps:LI)(fs:L3)(rs:List LI)(lf:L3)(pl ls:L2)(x:RX)(h:rrB n mode day ps fs rs lf pl ls [x]=true):rrV n mode day ps fs rs lf pl ls [x]= [srV n mode day ps fs rs lf pl ls x]:=by
 rw [rrV,srV,h];rfl
theorem avY(n mode day k t rk row ck role:Int)(cH:Bool)(ps:LI)(fs:L3)(rs:List LI)(lf:L3)(pl ls:L2)(hN:rV 9223372036854775807 ps fs rs lf pl ls=true):
  Sh n mode day k t rk row ck role cH ps fs rs lf pl ls=rrN n mode day ps fs rs lf pl ls [(k,t,(rk,row),ck,role,cH)]∧Si n mode day k t rk row ck role cH ps fs rs lf pl ls=rrM n mode day ps fs rs lf pl ls [(k,t,(rk,row),ck,role,cH)]∧
  Sj n mode day k t rk row ck role cH ps fs rs lf pl ls=rrD n mode day ps fs rs lf pl ls [(k,t,(rk,row),ck,role,cH)]∧Sk n mode day k t rk row ck role cH ps fs rs lf pl ls=srV n mode day ps fs rs lf pl ls (k,t,(rk,row),ck,role,cH)∧
  Sl n mode day k t rk row ck role cH ps fs rs lf pl ls=rrC n mode day ps fs rs lf pl ls [(k,t,(rk,row),ck,role,cH)]∧Sm n mode day k t rk row ck role cH ps fs rs lf pl ls=rrP n mode day ps fs rs lf pl ls [(k,t,(rk,row),ck,role,cH)]∧
  Sn n mode day k t rk row ck role cH ps fs rs lf pl ls=rrF n mode day ps fs rs lf pl ls [(k,t,(rk,row),ck,role,cH)]∧So n mode day k t rk row ck role cH ps fs rs lf pl ls=rrR n mode day ps fs rs lf pl ls [(k,t,(rk,row),ck,role,cH)]∧
  Sp n mode day k t rk row ck role cH ps fs rs lf pl ls=rrL n mode day ps fs rs lf pl ls [(k,t,(rk,row),ck,role,cH)]∧Sq n mode day k t rk row ck role cH ps fs rs lf pl ls=RJ n mode day ps fs rs lf pl ls [(k,t,(rk,row),ck,role,cH)]∧
  Qw n mode day k t rk row ck role cH ps fs rs lf pl ls=RI n mode day ps fs rs lf pl ls [(k,t,(rk,row),ck,role,cH)]∧Qx n mode day k t rk row ck role cH ps fs rs lf pl ls=true:=by
 obtain⟨o0,o1,o2,o3,o4,o5,o6,o7,o8,o9,o10,o11⟩:=aqa n mode day ps fs rs lf pl ls [(k,t,(rk,row),ck,role,cH)] hN
 cases hb:rrB n mode day ps fs rs lf pl ls [(k,t,(rk,row),ck,role,cH)]with
 |false=>
  have hb':=hb
  rw [rrB]at hb'
  simp only [iB,Qy,fE,Ka,Sh,Si,Sj,Sk,Sl,Sm,Sn,So,Sp,Sq,Qw,Qx,o0,o1,o2,o3,o4,o5,o6,o7,o8,o9,o10,o11,apF,hb,rrN,rrM,rrD,srV,rrP,rrF,rrR,rrL,RJ,RI,allT,Bool.not_false,Bool.true_or,cond_true,cond_false,and_self]
 |true=>
  have hc:rrC n mode day ps fs rs lf pl ls [(k,t,(rk,row),ck,role,cH)]=0:=beq_iff_eq.1 hb
  have hv:=ayg n mode day ps fs rs lf pl ls _ hb
  have n1:leI 0 0=true:=rfl
  have n2:ltI 0 (([srV n mode day ps fs rs lf pl ls (k,t,(rk,row),ck,role,cH)].length:Nat):Int)=true:=rfl
  have n3:ltN (Int.toNat 0) [srV n mode day ps fs rs lf pl ls (k,t,(rk,row),ck,role,cH)].length=true:=rfl
  simp only [iB,Qy,fE,Ka,Sh,Si,Sj,Sk,Sl,Sm,Sn,So,Sp,Sq,Qw,Qx,o0,o1,o2,o3,o4,o5,o6,o7,o8,o9,o10,o11,apF,hb,hv,n1,n2,n3,allT,Bool.not_true,Bool.false_or,cond_true,cond_false,and_self,true_and]
  exact⟨rfl,hc.symm,trivial⟩
theorem awh(n mode day:Int)(ps:LI)(fs:L3)(rs:List LI)(lf:L3)(pl ls:L2)(xs:List RX)(hN:rV 9223372036854775807 ps fs rs lf pl ls=true):
  ai0 n mode day ps fs rs lf pl ls xs=rrN n mode day ps fs rs lf pl ls xs∧ai1 n mode day ps fs rs lf pl ls xs=rrM n mode day ps fs rs lf pl ls xs∧
  ai2 n mode day ps fs rs lf pl ls xs=rrD n mode day ps fs rs lf pl ls xs∧
  ai3 n mode day ps fs rs lf pl ls xs=rrC n mode day ps fs rs lf pl ls xs∧ai4 n mode day ps fs rs lf pl ls xs=rrP n mode day ps fs rs lf pl ls xs∧
  ai5 n mode day ps fs rs lf pl ls xs=rrF n mode day ps fs rs lf pl ls xs∧ai6 n mode day ps fs rs lf pl ls xs=rrR n mode day ps fs rs lf pl ls xs∧
  ai7 n mode day ps fs rs lf pl ls xs=rrL n mode day ps fs rs lf pl ls xs∧ai8 n mode day ps fs rs lf pl ls xs=RJ n mode day ps fs rs lf pl ls xs∧
  ai9 n mode day ps fs rs lf pl ls xs=RI n mode day ps fs rs lf pl ls xs∧agw n mode day ps fs rs lf pl ls xs=rrV n mode day ps fs rs lf pl ls xs∧
  YZ n mode day ps fs rs lf pl ls xs=true:=by
 obtain⟨o0,o1,o2,o3,o4,o5,o6,o7,o8,o9,o10,o11,o12⟩:=avb n mode day ps fs rs lf pl ls xs hN
 exact⟨o0,o1,o2,o4,o5,o6,o7,o8,o9,o10,o11,by simp only [YZ,o12,allT,cond_true]⟩
def ahX:List SV→List Entry→Option Out
 | [.one ⟨true,[.val (.int .i64 x0),.ref 0,.ref 1,.ref 2,.ref 3,.val (.int .i64 x1),.ref 4,.ref 5,.val (.int .i64 x2)]⟩,.one ⟨false,[.ref 6]⟩],[.row false 2 (.int .i64) x3,.row false 169 (.pair (.int .i64) (.pair (.int .i64) (.int .i64))) x4,.row false 24 (.sl 2 (.int .i64)) x5,.row false 100 (.pair (.int .i64) (.pair (.int .i64) (.int .i64))) x6,.row false 173 (.pair (.int .i64) (.int .i64)) x7,.row false 176 (.pair (.int .i64) (.int .i64)) x8,.row false 49 (.pair (.int .i64) (.pair (.int .i64) (.pair (.pair (.int .i64) (.int .i64)) (.pair (.int .i64) (.pair (.int .i64) (.bool)))))) x9]=>some ⟨.tup [⟨true,[.val (.int .i64 (rrN x0 x1 x2 x3 x4 x5 x6 x7 x8 x9)),.ref 7,.ref 8,.ref 9,.ref 10,.val (.int .i64 (rrM x0 x1 x2 x3 x4 x5 x6 x7 x8 x9)),.ref 11,.ref 12,.val (.int .i64 (rrD x0 x1 x2 x3 x4 x5 x6 x7 x8 x9))]⟩,⟨false,[.ref 13]⟩,⟨false,[.val (.int .i64 (rrC x0 x1 x2 x3 x4 x5 x6 x7 x8 x9))]⟩],[.row false 2 ajn x3,.row false 169 adk x4,.row false 24 (CTy.sl (2:TypeId) ajn) x5,.row false 100 adk x6,.row false 173 aiq x7,.row false 176 aiq x8,.row false 49 abL x9],[.row true 2 ajn (rrP x0 x1 x2 x3 x4 x5 x6 x7 x8 x9),.row true 169 adk (rrF x0 x1 x2 x3 x4 x5 x6 x7 x8 x9),.row true 24 (CTy.sl (2:Nat) ajn) (rrR x0 x1 x2 x3 x4 x5 x6 x7 x8 x9),.row true 100 adk (rrL x0 x1 x2 x3 x4 x5 x6 x7 x8 x9),.row true 173 aiq (RJ x0 x1 x2 x3 x4 x5 x6 x7 x8 x9),.row true 176 aiq (RI x0 x1 x2 x3 x4 x5 x6 x7 x8 x9),.row true 2 ajn (rrV x0 x1 x2 x3 x4 x5 x6 x7 x8 x9)],[rV 9223372036854775807 x3 x4 x5 x6 x7 x8]⟩
 |_,_=>none
def Kj:PF prog:=PF.alt aqD ahX (by
 intro args es o h bz;unfold ahX at h;split at h
 ·rename_i x0 x1 x2 x3 x4 x5 x6 x7 x8 x9
  cases h
  have bz:=fM bz
  have hh:=awh x0 x1 x2 x3 x4 x5 x6 x7 x8 x9 bz
  obtain⟨e0,e1,e2,e3,e4,e5,e6,e7,e8,e9,e10,en⟩:=hh
  exact jK rfl (fj en) (by simp only [e0,e1,e2,e3] <;> rfl) rfl (by simp only [e4,e5,e6,e7,e8,e9,e10] <;> rfl)
 ·cases h)
def ahU:List SV→List Entry→Option Out
 | [.one ⟨true,[.val (.int .i64 x0),.ref 0,.ref 1,.ref 2,.ref 3,.val (.int .i64 x1),.ref 4,.ref 5,.val (.int .i64 x2)]⟩,.one ⟨false,[.ref 6]⟩],[.row false 2 (.int .i64) x3,.row false 169 (.pair (.int .i64) (.pair (.int .i64) (.int .i64))) x4,.row false 24 (.sl 2 (.int .i64)) x5,.row false 100 (.pair (.int .i64) (.pair (.int .i64) (.int .i64))) x6,.row false 173 (.pair (.int .i64) (.int .i64)) x7,.row false 176 (.pair (.int .i64) (.int .i64)) x8,.row false 49 (.pair (.int .i64) (.pair (.int .i64) (.pair (.pair (.int .i64) (.int .i64)) (.pair (.int .i64) (.pair (.int .i64) (.bool)))))) x9]=>some ⟨.tup [⟨true,[.val (.int .i64 (rrN x0 x1 x2 x3 x4 x5 x6 x7 x8 x9)),.ref 7,.ref 8,.ref 9,.ref 10,.val (.int .i64 (rrM x0 x1 x2 x3 x4 x5 x6 x7 x8 x9)),.ref 11,.ref 12,.val (.int .i64 (rrD x0 x1 x2 x3 x4 x5 x6 x7 x8 x9))]⟩,⟨false,[.ref 13]⟩,⟨false,[.val (.int .i64 (rrC x0 x1 x2 x3 x4 x5 x6 x7 x8 x9))]⟩],[.row false 2 ajn x3,.row false 169 adk x4,.row false 24 (CTy.sl (2:TypeId) ajn) x5,.row false 100 adk x6,.row false 173 aiq x7,.row false 176 aiq x8,.row false 49 abL x9],[.row true 2 ajn (rrP x0 x1 x2 x3 x4 x5 x6 x7 x8 x9),.row true 169 adk (rrF x0 x1 x2 x3 x4 x5 x6 x7 x8 x9),.tree 24 (CTy.sl (2:Nat) ajn) (rrR x0 x1 x2 x3 x4 x5 x6 x7 x8 x9) none,.row true 100 adk (rrL x0 x1 x2 x3 x4 x5 x6 x7 x8 x9),.row true 173 aiq (RJ x0 x1 x2 x3 x4 x5 x6 x7 x8 x9),.row true 176 aiq (RI x0 x1 x2 x3 x4 x5 x6 x7 x8 x9),.row true 2 ajn (rrV x0 x1 x2 x3 x4 x5 x6 x7 x8 x9)],[rV 9223372036854775807 x3 x4 x5 x6 x7 x8]⟩
 |_,_=>none
def Ki:PF prog:=PF.alt UU ahU (by
 intro args es o h bz;unfold ahU at h;split at h
 ·rename_i x0 x1 x2 x3 x4 x5 x6 x7 x8 x9
  cases h
  have bz:=fM bz
  have hh:=aqa x0 x1 x2 x3 x4 x5 x6 x7 x8 x9 bz
  obtain⟨e0,e1,e2,e3,e4,e5,e6,e7,e8,e9,e10,en⟩:=hh
  exact jK rfl (fj en) (by simp only [e0,e1,e2,e3] <;> rfl) rfl (by simp only [e4,e5,e6,e7,e8,e9,e10] <;> rfl)
 ·cases h)
def agd:List SV→List Entry→Option Out
 | [.one ⟨true,[.val (.int .i64 x0),.ref 0,.ref 1,.ref 2,.ref 3,.val (.int .i64 x1),.ref 4,.ref 5,.val (.int .i64 x2)]⟩,.one ⟨true,[.val (.int .i64 x3),.val (.int .i64 x4),.val (.int .i64 x5),.val (.int .i64 x6),.val (.int .i64 x7),.val (.int .i64 x8),.val (.bool x9)]⟩],[.row false 2 (.int .i64) x10,.row false 169 (.pair (.int .i64) (.pair (.int .i64) (.int .i64))) x11,.row false 24 (.sl 2 (.int .i64)) x12,.row false 100 (.pair (.int .i64) (.pair (.int .i64) (.int .i64))) x13,.row false 173 (.pair (.int .i64) (.int .i64)) x14,.row false 176 (.pair (.int .i64) (.int .i64)) x15]=>some ⟨.tup [⟨true,[.val (.int .i64 (rrN x0 x1 x2 x10 x11 x12 x13 x14 x15 [(x3,x4,(x5,x6),x7,x8,x9)])),.ref 6,.ref 7,.ref 8,.ref 9,.val (.int .i64 (rrM x0 x1 x2 x10 x11 x12 x13 x14 x15 [(x3,x4,(x5,x6),x7,x8,x9)])),.ref 10,.ref 11,.val (.int .i64 (rrD x0 x1 x2 x10 x11 x12 x13 x14 x15 [(x3,x4,(x5,x6),x7,x8,x9)]))]⟩,⟨false,[.val (.int .i64 (srV x0 x1 x2 x10 x11 x12 x13 x14 x15 (x3,x4,(x5,x6),x7,x8,x9)))]⟩,⟨false,[.val (.int .i64 (rrC x0 x1 x2 x10 x11 x12 x13 x14 x15 [(x3,x4,(x5,x6),x7,x8,x9)]))]⟩],[.row false 2 ajn x10,.row false 169 adk x11,.row false 24 (CTy.sl (2:TypeId) ajn) x12,.row false 100 adk x13,.row false 173 aiq x14,.row false 176 aiq x15],[.row true 2 ajn (rrP x0 x1 x2 x10 x11 x12 x13 x14 x15 [(x3,x4,(x5,x6),x7,x8,x9)]),.row true 169 adk (rrF x0 x1 x2 x10 x11 x12 x13 x14 x15 [(x3,x4,(x5,x6),x7,x8,x9)]),.tree 24 (CTy.sl (2:Nat) ajn) (rrR x0 x1 x2 x10 x11 x12 x13 x14 x15 [(x3,x4,(x5,x6),x7,x8,x9)]) none,.row true 100 adk (rrL x0 x1 x2 x10 x11 x12 x13 x14 x15 [(x3,x4,(x5,x6),x7,x8,x9)]),.row true 173 aiq (RJ x0 x1 x2 x10 x11 x12 x13 x14 x15 [(x3,x4,(x5,x6),x7,x8,x9)]),.row true 176 aiq (RI x0 x1 x2 x10 x11 x12 x13 x14 x15 [(x3,x4,(x5,x6),x7,x8,x9)])],[rV 9223372036854775807 x10 x11 x12 x13 x14 x15]⟩
 |_,_=>none
def GP:PF prog:=PF.alt apv agd (by
 intro args es o h bz;unfold agd at h;split at h
 ·rename_i x0 x1 x2 x3 x4 x5 x6 x7 x8 x9 x10 x11 x12 x13 x14 x15
  cases h
  have bz:=fM bz
  have hh:=avY x0 x1 x2 x3 x4 x5 x6 x7 x8 x9 x10 x11 x12 x13 x14 x15 bz
  obtain⟨e0,e1,e2,e3,e4,e5,e6,e7,e8,e9,e10,en⟩:=hh
  exact jK rfl (fj en) (by simp only [e0,e1,e2,e3,e4] <;> rfl) rfl (by simp only [e5,e6,e7,e8,e9,e10] <;> rfl)
 ·cases h)
abbrev ii:=Int×Int×List Int×Int×Int×List Int
section
variable (y0 y1:Int)(y2:List Int)(y3 y4:Int)(y5:List Int)
def Jb:Bool:=ltI y0 y1
def Jc:Bool:=aB y3 y4 y5&&leN (1:Nat) (List.length [(2:Int),(2:Int),(1:Int),(0:Int)])
def Jd:Bool:=leI (0:Int) y0
def Je:Bool:=ltI y0 (↑y2.length:Int)
def Jf:Bool:=ltN y0.toNat y2.length
def Jg:Int:=IntKind.wrap .i64 (y0 + (1:Int))
def Jh:List Int:=List.set y2 y0.toNat (pkV y3 y4 [(2:Int),(2:Int),(1:Int),(0:Int)] y5)
def Ji:Int:=pkA y3 [(2:Int),(2:Int),(1:Int),(0:Int)] y5
def Jj:Int:=pkS y3 y4 [(2:Int),(2:Int),(1:Int),(0:Int)] y5
end
def abP:ii→List (Nat×SV)
 |(y0,y1,_,_,_,_)=> [(9,(.one ⟨false,[.val (.int .i64 y0)]⟩)),(4,(.one ⟨false,[.val (.int .i64 y1)]⟩)),(8,(.one ⟨false,[.ref 0]⟩)),(0,(.one ⟨false,[.ptr 1 0]⟩))]
def abN:ii→List (Nat×Entry)
 |(_,_,y2,y3,y4,y5)=> [(0,(.row true 2 ajn y2)),(1,(.box 157 [.ref 2,.val (.int .i64 y3),.val (.int .i64 y4)])),(2,(.row false 5 aj7 y5))]
def abT:Nat→ii→List (Nat×SV)
 |_,(_,_,_,_,_,_)=> []
def abR:Nat→ii→List (Nat×Entry)
 |_,(_,_,y2,y3,y4,y5)=> [(0,(.row true 2 ajn y2)),(1,(.box 157 [.ref 2,.val (.int .i64 y3),.val (.int .i64 y4)])),(2,(.row false 5 aj7 y5))]
def GI:ii→LT ii
 |(y0,y1,y2,y3,y4,y5)=> .ite (Jb y0 y1) (.need [Jc y3 y4 y5,Jd y0,Je y0 y2,Jf y0 y2] (.nrm ((Jg y0),y1,Jh y0 y2 y3 y4 y5,Ji y3 y5,Jj y3 y4 y5,y5) [(0,0),(1,1),(2,2)])) (.ext 0 [(0,0),(1,1),(2,2)])
def GM(s:St):Option ii:=
 (match s.look 9 with
 |some ⟨none,.one ⟨false,[.val (.int .i64 y0)]⟩⟩=>
 (match s.look 4 with
 |some ⟨none,.one ⟨false,[.val (.int .i64 y1)]⟩⟩=>
 (match s.look 8 with
 |some ⟨none,.one ⟨false,[.ref 448]⟩⟩=>
 (match s.look 0 with
 |some ⟨none,.one ⟨false,[.ptr 1 0]⟩⟩=>
 (match s.ent 448 with
 |some (.row true 2 (.int .i64) y2)=>
 (match s.ent 1 with
 |some (.box 157 [.ref 4,.val (.int .i64 y3),.val (.int .i64 y4)])=>
 (match s.ent 4 with
 |some (.row false 5 (.int IntKind.u8) y5)=>
 some (y0,y1,y2,y3,y4,y5)
 |_=>none)
 |_=>none)
 |_=>none)
 |_=>none)
 |_=>none)
 |_=>none)
 |_=>none)
def eB:Lp ii where
 h:=⟨[57,58,59,62,63,64,65,66,67,60,61,9],[0,1,2],[],[]⟩
 JL:=abP
 JE:=abN
 XL:=abT
 XE:=abR
 q:=fun j=>match j with | _=> .exit 2
 tags:= [0]
 lt:=GI
 fuel:=fun(y0,y1,y2,y3,y4,y5)=>y0.natAbs + y1.natAbs + y2.length + y3.natAbs + y4.natAbs + y5.length
 fix:=fun(_,y1,_,_,_,y5) (y0,_,y2,y3,y4,_)=>(y0,y1,y2,y3,y4,y5)
 σ:= [(0,448),(1,1),(2,4)]
 rd:=GM
theorem ZM:LoopOk prog (memN [32,33,34,35,36,39,40,8,41,42,43,44,45,46,47,48,49,50,51,52,53,54,55,56,9,57,58,59,62,63,64,65,66,67,60,61,68,69,70,71,6,37,38,7]) eB.F (aiy (aK f51 0) 0):=by
 refine Lp.ok (tbl:= [wE,PF.lend wE,PF.fz wE,kM,PF.lend kM,PF.fz kM,kN,PF.lend kN,PF.fz kN,wF,PF.lend wF,PF.fz wF,mf,PF.lend mf,PF.fz mf,ae,PF.lend ae,PF.fz ae,ar,PF.lend ar,PF.fz ar,aaV]) (lf:= []) aO eB (by kernel_rfl) (LOk.nil _) (fun _=>rfl) (fun _ _=>rfl) ?_ ?_ ?_ ?_ (fun _=>rfl) ?_
 ·rintro⟨y0,y1,y2,y3,y4,y5⟩;kernel_rfl
 ·rintro⟨y0,y1,y2,y3,y4,y5⟩;kernel_rfl
 ·intro s x h
  have h:GM s=some x:=h
  unfold GM at h
  repeat' split at h
  all_goals cases h
  exact⟨aa (by assumption) rfl (aa (by assumption) rfl (aa (by assumption) rfl (aa (by assumption) rfl (rfl)))),ab rfl (by assumption) rfl (ab rfl (by assumption) rfl (ab rfl (by assumption) rfl (rfl)))⟩
 ·rintro⟨y0,y1,y2,y3,y4,y5⟩;kernel_rfl
 ·rintro⟨y0,y1,y2,y3,y4,y5⟩ z;exact(And.intro rfl trivial)
abbrev jZ:=Int×Int×Int×Int×Int×List (List Int)×List Int×List Int
section
variable (y0 y1 y2 y3 y4:Int)(y5:List (List Int))(y6 y7:List Int)
def DS:Bool:=Option.getD y6[Int.toNat y0]? (0:Int)==IntKind.wrap .i64 (IntKind.wrap .i64 ((3:Int) * IntKind.wrap .i64 (y2 - (1:Int))) + (1:Int))
def nO:Bool:=bif DS y0 y2 y6 then true else nxV (40:Int) y3 y4 y7==(0:Int)
def DT:Int:=bif !DS y0 y2 y6&&true then nxA (40:Int) y3 y7 else y3
def DU:Int:=bif !DS y0 y2 y6&&true then nxS (40:Int) y3 y4 y7 else y4
def DV:Int×Int×List Int×Int×Int×List Int:=((0:Int),y1,rF y1 (2:Int),DT y0 y2 y3 y6 y7,DU y0 y2 y3 y4 y6 y7,y7)
def DW:List Int×Int×Int×List Int:=(Lp.res eB (DV y0 y1 y2 y3 y4 y6 y7)).2.2.2
def xt:List (List Int):= [bif nO y0 y2 y3 y4 y6 y7 then (DW y0 y1 y2 y3 y4 y6 y7).1else rF y1 (2:Int)]
def Mv:Int×Int×List Int:=(DW y0 y1 y2 y3 y4 y6 y7).2
def GA:Bool:=ltI y0 (↑y6.length:Int)
def Wz:Bool:=leI (0:Int) y1&&leI y1 (500:Int)
def WA:Bool:=leI (0:Int) y0
def WB:Bool:=ltN y0.toNat y6.length
def WC:Bool:= !(!DS y0 y2 y6&&true)||aB y3 y4 y7
def WD:Bool:= !nO y0 y2 y3 y4 y6 y7||Lp.fin eB (DV y0 y1 y2 y3 y4 y6 y7)
def WE:Bool:=leN (List.length y5 + List.length (xt y0 y1 y2 y3 y4 y6 y7)) (9223372036854775807:Nat)
def WF:Bool:=leN ((List.length y5 + List.length (xt y0 y1 y2 y3 y4 y6 y7)) * (24:Nat)) (140737488355328:Nat)
def WG:Int:=IntKind.wrap .i64 (y0 + (1:Int))
def NX:Int:=bif nO y0 y2 y3 y4 y6 y7 then (Mv y0 y1 y2 y3 y4 y6 y7).1else DT y0 y2 y3 y6 y7
def Mu:Int:=bif nO y0 y2 y3 y4 y6 y7 then ((Mv y0 y1 y2 y3 y4 y6 y7).2).1else DU y0 y2 y3 y4 y6 y7
def VT:List (List Int):=y5++xt y0 y1 y2 y3 y4 y6 y7
def VU:List Int:=bif nO y0 y2 y3 y4 y6 y7 then y7 else y7
end
def afm:jZ→List (Nat×SV)
 |(y0,y1,_,_,_,_,_,_)=> [(7,(.one ⟨false,[.val (.int .i64 y0)]⟩)),(3,(.one ⟨false,[.ptr 0 0]⟩)),(4,(.one ⟨false,[.val (.int .i64 y1)]⟩)),(0,(.one ⟨false,[.ptr 1 0]⟩)),(6,(.one ⟨false,[.ref 2]⟩))]
def afj:jZ→List (Nat×Entry)
 |(_,_,y2,y3,y4,y5,y6,y7)=> [(0,(.box 26 [.val (.int .i64 y2),.ref 3])),(1,(.box 157 [.ref 4,.val (.int .i64 y3),.val (.int .i64 y4)])),(3,(.row true 2 ajn y6)),(4,(.row false 5 aj7 y7)),(2,(.row true 24 (CTy.sl (2:Nat) ajn) y5))]
def afs:Nat→jZ→List (Nat×SV)
 |_,(_,_,_,_,_,_,_,_)=> [(6,(.one ⟨false,[.ref 2]⟩))]
def afp:Nat→jZ→List (Nat×Entry)
 |_,(_,_,y2,y3,y4,y5,y6,y7)=> [(0,(.box 26 [.val (.int .i64 y2),.ref 3])),(1,(.box 157 [.ref 4,.val (.int .i64 y3),.val (.int .i64 y4)])),(2,(.row true 24 (CTy.sl (2:Nat) ajn) y5)),(3,(.row true 2 ajn y6)),(4,(.row false 5 aj7 y7))]
def Mf:jZ→LT jZ
 |(y0,y1,y2,y3,y4,y5,y6,y7)=> .ite (GA y0 y6) (.need [Wz y1] (.need [WA y0,GA y0 y6,WB y0 y6,WC y0 y2 y3 y4 y6 y7] (.need [WD y0 y1 y2 y3 y4 y6 y7] (.need [WE y0 y1 y2 y3 y4 y5 y6 y7,WF y0 y1 y2 y3 y4 y5 y6 y7] (.nrm ((WG y0),y1,y2,NX y0 y1 y2 y3 y4 y6 y7,Mu y0 y1 y2 y3 y4 y6 y7,VT y0 y1 y2 y3 y4 y5 y6 y7,y6,(VU y0 y2 y3 y4 y6 y7)) [(0,0),(1,1),(2,1920),(3,3),(4,4)]))))) (.ext 0 [(0,0),(1,1),(2,2),(3,3),(4,4)])
def Mk(s:St):Option jZ:=
 (match s.look 7 with
 |some ⟨none,.one ⟨false,[.val (.int .i64 y0)]⟩⟩=>
 (match s.look 3 with
 |some ⟨none,.one ⟨false,[.ptr 384 0]⟩⟩=>
 (match s.look 4 with
 |some ⟨none,.one ⟨false,[.val (.int .i64 y1)]⟩⟩=>
 (match s.look 0 with
 |some ⟨none,.one ⟨false,[.ptr 0 0]⟩⟩=>
 (match s.look 6 with
 |some ⟨none,.one ⟨false,[.ref 1920]⟩⟩=>
 (match s.ent 384 with
 |some (.box 26 [.val (.int .i64 y2),.ref 320])=>
 (match s.ent 0 with
 |some (.box 157 [.ref 1,.val (.int .i64 y3),.val (.int .i64 y4)])=>
 (match s.ent 320 with
 |some (.row true 2 (.int .i64) y6)=>
 (match s.ent 1 with
 |some (.row false 5 (.int IntKind.u8) y7)=>
 (match s.ent 1920 with
 |some (.row true 24 (.sl 2 (.int .i64)) y5)=>
 some (y0,y1,y2,y3,y4,y5,y6,y7)
 |_=>none)
 |_=>none)
 |_=>none)
 |_=>none)
 |_=>none)
 |_=>none)
 |_=>none)
 |_=>none)
 |_=>none)
 |_=>none)
def ik:Lp jZ where
 h:=⟨[32,33,34,35,36,39,40,8,41,42,43,44,45,46,47,48,49,50,51,52,53,54,55,56,9,57,58,59,62,63,64,65,66,67,60,61,68,69,70,71,6,37,38,7],[0,1,3,4],[2],[]⟩
 JL:=afm
 JE:=afj
 XL:=afs
 XE:=afp
 q:=fun j=>match j with | _=> .exit 0
 tags:= [0]
 lt:=Mf
 fuel:=fun(y0,y1,y2,y3,y4,y5,y6,y7)=>y0.natAbs + y1.natAbs + y2.natAbs + y3.natAbs + y4.natAbs + y5.length + y6.length + y7.length
 fix:=fun(_,y1,y2,_,_,_,y6,_) (y0,_,_,y3,y4,y5,_,y7)=>(y0,y1,y2,y3,y4,y5,y6,y7)
 σ:= [(0,384),(1,0),(3,320),(4,1),(2,1920)]
 rd:=Mk
theorem adt:LoopOk prog (fun k=>Nat.blt k Tryz.f51.ntmps) ik.F (aK f51 0):=by
 refine Lp.ok (tbl:= [wE,PF.lend wE,PF.fz wE,kM,PF.lend kM,PF.fz kM,kN,PF.lend kN,PF.fz kN,wF,PF.lend wF,PF.fz wF,mf,PF.lend mf,PF.fz mf,ae,PF.lend ae,PF.fz ae,ar,PF.lend ar,PF.fz ar,aaV]) (lf:= [eB.F]) aO ik (by kernel_rfl) (LOk.allT (l:= [aiy (aK f51 0) 0]) (by kernel_rfl) (.cons ZM (.nil _))) (fun _=>rfl) (fun _ _=>rfl) ?_ ?_ ?_ ?_ (fun _=>rfl) ?_
 ·rintro⟨y0,y1,y2,y3,y4,y5,y6,y7⟩;kernel_rfl
 ·rintro⟨y0,y1,y2,y3,y4,y5,y6,y7⟩;kernel_rfl
 ·intro s x h
  have h:Mk s=some x:=h
  unfold Mk at h
  repeat' split at h
  all_goals cases h
  exact⟨aa (by assumption) rfl (aa (by assumption) rfl (aa (by assumption) rfl (aa (by assumption) rfl (aa (by assumption) rfl (rfl))))),ab rfl (by assumption) rfl (ab rfl (by assumption) rfl (ab rfl (by assumption) rfl (ab rfl (by assumption) rfl (ab rfl (by assumption) rfl (rfl)))))⟩
 ·rintro⟨y0,y1,y2,y3,y4,y5,y6,y7⟩;kernel_rfl
 ·rintro⟨y0,y1,y2,y3,y4,y5,y6,y7⟩ z;exact(And.intro rfl trivial)
section
variable (x0 x1:Int)(x2:List Int)
def sV:Int:=IntKind.wrap .i64 ((1:Int) + nxV (3:Int) (mD x0 x1 x2) (Bi x0 x1 x2) x2)
def Dt:Int:=nxS (3:Int) (mD x0 x1 x2) (Bi x0 x1 x2) x2
def Du:Int:=Bv (jX x0 x1 x2) (nxA (3:Int) (mD x0 x1 x2) x2) (Dt x0 x1 x2) x2
def Dv:Int:=Bw (jX x0 x1 x2) (nxA (3:Int) (mD x0 x1 x2) x2) (Dt x0 x1 x2) x2
def mn:Int:=kQ (sV x0 x1 x2) (Du x0 x1 x2) (Dv x0 x1 x2) x2
def JT:Int:=kR (sV x0 x1 x2) (Du x0 x1 x2) (Dv x0 x1 x2) x2
def Dw:List Int:= [(3:Int),(3:Int),(3:Int),(2:Int),nxV (6:Int) (mn x0 x1 x2) (JT x0 x1 x2) x2]
def Dx:Int:=pkA (nxA (6:Int) (mn x0 x1 x2) x2) (Dw x0 x1 x2) x2
def JU:Int:=nxS (6:Int) (mn x0 x1 x2) (JT x0 x1 x2) x2
def JV:Int:=pkS (nxA (6:Int) (mn x0 x1 x2) x2) (JU x0 x1 x2) (Dw x0 x1 x2) x2
def Ii:Int×Int×Int×Int×Int×List (List Int)×List Int×List Int:=((0:Int),sV x0 x1 x2,jX x0 x1 x2,nxA (40:Int) (Dx x0 x1 x2) x2,nxS (40:Int) (Dx x0 x1 x2) (JV x0 x1 x2) x2,[],ro x0 x1 x2,x2)
def vE:Int×Int×List (List Int)×List Int×List Int:=(Lp.res ik (Ii x0 x1 x2)).2.2.2.2
def vF:Int:=(vE x0 x1 x2).1
def BM:Int×List (List Int)×List Int×List Int:=(vE x0 x1 x2).2
def BN:Int:=(BM x0 x1 x2).1
def Ij:List (List Int)×List Int×List Int:=(BM x0 x1 x2).2
def aA:List Int:=(Ij x0 x1 x2).2.2
def aM:Bool:=nxV (3:Int) (vF x0 x1 x2) (BN x0 x1 x2) (aA x0 x1 x2)==(0:Int)
def kY:Int:=nxA (3:Int) (vF x0 x1 x2) (aA x0 x1 x2)
def nt:Int:=nxS (3:Int) (vF x0 x1 x2) (BN x0 x1 x2) (aA x0 x1 x2)
def vG:Int:=xh (kY x0 x1 x2) (nt x0 x1 x2) (aA x0 x1 x2)
def vH:Int:=xj (kY x0 x1 x2) (nt x0 x1 x2) (aA x0 x1 x2)
def vI:Int:=mj (vG x0 x1 x2) (vH x0 x1 x2) (aA x0 x1 x2)
def BO:Int:=ml (vG x0 x1 x2) (vH x0 x1 x2) (aA x0 x1 x2)
def PU:Int:=nxV (40:Int) (vI x0 x1 x2) (BO x0 x1 x2) (aA x0 x1 x2)
def bp:Bool:=PU x0 x1 x2==(0:Int)
def bv:Bool:=PU x0 x1 x2==(1:Int)
def ry:Bool:=PU x0 x1 x2==(2:Int)
def PV:Int:=nxV (40:Int) (kY x0 x1 x2) (nt x0 x1 x2) (aA x0 x1 x2)
def bw:Bool:=PV x0 x1 x2==(0:Int)
def bE:Bool:=PV x0 x1 x2==(1:Int)
def rz:Bool:=PV x0 x1 x2==(2:Int)
def iu:Int:=nxA (40:Int) (vI x0 x1 x2) (aA x0 x1 x2)
def kZ:Int:=nxS (40:Int) (vI x0 x1 x2) (BO x0 x1 x2) (aA x0 x1 x2)
def vJ:Int:=pkV (nxA (6:Int) (mn x0 x1 x2) x2) (JU x0 x1 x2) (Dw x0 x1 x2) x2
def iv:Int:=nxA (40:Int) (kY x0 x1 x2) (aA x0 x1 x2)
def lc:Int:=nxS (40:Int) (kY x0 x1 x2) (nt x0 x1 x2) (aA x0 x1 x2)
def vK:Int:=nxV (40:Int) (Dx x0 x1 x2) (JV x0 x1 x2) x2
def rA:List (Int×Int×Int):=Bx (jX x0 x1 x2) (nxA (3:Int) (mD x0 x1 x2) x2) (Dt x0 x1 x2) x2
def ld:List (List Int):=(Ij x0 x1 x2).1
def vL:List (List Int):=ld x0 x1 x2++ [[(2:Int)]]
def rB:List (Int×Int×Int):=kS (sV x0 x1 x2) (Du x0 x1 x2) (Dv x0 x1 x2) x2
def BP:List (Int×Int):=xk (kY x0 x1 x2) (nt x0 x1 x2) (aA x0 x1 x2)
def Ik:List (Int×Int):=bif bw x0 x1 x2 then []else bif bE x0 x1 x2 then []else []
def BQ:List (Int×Int):=mm (vG x0 x1 x2) (vH x0 x1 x2) (aA x0 x1 x2)
def PW:Bool:=aB (kY x0 x1 x2) (nt x0 x1 x2) (aA x0 x1 x2)
def PX:Bool:=aB (iu x0 x1 x2) (kZ x0 x1 x2) (aA x0 x1 x2)
def PY:Bool:=leN (List.length (ld x0 x1 x2) + List.length [[(2:Int)]]) (9223372036854775807:Nat)
def PZ:Bool:=leN ((List.length (ld x0 x1 x2) + List.length [[(2:Int)]]) * (24:Nat)) (140737488355328:Nat)
def Qa:Bool:=aB (iv x0 x1 x2) (lc x0 x1 x2) (aA x0 x1 x2)
def Gl:Int:=bif aM x0 x1 x2 then bif bp x0 x1 x2 then jX x0 x1 x2 else bif bv x0 x1 x2 then jX x0 x1 x2 else bif ry x0 x1 x2 then jX x0 x1 x2 else jX x0 x1 x2 else bif bw x0 x1 x2 then jX x0 x1 x2 else bif bE x0 x1 x2 then jX x0 x1 x2 else bif rz x0 x1 x2 then jX x0 x1 x2 else jX x0 x1 x2
def Gm:Int:=bif aM x0 x1 x2 then bif bp x0 x1 x2 then pkV (iu x0 x1 x2) (kZ x0 x1 x2) [(-1:Int),(6:Int)] (aA x0 x1 x2)else bif bv x0 x1 x2 then vJ x0 x1 x2 else bif ry x0 x1 x2 then vJ x0 x1 x2 else vJ x0 x1 x2 else bif bw x0 x1 x2 then pkV (iv x0 x1 x2) (lc x0 x1 x2) [(-1:Int),(6:Int)] (aA x0 x1 x2)else bif bE x0 x1 x2 then vJ x0 x1 x2 else bif rz x0 x1 x2 then vJ x0 x1 x2 else vJ x0 x1 x2
def Gn:Int:=bif aM x0 x1 x2 then bif bp x0 x1 x2 then vK x0 x1 x2 else bif bv x0 x1 x2 then vK x0 x1 x2 else bif ry x0 x1 x2 then pkV (iu x0 x1 x2) (kZ x0 x1 x2) [(-1:Int),(100000:Int),(100001:Int)] (aA x0 x1 x2)else vK x0 x1 x2 else bif bw x0 x1 x2 then vK x0 x1 x2 else bif bE x0 x1 x2 then vK x0 x1 x2 else bif rz x0 x1 x2 then pkV (iv x0 x1 x2) (lc x0 x1 x2) [(-1:Int),(100000:Int),(100001:Int)] (aA x0 x1 x2)else vK x0 x1 x2
def rr:Int:=bif aM x0 x1 x2 then bif bp x0 x1 x2 then pkA (iu x0 x1 x2) [(-1:Int),(6:Int)] (aA x0 x1 x2)else bif bv x0 x1 x2 then iu x0 x1 x2 else bif ry x0 x1 x2 then pkA (iu x0 x1 x2) [(-1:Int),(100000:Int),(100001:Int)] (aA x0 x1 x2)else iu x0 x1 x2 else bif bw x0 x1 x2 then pkA (iv x0 x1 x2) [(-1:Int),(6:Int)] (aA x0 x1 x2)else bif bE x0 x1 x2 then iv x0 x1 x2 else bif rz x0 x1 x2 then pkA (iv x0 x1 x2) [(-1:Int),(100000:Int),(100001:Int)] (aA x0 x1 x2)else iv x0 x1 x2
def uw:Int:=bif aM x0 x1 x2 then bif bp x0 x1 x2 then pkS (iu x0 x1 x2) (kZ x0 x1 x2) [(-1:Int),(6:Int)] (aA x0 x1 x2)else bif bv x0 x1 x2 then kZ x0 x1 x2 else bif ry x0 x1 x2 then pkS (iu x0 x1 x2) (kZ x0 x1 x2) [(-1:Int),(100000:Int),(100001:Int)] (aA x0 x1 x2)else kZ x0 x1 x2 else bif bw x0 x1 x2 then pkS (iv x0 x1 x2) (lc x0 x1 x2) [(-1:Int),(6:Int)] (aA x0 x1 x2)else bif bE x0 x1 x2 then lc x0 x1 x2 else bif rz x0 x1 x2 then pkS (iv x0 x1 x2) (lc x0 x1 x2) [(-1:Int),(100000:Int),(100001:Int)] (aA x0 x1 x2)else lc x0 x1 x2
def rt:List Int:=bif aM x0 x1 x2 then bif bp x0 x1 x2 then ro x0 x1 x2 else bif bv x0 x1 x2 then ro x0 x1 x2 else ro x0 x1 x2 else bif bw x0 x1 x2 then ro x0 x1 x2 else bif bE x0 x1 x2 then ro x0 x1 x2 else ro x0 x1 x2
def ru:List (Int×(Int×Int)):=bif aM x0 x1 x2 then bif bp x0 x1 x2 then rA x0 x1 x2 else bif bv x0 x1 x2 then rA x0 x1 x2 else rA x0 x1 x2 else bif bw x0 x1 x2 then rA x0 x1 x2 else bif bE x0 x1 x2 then rA x0 x1 x2 else rA x0 x1 x2
def nN:List (List Int):=bif aM x0 x1 x2 then bif bp x0 x1 x2 then ld x0 x1 x2 else bif bv x0 x1 x2 then vL x0 x1 x2 else ld x0 x1 x2 else bif bw x0 x1 x2 then ld x0 x1 x2 else bif bE x0 x1 x2 then vL x0 x1 x2 else ld x0 x1 x2
def rv:List (Int×(Int×Int)):=bif aM x0 x1 x2 then bif bp x0 x1 x2 then rB x0 x1 x2 else bif bv x0 x1 x2 then rB x0 x1 x2 else rB x0 x1 x2 else bif bw x0 x1 x2 then rB x0 x1 x2 else bif bE x0 x1 x2 then rB x0 x1 x2 else rB x0 x1 x2
def rx:List (Int×Int):=bif aM x0 x1 x2 then bif bp x0 x1 x2 then BP x0 x1 x2 else bif bv x0 x1 x2 then BP x0 x1 x2 else BP x0 x1 x2 else Ik x0 x1 x2
def oN:List (Int×Int):=bif aM x0 x1 x2 then bif bp x0 x1 x2 then BQ x0 x1 x2 else bif bv x0 x1 x2 then BQ x0 x1 x2 else BQ x0 x1 x2 else Ik x0 x1 x2
def Rn:Bool:=allT [aB x0 x1 x2,aB (mD x0 x1 x2) (Bi x0 x1 x2) x2,aB (nxA (3:Int) (mD x0 x1 x2) x2) (Dt x0 x1 x2) x2,aB (Du x0 x1 x2) (Dv x0 x1 x2) x2,aB (mn x0 x1 x2) (JT x0 x1 x2) x2,aB (nxA (6:Int) (mn x0 x1 x2) x2) (JU x0 x1 x2) x2&&leN (1:Nat) (List.length (Dw x0 x1 x2)),aB (Dx x0 x1 x2) (JV x0 x1 x2) x2,Lp.fin ik (Ii x0 x1 x2),aB (vF x0 x1 x2) (BN x0 x1 x2) (aA x0 x1 x2),!aM x0 x1 x2||PW x0 x1 x2,!aM x0 x1 x2||aB (vG x0 x1 x2) (vH x0 x1 x2) (aA x0 x1 x2),!aM x0 x1 x2||aB (vI x0 x1 x2) (BO x0 x1 x2) (aA x0 x1 x2),!aM x0 x1 x2||(!bp x0 x1 x2||PX x0 x1 x2&&leN (1:Nat) (List.length [(-1:Int),(6:Int)])),!aM x0 x1 x2||(bp x0 x1 x2||(!bv x0 x1 x2||PY x0 x1 x2)),!aM x0 x1 x2||(bp x0 x1 x2||(!bv x0 x1 x2||PZ x0 x1 x2)),!aM x0 x1 x2||(bp x0 x1 x2||(bv x0 x1 x2||(!ry x0 x1 x2||PX x0 x1 x2&&leN (1:Nat) (List.length [(-1:Int),(100000:Int),(100001:Int)])))),aM x0 x1 x2||PW x0 x1 x2,aM x0 x1 x2||(!bw x0 x1 x2||Qa x0 x1 x2&&leN (1:Nat) (List.length [(-1:Int),(6:Int)])),aM x0 x1 x2||(bw x0 x1 x2||(!bE x0 x1 x2||PY x0 x1 x2)),aM x0 x1 x2||(bw x0 x1 x2||(!bE x0 x1 x2||PZ x0 x1 x2)),aM x0 x1 x2||(bw x0 x1 x2||(bE x0 x1 x2||(!rz x0 x1 x2||Qa x0 x1 x2&&leN (1:Nat) (List.length [(-1:Int),(100000:Int),(100001:Int)]))))]
end
def aaa:List SV→List Entry→Option Out
 | [.one ⟨false,[.ptr 0 0]⟩],[.box 157 [.ref 1,.val (.int .i64 x0),.val (.int .i64 x1)],.row false 5 (.int .u8) x2]=>some ⟨.one ⟨true,[.val (.int .i64 (Gl x0 x1 x2)),.ref 2,.ref 3,.ref 4,.ref 5,.val (.int .i64 (Gm x0 x1 x2)),.ref 6,.ref 7,.val (.int .i64 (Gn x0 x1 x2))]⟩,[.box 157 [.ref 1,.val (.int .i64 (rr x0 x1 x2)),.val (.int .i64 (uw x0 x1 x2))],.row false 5 aj7 x2],[.row true 2 ajn (rt x0 x1 x2),.row true 169 adk (ru x0 x1 x2),.row true 24 (CTy.sl (2:Nat) ajn) (nN x0 x1 x2),.row true 100 adk (rv x0 x1 x2),.row true 173 aiq (rx x0 x1 x2),.row true 176 aiq (oN x0 x1 x2)],[Rn x0 x1 x2]⟩
 |_,_=>none
def alR:PF prog:=PF.ofG prog [wE,PF.lend wE,PF.fz wE,kM,PF.lend kM,PF.fz kM,kN,PF.lend kN,PF.fz kN,wF,PF.lend wF,PF.fz wF,mf,PF.lend mf,PF.fz mf,ae,PF.lend ae,PF.fz ae,ar,PF.lend ar,PF.fz ar,aaV] [ik.F] aO 51 f51 func51 (LOk.fnT (l:= [aK f51 0]) (by kernel_rfl) (.cons adt (.nil _))) aaa (by
 intro vs es r h;unfold aaa at h;split at h
 ·cases h;kernel_rfl
 ·cases h)
section
variable (x3 x4:Int)(x7:List (List Int))(x11:List Int)
def Rp:Int:=nxV (6:Int) (nxA (↑x7.length:Int) x3 x11) (nxS (↑x7.length:Int) x3 x4 x11) x11
def ZC:Bool:=Rp x3 x4 x7 x11==(0:Int)
def ey:Bool:=bif ZC x3 x4 x7 x11 then ZC x3 x4 x7 x11 else Rp x3 x4 x7 x11==(1:Int)
def xI:Bool:=ltI (0:Int) (↑x7.length:Int)
def Dy:Int:=bif xI x7 then(↑(List.length (Option.getD x7[Int.toNat (0:Int)]? (DA (CTy.sl (2:TypeId) ajn)))):Int)else(1:Int)
def fK:Int:=nxA (6:Int) (nxA (↑x7.length:Int) x3 x11) x11
def fL:Int:=nxS (6:Int) (nxA (↑x7.length:Int) x3 x11) (nxS (↑x7.length:Int) x3 x4 x11) x11
def mo:Bool:=Rp x3 x4 x7 x11==(2:Int)
def ez:Int:=bif ey x3 x4 x7 x11 then Ge (Dy x7) (fK x3 x7 x11) (fL x3 x4 x7 x11) x11 else bif mo x3 x4 x7 x11 then PR (fK x3 x7 x11) (fL x3 x4 x7 x11) x11 else fK x3 x7 x11
def Dz:Int:=bif ey x3 x4 x7 x11 then Gf (Dy x7) (fK x3 x7 x11) (fL x3 x4 x7 x11) x11 else bif mo x3 x4 x7 x11 then PS (fK x3 x7 x11) (fL x3 x4 x7 x11) x11 else fL x3 x4 x7 x11
def Yj:Int:=nxV (80:Int) (ez x3 x4 x7 x11) (Dz x3 x4 x7 x11) x11
def iw:Bool:=Yj x3 x4 x7 x11==(0:Int)
def rD:Int:=nxS (80:Int) (ez x3 x4 x7 x11) (Dz x3 x4 x7 x11) x11
def jG:Bool:=Yj x3 x4 x7 x11==(1:Int)
def Yk:Int:=bif ey x3 x4 x7 x11 then(1:Int)else bif mo x3 x4 x7 x11 then(2:Int)else(0:Int)
def Yl:Int:=bif ey x3 x4 x7 x11 then nxV (↑x7.length:Int) x3 x4 x11 else bif mo x3 x4 x7 x11 then(0:Int)else nxV (↑x7.length:Int) x3 x4 x11
def rE:List Int:= [(-1:Int),(↑x7.length:Int)]
def Ym:Int:=bif mo x3 x4 x7 x11 then(0:Int)else(0:Int)
def Qb:Int:=bif ey x3 x4 x7 x11 then Mr (Dy x7) (fK x3 x7 x11) (fL x3 x4 x7 x11) x11 else Ym x3 x4 x7 x11
def Qc:Int:=bif ey x3 x4 x7 x11 then Mt (Dy x7) (fK x3 x7 x11) (fL x3 x4 x7 x11) x11 else Ym x3 x4 x7 x11
def Qd:Int:=bif ey x3 x4 x7 x11 then(0:Int)else bif mo x3 x4 x7 x11 then VL (fK x3 x7 x11) (fL x3 x4 x7 x11) x11 else(0:Int)
def Qe:Int:=bif ey x3 x4 x7 x11 then(0:Int)else bif mo x3 x4 x7 x11 then VM (fK x3 x7 x11) (fL x3 x4 x7 x11) x11 else(0:Int)
def Qf:Bool:=bif ey x3 x4 x7 x11 then false else bif mo x3 x4 x7 x11 then VN (fK x3 x7 x11) (fL x3 x4 x7 x11) x11 else false
def Il:Bool:=aB (nxA (80:Int) (ez x3 x4 x7 x11) x11) (rD x3 x4 x7 x11) x11
def Gp:Int:=bif iw x3 x4 x7 x11 then pkV (nxA (80:Int) (ez x3 x4 x7 x11) x11) (rD x3 x4 x7 x11) [(-1:Int),(3:Int),(0:Int),(1:Int),(2:Int)] x11 else bif jG x3 x4 x7 x11 then Yk x3 x4 x7 x11 else Yk x3 x4 x7 x11
def Gq:Int:=bif iw x3 x4 x7 x11 then Yl x3 x4 x7 x11 else bif jG x3 x4 x7 x11 then pkV (nxA (80:Int) (ez x3 x4 x7 x11) x11) (rD x3 x4 x7 x11) (rE x7) x11 else Yl x3 x4 x7 x11
def Mw:Int:=bif iw x3 x4 x7 x11 then Qb x3 x4 x7 x11 else bif jG x3 x4 x7 x11 then Qb x3 x4 x7 x11 else Qb x3 x4 x7 x11
def Mx:Int:=bif iw x3 x4 x7 x11 then Qc x3 x4 x7 x11 else bif jG x3 x4 x7 x11 then Qc x3 x4 x7 x11 else Qc x3 x4 x7 x11
def My:Int:=bif iw x3 x4 x7 x11 then Qd x3 x4 x7 x11 else bif jG x3 x4 x7 x11 then Qd x3 x4 x7 x11 else Qd x3 x4 x7 x11
def Mz:Int:=bif iw x3 x4 x7 x11 then Qe x3 x4 x7 x11 else bif jG x3 x4 x7 x11 then Qe x3 x4 x7 x11 else Qe x3 x4 x7 x11
def MA:Bool:=bif iw x3 x4 x7 x11 then Qf x3 x4 x7 x11 else bif jG x3 x4 x7 x11 then Qf x3 x4 x7 x11 else Qf x3 x4 x7 x11
def nP:Int:=bif iw x3 x4 x7 x11 then pkA (nxA (80:Int) (ez x3 x4 x7 x11) x11) [(-1:Int),(3:Int),(0:Int),(1:Int),(2:Int)] x11 else bif jG x3 x4 x7 x11 then pkA (nxA (80:Int) (ez x3 x4 x7 x11) x11) (rE x7) x11 else nxA (80:Int) (ez x3 x4 x7 x11) x11
def rC:Int:=bif iw x3 x4 x7 x11 then pkS (nxA (80:Int) (ez x3 x4 x7 x11) x11) (rD x3 x4 x7 x11) [(-1:Int),(3:Int),(0:Int),(1:Int),(2:Int)] x11 else bif jG x3 x4 x7 x11 then pkS (nxA (80:Int) (ez x3 x4 x7 x11) x11) (rD x3 x4 x7 x11) (rE x7) x11 else rD x3 x4 x7 x11
def MB:Bool:=allT [aB x3 x4 x11,aB (nxA (↑x7.length:Int) x3 x11) (nxS (↑x7.length:Int) x3 x4 x11) x11,!ey x3 x4 x7 x11||(!xI x7||leI (0:Int) (0:Int)),!ey x3 x4 x7 x11||(!xI x7||xI x7),!ey x3 x4 x7 x11||(!xI x7||ltN (Int.toNat (0:Int)) x7.length),!ey x3 x4 x7 x11||aB (fK x3 x7 x11) (fL x3 x4 x7 x11) x11,ey x3 x4 x7 x11||(!mo x3 x4 x7 x11||aB (fK x3 x7 x11) (fL x3 x4 x7 x11) x11),aB (ez x3 x4 x7 x11) (Dz x3 x4 x7 x11) x11,!iw x3 x4 x7 x11||Il x3 x4 x7 x11&&leN (1:Nat) (List.length [(-1:Int),(3:Int),(0:Int),(1:Int),(2:Int)]),iw x3 x4 x7 x11||(!jG x3 x4 x7 x11||Il x3 x4 x7 x11&&leN (1:Nat) (List.length (rE x7)))]
end
def aab:List SV→List Entry→Option Out
 | [.one ⟨false,[.ptr 0 0]⟩,.one ⟨true,[.val (.int .i64 _x0),.ref 1,.ref 2,.ref 3,.ref 4,.val (.int .i64 _x1),.ref 5,.ref 6,.val (.int .i64 _x2)]⟩],[.box 157 [.ref 7,.val (.int .i64 x3),.val (.int .i64 x4)],.row false 2 (.int .i64) x5,.row false 169 (.pair (.int .i64) (.pair (.int .i64) (.int .i64))) x6,.row false 24 (.sl 2 (.int .i64)) x7,.row false 100 (.pair (.int .i64) (.pair (.int .i64) (.int .i64))) x8,.row false 173 (.pair (.int .i64) (.int .i64)) x9,.row false 176 (.pair (.int .i64) (.int .i64)) x10,.row false 5 (.int .u8) x11]=>some ⟨.one ⟨true,[.val (.int .i64 (Gp x3 x4 x7 x11)),.val (.int .i64 (Gq x3 x4 x7 x11)),.val (.int .i64 (Mw x3 x4 x7 x11)),.val (.int .i64 (Mx x3 x4 x7 x11)),.val (.int .i64 (My x3 x4 x7 x11)),.val (.int .i64 (Mz x3 x4 x7 x11)),.val (.bool (MA x3 x4 x7 x11))]⟩,[.box 157 [.ref 7,.val (.int .i64 (nP x3 x4 x7 x11)),.val (.int .i64 (rC x3 x4 x7 x11))],.row false 2 ajn x5,.row false 169 adk x6,.row false 24 (CTy.sl (2:TypeId) ajn) x7,.row false 100 adk x8,.row false 173 aiq x9,.row false 176 aiq x10,.row false 5 aj7 x11],[],[MB x3 x4 x7 x11]⟩
 |_,_=>none
def alS:PF prog:=PF.ofG prog [Tf,PF.lend Tf,PF.fz Tf,aaU,PF.lend aaU,PF.fz aaU,ae,PF.lend ae,PF.fz ae,ar,PF.lend ar,PF.fz ar] [] aO 53 f53 func53 (fun c _=>LOk.nil c) aab (by
 intro vs es r h;unfold aab at h;split at h
 ·cases h;kernel_rfl
 ·cases h)
 attribute [local irreducible] nxA nxS nxV pkA pkS pkV
def apQ(n:Nat)(l:List (List Int)):Prop:= ∀ x∈l,x.length≤n
theorem awp(n:Nat):apQ n []:=fun _ h=>by cases h
theorem as8{n:Nat}{l:List (List Int)}{x:List Int}(h:apQ n l)(hx:x.length≤n):apQ n (l++ [x]):=fun y hy=>by
 simp only [List.mem_append,List.mem_cons,List.not_mem_nil,or_false]at hy
 rcases hy with hy | rfl
 ·exact h y hy
 ·exact hx
theorem awo{n:Nat}{l:List (List Int)}{x:List Int}(h:apQ n l)(hx:x∈l):x.length≤n:=h x hx
 attribute [local irreducible] apQ
theorem ZP(c:List Int)(x:ii)(hx:match x with | (y0,y1,y2,y3,y4,y5)=>y1 - y0≤((500:Nat):Int)∧0≤y0∧(y2.length:Int)=y1∧y1≤500∧aB y3 y4 y5=true∧y5=c):
  eB.fin x=true∧ ∃ j y,eB.res x=(j,y)∧(match y with | (y0,y1,y2,y3,y4,y5)=>(y2.length:Int)≤500∧aB y3 y4 c=true∧c=y5):=by
 refine eB.inv2 (fun k x=>match x with | (y0,y1,y2,y3,y4,y5)=>y1 - y0≤(k:Int)∧0≤y0∧(y2.length:Int)=y1∧y1≤500∧aB y3 y4 y5=true∧y5=c) (fun y=>match y with | (y0,y1,y2,y3,y4,y5)=>(y2.length:Int)≤500∧aB y3 y4 c=true∧c=y5) (fun k x hx=> ?_) (fun x hx=> ?_) 500 x (by omega) hx
 ·obtain⟨y0,y1,y2,y3,y4,y5⟩:=x
  obtain⟨h0,h1,h2,h3,h4,rfl⟩:=hx
  skip
  simp only [eB,GI,LT.ok,EK,EL,and_true,Jb,Jc,Jd,Je,Jf,Jg,Jh,Ji,Jj,Bool.or_eq_true,Bool.and_eq_true]
  repeat' (first | refine And.intro ?_ ?_ | intro _)
  all_goals first
   |omega
   |(repeat (first | assumption | apply fN | apply pz | apply rH | refine Or.inr ?_ | refine And.intro ?_ ?_ | exact trivial | exact sd _ _ | rfl)
     done)
   |((repeat refine Or.inr ?_)
     exact bY (by first | omega | (simp only [S2];omega)))
   |(simp only [S2]
     omega)
   |(repeat' apply mT
     all_goals first | omega | (simp only [S2];omega))
   |(try simp only [S1,ZN,dT,List.length_set]at *
     rw [aw (by omega) (by omega)]
     first | omega | (simp only [S2];omega))
   |(simp only [S1,ZN,dT,List.length_set]at *
     first | omega | (exfalso;omega))
   |(exfalso;simp_all;done)
 ·obtain⟨y0,y1,y2,y3,y4,y5⟩:=x
  obtain⟨h0,h1,h2,h3,h4,rfl⟩:=hx
  skip
  skip
  simp only [eB,GI,LT.ok,EK,EL,and_true,Jb,Jc,Jd,Je,Jf,Jg,Jh,Ji,Jj,Bool.or_eq_true,Bool.and_eq_true]
  repeat' (first | refine And.intro ?_ ?_ | intro _)
  all_goals first
   |omega
   |(repeat (first | assumption | apply fN | apply pz | apply rH | refine Or.inr ?_ | refine And.intro ?_ ?_ | exact trivial | exact sd _ _ | rfl)
     done)
   |((repeat refine Or.inr ?_)
     exact bY (by first | omega | (simp only [S2];omega)))
   |(simp only [S2]
     omega)
   |(repeat' apply mT
     all_goals first | omega | (simp only [S2];omega))
   |(try simp only [S1,ZN,dT,List.length_set]at *
     rw [aw (by omega) (by omega)]
     first | omega | (simp only [S2];omega))
   |(simp only [S1,ZN,dT,List.length_set]at *
     first | omega | (exfalso;omega))
   |(exfalso;simp_all;done)
theorem adM(c:List Int)(x:jZ)(hx:match x with | (y0,y1,y2,y3,y4,y5,y6,y7)=>0≤y0∧(y6.length:Int) - y0≤((9:Nat):Int)∧y6.length≤9∧(1≤y1∧y1≤500)∧aB y3 y4 y7=true∧y5.length + (9:Nat)≤9∧apQ 500 y5∧y7=c):
  ik.fin x=true∧ ∃ j y,ik.res x=(j,y)∧(match y with | (y0,y1,y2,y3,y4,y5,y6,y7)=>aB y3 y4 c=true∧y5.length≤9∧apQ 500 y5∧c=y7):=by
 refine ik.inv2 (fun k x=>match x with | (y0,y1,y2,y3,y4,y5,y6,y7)=>0≤y0∧(y6.length:Int) - y0≤(k:Int)∧y6.length≤9∧(1≤y1∧y1≤500)∧aB y3 y4 y7=true∧y5.length + k≤9∧apQ 500 y5∧y7=c) (fun y=>match y with | (y0,y1,y2,y3,y4,y5,y6,y7)=>aB y3 y4 c=true∧y5.length≤9∧apQ 500 y5∧c=y7) (fun k x hx=> ?_) (fun x hx=> ?_) 9 x (by omega) hx
 ·obtain⟨y0,y1,y2,y3,y4,y5,y6,y7⟩:=x
  obtain⟨h0,h1,h2,h3,h4,h5,h6,rfl⟩:=hx
  have hs:aB (DT y0 y2 y3 y6 y7) (DU y0 y2 y3 y4 y6 y7) y7=true:=by simp only [DT,DU];exact rH (fN h4) h4
  have hf:=acM y1 2 (by rw [ct (by omega),ct (by omega)];rfl)
  obtain⟨f1,j1,⟨z0,z1,z2,z3,z4,z5⟩,g1,q1,q2,q3⟩:=ZP y7 (DV y0 y1 y2 y3 y4 y6 y7) (by
   simp only [DV]
   refine⟨by omega,by omega,hf.2,by omega,?_⟩
   exact⟨hs,trivial⟩)
  subst q3
  have hr:leI 0 y1=true∧leI y1 500=true:=⟨ct (by omega),ct (by omega)⟩
  have hl:(bif nO y0 y2 y3 y4 y6 y7 then z2 else rF y1 2).length≤500:=mT (by omega) (by omega)
  have e9:aB (NX y0 y1 y2 y3 y4 y6 y7) (Mu y0 y1 y2 y3 y4 y6 y7) y7=true:=by
   simp only [NX,Mu,Mv,DW,g1]
   exact rH q2 hs
  have e6:xt y0 y1 y2 y3 y4 y6 y7= [bif nO y0 y2 y3 y4 y6 y7 then z2 else rF y1 2]:=by simp only [xt,DW,g1]
  simp only [ik,Mf,LT.ok,EK,EL,and_true,GA,Wz,WA,WB,WC,WD,WE,WF,WG,VT,VU,Bool.cond_self,f1,e6,Bool.or_eq_true,Bool.and_eq_true]
  repeat' (first | refine And.intro ?_ ?_ | intro _)
  all_goals first
   |exact as8 h6 hl
   |exact e9
   |exact hr.1
   |exact hr.2
   |omega
   |(repeat (first | assumption | apply fN | apply pz | apply rH | refine Or.inr ?_ | refine And.intro ?_ ?_ | exact trivial | exact sd _ _ | rfl | exact fN h4 | exact h4)
     done)
   |((repeat refine Or.inr ?_)
     exact bY (by first | omega | (simp only [S2];omega)))
   |(simp only [S2]
     omega)
   |(repeat' apply mT
     all_goals first | omega | (simp only [S2];omega))
   |(try simp only [S1,ZN,dT,List.length_set]at *
     rw [aw (by omega) (by omega)]
     first | omega | (simp only [S2];omega))
   |(simp only [S1,ZN,dT,List.length_set]at *
     first | omega | (exfalso;omega))
   |(exfalso;simp_all;done)
 ·obtain⟨y0,y1,y2,y3,y4,y5,y6,y7⟩:=x
  obtain⟨h0,h1,h2,h3,h4,h5,h6,rfl⟩:=hx
  have e0:ltI y0 (y6.length:Int)=false:=akN (by omega)
  simp only [ik,Mf,LT.ok,GA,e0,Bool.false_eq_true,false_implies,true_implies,true_and,and_true]
  exact⟨h4,by omega,h6⟩
theorem Wy(a s:Int)(c:List Int)(h:aB a s c=true):Rn a s c=true∧aB (rr a s c) (uw a s c) c=true∧
  rV 1000000 (rt a s c) (ru a s c) (nN a s c) (rv a s c) (rx a s c) (oN a s c)=true:=by
 obtain⟨_,d1,d2⟩:=aqf a s c h
 have s1:aB (nxA 3 (mD a s c) c) (Dt a s c) c=true:=fN d1
 have n1:=aaW (n:=3) d1 (by omega)
 have r0:sV a s c=1 + nxV 3 (mD a s c) (Bi a s c) c:=by simp only [sV];exact aw (by omega) (by omega)
 obtain⟨_,d3,d4⟩:=akH (jX a s c) _ _ c s1
 have s2:aB (Du a s c) (Dv a s c) c=true:=d3
 obtain⟨_,d5,d6⟩:=Uh (sV a s c) _ _ c s2
 have s3:aB (mn a s c) (JT a s c) c=true:=d5
 have s4:aB (nxA 6 (mn a s c) c) (JU a s c) c=true:=fN s3
 have s5:aB (Dx a s c) (JV a s c) c=true:=pz s4
 obtain⟨f0,j0,⟨z0,z1,z2,z3,z4,z5,z6,z7⟩,g0,q1,q2,q3,q4⟩:=adM c (Ii a s c) (by
  simp only [Ii]
  exact⟨by omega,by omega,d2,by omega,fN s5,by simp,awp _,trivial⟩)
 subst q4
 have e12:vF a s c=z3:=by simp only [vF,vE,g0]
 have e14:BN a s c=z4:=by simp only [BN,BM,vE,g0]
 have e16:aA a s c=c:=by simp only [aA,Ij,BM,vE,g0]
 have e39:ld a s c=z5:=by simp only [ld,Ij,BM,vE,g0]
 have s6:aB (kY a s c) (nt a s c) c=true:=by simp only [kY,nt,e12,e14,e16];exact fN q1
 obtain⟨_,d7,d8⟩:=acL _ _ c s6
 have s7:aB (vG a s c) (vH a s c) c=true:=by simp only [vG,vH,e16];exact d7
 obtain⟨_,d9,d10⟩:=VP _ _ c s7
 have s8:aB (vI a s c) (BO a s c) c=true:=by simp only [vI,BO,e16];exact d9
 have s9:aB (iu a s c) (kZ a s c) c=true:=by simp only [iu,kZ,e16];exact fN s8
 have s10:aB (iv a s c) (lc a s c) c=true:=by simp only [iv,lc,e16];exact fN s6
 have l5:z5.length≤9:=q2
 refine⟨?_,?_,?_⟩
 ·have k1:leN (z5.length + [[(2:Int)]].length) 9223372036854775807=true:=bY (by simp only [List.length_cons,List.length_nil];omega)
  have k2:leN ((z5.length + [[(2:Int)]].length) * 24) 140737488355328=true:=bY (by simp only [List.length_cons,List.length_nil];omega)
  have s11:aB z3 z4 c=true:=q1
  simp only [Rn,PW,PX,PY,PZ,Qa,Dw,e12,e14,e16,e39,h,d1,s1,s2,s3,s4,s5,s6,s7,s8,s9,s10,s11,f0,k1,k2,sd,allT,Bool.or_true,Bool.and_self,cond_true]
 ·simp only [rr,uw,e16]
  cases aM a s c <;> cases bp a s c <;> cases bv a s c <;> cases ry a s c <;> cases bw a s c <;> cases bE a s c <;> cases rz a s c <;> first | exact s9 | exact s10 | exact pz s9 | exact pz s10
 ·have m0:apQ 500 (vL a s c):=by simp only [vL,e39];exact as8 q3 (by simp)
  have m1:(vL a s c).length≤10:=by simp only [vL,e39,List.length_append,List.length_cons,List.length_nil];omega
  have m2:(nN a s c).length≤10∧apQ 500 (nN a s c):=by
   simp only [nN,e39]
   cases aM a s c <;> cases bp a s c <;> cases bv a s c <;> cases bw a s c <;> cases bE a s c <;> (simp only [cond_true,cond_false];first | exact⟨by omega,q3⟩ | exact⟨m1,m0⟩)
  have m3:(rt a s c).length≤20:=by
   simp only [rt]
   cases aM a s c <;> cases bp a s c <;> cases bv a s c <;> cases bw a s c <;> cases bE a s c <;> (simp only [cond_true,cond_false];omega)
  have m4:(ru a s c).length≤20:=by
   have d4':(rA a s c).length≤15:=d4
   simp only [ru]
   cases aM a s c <;> cases bp a s c <;> cases bv a s c <;> cases bw a s c <;> cases bE a s c <;> (simp only [cond_true,cond_false];omega)
  have m5:(rv a s c).length≤20:=by
   have d6':(rB a s c).length≤20:=d6
   simp only [rv]
   cases aM a s c <;> cases bp a s c <;> cases bv a s c <;> cases bw a s c <;> cases bE a s c <;> (simp only [cond_true,cond_false];omega)
  have m6:(rx a s c).length≤20:=by
   have d8':(BP a s c).length≤20:=by simp only [BP,e16];exact d8
   simp only [rx,Ik]
   cases aM a s c <;> cases bp a s c <;> cases bv a s c <;> cases bw a s c <;> cases bE a s c <;> (simp only [cond_true,cond_false,List.length_nil];omega)
  have m7:(oN a s c).length≤20:=by
   have d10':(BQ a s c).length≤20:=by simp only [BQ,e16];exact d10
   simp only [oN,Ik]
   cases aM a s c <;> cases bp a s c <;> cases bv a s c <;> cases bw a s c <;> cases bE a s c <;> (simp only [cond_true,cond_false,List.length_nil];omega)
  have m8:=m2.2
  refine TO.2 ⟨by omega,by omega,⟨by omega,fun x hx=> ?_⟩,by omega,by omega,by omega⟩
  have:=awo m8 hx
  omega
def aae:List SV→List Entry→Option Out
 | [.one ⟨false,[.ptr 0 0]⟩],[.box 157 [.ref 1,.val (.int .i64 x0),.val (.int .i64 x1)],.row false 5 (.int .u8) x2]=>some ⟨.one ⟨true,[.val (.int .i64 (Gl x0 x1 x2)),.ref 2,.ref 3,.ref 4,.ref 5,.val (.int .i64 (Gm x0 x1 x2)),.ref 6,.ref 7,.val (.int .i64 (Gn x0 x1 x2))]⟩,[.box 157 [.ref 1,.val (.int .i64 (rr x0 x1 x2)),.val (.int .i64 (uw x0 x1 x2))],.row false 5 aj7 x2],[.row true 2 ajn (rt x0 x1 x2),.row true 169 adk (ru x0 x1 x2),.row true 24 (CTy.sl (2:Nat) ajn) (nN x0 x1 x2),.row true 100 adk (rv x0 x1 x2),.row true 173 aiq (rx x0 x1 x2),.row true 176 aiq (oN x0 x1 x2)],[aB x0 x1 x2]⟩
 |_,_=>none
def ze:PF prog:=PF.alt alR aae (by
 intro args es o h bz;unfold aae at h;split at h
 ·rename_i x0 x1 x2
  cases h
  have bz:=fM bz
  have hh:=(Wy x0 x1 x2 bz).1
  have en:=hh
  exact jK rfl (fj en) rfl rfl rfl
 ·cases h)
theorem WH(a s:Int)(rs:List (List Int))(c:List Int)(h:aB a s c=true):MB a s rs c=true∧aB (nP a s rs c) (rC a s rs c) c=true:=by
 have s1:aB (nxA (rs.length:Int) a c) (nxS (rs.length:Int) a s c) c=true:=fN h
 have s2:aB (fK a rs c) (fL a s rs c) c=true:=fN s1
 have d1:=(Wx (Dy rs) _ _ c s2).2
 have d2:=(acK _ _ c s2).2
 have s3:aB (ez a s rs c) (Dz a s rs c) c=true:=by simp only [ez,Dz];exact rH d1 (rH d2 s2)
 have s4:aB (nxA 80 (ez a s rs c) c) (rD a s rs c) c=true:=fN s3
 refine⟨?_,?_⟩
 ·cases h3:xI rs with
  |false=>simp only [MB,Il,rE,h,h3,s1,s2,s3,s4,sd,am0,allT,Bool.not_false,Bool.true_or,Bool.or_true,Bool.and_self,cond_true]
  |true=>
   have h4:=Xz.1 h3
   have h5:ltN (Int.toNat 0) rs.length=true:=ec (by simp only [Int.toNat_zero];omega)
   simp only [MB,Il,rE,h,h3,h5,s1,s2,s3,s4,sd,am0,allT,Bool.not_true,Bool.false_or,Bool.or_true,Bool.and_self,cond_true]
 ·simp only [nP,rC,rE]
  exact rH (pz s4) (rH (pz s4) s4)
def aaf:List SV→List Entry→Option Out
 | [.one ⟨false,[.ptr 0 0]⟩,.one ⟨true,[.val (.int .i64 _x0),.ref 1,.ref 2,.ref 3,.ref 4,.val (.int .i64 _x1),.ref 5,.ref 6,.val (.int .i64 _x2)]⟩],[.box 157 [.ref 7,.val (.int .i64 x3),.val (.int .i64 x4)],.row false 2 (.int .i64) x5,.row false 169 (.pair (.int .i64) (.pair (.int .i64) (.int .i64))) x6,.row false 24 (.sl 2 (.int .i64)) x7,.row false 100 (.pair (.int .i64) (.pair (.int .i64) (.int .i64))) x8,.row false 173 (.pair (.int .i64) (.int .i64)) x9,.row false 176 (.pair (.int .i64) (.int .i64)) x10,.row false 5 (.int .u8) x11]=>some ⟨.one ⟨true,[.val (.int .i64 (Gp x3 x4 x7 x11)),.val (.int .i64 (Gq x3 x4 x7 x11)),.val (.int .i64 (Mw x3 x4 x7 x11)),.val (.int .i64 (Mx x3 x4 x7 x11)),.val (.int .i64 (My x3 x4 x7 x11)),.val (.int .i64 (Mz x3 x4 x7 x11)),.val (.bool (MA x3 x4 x7 x11))]⟩,[.box 157 [.ref 7,.val (.int .i64 (nP x3 x4 x7 x11)),.val (.int .i64 (rC x3 x4 x7 x11))],.row false 2 ajn x5,.row false 169 adk x6,.row false 24 (CTy.sl (2:TypeId) ajn) x7,.row false 100 adk x8,.row false 173 aiq x9,.row false 176 aiq x10,.row false 5 aj7 x11],[],[aB x3 x4 x11]⟩
 |_,_=>none
def zf:PF prog:=PF.alt alS aaf (by
 intro args es o h bz;unfold aaf at h;split at h
 ·rename_i _x0 _x1 _x2 x3 x4 x5 x6 x7 x8 x9 x10 x11
  cases h
  have bz:=fM bz
  have hh:=(WH x3 x4 x7 x11 bz).1
  have en:=hh
  exact jK rfl (fj en) rfl rfl rfl
 ·cases h)
end Go.SX
namespace Go.SX
open Go.Proofs Go.Proofs.Tryz
set_option maxRecDepth 100000
def wA(x0:List Int):Bool:=ltI (4096:Int) (↑x0.length:Int)
def apO:List SV→List Entry→Option Out
 | [.one ⟨false,[.ref 0]⟩],[.row false 5 (.int .u8) x0]=>some ⟨.one ⟨false,[.val (.bool (wA x0))]⟩,[.row false 5 aj7 x0],[],[]⟩
 |_,_=>none
def Xj:PF prog:=PF.ofG prog [] [] aO 10 f10 func10 (fun c _=>LOk.nil c) apO (by
 intro vs es r h;unfold apO at h;split at h
 ·cases h;kernel_rfl
 ·cases h)
abbrev jY:=Int×Int×Int×Int×Int×Int×List (Int×(Int×((Int×Int)×(Int×(Int×Bool)))))×List Int×List Int×List (Int×(Int×Int))×List (List Int)×List (Int×(Int×Int))×List (Int×Int)×List (Int×Int)
section
variable (y0 y1 y2 y3 y4 y5:Int)(y7 y8:List Int)(y9:List (Int×(Int×Int)))(y10:List (List Int))(y11:List (Int×(Int×Int)))(y12 y13:List (Int×Int))
def Vt:Bool:=wU y3 y4 y5 (Gp y1 y2 y10 y7) (Gq y1 y2 y10 y7) (Mw y1 y2 y10 y7) (Mx y1 y2 y10 y7) (My y1 y2 y10 y7) (Mz y1 y2 y10 y7) (MA y1 y2 y10 y7) y8 y9 y10 y11 y12 y13
def Mm:Bool:= !Vt y1 y2 y3 y4 y5 y7 y8 y9 y10 y11 y12 y13&&true
def Vu:Bool:=bif Vt y1 y2 y3 y4 y5 y7 y8 y9 y10 y11 y12 y13 then true else nxV (12:Int) (nP y1 y2 y10 y7) (rC y1 y2 y10 y7) y7==(0:Int)
def Vv:Bool:= !Vu y1 y2 y3 y4 y5 y7 y8 y9 y10 y11 y12 y13
def sk:List (Int×Int×(Int×Int)×Int×Int×Bool):= [(Gp y1 y2 y10 y7,Gq y1 y2 y10 y7,(Mw y1 y2 y10 y7,Mx y1 y2 y10 y7),My y1 y2 y10 y7,Mz y1 y2 y10 y7,MA y1 y2 y10 y7)]
def NU:Bool:=ltI (0:Int) y0
def Wq:Bool:=aB y1 y2 y7
def Wr:Bool:=Ce y3 y4 y5 (Gp y1 y2 y10 y7) (Gq y1 y2 y10 y7) y8 y9 y10 y11 y12 y13
def Ws:Bool:= !Mm y1 y2 y3 y4 y5 y7 y8 y9 y10 y11 y12 y13||aB (nP y1 y2 y10 y7) (rC y1 y2 y10 y7) y7
end
def Wt(y1 y2 y3 y4 y5:Int)(y6:List (Int×(Int×((Int×Int)×(Int×(Int×Bool))))))(y7 y8:List Int)(y9:List (Int×(Int×Int)))(y10:List (List Int))(y11:List (Int×(Int×Int)))(y12 y13:List (Int×Int)):Bool:=Vv y1 y2 y3 y4 y5 y7 y8 y9 y10 y11 y12 y13||leN (List.length y6 + List.length (sk y1 y2 y7 y10)) (9223372036854775807:Nat)
def Wu(y1 y2 y3 y4 y5:Int)(y6:List (Int×(Int×((Int×Int)×(Int×(Int×Bool))))))(y7 y8:List Int)(y9:List (Int×(Int×Int)))(y10:List (List Int))(y11:List (Int×(Int×Int)))(y12 y13:List (Int×Int)):Bool:=Vv y1 y2 y3 y4 y5 y7 y8 y9 y10 y11 y12 y13||leN ((List.length y6 + List.length (sk y1 y2 y7 y10)) * (56:Nat)) (140737488355328:Nat)
section
variable (y0 y1 y2 y3 y4 y5:Int)(y7 y8:List Int)(y9:List (Int×(Int×Int)))(y10:List (List Int))(y11:List (Int×(Int×Int)))(y12 y13:List (Int×Int))
def ahn:Bool:=Vu y1 y2 y3 y4 y5 y7 y8 y9 y10 y11 y12 y13
def Gx:Int:=IntKind.wrap .i64 (y0 - (1:Int))
def NV:Int:=bif Mm y1 y2 y3 y4 y5 y7 y8 y9 y10 y11 y12 y13 then nxA (12:Int) (nP y1 y2 y10 y7) y7 else nP y1 y2 y10 y7
def NW:Int:=bif Mm y1 y2 y3 y4 y5 y7 y8 y9 y10 y11 y12 y13 then nxS (12:Int) (nP y1 y2 y10 y7) (rC y1 y2 y10 y7) y7 else rC y1 y2 y10 y7
end
def Ml(y1 y2:Int)(y6:List (Int×(Int×((Int×Int)×(Int×(Int×Bool))))))(y7:List Int)(y10:List (List Int)):List (Int×(Int×((Int×Int)×(Int×(Int×Bool))))):=y6++sk y1 y2 y7 y10
def afl:jY→List (Nat×SV)
 |(y0,_,_,_,_,_,_,_,_,_,_,_,_,_)=> [(7,(.one ⟨false,[.val (.int .i64 y0)]⟩)),(4,(.one ⟨false,[.ptr 0 0]⟩)),(5,(.one ⟨false,[.ptr 1 0]⟩)),(6,(.one ⟨false,[.ref 2]⟩))]
def afi:jY→List (Nat×Entry)
 |(_,y1,y2,y3,y4,y5,y6,y7,y8,y9,y10,y11,y12,y13)=> [(0,(.box 157 [.ref 3,.val (.int .i64 y1),.val (.int .i64 y2)])),(1,(.box 33 [.val (.int .i64 y3),.ref 4,.ref 5,.ref 6,.ref 7,.val (.int .i64 y4),.ref 8,.ref 9,.val (.int .i64 y5)])),(3,(.row false 5 aj7 y7)),(4,(.row true 2 ajn y8)),(5,(.row true 169 adk y9)),(6,(.row true 24 (CTy.sl (2:Nat) ajn) y10)),(7,(.row true 100 adk y11)),(8,(.row true 173 aiq y12)),(9,(.row true 176 aiq y13)),(2,(.row true 49 abL y6))]
def afr:Nat→jY→List (Nat×SV)
 |_,(_,_,_,_,_,_,_,_,_,_,_,_,_,_)=> [(6,(.one ⟨false,[.ref 2]⟩))]
def afo:Nat→jY→List (Nat×Entry)
 |_,(_,y1,y2,y3,y4,y5,y6,y7,y8,y9,y10,y11,y12,y13)=> [(0,(.box 157 [.ref 3,.val (.int .i64 y1),.val (.int .i64 y2)])),(1,(.box 33 [.val (.int .i64 y3),.ref 4,.ref 5,.ref 6,.ref 7,.val (.int .i64 y4),.ref 8,.ref 9,.val (.int .i64 y5)])),(2,(.row true 49 abL y6)),(3,(.row false 5 aj7 y7)),(4,(.row true 2 ajn y8)),(5,(.row true 169 adk y9)),(6,(.row true 24 (CTy.sl (2:Nat) ajn) y10)),(7,(.row true 100 adk y11)),(8,(.row true 173 aiq y12)),(9,(.row true 176 aiq y13))]
def Me:jY→LT jY
 |(y0,y1,y2,y3,y4,y5,y6,y7,y8,y9,y10,y11,y12,y13)=> .ite (NU y0) (.need [Wq y1 y2 y7] (.need [Wr y1 y2 y3 y4 y5 y7 y8 y9 y10 y11 y12 y13,Ws y1 y2 y3 y4 y5 y7 y8 y9 y10 y11 y12 y13] (.need [Wt y1 y2 y3 y4 y5 y6 y7 y8 y9 y10 y11 y12 y13,Wu y1 y2 y3 y4 y5 y6 y7 y8 y9 y10 y11 y12 y13] (.ite (ahn y1 y2 y3 y4 y5 y7 y8 y9 y10 y11 y12 y13) (.nrm ((Gx y0),NV y1 y2 y3 y4 y5 y7 y8 y9 y10 y11 y12 y13,NW y1 y2 y3 y4 y5 y7 y8 y9 y10 y11 y12 y13,y3,y4,y5,Ml y1 y2 y6 y7 y10,y7,y8,y9,y10,y11,y12,y13) [(0,0),(1,1),(2,1216),(3,3),(4,4),(5,5),(6,6),(7,7),(8,8),(9,9)]) (.nrm ((Gx y0),NV y1 y2 y3 y4 y5 y7 y8 y9 y10 y11 y12 y13,NW y1 y2 y3 y4 y5 y7 y8 y9 y10 y11 y12 y13,y3,y4,y5,y6,y7,y8,y9,y10,y11,y12,y13) [(0,0),(1,1),(2,2),(3,3),(4,4),(5,5),(6,6),(7,7),(8,8),(9,9)]))))) (.ext 0 [(0,0),(1,1),(2,2),(3,3),(4,4),(5,5),(6,6),(7,7),(8,8),(9,9)])
def Mj(s:St):Option jY:=
 (match s.look 7 with
 |some ⟨none,.one ⟨false,[.val (.int .i64 y0)]⟩⟩=>
 (match s.look 4 with
 |some ⟨none,.one ⟨false,[.ptr 320 0]⟩⟩=>
 (match s.look 5 with
 |some ⟨none,.one ⟨false,[.ptr 576 0]⟩⟩=>
 (match s.look 6 with
 |some ⟨none,.one ⟨false,[.ref 704]⟩⟩=>
 (match s.ent 320 with
 |some (.box 157 [.ref 0,.val (.int .i64 y1),.val (.int .i64 y2)])=>
 (match s.ent 576 with
 |some (.box 33 [.val (.int .i64 y3),.ref 512,.ref 513,.ref 514,.ref 515,.val (.int .i64 y4),.ref 516,.ref 517,.val (.int .i64 y5)])=>
 (match s.ent 0 with
 |some (.row false 5 (.int IntKind.u8) y7)=>
 (match s.ent 512 with
 |some (.row true 2 (.int .i64) y8)=>
 (match s.ent 513 with
 |some (.row true 169 (.pair (.int .i64) (.pair (.int .i64) (.int .i64))) y9)=>
 (match s.ent 514 with
 |some (.row true 24 (.sl 2 (.int .i64)) y10)=>
 (match s.ent 515 with
 |some (.row true 100 (.pair (.int .i64) (.pair (.int .i64) (.int .i64))) y11)=>
 (match s.ent 516 with
 |some (.row true 173 (.pair (.int .i64) (.int .i64)) y12)=>
 (match s.ent 517 with
 |some (.row true 176 (.pair (.int .i64) (.int .i64)) y13)=>
 (match s.ent 704 with
 |some (.row true 49 (.pair (.int .i64) (.pair (.int .i64) (.pair (.pair (.int .i64) (.int .i64)) (.pair (.int .i64) (.pair (.int .i64) .bool))))) y6)=>
 some (y0,y1,y2,y3,y4,y5,y6,y7,y8,y9,y10,y11,y12,y13)
 |_=>none)
 |_=>none)
 |_=>none)
 |_=>none)
 |_=>none)
 |_=>none)
 |_=>none)
 |_=>none)
 |_=>none)
 |_=>none)
 |_=>none)
 |_=>none)
 |_=>none)
 |_=>none)
def ij:Lp jY where
 h:=⟨[16,17,20,21,22,8,23,24,25,26,27,28,29,30,31,32,33,34,6,18,19,7],[0,1,3,4,5,6,7,8,9],[2],[]⟩
 JL:=afl
 JE:=afi
 XL:=afr
 XE:=afo
 q:=fun j=>match j with | _=> .exit 0
 tags:= [0]
 lt:=Me
 fuel:=fun(y0,y1,y2,y3,y4,y5,y6,y7,y8,y9,y10,y11,y12,y13)=>y0.natAbs + y1.natAbs + y2.natAbs + y3.natAbs + y4.natAbs + y5.natAbs + y6.length + y7.length + y8.length + y9.length + y10.length + y11.length + y12.length + y13.length
 fix:=fun(_,_,_,y3,y4,y5,_,y7,y8,y9,y10,y11,y12,y13) (y0,y1,y2,_,_,_,y6,_,_,_,_,_,_,_)=>(y0,y1,y2,y3,y4,y5,y6,y7,y8,y9,y10,y11,y12,y13)
 σ:= [(0,320),(1,576),(3,0),(4,512),(5,513),(6,514),(7,515),(8,516),(9,517),(2,704)]
 rd:=Mj
theorem ads:LoopOk prog (fun k=>Nat.blt k Tryz.f11.ntmps) ij.F (aK f11 0):=by
 refine Lp.ok (tbl:= [fk,PF.lend fk,PF.fz fk,Kk,PF.lend Kk,PF.fz Kk,ze,PF.lend ze,PF.fz ze,ae,PF.lend ae,PF.fz ae,zf,PF.lend zf,PF.fz zf]) (lf:= []) aO ij (by kernel_rfl) (LOk.nil _) (fun _=>rfl) (fun _ _=>rfl) ?_ ?_ ?_ ?_ (fun _=>rfl) ?_
 ·rintro⟨y0,y1,y2,y3,y4,y5,y6,y7,y8,y9,y10,y11,y12,y13⟩;kernel_rfl
 ·rintro⟨y0,y1,y2,y3,y4,y5,y6,y7,y8,y9,y10,y11,y12,y13⟩;kernel_rfl
 ·intro s x h
  have h:Mj s=some x:=h
  unfold Mj at h
  repeat' split at h
  all_goals cases h
  exact⟨aa (by assumption) rfl (aa (by assumption) rfl (aa (by assumption) rfl (aa (by assumption) rfl (rfl)))),ab rfl (by assumption) rfl (ab rfl (by assumption) rfl (ab rfl (by assumption) rfl (ab rfl (by assumption) rfl (ab rfl (by assumption) rfl (ab rfl (by assumption) rfl (ab rfl (by assumption) rfl (ab rfl (by assumption) rfl (ab rfl (by assumption) rfl (ab rfl (by assumption) rfl (rfl))))))))))⟩
 ·rintro⟨y0,y1,y2,y3,y4,y5,y6,y7,y8,y9,y10,y11,y12,y13⟩;kernel_rfl
 ·rintro⟨y0,y1,y2,y3,y4,y5,y6,y7,y8,y9,y10,y11,y12,y13⟩ z;exact(And.intro (And.intro rfl rfl) trivial)
section
variable (x0:List Int)
def JQ:Int×Int×Int×Int×Int×Int×List (Int×Int×(Int×Int)×Int×Int×Bool)×List Int×List Int×List (Int×Int×Int)×List (List Int)×List (Int×Int×Int)×List (Int×Int)×List (Int×Int):=(nxV (30:Int) (rr (0:Int) (frS x0) x0) (uw (0:Int) (frS x0) x0) x0,nxA (30:Int) (rr (0:Int) (frS x0) x0) x0,nxS (30:Int) (rr (0:Int) (frS x0) x0) (uw (0:Int) (frS x0) x0) x0,Gl (0:Int) (frS x0) x0,Gm (0:Int) (frS x0) x0,Gn (0:Int) (frS x0) x0,[],x0,rt (0:Int) (frS x0) x0,ru (0:Int) (frS x0) x0,nN (0:Int) (frS x0) x0,rv (0:Int) (frS x0) x0,rx (0:Int) (frS x0) x0,oN (0:Int) (frS x0) x0)
def Dn:Int×Int×Int×Int×Int×List (Int×Int×(Int×Int)×Int×Int×Bool)×List Int×List Int×List (Int×Int×Int)×List (List Int)×List (Int×Int×Int)×List (Int×Int)×List (Int×Int):=(Lp.res ij (JQ x0)).2.2
def oM:Int:=(Dn x0).1
def JR:Int×Int×Int×Int×List (Int×Int×(Int×Int)×Int×Int×Bool)×List Int×List Int×List (Int×Int×Int)×List (List Int)×List (Int×Int×Int)×List (Int×Int)×List (Int×Int):=(Dn x0).2
def xC:Int:=(JR x0).1
def cJ:Bool:=nxV (60:Int) (oM x0) (xC x0) x0==(0:Int)
def ja:Int:=IntKind.wrap .i64 ((200:Int) + nxV (2:Int) (nxA (60:Int) (oM x0) x0) (nxS (60:Int) (oM x0) (xC x0) x0) x0)
def al:Int:=bif cJ x0 then Gl (0:Int) (frS x0) x0 else Gl (0:Int) (frS x0) x0
def am:Int:=bif cJ x0 then Gm (0:Int) (frS x0) x0 else Gm (0:Int) (frS x0) x0
def ao:Int:=bif cJ x0 then Gn (0:Int) (frS x0) x0 else Gn (0:Int) (frS x0) x0
def af:List Int:=bif cJ x0 then rt (0:Int) (frS x0) x0 else rt (0:Int) (frS x0) x0
def ag:List (Int×(Int×Int)):=bif cJ x0 then ru (0:Int) (frS x0) x0 else ru (0:Int) (frS x0) x0
def ah:List (List Int):=bif cJ x0 then nN (0:Int) (frS x0) x0 else nN (0:Int) (frS x0) x0
def ai:List (Int×(Int×Int)):=bif cJ x0 then rv (0:Int) (frS x0) x0 else rv (0:Int) (frS x0) x0
def aj:List (Int×Int):=bif cJ x0 then rx (0:Int) (frS x0) x0 else rx (0:Int) (frS x0) x0
def ak:List (Int×Int):=bif cJ x0 then oN (0:Int) (frS x0) x0 else oN (0:Int) (frS x0) x0
def aq:List (Int×(Int×((Int×Int)×(Int×(Int×Bool))))):=bif cJ x0 then List.replicate (Int.toNat (ja x0)) ((0:Int),(0:Int),((0:Int),(0:Int)),(0:Int),(0:Int),false)else ((JR x0).2.2.2.2).1
def Rj:Bool:=allT [aB (0:Int) (0:Int) x0,aB (0:Int) (frS x0) x0,aB (rr (0:Int) (frS x0) x0) (uw (0:Int) (frS x0) x0) x0,Lp.fin ij (JQ x0),aB (oM x0) (xC x0) x0,!cJ x0||aB (nxA (60:Int) (oM x0) x0) (nxS (60:Int) (oM x0) (xC x0) x0) x0,!cJ x0||leI (0:Int) (ja x0),!cJ x0||leI (ja x0) (ja x0),!cJ x0||leI ((↑(56:Nat):Int) * ja x0) (281474976710656:Int),!cJ x0||leI (ja x0) (9223372036854775807:Int)]
end
def ZY:List SV→List Entry→Option Out
 | [.one ⟨false,[.ref 0]⟩],[.row false 5 (.int .u8) x0]=>some ⟨.tup [⟨true,[.val (.int .i64 (al x0)),.ref 1,.ref 2,.ref 3,.ref 4,.val (.int .i64 (am x0)),.ref 5,.ref 6,.val (.int .i64 (ao x0))]⟩,⟨false,[.ref 7]⟩],[.row false 5 aj7 x0],[.row true 2 ajn (af x0),.row true 169 adk (ag x0),.row true 24 (CTy.sl (2:Nat) ajn) (ah x0),.row true 100 adk (ai x0),.row true 173 aiq (aj x0),.row true 176 aiq (ak x0),.row true 49 abL (aq x0)],[Rj x0]⟩
 |_,_=>none
def alP:PF prog:=PF.ofG prog [fk,PF.lend fk,PF.fz fk,Kk,PF.lend Kk,PF.fz Kk,ze,PF.lend ze,PF.fz ze,ae,PF.lend ae,PF.fz ae,zf,PF.lend zf,PF.fz zf] [ij.F] aO 11 f11 func11 (LOk.fnT (l:= [aK f11 0]) (by kernel_rfl) (.cons ads (.nil _))) ZY (by
 intro vs es r h;unfold ZY at h;split at h
 ·cases h;kernel_rfl
 ·cases h)
def CZ(x0 x1:Int)(x2 x3:List Int):Bool:=bif x0==x1 then eqL x2 x3 else false
def JO(x0 x1:Int)(x2:List Int):Bool:=allT [!(x0==x1&&true)||leN x2.length (9223372036854775807:Nat)]
def Zm:List SV→List Entry→Option Out
 | [.one ⟨true,[.val (.int .i64 x0),.ref 0]⟩,.one ⟨true,[.val (.int .i64 x1),.ref 1]⟩],[.row false 2 (.int .i64) x2,.row false 2 (.int .i64) x3]=>some ⟨.one ⟨false,[.val (.bool (CZ x0 x1 x2 x3))]⟩,[.row false 2 ajn x2,.row false 2 ajn x3],[],[JO x0 x1 x2]⟩
 |_,_=>none
def mg:PF prog:=PF.ofG prog [eN,PF.lend eN,PF.fz eN] [] aO 58 f58 func58 (fun c _=>LOk.nil c) Zm (by
 intro vs es r h;unfold Zm at h;split at h
 ·cases h;kernel_rfl
 ·cases h)
abbrev iM:=Int×List (Int×(Int×Int))×List (Int×(Int×Int))
section
variable (y0:Int)(y1 y2:List (Int×(Int×Int)))
def nx:Int×Int×Int:=Option.getD y1[Int.toNat y0]? ((0:Int),(0:Int),(0:Int))
def ny:Int×Int×Int:=Option.getD y2[Int.toNat y0]? ((0:Int),(0:Int),(0:Int))
def tj:Bool:=ltI y0 (↑y1.length:Int)
def tk:Bool:=leI (0:Int) y0
def yx:Bool:=ltN y0.toNat y1.length
def yy:Bool:=ltI y0 (↑y2.length:Int)
def yz:Bool:=ltN y0.toNat y2.length
def yA:Bool:= !bif (nx y0 y1).1==(ny y0 y2).1then bif ((nx y0 y1).2).1==((ny y0 y2).2).1then bif (nx y0 y1).2.2==(ny y0 y2).2.2then true else false else false else false
def yB:Int:=IntKind.wrap .i64 (y0 + (1:Int))
end
def afk:iM→List (Nat×SV)
 |(y0,_,_)=> [(5,(.one ⟨false,[.val (.int .i64 y0)]⟩)),(0,(.one ⟨false,[.ref 0]⟩)),(1,(.one ⟨false,[.ref 1]⟩))]
def afh:iM→List (Nat×Entry)
 |(_,y1,y2)=> [(0,(.row false 169 adk y1)),(1,(.row false 169 adk y2))]
def afq:Nat→iM→List (Nat×SV)
 |0,(_,_,_)=> [(4,(.one ⟨false,[.val (.bool false)]⟩))]
 |_,(_,_,_)=> []
def afn:Nat→iM→List (Nat×Entry)
 |0,(_,y1,y2)=> [(0,(.row false 169 adk y1)),(1,(.row false 169 adk y2))]
 |_,(_,y1,y2)=> [(0,(.row false 169 adk y1)),(1,(.row false 169 adk y2))]
def wC:iM→LT iM
 |(y0,y1,y2)=> .ite (tj y0 y1) (.need [tk y0,tj y0 y1,yx y0 y1,tk y0,yy y0 y2,yz y0 y2] (.ite (yA y0 y1 y2) (.ext 0 [(0,0),(1,1)]) (.nrm ((yB y0),y1,y2) [(0,0),(1,1)]))) (.ext 1 [(0,0),(1,1)])
def Mi(s:St):Option iM:=
 (match s.look 5 with
 |some ⟨none,.one ⟨false,[.val (.int .i64 y0)]⟩⟩=>
 (match s.look 0 with
 |some ⟨none,.one ⟨false,[.ref 0]⟩⟩=>
 (match s.look 1 with
 |some ⟨none,.one ⟨false,[.ref 1]⟩⟩=>
 (match s.ent 0 with
 |some (.row false 169 (.pair (.int .i64) (.pair (.int .i64) (.int .i64))) y1)=>
 (match s.ent 1 with
 |some (.row false 169 (.pair (.int .i64) (.pair (.int .i64) (.int .i64))) y2)=>
 some (y0,y1,y2)
 |_=>none)
 |_=>none)
 |_=>none)
 |_=>none)
 |_=>none)
def cE:Lp iM where
 h:=⟨[11,12,13,14,17,18,19,20,21,22,23,24,25,4,15,16,5],[0,1],[],[]⟩
 JL:=afk
 JE:=afh
 XL:=afq
 XE:=afn
 q:=fun j=>match j with | 0=> .ret | _=> .exit 0
 tags:= [0,1]
 lt:=wC
 fuel:=fun(y0,y1,y2)=>y0.natAbs + y1.length + y2.length
 fix:=fun(_,y1,y2) (y0,_,_)=>(y0,y1,y2)
 σ:= [(0,0),(1,1)]
 rd:=Mi
theorem adr:LoopOk prog (fun k=>Nat.blt k Tryz.f59.ntmps) cE.F (aK f59 0):=by
 refine Lp.ok (tbl:= []) (lf:= []) aO cE (by kernel_rfl) (LOk.nil _) (fun _=>rfl) (fun j _=>by unfold cE;match j with | 0=>rfl | _ + 1=>rfl) ?_ ?_ ?_ ?_ (fun _=>rfl) ?_
 ·rintro⟨y0,y1,y2⟩;kernel_rfl
 ·rintro⟨y0,y1,y2⟩;kernel_rfl
 ·intro s x h
  have h:Mi s=some x:=h
  unfold Mi at h
  repeat' split at h
  all_goals cases h
  exact⟨aa (by assumption) rfl (aa (by assumption) rfl (aa (by assumption) rfl (rfl))),ab rfl (by assumption) rfl (ab rfl (by assumption) rfl (rfl))⟩
 ·rintro⟨y0,y1,y2⟩;kernel_rfl
 ·rintro⟨y0,y1,y2⟩ z;exact(And.intro (And.intro trivial rfl) trivial)
section
variable (x0 x1:List (Int×Int×Int))
def CY:Bool:=(↑x0.length:Int)!=(↑x1.length:Int)
def JN:Int×List (Int×Int×Int)×List (Int×Int×Int):=((0:Int),x0,x1)
def LZ:Bool:=bif CY x0 x1 then false else bif Nat.beq ((Lp.res cE (JN x0 x1)).1) (0:Nat)then false else true
def Fx:Bool:=allT [CY x0 x1||Lp.fin cE (JN x0 x1)]
end
def ZX:List SV→List Entry→Option Out
 | [.one ⟨false,[.ref 0]⟩,.one ⟨false,[.ref 1]⟩],[.row false 169 (.pair (.int .i64) (.pair (.int .i64) (.int .i64))) x0,.row false 169 (.pair (.int .i64) (.pair (.int .i64) (.int .i64))) x1]=>some ⟨.one ⟨false,[.val (.bool (LZ x0 x1))]⟩,[.row false 169 adk x0,.row false 169 adk x1],[],[Fx x0 x1]⟩
 |_,_=>none
def nA:PF prog:=PF.ofG prog [] [cE.F] aO 59 f59 func59 (LOk.fnT (l:= [aK f59 0]) (by kernel_rfl) (.cons adr (.nil _))) ZX (by
 intro vs es r h;unfold ZX at h;split at h
 ·cases h;kernel_rfl
 ·cases h)
abbrev jx:=Int×List (Int×Int)×List (Int×Int)
section
variable (y0:Int)(y1 y2:List (Int×Int))
def tq:Int×Int:=Option.getD y1[Int.toNat y0]? ((0:Int),(0:Int))
def tt:Int×Int:=Option.getD y2[Int.toNat y0]? ((0:Int),(0:Int))
def uX:Bool:=ltI y0 (↑y1.length:Int)
def uY:Bool:=leI (0:Int) y0
def AQ:Bool:=ltN y0.toNat y1.length
def AR:Bool:=ltI y0 (↑y2.length:Int)
def AU:Bool:=ltN y0.toNat y2.length
def AV:Bool:= !bif (tq y0 y1).1==(tt y0 y2).1then bif (tq y0 y1).2==(tt y0 y2).2then true else false else false
def AW:Int:=IntKind.wrap .i64 (y0 + (1:Int))
end
def agM:jx→List (Nat×SV)
 |(y0,_,_)=> [(5,(.one ⟨false,[.val (.int .i64 y0)]⟩)),(0,(.one ⟨false,[.ref 0]⟩)),(1,(.one ⟨false,[.ref 1]⟩))]
def agC:jx→List (Nat×Entry)
 |(_,y1,y2)=> [(0,(.row false 173 aiq y1)),(1,(.row false 173 aiq y2))]
def ag6:Nat→jx→List (Nat×SV)
 |0,(_,_,_)=> [(4,(.one ⟨false,[.val (.bool false)]⟩))]
 |_,(_,_,_)=> []
def agW:Nat→jx→List (Nat×Entry)
 |0,(_,y1,y2)=> [(0,(.row false 173 aiq y1)),(1,(.row false 173 aiq y2))]
 |_,(_,y1,y2)=> [(0,(.row false 173 aiq y1)),(1,(.row false 173 aiq y2))]
def yH:jx→LT jx
 |(y0,y1,y2)=> .ite (uX y0 y1) (.need [uY y0,uX y0 y1,AQ y0 y1,uY y0,AR y0 y2,AU y0 y2] (.ite (AV y0 y1 y2) (.ext 0 [(0,0),(1,1)]) (.nrm ((AW y0),y1,y2) [(0,0),(1,1)]))) (.ext 1 [(0,0),(1,1)])
def NP(s:St):Option jx:=
 (match s.look 5 with
 |some ⟨none,.one ⟨false,[.val (.int .i64 y0)]⟩⟩=>
 (match s.look 0 with
 |some ⟨none,.one ⟨false,[.ref 0]⟩⟩=>
 (match s.look 1 with
 |some ⟨none,.one ⟨false,[.ref 1]⟩⟩=>
 (match s.ent 0 with
 |some (.row false 173 (.pair (.int .i64) (.int .i64)) y1)=>
 (match s.ent 1 with
 |some (.row false 173 (.pair (.int .i64) (.int .i64)) y2)=>
 some (y0,y1,y2)
 |_=>none)
 |_=>none)
 |_=>none)
 |_=>none)
 |_=>none)
def cX:Lp jx where
 h:=⟨[11,12,13,14,17,18,19,20,21,22,23,24,25,4,15,16,5],[0,1],[],[]⟩
 JL:=agM
 JE:=agC
 XL:=ag6
 XE:=agW
 q:=fun j=>match j with | 0=> .ret | _=> .exit 0
 tags:= [0,1]
 lt:=yH
 fuel:=fun(y0,y1,y2)=>y0.natAbs + y1.length + y2.length
 fix:=fun(_,y1,y2) (y0,_,_)=>(y0,y1,y2)
 σ:= [(0,0),(1,1)]
 rd:=NP
theorem aeO:LoopOk prog (fun k=>Nat.blt k Tryz.f60.ntmps) cX.F (aK f60 0):=by
 refine Lp.ok (tbl:= []) (lf:= []) aO cX (by kernel_rfl) (LOk.nil _) (fun _=>rfl) (fun j _=>by unfold cX;match j with | 0=>rfl | _ + 1=>rfl) ?_ ?_ ?_ ?_ (fun _=>rfl) ?_
 ·rintro⟨y0,y1,y2⟩;kernel_rfl
 ·rintro⟨y0,y1,y2⟩;kernel_rfl
 ·intro s x h
  have h:NP s=some x:=h
  unfold NP at h
  repeat' split at h
  all_goals cases h
  exact⟨aa (by assumption) rfl (aa (by assumption) rfl (aa (by assumption) rfl (rfl))),ab rfl (by assumption) rfl (ab rfl (by assumption) rfl (rfl))⟩
 ·rintro⟨y0,y1,y2⟩;kernel_rfl
 ·rintro⟨y0,y1,y2⟩ z;exact(And.intro (And.intro trivial rfl) trivial)
section
variable (x0 x1:List (Int×Int))
def FE:Bool:=(↑x0.length:Int)!=(↑x1.length:Int)
def Mb:Int×List (Int×Int)×List (Int×Int):=((0:Int),x0,x1)
def Og:Bool:=bif FE x0 x1 then false else bif Nat.beq ((Lp.res cX (Mb x0 x1)).1) (0:Nat)then false else true
def Ht:Bool:=allT [FE x0 x1||Lp.fin cX (Mb x0 x1)]
end
def ab6:List SV→List Entry→Option Out
 | [.one ⟨false,[.ref 0]⟩,.one ⟨false,[.ref 1]⟩],[.row false 173 (.pair (.int .i64) (.int .i64)) x0,.row false 173 (.pair (.int .i64) (.int .i64)) x1]=>some ⟨.one ⟨false,[.val (.bool (Og x0 x1))]⟩,[.row false 173 aiq x0,.row false 173 aiq x1],[],[Ht x0 x1]⟩
 |_,_=>none
def pL:PF prog:=PF.ofG prog [] [cX.F] aO 60 f60 func60 (LOk.fnT (l:= [aK f60 0]) (by kernel_rfl) (.cons aeO (.nil _))) ab6 (by
 intro vs es r h;unfold ab6 at h;split at h
 ·cases h;kernel_rfl
 ·cases h)
abbrev ju:=Int×List (Int×Int)×List (Int×Int)
section
variable (y0:Int)(y1 y2:List (Int×Int))
def tl:Int×Int:=Option.getD y1[Int.toNat y0]? ((0:Int),(0:Int))
def tm:Int×Int:=Option.getD y2[Int.toNat y0]? ((0:Int),(0:Int))
def uR:Bool:=ltI y0 (↑y1.length:Int)
def uS:Bool:=leI (0:Int) y0
def Ay:Bool:=ltN y0.toNat y1.length
def Az:Bool:=ltI y0 (↑y2.length:Int)
def AA:Bool:=ltN y0.toNat y2.length
def AB:Bool:= !bif (tl y0 y1).1==(tm y0 y2).1then bif (tl y0 y1).2==(tm y0 y2).2then true else false else false
def AC:Int:=IntKind.wrap .i64 (y0 + (1:Int))
end
def agJ:ju→List (Nat×SV)
 |(y0,_,_)=> [(5,(.one ⟨false,[.val (.int .i64 y0)]⟩)),(0,(.one ⟨false,[.ref 0]⟩)),(1,(.one ⟨false,[.ref 1]⟩))]
def agz:ju→List (Nat×Entry)
 |(_,y1,y2)=> [(0,(.row false 176 aiq y1)),(1,(.row false 176 aiq y2))]
def ag3:Nat→ju→List (Nat×SV)
 |0,(_,_,_)=> [(4,(.one ⟨false,[.val (.bool false)]⟩))]
 |_,(_,_,_)=> []
def agT:Nat→ju→List (Nat×Entry)
 |0,(_,y1,y2)=> [(0,(.row false 176 aiq y1)),(1,(.row false 176 aiq y2))]
 |_,(_,y1,y2)=> [(0,(.row false 176 aiq y1)),(1,(.row false 176 aiq y2))]
def yE:ju→LT ju
 |(y0,y1,y2)=> .ite (uR y0 y1) (.need [uS y0,uR y0 y1,Ay y0 y1,uS y0,Az y0 y2,AA y0 y2] (.ite (AB y0 y1 y2) (.ext 0 [(0,0),(1,1)]) (.nrm ((AC y0),y1,y2) [(0,0),(1,1)]))) (.ext 1 [(0,0),(1,1)])
def NM(s:St):Option ju:=
 (match s.look 5 with
 |some ⟨none,.one ⟨false,[.val (.int .i64 y0)]⟩⟩=>
 (match s.look 0 with
 |some ⟨none,.one ⟨false,[.ref 0]⟩⟩=>
 (match s.look 1 with
 |some ⟨none,.one ⟨false,[.ref 1]⟩⟩=>
 (match s.ent 0 with
 |some (.row false 176 (.pair (.int .i64) (.int .i64)) y1)=>
 (match s.ent 1 with
 |some (.row false 176 (.pair (.int .i64) (.int .i64)) y2)=>
 some (y0,y1,y2)
 |_=>none)
 |_=>none)
 |_=>none)
 |_=>none)
 |_=>none)
def cU:Lp ju where
 h:=⟨[11,12,13,14,17,18,19,20,21,22,23,24,25,4,15,16,5],[0,1],[],[]⟩
 JL:=agJ
 JE:=agz
 XL:=ag3
 XE:=agT
 q:=fun j=>match j with | 0=> .ret | _=> .exit 0
 tags:= [0,1]
 lt:=yE
 fuel:=fun(y0,y1,y2)=>y0.natAbs + y1.length + y2.length
 fix:=fun(_,y1,y2) (y0,_,_)=>(y0,y1,y2)
 σ:= [(0,0),(1,1)]
 rd:=NM
theorem aeL:LoopOk prog (fun k=>Nat.blt k Tryz.f61.ntmps) cU.F (aK f61 0):=by
 refine Lp.ok (tbl:= []) (lf:= []) aO cU (by kernel_rfl) (LOk.nil _) (fun _=>rfl) (fun j _=>by unfold cU;match j with | 0=>rfl | _ + 1=>rfl) ?_ ?_ ?_ ?_ (fun _=>rfl) ?_
 ·rintro⟨y0,y1,y2⟩;kernel_rfl
 ·rintro⟨y0,y1,y2⟩;kernel_rfl
 ·intro s x h
  have h:NM s=some x:=h
  unfold NM at h
  repeat' split at h
  all_goals cases h
  exact⟨aa (by assumption) rfl (aa (by assumption) rfl (aa (by assumption) rfl (rfl))),ab rfl (by assumption) rfl (ab rfl (by assumption) rfl (rfl))⟩
 ·rintro⟨y0,y1,y2⟩;kernel_rfl
 ·rintro⟨y0,y1,y2⟩ z;exact(And.intro (And.intro trivial rfl) trivial)
section
variable (x0 x1:List (Int×Int))
def FD:Bool:=(↑x0.length:Int)!=(↑x1.length:Int)
def Ma:Int×List (Int×Int)×List (Int×Int):=((0:Int),x0,x1)
def Oe:Bool:=bif FD x0 x1 then false else bif Nat.beq ((Lp.res cU (Ma x0 x1)).1) (0:Nat)then false else true
def Hs:Bool:=allT [FD x0 x1||Lp.fin cU (Ma x0 x1)]
end
def ab4:List SV→List Entry→Option Out
 | [.one ⟨false,[.ref 0]⟩,.one ⟨false,[.ref 1]⟩],[.row false 176 (.pair (.int .i64) (.int .i64)) x0,.row false 176 (.pair (.int .i64) (.int .i64)) x1]=>some ⟨.one ⟨false,[.val (.bool (Oe x0 x1))]⟩,[.row false 176 aiq x0,.row false 176 aiq x1],[],[Hs x0 x1]⟩
 |_,_=>none
def pK:PF prog:=PF.ofG prog [] [cU.F] aO 61 f61 func61 (LOk.fnT (l:= [aK f61 0]) (by kernel_rfl) (.cons aeL (.nil _))) ab4 (by
 intro vs es r h;unfold ab4 at h;split at h
 ·cases h;kernel_rfl
 ·cases h)
abbrev jv:=Int×Int×Int×Int×Int×Int×Int×List Int×List (Int×(Int×Int))×List (List Int)×List (Int×(Int×Int))×List (Int×Int)×List (Int×Int)×List Int×List (Int×(Int×Int))×List (List Int)×List (Int×(Int×Int))×List (Int×Int)×List (Int×Int)
section
variable (y0:Int)(y9 y15:List (List Int))
def tp:List Int:=Option.getD y9[Int.toNat y0]? (DA (CTy.sl (2:Nat) ajn))
def uT:Bool:=ltI y0 (↑y9.length:Int)
def uU:Bool:=leI (0:Int) y0
def AD:Bool:=ltN y0.toNat y9.length
def AE:Bool:=ltI y0 (↑y15.length:Int)
def AF:Bool:=ltN y0.toNat y15.length
def AG:Bool:=leN (List.length (tp y0 y9)) (9223372036854775807:Nat)
def AH:Bool:= !eqL (tp y0 y9) (Option.getD y15[Int.toNat y0]? (DA (CTy.sl (2:Nat) ajn)))
def AJ:Int:=IntKind.wrap .i64 (y0 + (1:Int))
end
def agK:jv→List (Nat×SV)
 |(y0,_,_,_,_,_,_,_,_,_,_,_,_,_,_,_,_,_,_)=> [(5,(.one ⟨false,[.val (.int .i64 y0)]⟩)),(2,(.one ⟨false,[.ptr 0 0]⟩)),(3,(.one ⟨false,[.ptr 1 0]⟩))]
def agA:jv→List (Nat×Entry)
 |(_,y1,y2,y3,y4,y5,y6,y7,y8,y9,y10,y11,y12,y13,y14,y15,y16,y17,y18)=> [(0,(.box 33 [.val (.int .i64 y1),.ref 2,.ref 3,.ref 4,.ref 5,.val (.int .i64 y2),.ref 6,.ref 7,.val (.int .i64 y3)])),(1,(.box 33 [.val (.int .i64 y4),.ref 8,.ref 9,.ref 10,.ref 11,.val (.int .i64 y5),.ref 12,.ref 13,.val (.int .i64 y6)])),(2,(.row false 2 ajn y7)),(3,(.row false 169 adk y8)),(4,(.row false 24 (CTy.sl (2:Nat) ajn) y9)),(5,(.row false 100 adk y10)),(6,(.row false 173 aiq y11)),(7,(.row false 176 aiq y12)),(8,(.row false 2 ajn y13)),(9,(.row false 169 adk y14)),(10,(.row false 24 (CTy.sl (2:Nat) ajn) y15)),(11,(.row false 100 adk y16)),(12,(.row false 173 aiq y17)),(13,(.row false 176 aiq y18))]
def ag4:Nat→jv→List (Nat×SV)
 |0,(_,_,_,_,_,_,_,_,_,_,_,_,_,_,_,_,_,_,_)=> [(4,(.one ⟨false,[.val (.bool false)]⟩))]
 |_,(_,_,_,_,_,_,_,_,_,_,_,_,_,_,_,_,_,_,_)=> []
def agU:Nat→jv→List (Nat×Entry)
 |0,(_,y1,y2,y3,y4,y5,y6,y7,y8,y9,y10,y11,y12,y13,y14,y15,y16,y17,y18)=> [(0,(.box 33 [.val (.int .i64 y1),.ref 2,.ref 3,.ref 4,.ref 5,.val (.int .i64 y2),.ref 6,.ref 7,.val (.int .i64 y3)])),(1,(.box 33 [.val (.int .i64 y4),.ref 8,.ref 9,.ref 10,.ref 11,.val (.int .i64 y5),.ref 12,.ref 13,.val (.int .i64 y6)])),(2,(.row false 2 ajn y7)),(3,(.row false 169 adk y8)),(4,(.row false 24 (CTy.sl (2:Nat) ajn) y9)),(5,(.row false 100 adk y10)),(6,(.row false 173 aiq y11)),(7,(.row false 176 aiq y12)),(8,(.row false 2 ajn y13)),(9,(.row false 169 adk y14)),(10,(.row false 24 (CTy.sl (2:Nat) ajn) y15)),(11,(.row false 100 adk y16)),(12,(.row false 173 aiq y17)),(13,(.row false 176 aiq y18))]
 |_,(_,y1,y2,y3,y4,y5,y6,y7,y8,y9,y10,y11,y12,y13,y14,y15,y16,y17,y18)=> [(0,(.box 33 [.val (.int .i64 y1),.ref 2,.ref 3,.ref 4,.ref 5,.val (.int .i64 y2),.ref 6,.ref 7,.val (.int .i64 y3)])),(1,(.box 33 [.val (.int .i64 y4),.ref 8,.ref 9,.ref 10,.ref 11,.val (.int .i64 y5),.ref 12,.ref 13,.val (.int .i64 y6)])),(2,(.row false 2 ajn y7)),(3,(.row false 169 adk y8)),(4,(.row false 24 (CTy.sl (2:Nat) ajn) y9)),(5,(.row false 100 adk y10)),(6,(.row false 173 aiq y11)),(7,(.row false 176 aiq y12)),(8,(.row false 2 ajn y13)),(9,(.row false 169 adk y14)),(10,(.row false 24 (CTy.sl (2:Nat) ajn) y15)),(11,(.row false 100 adk y16)),(12,(.row false 173 aiq y17)),(13,(.row false 176 aiq y18))]
def yF:jv→LT jv
 |(y0,y1,y2,y3,y4,y5,y6,y7,y8,y9,y10,y11,y12,y13,y14,y15,y16,y17,y18)=> .ite (uT y0 y9) (.need [uU y0,uT y0 y9,AD y0 y9,uU y0,AE y0 y15,AF y0 y15,AG y0 y9] (.ite (AH y0 y9 y15) (.ext 0 [(0,0),(1,1),(2,2),(3,3),(4,4),(5,5),(6,6),(7,7),(8,8),(9,9),(10,10),(11,11),(12,12),(13,13)]) (.nrm ((AJ y0),y1,y2,y3,y4,y5,y6,y7,y8,y9,y10,y11,y12,y13,y14,y15,y16,y17,y18) [(0,0),(1,1),(2,2),(3,3),(4,4),(5,5),(6,6),(7,7),(8,8),(9,9),(10,10),(11,11),(12,12),(13,13)]))) (.ext 1 [(0,0),(1,1),(2,2),(3,3),(4,4),(5,5),(6,6),(7,7),(8,8),(9,9),(10,10),(11,11),(12,12),(13,13)])
def NN(s:St):Option jv:=
 (match s.look 5 with
 |some ⟨none,.one ⟨false,[.val (.int .i64 y0)]⟩⟩=>
 (match s.look 2 with
 |some ⟨none,.one ⟨false,[.ptr 832 0]⟩⟩=>
 (match s.look 3 with
 |some ⟨none,.one ⟨false,[.ptr 896 0]⟩⟩=>
 (match s.ent 832 with
 |some (.box 33 [.val (.int .i64 y1),.ref 0,.ref 1,.ref 2,.ref 3,.val (.int .i64 y2),.ref 4,.ref 5,.val (.int .i64 y3)])=>
 (match s.ent 896 with
 |some (.box 33 [.val (.int .i64 y4),.ref 6,.ref 7,.ref 8,.ref 9,.val (.int .i64 y5),.ref 10,.ref 11,.val (.int .i64 y6)])=>
 (match s.ent 0 with
 |some (.row false 2 (.int .i64) y7)=>
 (match s.ent 1 with
 |some (.row false 169 (.pair (.int .i64) (.pair (.int .i64) (.int .i64))) y8)=>
 (match s.ent 2 with
 |some (.row false 24 (.sl 2 (.int .i64)) y9)=>
 (match s.ent 3 with
 |some (.row false 100 (.pair (.int .i64) (.pair (.int .i64) (.int .i64))) y10)=>
 (match s.ent 4 with
 |some (.row false 173 (.pair (.int .i64) (.int .i64)) y11)=>
 (match s.ent 5 with
 |some (.row false 176 (.pair (.int .i64) (.int .i64)) y12)=>
 (match s.ent 6 with
 |some (.row false 2 (.int .i64) y13)=>
 (match s.ent 7 with
 |some (.row false 169 (.pair (.int .i64) (.pair (.int .i64) (.int .i64))) y14)=>
 (match s.ent 8 with
 |some (.row false 24 (.sl 2 (.int .i64)) y15)=>
 (match s.ent 9 with
 |some (.row false 100 (.pair (.int .i64) (.pair (.int .i64) (.int .i64))) y16)=>
 (match s.ent 10 with
 |some (.row false 173 (.pair (.int .i64) (.int .i64)) y17)=>
 (match s.ent 11 with
 |some (.row false 176 (.pair (.int .i64) (.int .i64)) y18)=>
 some (y0,y1,y2,y3,y4,y5,y6,y7,y8,y9,y10,y11,y12,y13,y14,y15,y16,y17,y18)
 |_=>none)
 |_=>none)
 |_=>none)
 |_=>none)
 |_=>none)
 |_=>none)
 |_=>none)
 |_=>none)
 |_=>none)
 |_=>none)
 |_=>none)
 |_=>none)
 |_=>none)
 |_=>none)
 |_=>none)
 |_=>none)
 |_=>none)
def cV:Lp jv where
 h:=⟨[23,24,25,26,27,30,31,32,33,34,35,36,37,38,39,40,41,4,28,29,5],[0,1,2,3,4,5,6,7,8,9,10,11,12,13],[],[]⟩
 JL:=agK
 JE:=agA
 XL:=ag4
 XE:=agU
 q:=fun j=>match j with | 0=> .ret | _=> .exit 0
 tags:= [0,1]
 lt:=yF
 fuel:=fun(y0,y1,y2,y3,y4,y5,y6,y7,y8,y9,y10,y11,y12,y13,y14,y15,y16,y17,y18)=>y0.natAbs + y1.natAbs + y2.natAbs + y3.natAbs + y4.natAbs + y5.natAbs + y6.natAbs + y7.length + y8.length + y9.length + y10.length + y11.length + y12.length + y13.length + y14.length + y15.length + y16.length + y17.length + y18.length
 fix:=fun(_,y1,y2,y3,y4,y5,y6,y7,y8,y9,y10,y11,y12,y13,y14,y15,y16,y17,y18) (y0,_,_,_,_,_,_,_,_,_,_,_,_,_,_,_,_,_,_)=>(y0,y1,y2,y3,y4,y5,y6,y7,y8,y9,y10,y11,y12,y13,y14,y15,y16,y17,y18)
 σ:= [(0,832),(1,896),(2,0),(3,1),(4,2),(5,3),(6,4),(7,5),(8,6),(9,7),(10,8),(11,9),(12,10),(13,11)]
 rd:=NN
theorem aeM:LoopOk prog (fun k=>Nat.blt k Tryz.f15.ntmps) cV.F (aK f15 0):=by
 refine Lp.ok (tbl:= [eN,PF.lend eN,PF.fz eN,mg,PF.lend mg,PF.fz mg,nA,PF.lend nA,PF.fz nA,pL,PF.lend pL,PF.fz pL,pK,PF.lend pK,PF.fz pK]) (lf:= []) aO cV (by kernel_rfl) (LOk.nil _) (fun _=>rfl) (fun j _=>by unfold cV;match j with | 0=>rfl | _ + 1=>rfl) ?_ ?_ ?_ ?_ (fun _=>rfl) ?_
 ·rintro⟨y0,y1,y2,y3,y4,y5,y6,y7,y8,y9,y10,y11,y12,y13,y14,y15,y16,y17,y18⟩;kernel_rfl
 ·rintro⟨y0,y1,y2,y3,y4,y5,y6,y7,y8,y9,y10,y11,y12,y13,y14,y15,y16,y17,y18⟩;kernel_rfl
 ·intro s x h
  have h:NN s=some x:=h
  unfold NN at h
  repeat' split at h
  all_goals cases h
  exact⟨aa (by assumption) rfl (aa (by assumption) rfl (aa (by assumption) rfl (rfl))),ab rfl (by assumption) rfl (ab rfl (by assumption) rfl (ab rfl (by assumption) rfl (ab rfl (by assumption) rfl (ab rfl (by assumption) rfl (ab rfl (by assumption) rfl (ab rfl (by assumption) rfl (ab rfl (by assumption) rfl (ab rfl (by assumption) rfl (ab rfl (by assumption) rfl (ab rfl (by assumption) rfl (ab rfl (by assumption) rfl (ab rfl (by assumption) rfl (ab rfl (by assumption) rfl (rfl))))))))))))))⟩
 ·rintro⟨y0,y1,y2,y3,y4,y5,y6,y7,y8,y9,y10,y11,y12,y13,y14,y15,y16,y17,y18⟩;kernel_rfl
 ·rintro⟨y0,y1,y2,y3,y4,y5,y6,y7,y8,y9,y10,y11,y12,y13,y14,y15,y16,y17,y18⟩ z;exact(And.intro (And.intro trivial rfl) trivial)
abbrev jw:=Int×Int×Int×Int×Int×Int×Int×List Int×List (Int×(Int×Int))×List (List Int)×List (Int×(Int×Int))×List (Int×Int)×List (Int×Int)×List Int×List (Int×(Int×Int))×List (List Int)×List (Int×(Int×Int))×List (Int×Int)×List (Int×Int)
section
variable (y0:Int)(y10 y16:List (Int×(Int×Int)))
def oT:Int×Int×Int:=Option.getD y10[Int.toNat y0]? ((0:Int),(0:Int),(0:Int))
def oU:Int×Int×Int:=Option.getD y16[Int.toNat y0]? ((0:Int),(0:Int),(0:Int))
def uV:Bool:=ltI y0 (↑y10.length:Int)
def uW:Bool:=leI (0:Int) y0
def AK:Bool:=ltN y0.toNat y10.length
def AL:Bool:=ltI y0 (↑y16.length:Int)
def AM:Bool:=ltN y0.toNat y16.length
def AO:Bool:= !bif (oT y0 y10).1==(oU y0 y16).1then bif ((oT y0 y10).2).1==((oU y0 y16).2).1then bif (oT y0 y10).2.2==(oU y0 y16).2.2then true else false else false else false
def AP:Int:=IntKind.wrap .i64 (y0 + (1:Int))
end
def agL:jw→List (Nat×SV)
 |(y0,_,_,_,_,_,_,_,_,_,_,_,_,_,_,_,_,_,_)=> [(6,(.one ⟨false,[.val (.int .i64 y0)]⟩)),(2,(.one ⟨false,[.ptr 0 0]⟩)),(3,(.one ⟨false,[.ptr 1 0]⟩))]
def agB:jw→List (Nat×Entry)
 |(_,y1,y2,y3,y4,y5,y6,y7,y8,y9,y10,y11,y12,y13,y14,y15,y16,y17,y18)=> [(0,(.box 33 [.val (.int .i64 y1),.ref 2,.ref 3,.ref 4,.ref 5,.val (.int .i64 y2),.ref 6,.ref 7,.val (.int .i64 y3)])),(1,(.box 33 [.val (.int .i64 y4),.ref 8,.ref 9,.ref 10,.ref 11,.val (.int .i64 y5),.ref 12,.ref 13,.val (.int .i64 y6)])),(2,(.row false 2 ajn y7)),(3,(.row false 169 adk y8)),(4,(.row false 24 (CTy.sl (2:Nat) ajn) y9)),(5,(.row false 100 adk y10)),(6,(.row false 173 aiq y11)),(7,(.row false 176 aiq y12)),(8,(.row false 2 ajn y13)),(9,(.row false 169 adk y14)),(10,(.row false 24 (CTy.sl (2:Nat) ajn) y15)),(11,(.row false 100 adk y16)),(12,(.row false 173 aiq y17)),(13,(.row false 176 aiq y18))]
def ag5:Nat→jw→List (Nat×SV)
 |0,(_,_,_,_,_,_,_,_,_,_,_,_,_,_,_,_,_,_,_)=> [(4,(.one ⟨false,[.val (.bool false)]⟩))]
 |_,(_,_,_,_,_,_,_,_,_,_,_,_,_,_,_,_,_,_,_)=> []
def agV:Nat→jw→List (Nat×Entry)
 |0,(_,y1,y2,y3,y4,y5,y6,y7,y8,y9,y10,y11,y12,y13,y14,y15,y16,y17,y18)=> [(0,(.box 33 [.val (.int .i64 y1),.ref 2,.ref 3,.ref 4,.ref 5,.val (.int .i64 y2),.ref 6,.ref 7,.val (.int .i64 y3)])),(1,(.box 33 [.val (.int .i64 y4),.ref 8,.ref 9,.ref 10,.ref 11,.val (.int .i64 y5),.ref 12,.ref 13,.val (.int .i64 y6)])),(2,(.row false 2 ajn y7)),(3,(.row false 169 adk y8)),(4,(.row false 24 (CTy.sl (2:Nat) ajn) y9)),(5,(.row false 100 adk y10)),(6,(.row false 173 aiq y11)),(7,(.row false 176 aiq y12)),(8,(.row false 2 ajn y13)),(9,(.row false 169 adk y14)),(10,(.row false 24 (CTy.sl (2:Nat) ajn) y15)),(11,(.row false 100 adk y16)),(12,(.row false 173 aiq y17)),(13,(.row false 176 aiq y18))]
 |_,(_,y1,y2,y3,y4,y5,y6,y7,y8,y9,y10,y11,y12,y13,y14,y15,y16,y17,y18)=> [(0,(.box 33 [.val (.int .i64 y1),.ref 2,.ref 3,.ref 4,.ref 5,.val (.int .i64 y2),.ref 6,.ref 7,.val (.int .i64 y3)])),(1,(.box 33 [.val (.int .i64 y4),.ref 8,.ref 9,.ref 10,.ref 11,.val (.int .i64 y5),.ref 12,.ref 13,.val (.int .i64 y6)])),(2,(.row false 2 ajn y7)),(3,(.row false 169 adk y8)),(4,(.row false 24 (CTy.sl (2:Nat) ajn) y9)),(5,(.row false 100 adk y10)),(6,(.row false 173 aiq y11)),(7,(.row false 176 aiq y12)),(8,(.row false 2 ajn y13)),(9,(.row false 169 adk y14)),(10,(.row false 24 (CTy.sl (2:Nat) ajn) y15)),(11,(.row false 100 adk y16)),(12,(.row false 173 aiq y17)),(13,(.row false 176 aiq y18))]
def yG:jw→LT jw
 |(y0,y1,y2,y3,y4,y5,y6,y7,y8,y9,y10,y11,y12,y13,y14,y15,y16,y17,y18)=> .ite (uV y0 y10) (.need [uW y0,uV y0 y10,AK y0 y10,uW y0,AL y0 y16,AM y0 y16] (.ite (AO y0 y10 y16) (.ext 0 [(0,0),(1,1),(2,2),(3,3),(4,4),(5,5),(6,6),(7,7),(8,8),(9,9),(10,10),(11,11),(12,12),(13,13)]) (.nrm ((AP y0),y1,y2,y3,y4,y5,y6,y7,y8,y9,y10,y11,y12,y13,y14,y15,y16,y17,y18) [(0,0),(1,1),(2,2),(3,3),(4,4),(5,5),(6,6),(7,7),(8,8),(9,9),(10,10),(11,11),(12,12),(13,13)]))) (.ext 1 [(0,0),(1,1),(2,2),(3,3),(4,4),(5,5),(6,6),(7,7),(8,8),(9,9),(10,10),(11,11),(12,12),(13,13)])
def NO(s:St):Option jw:=
 (match s.look 6 with
 |some ⟨none,.one ⟨false,[.val (.int .i64 y0)]⟩⟩=>
 (match s.look 2 with
 |some ⟨none,.one ⟨false,[.ptr 832 0]⟩⟩=>
 (match s.look 3 with
 |some ⟨none,.one ⟨false,[.ptr 896 0]⟩⟩=>
 (match s.ent 832 with
 |some (.box 33 [.val (.int .i64 y1),.ref 0,.ref 1,.ref 2,.ref 3,.val (.int .i64 y2),.ref 4,.ref 5,.val (.int .i64 y3)])=>
 (match s.ent 896 with
 |some (.box 33 [.val (.int .i64 y4),.ref 6,.ref 7,.ref 8,.ref 9,.val (.int .i64 y5),.ref 10,.ref 11,.val (.int .i64 y6)])=>
 (match s.ent 0 with
 |some (.row false 2 (.int .i64) y7)=>
 (match s.ent 1 with
 |some (.row false 169 (.pair (.int .i64) (.pair (.int .i64) (.int .i64))) y8)=>
 (match s.ent 2 with
 |some (.row false 24 (.sl 2 (.int .i64)) y9)=>
 (match s.ent 3 with
 |some (.row false 100 (.pair (.int .i64) (.pair (.int .i64) (.int .i64))) y10)=>
 (match s.ent 4 with
 |some (.row false 173 (.pair (.int .i64) (.int .i64)) y11)=>
 (match s.ent 5 with
 |some (.row false 176 (.pair (.int .i64) (.int .i64)) y12)=>
 (match s.ent 6 with
 |some (.row false 2 (.int .i64) y13)=>
 (match s.ent 7 with
 |some (.row false 169 (.pair (.int .i64) (.pair (.int .i64) (.int .i64))) y14)=>
 (match s.ent 8 with
 |some (.row false 24 (.sl 2 (.int .i64)) y15)=>
 (match s.ent 9 with
 |some (.row false 100 (.pair (.int .i64) (.pair (.int .i64) (.int .i64))) y16)=>
 (match s.ent 10 with
 |some (.row false 173 (.pair (.int .i64) (.int .i64)) y17)=>
 (match s.ent 11 with
 |some (.row false 176 (.pair (.int .i64) (.int .i64)) y18)=>
 some (y0,y1,y2,y3,y4,y5,y6,y7,y8,y9,y10,y11,y12,y13,y14,y15,y16,y17,y18)
 |_=>none)
 |_=>none)
 |_=>none)
 |_=>none)
 |_=>none)
 |_=>none)
 |_=>none)
 |_=>none)
 |_=>none)
 |_=>none)
 |_=>none)
 |_=>none)
 |_=>none)
 |_=>none)
 |_=>none)
 |_=>none)
 |_=>none)
def cW:Lp jw where
 h:=⟨[42,43,44,45,46,49,50,51,52,53,54,55,56,57,58,59,4,47,48,6],[0,1,2,3,4,5,6,7,8,9,10,11,12,13],[],[]⟩
 JL:=agL
 JE:=agB
 XL:=ag5
 XE:=agV
 q:=fun j=>match j with | 0=> .ret | _=> .exit 2
 tags:= [0,1]
 lt:=yG
 fuel:=fun(y0,y1,y2,y3,y4,y5,y6,y7,y8,y9,y10,y11,y12,y13,y14,y15,y16,y17,y18)=>y0.natAbs + y1.natAbs + y2.natAbs + y3.natAbs + y4.natAbs + y5.natAbs + y6.natAbs + y7.length + y8.length + y9.length + y10.length + y11.length + y12.length + y13.length + y14.length + y15.length + y16.length + y17.length + y18.length
 fix:=fun(_,y1,y2,y3,y4,y5,y6,y7,y8,y9,y10,y11,y12,y13,y14,y15,y16,y17,y18) (y0,_,_,_,_,_,_,_,_,_,_,_,_,_,_,_,_,_,_)=>(y0,y1,y2,y3,y4,y5,y6,y7,y8,y9,y10,y11,y12,y13,y14,y15,y16,y17,y18)
 σ:= [(0,832),(1,896),(2,0),(3,1),(4,2),(5,3),(6,4),(7,5),(8,6),(9,7),(10,8),(11,9),(12,10),(13,11)]
 rd:=NO
theorem aeN:LoopOk prog (fun k=>Nat.blt k Tryz.f15.ntmps) cW.F (aK f15 1):=by
 refine Lp.ok (tbl:= [eN,PF.lend eN,PF.fz eN,mg,PF.lend mg,PF.fz mg,nA,PF.lend nA,PF.fz nA,pL,PF.lend pL,PF.fz pL,pK,PF.lend pK,PF.fz pK]) (lf:= []) aO cW (by kernel_rfl) (LOk.nil _) (fun _=>rfl) (fun j _=>by unfold cW;match j with | 0=>rfl | _ + 1=>rfl) ?_ ?_ ?_ ?_ (fun _=>rfl) ?_
 ·rintro⟨y0,y1,y2,y3,y4,y5,y6,y7,y8,y9,y10,y11,y12,y13,y14,y15,y16,y17,y18⟩;kernel_rfl
 ·rintro⟨y0,y1,y2,y3,y4,y5,y6,y7,y8,y9,y10,y11,y12,y13,y14,y15,y16,y17,y18⟩;kernel_rfl
 ·intro s x h
  have h:NO s=some x:=h
  unfold NO at h
  repeat' split at h
  all_goals cases h
  exact⟨aa (by assumption) rfl (aa (by assumption) rfl (aa (by assumption) rfl (rfl))),ab rfl (by assumption) rfl (ab rfl (by assumption) rfl (ab rfl (by assumption) rfl (ab rfl (by assumption) rfl (ab rfl (by assumption) rfl (ab rfl (by assumption) rfl (ab rfl (by assumption) rfl (ab rfl (by assumption) rfl (ab rfl (by assumption) rfl (ab rfl (by assumption) rfl (ab rfl (by assumption) rfl (ab rfl (by assumption) rfl (ab rfl (by assumption) rfl (ab rfl (by assumption) rfl (rfl))))))))))))))⟩
 ·rintro⟨y0,y1,y2,y3,y4,y5,y6,y7,y8,y9,y10,y11,y12,y13,y14,y15,y16,y17,y18⟩;kernel_rfl
 ·rintro⟨y0,y1,y2,y3,y4,y5,y6,y7,y8,y9,y10,y11,y12,y13,y14,y15,y16,y17,y18⟩ z;exact(And.intro (And.intro trivial rfl) trivial)
section
variable (x0 x1 x2 x3 x4 x5:Int)(x6:List Int)(x7:List (Int×Int×Int))(x8:List (List Int))(x9:List (Int×Int×Int))(x10 x11:List (Int×Int))(x12:List Int)(x13:List (Int×Int×Int))(x14:List (List Int))(x15:List (Int×Int×Int))(x16 x17:List (Int×Int))
def ln:Bool:=bif(↑x8.length:Int)!=(↑x14.length:Int)then true else(↑x9.length:Int)!=(↑x15.length:Int)
def uh:Int×Int×Int×Int×Int×Int×Int×List Int×List (Int×Int×Int)×List (List Int)×List (Int×Int×Int)×List (Int×Int)×List (Int×Int)×List Int×List (Int×Int×Int)×List (List Int)×List (Int×Int×Int)×List (Int×Int)×List (Int×Int):=((0:Int),x0,x1,x2,x3,x4,x5,x6,x7,x8,x9,x10,x11,x12,x13,x14,x15,x16,x17)
def qW:Bool:=Nat.beq ((Lp.res cV (uh x0 x1 x2 x3 x4 x5 x6 x7 x8 x9 x10 x11 x12 x13 x14 x15 x16 x17)).1) (0:Nat)
def ui:Bool:=Nat.beq ((Lp.res cW (uh x0 x1 x2 x3 x4 x5 x6 x7 x8 x9 x10 x11 x12 x13 x14 x15 x16 x17)).1) (0:Nat)
def SY:Bool:=bif bif CZ x0 x3 x6 x12 then LZ x7 x13 else false then x1==x4 else false
def SZ:Bool:=bif SY x0 x1 x3 x4 x6 x7 x12 x13 then Og x10 x16 else false
def wB:Bool:=bif ln x8 x9 x14 x15 then false else bif qW x0 x1 x2 x3 x4 x5 x6 x7 x8 x9 x10 x11 x12 x13 x14 x15 x16 x17 then false else bif ui x0 x1 x2 x3 x4 x5 x6 x7 x8 x9 x10 x11 x12 x13 x14 x15 x16 x17 then false else bif bif SZ x0 x1 x3 x4 x6 x7 x10 x12 x13 x16 then Oe x11 x17 else false then x2==x5 else false
def Of:Bool:=allT [ln x8 x9 x14 x15||Lp.fin cV (uh x0 x1 x2 x3 x4 x5 x6 x7 x8 x9 x10 x11 x12 x13 x14 x15 x16 x17),ln x8 x9 x14 x15||(qW x0 x1 x2 x3 x4 x5 x6 x7 x8 x9 x10 x11 x12 x13 x14 x15 x16 x17||Lp.fin cW (uh x0 x1 x2 x3 x4 x5 x6 x7 x8 x9 x10 x11 x12 x13 x14 x15 x16 x17)),ln x8 x9 x14 x15||(qW x0 x1 x2 x3 x4 x5 x6 x7 x8 x9 x10 x11 x12 x13 x14 x15 x16 x17||(ui x0 x1 x2 x3 x4 x5 x6 x7 x8 x9 x10 x11 x12 x13 x14 x15 x16 x17||JO x0 x3 x6)),ln x8 x9 x14 x15||(qW x0 x1 x2 x3 x4 x5 x6 x7 x8 x9 x10 x11 x12 x13 x14 x15 x16 x17||(ui x0 x1 x2 x3 x4 x5 x6 x7 x8 x9 x10 x11 x12 x13 x14 x15 x16 x17||(!(CZ x0 x3 x6 x12&&true)||Fx x7 x13))),ln x8 x9 x14 x15||(qW x0 x1 x2 x3 x4 x5 x6 x7 x8 x9 x10 x11 x12 x13 x14 x15 x16 x17||(ui x0 x1 x2 x3 x4 x5 x6 x7 x8 x9 x10 x11 x12 x13 x14 x15 x16 x17||(!(SY x0 x1 x3 x4 x6 x7 x12 x13&&true)||Ht x10 x16))),ln x8 x9 x14 x15||(qW x0 x1 x2 x3 x4 x5 x6 x7 x8 x9 x10 x11 x12 x13 x14 x15 x16 x17||(ui x0 x1 x2 x3 x4 x5 x6 x7 x8 x9 x10 x11 x12 x13 x14 x15 x16 x17||(!(SZ x0 x1 x3 x4 x6 x7 x10 x12 x13 x16&&true)||Hs x11 x17)))]
end
def ab5:List SV→List Entry→Option Out
 | [.one ⟨true,[.val (.int .i64 x0),.ref 0,.ref 1,.ref 2,.ref 3,.val (.int .i64 x1),.ref 4,.ref 5,.val (.int .i64 x2)]⟩,.one ⟨true,[.val (.int .i64 x3),.ref 6,.ref 7,.ref 8,.ref 9,.val (.int .i64 x4),.ref 10,.ref 11,.val (.int .i64 x5)]⟩],[.row false 2 (.int .i64) x6,.row false 169 (.pair (.int .i64) (.pair (.int .i64) (.int .i64))) x7,.row false 24 (.sl 2 (.int .i64)) x8,.row false 100 (.pair (.int .i64) (.pair (.int .i64) (.int .i64))) x9,.row false 173 (.pair (.int .i64) (.int .i64)) x10,.row false 176 (.pair (.int .i64) (.int .i64)) x11,.row false 2 (.int .i64) x12,.row false 169 (.pair (.int .i64) (.pair (.int .i64) (.int .i64))) x13,.row false 24 (.sl 2 (.int .i64)) x14,.row false 100 (.pair (.int .i64) (.pair (.int .i64) (.int .i64))) x15,.row false 173 (.pair (.int .i64) (.int .i64)) x16,.row false 176 (.pair (.int .i64) (.int .i64)) x17]=>some ⟨.one ⟨false,[.val (.bool (wB x0 x1 x2 x3 x4 x5 x6 x7 x8 x9 x10 x11 x12 x13 x14 x15 x16 x17))]⟩,[.row false 2 ajn x6,.row false 169 adk x7,.row false 24 (CTy.sl (2:TypeId) ajn) x8,.row false 100 adk x9,.row false 173 aiq x10,.row false 176 aiq x11,.row false 2 ajn x12,.row false 169 adk x13,.row false 24 (CTy.sl (2:TypeId) ajn) x14,.row false 100 adk x15,.row false 173 aiq x16,.row false 176 aiq x17],[],[Of x0 x1 x2 x3 x4 x5 x6 x7 x8 x9 x10 x11 x12 x13 x14 x15 x16 x17]⟩
 |_,_=>none
def anf:PF prog:=PF.ofG prog [eN,PF.lend eN,PF.fz eN,mg,PF.lend mg,PF.fz mg,nA,PF.lend nA,PF.fz nA,pL,PF.lend pL,PF.fz pL,pK,PF.lend pK,PF.fz pK] [cV.F,cW.F] aO 15 f15 func15 (LOk.fnT (l:= [aK f15 0,aK f15 1]) (by kernel_rfl) (.cons aeM (.cons aeN (.nil _)))) ab5 (by
 intro vs es r h;unfold ab5 at h;split at h
 ·cases h;kernel_rfl
 ·cases h)
def th(y1 y2:List (Int×(Int×Int)))(b:Nat):(Unit)→Nat ⊕ (Unit)
 |_=>(bif(!bif (Option.getD y1[b]? ((0:Int),(0:Int),(0:Int))).1==(Option.getD y2[b]? ((0:Int),(0:Int),(0:Int))).1then bif ((Option.getD y1[b]? ((0:Int),(0:Int),(0:Int))).2).1==((Option.getD y2[b]? ((0:Int),(0:Int),(0:Int))).2).1then bif (Option.getD y1[b]? ((0:Int),(0:Int),(0:Int))).2.2==(Option.getD y2[b]? ((0:Int),(0:Int),(0:Int))).2.2then true else false else false else false)then(.inl 0)else(.inr ()))
def nR(y1 y2:List (Int×(Int×Int)))(i:Nat):(Unit)→iM
 |_=>((i:Int),y1,y2)
def Mh:iM→Unit
 |(_,_,_)=>()
theorem WI(y1 y2:List (Int×(Int×Int))) (hn:y1.length≤9223372036854775807) (he:y2.length=y1.length):
  cE.fin ((0:Int),y1,y2)=true∧cE.res ((0:Int),y1,y2)=((aN (th y1 y2) 1 (List.range y1.length) 0 ()).1,(nR y1 y2) (aN (th y1 y2) 1 (List.range y1.length) 0 ()).2.1 (aN (th y1 y2) 1 (List.range y1.length) 0 ()).2.2):=by
 have cH:=cE.along (nR y1 y2) Mh (th y1 y2) 1 (fun _ _=>True) (List.range y1.length) () (by trivial) (by simp only [cE,nR,List.length_range];omega) (fun i b a hb hI=> ?_) (fun a hI=> ?_)
 ·exact cH
 ·obtain⟨⟩:=a
  obtain⟨rfl,dd⟩:=qD hb
  have hw:IntKind.i64.wrap ((b:Int) + 1)=((b + 1:Nat):Int):=by rw [aw (by omega) (by omega)];omega
  have bW:ltI (b:Int) (y1.length:Int)=true:=du (by omega)
  have pY:leI (0:Int) (b:Int)=true:=ct (by omega)
  have dw:ltN b y1.length=true:=ec (by omega)
  refine⟨?_,?_,?_,?_⟩
  ·simp [nx,ny,tj,tk,yx,yy,yz,yA,yB,wC,cE,LT.nds,allT,nR,bW,pY,dw,he]
  ·simp [nx,ny,tj,tk,yx,yy,yz,yA,yB,wC,cE,LT.each,nR,Mh,hw,he]
  ·simp only [nx,ny,tj,tk,yx,yy,yz,yA,yB,wC,cE,LT.fn,nR,Mh,th,Int.toNat_natCast,bW,cond_true]
  ·exact fun _ _=>trivial
 ·obtain⟨⟩:=a
  simp [nx,ny,tj,tk,yx,yy,yz,yA,yB,wC,cE,LT.out,nR,List.length_range]
theorem ark(xs ys:List (Int×Int×Int))(h:leN xs.length 9223372036854775807=true):Fx xs ys=true:=by
 have hn:=dT.1 h
 cases ha:CY xs ys with
 |true=>simp [Fx,ha,allT]
 |false=>
  have hl:ys.length=xs.length:=by simp [CY]at ha;omega
  obtain⟨w1,w2⟩:=WI xs ys hn hl
  simp only [Fx,JN,w1,allT,Bool.or_true,cond_true]
theorem apk(xs:List (Int×Int×Int))(h:leN xs.length 9223372036854775807=true):LZ xs xs=true:=by
 have hn:=dT.1 h
 obtain⟨w1,w2⟩:=WI xs xs hn rfl
 rw [kH (P:=fun _=>false) (j:=0) (fun b=>by simp [th])]at w2
 have e:(List.range xs.length).any (fun _=>false)=false:=by simp
 simp only [LZ,CY,JN,w2,e,bne_self_eq_false,cond_false]
 rfl
def uF(y1 y2:List (Int×Int))(b:Nat):(Unit)→Nat ⊕ (Unit)
 |_=>(bif(!bif (Option.getD y1[b]? ((0:Int),(0:Int))).1==(Option.getD y2[b]? ((0:Int),(0:Int))).1then bif (Option.getD y1[b]? ((0:Int),(0:Int))).2==(Option.getD y2[b]? ((0:Int),(0:Int))).2then true else false else false)then(.inl 0)else(.inr ()))
def pD(y1 y2:List (Int×Int))(i:Nat):(Unit)→jx
 |_=>((i:Int),y1,y2)
def NF:jx→Unit
 |(_,_,_)=>()
theorem Yr(y1 y2:List (Int×Int)) (hn:y1.length≤9223372036854775807) (he:y2.length=y1.length):
  cX.fin ((0:Int),y1,y2)=true∧cX.res ((0:Int),y1,y2)=((aN (uF y1 y2) 1 (List.range y1.length) 0 ()).1,(pD y1 y2) (aN (uF y1 y2) 1 (List.range y1.length) 0 ()).2.1 (aN (uF y1 y2) 1 (List.range y1.length) 0 ()).2.2):=by
 have cH:=cX.along (pD y1 y2) NF (uF y1 y2) 1 (fun _ _=>True) (List.range y1.length) () (by trivial) (by simp only [cX,pD,List.length_range];omega) (fun i b a hb hI=> ?_) (fun a hI=> ?_)
 ·exact cH
 ·obtain⟨⟩:=a
  obtain⟨rfl,dd⟩:=qD hb
  have hw:IntKind.i64.wrap ((b:Int) + 1)=((b + 1:Nat):Int):=by rw [aw (by omega) (by omega)];omega
  have bW:ltI (b:Int) (y1.length:Int)=true:=du (by omega)
  have pY:leI (0:Int) (b:Int)=true:=ct (by omega)
  have dw:ltN b y1.length=true:=ec (by omega)
  refine⟨?_,?_,?_,?_⟩
  ·simp [tq,tt,uX,uY,AQ,AR,AU,AV,AW,yH,cX,LT.nds,allT,pD,bW,pY,dw,he]
  ·simp [tq,tt,uX,uY,AQ,AR,AU,AV,AW,yH,cX,LT.each,pD,NF,hw,he]
  ·simp only [tq,tt,uX,uY,AQ,AR,AU,AV,AW,yH,cX,LT.fn,pD,NF,uF,Int.toNat_natCast,bW,cond_true]
  ·exact fun _ _=>trivial
 ·obtain⟨⟩:=a
  simp [tq,tt,uX,uY,AQ,AR,AU,AV,AW,yH,cX,LT.out,pD,List.length_range]
theorem asH(xs ys:List (Int×Int))(h:leN xs.length 9223372036854775807=true):Ht xs ys=true:=by
 have hn:=dT.1 h
 cases ha:FE xs ys with
 |true=>simp [Ht,ha,allT]
 |false=>
  have hl:ys.length=xs.length:=by simp [FE]at ha;omega
  obtain⟨w1,w2⟩:=Yr xs ys hn hl
  simp only [Ht,Mb,w1,allT,Bool.or_true,cond_true]
theorem aql(xs:List (Int×Int))(h:leN xs.length 9223372036854775807=true):Og xs xs=true:=by
 have hn:=dT.1 h
 obtain⟨w1,w2⟩:=Yr xs xs hn rfl
 rw [kH (P:=fun _=>false) (j:=0) (fun b=>by simp [uF])]at w2
 have e:(List.range xs.length).any (fun _=>false)=false:=by simp
 simp only [Og,FE,Mb,w2,e,bne_self_eq_false,cond_false]
 rfl
def uC(y1 y2:List (Int×Int))(b:Nat):(Unit)→Nat ⊕ (Unit)
 |_=>(bif(!bif (Option.getD y1[b]? ((0:Int),(0:Int))).1==(Option.getD y2[b]? ((0:Int),(0:Int))).1then bif (Option.getD y1[b]? ((0:Int),(0:Int))).2==(Option.getD y2[b]? ((0:Int),(0:Int))).2then true else false else false)then(.inl 0)else(.inr ()))
def pA(y1 y2:List (Int×Int))(i:Nat):(Unit)→ju
 |_=>((i:Int),y1,y2)
def NC:ju→Unit
 |(_,_,_)=>()
theorem Yo(y1 y2:List (Int×Int)) (hn:y1.length≤9223372036854775807) (he:y2.length=y1.length):
  cU.fin ((0:Int),y1,y2)=true∧cU.res ((0:Int),y1,y2)=((aN (uC y1 y2) 1 (List.range y1.length) 0 ()).1,(pA y1 y2) (aN (uC y1 y2) 1 (List.range y1.length) 0 ()).2.1 (aN (uC y1 y2) 1 (List.range y1.length) 0 ()).2.2):=by
 have cH:=cU.along (pA y1 y2) NC (uC y1 y2) 1 (fun _ _=>True) (List.range y1.length) () (by trivial) (by simp only [cU,pA,List.length_range];omega) (fun i b a hb hI=> ?_) (fun a hI=> ?_)
 ·exact cH
 ·obtain⟨⟩:=a
  obtain⟨rfl,dd⟩:=qD hb
  have hw:IntKind.i64.wrap ((b:Int) + 1)=((b + 1:Nat):Int):=by rw [aw (by omega) (by omega)];omega
  have bW:ltI (b:Int) (y1.length:Int)=true:=du (by omega)
  have pY:leI (0:Int) (b:Int)=true:=ct (by omega)
  have dw:ltN b y1.length=true:=ec (by omega)
  refine⟨?_,?_,?_,?_⟩
  ·simp [tl,tm,uR,uS,Ay,Az,AA,AB,AC,yE,cU,LT.nds,allT,pA,bW,pY,dw,he]
  ·simp [tl,tm,uR,uS,Ay,Az,AA,AB,AC,yE,cU,LT.each,pA,NC,hw,he]
  ·simp only [tl,tm,uR,uS,Ay,Az,AA,AB,AC,yE,cU,LT.fn,pA,NC,uC,Int.toNat_natCast,bW,cond_true]
  ·exact fun _ _=>trivial
 ·obtain⟨⟩:=a
  simp [tl,tm,uR,uS,Ay,Az,AA,AB,AC,yE,cU,LT.out,pA,List.length_range]
theorem asG(xs ys:List (Int×Int))(h:leN xs.length 9223372036854775807=true):Hs xs ys=true:=by
 have hn:=dT.1 h
 cases ha:FD xs ys with
 |true=>simp [Hs,ha,allT]
 |false=>
  have hl:ys.length=xs.length:=by simp [FD]at ha;omega
  obtain⟨w1,w2⟩:=Yo xs ys hn hl
  simp only [Hs,Ma,w1,allT,Bool.or_true,cond_true]
theorem aqj(xs:List (Int×Int))(h:leN xs.length 9223372036854775807=true):Oe xs xs=true:=by
 have hn:=dT.1 h
 obtain⟨w1,w2⟩:=Yo xs xs hn rfl
 rw [kH (P:=fun _=>false) (j:=0) (fun b=>by simp [uC])]at w2
 have e:(List.range xs.length).any (fun _=>false)=false:=by simp
 simp only [Oe,FD,Ma,w2,e,bne_self_eq_false,cond_false]
 rfl
theorem ayi{m:Nat}{xs:List (List Int)}(h: ∀ x∈xs,x.length≤m)(b:Nat):((xs[b]?).getD []).length≤m:=by
 cases hb:xs[b]? with
 |none=>simp
 |some x=>simpa using h x (List.mem_of_getElem? hb)
def uD(y9 y15:List (List Int))(b:Nat):(Unit)→Nat ⊕ (Unit)
 |_=>(bif(!eqL (Option.getD y9[b]? (DA (CTy.sl (2:Nat) ajn))) (Option.getD y15[b]? (DA (CTy.sl (2:Nat) ajn))))then(.inl 0)else(.inr ()))
def pB(y1 y2 y3 y4 y5 y6:Int)(y7:List Int)(y8:List (Int×(Int×Int)))(y9:List (List Int))(y10:List (Int×(Int×Int)))(y11 y12:List (Int×Int))(y13:List Int)(y14:List (Int×(Int×Int)))(y15:List (List Int))(y16:List (Int×(Int×Int)))(y17 y18:List (Int×Int))(i:Nat):(Unit)→jv
 |_=>((i:Int),y1,y2,y3,y4,y5,y6,y7,y8,y9,y10,y11,y12,y13,y14,y15,y16,y17,y18)
def ND:jv→Unit
 |(_,_,_,_,_,_,_,_,_,_,_,_,_,_,_,_,_,_,_)=>()
theorem Yp(y1 y2 y3 y4 y5 y6:Int)(y7:List Int)(y8:List (Int×(Int×Int)))(y9:List (List Int))(y10:List (Int×(Int×Int)))(y11 y12:List (Int×Int))(y13:List Int)(y14:List (Int×(Int×Int)))(y15:List (List Int))(y16:List (Int×(Int×Int)))(y17 y18:List (Int×Int)) (hn:y9.length≤9223372036854775807) (he:y15.length=y9.length) (hA: ∀ x∈y9,x.length≤9223372036854775807):
  cV.fin ((0:Int),y1,y2,y3,y4,y5,y6,y7,y8,y9,y10,y11,y12,y13,y14,y15,y16,y17,y18)=true∧cV.res ((0:Int),y1,y2,y3,y4,y5,y6,y7,y8,y9,y10,y11,y12,y13,y14,y15,y16,y17,y18)=((aN (uD y9 y15) 1 (List.range y9.length) 0 ()).1,(pB y1 y2 y3 y4 y5 y6 y7 y8 y9 y10 y11 y12 y13 y14 y15 y16 y17 y18) (aN (uD y9 y15) 1 (List.range y9.length) 0 ()).2.1 (aN (uD y9 y15) 1 (List.range y9.length) 0 ()).2.2):=by
 have cH:=cV.along (pB y1 y2 y3 y4 y5 y6 y7 y8 y9 y10 y11 y12 y13 y14 y15 y16 y17 y18) ND (uD y9 y15) 1 (fun _ _=>True) (List.range y9.length) () (by trivial) (by simp only [cV,pB,List.length_range];omega) (fun i b a hb hI=> ?_) (fun a hI=> ?_)
 ·exact cH
 ·obtain⟨⟩:=a
  obtain⟨rfl,dd⟩:=qD hb
  have hw:IntKind.i64.wrap ((b:Int) + 1)=((b + 1:Nat):Int):=by rw [aw (by omega) (by omega)];omega
  have bW:ltI (b:Int) (y9.length:Int)=true:=du (by omega)
  have pY:leI (0:Int) (b:Int)=true:=ct (by omega)
  have dw:ltN b y9.length=true:=ec (by omega)
  refine⟨?_,?_,?_,?_⟩
  ·have h6:AG (b:Int) y9=true:=bY (by simp only [tp,Int.toNat_natCast];exact ayi hA b)
   simp [uT,uU,AD,AE,AF,AH,AJ,yF,cV,LT.nds,allT,pB,bW,pY,dw,he,h6]
  ·simp [tp,uT,uU,AD,AE,AF,AG,AH,AJ,yF,cV,LT.each,pB,ND,hw,he]
  ·simp only [tp,uT,uU,AD,AE,AF,AG,AH,AJ,yF,cV,LT.fn,pB,ND,uD,Int.toNat_natCast,bW,cond_true]
  ·exact fun _ _=>trivial
 ·obtain⟨⟩:=a
  simp [tp,uT,uU,AD,AE,AF,AG,AH,AJ,yF,cV,LT.out,pB,List.length_range]
def uE(y10 y16:List (Int×(Int×Int)))(b:Nat):(Unit)→Nat ⊕ (Unit)
 |_=>(bif(!bif (Option.getD y10[b]? ((0:Int),(0:Int),(0:Int))).1==(Option.getD y16[b]? ((0:Int),(0:Int),(0:Int))).1then bif ((Option.getD y10[b]? ((0:Int),(0:Int),(0:Int))).2).1==((Option.getD y16[b]? ((0:Int),(0:Int),(0:Int))).2).1then bif (Option.getD y10[b]? ((0:Int),(0:Int),(0:Int))).2.2==(Option.getD y16[b]? ((0:Int),(0:Int),(0:Int))).2.2then true else false else false else false)then(.inl 0)else(.inr ()))
def pC(y1 y2 y3 y4 y5 y6:Int)(y7:List Int)(y8:List (Int×(Int×Int)))(y9:List (List Int))(y10:List (Int×(Int×Int)))(y11 y12:List (Int×Int))(y13:List Int)(y14:List (Int×(Int×Int)))(y15:List (List Int))(y16:List (Int×(Int×Int)))(y17 y18:List (Int×Int))(i:Nat):(Unit)→jw
 |_=>((i:Int),y1,y2,y3,y4,y5,y6,y7,y8,y9,y10,y11,y12,y13,y14,y15,y16,y17,y18)
def NE:jw→Unit
 |(_,_,_,_,_,_,_,_,_,_,_,_,_,_,_,_,_,_,_)=>()
theorem Yq(y1 y2 y3 y4 y5 y6:Int)(y7:List Int)(y8:List (Int×(Int×Int)))(y9:List (List Int))(y10:List (Int×(Int×Int)))(y11 y12:List (Int×Int))(y13:List Int)(y14:List (Int×(Int×Int)))(y15:List (List Int))(y16:List (Int×(Int×Int)))(y17 y18:List (Int×Int)) (hn:y10.length≤9223372036854775807) (he:y16.length=y10.length):
  cW.fin ((0:Int),y1,y2,y3,y4,y5,y6,y7,y8,y9,y10,y11,y12,y13,y14,y15,y16,y17,y18)=true∧cW.res ((0:Int),y1,y2,y3,y4,y5,y6,y7,y8,y9,y10,y11,y12,y13,y14,y15,y16,y17,y18)=((aN (uE y10 y16) 1 (List.range y10.length) 0 ()).1,(pC y1 y2 y3 y4 y5 y6 y7 y8 y9 y10 y11 y12 y13 y14 y15 y16 y17 y18) (aN (uE y10 y16) 1 (List.range y10.length) 0 ()).2.1 (aN (uE y10 y16) 1 (List.range y10.length) 0 ()).2.2):=by
 have cH:=cW.along (pC y1 y2 y3 y4 y5 y6 y7 y8 y9 y10 y11 y12 y13 y14 y15 y16 y17 y18) NE (uE y10 y16) 1 (fun _ _=>True) (List.range y10.length) () (by trivial) (by simp only [cW,pC,List.length_range];omega) (fun i b a hb hI=> ?_) (fun a hI=> ?_)
 ·exact cH
 ·obtain⟨⟩:=a
  obtain⟨rfl,dd⟩:=qD hb
  have hw:IntKind.i64.wrap ((b:Int) + 1)=((b + 1:Nat):Int):=by rw [aw (by omega) (by omega)];omega
  have bW:ltI (b:Int) (y10.length:Int)=true:=du (by omega)
  have pY:leI (0:Int) (b:Int)=true:=ct (by omega)
  have dw:ltN b y10.length=true:=ec (by omega)
  refine⟨?_,?_,?_,?_⟩
  ·simp [oT,oU,uV,uW,AK,AL,AM,AO,AP,yG,cW,LT.nds,allT,pC,bW,pY,dw,he]
  ·simp [oT,oU,uV,uW,AK,AL,AM,AO,AP,yG,cW,LT.each,pC,NE,hw,he]
  ·simp only [oT,oU,uV,uW,AK,AL,AM,AO,AP,yG,cW,LT.fn,pC,NE,uE,Int.toNat_natCast,bW,cond_true]
  ·exact fun _ _=>trivial
 ·obtain⟨⟩:=a
  simp [oT,oU,uV,uW,AK,AL,AM,AO,AP,yG,cW,LT.out,pC,List.length_range]
theorem awT(n m d n' m' d':Int)(ps:LI)(fs:L3)(rs:List LI)(lf:L3)(pl ls:L2)(ps':LI)(fs':L3)(rs':List LI)(lf':L3)(pl' ls':L2)(h:rV 9223372036854775807 ps fs rs lf pl ls=true):
  Of n m d n' m' d' ps fs rs lf pl ls ps' fs' rs' lf' pl' ls'=true:=by
 have h':=h
 simp only [rV,Bool.and_eq_true]at h'
 obtain⟨h1,h2,h3,h4,h5,h6⟩:=h'
 obtain⟨hn,hA⟩:=avc.1 h3
 have q1:JO n n' ps=true:=by simp only [JO,h1,allT,Bool.or_true,cond_true]
 have q2:=ark fs fs' h2
 have q3:=asH pl pl' h5
 have q4:=asG ls ls' h6
 cases ha:ln rs lf rs' lf' with
 |true=>simp only [Of,ha,allT,Bool.true_or,cond_true]
 |false=>
  have hl:rs'.length=rs.length∧lf'.length=lf.length:=by
   simp only [ln]at ha
   cases hq:((rs.length:Int)!=(rs'.length:Int))with
   |true=>rw [hq]at ha;cases ha
   |false=>rw [hq,cond_false]at ha;simp at ha hq;omega
  obtain⟨w1,_⟩:=Yp n m d n' m' d' ps fs rs lf pl ls ps' fs' rs' lf' pl' ls' hn hl.1 hA
  obtain⟨v1,_⟩:=Yq n m d n' m' d' ps fs rs lf pl ls ps' fs' rs' lf' pl' ls' (dT.1 h4) hl.2
  simp only [Of,uh,w1,v1,q1,q2,q3,q4,allT,Bool.or_true,cond_true]
theorem aqk(n m d:Int)(ps:LI)(fs:L3)(rs:List LI)(lf:L3)(pl ls:L2)(h:rV 9223372036854775807 ps fs rs lf pl ls=true):
  wB n m d n m d ps fs rs lf pl ls ps fs rs lf pl ls=true:=by
 have h':=h
 simp only [rV,Bool.and_eq_true]at h'
 obtain⟨h1,h2,h3,h4,h5,h6⟩:=h'
 obtain⟨hn,hA⟩:=avc.1 h3
 have q1:CZ n n ps ps=true:=by simp [CZ,eqL]
 have q2:=apk fs h2
 have q3:=aql pl h5
 have q4:=aqj ls h6
 obtain⟨_,w2⟩:=Yp n m d n m d ps fs rs lf pl ls ps fs rs lf pl ls hn rfl hA
 obtain⟨_,v2⟩:=Yq n m d n m d ps fs rs lf pl ls ps fs rs lf pl ls (dT.1 h4) rfl
 rw [kH (P:=fun _=>false) (j:=0) (fun b=>by simp [uD,eqL])]at w2
 rw [kH (P:=fun _=>false) (j:=0) (fun b=>by simp [uE])]at v2
 have e: ∀ k:Nat,(List.range k).any (fun _=>false)=false:=fun k=>by simp
 have a2:qW n m d n m d ps fs rs lf pl ls ps fs rs lf pl ls=false:=by simp only [qW,uh,w2,e,cond_false];rfl
 have a3:ui n m d n m d ps fs rs lf pl ls ps fs rs lf pl ls=false:=by simp only [ui,uh,v2,e,cond_false];rfl
 simp only [wB,ln,a2,a3,SY,SZ,q1,q2,q3,q4,bne_self_eq_false,beq_self_eq_true,cond_false,cond_true]
def acg:List SV→List Entry→Option Out
 | [.one ⟨true,[.val (.int .i64 x0),.ref 0,.ref 1,.ref 2,.ref 3,.val (.int .i64 x1),.ref 4,.ref 5,.val (.int .i64 x2)]⟩,.one ⟨true,[.val (.int .i64 x3),.ref 6,.ref 7,.ref 8,.ref 9,.val (.int .i64 x4),.ref 10,.ref 11,.val (.int .i64 x5)]⟩],[.row false 2 (.int .i64) x6,.row false 169 (.pair (.int .i64) (.pair (.int .i64) (.int .i64))) x7,.row false 24 (.sl 2 (.int .i64)) x8,.row false 100 (.pair (.int .i64) (.pair (.int .i64) (.int .i64))) x9,.row false 173 (.pair (.int .i64) (.int .i64)) x10,.row false 176 (.pair (.int .i64) (.int .i64)) x11,.row false 2 (.int .i64) x12,.row false 169 (.pair (.int .i64) (.pair (.int .i64) (.int .i64))) x13,.row false 24 (.sl 2 (.int .i64)) x14,.row false 100 (.pair (.int .i64) (.pair (.int .i64) (.int .i64))) x15,.row false 173 (.pair (.int .i64) (.int .i64)) x16,.row false 176 (.pair (.int .i64) (.int .i64)) x17]=>some ⟨.one ⟨false,[.val (.bool (wB x0 x1 x2 x3 x4 x5 x6 x7 x8 x9 x10 x11 x12 x13 x14 x15 x16 x17))]⟩,[.row false 2 ajn x6,.row false 169 adk x7,.row false 24 (CTy.sl (2:TypeId) ajn) x8,.row false 100 adk x9,.row false 173 aiq x10,.row false 176 aiq x11,.row false 2 ajn x12,.row false 169 adk x13,.row false 24 (CTy.sl (2:TypeId) ajn) x14,.row false 100 adk x15,.row false 173 aiq x16,.row false 176 aiq x17],[],[rV 9223372036854775807 x6 x7 x8 x9 x10 x11]⟩
 |_,_=>none
def Cb:PF prog:=PF.alt anf acg (by
 intro args es o h bz;unfold acg at h;split at h
 ·rename_i x0 x1 x2 x3 x4 x5 x6 x7 x8 x9 x10 x11 x12 x13 x14 x15 x16 x17
  cases h
  have bz:=fM bz
  have hh:=awT x0 x1 x2 x3 x4 x5 x6 x7 x8 x9 x10 x11 x12 x13 x14 x15 x16 x17 bz
  have en:=hh
  exact jK rfl (fj en) rfl rfl rfl
 ·cases h)
 attribute [local irreducible] nxA nxS nxV pkA pkS pkV rV
theorem adG(c:List Int)(x:jY)(hx:match x with | (y0,y1,y2,y3,y4,y5,y6,y7,y8,y9,y10,y11,y12,y13)=>y0≤((30:Nat):Int)∧aB y1 y2 y7=true∧y6.length + (30:Nat)≤30∧rV 1000000 y8 y9 y10 y11 y12 y13=true∧y7=c):
  ij.fin x=true∧ ∃ j y,ij.res x=(j,y)∧(match y with | (y0,y1,y2,y3,y4,y5,y6,y7,y8,y9,y10,y11,y12,y13)=>aB y1 y2 c=true∧y6.length≤30∧c=y7):=by
 refine ij.inv2 (fun k x=>match x with | (y0,y1,y2,y3,y4,y5,y6,y7,y8,y9,y10,y11,y12,y13)=>y0≤(k:Int)∧aB y1 y2 y7=true∧y6.length + k≤30∧rV 1000000 y8 y9 y10 y11 y12 y13=true∧y7=c) (fun y=>match y with | (y0,y1,y2,y3,y4,y5,y6,y7,y8,y9,y10,y11,y12,y13)=>aB y1 y2 c=true∧y6.length≤30∧c=y7) (fun k x hx=> ?_) (fun x hx=> ?_) 30 x (by omega) hx
 ·obtain⟨y0,y1,y2,y3,y4,y5,y6,y7,y8,y9,y10,y11,y12,y13⟩:=x
  obtain⟨h0,h1,h2,h3,rfl⟩:=hx
  have iN:rV 9223372036854775807 y8 y9 y10 y11 y12 y13=true:=alT h3 (by omega)
  have hd:=(WH y1 y2 y10 y7 h1).2
  have i2:Wr y1 y2 y3 y4 y5 y7 y8 y9 y10 y11 y12 y13=true:=(aoz y3 y4 y5 _ _ 0 0 0 0 false y8 y9 y10 y11 y12 y13 iN).2
  have i3:Ws y1 y2 y3 y4 y5 y7 y8 y9 y10 y11 y12 y13=true:=aya hd
  have i4:Wt y1 y2 y3 y4 y5 y6 y7 y8 y9 y10 y11 y12 y13=true:=aya (bY (by simp only [sk,List.length_cons,List.length_nil];omega))
  have i5:Wu y1 y2 y3 y4 y5 y6 y7 y8 y9 y10 y11 y12 y13=true:=aya (bY (by simp only [sk,List.length_cons,List.length_nil];omega))
  have i1:Wq y1 y2 y7=true:=h1
  have e8:aB (NV y1 y2 y3 y4 y5 y7 y8 y9 y10 y11 y12 y13) (NW y1 y2 y3 y4 y5 y7 y8 y9 y10 y11 y12 y13) y7=true:=rH (fN hd) hd
  have l10:(Ml y1 y2 y6 y7 y10).length=y6.length + 1:=by simp only [Ml,sk,List.length_append,List.length_cons,List.length_nil]
  have w7:ltI 0 y0=true→Gx y0≤(k:Int):=fun h=>by
   have:=Xz.1 h
   simp only [Gx];rw [aw (by omega) (by omega)];omega
  simp only [ij,Me,LT.ok,EK,EL,and_true,true_and,i1,i2,i3,i4,i5,NU]
  exact⟨fun h=>⟨fun _=>⟨w7 h,e8,by omega,h3⟩,fun _=>⟨w7 h,e8,by omega,h3⟩⟩,fun _=>⟨h1,by omega⟩⟩
 ·obtain⟨y0,y1,y2,y3,y4,y5,y6,y7,y8,y9,y10,y11,y12,y13⟩:=x
  obtain⟨h0,h1,h2,h3,rfl⟩:=hx
  have e0:ltI 0 y0=false:=akN (by omega)
  simp only [ij,Me,LT.ok,NU,e0,Bool.false_eq_true,false_implies,true_implies,true_and,and_true]
  exact⟨h1,by omega⟩
theorem dRR(c:List Int)(h:aB 0 0 c=true):Rj c=true∧rV 1000000 (af c) (ag c) (ah c) (ai c) (aj c) (ak c)=true∧(aq c).length≤201:=by
 have h1:=(avv c h).2
 obtain⟨_,h2,hN⟩:=Wy 0 (frS c) c h1
 have n1:=aaW (n:=30) h2 (by omega)
 obtain⟨f0,j0,⟨z0,z1,z2,z3,z4,z5,z6,z7,z8,z9,z10,z11,z12,z13⟩,g0,q1,q2,q3⟩:=adG c (JQ c) (by
  simp only [JQ]
  exact⟨by omega,fN h2,by simp,hN,trivial⟩)
 subst q3
 have e2:oM c=z1:=by simp only [oM,Dn,g0]
 have e4:xC c=z2:=by simp only [xC,JR,Dn,g0]
 have s1:aB (nxA 60 z1 c) (nxS 60 z1 z2 c) c=true:=fN q1
 have n2:=aaW (n:=2) s1 (by omega)
 have e6:ja c=200 + nxV 2 (nxA 60 z1 c) (nxS 60 z1 z2 c) c:=by simp only [ja,e2,e4];exact aw (by omega) (by omega)
 have t1:leI 0 (ja c)=true:=ct (by omega)
 have t2:leI ((56:Nat) * ja c) 281474976710656=true:=ct (by omega)
 have t3:leI (ja c) 9223372036854775807=true:=ct (by omega)
 refine⟨?_,?_,?_⟩
 ·simp only [Rj,e2,e4,h,h1,h2,f0,s1,q1,t1,t2,t3,am0,allT,Bool.or_true,cond_true]
 ·simp only [af,ag,ah,ai,aj,ak,Bool.cond_self];exact hN
 ·simp only [aq,JR,Dn,g0]
  cases cJ c with
  |true=>simp only [cond_true,List.length_replicate];omega
  |false=>simp only [cond_false];omega
def aac:List SV→List Entry→Option Out
 | [.one ⟨false,[.ref 0]⟩],[.row false 5 (.int .u8) x0]=>some ⟨.tup [⟨true,[.val (.int .i64 (al x0)),.ref 1,.ref 2,.ref 3,.ref 4,.val (.int .i64 (am x0)),.ref 5,.ref 6,.val (.int .i64 (ao x0))]⟩,⟨false,[.ref 7]⟩],[.row false 5 aj7 x0],[.row true 2 ajn (af x0),.row true 169 adk (ag x0),.row true 24 (CTy.sl (2:Nat) ajn) (ah x0),.row true 100 adk (ai x0),.row true 173 aiq (aj x0),.row true 176 aiq (ak x0),.row true 49 abL (aq x0)],[aB 0 0 x0]⟩
 |_,_=>none
def zd:PF prog:=PF.alt alP aac (by
 intro args es o h bz;unfold aac at h;split at h
 ·rename_i x0
  cases h
  have bz:=fM bz
  have hh:=(dRR x0 bz).1
  have en:=hh
  exact jK rfl (fj en) rfl rfl rfl
 ·cases h)
end Go.SX
namespace Go.SX
open Go.Proofs Go.Proofs.Tryz
set_option maxRecDepth 100000
abbrev ie:=Int×Int×List (Int×(Int×Int))×List Int
section
variable (y0 y1:Int)(y2:List (Int×(Int×Int)))(y3:List Int)
def dr:Int×Int×Int:=Option.getD y2[Int.toNat y0]? ((0:Int),(0:Int),(0:Int))
def qB:Bool:=(dr y0 y2).2.2==(0:Int)
def wj:Bool:=ltI y0 y1
def wk:Bool:=leI (0:Int) y0
def wl:Bool:=ltI y0 (↑y2.length:Int)
def wm:Bool:=ltN y0.toNat y2.length
def wn:Bool:= !qB y0 y2||dK ((dr y0 y2).1) y3
def wo:Bool:=qB y0 y2
def wq:Bool:=ba ((dr y0 y2).1) y3
def ws:Bool:=leN (List.length y3 + List.length [(dr y0 y2).1]) (9223372036854775807:Nat)
def wu:Bool:=leN ((List.length y3 + List.length [(dr y0 y2).1]) * (8:Nat)) (140737488355328:Nat)
def rZ:Int:=IntKind.wrap .i64 (y0 + (1:Int))
def uH:List Int:=y3++ [(dr y0 y2).1]
end
def ad3:ie→List (Nat×SV)
 |(y0,y1,_,_)=> [(8,(.one ⟨false,[.val (.int .i64 y0)]⟩)),(7,(.one ⟨false,[.val (.int .i64 y1)]⟩)),(6,(.one ⟨false,[.ref 0]⟩)),(3,(.one ⟨false,[.ref 1]⟩))]
def adZ:ie→List (Nat×Entry)
 |(_,_,y2,y3)=> [(0,(.row false 169 adk y2)),(1,(.row true 2 ajn y3))]
def aej:Nat→ie→List (Nat×SV)
 |0,(_,_,_,_)=> [(2,(.one ⟨false,[.val (.bool false)]⟩))]
 |_,(_,_,_,_)=> []
def aef:Nat→ie→List (Nat×Entry)
 |0,(_,_,y2,y3)=> [(0,(.row false 169 adk y2)),(1,(.row true 2 ajn y3))]
 |_,(_,_,y2,y3)=> [(0,(.row false 169 adk y2)),(1,(.row true 2 ajn y3))]
def uZ:ie→LT ie
 |(y0,y1,y2,y3)=> .ite (wj y0 y1) (.need [wk y0,wl y0 y2,wm y0 y2] (.need [wn y0 y2 y3] (.ite (wo y0 y2) (.ite (wq y0 y2 y3) (.ext 0 [(0,0),(1,1)]) (.need [ws y0 y2 y3,wu y0 y2 y3] (.nrm ((rZ y0),y1,y2,(uH y0 y2 y3)) [(0,0),(1,1088)]))) (.nrm ((rZ y0),y1,y2,y3) [(0,0),(1,1)])))) (.ext 1 [(0,0),(1,1)])
def Ko(s:St):Option ie:=
 (match s.look 8 with
 |some ⟨none,.one ⟨false,[.val (.int .i64 y0)]⟩⟩=>
 (match s.look 7 with
 |some ⟨none,.one ⟨false,[.val (.int .i64 y1)]⟩⟩=>
 (match s.look 6 with
 |some ⟨none,.one ⟨false,[.ref 0]⟩⟩=>
 (match s.look 3 with
 |some ⟨none,.one ⟨false,[.ref 192]⟩⟩=>
 (match s.ent 0 with
 |some (.row false 169 (.pair (.int .i64) (.pair (.int .i64) (.int .i64))) y2)=>
 (match s.ent 192 with
 |some (.row true 2 (.int .i64) y3)=>
 some (y0,y1,y2,y3)
 |_=>none)
 |_=>none)
 |_=>none)
 |_=>none)
 |_=>none)
 |_=>none)
def bO:Lp ie where
 h:=⟨[9,10,11,5,12,13,14,15,16,17,18,2,19,20,21,22,23,3,24,8],[0],[1],[]⟩
 JL:=ad3
 JE:=adZ
 XL:=aej
 XE:=aef
 q:=fun j=>match j with | 0=> .ret | _=> .exit 0
 tags:= [0,1]
 lt:=uZ
 fuel:=fun(y0,y1,y2,y3)=>y0.natAbs + y1.natAbs + y2.length + y3.length
 fix:=fun(_,y1,y2,_) (y0,_,_,y3)=>(y0,y1,y2,y3)
 σ:= [(0,0),(1,192)]
 rd:=Ko
theorem abU:LoopOk prog (fun k=>Nat.blt k Tryz.f65.ntmps) bO.F (aK f65 0):=by
 refine Lp.ok (tbl:= [aG,PF.lend aG,PF.fz aG]) (lf:= []) aO bO (by kernel_rfl) (LOk.nil _) (fun _=>rfl) (fun j _=>by unfold bO;match j with | 0=>rfl | _ + 1=>rfl) ?_ ?_ ?_ ?_ (fun _=>rfl) ?_
 ·rintro⟨y0,y1,y2,y3⟩;kernel_rfl
 ·rintro⟨y0,y1,y2,y3⟩;kernel_rfl
 ·intro s x h
  have h:Ko s=some x:=h
  unfold Ko at h
  repeat' split at h
  all_goals cases h
  exact⟨aa (by assumption) rfl (aa (by assumption) rfl (aa (by assumption) rfl (aa (by assumption) rfl (rfl)))),ab rfl (by assumption) rfl (ab rfl (by assumption) rfl (rfl))⟩
 ·rintro⟨y0,y1,y2,y3⟩;kernel_rfl
 ·rintro⟨y0,y1,y2,y3⟩ z;exact(And.intro (And.intro (And.intro trivial rfl) rfl) trivial)
section
variable (x0:List (Int×Int×Int))
def Hn:Int×Int×List (Int×Int×Int)×List Int:=((0:Int),(↑x0.length:Int),x0,[])
def JK:Bool:=bif Nat.beq ((Lp.res bO (Hn x0)).1) (0:Nat)then false else true
def JM:Bool:=allT [Lp.fin bO (Hn x0)]
end
def Zj:List SV→List Entry→Option Out
 | [.one ⟨false,[.ref 0]⟩],[.row false 169 (.pair (.int .i64) (.pair (.int .i64) (.int .i64))) x0]=>some ⟨.one ⟨false,[.val (.bool (JK x0))]⟩,[.row false 169 adk x0],[],[JM x0]⟩
 |_,_=>none
def QR:PF prog:=PF.ofG prog [aG,PF.lend aG,PF.fz aG] [bO.F] aO 65 f65 func65 (LOk.fnT (l:= [aK f65 0]) (by kernel_rfl) (.cons abU (.nil _))) Zj (by
 intro vs es r h;unfold Zj at h;split at h
 ·cases h;kernel_rfl
 ·cases h)
abbrev gd:=Int×Int×List (Int×(Int×Int))×List Int
section
variable (y0 y1:Int)(y2:List (Int×(Int×Int)))(y3:List Int)
def cP:Int×Int×Int:=Option.getD y2[Int.toNat y0]? ((0:Int),(0:Int),(0:Int))
def ox:Bool:=(cP y0 y2).2.2==(1:Int)
def uI:Bool:=ltI y0 y1
def uJ:Bool:=leI (0:Int) y0
def uK:Bool:=ltI y0 (↑y2.length:Int)
def uL:Bool:=ltN y0.toNat y2.length
def uM:Bool:= !ox y0 y2||dK ((cP y0 y2).1) y3
def uN:Bool:=ox y0 y2
def uO:Bool:=ba ((cP y0 y2).1) y3
def uP:Bool:=leN (List.length y3 + List.length [(cP y0 y2).1]) (9223372036854775807:Nat)
def uQ:Bool:=leN ((List.length y3 + List.length [(cP y0 y2).1]) * (8:Nat)) (140737488355328:Nat)
def qC:Int:=IntKind.wrap .i64 (y0 + (1:Int))
def tw:List Int:=y3++ [(cP y0 y2).1]
end
def acW:gd→List (Nat×SV)
 |(y0,y1,_,_)=> [(8,(.one ⟨false,[.val (.int .i64 y0)]⟩)),(7,(.one ⟨false,[.val (.int .i64 y1)]⟩)),(6,(.one ⟨false,[.ref 0]⟩)),(3,(.one ⟨false,[.ref 1]⟩))]
def acO:gd→List (Nat×Entry)
 |(_,_,y2,y3)=> [(0,(.row false 100 adk y2)),(1,(.row true 2 ajn y3))]
def adc:Nat→gd→List (Nat×SV)
 |0,(_,_,_,_)=> [(2,(.one ⟨false,[.val (.bool false)]⟩))]
 |_,(_,_,_,_)=> []
def ac4:Nat→gd→List (Nat×Entry)
 |0,(_,_,y2,y3)=> [(0,(.row false 100 adk y2)),(1,(.row true 2 ajn y3))]
 |_,(_,_,y2,y3)=> [(0,(.row false 100 adk y2)),(1,(.row true 2 ajn y3))]
def tF:gd→LT gd
 |(y0,y1,y2,y3)=> .ite (uI y0 y1) (.need [uJ y0,uK y0 y2,uL y0 y2] (.need [uM y0 y2 y3] (.ite (uN y0 y2) (.ite (uO y0 y2 y3) (.ext 0 [(0,0),(1,1)]) (.need [uP y0 y2 y3,uQ y0 y2 y3] (.nrm ((qC y0),y1,y2,(tw y0 y2 y3)) [(0,0),(1,1088)]))) (.nrm ((qC y0),y1,y2,y3) [(0,0),(1,1)])))) (.ext 1 [(0,0),(1,1)])
def IL(s:St):Option gd:=
 (match s.look 8 with
 |some ⟨none,.one ⟨false,[.val (.int .i64 y0)]⟩⟩=>
 (match s.look 7 with
 |some ⟨none,.one ⟨false,[.val (.int .i64 y1)]⟩⟩=>
 (match s.look 6 with
 |some ⟨none,.one ⟨false,[.ref 0]⟩⟩=>
 (match s.look 3 with
 |some ⟨none,.one ⟨false,[.ref 192]⟩⟩=>
 (match s.ent 0 with
 |some (.row false 100 (.pair (.int .i64) (.pair (.int .i64) (.int .i64))) y2)=>
 (match s.ent 192 with
 |some (.row true 2 (.int .i64) y3)=>
 some (y0,y1,y2,y3)
 |_=>none)
 |_=>none)
 |_=>none)
 |_=>none)
 |_=>none)
 |_=>none)
def bH:Lp gd where
 h:=⟨[9,10,11,5,12,13,14,15,16,17,18,2,19,20,21,22,23,3,24,8],[0],[1],[]⟩
 JL:=acW
 JE:=acO
 XL:=adc
 XE:=ac4
 q:=fun j=>match j with | 0=> .ret | _=> .exit 0
 tags:= [0,1]
 lt:=tF
 fuel:=fun(y0,y1,y2,y3)=>y0.natAbs + y1.natAbs + y2.length + y3.length
 fix:=fun(_,y1,y2,_) (y0,_,_,y3)=>(y0,y1,y2,y3)
 σ:= [(0,0),(1,192)]
 rd:=IL
theorem aaI:LoopOk prog (fun k=>Nat.blt k Tryz.f66.ntmps) bH.F (aK f66 0):=by
 refine Lp.ok (tbl:= [aG,PF.lend aG,PF.fz aG]) (lf:= []) aO bH (by kernel_rfl) (LOk.nil _) (fun _=>rfl) (fun j _=>by unfold bH;match j with | 0=>rfl | _ + 1=>rfl) ?_ ?_ ?_ ?_ (fun _=>rfl) ?_
 ·rintro⟨y0,y1,y2,y3⟩;kernel_rfl
 ·rintro⟨y0,y1,y2,y3⟩;kernel_rfl
 ·intro s x h
  have h:IL s=some x:=h
  unfold IL at h
  repeat' split at h
  all_goals cases h
  exact⟨aa (by assumption) rfl (aa (by assumption) rfl (aa (by assumption) rfl (aa (by assumption) rfl (rfl)))),ab rfl (by assumption) rfl (ab rfl (by assumption) rfl (rfl))⟩
 ·rintro⟨y0,y1,y2,y3⟩;kernel_rfl
 ·rintro⟨y0,y1,y2,y3⟩ z;exact(And.intro (And.intro (And.intro trivial rfl) rfl) trivial)
section
variable (x0:List (Int×Int×Int))
def Gw:Int×Int×List (Int×Int×Int)×List Int:=((0:Int),(↑x0.length:Int),x0,[])
def Hq:Bool:=bif Nat.beq ((Lp.res bH (Gw x0)).1) (0:Nat)then false else true
def Hr:Bool:=allT [Lp.fin bH (Gw x0)]
end
def XN:List SV→List Entry→Option Out
 | [.one ⟨false,[.ref 0]⟩],[.row false 100 (.pair (.int .i64) (.pair (.int .i64) (.int .i64))) x0]=>some ⟨.one ⟨false,[.val (.bool (Hq x0))]⟩,[.row false 100 adk x0],[],[Hr x0]⟩
 |_,_=>none
def PB:PF prog:=PF.ofG prog [aG,PF.lend aG,PF.fz aG] [bH.F] aO 66 f66 func66 (LOk.fnT (l:= [aK f66 0]) (by kernel_rfl) (.cons aaI (.nil _))) XN (by
 intro vs es r h;unfold XN at h;split at h
 ·cases h;kernel_rfl
 ·cases h)
section
variable (x0 x1 x2:Int)(x3:List Int)(x4:List (Int×Int×Int))(x5:List (List Int))(x6:List (Int×Int×Int))(x7 x8:List (Int×Int))
def LP:Bool:=bif kO x0 x3 x4 x5 x6 x1 x7 x8 x2 then JK x4 else false
def wi:Bool:=bif LP x0 x1 x2 x3 x4 x5 x6 x7 x8 then Hq x6 else false
def Hb:Bool:=allT [rV (9223372036854775807:Nat) x3 x4 x5 x6 x7 x8,!(kO x0 x3 x4 x5 x6 x1 x7 x8 x2&&true)||JM x4,!(LP x0 x1 x2 x3 x4 x5 x6 x7 x8&&true)||Hr x6]
end
def ab0:List SV→List Entry→Option Out
 | [.one ⟨true,[.val (.int .i64 x0),.ref 0,.ref 1,.ref 2,.ref 3,.val (.int .i64 x1),.ref 4,.ref 5,.val (.int .i64 x2)]⟩],[.row false 2 (.int .i64) x3,.row false 169 (.pair (.int .i64) (.pair (.int .i64) (.int .i64))) x4,.row false 24 (.sl 2 (.int .i64)) x5,.row false 100 (.pair (.int .i64) (.pair (.int .i64) (.int .i64))) x6,.row false 173 (.pair (.int .i64) (.int .i64)) x7,.row false 176 (.pair (.int .i64) (.int .i64)) x8]=>some ⟨.one ⟨false,[.val (.bool (wi x0 x1 x2 x3 x4 x5 x6 x7 x8))]⟩,[.row false 2 ajn x3,.row false 169 adk x4,.row false 24 (CTy.sl (2:TypeId) ajn) x5,.row false 100 adk x6,.row false 173 aiq x7,.row false 176 aiq x8],[],[Hb x0 x1 x2 x3 x4 x5 x6 x7 x8]⟩
 |_,_=>none
def Cc:PF prog:=PF.ofG prog [rM,PF.lend rM,PF.fz rM,QR,PF.lend QR,PF.fz QR,PB,PF.lend PB,PF.fz PB] [] aO 17 f17 func17 (fun c _=>LOk.nil c) ab0 (by
 intro vs es r h;unfold ab0 at h;split at h
 ·cases h;kernel_rfl
 ·cases h)
abbrev xQ:=Int×List (Int×(Int×((Int×Int)×(Int×(Int×Bool)))))×Int×Int×Int×List Int×List Int×List (Int×(Int×Int))×List (List Int)×List (Int×(Int×Int))×List (Int×Int)×List (Int×Int)
def QC(y0:Int)(y1:List (Int×(Int×((Int×Int)×(Int×(Int×Bool)))))):Int×Int×(Int×Int)×Int×Int×Bool:=Option.getD y1[Int.toNat y0]? ((0:Int),(0:Int),((0:Int),(0:Int)),(0:Int),(0:Int),false)
def QD(y0:Int)(y1:List (Int×(Int×((Int×Int)×(Int×(Int×Bool)))))):Int×(Int×Int)×Int×Int×Bool:=(QC y0 y1).2
def Eh(y0:Int)(y1:List (Int×(Int×((Int×Int)×(Int×(Int×Bool)))))):(Int×Int)×Int×Int×Bool:=(QD y0 y1).2
def QE(y0:Int)(y1:List (Int×(Int×((Int×Int)×(Int×(Int×Bool)))))):Int×Bool:=(Eh y0 y1).2.2
def bc(y0:Int)(y1:List (Int×(Int×((Int×Int)×(Int×(Int×Bool)))))):Int×Int×(Int×Int)×Int×Int×Bool:=((QC y0 y1).1,(QD y0 y1).1,((Eh y0 y1).1.1,(Eh y0 y1).1.2),((Eh y0 y1).2).1,(QE y0 y1).1,(QE y0 y1).2)
def QF(y0:Int)(y1:List (Int×(Int×((Int×Int)×(Int×(Int×Bool))))))(y2 y3 y4:Int)(y6:List Int)(y7:List (Int×(Int×Int)))(y8:List (List Int))(y9:List (Int×(Int×Int)))(y10 y11:List (Int×Int)):Bool:=rrC y2 y3 y4 y6 y7 y8 y9 y10 y11 [bc y0 y1]!=(0:Int)
def Kd(y0:Int)(y1:List (Int×(Int×((Int×Int)×(Int×(Int×Bool))))))(y2 y3 y4:Int)(y6:List Int)(y7:List (Int×(Int×Int)))(y8:List (List Int))(y9:List (Int×(Int×Int)))(y10 y11:List (Int×Int)):Bool:= !(!QF y0 y1 y2 y3 y4 y6 y7 y8 y9 y10 y11&&true)
def QG(y0:Int)(y1:List (Int×(Int×((Int×Int)×(Int×(Int×Bool))))))(y2 y3 y4:Int)(y5 y6:List Int)(y7:List (Int×(Int×Int)))(y8:List (List Int))(y9:List (Int×(Int×Int)))(y10 y11:List (Int×Int)):Bool:=bif QF y0 y1 y2 y3 y4 y6 y7 y8 y9 y10 y11 then true else srV y2 y3 y4 y6 y7 y8 y9 y10 y11 (bc y0 y1)!=Option.getD y5[Int.toNat y0]? (0:Int)
def sb(y0:Int)(y1:List (Int×(Int×((Int×Int)×(Int×(Int×Bool))))))(y2 y3 y4:Int)(y5 y6:List Int)(y7:List (Int×(Int×Int)))(y8:List (List Int))(y9:List (Int×(Int×Int)))(y10 y11:List (Int×Int)):Bool:= !QG y0 y1 y2 y3 y4 y5 y6 y7 y8 y9 y10 y11&&true
def QH(y0:Int)(y1:List (Int×(Int×((Int×Int)×(Int×(Int×Bool))))))(y2 y3 y4:Int)(y6:List Int)(y7:List (Int×(Int×Int)))(y8:List (List Int))(y9:List (Int×(Int×Int)))(y10 y11:List (Int×Int)):Int:=rrN y2 y3 y4 y6 y7 y8 y9 y10 y11 [bc y0 y1]
def Oc(y0:Int)(y1:List (Int×(Int×((Int×Int)×(Int×(Int×Bool))))))(y2 y3 y4:Int)(y6:List Int)(y7:List (Int×(Int×Int)))(y8:List (List Int))(y9:List (Int×(Int×Int)))(y10 y11:List (Int×Int)):Int:=rrM y2 y3 y4 y6 y7 y8 y9 y10 y11 [bc y0 y1]
def Od(y0:Int)(y1:List (Int×(Int×((Int×Int)×(Int×(Int×Bool))))))(y2 y3 y4:Int)(y6:List Int)(y7:List (Int×(Int×Int)))(y8:List (List Int))(y9:List (Int×(Int×Int)))(y10 y11:List (Int×Int)):Int:=rrD y2 y3 y4 y6 y7 y8 y9 y10 y11 [bc y0 y1]
def Su(y0:Int)(y1:List (Int×(Int×((Int×Int)×(Int×(Int×Bool)))))):Bool:=ltI y0 (↑y1.length:Int)
def agn(y0:Int):Bool:=leI (0:Int) y0
def ago(y0:Int)(y1:List (Int×(Int×((Int×Int)×(Int×(Int×Bool)))))):Bool:=ltN y0.toNat y1.length
def agp(y6:List Int)(y7:List (Int×(Int×Int)))(y8:List (List Int))(y9:List (Int×(Int×Int)))(y10 y11:List (Int×Int)):Bool:=rV (9223372036854775807:Nat) y6 y7 y8 y9 y10 y11
def agq(y0:Int)(y1:List (Int×(Int×((Int×Int)×(Int×(Int×Bool))))))(y2 y3 y4:Int)(y6:List Int)(y7:List (Int×(Int×Int)))(y8:List (List Int))(y9:List (Int×(Int×Int)))(y10 y11:List (Int×Int)):Bool:=Kd y0 y1 y2 y3 y4 y6 y7 y8 y9 y10 y11||leI (0:Int) y0
def agr(y0:Int)(y1:List (Int×(Int×((Int×Int)×(Int×(Int×Bool))))))(y2 y3 y4:Int)(y5 y6:List Int)(y7:List (Int×(Int×Int)))(y8:List (List Int))(y9:List (Int×(Int×Int)))(y10 y11:List (Int×Int)):Bool:=Kd y0 y1 y2 y3 y4 y6 y7 y8 y9 y10 y11||ltI y0 (↑y5.length:Int)
def ags(y0:Int)(y1:List (Int×(Int×((Int×Int)×(Int×(Int×Bool))))))(y2 y3 y4:Int)(y5 y6:List Int)(y7:List (Int×(Int×Int)))(y8:List (List Int))(y9:List (Int×(Int×Int)))(y10 y11:List (Int×Int)):Bool:=Kd y0 y1 y2 y3 y4 y6 y7 y8 y9 y10 y11||ltN y0.toNat y5.length
def agt(y0:Int)(y1:List (Int×(Int×((Int×Int)×(Int×(Int×Bool))))))(y2 y3 y4:Int)(y5 y6:List Int)(y7:List (Int×(Int×Int)))(y8:List (List Int))(y9:List (Int×(Int×Int)))(y10 y11:List (Int×Int)):Bool:= !sb y0 y1 y2 y3 y4 y5 y6 y7 y8 y9 y10 y11||rV (9223372036854775807:Nat) (rrP y2 y3 y4 y6 y7 y8 y9 y10 y11 [bc y0 y1]) (rrF y2 y3 y4 y6 y7 y8 y9 y10 y11 [bc y0 y1]) (rrR y2 y3 y4 y6 y7 y8 y9 y10 y11 [bc y0 y1]) (rrL y2 y3 y4 y6 y7 y8 y9 y10 y11 [bc y0 y1]) (RJ y2 y3 y4 y6 y7 y8 y9 y10 y11 [bc y0 y1]) (RI y2 y3 y4 y6 y7 y8 y9 y10 y11 [bc y0 y1])
def agu(y0:Int)(y1:List (Int×(Int×((Int×Int)×(Int×(Int×Bool))))))(y2 y3 y4:Int)(y5 y6:List Int)(y7:List (Int×(Int×Int)))(y8:List (List Int))(y9:List (Int×(Int×Int)))(y10 y11:List (Int×Int)):Bool:=bif QG y0 y1 y2 y3 y4 y5 y6 y7 y8 y9 y10 y11 then true else !SA (QH y0 y1 y2 y3 y4 y6 y7 y8 y9 y10 y11) (rrP y2 y3 y4 y6 y7 y8 y9 y10 y11 [bc y0 y1]) (rrF y2 y3 y4 y6 y7 y8 y9 y10 y11 [bc y0 y1]) (rrR y2 y3 y4 y6 y7 y8 y9 y10 y11 [bc y0 y1]) (rrL y2 y3 y4 y6 y7 y8 y9 y10 y11 [bc y0 y1]) (Oc y0 y1 y2 y3 y4 y6 y7 y8 y9 y10 y11) (RJ y2 y3 y4 y6 y7 y8 y9 y10 y11 [bc y0 y1]) (RI y2 y3 y4 y6 y7 y8 y9 y10 y11 [bc y0 y1]) (Od y0 y1 y2 y3 y4 y6 y7 y8 y9 y10 y11)
def agv(y0:Int):Int:=IntKind.wrap .i64 (y0 + (1:Int))
def aeA(y0:Int)(y1:List (Int×(Int×((Int×Int)×(Int×(Int×Bool))))))(y2 y3 y4:Int)(y6:List Int)(y7:List (Int×(Int×Int)))(y8:List (List Int))(y9:List (Int×(Int×Int)))(y10 y11:List (Int×Int)):Int:=QH y0 y1 y2 y3 y4 y6 y7 y8 y9 y10 y11
def aeB(y0:Int)(y1:List (Int×(Int×((Int×Int)×(Int×(Int×Bool))))))(y2 y3 y4:Int)(y6:List Int)(y7:List (Int×(Int×Int)))(y8:List (List Int))(y9:List (Int×(Int×Int)))(y10 y11:List (Int×Int)):Int:=Oc y0 y1 y2 y3 y4 y6 y7 y8 y9 y10 y11
def aeC(y0:Int)(y1:List (Int×(Int×((Int×Int)×(Int×(Int×Bool))))))(y2 y3 y4:Int)(y6:List Int)(y7:List (Int×(Int×Int)))(y8:List (List Int))(y9:List (Int×(Int×Int)))(y10 y11:List (Int×Int)):Int:=Od y0 y1 y2 y3 y4 y6 y7 y8 y9 y10 y11
def aeD(y0:Int)(y1:List (Int×(Int×((Int×Int)×(Int×(Int×Bool))))))(y2 y3 y4:Int)(y5 y6:List Int)(y7:List (Int×(Int×Int)))(y8:List (List Int))(y9:List (Int×(Int×Int)))(y10 y11:List (Int×Int)):List Int:=bif sb y0 y1 y2 y3 y4 y5 y6 y7 y8 y9 y10 y11 then rrP y2 y3 y4 y6 y7 y8 y9 y10 y11 [bc y0 y1]else rrP y2 y3 y4 y6 y7 y8 y9 y10 y11 [bc y0 y1]
def aeE(y0:Int)(y1:List (Int×(Int×((Int×Int)×(Int×(Int×Bool))))))(y2 y3 y4:Int)(y5 y6:List Int)(y7:List (Int×(Int×Int)))(y8:List (List Int))(y9:List (Int×(Int×Int)))(y10 y11:List (Int×Int)):List (Int×(Int×Int)):=bif sb y0 y1 y2 y3 y4 y5 y6 y7 y8 y9 y10 y11 then rrF y2 y3 y4 y6 y7 y8 y9 y10 y11 [bc y0 y1]else rrF y2 y3 y4 y6 y7 y8 y9 y10 y11 [bc y0 y1]
def aeF(y0:Int)(y1:List (Int×(Int×((Int×Int)×(Int×(Int×Bool))))))(y2 y3 y4:Int)(y5 y6:List Int)(y7:List (Int×(Int×Int)))(y8:List (List Int))(y9:List (Int×(Int×Int)))(y10 y11:List (Int×Int)):List (List Int):=bif sb y0 y1 y2 y3 y4 y5 y6 y7 y8 y9 y10 y11 then rrR y2 y3 y4 y6 y7 y8 y9 y10 y11 [bc y0 y1]else rrR y2 y3 y4 y6 y7 y8 y9 y10 y11 [bc y0 y1]
def aeG(y0:Int)(y1:List (Int×(Int×((Int×Int)×(Int×(Int×Bool))))))(y2 y3 y4:Int)(y5 y6:List Int)(y7:List (Int×(Int×Int)))(y8:List (List Int))(y9:List (Int×(Int×Int)))(y10 y11:List (Int×Int)):List (Int×(Int×Int)):=bif sb y0 y1 y2 y3 y4 y5 y6 y7 y8 y9 y10 y11 then rrL y2 y3 y4 y6 y7 y8 y9 y10 y11 [bc y0 y1]else rrL y2 y3 y4 y6 y7 y8 y9 y10 y11 [bc y0 y1]
def aeH(y0:Int)(y1:List (Int×(Int×((Int×Int)×(Int×(Int×Bool))))))(y2 y3 y4:Int)(y5 y6:List Int)(y7:List (Int×(Int×Int)))(y8:List (List Int))(y9:List (Int×(Int×Int)))(y10 y11:List (Int×Int)):List (Int×Int):=bif sb y0 y1 y2 y3 y4 y5 y6 y7 y8 y9 y10 y11 then RJ y2 y3 y4 y6 y7 y8 y9 y10 y11 [bc y0 y1]else RJ y2 y3 y4 y6 y7 y8 y9 y10 y11 [bc y0 y1]
def aeI(y0:Int)(y1:List (Int×(Int×((Int×Int)×(Int×(Int×Bool))))))(y2 y3 y4:Int)(y5 y6:List Int)(y7:List (Int×(Int×Int)))(y8:List (List Int))(y9:List (Int×(Int×Int)))(y10 y11:List (Int×Int)):List (Int×Int):=bif sb y0 y1 y2 y3 y4 y5 y6 y7 y8 y9 y10 y11 then RI y2 y3 y4 y6 y7 y8 y9 y10 y11 [bc y0 y1]else RI y2 y3 y4 y6 y7 y8 y9 y10 y11 [bc y0 y1]
def anH:xQ→List (Nat×SV)
 |(y0,_,_,_,_,_,_,_,_,_,_,_)=> [(12,(.one ⟨false,[.val (.int .i64 y0)]⟩)),(4,(.one ⟨false,[.ref 0]⟩)),(11,(.one ⟨false,[.ptr 1 0]⟩)),(9,(.one ⟨false,[.ref 2]⟩))]
def anG:xQ→List (Nat×Entry)
 |(_,y1,y2,y3,y4,y5,y6,y7,y8,y9,y10,y11)=> [(0,(.row false 49 abL y1)),(1,(.box 33 [.val (.int .i64 y2),.ref 3,.ref 4,.ref 5,.ref 6,.val (.int .i64 y3),.ref 7,.ref 8,.val (.int .i64 y4)])),(2,(.row true 2 ajn y5)),(3,(.row false 2 ajn y6)),(4,(.row false 169 adk y7)),(5,(.row false 24 (CTy.sl (2:Nat) ajn) y8)),(6,(.row false 100 adk y9)),(7,(.row false 173 aiq y10)),(8,(.row false 176 aiq y11))]
def anK:Nat→xQ→List (Nat×SV)
 |0,(_,_,_,_,_,_,_,_,_,_,_,_)=> [(2,(.one ⟨false,[.val (.bool false)]⟩))]
 |_,(_,_,_,_,_,_,_,_,_,_,_,_)=> []
def anJ:Nat→xQ→List (Nat×Entry)
 |0,(_,y1,y2,y3,y4,y5,y6,y7,y8,y9,y10,y11)=> [(0,(.row false 49 abL y1)),(1,(.box 33 [.val (.int .i64 y2),.ref 3,.ref 4,.ref 5,.ref 6,.val (.int .i64 y3),.ref 7,.ref 8,.val (.int .i64 y4)])),(2,(.row true 2 ajn y5)),(3,(.row false 2 ajn y6)),(4,(.row false 169 adk y7)),(5,(.row false 24 (CTy.sl (2:Nat) ajn) y8)),(6,(.row false 100 adk y9)),(7,(.row false 173 aiq y10)),(8,(.row false 176 aiq y11))]
 |_,(_,y1,y2,y3,y4,y5,y6,y7,y8,y9,y10,y11)=> [(0,(.row false 49 abL y1)),(1,(.box 33 [.val (.int .i64 y2),.ref 3,.ref 4,.ref 5,.ref 6,.val (.int .i64 y3),.ref 7,.ref 8,.val (.int .i64 y4)])),(2,(.row true 2 ajn y5)),(3,(.row false 2 ajn y6)),(4,(.row false 169 adk y7)),(5,(.row false 24 (CTy.sl (2:Nat) ajn) y8)),(6,(.row false 100 adk y9)),(7,(.row false 173 aiq y10)),(8,(.row false 176 aiq y11))]
def Xf:xQ→LT xQ
 |(y0,y1,y2,y3,y4,y5,y6,y7,y8,y9,y10,y11)=> .ite (Su y0 y1) (.need [agn y0,Su y0 y1,ago y0 y1,agp y6 y7 y8 y9 y10 y11] (.need [agq y0 y1 y2 y3 y4 y6 y7 y8 y9 y10 y11,agr y0 y1 y2 y3 y4 y5 y6 y7 y8 y9 y10 y11,ags y0 y1 y2 y3 y4 y5 y6 y7 y8 y9 y10 y11,agt y0 y1 y2 y3 y4 y5 y6 y7 y8 y9 y10 y11] (.ite (agu y0 y1 y2 y3 y4 y5 y6 y7 y8 y9 y10 y11) (.ext 0 [(0,0),(1,1),(2,2),(3,3),(4,4),(5,5),(6,6),(7,7),(8,8)]) (.nrm ((agv y0),y1,aeA y0 y1 y2 y3 y4 y6 y7 y8 y9 y10 y11,aeB y0 y1 y2 y3 y4 y6 y7 y8 y9 y10 y11,aeC y0 y1 y2 y3 y4 y6 y7 y8 y9 y10 y11,y5,aeD y0 y1 y2 y3 y4 y5 y6 y7 y8 y9 y10 y11,aeE y0 y1 y2 y3 y4 y5 y6 y7 y8 y9 y10 y11,aeF y0 y1 y2 y3 y4 y5 y6 y7 y8 y9 y10 y11,aeG y0 y1 y2 y3 y4 y5 y6 y7 y8 y9 y10 y11,aeH y0 y1 y2 y3 y4 y5 y6 y7 y8 y9 y10 y11,(aeI y0 y1 y2 y3 y4 y5 y6 y7 y8 y9 y10 y11)) [(0,0),(1,1),(2,2),(3,640),(4,641),(5,642),(6,643),(7,644),(8,645)])))) (.ext 1 [(0,0),(1,1),(2,2),(3,3),(4,4),(5,5),(6,6),(7,7),(8,8)])
def Xl(s:St):Option xQ:=
 (match s.look 12 with
 |some ⟨none,.one ⟨false,[.val (.int .i64 y0)]⟩⟩=>
 (match s.look 4 with
 |some ⟨none,.one ⟨false,[.ref 390]⟩⟩=>
 (match s.look 11 with
 |some ⟨none,.one ⟨false,[.ptr 4032 0]⟩⟩=>
 (match s.look 9 with
 |some ⟨none,.one ⟨false,[.ref 1670]⟩⟩=>
 (match s.ent 390 with
 |some (.row false 49 (.pair (.int .i64) (.pair (.int .i64) (.pair (.pair (.int .i64) (.int .i64)) (.pair (.int .i64) (.pair (.int .i64) .bool))))) y1)=>
 (match s.ent 4032 with
 |some (.box 33 [.val (.int .i64 y2),.ref 4800,.ref 5440,.ref 6080,.ref 6720,.val (.int .i64 y3),.ref 7360,.ref 8000,.val (.int .i64 y4)])=>
 (match s.ent 1670 with
 |some (.row true 2 (.int .i64) y5)=>
 (match s.ent 4800 with
 |some (.row false 2 (.int .i64) y6)=>
 (match s.ent 5440 with
 |some (.row false 169 (.pair (.int .i64) (.pair (.int .i64) (.int .i64))) y7)=>
 (match s.ent 6080 with
 |some (.row false 24 (.sl 2 (.int .i64)) y8)=>
 (match s.ent 6720 with
 |some (.row false 100 (.pair (.int .i64) (.pair (.int .i64) (.int .i64))) y9)=>
 (match s.ent 7360 with
 |some (.row false 173 (.pair (.int .i64) (.int .i64)) y10)=>
 (match s.ent 8000 with
 |some (.row false 176 (.pair (.int .i64) (.int .i64)) y11)=>
 some (y0,y1,y2,y3,y4,y5,y6,y7,y8,y9,y10,y11)
 |_=>none)
 |_=>none)
 |_=>none)
 |_=>none)
 |_=>none)
 |_=>none)
 |_=>none)
 |_=>none)
 |_=>none)
 |_=>none)
 |_=>none)
 |_=>none)
 |_=>none)
def gJ:Lp xQ where
 h:=⟨[65,66,67,68,72,73,74,75,76,77,71,78,79,80,13,14,15,81,82,83,84,85,86,87,88,89,90,91,92,93,94,95,2,96,69,70,12],[0,1,2],[3,4,5,6,7,8],[]⟩
 JL:=anH
 JE:=anG
 XL:=anK
 XE:=anJ
 q:=fun j=>match j with | 0=> .ret | _=> .exit 0
 tags:= [0,1]
 lt:=Xf
 fuel:=fun(y0,y1,y2,y3,y4,y5,y6,y7,y8,y9,y10,y11)=>y0.natAbs + y1.length + y2.natAbs + y3.natAbs + y4.natAbs + y5.length + y6.length + y7.length + y8.length + y9.length + y10.length + y11.length
 fix:=fun(_,y1,_,_,_,y5,_,_,_,_,_,_) (y0,_,y2,y3,y4,_,y6,y7,y8,y9,y10,y11)=>(y0,y1,y2,y3,y4,y5,y6,y7,y8,y9,y10,y11)
 σ:= [(0,390),(1,4032),(2,1670),(3,4800),(4,5440),(5,6080),(6,6720),(7,7360),(8,8000)]
 rd:=Xl
 fz:= [1]
theorem alG:LoopOk prog (fun k=>Nat.blt k Tryz.f3.ntmps) gJ.F (aK f3 0):=by
 refine Lp.ok (tbl:= [Xj,PF.lend Xj,PF.fz Xj,zd,PF.lend zd,PF.fz zd,Ki,PF.lend Ki,PF.fz Ki,Kj,PF.lend Kj,PF.fz Kj,eN,PF.lend eN,PF.fz eN,Cb,PF.lend Cb,PF.fz Cb,GO,PF.lend GO,PF.fz GO,Cc,PF.lend Cc,PF.fz Cc,GP,PF.lend GP,PF.fz GP]) (lf:= []) aO gJ (by kernel_rfl) (LOk.nil _) (fun _=>rfl) (fun j _=>by unfold gJ;match j with | 0=>rfl | _ + 1=>rfl) ?_ ?_ ?_ ?_ (fun _=>rfl) ?_
 ·rintro⟨y0,y1,y2,y3,y4,y5,y6,y7,y8,y9,y10,y11⟩;kernel_rfl
 ·rintro⟨y0,y1,y2,y3,y4,y5,y6,y7,y8,y9,y10,y11⟩;kernel_rfl
 ·intro s x h
  have h:Xl s=some x:=h
  unfold Xl at h
  repeat' split at h
  all_goals cases h
  exact⟨aa (by assumption) rfl (aa (by assumption) rfl (aa (by assumption) rfl (aa (by assumption) rfl (rfl)))),ab rfl (by assumption) rfl (ab rfl (by assumption) rfl (ab rfl (by assumption) rfl (ab rfl (by assumption) rfl (ab rfl (by assumption) rfl (ab rfl (by assumption) rfl (ab rfl (by assumption) rfl (ab rfl (by assumption) rfl (ab rfl (by assumption) rfl (rfl)))))))))⟩
 ·rintro⟨y0,y1,y2,y3,y4,y5,y6,y7,y8,y9,y10,y11⟩;kernel_rfl
 ·rintro⟨y0,y1,y2,y3,y4,y5,y6,y7,y8,y9,y10,y11⟩ z;exact(And.intro (And.intro trivial rfl) trivial)
section
variable (x0:List Int)
def vZ:Int:=rrC (al x0) (am x0) (ao x0) (af x0) (ag x0) (ah x0) (ai x0) (aj x0) (ak x0) (aq x0)
def wa:Bool:=bif vZ x0 !=vZ x0 then true else !eqL (rrV (al x0) (am x0) (ao x0) (af x0) (ag x0) (ah x0) (ai x0) (aj x0) (ak x0) (aq x0)) (rrV (al x0) (am x0) (ao x0) (af x0) (ag x0) (ah x0) (ai x0) (aj x0) (ak x0) (aq x0))
def Nf:Int:=rrN (al x0) (am x0) (ao x0) (af x0) (ag x0) (ah x0) (ai x0) (aj x0) (ak x0) (aq x0)
def Ng:Int:=rrM (al x0) (am x0) (ao x0) (af x0) (ag x0) (ah x0) (ai x0) (aj x0) (ak x0) (aq x0)
def Nh:Int:=rrD (al x0) (am x0) (ao x0) (af x0) (ag x0) (ah x0) (ai x0) (aj x0) (ak x0) (aq x0)
def Ea:Bool:=bif wa x0 then true else !wB (Nf x0) (Ng x0) (Nh x0) (Nf x0) (Ng x0) (Nh x0) (rrP (al x0) (am x0) (ao x0) (af x0) (ag x0) (ah x0) (ai x0) (aj x0) (ak x0) (aq x0)) (rrF (al x0) (am x0) (ao x0) (af x0) (ag x0) (ah x0) (ai x0) (aj x0) (ak x0) (aq x0)) (rrR (al x0) (am x0) (ao x0) (af x0) (ag x0) (ah x0) (ai x0) (aj x0) (ak x0) (aq x0)) (rrL (al x0) (am x0) (ao x0) (af x0) (ag x0) (ah x0) (ai x0) (aj x0) (ak x0) (aq x0)) (RJ (al x0) (am x0) (ao x0) (af x0) (ag x0) (ah x0) (ai x0) (aj x0) (ak x0) (aq x0)) (RI (al x0) (am x0) (ao x0) (af x0) (ag x0) (ah x0) (ai x0) (aj x0) (ak x0) (aq x0)) (rrP (al x0) (am x0) (ao x0) (af x0) (ag x0) (ah x0) (ai x0) (aj x0) (ak x0) (aq x0)) (rrF (al x0) (am x0) (ao x0) (af x0) (ag x0) (ah x0) (ai x0) (aj x0) (ak x0) (aq x0)) (rrR (al x0) (am x0) (ao x0) (af x0) (ag x0) (ah x0) (ai x0) (aj x0) (ak x0) (aq x0)) (rrL (al x0) (am x0) (ao x0) (af x0) (ag x0) (ah x0) (ai x0) (aj x0) (ak x0) (aq x0)) (RJ (al x0) (am x0) (ao x0) (af x0) (ag x0) (ah x0) (ai x0) (aj x0) (ak x0) (aq x0)) (RI (al x0) (am x0) (ao x0) (af x0) (ag x0) (ah x0) (ai x0) (aj x0) (ak x0) (aq x0))
def Xy:Bool:=bif vZ x0 !=(0:Int)then true else !SA (al x0) (af x0) (ag x0) (ah x0) (ai x0) (am x0) (aj x0) (ak x0) (ao x0)
def Ni:Bool:=bif Xy x0 then true else !wi (al x0) (am x0) (ao x0) (af x0) (ag x0) (ah x0) (ai x0) (aj x0) (ak x0)
def RB:Int×List (Int×Int×(Int×Int)×Int×Int×Bool)×Int×Int×Int×List Int×List Int×List (Int×Int×Int)×List (List Int)×List (Int×Int×Int)×List (Int×Int)×List (Int×Int):=((0:Int),aq x0,al x0,am x0,ao x0,bif !vZ x0 !=vZ x0&&true then rrV (al x0) (am x0) (ao x0) (af x0) (ag x0) (ah x0) (ai x0) (aj x0) (ak x0) (aq x0)else rrV (al x0) (am x0) (ao x0) (af x0) (ag x0) (ah x0) (ai x0) (aj x0) (ak x0) (aq x0),af x0,ag x0,ah x0,ai x0,aj x0,ak x0)
def RC:Bool:=Nat.beq ((Lp.res gJ (RB x0)).1) (0:Nat)
def Pu:List Int:=bif !wa x0&&true then rrP (al x0) (am x0) (ao x0) (af x0) (ag x0) (ah x0) (ai x0) (aj x0) (ak x0) (aq x0)else rrP (al x0) (am x0) (ao x0) (af x0) (ag x0) (ah x0) (ai x0) (aj x0) (ak x0) (aq x0)
def Pv:List (Int×Int×Int):=bif !wa x0&&true then rrF (al x0) (am x0) (ao x0) (af x0) (ag x0) (ah x0) (ai x0) (aj x0) (ak x0) (aq x0)else rrF (al x0) (am x0) (ao x0) (af x0) (ag x0) (ah x0) (ai x0) (aj x0) (ak x0) (aq x0)
def Pw:List (List Int):=bif !wa x0&&true then rrR (al x0) (am x0) (ao x0) (af x0) (ag x0) (ah x0) (ai x0) (aj x0) (ak x0) (aq x0)else rrR (al x0) (am x0) (ao x0) (af x0) (ag x0) (ah x0) (ai x0) (aj x0) (ak x0) (aq x0)
def Px:List (Int×Int×Int):=bif !wa x0&&true then rrL (al x0) (am x0) (ao x0) (af x0) (ag x0) (ah x0) (ai x0) (aj x0) (ak x0) (aq x0)else rrL (al x0) (am x0) (ao x0) (af x0) (ag x0) (ah x0) (ai x0) (aj x0) (ak x0) (aq x0)
def Py:List (Int×Int):=bif !wa x0&&true then RJ (al x0) (am x0) (ao x0) (af x0) (ag x0) (ah x0) (ai x0) (aj x0) (ak x0) (aq x0)else RJ (al x0) (am x0) (ao x0) (af x0) (ag x0) (ah x0) (ai x0) (aj x0) (ak x0) (aq x0)
def Pz:List (Int×Int):=bif !wa x0&&true then RI (al x0) (am x0) (ao x0) (af x0) (ag x0) (ah x0) (ai x0) (aj x0) (ak x0) (aq x0)else RI (al x0) (am x0) (ao x0) (af x0) (ag x0) (ah x0) (ai x0) (aj x0) (ak x0) (aq x0)
def UC:Bool:=SA (Nf x0) (Pu x0) (Pv x0) (Pw x0) (Px x0) (Ng x0) (Py x0) (Pz x0) (Nh x0)
def UD:Int×Int×Int×List Int×List Int×List (Int×Int×Int)×List (List Int)×List (Int×Int×Int)×List (Int×Int)×List (Int×Int):=(Lp.res gJ (RB x0)).2.2.2
def UE:Int×Int×List Int×List Int×List (Int×Int×Int)×List (List Int)×List (Int×Int×Int)×List (Int×Int)×List (Int×Int):=(UD x0).2
def UF:Int×List Int×List Int×List (Int×Int×Int)×List (List Int)×List (Int×Int×Int)×List (Int×Int)×List (Int×Int):=(UE x0).2
def UG:List Int×List (Int×Int×Int)×List (List Int)×List (Int×Int×Int)×List (Int×Int)×List (Int×Int):=(UF x0).2.2
def UH:List Int:=(UG x0).1
def UI:List (Int×Int×Int)×List (List Int)×List (Int×Int×Int)×List (Int×Int)×List (Int×Int):=(UG x0).2
def UJ:List (Int×Int×Int):=(UI x0).1
def UK:List (List Int)×List (Int×Int×Int)×List (Int×Int)×List (Int×Int):=(UI x0).2
def UL:List (List Int):=(UK x0).1
def UM:List (Int×Int×Int)×List (Int×Int)×List (Int×Int):=(UK x0).2
def UN:List (Int×Int×Int):=(UM x0).1
def Kc:List (Int×Int)×List (Int×Int):=(UM x0).2
def PA:Bool:=rV (9223372036854775807:Nat) (af x0) (ag x0) (ah x0) (ai x0) (aj x0) (ak x0)
def LX:Bool:=bif wA x0 then true else bif Ea x0 then false else bif Ni x0 then true else bif RC x0 then false else bif UC x0 then wB ((UD x0).1) ((UE x0).1) ((UF x0).1) (Nf x0) (Ng x0) (Nh x0) (UH x0) (UJ x0) (UL x0) (UN x0) ((Kc x0).1) ((Kc x0).2) (Pu x0) (Pv x0) (Pw x0) (Px x0) (Py x0) (Pz x0)else false
def LY:Bool:=allT [wA x0||aB (0:Int) (0:Int) x0,wA x0||PA x0,wA x0||PA x0,wA x0||(!(!vZ x0 !=vZ x0&&true)||leN (List.length (rrV (al x0) (am x0) (ao x0) (af x0) (ag x0) (ah x0) (ai x0) (aj x0) (ak x0) (aq x0))) (9223372036854775807:Nat)),wA x0||(!(!wa x0&&true)||rV (9223372036854775807:Nat) (rrP (al x0) (am x0) (ao x0) (af x0) (ag x0) (ah x0) (ai x0) (aj x0) (ak x0) (aq x0)) (rrF (al x0) (am x0) (ao x0) (af x0) (ag x0) (ah x0) (ai x0) (aj x0) (ak x0) (aq x0)) (rrR (al x0) (am x0) (ao x0) (af x0) (ag x0) (ah x0) (ai x0) (aj x0) (ak x0) (aq x0)) (rrL (al x0) (am x0) (ao x0) (af x0) (ag x0) (ah x0) (ai x0) (aj x0) (ak x0) (aq x0)) (RJ (al x0) (am x0) (ao x0) (af x0) (ag x0) (ah x0) (ai x0) (aj x0) (ak x0) (aq x0)) (RI (al x0) (am x0) (ao x0) (af x0) (ag x0) (ah x0) (ai x0) (aj x0) (ak x0) (aq x0))),wA x0||(Ea x0||(!(!vZ x0 !=(0:Int)&&true)||PA x0)),wA x0||(Ea x0||(!(!Xy x0&&true)||Hb (al x0) (am x0) (ao x0) (af x0) (ag x0) (ah x0) (ai x0) (aj x0) (ak x0))),wA x0||(Ea x0||(Ni x0||Lp.fin gJ (RB x0))),wA x0||(Ea x0||(Ni x0||(RC x0||rV (9223372036854775807:Nat) (Pu x0) (Pv x0) (Pw x0) (Px x0) (Py x0) (Pz x0)))),wA x0||(Ea x0||(Ni x0||(RC x0||(!(UC x0&&true)||rV (9223372036854775807:Nat) (UH x0) (UJ x0) (UL x0) (UN x0) ((Kc x0).1) ((Kc x0).2)))))]
end
def al4:List SV→List Entry→Option Out
 | [.one ⟨false,[.ref 0]⟩],[.row false 5 (.int .u8) x0]=>some ⟨.one ⟨false,[.val (.bool (LX x0))]⟩,[.row false 5 aj7 x0],[],[LY x0]⟩
 |_,_=>none
def asO:PF prog:=PF.ofG prog [Xj,PF.lend Xj,PF.fz Xj,zd,PF.lend zd,PF.fz zd,Ki,PF.lend Ki,PF.fz Ki,Kj,PF.lend Kj,PF.fz Kj,eN,PF.lend eN,PF.fz eN,Cb,PF.lend Cb,PF.fz Cb,GO,PF.lend GO,PF.fz GO,Cc,PF.lend Cc,PF.fz Cc,GP,PF.lend GP,PF.fz GP] [(fun s=>gJ.F (anN [(4032,1),(4032,2),(4032,3),(4032,4),(4032,6),(4032,7)] s))] aO 3 f3 func3 (LOk.fnT (l:= [aK f3 0]) (by kernel_rfl) (.cons (alG.alias [(4032,1),(4032,2),(4032,3),(4032,4),(4032,6),(4032,7)]) (.nil _))) al4 (by
 intro vs es r h;unfold al4 at h;split at h
 ·cases h;kernel_rfl
 ·cases h)
theorem ZJ(x:Int)(l:List Int)(h:l.length≤9223372036854775807):ba x l=avT x l∧dK x l=true:=ZK x l h
def kI(b:Int×(Int×Int)):(List Int)→Nat ⊕ (List Int)
 |y3=>(bif(b.2.2==(0:Int))then(bif(ba b.1 y3)then(.inl 0)else(.inr (y3++ [b.1])))else(.inr y3))
def mJ(y2:List (Int×(Int×Int)))(i:Nat):(List Int)→ie
 |y3=>((i:Int),(↑y2.length:Int),y2,y3)
def Km:ie→List Int
 |(_,_,_,y3)=>y3
theorem afV(y2:List (Int×(Int×Int)))(y3:List Int)(hn:y2.length≤9223372036854775807)(h8:y2.length≤1000)(h0:y3= []):
  bO.fin ((0:Int),(↑y2.length:Int),y2,y3)=true∧bO.res ((0:Int),(↑y2.length:Int),y2,y3)=((aN (kI) 1 y2 0 y3).1,(mJ y2) (aN (kI) 1 y2 0 y3).2.1 (aN (kI) 1 y2 0 y3).2.2):=by
 have cH:=bO.along (mJ y2) Km (kI) 1 (fun i a=>a.length≤i) y2 y3 (by subst h0;simp) (by simp only [bO,mJ];omega) (fun i b a hb hI=> ?_) (fun a hI=> ?_)
 ·exact cH
 ·obtain y3:=a
  have dd:=(List.getElem?_eq_some_iff.1 hb).1
  have gc: ∀ d,Option.getD y2[i]? d=b:=fun d=>by rw [hb];rfl
  have hw:=tQ dd hn
  have bW:ltI (i:Int) (y2.length:Int)=true:=du (by omega)
  have pY:leI (0:Int) (i:Int)=true:=ct (by omega)
  have dw:ltN i y2.length=true:=ec dd
  refine⟨?_,?_,?_,?_⟩
  ·have hg2:dr (i:Int) y2=b:=by simp only [dr,Int.toNat_natCast];exact gc _
   have hc:=(ZJ b.1 a (by omega)).2
   simp [dr,qB,wj,wk,wl,wm,wn,wo,wq,ws,wu,rZ,uH,uZ,bO,LT.nds,allT,mJ,bW,pY,dw,gc,hc]
   exact .inr (by omega)
  ·simp [dr,qB,wj,wk,wl,wm,wn,wo,wq,ws,wu,rZ,uH,uZ,bO,LT.each,mJ,Km,hw]
  ·simp only [dr,qB,wj,wk,wl,wm,wn,wo,wq,ws,wu,rZ,uH,uZ,bO,LT.fn,mJ,Km,kI,Int.toNat_natCast,bW,pY,dw,gc,cond_true,Bool.cond_self]
  ·intro a' hf;simp only [kI]at hf;cases hz:b.2.2==0 <;> rw [hz]at hf <;> simp at hf <;> (try (cases hc:ba b.1 a <;> rw [hc]at hf <;> simp at hf)) <;> subst hf <;> (try simp) <;> omega
 ·obtain y3:=a
  simp [dr,qB,wj,wk,wl,wm,wn,wo,wq,ws,wu,rZ,uH,uZ,bO,LT.out,mJ]
theorem NZ: ∀ (fs:List (Int×Int×Int)) (i:Nat) (a:List Int),a.length + fs.length≤9223372036854775807→ ∃ m b,aN kI 1 fs i a=(bif Zi 0 fs a then 1 else 0,m,b)
 | [],i,a,_=>⟨i,a,rfl⟩
 |f::r,i,a,h=>by
  simp only [List.length_cons]at h
  simp only [aN,kI,Zi]
  cases hz:f.2.2==0 with
  |false=>exact NZ r (i + 1) a (by omega)
  |true=>
   simp only [cond_true,(ZJ f.1 a (by omega)).1]
   cases hh:avT f.1 a with
   |true=>exact⟨i,a,rfl⟩
   |false=>exact NZ r (i + 1) (a++ [f.1]) (by simp;omega)
theorem air(fs:List (Int×Int×Int))(hn:leN fs.length 1000=true):JK fs=Zi 0 fs []∧JM fs=true:=by
 have hn:=dT.1 hn
 obtain⟨w1,w2⟩:=afV fs [] (by omega) (by omega) rfl
 obtain⟨m,b,e⟩:=NZ fs 0 [] (by simp;omega)
 rw [e]at w2
 have e1:Lp.fin bO (Hn fs)=true:=w1
 have e2:bO.res (Hn fs)=_:=w2
 simp only [JK,JM,e1,e2,allT]
 cases Zi 0 fs [] <;> simp [Nat.beq]
def kn(b:Int×(Int×Int)):(List Int)→Nat ⊕ (List Int)
 |y3=>(bif(b.2.2==(1:Int))then(bif(ba b.1 y3)then(.inl 0)else(.inr (y3++ [b.1])))else(.inr y3))
def lE(y2:List (Int×(Int×Int)))(i:Nat):(List Int)→gd
 |y3=>((i:Int),(↑y2.length:Int),y2,y3)
def II:gd→List Int
 |(_,_,_,y3)=>y3
theorem afd(y2:List (Int×(Int×Int)))(y3:List Int)(hn:y2.length≤9223372036854775807)(h8:y2.length≤1000)(h0:y3= []):
  bH.fin ((0:Int),(↑y2.length:Int),y2,y3)=true∧bH.res ((0:Int),(↑y2.length:Int),y2,y3)=((aN (kn) 1 y2 0 y3).1,(lE y2) (aN (kn) 1 y2 0 y3).2.1 (aN (kn) 1 y2 0 y3).2.2):=by
 have cH:=bH.along (lE y2) II (kn) 1 (fun i a=>a.length≤i) y2 y3 (by subst h0;simp) (by simp only [bH,lE];omega) (fun i b a hb hI=> ?_) (fun a hI=> ?_)
 ·exact cH
 ·obtain y3:=a
  have dd:=(List.getElem?_eq_some_iff.1 hb).1
  have gc: ∀ d,Option.getD y2[i]? d=b:=fun d=>by rw [hb];rfl
  have hw:=tQ dd hn
  have bW:ltI (i:Int) (y2.length:Int)=true:=du (by omega)
  have pY:leI (0:Int) (i:Int)=true:=ct (by omega)
  have dw:ltN i y2.length=true:=ec dd
  refine⟨?_,?_,?_,?_⟩
  ·have hg2:cP (i:Int) y2=b:=by simp only [cP,Int.toNat_natCast];exact gc _
   have hc:=(ZJ b.1 a (by omega)).2
   simp [cP,ox,uI,uJ,uK,uL,uM,uN,uO,uP,uQ,qC,tw,tF,bH,LT.nds,allT,lE,bW,pY,dw,gc,hc]
   exact .inr (by omega)
  ·simp [cP,ox,uI,uJ,uK,uL,uM,uN,uO,uP,uQ,qC,tw,tF,bH,LT.each,lE,II,hw]
  ·simp only [cP,ox,uI,uJ,uK,uL,uM,uN,uO,uP,uQ,qC,tw,tF,bH,LT.fn,lE,II,kn,Int.toNat_natCast,bW,pY,dw,gc,cond_true,Bool.cond_self]
  ·intro a' hf;simp only [kn]at hf;cases hz:b.2.2==1 <;> rw [hz]at hf <;> simp at hf <;> (try (cases hc:ba b.1 a <;> rw [hc]at hf <;> simp at hf)) <;> subst hf <;> (try simp) <;> omega
 ·obtain y3:=a
  simp [cP,ox,uI,uJ,uK,uL,uM,uN,uO,uP,uQ,qC,tw,tF,bH,LT.out,lE]
theorem ME: ∀ (fs:List (Int×Int×Int)) (i:Nat) (a:List Int),a.length + fs.length≤9223372036854775807→ ∃ m b,aN kn 1 fs i a=(bif Zi 1 fs a then 1 else 0,m,b)
 | [],i,a,_=>⟨i,a,rfl⟩
 |f::r,i,a,h=>by
  simp only [List.length_cons]at h
  simp only [aN,kn,Zi]
  cases hz:f.2.2==1 with
  |false=>exact ME r (i + 1) a (by omega)
  |true=>
   simp only [cond_true,(ZJ f.1 a (by omega)).1]
   cases hh:avT f.1 a with
   |true=>exact⟨i,a,rfl⟩
   |false=>exact ME r (i + 1) (a++ [f.1]) (by simp;omega)
theorem ahb(fs:List (Int×Int×Int))(hn:leN fs.length 1000=true):Hq fs=Zi 1 fs []∧Hr fs=true:=by
 have hn:=dT.1 hn
 obtain⟨w1,w2⟩:=afd fs [] (by omega) (by omega) rfl
 obtain⟨m,b,e⟩:=ME fs 0 [] (by simp;omega)
 rw [e]at w2
 have e1:Lp.fin bH (Gw fs)=true:=w1
 have e2:bH.res (Gw fs)=_:=w2
 simp only [Hq,Hr,e1,e2,allT]
 cases Zi 1 fs [] <;> simp [Nat.beq]
theorem atA(n mode day:Int)(ps:LI)(fs:L3)(rs:List LI)(lf:L3)(pl ls:L2)(h:rV 9223372036854775807 ps fs rs lf pl ls=true):
  wi n mode day ps fs rs lf pl ls=anx n ps fs rs lf mode pl ls day∧Hb n mode day ps fs rs lf pl ls=true:=by
 cases ho:kO n ps fs rs lf mode pl ls day with
 |false=>simp [wi,Hb,LP,anx,ho,h,allT]
 |true=>
  have f:=aqT ho
  obtain⟨e1,e2⟩:=air fs (bY (by have:=f.lfs;omega))
  obtain⟨e3,e4⟩:=ahb lf (bY (by have:=f.llf;omega))
  simp only [wi,Hb,LP,anx,ho,h,e1,e2,e3,e4,allT,cond_true,Bool.true_and,Bool.or_true,and_true]
  cases Zi 0 fs [] <;> rfl
theorem aos{n day:Int}{fs lf:L3}{pl ls:L2}{ps0:LI}{rs0:List LI}: ∀ {r:List RX} {i:Nat} {s:RS},ajO n day fs lf pl ls ps0 rs0 i s→(∀ x∈r,isX ps0 rs0 x=true)→ajO n day fs lf pl ls ps0 rs0 (i + r.length) (r.foldl (stX n day fs lf pl ls) s)
 | [],i,s,h,_=>h
 |x::r,i,s,h,hx=>by
  have h1:=(GQ h (hx x (by simp))).2
  have h2:=aos (r:=r) h1 (fun y hy=>hx y (by simp [hy]))
  rw [List.foldl_cons,List.length_cons,show i + (r.length + 1)=i + 1 + r.length by omega]
  exact h2
theorem RideF.rK{n mode day:Int}{ps:LI}{fs:L3}{rs:List LI}{lf:L3}{pl ls:L2}(h:RideF n mode day ps fs rs lf pl ls):rV 1048576 ps fs rs lf pl ls=true:=by
 have:=h.lp;have:=h.lfs;have:=h.llf;have:=h.lpl;have:=h.lls;have:=h.hl
 refine TO.2 ⟨by omega,by omega,⟨by omega,fun x hx=> ?_⟩,by omega,by omega,by omega⟩
 have:=(GZ.1 (h.hA x hx).1).1
 omega
theorem aw1(n mode day:Int)(ps:LI)(fs:L3)(rs:List LI)(lf:L3)(pl ls:L2)(xs:List RX):
  rV 1048576 (rrP n mode day ps fs rs lf pl ls xs) (rrF n mode day ps fs rs lf pl ls xs) (rrR n mode day ps fs rs lf pl ls xs) (rrL n mode day ps fs rs lf pl ls xs) (RJ n mode day ps fs rs lf pl ls xs) (RI n mode day ps fs rs lf pl ls xs)=true∧(rrV n mode day ps fs rs lf pl ls xs).length≤200:=by
 cases hb:rrB n mode day ps fs rs lf pl ls xs with
 |false=>simp only [rrP,rrF,rrR,rrL,RJ,RI,rrV,hb,cond_false];exact⟨rfl,by simp⟩
 |true=>
  obtain⟨f,hl,hX⟩:=aqU hb
  obtain⟨g,_,_,h4⟩:=aos (r:=xs) (apa f) hX
  simp only [rrP,rrF,rrR,rrL,RJ,RI,rrV,hb,cond_true]
  refine⟨g.rK,?_⟩
  simp only [rrE];omega
theorem ayh{c:List Int}(hb: ∀ (i:Nat) (x:Int),c[i]? =some x→0≤x∧x≤255)(h:wA c=false):aB 0 0 c=true:=by
 have:=XA.1 h
 refine ajv.2 ⟨by omega,by omega,by omega,fun x hx=> ?_⟩
 obtain⟨i,hi⟩:=List.getElem?_of_mem hx
 exact hb i x hi
theorem avd{n mode day:Int}{ps:LI}{fs:L3}{rs:List LI}{lf:L3}{pl ls:L2}(f:RideF n mode day ps fs rs lf pl ls){t:Int}(h:DX n t ps=true)(hv:acu n mode ps fs rs lf t=0):mode=3:=by
 have hn:=f.n1
 have hp:ps[t.toNat]?.getD 0=3 * n - 2:=by
  simp only [DX,bX]at h
  rw [aw (x:=n - 1) (by omega) (by omega),aw (x:=3 * (n - 1)) (by omega) (by omega),aw (by omega) (by omega)]at h
  have:=beq_iff_eq.1 h
  omega
 have hm:(Int.tmod (3 * n - 2) 3==1)=true:=by rw [Int.tmod_eq_emod_of_nonneg (by omega)];exact beq_iff_eq.2 (by omega)
 simp only [acu,hp,hm,Bool.not_true,cond_false]at hv
 cases h1:mode==3 with
 |true=>exact beq_iff_eq.1 h1
 |false=>rw [show (mode !=3)=true from by simp [bne,h1]]at hv;cases hv
def ax9(n:Int)(fs:List (Int×Int×Int))(ps:List Int)(t:Int):Bool:=Zx n ps (xR n ps fs 0) (xR n ps fs 1) t
theorem awa{n p:Int}(hn:2≤n)(h:0≤p∧p≤3 * n - 1):
  (phs p≠2→Int.tmod (p + 1) (3 * n)=p + 1∧blk (p + 1)=blk p∧phs (p + 1)=phs p + 1)∧
  (phs p=2→blk (Int.tmod (p + 1) (3 * n))=Int.tmod (blk p + 1) n∧phs (Int.tmod (p + 1) (3 * n))=0):=by
 have e1:=auW h.1
 have e2:=afx h.1
 have e3:=auW (show 0≤p + 1 by omega)
 have e4:=afx (show 0≤p + 1 by omega)
 refine⟨fun hp=> ?_,fun hp=> ?_⟩
 ·have:p + 1 < 3 * n:=by omega
  rw [Int.tmod_eq_emod_of_nonneg (by omega),Int.emod_eq_of_lt (by omega) this,e4,e3,e1,e2]
  omega
 ·by_cases hq:p + 1 < 3 * n
  ·rw [Int.tmod_eq_emod_of_nonneg (by omega),Int.emod_eq_of_lt (by omega) hq,e4,e3,e2,Int.tmod_eq_emod_of_nonneg (by omega),Int.emod_eq_of_lt (by omega) (by omega)]
   omega
  ·have e5:p + 1=3 * n:=by omega
   have e6:p / 3 + 1=n:=by omega
   rw [e5,e2,e6,Int.tmod_eq_emod_of_nonneg (by omega),Int.tmod_eq_emod_of_nonneg (by omega),Int.emod_self,Int.emod_self]
   decide
theorem axb{n p b:Int}(hn:2≤n)(h:0≤p∧p≤3 * n - 1)(hu:Se n (Int.tmod (p + 1) (3 * n)) b=true):
  Se n p b=true∨(phs p=1∧b=Int.tmod (blk p + 1) n):=by
 obtain⟨h1,h2⟩:=awa hn h
 have e1:=auW h.1
 by_cases hp:phs p=2
 ·obtain⟨a1,a2⟩:=h2 hp
  simp only [Se,a1,a2,Bool.or_eq_true,beq_iff_eq,Bool.and_eq_true]at hu
  left
  simp only [Se,hp,Bool.or_eq_true,beq_iff_eq,Bool.and_eq_true]
  rcases hu with hu | hu
  ·exact .inr ⟨trivial,hu⟩
  ·exact absurd hu.1 (by decide)
 ·obtain⟨a1,a2,a3⟩:=h1 hp
  rw [a1]at hu
  simp only [Se,a2,a3,Bool.or_eq_true,beq_iff_eq,Bool.and_eq_true]at hu
  rcases hu with hu | ⟨hu,hv⟩
  ·left;simp only [Se,Bool.or_eq_true,beq_iff_eq];exact .inl hu
  ·right;exact⟨by omega,hv.symm⟩
theorem at0{n:Int}{ps:List Int}:aa6 n ps=true↔ ∀ b:Nat,b < n.toNat→Uv n ps (b:Int)≤1:=by
 simp only [aa6,List.all_eq_true,List.mem_range,Sx]
 constructor
 ·intro h b hb;have:=h b hb;omega
 ·intro h b hb;have:=h b hb;omega
theorem aw3{n t:Int}{ps:List Int}(hT:isT n ps=true)(hs:aa6 n ps=true)(ht:Pa ps t=true)
  (hf:phs (ps[t.toNat]?.getD 0)=1→Uv n ps (Int.tmod (blk (ps[t.toNat]?.getD 0) + 1) n)=0):aa6 n (ahl n ps t)=true:=by
 have h1:=ya.1 hT
 have h2:=Pb.1 ht
 have dd:t.toNat < ps.length:=by omega
 have e0:ps[t.toNat]?.getD 0=ps[t.toNat]:=by rw [List.getElem?_eq_getElem dd];rfl
 have h3:=h1.2.2 _ (List.getElem_mem dd)
 rw [e0]at hf
 refine at0.2 fun b hb=> ?_
 have h4:=at0.1 hs b hb
 rw [ahl,e0,Uv,List.countP_set dd]
 cases hu:Se n (Int.tmod (ps[t.toNat] + 1) (3 * n)) (b:Int)with
 |false=>unfold Uv at h4;simp;omega
 |true=>
  rcases axb h1.1.1 h3 hu with hv | ⟨hp,hb2⟩
  ·unfold Uv at h4
   simp [hv]
   have:0 < List.countP (fun p=>Se n p (b:Int)) ps:=List.countP_pos_iff.2 ⟨_,List.getElem_mem dd,hv⟩
   omega
  ·have:=hf hp
   rw [← hb2]at this
   unfold Uv at this
   rw [this];simp
theorem an0(ch:Int)(b:Nat): ∀ (fs:List (Int×Int×Int)) (l:List Int),(fs.foldl (adD ch) l)[b]?.getD 0=0→
  l[b]?.getD 0=0∨ ∃ f∈fs,f.2.1=ch∧f.1.toNat=b∧f.2.2=0
 | [],l,h=> .inl h
 |f::fs,l,h=>by
  rcases an0 ch b fs (adD ch l f) h with h1 | ⟨g,hg,h2⟩
  ·unfold adD at h1
   cases hc:f.2.1==ch with
   |false=>rw [hc]at h1;exact .inl h1
   |true=>
    rw [hc,cond_true,List.getElem?_set]at h1
    by_cases hb:f.1.toNat=b
    ·rw [if_pos hb]at h1
     by_cases hl:f.1.toNat < l.length
     ·rw [if_pos hl]at h1
      exact .inr ⟨f,by simp,by simpa using hc,hb,by simpa using h1⟩
     ·left
      rw [List.getElem?_eq_none (by omega)];rfl
    ·rw [if_neg hb]at h1;exact .inl h1
  ·exact .inr ⟨g,by simp [hg],h2⟩
theorem arH{n:Int}{ps:List Int}{b:Nat}(hb:b < n.toNat)(h:(agk n ps)[b]?.getD 0=0):Uv n ps (b:Int)=0:=by
 simp only [agk,List.getElem?_map,List.getElem?_range hb,Option.map_some,Option.getD_some,occ]at h
 cases hl:ltI (Uv n ps (b:Int):Int) 1 with
 |true=>rw [hl]at h;simp at h;exact h
 |false=>rw [hl]at h;simp at h
theorem awZ{C:Type}{R:C→C→Prop}(hs: ∀ a b,R a b→R b a): ∀ (l:List C),l.Pairwise R→ ∀ a∈l,∀ b∈l,a≠b→R a b
 | [],_,a,ha,_,_=>by cases ha
 |x::l,h,a,ha,b,hb=>by
  rw [List.pairwise_cons]at h
  intro Sg
  rcases List.mem_cons.1 ha with rfl | ha' <;> rcases List.mem_cons.1 hb with rfl | hb'
  ·exact absurd rfl Sg
  ·exact h.1 b hb'
  ·exact hs _ _ (h.1 a ha')
  ·exact awZ hs l h.2 a ha' b hb' Sg
theorem avL{n b:Int}{ps:List Int}{fs:List (Int×Int×Int)}(hF: ∀ f∈fs,0≤f.1)(htol:Zi 0 fs []=true)(hb:0≤b∧b < n)
  (h0:(xR n ps fs 0)[b.toNat]?.getD 0=0) (h1:(xR n ps fs 1)[b.toNat]?.getD 0=0):Uv n ps b=0:=by
 have hn:b.toNat < n.toNat:=by omega
 have hbb:((b.toNat:Nat):Int)=b:=by omega
 rcases an0 0 b.toNat fs _ h0 with h | ⟨f,hf,f1,f2,f3⟩
 ·have:=arH hn h;rwa [hbb]at this
 ·rcases an0 1 b.toNat fs _ h1 with h | ⟨g,hg,g1,g2,g3⟩
  ·have:=arH hn h;rwa [hbb]at this
  ·exfalso
   have Sg:f≠g:=fun h=>by rw [h,g1]at f1;exact absurd f1 (by decide)
   have:=awZ (fun a b h ha hb he=>h hb ha he.symm) fs ((anz 0 fs []).1 htol).2 f hf g hg Sg f3 g3
   have a1:=hF f hf
   have a2:=hF g hg
   omega
theorem av6{n t:Int}{ps:List Int}{fs:List (Int×Int×Int)}(hT:isT n ps=true)(hs:aa6 n ps=true)(ht:Pa ps t=true)(hF: ∀ f∈fs,0≤f.1)(htol:Zi 0 fs []=true)(hm:ax9 n fs ps t=true):
  aa6 n (ahl n ps t)=true:=by
 refine aw3 hT hs ht fun hp=> ?_
 have h1:=ya.1 hT
 have h2:=Pb.1 ht
 have dd:t.toNat < ps.length:=by omega
 have e0:ps[t.toNat]?.getD 0=ps[t.toNat]:=by rw [List.getElem?_eq_getElem dd];rfl
 have h3:=h1.2.2 _ (List.getElem_mem dd)
 have hb:=afx h3.1
 have hnb:0≤MO n ps t∧MO n ps t < n:=by
  rw [MO,e0,hb,Int.tmod_eq_emod_of_nonneg (by omega)]
  exact⟨Int.emod_nonneg _ (by omega),Int.emod_lt_of_pos _ (by omega)⟩
 simp only [ax9,Zx,Bool.or_eq_true,Bool.and_eq_true,bne_iff_ne,beq_iff_eq]at hm
 rcases hm with hm | ⟨a0,a1⟩
 ·exact absurd hp hm
 ·exact avL hF htol hnb a0 a1
theorem ap7(ch:Int)(b:Nat): ∀ (fs:List (Int×Int×Int)) (l:List Int),(fs.foldl (adD ch) l)[b]?.getD 0≠0→
  l[b]?.getD 0≠0∨ ∃ f∈fs,f.2.1=ch∧f.1.toNat=b∧f.2.2≠0
 | [],l,h=> .inl h
 |f::fs,l,h=>by
  rcases ap7 ch b fs (adD ch l f) h with h1 | ⟨g,hg,h2⟩
  ·unfold adD at h1
   cases hc:f.2.1==ch with
   |false=>rw [hc]at h1;exact .inl h1
   |true=>
    rw [hc,cond_true,List.getElem?_set]at h1
    by_cases hb:f.1.toNat=b
    ·rw [if_pos hb]at h1
     by_cases hl:f.1.toNat < l.length
     ·rw [if_pos hl]at h1
      exact .inr ⟨f,by simp,by simpa using hc,hb,by simpa using h1⟩
     ·rw [if_neg hl]at h1
      exact absurd rfl h1
    ·rw [if_neg hb]at h1;exact .inl h1
  ·exact .inr ⟨g,by simp [hg],h2⟩
theorem asQ{st:LI}{lf:L3}(hr:akk st lf=true)(htol:Zi 1 lf []=true)(h:Xm st lf=true):Hu st=true:=by
 simp only [akk,Bool.and_eq_true]at hr
 obtain⟨_,hf⟩:=atF hr.2
 simp only [Xm,Bool.and_eq_true,Bool.not_eq_true',List.any_eq_false]at h
 simp only [Hu,List.all_eq_true,beq_iff_eq]
 intro v hv
 obtain⟨b,hb,rfl⟩:=List.getElem_of_mem hv
 have cH: ∀ ch,(∀ x∈lkC st lf ch,¬ (x==0)=true)→(lkC st lf ch)[b]?.getD 0≠0:=fun ch hc h0=>by
  have dd:b < (lkC st lf ch).length:=by rw [Ta];exact hb
  rw [List.getElem?_eq_getElem dd,Option.getD_some]at h0
  exact hc _ (List.getElem_mem dd) (beq_iff_eq.2 h0)
 have hbase:(lkB st)[b]?.getD 0≠0→st[b]=2:=fun h1=>by
  simp only [lkB,List.getElem?_map,List.getElem?_eq_getElem hb,Option.map_some,Option.getD_some]at h1
  cases h2:st[b]==2 with
  |true=>exact beq_iff_eq.1 h2
  |false=>rw [h2]at h1;exact absurd rfl h1
 rcases ap7 0 b lf _ (cH 0 h.1)with h1 | ⟨f,hf1,f1,f2,f3⟩
 ·exact hbase h1
 ·rcases ap7 1 b lf _ (cH 1 h.2)with h1 | ⟨g,hg1,g1,g2,g3⟩
  ·exact hbase h1
  ·exfalso
   have Sg:f≠g:=fun he=>by rw [he,g1]at f1;exact absurd f1 (by decide)
   have hp:=((anz 1 lf []).1 htol).2
   have a1:=hf f hf1
   have a2:=hf g hg1
   have:=awZ (R:=fun f g:Int×Int×Int=>f.2.2=1→g.2.2=1→f.1≠g.1) (fun a b h ha hb he=>h hb ha he.symm) lf hp f hf1 g hg1 Sg (by omega) (by omega)
   omega
def apd(n:Int)(ps:LI)(rs:List LI):Prop:=aa6 n ps=true∧ ∀ b:Nat,b < rs.length→DX n (b:Int) ps=true∨Hu (rs[b]?.getD [])=true
theorem asS{n:Int}{ps:LI}{rs:List LI}:(aa6 n ps&& !(List.range rs.length).any (aiY n ps rs))=true↔apd n ps rs:=by
 simp only [Bool.and_eq_true,Bool.not_eq_true',List.any_eq_false,List.mem_range,apd,aiY,amV]
 constructor
 ·rintro⟨h1,h2⟩
  refine⟨h1,fun b hb=> ?_⟩
  have h3:=h2 b hb
  cases h4:DX n (b:Int) ps with
  |true=>exact .inl rfl
  |false=>
   cases h5:Hu (rs[b]?.getD [])with
   |true=>exact .inr rfl
   |false=>rw [h4,h5]at h3;exact absurd rfl h3
 ·rintro⟨h1,h2⟩
  refine⟨h1,fun b hb=> ?_⟩
  rcases h2 b hb with h | h <;> rw [h] <;> simp
theorem awj{n:Int}{ps:LI}{i b:Nat}{v:Int}(h:i≠b):DX n (b:Int) (ps.set i v)=DX n (b:Int) ps:=by
 simp only [DX,bX,Int.toNat_natCast,List.getElem?_set,if_neg h]
theorem asa{n mode day:Int}{ps:LI}{fs:L3}{rs:List LI}{lf:L3}{pl ls:L2}(f:RideF n mode day ps fs rs lf pl ls)(hs:apd n ps rs)(h0:Zi 0 fs []=true)(h1:Zi 1 lf []=true)
  {k t rk row ck role:Int} {cH:Bool} (h:aez ps rs k t rk row ck role cH=true):
  apd n (stP n mode ps fs rs lf k t) (stR n ps rs k t rk row):=by
 rcases SW h with⟨rfl,ht⟩ | ⟨rfl,ht,_⟩ | ⟨rfl,_⟩
 ·have hR:stR n ps rs 0 t rk row=rs:=rfl
  rw [hR]
  cases hv:acu n mode ps fs rs lf t==0 with
  |false=>
   have hP:stP n mode ps fs rs lf 0 t=ps:=by simp only [stP,hv,Bool.and_false,cond_false]
   rw [hP];exact hs
  |true=>
   have hP:stP n mode ps fs rs lf 0 t=ahl n ps t:=by simp only [stP,hv,beq_self_eq_true,Bool.and_self,cond_true]
   rw [hP]
   have hv0:acu n mode ps fs rs lf t=0:=beq_iff_eq.1 hv
   have hTt:=Pb.1 ht
   have hF: ∀ q∈fs,0≤q.1:=fun q hq=>by
    have:=(avC (by have:=f.n1;omega) f.hF).2 q hq
    omega
   have hperm:ax9 n fs ps t=true:=by
    cases hp:Zx n ps (xR n ps fs 0) (xR n ps fs 1) t with
    |true=>exact hp
    |false=>
     simp only [acu,hp]at hv0
     cases h3:Int.tmod (ps[t.toNat]?.getD 0) 3==1 with
     |false=>
      have:Zx n ps (xR n ps fs 0) (xR n ps fs 1) t=true:=by simp [Zx,phs,bne,h3]
      rw [this]at hp;cases hp
     |true=>
      rw [h3]at hv0
      cases hm:mode !=3 <;> rw [hm]at hv0 <;> simp at hv0
   refine⟨av6 f.hT hs.1 ht hF h0 hperm,fun b hb=> ?_⟩
   by_cases hbt:t.toNat=b
   ·right
    subst hbt
    have hti:((t.toNat:Nat):Int)=t:=by omega
    rcases hs.2 t.toNat hb with hst | hl
    ·rw [hti]at hst
     have hm:=avd f hst hv0
     refine asQ (f.rd ht).1 h1 ?_
     have hn:=f.n1
     have hp:ps[t.toNat]?.getD 0=3 * n - 2:=by
      simp only [DX,bX]at hst
      rw [aw (x:=n - 1) (by omega) (by omega),aw (x:=3 * (n - 1)) (by omega) (by omega),aw (by omega) (by omega)]at hst
      have:=beq_iff_eq.1 hst
      omega
     have hm3:(Int.tmod (3 * n - 2) 3==1)=true:=by rw [Int.tmod_eq_emod_of_nonneg (by omega)];exact beq_iff_eq.2 (by omega)
     simp only [acu,hp,hm3,hst,hm,Bool.not_true,cond_false,Bool.true_and]at hv0
     cases h3:Xm (rs[t.toNat]?.getD []) lf with
     |true=>rfl
     |false=>
      cases h2:Zx n ps (xR n ps fs 0) (xR n ps fs 1) t <;> rw [h2,h3]at hv0 <;> simp at hv0
    ·exact hl
   ·rcases hs.2 b hb with hst | hl
    ·left;rw [ahl,awj hbt];exact hst
    ·exact .inr hl
 ·have hP:stP n mode ps fs rs lf 1 t=ps:=rfl
  rw [hP]
  have hTt:=Pb.1 ht
  cases hst:DX n t ps with
  |false=>
   have hR:stR n ps rs 1 t rk row=rs:=by simp only [stR,hst];rfl
   rw [hR];exact hs
  |true=>
   cases qJ:lG (rs[t.toNat]?.getD []) rk row with
   |false=>
    have hR:stR n ps rs 1 t rk row=rs:=by simp only [stR,hst,qJ];rfl
    rw [hR];exact hs
   |true=>
    have hR:stR n ps rs 1 t rk row=rs.set t.toNat (Ui (rs[t.toNat]?.getD []) rk row):=by simp only [stR,hst,qJ];rfl
    rw [hR]
    refine⟨hs.1,fun b hb=> ?_⟩
    rw [List.length_set]at hb
    by_cases hbt:t.toNat=b
    ·left;rw [← hbt,show ((t.toNat:Nat):Int)=t by omega];exact hst
    ·rw [List.getElem?_set,if_neg hbt];exact hs.2 b hb
 ·exact hs
theorem ajs{n mode day:Int}{ps:LI}{fs:L3}{rs:List LI}{lf:L3}{pl ls:L2}(f:RideF n mode day ps fs rs lf pl ls):kO n ps fs rs lf mode pl ls day=true:=
 alK.2 ⟨f.hT,f.hF,f.hl,f.hR,f.hL,sa.2 f.hM,f.hP,f.hK,f.hD⟩
def eAt(n day:Int)(fs lf:L3)(pl ls:L2)(s0:RS)(xs:List RX)(k:Nat):RS:=(xs.take k).foldl (stX n day fs lf pl ls) s0
theorem awC{n day:Int}{fs lf:L3}{pl ls:L2}{s0:RS}{xs:List RX}{k:Nat}{x:RX}(h:xs[k]? =some x):eAt n day fs lf pl ls s0 xs (k + 1)=stX n day fs lf pl ls (eAt n day fs lf pl ls s0 xs k) x:=by
 obtain⟨hk,rfl⟩:=List.getElem?_eq_some_iff.1 h
 simp only [eAt]
 rw [List.take_succ_eq_append_getElem hk,List.foldl_append]
 rfl
theorem auc{n day:Int}{fs lf:L3}{pl ls:L2}: ∀ (r:List RX) (s:RS),(r.foldl (stX n day fs lf pl ls) s).2.2.2.1.length=s.2.2.2.1.length + r.length∧
  ∀ j,j < s.2.2.2.1.length→(r.foldl (stX n day fs lf pl ls) s).2.2.2.1[j]? =s.2.2.2.1[j]?
 | [],s=>⟨by simp,fun _ _=>rfl⟩
 |x::r,s=>by
  obtain⟨h1,h2⟩:=auc (n:=n) (day:=day) (fs:=fs) (lf:=lf) (pl:=pl) (ls:=ls) r (stX n day fs lf pl ls s x)
  have hl:(stX n day fs lf pl ls s x).2.2.2.1.length=s.2.2.2.1.length + 1:=by simp [stX]
  refine⟨by rw [List.foldl_cons,h1,hl,List.length_cons];omega,fun j hj=> ?_⟩
  rw [List.foldl_cons,h2 j (by omega)]
  simp only [stX]
  rw [List.getElem?_append_left hj]
theorem avI{n day:Int}{fs lf:L3}{pl ls:L2}: ∀ (r:List RX) (s:RS) (i:Nat) (x:RX),r[i]? =some x→
  (r.foldl (stX n day fs lf pl ls) s).2.2.2.1[s.2.2.2.1.length + i]? =some (vX n day fs lf pl ls ((r.take i).foldl (stX n day fs lf pl ls) s) x)
 | [],s,i,x,h=>by simp at h
 |y::r,s,0,x,h=>by
  simp only [List.getElem?_cons_zero,Option.some.injEq]at h
  subst h
  have hl:(stX n day fs lf pl ls s y).2.2.2.1.length=s.2.2.2.1.length + 1:=by simp [stX]
  rw [List.foldl_cons,(auc r _).2 _ (by omega)]
  simp [stX]
 |y::r,s,i + 1,x,h=>by
  have h':r[i]? =some x:=by simpa using h
  have hl:(stX n day fs lf pl ls s y).2.2.2.1.length=s.2.2.2.1.length + 1:=by simp [stX]
  have:=avI (n:=n) (day:=day) (fs:=fs) (lf:=lf) (pl:=pl) (ls:=ls) r (stX n day fs lf pl ls s y) i x h'
  rw [hl]at this
  rw [List.foldl_cons,List.take_succ_cons,List.foldl_cons,show s.2.2.2.1.length + (i + 1)=s.2.2.2.1.length + 1 + i by omega]
  exact this
theorem awl{n day:Int}{fs lf:L3}{pl ls:L2}{ps0:LI}{rs0:List LI}{s:RS}{j:Nat}(hI:ajO n day fs lf pl ls ps0 rs0 j s)(hs:apd n s.2.1 s.2.2.1)(h0:Zi 0 fs []=true)(h1:Zi 1 lf []=true)
  (xs:List RX) (V:LI) (i:Nat) (x:RX) (hxi:xs[i]? =some x) (tS:xs.length≤300) (hm:isX ps0 rs0 x=true) (hvi:V[i]? =some (vX n day fs lf pl ls s x)):
  (gJ.lt ((i:Int),xs,n,s.1,day,V,s.2.1,fs,s.2.2.1,lf,pl,ls)).out=
   some (.inr (((i + 1:Nat):Int),xs,n,(stX n day fs lf pl ls s x).1,day,V,(stX n day fs lf pl ls s x).2.1,fs,(stX n day fs lf pl ls s x).2.2.1,lf,pl,ls))∧apd n (stX n day fs lf pl ls s x).2.1 (stX n day fs lf pl ls s x).2.2.1:=by
 obtain⟨hx',hk⟩:=GQ hI hm
 have hsec:apd n (stX n day fs lf pl ls s x).2.1 (stX n day fs lf pl ls s x).2.2.1:=asa hI.1 hs h0 h1 hx'
 refine⟨?_,hsec⟩
 have dd:i < xs.length:=(List.getElem?_eq_some_iff.1 hxi).1
 have hltV:i < V.length:=(List.getElem?_eq_some_iff.1 hvi).1
 have hx:Option.getD xs[i]? ((0:Int),(0:Int),((0:Int),(0:Int)),(0:Int),(0:Int),false)=x:=by rw [hxi];rfl
 have hC0:rrC n s.1 day s.2.1 fs s.2.2.1 lf pl ls [x]=0:=by rw [aye,ajs hI.1,hx'];rfl
 have hC:rrC n s.1 day s.2.1 fs s.2.2.1 lf pl ls [x]=0:=hC0
 have hB:rrB n s.1 day s.2.1 fs s.2.2.1 lf pl ls [x]=true:=by rw [rrB,hC0];rfl
 have hN:rrN n s.1 day s.2.1 fs s.2.2.1 lf pl ls [x]=n:=by rw [rrN,hB];rfl
 have hM:rrM n s.1 day s.2.1 fs s.2.2.1 lf pl ls [x]=(stX n day fs lf pl ls s x).1:=by rw [rrM,hB];rfl
 have hD:rrD n s.1 day s.2.1 fs s.2.2.1 lf pl ls [x]=day:=by rw [rrD,hB];rfl
 have hP:rrP n s.1 day s.2.1 fs s.2.2.1 lf pl ls [x]=(stX n day fs lf pl ls s x).2.1:=by rw [rrP,hB];rfl
 have hF:rrF n s.1 day s.2.1 fs s.2.2.1 lf pl ls [x]=fs:=by rw [rrF,hB];rfl
 have hR:rrR n s.1 day s.2.1 fs s.2.2.1 lf pl ls [x]=(stX n day fs lf pl ls s x).2.2.1:=by rw [rrR,hB];rfl
 have hL:rrL n s.1 day s.2.1 fs s.2.2.1 lf pl ls [x]=lf:=by rw [rrL,hB];rfl
 have hPl:RJ n s.1 day s.2.1 fs s.2.2.1 lf pl ls [x]=pl:=by rw [RJ,hB];rfl
 have hLs:RI n s.1 day s.2.1 fs s.2.2.1 lf pl ls [x]=ls:=by rw [RI,hB];rfl
 have hV:srV n s.1 day s.2.1 fs s.2.2.1 lf pl ls x=vX n day fs lf pl ls s x:=by rw [srV,hB];rfl
 have hVi:Option.getD V[i]? (0:Int)=vX n day fs lf pl ls s x:=by rw [hvi];rfl
 have hSec:SA n (stX n day fs lf pl ls s x).2.1 fs (stX n day fs lf pl ls s x).2.2.1 lf (stX n day fs lf pl ls s x).1 pl ls day=true:=by
  rw [SA,ajs hk.1,Bool.true_and];exact asS.2 hsec
 have d0:ltI (i:Int) (xs.length:Int)=true:=du (by omega)
 have d1:leI (0:Int) (i:Int)=true:=ct (by omega)
 have d2:ltN i xs.length=true:=ec dd
 have d3:ltI (i:Int) (V.length:Int)=true:=du (by omega)
 have d4:ltN i V.length=true:=ec hltV
 have d5:=hI.1.rN
 have d6:=hk.1.rN
 have w0:IntKind.i64.wrap ((i:Int) + 1)=((i + 1:Nat):Int):=by rw [aw (by omega) (by omega)];omega
 have r_a0:=Eq.refl (QC (i:Int) xs)
 conv at r_a0=>rhs;simp only [QC,S0z,allT,Int.toNat_natCast,hx,hC,hB,hN,hM,hD,hP,hF,hR,hL,hPl,hLs,hV,hVi,hSec,d0,d1,d2,d3,d4,d5,w0]
 have r_a1:=Eq.refl (QD (i:Int) xs)
 conv at r_a1=>rhs;simp only [QD,S0z,allT,Int.toNat_natCast,hx,hC,hB,hN,hM,hD,hP,hF,hR,hL,hPl,hLs,hV,hVi,hSec,d0,d1,d2,d3,d4,d5,w0,r_a0]
 have r_a2:=Eq.refl (Eh (i:Int) xs)
 conv at r_a2=>rhs;simp only [Eh,S0z,allT,Int.toNat_natCast,hx,hC,hB,hN,hM,hD,hP,hF,hR,hL,hPl,hLs,hV,hVi,hSec,d0,d1,d2,d3,d4,d5,w0,r_a0,r_a1]
 have r_a3:=Eq.refl (QE (i:Int) xs)
 conv at r_a3=>rhs;simp only [QE,S0z,allT,Int.toNat_natCast,hx,hC,hB,hN,hM,hD,hP,hF,hR,hL,hPl,hLs,hV,hVi,hSec,d0,d1,d2,d3,d4,d5,w0,r_a0,r_a1,r_a2]
 have r_a4:=Eq.refl (bc (i:Int) xs)
 conv at r_a4=>rhs;simp only [bc,S0z,allT,Int.toNat_natCast,hx,hC,hB,hN,hM,hD,hP,hF,hR,hL,hPl,hLs,hV,hVi,hSec,d0,d1,d2,d3,d4,d5,w0,r_a0,r_a1,r_a2,r_a3]
 have r_a5:=Eq.refl (QF (i:Int) xs n s.1 day s.2.1 fs s.2.2.1 lf pl ls)
 conv at r_a5=>rhs;simp only [QF,S0z,allT,Int.toNat_natCast,hx,hC,hB,hN,hM,hD,hP,hF,hR,hL,hPl,hLs,hV,hVi,hSec,d0,d1,d2,d3,d4,d5,w0,r_a0,r_a1,r_a2,r_a3,r_a4]
 have r_a6:=Eq.refl (Kd (i:Int) xs n s.1 day s.2.1 fs s.2.2.1 lf pl ls)
 conv at r_a6=>rhs;simp only [Kd,S0z,allT,Int.toNat_natCast,hx,hC,hB,hN,hM,hD,hP,hF,hR,hL,hPl,hLs,hV,hVi,hSec,d0,d1,d2,d3,d4,d5,w0,r_a0,r_a1,r_a2,r_a3,r_a4,r_a5]
 have r_a7:=Eq.refl (QG (i:Int) xs n s.1 day V s.2.1 fs s.2.2.1 lf pl ls)
 conv at r_a7=>rhs;simp only [QG,S0z,allT,Int.toNat_natCast,hx,hC,hB,hN,hM,hD,hP,hF,hR,hL,hPl,hLs,hV,hVi,hSec,d0,d1,d2,d3,d4,d5,w0,r_a0,r_a1,r_a2,r_a3,r_a4,r_a5,r_a6]
 have r_a8:=Eq.refl (sb (i:Int) xs n s.1 day V s.2.1 fs s.2.2.1 lf pl ls)
 conv at r_a8=>rhs;simp only [sb,S0z,allT,Int.toNat_natCast,hx,hC,hB,hN,hM,hD,hP,hF,hR,hL,hPl,hLs,hV,hVi,hSec,d0,d1,d2,d3,d4,d5,w0,r_a0,r_a1,r_a2,r_a3,r_a4,r_a5,r_a6,r_a7]
 have r_a9:=Eq.refl (QH (i:Int) xs n s.1 day s.2.1 fs s.2.2.1 lf pl ls)
 conv at r_a9=>rhs;simp only [QH,S0z,allT,Int.toNat_natCast,hx,hC,hB,hN,hM,hD,hP,hF,hR,hL,hPl,hLs,hV,hVi,hSec,d0,d1,d2,d3,d4,d5,w0,r_a0,r_a1,r_a2,r_a3,r_a4,r_a5,r_a6,r_a7,r_a8]
 have r_a10:=Eq.refl (Oc (i:Int) xs n s.1 day s.2.1 fs s.2.2.1 lf pl ls)
 conv at r_a10=>rhs;simp only [Oc,S0z,allT,Int.toNat_natCast,hx,hC,hB,hN,hM,hD,hP,hF,hR,hL,hPl,hLs,hV,hVi,hSec,d0,d1,d2,d3,d4,d5,w0,r_a0,r_a1,r_a2,r_a3,r_a4,r_a5,r_a6,r_a7,r_a8,r_a9]
 have r_a11:=Eq.refl (Od (i:Int) xs n s.1 day s.2.1 fs s.2.2.1 lf pl ls)
 conv at r_a11=>rhs;simp only [Od,S0z,allT,Int.toNat_natCast,hx,hC,hB,hN,hM,hD,hP,hF,hR,hL,hPl,hLs,hV,hVi,hSec,d0,d1,d2,d3,d4,d5,w0,r_a0,r_a1,r_a2,r_a3,r_a4,r_a5,r_a6,r_a7,r_a8,r_a9,r_a10]
 simp only [gJ,Xf,LT.out,Su,agn,ago,agp,agq,agr,ags,agt,agu,agv,aeA,aeB,aeC,aeD,aeE,aeF,aeG,aeH,aeI,Int.toNat_natCast,hx,hC,hB,hN,hM,hD,hP,hF,hR,hL,hPl,hLs,hV,hVi,hSec,d0,d1,d2,d3,d4,d5,w0,r_a0,r_a1,r_a2,r_a3,r_a4,r_a5,r_a6,r_a7,r_a8,r_a9,r_a10,r_a11,d6,S0z,allT]
theorem axa{n mode day:Int}{ps:LI}{fs:L3}{rs:List LI}{lf:L3}{pl ls:L2}(f:RideF n mode day ps fs rs lf pl ls)(hs:apd n ps rs)(h0:Zi 0 fs []=true)(h1:Zi 1 lf []=true)(xs:List RX)(tS:xs.length≤300)(hX: ∀ x∈xs,isX ps rs x=true):
  gJ.fin ((0:Int),xs,n,mode,day,(rrE n mode day ps fs rs lf pl ls xs).2.2.2.1,ps,fs,rs,lf,pl,ls)=true∧
  gJ.res ((0:Int),xs,n,mode,day,(rrE n mode day ps fs rs lf pl ls xs).2.2.2.1,ps,fs,rs,lf,pl,ls)=(1,(xs.length:Int),xs,n,(rrE n mode day ps fs rs lf pl ls xs).1,day,(rrE n mode day ps fs rs lf pl ls xs).2.2.2.1,(rrE n mode day ps fs rs lf pl ls xs).2.1,fs,(rrE n mode day ps fs rs lf pl ls xs).2.2.1,lf,pl,ls)∧
  apd n (rrE n mode day ps fs rs lf pl ls xs).2.1 (rrE n mode day ps fs rs lf pl ls xs).2.2.1∧RideF n (rrE n mode day ps fs rs lf pl ls xs).1 day (rrE n mode day ps fs rs lf pl ls xs).2.1 fs (rrE n mode day ps fs rs lf pl ls xs).2.2.1 lf pl ls:=by
 have hEnd:eAt n day fs lf pl ls (mode,ps,rs,[],0) xs xs.length=rrE n mode day ps fs rs lf pl ls xs:=by simp only [eAt,List.take_length];rfl
 obtain⟨w1,w2⟩:=gJ.walk (fun k (a:RS)=>((k:Int),xs,n,a.1,day,(rrE n mode day ps fs rs lf pl ls xs).2.2.2.1,a.2.1,fs,a.2.2.1,lf,pl,ls)) (fun(b:Nat) (_:RS)=> .inr (eAt n day fs lf pl ls (mode,ps,rs,[],0) xs (b + 1))) 1
  (fun k a=>a=eAt n day fs lf pl ls (mode,ps,rs,[],0) xs k∧k≤xs.length∧ajO n day fs lf pl ls ps rs k a∧apd n a.2.1 a.2.2.1) (List.range xs.length)
  (fun k b a hb hI=>by
   obtain⟨rfl,dd⟩:=qD hb
   obtain⟨q1,q2,q3,q4⟩:=hI
   have hxb:xs[b]? =some xs[b]:=List.getElem?_eq_getElem dd
   have hmx:=hX _ (List.getElem_mem dd)
   have hvi:=avI (n:=n) (day:=day) (fs:=fs) (lf:=lf) (pl:=pl) (ls:=ls) xs (mode,ps,rs,[],0) b xs[b] hxb
   simp only [List.length_nil,Nat.zero_add]at hvi
   have hvi':(rrE n mode day ps fs rs lf pl ls xs).2.2.2.1[b]? =some (vX n day fs lf pl ls a xs[b]):=by rw [q1];exact hvi
   obtain⟨g1,g2⟩:=awl q3 q4 h0 h1 xs (rrE n mode day ps fs rs lf pl ls xs).2.2.2.1 b xs[b] hxb tS hmx hvi'
   have hs1:=awC (n:=n) (day:=day) (fs:=fs) (lf:=lf) (pl:=pl) (ls:=ls) (s0:=(mode,ps,rs,[],0)) hxb
   rw [← q1]at hs1
   refine⟨?_,fun a' ha'=> ?_⟩
   ·rw [g1,← hs1]
   ·simp only [Sum.inr.injEq]at ha'
    subst ha'
    rw [hs1]
    exact⟨rfl,by omega,(GQ q3 hmx).2,g2⟩)
  (fun a hI=>by
   have hn:ltI (((List.range xs.length).length:Nat):Int) (xs.length:Int)=false:=akN (by simp)
   simp only [gJ,Xf,LT.out,Su,hn,cond_false])
  (mode,ps,rs,[],0) ⟨rfl,Nat.zero_le _,apa f,hs⟩ (by simp only [gJ,List.length_range];omega)
 have hfold: ∀ k,k≤xs.length→(List.range k).foldl (fun(_:RS) (b:Nat)=>eAt n day fs lf pl ls (mode,ps,rs,[],0) xs (b + 1)) (mode,ps,rs,[],0)=eAt n day fs lf pl ls (mode,ps,rs,[],0) xs k:=by
  intro k
  induction k with
  |zero=>intro _;rfl
  |succ k _=>intro _;rw [List.range_succ,List.foldl_append];rfl
 rw [jI (g:=fun(_:RS) (b:Nat)=>eAt n day fs lf pl ls (mode,ps,rs,[],0) xs (b + 1)) (fun b a=>rfl),hfold _ (Nat.le_refl _),hEnd]at w2
 have hfin:=aos (r:=xs) (apa f) hX
 refine⟨w1,?_,?_,hfin.1⟩
 ·have w3:gJ.res ((0:Int),xs,n,mode,day,(rrE n mode day ps fs rs lf pl ls xs).2.2.2.1,ps,fs,rs,lf,pl,ls)=(1,((0 + (List.range xs.length).length:Nat):Int),xs,n,(rrE n mode day ps fs rs lf pl ls xs).1,day,(rrE n mode day ps fs rs lf pl ls xs).2.2.2.1,(rrE n mode day ps fs rs lf pl ls xs).2.1,fs,(rrE n mode day ps fs rs lf pl ls xs).2.2.1,lf,pl,ls):=w2
  rw [w3,List.length_range,Nat.zero_add]
 ·have cH: ∀ (r:List RX) (k:Nat) (s:RS),ajO n day fs lf pl ls ps rs k s→apd n s.2.1 s.2.2.1→(∀ x∈r,isX ps rs x=true)→apd n (r.foldl (stX n day fs lf pl ls) s).2.1 (r.foldl (stX n day fs lf pl ls) s).2.2.1:=by
   intro r
   induction r with
   |nil=>intro k s _ h _;exact h
   |cons x r ih=>
    intro k s hI h hx
    obtain⟨hx',hk⟩:=GQ hI (hx x (by simp))
    exact ih (k + 1) _ hk (asa hI.1 h h0 h1 hx') (fun y hy=>hx y (by simp [hy]))
  exact cH xs 0 _ (apa f) hs hX
theorem axz(c:List Int)(w:wfD (.sl 5 (.int .u8)) c):LX c=true∧LY c=true:=by
 have hb: ∀ (i:Nat) (x:Int),c[i]? =some x→0≤x∧x≤255:=fun i x hx=>ayw (w.2 x (List.mem_of_getElem? hx))
 cases OA:wA c with
 |true=>simp [LX,LY,allT,OA]
 |false=>
  have hsrc:=ayh hb OA
  obtain⟨_,hM',hL'⟩:=dRR c hsrc
  generalize u0:al c=n
  generalize u1:am c=mode
  generalize u2:ao c=day
  generalize u3:af c=ps at hM'
  generalize u4:ag c=fs at hM'
  generalize u5:ah c=rs at hM'
  generalize u6:ai c=lf at hM'
  generalize u7:aj c=pl at hM'
  generalize u8:ak c=ls at hM'
  generalize u9:aq c=xs at hL'
  have hN:rV 9223372036854775807 ps fs rs lf pl ls=true:=alT hM' (by omega)
  obtain⟨nS0,nV0⟩:=aw1 n mode day ps fs rs lf pl ls xs
  have nS:=alT nS0 (show 1048576≤9223372036854775807 by omega)
  have hV1:leN (rrV n mode day ps fs rs lf pl ls xs).length 9223372036854775807=true:=bY (by omega)
  have eqVV:eqL (rrV n mode day ps fs rs lf pl ls xs) (rrV n mode day ps fs rs lf pl ls xs)=true:=by simp [eqL]
  have e1: ∀ a b d,wB a b d a b d (rrP n mode day ps fs rs lf pl ls xs) (rrF n mode day ps fs rs lf pl ls xs) (rrR n mode day ps fs rs lf pl ls xs) (rrL n mode day ps fs rs lf pl ls xs) (RJ n mode day ps fs rs lf pl ls xs) (RI n mode day ps fs rs lf pl ls xs) (rrP n mode day ps fs rs lf pl ls xs) (rrF n mode day ps fs rs lf pl ls xs) (rrR n mode day ps fs rs lf pl ls xs) (rrL n mode day ps fs rs lf pl ls xs) (RJ n mode day ps fs rs lf pl ls xs) (RI n mode day ps fs rs lf pl ls xs)=true:=fun a b d=>aqk a b d _ _ _ _ _ _ nS
  obtain⟨t0,tI⟩:=atA n mode day ps fs rs lf pl ls hN
  have r_a0:=Eq.refl (vZ c)
  conv at r_a0=>rhs;simp only [vZ,S0z,allT,OA,u0,u1,u2,u3,u4,u5,u6,u7,u8,u9]
  have r_a1:=Eq.refl (wa c)
  conv at r_a1=>rhs;simp only [wa,S0z,allT,OA,u0,u1,u2,u3,u4,u5,u6,u7,u8,u9,r_a0]
  have r_a2:=Eq.refl (Nf c)
  conv at r_a2=>rhs;simp only [Nf,S0z,allT,OA,u0,u1,u2,u3,u4,u5,u6,u7,u8,u9,r_a0,r_a1]
  have r_a3:=Eq.refl (Ng c)
  conv at r_a3=>rhs;simp only [Ng,S0z,allT,OA,u0,u1,u2,u3,u4,u5,u6,u7,u8,u9,r_a0,r_a1,r_a2]
  have r_a4:=Eq.refl (Nh c)
  conv at r_a4=>rhs;simp only [Nh,S0z,allT,OA,u0,u1,u2,u3,u4,u5,u6,u7,u8,u9,r_a0,r_a1,r_a2,r_a3]
  have r_a5:=Eq.refl (Ea c)
  conv at r_a5=>rhs;simp only [Ea,S0z,allT,OA,u0,u1,u2,u3,u4,u5,u6,u7,u8,u9,r_a0,r_a1,r_a2,r_a3,r_a4]
  have r_a6:=Eq.refl (Xy c)
  conv at r_a6=>rhs;simp only [Xy,S0z,allT,OA,u0,u1,u2,u3,u4,u5,u6,u7,u8,u9,r_a0,r_a1,r_a2,r_a3,r_a4,r_a5]
  have r_a7:=Eq.refl (Ni c)
  conv at r_a7=>rhs;simp only [Ni,S0z,allT,OA,u0,u1,u2,u3,u4,u5,u6,u7,u8,u9,r_a0,r_a1,r_a2,r_a3,r_a4,r_a5,r_a6]
  have r_a8:=Eq.refl (RB c)
  conv at r_a8=>rhs;simp only [RB,S0z,allT,OA,u0,u1,u2,u3,u4,u5,u6,u7,u8,u9,r_a0,r_a1,r_a2,r_a3,r_a4,r_a5,r_a6,r_a7]
  have r_a9:=Eq.refl (RC c)
  conv at r_a9=>rhs;simp only [RC,S0z,allT,OA,u0,u1,u2,u3,u4,u5,u6,u7,u8,u9,r_a0,r_a1,r_a2,r_a3,r_a4,r_a5,r_a6,r_a7,r_a8]
  have r_a10:=Eq.refl (Pu c)
  conv at r_a10=>rhs;simp only [Pu,S0z,allT,OA,u0,u1,u2,u3,u4,u5,u6,u7,u8,u9,r_a0,r_a1,r_a2,r_a3,r_a4,r_a5,r_a6,r_a7,r_a8,r_a9]
  have r_a11:=Eq.refl (Pv c)
  conv at r_a11=>rhs;simp only [Pv,S0z,allT,OA,u0,u1,u2,u3,u4,u5,u6,u7,u8,u9,r_a0,r_a1,r_a2,r_a3,r_a4,r_a5,r_a6,r_a7,r_a8,r_a9,r_a10]
  have r_a12:=Eq.refl (Pw c)
  conv at r_a12=>rhs;simp only [Pw,S0z,allT,OA,u0,u1,u2,u3,u4,u5,u6,u7,u8,u9,r_a0,r_a1,r_a2,r_a3,r_a4,r_a5,r_a6,r_a7,r_a8,r_a9,r_a10,r_a11]
  have r_a13:=Eq.refl (Px c)
  conv at r_a13=>rhs;simp only [Px,S0z,allT,OA,u0,u1,u2,u3,u4,u5,u6,u7,u8,u9,r_a0,r_a1,r_a2,r_a3,r_a4,r_a5,r_a6,r_a7,r_a8,r_a9,r_a10,r_a11,r_a12]
  have r_a14:=Eq.refl (Py c)
  conv at r_a14=>rhs;simp only [Py,S0z,allT,OA,u0,u1,u2,u3,u4,u5,u6,u7,u8,u9,r_a0,r_a1,r_a2,r_a3,r_a4,r_a5,r_a6,r_a7,r_a8,r_a9,r_a10,r_a11,r_a12,r_a13]
  have r_a15:=Eq.refl (Pz c)
  conv at r_a15=>rhs;simp only [Pz,S0z,allT,OA,u0,u1,u2,u3,u4,u5,u6,u7,u8,u9,r_a0,r_a1,r_a2,r_a3,r_a4,r_a5,r_a6,r_a7,r_a8,r_a9,r_a10,r_a11,r_a12,r_a13,r_a14]
  have r_a16:=Eq.refl (UC c)
  conv at r_a16=>rhs;simp only [UC,S0z,allT,OA,u0,u1,u2,u3,u4,u5,u6,u7,u8,u9,r_a0,r_a1,r_a2,r_a3,r_a4,r_a5,r_a6,r_a7,r_a8,r_a9,r_a10,r_a11,r_a12,r_a13,r_a14,r_a15]
  have r_a17:=Eq.refl (UD c)
  conv at r_a17=>rhs;simp only [UD,S0z,allT,OA,u0,u1,u2,u3,u4,u5,u6,u7,u8,u9,r_a0,r_a1,r_a2,r_a3,r_a4,r_a5,r_a6,r_a7,r_a8,r_a9,r_a10,r_a11,r_a12,r_a13,r_a14,r_a15,r_a16]
  have r_a18:=Eq.refl (UE c)
  conv at r_a18=>rhs;simp only [UE,S0z,allT,OA,u0,u1,u2,u3,u4,u5,u6,u7,u8,u9,r_a0,r_a1,r_a2,r_a3,r_a4,r_a5,r_a6,r_a7,r_a8,r_a9,r_a10,r_a11,r_a12,r_a13,r_a14,r_a15,r_a16,r_a17]
  have r_a19:=Eq.refl (UF c)
  conv at r_a19=>rhs;simp only [UF,S0z,allT,OA,u0,u1,u2,u3,u4,u5,u6,u7,u8,u9,r_a0,r_a1,r_a2,r_a3,r_a4,r_a5,r_a6,r_a7,r_a8,r_a9,r_a10,r_a11,r_a12,r_a13,r_a14,r_a15,r_a16,r_a17,r_a18]
  have r_a20:=Eq.refl (UG c)
  conv at r_a20=>rhs;simp only [UG,S0z,allT,OA,u0,u1,u2,u3,u4,u5,u6,u7,u8,u9,r_a0,r_a1,r_a2,r_a3,r_a4,r_a5,r_a6,r_a7,r_a8,r_a9,r_a10,r_a11,r_a12,r_a13,r_a14,r_a15,r_a16,r_a17,r_a18,r_a19]
  have r_a21:=Eq.refl (UH c)
  conv at r_a21=>rhs;simp only [UH,S0z,allT,OA,u0,u1,u2,u3,u4,u5,u6,u7,u8,u9,r_a0,r_a1,r_a2,r_a3,r_a4,r_a5,r_a6,r_a7,r_a8,r_a9,r_a10,r_a11,r_a12,r_a13,r_a14,r_a15,r_a16,r_a17,r_a18,r_a19,r_a20]
  have r_a22:=Eq.refl (UI c)
  conv at r_a22=>rhs;simp only [UI,S0z,allT,OA,u0,u1,u2,u3,u4,u5,u6,u7,u8,u9,r_a0,r_a1,r_a2,r_a3,r_a4,r_a5,r_a6,r_a7,r_a8,r_a9,r_a10,r_a11,r_a12,r_a13,r_a14,r_a15,r_a16,r_a17,r_a18,r_a19,r_a20,r_a21]
  have r_a23:=Eq.refl (UJ c)
  conv at r_a23=>rhs;simp only [UJ,S0z,allT,OA,u0,u1,u2,u3,u4,u5,u6,u7,u8,u9,r_a0,r_a1,r_a2,r_a3,r_a4,r_a5,r_a6,r_a7,r_a8,r_a9,r_a10,r_a11,r_a12,r_a13,r_a14,r_a15,r_a16,r_a17,r_a18,r_a19,r_a20,r_a21,r_a22]
  have r_a24:=Eq.refl (UK c)
  conv at r_a24=>rhs;simp only [UK,S0z,allT,OA,u0,u1,u2,u3,u4,u5,u6,u7,u8,u9,r_a0,r_a1,r_a2,r_a3,r_a4,r_a5,r_a6,r_a7,r_a8,r_a9,r_a10,r_a11,r_a12,r_a13,r_a14,r_a15,r_a16,r_a17,r_a18,r_a19,r_a20,r_a21,r_a22,r_a23]
  have r_a25:=Eq.refl (UL c)
  conv at r_a25=>rhs;simp only [UL,S0z,allT,OA,u0,u1,u2,u3,u4,u5,u6,u7,u8,u9,r_a0,r_a1,r_a2,r_a3,r_a4,r_a5,r_a6,r_a7,r_a8,r_a9,r_a10,r_a11,r_a12,r_a13,r_a14,r_a15,r_a16,r_a17,r_a18,r_a19,r_a20,r_a21,r_a22,r_a23,r_a24]
  have r_a26:=Eq.refl (UM c)
  conv at r_a26=>rhs;simp only [UM,S0z,allT,OA,u0,u1,u2,u3,u4,u5,u6,u7,u8,u9,r_a0,r_a1,r_a2,r_a3,r_a4,r_a5,r_a6,r_a7,r_a8,r_a9,r_a10,r_a11,r_a12,r_a13,r_a14,r_a15,r_a16,r_a17,r_a18,r_a19,r_a20,r_a21,r_a22,r_a23,r_a24,r_a25]
  have r_a27:=Eq.refl (UN c)
  conv at r_a27=>rhs;simp only [UN,S0z,allT,OA,u0,u1,u2,u3,u4,u5,u6,u7,u8,u9,r_a0,r_a1,r_a2,r_a3,r_a4,r_a5,r_a6,r_a7,r_a8,r_a9,r_a10,r_a11,r_a12,r_a13,r_a14,r_a15,r_a16,r_a17,r_a18,r_a19,r_a20,r_a21,r_a22,r_a23,r_a24,r_a25,r_a26]
  have r_a28:=Eq.refl (Kc c)
  conv at r_a28=>rhs;simp only [Kc,S0z,allT,OA,u0,u1,u2,u3,u4,u5,u6,u7,u8,u9,r_a0,r_a1,r_a2,r_a3,r_a4,r_a5,r_a6,r_a7,r_a8,r_a9,r_a10,r_a11,r_a12,r_a13,r_a14,r_a15,r_a16,r_a17,r_a18,r_a19,r_a20,r_a21,r_a22,r_a23,r_a24,r_a25,r_a26,r_a27]
  have r_a29:=Eq.refl (PA c)
  conv at r_a29=>rhs;simp only [PA,S0z,allT,OA,u0,u1,u2,u3,u4,u5,u6,u7,u8,u9,r_a0,r_a1,r_a2,r_a3,r_a4,r_a5,r_a6,r_a7,r_a8,r_a9,r_a10,r_a11,r_a12,r_a13,r_a14,r_a15,r_a16,r_a17,r_a18,r_a19,r_a20,r_a21,r_a22,r_a23,r_a24,r_a25,r_a26,r_a27,r_a28]
  cases hB:rrB n mode day ps fs rs lf pl ls xs with
  |false=>
   have hc:(rrC n mode day ps fs rs lf pl ls xs !=0)=true:=by rw [apF,hB];rfl
   refine⟨?_,?_⟩ <;> simp only [LX,LY,S0z,allT,OA,hsrc,u0,u1,u2,u3,u4,u5,u6,u7,u8,u9,hN,e1,nS,hV1,eqVV,tI,hc,r_a0,r_a1,r_a2,r_a3,r_a4,r_a5,r_a6,r_a7,r_a8,r_a9,r_a10,r_a11,r_a12,r_a13,r_a14,r_a15,r_a16,r_a17,r_a18,r_a19,r_a20,r_a21,r_a22,r_a23,r_a24,r_a25,r_a26,r_a27,r_a28,r_a29]
  |true=>
   have hc:(rrC n mode day ps fs rs lf pl ls xs !=0)=false:=by rw [apF,hB];rfl
   obtain⟨f,hl2,hX⟩:=aqU hB
   cases hS:SA n ps fs rs lf mode pl ls day with
   |false=>
    refine⟨?_,?_⟩ <;> simp only [LX,LY,S0z,allT,OA,hsrc,u0,u1,u2,u3,u4,u5,u6,u7,u8,u9,hN,e1,nS,hV1,eqVV,tI,hc,hS,r_a0,r_a1,r_a2,r_a3,r_a4,r_a5,r_a6,r_a7,r_a8,r_a9,r_a10,r_a11,r_a12,r_a13,r_a14,r_a15,r_a16,r_a17,r_a18,r_a19,r_a20,r_a21,r_a22,r_a23,r_a24,r_a25,r_a26,r_a27,r_a28,r_a29]
   |true=>
    cases hT:wi n mode day ps fs rs lf pl ls with
    |false=>
     refine⟨?_,?_⟩ <;> simp only [LX,LY,S0z,allT,OA,hsrc,u0,u1,u2,u3,u4,u5,u6,u7,u8,u9,hN,e1,nS,hV1,eqVV,tI,hc,hS,hT,r_a0,r_a1,r_a2,r_a3,r_a4,r_a5,r_a6,r_a7,r_a8,r_a9,r_a10,r_a11,r_a12,r_a13,r_a14,r_a15,r_a16,r_a17,r_a18,r_a19,r_a20,r_a21,r_a22,r_a23,r_a24,r_a25,r_a26,r_a27,r_a28,r_a29]
    |true=>
     rw [t0,anx,ajs f,Bool.true_and,Bool.and_eq_true]at hT
     have hS':=hS
     rw [SA,ajs f,Bool.true_and]at hS'
     obtain⟨l1,l2,l3,l4⟩:=axa f (asS.1 hS') hT.1 hT.2 xs (by omega) hX
     have m0:rrN n mode day ps fs rs lf pl ls xs=n:=by rw [rrN,hB];rfl
     have m1:rrM n mode day ps fs rs lf pl ls xs=(rrE n mode day ps fs rs lf pl ls xs).1:=by rw [rrM,hB];rfl
     have m2:rrD n mode day ps fs rs lf pl ls xs=day:=by rw [rrD,hB];rfl
     have m3:rrP n mode day ps fs rs lf pl ls xs=(rrE n mode day ps fs rs lf pl ls xs).2.1:=by rw [rrP,hB];rfl
     have m4:rrF n mode day ps fs rs lf pl ls xs=fs:=by rw [rrF,hB];rfl
     have m5:rrR n mode day ps fs rs lf pl ls xs=(rrE n mode day ps fs rs lf pl ls xs).2.2.1:=by rw [rrR,hB];rfl
     have m6:rrL n mode day ps fs rs lf pl ls xs=lf:=by rw [rrL,hB];rfl
     have m7:RJ n mode day ps fs rs lf pl ls xs=pl:=by rw [RJ,hB];rfl
     have m8:RI n mode day ps fs rs lf pl ls xs=ls:=by rw [RI,hB];rfl
     have m9:rrV n mode day ps fs rs lf pl ls xs=(rrE n mode day ps fs rs lf pl ls xs).2.2.2.1:=by rw [rrV,hB];rfl
     have hT2:wi n mode day ps fs rs lf pl ls=true:=by rw [t0,anx,ajs f,hT.1,hT.2];rfl
     have z1:SA n (rrE n mode day ps fs rs lf pl ls xs).2.1 fs (rrE n mode day ps fs rs lf pl ls xs).2.2.1 lf (rrE n mode day ps fs rs lf pl ls xs).1 pl ls day=true:=by rw [SA,ajs l4,Bool.true_and];exact asS.2 l3
     have z2:=l4.rN
     have z3:=aqk n (rrE n mode day ps fs rs lf pl ls xs).1 day _ _ _ _ _ _ z2
     have z4:leN (rrE n mode day ps fs rs lf pl ls xs).2.2.2.1.length 9223372036854775807=true:=by rw [← m9];exact hV1
     have z5:eqL (rrE n mode day ps fs rs lf pl ls xs).2.2.2.1 (rrE n mode day ps fs rs lf pl ls xs).2.2.2.1=true:=by simp [eqL]
     have z6:Nat.beq 1 0=false:=rfl
     refine⟨?_,?_⟩ <;> simp only [LX,LY,S0z,allT,OA,hsrc,u0,u1,u2,u3,u4,u5,u6,u7,u8,u9,hN,tI,hc,hS,hT2,l1,l2,m0,m1,m2,m3,m4,m5,m6,m7,m8,m9,z1,z2,z3,z4,z5,z6,r_a0,r_a1,r_a2,r_a3,r_a4,r_a5,r_a6,r_a7,r_a8,r_a9,r_a10,r_a11,r_a12,r_a13,r_a14,r_a15,r_a16,r_a17,r_a18,r_a19,r_a20,r_a21,r_a22,r_a23,r_a24,r_a25,r_a26,r_a27,r_a28,r_a29]
end Go.SX
