/- What functions of the program come to, and what that says in plain words: part 2. -/
import Derived.Test.YtbajbgcdcaknpaaGreatDoorMa
import Derived.Test.YtbajbgcdcaknpaaGreatDoorTXh
import Derived.Test.YtbajbgcdcaknpaaGreatDoorProg
set_option linter.unusedSimpArgs false
set_option linter.unusedVariables false
namespace Go.SX
open Go.Proofs
set_option maxRecDepth 100000
def ahW(xs ys:List (Int×Int)):Bool:=decide (xs=ys)
def lL(y1:List (Int×(Int×Int)))(b:Nat):(List (Int×(Int×Int)))→Nat ⊕ (List (Int×(Int×Int)))
 |y2=>(.inr (List.set y2 b ((Option.getD y1[b]? ((0:Int),(0:Int),(0:Int))).1,((Option.getD y1[b]? ((0:Int),(0:Int),(0:Int))).2).1,(Option.getD y1[b]? ((0:Int),(0:Int),(0:Int))).2.2)))
def iZ(y1:List (Int×(Int×Int)))(i:Nat):(List (Int×(Int×Int)))→gn
 |y2=>((i:Int),y1,y2)
def Fq:gn→List (Int×(Int×Int))
 |(_,_,y2)=>y2
theorem ZO(y1 y2:List (Int×(Int×Int)))(hn:y1.length≤9223372036854775807)(hl:y2.length=y1.length):
  bY.fin ((0:Int),y1,y2)=true∧bY.res ((0:Int),y1,y2)=((ag (lL y1) 0 (List.range y1.length) 0 y2).1,(iZ y1) (ag (lL y1) 0 (List.range y1.length) 0 y2).2.1 (ag (lL y1) 0 (List.range y1.length) 0 y2).2.2):=by
 have key:=bY.along (iZ y1) Fq (lL y1) 0 (fun _ a=>a.length=y1.length) (List.range y1.length) y2 hl (by simp only [bY,iZ,List.length_range];omega) (fun i b a hb hI=> ?_) (fun a hI=> ?_)
 ·exact key
 ·obtain y2:=a
  obtain⟨rfl,hlt⟩:=fU hb
  have hw:IntKind.i64.wrap ((b:Int) + 1)=((b + 1:Nat):Int):=by rw [aA (by omega) (by omega)];omega
  have hdec:ltI (b:Int) (y1.length:Int)=true:=ce (by omega)
  have hnn:leI (0:Int) (b:Int)=true:=bH (by omega)
  have hltd:ltN b y1.length=true:=cM (by omega)
  refine⟨?_,?_,?_,?_⟩
  ·simp [kG,po,pp,tc,td,te,tf,tg,sc,bY,LT.nds,allT,iZ,hdec,hnn,hltd,hI]
  ·simp [kG,po,pp,tc,td,te,tf,tg,sc,bY,LT.each,iZ,Fq,hw,hI]
  ·simp only [kG,po,pp,tc,td,te,tf,tg,sc,bY,LT.fn,iZ,Fq,lL,Int.toNat_natCast,hdec,cond_true]
  ·intro a' hf;simp only [lL,Sum.inr.injEq]at hf;subst hf;simpa using hI
 ·obtain y2:=a
  simp [kG,po,pp,tc,td,te,tf,tg,sc,bY,LT.out,iZ,List.length_range]
def pj(y1 y2:List (Int×(Int×Int)))(b:Nat):(Unit)→Nat ⊕ (Unit)
 |_=>(bif(!Bd ((Option.getD y1[b]? ((0:Int),(0:Int),(0:Int))).1) (((Option.getD y1[b]? ((0:Int),(0:Int),(0:Int))).2).1) ((Option.getD y1[b]? ((0:Int),(0:Int),(0:Int))).2.2) ((Option.getD y2[b]? ((0:Int),(0:Int),(0:Int))).1) (((Option.getD y2[b]? ((0:Int),(0:Int),(0:Int))).2).1) ((Option.getD y2[b]? ((0:Int),(0:Int),(0:Int))).2.2))then(.inl 0)else(.inr ()))
def kO(y1 y2:List (Int×(Int×Int)))(i:Nat):(Unit)→gm
 |_=>((i:Int),y1,y2)
def Fp:gm→Unit
 |(_,_,_)=>()
theorem ZN(y1 y2:List (Int×(Int×Int))) (hn:y1.length≤9223372036854775807) (he:y2.length=y1.length):
  bI.fin ((0:Int),y1,y2)=true∧bI.res ((0:Int),y1,y2)=((ag (pj y1 y2) 1 (List.range y1.length) 0 ()).1,(kO y1 y2) (ag (pj y1 y2) 1 (List.range y1.length) 0 ()).2.1 (ag (pj y1 y2) 1 (List.range y1.length) 0 ()).2.2):=by
 have key:=bI.along (kO y1 y2) Fp (pj y1 y2) 1 (fun _ _=>True) (List.range y1.length) () (by trivial) (by simp only [bI,kO,List.length_range];omega) (fun i b a hb hI=> ?_) (fun a hI=> ?_)
 ·exact key
 ·obtain⟨⟩:=a
  obtain⟨rfl,hlt⟩:=fU hb
  have hw:IntKind.i64.wrap ((b:Int) + 1)=((b + 1:Nat):Int):=by rw [aA (by omega) (by omega)];omega
  have hdec:ltI (b:Int) (y1.length:Int)=true:=ce (by omega)
  have hnn:leI (0:Int) (b:Int)=true:=bH (by omega)
  have hltd:ltN b y1.length=true:=cM (by omega)
  refine⟨?_,?_,?_,?_⟩
  ·simp [kD,kE,pm,pn,sZ,s5,s8,s9,ta,sb,bI,LT.nds,allT,kO,hdec,hnn,hltd,he]
  ·simp [kD,kE,pm,pn,sZ,s5,s8,s9,ta,sb,bI,LT.each,kO,Fp,hw,he]
  ·simp only [kD,kE,pm,pn,sZ,s5,s8,s9,ta,sb,bI,LT.fn,kO,Fp,pj,Int.toNat_natCast,hdec,cond_true]
  ·exact fun _ _=>trivial
 ·obtain⟨⟩:=a
  simp [kD,kE,pm,pn,sZ,s5,s8,s9,ta,sb,bI,LT.out,kO,List.length_range]
theorem arL(xs:List (Int×Int×Int))(hn:leN xs.length 1048576=true):ES xs=xs∧ET xs=true:=by
 have hn:=cu.1 hn
 have hr:(List.replicate (Int.toNat (xs.length:Int)) ((0:Int),(0:Int),(0:Int))).length=xs.length:=by simp
 obtain⟨w1,w2⟩:=ZO xs (List.replicate (Int.toNat (xs.length:Int)) ((0:Int),(0:Int),(0:Int))) (by omega) hr
 have hc:=Nr (xs:=xs) (d:=((0:Int),(0:Int),(0:Int))) (g:=fun x=>x) (f:=lL xs) (e:=0) (fun b a=>rfl) hr
 rw [hc]at w2
 refine⟨?_,?_⟩
 ·simp only [Dg,ES,ET,w2,iZ];simp
 ·simp only [Dg,ES,ET,w1,allT];simp;omega
def Sy:List SV→List Entry→Option Out
 | [.one ⟨false,[.ref 0]⟩],[.row false 208 (.pair (.int .i64) (.pair (.int .i64) (.int .i64))) x0]=>some ⟨(.one ⟨false,[(.ref 1)]⟩),[(.row false 208 asX x0)],[(.row true 100 asX x0)],[leN x0.length 1048576]⟩
 |_,_=>none
def KG:PF Tryz.prog:=PF.alt ael Sy (by
 intro args es o h hnd;unfold Sy at h;split at h
 ·rename_i x0
  cases h
  have hnd:=cf hnd
  have hh:=arL x0 hnd
  obtain⟨e0,en⟩:=hh
  exact eT rfl (cg en) rfl rfl (by simp only [e0] <;> rfl)
 ·cases h)
theorem arg(xs ys:List (Int×Int×Int))(hn:leN xs.length 9223372036854775807=true):EI xs ys=PA xs ys∧EJ xs ys=true:=by
 have hn:=cu.1 hn
 unfold PA
 have h3: ∀ a b:Int×Int×Int,(!Bd a.1 a.2.1 a.2.2 b.1 b.2.1 b.2.2)= !decide (a=b):=fun a b=>by
  obtain⟨a1,a2,a3⟩:=a;obtain⟨b1,b2,b3⟩:=b
  simp only [Bd,Prod.mk.injEq]
  by_cases h1:a1=b1 <;> by_cases h2:a2=b2 <;> by_cases h3:a3=b3 <;> simp [h1,h2,h3]
 by_cases hl:ys.length=xs.length
 ·obtain⟨w1,w2⟩:=ZN xs ys hn hl
  have ha:=ahM (d:=((0:Int),(0:Int),(0:Int))) hl (P:=fun b=> !decide (Option.getD xs[b]? (0,0,0)=Option.getD ys[b]? (0,0,0))) (fun b=>rfl)
  rw [kf (P:=fun b=> !decide (Option.getD xs[b]? (0,0,0)=Option.getD ys[b]? (0,0,0))) (j:=0) (fun b=>by simp only [pj,h3]),ha]at w2
  simp only [CN,CO,EI,EJ,w1,w2,allT]
  by_cases he:xs=ys
  ·subst he;simp;decide
  ·simp [he,hl]
 ·have hne:xs≠ys:=fun h=>hl (by rw [h])
  simp [CN,CO,EI,EJ,allT,hne]
  omega
def Sx:List SV→List Entry→Option Out
 | [.one ⟨false,[.ref 0]⟩,.one ⟨false,[.ref 1]⟩],[.row false 100 (.pair (.int .i64) (.pair (.int .i64) (.int .i64))) x0,.row false 100 (.pair (.int .i64) (.pair (.int .i64) (.int .i64))) x1]=>some ⟨(.one ⟨false,[(.val (.bool (PA x0 x1)))]⟩),[(.row false 100 asX x0),(.row false 100 asX x1)],[],[leN x0.length 9223372036854775807]⟩
 |_,_=>none
def KF:PF Tryz.prog:=PF.alt aek Sx (by
 intro args es o h hnd;unfold Sx at h;split at h
 ·rename_i x0 x1
  cases h
  have hnd:=cf hnd
  have hh:=arg x0 x1 hnd
  obtain⟨e0,en⟩:=hh
  exact eT rfl (cg en) (by simp only [e0] <;> rfl) rfl rfl
 ·cases h)
def sR(y1:List (Int×Int))(b:Nat):(List (Int×Int))→Nat ⊕ (List (Int×Int))
 |y2=>(.inr (List.set y2 b ((Option.getD y1[b]? ((0:Int),(0:Int))).1,(Option.getD y1[b]? ((0:Int),(0:Int))).2)))
def pc(y1:List (Int×Int))(i:Nat):(List (Int×Int))→kU
 |y2=>((i:Int),y1,y2)
def MA:kU→List (Int×Int)
 |(_,_,y2)=>y2
theorem ahE(y1 y2:List (Int×Int))(hn:y1.length≤9223372036854775807)(hl:y2.length=y1.length):
  fS.fin ((0:Int),y1,y2)=true∧fS.res ((0:Int),y1,y2)=((ag (sR y1) 0 (List.range y1.length) 0 y2).1,(pc y1) (ag (sR y1) 0 (List.range y1.length) 0 y2).2.1 (ag (sR y1) 0 (List.range y1.length) 0 y2).2.2):=by
 have key:=fS.along (pc y1) MA (sR y1) 0 (fun _ a=>a.length=y1.length) (List.range y1.length) y2 hl (by simp only [fS,pc,List.length_range];omega) (fun i b a hb hI=> ?_) (fun a hI=> ?_)
 ·exact key
 ·obtain y2:=a
  obtain⟨rfl,hlt⟩:=fU hb
  have hw:IntKind.i64.wrap ((b:Int) + 1)=((b + 1:Nat):Int):=by rw [aA (by omega) (by omega)];omega
  have hdec:ltI (b:Int) (y1.length:Int)=true:=ce (by omega)
  have hnn:leI (0:Int) (b:Int)=true:=bH (by omega)
  have hltd:ltN b y1.length=true:=cM (by omega)
  refine⟨?_,?_,?_,?_⟩
  ·simp [vf,xL,xM,Dn,Do,Dp,Dq,Dr,Bt,fS,LT.nds,allT,pc,hdec,hnn,hltd,hI]
  ·simp [vf,xL,xM,Dn,Do,Dp,Dq,Dr,Bt,fS,LT.each,pc,MA,hw,hI]
  ·simp only [vf,xL,xM,Dn,Do,Dp,Dq,Dr,Bt,fS,LT.fn,pc,MA,sR,Int.toNat_natCast,hdec,cond_true]
  ·intro a' hf;simp only [sR,Sum.inr.injEq]at hf;subst hf;simpa using hI
 ·obtain y2:=a
  simp [vf,xL,xM,Dn,Do,Dp,Dq,Dr,Bt,fS,LT.out,pc,List.length_range]
def xx(y1 y2:List (Int×Int))(b:Nat):(Unit)→Nat ⊕ (Unit)
 |_=>(bif(!Lk ((Option.getD y1[b]? ((0:Int),(0:Int))).1) ((Option.getD y1[b]? ((0:Int),(0:Int))).2) ((Option.getD y2[b]? ((0:Int),(0:Int))).1) ((Option.getD y2[b]? ((0:Int),(0:Int))).2))then(.inl 0)else(.inr ()))
def rH(y1 y2:List (Int×Int))(i:Nat):(Unit)→kS
 |_=>((i:Int),y1,y2)
def My:kS→Unit
 |(_,_,_)=>()
theorem ahC(y1 y2:List (Int×Int)) (hn:y1.length≤9223372036854775807) (he:y2.length=y1.length):
  eB.fin ((0:Int),y1,y2)=true∧eB.res ((0:Int),y1,y2)=((ag (xx y1 y2) 1 (List.range y1.length) 0 ()).1,(rH y1 y2) (ag (xx y1 y2) 1 (List.range y1.length) 0 ()).2.1 (ag (xx y1 y2) 1 (List.range y1.length) 0 ()).2.2):=by
 have key:=eB.along (rH y1 y2) My (xx y1 y2) 1 (fun _ _=>True) (List.range y1.length) () (by trivial) (by simp only [eB,rH,List.length_range];omega) (fun i b a hb hI=> ?_) (fun a hI=> ?_)
 ·exact key
 ·obtain⟨⟩:=a
  obtain⟨rfl,hlt⟩:=fU hb
  have hw:IntKind.i64.wrap ((b:Int) + 1)=((b + 1:Nat):Int):=by rw [aA (by omega) (by omega)];omega
  have hdec:ltI (b:Int) (y1.length:Int)=true:=ce (by omega)
  have hnn:leI (0:Int) (b:Int)=true:=bH (by omega)
  have hltd:ltN b y1.length=true:=cM (by omega)
  refine⟨?_,?_,?_,?_⟩
  ·simp [va,vb,xE,xF,CU,CV,CW,CX,CY,Br,eB,LT.nds,allT,rH,hdec,hnn,hltd,he]
  ·simp [va,vb,xE,xF,CU,CV,CW,CX,CY,Br,eB,LT.each,rH,My,hw,he]
  ·simp only [va,vb,xE,xF,CU,CV,CW,CX,CY,Br,eB,LT.fn,rH,My,xx,Int.toNat_natCast,hdec,cond_true]
  ·exact fun _ _=>trivial
 ·obtain⟨⟩:=a
  simp [va,vb,xE,xF,CU,CV,CW,CX,CY,Br,eB,LT.out,rH,List.length_range]
theorem arO(xs:List (Int×Int))(hn:leN xs.length 1048576=true):NT xs=xs∧NU xs=true:=by
 have hn:=cu.1 hn
 have hr:(List.replicate (Int.toNat (xs.length:Int)) ((0:Int),(0:Int))).length=xs.length:=by simp
 obtain⟨w1,w2⟩:=ahE xs (List.replicate (Int.toNat (xs.length:Int)) ((0:Int),(0:Int))) (by omega) hr
 have hc:=Nr (xs:=xs) (d:=((0:Int),(0:Int))) (g:=fun x=>x) (f:=sR xs) (e:=0) (fun b a=>rfl) hr
 rw [hc]at w2
 refine⟨?_,?_⟩
 ·simp only [LU,NT,NU,w2,pc];simp
 ·simp only [LU,NT,NU,w1,allT];simp;omega
def ab7:List SV→List Entry→Option Out
 | [.one ⟨false,[.ref 0]⟩],[.row false 210 (.pair (.int .i64) (.int .i64)) x0]=>some ⟨(.one ⟨false,[(.ref 1)]⟩),[(.row false 210 asY x0)],[(.row true 173 asY x0)],[leN x0.length 1048576]⟩
 |_,_=>none
def Ue:PF Tryz.prog:=PF.alt akB ab7 (by
 intro args es o h hnd;unfold ab7 at h;split at h
 ·rename_i x0
  cases h
  have hnd:=cf hnd
  have hh:=arO x0 hnd
  obtain⟨e0,en⟩:=hh
  exact eT rfl (cg en) rfl rfl (by simp only [e0] <;> rfl)
 ·cases h)
theorem arj(xs ys:List (Int×Int))(hn:leN xs.length 9223372036854775807=true):NM xs ys=ahW xs ys∧NN xs ys=true:=by
 have hn:=cu.1 hn
 unfold ahW
 have h3: ∀ a b:Int×Int,(!Lk a.1 a.2 b.1 b.2)= !decide (a=b):=fun a b=>by
  obtain⟨a1,a2⟩:=a;obtain⟨b1,b2⟩:=b
  simp only [Lk,Prod.mk.injEq]
  by_cases h1:a1=b1 <;> by_cases h2:a2=b2 <;> simp [h1,h2]
 by_cases hl:ys.length=xs.length
 ·obtain⟨w1,w2⟩:=ahC xs ys hn hl
  have ha:=ahM (d:=((0:Int),(0:Int))) hl (P:=fun b=> !decide (Option.getD xs[b]? (0,0)=Option.getD ys[b]? (0,0))) (fun b=>rfl)
  rw [kf (P:=fun b=> !decide (Option.getD xs[b]? (0,0)=Option.getD ys[b]? (0,0))) (j:=0) (fun b=>by simp only [xx,h3]),ha]at w2
  simp only [LO,LP,NM,NN,w1,w2,allT]
  by_cases he:xs=ys
  ·subst he;simp;decide
  ·simp [he,hl]
 ·have hne:xs≠ys:=fun h=>hl (by rw [h])
  simp [LO,LP,NM,NN,allT,hne]
  omega
def ab5:List SV→List Entry→Option Out
 | [.one ⟨false,[.ref 0]⟩,.one ⟨false,[.ref 1]⟩],[.row false 173 (.pair (.int .i64) (.int .i64)) x0,.row false 173 (.pair (.int .i64) (.int .i64)) x1]=>some ⟨(.one ⟨false,[(.val (.bool (ahW x0 x1)))]⟩),[(.row false 173 asY x0),(.row false 173 asY x1)],[],[leN x0.length 9223372036854775807]⟩
 |_,_=>none
def Uc:PF Tryz.prog:=PF.alt akz ab5 (by
 intro args es o h hnd;unfold ab5 at h;split at h
 ·rename_i x0 x1
  cases h
  have hnd:=cf hnd
  have hh:=arj x0 x1 hnd
  obtain⟨e0,en⟩:=hh
  exact eT rfl (cg en) (by simp only [e0] <;> rfl) rfl rfl
 ·cases h)
def sQ(y1:List (Int×Int))(b:Nat):(List (Int×Int))→Nat ⊕ (List (Int×Int))
 |y2=>(.inr (List.set y2 b ((Option.getD y1[b]? ((0:Int),(0:Int))).1,(Option.getD y1[b]? ((0:Int),(0:Int))).2)))
def pb(y1:List (Int×Int))(i:Nat):(List (Int×Int))→kT
 |y2=>((i:Int),y1,y2)
def Mz:kT→List (Int×Int)
 |(_,_,y2)=>y2
theorem ahD(y1 y2:List (Int×Int))(hn:y1.length≤9223372036854775807)(hl:y2.length=y1.length):
  fR.fin ((0:Int),y1,y2)=true∧fR.res ((0:Int),y1,y2)=((ag (sQ y1) 0 (List.range y1.length) 0 y2).1,(pb y1) (ag (sQ y1) 0 (List.range y1.length) 0 y2).2.1 (ag (sQ y1) 0 (List.range y1.length) 0 y2).2.2):=by
 have key:=fR.along (pb y1) Mz (sQ y1) 0 (fun _ a=>a.length=y1.length) (List.range y1.length) y2 hl (by simp only [fR,pb,List.length_range];omega) (fun i b a hb hI=> ?_) (fun a hI=> ?_)
 ·exact key
 ·obtain y2:=a
  obtain⟨rfl,hlt⟩:=fU hb
  have hw:IntKind.i64.wrap ((b:Int) + 1)=((b + 1:Nat):Int):=by rw [aA (by omega) (by omega)];omega
  have hdec:ltI (b:Int) (y1.length:Int)=true:=ce (by omega)
  have hnn:leI (0:Int) (b:Int)=true:=bH (by omega)
  have hltd:ltN b y1.length=true:=cM (by omega)
  refine⟨?_,?_,?_,?_⟩
  ·simp [ve,xJ,xK,Dh,Di,Dj,Dk,Dm,Bs,fR,LT.nds,allT,pb,hdec,hnn,hltd,hI]
  ·simp [ve,xJ,xK,Dh,Di,Dj,Dk,Dm,Bs,fR,LT.each,pb,Mz,hw,hI]
  ·simp only [ve,xJ,xK,Dh,Di,Dj,Dk,Dm,Bs,fR,LT.fn,pb,Mz,sQ,Int.toNat_natCast,hdec,cond_true]
  ·intro a' hf;simp only [sQ,Sum.inr.injEq]at hf;subst hf;simpa using hI
 ·obtain y2:=a
  simp [ve,xJ,xK,Dh,Di,Dj,Dk,Dm,Bs,fR,LT.out,pb,List.length_range]
def xw(y1 y2:List (Int×Int))(b:Nat):(Unit)→Nat ⊕ (Unit)
 |_=>(bif(!Lj ((Option.getD y1[b]? ((0:Int),(0:Int))).1) ((Option.getD y1[b]? ((0:Int),(0:Int))).2) ((Option.getD y2[b]? ((0:Int),(0:Int))).1) ((Option.getD y2[b]? ((0:Int),(0:Int))).2))then(.inl 0)else(.inr ()))
def rG(y1 y2:List (Int×Int))(i:Nat):(Unit)→kR
 |_=>((i:Int),y1,y2)
def Mx:kR→Unit
 |(_,_,_)=>()
theorem ahB(y1 y2:List (Int×Int)) (hn:y1.length≤9223372036854775807) (he:y2.length=y1.length):
  eA.fin ((0:Int),y1,y2)=true∧eA.res ((0:Int),y1,y2)=((ag (xw y1 y2) 1 (List.range y1.length) 0 ()).1,(rG y1 y2) (ag (xw y1 y2) 1 (List.range y1.length) 0 ()).2.1 (ag (xw y1 y2) 1 (List.range y1.length) 0 ()).2.2):=by
 have key:=eA.along (rG y1 y2) Mx (xw y1 y2) 1 (fun _ _=>True) (List.range y1.length) () (by trivial) (by simp only [eA,rG,List.length_range];omega) (fun i b a hb hI=> ?_) (fun a hI=> ?_)
 ·exact key
 ·obtain⟨⟩:=a
  obtain⟨rfl,hlt⟩:=fU hb
  have hw:IntKind.i64.wrap ((b:Int) + 1)=((b + 1:Nat):Int):=by rw [aA (by omega) (by omega)];omega
  have hdec:ltI (b:Int) (y1.length:Int)=true:=ce (by omega)
  have hnn:leI (0:Int) (b:Int)=true:=bH (by omega)
  have hltd:ltN b y1.length=true:=cM (by omega)
  refine⟨?_,?_,?_,?_⟩
  ·simp [u7,u9,xC,xD,CP,CQ,CR,CS,CT,Bq,eA,LT.nds,allT,rG,hdec,hnn,hltd,he]
  ·simp [u7,u9,xC,xD,CP,CQ,CR,CS,CT,Bq,eA,LT.each,rG,Mx,hw,he]
  ·simp only [u7,u9,xC,xD,CP,CQ,CR,CS,CT,Bq,eA,LT.fn,rG,Mx,xw,Int.toNat_natCast,hdec,cond_true]
  ·exact fun _ _=>trivial
 ·obtain⟨⟩:=a
  simp [u7,u9,xC,xD,CP,CQ,CR,CS,CT,Bq,eA,LT.out,rG,List.length_range]
theorem arM(xs:List (Int×Int))(hn:leN xs.length 1048576=true):NR xs=xs∧NS xs=true:=by
 have hn:=cu.1 hn
 have hr:(List.replicate (Int.toNat (xs.length:Int)) ((0:Int),(0:Int))).length=xs.length:=by simp
 obtain⟨w1,w2⟩:=ahD xs (List.replicate (Int.toNat (xs.length:Int)) ((0:Int),(0:Int))) (by omega) hr
 have hc:=Nr (xs:=xs) (d:=((0:Int),(0:Int))) (g:=fun x=>x) (f:=sQ xs) (e:=0) (fun b a=>rfl) hr
 rw [hc]at w2
 refine⟨?_,?_⟩
 ·simp only [LS,NR,NS,w2,pb];simp
 ·simp only [LS,NR,NS,w1,allT];simp;omega
def ab6:List SV→List Entry→Option Out
 | [.one ⟨false,[.ref 0]⟩],[.row false 212 (.pair (.int .i64) (.int .i64)) x0]=>some ⟨(.one ⟨false,[(.ref 1)]⟩),[(.row false 212 asY x0)],[(.row true 176 asY x0)],[leN x0.length 1048576]⟩
 |_,_=>none
def Ud:PF Tryz.prog:=PF.alt akA ab6 (by
 intro args es o h hnd;unfold ab6 at h;split at h
 ·rename_i x0
  cases h
  have hnd:=cf hnd
  have hh:=arM x0 hnd
  obtain⟨e0,en⟩:=hh
  exact eT rfl (cg en) rfl rfl (by simp only [e0] <;> rfl)
 ·cases h)
theorem arh(xs ys:List (Int×Int))(hn:leN xs.length 9223372036854775807=true):NK xs ys=ahW xs ys∧NL xs ys=true:=by
 have hn:=cu.1 hn
 unfold ahW
 have h3: ∀ a b:Int×Int,(!Lj a.1 a.2 b.1 b.2)= !decide (a=b):=fun a b=>by
  obtain⟨a1,a2⟩:=a;obtain⟨b1,b2⟩:=b
  simp only [Lj,Prod.mk.injEq]
  by_cases h1:a1=b1 <;> by_cases h2:a2=b2 <;> simp [h1,h2]
 by_cases hl:ys.length=xs.length
 ·obtain⟨w1,w2⟩:=ahB xs ys hn hl
  have ha:=ahM (d:=((0:Int),(0:Int))) hl (P:=fun b=> !decide (Option.getD xs[b]? (0,0)=Option.getD ys[b]? (0,0))) (fun b=>rfl)
  rw [kf (P:=fun b=> !decide (Option.getD xs[b]? (0,0)=Option.getD ys[b]? (0,0))) (j:=0) (fun b=>by simp only [xw,h3]),ha]at w2
  simp only [LM,LN,NK,NL,w1,w2,allT]
  by_cases he:xs=ys
  ·subst he;simp;decide
  ·simp [he,hl]
 ·have hne:xs≠ys:=fun h=>hl (by rw [h])
  simp [LM,LN,NK,NL,allT,hne]
  omega
def ab4:List SV→List Entry→Option Out
 | [.one ⟨false,[.ref 0]⟩,.one ⟨false,[.ref 1]⟩],[.row false 176 (.pair (.int .i64) (.int .i64)) x0,.row false 176 (.pair (.int .i64) (.int .i64)) x1]=>some ⟨(.one ⟨false,[(.val (.bool (ahW x0 x1)))]⟩),[(.row false 176 asY x0),(.row false 176 asY x1)],[],[leN x0.length 9223372036854775807]⟩
 |_,_=>none
def Ub:PF Tryz.prog:=PF.alt aky ab4 (by
 intro args es o h hnd;unfold ab4 at h;split at h
 ·rename_i x0 x1
  cases h
  have hnd:=cf hnd
  have hh:=arh x0 x1 hnd
  obtain⟨e0,en⟩:=hh
  exact eT rfl (cg en) (by simp only [e0] <;> rfl) rfl rfl
 ·cases h)
def adf(m:Nat)(rs:List (List Int)):Bool:=leN rs.length m&&rs.all fun x=>leN x.length m
def amg(xs ys:List (List Int)):Bool:=decide (xs=ys)
theorem adg{m:Nat}{rs:List (List Int)}:adf m rs=true↔rs.length≤m∧ ∀ x∈rs,x.length≤m:=by
 simp only [adf,Bool.and_eq_true,cu,List.all_eq_true]
def pG(y1:List (List Int))(b:Nat):(List (List Int))→Nat ⊕ (List (List Int))
 |y2=>(.inr (List.set y2 b (Option.getD y1[b]? (uq (CTy.sl (2:TypeId) asZ)))))
def lD(y1:List (List Int))(i:Nat):(List (List Int))→ja
 |y2=>((i:Int),y1,y2)
def JF:ja→List (List Int)
 |(_,_,y2)=>y2
theorem aeq(y1 y2:List (List Int))(hn:y1.length≤9223372036854775807)(hl:y2.length=y1.length)(hA: ∀ x∈y1,x.length≤1048576):
  dP.fin ((0:Int),y1,y2)=true∧dP.res ((0:Int),y1,y2)=((ag (pG y1) 0 (List.range y1.length) 0 y2).1,(lD y1) (ag (pG y1) 0 (List.range y1.length) 0 y2).2.1 (ag (pG y1) 0 (List.range y1.length) 0 y2).2.2):=by
 have key:=dP.along (lD y1) JF (pG y1) 0 (fun _ a=>a.length=y1.length) (List.range y1.length) y2 hl (by simp only [dP,lD,List.length_range];omega) (fun i b a hb hI=> ?_) (fun a hI=> ?_)
 ·exact key
 ·obtain y2:=a
  obtain⟨rfl,hlt⟩:=fU hb
  have hw:IntKind.i64.wrap ((b:Int) + 1)=((b + 1:Nat):Int):=by rw [aA (by omega) (by omega)];omega
  have hdec:ltI (b:Int) (y1.length:Int)=true:=ce (by omega)
  have hnn:leI (0:Int) (b:Int)=true:=bH (by omega)
  have hltd:ltN b y1.length=true:=cM (by omega)
  refine⟨?_,?_,?_,?_⟩
  ·have hI2:a.length=y1.length:=hI
   have h6:leN (oK (b:Int) y1).length 1048576=true:=gx (by
    simp only [oK,Int.toNat_natCast]
    cases hq:y1[b]? with
    |none=>exact Nat.zero_le _
    |some x=>exact hA x (List.mem_of_getElem? hq))
   simp [tX,tY,yU,yV,yW,yX,wA,dP,LT.nds,allT,lD,hdec,hnn,hltd,hI2,h6]
  ·simp [oK,tX,tY,yU,yV,yW,yX,EQ,ER,wA,dP,LT.each,lD,JF,hw]
  ·simp only [oK,tX,tY,yU,yV,yW,yX,EQ,ER,wA,dP,LT.fn,lD,JF,pG,Int.toNat_natCast,hdec,cond_true]
  ·intro a' hf;simp only [pG,Sum.inr.injEq]at hf;subst hf;simpa using hI
 ·obtain y2:=a
  simp [oK,tX,tY,yU,yV,yW,yX,EQ,ER,wA,dP,LT.out,lD,List.length_range]
theorem arN(xs:List (List Int))(h:adf 1048576 xs=true):Qj xs=xs∧Qk xs=true:=by
 obtain⟨hn,hA⟩:=adg.1 h
 have hr:(List.replicate (Int.toNat (xs.length:Int)) ([]:List Int)).length=xs.length:=by simp
 obtain⟨w1,w2⟩:=aeq xs (List.replicate (Int.toNat (xs.length:Int)) []) (by omega) hr hA
 have hc:=Nr (xs:=xs) (d:=([]:List Int)) (g:=fun x=>x) (f:=pG xs) (e:=0) (fun b a=>rfl) hr
 rw [hc]at w2
 refine⟨?_,?_⟩
 ·simp only [Qj,IA,w2,lD];simp
 ·simp only [Qk,IA,w1,allT];simp;omega
def XM:List SV→List Entry→Option Out
 | [.one ⟨false,[.ref 0]⟩],[.row false 24 (.sl 2 (.int .i64)) x0]=>some ⟨(.one ⟨false,[(.ref 1)]⟩),[(.row false 24 (CTy.sl (2:TypeId) asZ) x0)],[(.tree 24 (CTy.sl (2:Nat) asZ) x0 none)],[adf 1048576 x0]⟩
 |_,_=>none
def Qy:PF Tryz.prog:=PF.alt aix XM (by
 intro args es o h hnd;unfold XM at h;split at h
 ·rename_i x0
  cases h
  have hnd:=cf hnd
  have hh:=arN x0 hnd
  obtain⟨e0,en⟩:=hh
  exact eT rfl (cg en) rfl rfl (by simp only [e0] <;> rfl)
 ·cases h)
def yk(y1 y2:List (List Int))(b:Nat):(Unit)→Nat ⊕ (Unit)
 |_=>(bif(!eqL (Option.getD y1[b]? (uq (CTy.sl (2:TypeId) asZ))) (Option.getD y2[b]? (uq (CTy.sl (2:TypeId) asZ))))then(.inl 0)else(.inr ()))
def pa(y1 y2:List (List Int))(i:Nat):(Unit)→i4
 |_=>((i:Int),y1,y2)
def Jw:i4→Unit
 |(_,_,_)=>()
theorem aem(y1 y2:List (List Int)) (hn:y1.length≤9223372036854775807) (he:y2.length=y1.length) (hA: ∀ x∈y1,x.length≤9223372036854775807):
  cY.fin ((0:Int),y1,y2)=true∧cY.res ((0:Int),y1,y2)=((ag (yk y1 y2) 1 (List.range y1.length) 0 ()).1,(pa y1 y2) (ag (yk y1 y2) 1 (List.range y1.length) 0 ()).2.1 (ag (yk y1 y2) 1 (List.range y1.length) 0 ()).2.2):=by
 have key:=cY.along (pa y1 y2) Jw (yk y1 y2) 1 (fun _ _=>True) (List.range y1.length) () (by trivial) (by simp only [cY,pa,List.length_range];omega) (fun i b a hb hI=> ?_) (fun a hI=> ?_)
 ·exact key
 ·obtain⟨⟩:=a
  obtain⟨rfl,hlt⟩:=fU hb
  have hw:IntKind.i64.wrap ((b:Int) + 1)=((b + 1:Nat):Int):=by rw [aA (by omega) (by omega)];omega
  have hdec:ltI (b:Int) (y1.length:Int)=true:=ce (by omega)
  have hnn:leI (0:Int) (b:Int)=true:=bH (by omega)
  have hltd:ltN b y1.length=true:=cM (by omega)
  refine⟨?_,?_,?_,?_⟩
  ·have h6:leN (ow (b:Int) y1).length 9223372036854775807=true:=gx (by
    simp only [ow,Int.toNat_natCast]
    cases hq:y1[b]? with
    |none=>exact Nat.zero_le _
    |some x=>exact hA x (List.mem_of_getElem? hq))
   simp [tK,tL,yq,yt,yu,yw,wu,cY,LT.nds,allT,pa,hdec,hnn,hltd,he,h6]
  ·simp [ow,tK,tL,yq,yt,yu,yw,EG,EH,wu,cY,LT.each,pa,Jw,hw]
  ·simp only [ow,tK,tL,yq,yt,yu,yw,EG,EH,wu,cY,LT.fn,pa,Jw,yk,Int.toNat_natCast,hdec,cond_true]
  ·exact fun _ _=>trivial
 ·obtain⟨⟩:=a
  simp [ow,tK,tL,yq,yt,yu,yw,EG,EH,wu,cY,LT.out,pa,List.length_range]
theorem ari(xs ys:List (List Int))(h:adf 9223372036854775807 xs=true):Ko xs ys=amg xs ys∧Kp xs ys=true:=by
 obtain⟨hn,hA⟩:=adg.1 h
 unfold amg
 by_cases hl:ys.length=xs.length
 ·obtain⟨w1,w2⟩:=aem xs ys hn hl hA
  have ha:=ahM (d:=([]:List Int)) hl (P:=fun b=> !decide (Option.getD xs[b]? []=Option.getD ys[b]? [])) (fun b=>rfl)
  rw [kf (P:=fun b=> !decide (Option.getD xs[b]? []=Option.getD ys[b]? [])) (j:=0) (fun b=>rfl),ha]at w2
  simp only [Ko,Kp,Iv,NJ,w1,w2,allT]
  by_cases he:xs=ys
  ·subst he;simp;decide
  ·simp [he,hl]
 ·have hne:xs≠ys:=fun h=>hl (by rw [h])
  simp [Ko,Kp,Iv,allT,hne]
  omega
def XC:List SV→List Entry→Option Out
 | [.one ⟨false,[.ref 0]⟩,.one ⟨false,[.ref 1]⟩],[.row false 24 (.sl 2 (.int .i64)) x0,.row false 24 (.sl 2 (.int .i64)) x1]=>some ⟨(.one ⟨false,[(.val (.bool (amg x0 x1)))]⟩),[(.row false 24 (CTy.sl (2:TypeId) asZ) x0),(.row false 24 (CTy.sl (2:TypeId) asZ) x1)],[],[adf 9223372036854775807 x0]⟩
 |_,_=>none
def Qq:PF Tryz.prog:=PF.alt aio XC (by
 intro args es o h hnd;unfold XC at h;split at h
 ·rename_i x0 x1
  cases h
  have hnd:=cf hnd
  have hh:=ari x0 x1 hnd
  obtain⟨e0,en⟩:=hh
  exact eT rfl (cg en) (by simp only [e0] <;> rfl) rfl rfl
 ·cases h)
def szL:Int→List (List Int)→Option Int
 |k,[]=>some k
 |k,x::r=>bif ltI (szV k x) 0 then none else szL (szV k x) r
def MT(k:Int)(rs:List (List Int)):Int:=bif ltI (k - (rs.length:Int)) 0 then -1 else(szL (k - (rs.length:Int)) rs).getD (-1)
theorem aq2{k:Int}{x:List Int}(h:ltI (szV k x) 0=false):(x.length:Int)≤k∧szV k x=k - x.length:=by
 unfold szV at h ⊢
 cases hq:ltI (k - (x.length:Int)) 0 with
 |true=>rw [hq]at h;cases h
 |false=>have:=IB.1 hq;exact⟨by omega,rfl⟩
def je(b:List Int):(Int)→Nat ⊕ (Int)
 |y1=>(bif(ltI (szV y1 b) (0:Int))then(.inl 0)else(.inr (szV y1 b)))
def lC(y2:List (List Int))(i:Nat):(Int)→i9
 |y1=>((i:Int),y1,y2)
def JD:i9→Int
 |(_,y1,_)=>y1
theorem aep(y2:List (List Int))(y1:Int)(hn:y2.length≤9223372036854775807)(hA: ∀ x∈y2,x.length≤9223372036854775807)(hk:0≤y1∧y1≤1048576):
  b9.fin ((0:Int),y1,y2)=true∧b9.res ((0:Int),y1,y2)=((ag (je) 1 y2 0 y1).1,(lC y2) (ag (je) 1 y2 0 y1).2.1 (ag (je) 1 y2 0 y1).2.2):=by
 have key:=b9.along (lC y2) JD (je) 1 (fun _ a=>0≤a∧a≤1048576) y2 y1 hk (by simp only [b9,lC];omega) (fun i b a hb hI=> ?_) (fun a hI=> ?_)
 ·exact key
 ·obtain y1:=a
  have hlt:=(List.getElem?_eq_some_iff.1 hb).1
  have hget: ∀ d,Option.getD y2[i]? d=b:=fun d=>by rw [hb];rfl
  have hw:=py hlt hn
  have hdec:ltI (i:Int) (y2.length:Int)=true:=ce (by omega)
  have hnn:leI (0:Int) (i:Int)=true:=bH (by omega)
  have hltd:ltN i y2.length=true:=cM hlt
  refine⟨?_,?_,?_,?_⟩
  ·have hg2:jw (i:Int) y2=b:=by simp only [jw,Int.toNat_natCast];exact hget _
   have h6:leN b.length 9223372036854775807=true:=gx (hA b (List.mem_of_getElem? hb))
   have h7:leI (-1) a=true:=bH (by have:=hI.1;omega)
   have h8:leI a 1048576=true:=bH hI.2
   simp [tV,EL,EM,EN,wz,b9,LT.nds,allT,lC,hdec,hnn,hltd,hg2,h6,h7,h8]
  ·simp [jw,tV,EL,EM,EN,EO,yT,KE,EP,wz,b9,LT.each,lC,JD,hw]
  ·have hg2:jw (i:Int) y2=b:=by simp only [jw,Int.toNat_natCast];exact hget _
   simp only [tV,EO,EP,wz,b9,LT.fn,lC,JD,je,Int.toNat_natCast,hdec,hg2,cond_true]
  ·intro a' hf;simp only [je]at hf;cases hz:ltI (szV a b) 0 <;> rw [hz]at hf <;> simp at hf;subst hf;have:=aq2 hz;have:=hI.1;have:=hI.2;omega
 ·obtain y1:=a
  simp [jw,tV,EL,EM,EN,EO,yT,KE,EP,wz,b9,LT.out,lC]
theorem apF: ∀ (rs:List (List Int)) (i:Nat) (k:Int),∃ m,ag je 1 rs i k=(match szL k rs with | some v=>1 | none=>0,m,(ag je 1 rs i k).2.2)∧ ∀ v,szL k rs=some v→(ag je 1 rs i k).2.2=v
 | [],i,k=>⟨i,rfl,fun v h=>by simp [szL]at h;simp [ag,h]⟩
 |x::r,i,k=>by
  simp only [ag,je,szL]
  cases hz:ltI (szV k x) 0 with
  |true=>exact⟨i,rfl,fun v h=>by cases h⟩
  |false=>exact apF r (i + 1) (szV k x)
theorem arK(k:Int)(rs:List (List Int))(h:(adf 9223372036854775807 rs&&(leI (-1) k&&leI k 1048576))=true):Qe k rs=MT k rs∧Qf k rs=true:=by
 simp only [Bool.and_eq_true,Td]at h
 obtain⟨hs,h1,h2⟩:=h
 obtain⟨hn,hA⟩:=adg.1 hs
 have e0:Df k rs=k - (rs.length:Int):=by simp only [Df];rw [aA (by omega) (by omega)]
 simp only [Qe,Qf,Iz,e0,MT]
 cases hz:ltI (k - (rs.length:Int)) 0 with
 |true=>simp [allT]
 |false=>
  have:=IB.1 hz
  obtain⟨w1,w2⟩:=aep rs (k - (rs.length:Int)) (by omega) hA ⟨by omega,by omega⟩
  obtain⟨m,e,hv⟩:=apF rs 0 (k - (rs.length:Int))
  rw [w1,w2,e]
  cases hq:szL (k - (rs.length:Int)) rs with
  |none=>simp [allT,Nat.beq,yT]
  |some v=>have:=hv v hq;simp [allT,Nat.beq,lC,this]
def XJ:List SV→List Entry→Option Out
 | [.one ⟨false,[.ref 0]⟩,.one ⟨false,[.val (.int .i64 x0)]⟩],[.row false 24 (.sl 2 (.int .i64)) x1]=>some ⟨(.one ⟨false,[(.val (.int .i64 (MT x0 x1)))]⟩),[(.row false 24 (CTy.sl (2:TypeId) asZ) x1)],[],[adf 9223372036854775807 x1&&(leI (-1) x0&&leI x0 1048576)]⟩
 |_,_=>none
def Qw:PF Tryz.prog:=PF.alt aiu XJ (by
 intro args es o h hnd;unfold XJ at h;split at h
 ·rename_i x0 x1
  cases h
  have hnd:=cf hnd
  have hh:=arK x0 x1 hnd
  obtain⟨e0,en⟩:=hh
  exact eT rfl (cg en) (by simp only [e0] <;> rfl) rfl rfl
 ·cases h)
theorem al2: ∀ (rs:List (List Int)) (k v:Int),szL k rs=some v→0≤k→(∀ x∈rs,(x.length:Int)≤k)∧0≤v∧v≤k
 | [],k,v,h,h0=>by simp [szL]at h;subst h;exact⟨by simp,h0,by omega⟩
 |x::r,k,v,h,h0=>by
  simp only [szL]at h
  cases hz:ltI (szV k x) 0 with
  |true=>rw [hz]at h;cases h
  |false=>
   rw [hz,cond_false]at h
   obtain⟨a1,a2⟩:=aq2 hz
   rw [a2]at h
   obtain⟨b1,b2,b3⟩:=al2 r _ v h (by omega)
   refine⟨fun y hy=> ?_,b2,by omega⟩
   rcases List.mem_cons.1 hy with rfl | hy
   ·exact a1
   ·have:=b1 y hy;omega
theorem akU{k:Int}{rs:List (List Int)}(hk:k≤1048576)(h:ltI (MT k rs) 0=false):adf 1048576 rs=true∧0≤MT k rs∧MT k rs≤k:=by
 have h0:=IB.1 h
 unfold MT at h0 ⊢
 cases hz:ltI (k - (rs.length:Int)) 0 with
 |true=>rw [hz]at h0;simp at h0
 |false=>
  have:=IB.1 hz
  rw [hz,cond_false]at h0
  cases hq:szL (k - (rs.length:Int)) rs with
  |none=>rw [hq]at h0;simp at h0
  |some v=>
   obtain⟨b1,b2,b3⟩:=al2 rs _ v hq (by omega)
   refine⟨adg.2 ⟨by omega,fun x hx=>by have:=b1 x hx;omega⟩,?_,?_⟩
   ·simpa using b2
   ·simp;omega
def nX(b:Int):(Unit)→Nat ⊕ (Unit)
 |_=>(bif(!aI b (0:Int) (2:Int))then(.inl 0)else(.inr ()))
def jU(y1:List Int)(i:Nat):(Unit)→ff
 |_=>((i:Int),y1)
def Ei:ff→Unit
 |(_,_)=>()
theorem YP(y1:List Int) (hn:y1.length≤9223372036854775807):
  bz.fin ((0:Int),y1)=true∧bz.res ((0:Int),y1)=((ag (nX) 1 y1 0 ()).1,(jU y1) (ag (nX) 1 y1 0 ()).2.1 (ag (nX) 1 y1 0 ()).2.2):=by
 have key:=bz.along (jU y1) Ei (nX) 1 (fun _ _=>True) y1 () (by trivial) (by simp only [bz,jU];omega) (fun i b a hb hI=> ?_) (fun a hI=> ?_)
 ·exact key
 ·obtain⟨⟩:=a
  have hlt:=(List.getElem?_eq_some_iff.1 hb).1
  have hget: ∀ d,Option.getD y1[i]? d=b:=fun d=>by rw [hb];rfl
  have hw:=py hlt hn
  have hdec:ltI (i:Int) (y1.length:Int)=true:=ce (by omega)
  have hnn:leI (0:Int) (i:Int)=true:=bH (by omega)
  have hltd:ltN i y1.length=true:=cM hlt
  refine⟨?_,?_,?_,?_⟩
  ·simp [oc,si,sj,sk,sm,rc,bz,LT.nds,allT,jU,hdec,hnn,hltd,hget]
  ·simp [oc,si,sj,sk,sm,rc,bz,LT.each,jU,Ei,hw]
  ·simp only [oc,si,sj,sk,sm,rc,bz,LT.fn,jU,Ei,nX,Int.toNat_natCast,hdec,hnn,hltd,hget,cond_true,Bool.cond_self]
  ·exact fun _ _=>trivial
 ·obtain⟨⟩:=a
  simp [oc,si,sj,sk,sm,rc,bz,LT.out,jU]
def dm(b:Int):(Unit)→Nat ⊕ (Unit)
 |_=>(bif(rg b)then(.inl 0)else(.inr ()))
def br(y2:List Int)(i:Nat):(Unit)→aV
 |_=>((i:Int),(↑y2.length:Int),y2)
def m7:aV→Unit
 |(_,_,_)=>()
theorem IO(y2:List Int) (hn:y2.length≤9223372036854775807):
  ao.fin ((0:Int),(↑y2.length:Int),y2)=true∧ao.res ((0:Int),(↑y2.length:Int),y2)=((ag (dm) 1 y2 0 ()).1,(br y2) (ag (dm) 1 y2 0 ()).2.1 (ag (dm) 1 y2 0 ()).2.2):=by
 have key:=ao.along (br y2) m7 (dm) 1 (fun _ _=>True) y2 () (by trivial) (by simp only [ao,br];omega) (fun i b a hb hI=> ?_) (fun a hI=> ?_)
 ·exact key
 ·obtain⟨⟩:=a
  have hlt:=(List.getElem?_eq_some_iff.1 hb).1
  have hget: ∀ d,Option.getD y2[i]? d=b:=fun d=>by rw [hb];rfl
  have hw:=py hlt hn
  have hdec:ltI (i:Int) (y2.length:Int)=true:=ce (by omega)
  have hnn:leI (0:Int) (i:Int)=true:=bH (by omega)
  have hltd:ltN i y2.length=true:=cM hlt
  refine⟨?_,?_,?_,?_⟩
  ·simp [fY,fZ,f4,f6,f9,gc,fC,ao,LT.nds,allT,br,hdec,hnn,hltd,hget]
  ·simp [fY,fZ,f4,f6,f9,gc,fC,ao,LT.each,br,m7,hw]
  ·simp only [fY,fZ,f4,f6,f9,gc,fC,ao,LT.fn,br,m7,dm,Int.toNat_natCast,hdec,hnn,hltd,hget,cond_true,Bool.cond_self]
  ·exact fun _ _=>trivial
 ·obtain⟨⟩:=a
  simp [fY,fZ,f4,f6,f9,gc,fC,ao,LT.out,br]
def zG(b:Int×Int):(Unit)→Nat ⊕ (Unit)
 |_=>(bif(bif(!aI b.1 (1:Int) (366:Int))then true else !aI b.2 (0:Int) (100000:Int))then(.inl 0)else(.inr ()))
def tD(y1:List (Int×Int))(i:Nat):(Unit)→mf
 |_=>((i:Int),y1)
def Oj:mf→Unit
 |(_,_)=>()
theorem aiL(y1:List (Int×Int)) (hn:y1.length≤9223372036854775807):
  fL.fin ((0:Int),y1)=true∧fL.res ((0:Int),y1)=((ag (zG) 1 y1 0 ()).1,(tD y1) (ag (zG) 1 y1 0 ()).2.1 (ag (zG) 1 y1 0 ()).2.2):=by
 have key:=fL.along (tD y1) Oj (zG) 1 (fun _ _=>True) y1 () (by trivial) (by simp only [fL,tD];omega) (fun i b a hb hI=> ?_) (fun a hI=> ?_)
 ·exact key
 ·obtain⟨⟩:=a
  have hlt:=(List.getElem?_eq_some_iff.1 hb).1
  have hget: ∀ d,Option.getD y1[i]? d=b:=fun d=>by rw [hb];rfl
  have hw:=py hlt hn
  have hdec:ltI (i:Int) (y1.length:Int)=true:=ce (by omega)
  have hnn:leI (0:Int) (i:Int)=true:=bH (by omega)
  have hltd:ltN i y1.length=true:=cM hlt
  refine⟨?_,?_,?_,?_⟩
  ·simp [xO,p9,zX,Fx,Fy,Fz,FA,FB,FC,FD,Du,fL,LT.nds,allT,tD,hdec,hnn,hltd,hget]
  ·simp [xO,p9,zX,Fx,Fy,Fz,FA,FB,FC,FD,Du,fL,LT.each,tD,Oj,hw]
  ·simp only [xO,p9,zX,Fx,Fy,Fz,FA,FB,FC,FD,Du,fL,LT.fn,tD,Oj,zG,Int.toNat_natCast,hdec,hnn,hltd,hget,cond_true,Bool.cond_self]
  ·exact fun _ _=>trivial
 ·obtain⟨⟩:=a
  simp [xO,p9,zX,Fx,Fy,Fz,FA,FB,FC,FD,Du,fL,LT.out,tD]
def eb(b:Int×Int):(Unit)→Nat ⊕ (Unit)
 |_=>(bif(BS b.1 b.2)then(.inl 0)else(.inr ()))
def bB(y2:List (Int×Int))(i:Nat):(Unit)→a8
 |_=>((i:Int),(↑y2.length:Int),y2)
def oM:a8→Unit
 |(_,_,_)=>()
theorem Ky(y2:List (Int×Int)) (hn:y2.length≤9223372036854775807):
  au.fin ((0:Int),(↑y2.length:Int),y2)=true∧au.res ((0:Int),(↑y2.length:Int),y2)=((ag (eb) 1 y2 0 ()).1,(bB y2) (ag (eb) 1 y2 0 ()).2.1 (ag (eb) 1 y2 0 ()).2.2):=by
 have key:=au.along (bB y2) oM (eb) 1 (fun _ _=>True) y2 () (by trivial) (by simp only [au,bB];omega) (fun i b a hb hI=> ?_) (fun a hI=> ?_)
 ·exact key
 ·obtain⟨⟩:=a
  have hlt:=(List.getElem?_eq_some_iff.1 hb).1
  have hget: ∀ d,Option.getD y2[i]? d=b:=fun d=>by rw [hb];rfl
  have hw:=py hlt hn
  have hdec:ltI (i:Int) (y2.length:Int)=true:=ce (by omega)
  have hnn:leI (0:Int) (i:Int)=true:=bH (by omega)
  have hltd:ltN i y2.length=true:=cM hlt
  refine⟨?_,?_,?_,?_⟩
  ·simp [dY,gE,gF,gG,gH,gI,gJ,gy,au,LT.nds,allT,bB,hdec,hnn,hltd,hget]
  ·simp [dY,gE,gF,gG,gH,gI,gJ,gy,au,LT.each,bB,oM,hw]
  ·simp only [dY,gE,gF,gG,gH,gI,gJ,gy,au,LT.fn,bB,oM,eb,Int.toNat_natCast,hdec,hnn,hltd,hget,cond_true,Bool.cond_self]
  ·exact fun _ _=>trivial
 ·obtain⟨⟩:=a
  simp [dY,gE,gF,gG,gH,gI,gJ,gy,au,LT.out,bB]
theorem ajP(n:Nat)(k:Int)(hk:0≤k):leI (n:Int) k=leN n k.toNat:=by
 rw [Bool.eq_iff_iff,Td,cu];omega
theorem anZ(st:List Int)(hn:leN st.length 9223372036854775807=true):JV st=areR st∧JW st=true:=by
 obtain⟨w1,w2⟩:=YP st (cu.1 hn)
 rw [kf (P:=fun v=> !inR v 0 2) (j:=0) (fun v=>by simp only [nX,aI,ui])]at w2
 have e5:(st.any fun v=> !inR v 0 2)= !st.all fun v=>inR v 0 2:=by simp [List.all_eq_not_any_not]
 rw [e5]at w2
 simp only [JV,JW,w1,w2,allT,areR,aI,ui]
 cases (st.all fun v=>inR v 0 2) <;> cases inR (st.length:Int) 1 12 <;> simp [Nat.beq]
theorem anr(st:List Int)(hn:leN st.length 9223372036854775807=true):Ji st=areR st∧Jj st=true:=by
 obtain⟨w1,w2⟩:=IO st (cu.1 hn)
 rw [kf (P:=fun v=> !inR v 0 2) (j:=0) (fun v=>by simp only [dm,rg,aX,ui])]at w2
 have e5:(st.any fun v=> !inR v 0 2)= !st.all fun v=>inR v 0 2:=by simp [List.all_eq_not_any_not]
 rw [e5]at w2
 simp only [Ji,Jj,nS,nT,pW,pX,kb,w1,w2,allT,areR,xA,aX,cN,ui,br]
 cases hr:inR (st.length:Int) 1 12 with
 |false=>simp
 |true=>
  cases (st.all fun v=>inR v 0 2)with
  |true=>
   have q:leI 0 (-1)=false:=rfl
   simp [Nat.beq,q]
  |false=>
   simp only [Bool.not_false,cond_true,Nat.beq,Bool.and_false]
   rw [bH (by omega)];simp
theorem anY(pl:List (Int×Int))(hn:leN pl.length 9223372036854775807=true):WM pl=okPl pl∧WN pl=true:=by
 obtain⟨w1,w2⟩:=aiL pl (cu.1 hn)
 rw [kf (P:=fun t=> !akK t) (j:=0) (fun t=>by simp only [zG,aI,ui,akK];cases inR t.1 1 366 <;> rfl)]at w2
 have e5:(pl.any fun t=> !akK t)= !pl.all akK:=by simp [List.all_eq_not_any_not]
 rw [e5]at w2
 simp only [WM,WN,w1,w2,allT,okPl,ajP pl.length 12 (by omega)]
 cases pl.all akK <;> simp [Nat.beq]
theorem anq(pl:List (Int×Int))(hn:leN pl.length 9223372036854775807=true):Wp pl=okPl pl∧Wq pl=true:=by
 obtain⟨w1,w2⟩:=Ky pl (cu.1 hn)
 rw [kf (P:=fun t=> !akK t) (j:=0) (fun t=>by simp only [eb,BS,vE,aX,ui,akK];cases inR t.1 1 366 <;> rfl)]at w2
 have e5:(pl.any fun t=> !akK t)= !pl.all akK:=by simp [List.all_eq_not_any_not]
 rw [e5]at w2
 simp only [Wp,Wq,TP,pw,px,rA,rB,kY,w1,w2,allT,okPl,ajP pl.length 12 (by omega),bB]
 cases hr:leN pl.length (Int.toNat 12)with
 |false=>
  simp at hr
  simp [hr]
  intro h;omega
 |true=>
  simp at hr
  cases pl.all akK with
  |true=>
   have q:leI 0 (-1)=false:=rfl
   simp [Nat.beq,hr,q]
  |false=>
   simp only [Bool.not_false,cond_true,Nat.beq,Bool.and_false]
   rw [bH (by omega)];simp
def Ri:List SV→List Entry→Option Out
 | [.one ⟨false,[.ref 0]⟩],[.row false 2 (.int .i64) x0]=>some ⟨(.one ⟨false,[(.val (.bool (areR x0)))]⟩),[(.row false 2 asZ x0)],[],[leN x0.length 9223372036854775807]⟩
 |_,_=>none
def jz:PF Tryz.prog:=PF.alt ac9 Ri (by
 intro args es o h hnd;unfold Ri at h;split at h
 ·rename_i x0
  cases h
  have hnd:=cf hnd
  have hh:=anZ x0 hnd
  obtain⟨e0,en⟩:=hh
  exact eT rfl (cg en) (by simp only [e0] <;> rfl) rfl rfl
 ·cases h)
def Rg:List SV→List Entry→Option Out
 | [.one ⟨false,[.ref 0]⟩],[.row false 2 (.int .i64) x0]=>some ⟨(.one ⟨false,[(.val (.bool (areR x0)))]⟩),[(.row false 2 asZ x0)],[],[leN x0.length 9223372036854775807]⟩
 |_,_=>none
def sf:PF Tryz.prog:=PF.alt ac7 Rg (by
 intro args es o h hnd;unfold Rg at h;split at h
 ·rename_i x0
  cases h
  have hnd:=cf hnd
  have hh:=anr x0 hnd
  obtain⟨e0,en⟩:=hh
  exact eT rfl (cg en) (by simp only [e0] <;> rfl) rfl rfl
 ·cases h)
def aeP:List SV→List Entry→Option Out
 | [.one ⟨false,[.ref 0]⟩],[.row false 173 (.pair (.int .i64) (.int .i64)) x0]=>some ⟨(.one ⟨false,[(.val (.bool (okPl x0)))]⟩),[(.row false 173 asY x0)],[],[leN x0.length 9223372036854775807]⟩
 |_,_=>none
def vJ:PF Tryz.prog:=PF.alt alg aeP (by
 intro args es o h hnd;unfold aeP at h;split at h
 ·rename_i x0
  cases h
  have hnd:=cf hnd
  have hh:=anY x0 hnd
  obtain⟨e0,en⟩:=hh
  exact eT rfl (cg en) (by simp only [e0] <;> rfl) rfl rfl
 ·cases h)
def aeN:List SV→List Entry→Option Out
 | [.one ⟨false,[.ref 0]⟩],[.row false 173 (.pair (.int .i64) (.int .i64)) x0]=>some ⟨(.one ⟨false,[(.val (.bool (okPl x0)))]⟩),[(.row false 173 asY x0)],[],[leN x0.length 9223372036854775807]⟩
 |_,_=>none
def vI:PF Tryz.prog:=PF.alt ald aeN (by
 intro args es o h hnd;unfold aeN at h;split at h
 ·rename_i x0
  cases h
  have hnd:=cf hnd
  have hh:=anq x0 hnd
  obtain⟨e0,en⟩:=hh
  exact eT rfl (cg en) (by simp only [e0] <;> rfl) rfl rfl
 ·cases h)
end Go.SX

namespace Go.SX
open Go.Proofs
set_option maxRecDepth 100000
theorem Lp.scan{X:Type}(p:Lp X)(st:Nat→X)(N:Nat)(P:Nat→Bool)(e:Nat)(hN:N≤p.fuel (st 0))
  (hs: ∀ b,b < N→(p.lt (st b)).nds=true∧(p.lt (st b)).each (fun y=>y=st (b + 1))∧(p.lt (st b)).fn (fun _=>())=(bif P b then .inl 0 else .inr ()))
  (he:(p.lt (st N)).out=some (.inl e)):p.fin (st 0)=true∧(p.res (st 0)).1=bif(List.range N).any P then 0 else e:=by
 have key:=p.along (fun i (_:Unit)=>st i) (fun _=>()) (fun(b:Nat) (_:Unit)=>bif P b then .inl 0 else .inr ()) e (fun _ _=>True) (List.range N) () trivial (by rw [List.length_range];exact hN)
  (fun i b a hb _=>by
   obtain⟨rfl,hlt⟩:=fU hb
   obtain⟨h1,h2,h3⟩:=hs b hlt
   exact⟨h1,h2,h3,fun _ _=>trivial⟩) (fun a _=>by rw [List.length_range];exact he)
 rw [kf (P:=P) (j:=0) (fun b=>rfl)]at key
 exact⟨key.1,by rw [key.2]⟩
def kB(y2:List (Int×(Int×Int)))(y3 y4:Int)(b:Nat):(Unit)→Nat ⊕ (Unit)
 |_=>(bif(bif((Option.getD y2[b]? ((0:Int),(0:Int),(0:Int))).1==y3)then ((Option.getD y2[b]? ((0:Int),(0:Int),(0:Int))).2).1==y4 else false)then(.inl 0)else(.inr ()))
def ii(y1:Int)(y2:List (Int×(Int×Int)))(y3 y4 y5:Int)(i:Nat):(Unit)→dh
 |_=>((i:Int),y1,y2,y3,y4,y5)
def zy:dh→Unit
 |(_,_,_,_,_,_)=>()
theorem UV(y1:Int)(y2:List (Int×(Int×Int)))(y3 y4 y5:Int) (hn:y1≤9223372036854775807) (hb:y1≤(y2.length:Int)):
  bd.fin ((0:Int),y1,y2,y3,y4,y5)=true∧bd.res ((0:Int),y1,y2,y3,y4,y5)=((ag (kB y2 y3 y4) 1 (List.range y1.toNat) 0 ()).1,(ii y1 y2 y3 y4 y5) (ag (kB y2 y3 y4) 1 (List.range y1.toNat) 0 ()).2.1 (ag (kB y2 y3 y4) 1 (List.range y1.toNat) 0 ()).2.2):=by
 have key:=bd.along (ii y1 y2 y3 y4 y5) zy (kB y2 y3 y4) 1 (fun _ _=>True) (List.range y1.toNat) () (by trivial) (by simp only [bd,ii,List.length_range];omega) (fun i b a hb hI=> ?_) (fun a hI=> ?_)
 ·exact key
 ·obtain⟨⟩:=a
  obtain⟨rfl,hlt⟩:=fU hb
  have hw:IntKind.i64.wrap ((b:Int) + 1)=((b + 1:Nat):Int):=by rw [aA (by omega) (by omega)];omega
  have hdec:ltI (b:Int) y1=true:=ce (by omega)
  have hnn:leI (0:Int) (b:Int)=true:=bH (by omega)
  refine⟨?_,?_,?_,?_⟩
  ·have h1:ltI (b:Int) (y2.length:Int)=true:=ce (by omega)
   have h2:ltN b y2.length=true:=cM (by omega)
   simp [ke,fP,oR,oS,oT,oU,oV,oW,oX,oY,oZ,nh,bd,LT.nds,allT,ii,hdec,hnn,h1,h2]
  ·simp [ke,fP,oR,oS,oT,oU,oV,oW,oX,oY,oZ,nh,bd,LT.each,ii,zy,hw]
  ·simp only [ke,fP,oR,oS,oT,oU,oV,oW,oX,oY,oZ,nh,bd,LT.fn,ii,zy,kB,Int.toNat_natCast,hdec,hnn,cond_true,Bool.cond_self]
  ·exact fun _ _=>trivial
 ·obtain⟨⟩:=a
  simp only [ke,fP,oR,oS,oT,oU,oV,oW,oX,oY,oZ,nh,bd,LT.out,ii,List.length_range,Yt,acY,cond_false]
theorem aoN(fs:List (Int×Int×Int))(b:Nat)(hb:b < fs.length)(hn:fs.length≤9223372036854775807):
  Np (b:Int) fs=true∧Fw (b:Int) fs=aj4 fs b:=by
 obtain⟨w1,w2⟩:=UV (b:Int) fs (fAt fs b).1 (fAt fs b).2.1 (fAt fs b).2.2 (by omega) (by omega)
 rw [kf (P:=fun j=>TE (fAt fs b) (fs[j]?.getD (0,0,0))) (j:=0) (fun j=>by
  simp only [kB,TE];cases (fs[j]?.getD (0,0,0)).1==(fAt fs b).1 <;> rfl),Int.toNat_natCast,amX (by omega)]at w2
 refine⟨w1,?_⟩
 have e:Eo (b:Int) fs=(0,(b:Int),fs,(fAt fs b).1,(fAt fs b).2.1,(fAt fs b).2.2):=rfl
 simp only [Fw,e,w2,aj4]
 cases (fs.take b).any (TE (fAt fs b)) <;> rfl
theorem aq0(n:Int)(fs:List (Int×Int×Int))(b:Nat):Fv (b:Int) n fs=afL n fs b:=by
 simp only [Fv,aI,afL,fIn,fAt,jT,Int.toNat_natCast,ui]
 cases inR (fs[b]?.getD (0,0,0)).1 0 (IntKind.i64.wrap (n - 1)) <;> cases inR (fs[b]?.getD (0,0,0)).2.1 0 1 <;> cases inR (fs[b]?.getD (0,0,0)).2.2 0 1 <;> rfl
theorem aq8(n:Int)(fs:List (Int×Int×Int))(hn:fs.length≤9223372036854775807):
  bm.fin ((0:Int),n,fs)=true∧bm.res ((0:Int),n,fs)=((ag (fF n fs) 2 (List.range fs.length) 0 ()).1,(((ag (fF n fs) 2 (List.range fs.length) 0 ()).2.1:Int),n,fs)):=by
 have key:=bm.along (fun i _=>((i:Int),n,fs)) (fun _=>()) (fF n fs) 2 (fun _ _=>True) (List.range fs.length) () trivial (by simp only [bm,List.length_range];omega) (fun i b a hb hI=> ?_) (fun a hI=> ?_)
 ·exact key
 ·obtain⟨rfl,hlt⟩:=fU hb
  have hw:IntKind.i64.wrap ((b:Int) + 1)=((b + 1:Nat):Int):=by rw [aA (by omega) (by omega)];omega
  have hdec:ltI (b:Int) (fs.length:Int)=true:=ce (by omega)
  have hnn:leI (0:Int) (b:Int)=true:=bH (by omega)
  have hltd:ltN b fs.length=true:=cM (by omega)
  obtain⟨i1,i2⟩:=aoN fs b hlt hn
  have i3:=aq0 n fs b
  refine⟨?_,?_,?_,?_⟩
  ·simp [bm,rb,LT.nds,allT,sg,Nl,Nn,hdec,hnn,hltd,i1]
  ·simp [bm,rb,LT.each,Nq,hw]
  ·simp only [bm,rb,LT.fn,sg,hdec,i2,i3,fF,cond_true]
  ·exact fun _ _=>trivial
 ·simp [bm,rb,LT.out,sg,List.length_range]
theorem aqc(n:Int)(fs:List (Int×Int×Int))(hn:leN fs.length 9223372036854775807=true):JT n fs=lfOk n fs∧JU n fs=true:=by
 obtain⟨w1,w2⟩:=aq8 n fs (cu.1 hn)
 obtain⟨k,m,e,h⟩:=ahH n fs (List.range fs.length) 0
 rw [e]at w2
 refine⟨?_,?_⟩
 ·have hl:leI (fs.length:Int) 8=leN fs.length 8:=by rw [Bool.eq_iff_iff];simp;omega
  simp only [JT,uR,w2,aI,ui,lfOk,okFs,hl]
  rcases h with⟨rfl,h⟩ | ⟨rfl | rfl,h⟩ <;> rw [h]
  ·cases inR n 1 12 <;> cases leN fs.length 8 <;> rfl
  ·cases inR n 1 12 <;> cases leN fs.length 8 <;> rfl
  ·cases inR n 1 12 <;> cases leN fs.length 8 <;> rfl
 ·simp only [JU,uR,w1,allT,cond_true]
def Rh:List SV→List Entry→Option Out
 | [.one ⟨false,[.val (.int .i64 x0)]⟩,.one ⟨false,[.ref 0]⟩],[.row false 100 (.pair (.int .i64) (.pair (.int .i64) (.int .i64))) x1]=>some ⟨(.one ⟨false,[(.val (.bool (lfOk x0 x1)))]⟩),[(.row false 100 asX x1)],[],[leN x1.length 9223372036854775807]⟩
 |_,_=>none
def jy:PF Tryz.prog:=PF.alt ac8 Rh (by
 intro args es o h hnd;unfold Rh at h;split at h
 ·rename_i x0 x1
  cases h
  have hnd:=cf hnd
  have hh:=aqc x0 x1 hnd
  obtain⟨e0,en⟩:=hh
  exact eT rfl (cg en) (by simp only [e0] <;> rfl) rfl rfl
 ·cases h)
def cB(y2 y3:Int)(b:Int×(Int×Int)):(Unit)→Nat ⊕ (Unit)
 |_=>(bif(rf b.1 (b.2.1) y2 y3)then(.inl 0)else(.inr ()))
def bi(y2 y3 y4:Int)(y5:List (Int×(Int×Int)))(i:Nat):(Unit)→aN
 |_=>((i:Int),(↑y5.length:Int),y2,y3,y4,y5)
def lj:aN→Unit
 |(_,_,_,_,_,_)=>()
theorem GV(y2 y3 y4:Int)(y5:List (Int×(Int×Int))) (hn:y5.length≤9223372036854775807):
  ak.fin ((0:Int),(↑y5.length:Int),y2,y3,y4,y5)=true∧ak.res ((0:Int),(↑y5.length:Int),y2,y3,y4,y5)=((ag (cB y2 y3) 1 y5 0 ()).1,(bi y2 y3 y4 y5) (ag (cB y2 y3) 1 y5 0 ()).2.1 (ag (cB y2 y3) 1 y5 0 ()).2.2):=by
 have key:=ak.along (bi y2 y3 y4 y5) lj (cB y2 y3) 1 (fun _ _=>True) y5 () (by trivial) (by simp only [ak,bi];omega) (fun i b a hb hI=> ?_) (fun a hI=> ?_)
 ·exact key
 ·obtain⟨⟩:=a
  have hlt:=(List.getElem?_eq_some_iff.1 hb).1
  have hget: ∀ d,Option.getD y5[i]? d=b:=fun d=>by rw [hb];rfl
  have hw:=py hlt hn
  have hdec:ltI (i:Int) (y5.length:Int)=true:=ce (by omega)
  have hnn:leI (0:Int) (i:Int)=true:=bH (by omega)
  have hltd:ltN i y5.length=true:=cM hlt
  refine⟨?_,?_,?_,?_⟩
  ·simp [cm,eF,eG,eH,eI,eJ,eK,ea,ak,LT.nds,allT,bi,hdec,hnn,hltd,hget]
  ·simp [cm,eF,eG,eH,eI,eJ,eK,ea,ak,LT.each,bi,lj,hw]
  ·simp only [cm,eF,eG,eH,eI,eJ,eK,ea,ak,LT.fn,bi,lj,cB,Int.toNat_natCast,hdec,hnn,hltd,hget,cond_true,Bool.cond_self]
  ·exact fun _ _=>trivial
 ·obtain⟨⟩:=a
  simp [cm,eF,eG,eH,eI,eJ,eK,ea,ak,LT.out,bi]
theorem ann(xs:List (Int×Int×Int))(f:Int×Int×Int)(hn:xs.length≤9223372036854775807):
  eD xs f.1 f.2.1 f.2.2=xs.any (TE f)∧eE xs f.1 f.2.1 f.2.2=true:=by
 obtain⟨w1,w2⟩:=GV f.1 f.2.1 f.2.2 xs hn
 rw [kf (P:=TE f) (j:=0) (fun t=>by
  simp only [cB,rf,TE];cases t.1==f.1 <;> rfl)]at w2
 refine⟨?_,?_⟩
 ·simp only [eD,lR,lS,lT,eE,fE,dd,ji,jj,jk,jl,jm,w2,bi]
  cases xs.any (TE f)with
  |false=>rfl
  |true=>exact bH (Int.natCast_nonneg _)
 ·simp only [eD,lR,lS,lT,eE,fE,dd,ji,jj,jk,jl,jm,w1,allT,cond_true]
theorem aqG(n:Int)(fs:List (Int×Int×Int))(b:Nat):Fb (b:Int) n fs=afL n fs b:=by
 simp only [Fb,aX,afL,fIn,fAt,ek,Int.toNat_natCast,ui]
 cases inR (fs[b]?.getD (0,0,0)).1 0 (IntKind.i64.wrap (n - 1)) <;> cases inR (fs[b]?.getD (0,0,0)).2.1 0 1 <;> cases inR (fs[b]?.getD (0,0,0)).2.2 0 1 <;> rfl
theorem aq7(n:Int)(fs:List (Int×Int×Int))(hn:fs.length≤9223372036854775807):
  bk.fin ((0:Int),(fs.length:Int),n,fs)=true∧bk.res ((0:Int),(fs.length:Int),n,fs)=((ag (fF n fs) 2 (List.range fs.length) 0 ()).1,(((ag (fF n fs) 2 (List.range fs.length) 0 ()).2.1:Int),(fs.length:Int),n,fs)):=by
 have key:=bk.along (fun i _=>((i:Int),(fs.length:Int),n,fs)) (fun _=>()) (fF n fs) 2 (fun _ _=>True) (List.range fs.length) () trivial (by simp only [bk,List.length_range];omega) (fun i b a hb hI=> ?_) (fun a hI=> ?_)
 ·exact key
 ·obtain⟨rfl,hlt⟩:=fU hb
  have hw:IntKind.i64.wrap ((b:Int) + 1)=((b + 1:Nat):Int):=by rw [aA (by omega) (by omega)];omega
  have hdec:ltI (b:Int) (fs.length:Int)=true:=ce (by omega)
  have hle:leI (b:Int) (fs.length:Int)=true:=bH (by omega)
  have hnn:leI (0:Int) (b:Int)=true:=bH (by omega)
  have hltd:ltN b fs.length=true:=cM (by omega)
  obtain⟨i2,i1⟩:=ann (fs.take b) (fAt fs b) (by rw [List.length_take];omega)
  have i2:Ng (b:Int) fs=aj4 fs b:=i2
  have i1:Nf (b:Int) fs=true:=i1
  have i3:=aqG n fs b
  refine⟨?_,?_,?_,?_⟩
  ·simp [bk,ra,LT.nds,allT,xz,Fa,Na,Nb,Nc,Nd,hdec,hnn,hltd,hle,i1]
  ·simp [bk,ra,LT.each,Nh,hw]
  ·simp only [bk,ra,LT.fn,xz,hdec,i2,i3,fF,cond_true]
  ·exact fun _ _=>trivial
 ·simp [bk,ra,LT.out,xz,List.length_range]
theorem apR(n:Int)(fs:List (Int×Int×Int))(hn:leN fs.length 9223372036854775807=true):Jg n fs=lfOk n fs∧Jh n fs=true:=by
 obtain⟨w1,w2⟩:=aq7 n fs (cu.1 hn)
 obtain⟨k,m,e,h⟩:=ahH n fs (List.range fs.length) 0
 rw [e]at w2
 refine⟨?_,?_⟩
 ·have hl:leI (fs.length:Int) 8=leN fs.length 8:=by rw [Bool.eq_iff_iff];simp;omega
  simp only [Jg,ur,w2,xA,aX,ui,lfOk,okFs,hl]
  rcases h with⟨rfl,h⟩ | ⟨rfl | rfl,h⟩ <;> rw [h] <;> cases inR n 1 12 <;> cases leN fs.length 8 <;> rfl
 ·simp only [Jh,ur,w1,allT,cond_true]
def Rf:List SV→List Entry→Option Out
 | [.one ⟨false,[.val (.int .i64 x0)]⟩,.one ⟨false,[.ref 0]⟩],[.row false 100 (.pair (.int .i64) (.pair (.int .i64) (.int .i64))) x1]=>some ⟨(.one ⟨false,[(.val (.bool (lfOk x0 x1)))]⟩),[(.row false 100 asX x1)],[],[leN x1.length 9223372036854775807]⟩
 |_,_=>none
def se:PF Tryz.prog:=PF.alt ac6 Rf (by
 intro args es o h hnd;unfold Rf at h;split at h
 ·rename_i x0 x1
  cases h
  have hnd:=cf hnd
  have hh:=apR x0 x1 hnd
  obtain⟨e0,en⟩:=hh
  exact eT rfl (cg en) (by simp only [e0] <;> rfl) rfl rfl
 ·cases h)
def xy(y1 y2:Int)(b:Int×Int):(Unit)→Nat ⊕ (Unit)
 |_=>(bif(bif b.1==y1 then b.2==y2 else false)then(.inl 0)else(.inr ()))
def pf(y1 y2:Int)(y3:List (Int×Int))(i:Nat):(Unit)→kW
 |_=>((i:Int),y1,y2,y3)
def MC:kW→Unit
 |(_,_,_,_)=>()
theorem ahG(y1 y2:Int)(y3:List (Int×Int)) (hn:y3.length≤9223372036854775807):
  dE.fin ((0:Int),y1,y2,y3)=true∧dE.res ((0:Int),y1,y2,y3)=((ag (xy y1 y2) 1 y3 0 ()).1,(pf y1 y2 y3) (ag (xy y1 y2) 1 y3 0 ()).2.1 (ag (xy y1 y2) 1 y3 0 ()).2.2):=by
 have key:=dE.along (pf y1 y2 y3) MC (xy y1 y2) 1 (fun _ _=>True) y3 () (by trivial) (by simp only [dE,pf];omega) (fun i b a hb hI=> ?_) (fun a hI=> ?_)
 ·exact key
 ·obtain⟨⟩:=a
  have hlt:=(List.getElem?_eq_some_iff.1 hb).1
  have hget: ∀ d,Option.getD y3[i]? d=b:=fun d=>by rw [hb];rfl
  have hw:=py hlt hn
  have hdec:ltI (i:Int) (y3.length:Int)=true:=ce (by omega)
  have hnn:leI (0:Int) (i:Int)=true:=bH (by omega)
  have hltd:ltN i y3.length=true:=cM hlt
  refine⟨?_,?_,?_,?_⟩
  ·simp [rE,rF,xQ,DR,DS,DT,DU,DV,DW,DX,Bv,dE,LT.nds,allT,pf,hdec,hnn,hltd,hget]
  ·simp [rE,rF,xQ,DR,DS,DT,DU,DV,DW,DX,Bv,dE,LT.each,pf,MC,hw]
  ·simp only [rE,rF,xQ,DR,DS,DT,DU,DV,DW,DX,Bv,dE,LT.fn,pf,MC,xy,Int.toNat_natCast,hdec,hnn,hltd,hget,cond_true,Bool.cond_self]
  ·exact fun _ _=>trivial
 ·obtain⟨⟩:=a
  simp [rE,rF,xQ,DR,DS,DT,DU,DV,DW,DX,Bv,dE,LT.out,pf]
def jV(y2 y3:Int)(b:Int×Int):(Unit)→Nat ⊕ (Unit)
 |_=>(bif(bif y2==b.1then bif y3==b.2then true else false else false)then(.inl 0)else(.inr ()))
def fe(y2 y3:Int)(y4:List (Int×Int))(i:Nat):(Unit)→cK
 |_=>((i:Int),(↑y4.length:Int),y2,y3,y4)
def xX:cK→Unit
 |(_,_,_,_,_)=>()
theorem Tj(y2 y3:Int)(y4:List (Int×Int)) (hn:y4.length≤9223372036854775807):
  aS.fin ((0:Int),(↑y4.length:Int),y2,y3,y4)=true∧aS.res ((0:Int),(↑y4.length:Int),y2,y3,y4)=((ag (jV y2 y3) 1 y4 0 ()).1,(fe y2 y3 y4) (ag (jV y2 y3) 1 y4 0 ()).2.1 (ag (jV y2 y3) 1 y4 0 ()).2.2):=by
 have key:=aS.along (fe y2 y3 y4) xX (jV y2 y3) 1 (fun _ _=>True) y4 () (by trivial) (by simp only [aS,fe];omega) (fun i b a hb hI=> ?_) (fun a hI=> ?_)
 ·exact key
 ·obtain⟨⟩:=a
  have hlt:=(List.getElem?_eq_some_iff.1 hb).1
  have hget: ∀ d,Option.getD y4[i]? d=b:=fun d=>by rw [hb];rfl
  have hw:=py hlt hn
  have hdec:ltI (i:Int) (y4.length:Int)=true:=ce (by omega)
  have hnn:leI (0:Int) (i:Int)=true:=bH (by omega)
  have hltd:ltN i y4.length=true:=cM hlt
  refine⟨?_,?_,?_,?_⟩
  ·simp [ju,nn,np,nq,nr,nt,nu,l7,aS,LT.nds,allT,fe,hdec,hnn,hltd,hget]
  ·simp [ju,nn,np,nq,nr,nt,nu,l7,aS,LT.each,fe,xX,hw]
  ·simp only [ju,nn,np,nq,nr,nt,nu,l7,aS,LT.fn,fe,xX,jV,Int.toNat_natCast,hdec,hnn,hltd,hget,cond_true,Bool.cond_self]
  ·exact fun _ _=>trivial
 ·obtain⟨⟩:=a
  simp [ju,nn,np,nq,nr,nt,nu,l7,aS,LT.out,fe]
theorem arm(d o:Int)(ls:List (Int×Int))(hn:ls.length≤9223372036854775807):FV d o ls=(bif ls.any (HR (d,o))then(((ls.takeWhile fun x=> !HR (d,o) x).length:Nat):Int)else -1)∧OL d o ls=true:=by
 obtain⟨w1,w2⟩:=ahG d o ls hn
 rw [kf (P:=HR (d,o)) (j:=0) (fun x=>by simp only [xy,HR];cases x.1==d <;> rfl)]at w2
 simp only [FV,OL,Md,w1,w2,allT,pf]
 cases ls.any (HR (d,o)) <;> simp [Nat.beq]
theorem aqE(d o:Int)(ls:List (Int×Int))(hn:ls.length≤9223372036854775807):nk d o ls=ls.any (HR (d,o))∧sB d o ls=true:=by
 obtain⟨w1,w2⟩:=Tj d o ls hn
 rw [kf (P:=HR (d,o)) (j:=0) (fun x=>by
  simp only [jV,HR,BEq.comm (a:=d),BEq.comm (a:=o)];cases x.1==d <;> cases x.2==o <;> rfl)]at w2
 simp only [nk,sB,Em,En,uj,w1,w2,allT,fe]
 refine⟨?_,rfl⟩
 cases ls.any (HR (d,o))with
 |false=>rfl
 |true=>exact bH (Int.natCast_nonneg _)
theorem alH(a b:Int):OM a b=arx (a,b)∧QN a b=arx (a,b):=by
 simp only [OM,QN,aI,aX,ui,arx]
 cases inR a 0 23 <;> exact⟨rfl,rfl⟩
theorem aoe(ls:List (Int×Int))(hn:ls.length≤9223372036854775807):
  dK.fin ((0:Int),ls)=true∧(dK.res ((0:Int),ls)).1=bif(List.range ls.length).any (fun b=>Ll ls b||acP ls b)then 0 else 1:=by
 refine Lp.scan dK (fun b=>((b:Int),ls)) ls.length (fun b=>Ll ls b||acP ls b) 1 (by simp only [dK];omega) (fun b hb=> ?_) ?_
 ·have hdec:ltI (b:Int) (ls.length:Int)=true:=ce (by omega)
  have hnn:leI (0:Int) (b:Int)=true:=bH (by omega)
  have hltd:ltN b ls.length=true:=cM hb
  have hw:IntKind.i64.wrap ((b:Int) + 1)=((b + 1:Nat):Int):=by rw [aA (by omega) (by omega)];omega
  have a0:mG (b:Int) ls=Se ls b:=by simp only [mG,Int.toNat_natCast,Se]
  have a1:p6 (b:Int) ls=Ll ls b:=by simp only [p6,a0,(alH _ _).1,Ll]
  obtain⟨f1,f2⟩:=arm (Se ls b).1 (Se ls b).2 ls hn
  have hat:Se ls b=ls[b]:=by simp only [Se,List.getElem?_eq_getElem hb,Option.getD_some]
  have hp:HR (Se ls b) ls[b]=true:=by rw [hat];simp [HR]
  have hany:ls.any (HR (Se ls b))=true:=List.any_eq_true.2 ⟨_,List.getElem_mem hb,hp⟩
  have f1':FV (Se ls b).1 (Se ls b).2 ls=(bif ls.any (HR (Se ls b))then(((ls.takeWhile fun x=> !HR (Se ls b) x).length:Nat):Int)else -1):=f1
  have h7:(FV (Se ls b).1 (Se ls b).2 ls !=(b:Int))=acP ls b:=by
   rw [f1']
   simp only [hany,cond_true,acP]
   have hf:=aj9 ls b hb hp
   cases hd:(ls.take b).any (HR (Se ls b))with
   |false=>have:=hf.2 hd;rw [this];simp
   |true=>
    have:(ls.takeWhile fun x=> !HR (Se ls b) x).length≠b:=fun h=>by rw [hf.1 h]at hd;cases hd
    simp only [bne_iff_ne,ne_eq];omega
  refine⟨?_,?_,?_⟩
  ·simp [dK,ze,LT.nds,allT,vi,MK,ML,MM,MN,MO,UB,hdec,hnn,hltd,a0,f2]
  ·simp [dK,ze,LT.each,UD,hw]
  ·simp only [dK,ze,LT.fn,vi,UC,hdec,a0,a1,h7,cond_true]
   cases Ll ls b <;> rfl
 ·simp [dK,ze,LT.out,vi]
theorem aod(ls:List (Int×Int))(hn:ls.length≤9223372036854775807):
  dG.fin ((0:Int),(ls.length:Int),ls)=true∧(dG.res ((0:Int),(ls.length:Int),ls)).1=bif(List.range ls.length).any (fun b=>Ll ls b||acP ls b)then 0 else 1:=by
 refine Lp.scan dG (fun b=>((b:Int),(ls.length:Int),ls)) ls.length (fun b=>Ll ls b||acP ls b) 1 (by simp only [dG];omega) (fun b hb=> ?_) ?_
 ·have hdec:ltI (b:Int) (ls.length:Int)=true:=ce (by omega)
  have hle:leI (b:Int) (ls.length:Int)=true:=bH (by omega)
  have hnn:leI (0:Int) (b:Int)=true:=bH (by omega)
  have hltd:ltN b ls.length=true:=cM hb
  have hw:IntKind.i64.wrap ((b:Int) + 1)=((b + 1:Nat):Int):=by rw [aA (by omega) (by omega)];omega
  have a0:mC (b:Int) ls=Se ls b:=by simp only [mC,Int.toNat_natCast,Se]
  have a1:mD (b:Int) ls=Ll ls b:=by simp only [mD,a0,(alH _ _).2,Ll]
  have a2:EE (b:Int) ls=bif !Ll ls b then ls.take b else []:=by
   simp only [EE,a1,Int.toNat_natCast,Int.toNat_zero,List.drop_zero,Bool.and_true]
  have hl2:(bif !Ll ls b then ls.take b else []).length≤9223372036854775807:=by
   cases Ll ls b <;> simp;omega
  obtain⟨f1,f2⟩:=aqE (Se ls b).1 (Se ls b).2 (bif !Ll ls b then ls.take b else []) hl2
  have f1:nk (Se ls b).1 (Se ls b).2 (bif !Ll ls b then ls.take b else [])=(bif !Ll ls b then ls.take b else []).any (HR (Se ls b)):=f1
  refine⟨?_,?_,?_⟩
  ·have z0:leI 0 0=true:=rfl
   simp only [dG,yY,LT.nds,allT,GC,TG,TH,TI,TJ,TK,TL,TM,Int.toNat_natCast,hdec,hle,hnn,hltd,a0,a2,f2,z0,Bool.or_true,cond_true,Bool.cond_self]
  ·simp [dG,yY,LT.each,TO,hw]
  ·simp only [dG,yY,LT.fn,GC,TN,hdec,a0,a1,a2,f1,cond_true]
   cases Ll ls b <;> rfl
 ·simp [dG,yY,LT.out,GC]
theorem aqN(ls:List (Int×Int)):((List.range ls.length).any fun b=>Ll ls b||acP ls b)= !(List.range ls.length).all fun b=> !(Ll ls b||acP ls b):=by simp [List.all_eq_not_any_not]
theorem amM(ls:List (Int×Int))(hn:leN ls.length 9223372036854775807=true):Sn ls=okLk ls∧So ls=true:=by
 obtain⟨w1,w2⟩:=aoe ls (cu.1 hn)
 rw [aqN]at w2
 simp only [Sn,So,w1,w2,allT,okLk,ajP ls.length 8 (by omega)]
 cases ((List.range ls.length).all fun b=> !(Ll ls b||acP ls b)) <;> simp [Nat.beq]
theorem amr(ls:List (Int×Int))(hn:leN ls.length 9223372036854775807=true):RK ls=okLk ls∧RL ls=true:=by
 obtain⟨w1,w2⟩:=aod ls (cu.1 hn)
 rw [aqN]at w2
 simp only [RK,RL,PJ,w1,w2,allT,okLk,ajP ls.length 8 (by omega)]
 cases ((List.range ls.length).all fun b=> !(Ll ls b||acP ls b)) <;> simp [Nat.beq]
def aaq:List SV→List Entry→Option Out
 | [.one ⟨false,[.ref 0]⟩],[.row false 176 (.pair (.int .i64) (.int .i64)) x0]=>some ⟨(.one ⟨false,[(.val (.bool (okLk x0)))]⟩),[(.row false 176 asY x0)],[],[leN x0.length 9223372036854775807]⟩
 |_,_=>none
def rn:PF Tryz.prog:=PF.alt ajD aaq (by
 intro args es o h hnd;unfold aaq at h;split at h
 ·rename_i x0
  cases h
  have hnd:=cf hnd
  have hh:=amM x0 hnd
  obtain⟨e0,en⟩:=hh
  exact eT rfl (cg en) (by simp only [e0] <;> rfl) rfl rfl
 ·cases h)
def aai:List SV→List Entry→Option Out
 | [.one ⟨false,[.ref 0]⟩],[.row false 176 (.pair (.int .i64) (.int .i64)) x0]=>some ⟨(.one ⟨false,[(.val (.bool (okLk x0)))]⟩),[(.row false 176 asY x0)],[],[leN x0.length 9223372036854775807]⟩
 |_,_=>none
def ri:PF Tryz.prog:=PF.alt aju aai (by
 intro args es o h hnd;unfold aai at h;split at h
 ·rename_i x0
  cases h
  have hnd:=cf hnd
  have hh:=amr x0 hnd
  obtain⟨e0,en⟩:=hh
  exact eT rfl (cg en) (by simp only [e0] <;> rfl) rfl rfl
 ·cases h)
end Go.SX

namespace Go.SX
open Go.Proofs
set_option maxRecDepth 100000
abbrev rM:=Int×Int×Int×Int×List Int×List (Int×(Int×Int))×List (List Int)×List (Int×(Int×Int))×List (Int×Int)×List (Int×Int)
section
variable (y0:Int)(y6:List (List Int))
def kZ:List Int:=Option.getD y6[Int.toNat y0]? (uq (CTy.sl (2:TypeId) asZ))
def FF:Bool:=ltI y0 (↑y6.length:Int)
def YD:Bool:=leI (0:Int) y0
def YE:Bool:=ltN y0.toNat y6.length
def YF:Bool:=leN (List.length (kZ y0 y6)) (9223372036854775807:Nat)
def YG:Bool:= !(!!areR (kZ y0 y6)&&true)||leI (0:Int) y0
def YH:Bool:= !(!!areR (kZ y0 y6)&&true)||ltI y0 (↑y6.length:Int)
def YI:Bool:= !(!!areR (kZ y0 y6)&&true)||ltN y0.toNat y6.length
def YJ:Bool:= !(!!areR (kZ y0 y6)&&true)||xo y6
def YK:Bool:=bif !areR (kZ y0 y6)then true else(↑(List.length (bif !!areR (kZ y0 y6)&&true then kZ y0 y6 else [])):Int)!=xm y6
def YL:Int:=IntKind.wrap .i64 (y0 + (1:Int))
end
def agq:rM→List (Nat×SV)
 |(y0,_,_,_,_,_,_,_,_,_)=> [(3,(.one ⟨false,[(.val (.int .i64 y0))]⟩)),(1,(.one ⟨false,[(.ptr 0 0)]⟩))]
def agj:rM→List (Nat×Entry)
 |(_,y1,y2,y3,y4,y5,y6,y7,y8,y9)=> [(0,(.box 33 [(.val (.int .i64 y1)),(.ref 1),(.ref 2),(.ref 3),(.ref 4),(.val (.int .i64 y2)),(.ref 5),(.ref 6),(.val (.int .i64 y3))])),(1,(.row false 2 asZ y4)),(2,(.row false 169 asX y5)),(3,(.row false 24 (CTy.sl (2:TypeId) asZ) y6)),(4,(.row false 100 asX y7)),(5,(.row false 173 asY y8)),(6,(.row false 176 asY y9))]
def agE:Nat→rM→List (Nat×SV)
 |0,(_,_,_,_,_,_,_,_,_,_)=> [(2,(.one ⟨false,[(.val (.bool false))]⟩))]
 |_,(_,_,_,_,_,_,_,_,_,_)=> []
def agx:Nat→rM→List (Nat×Entry)
 |0,(_,y1,y2,y3,y4,y5,y6,y7,y8,y9)=> [(0,(.box 33 [(.val (.int .i64 y1)),(.ref 1),(.ref 2),(.ref 3),(.ref 4),(.val (.int .i64 y2)),(.ref 5),(.ref 6),(.val (.int .i64 y3))])),(1,(.row false 2 asZ y4)),(2,(.row false 169 asX y5)),(3,(.row false 24 (CTy.sl (2:TypeId) asZ) y6)),(4,(.row false 100 asX y7)),(5,(.row false 173 asY y8)),(6,(.row false 176 asY y9))]
 |_,(_,y1,y2,y3,y4,y5,y6,y7,y8,y9)=> [(0,(.box 33 [(.val (.int .i64 y1)),(.ref 1),(.ref 2),(.ref 3),(.ref 4),(.val (.int .i64 y2)),(.ref 5),(.ref 6),(.val (.int .i64 y3))])),(1,(.row false 2 asZ y4)),(2,(.row false 169 asX y5)),(3,(.row false 24 (CTy.sl (2:TypeId) asZ) y6)),(4,(.row false 100 asX y7)),(5,(.row false 173 asY y8)),(6,(.row false 176 asY y9))]
def Dv:rM→LT rM
 |(y0,y1,y2,y3,y4,y5,y6,y7,y8,y9)=> .ite (FF y0 y6) (.need [(YD y0),(FF y0 y6),(YE y0 y6),(YF y0 y6),(YG y0 y6),(YH y0 y6),(YI y0 y6),(YJ y0 y6)] (.ite (YK y0 y6) (.ext 0 [(0,0),(1,1),(2,2),(3,3),(4,4),(5,5),(6,6)]) (.nrm ((YL y0),y1,y2,y3,y4,y5,y6,y7,y8,y9) [(0,0),(1,1),(2,2),(3,3),(4,4),(5,5),(6,6)]))) (.ext 1 [(0,0),(1,1),(2,2),(3,3),(4,4),(5,5),(6,6)])
def Or(s:St):Option rM:=
 (match s.look 3 with
 |some ⟨none,(.one ⟨false,[(.val (.int .i64 y0))]⟩)⟩=>
 (match s.look 1 with
 |some ⟨none,(.one ⟨false,[(.ptr 448 0)]⟩)⟩=>
 (match s.ent 448 with
 |some (.box 33 [(.val (.int .i64 y1)),(.ref 0),(.ref 1),(.ref 2),(.ref 3),(.val (.int .i64 y2)),(.ref 4),(.ref 5),(.val (.int .i64 y3))])=>
 (match s.ent 0 with
 |some (.row false 2 (.int .i64) y4)=>
 (match s.ent 1 with
 |some (.row false 169 (.pair (.int .i64) (.pair (.int .i64) (.int .i64))) y5)=>
 (match s.ent 2 with
 |some (.row false 24 (.sl 2 (.int .i64)) y6)=>
 (match s.ent 3 with
 |some (.row false 100 (.pair (.int .i64) (.pair (.int .i64) (.int .i64))) y7)=>
 (match s.ent 4 with
 |some (.row false 173 (.pair (.int .i64) (.int .i64)) y8)=>
 (match s.ent 5 with
 |some (.row false 176 (.pair (.int .i64) (.int .i64)) y9)=>
 some (y0,y1,y2,y3,y4,y5,y6,y7,y8,y9)
 |_=>none)
 |_=>none)
 |_=>none)
 |_=>none)
 |_=>none)
 |_=>none)
 |_=>none)
 |_=>none)
 |_=>none)
def fM:Lp rM where
 h:=⟨[27,28,29,30,31,34,35,36,37,38,39,40,41,42,43,44,45,46,47,48,49,50,51,2,32,33,3],[0,1,2,3,4,5,6],[],[]⟩
 JL:=agq
 JE:=agj
 XL:=agE
 XE:=agx
 q:=fun j=>match j with | 0=> .ret | _=> .exit 0
 tags:= [0,1]
 lt:=Dv
 fuel:=fun(y0,y1,y2,y3,y4,y5,y6,y7,y8,y9)=>y0.natAbs + y1.natAbs + y2.natAbs + y3.natAbs + y4.length + y5.length + y6.length + y7.length + y8.length + y9.length
 fix:=fun(_,y1,y2,y3,y4,y5,y6,y7,y8,y9) (y0,_,_,_,_,_,_,_,_,_)=>(y0,y1,y2,y3,y4,y5,y6,y7,y8,y9)
 σ:= [(0,448),(1,0),(2,1),(3,2),(4,3),(5,4),(6,5)]
 rd:=Or
theorem aed:LoopOk Tryz.prog (fun k=>Nat.blt k Tryz.f24.ntmps) fM.F (ay Tryz.f24 0):=by
 refine Lp.ok (tbl:= [fg,zU,PF.lend zU,PF.fz zU,zT,PF.lend zT,PF.fz zT,jz,PF.lend jz,PF.fz jz,tp,PF.lend tp,PF.fz tp,jy,PF.lend jy,PF.fz jy,ada,vJ,PF.lend vJ,PF.fz vJ,rn,PF.lend rn,PF.fz rn]) (lf:= []) ar fM (by kernel_rfl) (LOk.nil _) (fun _=>rfl) (fun j _=>by unfold fM;match j with | 0=>rfl | _ + 1=>rfl) ?_ ?_ ?_ ?_ (fun _=>rfl) ?_
 ·intro x;obtain⟨y0,y1,y2,y3,y4,y5,y6,y7,y8,y9⟩:=x;kernel_rfl
 ·intro x;obtain⟨y0,y1,y2,y3,y4,y5,y6,y7,y8,y9⟩:=x;kernel_rfl
 ·intro s x h
  have h:Or s=some x:=h
  unfold Or at h
  repeat' split at h
  all_goals cases h
  exact⟨aa (by assumption) rfl (aa (by assumption) rfl (rfl)),ac rfl (by assumption) rfl (ac rfl (by assumption) rfl (ac rfl (by assumption) rfl (ac rfl (by assumption) rfl (ac rfl (by assumption) rfl (ac rfl (by assumption) rfl (ac rfl (by assumption) rfl (rfl)))))))⟩
 ·intro x;obtain⟨y0,y1,y2,y3,y4,y5,y6,y7,y8,y9⟩:=x;kernel_rfl
 ·intro x z;obtain⟨y0,y1,y2,y3,y4,y5,y6,y7,y8,y9⟩:=x;exact(And.intro (And.intro trivial rfl) trivial)
section
variable (x0 x1 x2:Int)(x3:List Int)(x4:List (Int×Int×Int))(x5:List (List Int))(x6:List (Int×Int×Int))(x7 x8:List (Int×Int))
def BE:Bool:=bif bif !isT x0 x3 then true else !(inR x0 (2:Int) (8:Int)&&okFs x0 x4)then true else(↑x5.length:Int)!=(↑x3.length:Int)
def UH:Int×Int×Int×Int×List Int×List (Int×Int×Int)×List (List Int)×List (Int×Int×Int)×List (Int×Int)×List (Int×Int):=((0:Int),x0,x1,x2,x3,x4,x5,x6,x7,x8)
def FE:Bool:=Nat.beq ((Lp.res fM (UH x0 x1 x2 x3 x4 x5 x6 x7 x8)).1) (0:Nat)
def UI:Bool:=bif bif lfOk (xm x5) x6 then OJ x1 else false then okPl x7 else false
def WO:Bool:=bif BE x0 x3 x4 x5 then false else bif FE x0 x1 x2 x3 x4 x5 x6 x7 x8 then false else bif bif UI x1 x5 x6 x7 then okLk x8 else false then aI x2 (0:Int) (100000:Int)else false
def WP:Bool:=allT [!(!!isT x0 x3&&true)||leN x4.length (9223372036854775807:Nat),BE x0 x3 x4 x5||Lp.fin fM (UH x0 x1 x2 x3 x4 x5 x6 x7 x8),BE x0 x3 x4 x5||(FE x0 x1 x2 x3 x4 x5 x6 x7 x8||xo x5),BE x0 x3 x4 x5||(FE x0 x1 x2 x3 x4 x5 x6 x7 x8||leN x6.length (9223372036854775807:Nat)),BE x0 x3 x4 x5||(FE x0 x1 x2 x3 x4 x5 x6 x7 x8||(!((bif lfOk (xm x5) x6 then OJ x1 else false)&&true)||leN x7.length (9223372036854775807:Nat))),BE x0 x3 x4 x5||(FE x0 x1 x2 x3 x4 x5 x6 x7 x8||(!(UI x1 x5 x6 x7&&true)||leN x8.length (9223372036854775807:Nat)))]
end
def aeG:List SV→List Entry→Option Out
 | [.one ⟨true,[.val (.int .i64 x0),.ref 0,.ref 1,.ref 2,.ref 3,.val (.int .i64 x1),.ref 4,.ref 5,.val (.int .i64 x2)]⟩],[.row false 2 (.int .i64) x3,.row false 169 (.pair (.int .i64) (.pair (.int .i64) (.int .i64))) x4,.row false 24 (.sl 2 (.int .i64)) x5,.row false 100 (.pair (.int .i64) (.pair (.int .i64) (.int .i64))) x6,.row false 173 (.pair (.int .i64) (.int .i64)) x7,.row false 176 (.pair (.int .i64) (.int .i64)) x8]=>some ⟨(.one ⟨false,[(.val (.bool (WO x0 x1 x2 x3 x4 x5 x6 x7 x8)))]⟩),[(.row false 2 asZ x3),(.row false 169 asX x4),(.row false 24 (CTy.sl (2:TypeId) asZ) x5),(.row false 100 asX x6),(.row false 173 asY x7),(.row false 176 asY x8)],[],[(WP x0 x1 x2 x3 x4 x5 x6 x7 x8)]⟩
 |_,_=>none
def alh:PF Tryz.prog:=PF.ofG Tryz.prog [fg,zU,PF.lend zU,PF.fz zU,zT,PF.lend zT,PF.fz zT,jz,PF.lend jz,PF.fz jz,tp,PF.lend tp,PF.fz tp,jy,PF.lend jy,PF.fz jy,ada,vJ,PF.lend vJ,PF.fz vJ,rn,PF.lend rn,PF.fz rn] [fM.F] ar 24 Tryz.f24 Tryz.func24 (LOk.fnT (l:= [ay Tryz.f24 0]) (by kernel_rfl) (.cons aed (.nil _))) aeG (by
 intro vs es r h;unfold aeG at h;split at h
 ·cases h;kernel_rfl
 ·cases h)
abbrev rL:=Int×Int×List (List Int)×Int×Int×Int×List Int×List (Int×(Int×Int))×List (Int×(Int×Int))×List (Int×Int)×List (Int×Int)
section
variable (y0 y1:Int)(y2:List (List Int))
def ne:List Int:=Option.getD y2[Int.toNat y0]? (uq (CTy.sl (2:TypeId) asZ))
def Kh:Bool:=ltI y0 y1
def Yb:Bool:=leI (0:Int) y0
def Yc:Bool:=ltI y0 (↑y2.length:Int)
def Yd:Bool:=ltN y0.toNat y2.length
def Ye:Bool:=leN (List.length (ne y0 y2)) (9223372036854775807:Nat)
def Yf:Bool:= !(!!areR (ne y0 y2)&&true)||leI (0:Int) (0:Int)
def Yg:Bool:= !(!!areR (ne y0 y2)&&true)||ltI (0:Int) (↑y2.length:Int)
def Yh:Bool:= !(!!areR (ne y0 y2)&&true)||ltN (Int.toNat (0:Int)) y2.length
def Yi:Bool:=bif !areR (ne y0 y2)then true else(↑(List.length (ne y0 y2)):Int)!=(↑(List.length (bif !!areR (ne y0 y2)&&true then Option.getD y2[Int.toNat (0:Int)]? (uq (CTy.sl (2:TypeId) asZ))else [])):Int)
def Yj:Int:=IntKind.wrap .i64 (y0 + (1:Int))
end
def ago:rL→List (Nat×SV)
 |(y0,y1,_,_,_,_,_,_,_,_,_)=> [(31,(.one ⟨false,[(.val (.int .i64 y0))]⟩)),(30,(.one ⟨false,[(.val (.int .i64 y1))]⟩)),(29,(.one ⟨false,[(.ref 0)]⟩)),(1,(.one ⟨false,[(.ptr 1 0)]⟩))]
def agh:rL→List (Nat×Entry)
 |(_,_,y2,y3,y4,y5,y6,y7,y8,y9,y10)=> [(0,(.row false 24 (CTy.sl (2:TypeId) asZ) y2)),(1,(.box 33 [(.val (.int .i64 y3)),(.ref 2),(.ref 3),(.ref 0),(.ref 4),(.val (.int .i64 y4)),(.ref 5),(.ref 6),(.val (.int .i64 y5))])),(2,(.row false 2 asZ y6)),(3,(.row false 169 asX y7)),(4,(.row false 100 asX y8)),(5,(.row false 173 asY y9)),(6,(.row false 176 asY y10))]
def agC:Nat→rL→List (Nat×SV)
 |0,(_,_,_,_,_,_,_,_,_,_,_)=> [(2,(.one ⟨false,[(.val (.bool false))]⟩))]
 |_,(_,_,_,_,_,_,_,_,_,_,_)=> []
def agv:Nat→rL→List (Nat×Entry)
 |0,(_,_,y2,y3,y4,y5,y6,y7,y8,y9,y10)=> [(0,(.row false 24 (CTy.sl (2:TypeId) asZ) y2)),(1,(.box 33 [(.val (.int .i64 y3)),(.ref 2),(.ref 3),(.ref 0),(.ref 4),(.val (.int .i64 y4)),(.ref 5),(.ref 6),(.val (.int .i64 y5))])),(2,(.row false 2 asZ y6)),(3,(.row false 169 asX y7)),(4,(.row false 100 asX y8)),(5,(.row false 173 asY y9)),(6,(.row false 176 asY y10))]
 |_,(_,_,y2,y3,y4,y5,y6,y7,y8,y9,y10)=> [(0,(.row false 24 (CTy.sl (2:TypeId) asZ) y2)),(1,(.box 33 [(.val (.int .i64 y3)),(.ref 2),(.ref 3),(.ref 0),(.ref 4),(.val (.int .i64 y4)),(.ref 5),(.ref 6),(.val (.int .i64 y5))])),(2,(.row false 2 asZ y6)),(3,(.row false 169 asX y7)),(4,(.row false 100 asX y8)),(5,(.row false 173 asY y9)),(6,(.row false 176 asY y10))]
def Dt:rL→LT rL
 |(y0,y1,y2,y3,y4,y5,y6,y7,y8,y9,y10)=> .ite (Kh y0 y1) (.need [(Yb y0),(Yc y0 y2),(Yd y0 y2)] (.need [(Ye y0 y2),(Yf y0 y2),(Yg y0 y2),(Yh y0 y2)] (.ite (Yi y0 y2) (.ext 0 [(0,0),(1,1),(2,2),(3,3),(4,4),(5,5),(6,6)]) (.nrm ((Yj y0),y1,y2,y3,y4,y5,y6,y7,y8,y9,y10) [(0,0),(1,1),(2,2),(3,3),(4,4),(5,5),(6,6)])))) (.ext 1 [(0,0),(1,1),(2,2),(3,3),(4,4),(5,5),(6,6)])
def Oo(s:St):Option rL:=
 (match s.look 31 with
 |some ⟨none,(.one ⟨false,[(.val (.int .i64 y0))]⟩)⟩=>
 (match s.look 30 with
 |some ⟨none,(.one ⟨false,[(.val (.int .i64 y1))]⟩)⟩=>
 (match s.look 29 with
 |some ⟨none,(.one ⟨false,[(.ref 2)]⟩)⟩=>
 (match s.look 1 with
 |some ⟨none,(.one ⟨false,[(.ptr 448 0)]⟩)⟩=>
 (match s.ent 2 with
 |some (.row false 24 (.sl 2 (.int .i64)) y2)=>
 (match s.ent 448 with
 |some (.box 33 [(.val (.int .i64 y3)),(.ref 0),(.ref 1),(.ref 2),(.ref 3),(.val (.int .i64 y4)),(.ref 4),(.ref 5),(.val (.int .i64 y5))])=>
 (match s.ent 0 with
 |some (.row false 2 (.int .i64) y6)=>
 (match s.ent 1 with
 |some (.row false 169 (.pair (.int .i64) (.pair (.int .i64) (.int .i64))) y7)=>
 (match s.ent 3 with
 |some (.row false 100 (.pair (.int .i64) (.pair (.int .i64) (.int .i64))) y8)=>
 (match s.ent 4 with
 |some (.row false 173 (.pair (.int .i64) (.int .i64)) y9)=>
 (match s.ent 5 with
 |some (.row false 176 (.pair (.int .i64) (.int .i64)) y10)=>
 some (y0,y1,y2,y3,y4,y5,y6,y7,y8,y9,y10)
 |_=>none)
 |_=>none)
 |_=>none)
 |_=>none)
 |_=>none)
 |_=>none)
 |_=>none)
 |_=>none)
 |_=>none)
 |_=>none)
 |_=>none)
def fK:Lp rL where
 h:=⟨[32,33,34,4,35,36,37,38,39,40,41,42,43,44,45,46,47,2,48,31],[0,1,2,3,4,5,6],[],[]⟩
 JL:=ago
 JE:=agh
 XL:=agC
 XE:=agv
 q:=fun j=>match j with | 0=> .ret | _=> .exit 0
 tags:= [0,1]
 lt:=Dt
 fuel:=fun(y0,y1,y2,y3,y4,y5,y6,y7,y8,y9,y10)=>y0.natAbs + y1.natAbs + y2.length + y3.natAbs + y4.natAbs + y5.natAbs + y6.length + y7.length + y8.length + y9.length + y10.length
 fix:=fun(_,y1,y2,y3,y4,y5,y6,y7,y8,y9,y10) (y0,_,_,_,_,_,_,_,_,_,_)=>(y0,y1,y2,y3,y4,y5,y6,y7,y8,y9,y10)
 σ:= [(0,2),(1,448),(2,0),(3,1),(4,3),(5,4),(6,5)]
 rd:=Oo
theorem aeb:LoopOk Tryz.prog (fun k=>Nat.blt k Tryz.f23.ntmps) fK.F (ay Tryz.f23 0):=by
 refine Lp.ok (tbl:= [zQ,PF.lend zQ,PF.fz zQ,zS,PF.lend zS,PF.fz zS,sf,PF.lend sf,PF.fz sf,se,PF.lend se,PF.fz se,aF,PF.lend aF,PF.fz aF,ae2,vI,PF.lend vI,PF.fz vI,ri,PF.lend ri,PF.fz ri,Oc]) (lf:= []) ar fK (by kernel_rfl) (LOk.nil _) (fun _=>rfl) (fun j _=>by unfold fK;match j with | 0=>rfl | _ + 1=>rfl) ?_ ?_ ?_ ?_ (fun _=>rfl) ?_
 ·intro x;obtain⟨y0,y1,y2,y3,y4,y5,y6,y7,y8,y9,y10⟩:=x;kernel_rfl
 ·intro x;obtain⟨y0,y1,y2,y3,y4,y5,y6,y7,y8,y9,y10⟩:=x;kernel_rfl
 ·intro s x h
  have h:Oo s=some x:=h
  unfold Oo at h
  repeat' split at h
  all_goals cases h
  exact⟨aa (by assumption) rfl (aa (by assumption) rfl (aa (by assumption) rfl (aa (by assumption) rfl (rfl)))),ac rfl (by assumption) rfl (ac rfl (by assumption) rfl (ac rfl (by assumption) rfl (ac rfl (by assumption) rfl (ac rfl (by assumption) rfl (ac rfl (by assumption) rfl (ac rfl (by assumption) rfl (rfl)))))))⟩
 ·intro x;obtain⟨y0,y1,y2,y3,y4,y5,y6,y7,y8,y9,y10⟩:=x;kernel_rfl
 ·intro x z;obtain⟨y0,y1,y2,y3,y4,y5,y6,y7,y8,y9,y10⟩:=x;exact(And.intro (And.intro trivial rfl) trivial)
section
variable (x0 x1 x2:Int)(x3:List Int)(x4:List (Int×Int×Int))(x5:List (List Int))(x6:List (Int×Int×Int))(x7 x8:List (Int×Int))
def sT:Bool:=bif bif !isT x0 x3 then true else !okFs x0 x4 then true else(↑x5.length:Int)!=(↑x3.length:Int)
def TQ:Int×Int×List (List Int)×Int×Int×Int×List Int×List (Int×Int×Int)×List (Int×Int×Int)×List (Int×Int)×List (Int×Int):=((0:Int),(↑x5.length:Int),x5,x0,x1,x2,x3,x4,x6,x7,x8)
def vL:Bool:=Nat.beq ((Lp.res fK (TQ x0 x1 x2 x3 x4 x5 x6 x7 x8)).1) (0:Nat)
def NE:Bool:=bif lfOk (cN (Option.getD x5[Int.toNat (0:Int)]? (uq (CTy.sl (2:TypeId) asZ)))) x6 then QO x1 else false
def Wr:Bool:=bif sT x0 x3 x4 x5 then false else bif vL x0 x1 x2 x3 x4 x5 x6 x7 x8 then false else bif bif bif NE x1 x5 x6 then okPl x7 else false then okLk x8 else false then vE x2 else false
def Ws:Bool:=allT [!(!!isT x0 x3&&true)||leN x4.length (9223372036854775807:Nat),sT x0 x3 x4 x5||Lp.fin fK (TQ x0 x1 x2 x3 x4 x5 x6 x7 x8),sT x0 x3 x4 x5||(vL x0 x1 x2 x3 x4 x5 x6 x7 x8||leI (0:Int) (0:Int)),sT x0 x3 x4 x5||(vL x0 x1 x2 x3 x4 x5 x6 x7 x8||ltI (0:Int) (↑x5.length:Int)),sT x0 x3 x4 x5||(vL x0 x1 x2 x3 x4 x5 x6 x7 x8||ltN (Int.toNat (0:Int)) x5.length),sT x0 x3 x4 x5||(vL x0 x1 x2 x3 x4 x5 x6 x7 x8||leN x6.length (9223372036854775807:Nat)),sT x0 x3 x4 x5||(vL x0 x1 x2 x3 x4 x5 x6 x7 x8||(!(NE x1 x5 x6&&true)||leN x7.length (9223372036854775807:Nat))),sT x0 x3 x4 x5||(vL x0 x1 x2 x3 x4 x5 x6 x7 x8||(!((bif NE x1 x5 x6 then okPl x7 else false)&&true)||leN x8.length (9223372036854775807:Nat)))]
end
def aet:List SV→List Entry→Option Out
 | [.one ⟨true,[.val (.int .i64 x0),.ref 0,.ref 1,.ref 2,.ref 3,.val (.int .i64 x1),.ref 4,.ref 5,.val (.int .i64 x2)]⟩],[.row false 2 (.int .i64) x3,.row false 169 (.pair (.int .i64) (.pair (.int .i64) (.int .i64))) x4,.row false 24 (.sl 2 (.int .i64)) x5,.row false 100 (.pair (.int .i64) (.pair (.int .i64) (.int .i64))) x6,.row false 173 (.pair (.int .i64) (.int .i64)) x7,.row false 176 (.pair (.int .i64) (.int .i64)) x8]=>some ⟨(.one ⟨false,[(.val (.bool (Wr x0 x1 x2 x3 x4 x5 x6 x7 x8)))]⟩),[(.row false 2 asZ x3),(.row false 169 asX x4),(.row false 24 (CTy.sl (2:TypeId) asZ) x5),(.row false 100 asX x6),(.row false 173 asY x7),(.row false 176 asY x8)],[],[(Ws x0 x1 x2 x3 x4 x5 x6 x7 x8)]⟩
 |_,_=>none
def ale:PF Tryz.prog:=PF.ofG Tryz.prog [zQ,PF.lend zQ,PF.fz zQ,zS,PF.lend zS,PF.fz zS,sf,PF.lend sf,PF.fz sf,se,PF.lend se,PF.fz se,aF,PF.lend aF,PF.fz aF,ae2,vI,PF.lend vI,PF.fz vI,ri,PF.lend ri,PF.fz ri,Oc] [fK.F] ar 23 Tryz.f23 Tryz.func23 (LOk.fnT (l:= [ay Tryz.f23 0]) (by kernel_rfl) (.cons aeb (.nil _))) aet (by
 intro vs es r h;unfold aet at h;split at h
 ·cases h;kernel_rfl
 ·cases h)
section
variable (x3:Int)(x4:List Int)(x5:List (Int×Int×Int))(x6:List (List Int))(x7:List (Int×Int×Int))(x8 x9:List (Int×Int))
def NP:Int:=NO (Jv (tW (MT (fj (szV x3 x4) x5) x6) x7) x8) x9
def vH:Int:=bif ltI (szV x3 x4) (0:Int)then(-1:Int)else bif ltI (fj (szV x3 x4) x5) (0:Int)then(-1:Int)else bif ltI (MT (fj (szV x3 x4) x5) x6) (0:Int)then(-1:Int)else bif ltI (tW (MT (fj (szV x3 x4) x5) x6) x7) (0:Int)then(-1:Int)else bif ltI (Jv (tW (MT (fj (szV x3 x4) x5) x6) x7) x8) (0:Int)then(-1:Int)else bif ltI (NP x3 x4 x5 x6 x7 x8 x9) (0:Int)then(-1:Int)else NP x3 x4 x5 x6 x7 x8 x9
def QP:Bool:=allT [leN x4.length (9223372036854775807:Nat)&&(leI (-1:Int) x3&&leI x3 (1048576:Int)),ltI (szV x3 x4) (0:Int)||(ltI (fj (szV x3 x4) x5) (0:Int)||adf (9223372036854775807:Nat) x6&&(leI (-1:Int) (fj (szV x3 x4) x5)&&leI (fj (szV x3 x4) x5) (1048576:Int)))]
end
def aeB:List SV→List Entry→Option Out
 | [.one ⟨true,[.val (.int .i64 _x0),.ref 0,.ref 1,.ref 2,.ref 3,.val (.int .i64 _x1),.ref 4,.ref 5,.val (.int .i64 _x2)]⟩,.one ⟨false,[.val (.int .i64 x3)]⟩],[.row false 2 (.int .i64) x4,.row false 206 (.pair (.int .i64) (.pair (.int .i64) (.int .i64))) x5,.row false 24 (.sl 2 (.int .i64)) x6,.row false 208 (.pair (.int .i64) (.pair (.int .i64) (.int .i64))) x7,.row false 210 (.pair (.int .i64) (.int .i64)) x8,.row false 212 (.pair (.int .i64) (.int .i64)) x9]=>some ⟨(.one ⟨false,[(.val (.int .i64 (vH x3 x4 x5 x6 x7 x8 x9)))]⟩),[(.row false 2 asZ x4),(.row false 206 asX x5),(.row false 24 (CTy.sl (2:TypeId) asZ) x6),(.row false 208 asX x7),(.row false 210 asY x8),(.row false 212 asY x9)],[],[(QP x3 x4 x5 x6)]⟩
 |_,_=>none
def WA:PF Tryz.prog:=PF.ofG Tryz.prog [Qx,PF.lend Qx,PF.fz Qx,HY,PF.lend HY,PF.fz HY,Qw,PF.lend Qw,PF.fz Qw,KH,PF.lend KH,PF.fz KH,Uk,PF.lend Uk,PF.fz Uk,Uj,PF.lend Uj,PF.fz Uj] [] ar 37 Tryz.f37 Tryz.func37 (fun c _=>LOk.nil c) aeB (by
 intro vs es r h;unfold aeB at h;split at h
 ·cases h;kernel_rfl
 ·cases h)
def HC(x3:List Int)(x4:List (Int×Int×Int))(x5:List (List Int))(x6:List (Int×Int×Int))(x7 x8:List (Int×Int)):Bool:=allT [leN x3.length (1048576:Nat),leN x4.length (1048576:Nat),adf (1048576:Nat) x5,leN x6.length (1048576:Nat),leN x7.length (1048576:Nat),leN x8.length (1048576:Nat)]
def aeD:List SV→List Entry→Option Out
 | [.one ⟨true,[.val (.int .i64 x0),.ref 0,.ref 1,.ref 2,.ref 3,.val (.int .i64 x1),.ref 4,.ref 5,.val (.int .i64 x2)]⟩],[.row false 2 (.int .i64) x3,.row false 206 (.pair (.int .i64) (.pair (.int .i64) (.int .i64))) x4,.row false 24 (.sl 2 (.int .i64)) x5,.row false 208 (.pair (.int .i64) (.pair (.int .i64) (.int .i64))) x6,.row false 210 (.pair (.int .i64) (.int .i64)) x7,.row false 212 (.pair (.int .i64) (.int .i64)) x8]=>some ⟨(.one ⟨true,[(.val (.int .i64 x0)),(.ref 6),(.ref 7),(.ref 8),(.ref 9),(.val (.int .i64 x1)),(.ref 10),(.ref 11),(.val (.int .i64 x2))]⟩),[(.row false 2 asZ x3),(.row false 206 asX x4),(.row false 24 (CTy.sl (2:TypeId) asZ) x5),(.row false 208 asX x6),(.row false 210 asY x7),(.row false 212 asY x8)],[(.row true 2 asZ x3),(.row true 169 asX x4),(.tree 24 (CTy.sl (2:Nat) asZ) x5 none),(.row true 100 asX x6),(.row true 173 asY x7),(.row true 176 asY x8)],[(HC x3 x4 x5 x6 x7 x8)]⟩
 |_,_=>none
def WB:PF Tryz.prog:=PF.ofG Tryz.prog [PF.trees Tryz.prog,Qz,PF.lend Qz,PF.fz Qz,HX,PF.lend HX,PF.fz HX,Qy,PF.lend Qy,PF.fz Qy,KG,PF.lend KG,PF.fz KG,Ue,PF.lend Ue,PF.fz Ue,Ud,PF.lend Ud,PF.fz Ud] [] ar 39 Tryz.f39 Tryz.func39 (fun c _=>LOk.nil c) aeD (by
 intro vs es r h;unfold aeD at h;split at h
 ·cases h;kernel_rfl
 ·cases h)
def Ef(x0 x1 x2 x3 x4 x5:Int)(x6:List Int)(x7:List (Int×Int×Int))(x8:List (List Int))(x9:List (Int×Int×Int))(x10 x11:List (Int×Int))(x12:List Int)(x13:List (Int×Int×Int))(x14:List (List Int))(x15:List (Int×Int×Int))(x16 x17:List (Int×Int)):Bool:=bif !eqT x0 x3 x6 x12 then false else bif !PA x7 x13 then false else bif !amg x8 x14 then false else bif !PA x9 x15 then false else bif x1 !=x4 then false else bif !ahW x10 x16 then false else bif !ahW x11 x17 then false else bif x2 !=x5 then false else true
def Eg(x0 x1 x3 x4:Int)(x6:List Int)(x7:List (Int×Int×Int))(x8:List (List Int))(x9:List (Int×Int×Int))(x10 x11:List (Int×Int))(x12:List Int)(x13:List (Int×Int×Int))(x14:List (List Int))(x15:List (Int×Int×Int))(x16:List (Int×Int)):Bool:=allT [leN x6.length (9223372036854775807:Nat),!eqT x0 x3 x6 x12||leN x7.length (9223372036854775807:Nat),!eqT x0 x3 x6 x12||(!PA x7 x13||adf (9223372036854775807:Nat) x8),!eqT x0 x3 x6 x12||(!PA x7 x13||(!amg x8 x14||leN x9.length (9223372036854775807:Nat))),!eqT x0 x3 x6 x12||(!PA x7 x13||(!amg x8 x14||(!PA x9 x15||(x1 !=x4||leN x10.length (9223372036854775807:Nat))))),!eqT x0 x3 x6 x12||(!PA x7 x13||(!amg x8 x14||(!PA x9 x15||(x1 !=x4||(!ahW x10 x16||leN x11.length (9223372036854775807:Nat))))))]
def aez:List SV→List Entry→Option Out
 | [.one ⟨true,[.val (.int .i64 x0),.ref 0,.ref 1,.ref 2,.ref 3,.val (.int .i64 x1),.ref 4,.ref 5,.val (.int .i64 x2)]⟩,.one ⟨true,[.val (.int .i64 x3),.ref 6,.ref 7,.ref 8,.ref 9,.val (.int .i64 x4),.ref 10,.ref 11,.val (.int .i64 x5)]⟩],[.row false 2 (.int .i64) x6,.row false 169 (.pair (.int .i64) (.pair (.int .i64) (.int .i64))) x7,.row false 24 (.sl 2 (.int .i64)) x8,.row false 100 (.pair (.int .i64) (.pair (.int .i64) (.int .i64))) x9,.row false 173 (.pair (.int .i64) (.int .i64)) x10,.row false 176 (.pair (.int .i64) (.int .i64)) x11,.row false 2 (.int .i64) x12,.row false 169 (.pair (.int .i64) (.pair (.int .i64) (.int .i64))) x13,.row false 24 (.sl 2 (.int .i64)) x14,.row false 100 (.pair (.int .i64) (.pair (.int .i64) (.int .i64))) x15,.row false 173 (.pair (.int .i64) (.int .i64)) x16,.row false 176 (.pair (.int .i64) (.int .i64)) x17]=>some ⟨(.one ⟨false,[(.val (.bool (Ef x0 x1 x2 x3 x4 x5 x6 x7 x8 x9 x10 x11 x12 x13 x14 x15 x16 x17)))]⟩),[(.row false 2 asZ x6),(.row false 169 asX x7),(.row false 24 (CTy.sl (2:TypeId) asZ) x8),(.row false 100 asX x9),(.row false 173 asY x10),(.row false 176 asY x11),(.row false 2 asZ x12),(.row false 169 asX x13),(.row false 24 (CTy.sl (2:TypeId) asZ) x14),(.row false 100 asX x15),(.row false 173 asY x16),(.row false 176 asY x17)],[],[(Eg x0 x1 x3 x4 x6 x7 x8 x9 x10 x11 x12 x13 x14 x15 x16)]⟩
 |_,_=>none
def Wz:PF Tryz.prog:=PF.ofG Tryz.prog [Qr,PF.lend Qr,PF.fz Qr,HU,PF.lend HU,PF.fz HU,Qq,PF.lend Qq,PF.fz Qq,KF,PF.lend KF,PF.fz KF,Uc,PF.lend Uc,PF.fz Uc,Ub,PF.lend Ub,PF.fz Ub] [] ar 41 Tryz.f41 Tryz.func41 (fun c _=>LOk.nil c) aez (by
 intro vs es r h;unfold aez at h;split at h
 ·cases h;kernel_rfl
 ·cases h)
end Go.SX

namespace Go.SX
open Go.Proofs
set_option maxRecDepth 100000
def anO(rs:List (List Int))(b:Nat):Bool:= !(areR (rs[b]?.getD [])&&(((rs[b]?.getD []).length:Int)==rowsR rs))
theorem anP(rs:List (List Int)):(List.range rs.length).any (anO rs)= !rsOk rs:=by
 have key: ∀ (l:List (List Int)) (P:List Int→Bool),((List.range l.length).any fun b=> !P (l[b]?.getD []))= !l.all P:=by
  intro l P
  rw [Bool.eq_iff_iff]
  simp only [List.any_eq_true,List.mem_range,Bool.not_eq_true',List.all_eq_false]
  constructor
  ·rintro⟨b,hb,h⟩
   rw [List.getElem?_eq_getElem hb]at h
   exact⟨l[b],List.getElem_mem hb,by simpa using h⟩
  ·rintro⟨x,hx,h⟩
   obtain⟨b,hb,rfl⟩:=List.getElem_of_mem hx
   exact⟨b,hb,by rw [List.getElem?_eq_getElem hb];simpa using h⟩
 exact key rs fun st=>areR st&&((st.length:Int)==rowsR rs)
def p8(m:Nat)(ps:List Int)(fs:List (Int×Int×Int))(rs:List (List Int))(lf:List (Int×Int×Int))(pl ls:List (Int×Int)):Bool:=leN ps.length m&&(leN fs.length m&&(adf m rs&&(leN lf.length m&&(leN pl.length m&&leN ls.length m))))
theorem xN{m:Nat}{ps:List Int}{fs:List (Int×Int×Int)}{rs:List (List Int)}{lf:List (Int×Int×Int)}{pl ls:List (Int×Int)}:
  p8 m ps fs rs lf pl ls=true↔ps.length≤m∧fs.length≤m∧(rs.length≤m∧ ∀ x∈rs,x.length≤m)∧lf.length≤m∧pl.length≤m∧ls.length≤m:=by
 simp only [p8,Bool.and_eq_true,cu,adg]
theorem ao2{m k:Nat}{ps:List Int}{fs:List (Int×Int×Int)}{rs:List (List Int)}{lf:List (Int×Int×Int)}{pl ls:List (Int×Int)}(h:p8 m ps fs rs lf pl ls=true)(hk:m≤k):p8 k ps fs rs lf pl ls=true:=by
 obtain⟨h1,h2,⟨h3,h4⟩,h5,h6,h7⟩:=xN.1 h
 exact xN.2 ⟨by omega,by omega,⟨by omega,fun x hx=>by have:=h4 x hx;omega⟩,by omega,by omega,by omega⟩
theorem aq9(x y:List Int):(bif !areR x then true else((bif !!areR x&&true then x else []).length:Int)!=(y.length:Int))= !(areR x&&((x.length:Int)==(y.length:Int))):=by
 cases h:areR x <;> simp [bne]
theorem ara(x y:List Int):(bif !areR x then true else(x.length:Int)!=((bif !!areR x&&true then y else []).length:Int))= !(areR x&&((x.length:Int)==(y.length:Int))):=by
 cases h:areR x <;> simp [bne]
theorem aq1(rs:List (List Int))(b:Nat):YK (b:Int) rs=anO rs b:=by
 exact aq9 (rs[b]?.getD []) (rs[0]?.getD [])
theorem aqH(rs:List (List Int))(b:Nat):Yi (b:Int) rs=anO rs b:=by
 exact ara (rs[b]?.getD []) (rs[0]?.getD [])
theorem apk(n mode day:Int)(ps:List Int)(fs:List (Int×Int×Int))(rs:List (List Int))(lf:List (Int×Int×Int))(pl ls:List (Int×Int))(hn:rs.length≤9223372036854775807)(hA: ∀ x∈rs,x.length≤9223372036854775807):
  fM.fin ((0:Int),n,mode,day,ps,fs,rs,lf,pl,ls)=true∧(fM.res ((0:Int),n,mode,day,ps,fs,rs,lf,pl,ls)).1=bif !rsOk rs then 0 else 1:=by
 rw [← anP]
 refine Lp.scan fM (fun b=>((b:Int),n,mode,day,ps,fs,rs,lf,pl,ls)) rs.length (anO rs) 1 (by simp only [fM];omega) (fun b hb=> ?_) ?_
 ·have hdec:ltI (b:Int) (rs.length:Int)=true:=ce (by omega)
  have hdec0:ltI 0 (rs.length:Int)=true:=ce (by omega)
  have hw:IntKind.i64.wrap ((b:Int) + 1)=((b + 1:Nat):Int):=by rw [aA (by omega) (by omega)];omega
  have hnn:leI (0:Int) (b:Int)=true:=bH (by omega)
  have hltd:ltN b rs.length=true:=cM (by omega)
  have hlt0:ltN 0 rs.length=true:=cM (by omega)
  have h6:leN (kZ (b:Int) rs).length 9223372036854775807=true:=gx (by
   simp only [kZ,Int.toNat_natCast]
   cases hq:rs[b]? with
   |none=>exact Nat.zero_le _
   |some x=>exact hA x (List.mem_of_getElem? hq))
  have i2:=aq1 rs b
  refine⟨?_,?_,?_⟩
  ·simp [fM,Dv,LT.nds,allT,FF,YD,YE,YF,YG,YH,YI,YJ,xo,hdec,hdec0,hnn,hltd,hlt0,h6]
  ·simp [fM,Dv,LT.each,YL,hw]
  ·simp only [fM,Dv,LT.fn,FF,hdec,i2,cond_true]
 ·simp [fM,Dv,LT.out,FF]
theorem apj(n mode day:Int)(ps:List Int)(fs:List (Int×Int×Int))(rs:List (List Int))(lf:List (Int×Int×Int))(pl ls:List (Int×Int))(hn:rs.length≤9223372036854775807)(hA: ∀ x∈rs,x.length≤9223372036854775807):
  fK.fin ((0:Int),(rs.length:Int),rs,n,mode,day,ps,fs,lf,pl,ls)=true∧(fK.res ((0:Int),(rs.length:Int),rs,n,mode,day,ps,fs,lf,pl,ls)).1=bif !rsOk rs then 0 else 1:=by
 rw [← anP]
 refine Lp.scan fK (fun b=>((b:Int),(rs.length:Int),rs,n,mode,day,ps,fs,lf,pl,ls)) rs.length (anO rs) 1 (by simp only [fK];omega) (fun b hb=> ?_) ?_
 ·have hdec:ltI (b:Int) (rs.length:Int)=true:=ce (by omega)
  have hdec0:ltI 0 (rs.length:Int)=true:=ce (by omega)
  have hw:IntKind.i64.wrap ((b:Int) + 1)=((b + 1:Nat):Int):=by rw [aA (by omega) (by omega)];omega
  have hnn:leI (0:Int) (b:Int)=true:=bH (by omega)
  have hltd:ltN b rs.length=true:=cM (by omega)
  have hlt0:ltN 0 rs.length=true:=cM (by omega)
  have h6:leN (ne (b:Int) rs).length 9223372036854775807=true:=gx (by
   simp only [ne,Int.toNat_natCast]
   cases hq:rs[b]? with
   |none=>exact Nat.zero_le _
   |some x=>exact hA x (List.mem_of_getElem? hq))
  have i2:=aqH rs b
  have h00:leI 0 0=true:=rfl
  refine⟨?_,?_,?_⟩
  ·simp [fK,Dt,LT.nds,allT,Kh,Yb,Yc,Yd,Ye,Yf,Yg,Yh,hdec,hdec0,hnn,hltd,hlt0,h6,h00]
  ·simp [fK,Dt,LT.each,Yj,hw]
  ·simp only [fK,Dt,LT.fn,Kh,hdec,i2,cond_true]
 ·simp [fK,Dt,LT.out,Kh]
theorem aru{n:Int}{ps:List Int}(h:isT n ps=true):inR n 2 8=true:=rh.2 (BU.1 h).1
theorem aqt(a b:Nat):((a:Int)!=(b:Int))= !decide (a=b):=by
 by_cases h:a=b
 ·subst h;simp
 ·have:(a:Int)≠(b:Int):=by omega
  simp [h,this]
theorem an0(n mode day:Int)(ps:List Int)(fs:List (Int×Int×Int))(rs:List (List Int))(lf:List (Int×Int×Int))(pl ls:List (Int×Int))(h:p8 9223372036854775807 ps fs rs lf pl ls=true):
  WO n mode day ps fs rs lf pl ls=pS n ps fs rs lf mode pl ls day∧WP n mode day ps fs rs lf pl ls=true:=by
 obtain⟨h1,h2,⟨h3,h4⟩,h5,h6,h7⟩:=xN.1 h
 obtain⟨w1,w2⟩:=apk n mode day ps fs rs lf pl ls h3 h4
 have e:uq (CTy.sl (2:TypeId) asZ)= []:=rfl
 have er:xm rs=rowsR rs:=rfl
 have q5:leN lf.length 9223372036854775807=true:=gx h5
 have q6:leN pl.length 9223372036854775807=true:=gx h6
 have q7:leN ls.length 9223372036854775807=true:=gx h7
 have q2:leN fs.length 9223372036854775807=true:=gx h2
 simp only [WO,WP,BE,UH,FE,UI,w1,w2,er,aqt,pS,OJ,aI,ui,allT,q2,q5,q6,q7,Bool.or_true,cond_true]
 cases hT:isT n ps with
 |false=>simp
 |true=>
  rw [aru hT]
  cases hF:okFs n fs with
  |false=>simp
  |true=>
   cases hl:decide (rs.length=ps.length)with
   |false=>simp
   |true=>
    have hl:rs.length=ps.length:=by simpa using hl
    have:=(BU.1 hT).2.1
    have r1:xo rs=true:=by
     have a1:ltI 0 (rs.length:Int)=true:=ce (by omega)
     have a2:ltN 0 rs.length=true:=cM (by omega)
     simp [xo,allT,a1,a2]
    cases rsOk rs with
    |false=>simp
    |true=>
     rw [r1]
     cases lfOk (rowsR rs) lf <;> cases inR mode 0 5 <;> cases okPl pl <;> cases okLk ls <;> simp [Nat.beq]
theorem ans(n mode day:Int)(ps:List Int)(fs:List (Int×Int×Int))(rs:List (List Int))(lf:List (Int×Int×Int))(pl ls:List (Int×Int))(h:p8 9223372036854775807 ps fs rs lf pl ls=true):
  Wr n mode day ps fs rs lf pl ls=pS n ps fs rs lf mode pl ls day∧Ws n mode day ps fs rs lf pl ls=true:=by
 obtain⟨h1,h2,⟨h3,h4⟩,h5,h6,h7⟩:=xN.1 h
 obtain⟨w1,w2⟩:=apj n mode day ps fs rs lf pl ls h3 h4
 have e:uq (CTy.sl (2:TypeId) asZ)= []:=rfl
 have er:NE mode rs lf=(bif lfOk (rowsR rs) lf then QO mode else false):=rfl
 have q5:leN lf.length 9223372036854775807=true:=gx h5
 have q6:leN pl.length 9223372036854775807=true:=gx h6
 have q7:leN ls.length 9223372036854775807=true:=gx h7
 have q2:leN fs.length 9223372036854775807=true:=gx h2
 have h00:leI 0 0=true:=rfl
 simp only [Wr,Ws,sT,TQ,vL,er,w1,w2,aqt,pS,QO,vE,aX,ui,allT,q2,q5,q6,q7,h00,Bool.or_true,cond_true]
 cases hT:isT n ps with
 |false=>simp
 |true=>
  cases hF:okFs n fs with
  |false=>simp
  |true=>
   cases hl:decide (rs.length=ps.length)with
   |false=>simp
   |true=>
    have hl:rs.length=ps.length:=by simpa using hl
    have:=(BU.1 hT).2.1
    have a1:ltI 0 (rs.length:Int)=true:=ce (by omega)
    have a2:ltN (Int.toNat 0) rs.length=true:=cM (by simp;omega)
    rw [a1,a2]
    cases rsOk rs with
    |false=>simp
    |true=>
     cases lfOk (rowsR rs) lf <;> cases inR mode 0 5 <;> cases okPl pl <;> cases okLk ls <;> simp [Nat.beq]
theorem aoT{n:Int}{ps:List Int}{fs:List (Int×Int×Int)}{rs:List (List Int)}{lf:List (Int×Int×Int)}{mode:Int}{pl ls:List (Int×Int)}{day:Int}:
  pS n ps fs rs lf mode pl ls day=true↔isT n ps=true∧okFs n fs=true∧rs.length=ps.length∧rsOk rs=true∧lfOk (rowsR rs) lf=true∧inR mode 0 5=true∧okPl pl=true∧okLk ls=true∧inR day 0 100000=true:=by
 simp only [pS,Bool.and_eq_true,decide_eq_true_eq]
theorem anC{n:Int}{fs:List (Int×Int×Int)}(h:okFs n fs=true):fs.length≤8:=by
 simp only [okFs,Bool.and_eq_true,cu]at h;exact h.1
theorem aqM{n:Int}{fs:List (Int×Int×Int)}(h:lfOk n fs=true):fs.length≤8:=by
 simp only [lfOk,Bool.and_eq_true]at h;exact anC h.2
def aeQ:List SV→List Entry→Option Out
 | [.one ⟨true,[.val (.int .i64 x0),.ref 0,.ref 1,.ref 2,.ref 3,.val (.int .i64 x1),.ref 4,.ref 5,.val (.int .i64 x2)]⟩],[.row false 2 (.int .i64) x3,.row false 169 (.pair (.int .i64) (.pair (.int .i64) (.int .i64))) x4,.row false 24 (.sl 2 (.int .i64)) x5,.row false 100 (.pair (.int .i64) (.pair (.int .i64) (.int .i64))) x6,.row false 173 (.pair (.int .i64) (.int .i64)) x7,.row false 176 (.pair (.int .i64) (.int .i64)) x8]=>some ⟨(.one ⟨false,[(.val (.bool (pS x0 x3 x4 x5 x6 x1 x7 x8 x2)))]⟩),[(.row false 2 asZ x3),(.row false 169 asX x4),(.row false 24 (CTy.sl (2:TypeId) asZ) x5),(.row false 100 asX x6),(.row false 173 asY x7),(.row false 176 asY x8)],[],[p8 9223372036854775807 x3 x4 x5 x6 x7 x8]⟩
 |_,_=>none
def HD:PF Tryz.prog:=PF.alt alh aeQ (by
 intro args es o h hnd;unfold aeQ at h;split at h
 ·rename_i x0 x1 x2 x3 x4 x5 x6 x7 x8
  cases h
  have hnd:=cf hnd
  have hh:=an0 x0 x1 x2 x3 x4 x5 x6 x7 x8 hnd
  obtain⟨e0,en⟩:=hh
  exact eT rfl (cg en) (by simp only [e0] <;> rfl) rfl rfl
 ·cases h)
def aeO:List SV→List Entry→Option Out
 | [.one ⟨true,[.val (.int .i64 x0),.ref 0,.ref 1,.ref 2,.ref 3,.val (.int .i64 x1),.ref 4,.ref 5,.val (.int .i64 x2)]⟩],[.row false 2 (.int .i64) x3,.row false 169 (.pair (.int .i64) (.pair (.int .i64) (.int .i64))) x4,.row false 24 (.sl 2 (.int .i64)) x5,.row false 100 (.pair (.int .i64) (.pair (.int .i64) (.int .i64))) x6,.row false 173 (.pair (.int .i64) (.int .i64)) x7,.row false 176 (.pair (.int .i64) (.int .i64)) x8]=>some ⟨(.one ⟨false,[(.val (.bool (pS x0 x3 x4 x5 x6 x1 x7 x8 x2)))]⟩),[(.row false 2 asZ x3),(.row false 169 asX x4),(.row false 24 (CTy.sl (2:TypeId) asZ) x5),(.row false 100 asX x6),(.row false 173 asY x7),(.row false 176 asY x8)],[],[p8 9223372036854775807 x3 x4 x5 x6 x7 x8]⟩
 |_,_=>none
def Wx:PF Tryz.prog:=PF.alt ale aeO (by
 intro args es o h hnd;unfold aeO at h;split at h
 ·rename_i x0 x1 x2 x3 x4 x5 x6 x7 x8
  cases h
  have hnd:=cf hnd
  have hh:=ans x0 x1 x2 x3 x4 x5 x6 x7 x8 hnd
  obtain⟨e0,en⟩:=hh
  exact eT rfl (cg en) (by simp only [e0] <;> rfl) rfl rfl
 ·cases h)
end Go.SX

namespace Go.SX
open Go.Proofs
set_option maxRecDepth 100000
def NA:List SV→List Entry→Option Out
 | [.one ⟨true,[.val (.int .i64 x0),.val (.int .i64 x1)]⟩],[]=>some ⟨(.one ⟨true,[(.val (.int .i64 x0)),(.val (.int .i64 x1))]⟩),[],[],[]⟩
 |_,_=>none
def ZI:PF Tryz.prog:=PF.ofG Tryz.prog [] [] ar 123 Tryz.f123 Tryz.func123 (fun c _=>LOk.nil c) NA (by
 intro vs es r h;unfold NA at h;split at h
 ·cases h;kernel_rfl
 ·cases h)
def Xj:List SV→List Entry→Option Out
 | [.one ⟨true,[.val (.int .i64 x0),.val (.int .i64 x1),.val (.bool x2)]⟩],[]=>some ⟨(.one ⟨true,[(.val (.int .i64 x0)),(.val (.int .i64 x1)),(.val (.bool x2))]⟩),[],[],[]⟩
 |_,_=>none
def aiw:PF Tryz.prog:=PF.ofG Tryz.prog [] [] ar 124 Tryz.f124 Tryz.func124 (fun c _=>LOk.nil c) Xj (by
 intro vs es r h;unfold Xj at h;split at h
 ·cases h;kernel_rfl
 ·cases h)
def VE:List SV→List Entry→Option Out
 | [.one ⟨true,[.val (.int .i64 x0),.val (.int .i64 x1),.val (.int .i64 x2),.val (.int .i64 x3),.val (.int .i64 x4),.val (.int .i64 x5),.val (.bool x6)]⟩],[]=>some ⟨(.one ⟨true,[(.val (.int .i64 x0)),(.val (.int .i64 x1)),(.val (.int .i64 x2)),(.val (.int .i64 x3)),(.val (.int .i64 x4)),(.val (.int .i64 x5)),(.val (.bool x6))]⟩),[],[],[]⟩
 |_,_=>none
def ahj:PF Tryz.prog:=PF.ofG Tryz.prog [ZI,aiw] [] ar 43 Tryz.f43 Tryz.func43 (fun c _=>LOk.nil c) VE (by
 intro vs es r h;unfold VE at h;split at h
 ·cases h;kernel_rfl
 ·cases h)
abbrev dg:=Int×Int×List (Int×(Int×Int))
section
variable (y0 y1:Int)(y2:List (Int×(Int×Int)))
def jY:Int×Int:=(Option.getD y2[Int.toNat y0]? ((0:Int),(0:Int),(0:Int))).2
def fI:List (Int×Int×Int):=List.set y2 y0.toNat (y1,(jY y0 y2).1,(jY y0 y2).2)
def jZ:Int×Int×Int:=Option.getD (fI y0 y1 y2)[Int.toNat y0]? ((0:Int),(0:Int),(0:Int))
def j0:Int:=IntKind.wrap .i64 (y1 + (1:Int))
def fJ:List (Int×Int×Int):=List.set (fI y0 y1 y2) y0.toNat ((jZ y0 y1 y2).1,j0 y1,(jZ y0 y1 y2).2.2)
def j6:Int:=IntKind.wrap .i64 (j0 y1 + (1:Int))
def j7:Int×Int×Int:=Option.getD (fJ y0 y1 y2)[Int.toNat y0]? ((0:Int),(0:Int),(0:Int))
def kF:Bool:=ltI y0 (↑y2.length:Int)
def iL:Bool:=leI (0:Int) y0
def oC:Bool:=ltN y0.toNat y2.length
def oD:Bool:=ltI y0 (↑(List.length (fI y0 y1 y2)):Int)
def oE:Bool:=ltN y0.toNat (List.length (fI y0 y1 y2))
def oF:Bool:=ltI y0 (↑(List.length (fJ y0 y1 y2)):Int)
def oG:Bool:=ltN y0.toNat (List.length (fJ y0 y1 y2))
def oH:Int:=IntKind.wrap .i64 (y0 + (1:Int))
def oI:Int:=IntKind.wrap .i64 (j6 y1 + (1:Int))
def oJ:List (Int×(Int×Int)):=List.set (fJ y0 y1 y2) y0.toNat ((j7 y0 y1 y2).1,((j7 y0 y1 y2).2).1,j6 y1)
end
def SQ:dg→List (Nat×SV)
 |(y0,y1,_)=> [(5,(.one ⟨false,[(.val (.int .i64 y0))]⟩)),(0,(.one ⟨false,[(.ref 0)]⟩)),(1,(.one ⟨false,[(.val (.int .i64 y1))]⟩))]
def SN:dg→List (Nat×Entry)
 |(_,_,y2)=> [(0,(.row true 169 asX y2))]
def SZ:Nat→dg→List (Nat×SV)
 |_,(_,y1,_)=> [(1,(.one ⟨false,[(.val (.int .i64 y1))]⟩))]
def SU:Nat→dg→List (Nat×Entry)
 |_,(_,_,y2)=> [(0,(.row true 169 asX y2))]
def ng:dg→LT dg
 |(y0,y1,y2)=> .ite (kF y0 y2) (.need [(iL y0),(kF y0 y2),(oC y0 y2)] (.need [(iL y0),(oD y0 y1 y2),(oE y0 y1 y2)] (.need [(iL y0),(oF y0 y1 y2),(oG y0 y1 y2)] (.nrm ((oH y0),(oI y1),(oJ y0 y1 y2)) [(0,0)])))) (.ext 0 [(0,0)])
def zB(s:St):Option dg:=
 (match s.look 5 with
 |some ⟨none,(.one ⟨false,[(.val (.int .i64 y0))]⟩)⟩=>
 (match s.look 0 with
 |some ⟨none,(.one ⟨false,[(.ref 0)]⟩)⟩=>
 (match s.look 1 with
 |some ⟨none,(.one ⟨false,[(.val (.int .i64 y1))]⟩)⟩=>
 (match s.ent 0 with
 |some (.row true 169 (.pair (.int .i64) (.pair (.int .i64) (.int .i64))) y2)=>
 some (y0,y1,y2)
 |_=>none)
 |_=>none)
 |_=>none)
 |_=>none)
def bo:Lp dg where
 h:=⟨[6,7,8,9,12,13,14,15,16,17,18,1,19,20,21,22,23,24,25,26,27,28,29,30,31,32,10,11,5],[0],[],[]⟩
 JL:=SQ
 JE:=SN
 XL:=SZ
 XE:=SU
 q:=fun j=>match j with | _=> .exit 0
 tags:= [0]
 lt:=ng
 fuel:=fun(y0,y1,y2)=>y0.natAbs + y1.natAbs + y2.length
 fix:=fun(_,_,_) (y0,y1,y2)=>(y0,y1,y2)
 σ:= [(0,0)]
 rd:=zB
theorem Rq:LoopOk Tryz.prog (fun k=>Nat.blt k Tryz.f126.ntmps) bo.F (ay Tryz.f126 0):=by
 refine Lp.ok (tbl:= []) (lf:= []) ar bo (by kernel_rfl) (LOk.nil _) (fun _=>rfl) (fun _ _=>rfl) ?_ ?_ ?_ ?_ (fun _=>rfl) ?_
 ·intro x;obtain⟨y0,y1,y2⟩:=x;kernel_rfl
 ·intro x;obtain⟨y0,y1,y2⟩:=x;kernel_rfl
 ·intro s x h
  have h:zB s=some x:=h
  unfold zB at h
  repeat' split at h
  all_goals cases h
  exact⟨aa (by assumption) rfl (aa (by assumption) rfl (aa (by assumption) rfl (rfl))),ac rfl (by assumption) rfl (rfl)⟩
 ·intro x;obtain⟨y0,y1,y2⟩:=x;kernel_rfl
 ·intro x z;obtain⟨y0,y1,y2⟩:=x;exact(And.intro rfl trivial)
section
variable (x0:Int)(x1:List (Int×Int×Int))
def qW:Int×Int×List (Int×Int×Int):=((0:Int),x0,x1)
def vG:Int×List (Int×Int×Int):=(Lp.res bo (qW x0 x1)).2.2
def Fg:Int:=(vG x0 x1).1
def Fh:List (Int×(Int×Int)):=(vG x0 x1).2
def Fi:Bool:=allT [Lp.fin bo (qW x0 x1)]
end
def MV:List SV→List Entry→Option Out
 | [.one ⟨false,[.ref 0]⟩,.one ⟨false,[.val (.int .i64 x0)]⟩],[.row true 169 (.pair (.int .i64) (.pair (.int .i64) (.int .i64))) x1]=>some ⟨(.one ⟨false,[(.val (.int .i64 (Fg x0 x1)))]⟩),[(.row true 169 asX (Fh x0 x1))],[],[(Fi x0 x1)]⟩
 |_,_=>none
def YA:PF Tryz.prog:=PF.ofG Tryz.prog [] [bo.F] ar 126 Tryz.f126 Tryz.func126 (LOk.fnT (l:= [ay Tryz.f126 0]) (by kernel_rfl) (.cons Rq (.nil _))) MV (by
 intro vs es r h;unfold MV at h;split at h
 ·cases h;kernel_rfl
 ·cases h)
abbrev gM:=Int×Int×List (List Int)
section
variable (y0 y1:Int)(y2:List (List Int))
def qi:Bool:=ltI y0 (↑y2.length:Int)
def uC:Bool:=leI (0:Int) y0
def uD:Bool:=ltN y0.toNat y2.length
def qj:Bool:=Pc y1 (List.length (Option.getD y2[Int.toNat y0]? (uq (CTy.sl (2:Nat) asZ))))
def uE:Int:=IntKind.wrap .i64 (y0 + (1:Int))
def uF:Int:=y1 + (↑(List.length (Option.getD y2[Int.toNat y0]? (uq (CTy.sl (2:Nat) asZ)))):Int)
def uG:List (List Int):=List.set y2 y0.toNat (tF y1 (List.length (Option.getD y2[Int.toNat y0]? (uq (CTy.sl (2:Nat) asZ)))))
end
def YV:gM→List (Nat×SV)
 |(y0,y1,_)=> [(5,(.one ⟨false,[(.val (.int .i64 y0))]⟩)),(0,(.one ⟨false,[(.ref 0)]⟩)),(1,(.one ⟨false,[(.val (.int .i64 y1))]⟩))]
def YT:gM→List (Nat×Entry)
 |(_,_,y2)=> [(0,(.tree 24 (CTy.sl (2:Nat) asZ) y2 none))]
def YZ:Nat→gM→List (Nat×SV)
 |_,(_,y1,_)=> [(1,(.one ⟨false,[(.val (.int .i64 y1))]⟩))]
def YX:Nat→gM→List (Nat×Entry)
 |_,(_,_,y2)=> [(0,(.tree 24 (CTy.sl (2:Nat) asZ) y2 none))]
def ti:gM→LT gM
 |(y0,y1,y2)=> .ite (qi y0 y2) (.need [(uC y0),(qi y0 y2),(uD y0 y2),(qj y0 y1 y2)] (.nrm ((uE y0),(uF y0 y1 y2),(uG y0 y1 y2)) [(0,0)])) (.ext 0 [(0,0)])
def GP(s:St):Option gM:=
 (match s.look 5 with
 |some ⟨none,(.one ⟨false,[(.val (.int .i64 y0))]⟩)⟩=>
 (match s.look 0 with
 |some ⟨none,(.one ⟨false,[(.ref 0)]⟩)⟩=>
 (match s.look 1 with
 |some ⟨none,(.one ⟨false,[(.val (.int .i64 y1))]⟩)⟩=>
 (match s.ent 0 with
 |some (.tree 24 (.sl 2 (.int .i64)) y2 none)=>
 some (y0,y1,y2)
 |_=>none)
 |_=>none)
 |_=>none)
 |_=>none)
def cC:Lp gM where
 h:=⟨[6,7,8,9,12,13,14,15,16,17,1,10,11,5],[0],[],[]⟩
 JL:=YV
 JE:=YT
 XL:=YZ
 XE:=YX
 q:=fun j=>match j with | _=> .exit 0
 tags:= [0]
 lt:=ti
 fuel:=fun(y0,y1,y2)=>y0.natAbs + y1.natAbs + y2.length
 fix:=fun(_,_,_) (y0,y1,y2)=>(y0,y1,y2)
 σ:= [(0,0)]
 rd:=GP
theorem Ww:LoopOk Tryz.prog (fun k=>Nat.blt k Tryz.f127.ntmps) cC.F (ay Tryz.f127 0):=by
 refine Lp.ok (tbl:= [PF.trees Tryz.prog,nj,PF.lend nj,PF.fz nj]) (lf:= []) ar cC (by kernel_rfl) (LOk.nil _) (fun _=>rfl) (fun _ _=>rfl) ?_ ?_ ?_ ?_ (fun _=>rfl) ?_
 ·intro x;obtain⟨y0,y1,y2⟩:=x;kernel_rfl
 ·intro x;obtain⟨y0,y1,y2⟩:=x;kernel_rfl
 ·intro s x h
  have h:GP s=some x:=h
  unfold GP at h
  repeat' split at h
  all_goals cases h
  exact⟨aa (by assumption) rfl (aa (by assumption) rfl (aa (by assumption) rfl (rfl))),ac rfl (by assumption) rfl (rfl)⟩
 ·intro x;obtain⟨y0,y1,y2⟩:=x;kernel_rfl
 ·intro x z;obtain⟨y0,y1,y2⟩:=x;exact(And.intro rfl trivial)
section
variable (x0:Int)(x1:List (List Int))
def yF:Int×Int×List (List Int):=((0:Int),x0,x1)
def yG:Int×List (List Int):=(Lp.res cC (yF x0 x1)).2.2
def Bf:Int:=(yG x0 x1).1
def Bg:List (List Int):=(yG x0 x1).2
def Bh:Bool:=allT [Lp.fin cC (yF x0 x1)]
end
def Ts:List SV→List Entry→Option Out
 | [.one ⟨false,[.ref 0]⟩,.one ⟨false,[.val (.int .i64 x0)]⟩],[.tree 24 (.sl 2 (.int .i64)) x1 none]=>some ⟨(.one ⟨false,[(.val (.int .i64 (Bf x0 x1)))]⟩),[(.tree 24 (CTy.sl (2:Nat) asZ) (Bg x0 x1) none)],[],[(Bh x0 x1)]⟩
 |_,_=>none
def af0:PF Tryz.prog:=PF.ofG Tryz.prog [PF.trees Tryz.prog,nj,PF.lend nj,PF.fz nj] [cC.F] ar 127 Tryz.f127 Tryz.func127 (LOk.fnT (l:= [ay Tryz.f127 0]) (by kernel_rfl) (.cons Ww (.nil _))) Ts (by
 intro vs es r h;unfold Ts at h;split at h
 ·cases h;kernel_rfl
 ·cases h)
abbrev ei:=Int×Int×List (Int×(Int×Int))
section
variable (y0 y1:Int)(y2:List (Int×(Int×Int)))
def lG:Int×Int:=(Option.getD y2[Int.toNat y0]? ((0:Int),(0:Int),(0:Int))).2
def gQ:List (Int×Int×Int):=List.set y2 y0.toNat (y1,(lG y0 y2).1,(lG y0 y2).2)
def lH:Int×Int×Int:=Option.getD (gQ y0 y1 y2)[Int.toNat y0]? ((0:Int),(0:Int),(0:Int))
def lI:Int:=IntKind.wrap .i64 (y1 + (1:Int))
def gR:List (Int×Int×Int):=List.set (gQ y0 y1 y2) y0.toNat ((lH y0 y1 y2).1,lI y1,(lH y0 y1 y2).2.2)
def lJ:Int:=IntKind.wrap .i64 (lI y1 + (1:Int))
def lK:Int×Int×Int:=Option.getD (gR y0 y1 y2)[Int.toNat y0]? ((0:Int),(0:Int),(0:Int))
def mo:Bool:=ltI y0 (↑y2.length:Int)
def jQ:Bool:=leI (0:Int) y0
def qO:Bool:=ltN y0.toNat y2.length
def qP:Bool:=ltI y0 (↑(List.length (gQ y0 y1 y2)):Int)
def qQ:Bool:=ltN y0.toNat (List.length (gQ y0 y1 y2))
def qR:Bool:=ltI y0 (↑(List.length (gR y0 y1 y2)):Int)
def qS:Bool:=ltN y0.toNat (List.length (gR y0 y1 y2))
def qT:Int:=IntKind.wrap .i64 (y0 + (1:Int))
def qU:Int:=IntKind.wrap .i64 (lJ y1 + (1:Int))
def qV:List (Int×(Int×Int)):=List.set (gR y0 y1 y2) y0.toNat ((lK y0 y1 y2).1,((lK y0 y1 y2).2).1,lJ y1)
end
def Vi:ei→List (Nat×SV)
 |(y0,y1,_)=> [(5,(.one ⟨false,[(.val (.int .i64 y0))]⟩)),(0,(.one ⟨false,[(.ref 0)]⟩)),(1,(.one ⟨false,[(.val (.int .i64 y1))]⟩))]
def Vd:ei→List (Nat×Entry)
 |(_,_,y2)=> [(0,(.row true 100 asX y2))]
def Vs:Nat→ei→List (Nat×SV)
 |_,(_,y1,_)=> [(1,(.one ⟨false,[(.val (.int .i64 y1))]⟩))]
def Vn:Nat→ei→List (Nat×Entry)
 |_,(_,_,y2)=> [(0,(.row true 100 asX y2))]
def pC:ei→LT ei
 |(y0,y1,y2)=> .ite (mo y0 y2) (.need [(jQ y0),(mo y0 y2),(qO y0 y2)] (.need [(jQ y0),(qP y0 y1 y2),(qQ y0 y1 y2)] (.need [(jQ y0),(qR y0 y1 y2),(qS y0 y1 y2)] (.nrm ((qT y0),(qU y1),(qV y0 y1 y2)) [(0,0)])))) (.ext 0 [(0,0)])
def Cs(s:St):Option ei:=
 (match s.look 5 with
 |some ⟨none,(.one ⟨false,[(.val (.int .i64 y0))]⟩)⟩=>
 (match s.look 0 with
 |some ⟨none,(.one ⟨false,[(.ref 0)]⟩)⟩=>
 (match s.look 1 with
 |some ⟨none,(.one ⟨false,[(.val (.int .i64 y1))]⟩)⟩=>
 (match s.ent 0 with
 |some (.row true 100 (.pair (.int .i64) (.pair (.int .i64) (.int .i64))) y2)=>
 some (y0,y1,y2)
 |_=>none)
 |_=>none)
 |_=>none)
 |_=>none)
def bC:Lp ei where
 h:=⟨[6,7,8,9,12,13,14,15,16,17,18,1,19,20,21,22,23,24,25,26,27,28,29,30,31,32,10,11,5],[0],[],[]⟩
 JL:=Vi
 JE:=Vd
 XL:=Vs
 XE:=Vn
 q:=fun j=>match j with | _=> .exit 0
 tags:= [0]
 lt:=pC
 fuel:=fun(y0,y1,y2)=>y0.natAbs + y1.natAbs + y2.length
 fix:=fun(_,_,_) (y0,y1,y2)=>(y0,y1,y2)
 σ:= [(0,0)]
 rd:=Cs
theorem Th:LoopOk Tryz.prog (fun k=>Nat.blt k Tryz.f128.ntmps) bC.F (ay Tryz.f128 0):=by
 refine Lp.ok (tbl:= []) (lf:= []) ar bC (by kernel_rfl) (LOk.nil _) (fun _=>rfl) (fun _ _=>rfl) ?_ ?_ ?_ ?_ (fun _=>rfl) ?_
 ·intro x;obtain⟨y0,y1,y2⟩:=x;kernel_rfl
 ·intro x;obtain⟨y0,y1,y2⟩:=x;kernel_rfl
 ·intro s x h
  have h:Cs s=some x:=h
  unfold Cs at h
  repeat' split at h
  all_goals cases h
  exact⟨aa (by assumption) rfl (aa (by assumption) rfl (aa (by assumption) rfl (rfl))),ac rfl (by assumption) rfl (rfl)⟩
 ·intro x;obtain⟨y0,y1,y2⟩:=x;kernel_rfl
 ·intro x z;obtain⟨y0,y1,y2⟩:=x;exact(And.intro rfl trivial)
section
variable (x0:Int)(x1:List (Int×Int×Int))
def tb:Int×Int×List (Int×Int×Int):=((0:Int),x0,x1)
def zt:Int×List (Int×Int×Int):=(Lp.res bC (tb x0 x1)).2.2
def HO:Int:=(zt x0 x1).1
def HP:List (Int×(Int×Int)):=(zt x0 x1).2
def HQ:Bool:=allT [Lp.fin bC (tb x0 x1)]
end
def Ps:List SV→List Entry→Option Out
 | [.one ⟨false,[.ref 0]⟩,.one ⟨false,[.val (.int .i64 x0)]⟩],[.row true 100 (.pair (.int .i64) (.pair (.int .i64) (.int .i64))) x1]=>some ⟨(.one ⟨false,[(.val (.int .i64 (HO x0 x1)))]⟩),[(.row true 100 asX (HP x0 x1))],[],[(HQ x0 x1)]⟩
 |_,_=>none
def abh:PF Tryz.prog:=PF.ofG Tryz.prog [] [bC.F] ar 128 Tryz.f128 Tryz.func128 (LOk.fnT (l:= [ay Tryz.f128 0]) (by kernel_rfl) (.cons Th (.nil _))) Ps (by
 intro vs es r h;unfold Ps at h;split at h
 ·cases h;kernel_rfl
 ·cases h)
abbrev i8:=Int×Int×List (Int×Int)
section
variable (y0 y1:Int)(y2:List (Int×Int))
def lr:List (Int×Int):=List.set y2 y0.toNat (y1,(Option.getD y2[Int.toNat y0]? ((0:Int),(0:Int))).2)
def sa:Int:=IntKind.wrap .i64 (y1 + (1:Int))
def tT:Bool:=ltI y0 (↑y2.length:Int)
def tU:Bool:=leI (0:Int) y0
def yN:Bool:=ltN y0.toNat y2.length
def yO:Bool:=ltI y0 (↑(List.length (lr y0 y1 y2)):Int)
def yP:Bool:=ltN y0.toNat (List.length (lr y0 y1 y2))
def yQ:Int:=IntKind.wrap .i64 (y0 + (1:Int))
def yR:Int:=IntKind.wrap .i64 (sa y1 + (1:Int))
def yS:List (Int×Int):=List.set (lr y0 y1 y2) y0.toNat ((Option.getD (lr y0 y1 y2)[Int.toNat y0]? ((0:Int),(0:Int))).1,sa y1)
end
def abY:i8→List (Nat×SV)
 |(y0,y1,_)=> [(5,(.one ⟨false,[(.val (.int .i64 y0))]⟩)),(0,(.one ⟨false,[(.ref 0)]⟩)),(1,(.one ⟨false,[(.val (.int .i64 y1))]⟩))]
def abO:i8→List (Nat×Entry)
 |(_,_,y2)=> [(0,(.row true 173 asY y2))]
def act:Nat→i8→List (Nat×SV)
 |_,(_,y1,_)=> [(1,(.one ⟨false,[(.val (.int .i64 y1))]⟩))]
def acj:Nat→i8→List (Nat×Entry)
 |_,(_,_,y2)=> [(0,(.row true 173 asY y2))]
def wy:i8→LT i8
 |(y0,y1,y2)=> .ite (tT y0 y2) (.need [(tU y0),(tT y0 y2),(yN y0 y2)] (.need [(tU y0),(yO y0 y1 y2),(yP y0 y1 y2)] (.nrm ((yQ y0),(yR y1),(yS y0 y1 y2)) [(0,0)]))) (.ext 0 [(0,0)])
def JN(s:St):Option i8:=
 (match s.look 5 with
 |some ⟨none,(.one ⟨false,[(.val (.int .i64 y0))]⟩)⟩=>
 (match s.look 0 with
 |some ⟨none,(.one ⟨false,[(.ref 0)]⟩)⟩=>
 (match s.look 1 with
 |some ⟨none,(.one ⟨false,[(.val (.int .i64 y1))]⟩)⟩=>
 (match s.ent 0 with
 |some (.row true 173 (.pair (.int .i64) (.int .i64)) y2)=>
 some (y0,y1,y2)
 |_=>none)
 |_=>none)
 |_=>none)
 |_=>none)
def dO:Lp i8 where
 h:=⟨[6,7,8,9,12,13,14,15,16,17,18,1,19,20,21,22,23,24,25,10,11,5],[0],[],[]⟩
 JL:=abY
 JE:=abO
 XL:=act
 XE:=acj
 q:=fun j=>match j with | _=> .exit 0
 tags:= [0]
 lt:=wy
 fuel:=fun(y0,y1,y2)=>y0.natAbs + y1.natAbs + y2.length
 fix:=fun(_,_,_) (y0,y1,y2)=>(y0,y1,y2)
 σ:= [(0,0)]
 rd:=JN
theorem Zu:LoopOk Tryz.prog (fun k=>Nat.blt k Tryz.f129.ntmps) dO.F (ay Tryz.f129 0):=by
 refine Lp.ok (tbl:= []) (lf:= []) ar dO (by kernel_rfl) (LOk.nil _) (fun _=>rfl) (fun _ _=>rfl) ?_ ?_ ?_ ?_ (fun _=>rfl) ?_
 ·intro x;obtain⟨y0,y1,y2⟩:=x;kernel_rfl
 ·intro x;obtain⟨y0,y1,y2⟩:=x;kernel_rfl
 ·intro s x h
  have h:JN s=some x:=h
  unfold JN at h
  repeat' split at h
  all_goals cases h
  exact⟨aa (by assumption) rfl (aa (by assumption) rfl (aa (by assumption) rfl (rfl))),ac rfl (by assumption) rfl (rfl)⟩
 ·intro x;obtain⟨y0,y1,y2⟩:=x;kernel_rfl
 ·intro x z;obtain⟨y0,y1,y2⟩:=x;exact(And.intro rfl trivial)
section
variable (x0:Int)(x1:List (Int×Int))
def De:Int×Int×List (Int×Int):=((0:Int),x0,x1)
def Iy:Int×List (Int×Int):=(Lp.res dO (De x0 x1)).2.2
def Qb:Int:=(Iy x0 x1).1
def Qc:List (Int×Int):=(Iy x0 x1).2
def Qd:Bool:=allT [Lp.fin dO (De x0 x1)]
end
def Xg:List SV→List Entry→Option Out
 | [.one ⟨false,[.ref 0]⟩,.one ⟨false,[.val (.int .i64 x0)]⟩],[.row true 173 (.pair (.int .i64) (.int .i64)) x1]=>some ⟨(.one ⟨false,[(.val (.int .i64 (Qb x0 x1)))]⟩),[(.row true 173 asY (Qc x0 x1))],[],[(Qd x0 x1)]⟩
 |_,_=>none
def ait:PF Tryz.prog:=PF.ofG Tryz.prog [] [dO.F] ar 129 Tryz.f129 Tryz.func129 (LOk.fnT (l:= [ay Tryz.f129 0]) (by kernel_rfl) (.cons Zu (.nil _))) Xg (by
 intro vs es r h;unfold Xg at h;split at h
 ·cases h;kernel_rfl
 ·cases h)
abbrev i7:=Int×Int×List (Int×Int)
section
variable (y0 y1:Int)(y2:List (Int×Int))
def lq:List (Int×Int):=List.set y2 y0.toNat (y1,(Option.getD y2[Int.toNat y0]? ((0:Int),(0:Int))).2)
def rZ:Int:=IntKind.wrap .i64 (y1 + (1:Int))
def tQ:Bool:=ltI y0 (↑y2.length:Int)
def tS:Bool:=leI (0:Int) y0
def yH:Bool:=ltN y0.toNat y2.length
def yI:Bool:=ltI y0 (↑(List.length (lq y0 y1 y2)):Int)
def yJ:Bool:=ltN y0.toNat (List.length (lq y0 y1 y2))
def yK:Int:=IntKind.wrap .i64 (y0 + (1:Int))
def yL:Int:=IntKind.wrap .i64 (rZ y1 + (1:Int))
def yM:List (Int×Int):=List.set (lq y0 y1 y2) y0.toNat ((Option.getD (lq y0 y1 y2)[Int.toNat y0]? ((0:Int),(0:Int))).1,rZ y1)
end
def abX:i7→List (Nat×SV)
 |(y0,y1,_)=> [(5,(.one ⟨false,[(.val (.int .i64 y0))]⟩)),(0,(.one ⟨false,[(.ref 0)]⟩)),(1,(.one ⟨false,[(.val (.int .i64 y1))]⟩))]
def abN:i7→List (Nat×Entry)
 |(_,_,y2)=> [(0,(.row true 176 asY y2))]
def acs:Nat→i7→List (Nat×SV)
 |_,(_,y1,_)=> [(1,(.one ⟨false,[(.val (.int .i64 y1))]⟩))]
def aci:Nat→i7→List (Nat×Entry)
 |_,(_,_,y2)=> [(0,(.row true 176 asY y2))]
def wx:i7→LT i7
 |(y0,y1,y2)=> .ite (tQ y0 y2) (.need [(tS y0),(tQ y0 y2),(yH y0 y2)] (.need [(tS y0),(yI y0 y1 y2),(yJ y0 y1 y2)] (.nrm ((yK y0),(yL y1),(yM y0 y1 y2)) [(0,0)]))) (.ext 0 [(0,0)])
def JM(s:St):Option i7:=
 (match s.look 5 with
 |some ⟨none,(.one ⟨false,[(.val (.int .i64 y0))]⟩)⟩=>
 (match s.look 0 with
 |some ⟨none,(.one ⟨false,[(.ref 0)]⟩)⟩=>
 (match s.look 1 with
 |some ⟨none,(.one ⟨false,[(.val (.int .i64 y1))]⟩)⟩=>
 (match s.ent 0 with
 |some (.row true 176 (.pair (.int .i64) (.int .i64)) y2)=>
 some (y0,y1,y2)
 |_=>none)
 |_=>none)
 |_=>none)
 |_=>none)
def dN:Lp i7 where
 h:=⟨[6,7,8,9,12,13,14,15,16,17,18,1,19,20,21,22,23,24,25,10,11,5],[0],[],[]⟩
 JL:=abX
 JE:=abN
 XL:=acs
 XE:=aci
 q:=fun j=>match j with | _=> .exit 0
 tags:= [0]
 lt:=wx
 fuel:=fun(y0,y1,y2)=>y0.natAbs + y1.natAbs + y2.length
 fix:=fun(_,_,_) (y0,y1,y2)=>(y0,y1,y2)
 σ:= [(0,0)]
 rd:=JM
theorem Zt:LoopOk Tryz.prog (fun k=>Nat.blt k Tryz.f130.ntmps) dN.F (ay Tryz.f130 0):=by
 refine Lp.ok (tbl:= []) (lf:= []) ar dN (by kernel_rfl) (LOk.nil _) (fun _=>rfl) (fun _ _=>rfl) ?_ ?_ ?_ ?_ (fun _=>rfl) ?_
 ·intro x;obtain⟨y0,y1,y2⟩:=x;kernel_rfl
 ·intro x;obtain⟨y0,y1,y2⟩:=x;kernel_rfl
 ·intro s x h
  have h:JM s=some x:=h
  unfold JM at h
  repeat' split at h
  all_goals cases h
  exact⟨aa (by assumption) rfl (aa (by assumption) rfl (aa (by assumption) rfl (rfl))),ac rfl (by assumption) rfl (rfl)⟩
 ·intro x;obtain⟨y0,y1,y2⟩:=x;kernel_rfl
 ·intro x z;obtain⟨y0,y1,y2⟩:=x;exact(And.intro rfl trivial)
section
variable (x0:Int)(x1:List (Int×Int))
def Dd:Int×Int×List (Int×Int):=((0:Int),x0,x1)
def Ix:Int×List (Int×Int):=(Lp.res dN (Dd x0 x1)).2.2
def PY:Int:=(Ix x0 x1).1
def PZ:List (Int×Int):=(Ix x0 x1).2
def Qa:Bool:=allT [Lp.fin dN (Dd x0 x1)]
end
def Xf:List SV→List Entry→Option Out
 | [.one ⟨false,[.ref 0]⟩,.one ⟨false,[.val (.int .i64 x0)]⟩],[.row true 176 (.pair (.int .i64) (.int .i64)) x1]=>some ⟨(.one ⟨false,[(.val (.int .i64 (PY x0 x1)))]⟩),[(.row true 176 asY (PZ x0 x1))],[],[(Qa x0 x1)]⟩
 |_,_=>none
def ais:PF Tryz.prog:=PF.ofG Tryz.prog [] [dN.F] ar 130 Tryz.f130 Tryz.func130 (LOk.fnT (l:= [ay Tryz.f130 0]) (by kernel_rfl) (.cons Zt (.nil _))) Xf (by
 intro vs es r h;unfold Xf at h;split at h
 ·cases h;kernel_rfl
 ·cases h)
abbrev df:=Int×Int×List (Int×(Int×Int))
section
variable (y0 y1:Int)(y2:List (Int×(Int×Int)))
def hZ:Int×Int×Int:=Option.getD y2[Int.toNat y0]? ((0:Int),(0:Int),(0:Int))
def jW:Int:=IntKind.wrap .i64 (y1 + (1:Int))
def jX:Int:=IntKind.wrap .i64 (jW y1 + (1:Int))
def gw:Bool:=ltI y0 (↑y2.length:Int)
def iJ:Bool:=leI (0:Int) y0
def iK:Bool:=ltN y0.toNat y2.length
def ox:Bool:=(hZ y0 y2).1!=y1
end
def dk:Int:=(-1:Int)
section
variable (y0 y1:Int)(y2:List (Int×(Int×Int)))
def oy:Bool:=((hZ y0 y2).2).1!=jW y1
def oz:Bool:=(hZ y0 y2).2.2!=jX y1
def oA:Int:=IntKind.wrap .i64 (y0 + (1:Int))
def oB:Int:=IntKind.wrap .i64 (jX y1 + (1:Int))
end
def SP:df→List (Nat×SV)
 |(y0,y1,_)=> [(5,(.one ⟨false,[(.val (.int .i64 y0))]⟩)),(0,(.one ⟨false,[(.ref 0)]⟩)),(1,(.one ⟨false,[(.val (.int .i64 y1))]⟩))]
def SM:df→List (Nat×Entry)
 |(_,_,y2)=> [(0,(.row false 169 asX y2))]
def SY:Nat→df→List (Nat×SV)
 |0,(_,_,_)=> [(4,(.one ⟨false,[(.val (.int .i64 (dk)))]⟩))]
 |1,(_,_,_)=> [(4,(.one ⟨false,[(.val (.int .i64 (dk)))]⟩))]
 |2,(_,_,_)=> [(4,(.one ⟨false,[(.val (.int .i64 (dk)))]⟩))]
 |_,(_,y1,_)=> [(1,(.one ⟨false,[(.val (.int .i64 y1))]⟩))]
def ST:Nat→df→List (Nat×Entry)
 |0,(_,_,y2)=> [(0,(.row false 169 asX y2))]
 |1,(_,_,y2)=> [(0,(.row false 169 asX y2))]
 |2,(_,_,y2)=> [(0,(.row false 169 asX y2))]
 |_,(_,_,y2)=> [(0,(.row false 169 asX y2))]
def nf:df→LT df
 |(y0,y1,y2)=> .ite (gw y0 y2) (.need [(iJ y0),(gw y0 y2),(iK y0 y2)] (.ite (ox y0 y1 y2) (.ext 0 [(0,0)]) (.need [(iJ y0),(gw y0 y2),(iK y0 y2)] (.ite (oy y0 y1 y2) (.ext 1 [(0,0)]) (.need [(iJ y0),(gw y0 y2),(iK y0 y2)] (.ite (oz y0 y1 y2) (.ext 2 [(0,0)]) (.nrm ((oA y0),(oB y1),y2) [(0,0)]))))))) (.ext 3 [(0,0)])
def zA(s:St):Option df:=
 (match s.look 5 with
 |some ⟨none,(.one ⟨false,[(.val (.int .i64 y0))]⟩)⟩=>
 (match s.look 0 with
 |some ⟨none,(.one ⟨false,[(.ref 0)]⟩)⟩=>
 (match s.look 1 with
 |some ⟨none,(.one ⟨false,[(.val (.int .i64 y1))]⟩)⟩=>
 (match s.ent 0 with
 |some (.row false 169 (.pair (.int .i64) (.pair (.int .i64) (.int .i64))) y2)=>
 some (y0,y1,y2)
 |_=>none)
 |_=>none)
 |_=>none)
 |_=>none)
def aJ:Lp df where
 h:=⟨[6,7,8,9,12,13,14,15,16,17,18,4,19,20,1,21,22,23,24,25,26,27,28,29,30,31,32,33,34,35,36,37,38,10,11,5],[0],[],[]⟩
 JL:=SP
 JE:=SM
 XL:=SY
 XE:=ST
 q:=fun j=>match j with | 0=> .ret | 1=> .ret | 2=> .ret | _=> .exit 0
 tags:= [0,1,2,3]
 lt:=nf
 fuel:=fun(y0,y1,y2)=>y0.natAbs + y1.natAbs + y2.length
 fix:=fun(_,_,y2) (y0,y1,_)=>(y0,y1,y2)
 σ:= [(0,0)]
 rd:=zA
theorem Rp:LoopOk Tryz.prog (fun k=>Nat.blt k Tryz.f132.ntmps) aJ.F (ay Tryz.f132 0):=by
 refine Lp.ok (tbl:= []) (lf:= []) ar aJ (by kernel_rfl) (LOk.nil _) (fun _=>rfl) (fun j _=>by unfold aJ;match j with | 0=>rfl | 1=>rfl | 2=>rfl | _ + 3=>rfl) ?_ ?_ ?_ ?_ (fun _=>rfl) ?_
 ·intro x;obtain⟨y0,y1,y2⟩:=x;kernel_rfl
 ·intro x;obtain⟨y0,y1,y2⟩:=x;kernel_rfl
 ·intro s x h
  have h:zA s=some x:=h
  unfold zA at h
  repeat' split at h
  all_goals cases h
  exact⟨aa (by assumption) rfl (aa (by assumption) rfl (aa (by assumption) rfl (rfl))),ac rfl (by assumption) rfl (rfl)⟩
 ·intro x;obtain⟨y0,y1,y2⟩:=x;kernel_rfl
 ·intro x z;obtain⟨y0,y1,y2⟩:=x;exact(And.intro (And.intro trivial (And.intro trivial (And.intro trivial rfl))) trivial)
section
variable (x0:Int)(x1:List (Int×Int×Int))
def jP:Int×Int×List (Int×Int×Int):=((0:Int),x0,x1)
def xH:Int:=bif Nat.beq ((Lp.res aJ (jP x0 x1)).1) (0:Nat)then dk else bif Nat.beq ((Lp.res aJ (jP x0 x1)).1) (1:Nat)then dk else bif Nat.beq ((Lp.res aJ (jP x0 x1)).1) (2:Nat)then dk else ((Lp.res aJ (jP x0 x1)).2.2).1
def Ff:Bool:=allT [Lp.fin aJ (jP x0 x1)]
end
def MU:List SV→List Entry→Option Out
 | [.one ⟨false,[.ref 0]⟩,.one ⟨false,[.val (.int .i64 x0)]⟩],[.row false 169 (.pair (.int .i64) (.pair (.int .i64) (.int .i64))) x1]=>some ⟨(.one ⟨false,[(.val (.int .i64 (xH x0 x1)))]⟩),[(.row false 169 asX x1)],[],[(Ff x0 x1)]⟩
 |_,_=>none
def Yz:PF Tryz.prog:=PF.ofG Tryz.prog [] [aJ.F] ar 132 Tryz.f132 Tryz.func132 (LOk.fnT (l:= [ay Tryz.f132 0]) (by kernel_rfl) (.cons Rp (.nil _))) MU (by
 intro vs es r h;unfold MU at h;split at h
 ·cases h;kernel_rfl
 ·cases h)
abbrev gL:=Int×Int×List (List Int)
section
variable (y0 y1:Int)(y2:List (List Int))
def hY:List Int:=Option.getD y2[Int.toNat y0]? (uq (CTy.sl (2:Nat) asZ))
def qh:Bool:=ltI y0 (↑y2.length:Int)
def BX:Bool:=leI (0:Int) y0
def BZ:Bool:=ltN y0.toNat y2.length
def Ca:Bool:=leN (List.length (hY y0 y2)) (9223372036854775807:Nat)
def uz:Bool:=ltI (Rk y1 (hY y0 y2)) (0:Int)
end
def uA:Int:=(-1:Int)
def Cb(y0:Int):Int:=IntKind.wrap .i64 (y0 + (1:Int))
def uB(y0 y1:Int)(y2:List (List Int)):Int:=Rk y1 (hY y0 y2)
def YU:gL→List (Nat×SV)
 |(y0,y1,_)=> [(5,(.one ⟨false,[(.val (.int .i64 y0))]⟩)),(0,(.one ⟨false,[(.ref 0)]⟩)),(1,(.one ⟨false,[(.val (.int .i64 y1))]⟩))]
def YS:gL→List (Nat×Entry)
 |(_,_,y2)=> [(0,(.row false 24 (CTy.sl (2:Nat) asZ) y2))]
def YY:Nat→gL→List (Nat×SV)
 |0,(_,_,_)=> [(4,(.one ⟨false,[(.val (.int .i64 (uA)))]⟩))]
 |_,(_,y1,_)=> [(1,(.one ⟨false,[(.val (.int .i64 y1))]⟩))]
def YW:Nat→gL→List (Nat×Entry)
 |0,(_,_,y2)=> [(0,(.row false 24 (CTy.sl (2:Nat) asZ) y2))]
 |_,(_,_,y2)=> [(0,(.row false 24 (CTy.sl (2:Nat) asZ) y2))]
def th:gL→LT gL
 |(y0,y1,y2)=> .ite (qh y0 y2) (.need [(BX y0),(qh y0 y2),(BZ y0 y2),(Ca y0 y2)] (.ite (uz y0 y1 y2) (.ext 0 [(0,0)]) (.nrm ((Cb y0),(uB y0 y1 y2),y2) [(0,0)]))) (.ext 1 [(0,0)])
def GO(s:St):Option gL:=
 (match s.look 5 with
 |some ⟨none,(.one ⟨false,[(.val (.int .i64 y0))]⟩)⟩=>
 (match s.look 0 with
 |some ⟨none,(.one ⟨false,[(.ref 0)]⟩)⟩=>
 (match s.look 1 with
 |some ⟨none,(.one ⟨false,[(.val (.int .i64 y1))]⟩)⟩=>
 (match s.ent 0 with
 |some (.row false 24 (.sl 2 (.int .i64)) y2)=>
 some (y0,y1,y2)
 |_=>none)
 |_=>none)
 |_=>none)
 |_=>none)
def bF:Lp gL where
 h:=⟨[6,7,8,9,12,13,14,15,16,17,1,18,19,4,10,11,5],[0],[],[]⟩
 JL:=YU
 JE:=YS
 XL:=YY
 XE:=YW
 q:=fun j=>match j with | 0=> .ret | _=> .exit 0
 tags:= [0,1]
 lt:=th
 fuel:=fun(y0,y1,y2)=>y0.natAbs + y1.natAbs + y2.length
 fix:=fun(_,_,y2) (y0,y1,_)=>(y0,y1,y2)
 σ:= [(0,0)]
 rd:=GO
theorem Wv:LoopOk Tryz.prog (fun k=>Nat.blt k Tryz.f133.ntmps) bF.F (ay Tryz.f133 0):=by
 refine Lp.ok (tbl:= [ni,PF.lend ni,PF.fz ni]) (lf:= []) ar bF (by kernel_rfl) (LOk.nil _) (fun _=>rfl) (fun j _=>by unfold bF;match j with | 0=>rfl | _ + 1=>rfl) ?_ ?_ ?_ ?_ (fun _=>rfl) ?_
 ·intro x;obtain⟨y0,y1,y2⟩:=x;kernel_rfl
 ·intro x;obtain⟨y0,y1,y2⟩:=x;kernel_rfl
 ·intro s x h
  have h:GO s=some x:=h
  unfold GO at h
  repeat' split at h
  all_goals cases h
  exact⟨aa (by assumption) rfl (aa (by assumption) rfl (aa (by assumption) rfl (rfl))),ac rfl (by assumption) rfl (rfl)⟩
 ·intro x;obtain⟨y0,y1,y2⟩:=x;kernel_rfl
 ·intro x z;obtain⟨y0,y1,y2⟩:=x;exact(And.intro (And.intro trivial rfl) trivial)
section
variable (x0:Int)(x1:List (List Int))
def EK:Int×Int×List (List Int):=((0:Int),x0,x1)
def Mk:Int:=bif Nat.beq ((Lp.res bF (EK x0 x1)).1) (0:Nat)then uA else ((Lp.res bF (EK x0 x1)).2.2).1
def Ml:Bool:=allT [Lp.fin bF (EK x0 x1)]
end
def Tq:List SV→List Entry→Option Out
 | [.one ⟨false,[.ref 0]⟩,.one ⟨false,[.val (.int .i64 x0)]⟩],[.row false 24 (.sl 2 (.int .i64)) x1]=>some ⟨(.one ⟨false,[(.val (.int .i64 (Mk x0 x1)))]⟩),[(.row false 24 (CTy.sl (2:TypeId) asZ) x1)],[],[(Ml x0 x1)]⟩
 |_,_=>none
def afY:PF Tryz.prog:=PF.ofG Tryz.prog [ni,PF.lend ni,PF.fz ni] [bF.F] ar 133 Tryz.f133 Tryz.func133 (LOk.fnT (l:= [ay Tryz.f133 0]) (by kernel_rfl) (.cons Wv (.nil _))) Tq (by
 intro vs es r h;unfold Tq at h;split at h
 ·cases h;kernel_rfl
 ·cases h)
abbrev eg:=Int×Int×List (Int×(Int×Int))
section
variable (y0 y1:Int)(y2:List (Int×(Int×Int)))
def jp:Int×Int×Int:=Option.getD y2[Int.toNat y0]? ((0:Int),(0:Int),(0:Int))
def lE:Int:=IntKind.wrap .i64 (y1 + (1:Int))
def lF:Int:=IntKind.wrap .i64 (lE y1 + (1:Int))
def iw:Bool:=ltI y0 (↑y2.length:Int)
def jN:Bool:=leI (0:Int) y0
def jO:Bool:=ltN y0.toNat y2.length
def qJ:Bool:=(jp y0 y2).1!=y1
end
def ep:Int:=(-1:Int)
section
variable (y0 y1:Int)(y2:List (Int×(Int×Int)))
def qK:Bool:=((jp y0 y2).2).1!=lE y1
def qL:Bool:=(jp y0 y2).2.2!=lF y1
def qM:Int:=IntKind.wrap .i64 (y0 + (1:Int))
def qN:Int:=IntKind.wrap .i64 (lF y1 + (1:Int))
end
def Vh:eg→List (Nat×SV)
 |(y0,y1,_)=> [(5,(.one ⟨false,[(.val (.int .i64 y0))]⟩)),(0,(.one ⟨false,[(.ref 0)]⟩)),(1,(.one ⟨false,[(.val (.int .i64 y1))]⟩))]
def Vc:eg→List (Nat×Entry)
 |(_,_,y2)=> [(0,(.row false 100 asX y2))]
def Vr:Nat→eg→List (Nat×SV)
 |0,(_,_,_)=> [(4,(.one ⟨false,[(.val (.int .i64 (ep)))]⟩))]
 |1,(_,_,_)=> [(4,(.one ⟨false,[(.val (.int .i64 (ep)))]⟩))]
 |2,(_,_,_)=> [(4,(.one ⟨false,[(.val (.int .i64 (ep)))]⟩))]
 |_,(_,y1,_)=> [(1,(.one ⟨false,[(.val (.int .i64 y1))]⟩))]
def Vm:Nat→eg→List (Nat×Entry)
 |0,(_,_,y2)=> [(0,(.row false 100 asX y2))]
 |1,(_,_,y2)=> [(0,(.row false 100 asX y2))]
 |2,(_,_,y2)=> [(0,(.row false 100 asX y2))]
 |_,(_,_,y2)=> [(0,(.row false 100 asX y2))]
def pB:eg→LT eg
 |(y0,y1,y2)=> .ite (iw y0 y2) (.need [(jN y0),(iw y0 y2),(jO y0 y2)] (.ite (qJ y0 y1 y2) (.ext 0 [(0,0)]) (.need [(jN y0),(iw y0 y2),(jO y0 y2)] (.ite (qK y0 y1 y2) (.ext 1 [(0,0)]) (.need [(jN y0),(iw y0 y2),(jO y0 y2)] (.ite (qL y0 y1 y2) (.ext 2 [(0,0)]) (.nrm ((qM y0),(qN y1),y2) [(0,0)]))))))) (.ext 3 [(0,0)])
def Cr(s:St):Option eg:=
 (match s.look 5 with
 |some ⟨none,(.one ⟨false,[(.val (.int .i64 y0))]⟩)⟩=>
 (match s.look 0 with
 |some ⟨none,(.one ⟨false,[(.ref 0)]⟩)⟩=>
 (match s.look 1 with
 |some ⟨none,(.one ⟨false,[(.val (.int .i64 y1))]⟩)⟩=>
 (match s.ent 0 with
 |some (.row false 100 (.pair (.int .i64) (.pair (.int .i64) (.int .i64))) y2)=>
 some (y0,y1,y2)
 |_=>none)
 |_=>none)
 |_=>none)
 |_=>none)
def aU:Lp eg where
 h:=⟨[6,7,8,9,12,13,14,15,16,17,18,4,19,20,1,21,22,23,24,25,26,27,28,29,30,31,32,33,34,35,36,37,38,10,11,5],[0],[],[]⟩
 JL:=Vh
 JE:=Vc
 XL:=Vr
 XE:=Vm
 q:=fun j=>match j with | 0=> .ret | 1=> .ret | 2=> .ret | _=> .exit 0
 tags:= [0,1,2,3]
 lt:=pB
 fuel:=fun(y0,y1,y2)=>y0.natAbs + y1.natAbs + y2.length
 fix:=fun(_,_,y2) (y0,y1,_)=>(y0,y1,y2)
 σ:= [(0,0)]
 rd:=Cr
theorem Tg:LoopOk Tryz.prog (fun k=>Nat.blt k Tryz.f134.ntmps) aU.F (ay Tryz.f134 0):=by
 refine Lp.ok (tbl:= []) (lf:= []) ar aU (by kernel_rfl) (LOk.nil _) (fun _=>rfl) (fun j _=>by unfold aU;match j with | 0=>rfl | 1=>rfl | 2=>rfl | _ + 3=>rfl) ?_ ?_ ?_ ?_ (fun _=>rfl) ?_
 ·intro x;obtain⟨y0,y1,y2⟩:=x;kernel_rfl
 ·intro x;obtain⟨y0,y1,y2⟩:=x;kernel_rfl
 ·intro s x h
  have h:Cr s=some x:=h
  unfold Cr at h
  repeat' split at h
  all_goals cases h
  exact⟨aa (by assumption) rfl (aa (by assumption) rfl (aa (by assumption) rfl (rfl))),ac rfl (by assumption) rfl (rfl)⟩
 ·intro x;obtain⟨y0,y1,y2⟩:=x;kernel_rfl
 ·intro x z;obtain⟨y0,y1,y2⟩:=x;exact(And.intro (And.intro trivial (And.intro trivial (And.intro trivial rfl))) trivial)
section
variable (x0:Int)(x1:List (Int×Int×Int))
def lO:Int×Int×List (Int×Int×Int):=((0:Int),x0,x1)
def Cc:Int:=bif Nat.beq ((Lp.res aU (lO x0 x1)).1) (0:Nat)then ep else bif Nat.beq ((Lp.res aU (lO x0 x1)).1) (1:Nat)then ep else bif Nat.beq ((Lp.res aU (lO x0 x1)).1) (2:Nat)then ep else ((Lp.res aU (lO x0 x1)).2.2).1
def HN:Bool:=allT [Lp.fin aU (lO x0 x1)]
end
def Pr:List SV→List Entry→Option Out
 | [.one ⟨false,[.ref 0]⟩,.one ⟨false,[.val (.int .i64 x0)]⟩],[.row false 100 (.pair (.int .i64) (.pair (.int .i64) (.int .i64))) x1]=>some ⟨(.one ⟨false,[(.val (.int .i64 (Cc x0 x1)))]⟩),[(.row false 100 asX x1)],[],[(HN x0 x1)]⟩
 |_,_=>none
def abg:PF Tryz.prog:=PF.ofG Tryz.prog [] [aU.F] ar 134 Tryz.f134 Tryz.func134 (LOk.fnT (l:= [ay Tryz.f134 0]) (by kernel_rfl) (.cons Tg (.nil _))) Pr (by
 intro vs es r h;unfold Pr at h;split at h
 ·cases h;kernel_rfl
 ·cases h)
abbrev i6:=Int×Int×List (Int×Int)
section
variable (y0 y1:Int)(y2:List (Int×Int))
def rW:Int×Int:=Option.getD y2[Int.toNat y0]? ((0:Int),(0:Int))
def rX:Int:=IntKind.wrap .i64 (y1 + (1:Int))
def pJ:Bool:=ltI y0 (↑y2.length:Int)
def tO:Bool:=leI (0:Int) y0
def tP:Bool:=ltN y0.toNat y2.length
def yB:Bool:=(rW y0 y2).1!=y1
end
def mF:Int:=(-1:Int)
section
variable (y0 y1:Int)(y2:List (Int×Int))
def yC:Bool:=(rW y0 y2).2!=rX y1
def yD:Int:=IntKind.wrap .i64 (y0 + (1:Int))
def yE:Int:=IntKind.wrap .i64 (rX y1 + (1:Int))
end
def abW:i6→List (Nat×SV)
 |(y0,y1,_)=> [(5,(.one ⟨false,[(.val (.int .i64 y0))]⟩)),(0,(.one ⟨false,[(.ref 0)]⟩)),(1,(.one ⟨false,[(.val (.int .i64 y1))]⟩))]
def abM:i6→List (Nat×Entry)
 |(_,_,y2)=> [(0,(.row false 173 asY y2))]
def acr:Nat→i6→List (Nat×SV)
 |0,(_,_,_)=> [(4,(.one ⟨false,[(.val (.int .i64 (mF)))]⟩))]
 |1,(_,_,_)=> [(4,(.one ⟨false,[(.val (.int .i64 (mF)))]⟩))]
 |_,(_,y1,_)=> [(1,(.one ⟨false,[(.val (.int .i64 y1))]⟩))]
def ach:Nat→i6→List (Nat×Entry)
 |0,(_,_,y2)=> [(0,(.row false 173 asY y2))]
 |1,(_,_,y2)=> [(0,(.row false 173 asY y2))]
 |_,(_,_,y2)=> [(0,(.row false 173 asY y2))]
def ww:i6→LT i6
 |(y0,y1,y2)=> .ite (pJ y0 y2) (.need [(tO y0),(pJ y0 y2),(tP y0 y2)] (.ite (yB y0 y1 y2) (.ext 0 [(0,0)]) (.need [(tO y0),(pJ y0 y2),(tP y0 y2)] (.ite (yC y0 y1 y2) (.ext 1 [(0,0)]) (.nrm ((yD y0),(yE y1),y2) [(0,0)]))))) (.ext 2 [(0,0)])
def JK(s:St):Option i6:=
 (match s.look 5 with
 |some ⟨none,(.one ⟨false,[(.val (.int .i64 y0))]⟩)⟩=>
 (match s.look 0 with
 |some ⟨none,(.one ⟨false,[(.ref 0)]⟩)⟩=>
 (match s.look 1 with
 |some ⟨none,(.one ⟨false,[(.val (.int .i64 y1))]⟩)⟩=>
 (match s.ent 0 with
 |some (.row false 173 (.pair (.int .i64) (.int .i64)) y2)=>
 some (y0,y1,y2)
 |_=>none)
 |_=>none)
 |_=>none)
 |_=>none)
def bN:Lp i6 where
 h:=⟨[6,7,8,9,12,13,14,15,16,17,18,4,19,20,1,21,22,23,24,25,26,27,28,29,10,11,5],[0],[],[]⟩
 JL:=abW
 JE:=abM
 XL:=acr
 XE:=ach
 q:=fun j=>match j with | 0=> .ret | 1=> .ret | _=> .exit 0
 tags:= [0,1,2]
 lt:=ww
 fuel:=fun(y0,y1,y2)=>y0.natAbs + y1.natAbs + y2.length
 fix:=fun(_,_,y2) (y0,y1,_)=>(y0,y1,y2)
 σ:= [(0,0)]
 rd:=JK
theorem Zs:LoopOk Tryz.prog (fun k=>Nat.blt k Tryz.f135.ntmps) bN.F (ay Tryz.f135 0):=by
 refine Lp.ok (tbl:= []) (lf:= []) ar bN (by kernel_rfl) (LOk.nil _) (fun _=>rfl) (fun j _=>by unfold bN;match j with | 0=>rfl | 1=>rfl | _ + 2=>rfl) ?_ ?_ ?_ ?_ (fun _=>rfl) ?_
 ·intro x;obtain⟨y0,y1,y2⟩:=x;kernel_rfl
 ·intro x;obtain⟨y0,y1,y2⟩:=x;kernel_rfl
 ·intro s x h
  have h:JK s=some x:=h
  unfold JK at h
  repeat' split at h
  all_goals cases h
  exact⟨aa (by assumption) rfl (aa (by assumption) rfl (aa (by assumption) rfl (rfl))),ac rfl (by assumption) rfl (rfl)⟩
 ·intro x;obtain⟨y0,y1,y2⟩:=x;kernel_rfl
 ·intro x z;obtain⟨y0,y1,y2⟩:=x;exact(And.intro (And.intro trivial (And.intro trivial rfl)) trivial)
section
variable (x0:Int)(x1:List (Int×Int))
def xI:Int×Int×List (Int×Int):=((0:Int),x0,x1)
def Ku:Int:=bif Nat.beq ((Lp.res bN (xI x0 x1)).1) (0:Nat)then mF else bif Nat.beq ((Lp.res bN (xI x0 x1)).1) (1:Nat)then mF else ((Lp.res bN (xI x0 x1)).2.2).1
def PX:Bool:=allT [Lp.fin bN (xI x0 x1)]
end
def Xe:List SV→List Entry→Option Out
 | [.one ⟨false,[.ref 0]⟩,.one ⟨false,[.val (.int .i64 x0)]⟩],[.row false 173 (.pair (.int .i64) (.int .i64)) x1]=>some ⟨(.one ⟨false,[(.val (.int .i64 (Ku x0 x1)))]⟩),[(.row false 173 asY x1)],[],[(PX x0 x1)]⟩
 |_,_=>none
def air:PF Tryz.prog:=PF.ofG Tryz.prog [] [bN.F] ar 135 Tryz.f135 Tryz.func135 (LOk.fnT (l:= [ay Tryz.f135 0]) (by kernel_rfl) (.cons Zs (.nil _))) Xe (by
 intro vs es r h;unfold Xe at h;split at h
 ·cases h;kernel_rfl
 ·cases h)
abbrev i5:=Int×Int×List (Int×Int)
section
variable (y0 y1:Int)(y2:List (Int×Int))
def rU:Int×Int:=Option.getD y2[Int.toNat y0]? ((0:Int),(0:Int))
def rV:Int:=IntKind.wrap .i64 (y1 + (1:Int))
def pI:Bool:=ltI y0 (↑y2.length:Int)
def tM:Bool:=leI (0:Int) y0
def tN:Bool:=ltN y0.toNat y2.length
def yx:Bool:=(rU y0 y2).1!=y1
end
def mE:Int:=(-1:Int)
section
variable (y0 y1:Int)(y2:List (Int×Int))
def yy:Bool:=(rU y0 y2).2!=rV y1
def yz:Int:=IntKind.wrap .i64 (y0 + (1:Int))
def yA:Int:=IntKind.wrap .i64 (rV y1 + (1:Int))
end
def abV:i5→List (Nat×SV)
 |(y0,y1,_)=> [(5,(.one ⟨false,[(.val (.int .i64 y0))]⟩)),(0,(.one ⟨false,[(.ref 0)]⟩)),(1,(.one ⟨false,[(.val (.int .i64 y1))]⟩))]
def abL:i5→List (Nat×Entry)
 |(_,_,y2)=> [(0,(.row false 176 asY y2))]
def acq:Nat→i5→List (Nat×SV)
 |0,(_,_,_)=> [(4,(.one ⟨false,[(.val (.int .i64 (mE)))]⟩))]
 |1,(_,_,_)=> [(4,(.one ⟨false,[(.val (.int .i64 (mE)))]⟩))]
 |_,(_,y1,_)=> [(1,(.one ⟨false,[(.val (.int .i64 y1))]⟩))]
def acg:Nat→i5→List (Nat×Entry)
 |0,(_,_,y2)=> [(0,(.row false 176 asY y2))]
 |1,(_,_,y2)=> [(0,(.row false 176 asY y2))]
 |_,(_,_,y2)=> [(0,(.row false 176 asY y2))]
def wv:i5→LT i5
 |(y0,y1,y2)=> .ite (pI y0 y2) (.need [(tM y0),(pI y0 y2),(tN y0 y2)] (.ite (yx y0 y1 y2) (.ext 0 [(0,0)]) (.need [(tM y0),(pI y0 y2),(tN y0 y2)] (.ite (yy y0 y1 y2) (.ext 1 [(0,0)]) (.nrm ((yz y0),(yA y1),y2) [(0,0)]))))) (.ext 2 [(0,0)])
def JJ(s:St):Option i5:=
 (match s.look 5 with
 |some ⟨none,(.one ⟨false,[(.val (.int .i64 y0))]⟩)⟩=>
 (match s.look 0 with
 |some ⟨none,(.one ⟨false,[(.ref 0)]⟩)⟩=>
 (match s.look 1 with
 |some ⟨none,(.one ⟨false,[(.val (.int .i64 y1))]⟩)⟩=>
 (match s.ent 0 with
 |some (.row false 176 (.pair (.int .i64) (.int .i64)) y2)=>
 some (y0,y1,y2)
 |_=>none)
 |_=>none)
 |_=>none)
 |_=>none)
def bM:Lp i5 where
 h:=⟨[6,7,8,9,12,13,14,15,16,17,18,4,19,20,1,21,22,23,24,25,26,27,28,29,10,11,5],[0],[],[]⟩
 JL:=abV
 JE:=abL
 XL:=acq
 XE:=acg
 q:=fun j=>match j with | 0=> .ret | 1=> .ret | _=> .exit 0
 tags:= [0,1,2]
 lt:=wv
 fuel:=fun(y0,y1,y2)=>y0.natAbs + y1.natAbs + y2.length
 fix:=fun(_,_,y2) (y0,y1,_)=>(y0,y1,y2)
 σ:= [(0,0)]
 rd:=JJ
theorem Zr:LoopOk Tryz.prog (fun k=>Nat.blt k Tryz.f136.ntmps) bM.F (ay Tryz.f136 0):=by
 refine Lp.ok (tbl:= []) (lf:= []) ar bM (by kernel_rfl) (LOk.nil _) (fun _=>rfl) (fun j _=>by unfold bM;match j with | 0=>rfl | 1=>rfl | _ + 2=>rfl) ?_ ?_ ?_ ?_ (fun _=>rfl) ?_
 ·intro x;obtain⟨y0,y1,y2⟩:=x;kernel_rfl
 ·intro x;obtain⟨y0,y1,y2⟩:=x;kernel_rfl
 ·intro s x h
  have h:JJ s=some x:=h
  unfold JJ at h
  repeat' split at h
  all_goals cases h
  exact⟨aa (by assumption) rfl (aa (by assumption) rfl (aa (by assumption) rfl (rfl))),ac rfl (by assumption) rfl (rfl)⟩
 ·intro x;obtain⟨y0,y1,y2⟩:=x;kernel_rfl
 ·intro x z;obtain⟨y0,y1,y2⟩:=x;exact(And.intro (And.intro trivial (And.intro trivial rfl)) trivial)
section
variable (x0:Int)(x1:List (Int×Int))
def xG:Int×Int×List (Int×Int):=((0:Int),x0,x1)
def Ks:Int:=bif Nat.beq ((Lp.res bM (xG x0 x1)).1) (0:Nat)then mE else bif Nat.beq ((Lp.res bM (xG x0 x1)).1) (1:Nat)then mE else ((Lp.res bM (xG x0 x1)).2.2).1
def PU:Bool:=allT [Lp.fin bM (xG x0 x1)]
end
def Xd:List SV→List Entry→Option Out
 | [.one ⟨false,[.ref 0]⟩,.one ⟨false,[.val (.int .i64 x0)]⟩],[.row false 176 (.pair (.int .i64) (.int .i64)) x1]=>some ⟨(.one ⟨false,[(.val (.int .i64 (Ks x0 x1)))]⟩),[(.row false 176 asY x1)],[],[(PU x0 x1)]⟩
 |_,_=>none
def aiq:PF Tryz.prog:=PF.ofG Tryz.prog [] [bM.F] ar 136 Tryz.f136 Tryz.func136 (LOk.fnT (l:= [ay Tryz.f136 0]) (by kernel_rfl) (.cons Zr (.nil _))) Xd (by
 intro vs es r h;unfold Xd at h;split at h
 ·cases h;kernel_rfl
 ·cases h)
end Go.SX

namespace Go.SX
open Go.Proofs
set_option maxRecDepth 100000
def ar2(xs ys:List (Int×Int×(Int×Int)×Int×Int×Bool)):Bool:=decide (xs=ys)
theorem apL(xs:List (Int×Int×(Int×Int)×Int×Int×Bool)):ar2 xs xs=true:=by simp [ar2]
def upG{α:Type}(d:Nat)(mk:Int→α)(k:Int)(n:Nat):List α:=(List.range n).map fun(i:Nat)=>mk (k + d * (i:Int))
theorem Ka{α:Type}(d:Nat)(mk:Int→α)(k:Int)(n:Nat):(upG d mk k n).length=n:=by simp [upG]
theorem aoa{α:Type}(d:Nat)(mk:Int→α)(k:Int)(n:Nat):upG d mk k (n + 1)=mk k::upG d mk (k + d) n:=by
 unfold upG
 rw [List.range_succ_eq_map,List.map_cons,List.map_map]
 congr 1
 ·simp
 ·refine List.map_congr_left fun i _=> ?_
  simp only [Function.comp]
  congr 1
  simp [Int.mul_add];omega
theorem UY{α:Type}{d:Nat}{mk:Int→α}{f:Nat→Int×List α→Nat ⊕ (Int×List α)}{e:Nat}
  (hf: ∀ (b:Nat) (k:Int) (xs:List α),b < xs.length→0≤k→k + d≤9223372036854775807→f b (k,xs)= .inr (k + d,xs.set b (mk k))):
  ∀ (ys pre:List α) (k:Int),0≤k→k + d * (ys.length:Int)≤9223372036854775807→
   ag f e (List.range' pre.length ys.length) pre.length (k,pre++ys)=(e,pre.length + ys.length,(k + d * (ys.length:Int),pre++upG d mk k ys.length))
 | [],pre,k,_,_=>by simp [ag,upG]
 |y::ys,pre,k,h0,h1=>by
  have hd:(d:Int) * (((y::ys).length:Nat):Int)=d + d * (ys.length:Int):=by simp [Int.mul_add];omega
  rw [hd]at h1
  have hp:0≤(d:Int) * (ys.length:Int):=Int.mul_nonneg (by omega) (by omega)
  have hs:(pre++y::ys).set pre.length (mk k)=(pre++ [mk k])++ys:=by rw [List.set_append_right _ _ (Nat.le_refl _)];simp
  have ih:=UY (e:=e) hf ys (pre++ [mk k]) (k + d) (by omega) (by omega)
  rw [List.length_cons,List.range'_succ]
  simp only [ag,hf pre.length k (pre++y::ys) (by simp) h0 (by omega),hs]
  rw [List.length_append,List.length_singleton]at ih
  rw [ih,aoa]
  simp [Int.mul_add]
  omega
theorem UX{α:Type}{d:Nat}{mk:Int→α}{f:α→Int→Nat ⊕ Int}{e:Nat}(hf: ∀ (k:Int),0≤k→k + d≤9223372036854775807→f (mk k) k= .inr (k + d)):
  ∀ (n:Nat) (k:Int) (i:Nat),0≤k→k + d * (n:Int)≤9223372036854775807→ag f e (upG d mk k n) i k=(e,i + n,k + d * (n:Int))
 |0,k,i,_,_=>by simp [ag,upG]
 |n + 1,k,i,h0,h1=>by
  have hd:(d:Int) * ((n + 1:Nat):Int)=d + d * (n:Int):=by simp [Int.mul_add];omega
  rw [hd]at h1
  have hp:0≤(d:Int) * (n:Int):=Int.mul_nonneg (by omega) (by omega)
  rw [aoa]
  simp only [ag,hf k h0 (by omega)]
  rw [UX hf n (k + d) (i + 1) (by omega) (by omega),hd]
  simp only [Prod.mk.injEq,true_and]
  omega
def Gt(d:Nat)(k:Int)(n:Nat):Bool:=leI 0 k&&leI (k + d * (n:Int)) 9223372036854775807
theorem tZ{d:Nat}{k:Int}{n:Nat}:Gt d k n=true↔0≤k∧k + d * (n:Int)≤9223372036854775807:=by simp [Gt]
def mkB(k:Int):Int×Int×Int:=(k,k + 1,k + 2)
def mkI(k:Int):Int×Int:=(k,k + 1)
def gu(b:Nat):(Int×List (Int×(Int×Int)))→Nat ⊕ (Int×List (Int×(Int×Int)))
 |(y1,y2)=>(.inr ((IntKind.wrap .i64 ((IntKind.wrap .i64 ((IntKind.wrap .i64 (y1 + (1:Int))) + (1:Int))) + (1:Int))),(List.set (List.set (List.set y2 b (y1,((Option.getD y2[b]? ((0:Int),(0:Int),(0:Int))).2).1,(Option.getD y2[b]? ((0:Int),(0:Int),(0:Int))).2.2)) b ((Option.getD (List.set y2 b (y1,((Option.getD y2[b]? ((0:Int),(0:Int),(0:Int))).2).1,(Option.getD y2[b]? ((0:Int),(0:Int),(0:Int))).2.2))[b]? ((0:Int),(0:Int),(0:Int))).1,(IntKind.wrap .i64 (y1 + (1:Int))),(Option.getD (List.set y2 b (y1,((Option.getD y2[b]? ((0:Int),(0:Int),(0:Int))).2).1,(Option.getD y2[b]? ((0:Int),(0:Int),(0:Int))).2.2))[b]? ((0:Int),(0:Int),(0:Int))).2.2)) b ((Option.getD (List.set (List.set y2 b (y1,((Option.getD y2[b]? ((0:Int),(0:Int),(0:Int))).2).1,(Option.getD y2[b]? ((0:Int),(0:Int),(0:Int))).2.2)) b ((Option.getD (List.set y2 b (y1,((Option.getD y2[b]? ((0:Int),(0:Int),(0:Int))).2).1,(Option.getD y2[b]? ((0:Int),(0:Int),(0:Int))).2.2))[b]? ((0:Int),(0:Int),(0:Int))).1,(IntKind.wrap .i64 (y1 + (1:Int))),(Option.getD (List.set y2 b (y1,((Option.getD y2[b]? ((0:Int),(0:Int),(0:Int))).2).1,(Option.getD y2[b]? ((0:Int),(0:Int),(0:Int))).2.2))[b]? ((0:Int),(0:Int),(0:Int))).2.2))[b]? ((0:Int),(0:Int),(0:Int))).1,((Option.getD (List.set (List.set y2 b (y1,((Option.getD y2[b]? ((0:Int),(0:Int),(0:Int))).2).1,(Option.getD y2[b]? ((0:Int),(0:Int),(0:Int))).2.2)) b ((Option.getD (List.set y2 b (y1,((Option.getD y2[b]? ((0:Int),(0:Int),(0:Int))).2).1,(Option.getD y2[b]? ((0:Int),(0:Int),(0:Int))).2.2))[b]? ((0:Int),(0:Int),(0:Int))).1,(IntKind.wrap .i64 (y1 + (1:Int))),(Option.getD (List.set y2 b (y1,((Option.getD y2[b]? ((0:Int),(0:Int),(0:Int))).2).1,(Option.getD y2[b]? ((0:Int),(0:Int),(0:Int))).2.2))[b]? ((0:Int),(0:Int),(0:Int))).2.2))[b]? ((0:Int),(0:Int),(0:Int))).2).1,(IntKind.wrap .i64 ((IntKind.wrap .i64 (y1 + (1:Int))) + (1:Int)))))))
def d4(i:Nat):(Int×List (Int×(Int×Int)))→dg
 |(y1,y2)=>((i:Int),y1,y2)
def zx:dg→Int×List (Int×(Int×Int))
 |(_,y1,y2)=>(y1,y2)
theorem UU(y1:Int)(y2:List (Int×(Int×Int)))(n:Nat)(hl:y2.length=n)(hn:n≤9223372036854775807):
  bo.fin ((0:Int),y1,y2)=true∧bo.res ((0:Int),y1,y2)=((ag (gu) 0 (List.range n) 0 (y1,y2)).1,(d4) (ag (gu) 0 (List.range n) 0 (y1,y2)).2.1 (ag (gu) 0 (List.range n) 0 (y1,y2)).2.2):=by
 have key:=bo.along (d4) zx (gu) 0 (fun _ a=>a.2.length=n) (List.range n) (y1,y2) hl (by simp only [bo,d4,List.length_range];omega) (fun i b a hb hI=> ?_) (fun a hI=> ?_)
 ·exact key
 ·obtain⟨y1,y2⟩:=a
  obtain⟨rfl,hlt⟩:=fU hb
  have hI0:y2.length=n:=hI
  have hw:IntKind.i64.wrap ((b:Int) + 1)=((b + 1:Nat):Int):=by rw [aA (by omega) (by omega)];omega
  have hdec:ltI (b:Int) (y2.length:Int)=true:=ce (by omega)
  have hnn:leI (0:Int) (b:Int)=true:=bH (by omega)
  have hltd:ltN b y2.length=true:=cM (by omega)
  refine⟨?_,?_,?_,?_⟩
  ·simp [jY,fI,jZ,j0,fJ,j6,j7,kF,iL,oC,oD,oE,oF,oG,oH,oI,oJ,ng,bo,LT.nds,allT,d4,hdec,hnn,hltd]
  ·simp [jY,fI,jZ,j0,fJ,j6,j7,kF,iL,oC,oD,oE,oF,oG,oH,oI,oJ,ng,bo,LT.each,d4,zx,hw]
  ·simp only [jY,fI,jZ,j0,fJ,j6,j7,kF,iL,oC,oD,oE,oF,oG,oH,oI,oJ,ng,bo,LT.fn,d4,zx,gu,Int.toNat_natCast,hdec,hnn,hltd,cond_true,Bool.cond_self]
  ·intro a' hf;simp only [gu,Sum.inr.injEq]at hf;subst hf;simp [hI0]
 ·obtain⟨y1,y2⟩:=a
  have hI0:y2.length=n:=hI
  simp [jY,fI,jZ,j0,fJ,j6,j7,kF,iL,oC,oD,oE,oF,oG,oH,oI,oJ,ng,bo,LT.out,d4,hI0,List.length_range]
theorem agT(b:Nat)(k:Int)(xs:List (Int×Int×Int))(hb:b < xs.length)(h0:0≤k)(h1:k + (3:Nat)≤9223372036854775807):gu b (k,xs)= .inr (k + (3:Nat),xs.set b (mkB k)):=by
 have w1:IntKind.i64.wrap (k + 1)=k + 1:=aA (by omega) (by omega)
 have w2:IntKind.i64.wrap (k + 1 + 1)=k + 2:=by rw [aA (by omega) (by omega)];omega
 have w3:IntKind.i64.wrap (k + 2 + 1)=k + 3:=by rw [aA (by omega) (by omega)];omega
 simp [gu,mkB,w1,w2,w3,List.set_set,List.getElem?_set,hb]
theorem aei(k:Int)(xs:List (Int×Int×Int))(h:(Gt 3 k xs.length&&leN xs.length 9223372036854775807)=true):Fg k xs=k + 3 * (xs.length:Int)∧Fh k xs=upG 3 mkB k xs.length∧Fi k xs=true:=by
 simp only [Bool.and_eq_true,cu]at h
 obtain⟨h0,h2⟩:=tZ.1 h.1
 obtain⟨w1,w2⟩:=UU k xs xs.length rfl h.2
 have hw:=UY (e:=0) agT xs [] k h0 h2
 rw [List.length_nil,List.nil_append,← List.range_eq_range']at hw
 rw [hw]at w2
 refine⟨?_,?_,?_⟩
 ·simp only [Fg,qW,vG,w2,d4];rfl
 ·simp only [Fh,qW,vG,w2,d4];rfl
 ·simp only [Fi,qW,w1,allT,cond_true]
def MX:List SV→List Entry→Option Out
 | [.one ⟨false,[.ref 0]⟩,.one ⟨false,[.val (.int .i64 x0)]⟩],[.row true 169 (.pair (.int .i64) (.pair (.int .i64) (.int .i64))) x1]=>some ⟨(.one ⟨false,[(.val (.int .i64 (x0 + 3 * (x1.length:Int))))]⟩),[(.row true 169 asX (upG 3 mkB x0 x1.length))],[],[Gt 3 x0 x1.length&&leN x1.length 9223372036854775807]⟩
 |_,_=>none
def Fm:PF Tryz.prog:=PF.alt YA MX (by
 intro args es o h hnd;unfold MX at h;split at h
 ·rename_i x0 x1
  cases h
  have hnd:=cf hnd
  have hh:=aei x0 x1 hnd
  obtain⟨e0,e1,en⟩:=hh
  exact eT rfl (cg en) (by simp only [e0] <;> rfl) (by simp only [e1] <;> rfl) rfl
 ·cases h)
def iI(b:Int×(Int×Int)):(Int)→Nat ⊕ (Int)
 |y1=>(bif(b.1!=y1)then(.inl 0)else(bif(b.2.1!=(IntKind.wrap .i64 (y1 + (1:Int))))then(.inl 1)else(bif(b.2.2!=(IntKind.wrap .i64 ((IntKind.wrap .i64 (y1 + (1:Int))) + (1:Int))))then(.inl 2)else(.inr (IntKind.wrap .i64 ((IntKind.wrap .i64 ((IntKind.wrap .i64 (y1 + (1:Int))) + (1:Int))) + (1:Int)))))))
def fQ(y2:List (Int×(Int×Int)))(i:Nat):(Int)→df
 |y1=>((i:Int),y1,y2)
def zw:df→Int
 |(_,y1,_)=>y1
theorem Kb(y2:List (Int×(Int×Int)))(y1:Int)(hn:y2.length≤9223372036854775807):
  aJ.fin ((0:Int),y1,y2)=true∧aJ.res ((0:Int),y1,y2)=((ag (iI) 3 y2 0 y1).1,(fQ y2) (ag (iI) 3 y2 0 y1).2.1 (ag (iI) 3 y2 0 y1).2.2):=by
 have key:=aJ.along (fQ y2) zw (iI) 3 (fun _ _=>True) y2 y1 (by trivial) (by simp only [aJ,fQ];omega) (fun i b a hb hI=> ?_) (fun a hI=> ?_)
 ·exact key
 ·obtain y1:=a
  have hlt:=(List.getElem?_eq_some_iff.1 hb).1
  have hget: ∀ d,Option.getD y2[i]? d=b:=fun d=>by rw [hb];rfl
  have hw:=py hlt hn
  have hdec:ltI (i:Int) (y2.length:Int)=true:=ce (by omega)
  have hnn:leI (0:Int) (i:Int)=true:=bH (by omega)
  have hltd:ltN i y2.length=true:=cM hlt
  refine⟨?_,?_,?_,?_⟩
  ·simp [hZ,jW,jX,gw,iJ,iK,ox,dk,oy,oz,oA,oB,nf,aJ,LT.nds,allT,fQ,hdec,hnn,hltd,hget]
  ·simp [hZ,jW,jX,gw,iJ,iK,ox,dk,oy,oz,oA,oB,nf,aJ,LT.each,fQ,zw,hw]
  ·simp only [hZ,jW,jX,gw,iJ,iK,ox,dk,oy,oz,oA,oB,nf,aJ,LT.fn,fQ,zw,iI,Int.toNat_natCast,hdec,hnn,hltd,hget,cond_true,Bool.cond_self]
  ·exact fun _ _=>trivial
 ·obtain y1:=a
  simp [hZ,jW,jX,gw,iJ,iK,ox,dk,oy,oz,oA,oB,nf,aJ,LT.out,fQ]
def jt(k:Int)(xs:List (Int×Int×Int)):Int:=xH k xs
theorem agS(k:Int)(h0:0≤k)(h1:k + (3:Nat)≤9223372036854775807):iI (mkB k) k= .inr (k + (3:Nat)):=by
 have w1:IntKind.i64.wrap (k + 1)=k + 1:=aA (by omega) (by omega)
 have w2:IntKind.i64.wrap (k + 1 + 1)=k + 2:=by rw [aA (by omega) (by omega)];omega
 have w3:IntKind.i64.wrap (k + 2 + 1)=k + 3:=by rw [aA (by omega) (by omega)];omega
 simp [iI,mkB,w1,w2,w3]
theorem afO(k:Int)(n:Nat)(h:(Gt 3 k n&&leN n 9223372036854775807)=true):jt k (upG 3 mkB k n)=k + 3 * (n:Int):=by
 simp only [Bool.and_eq_true,cu]at h
 obtain⟨h0,h2⟩:=tZ.1 h.1
 obtain⟨w1,w2⟩:=Kb (upG 3 mkB k n) k (by rw [Ka];exact h.2)
 rw [UX (e:=3) agS n k 0 h0 h2]at w2
 simp only [jt,xH,jP,w2,fQ]
 rfl
theorem aea(k:Int)(xs:List (Int×Int×Int))(h:leN xs.length 9223372036854775807=true):xH k xs=jt k xs∧Ff k xs=true:=by
 obtain⟨w1,w2⟩:=Kb xs k (cu.1 h)
 exact⟨rfl,by simp only [Ff,jP,w1,allT,cond_true]⟩
def MW:List SV→List Entry→Option Out
 | [.one ⟨false,[.ref 0]⟩,.one ⟨false,[.val (.int .i64 x0)]⟩],[.row false 169 (.pair (.int .i64) (.pair (.int .i64) (.int .i64))) x1]=>some ⟨(.one ⟨false,[(.val (.int .i64 (jt x0 x1)))]⟩),[(.row false 169 asX x1)],[],[leN x1.length 9223372036854775807]⟩
 |_,_=>none
def Fl:PF Tryz.prog:=PF.alt Yz MW (by
 intro args es o h hnd;unfold MW at h;split at h
 ·rename_i x0 x1
  cases h
  have hnd:=cf hnd
  have hh:=aea x0 x1 hnd
  obtain⟨e0,en⟩:=hh
  exact eT rfl (cg en) (by simp only [e0] <;> rfl) rfl rfl
 ·cases h)
def iu(b:Nat):(Int×List (Int×(Int×Int)))→Nat ⊕ (Int×List (Int×(Int×Int)))
 |(y1,y2)=>(.inr ((IntKind.wrap .i64 ((IntKind.wrap .i64 ((IntKind.wrap .i64 (y1 + (1:Int))) + (1:Int))) + (1:Int))),(List.set (List.set (List.set y2 b (y1,((Option.getD y2[b]? ((0:Int),(0:Int),(0:Int))).2).1,(Option.getD y2[b]? ((0:Int),(0:Int),(0:Int))).2.2)) b ((Option.getD (List.set y2 b (y1,((Option.getD y2[b]? ((0:Int),(0:Int),(0:Int))).2).1,(Option.getD y2[b]? ((0:Int),(0:Int),(0:Int))).2.2))[b]? ((0:Int),(0:Int),(0:Int))).1,(IntKind.wrap .i64 (y1 + (1:Int))),(Option.getD (List.set y2 b (y1,((Option.getD y2[b]? ((0:Int),(0:Int),(0:Int))).2).1,(Option.getD y2[b]? ((0:Int),(0:Int),(0:Int))).2.2))[b]? ((0:Int),(0:Int),(0:Int))).2.2)) b ((Option.getD (List.set (List.set y2 b (y1,((Option.getD y2[b]? ((0:Int),(0:Int),(0:Int))).2).1,(Option.getD y2[b]? ((0:Int),(0:Int),(0:Int))).2.2)) b ((Option.getD (List.set y2 b (y1,((Option.getD y2[b]? ((0:Int),(0:Int),(0:Int))).2).1,(Option.getD y2[b]? ((0:Int),(0:Int),(0:Int))).2.2))[b]? ((0:Int),(0:Int),(0:Int))).1,(IntKind.wrap .i64 (y1 + (1:Int))),(Option.getD (List.set y2 b (y1,((Option.getD y2[b]? ((0:Int),(0:Int),(0:Int))).2).1,(Option.getD y2[b]? ((0:Int),(0:Int),(0:Int))).2.2))[b]? ((0:Int),(0:Int),(0:Int))).2.2))[b]? ((0:Int),(0:Int),(0:Int))).1,((Option.getD (List.set (List.set y2 b (y1,((Option.getD y2[b]? ((0:Int),(0:Int),(0:Int))).2).1,(Option.getD y2[b]? ((0:Int),(0:Int),(0:Int))).2.2)) b ((Option.getD (List.set y2 b (y1,((Option.getD y2[b]? ((0:Int),(0:Int),(0:Int))).2).1,(Option.getD y2[b]? ((0:Int),(0:Int),(0:Int))).2.2))[b]? ((0:Int),(0:Int),(0:Int))).1,(IntKind.wrap .i64 (y1 + (1:Int))),(Option.getD (List.set y2 b (y1,((Option.getD y2[b]? ((0:Int),(0:Int),(0:Int))).2).1,(Option.getD y2[b]? ((0:Int),(0:Int),(0:Int))).2.2))[b]? ((0:Int),(0:Int),(0:Int))).2.2))[b]? ((0:Int),(0:Int),(0:Int))).2).1,(IntKind.wrap .i64 ((IntKind.wrap .i64 (y1 + (1:Int))) + (1:Int)))))))
def fh(i:Nat):(Int×List (Int×(Int×Int)))→ei
 |(y1,y2)=>((i:Int),y1,y2)
def Cn:ei→Int×List (Int×(Int×Int))
 |(_,y1,y2)=>(y1,y2)
theorem WU(y1:Int)(y2:List (Int×(Int×Int)))(n:Nat)(hl:y2.length=n)(hn:n≤9223372036854775807):
  bC.fin ((0:Int),y1,y2)=true∧bC.res ((0:Int),y1,y2)=((ag (iu) 0 (List.range n) 0 (y1,y2)).1,(fh) (ag (iu) 0 (List.range n) 0 (y1,y2)).2.1 (ag (iu) 0 (List.range n) 0 (y1,y2)).2.2):=by
 have key:=bC.along (fh) Cn (iu) 0 (fun _ a=>a.2.length=n) (List.range n) (y1,y2) hl (by simp only [bC,fh,List.length_range];omega) (fun i b a hb hI=> ?_) (fun a hI=> ?_)
 ·exact key
 ·obtain⟨y1,y2⟩:=a
  obtain⟨rfl,hlt⟩:=fU hb
  have hI0:y2.length=n:=hI
  have hw:IntKind.i64.wrap ((b:Int) + 1)=((b + 1:Nat):Int):=by rw [aA (by omega) (by omega)];omega
  have hdec:ltI (b:Int) (y2.length:Int)=true:=ce (by omega)
  have hnn:leI (0:Int) (b:Int)=true:=bH (by omega)
  have hltd:ltN b y2.length=true:=cM (by omega)
  refine⟨?_,?_,?_,?_⟩
  ·simp [lG,gQ,lH,lI,gR,lJ,lK,mo,jQ,qO,qP,qQ,qR,qS,qT,qU,qV,pC,bC,LT.nds,allT,fh,hdec,hnn,hltd]
  ·simp [lG,gQ,lH,lI,gR,lJ,lK,mo,jQ,qO,qP,qQ,qR,qS,qT,qU,qV,pC,bC,LT.each,fh,Cn,hw]
  ·simp only [lG,gQ,lH,lI,gR,lJ,lK,mo,jQ,qO,qP,qQ,qR,qS,qT,qU,qV,pC,bC,LT.fn,fh,Cn,iu,Int.toNat_natCast,hdec,hnn,hltd,cond_true,Bool.cond_self]
  ·intro a' hf;simp only [iu,Sum.inr.injEq]at hf;subst hf;simp [hI0]
 ·obtain⟨y1,y2⟩:=a
  have hI0:y2.length=n:=hI
  simp [lG,gQ,lH,lI,gR,lJ,lK,mo,jQ,qO,qP,qQ,qR,qS,qT,qU,qV,pC,bC,LT.out,fh,hI0,List.length_range]
theorem ajo(b:Nat)(k:Int)(xs:List (Int×Int×Int))(hb:b < xs.length)(h0:0≤k)(h1:k + (3:Nat)≤9223372036854775807):iu b (k,xs)= .inr (k + (3:Nat),xs.set b (mkB k)):=by
 have w1:IntKind.i64.wrap (k + 1)=k + 1:=aA (by omega) (by omega)
 have w2:IntKind.i64.wrap (k + 1 + 1)=k + 2:=by rw [aA (by omega) (by omega)];omega
 have w3:IntKind.i64.wrap (k + 2 + 1)=k + 3:=by rw [aA (by omega) (by omega)];omega
 simp [iu,mkB,w1,w2,w3,List.set_set,List.getElem?_set,hb]
theorem ag5(k:Int)(xs:List (Int×Int×Int))(h:(Gt 3 k xs.length&&leN xs.length 9223372036854775807)=true):HO k xs=k + 3 * (xs.length:Int)∧HP k xs=upG 3 mkB k xs.length∧HQ k xs=true:=by
 simp only [Bool.and_eq_true,cu]at h
 obtain⟨h0,h2⟩:=tZ.1 h.1
 obtain⟨w1,w2⟩:=WU k xs xs.length rfl h.2
 have hw:=UY (e:=0) ajo xs [] k h0 h2
 rw [List.length_nil,List.nil_append,← List.range_eq_range']at hw
 rw [hw]at w2
 refine⟨?_,?_,?_⟩
 ·simp only [HO,tb,zt,w2,fh];rfl
 ·simp only [HP,tb,zt,w2,fh];rfl
 ·simp only [HQ,tb,w1,allT,cond_true]
def Py:List SV→List Entry→Option Out
 | [.one ⟨false,[.ref 0]⟩,.one ⟨false,[.val (.int .i64 x0)]⟩],[.row true 100 (.pair (.int .i64) (.pair (.int .i64) (.int .i64))) x1]=>some ⟨(.one ⟨false,[(.val (.int .i64 (x0 + 3 * (x1.length:Int))))]⟩),[(.row true 100 asX (upG 3 mkB x0 x1.length))],[],[Gt 3 x0 x1.length&&leN x1.length 9223372036854775807]⟩
 |_,_=>none
def HW:PF Tryz.prog:=PF.alt abh Py (by
 intro args es o h hnd;unfold Py at h;split at h
 ·rename_i x0 x1
  cases h
  have hnd:=cf hnd
  have hh:=ag5 x0 x1 hnd
  obtain⟨e0,e1,en⟩:=hh
  exact eT rfl (cg en) (by simp only [e0] <;> rfl) (by simp only [e1] <;> rfl) rfl
 ·cases h)
def jL(b:Int×(Int×Int)):(Int)→Nat ⊕ (Int)
 |y1=>(bif(b.1!=y1)then(.inl 0)else(bif(b.2.1!=(IntKind.wrap .i64 (y1 + (1:Int))))then(.inl 1)else(bif(b.2.2!=(IntKind.wrap .i64 ((IntKind.wrap .i64 (y1 + (1:Int))) + (1:Int))))then(.inl 2)else(.inr (IntKind.wrap .i64 ((IntKind.wrap .i64 ((IntKind.wrap .i64 (y1 + (1:Int))) + (1:Int))) + (1:Int)))))))
def gT(y2:List (Int×(Int×Int)))(i:Nat):(Int)→eg
 |y1=>((i:Int),y1,y2)
def Cm:eg→Int
 |(_,y1,_)=>y1
theorem Lv(y2:List (Int×(Int×Int)))(y1:Int)(hn:y2.length≤9223372036854775807):
  aU.fin ((0:Int),y1,y2)=true∧aU.res ((0:Int),y1,y2)=((ag (jL) 3 y2 0 y1).1,(gT y2) (ag (jL) 3 y2 0 y1).2.1 (ag (jL) 3 y2 0 y1).2.2):=by
 have key:=aU.along (gT y2) Cm (jL) 3 (fun _ _=>True) y2 y1 (by trivial) (by simp only [aU,gT];omega) (fun i b a hb hI=> ?_) (fun a hI=> ?_)
 ·exact key
 ·obtain y1:=a
  have hlt:=(List.getElem?_eq_some_iff.1 hb).1
  have hget: ∀ d,Option.getD y2[i]? d=b:=fun d=>by rw [hb];rfl
  have hw:=py hlt hn
  have hdec:ltI (i:Int) (y2.length:Int)=true:=ce (by omega)
  have hnn:leI (0:Int) (i:Int)=true:=bH (by omega)
  have hltd:ltN i y2.length=true:=cM hlt
  refine⟨?_,?_,?_,?_⟩
  ·simp [jp,lE,lF,iw,jN,jO,qJ,ep,qK,qL,qM,qN,pB,aU,LT.nds,allT,gT,hdec,hnn,hltd,hget]
  ·simp [jp,lE,lF,iw,jN,jO,qJ,ep,qK,qL,qM,qN,pB,aU,LT.each,gT,Cm,hw]
  ·simp only [jp,lE,lF,iw,jN,jO,qJ,ep,qK,qL,qM,qN,pB,aU,LT.fn,gT,Cm,jL,Int.toNat_natCast,hdec,hnn,hltd,hget,cond_true,Bool.cond_self]
  ·exact fun _ _=>trivial
 ·obtain y1:=a
  simp [jp,lE,lF,iw,jN,jO,qJ,ep,qK,qL,qM,qN,pB,aU,LT.out,gT]
def Ed(k:Int)(xs:List (Int×Int×Int)):Int:=Cc k xs
theorem ajn(k:Int)(h0:0≤k)(h1:k + (3:Nat)≤9223372036854775807):jL (mkB k) k= .inr (k + (3:Nat)):=by
 have w1:IntKind.i64.wrap (k + 1)=k + 1:=aA (by omega) (by omega)
 have w2:IntKind.i64.wrap (k + 1 + 1)=k + 2:=by rw [aA (by omega) (by omega)];omega
 have w3:IntKind.i64.wrap (k + 2 + 1)=k + 3:=by rw [aA (by omega) (by omega)];omega
 simp [jL,mkB,w1,w2,w3]
theorem ah0(k:Int)(n:Nat)(h:(Gt 3 k n&&leN n 9223372036854775807)=true):Ed k (upG 3 mkB k n)=k + 3 * (n:Int):=by
 simp only [Bool.and_eq_true,cu]at h
 obtain⟨h0,h2⟩:=tZ.1 h.1
 obtain⟨w1,w2⟩:=Lv (upG 3 mkB k n) k (by rw [Ka];exact h.2)
 rw [UX (e:=3) ajn n k 0 h0 h2]at w2
 simp only [Ed,Cc,lO,w2,gT]
 rfl
theorem agY(k:Int)(xs:List (Int×Int×Int))(h:leN xs.length 9223372036854775807=true):Cc k xs=Ed k xs∧HN k xs=true:=by
 obtain⟨w1,w2⟩:=Lv xs k (cu.1 h)
 exact⟨rfl,by simp only [HN,lO,w1,allT,cond_true]⟩
def Px:List SV→List Entry→Option Out
 | [.one ⟨false,[.ref 0]⟩,.one ⟨false,[.val (.int .i64 x0)]⟩],[.row false 100 (.pair (.int .i64) (.pair (.int .i64) (.int .i64))) x1]=>some ⟨(.one ⟨false,[(.val (.int .i64 (Ed x0 x1)))]⟩),[(.row false 100 asX x1)],[],[leN x1.length 9223372036854775807]⟩
 |_,_=>none
def HV:PF Tryz.prog:=PF.alt abg Px (by
 intro args es o h hnd;unfold Px at h;split at h
 ·rename_i x0 x1
  cases h
  have hnd:=cf hnd
  have hh:=agY x0 x1 hnd
  obtain⟨e0,en⟩:=hh
  exact eT rfl (cg en) (by simp only [e0] <;> rfl) rfl rfl
 ·cases h)
def mB(b:Nat):(Int×List (Int×Int))→Nat ⊕ (Int×List (Int×Int))
 |(y1,y2)=>(.inr ((IntKind.wrap .i64 ((IntKind.wrap .i64 (y1 + (1:Int))) + (1:Int))),(List.set (List.set y2 b (y1,(Option.getD y2[b]? ((0:Int),(0:Int))).2)) b ((Option.getD (List.set y2 b (y1,(Option.getD y2[b]? ((0:Int),(0:Int))).2))[b]? ((0:Int),(0:Int))).1,(IntKind.wrap .i64 (y1 + (1:Int)))))))
def jC(i:Nat):(Int×List (Int×Int))→i8
 |(y1,y2)=>((i:Int),y1,y2)
def JC:i8→Int×List (Int×Int)
 |(_,y1,y2)=>(y1,y2)
theorem aeo(y1:Int)(y2:List (Int×Int))(n:Nat)(hl:y2.length=n)(hn:n≤9223372036854775807):
  dO.fin ((0:Int),y1,y2)=true∧dO.res ((0:Int),y1,y2)=((ag (mB) 0 (List.range n) 0 (y1,y2)).1,(jC) (ag (mB) 0 (List.range n) 0 (y1,y2)).2.1 (ag (mB) 0 (List.range n) 0 (y1,y2)).2.2):=by
 have key:=dO.along (jC) JC (mB) 0 (fun _ a=>a.2.length=n) (List.range n) (y1,y2) hl (by simp only [dO,jC,List.length_range];omega) (fun i b a hb hI=> ?_) (fun a hI=> ?_)
 ·exact key
 ·obtain⟨y1,y2⟩:=a
  obtain⟨rfl,hlt⟩:=fU hb
  have hI0:y2.length=n:=hI
  have hw:IntKind.i64.wrap ((b:Int) + 1)=((b + 1:Nat):Int):=by rw [aA (by omega) (by omega)];omega
  have hdec:ltI (b:Int) (y2.length:Int)=true:=ce (by omega)
  have hnn:leI (0:Int) (b:Int)=true:=bH (by omega)
  have hltd:ltN b y2.length=true:=cM (by omega)
  refine⟨?_,?_,?_,?_⟩
  ·simp [lr,sa,tT,tU,yN,yO,yP,yQ,yR,yS,wy,dO,LT.nds,allT,jC,hdec,hnn,hltd]
  ·simp [lr,sa,tT,tU,yN,yO,yP,yQ,yR,yS,wy,dO,LT.each,jC,JC,hw]
  ·simp only [lr,sa,tT,tU,yN,yO,yP,yQ,yR,yS,wy,dO,LT.fn,jC,JC,mB,Int.toNat_natCast,hdec,hnn,hltd,cond_true,Bool.cond_self]
  ·intro a' hf;simp only [mB,Sum.inr.injEq]at hf;subst hf;simp [hI0]
 ·obtain⟨y1,y2⟩:=a
  have hI0:y2.length=n:=hI
  simp [lr,sa,tT,tU,yN,yO,yP,yQ,yR,yS,wy,dO,LT.out,jC,hI0,List.length_range]
theorem aoA(b:Nat)(k:Int)(xs:List (Int×Int))(hb:b < xs.length)(h0:0≤k)(h1:k + (2:Nat)≤9223372036854775807):mB b (k,xs)= .inr (k + (2:Nat),xs.set b (mkI k)):=by
 have w1:IntKind.i64.wrap (k + 1)=k + 1:=aA (by omega) (by omega)
 have w2:IntKind.i64.wrap (k + 1 + 1)=k + 2:=by rw [aA (by omega) (by omega)];omega
 simp [mB,mkI,w1,w2,List.set_set,List.getElem?_set,hb]
theorem amA(k:Int)(xs:List (Int×Int))(h:(Gt 2 k xs.length&&leN xs.length 9223372036854775807)=true):Qb k xs=k + 2 * (xs.length:Int)∧Qc k xs=upG 2 mkI k xs.length∧Qd k xs=true:=by
 simp only [Bool.and_eq_true,cu]at h
 obtain⟨h0,h2⟩:=tZ.1 h.1
 obtain⟨w1,w2⟩:=aeo k xs xs.length rfl h.2
 have hw:=UY (e:=0) aoA xs [] k h0 h2
 rw [List.length_nil,List.nil_append,← List.range_eq_range']at hw
 rw [hw]at w2
 refine⟨?_,?_,?_⟩
 ·simp only [Qb,De,Iy,w2,jC];rfl
 ·simp only [Qc,De,Iy,w2,jC];rfl
 ·simp only [Qd,De,w1,allT,cond_true]
def XI:List SV→List Entry→Option Out
 | [.one ⟨false,[.ref 0]⟩,.one ⟨false,[.val (.int .i64 x0)]⟩],[.row true 173 (.pair (.int .i64) (.int .i64)) x1]=>some ⟨(.one ⟨false,[(.val (.int .i64 (x0 + 2 * (x1.length:Int))))]⟩),[(.row true 173 asY (upG 2 mkI x0 x1.length))],[],[Gt 2 x0 x1.length&&leN x1.length 9223372036854775807]⟩
 |_,_=>none
def Qv:PF Tryz.prog:=PF.alt ait XI (by
 intro args es o h hnd;unfold XI at h;split at h
 ·rename_i x0 x1
  cases h
  have hnd:=cf hnd
  have hh:=amA x0 x1 hnd
  obtain⟨e0,e1,en⟩:=hh
  exact eT rfl (cg en) (by simp only [e0] <;> rfl) (by simp only [e1] <;> rfl) rfl
 ·cases h)
def pF(b:Int×Int):(Int)→Nat ⊕ (Int)
 |y1=>(bif(b.1!=y1)then(.inl 0)else(bif(b.2!=(IntKind.wrap .i64 (y1 + (1:Int))))then(.inl 1)else(.inr (IntKind.wrap .i64 ((IntKind.wrap .i64 (y1 + (1:Int))) + (1:Int))))))
def lB(y2:List (Int×Int))(i:Nat):(Int)→i6
 |y1=>((i:Int),y1,y2)
def JA:i6→Int
 |(_,y1,_)=>y1
theorem SL(y2:List (Int×Int))(y1:Int)(hn:y2.length≤9223372036854775807):
  bN.fin ((0:Int),y1,y2)=true∧bN.res ((0:Int),y1,y2)=((ag (pF) 2 y2 0 y1).1,(lB y2) (ag (pF) 2 y2 0 y1).2.1 (ag (pF) 2 y2 0 y1).2.2):=by
 have key:=bN.along (lB y2) JA (pF) 2 (fun _ _=>True) y2 y1 (by trivial) (by simp only [bN,lB];omega) (fun i b a hb hI=> ?_) (fun a hI=> ?_)
 ·exact key
 ·obtain y1:=a
  have hlt:=(List.getElem?_eq_some_iff.1 hb).1
  have hget: ∀ d,Option.getD y2[i]? d=b:=fun d=>by rw [hb];rfl
  have hw:=py hlt hn
  have hdec:ltI (i:Int) (y2.length:Int)=true:=ce (by omega)
  have hnn:leI (0:Int) (i:Int)=true:=bH (by omega)
  have hltd:ltN i y2.length=true:=cM hlt
  refine⟨?_,?_,?_,?_⟩
  ·simp [rW,rX,pJ,tO,tP,yB,mF,yC,yD,yE,ww,bN,LT.nds,allT,lB,hdec,hnn,hltd,hget]
  ·simp [rW,rX,pJ,tO,tP,yB,mF,yC,yD,yE,ww,bN,LT.each,lB,JA,hw]
  ·simp only [rW,rX,pJ,tO,tP,yB,mF,yC,yD,yE,ww,bN,LT.fn,lB,JA,pF,Int.toNat_natCast,hdec,hnn,hltd,hget,cond_true,Bool.cond_self]
  ·exact fun _ _=>trivial
 ·obtain y1:=a
  simp [rW,rX,pJ,tO,tP,yB,mF,yC,yD,yE,ww,bN,LT.out,lB]
def Ya(k:Int)(xs:List (Int×Int)):Int:=Ku k xs
theorem aoy(k:Int)(h0:0≤k)(h1:k + (2:Nat)≤9223372036854775807):pF (mkI k) k= .inr (k + (2:Nat)):=by
 have w1:IntKind.i64.wrap (k + 1)=k + 1:=aA (by omega) (by omega)
 have w2:IntKind.i64.wrap (k + 1 + 1)=k + 2:=by rw [aA (by omega) (by omega)];omega
 simp [pF,mkI,w1,w2]
theorem ank(k:Int)(n:Nat)(h:(Gt 2 k n&&leN n 9223372036854775807)=true):Ya k (upG 2 mkI k n)=k + 2 * (n:Int):=by
 simp only [Bool.and_eq_true,cu]at h
 obtain⟨h0,h2⟩:=tZ.1 h.1
 obtain⟨w1,w2⟩:=SL (upG 2 mkI k n) k (by rw [Ka];exact h.2)
 rw [UX (e:=2) aoy n k 0 h0 h2]at w2
 simp only [Ya,Ku,xI,w2,lB]
 rfl
theorem amn(k:Int)(xs:List (Int×Int))(h:leN xs.length 9223372036854775807=true):Ku k xs=Ya k xs∧PX k xs=true:=by
 obtain⟨w1,w2⟩:=SL xs k (cu.1 h)
 exact⟨rfl,by simp only [PX,xI,w1,allT,cond_true]⟩
def XG:List SV→List Entry→Option Out
 | [.one ⟨false,[.ref 0]⟩,.one ⟨false,[.val (.int .i64 x0)]⟩],[.row false 173 (.pair (.int .i64) (.int .i64)) x1]=>some ⟨(.one ⟨false,[(.val (.int .i64 (Ya x0 x1)))]⟩),[(.row false 173 asY x1)],[],[leN x1.length 9223372036854775807]⟩
 |_,_=>none
def Qt:PF Tryz.prog:=PF.alt air XG (by
 intro args es o h hnd;unfold XG at h;split at h
 ·rename_i x0 x1
  cases h
  have hnd:=cf hnd
  have hh:=amn x0 x1 hnd
  obtain⟨e0,en⟩:=hh
  exact eT rfl (cg en) (by simp only [e0] <;> rfl) rfl rfl
 ·cases h)
def mA(b:Nat):(Int×List (Int×Int))→Nat ⊕ (Int×List (Int×Int))
 |(y1,y2)=>(.inr ((IntKind.wrap .i64 ((IntKind.wrap .i64 (y1 + (1:Int))) + (1:Int))),(List.set (List.set y2 b (y1,(Option.getD y2[b]? ((0:Int),(0:Int))).2)) b ((Option.getD (List.set y2 b (y1,(Option.getD y2[b]? ((0:Int),(0:Int))).2))[b]? ((0:Int),(0:Int))).1,(IntKind.wrap .i64 (y1 + (1:Int)))))))
def jB(i:Nat):(Int×List (Int×Int))→i7
 |(y1,y2)=>((i:Int),y1,y2)
def JB:i7→Int×List (Int×Int)
 |(_,y1,y2)=>(y1,y2)
theorem aen(y1:Int)(y2:List (Int×Int))(n:Nat)(hl:y2.length=n)(hn:n≤9223372036854775807):
  dN.fin ((0:Int),y1,y2)=true∧dN.res ((0:Int),y1,y2)=((ag (mA) 0 (List.range n) 0 (y1,y2)).1,(jB) (ag (mA) 0 (List.range n) 0 (y1,y2)).2.1 (ag (mA) 0 (List.range n) 0 (y1,y2)).2.2):=by
 have key:=dN.along (jB) JB (mA) 0 (fun _ a=>a.2.length=n) (List.range n) (y1,y2) hl (by simp only [dN,jB,List.length_range];omega) (fun i b a hb hI=> ?_) (fun a hI=> ?_)
 ·exact key
 ·obtain⟨y1,y2⟩:=a
  obtain⟨rfl,hlt⟩:=fU hb
  have hI0:y2.length=n:=hI
  have hw:IntKind.i64.wrap ((b:Int) + 1)=((b + 1:Nat):Int):=by rw [aA (by omega) (by omega)];omega
  have hdec:ltI (b:Int) (y2.length:Int)=true:=ce (by omega)
  have hnn:leI (0:Int) (b:Int)=true:=bH (by omega)
  have hltd:ltN b y2.length=true:=cM (by omega)
  refine⟨?_,?_,?_,?_⟩
  ·simp [lq,rZ,tQ,tS,yH,yI,yJ,yK,yL,yM,wx,dN,LT.nds,allT,jB,hdec,hnn,hltd]
  ·simp [lq,rZ,tQ,tS,yH,yI,yJ,yK,yL,yM,wx,dN,LT.each,jB,JB,hw]
  ·simp only [lq,rZ,tQ,tS,yH,yI,yJ,yK,yL,yM,wx,dN,LT.fn,jB,JB,mA,Int.toNat_natCast,hdec,hnn,hltd,cond_true,Bool.cond_self]
  ·intro a' hf;simp only [mA,Sum.inr.injEq]at hf;subst hf;simp [hI0]
 ·obtain⟨y1,y2⟩:=a
  have hI0:y2.length=n:=hI
  simp [lq,rZ,tQ,tS,yH,yI,yJ,yK,yL,yM,wx,dN,LT.out,jB,hI0,List.length_range]
theorem aoz(b:Nat)(k:Int)(xs:List (Int×Int))(hb:b < xs.length)(h0:0≤k)(h1:k + (2:Nat)≤9223372036854775807):mA b (k,xs)= .inr (k + (2:Nat),xs.set b (mkI k)):=by
 have w1:IntKind.i64.wrap (k + 1)=k + 1:=aA (by omega) (by omega)
 have w2:IntKind.i64.wrap (k + 1 + 1)=k + 2:=by rw [aA (by omega) (by omega)];omega
 simp [mA,mkI,w1,w2,List.set_set,List.getElem?_set,hb]
theorem amz(k:Int)(xs:List (Int×Int))(h:(Gt 2 k xs.length&&leN xs.length 9223372036854775807)=true):PY k xs=k + 2 * (xs.length:Int)∧PZ k xs=upG 2 mkI k xs.length∧Qa k xs=true:=by
 simp only [Bool.and_eq_true,cu]at h
 obtain⟨h0,h2⟩:=tZ.1 h.1
 obtain⟨w1,w2⟩:=aen k xs xs.length rfl h.2
 have hw:=UY (e:=0) aoz xs [] k h0 h2
 rw [List.length_nil,List.nil_append,← List.range_eq_range']at hw
 rw [hw]at w2
 refine⟨?_,?_,?_⟩
 ·simp only [PY,Dd,Ix,w2,jB];rfl
 ·simp only [PZ,Dd,Ix,w2,jB];rfl
 ·simp only [Qa,Dd,w1,allT,cond_true]
def XH:List SV→List Entry→Option Out
 | [.one ⟨false,[.ref 0]⟩,.one ⟨false,[.val (.int .i64 x0)]⟩],[.row true 176 (.pair (.int .i64) (.int .i64)) x1]=>some ⟨(.one ⟨false,[(.val (.int .i64 (x0 + 2 * (x1.length:Int))))]⟩),[(.row true 176 asY (upG 2 mkI x0 x1.length))],[],[Gt 2 x0 x1.length&&leN x1.length 9223372036854775807]⟩
 |_,_=>none
def Qu:PF Tryz.prog:=PF.alt ais XH (by
 intro args es o h hnd;unfold XH at h;split at h
 ·rename_i x0 x1
  cases h
  have hnd:=cf hnd
  have hh:=amz x0 x1 hnd
  obtain⟨e0,e1,en⟩:=hh
  exact eT rfl (cg en) (by simp only [e0] <;> rfl) (by simp only [e1] <;> rfl) rfl
 ·cases h)
def pE(b:Int×Int):(Int)→Nat ⊕ (Int)
 |y1=>(bif(b.1!=y1)then(.inl 0)else(bif(b.2!=(IntKind.wrap .i64 (y1 + (1:Int))))then(.inl 1)else(.inr (IntKind.wrap .i64 ((IntKind.wrap .i64 (y1 + (1:Int))) + (1:Int))))))
def lA(y2:List (Int×Int))(i:Nat):(Int)→i5
 |y1=>((i:Int),y1,y2)
def Jz:i5→Int
 |(_,y1,_)=>y1
theorem SK(y2:List (Int×Int))(y1:Int)(hn:y2.length≤9223372036854775807):
  bM.fin ((0:Int),y1,y2)=true∧bM.res ((0:Int),y1,y2)=((ag (pE) 2 y2 0 y1).1,(lA y2) (ag (pE) 2 y2 0 y1).2.1 (ag (pE) 2 y2 0 y1).2.2):=by
 have key:=bM.along (lA y2) Jz (pE) 2 (fun _ _=>True) y2 y1 (by trivial) (by simp only [bM,lA];omega) (fun i b a hb hI=> ?_) (fun a hI=> ?_)
 ·exact key
 ·obtain y1:=a
  have hlt:=(List.getElem?_eq_some_iff.1 hb).1
  have hget: ∀ d,Option.getD y2[i]? d=b:=fun d=>by rw [hb];rfl
  have hw:=py hlt hn
  have hdec:ltI (i:Int) (y2.length:Int)=true:=ce (by omega)
  have hnn:leI (0:Int) (i:Int)=true:=bH (by omega)
  have hltd:ltN i y2.length=true:=cM hlt
  refine⟨?_,?_,?_,?_⟩
  ·simp [rU,rV,pI,tM,tN,yx,mE,yy,yz,yA,wv,bM,LT.nds,allT,lA,hdec,hnn,hltd,hget]
  ·simp [rU,rV,pI,tM,tN,yx,mE,yy,yz,yA,wv,bM,LT.each,lA,Jz,hw]
  ·simp only [rU,rV,pI,tM,tN,yx,mE,yy,yz,yA,wv,bM,LT.fn,lA,Jz,pE,Int.toNat_natCast,hdec,hnn,hltd,hget,cond_true,Bool.cond_self]
  ·exact fun _ _=>trivial
 ·obtain y1:=a
  simp [rU,rV,pI,tM,tN,yx,mE,yy,yz,yA,wv,bM,LT.out,lA]
def acK(k:Int)(xs:List (Int×Int)):Int:=Ks k xs
theorem aox(k:Int)(h0:0≤k)(h1:k + (2:Nat)≤9223372036854775807):pE (mkI k) k= .inr (k + (2:Nat)):=by
 have w1:IntKind.i64.wrap (k + 1)=k + 1:=aA (by omega) (by omega)
 have w2:IntKind.i64.wrap (k + 1 + 1)=k + 2:=by rw [aA (by omega) (by omega)];omega
 simp [pE,mkI,w1,w2]
theorem anh(k:Int)(n:Nat)(h:(Gt 2 k n&&leN n 9223372036854775807)=true):acK k (upG 2 mkI k n)=k + 2 * (n:Int):=by
 simp only [Bool.and_eq_true,cu]at h
 obtain⟨h0,h2⟩:=tZ.1 h.1
 obtain⟨w1,w2⟩:=SK (upG 2 mkI k n) k (by rw [Ka];exact h.2)
 rw [UX (e:=2) aox n k 0 h0 h2]at w2
 simp only [acK,Ks,xG,w2,lA]
 rfl
theorem amm(k:Int)(xs:List (Int×Int))(h:leN xs.length 9223372036854775807=true):Ks k xs=acK k xs∧PU k xs=true:=by
 obtain⟨w1,w2⟩:=SK xs k (cu.1 h)
 exact⟨rfl,by simp only [PU,xG,w1,allT,cond_true]⟩
def XF:List SV→List Entry→Option Out
 | [.one ⟨false,[.ref 0]⟩,.one ⟨false,[.val (.int .i64 x0)]⟩],[.row false 176 (.pair (.int .i64) (.int .i64)) x1]=>some ⟨(.one ⟨false,[(.val (.int .i64 (acK x0 x1)))]⟩),[(.row false 176 asY x1)],[],[leN x1.length 9223372036854775807]⟩
 |_,_=>none
def Qs:PF Tryz.prog:=PF.alt aiq XF (by
 intro args es o h hnd;unfold XF at h;split at h
 ·rename_i x0 x1
  cases h
  have hnd:=cf hnd
  have hh:=amm x0 x1 hnd
  obtain⟨e0,en⟩:=hh
  exact eT rfl (cg en) (by simp only [e0] <;> rfl) rfl rfl
 ·cases h)
def Cu(ll:List (List Int)):Nat:=(ll.map List.length).sum
def UT:Int→List (List Int)→List (List Int)
 |_,[]=> []
 |k,l::r=>tF k l.length::UT (k + l.length) r
theorem an7(a b:List (List Int)):Cu (a++b)=Cu a + Cu b:=by simp [Cu]
theorem aji: ∀ (a b:List (List Int)) (k:Int),UT k (a++b)=UT k a++UT (k + Cu a) b
 | [],b,k=>by simp [UT,Cu]
 |l::a,b,k=>by
  simp only [List.cons_append,UT,aji a b]
  congr 3
  simp [Cu];omega
theorem adi: ∀ (a:List (List Int)) (k:Int),(UT k a).length=a.length
 | [],_=>rfl
 |l::a,k=>by simp [UT,adi a]
theorem aog{f:Nat→Int×List (List Int)→Nat ⊕ (Int×List (List Int))}{e:Nat}(hf: ∀ b k xs,f b (k,xs)= .inr (k + (((xs[b]?).getD []).length:Int),xs.set b (tF k ((xs[b]?).getD []).length)))(xs:List (List Int))(k:Int):
  ag f e (List.range xs.length) 0 (k,xs)=(e,xs.length,(k + Cu xs,UT k xs)):=by
 rw [iA (g:=fun a b=>(a.1 + (((a.2[b]?).getD []).length:Int),a.2.set b (tF a.1 ((a.2[b]?).getD []).length))) (fun b a=>hf b a.1 a.2)]
 have key: ∀ (n:Nat),n≤xs.length→(List.range n).foldl (fun(a:Int×List (List Int)) b=>(a.1 + (((a.2[b]?).getD []).length:Int),a.2.set b (tF a.1 ((a.2[b]?).getD []).length))) (k,xs)=(k + Cu (xs.take n),UT k (xs.take n)++xs.drop n):=by
  intro n
  induction n with
  |zero=>intro _;simp [Cu,UT]
  |succ n ih=>
   intro hn
   rw [List.range_succ,List.foldl_append,ih (by omega)]
   have hl:(UT k (xs.take n)).length=n:=by rw [adi,List.length_take];omega
   have hg:(UT k (xs.take n)++xs.drop n)[n]? =some (xs[n]'(by omega)):=by
    rw [List.getElem?_append_right (by omega),hl,Nat.sub_self,List.getElem?_drop,Nat.add_zero,List.getElem?_eq_getElem (by omega)]
   have ht:xs.take (n + 1)=xs.take n++ [xs[n]'(by omega)]:=by rw [List.take_succ_eq_append_getElem (by omega)]
   simp only [List.foldl_cons,List.foldl_nil,hg,Option.getD_some,ht,an7,aji,Prod.mk.injEq]
   refine⟨by simp [Cu];omega,?_⟩
   have h3:xs.drop n=xs[n]'(by omega)::xs.drop (n + 1):=by rw [List.drop_eq_getElem_cons (by omega)]
   rw [List.set_append_right _ _ (by omega),hl,Nat.sub_self,h3,List.set_cons_zero]
   simp only [UT,List.append_assoc,List.cons_append,List.nil_append]
 rw [key xs.length (Nat.le_refl _)]
 simp
def mM(b:Nat):(Int×List (List Int))→Nat ⊕ (Int×List (List Int))
 |(y1,y2)=>(.inr ((y1 + (↑(List.length (Option.getD y2[b]? (uq (CTy.sl (2:Nat) asZ)))):Int)),(List.set y2 b (tF y1 (List.length (Option.getD y2[b]? (uq (CTy.sl (2:Nat) asZ))))))))
def ig(i:Nat):(Int×List (List Int))→gM
 |(y1,y2)=>((i:Int),y1,y2)
def GN:gM→Int×List (List Int)
 |(_,y1,y2)=>(y1,y2)
theorem abl(y1:Int)(y2:List (List Int))(n:Nat)(hl:y2.length=n)(hn:n≤9223372036854775807)(h1:0≤y1)(h2:y1 + Cu y2≤9223372036854775807):
  cC.fin ((0:Int),y1,y2)=true∧cC.res ((0:Int),y1,y2)=((ag (mM) 0 (List.range n) 0 (y1,y2)).1,(ig) (ag (mM) 0 (List.range n) 0 (y1,y2)).2.1 (ag (mM) 0 (List.range n) 0 (y1,y2)).2.2):=by
 have key:=cC.along (ig) GN (mM) 0 (fun i a=>a.2.length=n∧0≤a.1∧a.1 + Cu (a.2.drop i)≤9223372036854775807) (List.range n) (y1,y2) ⟨hl,h1,by simpa using h2⟩ (by simp only [cC,ig,List.length_range];omega) (fun i b a hb hI=> ?_) (fun a hI=> ?_)
 ·exact key
 ·obtain⟨y1,y2⟩:=a
  obtain⟨rfl,hlt⟩:=fU hb
  have hI0:y2.length=n:=hI.1
  have hw:IntKind.i64.wrap ((b:Int) + 1)=((b + 1:Nat):Int):=by rw [aA (by omega) (by omega)];omega
  have hdec:ltI (b:Int) (y2.length:Int)=true:=ce (by omega)
  have hnn:leI (0:Int) (b:Int)=true:=bH (by omega)
  have hltd:ltN b y2.length=true:=cM (by omega)
  refine⟨?_,?_,?_,?_⟩
  ·have hd:y2.drop b=y2[b]'(by omega)::y2.drop (b + 1):=by rw [List.drop_eq_getElem_cons (by omega)]
   have hg:y2[b]? =some (y2[b]'(by omega)):=List.getElem?_eq_getElem (by omega)
   have hk:=hI.2
   have h6:qj (b:Int) y1 y2=true:=by
    simp only [qj,Int.toNat_natCast,hg]
    show Pc y1 (y2[b]'(by omega)).length=true
    refine Bx.2 ⟨hk.1,?_⟩
    have:=hk.2
    simp only [hd,Cu,List.map_cons,List.sum_cons]at this
    omega
   simp [qi,uC,uD,uE,uF,uG,ti,cC,LT.nds,allT,ig,hdec,hnn,hltd,h6]
  ·simp [qi,uC,uD,qj,uE,uF,uG,ti,cC,LT.each,ig,GN,hw]
  ·simp only [qi,uC,uD,qj,uE,uF,uG,ti,cC,LT.fn,ig,GN,mM,Int.toNat_natCast,hdec,hnn,hltd,cond_true,Bool.cond_self]
  ·have hd:y2.drop b=y2[b]'(by omega)::y2.drop (b + 1):=by rw [List.drop_eq_getElem_cons (by omega)]
   have hg:y2[b]? =some (y2[b]'(by omega)):=List.getElem?_eq_getElem (by omega)
   have hk:=hI.2
   intro a' hf;simp only [mM,Sum.inr.injEq,hg]at hf
   have hf:(y1 + ((y2[b]'(by omega)).length:Int),y2.set b (tF y1 (y2[b]'(by omega)).length))=a':=hf
   subst hf
   have:=hk.2
   simp only [hd,Cu,List.map_cons,List.sum_cons]at this
   refine⟨by simp [hI0],by have:=hk.1;simp only;omega,?_⟩
   simp only [List.drop_set_of_lt (show b < b + 1 by omega),Cu]
   omega
 ·obtain⟨y1,y2⟩:=a
  have hI0:y2.length=n:=hI.1
  simp [qi,uC,uD,qj,uE,uF,uG,ti,cC,LT.out,ig,hI0,List.length_range]
theorem apZ(k:Int)(xs:List (List Int))(h:(Pc k (Cu xs)&&leN xs.length 9223372036854775807)=true):Bf k xs=k + Cu xs∧Bg k xs=UT k xs∧Bh k xs=true:=by
 simp only [Bool.and_eq_true,cu]at h
 obtain⟨h0,h2⟩:=Bx.1 h.1
 obtain⟨w1,w2⟩:=abl k xs xs.length rfl h.2 h0 h2
 rw [aog (f:=mM) (fun b k xs=>rfl)]at w2
 refine⟨?_,?_,?_⟩
 ·simp only [yF,yG,Bf,Bg,Bh,w2,ig]
 ·simp only [yF,yG,Bf,Bg,Bh,w2,ig]
 ·simp only [yF,yG,Bf,Bg,Bh,w1,allT,cond_true]
def RJ:Int→List (List Int)→Int
 |k,[]=>k
 |k,l::r=>bif ltI (Rk k l) 0 then -1 else RJ (Rk k l) r
def qf(b:List Int):(Int)→Nat ⊕ (Int)
 |y1=>(bif(ltI (Rk y1 b) (0:Int))then(.inl 0)else(.inr (Rk y1 b)))
def jA(y2:List (List Int))(i:Nat):(Int)→gL
 |y1=>((i:Int),y1,y2)
def GM:gL→Int
 |(_,y1,_)=>y1
theorem abk(y2:List (List Int))(y1:Int)(hn:y2.length≤9223372036854775807)(hA: ∀ x∈y2,x.length≤9223372036854775807):
  bF.fin ((0:Int),y1,y2)=true∧bF.res ((0:Int),y1,y2)=((ag (qf) 1 y2 0 y1).1,(jA y2) (ag (qf) 1 y2 0 y1).2.1 (ag (qf) 1 y2 0 y1).2.2):=by
 have key:=bF.along (jA y2) GM (qf) 1 (fun _ _=>True) y2 y1 (by trivial) (by simp only [bF,jA];omega) (fun i b a hb hI=> ?_) (fun a hI=> ?_)
 ·exact key
 ·obtain y1:=a
  have hlt:=(List.getElem?_eq_some_iff.1 hb).1
  have hget: ∀ d,Option.getD y2[i]? d=b:=fun d=>by rw [hb];rfl
  have hw:=py hlt hn
  have hdec:ltI (i:Int) (y2.length:Int)=true:=ce (by omega)
  have hnn:leI (0:Int) (i:Int)=true:=bH (by omega)
  have hltd:ltN i y2.length=true:=cM hlt
  refine⟨?_,?_,?_,?_⟩
  ·have hg2:hY (i:Int) y2=b:=by simp only [hY,Int.toNat_natCast];exact hget _
   have h6:leN b.length 9223372036854775807=true:=gx (hA b (List.mem_of_getElem? hb))
   simp [qh,BX,BZ,Ca,uz,Cb,uB,th,bF,LT.nds,allT,jA,hdec,hnn,hltd,hg2,h6]
  ·simp [hY,qh,BX,BZ,Ca,uz,uA,Cb,uB,th,bF,LT.each,jA,GM,hw]
  ·have hg2:hY (i:Int) y2=b:=by simp only [hY,Int.toNat_natCast];exact hget _
   simp only [qh,uz,uB,th,bF,LT.fn,jA,GM,qf,Int.toNat_natCast,hdec,hg2,cond_true]
  ·exact fun _ _=>trivial
 ·obtain y1:=a
  simp [hY,qh,BX,BZ,Ca,uz,uA,Cb,uB,th,bF,LT.out,jA]
theorem ajj{f:List Int→Int→Nat ⊕ Int}(hf: ∀ l k,f l k=bif ltI (Rk k l) 0 then .inl 0 else .inr (Rk k l)): ∀ (r:List (List Int)) (i:Nat) (k:Int),
  (bif Nat.beq (ag f 1 r i k).1 0 then(-1:Int)else(ag f 1 r i k).2.2)=RJ k r
 | [],i,k=>rfl
 |l::r,i,k=>by
  simp only [ag,hf,RJ]
  cases h:ltI (Rk k l) 0 with
  |true=>rfl
  |false=>exact ajj hf r (i + 1) _
theorem apQ(k:Int)(xs:List (List Int))(h:adf 9223372036854775807 xs=true):Mk k xs=RJ k xs∧Ml k xs=true:=by
 obtain⟨hn,hA⟩:=adg.1 h
 obtain⟨w1,w2⟩:=abk xs k hn hA
 simp only [Mk,Ml,EK,uA,w1,w2,jA,allT,cond_true]
 exact⟨ajj (f:=qf) (fun l k=>rfl) xs 0 k,trivial⟩
theorem alF: ∀ (ll:List (List Int)) (k:Int),Pc k (Cu ll)=true→RJ k (UT k ll)=k + Cu ll
 | [],k,_=>by simp [RJ,UT,Cu]
 |l::r,k,h=>by
  obtain⟨h0,h1⟩:=Bx.1 h
  have ht:(Cu (l::r):Int)=l.length + Cu r:=by simp [Cu]
  have m1:Pc k l.length=true:=Bx.2 (by omega)
  have m2:Pc (k + l.length) (Cu r)=true:=Bx.2 (by omega)
  have t:ltI (k + (l.length:Int)) 0=false:=acZ (by omega)
  simp only [UT,RJ,anl k l.length m1,t,cond_false]
  rw [alF r _ m2]
  omega
def Tx:List SV→List Entry→Option Out
 | [.one ⟨false,[.ref 0]⟩,.one ⟨false,[.val (.int .i64 x0)]⟩],[.tree 24 (.sl 2 (.int .i64)) x1 none]=>some ⟨(.one ⟨false,[(.val (.int .i64 (x0 + (Cu x1:Int))))]⟩),[(.tree 24 (CTy.sl (2:Nat) asZ) (UT x0 x1) none)],[],[Pc x0 (Cu x1)&&leN x1.length 9223372036854775807]⟩
 |_,_=>none
def Mu:PF Tryz.prog:=PF.alt af0 Tx (by
 intro args es o h hnd;unfold Tx at h;split at h
 ·rename_i x0 x1
  cases h
  have hnd:=cf hnd
  have hh:=apZ x0 x1 hnd
  obtain⟨e0,e1,en⟩:=hh
  exact eT rfl (cg en) (by simp only [e0] <;> rfl) (by simp only [e1] <;> rfl) rfl
 ·cases h)
def Tv:List SV→List Entry→Option Out
 | [.one ⟨false,[.ref 0]⟩,.one ⟨false,[.val (.int .i64 x0)]⟩],[.row false 24 (.sl 2 (.int .i64)) x1]=>some ⟨(.one ⟨false,[(.val (.int .i64 (RJ x0 x1)))]⟩),[(.row false 24 (CTy.sl (2:TypeId) asZ) x1)],[],[adf 9223372036854775807 x1]⟩
 |_,_=>none
def Mr:PF Tryz.prog:=PF.alt afY Tv (by
 intro args es o h hnd;unfold Tv at h;split at h
 ·rename_i x0 x1
  cases h
  have hnd:=cf hnd
  have hh:=apQ x0 x1 hnd
  obtain⟨e0,en⟩:=hh
  exact eT rfl (cg en) (by simp only [e0] <;> rfl) rfl rfl
 ·cases h)
end Go.SX

namespace Go.SX
open Go.Proofs
set_option maxRecDepth 100000
section
variable (x3:Int)(x4:List Int)(x5:List (Int×Int×Int))(x6:List (List Int))(x7:List (Int×Int×Int))(x8 x9:List (Int×Int))
def zK:Int:=x3 + (↑x4.length:Int)
def zL:Int:=zK x3 x4 + (3:Int) * (↑x5.length:Int)
def zM:Int:=zL x3 x4 x5 + (↑(Cu x6):Int)
def zN:Int:=zM x3 x4 x5 x6 + (3:Int) * (↑x7.length:Int)
def zO:Int:=zN x3 x4 x5 x6 x7 + (2:Int) * (↑x8.length:Int)
def Sb:Int:=zO x3 x4 x5 x6 x7 x8 + (2:Int) * (↑x9.length:Int)
def xR:List Int:=tF x3 x4.length
def xS:List (Int×(Int×Int)):=upG (3:Nat) mkB (zK x3 x4) x5.length
def xT:List (List Int):=UT (zL x3 x4 x5) x6
def xU:List (Int×(Int×Int)):=upG (3:Nat) mkB (zM x3 x4 x5 x6) x7.length
def xV:List (Int×Int):=upG (2:Nat) mkI (zN x3 x4 x5 x6 x7) x8.length
def xW:List (Int×Int):=upG (2:Nat) mkI (zO x3 x4 x5 x6 x7 x8) x9.length
def Sc:Bool:=allT [Pc x3 x4.length,Gt (3:Nat) (zK x3 x4) x5.length&&leN x5.length (9223372036854775807:Nat),Pc (zL x3 x4 x5) (Cu x6)&&leN x6.length (9223372036854775807:Nat),Gt (3:Nat) (zM x3 x4 x5 x6) x7.length&&leN x7.length (9223372036854775807:Nat),Gt (2:Nat) (zN x3 x4 x5 x6 x7) x8.length&&leN x8.length (9223372036854775807:Nat),Gt (2:Nat) (zO x3 x4 x5 x6 x7 x8) x9.length&&leN x9.length (9223372036854775807:Nat)]
end
def ZZ:List SV→List Entry→Option Out
 | [.one ⟨true,[.val (.int .i64 _x0),.ref 0,.ref 1,.ref 2,.ref 3,.val (.int .i64 _x1),.ref 4,.ref 5,.val (.int .i64 _x2)]⟩,.one ⟨false,[.val (.int .i64 x3)]⟩],[.row true 2 (.int .i64) x4,.row true 169 (.pair (.int .i64) (.pair (.int .i64) (.int .i64))) x5,.tree 24 (.sl 2 (.int .i64)) x6 none,.row true 100 (.pair (.int .i64) (.pair (.int .i64) (.int .i64))) x7,.row true 173 (.pair (.int .i64) (.int .i64)) x8,.row true 176 (.pair (.int .i64) (.int .i64)) x9]=>some ⟨(.one ⟨false,[(.val (.int .i64 (Sb x3 x4 x5 x6 x7 x8 x9)))]⟩),[(.row true 2 asZ (xR x3 x4)),(.row true 169 asX (xS x3 x4 x5)),(.tree 24 (CTy.sl (2:Nat) asZ) (xT x3 x4 x5 x6) none),(.row true 100 asX (xU x3 x4 x5 x6 x7)),(.row true 173 asY (xV x3 x4 x5 x6 x7 x8)),(.row true 176 asY (xW x3 x4 x5 x6 x7 x8 x9))],[],[(Sc x3 x4 x5 x6 x7 x8 x9)]⟩
 |_,_=>none
def ajA:PF Tryz.prog:=PF.ofG Tryz.prog [PF.trees Tryz.prog,Mv,PF.lend Mv,PF.fz Mv,Fm,PF.lend Fm,PF.fz Fm,Mu,PF.lend Mu,PF.fz Mu,HW,PF.lend HW,PF.fz HW,Qv,PF.lend Qv,PF.fz Qv,Qu,PF.lend Qu,PF.fz Qu] [] ar 44 Tryz.f44 Tryz.func44 (fun c _=>LOk.nil c) ZZ (by
 intro vs es r h;unfold ZZ at h;split at h
 ·cases h;kernel_rfl
 ·cases h)
section
variable (x3:Int)(x4:List Int)(x5:List (Int×Int×Int))(x6:List (List Int))(x7:List (Int×Int×Int))(x8 x9:List (Int×Int))
def Fe:Bool:=ltI (RJ (jt (EZ x3 x4) x5) x6) (0:Int)
def Kt:Bool:=ltI (Ed (RJ (jt (EZ x3 x4) x5) x6) x7) (0:Int)
def PV:Bool:=ltI (Ya (Ed (RJ (jt (EZ x3 x4) x5) x6) x7) x8) (0:Int)
def PW:Int:=acK (Ya (Ed (RJ (jt (EZ x3 x4) x5) x6) x7) x8) x9
def Hd:Int:=bif ltI (EZ x3 x4) (0:Int)then(-1:Int)else bif ltI (jt (EZ x3 x4) x5) (0:Int)then(-1:Int)else bif Fe x3 x4 x5 x6 then(-1:Int)else bif Kt x3 x4 x5 x6 x7 then(-1:Int)else bif PV x3 x4 x5 x6 x7 x8 then(-1:Int)else bif ltI (PW x3 x4 x5 x6 x7 x8 x9) (0:Int)then(-1:Int)else PW x3 x4 x5 x6 x7 x8 x9
def Sa:Bool:=allT [leN x4.length (9223372036854775807:Nat),ltI (EZ x3 x4) (0:Int)||leN x5.length (9223372036854775807:Nat),ltI (EZ x3 x4) (0:Int)||(ltI (jt (EZ x3 x4) x5) (0:Int)||adf (9223372036854775807:Nat) x6),ltI (EZ x3 x4) (0:Int)||(ltI (jt (EZ x3 x4) x5) (0:Int)||(Fe x3 x4 x5 x6||leN x7.length (9223372036854775807:Nat))),ltI (EZ x3 x4) (0:Int)||(ltI (jt (EZ x3 x4) x5) (0:Int)||(Fe x3 x4 x5 x6||(Kt x3 x4 x5 x6 x7||leN x8.length (9223372036854775807:Nat)))),ltI (EZ x3 x4) (0:Int)||(ltI (jt (EZ x3 x4) x5) (0:Int)||(Fe x3 x4 x5 x6||(Kt x3 x4 x5 x6 x7||(PV x3 x4 x5 x6 x7 x8||leN x9.length (9223372036854775807:Nat)))))]
end
def ZY:List SV→List Entry→Option Out
 | [.one ⟨true,[.val (.int .i64 _x0),.ref 0,.ref 1,.ref 2,.ref 3,.val (.int .i64 _x1),.ref 4,.ref 5,.val (.int .i64 _x2)]⟩,.one ⟨false,[.val (.int .i64 x3)]⟩],[.row false 2 (.int .i64) x4,.row false 169 (.pair (.int .i64) (.pair (.int .i64) (.int .i64))) x5,.row false 24 (.sl 2 (.int .i64)) x6,.row false 100 (.pair (.int .i64) (.pair (.int .i64) (.int .i64))) x7,.row false 173 (.pair (.int .i64) (.int .i64)) x8,.row false 176 (.pair (.int .i64) (.int .i64)) x9]=>some ⟨(.one ⟨false,[(.val (.int .i64 (Hd x3 x4 x5 x6 x7 x8 x9)))]⟩),[(.row false 2 asZ x4),(.row false 169 asX x5),(.row false 24 (CTy.sl (2:TypeId) asZ) x6),(.row false 100 asX x7),(.row false 173 asY x8),(.row false 176 asY x9)],[],[(Sa x3 x4 x5 x6 x7 x8 x9)]⟩
 |_,_=>none
def ajz:PF Tryz.prog:=PF.ofG Tryz.prog [Mt,PF.lend Mt,PF.fz Mt,Fl,PF.lend Fl,PF.fz Fl,Mr,PF.lend Mr,PF.fz Mr,HV,PF.lend HV,PF.fz HV,Qt,PF.lend Qt,PF.fz Qt,Qs,PF.lend Qs,PF.fz Qs] [] ar 45 Tryz.f45 Tryz.func45 (fun c _=>LOk.nil c) ZY (by
 intro vs es r h;unfold ZY at h;split at h
 ·cases h;kernel_rfl
 ·cases h)
end Go.SX

namespace Go.SX
open Go.Proofs
set_option maxRecDepth 100000
def Nk(ps:List Int)(fs:List (Int×Int×Int))(rs:List (List Int))(lf:List (Int×Int×Int))(pl ls:List (Int×Int)):Nat:=ps.length + 3 * fs.length + Cu rs + 3 * lf.length + 2 * pl.length + 2 * ls.length
theorem aob: ∀ {rs:List (List Int)} {k:Int} {x:List Int},x∈UT k rs→ ∃ y∈rs,x.length=y.length
 | [],_,_,h=>by simp [UT]at h
 |a::r,k,x,h=>by
  simp only [UT,List.mem_cons]at h
  rcases h with rfl | h
  ·exact⟨a,by simp,by rw [Lu]⟩
  ·obtain⟨y,h1,h2⟩:=aob h
   exact⟨y,by simp [h1],h2⟩
theorem ap1(k:Int)(ps:List Int)(fs:List (Int×Int×Int))(rs:List (List Int))(lf:List (Int×Int×Int))(pl ls:List (Int×Int))(h:(Pc k (Nk ps fs rs lf pl ls)&&p8 9223372036854775807 ps fs rs lf pl ls)=true):
  Sb k ps fs rs lf pl ls=k + (Nk ps fs rs lf pl ls:Int)∧Sc k ps fs rs lf pl ls=true:=by
 simp only [Bool.and_eq_true]at h
 obtain⟨h0,h1⟩:=Bx.1 h.1
 obtain⟨g1,g2,⟨g3,_⟩,g4,g5,g6⟩:=xN.1 h.2
 simp only [Nk]at h1
 refine⟨?_,?_⟩
 ·simp only [Sb,zK,zL,zM,zN,zO,Nk];omega
 ·have m1:Pc k ps.length=true:=Bx.2 (by omega)
  have m2:Gt 3 (k + (ps.length:Int)) fs.length=true:=tZ.2 (by omega)
  have m3:Pc (k + (ps.length:Int) + 3 * (fs.length:Int)) (Cu rs)=true:=Bx.2 (by omega)
  have m4:Gt 3 (k + (ps.length:Int) + 3 * (fs.length:Int) + (Cu rs:Int)) lf.length=true:=tZ.2 (by omega)
  have m5:Gt 2 (k + (ps.length:Int) + 3 * (fs.length:Int) + (Cu rs:Int) + 3 * (lf.length:Int)) pl.length=true:=tZ.2 (by omega)
  have m6:Gt 2 (k + (ps.length:Int) + 3 * (fs.length:Int) + (Cu rs:Int) + 3 * (lf.length:Int) + 2 * (pl.length:Int)) ls.length=true:=tZ.2 (by omega)
  simp only [Sc,zK,zL,zM,zN,zO,m1,m2,m3,m4,m5,m6,gx g2,gx g3,gx g4,gx g5,gx g6,allT,Bool.and_self,cond_true]
theorem ani(k:Int)(ps:List Int)(fs:List (Int×Int×Int))(rs:List (List Int))(lf:List (Int×Int×Int))(pl ls:List (Int×Int))(h:p8 9223372036854775807 ps fs rs lf pl ls=true):
  Sa k ps fs rs lf pl ls=true:=by
 simp only [p8,Bool.and_eq_true]at h
 obtain⟨h1,h2,h3,h4,h5,h6⟩:=h
 simp only [Sa,h1,h2,h3,h4,h5,h6,allT,Bool.or_true,cond_true]
theorem anj(k:Int)(ps:List Int)(fs:List (Int×Int×Int))(rs:List (List Int))(lf:List (Int×Int×Int))(pl ls:List (Int×Int))(h:(Pc k (Nk ps fs rs lf pl ls)&&p8 9223372036854775807 ps fs rs lf pl ls)=true):
  Hd k (xR k ps) (xS k ps fs) (xT k ps fs rs) (xU k ps fs rs lf) (xV k ps fs rs lf pl) (xW k ps fs rs lf pl ls)=k + (Nk ps fs rs lf pl ls:Int):=by
 simp only [Bool.and_eq_true]at h
 obtain⟨h0,h1⟩:=Bx.1 h.1
 obtain⟨g1,g2,⟨g3,_⟩,g4,g5,g6⟩:=xN.1 h.2
 simp only [Nk]at h1
 have m1:Pc k ps.length=true:=Bx.2 (by omega)
 have m2:Gt 3 (k + (ps.length:Int)) fs.length=true:=tZ.2 (by omega)
 have m3:Pc (k + (ps.length:Int) + 3 * (fs.length:Int)) (Cu rs)=true:=Bx.2 (by omega)
 have m4:Gt 3 (k + (ps.length:Int) + 3 * (fs.length:Int) + (Cu rs:Int)) lf.length=true:=tZ.2 (by omega)
 have m5:Gt 2 (k + (ps.length:Int) + 3 * (fs.length:Int) + (Cu rs:Int) + 3 * (lf.length:Int)) pl.length=true:=tZ.2 (by omega)
 have m6:Gt 2 (k + (ps.length:Int) + 3 * (fs.length:Int) + (Cu rs:Int) + 3 * (lf.length:Int) + 2 * (pl.length:Int)) ls.length=true:=tZ.2 (by omega)
 have e1:EZ k (tF k ps.length)=k + (ps.length:Int):=by
  rw [EZ,anl k ps.length m1,show ltI (k + (ps.length:Int)) 0=false from acZ (by omega)];rfl
 have e2:=afO (k + (ps.length:Int)) fs.length (by rw [m2,gx g2];rfl)
 have e3:=alF rs _ m3
 have e4:=ah0 _ lf.length (by rw [m4,gx g4];rfl)
 have e5:=ank _ pl.length (by rw [m5,gx g5];rfl)
 have e6:=anh _ ls.length (by rw [m6,gx g6];rfl)
 have t1:ltI (k + (ps.length:Int)) 0=false:=acZ (by omega)
 have t2:ltI (k + (ps.length:Int) + 3 * (fs.length:Int)) 0=false:=acZ (by omega)
 have t3:ltI (k + (ps.length:Int) + 3 * (fs.length:Int) + (Cu rs:Int)) 0=false:=acZ (by omega)
 have t4:ltI (k + (ps.length:Int) + 3 * (fs.length:Int) + (Cu rs:Int) + 3 * (lf.length:Int)) 0=false:=acZ (by omega)
 have t5:ltI (k + (ps.length:Int) + 3 * (fs.length:Int) + (Cu rs:Int) + 3 * (lf.length:Int) + 2 * (pl.length:Int)) 0=false:=acZ (by omega)
 have t6:ltI (k + (ps.length:Int) + 3 * (fs.length:Int) + (Cu rs:Int) + 3 * (lf.length:Int) + 2 * (pl.length:Int) + 2 * (ls.length:Int)) 0=false:=acZ (by omega)
 simp only [Hd,Fe,Kt,PV,PW,xR,xS,xT,xU,xV,xW,zK,zL,zM,zN,zO,e1,e2,e3,e4,e5,e6,t1,t2,t3,t4,t5,t6,cond_false,Nk]
 omega
theorem aoR{k:Int}{ps:List Int}{fs:List (Int×Int×Int)}{rs:List (List Int)}{lf:List (Int×Int×Int)}{pl ls:List (Int×Int)}{m:Nat}(h:p8 m ps fs rs lf pl ls=true):
  p8 m (xR k ps) (xS k ps fs) (xT k ps fs rs) (xU k ps fs rs lf) (xV k ps fs rs lf pl) (xW k ps fs rs lf pl ls)=true:=by
 obtain⟨g1,g2,⟨g3,g7⟩,g4,g5,g6⟩:=xN.1 h
 refine xN.2 ⟨?_,?_,⟨?_,fun x hx=> ?_⟩,?_,?_,?_⟩
 ·simp only [xR,Lu];exact g1
 ·simp only [xS,Ka];exact g2
 ·simp only [xT,adi];exact g3
 ·obtain⟨y,h1,h2⟩:=aob hx
  rw [h2];exact g7 y h1
 ·simp only [xU,Ka];exact g4
 ·simp only [xV,Ka];exact g5
 ·simp only [xW,Ka];exact g6
theorem akV: ∀ {rs:List (List Int)} {m:Nat},(∀ x∈rs,x.length≤m)→Cu rs≤m * rs.length
 | [],m,_=>by simp [Cu]
 |a::r,m,h=>by
  have h1:=h a (by simp)
  have h2:=akV (rs:=r) (m:=m) fun x hx=>h x (by simp [hx])
  simp only [Cu,List.map_cons,List.sum_cons,List.length_cons,Nat.mul_add,Nat.mul_one]at h2 ⊢
  omega
theorem aje{ps:List Int}{fs:List (Int×Int×Int)}{rs:List (List Int)}{lf:List (Int×Int×Int)}{pl ls:List (Int×Int)}(h:p8 1048576 ps fs rs lf pl ls=true):Nk ps fs rs lf pl ls≤1099530698752:=by
 obtain⟨g1,g2,⟨g3,g7⟩,g4,g5,g6⟩:=xN.1 h
 have h1:=akV g7
 have h2:1048576 * rs.length≤1048576 * 1048576:=Nat.mul_le_mul (Nat.le_refl _) g3
 simp only [Nk];omega
def aan:List SV→List Entry→Option Out
 | [.one ⟨true,[.val (.int .i64 _x0),.ref 0,.ref 1,.ref 2,.ref 3,.val (.int .i64 _x1),.ref 4,.ref 5,.val (.int .i64 _x2)]⟩,.one ⟨false,[.val (.int .i64 x3)]⟩],[.row true 2 (.int .i64) x4,.row true 169 (.pair (.int .i64) (.pair (.int .i64) (.int .i64))) x5,.tree 24 (.sl 2 (.int .i64)) x6 none,.row true 100 (.pair (.int .i64) (.pair (.int .i64) (.int .i64))) x7,.row true 173 (.pair (.int .i64) (.int .i64)) x8,.row true 176 (.pair (.int .i64) (.int .i64)) x9]=>some ⟨(.one ⟨false,[(.val (.int .i64 (x3 + (Nk x4 x5 x6 x7 x8 x9:Int))))]⟩),[(.row true 2 asZ (xR x3 x4)),(.row true 169 asX (xS x3 x4 x5)),(.tree 24 (CTy.sl (2:Nat) asZ) (xT x3 x4 x5 x6) none),(.row true 100 asX (xU x3 x4 x5 x6 x7)),(.row true 173 asY (xV x3 x4 x5 x6 x7 x8)),(.row true 176 asY (xW x3 x4 x5 x6 x7 x8 x9))],[],[Pc x3 (Nk x4 x5 x6 x7 x8 x9)&&p8 9223372036854775807 x4 x5 x6 x7 x8 x9]⟩
 |_,_=>none
def Si:PF Tryz.prog:=PF.alt ajA aan (by
 intro args es o h hnd;unfold aan at h;split at h
 ·rename_i _x0 _x1 _x2 x3 x4 x5 x6 x7 x8 x9
  cases h
  have hnd:=cf hnd
  have hh:=ap1 x3 x4 x5 x6 x7 x8 x9 hnd
  obtain⟨e0,en⟩:=hh
  exact eT rfl (cg en) (by simp only [e0] <;> rfl) rfl rfl
 ·cases h)
def aam:List SV→List Entry→Option Out
 | [.one ⟨true,[.val (.int .i64 _x0),.ref 0,.ref 1,.ref 2,.ref 3,.val (.int .i64 _x1),.ref 4,.ref 5,.val (.int .i64 _x2)]⟩,.one ⟨false,[.val (.int .i64 x3)]⟩],[.row false 2 (.int .i64) x4,.row false 169 (.pair (.int .i64) (.pair (.int .i64) (.int .i64))) x5,.row false 24 (.sl 2 (.int .i64)) x6,.row false 100 (.pair (.int .i64) (.pair (.int .i64) (.int .i64))) x7,.row false 173 (.pair (.int .i64) (.int .i64)) x8,.row false 176 (.pair (.int .i64) (.int .i64)) x9]=>some ⟨(.one ⟨false,[(.val (.int .i64 (Hd x3 x4 x5 x6 x7 x8 x9)))]⟩),[(.row false 2 asZ x4),(.row false 169 asX x5),(.row false 24 (CTy.sl (2:TypeId) asZ) x6),(.row false 100 asX x7),(.row false 173 asY x8),(.row false 176 asY x9)],[],[p8 9223372036854775807 x4 x5 x6 x7 x8 x9]⟩
 |_,_=>none
def Sh:PF Tryz.prog:=PF.alt ajz aam (by
 intro args es o h hnd;unfold aam at h;split at h
 ·rename_i _x0 _x1 _x2 x3 x4 x5 x6 x7 x8 x9
  cases h
  have hnd:=cf hnd
  have hh:=ani x3 x4 x5 x6 x7 x8 x9 hnd
  have en:=hh
  exact eT rfl (cg en) rfl rfl rfl
 ·cases h)
end Go.SX

namespace Go.SX
open Go.Proofs
set_option maxRecDepth 100000
def afP(x0:Int):Bool:=x0 !=(2:Int)
def To:List SV→List Entry→Option Out
 | [.one ⟨false,[.val (.int .i64 x0)]⟩],[]=>some ⟨(.one ⟨false,[(.val (.bool (afP x0)))]⟩),[],[],[]⟩
 |_,_=>none
def afX:PF Tryz.prog:=PF.ofG Tryz.prog [] [] ar 159 Tryz.f159 Tryz.func159 (fun c _=>LOk.nil c) To (by
 intro vs es r h;unfold To at h;split at h
 ·cases h;kernel_rfl
 ·cases h)
def vC(x0:Int):Bool:=x0 !=(2:Int)
def Lb:List SV→List Entry→Option Out
 | [(.one ⟨false,[(.val (.int .i64 x0))]⟩)],[]=>some ⟨(.one ⟨false,[(.val (.bool (vC x0)))]⟩),[],[],[]⟩
 |_,_=>none
def Lo:PF Tryz.prog:=PF.ofG Tryz.prog [] [] ar 159 Tryz.f159 Tryz.func159 (fun c _=>LOk.nil c) Lb (by
 intro vs es r h;unfold Lb at h;split at h
 ·cases h;kernel_rfl
 ·cases h)
abbrev aW:=Int×Int×List Int
section
variable (y0 y1:Int)(y2:List Int)
def gd:Bool:=ltI y0 y1
def ge:Bool:=leI (0:Int) y0
def gf:Bool:=ltI y0 (↑y2.length:Int)
def gg:Bool:=ltN y0.toNat y2.length
def gh:Bool:=vC (Option.getD y2[Int.toNat y0]? (0:Int))
def gi:Int:=IntKind.wrap .i64 (y0 + (1:Int))
end
def HH:aW→List (Nat×SV)
 |(y0,y1,_)=> [(8,(.one ⟨false,[(.val (.int .i64 y0))]⟩)),(7,(.one ⟨false,[(.val (.int .i64 y1))]⟩)),(1,(.one ⟨false,[(.val (.func (.func 159) ⟨[]⟩ ⟨[]⟩))]⟩)),(0,(.one ⟨false,[(.ref 0)]⟩))]
def HF:aW→List (Nat×Entry)
 |(_,_,y2)=> [(0,(.row false 2 asZ y2))]
def HL:Nat→aW→List (Nat×SV)
 |0,(y0,_,_)=> [(4,(.one ⟨false,[(.val (.int .i64 y0))]⟩))]
 |_,(_,_,_)=> []
def HJ:Nat→aW→List (Nat×Entry)
 |0,(_,_,y2)=> [(0,(.row false 2 asZ y2))]
 |_,(_,_,y2)=> [(0,(.row false 2 asZ y2))]
def fD:aW→LT aW
 |(y0,y1,y2)=> .ite (gd y0 y1) (.need [(ge y0),(gf y0 y2),(gg y0 y2)] (.ite (gh y0 y2) (.ext 0 [(0,0)]) (.nrm ((gi y0),y1,y2) [(0,0)]))) (.ext 1 [(0,0)])
def na(s:St):Option aW:=
 (match s.look 8 with
 |some ⟨none,(.one ⟨false,[(.val (.int .i64 y0))]⟩)⟩=>
 (match s.look 7 with
 |some ⟨none,(.one ⟨false,[(.val (.int .i64 y1))]⟩)⟩=>
 (match s.look 1 with
 |some ⟨none,(.one ⟨false,[(.val (.func (.func 159) ⟨[]⟩ ⟨[]⟩))]⟩)⟩=>
 (match s.look 0 with
 |some ⟨none,(.one ⟨false,[(.ref 0)]⟩)⟩=>
 (match s.ent 0 with
 |some (.row false 2 (.int .i64) y2)=>
 some (y0,y1,y2)
 |_=>none)
 |_=>none)
 |_=>none)
 |_=>none)
 |_=>none)
def ap:Lp aW where
 h:=⟨[9,10,5,11,12,13,14,15,16,17,4,18,8],[0],[],[]⟩
 JL:=HH
 JE:=HF
 XL:=HL
 XE:=HJ
 q:=fun j=>match j with | 0=> .ret | _=> .exit 0
 tags:= [0,1]
 lt:=fD
 fuel:=fun(y0,y1,y2)=>y0.natAbs + y1.natAbs + y2.length
 fix:=fun(_,y1,y2) (y0,_,_)=>(y0,y1,y2)
 σ:= [(0,0)]
 rd:=na
theorem GK:LoopOk Tryz.prog (fun k=>Nat.blt k Tryz.f211.ntmps) ap.F (ay Tryz.f211 0):=by
 refine Lp.ok (tbl:= [Lo]) (lf:= []) ar ap (by kernel_rfl) (LOk.nil _) (fun _=>rfl) (fun j _=>by unfold ap;match j with | 0=>rfl | _ + 1=>rfl) ?_ ?_ ?_ ?_ (fun _=>rfl) ?_
 ·intro x;obtain⟨y0,y1,y2⟩:=x;kernel_rfl
 ·intro x;obtain⟨y0,y1,y2⟩:=x;kernel_rfl
 ·intro s x h
  have h:na s=some x:=h
  unfold na at h
  repeat' split at h
  all_goals cases h
  exact⟨aa (by assumption) rfl (aa (by assumption) rfl (aa (by assumption) rfl (aa (by assumption) rfl (rfl)))),ac rfl (by assumption) rfl (rfl)⟩
 ·intro x;obtain⟨y0,y1,y2⟩:=x;kernel_rfl
 ·intro x z;obtain⟨y0,y1,y2⟩:=x;exact(And.intro (And.intro trivial rfl) trivial)
section
variable (x0:List Int)
def kd:Int×Int×List Int:=((0:Int),(↑x0.length:Int),x0)
def pY:Int:=bif Nat.beq ((Lp.res ap (kd x0)).1) (0:Nat)then ((Lp.res ap (kd x0)).2).1else(-1:Int)
def pZ:Bool:=allT [Lp.fin ap (kd x0)]
end
def yh:List SV→List Entry→Option Out
 | [(.one ⟨false,[(.ref 0)]⟩),(.one ⟨false,[(.val (.func (.func 159) ⟨[]⟩ ⟨[]⟩))]⟩)],[(.row false 2 (.int .i64) x0)]=>some ⟨(.one ⟨false,[(.val (.int .i64 (pY x0)))]⟩),[(.row false 2 asZ x0)],[],[(pZ x0)]⟩
 |_,_=>none
def pV:PF Tryz.prog:=PF.ofG Tryz.prog [Lo] [ap.F] ar 211 Tryz.f211 Tryz.func211 (LOk.fnT (l:= [ay Tryz.f211 0]) (by kernel_rfl) (.cons GK (.nil _))) yh (by
 intro vs es r h;unfold yh at h;split at h
 ·cases h;kernel_rfl
 ·cases h)
def nV(x0:List Int):Bool:=leI (0:Int) (pY x0)
def nW(x0:List Int):Bool:=allT [pZ x0]
def vt:List SV→List Entry→Option Out
 | [(.one ⟨false,[(.ref 0)]⟩),(.one ⟨false,[(.val (.func (.func 159) ⟨[]⟩ ⟨[]⟩))]⟩)],[(.row false 2 (.int .i64) x0)]=>some ⟨(.one ⟨false,[(.val (.bool (nV x0)))]⟩),[(.row false 2 asZ x0)],[],[(nW x0)]⟩
 |_,_=>none
def nQ:PF Tryz.prog:=PF.ofG Tryz.prog [pV,PF.lend pV,PF.fz pV] [] ar 158 Tryz.f158 Tryz.func158 (fun c _=>LOk.nil c) vt (by
 intro vs es r h;unfold vt at h;split at h
 ·cases h;kernel_rfl
 ·cases h)
def PO(x0:List Int):Bool:= !nV x0
def PP(x0:List Int):Bool:=allT [nW x0]
def WY:List SV→List Entry→Option Out
 | [.one ⟨false,[.ref 0]⟩],[.row false 2 (.int .i64) x0]=>some ⟨(.one ⟨false,[(.val (.bool (PO x0)))]⟩),[(.row false 2 asZ x0)],[],[(PP x0)]⟩
 |_,_=>none
def aim:PF Tryz.prog:=PF.ofG Tryz.prog [afX,nQ,PF.lend nQ,PF.fz nQ] [] ar 64 Tryz.f64 Tryz.func64 (fun c _=>LOk.nil c) WY (by
 intro vs es r h;unfold WY at h;split at h
 ·cases h;kernel_rfl
 ·cases h)
def de(x0 x3:Int)(x4:List Int):Bool:=Option.getD x4[Int.toNat x3]? (0:Int)==IntKind.wrap .i64 (IntKind.wrap .i64 ((3:Int) * IntKind.wrap .i64 (x0 - (1:Int))) + (1:Int))
def Ai(x3:Int)(x4:List Int):Bool:=allT [leI (0:Int) x3,ltI x3 (↑x4.length:Int),ltN x3.toNat x4.length]
def Xr:List SV→List Entry→Option Out
 | [.one ⟨true,[.val (.int .i64 x0),.ref 0,.ref 1,.ref 2,.ref 3,.val (.int .i64 _x1),.ref 4,.ref 5,.val (.int .i64 _x2)]⟩,.one ⟨false,[.val (.int .i64 x3)]⟩],[.row false 2 (.int .i64) x4,.row false 169 (.pair (.int .i64) (.pair (.int .i64) (.int .i64))) x5,.row false 24 (.sl 2 (.int .i64)) x6,.row false 100 (.pair (.int .i64) (.pair (.int .i64) (.int .i64))) x7,.row false 173 (.pair (.int .i64) (.int .i64)) x8,.row false 176 (.pair (.int .i64) (.int .i64)) x9]=>some ⟨(.one ⟨false,[(.val (.bool (de x0 x3 x4)))]⟩),[(.row false 2 asZ x4),(.row false 169 asX x5),(.row false 24 (CTy.sl (2:TypeId) asZ) x6),(.row false 100 asX x7),(.row false 173 asY x8),(.row false 176 asY x9)],[],[(Ai x3 x4)]⟩
 |_,_=>none
def zW:PF Tryz.prog:=PF.ofG Tryz.prog [] [] ar 93 Tryz.f93 Tryz.func93 (fun c _=>LOk.nil c) Xr (by
 intro vs es r h;unfold Xr at h;split at h
 ·cases h;kernel_rfl
 ·cases h)
abbrev jJ:=Int×Int×List Int
section
variable (y0 y1:Int)(y2:List Int)
def uc:Int:=Option.getD y2[Int.toNat y0]? (0:Int)
def vk:Bool:=ltI y0 (↑y2.length:Int)
def BO:Bool:=leI (0:Int) y0
def BP:Bool:=ltN y0.toNat y2.length
def BQ:Int:=IntKind.wrap .i64 (y0 + (1:Int))
def BR:Int:=ak5 (uc y0 y2) y1 (uc y0 y2) y1
end
def adR:jJ→List (Nat×SV)
 |(y0,y1,_)=> [(4,(.one ⟨false,[(.val (.int .i64 y0))]⟩)),(0,(.one ⟨false,[(.ref 0)]⟩)),(3,(.one ⟨false,[(.val (.int .i64 y1))]⟩))]
def adI:jJ→List (Nat×Entry)
 |(_,_,y2)=> [(0,(.row false 2 asZ y2))]
def ad9:Nat→jJ→List (Nat×SV)
 |_,(_,y1,_)=> [(3,(.one ⟨false,[(.val (.int .i64 y1))]⟩))]
def ad0:Nat→jJ→List (Nat×Entry)
 |_,(_,_,y2)=> [(0,(.row false 2 asZ y2))]
def zg:jJ→LT jJ
 |(y0,y1,y2)=> .ite (vk y0 y2) (.need [(BO y0),(vk y0 y2),(BP y0 y2)] (.nrm ((BQ y0),(BR y0 y1 y2),y2) [(0,0)])) (.ext 0 [(0,0)])
def KX(s:St):Option jJ:=
 (match s.look 4 with
 |some ⟨none,(.one ⟨false,[(.val (.int .i64 y0))]⟩)⟩=>
 (match s.look 0 with
 |some ⟨none,(.one ⟨false,[(.ref 0)]⟩)⟩=>
 (match s.look 3 with
 |some ⟨none,(.one ⟨false,[(.val (.int .i64 y1))]⟩)⟩=>
 (match s.ent 0 with
 |some (.row false 2 (.int .i64) y2)=>
 some (y0,y1,y2)
 |_=>none)
 |_=>none)
 |_=>none)
 |_=>none)
def eR:Lp jJ where
 h:=⟨[8,9,10,11,14,15,16,17,18,19,3,12,13,4],[0],[],[]⟩
 JL:=adR
 JE:=adI
 XL:=ad9
 XE:=ad0
 q:=fun j=>match j with | _=> .exit 0
 tags:= [0]
 lt:=zg
 fuel:=fun(y0,y1,y2)=>y0.natAbs + y1.natAbs + y2.length
 fix:=fun(_,_,y2) (y0,y1,_)=>(y0,y1,y2)
 σ:= [(0,0)]
 rd:=KX
theorem abd:LoopOk Tryz.prog (fun k=>Nat.blt k Tryz.f176.ntmps) eR.F (ay Tryz.f176 0):=by
 refine Lp.ok (tbl:= []) (lf:= []) ar eR (by kernel_rfl) (LOk.nil _) (fun _=>rfl) (fun _ _=>rfl) ?_ ?_ ?_ ?_ (fun _=>rfl) ?_
 ·intro x;obtain⟨y0,y1,y2⟩:=x;kernel_rfl
 ·intro x;obtain⟨y0,y1,y2⟩:=x;kernel_rfl
 ·intro s x h
  have h:KX s=some x:=h
  unfold KX at h
  repeat' split at h
  all_goals cases h
  exact⟨aa (by assumption) rfl (aa (by assumption) rfl (aa (by assumption) rfl (rfl))),ac rfl (by assumption) rfl (rfl)⟩
 ·intro x;obtain⟨y0,y1,y2⟩:=x;kernel_rfl
 ·intro x z;obtain⟨y0,y1,y2⟩:=x;exact(And.intro rfl trivial)
section
variable (x0:List Int)
def FQ:Int×Int×List Int:=((1:Int),Option.getD x0[Int.toNat (0:Int)]? (0:Int),x0)
def xZ:Int:=((Lp.res eR (FQ x0)).2.2).1
def Hy:Bool:=allT [ltI (0:Int) (↑x0.length:Int),ltN (Int.toNat (0:Int)) x0.length,Lp.fin eR (FQ x0)]
end
def aag:List SV→List Entry→Option Out
 | [.one ⟨false,[.ref 0]⟩],[.row false 2 (.int .i64) x0]=>some ⟨(.one ⟨false,[(.val (.int .i64 (xZ x0)))]⟩),[(.row false 2 asZ x0)],[],[(Hy x0)]⟩
 |_,_=>none
def Sm:PF Tryz.prog:=PF.ofG Tryz.prog [] [eR.F] ar 176 Tryz.f176 Tryz.func176 (LOk.fnT (l:= [ay Tryz.f176 0]) (by kernel_rfl) (.cons abd (.nil _))) aag (by
 intro vs es r h;unfold aag at h;split at h
 ·cases h;kernel_rfl
 ·cases h)
end Go.SX

namespace Go.SX
open Go.Proofs
set_option maxRecDepth 100000
def NV(st:List Int):Bool:=st.all fun x=>x==2
def lM(b:Int):(Int)→Nat ⊕ (Int)
 |y1=>(.inr (ak5 b y1 b y1))
def ky(y2:List Int)(i:Nat):(Int)→jJ
 |y1=>(((i + 1:Nat):Int),y1,y2)
def KO:jJ→Int
 |(_,y1,_)=>y1
theorem UW(y2:List Int)(y1:Int)(hn:y2.length≤9223372036854775807):
  eR.fin ((1:Int),y1,y2)=true∧eR.res ((1:Int),y1,y2)=((ag (lM) 0 (y2.drop 1) 0 y1).1,(ky y2) (ag (lM) 0 (y2.drop 1) 0 y1).2.1 (ag (lM) 0 (y2.drop 1) 0 y1).2.2):=by
 have key:=eR.along (ky y2) KO (lM) 0 (fun _ _=>True) (y2.drop 1) y1 (by trivial) (by simp only [eR,ky,List.length_drop];omega) (fun i b a hb hI=> ?_) (fun a hI=> ?_)
 ·exact key
 ·obtain y1:=a
  rw [List.getElem?_drop,Nat.add_comm]at hb
  have hlt:=(List.getElem?_eq_some_iff.1 hb).1
  have hget: ∀ d,Option.getD y2[i + 1]? d=b:=fun d=>by rw [hb];rfl
  have hw:IntKind.i64.wrap (((i + 1:Nat):Int) + 1)=((i + 1 + 1:Nat):Int):=by rw [aA (by omega) (by omega)];omega
  have hdec:ltI ((i + 1:Nat):Int) (y2.length:Int)=true:=ce (by omega)
  have hnn:leI (0:Int) ((i + 1:Nat):Int)=true:=bH (by omega)
  have hltd:ltN (i + 1) y2.length=true:=cM hlt
  refine⟨?_,?_,?_,?_⟩
  ·simp only [uc,vk,BO,BP,BQ,BR,zg,eR,LT.nds,allT,ky,Int.toNat_natCast,hdec,hnn,hltd,hget,cond_true]
  ·simp only [uc,vk,BO,BP,BQ,BR,zg,eR,LT.each,ky,KO,hw,and_self]
  ·simp only [uc,vk,BO,BP,BQ,BR,zg,eR,LT.fn,ky,KO,lM,Int.toNat_natCast,hdec,hnn,hltd,hget,cond_true,Bool.cond_self]
  ·exact fun _ _=>trivial
 ·obtain y1:=a
  simp only [uc,vk,BO,BP,BQ,BR,zg,eR,LT.out,ky,List.length_drop];rw [show ltI (((y2.length - 1) + 1:Nat):Int) (y2.length:Int)=false from acZ (by omega)];rfl
def dn(b:Int):(Unit)→Nat ⊕ (Unit)
 |_=>(bif(vC b)then(.inl 0)else(.inr ()))
def bt(y2:List Int)(i:Nat):(Unit)→aW
 |_=>((i:Int),(↑y2.length:Int),y2)
def m8:aW→Unit
 |(_,_,_)=>()
theorem IP(y2:List Int) (hn:y2.length≤9223372036854775807):
  ap.fin ((0:Int),(↑y2.length:Int),y2)=true∧ap.res ((0:Int),(↑y2.length:Int),y2)=((ag (dn) 1 y2 0 ()).1,(bt y2) (ag (dn) 1 y2 0 ()).2.1 (ag (dn) 1 y2 0 ()).2.2):=by
 have key:=ap.along (bt y2) m8 (dn) 1 (fun _ _=>True) y2 () (by trivial) (by simp only [ap,bt];omega) (fun i b a hb hI=> ?_) (fun a hI=> ?_)
 ·exact key
 ·obtain⟨⟩:=a
  have hlt:=(List.getElem?_eq_some_iff.1 hb).1
  have hget: ∀ d,Option.getD y2[i]? d=b:=fun d=>by rw [hb];rfl
  have hw:=py hlt hn
  have hdec:ltI (i:Int) (y2.length:Int)=true:=ce (by omega)
  have hnn:leI (0:Int) (i:Int)=true:=bH (by omega)
  have hltd:ltN i y2.length=true:=cM hlt
  refine⟨?_,?_,?_,?_⟩
  ·simp [gd,ge,gf,gg,gh,gi,fD,ap,LT.nds,allT,bt,hdec,hnn,hltd,hget]
  ·simp [gd,ge,gf,gg,gh,gi,fD,ap,LT.each,bt,m8,hw]
  ·simp only [gd,ge,gf,gg,gh,gi,fD,ap,LT.fn,bt,m8,dn,Int.toNat_natCast,hdec,hnn,hltd,hget,cond_true,Bool.cond_self]
  ·exact fun _ _=>trivial
 ·obtain⟨⟩:=a
  simp [gd,ge,gf,gg,gh,gi,fD,ap,LT.out,bt]
theorem EW{st:List Int}:areR st=true↔(1≤st.length∧st.length≤12)∧ ∀ v∈st,0≤v∧v≤2:=by
 simp only [areR,Bool.and_eq_true,rh,List.all_eq_true]
 constructor
 ·rintro⟨h1,h2⟩;exact⟨by omega,h2⟩
 ·rintro⟨h1,h2⟩;exact⟨by omega,h2⟩
theorem aqL(st:List Int)(h:areR st=true):(xZ st==2)=NV st∧Hy st=true:=by
 obtain⟨h1,h2⟩:=EW.1 h
 match st,h1,h2 with
 |x::xs,h1,h2=>
  have hx:=h2 x (by simp)
  obtain⟨w1,w2⟩:=UW (x::xs) x (by omega)
  rw [iA (f:=lM) (g:=fun m b=>bif ltI b m then b else m) (fun b a=>by simp only [lM,amp])]at w2
  have e0:Option.getD (x::xs)[Int.toNat 0]? 0=x:=rfl
  refine⟨?_,?_⟩
  ·simp only [xZ,FQ,e0,w2,ky,List.drop_one,List.tail_cons]
   rw [ah5 xs x hx.1 hx.2 fun y hy=>h2 y (by simp [hy])]
   rfl
  ·simp only [Hy,FQ,e0,w1,allT]
   simp
theorem ak7(st:List Int)(h:leN st.length 9223372036854775807=true):PO st=NV st∧PP st=true:=by
 obtain⟨w1,w2⟩:=IP st (cu.1 h)
 rw [kf (P:=fun v=>v !=2) (j:=0) (fun v=>by simp only [dn,vC])]at w2
 have e5:(st.any fun v=>v !=2)= !NV st:=by simp [NV,List.all_eq_not_any_not,bne]
 rw [e5]at w2
 simp only [PO,PP,nV,nW,pY,pZ,kd,w1,w2,allT,bt]
 cases NV st with
 |true=>exact⟨rfl,rfl⟩
 |false=>
  simp only [Bool.not_false,cond_true,Nat.beq]
  rw [bH (by omega)];simp
def XA:List SV→List Entry→Option Out
 | [.one ⟨false,[.ref 0]⟩],[.row false 2 (.int .i64) x0]=>some ⟨(.one ⟨false,[(.val (.bool (NV x0)))]⟩),[(.row false 2 asZ x0)],[],[leN x0.length 9223372036854775807]⟩
 |_,_=>none
def zR:PF Tryz.prog:=PF.alt aim XA (by
 intro args es o h hnd;unfold XA at h;split at h
 ·rename_i x0
  cases h
  have hnd:=cf hnd
  have hh:=ak7 x0 hnd
  obtain⟨e0,en⟩:=hh
  exact eT rfl (cg en) (by simp only [e0] <;> rfl) rfl rfl
 ·cases h)
end Go.SX

namespace Go.SX
open Go.Proofs
set_option maxRecDepth 100000
def ad(x0 x3:Int)(x4:List Int):Bool:=Option.getD x4[Int.toNat x3]? (0:Int)==IntKind.wrap .i64 (IntKind.wrap .i64 ((3:Int) * IntKind.wrap .i64 (x0 - (1:Int))) + (1:Int))
def bA(x3:Int)(x4:List Int):Bool:=allT [leI (0:Int) x3,ltI x3 (↑x4.length:Int),ltN x3.toNat x4.length]
def sI:List SV→List Entry→Option Out
 | [.one ⟨true,[.val (.int .i64 x0),.ref 0,.ref 1,.ref 2,.ref 3,.val (.int .i64 _x1),.ref 4,.ref 5,.val (.int .i64 _x2)]⟩,.one ⟨false,[.val (.int .i64 x3)]⟩],[.row false 2 (.int .i64) x4,.row false 169 (.pair (.int .i64) (.pair (.int .i64) (.int .i64))) x5,.row false 24 (.sl 2 (.int .i64)) x6,.row false 100 (.pair (.int .i64) (.pair (.int .i64) (.int .i64))) x7,.row false 173 (.pair (.int .i64) (.int .i64)) x8,.row false 176 (.pair (.int .i64) (.int .i64)) x9]=>some ⟨(.one ⟨false,[(.val (.bool (ad x0 x3 x4)))]⟩),[(.row false 2 asZ x4),(.row false 169 asX x5),(.row false 24 (CTy.sl (2:TypeId) asZ) x6),(.row false 100 asX x7),(.row false 173 asY x8),(.row false 176 asY x9)],[],[(bA x3 x4)]⟩
 |_,_=>none
def cj:PF Tryz.prog:=PF.ofG Tryz.prog [] [] ar 63 Tryz.f63 Tryz.func63 (fun c _=>LOk.nil c) sI (by
 intro vs es r h;unfold sI at h;split at h
 ·cases h;kernel_rfl
 ·cases h)
end Go.SX

namespace Go.SX
open Go.Proofs
set_option maxRecDepth 100000
theorem Gz(x:Option (List Int)):Option.getD x (uq (CTy.sl (2:TypeId) asZ))=x.getD []:=rfl
end Go.SX

namespace Go.SX
open Go.Proofs
set_option maxRecDepth 100000
abbrev jE:=Int×Int×List Int×List Int
section
variable (y0 y1:Int)(y2 y3:List Int)
def tI:Int:=Option.getD y2[Int.toNat y0]? (0:Int)
def AD:Bool:=ltI y0 y1
def u0:Bool:=leI (0:Int) y0
def AE:Bool:=ltI y0 (↑y2.length:Int)
def AF:Bool:=ltN y0.toNat y2.length
def AG:Bool:=ltI y0 (↑y3.length:Int)
def AH:Bool:=ltN y0.toNat y3.length
def AJ:Int:=IntKind.wrap .i64 (y0 + (1:Int))
def AK:List Int:=List.set y3 y0.toNat (ak5 (1:Int) (tI y0 y2) (1:Int) (tI y0 y2))
end
def adL:jE→List (Nat×SV)
 |(y0,y1,_,_)=> [(17,(.one ⟨false,[(.val (.int .i64 y0))]⟩)),(16,(.one ⟨false,[(.val (.int .i64 y1))]⟩)),(15,(.one ⟨false,[(.ref 0)]⟩)),(5,(.one ⟨false,[(.ref 1)]⟩))]
def adC:jE→List (Nat×Entry)
 |(_,_,y2,y3)=> [(0,(.row true 2 asZ y2)),(1,(.row true 2 asZ y3))]
def ad3:Nat→jE→List (Nat×SV)
 |_,(_,_,_,_)=> []
def adU:Nat→jE→List (Nat×Entry)
 |_,(_,_,y2,y3)=> [(0,(.row true 2 asZ y2)),(1,(.row true 2 asZ y3))]
def za:jE→LT jE
 |(y0,y1,y2,y3)=> .ite (AD y0 y1) (.need [(u0 y0),(AE y0 y2),(AF y0 y2)] (.need [(u0 y0),(AG y0 y3),(AH y0 y3)] (.nrm ((AJ y0),y1,y2,(AK y0 y2 y3)) [(0,0),(1,1)]))) (.ext 0 [(0,0),(1,1)])
def KR(s:St):Option jE:=
 (match s.look 17 with
 |some ⟨none,(.one ⟨false,[(.val (.int .i64 y0))]⟩)⟩=>
 (match s.look 16 with
 |some ⟨none,(.one ⟨false,[(.val (.int .i64 y1))]⟩)⟩=>
 (match s.look 15 with
 |some ⟨none,(.one ⟨false,[(.ref 640)]⟩)⟩=>
 (match s.look 5 with
 |some ⟨none,(.one ⟨false,[(.ref 448)]⟩)⟩=>
 (match s.ent 640 with
 |some (.row true 2 (.int .i64) y2)=>
 (match s.ent 448 with
 |some (.row true 2 (.int .i64) y3)=>
 some (y0,y1,y2,y3)
 |_=>none)
 |_=>none)
 |_=>none)
 |_=>none)
 |_=>none)
 |_=>none)
def dH:Lp jE where
 h:=⟨[18,19,20,21,6,7,22,23,24,25,26,27,17],[0,1],[],[]⟩
 JL:=adL
 JE:=adC
 XL:=ad3
 XE:=adU
 q:=fun j=>match j with | _=> .exit 0
 tags:= [0]
 lt:=za
 fuel:=fun(y0,y1,y2,y3)=>y0.natAbs + y1.natAbs + y2.length + y3.length
 fix:=fun(_,y1,y2,_) (y0,_,_,y3)=>(y0,y1,y2,y3)
 σ:= [(0,640),(1,448)]
 rd:=KR
theorem aa7:LoopOk Tryz.prog (fun k=>Nat.blt k Tryz.f202.ntmps) dH.F (ay Tryz.f202 0):=by
 refine Lp.ok (tbl:= [aj,PF.lend aj,PF.fz aj,bg,PF.lend bg,PF.fz bg]) (lf:= []) ar dH (by kernel_rfl) (LOk.nil _) (fun _=>rfl) (fun _ _=>rfl) ?_ ?_ ?_ ?_ (fun _=>rfl) ?_
 ·intro x;obtain⟨y0,y1,y2,y3⟩:=x;kernel_rfl
 ·intro x;obtain⟨y0,y1,y2,y3⟩:=x;kernel_rfl
 ·intro s x h
  have h:KR s=some x:=h
  unfold KR at h
  repeat' split at h
  all_goals cases h
  exact⟨aa (by assumption) rfl (aa (by assumption) rfl (aa (by assumption) rfl (aa (by assumption) rfl (rfl)))),ac rfl (by assumption) rfl (ac rfl (by assumption) rfl (rfl))⟩
 ·intro x;obtain⟨y0,y1,y2,y3⟩:=x;kernel_rfl
 ·intro x z;obtain⟨y0,y1,y2,y3⟩:=x;exact(And.intro rfl trivial)
abbrev jF:=Int×Int×List (Int×(Int×Int))×List Int×List Int
section
variable (y0 y1:Int)(y2:List (Int×(Int×Int)))(y3 y4:List Int)
def dF:Int×Int×Int:=Option.getD y2[Int.toNat y0]? ((0:Int),(0:Int),(0:Int))
def gj:Bool:=((dF y0 y2).2).1==(0:Int)
def tJ:Bool:=leI (0:Int) ((dF y0 y2).1)
def AL:Bool:=ltI y0 y1
def AM:Bool:=leI (0:Int) y0
def AO:Bool:=ltI y0 (↑y2.length:Int)
def AP:Bool:=ltN y0.toNat y2.length
def AQ:Bool:= !gj y0 y2||tJ y0 y2
def AR:Bool:= !gj y0 y2||ltI ((dF y0 y2).1) (↑y3.length:Int)
def AU:Bool:= !gj y0 y2||ltN (Int.toNat ((dF y0 y2).1)) y3.length
def AV:Bool:=gj y0 y2||tJ y0 y2
def AW:Bool:=gj y0 y2||ltI ((dF y0 y2).1) (↑y4.length:Int)
def AX:Bool:=gj y0 y2||ltN (Int.toNat ((dF y0 y2).1)) y4.length
def ym:Int:=IntKind.wrap .i64 (y0 + (1:Int))
def yo:List Int:=bif gj y0 y2 then List.set y3 (Int.toNat ((dF y0 y2).1)) ((dF y0 y2).2.2)else y3
def yp:List Int:=bif gj y0 y2 then y4 else List.set y4 (Int.toNat ((dF y0 y2).1)) ((dF y0 y2).2.2)
end
def adM:jF→List (Nat×SV)
 |(y0,y1,_,_,_)=> [(34,(.one ⟨false,[(.val (.int .i64 y0))]⟩)),(33,(.one ⟨false,[(.val (.int .i64 y1))]⟩)),(32,(.one ⟨false,[(.ref 0)]⟩)),(8,(.one ⟨false,[(.ptr 1 0)]⟩))]
def adD:jF→List (Nat×Entry)
 |(_,_,y2,y3,y4)=> [(0,(.row false 169 asX y2)),(1,(.box 130 [(.ref 2),(.ref 3)])),(2,(.row true 2 asZ y3)),(3,(.row true 2 asZ y4))]
def ad4:Nat→jF→List (Nat×SV)
 |_,(_,_,_,_,_)=> []
def adV:Nat→jF→List (Nat×Entry)
 |_,(_,_,y2,y3,y4)=> [(0,(.row false 169 asX y2)),(1,(.box 130 [(.ref 2),(.ref 3)])),(2,(.row true 2 asZ y3)),(3,(.row true 2 asZ y4))]
def zb:jF→LT jF
 |(y0,y1,y2,y3,y4)=> .ite (AL y0 y1) (.need [(AM y0),(AO y0 y2),(AP y0 y2)] (.need [(AQ y0 y2),(AR y0 y2 y3),(AU y0 y2 y3),(AV y0 y2),(AW y0 y2 y4),(AX y0 y2 y4)] (.nrm ((ym y0),y1,y2,(yo y0 y2 y3),(yp y0 y2 y4)) [(0,0),(1,1),(2,2),(3,3)]))) (.ext 0 [(0,0),(1,1),(2,2),(3,3)])
def KS(s:St):Option jF:=
 (match s.look 34 with
 |some ⟨none,(.one ⟨false,[(.val (.int .i64 y0))]⟩)⟩=>
 (match s.look 33 with
 |some ⟨none,(.one ⟨false,[(.val (.int .i64 y1))]⟩)⟩=>
 (match s.look 32 with
 |some ⟨none,(.one ⟨false,[(.ref 1)]⟩)⟩=>
 (match s.look 8 with
 |some ⟨none,(.one ⟨false,[(.ptr 1152 0)]⟩)⟩=>
 (match s.ent 1 with
 |some (.row false 169 (.pair (.int .i64) (.pair (.int .i64) (.int .i64))) y2)=>
 (match s.ent 1152 with
 |some (.box 130 [(.ref 448),(.ref 1024)])=>
 (match s.ent 448 with
 |some (.row true 2 (.int .i64) y3)=>
 (match s.ent 1024 with
 |some (.row true 2 (.int .i64) y4)=>
 some (y0,y1,y2,y3,y4)
 |_=>none)
 |_=>none)
 |_=>none)
 |_=>none)
 |_=>none)
 |_=>none)
 |_=>none)
 |_=>none)
def dI:Lp jF where
 h:=⟨[35,36,37,10,38,39,40,41,42,43,44,45,46,47,48,49,50,51,52,53,54,55,34],[0,1,2,3],[],[]⟩
 JL:=adM
 JE:=adD
 XL:=ad4
 XE:=adV
 q:=fun j=>match j with | _=> .exit 2
 tags:= [0]
 lt:=zb
 fuel:=fun(y0,y1,y2,y3,y4)=>y0.natAbs + y1.natAbs + y2.length + y3.length + y4.length
 fix:=fun(_,y1,y2,_,_) (y0,_,_,y3,y4)=>(y0,y1,y2,y3,y4)
 σ:= [(0,1),(1,1152),(2,448),(3,1024)]
 rd:=KS
theorem aa8:LoopOk Tryz.prog (fun k=>Nat.blt k Tryz.f202.ntmps) dI.F (ay Tryz.f202 1):=by
 refine Lp.ok (tbl:= [aj,PF.lend aj,PF.fz aj,bg,PF.lend bg,PF.fz bg]) (lf:= []) ar dI (by kernel_rfl) (LOk.nil _) (fun _=>rfl) (fun _ _=>rfl) ?_ ?_ ?_ ?_ (fun _=>rfl) ?_
 ·intro x;obtain⟨y0,y1,y2,y3,y4⟩:=x;kernel_rfl
 ·intro x;obtain⟨y0,y1,y2,y3,y4⟩:=x;kernel_rfl
 ·intro s x h
  have h:KS s=some x:=h
  unfold KS at h
  repeat' split at h
  all_goals cases h
  exact⟨aa (by assumption) rfl (aa (by assumption) rfl (aa (by assumption) rfl (aa (by assumption) rfl (rfl)))),ac rfl (by assumption) rfl (ac rfl (by assumption) rfl (ac rfl (by assumption) rfl (ac rfl (by assumption) rfl (rfl))))⟩
 ·intro x;obtain⟨y0,y1,y2,y3,y4⟩:=x;kernel_rfl
 ·intro x z;obtain⟨y0,y1,y2,y3,y4⟩:=x;exact(And.intro rfl trivial)
section
variable (x0:Int)(x1:List Int)(x2:List (Int×Int×Int))
def Km:Int×Int×List Int×List Int:=((0:Int),(↑(List.length (sH x0 x1)):Int),sH x0 x1,List.replicate x0.toNat (0:Int))
def zI:List Int:=(Lp.res dH (Km x0 x1)).2.2.2.2
def Fd:Int×Int×List (Int×Int×Int)×List Int×List Int:=((0:Int),(↑x2.length:Int),x2,zI x0 x1,zI x0 x1)
def Kn:List Int×List Int:=(Lp.res dI (Fd x0 x1 x2)).2.2.2.2
def RW:List Int:=(Kn x0 x1 x2).1
def RY:List Int:=(Kn x0 x1 x2).2
def RZ:Bool:=allT [leI (0:Int) x0,leI x0 x0,leI ((↑(8:Nat):Int) * x0) (281474976710656:Int),leI x0 (9223372036854775807:Int),isT x0 x1,Lp.fin dH (Km x0 x1),leN (1:Nat) (List.length (zI x0 x1))&&leN (List.length (zI x0 x1)) (1048576:Nat),Lp.fin dI (Fd x0 x1 x2)]
end
def ZW:List SV→List Entry→Option Out
 | [.one ⟨true,[.val (.int .i64 x0),.ref 0]⟩,.one ⟨false,[.ref 1]⟩],[.row false 2 (.int .i64) x1,.row false 169 (.pair (.int .i64) (.pair (.int .i64) (.int .i64))) x2]=>some ⟨(.one ⟨true,[(.ref 2),(.ref 3)]⟩),[(.row false 2 asZ x1),(.row false 169 asX x2)],[(.row true 2 asZ (RW x0 x1 x2)),(.row true 2 asZ (RY x0 x1 x2))],[(RZ x0 x1 x2)]⟩
 |_,_=>none
def ajx:PF Tryz.prog:=PF.ofG Tryz.prog [aj,PF.lend aj,PF.fz aj,bg,PF.lend bg,PF.fz bg] [dH.F,dI.F] ar 202 Tryz.f202 Tryz.func202 (LOk.fnT (l:= [ay Tryz.f202 0,ay Tryz.f202 1]) (by kernel_rfl) (.cons aa7 (.cons aa8 (.nil _)))) ZW (by
 intro vs es r h;unfold ZW at h;split at h
 ·cases h;kernel_rfl
 ·cases h)
section
variable (x0:Int)(x1 x2:List Int)
def eq:Bool:=Option.getD x1[Int.toNat x0]? (0:Int)==(0:Int)
def lX:Bool:=bif eq x0 x1 then Option.getD x2[Int.toNat x0]? (0:Int)==(0:Int)else false
def lY:Bool:=allT [leI (0:Int) x0,ltI x0 (↑x1.length:Int),ltN x0.toNat x1.length,!(eq x0 x1&&true)||leI (0:Int) x0,!(eq x0 x1&&true)||ltI x0 (↑x2.length:Int),!(eq x0 x1&&true)||ltN x0.toNat x2.length]
end
def ud:List SV→List Entry→Option Out
 | [.one ⟨true,[.ref 0,.ref 1]⟩,.one ⟨false,[.val (.int .i64 x0)]⟩],[.row false 2 (.int .i64) x1,.row false 2 (.int .i64) x2]=>some ⟨(.one ⟨false,[(.val (.bool (lX x0 x1 x2)))]⟩),[(.row false 2 asZ x1),(.row false 2 asZ x2)],[],[(lY x0 x1 x2)]⟩
 |_,_=>none
def l9:PF Tryz.prog:=PF.ofG Tryz.prog [] [] ar 233 Tryz.f233 Tryz.func233 (fun c _=>LOk.nil c) ud (by
 intro vs es r h;unfold ud at h;split at h
 ·cases h;kernel_rfl
 ·cases h)
section
variable (x0 x1:Int)(x2 x3 x4:List Int)
def ic:Int:=Option.getD x4[Int.toNat x1]? (0:Int)
def et:Bool:=Int.tmod (ic x1 x4) (3:Int)!=(1:Int)
def ie:Int:=Int.tmod (IntKind.wrap .i64 (IntKind.wrap .i64 (Int.tdiv (ic x1 x4) (3:Int)) + (1:Int))) x0
def lZ:Bool:=bif et x1 x4 then true else lX (ie x0 x1 x4) x2 x3
def l4:Bool:=allT [leI (0:Int) x1,ltI x1 (↑x4.length:Int),ltN x1.toNat x4.length,!(!et x1 x4&&true)||neI (3:Int) (0:Int),!(!et x1 x4&&true)||neI x0 (0:Int),!(!et x1 x4&&true)||lY (ie x0 x1 x4) x2 x3]
end
def ue:List SV→List Entry→Option Out
 | [.one ⟨true,[.ref 0,.ref 1]⟩,.one ⟨true,[.val (.int .i64 x0),.ref 2]⟩,.one ⟨false,[.val (.int .i64 x1)]⟩],[.row false 2 (.int .i64) x2,.row false 2 (.int .i64) x3,.row false 2 (.int .i64) x4]=>some ⟨(.one ⟨false,[(.val (.bool (lZ x0 x1 x2 x3 x4)))]⟩),[(.row false 2 asZ x2),(.row false 2 asZ x3),(.row false 2 asZ x4)],[],[(l4 x0 x1 x2 x3 x4)]⟩
 |_,_=>none
def Hi:PF Tryz.prog:=PF.ofG Tryz.prog [l9,PF.lend l9,PF.fz l9] [] ar 203 Tryz.f203 Tryz.func203 (fun c _=>LOk.nil c) ue (by
 intro vs es r h;unfold ue at h;split at h
 ·cases h;kernel_rfl
 ·cases h)
section
variable (x0 x1:Int)(x2 x3 x4:List Int)
def GS:Int:=Option.getD x2[Int.toNat x1]? (0:Int)
def rD:Bool:=Int.tmod (GS x1 x2) (3:Int)!=(1:Int)
def lV:Int:=Int.tmod (IntKind.wrap .i64 (IntKind.wrap .i64 (Int.tdiv (GS x1 x2) (3:Int)) + (1:Int))) x0
def MS:Bool:= !(!rD x1 x2&&true)||leI (0:Int) (lV x0 x1 x2)
def OH:Bool:=bif rD x1 x2 then true else IntKind.wrap .i64 (Option.getD x3[Int.toNat (lV x0 x1 x2)]? (0:Int) + Option.getD x4[Int.toNat (lV x0 x1 x2)]? (0:Int))==(0:Int)
def OI:Bool:=allT [leI (0:Int) x1,ltI x1 (↑x2.length:Int),ltN x1.toNat x2.length,neI x0 (0:Int),leI (0:Int) x1,ltI x1 (↑x2.length:Int),ltN x1.toNat x2.length,MS x0 x1 x2,!(!rD x1 x2&&true)||ltI (lV x0 x1 x2) (↑x3.length:Int),!(!rD x1 x2&&true)||ltN (Int.toNat (lV x0 x1 x2)) x3.length,MS x0 x1 x2,!(!rD x1 x2&&true)||ltI (lV x0 x1 x2) (↑x4.length:Int),!(!rD x1 x2&&true)||ltN (Int.toNat (lV x0 x1 x2)) x4.length]
end
def VJ:List SV→List Entry→Option Out
 | [.one ⟨true,[.val (.int .i64 x0),.ref 0]⟩,.one ⟨true,[.ref 1,.ref 2]⟩,.one ⟨false,[.val (.int .i64 x1)]⟩],[.row false 2 (.int .i64) x2,.row false 2 (.int .i64) x3,.row false 2 (.int .i64) x4]=>some ⟨(.one ⟨false,[(.val (.bool (OH x0 x1 x2 x3 x4)))]⟩),[(.row false 2 asZ x2),(.row false 2 asZ x3),(.row false 2 asZ x4)],[],[(OI x0 x1 x2 x3 x4)]⟩
 |_,_=>none
def ahl:PF Tryz.prog:=PF.ofG Tryz.prog [] [] ar 221 Tryz.f221 Tryz.func221 (fun c _=>LOk.nil c) VJ (by
 intro vs es r h;unfold VJ at h;split at h
 ·cases h;kernel_rfl
 ·cases h)
abbrev io:=Int×Int×List Int×List Int
section
variable (y0 y1:Int)(y2 y3:List Int)
def nb:List Int:= [ak5 (↑(Zg y1 y3 y0):Int) (1:Int) (↑(Zg y1 y3 y0):Int) (1:Int)]
def wJ:Bool:=ltI y0 y1
def wK:Bool:=isT y1 y3
def wL:Bool:=leN (List.length y2 + List.length (nb y0 y1 y3)) (9223372036854775807:Nat)
def wM:Bool:=leN ((List.length y2 + List.length (nb y0 y1 y3)) * (8:Nat)) (140737488355328:Nat)
def wN:Int:=IntKind.wrap .i64 (y0 + (1:Int))
def wO:List Int:=y2++nb y0 y1 y3
end
def aaL:io→List (Nat×SV)
 |(y0,_,_,_)=> [(8,(.one ⟨false,[(.val (.int .i64 y0))]⟩)),(3,(.one ⟨false,[(.ptr 0 0)]⟩)),(7,(.one ⟨false,[(.ref 1)]⟩))]
def aaD:io→List (Nat×Entry)
 |(_,y1,y2,y3)=> [(0,(.box 26 [(.val (.int .i64 y1)),(.ref 2)])),(2,(.row false 2 asZ y3)),(1,(.row true 2 asZ y2))]
def aa1:Nat→io→List (Nat×SV)
 |_,(_,_,_,_)=> [(7,(.one ⟨false,[(.ref 1)]⟩))]
def aaT:Nat→io→List (Nat×Entry)
 |_,(_,y1,y2,y3)=> [(0,(.box 26 [(.val (.int .i64 y1)),(.ref 2)])),(1,(.row true 2 asZ y2)),(2,(.row false 2 asZ y3))]
def uL:io→LT io
 |(y0,y1,y2,y3)=> .ite (wJ y0 y1) (.need [(wK y1 y3),(wL y0 y1 y2 y3),(wM y0 y1 y2 y3)] (.nrm ((wN y0),y1,(wO y0 y1 y2 y3),y3) [(0,0),(1,704),(2,2)])) (.ext 0 [(0,0),(1,1),(2,2)])
def Io(s:St):Option io:=
 (match s.look 8 with
 |some ⟨none,(.one ⟨false,[(.val (.int .i64 y0))]⟩)⟩=>
 (match s.look 3 with
 |some ⟨none,(.one ⟨false,[(.ptr 192 0)]⟩)⟩=>
 (match s.look 7 with
 |some ⟨none,(.one ⟨false,[(.ref 320)]⟩)⟩=>
 (match s.ent 192 with
 |some (.box 26 [(.val (.int .i64 y1)),(.ref 0)])=>
 (match s.ent 0 with
 |some (.row false 2 (.int .i64) y3)=>
 (match s.ent 320 with
 |some (.row true 2 (.int .i64) y2)=>
 some (y0,y1,y2,y3)
 |_=>none)
 |_=>none)
 |_=>none)
 |_=>none)
 |_=>none)
 |_=>none)
def bQ:Lp io where
 h:=⟨[11,12,13,14,17,18,19,20,21,22,23,7,15,16,8],[0,2],[1],[]⟩
 JL:=aaL
 JE:=aaD
 XL:=aa1
 XE:=aaT
 q:=fun j=>match j with | _=> .exit 0
 tags:= [0]
 lt:=uL
 fuel:=fun(y0,y1,y2,y3)=>y0.natAbs + y1.natAbs + y2.length + y3.length
 fix:=fun(_,y1,_,y3) (y0,_,y2,_)=>(y0,y1,y2,y3)
 σ:= [(0,192),(2,0),(1,320)]
 rd:=Io
theorem Yp:LoopOk Tryz.prog (fun k=>Nat.blt k Tryz.f238.ntmps) bQ.F (ay Tryz.f238 0):=by
 refine Lp.ok (tbl:= [ro,PF.lend ro,PF.fz ro]) (lf:= []) ar bQ (by kernel_rfl) (LOk.nil _) (fun _=>rfl) (fun _ _=>rfl) ?_ ?_ ?_ ?_ (fun _=>rfl) ?_
 ·intro x;obtain⟨y0,y1,y2,y3⟩:=x;kernel_rfl
 ·intro x;obtain⟨y0,y1,y2,y3⟩:=x;kernel_rfl
 ·intro s x h
  have h:Io s=some x:=h
  unfold Io at h
  repeat' split at h
  all_goals cases h
  exact⟨aa (by assumption) rfl (aa (by assumption) rfl (aa (by assumption) rfl (rfl))),ac rfl (by assumption) rfl (ac rfl (by assumption) rfl (ac rfl (by assumption) rfl (rfl)))⟩
 ·intro x;obtain⟨y0,y1,y2,y3⟩:=x;kernel_rfl
 ·intro x z;obtain⟨y0,y1,y2,y3⟩:=x;exact(And.intro rfl trivial)
abbrev ip:=Int×Int×List (Int×(Int×Int))×List Int
section
variable (y0 y1:Int)(y2:List (Int×(Int×Int)))(y3:List Int)
def gN:Int×Int×Int:=Option.getD y2[Int.toNat y0]? ((0:Int),(0:Int),(0:Int))
def fG:Bool:=((gN y0 y2).2).1==y1
def sn:Bool:=ltI y0 (↑y2.length:Int)
def wP:Bool:=leI (0:Int) y0
def wQ:Bool:=ltN y0.toNat y2.length
def sq:Bool:= !fG y0 y1 y2||leI (0:Int) y0
def sr:Bool:= !fG y0 y1 y2||ltI y0 (↑y2.length:Int)
def su:Bool:= !fG y0 y1 y2||ltN y0.toNat y2.length
def wR:Bool:= !fG y0 y1 y2||leI (0:Int) ((gN y0 y2).1)
def wS:Bool:= !fG y0 y1 y2||ltI ((gN y0 y2).1) (↑y3.length:Int)
def wT:Bool:= !fG y0 y1 y2||ltN (Int.toNat ((gN y0 y2).1)) y3.length
def wU:Int:=IntKind.wrap .i64 (y0 + (1:Int))
def uS:List Int:=bif fG y0 y1 y2 then List.set y3 (Int.toNat ((gN y0 y2).1)) ((gN y0 y2).2.2)else y3
end
def aaM:ip→List (Nat×SV)
 |(y0,y1,_,_)=> [(9,(.one ⟨false,[(.val (.int .i64 y0))]⟩)),(1,(.one ⟨false,[(.ref 0)]⟩)),(2,(.one ⟨false,[(.val (.int .i64 y1))]⟩)),(7,(.one ⟨false,[(.ref 1)]⟩))]
def aaE:ip→List (Nat×Entry)
 |(_,_,y2,y3)=> [(0,(.row false 169 asX y2)),(1,(.row true 2 asZ y3))]
def aa2:Nat→ip→List (Nat×SV)
 |_,(_,_,_,_)=> []
def aaU:Nat→ip→List (Nat×Entry)
 |_,(_,_,y2,y3)=> [(0,(.row false 169 asX y2)),(1,(.row true 2 asZ y3))]
def uN:ip→LT ip
 |(y0,y1,y2,y3)=> .ite (sn y0 y2) (.need [(wP y0),(sn y0 y2),(wQ y0 y2)] (.need [(sq y0 y1 y2),(sr y0 y1 y2),(su y0 y1 y2),(sq y0 y1 y2),(sr y0 y1 y2),(su y0 y1 y2),(wR y0 y1 y2),(wS y0 y1 y2 y3),(wT y0 y1 y2 y3)] (.nrm ((wU y0),y1,y2,(uS y0 y1 y2 y3)) [(0,0),(1,1)]))) (.ext 0 [(0,0),(1,1)])
def Ip(s:St):Option ip:=
 (match s.look 9 with
 |some ⟨none,(.one ⟨false,[(.val (.int .i64 y0))]⟩)⟩=>
 (match s.look 1 with
 |some ⟨none,(.one ⟨false,[(.ref 1)]⟩)⟩=>
 (match s.look 2 with
 |some ⟨none,(.one ⟨false,[(.val (.int .i64 y1))]⟩)⟩=>
 (match s.look 7 with
 |some ⟨none,(.one ⟨false,[(.ref 512)]⟩)⟩=>
 (match s.ent 1 with
 |some (.row false 169 (.pair (.int .i64) (.pair (.int .i64) (.int .i64))) y2)=>
 (match s.ent 512 with
 |some (.row true 2 (.int .i64) y3)=>
 some (y0,y1,y2,y3)
 |_=>none)
 |_=>none)
 |_=>none)
 |_=>none)
 |_=>none)
 |_=>none)
def cz:Lp ip where
 h:=⟨[24,25,26,27,30,31,32,33,34,35,36,37,38,39,40,41,42,43,44,45,46,47,48,28,29,9],[0,1],[],[]⟩
 JL:=aaM
 JE:=aaE
 XL:=aa2
 XE:=aaU
 q:=fun j=>match j with | _=> .exit 2
 tags:= [0]
 lt:=uN
 fuel:=fun(y0,y1,y2,y3)=>y0.natAbs + y1.natAbs + y2.length + y3.length
 fix:=fun(_,y1,y2,_) (y0,_,_,y3)=>(y0,y1,y2,y3)
 σ:= [(0,1),(1,512)]
 rd:=Ip
theorem Yq:LoopOk Tryz.prog (fun k=>Nat.blt k Tryz.f238.ntmps) cz.F (ay Tryz.f238 1):=by
 refine Lp.ok (tbl:= [ro,PF.lend ro,PF.fz ro]) (lf:= []) ar cz (by kernel_rfl) (LOk.nil _) (fun _=>rfl) (fun _ _=>rfl) ?_ ?_ ?_ ?_ (fun _=>rfl) ?_
 ·intro x;obtain⟨y0,y1,y2,y3⟩:=x;kernel_rfl
 ·intro x;obtain⟨y0,y1,y2,y3⟩:=x;kernel_rfl
 ·intro s x h
  have h:Ip s=some x:=h
  unfold Ip at h
  repeat' split at h
  all_goals cases h
  exact⟨aa (by assumption) rfl (aa (by assumption) rfl (aa (by assumption) rfl (aa (by assumption) rfl (rfl)))),ac rfl (by assumption) rfl (ac rfl (by assumption) rfl (rfl))⟩
 ·intro x;obtain⟨y0,y1,y2,y3⟩:=x;kernel_rfl
 ·intro x z;obtain⟨y0,y1,y2,y3⟩:=x;exact(And.intro rfl trivial)
section
variable (x0 x1:Int)(x2:List Int)(x3:List (Int×Int×Int))
def BK:Int×Int×List Int×List Int:=((0:Int),x0,[],x2)
def BL:Int×Int×List (Int×Int×Int)×List Int:=((0:Int),x1,x3,((Lp.res bQ (BK x0 x2)).2.2.2).1)
def DI:List Int:=(Lp.res cz (BL x0 x1 x2 x3)).2.2.2.2
def DJ:Bool:=allT [Lp.fin bQ (BK x0 x2),Lp.fin cz (BL x0 x1 x2 x3)]
end
def VI:List SV→List Entry→Option Out
 | [.one ⟨true,[.val (.int .i64 x0),.ref 0]⟩,.one ⟨false,[.ref 1]⟩,.one ⟨false,[.val (.int .i64 x1)]⟩],[.row false 2 (.int .i64) x2,.row false 169 (.pair (.int .i64) (.pair (.int .i64) (.int .i64))) x3]=>some ⟨(.one ⟨false,[(.ref 2)]⟩),[(.row false 2 asZ x2),(.row false 169 asX x3)],[(.row true 2 asZ (DI x0 x1 x2 x3))],[(DJ x0 x1 x2 x3)]⟩
 |_,_=>none
def Oh:PF Tryz.prog:=PF.ofG Tryz.prog [ro,PF.lend ro,PF.fz ro] [bQ.F,cz.F] ar 238 Tryz.f238 Tryz.func238 (LOk.fnT (l:= [ay Tryz.f238 0,ay Tryz.f238 1]) (by kernel_rfl) (.cons Yp (.cons Yq (.nil _)))) VI (by
 intro vs es r h;unfold VI at h;split at h
 ·cases h;kernel_rfl
 ·cases h)
section
variable (x0:Int)(x1:List Int)(x2:List (Int×Int×Int))
def YM:List Int:=DI x0 (0:Int) x1 x2
def YN:List Int:=DI x0 (1:Int) x1 x2
def QJ:Bool:=allT [DJ x0 (0:Int) x1 x2,DJ x0 (1:Int) x1 x2]
end
def Xq:List SV→List Entry→Option Out
 | [.one ⟨true,[.val (.int .i64 x0),.ref 0]⟩,.one ⟨false,[.ref 1]⟩],[.row false 2 (.int .i64) x1,.row false 169 (.pair (.int .i64) (.pair (.int .i64) (.int .i64))) x2]=>some ⟨(.one ⟨true,[(.ref 2),(.ref 3)]⟩),[(.row false 2 asZ x1),(.row false 169 asX x2)],[(.row true 2 asZ (YM x0 x1 x2)),(.row true 2 asZ (YN x0 x1 x2))],[(QJ x0 x1 x2)]⟩
 |_,_=>none
def aiC:PF Tryz.prog:=PF.ofG Tryz.prog [Oh,PF.lend Oh,PF.fz Oh] [] ar 222 Tryz.f222 Tryz.func222 (fun c _=>LOk.nil c) Xq (by
 intro vs es r h;unfold Xq at h;split at h
 ·cases h;kernel_rfl
 ·cases h)
end Go.SX

namespace Go.SX
open Go.Proofs
set_option maxRecDepth 100000
def occ(c:Int):Int:=bif ltI c 1 then c else 1
def af4(ch:Int)(l:List Int)(f:Int×Int×Int):List Int:=bif f.2.1==ch then l.set f.1.toNat f.2.2 else l
def aeS(n:Int)(ps:List Int):List Int:=(List.range n.toNat).map fun(b:Nat)=>occ (Zg n ps (b:Int):Int)
def Eu(n:Int)(ps:List Int)(fs:List (Int×Int×Int))(ch:Int):List Int:=fs.foldl (af4 ch) (aeS n ps)
def anK(n:Int)(a:List Int):Bool:=eqI (a.length:Int) n&&a.all fun v=>inR v 0 1
theorem anU(ch:Int)(l:List Int)(f:Int×Int×Int):(af4 ch l f).length=l.length:=by
 unfold af4;cases f.2.1==ch <;> simp
theorem NC(n:Int)(ps:List Int):(aeS n ps).length=n.toNat:=by simp [aeS]
theorem PI(ch:Int): ∀ (fs:List (Int×Int×Int)) (l:List Int),(fs.foldl (af4 ch) l).length=l.length
 | [],l=>rfl
 |f::fs,l=>by rw [List.foldl_cons,PI ch fs,anU]
theorem amb(n:Int)(ps:List Int)(fs:List (Int×Int×Int))(ch:Int):(Eu n ps fs ch).length=n.toNat:=by
 rw [Eu,PI,NC]
theorem arB{n:Int}{fs:List (Int×Int×Int)}(h2:2≤n∧n≤8)(h:okFs n fs=true):fs.length≤8∧ ∀ f∈fs,(0≤f.1∧f.1 < n)∧(f.2.1=0∨f.2.1=1)∧(0≤f.2.2∧f.2.2≤1):=by
 simp only [okFs,Bool.and_eq_true,cu,List.all_eq_true,List.mem_range]at h
 refine⟨h.1,fun f hf=> ?_⟩
 obtain⟨b,hb,rfl⟩:=List.getElem_of_mem hf
 have h3:=h.2 b hb
 simp only [Bool.not_eq_true',Bool.or_eq_false_iff,afL,fAt,List.getElem?_eq_getElem hb,Option.getD_some,Bool.not_eq_false']at h3
 have h4:=h3.1
 simp only [fIn,Bool.and_eq_true,rh]at h4
 rw [aA (by omega) (by omega)]at h4
 omega
def fV(n:Int)(f:Int×Int×Int):Bool:=(leI 0 f.1&&ltI f.1 n)&&((f.2.1==0||f.2.1==1)&&inR f.2.2 0 1)
def ah1(n:Int)(fs:List (Int×Int×Int)):Bool:=leN fs.length 1000&&fs.all (fV n)
theorem amt{n:Int}{fs:List (Int×Int×Int)}(h:ah1 n fs=true):fs.length≤1000∧ ∀ f∈fs,(0≤f.1∧f.1 < n)∧(f.2.1=0∨f.2.1=1)∧(0≤f.2.2∧f.2.2≤1):=by
 simp only [ah1,Bool.and_eq_true,cu,List.all_eq_true]at h
 refine⟨h.1,fun f hf=> ?_⟩
 have h3:=h.2 f hf
 simp only [fV,Bool.and_eq_true,Bool.or_eq_true,beq_iff_eq,rh,Td,ag4]at h3
 exact h3
theorem arq{n:Int}{fs:List (Int×Int×Int)}(h2:2≤n∧n≤8)(h:okFs n fs=true):ah1 n fs=true:=by
 obtain⟨hl,hf⟩:=arB h2 h
 simp only [ah1,Bool.and_eq_true,cu,List.all_eq_true]
 refine⟨by omega,fun f hm=> ?_⟩
 simp only [fV,Bool.and_eq_true,Bool.or_eq_true,beq_iff_eq,rh,Td,ag4]
 exact hf f hm
theorem Tk{B C:Type}(g:B→C): ∀ (r:List B) (a:List C),r.foldl (fun a b=>a++ [g b]) a=a++r.map g
 | [],a=>by simp
 |b::r,a=>by rw [List.foldl_cons,Tk g r];simp
theorem asD(c:Int):ak5 c 1 c 1=occ c:=by simp [occ]
theorem asE(c:Int):ak5 1 c 1 c=occ c:=by
 simp only [amp,occ]
 cases h:ltI 1 c <;> cases h':ltI c 1 <;> simp at h h' ⊢ <;> omega
def ln(y1:Int)(y3:List Int)(b:Nat):(List Int)→Nat ⊕ (List Int)
 |y2=>(.inr (y2++([ak5 (↑(Zg y1 y3 (↑b:Int)):Int) (1:Int) (↑(Zg y1 y3 (↑b:Int)):Int) (1:Int)])))
def ko(y1:Int)(y3:List Int)(i:Nat):(List Int)→io
 |y2=>((i:Int),y1,y2,y3)
def Ie:io→List Int
 |(_,_,y2,_)=>y2
theorem adm(y1:Int)(y3 y2:List Int)(hn:y1≤9223372036854775807)(hT:isT y1 y3=true)(h0:y2= []):
  bQ.fin ((0:Int),y1,y2,y3)=true∧bQ.res ((0:Int),y1,y2,y3)=((ag (ln y1 y3) 0 (List.range y1.toNat) 0 y2).1,(ko y1 y3) (ag (ln y1 y3) 0 (List.range y1.toNat) 0 y2).2.1 (ag (ln y1 y3) 0 (List.range y1.toNat) 0 y2).2.2):=by
 have key:=bQ.along (ko y1 y3) Ie (ln y1 y3) 0 (fun i a=>a.length≤i) (List.range y1.toNat) y2 (by subst h0;simp) (by simp only [bQ,ko,List.length_range];omega) (fun i b a hb hI=> ?_) (fun a hI=> ?_)
 ·exact key
 ·obtain y2:=a
  obtain⟨rfl,hlt⟩:=fU hb
  have hw:IntKind.i64.wrap ((b:Int) + 1)=((b + 1:Nat):Int):=by rw [aA (by omega) (by omega)];omega
  have hdec:ltI (b:Int) y1=true:=ce (by omega)
  have hnn:leI (0:Int) (b:Int)=true:=bH (by omega)
  refine⟨?_,?_,?_,?_⟩
  ·have h4:=(BU.1 hT).1
   simp [nb,wJ,wK,wL,wM,wN,wO,uL,bQ,LT.nds,allT,ko,hdec,hT]
   omega
  ·simp [nb,wJ,wK,wL,wM,wN,wO,uL,bQ,LT.each,ko,Ie,hw]
  ·simp only [nb,wJ,wK,wL,wM,wN,wO,uL,bQ,LT.fn,ko,Ie,ln,Int.toNat_natCast,hdec,hnn,cond_true,Bool.cond_self]
  ·intro a' hf;simp only [ln,Sum.inr.injEq]at hf;subst hf;simp;omega
 ·obtain y2:=a
  simp only [nb,wJ,wK,wL,wM,wN,wO,uL,bQ,LT.out,ko,List.length_range,Yt,acY,cond_false]
def oo(y1:Int)(b:Int×(Int×Int)):(List Int)→Nat ⊕ (List Int)
 |y3=>(.inr (bif(b.2.1==y1)then List.set y3 (Int.toNat b.1) b.2.2else y3))
def kq(y1:Int)(y2:List (Int×(Int×Int)))(i:Nat):(List Int)→ip
 |y3=>((i:Int),y1,y2,y3)
def Ig:ip→List Int
 |(_,_,_,y3)=>y3
theorem adn(y1:Int)(y2:List (Int×(Int×Int)))(y3:List Int)(hn:y2.length≤9223372036854775807)(n:Nat)(h3:y3.length=n)(hf: ∀ f∈y2,0≤f.1∧f.1 < (n:Int)):
  cz.fin ((0:Int),y1,y2,y3)=true∧cz.res ((0:Int),y1,y2,y3)=((ag (oo y1) 0 y2 0 y3).1,(kq y1 y2) (ag (oo y1) 0 y2 0 y3).2.1 (ag (oo y1) 0 y2 0 y3).2.2):=by
 have key:=cz.along (kq y1 y2) Ig (oo y1) 0 (fun _ a=>a.length=n) y2 y3 h3 (by simp only [cz,kq];omega) (fun i b a hb hI=> ?_) (fun a hI=> ?_)
 ·exact key
 ·obtain y3:=a
  have hlt:=(List.getElem?_eq_some_iff.1 hb).1
  have hget: ∀ d,Option.getD y2[i]? d=b:=fun d=>by rw [hb];rfl
  have hw:=py hlt hn
  have hdec:ltI (i:Int) (y2.length:Int)=true:=ce (by omega)
  have hnn:leI (0:Int) (i:Int)=true:=bH (by omega)
  have hltd:ltN i y2.length=true:=cM hlt
  refine⟨?_,?_,?_,?_⟩
  ·have h5:=hf b (List.mem_of_getElem? hb)
   have h6:leI 0 b.1=true:=bH h5.1
   have h7:ltI b.1 (a.length:Int)=true:=ce (by omega)
   have h8:ltN b.1.toNat a.length=true:=cM (by omega)
   simp only [gN,fG,sn,wP,wQ,sq,sr,su,wR,wS,wT,wU,uS,uN,cz,LT.nds,allT,kq,Int.toNat_natCast,hdec,hnn,hltd,hget,h6,h7,h8,Bool.or_true,cond_true]
  ·simp [gN,fG,sn,wP,wQ,sq,sr,su,wR,wS,wT,wU,uS,uN,cz,LT.each,kq,Ig,hw]
  ·simp only [gN,fG,sn,wP,wQ,sq,sr,su,wR,wS,wT,wU,uS,uN,cz,LT.fn,kq,Ig,oo,Int.toNat_natCast,hdec,hnn,hltd,hget,cond_true,Bool.cond_self]
  ·intro a' hf;simp only [oo,Sum.inr.injEq]at hf;subst hf;cases b.2.1==y1 <;> simpa using hI
 ·obtain y3:=a
  simp [gN,fG,sn,wP,wQ,sq,sr,su,wR,wS,wT,wU,uS,uN,cz,LT.out,kq]
theorem ajg(n ch:Int)(ps:List Int)(fs:List (Int×Int×Int))(hT:isT n ps=true)(hF:ah1 n fs=true):
  DI n ch ps fs=Eu n ps fs ch∧DJ n ch ps fs=true:=by
 have h2:=(BU.1 hT).1
 obtain⟨hl,hf⟩:=amt hF
 obtain⟨w1,w2⟩:=adm n ps [] (by omega) hT rfl
 rw [iA (f:=ln n ps) (g:=fun a b=>a++ [occ (Zg n ps ((b:Nat):Int):Int)]) (fun b a=>by simp only [ln,asD]),Tk]at w2
 have e1:((Lp.res bQ (BK n ps)).2.2.2).1=aeS n ps:=by
  simp only [BK,w2,ko,List.nil_append];rfl
 obtain⟨v1,v2⟩:=adn ch fs (aeS n ps) (by omega) n.toNat (NC n ps) (fun f hm=>by have:=(hf f hm).1;omega)
 rw [iA (f:=oo ch) (g:=af4 ch) (fun b a=>rfl)]at v2
 refine⟨?_,?_⟩
 ·simp only [DI,BL,e1,v2,kq];rfl
 ·have v3:Lp.fin cz (BL n ch ps fs)=true:=by rw [BL,e1];exact v1
  have w3:Lp.fin bQ (BK n ps)=true:=w1
  simp only [DJ,v3,w3,allT,cond_true]
theorem aln(n:Int)(ps:List Int)(fs:List (Int×Int×Int))(h:(isT n ps&&ah1 n fs)=true):
  YM n ps fs=Eu n ps fs 0∧YN n ps fs=Eu n ps fs 1∧QJ n ps fs=true:=by
 simp only [Bool.and_eq_true]at h
 obtain⟨a1,a2⟩:=ajg n 0 ps fs h.1 h.2
 obtain⟨b1,b2⟩:=ajg n 1 ps fs h.1 h.2
 exact⟨a1,b1,by simp only [QJ,a2,b2,allT,cond_true]⟩
def XR:List SV→List Entry→Option Out
 | [.one ⟨true,[.val (.int .i64 x0),.ref 0]⟩,.one ⟨false,[.ref 1]⟩],[.row false 2 (.int .i64) x1,.row false 169 (.pair (.int .i64) (.pair (.int .i64) (.int .i64))) x2]=>some ⟨(.one ⟨true,[(.ref 2),(.ref 3)]⟩),[(.row false 2 asZ x1),(.row false 169 asX x2)],[(.row true 2 asZ (Eu x0 x1 x2 0)),(.row true 2 asZ (Eu x0 x1 x2 1))],[isT x0 x1&&ah1 x0 x2]⟩
 |_,_=>none
def QA:PF Tryz.prog:=PF.alt aiC XR (by
 intro args es o h hnd;unfold XR at h;split at h
 ·rename_i x0 x1 x2
  cases h
  have hnd:=cf hnd
  have hh:=aln x0 x1 x2 hnd
  obtain⟨e0,e1,en⟩:=hh
  exact eT rfl (cg en) rfl rfl (by simp only [e0,e1] <;> rfl)
 ·cases h)
def ol(y2:List Int)(b:Nat):(List Int)→Nat ⊕ (List Int)
 |y3=>(.inr (List.set y3 b (ak5 (1:Int) (Option.getD y2[b]? (0:Int)) (1:Int) (Option.getD y2[b]? (0:Int)))))
def mI(y2:List Int)(i:Nat):(List Int)→jE
 |y3=>((i:Int),(↑y2.length:Int),y2,y3)
def KJ:jE→List Int
 |(_,_,_,y3)=>y3
theorem af7(y2 y3:List Int)(hn:y2.length≤9223372036854775807)(hl:y3.length=y2.length):
  dH.fin ((0:Int),(↑y2.length:Int),y2,y3)=true∧dH.res ((0:Int),(↑y2.length:Int),y2,y3)=((ag (ol y2) 0 (List.range y2.length) 0 y3).1,(mI y2) (ag (ol y2) 0 (List.range y2.length) 0 y3).2.1 (ag (ol y2) 0 (List.range y2.length) 0 y3).2.2):=by
 have key:=dH.along (mI y2) KJ (ol y2) 0 (fun _ a=>a.length=y2.length) (List.range y2.length) y3 hl (by simp only [dH,mI,List.length_range];omega) (fun i b a hb hI=> ?_) (fun a hI=> ?_)
 ·exact key
 ·obtain y3:=a
  obtain⟨rfl,hlt⟩:=fU hb
  have hw:IntKind.i64.wrap ((b:Int) + 1)=((b + 1:Nat):Int):=by rw [aA (by omega) (by omega)];omega
  have hdec:ltI (b:Int) (y2.length:Int)=true:=ce (by omega)
  have hnn:leI (0:Int) (b:Int)=true:=bH (by omega)
  have hltd:ltN b y2.length=true:=cM (by omega)
  refine⟨?_,?_,?_,?_⟩
  ·simp [tI,AD,u0,AE,AF,AG,AH,AJ,AK,za,dH,LT.nds,allT,mI,hdec,hnn,hltd,hI]
  ·simp [tI,AD,u0,AE,AF,AG,AH,AJ,AK,za,dH,LT.each,mI,KJ,hw,hI]
  ·simp only [tI,AD,u0,AE,AF,AG,AH,AJ,AK,za,dH,LT.fn,mI,KJ,ol,Int.toNat_natCast,hdec,cond_true]
  ·intro a' hf;simp only [ol,Sum.inr.injEq]at hf;subst hf;simpa using hI
 ·obtain y3:=a
  simp [tI,AD,u0,AE,AF,AG,AH,AJ,AK,za,dH,LT.out,mI,List.length_range]
def ru(b:Int×(Int×Int)):(List Int×List Int)→Nat ⊕ (List Int×List Int)
 |(y3,y4)=>(.inr ((bif(b.2.1==(0:Int))then List.set y3 (Int.toNat b.1) b.2.2else y3),(bif(b.2.1==(0:Int))then y4 else List.set y4 (Int.toNat b.1) b.2.2)))
def mJ(y2:List (Int×(Int×Int)))(i:Nat):(List Int×List Int)→jF
 |(y3,y4)=>((i:Int),(↑y2.length:Int),y2,y3,y4)
def KK:jF→List Int×List Int
 |(_,_,_,y3,y4)=>(y3,y4)
theorem af8(y2:List (Int×(Int×Int)))(y3 y4:List Int)(hn:y2.length≤9223372036854775807)(n:Nat)(h3:y3.length=n)(h4:y4.length=n)(hf: ∀ f∈y2,0≤f.1∧f.1 < (n:Int)):
  dI.fin ((0:Int),(↑y2.length:Int),y2,y3,y4)=true∧dI.res ((0:Int),(↑y2.length:Int),y2,y3,y4)=((ag (ru) 0 y2 0 (y3,y4)).1,(mJ y2) (ag (ru) 0 y2 0 (y3,y4)).2.1 (ag (ru) 0 y2 0 (y3,y4)).2.2):=by
 have key:=dI.along (mJ y2) KK (ru) 0 (fun _ a=>a.1.length=n∧a.2.length=n) y2 (y3,y4) ⟨h3,h4⟩ (by simp only [dI,mJ];omega) (fun i b a hb hI=> ?_) (fun a hI=> ?_)
 ·exact key
 ·obtain⟨y3,y4⟩:=a
  have hlt:=(List.getElem?_eq_some_iff.1 hb).1
  have hget: ∀ d,Option.getD y2[i]? d=b:=fun d=>by rw [hb];rfl
  have hw:=py hlt hn
  have hdec:ltI (i:Int) (y2.length:Int)=true:=ce (by omega)
  have hnn:leI (0:Int) (i:Int)=true:=bH (by omega)
  have hltd:ltN i y2.length=true:=cM hlt
  refine⟨?_,?_,?_,?_⟩
  ·have h5:=hf b (List.mem_of_getElem? hb)
   have hI1:=hI.1
   have hI2:=hI.2
   have h6:leI 0 b.1=true:=bH h5.1
   have h7:ltI b.1 (n:Int)=true:=ce (by omega)
   have h8:ltN b.1.toNat n=true:=cM (by omega)
   simp only at hI1 hI2
   simp [dF,gj,tJ,AL,AM,AO,AP,AQ,AR,AU,AV,AW,AX,ym,yo,yp,zb,dI,LT.nds,allT,mJ,hdec,hnn,hltd,hget,h6,h7,h8,hI1,hI2]
  ·simp [dF,gj,tJ,AL,AM,AO,AP,AQ,AR,AU,AV,AW,AX,ym,yo,yp,zb,dI,LT.each,mJ,KK,hw]
  ·simp only [dF,gj,tJ,AL,AM,AO,AP,AQ,AR,AU,AV,AW,AX,ym,yo,yp,zb,dI,LT.fn,mJ,KK,ru,Int.toNat_natCast,hdec,hnn,hltd,hget,cond_true,Bool.cond_self]
  ·intro a' hf;simp only [ru,Sum.inr.injEq]at hf;subst hf;have hI1:=hI.1;have hI2:=hI.2;cases b.2.1==0 <;> simpa using ⟨hI1,hI2⟩
 ·obtain⟨y3,y4⟩:=a
  simp [dF,gj,tJ,AL,AM,AO,AP,AQ,AR,AU,AV,AW,AX,ym,yo,yp,zb,dI,LT.out,mJ]
theorem ahZ: ∀ (fs:List (Int×Int×Int)) (a:List Int×List Int),(∀ f∈fs,f.2.1=0∨f.2.1=1)→
  fs.foldl (fun a f=>(bif f.2.1==0 then a.1.set f.1.toNat f.2.2 else a.1,bif f.2.1==0 then a.2 else a.2.set f.1.toNat f.2.2)) a=(fs.foldl (af4 0) a.1,fs.foldl (af4 1) a.2)
 | [],a,_=>rfl
 |f::fs,a,h=>by
  simp only [List.foldl_cons]
  rw [ahZ fs _ (fun g hg=>h g (by simp [hg]))]
  rcases h f (by simp)with e | e <;> simp [af4,e]
theorem ak8(n:Int)(ps:List Int)(fs:List (Int×Int×Int))(h:(isT n ps&&ah1 n fs)=true):
  RW n ps fs=Eu n ps fs 0∧RY n ps fs=Eu n ps fs 1∧RZ n ps fs=true:=by
 simp only [Bool.and_eq_true]at h
 have h2:=(BU.1 h.1).1
 obtain⟨hl,hf⟩:=amt h.2
 have hr:(List.replicate n.toNat (0:Int)).length=(sH n ps).length:=by rw [WR];simp
 obtain⟨w1,w2⟩:=af7 (sH n ps) (List.replicate n.toNat (0:Int)) (by rw [WR];omega) hr
 rw [Nr (xs:=sH n ps) (d:=(0:Int)) (g:=occ) (f:=ol (sH n ps)) (e:=0) (fun b a=>by simp only [ol,asE]) hr]at w2
 have e1:zI n ps=aeS n ps:=by
  rw [zI,Km,w2]
  simp only [mI,sH,aeS,List.map_map];rfl
 obtain⟨v1,v2⟩:=af8 fs (aeS n ps) (aeS n ps) (by omega) n.toNat (NC n ps) (NC n ps) (fun f hm=>by have:=(hf f hm).1;omega)
 rw [iA (f:=ru) (g:=fun a f=>(bif f.2.1==0 then a.1.set f.1.toNat f.2.2 else a.1,bif f.2.1==0 then a.2 else a.2.set f.1.toNat f.2.2)) (fun b a=>rfl),ahZ _ _ (fun f hm=>(hf f hm).2.1)]at v2
 have e3:Kn n ps fs=(Eu n ps fs 0,Eu n ps fs 1):=by
  simp only [Kn,Fd,e1,v2,mJ];rfl
 refine⟨by rw [RW,e3],by rw [RY,e3],?_⟩
 have e4:Lp.fin dI (Fd n ps fs)=true:=by simp only [Fd,e1];exact v1
 have e5:Lp.fin dH (Km n ps)=true:=w1
 simp only [RZ,e4,e5,e1,h.1,NC,allT]
 simp;omega
def aak:List SV→List Entry→Option Out
 | [.one ⟨true,[.val (.int .i64 x0),.ref 0]⟩,.one ⟨false,[.ref 1]⟩],[.row false 2 (.int .i64) x1,.row false 169 (.pair (.int .i64) (.pair (.int .i64) (.int .i64))) x2]=>some ⟨(.one ⟨true,[(.ref 2),(.ref 3)]⟩),[(.row false 2 asZ x1),(.row false 169 asX x2)],[(.row true 2 asZ (Eu x0 x1 x2 0)),(.row true 2 asZ (Eu x0 x1 x2 1))],[isT x0 x1&&ah1 x0 x2]⟩
 |_,_=>none
def Sg:PF Tryz.prog:=PF.alt ajx aak (by
 intro args es o h hnd;unfold aak at h;split at h
 ·rename_i x0 x1 x2
  cases h
  have hnd:=cf hnd
  have hh:=ak8 x0 x1 x2 hnd
  obtain⟨e0,e1,en⟩:=hh
  exact eT rfl (cg en) rfl rfl (by simp only [e0,e1] <;> rfl)
 ·cases h)
def Kz(n:Int)(ps:List Int)(t:Int):Int:=Int.tmod (blk (ps[t.toNat]?.getD 0) + 1) n
def ae7(n:Int)(ps a b:List Int)(t:Int):Bool:=phs (ps[t.toNat]?.getD 0)!=1||(a[(Kz n ps t).toNat]?.getD 0==0&&b[(Kz n ps t).toNat]?.getD 0==0)
def WI(n:Int)(ps a b:List Int)(t:Int):Bool:=Yw n ps t&&(anK n a&&anK n b)
theorem akJ{n t:Int}{ps a b:List Int}(h:WI n ps a b t=true):
  (0≤t∧t < ps.length)∧(2≤n∧n≤8)∧(0≤Kz n ps t∧Kz n ps t < n)∧((a.length:Int)=n∧(b.length:Int)=n)∧
   IntKind.i64.wrap (IntKind.i64.wrap (Int.tdiv (ps[t.toNat]?.getD 0) 3) + 1)=blk (ps[t.toNat]?.getD 0) + 1∧
   (0≤a[(Kz n ps t).toNat]?.getD 0∧a[(Kz n ps t).toNat]?.getD 0≤1)∧(0≤b[(Kz n ps t).toNat]?.getD 0∧b[(Kz n ps t).toNat]?.getD 0≤1):=by
 simp only [WI,Bool.and_eq_true,ag9,anK,aps,List.all_eq_true,rh,XZ]at h
 obtain⟨⟨hT,ht⟩,⟨ha,ha2⟩,hb,hb2⟩:=h
 have h1:=BU.1 hT
 have hlt:t.toNat < ps.length:=by omega
 have hp:=h1.2.2 (ps[t.toNat]) (List.getElem_mem hlt)
 have e0:ps[t.toNat]?.getD 0=ps[t.toNat]:=by rw [List.getElem?_eq_getElem hlt];rfl
 rw [Kz,e0]
 have hb3:blk ps[t.toNat]=ps[t.toNat] / 3:=ahO hp.1
 have hb4:Int.tdiv ps[t.toNat] 3=ps[t.toNat] / 3:=Int.tdiv_eq_ediv_of_nonneg hp.1
 have hq:Int.tmod (blk ps[t.toNat] + 1) n=(ps[t.toNat] / 3 + 1) % n:=by rw [hb3,Int.tmod_eq_emod_of_nonneg (by omega)]
 have hm0:0≤(ps[t.toNat] / 3 + 1) % n:=Int.emod_nonneg _ (by omega)
 have hm1:(ps[t.toNat] / 3 + 1) % n < n:=Int.emod_lt_of_pos _ (by omega)
 rw [hq]
 have la:((ps[t.toNat] / 3 + 1) % n).toNat < a.length:=by omega
 have lb:((ps[t.toNat] / 3 + 1) % n).toNat < b.length:=by omega
 rw [List.getElem?_eq_getElem la,List.getElem?_eq_getElem lb]
 refine⟨ht,h1.1,⟨hm0,hm1⟩,⟨ha,hb⟩,?_,ha2 _ (List.getElem_mem la),hb2 _ (List.getElem_mem lb)⟩
 rw [hb4,aA (x:=ps[t.toNat] / 3) (by omega) (by omega),aA (by omega) (by omega),hb3]
theorem anX(n t:Int)(ps a b:List Int)(h:WI n ps a b t=true):OH n t ps a b=ae7 n ps a b t∧OI n t ps a b=true:=by
 obtain⟨ht,hn,hx,hl,hw,ha,hb⟩:=akJ h
 have e2:lV n t ps=Kz n ps t:=by
  simp only [lV,GS,hw];rfl
 refine⟨?_,?_⟩
 ·simp only [OH,e2,rD,GS,ae7,phs]
  rw [aA (by omega) (by omega)]
  cases Int.tmod (ps[t.toNat]?.getD 0) 3 !=1 with
  |true=>rfl
  |false=>
   rw [cond_false,Bool.false_or,Bool.eq_iff_iff]
   simp only [beq_iff_eq,Bool.and_eq_true]
   omega
 ·have t1:leI 0 t=true:=bH ht.1
  have t2:ltI t (ps.length:Int)=true:=ce ht.2
  have t3:ltN t.toNat ps.length=true:=cM (by omega)
  have t4:neI n 0=true:=alL (by omega)
  have t5:leI 0 (Kz n ps t)=true:=bH hx.1
  have t6:ltI (Kz n ps t) (a.length:Int)=true:=ce (by omega)
  have t7:ltN (Kz n ps t).toNat a.length=true:=cM (by omega)
  have t8:ltI (Kz n ps t) (b.length:Int)=true:=ce (by omega)
  have t9:ltN (Kz n ps t).toNat b.length=true:=cM (by omega)
  simp only [OI,MS,e2,t1,t2,t3,t4,t5,t6,t7,t8,t9,allT,cond_true,Bool.or_true]
def VQ:List SV→List Entry→Option Out
 | [.one ⟨true,[.val (.int .i64 x0),.ref 0]⟩,.one ⟨true,[.ref 1,.ref 2]⟩,.one ⟨false,[.val (.int .i64 x1)]⟩],[.row false 2 (.int .i64) x2,.row false 2 (.int .i64) x3,.row false 2 (.int .i64) x4]=>some ⟨(.one ⟨false,[(.val (.bool (ae7 x0 x2 x3 x4 x1)))]⟩),[(.row false 2 asZ x2),(.row false 2 asZ x3),(.row false 2 asZ x4)],[],[WI x0 x2 x3 x4 x1]⟩
 |_,_=>none
def Oa:PF Tryz.prog:=PF.alt ahl VQ (by
 intro args es o h hnd;unfold VQ at h;split at h
 ·rename_i x0 x1 x2 x3 x4
  cases h
  have hnd:=cf hnd
  have hh:=anX x0 x1 x2 x3 x4 hnd
  obtain⟨e0,en⟩:=hh
  exact eT rfl (cg en) (by simp only [e0] <;> rfl) rfl rfl
 ·cases h)
theorem anp(n t:Int)(a b ps:List Int)(h:WI n ps a b t=true):lZ n t a b ps=ae7 n ps a b t∧l4 n t a b ps=true:=by
 obtain⟨ht,hn,hx,hl,hw,ha,hb⟩:=akJ h
 have e2:ie n t ps=Kz n ps t:=by
  simp only [ie,ic,hw];rfl
 refine⟨?_,?_⟩
 ·simp only [lZ,e2,et,ic,lX,eq,ae7,phs]
  cases Int.tmod (ps[t.toNat]?.getD 0) 3 !=1 with
  |true=>rfl
  |false=>
   rw [cond_false,Bool.false_or]
   cases a[(Kz n ps t).toNat]?.getD 0==0 <;> rfl
 ·have t1:leI 0 t=true:=bH ht.1
  have t2:ltI t (ps.length:Int)=true:=ce ht.2
  have t3:ltN t.toNat ps.length=true:=cM (by omega)
  have t4:neI n 0=true:=alL (by omega)
  have t4':neI (3:Int) 0=true:=alL (by omega)
  have t5:leI 0 (Kz n ps t)=true:=bH hx.1
  have t6:ltI (Kz n ps t) (a.length:Int)=true:=ce (by omega)
  have t7:ltN (Kz n ps t).toNat a.length=true:=cM (by omega)
  have t8:ltI (Kz n ps t) (b.length:Int)=true:=ce (by omega)
  have t9:ltN (Kz n ps t).toNat b.length=true:=cM (by omega)
  simp only [l4,lY,e2,t1,t2,t3,t4,t4',t5,t6,t7,t8,t9,allT,cond_true,Bool.or_true]
def uh:List SV→List Entry→Option Out
 | [.one ⟨true,[.ref 0,.ref 1]⟩,.one ⟨true,[.val (.int .i64 x0),.ref 2]⟩,.one ⟨false,[.val (.int .i64 x1)]⟩],[.row false 2 (.int .i64) x2,.row false 2 (.int .i64) x3,.row false 2 (.int .i64) x4]=>some ⟨(.one ⟨false,[(.val (.bool (ae7 x0 x4 x2 x3 x1)))]⟩),[(.row false 2 asZ x2),(.row false 2 asZ x3),(.row false 2 asZ x4)],[],[WI x0 x4 x2 x3 x1]⟩
 |_,_=>none
def l8:PF Tryz.prog:=PF.alt Hi uh (by
 intro args es o h hnd;unfold uh at h;split at h
 ·rename_i x0 x1 x2 x3 x4
  cases h
  have hnd:=cf hnd
  have hh:=anp x0 x1 x2 x3 x4 hnd
  obtain⟨e0,en⟩:=hh
  exact eT rfl (cg en) (by simp only [e0] <;> rfl) rfl rfl
 ·cases h)
theorem ard(n:Int)(ps:List Int)(b:Int):inR (occ (Zg n ps b:Int)) 0 1=true:=by
 rw [rh,occ];cases h:ltI (Zg n ps b:Int) 1 <;> simp at h ⊢;omega
theorem am3(n:Int)(ps:List Int)(fs:List (Int×Int×Int))(ch:Int)(hT:isT n ps=true)(hF:ah1 n fs=true):anK n (Eu n ps fs ch)=true:=by
 have h2:=(BU.1 hT).1
 obtain⟨hl,hf⟩:=amt hF
 simp only [anK,Bool.and_eq_true,aps,amb]
 refine⟨by omega,?_⟩
 have key: ∀ (fs:List (Int×Int×Int)) (l:List Int),(∀ f∈fs,0≤f.2.2∧f.2.2≤1)→(l.all fun v=>inR v 0 1)=true→((fs.foldl (af4 ch) l).all fun v=>inR v 0 1)=true:=by
  intro fs
  induction fs with
  |nil=>intro l _ h;exact h
  |cons f fs ih=>
   intro l hv h
   rw [List.foldl_cons]
   refine ih _ (fun g hg=>hv g (by simp [hg])) ?_
   unfold af4
   cases f.2.1==ch with
   |false=>exact h
   |true=>
    simp only [cond_true,List.all_eq_true]at h ⊢
    intro v hm
    rcases List.mem_or_eq_of_mem_set hm with h3 | rfl
    ·exact h v h3
    ·exact rh.2 (hv f (by simp))
 refine key fs _ (fun f hm=>(hf f hm).2.2) ?_
 simp only [aeS,List.all_map,List.all_eq_true,Function.comp]
 intro b _;exact ard n ps b
end Go.SX
