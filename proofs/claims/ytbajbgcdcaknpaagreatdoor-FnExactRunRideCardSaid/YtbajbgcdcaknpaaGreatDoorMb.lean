/- What functions of the program come to, and what that says in plain words: part 2. -/
import Derived.Test.YtbajbgcdcaknpaaGreatDoorMa
import Derived.Test.YtbajbgcdcaknpaaGreatDoorTXh
import Derived.Test.YtbajbgcdcaknpaaGreatDoorProg
set_option linter.unusedSimpArgs false
set_option linter.unusedVariables false
namespace Go.SX
open Go.Proofs
set_option maxRecDepth 100000
def amf(xs ys:List (Int×Int)):Bool:=decide (xs=ys)
def mp(y1:List (Int×(Int×Int)))(b:Nat):(List (Int×(Int×Int)))→Nat ⊕ (List (Int×(Int×Int)))
 |y2=>(.inr (List.set y2 b ((Option.getD y1[b]? ((0:Int),(0:Int),(0:Int))).1,((Option.getD y1[b]? ((0:Int),(0:Int),(0:Int))).2).1,(Option.getD y1[b]? ((0:Int),(0:Int),(0:Int))).2.2)))
def jo(y1:List (Int×(Int×Int)))(i:Nat):(List (Int×(Int×Int)))→gE
 |y2=>((i:Int),y1,y2)
def IM:gE→List (Int×(Int×Int))
 |(_,_,y2)=>y2
theorem adO(y1 y2:List (Int×(Int×Int)))(hn:y1.length≤9223372036854775807)(hl:y2.length=y1.length):
  ct.fin ((0:Int),y1,y2)=true∧ct.res ((0:Int),y1,y2)=((ae (mp y1) 0 (List.range y1.length) 0 y2).1,(jo y1) (ae (mp y1) 0 (List.range y1.length) 0 y2).2.1 (ae (mp y1) 0 (List.range y1.length) 0 y2).2.2):=by
 have key:=ct.along (jo y1) IM (mp y1) 0 (fun _ a=>a.length=y1.length) (List.range y1.length) y2 hl (by simp only [ct,jo,List.length_range];omega) (fun i b a hb hI=> ?_) (fun a hI=> ?_)
 ·exact key
 ·obtain y2:=a
  obtain⟨rfl,hlt⟩:=eu hb
  have hw:IntKind.i64.wrap ((b:Int) + 1)=((b + 1:Nat):Int):=by rw [aw (by omega) (by omega)];omega
  have hdec:ltI (b:Int) (y1.length:Int)=true:=bZ (by omega)
  have hnn:leI (0:Int) (b:Int)=true:=bC (by omega)
  have hltd:ltN b y1.length=true:=cB (by omega)
  refine⟨?_,?_,?_,?_⟩
  ·simp [ln,qJ,qK,uJ,uK,uL,uN,uO,tI,ct,LT.nds,allT,jo,hdec,hnn,hltd,hI]
  ·simp [ln,qJ,qK,uJ,uK,uL,uN,uO,tI,ct,LT.each,jo,IM,hw,hI]
  ·simp only [ln,qJ,qK,uJ,uK,uL,uN,uO,tI,ct,LT.fn,jo,IM,mp,Int.toNat_natCast,hdec,cond_true]
  ·intro a' hf;simp only [mp,Sum.inr.injEq]at hf;subst hf;simpa using hI
 ·obtain y2:=a
  simp [ln,qJ,qK,uJ,uK,uL,uN,uO,tI,ct,LT.out,jo,List.length_range]
def qv(y1 y2:List (Int×(Int×Int)))(b:Nat):(Unit)→Nat ⊕ (Unit)
 |_=>(bif(!DQ ((Option.getD y1[b]? ((0:Int),(0:Int),(0:Int))).1) (((Option.getD y1[b]? ((0:Int),(0:Int),(0:Int))).2).1) ((Option.getD y1[b]? ((0:Int),(0:Int),(0:Int))).2.2) ((Option.getD y2[b]? ((0:Int),(0:Int),(0:Int))).1) (((Option.getD y2[b]? ((0:Int),(0:Int),(0:Int))).2).1) ((Option.getD y2[b]? ((0:Int),(0:Int),(0:Int))).2.2))then(.inl 0)else(.inr ()))
def lA(y1 y2:List (Int×(Int×Int)))(i:Nat):(Unit)→gD
 |_=>((i:Int),y1,y2)
def IL:gD→Unit
 |(_,_,_)=>()
theorem adN(y1 y2:List (Int×(Int×Int))) (hn:y1.length≤9223372036854775807) (he:y2.length=y1.length):
  bO.fin ((0:Int),y1,y2)=true∧bO.res ((0:Int),y1,y2)=((ae (qv y1 y2) 1 (List.range y1.length) 0 ()).1,(lA y1 y2) (ae (qv y1 y2) 1 (List.range y1.length) 0 ()).2.1 (ae (qv y1 y2) 1 (List.range y1.length) 0 ()).2.2):=by
 have key:=bO.along (lA y1 y2) IL (qv y1 y2) 1 (fun _ _=>True) (List.range y1.length) () (by trivial) (by simp only [bO,lA,List.length_range];omega) (fun i b a hb hI=> ?_) (fun a hI=> ?_)
 ·exact key
 ·obtain⟨⟩:=a
  obtain⟨rfl,hlt⟩:=eu hb
  have hw:IntKind.i64.wrap ((b:Int) + 1)=((b + 1:Nat):Int):=by rw [aw (by omega) (by omega)];omega
  have hdec:ltI (b:Int) (y1.length:Int)=true:=bZ (by omega)
  have hnn:leI (0:Int) (b:Int)=true:=bC (by omega)
  have hltd:ltN b y1.length=true:=cB (by omega)
  refine⟨?_,?_,?_,?_⟩
  ·simp [lj,lk,qB,qC,uD,uE,uF,uG,uH,tH,bO,LT.nds,allT,lA,hdec,hnn,hltd,he]
  ·simp [lj,lk,qB,qC,uD,uE,uF,uG,uH,tH,bO,LT.each,lA,IL,hw,he]
  ·simp only [lj,lk,qB,qC,uD,uE,uF,uG,uH,tH,bO,LT.fn,lA,IL,qv,Int.toNat_natCast,hdec,cond_true]
  ·exact fun _ _=>trivial
 ·obtain⟨⟩:=a
  simp [lj,lk,qB,qC,uD,uE,uF,uG,uH,tH,bO,LT.out,lA,List.length_range]
theorem awb(xs:List (Int×Int×Int))(hn:leN xs.length 1048576=true):Iq xs=xs∧Ir xs=true:=by
 have hn:=bT.1 hn
 have hr:(List.replicate (Int.toNat (xs.length:Int)) ((0:Int),(0:Int),(0:Int))).length=xs.length:=by simp
 obtain⟨w1,w2⟩:=adO xs (List.replicate (Int.toNat (xs.length:Int)) ((0:Int),(0:Int),(0:Int))) (by omega) hr
 have hc:=Og (xs:=xs) (d:=((0:Int),(0:Int),(0:Int))) (g:=fun x=>x) (f:=mp xs) (e:=0) (fun b a=>rfl) hr
 rw [hc]at w2
 refine⟨?_,?_⟩
 ·simp only [Ga,Iq,Ir,w2,jo];simp
 ·simp only [Ga,Iq,Ir,w1,allT];simp;omega
def WB:List SV→List Entry→Option Out
 | [.one ⟨false,[.ref 0]⟩],[.row false 208 (.pair (.int .i64) (.pair (.int .i64) (.int .i64))) x0]=>some ⟨(.one ⟨false,[(.ref 1)]⟩),[(.row false 208 axj x0)],[(.row true 100 axj x0)],[leN x0.length 1048576]⟩
 |_,_=>none
def Or:PF Tryz.prog:=PF.alt air WB (by
 intro args es o h hnd;unfold WB at h;split at h
 ·rename_i x0
  cases h
  have hnd:=bY hnd
  have hh:=awb x0 hnd
  obtain⟨e0,en⟩:=hh
  exact ek rfl (cg en) rfl rfl (by simp only [e0] <;> rfl)
 ·cases h)
theorem avE(xs ys:List (Int×Int×Int))(hn:leN xs.length 9223372036854775807=true):Ic xs ys=TD xs ys∧Id xs ys=true:=by
 have hn:=bT.1 hn
 unfold TD
 have h3: ∀ a b:Int×Int×Int,(!DQ a.1 a.2.1 a.2.2 b.1 b.2.1 b.2.2)= !decide (a=b):=fun a b=>by
  obtain⟨a1,a2,a3⟩:=a;obtain⟨b1,b2,b3⟩:=b
  simp only [DQ,Prod.mk.injEq]
  by_cases h1:a1=b1 <;> by_cases h2:a2=b2 <;> by_cases h3:a3=b3 <;> simp [h1,h2,h3]
 by_cases hl:ys.length=xs.length
 ·obtain⟨w1,w2⟩:=adN xs ys hn hl
  have ha:=ajK (d:=((0:Int),(0:Int),(0:Int))) hl (P:=fun b=> !decide (Option.getD xs[b]? (0,0,0)=Option.getD ys[b]? (0,0,0))) (fun b=>rfl)
  rw [jp (P:=fun b=> !decide (Option.getD xs[b]? (0,0,0)=Option.getD ys[b]? (0,0,0))) (j:=0) (fun b=>by simp only [qv,h3]),ha]at w2
  simp only [FG,FH,Ic,Id,w1,w2,allT]
  by_cases he:xs=ys
  ·subst he;simp;decide
  ·simp [he,hl]
 ·have hne:xs≠ys:=fun h=>hl (by rw [h])
  simp [FG,FH,Ic,Id,allT,hne]
  omega
def WA:List SV→List Entry→Option Out
 | [.one ⟨false,[.ref 0]⟩,.one ⟨false,[.ref 1]⟩],[.row false 100 (.pair (.int .i64) (.pair (.int .i64) (.int .i64))) x0,.row false 100 (.pair (.int .i64) (.pair (.int .i64) (.int .i64))) x1]=>some ⟨(.one ⟨false,[(.val (.bool (TD x0 x1)))]⟩),[(.row false 100 axj x0),(.row false 100 axj x1)],[],[leN x0.length 9223372036854775807]⟩
 |_,_=>none
def Oq:PF Tryz.prog:=PF.alt aiq WA (by
 intro args es o h hnd;unfold WA at h;split at h
 ·rename_i x0 x1
  cases h
  have hnd:=bY hnd
  have hh:=avE x0 x1 hnd
  obtain⟨e0,en⟩:=hh
  exact ek rfl (cg en) (by simp only [e0] <;> rfl) rfl rfl
 ·cases h)
def uv(y1:List (Int×Int))(b:Nat):(List (Int×Int))→Nat ⊕ (List (Int×Int))
 |y2=>(.inr (List.set y2 b ((Option.getD y1[b]? ((0:Int),(0:Int))).1,(Option.getD y1[b]? ((0:Int),(0:Int))).2)))
def qm(y1:List (Int×Int))(i:Nat):(List (Int×Int))→lG
 |y2=>((i:Int),y1,y2)
def Qr:lG→List (Int×Int)
 |(_,_,y2)=>y2
theorem alW(y1 y2:List (Int×Int))(hn:y1.length≤9223372036854775807)(hl:y2.length=y1.length):
  gh.fin ((0:Int),y1,y2)=true∧gh.res ((0:Int),y1,y2)=((ae (uv y1) 0 (List.range y1.length) 0 y2).1,(qm y1) (ae (uv y1) 0 (List.range y1.length) 0 y2).2.1 (ae (uv y1) 0 (List.range y1.length) 0 y2).2.2):=by
 have key:=gh.along (qm y1) Qr (uv y1) 0 (fun _ a=>a.length=y1.length) (List.range y1.length) y2 hl (by simp only [gh,qm,List.length_range];omega) (fun i b a hb hI=> ?_) (fun a hI=> ?_)
 ·exact key
 ·obtain y2:=a
  obtain⟨rfl,hlt⟩:=eu hb
  have hw:IntKind.i64.wrap ((b:Int) + 1)=((b + 1:Nat):Int):=by rw [aw (by omega) (by omega)];omega
  have hdec:ltI (b:Int) (y1.length:Int)=true:=bZ (by omega)
  have hnn:leI (0:Int) (b:Int)=true:=bC (by omega)
  have hltd:ltN b y1.length=true:=cB (by omega)
  refine⟨?_,?_,?_,?_⟩
  ·simp [xK,As,At,Gg,Gh,Gi,Gj,Gk,Eg,gh,LT.nds,allT,qm,hdec,hnn,hltd,hI]
  ·simp [xK,As,At,Gg,Gh,Gi,Gj,Gk,Eg,gh,LT.each,qm,Qr,hw,hI]
  ·simp only [xK,As,At,Gg,Gh,Gi,Gj,Gk,Eg,gh,LT.fn,qm,Qr,uv,Int.toNat_natCast,hdec,cond_true]
  ·intro a' hf;simp only [uv,Sum.inr.injEq]at hf;subst hf;simpa using hI
 ·obtain y2:=a
  simp [xK,As,At,Gg,Gh,Gi,Gj,Gk,Eg,gh,LT.out,qm,List.length_range]
def Ad(y1 y2:List (Int×Int))(b:Nat):(Unit)→Nat ⊕ (Unit)
 |_=>(bif(!OX ((Option.getD y1[b]? ((0:Int),(0:Int))).1) ((Option.getD y1[b]? ((0:Int),(0:Int))).2) ((Option.getD y2[b]? ((0:Int),(0:Int))).1) ((Option.getD y2[b]? ((0:Int),(0:Int))).2))then(.inl 0)else(.inr ()))
def tm(y1 y2:List (Int×Int))(i:Nat):(Unit)→lE
 |_=>((i:Int),y1,y2)
def Qp:lE→Unit
 |(_,_,_)=>()
theorem alU(y1 y2:List (Int×Int)) (hn:y1.length≤9223372036854775807) (he:y2.length=y1.length):
  eL.fin ((0:Int),y1,y2)=true∧eL.res ((0:Int),y1,y2)=((ae (Ad y1 y2) 1 (List.range y1.length) 0 ()).1,(tm y1 y2) (ae (Ad y1 y2) 1 (List.range y1.length) 0 ()).2.1 (ae (Ad y1 y2) 1 (List.range y1.length) 0 ()).2.2):=by
 have key:=eL.along (tm y1 y2) Qp (Ad y1 y2) 1 (fun _ _=>True) (List.range y1.length) () (by trivial) (by simp only [eL,tm,List.length_range];omega) (fun i b a hb hI=> ?_) (fun a hI=> ?_)
 ·exact key
 ·obtain⟨⟩:=a
  obtain⟨rfl,hlt⟩:=eu hb
  have hw:IntKind.i64.wrap ((b:Int) + 1)=((b + 1:Nat):Int):=by rw [aw (by omega) (by omega)];omega
  have hdec:ltI (b:Int) (y1.length:Int)=true:=bZ (by omega)
  have hnn:leI (0:Int) (b:Int)=true:=bC (by omega)
  have hltd:ltN b y1.length=true:=cB (by omega)
  refine⟨?_,?_,?_,?_⟩
  ·simp [xF,xG,Ak,Al,FO,FP,FQ,FR,FS,Ee,eL,LT.nds,allT,tm,hdec,hnn,hltd,he]
  ·simp [xF,xG,Ak,Al,FO,FP,FQ,FR,FS,Ee,eL,LT.each,tm,Qp,hw,he]
  ·simp only [xF,xG,Ak,Al,FO,FP,FQ,FR,FS,Ee,eL,LT.fn,tm,Qp,Ad,Int.toNat_natCast,hdec,cond_true]
  ·exact fun _ _=>trivial
 ·obtain⟨⟩:=a
  simp [xF,xG,Ak,Al,FO,FP,FQ,FR,FS,Ee,eL,LT.out,tm,List.length_range]
theorem awe(xs:List (Int×Int))(hn:leN xs.length 1048576=true):Se xs=xs∧Sf xs=true:=by
 have hn:=bT.1 hn
 have hr:(List.replicate (Int.toNat (xs.length:Int)) ((0:Int),(0:Int))).length=xs.length:=by simp
 obtain⟨w1,w2⟩:=alW xs (List.replicate (Int.toNat (xs.length:Int)) ((0:Int),(0:Int))) (by omega) hr
 have hc:=Og (xs:=xs) (d:=((0:Int),(0:Int))) (g:=fun x=>x) (f:=uv xs) (e:=0) (fun b a=>rfl) hr
 rw [hc]at w2
 refine⟨?_,?_⟩
 ·simp only [PJ,Se,Sf,w2,qm];simp
 ·simp only [PJ,Se,Sf,w1,allT];simp;omega
def afZ:List SV→List Entry→Option Out
 | [.one ⟨false,[.ref 0]⟩],[.row false 210 (.pair (.int .i64) (.int .i64)) x0]=>some ⟨(.one ⟨false,[(.ref 1)]⟩),[(.row false 210 axk x0)],[(.row true 173 axk x0)],[leN x0.length 1048576]⟩
 |_,_=>none
def Yn:PF Tryz.prog:=PF.alt ao1 afZ (by
 intro args es o h hnd;unfold afZ at h;split at h
 ·rename_i x0
  cases h
  have hnd:=bY hnd
  have hh:=awe x0 hnd
  obtain⟨e0,en⟩:=hh
  exact ek rfl (cg en) rfl rfl (by simp only [e0] <;> rfl)
 ·cases h)
theorem avH(xs ys:List (Int×Int))(hn:leN xs.length 9223372036854775807=true):RW xs ys=amf xs ys∧RY xs ys=true:=by
 have hn:=bT.1 hn
 unfold amf
 have h3: ∀ a b:Int×Int,(!OX a.1 a.2 b.1 b.2)= !decide (a=b):=fun a b=>by
  obtain⟨a1,a2⟩:=a;obtain⟨b1,b2⟩:=b
  simp only [OX,Prod.mk.injEq]
  by_cases h1:a1=b1 <;> by_cases h2:a2=b2 <;> simp [h1,h2]
 by_cases hl:ys.length=xs.length
 ·obtain⟨w1,w2⟩:=alU xs ys hn hl
  have ha:=ajK (d:=((0:Int),(0:Int))) hl (P:=fun b=> !decide (Option.getD xs[b]? (0,0)=Option.getD ys[b]? (0,0))) (fun b=>rfl)
  rw [jp (P:=fun b=> !decide (Option.getD xs[b]? (0,0)=Option.getD ys[b]? (0,0))) (j:=0) (fun b=>by simp only [Ad,h3]),ha]at w2
  simp only [PD,PE,RW,RY,w1,w2,allT]
  by_cases he:xs=ys
  ·subst he;simp;decide
  ·simp [he,hl]
 ·have hne:xs≠ys:=fun h=>hl (by rw [h])
  simp [PD,PE,RW,RY,allT,hne]
  omega
def afX:List SV→List Entry→Option Out
 | [.one ⟨false,[.ref 0]⟩,.one ⟨false,[.ref 1]⟩],[.row false 173 (.pair (.int .i64) (.int .i64)) x0,.row false 173 (.pair (.int .i64) (.int .i64)) x1]=>some ⟨(.one ⟨false,[(.val (.bool (amf x0 x1)))]⟩),[(.row false 173 axk x0),(.row false 173 axk x1)],[],[leN x0.length 9223372036854775807]⟩
 |_,_=>none
def Yl:PF Tryz.prog:=PF.alt aoZ afX (by
 intro args es o h hnd;unfold afX at h;split at h
 ·rename_i x0 x1
  cases h
  have hnd:=bY hnd
  have hh:=avH x0 x1 hnd
  obtain⟨e0,en⟩:=hh
  exact ek rfl (cg en) (by simp only [e0] <;> rfl) rfl rfl
 ·cases h)
def uu(y1:List (Int×Int))(b:Nat):(List (Int×Int))→Nat ⊕ (List (Int×Int))
 |y2=>(.inr (List.set y2 b ((Option.getD y1[b]? ((0:Int),(0:Int))).1,(Option.getD y1[b]? ((0:Int),(0:Int))).2)))
def ql(y1:List (Int×Int))(i:Nat):(List (Int×Int))→lF
 |y2=>((i:Int),y1,y2)
def Qq:lF→List (Int×Int)
 |(_,_,y2)=>y2
theorem alV(y1 y2:List (Int×Int))(hn:y1.length≤9223372036854775807)(hl:y2.length=y1.length):
  gg.fin ((0:Int),y1,y2)=true∧gg.res ((0:Int),y1,y2)=((ae (uu y1) 0 (List.range y1.length) 0 y2).1,(ql y1) (ae (uu y1) 0 (List.range y1.length) 0 y2).2.1 (ae (uu y1) 0 (List.range y1.length) 0 y2).2.2):=by
 have key:=gg.along (ql y1) Qq (uu y1) 0 (fun _ a=>a.length=y1.length) (List.range y1.length) y2 hl (by simp only [gg,ql,List.length_range];omega) (fun i b a hb hI=> ?_) (fun a hI=> ?_)
 ·exact key
 ·obtain y2:=a
  obtain⟨rfl,hlt⟩:=eu hb
  have hw:IntKind.i64.wrap ((b:Int) + 1)=((b + 1:Nat):Int):=by rw [aw (by omega) (by omega)];omega
  have hdec:ltI (b:Int) (y1.length:Int)=true:=bZ (by omega)
  have hnn:leI (0:Int) (b:Int)=true:=bC (by omega)
  have hltd:ltN b y1.length=true:=cB (by omega)
  refine⟨?_,?_,?_,?_⟩
  ·simp [xJ,Aq,Ar,Gb,Gc,Gd,Ge,Gf,Ef,gg,LT.nds,allT,ql,hdec,hnn,hltd,hI]
  ·simp [xJ,Aq,Ar,Gb,Gc,Gd,Ge,Gf,Ef,gg,LT.each,ql,Qq,hw,hI]
  ·simp only [xJ,Aq,Ar,Gb,Gc,Gd,Ge,Gf,Ef,gg,LT.fn,ql,Qq,uu,Int.toNat_natCast,hdec,cond_true]
  ·intro a' hf;simp only [uu,Sum.inr.injEq]at hf;subst hf;simpa using hI
 ·obtain y2:=a
  simp [xJ,Aq,Ar,Gb,Gc,Gd,Ge,Gf,Ef,gg,LT.out,ql,List.length_range]
def Ac(y1 y2:List (Int×Int))(b:Nat):(Unit)→Nat ⊕ (Unit)
 |_=>(bif(!OW ((Option.getD y1[b]? ((0:Int),(0:Int))).1) ((Option.getD y1[b]? ((0:Int),(0:Int))).2) ((Option.getD y2[b]? ((0:Int),(0:Int))).1) ((Option.getD y2[b]? ((0:Int),(0:Int))).2))then(.inl 0)else(.inr ()))
def tl(y1 y2:List (Int×Int))(i:Nat):(Unit)→lD
 |_=>((i:Int),y1,y2)
def Qo:lD→Unit
 |(_,_,_)=>()
theorem alT(y1 y2:List (Int×Int)) (hn:y1.length≤9223372036854775807) (he:y2.length=y1.length):
  eK.fin ((0:Int),y1,y2)=true∧eK.res ((0:Int),y1,y2)=((ae (Ac y1 y2) 1 (List.range y1.length) 0 ()).1,(tl y1 y2) (ae (Ac y1 y2) 1 (List.range y1.length) 0 ()).2.1 (ae (Ac y1 y2) 1 (List.range y1.length) 0 ()).2.2):=by
 have key:=eK.along (tl y1 y2) Qo (Ac y1 y2) 1 (fun _ _=>True) (List.range y1.length) () (by trivial) (by simp only [eK,tl,List.length_range];omega) (fun i b a hb hI=> ?_) (fun a hI=> ?_)
 ·exact key
 ·obtain⟨⟩:=a
  obtain⟨rfl,hlt⟩:=eu hb
  have hw:IntKind.i64.wrap ((b:Int) + 1)=((b + 1:Nat):Int):=by rw [aw (by omega) (by omega)];omega
  have hdec:ltI (b:Int) (y1.length:Int)=true:=bZ (by omega)
  have hnn:leI (0:Int) (b:Int)=true:=bC (by omega)
  have hltd:ltN b y1.length=true:=cB (by omega)
  refine⟨?_,?_,?_,?_⟩
  ·simp [xD,xE,Ai,Aj,FI,FJ,FK,FL,FM,Ed,eK,LT.nds,allT,tl,hdec,hnn,hltd,he]
  ·simp [xD,xE,Ai,Aj,FI,FJ,FK,FL,FM,Ed,eK,LT.each,tl,Qo,hw,he]
  ·simp only [xD,xE,Ai,Aj,FI,FJ,FK,FL,FM,Ed,eK,LT.fn,tl,Qo,Ac,Int.toNat_natCast,hdec,cond_true]
  ·exact fun _ _=>trivial
 ·obtain⟨⟩:=a
  simp [xD,xE,Ai,Aj,FI,FJ,FK,FL,FM,Ed,eK,LT.out,tl,List.length_range]
theorem awc(xs:List (Int×Int))(hn:leN xs.length 1048576=true):Sc xs=xs∧Sd xs=true:=by
 have hn:=bT.1 hn
 have hr:(List.replicate (Int.toNat (xs.length:Int)) ((0:Int),(0:Int))).length=xs.length:=by simp
 obtain⟨w1,w2⟩:=alV xs (List.replicate (Int.toNat (xs.length:Int)) ((0:Int),(0:Int))) (by omega) hr
 have hc:=Og (xs:=xs) (d:=((0:Int),(0:Int))) (g:=fun x=>x) (f:=uu xs) (e:=0) (fun b a=>rfl) hr
 rw [hc]at w2
 refine⟨?_,?_⟩
 ·simp only [PI,Sc,Sd,w2,ql];simp
 ·simp only [PI,Sc,Sd,w1,allT];simp;omega
def afY:List SV→List Entry→Option Out
 | [.one ⟨false,[.ref 0]⟩],[.row false 212 (.pair (.int .i64) (.int .i64)) x0]=>some ⟨(.one ⟨false,[(.ref 1)]⟩),[(.row false 212 axk x0)],[(.row true 176 axk x0)],[leN x0.length 1048576]⟩
 |_,_=>none
def Ym:PF Tryz.prog:=PF.alt ao0 afY (by
 intro args es o h hnd;unfold afY at h;split at h
 ·rename_i x0
  cases h
  have hnd:=bY hnd
  have hh:=awc x0 hnd
  obtain⟨e0,en⟩:=hh
  exact ek rfl (cg en) rfl rfl (by simp only [e0] <;> rfl)
 ·cases h)
theorem avF(xs ys:List (Int×Int))(hn:leN xs.length 9223372036854775807=true):RT xs ys=amf xs ys∧RU xs ys=true:=by
 have hn:=bT.1 hn
 unfold amf
 have h3: ∀ a b:Int×Int,(!OW a.1 a.2 b.1 b.2)= !decide (a=b):=fun a b=>by
  obtain⟨a1,a2⟩:=a;obtain⟨b1,b2⟩:=b
  simp only [OW,Prod.mk.injEq]
  by_cases h1:a1=b1 <;> by_cases h2:a2=b2 <;> simp [h1,h2]
 by_cases hl:ys.length=xs.length
 ·obtain⟨w1,w2⟩:=alT xs ys hn hl
  have ha:=ajK (d:=((0:Int),(0:Int))) hl (P:=fun b=> !decide (Option.getD xs[b]? (0,0)=Option.getD ys[b]? (0,0))) (fun b=>rfl)
  rw [jp (P:=fun b=> !decide (Option.getD xs[b]? (0,0)=Option.getD ys[b]? (0,0))) (j:=0) (fun b=>by simp only [Ac,h3]),ha]at w2
  simp only [PB,PC,RT,RU,w1,w2,allT]
  by_cases he:xs=ys
  ·subst he;simp;decide
  ·simp [he,hl]
 ·have hne:xs≠ys:=fun h=>hl (by rw [h])
  simp [PB,PC,RT,RU,allT,hne]
  omega
def afW:List SV→List Entry→Option Out
 | [.one ⟨false,[.ref 0]⟩,.one ⟨false,[.ref 1]⟩],[.row false 176 (.pair (.int .i64) (.int .i64)) x0,.row false 176 (.pair (.int .i64) (.int .i64)) x1]=>some ⟨(.one ⟨false,[(.val (.bool (amf x0 x1)))]⟩),[(.row false 176 axk x0),(.row false 176 axk x1)],[],[leN x0.length 9223372036854775807]⟩
 |_,_=>none
def Yk:PF Tryz.prog:=PF.alt aoY afW (by
 intro args es o h hnd;unfold afW at h;split at h
 ·rename_i x0 x1
  cases h
  have hnd:=bY hnd
  have hh:=avF x0 x1 hnd
  obtain⟨e0,en⟩:=hh
  exact ek rfl (cg en) (by simp only [e0] <;> rfl) rfl rfl
 ·cases h)
def ahi(m:Nat)(rs:List (List Int)):Bool:=leN rs.length m&&rs.all fun x=>leN x.length m
def aqJ(xs ys:List (List Int)):Bool:=decide (xs=ys)
theorem ahj{m:Nat}{rs:List (List Int)}:ahi m rs=true↔rs.length≤m∧ ∀ x∈rs,x.length≤m:=by
 simp only [ahi,Bool.and_eq_true,bT,List.all_eq_true]
def rf(y1:List (List Int))(b:Nat):(List (List Int))→Nat ⊕ (List (List Int))
 |y2=>(.inr (List.set y2 b (Option.getD y1[b]? (wu (CTy.sl (2:TypeId) axl)))))
def mc(y1:List (List Int))(i:Nat):(List (List Int))→jy
 |y2=>((i:Int),y1,y2)
def Nd:jy→List (List Int)
 |(_,_,y2)=>y2
theorem aiw(y1 y2:List (List Int))(hn:y1.length≤9223372036854775807)(hl:y2.length=y1.length)(hA: ∀ x∈y1,x.length≤1048576):
  dZ.fin ((0:Int),y1,y2)=true∧dZ.res ((0:Int),y1,y2)=((ae (rf y1) 0 (List.range y1.length) 0 y2).1,(mc y1) (ae (rf y1) 0 (List.range y1.length) 0 y2).2.1 (ae (rf y1) 0 (List.range y1.length) 0 y2).2.2):=by
 have key:=dZ.along (mc y1) Nd (rf y1) 0 (fun _ a=>a.length=y1.length) (List.range y1.length) y2 hl (by simp only [dZ,mc,List.length_range];omega) (fun i b a hb hI=> ?_) (fun a hI=> ?_)
 ·exact key
 ·obtain y2:=a
  obtain⟨rfl,hlt⟩:=eu hb
  have hw:IntKind.i64.wrap ((b:Int) + 1)=((b + 1:Nat):Int):=by rw [aw (by omega) (by omega)];omega
  have hdec:ltI (b:Int) (y1.length:Int)=true:=bZ (by omega)
  have hnn:leI (0:Int) (b:Int)=true:=bC (by omega)
  have hltd:ltN b y1.length=true:=cB (by omega)
  refine⟨?_,?_,?_,?_⟩
  ·have hI2:a.length=y1.length:=hI
   have h6:leN (pX (b:Int) y1).length 1048576=true:=fk (by
    simp only [pX,Int.toNat_natCast]
    cases hq:y1[b]? with
    |none=>exact Nat.zero_le _
    |some x=>exact hA x (List.mem_of_getElem? hq))
   simp [vA,vB,BG,BH,BI,BJ,zr,dZ,LT.nds,allT,mc,hdec,hnn,hltd,hI2,h6]
  ·simp [pX,vA,vB,BG,BH,BI,BJ,Io,Ip,zr,dZ,LT.each,mc,Nd,hw]
  ·simp only [pX,vA,vB,BG,BH,BI,BJ,Io,Ip,zr,dZ,LT.fn,mc,Nd,rf,Int.toNat_natCast,hdec,cond_true]
  ·intro a' hf;simp only [rf,Sum.inr.injEq]at hf;subst hf;simpa using hI
 ·obtain y2:=a
  simp [pX,vA,vB,BG,BH,BI,BJ,Io,Ip,zr,dZ,LT.out,mc,List.length_range]
theorem awd(xs:List (List Int))(h:ahi 1048576 xs=true):Un xs=xs∧Uo xs=true:=by
 obtain⟨hn,hA⟩:=ahj.1 h
 have hr:(List.replicate (Int.toNat (xs.length:Int)) ([]:List Int)).length=xs.length:=by simp
 obtain⟨w1,w2⟩:=aiw xs (List.replicate (Int.toNat (xs.length:Int)) []) (by omega) hr hA
 have hc:=Og (xs:=xs) (d:=([]:List Int)) (g:=fun x=>x) (f:=rf xs) (e:=0) (fun b a=>rfl) hr
 rw [hc]at w2
 refine⟨?_,?_⟩
 ·simp only [Un,Mk,w2,mc];simp
 ·simp only [Uo,Mk,w1,allT];simp;omega
def abZ:List SV→List Entry→Option Out
 | [.one ⟨false,[.ref 0]⟩],[.row false 24 (.sl 2 (.int .i64)) x0]=>some ⟨(.one ⟨false,[(.ref 1)]⟩),[(.row false 24 (CTy.sl (2:TypeId) axl) x0)],[(.tree 24 (CTy.sl (2:Nat) axl) x0 none)],[ahi 1048576 x0]⟩
 |_,_=>none
def UC:PF Tryz.prog:=PF.alt amR abZ (by
 intro args es o h hnd;unfold abZ at h;split at h
 ·rename_i x0
  cases h
  have hnd:=bY hnd
  have hh:=awd x0 hnd
  obtain⟨e0,en⟩:=hh
  exact ek rfl (cg en) rfl rfl (by simp only [e0] <;> rfl)
 ·cases h)
def Ba(y1 y2:List (List Int))(b:Nat):(Unit)→Nat ⊕ (Unit)
 |_=>(bif(!eqL (Option.getD y1[b]? (wu (CTy.sl (2:TypeId) axl))) (Option.getD y2[b]? (wu (CTy.sl (2:TypeId) axl))))then(.inl 0)else(.inr ()))
def qk(y1 y2:List (List Int))(i:Nat):(Unit)→jr
 |_=>((i:Int),y1,y2)
def MX:jr→Unit
 |(_,_,_)=>()
theorem ais(y1 y2:List (List Int)) (hn:y1.length≤9223372036854775807) (he:y2.length=y1.length) (hA: ∀ x∈y1,x.length≤9223372036854775807):
  dh.fin ((0:Int),y1,y2)=true∧dh.res ((0:Int),y1,y2)=((ae (Ba y1 y2) 1 (List.range y1.length) 0 ()).1,(qk y1 y2) (ae (Ba y1 y2) 1 (List.range y1.length) 0 ()).2.1 (ae (Ba y1 y2) 1 (List.range y1.length) 0 ()).2.2):=by
 have key:=dh.along (qk y1 y2) MX (Ba y1 y2) 1 (fun _ _=>True) (List.range y1.length) () (by trivial) (by simp only [dh,qk,List.length_range];omega) (fun i b a hb hI=> ?_) (fun a hI=> ?_)
 ·exact key
 ·obtain⟨⟩:=a
  obtain⟨rfl,hlt⟩:=eu hb
  have hw:IntKind.i64.wrap ((b:Int) + 1)=((b + 1:Nat):Int):=by rw [aw (by omega) (by omega)];omega
  have hdec:ltI (b:Int) (y1.length:Int)=true:=bZ (by omega)
  have hnn:leI (0:Int) (b:Int)=true:=bC (by omega)
  have hltd:ltN b y1.length=true:=cB (by omega)
  refine⟨?_,?_,?_,?_⟩
  ·have h6:leN (pJ (b:Int) y1).length 9223372036854775807=true:=fk (by
    simp only [pJ,Int.toNat_natCast]
    cases hq:y1[b]? with
    |none=>exact Nat.zero_le _
    |some x=>exact hA x (List.mem_of_getElem? hq))
   simp [vk,vl,Be,Bf,Bg,Bh,zl,dh,LT.nds,allT,qk,hdec,hnn,hltd,he,h6]
  ·simp [pJ,vk,vl,Be,Bf,Bg,Bh,Ia,Ib,zl,dh,LT.each,qk,MX,hw]
  ·simp only [pJ,vk,vl,Be,Bf,Bg,Bh,Ia,Ib,zl,dh,LT.fn,qk,MX,Ba,Int.toNat_natCast,hdec,cond_true]
  ·exact fun _ _=>trivial
 ·obtain⟨⟩:=a
  simp [pJ,vk,vl,Be,Bf,Bg,Bh,Ia,Ib,zl,dh,LT.out,qk,List.length_range]
theorem avG(xs ys:List (List Int))(h:ahi 9223372036854775807 xs=true):NU xs ys=aqJ xs ys∧NV xs ys=true:=by
 obtain⟨hn,hA⟩:=ahj.1 h
 unfold aqJ
 by_cases hl:ys.length=xs.length
 ·obtain⟨w1,w2⟩:=ais xs ys hn hl hA
  have ha:=ajK (d:=([]:List Int)) hl (P:=fun b=> !decide (Option.getD xs[b]? []=Option.getD ys[b]? [])) (fun b=>rfl)
  rw [jp (P:=fun b=> !decide (Option.getD xs[b]? []=Option.getD ys[b]? [])) (j:=0) (fun b=>rfl),ha]at w2
  simp only [NU,NV,Mf,RR,w1,w2,allT]
  by_cases he:xs=ys
  ·subst he;simp;decide
  ·simp [he,hl]
 ·have hne:xs≠ys:=fun h=>hl (by rw [h])
  simp [NU,NV,Mf,allT,hne]
  omega
def abR:List SV→List Entry→Option Out
 | [.one ⟨false,[.ref 0]⟩,.one ⟨false,[.ref 1]⟩],[.row false 24 (.sl 2 (.int .i64)) x0,.row false 24 (.sl 2 (.int .i64)) x1]=>some ⟨(.one ⟨false,[(.val (.bool (aqJ x0 x1)))]⟩),[(.row false 24 (CTy.sl (2:TypeId) axl) x0),(.row false 24 (CTy.sl (2:TypeId) axl) x1)],[],[ahi 9223372036854775807 x0]⟩
 |_,_=>none
def Uu:PF Tryz.prog:=PF.alt amI abR (by
 intro args es o h hnd;unfold abR at h;split at h
 ·rename_i x0 x1
  cases h
  have hnd:=bY hnd
  have hh:=avG x0 x1 hnd
  obtain⟨e0,en⟩:=hh
  exact ek rfl (cg en) (by simp only [e0] <;> rfl) rfl rfl
 ·cases h)
def szL:Int→List (List Int)→Option Int
 |k,[]=>some k
 |k,x::r=>bif ltI (szV k x) 0 then none else szL (szV k x) r
def QL(k:Int)(rs:List (List Int)):Int:=bif ltI (k - (rs.length:Int)) 0 then -1 else(szL (k - (rs.length:Int)) rs).getD (-1)
theorem avr{k:Int}{x:List Int}(h:ltI (szV k x) 0=false):(x.length:Int)≤k∧szV k x=k - x.length:=by
 unfold szV at h ⊢
 cases hq:ltI (k - (x.length:Int)) 0 with
 |true=>rw [hq]at h;cases h
 |false=>have:=It.1 hq;exact⟨by omega,rfl⟩
def jA(b:List Int):(Int)→Nat ⊕ (Int)
 |y1=>(bif(ltI (szV y1 b) (0:Int))then(.inl 0)else(.inr (szV y1 b)))
def mb(y2:List (List Int))(i:Nat):(Int)→jx
 |y1=>((i:Int),y1,y2)
def Nc:jx→Int
 |(_,y1,_)=>y1
theorem aiv(y2:List (List Int))(y1:Int)(hn:y2.length≤9223372036854775807)(hA: ∀ x∈y2,x.length≤9223372036854775807)(hk:0≤y1∧y1≤1048576):
  cz.fin ((0:Int),y1,y2)=true∧cz.res ((0:Int),y1,y2)=((ae (jA) 1 y2 0 y1).1,(mb y2) (ae (jA) 1 y2 0 y1).2.1 (ae (jA) 1 y2 0 y1).2.2):=by
 have key:=cz.along (mb y2) Nc (jA) 1 (fun _ a=>0≤a∧a≤1048576) y2 y1 hk (by simp only [cz,mb];omega) (fun i b a hb hI=> ?_) (fun a hI=> ?_)
 ·exact key
 ·obtain y1:=a
  have hlt:=(List.getElem?_eq_some_iff.1 hb).1
  have hget: ∀ d,Option.getD y2[i]? d=b:=fun d=>by rw [hb];rfl
  have hw:=oW hlt hn
  have hdec:ltI (i:Int) (y2.length:Int)=true:=bZ (by omega)
  have hnn:leI (0:Int) (i:Int)=true:=bC (by omega)
  have hltd:ltN i y2.length=true:=cB hlt
  refine⟨?_,?_,?_,?_⟩
  ·have hg2:jT (i:Int) y2=b:=by simp only [jT,Int.toNat_natCast];exact hget _
   have h6:leN b.length 9223372036854775807=true:=fk (hA b (List.mem_of_getElem? hb))
   have h7:leI (-1) a=true:=bC (by have:=hI.1;omega)
   have h8:leI a 1048576=true:=bC hI.2
   simp [vv,Ii,Ij,Ik,zq,cz,LT.nds,allT,mb,hdec,hnn,hltd,hg2,h6,h7,h8]
  ·simp [jT,vv,Ii,Ij,Ik,Il,BF,On,Im,zq,cz,LT.each,mb,Nc,hw]
  ·have hg2:jT (i:Int) y2=b:=by simp only [jT,Int.toNat_natCast];exact hget _
   simp only [vv,Il,Im,zq,cz,LT.fn,mb,Nc,jA,Int.toNat_natCast,hdec,hg2,cond_true]
  ·intro a' hf;simp only [jA]at hf;cases hz:ltI (szV a b) 0 <;> rw [hz]at hf <;> simp at hf;subst hf;have:=avr hz;have:=hI.1;have:=hI.2;omega
 ·obtain y1:=a
  simp [jT,vv,Ii,Ij,Ik,Il,BF,On,Im,zq,cz,LT.out,mb]
theorem at4: ∀ (rs:List (List Int)) (i:Nat) (k:Int),∃ m,ae jA 1 rs i k=(match szL k rs with | some v=>1 | none=>0,m,(ae jA 1 rs i k).2.2)∧ ∀ v,szL k rs=some v→(ae jA 1 rs i k).2.2=v
 | [],i,k=>⟨i,rfl,fun v h=>by simp [szL]at h;simp [ae,h]⟩
 |x::r,i,k=>by
  simp only [ae,jA,szL]
  cases hz:ltI (szV k x) 0 with
  |true=>exact⟨i,rfl,fun v h=>by cases h⟩
  |false=>exact at4 r (i + 1) (szV k x)
theorem awa(k:Int)(rs:List (List Int))(h:(ahi 9223372036854775807 rs&&(leI (-1) k&&leI k 1048576))=true):Ui k rs=QL k rs∧Uj k rs=true:=by
 simp only [Bool.and_eq_true,Sg]at h
 obtain⟨hs,h1,h2⟩:=h
 obtain⟨hn,hA⟩:=ahj.1 hs
 have e0:FZ k rs=k - (rs.length:Int):=by simp only [FZ];rw [aw (by omega) (by omega)]
 simp only [Ui,Uj,Mj,e0,QL]
 cases hz:ltI (k - (rs.length:Int)) 0 with
 |true=>simp [allT]
 |false=>
  have:=It.1 hz
  obtain⟨w1,w2⟩:=aiv rs (k - (rs.length:Int)) (by omega) hA ⟨by omega,by omega⟩
  obtain⟨m,e,hv⟩:=at4 rs 0 (k - (rs.length:Int))
  rw [w1,w2,e]
  cases hq:szL (k - (rs.length:Int)) rs with
  |none=>simp [allT,Nat.beq,BF]
  |some v=>have:=hv v hq;simp [allT,Nat.beq,mb,this]
def abX:List SV→List Entry→Option Out
 | [.one ⟨false,[.ref 0]⟩,.one ⟨false,[.val (.int .i64 x0)]⟩],[.row false 24 (.sl 2 (.int .i64)) x1]=>some ⟨(.one ⟨false,[(.val (.int .i64 (QL x0 x1)))]⟩),[(.row false 24 (CTy.sl (2:TypeId) axl) x1)],[],[ahi 9223372036854775807 x1&&(leI (-1) x0&&leI x0 1048576)]⟩
 |_,_=>none
def UA:PF Tryz.prog:=PF.alt amO abX (by
 intro args es o h hnd;unfold abX at h;split at h
 ·rename_i x0 x1
  cases h
  have hnd:=bY hnd
  have hh:=awa x0 x1 hnd
  obtain⟨e0,en⟩:=hh
  exact ek rfl (cg en) (by simp only [e0] <;> rfl) rfl rfl
 ·cases h)
theorem aqw: ∀ (rs:List (List Int)) (k v:Int),szL k rs=some v→0≤k→(∀ x∈rs,(x.length:Int)≤k)∧0≤v∧v≤k
 | [],k,v,h,h0=>by simp [szL]at h;subst h;exact⟨by simp,h0,by omega⟩
 |x::r,k,v,h,h0=>by
  simp only [szL]at h
  cases hz:ltI (szV k x) 0 with
  |true=>rw [hz]at h;cases h
  |false=>
   rw [hz,cond_false]at h
   obtain⟨a1,a2⟩:=avr hz
   rw [a2]at h
   obtain⟨b1,b2,b3⟩:=aqw r _ v h (by omega)
   refine⟨fun y hy=> ?_,b2,by omega⟩
   rcases List.mem_cons.1 hy with rfl | hy
   ·exact a1
   ·have:=b1 y hy;omega
theorem apn{k:Int}{rs:List (List Int)}(hk:k≤1048576)(h:ltI (QL k rs) 0=false):ahi 1048576 rs=true∧0≤QL k rs∧QL k rs≤k:=by
 have h0:=It.1 h
 unfold QL at h0 ⊢
 cases hz:ltI (k - (rs.length:Int)) 0 with
 |true=>rw [hz]at h0;simp at h0
 |false=>
  have:=It.1 hz
  rw [hz,cond_false]at h0
  cases hq:szL (k - (rs.length:Int)) rs with
  |none=>rw [hq]at h0;simp at h0
  |some v=>
   obtain⟨b1,b2,b3⟩:=aqw rs _ v hq (by omega)
   refine⟨ahj.2 ⟨by omega,fun x hx=>by have:=b1 x hx;omega⟩,?_,?_⟩
   ·simpa using b2
   ·simp;omega
def oX(b:Int):(Unit)→Nat ⊕ (Unit)
 |_=>(bif(!aL b (0:Int) (2:Int))then(.inl 0)else(.inr ()))
def kr(y1:List Int)(i:Nat):(Unit)→fA
 |_=>((i:Int),y1)
def Ht:fA→Unit
 |(_,_)=>()
theorem acR(y1:List Int) (hn:y1.length≤9223372036854775807):
  bE.fin ((0:Int),y1)=true∧bE.res ((0:Int),y1)=((ae (oX) 1 y1 0 ()).1,(kr y1) (ae (oX) 1 y1 0 ()).2.1 (ae (oX) 1 y1 0 ()).2.2):=by
 have key:=bE.along (kr y1) Ht (oX) 1 (fun _ _=>True) y1 () (by trivial) (by simp only [bE,kr];omega) (fun i b a hb hI=> ?_) (fun a hI=> ?_)
 ·exact key
 ·obtain⟨⟩:=a
  have hlt:=(List.getElem?_eq_some_iff.1 hb).1
  have hget: ∀ d,Option.getD y1[i]? d=b:=fun d=>by rw [hb];rfl
  have hw:=oW hlt hn
  have hdec:ltI (i:Int) (y1.length:Int)=true:=bZ (by omega)
  have hnn:leI (0:Int) (i:Int)=true:=bC (by omega)
  have hltd:ltN i y1.length=true:=cB hlt
  refine⟨?_,?_,?_,?_⟩
  ·simp [pv,tN,tO,tP,tQ,sM,bE,LT.nds,allT,kr,hdec,hnn,hltd,hget]
  ·simp [pv,tN,tO,tP,tQ,sM,bE,LT.each,kr,Ht,hw]
  ·simp only [pv,tN,tO,tP,tQ,sM,bE,LT.fn,kr,Ht,oX,Int.toNat_natCast,hdec,hnn,hltd,hget,cond_true,Bool.cond_self]
  ·exact fun _ _=>trivial
 ·obtain⟨⟩:=a
  simp [pv,tN,tO,tP,tQ,sM,bE,LT.out,kr]
def dz(b:Int):(Unit)→Nat ⊕ (Unit)
 |_=>(bif(sQ b)then(.inl 0)else(.inr ()))
def bx(y2:List Int)(i:Nat):(Unit)→aZ
 |_=>((i:Int),(↑y2.length:Int),y2)
def nW:aZ→Unit
 |(_,_,_)=>()
theorem Mx(y2:List Int) (hn:y2.length≤9223372036854775807):
  ao.fin ((0:Int),(↑y2.length:Int),y2)=true∧ao.res ((0:Int),(↑y2.length:Int),y2)=((ae (dz) 1 y2 0 ()).1,(bx y2) (ae (dz) 1 y2 0 ()).2.1 (ae (dz) 1 y2 0 ()).2.2):=by
 have key:=ao.along (bx y2) nW (dz) 1 (fun _ _=>True) y2 () (by trivial) (by simp only [ao,bx];omega) (fun i b a hb hI=> ?_) (fun a hI=> ?_)
 ·exact key
 ·obtain⟨⟩:=a
  have hlt:=(List.getElem?_eq_some_iff.1 hb).1
  have hget: ∀ d,Option.getD y2[i]? d=b:=fun d=>by rw [hb];rfl
  have hw:=oW hlt hn
  have hdec:ltI (i:Int) (y2.length:Int)=true:=bZ (by omega)
  have hnn:leI (0:Int) (i:Int)=true:=bC (by omega)
  have hltd:ltN i y2.length=true:=cB hlt
  refine⟨?_,?_,?_,?_⟩
  ·simp [gn,gp,gq,gr,gt,gu,fR,ao,LT.nds,allT,bx,hdec,hnn,hltd,hget]
  ·simp [gn,gp,gq,gr,gt,gu,fR,ao,LT.each,bx,nW,hw]
  ·simp only [gn,gp,gq,gr,gt,gu,fR,ao,LT.fn,bx,nW,dz,Int.toNat_natCast,hdec,hnn,hltd,hget,cond_true,Bool.cond_self]
  ·exact fun _ _=>trivial
 ·obtain⟨⟩:=a
  simp [gn,gp,gq,gr,gt,gu,fR,ao,LT.out,bx]
def Cq(b:Int×Int):(Unit)→Nat ⊕ (Unit)
 |_=>(bif(bif(!aL b.1 (1:Int) (366:Int))then true else !aL b.2 (0:Int) (100000:Int))then(.inl 0)else(.inr ()))
def vd(y1:List (Int×Int))(i:Nat):(Unit)→mU
 |_=>((i:Int),y1)
def Sv:mU→Unit
 |(_,_)=>()
theorem am5(y1:List (Int×Int)) (hn:y1.length≤9223372036854775807):
  f4.fin ((0:Int),y1)=true∧f4.res ((0:Int),y1)=((ae (Cq) 1 y1 0 ()).1,(vd y1) (ae (Cq) 1 y1 0 ()).2.1 (ae (Cq) 1 y1 0 ()).2.2):=by
 have key:=f4.along (vd y1) Sv (Cq) 1 (fun _ _=>True) y1 () (by trivial) (by simp only [f4,vd];omega) (fun i b a hb hI=> ?_) (fun a hI=> ?_)
 ·exact key
 ·obtain⟨⟩:=a
  have hlt:=(List.getElem?_eq_some_iff.1 hb).1
  have hget: ∀ d,Option.getD y1[i]? d=b:=fun d=>by rw [hb];rfl
  have hw:=oW hlt hn
  have hdec:ltI (i:Int) (y1.length:Int)=true:=bZ (by omega)
  have hnn:leI (0:Int) (i:Int)=true:=bC (by omega)
  have hltd:ltN i y1.length=true:=cB hlt
  refine⟨?_,?_,?_,?_⟩
  ·simp [Au,rD,CH,IW,IX,IY,IZ,Ja,Jb,Jc,Gn,f4,LT.nds,allT,vd,hdec,hnn,hltd,hget]
  ·simp [Au,rD,CH,IW,IX,IY,IZ,Ja,Jb,Jc,Gn,f4,LT.each,vd,Sv,hw]
  ·simp only [Au,rD,CH,IW,IX,IY,IZ,Ja,Jb,Jc,Gn,f4,LT.fn,vd,Sv,Cq,Int.toNat_natCast,hdec,hnn,hltd,hget,cond_true,Bool.cond_self]
  ·exact fun _ _=>trivial
 ·obtain⟨⟩:=a
  simp [Au,rD,CH,IW,IX,IY,IZ,Ja,Jb,Jc,Gn,f4,LT.out,vd]
def ep(b:Int×Int):(Unit)→Nat ⊕ (Unit)
 |_=>(bif(EI b.1 b.2)then(.inl 0)else(.inr ()))
def bG(y2:List (Int×Int))(i:Nat):(Unit)→bf
 |_=>((i:Int),(↑y2.length:Int),y2)
def pZ:bf→Unit
 |(_,_,_)=>()
theorem Of(y2:List (Int×Int)) (hn:y2.length≤9223372036854775807):
  ay.fin ((0:Int),(↑y2.length:Int),y2)=true∧ay.res ((0:Int),(↑y2.length:Int),y2)=((ae (ep) 1 y2 0 ()).1,(bG y2) (ae (ep) 1 y2 0 ()).2.1 (ae (ep) 1 y2 0 ()).2.2):=by
 have key:=ay.along (bG y2) pZ (ep) 1 (fun _ _=>True) y2 () (by trivial) (by simp only [ay,bG];omega) (fun i b a hb hI=> ?_) (fun a hI=> ?_)
 ·exact key
 ·obtain⟨⟩:=a
  have hlt:=(List.getElem?_eq_some_iff.1 hb).1
  have hget: ∀ d,Option.getD y2[i]? d=b:=fun d=>by rw [hb];rfl
  have hw:=oW hlt hn
  have hdec:ltI (i:Int) (y2.length:Int)=true:=bZ (by omega)
  have hnn:leI (0:Int) (i:Int)=true:=bC (by omega)
  have hltd:ltN i y2.length=true:=cB hlt
  refine⟨?_,?_,?_,?_⟩
  ·simp [ef,gR,gS,gT,gU,gV,gW,gK,ay,LT.nds,allT,bG,hdec,hnn,hltd,hget]
  ·simp [ef,gR,gS,gT,gU,gV,gW,gK,ay,LT.each,bG,pZ,hw]
  ·simp only [ef,gR,gS,gT,gU,gV,gW,gK,ay,LT.fn,bG,pZ,ep,Int.toNat_natCast,hdec,hnn,hltd,hget,cond_true,Bool.cond_self]
  ·exact fun _ _=>trivial
 ·obtain⟨⟩:=a
  simp [ef,gR,gS,gT,gU,gV,gW,gK,ay,LT.out,bG]
theorem aob(n:Nat)(k:Int)(hk:0≤k):leI (n:Int) k=leN n k.toNat:=by
 rw [Bool.eq_iff_iff,Sg,bT];omega
theorem asq(st:List Int)(hn:leN st.length 9223372036854775807=true):Nv st=areR st∧Nw st=true:=by
 obtain⟨w1,w2⟩:=acR st (bT.1 hn)
 rw [jp (P:=fun v=> !inR v 0 2) (j:=0) (fun v=>by simp only [oX,aL,vK])]at w2
 have e5:(st.any fun v=> !inR v 0 2)= !st.all fun v=>inR v 0 2:=by simp [List.all_eq_not_any_not]
 rw [e5]at w2
 simp only [Nv,Nw,w1,w2,allT,areR,aL,vK]
 cases (st.all fun v=>inR v 0 2) <;> cases inR (st.length:Int) 1 12 <;> simp [Nat.beq]
theorem arS(st:List Int)(hn:leN st.length 9223372036854775807=true):MP st=areR st∧MQ st=true:=by
 obtain⟨w1,w2⟩:=Mx st (bT.1 hn)
 rw [jp (P:=fun v=> !inR v 0 2) (j:=0) (fun v=>by simp only [dz,sQ,ba,vK])]at w2
 have e5:(st.any fun v=> !inR v 0 2)= !st.all fun v=>inR v 0 2:=by simp [List.all_eq_not_any_not]
 rw [e5]at w2
 simp only [MP,MQ,oS,oT,rx,ry,kE,w1,w2,allT,areR,Ag,ba,cY,vK,bx]
 cases hr:inR (st.length:Int) 1 12 with
 |false=>simp
 |true=>
  cases (st.all fun v=>inR v 0 2)with
  |true=>
   have q:leI 0 (-1)=false:=rfl
   simp [Nat.beq,q]
  |false=>
   simp only [Bool.not_false,cond_true,Nat.beq,Bool.and_false]
   rw [bC (by omega)];simp
theorem asp(pl:List (Int×Int))(hn:leN pl.length 9223372036854775807=true):aba pl=okPl pl∧abb pl=true:=by
 obtain⟨w1,w2⟩:=am5 pl (bT.1 hn)
 rw [jp (P:=fun t=> !apb t) (j:=0) (fun t=>by simp only [Cq,aL,vK,apb];cases inR t.1 1 366 <;> rfl)]at w2
 have e5:(pl.any fun t=> !apb t)= !pl.all apb:=by simp [List.all_eq_not_any_not]
 rw [e5]at w2
 simp only [aba,abb,w1,w2,allT,okPl,aob pl.length 12 (by omega)]
 cases pl.all apb <;> simp [Nat.beq]
theorem arR(pl:List (Int×Int))(hn:leN pl.length 9223372036854775807=true):aaL pl=okPl pl∧aaM pl=true:=by
 obtain⟨w1,w2⟩:=Of pl (bT.1 hn)
 rw [jp (P:=fun t=> !apb t) (j:=0) (fun t=>by simp only [ep,EI,yp,ba,vK,apb];cases inR t.1 1 366 <;> rfl)]at w2
 have e5:(pl.any fun t=> !apb t)= !pl.all apb:=by simp [List.all_eq_not_any_not]
 rw [e5]at w2
 simp only [aaL,aaM,XW,qT,qU,te,tf,lL,w1,w2,allT,okPl,aob pl.length 12 (by omega),bG]
 cases hr:leN pl.length (Int.toNat 12)with
 |false=>
  simp at hr
  simp [hr]
  intro h;omega
 |true=>
  simp at hr
  cases pl.all apb with
  |true=>
   have q:leI 0 (-1)=false:=rfl
   simp [Nat.beq,hr,q]
  |false=>
   simp only [Bool.not_false,cond_true,Nat.beq,Bool.and_false]
   rw [bC (by omega)];simp
def Vn:List SV→List Entry→Option Out
 | [.one ⟨false,[.ref 0]⟩],[.row false 2 (.int .i64) x0]=>some ⟨(.one ⟨false,[(.val (.bool (areR x0)))]⟩),[(.row false 2 axl x0)],[],[leN x0.length 9223372036854775807]⟩
 |_,_=>none
def jX:PF Tryz.prog:=PF.alt ag2 Vn (by
 intro args es o h hnd;unfold Vn at h;split at h
 ·rename_i x0
  cases h
  have hnd:=bY hnd
  have hh:=asq x0 hnd
  obtain⟨e0,en⟩:=hh
  exact ek rfl (cg en) (by simp only [e0] <;> rfl) rfl rfl
 ·cases h)
def Vk:List SV→List Entry→Option Out
 | [.one ⟨false,[.ref 0]⟩],[.row false 2 (.int .i64) x0]=>some ⟨(.one ⟨false,[(.val (.bool (areR x0)))]⟩),[(.row false 2 axl x0)],[],[leN x0.length 9223372036854775807]⟩
 |_,_=>none
def tL:PF Tryz.prog:=PF.alt agZ Vk (by
 intro args es o h hnd;unfold Vk at h;split at h
 ·rename_i x0
  cases h
  have hnd:=bY hnd
  have hh:=arS x0 hnd
  obtain⟨e0,en⟩:=hh
  exact ek rfl (cg en) (by simp only [e0] <;> rfl) rfl rfl
 ·cases h)
def aiW:List SV→List Entry→Option Out
 | [.one ⟨false,[.ref 0]⟩],[.row false 173 (.pair (.int .i64) (.int .i64)) x0]=>some ⟨(.one ⟨false,[(.val (.bool (okPl x0)))]⟩),[(.row false 173 axk x0)],[],[leN x0.length 9223372036854775807]⟩
 |_,_=>none
def yC:PF Tryz.prog:=PF.alt apL aiW (by
 intro args es o h hnd;unfold aiW at h;split at h
 ·rename_i x0
  cases h
  have hnd:=bY hnd
  have hh:=asp x0 hnd
  obtain⟨e0,en⟩:=hh
  exact ek rfl (cg en) (by simp only [e0] <;> rfl) rfl rfl
 ·cases h)
def aiU:List SV→List Entry→Option Out
 | [.one ⟨false,[.ref 0]⟩],[.row false 173 (.pair (.int .i64) (.int .i64)) x0]=>some ⟨(.one ⟨false,[(.val (.bool (okPl x0)))]⟩),[(.row false 173 axk x0)],[],[leN x0.length 9223372036854775807]⟩
 |_,_=>none
def yB:PF Tryz.prog:=PF.alt apI aiU (by
 intro args es o h hnd;unfold aiU at h;split at h
 ·rename_i x0
  cases h
  have hnd:=bY hnd
  have hh:=arR x0 hnd
  obtain⟨e0,en⟩:=hh
  exact ek rfl (cg en) (by simp only [e0] <;> rfl) rfl rfl
 ·cases h)
end Go.SX

namespace Go.SX
open Go.Proofs
set_option maxRecDepth 100000
theorem Lp.scan{X:Type}(p:Lp X)(st:Nat→X)(N:Nat)(P:Nat→Bool)(e:Nat)(hN:N≤p.fuel (st 0))
  (hs: ∀ b,b < N→(p.lt (st b)).nds=true∧(p.lt (st b)).each (fun y=>y=st (b + 1))∧(p.lt (st b)).fn (fun _=>())=(bif P b then .inl 0 else .inr ()))
  (he:(p.lt (st N)).out=some (.inl e)):p.fin (st 0)=true∧(p.res (st 0)).1=bif(List.range N).any P then 0 else e:=by
 have key:=p.along (fun i (_:Unit)=>st i) (fun _=>()) (fun(b:Nat) (_:Unit)=>bif P b then .inl 0 else .inr ()) e (fun _ _=>True) (List.range N) () trivial (by rw [List.length_range];exact hN)
  (fun i b a hb _=>by
   obtain⟨rfl,hlt⟩:=eu hb
   obtain⟨h1,h2,h3⟩:=hs b hlt
   exact⟨h1,h2,h3,fun _ _=>trivial⟩) (fun a _=>by rw [List.length_range];exact he)
 rw [jp (P:=P) (j:=0) (fun b=>rfl)]at key
 exact⟨key.1,by rw [key.2]⟩
def lc(y2:List (Int×(Int×Int)))(y3 y4:Int)(b:Nat):(Unit)→Nat ⊕ (Unit)
 |_=>(bif(bif((Option.getD y2[b]? ((0:Int),(0:Int),(0:Int))).1==y3)then ((Option.getD y2[b]? ((0:Int),(0:Int),(0:Int))).2).1==y4 else false)then(.inl 0)else(.inr ()))
def iC(y1:Int)(y2:List (Int×(Int×Int)))(y3 y4 y5:Int)(i:Nat):(Unit)→dv
 |_=>((i:Int),y1,y2,y3,y4,y5)
def Cj:dv→Unit
 |(_,_,_,_,_,_)=>()
theorem Zj(y1:Int)(y2:List (Int×(Int×Int)))(y3 y4 y5:Int) (hn:y1≤9223372036854775807) (hb:y1≤(y2.length:Int)):
  bh.fin ((0:Int),y1,y2,y3,y4,y5)=true∧bh.res ((0:Int),y1,y2,y3,y4,y5)=((ae (lc y2 y3 y4) 1 (List.range y1.toNat) 0 ()).1,(iC y1 y2 y3 y4 y5) (ae (lc y2 y3 y4) 1 (List.range y1.toNat) 0 ()).2.1 (ae (lc y2 y3 y4) 1 (List.range y1.toNat) 0 ()).2.2):=by
 have key:=bh.along (iC y1 y2 y3 y4 y5) Cj (lc y2 y3 y4) 1 (fun _ _=>True) (List.range y1.toNat) () (by trivial) (by simp only [bh,iC,List.length_range];omega) (fun i b a hb hI=> ?_) (fun a hI=> ?_)
 ·exact key
 ·obtain⟨⟩:=a
  obtain⟨rfl,hlt⟩:=eu hb
  have hw:IntKind.i64.wrap ((b:Int) + 1)=((b + 1:Nat):Int):=by rw [aw (by omega) (by omega)];omega
  have hdec:ltI (b:Int) y1=true:=bZ (by omega)
  have hnn:leI (0:Int) (b:Int)=true:=bC (by omega)
  refine⟨?_,?_,?_,?_⟩
  ·have h1:ltI (b:Int) (y2.length:Int)=true:=bZ (by omega)
   have h2:ltN b y2.length=true:=cB (by omega)
   simp [kG,ge,qa,qb,qc,qd,qe,qf,qg,qh,qi,oh,bh,LT.nds,allT,iC,hdec,hnn,h1,h2]
  ·simp [kG,ge,qa,qb,qc,qd,qe,qf,qg,qh,qi,oh,bh,LT.each,iC,Cj,hw]
  ·simp only [kG,ge,qa,qb,qc,qd,qe,qf,qg,qh,qi,oh,bh,LT.fn,iC,Cj,lc,Int.toNat_natCast,hdec,hnn,cond_true,Bool.cond_self]
  ·exact fun _ _=>trivial
 ·obtain⟨⟩:=a
  simp only [kG,ge,qa,qb,qc,qd,qe,qf,qg,qh,qi,oh,bh,LT.out,iC,List.length_range,acw,agR,cond_false]
theorem atc(fs:List (Int×Int×Int))(b:Nat)(hb:b < fs.length)(hn:fs.length≤9223372036854775807):
  Rl (b:Int) fs=true∧IV (b:Int) fs=aos fs b:=by
 obtain⟨w1,w2⟩:=Zj (b:Int) fs (fAt fs b).1 (fAt fs b).2.1 (fAt fs b).2.2 (by omega) (by omega)
 rw [jp (P:=fun j=>XJ (fAt fs b) (fs[j]?.getD (0,0,0))) (j:=0) (fun j=>by
  simp only [lc,XJ];cases (fs[j]?.getD (0,0,0)).1==(fAt fs b).1 <;> rfl),Int.toNat_natCast,arq (by omega)]at w2
 refine⟨w1,?_⟩
 have e:HA (b:Int) fs=(0,(b:Int),fs,(fAt fs b).1,(fAt fs b).2.1,(fAt fs b).2.2):=rfl
 simp only [IV,e,w2,aos]
 cases (fs.take b).any (XJ (fAt fs b)) <;> rfl
theorem avp(n:Int)(fs:List (Int×Int×Int))(b:Nat):IU (b:Int) n fs=ajT n fs b:=by
 simp only [IU,aL,ajT,fIn,fAt,kq,Int.toNat_natCast,vK]
 cases inR (fs[b]?.getD (0,0,0)).1 0 (IntKind.i64.wrap (n - 1)) <;> cases inR (fs[b]?.getD (0,0,0)).2.1 0 1 <;> cases inR (fs[b]?.getD (0,0,0)).2.2 0 1 <;> rfl
theorem avx(n:Int)(fs:List (Int×Int×Int))(hn:fs.length≤9223372036854775807):
  br.fin ((0:Int),n,fs)=true∧br.res ((0:Int),n,fs)=((ae (fF n fs) 2 (List.range fs.length) 0 ()).1,(((ae (fF n fs) 2 (List.range fs.length) 0 ()).2.1:Int),n,fs)):=by
 have key:=br.along (fun i _=>((i:Int),n,fs)) (fun _=>()) (fF n fs) 2 (fun _ _=>True) (List.range fs.length) () trivial (by simp only [br,List.length_range];omega) (fun i b a hb hI=> ?_) (fun a hI=> ?_)
 ·exact key
 ·obtain⟨rfl,hlt⟩:=eu hb
  have hw:IntKind.i64.wrap ((b:Int) + 1)=((b + 1:Nat):Int):=by rw [aw (by omega) (by omega)];omega
  have hdec:ltI (b:Int) (fs.length:Int)=true:=bZ (by omega)
  have hnn:leI (0:Int) (b:Int)=true:=bC (by omega)
  have hltd:ltN b fs.length=true:=cB (by omega)
  obtain⟨i1,i2⟩:=atc fs b hlt hn
  have i3:=avp n fs b
  refine⟨?_,?_,?_,?_⟩
  ·simp [br,sL,LT.nds,allT,tM,Rj,Rk,hdec,hnn,hltd,i1]
  ·simp [br,sL,LT.each,Rm,hw]
  ·simp only [br,sL,LT.fn,tM,hdec,i2,i3,fF,cond_true]
  ·exact fun _ _=>trivial
 ·simp [br,sL,LT.out,tM,List.length_range]
theorem auA(n:Int)(fs:List (Int×Int×Int))(hn:leN fs.length 9223372036854775807=true):Nt n fs=lfOk n fs∧Nu n fs=true:=by
 obtain⟨w1,w2⟩:=avx n fs (bT.1 hn)
 obtain⟨k,m,e,h⟩:=alZ n fs (List.range fs.length) 0
 rw [e]at w2
 refine⟨?_,?_⟩
 ·have hl:leI (fs.length:Int) 8=leN fs.length 8:=by rw [Bool.eq_iff_iff];simp;omega
  simp only [Nt,xk,w2,aL,vK,lfOk,okFs,hl]
  rcases h with⟨rfl,h⟩ | ⟨rfl | rfl,h⟩ <;> rw [h]
  ·cases inR n 1 12 <;> cases leN fs.length 8 <;> rfl
  ·cases inR n 1 12 <;> cases leN fs.length 8 <;> rfl
  ·cases inR n 1 12 <;> cases leN fs.length 8 <;> rfl
 ·simp only [Nu,xk,w1,allT,cond_true]
def Vm:List SV→List Entry→Option Out
 | [.one ⟨false,[.val (.int .i64 x0)]⟩,.one ⟨false,[.ref 0]⟩],[.row false 100 (.pair (.int .i64) (.pair (.int .i64) (.int .i64))) x1]=>some ⟨(.one ⟨false,[(.val (.bool (lfOk x0 x1)))]⟩),[(.row false 100 axj x1)],[],[leN x1.length 9223372036854775807]⟩
 |_,_=>none
def jW:PF Tryz.prog:=PF.alt ag1 Vm (by
 intro args es o h hnd;unfold Vm at h;split at h
 ·rename_i x0 x1
  cases h
  have hnd:=bY hnd
  have hh:=auA x0 x1 hnd
  obtain⟨e0,en⟩:=hh
  exact ek rfl (cg en) (by simp only [e0] <;> rfl) rfl rfl
 ·cases h)
def cL(y2 y3:Int)(b:Int×(Int×Int)):(Unit)→Nat ⊕ (Unit)
 |_=>(bif(sP b.1 (b.2.1) y2 y3)then(.inl 0)else(.inr ()))
def bn(y2 y3 y4:Int)(y5:List (Int×(Int×Int)))(i:Nat):(Unit)→aQ
 |_=>((i:Int),(↑y5.length:Int),y2,y3,y4,y5)
def lT:aQ→Unit
 |(_,_,_,_,_,_)=>()
theorem KP(y2 y3 y4:Int)(y5:List (Int×(Int×Int))) (hn:y5.length≤9223372036854775807):
  aj.fin ((0:Int),(↑y5.length:Int),y2,y3,y4,y5)=true∧aj.res ((0:Int),(↑y5.length:Int),y2,y3,y4,y5)=((ae (cL y2 y3) 1 y5 0 ()).1,(bn y2 y3 y4 y5) (ae (cL y2 y3) 1 y5 0 ()).2.1 (ae (cL y2 y3) 1 y5 0 ()).2.2):=by
 have key:=aj.along (bn y2 y3 y4 y5) lT (cL y2 y3) 1 (fun _ _=>True) y5 () (by trivial) (by simp only [aj,bn];omega) (fun i b a hb hI=> ?_) (fun a hI=> ?_)
 ·exact key
 ·obtain⟨⟩:=a
  have hlt:=(List.getElem?_eq_some_iff.1 hb).1
  have hget: ∀ d,Option.getD y5[i]? d=b:=fun d=>by rw [hb];rfl
  have hw:=oW hlt hn
  have hdec:ltI (i:Int) (y5.length:Int)=true:=bZ (by omega)
  have hnn:leI (0:Int) (i:Int)=true:=bC (by omega)
  have hltd:ltN i y5.length=true:=cB hlt
  refine⟨?_,?_,?_,?_⟩
  ·simp [cE,eR,eS,eT,eU,eV,eW,eo,aj,LT.nds,allT,bn,hdec,hnn,hltd,hget]
  ·simp [cE,eR,eS,eT,eU,eV,eW,eo,aj,LT.each,bn,lT,hw]
  ·simp only [cE,eR,eS,eT,eU,eV,eW,eo,aj,LT.fn,bn,lT,cL,Int.toNat_natCast,hdec,hnn,hltd,hget,cond_true,Bool.cond_self]
  ·exact fun _ _=>trivial
 ·obtain⟨⟩:=a
  simp [cE,eR,eS,eT,eU,eV,eW,eo,aj,LT.out,bn]
theorem arO(xs:List (Int×Int×Int))(f:Int×Int×Int)(hn:xs.length≤9223372036854775807):
  eP xs f.1 f.2.1 f.2.2=xs.any (XJ f)∧eQ xs f.1 f.2.1 f.2.2=true:=by
 obtain⟨w1,w2⟩:=KP f.1 f.2.1 f.2.2 xs hn
 rw [jp (P:=XJ f) (j:=0) (fun t=>by
  simp only [cL,sP,XJ];cases t.1==f.1 <;> rfl)]at w2
 refine⟨?_,?_⟩
 ·simp only [eP,mz,mA,mB,eQ,fT,dq,jE,jF,jG,jH,jI,w2,bn]
  cases xs.any (XJ f)with
  |false=>rfl
  |true=>exact bC (Int.natCast_nonneg _)
 ·simp only [eP,mz,mA,mB,eQ,fT,dq,jE,jF,jG,jH,jI,w1,allT,cond_true]
theorem au5(n:Int)(fs:List (Int×Int×Int))(b:Nat):Iz (b:Int) n fs=ajT n fs b:=by
 simp only [Iz,ba,ajT,fIn,fAt,eB,Int.toNat_natCast,vK]
 cases inR (fs[b]?.getD (0,0,0)).1 0 (IntKind.i64.wrap (n - 1)) <;> cases inR (fs[b]?.getD (0,0,0)).2.1 0 1 <;> cases inR (fs[b]?.getD (0,0,0)).2.2 0 1 <;> rfl
theorem avw(n:Int)(fs:List (Int×Int×Int))(hn:fs.length≤9223372036854775807):
  bq.fin ((0:Int),(fs.length:Int),n,fs)=true∧bq.res ((0:Int),(fs.length:Int),n,fs)=((ae (fF n fs) 2 (List.range fs.length) 0 ()).1,(((ae (fF n fs) 2 (List.range fs.length) 0 ()).2.1:Int),(fs.length:Int),n,fs)):=by
 have key:=bq.along (fun i _=>((i:Int),(fs.length:Int),n,fs)) (fun _=>()) (fF n fs) 2 (fun _ _=>True) (List.range fs.length) () trivial (by simp only [bq,List.length_range];omega) (fun i b a hb hI=> ?_) (fun a hI=> ?_)
 ·exact key
 ·obtain⟨rfl,hlt⟩:=eu hb
  have hw:IntKind.i64.wrap ((b:Int) + 1)=((b + 1:Nat):Int):=by rw [aw (by omega) (by omega)];omega
  have hdec:ltI (b:Int) (fs.length:Int)=true:=bZ (by omega)
  have hle:leI (b:Int) (fs.length:Int)=true:=bC (by omega)
  have hnn:leI (0:Int) (b:Int)=true:=bC (by omega)
  have hltd:ltN b fs.length=true:=cB (by omega)
  obtain⟨i2,i1⟩:=arO (fs.take b) (fAt fs b) (by rw [List.length_take];omega)
  have i2:QX (b:Int) fs=aos fs b:=i2
  have i1:QW (b:Int) fs=true:=i1
  have i3:=au5 n fs b
  refine⟨?_,?_,?_,?_⟩
  ·simp [bq,sK,LT.nds,allT,Af,Iy,QS,QT,QU,QV,hdec,hnn,hltd,hle,i1]
  ·simp [bq,sK,LT.each,QY,hw]
  ·simp only [bq,sK,LT.fn,Af,hdec,i2,i3,fF,cond_true]
  ·exact fun _ _=>trivial
 ·simp [bq,sK,LT.out,Af,List.length_range]
theorem aug(n:Int)(fs:List (Int×Int×Int))(hn:leN fs.length 9223372036854775807=true):MN n fs=lfOk n fs∧MO n fs=true:=by
 obtain⟨w1,w2⟩:=avw n fs (bT.1 hn)
 obtain⟨k,m,e,h⟩:=alZ n fs (List.range fs.length) 0
 rw [e]at w2
 refine⟨?_,?_⟩
 ·have hl:leI (fs.length:Int) 8=leN fs.length 8:=by rw [Bool.eq_iff_iff];simp;omega
  simp only [MN,wv,w2,Ag,ba,vK,lfOk,okFs,hl]
  rcases h with⟨rfl,h⟩ | ⟨rfl | rfl,h⟩ <;> rw [h] <;> cases inR n 1 12 <;> cases leN fs.length 8 <;> rfl
 ·simp only [MO,wv,w1,allT,cond_true]
def Vj:List SV→List Entry→Option Out
 | [.one ⟨false,[.val (.int .i64 x0)]⟩,.one ⟨false,[.ref 0]⟩],[.row false 100 (.pair (.int .i64) (.pair (.int .i64) (.int .i64))) x1]=>some ⟨(.one ⟨false,[(.val (.bool (lfOk x0 x1)))]⟩),[(.row false 100 axj x1)],[],[leN x1.length 9223372036854775807]⟩
 |_,_=>none
def tK:PF Tryz.prog:=PF.alt agY Vj (by
 intro args es o h hnd;unfold Vj at h;split at h
 ·rename_i x0 x1
  cases h
  have hnd:=bY hnd
  have hh:=aug x0 x1 hnd
  obtain⟨e0,en⟩:=hh
  exact ek rfl (cg en) (by simp only [e0] <;> rfl) rfl rfl
 ·cases h)
def Ae(y1 y2:Int)(b:Int×Int):(Unit)→Nat ⊕ (Unit)
 |_=>(bif(bif b.1==y1 then b.2==y2 else false)then(.inl 0)else(.inr ()))
def qp(y1 y2:Int)(y3:List (Int×Int))(i:Nat):(Unit)→lI
 |_=>((i:Int),y1,y2,y3)
def Qt:lI→Unit
 |(_,_,_,_)=>()
theorem alY(y1 y2:Int)(y3:List (Int×Int)) (hn:y3.length≤9223372036854775807):
  dO.fin ((0:Int),y1,y2,y3)=true∧dO.res ((0:Int),y1,y2,y3)=((ae (Ae y1 y2) 1 y3 0 ()).1,(qp y1 y2 y3) (ae (Ae y1 y2) 1 y3 0 ()).2.1 (ae (Ae y1 y2) 1 y3 0 ()).2.2):=by
 have key:=dO.along (qp y1 y2 y3) Qt (Ae y1 y2) 1 (fun _ _=>True) y3 () (by trivial) (by simp only [dO,qp];omega) (fun i b a hb hI=> ?_) (fun a hI=> ?_)
 ·exact key
 ·obtain⟨⟩:=a
  have hlt:=(List.getElem?_eq_some_iff.1 hb).1
  have hget: ∀ d,Option.getD y3[i]? d=b:=fun d=>by rw [hb];rfl
  have hw:=oW hlt hn
  have hdec:ltI (i:Int) (y3.length:Int)=true:=bZ (by omega)
  have hnn:leI (0:Int) (i:Int)=true:=bC (by omega)
  have hltd:ltN i y3.length=true:=cB hlt
  refine⟨?_,?_,?_,?_⟩
  ·simp [ti,tj,Ax,GN,GO,GP,GQ,GR,GS,GU,Ei,dO,LT.nds,allT,qp,hdec,hnn,hltd,hget]
  ·simp [ti,tj,Ax,GN,GO,GP,GQ,GR,GS,GU,Ei,dO,LT.each,qp,Qt,hw]
  ·simp only [ti,tj,Ax,GN,GO,GP,GQ,GR,GS,GU,Ei,dO,LT.fn,qp,Qt,Ae,Int.toNat_natCast,hdec,hnn,hltd,hget,cond_true,Bool.cond_self]
  ·exact fun _ _=>trivial
 ·obtain⟨⟩:=a
  simp [ti,tj,Ax,GN,GO,GP,GQ,GR,GS,GU,Ei,dO,LT.out,qp]
def kt(y2 y3:Int)(b:Int×Int):(Unit)→Nat ⊕ (Unit)
 |_=>(bif(bif y2==b.1then bif y3==b.2then true else false else false)then(.inl 0)else(.inr ()))
def fy(y2 y3:Int)(y4:List (Int×Int))(i:Nat):(Unit)→cV
 |_=>((i:Int),(↑y4.length:Int),y2,y3,y4)
def AP:cV→Unit
 |(_,_,_,_,_)=>()
theorem Xi(y2 y3:Int)(y4:List (Int×Int)) (hn:y4.length≤9223372036854775807):
  aW.fin ((0:Int),(↑y4.length:Int),y2,y3,y4)=true∧aW.res ((0:Int),(↑y4.length:Int),y2,y3,y4)=((ae (kt y2 y3) 1 y4 0 ()).1,(fy y2 y3 y4) (ae (kt y2 y3) 1 y4 0 ()).2.1 (ae (kt y2 y3) 1 y4 0 ()).2.2):=by
 have key:=aW.along (fy y2 y3 y4) AP (kt y2 y3) 1 (fun _ _=>True) y4 () (by trivial) (by simp only [aW,fy];omega) (fun i b a hb hI=> ?_) (fun a hI=> ?_)
 ·exact key
 ·obtain⟨⟩:=a
  have hlt:=(List.getElem?_eq_some_iff.1 hb).1
  have hget: ∀ d,Option.getD y4[i]? d=b:=fun d=>by rw [hb];rfl
  have hw:=oW hlt hn
  have hdec:ltI (i:Int) (y4.length:Int)=true:=bZ (by omega)
  have hnn:leI (0:Int) (i:Int)=true:=bC (by omega)
  have hltd:ltN i y4.length=true:=cB hlt
  refine⟨?_,?_,?_,?_⟩
  ·simp [jP,ol,om,oo,oq,ot,ou,mM,aW,LT.nds,allT,fy,hdec,hnn,hltd,hget]
  ·simp [jP,ol,om,oo,oq,ot,ou,mM,aW,LT.each,fy,AP,hw]
  ·simp only [jP,ol,om,oo,oq,ot,ou,mM,aW,LT.fn,fy,AP,kt,Int.toNat_natCast,hdec,hnn,hltd,hget,cond_true,Bool.cond_self]
  ·exact fun _ _=>trivial
 ·obtain⟨⟩:=a
  simp [jP,ol,om,oo,oq,ot,ou,mM,aW,LT.out,fy]
theorem avL(d o:Int)(ls:List (Int×Int))(hn:ls.length≤9223372036854775807):Js d o ls=(bif ls.any (LB (d,o))then(((ls.takeWhile fun x=> !LB (d,o) x).length:Nat):Int)else -1)∧Tb d o ls=true:=by
 obtain⟨w1,w2⟩:=alY d o ls hn
 rw [jp (P:=LB (d,o)) (j:=0) (fun x=>by simp only [Ae,LB];cases x.1==d <;> rfl)]at w2
 simp only [Js,Tb,PS,w1,w2,allT,qp]
 cases ls.any (LB (d,o)) <;> simp [Nat.beq]
theorem au3(d o:Int)(ls:List (Int×Int))(hn:ls.length≤9223372036854775807):oj d o ls=ls.any (LB (d,o))∧uc d o ls=true:=by
 obtain⟨w1,w2⟩:=Xi d o ls hn
 rw [jp (P:=LB (d,o)) (j:=0) (fun x=>by
  simp only [kt,LB,BEq.comm (a:=d),BEq.comm (a:=o)];cases x.1==d <;> cases x.2==o <;> rfl)]at w2
 simp only [oj,uc,Hy,Hz,wm,w1,w2,allT,fy]
 refine⟨?_,rfl⟩
 cases ls.any (LB (d,o))with
 |false=>rfl
 |true=>exact bC (Int.natCast_nonneg _)
theorem aqa(a b:Int):Tc a b=avV (a,b)∧UR a b=avV (a,b):=by
 simp only [Tc,UR,aL,ba,vK,avV]
 cases inR a 0 23 <;> exact⟨rfl,rfl⟩
theorem asE(ls:List (Int×Int))(hn:ls.length≤9223372036854775807):
  dU.fin ((0:Int),ls)=true∧(dU.res ((0:Int),ls)).1=bif(List.range ls.length).any (fun b=>Pk ls b||agI ls b)then 0 else 1:=by
 refine Lp.scan dU (fun b=>((b:Int),ls)) ls.length (fun b=>Pk ls b||agI ls b) 1 (by simp only [dU];omega) (fun b hb=> ?_) ?_
 ·have hdec:ltI (b:Int) (ls.length:Int)=true:=bZ (by omega)
  have hnn:leI (0:Int) (b:Int)=true:=bC (by omega)
  have hltd:ltN b ls.length=true:=cB hb
  have hw:IntKind.i64.wrap ((b:Int) + 1)=((b + 1:Nat):Int):=by rw [aw (by omega) (by omega)];omega
  have a0:nz (b:Int) ls=Wf ls b:=by simp only [nz,Int.toNat_natCast,Wf]
  have a1:rB (b:Int) ls=Pk ls b:=by simp only [rB,a0,(aqa _ _).1,Pk]
  obtain⟨f1,f2⟩:=avL (Wf ls b).1 (Wf ls b).2 ls hn
  have hat:Wf ls b=ls[b]:=by simp only [Wf,List.getElem?_eq_getElem hb,Option.getD_some]
  have hp:LB (Wf ls b) ls[b]=true:=by rw [hat];simp [LB]
  have hany:ls.any (LB (Wf ls b))=true:=List.any_eq_true.2 ⟨_,List.getElem_mem hb,hp⟩
  have f1':Js (Wf ls b).1 (Wf ls b).2 ls=(bif ls.any (LB (Wf ls b))then(((ls.takeWhile fun x=> !LB (Wf ls b) x).length:Nat):Int)else -1):=f1
  have h7:(Js (Wf ls b).1 (Wf ls b).2 ls !=(b:Int))=agI ls b:=by
   rw [f1']
   simp only [hany,cond_true,agI]
   have hf:=aox ls b hb hp
   cases hd:(ls.take b).any (LB (Wf ls b))with
   |false=>have:=hf.2 hd;rw [this];simp
   |true=>
    have:(ls.takeWhile fun x=> !LB (Wf ls b) x).length≠b:=fun h=>by rw [hf.1 h]at hd;cases hd
    simp only [bne_iff_ne,ne_eq];omega
  refine⟨?_,?_,?_⟩
  ·simp [dU,BQ,LT.nds,allT,xO,QB,QC,QD,QE,QF,YJ,hdec,hnn,hltd,a0,f2]
  ·simp [dU,BQ,LT.each,YL,hw]
  ·simp only [dU,BQ,LT.fn,xO,YK,hdec,a0,a1,h7,cond_true]
   cases Pk ls b <;> rfl
 ·simp [dU,BQ,LT.out,xO]
theorem asD(ls:List (Int×Int))(hn:ls.length≤9223372036854775807):
  dQ.fin ((0:Int),(ls.length:Int),ls)=true∧(dQ.res ((0:Int),(ls.length:Int),ls)).1=bif(List.range ls.length).any (fun b=>Pk ls b||agI ls b)then 0 else 1:=by
 refine Lp.scan dQ (fun b=>((b:Int),(ls.length:Int),ls)) ls.length (fun b=>Pk ls b||agI ls b) 1 (by simp only [dQ];omega) (fun b hb=> ?_) ?_
 ·have hdec:ltI (b:Int) (ls.length:Int)=true:=bZ (by omega)
  have hle:leI (b:Int) (ls.length:Int)=true:=bC (by omega)
  have hnn:leI (0:Int) (b:Int)=true:=bC (by omega)
  have hltd:ltN b ls.length=true:=cB hb
  have hw:IntKind.i64.wrap ((b:Int) + 1)=((b + 1:Nat):Int):=by rw [aw (by omega) (by omega)];omega
  have a0:nt (b:Int) ls=Wf ls b:=by simp only [nt,Int.toNat_natCast,Wf]
  have a1:nu (b:Int) ls=Pk ls b:=by simp only [nu,a0,(aqa _ _).2,Pk]
  have a2:HY (b:Int) ls=bif !Pk ls b then ls.take b else []:=by
   simp only [HY,a1,Int.toNat_natCast,Int.toNat_zero,List.drop_zero,Bool.and_true]
  have hl2:(bif !Pk ls b then ls.take b else []).length≤9223372036854775807:=by
   cases Pk ls b <;> simp;omega
  obtain⟨f1,f2⟩:=au3 (Wf ls b).1 (Wf ls b).2 (bif !Pk ls b then ls.take b else []) hl2
  have f1:oj (Wf ls b).1 (Wf ls b).2 (bif !Pk ls b then ls.take b else [])=(bif !Pk ls b then ls.take b else []).any (LB (Wf ls b)):=f1
  refine⟨?_,?_,?_⟩
  ·have z0:leI 0 0=true:=rfl
   simp only [dQ,BK,LT.nds,allT,Ko,XN,XO,XP,XQ,XR,XS,XT,Int.toNat_natCast,hdec,hle,hnn,hltd,a0,a2,f2,z0,Bool.or_true,cond_true,Bool.cond_self]
  ·simp [dQ,BK,LT.each,XV,hw]
  ·simp only [dQ,BK,LT.fn,Ko,XU,hdec,a0,a1,a2,f1,cond_true]
   cases Pk ls b <;> rfl
 ·simp [dQ,BK,LT.out,Ko]
theorem avc(ls:List (Int×Int)):((List.range ls.length).any fun b=>Pk ls b||agI ls b)= !(List.range ls.length).all fun b=> !(Pk ls b||agI ls b):=by simp [List.all_eq_not_any_not]
theorem arf(ls:List (Int×Int))(hn:leN ls.length 9223372036854775807=true):Wm ls=okLk ls∧Wn ls=true:=by
 obtain⟨w1,w2⟩:=asE ls (bT.1 hn)
 rw [avc]at w2
 simp only [Wm,Wn,w1,w2,allT,okLk,aob ls.length 8 (by omega)]
 cases ((List.range ls.length).all fun b=> !(Pk ls b||agI ls b)) <;> simp [Nat.beq]
theorem aqU(ls:List (Int×Int))(hn:leN ls.length 9223372036854775807=true):VO ls=okLk ls∧VP ls=true:=by
 obtain⟨w1,w2⟩:=asD ls (bT.1 hn)
 rw [avc]at w2
 simp only [VO,VP,TL,w1,w2,allT,okLk,aob ls.length 8 (by omega)]
 cases ((List.range ls.length).all fun b=> !(Pk ls b||agI ls b)) <;> simp [Nat.beq]
def aed:List SV→List Entry→Option Out
 | [.one ⟨false,[.ref 0]⟩],[.row false 176 (.pair (.int .i64) (.int .i64)) x0]=>some ⟨(.one ⟨false,[(.val (.bool (okLk x0)))]⟩),[(.row false 176 axk x0)],[],[leN x0.length 9223372036854775807]⟩
 |_,_=>none
def sV:PF Tryz.prog:=PF.alt an0 aed (by
 intro args es o h hnd;unfold aed at h;split at h
 ·rename_i x0
  cases h
  have hnd:=bY hnd
  have hh:=arf x0 hnd
  obtain⟨e0,en⟩:=hh
  exact ek rfl (cg en) (by simp only [e0] <;> rfl) rfl rfl
 ·cases h)
def ad6:List SV→List Entry→Option Out
 | [.one ⟨false,[.ref 0]⟩],[.row false 176 (.pair (.int .i64) (.int .i64)) x0]=>some ⟨(.one ⟨false,[(.val (.bool (okLk x0)))]⟩),[(.row false 176 axk x0)],[],[leN x0.length 9223372036854775807]⟩
 |_,_=>none
def sS:PF Tryz.prog:=PF.alt anS ad6 (by
 intro args es o h hnd;unfold ad6 at h;split at h
 ·rename_i x0
  cases h
  have hnd:=bY hnd
  have hh:=aqU x0 hnd
  obtain⟨e0,en⟩:=hh
  exact ek rfl (cg en) (by simp only [e0] <;> rfl) rfl rfl
 ·cases h)
end Go.SX

namespace Go.SX
open Go.Proofs
set_option maxRecDepth 100000
abbrev tu:=Int×Int×Int×Int×List Int×List (Int×(Int×Int))×List (List Int)×List (Int×(Int×Int))×List (Int×Int)×List (Int×Int)
section
variable (y0:Int)(y6:List (List Int))
def lM:List Int:=Option.getD y6[Int.toNat y0]? (wu (CTy.sl (2:TypeId) axl))
def Je:Bool:=ltI y0 (↑y6.length:Int)
def acF:Bool:=leI (0:Int) y0
def acG:Bool:=ltN y0.toNat y6.length
def acH:Bool:=leN (List.length (lM y0 y6)) (9223372036854775807:Nat)
def acI:Bool:= !(!!areR (lM y0 y6)&&true)||leI (0:Int) y0
def acJ:Bool:= !(!!areR (lM y0 y6)&&true)||ltI y0 (↑y6.length:Int)
def acK:Bool:= !(!!areR (lM y0 y6)&&true)||ltN y0.toNat y6.length
def acL:Bool:= !(!!areR (lM y0 y6)&&true)||z8 y6
def acM:Bool:=bif !areR (lM y0 y6)then true else(↑(List.length (bif !!areR (lM y0 y6)&&true then lM y0 y6 else [])):Int)!=z7 y6
def acN:Int:=IntKind.wrap .i64 (y0 + (1:Int))
end
def akB:tu→List (Nat×SV)
 |(y0,_,_,_,_,_,_,_,_,_)=> [(3,(.one ⟨false,[(.val (.int .i64 y0))]⟩)),(1,(.one ⟨false,[(.ptr 0 0)]⟩))]
def aks:tu→List (Nat×Entry)
 |(_,y1,y2,y3,y4,y5,y6,y7,y8,y9)=> [(0,(.box 33 [(.val (.int .i64 y1)),(.ref 1),(.ref 2),(.ref 3),(.ref 4),(.val (.int .i64 y2)),(.ref 5),(.ref 6),(.val (.int .i64 y3))])),(1,(.row false 2 axl y4)),(2,(.row false 169 axj y5)),(3,(.row false 24 (CTy.sl (2:TypeId) axl) y6)),(4,(.row false 100 axj y7)),(5,(.row false 173 axk y8)),(6,(.row false 176 axk y9))]
def akT:Nat→tu→List (Nat×SV)
 |0,(_,_,_,_,_,_,_,_,_,_)=> [(2,(.one ⟨false,[(.val (.bool false))]⟩))]
 |_,(_,_,_,_,_,_,_,_,_,_)=> []
def akK:Nat→tu→List (Nat×Entry)
 |0,(_,y1,y2,y3,y4,y5,y6,y7,y8,y9)=> [(0,(.box 33 [(.val (.int .i64 y1)),(.ref 1),(.ref 2),(.ref 3),(.ref 4),(.val (.int .i64 y2)),(.ref 5),(.ref 6),(.val (.int .i64 y3))])),(1,(.row false 2 axl y4)),(2,(.row false 169 axj y5)),(3,(.row false 24 (CTy.sl (2:TypeId) axl) y6)),(4,(.row false 100 axj y7)),(5,(.row false 173 axk y8)),(6,(.row false 176 axk y9))]
 |_,(_,y1,y2,y3,y4,y5,y6,y7,y8,y9)=> [(0,(.box 33 [(.val (.int .i64 y1)),(.ref 1),(.ref 2),(.ref 3),(.ref 4),(.val (.int .i64 y2)),(.ref 5),(.ref 6),(.val (.int .i64 y3))])),(1,(.row false 2 axl y4)),(2,(.row false 169 axj y5)),(3,(.row false 24 (CTy.sl (2:TypeId) axl) y6)),(4,(.row false 100 axj y7)),(5,(.row false 173 axk y8)),(6,(.row false 176 axk y9))]
def Gp:tu→LT tu
 |(y0,y1,y2,y3,y4,y5,y6,y7,y8,y9)=> .ite (Je y0 y6) (.need [(acF y0),(Je y0 y6),(acG y0 y6),(acH y0 y6),(acI y0 y6),(acJ y0 y6),(acK y0 y6),(acL y0 y6)] (.ite (acM y0 y6) (.ext 0 [(0,0),(1,1),(2,2),(3,3),(4,4),(5,5),(6,6)]) (.nrm ((acN y0),y1,y2,y3,y4,y5,y6,y7,y8,y9) [(0,0),(1,1),(2,2),(3,3),(4,4),(5,5),(6,6)]))) (.ext 1 [(0,0),(1,1),(2,2),(3,3),(4,4),(5,5),(6,6)])
def SE(s:St):Option tu:=
 (match s.look 3 with
 |some ⟨none,(.one ⟨false,[(.val (.int .i64 y0))]⟩)⟩=>
 (match s.look 1 with
 |some ⟨none,(.one ⟨false,[(.ptr 448 0)]⟩)⟩=>
 (match s.ent 448 with
 |some (.box 33 [(.val (.int .i64 y1)),(.ref 0),(.ref 1),(.ref 2),(.ref 3),(.val (.int .i64 y2)),(.ref 4),(.ref 5),(.val (.int .i64 y3))])=>
 (match s.ent 0 with
 |some (.row false 2 (.int .i64) y4)=>
 (match s.ent 1 with
 |some (.row false 169 (.pair (.int .i64) (.pair (.int .i64) (.int .i64))) y5)=>
 (match s.ent 2 with
 |some (.row false 24 (.sl 2 (.int .i64)) y6)=>
 (match s.ent 3 with
 |some (.row false 100 (.pair (.int .i64) (.pair (.int .i64) (.int .i64))) y7)=>
 (match s.ent 4 with
 |some (.row false 173 (.pair (.int .i64) (.int .i64)) y8)=>
 (match s.ent 5 with
 |some (.row false 176 (.pair (.int .i64) (.int .i64)) y9)=>
 some (y0,y1,y2,y3,y4,y5,y6,y7,y8,y9)
 |_=>none)
 |_=>none)
 |_=>none)
 |_=>none)
 |_=>none)
 |_=>none)
 |_=>none)
 |_=>none)
 |_=>none)
def f6:Lp tu where
 h:=⟨[27,28,29,30,31,34,35,36,37,38,39,40,41,42,43,44,45,46,47,48,49,50,51,2,32,33,3],[0,1,2,3,4,5,6],[],[]⟩
 JL:=akB
 JE:=aks
 XL:=akT
 XE:=akK
 q:=fun j=>match j with | 0=> .ret | _=> .exit 0
 tags:= [0,1]
 lt:=Gp
 fuel:=fun(y0,y1,y2,y3,y4,y5,y6,y7,y8,y9)=>y0.natAbs + y1.natAbs + y2.natAbs + y3.natAbs + y4.length + y5.length + y6.length + y7.length + y8.length + y9.length
 fix:=fun(_,y1,y2,y3,y4,y5,y6,y7,y8,y9) (y0,_,_,_,_,_,_,_,_,_)=>(y0,y1,y2,y3,y4,y5,y6,y7,y8,y9)
 σ:= [(0,448),(1,0),(2,1),(3,2),(4,3),(5,4),(6,5)]
 rd:=SE
theorem aig:LoopOk Tryz.prog (fun k=>Nat.blt k Tryz.f24.ntmps) f6.F (au Tryz.f24 0):=by
 refine Lp.ok (tbl:= [fB,CF,PF.lend CF,PF.fz CF,CE,PF.lend CE,PF.fz CE,jX,PF.lend jX,PF.fz jX,uX,PF.lend uX,PF.fz uX,jW,PF.lend jW,PF.fz jW,ag3,yC,PF.lend yC,PF.fz yC,sV,PF.lend sV,PF.fz sV]) (lf:= []) aq f6 (by kernel_rfl) (LOk.nil _) (fun _=>rfl) (fun j _=>by unfold f6;match j with | 0=>rfl | _ + 1=>rfl) ?_ ?_ ?_ ?_ (fun _=>rfl) ?_
 ·rintro⟨y0,y1,y2,y3,y4,y5,y6,y7,y8,y9⟩;kernel_rfl
 ·rintro⟨y0,y1,y2,y3,y4,y5,y6,y7,y8,y9⟩;kernel_rfl
 ·intro s x h
  have h:SE s=some x:=h
  unfold SE at h
  repeat' split at h
  all_goals cases h
  exact⟨aa (by assumption) rfl (aa (by assumption) rfl (rfl)),ab rfl (by assumption) rfl (ab rfl (by assumption) rfl (ab rfl (by assumption) rfl (ab rfl (by assumption) rfl (ab rfl (by assumption) rfl (ab rfl (by assumption) rfl (ab rfl (by assumption) rfl (rfl)))))))⟩
 ·rintro⟨y0,y1,y2,y3,y4,y5,y6,y7,y8,y9⟩;kernel_rfl
 ·rintro⟨y0,y1,y2,y3,y4,y5,y6,y7,y8,y9⟩ z;exact(And.intro (And.intro trivial rfl) trivial)
section
variable (x0 x1 x2:Int)(x3:List Int)(x4:List (Int×Int×Int))(x5:List (List Int))(x6:List (Int×Int×Int))(x7 x8:List (Int×Int))
def Ep:Bool:=bif bif !isT x0 x3 then true else !(inR x0 (2:Int) (8:Int)&&okFs x0 x4)then true else(↑x5.length:Int)!=(↑x3.length:Int)
def YP:Int×Int×Int×Int×List Int×List (Int×Int×Int)×List (List Int)×List (Int×Int×Int)×List (Int×Int)×List (Int×Int):=((0:Int),x0,x1,x2,x3,x4,x5,x6,x7,x8)
def Jd:Bool:=Nat.beq ((Lp.res f6 (YP x0 x1 x2 x3 x4 x5 x6 x7 x8)).1) (0:Nat)
def YQ:Bool:=bif bif lfOk (z7 x5) x6 then SZ x1 else false then okPl x7 else false
def abc:Bool:=bif Ep x0 x3 x4 x5 then false else bif Jd x0 x1 x2 x3 x4 x5 x6 x7 x8 then false else bif bif YQ x1 x5 x6 x7 then okLk x8 else false then aL x2 (0:Int) (100000:Int)else false
def abd:Bool:=allT [!(!!isT x0 x3&&true)||leN x4.length (9223372036854775807:Nat),Ep x0 x3 x4 x5||Lp.fin f6 (YP x0 x1 x2 x3 x4 x5 x6 x7 x8),Ep x0 x3 x4 x5||(Jd x0 x1 x2 x3 x4 x5 x6 x7 x8||z8 x5),Ep x0 x3 x4 x5||(Jd x0 x1 x2 x3 x4 x5 x6 x7 x8||leN x6.length (9223372036854775807:Nat)),Ep x0 x3 x4 x5||(Jd x0 x1 x2 x3 x4 x5 x6 x7 x8||(!((bif lfOk (z7 x5) x6 then SZ x1 else false)&&true)||leN x7.length (9223372036854775807:Nat))),Ep x0 x3 x4 x5||(Jd x0 x1 x2 x3 x4 x5 x6 x7 x8||(!(YQ x1 x5 x6 x7&&true)||leN x8.length (9223372036854775807:Nat)))]
end
def aiM:List SV→List Entry→Option Out
 | [.one ⟨true,[.val (.int .i64 x0),.ref 0,.ref 1,.ref 2,.ref 3,.val (.int .i64 x1),.ref 4,.ref 5,.val (.int .i64 x2)]⟩],[.row false 2 (.int .i64) x3,.row false 169 (.pair (.int .i64) (.pair (.int .i64) (.int .i64))) x4,.row false 24 (.sl 2 (.int .i64)) x5,.row false 100 (.pair (.int .i64) (.pair (.int .i64) (.int .i64))) x6,.row false 173 (.pair (.int .i64) (.int .i64)) x7,.row false 176 (.pair (.int .i64) (.int .i64)) x8]=>some ⟨(.one ⟨false,[(.val (.bool (abc x0 x1 x2 x3 x4 x5 x6 x7 x8)))]⟩),[(.row false 2 axl x3),(.row false 169 axj x4),(.row false 24 (CTy.sl (2:TypeId) axl) x5),(.row false 100 axj x6),(.row false 173 axk x7),(.row false 176 axk x8)],[],[(abd x0 x1 x2 x3 x4 x5 x6 x7 x8)]⟩
 |_,_=>none
def apM:PF Tryz.prog:=PF.ofG Tryz.prog [fB,CF,PF.lend CF,PF.fz CF,CE,PF.lend CE,PF.fz CE,jX,PF.lend jX,PF.fz jX,uX,PF.lend uX,PF.fz uX,jW,PF.lend jW,PF.fz jW,ag3,yC,PF.lend yC,PF.fz yC,sV,PF.lend sV,PF.fz sV] [f6.F] aq 24 Tryz.f24 Tryz.func24 (LOk.fnT (l:= [au Tryz.f24 0]) (by kernel_rfl) (.cons aig (.nil _))) aiM (by
 intro vs es r h;unfold aiM at h;split at h
 ·cases h;kernel_rfl
 ·cases h)
abbrev tt:=Int×Int×List (List Int)×Int×Int×Int×List Int×List (Int×(Int×Int))×List (Int×(Int×Int))×List (Int×Int)×List (Int×Int)
section
variable (y0 y1:Int)(y2:List (List Int))
def od:List Int:=Option.getD y2[Int.toNat y0]? (wu (CTy.sl (2:TypeId) axl))
def NQ:Bool:=ltI y0 y1
def ace:Bool:=leI (0:Int) y0
def acf:Bool:=ltI y0 (↑y2.length:Int)
def acg:Bool:=ltN y0.toNat y2.length
def ach:Bool:=leN (List.length (od y0 y2)) (9223372036854775807:Nat)
def aci:Bool:= !(!!areR (od y0 y2)&&true)||leI (0:Int) (0:Int)
def acj:Bool:= !(!!areR (od y0 y2)&&true)||ltI (0:Int) (↑y2.length:Int)
def ack:Bool:= !(!!areR (od y0 y2)&&true)||ltN (Int.toNat (0:Int)) y2.length
def acl:Bool:=bif !areR (od y0 y2)then true else(↑(List.length (od y0 y2)):Int)!=(↑(List.length (bif !!areR (od y0 y2)&&true then Option.getD y2[Int.toNat (0:Int)]? (wu (CTy.sl (2:TypeId) axl))else [])):Int)
def acm:Int:=IntKind.wrap .i64 (y0 + (1:Int))
end
def akz:tt→List (Nat×SV)
 |(y0,y1,_,_,_,_,_,_,_,_,_)=> [(31,(.one ⟨false,[(.val (.int .i64 y0))]⟩)),(30,(.one ⟨false,[(.val (.int .i64 y1))]⟩)),(29,(.one ⟨false,[(.ref 0)]⟩)),(1,(.one ⟨false,[(.ptr 1 0)]⟩))]
def akq:tt→List (Nat×Entry)
 |(_,_,y2,y3,y4,y5,y6,y7,y8,y9,y10)=> [(0,(.row false 24 (CTy.sl (2:TypeId) axl) y2)),(1,(.box 33 [(.val (.int .i64 y3)),(.ref 2),(.ref 3),(.ref 0),(.ref 4),(.val (.int .i64 y4)),(.ref 5),(.ref 6),(.val (.int .i64 y5))])),(2,(.row false 2 axl y6)),(3,(.row false 169 axj y7)),(4,(.row false 100 axj y8)),(5,(.row false 173 axk y9)),(6,(.row false 176 axk y10))]
def akR:Nat→tt→List (Nat×SV)
 |0,(_,_,_,_,_,_,_,_,_,_,_)=> [(2,(.one ⟨false,[(.val (.bool false))]⟩))]
 |_,(_,_,_,_,_,_,_,_,_,_,_)=> []
def akI:Nat→tt→List (Nat×Entry)
 |0,(_,_,y2,y3,y4,y5,y6,y7,y8,y9,y10)=> [(0,(.row false 24 (CTy.sl (2:TypeId) axl) y2)),(1,(.box 33 [(.val (.int .i64 y3)),(.ref 2),(.ref 3),(.ref 0),(.ref 4),(.val (.int .i64 y4)),(.ref 5),(.ref 6),(.val (.int .i64 y5))])),(2,(.row false 2 axl y6)),(3,(.row false 169 axj y7)),(4,(.row false 100 axj y8)),(5,(.row false 173 axk y9)),(6,(.row false 176 axk y10))]
 |_,(_,_,y2,y3,y4,y5,y6,y7,y8,y9,y10)=> [(0,(.row false 24 (CTy.sl (2:TypeId) axl) y2)),(1,(.box 33 [(.val (.int .i64 y3)),(.ref 2),(.ref 3),(.ref 0),(.ref 4),(.val (.int .i64 y4)),(.ref 5),(.ref 6),(.val (.int .i64 y5))])),(2,(.row false 2 axl y6)),(3,(.row false 169 axj y7)),(4,(.row false 100 axj y8)),(5,(.row false 173 axk y9)),(6,(.row false 176 axk y10))]
def Gm:tt→LT tt
 |(y0,y1,y2,y3,y4,y5,y6,y7,y8,y9,y10)=> .ite (NQ y0 y1) (.need [(ace y0),(acf y0 y2),(acg y0 y2)] (.need [(ach y0 y2),(aci y0 y2),(acj y0 y2),(ack y0 y2)] (.ite (acl y0 y2) (.ext 0 [(0,0),(1,1),(2,2),(3,3),(4,4),(5,5),(6,6)]) (.nrm ((acm y0),y1,y2,y3,y4,y5,y6,y7,y8,y9,y10) [(0,0),(1,1),(2,2),(3,3),(4,4),(5,5),(6,6)])))) (.ext 1 [(0,0),(1,1),(2,2),(3,3),(4,4),(5,5),(6,6)])
def SC(s:St):Option tt:=
 (match s.look 31 with
 |some ⟨none,(.one ⟨false,[(.val (.int .i64 y0))]⟩)⟩=>
 (match s.look 30 with
 |some ⟨none,(.one ⟨false,[(.val (.int .i64 y1))]⟩)⟩=>
 (match s.look 29 with
 |some ⟨none,(.one ⟨false,[(.ref 2)]⟩)⟩=>
 (match s.look 1 with
 |some ⟨none,(.one ⟨false,[(.ptr 448 0)]⟩)⟩=>
 (match s.ent 2 with
 |some (.row false 24 (.sl 2 (.int .i64)) y2)=>
 (match s.ent 448 with
 |some (.box 33 [(.val (.int .i64 y3)),(.ref 0),(.ref 1),(.ref 2),(.ref 3),(.val (.int .i64 y4)),(.ref 4),(.ref 5),(.val (.int .i64 y5))])=>
 (match s.ent 0 with
 |some (.row false 2 (.int .i64) y6)=>
 (match s.ent 1 with
 |some (.row false 169 (.pair (.int .i64) (.pair (.int .i64) (.int .i64))) y7)=>
 (match s.ent 3 with
 |some (.row false 100 (.pair (.int .i64) (.pair (.int .i64) (.int .i64))) y8)=>
 (match s.ent 4 with
 |some (.row false 173 (.pair (.int .i64) (.int .i64)) y9)=>
 (match s.ent 5 with
 |some (.row false 176 (.pair (.int .i64) (.int .i64)) y10)=>
 some (y0,y1,y2,y3,y4,y5,y6,y7,y8,y9,y10)
 |_=>none)
 |_=>none)
 |_=>none)
 |_=>none)
 |_=>none)
 |_=>none)
 |_=>none)
 |_=>none)
 |_=>none)
 |_=>none)
 |_=>none)
def fZ:Lp tt where
 h:=⟨[32,33,34,4,35,36,37,38,39,40,41,42,43,44,45,46,47,2,48,31],[0,1,2,3,4,5,6],[],[]⟩
 JL:=akz
 JE:=akq
 XL:=akR
 XE:=akI
 q:=fun j=>match j with | 0=> .ret | _=> .exit 0
 tags:= [0,1]
 lt:=Gm
 fuel:=fun(y0,y1,y2,y3,y4,y5,y6,y7,y8,y9,y10)=>y0.natAbs + y1.natAbs + y2.length + y3.natAbs + y4.natAbs + y5.natAbs + y6.length + y7.length + y8.length + y9.length + y10.length
 fix:=fun(_,y1,y2,y3,y4,y5,y6,y7,y8,y9,y10) (y0,_,_,_,_,_,_,_,_,_,_)=>(y0,y1,y2,y3,y4,y5,y6,y7,y8,y9,y10)
 σ:= [(0,2),(1,448),(2,0),(3,1),(4,3),(5,4),(6,5)]
 rd:=SC
theorem aie:LoopOk Tryz.prog (fun k=>Nat.blt k Tryz.f23.ntmps) fZ.F (au Tryz.f23 0):=by
 refine Lp.ok (tbl:= [CB,PF.lend CB,PF.fz CB,CD,PF.lend CD,PF.fz CD,tL,PF.lend tL,PF.fz tL,tK,PF.lend tK,PF.fz tK,aH,PF.lend aH,PF.fz aH,ai9,yB,PF.lend yB,PF.fz yB,sS,PF.lend sS,PF.fz sS,So]) (lf:= []) aq fZ (by kernel_rfl) (LOk.nil _) (fun _=>rfl) (fun j _=>by unfold fZ;match j with | 0=>rfl | _ + 1=>rfl) ?_ ?_ ?_ ?_ (fun _=>rfl) ?_
 ·rintro⟨y0,y1,y2,y3,y4,y5,y6,y7,y8,y9,y10⟩;kernel_rfl
 ·rintro⟨y0,y1,y2,y3,y4,y5,y6,y7,y8,y9,y10⟩;kernel_rfl
 ·intro s x h
  have h:SC s=some x:=h
  unfold SC at h
  repeat' split at h
  all_goals cases h
  exact⟨aa (by assumption) rfl (aa (by assumption) rfl (aa (by assumption) rfl (aa (by assumption) rfl (rfl)))),ab rfl (by assumption) rfl (ab rfl (by assumption) rfl (ab rfl (by assumption) rfl (ab rfl (by assumption) rfl (ab rfl (by assumption) rfl (ab rfl (by assumption) rfl (ab rfl (by assumption) rfl (rfl)))))))⟩
 ·rintro⟨y0,y1,y2,y3,y4,y5,y6,y7,y8,y9,y10⟩;kernel_rfl
 ·rintro⟨y0,y1,y2,y3,y4,y5,y6,y7,y8,y9,y10⟩ z;exact(And.intro (And.intro trivial rfl) trivial)
section
variable (x0 x1 x2:Int)(x3:List Int)(x4:List (Int×Int×Int))(x5:List (List Int))(x6:List (Int×Int×Int))(x7 x8:List (Int×Int))
def ux:Bool:=bif bif !isT x0 x3 then true else !okFs x0 x4 then true else(↑x5.length:Int)!=(↑x3.length:Int)
def XX:Int×Int×List (List Int)×Int×Int×Int×List Int×List (Int×Int×Int)×List (Int×Int×Int)×List (Int×Int)×List (Int×Int):=((0:Int),(↑x5.length:Int),x5,x0,x1,x2,x3,x4,x6,x7,x8)
def yE:Bool:=Nat.beq ((Lp.res fZ (XX x0 x1 x2 x3 x4 x5 x6 x7 x8)).1) (0:Nat)
def RC:Bool:=bif lfOk (cY (Option.getD x5[Int.toNat (0:Int)]? (wu (CTy.sl (2:TypeId) axl)))) x6 then US x1 else false
def aaN:Bool:=bif ux x0 x3 x4 x5 then false else bif yE x0 x1 x2 x3 x4 x5 x6 x7 x8 then false else bif bif bif RC x1 x5 x6 then okPl x7 else false then okLk x8 else false then yp x2 else false
def aaO:Bool:=allT [!(!!isT x0 x3&&true)||leN x4.length (9223372036854775807:Nat),ux x0 x3 x4 x5||Lp.fin fZ (XX x0 x1 x2 x3 x4 x5 x6 x7 x8),ux x0 x3 x4 x5||(yE x0 x1 x2 x3 x4 x5 x6 x7 x8||leI (0:Int) (0:Int)),ux x0 x3 x4 x5||(yE x0 x1 x2 x3 x4 x5 x6 x7 x8||ltI (0:Int) (↑x5.length:Int)),ux x0 x3 x4 x5||(yE x0 x1 x2 x3 x4 x5 x6 x7 x8||ltN (Int.toNat (0:Int)) x5.length),ux x0 x3 x4 x5||(yE x0 x1 x2 x3 x4 x5 x6 x7 x8||leN x6.length (9223372036854775807:Nat)),ux x0 x3 x4 x5||(yE x0 x1 x2 x3 x4 x5 x6 x7 x8||(!(RC x1 x5 x6&&true)||leN x7.length (9223372036854775807:Nat))),ux x0 x3 x4 x5||(yE x0 x1 x2 x3 x4 x5 x6 x7 x8||(!((bif RC x1 x5 x6 then okPl x7 else false)&&true)||leN x8.length (9223372036854775807:Nat)))]
end
def aiz:List SV→List Entry→Option Out
 | [.one ⟨true,[.val (.int .i64 x0),.ref 0,.ref 1,.ref 2,.ref 3,.val (.int .i64 x1),.ref 4,.ref 5,.val (.int .i64 x2)]⟩],[.row false 2 (.int .i64) x3,.row false 169 (.pair (.int .i64) (.pair (.int .i64) (.int .i64))) x4,.row false 24 (.sl 2 (.int .i64)) x5,.row false 100 (.pair (.int .i64) (.pair (.int .i64) (.int .i64))) x6,.row false 173 (.pair (.int .i64) (.int .i64)) x7,.row false 176 (.pair (.int .i64) (.int .i64)) x8]=>some ⟨(.one ⟨false,[(.val (.bool (aaN x0 x1 x2 x3 x4 x5 x6 x7 x8)))]⟩),[(.row false 2 axl x3),(.row false 169 axj x4),(.row false 24 (CTy.sl (2:TypeId) axl) x5),(.row false 100 axj x6),(.row false 173 axk x7),(.row false 176 axk x8)],[],[(aaO x0 x1 x2 x3 x4 x5 x6 x7 x8)]⟩
 |_,_=>none
def apJ:PF Tryz.prog:=PF.ofG Tryz.prog [CB,PF.lend CB,PF.fz CB,CD,PF.lend CD,PF.fz CD,tL,PF.lend tL,PF.fz tL,tK,PF.lend tK,PF.fz tK,aH,PF.lend aH,PF.fz aH,ai9,yB,PF.lend yB,PF.fz yB,sS,PF.lend sS,PF.fz sS,So] [fZ.F] aq 23 Tryz.f23 Tryz.func23 (LOk.fnT (l:= [au Tryz.f23 0]) (by kernel_rfl) (.cons aie (.nil _))) aiz (by
 intro vs es r h;unfold aiz at h;split at h
 ·cases h;kernel_rfl
 ·cases h)
section
variable (x3:Int)(x4:List Int)(x5:List (Int×Int×Int))(x6:List (List Int))(x7:List (Int×Int×Int))(x8 x9:List (Int×Int))
def Sa:Int:=RZ (MV (vz (QL (fD (szV x3 x4) x5) x6) x7) x8) x9
def lK:Int:=bif ltI (szV x3 x4) (0:Int)then(-1:Int)else bif ltI (fD (szV x3 x4) x5) (0:Int)then(-1:Int)else bif ltI (QL (fD (szV x3 x4) x5) x6) (0:Int)then(-1:Int)else bif ltI (vz (QL (fD (szV x3 x4) x5) x6) x7) (0:Int)then(-1:Int)else bif ltI (MV (vz (QL (fD (szV x3 x4) x5) x6) x7) x8) (0:Int)then(-1:Int)else bif ltI (Sa x3 x4 x5 x6 x7 x8 x9) (0:Int)then(-1:Int)else Sa x3 x4 x5 x6 x7 x8 x9
def UT:Bool:=allT [leN x4.length (9223372036854775807:Nat)&&(leI (-1:Int) x3&&leI x3 (1048576:Int)),ltI (szV x3 x4) (0:Int)||(ltI (fD (szV x3 x4) x5) (0:Int)||ahi (9223372036854775807:Nat) x6&&(leI (-1:Int) (fD (szV x3 x4) x5)&&leI (fD (szV x3 x4) x5) (1048576:Int)))]
end
def aiH:List SV→List Entry→Option Out
 | [.one ⟨true,[.val (.int .i64 _x0),.ref 0,.ref 1,.ref 2,.ref 3,.val (.int .i64 _x1),.ref 4,.ref 5,.val (.int .i64 _x2)]⟩,.one ⟨false,[.val (.int .i64 x3)]⟩],[.row false 2 (.int .i64) x4,.row false 206 (.pair (.int .i64) (.pair (.int .i64) (.int .i64))) x5,.row false 24 (.sl 2 (.int .i64)) x6,.row false 208 (.pair (.int .i64) (.pair (.int .i64) (.int .i64))) x7,.row false 210 (.pair (.int .i64) (.int .i64)) x8,.row false 212 (.pair (.int .i64) (.int .i64)) x9]=>some ⟨(.one ⟨false,[(.val (.int .i64 (lK x3 x4 x5 x6 x7 x8 x9)))]⟩),[(.row false 2 axl x4),(.row false 206 axj x5),(.row false 24 (CTy.sl (2:TypeId) axl) x6),(.row false 208 axj x7),(.row false 210 axk x8),(.row false 212 axk x9)],[],[(UT x3 x4 x5 x6)]⟩
 |_,_=>none
def aaY:PF Tryz.prog:=PF.ofG Tryz.prog [UB,PF.lend UB,PF.fz UB,LJ,PF.lend LJ,PF.fz LJ,UA,PF.lend UA,PF.fz UA,Ot,PF.lend Ot,PF.fz Ot,Yt,PF.lend Yt,PF.fz Yt,Ys,PF.lend Ys,PF.fz Ys] [] aq 37 Tryz.f37 Tryz.func37 (fun c _=>LOk.nil c) aiH (by
 intro vs es r h;unfold aiH at h;split at h
 ·cases h;kernel_rfl
 ·cases h)
def Lj(x3:List Int)(x4:List (Int×Int×Int))(x5:List (List Int))(x6:List (Int×Int×Int))(x7 x8:List (Int×Int)):Bool:=allT [leN x3.length (1048576:Nat),leN x4.length (1048576:Nat),ahi (1048576:Nat) x5,leN x6.length (1048576:Nat),leN x7.length (1048576:Nat),leN x8.length (1048576:Nat)]
def aiJ:List SV→List Entry→Option Out
 | [.one ⟨true,[.val (.int .i64 x0),.ref 0,.ref 1,.ref 2,.ref 3,.val (.int .i64 x1),.ref 4,.ref 5,.val (.int .i64 x2)]⟩],[.row false 2 (.int .i64) x3,.row false 206 (.pair (.int .i64) (.pair (.int .i64) (.int .i64))) x4,.row false 24 (.sl 2 (.int .i64)) x5,.row false 208 (.pair (.int .i64) (.pair (.int .i64) (.int .i64))) x6,.row false 210 (.pair (.int .i64) (.int .i64)) x7,.row false 212 (.pair (.int .i64) (.int .i64)) x8]=>some ⟨(.one ⟨true,[(.val (.int .i64 x0)),(.ref 6),(.ref 7),(.ref 8),(.ref 9),(.val (.int .i64 x1)),(.ref 10),(.ref 11),(.val (.int .i64 x2))]⟩),[(.row false 2 axl x3),(.row false 206 axj x4),(.row false 24 (CTy.sl (2:TypeId) axl) x5),(.row false 208 axj x6),(.row false 210 axk x7),(.row false 212 axk x8)],[(.row true 2 axl x3),(.row true 169 axj x4),(.tree 24 (CTy.sl (2:Nat) axl) x5 none),(.row true 100 axj x6),(.row true 173 axk x7),(.row true 176 axk x8)],[(Lj x3 x4 x5 x6 x7 x8)]⟩
 |_,_=>none
def aaZ:PF Tryz.prog:=PF.ofG Tryz.prog [PF.trees Tryz.prog,UD,PF.lend UD,PF.fz UD,LH,PF.lend LH,PF.fz LH,UC,PF.lend UC,PF.fz UC,Or,PF.lend Or,PF.fz Or,Yn,PF.lend Yn,PF.fz Yn,Ym,PF.lend Ym,PF.fz Ym] [] aq 39 Tryz.f39 Tryz.func39 (fun c _=>LOk.nil c) aiJ (by
 intro vs es r h;unfold aiJ at h;split at h
 ·cases h;kernel_rfl
 ·cases h)
def Ho(x0 x1 x2 x3 x4 x5:Int)(x6:List Int)(x7:List (Int×Int×Int))(x8:List (List Int))(x9:List (Int×Int×Int))(x10 x11:List (Int×Int))(x12:List Int)(x13:List (Int×Int×Int))(x14:List (List Int))(x15:List (Int×Int×Int))(x16 x17:List (Int×Int)):Bool:=bif !eqT x0 x3 x6 x12 then false else bif !TD x7 x13 then false else bif !aqJ x8 x14 then false else bif !TD x9 x15 then false else bif x1 !=x4 then false else bif !amf x10 x16 then false else bif !amf x11 x17 then false else bif x2 !=x5 then false else true
def Hq(x0 x1 x3 x4:Int)(x6:List Int)(x7:List (Int×Int×Int))(x8:List (List Int))(x9:List (Int×Int×Int))(x10 x11:List (Int×Int))(x12:List Int)(x13:List (Int×Int×Int))(x14:List (List Int))(x15:List (Int×Int×Int))(x16:List (Int×Int)):Bool:=allT [leN x6.length (9223372036854775807:Nat),!eqT x0 x3 x6 x12||leN x7.length (9223372036854775807:Nat),!eqT x0 x3 x6 x12||(!TD x7 x13||ahi (9223372036854775807:Nat) x8),!eqT x0 x3 x6 x12||(!TD x7 x13||(!aqJ x8 x14||leN x9.length (9223372036854775807:Nat))),!eqT x0 x3 x6 x12||(!TD x7 x13||(!aqJ x8 x14||(!TD x9 x15||(x1 !=x4||leN x10.length (9223372036854775807:Nat))))),!eqT x0 x3 x6 x12||(!TD x7 x13||(!aqJ x8 x14||(!TD x9 x15||(x1 !=x4||(!amf x10 x16||leN x11.length (9223372036854775807:Nat))))))]
def aiF:List SV→List Entry→Option Out
 | [.one ⟨true,[.val (.int .i64 x0),.ref 0,.ref 1,.ref 2,.ref 3,.val (.int .i64 x1),.ref 4,.ref 5,.val (.int .i64 x2)]⟩,.one ⟨true,[.val (.int .i64 x3),.ref 6,.ref 7,.ref 8,.ref 9,.val (.int .i64 x4),.ref 10,.ref 11,.val (.int .i64 x5)]⟩],[.row false 2 (.int .i64) x6,.row false 169 (.pair (.int .i64) (.pair (.int .i64) (.int .i64))) x7,.row false 24 (.sl 2 (.int .i64)) x8,.row false 100 (.pair (.int .i64) (.pair (.int .i64) (.int .i64))) x9,.row false 173 (.pair (.int .i64) (.int .i64)) x10,.row false 176 (.pair (.int .i64) (.int .i64)) x11,.row false 2 (.int .i64) x12,.row false 169 (.pair (.int .i64) (.pair (.int .i64) (.int .i64))) x13,.row false 24 (.sl 2 (.int .i64)) x14,.row false 100 (.pair (.int .i64) (.pair (.int .i64) (.int .i64))) x15,.row false 173 (.pair (.int .i64) (.int .i64)) x16,.row false 176 (.pair (.int .i64) (.int .i64)) x17]=>some ⟨(.one ⟨false,[(.val (.bool (Ho x0 x1 x2 x3 x4 x5 x6 x7 x8 x9 x10 x11 x12 x13 x14 x15 x16 x17)))]⟩),[(.row false 2 axl x6),(.row false 169 axj x7),(.row false 24 (CTy.sl (2:TypeId) axl) x8),(.row false 100 axj x9),(.row false 173 axk x10),(.row false 176 axk x11),(.row false 2 axl x12),(.row false 169 axj x13),(.row false 24 (CTy.sl (2:TypeId) axl) x14),(.row false 100 axj x15),(.row false 173 axk x16),(.row false 176 axk x17)],[],[(Hq x0 x1 x3 x4 x6 x7 x8 x9 x10 x11 x12 x13 x14 x15 x16)]⟩
 |_,_=>none
def aaX:PF Tryz.prog:=PF.ofG Tryz.prog [Uv,PF.lend Uv,PF.fz Uv,LE,PF.lend LE,PF.fz LE,Uu,PF.lend Uu,PF.fz Uu,Oq,PF.lend Oq,PF.fz Oq,Yl,PF.lend Yl,PF.fz Yl,Yk,PF.lend Yk,PF.fz Yk] [] aq 41 Tryz.f41 Tryz.func41 (fun c _=>LOk.nil c) aiF (by
 intro vs es r h;unfold aiF at h;split at h
 ·cases h;kernel_rfl
 ·cases h)
end Go.SX

namespace Go.SX
open Go.Proofs
set_option maxRecDepth 100000
def ase(rs:List (List Int))(b:Nat):Bool:= !(areR (rs[b]?.getD [])&&(((rs[b]?.getD []).length:Int)==rowsR rs))
theorem asf(rs:List (List Int)):(List.range rs.length).any (ase rs)= !rsOk rs:=by
 have key: ∀ (l:List (List Int)) (P:List Int→Bool),((List.range l.length).any fun b=> !P (l[b]?.getD []))= !l.all P:=by
  intro l P
  rw [Bool.eq_iff_iff]
  simp only [List.any_eq_true,List.mem_range,Bool.not_eq_true',List.all_eq_false]
  constructor
  ·rintro⟨b,hb,h⟩
   rw [List.getElem?_eq_getElem hb]at h
   exact⟨l[b],List.getElem_mem hb,by simpa using h⟩
  ·rintro⟨x,hx,h⟩
   obtain⟨b,hb,rfl⟩:=List.getElem_of_mem hx
   exact⟨b,hb,by rw [List.getElem?_eq_getElem hb];simpa using h⟩
 exact key rs fun st=>areR st&&((st.length:Int)==rowsR rs)
def rb(m:Nat)(ps:List Int)(fs:List (Int×Int×Int))(rs:List (List Int))(lf:List (Int×Int×Int))(pl ls:List (Int×Int)):Bool:=leN ps.length m&&(leN fs.length m&&(ahi m rs&&(leN lf.length m&&(leN pl.length m&&leN ls.length m))))
theorem xN{m:Nat}{ps:List Int}{fs:List (Int×Int×Int)}{rs:List (List Int)}{lf:List (Int×Int×Int)}{pl ls:List (Int×Int)}:
  rb m ps fs rs lf pl ls=true↔ps.length≤m∧fs.length≤m∧(rs.length≤m∧ ∀ x∈rs,x.length≤m)∧lf.length≤m∧pl.length≤m∧ls.length≤m:=by
 simp only [rb,Bool.and_eq_true,bT,ahj]
theorem atr{m k:Nat}{ps:List Int}{fs:List (Int×Int×Int)}{rs:List (List Int)}{lf:List (Int×Int×Int)}{pl ls:List (Int×Int)}(h:rb m ps fs rs lf pl ls=true)(hk:m≤k):rb k ps fs rs lf pl ls=true:=by
 obtain⟨h1,h2,⟨h3,h4⟩,h5,h6,h7⟩:=xN.1 h
 exact xN.2 ⟨by omega,by omega,⟨by omega,fun x hx=>by have:=h4 x hx;omega⟩,by omega,by omega,by omega⟩
theorem avy(x y:List Int):(bif !areR x then true else((bif !!areR x&&true then x else []).length:Int)!=(y.length:Int))= !(areR x&&((x.length:Int)==(y.length:Int))):=by
 cases h:areR x <;> simp [bne]
theorem avz(x y:List Int):(bif !areR x then true else(x.length:Int)!=((bif !!areR x&&true then y else []).length:Int))= !(areR x&&((x.length:Int)==(y.length:Int))):=by
 cases h:areR x <;> simp [bne]
theorem avq(rs:List (List Int))(b:Nat):acM (b:Int) rs=ase rs b:=by
 exact avy (rs[b]?.getD []) (rs[0]?.getD [])
theorem au6(rs:List (List Int))(b:Nat):acl (b:Int) rs=ase rs b:=by
 exact avz (rs[b]?.getD []) (rs[0]?.getD [])
theorem atK(n mode day:Int)(ps:List Int)(fs:List (Int×Int×Int))(rs:List (List Int))(lf:List (Int×Int×Int))(pl ls:List (Int×Int))(hn:rs.length≤9223372036854775807)(hA: ∀ x∈rs,x.length≤9223372036854775807):
  f6.fin ((0:Int),n,mode,day,ps,fs,rs,lf,pl,ls)=true∧(f6.res ((0:Int),n,mode,day,ps,fs,rs,lf,pl,ls)).1=bif !rsOk rs then 0 else 1:=by
 rw [← asf]
 refine Lp.scan f6 (fun b=>((b:Int),n,mode,day,ps,fs,rs,lf,pl,ls)) rs.length (ase rs) 1 (by simp only [f6];omega) (fun b hb=> ?_) ?_
 ·have hdec:ltI (b:Int) (rs.length:Int)=true:=bZ (by omega)
  have hdec0:ltI 0 (rs.length:Int)=true:=bZ (by omega)
  have hw:IntKind.i64.wrap ((b:Int) + 1)=((b + 1:Nat):Int):=by rw [aw (by omega) (by omega)];omega
  have hnn:leI (0:Int) (b:Int)=true:=bC (by omega)
  have hltd:ltN b rs.length=true:=cB (by omega)
  have hlt0:ltN 0 rs.length=true:=cB (by omega)
  have h6:leN (lM (b:Int) rs).length 9223372036854775807=true:=fk (by
   simp only [lM,Int.toNat_natCast]
   cases hq:rs[b]? with
   |none=>exact Nat.zero_le _
   |some x=>exact hA x (List.mem_of_getElem? hq))
  have i2:=avq rs b
  refine⟨?_,?_,?_⟩
  ·simp [f6,Gp,LT.nds,allT,Je,acF,acG,acH,acI,acJ,acK,acL,z8,hdec,hdec0,hnn,hltd,hlt0,h6]
  ·simp [f6,Gp,LT.each,acN,hw]
  ·simp only [f6,Gp,LT.fn,Je,hdec,i2,cond_true]
 ·simp [f6,Gp,LT.out,Je]
theorem atJ(n mode day:Int)(ps:List Int)(fs:List (Int×Int×Int))(rs:List (List Int))(lf:List (Int×Int×Int))(pl ls:List (Int×Int))(hn:rs.length≤9223372036854775807)(hA: ∀ x∈rs,x.length≤9223372036854775807):
  fZ.fin ((0:Int),(rs.length:Int),rs,n,mode,day,ps,fs,lf,pl,ls)=true∧(fZ.res ((0:Int),(rs.length:Int),rs,n,mode,day,ps,fs,lf,pl,ls)).1=bif !rsOk rs then 0 else 1:=by
 rw [← asf]
 refine Lp.scan fZ (fun b=>((b:Int),(rs.length:Int),rs,n,mode,day,ps,fs,lf,pl,ls)) rs.length (ase rs) 1 (by simp only [fZ];omega) (fun b hb=> ?_) ?_
 ·have hdec:ltI (b:Int) (rs.length:Int)=true:=bZ (by omega)
  have hdec0:ltI 0 (rs.length:Int)=true:=bZ (by omega)
  have hw:IntKind.i64.wrap ((b:Int) + 1)=((b + 1:Nat):Int):=by rw [aw (by omega) (by omega)];omega
  have hnn:leI (0:Int) (b:Int)=true:=bC (by omega)
  have hltd:ltN b rs.length=true:=cB (by omega)
  have hlt0:ltN 0 rs.length=true:=cB (by omega)
  have h6:leN (od (b:Int) rs).length 9223372036854775807=true:=fk (by
   simp only [od,Int.toNat_natCast]
   cases hq:rs[b]? with
   |none=>exact Nat.zero_le _
   |some x=>exact hA x (List.mem_of_getElem? hq))
  have i2:=au6 rs b
  have h00:leI 0 0=true:=rfl
  refine⟨?_,?_,?_⟩
  ·simp [fZ,Gm,LT.nds,allT,NQ,ace,acf,acg,ach,aci,acj,ack,hdec,hdec0,hnn,hltd,hlt0,h6,h00]
  ·simp [fZ,Gm,LT.each,acm,hw]
  ·simp only [fZ,Gm,LT.fn,NQ,hdec,i2,cond_true]
 ·simp [fZ,Gm,LT.out,NQ]
theorem avS{n:Int}{ps:List Int}(h:isT n ps=true):inR n 2 8=true:=sR.2 (EK.1 h).1
theorem auS(a b:Nat):((a:Int)!=(b:Int))= !decide (a=b):=by
 by_cases h:a=b
 ·subst h;simp
 ·have:(a:Int)≠(b:Int):=by omega
  simp [h,this]
theorem asr(n mode day:Int)(ps:List Int)(fs:List (Int×Int×Int))(rs:List (List Int))(lf:List (Int×Int×Int))(pl ls:List (Int×Int))(h:rb 9223372036854775807 ps fs rs lf pl ls=true):
  abc n mode day ps fs rs lf pl ls=qP n ps fs rs lf mode pl ls day∧abd n mode day ps fs rs lf pl ls=true:=by
 obtain⟨h1,h2,⟨h3,h4⟩,h5,h6,h7⟩:=xN.1 h
 obtain⟨w1,w2⟩:=atK n mode day ps fs rs lf pl ls h3 h4
 have e:wu (CTy.sl (2:TypeId) axl)= []:=rfl
 have er:z7 rs=rowsR rs:=rfl
 have q5:leN lf.length 9223372036854775807=true:=fk h5
 have q6:leN pl.length 9223372036854775807=true:=fk h6
 have q7:leN ls.length 9223372036854775807=true:=fk h7
 have q2:leN fs.length 9223372036854775807=true:=fk h2
 simp only [abc,abd,Ep,YP,Jd,YQ,w1,w2,er,auS,qP,SZ,aL,vK,allT,q2,q5,q6,q7,Bool.or_true,cond_true]
 cases hT:isT n ps with
 |false=>simp
 |true=>
  rw [avS hT]
  cases hF:okFs n fs with
  |false=>simp
  |true=>
   cases hl:decide (rs.length=ps.length)with
   |false=>simp
   |true=>
    have hl:rs.length=ps.length:=by simpa using hl
    have:=(EK.1 hT).2.1
    have r1:z8 rs=true:=by
     have a1:ltI 0 (rs.length:Int)=true:=bZ (by omega)
     have a2:ltN 0 rs.length=true:=cB (by omega)
     simp [z8,allT,a1,a2]
    cases rsOk rs with
    |false=>simp
    |true=>
     rw [r1]
     cases lfOk (rowsR rs) lf <;> cases inR mode 0 5 <;> cases okPl pl <;> cases okLk ls <;> simp [Nat.beq]
theorem arT(n mode day:Int)(ps:List Int)(fs:List (Int×Int×Int))(rs:List (List Int))(lf:List (Int×Int×Int))(pl ls:List (Int×Int))(h:rb 9223372036854775807 ps fs rs lf pl ls=true):
  aaN n mode day ps fs rs lf pl ls=qP n ps fs rs lf mode pl ls day∧aaO n mode day ps fs rs lf pl ls=true:=by
 obtain⟨h1,h2,⟨h3,h4⟩,h5,h6,h7⟩:=xN.1 h
 obtain⟨w1,w2⟩:=atJ n mode day ps fs rs lf pl ls h3 h4
 have e:wu (CTy.sl (2:TypeId) axl)= []:=rfl
 have er:RC mode rs lf=(bif lfOk (rowsR rs) lf then US mode else false):=rfl
 have q5:leN lf.length 9223372036854775807=true:=fk h5
 have q6:leN pl.length 9223372036854775807=true:=fk h6
 have q7:leN ls.length 9223372036854775807=true:=fk h7
 have q2:leN fs.length 9223372036854775807=true:=fk h2
 have h00:leI 0 0=true:=rfl
 simp only [aaN,aaO,ux,XX,yE,er,w1,w2,auS,qP,US,yp,ba,vK,allT,q2,q5,q6,q7,h00,Bool.or_true,cond_true]
 cases hT:isT n ps with
 |false=>simp
 |true=>
  cases hF:okFs n fs with
  |false=>simp
  |true=>
   cases hl:decide (rs.length=ps.length)with
   |false=>simp
   |true=>
    have hl:rs.length=ps.length:=by simpa using hl
    have:=(EK.1 hT).2.1
    have a1:ltI 0 (rs.length:Int)=true:=bZ (by omega)
    have a2:ltN (Int.toNat 0) rs.length=true:=cB (by simp;omega)
    rw [a1,a2]
    cases rsOk rs with
    |false=>simp
    |true=>
     cases lfOk (rowsR rs) lf <;> cases inR mode 0 5 <;> cases okPl pl <;> cases okLk ls <;> simp [Nat.beq]
theorem ati{n:Int}{ps:List Int}{fs:List (Int×Int×Int)}{rs:List (List Int)}{lf:List (Int×Int×Int)}{mode:Int}{pl ls:List (Int×Int)}{day:Int}:
  qP n ps fs rs lf mode pl ls day=true↔isT n ps=true∧okFs n fs=true∧rs.length=ps.length∧rsOk rs=true∧lfOk (rowsR rs) lf=true∧inR mode 0 5=true∧okPl pl=true∧okLk ls=true∧inR day 0 100000=true:=by
 simp only [qP,Bool.and_eq_true,decide_eq_true_eq]
theorem ar3{n:Int}{fs:List (Int×Int×Int)}(h:okFs n fs=true):fs.length≤8:=by
 simp only [okFs,Bool.and_eq_true,bT]at h;exact h.1
theorem avb{n:Int}{fs:List (Int×Int×Int)}(h:lfOk n fs=true):fs.length≤8:=by
 simp only [lfOk,Bool.and_eq_true]at h;exact ar3 h.2
def aiX:List SV→List Entry→Option Out
 | [.one ⟨true,[.val (.int .i64 x0),.ref 0,.ref 1,.ref 2,.ref 3,.val (.int .i64 x1),.ref 4,.ref 5,.val (.int .i64 x2)]⟩],[.row false 2 (.int .i64) x3,.row false 169 (.pair (.int .i64) (.pair (.int .i64) (.int .i64))) x4,.row false 24 (.sl 2 (.int .i64)) x5,.row false 100 (.pair (.int .i64) (.pair (.int .i64) (.int .i64))) x6,.row false 173 (.pair (.int .i64) (.int .i64)) x7,.row false 176 (.pair (.int .i64) (.int .i64)) x8]=>some ⟨(.one ⟨false,[(.val (.bool (qP x0 x3 x4 x5 x6 x1 x7 x8 x2)))]⟩),[(.row false 2 axl x3),(.row false 169 axj x4),(.row false 24 (CTy.sl (2:TypeId) axl) x5),(.row false 100 axj x6),(.row false 173 axk x7),(.row false 176 axk x8)],[],[rb 9223372036854775807 x3 x4 x5 x6 x7 x8]⟩
 |_,_=>none
def qq:PF Tryz.prog:=PF.alt apM aiX (by
 intro args es o h hnd;unfold aiX at h;split at h
 ·rename_i x0 x1 x2 x3 x4 x5 x6 x7 x8
  cases h
  have hnd:=bY hnd
  have hh:=asr x0 x1 x2 x3 x4 x5 x6 x7 x8 hnd
  obtain⟨e0,en⟩:=hh
  exact ek rfl (cg en) (by simp only [e0] <;> rfl) rfl rfl
 ·cases h)
def aiV:List SV→List Entry→Option Out
 | [.one ⟨true,[.val (.int .i64 x0),.ref 0,.ref 1,.ref 2,.ref 3,.val (.int .i64 x1),.ref 4,.ref 5,.val (.int .i64 x2)]⟩],[.row false 2 (.int .i64) x3,.row false 169 (.pair (.int .i64) (.pair (.int .i64) (.int .i64))) x4,.row false 24 (.sl 2 (.int .i64)) x5,.row false 100 (.pair (.int .i64) (.pair (.int .i64) (.int .i64))) x6,.row false 173 (.pair (.int .i64) (.int .i64)) x7,.row false 176 (.pair (.int .i64) (.int .i64)) x8]=>some ⟨(.one ⟨false,[(.val (.bool (qP x0 x3 x4 x5 x6 x1 x7 x8 x2)))]⟩),[(.row false 2 axl x3),(.row false 169 axj x4),(.row false 24 (CTy.sl (2:TypeId) axl) x5),(.row false 100 axj x6),(.row false 173 axk x7),(.row false 176 axk x8)],[],[rb 9223372036854775807 x3 x4 x5 x6 x7 x8]⟩
 |_,_=>none
def aaV:PF Tryz.prog:=PF.alt apJ aiV (by
 intro args es o h hnd;unfold aiV at h;split at h
 ·rename_i x0 x1 x2 x3 x4 x5 x6 x7 x8
  cases h
  have hnd:=bY hnd
  have hh:=arT x0 x1 x2 x3 x4 x5 x6 x7 x8 hnd
  obtain⟨e0,en⟩:=hh
  exact ek rfl (cg en) (by simp only [e0] <;> rfl) rfl rfl
 ·cases h)
end Go.SX

namespace Go.SX
open Go.Proofs
set_option maxRecDepth 100000
def Oo(x0:Int)(x1:List (Int×Int×(Int×Int)×Int×Int×Bool)):Int:=IntKind.wrap .i64 (x0 - (↑x1.length:Int))
def Qf(x0:Int)(x1:List (Int×Int×(Int×Int)×Int×Int×Bool)):Int:=bif ltI (Oo x0 x1) (0:Int)then(-1:Int)else Oo x0 x1
def Xu:List SV→List Entry→Option Out
 | [.one ⟨false,[.ref 0]⟩,.one ⟨false,[.val (.int .i64 x0)]⟩],[.row false 83 (.pair (.int .i64) (.pair (.int .i64) (.pair (.pair (.int .i64) (.int .i64)) (.pair (.int .i64) (.pair (.int .i64) (.bool)))))) x1]=>some ⟨(.one ⟨false,[(.val (.int .i64 (Qf x0 x1)))]⟩),[(.row false 83 axi x1)],[],[]⟩
 |_,_=>none
def aka:PF Tryz.prog:=PF.ofG Tryz.prog [] [] aq 38 Tryz.f38 Tryz.func38 (fun c _=>LOk.nil c) Xu (by
 intro vs es r h;unfold Xu at h;split at h
 ·cases h;kernel_rfl
 ·cases h)
def Rx:List SV→List Entry→Option Out
 | [.one ⟨true,[.val (.int .i64 x0),.val (.int .i64 x1)]⟩],[]=>some ⟨(.one ⟨true,[(.val (.int .i64 x0)),(.val (.int .i64 x1))]⟩),[],[],[]⟩
 |_,_=>none
def adI:PF Tryz.prog:=PF.ofG Tryz.prog [] [] aq 123 Tryz.f123 Tryz.func123 (fun c _=>LOk.nil c) Rx (by
 intro vs es r h;unfold Rx at h;split at h
 ·cases h;kernel_rfl
 ·cases h)
def aby:List SV→List Entry→Option Out
 | [.one ⟨true,[.val (.int .i64 x0),.val (.int .i64 x1),.val (.bool x2)]⟩],[]=>some ⟨(.one ⟨true,[(.val (.int .i64 x0)),(.val (.int .i64 x1)),(.val (.bool x2))]⟩),[],[],[]⟩
 |_,_=>none
def amQ:PF Tryz.prog:=PF.ofG Tryz.prog [] [] aq 124 Tryz.f124 Tryz.func124 (fun c _=>LOk.nil c) aby (by
 intro vs es r h;unfold aby at h;split at h
 ·cases h;kernel_rfl
 ·cases h)
def ZT:List SV→List Entry→Option Out
 | [.one ⟨true,[.val (.int .i64 x0),.val (.int .i64 x1),.val (.int .i64 x2),.val (.int .i64 x3),.val (.int .i64 x4),.val (.int .i64 x5),.val (.bool x6)]⟩],[]=>some ⟨(.one ⟨true,[(.val (.int .i64 x0)),(.val (.int .i64 x1)),(.val (.int .i64 x2)),(.val (.int .i64 x3)),(.val (.int .i64 x4)),(.val (.int .i64 x5)),(.val (.bool x6))]⟩),[],[],[]⟩
 |_,_=>none
def aao:PF Tryz.prog:=PF.ofG Tryz.prog [adI,amQ] [] aq 43 Tryz.f43 Tryz.func43 (fun c _=>LOk.nil c) ZT (by
 intro vs es r h;unfold ZT at h;split at h
 ·cases h;kernel_rfl
 ·cases h)
abbrev g8:=Int×List (Int×(Int×((Int×Int)×(Int×(Int×Bool)))))×List (Int×(Int×((Int×Int)×(Int×(Int×Bool)))))
def qL(y0:Int)(y1:List (Int×(Int×((Int×Int)×(Int×(Int×Bool)))))):Int×Int×(Int×Int)×Int×Int×Bool:=Option.getD y1[Int.toNat y0]? ((0:Int),(0:Int),((0:Int),(0:Int)),(0:Int),(0:Int),false)
def qM(y0:Int)(y1:List (Int×(Int×((Int×Int)×(Int×(Int×Bool)))))):Int×(Int×Int)×Int×Int×Bool:=(qL y0 y1).2
def jU(y0:Int)(y1:List (Int×(Int×((Int×Int)×(Int×(Int×Bool)))))):(Int×Int)×Int×Int×Bool:=(qM y0 y1).2
def qN(y0:Int)(y1:List (Int×(Int×((Int×Int)×(Int×(Int×Bool)))))):Int×Bool:=(jU y0 y1).2.2
def rV(y0:Int)(y1:List (Int×(Int×((Int×Int)×(Int×(Int×Bool)))))):Bool:=ltI y0 (↑y1.length:Int)
def rW(y0:Int):Bool:=leI (0:Int) y0
def wS(y0:Int)(y1:List (Int×(Int×((Int×Int)×(Int×(Int×Bool)))))):Bool:=ltN y0.toNat y1.length
def wT(y0:Int)(y2:List (Int×(Int×((Int×Int)×(Int×(Int×Bool)))))):Bool:=ltI y0 (↑y2.length:Int)
def wU(y0:Int)(y2:List (Int×(Int×((Int×Int)×(Int×(Int×Bool)))))):Bool:=ltN y0.toNat y2.length
def wV(y0:Int):Int:=IntKind.wrap .i64 (y0 + (1:Int))
def wW(y0:Int)(y1 y2:List (Int×(Int×((Int×Int)×(Int×(Int×Bool)))))):List (Int×(Int×((Int×Int)×(Int×(Int×Bool))))):=List.set y2 y0.toNat ((qL y0 y1).1,(qM y0 y1).1,((jU y0 y1).1.1,(jU y0 y1).1.2),((jU y0 y1).2).1,(qN y0 y1).1,(qN y0 y1).2)
def ac1:g8→List (Nat×SV)
 |(y0,_,_)=> [(4,(.one ⟨false,[(.val (.int .i64 y0))]⟩)),(0,(.one ⟨false,[(.ref 0)]⟩)),(3,(.one ⟨false,[(.ref 1)]⟩))]
def acX:g8→List (Nat×Entry)
 |(_,y1,y2)=> [(0,(.row false 83 axi y1)),(1,(.row true 49 axi y2))]
def ac9:Nat→g8→List (Nat×SV)
 |_,(_,_,_)=> []
def ac5:Nat→g8→List (Nat×Entry)
 |_,(_,y1,y2)=> [(0,(.row false 83 axi y1)),(1,(.row true 49 axi y2))]
def uS:g8→LT g8
 |(y0,y1,y2)=> .ite (rV y0 y1) (.need [(rW y0),(rV y0 y1),(wS y0 y1),(rW y0),(wT y0 y2),(wU y0 y2)] (.nrm ((wV y0),y1,(wW y0 y1 y2)) [(0,0),(1,1)])) (.ext 0 [(0,0),(1,1)])
def KK(s:St):Option g8:=
 (match s.look 4 with
 |some ⟨none,(.one ⟨false,[(.val (.int .i64 y0))]⟩)⟩=>
 (match s.look 0 with
 |some ⟨none,(.one ⟨false,[(.ref 0)]⟩)⟩=>
 (match s.look 3 with
 |some ⟨none,(.one ⟨false,[(.ref 320)]⟩)⟩=>
 (match s.ent 0 with
 |some (.row false 83 (.pair (.int .i64) (.pair (.int .i64) (.pair (.pair (.int .i64) (.int .i64)) (.pair (.int .i64) (.pair (.int .i64) .bool))))) y1)=>
 (match s.ent 320 with
 |some (.row true 49 (.pair (.int .i64) (.pair (.int .i64) (.pair (.pair (.int .i64) (.int .i64)) (.pair (.int .i64) (.pair (.int .i64) .bool))))) y2)=>
 some (y0,y1,y2)
 |_=>none)
 |_=>none)
 |_=>none)
 |_=>none)
 |_=>none)
def cN:Lp g8 where
 h:=⟨[8,9,10,11,14,15,16,17,18,19,20,21,12,13,4],[0,1],[],[]⟩
 JL:=ac1
 JE:=acX
 XL:=ac9
 XE:=ac5
 q:=fun j=>match j with | _=> .exit 0
 tags:= [0]
 lt:=uS
 fuel:=fun(y0,y1,y2)=>y0.natAbs + y1.length + y2.length
 fix:=fun(_,y1,_) (y0,_,y2)=>(y0,y1,y2)
 σ:= [(0,0),(1,320)]
 rd:=KK
theorem aaU:LoopOk Tryz.prog (fun k=>Nat.blt k Tryz.f40.ntmps) cN.F (au Tryz.f40 0):=by
 refine Lp.ok (tbl:= [aao]) (lf:= []) aq cN (by kernel_rfl) (LOk.nil _) (fun _=>rfl) (fun _ _=>rfl) ?_ ?_ ?_ ?_ (fun _=>rfl) ?_
 ·rintro⟨y0,y1,y2⟩;kernel_rfl
 ·rintro⟨y0,y1,y2⟩;kernel_rfl
 ·intro s x h
  have h:KK s=some x:=h
  unfold KK at h
  repeat' split at h
  all_goals cases h
  exact⟨aa (by assumption) rfl (aa (by assumption) rfl (aa (by assumption) rfl (rfl))),ab rfl (by assumption) rfl (ab rfl (by assumption) rfl (rfl))⟩
 ·rintro⟨y0,y1,y2⟩;kernel_rfl
 ·rintro⟨y0,y1,y2⟩ z;exact(And.intro rfl trivial)
section
variable (x0:List (Int×Int×(Int×Int)×Int×Int×Bool))
def ny:Int:=(↑x0.length:Int)
def Is:Int×List (Int×Int×(Int×Int)×Int×Int×Bool)×List (Int×Int×(Int×Int)×Int×Int×Bool):=((0:Int),x0,List.replicate (Int.toNat (ny x0)) ((0:Int),(0:Int),((0:Int),(0:Int)),(0:Int),(0:Int),false))
def Ky:List (Int×(Int×((Int×Int)×(Int×(Int×Bool))))):=(Lp.res cN (Is x0)).2.2.2
def Kz:Bool:=allT [leI (0:Int) (ny x0),leI (ny x0) (ny x0),leI ((↑(56:Nat):Int) * ny x0) (281474976710656:Int),leI (ny x0) (9223372036854775807:Int),Lp.fin cN (Is x0)]
end
def Xw:List SV→List Entry→Option Out
 | [.one ⟨false,[.ref 0]⟩],[.row false 83 (.pair (.int .i64) (.pair (.int .i64) (.pair (.pair (.int .i64) (.int .i64)) (.pair (.int .i64) (.pair (.int .i64) (.bool)))))) x0]=>some ⟨(.one ⟨false,[(.ref 1)]⟩),[(.row false 83 axi x0)],[(.row true 49 axi (Ky x0))],[(Kz x0)]⟩
 |_,_=>none
def akb:PF Tryz.prog:=PF.ofG Tryz.prog [aao] [cN.F] aq 40 Tryz.f40 Tryz.func40 (LOk.fnT (l:= [au Tryz.f40 0]) (by kernel_rfl) (.cons aaU (.nil _))) Xw (by
 intro vs es r h;unfold Xw at h;split at h
 ·cases h;kernel_rfl
 ·cases h)
def Kv(x0 x1 x2 x3:Int):Bool:=bif x0 !=x2 then false else bif x1 !=x3 then false else true
def Rw:List SV→List Entry→Option Out
 | [.one ⟨true,[.val (.int .i64 x0),.val (.int .i64 x1)]⟩,.one ⟨true,[.val (.int .i64 x2),.val (.int .i64 x3)]⟩],[]=>some ⟨(.one ⟨false,[(.val (.bool (Kv x0 x1 x2 x3)))]⟩),[],[],[]⟩
 |_,_=>none
def adH:PF Tryz.prog:=PF.ofG Tryz.prog [] [] aq 198 Tryz.f198 Tryz.func198 (fun c _=>LOk.nil c) Rw (by
 intro vs es r h;unfold Rw at h;split at h
 ·cases h;kernel_rfl
 ·cases h)
def TV(x0 x1:Int)(x2:Bool)(x3 x4:Int)(x5:Bool):Bool:=bif x0 !=x3 then false else bif x1 !=x4 then false else bif !x2==x5 then false else true
def abp:List SV→List Entry→Option Out
 | [.one ⟨true,[.val (.int .i64 x0),.val (.int .i64 x1),.val (.bool x2)]⟩,.one ⟨true,[.val (.int .i64 x3),.val (.int .i64 x4),.val (.bool x5)]⟩],[]=>some ⟨(.one ⟨false,[(.val (.bool (TV x0 x1 x2 x3 x4 x5)))]⟩),[],[],[]⟩
 |_,_=>none
def amH:PF Tryz.prog:=PF.ofG Tryz.prog [] [] aq 199 Tryz.f199 Tryz.func199 (fun c _=>LOk.nil c) abp (by
 intro vs es r h;unfold abp at h;split at h
 ·cases h;kernel_rfl
 ·cases h)
def FN(x0 x1 x2 x3 x4 x5:Int)(x6:Bool)(x7 x8 x9 x10 x11 x12:Int)(x13:Bool):Bool:=bif x0 !=x7 then false else bif x1 !=x8 then false else bif !Kv x2 x3 x9 x10 then false else bif !TV x4 x5 x6 x11 x12 x13 then false else true
def ZQ:List SV→List Entry→Option Out
 | [.one ⟨true,[.val (.int .i64 x0),.val (.int .i64 x1),.val (.int .i64 x2),.val (.int .i64 x3),.val (.int .i64 x4),.val (.int .i64 x5),.val (.bool x6)]⟩,.one ⟨true,[.val (.int .i64 x7),.val (.int .i64 x8),.val (.int .i64 x9),.val (.int .i64 x10),.val (.int .i64 x11),.val (.int .i64 x12),.val (.bool x13)]⟩],[]=>some ⟨(.one ⟨false,[(.val (.bool (FN x0 x1 x2 x3 x4 x5 x6 x7 x8 x9 x10 x11 x12 x13)))]⟩),[],[],[]⟩
 |_,_=>none
def aan:PF Tryz.prog:=PF.ofG Tryz.prog [adH,amH] [] aq 122 Tryz.f122 Tryz.func122 (fun c _=>LOk.nil c) ZQ (by
 intro vs es r h;unfold ZQ at h;split at h
 ·cases h;kernel_rfl
 ·cases h)
abbrev gX:=Int×List (Int×(Int×((Int×Int)×(Int×(Int×Bool)))))×List (Int×(Int×((Int×Int)×(Int×(Int×Bool)))))
def qD(y0:Int)(y1:List (Int×(Int×((Int×Int)×(Int×(Int×Bool)))))):Int×Int×(Int×Int)×Int×Int×Bool:=Option.getD y1[Int.toNat y0]? ((0:Int),(0:Int),((0:Int),(0:Int)),(0:Int),(0:Int),false)
def qE(y0:Int)(y1:List (Int×(Int×((Int×Int)×(Int×(Int×Bool)))))):Int×(Int×Int)×Int×Int×Bool:=(qD y0 y1).2
def jR(y0:Int)(y1:List (Int×(Int×((Int×Int)×(Int×(Int×Bool)))))):(Int×Int)×Int×Int×Bool:=(qE y0 y1).2
def qF(y0:Int)(y1:List (Int×(Int×((Int×Int)×(Int×(Int×Bool)))))):Int×Bool:=(jR y0 y1).2.2
def qG(y0:Int)(y2:List (Int×(Int×((Int×Int)×(Int×(Int×Bool)))))):Int×Int×(Int×Int)×Int×Int×Bool:=Option.getD y2[Int.toNat y0]? ((0:Int),(0:Int),((0:Int),(0:Int)),(0:Int),(0:Int),false)
def qH(y0:Int)(y2:List (Int×(Int×((Int×Int)×(Int×(Int×Bool)))))):Int×(Int×Int)×Int×Int×Bool:=(qG y0 y2).2
def jS(y0:Int)(y2:List (Int×(Int×((Int×Int)×(Int×(Int×Bool)))))):(Int×Int)×Int×Int×Bool:=(qH y0 y2).2
def qI(y0:Int)(y2:List (Int×(Int×((Int×Int)×(Int×(Int×Bool)))))):Int×Bool:=(jS y0 y2).2.2
def rQ(y0:Int)(y1:List (Int×(Int×((Int×Int)×(Int×(Int×Bool)))))):Bool:=ltI y0 (↑y1.length:Int)
def rR(y0:Int):Bool:=leI (0:Int) y0
def wE(y0:Int)(y1:List (Int×(Int×((Int×Int)×(Int×(Int×Bool)))))):Bool:=ltN y0.toNat y1.length
def wF(y0:Int)(y2:List (Int×(Int×((Int×Int)×(Int×(Int×Bool)))))):Bool:=ltI y0 (↑y2.length:Int)
def wG(y0:Int)(y2:List (Int×(Int×((Int×Int)×(Int×(Int×Bool)))))):Bool:=ltN y0.toNat y2.length
def wH(y0:Int)(y1 y2:List (Int×(Int×((Int×Int)×(Int×(Int×Bool)))))):Bool:= !FN ((qD y0 y1).1) ((qE y0 y1).1) ((jR y0 y1).1.1) ((jR y0 y1).1.2) (((jR y0 y1).2).1) ((qF y0 y1).1) ((qF y0 y1).2) ((qG y0 y2).1) ((qH y0 y2).1) ((jS y0 y2).1.1) ((jS y0 y2).1.2) (((jS y0 y2).2).1) ((qI y0 y2).1) ((qI y0 y2).2)
def wI(y0:Int):Int:=IntKind.wrap .i64 (y0 + (1:Int))
def acY:gX→List (Nat×SV)
 |(y0,_,_)=> [(5,(.one ⟨false,[(.val (.int .i64 y0))]⟩)),(0,(.one ⟨false,[(.ref 0)]⟩)),(1,(.one ⟨false,[(.ref 1)]⟩))]
def acU:gX→List (Nat×Entry)
 |(_,y1,y2)=> [(0,(.row false 49 axi y1)),(1,(.row false 49 axi y2))]
def ac6:Nat→gX→List (Nat×SV)
 |0,(_,_,_)=> [(4,(.one ⟨false,[(.val (.bool false))]⟩))]
 |_,(_,_,_)=> []
def ac2:Nat→gX→List (Nat×Entry)
 |0,(_,y1,y2)=> [(0,(.row false 49 axi y1)),(1,(.row false 49 axi y2))]
 |_,(_,y1,y2)=> [(0,(.row false 49 axi y1)),(1,(.row false 49 axi y2))]
def uP:gX→LT gX
 |(y0,y1,y2)=> .ite (rQ y0 y1) (.need [(rR y0),(rQ y0 y1),(wE y0 y1),(rR y0),(wF y0 y2),(wG y0 y2)] (.ite (wH y0 y1 y2) (.ext 0 [(0,0),(1,1)]) (.nrm ((wI y0),y1,y2) [(0,0),(1,1)]))) (.ext 1 [(0,0),(1,1)])
def KH(s:St):Option gX:=
 (match s.look 5 with
 |some ⟨none,(.one ⟨false,[(.val (.int .i64 y0))]⟩)⟩=>
 (match s.look 0 with
 |some ⟨none,(.one ⟨false,[(.ref 0)]⟩)⟩=>
 (match s.look 1 with
 |some ⟨none,(.one ⟨false,[(.ref 1)]⟩)⟩=>
 (match s.ent 0 with
 |some (.row false 49 (.pair (.int .i64) (.pair (.int .i64) (.pair (.pair (.int .i64) (.int .i64)) (.pair (.int .i64) (.pair (.int .i64) .bool))))) y1)=>
 (match s.ent 1 with
 |some (.row false 49 (.pair (.int .i64) (.pair (.int .i64) (.pair (.pair (.int .i64) (.int .i64)) (.pair (.int .i64) (.pair (.int .i64) .bool))))) y2)=>
 some (y0,y1,y2)
 |_=>none)
 |_=>none)
 |_=>none)
 |_=>none)
 |_=>none)
def cf:Lp gX where
 h:=⟨[11,12,13,14,17,18,19,20,21,22,23,24,25,26,4,15,16,5],[0,1],[],[]⟩
 JL:=acY
 JE:=acU
 XL:=ac6
 XE:=ac2
 q:=fun j=>match j with | 0=> .ret | _=> .exit 0
 tags:= [0,1]
 lt:=uP
 fuel:=fun(y0,y1,y2)=>y0.natAbs + y1.length + y2.length
 fix:=fun(_,y1,y2) (y0,_,_)=>(y0,y1,y2)
 σ:= [(0,0),(1,1)]
 rd:=KH
theorem aaR:LoopOk Tryz.prog (fun k=>Nat.blt k Tryz.f42.ntmps) cf.F (au Tryz.f42 0):=by
 refine Lp.ok (tbl:= [aan]) (lf:= []) aq cf (by kernel_rfl) (LOk.nil _) (fun _=>rfl) (fun j _=>by unfold cf;match j with | 0=>rfl | _ + 1=>rfl) ?_ ?_ ?_ ?_ (fun _=>rfl) ?_
 ·rintro⟨y0,y1,y2⟩;kernel_rfl
 ·rintro⟨y0,y1,y2⟩;kernel_rfl
 ·intro s x h
  have h:KH s=some x:=h
  unfold KH at h
  repeat' split at h
  all_goals cases h
  exact⟨aa (by assumption) rfl (aa (by assumption) rfl (aa (by assumption) rfl (rfl))),ab rfl (by assumption) rfl (ab rfl (by assumption) rfl (rfl))⟩
 ·rintro⟨y0,y1,y2⟩;kernel_rfl
 ·rintro⟨y0,y1,y2⟩ z;exact(And.intro (And.intro trivial rfl) trivial)
section
variable (x0 x1:List (Int×Int×(Int×Int)×Int×Int×Bool))
def Ie:Bool:=(↑x0.length:Int)!=(↑x1.length:Int)
def Ig:Int×List (Int×Int×(Int×Int)×Int×Int×Bool)×List (Int×Int×(Int×Int)×Int×Int×Bool):=((0:Int),x0,x1)
def Kw:Bool:=bif Ie x0 x1 then false else bif Nat.beq ((Lp.res cf (Ig x0 x1)).1) (0:Nat)then false else true
def Kx:Bool:=allT [Ie x0 x1||Lp.fin cf (Ig x0 x1)]
end
def Xp:List SV→List Entry→Option Out
 | [.one ⟨false,[.ref 0]⟩,.one ⟨false,[.ref 1]⟩],[.row false 49 (.pair (.int .i64) (.pair (.int .i64) (.pair (.pair (.int .i64) (.int .i64)) (.pair (.int .i64) (.pair (.int .i64) (.bool)))))) x0,.row false 49 (.pair (.int .i64) (.pair (.int .i64) (.pair (.pair (.int .i64) (.int .i64)) (.pair (.int .i64) (.pair (.int .i64) (.bool)))))) x1]=>some ⟨(.one ⟨false,[(.val (.bool (Kw x0 x1)))]⟩),[(.row false 49 axi x0),(.row false 49 axi x1)],[],[(Kx x0 x1)]⟩
 |_,_=>none
def aj5:PF Tryz.prog:=PF.ofG Tryz.prog [aan] [cf.F] aq 42 Tryz.f42 Tryz.func42 (LOk.fnT (l:= [au Tryz.f42 0]) (by kernel_rfl) (.cons aaR (.nil _))) Xp (by
 intro vs es r h;unfold Xp at h;split at h
 ·cases h;kernel_rfl
 ·cases h)
abbrev du:=Int×Int×List (Int×(Int×Int))
section
variable (y0 y1:Int)(y2:List (Int×(Int×Int)))
def kw:Int×Int:=(Option.getD y2[Int.toNat y0]? ((0:Int),(0:Int),(0:Int))).2
def fX:List (Int×Int×Int):=List.set y2 y0.toNat (y1,(kw y0 y2).1,(kw y0 y2).2)
def kx:Int×Int×Int:=Option.getD (fX y0 y1 y2)[Int.toNat y0]? ((0:Int),(0:Int),(0:Int))
def ky:Int:=IntKind.wrap .i64 (y1 + (1:Int))
def fY:List (Int×Int×Int):=List.set (fX y0 y1 y2) y0.toNat ((kx y0 y1 y2).1,ky y1,(kx y0 y1 y2).2.2)
def kz:Int:=IntKind.wrap .i64 (ky y1 + (1:Int))
def kA:Int×Int×Int:=Option.getD (fY y0 y1 y2)[Int.toNat y0]? ((0:Int),(0:Int),(0:Int))
def lm:Bool:=ltI y0 (↑y2.length:Int)
def i5:Bool:=leI (0:Int) y0
def pP:Bool:=ltN y0.toNat y2.length
def pQ:Bool:=ltI y0 (↑(List.length (fX y0 y1 y2)):Int)
def pR:Bool:=ltN y0.toNat (List.length (fX y0 y1 y2))
def pS:Bool:=ltI y0 (↑(List.length (fY y0 y1 y2)):Int)
def pT:Bool:=ltN y0.toNat (List.length (fY y0 y1 y2))
def pU:Int:=IntKind.wrap .i64 (y0 + (1:Int))
def pV:Int:=IntKind.wrap .i64 (kz y1 + (1:Int))
def pW:List (Int×(Int×Int)):=List.set (fY y0 y1 y2) y0.toNat ((kA y0 y1 y2).1,((kA y0 y1 y2).2).1,kz y1)
end
def WT:du→List (Nat×SV)
 |(y0,y1,_)=> [(5,(.one ⟨false,[(.val (.int .i64 y0))]⟩)),(0,(.one ⟨false,[(.ref 0)]⟩)),(1,(.one ⟨false,[(.val (.int .i64 y1))]⟩))]
def WQ:du→List (Nat×Entry)
 |(_,_,y2)=> [(0,(.row true 169 axj y2))]
def WZ:Nat→du→List (Nat×SV)
 |_,(_,y1,_)=> [(1,(.one ⟨false,[(.val (.int .i64 y1))]⟩))]
def WW:Nat→du→List (Nat×Entry)
 |_,(_,_,y2)=> [(0,(.row true 169 axj y2))]
def og:du→LT du
 |(y0,y1,y2)=> .ite (lm y0 y2) (.need [(i5 y0),(lm y0 y2),(pP y0 y2)] (.need [(i5 y0),(pQ y0 y1 y2),(pR y0 y1 y2)] (.need [(i5 y0),(pS y0 y1 y2),(pT y0 y1 y2)] (.nrm ((pU y0),(pV y1),(pW y0 y1 y2)) [(0,0)])))) (.ext 0 [(0,0)])
def Cl(s:St):Option du:=
 (match s.look 5 with
 |some ⟨none,(.one ⟨false,[(.val (.int .i64 y0))]⟩)⟩=>
 (match s.look 0 with
 |some ⟨none,(.one ⟨false,[(.ref 0)]⟩)⟩=>
 (match s.look 1 with
 |some ⟨none,(.one ⟨false,[(.val (.int .i64 y1))]⟩)⟩=>
 (match s.ent 0 with
 |some (.row true 169 (.pair (.int .i64) (.pair (.int .i64) (.int .i64))) y2)=>
 some (y0,y1,y2)
 |_=>none)
 |_=>none)
 |_=>none)
 |_=>none)
def bu:Lp du where
 h:=⟨[6,7,8,9,12,13,14,15,16,17,18,1,19,20,21,22,23,24,25,26,27,28,29,30,31,32,10,11,5],[0],[],[]⟩
 JL:=WT
 JE:=WQ
 XL:=WZ
 XE:=WW
 q:=fun j=>match j with | _=> .exit 0
 tags:= [0]
 lt:=og
 fuel:=fun(y0,y1,y2)=>y0.natAbs + y1.natAbs + y2.length
 fix:=fun(_,_,_) (y0,y1,y2)=>(y0,y1,y2)
 σ:= [(0,0)]
 rd:=Cl
theorem Vu:LoopOk Tryz.prog (fun k=>Nat.blt k Tryz.f126.ntmps) bu.F (au Tryz.f126 0):=by
 refine Lp.ok (tbl:= []) (lf:= []) aq bu (by kernel_rfl) (LOk.nil _) (fun _=>rfl) (fun _ _=>rfl) ?_ ?_ ?_ ?_ (fun _=>rfl) ?_
 ·rintro⟨y0,y1,y2⟩;kernel_rfl
 ·rintro⟨y0,y1,y2⟩;kernel_rfl
 ·intro s x h
  have h:Cl s=some x:=h
  unfold Cl at h
  repeat' split at h
  all_goals cases h
  exact⟨aa (by assumption) rfl (aa (by assumption) rfl (aa (by assumption) rfl (rfl))),ab rfl (by assumption) rfl (rfl)⟩
 ·rintro⟨y0,y1,y2⟩;kernel_rfl
 ·rintro⟨y0,y1,y2⟩ z;exact(And.intro rfl trivial)
section
variable (x0:Int)(x1:List (Int×Int×Int))
def sE:Int×Int×List (Int×Int×Int):=((0:Int),x0,x1)
def yA:Int×List (Int×Int×Int):=(Lp.res bu (sE x0 x1)).2.2
def ID:Int:=(yA x0 x1).1
def IE:List (Int×(Int×Int)):=(yA x0 x1).2
def IF:Bool:=allT [Lp.fin bu (sE x0 x1)]
end
def QN:List SV→List Entry→Option Out
 | [.one ⟨false,[.ref 0]⟩,.one ⟨false,[.val (.int .i64 x0)]⟩],[.row true 169 (.pair (.int .i64) (.pair (.int .i64) (.int .i64))) x1]=>some ⟨(.one ⟨false,[(.val (.int .i64 (ID x0 x1)))]⟩),[(.row true 169 axj (IE x0 x1))],[],[(IF x0 x1)]⟩
 |_,_=>none
def acD:PF Tryz.prog:=PF.ofG Tryz.prog [] [bu.F] aq 126 Tryz.f126 Tryz.func126 (LOk.fnT (l:= [au Tryz.f126 0]) (by kernel_rfl) (.cons Vu (.nil _))) QN (by
 intro vs es r h;unfold QN at h;split at h
 ·cases h;kernel_rfl
 ·cases h)
abbrev gZ:=Int×Int×List (List Int)
section
variable (y0 y1:Int)(y2:List (List Int))
def rT:Bool:=ltI y0 (↑y2.length:Int)
def wM:Bool:=leI (0:Int) y0
def wN:Bool:=ltN y0.toNat y2.length
def rU:Bool:=Rp y1 (List.length (Option.getD y2[Int.toNat y0]? (wu (CTy.sl (2:Nat) axl))))
def wO:Int:=IntKind.wrap .i64 (y0 + (1:Int))
def wP:Int:=y1 + (↑(List.length (Option.getD y2[Int.toNat y0]? (wu (CTy.sl (2:Nat) axl)))):Int)
def wQ:List (List Int):=List.set y2 y0.toNat (sN y1 (List.length (Option.getD y2[Int.toNat y0]? (wu (CTy.sl (2:Nat) axl)))))
end
def ac0:gZ→List (Nat×SV)
 |(y0,y1,_)=> [(5,(.one ⟨false,[(.val (.int .i64 y0))]⟩)),(0,(.one ⟨false,[(.ref 0)]⟩)),(1,(.one ⟨false,[(.val (.int .i64 y1))]⟩))]
def acW:gZ→List (Nat×Entry)
 |(_,_,y2)=> [(0,(.tree 24 (CTy.sl (2:Nat) axl) y2 none))]
def ac8:Nat→gZ→List (Nat×SV)
 |_,(_,y1,_)=> [(1,(.one ⟨false,[(.val (.int .i64 y1))]⟩))]
def ac4:Nat→gZ→List (Nat×Entry)
 |_,(_,_,y2)=> [(0,(.tree 24 (CTy.sl (2:Nat) axl) y2 none))]
def uR:gZ→LT gZ
 |(y0,y1,y2)=> .ite (rT y0 y2) (.need [(wM y0),(rT y0 y2),(wN y0 y2),(rU y0 y1 y2)] (.nrm ((wO y0),(wP y0 y1 y2),(wQ y0 y1 y2)) [(0,0)])) (.ext 0 [(0,0)])
def KJ(s:St):Option gZ:=
 (match s.look 5 with
 |some ⟨none,(.one ⟨false,[(.val (.int .i64 y0))]⟩)⟩=>
 (match s.look 0 with
 |some ⟨none,(.one ⟨false,[(.ref 0)]⟩)⟩=>
 (match s.look 1 with
 |some ⟨none,(.one ⟨false,[(.val (.int .i64 y1))]⟩)⟩=>
 (match s.ent 0 with
 |some (.tree 24 (.sl 2 (.int .i64)) y2 none)=>
 some (y0,y1,y2)
 |_=>none)
 |_=>none)
 |_=>none)
 |_=>none)
def cM:Lp gZ where
 h:=⟨[6,7,8,9,12,13,14,15,16,17,1,10,11,5],[0],[],[]⟩
 JL:=ac0
 JE:=acW
 XL:=ac8
 XE:=ac4
 q:=fun j=>match j with | _=> .exit 0
 tags:= [0]
 lt:=uR
 fuel:=fun(y0,y1,y2)=>y0.natAbs + y1.natAbs + y2.length
 fix:=fun(_,_,_) (y0,y1,y2)=>(y0,y1,y2)
 σ:= [(0,0)]
 rd:=KJ
theorem aaT:LoopOk Tryz.prog (fun k=>Nat.blt k Tryz.f127.ntmps) cM.F (au Tryz.f127 0):=by
 refine Lp.ok (tbl:= [PF.trees Tryz.prog,iS,PF.lend iS,PF.fz iS]) (lf:= []) aq cM (by kernel_rfl) (LOk.nil _) (fun _=>rfl) (fun _ _=>rfl) ?_ ?_ ?_ ?_ (fun _=>rfl) ?_
 ·rintro⟨y0,y1,y2⟩;kernel_rfl
 ·rintro⟨y0,y1,y2⟩;kernel_rfl
 ·intro s x h
  have h:KJ s=some x:=h
  unfold KJ at h
  repeat' split at h
  all_goals cases h
  exact⟨aa (by assumption) rfl (aa (by assumption) rfl (aa (by assumption) rfl (rfl))),ab rfl (by assumption) rfl (rfl)⟩
 ·rintro⟨y0,y1,y2⟩;kernel_rfl
 ·rintro⟨y0,y1,y2⟩ z;exact(And.intro rfl trivial)
section
variable (x0:Int)(x1:List (List Int))
def Bq:Int×Int×List (List Int):=((0:Int),x0,x1)
def Br:Int×List (List Int):=(Lp.res cM (Bq x0 x1)).2.2
def DS:Int:=(Br x0 x1).1
def DT:List (List Int):=(Br x0 x1).2
def DU:Bool:=allT [Lp.fin cM (Bq x0 x1)]
end
def Xs:List SV→List Entry→Option Out
 | [.one ⟨false,[.ref 0]⟩,.one ⟨false,[.val (.int .i64 x0)]⟩],[.tree 24 (.sl 2 (.int .i64)) x1 none]=>some ⟨(.one ⟨false,[(.val (.int .i64 (DS x0 x1)))]⟩),[(.tree 24 (CTy.sl (2:Nat) axl) (DT x0 x1) none)],[],[(DU x0 x1)]⟩
 |_,_=>none
def aj8:PF Tryz.prog:=PF.ofG Tryz.prog [PF.trees Tryz.prog,iS,PF.lend iS,PF.fz iS] [cM.F] aq 127 Tryz.f127 Tryz.func127 (LOk.fnT (l:= [au Tryz.f127 0]) (by kernel_rfl) (.cons aaT (.nil _))) Xs (by
 intro vs es r h;unfold Xs at h;split at h
 ·cases h;kernel_rfl
 ·cases h)
abbrev ez:=Int×Int×List (Int×(Int×Int))
section
variable (y0 y1:Int)(y2:List (Int×(Int×Int)))
def mf:Int×Int:=(Option.getD y2[Int.toNat y0]? ((0:Int),(0:Int),(0:Int))).2
def ia:List (Int×Int×Int):=List.set y2 y0.toNat (y1,(mf y0 y2).1,(mf y0 y2).2)
def mg:Int×Int×Int:=Option.getD (ia y0 y1 y2)[Int.toNat y0]? ((0:Int),(0:Int),(0:Int))
def mh:Int:=IntKind.wrap .i64 (y1 + (1:Int))
def ib:List (Int×Int×Int):=List.set (ia y0 y1 y2) y0.toNat ((mg y0 y1 y2).1,mh y1,(mg y0 y1 y2).2.2)
def mi:Int:=IntKind.wrap .i64 (mh y1 + (1:Int))
def mj:Int×Int×Int:=Option.getD (ib y0 y1 y2)[Int.toNat y0]? ((0:Int),(0:Int),(0:Int))
def na:Bool:=ltI y0 (↑y2.length:Int)
def km:Bool:=leI (0:Int) y0
def sv:Bool:=ltN y0.toNat y2.length
def sw:Bool:=ltI y0 (↑(List.length (ia y0 y1 y2)):Int)
def sx:Bool:=ltN y0.toNat (List.length (ia y0 y1 y2))
def sy:Bool:=ltI y0 (↑(List.length (ib y0 y1 y2)):Int)
def sz:Bool:=ltN y0.toNat (List.length (ib y0 y1 y2))
def sA:Int:=IntKind.wrap .i64 (y0 + (1:Int))
def sB:Int:=IntKind.wrap .i64 (mi y1 + (1:Int))
def sC:List (Int×(Int×Int)):=List.set (ib y0 y1 y2) y0.toNat ((mj y0 y1 y2).1,((mj y0 y1 y2).2).1,mi y1)
end
def Zv:ez→List (Nat×SV)
 |(y0,y1,_)=> [(5,(.one ⟨false,[(.val (.int .i64 y0))]⟩)),(0,(.one ⟨false,[(.ref 0)]⟩)),(1,(.one ⟨false,[(.val (.int .i64 y1))]⟩))]
def Zq:ez→List (Nat×Entry)
 |(_,_,y2)=> [(0,(.row true 100 axj y2))]
def ZF:Nat→ez→List (Nat×SV)
 |_,(_,y1,_)=> [(1,(.one ⟨false,[(.val (.int .i64 y1))]⟩))]
def ZA:Nat→ez→List (Nat×Entry)
 |_,(_,_,y2)=> [(0,(.row true 100 axj y2))]
def q9:ez→LT ez
 |(y0,y1,y2)=> .ite (na y0 y2) (.need [(km y0),(na y0 y2),(sv y0 y2)] (.need [(km y0),(sw y0 y1 y2),(sx y0 y1 y2)] (.need [(km y0),(sy y0 y1 y2),(sz y0 y1 y2)] (.nrm ((sA y0),(sB y1),(sC y0 y1 y2)) [(0,0)])))) (.ext 0 [(0,0)])
def Fj(s:St):Option ez:=
 (match s.look 5 with
 |some ⟨none,(.one ⟨false,[(.val (.int .i64 y0))]⟩)⟩=>
 (match s.look 0 with
 |some ⟨none,(.one ⟨false,[(.ref 0)]⟩)⟩=>
 (match s.look 1 with
 |some ⟨none,(.one ⟨false,[(.val (.int .i64 y1))]⟩)⟩=>
 (match s.ent 0 with
 |some (.row true 100 (.pair (.int .i64) (.pair (.int .i64) (.int .i64))) y2)=>
 some (y0,y1,y2)
 |_=>none)
 |_=>none)
 |_=>none)
 |_=>none)
def bH:Lp ez where
 h:=⟨[6,7,8,9,12,13,14,15,16,17,18,1,19,20,21,22,23,24,25,26,27,28,29,30,31,32,10,11,5],[0],[],[]⟩
 JL:=Zv
 JE:=Zq
 XL:=ZF
 XE:=ZA
 q:=fun j=>match j with | _=> .exit 0
 tags:= [0]
 lt:=q9
 fuel:=fun(y0,y1,y2)=>y0.natAbs + y1.natAbs + y2.length
 fix:=fun(_,_,_) (y0,y1,y2)=>(y0,y1,y2)
 σ:= [(0,0)]
 rd:=Fj
theorem Xg:LoopOk Tryz.prog (fun k=>Nat.blt k Tryz.f128.ntmps) bH.F (au Tryz.f128 0):=by
 refine Lp.ok (tbl:= []) (lf:= []) aq bH (by kernel_rfl) (LOk.nil _) (fun _=>rfl) (fun _ _=>rfl) ?_ ?_ ?_ ?_ (fun _=>rfl) ?_
 ·rintro⟨y0,y1,y2⟩;kernel_rfl
 ·rintro⟨y0,y1,y2⟩;kernel_rfl
 ·intro s x h
  have h:Fj s=some x:=h
  unfold Fj at h
  repeat' split at h
  all_goals cases h
  exact⟨aa (by assumption) rfl (aa (by assumption) rfl (aa (by assumption) rfl (rfl))),ab rfl (by assumption) rfl (rfl)⟩
 ·rintro⟨y0,y1,y2⟩;kernel_rfl
 ·rintro⟨y0,y1,y2⟩ z;exact(And.intro rfl trivial)
section
variable (x0:Int)(x1:List (Int×Int×Int))
def uI:Int×Int×List (Int×Int×Int):=((0:Int),x0,x1)
def Ce:Int×List (Int×Int×Int):=(Lp.res bH (uI x0 x1)).2.2
def Ly:Int:=(Ce x0 x1).1
def Lz:List (Int×(Int×Int)):=(Ce x0 x1).2
def LA:Bool:=allT [Lp.fin bH (uI x0 x1)]
end
def Tv:List SV→List Entry→Option Out
 | [.one ⟨false,[.ref 0]⟩,.one ⟨false,[.val (.int .i64 x0)]⟩],[.row true 100 (.pair (.int .i64) (.pair (.int .i64) (.int .i64))) x1]=>some ⟨(.one ⟨false,[(.val (.int .i64 (Ly x0 x1)))]⟩),[(.row true 100 axj (Lz x0 x1))],[],[(LA x0 x1)]⟩
 |_,_=>none
def ae5:PF Tryz.prog:=PF.ofG Tryz.prog [] [bH.F] aq 128 Tryz.f128 Tryz.func128 (LOk.fnT (l:= [au Tryz.f128 0]) (by kernel_rfl) (.cons Xg (.nil _))) Tv (by
 intro vs es r h;unfold Tv at h;split at h
 ·cases h;kernel_rfl
 ·cases h)
abbrev jw:=Int×Int×List (Int×Int)
section
variable (y0 y1:Int)(y2:List (Int×Int))
def lY:List (Int×Int):=List.set y2 y0.toNat (y1,(Option.getD y2[Int.toNat y0]? ((0:Int),(0:Int))).2)
def tG:Int:=IntKind.wrap .i64 (y1 + (1:Int))
def vt:Bool:=ltI y0 (↑y2.length:Int)
def vu:Bool:=leI (0:Int) y0
def Bz:Bool:=ltN y0.toNat y2.length
def BA:Bool:=ltI y0 (↑(List.length (lY y0 y1 y2)):Int)
def BB:Bool:=ltN y0.toNat (List.length (lY y0 y1 y2))
def BC:Int:=IntKind.wrap .i64 (y0 + (1:Int))
def BD:Int:=IntKind.wrap .i64 (tG y1 + (1:Int))
def BE:List (Int×Int):=List.set (lY y0 y1 y2) y0.toNat ((Option.getD (lY y0 y1 y2)[Int.toNat y0]? ((0:Int),(0:Int))).1,tG y1)
end
def afP:jw→List (Nat×SV)
 |(y0,y1,_)=> [(5,(.one ⟨false,[(.val (.int .i64 y0))]⟩)),(0,(.one ⟨false,[(.ref 0)]⟩)),(1,(.one ⟨false,[(.val (.int .i64 y1))]⟩))]
def afF:jw→List (Nat×Entry)
 |(_,_,y2)=> [(0,(.row true 173 axk y2))]
def agm:Nat→jw→List (Nat×SV)
 |_,(_,y1,_)=> [(1,(.one ⟨false,[(.val (.int .i64 y1))]⟩))]
def agb:Nat→jw→List (Nat×Entry)
 |_,(_,_,y2)=> [(0,(.row true 173 axk y2))]
def zp:jw→LT jw
 |(y0,y1,y2)=> .ite (vt y0 y2) (.need [(vu y0),(vt y0 y2),(Bz y0 y2)] (.need [(vu y0),(BA y0 y1 y2),(BB y0 y1 y2)] (.nrm ((BC y0),(BD y1),(BE y0 y1 y2)) [(0,0)]))) (.ext 0 [(0,0)])
def Nl(s:St):Option jw:=
 (match s.look 5 with
 |some ⟨none,(.one ⟨false,[(.val (.int .i64 y0))]⟩)⟩=>
 (match s.look 0 with
 |some ⟨none,(.one ⟨false,[(.ref 0)]⟩)⟩=>
 (match s.look 1 with
 |some ⟨none,(.one ⟨false,[(.val (.int .i64 y1))]⟩)⟩=>
 (match s.ent 0 with
 |some (.row true 173 (.pair (.int .i64) (.int .i64)) y2)=>
 some (y0,y1,y2)
 |_=>none)
 |_=>none)
 |_=>none)
 |_=>none)
def dY:Lp jw where
 h:=⟨[6,7,8,9,12,13,14,15,16,17,18,1,19,20,21,22,23,24,25,10,11,5],[0],[],[]⟩
 JL:=afP
 JE:=afF
 XL:=agm
 XE:=agb
 q:=fun j=>match j with | _=> .exit 0
 tags:= [0]
 lt:=zp
 fuel:=fun(y0,y1,y2)=>y0.natAbs + y1.natAbs + y2.length
 fix:=fun(_,_,_) (y0,y1,y2)=>(y0,y1,y2)
 σ:= [(0,0)]
 rd:=Nl
theorem adu:LoopOk Tryz.prog (fun k=>Nat.blt k Tryz.f129.ntmps) dY.F (au Tryz.f129 0):=by
 refine Lp.ok (tbl:= []) (lf:= []) aq dY (by kernel_rfl) (LOk.nil _) (fun _=>rfl) (fun _ _=>rfl) ?_ ?_ ?_ ?_ (fun _=>rfl) ?_
 ·rintro⟨y0,y1,y2⟩;kernel_rfl
 ·rintro⟨y0,y1,y2⟩;kernel_rfl
 ·intro s x h
  have h:Nl s=some x:=h
  unfold Nl at h
  repeat' split at h
  all_goals cases h
  exact⟨aa (by assumption) rfl (aa (by assumption) rfl (aa (by assumption) rfl (rfl))),ab rfl (by assumption) rfl (rfl)⟩
 ·rintro⟨y0,y1,y2⟩;kernel_rfl
 ·rintro⟨y0,y1,y2⟩ z;exact(And.intro rfl trivial)
section
variable (x0:Int)(x1:List (Int×Int))
def FY:Int×Int×List (Int×Int):=((0:Int),x0,x1)
def Mi:Int×List (Int×Int):=(Lp.res dY (FY x0 x1)).2.2
def Uf:Int:=(Mi x0 x1).1
def Ug:List (Int×Int):=(Mi x0 x1).2
def Uh:Bool:=allT [Lp.fin dY (FY x0 x1)]
end
def abv:List SV→List Entry→Option Out
 | [.one ⟨false,[.ref 0]⟩,.one ⟨false,[.val (.int .i64 x0)]⟩],[.row true 173 (.pair (.int .i64) (.int .i64)) x1]=>some ⟨(.one ⟨false,[(.val (.int .i64 (Uf x0 x1)))]⟩),[(.row true 173 axk (Ug x0 x1))],[],[(Uh x0 x1)]⟩
 |_,_=>none
def amN:PF Tryz.prog:=PF.ofG Tryz.prog [] [dY.F] aq 129 Tryz.f129 Tryz.func129 (LOk.fnT (l:= [au Tryz.f129 0]) (by kernel_rfl) (.cons adu (.nil _))) abv (by
 intro vs es r h;unfold abv at h;split at h
 ·cases h;kernel_rfl
 ·cases h)
abbrev jv:=Int×Int×List (Int×Int)
section
variable (y0 y1:Int)(y2:List (Int×Int))
def lX:List (Int×Int):=List.set y2 y0.toNat (y1,(Option.getD y2[Int.toNat y0]? ((0:Int),(0:Int))).2)
def tF:Int:=IntKind.wrap .i64 (y1 + (1:Int))
def vq:Bool:=ltI y0 (↑y2.length:Int)
def vr:Bool:=leI (0:Int) y0
def Bs:Bool:=ltN y0.toNat y2.length
def Bt:Bool:=ltI y0 (↑(List.length (lX y0 y1 y2)):Int)
def Bu:Bool:=ltN y0.toNat (List.length (lX y0 y1 y2))
def Bv:Int:=IntKind.wrap .i64 (y0 + (1:Int))
def Bw:Int:=IntKind.wrap .i64 (tF y1 + (1:Int))
def Bx:List (Int×Int):=List.set (lX y0 y1 y2) y0.toNat ((Option.getD (lX y0 y1 y2)[Int.toNat y0]? ((0:Int),(0:Int))).1,tF y1)
end
def afO:jv→List (Nat×SV)
 |(y0,y1,_)=> [(5,(.one ⟨false,[(.val (.int .i64 y0))]⟩)),(0,(.one ⟨false,[(.ref 0)]⟩)),(1,(.one ⟨false,[(.val (.int .i64 y1))]⟩))]
def afE:jv→List (Nat×Entry)
 |(_,_,y2)=> [(0,(.row true 176 axk y2))]
def agl:Nat→jv→List (Nat×SV)
 |_,(_,y1,_)=> [(1,(.one ⟨false,[(.val (.int .i64 y1))]⟩))]
def aga:Nat→jv→List (Nat×Entry)
 |_,(_,_,y2)=> [(0,(.row true 176 axk y2))]
def zo:jv→LT jv
 |(y0,y1,y2)=> .ite (vq y0 y2) (.need [(vr y0),(vq y0 y2),(Bs y0 y2)] (.need [(vr y0),(Bt y0 y1 y2),(Bu y0 y1 y2)] (.nrm ((Bv y0),(Bw y1),(Bx y0 y1 y2)) [(0,0)]))) (.ext 0 [(0,0)])
def Nk(s:St):Option jv:=
 (match s.look 5 with
 |some ⟨none,(.one ⟨false,[(.val (.int .i64 y0))]⟩)⟩=>
 (match s.look 0 with
 |some ⟨none,(.one ⟨false,[(.ref 0)]⟩)⟩=>
 (match s.look 1 with
 |some ⟨none,(.one ⟨false,[(.val (.int .i64 y1))]⟩)⟩=>
 (match s.ent 0 with
 |some (.row true 176 (.pair (.int .i64) (.int .i64)) y2)=>
 some (y0,y1,y2)
 |_=>none)
 |_=>none)
 |_=>none)
 |_=>none)
def dX:Lp jv where
 h:=⟨[6,7,8,9,12,13,14,15,16,17,18,1,19,20,21,22,23,24,25,10,11,5],[0],[],[]⟩
 JL:=afO
 JE:=afE
 XL:=agl
 XE:=aga
 q:=fun j=>match j with | _=> .exit 0
 tags:= [0]
 lt:=zo
 fuel:=fun(y0,y1,y2)=>y0.natAbs + y1.natAbs + y2.length
 fix:=fun(_,_,_) (y0,y1,y2)=>(y0,y1,y2)
 σ:= [(0,0)]
 rd:=Nk
theorem adt:LoopOk Tryz.prog (fun k=>Nat.blt k Tryz.f130.ntmps) dX.F (au Tryz.f130 0):=by
 refine Lp.ok (tbl:= []) (lf:= []) aq dX (by kernel_rfl) (LOk.nil _) (fun _=>rfl) (fun _ _=>rfl) ?_ ?_ ?_ ?_ (fun _=>rfl) ?_
 ·rintro⟨y0,y1,y2⟩;kernel_rfl
 ·rintro⟨y0,y1,y2⟩;kernel_rfl
 ·intro s x h
  have h:Nk s=some x:=h
  unfold Nk at h
  repeat' split at h
  all_goals cases h
  exact⟨aa (by assumption) rfl (aa (by assumption) rfl (aa (by assumption) rfl (rfl))),ab rfl (by assumption) rfl (rfl)⟩
 ·rintro⟨y0,y1,y2⟩;kernel_rfl
 ·rintro⟨y0,y1,y2⟩ z;exact(And.intro rfl trivial)
section
variable (x0:Int)(x1:List (Int×Int))
def FX:Int×Int×List (Int×Int):=((0:Int),x0,x1)
def Mh:Int×List (Int×Int):=(Lp.res dX (FX x0 x1)).2.2
def Uc:Int:=(Mh x0 x1).1
def Ud:List (Int×Int):=(Mh x0 x1).2
def Ue:Bool:=allT [Lp.fin dX (FX x0 x1)]
end
def abu:List SV→List Entry→Option Out
 | [.one ⟨false,[.ref 0]⟩,.one ⟨false,[.val (.int .i64 x0)]⟩],[.row true 176 (.pair (.int .i64) (.int .i64)) x1]=>some ⟨(.one ⟨false,[(.val (.int .i64 (Uc x0 x1)))]⟩),[(.row true 176 axk (Ud x0 x1))],[],[(Ue x0 x1)]⟩
 |_,_=>none
def amM:PF Tryz.prog:=PF.ofG Tryz.prog [] [dX.F] aq 130 Tryz.f130 Tryz.func130 (LOk.fnT (l:= [au Tryz.f130 0]) (by kernel_rfl) (.cons adt (.nil _))) abu (by
 intro vs es r h;unfold abu at h;split at h
 ·cases h;kernel_rfl
 ·cases h)
abbrev dr:=Int×Int×List (Int×(Int×Int))
section
variable (y0 y1:Int)(y2:List (Int×(Int×Int)))
def iv:Int×Int×Int:=Option.getD y2[Int.toNat y0]? ((0:Int),(0:Int),(0:Int))
def ku:Int:=IntKind.wrap .i64 (y1 + (1:Int))
def kv:Int:=IntKind.wrap .i64 (ku y1 + (1:Int))
def gJ:Bool:=ltI y0 (↑y2.length:Int)
def i0:Bool:=leI (0:Int) y0
def i4:Bool:=ltN y0.toNat y2.length
def pK:Bool:=(iv y0 y2).1!=y1
end
def dw:Int:=(-1:Int)
section
variable (y0 y1:Int)(y2:List (Int×(Int×Int)))
def pL:Bool:=((iv y0 y2).2).1!=ku y1
def pM:Bool:=(iv y0 y2).2.2!=kv y1
def pN:Int:=IntKind.wrap .i64 (y0 + (1:Int))
def pO:Int:=IntKind.wrap .i64 (kv y1 + (1:Int))
end
def WS:dr→List (Nat×SV)
 |(y0,y1,_)=> [(5,(.one ⟨false,[(.val (.int .i64 y0))]⟩)),(0,(.one ⟨false,[(.ref 0)]⟩)),(1,(.one ⟨false,[(.val (.int .i64 y1))]⟩))]
def WP:dr→List (Nat×Entry)
 |(_,_,y2)=> [(0,(.row false 169 axj y2))]
def WY:Nat→dr→List (Nat×SV)
 |0,(_,_,_)=> [(4,(.one ⟨false,[(.val (.int .i64 (dw)))]⟩))]
 |1,(_,_,_)=> [(4,(.one ⟨false,[(.val (.int .i64 (dw)))]⟩))]
 |2,(_,_,_)=> [(4,(.one ⟨false,[(.val (.int .i64 (dw)))]⟩))]
 |_,(_,y1,_)=> [(1,(.one ⟨false,[(.val (.int .i64 y1))]⟩))]
def WV:Nat→dr→List (Nat×Entry)
 |0,(_,_,y2)=> [(0,(.row false 169 axj y2))]
 |1,(_,_,y2)=> [(0,(.row false 169 axj y2))]
 |2,(_,_,y2)=> [(0,(.row false 169 axj y2))]
 |_,(_,_,y2)=> [(0,(.row false 169 axj y2))]
def oe:dr→LT dr
 |(y0,y1,y2)=> .ite (gJ y0 y2) (.need [(i0 y0),(gJ y0 y2),(i4 y0 y2)] (.ite (pK y0 y1 y2) (.ext 0 [(0,0)]) (.need [(i0 y0),(gJ y0 y2),(i4 y0 y2)] (.ite (pL y0 y1 y2) (.ext 1 [(0,0)]) (.need [(i0 y0),(gJ y0 y2),(i4 y0 y2)] (.ite (pM y0 y1 y2) (.ext 2 [(0,0)]) (.nrm ((pN y0),(pO y1),y2) [(0,0)]))))))) (.ext 3 [(0,0)])
def Ck(s:St):Option dr:=
 (match s.look 5 with
 |some ⟨none,(.one ⟨false,[(.val (.int .i64 y0))]⟩)⟩=>
 (match s.look 0 with
 |some ⟨none,(.one ⟨false,[(.ref 0)]⟩)⟩=>
 (match s.look 1 with
 |some ⟨none,(.one ⟨false,[(.val (.int .i64 y1))]⟩)⟩=>
 (match s.ent 0 with
 |some (.row false 169 (.pair (.int .i64) (.pair (.int .i64) (.int .i64))) y2)=>
 some (y0,y1,y2)
 |_=>none)
 |_=>none)
 |_=>none)
 |_=>none)
def aM:Lp dr where
 h:=⟨[6,7,8,9,12,13,14,15,16,17,18,4,19,20,1,21,22,23,24,25,26,27,28,29,30,31,32,33,34,35,36,37,38,10,11,5],[0],[],[]⟩
 JL:=WS
 JE:=WP
 XL:=WY
 XE:=WV
 q:=fun j=>match j with | 0=> .ret | 1=> .ret | 2=> .ret | _=> .exit 0
 tags:= [0,1,2,3]
 lt:=oe
 fuel:=fun(y0,y1,y2)=>y0.natAbs + y1.natAbs + y2.length
 fix:=fun(_,_,y2) (y0,y1,_)=>(y0,y1,y2)
 σ:= [(0,0)]
 rd:=Ck
theorem Vt:LoopOk Tryz.prog (fun k=>Nat.blt k Tryz.f132.ntmps) aM.F (au Tryz.f132 0):=by
 refine Lp.ok (tbl:= []) (lf:= []) aq aM (by kernel_rfl) (LOk.nil _) (fun _=>rfl) (fun j _=>by unfold aM;match j with | 0=>rfl | 1=>rfl | 2=>rfl | _ + 3=>rfl) ?_ ?_ ?_ ?_ (fun _=>rfl) ?_
 ·rintro⟨y0,y1,y2⟩;kernel_rfl
 ·rintro⟨y0,y1,y2⟩;kernel_rfl
 ·intro s x h
  have h:Ck s=some x:=h
  unfold Ck at h
  repeat' split at h
  all_goals cases h
  exact⟨aa (by assumption) rfl (aa (by assumption) rfl (aa (by assumption) rfl (rfl))),ab rfl (by assumption) rfl (rfl)⟩
 ·rintro⟨y0,y1,y2⟩;kernel_rfl
 ·rintro⟨y0,y1,y2⟩ z;exact(And.intro (And.intro trivial (And.intro trivial (And.intro trivial rfl))) trivial)
section
variable (x0:Int)(x1:List (Int×Int×Int))
def kk:Int×Int×List (Int×Int×Int):=((0:Int),x0,x1)
def An:Int:=bif Nat.beq ((Lp.res aM (kk x0 x1)).1) (0:Nat)then dw else bif Nat.beq ((Lp.res aM (kk x0 x1)).1) (1:Nat)then dw else bif Nat.beq ((Lp.res aM (kk x0 x1)).1) (2:Nat)then dw else ((Lp.res aM (kk x0 x1)).2.2).1
def IC:Bool:=allT [Lp.fin aM (kk x0 x1)]
end
def QM:List SV→List Entry→Option Out
 | [.one ⟨false,[.ref 0]⟩,.one ⟨false,[.val (.int .i64 x0)]⟩],[.row false 169 (.pair (.int .i64) (.pair (.int .i64) (.int .i64))) x1]=>some ⟨(.one ⟨false,[(.val (.int .i64 (An x0 x1)))]⟩),[(.row false 169 axj x1)],[],[(IC x0 x1)]⟩
 |_,_=>none
def acC:PF Tryz.prog:=PF.ofG Tryz.prog [] [aM.F] aq 132 Tryz.f132 Tryz.func132 (LOk.fnT (l:= [au Tryz.f132 0]) (by kernel_rfl) (.cons Vt (.nil _))) QM (by
 intro vs es r h;unfold QM at h;split at h
 ·cases h;kernel_rfl
 ·cases h)
abbrev gY:=Int×Int×List (List Int)
section
variable (y0 y1:Int)(y2:List (List Int))
def iu:List Int:=Option.getD y2[Int.toNat y0]? (wu (CTy.sl (2:Nat) axl))
def rS:Bool:=ltI y0 (↑y2.length:Int)
def EN:Bool:=leI (0:Int) y0
def EO:Bool:=ltN y0.toNat y2.length
def EP:Bool:=leN (List.length (iu y0 y2)) (9223372036854775807:Nat)
def wJ:Bool:=ltI (RB y1 (iu y0 y2)) (0:Int)
end
def wK:Int:=(-1:Int)
def EQ(y0:Int):Int:=IntKind.wrap .i64 (y0 + (1:Int))
def wL(y0 y1:Int)(y2:List (List Int)):Int:=RB y1 (iu y0 y2)
def acZ:gY→List (Nat×SV)
 |(y0,y1,_)=> [(5,(.one ⟨false,[(.val (.int .i64 y0))]⟩)),(0,(.one ⟨false,[(.ref 0)]⟩)),(1,(.one ⟨false,[(.val (.int .i64 y1))]⟩))]
def acV:gY→List (Nat×Entry)
 |(_,_,y2)=> [(0,(.row false 24 (CTy.sl (2:Nat) axl) y2))]
def ac7:Nat→gY→List (Nat×SV)
 |0,(_,_,_)=> [(4,(.one ⟨false,[(.val (.int .i64 (wK)))]⟩))]
 |_,(_,y1,_)=> [(1,(.one ⟨false,[(.val (.int .i64 y1))]⟩))]
def ac3:Nat→gY→List (Nat×Entry)
 |0,(_,_,y2)=> [(0,(.row false 24 (CTy.sl (2:Nat) axl) y2))]
 |_,(_,_,y2)=> [(0,(.row false 24 (CTy.sl (2:Nat) axl) y2))]
def uQ:gY→LT gY
 |(y0,y1,y2)=> .ite (rS y0 y2) (.need [(EN y0),(rS y0 y2),(EO y0 y2),(EP y0 y2)] (.ite (wJ y0 y1 y2) (.ext 0 [(0,0)]) (.nrm ((EQ y0),(wL y0 y1 y2),y2) [(0,0)]))) (.ext 1 [(0,0)])
def KI(s:St):Option gY:=
 (match s.look 5 with
 |some ⟨none,(.one ⟨false,[(.val (.int .i64 y0))]⟩)⟩=>
 (match s.look 0 with
 |some ⟨none,(.one ⟨false,[(.ref 0)]⟩)⟩=>
 (match s.look 1 with
 |some ⟨none,(.one ⟨false,[(.val (.int .i64 y1))]⟩)⟩=>
 (match s.ent 0 with
 |some (.row false 24 (.sl 2 (.int .i64)) y2)=>
 some (y0,y1,y2)
 |_=>none)
 |_=>none)
 |_=>none)
 |_=>none)
def bK:Lp gY where
 h:=⟨[6,7,8,9,12,13,14,15,16,17,1,18,19,4,10,11,5],[0],[],[]⟩
 JL:=acZ
 JE:=acV
 XL:=ac7
 XE:=ac3
 q:=fun j=>match j with | 0=> .ret | _=> .exit 0
 tags:= [0,1]
 lt:=uQ
 fuel:=fun(y0,y1,y2)=>y0.natAbs + y1.natAbs + y2.length
 fix:=fun(_,_,y2) (y0,y1,_)=>(y0,y1,y2)
 σ:= [(0,0)]
 rd:=KI
theorem aaS:LoopOk Tryz.prog (fun k=>Nat.blt k Tryz.f133.ntmps) bK.F (au Tryz.f133 0):=by
 refine Lp.ok (tbl:= [iR,PF.lend iR,PF.fz iR]) (lf:= []) aq bK (by kernel_rfl) (LOk.nil _) (fun _=>rfl) (fun j _=>by unfold bK;match j with | 0=>rfl | _ + 1=>rfl) ?_ ?_ ?_ ?_ (fun _=>rfl) ?_
 ·rintro⟨y0,y1,y2⟩;kernel_rfl
 ·rintro⟨y0,y1,y2⟩;kernel_rfl
 ·intro s x h
  have h:KI s=some x:=h
  unfold KI at h
  repeat' split at h
  all_goals cases h
  exact⟨aa (by assumption) rfl (aa (by assumption) rfl (aa (by assumption) rfl (rfl))),ab rfl (by assumption) rfl (rfl)⟩
 ·rintro⟨y0,y1,y2⟩;kernel_rfl
 ·rintro⟨y0,y1,y2⟩ z;exact(And.intro (And.intro trivial rfl) trivial)
section
variable (x0:Int)(x1:List (List Int))
def Ih:Int×Int×List (List Int):=((0:Int),x0,x1)
def PY:Int:=bif Nat.beq ((Lp.res bK (Ih x0 x1)).1) (0:Nat)then wK else ((Lp.res bK (Ih x0 x1)).2.2).1
def PZ:Bool:=allT [Lp.fin bK (Ih x0 x1)]
end
def Xq:List SV→List Entry→Option Out
 | [.one ⟨false,[.ref 0]⟩,.one ⟨false,[.val (.int .i64 x0)]⟩],[.row false 24 (.sl 2 (.int .i64)) x1]=>some ⟨(.one ⟨false,[(.val (.int .i64 (PY x0 x1)))]⟩),[(.row false 24 (CTy.sl (2:TypeId) axl) x1)],[],[(PZ x0 x1)]⟩
 |_,_=>none
def aj6:PF Tryz.prog:=PF.ofG Tryz.prog [iR,PF.lend iR,PF.fz iR] [bK.F] aq 133 Tryz.f133 Tryz.func133 (LOk.fnT (l:= [au Tryz.f133 0]) (by kernel_rfl) (.cons aaS (.nil _))) Xq (by
 intro vs es r h;unfold Xq at h;split at h
 ·cases h;kernel_rfl
 ·cases h)
abbrev ey:=Int×Int×List (Int×(Int×Int))
section
variable (y0 y1:Int)(y2:List (Int×(Int×Int)))
def jL:Int×Int×Int:=Option.getD y2[Int.toNat y0]? ((0:Int),(0:Int),(0:Int))
def md:Int:=IntKind.wrap .i64 (y1 + (1:Int))
def me:Int:=IntKind.wrap .i64 (md y1 + (1:Int))
def iM:Bool:=ltI y0 (↑y2.length:Int)
def ki:Bool:=leI (0:Int) y0
def kj:Bool:=ltN y0.toNat y2.length
def sm:Bool:=(jL y0 y2).1!=y1
end
def eC:Int:=(-1:Int)
section
variable (y0 y1:Int)(y2:List (Int×(Int×Int)))
def sn:Bool:=((jL y0 y2).2).1!=md y1
def sq:Bool:=(jL y0 y2).2.2!=me y1
def sr:Int:=IntKind.wrap .i64 (y0 + (1:Int))
def su:Int:=IntKind.wrap .i64 (me y1 + (1:Int))
end
def Zu:ey→List (Nat×SV)
 |(y0,y1,_)=> [(5,(.one ⟨false,[(.val (.int .i64 y0))]⟩)),(0,(.one ⟨false,[(.ref 0)]⟩)),(1,(.one ⟨false,[(.val (.int .i64 y1))]⟩))]
def Zp:ey→List (Nat×Entry)
 |(_,_,y2)=> [(0,(.row false 100 axj y2))]
def ZE:Nat→ey→List (Nat×SV)
 |0,(_,_,_)=> [(4,(.one ⟨false,[(.val (.int .i64 (eC)))]⟩))]
 |1,(_,_,_)=> [(4,(.one ⟨false,[(.val (.int .i64 (eC)))]⟩))]
 |2,(_,_,_)=> [(4,(.one ⟨false,[(.val (.int .i64 (eC)))]⟩))]
 |_,(_,y1,_)=> [(1,(.one ⟨false,[(.val (.int .i64 y1))]⟩))]
def Zz:Nat→ey→List (Nat×Entry)
 |0,(_,_,y2)=> [(0,(.row false 100 axj y2))]
 |1,(_,_,y2)=> [(0,(.row false 100 axj y2))]
 |2,(_,_,y2)=> [(0,(.row false 100 axj y2))]
 |_,(_,_,y2)=> [(0,(.row false 100 axj y2))]
def q8:ey→LT ey
 |(y0,y1,y2)=> .ite (iM y0 y2) (.need [(ki y0),(iM y0 y2),(kj y0 y2)] (.ite (sm y0 y1 y2) (.ext 0 [(0,0)]) (.need [(ki y0),(iM y0 y2),(kj y0 y2)] (.ite (sn y0 y1 y2) (.ext 1 [(0,0)]) (.need [(ki y0),(iM y0 y2),(kj y0 y2)] (.ite (sq y0 y1 y2) (.ext 2 [(0,0)]) (.nrm ((sr y0),(su y1),y2) [(0,0)]))))))) (.ext 3 [(0,0)])
def Fi(s:St):Option ey:=
 (match s.look 5 with
 |some ⟨none,(.one ⟨false,[(.val (.int .i64 y0))]⟩)⟩=>
 (match s.look 0 with
 |some ⟨none,(.one ⟨false,[(.ref 0)]⟩)⟩=>
 (match s.look 1 with
 |some ⟨none,(.one ⟨false,[(.val (.int .i64 y1))]⟩)⟩=>
 (match s.ent 0 with
 |some (.row false 100 (.pair (.int .i64) (.pair (.int .i64) (.int .i64))) y2)=>
 some (y0,y1,y2)
 |_=>none)
 |_=>none)
 |_=>none)
 |_=>none)
def aY:Lp ey where
 h:=⟨[6,7,8,9,12,13,14,15,16,17,18,4,19,20,1,21,22,23,24,25,26,27,28,29,30,31,32,33,34,35,36,37,38,10,11,5],[0],[],[]⟩
 JL:=Zu
 JE:=Zp
 XL:=ZE
 XE:=Zz
 q:=fun j=>match j with | 0=> .ret | 1=> .ret | 2=> .ret | _=> .exit 0
 tags:= [0,1,2,3]
 lt:=q8
 fuel:=fun(y0,y1,y2)=>y0.natAbs + y1.natAbs + y2.length
 fix:=fun(_,_,y2) (y0,y1,_)=>(y0,y1,y2)
 σ:= [(0,0)]
 rd:=Fi
theorem Xf:LoopOk Tryz.prog (fun k=>Nat.blt k Tryz.f134.ntmps) aY.F (au Tryz.f134 0):=by
 refine Lp.ok (tbl:= []) (lf:= []) aq aY (by kernel_rfl) (LOk.nil _) (fun _=>rfl) (fun j _=>by unfold aY;match j with | 0=>rfl | 1=>rfl | 2=>rfl | _ + 3=>rfl) ?_ ?_ ?_ ?_ (fun _=>rfl) ?_
 ·rintro⟨y0,y1,y2⟩;kernel_rfl
 ·rintro⟨y0,y1,y2⟩;kernel_rfl
 ·intro s x h
  have h:Fi s=some x:=h
  unfold Fi at h
  repeat' split at h
  all_goals cases h
  exact⟨aa (by assumption) rfl (aa (by assumption) rfl (aa (by assumption) rfl (rfl))),ab rfl (by assumption) rfl (rfl)⟩
 ·rintro⟨y0,y1,y2⟩;kernel_rfl
 ·rintro⟨y0,y1,y2⟩ z;exact(And.intro (And.intro trivial (And.intro trivial (And.intro trivial rfl))) trivial)
section
variable (x0:Int)(x1:List (Int×Int×Int))
def mv:Int×Int×List (Int×Int×Int):=((0:Int),x0,x1)
def ER:Int:=bif Nat.beq ((Lp.res aY (mv x0 x1)).1) (0:Nat)then eC else bif Nat.beq ((Lp.res aY (mv x0 x1)).1) (1:Nat)then eC else bif Nat.beq ((Lp.res aY (mv x0 x1)).1) (2:Nat)then eC else ((Lp.res aY (mv x0 x1)).2.2).1
def Lx:Bool:=allT [Lp.fin aY (mv x0 x1)]
end
def Tu:List SV→List Entry→Option Out
 | [.one ⟨false,[.ref 0]⟩,.one ⟨false,[.val (.int .i64 x0)]⟩],[.row false 100 (.pair (.int .i64) (.pair (.int .i64) (.int .i64))) x1]=>some ⟨(.one ⟨false,[(.val (.int .i64 (ER x0 x1)))]⟩),[(.row false 100 axj x1)],[],[(Lx x0 x1)]⟩
 |_,_=>none
def ae4:PF Tryz.prog:=PF.ofG Tryz.prog [] [aY.F] aq 134 Tryz.f134 Tryz.func134 (LOk.fnT (l:= [au Tryz.f134 0]) (by kernel_rfl) (.cons Xf (.nil _))) Tu (by
 intro vs es r h;unfold Tu at h;split at h
 ·cases h;kernel_rfl
 ·cases h)
abbrev ju:=Int×Int×List (Int×Int)
section
variable (y0 y1:Int)(y2:List (Int×Int))
def tC:Int×Int:=Option.getD y2[Int.toNat y0]? ((0:Int),(0:Int))
def tD:Int:=IntKind.wrap .i64 (y1 + (1:Int))
def ri:Bool:=ltI y0 (↑y2.length:Int)
def vo:Bool:=leI (0:Int) y0
def vp:Bool:=ltN y0.toNat y2.length
def Bm:Bool:=(tC y0 y2).1!=y1
end
def nx:Int:=(-1:Int)
section
variable (y0 y1:Int)(y2:List (Int×Int))
def Bn:Bool:=(tC y0 y2).2!=tD y1
def Bo:Int:=IntKind.wrap .i64 (y0 + (1:Int))
def Bp:Int:=IntKind.wrap .i64 (tD y1 + (1:Int))
end
def afN:ju→List (Nat×SV)
 |(y0,y1,_)=> [(5,(.one ⟨false,[(.val (.int .i64 y0))]⟩)),(0,(.one ⟨false,[(.ref 0)]⟩)),(1,(.one ⟨false,[(.val (.int .i64 y1))]⟩))]
def afD:ju→List (Nat×Entry)
 |(_,_,y2)=> [(0,(.row false 173 axk y2))]
def agk:Nat→ju→List (Nat×SV)
 |0,(_,_,_)=> [(4,(.one ⟨false,[(.val (.int .i64 (nx)))]⟩))]
 |1,(_,_,_)=> [(4,(.one ⟨false,[(.val (.int .i64 (nx)))]⟩))]
 |_,(_,y1,_)=> [(1,(.one ⟨false,[(.val (.int .i64 y1))]⟩))]
def af9:Nat→ju→List (Nat×Entry)
 |0,(_,_,y2)=> [(0,(.row false 173 axk y2))]
 |1,(_,_,y2)=> [(0,(.row false 173 axk y2))]
 |_,(_,_,y2)=> [(0,(.row false 173 axk y2))]
def zn:ju→LT ju
 |(y0,y1,y2)=> .ite (ri y0 y2) (.need [(vo y0),(ri y0 y2),(vp y0 y2)] (.ite (Bm y0 y1 y2) (.ext 0 [(0,0)]) (.need [(vo y0),(ri y0 y2),(vp y0 y2)] (.ite (Bn y0 y1 y2) (.ext 1 [(0,0)]) (.nrm ((Bo y0),(Bp y1),y2) [(0,0)]))))) (.ext 2 [(0,0)])
def Nj(s:St):Option ju:=
 (match s.look 5 with
 |some ⟨none,(.one ⟨false,[(.val (.int .i64 y0))]⟩)⟩=>
 (match s.look 0 with
 |some ⟨none,(.one ⟨false,[(.ref 0)]⟩)⟩=>
 (match s.look 1 with
 |some ⟨none,(.one ⟨false,[(.val (.int .i64 y1))]⟩)⟩=>
 (match s.ent 0 with
 |some (.row false 173 (.pair (.int .i64) (.int .i64)) y2)=>
 some (y0,y1,y2)
 |_=>none)
 |_=>none)
 |_=>none)
 |_=>none)
def bS:Lp ju where
 h:=⟨[6,7,8,9,12,13,14,15,16,17,18,4,19,20,1,21,22,23,24,25,26,27,28,29,10,11,5],[0],[],[]⟩
 JL:=afN
 JE:=afD
 XL:=agk
 XE:=af9
 q:=fun j=>match j with | 0=> .ret | 1=> .ret | _=> .exit 0
 tags:= [0,1,2]
 lt:=zn
 fuel:=fun(y0,y1,y2)=>y0.natAbs + y1.natAbs + y2.length
 fix:=fun(_,_,y2) (y0,y1,_)=>(y0,y1,y2)
 σ:= [(0,0)]
 rd:=Nj
theorem ads:LoopOk Tryz.prog (fun k=>Nat.blt k Tryz.f135.ntmps) bS.F (au Tryz.f135 0):=by
 refine Lp.ok (tbl:= []) (lf:= []) aq bS (by kernel_rfl) (LOk.nil _) (fun _=>rfl) (fun j _=>by unfold bS;match j with | 0=>rfl | 1=>rfl | _ + 2=>rfl) ?_ ?_ ?_ ?_ (fun _=>rfl) ?_
 ·rintro⟨y0,y1,y2⟩;kernel_rfl
 ·rintro⟨y0,y1,y2⟩;kernel_rfl
 ·intro s x h
  have h:Nj s=some x:=h
  unfold Nj at h
  repeat' split at h
  all_goals cases h
  exact⟨aa (by assumption) rfl (aa (by assumption) rfl (aa (by assumption) rfl (rfl))),ab rfl (by assumption) rfl (rfl)⟩
 ·rintro⟨y0,y1,y2⟩;kernel_rfl
 ·rintro⟨y0,y1,y2⟩ z;exact(And.intro (And.intro trivial (And.intro trivial rfl)) trivial)
section
variable (x0:Int)(x1:List (Int×Int))
def Ao:Int×Int×List (Int×Int):=((0:Int),x0,x1)
def Oa:Int:=bif Nat.beq ((Lp.res bS (Ao x0 x1)).1) (0:Nat)then nx else bif Nat.beq ((Lp.res bS (Ao x0 x1)).1) (1:Nat)then nx else ((Lp.res bS (Ao x0 x1)).2.2).1
def Ub:Bool:=allT [Lp.fin bS (Ao x0 x1)]
end
def abt:List SV→List Entry→Option Out
 | [.one ⟨false,[.ref 0]⟩,.one ⟨false,[.val (.int .i64 x0)]⟩],[.row false 173 (.pair (.int .i64) (.int .i64)) x1]=>some ⟨(.one ⟨false,[(.val (.int .i64 (Oa x0 x1)))]⟩),[(.row false 173 axk x1)],[],[(Ub x0 x1)]⟩
 |_,_=>none
def amL:PF Tryz.prog:=PF.ofG Tryz.prog [] [bS.F] aq 135 Tryz.f135 Tryz.func135 (LOk.fnT (l:= [au Tryz.f135 0]) (by kernel_rfl) (.cons ads (.nil _))) abt (by
 intro vs es r h;unfold abt at h;split at h
 ·cases h;kernel_rfl
 ·cases h)
abbrev jt:=Int×Int×List (Int×Int)
section
variable (y0 y1:Int)(y2:List (Int×Int))
def tA:Int×Int:=Option.getD y2[Int.toNat y0]? ((0:Int),(0:Int))
def tB:Int:=IntKind.wrap .i64 (y1 + (1:Int))
def rh:Bool:=ltI y0 (↑y2.length:Int)
def vm:Bool:=leI (0:Int) y0
def vn:Bool:=ltN y0.toNat y2.length
def Bi:Bool:=(tA y0 y2).1!=y1
end
def nv:Int:=(-1:Int)
section
variable (y0 y1:Int)(y2:List (Int×Int))
def Bj:Bool:=(tA y0 y2).2!=tB y1
def Bk:Int:=IntKind.wrap .i64 (y0 + (1:Int))
def Bl:Int:=IntKind.wrap .i64 (tB y1 + (1:Int))
end
def afM:jt→List (Nat×SV)
 |(y0,y1,_)=> [(5,(.one ⟨false,[(.val (.int .i64 y0))]⟩)),(0,(.one ⟨false,[(.ref 0)]⟩)),(1,(.one ⟨false,[(.val (.int .i64 y1))]⟩))]
def afC:jt→List (Nat×Entry)
 |(_,_,y2)=> [(0,(.row false 176 axk y2))]
def agj:Nat→jt→List (Nat×SV)
 |0,(_,_,_)=> [(4,(.one ⟨false,[(.val (.int .i64 (nv)))]⟩))]
 |1,(_,_,_)=> [(4,(.one ⟨false,[(.val (.int .i64 (nv)))]⟩))]
 |_,(_,y1,_)=> [(1,(.one ⟨false,[(.val (.int .i64 y1))]⟩))]
def af8:Nat→jt→List (Nat×Entry)
 |0,(_,_,y2)=> [(0,(.row false 176 axk y2))]
 |1,(_,_,y2)=> [(0,(.row false 176 axk y2))]
 |_,(_,_,y2)=> [(0,(.row false 176 axk y2))]
def zm:jt→LT jt
 |(y0,y1,y2)=> .ite (rh y0 y2) (.need [(vm y0),(rh y0 y2),(vn y0 y2)] (.ite (Bi y0 y1 y2) (.ext 0 [(0,0)]) (.need [(vm y0),(rh y0 y2),(vn y0 y2)] (.ite (Bj y0 y1 y2) (.ext 1 [(0,0)]) (.nrm ((Bk y0),(Bl y1),y2) [(0,0)]))))) (.ext 2 [(0,0)])
def Ni(s:St):Option jt:=
 (match s.look 5 with
 |some ⟨none,(.one ⟨false,[(.val (.int .i64 y0))]⟩)⟩=>
 (match s.look 0 with
 |some ⟨none,(.one ⟨false,[(.ref 0)]⟩)⟩=>
 (match s.look 1 with
 |some ⟨none,(.one ⟨false,[(.val (.int .i64 y1))]⟩)⟩=>
 (match s.ent 0 with
 |some (.row false 176 (.pair (.int .i64) (.int .i64)) y2)=>
 some (y0,y1,y2)
 |_=>none)
 |_=>none)
 |_=>none)
 |_=>none)
def bR:Lp jt where
 h:=⟨[6,7,8,9,12,13,14,15,16,17,18,4,19,20,1,21,22,23,24,25,26,27,28,29,10,11,5],[0],[],[]⟩
 JL:=afM
 JE:=afC
 XL:=agj
 XE:=af8
 q:=fun j=>match j with | 0=> .ret | 1=> .ret | _=> .exit 0
 tags:= [0,1,2]
 lt:=zm
 fuel:=fun(y0,y1,y2)=>y0.natAbs + y1.natAbs + y2.length
 fix:=fun(_,_,y2) (y0,y1,_)=>(y0,y1,y2)
 σ:= [(0,0)]
 rd:=Ni
theorem adr:LoopOk Tryz.prog (fun k=>Nat.blt k Tryz.f136.ntmps) bR.F (au Tryz.f136 0):=by
 refine Lp.ok (tbl:= []) (lf:= []) aq bR (by kernel_rfl) (LOk.nil _) (fun _=>rfl) (fun j _=>by unfold bR;match j with | 0=>rfl | 1=>rfl | _ + 2=>rfl) ?_ ?_ ?_ ?_ (fun _=>rfl) ?_
 ·rintro⟨y0,y1,y2⟩;kernel_rfl
 ·rintro⟨y0,y1,y2⟩;kernel_rfl
 ·intro s x h
  have h:Ni s=some x:=h
  unfold Ni at h
  repeat' split at h
  all_goals cases h
  exact⟨aa (by assumption) rfl (aa (by assumption) rfl (aa (by assumption) rfl (rfl))),ab rfl (by assumption) rfl (rfl)⟩
 ·rintro⟨y0,y1,y2⟩;kernel_rfl
 ·rintro⟨y0,y1,y2⟩ z;exact(And.intro (And.intro trivial (And.intro trivial rfl)) trivial)
section
variable (x0:Int)(x1:List (Int×Int))
def Am:Int×Int×List (Int×Int):=((0:Int),x0,x1)
def NY:Int:=bif Nat.beq ((Lp.res bR (Am x0 x1)).1) (0:Nat)then nv else bif Nat.beq ((Lp.res bR (Am x0 x1)).1) (1:Nat)then nv else ((Lp.res bR (Am x0 x1)).2.2).1
def TY:Bool:=allT [Lp.fin bR (Am x0 x1)]
end
def abs:List SV→List Entry→Option Out
 | [.one ⟨false,[.ref 0]⟩,.one ⟨false,[.val (.int .i64 x0)]⟩],[.row false 176 (.pair (.int .i64) (.int .i64)) x1]=>some ⟨(.one ⟨false,[(.val (.int .i64 (NY x0 x1)))]⟩),[(.row false 176 axk x1)],[],[(TY x0 x1)]⟩
 |_,_=>none
def amK:PF Tryz.prog:=PF.ofG Tryz.prog [] [bR.F] aq 136 Tryz.f136 Tryz.func136 (LOk.fnT (l:= [au Tryz.f136 0]) (by kernel_rfl) (.cons adr (.nil _))) abs (by
 intro vs es r h;unfold abs at h;split at h
 ·cases h;kernel_rfl
 ·cases h)
abbrev jg:=Int×Int×List (Int×(Int×((Int×Int)×(Int×(Int×Bool)))))
def yt(y0:Int)(y2:List (Int×(Int×((Int×Int)×(Int×(Int×Bool)))))):Int×(Int×Int)×Int×Int×Bool:=(Option.getD y2[Int.toNat y0]? ((0:Int),(0:Int),((0:Int),(0:Int)),(0:Int),(0:Int),false)).2
def nb(y0:Int)(y2:List (Int×(Int×((Int×Int)×(Int×(Int×Bool)))))):(Int×Int)×Int×Int×Bool:=(yt y0 y2).2
def yu(y0:Int)(y2:List (Int×(Int×((Int×Int)×(Int×(Int×Bool)))))):Int×Bool:=(nb y0 y2).2.2
def nc(y0 y1:Int)(y2:List (Int×(Int×((Int×Int)×(Int×(Int×Bool)))))):List (Int×Int×(Int×Int)×Int×Int×Bool):=List.set y2 y0.toNat (y1,(yt y0 y2).1,((nb y0 y2).1.1,(nb y0 y2).1.2),((nb y0 y2).2).1,(yu y0 y2).1,(yu y0 y2).2)
def yw(y0 y1:Int)(y2:List (Int×(Int×((Int×Int)×(Int×(Int×Bool)))))):Int×Int×(Int×Int)×Int×Int×Bool:=Option.getD (nc y0 y1 y2)[Int.toNat y0]? ((0:Int),(0:Int),((0:Int),(0:Int)),(0:Int),(0:Int),false)
def yx(y1:Int):Int:=IntKind.wrap .i64 (y1 + (1:Int))
def yy(y0 y1:Int)(y2:List (Int×(Int×((Int×Int)×(Int×(Int×Bool)))))):(Int×Int)×Int×Int×Bool:=(yw y0 y1 y2).2.2
def yz(y0 y1:Int)(y2:List (Int×(Int×((Int×Int)×(Int×(Int×Bool)))))):Int×Int:=(yy y0 y1 y2).1
def sD(y0 y1:Int)(y2:List (Int×(Int×((Int×Int)×(Int×(Int×Bool)))))):Int×Int×Bool:=(yy y0 y1 y2).2
def ne(y0 y1:Int)(y2:List (Int×(Int×((Int×Int)×(Int×(Int×Bool)))))):List (Int×Int×(Int×Int)×Int×Int×Bool):=List.set (nc y0 y1 y2) y0.toNat ((yw y0 y1 y2).1,yx y1,((yz y0 y1 y2).1,(yz y0 y1 y2).2),(sD y0 y1 y2).1,((sD y0 y1 y2).2).1,(sD y0 y1 y2).2.2)
def vL(y0 y1:Int)(y2:List (Int×(Int×((Int×Int)×(Int×(Int×Bool)))))):Int×Int×(Int×Int)×Int×Int×Bool:=Option.getD (ne y0 y1 y2)[Int.toNat y0]? ((0:Int),(0:Int),((0:Int),(0:Int)),(0:Int),(0:Int),false)
def vM(y0 y1:Int)(y2:List (Int×(Int×((Int×Int)×(Int×(Int×Bool)))))):Int×(Int×Int)×Int×Int×Bool:=(vL y0 y1 y2).2
def vN(y1:Int):Int:=IntKind.wrap .i64 (yx y1 + (1:Int))
def vO(y0 y1:Int)(y2:List (Int×(Int×((Int×Int)×(Int×(Int×Bool)))))):(Int×Int)×Int×Int×Bool:=(vM y0 y1 y2).2
def qW(y0 y1:Int)(y2:List (Int×(Int×((Int×Int)×(Int×(Int×Bool)))))):Int×Int×Bool:=(vO y0 y1 y2).2
def ml(y0 y1:Int)(y2:List (Int×(Int×((Int×Int)×(Int×(Int×Bool)))))):List (Int×Int×(Int×Int)×Int×Int×Bool):=List.set (ne y0 y1 y2) y0.toNat ((vL y0 y1 y2).1,(vM y0 y1 y2).1,(vN y1,(vO y0 y1 y2).1.2),(qW y0 y1 y2).1,((qW y0 y1 y2).2).1,(qW y0 y1 y2).2.2)
def vP(y0 y1:Int)(y2:List (Int×(Int×((Int×Int)×(Int×(Int×Bool)))))):Int×Int×(Int×Int)×Int×Int×Bool:=Option.getD (ml y0 y1 y2)[Int.toNat y0]? ((0:Int),(0:Int),((0:Int),(0:Int)),(0:Int),(0:Int),false)
def vQ(y0 y1:Int)(y2:List (Int×(Int×((Int×Int)×(Int×(Int×Bool)))))):Int×(Int×Int)×Int×Int×Bool:=(vP y0 y1 y2).2
def vR(y0 y1:Int)(y2:List (Int×(Int×((Int×Int)×(Int×(Int×Bool)))))):(Int×Int)×Int×Int×Bool:=(vQ y0 y1 y2).2
def vS(y1:Int):Int:=IntKind.wrap .i64 (vN y1 + (1:Int))
def qX(y0 y1:Int)(y2:List (Int×(Int×((Int×Int)×(Int×(Int×Bool)))))):Int×Int×Bool:=(vR y0 y1 y2).2
def mm(y0 y1:Int)(y2:List (Int×(Int×((Int×Int)×(Int×(Int×Bool)))))):List (Int×Int×(Int×Int)×Int×Int×Bool):=List.set (ml y0 y1 y2) y0.toNat ((vP y0 y1 y2).1,(vQ y0 y1 y2).1,((vR y0 y1 y2).1.1,vS y1),(qX y0 y1 y2).1,((qX y0 y1 y2).2).1,(qX y0 y1 y2).2.2)
def vT(y0 y1:Int)(y2:List (Int×(Int×((Int×Int)×(Int×(Int×Bool)))))):Int×Int×(Int×Int)×Int×Int×Bool:=Option.getD (mm y0 y1 y2)[Int.toNat y0]? ((0:Int),(0:Int),((0:Int),(0:Int)),(0:Int),(0:Int),false)
def vU(y0 y1:Int)(y2:List (Int×(Int×((Int×Int)×(Int×(Int×Bool)))))):Int×(Int×Int)×Int×Int×Bool:=(vT y0 y1 y2).2
def vV(y0 y1:Int)(y2:List (Int×(Int×((Int×Int)×(Int×(Int×Bool)))))):(Int×Int)×Int×Int×Bool:=(vU y0 y1 y2).2
def vW(y0 y1:Int)(y2:List (Int×(Int×((Int×Int)×(Int×(Int×Bool)))))):Int×Int:=(vV y0 y1 y2).1
def vY(y1:Int):Int:=IntKind.wrap .i64 (vS y1 + (1:Int))
def vZ(y0 y1:Int)(y2:List (Int×(Int×((Int×Int)×(Int×(Int×Bool)))))):Int×Bool:=(vV y0 y1 y2).2.2
def mn(y0 y1:Int)(y2:List (Int×(Int×((Int×Int)×(Int×(Int×Bool)))))):List (Int×Int×(Int×Int)×Int×Int×Bool):=List.set (mm y0 y1 y2) y0.toNat ((vT y0 y1 y2).1,(vU y0 y1 y2).1,((vW y0 y1 y2).1,(vW y0 y1 y2).2),vY y1,(vZ y0 y1 y2).1,(vZ y0 y1 y2).2)
def v8(y0 y1:Int)(y2:List (Int×(Int×((Int×Int)×(Int×(Int×Bool)))))):Int×Int×(Int×Int)×Int×Int×Bool:=Option.getD (mn y0 y1 y2)[Int.toNat y0]? ((0:Int),(0:Int),((0:Int),(0:Int)),(0:Int),(0:Int),false)
def wa(y0 y1:Int)(y2:List (Int×(Int×((Int×Int)×(Int×(Int×Bool)))))):Int×(Int×Int)×Int×Int×Bool:=(v8 y0 y1 y2).2
def wb(y0 y1:Int)(y2:List (Int×(Int×((Int×Int)×(Int×(Int×Bool)))))):(Int×Int)×Int×Int×Bool:=(wa y0 y1 y2).2
def wc(y0 y1:Int)(y2:List (Int×(Int×((Int×Int)×(Int×(Int×Bool)))))):Int×Int:=(wb y0 y1 y2).1
def wd(y0 y1:Int)(y2:List (Int×(Int×((Int×Int)×(Int×(Int×Bool)))))):Int×Int×Bool:=(wb y0 y1 y2).2
def we(y1:Int):Int:=IntKind.wrap .i64 (vY y1 + (1:Int))
def mo(y0 y1:Int)(y2:List (Int×(Int×((Int×Int)×(Int×(Int×Bool)))))):List (Int×Int×(Int×Int)×Int×Int×Bool):=List.set (mn y0 y1 y2) y0.toNat ((v8 y0 y1 y2).1,(wa y0 y1 y2).1,((wc y0 y1 y2).1,(wc y0 y1 y2).2),(wd y0 y1 y2).1,we y1,(wd y0 y1 y2).2.2)
def wg(y1:Int):Int:=IntKind.wrap .i64 (we y1 + (1:Int))
def wh(y0 y1:Int)(y2:List (Int×(Int×((Int×Int)×(Int×(Int×Bool)))))):Int×Int×(Int×Int)×Int×Int×Bool:=Option.getD (mo y0 y1 y2)[Int.toNat y0]? ((0:Int),(0:Int),((0:Int),(0:Int)),(0:Int),(0:Int),false)
def wi(y0 y1:Int)(y2:List (Int×(Int×((Int×Int)×(Int×(Int×Bool)))))):Int×(Int×Int)×Int×Int×Bool:=(wh y0 y1 y2).2
def wj(y0 y1:Int)(y2:List (Int×(Int×((Int×Int)×(Int×(Int×Bool)))))):(Int×Int)×Int×Int×Bool:=(wi y0 y1 y2).2
def wk(y0 y1:Int)(y2:List (Int×(Int×((Int×Int)×(Int×(Int×Bool)))))):Int×Int:=(wj y0 y1 y2).1
def wl(y0 y1:Int)(y2:List (Int×(Int×((Int×Int)×(Int×(Int×Bool)))))):Int×Int×Bool:=(wj y0 y1 y2).2
def Ap(y0:Int)(y2:List (Int×(Int×((Int×Int)×(Int×(Int×Bool)))))):Bool:=ltI y0 (↑y2.length:Int)
def jk(y0:Int):Bool:=leI (0:Int) y0
def QZ(y0:Int)(y2:List (Int×(Int×((Int×Int)×(Int×(Int×Bool)))))):Bool:=ltN y0.toNat y2.length
def Ra(y0 y1:Int)(y2:List (Int×(Int×((Int×Int)×(Int×(Int×Bool)))))):Bool:=ltI y0 (↑(List.length (nc y0 y1 y2)):Int)
def Rb(y0 y1:Int)(y2:List (Int×(Int×((Int×Int)×(Int×(Int×Bool)))))):Bool:=ltN y0.toNat (List.length (nc y0 y1 y2))
def Rc(y0 y1:Int)(y2:List (Int×(Int×((Int×Int)×(Int×(Int×Bool)))))):Bool:=ltI y0 (↑(List.length (ne y0 y1 y2)):Int)
def Rd(y0 y1:Int)(y2:List (Int×(Int×((Int×Int)×(Int×(Int×Bool)))))):Bool:=ltN y0.toNat (List.length (ne y0 y1 y2))
def Re(y0 y1:Int)(y2:List (Int×(Int×((Int×Int)×(Int×(Int×Bool)))))):Bool:=ltI y0 (↑(List.length (ml y0 y1 y2)):Int)
def Rf(y0 y1:Int)(y2:List (Int×(Int×((Int×Int)×(Int×(Int×Bool)))))):Bool:=ltN y0.toNat (List.length (ml y0 y1 y2))
def Rg(y0 y1:Int)(y2:List (Int×(Int×((Int×Int)×(Int×(Int×Bool)))))):Bool:=ltI y0 (↑(List.length (mm y0 y1 y2)):Int)
def OY(y0 y1:Int)(y2:List (Int×(Int×((Int×Int)×(Int×(Int×Bool)))))):Bool:=ltN y0.toNat (List.length (mm y0 y1 y2))
def OZ(y0 y1:Int)(y2:List (Int×(Int×((Int×Int)×(Int×(Int×Bool)))))):Bool:=ltI y0 (↑(List.length (mn y0 y1 y2)):Int)
def Pa(y0 y1:Int)(y2:List (Int×(Int×((Int×Int)×(Int×(Int×Bool)))))):Bool:=ltN y0.toNat (List.length (mn y0 y1 y2))
def Pb:Bool:=neI (3:Int) (0:Int)
def Pc(y0 y1:Int)(y2:List (Int×(Int×((Int×Int)×(Int×(Int×Bool)))))):Bool:=ltI y0 (↑(List.length (mo y0 y1 y2)):Int)
def Pf(y0 y1:Int)(y2:List (Int×(Int×((Int×Int)×(Int×(Int×Bool)))))):Bool:=ltN y0.toNat (List.length (mo y0 y1 y2))
def Pg(y0:Int):Int:=IntKind.wrap .i64 (y0 + (1:Int))
def Ph(y1:Int):Int:=IntKind.wrap .i64 (wg y1 + (1:Int))
def Pj(y0 y1:Int)(y2:List (Int×(Int×((Int×Int)×(Int×(Int×Bool)))))):List (Int×(Int×((Int×Int)×(Int×(Int×Bool))))):=List.set (mo y0 y1 y2) y0.toNat ((wh y0 y1 y2).1,(wi y0 y1 y2).1,((wk y0 y1 y2).1,(wk y0 y1 y2).2),(wl y0 y1 y2).1,((wl y0 y1 y2).2).1,Int.tmod (wg y1) (3:Int)==(0:Int))
def aaA:jg→List (Nat×SV)
 |(y0,y1,_)=> [(5,(.one ⟨false,[(.val (.int .i64 y0))]⟩)),(0,(.one ⟨false,[(.ref 0)]⟩)),(1,(.one ⟨false,[(.val (.int .i64 y1))]⟩))]
def aaw:jg→List (Nat×Entry)
 |(_,_,y2)=> [(0,(.row true 49 axi y2))]
def aaI:Nat→jg→List (Nat×SV)
 |_,(_,y1,_)=> [(1,(.one ⟨false,[(.val (.int .i64 y1))]⟩))]
def aaE:Nat→jg→List (Nat×Entry)
 |_,(_,_,y2)=> [(0,(.row true 49 axi y2))]
def Hr:jg→LT jg
 |(y0,y1,y2)=> .ite (Ap y0 y2) (.need [(jk y0),(Ap y0 y2),(QZ y0 y2)] (.need [(jk y0),(Ra y0 y1 y2),(Rb y0 y1 y2)] (.need [(jk y0),(Rc y0 y1 y2),(Rd y0 y1 y2)] (.need [(jk y0),(Re y0 y1 y2),(Rf y0 y1 y2)] (.need [(jk y0),(Rg y0 y1 y2),(OY y0 y1 y2)] (.need [(jk y0),(OZ y0 y1 y2),(Pa y0 y1 y2)] (.need [(Pb),(jk y0),(Pc y0 y1 y2),(Pf y0 y1 y2)] (.nrm ((Pg y0),(Ph y1),(Pj y0 y1 y2)) [(0,0)])))))))) (.ext 0 [(0,0)])
def Hv(s:St):Option jg:=
 (match s.look 5 with
 |some ⟨none,(.one ⟨false,[(.val (.int .i64 y0))]⟩)⟩=>
 (match s.look 0 with
 |some ⟨none,(.one ⟨false,[(.ref 0)]⟩)⟩=>
 (match s.look 1 with
 |some ⟨none,(.one ⟨false,[(.val (.int .i64 y1))]⟩)⟩=>
 (match s.ent 0 with
 |some (.row true 49 (.pair (.int .i64) (.pair (.int .i64) (.pair (.pair (.int .i64) (.int .i64)) (.pair (.int .i64) (.pair (.int .i64) .bool))))) y2)=>
 some (y0,y1,y2)
 |_=>none)
 |_=>none)
 |_=>none)
 |_=>none)
def cF:Lp jg where
 h:=⟨[6,7,8,9,12,13,14,15,16,17,18,1,19,20,21,22,23,24,25,26,27,28,29,30,31,32,33,34,35,36,37,38,39,40,41,42,43,44,45,46,47,48,49,50,51,52,53,54,55,56,57,58,59,60,61,62,63,64,65,66,67,10,11,5],[0],[],[]⟩
 JL:=aaA
 JE:=aaw
 XL:=aaI
 XE:=aaE
 q:=fun j=>match j with | _=> .exit 0
 tags:= [0]
 lt:=Hr
 fuel:=fun(y0,y1,y2)=>y0.natAbs + y1.natAbs + y2.length
 fix:=fun(_,_,_) (y0,y1,y2)=>(y0,y1,y2)
 σ:= [(0,0)]
 rd:=Hv
theorem Yd:LoopOk Tryz.prog (fun k=>Nat.blt k Tryz.f47.ntmps) cF.F (au Tryz.f47 0):=by
 refine Lp.ok (tbl:= []) (lf:= []) aq cF (by kernel_rfl) (LOk.nil _) (fun _=>rfl) (fun _ _=>rfl) ?_ ?_ ?_ ?_ (fun _=>rfl) ?_
 ·rintro⟨y0,y1,y2⟩;kernel_rfl
 ·rintro⟨y0,y1,y2⟩;kernel_rfl
 ·intro s x h
  have h:Hv s=some x:=h
  unfold Hv at h
  repeat' split at h
  all_goals cases h
  exact⟨aa (by assumption) rfl (aa (by assumption) rfl (aa (by assumption) rfl (rfl))),ab rfl (by assumption) rfl (rfl)⟩
 ·rintro⟨y0,y1,y2⟩;kernel_rfl
 ·rintro⟨y0,y1,y2⟩ z;exact(And.intro rfl trivial)
section
variable (x0:Int)(x1:List (Int×Int×(Int×Int)×Int×Int×Bool))
def wR:Int×Int×List (Int×Int×(Int×Int)×Int×Int×Bool):=((0:Int),x0,x1)
def ES:Int×List (Int×Int×(Int×Int)×Int×Int×Bool):=(Lp.res cF (wR x0 x1)).2.2
def MS:Int:=(ES x0 x1).1
def MT:List (Int×(Int×((Int×Int)×(Int×(Int×Bool))))):=(ES x0 x1).2
def MU:Bool:=allT [Lp.fin cF (wR x0 x1)]
end
def Vf:List SV→List Entry→Option Out
 | [.one ⟨false,[.ref 0]⟩,.one ⟨false,[.val (.int .i64 x0)]⟩],[.row true 49 (.pair (.int .i64) (.pair (.int .i64) (.pair (.pair (.int .i64) (.int .i64)) (.pair (.int .i64) (.pair (.int .i64) (.bool)))))) x1]=>some ⟨(.one ⟨false,[(.val (.int .i64 (MS x0 x1)))]⟩),[(.row true 49 axi (MT x0 x1))],[],[(MU x0 x1)]⟩
 |_,_=>none
def ag0:PF Tryz.prog:=PF.ofG Tryz.prog [] [cF.F] aq 47 Tryz.f47 Tryz.func47 (LOk.fnT (l:= [au Tryz.f47 0]) (by kernel_rfl) (.cons Yd (.nil _))) Vf (by
 intro vs es r h;unfold Vf at h;split at h
 ·cases h;kernel_rfl
 ·cases h)
end Go.SX

namespace Go.SX
open Go.Proofs
set_option maxRecDepth 100000
def ZH(xs ys:List (Int×Int×(Int×Int)×Int×Int×Bool)):Bool:=decide (xs=ys)
theorem aua(xs:List (Int×Int×(Int×Int)×Int×Int×Bool)):ZH xs xs=true:=by simp [ZH]
def nG(y1:List (Int×(Int×((Int×Int)×(Int×(Int×Bool))))))(b:Nat):(List (Int×(Int×((Int×Int)×(Int×(Int×Bool))))))→Nat ⊕ (List (Int×(Int×((Int×Int)×(Int×(Int×Bool))))))
 |y2=>(.inr (List.set y2 b ((Option.getD y1[b]? ((0:Int),(0:Int),((0:Int),(0:Int)),(0:Int),(0:Int),false)).1,((Option.getD y1[b]? ((0:Int),(0:Int),((0:Int),(0:Int)),(0:Int),(0:Int),false)).2).1,(((Option.getD y1[b]? ((0:Int),(0:Int),((0:Int),(0:Int)),(0:Int),(0:Int),false)).2.2).1.1,((Option.getD y1[b]? ((0:Int),(0:Int),((0:Int),(0:Int)),(0:Int),(0:Int),false)).2.2).1.2),((Option.getD y1[b]? ((0:Int),(0:Int),((0:Int),(0:Int)),(0:Int),(0:Int),false)).2.2.2).1,((Option.getD y1[b]? ((0:Int),(0:Int),((0:Int),(0:Int)),(0:Int),(0:Int),false)).2.2.2.2).1,(Option.getD y1[b]? ((0:Int),(0:Int),((0:Int),(0:Int)),(0:Int),(0:Int),false)).2.2.2.2.2)))
def j6(y1:List (Int×(Int×((Int×Int)×(Int×(Int×Bool))))))(i:Nat):(List (Int×(Int×((Int×Int)×(Int×(Int×Bool))))))→g8
 |y2=>((i:Int),y1,y2)
def KG:g8→List (Int×(Int×((Int×Int)×(Int×(Int×Bool)))))
 |(_,_,y2)=>y2
theorem afb(y1 y2:List (Int×(Int×((Int×Int)×(Int×(Int×Bool))))))(hn:y1.length≤9223372036854775807)(hl:y2.length=y1.length):
  cN.fin ((0:Int),y1,y2)=true∧cN.res ((0:Int),y1,y2)=((ae (nG y1) 0 (List.range y1.length) 0 y2).1,(j6 y1) (ae (nG y1) 0 (List.range y1.length) 0 y2).2.1 (ae (nG y1) 0 (List.range y1.length) 0 y2).2.2):=by
 have key:=cN.along (j6 y1) KG (nG y1) 0 (fun _ a=>a.length=y1.length) (List.range y1.length) y2 hl (by simp only [cN,j6,List.length_range];omega) (fun i b a hb hI=> ?_) (fun a hI=> ?_)
 ·exact key
 ·obtain y2:=a
  obtain⟨rfl,hlt⟩:=eu hb
  have hw:IntKind.i64.wrap ((b:Int) + 1)=((b + 1:Nat):Int):=by rw [aw (by omega) (by omega)];omega
  have hdec:ltI (b:Int) (y1.length:Int)=true:=bZ (by omega)
  have hnn:leI (0:Int) (b:Int)=true:=bC (by omega)
  have hltd:ltN b y1.length=true:=cB (by omega)
  refine⟨?_,?_,?_,?_⟩
  ·simp [qL,qM,jU,qN,rV,rW,wS,wT,wU,wV,wW,uS,cN,LT.nds,allT,j6,hdec,hnn,hltd,hI]
  ·simp [qL,qM,jU,qN,rV,rW,wS,wT,wU,wV,wW,uS,cN,LT.each,j6,KG,hw,hI]
  ·simp only [qL,qM,jU,qN,rV,rW,wS,wT,wU,wV,wW,uS,cN,LT.fn,j6,KG,nG,Int.toNat_natCast,hdec,cond_true]
  ·intro a' hf;simp only [nG,Sum.inr.injEq]at hf;subst hf;simpa using hI
 ·obtain y2:=a
  simp [qL,qM,jU,qN,rV,rW,wS,wT,wU,wV,wW,uS,cN,LT.out,j6,List.length_range]
def rM(y1 y2:List (Int×(Int×((Int×Int)×(Int×(Int×Bool))))))(b:Nat):(Unit)→Nat ⊕ (Unit)
 |_=>(bif(!FN ((Option.getD y1[b]? ((0:Int),(0:Int),((0:Int),(0:Int)),(0:Int),(0:Int),false)).1) (((Option.getD y1[b]? ((0:Int),(0:Int),((0:Int),(0:Int)),(0:Int),(0:Int),false)).2).1) (((Option.getD y1[b]? ((0:Int),(0:Int),((0:Int),(0:Int)),(0:Int),(0:Int),false)).2.2).1.1) (((Option.getD y1[b]? ((0:Int),(0:Int),((0:Int),(0:Int)),(0:Int),(0:Int),false)).2.2).1.2) (((Option.getD y1[b]? ((0:Int),(0:Int),((0:Int),(0:Int)),(0:Int),(0:Int),false)).2.2.2).1) (((Option.getD y1[b]? ((0:Int),(0:Int),((0:Int),(0:Int)),(0:Int),(0:Int),false)).2.2.2.2).1) ((Option.getD y1[b]? ((0:Int),(0:Int),((0:Int),(0:Int)),(0:Int),(0:Int),false)).2.2.2.2.2) ((Option.getD y2[b]? ((0:Int),(0:Int),((0:Int),(0:Int)),(0:Int),(0:Int),false)).1) (((Option.getD y2[b]? ((0:Int),(0:Int),((0:Int),(0:Int)),(0:Int),(0:Int),false)).2).1) (((Option.getD y2[b]? ((0:Int),(0:Int),((0:Int),(0:Int)),(0:Int),(0:Int),false)).2.2).1.1) (((Option.getD y2[b]? ((0:Int),(0:Int),((0:Int),(0:Int)),(0:Int),(0:Int),false)).2.2).1.2) (((Option.getD y2[b]? ((0:Int),(0:Int),((0:Int),(0:Int)),(0:Int),(0:Int),false)).2.2.2).1) (((Option.getD y2[b]? ((0:Int),(0:Int),((0:Int),(0:Int)),(0:Int),(0:Int),false)).2.2.2.2).1) ((Option.getD y2[b]? ((0:Int),(0:Int),((0:Int),(0:Int)),(0:Int),(0:Int),false)).2.2.2.2.2))then(.inl 0)else(.inr ()))
def mF(y1 y2:List (Int×(Int×((Int×Int)×(Int×(Int×Bool))))))(i:Nat):(Unit)→gX
 |_=>((i:Int),y1,y2)
def KD:gX→Unit
 |(_,_,_)=>()
theorem ae8(y1 y2:List (Int×(Int×((Int×Int)×(Int×(Int×Bool)))))) (hn:y1.length≤9223372036854775807) (he:y2.length=y1.length):
  cf.fin ((0:Int),y1,y2)=true∧cf.res ((0:Int),y1,y2)=((ae (rM y1 y2) 1 (List.range y1.length) 0 ()).1,(mF y1 y2) (ae (rM y1 y2) 1 (List.range y1.length) 0 ()).2.1 (ae (rM y1 y2) 1 (List.range y1.length) 0 ()).2.2):=by
 have key:=cf.along (mF y1 y2) KD (rM y1 y2) 1 (fun _ _=>True) (List.range y1.length) () (by trivial) (by simp only [cf,mF,List.length_range];omega) (fun i b a hb hI=> ?_) (fun a hI=> ?_)
 ·exact key
 ·obtain⟨⟩:=a
  obtain⟨rfl,hlt⟩:=eu hb
  have hw:IntKind.i64.wrap ((b:Int) + 1)=((b + 1:Nat):Int):=by rw [aw (by omega) (by omega)];omega
  have hdec:ltI (b:Int) (y1.length:Int)=true:=bZ (by omega)
  have hnn:leI (0:Int) (b:Int)=true:=bC (by omega)
  have hltd:ltN b y1.length=true:=cB (by omega)
  refine⟨?_,?_,?_,?_⟩
  ·simp [qD,qE,jR,qF,qG,qH,jS,qI,rQ,rR,wE,wF,wG,wH,wI,uP,cf,LT.nds,allT,mF,hdec,hnn,hltd,he]
  ·simp [qD,qE,jR,qF,qG,qH,jS,qI,rQ,rR,wE,wF,wG,wH,wI,uP,cf,LT.each,mF,KD,hw,he]
  ·simp only [qD,qE,jR,qF,qG,qH,jS,qI,rQ,rR,wE,wF,wG,wH,wI,uP,cf,LT.fn,mF,KD,rM,Int.toNat_natCast,hdec,cond_true]
  ·exact fun _ _=>trivial
 ·obtain⟨⟩:=a
  simp [qD,qE,jR,qF,qG,qH,jS,qI,rQ,rR,wE,wF,wG,wH,wI,uP,cf,LT.out,mF,List.length_range]
theorem apo(xs:List (Int×Int×(Int×Int)×Int×Int×Bool))(hn:leN xs.length 1048576=true):Ky xs=xs∧Kz xs=true:=by
 have hn:=bT.1 hn
 have hr:(List.replicate (Int.toNat (xs.length:Int)) ((0:Int),(0:Int),((0:Int),(0:Int)),(0:Int),(0:Int),false)).length=xs.length:=by simp
 obtain⟨w1,w2⟩:=afb xs (List.replicate (Int.toNat (xs.length:Int)) ((0:Int),(0:Int),((0:Int),(0:Int)),(0:Int),(0:Int),false)) (by omega) hr
 have hc:=Og (xs:=xs) (d:=((0:Int),(0:Int),((0:Int),(0:Int)),(0:Int),(0:Int),false)) (g:=fun x=>x) (f:=nG xs) (e:=0) (fun b a=>rfl) hr
 rw [hc]at w2
 refine⟨?_,?_⟩
 ·simp only [ny,Is,Ky,Kz,w2,j6];simp
 ·simp only [ny,Is,Ky,Kz,w1,allT];simp;omega
def XD:List SV→List Entry→Option Out
 | [.one ⟨false,[.ref 0]⟩],[.row false 83 (.pair (.int .i64) (.pair (.int .i64) (.pair (.pair (.int .i64) (.int .i64)) (.pair (.int .i64) (.pair (.int .i64) (.bool)))))) x0]=>some ⟨(.one ⟨false,[(.ref 1)]⟩),[(.row false 83 axi x0)],[(.row true 49 axi x0)],[leN x0.length 1048576]⟩
 |_,_=>none
def Qm:PF Tryz.prog:=PF.alt akb XD (by
 intro args es o h hnd;unfold XD at h;split at h
 ·rename_i x0
  cases h
  have hnd:=bY hnd
  have hh:=apo x0 hnd
  obtain⟨e0,en⟩:=hh
  exact ek rfl (cg en) rfl rfl (by simp only [e0] <;> rfl)
 ·cases h)
theorem aoq(xs ys:List (Int×Int×(Int×Int)×Int×Int×Bool))(hn:leN xs.length 9223372036854775807=true):Kw xs ys=ZH xs ys∧Kx xs ys=true:=by
 have hn:=bT.1 hn
 unfold ZH
 have h3: ∀ a b:Int×Int×(Int×Int)×Int×Int×Bool,(!FN a.1 a.2.1 a.2.2.1.1 a.2.2.1.2 a.2.2.2.1 a.2.2.2.2.1 a.2.2.2.2.2 b.1 b.2.1 b.2.2.1.1 b.2.2.1.2 b.2.2.2.1 b.2.2.2.2.1 b.2.2.2.2.2)= !decide (a=b):=fun a b=>by
  obtain⟨a1,a2,⟨a3,a4⟩,a5,a6,a7⟩:=a;obtain⟨b1,b2,⟨b3,b4⟩,b5,b6,b7⟩:=b
  simp only [FN,Kv,TV]
  by_cases h1:a1=b1
  case neg=>simp [h1]
  subst h1
  by_cases h2:a2=b2
  case neg=>simp [h2]
  subst h2
  by_cases h3:a3=b3
  case neg=>simp [h3]
  subst h3
  by_cases h4:a4=b4
  case neg=>simp [h4]
  subst h4
  by_cases h5:a5=b5
  case neg=>simp [h5]
  subst h5
  by_cases h6:a6=b6
  case neg=>simp [h6]
  subst h6
  by_cases h7:a7=b7
  case neg=>simp [h7]
  subst h7
  simp
 by_cases hl:ys.length=xs.length
 ·obtain⟨w1,w2⟩:=ae8 xs ys hn hl
  have ha:=ajK (d:=((0:Int),(0:Int),((0:Int),(0:Int)),(0:Int),(0:Int),false)) hl (P:=fun b=> !decide (Option.getD xs[b]? ((0:Int),(0:Int),((0:Int),(0:Int)),(0:Int),(0:Int),false)=Option.getD ys[b]? ((0:Int),(0:Int),((0:Int),(0:Int)),(0:Int),(0:Int),false))) (fun b=>rfl)
  rw [jp (P:=fun b=> !decide (Option.getD xs[b]? ((0:Int),(0:Int),((0:Int),(0:Int)),(0:Int),(0:Int),false)=Option.getD ys[b]? ((0:Int),(0:Int),((0:Int),(0:Int)),(0:Int),(0:Int),false))) (j:=0) (fun b=>by simp only [rM,h3]),ha]at w2
  simp only [Ie,Ig,Kw,Kx,w1,w2,allT]
  by_cases he:xs=ys
  ·subst he;simp;decide
  ·simp [he,hl]
 ·have hne:xs≠ys:=fun h=>hl (by rw [h])
  simp [Ie,Ig,Kw,Kx,allT,hne]
  omega
def Xx:List SV→List Entry→Option Out
 | [.one ⟨false,[.ref 0]⟩,.one ⟨false,[.ref 1]⟩],[.row false 49 (.pair (.int .i64) (.pair (.int .i64) (.pair (.pair (.int .i64) (.int .i64)) (.pair (.int .i64) (.pair (.int .i64) (.bool)))))) x0,.row false 49 (.pair (.int .i64) (.pair (.int .i64) (.pair (.pair (.int .i64) (.int .i64)) (.pair (.int .i64) (.pair (.int .i64) (.bool)))))) x1]=>some ⟨(.one ⟨false,[(.val (.bool (ZH x0 x1)))]⟩),[(.row false 49 axi x0),(.row false 49 axi x1)],[],[leN x0.length 9223372036854775807]⟩
 |_,_=>none
def Qg:PF Tryz.prog:=PF.alt aj5 Xx (by
 intro args es o h hnd;unfold Xx at h;split at h
 ·rename_i x0 x1
  cases h
  have hnd:=bY hnd
  have hh:=aoq x0 x1 hnd
  obtain⟨e0,en⟩:=hh
  exact ek rfl (cg en) (by simp only [e0] <;> rfl) rfl rfl
 ·cases h)
def upG{α:Type}(d:Nat)(mk:Int→α)(k:Int)(n:Nat):List α:=(List.range n).map fun(i:Nat)=>mk (k + d * (i:Int))
theorem NJ{α:Type}(d:Nat)(mk:Int→α)(k:Int)(n:Nat):(upG d mk k n).length=n:=by simp [upG]
theorem asA{α:Type}(d:Nat)(mk:Int→α)(k:Int)(n:Nat):upG d mk k (n + 1)=mk k::upG d mk (k + d) n:=by
 unfold upG
 rw [List.range_succ_eq_map,List.map_cons,List.map_map]
 congr 1
 ·simp
 ·refine List.map_congr_left fun i _=> ?_
  simp only [Function.comp]
  congr 1
  simp [Int.mul_add];omega
theorem UP{α:Type}{d:Nat}{mk:Int→α}{f:Nat→Int×List α→Nat ⊕ (Int×List α)}{e:Nat}
  (hf: ∀ (b:Nat) (k:Int) (xs:List α),b < xs.length→0≤k→k + d≤9223372036854775807→f b (k,xs)= .inr (k + d,xs.set b (mk k))):
  ∀ (ys pre:List α) (k:Int),0≤k→k + d * (ys.length:Int)≤9223372036854775807→
   ae f e (List.range' pre.length ys.length) pre.length (k,pre++ys)=(e,pre.length + ys.length,(k + d * (ys.length:Int),pre++upG d mk k ys.length))
 | [],pre,k,_,_=>by simp [ae,upG]
 |y::ys,pre,k,h0,h1=>by
  have hd:(d:Int) * (((y::ys).length:Nat):Int)=d + d * (ys.length:Int):=by simp [Int.mul_add];omega
  rw [hd]at h1
  have hp:0≤(d:Int) * (ys.length:Int):=Int.mul_nonneg (by omega) (by omega)
  have hs:(pre++y::ys).set pre.length (mk k)=(pre++ [mk k])++ys:=by rw [List.set_append_right _ _ (Nat.le_refl _)];simp
  have ih:=UP (e:=e) hf ys (pre++ [mk k]) (k + d) (by omega) (by omega)
  rw [List.length_cons,List.range'_succ]
  simp only [ae,hf pre.length k (pre++y::ys) (by simp) h0 (by omega),hs]
  rw [List.length_append,List.length_singleton]at ih
  rw [ih,asA]
  simp [Int.mul_add]
  omega
theorem Zl{α:Type}{d:Nat}{mk:Int→α}{f:α→Int→Nat ⊕ Int}{e:Nat}(hf: ∀ (k:Int),0≤k→k + d≤9223372036854775807→f (mk k) k= .inr (k + d)):
  ∀ (n:Nat) (k:Int) (i:Nat),0≤k→k + d * (n:Int)≤9223372036854775807→ae f e (upG d mk k n) i k=(e,i + n,k + d * (n:Int))
 |0,k,i,_,_=>by simp [ae,upG]
 |n + 1,k,i,h0,h1=>by
  have hd:(d:Int) * ((n + 1:Nat):Int)=d + d * (n:Int):=by simp [Int.mul_add];omega
  rw [hd]at h1
  have hp:0≤(d:Int) * (n:Int):=Int.mul_nonneg (by omega) (by omega)
  rw [asA]
  simp only [ae,hf k h0 (by omega)]
  rw [Zl hf n (k + d) (i + 1) (by omega) (by omega),hd]
  simp only [Prod.mk.injEq,true_and]
  omega
def EY(d:Nat)(k:Int)(n:Nat):Bool:=leI 0 k&&leI (k + d * (n:Int)) 9223372036854775807
theorem rX{d:Nat}{k:Int}{n:Nat}:EY d k n=true↔0≤k∧k + d * (n:Int)≤9223372036854775807:=by simp [EY]
def mkB(k:Int):Int×Int×Int:=(k,k + 1,k + 2)
def mkI(k:Int):Int×Int:=(k,k + 1)
def mkS(k:Int):Int×Int×(Int×Int)×Int×Int×Bool:=(k,k + 1,(k + 2,k + 3),k + 4,k + 5,Int.tmod (k + 6) 3==0)
def gH(b:Nat):(Int×List (Int×(Int×Int)))→Nat ⊕ (Int×List (Int×(Int×Int)))
 |(y1,y2)=>(.inr ((IntKind.wrap .i64 ((IntKind.wrap .i64 ((IntKind.wrap .i64 (y1 + (1:Int))) + (1:Int))) + (1:Int))),(List.set (List.set (List.set y2 b (y1,((Option.getD y2[b]? ((0:Int),(0:Int),(0:Int))).2).1,(Option.getD y2[b]? ((0:Int),(0:Int),(0:Int))).2.2)) b ((Option.getD (List.set y2 b (y1,((Option.getD y2[b]? ((0:Int),(0:Int),(0:Int))).2).1,(Option.getD y2[b]? ((0:Int),(0:Int),(0:Int))).2.2))[b]? ((0:Int),(0:Int),(0:Int))).1,(IntKind.wrap .i64 (y1 + (1:Int))),(Option.getD (List.set y2 b (y1,((Option.getD y2[b]? ((0:Int),(0:Int),(0:Int))).2).1,(Option.getD y2[b]? ((0:Int),(0:Int),(0:Int))).2.2))[b]? ((0:Int),(0:Int),(0:Int))).2.2)) b ((Option.getD (List.set (List.set y2 b (y1,((Option.getD y2[b]? ((0:Int),(0:Int),(0:Int))).2).1,(Option.getD y2[b]? ((0:Int),(0:Int),(0:Int))).2.2)) b ((Option.getD (List.set y2 b (y1,((Option.getD y2[b]? ((0:Int),(0:Int),(0:Int))).2).1,(Option.getD y2[b]? ((0:Int),(0:Int),(0:Int))).2.2))[b]? ((0:Int),(0:Int),(0:Int))).1,(IntKind.wrap .i64 (y1 + (1:Int))),(Option.getD (List.set y2 b (y1,((Option.getD y2[b]? ((0:Int),(0:Int),(0:Int))).2).1,(Option.getD y2[b]? ((0:Int),(0:Int),(0:Int))).2.2))[b]? ((0:Int),(0:Int),(0:Int))).2.2))[b]? ((0:Int),(0:Int),(0:Int))).1,((Option.getD (List.set (List.set y2 b (y1,((Option.getD y2[b]? ((0:Int),(0:Int),(0:Int))).2).1,(Option.getD y2[b]? ((0:Int),(0:Int),(0:Int))).2.2)) b ((Option.getD (List.set y2 b (y1,((Option.getD y2[b]? ((0:Int),(0:Int),(0:Int))).2).1,(Option.getD y2[b]? ((0:Int),(0:Int),(0:Int))).2.2))[b]? ((0:Int),(0:Int),(0:Int))).1,(IntKind.wrap .i64 (y1 + (1:Int))),(Option.getD (List.set y2 b (y1,((Option.getD y2[b]? ((0:Int),(0:Int),(0:Int))).2).1,(Option.getD y2[b]? ((0:Int),(0:Int),(0:Int))).2.2))[b]? ((0:Int),(0:Int),(0:Int))).2.2))[b]? ((0:Int),(0:Int),(0:Int))).2).1,(IntKind.wrap .i64 ((IntKind.wrap .i64 (y1 + (1:Int))) + (1:Int)))))))
def ei(i:Nat):(Int×List (Int×(Int×Int)))→du
 |(y1,y2)=>((i:Int),y1,y2)
def Ci:du→Int×List (Int×(Int×Int))
 |(_,y1,y2)=>(y1,y2)
theorem Zi(y1:Int)(y2:List (Int×(Int×Int)))(n:Nat)(hl:y2.length=n)(hn:n≤9223372036854775807):
  bu.fin ((0:Int),y1,y2)=true∧bu.res ((0:Int),y1,y2)=((ae (gH) 0 (List.range n) 0 (y1,y2)).1,(ei) (ae (gH) 0 (List.range n) 0 (y1,y2)).2.1 (ae (gH) 0 (List.range n) 0 (y1,y2)).2.2):=by
 have key:=bu.along (ei) Ci (gH) 0 (fun _ a=>a.2.length=n) (List.range n) (y1,y2) hl (by simp only [bu,ei,List.length_range];omega) (fun i b a hb hI=> ?_) (fun a hI=> ?_)
 ·exact key
 ·obtain⟨y1,y2⟩:=a
  obtain⟨rfl,hlt⟩:=eu hb
  have hI0:y2.length=n:=hI
  have hw:IntKind.i64.wrap ((b:Int) + 1)=((b + 1:Nat):Int):=by rw [aw (by omega) (by omega)];omega
  have hdec:ltI (b:Int) (y2.length:Int)=true:=bZ (by omega)
  have hnn:leI (0:Int) (b:Int)=true:=bC (by omega)
  have hltd:ltN b y2.length=true:=cB (by omega)
  refine⟨?_,?_,?_,?_⟩
  ·simp [kw,fX,kx,ky,fY,kz,kA,lm,i5,pP,pQ,pR,pS,pT,pU,pV,pW,og,bu,LT.nds,allT,ei,hdec,hnn,hltd]
  ·simp [kw,fX,kx,ky,fY,kz,kA,lm,i5,pP,pQ,pR,pS,pT,pU,pV,pW,og,bu,LT.each,ei,Ci,hw]
  ·simp only [kw,fX,kx,ky,fY,kz,kA,lm,i5,pP,pQ,pR,pS,pT,pU,pV,pW,og,bu,LT.fn,ei,Ci,gH,Int.toNat_natCast,hdec,hnn,hltd,cond_true,Bool.cond_self]
  ·intro a' hf;simp only [gH,Sum.inr.injEq]at hf;subst hf;simp [hI0]
 ·obtain⟨y1,y2⟩:=a
  have hI0:y2.length=n:=hI
  simp [kw,fX,kx,ky,fY,kz,kA,lm,i5,pP,pQ,pR,pS,pT,pU,pV,pW,og,bu,LT.out,ei,hI0,List.length_range]
theorem ala(b:Nat)(k:Int)(xs:List (Int×Int×Int))(hb:b < xs.length)(h0:0≤k)(h1:k + (3:Nat)≤9223372036854775807):gH b (k,xs)= .inr (k + (3:Nat),xs.set b (mkB k)):=by
 have w1:IntKind.i64.wrap (k + 1)=k + 1:=aw (by omega) (by omega)
 have w2:IntKind.i64.wrap (k + 1 + 1)=k + 2:=by rw [aw (by omega) (by omega)];omega
 have w3:IntKind.i64.wrap (k + 2 + 1)=k + 3:=by rw [aw (by omega) (by omega)];omega
 simp [gH,mkB,w1,w2,w3,List.set_set,List.getElem?_set,hb]
theorem ain(k:Int)(xs:List (Int×Int×Int))(h:(EY 3 k xs.length&&leN xs.length 9223372036854775807)=true):ID k xs=k + 3 * (xs.length:Int)∧IE k xs=upG 3 mkB k xs.length∧IF k xs=true:=by
 simp only [Bool.and_eq_true,bT]at h
 obtain⟨h0,h2⟩:=rX.1 h.1
 obtain⟨w1,w2⟩:=Zi k xs xs.length rfl h.2
 have hw:=UP (e:=0) ala xs [] k h0 h2
 rw [List.length_nil,List.nil_append,← List.range_eq_range']at hw
 rw [hw]at w2
 refine⟨?_,?_,?_⟩
 ·simp only [ID,sE,yA,w2,ei];rfl
 ·simp only [IE,sE,yA,w2,ei];rfl
 ·simp only [IF,sE,w1,allT,cond_true]
def QP:List SV→List Entry→Option Out
 | [.one ⟨false,[.ref 0]⟩,.one ⟨false,[.val (.int .i64 x0)]⟩],[.row true 169 (.pair (.int .i64) (.pair (.int .i64) (.int .i64))) x1]=>some ⟨(.one ⟨false,[(.val (.int .i64 (x0 + 3 * (x1.length:Int))))]⟩),[(.row true 169 axj (upG 3 mkB x0 x1.length))],[],[EY 3 x0 x1.length&&leN x1.length 9223372036854775807]⟩
 |_,_=>none
def IJ:PF Tryz.prog:=PF.alt acD QP (by
 intro args es o h hnd;unfold QP at h;split at h
 ·rename_i x0 x1
  cases h
  have hnd:=bY hnd
  have hh:=ain x0 x1 hnd
  obtain⟨e0,e1,en⟩:=hh
  exact ek rfl (cg en) (by simp only [e0] <;> rfl) (by simp only [e1] <;> rfl) rfl
 ·cases h)
def iZ(b:Int×(Int×Int)):(Int)→Nat ⊕ (Int)
 |y1=>(bif(b.1!=y1)then(.inl 0)else(bif(b.2.1!=(IntKind.wrap .i64 (y1 + (1:Int))))then(.inl 1)else(bif(b.2.2!=(IntKind.wrap .i64 ((IntKind.wrap .i64 (y1 + (1:Int))) + (1:Int))))then(.inl 2)else(.inr (IntKind.wrap .i64 ((IntKind.wrap .i64 ((IntKind.wrap .i64 (y1 + (1:Int))) + (1:Int))) + (1:Int)))))))
def gf(y2:List (Int×(Int×Int)))(i:Nat):(Int)→dr
 |y1=>((i:Int),y1,y2)
def Ch:dr→Int
 |(_,y1,_)=>y1
theorem NK(y2:List (Int×(Int×Int)))(y1:Int)(hn:y2.length≤9223372036854775807):
  aM.fin ((0:Int),y1,y2)=true∧aM.res ((0:Int),y1,y2)=((ae (iZ) 3 y2 0 y1).1,(gf y2) (ae (iZ) 3 y2 0 y1).2.1 (ae (iZ) 3 y2 0 y1).2.2):=by
 have key:=aM.along (gf y2) Ch (iZ) 3 (fun _ _=>True) y2 y1 (by trivial) (by simp only [aM,gf];omega) (fun i b a hb hI=> ?_) (fun a hI=> ?_)
 ·exact key
 ·obtain y1:=a
  have hlt:=(List.getElem?_eq_some_iff.1 hb).1
  have hget: ∀ d,Option.getD y2[i]? d=b:=fun d=>by rw [hb];rfl
  have hw:=oW hlt hn
  have hdec:ltI (i:Int) (y2.length:Int)=true:=bZ (by omega)
  have hnn:leI (0:Int) (i:Int)=true:=bC (by omega)
  have hltd:ltN i y2.length=true:=cB hlt
  refine⟨?_,?_,?_,?_⟩
  ·simp [iv,ku,kv,gJ,i0,i4,pK,dw,pL,pM,pN,pO,oe,aM,LT.nds,allT,gf,hdec,hnn,hltd,hget]
  ·simp [iv,ku,kv,gJ,i0,i4,pK,dw,pL,pM,pN,pO,oe,aM,LT.each,gf,Ch,hw]
  ·simp only [iv,ku,kv,gJ,i0,i4,pK,dw,pL,pM,pN,pO,oe,aM,LT.fn,gf,Ch,iZ,Int.toNat_natCast,hdec,hnn,hltd,hget,cond_true,Bool.cond_self]
  ·exact fun _ _=>trivial
 ·obtain y1:=a
  simp [iv,ku,kv,gJ,i0,i4,pK,dw,pL,pM,pN,pO,oe,aM,LT.out,gf]
def jO(k:Int)(xs:List (Int×Int×Int)):Int:=An k xs
theorem ak9(k:Int)(h0:0≤k)(h1:k + (3:Nat)≤9223372036854775807):iZ (mkB k) k= .inr (k + (3:Nat)):=by
 have w1:IntKind.i64.wrap (k + 1)=k + 1:=aw (by omega) (by omega)
 have w2:IntKind.i64.wrap (k + 1 + 1)=k + 2:=by rw [aw (by omega) (by omega)];omega
 have w3:IntKind.i64.wrap (k + 2 + 1)=k + 3:=by rw [aw (by omega) (by omega)];omega
 simp [iZ,mkB,w1,w2,w3]
theorem ajW(k:Int)(n:Nat)(h:(EY 3 k n&&leN n 9223372036854775807)=true):jO k (upG 3 mkB k n)=k + 3 * (n:Int):=by
 simp only [Bool.and_eq_true,bT]at h
 obtain⟨h0,h2⟩:=rX.1 h.1
 obtain⟨w1,w2⟩:=NK (upG 3 mkB k n) k (by rw [NJ];exact h.2)
 rw [Zl (e:=3) ak9 n k 0 h0 h2]at w2
 simp only [jO,An,kk,w2,gf]
 rfl
theorem aid(k:Int)(xs:List (Int×Int×Int))(h:leN xs.length 9223372036854775807=true):An k xs=jO k xs∧IC k xs=true:=by
 obtain⟨w1,w2⟩:=NK xs k (bT.1 h)
 exact⟨rfl,by simp only [IC,kk,w1,allT,cond_true]⟩
def QO:List SV→List Entry→Option Out
 | [.one ⟨false,[.ref 0]⟩,.one ⟨false,[.val (.int .i64 x0)]⟩],[.row false 169 (.pair (.int .i64) (.pair (.int .i64) (.int .i64))) x1]=>some ⟨(.one ⟨false,[(.val (.int .i64 (jO x0 x1)))]⟩),[(.row false 169 axj x1)],[],[leN x1.length 9223372036854775807]⟩
 |_,_=>none
def II:PF Tryz.prog:=PF.alt acC QO (by
 intro args es o h hnd;unfold QO at h;split at h
 ·rename_i x0 x1
  cases h
  have hnd:=bY hnd
  have hh:=aid x0 x1 hnd
  obtain⟨e0,en⟩:=hh
  exact ek rfl (cg en) (by simp only [e0] <;> rfl) rfl rfl
 ·cases h)
def iL(b:Nat):(Int×List (Int×(Int×Int)))→Nat ⊕ (Int×List (Int×(Int×Int)))
 |(y1,y2)=>(.inr ((IntKind.wrap .i64 ((IntKind.wrap .i64 ((IntKind.wrap .i64 (y1 + (1:Int))) + (1:Int))) + (1:Int))),(List.set (List.set (List.set y2 b (y1,((Option.getD y2[b]? ((0:Int),(0:Int),(0:Int))).2).1,(Option.getD y2[b]? ((0:Int),(0:Int),(0:Int))).2.2)) b ((Option.getD (List.set y2 b (y1,((Option.getD y2[b]? ((0:Int),(0:Int),(0:Int))).2).1,(Option.getD y2[b]? ((0:Int),(0:Int),(0:Int))).2.2))[b]? ((0:Int),(0:Int),(0:Int))).1,(IntKind.wrap .i64 (y1 + (1:Int))),(Option.getD (List.set y2 b (y1,((Option.getD y2[b]? ((0:Int),(0:Int),(0:Int))).2).1,(Option.getD y2[b]? ((0:Int),(0:Int),(0:Int))).2.2))[b]? ((0:Int),(0:Int),(0:Int))).2.2)) b ((Option.getD (List.set (List.set y2 b (y1,((Option.getD y2[b]? ((0:Int),(0:Int),(0:Int))).2).1,(Option.getD y2[b]? ((0:Int),(0:Int),(0:Int))).2.2)) b ((Option.getD (List.set y2 b (y1,((Option.getD y2[b]? ((0:Int),(0:Int),(0:Int))).2).1,(Option.getD y2[b]? ((0:Int),(0:Int),(0:Int))).2.2))[b]? ((0:Int),(0:Int),(0:Int))).1,(IntKind.wrap .i64 (y1 + (1:Int))),(Option.getD (List.set y2 b (y1,((Option.getD y2[b]? ((0:Int),(0:Int),(0:Int))).2).1,(Option.getD y2[b]? ((0:Int),(0:Int),(0:Int))).2.2))[b]? ((0:Int),(0:Int),(0:Int))).2.2))[b]? ((0:Int),(0:Int),(0:Int))).1,((Option.getD (List.set (List.set y2 b (y1,((Option.getD y2[b]? ((0:Int),(0:Int),(0:Int))).2).1,(Option.getD y2[b]? ((0:Int),(0:Int),(0:Int))).2.2)) b ((Option.getD (List.set y2 b (y1,((Option.getD y2[b]? ((0:Int),(0:Int),(0:Int))).2).1,(Option.getD y2[b]? ((0:Int),(0:Int),(0:Int))).2.2))[b]? ((0:Int),(0:Int),(0:Int))).1,(IntKind.wrap .i64 (y1 + (1:Int))),(Option.getD (List.set y2 b (y1,((Option.getD y2[b]? ((0:Int),(0:Int),(0:Int))).2).1,(Option.getD y2[b]? ((0:Int),(0:Int),(0:Int))).2.2))[b]? ((0:Int),(0:Int),(0:Int))).2.2))[b]? ((0:Int),(0:Int),(0:Int))).2).1,(IntKind.wrap .i64 ((IntKind.wrap .i64 (y1 + (1:Int))) + (1:Int)))))))
def fC(i:Nat):(Int×List (Int×(Int×Int)))→ez
 |(y1,y2)=>((i:Int),y1,y2)
def Fe:ez→Int×List (Int×(Int×Int))
 |(_,y1,y2)=>(y1,y2)
theorem abi(y1:Int)(y2:List (Int×(Int×Int)))(n:Nat)(hl:y2.length=n)(hn:n≤9223372036854775807):
  bH.fin ((0:Int),y1,y2)=true∧bH.res ((0:Int),y1,y2)=((ae (iL) 0 (List.range n) 0 (y1,y2)).1,(fC) (ae (iL) 0 (List.range n) 0 (y1,y2)).2.1 (ae (iL) 0 (List.range n) 0 (y1,y2)).2.2):=by
 have key:=bH.along (fC) Fe (iL) 0 (fun _ a=>a.2.length=n) (List.range n) (y1,y2) hl (by simp only [bH,fC,List.length_range];omega) (fun i b a hb hI=> ?_) (fun a hI=> ?_)
 ·exact key
 ·obtain⟨y1,y2⟩:=a
  obtain⟨rfl,hlt⟩:=eu hb
  have hI0:y2.length=n:=hI
  have hw:IntKind.i64.wrap ((b:Int) + 1)=((b + 1:Nat):Int):=by rw [aw (by omega) (by omega)];omega
  have hdec:ltI (b:Int) (y2.length:Int)=true:=bZ (by omega)
  have hnn:leI (0:Int) (b:Int)=true:=bC (by omega)
  have hltd:ltN b y2.length=true:=cB (by omega)
  refine⟨?_,?_,?_,?_⟩
  ·simp [mf,ia,mg,mh,ib,mi,mj,na,km,sv,sw,sx,sy,sz,sA,sB,sC,q9,bH,LT.nds,allT,fC,hdec,hnn,hltd]
  ·simp [mf,ia,mg,mh,ib,mi,mj,na,km,sv,sw,sx,sy,sz,sA,sB,sC,q9,bH,LT.each,fC,Fe,hw]
  ·simp only [mf,ia,mg,mh,ib,mi,mj,na,km,sv,sw,sx,sy,sz,sA,sB,sC,q9,bH,LT.fn,fC,Fe,iL,Int.toNat_natCast,hdec,hnn,hltd,cond_true,Bool.cond_self]
  ·intro a' hf;simp only [iL,Sum.inr.injEq]at hf;subst hf;simp [hI0]
 ·obtain⟨y1,y2⟩:=a
  have hI0:y2.length=n:=hI
  simp [mf,ia,mg,mh,ib,mi,mj,na,km,sv,sw,sx,sy,sz,sA,sB,sC,q9,bH,LT.out,fC,hI0,List.length_range]
theorem anM(b:Nat)(k:Int)(xs:List (Int×Int×Int))(hb:b < xs.length)(h0:0≤k)(h1:k + (3:Nat)≤9223372036854775807):iL b (k,xs)= .inr (k + (3:Nat),xs.set b (mkB k)):=by
 have w1:IntKind.i64.wrap (k + 1)=k + 1:=aw (by omega) (by omega)
 have w2:IntKind.i64.wrap (k + 1 + 1)=k + 2:=by rw [aw (by omega) (by omega)];omega
 have w3:IntKind.i64.wrap (k + 2 + 1)=k + 3:=by rw [aw (by omega) (by omega)];omega
 simp [iL,mkB,w1,w2,w3,List.set_set,List.getElem?_set,hb]
theorem aln(k:Int)(xs:List (Int×Int×Int))(h:(EY 3 k xs.length&&leN xs.length 9223372036854775807)=true):Ly k xs=k + 3 * (xs.length:Int)∧Lz k xs=upG 3 mkB k xs.length∧LA k xs=true:=by
 simp only [Bool.and_eq_true,bT]at h
 obtain⟨h0,h2⟩:=rX.1 h.1
 obtain⟨w1,w2⟩:=abi k xs xs.length rfl h.2
 have hw:=UP (e:=0) anM xs [] k h0 h2
 rw [List.length_nil,List.nil_append,← List.range_eq_range']at hw
 rw [hw]at w2
 refine⟨?_,?_,?_⟩
 ·simp only [Ly,uI,Ce,w2,fC];rfl
 ·simp only [Lz,uI,Ce,w2,fC];rfl
 ·simp only [LA,uI,w1,allT,cond_true]
def TB:List SV→List Entry→Option Out
 | [.one ⟨false,[.ref 0]⟩,.one ⟨false,[.val (.int .i64 x0)]⟩],[.row true 100 (.pair (.int .i64) (.pair (.int .i64) (.int .i64))) x1]=>some ⟨(.one ⟨false,[(.val (.int .i64 (x0 + 3 * (x1.length:Int))))]⟩),[(.row true 100 axj (upG 3 mkB x0 x1.length))],[],[EY 3 x0 x1.length&&leN x1.length 9223372036854775807]⟩
 |_,_=>none
def LG:PF Tryz.prog:=PF.alt ae5 TB (by
 intro args es o h hnd;unfold TB at h;split at h
 ·rename_i x0 x1
  cases h
  have hnd:=bY hnd
  have hh:=aln x0 x1 hnd
  obtain⟨e0,e1,en⟩:=hh
  exact ek rfl (cg en) (by simp only [e0] <;> rfl) (by simp only [e1] <;> rfl) rfl
 ·cases h)
def kg(b:Int×(Int×Int)):(Int)→Nat ⊕ (Int)
 |y1=>(bif(b.1!=y1)then(.inl 0)else(bif(b.2.1!=(IntKind.wrap .i64 (y1 + (1:Int))))then(.inl 1)else(bif(b.2.2!=(IntKind.wrap .i64 ((IntKind.wrap .i64 (y1 + (1:Int))) + (1:Int))))then(.inl 2)else(.inr (IntKind.wrap .i64 ((IntKind.wrap .i64 ((IntKind.wrap .i64 (y1 + (1:Int))) + (1:Int))) + (1:Int)))))))
def ie(y2:List (Int×(Int×Int)))(i:Nat):(Int)→ey
 |y1=>((i:Int),y1,y2)
def Fd:ey→Int
 |(_,y1,_)=>y1
theorem Pt(y2:List (Int×(Int×Int)))(y1:Int)(hn:y2.length≤9223372036854775807):
  aY.fin ((0:Int),y1,y2)=true∧aY.res ((0:Int),y1,y2)=((ae (kg) 3 y2 0 y1).1,(ie y2) (ae (kg) 3 y2 0 y1).2.1 (ae (kg) 3 y2 0 y1).2.2):=by
 have key:=aY.along (ie y2) Fd (kg) 3 (fun _ _=>True) y2 y1 (by trivial) (by simp only [aY,ie];omega) (fun i b a hb hI=> ?_) (fun a hI=> ?_)
 ·exact key
 ·obtain y1:=a
  have hlt:=(List.getElem?_eq_some_iff.1 hb).1
  have hget: ∀ d,Option.getD y2[i]? d=b:=fun d=>by rw [hb];rfl
  have hw:=oW hlt hn
  have hdec:ltI (i:Int) (y2.length:Int)=true:=bZ (by omega)
  have hnn:leI (0:Int) (i:Int)=true:=bC (by omega)
  have hltd:ltN i y2.length=true:=cB hlt
  refine⟨?_,?_,?_,?_⟩
  ·simp [jL,md,me,iM,ki,kj,sm,eC,sn,sq,sr,su,q8,aY,LT.nds,allT,ie,hdec,hnn,hltd,hget]
  ·simp [jL,md,me,iM,ki,kj,sm,eC,sn,sq,sr,su,q8,aY,LT.each,ie,Fd,hw]
  ·simp only [jL,md,me,iM,ki,kj,sm,eC,sn,sq,sr,su,q8,aY,LT.fn,ie,Fd,kg,Int.toNat_natCast,hdec,hnn,hltd,hget,cond_true,Bool.cond_self]
  ·exact fun _ _=>trivial
 ·obtain y1:=a
  simp [jL,md,me,iM,ki,kj,sm,eC,sn,sq,sr,su,q8,aY,LT.out,ie]
def Hm(k:Int)(xs:List (Int×Int×Int)):Int:=ER k xs
theorem anL(k:Int)(h0:0≤k)(h1:k + (3:Nat)≤9223372036854775807):kg (mkB k) k= .inr (k + (3:Nat)):=by
 have w1:IntKind.i64.wrap (k + 1)=k + 1:=aw (by omega) (by omega)
 have w2:IntKind.i64.wrap (k + 1 + 1)=k + 2:=by rw [aw (by omega) (by omega)];omega
 have w3:IntKind.i64.wrap (k + 2 + 1)=k + 3:=by rw [aw (by omega) (by omega)];omega
 simp [kg,mkB,w1,w2,w3]
theorem amj(k:Int)(n:Nat)(h:(EY 3 k n&&leN n 9223372036854775807)=true):Hm k (upG 3 mkB k n)=k + 3 * (n:Int):=by
 simp only [Bool.and_eq_true,bT]at h
 obtain⟨h0,h2⟩:=rX.1 h.1
 obtain⟨w1,w2⟩:=Pt (upG 3 mkB k n) k (by rw [NJ];exact h.2)
 rw [Zl (e:=3) anL n k 0 h0 h2]at w2
 simp only [Hm,ER,mv,w2,ie]
 rfl
theorem alf(k:Int)(xs:List (Int×Int×Int))(h:leN xs.length 9223372036854775807=true):ER k xs=Hm k xs∧Lx k xs=true:=by
 obtain⟨w1,w2⟩:=Pt xs k (bT.1 h)
 exact⟨rfl,by simp only [Lx,mv,w1,allT,cond_true]⟩
def TA:List SV→List Entry→Option Out
 | [.one ⟨false,[.ref 0]⟩,.one ⟨false,[.val (.int .i64 x0)]⟩],[.row false 100 (.pair (.int .i64) (.pair (.int .i64) (.int .i64))) x1]=>some ⟨(.one ⟨false,[(.val (.int .i64 (Hm x0 x1)))]⟩),[(.row false 100 axj x1)],[],[leN x1.length 9223372036854775807]⟩
 |_,_=>none
def LF:PF Tryz.prog:=PF.alt ae4 TA (by
 intro args es o h hnd;unfold TA at h;split at h
 ·rename_i x0 x1
  cases h
  have hnd:=bY hnd
  have hh:=alf x0 x1 hnd
  obtain⟨e0,en⟩:=hh
  exact ek rfl (cg en) (by simp only [e0] <;> rfl) rfl rfl
 ·cases h)
def nr(b:Nat):(Int×List (Int×Int))→Nat ⊕ (Int×List (Int×Int))
 |(y1,y2)=>(.inr ((IntKind.wrap .i64 ((IntKind.wrap .i64 (y1 + (1:Int))) + (1:Int))),(List.set (List.set y2 b (y1,(Option.getD y2[b]? ((0:Int),(0:Int))).2)) b ((Option.getD (List.set y2 b (y1,(Option.getD y2[b]? ((0:Int),(0:Int))).2))[b]? ((0:Int),(0:Int))).1,(IntKind.wrap .i64 (y1 + (1:Int)))))))
def j0(i:Nat):(Int×List (Int×Int))→jw
 |(y1,y2)=>((i:Int),y1,y2)
def Nb:jw→Int×List (Int×Int)
 |(_,y1,y2)=>(y1,y2)
theorem aiu(y1:Int)(y2:List (Int×Int))(n:Nat)(hl:y2.length=n)(hn:n≤9223372036854775807):
  dY.fin ((0:Int),y1,y2)=true∧dY.res ((0:Int),y1,y2)=((ae (nr) 0 (List.range n) 0 (y1,y2)).1,(j0) (ae (nr) 0 (List.range n) 0 (y1,y2)).2.1 (ae (nr) 0 (List.range n) 0 (y1,y2)).2.2):=by
 have key:=dY.along (j0) Nb (nr) 0 (fun _ a=>a.2.length=n) (List.range n) (y1,y2) hl (by simp only [dY,j0,List.length_range];omega) (fun i b a hb hI=> ?_) (fun a hI=> ?_)
 ·exact key
 ·obtain⟨y1,y2⟩:=a
  obtain⟨rfl,hlt⟩:=eu hb
  have hI0:y2.length=n:=hI
  have hw:IntKind.i64.wrap ((b:Int) + 1)=((b + 1:Nat):Int):=by rw [aw (by omega) (by omega)];omega
  have hdec:ltI (b:Int) (y2.length:Int)=true:=bZ (by omega)
  have hnn:leI (0:Int) (b:Int)=true:=bC (by omega)
  have hltd:ltN b y2.length=true:=cB (by omega)
  refine⟨?_,?_,?_,?_⟩
  ·simp [lY,tG,vt,vu,Bz,BA,BB,BC,BD,BE,zp,dY,LT.nds,allT,j0,hdec,hnn,hltd]
  ·simp [lY,tG,vt,vu,Bz,BA,BB,BC,BD,BE,zp,dY,LT.each,j0,Nb,hw]
  ·simp only [lY,tG,vt,vu,Bz,BA,BB,BC,BD,BE,zp,dY,LT.fn,j0,Nb,nr,Int.toNat_natCast,hdec,hnn,hltd,cond_true,Bool.cond_self]
  ·intro a' hf;simp only [nr,Sum.inr.injEq]at hf;subst hf;simp [hI0]
 ·obtain⟨y1,y2⟩:=a
  have hI0:y2.length=n:=hI
  simp [lY,tG,vt,vu,Bz,BA,BB,BC,BD,BE,zp,dY,LT.out,j0,hI0,List.length_range]
theorem asZ(b:Nat)(k:Int)(xs:List (Int×Int))(hb:b < xs.length)(h0:0≤k)(h1:k + (2:Nat)≤9223372036854775807):nr b (k,xs)= .inr (k + (2:Nat),xs.set b (mkI k)):=by
 have w1:IntKind.i64.wrap (k + 1)=k + 1:=aw (by omega) (by omega)
 have w2:IntKind.i64.wrap (k + 1 + 1)=k + 2:=by rw [aw (by omega) (by omega)];omega
 simp [nr,mkI,w1,w2,List.set_set,List.getElem?_set,hb]
theorem aq2(k:Int)(xs:List (Int×Int))(h:(EY 2 k xs.length&&leN xs.length 9223372036854775807)=true):Uf k xs=k + 2 * (xs.length:Int)∧Ug k xs=upG 2 mkI k xs.length∧Uh k xs=true:=by
 simp only [Bool.and_eq_true,bT]at h
 obtain⟨h0,h2⟩:=rX.1 h.1
 obtain⟨w1,w2⟩:=aiu k xs xs.length rfl h.2
 have hw:=UP (e:=0) asZ xs [] k h0 h2
 rw [List.length_nil,List.nil_append,← List.range_eq_range']at hw
 rw [hw]at w2
 refine⟨?_,?_,?_⟩
 ·simp only [Uf,FY,Mi,w2,j0];rfl
 ·simp only [Ug,FY,Mi,w2,j0];rfl
 ·simp only [Uh,FY,w1,allT,cond_true]
def abW:List SV→List Entry→Option Out
 | [.one ⟨false,[.ref 0]⟩,.one ⟨false,[.val (.int .i64 x0)]⟩],[.row true 173 (.pair (.int .i64) (.int .i64)) x1]=>some ⟨(.one ⟨false,[(.val (.int .i64 (x0 + 2 * (x1.length:Int))))]⟩),[(.row true 173 axk (upG 2 mkI x0 x1.length))],[],[EY 2 x0 x1.length&&leN x1.length 9223372036854775807]⟩
 |_,_=>none
def Uz:PF Tryz.prog:=PF.alt amN abW (by
 intro args es o h hnd;unfold abW at h;split at h
 ·rename_i x0 x1
  cases h
  have hnd:=bY hnd
  have hh:=aq2 x0 x1 hnd
  obtain⟨e0,e1,en⟩:=hh
  exact ek rfl (cg en) (by simp only [e0] <;> rfl) (by simp only [e1] <;> rfl) rfl
 ·cases h)
def re(b:Int×Int):(Int)→Nat ⊕ (Int)
 |y1=>(bif(b.1!=y1)then(.inl 0)else(bif(b.2!=(IntKind.wrap .i64 (y1 + (1:Int))))then(.inl 1)else(.inr (IntKind.wrap .i64 ((IntKind.wrap .i64 (y1 + (1:Int))) + (1:Int))))))
def ma(y2:List (Int×Int))(i:Nat):(Int)→ju
 |y1=>((i:Int),y1,y2)
def MZ:ju→Int
 |(_,y1,_)=>y1
theorem WO(y2:List (Int×Int))(y1:Int)(hn:y2.length≤9223372036854775807):
  bS.fin ((0:Int),y1,y2)=true∧bS.res ((0:Int),y1,y2)=((ae (re) 2 y2 0 y1).1,(ma y2) (ae (re) 2 y2 0 y1).2.1 (ae (re) 2 y2 0 y1).2.2):=by
 have key:=bS.along (ma y2) MZ (re) 2 (fun _ _=>True) y2 y1 (by trivial) (by simp only [bS,ma];omega) (fun i b a hb hI=> ?_) (fun a hI=> ?_)
 ·exact key
 ·obtain y1:=a
  have hlt:=(List.getElem?_eq_some_iff.1 hb).1
  have hget: ∀ d,Option.getD y2[i]? d=b:=fun d=>by rw [hb];rfl
  have hw:=oW hlt hn
  have hdec:ltI (i:Int) (y2.length:Int)=true:=bZ (by omega)
  have hnn:leI (0:Int) (i:Int)=true:=bC (by omega)
  have hltd:ltN i y2.length=true:=cB hlt
  refine⟨?_,?_,?_,?_⟩
  ·simp [tC,tD,ri,vo,vp,Bm,nx,Bn,Bo,Bp,zn,bS,LT.nds,allT,ma,hdec,hnn,hltd,hget]
  ·simp [tC,tD,ri,vo,vp,Bm,nx,Bn,Bo,Bp,zn,bS,LT.each,ma,MZ,hw]
  ·simp only [tC,tD,ri,vo,vp,Bm,nx,Bn,Bo,Bp,zn,bS,LT.fn,ma,MZ,re,Int.toNat_natCast,hdec,hnn,hltd,hget,cond_true,Bool.cond_self]
  ·exact fun _ _=>trivial
 ·obtain y1:=a
  simp [tC,tD,ri,vo,vp,Bm,nx,Bn,Bo,Bp,zn,bS,LT.out,ma]
def acd(k:Int)(xs:List (Int×Int)):Int:=Oa k xs
theorem asX(k:Int)(h0:0≤k)(h1:k + (2:Nat)≤9223372036854775807):re (mkI k) k= .inr (k + (2:Nat)):=by
 have w1:IntKind.i64.wrap (k + 1)=k + 1:=aw (by omega) (by omega)
 have w2:IntKind.i64.wrap (k + 1 + 1)=k + 2:=by rw [aw (by omega) (by omega)];omega
 simp [re,mkI,w1,w2]
theorem arM(k:Int)(n:Nat)(h:(EY 2 k n&&leN n 9223372036854775807)=true):acd k (upG 2 mkI k n)=k + 2 * (n:Int):=by
 simp only [Bool.and_eq_true,bT]at h
 obtain⟨h0,h2⟩:=rX.1 h.1
 obtain⟨w1,w2⟩:=WO (upG 2 mkI k n) k (by rw [NJ];exact h.2)
 rw [Zl (e:=2) asX n k 0 h0 h2]at w2
 simp only [acd,Oa,Ao,w2,ma]
 rfl
theorem aqQ(k:Int)(xs:List (Int×Int))(h:leN xs.length 9223372036854775807=true):Oa k xs=acd k xs∧Ub k xs=true:=by
 obtain⟨w1,w2⟩:=WO xs k (bT.1 h)
 exact⟨rfl,by simp only [Ub,Ao,w1,allT,cond_true]⟩
def abU:List SV→List Entry→Option Out
 | [.one ⟨false,[.ref 0]⟩,.one ⟨false,[.val (.int .i64 x0)]⟩],[.row false 173 (.pair (.int .i64) (.int .i64)) x1]=>some ⟨(.one ⟨false,[(.val (.int .i64 (acd x0 x1)))]⟩),[(.row false 173 axk x1)],[],[leN x1.length 9223372036854775807]⟩
 |_,_=>none
def Ux:PF Tryz.prog:=PF.alt amL abU (by
 intro args es o h hnd;unfold abU at h;split at h
 ·rename_i x0 x1
  cases h
  have hnd:=bY hnd
  have hh:=aqQ x0 x1 hnd
  obtain⟨e0,en⟩:=hh
  exact ek rfl (cg en) (by simp only [e0] <;> rfl) rfl rfl
 ·cases h)
def nq(b:Nat):(Int×List (Int×Int))→Nat ⊕ (Int×List (Int×Int))
 |(y1,y2)=>(.inr ((IntKind.wrap .i64 ((IntKind.wrap .i64 (y1 + (1:Int))) + (1:Int))),(List.set (List.set y2 b (y1,(Option.getD y2[b]? ((0:Int),(0:Int))).2)) b ((Option.getD (List.set y2 b (y1,(Option.getD y2[b]? ((0:Int),(0:Int))).2))[b]? ((0:Int),(0:Int))).1,(IntKind.wrap .i64 (y1 + (1:Int)))))))
def jZ(i:Nat):(Int×List (Int×Int))→jv
 |(y1,y2)=>((i:Int),y1,y2)
def Na:jv→Int×List (Int×Int)
 |(_,y1,y2)=>(y1,y2)
theorem ait(y1:Int)(y2:List (Int×Int))(n:Nat)(hl:y2.length=n)(hn:n≤9223372036854775807):
  dX.fin ((0:Int),y1,y2)=true∧dX.res ((0:Int),y1,y2)=((ae (nq) 0 (List.range n) 0 (y1,y2)).1,(jZ) (ae (nq) 0 (List.range n) 0 (y1,y2)).2.1 (ae (nq) 0 (List.range n) 0 (y1,y2)).2.2):=by
 have key:=dX.along (jZ) Na (nq) 0 (fun _ a=>a.2.length=n) (List.range n) (y1,y2) hl (by simp only [dX,jZ,List.length_range];omega) (fun i b a hb hI=> ?_) (fun a hI=> ?_)
 ·exact key
 ·obtain⟨y1,y2⟩:=a
  obtain⟨rfl,hlt⟩:=eu hb
  have hI0:y2.length=n:=hI
  have hw:IntKind.i64.wrap ((b:Int) + 1)=((b + 1:Nat):Int):=by rw [aw (by omega) (by omega)];omega
  have hdec:ltI (b:Int) (y2.length:Int)=true:=bZ (by omega)
  have hnn:leI (0:Int) (b:Int)=true:=bC (by omega)
  have hltd:ltN b y2.length=true:=cB (by omega)
  refine⟨?_,?_,?_,?_⟩
  ·simp [lX,tF,vq,vr,Bs,Bt,Bu,Bv,Bw,Bx,zo,dX,LT.nds,allT,jZ,hdec,hnn,hltd]
  ·simp [lX,tF,vq,vr,Bs,Bt,Bu,Bv,Bw,Bx,zo,dX,LT.each,jZ,Na,hw]
  ·simp only [lX,tF,vq,vr,Bs,Bt,Bu,Bv,Bw,Bx,zo,dX,LT.fn,jZ,Na,nq,Int.toNat_natCast,hdec,hnn,hltd,cond_true,Bool.cond_self]
  ·intro a' hf;simp only [nq,Sum.inr.injEq]at hf;subst hf;simp [hI0]
 ·obtain⟨y1,y2⟩:=a
  have hI0:y2.length=n:=hI
  simp [lX,tF,vq,vr,Bs,Bt,Bu,Bv,Bw,Bx,zo,dX,LT.out,jZ,hI0,List.length_range]
theorem asY(b:Nat)(k:Int)(xs:List (Int×Int))(hb:b < xs.length)(h0:0≤k)(h1:k + (2:Nat)≤9223372036854775807):nq b (k,xs)= .inr (k + (2:Nat),xs.set b (mkI k)):=by
 have w1:IntKind.i64.wrap (k + 1)=k + 1:=aw (by omega) (by omega)
 have w2:IntKind.i64.wrap (k + 1 + 1)=k + 2:=by rw [aw (by omega) (by omega)];omega
 simp [nq,mkI,w1,w2,List.set_set,List.getElem?_set,hb]
theorem aq1(k:Int)(xs:List (Int×Int))(h:(EY 2 k xs.length&&leN xs.length 9223372036854775807)=true):Uc k xs=k + 2 * (xs.length:Int)∧Ud k xs=upG 2 mkI k xs.length∧Ue k xs=true:=by
 simp only [Bool.and_eq_true,bT]at h
 obtain⟨h0,h2⟩:=rX.1 h.1
 obtain⟨w1,w2⟩:=ait k xs xs.length rfl h.2
 have hw:=UP (e:=0) asY xs [] k h0 h2
 rw [List.length_nil,List.nil_append,← List.range_eq_range']at hw
 rw [hw]at w2
 refine⟨?_,?_,?_⟩
 ·simp only [Uc,FX,Mh,w2,jZ];rfl
 ·simp only [Ud,FX,Mh,w2,jZ];rfl
 ·simp only [Ue,FX,w1,allT,cond_true]
def abV:List SV→List Entry→Option Out
 | [.one ⟨false,[.ref 0]⟩,.one ⟨false,[.val (.int .i64 x0)]⟩],[.row true 176 (.pair (.int .i64) (.int .i64)) x1]=>some ⟨(.one ⟨false,[(.val (.int .i64 (x0 + 2 * (x1.length:Int))))]⟩),[(.row true 176 axk (upG 2 mkI x0 x1.length))],[],[EY 2 x0 x1.length&&leN x1.length 9223372036854775807]⟩
 |_,_=>none
def Uy:PF Tryz.prog:=PF.alt amM abV (by
 intro args es o h hnd;unfold abV at h;split at h
 ·rename_i x0 x1
  cases h
  have hnd:=bY hnd
  have hh:=aq1 x0 x1 hnd
  obtain⟨e0,e1,en⟩:=hh
  exact ek rfl (cg en) (by simp only [e0] <;> rfl) (by simp only [e1] <;> rfl) rfl
 ·cases h)
def rc(b:Int×Int):(Int)→Nat ⊕ (Int)
 |y1=>(bif(b.1!=y1)then(.inl 0)else(bif(b.2!=(IntKind.wrap .i64 (y1 + (1:Int))))then(.inl 1)else(.inr (IntKind.wrap .i64 ((IntKind.wrap .i64 (y1 + (1:Int))) + (1:Int))))))
def l9(y2:List (Int×Int))(i:Nat):(Int)→jt
 |y1=>((i:Int),y1,y2)
def MY:jt→Int
 |(_,y1,_)=>y1
theorem WN(y2:List (Int×Int))(y1:Int)(hn:y2.length≤9223372036854775807):
  bR.fin ((0:Int),y1,y2)=true∧bR.res ((0:Int),y1,y2)=((ae (rc) 2 y2 0 y1).1,(l9 y2) (ae (rc) 2 y2 0 y1).2.1 (ae (rc) 2 y2 0 y1).2.2):=by
 have key:=bR.along (l9 y2) MY (rc) 2 (fun _ _=>True) y2 y1 (by trivial) (by simp only [bR,l9];omega) (fun i b a hb hI=> ?_) (fun a hI=> ?_)
 ·exact key
 ·obtain y1:=a
  have hlt:=(List.getElem?_eq_some_iff.1 hb).1
  have hget: ∀ d,Option.getD y2[i]? d=b:=fun d=>by rw [hb];rfl
  have hw:=oW hlt hn
  have hdec:ltI (i:Int) (y2.length:Int)=true:=bZ (by omega)
  have hnn:leI (0:Int) (i:Int)=true:=bC (by omega)
  have hltd:ltN i y2.length=true:=cB hlt
  refine⟨?_,?_,?_,?_⟩
  ·simp [tA,tB,rh,vm,vn,Bi,nv,Bj,Bk,Bl,zm,bR,LT.nds,allT,l9,hdec,hnn,hltd,hget]
  ·simp [tA,tB,rh,vm,vn,Bi,nv,Bj,Bk,Bl,zm,bR,LT.each,l9,MY,hw]
  ·simp only [tA,tB,rh,vm,vn,Bi,nv,Bj,Bk,Bl,zm,bR,LT.fn,l9,MY,rc,Int.toNat_natCast,hdec,hnn,hltd,hget,cond_true,Bool.cond_self]
  ·exact fun _ _=>trivial
 ·obtain y1:=a
  simp [tA,tB,rh,vm,vn,Bi,nv,Bj,Bk,Bl,zm,bR,LT.out,l9]
def agD(k:Int)(xs:List (Int×Int)):Int:=NY k xs
theorem asW(k:Int)(h0:0≤k)(h1:k + (2:Nat)≤9223372036854775807):rc (mkI k) k= .inr (k + (2:Nat)):=by
 have w1:IntKind.i64.wrap (k + 1)=k + 1:=aw (by omega) (by omega)
 have w2:IntKind.i64.wrap (k + 1 + 1)=k + 2:=by rw [aw (by omega) (by omega)];omega
 simp [rc,mkI,w1,w2]
theorem arJ(k:Int)(n:Nat)(h:(EY 2 k n&&leN n 9223372036854775807)=true):agD k (upG 2 mkI k n)=k + 2 * (n:Int):=by
 simp only [Bool.and_eq_true,bT]at h
 obtain⟨h0,h2⟩:=rX.1 h.1
 obtain⟨w1,w2⟩:=WN (upG 2 mkI k n) k (by rw [NJ];exact h.2)
 rw [Zl (e:=2) asW n k 0 h0 h2]at w2
 simp only [agD,NY,Am,w2,l9]
 rfl
theorem aqP(k:Int)(xs:List (Int×Int))(h:leN xs.length 9223372036854775807=true):NY k xs=agD k xs∧TY k xs=true:=by
 obtain⟨w1,w2⟩:=WN xs k (bT.1 h)
 exact⟨rfl,by simp only [TY,Am,w1,allT,cond_true]⟩
def abT:List SV→List Entry→Option Out
 | [.one ⟨false,[.ref 0]⟩,.one ⟨false,[.val (.int .i64 x0)]⟩],[.row false 176 (.pair (.int .i64) (.int .i64)) x1]=>some ⟨(.one ⟨false,[(.val (.int .i64 (agD x0 x1)))]⟩),[(.row false 176 axk x1)],[],[leN x1.length 9223372036854775807]⟩
 |_,_=>none
def Uw:PF Tryz.prog:=PF.alt amK abT (by
 intro args es o h hnd;unfold abT at h;split at h
 ·rename_i x0 x1
  cases h
  have hnd:=bY hnd
  have hh:=aqP x0 x1 hnd
  obtain⟨e0,en⟩:=hh
  exact ek rfl (cg en) (by simp only [e0] <;> rfl) rfl rfl
 ·cases h)
theorem awP(b:Nat)(y1:Int)(y2:List (Int×Int×(Int×Int)×Int×Int×Bool))(hb:b < y2.length)(h0:0≤y1)(h1:y1 + 7≤9223372036854775807):
  (cF.lt ((b:Int),y1,y2)).out=some (.inr (((b + 1:Nat):Int),y1 + 7,y2.set b (mkS y1)))∨ ¬ b < 9223372036854775807:=by
 by_cases hbm:b < 9223372036854775807
 case neg=>exact .inr hbm
 refine .inl ?_
 have gs: ∀ v:Int×Int×(Int×Int)×Int×Int×Bool,(y2.set b v)[b]? =some v:=fun v=>by rw [List.getElem?_set];simp [hb]
 have hd0:ltI (b:Int) (y2.length:Int)=true:=bZ (by omega)
 have hd1:leI (0:Int) (b:Int)=true:=bC (by omega)
 have hd2:ltN b y2.length=true:=cB hb
 have hd3:neI (3:Int) 0=true:=rfl
 have w0:IntKind.i64.wrap ((b:Int) + 1)=((b + 1:Nat):Int):=by rw [aw (by omega) (by omega)];omega
 have w1:IntKind.i64.wrap (y1 + 1)=y1 + 1:=aw (by omega) (by omega)
 have w2:IntKind.i64.wrap (y1 + 1 + 1)=y1 + 2:=by rw [aw (by omega) (by omega)];omega
 have w3:IntKind.i64.wrap (y1 + 2 + 1)=y1 + 3:=by rw [aw (by omega) (by omega)];omega
 have w4:IntKind.i64.wrap (y1 + 3 + 1)=y1 + 4:=by rw [aw (by omega) (by omega)];omega
 have w5:IntKind.i64.wrap (y1 + 4 + 1)=y1 + 5:=by rw [aw (by omega) (by omega)];omega
 have w6:IntKind.i64.wrap (y1 + 5 + 1)=y1 + 6:=by rw [aw (by omega) (by omega)];omega
 have w7:IntKind.i64.wrap (y1 + 6 + 1)=y1 + 7:=by rw [aw (by omega) (by omega)];omega
 have r_a0:=Eq.refl (yt (b:Int) y2)
 conv at r_a0=>rhs;simp only [yt,Int.toNat_natCast,gs,Option.getD_some,List.set_set,List.length_set,w0,w1,w2,w3,w4,w5,w6,w7,hd0,hd1,hd2,hd3]
 have r_a1:=Eq.refl (nb (b:Int) y2)
 conv at r_a1=>rhs;simp only [nb,Int.toNat_natCast,gs,Option.getD_some,List.set_set,List.length_set,w0,w1,w2,w3,w4,w5,w6,w7,hd0,hd1,hd2,hd3,r_a0]
 have r_a2:=Eq.refl (yu (b:Int) y2)
 conv at r_a2=>rhs;simp only [yu,Int.toNat_natCast,gs,Option.getD_some,List.set_set,List.length_set,w0,w1,w2,w3,w4,w5,w6,w7,hd0,hd1,hd2,hd3,r_a0,r_a1]
 have r_a3:=Eq.refl (nc (b:Int) y1 y2)
 conv at r_a3=>rhs;simp only [nc,Int.toNat_natCast,gs,Option.getD_some,List.set_set,List.length_set,w0,w1,w2,w3,w4,w5,w6,w7,hd0,hd1,hd2,hd3,r_a0,r_a1,r_a2]
 have r_a4:=Eq.refl (yw (b:Int) y1 y2)
 conv at r_a4=>rhs;simp only [yw,Int.toNat_natCast,gs,Option.getD_some,List.set_set,List.length_set,w0,w1,w2,w3,w4,w5,w6,w7,hd0,hd1,hd2,hd3,r_a0,r_a1,r_a2,r_a3]
 have r_a5:=Eq.refl (yx y1)
 conv at r_a5=>rhs;simp only [yx,Int.toNat_natCast,gs,Option.getD_some,List.set_set,List.length_set,w0,w1,w2,w3,w4,w5,w6,w7,hd0,hd1,hd2,hd3,r_a0,r_a1,r_a2,r_a3,r_a4]
 have r_a6:=Eq.refl (yy (b:Int) y1 y2)
 conv at r_a6=>rhs;simp only [yy,Int.toNat_natCast,gs,Option.getD_some,List.set_set,List.length_set,w0,w1,w2,w3,w4,w5,w6,w7,hd0,hd1,hd2,hd3,r_a0,r_a1,r_a2,r_a3,r_a4,r_a5]
 have r_a7:=Eq.refl (yz (b:Int) y1 y2)
 conv at r_a7=>rhs;simp only [yz,Int.toNat_natCast,gs,Option.getD_some,List.set_set,List.length_set,w0,w1,w2,w3,w4,w5,w6,w7,hd0,hd1,hd2,hd3,r_a0,r_a1,r_a2,r_a3,r_a4,r_a5,r_a6]
 have r_a8:=Eq.refl (sD (b:Int) y1 y2)
 conv at r_a8=>rhs;simp only [sD,Int.toNat_natCast,gs,Option.getD_some,List.set_set,List.length_set,w0,w1,w2,w3,w4,w5,w6,w7,hd0,hd1,hd2,hd3,r_a0,r_a1,r_a2,r_a3,r_a4,r_a5,r_a6,r_a7]
 have r_a9:=Eq.refl (ne (b:Int) y1 y2)
 conv at r_a9=>rhs;simp only [ne,Int.toNat_natCast,gs,Option.getD_some,List.set_set,List.length_set,w0,w1,w2,w3,w4,w5,w6,w7,hd0,hd1,hd2,hd3,r_a0,r_a1,r_a2,r_a3,r_a4,r_a5,r_a6,r_a7,r_a8]
 have r_a10:=Eq.refl (vL (b:Int) y1 y2)
 conv at r_a10=>rhs;simp only [vL,Int.toNat_natCast,gs,Option.getD_some,List.set_set,List.length_set,w0,w1,w2,w3,w4,w5,w6,w7,hd0,hd1,hd2,hd3,r_a0,r_a1,r_a2,r_a3,r_a4,r_a5,r_a6,r_a7,r_a8,r_a9]
 have r_a11:=Eq.refl (vM (b:Int) y1 y2)
 conv at r_a11=>rhs;simp only [vM,Int.toNat_natCast,gs,Option.getD_some,List.set_set,List.length_set,w0,w1,w2,w3,w4,w5,w6,w7,hd0,hd1,hd2,hd3,r_a0,r_a1,r_a2,r_a3,r_a4,r_a5,r_a6,r_a7,r_a8,r_a9,r_a10]
 have r_a12:=Eq.refl (vN y1)
 conv at r_a12=>rhs;simp only [vN,Int.toNat_natCast,gs,Option.getD_some,List.set_set,List.length_set,w0,w1,w2,w3,w4,w5,w6,w7,hd0,hd1,hd2,hd3,r_a0,r_a1,r_a2,r_a3,r_a4,r_a5,r_a6,r_a7,r_a8,r_a9,r_a10,r_a11]
 have r_a13:=Eq.refl (vO (b:Int) y1 y2)
 conv at r_a13=>rhs;simp only [vO,Int.toNat_natCast,gs,Option.getD_some,List.set_set,List.length_set,w0,w1,w2,w3,w4,w5,w6,w7,hd0,hd1,hd2,hd3,r_a0,r_a1,r_a2,r_a3,r_a4,r_a5,r_a6,r_a7,r_a8,r_a9,r_a10,r_a11,r_a12]
 have r_a14:=Eq.refl (qW (b:Int) y1 y2)
 conv at r_a14=>rhs;simp only [qW,Int.toNat_natCast,gs,Option.getD_some,List.set_set,List.length_set,w0,w1,w2,w3,w4,w5,w6,w7,hd0,hd1,hd2,hd3,r_a0,r_a1,r_a2,r_a3,r_a4,r_a5,r_a6,r_a7,r_a8,r_a9,r_a10,r_a11,r_a12,r_a13]
 have r_a15:=Eq.refl (ml (b:Int) y1 y2)
 conv at r_a15=>rhs;simp only [ml,Int.toNat_natCast,gs,Option.getD_some,List.set_set,List.length_set,w0,w1,w2,w3,w4,w5,w6,w7,hd0,hd1,hd2,hd3,r_a0,r_a1,r_a2,r_a3,r_a4,r_a5,r_a6,r_a7,r_a8,r_a9,r_a10,r_a11,r_a12,r_a13,r_a14]
 have r_a16:=Eq.refl (vP (b:Int) y1 y2)
 conv at r_a16=>rhs;simp only [vP,Int.toNat_natCast,gs,Option.getD_some,List.set_set,List.length_set,w0,w1,w2,w3,w4,w5,w6,w7,hd0,hd1,hd2,hd3,r_a0,r_a1,r_a2,r_a3,r_a4,r_a5,r_a6,r_a7,r_a8,r_a9,r_a10,r_a11,r_a12,r_a13,r_a14,r_a15]
 have r_a17:=Eq.refl (vQ (b:Int) y1 y2)
 conv at r_a17=>rhs;simp only [vQ,Int.toNat_natCast,gs,Option.getD_some,List.set_set,List.length_set,w0,w1,w2,w3,w4,w5,w6,w7,hd0,hd1,hd2,hd3,r_a0,r_a1,r_a2,r_a3,r_a4,r_a5,r_a6,r_a7,r_a8,r_a9,r_a10,r_a11,r_a12,r_a13,r_a14,r_a15,r_a16]
 have r_a18:=Eq.refl (vR (b:Int) y1 y2)
 conv at r_a18=>rhs;simp only [vR,Int.toNat_natCast,gs,Option.getD_some,List.set_set,List.length_set,w0,w1,w2,w3,w4,w5,w6,w7,hd0,hd1,hd2,hd3,r_a0,r_a1,r_a2,r_a3,r_a4,r_a5,r_a6,r_a7,r_a8,r_a9,r_a10,r_a11,r_a12,r_a13,r_a14,r_a15,r_a16,r_a17]
 have r_a19:=Eq.refl (vS y1)
 conv at r_a19=>rhs;simp only [vS,Int.toNat_natCast,gs,Option.getD_some,List.set_set,List.length_set,w0,w1,w2,w3,w4,w5,w6,w7,hd0,hd1,hd2,hd3,r_a0,r_a1,r_a2,r_a3,r_a4,r_a5,r_a6,r_a7,r_a8,r_a9,r_a10,r_a11,r_a12,r_a13,r_a14,r_a15,r_a16,r_a17,r_a18]
 have r_a20:=Eq.refl (qX (b:Int) y1 y2)
 conv at r_a20=>rhs;simp only [qX,Int.toNat_natCast,gs,Option.getD_some,List.set_set,List.length_set,w0,w1,w2,w3,w4,w5,w6,w7,hd0,hd1,hd2,hd3,r_a0,r_a1,r_a2,r_a3,r_a4,r_a5,r_a6,r_a7,r_a8,r_a9,r_a10,r_a11,r_a12,r_a13,r_a14,r_a15,r_a16,r_a17,r_a18,r_a19]
 have r_a21:=Eq.refl (mm (b:Int) y1 y2)
 conv at r_a21=>rhs;simp only [mm,Int.toNat_natCast,gs,Option.getD_some,List.set_set,List.length_set,w0,w1,w2,w3,w4,w5,w6,w7,hd0,hd1,hd2,hd3,r_a0,r_a1,r_a2,r_a3,r_a4,r_a5,r_a6,r_a7,r_a8,r_a9,r_a10,r_a11,r_a12,r_a13,r_a14,r_a15,r_a16,r_a17,r_a18,r_a19,r_a20]
 have r_a22:=Eq.refl (vT (b:Int) y1 y2)
 conv at r_a22=>rhs;simp only [vT,Int.toNat_natCast,gs,Option.getD_some,List.set_set,List.length_set,w0,w1,w2,w3,w4,w5,w6,w7,hd0,hd1,hd2,hd3,r_a0,r_a1,r_a2,r_a3,r_a4,r_a5,r_a6,r_a7,r_a8,r_a9,r_a10,r_a11,r_a12,r_a13,r_a14,r_a15,r_a16,r_a17,r_a18,r_a19,r_a20,r_a21]
 have r_a23:=Eq.refl (vU (b:Int) y1 y2)
 conv at r_a23=>rhs;simp only [vU,Int.toNat_natCast,gs,Option.getD_some,List.set_set,List.length_set,w0,w1,w2,w3,w4,w5,w6,w7,hd0,hd1,hd2,hd3,r_a0,r_a1,r_a2,r_a3,r_a4,r_a5,r_a6,r_a7,r_a8,r_a9,r_a10,r_a11,r_a12,r_a13,r_a14,r_a15,r_a16,r_a17,r_a18,r_a19,r_a20,r_a21,r_a22]
 have r_a24:=Eq.refl (vV (b:Int) y1 y2)
 conv at r_a24=>rhs;simp only [vV,Int.toNat_natCast,gs,Option.getD_some,List.set_set,List.length_set,w0,w1,w2,w3,w4,w5,w6,w7,hd0,hd1,hd2,hd3,r_a0,r_a1,r_a2,r_a3,r_a4,r_a5,r_a6,r_a7,r_a8,r_a9,r_a10,r_a11,r_a12,r_a13,r_a14,r_a15,r_a16,r_a17,r_a18,r_a19,r_a20,r_a21,r_a22,r_a23]
 have r_a25:=Eq.refl (vW (b:Int) y1 y2)
 conv at r_a25=>rhs;simp only [vW,Int.toNat_natCast,gs,Option.getD_some,List.set_set,List.length_set,w0,w1,w2,w3,w4,w5,w6,w7,hd0,hd1,hd2,hd3,r_a0,r_a1,r_a2,r_a3,r_a4,r_a5,r_a6,r_a7,r_a8,r_a9,r_a10,r_a11,r_a12,r_a13,r_a14,r_a15,r_a16,r_a17,r_a18,r_a19,r_a20,r_a21,r_a22,r_a23,r_a24]
 have r_a26:=Eq.refl (vY y1)
 conv at r_a26=>rhs;simp only [vY,Int.toNat_natCast,gs,Option.getD_some,List.set_set,List.length_set,w0,w1,w2,w3,w4,w5,w6,w7,hd0,hd1,hd2,hd3,r_a0,r_a1,r_a2,r_a3,r_a4,r_a5,r_a6,r_a7,r_a8,r_a9,r_a10,r_a11,r_a12,r_a13,r_a14,r_a15,r_a16,r_a17,r_a18,r_a19,r_a20,r_a21,r_a22,r_a23,r_a24,r_a25]
 have r_a27:=Eq.refl (vZ (b:Int) y1 y2)
 conv at r_a27=>rhs;simp only [vZ,Int.toNat_natCast,gs,Option.getD_some,List.set_set,List.length_set,w0,w1,w2,w3,w4,w5,w6,w7,hd0,hd1,hd2,hd3,r_a0,r_a1,r_a2,r_a3,r_a4,r_a5,r_a6,r_a7,r_a8,r_a9,r_a10,r_a11,r_a12,r_a13,r_a14,r_a15,r_a16,r_a17,r_a18,r_a19,r_a20,r_a21,r_a22,r_a23,r_a24,r_a25,r_a26]
 have r_a28:=Eq.refl (mn (b:Int) y1 y2)
 conv at r_a28=>rhs;simp only [mn,Int.toNat_natCast,gs,Option.getD_some,List.set_set,List.length_set,w0,w1,w2,w3,w4,w5,w6,w7,hd0,hd1,hd2,hd3,r_a0,r_a1,r_a2,r_a3,r_a4,r_a5,r_a6,r_a7,r_a8,r_a9,r_a10,r_a11,r_a12,r_a13,r_a14,r_a15,r_a16,r_a17,r_a18,r_a19,r_a20,r_a21,r_a22,r_a23,r_a24,r_a25,r_a26,r_a27]
 have r_a29:=Eq.refl (v8 (b:Int) y1 y2)
 conv at r_a29=>rhs;simp only [v8,Int.toNat_natCast,gs,Option.getD_some,List.set_set,List.length_set,w0,w1,w2,w3,w4,w5,w6,w7,hd0,hd1,hd2,hd3,r_a0,r_a1,r_a2,r_a3,r_a4,r_a5,r_a6,r_a7,r_a8,r_a9,r_a10,r_a11,r_a12,r_a13,r_a14,r_a15,r_a16,r_a17,r_a18,r_a19,r_a20,r_a21,r_a22,r_a23,r_a24,r_a25,r_a26,r_a27,r_a28]
 have r_a30:=Eq.refl (wa (b:Int) y1 y2)
 conv at r_a30=>rhs;simp only [wa,Int.toNat_natCast,gs,Option.getD_some,List.set_set,List.length_set,w0,w1,w2,w3,w4,w5,w6,w7,hd0,hd1,hd2,hd3,r_a0,r_a1,r_a2,r_a3,r_a4,r_a5,r_a6,r_a7,r_a8,r_a9,r_a10,r_a11,r_a12,r_a13,r_a14,r_a15,r_a16,r_a17,r_a18,r_a19,r_a20,r_a21,r_a22,r_a23,r_a24,r_a25,r_a26,r_a27,r_a28,r_a29]
 have r_a31:=Eq.refl (wb (b:Int) y1 y2)
 conv at r_a31=>rhs;simp only [wb,Int.toNat_natCast,gs,Option.getD_some,List.set_set,List.length_set,w0,w1,w2,w3,w4,w5,w6,w7,hd0,hd1,hd2,hd3,r_a0,r_a1,r_a2,r_a3,r_a4,r_a5,r_a6,r_a7,r_a8,r_a9,r_a10,r_a11,r_a12,r_a13,r_a14,r_a15,r_a16,r_a17,r_a18,r_a19,r_a20,r_a21,r_a22,r_a23,r_a24,r_a25,r_a26,r_a27,r_a28,r_a29,r_a30]
 have r_a32:=Eq.refl (wc (b:Int) y1 y2)
 conv at r_a32=>rhs;simp only [wc,Int.toNat_natCast,gs,Option.getD_some,List.set_set,List.length_set,w0,w1,w2,w3,w4,w5,w6,w7,hd0,hd1,hd2,hd3,r_a0,r_a1,r_a2,r_a3,r_a4,r_a5,r_a6,r_a7,r_a8,r_a9,r_a10,r_a11,r_a12,r_a13,r_a14,r_a15,r_a16,r_a17,r_a18,r_a19,r_a20,r_a21,r_a22,r_a23,r_a24,r_a25,r_a26,r_a27,r_a28,r_a29,r_a30,r_a31]
 have r_a33:=Eq.refl (wd (b:Int) y1 y2)
 conv at r_a33=>rhs;simp only [wd,Int.toNat_natCast,gs,Option.getD_some,List.set_set,List.length_set,w0,w1,w2,w3,w4,w5,w6,w7,hd0,hd1,hd2,hd3,r_a0,r_a1,r_a2,r_a3,r_a4,r_a5,r_a6,r_a7,r_a8,r_a9,r_a10,r_a11,r_a12,r_a13,r_a14,r_a15,r_a16,r_a17,r_a18,r_a19,r_a20,r_a21,r_a22,r_a23,r_a24,r_a25,r_a26,r_a27,r_a28,r_a29,r_a30,r_a31,r_a32]
 have r_a34:=Eq.refl (we y1)
 conv at r_a34=>rhs;simp only [we,Int.toNat_natCast,gs,Option.getD_some,List.set_set,List.length_set,w0,w1,w2,w3,w4,w5,w6,w7,hd0,hd1,hd2,hd3,r_a0,r_a1,r_a2,r_a3,r_a4,r_a5,r_a6,r_a7,r_a8,r_a9,r_a10,r_a11,r_a12,r_a13,r_a14,r_a15,r_a16,r_a17,r_a18,r_a19,r_a20,r_a21,r_a22,r_a23,r_a24,r_a25,r_a26,r_a27,r_a28,r_a29,r_a30,r_a31,r_a32,r_a33]
 have r_a35:=Eq.refl (mo (b:Int) y1 y2)
 conv at r_a35=>rhs;simp only [mo,Int.toNat_natCast,gs,Option.getD_some,List.set_set,List.length_set,w0,w1,w2,w3,w4,w5,w6,w7,hd0,hd1,hd2,hd3,r_a0,r_a1,r_a2,r_a3,r_a4,r_a5,r_a6,r_a7,r_a8,r_a9,r_a10,r_a11,r_a12,r_a13,r_a14,r_a15,r_a16,r_a17,r_a18,r_a19,r_a20,r_a21,r_a22,r_a23,r_a24,r_a25,r_a26,r_a27,r_a28,r_a29,r_a30,r_a31,r_a32,r_a33,r_a34]
 have r_a36:=Eq.refl (wg y1)
 conv at r_a36=>rhs;simp only [wg,Int.toNat_natCast,gs,Option.getD_some,List.set_set,List.length_set,w0,w1,w2,w3,w4,w5,w6,w7,hd0,hd1,hd2,hd3,r_a0,r_a1,r_a2,r_a3,r_a4,r_a5,r_a6,r_a7,r_a8,r_a9,r_a10,r_a11,r_a12,r_a13,r_a14,r_a15,r_a16,r_a17,r_a18,r_a19,r_a20,r_a21,r_a22,r_a23,r_a24,r_a25,r_a26,r_a27,r_a28,r_a29,r_a30,r_a31,r_a32,r_a33,r_a34,r_a35]
 have r_a37:=Eq.refl (wh (b:Int) y1 y2)
 conv at r_a37=>rhs;simp only [wh,Int.toNat_natCast,gs,Option.getD_some,List.set_set,List.length_set,w0,w1,w2,w3,w4,w5,w6,w7,hd0,hd1,hd2,hd3,r_a0,r_a1,r_a2,r_a3,r_a4,r_a5,r_a6,r_a7,r_a8,r_a9,r_a10,r_a11,r_a12,r_a13,r_a14,r_a15,r_a16,r_a17,r_a18,r_a19,r_a20,r_a21,r_a22,r_a23,r_a24,r_a25,r_a26,r_a27,r_a28,r_a29,r_a30,r_a31,r_a32,r_a33,r_a34,r_a35,r_a36]
 have r_a38:=Eq.refl (wi (b:Int) y1 y2)
 conv at r_a38=>rhs;simp only [wi,Int.toNat_natCast,gs,Option.getD_some,List.set_set,List.length_set,w0,w1,w2,w3,w4,w5,w6,w7,hd0,hd1,hd2,hd3,r_a0,r_a1,r_a2,r_a3,r_a4,r_a5,r_a6,r_a7,r_a8,r_a9,r_a10,r_a11,r_a12,r_a13,r_a14,r_a15,r_a16,r_a17,r_a18,r_a19,r_a20,r_a21,r_a22,r_a23,r_a24,r_a25,r_a26,r_a27,r_a28,r_a29,r_a30,r_a31,r_a32,r_a33,r_a34,r_a35,r_a36,r_a37]
 have r_a39:=Eq.refl (wj (b:Int) y1 y2)
 conv at r_a39=>rhs;simp only [wj,Int.toNat_natCast,gs,Option.getD_some,List.set_set,List.length_set,w0,w1,w2,w3,w4,w5,w6,w7,hd0,hd1,hd2,hd3,r_a0,r_a1,r_a2,r_a3,r_a4,r_a5,r_a6,r_a7,r_a8,r_a9,r_a10,r_a11,r_a12,r_a13,r_a14,r_a15,r_a16,r_a17,r_a18,r_a19,r_a20,r_a21,r_a22,r_a23,r_a24,r_a25,r_a26,r_a27,r_a28,r_a29,r_a30,r_a31,r_a32,r_a33,r_a34,r_a35,r_a36,r_a37,r_a38]
 have r_a40:=Eq.refl (wk (b:Int) y1 y2)
 conv at r_a40=>rhs;simp only [wk,Int.toNat_natCast,gs,Option.getD_some,List.set_set,List.length_set,w0,w1,w2,w3,w4,w5,w6,w7,hd0,hd1,hd2,hd3,r_a0,r_a1,r_a2,r_a3,r_a4,r_a5,r_a6,r_a7,r_a8,r_a9,r_a10,r_a11,r_a12,r_a13,r_a14,r_a15,r_a16,r_a17,r_a18,r_a19,r_a20,r_a21,r_a22,r_a23,r_a24,r_a25,r_a26,r_a27,r_a28,r_a29,r_a30,r_a31,r_a32,r_a33,r_a34,r_a35,r_a36,r_a37,r_a38,r_a39]
 have r_a41:=Eq.refl (wl (b:Int) y1 y2)
 conv at r_a41=>rhs;simp only [wl,Int.toNat_natCast,gs,Option.getD_some,List.set_set,List.length_set,w0,w1,w2,w3,w4,w5,w6,w7,hd0,hd1,hd2,hd3,r_a0,r_a1,r_a2,r_a3,r_a4,r_a5,r_a6,r_a7,r_a8,r_a9,r_a10,r_a11,r_a12,r_a13,r_a14,r_a15,r_a16,r_a17,r_a18,r_a19,r_a20,r_a21,r_a22,r_a23,r_a24,r_a25,r_a26,r_a27,r_a28,r_a29,r_a30,r_a31,r_a32,r_a33,r_a34,r_a35,r_a36,r_a37,r_a38,r_a39,r_a40]
 simp only [cF,Hr,LT.out,Ap,jk,QZ,Ra,Rb,Rc,Rd,Re,Rf,Rg,OY,OZ,Pa,Pb,Pc,Pf,Pg,Ph,Pj,Int.toNat_natCast,gs,Option.getD_some,List.set_set,List.length_set,w0,w1,w2,w3,w4,w5,w6,w7,hd0,hd1,hd2,hd3,r_a0,r_a1,r_a2,r_a3,r_a4,r_a5,r_a6,r_a7,r_a8,r_a9,r_a10,r_a11,r_a12,r_a13,r_a14,r_a15,r_a16,r_a17,r_a18,r_a19,r_a20,r_a21,r_a22,r_a23,r_a24,r_a25,r_a26,r_a27,r_a28,r_a29,r_a30,r_a31,r_a32,r_a33,r_a34,r_a35,r_a36,r_a37,r_a38,r_a39,r_a40,r_a41,allT,cond_true,mkS]
theorem aun(k:Int)(xs:List (Int×Int×(Int×Int)×Int×Int×Bool))(h:(EY 7 k xs.length&&leN xs.length 9223372036854775807)=true):MS k xs=k + 7 * (xs.length:Int)∧MT k xs=upG 7 mkS k xs.length∧MU k xs=true:=by
 simp only [Bool.and_eq_true,bT]at h
 obtain⟨h0,h2⟩:=rX.1 h.1
 obtain⟨w1,w2⟩:=cF.walk (fun i (a:Int×List (Int×Int×(Int×Int)×Int×Int×Bool))=>((i:Int),a.1,a.2)) (fun(b:Nat) (a:Int×List (Int×Int×(Int×Int)×Int×Int×Bool))=> .inr (a.1 + ((7:Nat):Int),a.2.set b (mkS a.1))) 0
  (fun i a=>a.2.length=xs.length∧0≤a.1∧a.1 + 7 * ((xs.length - i:Nat):Int)≤9223372036854775807) (List.range xs.length)
  (fun i b a hb hI=>by
   obtain⟨rfl,hlt⟩:=eu hb
   obtain⟨q1,q2,q3⟩:=hI
   refine⟨?_,?_⟩
   ·rcases awP b a.1 a.2 (by omega) q2 (by omega)with h | h
    ·rw [h];rfl
    ·exact absurd hlt (by omega)
   ·intro a' ha'
    simp only [Sum.inr.injEq]at ha'
    subst ha'
    refine⟨by rw [List.length_set];exact q1,by simp only;omega,by simp only;omega⟩)
  (fun a hI=>by
   obtain⟨q1,q2,q3⟩:=hI
   have hn:ltI ((xs.length:Nat):Int) (a.2.length:Int)=false:=aal (by omega)
   simp only [cF,Hr,LT.out,Ap,List.length_range,hn,cond_false])
  (k,xs) ⟨rfl,h0,by simpa using h2⟩ (by simp only [cF,List.length_range];omega)
 have hw:=UP (e:=0) (d:=7) (mk:=mkS) (f:=fun(b:Nat) (a:Int×List (Int×Int×(Int×Int)×Int×Int×Bool))=> .inr (a.1 + ((7:Nat):Int),a.2.set b (mkS a.1))) (fun b k xs _ _ _=>rfl) xs [] k h0 h2
 rw [List.length_nil,List.nil_append,← List.range_eq_range']at hw
 rw [hw]at w2
 replace w1:cF.fin ((0:Int),k,xs)=true:=w1
 replace w2:cF.res ((0:Int),k,xs)=(0,((0 + xs.length:Nat):Int),k + ((7:Nat):Int) * (xs.length:Int),[]++upG 7 mkS k xs.length):=w2
 refine⟨?_,?_,?_⟩
 ·simp only [MS,wR,ES,w2];rfl
 ·simp only [MT,wR,ES,w2];rfl
 ·simp only [MU,wR,w1,allT,cond_true]
def Vl:List SV→List Entry→Option Out
 | [.one ⟨false,[.ref 0]⟩,.one ⟨false,[.val (.int .i64 x0)]⟩],[.row true 49 (.pair (.int .i64) (.pair (.int .i64) (.pair (.pair (.int .i64) (.int .i64)) (.pair (.int .i64) (.pair (.int .i64) (.bool)))))) x1]=>some ⟨(.one ⟨false,[(.val (.int .i64 (x0 + 7 * (x1.length:Int))))]⟩),[(.row true 49 axi (upG 7 mkS x0 x1.length))],[],[EY 7 x0 x1.length&&leN x1.length 9223372036854775807]⟩
 |_,_=>none
def MW:PF Tryz.prog:=PF.alt ag0 Vl (by
 intro args es o h hnd;unfold Vl at h;split at h
 ·rename_i x0 x1
  cases h
  have hnd:=bY hnd
  have hh:=aun x0 x1 hnd
  obtain⟨e0,e1,en⟩:=hh
  exact ek rfl (cg en) (by simp only [e0] <;> rfl) (by simp only [e1] <;> rfl) rfl
 ·cases h)
def Fl(ll:List (List Int)):Nat:=(ll.map List.length).sum
def Zh:Int→List (List Int)→List (List Int)
 |_,[]=> []
 |k,l::r=>sN k l.length::Zh (k + l.length) r
theorem asx(a b:List (List Int)):Fl (a++b)=Fl a + Fl b:=by simp [Fl]
theorem anG: ∀ (a b:List (List Int)) (k:Int),Zh k (a++b)=Zh k a++Zh (k + Fl a) b
 | [],b,k=>by simp [Zh,Fl]
 |l::a,b,k=>by
  simp only [List.cons_append,Zh,anG a b]
  congr 3
  simp [Fl];omega
theorem ahl: ∀ (a:List (List Int)) (k:Int),(Zh k a).length=a.length
 | [],_=>rfl
 |l::a,k=>by simp [Zh,ahl a]
theorem asF{f:Nat→Int×List (List Int)→Nat ⊕ (Int×List (List Int))}{e:Nat}(hf: ∀ b k xs,f b (k,xs)= .inr (k + (((xs[b]?).getD []).length:Int),xs.set b (sN k ((xs[b]?).getD []).length)))(xs:List (List Int))(k:Int):
  ae f e (List.range xs.length) 0 (k,xs)=(e,xs.length,(k + Fl xs,Zh k xs)):=by
 rw [iP (g:=fun a b=>(a.1 + (((a.2[b]?).getD []).length:Int),a.2.set b (sN a.1 ((a.2[b]?).getD []).length))) (fun b a=>hf b a.1 a.2)]
 have key: ∀ (n:Nat),n≤xs.length→(List.range n).foldl (fun(a:Int×List (List Int)) b=>(a.1 + (((a.2[b]?).getD []).length:Int),a.2.set b (sN a.1 ((a.2[b]?).getD []).length))) (k,xs)=(k + Fl (xs.take n),Zh k (xs.take n)++xs.drop n):=by
  intro n
  induction n with
  |zero=>intro _;simp [Fl,Zh]
  |succ n ih=>
   intro hn
   rw [List.range_succ,List.foldl_append,ih (by omega)]
   have hl:(Zh k (xs.take n)).length=n:=by rw [ahl,List.length_take];omega
   have hg:(Zh k (xs.take n)++xs.drop n)[n]? =some (xs[n]'(by omega)):=by
    rw [List.getElem?_append_right (by omega),hl,Nat.sub_self,List.getElem?_drop,Nat.add_zero,List.getElem?_eq_getElem (by omega)]
   have ht:xs.take (n + 1)=xs.take n++ [xs[n]'(by omega)]:=by rw [List.take_succ_eq_append_getElem (by omega)]
   simp only [List.foldl_cons,List.foldl_nil,hg,Option.getD_some,ht,asx,anG,Prod.mk.injEq]
   refine⟨by simp [Fl];omega,?_⟩
   have h3:xs.drop n=xs[n]'(by omega)::xs.drop (n + 1):=by rw [List.drop_eq_getElem_cons (by omega)]
   rw [List.set_append_right _ _ (by omega),hl,Nat.sub_self,h3,List.set_cons_zero]
   simp only [Zh,List.append_assoc,List.cons_append,List.nil_append]
 rw [key xs.length (Nat.le_refl _)]
 simp
def nF(b:Nat):(Int×List (List Int))→Nat ⊕ (Int×List (List Int))
 |(y1,y2)=>(.inr ((y1 + (↑(List.length (Option.getD y2[b]? (wu (CTy.sl (2:Nat) axl)))):Int)),(List.set y2 b (sN y1 (List.length (Option.getD y2[b]? (wu (CTy.sl (2:Nat) axl))))))))
def iB(i:Nat):(Int×List (List Int))→gZ
 |(y1,y2)=>((i:Int),y1,y2)
def KF:gZ→Int×List (List Int)
 |(_,y1,y2)=>(y1,y2)
theorem afa(y1:Int)(y2:List (List Int))(n:Nat)(hl:y2.length=n)(hn:n≤9223372036854775807)(h1:0≤y1)(h2:y1 + Fl y2≤9223372036854775807):
  cM.fin ((0:Int),y1,y2)=true∧cM.res ((0:Int),y1,y2)=((ae (nF) 0 (List.range n) 0 (y1,y2)).1,(iB) (ae (nF) 0 (List.range n) 0 (y1,y2)).2.1 (ae (nF) 0 (List.range n) 0 (y1,y2)).2.2):=by
 have key:=cM.along (iB) KF (nF) 0 (fun i a=>a.2.length=n∧0≤a.1∧a.1 + Fl (a.2.drop i)≤9223372036854775807) (List.range n) (y1,y2) ⟨hl,h1,by simpa using h2⟩ (by simp only [cM,iB,List.length_range];omega) (fun i b a hb hI=> ?_) (fun a hI=> ?_)
 ·exact key
 ·obtain⟨y1,y2⟩:=a
  obtain⟨rfl,hlt⟩:=eu hb
  have hI0:y2.length=n:=hI.1
  have hw:IntKind.i64.wrap ((b:Int) + 1)=((b + 1:Nat):Int):=by rw [aw (by omega) (by omega)];omega
  have hdec:ltI (b:Int) (y2.length:Int)=true:=bZ (by omega)
  have hnn:leI (0:Int) (b:Int)=true:=bC (by omega)
  have hltd:ltN b y2.length=true:=cB (by omega)
  refine⟨?_,?_,?_,?_⟩
  ·have hd:y2.drop b=y2[b]'(by omega)::y2.drop (b + 1):=by rw [List.drop_eq_getElem_cons (by omega)]
   have hg:y2[b]? =some (y2[b]'(by omega)):=List.getElem?_eq_getElem (by omega)
   have hk:=hI.2
   have h6:rU (b:Int) y1 y2=true:=by
    simp only [rU,Int.toNat_natCast,hg]
    show Rp y1 (y2[b]'(by omega)).length=true
    refine BT.2 ⟨hk.1,?_⟩
    have:=hk.2
    simp only [hd,Fl,List.map_cons,List.sum_cons]at this
    omega
   simp [rT,wM,wN,wO,wP,wQ,uR,cM,LT.nds,allT,iB,hdec,hnn,hltd,h6]
  ·simp [rT,wM,wN,rU,wO,wP,wQ,uR,cM,LT.each,iB,KF,hw]
  ·simp only [rT,wM,wN,rU,wO,wP,wQ,uR,cM,LT.fn,iB,KF,nF,Int.toNat_natCast,hdec,hnn,hltd,cond_true,Bool.cond_self]
  ·have hd:y2.drop b=y2[b]'(by omega)::y2.drop (b + 1):=by rw [List.drop_eq_getElem_cons (by omega)]
   have hg:y2[b]? =some (y2[b]'(by omega)):=List.getElem?_eq_getElem (by omega)
   have hk:=hI.2
   intro a' hf;simp only [nF,Sum.inr.injEq,hg]at hf
   have hf:(y1 + ((y2[b]'(by omega)).length:Int),y2.set b (sN y1 (y2[b]'(by omega)).length))=a':=hf
   subst hf
   have:=hk.2
   simp only [hd,Fl,List.map_cons,List.sum_cons]at this
   refine⟨by simp [hI0],by have:=hk.1;simp only;omega,?_⟩
   simp only [List.drop_set_of_lt (show b < b + 1 by omega),Fl]
   omega
 ·obtain⟨y1,y2⟩:=a
  have hI0:y2.length=n:=hI.1
  simp [rT,wM,wN,rU,wO,wP,wQ,uR,cM,LT.out,iB,hI0,List.length_range]
theorem auo(k:Int)(xs:List (List Int))(h:(Rp k (Fl xs)&&leN xs.length 9223372036854775807)=true):DS k xs=k + Fl xs∧DT k xs=Zh k xs∧DU k xs=true:=by
 simp only [Bool.and_eq_true,bT]at h
 obtain⟨h0,h2⟩:=BT.1 h.1
 obtain⟨w1,w2⟩:=afa k xs xs.length rfl h.2 h0 h2
 rw [asF (f:=nF) (fun b k xs=>rfl)]at w2
 refine⟨?_,?_,?_⟩
 ·simp only [Bq,Br,DS,DT,DU,w2,iB]
 ·simp only [Bq,Br,DS,DT,DU,w2,iB]
 ·simp only [Bq,Br,DS,DT,DU,w1,allT,cond_true]
def VN:Int→List (List Int)→Int
 |k,[]=>k
 |k,l::r=>bif ltI (RB k l) 0 then -1 else VN (RB k l) r
def rO(b:List Int):(Int)→Nat ⊕ (Int)
 |y1=>(bif(ltI (RB y1 b) (0:Int))then(.inl 0)else(.inr (RB y1 b)))
def jY(y2:List (List Int))(i:Nat):(Int)→gY
 |y1=>((i:Int),y1,y2)
def KE:gY→Int
 |(_,y1,_)=>y1
theorem ae9(y2:List (List Int))(y1:Int)(hn:y2.length≤9223372036854775807)(hA: ∀ x∈y2,x.length≤9223372036854775807):
  bK.fin ((0:Int),y1,y2)=true∧bK.res ((0:Int),y1,y2)=((ae (rO) 1 y2 0 y1).1,(jY y2) (ae (rO) 1 y2 0 y1).2.1 (ae (rO) 1 y2 0 y1).2.2):=by
 have key:=bK.along (jY y2) KE (rO) 1 (fun _ _=>True) y2 y1 (by trivial) (by simp only [bK,jY];omega) (fun i b a hb hI=> ?_) (fun a hI=> ?_)
 ·exact key
 ·obtain y1:=a
  have hlt:=(List.getElem?_eq_some_iff.1 hb).1
  have hget: ∀ d,Option.getD y2[i]? d=b:=fun d=>by rw [hb];rfl
  have hw:=oW hlt hn
  have hdec:ltI (i:Int) (y2.length:Int)=true:=bZ (by omega)
  have hnn:leI (0:Int) (i:Int)=true:=bC (by omega)
  have hltd:ltN i y2.length=true:=cB hlt
  refine⟨?_,?_,?_,?_⟩
  ·have hg2:iu (i:Int) y2=b:=by simp only [iu,Int.toNat_natCast];exact hget _
   have h6:leN b.length 9223372036854775807=true:=fk (hA b (List.mem_of_getElem? hb))
   simp [rS,EN,EO,EP,wJ,EQ,wL,uQ,bK,LT.nds,allT,jY,hdec,hnn,hltd,hg2,h6]
  ·simp [iu,rS,EN,EO,EP,wJ,wK,EQ,wL,uQ,bK,LT.each,jY,KE,hw]
  ·have hg2:iu (i:Int) y2=b:=by simp only [iu,Int.toNat_natCast];exact hget _
   simp only [rS,wJ,wL,uQ,bK,LT.fn,jY,KE,rO,Int.toNat_natCast,hdec,hg2,cond_true]
  ·exact fun _ _=>trivial
 ·obtain y1:=a
  simp [iu,rS,EN,EO,EP,wJ,wK,EQ,wL,uQ,bK,LT.out,jY]
theorem anH{f:List Int→Int→Nat ⊕ Int}(hf: ∀ l k,f l k=bif ltI (RB k l) 0 then .inl 0 else .inr (RB k l)): ∀ (r:List (List Int)) (i:Nat) (k:Int),
  (bif Nat.beq (ae f 1 r i k).1 0 then(-1:Int)else(ae f 1 r i k).2.2)=VN k r
 | [],i,k=>rfl
 |l::r,i,k=>by
  simp only [ae,hf,VN]
  cases h:ltI (RB k l) 0 with
  |true=>rfl
  |false=>exact anH hf r (i + 1) _
theorem auf(k:Int)(xs:List (List Int))(h:ahi 9223372036854775807 xs=true):PY k xs=VN k xs∧PZ k xs=true:=by
 obtain⟨hn,hA⟩:=ahj.1 h
 obtain⟨w1,w2⟩:=ae9 xs k hn hA
 simp only [PY,PZ,Ih,wK,w1,w2,jY,allT,cond_true]
 exact⟨anH (f:=rO) (fun l k=>rfl) xs 0 k,trivial⟩
theorem ap8: ∀ (ll:List (List Int)) (k:Int),Rp k (Fl ll)=true→VN k (Zh k ll)=k + Fl ll
 | [],k,_=>by simp [VN,Zh,Fl]
 |l::r,k,h=>by
  obtain⟨h0,h1⟩:=BT.1 h
  have ht:(Fl (l::r):Int)=l.length + Fl r:=by simp [Fl]
  have m1:Rp k l.length=true:=BT.2 (by omega)
  have m2:Rp (k + l.length) (Fl r)=true:=BT.2 (by omega)
  have t:ltI (k + (l.length:Int)) 0=false:=aal (by omega)
  simp only [Zh,VN,aoA k l.length m1,t,cond_false]
  rw [ap8 r _ m2]
  omega
def XA:List SV→List Entry→Option Out
 | [.one ⟨false,[.ref 0]⟩,.one ⟨false,[.val (.int .i64 x0)]⟩],[.tree 24 (.sl 2 (.int .i64)) x1 none]=>some ⟨(.one ⟨false,[(.val (.int .i64 (x0 + (Fl x1:Int))))]⟩),[(.tree 24 (CTy.sl (2:Nat) axl) (Zh x0 x1) none)],[],[Rp x0 (Fl x1)&&leN x1.length 9223372036854775807]⟩
 |_,_=>none
def Qj:PF Tryz.prog:=PF.alt aj8 XA (by
 intro args es o h hnd;unfold XA at h;split at h
 ·rename_i x0 x1
  cases h
  have hnd:=bY hnd
  have hh:=auo x0 x1 hnd
  obtain⟨e0,e1,en⟩:=hh
  exact ek rfl (cg en) (by simp only [e0] <;> rfl) (by simp only [e1] <;> rfl) rfl
 ·cases h)
def Xy:List SV→List Entry→Option Out
 | [.one ⟨false,[.ref 0]⟩,.one ⟨false,[.val (.int .i64 x0)]⟩],[.row false 24 (.sl 2 (.int .i64)) x1]=>some ⟨(.one ⟨false,[(.val (.int .i64 (VN x0 x1)))]⟩),[(.row false 24 (CTy.sl (2:TypeId) axl) x1)],[],[ahi 9223372036854775807 x1]⟩
 |_,_=>none
def Qh:PF Tryz.prog:=PF.alt aj6 Xy (by
 intro args es o h hnd;unfold Xy at h;split at h
 ·rename_i x0 x1
  cases h
  have hnd:=bY hnd
  have hh:=auf x0 x1 hnd
  obtain⟨e0,en⟩:=hh
  exact ek rfl (cg en) (by simp only [e0] <;> rfl) rfl rfl
 ·cases h)
def szN(k:Int)(n:Nat):Int:=bif ltI (k - n) 0 then -1 else k - n
theorem av9(k:Int)(xs:List (Int×Int×(Int×Int)×Int×Int×Bool))(h:(leN xs.length 9223372036854775807&&(leI (-1) k&&leI k 1048576))=true):Qf k xs=szN k xs.length:=by
 simp only [Bool.and_eq_true,bT,Sg]at h
 simp only [Qf,Oo,szN]
 rw [aw (by omega) (by omega)]
def XC:List SV→List Entry→Option Out
 | [.one ⟨false,[.ref 0]⟩,.one ⟨false,[.val (.int .i64 x0)]⟩],[.row false 83 (.pair (.int .i64) (.pair (.int .i64) (.pair (.pair (.int .i64) (.int .i64)) (.pair (.int .i64) (.pair (.int .i64) (.bool)))))) x1]=>some ⟨(.one ⟨false,[(.val (.int .i64 (szN x0 x1.length)))]⟩),[(.row false 83 axi x1)],[],[leN x1.length 9223372036854775807&&(leI (-1) x0&&leI x0 1048576)]⟩
 |_,_=>none
def Ql:PF Tryz.prog:=PF.alt aka XC (by
 intro args es o h hnd;unfold XC at h;split at h
 ·rename_i x0 x1
  cases h
  have hnd:=bY hnd
  have hh:=av9 x0 x1 hnd
  have e0:=hh
  exact ek rfl (fun _ h=>by cases h) (by simp only [e0] <;> rfl) rfl rfl
 ·cases h)
end Go.SX

namespace Go.SX
open Go.Proofs
set_option maxRecDepth 100000
section
variable (x3:Int)(x4:List Int)(x5:List (Int×Int×Int))(x6:List (List Int))(x7:List (Int×Int×Int))(x8 x9:List (Int×Int))
def Cv:Int:=x3 + (↑x4.length:Int)
def Cw:Int:=Cv x3 x4 + (3:Int) * (↑x5.length:Int)
def Cx:Int:=Cw x3 x4 x5 + (↑(Fl x6):Int)
def Cy:Int:=Cx x3 x4 x5 x6 + (3:Int) * (↑x7.length:Int)
def Cz:Int:=Cy x3 x4 x5 x6 x7 + (2:Int) * (↑x8.length:Int)
def Wc:Int:=Cz x3 x4 x5 x6 x7 x8 + (2:Int) * (↑x9.length:Int)
def AH:List Int:=sN x3 x4.length
def AJ:List (Int×(Int×Int)):=upG (3:Nat) mkB (Cv x3 x4) x5.length
def AK:List (List Int):=Zh (Cw x3 x4 x5) x6
def AL:List (Int×(Int×Int)):=upG (3:Nat) mkB (Cx x3 x4 x5 x6) x7.length
def AM:List (Int×Int):=upG (2:Nat) mkI (Cy x3 x4 x5 x6 x7) x8.length
def AO:List (Int×Int):=upG (2:Nat) mkI (Cz x3 x4 x5 x6 x7 x8) x9.length
def Wd:Bool:=allT [Rp x3 x4.length,EY (3:Nat) (Cv x3 x4) x5.length&&leN x5.length (9223372036854775807:Nat),Rp (Cw x3 x4 x5) (Fl x6)&&leN x6.length (9223372036854775807:Nat),EY (3:Nat) (Cx x3 x4 x5 x6) x7.length&&leN x7.length (9223372036854775807:Nat),EY (2:Nat) (Cy x3 x4 x5 x6 x7) x8.length&&leN x8.length (9223372036854775807:Nat),EY (2:Nat) (Cz x3 x4 x5 x6 x7 x8) x9.length&&leN x9.length (9223372036854775807:Nat)]
end
def adY:List SV→List Entry→Option Out
 | [.one ⟨true,[.val (.int .i64 _x0),.ref 0,.ref 1,.ref 2,.ref 3,.val (.int .i64 _x1),.ref 4,.ref 5,.val (.int .i64 _x2)]⟩,.one ⟨false,[.val (.int .i64 x3)]⟩],[.row true 2 (.int .i64) x4,.row true 169 (.pair (.int .i64) (.pair (.int .i64) (.int .i64))) x5,.tree 24 (.sl 2 (.int .i64)) x6 none,.row true 100 (.pair (.int .i64) (.pair (.int .i64) (.int .i64))) x7,.row true 173 (.pair (.int .i64) (.int .i64)) x8,.row true 176 (.pair (.int .i64) (.int .i64)) x9]=>some ⟨(.one ⟨false,[(.val (.int .i64 (Wc x3 x4 x5 x6 x7 x8 x9)))]⟩),[(.row true 2 axl (AH x3 x4)),(.row true 169 axj (AJ x3 x4 x5)),(.tree 24 (CTy.sl (2:Nat) axl) (AK x3 x4 x5 x6) none),(.row true 100 axj (AL x3 x4 x5 x6 x7)),(.row true 173 axk (AM x3 x4 x5 x6 x7 x8)),(.row true 176 axk (AO x3 x4 x5 x6 x7 x8 x9))],[],[(Wd x3 x4 x5 x6 x7 x8 x9)]⟩
 |_,_=>none
def anX:PF Tryz.prog:=PF.ofG Tryz.prog [PF.trees Tryz.prog,Qk,PF.lend Qk,PF.fz Qk,IJ,PF.lend IJ,PF.fz IJ,Qj,PF.lend Qj,PF.fz Qj,LG,PF.lend LG,PF.fz LG,Uz,PF.lend Uz,PF.fz Uz,Uy,PF.lend Uy,PF.fz Uy] [] aq 44 Tryz.f44 Tryz.func44 (fun c _=>LOk.nil c) adY (by
 intro vs es r h;unfold adY at h;split at h
 ·cases h;kernel_rfl
 ·cases h)
section
variable (x3:Int)(x4:List Int)(x5:List (Int×Int×Int))(x6:List (List Int))(x7:List (Int×Int×Int))(x8 x9:List (Int×Int))
def IB:Bool:=ltI (VN (jO (Ix x3 x4) x5) x6) (0:Int)
def NZ:Bool:=ltI (Hm (VN (jO (Ix x3 x4) x5) x6) x7) (0:Int)
def TZ:Bool:=ltI (acd (Hm (VN (jO (Ix x3 x4) x5) x6) x7) x8) (0:Int)
def Ua:Int:=agD (acd (Hm (VN (jO (Ix x3 x4) x5) x6) x7) x8) x9
def KV:Int:=bif ltI (Ix x3 x4) (0:Int)then(-1:Int)else bif ltI (jO (Ix x3 x4) x5) (0:Int)then(-1:Int)else bif IB x3 x4 x5 x6 then(-1:Int)else bif NZ x3 x4 x5 x6 x7 then(-1:Int)else bif TZ x3 x4 x5 x6 x7 x8 then(-1:Int)else bif ltI (Ua x3 x4 x5 x6 x7 x8 x9) (0:Int)then(-1:Int)else Ua x3 x4 x5 x6 x7 x8 x9
def Wb:Bool:=allT [leN x4.length (9223372036854775807:Nat),ltI (Ix x3 x4) (0:Int)||leN x5.length (9223372036854775807:Nat),ltI (Ix x3 x4) (0:Int)||(ltI (jO (Ix x3 x4) x5) (0:Int)||ahi (9223372036854775807:Nat) x6),ltI (Ix x3 x4) (0:Int)||(ltI (jO (Ix x3 x4) x5) (0:Int)||(IB x3 x4 x5 x6||leN x7.length (9223372036854775807:Nat))),ltI (Ix x3 x4) (0:Int)||(ltI (jO (Ix x3 x4) x5) (0:Int)||(IB x3 x4 x5 x6||(NZ x3 x4 x5 x6 x7||leN x8.length (9223372036854775807:Nat)))),ltI (Ix x3 x4) (0:Int)||(ltI (jO (Ix x3 x4) x5) (0:Int)||(IB x3 x4 x5 x6||(NZ x3 x4 x5 x6 x7||(TZ x3 x4 x5 x6 x7 x8||leN x9.length (9223372036854775807:Nat)))))]
end
def adX:List SV→List Entry→Option Out
 | [.one ⟨true,[.val (.int .i64 _x0),.ref 0,.ref 1,.ref 2,.ref 3,.val (.int .i64 _x1),.ref 4,.ref 5,.val (.int .i64 _x2)]⟩,.one ⟨false,[.val (.int .i64 x3)]⟩],[.row false 2 (.int .i64) x4,.row false 169 (.pair (.int .i64) (.pair (.int .i64) (.int .i64))) x5,.row false 24 (.sl 2 (.int .i64)) x6,.row false 100 (.pair (.int .i64) (.pair (.int .i64) (.int .i64))) x7,.row false 173 (.pair (.int .i64) (.int .i64)) x8,.row false 176 (.pair (.int .i64) (.int .i64)) x9]=>some ⟨(.one ⟨false,[(.val (.int .i64 (KV x3 x4 x5 x6 x7 x8 x9)))]⟩),[(.row false 2 axl x4),(.row false 169 axj x5),(.row false 24 (CTy.sl (2:TypeId) axl) x6),(.row false 100 axj x7),(.row false 173 axk x8),(.row false 176 axk x9)],[],[(Wb x3 x4 x5 x6 x7 x8 x9)]⟩
 |_,_=>none
def anW:PF Tryz.prog:=PF.ofG Tryz.prog [Qi,PF.lend Qi,PF.fz Qi,II,PF.lend II,PF.fz II,Qh,PF.lend Qh,PF.fz Qh,LF,PF.lend LF,PF.fz LF,Ux,PF.lend Ux,PF.fz Ux,Uw,PF.lend Uw,PF.fz Uw] [] aq 45 Tryz.f45 Tryz.func45 (fun c _=>LOk.nil c) adX (by
 intro vs es r h;unfold adX at h;split at h
 ·cases h;kernel_rfl
 ·cases h)
end Go.SX

namespace Go.SX
open Go.Proofs
set_option maxRecDepth 100000
def HQ(ps:List Int)(fs:List (Int×Int×Int))(rs:List (List Int))(lf:List (Int×Int×Int))(pl ls:List (Int×Int)):Nat:=ps.length + 3 * fs.length + Fl rs + 3 * lf.length + 2 * pl.length + 2 * ls.length
theorem asB: ∀ {rs:List (List Int)} {k:Int} {x:List Int},x∈Zh k rs→ ∃ y∈rs,x.length=y.length
 | [],_,_,h=>by simp [Zh]at h
 |a::r,k,x,h=>by
  simp only [Zh,List.mem_cons]at h
  rcases h with rfl | h
  ·exact⟨a,by simp,by rw [Ll]⟩
  ·obtain⟨y,h1,h2⟩:=asB h
   exact⟨y,by simp [h1],h2⟩
theorem auq(k:Int)(ps:List Int)(fs:List (Int×Int×Int))(rs:List (List Int))(lf:List (Int×Int×Int))(pl ls:List (Int×Int))(h:(Rp k (HQ ps fs rs lf pl ls)&&rb 9223372036854775807 ps fs rs lf pl ls)=true):
  Wc k ps fs rs lf pl ls=k + (HQ ps fs rs lf pl ls:Int)∧Wd k ps fs rs lf pl ls=true:=by
 simp only [Bool.and_eq_true]at h
 obtain⟨h0,h1⟩:=BT.1 h.1
 obtain⟨g1,g2,⟨g3,_⟩,g4,g5,g6⟩:=xN.1 h.2
 simp only [HQ]at h1
 refine⟨?_,?_⟩
 ·simp only [Wc,Cv,Cw,Cx,Cy,Cz,HQ];omega
 ·have m1:Rp k ps.length=true:=BT.2 (by omega)
  have m2:EY 3 (k + (ps.length:Int)) fs.length=true:=rX.2 (by omega)
  have m3:Rp (k + (ps.length:Int) + 3 * (fs.length:Int)) (Fl rs)=true:=BT.2 (by omega)
  have m4:EY 3 (k + (ps.length:Int) + 3 * (fs.length:Int) + (Fl rs:Int)) lf.length=true:=rX.2 (by omega)
  have m5:EY 2 (k + (ps.length:Int) + 3 * (fs.length:Int) + (Fl rs:Int) + 3 * (lf.length:Int)) pl.length=true:=rX.2 (by omega)
  have m6:EY 2 (k + (ps.length:Int) + 3 * (fs.length:Int) + (Fl rs:Int) + 3 * (lf.length:Int) + 2 * (pl.length:Int)) ls.length=true:=rX.2 (by omega)
  simp only [Wd,Cv,Cw,Cx,Cy,Cz,m1,m2,m3,m4,m5,m6,fk g2,fk g3,fk g4,fk g5,fk g6,allT,Bool.and_self,cond_true]
theorem arK(k:Int)(ps:List Int)(fs:List (Int×Int×Int))(rs:List (List Int))(lf:List (Int×Int×Int))(pl ls:List (Int×Int))(h:rb 9223372036854775807 ps fs rs lf pl ls=true):
  Wb k ps fs rs lf pl ls=true:=by
 simp only [rb,Bool.and_eq_true]at h
 obtain⟨h1,h2,h3,h4,h5,h6⟩:=h
 simp only [Wb,h1,h2,h3,h4,h5,h6,allT,Bool.or_true,cond_true]
theorem arL(k:Int)(ps:List Int)(fs:List (Int×Int×Int))(rs:List (List Int))(lf:List (Int×Int×Int))(pl ls:List (Int×Int))(h:(Rp k (HQ ps fs rs lf pl ls)&&rb 9223372036854775807 ps fs rs lf pl ls)=true):
  KV k (AH k ps) (AJ k ps fs) (AK k ps fs rs) (AL k ps fs rs lf) (AM k ps fs rs lf pl) (AO k ps fs rs lf pl ls)=k + (HQ ps fs rs lf pl ls:Int):=by
 simp only [Bool.and_eq_true]at h
 obtain⟨h0,h1⟩:=BT.1 h.1
 obtain⟨g1,g2,⟨g3,_⟩,g4,g5,g6⟩:=xN.1 h.2
 simp only [HQ]at h1
 have m1:Rp k ps.length=true:=BT.2 (by omega)
 have m2:EY 3 (k + (ps.length:Int)) fs.length=true:=rX.2 (by omega)
 have m3:Rp (k + (ps.length:Int) + 3 * (fs.length:Int)) (Fl rs)=true:=BT.2 (by omega)
 have m4:EY 3 (k + (ps.length:Int) + 3 * (fs.length:Int) + (Fl rs:Int)) lf.length=true:=rX.2 (by omega)
 have m5:EY 2 (k + (ps.length:Int) + 3 * (fs.length:Int) + (Fl rs:Int) + 3 * (lf.length:Int)) pl.length=true:=rX.2 (by omega)
 have m6:EY 2 (k + (ps.length:Int) + 3 * (fs.length:Int) + (Fl rs:Int) + 3 * (lf.length:Int) + 2 * (pl.length:Int)) ls.length=true:=rX.2 (by omega)
 have e1:Ix k (sN k ps.length)=k + (ps.length:Int):=by
  rw [Ix,aoA k ps.length m1,show ltI (k + (ps.length:Int)) 0=false from aal (by omega)];rfl
 have e2:=ajW (k + (ps.length:Int)) fs.length (by rw [m2,fk g2];rfl)
 have e3:=ap8 rs _ m3
 have e4:=amj _ lf.length (by rw [m4,fk g4];rfl)
 have e5:=arM _ pl.length (by rw [m5,fk g5];rfl)
 have e6:=arJ _ ls.length (by rw [m6,fk g6];rfl)
 have t1:ltI (k + (ps.length:Int)) 0=false:=aal (by omega)
 have t2:ltI (k + (ps.length:Int) + 3 * (fs.length:Int)) 0=false:=aal (by omega)
 have t3:ltI (k + (ps.length:Int) + 3 * (fs.length:Int) + (Fl rs:Int)) 0=false:=aal (by omega)
 have t4:ltI (k + (ps.length:Int) + 3 * (fs.length:Int) + (Fl rs:Int) + 3 * (lf.length:Int)) 0=false:=aal (by omega)
 have t5:ltI (k + (ps.length:Int) + 3 * (fs.length:Int) + (Fl rs:Int) + 3 * (lf.length:Int) + 2 * (pl.length:Int)) 0=false:=aal (by omega)
 have t6:ltI (k + (ps.length:Int) + 3 * (fs.length:Int) + (Fl rs:Int) + 3 * (lf.length:Int) + 2 * (pl.length:Int) + 2 * (ls.length:Int)) 0=false:=aal (by omega)
 simp only [KV,IB,NZ,TZ,Ua,AH,AJ,AK,AL,AM,AO,Cv,Cw,Cx,Cy,Cz,e1,e2,e3,e4,e5,e6,t1,t2,t3,t4,t5,t6,cond_false,HQ]
 omega
theorem atg{k:Int}{ps:List Int}{fs:List (Int×Int×Int)}{rs:List (List Int)}{lf:List (Int×Int×Int)}{pl ls:List (Int×Int)}{m:Nat}(h:rb m ps fs rs lf pl ls=true):
  rb m (AH k ps) (AJ k ps fs) (AK k ps fs rs) (AL k ps fs rs lf) (AM k ps fs rs lf pl) (AO k ps fs rs lf pl ls)=true:=by
 obtain⟨g1,g2,⟨g3,g7⟩,g4,g5,g6⟩:=xN.1 h
 refine xN.2 ⟨?_,?_,⟨?_,fun x hx=> ?_⟩,?_,?_,?_⟩
 ·simp only [AH,Ll];exact g1
 ·simp only [AJ,NJ];exact g2
 ·simp only [AK,ahl];exact g3
 ·obtain⟨y,h1,h2⟩:=asB hx
  rw [h2];exact g7 y h1
 ·simp only [AL,NJ];exact g4
 ·simp only [AM,NJ];exact g5
 ·simp only [AO,NJ];exact g6
theorem app: ∀ {rs:List (List Int)} {m:Nat},(∀ x∈rs,x.length≤m)→Fl rs≤m * rs.length
 | [],m,_=>by simp [Fl]
 |a::r,m,h=>by
  have h1:=h a (by simp)
  have h2:=app (rs:=r) (m:=m) fun x hx=>h x (by simp [hx])
  simp only [Fl,List.map_cons,List.sum_cons,List.length_cons,Nat.mul_add,Nat.mul_one]at h2 ⊢
  omega
theorem anC{ps:List Int}{fs:List (Int×Int×Int)}{rs:List (List Int)}{lf:List (Int×Int×Int)}{pl ls:List (Int×Int)}(h:rb 1048576 ps fs rs lf pl ls=true):HQ ps fs rs lf pl ls≤1099530698752:=by
 obtain⟨g1,g2,⟨g3,g7⟩,g4,g5,g6⟩:=xN.1 h
 have h1:=app g7
 have h2:1048576 * rs.length≤1048576 * 1048576:=Nat.mul_le_mul (Nat.le_refl _) g3
 simp only [HQ];omega
def aea:List SV→List Entry→Option Out
 | [.one ⟨true,[.val (.int .i64 _x0),.ref 0,.ref 1,.ref 2,.ref 3,.val (.int .i64 _x1),.ref 4,.ref 5,.val (.int .i64 _x2)]⟩,.one ⟨false,[.val (.int .i64 x3)]⟩],[.row true 2 (.int .i64) x4,.row true 169 (.pair (.int .i64) (.pair (.int .i64) (.int .i64))) x5,.tree 24 (.sl 2 (.int .i64)) x6 none,.row true 100 (.pair (.int .i64) (.pair (.int .i64) (.int .i64))) x7,.row true 173 (.pair (.int .i64) (.int .i64)) x8,.row true 176 (.pair (.int .i64) (.int .i64)) x9]=>some ⟨(.one ⟨false,[(.val (.int .i64 (x3 + (HQ x4 x5 x6 x7 x8 x9:Int))))]⟩),[(.row true 2 axl (AH x3 x4)),(.row true 169 axj (AJ x3 x4 x5)),(.tree 24 (CTy.sl (2:Nat) axl) (AK x3 x4 x5 x6) none),(.row true 100 axj (AL x3 x4 x5 x6 x7)),(.row true 173 axk (AM x3 x4 x5 x6 x7 x8)),(.row true 176 axk (AO x3 x4 x5 x6 x7 x8 x9))],[],[Rp x3 (HQ x4 x5 x6 x7 x8 x9)&&rb 9223372036854775807 x4 x5 x6 x7 x8 x9]⟩
 |_,_=>none
def Wi:PF Tryz.prog:=PF.alt anX aea (by
 intro args es o h hnd;unfold aea at h;split at h
 ·rename_i _x0 _x1 _x2 x3 x4 x5 x6 x7 x8 x9
  cases h
  have hnd:=bY hnd
  have hh:=auq x3 x4 x5 x6 x7 x8 x9 hnd
  obtain⟨e0,en⟩:=hh
  exact ek rfl (cg en) (by simp only [e0] <;> rfl) rfl rfl
 ·cases h)
def ad9:List SV→List Entry→Option Out
 | [.one ⟨true,[.val (.int .i64 _x0),.ref 0,.ref 1,.ref 2,.ref 3,.val (.int .i64 _x1),.ref 4,.ref 5,.val (.int .i64 _x2)]⟩,.one ⟨false,[.val (.int .i64 x3)]⟩],[.row false 2 (.int .i64) x4,.row false 169 (.pair (.int .i64) (.pair (.int .i64) (.int .i64))) x5,.row false 24 (.sl 2 (.int .i64)) x6,.row false 100 (.pair (.int .i64) (.pair (.int .i64) (.int .i64))) x7,.row false 173 (.pair (.int .i64) (.int .i64)) x8,.row false 176 (.pair (.int .i64) (.int .i64)) x9]=>some ⟨(.one ⟨false,[(.val (.int .i64 (KV x3 x4 x5 x6 x7 x8 x9)))]⟩),[(.row false 2 axl x4),(.row false 169 axj x5),(.row false 24 (CTy.sl (2:TypeId) axl) x6),(.row false 100 axj x7),(.row false 173 axk x8),(.row false 176 axk x9)],[],[rb 9223372036854775807 x4 x5 x6 x7 x8 x9]⟩
 |_,_=>none
def Wh:PF Tryz.prog:=PF.alt anW ad9 (by
 intro args es o h hnd;unfold ad9 at h;split at h
 ·rename_i _x0 _x1 _x2 x3 x4 x5 x6 x7 x8 x9
  cases h
  have hnd:=bY hnd
  have hh:=arK x3 x4 x5 x6 x7 x8 x9 hnd
  have en:=hh
  exact ek rfl (cg en) rfl rfl rfl
 ·cases h)
end Go.SX
