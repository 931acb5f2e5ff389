/- What functions of the program come to, and what that says in plain words: part 2. -/
import Derived.Test.YtbajbgcdcaknpaaGreatDoorMa
import Derived.Test.YtbajbgcdcaknpaaGreatDoorTXh
import Derived.Test.YtbajbgcdcaknpaaGreatDoorProg
set_option linter.unusedSimpArgs false
set_option linter.unusedVariables false
namespace Go.SX
open Go.Proofs
set_option maxRecDepth 100000
def acA(xs ys:List (Int×Int)):Bool:=decide (xs=ys)
def kv(y1:List (Int×(Int×Int)))(b:Nat):(List (Int×(Int×Int)))→Nat ⊕ (List (Int×(Int×Int)))
 |y2=>(.inr (List.set y2 b ((Option.getD y1[b]? ((0:Int),(0:Int),(0:Int))).1,((Option.getD y1[b]? ((0:Int),(0:Int),(0:Int))).2).1,(Option.getD y1[b]? ((0:Int),(0:Int),(0:Int))).2.2)))
def ip(y1:List (Int×(Int×Int)))(i:Nat):(List (Int×(Int×Int)))→fW
 |y2=>((i:Int),y1,y2)
def BK:fW→List (Int×(Int×Int))
 |(_,_,y2)=>y2
theorem Ul(y1 y2:List (Int×(Int×Int)))(hn:y1.length≤9223372036854775807)(hl:y2.length=y1.length):
  b8.fin ((0:Int),y1,y2)=true∧b8.res ((0:Int),y1,y2)=((aq (kv y1) 0 (List.range y1.length) 0 y2).1,(ip y1) (aq (kv y1) 0 (List.range y1.length) 0 y2).2.1 (aq (kv y1) 0 (List.range y1.length) 0 y2).2.2):=by
 have key:=b8.along (ip y1) BK (kv y1) 0 (fun _ a=>a.length=y1.length) (List.range y1.length) y2 hl (by simp only [b8,ip,List.length_range];omega) (fun i b a hb hI=> ?_) (fun a hI=> ?_)
 ·exact key
 ·obtain y2:=a
  obtain⟨rfl,hlt⟩:=gV hb
  have hw:IntKind.i64.wrap ((b:Int) + 1)=((b + 1:Nat):Int):=by rw [bp (by omega) (by omega)];omega
  have hdec:ltI (b:Int) (y1.length:Int)=true:=db (by omega)
  have hnn:leI (0:Int) (b:Int)=true:=bZ (by omega)
  have hltd:ltN b y1.length=true:=dK (by omega)
  refine⟨?_,?_,?_,?_⟩
  ·simp [jJ,nQ,nR,rb,rc,re,rf,rg,qf,b8,LT.nds,allT,ip,hdec,hnn,hltd,hI]
  ·simp [jJ,nQ,nR,rb,rc,re,rf,rg,qf,b8,LT.each,ip,BK,hw,hI]
  ·simp only [jJ,nQ,nR,rb,rc,re,rf,rg,qf,b8,LT.fn,ip,BK,kv,Int.toNat_natCast,hdec,cond_true]
  ·intro a' hf;simp only [kv,Sum.inr.injEq]at hf;subst hf;simpa using hI
 ·obtain y2:=a
  simp [jJ,nQ,nR,rb,rc,re,rf,rg,qf,b8,LT.out,ip,List.length_range]
def nF(y1 y2:List (Int×(Int×Int)))(b:Nat):(Unit)→Nat ⊕ (Unit)
 |_=>(bif(!xQ ((Option.getD y1[b]? ((0:Int),(0:Int),(0:Int))).1) (((Option.getD y1[b]? ((0:Int),(0:Int),(0:Int))).2).1) ((Option.getD y1[b]? ((0:Int),(0:Int),(0:Int))).2.2) ((Option.getD y2[b]? ((0:Int),(0:Int),(0:Int))).1) (((Option.getD y2[b]? ((0:Int),(0:Int),(0:Int))).2).1) ((Option.getD y2[b]? ((0:Int),(0:Int),(0:Int))).2.2))then(.inl 0)else(.inr ()))
def jR(y1 y2:List (Int×(Int×Int)))(i:Nat):(Unit)→fU
 |_=>((i:Int),y1,y2)
def BJ:fU→Unit
 |(_,_,_)=>()
theorem Uk(y1 y2:List (Int×(Int×Int))) (hn:y1.length≤9223372036854775807) (he:y2.length=y1.length):
  bM.fin ((0:Int),y1,y2)=true∧bM.res ((0:Int),y1,y2)=((aq (nF y1 y2) 1 (List.range y1.length) 0 ()).1,(jR y1 y2) (aq (nF y1 y2) 1 (List.range y1.length) 0 ()).2.1 (aq (nF y1 y2) 1 (List.range y1.length) 0 ()).2.2):=by
 have key:=bM.along (jR y1 y2) BJ (nF y1 y2) 1 (fun _ _=>True) (List.range y1.length) () (by trivial) (by simp only [bM,jR,List.length_range];omega) (fun i b a hb hI=> ?_) (fun a hI=> ?_)
 ·exact key
 ·obtain⟨⟩:=a
  obtain⟨rfl,hlt⟩:=gV hb
  have hw:IntKind.i64.wrap ((b:Int) + 1)=((b + 1:Nat):Int):=by rw [bp (by omega) (by omega)];omega
  have hdec:ltI (b:Int) (y1.length:Int)=true:=db (by omega)
  have hnn:leI (0:Int) (b:Int)=true:=bZ (by omega)
  have hltd:ltN b y1.length=true:=dK (by omega)
  refine⟨?_,?_,?_,?_⟩
  ·simp [jH,jI,nI,nJ,qY,qZ,q8,q9,ra,qe,bM,LT.nds,allT,jR,hdec,hnn,hltd,he]
  ·simp [jH,jI,nI,nJ,qY,qZ,q8,q9,ra,qe,bM,LT.each,jR,BJ,hw,he]
  ·simp only [jH,jI,nI,nJ,qY,qZ,q8,q9,ra,qe,bM,LT.fn,jR,BJ,nF,Int.toNat_natCast,hdec,cond_true]
  ·exact fun _ _=>trivial
 ·obtain⟨⟩:=a
  simp [jH,jI,nI,nJ,qY,qZ,q8,q9,ra,qe,bM,LT.out,jR,List.length_range]
theorem alK(xs:List (Int×Int×Int))(hn:leN xs.length 1048576=true):Bu xs=xs∧Bv xs=true:=by
 have hn:=eP.1 hn
 have hr:(List.replicate (Int.toNat (xs.length:Int)) ((0:Int),(0:Int),(0:Int))).length=xs.length:=by simp
 obtain⟨w1,w2⟩:=Ul xs (List.replicate (Int.toNat (xs.length:Int)) ((0:Int),(0:Int),(0:Int))) (by omega) hr
 have hc:=Gy (xs:=xs) (d:=((0:Int),(0:Int),(0:Int))) (g:=fun x=>x) (f:=kv xs) (e:=0) (fun b a=>rfl) hr
 rw [hc]at w2
 refine⟨?_,?_⟩
 ·simp only [zw,Bu,Bv,w2,ip];simp
 ·simp only [zw,Bu,Bv,w1,allT];simp;omega
def Ny:List SV→List Entry→Option Out
 | [.one ⟨false,[.ref 0]⟩],[.row false 208 (.pair (.int .i64) (.pair (.int .i64) (.int .i64))) x0]=>some ⟨(.one ⟨false,[(.ref 1)]⟩),[(.row false 208 amS x0)],[(.row true 100 amS x0)],[leN x0.length 1048576]⟩
 |_,_=>none
def GJ:PF Tryz.prog:=PF.alt YJ Ny (by
 intro args es o h hnd;unfold Ny at h;split at h
 ·rename_i x0
  cases h
  have hnd:=eD hnd
  have hh:=alK x0 hnd
  obtain⟨e0,en⟩:=hh
  exact gW rfl (eN en) rfl rfl (by simp only [e0] <;> rfl)
 ·cases h)
theorem alb(xs ys:List (Int×Int×Int))(hn:leN xs.length 9223372036854775807=true):Bj xs ys=KY xs ys∧Bk xs ys=true:=by
 have hn:=eP.1 hn
 unfold KY
 have h3: ∀ a b:Int×Int×Int,(!xQ a.1 a.2.1 a.2.2 b.1 b.2.1 b.2.2)= !decide (a=b):=fun a b=>by
  obtain⟨a1,a2,a3⟩:=a;obtain⟨b1,b2,b3⟩:=b
  simp only [xQ,Prod.mk.injEq]
  by_cases h1:a1=b1 <;> by_cases h2:a2=b2 <;> by_cases h3:a3=b3 <;> simp [h1,h2,h3]
 by_cases hl:ys.length=xs.length
 ·obtain⟨w1,w2⟩:=Uk xs ys hn hl
  have ha:=aah (d:=((0:Int),(0:Int),(0:Int))) hl (P:=fun b=> !decide (Option.getD xs[b]? (0,0,0)=Option.getD ys[b]? (0,0,0))) (fun b=>rfl)
  rw [iq (P:=fun b=> !decide (Option.getD xs[b]? (0,0,0)=Option.getD ys[b]? (0,0,0))) (j:=0) (fun b=>by simp only [nF,h3]),ha]at w2
  simp only [zh,zi,Bj,Bk,w1,w2,allT]
  by_cases he:xs=ys
  ·subst he;simp;decide
  ·simp [he,hl]
 ·have hne:xs≠ys:=fun h=>hl (by rw [h])
  simp [zh,zi,Bj,Bk,allT,hne]
  omega
def Nx:List SV→List Entry→Option Out
 | [.one ⟨false,[.ref 0]⟩,.one ⟨false,[.ref 1]⟩],[.row false 100 (.pair (.int .i64) (.pair (.int .i64) (.int .i64))) x0,.row false 100 (.pair (.int .i64) (.pair (.int .i64) (.int .i64))) x1]=>some ⟨(.one ⟨false,[(.val (.bool (KY x0 x1)))]⟩),[(.row false 100 amS x0),(.row false 100 amS x1)],[],[leN x0.length 9223372036854775807]⟩
 |_,_=>none
def GI:PF Tryz.prog:=PF.alt YI Nx (by
 intro args es o h hnd;unfold Nx at h;split at h
 ·rename_i x0 x1
  cases h
  have hnd:=eD hnd
  have hh:=alb x0 x1 hnd
  obtain⟨e0,en⟩:=hh
  exact gW rfl (eN en) (by simp only [e0] <;> rfl) rfl rfl
 ·cases h)
def qQ(y1:List (Int×Int))(b:Nat):(List (Int×Int))→Nat ⊕ (List (Int×Int))
 |y2=>(.inr (List.set y2 b ((Option.getD y1[b]? ((0:Int),(0:Int))).1,(Option.getD y1[b]? ((0:Int),(0:Int))).2)))
def nx(y1:List (Int×Int))(i:Nat):(List (Int×Int))→jW
 |y2=>((i:Int),y1,y2)
def Ij:jW→List (Int×Int)
 |(_,_,y2)=>y2
theorem aci(y1 y2:List (Int×Int))(hn:y1.length≤9223372036854775807)(hl:y2.length=y1.length):
  fA.fin ((0:Int),y1,y2)=true∧fA.res ((0:Int),y1,y2)=((aq (qQ y1) 0 (List.range y1.length) 0 y2).1,(nx y1) (aq (qQ y1) 0 (List.range y1.length) 0 y2).2.1 (aq (qQ y1) 0 (List.range y1.length) 0 y2).2.2):=by
 have key:=fA.along (nx y1) Ij (qQ y1) 0 (fun _ a=>a.length=y1.length) (List.range y1.length) y2 hl (by simp only [fA,nx,List.length_range];omega) (fun i b a hb hI=> ?_) (fun a hI=> ?_)
 ·exact key
 ·obtain y2:=a
  obtain⟨rfl,hlt⟩:=gV hb
  have hw:IntKind.i64.wrap ((b:Int) + 1)=((b + 1:Nat):Int):=by rw [bp (by omega) (by omega)];omega
  have hdec:ltI (b:Int) (y1.length:Int)=true:=db (by omega)
  have hnn:leI (0:Int) (b:Int)=true:=bZ (by omega)
  have hltd:ltN b y1.length=true:=dK (by omega)
  refine⟨?_,?_,?_,?_⟩
  ·simp [s5,vb,vc,zD,zE,zF,zG,zH,xZ,fA,LT.nds,allT,nx,hdec,hnn,hltd,hI]
  ·simp [s5,vb,vc,zD,zE,zF,zG,zH,xZ,fA,LT.each,nx,Ij,hw,hI]
  ·simp only [s5,vb,vc,zD,zE,zF,zG,zH,xZ,fA,LT.fn,nx,Ij,qQ,Int.toNat_natCast,hdec,cond_true]
  ·intro a' hf;simp only [qQ,Sum.inr.injEq]at hf;subst hf;simpa using hI
 ·obtain y2:=a
  simp [s5,vb,vc,zD,zE,zF,zG,zH,xZ,fA,LT.out,nx,List.length_range]
def uW(y1 y2:List (Int×Int))(b:Nat):(Unit)→Nat ⊕ (Unit)
 |_=>(bif(!Ho ((Option.getD y1[b]? ((0:Int),(0:Int))).1) ((Option.getD y1[b]? ((0:Int),(0:Int))).2) ((Option.getD y2[b]? ((0:Int),(0:Int))).1) ((Option.getD y2[b]? ((0:Int),(0:Int))).2))then(.inl 0)else(.inr ()))
def p8(y1 y2:List (Int×Int))(i:Nat):(Unit)→jU
 |_=>((i:Int),y1,y2)
def Ih:jU→Unit
 |(_,_,_)=>()
theorem acg(y1 y2:List (Int×Int)) (hn:y1.length≤9223372036854775807) (he:y2.length=y1.length):
  ea.fin ((0:Int),y1,y2)=true∧ea.res ((0:Int),y1,y2)=((aq (uW y1 y2) 1 (List.range y1.length) 0 ()).1,(p8 y1 y2) (aq (uW y1 y2) 1 (List.range y1.length) 0 ()).2.1 (aq (uW y1 y2) 1 (List.range y1.length) 0 ()).2.2):=by
 have key:=ea.along (p8 y1 y2) Ih (uW y1 y2) 1 (fun _ _=>True) (List.range y1.length) () (by trivial) (by simp only [ea,p8,List.length_range];omega) (fun i b a hb hI=> ?_) (fun a hI=> ?_)
 ·exact key
 ·obtain⟨⟩:=a
  obtain⟨rfl,hlt⟩:=gV hb
  have hw:IntKind.i64.wrap ((b:Int) + 1)=((b + 1:Nat):Int):=by rw [bp (by omega) (by omega)];omega
  have hdec:ltI (b:Int) (y1.length:Int)=true:=db (by omega)
  have hnn:leI (0:Int) (b:Int)=true:=bZ (by omega)
  have hltd:ltN b y1.length=true:=dK (by omega)
  refine⟨?_,?_,?_,?_⟩
  ·simp [sV,sW,u6,u7,zp,zq,zr,zt,zu,xX,ea,LT.nds,allT,p8,hdec,hnn,hltd,he]
  ·simp [sV,sW,u6,u7,zp,zq,zr,zt,zu,xX,ea,LT.each,p8,Ih,hw,he]
  ·simp only [sV,sW,u6,u7,zp,zq,zr,zt,zu,xX,ea,LT.fn,p8,Ih,uW,Int.toNat_natCast,hdec,cond_true]
  ·exact fun _ _=>trivial
 ·obtain⟨⟩:=a
  simp [sV,sW,u6,u7,zp,zq,zr,zt,zu,xX,ea,LT.out,p8,List.length_range]
theorem alN(xs:List (Int×Int))(hn:leN xs.length 1048576=true):JF xs=xs∧JG xs=true:=by
 have hn:=eP.1 hn
 have hr:(List.replicate (Int.toNat (xs.length:Int)) ((0:Int),(0:Int))).length=xs.length:=by simp
 obtain⟨w1,w2⟩:=aci xs (List.replicate (Int.toNat (xs.length:Int)) ((0:Int),(0:Int))) (by omega) hr
 have hc:=Gy (xs:=xs) (d:=((0:Int),(0:Int))) (g:=fun x=>x) (f:=qQ xs) (e:=0) (fun b a=>rfl) hr
 rw [hc]at w2
 refine⟨?_,?_⟩
 ·simp only [HL,JF,JG,w2,nx];simp
 ·simp only [HL,JF,JG,w1,allT];simp;omega
def Wn:List SV→List Entry→Option Out
 | [.one ⟨false,[.ref 0]⟩],[.row false 210 (.pair (.int .i64) (.int .i64)) x0]=>some ⟨(.one ⟨false,[(.ref 1)]⟩),[(.row false 210 amT x0)],[(.row true 173 amT x0)],[leN x0.length 1048576]⟩
 |_,_=>none
def OT:PF Tryz.prog:=PF.alt ae7 Wn (by
 intro args es o h hnd;unfold Wn at h;split at h
 ·rename_i x0
  cases h
  have hnd:=eD hnd
  have hh:=alN x0 hnd
  obtain⟨e0,en⟩:=hh
  exact gW rfl (eN en) rfl rfl (by simp only [e0] <;> rfl)
 ·cases h)
theorem ale(xs ys:List (Int×Int))(hn:leN xs.length 9223372036854775807=true):Jv xs ys=acA xs ys∧Jw xs ys=true:=by
 have hn:=eP.1 hn
 unfold acA
 have h3: ∀ a b:Int×Int,(!Ho a.1 a.2 b.1 b.2)= !decide (a=b):=fun a b=>by
  obtain⟨a1,a2⟩:=a;obtain⟨b1,b2⟩:=b
  simp only [Ho,Prod.mk.injEq]
  by_cases h1:a1=b1 <;> by_cases h2:a2=b2 <;> simp [h1,h2]
 by_cases hl:ys.length=xs.length
 ·obtain⟨w1,w2⟩:=acg xs ys hn hl
  have ha:=aah (d:=((0:Int),(0:Int))) hl (P:=fun b=> !decide (Option.getD xs[b]? (0,0)=Option.getD ys[b]? (0,0))) (fun b=>rfl)
  rw [iq (P:=fun b=> !decide (Option.getD xs[b]? (0,0)=Option.getD ys[b]? (0,0))) (j:=0) (fun b=>by simp only [uW,h3]),ha]at w2
  simp only [HG,HH,Jv,Jw,w1,w2,allT]
  by_cases he:xs=ys
  ·subst he;simp;decide
  ·simp [he,hl]
 ·have hne:xs≠ys:=fun h=>hl (by rw [h])
  simp [HG,HH,Jv,Jw,allT,hne]
  omega
def Wl:List SV→List Entry→Option Out
 | [.one ⟨false,[.ref 0]⟩,.one ⟨false,[.ref 1]⟩],[.row false 173 (.pair (.int .i64) (.int .i64)) x0,.row false 173 (.pair (.int .i64) (.int .i64)) x1]=>some ⟨(.one ⟨false,[(.val (.bool (acA x0 x1)))]⟩),[(.row false 173 amT x0),(.row false 173 amT x1)],[],[leN x0.length 9223372036854775807]⟩
 |_,_=>none
def OR:PF Tryz.prog:=PF.alt ae5 Wl (by
 intro args es o h hnd;unfold Wl at h;split at h
 ·rename_i x0 x1
  cases h
  have hnd:=eD hnd
  have hh:=ale x0 x1 hnd
  obtain⟨e0,en⟩:=hh
  exact gW rfl (eN en) (by simp only [e0] <;> rfl) rfl rfl
 ·cases h)
def qP(y1:List (Int×Int))(b:Nat):(List (Int×Int))→Nat ⊕ (List (Int×Int))
 |y2=>(.inr (List.set y2 b ((Option.getD y1[b]? ((0:Int),(0:Int))).1,(Option.getD y1[b]? ((0:Int),(0:Int))).2)))
def nv(y1:List (Int×Int))(i:Nat):(List (Int×Int))→jV
 |y2=>((i:Int),y1,y2)
def Ii:jV→List (Int×Int)
 |(_,_,y2)=>y2
theorem ach(y1 y2:List (Int×Int))(hn:y1.length≤9223372036854775807)(hl:y2.length=y1.length):
  fy.fin ((0:Int),y1,y2)=true∧fy.res ((0:Int),y1,y2)=((aq (qP y1) 0 (List.range y1.length) 0 y2).1,(nv y1) (aq (qP y1) 0 (List.range y1.length) 0 y2).2.1 (aq (qP y1) 0 (List.range y1.length) 0 y2).2.2):=by
 have key:=fy.along (nv y1) Ii (qP y1) 0 (fun _ a=>a.length=y1.length) (List.range y1.length) y2 hl (by simp only [fy,nv,List.length_range];omega) (fun i b a hb hI=> ?_) (fun a hI=> ?_)
 ·exact key
 ·obtain y2:=a
  obtain⟨rfl,hlt⟩:=gV hb
  have hw:IntKind.i64.wrap ((b:Int) + 1)=((b + 1:Nat):Int):=by rw [bp (by omega) (by omega)];omega
  have hdec:ltI (b:Int) (y1.length:Int)=true:=db (by omega)
  have hnn:leI (0:Int) (b:Int)=true:=bZ (by omega)
  have hltd:ltN b y1.length=true:=dK (by omega)
  refine⟨?_,?_,?_,?_⟩
  ·simp [sZ,u9,va,zx,zy,zA,zB,zC,xY,fy,LT.nds,allT,nv,hdec,hnn,hltd,hI]
  ·simp [sZ,u9,va,zx,zy,zA,zB,zC,xY,fy,LT.each,nv,Ii,hw,hI]
  ·simp only [sZ,u9,va,zx,zy,zA,zB,zC,xY,fy,LT.fn,nv,Ii,qP,Int.toNat_natCast,hdec,cond_true]
  ·intro a' hf;simp only [qP,Sum.inr.injEq]at hf;subst hf;simpa using hI
 ·obtain y2:=a
  simp [sZ,u9,va,zx,zy,zA,zB,zC,xY,fy,LT.out,nv,List.length_range]
def uV(y1 y2:List (Int×Int))(b:Nat):(Unit)→Nat ⊕ (Unit)
 |_=>(bif(!Hn ((Option.getD y1[b]? ((0:Int),(0:Int))).1) ((Option.getD y1[b]? ((0:Int),(0:Int))).2) ((Option.getD y2[b]? ((0:Int),(0:Int))).1) ((Option.getD y2[b]? ((0:Int),(0:Int))).2))then(.inl 0)else(.inr ()))
def p7(y1 y2:List (Int×Int))(i:Nat):(Unit)→jT
 |_=>((i:Int),y1,y2)
def Ig:jT→Unit
 |(_,_,_)=>()
theorem acf(y1 y2:List (Int×Int)) (hn:y1.length≤9223372036854775807) (he:y2.length=y1.length):
  d9.fin ((0:Int),y1,y2)=true∧d9.res ((0:Int),y1,y2)=((aq (uV y1 y2) 1 (List.range y1.length) 0 ()).1,(p7 y1 y2) (aq (uV y1 y2) 1 (List.range y1.length) 0 ()).2.1 (aq (uV y1 y2) 1 (List.range y1.length) 0 ()).2.2):=by
 have key:=d9.along (p7 y1 y2) Ig (uV y1 y2) 1 (fun _ _=>True) (List.range y1.length) () (by trivial) (by simp only [d9,p7,List.length_range];omega) (fun i b a hb hI=> ?_) (fun a hI=> ?_)
 ·exact key
 ·obtain⟨⟩:=a
  obtain⟨rfl,hlt⟩:=gV hb
  have hw:IntKind.i64.wrap ((b:Int) + 1)=((b + 1:Nat):Int):=by rw [bp (by omega) (by omega)];omega
  have hdec:ltI (b:Int) (y1.length:Int)=true:=db (by omega)
  have hnn:leI (0:Int) (b:Int)=true:=bZ (by omega)
  have hltd:ltN b y1.length=true:=dK (by omega)
  refine⟨?_,?_,?_,?_⟩
  ·simp [sT,sU,u4,u5,zj,zk,zl,zm,zn,xW,d9,LT.nds,allT,p7,hdec,hnn,hltd,he]
  ·simp [sT,sU,u4,u5,zj,zk,zl,zm,zn,xW,d9,LT.each,p7,Ig,hw,he]
  ·simp only [sT,sU,u4,u5,zj,zk,zl,zm,zn,xW,d9,LT.fn,p7,Ig,uV,Int.toNat_natCast,hdec,cond_true]
  ·exact fun _ _=>trivial
 ·obtain⟨⟩:=a
  simp [sT,sU,u4,u5,zj,zk,zl,zm,zn,xW,d9,LT.out,p7,List.length_range]
theorem alL(xs:List (Int×Int))(hn:leN xs.length 1048576=true):JC xs=xs∧JD xs=true:=by
 have hn:=eP.1 hn
 have hr:(List.replicate (Int.toNat (xs.length:Int)) ((0:Int),(0:Int))).length=xs.length:=by simp
 obtain⟨w1,w2⟩:=ach xs (List.replicate (Int.toNat (xs.length:Int)) ((0:Int),(0:Int))) (by omega) hr
 have hc:=Gy (xs:=xs) (d:=((0:Int),(0:Int))) (g:=fun x=>x) (f:=qP xs) (e:=0) (fun b a=>rfl) hr
 rw [hc]at w2
 refine⟨?_,?_⟩
 ·simp only [HK,JC,JD,w2,nv];simp
 ·simp only [HK,JC,JD,w1,allT];simp;omega
def Wm:List SV→List Entry→Option Out
 | [.one ⟨false,[.ref 0]⟩],[.row false 212 (.pair (.int .i64) (.int .i64)) x0]=>some ⟨(.one ⟨false,[(.ref 1)]⟩),[(.row false 212 amT x0)],[(.row true 176 amT x0)],[leN x0.length 1048576]⟩
 |_,_=>none
def OS:PF Tryz.prog:=PF.alt ae6 Wm (by
 intro args es o h hnd;unfold Wm at h;split at h
 ·rename_i x0
  cases h
  have hnd:=eD hnd
  have hh:=alL x0 hnd
  obtain⟨e0,en⟩:=hh
  exact gW rfl (eN en) rfl rfl (by simp only [e0] <;> rfl)
 ·cases h)
theorem alc(xs ys:List (Int×Int))(hn:leN xs.length 9223372036854775807=true):Jt xs ys=acA xs ys∧Ju xs ys=true:=by
 have hn:=eP.1 hn
 unfold acA
 have h3: ∀ a b:Int×Int,(!Hn a.1 a.2 b.1 b.2)= !decide (a=b):=fun a b=>by
  obtain⟨a1,a2⟩:=a;obtain⟨b1,b2⟩:=b
  simp only [Hn,Prod.mk.injEq]
  by_cases h1:a1=b1 <;> by_cases h2:a2=b2 <;> simp [h1,h2]
 by_cases hl:ys.length=xs.length
 ·obtain⟨w1,w2⟩:=acf xs ys hn hl
  have ha:=aah (d:=((0:Int),(0:Int))) hl (P:=fun b=> !decide (Option.getD xs[b]? (0,0)=Option.getD ys[b]? (0,0))) (fun b=>rfl)
  rw [iq (P:=fun b=> !decide (Option.getD xs[b]? (0,0)=Option.getD ys[b]? (0,0))) (j:=0) (fun b=>by simp only [uV,h3]),ha]at w2
  simp only [HE,HF,Jt,Ju,w1,w2,allT]
  by_cases he:xs=ys
  ·subst he;simp;decide
  ·simp [he,hl]
 ·have hne:xs≠ys:=fun h=>hl (by rw [h])
  simp [HE,HF,Jt,Ju,allT,hne]
  omega
def Wk:List SV→List Entry→Option Out
 | [.one ⟨false,[.ref 0]⟩,.one ⟨false,[.ref 1]⟩],[.row false 176 (.pair (.int .i64) (.int .i64)) x0,.row false 176 (.pair (.int .i64) (.int .i64)) x1]=>some ⟨(.one ⟨false,[(.val (.bool (acA x0 x1)))]⟩),[(.row false 176 amT x0),(.row false 176 amT x1)],[],[leN x0.length 9223372036854775807]⟩
 |_,_=>none
def OQ:PF Tryz.prog:=PF.alt ae4 Wk (by
 intro args es o h hnd;unfold Wk at h;split at h
 ·rename_i x0 x1
  cases h
  have hnd:=eD hnd
  have hh:=alc x0 x1 hnd
  obtain⟨e0,en⟩:=hh
  exact gW rfl (eN en) (by simp only [e0] <;> rfl) rfl rfl
 ·cases h)
def acb(m:Nat)(rs:List (List Int)):Bool:=leN rs.length m&&rs.all fun x=>leN x.length m
def agK(xs ys:List (List Int)):Bool:=decide (xs=ys)
theorem aaH{m:Nat}{rs:List (List Int)}:acb m rs=true↔rs.length≤m∧ ∀ x∈rs,x.length≤m:=by
 simp only [acb,Bool.and_eq_true,eP,List.all_eq_true]
def ox(y1:List (List Int))(b:Nat):(List (List Int))→Nat ⊕ (List (List Int))
 |y2=>(.inr (List.set y2 b (Option.getD y1[b]? (vD (CTy.sl (2:TypeId) amU)))))
def ku(y1:List (List Int))(i:Nat):(List (List Int))→iw
 |y2=>((i:Int),y1,y2)
def FH:iw→List (List Int)
 |(_,_,y2)=>y2
theorem YM(y1 y2:List (List Int))(hn:y1.length≤9223372036854775807)(hl:y2.length=y1.length)(hA: ∀ x∈y1,x.length≤1048576):
  dz.fin ((0:Int),y1,y2)=true∧dz.res ((0:Int),y1,y2)=((aq (ox y1) 0 (List.range y1.length) 0 y2).1,(ku y1) (aq (ox y1) 0 (List.range y1.length) 0 y2).2.1 (aq (ox y1) 0 (List.range y1.length) 0 y2).2.2):=by
 have key:=dz.along (ku y1) FH (ox y1) 0 (fun _ a=>a.length=y1.length) (List.range y1.length) y2 hl (by simp only [dz,ku,List.length_range];omega) (fun i b a hb hI=> ?_) (fun a hI=> ?_)
 ·exact key
 ·obtain y2:=a
  obtain⟨rfl,hlt⟩:=gV hb
  have hw:IntKind.i64.wrap ((b:Int) + 1)=((b + 1:Nat):Int):=by rw [bp (by omega) (by omega)];omega
  have hdec:ltI (b:Int) (y1.length:Int)=true:=db (by omega)
  have hnn:leI (0:Int) (b:Int)=true:=bZ (by omega)
  have hltd:ltN b y1.length=true:=dK (by omega)
  refine⟨?_,?_,?_,?_⟩
  ·have hI2:a.length=y1.length:=hI
   have h6:leN (m7 (b:Int) y1).length 1048576=true:=hY (by
    simp only [m7,Int.toNat_natCast]
    cases hq:y1[b]? with
    |none=>exact Nat.zero_le _
    |some x=>exact hA x (List.mem_of_getElem? hq))
   simp [rO,rP,vN,vO,vP,vQ,ug,dz,LT.nds,allT,ku,hdec,hnn,hltd,hI2,h6]
  ·simp [m7,rO,rP,vN,vO,vP,vQ,Bs,Bt,ug,dz,LT.each,ku,FH,hw]
  ·simp only [m7,rO,rP,vN,vO,vP,vQ,Bs,Bt,ug,dz,LT.fn,ku,FH,ox,Int.toNat_natCast,hdec,cond_true]
  ·intro a' hf;simp only [ox,Sum.inr.injEq]at hf;subst hf;simpa using hI
 ·obtain y2:=a
  simp [m7,rO,rP,vN,vO,vP,vQ,Bs,Bt,ug,dz,LT.out,ku,List.length_range]
theorem alM(xs:List (List Int))(h:acb 1048576 xs=true):Ly xs=xs∧Lz xs=true:=by
 obtain⟨hn,hA⟩:=aaH.1 h
 have hr:(List.replicate (Int.toNat (xs.length:Int)) ([]:List Int)).length=xs.length:=by simp
 obtain⟨w1,w2⟩:=YM xs (List.replicate (Int.toNat (xs.length:Int)) []) (by omega) hr hA
 have hc:=Gy (xs:=xs) (d:=([]:List Int)) (g:=fun x=>x) (f:=ox xs) (e:=0) (fun b a=>rfl) hr
 rw [hc]at w2
 refine⟨?_,?_⟩
 ·simp only [Ly,EW,w2,ku];simp
 ·simp only [Lz,EW,w1,allT];simp;omega
def Sp:List SV→List Entry→Option Out
 | [.one ⟨false,[.ref 0]⟩],[.row false 24 (.sl 2 (.int .i64)) x0]=>some ⟨(.one ⟨false,[(.ref 1)]⟩),[(.row false 24 (CTy.sl (2:TypeId) amU) x0)],[(.tree 24 (CTy.sl (2:Nat) amU) x0 none)],[acb 1048576 x0]⟩
 |_,_=>none
def LK:PF Tryz.prog:=PF.alt ac7 Sp (by
 intro args es o h hnd;unfold Sp at h;split at h
 ·rename_i x0
  cases h
  have hnd:=eD hnd
  have hh:=alM x0 hnd
  obtain⟨e0,en⟩:=hh
  exact gW rfl (eN en) rfl rfl (by simp only [e0] <;> rfl)
 ·cases h)
def vE(y1 y2:List (List Int))(b:Nat):(Unit)→Nat ⊕ (Unit)
 |_=>(bif(!eqL (Option.getD y1[b]? (vD (CTy.sl (2:TypeId) amU))) (Option.getD y2[b]? (vD (CTy.sl (2:TypeId) amU))))then(.inl 0)else(.inr ()))
def nu(y1 y2:List (List Int))(i:Nat):(Unit)→iu
 |_=>((i:Int),y1,y2)
def FF:iu→Unit
 |(_,_,_)=>()
theorem YK(y1 y2:List (List Int)) (hn:y1.length≤9223372036854775807) (he:y2.length=y1.length) (hA: ∀ x∈y1,x.length≤9223372036854775807):
  cU.fin ((0:Int),y1,y2)=true∧cU.res ((0:Int),y1,y2)=((aq (vE y1 y2) 1 (List.range y1.length) 0 ()).1,(nu y1 y2) (aq (vE y1 y2) 1 (List.range y1.length) 0 ()).2.1 (aq (vE y1 y2) 1 (List.range y1.length) 0 ()).2.2):=by
 have key:=cU.along (nu y1 y2) FF (vE y1 y2) 1 (fun _ _=>True) (List.range y1.length) () (by trivial) (by simp only [cU,nu,List.length_range];omega) (fun i b a hb hI=> ?_) (fun a hI=> ?_)
 ·exact key
 ·obtain⟨⟩:=a
  obtain⟨rfl,hlt⟩:=gV hb
  have hw:IntKind.i64.wrap ((b:Int) + 1)=((b + 1:Nat):Int):=by rw [bp (by omega) (by omega)];omega
  have hdec:ltI (b:Int) (y1.length:Int)=true:=db (by omega)
  have hnn:leI (0:Int) (b:Int)=true:=bZ (by omega)
  have hltd:ltN b y1.length=true:=dK (by omega)
  refine⟨?_,?_,?_,?_⟩
  ·have h6:leN (m6 (b:Int) y1).length 9223372036854775807=true:=hY (by
    simp only [m6,Int.toNat_natCast]
    cases hq:y1[b]? with
    |none=>exact Nat.zero_le _
    |some x=>exact hA x (List.mem_of_getElem? hq))
   simp [rJ,rK,vI,vJ,vK,vL,ue,cU,LT.nds,allT,nu,hdec,hnn,hltd,he,h6]
  ·simp [m6,rJ,rK,vI,vJ,vK,vL,Bh,Bi,ue,cU,LT.each,nu,FF,hw]
  ·simp only [m6,rJ,rK,vI,vJ,vK,vL,Bh,Bi,ue,cU,LT.fn,nu,FF,vE,Int.toNat_natCast,hdec,cond_true]
  ·exact fun _ _=>trivial
 ·obtain⟨⟩:=a
  simp [m6,rJ,rK,vI,vJ,vK,vL,Bh,Bi,ue,cU,LT.out,nu,List.length_range]
theorem ald(xs ys:List (List Int))(h:acb 9223372036854775807 xs=true):Gq xs ys=agK xs ys∧Gr xs ys=true:=by
 obtain⟨hn,hA⟩:=aaH.1 h
 unfold agK
 by_cases hl:ys.length=xs.length
 ·obtain⟨w1,w2⟩:=YK xs ys hn hl hA
  have ha:=aah (d:=([]:List Int)) hl (P:=fun b=> !decide (Option.getD xs[b]? []=Option.getD ys[b]? [])) (fun b=>rfl)
  rw [iq (P:=fun b=> !decide (Option.getD xs[b]? []=Option.getD ys[b]? [])) (j:=0) (fun b=>rfl),ha]at w2
  simp only [Gq,Gr,EU,Js,w1,w2,allT]
  by_cases he:xs=ys
  ·subst he;simp;decide
  ·simp [he,hl]
 ·have hne:xs≠ys:=fun h=>hl (by rw [h])
  simp [Gq,Gr,EU,allT,hne]
  omega
def Sl:List SV→List Entry→Option Out
 | [.one ⟨false,[.ref 0]⟩,.one ⟨false,[.ref 1]⟩],[.row false 24 (.sl 2 (.int .i64)) x0,.row false 24 (.sl 2 (.int .i64)) x1]=>some ⟨(.one ⟨false,[(.val (.bool (agK x0 x1)))]⟩),[(.row false 24 (CTy.sl (2:TypeId) amU) x0),(.row false 24 (CTy.sl (2:TypeId) amU) x1)],[],[acb 9223372036854775807 x0]⟩
 |_,_=>none
def LF:PF Tryz.prog:=PF.alt ac2 Sl (by
 intro args es o h hnd;unfold Sl at h;split at h
 ·rename_i x0 x1
  cases h
  have hnd:=eD hnd
  have hh:=ald x0 x1 hnd
  obtain⟨e0,en⟩:=hh
  exact gW rfl (eN en) (by simp only [e0] <;> rfl) rfl rfl
 ·cases h)
def szL:Int→List (List Int)→Option Int
 |k,[]=>some k
 |k,x::r=>bif ltI (szV k x) 0 then none else szL (szV k x) r
def ID(k:Int)(rs:List (List Int)):Int:=bif ltI (k - (rs.length:Int)) 0 then -1 else(szL (k - (rs.length:Int)) rs).getD (-1)
theorem akY{k:Int}{x:List Int}(h:ltI (szV k x) 0=false):(x.length:Int)≤k∧szV k x=k - x.length:=by
 unfold szV at h ⊢
 cases hq:ltI (k - (x.length:Int)) 0 with
 |true=>rw [hq]at h;cases h
 |false=>have:=Bx.1 hq;exact⟨by omega,rfl⟩
def iz(b:List Int):(Int)→Nat ⊕ (Int)
 |y1=>(bif(ltI (szV y1 b) (0:Int))then(.inl 0)else(.inr (szV y1 b)))
def kt(y2:List (List Int))(i:Nat):(Int)→iv
 |y1=>((i:Int),y1,y2)
def FG:iv→Int
 |(_,y1,_)=>y1
theorem YL(y2:List (List Int))(y1:Int)(hn:y2.length≤9223372036854775807)(hA: ∀ x∈y2,x.length≤9223372036854775807)(hk:0≤y1∧y1≤1048576):
  cf.fin ((0:Int),y1,y2)=true∧cf.res ((0:Int),y1,y2)=((aq (iz) 1 y2 0 y1).1,(kt y2) (aq (iz) 1 y2 0 y1).2.1 (aq (iz) 1 y2 0 y1).2.2):=by
 have key:=cf.along (kt y2) FG (iz) 1 (fun _ a=>0≤a∧a≤1048576) y2 y1 hk (by simp only [cf,kt];omega) (fun i b a hb hI=> ?_) (fun a hI=> ?_)
 ·exact key
 ·obtain y1:=a
  have hlt:=(List.getElem?_eq_some_iff.1 hb).1
  have hget: ∀ d,Option.getD y2[i]? d=b:=fun d=>by rw [hb];rfl
  have hw:=qG hlt hn
  have hdec:ltI (i:Int) (y2.length:Int)=true:=db (by omega)
  have hnn:leI (0:Int) (i:Int)=true:=bZ (by omega)
  have hltd:ltN i y2.length=true:=dK hlt
  refine⟨?_,?_,?_,?_⟩
  ·have hg2:iQ (i:Int) y2=b:=by simp only [iQ,Int.toNat_natCast];exact hget _
   have h6:leN b.length 9223372036854775807=true:=hY (hA b (List.mem_of_getElem? hb))
   have h7:leI (-1) a=true:=bZ (by have:=hI.1;omega)
   have h8:leI a 1048576=true:=bZ hI.2
   simp [rL,Bn,Bo,Bp,uf,cf,LT.nds,allT,kt,hdec,hnn,hltd,hg2,h6,h7,h8]
  ·simp [iQ,rL,Bn,Bo,Bp,Bq,vM,GG,Br,uf,cf,LT.each,kt,FG,hw]
  ·have hg2:iQ (i:Int) y2=b:=by simp only [iQ,Int.toNat_natCast];exact hget _
   simp only [rL,Bq,Br,uf,cf,LT.fn,kt,FG,iz,Int.toNat_natCast,hdec,hg2,cond_true]
  ·intro a' hf;simp only [iz]at hf;cases hz:ltI (szV a b) 0 <;> rw [hz]at hf <;> simp at hf;subst hf;have:=akY hz;have:=hI.1;have:=hI.2;omega
 ·obtain y1:=a
  simp [iQ,rL,Bn,Bo,Bp,Bq,vM,GG,Br,uf,cf,LT.out,kt]
theorem ajG: ∀ (rs:List (List Int)) (i:Nat) (k:Int),∃ m,aq iz 1 rs i k=(match szL k rs with | some v=>1 | none=>0,m,(aq iz 1 rs i k).2.2)∧ ∀ v,szL k rs=some v→(aq iz 1 rs i k).2.2=v
 | [],i,k=>⟨i,rfl,fun v h=>by simp [szL]at h;simp [aq,h]⟩
 |x::r,i,k=>by
  simp only [aq,iz,szL]
  cases hz:ltI (szV k x) 0 with
  |true=>exact⟨i,rfl,fun v h=>by cases h⟩
  |false=>exact ajG r (i + 1) (szV k x)
theorem alJ(k:Int)(rs:List (List Int))(h:(acb 9223372036854775807 rs&&(leI (-1) k&&leI k 1048576))=true):Lt k rs=ID k rs∧Lu k rs=true:=by
 simp only [Bool.and_eq_true,JH]at h
 obtain⟨hs,h1,h2⟩:=h
 obtain⟨hn,hA⟩:=aaH.1 hs
 have e0:zv k rs=k - (rs.length:Int):=by simp only [zv];rw [bp (by omega) (by omega)]
 simp only [Lt,Lu,EV,e0,ID]
 cases hz:ltI (k - (rs.length:Int)) 0 with
 |true=>simp [allT]
 |false=>
  have:=Bx.1 hz
  obtain⟨w1,w2⟩:=YL rs (k - (rs.length:Int)) (by omega) hA ⟨by omega,by omega⟩
  obtain⟨m,e,hv⟩:=ajG rs 0 (k - (rs.length:Int))
  rw [w1,w2,e]
  cases hq:szL (k - (rs.length:Int)) rs with
  |none=>simp [allT,Nat.beq,vM]
  |some v=>have:=hv v hq;simp [allT,Nat.beq,kt,this]
def Sn:List SV→List Entry→Option Out
 | [.one ⟨false,[.ref 0]⟩,.one ⟨false,[.val (.int .i64 x0)]⟩],[.row false 24 (.sl 2 (.int .i64)) x1]=>some ⟨(.one ⟨false,[(.val (.int .i64 (ID x0 x1)))]⟩),[(.row false 24 (CTy.sl (2:TypeId) amU) x1)],[],[acb 9223372036854775807 x1&&(leI (-1) x0&&leI x0 1048576)]⟩
 |_,_=>none
def LH:PF Tryz.prog:=PF.alt ac4 Sn (by
 intro args es o h hnd;unfold Sn at h;split at h
 ·rename_i x0 x1
  cases h
  have hnd:=eD hnd
  have hh:=alJ x0 x1 hnd
  obtain⟨e0,en⟩:=hh
  exact gW rfl (eN en) (by simp only [e0] <;> rfl) rfl rfl
 ·cases h)
theorem agy: ∀ (rs:List (List Int)) (k v:Int),szL k rs=some v→0≤k→(∀ x∈rs,(x.length:Int)≤k)∧0≤v∧v≤k
 | [],k,v,h,h0=>by simp [szL]at h;subst h;exact⟨by simp,h0,by omega⟩
 |x::r,k,v,h,h0=>by
  simp only [szL]at h
  cases hz:ltI (szV k x) 0 with
  |true=>rw [hz]at h;cases h
  |false=>
   rw [hz,cond_false]at h
   obtain⟨a1,a2⟩:=akY hz
   rw [a2]at h
   obtain⟨b1,b2,b3⟩:=agy r _ v h (by omega)
   refine⟨fun y hy=> ?_,b2,by omega⟩
   rcases List.mem_cons.1 hy with rfl | hy
   ·exact a1
   ·have:=b1 y hy;omega
theorem afr{k:Int}{rs:List (List Int)}(hk:k≤1048576)(h:ltI (ID k rs) 0=false):acb 1048576 rs=true∧0≤ID k rs∧ID k rs≤k:=by
 have h0:=Bx.1 h
 unfold ID at h0 ⊢
 cases hz:ltI (k - (rs.length:Int)) 0 with
 |true=>rw [hz]at h0;simp at h0
 |false=>
  have:=Bx.1 hz
  rw [hz,cond_false]at h0
  cases hq:szL (k - (rs.length:Int)) rs with
  |none=>rw [hq]at h0;simp at h0
  |some v=>
   obtain⟨b1,b2,b3⟩:=agy rs _ v hq (by omega)
   refine⟨aaH.2 ⟨by omega,fun x hx=>by have:=b1 x hx;omega⟩,?_,?_⟩
   ·simpa using b2
   ·simp;omega
def mH(b:Int):(Unit)→Nat ⊕ (Unit)
 |_=>(bif(!aJ b (0:Int) (2:Int))then(.inl 0)else(.inr ()))
def je(y1:List Int)(i:Nat):(Unit)→eO
 |_=>((i:Int),y1)
def AF:eO→Unit
 |(_,_)=>()
theorem Tp(y1:List Int) (hn:y1.length≤9223372036854775807):
  bH.fin ((0:Int),y1)=true∧bH.res ((0:Int),y1)=((aq (mH) 1 y1 0 ()).1,(je y1) (aq (mH) 1 y1 0 ()).2.1 (aq (mH) 1 y1 0 ()).2.2):=by
 have key:=bH.along (je y1) AF (mH) 1 (fun _ _=>True) y1 () (by trivial) (by simp only [bH,je];omega) (fun i b a hb hI=> ?_) (fun a hI=> ?_)
 ·exact key
 ·obtain⟨⟩:=a
  have hlt:=(List.getElem?_eq_some_iff.1 hb).1
  have hget: ∀ d,Option.getD y1[i]? d=b:=fun d=>by rw [hb];rfl
  have hw:=qG hlt hn
  have hdec:ltI (i:Int) (y1.length:Int)=true:=db (by omega)
  have hnn:leI (0:Int) (i:Int)=true:=bZ (by omega)
  have hltd:ltN i y1.length=true:=dK hlt
  refine⟨?_,?_,?_,?_⟩
  ·simp [mL,qk,ql,qm,qn,pB,bH,LT.nds,allT,je,hdec,hnn,hltd,hget]
  ·simp [mL,qk,ql,qm,qn,pB,bH,LT.each,je,AF,hw]
  ·simp only [mL,qk,ql,qm,qn,pB,bH,LT.fn,je,AF,mH,Int.toNat_natCast,hdec,hnn,hltd,hget,cond_true,Bool.cond_self]
  ·exact fun _ _=>trivial
 ·obtain⟨⟩:=a
  simp [mL,qk,ql,qm,qn,pB,bH,LT.out,je]
def dd(b:Int):(Unit)→Nat ⊕ (Unit)
 |_=>(bif(pE b)then(.inl 0)else(.inr ()))
def bD(y2:List Int)(i:Nat):(Unit)→aX
 |_=>((i:Int),(↑y2.length:Int),y2)
def lT:aX→Unit
 |(_,_,_)=>()
theorem Fi(y2:List Int) (hn:y2.length≤9223372036854775807):
  ao.fin ((0:Int),(↑y2.length:Int),y2)=true∧ao.res ((0:Int),(↑y2.length:Int),y2)=((aq (dd) 1 y2 0 ()).1,(bD y2) (aq (dd) 1 y2 0 ()).2.1 (aq (dd) 1 y2 0 ()).2.2):=by
 have key:=ao.along (bD y2) lT (dd) 1 (fun _ _=>True) y2 () (by trivial) (by simp only [ao,bD];omega) (fun i b a hb hI=> ?_) (fun a hI=> ?_)
 ·exact key
 ·obtain⟨⟩:=a
  have hlt:=(List.getElem?_eq_some_iff.1 hb).1
  have hget: ∀ d,Option.getD y2[i]? d=b:=fun d=>by rw [hb];rfl
  have hw:=qG hlt hn
  have hdec:ltI (i:Int) (y2.length:Int)=true:=db (by omega)
  have hnn:leI (0:Int) (i:Int)=true:=bZ (by omega)
  have hltd:ltN i y2.length=true:=dK hlt
  refine⟨?_,?_,?_,?_⟩
  ·simp [fG,fH,fI,fJ,fK,fL,fg,ao,LT.nds,allT,bD,hdec,hnn,hltd,hget]
  ·simp [fG,fH,fI,fJ,fK,fL,fg,ao,LT.each,bD,lT,hw]
  ·simp only [fG,fH,fI,fJ,fK,fL,fg,ao,LT.fn,bD,lT,dd,Int.toNat_natCast,hdec,hnn,hltd,hget,cond_true,Bool.cond_self]
  ·exact fun _ _=>trivial
 ·obtain⟨⟩:=a
  simp [fG,fH,fI,fJ,fK,fL,fg,ao,LT.out,bD]
def wv(b:Int×Int):(Unit)→Nat ⊕ (Unit)
 |_=>(bif(bif(!aJ b.1 (1:Int) (366:Int))then true else !aJ b.2 (0:Int) (100000:Int))then(.inl 0)else(.inr ()))
def rC(y1:List (Int×Int))(i:Nat):(Unit)→kU
 |_=>((i:Int),y1)
def JW:kU→Unit
 |(_,_)=>()
theorem adm(y1:List (Int×Int)) (hn:y1.length≤9223372036854775807):
  fo.fin ((0:Int),y1)=true∧fo.res ((0:Int),y1)=((aq (wv) 1 y1 0 ()).1,(rC y1) (aq (wv) 1 y1 0 ()).2.1 (aq (wv) 1 y1 0 ()).2.2):=by
 have key:=fo.along (rC y1) JW (wv) 1 (fun _ _=>True) y1 () (by trivial) (by simp only [fo,rC];omega) (fun i b a hb hI=> ?_) (fun a hI=> ?_)
 ·exact key
 ·obtain⟨⟩:=a
  have hlt:=(List.getElem?_eq_some_iff.1 hb).1
  have hget: ∀ d,Option.getD y1[i]? d=b:=fun d=>by rw [hb];rfl
  have hw:=qG hlt hn
  have hdec:ltI (i:Int) (y1.length:Int)=true:=db (by omega)
  have hnn:leI (0:Int) (i:Int)=true:=bZ (by omega)
  have hltd:ltN i y1.length=true:=dK hlt
  refine⟨?_,?_,?_,?_⟩
  ·simp [vd,oQ,wH,BS,BT,BU,BV,BW,BX,BZ,zK,fo,LT.nds,allT,rC,hdec,hnn,hltd,hget]
  ·simp [vd,oQ,wH,BS,BT,BU,BV,BW,BX,BZ,zK,fo,LT.each,rC,JW,hw]
  ·simp only [vd,oQ,wH,BS,BT,BU,BV,BW,BX,BZ,zK,fo,LT.fn,rC,JW,wv,Int.toNat_natCast,hdec,hnn,hltd,hget,cond_true,Bool.cond_self]
  ·exact fun _ _=>trivial
 ·obtain⟨⟩:=a
  simp [vd,oQ,wH,BS,BT,BU,BV,BW,BX,BZ,zK,fo,LT.out,rC]
def dO(b:Int×Int):(Unit)→Nat ⊕ (Unit)
 |_=>(bif(yI b.1 b.2)then(.inl 0)else(.inr ()))
def bI(y2:List (Int×Int))(i:Nat):(Unit)→be
 |_=>((i:Int),(↑y2.length:Int),y2)
def na:be→Unit
 |(_,_,_)=>()
theorem Gx(y2:List (Int×Int)) (hn:y2.length≤9223372036854775807):
  au.fin ((0:Int),(↑y2.length:Int),y2)=true∧au.res ((0:Int),(↑y2.length:Int),y2)=((aq (dO) 1 y2 0 ()).1,(bI y2) (aq (dO) 1 y2 0 ()).2.1 (aq (dO) 1 y2 0 ()).2.2):=by
 have key:=au.along (bI y2) na (dO) 1 (fun _ _=>True) y2 () (by trivial) (by simp only [au,bI];omega) (fun i b a hb hI=> ?_) (fun a hI=> ?_)
 ·exact key
 ·obtain⟨⟩:=a
  have hlt:=(List.getElem?_eq_some_iff.1 hb).1
  have hget: ∀ d,Option.getD y2[i]? d=b:=fun d=>by rw [hb];rfl
  have hw:=qG hlt hn
  have hdec:ltI (i:Int) (y2.length:Int)=true:=db (by omega)
  have hnn:leI (0:Int) (i:Int)=true:=bZ (by omega)
  have hltd:ltN i y2.length=true:=dK hlt
  refine⟨?_,?_,?_,?_⟩
  ·simp [dI,gf,gg,gh,gi,gj,gk,f6,au,LT.nds,allT,bI,hdec,hnn,hltd,hget]
  ·simp [dI,gf,gg,gh,gi,gj,gk,f6,au,LT.each,bI,na,hw]
  ·simp only [dI,gf,gg,gh,gi,gj,gk,f6,au,LT.fn,bI,na,dO,Int.toNat_natCast,hdec,hnn,hltd,hget,cond_true,Bool.cond_self]
  ·exact fun _ _=>trivial
 ·obtain⟨⟩:=a
  simp [dI,gf,gg,gh,gi,gj,gk,f6,au,LT.out,bI]
theorem aej(n:Nat)(k:Int)(hk:0≤k):leI (n:Int) k=leN n k.toNat:=by
 rw [Bool.eq_iff_iff,JH,eP];omega
theorem aic(st:List Int)(hn:leN st.length 9223372036854775807=true):FS st=areR st∧FT st=true:=by
 obtain⟨w1,w2⟩:=Tp st (eP.1 hn)
 rw [iq (P:=fun v=> !inR v 0 2) (j:=0) (fun v=>by simp only [mH,aJ,rY])]at w2
 have e5:(st.any fun v=> !inR v 0 2)= !st.all fun v=>inR v 0 2:=by simp [List.all_eq_not_any_not]
 rw [e5]at w2
 simp only [FS,FT,w1,w2,allT,areR,aJ,rY]
 cases (st.all fun v=>inR v 0 2) <;> cases inR (st.length:Int) 1 12 <;> simp [Nat.beq]
theorem ahJ(st:List Int)(hn:leN st.length 9223372036854775807=true):FB st=areR st∧FC st=true:=by
 obtain⟨w1,w2⟩:=Fi st (eP.1 hn)
 rw [iq (P:=fun v=> !inR v 0 2) (j:=0) (fun v=>by simp only [dd,pE,aZ,rY])]at w2
 have e5:(st.any fun v=> !inR v 0 2)= !st.all fun v=>inR v 0 2:=by simp [List.all_eq_not_any_not]
 rw [e5]at w2
 simp only [FB,FC,mD,mE,oK,oL,jj,w1,w2,allT,areR,uZ,aZ,cJ,rY,bD]
 cases hr:inR (st.length:Int) 1 12 with
 |false=>simp
 |true=>
  cases (st.all fun v=>inR v 0 2)with
  |true=>
   have q:leI 0 (-1)=false:=rfl
   simp [Nat.beq,q]
  |false=>
   simp only [Bool.not_false,cond_true,Nat.beq,Bool.and_false]
   rw [bZ (by omega)];simp
theorem aib(pl:List (Int×Int))(hn:leN pl.length 9223372036854775807=true):Rw pl=okPl pl∧Rx pl=true:=by
 obtain⟨w1,w2⟩:=adm pl (eP.1 hn)
 rw [iq (P:=fun t=> !afg t) (j:=0) (fun t=>by simp only [wv,aJ,rY,afg];cases inR t.1 1 366 <;> rfl)]at w2
 have e5:(pl.any fun t=> !afg t)= !pl.all afg:=by simp [List.all_eq_not_any_not]
 rw [e5]at w2
 simp only [Rw,Rx,w1,w2,allT,okPl,aej pl.length 12 (by omega)]
 cases pl.all afg <;> simp [Nat.beq]
theorem ahI(pl:List (Int×Int))(hn:leN pl.length 9223372036854775807=true):QY pl=okPl pl∧QZ pl=true:=by
 obtain⟨w1,w2⟩:=Gx pl (eP.1 hn)
 rw [iq (P:=fun t=> !afg t) (j:=0) (fun t=>by simp only [dO,yI,tB,aZ,rY,afg];cases inR t.1 1 366 <;> rfl)]at w2
 have e5:(pl.any fun t=> !afg t)= !pl.all afg:=by simp [List.all_eq_not_any_not]
 rw [e5]at w2
 simp only [QY,QZ,OD,oa,oc,pU,pV,j0,w1,w2,allT,okPl,aej pl.length 12 (by omega),bI]
 cases hr:leN pl.length (Int.toNat 12)with
 |false=>
  simp at hr
  simp [hr]
  intro h;omega
 |true=>
  simp at hr
  cases pl.all afg with
  |true=>
   have q:leI 0 (-1)=false:=rfl
   simp [Nat.beq,hr,q]
  |false=>
   simp only [Bool.not_false,cond_true,Nat.beq,Bool.and_false]
   rw [bZ (by omega)];simp
def Mx:List SV→List Entry→Option Out
 | [.one ⟨false,[.ref 0]⟩],[.row false 2 (.int .i64) x0]=>some ⟨(.one ⟨false,[(.val (.bool (areR x0)))]⟩),[(.row false 2 amU x0)],[],[leN x0.length 9223372036854775807]⟩
 |_,_=>none
def iU:PF Tryz.prog:=PF.alt Xm Mx (by
 intro args es o h hnd;unfold Mx at h;split at h
 ·rename_i x0
  cases h
  have hnd:=eD hnd
  have hh:=aic x0 hnd
  obtain⟨e0,en⟩:=hh
  exact gW rfl (eN en) (by simp only [e0] <;> rfl) rfl rfl
 ·cases h)
def Mv:List SV→List Entry→Option Out
 | [.one ⟨false,[.ref 0]⟩],[.row false 2 (.int .i64) x0]=>some ⟨(.one ⟨false,[(.val (.bool (areR x0)))]⟩),[(.row false 2 amU x0)],[],[leN x0.length 9223372036854775807]⟩
 |_,_=>none
def qi:PF Tryz.prog:=PF.alt Xk Mv (by
 intro args es o h hnd;unfold Mv at h;split at h
 ·rename_i x0
  cases h
  have hnd:=eD hnd
  have hh:=ahJ x0 hnd
  obtain⟨e0,en⟩:=hh
  exact gW rfl (eN en) (by simp only [e0] <;> rfl) rfl rfl
 ·cases h)
def Zm:List SV→List Entry→Option Out
 | [.one ⟨false,[.ref 0]⟩],[.row false 173 (.pair (.int .i64) (.int .i64)) x0]=>some ⟨(.one ⟨false,[(.val (.bool (okPl x0)))]⟩),[(.row false 173 amT x0)],[],[leN x0.length 9223372036854775807]⟩
 |_,_=>none
def tE:PF Tryz.prog:=PF.alt afO Zm (by
 intro args es o h hnd;unfold Zm at h;split at h
 ·rename_i x0
  cases h
  have hnd:=eD hnd
  have hh:=aib x0 hnd
  obtain⟨e0,en⟩:=hh
  exact gW rfl (eN en) (by simp only [e0] <;> rfl) rfl rfl
 ·cases h)
def Zk:List SV→List Entry→Option Out
 | [.one ⟨false,[.ref 0]⟩],[.row false 173 (.pair (.int .i64) (.int .i64)) x0]=>some ⟨(.one ⟨false,[(.val (.bool (okPl x0)))]⟩),[(.row false 173 amT x0)],[],[leN x0.length 9223372036854775807]⟩
 |_,_=>none
def tD:PF Tryz.prog:=PF.alt afL Zk (by
 intro args es o h hnd;unfold Zk at h;split at h
 ·rename_i x0
  cases h
  have hnd:=eD hnd
  have hh:=ahI x0 hnd
  obtain⟨e0,en⟩:=hh
  exact gW rfl (eN en) (by simp only [e0] <;> rfl) rfl rfl
 ·cases h)
end Go.SX

namespace Go.SX
open Go.Proofs
set_option maxRecDepth 100000
theorem Lp.scan{X:Type}(p:Lp X)(st:Nat→X)(N:Nat)(P:Nat→Bool)(e:Nat)(hN:N≤p.fuel (st 0))
  (hs: ∀ b,b < N→(p.lt (st b)).nds=true∧(p.lt (st b)).each (fun y=>y=st (b + 1))∧(p.lt (st b)).fn (fun _=>())=(bif P b then .inl 0 else .inr ()))
  (he:(p.lt (st N)).out=some (.inl e)):p.fin (st 0)=true∧(p.res (st 0)).1=bif(List.range N).any P then 0 else e:=by
 have key:=p.along (fun i (_:Unit)=>st i) (fun _=>()) (fun(b:Nat) (_:Unit)=>bif P b then .inl 0 else .inr ()) e (fun _ _=>True) (List.range N) () trivial (by rw [List.length_range];exact hN)
  (fun i b a hb _=>by
   obtain⟨rfl,hlt⟩:=gV hb
   obtain⟨h1,h2,h3⟩:=hs b hlt
   exact⟨h1,h2,h3,fun _ _=>trivial⟩) (fun a _=>by rw [List.length_range];exact he)
 rw [iq (P:=P) (j:=0) (fun b=>rfl)]at key
 exact⟨key.1,by rw [key.2]⟩
def jE(y2:List (Int×(Int×Int)))(y3 y4:Int)(b:Nat):(Unit)→Nat ⊕ (Unit)
 |_=>(bif(bif((Option.getD y2[b]? ((0:Int),(0:Int),(0:Int))).1==y3)then ((Option.getD y2[b]? ((0:Int),(0:Int),(0:Int))).2).1==y4 else false)then(.inl 0)else(.inr ()))
def gH(y1:Int)(y2:List (Int×(Int×Int)))(y3 y4 y5:Int)(i:Nat):(Unit)→da
 |_=>((i:Int),y1,y2,y3,y4,y5)
def wn:da→Unit
 |(_,_,_,_,_,_)=>()
theorem PP(y1:Int)(y2:List (Int×(Int×Int)))(y3 y4 y5:Int) (hn:y1≤9223372036854775807) (hb:y1≤(y2.length:Int)):
  bn.fin ((0:Int),y1,y2,y3,y4,y5)=true∧bn.res ((0:Int),y1,y2,y3,y4,y5)=((aq (jE y2 y3 y4) 1 (List.range y1.toNat) 0 ()).1,(gH y1 y2 y3 y4 y5) (aq (jE y2 y3 y4) 1 (List.range y1.toNat) 0 ()).2.1 (aq (jE y2 y3 y4) 1 (List.range y1.toNat) 0 ()).2.2):=by
 have key:=bn.along (gH y1 y2 y3 y4 y5) wn (jE y2 y3 y4) 1 (fun _ _=>True) (List.range y1.toNat) () (by trivial) (by simp only [bn,gH,List.length_range];omega) (fun i b a hb hI=> ?_) (fun a hI=> ?_)
 ·exact key
 ·obtain⟨⟩:=a
  obtain⟨rfl,hlt⟩:=gV hb
  have hw:IntKind.i64.wrap ((b:Int) + 1)=((b + 1:Nat):Int):=by rw [bp (by omega) (by omega)];omega
  have hdec:ltI (b:Int) y1=true:=db (by omega)
  have hnn:leI (0:Int) (b:Int)=true:=bZ (by omega)
  refine⟨?_,?_,?_,?_⟩
  ·have h1:ltI (b:Int) (y2.length:Int)=true:=db (by omega)
   have h2:ltN b y2.length=true:=dK (by omega)
   simp [jl,fv,ng,nh,ni,nj,nk,nn,np,nq,nr,l4,bn,LT.nds,allT,gH,hdec,hnn,h1,h2]
  ·simp [jl,fv,ng,nh,ni,nj,nk,nn,np,nq,nr,l4,bn,LT.each,gH,wn,hw]
  ·simp only [jl,fv,ng,nh,ni,nj,nk,nn,np,nq,nr,l4,bn,LT.fn,gH,wn,jE,Int.toNat_natCast,hdec,hnn,cond_true,Bool.cond_self]
  ·exact fun _ _=>trivial
 ·obtain⟨⟩:=a
  simp only [jl,fv,ng,nh,ni,nj,nk,nn,np,nq,nr,l4,bn,LT.out,gH,List.length_range,SU,Xc,cond_false]
theorem aiQ(fs:List (Int×Int×Int))(b:Nat)(hb:b < fs.length)(hn:fs.length≤9223372036854775807):
  IV (b:Int) fs=true∧BR (b:Int) fs=aeA fs b:=by
 obtain⟨w1,w2⟩:=PP (b:Int) fs (fAt fs b).1 (fAt fs b).2.1 (fAt fs b).2.2 (by omega) (by omega)
 rw [iq (P:=fun j=>Oq (fAt fs b) (fs[j]?.getD (0,0,0))) (j:=0) (fun j=>by
  simp only [jE,Oq];cases (fs[j]?.getD (0,0,0)).1==(fAt fs b).1 <;> rfl),Int.toNat_natCast,ahm (by omega)]at w2
 refine⟨w1,?_⟩
 have e:AM (b:Int) fs=(0,(b:Int),fs,(fAt fs b).1,(fAt fs b).2.1,(fAt fs b).2.2):=rfl
 simp only [BR,e,w2,aeA]
 cases (fs.take b).any (Oq (fAt fs b)) <;> rfl
theorem akW(n:Int)(fs:List (Int×Int×Int))(b:Nat):BQ (b:Int) n fs=aaq n fs b:=by
 simp only [BQ,aJ,aaq,fIn,fAt,jb,Int.toNat_natCast,rY]
 cases inR (fs[b]?.getD (0,0,0)).1 0 (IntKind.i64.wrap (n - 1)) <;> cases inR (fs[b]?.getD (0,0,0)).2.1 0 1 <;> cases inR (fs[b]?.getD (0,0,0)).2.2 0 1 <;> rfl
theorem ak4(n:Int)(fs:List (Int×Int×Int))(hn:fs.length≤9223372036854775807):
  bz.fin ((0:Int),n,fs)=true∧bz.res ((0:Int),n,fs)=((aq (fF n fs) 2 (List.range fs.length) 0 ()).1,(((aq (fF n fs) 2 (List.range fs.length) 0 ()).2.1:Int),n,fs)):=by
 have key:=bz.along (fun i _=>((i:Int),n,fs)) (fun _=>()) (fF n fs) 2 (fun _ _=>True) (List.range fs.length) () trivial (by simp only [bz,List.length_range];omega) (fun i b a hb hI=> ?_) (fun a hI=> ?_)
 ·exact key
 ·obtain⟨rfl,hlt⟩:=gV hb
  have hw:IntKind.i64.wrap ((b:Int) + 1)=((b + 1:Nat):Int):=by rw [bp (by omega) (by omega)];omega
  have hdec:ltI (b:Int) (fs.length:Int)=true:=db (by omega)
  have hnn:leI (0:Int) (b:Int)=true:=bZ (by omega)
  have hltd:ltN b fs.length=true:=dK (by omega)
  obtain⟨i1,i2⟩:=aiQ fs b hlt hn
  have i3:=akW n fs b
  refine⟨?_,?_,?_,?_⟩
  ·simp [bz,pA,LT.nds,allT,qj,IR,IU,hdec,hnn,hltd,i1]
  ·simp [bz,pA,LT.each,IW,hw]
  ·simp only [bz,pA,LT.fn,qj,hdec,i2,i3,fF,cond_true]
  ·exact fun _ _=>trivial
 ·simp [bz,pA,LT.out,qj,List.length_range]
theorem aj9(n:Int)(fs:List (Int×Int×Int))(hn:leN fs.length 9223372036854775807=true):FQ n fs=lfOk n fs∧FR n fs=true:=by
 obtain⟨w1,w2⟩:=ak4 n fs (eP.1 hn)
 obtain⟨k,m,e,h⟩:=acl n fs (List.range fs.length) 0
 rw [e]at w2
 refine⟨?_,?_⟩
 ·have hl:leI (fs.length:Int) 8=leN fs.length 8:=by rw [Bool.eq_iff_iff];simp;omega
  simp only [FQ,sI,w2,aJ,rY,lfOk,okFs,hl]
  rcases h with⟨rfl,h⟩ | ⟨rfl | rfl,h⟩ <;> rw [h]
  ·cases inR n 1 12 <;> cases leN fs.length 8 <;> rfl
  ·cases inR n 1 12 <;> cases leN fs.length 8 <;> rfl
  ·cases inR n 1 12 <;> cases leN fs.length 8 <;> rfl
 ·simp only [FR,sI,w1,allT,cond_true]
def Mw:List SV→List Entry→Option Out
 | [.one ⟨false,[.val (.int .i64 x0)]⟩,.one ⟨false,[.ref 0]⟩],[.row false 100 (.pair (.int .i64) (.pair (.int .i64) (.int .i64))) x1]=>some ⟨(.one ⟨false,[(.val (.bool (lfOk x0 x1)))]⟩),[(.row false 100 amS x1)],[],[leN x1.length 9223372036854775807]⟩
 |_,_=>none
def iT:PF Tryz.prog:=PF.alt Xl Mw (by
 intro args es o h hnd;unfold Mw at h;split at h
 ·rename_i x0 x1
  cases h
  have hnd:=eD hnd
  have hh:=aj9 x0 x1 hnd
  obtain⟨e0,en⟩:=hh
  exact gW rfl (eN en) (by simp only [e0] <;> rfl) rfl rfl
 ·cases h)
def cv(y2 y3:Int)(b:Int×(Int×Int)):(Unit)→Nat ⊕ (Unit)
 |_=>(bif(pD b.1 (b.2.1) y2 y3)then(.inl 0)else(.inr ()))
def bu(y2 y3 y4:Int)(y5:List (Int×(Int×Int)))(i:Nat):(Unit)→aO
 |_=>((i:Int),(↑y5.length:Int),y2,y3,y4,y5)
def ke:aO→Unit
 |(_,_,_,_,_,_)=>()
theorem DM(y2 y3 y4:Int)(y5:List (Int×(Int×Int))) (hn:y5.length≤9223372036854775807):
  aj.fin ((0:Int),(↑y5.length:Int),y2,y3,y4,y5)=true∧aj.res ((0:Int),(↑y5.length:Int),y2,y3,y4,y5)=((aq (cv y2 y3) 1 y5 0 ()).1,(bu y2 y3 y4 y5) (aq (cv y2 y3) 1 y5 0 ()).2.1 (aq (cv y2 y3) 1 y5 0 ()).2.2):=by
 have key:=aj.along (bu y2 y3 y4 y5) ke (cv y2 y3) 1 (fun _ _=>True) y5 () (by trivial) (by simp only [aj,bu];omega) (fun i b a hb hI=> ?_) (fun a hI=> ?_)
 ·exact key
 ·obtain⟨⟩:=a
  have hlt:=(List.getElem?_eq_some_iff.1 hb).1
  have hget: ∀ d,Option.getD y5[i]? d=b:=fun d=>by rw [hb];rfl
  have hw:=qG hlt hn
  have hdec:ltI (i:Int) (y5.length:Int)=true:=db (by omega)
  have hnn:leI (0:Int) (i:Int)=true:=bZ (by omega)
  have hltd:ltN i y5.length=true:=dK hlt
  refine⟨?_,?_,?_,?_⟩
  ·simp [cj,eg,ei,ej,ek,em,eo,dN,aj,LT.nds,allT,bu,hdec,hnn,hltd,hget]
  ·simp [cj,eg,ei,ej,ek,em,eo,dN,aj,LT.each,bu,ke,hw]
  ·simp only [cj,eg,ei,ej,ek,em,eo,dN,aj,LT.fn,bu,ke,cv,Int.toNat_natCast,hdec,hnn,hltd,hget,cond_true,Bool.cond_self]
  ·exact fun _ _=>trivial
 ·obtain⟨⟩:=a
  simp [cj,eg,ei,ej,ek,em,eo,dN,aj,LT.out,bu]
theorem ahF(xs:List (Int×Int×Int))(f:Int×Int×Int)(hn:xs.length≤9223372036854775807):
  ee xs f.1 f.2.1 f.2.2=xs.any (Oq f)∧ef xs f.1 f.2.1 f.2.2=true:=by
 obtain⟨w1,w2⟩:=DM f.1 f.2.1 f.2.2 xs hn
 rw [iq (P:=Oq f) (j:=0) (fun t=>by
  simp only [cv,pD,Oq];cases t.1==f.1 <;> rfl)]at w2
 refine⟨?_,?_⟩
 ·simp only [ee,kA,kB,kC,ef,fj,c9,iD,iE,iF,iG,iH,w2,bu]
  cases xs.any (Oq f)with
  |false=>rfl
  |true=>exact bZ (Int.natCast_nonneg _)
 ·simp only [ee,kA,kB,kC,ef,fj,c9,iD,iE,iF,iG,iH,w1,allT,cond_true]
theorem akB(n:Int)(fs:List (Int×Int×Int))(b:Nat):BE (b:Int) n fs=aaq n fs b:=by
 simp only [BE,aZ,aaq,fIn,fAt,dU,Int.toNat_natCast,rY]
 cases inR (fs[b]?.getD (0,0,0)).1 0 (IntKind.i64.wrap (n - 1)) <;> cases inR (fs[b]?.getD (0,0,0)).2.1 0 1 <;> cases inR (fs[b]?.getD (0,0,0)).2.2 0 1 <;> rfl
theorem ak3(n:Int)(fs:List (Int×Int×Int))(hn:fs.length≤9223372036854775807):
  bx.fin ((0:Int),(fs.length:Int),n,fs)=true∧bx.res ((0:Int),(fs.length:Int),n,fs)=((aq (fF n fs) 2 (List.range fs.length) 0 ()).1,(((aq (fF n fs) 2 (List.range fs.length) 0 ()).2.1:Int),(fs.length:Int),n,fs)):=by
 have key:=bx.along (fun i _=>((i:Int),(fs.length:Int),n,fs)) (fun _=>()) (fF n fs) 2 (fun _ _=>True) (List.range fs.length) () trivial (by simp only [bx,List.length_range];omega) (fun i b a hb hI=> ?_) (fun a hI=> ?_)
 ·exact key
 ·obtain⟨rfl,hlt⟩:=gV hb
  have hw:IntKind.i64.wrap ((b:Int) + 1)=((b + 1:Nat):Int):=by rw [bp (by omega) (by omega)];omega
  have hdec:ltI (b:Int) (fs.length:Int)=true:=db (by omega)
  have hle:leI (b:Int) (fs.length:Int)=true:=bZ (by omega)
  have hnn:leI (0:Int) (b:Int)=true:=bZ (by omega)
  have hltd:ltN b fs.length=true:=dK (by omega)
  obtain⟨i2,i1⟩:=ahF (fs.take b) (fAt fs b) (by rw [List.length_take];omega)
  have i2:IL (b:Int) fs=aeA fs b:=i2
  have i1:IK (b:Int) fs=true:=i1
  have i3:=akB n fs b
  refine⟨?_,?_,?_,?_⟩
  ·simp [bx,pz,LT.nds,allT,uY,BD,IG,IH,II,IJ,hdec,hnn,hltd,hle,i1]
  ·simp [bx,pz,LT.each,IM,hw]
  ·simp only [bx,pz,LT.fn,uY,hdec,i2,i3,fF,cond_true]
  ·exact fun _ _=>trivial
 ·simp [bx,pz,LT.out,uY,List.length_range]
theorem ajR(n:Int)(fs:List (Int×Int×Int))(hn:leN fs.length 9223372036854775807=true):Fz n fs=lfOk n fs∧FA n fs=true:=by
 obtain⟨w1,w2⟩:=ak3 n fs (eP.1 hn)
 obtain⟨k,m,e,h⟩:=acl n fs (List.range fs.length) 0
 rw [e]at w2
 refine⟨?_,?_⟩
 ·have hl:leI (fs.length:Int) 8=leN fs.length 8:=by rw [Bool.eq_iff_iff];simp;omega
  simp only [Fz,se,w2,uZ,aZ,rY,lfOk,okFs,hl]
  rcases h with⟨rfl,h⟩ | ⟨rfl | rfl,h⟩ <;> rw [h] <;> cases inR n 1 12 <;> cases leN fs.length 8 <;> rfl
 ·simp only [FA,se,w1,allT,cond_true]
def Mu:List SV→List Entry→Option Out
 | [.one ⟨false,[.val (.int .i64 x0)]⟩,.one ⟨false,[.ref 0]⟩],[.row false 100 (.pair (.int .i64) (.pair (.int .i64) (.int .i64))) x1]=>some ⟨(.one ⟨false,[(.val (.bool (lfOk x0 x1)))]⟩),[(.row false 100 amS x1)],[],[leN x1.length 9223372036854775807]⟩
 |_,_=>none
def qh:PF Tryz.prog:=PF.alt Xj Mu (by
 intro args es o h hnd;unfold Mu at h;split at h
 ·rename_i x0 x1
  cases h
  have hnd:=eD hnd
  have hh:=ajR x0 x1 hnd
  obtain⟨e0,en⟩:=hh
  exact gW rfl (eN en) (by simp only [e0] <;> rfl) rfl rfl
 ·cases h)
def uX(y1 y2:Int)(b:Int×Int):(Unit)→Nat ⊕ (Unit)
 |_=>(bif(bif b.1==y1 then b.2==y2 else false)then(.inl 0)else(.inr ()))
def nA(y1 y2:Int)(y3:List (Int×Int))(i:Nat):(Unit)→jY
 |_=>((i:Int),y1,y2,y3)
def Il:jY→Unit
 |(_,_,_,_)=>()
theorem ack(y1 y2:Int)(y3:List (Int×Int)) (hn:y3.length≤9223372036854775807):
  dm.fin ((0:Int),y1,y2,y3)=true∧dm.res ((0:Int),y1,y2,y3)=((aq (uX y1 y2) 1 y3 0 ()).1,(nA y1 y2 y3) (aq (uX y1 y2) 1 y3 0 ()).2.1 (aq (uX y1 y2) 1 y3 0 ()).2.2):=by
 have key:=dm.along (nA y1 y2 y3) Il (uX y1 y2) 1 (fun _ _=>True) y3 () (by trivial) (by simp only [dm,nA];omega) (fun i b a hb hI=> ?_) (fun a hI=> ?_)
 ·exact key
 ·obtain⟨⟩:=a
  have hlt:=(List.getElem?_eq_some_iff.1 hb).1
  have hget: ∀ d,Option.getD y3[i]? d=b:=fun d=>by rw [hb];rfl
  have hw:=qG hlt hn
  have hdec:ltI (i:Int) (y3.length:Int)=true:=db (by omega)
  have hnn:leI (0:Int) (i:Int)=true:=bZ (by omega)
  have hltd:ltN i y3.length=true:=dK hlt
  refine⟨?_,?_,?_,?_⟩
  ·simp [pY,pZ,vg,Af,Ag,Ah,Ai,Aj,Ak,Al,yc,dm,LT.nds,allT,nA,hdec,hnn,hltd,hget]
  ·simp [pY,pZ,vg,Af,Ag,Ah,Ai,Aj,Ak,Al,yc,dm,LT.each,nA,Il,hw]
  ·simp only [pY,pZ,vg,Af,Ag,Ah,Ai,Aj,Ak,Al,yc,dm,LT.fn,nA,Il,uX,Int.toNat_natCast,hdec,hnn,hltd,hget,cond_true,Bool.cond_self]
  ·exact fun _ _=>trivial
 ·obtain⟨⟩:=a
  simp [pY,pZ,vg,Af,Ag,Ah,Ai,Aj,Ak,Al,yc,dm,LT.out,nA]
def jf(y2 y3:Int)(b:Int×Int):(Unit)→Nat ⊕ (Unit)
 |_=>(bif(bif y2==b.1then bif y3==b.2then true else false else false)then(.inl 0)else(.inr ()))
def eM(y2 y3:Int)(y4:List (Int×Int))(i:Nat):(Unit)→cH
 |_=>((i:Int),(↑y4.length:Int),y2,y3,y4)
def vq:cH→Unit
 |(_,_,_,_,_)=>()
theorem NT(y2 y3:Int)(y4:List (Int×Int)) (hn:y4.length≤9223372036854775807):
  aU.fin ((0:Int),(↑y4.length:Int),y2,y3,y4)=true∧aU.res ((0:Int),(↑y4.length:Int),y2,y3,y4)=((aq (jf y2 y3) 1 y4 0 ()).1,(eM y2 y3 y4) (aq (jf y2 y3) 1 y4 0 ()).2.1 (aq (jf y2 y3) 1 y4 0 ()).2.2):=by
 have key:=aU.along (eM y2 y3 y4) vq (jf y2 y3) 1 (fun _ _=>True) y4 () (by trivial) (by simp only [aU,eM];omega) (fun i b a hb hI=> ?_) (fun a hI=> ?_)
 ·exact key
 ·obtain⟨⟩:=a
  have hlt:=(List.getElem?_eq_some_iff.1 hb).1
  have hget: ∀ d,Option.getD y4[i]? d=b:=fun d=>by rw [hb];rfl
  have hw:=qG hlt hn
  have hdec:ltI (i:Int) (y4.length:Int)=true:=db (by omega)
  have hnn:leI (0:Int) (i:Int)=true:=bZ (by omega)
  have hltd:ltN i y4.length=true:=dK hlt
  refine⟨?_,?_,?_,?_⟩
  ·simp [iM,l7,l8,l9,ma,mb,mc,kM,aU,LT.nds,allT,eM,hdec,hnn,hltd,hget]
  ·simp [iM,l7,l8,l9,ma,mb,mc,kM,aU,LT.each,eM,vq,hw]
  ·simp only [iM,l7,l8,l9,ma,mb,mc,kM,aU,LT.fn,eM,vq,jf,Int.toNat_natCast,hdec,hnn,hltd,hget,cond_true,Bool.cond_self]
  ·exact fun _ _=>trivial
 ·obtain⟨⟩:=a
  simp [iM,l7,l8,l9,ma,mb,mc,kM,aU,LT.out,eM]
theorem ali(d o:Int)(ls:List (Int×Int))(hn:ls.length≤9223372036854775807):Cp d o ls=(bif ls.any (Ey (d,o))then(((ls.takeWhile fun x=> !Ey (d,o) x).length:Nat):Int)else -1)∧KB d o ls=true:=by
 obtain⟨w1,w2⟩:=ack d o ls hn
 rw [iq (P:=Ey (d,o)) (j:=0) (fun x=>by simp only [uX,Ey];cases x.1==d <;> rfl)]at w2
 simp only [Cp,KB,HU,w1,w2,allT,nA]
 cases ls.any (Ey (d,o)) <;> simp [Nat.beq]
theorem akA(d o:Int)(ls:List (Int×Int))(hn:ls.length≤9223372036854775807):l6 d o ls=ls.any (Ey (d,o))∧qz d o ls=true:=by
 obtain⟨w1,w2⟩:=NT d o ls hn
 rw [iq (P:=Ey (d,o)) (j:=0) (fun x=>by
  simp only [jf,Ey,BEq.comm (a:=d),BEq.comm (a:=o)];cases x.1==d <;> cases x.2==o <;> rfl)]at w2
 simp only [l6,qz,AK,AL,rZ,w1,w2,allT,eM]
 refine⟨?_,rfl⟩
 cases ls.any (Ey (d,o))with
 |false=>rfl
 |true=>exact bZ (Int.natCast_nonneg _)
theorem agc(a b:Int):KC a b=alu (a,b)∧Ma a b=alu (a,b):=by
 simp only [KC,Ma,aJ,aZ,rY,alu]
 cases inR a 0 23 <;> exact⟨rfl,rfl⟩
theorem aim(ls:List (Int×Int))(hn:ls.length≤9223372036854775807):
  dv.fin ((0:Int),ls)=true∧(dv.res ((0:Int),ls)).1=bif(List.range ls.length).any (fun b=>Hr ls b||WU ls b)then 0 else 1:=by
 refine Lp.scan dv (fun b=>((b:Int),ls)) ls.length (fun b=>Hr ls b||WU ls b) 1 (by simp only [dv];omega) (fun b hb=> ?_) ?_
 ·have hdec:ltI (b:Int) (ls.length:Int)=true:=db (by omega)
  have hnn:leI (0:Int) (b:Int)=true:=bZ (by omega)
  have hltd:ltN b ls.length=true:=dK hb
  have hw:IntKind.i64.wrap ((b:Int) + 1)=((b + 1:Nat):Int):=by rw [bp (by omega) (by omega)];omega
  have a0:ly (b:Int) ls=Nb ls b:=by simp only [ly,Int.toNat_natCast,Nb]
  have a1:oO (b:Int) ls=Hr ls b:=by simp only [oO,a0,(agc _ _).1,Hr]
  obtain⟨f1,f2⟩:=ali (Nb ls b).1 (Nb ls b).2 ls hn
  have hat:Nb ls b=ls[b]:=by simp only [Nb,List.getElem?_eq_getElem hb,Option.getD_some]
  have hp:Ey (Nb ls b) ls[b]=true:=by rw [hat];simp [Ey]
  have hany:ls.any (Ey (Nb ls b))=true:=List.any_eq_true.2 ⟨_,List.getElem_mem hb,hp⟩
  have f1':Cp (Nb ls b).1 (Nb ls b).2 ls=(bif ls.any (Ey (Nb ls b))then(((ls.takeWhile fun x=> !Ey (Nb ls b) x).length:Nat):Int)else -1):=f1
  have h7:(Cp (Nb ls b).1 (Nb ls b).2 ls !=(b:Int))=WU ls b:=by
   rw [f1']
   simp only [hany,cond_true,WU]
   have hf:=aeF ls b hb hp
   cases hd:(ls.take b).any (Ey (Nb ls b))with
   |false=>have:=hf.2 hd;rw [this];simp
   |true=>
    have:(ls.takeWhile fun x=> !Ey (Nb ls b) x).length≠b:=fun h=>by rw [hf.1 h]at hd;cases hd
    simp only [bne_iff_ne,ne_eq];omega
  refine⟨?_,?_,?_⟩
  ·simp [dv,vY,LT.nds,allT,tb,It,Iu,Iv,Iw,Ix,Pq,hdec,hnn,hltd,a0,f2]
  ·simp [dv,vY,LT.each,Ps,hw]
  ·simp only [dv,vY,LT.fn,tb,Pr,hdec,a0,a1,h7,cond_true]
   cases Hr ls b <;> rfl
 ·simp [dv,vY,LT.out,tb]
theorem ail(ls:List (Int×Int))(hn:ls.length≤9223372036854775807):
  dp.fin ((0:Int),(ls.length:Int),ls)=true∧(dp.res ((0:Int),(ls.length:Int),ls)).1=bif(List.range ls.length).any (fun b=>Hr ls b||WU ls b)then 0 else 1:=by
 refine Lp.scan dp (fun b=>((b:Int),(ls.length:Int),ls)) ls.length (fun b=>Hr ls b||WU ls b) 1 (by simp only [dp];omega) (fun b hb=> ?_) ?_
 ·have hdec:ltI (b:Int) (ls.length:Int)=true:=db (by omega)
  have hle:leI (b:Int) (ls.length:Int)=true:=bZ (by omega)
  have hnn:leI (0:Int) (b:Int)=true:=bZ (by omega)
  have hltd:ltN b ls.length=true:=dK hb
  have hw:IntKind.i64.wrap ((b:Int) + 1)=((b + 1:Nat):Int):=by rw [bp (by omega) (by omega)];omega
  have a0:lu (b:Int) ls=Nb ls b:=by simp only [lu,Int.toNat_natCast,Nb]
  have a1:lv (b:Int) ls=Hr ls b:=by simp only [lv,a0,(agc _ _).2,Hr]
  have a2:Bf (b:Int) ls=bif !Hr ls b then ls.take b else []:=by
   simp only [Bf,a1,Int.toNat_natCast,Int.toNat_zero,List.drop_zero,Bool.and_true]
  have hl2:(bif !Hr ls b then ls.take b else []).length≤9223372036854775807:=by
   cases Hr ls b <;> simp;omega
  obtain⟨f1,f2⟩:=akA (Nb ls b).1 (Nb ls b).2 (bif !Hr ls b then ls.take b else []) hl2
  have f1:l6 (Nb ls b).1 (Nb ls b).2 (bif !Hr ls b then ls.take b else [])=(bif !Hr ls b then ls.take b else []).any (Ey (Nb ls b)):=f1
  refine⟨?_,?_,?_⟩
  ·have z0:leI 0 0=true:=rfl
   simp only [dp,vR,LT.nds,allT,Dm,Ou,Ov,Ow,Ox,Oy,Oz,OA,Int.toNat_natCast,hdec,hle,hnn,hltd,a0,a2,f2,z0,Bool.or_true,cond_true,Bool.cond_self]
  ·simp [dp,vR,LT.each,OC,hw]
  ·simp only [dp,vR,LT.fn,Dm,OB,hdec,a0,a1,a2,f1,cond_true]
   cases Hr ls b <;> rfl
 ·simp [dp,vR,LT.out,Dm]
theorem akI(ls:List (Int×Int)):((List.range ls.length).any fun b=>Hr ls b||WU ls b)= !(List.range ls.length).all fun b=> !(Hr ls b||WU ls b):=by simp [List.all_eq_not_any_not]
theorem ahb(ls:List (Int×Int))(hn:leN ls.length 9223372036854775807=true):Ni ls=okLk ls∧Nj ls=true:=by
 obtain⟨w1,w2⟩:=aim ls (eP.1 hn)
 rw [akI]at w2
 simp only [Ni,Nj,w1,w2,allT,okLk,aej ls.length 8 (by omega)]
 cases ((List.range ls.length).all fun b=> !(Hr ls b||WU ls b)) <;> simp [Nat.beq]
theorem agT(ls:List (Int×Int))(hn:leN ls.length 9223372036854775807=true):MV ls=okLk ls∧MW ls=true:=by
 obtain⟨w1,w2⟩:=ail ls (eP.1 hn)
 rw [akI]at w2
 simp only [MV,MW,Lg,w1,w2,allT,okLk,aej ls.length 8 (by omega)]
 cases ((List.range ls.length).all fun b=> !(Hr ls b||WU ls b)) <;> simp [Nat.beq]
def UG:List SV→List Entry→Option Out
 | [.one ⟨false,[.ref 0]⟩],[.row false 176 (.pair (.int .i64) (.int .i64)) x0]=>some ⟨(.one ⟨false,[(.val (.bool (okLk x0)))]⟩),[(.row false 176 amT x0)],[],[leN x0.length 9223372036854775807]⟩
 |_,_=>none
def pK:PF Tryz.prog:=PF.alt ad9 UG (by
 intro args es o h hnd;unfold UG at h;split at h
 ·rename_i x0
  cases h
  have hnd:=eD hnd
  have hh:=ahb x0 hnd
  obtain⟨e0,en⟩:=hh
  exact gW rfl (eN en) (by simp only [e0] <;> rfl) rfl rfl
 ·cases h)
def UB:List SV→List Entry→Option Out
 | [.one ⟨false,[.ref 0]⟩],[.row false 176 (.pair (.int .i64) (.int .i64)) x0]=>some ⟨(.one ⟨false,[(.val (.bool (okLk x0)))]⟩),[(.row false 176 amT x0)],[],[leN x0.length 9223372036854775807]⟩
 |_,_=>none
def pG:PF Tryz.prog:=PF.alt ad3 UB (by
 intro args es o h hnd;unfold UB at h;split at h
 ·rename_i x0
  cases h
  have hnd:=eD hnd
  have hh:=agT x0 hnd
  obtain⟨e0,en⟩:=hh
  exact gW rfl (eN en) (by simp only [e0] <;> rfl) rfl rfl
 ·cases h)
end Go.SX

namespace Go.SX
open Go.Proofs
set_option maxRecDepth 100000
abbrev qc:=Int×Int×Int×Int×List Int×List (Int×(Int×Int))×List (List Int)×List (Int×(Int×Int))×List (Int×Int)×List (Int×Int)
section
variable (y0:Int)(y6:List (List Int))
def j6:List Int:=Option.getD y6[Int.toNat y0]? (vD (CTy.sl (2:TypeId) amU))
def Cb:Bool:=ltI y0 (↑y6.length:Int)
def Td:Bool:=leI (0:Int) y0
def Te:Bool:=ltN y0.toNat y6.length
def Tf:Bool:=leN (List.length (j6 y0 y6)) (9223372036854775807:Nat)
def Tg:Bool:= !(!!areR (j6 y0 y6)&&true)||leI (0:Int) y0
def Th:Bool:= !(!!areR (j6 y0 y6)&&true)||ltI y0 (↑y6.length:Int)
def Ti:Bool:= !(!!areR (j6 y0 y6)&&true)||ltN y0.toNat y6.length
def Tj:Bool:= !(!!areR (j6 y0 y6)&&true)||uS y6
def Tk:Bool:=bif !areR (j6 y0 y6)then true else(↑(List.length (bif !!areR (j6 y0 y6)&&true then j6 y0 y6 else [])):Int)!=uR y6
def Tl:Int:=IntKind.wrap .i64 (y0 + (1:Int))
end
def aa4:qc→List (Nat×SV)
 |(y0,_,_,_,_,_,_,_,_,_)=> [(3,(.one ⟨false,[(.val (.int .i64 y0))]⟩)),(1,(.one ⟨false,[(.ptr 0 0)]⟩))]
def aaV:qc→List (Nat×Entry)
 |(_,y1,y2,y3,y4,y5,y6,y7,y8,y9)=> [(0,(.box 33 [(.val (.int .i64 y1)),(.ref 1),(.ref 2),(.ref 3),(.ref 4),(.val (.int .i64 y2)),(.ref 5),(.ref 6),(.val (.int .i64 y3))])),(1,(.row false 2 amU y4)),(2,(.row false 169 amS y5)),(3,(.row false 24 (CTy.sl (2:TypeId) amU) y6)),(4,(.row false 100 amS y7)),(5,(.row false 173 amT y8)),(6,(.row false 176 amT y9))]
def abm:Nat→qc→List (Nat×SV)
 |0,(_,_,_,_,_,_,_,_,_,_)=> [(2,(.one ⟨false,[(.val (.bool false))]⟩))]
 |_,(_,_,_,_,_,_,_,_,_,_)=> []
def abd:Nat→qc→List (Nat×Entry)
 |0,(_,y1,y2,y3,y4,y5,y6,y7,y8,y9)=> [(0,(.box 33 [(.val (.int .i64 y1)),(.ref 1),(.ref 2),(.ref 3),(.ref 4),(.val (.int .i64 y2)),(.ref 5),(.ref 6),(.val (.int .i64 y3))])),(1,(.row false 2 amU y4)),(2,(.row false 169 amS y5)),(3,(.row false 24 (CTy.sl (2:TypeId) amU) y6)),(4,(.row false 100 amS y7)),(5,(.row false 173 amT y8)),(6,(.row false 176 amT y9))]
 |_,(_,y1,y2,y3,y4,y5,y6,y7,y8,y9)=> [(0,(.box 33 [(.val (.int .i64 y1)),(.ref 1),(.ref 2),(.ref 3),(.ref 4),(.val (.int .i64 y2)),(.ref 5),(.ref 6),(.val (.int .i64 y3))])),(1,(.row false 2 amU y4)),(2,(.row false 169 amS y5)),(3,(.row false 24 (CTy.sl (2:TypeId) amU) y6)),(4,(.row false 100 amS y7)),(5,(.row false 173 amT y8)),(6,(.row false 176 amT y9))]
def zL:qc→LT qc
 |(y0,y1,y2,y3,y4,y5,y6,y7,y8,y9)=> .ite (Cb y0 y6) (.need [(Td y0),(Cb y0 y6),(Te y0 y6),(Tf y0 y6),(Tg y0 y6),(Th y0 y6),(Ti y0 y6),(Tj y0 y6)] (.ite (Tk y0 y6) (.ext 0 [(0,0),(1,1),(2,2),(3,3),(4,4),(5,5),(6,6)]) (.nrm ((Tl y0),y1,y2,y3,y4,y5,y6,y7,y8,y9) [(0,0),(1,1),(2,2),(3,3),(4,4),(5,5),(6,6)]))) (.ext 1 [(0,0),(1,1),(2,2),(3,3),(4,4),(5,5),(6,6)])
def Kf(s:St):Option qc:=
 (match s.look 3 with
 |some ⟨none,(.one ⟨false,[(.val (.int .i64 y0))]⟩)⟩=>
 (match s.look 1 with
 |some ⟨none,(.one ⟨false,[(.ptr 448 0)]⟩)⟩=>
 (match s.ent 448 with
 |some (.box 33 [(.val (.int .i64 y1)),(.ref 0),(.ref 1),(.ref 2),(.ref 3),(.val (.int .i64 y2)),(.ref 4),(.ref 5),(.val (.int .i64 y3))])=>
 (match s.ent 0 with
 |some (.row false 2 (.int .i64) y4)=>
 (match s.ent 1 with
 |some (.row false 169 (.pair (.int .i64) (.pair (.int .i64) (.int .i64))) y5)=>
 (match s.ent 2 with
 |some (.row false 24 (.sl 2 (.int .i64)) y6)=>
 (match s.ent 3 with
 |some (.row false 100 (.pair (.int .i64) (.pair (.int .i64) (.int .i64))) y7)=>
 (match s.ent 4 with
 |some (.row false 173 (.pair (.int .i64) (.int .i64)) y8)=>
 (match s.ent 5 with
 |some (.row false 176 (.pair (.int .i64) (.int .i64)) y9)=>
 some (y0,y1,y2,y3,y4,y5,y6,y7,y8,y9)
 |_=>none)
 |_=>none)
 |_=>none)
 |_=>none)
 |_=>none)
 |_=>none)
 |_=>none)
 |_=>none)
 |_=>none)
def fq:Lp qc where
 h:=⟨[27,28,29,30,31,34,35,36,37,38,39,40,41,42,43,44,45,46,47,48,49,50,51,2,32,33,3],[0,1,2,3,4,5,6],[],[]⟩
 JL:=aa4
 JE:=aaV
 XL:=abm
 XE:=abd
 q:=fun j=>match j with | 0=> .ret | _=> .exit 0
 tags:= [0,1]
 lt:=zL
 fuel:=fun(y0,y1,y2,y3,y4,y5,y6,y7,y8,y9)=>y0.natAbs + y1.natAbs + y2.natAbs + y3.natAbs + y4.length + y5.length + y6.length + y7.length + y8.length + y9.length
 fix:=fun(_,y1,y2,y3,y4,y5,y6,y7,y8,y9) (y0,_,_,_,_,_,_,_,_,_)=>(y0,y1,y2,y3,y4,y5,y6,y7,y8,y9)
 σ:= [(0,448),(1,0),(2,1),(3,2),(4,3),(5,4),(6,5)]
 rd:=Kf
theorem Yz:LoopOk Tryz.prog (fun k=>Nat.blt k Tryz.f24.ntmps) fq.F (aD Tryz.f24 0):=by
 refine Lp.ok (tbl:= [eQ,wF,PF.lend wF,PF.fz wF,wE,PF.lend wE,PF.fz wE,iU,PF.lend iU,PF.fz iU,ro,PF.lend ro,PF.fz ro,iT,PF.lend iT,PF.fz iT,Xn,tE,PF.lend tE,PF.fz tE,pK,PF.lend pK,PF.fz pK]) (lf:= []) ay fq (by kernel_rfl) (LOk.nil _) (fun _=>rfl) (fun j _=>by unfold fq;match j with | 0=>rfl | _ + 1=>rfl) ?_ ?_ ?_ ?_ (fun _=>rfl) ?_
 ·intro x;obtain⟨y0,y1,y2,y3,y4,y5,y6,y7,y8,y9⟩:=x;kernel_rfl
 ·intro x;obtain⟨y0,y1,y2,y3,y4,y5,y6,y7,y8,y9⟩:=x;kernel_rfl
 ·intro s x h
  have h:Kf s=some x:=h
  unfold Kf at h
  repeat' split at h
  all_goals cases h
  exact⟨aa (by assumption) rfl (aa (by assumption) rfl (rfl)),ac rfl (by assumption) rfl (ac rfl (by assumption) rfl (ac rfl (by assumption) rfl (ac rfl (by assumption) rfl (ac rfl (by assumption) rfl (ac rfl (by assumption) rfl (ac rfl (by assumption) rfl (rfl)))))))⟩
 ·intro x;obtain⟨y0,y1,y2,y3,y4,y5,y6,y7,y8,y9⟩:=x;kernel_rfl
 ·intro x z;obtain⟨y0,y1,y2,y3,y4,y5,y6,y7,y8,y9⟩:=x;exact(And.intro (And.intro trivial rfl) trivial)
section
variable (x0 x1 x2:Int)(x3:List Int)(x4:List (Int×Int×Int))(x5:List (List Int))(x6:List (Int×Int×Int))(x7 x8:List (Int×Int))
def yq:Bool:=bif bif !isT x0 x3 then true else !(inR x0 (2:Int) (8:Int)&&okFs x0 x4)then true else(↑x5.length:Int)!=(↑x3.length:Int)
def Pw:Int×Int×Int×Int×List Int×List (Int×Int×Int)×List (List Int)×List (Int×Int×Int)×List (Int×Int)×List (Int×Int):=((0:Int),x0,x1,x2,x3,x4,x5,x6,x7,x8)
def Ca:Bool:=Nat.beq ((Lp.res fq (Pw x0 x1 x2 x3 x4 x5 x6 x7 x8)).1) (0:Nat)
def Px:Bool:=bif bif lfOk (uR x5) x6 then Kz x1 else false then okPl x7 else false
def Ry:Bool:=bif yq x0 x3 x4 x5 then false else bif Ca x0 x1 x2 x3 x4 x5 x6 x7 x8 then false else bif bif Px x1 x5 x6 x7 then okLk x8 else false then aJ x2 (0:Int) (100000:Int)else false
def Rz:Bool:=allT [!(!!isT x0 x3&&true)||leN x4.length (9223372036854775807:Nat),yq x0 x3 x4 x5||Lp.fin fq (Pw x0 x1 x2 x3 x4 x5 x6 x7 x8),yq x0 x3 x4 x5||(Ca x0 x1 x2 x3 x4 x5 x6 x7 x8||uS x5),yq x0 x3 x4 x5||(Ca x0 x1 x2 x3 x4 x5 x6 x7 x8||leN x6.length (9223372036854775807:Nat)),yq x0 x3 x4 x5||(Ca x0 x1 x2 x3 x4 x5 x6 x7 x8||(!((bif lfOk (uR x5) x6 then Kz x1 else false)&&true)||leN x7.length (9223372036854775807:Nat))),yq x0 x3 x4 x5||(Ca x0 x1 x2 x3 x4 x5 x6 x7 x8||(!(Px x1 x5 x6 x7&&true)||leN x8.length (9223372036854775807:Nat)))]
end
def Zc:List SV→List Entry→Option Out
 | [.one ⟨true,[.val (.int .i64 x0),.ref 0,.ref 1,.ref 2,.ref 3,.val (.int .i64 x1),.ref 4,.ref 5,.val (.int .i64 x2)]⟩],[.row false 2 (.int .i64) x3,.row false 169 (.pair (.int .i64) (.pair (.int .i64) (.int .i64))) x4,.row false 24 (.sl 2 (.int .i64)) x5,.row false 100 (.pair (.int .i64) (.pair (.int .i64) (.int .i64))) x6,.row false 173 (.pair (.int .i64) (.int .i64)) x7,.row false 176 (.pair (.int .i64) (.int .i64)) x8]=>some ⟨(.one ⟨false,[(.val (.bool (Ry x0 x1 x2 x3 x4 x5 x6 x7 x8)))]⟩),[(.row false 2 amU x3),(.row false 169 amS x4),(.row false 24 (CTy.sl (2:TypeId) amU) x5),(.row false 100 amS x6),(.row false 173 amT x7),(.row false 176 amT x8)],[],[(Rz x0 x1 x2 x3 x4 x5 x6 x7 x8)]⟩
 |_,_=>none
def afP:PF Tryz.prog:=PF.ofG Tryz.prog [eQ,wF,PF.lend wF,PF.fz wF,wE,PF.lend wE,PF.fz wE,iU,PF.lend iU,PF.fz iU,ro,PF.lend ro,PF.fz ro,iT,PF.lend iT,PF.fz iT,Xn,tE,PF.lend tE,PF.fz tE,pK,PF.lend pK,PF.fz pK] [fq.F] ay 24 Tryz.f24 Tryz.func24 (LOk.fnT (l:= [aD Tryz.f24 0]) (by kernel_rfl) (.cons Yz (.nil _))) Zc (by
 intro vs es r h;unfold Zc at h;split at h
 ·cases h;kernel_rfl
 ·cases h)
abbrev qb:=Int×Int×List (List Int)×Int×Int×Int×List Int×List (Int×(Int×Int))×List (Int×(Int×Int))×List (Int×Int)×List (Int×Int)
section
variable (y0 y1:Int)(y2:List (List Int))
def lZ:List Int:=Option.getD y2[Int.toNat y0]? (vD (CTy.sl (2:TypeId) amU))
def Gl:Bool:=ltI y0 y1
def SD:Bool:=leI (0:Int) y0
def SE:Bool:=ltI y0 (↑y2.length:Int)
def SF:Bool:=ltN y0.toNat y2.length
def SG:Bool:=leN (List.length (lZ y0 y2)) (9223372036854775807:Nat)
def SH:Bool:= !(!!areR (lZ y0 y2)&&true)||leI (0:Int) (0:Int)
def SI:Bool:= !(!!areR (lZ y0 y2)&&true)||ltI (0:Int) (↑y2.length:Int)
def SJ:Bool:= !(!!areR (lZ y0 y2)&&true)||ltN (Int.toNat (0:Int)) y2.length
def SK:Bool:=bif !areR (lZ y0 y2)then true else(↑(List.length (lZ y0 y2)):Int)!=(↑(List.length (bif !!areR (lZ y0 y2)&&true then Option.getD y2[Int.toNat (0:Int)]? (vD (CTy.sl (2:TypeId) amU))else [])):Int)
def SL:Int:=IntKind.wrap .i64 (y0 + (1:Int))
end
def aa2:qb→List (Nat×SV)
 |(y0,y1,_,_,_,_,_,_,_,_,_)=> [(31,(.one ⟨false,[(.val (.int .i64 y0))]⟩)),(30,(.one ⟨false,[(.val (.int .i64 y1))]⟩)),(29,(.one ⟨false,[(.ref 0)]⟩)),(1,(.one ⟨false,[(.ptr 1 0)]⟩))]
def aaT:qb→List (Nat×Entry)
 |(_,_,y2,y3,y4,y5,y6,y7,y8,y9,y10)=> [(0,(.row false 24 (CTy.sl (2:TypeId) amU) y2)),(1,(.box 33 [(.val (.int .i64 y3)),(.ref 2),(.ref 3),(.ref 0),(.ref 4),(.val (.int .i64 y4)),(.ref 5),(.ref 6),(.val (.int .i64 y5))])),(2,(.row false 2 amU y6)),(3,(.row false 169 amS y7)),(4,(.row false 100 amS y8)),(5,(.row false 173 amT y9)),(6,(.row false 176 amT y10))]
def abk:Nat→qb→List (Nat×SV)
 |0,(_,_,_,_,_,_,_,_,_,_,_)=> [(2,(.one ⟨false,[(.val (.bool false))]⟩))]
 |_,(_,_,_,_,_,_,_,_,_,_,_)=> []
def abb:Nat→qb→List (Nat×Entry)
 |0,(_,_,y2,y3,y4,y5,y6,y7,y8,y9,y10)=> [(0,(.row false 24 (CTy.sl (2:TypeId) amU) y2)),(1,(.box 33 [(.val (.int .i64 y3)),(.ref 2),(.ref 3),(.ref 0),(.ref 4),(.val (.int .i64 y4)),(.ref 5),(.ref 6),(.val (.int .i64 y5))])),(2,(.row false 2 amU y6)),(3,(.row false 169 amS y7)),(4,(.row false 100 amS y8)),(5,(.row false 173 amT y9)),(6,(.row false 176 amT y10))]
 |_,(_,_,y2,y3,y4,y5,y6,y7,y8,y9,y10)=> [(0,(.row false 24 (CTy.sl (2:TypeId) amU) y2)),(1,(.box 33 [(.val (.int .i64 y3)),(.ref 2),(.ref 3),(.ref 0),(.ref 4),(.val (.int .i64 y4)),(.ref 5),(.ref 6),(.val (.int .i64 y5))])),(2,(.row false 2 amU y6)),(3,(.row false 169 amS y7)),(4,(.row false 100 amS y8)),(5,(.row false 173 amT y9)),(6,(.row false 176 amT y10))]
def zJ:qb→LT qb
 |(y0,y1,y2,y3,y4,y5,y6,y7,y8,y9,y10)=> .ite (Gl y0 y1) (.need [(SD y0),(SE y0 y2),(SF y0 y2)] (.need [(SG y0 y2),(SH y0 y2),(SI y0 y2),(SJ y0 y2)] (.ite (SK y0 y2) (.ext 0 [(0,0),(1,1),(2,2),(3,3),(4,4),(5,5),(6,6)]) (.nrm ((SL y0),y1,y2,y3,y4,y5,y6,y7,y8,y9,y10) [(0,0),(1,1),(2,2),(3,3),(4,4),(5,5),(6,6)])))) (.ext 1 [(0,0),(1,1),(2,2),(3,3),(4,4),(5,5),(6,6)])
def Kd(s:St):Option qb:=
 (match s.look 31 with
 |some ⟨none,(.one ⟨false,[(.val (.int .i64 y0))]⟩)⟩=>
 (match s.look 30 with
 |some ⟨none,(.one ⟨false,[(.val (.int .i64 y1))]⟩)⟩=>
 (match s.look 29 with
 |some ⟨none,(.one ⟨false,[(.ref 2)]⟩)⟩=>
 (match s.look 1 with
 |some ⟨none,(.one ⟨false,[(.ptr 448 0)]⟩)⟩=>
 (match s.ent 2 with
 |some (.row false 24 (.sl 2 (.int .i64)) y2)=>
 (match s.ent 448 with
 |some (.box 33 [(.val (.int .i64 y3)),(.ref 0),(.ref 1),(.ref 2),(.ref 3),(.val (.int .i64 y4)),(.ref 4),(.ref 5),(.val (.int .i64 y5))])=>
 (match s.ent 0 with
 |some (.row false 2 (.int .i64) y6)=>
 (match s.ent 1 with
 |some (.row false 169 (.pair (.int .i64) (.pair (.int .i64) (.int .i64))) y7)=>
 (match s.ent 3 with
 |some (.row false 100 (.pair (.int .i64) (.pair (.int .i64) (.int .i64))) y8)=>
 (match s.ent 4 with
 |some (.row false 173 (.pair (.int .i64) (.int .i64)) y9)=>
 (match s.ent 5 with
 |some (.row false 176 (.pair (.int .i64) (.int .i64)) y10)=>
 some (y0,y1,y2,y3,y4,y5,y6,y7,y8,y9,y10)
 |_=>none)
 |_=>none)
 |_=>none)
 |_=>none)
 |_=>none)
 |_=>none)
 |_=>none)
 |_=>none)
 |_=>none)
 |_=>none)
 |_=>none)
def fm:Lp qb where
 h:=⟨[32,33,34,4,35,36,37,38,39,40,41,42,43,44,45,46,47,2,48,31],[0,1,2,3,4,5,6],[],[]⟩
 JL:=aa2
 JE:=aaT
 XL:=abk
 XE:=abb
 q:=fun j=>match j with | 0=> .ret | _=> .exit 0
 tags:= [0,1]
 lt:=zJ
 fuel:=fun(y0,y1,y2,y3,y4,y5,y6,y7,y8,y9,y10)=>y0.natAbs + y1.natAbs + y2.length + y3.natAbs + y4.natAbs + y5.natAbs + y6.length + y7.length + y8.length + y9.length + y10.length
 fix:=fun(_,y1,y2,y3,y4,y5,y6,y7,y8,y9,y10) (y0,_,_,_,_,_,_,_,_,_,_)=>(y0,y1,y2,y3,y4,y5,y6,y7,y8,y9,y10)
 σ:= [(0,2),(1,448),(2,0),(3,1),(4,3),(5,4),(6,5)]
 rd:=Kd
theorem Yx:LoopOk Tryz.prog (fun k=>Nat.blt k Tryz.f23.ntmps) fm.F (aD Tryz.f23 0):=by
 refine Lp.ok (tbl:= [wB,PF.lend wB,PF.fz wB,wD,PF.lend wD,PF.fz wD,qi,PF.lend qi,PF.fz qi,qh,PF.lend qh,PF.fz qh,aG,PF.lend aG,PF.fz aG,Zz,tD,PF.lend tD,PF.fz tD,pG,PF.lend pG,PF.fz pG,JQ]) (lf:= []) ay fm (by kernel_rfl) (LOk.nil _) (fun _=>rfl) (fun j _=>by unfold fm;match j with | 0=>rfl | _ + 1=>rfl) ?_ ?_ ?_ ?_ (fun _=>rfl) ?_
 ·intro x;obtain⟨y0,y1,y2,y3,y4,y5,y6,y7,y8,y9,y10⟩:=x;kernel_rfl
 ·intro x;obtain⟨y0,y1,y2,y3,y4,y5,y6,y7,y8,y9,y10⟩:=x;kernel_rfl
 ·intro s x h
  have h:Kd s=some x:=h
  unfold Kd at h
  repeat' split at h
  all_goals cases h
  exact⟨aa (by assumption) rfl (aa (by assumption) rfl (aa (by assumption) rfl (aa (by assumption) rfl (rfl)))),ac rfl (by assumption) rfl (ac rfl (by assumption) rfl (ac rfl (by assumption) rfl (ac rfl (by assumption) rfl (ac rfl (by assumption) rfl (ac rfl (by assumption) rfl (ac rfl (by assumption) rfl (rfl)))))))⟩
 ·intro x;obtain⟨y0,y1,y2,y3,y4,y5,y6,y7,y8,y9,y10⟩:=x;kernel_rfl
 ·intro x z;obtain⟨y0,y1,y2,y3,y4,y5,y6,y7,y8,y9,y10⟩:=x;exact(And.intro (And.intro trivial rfl) trivial)
section
variable (x0 x1 x2:Int)(x3:List Int)(x4:List (Int×Int×Int))(x5:List (List Int))(x6:List (Int×Int×Int))(x7 x8:List (Int×Int))
def qS:Bool:=bif bif !isT x0 x3 then true else !okFs x0 x4 then true else(↑x5.length:Int)!=(↑x3.length:Int)
def OE:Int×Int×List (List Int)×Int×Int×Int×List Int×List (Int×Int×Int)×List (Int×Int×Int)×List (Int×Int)×List (Int×Int):=((0:Int),(↑x5.length:Int),x5,x0,x1,x2,x3,x4,x6,x7,x8)
def tG:Bool:=Nat.beq ((Lp.res fm (OE x0 x1 x2 x3 x4 x5 x6 x7 x8)).1) (0:Nat)
def Jn:Bool:=bif lfOk (cJ (Option.getD x5[Int.toNat (0:Int)]? (vD (CTy.sl (2:TypeId) amU)))) x6 then Mb x1 else false
def Ra:Bool:=bif qS x0 x3 x4 x5 then false else bif tG x0 x1 x2 x3 x4 x5 x6 x7 x8 then false else bif bif bif Jn x1 x5 x6 then okPl x7 else false then okLk x8 else false then tB x2 else false
def Rb:Bool:=allT [!(!!isT x0 x3&&true)||leN x4.length (9223372036854775807:Nat),qS x0 x3 x4 x5||Lp.fin fm (OE x0 x1 x2 x3 x4 x5 x6 x7 x8),qS x0 x3 x4 x5||(tG x0 x1 x2 x3 x4 x5 x6 x7 x8||leI (0:Int) (0:Int)),qS x0 x3 x4 x5||(tG x0 x1 x2 x3 x4 x5 x6 x7 x8||ltI (0:Int) (↑x5.length:Int)),qS x0 x3 x4 x5||(tG x0 x1 x2 x3 x4 x5 x6 x7 x8||ltN (Int.toNat (0:Int)) x5.length),qS x0 x3 x4 x5||(tG x0 x1 x2 x3 x4 x5 x6 x7 x8||leN x6.length (9223372036854775807:Nat)),qS x0 x3 x4 x5||(tG x0 x1 x2 x3 x4 x5 x6 x7 x8||(!(Jn x1 x5 x6&&true)||leN x7.length (9223372036854775807:Nat))),qS x0 x3 x4 x5||(tG x0 x1 x2 x3 x4 x5 x6 x7 x8||(!((bif Jn x1 x5 x6 then okPl x7 else false)&&true)||leN x8.length (9223372036854775807:Nat)))]
end
def YP:List SV→List Entry→Option Out
 | [.one ⟨true,[.val (.int .i64 x0),.ref 0,.ref 1,.ref 2,.ref 3,.val (.int .i64 x1),.ref 4,.ref 5,.val (.int .i64 x2)]⟩],[.row false 2 (.int .i64) x3,.row false 169 (.pair (.int .i64) (.pair (.int .i64) (.int .i64))) x4,.row false 24 (.sl 2 (.int .i64)) x5,.row false 100 (.pair (.int .i64) (.pair (.int .i64) (.int .i64))) x6,.row false 173 (.pair (.int .i64) (.int .i64)) x7,.row false 176 (.pair (.int .i64) (.int .i64)) x8]=>some ⟨(.one ⟨false,[(.val (.bool (Ra x0 x1 x2 x3 x4 x5 x6 x7 x8)))]⟩),[(.row false 2 amU x3),(.row false 169 amS x4),(.row false 24 (CTy.sl (2:TypeId) amU) x5),(.row false 100 amS x6),(.row false 173 amT x7),(.row false 176 amT x8)],[],[(Rb x0 x1 x2 x3 x4 x5 x6 x7 x8)]⟩
 |_,_=>none
def afM:PF Tryz.prog:=PF.ofG Tryz.prog [wB,PF.lend wB,PF.fz wB,wD,PF.lend wD,PF.fz wD,qi,PF.lend qi,PF.fz qi,qh,PF.lend qh,PF.fz qh,aG,PF.lend aG,PF.fz aG,Zz,tD,PF.lend tD,PF.fz tD,pG,PF.lend pG,PF.fz pG,JQ] [fm.F] ay 23 Tryz.f23 Tryz.func23 (LOk.fnT (l:= [aD Tryz.f23 0]) (by kernel_rfl) (.cons Yx (.nil _))) YP (by
 intro vs es r h;unfold YP at h;split at h
 ·cases h;kernel_rfl
 ·cases h)
section
variable (x3:Int)(x4:List Int)(x5:List (Int×Int×Int))(x6:List (List Int))(x7:List (Int×Int×Int))(x8 x9:List (Int×Int))
def JA:Int:=Jz (FE (rM (ID (eR (szV x3 x4) x5) x6) x7) x8) x9
def jZ:Int:=bif ltI (szV x3 x4) (0:Int)then(-1:Int)else bif ltI (eR (szV x3 x4) x5) (0:Int)then(-1:Int)else bif ltI (ID (eR (szV x3 x4) x5) x6) (0:Int)then(-1:Int)else bif ltI (rM (ID (eR (szV x3 x4) x5) x6) x7) (0:Int)then(-1:Int)else bif ltI (FE (rM (ID (eR (szV x3 x4) x5) x6) x7) x8) (0:Int)then(-1:Int)else bif ltI (JA x3 x4 x5 x6 x7 x8 x9) (0:Int)then(-1:Int)else JA x3 x4 x5 x6 x7 x8 x9
def Me:Bool:=allT [leN x4.length (9223372036854775807:Nat)&&(leI (-1:Int) x3&&leI x3 (1048576:Int)),ltI (szV x3 x4) (0:Int)||(ltI (eR (szV x3 x4) x5) (0:Int)||acb (9223372036854775807:Nat) x6&&(leI (-1:Int) (eR (szV x3 x4) x5)&&leI (eR (szV x3 x4) x5) (1048576:Int)))]
end
def YX:List SV→List Entry→Option Out
 | [.one ⟨true,[.val (.int .i64 _x0),.ref 0,.ref 1,.ref 2,.ref 3,.val (.int .i64 _x1),.ref 4,.ref 5,.val (.int .i64 _x2)]⟩,.one ⟨false,[.val (.int .i64 x3)]⟩],[.row false 2 (.int .i64) x4,.row false 206 (.pair (.int .i64) (.pair (.int .i64) (.int .i64))) x5,.row false 24 (.sl 2 (.int .i64)) x6,.row false 208 (.pair (.int .i64) (.pair (.int .i64) (.int .i64))) x7,.row false 210 (.pair (.int .i64) (.int .i64)) x8,.row false 212 (.pair (.int .i64) (.int .i64)) x9]=>some ⟨(.one ⟨false,[(.val (.int .i64 (jZ x3 x4 x5 x6 x7 x8 x9)))]⟩),[(.row false 2 amU x4),(.row false 206 amS x5),(.row false 24 (CTy.sl (2:TypeId) amU) x6),(.row false 208 amS x7),(.row false 210 amT x8),(.row false 212 amT x9)],[],[(Me x3 x4 x5 x6)]⟩
 |_,_=>none
def Rj:PF Tryz.prog:=PF.ofG Tryz.prog [LJ,PF.lend LJ,PF.fz LJ,ED,PF.lend ED,PF.fz ED,LH,PF.lend LH,PF.fz LH,GK,PF.lend GK,PF.fz GK,OY,PF.lend OY,PF.fz OY,OX,PF.lend OX,PF.fz OX] [] ay 37 Tryz.f37 Tryz.func37 (fun c _=>LOk.nil c) YX (by
 intro vs es r h;unfold YX at h;split at h
 ·cases h;kernel_rfl
 ·cases h)
def Hq(x3:List Int)(x4:List (Int×Int×Int))(x5:List (List Int))(x6:List (Int×Int×Int))(x7 x8:List (Int×Int)):Bool:=allT [leN x3.length (1048576:Nat),leN x4.length (1048576:Nat),acb (1048576:Nat) x5,leN x6.length (1048576:Nat),leN x7.length (1048576:Nat),leN x8.length (1048576:Nat)]
def YZ:List SV→List Entry→Option Out
 | [.one ⟨true,[.val (.int .i64 x0),.ref 0,.ref 1,.ref 2,.ref 3,.val (.int .i64 x1),.ref 4,.ref 5,.val (.int .i64 x2)]⟩],[.row false 2 (.int .i64) x3,.row false 206 (.pair (.int .i64) (.pair (.int .i64) (.int .i64))) x4,.row false 24 (.sl 2 (.int .i64)) x5,.row false 208 (.pair (.int .i64) (.pair (.int .i64) (.int .i64))) x6,.row false 210 (.pair (.int .i64) (.int .i64)) x7,.row false 212 (.pair (.int .i64) (.int .i64)) x8]=>some ⟨(.one ⟨true,[(.val (.int .i64 x0)),(.ref 6),(.ref 7),(.ref 8),(.ref 9),(.val (.int .i64 x1)),(.ref 10),(.ref 11),(.val (.int .i64 x2))]⟩),[(.row false 2 amU x3),(.row false 206 amS x4),(.row false 24 (CTy.sl (2:TypeId) amU) x5),(.row false 208 amS x6),(.row false 210 amT x7),(.row false 212 amT x8)],[(.row true 2 amU x3),(.row true 169 amS x4),(.tree 24 (CTy.sl (2:Nat) amU) x5 none),(.row true 100 amS x6),(.row true 173 amT x7),(.row true 176 amT x8)],[(Hq x3 x4 x5 x6 x7 x8)]⟩
 |_,_=>none
def Rk:PF Tryz.prog:=PF.ofG Tryz.prog [PF.trees Tryz.prog,LL,PF.lend LL,PF.fz LL,EC,PF.lend EC,PF.fz EC,LK,PF.lend LK,PF.fz LK,GJ,PF.lend GJ,PF.fz GJ,OT,PF.lend OT,PF.fz OT,OS,PF.lend OS,PF.fz OS] [] ay 39 Tryz.f39 Tryz.func39 (fun c _=>LOk.nil c) YZ (by
 intro vs es r h;unfold YZ at h;split at h
 ·cases h;kernel_rfl
 ·cases h)
def Mc(x0 x1 x2 x3 x4 x5:Int)(x6:List Int)(x7:List (Int×Int×Int))(x8:List (List Int))(x9:List (Int×Int×Int))(x10 x11:List (Int×Int))(x12:List Int)(x13:List (Int×Int×Int))(x14:List (List Int))(x15:List (Int×Int×Int))(x16 x17:List (Int×Int)):Bool:=bif !eqT x0 x3 x6 x12 then false else bif !KY x7 x13 then false else bif !agK x8 x14 then false else bif !KY x9 x15 then false else bif x1 !=x4 then false else bif !acA x10 x16 then false else bif !acA x11 x17 then false else bif x2 !=x5 then false else true
def Md(x0 x1 x3 x4:Int)(x6:List Int)(x7:List (Int×Int×Int))(x8:List (List Int))(x9:List (Int×Int×Int))(x10 x11:List (Int×Int))(x12:List Int)(x13:List (Int×Int×Int))(x14:List (List Int))(x15:List (Int×Int×Int))(x16:List (Int×Int)):Bool:=allT [leN x6.length (9223372036854775807:Nat),!eqT x0 x3 x6 x12||leN x7.length (9223372036854775807:Nat),!eqT x0 x3 x6 x12||(!KY x7 x13||acb (9223372036854775807:Nat) x8),!eqT x0 x3 x6 x12||(!KY x7 x13||(!agK x8 x14||leN x9.length (9223372036854775807:Nat))),!eqT x0 x3 x6 x12||(!KY x7 x13||(!agK x8 x14||(!KY x9 x15||(x1 !=x4||leN x10.length (9223372036854775807:Nat))))),!eqT x0 x3 x6 x12||(!KY x7 x13||(!agK x8 x14||(!KY x9 x15||(x1 !=x4||(!acA x10 x16||leN x11.length (9223372036854775807:Nat))))))]
def YV:List SV→List Entry→Option Out
 | [.one ⟨true,[.val (.int .i64 x0),.ref 0,.ref 1,.ref 2,.ref 3,.val (.int .i64 x1),.ref 4,.ref 5,.val (.int .i64 x2)]⟩,.one ⟨true,[.val (.int .i64 x3),.ref 6,.ref 7,.ref 8,.ref 9,.val (.int .i64 x4),.ref 10,.ref 11,.val (.int .i64 x5)]⟩],[.row false 2 (.int .i64) x6,.row false 169 (.pair (.int .i64) (.pair (.int .i64) (.int .i64))) x7,.row false 24 (.sl 2 (.int .i64)) x8,.row false 100 (.pair (.int .i64) (.pair (.int .i64) (.int .i64))) x9,.row false 173 (.pair (.int .i64) (.int .i64)) x10,.row false 176 (.pair (.int .i64) (.int .i64)) x11,.row false 2 (.int .i64) x12,.row false 169 (.pair (.int .i64) (.pair (.int .i64) (.int .i64))) x13,.row false 24 (.sl 2 (.int .i64)) x14,.row false 100 (.pair (.int .i64) (.pair (.int .i64) (.int .i64))) x15,.row false 173 (.pair (.int .i64) (.int .i64)) x16,.row false 176 (.pair (.int .i64) (.int .i64)) x17]=>some ⟨(.one ⟨false,[(.val (.bool (Mc x0 x1 x2 x3 x4 x5 x6 x7 x8 x9 x10 x11 x12 x13 x14 x15 x16 x17)))]⟩),[(.row false 2 amU x6),(.row false 169 amS x7),(.row false 24 (CTy.sl (2:TypeId) amU) x8),(.row false 100 amS x9),(.row false 173 amT x10),(.row false 176 amT x11),(.row false 2 amU x12),(.row false 169 amS x13),(.row false 24 (CTy.sl (2:TypeId) amU) x14),(.row false 100 amS x15),(.row false 173 amT x16),(.row false 176 amT x17)],[],[(Md x0 x1 x3 x4 x6 x7 x8 x9 x10 x11 x12 x13 x14 x15 x16)]⟩
 |_,_=>none
def Ri:PF Tryz.prog:=PF.ofG Tryz.prog [LG,PF.lend LG,PF.fz LG,EB,PF.lend EB,PF.fz EB,LF,PF.lend LF,PF.fz LF,GI,PF.lend GI,PF.fz GI,OR,PF.lend OR,PF.fz OR,OQ,PF.lend OQ,PF.fz OQ] [] ay 41 Tryz.f41 Tryz.func41 (fun c _=>LOk.nil c) YV (by
 intro vs es r h;unfold YV at h;split at h
 ·cases h;kernel_rfl
 ·cases h)
end Go.SX

namespace Go.SX
open Go.Proofs
set_option maxRecDepth 100000
def ah1(rs:List (List Int))(b:Nat):Bool:= !(areR (rs[b]?.getD [])&&(((rs[b]?.getD []).length:Int)==rowsR rs))
theorem ah2(rs:List (List Int)):(List.range rs.length).any (ah1 rs)= !rsOk rs:=by
 have key: ∀ (l:List (List Int)) (P:List Int→Bool),((List.range l.length).any fun b=> !P (l[b]?.getD []))= !l.all P:=by
  intro l P
  rw [Bool.eq_iff_iff]
  simp only [List.any_eq_true,List.mem_range,Bool.not_eq_true',List.all_eq_false]
  constructor
  ·rintro⟨b,hb,h⟩
   rw [List.getElem?_eq_getElem hb]at h
   exact⟨l[b],List.getElem_mem hb,by simpa using h⟩
  ·rintro⟨x,hx,h⟩
   obtain⟨b,hb,rfl⟩:=List.getElem_of_mem hx
   exact⟨b,hb,by rw [List.getElem?_eq_getElem hb];simpa using h⟩
 exact key rs fun st=>areR st&&((st.length:Int)==rowsR rs)
def BP(m:Nat)(ps:List Int)(fs:List (Int×Int×Int))(rs:List (List Int))(lf:List (Int×Int×Int))(pl ls:List (Int×Int)):Bool:=leN ps.length m&&(leN fs.length m&&(acb m rs&&(leN lf.length m&&(leN pl.length m&&leN ls.length m))))
theorem LO{m:Nat}{ps:List Int}{fs:List (Int×Int×Int)}{rs:List (List Int)}{lf:List (Int×Int×Int)}{pl ls:List (Int×Int)}:
  BP m ps fs rs lf pl ls=true↔ps.length≤m∧fs.length≤m∧(rs.length≤m∧ ∀ x∈rs,x.length≤m)∧lf.length≤m∧pl.length≤m∧ls.length≤m:=by
 simp only [BP,Bool.and_eq_true,eP,aaH]
theorem ak5(x y:List Int):(bif !areR x then true else((bif !!areR x&&true then x else []).length:Int)!=(y.length:Int))= !(areR x&&((x.length:Int)==(y.length:Int))):=by
 cases h:areR x <;> simp [bne]
theorem ak6(x y:List Int):(bif !areR x then true else(x.length:Int)!=((bif !!areR x&&true then y else []).length:Int))= !(areR x&&((x.length:Int)==(y.length:Int))):=by
 cases h:areR x <;> simp [bne]
theorem akX(rs:List (List Int))(b:Nat):Tk (b:Int) rs=ah1 rs b:=by
 exact ak5 (rs[b]?.getD []) (rs[0]?.getD [])
theorem akC(rs:List (List Int))(b:Nat):SK (b:Int) rs=ah1 rs b:=by
 exact ak6 (rs[b]?.getD []) (rs[0]?.getD [])
theorem ajl(n mode day:Int)(ps:List Int)(fs:List (Int×Int×Int))(rs:List (List Int))(lf:List (Int×Int×Int))(pl ls:List (Int×Int))(hn:rs.length≤9223372036854775807)(hA: ∀ x∈rs,x.length≤9223372036854775807):
  fq.fin ((0:Int),n,mode,day,ps,fs,rs,lf,pl,ls)=true∧(fq.res ((0:Int),n,mode,day,ps,fs,rs,lf,pl,ls)).1=bif !rsOk rs then 0 else 1:=by
 rw [← ah2]
 refine Lp.scan fq (fun b=>((b:Int),n,mode,day,ps,fs,rs,lf,pl,ls)) rs.length (ah1 rs) 1 (by simp only [fq];omega) (fun b hb=> ?_) ?_
 ·have hdec:ltI (b:Int) (rs.length:Int)=true:=db (by omega)
  have hdec0:ltI 0 (rs.length:Int)=true:=db (by omega)
  have hw:IntKind.i64.wrap ((b:Int) + 1)=((b + 1:Nat):Int):=by rw [bp (by omega) (by omega)];omega
  have hnn:leI (0:Int) (b:Int)=true:=bZ (by omega)
  have hltd:ltN b rs.length=true:=dK (by omega)
  have hlt0:ltN 0 rs.length=true:=dK (by omega)
  have h6:leN (j6 (b:Int) rs).length 9223372036854775807=true:=hY (by
   simp only [j6,Int.toNat_natCast]
   cases hq:rs[b]? with
   |none=>exact Nat.zero_le _
   |some x=>exact hA x (List.mem_of_getElem? hq))
  have i2:=akX rs b
  refine⟨?_,?_,?_⟩
  ·simp [fq,zL,LT.nds,allT,Cb,Td,Te,Tf,Tg,Th,Ti,Tj,uS,hdec,hdec0,hnn,hltd,hlt0,h6]
  ·simp [fq,zL,LT.each,Tl,hw]
  ·simp only [fq,zL,LT.fn,Cb,hdec,i2,cond_true]
 ·simp [fq,zL,LT.out,Cb]
theorem ajk(n mode day:Int)(ps:List Int)(fs:List (Int×Int×Int))(rs:List (List Int))(lf:List (Int×Int×Int))(pl ls:List (Int×Int))(hn:rs.length≤9223372036854775807)(hA: ∀ x∈rs,x.length≤9223372036854775807):
  fm.fin ((0:Int),(rs.length:Int),rs,n,mode,day,ps,fs,lf,pl,ls)=true∧(fm.res ((0:Int),(rs.length:Int),rs,n,mode,day,ps,fs,lf,pl,ls)).1=bif !rsOk rs then 0 else 1:=by
 rw [← ah2]
 refine Lp.scan fm (fun b=>((b:Int),(rs.length:Int),rs,n,mode,day,ps,fs,lf,pl,ls)) rs.length (ah1 rs) 1 (by simp only [fm];omega) (fun b hb=> ?_) ?_
 ·have hdec:ltI (b:Int) (rs.length:Int)=true:=db (by omega)
  have hdec0:ltI 0 (rs.length:Int)=true:=db (by omega)
  have hw:IntKind.i64.wrap ((b:Int) + 1)=((b + 1:Nat):Int):=by rw [bp (by omega) (by omega)];omega
  have hnn:leI (0:Int) (b:Int)=true:=bZ (by omega)
  have hltd:ltN b rs.length=true:=dK (by omega)
  have hlt0:ltN 0 rs.length=true:=dK (by omega)
  have h6:leN (lZ (b:Int) rs).length 9223372036854775807=true:=hY (by
   simp only [lZ,Int.toNat_natCast]
   cases hq:rs[b]? with
   |none=>exact Nat.zero_le _
   |some x=>exact hA x (List.mem_of_getElem? hq))
  have i2:=akC rs b
  have h00:leI 0 0=true:=rfl
  refine⟨?_,?_,?_⟩
  ·simp [fm,zJ,LT.nds,allT,Gl,SD,SE,SF,SG,SH,SI,SJ,hdec,hdec0,hnn,hltd,hlt0,h6,h00]
  ·simp [fm,zJ,LT.each,SL,hw]
  ·simp only [fm,zJ,LT.fn,Gl,hdec,i2,cond_true]
 ·simp [fm,zJ,LT.out,Gl]
theorem alq{n:Int}{ps:List Int}(h:isT n ps=true):inR n 2 8=true:=pF.2 (yK.1 h).1
theorem akp(a b:Nat):((a:Int)!=(b:Int))= !decide (a=b):=by
 by_cases h:a=b
 ·subst h;simp
 ·have:(a:Int)≠(b:Int):=by omega
  simp [h,this]
theorem aid(n mode day:Int)(ps:List Int)(fs:List (Int×Int×Int))(rs:List (List Int))(lf:List (Int×Int×Int))(pl ls:List (Int×Int))(h:BP 9223372036854775807 ps fs rs lf pl ls=true):
  Ry n mode day ps fs rs lf pl ls=nW n ps fs rs lf mode pl ls day∧Rz n mode day ps fs rs lf pl ls=true:=by
 obtain⟨h1,h2,⟨h3,h4⟩,h5,h6,h7⟩:=LO.1 h
 obtain⟨w1,w2⟩:=ajl n mode day ps fs rs lf pl ls h3 h4
 have e:vD (CTy.sl (2:TypeId) amU)= []:=rfl
 have er:uR rs=rowsR rs:=rfl
 have q5:leN lf.length 9223372036854775807=true:=hY h5
 have q6:leN pl.length 9223372036854775807=true:=hY h6
 have q7:leN ls.length 9223372036854775807=true:=hY h7
 have q2:leN fs.length 9223372036854775807=true:=hY h2
 simp only [Ry,Rz,yq,Pw,Ca,Px,w1,w2,er,akp,nW,Kz,aJ,rY,allT,q2,q5,q6,q7,Bool.or_true,cond_true]
 cases hT:isT n ps with
 |false=>simp
 |true=>
  rw [alq hT]
  cases hF:okFs n fs with
  |false=>simp
  |true=>
   cases hl:decide (rs.length=ps.length)with
   |false=>simp
   |true=>
    have hl:rs.length=ps.length:=by simpa using hl
    have:=(yK.1 hT).2.1
    have r1:uS rs=true:=by
     have a1:ltI 0 (rs.length:Int)=true:=db (by omega)
     have a2:ltN 0 rs.length=true:=dK (by omega)
     simp [uS,allT,a1,a2]
    cases rsOk rs with
    |false=>simp
    |true=>
     rw [r1]
     cases lfOk (rowsR rs) lf <;> cases inR mode 0 5 <;> cases okPl pl <;> cases okLk ls <;> simp [Nat.beq]
theorem ahK(n mode day:Int)(ps:List Int)(fs:List (Int×Int×Int))(rs:List (List Int))(lf:List (Int×Int×Int))(pl ls:List (Int×Int))(h:BP 9223372036854775807 ps fs rs lf pl ls=true):
  Ra n mode day ps fs rs lf pl ls=nW n ps fs rs lf mode pl ls day∧Rb n mode day ps fs rs lf pl ls=true:=by
 obtain⟨h1,h2,⟨h3,h4⟩,h5,h6,h7⟩:=LO.1 h
 obtain⟨w1,w2⟩:=ajk n mode day ps fs rs lf pl ls h3 h4
 have e:vD (CTy.sl (2:TypeId) amU)= []:=rfl
 have er:Jn mode rs lf=(bif lfOk (rowsR rs) lf then Mb mode else false):=rfl
 have q5:leN lf.length 9223372036854775807=true:=hY h5
 have q6:leN pl.length 9223372036854775807=true:=hY h6
 have q7:leN ls.length 9223372036854775807=true:=hY h7
 have q2:leN fs.length 9223372036854775807=true:=hY h2
 have h00:leI 0 0=true:=rfl
 simp only [Ra,Rb,qS,OE,tG,er,w1,w2,akp,nW,Mb,tB,aZ,rY,allT,q2,q5,q6,q7,h00,Bool.or_true,cond_true]
 cases hT:isT n ps with
 |false=>simp
 |true=>
  cases hF:okFs n fs with
  |false=>simp
  |true=>
   cases hl:decide (rs.length=ps.length)with
   |false=>simp
   |true=>
    have hl:rs.length=ps.length:=by simpa using hl
    have:=(yK.1 hT).2.1
    have a1:ltI 0 (rs.length:Int)=true:=db (by omega)
    have a2:ltN (Int.toNat 0) rs.length=true:=dK (by simp;omega)
    rw [a1,a2]
    cases rsOk rs with
    |false=>simp
    |true=>
     cases lfOk (rowsR rs) lf <;> cases inR mode 0 5 <;> cases okPl pl <;> cases okLk ls <;> simp [Nat.beq]
theorem aiV{n:Int}{ps:List Int}{fs:List (Int×Int×Int)}{rs:List (List Int)}{lf:List (Int×Int×Int)}{mode:Int}{pl ls:List (Int×Int)}{day:Int}:
  nW n ps fs rs lf mode pl ls day=true↔isT n ps=true∧okFs n fs=true∧rs.length=ps.length∧rsOk rs=true∧lfOk (rowsR rs) lf=true∧inR mode 0 5=true∧okPl pl=true∧okLk ls=true∧inR day 0 100000=true:=by
 simp only [nW,Bool.and_eq_true,decide_eq_true_eq]
theorem ahS{n:Int}{fs:List (Int×Int×Int)}(h:okFs n fs=true):fs.length≤8:=by
 simp only [okFs,Bool.and_eq_true,eP]at h;exact h.1
theorem akH{n:Int}{fs:List (Int×Int×Int)}(h:lfOk n fs=true):fs.length≤8:=by
 simp only [lfOk,Bool.and_eq_true]at h;exact ahS h.2
def Zn:List SV→List Entry→Option Out
 | [.one ⟨true,[.val (.int .i64 x0),.ref 0,.ref 1,.ref 2,.ref 3,.val (.int .i64 x1),.ref 4,.ref 5,.val (.int .i64 x2)]⟩],[.row false 2 (.int .i64) x3,.row false 169 (.pair (.int .i64) (.pair (.int .i64) (.int .i64))) x4,.row false 24 (.sl 2 (.int .i64)) x5,.row false 100 (.pair (.int .i64) (.pair (.int .i64) (.int .i64))) x6,.row false 173 (.pair (.int .i64) (.int .i64)) x7,.row false 176 (.pair (.int .i64) (.int .i64)) x8]=>some ⟨(.one ⟨false,[(.val (.bool (nW x0 x3 x4 x5 x6 x1 x7 x8 x2)))]⟩),[(.row false 2 amU x3),(.row false 169 amS x4),(.row false 24 (CTy.sl (2:TypeId) amU) x5),(.row false 100 amS x6),(.row false 173 amT x7),(.row false 176 amT x8)],[],[BP 9223372036854775807 x3 x4 x5 x6 x7 x8]⟩
 |_,_=>none
def nB:PF Tryz.prog:=PF.alt afP Zn (by
 intro args es o h hnd;unfold Zn at h;split at h
 ·rename_i x0 x1 x2 x3 x4 x5 x6 x7 x8
  cases h
  have hnd:=eD hnd
  have hh:=aid x0 x1 x2 x3 x4 x5 x6 x7 x8 hnd
  obtain⟨e0,en⟩:=hh
  exact gW rfl (eN en) (by simp only [e0] <;> rfl) rfl rfl
 ·cases h)
def Zl:List SV→List Entry→Option Out
 | [.one ⟨true,[.val (.int .i64 x0),.ref 0,.ref 1,.ref 2,.ref 3,.val (.int .i64 x1),.ref 4,.ref 5,.val (.int .i64 x2)]⟩],[.row false 2 (.int .i64) x3,.row false 169 (.pair (.int .i64) (.pair (.int .i64) (.int .i64))) x4,.row false 24 (.sl 2 (.int .i64)) x5,.row false 100 (.pair (.int .i64) (.pair (.int .i64) (.int .i64))) x6,.row false 173 (.pair (.int .i64) (.int .i64)) x7,.row false 176 (.pair (.int .i64) (.int .i64)) x8]=>some ⟨(.one ⟨false,[(.val (.bool (nW x0 x3 x4 x5 x6 x1 x7 x8 x2)))]⟩),[(.row false 2 amU x3),(.row false 169 amS x4),(.row false 24 (CTy.sl (2:TypeId) amU) x5),(.row false 100 amS x6),(.row false 173 amT x7),(.row false 176 amT x8)],[],[BP 9223372036854775807 x3 x4 x5 x6 x7 x8]⟩
 |_,_=>none
def Rg:PF Tryz.prog:=PF.alt afM Zl (by
 intro args es o h hnd;unfold Zl at h;split at h
 ·rename_i x0 x1 x2 x3 x4 x5 x6 x7 x8
  cases h
  have hnd:=eD hnd
  have hh:=ahK x0 x1 x2 x3 x4 x5 x6 x7 x8 hnd
  obtain⟨e0,en⟩:=hh
  exact gW rfl (eN en) (by simp only [e0] <;> rfl) rfl rfl
 ·cases h)
end Go.SX

namespace Go.SX
open Go.Proofs
set_option maxRecDepth 100000
def GH(x0:Int)(x1:List (Int×Int×(Int×Int)×Int×Int×Bool)):Int:=IntKind.wrap .i64 (x0 - (↑x1.length:Int))
def Ib(x0:Int)(x1:List (Int×Int×(Int×Int)×Int×Int×Bool)):Int:=bif ltI (GH x0 x1) (0:Int)then(-1:Int)else GH x0 x1
def Ob:List SV→List Entry→Option Out
 | [.one ⟨false,[.ref 0]⟩,.one ⟨false,[.val (.int .i64 x0)]⟩],[.row false 83 (.pair (.int .i64) (.pair (.int .i64) (.pair (.pair (.int .i64) (.int .i64)) (.pair (.int .i64) (.pair (.int .i64) (.bool)))))) x1]=>some ⟨(.one ⟨false,[(.val (.int .i64 (Ib x0 x1)))]⟩),[(.row false 83 amR x1)],[],[]⟩
 |_,_=>none
def aaC:PF Tryz.prog:=PF.ofG Tryz.prog [] [] ay 38 Tryz.f38 Tryz.func38 (fun c _=>LOk.nil c) Ob (by
 intro vs es r h;unfold Ob at h;split at h
 ·cases h;kernel_rfl
 ·cases h)
def Jg:List SV→List Entry→Option Out
 | [.one ⟨true,[.val (.int .i64 x0),.val (.int .i64 x1)]⟩],[]=>some ⟨(.one ⟨true,[(.val (.int .i64 x0)),(.val (.int .i64 x1))]⟩),[],[],[]⟩
 |_,_=>none
def Ue:PF Tryz.prog:=PF.ofG Tryz.prog [] [] ay 123 Tryz.f123 Tryz.func123 (fun c _=>LOk.nil c) Jg (by
 intro vs es r h;unfold Jg at h;split at h
 ·cases h;kernel_rfl
 ·cases h)
def RP:List SV→List Entry→Option Out
 | [.one ⟨true,[.val (.int .i64 x0),.val (.int .i64 x1),.val (.bool x2)]⟩],[]=>some ⟨(.one ⟨true,[(.val (.int .i64 x0)),(.val (.int .i64 x1)),(.val (.bool x2))]⟩),[],[],[]⟩
 |_,_=>none
def ac6:PF Tryz.prog:=PF.ofG Tryz.prog [] [] ay 124 Tryz.f124 Tryz.func124 (fun c _=>LOk.nil c) RP (by
 intro vs es r h;unfold RP at h;split at h
 ·cases h;kernel_rfl
 ·cases h)
def Qn:List SV→List Entry→Option Out
 | [.one ⟨true,[.val (.int .i64 x0),.val (.int .i64 x1),.val (.int .i64 x2),.val (.int .i64 x3),.val (.int .i64 x4),.val (.int .i64 x5),.val (.bool x6)]⟩],[]=>some ⟨(.one ⟨true,[(.val (.int .i64 x0)),(.val (.int .i64 x1)),(.val (.int .i64 x2)),(.val (.int .i64 x3)),(.val (.int .i64 x4)),(.val (.int .i64 x5)),(.val (.bool x6))]⟩),[],[],[]⟩
 |_,_=>none
def QF:PF Tryz.prog:=PF.ofG Tryz.prog [Ue,ac6] [] ay 43 Tryz.f43 Tryz.func43 (fun c _=>LOk.nil c) Qn (by
 intro vs es r h;unfold Qn at h;split at h
 ·cases h;kernel_rfl
 ·cases h)
abbrev gn:=Int×List (Int×(Int×((Int×Int)×(Int×(Int×Bool)))))×List (Int×(Int×((Int×Int)×(Int×(Int×Bool)))))
def nS(y0:Int)(y1:List (Int×(Int×((Int×Int)×(Int×(Int×Bool)))))):Int×Int×(Int×Int)×Int×Int×Bool:=Option.getD y1[Int.toNat y0]? ((0:Int),(0:Int),((0:Int),(0:Int)),(0:Int),(0:Int),false)
def nT(y0:Int)(y1:List (Int×(Int×((Int×Int)×(Int×(Int×Bool)))))):Int×(Int×Int)×Int×Int×Bool:=(nS y0 y1).2
def iR(y0:Int)(y1:List (Int×(Int×((Int×Int)×(Int×(Int×Bool)))))):(Int×Int)×Int×Int×Bool:=(nT y0 y1).2
def nU(y0:Int)(y1:List (Int×(Int×((Int×Int)×(Int×(Int×Bool)))))):Int×Bool:=(iR y0 y1).2.2
def pc(y0:Int)(y1:List (Int×(Int×((Int×Int)×(Int×(Int×Bool)))))):Bool:=ltI y0 (↑y1.length:Int)
def pd(y0:Int):Bool:=leI (0:Int) y0
def sw(y0:Int)(y1:List (Int×(Int×((Int×Int)×(Int×(Int×Bool)))))):Bool:=ltN y0.toNat y1.length
def sx(y0:Int)(y2:List (Int×(Int×((Int×Int)×(Int×(Int×Bool)))))):Bool:=ltI y0 (↑y2.length:Int)
def sy(y0:Int)(y2:List (Int×(Int×((Int×Int)×(Int×(Int×Bool)))))):Bool:=ltN y0.toNat y2.length
def sz(y0:Int):Int:=IntKind.wrap .i64 (y0 + (1:Int))
def sA(y0:Int)(y1 y2:List (Int×(Int×((Int×Int)×(Int×(Int×Bool)))))):List (Int×(Int×((Int×Int)×(Int×(Int×Bool))))):=List.set y2 y0.toNat ((nS y0 y1).1,(nT y0 y1).1,((iR y0 y1).1.1,(iR y0 y1).1.2),((iR y0 y1).2).1,(nU y0 y1).1,(nU y0 y1).2)
def Tv:gn→List (Nat×SV)
 |(y0,_,_)=> [(4,(.one ⟨false,[(.val (.int .i64 y0))]⟩)),(0,(.one ⟨false,[(.ref 0)]⟩)),(3,(.one ⟨false,[(.ref 1)]⟩))]
def Tt:gn→List (Nat×Entry)
 |(_,y1,y2)=> [(0,(.row false 83 amR y1)),(1,(.row true 49 amR y2))]
def Tz:Nat→gn→List (Nat×SV)
 |_,(_,_,_)=> []
def Tx:Nat→gn→List (Nat×Entry)
 |_,(_,y1,y2)=> [(0,(.row false 83 amR y1)),(1,(.row true 49 amR y2))]
def ri:gn→LT gn
 |(y0,y1,y2)=> .ite (pc y0 y1) (.need [(pd y0),(pc y0 y1),(sw y0 y1),(pd y0),(sx y0 y2),(sy y0 y2)] (.nrm ((sz y0),y1,(sA y0 y1 y2)) [(0,0),(1,1)])) (.ext 0 [(0,0),(1,1)])
def DG(s:St):Option gn:=
 (match s.look 4 with
 |some ⟨none,(.one ⟨false,[(.val (.int .i64 y0))]⟩)⟩=>
 (match s.look 0 with
 |some ⟨none,(.one ⟨false,[(.ref 0)]⟩)⟩=>
 (match s.look 3 with
 |some ⟨none,(.one ⟨false,[(.ref 320)]⟩)⟩=>
 (match s.ent 0 with
 |some (.row false 83 (.pair (.int .i64) (.pair (.int .i64) (.pair (.pair (.int .i64) (.int .i64)) (.pair (.int .i64) (.pair (.int .i64) .bool))))) y1)=>
 (match s.ent 320 with
 |some (.row true 49 (.pair (.int .i64) (.pair (.int .i64) (.pair (.pair (.int .i64) (.int .i64)) (.pair (.int .i64) (.pair (.int .i64) .bool))))) y2)=>
 some (y0,y1,y2)
 |_=>none)
 |_=>none)
 |_=>none)
 |_=>none)
 |_=>none)
def cz:Lp gn where
 h:=⟨[8,9,10,11,14,15,16,17,18,19,20,21,12,13,4],[0,1],[],[]⟩
 JL:=Tv
 JE:=Tt
 XL:=Tz
 XE:=Tx
 q:=fun j=>match j with | _=> .exit 0
 tags:= [0]
 lt:=ri
 fuel:=fun(y0,y1,y2)=>y0.natAbs + y1.length + y2.length
 fix:=fun(_,y1,_) (y0,_,y2)=>(y0,y1,y2)
 σ:= [(0,0),(1,320)]
 rd:=DG
theorem Rf:LoopOk Tryz.prog (fun k=>Nat.blt k Tryz.f40.ntmps) cz.F (aD Tryz.f40 0):=by
 refine Lp.ok (tbl:= [QF]) (lf:= []) ay cz (by kernel_rfl) (LOk.nil _) (fun _=>rfl) (fun _ _=>rfl) ?_ ?_ ?_ ?_ (fun _=>rfl) ?_
 ·intro x;obtain⟨y0,y1,y2⟩:=x;kernel_rfl
 ·intro x;obtain⟨y0,y1,y2⟩:=x;kernel_rfl
 ·intro s x h
  have h:DG s=some x:=h
  unfold DG at h
  repeat' split at h
  all_goals cases h
  exact⟨aa (by assumption) rfl (aa (by assumption) rfl (aa (by assumption) rfl (rfl))),ac rfl (by assumption) rfl (ac rfl (by assumption) rfl (rfl))⟩
 ·intro x;obtain⟨y0,y1,y2⟩:=x;kernel_rfl
 ·intro x z;obtain⟨y0,y1,y2⟩:=x;exact(And.intro rfl trivial)
section
variable (x0:List (Int×Int×(Int×Int)×Int×Int×Bool))
def lw:Int:=(↑x0.length:Int)
def Bw:Int×List (Int×Int×(Int×Int)×Int×Int×Bool)×List (Int×Int×(Int×Int)×Int×Int×Bool):=((0:Int),x0,List.replicate (Int.toNat (lw x0)) ((0:Int),(0:Int),((0:Int),(0:Int)),(0:Int),(0:Int),false))
def Dw:List (Int×(Int×((Int×Int)×(Int×(Int×Bool))))):=(Lp.res cz (Bw x0)).2.2.2
def Dx:Bool:=allT [leI (0:Int) (lw x0),leI (lw x0) (lw x0),leI ((↑(56:Nat):Int) * lw x0) (281474976710656:Int),leI (lw x0) (9223372036854775807:Int),Lp.fin cz (Bw x0)]
end
def Od:List SV→List Entry→Option Out
 | [.one ⟨false,[.ref 0]⟩],[.row false 83 (.pair (.int .i64) (.pair (.int .i64) (.pair (.pair (.int .i64) (.int .i64)) (.pair (.int .i64) (.pair (.int .i64) (.bool)))))) x0]=>some ⟨(.one ⟨false,[(.ref 1)]⟩),[(.row false 83 amR x0)],[(.row true 49 amR (Dw x0))],[(Dx x0)]⟩
 |_,_=>none
def aaD:PF Tryz.prog:=PF.ofG Tryz.prog [QF] [cz.F] ay 40 Tryz.f40 Tryz.func40 (LOk.fnT (l:= [aD Tryz.f40 0]) (by kernel_rfl) (.cons Rf (.nil _))) Od (by
 intro vs es r h;unfold Od at h;split at h
 ·cases h;kernel_rfl
 ·cases h)
def Dt(x0 x1 x2 x3:Int):Bool:=bif x0 !=x2 then false else bif x1 !=x3 then false else true
def Jf:List SV→List Entry→Option Out
 | [.one ⟨true,[.val (.int .i64 x0),.val (.int .i64 x1)]⟩,.one ⟨true,[.val (.int .i64 x2),.val (.int .i64 x3)]⟩],[]=>some ⟨(.one ⟨false,[(.val (.bool (Dt x0 x1 x2 x3)))]⟩),[],[],[]⟩
 |_,_=>none
def Ud:PF Tryz.prog:=PF.ofG Tryz.prog [] [] ay 198 Tryz.f198 Tryz.func198 (fun c _=>LOk.nil c) Jf (by
 intro vs es r h;unfold Jf at h;split at h
 ·cases h;kernel_rfl
 ·cases h)
def Lo(x0 x1:Int)(x2:Bool)(x3 x4:Int)(x5:Bool):Bool:=bif x0 !=x3 then false else bif x1 !=x4 then false else bif !x2==x5 then false else true
def RK:List SV→List Entry→Option Out
 | [.one ⟨true,[.val (.int .i64 x0),.val (.int .i64 x1),.val (.bool x2)]⟩,.one ⟨true,[.val (.int .i64 x3),.val (.int .i64 x4),.val (.bool x5)]⟩],[]=>some ⟨(.one ⟨false,[(.val (.bool (Lo x0 x1 x2 x3 x4 x5)))]⟩),[],[],[]⟩
 |_,_=>none
def ac1:PF Tryz.prog:=PF.ofG Tryz.prog [] [] ay 199 Tryz.f199 Tryz.func199 (fun c _=>LOk.nil c) RK (by
 intro vs es r h;unfold RK at h;split at h
 ·cases h;kernel_rfl
 ·cases h)
def zo(x0 x1 x2 x3 x4 x5:Int)(x6:Bool)(x7 x8 x9 x10 x11 x12:Int)(x13:Bool):Bool:=bif x0 !=x7 then false else bif x1 !=x8 then false else bif !Dt x2 x3 x9 x10 then false else bif !Lo x4 x5 x6 x11 x12 x13 then false else true
def Qm:List SV→List Entry→Option Out
 | [.one ⟨true,[.val (.int .i64 x0),.val (.int .i64 x1),.val (.int .i64 x2),.val (.int .i64 x3),.val (.int .i64 x4),.val (.int .i64 x5),.val (.bool x6)]⟩,.one ⟨true,[.val (.int .i64 x7),.val (.int .i64 x8),.val (.int .i64 x9),.val (.int .i64 x10),.val (.int .i64 x11),.val (.int .i64 x12),.val (.bool x13)]⟩],[]=>some ⟨(.one ⟨false,[(.val (.bool (zo x0 x1 x2 x3 x4 x5 x6 x7 x8 x9 x10 x11 x12 x13)))]⟩),[],[],[]⟩
 |_,_=>none
def QE:PF Tryz.prog:=PF.ofG Tryz.prog [Ud,ac1] [] ay 122 Tryz.f122 Tryz.func122 (fun c _=>LOk.nil c) Qm (by
 intro vs es r h;unfold Qm at h;split at h
 ·cases h;kernel_rfl
 ·cases h)
abbrev gm:=Int×List (Int×(Int×((Int×Int)×(Int×(Int×Bool)))))×List (Int×(Int×((Int×Int)×(Int×(Int×Bool)))))
def nK(y0:Int)(y1:List (Int×(Int×((Int×Int)×(Int×(Int×Bool)))))):Int×Int×(Int×Int)×Int×Int×Bool:=Option.getD y1[Int.toNat y0]? ((0:Int),(0:Int),((0:Int),(0:Int)),(0:Int),(0:Int),false)
def nL(y0:Int)(y1:List (Int×(Int×((Int×Int)×(Int×(Int×Bool)))))):Int×(Int×Int)×Int×Int×Bool:=(nK y0 y1).2
def iO(y0:Int)(y1:List (Int×(Int×((Int×Int)×(Int×(Int×Bool)))))):(Int×Int)×Int×Int×Bool:=(nL y0 y1).2
def nM(y0:Int)(y1:List (Int×(Int×((Int×Int)×(Int×(Int×Bool)))))):Int×Bool:=(iO y0 y1).2.2
def nN(y0:Int)(y2:List (Int×(Int×((Int×Int)×(Int×(Int×Bool)))))):Int×Int×(Int×Int)×Int×Int×Bool:=Option.getD y2[Int.toNat y0]? ((0:Int),(0:Int),((0:Int),(0:Int)),(0:Int),(0:Int),false)
def nO(y0:Int)(y2:List (Int×(Int×((Int×Int)×(Int×(Int×Bool)))))):Int×(Int×Int)×Int×Int×Bool:=(nN y0 y2).2
def iP(y0:Int)(y2:List (Int×(Int×((Int×Int)×(Int×(Int×Bool)))))):(Int×Int)×Int×Int×Bool:=(nO y0 y2).2
def nP(y0:Int)(y2:List (Int×(Int×((Int×Int)×(Int×(Int×Bool)))))):Int×Bool:=(iP y0 y2).2.2
def pa(y0:Int)(y1:List (Int×(Int×((Int×Int)×(Int×(Int×Bool)))))):Bool:=ltI y0 (↑y1.length:Int)
def pb(y0:Int):Bool:=leI (0:Int) y0
def sn(y0:Int)(y1:List (Int×(Int×((Int×Int)×(Int×(Int×Bool)))))):Bool:=ltN y0.toNat y1.length
def sq(y0:Int)(y2:List (Int×(Int×((Int×Int)×(Int×(Int×Bool)))))):Bool:=ltI y0 (↑y2.length:Int)
def sr(y0:Int)(y2:List (Int×(Int×((Int×Int)×(Int×(Int×Bool)))))):Bool:=ltN y0.toNat y2.length
def su(y0:Int)(y1 y2:List (Int×(Int×((Int×Int)×(Int×(Int×Bool)))))):Bool:= !zo ((nK y0 y1).1) ((nL y0 y1).1) ((iO y0 y1).1.1) ((iO y0 y1).1.2) (((iO y0 y1).2).1) ((nM y0 y1).1) ((nM y0 y1).2) ((nN y0 y2).1) ((nO y0 y2).1) ((iP y0 y2).1.1) ((iP y0 y2).1.2) (((iP y0 y2).2).1) ((nP y0 y2).1) ((nP y0 y2).2)
def sv(y0:Int):Int:=IntKind.wrap .i64 (y0 + (1:Int))
def Tu:gm→List (Nat×SV)
 |(y0,_,_)=> [(5,(.one ⟨false,[(.val (.int .i64 y0))]⟩)),(0,(.one ⟨false,[(.ref 0)]⟩)),(1,(.one ⟨false,[(.ref 1)]⟩))]
def Ts:gm→List (Nat×Entry)
 |(_,y1,y2)=> [(0,(.row false 49 amR y1)),(1,(.row false 49 amR y2))]
def Ty:Nat→gm→List (Nat×SV)
 |0,(_,_,_)=> [(4,(.one ⟨false,[(.val (.bool false))]⟩))]
 |_,(_,_,_)=> []
def Tw:Nat→gm→List (Nat×Entry)
 |0,(_,y1,y2)=> [(0,(.row false 49 amR y1)),(1,(.row false 49 amR y2))]
 |_,(_,y1,y2)=> [(0,(.row false 49 amR y1)),(1,(.row false 49 amR y2))]
def rh:gm→LT gm
 |(y0,y1,y2)=> .ite (pa y0 y1) (.need [(pb y0),(pa y0 y1),(sn y0 y1),(pb y0),(sq y0 y2),(sr y0 y2)] (.ite (su y0 y1 y2) (.ext 0 [(0,0),(1,1)]) (.nrm ((sv y0),y1,y2) [(0,0),(1,1)]))) (.ext 1 [(0,0),(1,1)])
def DF(s:St):Option gm:=
 (match s.look 5 with
 |some ⟨none,(.one ⟨false,[(.val (.int .i64 y0))]⟩)⟩=>
 (match s.look 0 with
 |some ⟨none,(.one ⟨false,[(.ref 0)]⟩)⟩=>
 (match s.look 1 with
 |some ⟨none,(.one ⟨false,[(.ref 1)]⟩)⟩=>
 (match s.ent 0 with
 |some (.row false 49 (.pair (.int .i64) (.pair (.int .i64) (.pair (.pair (.int .i64) (.int .i64)) (.pair (.int .i64) (.pair (.int .i64) .bool))))) y1)=>
 (match s.ent 1 with
 |some (.row false 49 (.pair (.int .i64) (.pair (.int .i64) (.pair (.pair (.int .i64) (.int .i64)) (.pair (.int .i64) (.pair (.int .i64) .bool))))) y2)=>
 some (y0,y1,y2)
 |_=>none)
 |_=>none)
 |_=>none)
 |_=>none)
 |_=>none)
def bW:Lp gm where
 h:=⟨[11,12,13,14,17,18,19,20,21,22,23,24,25,26,4,15,16,5],[0,1],[],[]⟩
 JL:=Tu
 JE:=Ts
 XL:=Ty
 XE:=Tw
 q:=fun j=>match j with | 0=> .ret | _=> .exit 0
 tags:= [0,1]
 lt:=rh
 fuel:=fun(y0,y1,y2)=>y0.natAbs + y1.length + y2.length
 fix:=fun(_,y1,y2) (y0,_,_)=>(y0,y1,y2)
 σ:= [(0,0),(1,1)]
 rd:=DF
theorem Re:LoopOk Tryz.prog (fun k=>Nat.blt k Tryz.f42.ntmps) bW.F (aD Tryz.f42 0):=by
 refine Lp.ok (tbl:= [QE]) (lf:= []) ay bW (by kernel_rfl) (LOk.nil _) (fun _=>rfl) (fun j _=>by unfold bW;match j with | 0=>rfl | _ + 1=>rfl) ?_ ?_ ?_ ?_ (fun _=>rfl) ?_
 ·intro x;obtain⟨y0,y1,y2⟩:=x;kernel_rfl
 ·intro x;obtain⟨y0,y1,y2⟩:=x;kernel_rfl
 ·intro s x h
  have h:DF s=some x:=h
  unfold DF at h
  repeat' split at h
  all_goals cases h
  exact⟨aa (by assumption) rfl (aa (by assumption) rfl (aa (by assumption) rfl (rfl))),ac rfl (by assumption) rfl (ac rfl (by assumption) rfl (rfl))⟩
 ·intro x;obtain⟨y0,y1,y2⟩:=x;kernel_rfl
 ·intro x z;obtain⟨y0,y1,y2⟩:=x;exact(And.intro (And.intro trivial rfl) trivial)
section
variable (x0 x1:List (Int×Int×(Int×Int)×Int×Int×Bool))
def Bl:Bool:=(↑x0.length:Int)!=(↑x1.length:Int)
def Bm:Int×List (Int×Int×(Int×Int)×Int×Int×Bool)×List (Int×Int×(Int×Int)×Int×Int×Bool):=((0:Int),x0,x1)
def Du:Bool:=bif Bl x0 x1 then false else bif Nat.beq ((Lp.res bW (Bm x0 x1)).1) (0:Nat)then false else true
def Dv:Bool:=allT [Bl x0 x1||Lp.fin bW (Bm x0 x1)]
end
def Oa:List SV→List Entry→Option Out
 | [.one ⟨false,[.ref 0]⟩,.one ⟨false,[.ref 1]⟩],[.row false 49 (.pair (.int .i64) (.pair (.int .i64) (.pair (.pair (.int .i64) (.int .i64)) (.pair (.int .i64) (.pair (.int .i64) (.bool)))))) x0,.row false 49 (.pair (.int .i64) (.pair (.int .i64) (.pair (.pair (.int .i64) (.int .i64)) (.pair (.int .i64) (.pair (.int .i64) (.bool)))))) x1]=>some ⟨(.one ⟨false,[(.val (.bool (Du x0 x1)))]⟩),[(.row false 49 amR x0),(.row false 49 amR x1)],[],[(Dv x0 x1)]⟩
 |_,_=>none
def aaB:PF Tryz.prog:=PF.ofG Tryz.prog [QE] [bW.F] ay 42 Tryz.f42 Tryz.func42 (LOk.fnT (l:= [aD Tryz.f42 0]) (by kernel_rfl) (.cons Re (.nil _))) Oa (by
 intro vs es r h;unfold Oa at h;split at h
 ·cases h;kernel_rfl
 ·cases h)
end Go.SX

namespace Go.SX
open Go.Proofs
set_option maxRecDepth 100000
def aiC(xs ys:List (Int×Int×(Int×Int)×Int×Int×Bool)):Bool:=decide (xs=ys)
theorem ajM(xs:List (Int×Int×(Int×Int)×Int×Int×Bool)):aiC xs xs=true:=by simp [aiC]
def lE(y1:List (Int×(Int×((Int×Int)×(Int×(Int×Bool))))))(b:Nat):(List (Int×(Int×((Int×Int)×(Int×(Int×Bool))))))→Nat ⊕ (List (Int×(Int×((Int×Int)×(Int×(Int×Bool))))))
 |y2=>(.inr (List.set y2 b ((Option.getD y1[b]? ((0:Int),(0:Int),((0:Int),(0:Int)),(0:Int),(0:Int),false)).1,((Option.getD y1[b]? ((0:Int),(0:Int),((0:Int),(0:Int)),(0:Int),(0:Int),false)).2).1,(((Option.getD y1[b]? ((0:Int),(0:Int),((0:Int),(0:Int)),(0:Int),(0:Int),false)).2.2).1.1,((Option.getD y1[b]? ((0:Int),(0:Int),((0:Int),(0:Int)),(0:Int),(0:Int),false)).2.2).1.2),((Option.getD y1[b]? ((0:Int),(0:Int),((0:Int),(0:Int)),(0:Int),(0:Int),false)).2.2.2).1,((Option.getD y1[b]? ((0:Int),(0:Int),((0:Int),(0:Int)),(0:Int),(0:Int),false)).2.2.2.2).1,(Option.getD y1[b]? ((0:Int),(0:Int),((0:Int),(0:Int)),(0:Int),(0:Int),false)).2.2.2.2.2)))
def iV(y1:List (Int×(Int×((Int×Int)×(Int×(Int×Bool))))))(i:Nat):(List (Int×(Int×((Int×Int)×(Int×(Int×Bool))))))→gn
 |y2=>((i:Int),y1,y2)
def DE:gn→List (Int×(Int×((Int×Int)×(Int×(Int×Bool)))))
 |(_,_,y2)=>y2
theorem VA(y1 y2:List (Int×(Int×((Int×Int)×(Int×(Int×Bool))))))(hn:y1.length≤9223372036854775807)(hl:y2.length=y1.length):
  cz.fin ((0:Int),y1,y2)=true∧cz.res ((0:Int),y1,y2)=((aq (lE y1) 0 (List.range y1.length) 0 y2).1,(iV y1) (aq (lE y1) 0 (List.range y1.length) 0 y2).2.1 (aq (lE y1) 0 (List.range y1.length) 0 y2).2.2):=by
 have key:=cz.along (iV y1) DE (lE y1) 0 (fun _ a=>a.length=y1.length) (List.range y1.length) y2 hl (by simp only [cz,iV,List.length_range];omega) (fun i b a hb hI=> ?_) (fun a hI=> ?_)
 ·exact key
 ·obtain y2:=a
  obtain⟨rfl,hlt⟩:=gV hb
  have hw:IntKind.i64.wrap ((b:Int) + 1)=((b + 1:Nat):Int):=by rw [bp (by omega) (by omega)];omega
  have hdec:ltI (b:Int) (y1.length:Int)=true:=db (by omega)
  have hnn:leI (0:Int) (b:Int)=true:=bZ (by omega)
  have hltd:ltN b y1.length=true:=dK (by omega)
  refine⟨?_,?_,?_,?_⟩
  ·simp [nS,nT,iR,nU,pc,pd,sw,sx,sy,sz,sA,ri,cz,LT.nds,allT,iV,hdec,hnn,hltd,hI]
  ·simp [nS,nT,iR,nU,pc,pd,sw,sx,sy,sz,sA,ri,cz,LT.each,iV,DE,hw,hI]
  ·simp only [nS,nT,iR,nU,pc,pd,sw,sx,sy,sz,sA,ri,cz,LT.fn,iV,DE,lE,Int.toNat_natCast,hdec,cond_true]
  ·intro a' hf;simp only [lE,Sum.inr.injEq]at hf;subst hf;simpa using hI
 ·obtain y2:=a
  simp [nS,nT,iR,nU,pc,pd,sw,sx,sy,sz,sA,ri,cz,LT.out,iV,List.length_range]
def oY(y1 y2:List (Int×(Int×((Int×Int)×(Int×(Int×Bool))))))(b:Nat):(Unit)→Nat ⊕ (Unit)
 |_=>(bif(!zo ((Option.getD y1[b]? ((0:Int),(0:Int),((0:Int),(0:Int)),(0:Int),(0:Int),false)).1) (((Option.getD y1[b]? ((0:Int),(0:Int),((0:Int),(0:Int)),(0:Int),(0:Int),false)).2).1) (((Option.getD y1[b]? ((0:Int),(0:Int),((0:Int),(0:Int)),(0:Int),(0:Int),false)).2.2).1.1) (((Option.getD y1[b]? ((0:Int),(0:Int),((0:Int),(0:Int)),(0:Int),(0:Int),false)).2.2).1.2) (((Option.getD y1[b]? ((0:Int),(0:Int),((0:Int),(0:Int)),(0:Int),(0:Int),false)).2.2.2).1) (((Option.getD y1[b]? ((0:Int),(0:Int),((0:Int),(0:Int)),(0:Int),(0:Int),false)).2.2.2.2).1) ((Option.getD y1[b]? ((0:Int),(0:Int),((0:Int),(0:Int)),(0:Int),(0:Int),false)).2.2.2.2.2) ((Option.getD y2[b]? ((0:Int),(0:Int),((0:Int),(0:Int)),(0:Int),(0:Int),false)).1) (((Option.getD y2[b]? ((0:Int),(0:Int),((0:Int),(0:Int)),(0:Int),(0:Int),false)).2).1) (((Option.getD y2[b]? ((0:Int),(0:Int),((0:Int),(0:Int)),(0:Int),(0:Int),false)).2.2).1.1) (((Option.getD y2[b]? ((0:Int),(0:Int),((0:Int),(0:Int)),(0:Int),(0:Int),false)).2.2).1.2) (((Option.getD y2[b]? ((0:Int),(0:Int),((0:Int),(0:Int)),(0:Int),(0:Int),false)).2.2.2).1) (((Option.getD y2[b]? ((0:Int),(0:Int),((0:Int),(0:Int)),(0:Int),(0:Int),false)).2.2.2.2).1) ((Option.getD y2[b]? ((0:Int),(0:Int),((0:Int),(0:Int)),(0:Int),(0:Int),false)).2.2.2.2.2))then(.inl 0)else(.inr ()))
def kF(y1 y2:List (Int×(Int×((Int×Int)×(Int×(Int×Bool))))))(i:Nat):(Unit)→gm
 |_=>((i:Int),y1,y2)
def DD:gm→Unit
 |(_,_,_)=>()
theorem Vz(y1 y2:List (Int×(Int×((Int×Int)×(Int×(Int×Bool)))))) (hn:y1.length≤9223372036854775807) (he:y2.length=y1.length):
  bW.fin ((0:Int),y1,y2)=true∧bW.res ((0:Int),y1,y2)=((aq (oY y1 y2) 1 (List.range y1.length) 0 ()).1,(kF y1 y2) (aq (oY y1 y2) 1 (List.range y1.length) 0 ()).2.1 (aq (oY y1 y2) 1 (List.range y1.length) 0 ()).2.2):=by
 have key:=bW.along (kF y1 y2) DD (oY y1 y2) 1 (fun _ _=>True) (List.range y1.length) () (by trivial) (by simp only [bW,kF,List.length_range];omega) (fun i b a hb hI=> ?_) (fun a hI=> ?_)
 ·exact key
 ·obtain⟨⟩:=a
  obtain⟨rfl,hlt⟩:=gV hb
  have hw:IntKind.i64.wrap ((b:Int) + 1)=((b + 1:Nat):Int):=by rw [bp (by omega) (by omega)];omega
  have hdec:ltI (b:Int) (y1.length:Int)=true:=db (by omega)
  have hnn:leI (0:Int) (b:Int)=true:=bZ (by omega)
  have hltd:ltN b y1.length=true:=dK (by omega)
  refine⟨?_,?_,?_,?_⟩
  ·simp [nK,nL,iO,nM,nN,nO,iP,nP,pa,pb,sn,sq,sr,su,sv,rh,bW,LT.nds,allT,kF,hdec,hnn,hltd,he]
  ·simp [nK,nL,iO,nM,nN,nO,iP,nP,pa,pb,sn,sq,sr,su,sv,rh,bW,LT.each,kF,DD,hw,he]
  ·simp only [nK,nL,iO,nM,nN,nO,iP,nP,pa,pb,sn,sq,sr,su,sv,rh,bW,LT.fn,kF,DD,oY,Int.toNat_natCast,hdec,cond_true]
  ·exact fun _ _=>trivial
 ·obtain⟨⟩:=a
  simp [nK,nL,iO,nM,nN,nO,iP,nP,pa,pb,sn,sq,sr,su,sv,rh,bW,LT.out,kF,List.length_range]
theorem afs(xs:List (Int×Int×(Int×Int)×Int×Int×Bool))(hn:leN xs.length 1048576=true):Dw xs=xs∧Dx xs=true:=by
 have hn:=eP.1 hn
 have hr:(List.replicate (Int.toNat (xs.length:Int)) ((0:Int),(0:Int),((0:Int),(0:Int)),(0:Int),(0:Int),false)).length=xs.length:=by simp
 obtain⟨w1,w2⟩:=VA xs (List.replicate (Int.toNat (xs.length:Int)) ((0:Int),(0:Int),((0:Int),(0:Int)),(0:Int),(0:Int),false)) (by omega) hr
 have hc:=Gy (xs:=xs) (d:=((0:Int),(0:Int),((0:Int),(0:Int)),(0:Int),(0:Int),false)) (g:=fun x=>x) (f:=lE xs) (e:=0) (fun b a=>rfl) hr
 rw [hc]at w2
 refine⟨?_,?_⟩
 ·simp only [lw,Bw,Dw,Dx,w2,iV];simp
 ·simp only [lw,Bw,Dw,Dx,w1,allT];simp;omega
def Oi:List SV→List Entry→Option Out
 | [.one ⟨false,[.ref 0]⟩],[.row false 83 (.pair (.int .i64) (.pair (.int .i64) (.pair (.pair (.int .i64) (.int .i64)) (.pair (.int .i64) (.pair (.int .i64) (.bool)))))) x0]=>some ⟨(.one ⟨false,[(.ref 1)]⟩),[(.row false 83 amR x0)],[(.row true 49 amR x0)],[leN x0.length 1048576]⟩
 |_,_=>none
def Ie:PF Tryz.prog:=PF.alt aaD Oi (by
 intro args es o h hnd;unfold Oi at h;split at h
 ·rename_i x0
  cases h
  have hnd:=eD hnd
  have hh:=afs x0 hnd
  obtain⟨e0,en⟩:=hh
  exact gW rfl (eN en) rfl rfl (by simp only [e0] <;> rfl)
 ·cases h)
theorem aey(xs ys:List (Int×Int×(Int×Int)×Int×Int×Bool))(hn:leN xs.length 9223372036854775807=true):Du xs ys=aiC xs ys∧Dv xs ys=true:=by
 have hn:=eP.1 hn
 unfold aiC
 have h3: ∀ a b:Int×Int×(Int×Int)×Int×Int×Bool,(!zo a.1 a.2.1 a.2.2.1.1 a.2.2.1.2 a.2.2.2.1 a.2.2.2.2.1 a.2.2.2.2.2 b.1 b.2.1 b.2.2.1.1 b.2.2.1.2 b.2.2.2.1 b.2.2.2.2.1 b.2.2.2.2.2)= !decide (a=b):=fun a b=>by
  obtain⟨a1,a2,⟨a3,a4⟩,a5,a6,a7⟩:=a;obtain⟨b1,b2,⟨b3,b4⟩,b5,b6,b7⟩:=b
  simp only [zo,Dt,Lo]
  by_cases h1:a1=b1
  case neg=>simp [h1]
  subst h1
  by_cases h2:a2=b2
  case neg=>simp [h2]
  subst h2
  by_cases h3:a3=b3
  case neg=>simp [h3]
  subst h3
  by_cases h4:a4=b4
  case neg=>simp [h4]
  subst h4
  by_cases h5:a5=b5
  case neg=>simp [h5]
  subst h5
  by_cases h6:a6=b6
  case neg=>simp [h6]
  subst h6
  by_cases h7:a7=b7
  case neg=>simp [h7]
  subst h7
  simp
 by_cases hl:ys.length=xs.length
 ·obtain⟨w1,w2⟩:=Vz xs ys hn hl
  have ha:=aah (d:=((0:Int),(0:Int),((0:Int),(0:Int)),(0:Int),(0:Int),false)) hl (P:=fun b=> !decide (Option.getD xs[b]? ((0:Int),(0:Int),((0:Int),(0:Int)),(0:Int),(0:Int),false)=Option.getD ys[b]? ((0:Int),(0:Int),((0:Int),(0:Int)),(0:Int),(0:Int),false))) (fun b=>rfl)
  rw [iq (P:=fun b=> !decide (Option.getD xs[b]? ((0:Int),(0:Int),((0:Int),(0:Int)),(0:Int),(0:Int),false)=Option.getD ys[b]? ((0:Int),(0:Int),((0:Int),(0:Int)),(0:Int),(0:Int),false))) (j:=0) (fun b=>by simp only [oY,h3]),ha]at w2
  simp only [Bl,Bm,Du,Dv,w1,w2,allT]
  by_cases he:xs=ys
  ·subst he;simp;decide
  ·simp [he,hl]
 ·have hne:xs≠ys:=fun h=>hl (by rw [h])
  simp [Bl,Bm,Du,Dv,allT,hne]
  omega
def Og:List SV→List Entry→Option Out
 | [.one ⟨false,[.ref 0]⟩,.one ⟨false,[.ref 1]⟩],[.row false 49 (.pair (.int .i64) (.pair (.int .i64) (.pair (.pair (.int .i64) (.int .i64)) (.pair (.int .i64) (.pair (.int .i64) (.bool)))))) x0,.row false 49 (.pair (.int .i64) (.pair (.int .i64) (.pair (.pair (.int .i64) (.int .i64)) (.pair (.int .i64) (.pair (.int .i64) (.bool)))))) x1]=>some ⟨(.one ⟨false,[(.val (.bool (aiC x0 x1)))]⟩),[(.row false 49 amR x0),(.row false 49 amR x1)],[],[leN x0.length 9223372036854775807]⟩
 |_,_=>none
def Ic:PF Tryz.prog:=PF.alt aaB Og (by
 intro args es o h hnd;unfold Og at h;split at h
 ·rename_i x0 x1
  cases h
  have hnd:=eD hnd
  have hh:=aey x0 x1 hnd
  obtain⟨e0,en⟩:=hh
  exact gW rfl (eN en) (by simp only [e0] <;> rfl) rfl rfl
 ·cases h)
def szN(k:Int)(n:Nat):Int:=bif ltI (k - n) 0 then -1 else k - n
theorem alI(k:Int)(xs:List (Int×Int×(Int×Int)×Int×Int×Bool))(h:(leN xs.length 9223372036854775807&&(leI (-1) k&&leI k 1048576))=true):Ib k xs=szN k xs.length:=by
 simp only [Bool.and_eq_true,eP,JH]at h
 simp only [Ib,GH,szN]
 rw [bp (by omega) (by omega)]
def Oh:List SV→List Entry→Option Out
 | [.one ⟨false,[.ref 0]⟩,.one ⟨false,[.val (.int .i64 x0)]⟩],[.row false 83 (.pair (.int .i64) (.pair (.int .i64) (.pair (.pair (.int .i64) (.int .i64)) (.pair (.int .i64) (.pair (.int .i64) (.bool)))))) x1]=>some ⟨(.one ⟨false,[(.val (.int .i64 (szN x0 x1.length)))]⟩),[(.row false 83 amR x1)],[],[leN x1.length 9223372036854775807&&(leI (-1) x0&&leI x0 1048576)]⟩
 |_,_=>none
def Id:PF Tryz.prog:=PF.alt aaC Oh (by
 intro args es o h hnd;unfold Oh at h;split at h
 ·rename_i x0 x1
  cases h
  have hnd:=eD hnd
  have hh:=alI x0 x1 hnd
  have e0:=hh
  exact gW rfl (fun _ h=>by cases h) (by simp only [e0] <;> rfl) rfl rfl
 ·cases h)
end Go.SX

namespace Go.SX
open Go.Proofs
set_option maxRecDepth 100000
def aat(x0:Int):Bool:=x0 !=(2:Int)
def NY:List SV→List Entry→Option Out
 | [.one ⟨false,[.val (.int .i64 x0)]⟩],[]=>some ⟨(.one ⟨false,[(.val (.bool (aat x0)))]⟩),[],[],[]⟩
 |_,_=>none
def aaA:PF Tryz.prog:=PF.ofG Tryz.prog [] [] ay 159 Tryz.f159 Tryz.func159 (fun c _=>LOk.nil c) NY (by
 intro vs es r h;unfold NY at h;split at h
 ·cases h;kernel_rfl
 ·cases h)
def tz(x0:Int):Bool:=x0 !=(2:Int)
def Hf:List SV→List Entry→Option Out
 | [(.one ⟨false,[(.val (.int .i64 x0))]⟩)],[]=>some ⟨(.one ⟨false,[(.val (.bool (tz x0)))]⟩),[],[],[]⟩
 |_,_=>none
def Hu:PF Tryz.prog:=PF.ofG Tryz.prog [] [] ay 159 Tryz.f159 Tryz.func159 (fun c _=>LOk.nil c) Hf (by
 intro vs es r h;unfold Hf at h;split at h
 ·cases h;kernel_rfl
 ·cases h)
abbrev aY:=Int×Int×List Int
section
variable (y0 y1:Int)(y2:List Int)
def fM:Bool:=ltI y0 y1
def fN:Bool:=leI (0:Int) y0
def fO:Bool:=ltI y0 (↑y2.length:Int)
def fP:Bool:=ltN y0.toNat y2.length
def fQ:Bool:=tz (Option.getD y2[Int.toNat y0]? (0:Int))
def fR:Int:=IntKind.wrap .i64 (y0 + (1:Int))
end
def Er:aY→List (Nat×SV)
 |(y0,y1,_)=> [(8,(.one ⟨false,[(.val (.int .i64 y0))]⟩)),(7,(.one ⟨false,[(.val (.int .i64 y1))]⟩)),(1,(.one ⟨false,[(.val (.func (.func 159) ⟨[]⟩ ⟨[]⟩))]⟩)),(0,(.one ⟨false,[(.ref 0)]⟩))]
def Eo:aY→List (Nat×Entry)
 |(_,_,y2)=> [(0,(.row false 2 amU y2))]
def Ev:Nat→aY→List (Nat×SV)
 |0,(y0,_,_)=> [(4,(.one ⟨false,[(.val (.int .i64 y0))]⟩))]
 |_,(_,_,_)=> []
def Et:Nat→aY→List (Nat×Entry)
 |0,(_,_,y2)=> [(0,(.row false 2 amU y2))]
 |_,(_,_,y2)=> [(0,(.row false 2 amU y2))]
def fh:aY→LT aY
 |(y0,y1,y2)=> .ite (fM y0 y1) (.need [(fN y0),(fO y0 y2),(fP y0 y2)] (.ite (fQ y0 y2) (.ext 0 [(0,0)]) (.nrm ((fR y0),y1,y2) [(0,0)]))) (.ext 1 [(0,0)])
def lW(s:St):Option aY:=
 (match s.look 8 with
 |some ⟨none,(.one ⟨false,[(.val (.int .i64 y0))]⟩)⟩=>
 (match s.look 7 with
 |some ⟨none,(.one ⟨false,[(.val (.int .i64 y1))]⟩)⟩=>
 (match s.look 1 with
 |some ⟨none,(.one ⟨false,[(.val (.func (.func 159) ⟨[]⟩ ⟨[]⟩))]⟩)⟩=>
 (match s.look 0 with
 |some ⟨none,(.one ⟨false,[(.ref 0)]⟩)⟩=>
 (match s.ent 0 with
 |some (.row false 2 (.int .i64) y2)=>
 some (y0,y1,y2)
 |_=>none)
 |_=>none)
 |_=>none)
 |_=>none)
 |_=>none)
def ap:Lp aY where
 h:=⟨[9,10,5,11,12,13,14,15,16,17,4,18,8],[0],[],[]⟩
 JL:=Er
 JE:=Eo
 XL:=Ev
 XE:=Et
 q:=fun j=>match j with | 0=> .ret | _=> .exit 0
 tags:= [0,1]
 lt:=fh
 fuel:=fun(y0,y1,y2)=>y0.natAbs + y1.natAbs + y2.length
 fix:=fun(_,y1,y2) (y0,_,_)=>(y0,y1,y2)
 σ:= [(0,0)]
 rd:=lW
theorem Dz:LoopOk Tryz.prog (fun k=>Nat.blt k Tryz.f211.ntmps) ap.F (aD Tryz.f211 0):=by
 refine Lp.ok (tbl:= [Hu]) (lf:= []) ay ap (by kernel_rfl) (LOk.nil _) (fun _=>rfl) (fun j _=>by unfold ap;match j with | 0=>rfl | _ + 1=>rfl) ?_ ?_ ?_ ?_ (fun _=>rfl) ?_
 ·intro x;obtain⟨y0,y1,y2⟩:=x;kernel_rfl
 ·intro x;obtain⟨y0,y1,y2⟩:=x;kernel_rfl
 ·intro s x h
  have h:lW s=some x:=h
  unfold lW at h
  repeat' split at h
  all_goals cases h
  exact⟨aa (by assumption) rfl (aa (by assumption) rfl (aa (by assumption) rfl (aa (by assumption) rfl (rfl)))),ac rfl (by assumption) rfl (rfl)⟩
 ·intro x;obtain⟨y0,y1,y2⟩:=x;kernel_rfl
 ·intro x z;obtain⟨y0,y1,y2⟩:=x;exact(And.intro (And.intro trivial rfl) trivial)
section
variable (x0:List Int)
def jk:Int×Int×List Int:=((0:Int),(↑x0.length:Int),x0)
def oM:Int:=bif Nat.beq ((Lp.res ap (jk x0)).1) (0:Nat)then ((Lp.res ap (jk x0)).2).1else(-1:Int)
def oN:Bool:=allT [Lp.fin ap (jk x0)]
end
def vB:List SV→List Entry→Option Out
 | [(.one ⟨false,[(.ref 0)]⟩),(.one ⟨false,[(.val (.func (.func 159) ⟨[]⟩ ⟨[]⟩))]⟩)],[(.row false 2 (.int .i64) x0)]=>some ⟨(.one ⟨false,[(.val (.int .i64 (oM x0)))]⟩),[(.row false 2 amU x0)],[],[(oN x0)]⟩
 |_,_=>none
def oJ:PF Tryz.prog:=PF.ofG Tryz.prog [Hu] [ap.F] ay 211 Tryz.f211 Tryz.func211 (LOk.fnT (l:= [aD Tryz.f211 0]) (by kernel_rfl) (.cons Dz (.nil _))) vB (by
 intro vs es r h;unfold vB at h;split at h
 ·cases h;kernel_rfl
 ·cases h)
def mF(x0:List Int):Bool:=leI (0:Int) (oM x0)
def mG(x0:List Int):Bool:=allT [oN x0]
def tq:List SV→List Entry→Option Out
 | [(.one ⟨false,[(.ref 0)]⟩),(.one ⟨false,[(.val (.func (.func 159) ⟨[]⟩ ⟨[]⟩))]⟩)],[(.row false 2 (.int .i64) x0)]=>some ⟨(.one ⟨false,[(.val (.bool (mF x0)))]⟩),[(.row false 2 amU x0)],[],[(mG x0)]⟩
 |_,_=>none
def mB:PF Tryz.prog:=PF.ofG Tryz.prog [oJ,PF.lend oJ,PF.fz oJ] [] ay 158 Tryz.f158 Tryz.func158 (fun c _=>LOk.nil c) tq (by
 intro vs es r h;unfold tq at h;split at h
 ·cases h;kernel_rfl
 ·cases h)
def Lk(x0:List Int):Bool:= !mF x0
def Ll(x0:List Int):Bool:=allT [mG x0]
def RH:List SV→List Entry→Option Out
 | [.one ⟨false,[.ref 0]⟩],[.row false 2 (.int .i64) x0]=>some ⟨(.one ⟨false,[(.val (.bool (Lk x0)))]⟩),[(.row false 2 amU x0)],[],[(Ll x0)]⟩
 |_,_=>none
def acZ:PF Tryz.prog:=PF.ofG Tryz.prog [aaA,mB,PF.lend mB,PF.fz mB] [] ay 64 Tryz.f64 Tryz.func64 (fun c _=>LOk.nil c) RH (by
 intro vs es r h;unfold RH at h;split at h
 ·cases h;kernel_rfl
 ·cases h)
def cd(x0 x3:Int)(x4:List Int):Bool:=Option.getD x4[Int.toNat x3]? (0:Int)==IntKind.wrap .i64 (IntKind.wrap .i64 ((3:Int) * IntKind.wrap .i64 (x0 - (1:Int))) + (1:Int))
def od(x3:Int)(x4:List Int):Bool:=allT [leI (0:Int) x3,ltI x3 (↑x4.length:Int),ltN x3.toNat x4.length]
def Sa:List SV→List Entry→Option Out
 | [.one ⟨true,[.val (.int .i64 x0),.ref 0,.ref 1,.ref 2,.ref 3,.val (.int .i64 _x1),.ref 4,.ref 5,.val (.int .i64 _x2)]⟩,.one ⟨false,[.val (.int .i64 x3)]⟩],[.row false 2 (.int .i64) x4,.row false 169 (.pair (.int .i64) (.pair (.int .i64) (.int .i64))) x5,.row false 24 (.sl 2 (.int .i64)) x6,.row false 100 (.pair (.int .i64) (.pair (.int .i64) (.int .i64))) x7,.row false 173 (.pair (.int .i64) (.int .i64)) x8,.row false 176 (.pair (.int .i64) (.int .i64)) x9]=>some ⟨(.one ⟨false,[(.val (.bool (cd x0 x3 x4)))]⟩),[(.row false 2 amU x4),(.row false 169 amS x5),(.row false 24 (CTy.sl (2:TypeId) amU) x6),(.row false 100 amS x7),(.row false 173 amT x8),(.row false 176 amT x9)],[],[(od x3 x4)]⟩
 |_,_=>none
def fC:PF Tryz.prog:=PF.ofG Tryz.prog [] [] ay 93 Tryz.f93 Tryz.func93 (fun c _=>LOk.nil c) Sa (by
 intro vs es r h;unfold Sa at h;split at h
 ·cases h;kernel_rfl
 ·cases h)
abbrev i6:=Int×Int×List Int
section
variable (y0 y1:Int)(y2:List Int)
def rS:Int:=Option.getD y2[Int.toNat y0]? (0:Int)
def td:Bool:=ltI y0 (↑y2.length:Int)
def yD:Bool:=leI (0:Int) y0
def yE:Bool:=ltN y0.toNat y2.length
def yF:Int:=IntKind.wrap .i64 (y0 + (1:Int))
def yG:Int:=afD (rS y0 y2) y1 (rS y0 y2) y1
end
def Yd:i6→List (Nat×SV)
 |(y0,y1,_)=> [(4,(.one ⟨false,[(.val (.int .i64 y0))]⟩)),(0,(.one ⟨false,[(.ref 0)]⟩)),(3,(.one ⟨false,[(.val (.int .i64 y1))]⟩))]
def XU:i6→List (Nat×Entry)
 |(_,_,y2)=> [(0,(.row false 2 amU y2))]
def Yv:Nat→i6→List (Nat×SV)
 |_,(_,y1,_)=> [(3,(.one ⟨false,[(.val (.int .i64 y1))]⟩))]
def Ym:Nat→i6→List (Nat×Entry)
 |_,(_,_,y2)=> [(0,(.row false 2 amU y2))]
def v6:i6→LT i6
 |(y0,y1,y2)=> .ite (td y0 y2) (.need [(yD y0),(td y0 y2),(yE y0 y2)] (.nrm ((yF y0),(yG y0 y1 y2),y2) [(0,0)])) (.ext 0 [(0,0)])
def Hb(s:St):Option i6:=
 (match s.look 4 with
 |some ⟨none,(.one ⟨false,[(.val (.int .i64 y0))]⟩)⟩=>
 (match s.look 0 with
 |some ⟨none,(.one ⟨false,[(.ref 0)]⟩)⟩=>
 (match s.look 3 with
 |some ⟨none,(.one ⟨false,[(.val (.int .i64 y1))]⟩)⟩=>
 (match s.ent 0 with
 |some (.row false 2 (.int .i64) y2)=>
 some (y0,y1,y2)
 |_=>none)
 |_=>none)
 |_=>none)
 |_=>none)
def eB:Lp i6 where
 h:=⟨[8,9,10,11,14,15,16,17,18,19,3,12,13,4],[0],[],[]⟩
 JL:=Yd
 JE:=XU
 XL:=Yv
 XE:=Ym
 q:=fun j=>match j with | _=> .exit 0
 tags:= [0]
 lt:=v6
 fuel:=fun(y0,y1,y2)=>y0.natAbs + y1.natAbs + y2.length
 fix:=fun(_,_,y2) (y0,y1,_)=>(y0,y1,y2)
 σ:= [(0,0)]
 rd:=Hb
theorem Vu:LoopOk Tryz.prog (fun k=>Nat.blt k Tryz.f176.ntmps) eB.F (aD Tryz.f176 0):=by
 refine Lp.ok (tbl:= []) (lf:= []) ay eB (by kernel_rfl) (LOk.nil _) (fun _=>rfl) (fun _ _=>rfl) ?_ ?_ ?_ ?_ (fun _=>rfl) ?_
 ·intro x;obtain⟨y0,y1,y2⟩:=x;kernel_rfl
 ·intro x;obtain⟨y0,y1,y2⟩:=x;kernel_rfl
 ·intro s x h
  have h:Hb s=some x:=h
  unfold Hb at h
  repeat' split at h
  all_goals cases h
  exact⟨aa (by assumption) rfl (aa (by assumption) rfl (aa (by assumption) rfl (rfl))),ac rfl (by assumption) rfl (rfl)⟩
 ·intro x;obtain⟨y0,y1,y2⟩:=x;kernel_rfl
 ·intro x z;obtain⟨y0,y1,y2⟩:=x;exact(And.intro rfl trivial)
section
variable (x0:List Int)
def Ck:Int×Int×List Int:=((1:Int),Option.getD x0[Int.toNat (0:Int)]? (0:Int),x0)
def vt:Int:=((Lp.res eB (Ck x0)).2.2).1
def Eb:Bool:=allT [ltI (0:Int) (↑x0.length:Int),ltN (Int.toNat (0:Int)) x0.length,Lp.fin eB (Ck x0)]
end
def Uz:List SV→List Entry→Option Out
 | [.one ⟨false,[.ref 0]⟩],[.row false 2 (.int .i64) x0]=>some ⟨(.one ⟨false,[(.val (.int .i64 (vt x0)))]⟩),[(.row false 2 amU x0)],[],[(Eb x0)]⟩
 |_,_=>none
def Nh:PF Tryz.prog:=PF.ofG Tryz.prog [] [eB.F] ay 176 Tryz.f176 Tryz.func176 (LOk.fnT (l:= [aD Tryz.f176 0]) (by kernel_rfl) (.cons Vu (.nil _))) Uz (by
 intro vs es r h;unfold Uz at h;split at h
 ·cases h;kernel_rfl
 ·cases h)
end Go.SX

namespace Go.SX
open Go.Proofs
set_option maxRecDepth 100000
def JI(st:List Int):Bool:=st.all fun x=>x==2
def kw(b:Int):(Int)→Nat ⊕ (Int)
 |y1=>(.inr (afD b y1 b y1))
def jB(y2:List Int)(i:Nat):(Int)→i6
 |y1=>(((i + 1:Nat):Int),y1,y2)
def GR:i6→Int
 |(_,y1,_)=>y1
theorem PQ(y2:List Int)(y1:Int)(hn:y2.length≤9223372036854775807):
  eB.fin ((1:Int),y1,y2)=true∧eB.res ((1:Int),y1,y2)=((aq (kw) 0 (y2.drop 1) 0 y1).1,(jB y2) (aq (kw) 0 (y2.drop 1) 0 y1).2.1 (aq (kw) 0 (y2.drop 1) 0 y1).2.2):=by
 have key:=eB.along (jB y2) GR (kw) 0 (fun _ _=>True) (y2.drop 1) y1 (by trivial) (by simp only [eB,jB,List.length_drop];omega) (fun i b a hb hI=> ?_) (fun a hI=> ?_)
 ·exact key
 ·obtain y1:=a
  rw [List.getElem?_drop,Nat.add_comm]at hb
  have hlt:=(List.getElem?_eq_some_iff.1 hb).1
  have hget: ∀ d,Option.getD y2[i + 1]? d=b:=fun d=>by rw [hb];rfl
  have hw:IntKind.i64.wrap (((i + 1:Nat):Int) + 1)=((i + 1 + 1:Nat):Int):=by rw [bp (by omega) (by omega)];omega
  have hdec:ltI ((i + 1:Nat):Int) (y2.length:Int)=true:=db (by omega)
  have hnn:leI (0:Int) ((i + 1:Nat):Int)=true:=bZ (by omega)
  have hltd:ltN (i + 1) y2.length=true:=dK hlt
  refine⟨?_,?_,?_,?_⟩
  ·simp only [rS,td,yD,yE,yF,yG,v6,eB,LT.nds,allT,jB,Int.toNat_natCast,hdec,hnn,hltd,hget,cond_true]
  ·simp only [rS,td,yD,yE,yF,yG,v6,eB,LT.each,jB,GR,hw,and_self]
  ·simp only [rS,td,yD,yE,yF,yG,v6,eB,LT.fn,jB,GR,kw,Int.toNat_natCast,hdec,hnn,hltd,hget,cond_true,Bool.cond_self]
  ·exact fun _ _=>trivial
 ·obtain y1:=a
  simp only [rS,td,yD,yE,yF,yG,v6,eB,LT.out,jB,List.length_drop];rw [show ltI (((y2.length - 1) + 1:Nat):Int) (y2.length:Int)=false from amm (by omega)];rfl
def de(b:Int):(Unit)→Nat ⊕ (Unit)
 |_=>(bif(tz b)then(.inl 0)else(.inr ()))
def bE(y2:List Int)(i:Nat):(Unit)→aY
 |_=>((i:Int),(↑y2.length:Int),y2)
def lU:aY→Unit
 |(_,_,_)=>()
theorem Fj(y2:List Int) (hn:y2.length≤9223372036854775807):
  ap.fin ((0:Int),(↑y2.length:Int),y2)=true∧ap.res ((0:Int),(↑y2.length:Int),y2)=((aq (de) 1 y2 0 ()).1,(bE y2) (aq (de) 1 y2 0 ()).2.1 (aq (de) 1 y2 0 ()).2.2):=by
 have key:=ap.along (bE y2) lU (de) 1 (fun _ _=>True) y2 () (by trivial) (by simp only [ap,bE];omega) (fun i b a hb hI=> ?_) (fun a hI=> ?_)
 ·exact key
 ·obtain⟨⟩:=a
  have hlt:=(List.getElem?_eq_some_iff.1 hb).1
  have hget: ∀ d,Option.getD y2[i]? d=b:=fun d=>by rw [hb];rfl
  have hw:=qG hlt hn
  have hdec:ltI (i:Int) (y2.length:Int)=true:=db (by omega)
  have hnn:leI (0:Int) (i:Int)=true:=bZ (by omega)
  have hltd:ltN i y2.length=true:=dK hlt
  refine⟨?_,?_,?_,?_⟩
  ·simp [fM,fN,fO,fP,fQ,fR,fh,ap,LT.nds,allT,bE,hdec,hnn,hltd,hget]
  ·simp [fM,fN,fO,fP,fQ,fR,fh,ap,LT.each,bE,lU,hw]
  ·simp only [fM,fN,fO,fP,fQ,fR,fh,ap,LT.fn,bE,lU,de,Int.toNat_natCast,hdec,hnn,hltd,hget,cond_true,Bool.cond_self]
  ·exact fun _ _=>trivial
 ·obtain⟨⟩:=a
  simp [fM,fN,fO,fP,fQ,fR,fh,ap,LT.out,bE]
theorem BA{st:List Int}:areR st=true↔(1≤st.length∧st.length≤12)∧ ∀ v∈st,0≤v∧v≤2:=by
 simp only [areR,Bool.and_eq_true,pF,List.all_eq_true]
 constructor
 ·rintro⟨h1,h2⟩;exact⟨by omega,h2⟩
 ·rintro⟨h1,h2⟩;exact⟨by omega,h2⟩
theorem akG(st:List Int)(h:areR st=true):(vt st==2)=JI st∧Eb st=true:=by
 obtain⟨h1,h2⟩:=BA.1 h
 match st,h1,h2 with
 |x::xs,h1,h2=>
  have hx:=h2 x (by simp)
  obtain⟨w1,w2⟩:=PQ (x::xs) x (by omega)
  rw [iW (f:=kw) (g:=fun m b=>bif ltI b m then b else m) (fun b a=>by simp only [kw,agR])]at w2
  have e0:Option.getD (x::xs)[Int.toNat 0]? 0=x:=rfl
  refine⟨?_,?_⟩
  ·simp only [vt,Ck,e0,w2,jB,List.drop_one,List.tail_cons]
   rw [acI xs x hx.1 hx.2 fun y hy=>h2 y (by simp [hy])]
   rfl
  ·simp only [Eb,Ck,e0,w1,allT]
   simp
theorem afF(st:List Int)(h:leN st.length 9223372036854775807=true):Lk st=JI st∧Ll st=true:=by
 obtain⟨w1,w2⟩:=Fj st (eP.1 h)
 rw [iq (P:=fun v=>v !=2) (j:=0) (fun v=>by simp only [de,tz])]at w2
 have e5:(st.any fun v=>v !=2)= !JI st:=by simp [JI,List.all_eq_not_any_not,bne]
 rw [e5]at w2
 simp only [Lk,Ll,mF,mG,oM,oN,jk,w1,w2,allT,bE]
 cases JI st with
 |true=>exact⟨rfl,rfl⟩
 |false=>
  simp only [Bool.not_false,cond_true,Nat.beq]
  rw [bZ (by omega)];simp
def Sj:List SV→List Entry→Option Out
 | [.one ⟨false,[.ref 0]⟩],[.row false 2 (.int .i64) x0]=>some ⟨(.one ⟨false,[(.val (.bool (JI x0)))]⟩),[(.row false 2 amU x0)],[],[leN x0.length 9223372036854775807]⟩
 |_,_=>none
def wC:PF Tryz.prog:=PF.alt acZ Sj (by
 intro args es o h hnd;unfold Sj at h;split at h
 ·rename_i x0
  cases h
  have hnd:=eD hnd
  have hh:=afF x0 hnd
  obtain⟨e0,en⟩:=hh
  exact gW rfl (eN en) (by simp only [e0] <;> rfl) rfl rfl
 ·cases h)
end Go.SX

namespace Go.SX
open Go.Proofs
set_option maxRecDepth 100000
def ad(x0 x3:Int)(x4:List Int):Bool:=Option.getD x4[Int.toNat x3]? (0:Int)==IntKind.wrap .i64 (IntKind.wrap .i64 ((3:Int) * IntKind.wrap .i64 (x0 - (1:Int))) + (1:Int))
def aK(x3:Int)(x4:List Int):Bool:=allT [leI (0:Int) x3,ltI x3 (↑x4.length:Int),ltN x3.toNat x4.length]
def qH:List SV→List Entry→Option Out
 | [.one ⟨true,[.val (.int .i64 x0),.ref 0,.ref 1,.ref 2,.ref 3,.val (.int .i64 _x1),.ref 4,.ref 5,.val (.int .i64 _x2)]⟩,.one ⟨false,[.val (.int .i64 x3)]⟩],[.row false 2 (.int .i64) x4,.row false 169 (.pair (.int .i64) (.pair (.int .i64) (.int .i64))) x5,.row false 24 (.sl 2 (.int .i64)) x6,.row false 100 (.pair (.int .i64) (.pair (.int .i64) (.int .i64))) x7,.row false 173 (.pair (.int .i64) (.int .i64)) x8,.row false 176 (.pair (.int .i64) (.int .i64)) x9]=>some ⟨(.one ⟨false,[(.val (.bool (ad x0 x3 x4)))]⟩),[(.row false 2 amU x4),(.row false 169 amS x5),(.row false 24 (CTy.sl (2:TypeId) amU) x6),(.row false 100 amS x7),(.row false 173 amT x8),(.row false 176 amT x9)],[],[(aK x3 x4)]⟩
 |_,_=>none
def az:PF Tryz.prog:=PF.ofG Tryz.prog [] [] ay 63 Tryz.f63 Tryz.func63 (fun c _=>LOk.nil c) qH (by
 intro vs es r h;unfold qH at h;split at h
 ·cases h;kernel_rfl
 ·cases h)
end Go.SX

namespace Go.SX
open Go.Proofs
set_option maxRecDepth 100000
theorem Dj(x:Option (List Int)):Option.getD x (vD (CTy.sl (2:TypeId) amU))=x.getD []:=rfl
end Go.SX

namespace Go.SX
open Go.Proofs
set_option maxRecDepth 100000
abbrev iY:=Int×Int×List Int×List Int
section
variable (y0 y1:Int)(y2 y3:List Int)
def rH:Int:=Option.getD y2[Int.toNat y0]? (0:Int)
def xt:Bool:=ltI y0 y1
def sP:Bool:=leI (0:Int) y0
def xu:Bool:=ltI y0 (↑y2.length:Int)
def xw:Bool:=ltN y0.toNat y2.length
def xx:Bool:=ltI y0 (↑y3.length:Int)
def xy:Bool:=ltN y0.toNat y3.length
def xz:Int:=IntKind.wrap .i64 (y0 + (1:Int))
def xA:List Int:=List.set y3 y0.toNat (afD (1:Int) (rH y0 y2) (1:Int) (rH y0 y2))
end
def XX:iY→List (Nat×SV)
 |(y0,y1,_,_)=> [(17,(.one ⟨false,[(.val (.int .i64 y0))]⟩)),(16,(.one ⟨false,[(.val (.int .i64 y1))]⟩)),(15,(.one ⟨false,[(.ref 0)]⟩)),(5,(.one ⟨false,[(.ref 1)]⟩))]
def XO:iY→List (Nat×Entry)
 |(_,_,y2,y3)=> [(0,(.row true 2 amU y2)),(1,(.row true 2 amU y3))]
def Yp:Nat→iY→List (Nat×SV)
 |_,(_,_,_,_)=> []
def Yg:Nat→iY→List (Nat×Entry)
 |_,(_,_,y2,y3)=> [(0,(.row true 2 amU y2)),(1,(.row true 2 amU y3))]
def vT:iY→LT iY
 |(y0,y1,y2,y3)=> .ite (xt y0 y1) (.need [(sP y0),(xu y0 y2),(xw y0 y2)] (.need [(sP y0),(xx y0 y3),(xy y0 y3)] (.nrm ((xz y0),y1,y2,(xA y0 y2 y3)) [(0,0),(1,1)]))) (.ext 0 [(0,0),(1,1)])
def GV(s:St):Option iY:=
 (match s.look 17 with
 |some ⟨none,(.one ⟨false,[(.val (.int .i64 y0))]⟩)⟩=>
 (match s.look 16 with
 |some ⟨none,(.one ⟨false,[(.val (.int .i64 y1))]⟩)⟩=>
 (match s.look 15 with
 |some ⟨none,(.one ⟨false,[(.ref 640)]⟩)⟩=>
 (match s.look 5 with
 |some ⟨none,(.one ⟨false,[(.ref 448)]⟩)⟩=>
 (match s.ent 640 with
 |some (.row true 2 (.int .i64) y2)=>
 (match s.ent 448 with
 |some (.row true 2 (.int .i64) y3)=>
 some (y0,y1,y2,y3)
 |_=>none)
 |_=>none)
 |_=>none)
 |_=>none)
 |_=>none)
 |_=>none)
def dq:Lp iY where
 h:=⟨[18,19,20,21,6,7,22,23,24,25,26,27,17],[0,1],[],[]⟩
 JL:=XX
 JE:=XO
 XL:=Yp
 XE:=Yg
 q:=fun j=>match j with | _=> .exit 0
 tags:= [0]
 lt:=vT
 fuel:=fun(y0,y1,y2,y3)=>y0.natAbs + y1.natAbs + y2.length + y3.length
 fix:=fun(_,y1,y2,_) (y0,_,_,y3)=>(y0,y1,y2,y3)
 σ:= [(0,640),(1,448)]
 rd:=GV
theorem Vo:LoopOk Tryz.prog (fun k=>Nat.blt k Tryz.f202.ntmps) dq.F (aD Tryz.f202 0):=by
 refine Lp.ok (tbl:= [ai,PF.lend ai,PF.fz ai,br,PF.lend br,PF.fz br]) (lf:= []) ay dq (by kernel_rfl) (LOk.nil _) (fun _=>rfl) (fun _ _=>rfl) ?_ ?_ ?_ ?_ (fun _=>rfl) ?_
 ·intro x;obtain⟨y0,y1,y2,y3⟩:=x;kernel_rfl
 ·intro x;obtain⟨y0,y1,y2,y3⟩:=x;kernel_rfl
 ·intro s x h
  have h:GV s=some x:=h
  unfold GV at h
  repeat' split at h
  all_goals cases h
  exact⟨aa (by assumption) rfl (aa (by assumption) rfl (aa (by assumption) rfl (aa (by assumption) rfl (rfl)))),ac rfl (by assumption) rfl (ac rfl (by assumption) rfl (rfl))⟩
 ·intro x;obtain⟨y0,y1,y2,y3⟩:=x;kernel_rfl
 ·intro x z;obtain⟨y0,y1,y2,y3⟩:=x;exact(And.intro rfl trivial)
abbrev iZ:=Int×Int×List (Int×(Int×Int))×List Int×List Int
section
variable (y0 y1:Int)(y2:List (Int×(Int×Int)))(y3 y4:List Int)
def dn:Int×Int×Int:=Option.getD y2[Int.toNat y0]? ((0:Int),(0:Int),(0:Int))
def fS:Bool:=((dn y0 y2).2).1==(0:Int)
def rI:Bool:=leI (0:Int) ((dn y0 y2).1)
def xB:Bool:=ltI y0 y1
def xC:Bool:=leI (0:Int) y0
def xD:Bool:=ltI y0 (↑y2.length:Int)
def xE:Bool:=ltN y0.toNat y2.length
def xF:Bool:= !fS y0 y2||rI y0 y2
def xG:Bool:= !fS y0 y2||ltI ((dn y0 y2).1) (↑y3.length:Int)
def xH:Bool:= !fS y0 y2||ltN (Int.toNat ((dn y0 y2).1)) y3.length
def xI:Bool:=fS y0 y2||rI y0 y2
def xJ:Bool:=fS y0 y2||ltI ((dn y0 y2).1) (↑y4.length:Int)
def xK:Bool:=fS y0 y2||ltN (Int.toNat ((dn y0 y2).1)) y4.length
def vF:Int:=IntKind.wrap .i64 (y0 + (1:Int))
def vG:List Int:=bif fS y0 y2 then List.set y3 (Int.toNat ((dn y0 y2).1)) ((dn y0 y2).2.2)else y3
def vH:List Int:=bif fS y0 y2 then y4 else List.set y4 (Int.toNat ((dn y0 y2).1)) ((dn y0 y2).2.2)
end
def XY:iZ→List (Nat×SV)
 |(y0,y1,_,_,_)=> [(34,(.one ⟨false,[(.val (.int .i64 y0))]⟩)),(33,(.one ⟨false,[(.val (.int .i64 y1))]⟩)),(32,(.one ⟨false,[(.ref 0)]⟩)),(8,(.one ⟨false,[(.ptr 1 0)]⟩))]
def XP:iZ→List (Nat×Entry)
 |(_,_,y2,y3,y4)=> [(0,(.row false 169 amS y2)),(1,(.box 130 [(.ref 2),(.ref 3)])),(2,(.row true 2 amU y3)),(3,(.row true 2 amU y4))]
def Yq:Nat→iZ→List (Nat×SV)
 |_,(_,_,_,_,_)=> []
def Yh:Nat→iZ→List (Nat×Entry)
 |_,(_,_,y2,y3,y4)=> [(0,(.row false 169 amS y2)),(1,(.box 130 [(.ref 2),(.ref 3)])),(2,(.row true 2 amU y3)),(3,(.row true 2 amU y4))]
def vU:iZ→LT iZ
 |(y0,y1,y2,y3,y4)=> .ite (xB y0 y1) (.need [(xC y0),(xD y0 y2),(xE y0 y2)] (.need [(xF y0 y2),(xG y0 y2 y3),(xH y0 y2 y3),(xI y0 y2),(xJ y0 y2 y4),(xK y0 y2 y4)] (.nrm ((vF y0),y1,y2,(vG y0 y2 y3),(vH y0 y2 y4)) [(0,0),(1,1),(2,2),(3,3)]))) (.ext 0 [(0,0),(1,1),(2,2),(3,3)])
def GW(s:St):Option iZ:=
 (match s.look 34 with
 |some ⟨none,(.one ⟨false,[(.val (.int .i64 y0))]⟩)⟩=>
 (match s.look 33 with
 |some ⟨none,(.one ⟨false,[(.val (.int .i64 y1))]⟩)⟩=>
 (match s.look 32 with
 |some ⟨none,(.one ⟨false,[(.ref 1)]⟩)⟩=>
 (match s.look 8 with
 |some ⟨none,(.one ⟨false,[(.ptr 1152 0)]⟩)⟩=>
 (match s.ent 1 with
 |some (.row false 169 (.pair (.int .i64) (.pair (.int .i64) (.int .i64))) y2)=>
 (match s.ent 1152 with
 |some (.box 130 [(.ref 448),(.ref 1024)])=>
 (match s.ent 448 with
 |some (.row true 2 (.int .i64) y3)=>
 (match s.ent 1024 with
 |some (.row true 2 (.int .i64) y4)=>
 some (y0,y1,y2,y3,y4)
 |_=>none)
 |_=>none)
 |_=>none)
 |_=>none)
 |_=>none)
 |_=>none)
 |_=>none)
 |_=>none)
def dr:Lp iZ where
 h:=⟨[35,36,37,10,38,39,40,41,42,43,44,45,46,47,48,49,50,51,52,53,54,55,34],[0,1,2,3],[],[]⟩
 JL:=XY
 JE:=XP
 XL:=Yq
 XE:=Yh
 q:=fun j=>match j with | _=> .exit 2
 tags:= [0]
 lt:=vU
 fuel:=fun(y0,y1,y2,y3,y4)=>y0.natAbs + y1.natAbs + y2.length + y3.length + y4.length
 fix:=fun(_,y1,y2,_,_) (y0,_,_,y3,y4)=>(y0,y1,y2,y3,y4)
 σ:= [(0,1),(1,1152),(2,448),(3,1024)]
 rd:=GW
theorem Vp:LoopOk Tryz.prog (fun k=>Nat.blt k Tryz.f202.ntmps) dr.F (aD Tryz.f202 1):=by
 refine Lp.ok (tbl:= [ai,PF.lend ai,PF.fz ai,br,PF.lend br,PF.fz br]) (lf:= []) ay dr (by kernel_rfl) (LOk.nil _) (fun _=>rfl) (fun _ _=>rfl) ?_ ?_ ?_ ?_ (fun _=>rfl) ?_
 ·intro x;obtain⟨y0,y1,y2,y3,y4⟩:=x;kernel_rfl
 ·intro x;obtain⟨y0,y1,y2,y3,y4⟩:=x;kernel_rfl
 ·intro s x h
  have h:GW s=some x:=h
  unfold GW at h
  repeat' split at h
  all_goals cases h
  exact⟨aa (by assumption) rfl (aa (by assumption) rfl (aa (by assumption) rfl (aa (by assumption) rfl (rfl)))),ac rfl (by assumption) rfl (ac rfl (by assumption) rfl (ac rfl (by assumption) rfl (ac rfl (by assumption) rfl (rfl))))⟩
 ·intro x;obtain⟨y0,y1,y2,y3,y4⟩:=x;kernel_rfl
 ·intro x z;obtain⟨y0,y1,y2,y3,y4⟩:=x;exact(And.intro rfl trivial)
section
variable (x0:Int)(x1:List Int)(x2:List (Int×Int×Int))
def Gn:Int×Int×List Int×List Int:=((0:Int),(↑(List.length (qF x0 x1)):Int),qF x0 x1,List.replicate x0.toNat (0:Int))
def wy:List Int:=(Lp.res dq (Gn x0 x1)).2.2.2.2
def BF:Int×Int×List (Int×Int×Int)×List Int×List Int:=((0:Int),(↑x2.length:Int),x2,wy x0 x1,wy x0 x1)
def Gp:List Int×List Int:=(Lp.res dr (BF x0 x1 x2)).2.2.2.2
def MX:List Int:=(Gp x0 x1 x2).1
def MY:List Int:=(Gp x0 x1 x2).2
def MZ:Bool:=allT [leI (0:Int) x0,leI x0 x0,leI ((↑(8:Nat):Int) * x0) (281474976710656:Int),leI x0 (9223372036854775807:Int),isT x0 x1,Lp.fin dq (Gn x0 x1),leN (1:Nat) (List.length (wy x0 x1))&&leN (List.length (wy x0 x1)) (1048576:Nat),Lp.fin dr (BF x0 x1 x2)]
end
def Us:List SV→List Entry→Option Out
 | [.one ⟨true,[.val (.int .i64 x0),.ref 0]⟩,.one ⟨false,[.ref 1]⟩],[.row false 2 (.int .i64) x1,.row false 169 (.pair (.int .i64) (.pair (.int .i64) (.int .i64))) x2]=>some ⟨(.one ⟨true,[(.ref 2),(.ref 3)]⟩),[(.row false 2 amU x1),(.row false 169 amS x2)],[(.row true 2 amU (MX x0 x1 x2)),(.row true 2 amU (MY x0 x1 x2))],[(MZ x0 x1 x2)]⟩
 |_,_=>none
def ad5:PF Tryz.prog:=PF.ofG Tryz.prog [ai,PF.lend ai,PF.fz ai,br,PF.lend br,PF.fz br] [dq.F,dr.F] ay 202 Tryz.f202 Tryz.func202 (LOk.fnT (l:= [aD Tryz.f202 0,aD Tryz.f202 1]) (by kernel_rfl) (.cons Vo (.cons Vp (.nil _)))) Us (by
 intro vs es r h;unfold Us at h;split at h
 ·cases h;kernel_rfl
 ·cases h)
section
variable (x0:Int)(x1 x2:List Int)
def dV:Bool:=Option.getD x1[Int.toNat x0]? (0:Int)==(0:Int)
def kG:Bool:=bif dV x0 x1 then Option.getD x2[Int.toNat x0]? (0:Int)==(0:Int)else false
def kH:Bool:=allT [leI (0:Int) x0,ltI x0 (↑x1.length:Int),ltN x0.toNat x1.length,!(dV x0 x1&&true)||leI (0:Int) x0,!(dV x0 x1&&true)||ltI x0 (↑x2.length:Int),!(dV x0 x1&&true)||ltN x0.toNat x2.length]
end
def rT:List SV→List Entry→Option Out
 | [.one ⟨true,[.ref 0,.ref 1]⟩,.one ⟨false,[.val (.int .i64 x0)]⟩],[.row false 2 (.int .i64) x1,.row false 2 (.int .i64) x2]=>some ⟨(.one ⟨false,[(.val (.bool (kG x0 x1 x2)))]⟩),[(.row false 2 amU x1),(.row false 2 amU x2)],[],[(kH x0 x1 x2)]⟩
 |_,_=>none
def kO:PF Tryz.prog:=PF.ofG Tryz.prog [] [] ay 233 Tryz.f233 Tryz.func233 (fun c _=>LOk.nil c) rT (by
 intro vs es r h;unfold rT at h;split at h
 ·cases h;kernel_rfl
 ·cases h)
section
variable (x0 x1:Int)(x2 x3 x4:List Int)
def gF:Int:=Option.getD x4[Int.toNat x1]? (0:Int)
def dW:Bool:=Int.tmod (gF x1 x4) (3:Int)!=(1:Int)
def gG:Int:=Int.tmod (IntKind.wrap .i64 (IntKind.wrap .i64 (Int.tdiv (gF x1 x4) (3:Int)) + (1:Int))) x0
def kI:Bool:=bif dW x1 x4 then true else kG (gG x0 x1 x4) x2 x3
def kJ:Bool:=allT [leI (0:Int) x1,ltI x1 (↑x4.length:Int),ltN x1.toNat x4.length,!(!dW x1 x4&&true)||neI (3:Int) (0:Int),!(!dW x1 x4&&true)||neI x0 (0:Int),!(!dW x1 x4&&true)||kH (gG x0 x1 x4) x2 x3]
end
def rU:List SV→List Entry→Option Out
 | [.one ⟨true,[.ref 0,.ref 1]⟩,.one ⟨true,[.val (.int .i64 x0),.ref 2]⟩,.one ⟨false,[.val (.int .i64 x1)]⟩],[.row false 2 (.int .i64) x2,.row false 2 (.int .i64) x3,.row false 2 (.int .i64) x4]=>some ⟨(.one ⟨false,[(.val (.bool (kI x0 x1 x2 x3 x4)))]⟩),[(.row false 2 amU x2),(.row false 2 amU x3),(.row false 2 amU x4)],[],[(kJ x0 x1 x2 x3 x4)]⟩
 |_,_=>none
def DW:PF Tryz.prog:=PF.ofG Tryz.prog [kO,PF.lend kO,PF.fz kO] [] ay 203 Tryz.f203 Tryz.func203 (fun c _=>LOk.nil c) rU (by
 intro vs es r h;unfold rU at h;split at h
 ·cases h;kernel_rfl
 ·cases h)
section
variable (x0 x1:Int)(x2 x3 x4:List Int)
def DK:Int:=Option.getD x2[Int.toNat x1]? (0:Int)
def pX:Bool:=Int.tmod (DK x1 x2) (3:Int)!=(1:Int)
def kE:Int:=Int.tmod (IntKind.wrap .i64 (IntKind.wrap .i64 (Int.tdiv (DK x1 x2) (3:Int)) + (1:Int))) x0
def IB:Bool:= !(!pX x1 x2&&true)||leI (0:Int) (kE x0 x1 x2)
def Kx:Bool:=bif pX x1 x2 then true else IntKind.wrap .i64 (Option.getD x3[Int.toNat (kE x0 x1 x2)]? (0:Int) + Option.getD x4[Int.toNat (kE x0 x1 x2)]? (0:Int))==(0:Int)
def Ky:Bool:=allT [leI (0:Int) x1,ltI x1 (↑x2.length:Int),ltN x1.toNat x2.length,neI x0 (0:Int),leI (0:Int) x1,ltI x1 (↑x2.length:Int),ltN x1.toNat x2.length,IB x0 x1 x2,!(!pX x1 x2&&true)||ltI (kE x0 x1 x2) (↑x3.length:Int),!(!pX x1 x2&&true)||ltN (Int.toNat (kE x0 x1 x2)) x3.length,IB x0 x1 x2,!(!pX x1 x2&&true)||ltI (kE x0 x1 x2) (↑x4.length:Int),!(!pX x1 x2&&true)||ltN (Int.toNat (kE x0 x1 x2)) x4.length]
end
def Qs:List SV→List Entry→Option Out
 | [.one ⟨true,[.val (.int .i64 x0),.ref 0]⟩,.one ⟨true,[.ref 1,.ref 2]⟩,.one ⟨false,[.val (.int .i64 x1)]⟩],[.row false 2 (.int .i64) x2,.row false 2 (.int .i64) x3,.row false 2 (.int .i64) x4]=>some ⟨(.one ⟨false,[(.val (.bool (Kx x0 x1 x2 x3 x4)))]⟩),[(.row false 2 amU x2),(.row false 2 amU x3),(.row false 2 amU x4)],[],[(Ky x0 x1 x2 x3 x4)]⟩
 |_,_=>none
def abY:PF Tryz.prog:=PF.ofG Tryz.prog [] [] ay 221 Tryz.f221 Tryz.func221 (fun c _=>LOk.nil c) Qs (by
 intro vs es r h;unfold Qs at h;split at h
 ·cases h;kernel_rfl
 ·cases h)
abbrev gK:=Int×Int×List Int×List Int
section
variable (y0 y1:Int)(y2 y3:List Int)
def lX:List Int:= [afD (↑(TG y1 y3 y0):Int) (1:Int) (↑(TG y1 y3 y0):Int) (1:Int)]
def ur:Bool:=ltI y0 y1
def ut:Bool:=isT y1 y3
def uu:Bool:=leN (List.length y2 + List.length (lX y0 y1 y3)) (9223372036854775807:Nat)
def uv:Bool:=leN ((List.length y2 + List.length (lX y0 y1 y3)) * (8:Nat)) (140737488355328:Nat)
def uw:Int:=IntKind.wrap .i64 (y0 + (1:Int))
def ux:List Int:=y2++lX y0 y1 y3
end
def UW:gK→List (Nat×SV)
 |(y0,_,_,_)=> [(8,(.one ⟨false,[(.val (.int .i64 y0))]⟩)),(3,(.one ⟨false,[(.ptr 0 0)]⟩)),(7,(.one ⟨false,[(.ref 1)]⟩))]
def UQ:gK→List (Nat×Entry)
 |(_,y1,y2,y3)=> [(0,(.box 26 [(.val (.int .i64 y1)),(.ref 2)])),(2,(.row false 2 amU y3)),(1,(.row true 2 amU y2))]
def Vi:Nat→gK→List (Nat×SV)
 |_,(_,_,_,_)=> [(7,(.one ⟨false,[(.ref 1)]⟩))]
def Vc:Nat→gK→List (Nat×Entry)
 |_,(_,y1,y2,y3)=> [(0,(.box 26 [(.val (.int .i64 y1)),(.ref 2)])),(1,(.row true 2 amU y2)),(2,(.row false 2 amU y3))]
def sD:gK→LT gK
 |(y0,y1,y2,y3)=> .ite (ur y0 y1) (.need [(ut y1 y3),(uu y0 y1 y2 y3),(uv y0 y1 y2 y3)] (.nrm ((uw y0),y1,(ux y0 y1 y2 y3),y3) [(0,0),(1,704),(2,2)])) (.ext 0 [(0,0),(1,1),(2,2)])
def EN(s:St):Option gK:=
 (match s.look 8 with
 |some ⟨none,(.one ⟨false,[(.val (.int .i64 y0))]⟩)⟩=>
 (match s.look 3 with
 |some ⟨none,(.one ⟨false,[(.ptr 192 0)]⟩)⟩=>
 (match s.look 7 with
 |some ⟨none,(.one ⟨false,[(.ref 320)]⟩)⟩=>
 (match s.ent 192 with
 |some (.box 26 [(.val (.int .i64 y1)),(.ref 0)])=>
 (match s.ent 0 with
 |some (.row false 2 (.int .i64) y3)=>
 (match s.ent 320 with
 |some (.row true 2 (.int .i64) y2)=>
 some (y0,y1,y2,y3)
 |_=>none)
 |_=>none)
 |_=>none)
 |_=>none)
 |_=>none)
 |_=>none)
def bQ:Lp gK where
 h:=⟨[11,12,13,14,17,18,19,20,21,22,23,7,15,16,8],[0,2],[1],[]⟩
 JL:=UW
 JE:=UQ
 XL:=Vi
 XE:=Vc
 q:=fun j=>match j with | _=> .exit 0
 tags:= [0]
 lt:=sD
 fuel:=fun(y0,y1,y2,y3)=>y0.natAbs + y1.natAbs + y2.length + y3.length
 fix:=fun(_,y1,_,y3) (y0,_,y2,_)=>(y0,y1,y2,y3)
 σ:= [(0,192),(2,0),(1,320)]
 rd:=EN
theorem SP:LoopOk Tryz.prog (fun k=>Nat.blt k Tryz.f238.ntmps) bQ.F (aD Tryz.f238 0):=by
 refine Lp.ok (tbl:= [pL,PF.lend pL,PF.fz pL]) (lf:= []) ay bQ (by kernel_rfl) (LOk.nil _) (fun _=>rfl) (fun _ _=>rfl) ?_ ?_ ?_ ?_ (fun _=>rfl) ?_
 ·intro x;obtain⟨y0,y1,y2,y3⟩:=x;kernel_rfl
 ·intro x;obtain⟨y0,y1,y2,y3⟩:=x;kernel_rfl
 ·intro s x h
  have h:EN s=some x:=h
  unfold EN at h
  repeat' split at h
  all_goals cases h
  exact⟨aa (by assumption) rfl (aa (by assumption) rfl (aa (by assumption) rfl (rfl))),ac rfl (by assumption) rfl (ac rfl (by assumption) rfl (ac rfl (by assumption) rfl (rfl)))⟩
 ·intro x;obtain⟨y0,y1,y2,y3⟩:=x;kernel_rfl
 ·intro x z;obtain⟨y0,y1,y2,y3⟩:=x;exact(And.intro rfl trivial)
abbrev gL:=Int×Int×List (Int×(Int×Int))×List Int
section
variable (y0 y1:Int)(y2:List (Int×(Int×Int)))(y3:List Int)
def gp:Int×Int×Int:=Option.getD y2[Int.toNat y0]? ((0:Int),(0:Int),(0:Int))
def fk:Bool:=((gp y0 y2).2).1==y1
def qo:Bool:=ltI y0 (↑y2.length:Int)
def uy:Bool:=leI (0:Int) y0
def uz:Bool:=ltN y0.toNat y2.length
def qp:Bool:= !fk y0 y1 y2||leI (0:Int) y0
def qq:Bool:= !fk y0 y1 y2||ltI y0 (↑y2.length:Int)
def qr:Bool:= !fk y0 y1 y2||ltN y0.toNat y2.length
def uA:Bool:= !fk y0 y1 y2||leI (0:Int) ((gp y0 y2).1)
def uB:Bool:= !fk y0 y1 y2||ltI ((gp y0 y2).1) (↑y3.length:Int)
def uC:Bool:= !fk y0 y1 y2||ltN (Int.toNat ((gp y0 y2).1)) y3.length
def uD:Int:=IntKind.wrap .i64 (y0 + (1:Int))
def sJ:List Int:=bif fk y0 y1 y2 then List.set y3 (Int.toNat ((gp y0 y2).1)) ((gp y0 y2).2.2)else y3
end
def UX:gL→List (Nat×SV)
 |(y0,y1,_,_)=> [(9,(.one ⟨false,[(.val (.int .i64 y0))]⟩)),(1,(.one ⟨false,[(.ref 0)]⟩)),(2,(.one ⟨false,[(.val (.int .i64 y1))]⟩)),(7,(.one ⟨false,[(.ref 1)]⟩))]
def UR:gL→List (Nat×Entry)
 |(_,_,y2,y3)=> [(0,(.row false 169 amS y2)),(1,(.row true 2 amU y3))]
def Vj:Nat→gL→List (Nat×SV)
 |_,(_,_,_,_)=> []
def Vd:Nat→gL→List (Nat×Entry)
 |_,(_,_,y2,y3)=> [(0,(.row false 169 amS y2)),(1,(.row true 2 amU y3))]
def sE:gL→LT gL
 |(y0,y1,y2,y3)=> .ite (qo y0 y2) (.need [(uy y0),(qo y0 y2),(uz y0 y2)] (.need [(qp y0 y1 y2),(qq y0 y1 y2),(qr y0 y1 y2),(qp y0 y1 y2),(qq y0 y1 y2),(qr y0 y1 y2),(uA y0 y1 y2),(uB y0 y1 y2 y3),(uC y0 y1 y2 y3)] (.nrm ((uD y0),y1,y2,(sJ y0 y1 y2 y3)) [(0,0),(1,1)]))) (.ext 0 [(0,0),(1,1)])
def EO(s:St):Option gL:=
 (match s.look 9 with
 |some ⟨none,(.one ⟨false,[(.val (.int .i64 y0))]⟩)⟩=>
 (match s.look 1 with
 |some ⟨none,(.one ⟨false,[(.ref 1)]⟩)⟩=>
 (match s.look 2 with
 |some ⟨none,(.one ⟨false,[(.val (.int .i64 y1))]⟩)⟩=>
 (match s.look 7 with
 |some ⟨none,(.one ⟨false,[(.ref 512)]⟩)⟩=>
 (match s.ent 1 with
 |some (.row false 169 (.pair (.int .i64) (.pair (.int .i64) (.int .i64))) y2)=>
 (match s.ent 512 with
 |some (.row true 2 (.int .i64) y3)=>
 some (y0,y1,y2,y3)
 |_=>none)
 |_=>none)
 |_=>none)
 |_=>none)
 |_=>none)
 |_=>none)
def ct:Lp gL where
 h:=⟨[24,25,26,27,30,31,32,33,34,35,36,37,38,39,40,41,42,43,44,45,46,47,48,28,29,9],[0,1],[],[]⟩
 JL:=UX
 JE:=UR
 XL:=Vj
 XE:=Vd
 q:=fun j=>match j with | _=> .exit 2
 tags:= [0]
 lt:=sE
 fuel:=fun(y0,y1,y2,y3)=>y0.natAbs + y1.natAbs + y2.length + y3.length
 fix:=fun(_,y1,y2,_) (y0,_,_,y3)=>(y0,y1,y2,y3)
 σ:= [(0,1),(1,512)]
 rd:=EO
theorem SQ:LoopOk Tryz.prog (fun k=>Nat.blt k Tryz.f238.ntmps) ct.F (aD Tryz.f238 1):=by
 refine Lp.ok (tbl:= [pL,PF.lend pL,PF.fz pL]) (lf:= []) ay ct (by kernel_rfl) (LOk.nil _) (fun _=>rfl) (fun _ _=>rfl) ?_ ?_ ?_ ?_ (fun _=>rfl) ?_
 ·intro x;obtain⟨y0,y1,y2,y3⟩:=x;kernel_rfl
 ·intro x;obtain⟨y0,y1,y2,y3⟩:=x;kernel_rfl
 ·intro s x h
  have h:EO s=some x:=h
  unfold EO at h
  repeat' split at h
  all_goals cases h
  exact⟨aa (by assumption) rfl (aa (by assumption) rfl (aa (by assumption) rfl (aa (by assumption) rfl (rfl)))),ac rfl (by assumption) rfl (ac rfl (by assumption) rfl (rfl))⟩
 ·intro x;obtain⟨y0,y1,y2,y3⟩:=x;kernel_rfl
 ·intro x z;obtain⟨y0,y1,y2,y3⟩:=x;exact(And.intro rfl trivial)
section
variable (x0 x1:Int)(x2:List Int)(x3:List (Int×Int×Int))
def yz:Int×Int×List Int×List Int:=((0:Int),x0,[],x2)
def yA:Int×Int×List (Int×Int×Int)×List Int:=((0:Int),x1,x3,((Lp.res bQ (yz x0 x2)).2.2.2).1)
def zZ:List Int:=(Lp.res ct (yA x0 x1 x2 x3)).2.2.2.2
def z6:Bool:=allT [Lp.fin bQ (yz x0 x2),Lp.fin ct (yA x0 x1 x2 x3)]
end
def Qr:List SV→List Entry→Option Out
 | [.one ⟨true,[.val (.int .i64 x0),.ref 0]⟩,.one ⟨false,[.ref 1]⟩,.one ⟨false,[.val (.int .i64 x1)]⟩],[.row false 2 (.int .i64) x2,.row false 169 (.pair (.int .i64) (.pair (.int .i64) (.int .i64))) x3]=>some ⟨(.one ⟨false,[(.ref 2)]⟩),[(.row false 2 amU x2),(.row false 169 amS x3)],[(.row true 2 amU (zZ x0 x1 x2 x3))],[(z6 x0 x1 x2 x3)]⟩
 |_,_=>none
def JU:PF Tryz.prog:=PF.ofG Tryz.prog [pL,PF.lend pL,PF.fz pL] [bQ.F,ct.F] ay 238 Tryz.f238 Tryz.func238 (LOk.fnT (l:= [aD Tryz.f238 0,aD Tryz.f238 1]) (by kernel_rfl) (.cons SP (.cons SQ (.nil _)))) Qr (by
 intro vs es r h;unfold Qr at h;split at h
 ·cases h;kernel_rfl
 ·cases h)
section
variable (x0:Int)(x1:List Int)(x2:List (Int×Int×Int))
def Tm:List Int:=zZ x0 (0:Int) x1 x2
def Tn:List Int:=zZ x0 (1:Int) x1 x2
def LX:Bool:=allT [z6 x0 (0:Int) x1 x2,z6 x0 (1:Int) x1 x2]
end
def RZ:List SV→List Entry→Option Out
 | [.one ⟨true,[.val (.int .i64 x0),.ref 0]⟩,.one ⟨false,[.ref 1]⟩],[.row false 2 (.int .i64) x1,.row false 169 (.pair (.int .i64) (.pair (.int .i64) (.int .i64))) x2]=>some ⟨(.one ⟨true,[(.ref 2),(.ref 3)]⟩),[(.row false 2 amU x1),(.row false 169 amS x2)],[(.row true 2 amU (Tm x0 x1 x2)),(.row true 2 amU (Tn x0 x1 x2))],[(LX x0 x1 x2)]⟩
 |_,_=>none
def adc:PF Tryz.prog:=PF.ofG Tryz.prog [JU,PF.lend JU,PF.fz JU] [] ay 222 Tryz.f222 Tryz.func222 (fun c _=>LOk.nil c) RZ (by
 intro vs es r h;unfold RZ at h;split at h
 ·cases h;kernel_rfl
 ·cases h)
end Go.SX

namespace Go.SX
open Go.Proofs
set_option maxRecDepth 100000
def occ(c:Int):Int:=bif ltI c 1 then c else 1
def aaG(ch:Int)(l:List Int)(f:Int×Int×Int):List Int:=bif f.2.1==ch then l.set f.1.toNat f.2.2 else l
def Zp(n:Int)(ps:List Int):List Int:=(List.range n.toNat).map fun(b:Nat)=>occ (TG n ps (b:Int):Int)
def AW(n:Int)(ps:List Int)(fs:List (Int×Int×Int))(ch:Int):List Int:=fs.foldl (aaG ch) (Zp n ps)
def ahZ(n:Int)(a:List Int):Bool:=eqI (a.length:Int) n&&a.all fun v=>inR v 0 1
theorem ah7(ch:Int)(l:List Int)(f:Int×Int×Int):(aaG ch l f).length=l.length:=by
 unfold aaG;cases f.2.1==ch <;> simp
theorem Jl(n:Int)(ps:List Int):(Zp n ps).length=n.toNat:=by simp [Zp]
theorem Lf(ch:Int): ∀ (fs:List (Int×Int×Int)) (l:List Int),(fs.foldl (aaG ch) l).length=l.length
 | [],l=>rfl
 |f::fs,l=>by rw [List.foldl_cons,Lf ch fs,ah7]
theorem agF(n:Int)(ps:List Int)(fs:List (Int×Int×Int))(ch:Int):(AW n ps fs ch).length=n.toNat:=by
 rw [AW,Lf,Jl]
theorem aly{n:Int}{fs:List (Int×Int×Int)}(h2:2≤n∧n≤8)(h:okFs n fs=true):fs.length≤8∧ ∀ f∈fs,(0≤f.1∧f.1 < n)∧(f.2.1=0∨f.2.1=1)∧(0≤f.2.2∧f.2.2≤1):=by
 simp only [okFs,Bool.and_eq_true,eP,List.all_eq_true,List.mem_range]at h
 refine⟨h.1,fun f hf=> ?_⟩
 obtain⟨b,hb,rfl⟩:=List.getElem_of_mem hf
 have h3:=h.2 b hb
 simp only [Bool.not_eq_true',Bool.or_eq_false_iff,aaq,fAt,List.getElem?_eq_getElem hb,Option.getD_some,Bool.not_eq_false']at h3
 have h4:=h3.1
 simp only [fIn,Bool.and_eq_true,pF]at h4
 rw [bp (by omega) (by omega)]at h4
 omega
def fV(n:Int)(f:Int×Int×Int):Bool:=(leI 0 f.1&&ltI f.1 n)&&((f.2.1==0||f.2.1==1)&&inR f.2.2 0 1)
def acE(n:Int)(fs:List (Int×Int×Int)):Bool:=leN fs.length 1000&&fs.all (fV n)
theorem agV{n:Int}{fs:List (Int×Int×Int)}(h:acE n fs=true):fs.length≤1000∧ ∀ f∈fs,(0≤f.1∧f.1 < n)∧(f.2.1=0∨f.2.1=1)∧(0≤f.2.2∧f.2.2≤1):=by
 simp only [acE,Bool.and_eq_true,eP,List.all_eq_true]at h
 refine⟨h.1,fun f hf=> ?_⟩
 have h3:=h.2 f hf
 simp only [fV,Bool.and_eq_true,Bool.or_eq_true,beq_iff_eq,pF,JH,abL]at h3
 exact h3
theorem aln{n:Int}{fs:List (Int×Int×Int)}(h2:2≤n∧n≤8)(h:okFs n fs=true):acE n fs=true:=by
 obtain⟨hl,hf⟩:=aly h2 h
 simp only [acE,Bool.and_eq_true,eP,List.all_eq_true]
 refine⟨by omega,fun f hm=> ?_⟩
 simp only [fV,Bool.and_eq_true,Bool.or_eq_true,beq_iff_eq,pF,JH,abL]
 exact hf f hm
theorem NU{B C:Type}(g:B→C): ∀ (r:List B) (a:List C),r.foldl (fun a b=>a++ [g b]) a=a++r.map g
 | [],a=>by simp
 |b::r,a=>by rw [List.foldl_cons,NU g r];simp
theorem amy(c:Int):afD c 1 c 1=occ c:=by simp [occ]
theorem amz(c:Int):afD 1 c 1 c=occ c:=by
 simp only [agR,occ]
 cases h:ltI 1 c <;> cases h':ltI c 1 <;> simp at h h' ⊢ <;> omega
def kh(y1:Int)(y3:List Int)(b:Nat):(List Int)→Nat ⊕ (List Int)
 |y2=>(.inr (y2++([afD (↑(TG y1 y3 (↑b:Int)):Int) (1:Int) (↑(TG y1 y3 (↑b:Int)):Int) (1:Int)])))
def jt(y1:Int)(y3:List Int)(i:Nat):(List Int)→gK
 |y2=>((i:Int),y1,y2,y3)
def EH:gK→List Int
 |(_,_,y2,_)=>y2
theorem Xv(y1:Int)(y3 y2:List Int)(hn:y1≤9223372036854775807)(hT:isT y1 y3=true)(h0:y2= []):
  bQ.fin ((0:Int),y1,y2,y3)=true∧bQ.res ((0:Int),y1,y2,y3)=((aq (kh y1 y3) 0 (List.range y1.toNat) 0 y2).1,(jt y1 y3) (aq (kh y1 y3) 0 (List.range y1.toNat) 0 y2).2.1 (aq (kh y1 y3) 0 (List.range y1.toNat) 0 y2).2.2):=by
 have key:=bQ.along (jt y1 y3) EH (kh y1 y3) 0 (fun i a=>a.length≤i) (List.range y1.toNat) y2 (by subst h0;simp) (by simp only [bQ,jt,List.length_range];omega) (fun i b a hb hI=> ?_) (fun a hI=> ?_)
 ·exact key
 ·obtain y2:=a
  obtain⟨rfl,hlt⟩:=gV hb
  have hw:IntKind.i64.wrap ((b:Int) + 1)=((b + 1:Nat):Int):=by rw [bp (by omega) (by omega)];omega
  have hdec:ltI (b:Int) y1=true:=db (by omega)
  have hnn:leI (0:Int) (b:Int)=true:=bZ (by omega)
  refine⟨?_,?_,?_,?_⟩
  ·have h4:=(yK.1 hT).1
   simp [lX,ur,ut,uu,uv,uw,ux,sD,bQ,LT.nds,allT,jt,hdec,hT]
   omega
  ·simp [lX,ur,ut,uu,uv,uw,ux,sD,bQ,LT.each,jt,EH,hw]
  ·simp only [lX,ur,ut,uu,uv,uw,ux,sD,bQ,LT.fn,jt,EH,kh,Int.toNat_natCast,hdec,hnn,cond_true,Bool.cond_self]
  ·intro a' hf;simp only [kh,Sum.inr.injEq]at hf;subst hf;simp;omega
 ·obtain y2:=a
  simp only [lX,ur,ut,uu,uv,uw,ux,sD,bQ,LT.out,jt,List.length_range,SU,Xc,cond_false]
def mT(y1:Int)(b:Int×(Int×Int)):(List Int)→Nat ⊕ (List Int)
 |y3=>(.inr (bif(b.2.1==y1)then List.set y3 (Int.toNat b.1) b.2.2else y3))
def ju(y1:Int)(y2:List (Int×(Int×Int)))(i:Nat):(List Int)→gL
 |y3=>((i:Int),y1,y2,y3)
def EI:gL→List Int
 |(_,_,_,y3)=>y3
theorem Xw(y1:Int)(y2:List (Int×(Int×Int)))(y3:List Int)(hn:y2.length≤9223372036854775807)(n:Nat)(h3:y3.length=n)(hf: ∀ f∈y2,0≤f.1∧f.1 < (n:Int)):
  ct.fin ((0:Int),y1,y2,y3)=true∧ct.res ((0:Int),y1,y2,y3)=((aq (mT y1) 0 y2 0 y3).1,(ju y1 y2) (aq (mT y1) 0 y2 0 y3).2.1 (aq (mT y1) 0 y2 0 y3).2.2):=by
 have key:=ct.along (ju y1 y2) EI (mT y1) 0 (fun _ a=>a.length=n) y2 y3 h3 (by simp only [ct,ju];omega) (fun i b a hb hI=> ?_) (fun a hI=> ?_)
 ·exact key
 ·obtain y3:=a
  have hlt:=(List.getElem?_eq_some_iff.1 hb).1
  have hget: ∀ d,Option.getD y2[i]? d=b:=fun d=>by rw [hb];rfl
  have hw:=qG hlt hn
  have hdec:ltI (i:Int) (y2.length:Int)=true:=db (by omega)
  have hnn:leI (0:Int) (i:Int)=true:=bZ (by omega)
  have hltd:ltN i y2.length=true:=dK hlt
  refine⟨?_,?_,?_,?_⟩
  ·have h5:=hf b (List.mem_of_getElem? hb)
   have h6:leI 0 b.1=true:=bZ h5.1
   have h7:ltI b.1 (a.length:Int)=true:=db (by omega)
   have h8:ltN b.1.toNat a.length=true:=dK (by omega)
   simp only [gp,fk,qo,uy,uz,qp,qq,qr,uA,uB,uC,uD,sJ,sE,ct,LT.nds,allT,ju,Int.toNat_natCast,hdec,hnn,hltd,hget,h6,h7,h8,Bool.or_true,cond_true]
  ·simp [gp,fk,qo,uy,uz,qp,qq,qr,uA,uB,uC,uD,sJ,sE,ct,LT.each,ju,EI,hw]
  ·simp only [gp,fk,qo,uy,uz,qp,qq,qr,uA,uB,uC,uD,sJ,sE,ct,LT.fn,ju,EI,mT,Int.toNat_natCast,hdec,hnn,hltd,hget,cond_true,Bool.cond_self]
  ·intro a' hf;simp only [mT,Sum.inr.injEq]at hf;subst hf;cases b.2.1==y1 <;> simpa using hI
 ·obtain y3:=a
  simp [gp,fk,qo,uy,uz,qp,qq,qr,uA,uB,uC,uD,sJ,sE,ct,LT.out,ju]
theorem adS(n ch:Int)(ps:List Int)(fs:List (Int×Int×Int))(hT:isT n ps=true)(hF:acE n fs=true):
  zZ n ch ps fs=AW n ps fs ch∧z6 n ch ps fs=true:=by
 have h2:=(yK.1 hT).1
 obtain⟨hl,hf⟩:=agV hF
 obtain⟨w1,w2⟩:=Xv n ps [] (by omega) hT rfl
 rw [iW (f:=kh n ps) (g:=fun a b=>a++ [occ (TG n ps ((b:Nat):Int):Int)]) (fun b a=>by simp only [kh,amy]),NU]at w2
 have e1:((Lp.res bQ (yz n ps)).2.2.2).1=Zp n ps:=by
  simp only [yz,w2,jt,List.nil_append];rfl
 obtain⟨v1,v2⟩:=Xw ch fs (Zp n ps) (by omega) n.toNat (Jl n ps) (fun f hm=>by have:=(hf f hm).1;omega)
 rw [iW (f:=mT ch) (g:=aaG ch) (fun b a=>rfl)]at v2
 refine⟨?_,?_⟩
 ·simp only [zZ,yA,e1,v2,ju];rfl
 ·have v3:Lp.fin ct (yA n ch ps fs)=true:=by rw [yA,e1];exact v1
  have w3:Lp.fin bQ (yz n ps)=true:=w1
  simp only [z6,v3,w3,allT,cond_true]
theorem afU(n:Int)(ps:List Int)(fs:List (Int×Int×Int))(h:(isT n ps&&acE n fs)=true):
  Tm n ps fs=AW n ps fs 0∧Tn n ps fs=AW n ps fs 1∧LX n ps fs=true:=by
 simp only [Bool.and_eq_true]at h
 obtain⟨a1,a2⟩:=adS n 0 ps fs h.1 h.2
 obtain⟨b1,b2⟩:=adS n 1 ps fs h.1 h.2
 exact⟨a1,b1,by simp only [LX,a2,b2,allT,cond_true]⟩
def Sv:List SV→List Entry→Option Out
 | [.one ⟨true,[.val (.int .i64 x0),.ref 0]⟩,.one ⟨false,[.ref 1]⟩],[.row false 2 (.int .i64) x1,.row false 169 (.pair (.int .i64) (.pair (.int .i64) (.int .i64))) x2]=>some ⟨(.one ⟨true,[(.ref 2),(.ref 3)]⟩),[(.row false 2 amU x1),(.row false 169 amS x2)],[(.row true 2 amU (AW x0 x1 x2 0)),(.row true 2 amU (AW x0 x1 x2 1))],[isT x0 x1&&acE x0 x2]⟩
 |_,_=>none
def LM:PF Tryz.prog:=PF.alt adc Sv (by
 intro args es o h hnd;unfold Sv at h;split at h
 ·rename_i x0 x1 x2
  cases h
  have hnd:=eD hnd
  have hh:=afU x0 x1 x2 hnd
  obtain⟨e0,e1,en⟩:=hh
  exact gW rfl (eN en) rfl rfl (by simp only [e0,e1] <;> rfl)
 ·cases h)
def mS(y2:List Int)(b:Nat):(List Int)→Nat ⊕ (List Int)
 |y3=>(.inr (List.set y3 b (afD (1:Int) (Option.getD y2[b]? (0:Int)) (1:Int) (Option.getD y2[b]? (0:Int)))))
def lA(y2:List Int)(i:Nat):(List Int)→iY
 |y3=>((i:Int),(↑y2.length:Int),y2,y3)
def GM:iY→List Int
 |(_,_,_,y3)=>y3
theorem aaK(y2 y3:List Int)(hn:y2.length≤9223372036854775807)(hl:y3.length=y2.length):
  dq.fin ((0:Int),(↑y2.length:Int),y2,y3)=true∧dq.res ((0:Int),(↑y2.length:Int),y2,y3)=((aq (mS y2) 0 (List.range y2.length) 0 y3).1,(lA y2) (aq (mS y2) 0 (List.range y2.length) 0 y3).2.1 (aq (mS y2) 0 (List.range y2.length) 0 y3).2.2):=by
 have key:=dq.along (lA y2) GM (mS y2) 0 (fun _ a=>a.length=y2.length) (List.range y2.length) y3 hl (by simp only [dq,lA,List.length_range];omega) (fun i b a hb hI=> ?_) (fun a hI=> ?_)
 ·exact key
 ·obtain y3:=a
  obtain⟨rfl,hlt⟩:=gV hb
  have hw:IntKind.i64.wrap ((b:Int) + 1)=((b + 1:Nat):Int):=by rw [bp (by omega) (by omega)];omega
  have hdec:ltI (b:Int) (y2.length:Int)=true:=db (by omega)
  have hnn:leI (0:Int) (b:Int)=true:=bZ (by omega)
  have hltd:ltN b y2.length=true:=dK (by omega)
  refine⟨?_,?_,?_,?_⟩
  ·simp [rH,xt,sP,xu,xw,xx,xy,xz,xA,vT,dq,LT.nds,allT,lA,hdec,hnn,hltd,hI]
  ·simp [rH,xt,sP,xu,xw,xx,xy,xz,xA,vT,dq,LT.each,lA,GM,hw,hI]
  ·simp only [rH,xt,sP,xu,xw,xx,xy,xz,xA,vT,dq,LT.fn,lA,GM,mS,Int.toNat_natCast,hdec,cond_true]
  ·intro a' hf;simp only [mS,Sum.inr.injEq]at hf;subst hf;simpa using hI
 ·obtain y3:=a
  simp [rH,xt,sP,xu,xw,xx,xy,xz,xA,vT,dq,LT.out,lA,List.length_range]
def pQ(b:Int×(Int×Int)):(List Int×List Int)→Nat ⊕ (List Int×List Int)
 |(y3,y4)=>(.inr ((bif(b.2.1==(0:Int))then List.set y3 (Int.toNat b.1) b.2.2else y3),(bif(b.2.1==(0:Int))then y4 else List.set y4 (Int.toNat b.1) b.2.2)))
def lB(y2:List (Int×(Int×Int)))(i:Nat):(List Int×List Int)→iZ
 |(y3,y4)=>((i:Int),(↑y2.length:Int),y2,y3,y4)
def GN:iZ→List Int×List Int
 |(_,_,_,y3,y4)=>(y3,y4)
theorem aaL(y2:List (Int×(Int×Int)))(y3 y4:List Int)(hn:y2.length≤9223372036854775807)(n:Nat)(h3:y3.length=n)(h4:y4.length=n)(hf: ∀ f∈y2,0≤f.1∧f.1 < (n:Int)):
  dr.fin ((0:Int),(↑y2.length:Int),y2,y3,y4)=true∧dr.res ((0:Int),(↑y2.length:Int),y2,y3,y4)=((aq (pQ) 0 y2 0 (y3,y4)).1,(lB y2) (aq (pQ) 0 y2 0 (y3,y4)).2.1 (aq (pQ) 0 y2 0 (y3,y4)).2.2):=by
 have key:=dr.along (lB y2) GN (pQ) 0 (fun _ a=>a.1.length=n∧a.2.length=n) y2 (y3,y4) ⟨h3,h4⟩ (by simp only [dr,lB];omega) (fun i b a hb hI=> ?_) (fun a hI=> ?_)
 ·exact key
 ·obtain⟨y3,y4⟩:=a
  have hlt:=(List.getElem?_eq_some_iff.1 hb).1
  have hget: ∀ d,Option.getD y2[i]? d=b:=fun d=>by rw [hb];rfl
  have hw:=qG hlt hn
  have hdec:ltI (i:Int) (y2.length:Int)=true:=db (by omega)
  have hnn:leI (0:Int) (i:Int)=true:=bZ (by omega)
  have hltd:ltN i y2.length=true:=dK hlt
  refine⟨?_,?_,?_,?_⟩
  ·have h5:=hf b (List.mem_of_getElem? hb)
   have hI1:=hI.1
   have hI2:=hI.2
   have h6:leI 0 b.1=true:=bZ h5.1
   have h7:ltI b.1 (n:Int)=true:=db (by omega)
   have h8:ltN b.1.toNat n=true:=dK (by omega)
   simp only at hI1 hI2
   simp [dn,fS,rI,xB,xC,xD,xE,xF,xG,xH,xI,xJ,xK,vF,vG,vH,vU,dr,LT.nds,allT,lB,hdec,hnn,hltd,hget,h6,h7,h8,hI1,hI2]
  ·simp [dn,fS,rI,xB,xC,xD,xE,xF,xG,xH,xI,xJ,xK,vF,vG,vH,vU,dr,LT.each,lB,GN,hw]
  ·simp only [dn,fS,rI,xB,xC,xD,xE,xF,xG,xH,xI,xJ,xK,vF,vG,vH,vU,dr,LT.fn,lB,GN,pQ,Int.toNat_natCast,hdec,hnn,hltd,hget,cond_true,Bool.cond_self]
  ·intro a' hf;simp only [pQ,Sum.inr.injEq]at hf;subst hf;have hI1:=hI.1;have hI2:=hI.2;cases b.2.1==0 <;> simpa using ⟨hI1,hI2⟩
 ·obtain⟨y3,y4⟩:=a
  simp [dn,fS,rI,xB,xC,xD,xE,xF,xG,xH,xI,xJ,xK,vF,vG,vH,vU,dr,LT.out,lB]
theorem acD: ∀ (fs:List (Int×Int×Int)) (a:List Int×List Int),(∀ f∈fs,f.2.1=0∨f.2.1=1)→
  fs.foldl (fun a f=>(bif f.2.1==0 then a.1.set f.1.toNat f.2.2 else a.1,bif f.2.1==0 then a.2 else a.2.set f.1.toNat f.2.2)) a=(fs.foldl (aaG 0) a.1,fs.foldl (aaG 1) a.2)
 | [],a,_=>rfl
 |f::fs,a,h=>by
  simp only [List.foldl_cons]
  rw [acD fs _ (fun g hg=>h g (by simp [hg]))]
  rcases h f (by simp)with e | e <;> simp [aaG,e]
theorem afG(n:Int)(ps:List Int)(fs:List (Int×Int×Int))(h:(isT n ps&&acE n fs)=true):
  MX n ps fs=AW n ps fs 0∧MY n ps fs=AW n ps fs 1∧MZ n ps fs=true:=by
 simp only [Bool.and_eq_true]at h
 have h2:=(yK.1 h.1).1
 obtain⟨hl,hf⟩:=agV h.2
 have hr:(List.replicate n.toNat (0:Int)).length=(qF n ps).length:=by rw [RB];simp
 obtain⟨w1,w2⟩:=aaK (qF n ps) (List.replicate n.toNat (0:Int)) (by rw [RB];omega) hr
 rw [Gy (xs:=qF n ps) (d:=(0:Int)) (g:=occ) (f:=mS (qF n ps)) (e:=0) (fun b a=>by simp only [mS,amz]) hr]at w2
 have e1:wy n ps=Zp n ps:=by
  rw [wy,Gn,w2]
  simp only [lA,qF,Zp,List.map_map];rfl
 obtain⟨v1,v2⟩:=aaL fs (Zp n ps) (Zp n ps) (by omega) n.toNat (Jl n ps) (Jl n ps) (fun f hm=>by have:=(hf f hm).1;omega)
 rw [iW (f:=pQ) (g:=fun a f=>(bif f.2.1==0 then a.1.set f.1.toNat f.2.2 else a.1,bif f.2.1==0 then a.2 else a.2.set f.1.toNat f.2.2)) (fun b a=>rfl),acD _ _ (fun f hm=>(hf f hm).2.1)]at v2
 have e3:Gp n ps fs=(AW n ps fs 0,AW n ps fs 1):=by
  simp only [Gp,BF,e1,v2,lB];rfl
 refine⟨by rw [MX,e3],by rw [MY,e3],?_⟩
 have e4:Lp.fin dr (BF n ps fs)=true:=by simp only [BF,e1];exact v1
 have e5:Lp.fin dq (Gn n ps)=true:=w1
 simp only [MZ,e4,e5,e1,h.1,Jl,allT]
 simp;omega
def UC:List SV→List Entry→Option Out
 | [.one ⟨true,[.val (.int .i64 x0),.ref 0]⟩,.one ⟨false,[.ref 1]⟩],[.row false 2 (.int .i64) x1,.row false 169 (.pair (.int .i64) (.pair (.int .i64) (.int .i64))) x2]=>some ⟨(.one ⟨true,[(.ref 2),(.ref 3)]⟩),[(.row false 2 amU x1),(.row false 169 amS x2)],[(.row true 2 amU (AW x0 x1 x2 0)),(.row true 2 amU (AW x0 x1 x2 1))],[isT x0 x1&&acE x0 x2]⟩
 |_,_=>none
def Nd:PF Tryz.prog:=PF.alt ad5 UC (by
 intro args es o h hnd;unfold UC at h;split at h
 ·rename_i x0 x1 x2
  cases h
  have hnd:=eD hnd
  have hh:=afG x0 x1 x2 hnd
  obtain⟨e0,e1,en⟩:=hh
  exact gW rfl (eN en) rfl rfl (by simp only [e0,e1] <;> rfl)
 ·cases h)
def Gz(n:Int)(ps:List Int)(t:Int):Int:=Int.tmod (blk (ps[t.toNat]?.getD 0) + 1) n
def ZE(n:Int)(ps a b:List Int)(t:Int):Bool:=phs (ps[t.toNat]?.getD 0)!=1||(a[(Gz n ps t).toNat]?.getD 0==0&&b[(Gz n ps t).toNat]?.getD 0==0)
def Rs(n:Int)(ps a b:List Int)(t:Int):Bool:=SZ n ps t&&(ahZ n a&&ahZ n b)
theorem aff{n t:Int}{ps a b:List Int}(h:Rs n ps a b t=true):
  (0≤t∧t < ps.length)∧(2≤n∧n≤8)∧(0≤Gz n ps t∧Gz n ps t < n)∧((a.length:Int)=n∧(b.length:Int)=n)∧
   IntKind.i64.wrap (IntKind.i64.wrap (Int.tdiv (ps[t.toNat]?.getD 0) 3) + 1)=blk (ps[t.toNat]?.getD 0) + 1∧
   (0≤a[(Gz n ps t).toNat]?.getD 0∧a[(Gz n ps t).toNat]?.getD 0≤1)∧(0≤b[(Gz n ps t).toNat]?.getD 0∧b[(Gz n ps t).toNat]?.getD 0≤1):=by
 simp only [Rs,Bool.and_eq_true,abP,ahZ,ajs,List.all_eq_true,pF,Or]at h
 obtain⟨⟨hT,ht⟩,⟨ha,ha2⟩,hb,hb2⟩:=h
 have h1:=yK.1 hT
 have hlt:t.toNat < ps.length:=by omega
 have hp:=h1.2.2 (ps[t.toNat]) (List.getElem_mem hlt)
 have e0:ps[t.toNat]?.getD 0=ps[t.toNat]:=by rw [List.getElem?_eq_getElem hlt];rfl
 rw [Gz,e0]
 have hb3:blk ps[t.toNat]=ps[t.toNat] / 3:=acr hp.1
 have hb4:Int.tdiv ps[t.toNat] 3=ps[t.toNat] / 3:=Int.tdiv_eq_ediv_of_nonneg hp.1
 have hq:Int.tmod (blk ps[t.toNat] + 1) n=(ps[t.toNat] / 3 + 1) % n:=by rw [hb3,Int.tmod_eq_emod_of_nonneg (by omega)]
 have hm0:0≤(ps[t.toNat] / 3 + 1) % n:=Int.emod_nonneg _ (by omega)
 have hm1:(ps[t.toNat] / 3 + 1) % n < n:=Int.emod_lt_of_pos _ (by omega)
 rw [hq]
 have la:((ps[t.toNat] / 3 + 1) % n).toNat < a.length:=by omega
 have lb:((ps[t.toNat] / 3 + 1) % n).toNat < b.length:=by omega
 rw [List.getElem?_eq_getElem la,List.getElem?_eq_getElem lb]
 refine⟨ht,h1.1,⟨hm0,hm1⟩,⟨ha,hb⟩,?_,ha2 _ (List.getElem_mem la),hb2 _ (List.getElem_mem lb)⟩
 rw [hb4,bp (x:=ps[t.toNat] / 3) (by omega) (by omega),bp (by omega) (by omega),hb3]
theorem aia(n t:Int)(ps a b:List Int)(h:Rs n ps a b t=true):Kx n t ps a b=ZE n ps a b t∧Ky n t ps a b=true:=by
 obtain⟨ht,hn,hx,hl,hw,ha,hb⟩:=aff h
 have e2:kE n t ps=Gz n ps t:=by
  simp only [kE,DK,hw];rfl
 refine⟨?_,?_⟩
 ·simp only [Kx,e2,pX,DK,ZE,phs]
  rw [bp (by omega) (by omega)]
  cases Int.tmod (ps[t.toNat]?.getD 0) 3 !=1 with
  |true=>rfl
  |false=>
   rw [cond_false,Bool.false_or,Bool.eq_iff_iff]
   simp only [beq_iff_eq,Bool.and_eq_true]
   omega
 ·have t1:leI 0 t=true:=bZ ht.1
  have t2:ltI t (ps.length:Int)=true:=db ht.2
  have t3:ltN t.toNat ps.length=true:=dK (by omega)
  have t4:neI n 0=true:=agh (by omega)
  have t5:leI 0 (Gz n ps t)=true:=bZ hx.1
  have t6:ltI (Gz n ps t) (a.length:Int)=true:=db (by omega)
  have t7:ltN (Gz n ps t).toNat a.length=true:=dK (by omega)
  have t8:ltI (Gz n ps t) (b.length:Int)=true:=db (by omega)
  have t9:ltN (Gz n ps t).toNat b.length=true:=dK (by omega)
  simp only [Ky,IB,e2,t1,t2,t3,t4,t5,t6,t7,t8,t9,allT,cond_true,Bool.or_true]
def Qx:List SV→List Entry→Option Out
 | [.one ⟨true,[.val (.int .i64 x0),.ref 0]⟩,.one ⟨true,[.ref 1,.ref 2]⟩,.one ⟨false,[.val (.int .i64 x1)]⟩],[.row false 2 (.int .i64) x2,.row false 2 (.int .i64) x3,.row false 2 (.int .i64) x4]=>some ⟨(.one ⟨false,[(.val (.bool (ZE x0 x2 x3 x4 x1)))]⟩),[(.row false 2 amU x2),(.row false 2 amU x3),(.row false 2 amU x4)],[],[Rs x0 x2 x3 x4 x1]⟩
 |_,_=>none
def JO:PF Tryz.prog:=PF.alt abY Qx (by
 intro args es o h hnd;unfold Qx at h;split at h
 ·rename_i x0 x1 x2 x3 x4
  cases h
  have hnd:=eD hnd
  have hh:=aia x0 x1 x2 x3 x4 hnd
  obtain⟨e0,en⟩:=hh
  exact gW rfl (eN en) (by simp only [e0] <;> rfl) rfl rfl
 ·cases h)
theorem ahH(n t:Int)(a b ps:List Int)(h:Rs n ps a b t=true):kI n t a b ps=ZE n ps a b t∧kJ n t a b ps=true:=by
 obtain⟨ht,hn,hx,hl,hw,ha,hb⟩:=aff h
 have e2:gG n t ps=Gz n ps t:=by
  simp only [gG,gF,hw];rfl
 refine⟨?_,?_⟩
 ·simp only [kI,e2,dW,gF,kG,dV,ZE,phs]
  cases Int.tmod (ps[t.toNat]?.getD 0) 3 !=1 with
  |true=>rfl
  |false=>
   rw [cond_false,Bool.false_or]
   cases a[(Gz n ps t).toNat]?.getD 0==0 <;> rfl
 ·have t1:leI 0 t=true:=bZ ht.1
  have t2:ltI t (ps.length:Int)=true:=db ht.2
  have t3:ltN t.toNat ps.length=true:=dK (by omega)
  have t4:neI n 0=true:=agh (by omega)
  have t4':neI (3:Int) 0=true:=agh (by omega)
  have t5:leI 0 (Gz n ps t)=true:=bZ hx.1
  have t6:ltI (Gz n ps t) (a.length:Int)=true:=db (by omega)
  have t7:ltN (Gz n ps t).toNat a.length=true:=dK (by omega)
  have t8:ltI (Gz n ps t) (b.length:Int)=true:=db (by omega)
  have t9:ltN (Gz n ps t).toNat b.length=true:=dK (by omega)
  simp only [kJ,kH,e2,t1,t2,t3,t4,t4',t5,t6,t7,t8,t9,allT,cond_true,Bool.or_true]
def rX:List SV→List Entry→Option Out
 | [.one ⟨true,[.ref 0,.ref 1]⟩,.one ⟨true,[.val (.int .i64 x0),.ref 2]⟩,.one ⟨false,[.val (.int .i64 x1)]⟩],[.row false 2 (.int .i64) x2,.row false 2 (.int .i64) x3,.row false 2 (.int .i64) x4]=>some ⟨(.one ⟨false,[(.val (.bool (ZE x0 x4 x2 x3 x1)))]⟩),[(.row false 2 amU x2),(.row false 2 amU x3),(.row false 2 amU x4)],[],[Rs x0 x4 x2 x3 x1]⟩
 |_,_=>none
def kN:PF Tryz.prog:=PF.alt DW rX (by
 intro args es o h hnd;unfold rX at h;split at h
 ·rename_i x0 x1 x2 x3 x4
  cases h
  have hnd:=eD hnd
  have hh:=ahH x0 x1 x2 x3 x4 hnd
  obtain⟨e0,en⟩:=hh
  exact gW rfl (eN en) (by simp only [e0] <;> rfl) rfl rfl
 ·cases h)
theorem ak9(n:Int)(ps:List Int)(b:Int):inR (occ (TG n ps b:Int)) 0 1=true:=by
 rw [pF,occ];cases h:ltI (TG n ps b:Int) 1 <;> simp at h ⊢;omega
theorem ahr(n:Int)(ps:List Int)(fs:List (Int×Int×Int))(ch:Int)(hT:isT n ps=true)(hF:acE n fs=true):ahZ n (AW n ps fs ch)=true:=by
 have h2:=(yK.1 hT).1
 obtain⟨hl,hf⟩:=agV hF
 simp only [ahZ,Bool.and_eq_true,ajs,agF]
 refine⟨by omega,?_⟩
 have key: ∀ (fs:List (Int×Int×Int)) (l:List Int),(∀ f∈fs,0≤f.2.2∧f.2.2≤1)→(l.all fun v=>inR v 0 1)=true→((fs.foldl (aaG ch) l).all fun v=>inR v 0 1)=true:=by
  intro fs
  induction fs with
  |nil=>intro l _ h;exact h
  |cons f fs ih=>
   intro l hv h
   rw [List.foldl_cons]
   refine ih _ (fun g hg=>hv g (by simp [hg])) ?_
   unfold aaG
   cases f.2.1==ch with
   |false=>exact h
   |true=>
    simp only [cond_true,List.all_eq_true]at h ⊢
    intro v hm
    rcases List.mem_or_eq_of_mem_set hm with h3 | rfl
    ·exact h v h3
    ·exact pF.2 (hv f (by simp))
 refine key fs _ (fun f hm=>(hf f hm).2.2) ?_
 simp only [Zp,List.all_map,List.all_eq_true,Function.comp]
 intro b _;exact ak9 n ps b
end Go.SX

namespace Go.SX
open Go.Proofs
set_option maxRecDepth 100000
def PA(x0 x1 x2:Int):Bool:=bif bif x1==(0:Int)then x1==(0:Int)else x1==(1:Int)then aJ x2 (0:Int) (IntKind.wrap .i64 (x0 - (1:Int)))else bif bif x1==(2:Int)then x1==(2:Int)else x1==(3:Int)then x2==(0:Int)else false
def VM:List SV→List Entry→Option Out
 | [.one ⟨false,[.val (.int .i64 x0)]⟩,.one ⟨true,[.val (.int .i64 x1),.val (.int .i64 x2)]⟩],[]=>some ⟨(.one ⟨false,[(.val (.bool (PA x0 x1 x2)))]⟩),[],[],[]⟩
 |_,_=>none
def afb:PF Tryz.prog:=PF.ofG Tryz.prog [eQ] [] ay 100 Tryz.f100 Tryz.func100 (fun c _=>LOk.nil c) VM (by
 intro vs es r h;unfold VM at h;split at h
 ·cases h;kernel_rfl
 ·cases h)
def PD(x0:Int):Bool:=aJ x0 (0:Int) (3:Int)
def VQ:List SV→List Entry→Option Out
 | [.one ⟨false,[.val (.int .i64 x0)]⟩],[]=>some ⟨(.one ⟨false,[(.val (.bool (PD x0)))]⟩),[],[],[]⟩
 |_,_=>none
def afe:PF Tryz.prog:=PF.ofG Tryz.prog [eQ] [] ay 186 Tryz.f186 Tryz.func186 (fun c _=>LOk.nil c) VQ (by
 intro vs es r h;unfold VQ at h;split at h
 ·cases h;kernel_rfl
 ·cases h)
def LS(x0 x1:Int):Bool:=bif aJ x0 (0:Int) (9:Int)then PD x1 else false
def RU:List SV→List Entry→Option Out
 | [.one ⟨true,[.val (.int .i64 x0),.val (.int .i64 x1),.val (.bool _x2)]⟩],[]=>some ⟨(.one ⟨false,[(.val (.bool (LS x0 x1)))]⟩),[],[],[]⟩
 |_,_=>none
def ada:PF Tryz.prog:=PF.ofG Tryz.prog [afe,eQ] [] ay 101 Tryz.f101 Tryz.func101 (fun c _=>LOk.nil c) RU (by
 intro vs es r h;unfold RU at h;split at h
 ·cases h;kernel_rfl
 ·cases h)
abbrev bX:=Int×Int×Int×List Int
section
variable (y0 y1 y2:Int)(y3:List Int)
def kk:Bool:=ltI y0 y1
def km:Bool:=leI (0:Int) y0
def kn:Bool:=ltI y0 (↑y3.length:Int)
def ko:Bool:=ltN y0.toNat y3.length
def kq:Bool:=y2==Option.getD y3[Int.toNat y0]? (0:Int)
def kr:Int:=IntKind.wrap .i64 (y0 + (1:Int))
end
def Lb:bX→List (Nat×SV)
 |(y0,y1,y2,_)=> [(8,(.one ⟨false,[(.val (.int .i64 y0))]⟩)),(7,(.one ⟨false,[(.val (.int .i64 y1))]⟩)),(1,(.one ⟨false,[(.val (.int .i64 y2))]⟩)),(0,(.one ⟨false,[(.ref 0)]⟩))]
def La:bX→List (Nat×Entry)
 |(_,_,_,y3)=> [(0,(.row false 2 amU y3))]
def Ld:Nat→bX→List (Nat×SV)
 |0,(y0,_,_,_)=> [(4,(.one ⟨false,[(.val (.int .i64 y0))]⟩))]
 |_,(_,_,_,_)=> []
def Lc:Nat→bX→List (Nat×Entry)
 |0,(_,_,_,y3)=> [(0,(.row false 2 amU y3))]
 |_,(_,_,_,y3)=> [(0,(.row false 2 amU y3))]
def jM:bX→LT bX
 |(y0,y1,y2,y3)=> .ite (kk y0 y1) (.need [(km y0),(kn y0 y3),(ko y0 y3)] (.ite (kq y0 y2 y3) (.ext 0 [(0,0)]) (.nrm ((kr y0),y1,y2,y3) [(0,0)]))) (.ext 1 [(0,0)])
def ta(s:St):Option bX:=
 (match s.look 8 with
 |some ⟨none,(.one ⟨false,[(.val (.int .i64 y0))]⟩)⟩=>
 (match s.look 7 with
 |some ⟨none,(.one ⟨false,[(.val (.int .i64 y1))]⟩)⟩=>
 (match s.look 1 with
 |some ⟨none,(.one ⟨false,[(.val (.int .i64 y2))]⟩)⟩=>
 (match s.look 0 with
 |some ⟨none,(.one ⟨false,[(.ref 0)]⟩)⟩=>
 (match s.ent 0 with
 |some (.row false 2 (.int .i64) y3)=>
 some (y0,y1,y2,y3)
 |_=>none)
 |_=>none)
 |_=>none)
 |_=>none)
 |_=>none)
def aL:Lp bX where
 h:=⟨[9,10,5,11,12,13,14,15,16,17,4,18,8],[0],[],[]⟩
 JL:=Lb
 JE:=La
 XL:=Ld
 XE:=Lc
 q:=fun j=>match j with | 0=> .ret | _=> .exit 0
 tags:= [0,1]
 lt:=jM
 fuel:=fun(y0,y1,y2,y3)=>y0.natAbs + y1.natAbs + y2.natAbs + y3.length
 fix:=fun(_,y1,y2,y3) (y0,_,_,_)=>(y0,y1,y2,y3)
 σ:= [(0,0)]
 rd:=ta
theorem JJ:LoopOk Tryz.prog (fun k=>Nat.blt k Tryz.f212.ntmps) aL.F (aD Tryz.f212 0):=by
 refine Lp.ok (tbl:= []) (lf:= []) ay aL (by kernel_rfl) (LOk.nil _) (fun _=>rfl) (fun j _=>by unfold aL;match j with | 0=>rfl | _ + 1=>rfl) ?_ ?_ ?_ ?_ (fun _=>rfl) ?_
 ·intro x;obtain⟨y0,y1,y2,y3⟩:=x;kernel_rfl
 ·intro x;obtain⟨y0,y1,y2,y3⟩:=x;kernel_rfl
 ·intro s x h
  have h:ta s=some x:=h
  unfold ta at h
  repeat' split at h
  all_goals cases h
  exact⟨aa (by assumption) rfl (aa (by assumption) rfl (aa (by assumption) rfl (aa (by assumption) rfl (rfl)))),ac rfl (by assumption) rfl (rfl)⟩
 ·intro x;obtain⟨y0,y1,y2,y3⟩:=x;kernel_rfl
 ·intro x z;obtain⟨y0,y1,y2,y3⟩:=x;exact(And.intro (And.intro trivial rfl) trivial)
section
variable (x0:Int)(x1:List Int)
def qA:Int×Int×Int×List Int:=((0:Int),(↑x1.length:Int),x0,x1)
def yo:Int:=bif Nat.beq ((Lp.res aL (qA x0 x1)).1) (0:Nat)then ((Lp.res aL (qA x0 x1)).2).1else(-1:Int)
def yp:Bool:=allT [Lp.fin aL (qA x0 x1)]
end
def Fq:List SV→List Entry→Option Out
 | [.one ⟨false,[.ref 0]⟩,.one ⟨false,[.val (.int .i64 x0)]⟩],[.row false 2 (.int .i64) x1]=>some ⟨(.one ⟨false,[(.val (.int .i64 (yo x0 x1)))]⟩),[(.row false 2 amU x1)],[],[(yp x0 x1)]⟩
 |_,_=>none
def yg:PF Tryz.prog:=PF.ofG Tryz.prog [] [aL.F] ay 212 Tryz.f212 Tryz.func212 (LOk.fnT (l:= [aD Tryz.f212 0]) (by kernel_rfl) (.cons JJ (.nil _))) Fq (by
 intro vs es r h;unfold Fq at h;split at h
 ·cases h;kernel_rfl
 ·cases h)
def cX(x0:Int)(x1:List Int):Bool:=leI (0:Int) (yo x0 x1)
def im(x0:Int)(x1:List Int):Bool:=allT [yp x0 x1]
def Dc:List SV→List Entry→Option Out
 | [.one ⟨false,[.ref 0]⟩,.one ⟨false,[.val (.int .i64 x0)]⟩],[.row false 2 (.int .i64) x1]=>some ⟨(.one ⟨false,[(.val (.bool (cX x0 x1)))]⟩),[(.row false 2 amU x1)],[],[(im x0 x1)]⟩
 |_,_=>none
def cW:PF Tryz.prog:=PF.ofG Tryz.prog [yg,PF.lend yg,PF.fz yg] [] ay 160 Tryz.f160 Tryz.func160 (fun c _=>LOk.nil c) Dc (by
 intro vs es r h;unfold Dc at h;split at h
 ·cases h;kernel_rfl
 ·cases h)
def TN(x0:Bool):Int:=bif x0 then(1:Int)else(0:Int)
def aaQ:List SV→List Entry→Option Out
 | [.one ⟨false,[.val (.bool x0)]⟩],[]=>some ⟨(.one ⟨false,[(.val (.int .i64 (TN x0)))]⟩),[],[],[]⟩
 |_,_=>none
def Uc:PF Tryz.prog:=PF.ofG Tryz.prog [] [] ay 232 Tryz.f232 Tryz.func232 (fun c _=>LOk.nil c) aaQ (by
 intro vs es r h;unfold aaQ at h;split at h
 ·cases h;kernel_rfl
 ·cases h)
abbrev gI:=Int×Int×List Int×List Int
section
variable (y0 y1:Int)(y2 y3:List Int)
def lF:List Int:= [TN (Option.getD y2[Int.toNat y0]? (0:Int)==(2:Int))]
def tH:Bool:=ltI y0 y1
def tI:Bool:=leI (0:Int) y0
def tJ:Bool:=ltI y0 (↑y2.length:Int)
def tK:Bool:=ltN y0.toNat y2.length
def tL:Bool:=leN (List.length y3 + List.length (lF y0 y2)) (9223372036854775807:Nat)
def tM:Bool:=leN ((List.length y3 + List.length (lF y0 y2)) * (8:Nat)) (140737488355328:Nat)
def tN:Int:=IntKind.wrap .i64 (y0 + (1:Int))
def tO:List Int:=y3++lF y0 y2
end
def UU:gI→List (Nat×SV)
 |(y0,y1,_,_)=> [(13,(.one ⟨false,[(.val (.int .i64 y0))]⟩)),(12,(.one ⟨false,[(.val (.int .i64 y1))]⟩)),(11,(.one ⟨false,[(.ref 0)]⟩)),(5,(.one ⟨false,[(.ref 1)]⟩))]
def UO:gI→List (Nat×Entry)
 |(_,_,y2,y3)=> [(0,(.row false 2 amU y2)),(1,(.row true 2 amU y3))]
def Vg:Nat→gI→List (Nat×SV)
 |_,(_,_,_,_)=> [(5,(.one ⟨false,[(.ref 1)]⟩))]
def Va:Nat→gI→List (Nat×Entry)
 |_,(_,_,y2,y3)=> [(0,(.row false 2 amU y2)),(1,(.row true 2 amU y3))]
def sB:gI→LT gI
 |(y0,y1,y2,y3)=> .ite (tH y0 y1) (.need [(tI y0),(tJ y0 y2),(tK y0 y2)] (.need [(tL y0 y2 y3),(tM y0 y2 y3)] (.nrm ((tN y0),y1,y2,(tO y0 y2 y3)) [(0,0),(1,640)]))) (.ext 0 [(0,0),(1,1)])
def EL(s:St):Option gI:=
 (match s.look 13 with
 |some ⟨none,(.one ⟨false,[(.val (.int .i64 y0))]⟩)⟩=>
 (match s.look 12 with
 |some ⟨none,(.one ⟨false,[(.val (.int .i64 y1))]⟩)⟩=>
 (match s.look 11 with
 |some ⟨none,(.one ⟨false,[(.ref 0)]⟩)⟩=>
 (match s.look 5 with
 |some ⟨none,(.one ⟨false,[(.ref 256)]⟩)⟩=>
 (match s.ent 0 with
 |some (.row false 2 (.int .i64) y2)=>
 (match s.ent 256 with
 |some (.row true 2 (.int .i64) y3)=>
 some (y0,y1,y2,y3)
 |_=>none)
 |_=>none)
 |_=>none)
 |_=>none)
 |_=>none)
 |_=>none)
def cn:Lp gI where
 h:=⟨[14,15,16,7,17,18,19,20,21,22,5,23,13],[0],[1],[]⟩
 JL:=UU
 JE:=UO
 XL:=Vg
 XE:=Va
 q:=fun j=>match j with | _=> .exit 0
 tags:= [0]
 lt:=sB
 fuel:=fun(y0,y1,y2,y3)=>y0.natAbs + y1.natAbs + y2.length + y3.length
 fix:=fun(_,y1,y2,_) (y0,_,_,y3)=>(y0,y1,y2,y3)
 σ:= [(0,0),(1,256)]
 rd:=EL
theorem SN:LoopOk Tryz.prog (fun k=>Nat.blt k Tryz.f187.ntmps) cn.F (aD Tryz.f187 0):=by
 refine Lp.ok (tbl:= [ai,PF.lend ai,PF.fz ai,Uc]) (lf:= []) ay cn (by kernel_rfl) (LOk.nil _) (fun _=>rfl) (fun _ _=>rfl) ?_ ?_ ?_ ?_ (fun _=>rfl) ?_
 ·intro x;obtain⟨y0,y1,y2,y3⟩:=x;kernel_rfl
 ·intro x;obtain⟨y0,y1,y2,y3⟩:=x;kernel_rfl
 ·intro s x h
  have h:EL s=some x:=h
  unfold EL at h
  repeat' split at h
  all_goals cases h
  exact⟨aa (by assumption) rfl (aa (by assumption) rfl (aa (by assumption) rfl (aa (by assumption) rfl (rfl)))),ac rfl (by assumption) rfl (ac rfl (by assumption) rfl (rfl))⟩
 ·intro x;obtain⟨y0,y1,y2,y3⟩:=x;kernel_rfl
 ·intro x z;obtain⟨y0,y1,y2,y3⟩:=x;exact(And.intro rfl trivial)
abbrev gJ:=Int×Int×List (Int×(Int×Int))×List Int×List Int
section
variable (y0 y1:Int)(y2:List (Int×(Int×Int)))(y3 y4:List Int)
def cm:Int×Int×Int:=Option.getD y2[Int.toNat y0]? ((0:Int),(0:Int),(0:Int))
def dL:Bool:=((cm y0 y2).2).1==(0:Int)
def oZ:Bool:=leI (0:Int) ((cm y0 y2).1)
def tP:Bool:=ltI y0 y1
def tQ:Bool:=leI (0:Int) y0
def tS:Bool:=ltI y0 (↑y2.length:Int)
def tT:Bool:=ltN y0.toNat y2.length
def tU:Bool:= !dL y0 y2||oZ y0 y2
def tV:Bool:= !dL y0 y2||ltI ((cm y0 y2).1) (↑y3.length:Int)
def tW:Bool:= !dL y0 y2||ltN (Int.toNat ((cm y0 y2).1)) y3.length
def tX:Bool:=dL y0 y2||oZ y0 y2
def tY:Bool:=dL y0 y2||ltI ((cm y0 y2).1) (↑y4.length:Int)
def tZ:Bool:=dL y0 y2||ltN (Int.toNat ((cm y0 y2).1)) y4.length
def sf:Int:=IntKind.wrap .i64 (y0 + (1:Int))
def sg:List Int:=bif dL y0 y2 then List.set y3 (Int.toNat ((cm y0 y2).1)) ((cm y0 y2).2.2)else y3
def si:List Int:=bif dL y0 y2 then y4 else List.set y4 (Int.toNat ((cm y0 y2).1)) ((cm y0 y2).2.2)
end
def UV:gJ→List (Nat×SV)
 |(y0,y1,_,_,_)=> [(30,(.one ⟨false,[(.val (.int .i64 y0))]⟩)),(29,(.one ⟨false,[(.val (.int .i64 y1))]⟩)),(28,(.one ⟨false,[(.ref 0)]⟩)),(8,(.one ⟨false,[(.ptr 1 0)]⟩))]
def UP:gJ→List (Nat×Entry)
 |(_,_,y2,y3,y4)=> [(0,(.row false 100 amS y2)),(1,(.box 130 [(.ref 2),(.ref 3)])),(2,(.row true 2 amU y3)),(3,(.row true 2 amU y4))]
def Vh:Nat→gJ→List (Nat×SV)
 |_,(_,_,_,_,_)=> []
def Vb:Nat→gJ→List (Nat×Entry)
 |_,(_,_,y2,y3,y4)=> [(0,(.row false 100 amS y2)),(1,(.box 130 [(.ref 2),(.ref 3)])),(2,(.row true 2 amU y3)),(3,(.row true 2 amU y4))]
def sC:gJ→LT gJ
 |(y0,y1,y2,y3,y4)=> .ite (tP y0 y1) (.need [(tQ y0),(tS y0 y2),(tT y0 y2)] (.need [(tU y0 y2),(tV y0 y2 y3),(tW y0 y2 y3),(tX y0 y2),(tY y0 y2 y4),(tZ y0 y2 y4)] (.nrm ((sf y0),y1,y2,(sg y0 y2 y3),(si y0 y2 y4)) [(0,0),(1,1),(2,2),(3,3)]))) (.ext 0 [(0,0),(1,1),(2,2),(3,3)])
def EM(s:St):Option gJ:=
 (match s.look 30 with
 |some ⟨none,(.one ⟨false,[(.val (.int .i64 y0))]⟩)⟩=>
 (match s.look 29 with
 |some ⟨none,(.one ⟨false,[(.val (.int .i64 y1))]⟩)⟩=>
 (match s.look 28 with
 |some ⟨none,(.one ⟨false,[(.ref 1)]⟩)⟩=>
 (match s.look 8 with
 |some ⟨none,(.one ⟨false,[(.ptr 832 0)]⟩)⟩=>
 (match s.ent 1 with
 |some (.row false 100 (.pair (.int .i64) (.pair (.int .i64) (.int .i64))) y2)=>
 (match s.ent 832 with
 |some (.box 130 [(.ref 512),(.ref 704)])=>
 (match s.ent 512 with
 |some (.row true 2 (.int .i64) y3)=>
 (match s.ent 704 with
 |some (.row true 2 (.int .i64) y4)=>
 some (y0,y1,y2,y3,y4)
 |_=>none)
 |_=>none)
 |_=>none)
 |_=>none)
 |_=>none)
 |_=>none)
 |_=>none)
 |_=>none)
def cq:Lp gJ where
 h:=⟨[31,32,33,10,34,35,36,37,38,39,40,41,42,43,44,45,46,47,48,49,50,51,30],[0,1,2,3],[],[]⟩
 JL:=UV
 JE:=UP
 XL:=Vh
 XE:=Vb
 q:=fun j=>match j with | _=> .exit 2
 tags:= [0]
 lt:=sC
 fuel:=fun(y0,y1,y2,y3,y4)=>y0.natAbs + y1.natAbs + y2.length + y3.length + y4.length
 fix:=fun(_,y1,y2,_,_) (y0,_,_,y3,y4)=>(y0,y1,y2,y3,y4)
 σ:= [(0,1),(1,832),(2,512),(3,704)]
 rd:=EM
theorem SO:LoopOk Tryz.prog (fun k=>Nat.blt k Tryz.f187.ntmps) cq.F (aD Tryz.f187 1):=by
 refine Lp.ok (tbl:= [ai,PF.lend ai,PF.fz ai,Uc]) (lf:= []) ay cq (by kernel_rfl) (LOk.nil _) (fun _=>rfl) (fun _ _=>rfl) ?_ ?_ ?_ ?_ (fun _=>rfl) ?_
 ·intro x;obtain⟨y0,y1,y2,y3,y4⟩:=x;kernel_rfl
 ·intro x;obtain⟨y0,y1,y2,y3,y4⟩:=x;kernel_rfl
 ·intro s x h
  have h:EM s=some x:=h
  unfold EM at h
  repeat' split at h
  all_goals cases h
  exact⟨aa (by assumption) rfl (aa (by assumption) rfl (aa (by assumption) rfl (aa (by assumption) rfl (rfl)))),ac rfl (by assumption) rfl (ac rfl (by assumption) rfl (ac rfl (by assumption) rfl (ac rfl (by assumption) rfl (rfl))))⟩
 ·intro x;obtain⟨y0,y1,y2,y3,y4⟩:=x;kernel_rfl
 ·intro x z;obtain⟨y0,y1,y2,y3,y4⟩:=x;exact(And.intro rfl trivial)
section
variable (x0:List Int)(x1:List (Int×Int×Int))
def Do:Int×Int×List Int×List Int:=((0:Int),(↑x0.length:Int),x0,[])
def sO:List Int:=(Lp.res cn (Do x0)).2.2.2.2
def xo:Int×Int×List (Int×Int×Int)×List Int×List Int:=((0:Int),(↑x1.length:Int),x1,sO x0,sO x0)
def Dp:List Int×List Int:=(Lp.res cq (xo x0 x1)).2.2.2.2
def u0:List Int:=(Dp x0 x1).1
def zg:List Int:=(Dp x0 x1).2
def ET:Bool:=allT [Lp.fin cn (Do x0),leN (1:Nat) (List.length (sO x0))&&leN (List.length (sO x0)) (1048576:Nat),Lp.fin cq (xo x0 x1)]
end
def Ql:List SV→List Entry→Option Out
 | [.one ⟨false,[.ref 0]⟩,.one ⟨false,[.ref 1]⟩],[.row false 2 (.int .i64) x0,.row false 100 (.pair (.int .i64) (.pair (.int .i64) (.int .i64))) x1]=>some ⟨(.one ⟨true,[(.ref 2),(.ref 3)]⟩),[(.row false 2 amU x0),(.row false 100 amS x1)],[(.row true 2 amU (u0 x0 x1)),(.row true 2 amU (zg x0 x1))],[(ET x0 x1)]⟩
 |_,_=>none
def JS:PF Tryz.prog:=PF.ofG Tryz.prog [ai,PF.lend ai,PF.fz ai,Uc] [cn.F,cq.F] ay 187 Tryz.f187 Tryz.func187 (LOk.fnT (l:= [aD Tryz.f187 0,aD Tryz.f187 1]) (by kernel_rfl) (.cons SN (.cons SO (.nil _)))) Ql (by
 intro vs es r h;unfold Ql at h;split at h
 ·cases h;kernel_rfl
 ·cases h)
def OG(x0:List Int)(x1:List (Int×Int×Int)):Bool:=bif !cX (0:Int) (u0 x0 x1)then !cX (0:Int) (zg x0 x1)else false
def OH(x0:List Int)(x1:List (Int×Int×Int)):Bool:=allT [ET x0 x1,im (0:Int) (u0 x0 x1),!(!cX (0:Int) (u0 x0 x1)&&true)||im (0:Int) (zg x0 x1)]
def VB:List SV→List Entry→Option Out
 | [.one ⟨false,[.ref 0]⟩,.one ⟨false,[.ref 1]⟩],[.row false 2 (.int .i64) x0,.row false 100 (.pair (.int .i64) (.pair (.int .i64) (.int .i64))) x1]=>some ⟨(.one ⟨false,[(.val (.bool (OG x0 x1)))]⟩),[(.row false 2 amU x0),(.row false 100 amS x1)],[],[(OH x0 x1)]⟩
 |_,_=>none
def ae3:PF Tryz.prog:=PF.ofG Tryz.prog [cW,PF.lend cW,PF.fz cW,JS,PF.lend JS,PF.fz JS] [] ay 103 Tryz.f103 Tryz.func103 (fun c _=>LOk.nil c) VB (by
 intro vs es r h;unfold VB at h;split at h
 ·cases h;kernel_rfl
 ·cases h)
abbrev dR:=Int×Int×Int×List Int
section
variable (y0 y1 y2:Int)(y3:List Int)
def pf:Bool:=ltI y0 y1
def pg:Bool:=leI (0:Int) y0
def ph:Bool:=ltI y0 (↑y3.length:Int)
def pj:Bool:=ltN y0.toNat y3.length
def pk:Int:=IntKind.wrap .i64 (y0 + (1:Int))
def pm:List Int:=List.set y3 y0.toNat y2
end
def PV:dR→List (Nat×SV)
 |(y0,y1,y2,_)=> [(41,(.one ⟨false,[(.val (.int .i64 y0))]⟩)),(40,(.one ⟨false,[(.val (.int .i64 y1))]⟩)),(0,(.one ⟨false,[(.ref 0)]⟩)),(5,(.one ⟨false,[(.val (.int .i64 y2))]⟩))]
def PS:dR→List (Nat×Entry)
 |(_,_,_,y3)=> [(0,(.row true 2 amU y3))]
def Qb:Nat→dR→List (Nat×SV)
 |_,(_,_,_,_)=> []
def PY:Nat→dR→List (Nat×Entry)
 |_,(_,_,_,y3)=> [(0,(.row true 2 amU y3))]
def ou:dR→LT dR
 |(y0,y1,y2,y3)=> .ite (pf y0 y1) (.need [(pg y0),(ph y0 y3),(pj y0 y3)] (.nrm ((pk y0),y1,y2,(pm y0 y2 y3)) [(0,0)])) (.ext 0 [(0,0)])
def yX(s:St):Option dR:=
 (match s.look 41 with
 |some ⟨none,(.one ⟨false,[(.val (.int .i64 y0))]⟩)⟩=>
 (match s.look 40 with
 |some ⟨none,(.one ⟨false,[(.val (.int .i64 y1))]⟩)⟩=>
 (match s.look 0 with
 |some ⟨none,(.one ⟨false,[(.ref 0)]⟩)⟩=>
 (match s.look 5 with
 |some ⟨none,(.one ⟨false,[(.val (.int .i64 y2))]⟩)⟩=>
 (match s.ent 0 with
 |some (.row true 2 (.int .i64) y3)=>
 some (y0,y1,y2,y3)
 |_=>none)
 |_=>none)
 |_=>none)
 |_=>none)
 |_=>none)
def aV:Lp dR where
 h:=⟨[42,43,6,44,45,46,47,48,41],[0],[],[]⟩
 JL:=PV
 JE:=PS
 XL:=Qb
 XE:=PY
 q:=fun j=>match j with | _=> .exit 1
 tags:= [0]
 lt:=ou
 fuel:=fun(y0,y1,y2,y3)=>y0.natAbs + y1.natAbs + y2.natAbs + y3.length
 fix:=fun(_,y1,y2,_) (y0,_,_,y3)=>(y0,y1,y2,y3)
 σ:= [(0,0)]
 rd:=yX
theorem NQ:LoopOk Tryz.prog (fun k=>Nat.blt k Tryz.f205.ntmps) aV.F (aD Tryz.f205 0):=by
 refine Lp.ok (tbl:= [cW,PF.lend cW,PF.fz cW,wC,PF.lend wC,PF.fz wC]) (lf:= []) ay aV (by kernel_rfl) (LOk.nil _) (fun _=>rfl) (fun _ _=>rfl) ?_ ?_ ?_ ?_ (fun _=>rfl) ?_
 ·intro x;obtain⟨y0,y1,y2,y3⟩:=x;kernel_rfl
 ·intro x;obtain⟨y0,y1,y2,y3⟩:=x;kernel_rfl
 ·intro s x h
  have h:yX s=some x:=h
  unfold yX at h
  repeat' split at h
  all_goals cases h
  exact⟨aa (by assumption) rfl (aa (by assumption) rfl (aa (by assumption) rfl (aa (by assumption) rfl (rfl)))),ac rfl (by assumption) rfl (rfl)⟩
 ·intro x;obtain⟨y0,y1,y2,y3⟩:=x;kernel_rfl
 ·intro x z;obtain⟨y0,y1,y2,y3⟩:=x;exact(And.intro rfl trivial)
section
variable (x0 x1:Int)(x2:List Int)
def bK:Bool:=bif x0==(0:Int)then x0==(0:Int)else x0==(1:Int)
def Dq:Int:=Option.getD x2[Int.toNat x1]? (0:Int)
def kx:Bool:=Dq x1 x2 !=IntKind.wrap .i64 (IntKind.wrap .i64 (x0 - (0:Int)) + (0:Int))
def Dr:Int×Int×Int×List Int:=((0:Int),(↑x2.length:Int),(2:Int),x2)
def Ds:Int×Int×Int×List Int:=((0:Int),(↑x2.length:Int),(1:Int),x2)
def qT:Bool:= !bK x0||(kx x0 x1 x2||leI (0:Int) x1)
def qU:Bool:= !bK x0||(kx x0 x1 x2||ltI x1 (↑x2.length:Int))
def qV:Bool:= !bK x0||(kx x0 x1 x2||ltN x1.toNat x2.length)
def sj:Bool:=bif bK x0 then bif kx x0 x1 x2 then false else true else bif x0==(2:Int)then bif cX (0:Int) x2 then false else true else bif !JI x2 then false else true
def sk:List Int:=bif bK x0 then bif kx x0 x1 x2 then x2 else List.set x2 x1.toNat (IntKind.wrap .i64 ((1:Int) - Dq x1 x2))else bif x0==(2:Int)then bif cX (0:Int) x2 then x2 else (Lp.res aV (Dr x2)).2.2.2.2else bif !JI x2 then x2 else (Lp.res aV (Ds x2)).2.2.2.2
def sm:Bool:=allT [!bK x0||leI (0:Int) x1,!bK x0||ltI x1 (↑x2.length:Int),!bK x0||ltN x1.toNat x2.length,bK x0||(!x0==(2:Int)||im (0:Int) x2),bK x0||(x0==(2:Int)||leN x2.length (9223372036854775807:Nat)),qT x0 x1 x2,qU x0 x1 x2,qV x0 x1 x2,qT x0 x1 x2,qU x0 x1 x2,qV x0 x1 x2,bK x0||(!x0==(2:Int)||(cX (0:Int) x2||Lp.fin aV (Dr x2))),bK x0||(x0==(2:Int)||(!JI x2||Lp.fin aV (Ds x2)))]
end
def KR:List SV→List Entry→Option Out
 | [.one ⟨false,[.ref 0]⟩,.one ⟨true,[.val (.int .i64 x0),.val (.int .i64 x1)]⟩],[.row true 2 (.int .i64) x2]=>some ⟨(.one ⟨false,[(.val (.bool (sj x0 x1 x2)))]⟩),[(.row true 2 amU (sk x0 x1 x2))],[],[(sm x0 x1 x2)]⟩
 |_,_=>none
def Vv:PF Tryz.prog:=PF.ofG Tryz.prog [cW,PF.lend cW,PF.fz cW,wC,PF.lend wC,PF.fz wC] [aV.F] ay 205 Tryz.f205 Tryz.func205 (LOk.fnT (l:= [aD Tryz.f205 0]) (by kernel_rfl) (.cons NQ (.nil _))) KR (by
 intro vs es r h;unfold KR at h;split at h
 ·cases h;kernel_rfl
 ·cases h)
section
variable (x0 x1:Int)(x2:Bool)(x3:Int)
def j8:Int×Int×Int×Bool:=Option.getD adl[Int.toNat x0]? ((0:Int),(0:Int),(0:Int),false)
def j9:Int×Bool:=(j8 x0).2.2
def gD:Int:=bif IntKind.wrap .i64 (↑(BitVec.toNat (BitVec.ofInt (IntKind.bits IntKind.i64) (Int.fdiv ((j8 x0).1) ((2:Int) ^ min x3.toNat (IntKind.bits IntKind.i64)))&&& BitVec.ofInt (IntKind.bits IntKind.i64) (1:Int))):Int)==(0:Int)then(1:Int)else bif ltI x1 ((j9 x0).1)then(2:Int)else bif bif (j9 x0).2then !x2 else false then(3:Int)else(0:Int)
def gE:Bool:=allT [leI (0:Int) x0,ltI x0 (↑(List.length adl):Int),ltN x0.toNat (List.length adl),leI (0:Int) x3]
end
def qL:List SV→List Entry→Option Out
 | [.one ⟨true,[.val (.int .i64 x0),.val (.int .i64 x1),.val (.bool x2)]⟩,.one ⟨false,[.val (.int .i64 x3)]⟩],[]=>some ⟨(.one ⟨false,[(.val (.int .i64 (gD x0 x1 x2 x3)))]⟩),[],[],[(gE x0 x3)]⟩
 |_,_=>none
def rn:PF Tryz.prog:=PF.ofG Tryz.prog [] [] ay 206 Tryz.f206 Tryz.func206 (fun c _=>LOk.nil c) qL (by
 intro vs es r h;unfold qL at h;split at h
 ·cases h;kernel_rfl
 ·cases h)
def gO(x0 x1:Int):Int:=IntKind.wrap .i64 (x1 + x0)
def wq:List SV→List Entry→Option Out
 | [.one ⟨true,[.val (.int .i64 x0),.val (.int .i64 x1)]⟩],[]=>some ⟨(.one ⟨false,[(.val (.int .i64 (gO x0 x1)))]⟩),[],[],[]⟩
 |_,_=>none
def wu:PF Tryz.prog:=PF.ofG Tryz.prog [] [] ay 239 Tryz.f239 Tryz.func239 (fun c _=>LOk.nil c) wq (by
 intro vs es r h;unfold wq at h;split at h
 ·cases h;kernel_rfl
 ·cases h)
abbrev iX:=Int×Int×Int×List (Int×Int)×List Int
section
variable (y0 y1 y2:Int)(y3:List (Int×Int))(y4:List Int)
def rG:Int×Int:=Option.getD y3[Int.toNat y0]? ((0:Int),(0:Int))
def oy:Bool:=leI (gO ((rG y0 y3).1) ((rG y0 y3).2)) y2
def xc:Bool:=ltI y0 y1
def xf:Bool:=leI (0:Int) y0
def xg:Bool:=ltI y0 (↑y3.length:Int)
def xh:Bool:=ltN y0.toNat y3.length
def xj:Bool:= !oy y0 y2 y3||leN (List.length y4 + List.length [y0]) (9223372036854775807:Nat)
def xk:Bool:= !oy y0 y2 y3||leN ((List.length y4 + List.length [y0]) * (8:Nat)) (140737488355328:Nat)
def xl:Bool:=oy y0 y2 y3
def sN:Int:=IntKind.wrap .i64 (y0 + (1:Int))
def xm:List Int:=y4++ [y0]
end
def XW:iX→List (Nat×SV)
 |(y0,y1,y2,_,_)=> [(10,(.one ⟨false,[(.val (.int .i64 y0))]⟩)),(9,(.one ⟨false,[(.val (.int .i64 y1))]⟩)),(8,(.one ⟨false,[(.ref 0)]⟩)),(1,(.one ⟨false,[(.val (.int .i64 y2))]⟩)),(5,(.one ⟨false,[(.ref 1)]⟩))]
def XN:iX→List (Nat×Entry)
 |(_,_,_,y3,y4)=> [(0,(.row false 173 amT y3)),(1,(.row true 2 amU y4))]
def Yo:Nat→iX→List (Nat×SV)
 |_,(_,_,_,_,_)=> [(5,(.one ⟨false,[(.ref 1)]⟩))]
def Yf:Nat→iX→List (Nat×Entry)
 |_,(_,_,_,y3,y4)=> [(0,(.row false 173 amT y3)),(1,(.row true 2 amU y4))]
def vS:iX→LT iX
 |(y0,y1,y2,y3,y4)=> .ite (xc y0 y1) (.need [(xf y0),(xg y0 y3),(xh y0 y3)] (.need [(xj y0 y2 y3 y4),(xk y0 y2 y3 y4)] (.ite (xl y0 y2 y3) (.nrm ((sN y0),y1,y2,y3,(xm y0 y4)) [(0,0),(1,960)]) (.nrm ((sN y0),y1,y2,y3,y4) [(0,0),(1,1)])))) (.ext 0 [(0,0),(1,1)])
def GU(s:St):Option iX:=
 (match s.look 10 with
 |some ⟨none,(.one ⟨false,[(.val (.int .i64 y0))]⟩)⟩=>
 (match s.look 9 with
 |some ⟨none,(.one ⟨false,[(.val (.int .i64 y1))]⟩)⟩=>
 (match s.look 8 with
 |some ⟨none,(.one ⟨false,[(.ref 0)]⟩)⟩=>
 (match s.look 1 with
 |some ⟨none,(.one ⟨false,[(.val (.int .i64 y2))]⟩)⟩=>
 (match s.look 5 with
 |some ⟨none,(.one ⟨false,[(.ref 192)]⟩)⟩=>
 (match s.ent 0 with
 |some (.row false 173 (.pair (.int .i64) (.int .i64)) y3)=>
 (match s.ent 192 with
 |some (.row true 2 (.int .i64) y4)=>
 some (y0,y1,y2,y3,y4)
 |_=>none)
 |_=>none)
 |_=>none)
 |_=>none)
 |_=>none)
 |_=>none)
 |_=>none)
def ey:Lp iX where
 h:=⟨[11,12,13,14,7,6,15,16,17,18,19,20,21,22,5,23,10],[0],[1],[]⟩
 JL:=XW
 JE:=XN
 XL:=Yo
 XE:=Yf
 q:=fun j=>match j with | _=> .exit 0
 tags:= [0]
 lt:=vS
 fuel:=fun(y0,y1,y2,y3,y4)=>y0.natAbs + y1.natAbs + y2.natAbs + y3.length + y4.length
 fix:=fun(_,y1,y2,y3,_) (y0,_,_,_,y4)=>(y0,y1,y2,y3,y4)
 σ:= [(0,0),(1,192)]
 rd:=GU
theorem Vn:LoopOk Tryz.prog (fun k=>Nat.blt k Tryz.f234.ntmps) ey.F (aD Tryz.f234 0):=by
 refine Lp.ok (tbl:= [wu]) (lf:= []) ay ey (by kernel_rfl) (LOk.nil _) (fun _=>rfl) (fun _ _=>rfl) ?_ ?_ ?_ ?_ (fun _=>rfl) ?_
 ·intro x;obtain⟨y0,y1,y2,y3,y4⟩:=x;kernel_rfl
 ·intro x;obtain⟨y0,y1,y2,y3,y4⟩:=x;kernel_rfl
 ·intro s x h
  have h:GU s=some x:=h
  unfold GU at h
  repeat' split at h
  all_goals cases h
  exact⟨aa (by assumption) rfl (aa (by assumption) rfl (aa (by assumption) rfl (aa (by assumption) rfl (aa (by assumption) rfl (rfl))))),ac rfl (by assumption) rfl (ac rfl (by assumption) rfl (rfl))⟩
 ·intro x;obtain⟨y0,y1,y2,y3,y4⟩:=x;kernel_rfl
 ·intro x z;obtain⟨y0,y1,y2,y3,y4⟩:=x;exact(And.intro (And.intro rfl rfl) trivial)
section
variable (x0:Int)(x1:List (Int×Int))
def Gm:Int×Int×Int×List (Int×Int)×List Int:=((0:Int),(↑x1.length:Int),x0,x1,[])
def HA:List Int:=(Lp.res ey (Gm x0 x1)).2.2.2.2.2
def HB:Bool:=allT [Lp.fin ey (Gm x0 x1)]
end
def Ur:List SV→List Entry→Option Out
 | [.one ⟨false,[.ref 0]⟩,.one ⟨false,[.val (.int .i64 x0)]⟩],[.row false 173 (.pair (.int .i64) (.int .i64)) x1]=>some ⟨(.one ⟨false,[(.ref 1)]⟩),[(.row false 173 amT x1)],[(.row true 2 amU (HA x0 x1))],[(HB x0 x1)]⟩
 |_,_=>none
def Ng:PF Tryz.prog:=PF.ofG Tryz.prog [wu] [ey.F] ay 234 Tryz.f234 Tryz.func234 (LOk.fnT (l:= [aD Tryz.f234 0]) (by kernel_rfl) (.cons Vn (.nil _))) Ur (by
 intro vs es r h;unfold Ur at h;split at h
 ·cases h;kernel_rfl
 ·cases h)
section
variable (x0:Int)(x1 x2:List (Int×Int))
def HZ:Bool:=(bif bif okPl x1 then okLk x2 else false then tB x0 else false)&&true
def Jp:Bool:=bif bif bif bif okPl x1 then okLk x2 else false then tB x0 else false then(↑(List.length (bif HZ x0 x1 x2 then HA x0 x1 else [])):Int)==(0:Int)else false then(↑x2.length:Int)==(0:Int)else false
def Jq:Bool:=allT [leN x1.length (9223372036854775807:Nat),!(okPl x1&&true)||leN x2.length (9223372036854775807:Nat),!HZ x0 x1 x2||HB x0 x1]
end
def Qj:List SV→List Entry→Option Out
 | [.one ⟨false,[.ref 0]⟩,.one ⟨false,[.ref 1]⟩,.one ⟨false,[.val (.int .i64 x0)]⟩],[.row false 173 (.pair (.int .i64) (.int .i64)) x1,.row false 176 (.pair (.int .i64) (.int .i64)) x2]=>some ⟨(.one ⟨false,[(.val (.bool (Jp x0 x1 x2)))]⟩),[(.row false 173 amT x1),(.row false 176 amT x2)],[],[(Jq x0 x1 x2)]⟩
 |_,_=>none
def abW:PF Tryz.prog:=PF.ofG Tryz.prog [Ng,PF.lend Ng,PF.fz Ng,tD,PF.lend tD,PF.fz tD,pG,PF.lend pG,PF.fz pG,JQ] [] ay 207 Tryz.f207 Tryz.func207 (fun c _=>LOk.nil c) Qj (by
 intro vs es r h;unfold Qj at h;split at h
 ·cases h;kernel_rfl
 ·cases h)
section
variable (x0 x1:Int)(x2:Bool)(x3:Int)
def eS:Bool:=gD x0 x1 x2 x3==(0:Int)
def me:Int:=bif eS x0 x1 x2 x3 then ((Option.getD adl[Int.toNat x0]? ((0:Int),(0:Int),(0:Int),false)).2).1else x3
def mf:Bool:=allT [gE x0 x3,!eS x0 x1 x2 x3||leI (0:Int) x0,!eS x0 x1 x2 x3||ltI x0 (↑(List.length adl):Int),!eS x0 x1 x2 x3||ltN x0.toNat (List.length adl)]
end
def ti:List SV→List Entry→Option Out
 | [.one ⟨true,[.val (.int .i64 x0),.val (.int .i64 x1),.val (.bool x2)]⟩,.one ⟨false,[.val (.int .i64 x3)]⟩],[]=>some ⟨(.one ⟨false,[(.val (.int .i64 (me x0 x1 x2 x3)))]⟩),[],[],[(mf x0 x1 x2 x3)]⟩
 |_,_=>none
def Ff:PF Tryz.prog:=PF.ofG Tryz.prog [rn] [] ay 208 Tryz.f208 Tryz.func208 (fun c _=>LOk.nil c) ti (by
 intro vs es r h;unfold ti at h;split at h
 ·cases h;kernel_rfl
 ·cases h)
abbrev gM:=Int×List Int×List Int
section
variable (y0:Int)(y1:List Int)
def lY:List Int:= [IntKind.wrap .i64 (Int.tdiv (Option.getD y1[Int.toNat y0]? (0:Int)) (2:Int))]
def qt:Bool:=ltI y0 (↑y1.length:Int)
def uE:Bool:=leI (0:Int) y0
def uF:Bool:=ltN y0.toNat y1.length
end
def uG:Bool:=neI (2:Int) (0:Int)
section
variable (y0:Int)(y1 y2:List Int)
def uH:Bool:=leN (List.length y2 + List.length (lY y0 y1)) (9223372036854775807:Nat)
def uI:Bool:=leN ((List.length y2 + List.length (lY y0 y1)) * (8:Nat)) (140737488355328:Nat)
def uJ:Int:=IntKind.wrap .i64 (y0 + (1:Int))
def uK:List Int:=y2++lY y0 y1
end
def UY:gM→List (Nat×SV)
 |(y0,_,_)=> [(8,(.one ⟨false,[(.val (.int .i64 y0))]⟩)),(0,(.one ⟨false,[(.ref 0)]⟩)),(7,(.one ⟨false,[(.ref 1)]⟩))]
def US:gM→List (Nat×Entry)
 |(_,y1,y2)=> [(0,(.row false 2 amU y1)),(1,(.row true 2 amU y2))]
def Vk:Nat→gM→List (Nat×SV)
 |_,(_,_,_)=> [(7,(.one ⟨false,[(.ref 1)]⟩))]
def Ve:Nat→gM→List (Nat×Entry)
 |_,(_,y1,y2)=> [(0,(.row false 2 amU y1)),(1,(.row true 2 amU y2))]
def sF:gM→LT gM
 |(y0,y1,y2)=> .ite (qt y0 y1) (.need [(uE y0),(qt y0 y1),(uF y0 y1),(uG),(uH y0 y1 y2),(uI y0 y1 y2)] (.nrm ((uJ y0),y1,(uK y0 y1 y2)) [(0,0),(1,768)])) (.ext 0 [(0,0),(1,1)])
def EP(s:St):Option gM:=
 (match s.look 8 with
 |some ⟨none,(.one ⟨false,[(.val (.int .i64 y0))]⟩)⟩=>
 (match s.look 0 with
 |some ⟨none,(.one ⟨false,[(.ref 0)]⟩)⟩=>
 (match s.look 7 with
 |some ⟨none,(.one ⟨false,[(.ref 256)]⟩)⟩=>
 (match s.ent 0 with
 |some (.row false 2 (.int .i64) y1)=>
 (match s.ent 256 with
 |some (.row true 2 (.int .i64) y2)=>
 some (y0,y1,y2)
 |_=>none)
 |_=>none)
 |_=>none)
 |_=>none)
 |_=>none)
def bR:Lp gM where
 h:=⟨[11,12,13,14,17,18,19,20,21,22,23,24,7,15,16,8],[0],[1],[]⟩
 JL:=UY
 JE:=US
 XL:=Vk
 XE:=Ve
 q:=fun j=>match j with | _=> .exit 0
 tags:= [0]
 lt:=sF
 fuel:=fun(y0,y1,y2)=>y0.natAbs + y1.length + y2.length
 fix:=fun(_,y1,_) (y0,_,y2)=>(y0,y1,y2)
 σ:= [(0,0),(1,256)]
 rd:=EP
theorem SR:LoopOk Tryz.prog (fun k=>Nat.blt k Tryz.f242.ntmps) bR.F (aD Tryz.f242 0):=by
 refine Lp.ok (tbl:= []) (lf:= []) ay bR (by kernel_rfl) (LOk.nil _) (fun _=>rfl) (fun _ _=>rfl) ?_ ?_ ?_ ?_ (fun _=>rfl) ?_
 ·intro x;obtain⟨y0,y1,y2⟩:=x;kernel_rfl
 ·intro x;obtain⟨y0,y1,y2⟩:=x;kernel_rfl
 ·intro s x h
  have h:EP s=some x:=h
  unfold EP at h
  repeat' split at h
  all_goals cases h
  exact⟨aa (by assumption) rfl (aa (by assumption) rfl (aa (by assumption) rfl (rfl))),ac rfl (by assumption) rfl (ac rfl (by assumption) rfl (rfl))⟩
 ·intro x;obtain⟨y0,y1,y2⟩:=x;kernel_rfl
 ·intro x z;obtain⟨y0,y1,y2⟩:=x;exact(And.intro rfl trivial)
abbrev gN:=Int×Int×List (Int×(Int×Int))×List Int
section
variable (y0 y1:Int)(y2:List (Int×(Int×Int)))(y3:List Int)
def gq:Int×Int×Int:=Option.getD y2[Int.toNat y0]? ((0:Int),(0:Int),(0:Int))
def fl:Bool:=((gq y0 y2).2).1==y1
def qu:Bool:=ltI y0 (↑y2.length:Int)
def uL:Bool:=leI (0:Int) y0
def uM:Bool:=ltN y0.toNat y2.length
def qv:Bool:= !fl y0 y1 y2||leI (0:Int) y0
def qw:Bool:= !fl y0 y1 y2||ltI y0 (↑y2.length:Int)
def qx:Bool:= !fl y0 y1 y2||ltN y0.toNat y2.length
def uN:Bool:= !fl y0 y1 y2||leI (0:Int) ((gq y0 y2).1)
def uO:Bool:= !fl y0 y1 y2||ltI ((gq y0 y2).1) (↑y3.length:Int)
def uP:Bool:= !fl y0 y1 y2||ltN (Int.toNat ((gq y0 y2).1)) y3.length
def uQ:Int:=IntKind.wrap .i64 (y0 + (1:Int))
def sK:List Int:=bif fl y0 y1 y2 then List.set y3 (Int.toNat ((gq y0 y2).1)) ((gq y0 y2).2.2)else y3
end
def UZ:gN→List (Nat×SV)
 |(y0,y1,_,_)=> [(9,(.one ⟨false,[(.val (.int .i64 y0))]⟩)),(1,(.one ⟨false,[(.ref 0)]⟩)),(2,(.one ⟨false,[(.val (.int .i64 y1))]⟩)),(7,(.one ⟨false,[(.ref 1)]⟩))]
def UT:gN→List (Nat×Entry)
 |(_,_,y2,y3)=> [(0,(.row false 100 amS y2)),(1,(.row true 2 amU y3))]
def Vl:Nat→gN→List (Nat×SV)
 |_,(_,_,_,_)=> []
def Vf:Nat→gN→List (Nat×Entry)
 |_,(_,_,y2,y3)=> [(0,(.row false 100 amS y2)),(1,(.row true 2 amU y3))]
def sG:gN→LT gN
 |(y0,y1,y2,y3)=> .ite (qu y0 y2) (.need [(uL y0),(qu y0 y2),(uM y0 y2)] (.need [(qv y0 y1 y2),(qw y0 y1 y2),(qx y0 y1 y2),(qv y0 y1 y2),(qw y0 y1 y2),(qx y0 y1 y2),(uN y0 y1 y2),(uO y0 y1 y2 y3),(uP y0 y1 y2 y3)] (.nrm ((uQ y0),y1,y2,(sK y0 y1 y2 y3)) [(0,0),(1,1)]))) (.ext 0 [(0,0),(1,1)])
def EQ(s:St):Option gN:=
 (match s.look 9 with
 |some ⟨none,(.one ⟨false,[(.val (.int .i64 y0))]⟩)⟩=>
 (match s.look 1 with
 |some ⟨none,(.one ⟨false,[(.ref 1)]⟩)⟩=>
 (match s.look 2 with
 |some ⟨none,(.one ⟨false,[(.val (.int .i64 y1))]⟩)⟩=>
 (match s.look 7 with
 |some ⟨none,(.one ⟨false,[(.ref 448)]⟩)⟩=>
 (match s.ent 1 with
 |some (.row false 100 (.pair (.int .i64) (.pair (.int .i64) (.int .i64))) y2)=>
 (match s.ent 448 with
 |some (.row true 2 (.int .i64) y3)=>
 some (y0,y1,y2,y3)
 |_=>none)
 |_=>none)
 |_=>none)
 |_=>none)
 |_=>none)
 |_=>none)
def cu:Lp gN where
 h:=⟨[25,26,27,28,31,32,33,34,35,36,37,38,39,40,41,42,43,44,45,46,47,48,49,29,30,9],[0,1],[],[]⟩
 JL:=UZ
 JE:=UT
 XL:=Vl
 XE:=Vf
 q:=fun j=>match j with | _=> .exit 2
 tags:= [0]
 lt:=sG
 fuel:=fun(y0,y1,y2,y3)=>y0.natAbs + y1.natAbs + y2.length + y3.length
 fix:=fun(_,y1,y2,_) (y0,_,_,y3)=>(y0,y1,y2,y3)
 σ:= [(0,1),(1,448)]
 rd:=EQ
theorem ST:LoopOk Tryz.prog (fun k=>Nat.blt k Tryz.f242.ntmps) cu.F (aD Tryz.f242 1):=by
 refine Lp.ok (tbl:= []) (lf:= []) ay cu (by kernel_rfl) (LOk.nil _) (fun _=>rfl) (fun _ _=>rfl) ?_ ?_ ?_ ?_ (fun _=>rfl) ?_
 ·intro x;obtain⟨y0,y1,y2,y3⟩:=x;kernel_rfl
 ·intro x;obtain⟨y0,y1,y2,y3⟩:=x;kernel_rfl
 ·intro s x h
  have h:EQ s=some x:=h
  unfold EQ at h
  repeat' split at h
  all_goals cases h
  exact⟨aa (by assumption) rfl (aa (by assumption) rfl (aa (by assumption) rfl (aa (by assumption) rfl (rfl)))),ac rfl (by assumption) rfl (ac rfl (by assumption) rfl (rfl))⟩
 ·intro x;obtain⟨y0,y1,y2,y3⟩:=x;kernel_rfl
 ·intro x z;obtain⟨y0,y1,y2,y3⟩:=x;exact(And.intro rfl trivial)
section
variable (x0:Int)(x1:List Int)(x2:List (Int×Int×Int))
def yB:Int×List Int×List Int:=((0:Int),x1,[])
def yC:Int×Int×List (Int×Int×Int)×List Int:=((0:Int),x0,x2,(Lp.res bR (yB x1)).2.2.2)
def z7:List Int:=(Lp.res cu (yC x0 x1 x2)).2.2.2.2
def z8:Bool:=allT [Lp.fin bR (yB x1),Lp.fin cu (yC x0 x1 x2)]
end
def Qt:List SV→List Entry→Option Out
 | [.one ⟨false,[.ref 0]⟩,.one ⟨false,[.ref 1]⟩,.one ⟨false,[.val (.int .i64 x0)]⟩],[.row false 2 (.int .i64) x1,.row false 100 (.pair (.int .i64) (.pair (.int .i64) (.int .i64))) x2]=>some ⟨(.one ⟨false,[(.ref 2)]⟩),[(.row false 2 amU x1),(.row false 100 amS x2)],[(.row true 2 amU (z7 x0 x1 x2))],[(z8 x0 x1 x2)]⟩
 |_,_=>none
def JV:PF Tryz.prog:=PF.ofG Tryz.prog [] [bR.F,cu.F] ay 242 Tryz.f242 Tryz.func242 (LOk.fnT (l:= [aD Tryz.f242 0,aD Tryz.f242 1]) (by kernel_rfl) (.cons SR (.cons ST (.nil _)))) Qt (by
 intro vs es r h;unfold Qt at h;split at h
 ·cases h;kernel_rfl
 ·cases h)
section
variable (x0:List Int)(x1:List (Int×Int×Int))
def zW:Int:=bif !areR x0 then(1:Int)else bif !lfOk (↑x0.length:Int) x1 then(2:Int)else(0:Int)
def zX:List Int:=bif !areR x0 then []else bif !lfOk (↑x0.length:Int) x1 then []else z7 (0:Int) x0 x1
def zY:List Int:=bif !areR x0 then []else bif !lfOk (↑x0.length:Int) x1 then []else z7 (1:Int) x0 x1
def EZ:Bool:=allT [leN x0.length (9223372036854775807:Nat),!areR x0||leN x1.length (9223372036854775807:Nat),!areR x0||(!lfOk (↑x0.length:Int) x1||z8 (0:Int) x0 x1),!areR x0||(!lfOk (↑x0.length:Int) x1||z8 (1:Int) x0 x1)]
end
def Qp:List SV→List Entry→Option Out
 | [.one ⟨false,[.ref 0]⟩,.one ⟨false,[.ref 1]⟩],[.row false 2 (.int .i64) x0,.row false 100 (.pair (.int .i64) (.pair (.int .i64) (.int .i64))) x1]=>some ⟨(.tup [⟨true,[(.ref 2),(.ref 3)]⟩,⟨false,[(.val (.int .i64 (zW x0 x1)))]⟩]),[(.row false 2 amU x0),(.row false 100 amS x1)],[(.row true 2 amU (zX x0 x1)),(.row true 2 amU (zY x0 x1))],[(EZ x0 x1)]⟩
 |_,_=>none
def JT:PF Tryz.prog:=PF.ofG Tryz.prog [JV,PF.lend JV,PF.fz JV,iU,PF.lend iU,PF.fz iU,iT,PF.lend iT,PF.fz iT] [] ay 236 Tryz.f236 Tryz.func236 (fun c _=>LOk.nil c) Qp (by
 intro vs es r h;unfold Qp at h;split at h
 ·cases h;kernel_rfl
 ·cases h)
abbrev kW:=Int×Int×List Int
section
variable (y0 y1:Int)(y2:List Int)
def wJ:Bool:=ltI y0 (↑y2.length:Int)
def Cg:Bool:=leI (0:Int) y0
def Ch:Bool:=ltN y0.toNat y2.length
def Ci:Int:=IntKind.wrap .i64 (y0 + (1:Int))
def Cj:Int:=IntKind.wrap .i64 (y1 + Option.getD y2[Int.toNat y0]? (0:Int))
end
def aa6:kW→List (Nat×SV)
 |(y0,y1,_)=> [(4,(.one ⟨false,[(.val (.int .i64 y0))]⟩)),(0,(.one ⟨false,[(.ref 0)]⟩)),(3,(.one ⟨false,[(.val (.int .i64 y1))]⟩))]
def aaX:kW→List (Nat×Entry)
 |(_,_,y2)=> [(0,(.row false 2 amU y2))]
def abo:Nat→kW→List (Nat×SV)
 |_,(_,y1,_)=> [(3,(.one ⟨false,[(.val (.int .i64 y1))]⟩))]
def abf:Nat→kW→List (Nat×Entry)
 |_,(_,_,y2)=> [(0,(.row false 2 amU y2))]
def zN:kW→LT kW
 |(y0,y1,y2)=> .ite (wJ y0 y2) (.need [(Cg y0),(wJ y0 y2),(Ch y0 y2)] (.nrm ((Ci y0),(Cj y0 y1 y2),y2) [(0,0)])) (.ext 0 [(0,0)])
def Kh(s:St):Option kW:=
 (match s.look 4 with
 |some ⟨none,(.one ⟨false,[(.val (.int .i64 y0))]⟩)⟩=>
 (match s.look 0 with
 |some ⟨none,(.one ⟨false,[(.ref 0)]⟩)⟩=>
 (match s.look 3 with
 |some ⟨none,(.one ⟨false,[(.val (.int .i64 y1))]⟩)⟩=>
 (match s.ent 0 with
 |some (.row false 2 (.int .i64) y2)=>
 some (y0,y1,y2)
 |_=>none)
 |_=>none)
 |_=>none)
 |_=>none)
def gc:Lp kW where
 h:=⟨[5,6,7,8,11,12,13,14,15,16,3,9,10,4],[0],[],[]⟩
 JL:=aa6
 JE:=aaX
 XL:=abo
 XE:=abf
 q:=fun j=>match j with | _=> .exit 0
 tags:= [0]
 lt:=zN
 fuel:=fun(y0,y1,y2)=>y0.natAbs + y1.natAbs + y2.length
 fix:=fun(_,_,y2) (y0,y1,_)=>(y0,y1,y2)
 σ:= [(0,0)]
 rd:=Kh
theorem YB:LoopOk Tryz.prog (fun k=>Nat.blt k Tryz.f237.ntmps) gc.F (aD Tryz.f237 0):=by
 refine Lp.ok (tbl:= []) (lf:= []) ay gc (by kernel_rfl) (LOk.nil _) (fun _=>rfl) (fun _ _=>rfl) ?_ ?_ ?_ ?_ (fun _=>rfl) ?_
 ·intro x;obtain⟨y0,y1,y2⟩:=x;kernel_rfl
 ·intro x;obtain⟨y0,y1,y2⟩:=x;kernel_rfl
 ·intro s x h
  have h:Kh s=some x:=h
  unfold Kh at h
  repeat' split at h
  all_goals cases h
  exact⟨aa (by assumption) rfl (aa (by assumption) rfl (aa (by assumption) rfl (rfl))),ac rfl (by assumption) rfl (rfl)⟩
 ·intro x;obtain⟨y0,y1,y2⟩:=x;kernel_rfl
 ·intro x z;obtain⟨y0,y1,y2⟩:=x;exact(And.intro rfl trivial)
section
variable (x0:List Int)
def Kt:Int×Int×List Int:=((0:Int),(0:Int),x0)
def Hw:Int:=((Lp.res gc (Kt x0)).2.2).1
def Hx:Bool:=allT [Lp.fin gc (Kt x0)]
end
def Zf:List SV→List Entry→Option Out
 | [.one ⟨false,[.ref 0]⟩],[.row false 2 (.int .i64) x0]=>some ⟨(.one ⟨false,[(.val (.int .i64 (Hw x0)))]⟩),[(.row false 2 amU x0)],[],[(Hx x0)]⟩
 |_,_=>none
def Rp:PF Tryz.prog:=PF.ofG Tryz.prog [] [gc.F] ay 237 Tryz.f237 Tryz.func237 (LOk.fnT (l:= [aD Tryz.f237 0]) (by kernel_rfl) (.cons YB (.nil _))) Zf (by
 intro vs es r h;unfold Zf at h;split at h
 ·cases h;kernel_rfl
 ·cases h)
section
variable (x0:List Int)(x1:List (Int×Int×Int))
def zb:Bool:=zW x0 x1 !=(0:Int)
def Pt:Bool:=bif zb x0 x1 then false else IntKind.wrap .i64 (Hw (zX x0 x1) + Hw (zY x0 x1))==IntKind.wrap .i64 ((2:Int) * (↑x0.length:Int))
def Pu:Int:=bif zb x0 x1 then zW x0 x1 else(0:Int)
def Pv:Bool:=allT [EZ x0 x1,zb x0 x1||Hx (zX x0 x1),zb x0 x1||Hx (zY x0 x1)]
end
def VI:List SV→List Entry→Option Out
 | [.one ⟨false,[.ref 0]⟩,.one ⟨false,[.ref 1]⟩],[.row false 2 (.int .i64) x0,.row false 100 (.pair (.int .i64) (.pair (.int .i64) (.int .i64))) x1]=>some ⟨(.tup [⟨false,[(.val (.bool (Pt x0 x1)))]⟩,⟨false,[(.val (.int .i64 (Pu x0 x1)))]⟩]),[(.row false 2 amU x0),(.row false 100 amS x1)],[],[(Pv x0 x1)]⟩
 |_,_=>none
def ae8:PF Tryz.prog:=PF.ofG Tryz.prog [JT,PF.lend JT,PF.fz JT,Rp,PF.lend Rp,PF.fz Rp] [] ay 220 Tryz.f220 Tryz.func220 (fun c _=>LOk.nil c) VI (by
 intro vs es r h;unfold VI at h;split at h
 ·cases h;kernel_rfl
 ·cases h)
abbrev jX:=Int×Int×List Int×List Int
section
variable (y0 y1:Int)(y2 y3:List Int)
def Aa:Bool:=ltI y0 (↑y2.length:Int)
def Ab:Bool:=leN (List.length y3 + List.length [y1]) (9223372036854775807:Nat)
def Ac:Bool:=leN ((List.length y3 + List.length [y1]) * (8:Nat)) (140737488355328:Nat)
def Ad:Int:=IntKind.wrap .i64 (y0 + (1:Int))
def Ae:List Int:=y3++ [y1]
end
def ZS:jX→List (Nat×SV)
 |(y0,y1,_,_)=> [(6,(.one ⟨false,[(.val (.int .i64 y0))]⟩)),(0,(.one ⟨false,[(.ref 0)]⟩)),(5,(.one ⟨false,[(.ref 1)]⟩)),(1,(.one ⟨false,[(.val (.int .i64 y1))]⟩))]
def ZM:jX→List (Nat×Entry)
 |(_,_,y2,y3)=> [(0,(.row false 2 amU y2)),(1,(.row true 2 amU y3))]
def aae:Nat→jX→List (Nat×SV)
 |_,(_,_,_,_)=> [(5,(.one ⟨false,[(.ref 1)]⟩))]
def ZY:Nat→jX→List (Nat×Entry)
 |_,(_,_,y2,y3)=> [(0,(.row false 2 amU y2)),(1,(.row true 2 amU y3))]
def ya:jX→LT jX
 |(y0,y1,y2,y3)=> .ite (Aa y0 y2) (.need [(Ab y1 y3),(Ac y1 y3)] (.nrm ((Ad y0),y1,y2,(Ae y1 y3)) [(0,0),(1,512)])) (.ext 0 [(0,0),(1,1)])
def Ir(s:St):Option jX:=
 (match s.look 6 with
 |some ⟨none,(.one ⟨false,[(.val (.int .i64 y0))]⟩)⟩=>
 (match s.look 0 with
 |some ⟨none,(.one ⟨false,[(.ref 0)]⟩)⟩=>
 (match s.look 5 with
 |some ⟨none,(.one ⟨false,[(.ref 192)]⟩)⟩=>
 (match s.look 1 with
 |some ⟨none,(.one ⟨false,[(.val (.int .i64 y1))]⟩)⟩=>
 (match s.ent 0 with
 |some (.row false 2 (.int .i64) y2)=>
 (match s.ent 192 with
 |some (.row true 2 (.int .i64) y3)=>
 some (y0,y1,y2,y3)
 |_=>none)
 |_=>none)
 |_=>none)
 |_=>none)
 |_=>none)
 |_=>none)
def fB:Lp jX where
 h:=⟨[8,9,10,11,14,15,16,17,5,12,13,6],[0],[1],[]⟩
 JL:=ZS
 JE:=ZM
 XL:=aae
 XE:=ZY
 q:=fun j=>match j with | _=> .exit 0
 tags:= [0]
 lt:=ya
 fuel:=fun(y0,y1,y2,y3)=>y0.natAbs + y1.natAbs + y2.length + y3.length
 fix:=fun(_,y1,y2,_) (y0,_,_,y3)=>(y0,y1,y2,y3)
 σ:= [(0,0),(1,192)]
 rd:=Ir
theorem Xa:LoopOk Tryz.prog (fun k=>Nat.blt k Tryz.f223.ntmps) fB.F (aD Tryz.f223 0):=by
 refine Lp.ok (tbl:= []) (lf:= []) ay fB (by kernel_rfl) (LOk.nil _) (fun _=>rfl) (fun _ _=>rfl) ?_ ?_ ?_ ?_ (fun _=>rfl) ?_
 ·intro x;obtain⟨y0,y1,y2,y3⟩:=x;kernel_rfl
 ·intro x;obtain⟨y0,y1,y2,y3⟩:=x;kernel_rfl
 ·intro s x h
  have h:Ir s=some x:=h
  unfold Ir at h
  repeat' split at h
  all_goals cases h
  exact⟨aa (by assumption) rfl (aa (by assumption) rfl (aa (by assumption) rfl (aa (by assumption) rfl (rfl)))),ac rfl (by assumption) rfl (ac rfl (by assumption) rfl (rfl))⟩
 ·intro x;obtain⟨y0,y1,y2,y3⟩:=x;kernel_rfl
 ·intro x z;obtain⟨y0,y1,y2,y3⟩:=x;exact(And.intro rfl trivial)
section
variable (x0:Int)(x1:List Int)
def HS:Int×Int×List Int×List Int:=((0:Int),x0,x1,[])
def FU:List Int:=(Lp.res fB (HS x0 x1)).2.2.2.2
def FV:Bool:=allT [Lp.fin fB (HS x0 x1)]
end
def VL:List SV→List Entry→Option Out
 | [.one ⟨false,[.ref 0]⟩,.one ⟨false,[.val (.int .i64 x0)]⟩],[.row false 2 (.int .i64) x1]=>some ⟨(.one ⟨false,[(.ref 1)]⟩),[(.row false 2 amU x1)],[(.row true 2 amU (FU x0 x1))],[(FV x0 x1)]⟩
 |_,_=>none
def Ph:PF Tryz.prog:=PF.ofG Tryz.prog [] [fB.F] ay 223 Tryz.f223 Tryz.func223 (LOk.fnT (l:= [aD Tryz.f223 0]) (by kernel_rfl) (.cons Xa (.nil _))) VL (by
 intro vs es r h;unfold VL at h;split at h
 ·cases h;kernel_rfl
 ·cases h)
section
variable (x0 x1:Int)(x2:List Int)
def wK:Int:=Option.getD x2[Int.toNat x1]? (0:Int)
def wL:Bool:= !x0==(0:Int)||leI (0:Int) x1
def wM:Bool:= !x0==(0:Int)||ltI x1 (↑x2.length:Int)
def wN:Bool:= !x0==(0:Int)||ltN x1.toNat x2.length
def wO:Bool:=x0==(0:Int)||(!x0==(1:Int)||leI (0:Int) x1)
def wP:Bool:=x0==(0:Int)||(!x0==(1:Int)||ltI x1 (↑x2.length:Int))
def wQ:Bool:=x0==(0:Int)||(!x0==(1:Int)||ltN x1.toNat x2.length)
def zc:Bool:=bif x0==(0:Int)then wK x1 x2==(0:Int)else bif x0==(1:Int)then wK x1 x2==(1:Int)else bif x0==(2:Int)then leI (1:Int) (vt x2)else vt x2==(2:Int)
def zd:List Int:=bif x0==(0:Int)then List.set x2 x1.toNat (1:Int)else bif x0==(1:Int)then List.set x2 x1.toNat (0:Int)else bif x0==(2:Int)then FU (2:Int) x2 else FU (1:Int) x2
def ze:Bool:=allT [leN x2.length (1048576:Nat),wL x0 x1,wM x0 x1 x2,wN x0 x1 x2,wL x0 x1,wM x0 x1 x2,wN x0 x1 x2,wO x0 x1,wP x0 x1 x2,wQ x0 x1 x2,wO x0 x1,wP x0 x1 x2,wQ x0 x1 x2,x0==(0:Int)||(x0==(1:Int)||(!x0==(2:Int)||FV (2:Int) x2)),x0==(0:Int)||(x0==(1:Int)||(!x0==(2:Int)||Eb x2)),x0==(0:Int)||(x0==(1:Int)||(x0==(2:Int)||FV (1:Int) x2)),x0==(0:Int)||(x0==(1:Int)||(x0==(2:Int)||Eb x2))]
end
def Uy:List SV→List Entry→Option Out
 | [.one ⟨false,[.ref 0]⟩,.one ⟨true,[.val (.int .i64 x0),.val (.int .i64 x1)]⟩],[.row false 2 (.int .i64) x2]=>some ⟨(.tup [⟨false,[(.ref 1)]⟩,⟨false,[(.val (.bool (zc x0 x1 x2)))]⟩]),[(.row false 2 amU x2)],[(.row true 2 amU (zd x0 x1 x2))],[(ze x0 x1 x2)]⟩
 |_,_=>none
def aeb:PF Tryz.prog:=PF.ofG Tryz.prog [Nh,PF.lend Nh,PF.fz Nh,nC,PF.lend nC,PF.fz nC,Ph,PF.lend Ph,PF.fz Ph] [] ay 179 Tryz.f179 Tryz.func179 (fun c _=>LOk.nil c) Uy (by
 intro vs es r h;unfold Uy at h;split at h
 ·cases h;kernel_rfl
 ·cases h)
abbrev kV:=Int×Int×List Int
section
variable (y0 y1:Int)(y2:List Int)
def wI:Bool:=ltI y0 (↑y2.length:Int)
def Cc:Bool:=leI (0:Int) y0
def Cd:Bool:=ltN y0.toNat y2.length
def Ce:Bool:=Option.getD y2[Int.toNat y0]? (0:Int)==y1
def Cf:Int:=IntKind.wrap .i64 (y0 + (1:Int))
end
def aa5:kV→List (Nat×SV)
 |(y0,y1,_)=> [(5,(.one ⟨false,[(.val (.int .i64 y0))]⟩)),(0,(.one ⟨false,[(.ref 0)]⟩)),(1,(.one ⟨false,[(.val (.int .i64 y1))]⟩))]
def aaW:kV→List (Nat×Entry)
 |(_,_,y2)=> [(0,(.row false 2 amU y2))]
def abn:Nat→kV→List (Nat×SV)
 |0,(_,_,_)=> [(4,(.one ⟨false,[(.val (.bool true))]⟩))]
 |_,(_,_,_)=> []
def abe:Nat→kV→List (Nat×Entry)
 |0,(_,_,y2)=> [(0,(.row false 2 amU y2))]
 |_,(_,_,y2)=> [(0,(.row false 2 amU y2))]
def zM:kV→LT kV
 |(y0,y1,y2)=> .ite (wI y0 y2) (.need [(Cc y0),(wI y0 y2),(Cd y0 y2)] (.ite (Ce y0 y1 y2) (.ext 0 [(0,0)]) (.nrm ((Cf y0),y1,y2) [(0,0)]))) (.ext 1 [(0,0)])
def Kg(s:St):Option kV:=
 (match s.look 5 with
 |some ⟨none,(.one ⟨false,[(.val (.int .i64 y0))]⟩)⟩=>
 (match s.look 0 with
 |some ⟨none,(.one ⟨false,[(.ref 0)]⟩)⟩=>
 (match s.look 1 with
 |some ⟨none,(.one ⟨false,[(.val (.int .i64 y1))]⟩)⟩=>
 (match s.ent 0 with
 |some (.row false 2 (.int .i64) y2)=>
 some (y0,y1,y2)
 |_=>none)
 |_=>none)
 |_=>none)
 |_=>none)
def ft:Lp kV where
 h:=⟨[6,7,8,9,12,13,14,15,16,17,4,10,11,5],[0],[],[]⟩
 JL:=aa5
 JE:=aaW
 XL:=abn
 XE:=abe
 q:=fun j=>match j with | 0=> .ret | _=> .exit 0
 tags:= [0,1]
 lt:=zM
 fuel:=fun(y0,y1,y2)=>y0.natAbs + y1.natAbs + y2.length
 fix:=fun(_,y1,y2) (y0,_,_)=>(y0,y1,y2)
 σ:= [(0,0)]
 rd:=Kg
theorem YA:LoopOk Tryz.prog (fun k=>Nat.blt k Tryz.f224.ntmps) ft.F (aD Tryz.f224 0):=by
 refine Lp.ok (tbl:= []) (lf:= []) ay ft (by kernel_rfl) (LOk.nil _) (fun _=>rfl) (fun j _=>by unfold ft;match j with | 0=>rfl | _ + 1=>rfl) ?_ ?_ ?_ ?_ (fun _=>rfl) ?_
 ·intro x;obtain⟨y0,y1,y2⟩:=x;kernel_rfl
 ·intro x;obtain⟨y0,y1,y2⟩:=x;kernel_rfl
 ·intro s x h
  have h:Kg s=some x:=h
  unfold Kg at h
  repeat' split at h
  all_goals cases h
  exact⟨aa (by assumption) rfl (aa (by assumption) rfl (aa (by assumption) rfl (rfl))),ac rfl (by assumption) rfl (rfl)⟩
 ·intro x;obtain⟨y0,y1,y2⟩:=x;kernel_rfl
 ·intro x z;obtain⟨y0,y1,y2⟩:=x;exact(And.intro (And.intro trivial rfl) trivial)
section
variable (x0:Int)(x1:List Int)
def Py:Int×Int×List Int:=((0:Int),x0,x1)
def Mg:Bool:=bif Nat.beq ((Lp.res ft (Py x0 x1)).1) (0:Nat)then true else false
def Mh:Bool:=allT [Lp.fin ft (Py x0 x1)]
end
def Zd:List SV→List Entry→Option Out
 | [.one ⟨false,[.ref 0]⟩,.one ⟨false,[.val (.int .i64 x0)]⟩],[.row false 2 (.int .i64) x1]=>some ⟨(.one ⟨false,[(.val (.bool (Mg x0 x1)))]⟩),[(.row false 2 amU x1)],[],[(Mh x0 x1)]⟩
 |_,_=>none
def Rn:PF Tryz.prog:=PF.ofG Tryz.prog [] [ft.F] ay 224 Tryz.f224 Tryz.func224 (LOk.fnT (l:= [aD Tryz.f224 0]) (by kernel_rfl) (.cons YA (.nil _))) Zd (by
 intro vs es r h;unfold Zd at h;split at h
 ·cases h;kernel_rfl
 ·cases h)
def FW(x0:Int):List Int:=bif x0==(0:Int)then [(0:Int)]else bif x0==(2:Int)then [(3:Int)]else bif x0==(3:Int)then [(1:Int),(2:Int),(3:Int),(4:Int),(5:Int)]else bif bif x0==(4:Int)then x0==(4:Int)else x0==(5:Int)then [(4:Int)]else bif x0==(6:Int)then [(5:Int)]else bif x0==(7:Int)then [(0:Int),(2:Int)]else bif x0==(8:Int)then [(1:Int)]else [(2:Int)]
def VN:List SV→List Entry→Option Out
 | [.one ⟨false,[.val (.int .i64 x0)]⟩],[]=>some ⟨(.one ⟨false,[(.ref 0)]⟩),[],[(.row true 2 amU (FW x0))],[]⟩
 |_,_=>none
def afc:PF Tryz.prog:=PF.ofG Tryz.prog [] [] ay 225 Tryz.f225 Tryz.func225 (fun c _=>LOk.nil c) VN (by
 intro vs es r h;unfold VN at h;split at h
 ·cases h;kernel_rfl
 ·cases h)
def HT(x0:Int):Int:=bif x0==(3:Int)then(0:Int)else bif bif x0==(4:Int)then x0==(4:Int)else bif x0==(7:Int)then x0==(7:Int)else x0==(8:Int)then(2:Int)else bif bif x0==(5:Int)then x0==(5:Int)else x0==(6:Int)then(3:Int)else(1:Int)
def UA:List SV→List Entry→Option Out
 | [.one ⟨false,[.val (.int .i64 x0)]⟩],[]=>some ⟨(.one ⟨false,[(.val (.int .i64 (HT x0)))]⟩),[],[],[]⟩
 |_,_=>none
def aec:PF Tryz.prog:=PF.ofG Tryz.prog [] [] ay 226 Tryz.f226 Tryz.func226 (fun c _=>LOk.nil c) UA (by
 intro vs es r h;unfold UA at h;split at h
 ·cases h;kernel_rfl
 ·cases h)
def Mi(x0:Int):Bool:=bif bif bif x0==(0:Int)then true else x0==(4:Int)then true else x0==(7:Int)then true else x0==(8:Int)
def Zg:List SV→List Entry→Option Out
 | [.one ⟨false,[.val (.int .i64 x0)]⟩],[]=>some ⟨(.one ⟨false,[(.val (.bool (Mi x0)))]⟩),[],[],[]⟩
 |_,_=>none
def afR:PF Tryz.prog:=PF.ofG Tryz.prog [] [] ay 227 Tryz.f227 Tryz.func227 (fun c _=>LOk.nil c) Zg (by
 intro vs es r h;unfold Zg at h;split at h
 ·cases h;kernel_rfl
 ·cases h)
def Fa(x0 x1 x2:Int)(x3:Bool):Int:=bif !Mg x0 (FW x1)then(1:Int)else bif ltI x2 (HT x1)then(2:Int)else bif bif Mi x1 then !x3 else false then(3:Int)else(0:Int)
def Fb(x0 x1:Int):Bool:=allT [Mh x0 (FW x1)]
def Qu:List SV→List Entry→Option Out
 | [.one ⟨false,[.val (.int .i64 x0)]⟩,.one ⟨true,[.val (.int .i64 x1),.val (.int .i64 x2),.val (.bool x3)]⟩],[]=>some ⟨(.one ⟨false,[(.val (.int .i64 (Fa x0 x1 x2 x3)))]⟩),[],[],[(Fb x0 x1)]⟩
 |_,_=>none
def QG:PF Tryz.prog:=PF.ofG Tryz.prog [Rn,PF.lend Rn,PF.fz Rn,afc,aec,afR] [] ay 180 Tryz.f180 Tryz.func180 (fun c _=>LOk.nil c) Qu (by
 intro vs es r h;unfold Qu at h;split at h
 ·cases h;kernel_rfl
 ·cases h)
def PE(x0:Int)(x1:List (Int×Int)):Int:=bif !okPl x1 then(1:Int)else bif !aJ x0 (0:Int) (100000:Int)then(2:Int)else(0:Int)
def PG(x1:List (Int×Int)):Bool:=allT [leN x1.length (9223372036854775807:Nat)]
def VR:List SV→List Entry→Option Out
 | [.one ⟨false,[.ref 0]⟩,.one ⟨false,[.val (.int .i64 x0)]⟩],[.row false 173 (.pair (.int .i64) (.int .i64)) x1]=>some ⟨(.one ⟨false,[(.val (.int .i64 (PE x0 x1)))]⟩),[(.row false 173 amT x1)],[],[(PG x1)]⟩
 |_,_=>none
def Pj:PF Tryz.prog:=PF.ofG Tryz.prog [eQ,tE,PF.lend tE,PF.fz tE] [] ay 228 Tryz.f228 Tryz.func228 (fun c _=>LOk.nil c) VR (by
 intro vs es r h;unfold VR at h;split at h
 ·cases h;kernel_rfl
 ·cases h)
abbrev kX:=Int×Int×List (Int×Int)×List Int
section
variable (y0 y1:Int)(y2:List (Int×Int))(y3:List Int)
def vf:Int×Int:=Option.getD y2[Int.toNat y0]? ((0:Int),(0:Int))
def rB:Bool:=leI (IntKind.wrap .i64 ((vf y0 y2).2 + (vf y0 y2).1)) y1
def te:Bool:=ltI y0 (↑y2.length:Int)
def wR:Bool:=leI (0:Int) y0
def wS:Bool:=ltN y0.toNat y2.length
def Cl:Bool:= !rB y0 y1 y2||leN (List.length y3 + List.length [y0]) (9223372036854775807:Nat)
def Cm:Bool:= !rB y0 y1 y2||leN ((List.length y3 + List.length [y0]) * (8:Nat)) (140737488355328:Nat)
def Cn:Bool:=rB y0 y1 y2
def wT:Int:=IntKind.wrap .i64 (y0 + (1:Int))
def Co:List Int:=y3++ [y0]
end
def aa7:kX→List (Nat×SV)
 |(y0,y1,_,_)=> [(6,(.one ⟨false,[(.val (.int .i64 y0))]⟩)),(0,(.one ⟨false,[(.ref 0)]⟩)),(1,(.one ⟨false,[(.val (.int .i64 y1))]⟩)),(5,(.one ⟨false,[(.ref 1)]⟩))]
def aaY:kX→List (Nat×Entry)
 |(_,_,y2,y3)=> [(0,(.row false 173 amT y2)),(1,(.row true 2 amU y3))]
def abp:Nat→kX→List (Nat×SV)
 |_,(_,_,_,_)=> [(5,(.one ⟨false,[(.ref 1)]⟩))]
def abg:Nat→kX→List (Nat×Entry)
 |_,(_,_,y2,y3)=> [(0,(.row false 173 amT y2)),(1,(.row true 2 amU y3))]
def zO:kX→LT kX
 |(y0,y1,y2,y3)=> .ite (te y0 y2) (.need [(wR y0),(te y0 y2),(wS y0 y2),(wR y0),(te y0 y2),(wS y0 y2)] (.need [(Cl y0 y1 y2 y3),(Cm y0 y1 y2 y3)] (.ite (Cn y0 y1 y2) (.nrm ((wT y0),y1,y2,(Co y0 y3)) [(0,0),(1,1344)]) (.nrm ((wT y0),y1,y2,y3) [(0,0),(1,1)])))) (.ext 0 [(0,0),(1,1)])
def Ki(s:St):Option kX:=
 (match s.look 6 with
 |some ⟨none,(.one ⟨false,[(.val (.int .i64 y0))]⟩)⟩=>
 (match s.look 0 with
 |some ⟨none,(.one ⟨false,[(.ref 0)]⟩)⟩=>
 (match s.look 1 with
 |some ⟨none,(.one ⟨false,[(.val (.int .i64 y1))]⟩)⟩=>
 (match s.look 5 with
 |some ⟨none,(.one ⟨false,[(.ref 192)]⟩)⟩=>
 (match s.ent 0 with
 |some (.row false 173 (.pair (.int .i64) (.int .i64)) y2)=>
 (match s.ent 192 with
 |some (.row true 2 (.int .i64) y3)=>
 some (y0,y1,y2,y3)
 |_=>none)
 |_=>none)
 |_=>none)
 |_=>none)
 |_=>none)
 |_=>none)
def gd:Lp kX where
 h:=⟨[8,9,10,11,14,15,16,17,18,19,20,21,22,23,24,25,26,27,28,29,30,5,12,13,6],[0],[1],[]⟩
 JL:=aa7
 JE:=aaY
 XL:=abp
 XE:=abg
 q:=fun j=>match j with | _=> .exit 0
 tags:= [0]
 lt:=zO
 fuel:=fun(y0,y1,y2,y3)=>y0.natAbs + y1.natAbs + y2.length + y3.length
 fix:=fun(_,y1,y2,_) (y0,_,_,y3)=>(y0,y1,y2,y3)
 σ:= [(0,0),(1,192)]
 rd:=Ki
theorem YC:LoopOk Tryz.prog (fun k=>Nat.blt k Tryz.f229.ntmps) gd.F (aD Tryz.f229 0):=by
 refine Lp.ok (tbl:= []) (lf:= []) ay gd (by kernel_rfl) (LOk.nil _) (fun _=>rfl) (fun _ _=>rfl) ?_ ?_ ?_ ?_ (fun _=>rfl) ?_
 ·intro x;obtain⟨y0,y1,y2,y3⟩:=x;kernel_rfl
 ·intro x;obtain⟨y0,y1,y2,y3⟩:=x;kernel_rfl
 ·intro s x h
  have h:Ki s=some x:=h
  unfold Ki at h
  repeat' split at h
  all_goals cases h
  exact⟨aa (by assumption) rfl (aa (by assumption) rfl (aa (by assumption) rfl (aa (by assumption) rfl (rfl)))),ac rfl (by assumption) rfl (ac rfl (by assumption) rfl (rfl))⟩
 ·intro x;obtain⟨y0,y1,y2,y3⟩:=x;kernel_rfl
 ·intro x z;obtain⟨y0,y1,y2,y3⟩:=x;exact(And.intro (And.intro rfl rfl) trivial)
section
variable (x0:Int)(x1:List (Int×Int))
def KA:Int×Int×List (Int×Int)×List Int:=((0:Int),x0,x1,[])
def Mj:List Int:=(Lp.res gd (KA x0 x1)).2.2.2.2
def Mk:Bool:=allT [Lp.fin gd (KA x0 x1)]
end
def Zh:List SV→List Entry→Option Out
 | [.one ⟨false,[.ref 0]⟩,.one ⟨false,[.val (.int .i64 x0)]⟩],[.row false 173 (.pair (.int .i64) (.int .i64)) x1]=>some ⟨(.one ⟨false,[(.ref 1)]⟩),[(.row false 173 amT x1)],[(.row true 2 amU (Mj x0 x1))],[(Mk x0 x1)]⟩
 |_,_=>none
def Rq:PF Tryz.prog:=PF.ofG Tryz.prog [] [gd.F] ay 229 Tryz.f229 Tryz.func229 (LOk.fnT (l:= [aD Tryz.f229 0]) (by kernel_rfl) (.cons YC (.nil _))) Zh (by
 intro vs es r h;unfold Zh at h;split at h
 ·cases h;kernel_rfl
 ·cases h)
section
variable (x0:Int)(x1 x2:List (Int×Int))
def IA:Bool:=PE x0 x1==(0:Int)
def DJ:Bool:=bif bif IA x0 x1 then okLk x2 else false then(↑x2.length:Int)==(0:Int)else false
def Kr:Bool:=bif DJ x0 x1 x2 then(↑(List.length (bif DJ x0 x1 x2&&true then Mj x0 x1 else [])):Int)==(0:Int)else false
def Ks:Bool:=allT [PG x1,!(IA x0 x1&&true)||leN x2.length (9223372036854775807:Nat),!(DJ x0 x1 x2&&true)||Mk x0 x1]
end
def Qq:List SV→List Entry→Option Out
 | [.one ⟨false,[.ref 0]⟩,.one ⟨false,[.ref 1]⟩,.one ⟨false,[.val (.int .i64 x0)]⟩],[.row false 173 (.pair (.int .i64) (.int .i64)) x1,.row false 176 (.pair (.int .i64) (.int .i64)) x2]=>some ⟨(.one ⟨false,[(.val (.bool (Kr x0 x1 x2)))]⟩),[(.row false 173 amT x1),(.row false 176 amT x2)],[],[(Ks x0 x1 x2)]⟩
 |_,_=>none
def abX:PF Tryz.prog:=PF.ofG Tryz.prog [Pj,PF.lend Pj,PF.fz Pj,Rq,PF.lend Rq,PF.fz Rq,pK,PF.lend pK,PF.fz pK] [] ay 181 Tryz.f181 Tryz.func181 (fun c _=>LOk.nil c) Qq (by
 intro vs es r h;unfold Qq at h;split at h
 ·cases h;kernel_rfl
 ·cases h)
def Uh(x0:Int):Int:=Option.getD [(2:Int),(3:Int),(2:Int),(4:Int),(2:Int),(5:Int),(4:Int),(1:Int),(2:Int),(0:Int)][Int.toNat x0]? (0:Int)
def Ui(x0:Int):Bool:=allT [leI (0:Int) x0,ltI x0 (↑(List.length [(2:Int),(3:Int),(2:Int),(4:Int),(2:Int),(5:Int),(4:Int),(1:Int),(2:Int),(0:Int)]):Int),ltN x0.toNat (List.length [(2:Int),(3:Int),(2:Int),(4:Int),(2:Int),(5:Int),(4:Int),(1:Int),(2:Int),(0:Int)])]
def aaS:List SV→List Entry→Option Out
 | [.one ⟨false,[.val (.int .i64 x0)]⟩],[]=>some ⟨(.one ⟨false,[(.val (.int .i64 (Uh x0)))]⟩),[],[],[(Ui x0)]⟩
 |_,_=>none
def ag6:PF Tryz.prog:=PF.ofG Tryz.prog [] [] ay 230 Tryz.f230 Tryz.func230 (fun c _=>LOk.nil c) aaS (by
 intro vs es r h;unfold aaS at h;split at h
 ·cases h;kernel_rfl
 ·cases h)
section
variable (x0 x1 x2:Int)(x3:Bool)
def Nk:Bool:=Fa x0 x1 x2 x3==(0:Int)
def PB:Int:=bif Nk x0 x1 x2 x3 then Uh x1 else x0
def PC:Bool:=allT [Fb x0 x1,!Nk x0 x1 x2 x3||Ui x1]
end
def VP:List SV→List Entry→Option Out
 | [.one ⟨false,[.val (.int .i64 x0)]⟩,.one ⟨true,[.val (.int .i64 x1),.val (.int .i64 x2),.val (.bool x3)]⟩],[]=>some ⟨(.one ⟨false,[(.val (.int .i64 (PB x0 x1 x2 x3)))]⟩),[],[],[(PC x0 x1 x2 x3)]⟩
 |_,_=>none
def afd:PF Tryz.prog:=PF.ofG Tryz.prog [QG,ag6] [] ay 182 Tryz.f182 Tryz.func182 (fun c _=>LOk.nil c) VP (by
 intro vs es r h;unfold VP at h;split at h
 ·cases h;kernel_rfl
 ·cases h)
def Dn(x0 x1 x2:Int):Bool:=bif bif x1==(0:Int)then x1==(0:Int)else x1==(1:Int)then aZ x2 (0:Int) (IntKind.wrap .i64 (x0 - (1:Int)))else bif bif x1==(2:Int)then x1==(2:Int)else x1==(3:Int)then x2==(0:Int)else false
def Je:List SV→List Entry→Option Out
 | [.one ⟨false,[.val (.int .i64 x0)]⟩,.one ⟨true,[.val (.int .i64 x1),.val (.int .i64 x2)]⟩],[]=>some ⟨(.one ⟨false,[(.val (.bool (Dn x0 x1 x2)))]⟩),[],[],[]⟩
 |_,_=>none
def Ub:PF Tryz.prog:=PF.ofG Tryz.prog [fY] [] ay 184 Tryz.f184 Tryz.func184 (fun c _=>LOk.nil c) Je (by
 intro vs es r h;unfold Je at h;split at h
 ·cases h;kernel_rfl
 ·cases h)
def Rc(x0:Int):Bool:=aZ x0 (0:Int) (3:Int)
def YS:List SV→List Entry→Option Out
 | [.one ⟨false,[.val (.int .i64 x0)]⟩],[]=>some ⟨(.one ⟨false,[(.val (.bool (Rc x0)))]⟩),[],[],[]⟩
 |_,_=>none
def afN:PF Tryz.prog:=PF.ofG Tryz.prog [fY] [] ay 231 Tryz.f231 Tryz.func231 (fun c _=>LOk.nil c) YS (by
 intro vs es r h;unfold YS at h;split at h
 ·cases h;kernel_rfl
 ·cases h)
def Lh(x0 x1:Int):Bool:=bif aZ x0 (0:Int) (9:Int)then Rc x1 else false
def RF:List SV→List Entry→Option Out
 | [.one ⟨true,[.val (.int .i64 x0),.val (.int .i64 x1),.val (.bool _x2)]⟩],[]=>some ⟨(.one ⟨false,[(.val (.bool (Lh x0 x1)))]⟩),[],[],[]⟩
 |_,_=>none
def acX:PF Tryz.prog:=PF.ofG Tryz.prog [afN,fY] [] ay 185 Tryz.f185 Tryz.func185 (fun c _=>LOk.nil c) RF (by
 intro vs es r h;unfold RF at h;split at h
 ·cases h;kernel_rfl
 ·cases h)
end Go.SX
