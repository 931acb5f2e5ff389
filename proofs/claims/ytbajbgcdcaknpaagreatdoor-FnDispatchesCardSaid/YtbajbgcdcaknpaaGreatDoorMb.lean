/- What functions of the program come to, and what that says in plain words: part 2. -/
import Derived.Test.YtbajbgcdcaknpaaGreatDoorMa
import Derived.Test.YtbajbgcdcaknpaaGreatDoorTXh
import Derived.Test.YtbajbgcdcaknpaaGreatDoorProg
import Derived.Test.YtbajbgcdcaknpaaGreatDoorTXk
set_option linter.unusedSimpArgs false
set_option linter.unusedVariables false
namespace Go.SX
open Go.Proofs Go.Proofs.Tryz
set_option maxRecDepth 100000
def occ(c:Int):Int:=bif ltI c 1 then c else 1
def afJ(ch:Int)(l:List Int)(f:Int×Int×Int):List Int:=bif f.2.1==ch then l.set f.1.toNat f.2.2 else l
def aeA(n:Int)(ps:List Int):List Int:=(List.range n.toNat).map fun(b:Nat)=>occ (aap n ps (b:Int):Int)
def FZ(n:Int)(ps:List Int)(fs:List (Int×Int×Int))(ch:Int):List Int:=fs.foldl (afJ ch) (aeA n ps)
def am1(n:Int)(a:List Int):Bool:=eqI (a.length:Int) n&&a.all fun v=>inR v 0 1
theorem anb(ch:Int)(l:List Int)(f:Int×Int×Int):(afJ ch l f).length=l.length:=by
 unfold afJ;cases f.2.1==ch <;> simp
theorem Px(n:Int)(ps:List Int):(aeA n ps).length=n.toNat:=by simp [aeA]
theorem RL(ch:Int): ∀ (fs:List (Int×Int×Int)) (l:List Int),(fs.foldl (afJ ch) l).length=l.length
 | [],l=>rfl
 |f::fs,l=>by rw [List.foldl_cons,RL ch fs,anb]
theorem alE(n:Int)(ps:List Int)(fs:List (Int×Int×Int))(ch:Int):(FZ n ps fs ch).length=n.toNat:=by
 rw [FZ,RL,Px]
theorem aqy{n:Int}{fs:List (Int×Int×Int)}(h2:2≤n∧n≤8)(h:okFs n fs=true):fs.length≤8∧ ∀ f∈fs,(0≤f.1∧f.1 < n)∧(f.2.1=0∨f.2.1=1)∧(0≤f.2.2∧f.2.2≤1):=by
 simp only [okFs,Bool.and_eq_true,fH,List.all_eq_true,List.mem_range]at h
 refine⟨h.1,fun f hf=> ?_⟩
 obtain⟨b,hb,rfl⟩:=List.getElem_of_mem hf
 have h3:=h.2 b hb
 simp only [Bool.not_eq_true',Bool.or_eq_false_iff,afs,fAt,List.getElem?_eq_getElem hb,Option.getD_some,Bool.not_eq_false']at h3
 have h4:=h3.1
 simp only [fIn,Bool.and_eq_true,sf]at h4
 rw [ag (by omega) (by omega)]at h4
 omega
def fV(n:Int)(f:Int×Int×Int):Bool:=(leI 0 f.1&&ltI f.1 n)&&((f.2.1==0||f.2.1==1)&&inR f.2.2 0 1)
def ahC(n:Int)(fs:List (Int×Int×Int)):Bool:=leN fs.length 1000&&fs.all (fV n)
theorem alU{n:Int}{fs:List (Int×Int×Int)}(h:ahC n fs=true):fs.length≤1000∧ ∀ f∈fs,(0≤f.1∧f.1 < n)∧(f.2.1=0∨f.2.1=1)∧(0≤f.2.2∧f.2.2≤1):=by
 simp only [ahC,Bool.and_eq_true,fH,List.all_eq_true]at h
 refine⟨h.1,fun f hf=> ?_⟩
 have h3:=h.2 f hf
 simp only [fV,Bool.and_eq_true,Bool.or_eq_true,beq_iff_eq,sf,ax,ay]at h3
 exact h3
theorem aqo{n:Int}{fs:List (Int×Int×Int)}(h2:2≤n∧n≤8)(h:okFs n fs=true):ahC n fs=true:=by
 obtain⟨hl,hf⟩:=aqy h2 h
 simp only [ahC,Bool.and_eq_true,fH,List.all_eq_true]
 refine⟨by omega,fun f hm=> ?_⟩
 simp only [fV,Bool.and_eq_true,Bool.or_eq_true,beq_iff_eq,sf,ax,ay]
 exact hf f hm
theorem Ul{B C:Type}(g:B→C): ∀ (r:List B) (a:List C),r.foldl (fun a b=>a++ [g b]) a=a++r.map g
 | [],a=>by simp
 |b::r,a=>by rw [List.foldl_cons,Ul g r];simp
theorem art(c:Int):ajD c 1 c 1=occ c:=by simp [occ]
theorem aru(c:Int):ajD 1 c 1 c=occ c:=by
 simp only [aja,occ]
 cases h:ltI 1 c <;> cases h':ltI c 1 <;> simp at h h' ⊢ <;> omega
def mw(y1:Int)(y3:List Int)(b:Nat):(List Int)→Nat ⊕ (List Int)
 |y2=>(.inr (y2++([ajD (↑(aap y1 y3 (↑b:Int)):Int) (1:Int) (↑(aap y1 y3 (↑b:Int)):Int) (1:Int)])))
def lk(y1:Int)(y3:List Int)(i:Nat):(List Int)→iU
 |y2=>((i:Int),y1,y2,y3)
def Kd:iU→List Int
 |(_,_,y2,_)=>y2
theorem adk(y1:Int)(y3 y2:List Int)(hn:y1≤9223372036854775807)(hT:isT y1 y3=true)(h0:y2= []):
  cn.fin ((0:Int),y1,y2,y3)=true∧cn.res ((0:Int),y1,y2,y3)=((aO (mw y1 y3) 0 (List.range y1.toNat) 0 y2).1,(lk y1 y3) (aO (mw y1 y3) 0 (List.range y1.toNat) 0 y2).2.1 (aO (mw y1 y3) 0 (List.range y1.toNat) 0 y2).2.2):=by
 have ez:=cn.along (lk y1 y3) Kd (mw y1 y3) 0 (fun i a=>a.length≤i) (List.range y1.toNat) y2 (by subst h0;simp) (by simp only [cn,lk,List.length_range];omega) (fun i b a hb hI=> ?_) (fun a hI=> ?_)
 ·exact ez
 ·obtain y2:=a
  obtain⟨rfl,dZ⟩:=BV hb
  have hw:IntKind.i64.wrap ((b:Int) + 1)=((b + 1:Nat):Int):=by rw [ag (by omega) (by omega)];omega
  have cR:ltI (b:Int) y1=true:=fj (by omega)
  have ta:leI (0:Int) (b:Int)=true:=da (by omega)
  refine⟨?_,?_,?_,?_⟩
  ·have h4:=(DL.1 hT).1
   simp [oy,yW,yX,yY,yZ,za,zb,wH,cn,LT.nds,allT,lk,cR,hT]
   omega
  ·simp [oy,yW,yX,yY,yZ,za,zb,wH,cn,LT.each,lk,Kd,hw]
  ·simp only [oy,yW,yX,yY,yZ,za,zb,wH,cn,LT.fn,lk,Kd,mw,Int.toNat_natCast,cR,ta,cond_true,Bool.cond_self]
  ·intro a' hf;simp only [mw,Sum.inr.injEq]at hf;subst hf;simp;omega
 ·obtain y2:=a
  simp only [oy,yW,yX,yY,yZ,za,zb,wH,cn,LT.out,lk,List.length_range,ZD,acW,cond_false]
def pP(y1:Int)(b:Int×(Int×Int)):(List Int)→Nat ⊕ (List Int)
 |y3=>(.inr (bif(b.2.1==y1)then List.set y3 (Int.toNat b.1) b.2.2else y3))
def ll(y1:Int)(y2:List (Int×(Int×Int)))(i:Nat):(List Int)→iV
 |y3=>((i:Int),y1,y2,y3)
def Ke:iV→List Int
 |(_,_,_,y3)=>y3
theorem adl(y1:Int)(y2:List (Int×(Int×Int)))(y3:List Int)(hn:y2.length≤9223372036854775807)(n:Nat)(h3:y3.length=n)(hf: ∀ f∈y2,0≤f.1∧f.1 < (n:Int)):
  cN.fin ((0:Int),y1,y2,y3)=true∧cN.res ((0:Int),y1,y2,y3)=((aO (pP y1) 0 y2 0 y3).1,(ll y1 y2) (aO (pP y1) 0 y2 0 y3).2.1 (aO (pP y1) 0 y2 0 y3).2.2):=by
 have ez:=cN.along (ll y1 y2) Ke (pP y1) 0 (fun _ a=>a.length=n) y2 y3 h3 (by simp only [cN,ll];omega) (fun i b a hb hI=> ?_) (fun a hI=> ?_)
 ·exact ez
 ·obtain y3:=a
  have dZ:=(List.getElem?_eq_some_iff.1 hb).1
  have gQ: ∀ d,Option.getD y2[i]? d=b:=fun d=>by rw [hb];rfl
  have hw:=tw dZ hn
  have cR:ltI (i:Int) (y2.length:Int)=true:=fj (by omega)
  have ta:leI (0:Int) (i:Int)=true:=da (by omega)
  have fB:ltN i y2.length=true:=gp dZ
  refine⟨?_,?_,?_,?_⟩
  ·have h5:=hf b (List.mem_of_getElem? hb)
   have h6:leI 0 b.1=true:=da h5.1
   have h7:ltI b.1 (a.length:Int)=true:=fj (by omega)
   have h8:ltN b.1.toNat a.length=true:=gp (by omega)
   simp only [io,fZ,tP,zc,zd,tQ,tR,tS,ze,zf,zg,zh,wN,wI,cN,LT.nds,allT,ll,Int.toNat_natCast,cR,ta,fB,gQ,h6,h7,h8,Bool.or_true,cond_true]
  ·simp [io,fZ,tP,zc,zd,tQ,tR,tS,ze,zf,zg,zh,wN,wI,cN,LT.each,ll,Ke,hw]
  ·simp only [io,fZ,tP,zc,zd,tQ,tR,tS,ze,zf,zg,zh,wN,wI,cN,LT.fn,ll,Ke,pP,Int.toNat_natCast,cR,ta,fB,gQ,cond_true,Bool.cond_self]
  ·intro a' hf;simp only [pP,Sum.inr.injEq]at hf;subst hf;cases b.2.1==y1 <;> simpa using hI
 ·obtain y3:=a
  simp [io,fZ,tP,zc,zd,tQ,tR,tS,ze,zf,zg,zh,wN,wI,cN,LT.out,ll]
theorem aiJ(n ch:Int)(ps:List Int)(fs:List (Int×Int×Int))(hT:isT n ps=true)(hF:ahC n fs=true):
  ED n ch ps fs=FZ n ps fs ch∧EE n ch ps fs=true:=by
 have h2:=(DL.1 hT).1
 obtain⟨hl,hf⟩:=alU hF
 obtain⟨w1,w2⟩:=adk n ps [] (by omega) hT rfl
 rw [kt (f:=mw n ps) (g:=fun a b=>a++ [occ (aap n ps ((b:Nat):Int):Int)]) (fun b a=>by simp only [mw,art]),Ul]at w2
 have e1:((Lp.res cn (Ds n ps)).2.2.2).1=aeA n ps:=by
  simp only [Ds,w2,lk,List.nil_append];rfl
 obtain⟨v1,v2⟩:=adl ch fs (aeA n ps) (by omega) n.toNat (Px n ps) (fun f hm=>by have:=(hf f hm).1;omega)
 rw [kt (f:=pP ch) (g:=afJ ch) (fun b a=>rfl)]at v2
 refine⟨?_,?_⟩
 ·simp only [ED,Dt,e1,v2,ll];rfl
 ·have v3:Lp.fin cN (Dt n ch ps fs)=true:=by rw [Dt,e1];exact v1
  have w3:Lp.fin cn (Ds n ps)=true:=w1
  simp only [EE,v3,w3,allT,cond_true]
theorem akT(n:Int)(ps:List Int)(fs:List (Int×Int×Int))(h:(isT n ps&&ahC n fs)=true):
  ZU n ps fs=FZ n ps fs 0∧ZV n ps fs=FZ n ps fs 1∧Sm n ps fs=true:=by
 simp only [Bool.and_eq_true]at h
 obtain⟨a1,a2⟩:=aiJ n 0 ps fs h.1 h.2
 obtain⟨b1,b2⟩:=aiJ n 1 ps fs h.1 h.2
 exact⟨a1,b1,by simp only [Sm,a2,b2,allT,cond_true]⟩
def Zc:List SV→List Entry→Option Out
 | [.one ⟨true,[.val (.int .i64 x0),.ref 0]⟩,.one ⟨false,[.ref 1]⟩],[.row false 2 (.int .i64) x1,.row false 169 (.pair (.int .i64) (.pair (.int .i64) (.int .i64))) x2]=>some ⟨.one ⟨true,[.ref 2,.ref 3]⟩,[.row false 2 aiQ x1,.row false 169 acG x2],[.row true 2 aiQ (FZ x0 x1 x2 0),.row true 2 aiQ (FZ x0 x1 x2 1)],[isT x0 x1&&ahC x0 x2]⟩
 |_,_=>none
def Sd:PF prog:=PF.alt ah1 Zc (by
 intro args es o h bK;unfold Zc at h;split at h
 ·rename_i x0 x1 x2
  cases h
  have bK:=iu bK
  have hh:=akT x0 x1 x2 bK
  obtain⟨e0,e1,en⟩:=hh
  exact kU rfl (gZ en) rfl rfl (by simp only [e0,e1] <;> rfl)
 ·cases h)
def pO(y2:List Int)(b:Nat):(List Int)→Nat ⊕ (List Int)
 |y3=>(.inr (List.set y3 b (ajD (1:Int) (Option.getD y2[b]? (0:Int)) (1:Int) (Option.getD y2[b]? (0:Int)))))
def nW(y2:List Int)(i:Nat):(List Int)→kv
 |y3=>((i:Int),(↑y2.length:Int),y2,y3)
def MB:kv→List Int
 |(_,_,_,y3)=>y3
theorem afM(y2 y3:List Int)(hn:y2.length≤9223372036854775807)(hl:y3.length=y2.length):
  dR.fin ((0:Int),(↑y2.length:Int),y2,y3)=true∧dR.res ((0:Int),(↑y2.length:Int),y2,y3)=((aO (pO y2) 0 (List.range y2.length) 0 y3).1,(nW y2) (aO (pO y2) 0 (List.range y2.length) 0 y3).2.1 (aO (pO y2) 0 (List.range y2.length) 0 y3).2.2):=by
 have ez:=dR.along (nW y2) MB (pO y2) 0 (fun _ a=>a.length=y2.length) (List.range y2.length) y3 hl (by simp only [dR,nW,List.length_range];omega) (fun i b a hb hI=> ?_) (fun a hI=> ?_)
 ·exact ez
 ·obtain y3:=a
  obtain⟨rfl,dZ⟩:=BV hb
  have hw:IntKind.i64.wrap ((b:Int) + 1)=((b + 1:Nat):Int):=by rw [ag (by omega) (by omega)];omega
  have cR:ltI (b:Int) (y2.length:Int)=true:=fj (by omega)
  have ta:leI (0:Int) (b:Int)=true:=da (by omega)
  have fB:ltN b y2.length=true:=gp (by omega)
  refine⟨?_,?_,?_,?_⟩
  ·simp [vQ,CD,wW,CE,CF,CG,CH,CI,CJ,AH,dR,LT.nds,allT,nW,cR,ta,fB,hI]
  ·simp [vQ,CD,wW,CE,CF,CG,CH,CI,CJ,AH,dR,LT.each,nW,MB,hw,hI]
  ·simp only [vQ,CD,wW,CE,CF,CG,CH,CI,CJ,AH,dR,LT.fn,nW,MB,pO,Int.toNat_natCast,cR,cond_true]
  ·intro a' hf;simp only [pO,Sum.inr.injEq]at hf;subst hf;simpa using hI
 ·obtain y3:=a
  simp [vQ,CD,wW,CE,CF,CG,CH,CI,CJ,AH,dR,LT.out,nW,List.length_range]
def te(b:Int×(Int×Int)):(List Int×List Int)→Nat ⊕ (List Int×List Int)
 |(y3,y4)=>(.inr ((bif(b.2.1==(0:Int))then List.set y3 (Int.toNat b.1) b.2.2else y3),(bif(b.2.1==(0:Int))then y4 else List.set y4 (Int.toNat b.1) b.2.2)))
def nX(y2:List (Int×(Int×Int)))(i:Nat):(List Int×List Int)→kw
 |(y3,y4)=>((i:Int),(↑y2.length:Int),y2,y3,y4)
def MC:kw→List Int×List Int
 |(_,_,_,y3,y4)=>(y3,y4)
theorem afN(y2:List (Int×(Int×Int)))(y3 y4:List Int)(hn:y2.length≤9223372036854775807)(n:Nat)(h3:y3.length=n)(h4:y4.length=n)(hf: ∀ f∈y2,0≤f.1∧f.1 < (n:Int)):
  dS.fin ((0:Int),(↑y2.length:Int),y2,y3,y4)=true∧dS.res ((0:Int),(↑y2.length:Int),y2,y3,y4)=((aO (te) 0 y2 0 (y3,y4)).1,(nX y2) (aO (te) 0 y2 0 (y3,y4)).2.1 (aO (te) 0 y2 0 (y3,y4)).2.2):=by
 have ez:=dS.along (nX y2) MC (te) 0 (fun _ a=>a.1.length=n∧a.2.length=n) y2 (y3,y4) ⟨h3,h4⟩ (by simp only [dS,nX];omega) (fun i b a hb hI=> ?_) (fun a hI=> ?_)
 ·exact ez
 ·obtain⟨y3,y4⟩:=a
  have dZ:=(List.getElem?_eq_some_iff.1 hb).1
  have gQ: ∀ d,Option.getD y2[i]? d=b:=fun d=>by rw [hb];rfl
  have hw:=tw dZ hn
  have cR:ltI (i:Int) (y2.length:Int)=true:=fj (by omega)
  have ta:leI (0:Int) (i:Int)=true:=da (by omega)
  have fB:ltN i y2.length=true:=gp dZ
  refine⟨?_,?_,?_,?_⟩
  ·have h5:=hf b (List.mem_of_getElem? hb)
   have hI1:=hI.1
   have hI2:=hI.2
   have h6:leI 0 b.1=true:=da h5.1
   have h7:ltI b.1 (n:Int)=true:=fj (by omega)
   have h8:ltN b.1.toNat n=true:=gp (by omega)
   simp only at hI1 hI2
   simp [dP,gF,vR,CL,CM,CN,CO,CP,CQ,CR,CS,CT,CU,AC,AD,AE,AJ,dS,LT.nds,allT,nX,cR,ta,fB,gQ,h6,h7,h8,hI1,hI2]
  ·simp [dP,gF,vR,CL,CM,CN,CO,CP,CQ,CR,CS,CT,CU,AC,AD,AE,AJ,dS,LT.each,nX,MC,hw]
  ·simp only [dP,gF,vR,CL,CM,CN,CO,CP,CQ,CR,CS,CT,CU,AC,AD,AE,AJ,dS,LT.fn,nX,MC,te,Int.toNat_natCast,cR,ta,fB,gQ,cond_true,Bool.cond_self]
  ·intro a' hf;simp only [te,Sum.inr.injEq]at hf;subst hf;have hI1:=hI.1;have hI2:=hI.2;cases b.2.1==0 <;> simpa using ⟨hI1,hI2⟩
 ·obtain⟨y3,y4⟩:=a
  simp [dP,gF,vR,CL,CM,CN,CO,CP,CQ,CR,CS,CT,CU,AC,AD,AE,AJ,dS,LT.out,nX]
theorem ahB: ∀ (fs:List (Int×Int×Int)) (a:List Int×List Int),(∀ f∈fs,f.2.1=0∨f.2.1=1)→
  fs.foldl (fun a f=>(bif f.2.1==0 then a.1.set f.1.toNat f.2.2 else a.1,bif f.2.1==0 then a.2 else a.2.set f.1.toNat f.2.2)) a=(fs.foldl (afJ 0) a.1,fs.foldl (afJ 1) a.2)
 | [],a,_=>rfl
 |f::fs,a,h=>by
  simp only [List.foldl_cons]
  rw [ahB fs _ (fun g hg=>h g (by simp [hg]))]
  rcases h f (by simp)with e | e <;> simp [afJ,e]
theorem akF(n:Int)(ps:List Int)(fs:List (Int×Int×Int))(h:(isT n ps&&ahC n fs)=true):
  Tp n ps fs=FZ n ps fs 0∧Tq n ps fs=FZ n ps fs 1∧Tr n ps fs=true:=by
 simp only [Bool.and_eq_true]at h
 have h2:=(DL.1 h.1).1
 obtain⟨hl,hf⟩:=alU h.2
 have hr:(List.replicate n.toNat (0:Int)).length=(uB n ps).length:=by rw [YA];simp
 obtain⟨w1,w2⟩:=afM (uB n ps) (List.replicate n.toNat (0:Int)) (by rw [YA];omega) hr
 rw [alz (xs:=uB n ps) (d:=(0:Int)) (g:=occ) (f:=pO (uB n ps)) (e:=0) (fun b a=>by simp only [pO,aru]) hr]at w2
 have e1:BM n ps=aeA n ps:=by
  rw [BM,Mn,w2]
  simp only [nW,uB,aeA,List.map_map];rfl
 obtain⟨v1,v2⟩:=afN fs (aeA n ps) (aeA n ps) (by omega) n.toNat (Px n ps) (Px n ps) (fun f hm=>by have:=(hf f hm).1;omega)
 rw [kt (f:=te) (g:=fun a f=>(bif f.2.1==0 then a.1.set f.1.toNat f.2.2 else a.1,bif f.2.1==0 then a.2 else a.2.set f.1.toNat f.2.2)) (fun b a=>rfl),ahB _ _ (fun f hm=>(hf f hm).2.1)]at v2
 have e3:Mo n ps fs=(FZ n ps fs 0,FZ n ps fs 1):=by
  simp only [Mo,GC,e1,v2,nX];rfl
 refine⟨by rw [Tp,e3],by rw [Tq,e3],?_⟩
 have e4:Lp.fin dS (GC n ps fs)=true:=by simp only [GC,e1];exact v1
 have e5:Lp.fin dR (Mn n ps)=true:=w1
 simp only [Tr,e4,e5,e1,h.1,Px,allT]
 simp;omega
def aa2:List SV→List Entry→Option Out
 | [.one ⟨true,[.val (.int .i64 x0),.ref 0]⟩,.one ⟨false,[.ref 1]⟩],[.row false 2 (.int .i64) x1,.row false 169 (.pair (.int .i64) (.pair (.int .i64) (.int .i64))) x2]=>some ⟨.one ⟨true,[.ref 2,.ref 3]⟩,[.row false 2 aiQ x1,.row false 169 acG x2],[.row true 2 aiQ (FZ x0 x1 x2 0),.row true 2 aiQ (FZ x0 x1 x2 1)],[isT x0 x1&&ahC x0 x2]⟩
 |_,_=>none
def Tu:PF prog:=PF.alt ai1 aa2 (by
 intro args es o h bK;unfold aa2 at h;split at h
 ·rename_i x0 x1 x2
  cases h
  have bK:=iu bK
  have hh:=akF x0 x1 x2 bK
  obtain⟨e0,e1,en⟩:=hh
  exact kU rfl (gZ en) rfl rfl (by simp only [e0,e1] <;> rfl)
 ·cases h)
def Mv(n:Int)(ps:List Int)(t:Int):Int:=Int.tmod (blk (ps[t.toNat]?.getD 0) + 1) n
def aeM(n:Int)(ps a b:List Int)(t:Int):Bool:=phs (ps[t.toNat]?.getD 0)!=1||(a[(Mv n ps t).toNat]?.getD 0==0&&b[(Mv n ps t).toNat]?.getD 0==0)
def Yp(n:Int)(ps a b:List Int)(t:Int):Bool:=ZG n ps t&&(am1 n a&&am1 n b)
theorem akf{n t:Int}{ps a b:List Int}(h:Yp n ps a b t=true):
  (0≤t∧t < ps.length)∧(2≤n∧n≤8)∧(0≤Mv n ps t∧Mv n ps t < n)∧((a.length:Int)=n∧(b.length:Int)=n)∧
   IntKind.i64.wrap (IntKind.i64.wrap (Int.tdiv (ps[t.toNat]?.getD 0) 3) + 1)=blk (ps[t.toNat]?.getD 0) + 1∧
   (0≤a[(Mv n ps t).toNat]?.getD 0∧a[(Mv n ps t).toNat]?.getD 0≤1)∧(0≤b[(Mv n ps t).toNat]?.getD 0∧b[(Mv n ps t).toNat]?.getD 0≤1):=by
 simp only [Yp,Bool.and_eq_true,agQ,am1,aoD,List.all_eq_true,sf,UH]at h
 obtain⟨⟨hT,ht⟩,⟨ha,ha2⟩,hb,hb2⟩:=h
 have h1:=DL.1 hT
 have dZ:t.toNat < ps.length:=by omega
 have hp:=h1.2.2 (ps[t.toNat]) (List.getElem_mem dZ)
 have e0:ps[t.toNat]?.getD 0=ps[t.toNat]:=by rw [List.getElem?_eq_getElem dZ];rfl
 rw [Mv,e0]
 have hb3:blk ps[t.toNat]=ps[t.toNat] / 3:=ahq hp.1
 have hb4:Int.tdiv ps[t.toNat] 3=ps[t.toNat] / 3:=Int.tdiv_eq_ediv_of_nonneg hp.1
 have hq:Int.tmod (blk ps[t.toNat] + 1) n=(ps[t.toNat] / 3 + 1) % n:=by rw [hb3,Int.tmod_eq_emod_of_nonneg (by omega)]
 have hm0:0≤(ps[t.toNat] / 3 + 1) % n:=Int.emod_nonneg _ (by omega)
 have hm1:(ps[t.toNat] / 3 + 1) % n < n:=Int.emod_lt_of_pos _ (by omega)
 rw [hq]
 have la:((ps[t.toNat] / 3 + 1) % n).toNat < a.length:=by omega
 have lb:((ps[t.toNat] / 3 + 1) % n).toNat < b.length:=by omega
 rw [List.getElem?_eq_getElem la,List.getElem?_eq_getElem lb]
 refine⟨ht,h1.1,⟨hm0,hm1⟩,⟨ha,hb⟩,?_,ha2 _ (List.getElem_mem la),hb2 _ (List.getElem_mem lb)⟩
 rw [hb4,ag (x:=ps[t.toNat] / 3) (by omega) (by omega),ag (by omega) (by omega),hb3]
theorem anf(n t:Int)(ps a b:List Int)(h:Yp n ps a b t=true):QD n t ps a b=aeM n ps a b t∧QE n t ps a b=true:=by
 obtain⟨ht,hn,hx,hl,hw,ha,hb⟩:=akf h
 have e2:mT n t ps=Mv n ps t:=by
  simp only [mT,IU,hw];rfl
 refine⟨?_,?_⟩
 ·simp only [QD,e2,tk,IU,aeM,phs]
  rw [ag (by omega) (by omega)]
  cases Int.tmod (ps[t.toNat]?.getD 0) 3 !=1 with
  |true=>rfl
  |false=>
   rw [cond_false,Bool.false_or,Bool.eq_iff_iff]
   simp only [beq_iff_eq,Bool.and_eq_true]
   omega
 ·have t1:leI 0 t=true:=da ht.1
  have t2:ltI t (ps.length:Int)=true:=fj ht.2
  have t3:ltN t.toNat ps.length=true:=gp (by omega)
  have t4:neI n 0=true:=aiE (by omega)
  have t5:leI 0 (Mv n ps t)=true:=da hx.1
  have t6:ltI (Mv n ps t) (a.length:Int)=true:=fj (by omega)
  have t7:ltN (Mv n ps t).toNat a.length=true:=gp (by omega)
  have t8:ltI (Mv n ps t) (b.length:Int)=true:=fj (by omega)
  have t9:ltN (Mv n ps t).toNat b.length=true:=gp (by omega)
  simp only [QE,Oy,e2,t1,t2,t3,t4,t5,t6,t7,t8,t9,allT,cond_true,Bool.or_true]
def WQ:List SV→List Entry→Option Out
 | [.one ⟨true,[.val (.int .i64 x0),.ref 0]⟩,.one ⟨true,[.ref 1,.ref 2]⟩,.one ⟨false,[.val (.int .i64 x1)]⟩],[.row false 2 (.int .i64) x2,.row false 2 (.int .i64) x3,.row false 2 (.int .i64) x4]=>some ⟨.one ⟨false,[.val (.bool (aeM x0 x2 x3 x4 x1))]⟩,[.row false 2 aiQ x2,.row false 2 aiQ x3,.row false 2 aiQ x4],[],[Yp x0 x2 x3 x4 x1]⟩
 |_,_=>none
def PL:PF prog:=PF.alt ag0 WQ (by
 intro args es o h bK;unfold WQ at h;split at h
 ·rename_i x0 x1 x2 x3 x4
  cases h
  have bK:=iu bK
  have hh:=anf x0 x1 x2 x3 x4 bK
  obtain⟨e0,en⟩:=hh
  exact kU rfl (gZ en) (by simp only [e0] <;> rfl) rfl rfl
 ·cases h)
theorem amJ(n t:Int)(a b ps:List Int)(h:Yp n ps a b t=true):nf n t a b ps=aeM n ps a b t∧ng n t a b ps=true:=by
 obtain⟨ht,hn,hx,hl,hw,ha,hb⟩:=akf h
 have e2:iM n t ps=Mv n ps t:=by
  simp only [iM,iL,hw];rfl
 refine⟨?_,?_⟩
 ·simp only [nf,e2,eD,iL,nc,eC,aeM,phs]
  cases Int.tmod (ps[t.toNat]?.getD 0) 3 !=1 with
  |true=>rfl
  |false=>
   rw [cond_false,Bool.false_or]
   cases a[(Mv n ps t).toNat]?.getD 0==0 <;> rfl
 ·have t1:leI 0 t=true:=da ht.1
  have t2:ltI t (ps.length:Int)=true:=fj ht.2
  have t3:ltN t.toNat ps.length=true:=gp (by omega)
  have t4:neI n 0=true:=aiE (by omega)
  have t4':neI (3:Int) 0=true:=aiE (by omega)
  have t5:leI 0 (Mv n ps t)=true:=da hx.1
  have t6:ltI (Mv n ps t) (a.length:Int)=true:=fj (by omega)
  have t7:ltN (Mv n ps t).toNat a.length=true:=gp (by omega)
  have t8:ltI (Mv n ps t) (b.length:Int)=true:=fj (by omega)
  have t9:ltN (Mv n ps t).toNat b.length=true:=gp (by omega)
  simp only [ng,ne,e2,t1,t2,t3,t4,t4',t5,t6,t7,t8,t9,allT,cond_true,Bool.or_true]
def wh:List SV→List Entry→Option Out
 | [.one ⟨true,[.ref 0,.ref 1]⟩,.one ⟨true,[.val (.int .i64 x0),.ref 2]⟩,.one ⟨false,[.val (.int .i64 x1)]⟩],[.row false 2 (.int .i64) x2,.row false 2 (.int .i64) x3,.row false 2 (.int .i64) x4]=>some ⟨.one ⟨false,[.val (.bool (aeM x0 x4 x2 x3 x1))]⟩,[.row false 2 aiQ x2,.row false 2 aiQ x3,.row false 2 aiQ x4],[],[Yp x0 x4 x2 x3 x1]⟩
 |_,_=>none
def nk:PF prog:=PF.alt Jq wh (by
 intro args es o h bK;unfold wh at h;split at h
 ·rename_i x0 x1 x2 x3 x4
  cases h
  have bK:=iu bK
  have hh:=amJ x0 x1 x2 x3 x4 bK
  obtain⟨e0,en⟩:=hh
  exact kU rfl (gZ en) (by simp only [e0] <;> rfl) rfl rfl
 ·cases h)
theorem aqe(n:Int)(ps:List Int)(b:Int):inR (occ (aap n ps b:Int)) 0 1=true:=by
 rw [sf,occ];cases h:ltI (aap n ps b:Int) 1 <;> simp at h ⊢;omega
theorem ams(n:Int)(ps:List Int)(fs:List (Int×Int×Int))(ch:Int)(hT:isT n ps=true)(hF:ahC n fs=true):am1 n (FZ n ps fs ch)=true:=by
 have h2:=(DL.1 hT).1
 obtain⟨hl,hf⟩:=alU hF
 simp only [am1,Bool.and_eq_true,aoD,alE]
 refine⟨by omega,?_⟩
 have ez: ∀ (fs:List (Int×Int×Int)) (l:List Int),(∀ f∈fs,0≤f.2.2∧f.2.2≤1)→(l.all fun v=>inR v 0 1)=true→((fs.foldl (afJ ch) l).all fun v=>inR v 0 1)=true:=by
  intro fs
  induction fs with
  |nil=>intro l _ h;exact h
  |cons f fs ih=>
   intro l hv h
   rw [List.foldl_cons]
   refine ih _ (fun g hg=>hv g (by simp [hg])) ?_
   unfold afJ
   cases f.2.1==ch with
   |false=>exact h
   |true=>
    simp only [cond_true,List.all_eq_true]at h ⊢
    intro v hm
    rcases List.mem_or_eq_of_mem_set hm with h3 | rfl
    ·exact h v h3
    ·exact sf.2 (hv f (by simp))
 refine ez fs _ (fun f hm=>(hf f hm).2.2) ?_
 simp only [aeA,List.all_map,List.all_eq_true,Function.comp]
 intro b _;exact aqe n ps b
def VV(x0 x1 x2:Int):Bool:=bif bif x1==(0:Int)then x1==(0:Int)else x1==(1:Int)then aT x2 (0:Int) (IntKind.wrap .i64 (x0 - (1:Int)))else bif bif x1==(2:Int)then x1==(2:Int)else x1==(3:Int)then x2==(0:Int)else false
def abR:List SV→List Entry→Option Out
 | [.one ⟨false,[.val (.int .i64 x0)]⟩,.one ⟨true,[.val (.int .i64 x1),.val (.int .i64 x2)]⟩],[]=>some ⟨.one ⟨false,[.val (.bool (VV x0 x1 x2))]⟩,[],[],[]⟩
 |_,_=>none
def aj8:PF prog:=PF.ofG prog [fI] [] aM 100 f100 func100 (fun c _=>LOk.nil c) abR (by
 intro vs es r h;unfold abR at h;split at h
 ·cases h;kernel_rfl
 ·cases h)
def VZ(x0:Int):Bool:=aT x0 (0:Int) (3:Int)
def abW:List SV→List Entry→Option Out
 | [.one ⟨false,[.val (.int .i64 x0)]⟩],[]=>some ⟨.one ⟨false,[.val (.bool (VZ x0))]⟩,[],[],[]⟩
 |_,_=>none
def akc:PF prog:=PF.ofG prog [fI] [] aM 186 f186 func186 (fun c _=>LOk.nil c) abW (by
 intro vs es r h;unfold abW at h;split at h
 ·cases h;kernel_rfl
 ·cases h)
def Si(x0 x1:Int):Bool:=bif aT x0 (0:Int) (9:Int)then VZ x1 else false
def YI:List SV→List Entry→Option Out
 | [.one ⟨true,[.val (.int .i64 x0),.val (.int .i64 x1),.val (.bool _x2)]⟩],[]=>some ⟨.one ⟨false,[.val (.bool (Si x0 x1))]⟩,[],[],[]⟩
 |_,_=>none
def ahZ:PF prog:=PF.ofG prog [akc,fI] [] aM 101 f101 func101 (fun c _=>LOk.nil c) YI (by
 intro vs es r h;unfold YI at h;split at h
 ·cases h;kernel_rfl
 ·cases h)
abbrev cA:=Int×Int×Int×List Int
section
variable (y0 y1 y2:Int)(y3:List Int)
def mz:Bool:=ltI y0 y1
def mA:Bool:=leI (0:Int) y0
def mB:Bool:=ltI y0 (↑y3.length:Int)
def mC:Bool:=ltN y0.toNat y3.length
def mD:Bool:=y2==Option.getD y3[Int.toNat y0]? (0:Int)
def mE:Int:=IntKind.wrap .i64 (y0 + (1:Int))
end
def RG:cA→List (Nat×SV)
 |(y0,y1,y2,_)=> [(8,(.one ⟨false,[.val (.int .i64 y0)]⟩)),(7,(.one ⟨false,[.val (.int .i64 y1)]⟩)),(1,(.one ⟨false,[.val (.int .i64 y2)]⟩)),(0,(.one ⟨false,[.ref 0]⟩))]
def RF:cA→List (Nat×Entry)
 |(_,_,_,y3)=> [(0,(.row false 2 aiQ y3))]
def RJ:Nat→cA→List (Nat×SV)
 |0,(y0,_,_,_)=> [(4,(.one ⟨false,[.val (.int .i64 y0)]⟩))]
 |_,(_,_,_,_)=> []
def RI:Nat→cA→List (Nat×Entry)
 |0,(_,_,_,y3)=> [(0,(.row false 2 aiQ y3))]
 |_,(_,_,_,y3)=> [(0,(.row false 2 aiQ y3))]
def lL:cA→LT cA
 |(y0,y1,y2,y3)=> .ite (mz y0 y1) (.need [mA y0,mB y0 y3,mC y0 y3] (.ite (mD y0 y2 y3) (.ext 0 [(0,0)]) (.nrm ((mE y0),y1,y2,y3) [(0,0)]))) (.ext 1 [(0,0)])
def xc(s:St):Option cA:=
 (match s.look 8 with
 |some ⟨none,.one ⟨false,[.val (.int .i64 y0)]⟩⟩=>
 (match s.look 7 with
 |some ⟨none,.one ⟨false,[.val (.int .i64 y1)]⟩⟩=>
 (match s.look 1 with
 |some ⟨none,.one ⟨false,[.val (.int .i64 y2)]⟩⟩=>
 (match s.look 0 with
 |some ⟨none,.one ⟨false,[.ref 0]⟩⟩=>
 (match s.ent 0 with
 |some (.row false 2 (.int .i64) y3)=>
 some (y0,y1,y2,y3)
 |_=>none)
 |_=>none)
 |_=>none)
 |_=>none)
 |_=>none)
def aV:Lp cA where
 h:=⟨[9,10,5,11,12,13,14,15,16,17,4,18,8],[0],[],[]⟩
 JL:=RG
 JE:=RF
 XL:=RJ
 XE:=RI
 q:=fun j=>match j with | 0=> .ret | _=> .exit 0
 tags:= [0,1]
 lt:=lL
 fuel:=fun(y0,y1,y2,y3)=>y0.natAbs + y1.natAbs + y2.natAbs + y3.length
 fix:=fun(_,y1,y2,y3) (y0,_,_,_)=>(y0,y1,y2,y3)
 σ:= [(0,0)]
 rd:=xc
theorem PH:LoopOk prog (fun k=>Nat.blt k Tryz.f212.ntmps) aV.F (aL f212 0):=by
 refine Lp.ok (tbl:= []) (lf:= []) aM aV (by kernel_rfl) (LOk.nil _) (fun _=>rfl) (fun j _=>by unfold aV;match j with | 0=>rfl | _ + 1=>rfl) ?_ ?_ ?_ ?_ (fun _=>rfl) ?_
 ·rintro⟨y0,y1,y2,y3⟩;kernel_rfl
 ·rintro⟨y0,y1,y2,y3⟩;kernel_rfl
 ·intro s x h
  have h:xc s=some x:=h
  unfold xc at h
  repeat' split at h
  all_goals cases h
  exact⟨aa (by assumption) rfl (aa (by assumption) rfl (aa (by assumption) rfl (aa (by assumption) rfl (rfl)))),ab rfl (by assumption) rfl (rfl)⟩
 ·rintro⟨y0,y1,y2,y3⟩;kernel_rfl
 ·rintro⟨y0,y1,y2,y3⟩ z;exact(And.intro (And.intro trivial rfl) trivial)
section
variable (x0:Int)(x1:List Int)
def uu:Int×Int×Int×List Int:=((0:Int),(↑x1.length:Int),x0,x1)
def De:Int:=bif Nat.beq ((Lp.res aV (uu x0 x1)).1) (0:Nat)then ((Lp.res aV (uu x0 x1)).2).1else(-1:Int)
def Df:Bool:=allT [Lp.fin aV (uu x0 x1)]
end
def KX:List SV→List Entry→Option Out
 | [.one ⟨false,[.ref 0]⟩,.one ⟨false,[.val (.int .i64 x0)]⟩],[.row false 2 (.int .i64) x1]=>some ⟨.one ⟨false,[.val (.int .i64 (De x0 x1))]⟩,[.row false 2 aiQ x1],[],[Df x0 x1]⟩
 |_,_=>none
def CZ:PF prog:=PF.ofG prog [] [aV.F] aM 212 f212 func212 (LOk.fnT (l:= [aL f212 0]) (by kernel_rfl) (.cons PH (.nil _))) KX (by
 intro vs es r h;unfold KX at h;split at h
 ·cases h;kernel_rfl
 ·cases h)
def dv(x0:Int)(x1:List Int):Bool:=leI (0:Int) (De x0 x1)
def jI(x0:Int)(x1:List Int):Bool:=allT [Df x0 x1]
def Ie:List SV→List Entry→Option Out
 | [.one ⟨false,[.ref 0]⟩,.one ⟨false,[.val (.int .i64 x0)]⟩],[.row false 2 (.int .i64) x1]=>some ⟨.one ⟨false,[.val (.bool (dv x0 x1))]⟩,[.row false 2 aiQ x1],[],[jI x0 x1]⟩
 |_,_=>none
def du:PF prog:=PF.ofG prog [CZ,PF.lend CZ,PF.fz CZ] [] aM 160 f160 func160 (fun c _=>LOk.nil c) Ie (by
 intro vs es r h;unfold Ie at h;split at h
 ·cases h;kernel_rfl
 ·cases h)
def aaw(x0:Bool):Int:=bif x0 then(1:Int)else(0:Int)
def afQ:List SV→List Entry→Option Out
 | [.one ⟨false,[.val (.bool x0)]⟩],[]=>some ⟨.one ⟨false,[.val (.int .i64 (aaw x0))]⟩,[],[],[]⟩
 |_,_=>none
def aaI:PF prog:=PF.ofG prog [] [] aM 232 f232 func232 (fun c _=>LOk.nil c) afQ (by
 intro vs es r h;unfold afQ at h;split at h
 ·cases h;kernel_rfl
 ·cases h)
abbrev iS:=Int×Int×List Int×List Int
section
variable (y0 y1:Int)(y2 y3:List Int)
def nZ:List Int:= [aaw (Option.getD y2[Int.toNat y0]? (0:Int)==(2:Int))]
def yo:Bool:=ltI y0 y1
def yp:Bool:=leI (0:Int) y0
def yq:Bool:=ltI y0 (↑y2.length:Int)
def yt:Bool:=ltN y0.toNat y2.length
def yu:Bool:=leN (List.length y3 + List.length (nZ y0 y2)) (9223372036854775807:Nat)
def yw:Bool:=leN ((List.length y3 + List.length (nZ y0 y2)) * (8:Nat)) (140737488355328:Nat)
def yx:Int:=IntKind.wrap .i64 (y0 + (1:Int))
def yy:List Int:=y3++nZ y0 y2
end
def abg:iS→List (Nat×SV)
 |(y0,y1,_,_)=> [(13,(.one ⟨false,[.val (.int .i64 y0)]⟩)),(12,(.one ⟨false,[.val (.int .i64 y1)]⟩)),(11,(.one ⟨false,[.ref 0]⟩)),(5,(.one ⟨false,[.ref 1]⟩))]
def aba:iS→List (Nat×Entry)
 |(_,_,y2,y3)=> [(0,(.row false 2 aiQ y2)),(1,(.row true 2 aiQ y3))]
def abs:Nat→iS→List (Nat×SV)
 |_,(_,_,_,_)=> [(5,(.one ⟨false,[.ref 1]⟩))]
def abm:Nat→iS→List (Nat×Entry)
 |_,(_,_,y2,y3)=> [(0,(.row false 2 aiQ y2)),(1,(.row true 2 aiQ y3))]
def wF:iS→LT iS
 |(y0,y1,y2,y3)=> .ite (yo y0 y1) (.need [yp y0,yq y0 y2,yt y0 y2] (.need [yu y0 y2 y3,yw y0 y2 y3] (.nrm ((yx y0),y1,y2,(yy y0 y2 y3)) [(0,0),(1,640)]))) (.ext 0 [(0,0),(1,1)])
def Kh(s:St):Option iS:=
 (match s.look 13 with
 |some ⟨none,.one ⟨false,[.val (.int .i64 y0)]⟩⟩=>
 (match s.look 12 with
 |some ⟨none,.one ⟨false,[.val (.int .i64 y1)]⟩⟩=>
 (match s.look 11 with
 |some ⟨none,.one ⟨false,[.ref 0]⟩⟩=>
 (match s.look 5 with
 |some ⟨none,.one ⟨false,[.ref 256]⟩⟩=>
 (match s.ent 0 with
 |some (.row false 2 (.int .i64) y2)=>
 (match s.ent 256 with
 |some (.row true 2 (.int .i64) y3)=>
 some (y0,y1,y2,y3)
 |_=>none)
 |_=>none)
 |_=>none)
 |_=>none)
 |_=>none)
 |_=>none)
def cL:Lp iS where
 h:=⟨[14,15,16,7,17,18,19,20,21,22,5,23,13],[0],[1],[]⟩
 JL:=abg
 JE:=aba
 XL:=abs
 XE:=abm
 q:=fun j=>match j with | _=> .exit 0
 tags:= [0]
 lt:=wF
 fuel:=fun(y0,y1,y2,y3)=>y0.natAbs + y1.natAbs + y2.length + y3.length
 fix:=fun(_,y1,y2,_) (y0,_,_,y3)=>(y0,y1,y2,y3)
 σ:= [(0,0),(1,256)]
 rd:=Kh
theorem Zx:LoopOk prog (fun k=>Nat.blt k Tryz.f187.ntmps) cL.F (aL f187 0):=by
 refine Lp.ok (tbl:= [al,PF.lend al,PF.fz al,aaI]) (lf:= []) aM cL (by kernel_rfl) (LOk.nil _) (fun _=>rfl) (fun _ _=>rfl) ?_ ?_ ?_ ?_ (fun _=>rfl) ?_
 ·rintro⟨y0,y1,y2,y3⟩;kernel_rfl
 ·rintro⟨y0,y1,y2,y3⟩;kernel_rfl
 ·intro s x h
  have h:Kh s=some x:=h
  unfold Kh at h
  repeat' split at h
  all_goals cases h
  exact⟨aa (by assumption) rfl (aa (by assumption) rfl (aa (by assumption) rfl (aa (by assumption) rfl (rfl)))),ab rfl (by assumption) rfl (ab rfl (by assumption) rfl (rfl))⟩
 ·rintro⟨y0,y1,y2,y3⟩;kernel_rfl
 ·rintro⟨y0,y1,y2,y3⟩ z;exact(And.intro rfl trivial)
abbrev iT:=Int×Int×List (Int×(Int×Int))×List Int×List Int
section
variable (y0 y1:Int)(y2:List (Int×(Int×Int)))(y3 y4:List Int)
def cK:Int×Int×Int:=Option.getD y2[Int.toNat y0]? ((0:Int),(0:Int),(0:Int))
def eo:Bool:=((cK y0 y2).2).1==(0:Int)
def su:Bool:=leI (0:Int) ((cK y0 y2).1)
def yz:Bool:=ltI y0 y1
def yA:Bool:=leI (0:Int) y0
def yB:Bool:=ltI y0 (↑y2.length:Int)
def yC:Bool:=ltN y0.toNat y2.length
def yD:Bool:= !eo y0 y2||su y0 y2
def yE:Bool:= !eo y0 y2||ltI ((cK y0 y2).1) (↑y3.length:Int)
def yF:Bool:= !eo y0 y2||ltN (Int.toNat ((cK y0 y2).1)) y3.length
def yG:Bool:=eo y0 y2||su y0 y2
def yH:Bool:=eo y0 y2||ltI ((cK y0 y2).1) (↑y4.length:Int)
def yI:Bool:=eo y0 y2||ltN (Int.toNat ((cK y0 y2).1)) y4.length
def wz:Int:=IntKind.wrap .i64 (y0 + (1:Int))
def wA:List Int:=bif eo y0 y2 then List.set y3 (Int.toNat ((cK y0 y2).1)) ((cK y0 y2).2.2)else y3
def wB:List Int:=bif eo y0 y2 then y4 else List.set y4 (Int.toNat ((cK y0 y2).1)) ((cK y0 y2).2.2)
end
def abh:iT→List (Nat×SV)
 |(y0,y1,_,_,_)=> [(30,(.one ⟨false,[.val (.int .i64 y0)]⟩)),(29,(.one ⟨false,[.val (.int .i64 y1)]⟩)),(28,(.one ⟨false,[.ref 0]⟩)),(8,(.one ⟨false,[.ptr 1 0]⟩))]
def abb:iT→List (Nat×Entry)
 |(_,_,y2,y3,y4)=> [(0,(.row false 100 acG y2)),(1,(.box 130 [.ref 2,.ref 3])),(2,(.row true 2 aiQ y3)),(3,(.row true 2 aiQ y4))]
def abt:Nat→iT→List (Nat×SV)
 |_,(_,_,_,_,_)=> []
def abn:Nat→iT→List (Nat×Entry)
 |_,(_,_,y2,y3,y4)=> [(0,(.row false 100 acG y2)),(1,(.box 130 [.ref 2,.ref 3])),(2,(.row true 2 aiQ y3)),(3,(.row true 2 aiQ y4))]
def wG:iT→LT iT
 |(y0,y1,y2,y3,y4)=> .ite (yz y0 y1) (.need [yA y0,yB y0 y2,yC y0 y2] (.need [yD y0 y2,yE y0 y2 y3,yF y0 y2 y3,yG y0 y2,yH y0 y2 y4,yI y0 y2 y4] (.nrm ((wz y0),y1,y2,wA y0 y2 y3,(wB y0 y2 y4)) [(0,0),(1,1),(2,2),(3,3)]))) (.ext 0 [(0,0),(1,1),(2,2),(3,3)])
def Ki(s:St):Option iT:=
 (match s.look 30 with
 |some ⟨none,.one ⟨false,[.val (.int .i64 y0)]⟩⟩=>
 (match s.look 29 with
 |some ⟨none,.one ⟨false,[.val (.int .i64 y1)]⟩⟩=>
 (match s.look 28 with
 |some ⟨none,.one ⟨false,[.ref 1]⟩⟩=>
 (match s.look 8 with
 |some ⟨none,.one ⟨false,[.ptr 832 0]⟩⟩=>
 (match s.ent 1 with
 |some (.row false 100 (.pair (.int .i64) (.pair (.int .i64) (.int .i64))) y2)=>
 (match s.ent 832 with
 |some (.box 130 [.ref 512,.ref 704])=>
 (match s.ent 512 with
 |some (.row true 2 (.int .i64) y3)=>
 (match s.ent 704 with
 |some (.row true 2 (.int .i64) y4)=>
 some (y0,y1,y2,y3,y4)
 |_=>none)
 |_=>none)
 |_=>none)
 |_=>none)
 |_=>none)
 |_=>none)
 |_=>none)
 |_=>none)
def cM:Lp iT where
 h:=⟨[31,32,33,10,34,35,36,37,38,39,40,41,42,43,44,45,46,47,48,49,50,51,30],[0,1,2,3],[],[]⟩
 JL:=abh
 JE:=abb
 XL:=abt
 XE:=abn
 q:=fun j=>match j with | _=> .exit 2
 tags:= [0]
 lt:=wG
 fuel:=fun(y0,y1,y2,y3,y4)=>y0.natAbs + y1.natAbs + y2.length + y3.length + y4.length
 fix:=fun(_,y1,y2,_,_) (y0,_,_,y3,y4)=>(y0,y1,y2,y3,y4)
 σ:= [(0,1),(1,832),(2,512),(3,704)]
 rd:=Ki
theorem Zy:LoopOk prog (fun k=>Nat.blt k Tryz.f187.ntmps) cM.F (aL f187 1):=by
 refine Lp.ok (tbl:= [al,PF.lend al,PF.fz al,aaI]) (lf:= []) aM cM (by kernel_rfl) (LOk.nil _) (fun _=>rfl) (fun _ _=>rfl) ?_ ?_ ?_ ?_ (fun _=>rfl) ?_
 ·rintro⟨y0,y1,y2,y3,y4⟩;kernel_rfl
 ·rintro⟨y0,y1,y2,y3,y4⟩;kernel_rfl
 ·intro s x h
  have h:Ki s=some x:=h
  unfold Ki at h
  repeat' split at h
  all_goals cases h
  exact⟨aa (by assumption) rfl (aa (by assumption) rfl (aa (by assumption) rfl (aa (by assumption) rfl (rfl)))),ab rfl (by assumption) rfl (ab rfl (by assumption) rfl (ab rfl (by assumption) rfl (ab rfl (by assumption) rfl (rfl))))⟩
 ·rintro⟨y0,y1,y2,y3,y4⟩;kernel_rfl
 ·rintro⟨y0,y1,y2,y3,y4⟩ z;exact(And.intro rfl trivial)
section
variable (x0:List Int)(x1:List (Int×Int×Int))
def Ir:Int×Int×List Int×List Int:=((0:Int),(↑x0.length:Int),x0,[])
def wV:List Int:=(Lp.res cL (Ir x0)).2.2.2.2
def CC:Int×Int×List (Int×Int×Int)×List Int×List Int:=((0:Int),(↑x1.length:Int),x1,wV x0,wV x0)
def Is:List Int×List Int:=(Lp.res cM (CC x0 x1)).2.2.2.2
def zN:List Int:=(Is x0 x1).1
def Ek:List Int:=(Is x0 x1).2
def Kt:Bool:=allT [Lp.fin cL (Ir x0),leN (1:Nat) (List.length (wV x0))&&leN (List.length (wV x0)) (1048576:Nat),Lp.fin cM (CC x0 x1)]
end
def WG:List SV→List Entry→Option Out
 | [.one ⟨false,[.ref 0]⟩,.one ⟨false,[.ref 1]⟩],[.row false 2 (.int .i64) x0,.row false 100 (.pair (.int .i64) (.pair (.int .i64) (.int .i64))) x1]=>some ⟨.one ⟨true,[.ref 2,.ref 3]⟩,[.row false 2 aiQ x0,.row false 100 acG x1],[.row true 2 aiQ (zN x0 x1),.row true 2 aiQ (Ek x0 x1)],[Kt x0 x1]⟩
 |_,_=>none
def PP:PF prog:=PF.ofG prog [al,PF.lend al,PF.fz al,aaI] [cL.F,cM.F] aM 187 f187 func187 (LOk.fnT (l:= [aL f187 0,aL f187 1]) (by kernel_rfl) (.cons Zx (.cons Zy (.nil _)))) WG (by
 intro vs es r h;unfold WG at h;split at h
 ·cases h;kernel_rfl
 ·cases h)
def UU(x0:List Int)(x1:List (Int×Int×Int)):Bool:=bif !dv (0:Int) (zN x0 x1)then !dv (0:Int) (Ek x0 x1)else false
def UV(x0:List Int)(x1:List (Int×Int×Int)):Bool:=allT [Kt x0 x1,jI (0:Int) (zN x0 x1),!(!dv (0:Int) (zN x0 x1)&&true)||jI (0:Int) (Ek x0 x1)]
def abI:List SV→List Entry→Option Out
 | [.one ⟨false,[.ref 0]⟩,.one ⟨false,[.ref 1]⟩],[.row false 2 (.int .i64) x0,.row false 100 (.pair (.int .i64) (.pair (.int .i64) (.int .i64))) x1]=>some ⟨.one ⟨false,[.val (.bool (UU x0 x1))]⟩,[.row false 2 aiQ x0,.row false 100 acG x1],[],[UV x0 x1]⟩
 |_,_=>none
def aj1:PF prog:=PF.ofG prog [du,PF.lend du,PF.fz du,PP,PF.lend PP,PF.fz PP] [] aM 103 f103 func103 (fun c _=>LOk.nil c) abI (by
 intro vs es r h;unfold abI at h;split at h
 ·cases h;kernel_rfl
 ·cases h)
abbrev ex:=Int×Int×Int×List Int
section
variable (y0 y1 y2:Int)(y3:List Int)
def sx:Bool:=ltI y0 y1
def sy:Bool:=leI (0:Int) y0
def sz:Bool:=ltI y0 (↑y3.length:Int)
def sE:Bool:=ltN y0.toNat y3.length
def sF:Int:=IntKind.wrap .i64 (y0 + (1:Int))
def sG:List Int:=List.set y3 y0.toNat y2
end
def Wq:ex→List (Nat×SV)
 |(y0,y1,y2,_)=> [(41,(.one ⟨false,[.val (.int .i64 y0)]⟩)),(40,(.one ⟨false,[.val (.int .i64 y1)]⟩)),(0,(.one ⟨false,[.ref 0]⟩)),(5,(.one ⟨false,[.val (.int .i64 y2)]⟩))]
def Wo:ex→List (Nat×Entry)
 |(_,_,_,y3)=> [(0,(.row true 2 aiQ y3))]
def Wu:Nat→ex→List (Nat×SV)
 |_,(_,_,_,_)=> []
def Ws:Nat→ex→List (Nat×Entry)
 |_,(_,_,_,y3)=> [(0,(.row true 2 aiQ y3))]
def rG:ex→LT ex
 |(y0,y1,y2,y3)=> .ite (sx y0 y1) (.need [sy y0,sz y0 y3,sE y0 y3] (.nrm ((sF y0),y1,y2,(sG y0 y2 y3)) [(0,0)])) (.ext 0 [(0,0)])
def DZ(s:St):Option ex:=
 (match s.look 41 with
 |some ⟨none,.one ⟨false,[.val (.int .i64 y0)]⟩⟩=>
 (match s.look 40 with
 |some ⟨none,.one ⟨false,[.val (.int .i64 y1)]⟩⟩=>
 (match s.look 0 with
 |some ⟨none,.one ⟨false,[.ref 0]⟩⟩=>
 (match s.look 5 with
 |some ⟨none,.one ⟨false,[.val (.int .i64 y2)]⟩⟩=>
 (match s.ent 0 with
 |some (.row true 2 (.int .i64) y3)=>
 some (y0,y1,y2,y3)
 |_=>none)
 |_=>none)
 |_=>none)
 |_=>none)
 |_=>none)
def bg:Lp ex where
 h:=⟨[42,43,6,44,45,46,47,48,41],[0],[],[]⟩
 JL:=Wq
 JE:=Wo
 XL:=Wu
 XE:=Ws
 q:=fun j=>match j with | _=> .exit 1
 tags:= [0]
 lt:=rG
 fuel:=fun(y0,y1,y2,y3)=>y0.natAbs + y1.natAbs + y2.natAbs + y3.length
 fix:=fun(_,y1,y2,_) (y0,_,_,y3)=>(y0,y1,y2,y3)
 σ:= [(0,0)]
 rd:=DZ
theorem Ug:LoopOk prog (fun k=>Nat.blt k Tryz.f205.ntmps) bg.F (aL f205 0):=by
 refine Lp.ok (tbl:= [du,PF.lend du,PF.fz du,BQ,PF.lend BQ,PF.fz BQ]) (lf:= []) aM bg (by kernel_rfl) (LOk.nil _) (fun _=>rfl) (fun _ _=>rfl) ?_ ?_ ?_ ?_ (fun _=>rfl) ?_
 ·rintro⟨y0,y1,y2,y3⟩;kernel_rfl
 ·rintro⟨y0,y1,y2,y3⟩;kernel_rfl
 ·intro s x h
  have h:DZ s=some x:=h
  unfold DZ at h
  repeat' split at h
  all_goals cases h
  exact⟨aa (by assumption) rfl (aa (by assumption) rfl (aa (by assumption) rfl (aa (by assumption) rfl (rfl)))),ab rfl (by assumption) rfl (rfl)⟩
 ·rintro⟨y0,y1,y2,y3⟩;kernel_rfl
 ·rintro⟨y0,y1,y2,y3⟩ z;exact(And.intro rfl trivial)
section
variable (x0 x1:Int)(x2:List Int)
def bX:Bool:=bif x0==(0:Int)then x0==(0:Int)else x0==(1:Int)
def It:Int:=Option.getD x2[Int.toNat x1]? (0:Int)
def mL:Bool:=It x1 x2 !=IntKind.wrap .i64 (IntKind.wrap .i64 (x0 - (0:Int)) + (0:Int))
def Iu:Int×Int×Int×List Int:=((0:Int),(↑x2.length:Int),(2:Int),x2)
def Iv:Int×Int×Int×List Int:=((0:Int),(↑x2.length:Int),(1:Int),x2)
def uN:Bool:= !bX x0||(mL x0 x1 x2||leI (0:Int) x1)
def uO:Bool:= !bX x0||(mL x0 x1 x2||ltI x1 (↑x2.length:Int))
def uP:Bool:= !bX x0||(mL x0 x1 x2||ltN x1.toNat x2.length)
def wC:Bool:=bif bX x0 then bif mL x0 x1 x2 then false else true else bif x0==(2:Int)then bif dv (0:Int) x2 then false else true else bif !PG x2 then false else true
def wD:List Int:=bif bX x0 then bif mL x0 x1 x2 then x2 else List.set x2 x1.toNat (IntKind.wrap .i64 ((1:Int) - It x1 x2))else bif x0==(2:Int)then bif dv (0:Int) x2 then x2 else (Lp.res bg (Iu x2)).2.2.2.2else bif !PG x2 then x2 else (Lp.res bg (Iv x2)).2.2.2.2
def wE:Bool:=allT [!bX x0||leI (0:Int) x1,!bX x0||ltI x1 (↑x2.length:Int),!bX x0||ltN x1.toNat x2.length,bX x0||(!x0==(2:Int)||jI (0:Int) x2),bX x0||(x0==(2:Int)||leN x2.length (9223372036854775807:Nat)),uN x0 x1 x2,uO x0 x1 x2,uP x0 x1 x2,uN x0 x1 x2,uO x0 x1 x2,uP x0 x1 x2,bX x0||(!x0==(2:Int)||(dv (0:Int) x2||Lp.fin bg (Iu x2))),bX x0||(x0==(2:Int)||(!PG x2||Lp.fin bg (Iv x2)))]
end
def Rj:List SV→List Entry→Option Out
 | [.one ⟨false,[.ref 0]⟩,.one ⟨true,[.val (.int .i64 x0),.val (.int .i64 x1)]⟩],[.row true 2 (.int .i64) x2]=>some ⟨.one ⟨false,[.val (.bool (wC x0 x1 x2))]⟩,[.row true 2 aiQ (wD x0 x1 x2)],[],[wE x0 x1 x2]⟩
 |_,_=>none
def abF:PF prog:=PF.ofG prog [du,PF.lend du,PF.fz du,BQ,PF.lend BQ,PF.fz BQ] [bg.F] aM 205 f205 func205 (LOk.fnT (l:= [aL f205 0]) (by kernel_rfl) (.cons Ug (.nil _))) Rj (by
 intro vs es r h;unfold Rj at h;split at h
 ·cases h;kernel_rfl
 ·cases h)
section
variable (x0 x1:Int)(x2:Bool)(x3:Int)
def mn:Int×Int×Int×Bool:=Option.getD aib[Int.toNat x0]? ((0:Int),(0:Int),(0:Int),false)
def mo:Int×Bool:=(mn x0).2.2
def iJ:Int:=bif IntKind.wrap .i64 (↑(BitVec.toNat (BitVec.ofInt (IntKind.bits IntKind.i64) (Int.fdiv ((mn x0).1) ((2:Int) ^ min x3.toNat (IntKind.bits IntKind.i64)))&&& BitVec.ofInt (IntKind.bits IntKind.i64) (1:Int))):Int)==(0:Int)then(1:Int)else bif ltI x1 ((mo x0).1)then(2:Int)else bif bif (mo x0).2then !x2 else false then(3:Int)else(0:Int)
def iK:Bool:=allT [leI (0:Int) x0,ltI x0 (↑(List.length aib):Int),ltN x0.toNat (List.length aib),leI (0:Int) x3]
end
def uH:List SV→List Entry→Option Out
 | [.one ⟨true,[.val (.int .i64 x0),.val (.int .i64 x1),.val (.bool x2)]⟩,.one ⟨false,[.val (.int .i64 x3)]⟩],[]=>some ⟨.one ⟨false,[.val (.int .i64 (iJ x0 x1 x2 x3))]⟩,[],[],[iK x0 x3]⟩
 |_,_=>none
def vc:PF prog:=PF.ofG prog [] [] aM 206 f206 func206 (fun c _=>LOk.nil c) uH (by
 intro vs es r h;unfold uH at h;split at h
 ·cases h;kernel_rfl
 ·cases h)
def iY(x0 x1:Int):Int:=IntKind.wrap .i64 (x1 + x0)
def BG:List SV→List Entry→Option Out
 | [.one ⟨true,[.val (.int .i64 x0),.val (.int .i64 x1)]⟩],[]=>some ⟨.one ⟨false,[.val (.int .i64 (iY x0 x1))]⟩,[],[],[]⟩
 |_,_=>none
def BI:PF prog:=PF.ofG prog [] [] aM 239 f239 func239 (fun c _=>LOk.nil c) BG (by
 intro vs es r h;unfold BG at h;split at h
 ·cases h;kernel_rfl
 ·cases h)
abbrev ku:=Int×Int×Int×List (Int×Int)×List Int
section
variable (y0 y1 y2:Int)(y3:List (Int×Int))(y4:List Int)
def vP:Int×Int:=Option.getD y3[Int.toNat y0]? ((0:Int),(0:Int))
def rH:Bool:=leI (iY ((vP y0 y3).1) ((vP y0 y3).2)) y2
def Cu:Bool:=ltI y0 y1
def Cv:Bool:=leI (0:Int) y0
def Cw:Bool:=ltI y0 (↑y3.length:Int)
def Cx:Bool:=ltN y0.toNat y3.length
def Cy:Bool:= !rH y0 y2 y3||leN (List.length y4 + List.length [y0]) (9223372036854775807:Nat)
def Cz:Bool:= !rH y0 y2 y3||leN ((List.length y4 + List.length [y0]) * (8:Nat)) (140737488355328:Nat)
def CA:Bool:=rH y0 y2 y3
def wU:Int:=IntKind.wrap .i64 (y0 + (1:Int))
def CB:List Int:=y4++ [y0]
end
def adI:ku→List (Nat×SV)
 |(y0,y1,y2,_,_)=> [(10,(.one ⟨false,[.val (.int .i64 y0)]⟩)),(9,(.one ⟨false,[.val (.int .i64 y1)]⟩)),(8,(.one ⟨false,[.ref 0]⟩)),(1,(.one ⟨false,[.val (.int .i64 y2)]⟩)),(5,(.one ⟨false,[.ref 1]⟩))]
def adB:ku→List (Nat×Entry)
 |(_,_,_,y3,y4)=> [(0,(.row false 173 acH y3)),(1,(.row true 2 aiQ y4))]
def adW:Nat→ku→List (Nat×SV)
 |_,(_,_,_,_,_)=> [(5,(.one ⟨false,[.ref 1]⟩))]
def adP:Nat→ku→List (Nat×Entry)
 |_,(_,_,_,y3,y4)=> [(0,(.row false 173 acH y3)),(1,(.row true 2 aiQ y4))]
def AG:ku→LT ku
 |(y0,y1,y2,y3,y4)=> .ite (Cu y0 y1) (.need [Cv y0,Cw y0 y3,Cx y0 y3] (.need [Cy y0 y2 y3 y4,Cz y0 y2 y3 y4] (.ite (CA y0 y2 y3) (.nrm ((wU y0),y1,y2,y3,(CB y0 y4)) [(0,0),(1,960)]) (.nrm ((wU y0),y1,y2,y3,y4) [(0,0),(1,1)])))) (.ext 0 [(0,0),(1,1)])
def MG(s:St):Option ku:=
 (match s.look 10 with
 |some ⟨none,.one ⟨false,[.val (.int .i64 y0)]⟩⟩=>
 (match s.look 9 with
 |some ⟨none,.one ⟨false,[.val (.int .i64 y1)]⟩⟩=>
 (match s.look 8 with
 |some ⟨none,.one ⟨false,[.ref 0]⟩⟩=>
 (match s.look 1 with
 |some ⟨none,.one ⟨false,[.val (.int .i64 y2)]⟩⟩=>
 (match s.look 5 with
 |some ⟨none,.one ⟨false,[.ref 192]⟩⟩=>
 (match s.ent 0 with
 |some (.row false 173 (.pair (.int .i64) (.int .i64)) y3)=>
 (match s.ent 192 with
 |some (.row true 2 (.int .i64) y4)=>
 some (y0,y1,y2,y3,y4)
 |_=>none)
 |_=>none)
 |_=>none)
 |_=>none)
 |_=>none)
 |_=>none)
 |_=>none)
def fb:Lp ku where
 h:=⟨[11,12,13,14,7,6,15,16,17,18,19,20,21,22,5,23,10],[0],[1],[]⟩
 JL:=adI
 JE:=adB
 XL:=adW
 XE:=adP
 q:=fun j=>match j with | _=> .exit 0
 tags:= [0]
 lt:=AG
 fuel:=fun(y0,y1,y2,y3,y4)=>y0.natAbs + y1.natAbs + y2.natAbs + y3.length + y4.length
 fix:=fun(_,y1,y2,y3,_) (y0,_,_,_,y4)=>(y0,y1,y2,y3,y4)
 σ:= [(0,0),(1,192)]
 rd:=MG
theorem abz:LoopOk prog (fun k=>Nat.blt k Tryz.f234.ntmps) fb.F (aL f234 0):=by
 refine Lp.ok (tbl:= [BI]) (lf:= []) aM fb (by kernel_rfl) (LOk.nil _) (fun _=>rfl) (fun _ _=>rfl) ?_ ?_ ?_ ?_ (fun _=>rfl) ?_
 ·rintro⟨y0,y1,y2,y3,y4⟩;kernel_rfl
 ·rintro⟨y0,y1,y2,y3,y4⟩;kernel_rfl
 ·intro s x h
  have h:MG s=some x:=h
  unfold MG at h
  repeat' split at h
  all_goals cases h
  exact⟨aa (by assumption) rfl (aa (by assumption) rfl (aa (by assumption) rfl (aa (by assumption) rfl (aa (by assumption) rfl (rfl))))),ab rfl (by assumption) rfl (ab rfl (by assumption) rfl (rfl))⟩
 ·rintro⟨y0,y1,y2,y3,y4⟩;kernel_rfl
 ·rintro⟨y0,y1,y2,y3,y4⟩ z;exact(And.intro (And.intro rfl rfl) trivial)
section
variable (x0:Int)(x1:List (Int×Int))
def Mm:Int×Int×Int×List (Int×Int)×List Int:=((0:Int),(↑x1.length:Int),x0,x1,[])
def NC:List Int:=(Lp.res fb (Mm x0 x1)).2.2.2.2.2
def ND:Bool:=allT [Lp.fin fb (Mm x0 x1)]
end
def aaU:List SV→List Entry→Option Out
 | [.one ⟨false,[.ref 0]⟩,.one ⟨false,[.val (.int .i64 x0)]⟩],[.row false 173 (.pair (.int .i64) (.int .i64)) x1]=>some ⟨.one ⟨false,[.ref 1]⟩,[.row false 173 acH x1],[.row true 2 aiQ (NC x0 x1)],[ND x0 x1]⟩
 |_,_=>none
def Tw:PF prog:=PF.ofG prog [BI] [fb.F] aM 234 f234 func234 (LOk.fnT (l:= [aL f234 0]) (by kernel_rfl) (.cons abz (.nil _))) aaU (by
 intro vs es r h;unfold aaU at h;split at h
 ·cases h;kernel_rfl
 ·cases h)
section
variable (x0:Int)(x1 x2:List (Int×Int))
def NW:Bool:=(bif bif okPl x1 then okLk x2 else false then xM x0 else false)&&true
def PC:Bool:=bif bif bif bif okPl x1 then okLk x2 else false then xM x0 else false then(↑(List.length (bif NW x0 x1 x2 then NC x0 x1 else [])):Int)==(0:Int)else false then(↑x2.length:Int)==(0:Int)else false
def PD:Bool:=allT [leN x1.length (9223372036854775807:Nat),!(okPl x1&&true)||leN x2.length (9223372036854775807:Nat),!NW x0 x1 x2||ND x0 x1]
end
def WE:List SV→List Entry→Option Out
 | [.one ⟨false,[.ref 0]⟩,.one ⟨false,[.ref 1]⟩,.one ⟨false,[.val (.int .i64 x0)]⟩],[.row false 173 (.pair (.int .i64) (.int .i64)) x1,.row false 176 (.pair (.int .i64) (.int .i64)) x2]=>some ⟨.one ⟨false,[.val (.bool (PC x0 x1 x2))]⟩,[.row false 173 acH x1,.row false 176 acH x2],[],[PD x0 x1 x2]⟩
 |_,_=>none
def agY:PF prog:=PF.ofG prog [Tw,PF.lend Tw,PF.fz Tw,xQ,PF.lend xQ,PF.fz xQ,sU,PF.lend sU,PF.fz sU,PN] [] aM 207 f207 func207 (fun c _=>LOk.nil c) WE (by
 intro vs es r h;unfold WE at h;split at h
 ·cases h;kernel_rfl
 ·cases h)
section
variable (x0 x1:Int)(x2:Bool)(x3:Int)
def fJ:Bool:=iJ x0 x1 x2 x3==(0:Int)
def oV:Int:=bif fJ x0 x1 x2 x3 then ((Option.getD aib[Int.toNat x0]? ((0:Int),(0:Int),(0:Int),false)).2).1else x3
def oW:Bool:=allT [iK x0 x3,!fJ x0 x1 x2 x3||leI (0:Int) x0,!fJ x0 x1 x2 x3||ltI x0 (↑(List.length aib):Int),!fJ x0 x1 x2 x3||ltN x0.toNat (List.length aib)]
end
def xy:List SV→List Entry→Option Out
 | [.one ⟨true,[.val (.int .i64 x0),.val (.int .i64 x1),.val (.bool x2)]⟩,.one ⟨false,[.val (.int .i64 x3)]⟩],[]=>some ⟨.one ⟨false,[.val (.int .i64 (oV x0 x1 x2 x3))]⟩,[],[],[oW x0 x1 x2 x3]⟩
 |_,_=>none
def KN:PF prog:=PF.ofG prog [vc] [] aM 208 f208 func208 (fun c _=>LOk.nil c) xy (by
 intro vs es r h;unfold xy at h;split at h
 ·cases h;kernel_rfl
 ·cases h)
abbrev iW:=Int×List Int×List Int
section
variable (y0:Int)(y1:List Int)
def oz:List Int:= [IntKind.wrap .i64 (Int.tdiv (Option.getD y1[Int.toNat y0]? (0:Int)) (2:Int))]
def tT:Bool:=ltI y0 (↑y1.length:Int)
def zl:Bool:=leI (0:Int) y0
def zm:Bool:=ltN y0.toNat y1.length
end
def zn:Bool:=neI (2:Int) (0:Int)
section
variable (y0:Int)(y1 y2:List Int)
def zo:Bool:=leN (List.length y2 + List.length (oz y0 y1)) (9223372036854775807:Nat)
def zp:Bool:=leN ((List.length y2 + List.length (oz y0 y1)) * (8:Nat)) (140737488355328:Nat)
def zq:Int:=IntKind.wrap .i64 (y0 + (1:Int))
def zr:List Int:=y2++oz y0 y1
end
def abk:iW→List (Nat×SV)
 |(y0,_,_)=> [(8,(.one ⟨false,[.val (.int .i64 y0)]⟩)),(0,(.one ⟨false,[.ref 0]⟩)),(7,(.one ⟨false,[.ref 1]⟩))]
def abe:iW→List (Nat×Entry)
 |(_,y1,y2)=> [(0,(.row false 2 aiQ y1)),(1,(.row true 2 aiQ y2))]
def abw:Nat→iW→List (Nat×SV)
 |_,(_,_,_)=> [(7,(.one ⟨false,[.ref 1]⟩))]
def abq:Nat→iW→List (Nat×Entry)
 |_,(_,y1,y2)=> [(0,(.row false 2 aiQ y1)),(1,(.row true 2 aiQ y2))]
def wJ:iW→LT iW
 |(y0,y1,y2)=> .ite (tT y0 y1) (.need [zl y0,tT y0 y1,zm y0 y1,zn,zo y0 y1 y2,zp y0 y1 y2] (.nrm ((zq y0),y1,(zr y0 y1 y2)) [(0,0),(1,768)])) (.ext 0 [(0,0),(1,1)])
def Kl(s:St):Option iW:=
 (match s.look 8 with
 |some ⟨none,.one ⟨false,[.val (.int .i64 y0)]⟩⟩=>
 (match s.look 0 with
 |some ⟨none,.one ⟨false,[.ref 0]⟩⟩=>
 (match s.look 7 with
 |some ⟨none,.one ⟨false,[.ref 256]⟩⟩=>
 (match s.ent 0 with
 |some (.row false 2 (.int .i64) y1)=>
 (match s.ent 256 with
 |some (.row true 2 (.int .i64) y2)=>
 some (y0,y1,y2)
 |_=>none)
 |_=>none)
 |_=>none)
 |_=>none)
 |_=>none)
def cq:Lp iW where
 h:=⟨[11,12,13,14,17,18,19,20,21,22,23,24,7,15,16,8],[0],[1],[]⟩
 JL:=abk
 JE:=abe
 XL:=abw
 XE:=abq
 q:=fun j=>match j with | _=> .exit 0
 tags:= [0]
 lt:=wJ
 fuel:=fun(y0,y1,y2)=>y0.natAbs + y1.length + y2.length
 fix:=fun(_,y1,_) (y0,_,y2)=>(y0,y1,y2)
 σ:= [(0,0),(1,256)]
 rd:=Kl
theorem ZB:LoopOk prog (fun k=>Nat.blt k Tryz.f242.ntmps) cq.F (aL f242 0):=by
 refine Lp.ok (tbl:= []) (lf:= []) aM cq (by kernel_rfl) (LOk.nil _) (fun _=>rfl) (fun _ _=>rfl) ?_ ?_ ?_ ?_ (fun _=>rfl) ?_
 ·rintro⟨y0,y1,y2⟩;kernel_rfl
 ·rintro⟨y0,y1,y2⟩;kernel_rfl
 ·intro s x h
  have h:Kl s=some x:=h
  unfold Kl at h
  repeat' split at h
  all_goals cases h
  exact⟨aa (by assumption) rfl (aa (by assumption) rfl (aa (by assumption) rfl (rfl))),ab rfl (by assumption) rfl (ab rfl (by assumption) rfl (rfl))⟩
 ·rintro⟨y0,y1,y2⟩;kernel_rfl
 ·rintro⟨y0,y1,y2⟩ z;exact(And.intro rfl trivial)
abbrev iX:=Int×Int×List (Int×(Int×Int))×List Int
section
variable (y0 y1:Int)(y2:List (Int×(Int×Int)))(y3:List Int)
def ip:Int×Int×Int:=Option.getD y2[Int.toNat y0]? ((0:Int),(0:Int),(0:Int))
def gd:Bool:=((ip y0 y2).2).1==y1
def tU:Bool:=ltI y0 (↑y2.length:Int)
def zt:Bool:=leI (0:Int) y0
def zu:Bool:=ltN y0.toNat y2.length
def tV:Bool:= !gd y0 y1 y2||leI (0:Int) y0
def tW:Bool:= !gd y0 y1 y2||ltI y0 (↑y2.length:Int)
def tX:Bool:= !gd y0 y1 y2||ltN y0.toNat y2.length
def zv:Bool:= !gd y0 y1 y2||leI (0:Int) ((ip y0 y2).1)
def zw:Bool:= !gd y0 y1 y2||ltI ((ip y0 y2).1) (↑y3.length:Int)
def zx:Bool:= !gd y0 y1 y2||ltN (Int.toNat ((ip y0 y2).1)) y3.length
def zy:Int:=IntKind.wrap .i64 (y0 + (1:Int))
def wR:List Int:=bif gd y0 y1 y2 then List.set y3 (Int.toNat ((ip y0 y2).1)) ((ip y0 y2).2.2)else y3
end
def abl:iX→List (Nat×SV)
 |(y0,y1,_,_)=> [(9,(.one ⟨false,[.val (.int .i64 y0)]⟩)),(1,(.one ⟨false,[.ref 0]⟩)),(2,(.one ⟨false,[.val (.int .i64 y1)]⟩)),(7,(.one ⟨false,[.ref 1]⟩))]
def abf:iX→List (Nat×Entry)
 |(_,_,y2,y3)=> [(0,(.row false 100 acG y2)),(1,(.row true 2 aiQ y3))]
def abx:Nat→iX→List (Nat×SV)
 |_,(_,_,_,_)=> []
def abr:Nat→iX→List (Nat×Entry)
 |_,(_,_,y2,y3)=> [(0,(.row false 100 acG y2)),(1,(.row true 2 aiQ y3))]
def wK:iX→LT iX
 |(y0,y1,y2,y3)=> .ite (tU y0 y2) (.need [zt y0,tU y0 y2,zu y0 y2] (.need [tV y0 y1 y2,tW y0 y1 y2,tX y0 y1 y2,tV y0 y1 y2,tW y0 y1 y2,tX y0 y1 y2,zv y0 y1 y2,zw y0 y1 y2 y3,zx y0 y1 y2 y3] (.nrm ((zy y0),y1,y2,(wR y0 y1 y2 y3)) [(0,0),(1,1)]))) (.ext 0 [(0,0),(1,1)])
def Km(s:St):Option iX:=
 (match s.look 9 with
 |some ⟨none,.one ⟨false,[.val (.int .i64 y0)]⟩⟩=>
 (match s.look 1 with
 |some ⟨none,.one ⟨false,[.ref 1]⟩⟩=>
 (match s.look 2 with
 |some ⟨none,.one ⟨false,[.val (.int .i64 y1)]⟩⟩=>
 (match s.look 7 with
 |some ⟨none,.one ⟨false,[.ref 448]⟩⟩=>
 (match s.ent 1 with
 |some (.row false 100 (.pair (.int .i64) (.pair (.int .i64) (.int .i64))) y2)=>
 (match s.ent 448 with
 |some (.row true 2 (.int .i64) y3)=>
 some (y0,y1,y2,y3)
 |_=>none)
 |_=>none)
 |_=>none)
 |_=>none)
 |_=>none)
 |_=>none)
def cO:Lp iX where
 h:=⟨[25,26,27,28,31,32,33,34,35,36,37,38,39,40,41,42,43,44,45,46,47,48,49,29,30,9],[0,1],[],[]⟩
 JL:=abl
 JE:=abf
 XL:=abx
 XE:=abr
 q:=fun j=>match j with | _=> .exit 2
 tags:= [0]
 lt:=wK
 fuel:=fun(y0,y1,y2,y3)=>y0.natAbs + y1.natAbs + y2.length + y3.length
 fix:=fun(_,y1,y2,_) (y0,_,_,y3)=>(y0,y1,y2,y3)
 σ:= [(0,1),(1,448)]
 rd:=Km
theorem ZC:LoopOk prog (fun k=>Nat.blt k Tryz.f242.ntmps) cO.F (aL f242 1):=by
 refine Lp.ok (tbl:= []) (lf:= []) aM cO (by kernel_rfl) (LOk.nil _) (fun _=>rfl) (fun _ _=>rfl) ?_ ?_ ?_ ?_ (fun _=>rfl) ?_
 ·rintro⟨y0,y1,y2,y3⟩;kernel_rfl
 ·rintro⟨y0,y1,y2,y3⟩;kernel_rfl
 ·intro s x h
  have h:Km s=some x:=h
  unfold Km at h
  repeat' split at h
  all_goals cases h
  exact⟨aa (by assumption) rfl (aa (by assumption) rfl (aa (by assumption) rfl (aa (by assumption) rfl (rfl)))),ab rfl (by assumption) rfl (ab rfl (by assumption) rfl (rfl))⟩
 ·rintro⟨y0,y1,y2,y3⟩;kernel_rfl
 ·rintro⟨y0,y1,y2,y3⟩ z;exact(And.intro rfl trivial)
section
variable (x0:Int)(x1:List Int)(x2:List (Int×Int×Int))
def Du:Int×List Int×List Int:=((0:Int),x1,[])
def Dv:Int×Int×List (Int×Int×Int)×List Int:=((0:Int),x0,x2,(Lp.res cq (Du x1)).2.2.2)
def EF:List Int:=(Lp.res cO (Dv x0 x1 x2)).2.2.2.2
def EG:Bool:=allT [Lp.fin cq (Du x1),Lp.fin cO (Dv x0 x1 x2)]
end
def WM:List SV→List Entry→Option Out
 | [.one ⟨false,[.ref 0]⟩,.one ⟨false,[.ref 1]⟩,.one ⟨false,[.val (.int .i64 x0)]⟩],[.row false 2 (.int .i64) x1,.row false 100 (.pair (.int .i64) (.pair (.int .i64) (.int .i64))) x2]=>some ⟨.one ⟨false,[.ref 2]⟩,[.row false 2 aiQ x1,.row false 100 acG x2],[.row true 2 aiQ (EF x0 x1 x2)],[EG x0 x1 x2]⟩
 |_,_=>none
def PT:PF prog:=PF.ofG prog [] [cq.F,cO.F] aM 242 f242 func242 (LOk.fnT (l:= [aL f242 0,aL f242 1]) (by kernel_rfl) (.cons ZB (.cons ZC (.nil _)))) WM (by
 intro vs es r h;unfold WM at h;split at h
 ·cases h;kernel_rfl
 ·cases h)
section
variable (x0:List Int)(x1:List (Int×Int×Int))
def EA:Int:=bif !areR x0 then(1:Int)else bif !lfOk (↑x0.length:Int) x1 then(2:Int)else(0:Int)
def EB:List Int:=bif !areR x0 then []else bif !lfOk (↑x0.length:Int) x1 then []else EF (0:Int) x0 x1
def EC:List Int:=bif !areR x0 then []else bif !lfOk (↑x0.length:Int) x1 then []else EF (1:Int) x0 x1
def Kw:Bool:=allT [leN x0.length (9223372036854775807:Nat),!areR x0||leN x1.length (9223372036854775807:Nat),!areR x0||(!lfOk (↑x0.length:Int) x1||EG (0:Int) x0 x1),!areR x0||(!lfOk (↑x0.length:Int) x1||EG (1:Int) x0 x1)]
end
def WI:List SV→List Entry→Option Out
 | [.one ⟨false,[.ref 0]⟩,.one ⟨false,[.ref 1]⟩],[.row false 2 (.int .i64) x0,.row false 100 (.pair (.int .i64) (.pair (.int .i64) (.int .i64))) x1]=>some ⟨.tup [⟨true,[.ref 2,.ref 3]⟩,⟨false,[.val (.int .i64 (EA x0 x1))]⟩],[.row false 2 aiQ x0,.row false 100 acG x1],[.row true 2 aiQ (EB x0 x1),.row true 2 aiQ (EC x0 x1)],[Kw x0 x1]⟩
 |_,_=>none
def PQ:PF prog:=PF.ofG prog [PT,PF.lend PT,PF.fz PT,jZ,PF.lend jZ,PF.fz jZ,jY,PF.lend jY,PF.fz jY] [] aM 236 f236 func236 (fun c _=>LOk.nil c) WI (by
 intro vs es r h;unfold WI at h;split at h
 ·cases h;kernel_rfl
 ·cases h)
abbrev nA:=Int×Int×List Int
section
variable (y0 y1:Int)(y2:List Int)
def BZ:Bool:=ltI y0 (↑y2.length:Int)
def Hf:Bool:=leI (0:Int) y0
def Hg:Bool:=ltN y0.toNat y2.length
def Hh:Int:=IntKind.wrap .i64 (y0 + (1:Int))
def Hi:Int:=IntKind.wrap .i64 (y1 + Option.getD y2[Int.toNat y0]? (0:Int))
end
def af6:nA→List (Nat×SV)
 |(y0,y1,_)=> [(4,(.one ⟨false,[.val (.int .i64 y0)]⟩)),(0,(.one ⟨false,[.ref 0]⟩)),(3,(.one ⟨false,[.val (.int .i64 y1)]⟩))]
def afX:nA→List (Nat×Entry)
 |(_,_,y2)=> [(0,(.row false 2 aiQ y2))]
def agp:Nat→nA→List (Nat×SV)
 |_,(_,y1,_)=> [(3,(.one ⟨false,[.val (.int .i64 y1)]⟩))]
def agf:Nat→nA→List (Nat×Entry)
 |_,(_,_,y2)=> [(0,(.row false 2 aiQ y2))]
def Er:nA→LT nA
 |(y0,y1,y2)=> .ite (BZ y0 y2) (.need [Hf y0,BZ y0 y2,Hg y0 y2] (.nrm ((Hh y0),Hi y0 y1 y2,y2) [(0,0)])) (.ext 0 [(0,0)])
def Qf(s:St):Option nA:=
 (match s.look 4 with
 |some ⟨none,.one ⟨false,[.val (.int .i64 y0)]⟩⟩=>
 (match s.look 0 with
 |some ⟨none,.one ⟨false,[.ref 0]⟩⟩=>
 (match s.look 3 with
 |some ⟨none,.one ⟨false,[.val (.int .i64 y1)]⟩⟩=>
 (match s.ent 0 with
 |some (.row false 2 (.int .i64) y2)=>
 some (y0,y1,y2)
 |_=>none)
 |_=>none)
 |_=>none)
 |_=>none)
def ib:Lp nA where
 h:=⟨[5,6,7,8,11,12,13,14,15,16,3,9,10,4],[0],[],[]⟩
 JL:=af6
 JE:=afX
 XL:=agp
 XE:=agf
 q:=fun j=>match j with | _=> .exit 0
 tags:= [0]
 lt:=Er
 fuel:=fun(y0,y1,y2)=>y0.natAbs + y1.natAbs + y2.length
 fix:=fun(_,_,y2) (y0,y1,_)=>(y0,y1,y2)
 σ:= [(0,0)]
 rd:=Qf
theorem ad7:LoopOk prog (fun k=>Nat.blt k Tryz.f237.ntmps) ib.F (aL f237 0):=by
 refine Lp.ok (tbl:= []) (lf:= []) aM ib (by kernel_rfl) (LOk.nil _) (fun _=>rfl) (fun _ _=>rfl) ?_ ?_ ?_ ?_ (fun _=>rfl) ?_
 ·rintro⟨y0,y1,y2⟩;kernel_rfl
 ·rintro⟨y0,y1,y2⟩;kernel_rfl
 ·intro s x h
  have h:Qf s=some x:=h
  unfold Qf at h
  repeat' split at h
  all_goals cases h
  exact⟨aa (by assumption) rfl (aa (by assumption) rfl (aa (by assumption) rfl (rfl))),ab rfl (by assumption) rfl (rfl)⟩
 ·rintro⟨y0,y1,y2⟩;kernel_rfl
 ·rintro⟨y0,y1,y2⟩ z;exact(And.intro rfl trivial)
section
variable (x0:List Int)
def Qx:Int×Int×List Int:=((0:Int),(0:Int),x0)
def Ni:Int:=((Lp.res ib (Qx x0)).2.2).1
def Nj:Bool:=allT [Lp.fin ib (Qx x0)]
end
def aeq:List SV→List Entry→Option Out
 | [.one ⟨false,[.ref 0]⟩],[.row false 2 (.int .i64) x0]=>some ⟨.one ⟨false,[.val (.int .i64 (Ni x0))]⟩,[.row false 2 aiQ x0],[],[Nj x0]⟩
 |_,_=>none
def Ym:PF prog:=PF.ofG prog [] [ib.F] aM 237 f237 func237 (LOk.fnT (l:= [aL f237 0]) (by kernel_rfl) (.cons ad7 (.nil _))) aeq (by
 intro vs es r h;unfold aeq at h;split at h
 ·cases h;kernel_rfl
 ·cases h)
section
variable (x0:List Int)(x1:List (Int×Int×Int))
def Eb:Bool:=EA x0 x1 !=(0:Int)
def VG:Bool:=bif Eb x0 x1 then false else IntKind.wrap .i64 (Ni (EB x0 x1) + Ni (EC x0 x1))==IntKind.wrap .i64 ((2:Int) * (↑x0.length:Int))
def VH:Int:=bif Eb x0 x1 then EA x0 x1 else(0:Int)
def VI:Bool:=allT [Kw x0 x1,Eb x0 x1||Nj (EB x0 x1),Eb x0 x1||Nj (EC x0 x1)]
end
def abJ:List SV→List Entry→Option Out
 | [.one ⟨false,[.ref 0]⟩,.one ⟨false,[.ref 1]⟩],[.row false 2 (.int .i64) x0,.row false 100 (.pair (.int .i64) (.pair (.int .i64) (.int .i64))) x1]=>some ⟨.tup [⟨false,[.val (.bool (VG x0 x1))]⟩,⟨false,[.val (.int .i64 (VH x0 x1))]⟩],[.row false 2 aiQ x0,.row false 100 acG x1],[],[VI x0 x1]⟩
 |_,_=>none
def aj2:PF prog:=PF.ofG prog [PQ,PF.lend PQ,PF.fz PQ,Ym,PF.lend Ym,PF.fz Ym] [] aM 220 f220 func220 (fun c _=>LOk.nil c) abJ (by
 intro vs es r h;unfold abJ at h;split at h
 ·cases h;kernel_rfl
 ·cases h)
abbrev mg:=Int×Int×List Int×List Int
section
variable (y0 y1:Int)(y2 y3:List Int)
def EH:Bool:=ltI y0 (↑y2.length:Int)
def EI:Bool:=leN (List.length y3 + List.length [y1]) (9223372036854775807:Nat)
def EJ:Bool:=leN ((List.length y3 + List.length [y1]) * (8:Nat)) (140737488355328:Nat)
def EK:Int:=IntKind.wrap .i64 (y0 + (1:Int))
def EL:List Int:=y3++ [y1]
end
def ae0:mg→List (Nat×SV)
 |(y0,y1,_,_)=> [(6,(.one ⟨false,[.val (.int .i64 y0)]⟩)),(0,(.one ⟨false,[.ref 0]⟩)),(5,(.one ⟨false,[.ref 1]⟩)),(1,(.one ⟨false,[.val (.int .i64 y1)]⟩))]
def aeT:mg→List (Nat×Entry)
 |(_,_,y2,y3)=> [(0,(.row false 2 aiQ y2)),(1,(.row true 2 aiQ y3))]
def afe:Nat→mg→List (Nat×SV)
 |_,(_,_,_,_)=> [(5,(.one ⟨false,[.ref 1]⟩))]
def ae7:Nat→mg→List (Nat×Entry)
 |_,(_,_,y2,y3)=> [(0,(.row false 2 aiQ y2)),(1,(.row true 2 aiQ y3))]
def CW:mg→LT mg
 |(y0,y1,y2,y3)=> .ite (EH y0 y2) (.need [EI y1 y3,EJ y1 y3] (.nrm ((EK y0),y1,y2,(EL y1 y3)) [(0,0),(1,512)])) (.ext 0 [(0,0),(1,1)])
def Oi(s:St):Option mg:=
 (match s.look 6 with
 |some ⟨none,.one ⟨false,[.val (.int .i64 y0)]⟩⟩=>
 (match s.look 0 with
 |some ⟨none,.one ⟨false,[.ref 0]⟩⟩=>
 (match s.look 5 with
 |some ⟨none,.one ⟨false,[.ref 192]⟩⟩=>
 (match s.look 1 with
 |some ⟨none,.one ⟨false,[.val (.int .i64 y1)]⟩⟩=>
 (match s.ent 0 with
 |some (.row false 2 (.int .i64) y2)=>
 (match s.ent 192 with
 |some (.row true 2 (.int .i64) y3)=>
 some (y0,y1,y2,y3)
 |_=>none)
 |_=>none)
 |_=>none)
 |_=>none)
 |_=>none)
 |_=>none)
def gk:Lp mg where
 h:=⟨[8,9,10,11,14,15,16,17,5,12,13,6],[0],[1],[]⟩
 JL:=ae0
 JE:=aeT
 XL:=afe
 XE:=ae7
 q:=fun j=>match j with | _=> .exit 0
 tags:= [0]
 lt:=CW
 fuel:=fun(y0,y1,y2,y3)=>y0.natAbs + y1.natAbs + y2.length + y3.length
 fix:=fun(_,y1,y2,_) (y0,_,_,y3)=>(y0,y1,y2,y3)
 σ:= [(0,0),(1,192)]
 rd:=Oi
theorem acR:LoopOk prog (fun k=>Nat.blt k Tryz.f223.ntmps) gk.F (aL f223 0):=by
 refine Lp.ok (tbl:= []) (lf:= []) aM gk (by kernel_rfl) (LOk.nil _) (fun _=>rfl) (fun _ _=>rfl) ?_ ?_ ?_ ?_ (fun _=>rfl) ?_
 ·rintro⟨y0,y1,y2,y3⟩;kernel_rfl
 ·rintro⟨y0,y1,y2,y3⟩;kernel_rfl
 ·intro s x h
  have h:Oi s=some x:=h
  unfold Oi at h
  repeat' split at h
  all_goals cases h
  exact⟨aa (by assumption) rfl (aa (by assumption) rfl (aa (by assumption) rfl (aa (by assumption) rfl (rfl)))),ab rfl (by assumption) rfl (ab rfl (by assumption) rfl (rfl))⟩
 ·rintro⟨y0,y1,y2,y3⟩;kernel_rfl
 ·rintro⟨y0,y1,y2,y3⟩ z;exact(And.intro rfl trivial)
section
variable (x0:Int)(x1:List Int)
def NL:Int×Int×List Int×List Int:=((0:Int),x0,x1,[])
def LC:List Int:=(Lp.res gk (NL x0 x1)).2.2.2.2
def LD:Bool:=allT [Lp.fin gk (NL x0 x1)]
end
def abQ:List SV→List Entry→Option Out
 | [.one ⟨false,[.ref 0]⟩,.one ⟨false,[.val (.int .i64 x0)]⟩],[.row false 2 (.int .i64) x1]=>some ⟨.one ⟨false,[.ref 1]⟩,[.row false 2 aiQ x1],[.row true 2 aiQ (LC x0 x1)],[LD x0 x1]⟩
 |_,_=>none
def Vs:PF prog:=PF.ofG prog [] [gk.F] aM 223 f223 func223 (LOk.fnT (l:= [aL f223 0]) (by kernel_rfl) (.cons acR (.nil _))) abQ (by
 intro vs es r h;unfold abQ at h;split at h
 ·cases h;kernel_rfl
 ·cases h)
section
variable (x0 x1:Int)(x2:List Int)
def Cc:Int:=Option.getD x2[Int.toNat x1]? (0:Int)
def Cd:Bool:= !x0==(0:Int)||leI (0:Int) x1
def Ce:Bool:= !x0==(0:Int)||ltI x1 (↑x2.length:Int)
def Cf:Bool:= !x0==(0:Int)||ltN x1.toNat x2.length
def Cg:Bool:=x0==(0:Int)||(!x0==(1:Int)||leI (0:Int) x1)
def Ch:Bool:=x0==(0:Int)||(!x0==(1:Int)||ltI x1 (↑x2.length:Int))
def Ci:Bool:=x0==(0:Int)||(!x0==(1:Int)||ltN x1.toNat x2.length)
def Ef:Bool:=bif x0==(0:Int)then Cc x1 x2==(0:Int)else bif x0==(1:Int)then Cc x1 x2==(1:Int)else bif x0==(2:Int)then leI (1:Int) (Ar x2)else Ar x2==(2:Int)
def Eg:List Int:=bif x0==(0:Int)then List.set x2 x1.toNat (1:Int)else bif x0==(1:Int)then List.set x2 x1.toNat (0:Int)else bif x0==(2:Int)then LC (2:Int) x2 else LC (1:Int) x2
def Eh:Bool:=allT [leN x2.length (1048576:Nat),Cd x0 x1,Ce x0 x1 x2,Cf x0 x1 x2,Cd x0 x1,Ce x0 x1 x2,Cf x0 x1 x2,Cg x0 x1,Ch x0 x1 x2,Ci x0 x1 x2,Cg x0 x1,Ch x0 x1 x2,Ci x0 x1 x2,x0==(0:Int)||(x0==(1:Int)||(!x0==(2:Int)||LD (2:Int) x2)),x0==(0:Int)||(x0==(1:Int)||(!x0==(2:Int)||JA x2)),x0==(0:Int)||(x0==(1:Int)||(x0==(2:Int)||LD (1:Int) x2)),x0==(0:Int)||(x0==(1:Int)||(x0==(2:Int)||JA x2))]
end
def aaY:List SV→List Entry→Option Out
 | [.one ⟨false,[.ref 0]⟩,.one ⟨true,[.val (.int .i64 x0),.val (.int .i64 x1)]⟩],[.row false 2 (.int .i64) x2]=>some ⟨.tup [⟨false,[.ref 1]⟩,⟨false,[.val (.bool (Ef x0 x1 x2))]⟩],[.row false 2 aiQ x2],[.row true 2 aiQ (Eg x0 x1 x2)],[Eh x0 x1 x2]⟩
 |_,_=>none
def ai4:PF prog:=PF.ofG prog [Tx,PF.lend Tx,PF.fz Tx,qQ,PF.lend qQ,PF.fz qQ,Vs,PF.lend Vs,PF.fz Vs] [] aM 179 f179 func179 (fun c _=>LOk.nil c) aaY (by
 intro vs es r h;unfold aaY at h;split at h
 ·cases h;kernel_rfl
 ·cases h)
abbrev nz:=Int×Int×List Int
section
variable (y0 y1:Int)(y2:List Int)
def BX:Bool:=ltI y0 (↑y2.length:Int)
def Hb:Bool:=leI (0:Int) y0
def Hc:Bool:=ltN y0.toNat y2.length
def Hd:Bool:=Option.getD y2[Int.toNat y0]? (0:Int)==y1
def He:Int:=IntKind.wrap .i64 (y0 + (1:Int))
end
def af5:nz→List (Nat×SV)
 |(y0,y1,_)=> [(5,(.one ⟨false,[.val (.int .i64 y0)]⟩)),(0,(.one ⟨false,[.ref 0]⟩)),(1,(.one ⟨false,[.val (.int .i64 y1)]⟩))]
def afW:nz→List (Nat×Entry)
 |(_,_,y2)=> [(0,(.row false 2 aiQ y2))]
def ago:Nat→nz→List (Nat×SV)
 |0,(_,_,_)=> [(4,(.one ⟨false,[.val (.bool true)]⟩))]
 |_,(_,_,_)=> []
def age:Nat→nz→List (Nat×Entry)
 |0,(_,_,y2)=> [(0,(.row false 2 aiQ y2))]
 |_,(_,_,y2)=> [(0,(.row false 2 aiQ y2))]
def Eq:nz→LT nz
 |(y0,y1,y2)=> .ite (BX y0 y2) (.need [Hb y0,BX y0 y2,Hc y0 y2] (.ite (Hd y0 y1 y2) (.ext 0 [(0,0)]) (.nrm ((He y0),y1,y2) [(0,0)]))) (.ext 1 [(0,0)])
def Qe(s:St):Option nz:=
 (match s.look 5 with
 |some ⟨none,.one ⟨false,[.val (.int .i64 y0)]⟩⟩=>
 (match s.look 0 with
 |some ⟨none,.one ⟨false,[.ref 0]⟩⟩=>
 (match s.look 1 with
 |some ⟨none,.one ⟨false,[.val (.int .i64 y1)]⟩⟩=>
 (match s.ent 0 with
 |some (.row false 2 (.int .i64) y2)=>
 some (y0,y1,y2)
 |_=>none)
 |_=>none)
 |_=>none)
 |_=>none)
def gh:Lp nz where
 h:=⟨[6,7,8,9,12,13,14,15,16,17,4,10,11,5],[0],[],[]⟩
 JL:=af5
 JE:=afW
 XL:=ago
 XE:=age
 q:=fun j=>match j with | 0=> .ret | _=> .exit 0
 tags:= [0,1]
 lt:=Eq
 fuel:=fun(y0,y1,y2)=>y0.natAbs + y1.natAbs + y2.length
 fix:=fun(_,y1,y2) (y0,_,_)=>(y0,y1,y2)
 σ:= [(0,0)]
 rd:=Qe
theorem ad6:LoopOk prog (fun k=>Nat.blt k Tryz.f224.ntmps) gh.F (aL f224 0):=by
 refine Lp.ok (tbl:= []) (lf:= []) aM gh (by kernel_rfl) (LOk.nil _) (fun _=>rfl) (fun j _=>by unfold gh;match j with | 0=>rfl | _ + 1=>rfl) ?_ ?_ ?_ ?_ (fun _=>rfl) ?_
 ·rintro⟨y0,y1,y2⟩;kernel_rfl
 ·rintro⟨y0,y1,y2⟩;kernel_rfl
 ·intro s x h
  have h:Qe s=some x:=h
  unfold Qe at h
  repeat' split at h
  all_goals cases h
  exact⟨aa (by assumption) rfl (aa (by assumption) rfl (aa (by assumption) rfl (rfl))),ab rfl (by assumption) rfl (rfl)⟩
 ·rintro⟨y0,y1,y2⟩;kernel_rfl
 ·rintro⟨y0,y1,y2⟩ z;exact(And.intro (And.intro trivial rfl) trivial)
section
variable (x0:Int)(x1:List Int)
def VL:Int×Int×List Int:=((0:Int),x0,x1)
def Ss:Bool:=bif Nat.beq ((Lp.res gh (VL x0 x1)).1) (0:Nat)then true else false
def Su:Bool:=allT [Lp.fin gh (VL x0 x1)]
end
def aeo:List SV→List Entry→Option Out
 | [.one ⟨false,[.ref 0]⟩,.one ⟨false,[.val (.int .i64 x0)]⟩],[.row false 2 (.int .i64) x1]=>some ⟨.one ⟨false,[.val (.bool (Ss x0 x1))]⟩,[.row false 2 aiQ x1],[],[Su x0 x1]⟩
 |_,_=>none
def Yl:PF prog:=PF.ofG prog [] [gh.F] aM 224 f224 func224 (LOk.fnT (l:= [aL f224 0]) (by kernel_rfl) (.cons ad6 (.nil _))) aeo (by
 intro vs es r h;unfold aeo at h;split at h
 ·cases h;kernel_rfl
 ·cases h)
def LG(x0:Int):List Int:=bif x0==(0:Int)then [(0:Int)]else bif x0==(2:Int)then [(3:Int)]else bif x0==(3:Int)then [(1:Int),(2:Int),(3:Int),(4:Int),(5:Int)]else bif bif x0==(4:Int)then x0==(4:Int)else x0==(5:Int)then [(4:Int)]else bif x0==(6:Int)then [(5:Int)]else bif x0==(7:Int)then [(0:Int),(2:Int)]else bif x0==(8:Int)then [(1:Int)]else [(2:Int)]
def abT:List SV→List Entry→Option Out
 | [.one ⟨false,[.val (.int .i64 x0)]⟩],[]=>some ⟨.one ⟨false,[.ref 0]⟩,[],[.row true 2 aiQ (LG x0)],[]⟩
 |_,_=>none
def aka:PF prog:=PF.ofG prog [] [] aM 225 f225 func225 (fun c _=>LOk.nil c) abT (by
 intro vs es r h;unfold abT at h;split at h
 ·cases h;kernel_rfl
 ·cases h)
def NP(x0:Int):Int:=bif x0==(3:Int)then(0:Int)else bif bif x0==(4:Int)then x0==(4:Int)else bif x0==(7:Int)then x0==(7:Int)else x0==(8:Int)then(2:Int)else bif bif x0==(5:Int)then x0==(5:Int)else x0==(6:Int)then(3:Int)else(1:Int)
def aa0:List SV→List Entry→Option Out
 | [.one ⟨false,[.val (.int .i64 x0)]⟩],[]=>some ⟨.one ⟨false,[.val (.int .i64 (NP x0))]⟩,[],[],[]⟩
 |_,_=>none
def ai5:PF prog:=PF.ofG prog [] [] aM 226 f226 func226 (fun c _=>LOk.nil c) aa0 (by
 intro vs es r h;unfold aa0 at h;split at h
 ·cases h;kernel_rfl
 ·cases h)
def Sv(x0:Int):Bool:=bif bif bif x0==(0:Int)then true else x0==(4:Int)then true else x0==(7:Int)then true else x0==(8:Int)
def aer:List SV→List Entry→Option Out
 | [.one ⟨false,[.val (.int .i64 x0)]⟩],[]=>some ⟨.one ⟨false,[.val (.bool (Sv x0))]⟩,[],[],[]⟩
 |_,_=>none
def akQ:PF prog:=PF.ofG prog [] [] aM 227 f227 func227 (fun c _=>LOk.nil c) aer (by
 intro vs es r h;unfold aer at h;split at h
 ·cases h;kernel_rfl
 ·cases h)
def Ky(x0 x1 x2:Int)(x3:Bool):Int:=bif !Ss x0 (LG x1)then(1:Int)else bif ltI x2 (NP x1)then(2:Int)else bif bif Sv x1 then !x3 else false then(3:Int)else(0:Int)
def Kz(x0 x1:Int):Bool:=allT [Su x0 (LG x1)]
def WN:List SV→List Entry→Option Out
 | [.one ⟨false,[.val (.int .i64 x0)]⟩,.one ⟨true,[.val (.int .i64 x1),.val (.int .i64 x2),.val (.bool x3)]⟩],[]=>some ⟨.one ⟨false,[.val (.int .i64 (Ky x0 x1 x2 x3))]⟩,[],[],[Kz x0 x1]⟩
 |_,_=>none
def WY:PF prog:=PF.ofG prog [Yl,PF.lend Yl,PF.fz Yl,aka,ai5,akQ] [] aM 180 f180 func180 (fun c _=>LOk.nil c) WN (by
 intro vs es r h;unfold WN at h;split at h
 ·cases h;kernel_rfl
 ·cases h)
def Wa(x0:Int)(x1:List (Int×Int)):Int:=bif !okPl x1 then(1:Int)else bif !aT x0 (0:Int) (100000:Int)then(2:Int)else(0:Int)
def Wb(x1:List (Int×Int)):Bool:=allT [leN x1.length (9223372036854775807:Nat)]
def abX:List SV→List Entry→Option Out
 | [.one ⟨false,[.ref 0]⟩,.one ⟨false,[.val (.int .i64 x0)]⟩],[.row false 173 (.pair (.int .i64) (.int .i64)) x1]=>some ⟨.one ⟨false,[.val (.int .i64 (Wa x0 x1))]⟩,[.row false 173 acH x1],[],[Wb x1]⟩
 |_,_=>none
def Vt:PF prog:=PF.ofG prog [fI,xR,PF.lend xR,PF.fz xR] [] aM 228 f228 func228 (fun c _=>LOk.nil c) abX (by
 intro vs es r h;unfold abX at h;split at h
 ·cases h;kernel_rfl
 ·cases h)
abbrev nB:=Int×Int×List (Int×Int)×List Int
section
variable (y0 y1:Int)(y2:List (Int×Int))(y3:List Int)
def Ae:Int×Int:=Option.getD y2[Int.toNat y0]? ((0:Int),(0:Int))
def vJ:Bool:=leI (IntKind.wrap .i64 ((Ae y0 y2).2 + (Ae y0 y2).1)) y1
def xt:Bool:=ltI y0 (↑y2.length:Int)
def Cj:Bool:=leI (0:Int) y0
def Ck:Bool:=ltN y0.toNat y2.length
def Hm:Bool:= !vJ y0 y1 y2||leN (List.length y3 + List.length [y0]) (9223372036854775807:Nat)
def Hn:Bool:= !vJ y0 y1 y2||leN ((List.length y3 + List.length [y0]) * (8:Nat)) (140737488355328:Nat)
def Ho:Bool:=vJ y0 y1 y2
def Cl:Int:=IntKind.wrap .i64 (y0 + (1:Int))
def Hq:List Int:=y3++ [y0]
end
def af7:nB→List (Nat×SV)
 |(y0,y1,_,_)=> [(6,(.one ⟨false,[.val (.int .i64 y0)]⟩)),(0,(.one ⟨false,[.ref 0]⟩)),(1,(.one ⟨false,[.val (.int .i64 y1)]⟩)),(5,(.one ⟨false,[.ref 1]⟩))]
def afY:nB→List (Nat×Entry)
 |(_,_,y2,y3)=> [(0,(.row false 173 acH y2)),(1,(.row true 2 aiQ y3))]
def agq:Nat→nB→List (Nat×SV)
 |_,(_,_,_,_)=> [(5,(.one ⟨false,[.ref 1]⟩))]
def agh:Nat→nB→List (Nat×Entry)
 |_,(_,_,y2,y3)=> [(0,(.row false 173 acH y2)),(1,(.row true 2 aiQ y3))]
def Es:nB→LT nB
 |(y0,y1,y2,y3)=> .ite (xt y0 y2) (.need [Cj y0,xt y0 y2,Ck y0 y2,Cj y0,xt y0 y2,Ck y0 y2] (.need [Hm y0 y1 y2 y3,Hn y0 y1 y2 y3] (.ite (Ho y0 y1 y2) (.nrm ((Cl y0),y1,y2,(Hq y0 y3)) [(0,0),(1,1344)]) (.nrm ((Cl y0),y1,y2,y3) [(0,0),(1,1)])))) (.ext 0 [(0,0),(1,1)])
def Qg(s:St):Option nB:=
 (match s.look 6 with
 |some ⟨none,.one ⟨false,[.val (.int .i64 y0)]⟩⟩=>
 (match s.look 0 with
 |some ⟨none,.one ⟨false,[.ref 0]⟩⟩=>
 (match s.look 1 with
 |some ⟨none,.one ⟨false,[.val (.int .i64 y1)]⟩⟩=>
 (match s.look 5 with
 |some ⟨none,.one ⟨false,[.ref 192]⟩⟩=>
 (match s.ent 0 with
 |some (.row false 173 (.pair (.int .i64) (.int .i64)) y2)=>
 (match s.ent 192 with
 |some (.row true 2 (.int .i64) y3)=>
 some (y0,y1,y2,y3)
 |_=>none)
 |_=>none)
 |_=>none)
 |_=>none)
 |_=>none)
 |_=>none)
def ic:Lp nB where
 h:=⟨[8,9,10,11,14,15,16,17,18,19,20,21,22,23,24,25,26,27,28,29,30,5,12,13,6],[0],[1],[]⟩
 JL:=af7
 JE:=afY
 XL:=agq
 XE:=agh
 q:=fun j=>match j with | _=> .exit 0
 tags:= [0]
 lt:=Es
 fuel:=fun(y0,y1,y2,y3)=>y0.natAbs + y1.natAbs + y2.length + y3.length
 fix:=fun(_,y1,y2,_) (y0,_,_,y3)=>(y0,y1,y2,y3)
 σ:= [(0,0),(1,192)]
 rd:=Qg
theorem ad8:LoopOk prog (fun k=>Nat.blt k Tryz.f229.ntmps) ic.F (aL f229 0):=by
 refine Lp.ok (tbl:= []) (lf:= []) aM ic (by kernel_rfl) (LOk.nil _) (fun _=>rfl) (fun _ _=>rfl) ?_ ?_ ?_ ?_ (fun _=>rfl) ?_
 ·rintro⟨y0,y1,y2,y3⟩;kernel_rfl
 ·rintro⟨y0,y1,y2,y3⟩;kernel_rfl
 ·intro s x h
  have h:Qg s=some x:=h
  unfold Qg at h
  repeat' split at h
  all_goals cases h
  exact⟨aa (by assumption) rfl (aa (by assumption) rfl (aa (by assumption) rfl (aa (by assumption) rfl (rfl)))),ab rfl (by assumption) rfl (ab rfl (by assumption) rfl (rfl))⟩
 ·rintro⟨y0,y1,y2,y3⟩;kernel_rfl
 ·rintro⟨y0,y1,y2,y3⟩ z;exact(And.intro (And.intro rfl rfl) trivial)
section
variable (x0:Int)(x1:List (Int×Int))
def QK:Int×Int×List (Int×Int)×List Int:=((0:Int),x0,x1,[])
def Sw:List Int:=(Lp.res ic (QK x0 x1)).2.2.2.2
def Sx:Bool:=allT [Lp.fin ic (QK x0 x1)]
end
def aes:List SV→List Entry→Option Out
 | [.one ⟨false,[.ref 0]⟩,.one ⟨false,[.val (.int .i64 x0)]⟩],[.row false 173 (.pair (.int .i64) (.int .i64)) x1]=>some ⟨.one ⟨false,[.ref 1]⟩,[.row false 173 acH x1],[.row true 2 aiQ (Sw x0 x1)],[Sx x0 x1]⟩
 |_,_=>none
def Yn:PF prog:=PF.ofG prog [] [ic.F] aM 229 f229 func229 (LOk.fnT (l:= [aL f229 0]) (by kernel_rfl) (.cons ad8 (.nil _))) aes (by
 intro vs es r h;unfold aes at h;split at h
 ·cases h;kernel_rfl
 ·cases h)
section
variable (x0:Int)(x1 x2:List (Int×Int))
def Ox:Bool:=Wa x0 x1==(0:Int)
def IQ:Bool:=bif bif Ox x0 x1 then okLk x2 else false then(↑x2.length:Int)==(0:Int)else false
def Qs:Bool:=bif IQ x0 x1 x2 then(↑(List.length (bif IQ x0 x1 x2&&true then Sw x0 x1 else [])):Int)==(0:Int)else false
def Qt:Bool:=allT [Wb x1,!(Ox x0 x1&&true)||leN x2.length (9223372036854775807:Nat),!(IQ x0 x1 x2&&true)||Sx x0 x1]
end
def WJ:List SV→List Entry→Option Out
 | [.one ⟨false,[.ref 0]⟩,.one ⟨false,[.ref 1]⟩,.one ⟨false,[.val (.int .i64 x0)]⟩],[.row false 173 (.pair (.int .i64) (.int .i64)) x1,.row false 176 (.pair (.int .i64) (.int .i64)) x2]=>some ⟨.one ⟨false,[.val (.bool (Qs x0 x1 x2))]⟩,[.row false 173 acH x1,.row false 176 acH x2],[],[Qt x0 x1 x2]⟩
 |_,_=>none
def agZ:PF prog:=PF.ofG prog [Vt,PF.lend Vt,PF.fz Vt,Yn,PF.lend Yn,PF.fz Yn,sV,PF.lend sV,PF.fz sV] [] aM 181 f181 func181 (fun c _=>LOk.nil c) WJ (by
 intro vs es r h;unfold WJ at h;split at h
 ·cases h;kernel_rfl
 ·cases h)
def aaL(x0:Int):Int:=Option.getD [(2:Int),(3:Int),(2:Int),(4:Int),(2:Int),(5:Int),(4:Int),(1:Int),(2:Int),(0:Int)][Int.toNat x0]? (0:Int)
def aaM(x0:Int):Bool:=allT [leI (0:Int) x0,ltI x0 (↑(List.length [(2:Int),(3:Int),(2:Int),(4:Int),(2:Int),(5:Int),(4:Int),(1:Int),(2:Int),(0:Int)]):Int),ltN x0.toNat (List.length [(2:Int),(3:Int),(2:Int),(4:Int),(2:Int),(5:Int),(4:Int),(1:Int),(2:Int),(0:Int)])]
def afS:List SV→List Entry→Option Out
 | [.one ⟨false,[.val (.int .i64 x0)]⟩],[]=>some ⟨.one ⟨false,[.val (.int .i64 (aaL x0))]⟩,[],[],[aaM x0]⟩
 |_,_=>none
def al4:PF prog:=PF.ofG prog [] [] aM 230 f230 func230 (fun c _=>LOk.nil c) afS (by
 intro vs es r h;unfold afS at h;split at h
 ·cases h;kernel_rfl
 ·cases h)
section
variable (x0 x1 x2:Int)(x3:Bool)
def TC:Bool:=Ky x0 x1 x2 x3==(0:Int)
def VX:Int:=bif TC x0 x1 x2 x3 then aaL x1 else x0
def VY:Bool:=allT [Kz x0 x1,!TC x0 x1 x2 x3||aaM x1]
end
def abV:List SV→List Entry→Option Out
 | [.one ⟨false,[.val (.int .i64 x0)]⟩,.one ⟨true,[.val (.int .i64 x1),.val (.int .i64 x2),.val (.bool x3)]⟩],[]=>some ⟨.one ⟨false,[.val (.int .i64 (VX x0 x1 x2 x3))]⟩,[],[],[VY x0 x1 x2 x3]⟩
 |_,_=>none
def akb:PF prog:=PF.ofG prog [WY,al4] [] aM 182 f182 func182 (fun c _=>LOk.nil c) abV (by
 intro vs es r h;unfold abV at h;split at h
 ·cases h;kernel_rfl
 ·cases h)
def Iq(x0 x1 x2:Int):Bool:=bif bif x1==(0:Int)then x1==(0:Int)else x1==(1:Int)then bm x2 (0:Int) (IntKind.wrap .i64 (x0 - (1:Int)))else bif bif x1==(2:Int)then x1==(2:Int)else x1==(3:Int)then x2==(0:Int)else false
def Ps:List SV→List Entry→Option Out
 | [.one ⟨false,[.val (.int .i64 x0)]⟩,.one ⟨true,[.val (.int .i64 x1),.val (.int .i64 x2)]⟩],[]=>some ⟨.one ⟨false,[.val (.bool (Iq x0 x1 x2))]⟩,[],[],[]⟩
 |_,_=>none
def aaH:PF prog:=PF.ofG prog [gO] [] aM 184 f184 func184 (fun c _=>LOk.nil c) Ps (by
 intro vs es r h;unfold Ps at h;split at h
 ·cases h;kernel_rfl
 ·cases h)
def Yd(x0:Int):Bool:=bm x0 (0:Int) (3:Int)
def aek:List SV→List Entry→Option Out
 | [.one ⟨false,[.val (.int .i64 x0)]⟩],[]=>some ⟨.one ⟨false,[.val (.bool (Yd x0))]⟩,[],[],[]⟩
 |_,_=>none
def akM:PF prog:=PF.ofG prog [gO] [] aM 231 f231 func231 (fun c _=>LOk.nil c) aek (by
 intro vs es r h;unfold aek at h;split at h
 ·cases h;kernel_rfl
 ·cases h)
def RP(x0 x1:Int):Bool:=bif bm x0 (0:Int) (9:Int)then Yd x1 else false
def YC:List SV→List Entry→Option Out
 | [.one ⟨true,[.val (.int .i64 x0),.val (.int .i64 x1),.val (.bool _x2)]⟩],[]=>some ⟨.one ⟨false,[.val (.bool (RP x0 x1))]⟩,[],[],[]⟩
 |_,_=>none
def ahU:PF prog:=PF.ofG prog [akM,gO] [] aM 185 f185 func185 (fun c _=>LOk.nil c) YC (by
 intro vs es r h;unfold YC at h;split at h
 ·cases h;kernel_rfl
 ·cases h)
def agy(k r:Int):Bool:=inR k 0 9&&inR r 0 3
def amz(k:Int):List Int:=LG k
def vdC(m k r:Int)(ez:Bool):Int:=bif !(amz k).any (· ==m)then 1 else bif ltI r (NP k)then 2 else bif bif Sv k then !ez else false then 3 else 0
def toC(k:Int):Int:=aaL k
def nxC(m k r:Int)(ez:Bool):Int:=bif vdC m k r ez==0 then toC k else m
def abH(m k:Int):Bool:=inR k 0 9&&inR m 0 5
theorem aoh(k r:Int):Si k r=agy k r:=by
 simp only [Si,VZ,aT,wq,agy]
 cases inR k 0 9 <;> rfl
theorem anR(k r:Int):RP k r=agy k r:=by
 simp only [RP,Yd,bm,wq,agy]
 cases inR k 0 9 <;> rfl
def Gy(y1 b:Int):(Unit)→Nat ⊕ (Unit)
 |_=>(bif(b==y1)then(.inl 0)else(.inr ()))
def vM(y1:Int)(y2:List Int)(i:Nat):(Unit)→nz
 |_=>((i:Int),y1,y2)
def PV:nz→Unit
 |(_,_,_)=>()
theorem aid(y1:Int)(y2:List Int) (hn:y2.length≤9223372036854775807):
  gh.fin ((0:Int),y1,y2)=true∧gh.res ((0:Int),y1,y2)=((aO (Gy y1) 1 y2 0 ()).1,(vM y1 y2) (aO (Gy y1) 1 y2 0 ()).2.1 (aO (Gy y1) 1 y2 0 ()).2.2):=by
 have ez:=gh.along (vM y1 y2) PV (Gy y1) 1 (fun _ _=>True) y2 () (by trivial) (by simp only [gh,vM];omega) (fun i b a hb hI=> ?_) (fun a hI=> ?_)
 ·exact ez
 ·obtain⟨⟩:=a
  have dZ:=(List.getElem?_eq_some_iff.1 hb).1
  have gQ: ∀ d,Option.getD y2[i]? d=b:=fun d=>by rw [hb];rfl
  have hw:=tw dZ hn
  have cR:ltI (i:Int) (y2.length:Int)=true:=fj (by omega)
  have ta:leI (0:Int) (i:Int)=true:=da (by omega)
  have fB:ltN i y2.length=true:=gp dZ
  refine⟨?_,?_,?_,?_⟩
  ·simp [BX,Hb,Hc,Hd,He,Eq,gh,LT.nds,allT,vM,cR,ta,fB,gQ]
  ·simp [BX,Hb,Hc,Hd,He,Eq,gh,LT.each,vM,PV,hw]
  ·simp only [BX,Hb,Hc,Hd,He,Eq,gh,LT.fn,vM,PV,Gy,Int.toNat_natCast,cR,ta,fB,gQ,cond_true,Bool.cond_self]
  ·exact fun _ _=>trivial
 ·obtain⟨⟩:=a
  simp [BX,Hb,Hc,Hd,He,Eq,gh,LT.out,vM]
theorem aqX(x:Int)(l:List Int)(h:l.length≤9223372036854775807):Ss x l=l.any (· ==x)∧Su x l=true:=by
 obtain⟨w1,w2⟩:=aid x l h
 rw [ru (P:=fun v=>v==x) (j:=0) (fun v=>rfl)]at w2
 simp only [Ss,Su,VL,w1,w2,allT]
 cases l.any (· ==x) <;> exact⟨rfl,rfl⟩
theorem amf{m k:Int}(h:abH m k=true): ∃ (a:Fin 10) (b:Fin 6),k=(a.val:Int)∧m=(b.val:Int):=by
 simp only [abH,Bool.and_eq_true,sf]at h
 exact⟨⟨k.toNat,by omega⟩,⟨m.toNat,by omega⟩,by simp;omega,by simp;omega⟩
theorem apG: ∀ a:Fin 10,(amz (a.val:Int)).length≤5:=by decide
theorem alu(m k r:Int)(ez:Bool)(h:abH m k=true):Ky m k r ez=vdC m k r ez∧Kz m k=true:=by
 obtain⟨a,b,rfl,rfl⟩:=amf h
 have hl:=apG a
 obtain⟨h1,h2⟩:=aqX (b.val:Int) (amz (a.val:Int)) (by omega)
 have e:LG (a.val:Int)=amz (a.val:Int):=rfl
 simp only [Ky,Kz,e,h1,h2,vdC,allT,cond_true,and_self]
theorem ap4: ∀ (a:Fin 10) (b:Fin 6),(IntKind.i64.wrap (↑(BitVec.toNat (BitVec.ofInt (IntKind.bits IntKind.i64) (Int.fdiv ((Option.getD aib[Int.toNat (a.val:Int)]? ((0:Int),(0:Int),(0:Int),false)).1) ((2:Int) ^ min (Int.toNat (b.val:Int)) (IntKind.bits IntKind.i64)))&&& BitVec.ofInt (IntKind.bits IntKind.i64) (1:Int))):Int)==(0:Int))= !(amz (a.val:Int)).any (· ==(b.val:Int)):=by decide
theorem anl: ∀ a:Fin 10,(Option.getD aib[Int.toNat (a.val:Int)]? ((0:Int),(0:Int),(0:Int),false)).2=(toC (a.val:Int),NP (a.val:Int),Sv (a.val:Int)):=by decide
theorem aos: ∀ a:Fin 10,ltI (a.val:Int) (aib.length:Int)=true∧ltN (Int.toNat (a.val:Int)) aib.length=true∧aaM (a.val:Int)=true:=by decide
theorem alb(m k r:Int)(ez:Bool)(h:abH m k=true):iJ k r ez m=vdC m k r ez∧iK k m=true:=by
 obtain⟨a,b,rfl,rfl⟩:=amf h
 obtain⟨n1,n2,_⟩:=aos a
 have n0:leI 0 (a.val:Int)=true:=da (by omega)
 have n3:leI 0 (b.val:Int)=true:=da (by omega)
 simp only [iJ,iK,mn,mo,ap4,anl,n0,n1,n2,n3,vdC,allT,cond_true,and_self]
theorem apj(m k r:Int)(ez:Bool)(h:abH m k=true):VX m k r ez=nxC m k r ez∧VY m k r ez=true:=by
 obtain⟨h1,h2⟩:=alu m k r ez h
 obtain⟨a,b,rfl,rfl⟩:=amf h
 simp only [VX,VY,TC,h1,h2,(aos a).2.2,nxC,toC,allT,Bool.or_true,cond_true,and_self]
theorem ao2(m k r:Int)(ez:Bool)(h:abH m k=true):oV k r ez m=nxC m k r ez∧oW k r ez m=true:=by
 obtain⟨h1,h2⟩:=alb m k r ez h
 obtain⟨a,b,rfl,rfl⟩:=amf h
 obtain⟨n1,n2,_⟩:=aos a
 have n0:leI 0 (a.val:Int)=true:=da (by omega)
 simp only [oV,oW,fJ,h1,h2,n0,n1,n2,anl,nxC,allT,Bool.or_true,cond_true,and_self]
def Za:List SV→List Entry→Option Out
 | [.one ⟨true,[.val (.int .i64 x0),.val (.int .i64 x1),.val (.bool _x2)]⟩],[]=>some ⟨.one ⟨false,[.val (.bool (agy x0 x1))]⟩,[],[],[]⟩
 |_,_=>none
def ahO:PF prog:=PF.alt ahZ Za (by
 intro args es o h bK;unfold Za at h;split at h
 ·rename_i x0 x1 _x2
  cases h
  have hh:=aoh x0 x1
  have e0:=hh
  exact kU rfl (fun _ h=>by cases h) (by simp only [e0] <;> rfl) rfl rfl
 ·cases h)
def YV:List SV→List Entry→Option Out
 | [.one ⟨true,[.val (.int .i64 x0),.val (.int .i64 x1),.val (.bool _x2)]⟩],[]=>some ⟨.one ⟨false,[.val (.bool (agy x0 x1))]⟩,[],[],[]⟩
 |_,_=>none
def ahN:PF prog:=PF.alt ahU YV (by
 intro args es o h bK;unfold YV at h;split at h
 ·rename_i x0 x1 _x2
  cases h
  have hh:=anR x0 x1
  have e0:=hh
  exact kU rfl (fun _ h=>by cases h) (by simp only [e0] <;> rfl) rfl rfl
 ·cases h)
def WR:List SV→List Entry→Option Out
 | [.one ⟨false,[.val (.int .i64 x0)]⟩,.one ⟨true,[.val (.int .i64 x1),.val (.int .i64 x2),.val (.bool x3)]⟩],[]=>some ⟨.one ⟨false,[.val (.int .i64 (vdC x0 x1 x2 x3))]⟩,[],[],[abH x0 x1]⟩
 |_,_=>none
def agR:PF prog:=PF.alt WY WR (by
 intro args es o h bK;unfold WR at h;split at h
 ·rename_i x0 x1 x2 x3
  cases h
  have bK:=iu bK
  have hh:=alu x0 x1 x2 x3 bK
  obtain⟨e0,en⟩:=hh
  exact kU rfl (gZ en) (by simp only [e0] <;> rfl) rfl rfl
 ·cases h)
def acm:List SV→List Entry→Option Out
 | [.one ⟨false,[.val (.int .i64 x0)]⟩,.one ⟨true,[.val (.int .i64 x1),.val (.int .i64 x2),.val (.bool x3)]⟩],[]=>some ⟨.one ⟨false,[.val (.int .i64 (nxC x0 x1 x2 x3))]⟩,[],[],[abH x0 x1]⟩
 |_,_=>none
def ajV:PF prog:=PF.alt akb acm (by
 intro args es o h bK;unfold acm at h;split at h
 ·rename_i x0 x1 x2 x3
  cases h
  have bK:=iu bK
  have hh:=apj x0 x1 x2 x3 bK
  obtain⟨e0,en⟩:=hh
  exact kU rfl (gZ en) (by simp only [e0] <;> rfl) rfl rfl
 ·cases h)
def uJ:List SV→List Entry→Option Out
 | [.one ⟨true,[.val (.int .i64 x0),.val (.int .i64 x1),.val (.bool x2)]⟩,.one ⟨false,[.val (.int .i64 x3)]⟩],[]=>some ⟨.one ⟨false,[.val (.int .i64 (vdC x3 x0 x1 x2))]⟩,[],[],[abH x3 x0]⟩
 |_,_=>none
def IB:PF prog:=PF.alt vc uJ (by
 intro args es o h bK;unfold uJ at h;split at h
 ·rename_i x0 x1 x2 x3
  cases h
  have bK:=iu bK
  have hh:=alb x3 x0 x1 x2 bK
  obtain⟨e0,en⟩:=hh
  exact kU rfl (gZ en) (by simp only [e0] <;> rfl) rfl rfl
 ·cases h)
def xG:List SV→List Entry→Option Out
 | [.one ⟨true,[.val (.int .i64 x0),.val (.int .i64 x1),.val (.bool x2)]⟩,.one ⟨false,[.val (.int .i64 x3)]⟩],[]=>some ⟨.one ⟨false,[.val (.int .i64 (nxC x3 x0 x1 x2))]⟩,[],[],[abH x3 x0]⟩
 |_,_=>none
def KL:PF prog:=PF.alt KN xG (by
 intro args es o h bK;unfold xG at h;split at h
 ·rename_i x0 x1 x2 x3
  cases h
  have bK:=iu bK
  have hh:=ao2 x3 x0 x1 x2 bK
  obtain⟨e0,en⟩:=hh
  exact kU rfl (gZ en) (by simp only [e0] <;> rfl) rfl rfl
 ·cases h)
def apz(pl:List (Int×Int))(day:Int)(b:Nat):Bool:=leI (IntKind.i64.wrap ((pl[b]?.getD ((0:Int),(0:Int))).2 + (pl[b]?.getD ((0:Int),(0:Int))).1)) day
def apA(pl:List (Int×Int))(day:Int):List Int:=((List.range pl.length).filter (apz pl day)).map fun b:Nat=>(b:Int)
def ahJ(pl ls:List (Int×Int))(day:Int):Bool:=okPl pl&&(okLk ls&&(inR day 0 100000&&((apA pl day).length==0&&ls.length==0)))
theorem acD(P:Nat→Bool): ∀ (r:List Nat) (a:List Int),r.foldl (fun a b=>bif P b then a++ [(b:Int)]else a) a=a++(r.filter P).map fun b:Nat=>(b:Int)
 | [],a=>by simp
 |b::r,a=>by
  rw [List.foldl_cons,acD P r]
  cases h:P b <;> simp [List.filter_cons,h]
theorem ajY{pl:List (Int×Int)}(h:okPl pl=true):pl.length≤12:=by
 simp only [okPl,Bool.and_eq_true,fH]at h;exact h.1
def tC(y1:Int)(y2:List (Int×Int))(b:Nat):(List Int)→Nat ⊕ (List Int)
 |y3=>(bif(leI (IntKind.wrap .i64 ((Option.getD y2[b]? ((0:Int),(0:Int))).2 + (Option.getD y2[b]? ((0:Int),(0:Int))).1)) y1)then(.inr (y3++ [(↑b:Int)]))else(.inr y3))
def sn(y1:Int)(y2:List (Int×Int))(i:Nat):(List Int)→nB
 |y3=>((i:Int),y1,y2,y3)
def PX:nB→List Int
 |(_,_,_,y3)=>y3
theorem aif(y1:Int)(y2:List (Int×Int))(y3:List Int)(hn:y2.length≤9223372036854775807)(h12:y2.length≤12)(h3:y3= []):
  ic.fin ((0:Int),y1,y2,y3)=true∧ic.res ((0:Int),y1,y2,y3)=((aO (tC y1 y2) 0 (List.range y2.length) 0 y3).1,(sn y1 y2) (aO (tC y1 y2) 0 (List.range y2.length) 0 y3).2.1 (aO (tC y1 y2) 0 (List.range y2.length) 0 y3).2.2):=by
 have ez:=ic.along (sn y1 y2) PX (tC y1 y2) 0 (fun i a=>a.length≤i) (List.range y2.length) y3 (by subst h3;simp) (by simp only [ic,sn,List.length_range];omega) (fun i b a hb hI=> ?_) (fun a hI=> ?_)
 ·exact ez
 ·obtain y3:=a
  obtain⟨rfl,dZ⟩:=BV hb
  have hw:IntKind.i64.wrap ((b:Int) + 1)=((b + 1:Nat):Int):=by rw [ag (by omega) (by omega)];omega
  have cR:ltI (b:Int) (y2.length:Int)=true:=fj (by omega)
  have ta:leI (0:Int) (b:Int)=true:=da (by omega)
  have fB:ltN b y2.length=true:=gp (by omega)
  refine⟨?_,?_,?_,?_⟩
  ·have h6:leN (a.length + 1) 9223372036854775807=true:=br (by omega)
   have h7:leN ((a.length + 1) * 8) 140737488355328=true:=br (by omega)
   simp [Ae,vJ,xt,Cj,Ck,Hm,Hn,Ho,Cl,Hq,Es,ic,LT.nds,allT,sn,cR,ta,fB,h6,h7]
  ·simp [Ae,vJ,xt,Cj,Ck,Hm,Hn,Ho,Cl,Hq,Es,ic,LT.each,sn,PX,hw]
  ·simp only [Ae,vJ,xt,Cj,Ck,Hm,Hn,Ho,Cl,Hq,Es,ic,LT.fn,sn,PX,tC,Int.toNat_natCast,cR,ta,fB,cond_true,Bool.cond_self]
  ·intro a' hf
   simp only [tC]at hf
   revert hf
   cases leI (IntKind.wrap .i64 ((Option.getD y2[b]? ((0:Int),(0:Int))).2 + (Option.getD y2[b]? ((0:Int),(0:Int))).1)) y1 <;> intro hf <;> (simp only [cond_true,cond_false,Sum.inr.injEq]at hf;subst hf;(try simp only [List.length_append,List.length_singleton]);omega)
 ·obtain y3:=a
  simp [Ae,vJ,xt,Cj,Ck,Hm,Hn,Ho,Cl,Hq,Es,ic,LT.out,sn,List.length_range]
def pL(y2:Int)(y3:List (Int×Int))(b:Nat):(List Int)→Nat ⊕ (List Int)
 |y4=>(bif(leI (iY ((Option.getD y3[b]? ((0:Int),(0:Int))).1) ((Option.getD y3[b]? ((0:Int),(0:Int))).2)) y2)then(.inr (y4++ [(↑b:Int)]))else(.inr y4))
def nV(y2:Int)(y3:List (Int×Int))(i:Nat):(List Int)→ku
 |y4=>((i:Int),(↑y3.length:Int),y2,y3,y4)
def MA:ku→List Int
 |(_,_,_,_,y4)=>y4
theorem afL(y2:Int)(y3:List (Int×Int))(y4:List Int)(hn:y3.length≤9223372036854775807)(h12:y3.length≤12)(h3:y4= []):
  fb.fin ((0:Int),(↑y3.length:Int),y2,y3,y4)=true∧fb.res ((0:Int),(↑y3.length:Int),y2,y3,y4)=((aO (pL y2 y3) 0 (List.range y3.length) 0 y4).1,(nV y2 y3) (aO (pL y2 y3) 0 (List.range y3.length) 0 y4).2.1 (aO (pL y2 y3) 0 (List.range y3.length) 0 y4).2.2):=by
 have ez:=fb.along (nV y2 y3) MA (pL y2 y3) 0 (fun i a=>a.length≤i) (List.range y3.length) y4 (by subst h3;simp) (by simp only [fb,nV,List.length_range];omega) (fun i b a hb hI=> ?_) (fun a hI=> ?_)
 ·exact ez
 ·obtain y4:=a
  obtain⟨rfl,dZ⟩:=BV hb
  have hw:IntKind.i64.wrap ((b:Int) + 1)=((b + 1:Nat):Int):=by rw [ag (by omega) (by omega)];omega
  have cR:ltI (b:Int) (y3.length:Int)=true:=fj (by omega)
  have ta:leI (0:Int) (b:Int)=true:=da (by omega)
  have fB:ltN b y3.length=true:=gp (by omega)
  refine⟨?_,?_,?_,?_⟩
  ·have h6:leN (a.length + 1) 9223372036854775807=true:=br (by omega)
   have h7:leN ((a.length + 1) * 8) 140737488355328=true:=br (by omega)
   simp [vP,rH,Cu,Cv,Cw,Cx,Cy,Cz,CA,wU,CB,AG,fb,LT.nds,allT,nV,cR,ta,fB,h6,h7]
  ·simp [vP,rH,Cu,Cv,Cw,Cx,Cy,Cz,CA,wU,CB,AG,fb,LT.each,nV,MA,hw]
  ·simp only [vP,rH,Cu,Cv,Cw,Cx,Cy,Cz,CA,wU,CB,AG,fb,LT.fn,nV,MA,pL,Int.toNat_natCast,cR,ta,fB,cond_true,Bool.cond_self]
  ·intro a' hf
   simp only [pL,iY]at hf
   revert hf
   cases leI (IntKind.wrap .i64 ((Option.getD y3[b]? ((0:Int),(0:Int))).2 + (Option.getD y3[b]? ((0:Int),(0:Int))).1)) y2 <;> intro hf <;> (simp only [cond_true,cond_false,Sum.inr.injEq]at hf;subst hf;(try simp only [List.length_append,List.length_singleton]);omega)
 ·obtain y4:=a
  simp [vP,rH,Cu,Cv,Cw,Cx,Cy,Cz,CA,wU,CB,AG,fb,LT.out,nV,List.length_range]
theorem aoi(day:Int)(pl:List (Int×Int))(h:pl.length≤12):Sw day pl=apA pl day∧Sx day pl=true:=by
 obtain⟨w1,w2⟩:=aif day pl [] (by omega) h rfl
 rw [kt (f:=tC day pl) (g:=fun a b=>bif apz pl day b then a++ [(b:Int)]else a) (fun b a=>by simp only [tC,apz];cases leI _ day <;> rfl),acD]at w2
 exact⟨by simp only [Sw,QK,w2,sn,List.nil_append,apA],by simp only [Sx,QK,w1,allT,cond_true]⟩
theorem anT(day:Int)(pl:List (Int×Int))(h:pl.length≤12):NC day pl=apA pl day∧ND day pl=true:=by
 obtain⟨w1,w2⟩:=afL day pl [] (by omega) h rfl
 rw [kt (f:=pL day pl) (g:=fun a b=>bif apz pl day b then a++ [(b:Int)]else a) (fun b a=>by simp only [pL,iY,apz];cases leI _ day <;> rfl),acD]at w2
 exact⟨by simp only [NC,Mm,w2,nV,List.nil_append,apA],by simp only [ND,Mm,w1,allT,cond_true]⟩
theorem arj(n:Nat):((n:Int)==0)=(n==0):=by cases n <;> rfl
theorem aok(day:Int)(pl ls:List (Int×Int))(h:(leN pl.length 9223372036854775807&&leN ls.length 9223372036854775807)=true):Qs day pl ls=ahJ pl ls day∧Qt day pl ls=true:=by
 simp only [Bool.and_eq_true]at h
 simp only [Qs,Qt,Ox,IQ,Wa,Wb,aT,wq,h.1,h.2,arj,ahJ,allT]
 cases hp:okPl pl with
 |false=>simp
 |true=>
  obtain⟨e1,e2⟩:=aoi day pl (ajY hp)
  rw [e1,e2]
  cases hi:inR day 0 100000 <;> cases okLk ls <;> cases ls.length==0 <;> simp
theorem anW(day:Int)(pl ls:List (Int×Int))(h:(leN pl.length 9223372036854775807&&leN ls.length 9223372036854775807)=true):PC day pl ls=ahJ pl ls day∧PD day pl ls=true:=by
 simp only [Bool.and_eq_true]at h
 have e:xM day=inR day 0 100000:=by simp only [xM,bm,wq]
 simp only [PC,PD,NW,e,h.1,h.2,arj,ahJ,allT]
 cases hp:okPl pl with
 |false=>simp
 |true=>
  obtain⟨e1,e2⟩:=anT day pl (ajY hp)
  rw [e1,e2]
  cases hi:inR day 0 100000 <;> cases okLk ls <;> cases ls.length==0 <;> simp
def WP:List SV→List Entry→Option Out
 | [.one ⟨false,[.ref 0]⟩,.one ⟨false,[.ref 1]⟩,.one ⟨false,[.val (.int .i64 x0)]⟩],[.row false 173 (.pair (.int .i64) (.int .i64)) x1,.row false 176 (.pair (.int .i64) (.int .i64)) x2]=>some ⟨.one ⟨false,[.val (.bool (ahJ x1 x2 x0))]⟩,[.row false 173 acH x1,.row false 176 acH x2],[],[leN x1.length 9223372036854775807&&leN x2.length 9223372036854775807]⟩
 |_,_=>none
def PK:PF prog:=PF.alt agZ WP (by
 intro args es o h bK;unfold WP at h;split at h
 ·rename_i x0 x1 x2
  cases h
  have bK:=iu bK
  have hh:=aok x0 x1 x2 bK
  obtain⟨e0,en⟩:=hh
  exact kU rfl (gZ en) (by simp only [e0] <;> rfl) rfl rfl
 ·cases h)
def WO:List SV→List Entry→Option Out
 | [.one ⟨false,[.ref 0]⟩,.one ⟨false,[.ref 1]⟩,.one ⟨false,[.val (.int .i64 x0)]⟩],[.row false 173 (.pair (.int .i64) (.int .i64)) x1,.row false 176 (.pair (.int .i64) (.int .i64)) x2]=>some ⟨.one ⟨false,[.val (.bool (ahJ x1 x2 x0))]⟩,[.row false 173 acH x1,.row false 176 acH x2],[],[leN x1.length 9223372036854775807&&leN x2.length 9223372036854775807]⟩
 |_,_=>none
def PJ:PF prog:=PF.alt agY WO (by
 intro args es o h bK;unfold WO at h;split at h
 ·rename_i x0 x1 x2
  cases h
  have bK:=iu bK
  have hh:=anW x0 x1 x2 bK
  obtain⟨e0,en⟩:=hh
  exact kU rfl (gZ en) (by simp only [e0] <;> rfl) rfl rfl
 ·cases h)
theorem aoI{n:Int}{fs:List (Int×Int×Int)}(h:lfOk n fs=true):fs.length≤8∧ ∀ f∈fs,(0≤f.1∧f.1 < n)∧(f.2.1=0∨f.2.1=1)∧(f.2.2=0∨f.2.2=1):=by
 simp only [lfOk,okFs,Bool.and_eq_true,fH,List.all_eq_true,List.mem_range,sf]at h
 refine⟨h.2.1,fun f hf=> ?_⟩
 obtain⟨b,hb,rfl⟩:=List.getElem_of_mem hf
 have h3:=h.2.2 b hb
 simp only [Bool.not_eq_true',Bool.or_eq_false_iff,afs,fAt,List.getElem?_eq_getElem hb,Option.getD_some,Bool.not_eq_false']at h3
 have h4:=h3.1
 simp only [fIn,Bool.and_eq_true,sf]at h4
 rw [ag (by omega) (by omega)]at h4
 omega
def lkB(st:List Int):List Int:=st.map fun v=>bif v==2 then 1 else 0
def lkC(st:List Int)(lf:List (Int×Int×Int))(ch:Int):List Int:=lf.foldl (afJ ch) (lkB st)
def Yq(st:List Int)(lf:List (Int×Int×Int)):Bool:= !(lkC st lf 0).any (· ==0)&& !(lkC st lf 1).any (· ==0)
def ag3(st:List Int)(lf:List (Int×Int×Int)):Bool:=areR st&&lfOk (st.length:Int) lf
theorem UX(st:List Int):(lkB st).length=st.length:=by simp [lkB]
theorem RZ(st:List Int)(lf:List (Int×Int×Int))(ch:Int):(lkC st lf ch).length=st.length:=by rw [lkC,RL,UX]
theorem apf{ch:Int}{l:List Int}{f:Int×Int×Int}(h: ∀ v∈l,v=0∨v=1)(hf:f.2.2=0∨f.2.2=1): ∀ v∈afJ ch l f,v=0∨v=1:=by
 intro v hv
 simp only [afJ]at hv
 cases hc:f.2.1==ch with
 |false=>rw [hc]at hv;exact h v hv
 |true=>
  rw [hc]at hv
  rcases List.mem_or_eq_of_mem_set hv with hv | rfl
  ·exact h v hv
  ·exact hf
theorem ak9{ch:Int}: ∀ (lf:List (Int×Int×Int)) (l:List Int),(∀ v∈l,v=0∨v=1)→(∀ f∈lf,f.2.2=0∨f.2.2=1)→ ∀ v∈lf.foldl (afJ ch) l,v=0∨v=1
 | [],l,h,_=>h
 |f::r,l,h,hf=>by
  rw [List.foldl_cons]
  exact ak9 r _ (apf h (hf f (by simp))) fun g hg=>hf g (by simp [hg])
theorem amS{st:List Int}{lf:List (Int×Int×Int)}{ch:Int}(h:ag3 st lf=true): ∀ v∈lkC st lf ch,v=0∨v=1:=by
 simp only [ag3,Bool.and_eq_true]at h
 refine ak9 lf _ (fun v hv=> ?_) fun f hf=>((aoI h.2).2 f hf).2.2
 obtain⟨x,_,rfl⟩:=List.mem_map.1 hv
 cases x==2 <;> simp
def pQ(b:Int):(List Int)→Nat ⊕ (List Int)
 |y2=>(.inr (y2++([IntKind.wrap .i64 (Int.tdiv b (2:Int))])))
def lm(y1:List Int)(i:Nat):(List Int)→iW
 |y2=>((i:Int),y1,y2)
def Kf:iW→List Int
 |(_,_,y2)=>y2
theorem adm(y1 y2:List Int)(hn:y1.length≤9223372036854775807)(hR:areR y1=true)(h0:y2= []):
  cq.fin ((0:Int),y1,y2)=true∧cq.res ((0:Int),y1,y2)=((aO (pQ) 0 y1 0 y2).1,(lm y1) (aO (pQ) 0 y1 0 y2).2.1 (aO (pQ) 0 y1 0 y2).2.2):=by
 have ez:=cq.along (lm y1) Kf (pQ) 0 (fun i a=>a.length≤i) y1 y2 (by subst h0;simp) (by simp only [cq,lm];omega) (fun i b a hb hI=> ?_) (fun a hI=> ?_)
 ·exact ez
 ·obtain y2:=a
  have dZ:=(List.getElem?_eq_some_iff.1 hb).1
  have gQ: ∀ d,Option.getD y1[i]? d=b:=fun d=>by rw [hb];rfl
  have hw:=tw dZ hn
  have cR:ltI (i:Int) (y1.length:Int)=true:=fj (by omega)
  have ta:leI (0:Int) (i:Int)=true:=da (by omega)
  have fB:ltN i y1.length=true:=gp dZ
  refine⟨?_,?_,?_,?_⟩
  ·have h12:=(Gw.1 hR).1
   have h6:leN (a.length + 1) 9223372036854775807=true:=br (by omega)
   have h7:leN ((a.length + 1) * 8) 140737488355328=true:=br (by omega)
   have h8:neI 2 0=true:=rfl
   simp [oz,tT,zl,zm,zn,zo,zp,zq,zr,wJ,cq,LT.nds,allT,lm,cR,ta,fB,h6,h7,h8]
  ·simp [oz,tT,zl,zm,zn,zo,zp,zq,zr,wJ,cq,LT.each,lm,Kf,hw]
  ·simp only [oz,tT,zl,zm,zn,zo,zp,zq,zr,wJ,cq,LT.fn,lm,Kf,pQ,Int.toNat_natCast,cR,ta,fB,gQ,cond_true,Bool.cond_self]
  ·intro a' hf;simp only [pQ,Sum.inr.injEq]at hf;subst hf;simp;omega
 ·obtain y2:=a
  simp [oz,tT,zl,zm,zn,zo,zp,zq,zr,wJ,cq,LT.out,lm]
def pR(y1:Int)(b:Int×(Int×Int)):(List Int)→Nat ⊕ (List Int)
 |y3=>(.inr (bif(b.2.1==y1)then List.set y3 (Int.toNat b.1) b.2.2else y3))
def ln(y1:Int)(y2:List (Int×(Int×Int)))(i:Nat):(List Int)→iX
 |y3=>((i:Int),y1,y2,y3)
def Kg:iX→List Int
 |(_,_,_,y3)=>y3
theorem adn(y1:Int)(y2:List (Int×(Int×Int)))(y3:List Int)(hn:y2.length≤9223372036854775807)(n:Nat)(h3:y3.length=n)(hf: ∀ f∈y2,0≤f.1∧f.1 < (n:Int)):
  cO.fin ((0:Int),y1,y2,y3)=true∧cO.res ((0:Int),y1,y2,y3)=((aO (pR y1) 0 y2 0 y3).1,(ln y1 y2) (aO (pR y1) 0 y2 0 y3).2.1 (aO (pR y1) 0 y2 0 y3).2.2):=by
 have ez:=cO.along (ln y1 y2) Kg (pR y1) 0 (fun _ a=>a.length=n) y2 y3 h3 (by simp only [cO,ln];omega) (fun i b a hb hI=> ?_) (fun a hI=> ?_)
 ·exact ez
 ·obtain y3:=a
  have dZ:=(List.getElem?_eq_some_iff.1 hb).1
  have gQ: ∀ d,Option.getD y2[i]? d=b:=fun d=>by rw [hb];rfl
  have hw:=tw dZ hn
  have cR:ltI (i:Int) (y2.length:Int)=true:=fj (by omega)
  have ta:leI (0:Int) (i:Int)=true:=da (by omega)
  have fB:ltN i y2.length=true:=gp dZ
  refine⟨?_,?_,?_,?_⟩
  ·have h5:=hf b (List.mem_of_getElem? hb)
   have h6:leI 0 b.1=true:=da h5.1
   have h7:ltI b.1 (a.length:Int)=true:=fj (by omega)
   have h8:ltN b.1.toNat a.length=true:=gp (by omega)
   simp only [ip,gd,tU,zt,zu,tV,tW,tX,zv,zw,zx,zy,wR,wK,cO,LT.nds,allT,ln,Int.toNat_natCast,cR,ta,fB,gQ,h6,h7,h8,Bool.or_true,cond_true]
  ·simp [ip,gd,tU,zt,zu,tV,tW,tX,zv,zw,zx,zy,wR,wK,cO,LT.each,ln,Kg,hw]
  ·simp only [ip,gd,tU,zt,zu,tV,tW,tX,zv,zw,zx,zy,wR,wK,cO,LT.fn,ln,Kg,pR,Int.toNat_natCast,cR,ta,fB,gQ,cond_true,Bool.cond_self]
  ·intro a' hf;simp only [pR,Sum.inr.injEq]at hf;subst hf;cases b.2.1==y1 <;> simpa using hI
 ·obtain y3:=a
  simp [ip,gd,tU,zt,zu,tV,tW,tX,zv,zw,zx,zy,wR,wK,cO,LT.out,ln]
theorem ars{v:Int}(h:0≤v∧v≤2):IntKind.i64.wrap (Int.tdiv v 2)=bif v==2 then 1 else 0:=by
 have h:v=0∨v=1∨v=2:=by omega
 rcases h with rfl | rfl | rfl <;> rfl
theorem agF{B C:Type}{g g':B→C}: ∀ (r:List B) (a:List C),(∀ b∈r,g b=g' b)→r.foldl (fun a b=>a++ [g b]) a=a++r.map g'
 | [],a,_=>by simp
 |b::r,a,h=>by rw [List.foldl_cons,agF r _ fun c hc=>h c (by simp [hc]),h b (by simp)];simp
theorem ahd(ch:Int)(st:List Int)(lf:List (Int×Int×Int))(h:ag3 st lf=true):EF ch st lf=lkC st lf ch∧EG ch st lf=true:=by
 simp only [ag3,Bool.and_eq_true]at h
 have h12:=(Gw.1 h.1).1
 obtain⟨hl,hf⟩:=aoI h.2
 obtain⟨w1,w2⟩:=adm st [] (by omega) h.1 rfl
 rw [kt (f:=pQ) (g:=fun a b=>a++ [IntKind.i64.wrap (Int.tdiv b 2)]) (fun b a=>rfl),agF (g':=fun v=>bif v==2 then 1 else 0) _ _ (fun b hb=>ars ((Gw.1 h.1).2 b hb))]at w2
 have e1:(Lp.res cq (Du st)).2.2.2=lkB st:=by
  simp only [Du,w2,lm,List.nil_append];rfl
 obtain⟨v1,v2⟩:=adn ch lf (lkB st) (by omega) st.length (UX st) (fun f hm=>(hf f hm).1)
 rw [kt (f:=pR ch) (g:=afJ ch) (fun b a=>rfl)]at v2
 refine⟨?_,?_⟩
 ·simp only [EF,Dv,e1,v2,ln];rfl
 ·have v3:Lp.fin cO (Dv ch st lf)=true:=by rw [Dv,e1];exact v1
  have w3:Lp.fin cq (Du st)=true:=w1
  simp only [EG,v3,w3,allT,cond_true]
def BK(b:Int):(Int)→Nat ⊕ (Int)
 |y1=>(.inr (IntKind.wrap .i64 (y1 + b)))
def sm(y2:List Int)(i:Nat):(Int)→nA
 |y1=>((i:Int),y1,y2)
def PW:nA→Int
 |(_,y1,_)=>y1
theorem aie(y2:List Int)(y1:Int)(hn:y2.length≤9223372036854775807):
  ib.fin ((0:Int),y1,y2)=true∧ib.res ((0:Int),y1,y2)=((aO (BK) 0 y2 0 y1).1,(sm y2) (aO (BK) 0 y2 0 y1).2.1 (aO (BK) 0 y2 0 y1).2.2):=by
 have ez:=ib.along (sm y2) PW (BK) 0 (fun _ _=>True) y2 y1 (by trivial) (by simp only [ib,sm];omega) (fun i b a hb hI=> ?_) (fun a hI=> ?_)
 ·exact ez
 ·obtain y1:=a
  have dZ:=(List.getElem?_eq_some_iff.1 hb).1
  have gQ: ∀ d,Option.getD y2[i]? d=b:=fun d=>by rw [hb];rfl
  have hw:=tw dZ hn
  have cR:ltI (i:Int) (y2.length:Int)=true:=fj (by omega)
  have ta:leI (0:Int) (i:Int)=true:=da (by omega)
  have fB:ltN i y2.length=true:=gp dZ
  refine⟨?_,?_,?_,?_⟩
  ·simp [BZ,Hf,Hg,Hh,Hi,Er,ib,LT.nds,allT,sm,cR,ta,fB,gQ]
  ·simp [BZ,Hf,Hg,Hh,Hi,Er,ib,LT.each,sm,PW,hw]
  ·simp only [BZ,Hf,Hg,Hh,Hi,Er,ib,LT.fn,sm,PW,BK,Int.toNat_natCast,cR,ta,fB,gQ,cond_true,Bool.cond_self]
  ·exact fun _ _=>trivial
 ·obtain y1:=a
  simp [BZ,Hf,Hg,Hh,Hi,Er,ib,LT.out,sm]
def ank(l:List Int):Int:=l.foldl (fun a b=>IntKind.i64.wrap (a + b)) 0
theorem akp(l:List Int)(h:l.length≤9223372036854775807):Ni l=ank l∧Nj l=true:=by
 obtain⟨w1,w2⟩:=aie l 0 h
 rw [kt (f:=BK) (g:=fun a b=>IntKind.i64.wrap (a + b)) (fun b a=>rfl)]at w2
 exact⟨by simp only [Ni,Qx,w2,sm,ank],by simp only [Nj,Qx,w1,allT,cond_true]⟩
theorem akq: ∀ (l:List Int) (a:Int),(∀ v∈l,v=0∨v=1)→0≤a→a + l.length≤1000000→
  ∃ s:Int,l.foldl (fun a b=>IntKind.i64.wrap (a + b)) a=a + s∧(0≤s∧s≤l.length)∧((s=l.length)↔l.any (· ==0)=false)
 | [],a,_,_,_=>⟨0,by simp,by simp,by simp⟩
 |v::r,a,h,h0,h1=>by
  have hv:=h v (by simp)
  simp only [List.length_cons]at h1
  have hw:IntKind.i64.wrap (a + v)=a + v:=ag (by omega) (by omega)
  obtain⟨s,e1,e2,e3⟩:=akq r (a + v) (fun x hx=>h x (by simp [hx])) (by omega) (by omega)
  refine⟨v + s,by rw [List.foldl_cons,hw,e1];omega,by simp only [List.length_cons];omega,?_⟩
  simp only [List.length_cons,List.any_cons,Bool.or_eq_false_iff,← e3]
  rcases hv with rfl | rfl
  ·simp;omega
  ·simp;omega
theorem aqH{a b:List Int}{n:Nat}(ha: ∀ v∈a,v=0∨v=1)(hb: ∀ v∈b,v=0∨v=1)(la:a.length=n)(lb:b.length=n)(hn:n≤12):
  (IntKind.i64.wrap (ank a + ank b)==IntKind.i64.wrap (2 * (n:Int)))=(!a.any (· ==0)&& !b.any (· ==0)):=by
 obtain⟨s,e1,e2,e3⟩:=akq a 0 ha (by omega) (by omega)
 obtain⟨t,g1,g2,g3⟩:=akq b 0 hb (by omega) (by omega)
 have w1:IntKind.i64.wrap (ank a + ank b)=s + t:=by rw [ank,ank,e1,g1,ag (by omega) (by omega)];omega
 have w2:IntKind.i64.wrap (2 * (n:Int))=2 * (n:Int):=ag (by omega) (by omega)
 rw [w1,w2]
 cases ha2:a.any (· ==0) <;> cases hb2:b.any (· ==0) <;> simp only [ha2,hb2]at e3 g3 <;> simp <;> simp at e3 g3 <;> omega
theorem ama(st:List Int)(lf:List (Int×Int×Int))(h:ag3 st lf=true):VG st lf=Yq st lf∧VH st lf=0∧VI st lf=true:=by
 have h':=h
 simp only [ag3,Bool.and_eq_true]at h'
 have h12:=(Gw.1 h'.1).1
 have hl:=(aoI h'.2).1
 obtain⟨a1,a2⟩:=ahd 0 st lf h
 obtain⟨b1,b2⟩:=ahd 1 st lf h
 have n1:leN st.length 9223372036854775807=true:=br (by omega)
 have n2:leN lf.length 9223372036854775807=true:=br (by omega)
 have q0:EA st lf=0:=by simp only [EA,h'.1,h'.2];rfl
 have q1:EB st lf=lkC st lf 0:=by simp only [EB,h'.1,h'.2,a1];rfl
 have q2:EC st lf=lkC st lf 1:=by simp only [EC,h'.1,h'.2,b1];rfl
 have q3:Kw st lf=true:=by simp only [Kw,h'.1,h'.2,a2,b2,n1,n2,allT,Bool.or_true,cond_true]
 obtain⟨s1,s2⟩:=akp (lkC st lf 0) (by rw [RZ];omega)
 obtain⟨t1,t2⟩:=akp (lkC st lf 1) (by rw [RZ];omega)
 have e:=aqH (amS (ch:=0) h) (amS (ch:=1) h) (RZ st lf 0) (RZ st lf 1) h12.2
 refine⟨?_,?_,?_⟩
 ·simp only [VG,Eb,q0,q1,q2,s1,t1,e,Yq,bne_self_eq_false,cond_false]
 ·simp only [VH,Eb,q0,bne_self_eq_false,cond_false]
 ·simp only [VI,q1,q2,q3,s2,t2,allT,Bool.or_true,cond_true]
def jG(y2 b:Int):(Unit)→Nat ⊕ (Unit)
 |_=>(bif(y2==b)then(.inl 0)else(.inr ()))
def em(y2:Int)(y3:List Int)(i:Nat):(Unit)→cA
 |_=>((i:Int),(↑y3.length:Int),y2,y3)
def xa:cA→Unit
 |(_,_,_,_)=>()
theorem Tf(y2:Int)(y3:List Int) (hn:y3.length≤9223372036854775807):
  aV.fin ((0:Int),(↑y3.length:Int),y2,y3)=true∧aV.res ((0:Int),(↑y3.length:Int),y2,y3)=((aO (jG y2) 1 y3 0 ()).1,(em y2 y3) (aO (jG y2) 1 y3 0 ()).2.1 (aO (jG y2) 1 y3 0 ()).2.2):=by
 have ez:=aV.along (em y2 y3) xa (jG y2) 1 (fun _ _=>True) y3 () (by trivial) (by simp only [aV,em];omega) (fun i b a hb hI=> ?_) (fun a hI=> ?_)
 ·exact ez
 ·obtain⟨⟩:=a
  have dZ:=(List.getElem?_eq_some_iff.1 hb).1
  have gQ: ∀ d,Option.getD y3[i]? d=b:=fun d=>by rw [hb];rfl
  have hw:=tw dZ hn
  have cR:ltI (i:Int) (y3.length:Int)=true:=fj (by omega)
  have ta:leI (0:Int) (i:Int)=true:=da (by omega)
  have fB:ltN i y3.length=true:=gp dZ
  refine⟨?_,?_,?_,?_⟩
  ·simp [mz,mA,mB,mC,mD,mE,lL,aV,LT.nds,allT,em,cR,ta,fB,gQ]
  ·simp [mz,mA,mB,mC,mD,mE,lL,aV,LT.each,em,xa,hw]
  ·simp only [mz,mA,mB,mC,mD,mE,lL,aV,LT.fn,em,xa,jG,Int.toNat_natCast,cR,ta,fB,gQ,cond_true,Bool.cond_self]
  ·exact fun _ _=>trivial
 ·obtain⟨⟩:=a
  simp [mz,mA,mB,mC,mD,mE,lL,aV,LT.out,em]
def pM(b:Int):(List Int)→Nat ⊕ (List Int)
 |y3=>(.inr (y3++([aaw (b==(2:Int))])))
def li(y2:List Int)(i:Nat):(List Int)→iS
 |y3=>((i:Int),(↑y2.length:Int),y2,y3)
def Kb:iS→List Int
 |(_,_,_,y3)=>y3
theorem adi(y2 y3:List Int)(hn:y2.length≤9223372036854775807)(hR:areR y2=true)(h0:y3= []):
  cL.fin ((0:Int),(↑y2.length:Int),y2,y3)=true∧cL.res ((0:Int),(↑y2.length:Int),y2,y3)=((aO (pM) 0 y2 0 y3).1,(li y2) (aO (pM) 0 y2 0 y3).2.1 (aO (pM) 0 y2 0 y3).2.2):=by
 have ez:=cL.along (li y2) Kb (pM) 0 (fun i a=>a.length≤i) y2 y3 (by subst h0;simp) (by simp only [cL,li];omega) (fun i b a hb hI=> ?_) (fun a hI=> ?_)
 ·exact ez
 ·obtain y3:=a
  have dZ:=(List.getElem?_eq_some_iff.1 hb).1
  have gQ: ∀ d,Option.getD y2[i]? d=b:=fun d=>by rw [hb];rfl
  have hw:=tw dZ hn
  have cR:ltI (i:Int) (y2.length:Int)=true:=fj (by omega)
  have ta:leI (0:Int) (i:Int)=true:=da (by omega)
  have fB:ltN i y2.length=true:=gp dZ
  refine⟨?_,?_,?_,?_⟩
  ·have h12:=(Gw.1 hR).1
   have h6:leN (a.length + 1) 9223372036854775807=true:=br (by omega)
   have h7:leN ((a.length + 1) * 8) 140737488355328=true:=br (by omega)
   simp [nZ,yo,yp,yq,yt,yu,yw,yx,yy,wF,cL,LT.nds,allT,li,cR,ta,fB,h6,h7]
  ·simp [nZ,yo,yp,yq,yt,yu,yw,yx,yy,wF,cL,LT.each,li,Kb,hw]
  ·simp only [nZ,yo,yp,yq,yt,yu,yw,yx,yy,wF,cL,LT.fn,li,Kb,pM,Int.toNat_natCast,cR,ta,fB,gQ,cond_true,Bool.cond_self]
  ·intro a' hf;simp only [pM,Sum.inr.injEq]at hf;subst hf;simp;omega
 ·obtain y3:=a
  simp [nZ,yo,yp,yq,yt,yu,yw,yx,yy,wF,cL,LT.out,li]
def pN(b:Int×(Int×Int)):(List Int×List Int)→Nat ⊕ (List Int×List Int)
 |(y3,y4)=>(.inr ((bif(b.2.1==(0:Int))then List.set y3 (Int.toNat b.1) b.2.2else y3),(bif(b.2.1==(0:Int))then y4 else List.set y4 (Int.toNat b.1) b.2.2)))
def lj(y2:List (Int×(Int×Int)))(i:Nat):(List Int×List Int)→iT
 |(y3,y4)=>((i:Int),(↑y2.length:Int),y2,y3,y4)
def Kc:iT→List Int×List Int
 |(_,_,_,y3,y4)=>(y3,y4)
theorem adj(y2:List (Int×(Int×Int)))(y3 y4:List Int)(hn:y2.length≤9223372036854775807)(n:Nat)(h3:y3.length=n)(h4:y4.length=n)(hf: ∀ f∈y2,0≤f.1∧f.1 < (n:Int)):
  cM.fin ((0:Int),(↑y2.length:Int),y2,y3,y4)=true∧cM.res ((0:Int),(↑y2.length:Int),y2,y3,y4)=((aO (pN) 0 y2 0 (y3,y4)).1,(lj y2) (aO (pN) 0 y2 0 (y3,y4)).2.1 (aO (pN) 0 y2 0 (y3,y4)).2.2):=by
 have ez:=cM.along (lj y2) Kc (pN) 0 (fun _ a=>a.1.length=n∧a.2.length=n) y2 (y3,y4) ⟨h3,h4⟩ (by simp only [cM,lj];omega) (fun i b a hb hI=> ?_) (fun a hI=> ?_)
 ·exact ez
 ·obtain⟨y3,y4⟩:=a
  have dZ:=(List.getElem?_eq_some_iff.1 hb).1
  have gQ: ∀ d,Option.getD y2[i]? d=b:=fun d=>by rw [hb];rfl
  have hw:=tw dZ hn
  have cR:ltI (i:Int) (y2.length:Int)=true:=fj (by omega)
  have ta:leI (0:Int) (i:Int)=true:=da (by omega)
  have fB:ltN i y2.length=true:=gp dZ
  refine⟨?_,?_,?_,?_⟩
  ·have h5:=hf b (List.mem_of_getElem? hb)
   have hI1:=hI.1
   have hI2:=hI.2
   have h6:leI 0 b.1=true:=da h5.1
   have h7:ltI b.1 (n:Int)=true:=fj (by omega)
   have h8:ltN b.1.toNat n=true:=gp (by omega)
   simp only at hI1 hI2
   simp [cK,eo,su,yz,yA,yB,yC,yD,yE,yF,yG,yH,yI,wz,wA,wB,wG,cM,LT.nds,allT,lj,cR,ta,fB,gQ,h6,h7,h8,hI1,hI2]
  ·simp [cK,eo,su,yz,yA,yB,yC,yD,yE,yF,yG,yH,yI,wz,wA,wB,wG,cM,LT.each,lj,Kc,hw]
  ·simp only [cK,eo,su,yz,yA,yB,yC,yD,yE,yF,yG,yH,yI,wz,wA,wB,wG,cM,LT.fn,lj,Kc,pN,Int.toNat_natCast,cR,ta,fB,gQ,cond_true,Bool.cond_self]
  ·intro a' hf;simp only [pN,Sum.inr.injEq]at hf;subst hf;have hI1:=hI.1;have hI2:=hI.2;cases b.2.1==0 <;> simpa using ⟨hI1,hI2⟩
 ·obtain⟨y3,y4⟩:=a
  simp [cK,eo,su,yz,yA,yB,yC,yD,yE,yF,yG,yH,yI,wz,wA,wB,wG,cM,LT.out,lj]
theorem aqh(x v:Int):(x==v)=(v==x):=by rw [Bool.eq_iff_iff,beq_iff_eq,beq_iff_eq];exact eq_comm
theorem aaq(x:Int)(l:List Int)(h:l.length≤9223372036854775807):dv x l=l.any (· ==x)∧jI x l=true:=by
 obtain⟨w1,w2⟩:=Tf x l h
 rw [ru (P:=fun v=>v==x) (j:=0) (fun v=>by simp only [jG];rw [aqh x v])]at w2
 simp only [dv,jI,De,Df,uu,w1,w2,allT,em]
 cases l.any (· ==x)with
 |false=>exact⟨rfl,rfl⟩
 |true=>
  simp only [cond_true,Nat.beq]
  exact⟨da (by omega),trivial⟩
theorem alT(st:List Int)(lf:List (Int×Int×Int))(h:ag3 st lf=true):UU st lf=Yq st lf∧UV st lf=true:=by
 have h':=h
 simp only [ag3,Bool.and_eq_true]at h'
 have h12:=(Gw.1 h'.1).1
 obtain⟨hl,hf⟩:=aoI h'.2
 obtain⟨w1,w2⟩:=adi st [] (by omega) h'.1 rfl
 rw [kt (f:=pM) (g:=fun a b=>a++ [bif b==2 then 1 else 0]) (fun b a=>rfl),Ul]at w2
 have e1:wV st=lkB st:=by
  simp only [wV,Ir,w2,li,List.nil_append];rfl
 obtain⟨v1,v2⟩:=adj lf (lkB st) (lkB st) (by omega) st.length (UX st) (UX st) (fun f hm=>(hf f hm).1)
 rw [kt (f:=pN) (g:=fun a f=>(bif f.2.1==0 then a.1.set f.1.toNat f.2.2 else a.1,bif f.2.1==0 then a.2 else a.2.set f.1.toNat f.2.2)) (fun b a=>rfl),ahB _ _ (fun f hm=>(hf f hm).2.1)]at v2
 have e3:Is st lf=(lkC st lf 0,lkC st lf 1):=by
  simp only [Is,CC,e1,v2,lj];rfl
 have e4:Lp.fin cM (CC st lf)=true:=by simp only [CC,e1];exact v1
 have e5:Lp.fin cL (Ir st)=true:=w1
 have q0:zN st lf=lkC st lf 0:=by rw [zN,e3]
 have q1:Ek st lf=lkC st lf 1:=by rw [Ek,e3]
 have n1:leN 1 st.length=true:=br (by omega)
 have n2:leN st.length 1048576=true:=br (by omega)
 have q2:Kt st lf=true:=by simp only [Kt,e4,e5,e1,UX,n1,n2,allT,Bool.and_self,cond_true]
 obtain⟨s1,s2⟩:=aaq 0 (lkC st lf 0) (by rw [RZ];omega)
 obtain⟨t1,t2⟩:=aaq 0 (lkC st lf 1) (by rw [RZ];omega)
 refine⟨?_,?_⟩
 ·simp only [UU,q0,q1,s1,t1,Yq]
  cases (lkC st lf 0).any (· ==0) <;> rfl
 ·simp only [UV,q0,q1,q2,s2,t2,allT,Bool.or_true,cond_true]
def acd:List SV→List Entry→Option Out
 | [.one ⟨false,[.ref 0]⟩,.one ⟨false,[.ref 1]⟩],[.row false 2 (.int .i64) x0,.row false 100 (.pair (.int .i64) (.pair (.int .i64) (.int .i64))) x1]=>some ⟨.tup [⟨false,[.val (.bool (Yq x0 x1))]⟩,⟨false,[.val (.int .i64 (0))]⟩],[.row false 2 aiQ x0,.row false 100 acG x1],[],[ag3 x0 x1]⟩
 |_,_=>none
def Vi:PF prog:=PF.alt aj2 acd (by
 intro args es o h bK;unfold acd at h;split at h
 ·rename_i x0 x1
  cases h
  have bK:=iu bK
  have hh:=ama x0 x1 bK
  obtain⟨e0,e1,en⟩:=hh
  exact kU rfl (gZ en) (by simp only [e0,e1] <;> rfl) rfl rfl
 ·cases h)
def acb:List SV→List Entry→Option Out
 | [.one ⟨false,[.ref 0]⟩,.one ⟨false,[.ref 1]⟩],[.row false 2 (.int .i64) x0,.row false 100 (.pair (.int .i64) (.pair (.int .i64) (.int .i64))) x1]=>some ⟨.one ⟨false,[.val (.bool (Yq x0 x1))]⟩,[.row false 2 aiQ x0,.row false 100 acG x1],[],[ag3 x0 x1]⟩
 |_,_=>none
def Vh:PF prog:=PF.alt aj1 acb (by
 intro args es o h bK;unfold acb at h;split at h
 ·rename_i x0 x1
  cases h
  have bK:=iu bK
  have hh:=alT x0 x1 bK
  obtain⟨e0,en⟩:=hh
  exact kU rfl (gZ en) (by simp only [e0] <;> rfl) rfl rfl
 ·cases h)
def rsB(n k row:Int):Bool:=bif k==0||k==1 then inR row 0 (IntKind.i64.wrap (n - 1))else bif k==2||k==3 then row==0 else false
def kY(st:List Int)(k row:Int):Bool:=bif k==0||k==1 then(st[row.toNat]?.getD 0)==k else bif k==2 then !st.any (· ==0)else PG st
def QX(st:List Int)(k row:Int):List Int:=bif k==0||k==1 then st.set row.toNat (1 - k)else st.map fun _=>bif k==2 then 2 else 1
def ag7(st:List Int)(k row:Int):Bool:=areR st&&rsB (st.length:Int) k row
theorem aoO(a b:Bool):(bif a then a else b)=(a||b):=by cases a <;> rfl
theorem apk(n k row:Int):VV n k row=rsB n k row:=by
 simp only [VV,aT,wq,rsB,aoO]
theorem ao3(n k row:Int):Iq n k row=rsB n k row:=by
 simp only [Iq,bm,wq,rsB,aoO]
theorem akj{st:List Int}{k row:Int}(h:ag7 st k row=true):areR st=true∧(1≤st.length∧st.length≤12)∧(((k=0∨k=1)∧0≤row∧row < st.length)∨((k=2∨k=3)∧row=0)):=by
 simp only [ag7,Bool.and_eq_true]at h
 have h12:=(Gw.1 h.1).1
 refine⟨h.1,h12,?_⟩
 have h2:=h.2
 rw [rsB,ag (by omega) (by omega)]at h2
 cases h3:(k==0||k==1)with
 |true=>
  rw [h3,cond_true,sf]at h2
  simp only [Bool.or_eq_true,beq_iff_eq]at h3
  exact .inl ⟨h3,by omega⟩
 |false=>
  rw [h3,cond_false]at h2
  cases h4:(k==2||k==3)with
  |true=>
   rw [h4,cond_true,beq_iff_eq]at h2
   simp only [Bool.or_eq_true,beq_iff_eq]at h4
   exact .inr ⟨h4,h2⟩
  |false=>rw [h4]at h2;cases h2
def uL(y1 _b:Int):(List Int)→Nat ⊕ (List Int)
 |y3=>(.inr (y3++ [y1]))
def qM(y1:Int)(y2:List Int)(i:Nat):(List Int)→mg
 |y3=>((i:Int),y1,y2,y3)
def Oe:mg→List Int
 |(_,_,_,y3)=>y3
theorem ahh(y1:Int)(y2 y3:List Int)(hn:y2.length≤9223372036854775807)(h12:y2.length≤12)(h0:y3= []):
  gk.fin ((0:Int),y1,y2,y3)=true∧gk.res ((0:Int),y1,y2,y3)=((aO (uL y1) 0 y2 0 y3).1,(qM y1 y2) (aO (uL y1) 0 y2 0 y3).2.1 (aO (uL y1) 0 y2 0 y3).2.2):=by
 have ez:=gk.along (qM y1 y2) Oe (uL y1) 0 (fun i a=>a.length≤i) y2 y3 (by subst h0;simp) (by simp only [gk,qM];omega) (fun i b a hb hI=> ?_) (fun a hI=> ?_)
 ·exact ez
 ·obtain y3:=a
  have dZ:=(List.getElem?_eq_some_iff.1 hb).1
  have gQ: ∀ d,Option.getD y2[i]? d=b:=fun d=>by rw [hb];rfl
  have hw:=tw dZ hn
  have cR:ltI (i:Int) (y2.length:Int)=true:=fj (by omega)
  have ta:leI (0:Int) (i:Int)=true:=da (by omega)
  have fB:ltN i y2.length=true:=gp dZ
  refine⟨?_,?_,?_,?_⟩
  ·have h6:leN (a.length + 1) 9223372036854775807=true:=br (by omega)
   have h7:leN ((a.length + 1) * 8) 140737488355328=true:=br (by omega)
   simp [EH,EI,EJ,EK,EL,CW,gk,LT.nds,allT,qM,cR,ta,fB,h6,h7]
  ·simp [EH,EI,EJ,EK,EL,CW,gk,LT.each,qM,Oe,hw]
  ·simp only [EH,EI,EJ,EK,EL,CW,gk,LT.fn,qM,Oe,uL,Int.toNat_natCast,cR,ta,fB,gQ,cond_true,Bool.cond_self]
  ·intro a' hf;simp only [uL,Sum.inr.injEq]at hf;subst hf;simp;omega
 ·obtain y3:=a
  simp [EH,EI,EJ,EK,EL,CW,gk,LT.out,qM]
theorem aiK(x:Int)(st:List Int)(h:st.length≤12):LC x st=st.map (fun _=>x)∧LD x st=true:=by
 obtain⟨w1,w2⟩:=ahh x st [] (by omega) h rfl
 rw [kt (f:=uL x) (g:=fun a _=>a++ [x]) (fun b a=>rfl),Ul (fun _=>x)]at w2
 exact⟨by simp only [LC,NL,w2,qM,List.nil_append],by simp only [LD,NL,w1,allT,cond_true]⟩
theorem ahF: ∀ (xs:List Int) (m:Int),0≤m→(∀ y∈xs,0≤y)→
  leI 1 (xs.foldl (fun m b=>bif ltI b m then b else m) m)=(!(m==0)&& !xs.any (· ==0))
 | [],m,hm,_=>by
  simp only [List.foldl_nil,List.any_nil,Bool.not_false,Bool.and_true]
  rw [Bool.eq_iff_iff,Bool.not_eq_true',beq_eq_false_iff_ne,ax];omega
 |y::xs,m,hm,h=>by
  have hy:=h y (by simp)
  rw [List.foldl_cons,List.any_cons]
  cases hc:ltI y m with
  |true=>
   rw [cond_true,ahF xs y hy fun z hz=>h z (by simp [hz])]
   have hc:=ay.1 hc
   rw [show (m==0)=false from by rw [beq_eq_false_iff_ne];omega]
   cases y==0 <;> simp
  |false=>
   rw [cond_false,ahF xs m hm fun z hz=>h z (by simp [hz])]
   have hc: ¬ y < m:=fun h=>by rw [fj h]at hc;cases hc
   cases hm0:m==0 with
   |true=>rfl
   |false=>
    rw [beq_eq_false_iff_ne]at hm0
    rw [show (y==0)=false from by rw [beq_eq_false_iff_ne];omega]
    simp
theorem ao7(st:List Int)(h:areR st=true):leI 1 (Ar st)= !st.any (· ==0):=by
 obtain⟨h1,h2⟩:=Gw.1 h
 match st,h1,h2 with
 |x::xs,h1,h2=>
  have hx:=h2 x (by simp)
  obtain⟨w1,w2⟩:=Wl (x::xs) x (by omega)
  rw [kt (f:=mK) (g:=fun m b=>bif ltI b m then b else m) (fun b a=>by simp only [mK,aja])]at w2
  have e0:Option.getD (x::xs)[Int.toNat 0]? 0=x:=rfl
  simp only [Ar,Hl,e0,w2,lC,List.drop_one,List.tail_cons]
  rw [ahF xs x hx.1 fun y hy=>(h2 y (by simp [hy])).1,List.any_cons,Bool.not_or]
theorem ah3{st:List Int}{row:Int}(h:0≤row∧row < st.length):leI 0 row=true∧ltI row (st.length:Int)=true∧ltN row.toNat st.length=true:=
 ⟨da h.1,fj h.2,gp (by omega)⟩
theorem al8(k row:Int)(st:List Int)(h:ag7 st k row=true):Ef k row st=kY st k row∧Eg k row st=QX st k row∧Eh k row st=true:=by
 obtain⟨hA,h12,hk⟩:=akj h
 obtain⟨l1,l2⟩:=apP st hA
 have l3:=ao7 st hA
 obtain⟨f1,f2⟩:=aiK 2 st h12.2
 obtain⟨g1,g2⟩:=aiK 1 st h12.2
 have n1:leN st.length 1048576=true:=br (by omega)
 rcases hk with⟨rfl | rfl,hr⟩ | ⟨rfl | rfl,rfl⟩
 ·obtain⟨r1,r2,r3⟩:=ah3 hr
  simp [Ef,Eg,Eh,Cc,Cd,Ce,Cf,Cg,Ch,Ci,kY,QX,r1,r2,r3,n1,allT]
 ·obtain⟨r1,r2,r3⟩:=ah3 hr
  simp [Ef,Eg,Eh,Cc,Cd,Ce,Cf,Cg,Ch,Ci,kY,QX,r1,r2,r3,n1,allT]
 ·simp [Ef,Eg,Eh,Cc,Cd,Ce,Cf,Cg,Ch,Ci,kY,QX,l2,l3,f1,f2,n1,allT]
 ·simp [Ef,Eg,Eh,Cc,Cd,Ce,Cf,Cg,Ch,Ci,kY,QX,l1,l2,g1,g2,n1,allT]
def kz(y2:Int)(b:Nat):(List Int)→Nat ⊕ (List Int)
 |y3=>(.inr (List.set y3 b y2))
def iv(y1 y2:Int)(i:Nat):(List Int)→ex
 |y3=>((i:Int),y1,y2,y3)
def DY:ex→List Int
 |(_,_,_,y3)=>y3
theorem YB(y1 y2:Int)(y3:List Int)(hn:y1≤9223372036854775807)(h3:y1=(y3.length:Int)):
  bg.fin ((0:Int),y1,y2,y3)=true∧bg.res ((0:Int),y1,y2,y3)=((aO (kz y2) 0 (List.range y1.toNat) 0 y3).1,(iv y1 y2) (aO (kz y2) 0 (List.range y1.toNat) 0 y3).2.1 (aO (kz y2) 0 (List.range y1.toNat) 0 y3).2.2):=by
 have ez:=bg.along (iv y1 y2) DY (kz y2) 0 (fun _ a=>y1=(a.length:Int)) (List.range y1.toNat) y3 h3 (by simp only [bg,iv,List.length_range];omega) (fun i b a hb hI=> ?_) (fun a hI=> ?_)
 ·exact ez
 ·obtain y3:=a
  obtain⟨rfl,dZ⟩:=BV hb
  have hw:IntKind.i64.wrap ((b:Int) + 1)=((b + 1:Nat):Int):=by rw [ag (by omega) (by omega)];omega
  have cR:ltI (b:Int) y1=true:=fj (by omega)
  have ta:leI (0:Int) (b:Int)=true:=da (by omega)
  refine⟨?_,?_,?_,?_⟩
  ·have h6:ltI (b:Int) (a.length:Int)=true:=fj (by omega)
   have h7:ltN b a.length=true:=gp (by omega)
   simp [sx,sy,sz,sE,sF,sG,rG,bg,LT.nds,allT,iv,cR,ta,h6,h7]
  ·simp [sx,sy,sz,sE,sF,sG,rG,bg,LT.each,iv,DY,hw]
  ·simp only [sx,sy,sz,sE,sF,sG,rG,bg,LT.fn,iv,DY,kz,Int.toNat_natCast,cR,ta,cond_true,Bool.cond_self]
  ·intro a' hf;simp only [kz,Sum.inr.injEq]at hf;subst hf;simpa using hI
 ·obtain y3:=a
  simp only [sx,sy,sz,sE,sF,sG,rG,bg,LT.out,iv,List.length_range,ZD,acW,cond_false]
theorem ais(x:Int)(st:List Int)(h:st.length≤12):(Lp.res bg ((0:Int),(↑(List.length st):Int),x,st)).2.2.2.2=st.map (fun _=>x)∧Lp.fin bg ((0:Int),(↑(List.length st):Int),x,st)=true:=by
 obtain⟨w1,w2⟩:=YB (st.length:Int) x st (by omega) rfl
 rw [Int.toNat_natCast,alz (xs:=st) (d:=0) (f:=kz x) (g:=fun _=>x) (fun b a=>rfl) rfl]at w2
 exact⟨by simp only [w2,iv],w1⟩
theorem aq8{k:Int}(h:0≤k∧k≤2):IntKind.i64.wrap (IntKind.i64.wrap (k - 0) + 0)=k∧IntKind.i64.wrap (1 - k)=1 - k:=
 ⟨by rw [show IntKind.i64.wrap (k - 0)=k from by rw [ag (by omega) (by omega)];omega,ag (by omega) (by omega)];omega,ag (by omega) (by omega)⟩
theorem amN(k row:Int)(st:List Int)(h:ag7 st k row=true):wC k row st=kY st k row∧wD k row st=(bif kY st k row then QX st k row else st)∧wE k row st=true:=by
 obtain⟨hA,h12,hk⟩:=akj h
 obtain⟨c1,c2⟩:=aaq 0 st (by omega)
 obtain⟨f1,f2⟩:=ais 2 st h12.2
 obtain⟨g1,g2⟩:=ais 1 st h12.2
 have n1:leN st.length 9223372036854775807=true:=br (by omega)
 rcases hk with⟨hk,hr⟩ | ⟨rfl | rfl,rfl⟩
 ·obtain⟨r1,r2,r3⟩:=ah3 hr
  obtain⟨q1,q2⟩:=aq8 (k:=k) (by omega)
  have ha0:bX k=true:=by rcases hk with rfl | rfl <;> rfl
  have ha1:(k==0||k==1)=true:=by rcases hk with rfl | rfl <;> rfl
  have ha2:mL k row st= !((st[row.toNat]?.getD 0)==k):=by
   rw [mL,q1];rfl
  simp only [wC,wD,wE,ha0,ha2,uN,uO,uP,kY,QX,ha1,cond_true,r1,r2,r3,Bool.or_true,Bool.true_or,allT]
  cases hc:(st[row.toNat]?.getD 0)==k with
  |false=>simp
  |true=>
   have hv:It row st=k:=by rw [beq_iff_eq]at hc;exact hc
   rw [hv,q2]
   simp
 ·simp only [wC,wD,wE,show bX 2=false from rfl,Iu,uN,uO,uP,kY,QX,c1,c2,f1,f2,n1,allT]
  cases st.any (· ==0) <;> simp
 ·simp only [wC,wD,wE,show bX 3=false from rfl,Iv,uN,uO,uP,kY,QX,c1,c2,g1,g2,n1,allT]
  cases PG st <;> simp
def ack:List SV→List Entry→Option Out
 | [.one ⟨false,[.val (.int .i64 x0)]⟩,.one ⟨true,[.val (.int .i64 x1),.val (.int .i64 x2)]⟩],[]=>some ⟨.one ⟨false,[.val (.bool (rsB x0 x1 x2))]⟩,[],[],[]⟩
 |_,_=>none
def ajU:PF prog:=PF.alt aj8 ack (by
 intro args es o h bK;unfold ack at h;split at h
 ·rename_i x0 x1 x2
  cases h
  have hh:=apk x0 x1 x2
  have e0:=hh
  exact kU rfl (fun _ h=>by cases h) (by simp only [e0] <;> rfl) rfl rfl
 ·cases h)
def Pv:List SV→List Entry→Option Out
 | [.one ⟨false,[.val (.int .i64 x0)]⟩,.one ⟨true,[.val (.int .i64 x1),.val (.int .i64 x2)]⟩],[]=>some ⟨.one ⟨false,[.val (.bool (rsB x0 x1 x2))]⟩,[],[],[]⟩
 |_,_=>none
def aaB:PF prog:=PF.alt aaH Pv (by
 intro args es o h bK;unfold Pv at h;split at h
 ·rename_i x0 x1 x2
  cases h
  have hh:=ao3 x0 x1 x2
  have e0:=hh
  exact kU rfl (fun _ h=>by cases h) (by simp only [e0] <;> rfl) rfl rfl
 ·cases h)
def aa5:List SV→List Entry→Option Out
 | [.one ⟨false,[.ref 0]⟩,.one ⟨true,[.val (.int .i64 x0),.val (.int .i64 x1)]⟩],[.row false 2 (.int .i64) x2]=>some ⟨.tup [⟨false,[.ref 1]⟩,⟨false,[.val (.bool (kY x2 x0 x1))]⟩],[.row false 2 aiQ x2],[.row true 2 aiQ (QX x2 x0 x1)],[ag7 x2 x0 x1]⟩
 |_,_=>none
def Tv:PF prog:=PF.alt ai4 aa5 (by
 intro args es o h bK;unfold aa5 at h;split at h
 ·rename_i x0 x1 x2
  cases h
  have bK:=iu bK
  have hh:=al8 x0 x1 x2 bK
  obtain⟨e0,e1,en⟩:=hh
  exact kU rfl (gZ en) (by simp only [e0] <;> rfl) rfl (by simp only [e1] <;> rfl)
 ·cases h)
def Rk:List SV→List Entry→Option Out
 | [.one ⟨false,[.ref 0]⟩,.one ⟨true,[.val (.int .i64 x0),.val (.int .i64 x1)]⟩],[.row true 2 (.int .i64) x2]=>some ⟨.one ⟨false,[.val (.bool (kY x2 x0 x1))]⟩,[.row true 2 aiQ (bif kY x2 x0 x1 then QX x2 x0 x1 else x2)],[],[ag7 x2 x0 x1]⟩
 |_,_=>none
def JZ:PF prog:=PF.alt abF Rk (by
 intro args es o h bK;unfold Rk at h;split at h
 ·rename_i x0 x1 x2
  cases h
  have bK:=iu bK
  have hh:=amN x0 x1 x2 bK
  obtain⟨e0,e1,en⟩:=hh
  exact kU rfl (gZ en) (by simp only [e0] <;> rfl) (by simp only [e1] <;> rfl) rfl
 ·cases h)
section
variable (x0 x1 x2 x3 x4 x5 x6 x7 x8:Int)(x9:Bool)(x10:List Int)(x11:List (Int×Int×Int))(x12:List (List Int))(x13:List (Int×Int×Int))(x14 x15:List (Int×Int))
def IP:Bool:=aT x4 (0:Int) (IntKind.wrap .i64 ((↑x12.length:Int) - (1:Int)))
def Ov:Bool:=bif x5==(0:Int)then bif x6==(0:Int)then true else false else false
def Ow:Bool:=bif x7==(0:Int)then bif x8==(0:Int)then bif x9==false then true else false else false else false
def vq:Bool:=bif !re x0 x10 x11 x12 x13 x1 x14 x15 x2 then false else bif x3==(0:Int)then bif IP x4 x12 then bif x3==(0:Int)then bif x4==x4 then bif Ov x5 x6 then bif Ow x7 x8 x9 then true else false else false else false else false else false else bif x3==(1:Int)then bif bif IP x4 x12 then rsB (zF x12) x5 x6 else false then Ow x7 x8 x9 else false else bif x3==(2:Int)then bif bif x4==(0:Int)then Ov x5 x6 else false then agy x7 x8 else false else false
def zP:Bool:=allT [Gb (9223372036854775807:Nat) x10 x11 x12 x13 x14 x15,!re x0 x10 x11 x12 x13 x1 x14 x15 x2||(x3==(0:Int)||(!x3==(1:Int)||(!(IP x4 x12&&true)||zG x12)))]
end
def WH:List SV→List Entry→Option Out
 | [.one ⟨true,[.val (.int .i64 x0),.ref 0,.ref 1,.ref 2,.ref 3,.val (.int .i64 x1),.ref 4,.ref 5,.val (.int .i64 x2)]⟩,.one ⟨true,[.val (.int .i64 x3),.val (.int .i64 x4),.val (.int .i64 x5),.val (.int .i64 x6),.val (.int .i64 x7),.val (.int .i64 x8),.val (.bool x9)]⟩],[.row false 2 (.int .i64) x10,.row false 169 (.pair (.int .i64) (.pair (.int .i64) (.int .i64))) x11,.row false 24 (.sl 2 (.int .i64)) x12,.row false 100 (.pair (.int .i64) (.pair (.int .i64) (.int .i64))) x13,.row false 173 (.pair (.int .i64) (.int .i64)) x14,.row false 176 (.pair (.int .i64) (.int .i64)) x15]=>some ⟨.one ⟨false,[.val (.bool (vq x0 x1 x2 x3 x4 x5 x6 x7 x8 x9 x10 x11 x12 x13 x14 x15))]⟩,[.row false 2 aiQ x10,.row false 169 acG x11,.row false 24 (CTy.sl (2:TypeId) aiQ) x12,.row false 100 acG x13,.row false 173 acH x14,.row false 176 acH x15],[],[zP x0 x1 x2 x3 x4 x10 x11 x12 x13 x14 x15]⟩
 |_,_=>none
def eM:PF prog:=PF.ofG prog [ajU,ahO,qP,PF.lend qP,PF.fz qP,fI,vd,PF.lend vd,PF.fz vd] [] aM 35 f35 func35 (fun c _=>LOk.nil c) WH (by
 intro vs es r h;unfold WH at h;split at h
 ·cases h;kernel_rfl
 ·cases h)
abbrev nC:=Int×Int×Int×Int×List (List Int)×List Int×List (Int×(Int×Int))×List (List Int)×List (Int×(Int×Int))×List (Int×Int)×List (Int×Int)
section
variable (y0:Int)(y4 y7:List (List Int))
def si:List Int:=Option.getD y7[Int.toNat y0]? (Ei (CTy.sl (2:TypeId) aiQ))
def Cm:Bool:=ltI y0 (↑y7.length:Int)
def Hu:Bool:=leI (0:Int) y0
def Hv:Bool:=ltN y0.toNat y7.length
def Hw:Bool:=leN (List.length (si y0 y7)) (1048576:Nat)
def Hx:Bool:=leN (List.length y4 + List.length [si y0 y7]) (9223372036854775807:Nat)
def Hy:Bool:=leN ((List.length y4 + List.length [si y0 y7]) * (24:Nat)) (140737488355328:Nat)
def Hz:Int:=IntKind.wrap .i64 (y0 + (1:Int))
def HA:List (List Int):=y4++ [si y0 y7]
end
def af8:nC→List (Nat×SV)
 |(y0,_,_,_,_,_,_,_,_,_,_)=> [(4,(.one ⟨false,[.val (.int .i64 y0)]⟩)),(1,(.one ⟨false,[.ptr 0 0]⟩)),(3,(.one ⟨false,[.ref 1]⟩))]
def afZ:nC→List (Nat×Entry)
 |(_,y1,y2,y3,y4,y5,y6,y7,y8,y9,y10)=> [(0,(.box 33 [.val (.int .i64 y1),.ref 2,.ref 3,.ref 4,.ref 5,.val (.int .i64 y2),.ref 6,.ref 7,.val (.int .i64 y3)])),(2,(.row false 2 aiQ y5)),(3,(.row false 169 acG y6)),(4,(.row false 24 (CTy.sl (2:TypeId) aiQ) y7)),(5,(.row false 100 acG y8)),(6,(.row false 173 acH y9)),(7,(.row false 176 acH y10)),(1,(.row true 24 (CTy.sl (2:Nat) aiQ) y4))]
def agr:Nat→nC→List (Nat×SV)
 |_,(_,_,_,_,_,_,_,_,_,_,_)=> [(3,(.one ⟨false,[.ref 1]⟩))]
def agi:Nat→nC→List (Nat×Entry)
 |_,(_,y1,y2,y3,y4,y5,y6,y7,y8,y9,y10)=> [(0,(.box 33 [.val (.int .i64 y1),.ref 2,.ref 3,.ref 4,.ref 5,.val (.int .i64 y2),.ref 6,.ref 7,.val (.int .i64 y3)])),(1,(.row true 24 (CTy.sl (2:Nat) aiQ) y4)),(2,(.row false 2 aiQ y5)),(3,(.row false 169 acG y6)),(4,(.row false 24 (CTy.sl (2:TypeId) aiQ) y7)),(5,(.row false 100 acG y8)),(6,(.row false 173 acH y9)),(7,(.row false 176 acH y10))]
def Et:nC→LT nC
 |(y0,y1,y2,y3,y4,y5,y6,y7,y8,y9,y10)=> .ite (Cm y0 y7) (.need [Hu y0,Cm y0 y7,Hv y0 y7,Hw y0 y7,Hx y0 y4 y7,Hy y0 y4 y7] (.nrm ((Hz y0),y1,y2,y3,HA y0 y4 y7,y5,y6,y7,y8,y9,y10) [(0,0),(1,896),(2,2),(3,3),(4,4),(5,5),(6,6),(7,7)])) (.ext 0 [(0,0),(1,1),(2,2),(3,3),(4,4),(5,5),(6,6),(7,7)])
def Qh(s:St):Option nC:=
 (match s.look 4 with
 |some ⟨none,.one ⟨false,[.val (.int .i64 y0)]⟩⟩=>
 (match s.look 1 with
 |some ⟨none,.one ⟨false,[.ptr 448 0]⟩⟩=>
 (match s.look 3 with
 |some ⟨none,.one ⟨false,[.ref 576]⟩⟩=>
 (match s.ent 448 with
 |some (.box 33 [.val (.int .i64 y1),.ref 0,.ref 1,.ref 2,.ref 3,.val (.int .i64 y2),.ref 4,.ref 5,.val (.int .i64 y3)])=>
 (match s.ent 0 with
 |some (.row false 2 (.int .i64) y5)=>
 (match s.ent 1 with
 |some (.row false 169 (.pair (.int .i64) (.pair (.int .i64) (.int .i64))) y6)=>
 (match s.ent 2 with
 |some (.row false 24 (.sl 2 (.int .i64)) y7)=>
 (match s.ent 3 with
 |some (.row false 100 (.pair (.int .i64) (.pair (.int .i64) (.int .i64))) y8)=>
 (match s.ent 4 with
 |some (.row false 173 (.pair (.int .i64) (.int .i64)) y9)=>
 (match s.ent 5 with
 |some (.row false 176 (.pair (.int .i64) (.int .i64)) y10)=>
 (match s.ent 576 with
 |some (.row true 24 (.sl 2 (.int .i64)) y4)=>
 some (y0,y1,y2,y3,y4,y5,y6,y7,y8,y9,y10)
 |_=>none)
 |_=>none)
 |_=>none)
 |_=>none)
 |_=>none)
 |_=>none)
 |_=>none)
 |_=>none)
 |_=>none)
 |_=>none)
 |_=>none)
def gi:Lp nC where
 h:=⟨[6,7,8,9,10,13,14,15,16,17,18,19,20,21,3,11,12,4],[0,2,3,4,5,6,7],[1],[]⟩
 JL:=af8
 JE:=afZ
 XL:=agr
 XE:=agi
 q:=fun j=>match j with | _=> .exit 0
 tags:= [0]
 lt:=Et
 fuel:=fun(y0,y1,y2,y3,y4,y5,y6,y7,y8,y9,y10)=>y0.natAbs + y1.natAbs + y2.natAbs + y3.natAbs + y4.length + y5.length + y6.length + y7.length + y8.length + y9.length + y10.length
 fix:=fun(_,y1,y2,y3,_,y5,y6,y7,y8,y9,y10) (y0,_,_,_,y4,_,_,_,_,_,_)=>(y0,y1,y2,y3,y4,y5,y6,y7,y8,y9,y10)
 σ:= [(0,448),(2,0),(3,1),(4,2),(5,3),(6,4),(7,5),(1,576)]
 rd:=Qh
theorem ad9:LoopOk prog (fun k=>Nat.blt k Tryz.f155.ntmps) gi.F (aL f155 0):=by
 refine Lp.ok (tbl:= [qQ,PF.lend qQ,PF.fz qQ]) (lf:= []) aM gi (by kernel_rfl) (LOk.nil _) (fun _=>rfl) (fun _ _=>rfl) ?_ ?_ ?_ ?_ (fun _=>rfl) ?_
 ·rintro⟨y0,y1,y2,y3,y4,y5,y6,y7,y8,y9,y10⟩;kernel_rfl
 ·rintro⟨y0,y1,y2,y3,y4,y5,y6,y7,y8,y9,y10⟩;kernel_rfl
 ·intro s x h
  have h:Qh s=some x:=h
  unfold Qh at h
  repeat' split at h
  all_goals cases h
  exact⟨aa (by assumption) rfl (aa (by assumption) rfl (aa (by assumption) rfl (rfl))),ab rfl (by assumption) rfl (ab rfl (by assumption) rfl (ab rfl (by assumption) rfl (ab rfl (by assumption) rfl (ab rfl (by assumption) rfl (ab rfl (by assumption) rfl (ab rfl (by assumption) rfl (ab rfl (by assumption) rfl (rfl))))))))⟩
 ·rintro⟨y0,y1,y2,y3,y4,y5,y6,y7,y8,y9,y10⟩;kernel_rfl
 ·rintro⟨y0,y1,y2,y3,y4,y5,y6,y7,y8,y9,y10⟩ z;exact(And.intro rfl trivial)
section
variable (x0 x1 x2:Int)(x3:List Int)(x4:List (Int×Int×Int))(x5:List (List Int))(x6:List (Int×Int×Int))(x7 x8:List (Int×Int))
def QV:Int×Int×Int×Int×List (List Int)×List Int×List (Int×Int×Int)×List (List Int)×List (Int×Int×Int)×List (Int×Int)×List (Int×Int):=((0:Int),x0,x1,x2,[],x3,x4,x5,x6,x7,x8)
def ml:List (List Int):=((Lp.res gi (QV x0 x1 x2 x3 x4 x5 x6 x7 x8)).2.2.2.2.2).1
def NA:Bool:=allT [Lp.fin gi (QV x0 x1 x2 x3 x4 x5 x6 x7 x8),leN x3.length (1048576:Nat),leN ((0:Nat) + List.length x4) (9223372036854775807:Nat),leN (((0:Nat) + List.length x4) * (24:Nat)) (140737488355328:Nat),leN ((0:Nat) + List.length x6) (9223372036854775807:Nat),leN (((0:Nat) + List.length x6) * (24:Nat)) (140737488355328:Nat),leN ((0:Nat) + List.length x7) (9223372036854775807:Nat),leN (((0:Nat) + List.length x7) * (16:Nat)) (140737488355328:Nat),leN ((0:Nat) + List.length x8) (9223372036854775807:Nat),leN (((0:Nat) + List.length x8) * (16:Nat)) (140737488355328:Nat)]
end
def aet:List SV→List Entry→Option Out
 | [.one ⟨true,[.val (.int .i64 x0),.ref 0,.ref 1,.ref 2,.ref 3,.val (.int .i64 x1),.ref 4,.ref 5,.val (.int .i64 x2)]⟩],[.row false 2 (.int .i64) x3,.row false 169 (.pair (.int .i64) (.pair (.int .i64) (.int .i64))) x4,.row false 24 (.sl 2 (.int .i64)) x5,.row false 100 (.pair (.int .i64) (.pair (.int .i64) (.int .i64))) x6,.row false 173 (.pair (.int .i64) (.int .i64)) x7,.row false 176 (.pair (.int .i64) (.int .i64)) x8]=>some ⟨.one ⟨true,[.val (.int .i64 x0),.ref 6,.ref 7,.ref 8,.ref 9,.val (.int .i64 x1),.ref 10,.ref 11,.val (.int .i64 x2)]⟩,[.row false 2 aiQ x3,.row false 169 acG x4,.row false 24 (CTy.sl (2:TypeId) aiQ) x5,.row false 100 acG x6,.row false 173 acH x7,.row false 176 acH x8],[.row true 2 aiQ x3,.row true 169 acG x4,.row true 24 (CTy.sl (2:Nat) aiQ) (ml x0 x1 x2 x3 x4 x5 x6 x7 x8),.row true 100 acG x6,.row true 173 acH x7,.row true 176 acH x8],[NA x0 x1 x2 x3 x4 x5 x6 x7 x8]⟩
 |_,_=>none
def qR:PF prog:=PF.ofG prog [qQ,PF.lend qQ,PF.fz qQ] [gi.F] aM 155 f155 func155 (LOk.fnT (l:= [aL f155 0]) (by kernel_rfl) (.cons ad9 (.nil _))) aet (by
 intro vs es r h;unfold aet at h;split at h
 ·cases h;kernel_rfl
 ·cases h)
section
variable (x0 x1 x3:Int)(x4:List Int)(x5:List (Int×Int×Int))(x6:List (List Int))(x7:List (Int×Int×Int))
def sZ:Bool:=Int.tmod (Option.getD x4[Int.toNat x3]? (0:Int)) (3:Int)!=(1:Int)
def TD:Bool:= !aeM x0 x4 (FZ x0 x4 x5 (0:Int)) (FZ x0 x4 x5 (1:Int)) x3
def NR:List Int:=Option.getD x6[Int.toNat x3]? (Ei (CTy.sl (2:TypeId) aiQ))
def Ht:Int:=bif sZ x3 x4 then(0:Int)else bif x1 !=(3:Int)then(1:Int)else bif TD x0 x3 x4 x5 then(2:Int)else bif bif cj x0 x3 x4 then !Yq (NR x3 x6) x7 else false then(3:Int)else(0:Int)
def QU:Bool:=allT [leI (0:Int) x3,ltI x3 (↑x4.length:Int),ltN x3.toNat x4.length,sZ x3 x4||leI (0:Int) x3,sZ x3 x4||ltI x3 (↑x6.length:Int),sZ x3 x4||ltN x3.toNat x6.length,sZ x3 x4||ag3 (NR x3 x6) x7,sZ x3 x4||(x1 !=(3:Int)||isT x0 x4&&ahC x0 x5),sZ x3 x4||(x1 !=(3:Int)||Yp x0 x4 (FZ x0 x4 x5 (0:Int)) (FZ x0 x4 x5 (1:Int)) x3),sZ x3 x4||(x1 !=(3:Int)||(TD x0 x3 x4 x5||rt x3 x4))]
end
def ab2:List SV→List Entry→Option Out
 | [.one ⟨true,[.val (.int .i64 x0),.ref 0,.ref 1,.ref 2,.ref 3,.val (.int .i64 x1),.ref 4,.ref 5,.val (.int .i64 _x2)]⟩,.one ⟨false,[.val (.int .i64 x3)]⟩],[.row false 2 (.int .i64) x4,.row false 169 (.pair (.int .i64) (.pair (.int .i64) (.int .i64))) x5,.row false 24 (.sl 2 (.int .i64)) x6,.row false 100 (.pair (.int .i64) (.pair (.int .i64) (.int .i64))) x7,.row false 173 (.pair (.int .i64) (.int .i64)) x8,.row false 176 (.pair (.int .i64) (.int .i64)) x9]=>some ⟨.one ⟨false,[.val (.int .i64 (Ht x0 x1 x3 x4 x5 x6 x7))]⟩,[.row false 2 aiQ x4,.row false 169 acG x5,.row false 24 (CTy.sl (2:TypeId) aiQ) x6,.row false 100 acG x7,.row false 173 acH x8,.row false 176 acH x9],[],[QU x0 x1 x3 x4 x5 x6 x7]⟩
 |_,_=>none
def Vu:PF prog:=PF.ofG prog [Vi,PF.lend Vi,PF.fz Vi,PL,PF.lend PL,PF.fz PL,Sd,PF.lend Sd,PF.fz Sd,gm,PF.lend gm,PF.fz gm] [] aM 177 f177 func177 (fun c _=>LOk.nil c) ab2 (by
 intro vs es r h;unfold ab2 at h;split at h
 ·cases h;kernel_rfl
 ·cases h)
section
variable (x0 x1 x2 x3 x4 x5 x6 x7 x8:Int)(x9:Bool)(x10:List Int)(x11:List (Int×Int×Int))(x12:List (List Int))(x13:List (Int×Int×Int))(x14 x15:List (Int×Int))
def lE:Bool:=Ht x0 x1 x4 x10 x11 x12 x13==(0:Int)
def gI:List Int:=Option.getD x12[Int.toNat x4]? (Ei (CTy.sl (2:TypeId) aiQ))
def jW:Bool:=vdC x1 x7 x8 x9 !=(0:Int)
def lF:Bool:=bif x7==(1:Int)then !ahJ x14 x15 x2 else false
def LV:Int:=bif x3==(0:Int)then bif lE x0 x1 x4 x10 x11 x12 x13 then x0 else x0 else bif x3==(1:Int)then bif !cj x0 x4 x10 then x0 else bif !kY (gI x4 x12) x5 x6 then x0 else x0 else bif jW x1 x7 x8 x9 then x0 else bif lF x2 x7 x14 x15 then x0 else x0
def LW:Int:=bif x3==(0:Int)then bif lE x0 x1 x4 x10 x11 x12 x13 then x1 else x1 else bif x3==(1:Int)then bif !cj x0 x4 x10 then x1 else bif !kY (gI x4 x12) x5 x6 then x1 else x1 else bif jW x1 x7 x8 x9 then x1 else bif lF x2 x7 x14 x15 then x1 else nxC x1 x7 x8 x9
def LX:Int:=bif x3==(0:Int)then bif lE x0 x1 x4 x10 x11 x12 x13 then x2 else x2 else bif x3==(1:Int)then bif !cj x0 x4 x10 then x2 else bif !kY (gI x4 x12) x5 x6 then x2 else x2 else bif jW x1 x7 x8 x9 then x2 else bif lF x2 x7 x14 x15 then x2 else x2
def HQ:Int:=bif x3==(0:Int)then bif lE x0 x1 x4 x10 x11 x12 x13 then Ht x0 x1 x4 x10 x11 x12 x13 else Ht x0 x1 x4 x10 x11 x12 x13 else bif x3==(1:Int)then bif !cj x0 x4 x10 then(4:Int)else bif !kY (gI x4 x12) x5 x6 then(5:Int)else(0:Int)else bif jW x1 x7 x8 x9 then(6:Int)else bif lF x2 x7 x14 x15 then(7:Int)else(0:Int)
def LY:List Int:=bif x3==(0:Int)then bif lE x0 x1 x4 x10 x11 x12 x13 then ahL x0 x10 x4 else x10 else bif x3==(1:Int)then bif !cj x0 x4 x10 then x10 else bif !kY (gI x4 x12) x5 x6 then x10 else x10 else bif jW x1 x7 x8 x9 then x10 else bif lF x2 x7 x14 x15 then x10 else x10
def LZ:List (Int×(Int×Int)):=bif x3==(0:Int)then bif lE x0 x1 x4 x10 x11 x12 x13 then x11 else x11 else bif x3==(1:Int)then bif !cj x0 x4 x10 then x11 else bif !kY (gI x4 x12) x5 x6 then x11 else x11 else bif jW x1 x7 x8 x9 then x11 else bif lF x2 x7 x14 x15 then x11 else x11
def Ma:List (List Int):=bif x3==(0:Int)then bif lE x0 x1 x4 x10 x11 x12 x13 then ml x0 x1 x2 x10 x11 x12 x13 x14 x15 else ml x0 x1 x2 x10 x11 x12 x13 x14 x15 else bif x3==(1:Int)then bif !cj x0 x4 x10 then ml x0 x1 x2 x10 x11 x12 x13 x14 x15 else bif !kY (gI x4 x12) x5 x6 then ml x0 x1 x2 x10 x11 x12 x13 x14 x15 else List.set (ml x0 x1 x2 x10 x11 x12 x13 x14 x15) x4.toNat (QX (gI x4 x12) x5 x6)else bif jW x1 x7 x8 x9 then ml x0 x1 x2 x10 x11 x12 x13 x14 x15 else bif lF x2 x7 x14 x15 then ml x0 x1 x2 x10 x11 x12 x13 x14 x15 else ml x0 x1 x2 x10 x11 x12 x13 x14 x15
def Mb:List (Int×(Int×Int)):=bif x3==(0:Int)then bif lE x0 x1 x4 x10 x11 x12 x13 then x13 else x13 else bif x3==(1:Int)then bif !cj x0 x4 x10 then x13 else bif !kY (gI x4 x12) x5 x6 then x13 else x13 else bif jW x1 x7 x8 x9 then x13 else bif lF x2 x7 x14 x15 then x13 else x13
def Mc:List (Int×Int):=bif x3==(0:Int)then bif lE x0 x1 x4 x10 x11 x12 x13 then x14 else x14 else bif x3==(1:Int)then bif !cj x0 x4 x10 then x14 else bif !kY (gI x4 x12) x5 x6 then x14 else x14 else bif jW x1 x7 x8 x9 then x14 else bif lF x2 x7 x14 x15 then x14 else x14
def Md:List (Int×Int):=bif x3==(0:Int)then bif lE x0 x1 x4 x10 x11 x12 x13 then x15 else x15 else bif x3==(1:Int)then bif !cj x0 x4 x10 then x15 else bif !kY (gI x4 x12) x5 x6 then x15 else x15 else bif jW x1 x7 x8 x9 then x15 else bif lF x2 x7 x14 x15 then x15 else x15
def NS:Bool:=allT [NA x0 x1 x2 x10 x11 x12 x13 x14 x15,!x3==(0:Int)||QU x0 x1 x4 x10 x11 x12 x13,!x3==(0:Int)||(!lE x0 x1 x4 x10 x11 x12 x13||ZG x0 x10 x4),x3==(0:Int)||(!x3==(1:Int)||leI (0:Int) x4),x3==(0:Int)||(!x3==(1:Int)||ltI x4 (↑x12.length:Int)),x3==(0:Int)||(!x3==(1:Int)||ltN x4.toNat x12.length),x3==(0:Int)||(!x3==(1:Int)||ag7 (gI x4 x12) x5 x6),x3==(0:Int)||(!x3==(1:Int)||rt x4 x10),x3==(0:Int)||(!x3==(1:Int)||(!cj x0 x4 x10||(!kY (gI x4 x12) x5 x6||leI (0:Int) x4))),x3==(0:Int)||(!x3==(1:Int)||(!cj x0 x4 x10||(!kY (gI x4 x12) x5 x6||ltI x4 (↑(List.length (ml x0 x1 x2 x10 x11 x12 x13 x14 x15)):Int)))),x3==(0:Int)||(!x3==(1:Int)||(!cj x0 x4 x10||(!kY (gI x4 x12) x5 x6||ltN x4.toNat (List.length (ml x0 x1 x2 x10 x11 x12 x13 x14 x15))))),x3==(0:Int)||(x3==(1:Int)||abH x1 x7),x3==(0:Int)||(x3==(1:Int)||(jW x1 x7 x8 x9||(!(x7==(1:Int)&&true)||leN x14.length (9223372036854775807:Nat)&&leN x15.length (9223372036854775807:Nat)))),x3==(0:Int)||(x3==(1:Int)||(jW x1 x7 x8 x9||(lF x2 x7 x14 x15||abH x1 x7)))]
end
def ab4:List SV→List Entry→Option Out
 | [.one ⟨true,[.val (.int .i64 x0),.ref 0,.ref 1,.ref 2,.ref 3,.val (.int .i64 x1),.ref 4,.ref 5,.val (.int .i64 x2)]⟩,.one ⟨true,[.val (.int .i64 x3),.val (.int .i64 x4),.val (.int .i64 x5),.val (.int .i64 x6),.val (.int .i64 x7),.val (.int .i64 x8),.val (.bool x9)]⟩],[.row false 2 (.int .i64) x10,.row false 169 (.pair (.int .i64) (.pair (.int .i64) (.int .i64))) x11,.row false 24 (.sl 2 (.int .i64)) x12,.row false 100 (.pair (.int .i64) (.pair (.int .i64) (.int .i64))) x13,.row false 173 (.pair (.int .i64) (.int .i64)) x14,.row false 176 (.pair (.int .i64) (.int .i64)) x15]=>some ⟨.tup [⟨true,[.val (.int .i64 (LV x0 x1 x2 x3 x4 x5 x6 x7 x8 x9 x10 x11 x12 x13 x14 x15)),.ref 6,.ref 7,.ref 8,.ref 9,.val (.int .i64 (LW x0 x1 x2 x3 x4 x5 x6 x7 x8 x9 x10 x11 x12 x13 x14 x15)),.ref 10,.ref 11,.val (.int .i64 (LX x0 x1 x2 x3 x4 x5 x6 x7 x8 x9 x10 x11 x12 x13 x14 x15))]⟩,⟨false,[.val (.int .i64 (HQ x0 x1 x2 x3 x4 x5 x6 x7 x8 x9 x10 x11 x12 x13 x14 x15))]⟩],[.row false 2 aiQ x10,.row false 169 acG x11,.row false 24 (CTy.sl (2:TypeId) aiQ) x12,.row false 100 acG x13,.row false 173 acH x14,.row false 176 acH x15],[.row true 2 aiQ (LY x0 x1 x2 x3 x4 x5 x6 x7 x8 x9 x10 x11 x12 x13 x14 x15),.row true 169 acG (LZ x0 x1 x2 x3 x4 x5 x6 x7 x8 x9 x10 x11 x12 x13 x14 x15),.row true 24 (CTy.sl (2:Nat) aiQ) (Ma x0 x1 x2 x3 x4 x5 x6 x7 x8 x9 x10 x11 x12 x13 x14 x15),.row true 100 acG (Mb x0 x1 x2 x3 x4 x5 x6 x7 x8 x9 x10 x11 x12 x13 x14 x15),.row true 173 acH (Mc x0 x1 x2 x3 x4 x5 x6 x7 x8 x9 x10 x11 x12 x13 x14 x15),.row true 176 acH (Md x0 x1 x2 x3 x4 x5 x6 x7 x8 x9 x10 x11 x12 x13 x14 x15)],[NS x0 x1 x2 x3 x4 x5 x6 x7 x8 x9 x10 x11 x12 x13 x14 x15]⟩
 |_,_=>none
def ve:PF prog:=PF.ofG prog [qR,PF.lend qR,PF.fz qR,Vu,PF.lend Vu,PF.fz Vu,Vj,PF.lend Vj,PF.fz Vj,Tv,PF.lend Tv,PF.fz Tv,agR,PK,PF.lend PK,PF.fz PK,ajV,gm,PF.lend gm,PF.fz gm] [] aM 98 f98 func98 (fun c _=>LOk.nil c) ab4 (by
 intro vs es r h;unfold ab4 at h;split at h
 ·cases h;kernel_rfl
 ·cases h)
abbrev nD:=Int×List (Int×(Int×((Int×Int)×(Int×(Int×Bool)))))×Int×Int×Int×Int×Int×Int×List Int×List (Int×(Int×Int))×List (List Int)×List (Int×(Int×Int))×List (Int×Int)×List (Int×Int)×List Int×List (Int×(Int×Int))×List (List Int)×List (Int×(Int×Int))×List (Int×Int)×List (Int×Int)
def Ag(y0:Int)(y1:List (Int×(Int×((Int×Int)×(Int×(Int×Bool)))))):Int×Int×(Int×Int)×Int×Int×Bool:=Option.getD y1[Int.toNat y0]? ((0:Int),(0:Int),((0:Int),(0:Int)),(0:Int),(0:Int),false)
def Ah(y0:Int)(y1:List (Int×(Int×((Int×Int)×(Int×(Int×Bool)))))):Int:=(Ag y0 y1).1
def Ai(y0:Int)(y1:List (Int×(Int×((Int×Int)×(Int×(Int×Bool)))))):Int×(Int×Int)×Int×Int×Bool:=(Ag y0 y1).2
def Aj(y0:Int)(y1:List (Int×(Int×((Int×Int)×(Int×(Int×Bool)))))):Int:=(Ai y0 y1).1
def sj(y0:Int)(y1:List (Int×(Int×((Int×Int)×(Int×(Int×Bool)))))):(Int×Int)×Int×Int×Bool:=(Ai y0 y1).2
def Ak(y0:Int)(y1:List (Int×(Int×((Int×Int)×(Int×(Int×Bool)))))):Int×Bool:=(sj y0 y1).2.2
def Cn(y0:Int)(y1:List (Int×(Int×((Int×Int)×(Int×(Int×Bool)))))):Bool:=ltI y0 (↑y1.length:Int)
def HE(y0:Int):Bool:=leI (0:Int) y0
def HF(y0:Int)(y1:List (Int×(Int×((Int×Int)×(Int×(Int×Bool)))))):Bool:=ltN y0.toNat y1.length
def HG(y0:Int)(y1:List (Int×(Int×((Int×Int)×(Int×(Int×Bool))))))(y2 y3 y4:Int)(y8:List Int)(y9:List (Int×(Int×Int)))(y10:List (List Int))(y11:List (Int×(Int×Int)))(y12 y13:List (Int×Int)):Bool:=zP y2 y3 y4 (Ah y0 y1) (Aj y0 y1) y8 y9 y10 y11 y12 y13
def HH(y0:Int)(y1:List (Int×(Int×((Int×Int)×(Int×(Int×Bool))))))(y2 y3 y4:Int)(y8:List Int)(y9:List (Int×(Int×Int)))(y10:List (List Int))(y11:List (Int×(Int×Int)))(y12 y13:List (Int×Int)):Bool:= !vq y2 y3 y4 (Ah y0 y1) (Aj y0 y1) ((sj y0 y1).1.1) ((sj y0 y1).1.2) (((sj y0 y1).2).1) ((Ak y0 y1).1) ((Ak y0 y1).2) y8 y9 y10 y11 y12 y13
def HI(y0:Int):Int:=IntKind.wrap .i64 (y0 + (1:Int))
def af9:nD→List (Nat×SV)
 |(y0,_,_,_,_,_,_,_,_,_,_,_,_,_,_,_,_,_,_,_)=> [(8,(.one ⟨false,[.val (.int .i64 y0)]⟩)),(1,(.one ⟨false,[.ref 0]⟩)),(2,(.one ⟨false,[.ptr 1 0]⟩)),(4,(.one ⟨false,[.ptr 2 0]⟩))]
def af0:nD→List (Nat×Entry)
 |(_,y1,y2,y3,y4,y5,y6,y7,y8,y9,y10,y11,y12,y13,y14,y15,y16,y17,y18,y19)=> [(0,(.row false 49 aa6 y1)),(1,(.box 33 [.val (.int .i64 y2),.ref 3,.ref 4,.ref 5,.ref 6,.val (.int .i64 y3),.ref 7,.ref 8,.val (.int .i64 y4)])),(2,(.box 33 [.val (.int .i64 y5),.ref 9,.ref 10,.ref 11,.ref 12,.val (.int .i64 y6),.ref 13,.ref 14,.val (.int .i64 y7)])),(3,(.row false 2 aiQ y8)),(4,(.row false 169 acG y9)),(5,(.row false 24 (CTy.sl (2:TypeId) aiQ) y10)),(6,(.row false 100 acG y11)),(7,(.row false 173 acH y12)),(8,(.row false 176 acH y13)),(9,(.row true 2 aiQ y14)),(10,(.row true 169 acG y15)),(11,(.row true 24 (CTy.sl (2:Nat) aiQ) y16)),(12,(.row true 100 acG y17)),(13,(.row true 173 acH y18)),(14,(.row true 176 acH y19))]
def ags:Nat→nD→List (Nat×SV)
 |0,(_,_,_,_,_,_,_,_,_,_,_,_,_,_,_,_,_,_,_,_)=> [(5,(.one ⟨false,[.ref 15]⟩)),(6,(.one ⟨false,[.val (.int .i64 (0:Int))]⟩)),(7,(.one ⟨false,[.val (.int .i64 (2:Int))]⟩))]
 |_,(_,_,_,_,_,_,_,_,_,_,_,_,_,_,_,_,_,_,_,_)=> []
def agj:Nat→nD→List (Nat×Entry)
 |0,(_,y1,y2,y3,y4,_,_,_,y8,y9,y10,y11,y12,y13,y14,y15,y16,y17,y18,y19)=> [(0,(.row false 49 aa6 y1)),(1,(.box 33 [.val (.int .i64 y2),.ref 3,.ref 4,.ref 5,.ref 6,.val (.int .i64 y3),.ref 7,.ref 8,.val (.int .i64 y4)])),(2,(.box 33 [.val (.int .i64 (0:Int)),.ref 16,.ref 17,.ref 18,.ref 19,.val (.int .i64 (0:Int)),.ref 20,.ref 21,.val (.int .i64 (0:Int))])),(3,(.row false 2 aiQ y8)),(4,(.row false 169 acG y9)),(5,(.row false 24 (CTy.sl (2:TypeId) aiQ) y10)),(6,(.row false 100 acG y11)),(7,(.row false 173 acH y12)),(8,(.row false 176 acH y13)),(9,(.row true 2 aiQ y14)),(10,(.row true 169 acG y15)),(11,(.row true 24 (CTy.sl (2:Nat) aiQ) y16)),(12,(.row true 100 acG y17)),(13,(.row true 173 acH y18)),(14,(.row true 176 acH y19)),(15,(.row true 2 aiQ [])),(16,(.row true 2 aiQ [])),(17,(.row true 169 acG [])),(18,(.row true 24 (CTy.sl (2:Nat) aiQ) [])),(19,(.row true 100 acG [])),(20,(.row true 173 acH [])),(21,(.row true 176 acH []))]
 |_,(_,y1,y2,y3,y4,y5,y6,y7,y8,y9,y10,y11,y12,y13,y14,y15,y16,y17,y18,y19)=> [(0,(.row false 49 aa6 y1)),(1,(.box 33 [.val (.int .i64 y2),.ref 3,.ref 4,.ref 5,.ref 6,.val (.int .i64 y3),.ref 7,.ref 8,.val (.int .i64 y4)])),(2,(.box 33 [.val (.int .i64 y5),.ref 9,.ref 10,.ref 11,.ref 12,.val (.int .i64 y6),.ref 13,.ref 14,.val (.int .i64 y7)])),(3,(.row false 2 aiQ y8)),(4,(.row false 169 acG y9)),(5,(.row false 24 (CTy.sl (2:TypeId) aiQ) y10)),(6,(.row false 100 acG y11)),(7,(.row false 173 acH y12)),(8,(.row false 176 acH y13)),(9,(.row true 2 aiQ y14)),(10,(.row true 169 acG y15)),(11,(.row true 24 (CTy.sl (2:Nat) aiQ) y16)),(12,(.row true 100 acG y17)),(13,(.row true 173 acH y18)),(14,(.row true 176 acH y19))]
def Eu:nD→LT nD
 |(y0,y1,y2,y3,y4,y5,y6,y7,y8,y9,y10,y11,y12,y13,y14,y15,y16,y17,y18,y19)=> .ite (Cn y0 y1) (.need [HE y0,Cn y0 y1,HF y0 y1,HG y0 y1 y2 y3 y4 y8 y9 y10 y11 y12 y13] (.ite (HH y0 y1 y2 y3 y4 y8 y9 y10 y11 y12 y13) (.ext 0 [(0,0),(1,1),(2,2),(3,3),(4,4),(5,5),(6,6),(7,7),(8,8),(9,9),(10,10),(11,11),(12,12),(13,13),(14,14),(15,896),(16,768),(17,769),(18,770),(19,771),(20,772),(21,773)]) (.nrm ((HI y0),y1,y2,y3,y4,y5,y6,y7,y8,y9,y10,y11,y12,y13,y14,y15,y16,y17,y18,y19) [(0,0),(1,1),(2,2),(3,3),(4,4),(5,5),(6,6),(7,7),(8,8),(9,9),(10,10),(11,11),(12,12),(13,13),(14,14)]))) (.ext 1 [(0,0),(1,1),(2,2),(3,3),(4,4),(5,5),(6,6),(7,7),(8,8),(9,9),(10,10),(11,11),(12,12),(13,13),(14,14)])
def Qi(s:St):Option nD:=
 (match s.look 8 with
 |some ⟨none,.one ⟨false,[.val (.int .i64 y0)]⟩⟩=>
 (match s.look 1 with
 |some ⟨none,.one ⟨false,[.ref 6]⟩⟩=>
 (match s.look 2 with
 |some ⟨none,.one ⟨false,[.ptr 512 0]⟩⟩=>
 (match s.look 4 with
 |some ⟨none,.one ⟨false,[.ptr 576 0]⟩⟩=>
 (match s.ent 6 with
 |some (.row false 49 (.pair (.int .i64) (.pair (.int .i64) (.pair (.pair (.int .i64) (.int .i64)) (.pair (.int .i64) (.pair (.int .i64) .bool))))) y1)=>
 (match s.ent 512 with
 |some (.box 33 [.val (.int .i64 y2),.ref 0,.ref 1,.ref 2,.ref 3,.val (.int .i64 y3),.ref 4,.ref 5,.val (.int .i64 y4)])=>
 (match s.ent 576 with
 |some (.box 33 [.val (.int .i64 y5),.ref 577,.ref 578,.ref 579,.ref 580,.val (.int .i64 y6),.ref 581,.ref 582,.val (.int .i64 y7)])=>
 (match s.ent 0 with
 |some (.row false 2 (.int .i64) y8)=>
 (match s.ent 1 with
 |some (.row false 169 (.pair (.int .i64) (.pair (.int .i64) (.int .i64))) y9)=>
 (match s.ent 2 with
 |some (.row false 24 (.sl 2 (.int .i64)) y10)=>
 (match s.ent 3 with
 |some (.row false 100 (.pair (.int .i64) (.pair (.int .i64) (.int .i64))) y11)=>
 (match s.ent 4 with
 |some (.row false 173 (.pair (.int .i64) (.int .i64)) y12)=>
 (match s.ent 5 with
 |some (.row false 176 (.pair (.int .i64) (.int .i64)) y13)=>
 (match s.ent 577 with
 |some (.row true 2 (.int .i64) y14)=>
 (match s.ent 578 with
 |some (.row true 169 (.pair (.int .i64) (.pair (.int .i64) (.int .i64))) y15)=>
 (match s.ent 579 with
 |some (.row true 24 (.sl 2 (.int .i64)) y16)=>
 (match s.ent 580 with
 |some (.row true 100 (.pair (.int .i64) (.pair (.int .i64) (.int .i64))) y17)=>
 (match s.ent 581 with
 |some (.row true 173 (.pair (.int .i64) (.int .i64)) y18)=>
 (match s.ent 582 with
 |some (.row true 176 (.pair (.int .i64) (.int .i64)) y19)=>
 some (y0,y1,y2,y3,y4,y5,y6,y7,y8,y9,y10,y11,y12,y13,y14,y15,y16,y17,y18,y19)
 |_=>none)
 |_=>none)
 |_=>none)
 |_=>none)
 |_=>none)
 |_=>none)
 |_=>none)
 |_=>none)
 |_=>none)
 |_=>none)
 |_=>none)
 |_=>none)
 |_=>none)
 |_=>none)
 |_=>none)
 |_=>none)
 |_=>none)
 |_=>none)
 |_=>none)
def eJ:Lp nD where
 h:=⟨[23,24,25,26,29,30,31,32,33,34,35,36,5,6,7,27,28,8],[0,1,2,3,4,5,6,7,8,9,10,11,12,13,14],[],[15,16,17,18,19,20,21]⟩
 JL:=af9
 JE:=af0
 XL:=ags
 XE:=agj
 q:=fun j=>match j with | 0=> .ret | _=> .exit 0
 tags:= [0,1]
 lt:=Eu
 fuel:=fun(y0,y1,y2,y3,y4,y5,y6,y7,y8,y9,y10,y11,y12,y13,y14,y15,y16,y17,y18,y19)=>y0.natAbs + y1.length + y2.natAbs + y3.natAbs + y4.natAbs + y5.natAbs + y6.natAbs + y7.natAbs + y8.length + y9.length + y10.length + y11.length + y12.length + y13.length + y14.length + y15.length + y16.length + y17.length + y18.length + y19.length
 fix:=fun(_,y1,y2,y3,y4,y5,y6,y7,y8,y9,y10,y11,y12,y13,y14,y15,y16,y17,y18,y19) (y0,_,_,_,_,_,_,_,_,_,_,_,_,_,_,_,_,_,_,_)=>(y0,y1,y2,y3,y4,y5,y6,y7,y8,y9,y10,y11,y12,y13,y14,y15,y16,y17,y18,y19)
 σ:= [(0,6),(1,512),(2,576),(3,0),(4,1),(5,2),(6,3),(7,4),(8,5),(9,577),(10,578),(11,579),(12,580),(13,581),(14,582)]
 rd:=Qi
theorem aea:LoopOk prog (fun k=>Nat.blt k Tryz.f57.ntmps) eJ.F (aL f57 0):=by
 refine Lp.ok (tbl:= [qR,PF.lend qR,PF.fz qR,qP,PF.lend qP,PF.fz qP,eM,PF.lend eM,PF.fz eM,gm,PF.lend gm,PF.fz gm,ve,PF.lend ve,PF.fz ve]) (lf:= []) aM eJ (by kernel_rfl) (LOk.nil _) (fun _=>rfl) (fun j _=>by unfold eJ;match j with | 0=>rfl | _ + 1=>rfl) ?_ ?_ ?_ ?_ (fun _=>rfl) ?_
 ·rintro⟨y0,y1,y2,y3,y4,y5,y6,y7,y8,y9,y10,y11,y12,y13,y14,y15,y16,y17,y18,y19⟩;kernel_rfl
 ·rintro⟨y0,y1,y2,y3,y4,y5,y6,y7,y8,y9,y10,y11,y12,y13,y14,y15,y16,y17,y18,y19⟩;kernel_rfl
 ·intro s x h
  have h:Qi s=some x:=h
  unfold Qi at h
  repeat' split at h
  all_goals cases h
  exact⟨aa (by assumption) rfl (aa (by assumption) rfl (aa (by assumption) rfl (aa (by assumption) rfl (rfl)))),ab rfl (by assumption) rfl (ab rfl (by assumption) rfl (ab rfl (by assumption) rfl (ab rfl (by assumption) rfl (ab rfl (by assumption) rfl (ab rfl (by assumption) rfl (ab rfl (by assumption) rfl (ab rfl (by assumption) rfl (ab rfl (by assumption) rfl (ab rfl (by assumption) rfl (ab rfl (by assumption) rfl (ab rfl (by assumption) rfl (ab rfl (by assumption) rfl (ab rfl (by assumption) rfl (ab rfl (by assumption) rfl (rfl)))))))))))))))⟩
 ·rintro⟨y0,y1,y2,y3,y4,y5,y6,y7,y8,y9,y10,y11,y12,y13,y14,y15,y16,y17,y18,y19⟩;kernel_rfl
 ·rintro⟨y0,y1,y2,y3,y4,y5,y6,y7,y8,y9,y10,y11,y12,y13,y14,y15,y16,y17,y18,y19⟩ z;exact(And.intro (And.intro trivial rfl) trivial)
abbrev nE:=Int×Int×List (Int×(Int×((Int×Int)×(Int×(Int×Bool)))))×Int×Int×Int×List Int×List Int×List (Int×(Int×Int))×List (List Int)×List (Int×(Int×Int))×List (Int×Int)×List (Int×Int)
def Al(y0:Int)(y2:List (Int×(Int×((Int×Int)×(Int×(Int×Bool)))))):Bool:=ltI y0 (↑y2.length:Int)
def Am(y0:Int)(y2:List (Int×(Int×((Int×Int)×(Int×(Int×Bool)))))):Bool:=ltN y0.toNat y2.length
def An(y0:Int)(y2:List (Int×(Int×((Int×Int)×(Int×(Int×Bool)))))):Int×Int×(Int×Int)×Int×Int×Bool:=Option.getD y2[Int.toNat y0]? ((0:Int),(0:Int),((0:Int),(0:Int)),(0:Int),(0:Int),false)
def dW(y0:Int)(y2:List (Int×(Int×((Int×Int)×(Int×(Int×Bool)))))):Int:=(An y0 y2).1
def Ao(y0:Int)(y2:List (Int×(Int×((Int×Int)×(Int×(Int×Bool)))))):Int×(Int×Int)×Int×Int×Bool:=(An y0 y2).2
def dw(y0:Int)(y2:List (Int×(Int×((Int×Int)×(Int×(Int×Bool)))))):Int:=(Ao y0 y2).1
def sk(y0:Int)(y2:List (Int×(Int×((Int×Int)×(Int×(Int×Bool)))))):(Int×Int)×Int×Int×Bool:=(Ao y0 y2).2
def eW(y0:Int)(y2:List (Int×(Int×((Int×Int)×(Int×(Int×Bool)))))):Int:=(sk y0 y2).1.1
def eX(y0:Int)(y2:List (Int×(Int×((Int×Int)×(Int×(Int×Bool)))))):Int:=(sk y0 y2).1.2
def eY(y0:Int)(y2:List (Int×(Int×((Int×Int)×(Int×(Int×Bool)))))):Int:=((sk y0 y2).2).1
def bc(y0:Int)(y2:List (Int×(Int×((Int×Int)×(Int×(Int×Bool)))))):Int×Bool:=(sk y0 y2).2.2
def xw(y0:Int)(y2:List (Int×(Int×((Int×Int)×(Int×(Int×Bool))))))(y3 y4 y5:Int)(y7:List Int)(y8:List (Int×(Int×Int)))(y9:List (List Int))(y10:List (Int×(Int×Int)))(y11 y12:List (Int×Int)):Int:=HQ y3 y4 y5 (dW y0 y2) (dw y0 y2) (eW y0 y2) (eX y0 y2) (eY y0 y2) ((bc y0 y2).1) ((bc y0 y2).2) y7 y8 y9 y10 y11 y12
def xx(y0:Int)(y2:List (Int×(Int×((Int×Int)×(Int×(Int×Bool))))))(y3 y4 y5:Int)(y7:List Int)(y8:List (Int×(Int×Int)))(y9:List (List Int))(y10:List (Int×(Int×Int)))(y11 y12:List (Int×Int)):Bool:=bif dW y0 y2==(0:Int)then xw y0 y2 y3 y4 y5 y7 y8 y9 y10 y11 y12==(0:Int)else false
def qJ(y0:Int)(y2:List (Int×(Int×((Int×Int)×(Int×(Int×Bool))))))(y3 y4 y5:Int)(y7:List Int)(y8:List (Int×(Int×Int)))(y9:List (List Int))(y10:List (Int×(Int×Int)))(y11 y12:List (Int×Int)):Bool:= !(xx y0 y2 y3 y4 y5 y7 y8 y9 y10 y11 y12&&true)
def tv(y0:Int)(y2:List (Int×(Int×((Int×Int)×(Int×(Int×Bool))))))(y3 y4 y5:Int)(y7:List Int)(y8:List (Int×(Int×Int)))(y9:List (List Int))(y10:List (Int×(Int×Int)))(y11 y12:List (Int×Int)):List Int:= [xw y0 y2 y3 y4 y5 y7 y8 y9 y10 y11 y12]
def xu(y0:Int)(y2:List (Int×(Int×((Int×Int)×(Int×(Int×Bool)))))):Bool:=Al y0 y2
def Co(y0:Int):Bool:=leI (0:Int) y0
def Cp(y0:Int)(y2:List (Int×(Int×((Int×Int)×(Int×(Int×Bool)))))):Bool:=Am y0 y2
def HJ(y0:Int)(y2:List (Int×(Int×((Int×Int)×(Int×(Int×Bool))))))(y3 y4 y5:Int)(y7:List Int)(y8:List (Int×(Int×Int)))(y9:List (List Int))(y10:List (Int×(Int×Int)))(y11 y12:List (Int×Int)):Bool:=NS y3 y4 y5 (dW y0 y2) (dw y0 y2) (eW y0 y2) (eX y0 y2) (eY y0 y2) ((bc y0 y2).1) ((bc y0 y2).2) y7 y8 y9 y10 y11 y12
def HK(y0:Int)(y2:List (Int×(Int×((Int×Int)×(Int×(Int×Bool))))))(y3 y4 y5:Int)(y7:List Int)(y8:List (Int×(Int×Int)))(y9:List (List Int))(y10:List (Int×(Int×Int)))(y11 y12:List (Int×Int)):Bool:=qJ y0 y2 y3 y4 y5 y7 y8 y9 y10 y11 y12||leI (0:Int) y0
def HL(y0:Int)(y2:List (Int×(Int×((Int×Int)×(Int×(Int×Bool))))))(y3 y4 y5:Int)(y7:List Int)(y8:List (Int×(Int×Int)))(y9:List (List Int))(y10:List (Int×(Int×Int)))(y11 y12:List (Int×Int)):Bool:=qJ y0 y2 y3 y4 y5 y7 y8 y9 y10 y11 y12||Al y0 y2
def HM(y0:Int)(y2:List (Int×(Int×((Int×Int)×(Int×(Int×Bool))))))(y3 y4 y5:Int)(y7:List Int)(y8:List (Int×(Int×Int)))(y9:List (List Int))(y10:List (Int×(Int×Int)))(y11 y12:List (Int×Int)):Bool:=qJ y0 y2 y3 y4 y5 y7 y8 y9 y10 y11 y12||Am y0 y2
def HN(y0:Int)(y2:List (Int×(Int×((Int×Int)×(Int×(Int×Bool))))))(y3 y4 y5:Int)(y7:List Int)(y8:List (Int×(Int×Int)))(y9:List (List Int))(y10:List (Int×(Int×Int)))(y11 y12:List (Int×Int)):Bool:=qJ y0 y2 y3 y4 y5 y7 y8 y9 y10 y11 y12||rt (dw y0 y2) y7
def HO(y0:Int)(y2:List (Int×(Int×((Int×Int)×(Int×(Int×Bool))))))(y3 y4 y5:Int)(y6 y7:List Int)(y8:List (Int×(Int×Int)))(y9:List (List Int))(y10:List (Int×(Int×Int)))(y11 y12:List (Int×Int)):Bool:=leN (List.length y6 + List.length (tv y0 y2 y3 y4 y5 y7 y8 y9 y10 y11 y12)) (9223372036854775807:Nat)
def HP(y0:Int)(y2:List (Int×(Int×((Int×Int)×(Int×(Int×Bool))))))(y3 y4 y5:Int)(y6 y7:List Int)(y8:List (Int×(Int×Int)))(y9:List (List Int))(y10:List (Int×(Int×Int)))(y11 y12:List (Int×Int)):Bool:=leN ((List.length y6 + List.length (tv y0 y2 y3 y4 y5 y7 y8 y9 y10 y11 y12)) * (8:Nat)) (140737488355328:Nat)
def Fd(y0:Int):Int:=IntKind.wrap .i64 (y0 + (1:Int))
def Fe(y0 y1:Int)(y2:List (Int×(Int×((Int×Int)×(Int×(Int×Bool))))))(y3 y4 y5:Int)(y7:List Int)(y8:List (Int×(Int×Int)))(y9:List (List Int))(y10:List (Int×(Int×Int)))(y11 y12:List (Int×Int)):Int:=bif bif xx y0 y2 y3 y4 y5 y7 y8 y9 y10 y11 y12 then cj y3 (dw y0 y2) y7 else false then IntKind.wrap .i64 (y1 + (1:Int))else y1
def Ff(y0:Int)(y2:List (Int×(Int×((Int×Int)×(Int×(Int×Bool))))))(y3 y4 y5:Int)(y7:List Int)(y8:List (Int×(Int×Int)))(y9:List (List Int))(y10:List (Int×(Int×Int)))(y11 y12:List (Int×Int)):Int:=LV y3 y4 y5 (dW y0 y2) (dw y0 y2) (eW y0 y2) (eX y0 y2) (eY y0 y2) ((bc y0 y2).1) ((bc y0 y2).2) y7 y8 y9 y10 y11 y12
def Fg(y0:Int)(y2:List (Int×(Int×((Int×Int)×(Int×(Int×Bool))))))(y3 y4 y5:Int)(y7:List Int)(y8:List (Int×(Int×Int)))(y9:List (List Int))(y10:List (Int×(Int×Int)))(y11 y12:List (Int×Int)):Int:=LW y3 y4 y5 (dW y0 y2) (dw y0 y2) (eW y0 y2) (eX y0 y2) (eY y0 y2) ((bc y0 y2).1) ((bc y0 y2).2) y7 y8 y9 y10 y11 y12
def Fh(y0:Int)(y2:List (Int×(Int×((Int×Int)×(Int×(Int×Bool))))))(y3 y4 y5:Int)(y7:List Int)(y8:List (Int×(Int×Int)))(y9:List (List Int))(y10:List (Int×(Int×Int)))(y11 y12:List (Int×Int)):Int:=LX y3 y4 y5 (dW y0 y2) (dw y0 y2) (eW y0 y2) (eX y0 y2) (eY y0 y2) ((bc y0 y2).1) ((bc y0 y2).2) y7 y8 y9 y10 y11 y12
def Fi(y0:Int)(y2:List (Int×(Int×((Int×Int)×(Int×(Int×Bool))))))(y3 y4 y5:Int)(y6 y7:List Int)(y8:List (Int×(Int×Int)))(y9:List (List Int))(y10:List (Int×(Int×Int)))(y11 y12:List (Int×Int)):List Int:=y6++tv y0 y2 y3 y4 y5 y7 y8 y9 y10 y11 y12
def Fj(y0:Int)(y2:List (Int×(Int×((Int×Int)×(Int×(Int×Bool))))))(y3 y4 y5:Int)(y7:List Int)(y8:List (Int×(Int×Int)))(y9:List (List Int))(y10:List (Int×(Int×Int)))(y11 y12:List (Int×Int)):List Int:=LY y3 y4 y5 (dW y0 y2) (dw y0 y2) (eW y0 y2) (eX y0 y2) (eY y0 y2) ((bc y0 y2).1) ((bc y0 y2).2) y7 y8 y9 y10 y11 y12
def Fk(y0:Int)(y2:List (Int×(Int×((Int×Int)×(Int×(Int×Bool))))))(y3 y4 y5:Int)(y7:List Int)(y8:List (Int×(Int×Int)))(y9:List (List Int))(y10:List (Int×(Int×Int)))(y11 y12:List (Int×Int)):List (Int×(Int×Int)):=LZ y3 y4 y5 (dW y0 y2) (dw y0 y2) (eW y0 y2) (eX y0 y2) (eY y0 y2) ((bc y0 y2).1) ((bc y0 y2).2) y7 y8 y9 y10 y11 y12
def Fl(y0:Int)(y2:List (Int×(Int×((Int×Int)×(Int×(Int×Bool))))))(y3 y4 y5:Int)(y7:List Int)(y8:List (Int×(Int×Int)))(y9:List (List Int))(y10:List (Int×(Int×Int)))(y11 y12:List (Int×Int)):List (List Int):=Ma y3 y4 y5 (dW y0 y2) (dw y0 y2) (eW y0 y2) (eX y0 y2) (eY y0 y2) ((bc y0 y2).1) ((bc y0 y2).2) y7 y8 y9 y10 y11 y12
def Fm(y0:Int)(y2:List (Int×(Int×((Int×Int)×(Int×(Int×Bool))))))(y3 y4 y5:Int)(y7:List Int)(y8:List (Int×(Int×Int)))(y9:List (List Int))(y10:List (Int×(Int×Int)))(y11 y12:List (Int×Int)):List (Int×(Int×Int)):=Mb y3 y4 y5 (dW y0 y2) (dw y0 y2) (eW y0 y2) (eX y0 y2) (eY y0 y2) ((bc y0 y2).1) ((bc y0 y2).2) y7 y8 y9 y10 y11 y12
def Fo(y0:Int)(y2:List (Int×(Int×((Int×Int)×(Int×(Int×Bool))))))(y3 y4 y5:Int)(y7:List Int)(y8:List (Int×(Int×Int)))(y9:List (List Int))(y10:List (Int×(Int×Int)))(y11 y12:List (Int×Int)):List (Int×Int):=Mc y3 y4 y5 (dW y0 y2) (dw y0 y2) (eW y0 y2) (eX y0 y2) (eY y0 y2) ((bc y0 y2).1) ((bc y0 y2).2) y7 y8 y9 y10 y11 y12
def Fp(y0:Int)(y2:List (Int×(Int×((Int×Int)×(Int×(Int×Bool))))))(y3 y4 y5:Int)(y7:List Int)(y8:List (Int×(Int×Int)))(y9:List (List Int))(y10:List (Int×(Int×Int)))(y11 y12:List (Int×Int)):List (Int×Int):=Md y3 y4 y5 (dW y0 y2) (dw y0 y2) (eW y0 y2) (eX y0 y2) (eY y0 y2) ((bc y0 y2).1) ((bc y0 y2).2) y7 y8 y9 y10 y11 y12
def aga:nE→List (Nat×SV)
 |(y0,y1,_,_,_,_,_,_,_,_,_,_,_)=> [(12,(.one ⟨false,[.val (.int .i64 y0)]⟩)),(1,(.one ⟨false,[.ref 0]⟩)),(9,(.one ⟨false,[.ptr 1 0]⟩)),(11,(.one ⟨false,[.val (.int .i64 y1)]⟩)),(10,(.one ⟨false,[.ref 2]⟩))]
def af1:nE→List (Nat×Entry)
 |(_,_,y2,y3,y4,y5,y6,y7,y8,y9,y10,y11,y12)=> [(0,(.row false 49 aa6 y2)),(1,(.box 33 [.val (.int .i64 y3),.ref 3,.ref 4,.ref 5,.ref 6,.val (.int .i64 y4),.ref 7,.ref 8,.val (.int .i64 y5)])),(2,(.row true 2 aiQ y6)),(3,(.row true 2 aiQ y7)),(4,(.row true 169 acG y8)),(5,(.row true 24 (CTy.sl (2:Nat) aiQ) y9)),(6,(.row true 100 acG y10)),(7,(.row true 173 acH y11)),(8,(.row true 176 acH y12))]
def agt:Nat→nE→List (Nat×SV)
 |_,(_,y1,_,_,_,_,_,_,_,_,_,_,_)=> [(11,(.one ⟨false,[.val (.int .i64 y1)]⟩)),(10,(.one ⟨false,[.ref 2]⟩))]
def agk:Nat→nE→List (Nat×Entry)
 |_,(_,_,y2,y3,y4,y5,y6,y7,y8,y9,y10,y11,y12)=> [(0,(.row false 49 aa6 y2)),(1,(.box 33 [.val (.int .i64 y3),.ref 3,.ref 4,.ref 5,.ref 6,.val (.int .i64 y4),.ref 7,.ref 8,.val (.int .i64 y5)])),(2,(.row true 2 aiQ y6)),(3,(.row true 2 aiQ y7)),(4,(.row true 169 acG y8)),(5,(.row true 24 (CTy.sl (2:Nat) aiQ) y9)),(6,(.row true 100 acG y10)),(7,(.row true 173 acH y11)),(8,(.row true 176 acH y12))]
def Ev:nE→LT nE
 |(y0,y1,y2,y3,y4,y5,y6,y7,y8,y9,y10,y11,y12)=> .ite (xu y0 y2) (.need [Co y0,xu y0 y2,Cp y0 y2,HJ y0 y2 y3 y4 y5 y7 y8 y9 y10 y11 y12] (.need [Co y0,xu y0 y2,Cp y0 y2,HK y0 y2 y3 y4 y5 y7 y8 y9 y10 y11 y12,HL y0 y2 y3 y4 y5 y7 y8 y9 y10 y11 y12,HM y0 y2 y3 y4 y5 y7 y8 y9 y10 y11 y12,HN y0 y2 y3 y4 y5 y7 y8 y9 y10 y11 y12] (.need [HO y0 y2 y3 y4 y5 y6 y7 y8 y9 y10 y11 y12,HP y0 y2 y3 y4 y5 y6 y7 y8 y9 y10 y11 y12] (.nrm ((Fd y0),Fe y0 y1 y2 y3 y4 y5 y7 y8 y9 y10 y11 y12,y2,Ff y0 y2 y3 y4 y5 y7 y8 y9 y10 y11 y12,Fg y0 y2 y3 y4 y5 y7 y8 y9 y10 y11 y12,Fh y0 y2 y3 y4 y5 y7 y8 y9 y10 y11 y12,Fi y0 y2 y3 y4 y5 y6 y7 y8 y9 y10 y11 y12,Fj y0 y2 y3 y4 y5 y7 y8 y9 y10 y11 y12,Fk y0 y2 y3 y4 y5 y7 y8 y9 y10 y11 y12,Fl y0 y2 y3 y4 y5 y7 y8 y9 y10 y11 y12,Fm y0 y2 y3 y4 y5 y7 y8 y9 y10 y11 y12,Fo y0 y2 y3 y4 y5 y7 y8 y9 y10 y11 y12,(Fp y0 y2 y3 y4 y5 y7 y8 y9 y10 y11 y12)) [(0,0),(1,1),(2,2816),(3,640),(4,641),(5,642),(6,643),(7,644),(8,645)])))) (.ext 0 [(0,0),(1,1),(2,2),(3,3),(4,4),(5,5),(6,6),(7,7),(8,8)])
def Qj(s:St):Option nE:=
 (match s.look 12 with
 |some ⟨none,.one ⟨false,[.val (.int .i64 y0)]⟩⟩=>
 (match s.look 1 with
 |some ⟨none,.one ⟨false,[.ref 6]⟩⟩=>
 (match s.look 9 with
 |some ⟨none,.one ⟨false,[.ptr 1536 0]⟩⟩=>
 (match s.look 11 with
 |some ⟨none,.one ⟨false,[.val (.int .i64 y1)]⟩⟩=>
 (match s.look 10 with
 |some ⟨none,.one ⟨false,[.ref 1472]⟩⟩=>
 (match s.ent 6 with
 |some (.row false 49 (.pair (.int .i64) (.pair (.int .i64) (.pair (.pair (.int .i64) (.int .i64)) (.pair (.int .i64) (.pair (.int .i64) .bool))))) y2)=>
 (match s.ent 1536 with
 |some (.box 33 [.val (.int .i64 y3),.ref 1408,.ref 1409,.ref 1410,.ref 1411,.val (.int .i64 y4),.ref 1412,.ref 1413,.val (.int .i64 y5)])=>
 (match s.ent 1472 with
 |some (.row true 2 (.int .i64) y6)=>
 (match s.ent 1408 with
 |some (.row true 2 (.int .i64) y7)=>
 (match s.ent 1409 with
 |some (.row true 169 (.pair (.int .i64) (.pair (.int .i64) (.int .i64))) y8)=>
 (match s.ent 1410 with
 |some (.row true 24 (.sl 2 (.int .i64)) y9)=>
 (match s.ent 1411 with
 |some (.row true 100 (.pair (.int .i64) (.pair (.int .i64) (.int .i64))) y10)=>
 (match s.ent 1412 with
 |some (.row true 173 (.pair (.int .i64) (.int .i64)) y11)=>
 (match s.ent 1413 with
 |some (.row true 176 (.pair (.int .i64) (.int .i64)) y12)=>
 some (y0,y1,y2,y3,y4,y5,y6,y7,y8,y9,y10,y11,y12)
 |_=>none)
 |_=>none)
 |_=>none)
 |_=>none)
 |_=>none)
 |_=>none)
 |_=>none)
 |_=>none)
 |_=>none)
 |_=>none)
 |_=>none)
 |_=>none)
 |_=>none)
 |_=>none)
def eK:Lp nE where
 h:=⟨[40,41,42,43,47,48,49,50,51,52,46,53,54,13,14,55,56,57,58,59,60,61,62,63,64,65,66,67,68,69,70,71,72,73,74,75,11,76,77,78,79,80,10,44,45,12],[0,1],[2,3,4,5,6,7,8],[]⟩
 JL:=aga
 JE:=af1
 XL:=agt
 XE:=agk
 q:=fun j=>match j with | _=> .exit 2
 tags:= [0]
 lt:=Ev
 fuel:=fun(y0,y1,y2,y3,y4,y5,y6,y7,y8,y9,y10,y11,y12)=>y0.natAbs + y1.natAbs + y2.length + y3.natAbs + y4.natAbs + y5.natAbs + y6.length + y7.length + y8.length + y9.length + y10.length + y11.length + y12.length
 fix:=fun(_,_,y2,_,_,_,_,_,_,_,_,_,_) (y0,y1,_,y3,y4,y5,y6,y7,y8,y9,y10,y11,y12)=>(y0,y1,y2,y3,y4,y5,y6,y7,y8,y9,y10,y11,y12)
 σ:= [(0,6),(1,1536),(2,1472),(3,1408),(4,1409),(5,1410),(6,1411),(7,1412),(8,1413)]
 rd:=Qj
theorem aeb:LoopOk prog (fun k=>Nat.blt k Tryz.f57.ntmps) eK.F (aL f57 1):=by
 refine Lp.ok (tbl:= [qR,PF.lend qR,PF.fz qR,qP,PF.lend qP,PF.fz qP,eM,PF.lend eM,PF.fz eM,gm,PF.lend gm,PF.fz gm,ve,PF.lend ve,PF.fz ve]) (lf:= []) aM eK (by kernel_rfl) (LOk.nil _) (fun _=>rfl) (fun _ _=>rfl) ?_ ?_ ?_ ?_ (fun _=>rfl) ?_
 ·rintro⟨y0,y1,y2,y3,y4,y5,y6,y7,y8,y9,y10,y11,y12⟩;kernel_rfl
 ·rintro⟨y0,y1,y2,y3,y4,y5,y6,y7,y8,y9,y10,y11,y12⟩;kernel_rfl
 ·intro s x h
  have h:Qj s=some x:=h
  unfold Qj at h
  repeat' split at h
  all_goals cases h
  exact⟨aa (by assumption) rfl (aa (by assumption) rfl (aa (by assumption) rfl (aa (by assumption) rfl (aa (by assumption) rfl (rfl))))),ab rfl (by assumption) rfl (ab rfl (by assumption) rfl (ab rfl (by assumption) rfl (ab rfl (by assumption) rfl (ab rfl (by assumption) rfl (ab rfl (by assumption) rfl (ab rfl (by assumption) rfl (ab rfl (by assumption) rfl (ab rfl (by assumption) rfl (rfl)))))))))⟩
 ·rintro⟨y0,y1,y2,y3,y4,y5,y6,y7,y8,y9,y10,y11,y12⟩;kernel_rfl
 ·rintro⟨y0,y1,y2,y3,y4,y5,y6,y7,y8,y9,y10,y11,y12⟩ z;exact(And.intro rfl trivial)
section
variable (x0 x1 x2:Int)(x3:List Int)(x4:List (Int×Int×Int))(x5:List (List Int))(x6:List (Int×Int×Int))(x7 x8:List (Int×Int))(x9:List (Int×Int×(Int×Int)×Int×Int×Bool))
def iE:Bool:=ltI (200:Int) (↑x9.length:Int)
def QW:Int×List (Int×Int×(Int×Int)×Int×Int×Bool)×Int×Int×Int×Int×Int×Int×List Int×List (Int×Int×Int)×List (List Int)×List (Int×Int×Int)×List (Int×Int)×List (Int×Int)×List Int×List (Int×Int×Int)×List (List Int)×List (Int×Int×Int)×List (Int×Int)×List (Int×Int):=((0:Int),x9,x0,x1,x2,(0:Int),(0:Int),(0:Int),x3,x4,x5,x6,x7,x8,[],[],[],[],[],[])
def iF:Bool:=Nat.beq ((Lp.res eJ (QW x0 x1 x2 x3 x4 x5 x6 x7 x8 x9)).1) (0:Nat)
def HD:Int×Int×List (Int×Int×(Int×Int)×Int×Int×Bool)×Int×Int×Int×List Int×List Int×List (Int×Int×Int)×List (List Int)×List (Int×Int×Int)×List (Int×Int)×List (Int×Int):=((0:Int),(0:Int),x9,x0,x1,x2,[],x3,x4,ml x0 x1 x2 x3 x4 x5 x6 x7 x8,x6,x7,x8)
def Wc:Int×List (Int×Int×(Int×Int)×Int×Int×Bool)×Int×Int×Int×List Int×List Int×List (Int×Int×Int)×List (List Int)×List (Int×Int×Int)×List (Int×Int)×List (Int×Int):=(Lp.res eK (HD x0 x1 x2 x3 x4 x5 x6 x7 x8 x9)).2.2
def Wd:Int×Int×Int×List Int×List Int×List (Int×Int×Int)×List (List Int)×List (Int×Int×Int)×List (Int×Int)×List (Int×Int):=(Wc x0 x1 x2 x3 x4 x5 x6 x7 x8 x9).2.2
def We:Int×Int×List Int×List Int×List (Int×Int×Int)×List (List Int)×List (Int×Int×Int)×List (Int×Int)×List (Int×Int):=(Wd x0 x1 x2 x3 x4 x5 x6 x7 x8 x9).2
def Wf:Int×List Int×List Int×List (Int×Int×Int)×List (List Int)×List (Int×Int×Int)×List (Int×Int)×List (Int×Int):=(We x0 x1 x2 x3 x4 x5 x6 x7 x8 x9).2
def Wg:List Int×List Int×List (Int×Int×Int)×List (List Int)×List (Int×Int×Int)×List (Int×Int)×List (Int×Int):=(Wf x0 x1 x2 x3 x4 x5 x6 x7 x8 x9).2
def Wh:List Int×List (Int×Int×Int)×List (List Int)×List (Int×Int×Int)×List (Int×Int)×List (Int×Int):=(Wg x0 x1 x2 x3 x4 x5 x6 x7 x8 x9).2
def TE:List (Int×Int×Int)×List (List Int)×List (Int×Int×Int)×List (Int×Int)×List (Int×Int):=(Wh x0 x1 x2 x3 x4 x5 x6 x7 x8 x9).2
def TF:List (List Int)×List (Int×Int×Int)×List (Int×Int)×List (Int×Int):=(TE x0 x1 x2 x3 x4 x5 x6 x7 x8 x9).2
def TG:List (Int×Int×Int)×List (Int×Int)×List (Int×Int):=(TF x0 x1 x2 x3 x4 x5 x6 x7 x8 x9).2
def TH:List (Int×Int)×List (Int×Int):=(TG x0 x1 x2 x3 x4 x5 x6 x7 x8 x9).2
def JF:Int:=bif !re x0 x3 x4 x5 x6 x1 x7 x8 x2 then(0:Int)else bif iE x9 then(0:Int)else bif iF x0 x1 x2 x3 x4 x5 x6 x7 x8 x9 then(0:Int)else (Wd x0 x1 x2 x3 x4 x5 x6 x7 x8 x9).1
def JG:Int:=bif !re x0 x3 x4 x5 x6 x1 x7 x8 x2 then(0:Int)else bif iE x9 then(0:Int)else bif iF x0 x1 x2 x3 x4 x5 x6 x7 x8 x9 then(0:Int)else (We x0 x1 x2 x3 x4 x5 x6 x7 x8 x9).1
def JH:Int:=bif !re x0 x3 x4 x5 x6 x1 x7 x8 x2 then(0:Int)else bif iE x9 then(0:Int)else bif iF x0 x1 x2 x3 x4 x5 x6 x7 x8 x9 then(0:Int)else (Wf x0 x1 x2 x3 x4 x5 x6 x7 x8 x9).1
def FT:Int:=bif !re x0 x3 x4 x5 x6 x1 x7 x8 x2 then(0:Int)else bif iE x9 then(0:Int)else bif iF x0 x1 x2 x3 x4 x5 x6 x7 x8 x9 then(0:Int)else (Wc x0 x1 x2 x3 x4 x5 x6 x7 x8 x9).1
def FU:Int:=bif !re x0 x3 x4 x5 x6 x1 x7 x8 x2 then(1:Int)else bif iE x9 then(3:Int)else bif iF x0 x1 x2 x3 x4 x5 x6 x7 x8 x9 then(2:Int)else(0:Int)
def JI:List Int:=bif !re x0 x3 x4 x5 x6 x1 x7 x8 x2 then []else bif iE x9 then []else bif iF x0 x1 x2 x3 x4 x5 x6 x7 x8 x9 then []else (Wh x0 x1 x2 x3 x4 x5 x6 x7 x8 x9).1
def JJ:List (Int×(Int×Int)):=bif !re x0 x3 x4 x5 x6 x1 x7 x8 x2 then []else bif iE x9 then []else bif iF x0 x1 x2 x3 x4 x5 x6 x7 x8 x9 then []else (TE x0 x1 x2 x3 x4 x5 x6 x7 x8 x9).1
def JK:List (List Int):=bif !re x0 x3 x4 x5 x6 x1 x7 x8 x2 then []else bif iE x9 then []else bif iF x0 x1 x2 x3 x4 x5 x6 x7 x8 x9 then []else (TF x0 x1 x2 x3 x4 x5 x6 x7 x8 x9).1
def JM:List (Int×(Int×Int)):=bif !re x0 x3 x4 x5 x6 x1 x7 x8 x2 then []else bif iE x9 then []else bif iF x0 x1 x2 x3 x4 x5 x6 x7 x8 x9 then []else (TG x0 x1 x2 x3 x4 x5 x6 x7 x8 x9).1
def JN:List (Int×Int):=bif !re x0 x3 x4 x5 x6 x1 x7 x8 x2 then []else bif iE x9 then []else bif iF x0 x1 x2 x3 x4 x5 x6 x7 x8 x9 then []else (TH x0 x1 x2 x3 x4 x5 x6 x7 x8 x9).1
def HB:List (Int×Int):=bif !re x0 x3 x4 x5 x6 x1 x7 x8 x2 then []else bif iE x9 then []else bif iF x0 x1 x2 x3 x4 x5 x6 x7 x8 x9 then []else (TH x0 x1 x2 x3 x4 x5 x6 x7 x8 x9).2
def HC:List Int:=bif !re x0 x3 x4 x5 x6 x1 x7 x8 x2 then []else bif iE x9 then []else bif iF x0 x1 x2 x3 x4 x5 x6 x7 x8 x9 then []else (Wg x0 x1 x2 x3 x4 x5 x6 x7 x8 x9).1
def DI:Bool:=allT [Gb (9223372036854775807:Nat) x3 x4 x5 x6 x7 x8,!re x0 x3 x4 x5 x6 x1 x7 x8 x2||(iE x9||Lp.fin eJ (QW x0 x1 x2 x3 x4 x5 x6 x7 x8 x9)),!re x0 x3 x4 x5 x6 x1 x7 x8 x2||(iE x9||(iF x0 x1 x2 x3 x4 x5 x6 x7 x8 x9||NA x0 x1 x2 x3 x4 x5 x6 x7 x8)),!re x0 x3 x4 x5 x6 x1 x7 x8 x2||(iE x9||(iF x0 x1 x2 x3 x4 x5 x6 x7 x8 x9||Lp.fin eK (HD x0 x1 x2 x3 x4 x5 x6 x7 x8 x9)))]
end
def aeu:List SV→List Entry→Option Out
 | [.one ⟨true,[.val (.int .i64 x0),.ref 0,.ref 1,.ref 2,.ref 3,.val (.int .i64 x1),.ref 4,.ref 5,.val (.int .i64 x2)]⟩,.one ⟨false,[.ref 6]⟩],[.row false 2 (.int .i64) x3,.row false 169 (.pair (.int .i64) (.pair (.int .i64) (.int .i64))) x4,.row false 24 (.sl 2 (.int .i64)) x5,.row false 100 (.pair (.int .i64) (.pair (.int .i64) (.int .i64))) x6,.row false 173 (.pair (.int .i64) (.int .i64)) x7,.row false 176 (.pair (.int .i64) (.int .i64)) x8,.row false 49 (.pair (.int .i64) (.pair (.int .i64) (.pair (.pair (.int .i64) (.int .i64)) (.pair (.int .i64) (.pair (.int .i64) (.bool)))))) x9]=>some ⟨.tup [⟨true,[.val (.int .i64 (JF x0 x1 x2 x3 x4 x5 x6 x7 x8 x9)),.ref 7,.ref 8,.ref 9,.ref 10,.val (.int .i64 (JG x0 x1 x2 x3 x4 x5 x6 x7 x8 x9)),.ref 11,.ref 12,.val (.int .i64 (JH x0 x1 x2 x3 x4 x5 x6 x7 x8 x9))]⟩,⟨false,[.ref 13]⟩,⟨false,[.val (.int .i64 (FT x0 x1 x2 x3 x4 x5 x6 x7 x8 x9))]⟩,⟨false,[.val (.int .i64 (FU x0 x1 x2 x3 x4 x5 x6 x7 x8 x9))]⟩],[.row false 2 aiQ x3,.row false 169 acG x4,.row false 24 (CTy.sl (2:TypeId) aiQ) x5,.row false 100 acG x6,.row false 173 acH x7,.row false 176 acH x8,.row false 49 aa6 x9],[.row true 2 aiQ (JI x0 x1 x2 x3 x4 x5 x6 x7 x8 x9),.row true 169 acG (JJ x0 x1 x2 x3 x4 x5 x6 x7 x8 x9),.row true 24 (CTy.sl (2:Nat) aiQ) (JK x0 x1 x2 x3 x4 x5 x6 x7 x8 x9),.row true 100 acG (JM x0 x1 x2 x3 x4 x5 x6 x7 x8 x9),.row true 173 acH (JN x0 x1 x2 x3 x4 x5 x6 x7 x8 x9),.row true 176 acH (HB x0 x1 x2 x3 x4 x5 x6 x7 x8 x9),.row true 2 aiQ (HC x0 x1 x2 x3 x4 x5 x6 x7 x8 x9)],[DI x0 x1 x2 x3 x4 x5 x6 x7 x8 x9]⟩
 |_,_=>none
def Yo:PF prog:=PF.ofG prog [qR,PF.lend qR,PF.fz qR,qP,PF.lend qP,PF.fz qP,eM,PF.lend eM,PF.fz eM,gm,PF.lend gm,PF.fz gm,ve,PF.lend ve,PF.fz ve] [eJ.F,eK.F] aM 57 f57 func57 (LOk.fnT (l:= [aL f57 0,aL f57 1]) (by kernel_rfl) (.cons aea (.cons aeb (.nil _)))) aeu (by
 intro vs es r h;unfold aeu at h;split at h
 ·cases h;kernel_rfl
 ·cases h)
section
variable (x0 x1 x2:Int)(x3:List Int)(x4:List (Int×Int×Int))(x5:List (List Int))(x6:List (Int×Int×Int))(x7 x8:List (Int×Int))(x9:List (Int×Int×(Int×Int)×Int×Int×Bool))
def Ql:Int:=FT x0 x1 x2 x3 x4 x5 x6 x7 x8 x9
def Qm:Int:=FU x0 x1 x2 x3 x4 x5 x6 x7 x8 x9
def IE:Bool:=allT [DI x0 x1 x2 x3 x4 x5 x6 x7 x8 x9]
end
def Pt:List SV→List Entry→Option Out
 | [.one ⟨true,[.val (.int .i64 x0),.ref 0,.ref 1,.ref 2,.ref 3,.val (.int .i64 x1),.ref 4,.ref 5,.val (.int .i64 x2)]⟩,.one ⟨false,[.ref 6]⟩],[.row false 2 (.int .i64) x3,.row false 169 (.pair (.int .i64) (.pair (.int .i64) (.int .i64))) x4,.row false 24 (.sl 2 (.int .i64)) x5,.row false 100 (.pair (.int .i64) (.pair (.int .i64) (.int .i64))) x6,.row false 173 (.pair (.int .i64) (.int .i64)) x7,.row false 176 (.pair (.int .i64) (.int .i64)) x8,.row false 49 (.pair (.int .i64) (.pair (.int .i64) (.pair (.pair (.int .i64) (.int .i64)) (.pair (.int .i64) (.pair (.int .i64) (.bool)))))) x9]=>some ⟨.tup [⟨false,[.val (.int .i64 (Ql x0 x1 x2 x3 x4 x5 x6 x7 x8 x9))]⟩,⟨false,[.val (.int .i64 (Qm x0 x1 x2 x3 x4 x5 x6 x7 x8 x9))]⟩],[.row false 2 aiQ x3,.row false 169 acG x4,.row false 24 (CTy.sl (2:TypeId) aiQ) x5,.row false 100 acG x6,.row false 173 acH x7,.row false 176 acH x8,.row false 49 aa6 x9],[],[IE x0 x1 x2 x3 x4 x5 x6 x7 x8 x9]⟩
 |_,_=>none
def aaJ:PF prog:=PF.ofG prog [Yo,PF.lend Yo,PF.fz Yo] [] aM 31 f31 func31 (fun c _=>LOk.nil c) Pt (by
 intro vs es r h;unfold Pt at h;split at h
 ·cases h;kernel_rfl
 ·cases h)
def Rg(x0:List (Int×Int×Int)):Bool:=allT [ltN (0:Nat) x0.length,false||leN ((0:Nat) + List.length x0) (9223372036854775807:Nat),false||leN (((0:Nat) + List.length x0) * (24:Nat)) (140737488355328:Nat)]
def FX:List SV→List Entry→Option Out
 | [.one ⟨false,[.ref 0]⟩],[.row false 169 (.pair (.int .i64) (.pair (.int .i64) (.int .i64))) x0]=>some ⟨.one ⟨false,[.ref 1]⟩,[.row false 169 acG x0],[.row true 169 acG x0],[Rg x0]⟩
 |_,_=>none
def Rc:PF prog:=PF.ofG prog [] [] aM 147 f147 func147 (fun c _=>LOk.nil c) FX (by
 intro vs es r h;unfold FX at h;split at h
 ·cases h;kernel_rfl
 ·cases h)
def Pm:List (Int×(Int×Int)):= []
def DR:List SV→List Entry→Option Out
 | [.one ⟨false,[.val (.slice none 0 0)]⟩],[]=>some ⟨.one ⟨false,[.ref 0]⟩,[],[.row true 169 acG (Pm)],[true]⟩
 |_,_=>none
def Pk:PF prog:=PF.ofG prog [PF.raw prog] [] aM 147 f147 func147 (fun c _=>LOk.nil c) DR (by
 intro vs es r h;unfold DR at h;split at h
 ·cases h;kernel_rfl
 ·cases h)
def Pn:List (Int×(Int×Int)):= []
def DS:List SV→List Entry→Option Out
 | [.one ⟨false,[.val (.slice (some b) 0 c)]⟩],[]=>some ⟨.one ⟨false,[.ref 0]⟩,[],[.row true 169 acG (Pn)],[true]⟩
 |_,_=>none
def Pl:PF prog:=PF.ofG prog [] [] aM 147 f147 func147 (fun c _=>LOk.nil c) DS (by
 intro vs es r h;unfold DS at h;split at h
 ·cases h;kernel_rfl
 ·cases h)
def SZ(x0:List (Int×Int×Int)):Bool:=allT [ltN (0:Nat) x0.length,false||leN ((0:Nat) + List.length x0) (9223372036854775807:Nat),false||leN (((0:Nat) + List.length x0) * (24:Nat)) (140737488355328:Nat)]
def Id:List SV→List Entry→Option Out
 | [.one ⟨false,[.ref 0]⟩],[.row false 100 (.pair (.int .i64) (.pair (.int .i64) (.int .i64))) x0]=>some ⟨.one ⟨false,[.ref 1]⟩,[.row false 100 acG x0],[.row true 100 acG x0],[SZ x0]⟩
 |_,_=>none
def SU:PF prog:=PF.ofG prog [] [] aM 148 f148 func148 (fun c _=>LOk.nil c) Id (by
 intro vs es r h;unfold Id at h;split at h
 ·cases h;kernel_rfl
 ·cases h)
def Re:List (Int×(Int×Int)):= []
def FV:List SV→List Entry→Option Out
 | [.one ⟨false,[.val (.slice none 0 0)]⟩],[]=>some ⟨.one ⟨false,[.ref 0]⟩,[],[.row true 100 acG (Re)],[true]⟩
 |_,_=>none
def Ra:PF prog:=PF.ofG prog [PF.raw prog] [] aM 148 f148 func148 (fun c _=>LOk.nil c) FV (by
 intro vs es r h;unfold FV at h;split at h
 ·cases h;kernel_rfl
 ·cases h)
def Rf:List (Int×(Int×Int)):= []
def FW:List SV→List Entry→Option Out
 | [.one ⟨false,[.val (.slice (some b) 0 c)]⟩],[]=>some ⟨.one ⟨false,[.ref 0]⟩,[],[.row true 100 acG (Rf)],[true]⟩
 |_,_=>none
def Rb:PF prog:=PF.ofG prog [] [] aM 148 f148 func148 (fun c _=>LOk.nil c) FW (by
 intro vs es r h;unfold FW at h;split at h
 ·cases h;kernel_rfl
 ·cases h)
def Ys(x0:List (Int×Int)):Bool:=allT [ltN (0:Nat) x0.length,false||leN ((0:Nat) + List.length x0) (9223372036854775807:Nat),false||leN (((0:Nat) + List.length x0) * (16:Nat)) (140737488355328:Nat)]
def MX:List SV→List Entry→Option Out
 | [.one ⟨false,[.ref 0]⟩],[.row false 173 (.pair (.int .i64) (.int .i64)) x0]=>some ⟨.one ⟨false,[.ref 1]⟩,[.row false 173 acH x0],[.row true 173 acH x0],[Ys x0]⟩
 |_,_=>none
def Yk:PF prog:=PF.ofG prog [] [] aM 149 f149 func149 (fun c _=>LOk.nil c) MX (by
 intro vs es r h;unfold MX at h;split at h
 ·cases h;kernel_rfl
 ·cases h)
def Vy:List (Int×Int):= []
def KU:List SV→List Entry→Option Out
 | [.one ⟨false,[.val (.slice none 0 0)]⟩],[]=>some ⟨.one ⟨false,[.ref 0]⟩,[],[.row true 173 acH (Vy)],[true]⟩
 |_,_=>none
def Vp:PF prog:=PF.ofG prog [PF.raw prog] [] aM 149 f149 func149 (fun c _=>LOk.nil c) KU (by
 intro vs es r h;unfold KU at h;split at h
 ·cases h;kernel_rfl
 ·cases h)
def Vz:List (Int×Int):= []
def KV:List SV→List Entry→Option Out
 | [.one ⟨false,[.val (.slice (some b) 0 c)]⟩],[]=>some ⟨.one ⟨false,[.ref 0]⟩,[],[.row true 173 acH (Vz)],[true]⟩
 |_,_=>none
def Vq:PF prog:=PF.ofG prog [] [] aM 149 f149 func149 (fun c _=>LOk.nil c) KV (by
 intro vs es r h;unfold KV at h;split at h
 ·cases h;kernel_rfl
 ·cases h)
def Yr(x0:List (Int×Int)):Bool:=allT [ltN (0:Nat) x0.length,false||leN ((0:Nat) + List.length x0) (9223372036854775807:Nat),false||leN (((0:Nat) + List.length x0) * (16:Nat)) (140737488355328:Nat)]
def MW:List SV→List Entry→Option Out
 | [.one ⟨false,[.ref 0]⟩],[.row false 176 (.pair (.int .i64) (.int .i64)) x0]=>some ⟨.one ⟨false,[.ref 1]⟩,[.row false 176 acH x0],[.row true 176 acH x0],[Yr x0]⟩
 |_,_=>none
def Yj:PF prog:=PF.ofG prog [] [] aM 150 f150 func150 (fun c _=>LOk.nil c) MW (by
 intro vs es r h;unfold MW at h;split at h
 ·cases h;kernel_rfl
 ·cases h)
def Vw:List (Int×Int):= []
def KS:List SV→List Entry→Option Out
 | [.one ⟨false,[.val (.slice none 0 0)]⟩],[]=>some ⟨.one ⟨false,[.ref 0]⟩,[],[.row true 176 acH (Vw)],[true]⟩
 |_,_=>none
def Vn:PF prog:=PF.ofG prog [PF.raw prog] [] aM 150 f150 func150 (fun c _=>LOk.nil c) KS (by
 intro vs es r h;unfold KS at h;split at h
 ·cases h;kernel_rfl
 ·cases h)
def Vx:List (Int×Int):= []
def KT:List SV→List Entry→Option Out
 | [.one ⟨false,[.val (.slice (some b) 0 c)]⟩],[]=>some ⟨.one ⟨false,[.ref 0]⟩,[],[.row true 176 acH (Vx)],[true]⟩
 |_,_=>none
def Vo:PF prog:=PF.ofG prog [] [] aM 150 f150 func150 (fun c _=>LOk.nil c) KT (by
 intro vs es r h;unfold KT at h;split at h
 ·cases h;kernel_rfl
 ·cases h)
end Go.SX
namespace Go.SX
open Go.RowKit Go.Proofs
set_option maxRecDepth 100000
theorem aoC{n:Nat}(h2:0 < n)(h1:n≤1048576):allT [ltN 0 n,false||leN (0 + n) 9223372036854775807,false||leN ((0 + n) * 24) 140737488355328]=true:=by
 rw [gp h2,br (by omega),br (by omega)];rfl
theorem aoB{n:Nat}(h2:0 < n)(h1:n≤1048576):allT [ltN 0 n,false||leN (0 + n) 9223372036854775807,false||leN ((0 + n) * 16) 140737488355328]=true:=by
 rw [gp h2,br (by omega),br (by omega)];rfl
theorem ajq(x0:List (Int×(Int×Int)))(h:leN x0.length 1048576=true)(mem:Nat→Option Obj)(ρ:Nm)(w:World)(hp:HpL w mem [.row false 169 (.pair (.int .i64) (.pair (.int .i64) (.int .i64))) x0] ρ w):
  Calls Tryz.prog 147 ([SV.one ⟨false,[.ref 0]⟩].map (SV.conc ρ)).toArray w fun en w'=> ∃ ρ':Nm,Ext (memB w mem) (fun i=>Nat.blt i 1) ρ ρ'∧en= .returned ((SV.one ⟨false,[.ref 1]⟩).conc ρ')∧
   HpL w mem [.row false 169 (.pair (.int .i64) (.pair (.int .i64) (.int .i64))) x0,.row true 169 (.pair (.int .i64) (.pair (.int .i64) (.int .i64))) x0] ρ' w':=
 aao (t:=(.pair (.int .i64) (.pair (.int .i64) (.int .i64)))) Rc Pk Pl rfl rfl rfl ⟨_,rfl,fun b hb=>(by simp at hb;exact hb)⟩ (fun _ _=>⟨_,rfl,fun b hb=>(by simp at hb;exact hb)⟩) x0
  (fun Tg=>⟨_,rfl,fun b hb=>(by
   have h1:=fH.1 h
   have h2:0 < x0.length:=by cases x0 with
    |nil=>exact(Tg rfl).elim
    |cons y r=>exact Nat.succ_pos _
   rw [List.mem_singleton]at hb;subst hb
   exact aoC h2 h1)⟩) mem ρ w hp
def FY:List SV→List Entry→Option Out
 | [.one ⟨false,[.ref 0]⟩],[.row false 169 (.pair (.int .i64) (.pair (.int .i64) (.int .i64))) x0]=>some ⟨.one ⟨false,[.ref 1]⟩,[.row false 169 (.pair (.int .i64) (.pair (.int .i64) (.int .i64))) x0],[.row true 169 (.pair (.int .i64) (.pair (.int .i64) (.int .i64))) x0],[leN x0.length 1048576]⟩
 |_,_=>none
def iG:PF Tryz.prog where
 k:=147
 F:=FY
 ok:=by
  intro args es o h bK mem ρ w hp
  unfold FY at h;split at h
  ·rename_i x0
   cases h
   refine(ajq x0 (bK _ (List.mem_singleton.2 rfl)) mem ρ w hp).mono fun en w' ⟨ρ1,hx,he,hh⟩=>⟨ρ1,hx,he,rfl,?_,hh⟩
   intro c hc
   simp at hc;subst hc;rfl
  ·cases h
theorem alF(x0:List (Int×(Int×Int)))(h:leN x0.length 1048576=true)(mem:Nat→Option Obj)(ρ:Nm)(w:World)(hp:HpL w mem [.row false 100 (.pair (.int .i64) (.pair (.int .i64) (.int .i64))) x0] ρ w):
  Calls Tryz.prog 148 ([SV.one ⟨false,[.ref 0]⟩].map (SV.conc ρ)).toArray w fun en w'=> ∃ ρ':Nm,Ext (memB w mem) (fun i=>Nat.blt i 1) ρ ρ'∧en= .returned ((SV.one ⟨false,[.ref 1]⟩).conc ρ')∧
   HpL w mem [.row false 100 (.pair (.int .i64) (.pair (.int .i64) (.int .i64))) x0,.row true 100 (.pair (.int .i64) (.pair (.int .i64) (.int .i64))) x0] ρ' w':=
 aao (t:=(.pair (.int .i64) (.pair (.int .i64) (.int .i64)))) SU Ra Rb rfl rfl rfl ⟨_,rfl,fun b hb=>(by simp at hb;exact hb)⟩ (fun _ _=>⟨_,rfl,fun b hb=>(by simp at hb;exact hb)⟩) x0
  (fun Tg=>⟨_,rfl,fun b hb=>(by
   have h1:=fH.1 h
   have h2:0 < x0.length:=by cases x0 with
    |nil=>exact(Tg rfl).elim
    |cons y r=>exact Nat.succ_pos _
   rw [List.mem_singleton]at hb;subst hb
   exact aoC h2 h1)⟩) mem ρ w hp
def Ig:List SV→List Entry→Option Out
 | [.one ⟨false,[.ref 0]⟩],[.row false 100 (.pair (.int .i64) (.pair (.int .i64) (.int .i64))) x0]=>some ⟨.one ⟨false,[.ref 1]⟩,[.row false 100 (.pair (.int .i64) (.pair (.int .i64) (.int .i64))) x0],[.row true 100 (.pair (.int .i64) (.pair (.int .i64) (.int .i64))) x0],[leN x0.length 1048576]⟩
 |_,_=>none
def jH:PF Tryz.prog where
 k:=148
 F:=Ig
 ok:=by
  intro args es o h bK mem ρ w hp
  unfold Ig at h;split at h
  ·rename_i x0
   cases h
   refine(alF x0 (bK _ (List.mem_singleton.2 rfl)) mem ρ w hp).mono fun en w' ⟨ρ1,hx,he,hh⟩=>⟨ρ1,hx,he,rfl,?_,hh⟩
   intro c hc
   simp at hc;subst hc;rfl
  ·cases h
theorem aqd(x0:List (Int×Int))(h:leN x0.length 1048576=true)(mem:Nat→Option Obj)(ρ:Nm)(w:World)(hp:HpL w mem [.row false 173 (.pair (.int .i64) (.int .i64)) x0] ρ w):
  Calls Tryz.prog 149 ([SV.one ⟨false,[.ref 0]⟩].map (SV.conc ρ)).toArray w fun en w'=> ∃ ρ':Nm,Ext (memB w mem) (fun i=>Nat.blt i 1) ρ ρ'∧en= .returned ((SV.one ⟨false,[.ref 1]⟩).conc ρ')∧
   HpL w mem [.row false 173 (.pair (.int .i64) (.int .i64)) x0,.row true 173 (.pair (.int .i64) (.int .i64)) x0] ρ' w':=
 aao (t:=(.pair (.int .i64) (.int .i64))) Yk Vp Vq rfl rfl rfl ⟨_,rfl,fun b hb=>(by simp at hb;exact hb)⟩ (fun _ _=>⟨_,rfl,fun b hb=>(by simp at hb;exact hb)⟩) x0
  (fun Tg=>⟨_,rfl,fun b hb=>(by
   have h1:=fH.1 h
   have h2:0 < x0.length:=by cases x0 with
    |nil=>exact(Tg rfl).elim
    |cons y r=>exact Nat.succ_pos _
   rw [List.mem_singleton]at hb;subst hb
   exact aoB h2 h1)⟩) mem ρ w hp
def Na:List SV→List Entry→Option Out
 | [.one ⟨false,[.ref 0]⟩],[.row false 173 (.pair (.int .i64) (.int .i64)) x0]=>some ⟨.one ⟨false,[.ref 1]⟩,[.row false 173 (.pair (.int .i64) (.int .i64)) x0],[.row true 173 (.pair (.int .i64) (.int .i64)) x0],[leN x0.length 1048576]⟩
 |_,_=>none
def nH:PF Tryz.prog where
 k:=149
 F:=Na
 ok:=by
  intro args es o h bK mem ρ w hp
  unfold Na at h;split at h
  ·rename_i x0
   cases h
   refine(aqd x0 (bK _ (List.mem_singleton.2 rfl)) mem ρ w hp).mono fun en w' ⟨ρ1,hx,he,hh⟩=>⟨ρ1,hx,he,rfl,?_,hh⟩
   intro c hc
   simp at hc;subst hc;rfl
  ·cases h
theorem aqc(x0:List (Int×Int))(h:leN x0.length 1048576=true)(mem:Nat→Option Obj)(ρ:Nm)(w:World)(hp:HpL w mem [.row false 176 (.pair (.int .i64) (.int .i64)) x0] ρ w):
  Calls Tryz.prog 150 ([SV.one ⟨false,[.ref 0]⟩].map (SV.conc ρ)).toArray w fun en w'=> ∃ ρ':Nm,Ext (memB w mem) (fun i=>Nat.blt i 1) ρ ρ'∧en= .returned ((SV.one ⟨false,[.ref 1]⟩).conc ρ')∧
   HpL w mem [.row false 176 (.pair (.int .i64) (.int .i64)) x0,.row true 176 (.pair (.int .i64) (.int .i64)) x0] ρ' w':=
 aao (t:=(.pair (.int .i64) (.int .i64))) Yj Vn Vo rfl rfl rfl ⟨_,rfl,fun b hb=>(by simp at hb;exact hb)⟩ (fun _ _=>⟨_,rfl,fun b hb=>(by simp at hb;exact hb)⟩) x0
  (fun Tg=>⟨_,rfl,fun b hb=>(by
   have h1:=fH.1 h
   have h2:0 < x0.length:=by cases x0 with
    |nil=>exact(Tg rfl).elim
    |cons y r=>exact Nat.succ_pos _
   rw [List.mem_singleton]at hb;subst hb
   exact aoB h2 h1)⟩) mem ρ w hp
def MZ:List SV→List Entry→Option Out
 | [.one ⟨false,[.ref 0]⟩],[.row false 176 (.pair (.int .i64) (.int .i64)) x0]=>some ⟨.one ⟨false,[.ref 1]⟩,[.row false 176 (.pair (.int .i64) (.int .i64)) x0],[.row true 176 (.pair (.int .i64) (.int .i64)) x0],[leN x0.length 1048576]⟩
 |_,_=>none
def nG:PF Tryz.prog where
 k:=150
 F:=MZ
 ok:=by
  intro args es o h bK mem ρ w hp
  unfold MZ at h;split at h
  ·rename_i x0
   cases h
   refine(aqc x0 (bK _ (List.mem_singleton.2 rfl)) mem ρ w hp).mono fun en w' ⟨ρ1,hx,he,hh⟩=>⟨ρ1,hx,he,rfl,?_,hh⟩
   intro c hc
   simp at hc;subst hc;rfl
  ·cases h
end Go.SX
namespace Go.SX
open Go.Proofs Go.Proofs.Tryz
set_option maxRecDepth 100000
section
variable (x3 x4 x5 x6 x7 x8:Int)(x9:Bool)(x10:List Int)(x12:List (List Int))
def tc:Bool:=bif x5==(0:Int)then bif x6==(0:Int)then true else false else false
def td:Bool:=bif x7==(0:Int)then bif x8==(0:Int)then bif x9==false then true else false else false else false
def lJ:Bool:=bif x3==(0:Int)then bif bif Mw x10 x4 then tc x5 x6 else false then td x7 x8 x9 else false else bif x3==(1:Int)then bif bif Mw x10 x4 then rsB (dd (bif Mw x10 x4&&true then Option.getD x12[Int.toNat (0:Int)]? (Ei (CTy.sl (2:Nat) aiQ))else [])) x5 x6 else false then td x7 x8 x9 else false else bif x3==(2:Int)then bif bif x4==(0:Int)then tc x5 x6 else false then agy x7 x8 else false else false
def lK:Bool:=allT [!x3==(0:Int)||leN x10.length (9223372036854775807:Nat),x3==(0:Int)||(!x3==(1:Int)||leN x10.length (9223372036854775807:Nat)),x3==(0:Int)||(!x3==(1:Int)||(!(Mw x10 x4&&true)||leI (0:Int) (0:Int))),x3==(0:Int)||(!x3==(1:Int)||(!(Mw x10 x4&&true)||ltI (0:Int) (↑x12.length:Int))),x3==(0:Int)||(!x3==(1:Int)||(!(Mw x10 x4&&true)||ltN (Int.toNat (0:Int)) x12.length))]
end
def tx:List SV→List Entry→Option Out
 | [.one ⟨true,[.val (.int .i64 _x0),.ref 0,.ref 1,.ref 2,.ref 3,.val (.int .i64 _x1),.ref 4,.ref 5,.val (.int .i64 _x2)]⟩,.one ⟨true,[.val (.int .i64 x3),.val (.int .i64 x4),.val (.int .i64 x5),.val (.int .i64 x6),.val (.int .i64 x7),.val (.int .i64 x8),.val (.bool x9)]⟩],[.row false 2 (.int .i64) x10,.row false 169 (.pair (.int .i64) (.pair (.int .i64) (.int .i64))) x11,.row false 24 (.sl 2 (.int .i64)) x12,.row false 100 (.pair (.int .i64) (.pair (.int .i64) (.int .i64))) x13,.row false 173 (.pair (.int .i64) (.int .i64)) x14,.row false 176 (.pair (.int .i64) (.int .i64)) x15]=>some ⟨.one ⟨false,[.val (.bool (lJ x3 x4 x5 x6 x7 x8 x9 x10 x12))]⟩,[.row false 2 aiQ x10,.row false 169 acG x11,.row false 24 (CTy.sl (2:Nat) aiQ) x12,.row false 100 acG x13,.row false 173 acH x14,.row false 176 acH x15],[],[lK x3 x4 x10 x12]⟩
 |_,_=>none
def lM:PF prog:=PF.ofG prog [mq,PF.lend mq,PF.fz mq,aaB,ahN,aQ,PF.lend aQ,PF.fz aQ] [] aM 99 f99 func99 (fun c _=>LOk.nil c) tx (by
 intro vs es r h;unfold tx at h;split at h
 ·cases h;kernel_rfl
 ·cases h)
def xN(x0 x1 x2 x3 x4 x5:Int)(x6:Bool)(x10:List Int)(x12:List (List Int)):Bool:= !lJ x0 x1 x2 x3 x4 x5 x6 x10 x12
def Fu(x0 x1:Int)(x10:List Int)(x12:List (List Int)):Bool:=allT [lK x0 x1 x10 x12]
def MV:List SV→List Entry→Option Out
 | [.one ⟨true,[.val (.int .i64 x0),.val (.int .i64 x1),.val (.int .i64 x2),.val (.int .i64 x3),.val (.int .i64 x4),.val (.int .i64 x5),.val (.bool x6)]⟩,.one ⟨false,[.ptr 0 0]⟩],[.box 33 [.val (.int .i64 x7),.ref 1,.ref 2,.ref 3,.ref 4,.val (.int .i64 x8),.ref 5,.ref 6,.val (.int .i64 x9)],.row false 2 (.int .i64) x10,.row false 169 (.pair (.int .i64) (.pair (.int .i64) (.int .i64))) x11,.row false 24 (.sl 2 (.int .i64)) x12,.row false 100 (.pair (.int .i64) (.pair (.int .i64) (.int .i64))) x13,.row false 173 (.pair (.int .i64) (.int .i64)) x14,.row false 176 (.pair (.int .i64) (.int .i64)) x15]=>some ⟨.one ⟨false,[.val (.bool (xN x0 x1 x2 x3 x4 x5 x6 x10 x12))]⟩,[.box 33 [.val (.int .i64 x7),.ref 1,.ref 2,.ref 3,.ref 4,.val (.int .i64 x8),.ref 5,.ref 6,.val (.int .i64 x9)],.row false 2 aiQ x10,.row false 169 acG x11,.row false 24 (CTy.sl (2:Nat) aiQ) x12,.row false 100 acG x13,.row false 173 acH x14,.row false 176 acH x15],[],[Fu x0 x1 x10 x12]⟩
 |_,_=>none
def nI:PF prog:=PF.ofG prog [lM,PF.lend lM,PF.fz lM] [] aM 145 f145 func145 (fun c _=>LOk.nil c) MV (by
 intro vs es r h;unfold MV at h;split at h
 ·cases h;kernel_rfl
 ·cases h)
abbrev bd:=Int×Int×Int×Int×Int×List (Int×(Int×((Int×Int)×(Int×(Int×Bool)))))×List Int×List (Int×(Int×Int))×List (List Int)×List (Int×(Int×Int))×List (Int×Int)×List (Int×Int)
def cU(y0:Int)(y5:List (Int×(Int×((Int×Int)×(Int×(Int×Bool)))))):Int×Int×(Int×Int)×Int×Int×Bool:=Option.getD y5[Int.toNat y0]? ((0:Int),(0:Int),((0:Int),(0:Int)),(0:Int),(0:Int),false)
def cV(y0:Int)(y5:List (Int×(Int×((Int×Int)×(Int×(Int×Bool)))))):Int:=(cU y0 y5).1
def cW(y0:Int)(y5:List (Int×(Int×((Int×Int)×(Int×(Int×Bool)))))):Int×(Int×Int)×Int×Int×Bool:=(cU y0 y5).2
def cX(y0:Int)(y5:List (Int×(Int×((Int×Int)×(Int×(Int×Bool)))))):Int:=(cW y0 y5).1
def bL(y0:Int)(y5:List (Int×(Int×((Int×Int)×(Int×(Int×Bool)))))):(Int×Int)×Int×Int×Bool:=(cW y0 y5).2
def cY(y0:Int)(y5:List (Int×(Int×((Int×Int)×(Int×(Int×Bool)))))):Int×Bool:=(bL y0 y5).2.2
def fm(y0 y1:Int):Bool:=ltI y0 y1
def fo(y0:Int):Bool:=leI (0:Int) y0
def fq(y0:Int)(y5:List (Int×(Int×((Int×Int)×(Int×(Int×Bool)))))):Bool:=ltI y0 (↑y5.length:Int)
def ft(y0:Int)(y5:List (Int×(Int×((Int×Int)×(Int×(Int×Bool)))))):Bool:=ltN y0.toNat y5.length
def fu(y0:Int)(y5:List (Int×(Int×((Int×Int)×(Int×(Int×Bool))))))(y6:List Int)(y8:List (List Int)):Bool:=Fu (cV y0 y5) (cX y0 y5) y6 y8
def fv(y0:Int)(y5:List (Int×(Int×((Int×Int)×(Int×(Int×Bool))))))(y6:List Int)(y8:List (List Int)):Bool:=xN (cV y0 y5) (cX y0 y5) ((bL y0 y5).1.1) ((bL y0 y5).1.2) (((bL y0 y5).2).1) ((cY y0 y5).1) ((cY y0 y5).2) y6 y8
def fw(y0:Int):Int:=IntKind.wrap .i64 (y0 + (1:Int))
def Ij:bd→List (Nat×SV)
 |(y0,y1,_,_,_,_,_,_,_,_,_,_)=> [(8,(.one ⟨false,[.val (.int .i64 y0)]⟩)),(7,(.one ⟨false,[.val (.int .i64 y1)]⟩)),(1,(.one ⟨false,[.clo 145 [0]]⟩)),(0,(.one ⟨false,[.ref 1]⟩))]
def Ii:bd→List (Nat×Entry)
 |(_,_,y2,y3,y4,y5,y6,y7,y8,y9,y10,y11)=> [(0,(.box 33 [.val (.int .i64 y2),.ref 2,.ref 3,.ref 4,.ref 5,.val (.int .i64 y3),.ref 6,.ref 7,.val (.int .i64 y4)])),(1,(.row false 49 aa6 y5)),(2,(.row false 2 aiQ y6)),(3,(.row false 169 acG y7)),(4,(.row false 24 (CTy.sl (2:Nat) aiQ) y8)),(5,(.row false 100 acG y9)),(6,(.row false 173 acH y10)),(7,(.row false 176 acH y11))]
def Il:Nat→bd→List (Nat×SV)
 |0,(y0,_,_,_,_,_,_,_,_,_,_,_)=> [(4,(.one ⟨false,[.val (.int .i64 y0)]⟩))]
 |_,(_,_,_,_,_,_,_,_,_,_,_,_)=> []
def Ik:Nat→bd→List (Nat×Entry)
 |0,(_,_,y2,y3,y4,y5,y6,y7,y8,y9,y10,y11)=> [(0,(.box 33 [.val (.int .i64 y2),.ref 2,.ref 3,.ref 4,.ref 5,.val (.int .i64 y3),.ref 6,.ref 7,.val (.int .i64 y4)])),(1,(.row false 49 aa6 y5)),(2,(.row false 2 aiQ y6)),(3,(.row false 169 acG y7)),(4,(.row false 24 (CTy.sl (2:Nat) aiQ) y8)),(5,(.row false 100 acG y9)),(6,(.row false 173 acH y10)),(7,(.row false 176 acH y11))]
 |_,(_,_,y2,y3,y4,y5,y6,y7,y8,y9,y10,y11)=> [(0,(.box 33 [.val (.int .i64 y2),.ref 2,.ref 3,.ref 4,.ref 5,.val (.int .i64 y3),.ref 6,.ref 7,.val (.int .i64 y4)])),(1,(.row false 49 aa6 y5)),(2,(.row false 2 aiQ y6)),(3,(.row false 169 acG y7)),(4,(.row false 24 (CTy.sl (2:Nat) aiQ) y8)),(5,(.row false 100 acG y9)),(6,(.row false 173 acH y10)),(7,(.row false 176 acH y11))]
def eL:bd→LT bd
 |(y0,y1,y2,y3,y4,y5,y6,y7,y8,y9,y10,y11)=> .ite (fm y0 y1) (.need [fo y0,fq y0 y5,ft y0 y5,fu y0 y5 y6 y8] (.ite (fv y0 y5 y6 y8) (.ext 0 [(0,0),(1,1),(2,2),(3,3),(4,4),(5,5),(6,6),(7,7)]) (.nrm ((fw y0),y1,y2,y3,y4,y5,y6,y7,y8,y9,y10,y11) [(0,0),(1,1),(2,2),(3,3),(4,4),(5,5),(6,6),(7,7)]))) (.ext 1 [(0,0),(1,1),(2,2),(3,3),(4,4),(5,5),(6,6),(7,7)])
def mO(s:St):Option bd:=
 (match s.look 8 with
 |some ⟨none,.one ⟨false,[.val (.int .i64 y0)]⟩⟩=>
 (match s.look 7 with
 |some ⟨none,.one ⟨false,[.val (.int .i64 y1)]⟩⟩=>
 (match s.look 1 with
 |some ⟨none,.one ⟨false,[.clo 145 [1]]⟩⟩=>
 (match s.look 0 with
 |some ⟨none,.one ⟨false,[.ref 0]⟩⟩=>
 (match s.ent 1 with
 |some (.box 33 [.val (.int .i64 y2),.ref 2,.ref 3,.ref 4,.ref 5,.val (.int .i64 y3),.ref 6,.ref 7,.val (.int .i64 y4)])=>
 (match s.ent 0 with
 |some (.row false 49 (.pair (.int .i64) (.pair (.int .i64) (.pair (.pair (.int .i64) (.int .i64)) (.pair (.int .i64) (.pair (.int .i64) .bool))))) y5)=>
 (match s.ent 2 with
 |some (.row false 2 (.int .i64) y6)=>
 (match s.ent 3 with
 |some (.row false 169 (.pair (.int .i64) (.pair (.int .i64) (.int .i64))) y7)=>
 (match s.ent 4 with
 |some (.row false 24 (.sl 2 (.int .i64)) y8)=>
 (match s.ent 5 with
 |some (.row false 100 (.pair (.int .i64) (.pair (.int .i64) (.int .i64))) y9)=>
 (match s.ent 6 with
 |some (.row false 173 (.pair (.int .i64) (.int .i64)) y10)=>
 (match s.ent 7 with
 |some (.row false 176 (.pair (.int .i64) (.int .i64)) y11)=>
 some (y0,y1,y2,y3,y4,y5,y6,y7,y8,y9,y10,y11)
 |_=>none)
 |_=>none)
 |_=>none)
 |_=>none)
 |_=>none)
 |_=>none)
 |_=>none)
 |_=>none)
 |_=>none)
 |_=>none)
 |_=>none)
 |_=>none)
def ak:Lp bd where
 h:=⟨[9,10,5,11,12,13,14,15,16,17,4,18,8],[0,1,2,3,4,5,6,7],[],[]⟩
 JL:=Ij
 JE:=Ii
 XL:=Il
 XE:=Ik
 q:=fun j=>match j with | 0=> .ret | _=> .exit 0
 tags:= [0,1]
 lt:=eL
 fuel:=fun(y0,y1,y2,y3,y4,y5,y6,y7,y8,y9,y10,y11)=>y0.natAbs + y1.natAbs + y2.natAbs + y3.natAbs + y4.natAbs + y5.length + y6.length + y7.length + y8.length + y9.length + y10.length + y11.length
 fix:=fun(_,y1,y2,y3,y4,y5,y6,y7,y8,y9,y10,y11) (y0,_,_,_,_,_,_,_,_,_,_,_)=>(y0,y1,y2,y3,y4,y5,y6,y7,y8,y9,y10,y11)
 σ:= [(0,1),(1,0),(2,2),(3,3),(4,4),(5,5),(6,6),(7,7)]
 rd:=mO
theorem GD:LoopOk prog (fun k=>Nat.blt k Tryz.f200.ntmps) ak.F (aL f200 0):=by
 refine Lp.ok (tbl:= [nI,PF.lend nI,PF.fz nI]) (lf:= []) aM ak (by kernel_rfl) (LOk.nil _) (fun _=>rfl) (fun j _=>by unfold ak;match j with | 0=>rfl | _ + 1=>rfl) ?_ ?_ ?_ ?_ (fun _=>rfl) ?_
 ·rintro⟨y0,y1,y2,y3,y4,y5,y6,y7,y8,y9,y10,y11⟩;kernel_rfl
 ·rintro⟨y0,y1,y2,y3,y4,y5,y6,y7,y8,y9,y10,y11⟩;kernel_rfl
 ·intro s x h
  have h:mO s=some x:=h
  unfold mO at h
  repeat' split at h
  all_goals cases h
  exact⟨aa (by assumption) rfl (aa (by assumption) rfl (aa (by assumption) rfl (aa (by assumption) rfl (rfl)))),ab rfl (by assumption) rfl (ab rfl (by assumption) rfl (ab rfl (by assumption) rfl (ab rfl (by assumption) rfl (ab rfl (by assumption) rfl (ab rfl (by assumption) rfl (ab rfl (by assumption) rfl (ab rfl (by assumption) rfl (rfl))))))))⟩
 ·rintro⟨y0,y1,y2,y3,y4,y5,y6,y7,y8,y9,y10,y11⟩;kernel_rfl
 ·rintro⟨y0,y1,y2,y3,y4,y5,y6,y7,y8,y9,y10,y11⟩ z;exact(And.intro (And.intro trivial rfl) trivial)
section
variable (x0:List (Int×Int×(Int×Int)×Int×Int×Bool))(x1 x2 x3:Int)(x4:List Int)(x5:List (Int×Int×Int))(x6:List (List Int))(x7:List (Int×Int×Int))(x8 x9:List (Int×Int))
def gq:Int×Int×Int×Int×Int×List (Int×Int×(Int×Int)×Int×Int×Bool)×List Int×List (Int×Int×Int)×List (List Int)×List (Int×Int×Int)×List (Int×Int)×List (Int×Int):=((0:Int),(↑x0.length:Int),x1,x2,x3,x0,x4,x5,x6,x7,x8,x9)
def gr:Bool:=Nat.beq ((Lp.res ak (gq x0 x1 x2 x3 x4 x5 x6 x7 x8 x9)).1) (0:Nat)
def qf:Int:=bif gr x0 x1 x2 x3 x4 x5 x6 x7 x8 x9 then ((Lp.res ak (gq x0 x1 x2 x3 x4 x5 x6 x7 x8 x9)).2).1else(-1:Int)
def yS:Int:=bif gr x0 x1 x2 x3 x4 x5 x6 x7 x8 x9 then x1 else x1
def yT:Int:=bif gr x0 x1 x2 x3 x4 x5 x6 x7 x8 x9 then x2 else x2
def yU:Int:=bif gr x0 x1 x2 x3 x4 x5 x6 x7 x8 x9 then x3 else x3
def qg:Bool:=allT [Lp.fin ak (gq x0 x1 x2 x3 x4 x5 x6 x7 x8 x9)]
end
def yk:List SV→List Entry→Option Out
 | [.one ⟨false,[.ref 0]⟩,.one ⟨false,[.clo 145 [1]]⟩],[.row false 49 (.pair (.int .i64) (.pair (.int .i64) (.pair (.pair (.int .i64) (.int .i64)) (.pair (.int .i64) (.pair (.int .i64) .bool))))) x0,.box 33 [.val (.int .i64 x1),.ref 2,.ref 3,.ref 4,.ref 5,.val (.int .i64 x2),.ref 6,.ref 7,.val (.int .i64 x3)],.row false 2 (.int .i64) x4,.row false 169 (.pair (.int .i64) (.pair (.int .i64) (.int .i64))) x5,.row false 24 (.sl 2 (.int .i64)) x6,.row false 100 (.pair (.int .i64) (.pair (.int .i64) (.int .i64))) x7,.row false 173 (.pair (.int .i64) (.int .i64)) x8,.row false 176 (.pair (.int .i64) (.int .i64)) x9]=>some ⟨.one ⟨false,[.val (.int .i64 (qf x0 x1 x2 x3 x4 x5 x6 x7 x8 x9))]⟩,[.row false 49 aa6 x0,.box 33 [.val (.int .i64 (yS x0 x1 x2 x3 x4 x5 x6 x7 x8 x9)),.ref 2,.ref 3,.ref 4,.ref 5,.val (.int .i64 (yT x0 x1 x2 x3 x4 x5 x6 x7 x8 x9)),.ref 6,.ref 7,.val (.int .i64 (yU x0 x1 x2 x3 x4 x5 x6 x7 x8 x9))],.row false 2 aiQ x4,.row false 169 acG x5,.row false 24 (CTy.sl (2:Nat) aiQ) x6,.row false 100 acG x7,.row false 173 acH x8,.row false 176 acH x9],[],[qg x0 x1 x2 x3 x4 x5 x6 x7 x8 x9]⟩
 |_,_=>none
def qc:PF prog:=PF.ofG prog [nI,PF.lend nI,PF.fz nI] [ak.F] aM 200 f200 func200 (LOk.fnT (l:= [aL f200 0]) (by kernel_rfl) (.cons GD (.nil _))) yk (by
 intro vs es r h;unfold yk at h;split at h
 ·cases h;kernel_rfl
 ·cases h)
section
variable (x0:List (Int×Int×(Int×Int)×Int×Int×Bool))(x1 x2 x3:Int)(x4:List Int)(x5:List (Int×Int×Int))(x6:List (List Int))(x7:List (Int×Int×Int))(x8 x9:List (Int×Int))
def ji:Bool:=leI (0:Int) (qf x0 x1 x2 x3 x4 x5 x6 x7 x8 x9)
def Jr:Int:=yS x0 x1 x2 x3 x4 x5 x6 x7 x8 x9
def Js:Int:=yT x0 x1 x2 x3 x4 x5 x6 x7 x8 x9
def Jt:Int:=yU x0 x1 x2 x3 x4 x5 x6 x7 x8 x9
def nv:Bool:=allT [qg x0 x1 x2 x3 x4 x5 x6 x7 x8 x9]
end
def we:List SV→List Entry→Option Out
 | [.one ⟨false,[.ref 0]⟩,.one ⟨false,[.clo 145 [1]]⟩],[.row false 49 (.pair (.int .i64) (.pair (.int .i64) (.pair (.pair (.int .i64) (.int .i64)) (.pair (.int .i64) (.pair (.int .i64) .bool))))) x0,.box 33 [.val (.int .i64 x1),.ref 2,.ref 3,.ref 4,.ref 5,.val (.int .i64 x2),.ref 6,.ref 7,.val (.int .i64 x3)],.row false 2 (.int .i64) x4,.row false 169 (.pair (.int .i64) (.pair (.int .i64) (.int .i64))) x5,.row false 24 (.sl 2 (.int .i64)) x6,.row false 100 (.pair (.int .i64) (.pair (.int .i64) (.int .i64))) x7,.row false 173 (.pair (.int .i64) (.int .i64)) x8,.row false 176 (.pair (.int .i64) (.int .i64)) x9]=>some ⟨.one ⟨false,[.val (.bool (ji x0 x1 x2 x3 x4 x5 x6 x7 x8 x9))]⟩,[.row false 49 aa6 x0,.box 33 [.val (.int .i64 (Jr x0 x1 x2 x3 x4 x5 x6 x7 x8 x9)),.ref 2,.ref 3,.ref 4,.ref 5,.val (.int .i64 (Js x0 x1 x2 x3 x4 x5 x6 x7 x8 x9)),.ref 6,.ref 7,.val (.int .i64 (Jt x0 x1 x2 x3 x4 x5 x6 x7 x8 x9))],.row false 2 aiQ x4,.row false 169 acG x5,.row false 24 (CTy.sl (2:Nat) aiQ) x6,.row false 100 acG x7,.row false 173 acH x8,.row false 176 acH x9],[],[nv x0 x1 x2 x3 x4 x5 x6 x7 x8 x9]⟩
 |_,_=>none
def nq:PF prog:=PF.ofG prog [qc,PF.lend qc,PF.fz qc] [] aM 144 f144 func144 (fun c _=>LOk.nil c) we (by
 intro vs es r h;unfold we at h;split at h
 ·cases h;kernel_rfl
 ·cases h)
section
variable (x0 x1 x2:Int)(x3:List Int)(x4:List (Int×Int×Int))(x5:List (List Int))(x6:List (Int×Int×Int))(x7 x8:List (Int×Int))(x9:List (Int×Int×(Int×Int)×Int×Int×Bool))
def PE:Bool:=ltI (200:Int) (↑x9.length:Int)
def wX:Int:=bif !re x0 x3 x4 x5 x6 x1 x7 x8 x2 then(1:Int)else bif PE x9 then(3:Int)else bif ji x9 x0 x1 x2 x3 x4 x5 x6 x7 x8 then(2:Int)else(0:Int)
def BN:Bool:=allT [Gb (9223372036854775807:Nat) x3 x4 x5 x6 x7 x8,!re x0 x3 x4 x5 x6 x1 x7 x8 x2||(PE x9||nv x9 x0 x1 x2 x3 x4 x5 x6 x7 x8)]
end
def YG:List SV→List Entry→Option Out
 | [.one ⟨true,[.val (.int .i64 x0),.ref 0,.ref 1,.ref 2,.ref 3,.val (.int .i64 x1),.ref 4,.ref 5,.val (.int .i64 x2)]⟩,.one ⟨false,[.ref 6]⟩],[.row false 2 (.int .i64) x3,.row false 169 (.pair (.int .i64) (.pair (.int .i64) (.int .i64))) x4,.row false 24 (.sl 2 (.int .i64)) x5,.row false 100 (.pair (.int .i64) (.pair (.int .i64) (.int .i64))) x6,.row false 173 (.pair (.int .i64) (.int .i64)) x7,.row false 176 (.pair (.int .i64) (.int .i64)) x8,.row false 49 (.pair (.int .i64) (.pair (.int .i64) (.pair (.pair (.int .i64) (.int .i64)) (.pair (.int .i64) (.pair (.int .i64) (.bool)))))) x9]=>some ⟨.one ⟨false,[.val (.int .i64 (wX x0 x1 x2 x3 x4 x5 x6 x7 x8 x9))]⟩,[.row false 2 aiQ x3,.row false 169 acG x4,.row false 24 (CTy.sl (2:TypeId) aiQ) x5,.row false 100 acG x6,.row false 173 acH x7,.row false 176 acH x8,.row false 49 aa6 x9],[],[BN x0 x1 x2 x3 x4 x5 x6 x7 x8 x9]⟩
 |_,_=>none
def BU:PF prog:=PF.ofG prog [Yh,PF.lend Yh,PF.fz Yh,nq,PF.lend nq,PF.fz nq] [] aM 54 f54 func54 (fun c _=>LOk.nil c) YG (by
 intro vs es r h;unfold YG at h;split at h
 ·cases h;kernel_rfl
 ·cases h)
abbrev be:=Int×Int×List (List Int)×Int×Int×Int×List Int×List (Int×(Int×Int))×List (List Int)×List (Int×(Int×Int))×List (Int×Int)×List (Int×Int)
section
variable (y0 y1:Int)(y2 y8:List (List Int))
def bq:List Int:=Option.getD y2[Int.toNat y0]? (Ei (CTy.sl (2:Nat) aiQ))
def fK:Bool:=ltI y0 y1
def fL:Bool:=leI (0:Int) y0
def fM:Bool:=ltI y0 (↑y2.length:Int)
def fN:Bool:=ltN y0.toNat y2.length
def fO:Bool:=leN (1:Nat) (List.length (bq y0 y2))&&leN (List.length (bq y0 y2)) (1048576:Nat)
def fP:Bool:=leN (List.length y8 + List.length [bq y0 y2]) (9223372036854775807:Nat)
def fQ:Bool:=leN ((List.length y8 + List.length [bq y0 y2]) * (24:Nat)) (140737488355328:Nat)
def fR:Int:=IntKind.wrap .i64 (y0 + (1:Int))
def fS:List (List Int):=y8++ [bq y0 y2]
end
def Jj:be→List (Nat×SV)
 |(y0,y1,_,_,_,_,_,_,_,_,_,_)=> [(31,(.one ⟨false,[.val (.int .i64 y0)]⟩)),(30,(.one ⟨false,[.val (.int .i64 y1)]⟩)),(29,(.one ⟨false,[.ref 0]⟩)),(3,(.one ⟨false,[.ptr 1 0]⟩))]
def Ji:be→List (Nat×Entry)
 |(_,_,y2,y3,y4,y5,y6,y7,y8,y9,y10,y11)=> [(0,(.row false 24 (CTy.sl (2:Nat) aiQ) y2)),(1,(.box 33 [.val (.int .i64 y3),.ref 2,.ref 3,.ref 4,.ref 5,.val (.int .i64 y4),.ref 6,.ref 7,.val (.int .i64 y5)])),(2,(.row true 2 aiQ y6)),(3,(.row true 169 acG y7)),(5,(.row true 100 acG y9)),(6,(.row true 173 acH y10)),(7,(.row true 176 acH y11)),(4,(.tree 24 (CTy.sl (2:Nat) aiQ) y8 none))]
def Jl:Nat→be→List (Nat×SV)
 |_,(_,_,_,_,_,_,_,_,_,_,_,_)=> []
def Jk:Nat→be→List (Nat×Entry)
 |_,(_,_,y2,y3,y4,y5,y6,y7,y8,y9,y10,y11)=> [(0,(.row false 24 (CTy.sl (2:Nat) aiQ) y2)),(1,(.box 33 [.val (.int .i64 y3),.ref 2,.ref 3,.ref 4,.ref 5,.val (.int .i64 y4),.ref 6,.ref 7,.val (.int .i64 y5)])),(2,(.row true 2 aiQ y6)),(3,(.row true 169 acG y7)),(4,(.tree 24 (CTy.sl (2:Nat) aiQ) y8 none)),(5,(.row true 100 acG y9)),(6,(.row true 173 acH y10)),(7,(.row true 176 acH y11))]
def fl:be→LT be
 |(y0,y1,y2,y3,y4,y5,y6,y7,y8,y9,y10,y11)=> .ite (fK y0 y1) (.need [fL y0,fM y0 y2,fN y0 y2] (.need [fO y0 y2,fP y0 y2 y8,fQ y0 y2 y8] (.nrm ((fR y0),y1,y2,y3,y4,y5,y6,y7,fS y0 y2 y8,y9,y10,y11) [(0,0),(1,1),(2,2),(3,3),(4,640),(5,5),(6,6),(7,7)]))) (.ext 0 [(0,0),(1,1),(2,2),(3,3),(4,4),(5,5),(6,6),(7,7)])
def nu(s:St):Option be:=
 (match s.look 31 with
 |some ⟨none,.one ⟨false,[.val (.int .i64 y0)]⟩⟩=>
 (match s.look 30 with
 |some ⟨none,.one ⟨false,[.val (.int .i64 y1)]⟩⟩=>
 (match s.look 29 with
 |some ⟨none,.one ⟨false,[.ref 2]⟩⟩=>
 (match s.look 3 with
 |some ⟨none,.one ⟨false,[.ptr 640 0]⟩⟩=>
 (match s.ent 2 with
 |some (.row false 24 (.sl 2 (.int .i64)) y2)=>
 (match s.ent 640 with
 |some (.box 33 [.val (.int .i64 y3),.ref 896,.ref 1216,.ref 2432,.ref 1408,.val (.int .i64 y4),.ref 1856,.ref 2048,.val (.int .i64 y5)])=>
 (match s.ent 896 with
 |some (.row true 2 (.int .i64) y6)=>
 (match s.ent 1216 with
 |some (.row true 169 (.pair (.int .i64) (.pair (.int .i64) (.int .i64))) y7)=>
 (match s.ent 1408 with
 |some (.row true 100 (.pair (.int .i64) (.pair (.int .i64) (.int .i64))) y9)=>
 (match s.ent 1856 with
 |some (.row true 173 (.pair (.int .i64) (.int .i64)) y10)=>
 (match s.ent 2048 with
 |some (.row true 176 (.pair (.int .i64) (.int .i64)) y11)=>
 (match s.ent 2432 with
 |some (.tree 24 (.sl 2 (.int .i64)) y8 none)=>
 some (y0,y1,y2,y3,y4,y5,y6,y7,y8,y9,y10,y11)
 |_=>none)
 |_=>none)
 |_=>none)
 |_=>none)
 |_=>none)
 |_=>none)
 |_=>none)
 |_=>none)
 |_=>none)
 |_=>none)
 |_=>none)
 |_=>none)
def aB:Lp be where
 h:=⟨[32,33,34,5,35,36,37,38,39,40,41,42,31],[0,1,2,3,5,6,7],[4],[]⟩
 JL:=Jj
 JE:=Ji
 XL:=Jl
 XE:=Jk
 q:=fun j=>match j with | _=> .exit 0
 tags:= [0]
 lt:=fl
 fuel:=fun(y0,y1,y2,y3,y4,y5,y6,y7,y8,y9,y10,y11)=>y0.natAbs + y1.natAbs + y2.length + y3.natAbs + y4.natAbs + y5.natAbs + y6.length + y7.length + y8.length + y9.length + y10.length + y11.length
 fix:=fun(_,y1,y2,y3,y4,y5,y6,y7,_,y9,y10,y11) (y0,_,_,_,_,_,_,_,y8,_,_,_)=>(y0,y1,y2,y3,y4,y5,y6,y7,y8,y9,y10,y11)
 σ:= [(0,2),(1,640),(2,896),(3,1216),(5,1408),(6,1856),(7,2048),(4,2432)]
 rd:=nu
theorem Ib:LoopOk prog (fun k=>Nat.blt k Tryz.f55.ntmps) aB.F (aL f55 0):=by
 refine Lp.ok (tbl:= [PF.trees prog,bA,PF.lend bA,PF.fz bA,iG,PF.lend iG,PF.fz iG,jH,PF.lend jH,PF.fz jH,nH,PF.lend nH,PF.fz nH,nG,PF.lend nG,PF.fz nG,al,PF.lend al,PF.fz al]) (lf:= []) aM aB (by kernel_rfl) (LOk.nil _) (fun _=>rfl) (fun _ _=>rfl) ?_ ?_ ?_ ?_ (fun _=>rfl) ?_
 ·rintro⟨y0,y1,y2,y3,y4,y5,y6,y7,y8,y9,y10,y11⟩;kernel_rfl
 ·rintro⟨y0,y1,y2,y3,y4,y5,y6,y7,y8,y9,y10,y11⟩;kernel_rfl
 ·intro s x h
  have h:nu s=some x:=h
  unfold nu at h
  repeat' split at h
  all_goals cases h
  exact⟨aa (by assumption) rfl (aa (by assumption) rfl (aa (by assumption) rfl (aa (by assumption) rfl (rfl)))),ab rfl (by assumption) rfl (ab rfl (by assumption) rfl (ab rfl (by assumption) rfl (ab rfl (by assumption) rfl (ab rfl (by assumption) rfl (ab rfl (by assumption) rfl (ab rfl (by assumption) rfl (ab rfl (by assumption) rfl (rfl))))))))⟩
 ·rintro⟨y0,y1,y2,y3,y4,y5,y6,y7,y8,y9,y10,y11⟩;kernel_rfl
 ·rintro⟨y0,y1,y2,y3,y4,y5,y6,y7,y8,y9,y10,y11⟩ z;exact(And.intro rfl trivial)
section
variable (x0 x1 x2:Int)(x3:List Int)(x4:List (Int×Int×Int))(x5:List (List Int))(x6:List (Int×Int×Int))(x7 x8:List (Int×Int))
def jX:Int×Int×List (List Int)×Int×Int×Int×List Int×List (Int×Int×Int)×List (List Int)×List (Int×Int×Int)×List (Int×Int)×List (Int×Int):=((0:Int),(↑x5.length:Int),x5,x0,x1,x2,x3,x4,[],x6,x7,x8)
def kO:List (List Int):=((Lp.res aB (jX x0 x1 x2 x3 x4 x5 x6 x7 x8)).2.2.2.2.2.2.2.2.2).1
def kP:Bool:=allT [fT x3,leN x4.length (1048576:Nat),leN x6.length (1048576:Nat),leN x7.length (1048576:Nat),leN x8.length (1048576:Nat),Lp.fin aB (jX x0 x1 x2 x3 x4 x5 x6 x7 x8)]
end
def zI:List SV→List Entry→Option Out
 | [.one ⟨true,[.val (.int .i64 x0),.ref 0,.ref 1,.ref 2,.ref 3,.val (.int .i64 x1),.ref 4,.ref 5,.val (.int .i64 x2)]⟩],[.row false 2 (.int .i64) x3,.row false 169 (.pair (.int .i64) (.pair (.int .i64) (.int .i64))) x4,.row false 24 (.sl 2 (.int .i64)) x5,.row false 100 (.pair (.int .i64) (.pair (.int .i64) (.int .i64))) x6,.row false 173 (.pair (.int .i64) (.int .i64)) x7,.row false 176 (.pair (.int .i64) (.int .i64)) x8]=>some ⟨.one ⟨true,[.val (.int .i64 x0),.ref 6,.ref 7,.ref 8,.ref 9,.val (.int .i64 x1),.ref 10,.ref 11,.val (.int .i64 x2)]⟩,[.row false 2 aiQ x3,.row false 169 acG x4,.row false 24 (CTy.sl (2:TypeId) aiQ) x5,.row false 100 acG x6,.row false 173 acH x7,.row false 176 acH x8],[.row true 2 aiQ x3,.row true 169 acG x4,.tree 24 (CTy.sl (2:Nat) aiQ) (kO x0 x1 x2 x3 x4 x5 x6 x7 x8) none,.row true 100 acG x6,.row true 173 acH x7,.row true 176 acH x8],[kP x0 x1 x2 x3 x4 x5 x6 x7 x8]⟩
 |_,_=>none
def ew:PF prog:=PF.ofG prog [PF.trees prog,bA,PF.lend bA,PF.fz bA,iG,PF.lend iG,PF.fz iG,jH,PF.lend jH,PF.fz jH,nH,PF.lend nH,PF.fz nH,nG,PF.lend nG,PF.fz nG,al,PF.lend al,PF.fz al] [aB.F] aM 55 f55 func55 (LOk.fnT (l:= [aL f55 0]) (by kernel_rfl) (.cons Ib (.nil _))) zI (by
 intro vs es r h;unfold zI at h;split at h
 ·cases h;kernel_rfl
 ·cases h)
def ae(x3:Int)(x4:List Int):Bool:=Int.tmod (Option.getD x4[Int.toNat x3]? (0:Int)) (3:Int)==(1:Int)
def ph(x3:Int)(x4:List Int):Bool:=allT [leI (0:Int) x3,ltI x3 (↑x4.length:Int),ltN x3.toNat x4.length]
def xA:List SV→List Entry→Option Out
 | [.one ⟨true,[.val (.int .i64 _x0),.ref 0,.ref 1,.ref 2,.ref 3,.val (.int .i64 _x1),.ref 4,.ref 5,.val (.int .i64 _x2)]⟩,.one ⟨false,[.val (.int .i64 x3)]⟩],[.row false 2 (.int .i64) x4,.row false 169 (.pair (.int .i64) (.pair (.int .i64) (.int .i64))) x5,.row false 24 (.sl 2 (.int .i64)) x6,.row false 100 (.pair (.int .i64) (.pair (.int .i64) (.int .i64))) x7,.row false 173 (.pair (.int .i64) (.int .i64)) x8,.row false 176 (.pair (.int .i64) (.int .i64)) x9]=>some ⟨.one ⟨false,[.val (.bool (ae x3 x4))]⟩,[.row false 2 aiQ x4,.row false 169 acG x5,.row false 24 (CTy.sl (2:TypeId) aiQ) x6,.row false 100 acG x7,.row false 173 acH x8,.row false 176 acH x9],[],[ph x3 x4]⟩
 |_,_=>none
def pp:PF prog:=PF.ofG prog [] [] aM 201 f201 func201 (fun c _=>LOk.nil c) xA (by
 intro vs es r h;unfold xA at h;split at h
 ·cases h;kernel_rfl
 ·cases h)
section
variable (x0 x1 x2 x3:Int)(x4:List Int)(x5:List (Int×Int×Int))(x6:List (List Int))(x7:List (Int×Int×Int))(x8 x9:List (Int×Int))
def ar:Bool:= !aeM x1 x4 (FZ x1 x4 x5 (0:Int)) (FZ x1 x4 x5 (1:Int)) x0
def ia:List Int:=bif ad x1 x0 x4&&true then Option.getD x6[Int.toNat x0]? (Ei (CTy.sl (2:TypeId) aiQ))else []
def aN:Bool:=bif ad x1 x0 x4 then !Yq (ia x0 x1 x4 x6) x7 else false
def ra:List (Int×Int×Int):=bif ad x1 x0 x4&&true then x7 else x7
def lq:Int:=bif !ae x0 x4 then(0:Int)else bif x2 !=(3:Int)then(1:Int)else bif ar x0 x1 x4 x5 then(2:Int)else bif aN x0 x1 x4 x6 x7 then(3:Int)else(0:Int)
def rI:Int:=bif !ae x0 x4 then x1 else bif x2 !=(3:Int)then x1 else bif ar x0 x1 x4 x5 then x1 else bif aN x0 x1 x4 x6 x7 then x1 else x1
def rJ:Int:=bif !ae x0 x4 then x2 else bif x2 !=(3:Int)then x2 else bif ar x0 x1 x4 x5 then x2 else bif aN x0 x1 x4 x6 x7 then x2 else x2
def rK:Int:=bif !ae x0 x4 then x3 else bif x2 !=(3:Int)then x3 else bif ar x0 x1 x4 x5 then x3 else bif aN x0 x1 x4 x6 x7 then x3 else x3
def rL:List Int:=bif !ae x0 x4 then ahL x1 x4 x0 else bif x2 !=(3:Int)then x4 else bif ar x0 x1 x4 x5 then x4 else bif aN x0 x1 x4 x6 x7 then x4 else ahL x1 x4 x0
def rM:List (Int×(Int×Int)):=bif !ae x0 x4 then x5 else bif x2 !=(3:Int)then x5 else bif ar x0 x1 x4 x5 then x5 else bif aN x0 x1 x4 x6 x7 then x5 else x5
def rO:List (Int×(Int×Int)):=bif !ae x0 x4 then x7 else bif x2 !=(3:Int)then x7 else bif ar x0 x1 x4 x5 then x7 else bif aN x0 x1 x4 x6 x7 then ra x0 x1 x4 x7 else ra x0 x1 x4 x7
def rP:List (Int×Int):=bif !ae x0 x4 then x8 else bif x2 !=(3:Int)then x8 else bif ar x0 x1 x4 x5 then x8 else bif aN x0 x1 x4 x6 x7 then x8 else x8
def rQ:List (Int×Int):=bif !ae x0 x4 then x9 else bif x2 !=(3:Int)then x9 else bif ar x0 x1 x4 x5 then x9 else bif aN x0 x1 x4 x6 x7 then x9 else x9
def lr:Bool:=allT [ph x0 x4,!ae x0 x4||(x2 !=(3:Int)||isT x1 x4&&ahC x1 x5),!ae x0 x4||(x2 !=(3:Int)||Yp x1 x4 (FZ x1 x4 x5 (0:Int)) (FZ x1 x4 x5 (1:Int)) x0),!ae x0 x4||(x2 !=(3:Int)||(ar x0 x1 x4 x5||aU x0 x4)),!ae x0 x4||(x2 !=(3:Int)||(ar x0 x1 x4 x5||(!(ad x1 x0 x4&&true)||leI (0:Int) x0))),!ae x0 x4||(x2 !=(3:Int)||(ar x0 x1 x4 x5||(!(ad x1 x0 x4&&true)||ltI x0 (↑x6.length:Int)))),!ae x0 x4||(x2 !=(3:Int)||(ar x0 x1 x4 x5||(!(ad x1 x0 x4&&true)||ltN x0.toNat x6.length))),!ae x0 x4||(x2 !=(3:Int)||(ar x0 x1 x4 x5||(!(ad x1 x0 x4&&true)||ag3 (ia x0 x1 x4 x6) x7))),!!ae x0 x4||ZG x1 x4 x0,!ae x0 x4||(x2 !=(3:Int)||(ar x0 x1 x4 x5||(aN x0 x1 x4 x6 x7||ZG x1 x4 x0)))]
end
def Aw:List SV→List Entry→Option Out
 | [.one ⟨false,[.ptr 0 0]⟩,.one ⟨false,[.val (.int .i64 x0)]⟩],[.box 33 [.val (.int .i64 x1),.ref 1,.ref 2,.ref 3,.ref 4,.val (.int .i64 x2),.ref 5,.ref 6,.val (.int .i64 x3)],.row true 2 (.int .i64) x4,.row true 169 (.pair (.int .i64) (.pair (.int .i64) (.int .i64))) x5,.row false 24 (.sl 2 (.int .i64)) x6,.row true 100 (.pair (.int .i64) (.pair (.int .i64) (.int .i64))) x7,.row true 173 (.pair (.int .i64) (.int .i64)) x8,.row true 176 (.pair (.int .i64) (.int .i64)) x9]=>some ⟨.one ⟨false,[.val (.int .i64 (lq x0 x1 x2 x4 x5 x6 x7))]⟩,[.box 33 [.val (.int .i64 (rI x0 x1 x2 x4 x5 x6 x7)),.ref 7,.ref 8,.ref 3,.ref 9,.val (.int .i64 (rJ x0 x1 x2 x4 x5 x6 x7)),.ref 10,.ref 11,.val (.int .i64 (rK x0 x1 x2 x3 x4 x5 x6 x7))],.gone,.gone,.row false 24 (CTy.sl (2:TypeId) aiQ) x6,.gone,.gone,.gone],[.row true 2 aiQ (rL x0 x1 x2 x4 x5 x6 x7),.row true 169 acG (rM x0 x1 x2 x4 x5 x6 x7),.row true 100 acG (rO x0 x1 x2 x4 x5 x6 x7),.row true 173 acH (rP x0 x1 x2 x4 x5 x6 x7 x8),.row true 176 acH (rQ x0 x1 x2 x4 x5 x6 x7 x9)],[lr x0 x1 x2 x4 x5 x6 x7]⟩
 |_,_=>none
def AO:PF prog:=PF.ofGK prog [Vh,PF.lend Vh,PF.fz Vh,pp,PF.lend pp,PF.fz pp,Tu,PF.lend Tu,PF.fz Tu,nk,PF.lend nk,PF.fz nk,oq,PF.lend oq,PF.fz oq,aH,PF.lend aH,PF.fz aH] [] aM 152 f152 func152 (fun c _=>LOk.nil c) Aw (by
 intro vs es r h;unfold Aw at h;split at h
 ·cases h;kernel_rfl
 ·cases h)
section
variable (x0 x1 x2 x3 x4 x5:Int)(x6:List Int)(x7:List (Int×Int×Int))(x8:List (List Int))(x9:List (Int×Int×Int))(x10 x11:List (Int×Int))
def au:List Int:=Option.getD x8[Int.toNat x0]? (Ei (CTy.sl (2:TypeId) aiQ))
def ni:List (List Int):=List.set x8 x0.toNat (bif kY (au x0 x8) x1 x2 then QX (au x0 x8) x1 x2 else au x0 x8)
def oc:Int:=bif !ad x3 x0 x6 then(4:Int)else bif !kY (au x0 x8) x1 x2 then(5:Int)else(0:Int)
def od:Int:=bif !ad x3 x0 x6 then x3 else bif !kY (au x0 x8) x1 x2 then x3 else x3
def oe:Int:=bif !ad x3 x0 x6 then x4 else bif !kY (au x0 x8) x1 x2 then x4 else x4
def og:Int:=bif !ad x3 x0 x6 then x5 else bif !kY (au x0 x8) x1 x2 then x5 else x5
def oh:List Int:=bif !ad x3 x0 x6 then x6 else bif !kY (au x0 x8) x1 x2 then x6 else x6
def oi:List (Int×(Int×Int)):=bif !ad x3 x0 x6 then x7 else bif !kY (au x0 x8) x1 x2 then x7 else x7
def oj:List (List Int):=bif !ad x3 x0 x6 then x8 else bif !kY (au x0 x8) x1 x2 then ni x0 x1 x2 x8 else ni x0 x1 x2 x8
def ol:List (Int×(Int×Int)):=bif !ad x3 x0 x6 then x9 else bif !kY (au x0 x8) x1 x2 then x9 else x9
def om:List (Int×Int):=bif !ad x3 x0 x6 then x10 else bif !kY (au x0 x8) x1 x2 then x10 else x10
def oo:List (Int×Int):=bif !ad x3 x0 x6 then x11 else bif !kY (au x0 x8) x1 x2 then x11 else x11
def nh:Bool:=allT [aU x0 x6,!ad x3 x0 x6||leI (0:Int) x0,!ad x3 x0 x6||ltI x0 (↑x8.length:Int),!ad x3 x0 x6||ltN x0.toNat x8.length,!ad x3 x0 x6||ag7 (au x0 x8) x1 x2]
end
def wu:List SV→List Entry→Option Out
 | [.one ⟨false,[.ptr 0 0]⟩,.one ⟨false,[.val (.int .i64 x0)]⟩,.one ⟨true,[.val (.int .i64 x1),.val (.int .i64 x2)]⟩],[.box 33 [.val (.int .i64 x3),.ref 1,.ref 2,.ref 3,.ref 4,.val (.int .i64 x4),.ref 5,.ref 6,.val (.int .i64 x5)],.row true 2 (.int .i64) x6,.row true 169 (.pair (.int .i64) (.pair (.int .i64) (.int .i64))) x7,.tree 24 (.sl 2 (.int .i64)) x8 none,.row true 100 (.pair (.int .i64) (.pair (.int .i64) (.int .i64))) x9,.row true 173 (.pair (.int .i64) (.int .i64)) x10,.row true 176 (.pair (.int .i64) (.int .i64)) x11]=>some ⟨.one ⟨false,[.val (.int .i64 (oc x0 x1 x2 x3 x6 x8))]⟩,[.box 33 [.val (.int .i64 (od x0 x1 x2 x3 x6 x8)),.ref 1,.ref 2,.ref 3,.ref 4,.val (.int .i64 (oe x0 x1 x2 x3 x4 x6 x8)),.ref 5,.ref 6,.val (.int .i64 (og x0 x1 x2 x3 x5 x6 x8))],.row true 2 aiQ (oh x0 x1 x2 x3 x6 x8),.row true 169 acG (oi x0 x1 x2 x3 x6 x7 x8),.tree 24 (CTy.sl (2:TypeId) aiQ) (oj x0 x1 x2 x3 x6 x8) none,.row true 100 acG (ol x0 x1 x2 x3 x6 x8 x9),.row true 173 acH (om x0 x1 x2 x3 x6 x8 x10),.row true 176 acH (oo x0 x1 x2 x3 x6 x8 x11)],[],[nh x0 x1 x2 x3 x6 x8]⟩
 |_,_=>none
def ot:PF prog:=PF.ofG prog [PF.trees prog,JZ,PF.lend JZ,PF.fz JZ,aH,PF.lend aH,PF.fz aH] [] aM 153 f153 func153 (fun c _=>LOk.nil c) wu (by
 intro vs es r h;unfold wu at h;split at h
 ·cases h;kernel_rfl
 ·cases h)
section
variable (x0 x1:Int)(x2:Bool)(x3 x4 x5:Int)(x6:List Int)(x7:List (Int×Int×Int))(x8:List (List Int))(x9:List (Int×Int×Int))(x10 x11:List (Int×Int))
def aI:Bool:=vdC x4 x0 x1 x2 !=(0:Int)
def aK:Bool:=bif x0==(1:Int)then !ahJ x10 x11 x5 else false
def dx:Bool:=x0==(1:Int)&&true
def oX:Int:=bif aI x0 x1 x2 x4 then(6:Int)else bif aK x0 x5 x10 x11 then(7:Int)else(0:Int)
def oY:Int:=bif aI x0 x1 x2 x4 then x3 else bif aK x0 x5 x10 x11 then x3 else x3
def oZ:Int:=bif aI x0 x1 x2 x4 then x4 else bif aK x0 x5 x10 x11 then x4 else nxC x4 x0 x1 x2
def pa:Int:=bif aI x0 x1 x2 x4 then x5 else bif aK x0 x5 x10 x11 then x5 else x5
def pb:List Int:=bif aI x0 x1 x2 x4 then x6 else bif aK x0 x5 x10 x11 then x6 else x6
def pc:List (Int×(Int×Int)):=bif aI x0 x1 x2 x4 then x7 else bif aK x0 x5 x10 x11 then x7 else x7
def pd:List (List Int):=bif aI x0 x1 x2 x4 then x8 else bif aK x0 x5 x10 x11 then x8 else x8
def pe:List (Int×(Int×Int)):=bif aI x0 x1 x2 x4 then x9 else bif aK x0 x5 x10 x11 then x9 else x9
def pf:List (Int×Int):=bif aI x0 x1 x2 x4 then x10 else bif aK x0 x5 x10 x11 then bif dx x0 then x10 else x10 else bif dx x0 then x10 else x10
def pg:List (Int×Int):=bif aI x0 x1 x2 x4 then x11 else bif aK x0 x5 x10 x11 then bif dx x0 then x11 else x11 else bif dx x0 then x11 else x11
def oa:Bool:=allT [abH x4 x0,aI x0 x1 x2 x4||(!dx x0||leN x10.length (9223372036854775807:Nat)&&leN x11.length (9223372036854775807:Nat)),aI x0 x1 x2 x4||(aK x0 x5 x10 x11||abH x4 x0)]
end
def xz:List SV→List Entry→Option Out
 | [.one ⟨false,[.ptr 0 0]⟩,.one ⟨true,[.val (.int .i64 x0),.val (.int .i64 x1),.val (.bool x2)]⟩],[.box 33 [.val (.int .i64 x3),.ref 1,.ref 2,.ref 3,.ref 4,.val (.int .i64 x4),.ref 5,.ref 6,.val (.int .i64 x5)],.row true 2 (.int .i64) x6,.row true 169 (.pair (.int .i64) (.pair (.int .i64) (.int .i64))) x7,.tree 24 (.sl 2 (.int .i64)) x8 none,.row true 100 (.pair (.int .i64) (.pair (.int .i64) (.int .i64))) x9,.row true 173 (.pair (.int .i64) (.int .i64)) x10,.row true 176 (.pair (.int .i64) (.int .i64)) x11]=>some ⟨.one ⟨false,[.val (.int .i64 (oX x0 x1 x2 x4 x5 x10 x11))]⟩,[.box 33 [.val (.int .i64 (oY x0 x1 x2 x3 x4 x5 x10 x11)),.ref 1,.ref 2,.ref 3,.ref 4,.val (.int .i64 (oZ x0 x1 x2 x4 x5 x10 x11)),.ref 5,.ref 6,.val (.int .i64 (pa x0 x1 x2 x4 x5 x10 x11))],.row true 2 aiQ (pb x0 x1 x2 x4 x5 x6 x10 x11),.row true 169 acG (pc x0 x1 x2 x4 x5 x7 x10 x11),.tree 24 (CTy.sl (2:TypeId) aiQ) (pd x0 x1 x2 x4 x5 x8 x10 x11) none,.row true 100 acG (pe x0 x1 x2 x4 x5 x9 x10 x11),.row true 173 acH (pf x0 x1 x2 x4 x5 x10 x11),.row true 176 acH (pg x0 x1 x2 x4 x5 x10 x11)],[],[oa x0 x1 x2 x4 x5 x10 x11]⟩
 |_,_=>none
def po:PF prog:=PF.ofG prog [PF.trees prog,IB,PJ,PF.lend PJ,PF.fz PJ,KL] [] aM 154 f154 func154 (fun c _=>LOk.nil c) xz (by
 intro vs es r h;unfold xz at h;split at h
 ·cases h;kernel_rfl
 ·cases h)
section
variable (x0 x1 x2 x3 x4 x5:Int)(x6:Bool)(x7 x8 x9:Int)(x10:List Int)(x11:List (Int×Int×Int))(x12:List (List Int))(x13:List (Int×Int×Int))(x14 x15:List (Int×Int))
def de:Int:=bif x0==(0:Int)then lq x1 x7 x8 x10 x11 x12 x13 else bif x0==(1:Int)then oc x1 x2 x3 x7 x10 x12 else oX x4 x5 x6 x8 x9 x14 x15
def df:Int:=bif x0==(0:Int)then rI x1 x7 x8 x10 x11 x12 x13 else bif x0==(1:Int)then od x1 x2 x3 x7 x10 x12 else oY x4 x5 x6 x7 x8 x9 x14 x15
def dg:Int:=bif x0==(0:Int)then rJ x1 x7 x8 x10 x11 x12 x13 else bif x0==(1:Int)then oe x1 x2 x3 x7 x8 x10 x12 else oZ x4 x5 x6 x8 x9 x14 x15
def dh:Int:=bif x0==(0:Int)then rK x1 x7 x8 x9 x10 x11 x12 x13 else bif x0==(1:Int)then og x1 x2 x3 x7 x9 x10 x12 else pa x4 x5 x6 x8 x9 x14 x15
def di:List Int:=bif x0==(0:Int)then rL x1 x7 x8 x10 x11 x12 x13 else bif x0==(1:Int)then oh x1 x2 x3 x7 x10 x12 else pb x4 x5 x6 x8 x9 x10 x14 x15
def dj:List (Int×(Int×Int)):=bif x0==(0:Int)then rM x1 x7 x8 x10 x11 x12 x13 else bif x0==(1:Int)then oi x1 x2 x3 x7 x10 x11 x12 else pc x4 x5 x6 x8 x9 x11 x14 x15
def dk:List (List Int):=bif x0==(0:Int)then x12 else bif x0==(1:Int)then oj x1 x2 x3 x7 x10 x12 else pd x4 x5 x6 x8 x9 x12 x14 x15
def dm:List (Int×(Int×Int)):=bif x0==(0:Int)then rO x1 x7 x8 x10 x11 x12 x13 else bif x0==(1:Int)then ol x1 x2 x3 x7 x10 x12 x13 else pe x4 x5 x6 x8 x9 x13 x14 x15
def dp:List (Int×Int):=bif x0==(0:Int)then rP x1 x7 x8 x10 x11 x12 x13 x14 else bif x0==(1:Int)then om x1 x2 x3 x7 x10 x12 x14 else pf x4 x5 x6 x8 x9 x14 x15
def dq:List (Int×Int):=bif x0==(0:Int)then rQ x1 x7 x8 x10 x11 x12 x13 x15 else bif x0==(1:Int)then oo x1 x2 x3 x7 x10 x12 x15 else pg x4 x5 x6 x8 x9 x14 x15
def eu:Bool:=allT [!x0==(0:Int)||lr x1 x7 x8 x10 x11 x12 x13,x0==(0:Int)||(!x0==(1:Int)||nh x1 x2 x3 x7 x10 x12),x0==(0:Int)||(x0==(1:Int)||oa x4 x5 x6 x8 x9 x14 x15)]
end
def Ax:List SV→List Entry→Option Out
 | [.one ⟨false,[.ptr 0 0]⟩,.one ⟨true,[.val (.int .i64 x0),.val (.int .i64 x1),.val (.int .i64 x2),.val (.int .i64 x3),.val (.int .i64 x4),.val (.int .i64 x5),.val (.bool x6)]⟩],[.box 33 [.val (.int .i64 x7),.ref 1,.ref 2,.ref 3,.ref 4,.val (.int .i64 x8),.ref 5,.ref 6,.val (.int .i64 x9)],.row true 2 (.int .i64) x10,.row true 169 (.pair (.int .i64) (.pair (.int .i64) (.int .i64))) x11,.tree 24 (.sl 2 (.int .i64)) x12 none,.row true 100 (.pair (.int .i64) (.pair (.int .i64) (.int .i64))) x13,.row true 173 (.pair (.int .i64) (.int .i64)) x14,.row true 176 (.pair (.int .i64) (.int .i64)) x15]=>some ⟨.one ⟨false,[.val (.int .i64 (de x0 x1 x2 x3 x4 x5 x6 x7 x8 x9 x10 x11 x12 x13 x14 x15))]⟩,[.box 33 [.val (.int .i64 (df x0 x1 x2 x3 x4 x5 x6 x7 x8 x9 x10 x11 x12 x13 x14 x15)),.ref 7,.ref 8,.ref 9,.ref 10,.val (.int .i64 (dg x0 x1 x2 x3 x4 x5 x6 x7 x8 x9 x10 x11 x12 x13 x14 x15)),.ref 11,.ref 12,.val (.int .i64 (dh x0 x1 x2 x3 x4 x5 x6 x7 x8 x9 x10 x11 x12 x13 x14 x15))],.gone,.gone,.gone,.gone,.gone,.gone],[.row true 2 aiQ (di x0 x1 x2 x3 x4 x5 x6 x7 x8 x9 x10 x11 x12 x13 x14 x15),.row true 169 acG (dj x0 x1 x2 x3 x4 x5 x6 x7 x8 x9 x10 x11 x12 x13 x14 x15),.tree 24 (CTy.sl (2:TypeId) aiQ) (dk x0 x1 x2 x3 x4 x5 x6 x7 x8 x9 x10 x12 x14 x15) none,.row true 100 acG (dm x0 x1 x2 x3 x4 x5 x6 x7 x8 x9 x10 x11 x12 x13 x14 x15),.row true 173 acH (dp x0 x1 x2 x3 x4 x5 x6 x7 x8 x9 x10 x11 x12 x13 x14 x15),.row true 176 acH (dq x0 x1 x2 x3 x4 x5 x6 x7 x8 x9 x10 x11 x12 x13 x14 x15)],[eu x0 x1 x2 x3 x4 x5 x6 x7 x8 x9 x10 x11 x12 x13 x14 x15]⟩
 |_,_=>none
def ff:PF prog:=PF.ofG prog [PF.trees prog,AO,PF.lendT AO,ot,PF.lend ot,PF.fz ot,po,PF.lend po,PF.fz po] [] aM 56 f56 func56 (fun c _=>LOk.nil c) Ax (by
 intro vs es r h;unfold Ax at h;split at h
 ·cases h;kernel_rfl
 ·cases h)
abbrev dX:=Int×Int×Int×List (Int×(Int×((Int×Int)×(Int×(Int×Bool)))))×Int×Int×Int×List Int×List (Int×(Int×Int))×List (List Int)×List (Int×(Int×Int))×List (Int×Int)×List (Int×Int)
def lH(y0:Int)(y3:List (Int×(Int×((Int×Int)×(Int×(Int×Bool)))))):Int×Int×(Int×Int)×Int×Int×Bool:=Option.getD y3[Int.toNat y0]? ((0:Int),(0:Int),((0:Int),(0:Int)),(0:Int),(0:Int),false)
def bi(y0:Int)(y3:List (Int×(Int×((Int×Int)×(Int×(Int×Bool)))))):Int:=(lH y0 y3).1
def ac(y0:Int)(y3:List (Int×(Int×((Int×Int)×(Int×(Int×Bool)))))):Bool:=bi y0 y3==(0:Int)
def lI(y0:Int)(y3:List (Int×(Int×((Int×Int)×(Int×(Int×Bool)))))):Int×(Int×Int)×Int×Int×Bool:=(lH y0 y3).2
def ba(y0:Int)(y3:List (Int×(Int×((Int×Int)×(Int×(Int×Bool)))))):Int:=(lI y0 y3).1
def gR(y0:Int)(y3:List (Int×(Int×((Int×Int)×(Int×(Int×Bool)))))):(Int×Int)×Int×Int×Bool:=(lI y0 y3).2
def bv(y0:Int)(y3:List (Int×(Int×((Int×Int)×(Int×(Int×Bool)))))):Int:=(gR y0 y3).1.1
def bw(y0:Int)(y3:List (Int×(Int×((Int×Int)×(Int×(Int×Bool)))))):Int:=(gR y0 y3).1.2
def bx(y0:Int)(y3:List (Int×(Int×((Int×Int)×(Int×(Int×Bool)))))):Int:=((gR y0 y3).2).1
def ao(y0:Int)(y3:List (Int×(Int×((Int×Int)×(Int×(Int×Bool)))))):Int×Bool:=(gR y0 y3).2.2
def bC(y0:Int)(y3:List (Int×(Int×((Int×Int)×(Int×(Int×Bool))))))(y8:List (Int×(Int×Int))):List (Int×Int×Int):=bif ac y0 y3&&true then y8 else y8
def bD(y0:Int)(y3:List (Int×(Int×((Int×Int)×(Int×(Int×Bool))))))(y10:List (Int×(Int×Int))):List (Int×Int×Int):=bif ac y0 y3&&true then y10 else y10
def rv(y0 y1:Int):Bool:=ltI y0 y1
def rx(y0:Int):Bool:=leI (0:Int) y0
def ry(y0:Int)(y3:List (Int×(Int×((Int×Int)×(Int×(Int×Bool)))))):Bool:=ltI y0 (↑y3.length:Int)
def rz(y0:Int)(y3:List (Int×(Int×((Int×Int)×(Int×(Int×Bool)))))):Bool:=ltN y0.toNat y3.length
def rA(y0:Int)(y3:List (Int×(Int×((Int×Int)×(Int×(Int×Bool))))))(y7:List Int):Bool:= !(ac y0 y3&&true)||aU (ba y0 y3) y7
def rB(y0:Int)(y3:List (Int×(Int×((Int×Int)×(Int×(Int×Bool))))))(y4 y5 y6:Int)(y7:List Int)(y8:List (Int×(Int×Int)))(y9:List (List Int))(y10:List (Int×(Int×Int)))(y11 y12:List (Int×Int)):Bool:=eu (bi y0 y3) (ba y0 y3) (bv y0 y3) (bw y0 y3) (bx y0 y3) ((ao y0 y3).1) ((ao y0 y3).2) y4 y5 y6 (bif ac y0 y3&&true then y7 else y7) (bC y0 y3 y8) (bif ac y0 y3&&true then y9 else y9) (bD y0 y3 y10) (bif ac y0 y3&&true then y11 else y11) (bif ac y0 y3&&true then y12 else y12)
def rC(y0:Int):Int:=IntKind.wrap .i64 (y0 + (1:Int))
def rD(y0 y2:Int)(y3:List (Int×(Int×((Int×Int)×(Int×(Int×Bool))))))(y4 y5 y6:Int)(y7:List Int)(y8:List (Int×(Int×Int)))(y9:List (List Int))(y10:List (Int×(Int×Int)))(y11 y12:List (Int×Int)):Int:=bif bif de (bi y0 y3) (ba y0 y3) (bv y0 y3) (bw y0 y3) (bx y0 y3) ((ao y0 y3).1) ((ao y0 y3).2) y4 y5 y6 (bif ac y0 y3&&true then y7 else y7) (bC y0 y3 y8) (bif ac y0 y3&&true then y9 else y9) (bD y0 y3 y10) (bif ac y0 y3&&true then y11 else y11) (bif ac y0 y3&&true then y12 else y12)==(0:Int)then bif ac y0 y3 then ad y4 (ba y0 y3) y7 else false else false then IntKind.wrap .i64 (y2 + (1:Int))else y2
def rE(y0:Int)(y3:List (Int×(Int×((Int×Int)×(Int×(Int×Bool))))))(y4 y5 y6:Int)(y7:List Int)(y8:List (Int×(Int×Int)))(y9:List (List Int))(y10:List (Int×(Int×Int)))(y11 y12:List (Int×Int)):Int:=df (bi y0 y3) (ba y0 y3) (bv y0 y3) (bw y0 y3) (bx y0 y3) ((ao y0 y3).1) ((ao y0 y3).2) y4 y5 y6 (bif ac y0 y3&&true then y7 else y7) (bC y0 y3 y8) (bif ac y0 y3&&true then y9 else y9) (bD y0 y3 y10) (bif ac y0 y3&&true then y11 else y11) (bif ac y0 y3&&true then y12 else y12)
def rF(y0:Int)(y3:List (Int×(Int×((Int×Int)×(Int×(Int×Bool))))))(y4 y5 y6:Int)(y7:List Int)(y8:List (Int×(Int×Int)))(y9:List (List Int))(y10:List (Int×(Int×Int)))(y11 y12:List (Int×Int)):Int:=dg (bi y0 y3) (ba y0 y3) (bv y0 y3) (bw y0 y3) (bx y0 y3) ((ao y0 y3).1) ((ao y0 y3).2) y4 y5 y6 (bif ac y0 y3&&true then y7 else y7) (bC y0 y3 y8) (bif ac y0 y3&&true then y9 else y9) (bD y0 y3 y10) (bif ac y0 y3&&true then y11 else y11) (bif ac y0 y3&&true then y12 else y12)
def pT(y0:Int)(y3:List (Int×(Int×((Int×Int)×(Int×(Int×Bool))))))(y4 y5 y6:Int)(y7:List Int)(y8:List (Int×(Int×Int)))(y9:List (List Int))(y10:List (Int×(Int×Int)))(y11 y12:List (Int×Int)):Int:=dh (bi y0 y3) (ba y0 y3) (bv y0 y3) (bw y0 y3) (bx y0 y3) ((ao y0 y3).1) ((ao y0 y3).2) y4 y5 y6 (bif ac y0 y3&&true then y7 else y7) (bC y0 y3 y8) (bif ac y0 y3&&true then y9 else y9) (bD y0 y3 y10) (bif ac y0 y3&&true then y11 else y11) (bif ac y0 y3&&true then y12 else y12)
def pU(y0:Int)(y3:List (Int×(Int×((Int×Int)×(Int×(Int×Bool))))))(y4 y5 y6:Int)(y7:List Int)(y8:List (Int×(Int×Int)))(y9:List (List Int))(y10:List (Int×(Int×Int)))(y11 y12:List (Int×Int)):List Int:=di (bi y0 y3) (ba y0 y3) (bv y0 y3) (bw y0 y3) (bx y0 y3) ((ao y0 y3).1) ((ao y0 y3).2) y4 y5 y6 (bif ac y0 y3&&true then y7 else y7) (bC y0 y3 y8) (bif ac y0 y3&&true then y9 else y9) (bD y0 y3 y10) (bif ac y0 y3&&true then y11 else y11) (bif ac y0 y3&&true then y12 else y12)
def pV(y0:Int)(y3:List (Int×(Int×((Int×Int)×(Int×(Int×Bool))))))(y4 y5 y6:Int)(y7:List Int)(y8:List (Int×(Int×Int)))(y9:List (List Int))(y10:List (Int×(Int×Int)))(y11 y12:List (Int×Int)):List (Int×(Int×Int)):=dj (bi y0 y3) (ba y0 y3) (bv y0 y3) (bw y0 y3) (bx y0 y3) ((ao y0 y3).1) ((ao y0 y3).2) y4 y5 y6 (bif ac y0 y3&&true then y7 else y7) (bC y0 y3 y8) (bif ac y0 y3&&true then y9 else y9) (bD y0 y3 y10) (bif ac y0 y3&&true then y11 else y11) (bif ac y0 y3&&true then y12 else y12)
def pW(y0:Int)(y3:List (Int×(Int×((Int×Int)×(Int×(Int×Bool))))))(y4 y5 y6:Int)(y7:List Int)(y9:List (List Int))(y11 y12:List (Int×Int)):List (List Int):=dk (bi y0 y3) (ba y0 y3) (bv y0 y3) (bw y0 y3) (bx y0 y3) ((ao y0 y3).1) ((ao y0 y3).2) y4 y5 y6 (bif ac y0 y3&&true then y7 else y7) (bif ac y0 y3&&true then y9 else y9) (bif ac y0 y3&&true then y11 else y11) (bif ac y0 y3&&true then y12 else y12)
def pX(y0:Int)(y3:List (Int×(Int×((Int×Int)×(Int×(Int×Bool))))))(y4 y5 y6:Int)(y7:List Int)(y8:List (Int×(Int×Int)))(y9:List (List Int))(y10:List (Int×(Int×Int)))(y11 y12:List (Int×Int)):List (Int×(Int×Int)):=dm (bi y0 y3) (ba y0 y3) (bv y0 y3) (bw y0 y3) (bx y0 y3) ((ao y0 y3).1) ((ao y0 y3).2) y4 y5 y6 (bif ac y0 y3&&true then y7 else y7) (bC y0 y3 y8) (bif ac y0 y3&&true then y9 else y9) (bD y0 y3 y10) (bif ac y0 y3&&true then y11 else y11) (bif ac y0 y3&&true then y12 else y12)
def pY(y0:Int)(y3:List (Int×(Int×((Int×Int)×(Int×(Int×Bool))))))(y4 y5 y6:Int)(y7:List Int)(y8:List (Int×(Int×Int)))(y9:List (List Int))(y10:List (Int×(Int×Int)))(y11 y12:List (Int×Int)):List (Int×Int):=dp (bi y0 y3) (ba y0 y3) (bv y0 y3) (bw y0 y3) (bx y0 y3) ((ao y0 y3).1) ((ao y0 y3).2) y4 y5 y6 (bif ac y0 y3&&true then y7 else y7) (bC y0 y3 y8) (bif ac y0 y3&&true then y9 else y9) (bD y0 y3 y10) (bif ac y0 y3&&true then y11 else y11) (bif ac y0 y3&&true then y12 else y12)
def pZ(y0:Int)(y3:List (Int×(Int×((Int×Int)×(Int×(Int×Bool))))))(y4 y5 y6:Int)(y7:List Int)(y8:List (Int×(Int×Int)))(y9:List (List Int))(y10:List (Int×(Int×Int)))(y11 y12:List (Int×Int)):List (Int×Int):=dq (bi y0 y3) (ba y0 y3) (bv y0 y3) (bw y0 y3) (bx y0 y3) ((ao y0 y3).1) ((ao y0 y3).2) y4 y5 y6 (bif ac y0 y3&&true then y7 else y7) (bC y0 y3 y8) (bif ac y0 y3&&true then y9 else y9) (bD y0 y3 y10) (bif ac y0 y3&&true then y11 else y11) (bif ac y0 y3&&true then y12 else y12)
def Uw:dX→List (Nat×SV)
 |(y0,y1,y2,_,_,_,_,_,_,_,_,_,_)=> [(22,(.one ⟨false,[.val (.int .i64 y0)]⟩)),(21,(.one ⟨false,[.val (.int .i64 y1)]⟩)),(20,(.one ⟨false,[.ref 0]⟩)),(7,(.one ⟨false,[.ptr 1 0]⟩)),(8,(.one ⟨false,[.val (.int .i64 y2)]⟩))]
def Uv:dX→List (Nat×Entry)
 |(_,_,_,y3,y4,y5,y6,y7,y8,y9,y10,y11,y12)=> [(0,(.row false 49 aa6 y3)),(1,(.box 33 [.val (.int .i64 y4),.ref 2,.ref 3,.ref 4,.ref 5,.val (.int .i64 y5),.ref 6,.ref 7,.val (.int .i64 y6)])),(2,(.row true 2 aiQ y7)),(3,(.row true 169 acG y8)),(4,(.tree 24 (CTy.sl (2:Nat) aiQ) y9 none)),(5,(.row true 100 acG y10)),(6,(.row true 173 acH y11)),(7,(.row true 176 acH y12))]
def UC:Nat→dX→List (Nat×SV)
 |_,(_,_,y2,_,_,_,_,_,_,_,_,_,_)=> [(8,(.one ⟨false,[.val (.int .i64 y2)]⟩))]
def UB:Nat→dX→List (Nat×Entry)
 |_,(_,_,_,y3,y4,y5,y6,y7,y8,y9,y10,y11,y12)=> [(0,(.row false 49 aa6 y3)),(1,(.box 33 [.val (.int .i64 y4),.ref 2,.ref 3,.ref 4,.ref 5,.val (.int .i64 y5),.ref 6,.ref 7,.val (.int .i64 y6)])),(2,(.row true 2 aiQ y7)),(3,(.row true 169 acG y8)),(4,(.tree 24 (CTy.sl (2:Nat) aiQ) y9 none)),(5,(.row true 100 acG y10)),(6,(.row true 173 acH y11)),(7,(.row true 176 acH y12))]
def qb:dX→LT dX
 |(y0,y1,y2,y3,y4,y5,y6,y7,y8,y9,y10,y11,y12)=> .ite (rv y0 y1) (.need [rx y0,ry y0 y3,rz y0 y3] (.need [rA y0 y3 y7] (.need [rB y0 y3 y4 y5 y6 y7 y8 y9 y10 y11 y12] (.nrm ((rC y0),y1,rD y0 y2 y3 y4 y5 y6 y7 y8 y9 y10 y11 y12,y3,rE y0 y3 y4 y5 y6 y7 y8 y9 y10 y11 y12,rF y0 y3 y4 y5 y6 y7 y8 y9 y10 y11 y12,pT y0 y3 y4 y5 y6 y7 y8 y9 y10 y11 y12,pU y0 y3 y4 y5 y6 y7 y8 y9 y10 y11 y12,pV y0 y3 y4 y5 y6 y7 y8 y9 y10 y11 y12,pW y0 y3 y4 y5 y6 y7 y9 y11 y12,pX y0 y3 y4 y5 y6 y7 y8 y9 y10 y11 y12,pY y0 y3 y4 y5 y6 y7 y8 y9 y10 y11 y12,(pZ y0 y3 y4 y5 y6 y7 y8 y9 y10 y11 y12)) [(0,0),(1,1),(2,1088),(3,1089),(4,1090),(5,1091),(6,1092),(7,1093)])))) (.ext 0 [(0,0),(1,1),(2,2),(3,3),(4,4),(5,5),(6,6),(7,7)])
def Db(s:St):Option dX:=
 (match s.look 22 with
 |some ⟨none,.one ⟨false,[.val (.int .i64 y0)]⟩⟩=>
 (match s.look 21 with
 |some ⟨none,.one ⟨false,[.val (.int .i64 y1)]⟩⟩=>
 (match s.look 20 with
 |some ⟨none,.one ⟨false,[.ref 6]⟩⟩=>
 (match s.look 7 with
 |some ⟨none,.one ⟨false,[.ptr 1216 0]⟩⟩=>
 (match s.look 8 with
 |some ⟨none,.one ⟨false,[.val (.int .i64 y2)]⟩⟩=>
 (match s.ent 6 with
 |some (.row false 49 (.pair (.int .i64) (.pair (.int .i64) (.pair (.pair (.int .i64) (.int .i64)) (.pair (.int .i64) (.pair (.int .i64) .bool))))) y3)=>
 (match s.ent 1216 with
 |some (.box 33 [.val (.int .i64 y4),.ref 1152,.ref 1153,.ref 1154,.ref 1155,.val (.int .i64 y5),.ref 1156,.ref 1157,.val (.int .i64 y6)])=>
 (match s.ent 1152 with
 |some (.row true 2 (.int .i64) y7)=>
 (match s.ent 1153 with
 |some (.row true 169 (.pair (.int .i64) (.pair (.int .i64) (.int .i64))) y8)=>
 (match s.ent 1154 with
 |some (.tree 24 (.sl 2 (.int .i64)) y9 none)=>
 (match s.ent 1155 with
 |some (.row true 100 (.pair (.int .i64) (.pair (.int .i64) (.int .i64))) y10)=>
 (match s.ent 1156 with
 |some (.row true 173 (.pair (.int .i64) (.int .i64)) y11)=>
 (match s.ent 1157 with
 |some (.row true 176 (.pair (.int .i64) (.int .i64)) y12)=>
 some (y0,y1,y2,y3,y4,y5,y6,y7,y8,y9,y10,y11,y12)
 |_=>none)
 |_=>none)
 |_=>none)
 |_=>none)
 |_=>none)
 |_=>none)
 |_=>none)
 |_=>none)
 |_=>none)
 |_=>none)
 |_=>none)
 |_=>none)
 |_=>none)
def bz:Lp dX where
 h:=⟨[23,24,25,10,26,27,28,29,30,31,32,33,34,11,35,36,37,38,39,40,41,42,8,43,22],[0,1],[2,3,4,5,6,7],[]⟩
 JL:=Uw
 JE:=Uv
 XL:=UC
 XE:=UB
 q:=fun j=>match j with | _=> .exit 0
 tags:= [0]
 lt:=qb
 fuel:=fun(y0,y1,y2,y3,y4,y5,y6,y7,y8,y9,y10,y11,y12)=>y0.natAbs + y1.natAbs + y2.natAbs + y3.length + y4.natAbs + y5.natAbs + y6.natAbs + y7.length + y8.length + y9.length + y10.length + y11.length + y12.length
 fix:=fun(_,y1,_,y3,_,_,_,_,_,_,_,_,_) (y0,_,y2,_,y4,y5,y6,y7,y8,y9,y10,y11,y12)=>(y0,y1,y2,y3,y4,y5,y6,y7,y8,y9,y10,y11,y12)
 σ:= [(0,6),(1,1216),(2,1152),(3,1153),(4,1154),(5,1155),(6,1156),(7,1157)]
 rd:=Db
theorem Tt:LoopOk prog (fun k=>Nat.blt k Tryz.f30.ntmps) bz.F (aL f30 0):=by
 refine Lp.ok (tbl:= [PF.trees prog,BU,PF.lend BU,PF.fz BU,ew,PF.lend ew,PF.fz ew,ff,PF.lend ff,PF.fz ff,aH,PF.lend aH,PF.fz aH]) (lf:= []) aM bz (by kernel_rfl) (LOk.nil _) (fun _=>rfl) (fun _ _=>rfl) ?_ ?_ ?_ ?_ (fun _=>rfl) ?_
 ·rintro⟨y0,y1,y2,y3,y4,y5,y6,y7,y8,y9,y10,y11,y12⟩;kernel_rfl
 ·rintro⟨y0,y1,y2,y3,y4,y5,y6,y7,y8,y9,y10,y11,y12⟩;kernel_rfl
 ·intro s x h
  have h:Db s=some x:=h
  unfold Db at h
  repeat' split at h
  all_goals cases h
  exact⟨aa (by assumption) rfl (aa (by assumption) rfl (aa (by assumption) rfl (aa (by assumption) rfl (aa (by assumption) rfl (rfl))))),ab rfl (by assumption) rfl (ab rfl (by assumption) rfl (ab rfl (by assumption) rfl (ab rfl (by assumption) rfl (ab rfl (by assumption) rfl (ab rfl (by assumption) rfl (ab rfl (by assumption) rfl (ab rfl (by assumption) rfl (rfl))))))))⟩
 ·rintro⟨y0,y1,y2,y3,y4,y5,y6,y7,y8,y9,y10,y11,y12⟩;kernel_rfl
 ·rintro⟨y0,y1,y2,y3,y4,y5,y6,y7,y8,y9,y10,y11,y12⟩ z;exact(And.intro rfl trivial)
section
variable (x0 x1 x2:Int)(x3:List Int)(x4:List (Int×Int×Int))(x5:List (List Int))(x6:List (Int×Int×Int))(x7 x8:List (Int×Int))(x9:List (Int×Int×(Int×Int)×Int×Int×Bool))
def pA:Bool:=wX x0 x1 x2 x3 x4 x5 x6 x7 x8 x9 !=(0:Int)
def pB:Int×Int×Int×List (Int×Int×(Int×Int)×Int×Int×Bool)×Int×Int×Int×List Int×List (Int×Int×Int)×List (List Int)×List (Int×Int×Int)×List (Int×Int)×List (Int×Int):=((0:Int),(↑x9.length:Int),(0:Int),x9,x0,x1,x2,x3,x4,kO x0 x1 x2 x3 x4 x5 x6 x7 x8,x6,x7,x8)
def Bg:Int:=bif pA x0 x1 x2 x3 x4 x5 x6 x7 x8 x9 then(0:Int)else ((Lp.res bz (pB x0 x1 x2 x3 x4 x5 x6 x7 x8 x9)).2.2.2).1
def Bh:Int:=bif pA x0 x1 x2 x3 x4 x5 x6 x7 x8 x9 then wX x0 x1 x2 x3 x4 x5 x6 x7 x8 x9 else(0:Int)
def Bi:Bool:=allT [BN x0 x1 x2 x3 x4 x5 x6 x7 x8 x9,pA x0 x1 x2 x3 x4 x5 x6 x7 x8 x9||kP x0 x1 x2 x3 x4 x5 x6 x7 x8,pA x0 x1 x2 x3 x4 x5 x6 x7 x8 x9||Lp.fin bz (pB x0 x1 x2 x3 x4 x5 x6 x7 x8 x9)]
end
def Pr:List SV→List Entry→Option Out
 | [.one ⟨true,[.val (.int .i64 x0),.ref 0,.ref 1,.ref 2,.ref 3,.val (.int .i64 x1),.ref 4,.ref 5,.val (.int .i64 x2)]⟩,.one ⟨false,[.ref 6]⟩],[.row false 2 (.int .i64) x3,.row false 169 (.pair (.int .i64) (.pair (.int .i64) (.int .i64))) x4,.row false 24 (.sl 2 (.int .i64)) x5,.row false 100 (.pair (.int .i64) (.pair (.int .i64) (.int .i64))) x6,.row false 173 (.pair (.int .i64) (.int .i64)) x7,.row false 176 (.pair (.int .i64) (.int .i64)) x8,.row false 49 (.pair (.int .i64) (.pair (.int .i64) (.pair (.pair (.int .i64) (.int .i64)) (.pair (.int .i64) (.pair (.int .i64) (.bool)))))) x9]=>some ⟨.tup [⟨false,[.val (.int .i64 (Bg x0 x1 x2 x3 x4 x5 x6 x7 x8 x9))]⟩,⟨false,[.val (.int .i64 (Bh x0 x1 x2 x3 x4 x5 x6 x7 x8 x9))]⟩],[.row false 2 aiQ x3,.row false 169 acG x4,.row false 24 (CTy.sl (2:TypeId) aiQ) x5,.row false 100 acG x6,.row false 173 acH x7,.row false 176 acH x8,.row false 49 aa6 x9],[],[Bi x0 x1 x2 x3 x4 x5 x6 x7 x8 x9]⟩
 |_,_=>none
def aaG:PF prog:=PF.ofG prog [PF.trees prog,BU,PF.lend BU,PF.fz BU,ew,PF.lend ew,PF.fz ew,ff,PF.lend ff,PF.fz ff,aH,PF.lend aH,PF.fz aH] [bz.F] aM 30 f30 func30 (LOk.fnT (l:= [aL f30 0]) (by kernel_rfl) (.cons Tt (.nil _))) Pr (by
 intro vs es r h;unfold Pr at h;split at h
 ·cases h;kernel_rfl
 ·cases h)
section
variable (x3 x4 x5 x6 x7 x8:Int)(x9:Bool)(x10:List Int)(x12:List (List Int))
def pj:Bool:=bif x5==(0:Int)then bif x6==(0:Int)then true else false else false
def pk:Bool:=bif x7==(0:Int)then bif x8==(0:Int)then bif x9==false then true else false else false else false
def yK:Bool:=bif x3==(0:Int)then bif bif Mw x10 x4 then pj x5 x6 else false then pk x7 x8 x9 else false else bif x3==(1:Int)then bif bif Mw x10 x4 then rsB (dd (bif Mw x10 x4&&true then Option.getD x12[Int.toNat (0:Int)]? (Ei (CTy.sl (2:TypeId) aiQ))else [])) x5 x6 else false then pk x7 x8 x9 else false else bif x3==(2:Int)then bif bif x4==(0:Int)then pj x5 x6 else false then agy x7 x8 else false else false
def yL:Bool:=allT [!x3==(0:Int)||leN x10.length (9223372036854775807:Nat),x3==(0:Int)||(!x3==(1:Int)||leN x10.length (9223372036854775807:Nat)),x3==(0:Int)||(!x3==(1:Int)||(!(Mw x10 x4&&true)||leI (0:Int) (0:Int))),x3==(0:Int)||(!x3==(1:Int)||(!(Mw x10 x4&&true)||ltI (0:Int) (↑x12.length:Int))),x3==(0:Int)||(!x3==(1:Int)||(!(Mw x10 x4&&true)||ltN (Int.toNat (0:Int)) x12.length))]
end
end Go.SX
