/- What functions of the program come to, and what that says in plain words: part 3. -/
import Derived.Test.YtbajbgcdcaknpaaGreatDoorMb
import Derived.Test.YtbajbgcdcaknpaaGreatDoorTXh
import Derived.Test.YtbajbgcdcaknpaaGreatDoorProg
import Derived.Test.YtbajbgcdcaknpaaGreatDoorTXk
import Derived.Test.YtbajbgcdcaknpaaGreatDoorTXi
set_option linter.unusedSimpArgs false
set_option linter.unusedVariables false
namespace Go.SX
open Go.Proofs
set_option maxRecDepth 100000
def abx(k r:Int):Bool:=inR k 0 9&&inR r 0 3
def ahA(k:Int):List Int:=FW k
def vdC(m k r:Int)(key:Bool):Int:=bif !(ahA k).any (· ==m)then 1 else bif ltI r (HT k)then 2 else bif bif Mi k then !key else false then 3 else 0
def toC(k:Int):Int:=Uh k
def nxC(m k r:Int)(key:Bool):Int:=bif vdC m k r key==0 then toC k else m
def Vy(m k:Int):Bool:=inR k 0 9&&inR m 0 5
theorem ai7(k r:Int):LS k r=abx k r:=by
 simp only [LS,PD,aJ,rY,abx]
 cases inR k 0 9 <;> rfl
theorem aiI(k r:Int):Lh k r=abx k r:=by
 simp only [Lh,Rc,aZ,rY,abx]
 cases inR k 0 9 <;> rfl
def BC(y1 b:Int):(Unit)→Nat ⊕ (Unit)
 |_=>(bif(b==y1)then(.inl 0)else(.inr ()))
def rD(y1:Int)(y2:List Int)(i:Nat):(Unit)→kV
 |_=>((i:Int),y1,y2)
def JX:kV→Unit
 |(_,_,_)=>()
theorem adn(y1:Int)(y2:List Int) (hn:y2.length≤9223372036854775807):
  ft.fin ((0:Int),y1,y2)=true∧ft.res ((0:Int),y1,y2)=((aq (BC y1) 1 y2 0 ()).1,(rD y1 y2) (aq (BC y1) 1 y2 0 ()).2.1 (aq (BC y1) 1 y2 0 ()).2.2):=by
 have key:=ft.along (rD y1 y2) JX (BC y1) 1 (fun _ _=>True) y2 () (by trivial) (by simp only [ft,rD];omega) (fun i b a hb hI=> ?_) (fun a hI=> ?_)
 ·exact key
 ·obtain⟨⟩:=a
  have hlt:=(List.getElem?_eq_some_iff.1 hb).1
  have hget: ∀ d,Option.getD y2[i]? d=b:=fun d=>by rw [hb];rfl
  have hw:=qG hlt hn
  have hdec:ltI (i:Int) (y2.length:Int)=true:=db (by omega)
  have hnn:leI (0:Int) (i:Int)=true:=bZ (by omega)
  have hltd:ltN i y2.length=true:=dK hlt
  refine⟨?_,?_,?_,?_⟩
  ·simp [wI,Cc,Cd,Ce,Cf,zM,ft,LT.nds,allT,rD,hdec,hnn,hltd,hget]
  ·simp [wI,Cc,Cd,Ce,Cf,zM,ft,LT.each,rD,JX,hw]
  ·simp only [wI,Cc,Cd,Ce,Cf,zM,ft,LT.fn,rD,JX,BC,Int.toNat_natCast,hdec,hnn,hltd,hget,cond_true,Bool.cond_self]
  ·exact fun _ _=>trivial
 ·obtain⟨⟩:=a
  simp [wI,Cc,Cd,Ce,Cf,zM,ft,LT.out,rD]
theorem al4(x:Int)(l:List Int)(h:l.length≤9223372036854775807):Mg x l=l.any (· ==x)∧Mh x l=true:=by
 obtain⟨w1,w2⟩:=adn x l h
 rw [iq (P:=fun v=>v==x) (j:=0) (fun v=>rfl)]at w2
 simp only [Mg,Mh,Py,w1,w2,allT]
 cases l.any (· ==x) <;> exact⟨rfl,rfl⟩
theorem ahh{m k:Int}(h:Vy m k=true): ∃ (a:Fin 10) (b:Fin 6),k=(a.val:Int)∧m=(b.val:Int):=by
 simp only [Vy,Bool.and_eq_true,pF]at h
 exact⟨⟨k.toNat,by omega⟩,⟨m.toNat,by omega⟩,by simp;omega,by simp;omega⟩
theorem aky: ∀ a:Fin 10,(ahA (a.val:Int)).length≤5:=by decide
theorem agv(m k r:Int)(key:Bool)(h:Vy m k=true):Fa m k r key=vdC m k r key∧Fb m k=true:=by
 obtain⟨a,b,rfl,rfl⟩:=ahh h
 have hl:=aky a
 obtain⟨h1,h2⟩:=al4 (b.val:Int) (ahA (a.val:Int)) (by omega)
 have e:FW (a.val:Int)=ahA (a.val:Int):=rfl
 simp only [Fa,Fb,e,h1,h2,vdC,allT,cond_true,and_self]
theorem akZ: ∀ (a:Fin 10) (b:Fin 6),(IntKind.i64.wrap (↑(BitVec.toNat (BitVec.ofInt (IntKind.bits IntKind.i64) (Int.fdiv ((Option.getD adl[Int.toNat (a.val:Int)]? ((0:Int),(0:Int),(0:Int),false)).1) ((2:Int) ^ min (Int.toNat (b.val:Int)) (IntKind.bits IntKind.i64)))&&& BitVec.ofInt (IntKind.bits IntKind.i64) (1:Int))):Int)==(0:Int))= !(ahA (a.val:Int)).any (· ==(b.val:Int)):=by decide
theorem aig: ∀ a:Fin 10,(Option.getD adl[Int.toNat (a.val:Int)]? ((0:Int),(0:Int),(0:Int),false)).2=(toC (a.val:Int),HT (a.val:Int),Mi (a.val:Int)):=by decide
theorem ajh: ∀ a:Fin 10,ltI (a.val:Int) (adl.length:Int)=true∧ltN (Int.toNat (a.val:Int)) adl.length=true∧Ui (a.val:Int)=true:=by decide
theorem agb(m k r:Int)(key:Bool)(h:Vy m k=true):gD k r key m=vdC m k r key∧gE k m=true:=by
 obtain⟨a,b,rfl,rfl⟩:=ahh h
 obtain⟨n1,n2,_⟩:=ajh a
 have n0:leI 0 (a.val:Int)=true:=bZ (by omega)
 have n3:leI 0 (b.val:Int)=true:=bZ (by omega)
 simp only [gD,gE,j8,j9,akZ,aig,n0,n1,n2,n3,vdC,allT,cond_true,and_self]
theorem aka(m k r:Int)(key:Bool)(h:Vy m k=true):PB m k r key=nxC m k r key∧PC m k r key=true:=by
 obtain⟨h1,h2⟩:=agv m k r key h
 obtain⟨a,b,rfl,rfl⟩:=ahh h
 simp only [PB,PC,Nk,h1,h2,(ajh a).2.2,nxC,toC,allT,Bool.or_true,cond_true,and_self]
theorem ajS(m k r:Int)(key:Bool)(h:Vy m k=true):me k r key m=nxC m k r key∧mf k r key m=true:=by
 obtain⟨h1,h2⟩:=agb m k r key h
 obtain⟨a,b,rfl,rfl⟩:=ahh h
 obtain⟨n1,n2,_⟩:=ajh a
 have n0:leI 0 (a.val:Int)=true:=bZ (by omega)
 simp only [me,mf,eS,h1,h2,n0,n1,n2,aig,nxC,allT,Bool.or_true,cond_true,and_self]
def Ss:List SV→List Entry→Option Out
 | [.one ⟨true,[.val (.int .i64 x0),.val (.int .i64 x1),.val (.bool _x2)]⟩],[]=>some ⟨(.one ⟨false,[(.val (.bool (abx x0 x1)))]⟩),[],[],[]⟩
 |_,_=>none
def acR:PF Tryz.prog:=PF.alt ada Ss (by
 intro args es o h hnd;unfold Ss at h;split at h
 ·rename_i x0 x1 _x2
  cases h
  have hh:=ai7 x0 x1
  have e0:=hh
  exact gW rfl (fun _ h=>by cases h) (by simp only [e0] <;> rfl) rfl rfl
 ·cases h)
def Sh:List SV→List Entry→Option Out
 | [.one ⟨true,[.val (.int .i64 x0),.val (.int .i64 x1),.val (.bool _x2)]⟩],[]=>some ⟨(.one ⟨false,[(.val (.bool (abx x0 x1)))]⟩),[],[],[]⟩
 |_,_=>none
def acQ:PF Tryz.prog:=PF.alt acX Sh (by
 intro args es o h hnd;unfold Sh at h;split at h
 ·rename_i x0 x1 _x2
  cases h
  have hh:=aiI x0 x1
  have e0:=hh
  exact gW rfl (fun _ h=>by cases h) (by simp only [e0] <;> rfl) rfl rfl
 ·cases h)
def Qy:List SV→List Entry→Option Out
 | [.one ⟨false,[.val (.int .i64 x0)]⟩,.one ⟨true,[.val (.int .i64 x1),.val (.int .i64 x2),.val (.bool x3)]⟩],[]=>some ⟨(.one ⟨false,[(.val (.int .i64 (vdC x0 x1 x2 x3)))]⟩),[],[],[Vy x0 x1]⟩
 |_,_=>none
def abQ:PF Tryz.prog:=PF.alt QG Qy (by
 intro args es o h hnd;unfold Qy at h;split at h
 ·rename_i x0 x1 x2 x3
  cases h
  have hnd:=eD hnd
  have hh:=agv x0 x1 x2 x3 hnd
  obtain⟨e0,en⟩:=hh
  exact gW rfl (eN en) (by simp only [e0] <;> rfl) rfl rfl
 ·cases h)
def Ws:List SV→List Entry→Option Out
 | [.one ⟨false,[.val (.int .i64 x0)]⟩,.one ⟨true,[.val (.int .i64 x1),.val (.int .i64 x2),.val (.bool x3)]⟩],[]=>some ⟨(.one ⟨false,[(.val (.int .i64 (nxC x0 x1 x2 x3)))]⟩),[],[],[Vy x0 x1]⟩
 |_,_=>none
def aeX:PF Tryz.prog:=PF.alt afd Ws (by
 intro args es o h hnd;unfold Ws at h;split at h
 ·rename_i x0 x1 x2 x3
  cases h
  have hnd:=eD hnd
  have hh:=aka x0 x1 x2 x3 hnd
  obtain⟨e0,en⟩:=hh
  exact gW rfl (eN en) (by simp only [e0] <;> rfl) rfl rfl
 ·cases h)
def qN:List SV→List Entry→Option Out
 | [.one ⟨true,[.val (.int .i64 x0),.val (.int .i64 x1),.val (.bool x2)]⟩,.one ⟨false,[.val (.int .i64 x3)]⟩],[]=>some ⟨(.one ⟨false,[(.val (.int .i64 (vdC x3 x0 x1 x2)))]⟩),[],[],[Vy x3 x0]⟩
 |_,_=>none
def DB:PF Tryz.prog:=PF.alt rn qN (by
 intro args es o h hnd;unfold qN at h;split at h
 ·rename_i x0 x1 x2 x3
  cases h
  have hnd:=eD hnd
  have hh:=agb x3 x0 x1 x2 hnd
  obtain⟨e0,en⟩:=hh
  exact gW rfl (eN en) (by simp only [e0] <;> rfl) rfl rfl
 ·cases h)
def tu:List SV→List Entry→Option Out
 | [.one ⟨true,[.val (.int .i64 x0),.val (.int .i64 x1),.val (.bool x2)]⟩,.one ⟨false,[.val (.int .i64 x3)]⟩],[]=>some ⟨(.one ⟨false,[(.val (.int .i64 (nxC x3 x0 x1 x2)))]⟩),[],[],[Vy x3 x0]⟩
 |_,_=>none
def Fd:PF Tryz.prog:=PF.alt Ff tu (by
 intro args es o h hnd;unfold tu at h;split at h
 ·rename_i x0 x1 x2 x3
  cases h
  have hnd:=eD hnd
  have hh:=ajS x3 x0 x1 x2 hnd
  obtain⟨e0,en⟩:=hh
  exact gW rfl (eN en) (by simp only [e0] <;> rfl) rfl rfl
 ·cases h)
def akr(pl:List (Int×Int))(day:Int)(b:Nat):Bool:=leI (IntKind.i64.wrap ((pl[b]?.getD ((0:Int),(0:Int))).2 + (pl[b]?.getD ((0:Int),(0:Int))).1)) day
def aks(pl:List (Int×Int))(day:Int):List Int:=((List.range pl.length).filter (akr pl day)).map fun b:Nat=>(b:Int)
def acM(pl ls:List (Int×Int))(day:Int):Bool:=okPl pl&&(okLk ls&&(inR day 0 100000&&((aks pl day).length==0&&ls.length==0)))
theorem WN(P:Nat→Bool): ∀ (r:List Nat) (a:List Int),r.foldl (fun a b=>bif P b then a++ [(b:Int)]else a) a=a++(r.filter P).map fun b:Nat=>(b:Int)
 | [],a=>by simp
 |b::r,a=>by
  rw [List.foldl_cons,WN P r]
  cases h:P b <;> simp [List.filter_cons,h]
theorem ae0{pl:List (Int×Int)}(h:okPl pl=true):pl.length≤12:=by
 simp only [okPl,Bool.and_eq_true,eP]at h;exact h.1
def qd(y1:Int)(y2:List (Int×Int))(b:Nat):(List Int)→Nat ⊕ (List Int)
 |y3=>(bif(leI (IntKind.wrap .i64 ((Option.getD y2[b]? ((0:Int),(0:Int))).2 + (Option.getD y2[b]? ((0:Int),(0:Int))).1)) y1)then(.inr (y3++ [(↑b:Int)]))else(.inr y3))
def oV(y1:Int)(y2:List (Int×Int))(i:Nat):(List Int)→kX
 |y3=>((i:Int),y1,y2,y3)
def JZ:kX→List Int
 |(_,_,_,y3)=>y3
theorem adp(y1:Int)(y2:List (Int×Int))(y3:List Int)(hn:y2.length≤9223372036854775807)(h12:y2.length≤12)(h3:y3= []):
  gd.fin ((0:Int),y1,y2,y3)=true∧gd.res ((0:Int),y1,y2,y3)=((aq (qd y1 y2) 0 (List.range y2.length) 0 y3).1,(oV y1 y2) (aq (qd y1 y2) 0 (List.range y2.length) 0 y3).2.1 (aq (qd y1 y2) 0 (List.range y2.length) 0 y3).2.2):=by
 have key:=gd.along (oV y1 y2) JZ (qd y1 y2) 0 (fun i a=>a.length≤i) (List.range y2.length) y3 (by subst h3;simp) (by simp only [gd,oV,List.length_range];omega) (fun i b a hb hI=> ?_) (fun a hI=> ?_)
 ·exact key
 ·obtain y3:=a
  obtain⟨rfl,hlt⟩:=gV hb
  have hw:IntKind.i64.wrap ((b:Int) + 1)=((b + 1:Nat):Int):=by rw [bp (by omega) (by omega)];omega
  have hdec:ltI (b:Int) (y2.length:Int)=true:=db (by omega)
  have hnn:leI (0:Int) (b:Int)=true:=bZ (by omega)
  have hltd:ltN b y2.length=true:=dK (by omega)
  refine⟨?_,?_,?_,?_⟩
  ·have h6:leN (a.length + 1) 9223372036854775807=true:=hY (by omega)
   have h7:leN ((a.length + 1) * 8) 140737488355328=true:=hY (by omega)
   simp [vf,rB,te,wR,wS,Cl,Cm,Cn,wT,Co,zO,gd,LT.nds,allT,oV,hdec,hnn,hltd,h6,h7]
  ·simp [vf,rB,te,wR,wS,Cl,Cm,Cn,wT,Co,zO,gd,LT.each,oV,JZ,hw]
  ·simp only [vf,rB,te,wR,wS,Cl,Cm,Cn,wT,Co,zO,gd,LT.fn,oV,JZ,qd,Int.toNat_natCast,hdec,hnn,hltd,cond_true,Bool.cond_self]
  ·intro a' hf
   simp only [qd]at hf
   revert hf
   cases leI (IntKind.wrap .i64 ((Option.getD y2[b]? ((0:Int),(0:Int))).2 + (Option.getD y2[b]? ((0:Int),(0:Int))).1)) y1 <;> intro hf <;> (simp only [cond_true,cond_false,Sum.inr.injEq]at hf;subst hf;(try simp only [List.length_append,List.length_singleton]);omega)
 ·obtain y3:=a
  simp [vf,rB,te,wR,wS,Cl,Cm,Cn,wT,Co,zO,gd,LT.out,oV,List.length_range]
def mP(y2:Int)(y3:List (Int×Int))(b:Nat):(List Int)→Nat ⊕ (List Int)
 |y4=>(bif(leI (gO ((Option.getD y3[b]? ((0:Int),(0:Int))).1) ((Option.getD y3[b]? ((0:Int),(0:Int))).2)) y2)then(.inr (y4++ [(↑b:Int)]))else(.inr y4))
def lz(y2:Int)(y3:List (Int×Int))(i:Nat):(List Int)→iX
 |y4=>((i:Int),(↑y3.length:Int),y2,y3,y4)
def GL:iX→List Int
 |(_,_,_,_,y4)=>y4
theorem aaJ(y2:Int)(y3:List (Int×Int))(y4:List Int)(hn:y3.length≤9223372036854775807)(h12:y3.length≤12)(h3:y4= []):
  ey.fin ((0:Int),(↑y3.length:Int),y2,y3,y4)=true∧ey.res ((0:Int),(↑y3.length:Int),y2,y3,y4)=((aq (mP y2 y3) 0 (List.range y3.length) 0 y4).1,(lz y2 y3) (aq (mP y2 y3) 0 (List.range y3.length) 0 y4).2.1 (aq (mP y2 y3) 0 (List.range y3.length) 0 y4).2.2):=by
 have key:=ey.along (lz y2 y3) GL (mP y2 y3) 0 (fun i a=>a.length≤i) (List.range y3.length) y4 (by subst h3;simp) (by simp only [ey,lz,List.length_range];omega) (fun i b a hb hI=> ?_) (fun a hI=> ?_)
 ·exact key
 ·obtain y4:=a
  obtain⟨rfl,hlt⟩:=gV hb
  have hw:IntKind.i64.wrap ((b:Int) + 1)=((b + 1:Nat):Int):=by rw [bp (by omega) (by omega)];omega
  have hdec:ltI (b:Int) (y3.length:Int)=true:=db (by omega)
  have hnn:leI (0:Int) (b:Int)=true:=bZ (by omega)
  have hltd:ltN b y3.length=true:=dK (by omega)
  refine⟨?_,?_,?_,?_⟩
  ·have h6:leN (a.length + 1) 9223372036854775807=true:=hY (by omega)
   have h7:leN ((a.length + 1) * 8) 140737488355328=true:=hY (by omega)
   simp [rG,oy,xc,xf,xg,xh,xj,xk,xl,sN,xm,vS,ey,LT.nds,allT,lz,hdec,hnn,hltd,h6,h7]
  ·simp [rG,oy,xc,xf,xg,xh,xj,xk,xl,sN,xm,vS,ey,LT.each,lz,GL,hw]
  ·simp only [rG,oy,xc,xf,xg,xh,xj,xk,xl,sN,xm,vS,ey,LT.fn,lz,GL,mP,Int.toNat_natCast,hdec,hnn,hltd,cond_true,Bool.cond_self]
  ·intro a' hf
   simp only [mP,gO]at hf
   revert hf
   cases leI (IntKind.wrap .i64 ((Option.getD y3[b]? ((0:Int),(0:Int))).2 + (Option.getD y3[b]? ((0:Int),(0:Int))).1)) y2 <;> intro hf <;> (simp only [cond_true,cond_false,Sum.inr.injEq]at hf;subst hf;(try simp only [List.length_append,List.length_singleton]);omega)
 ·obtain y4:=a
  simp [rG,oy,xc,xf,xg,xh,xj,xk,xl,sN,xm,vS,ey,LT.out,lz,List.length_range]
theorem ai8(day:Int)(pl:List (Int×Int))(h:pl.length≤12):Mj day pl=aks pl day∧Mk day pl=true:=by
 obtain⟨w1,w2⟩:=adp day pl [] (by omega) h rfl
 rw [iW (f:=qd day pl) (g:=fun a b=>bif akr pl day b then a++ [(b:Int)]else a) (fun b a=>by simp only [qd,akr];cases leI _ day <;> rfl),WN]at w2
 exact⟨by simp only [Mj,KA,w2,oV,List.nil_append,aks],by simp only [Mk,KA,w1,allT,cond_true]⟩
theorem aiK(day:Int)(pl:List (Int×Int))(h:pl.length≤12):HA day pl=aks pl day∧HB day pl=true:=by
 obtain⟨w1,w2⟩:=aaJ day pl [] (by omega) h rfl
 rw [iW (f:=mP day pl) (g:=fun a b=>bif akr pl day b then a++ [(b:Int)]else a) (fun b a=>by simp only [mP,gO,akr];cases leI _ day <;> rfl),WN]at w2
 exact⟨by simp only [HA,Gm,w2,lz,List.nil_append,aks],by simp only [HB,Gm,w1,allT,cond_true]⟩
theorem amp(n:Nat):((n:Int)==0)=(n==0):=by cases n <;> rfl
theorem aja(day:Int)(pl ls:List (Int×Int))(h:(leN pl.length 9223372036854775807&&leN ls.length 9223372036854775807)=true):Kr day pl ls=acM pl ls day∧Ks day pl ls=true:=by
 simp only [Bool.and_eq_true]at h
 simp only [Kr,Ks,IA,DJ,PE,PG,aJ,rY,h.1,h.2,amp,acM,allT]
 cases hp:okPl pl with
 |false=>simp
 |true=>
  obtain⟨e1,e2⟩:=ai8 day pl (ae0 hp)
  rw [e1,e2]
  cases hi:inR day 0 100000 <;> cases okLk ls <;> cases ls.length==0 <;> simp
theorem aiN(day:Int)(pl ls:List (Int×Int))(h:(leN pl.length 9223372036854775807&&leN ls.length 9223372036854775807)=true):Jp day pl ls=acM pl ls day∧Jq day pl ls=true:=by
 simp only [Bool.and_eq_true]at h
 have e:tB day=inR day 0 100000:=by simp only [tB,aZ,rY]
 simp only [Jp,Jq,HZ,e,h.1,h.2,amp,acM,allT]
 cases hp:okPl pl with
 |false=>simp
 |true=>
  obtain⟨e1,e2⟩:=aiK day pl (ae0 hp)
  rw [e1,e2]
  cases hi:inR day 0 100000 <;> cases okLk ls <;> cases ls.length==0 <;> simp
def Qw:List SV→List Entry→Option Out
 | [.one ⟨false,[.ref 0]⟩,.one ⟨false,[.ref 1]⟩,.one ⟨false,[.val (.int .i64 x0)]⟩],[.row false 173 (.pair (.int .i64) (.int .i64)) x1,.row false 176 (.pair (.int .i64) (.int .i64)) x2]=>some ⟨(.one ⟨false,[(.val (.bool (acM x1 x2 x0)))]⟩),[(.row false 173 amT x1),(.row false 176 amT x2)],[],[leN x1.length 9223372036854775807&&leN x2.length 9223372036854775807]⟩
 |_,_=>none
def JN:PF Tryz.prog:=PF.alt abX Qw (by
 intro args es o h hnd;unfold Qw at h;split at h
 ·rename_i x0 x1 x2
  cases h
  have hnd:=eD hnd
  have hh:=aja x0 x1 x2 hnd
  obtain⟨e0,en⟩:=hh
  exact gW rfl (eN en) (by simp only [e0] <;> rfl) rfl rfl
 ·cases h)
def Qv:List SV→List Entry→Option Out
 | [.one ⟨false,[.ref 0]⟩,.one ⟨false,[.ref 1]⟩,.one ⟨false,[.val (.int .i64 x0)]⟩],[.row false 173 (.pair (.int .i64) (.int .i64)) x1,.row false 176 (.pair (.int .i64) (.int .i64)) x2]=>some ⟨(.one ⟨false,[(.val (.bool (acM x1 x2 x0)))]⟩),[(.row false 173 amT x1),(.row false 176 amT x2)],[],[leN x1.length 9223372036854775807&&leN x2.length 9223372036854775807]⟩
 |_,_=>none
def JM:PF Tryz.prog:=PF.alt abW Qv (by
 intro args es o h hnd;unfold Qv at h;split at h
 ·rename_i x0 x1 x2
  cases h
  have hnd:=eD hnd
  have hh:=aiN x0 x1 x2 hnd
  obtain⟨e0,en⟩:=hh
  exact gW rfl (eN en) (by simp only [e0] <;> rfl) rfl rfl
 ·cases h)
end Go.SX

namespace Go.SX
open Go.Proofs
set_option maxRecDepth 100000
theorem ajw{n:Int}{fs:List (Int×Int×Int)}(h:lfOk n fs=true):fs.length≤8∧ ∀ f∈fs,(0≤f.1∧f.1 < n)∧(f.2.1=0∨f.2.1=1)∧(f.2.2=0∨f.2.2=1):=by
 simp only [lfOk,okFs,Bool.and_eq_true,eP,List.all_eq_true,List.mem_range,pF]at h
 refine⟨h.2.1,fun f hf=> ?_⟩
 obtain⟨b,hb,rfl⟩:=List.getElem_of_mem hf
 have h3:=h.2.2 b hb
 simp only [Bool.not_eq_true',Bool.or_eq_false_iff,aaq,fAt,List.getElem?_eq_getElem hb,Option.getD_some,Bool.not_eq_false']at h3
 have h4:=h3.1
 simp only [fIn,Bool.and_eq_true,pF]at h4
 rw [bp (by omega) (by omega)]at h4
 omega
def lkB(st:List Int):List Int:=st.map fun v=>bif v==2 then 1 else 0
def lkC(st:List Int)(lf:List (Int×Int×Int))(ch:Int):List Int:=lf.foldl (aaG ch) (lkB st)
def Rt(st:List Int)(lf:List (Int×Int×Int)):Bool:= !(lkC st lf 0).any (· ==0)&& !(lkC st lf 1).any (· ==0)
def ab1(st:List Int)(lf:List (Int×Int×Int)):Bool:=areR st&&lfOk (st.length:Int) lf
theorem OJ(st:List Int):(lkB st).length=st.length:=by simp [lkB]
theorem LB(st:List Int)(lf:List (Int×Int×Int))(ch:Int):(lkC st lf ch).length=st.length:=by rw [lkC,Lf,OJ]
theorem aj6{ch:Int}{l:List Int}{f:Int×Int×Int}(h: ∀ v∈l,v=0∨v=1)(hf:f.2.2=0∨f.2.2=1): ∀ v∈aaG ch l f,v=0∨v=1:=by
 intro v hv
 simp only [aaG]at hv
 cases hc:f.2.1==ch with
 |false=>rw [hc]at hv;exact h v hv
 |true=>
  rw [hc]at hv
  rcases List.mem_or_eq_of_mem_set hv with hv | rfl
  ·exact h v hv
  ·exact hf
theorem af9{ch:Int}: ∀ (lf:List (Int×Int×Int)) (l:List Int),(∀ v∈l,v=0∨v=1)→(∀ f∈lf,f.2.2=0∨f.2.2=1)→ ∀ v∈lf.foldl (aaG ch) l,v=0∨v=1
 | [],l,h,_=>h
 |f::r,l,h,hf=>by
  rw [List.foldl_cons]
  exact af9 r _ (aj6 h (hf f (by simp))) fun g hg=>hf g (by simp [hg])
theorem ahQ{st:List Int}{lf:List (Int×Int×Int)}{ch:Int}(h:ab1 st lf=true): ∀ v∈lkC st lf ch,v=0∨v=1:=by
 simp only [ab1,Bool.and_eq_true]at h
 refine af9 lf _ (fun v hv=> ?_) fun f hf=>((ajw h.2).2 f hf).2.2
 obtain⟨x,_,rfl⟩:=List.mem_map.1 hv
 cases x==2 <;> simp
def mU(b:Int):(List Int)→Nat ⊕ (List Int)
 |y2=>(.inr (y2++([IntKind.wrap .i64 (Int.tdiv b (2:Int))])))
def jv(y1:List Int)(i:Nat):(List Int)→gM
 |y2=>((i:Int),y1,y2)
def EJ:gM→List Int
 |(_,_,y2)=>y2
theorem Xx(y1 y2:List Int)(hn:y1.length≤9223372036854775807)(hR:areR y1=true)(h0:y2= []):
  bR.fin ((0:Int),y1,y2)=true∧bR.res ((0:Int),y1,y2)=((aq (mU) 0 y1 0 y2).1,(jv y1) (aq (mU) 0 y1 0 y2).2.1 (aq (mU) 0 y1 0 y2).2.2):=by
 have key:=bR.along (jv y1) EJ (mU) 0 (fun i a=>a.length≤i) y1 y2 (by subst h0;simp) (by simp only [bR,jv];omega) (fun i b a hb hI=> ?_) (fun a hI=> ?_)
 ·exact key
 ·obtain y2:=a
  have hlt:=(List.getElem?_eq_some_iff.1 hb).1
  have hget: ∀ d,Option.getD y1[i]? d=b:=fun d=>by rw [hb];rfl
  have hw:=qG hlt hn
  have hdec:ltI (i:Int) (y1.length:Int)=true:=db (by omega)
  have hnn:leI (0:Int) (i:Int)=true:=bZ (by omega)
  have hltd:ltN i y1.length=true:=dK hlt
  refine⟨?_,?_,?_,?_⟩
  ·have h12:=(BA.1 hR).1
   have h6:leN (a.length + 1) 9223372036854775807=true:=hY (by omega)
   have h7:leN ((a.length + 1) * 8) 140737488355328=true:=hY (by omega)
   have h8:neI 2 0=true:=rfl
   simp [lY,qt,uE,uF,uG,uH,uI,uJ,uK,sF,bR,LT.nds,allT,jv,hdec,hnn,hltd,h6,h7,h8]
  ·simp [lY,qt,uE,uF,uG,uH,uI,uJ,uK,sF,bR,LT.each,jv,EJ,hw]
  ·simp only [lY,qt,uE,uF,uG,uH,uI,uJ,uK,sF,bR,LT.fn,jv,EJ,mU,Int.toNat_natCast,hdec,hnn,hltd,hget,cond_true,Bool.cond_self]
  ·intro a' hf;simp only [mU,Sum.inr.injEq]at hf;subst hf;simp;omega
 ·obtain y2:=a
  simp [lY,qt,uE,uF,uG,uH,uI,uJ,uK,sF,bR,LT.out,jv]
def mV(y1:Int)(b:Int×(Int×Int)):(List Int)→Nat ⊕ (List Int)
 |y3=>(.inr (bif(b.2.1==y1)then List.set y3 (Int.toNat b.1) b.2.2else y3))
def jw(y1:Int)(y2:List (Int×(Int×Int)))(i:Nat):(List Int)→gN
 |y3=>((i:Int),y1,y2,y3)
def EK:gN→List Int
 |(_,_,_,y3)=>y3
theorem Xy(y1:Int)(y2:List (Int×(Int×Int)))(y3:List Int)(hn:y2.length≤9223372036854775807)(n:Nat)(h3:y3.length=n)(hf: ∀ f∈y2,0≤f.1∧f.1 < (n:Int)):
  cu.fin ((0:Int),y1,y2,y3)=true∧cu.res ((0:Int),y1,y2,y3)=((aq (mV y1) 0 y2 0 y3).1,(jw y1 y2) (aq (mV y1) 0 y2 0 y3).2.1 (aq (mV y1) 0 y2 0 y3).2.2):=by
 have key:=cu.along (jw y1 y2) EK (mV y1) 0 (fun _ a=>a.length=n) y2 y3 h3 (by simp only [cu,jw];omega) (fun i b a hb hI=> ?_) (fun a hI=> ?_)
 ·exact key
 ·obtain y3:=a
  have hlt:=(List.getElem?_eq_some_iff.1 hb).1
  have hget: ∀ d,Option.getD y2[i]? d=b:=fun d=>by rw [hb];rfl
  have hw:=qG hlt hn
  have hdec:ltI (i:Int) (y2.length:Int)=true:=db (by omega)
  have hnn:leI (0:Int) (i:Int)=true:=bZ (by omega)
  have hltd:ltN i y2.length=true:=dK hlt
  refine⟨?_,?_,?_,?_⟩
  ·have h5:=hf b (List.mem_of_getElem? hb)
   have h6:leI 0 b.1=true:=bZ h5.1
   have h7:ltI b.1 (a.length:Int)=true:=db (by omega)
   have h8:ltN b.1.toNat a.length=true:=dK (by omega)
   simp only [gq,fl,qu,uL,uM,qv,qw,qx,uN,uO,uP,uQ,sK,sG,cu,LT.nds,allT,jw,Int.toNat_natCast,hdec,hnn,hltd,hget,h6,h7,h8,Bool.or_true,cond_true]
  ·simp [gq,fl,qu,uL,uM,qv,qw,qx,uN,uO,uP,uQ,sK,sG,cu,LT.each,jw,EK,hw]
  ·simp only [gq,fl,qu,uL,uM,qv,qw,qx,uN,uO,uP,uQ,sK,sG,cu,LT.fn,jw,EK,mV,Int.toNat_natCast,hdec,hnn,hltd,hget,cond_true,Bool.cond_self]
  ·intro a' hf;simp only [mV,Sum.inr.injEq]at hf;subst hf;cases b.2.1==y1 <;> simpa using hI
 ·obtain y3:=a
  simp [gq,fl,qu,uL,uM,qv,qw,qx,uN,uO,uP,uQ,sK,sG,cu,LT.out,jw]
theorem amx{v:Int}(h:0≤v∧v≤2):IntKind.i64.wrap (Int.tdiv v 2)=bif v==2 then 1 else 0:=by
 have h:v=0∨v=1∨v=2:=by omega
 rcases h with rfl | rfl | rfl <;> rfl
theorem abE{B C:Type}{g g':B→C}: ∀ (r:List B) (a:List C),(∀ b∈r,g b=g' b)→r.foldl (fun a b=>a++ [g b]) a=a++r.map g'
 | [],a,_=>by simp
 |b::r,a,h=>by rw [List.foldl_cons,abE r _ fun c hc=>h c (by simp [hc]),h b (by simp)];simp
theorem aca(ch:Int)(st:List Int)(lf:List (Int×Int×Int))(h:ab1 st lf=true):z7 ch st lf=lkC st lf ch∧z8 ch st lf=true:=by
 simp only [ab1,Bool.and_eq_true]at h
 have h12:=(BA.1 h.1).1
 obtain⟨hl,hf⟩:=ajw h.2
 obtain⟨w1,w2⟩:=Xx st [] (by omega) h.1 rfl
 rw [iW (f:=mU) (g:=fun a b=>a++ [IntKind.i64.wrap (Int.tdiv b 2)]) (fun b a=>rfl),abE (g':=fun v=>bif v==2 then 1 else 0) _ _ (fun b hb=>amx ((BA.1 h.1).2 b hb))]at w2
 have e1:(Lp.res bR (yB st)).2.2.2=lkB st:=by
  simp only [yB,w2,jv,List.nil_append];rfl
 obtain⟨v1,v2⟩:=Xy ch lf (lkB st) (by omega) st.length (OJ st) (fun f hm=>(hf f hm).1)
 rw [iW (f:=mV ch) (g:=aaG ch) (fun b a=>rfl)]at v2
 refine⟨?_,?_⟩
 ·simp only [z7,yC,e1,v2,jw];rfl
 ·have v3:Lp.fin cu (yC ch st lf)=true:=by rw [yC,e1];exact v1
  have w3:Lp.fin bR (yB st)=true:=w1
  simp only [z8,v3,w3,allT,cond_true]
def ww(b:Int):(Int)→Nat ⊕ (Int)
 |y1=>(.inr (IntKind.wrap .i64 (y1 + b)))
def oU(y2:List Int)(i:Nat):(Int)→kW
 |y1=>((i:Int),y1,y2)
def JY:kW→Int
 |(_,y1,_)=>y1
theorem ado(y2:List Int)(y1:Int)(hn:y2.length≤9223372036854775807):
  gc.fin ((0:Int),y1,y2)=true∧gc.res ((0:Int),y1,y2)=((aq (ww) 0 y2 0 y1).1,(oU y2) (aq (ww) 0 y2 0 y1).2.1 (aq (ww) 0 y2 0 y1).2.2):=by
 have key:=gc.along (oU y2) JY (ww) 0 (fun _ _=>True) y2 y1 (by trivial) (by simp only [gc,oU];omega) (fun i b a hb hI=> ?_) (fun a hI=> ?_)
 ·exact key
 ·obtain y1:=a
  have hlt:=(List.getElem?_eq_some_iff.1 hb).1
  have hget: ∀ d,Option.getD y2[i]? d=b:=fun d=>by rw [hb];rfl
  have hw:=qG hlt hn
  have hdec:ltI (i:Int) (y2.length:Int)=true:=db (by omega)
  have hnn:leI (0:Int) (i:Int)=true:=bZ (by omega)
  have hltd:ltN i y2.length=true:=dK hlt
  refine⟨?_,?_,?_,?_⟩
  ·simp [wJ,Cg,Ch,Ci,Cj,zN,gc,LT.nds,allT,oU,hdec,hnn,hltd,hget]
  ·simp [wJ,Cg,Ch,Ci,Cj,zN,gc,LT.each,oU,JY,hw]
  ·simp only [wJ,Cg,Ch,Ci,Cj,zN,gc,LT.fn,oU,JY,ww,Int.toNat_natCast,hdec,hnn,hltd,hget,cond_true,Bool.cond_self]
  ·exact fun _ _=>trivial
 ·obtain y1:=a
  simp [wJ,Cg,Ch,Ci,Cj,zN,gc,LT.out,oU]
def aif(l:List Int):Int:=l.foldl (fun a b=>IntKind.i64.wrap (a + b)) 0
theorem afp(l:List Int)(h:l.length≤9223372036854775807):Hw l=aif l∧Hx l=true:=by
 obtain⟨w1,w2⟩:=ado l 0 h
 rw [iW (f:=ww) (g:=fun a b=>IntKind.i64.wrap (a + b)) (fun b a=>rfl)]at w2
 exact⟨by simp only [Hw,Kt,w2,oU,aif],by simp only [Hx,Kt,w1,allT,cond_true]⟩
theorem afq: ∀ (l:List Int) (a:Int),(∀ v∈l,v=0∨v=1)→0≤a→a + l.length≤1000000→
  ∃ s:Int,l.foldl (fun a b=>IntKind.i64.wrap (a + b)) a=a + s∧(0≤s∧s≤l.length)∧((s=l.length)↔l.any (· ==0)=false)
 | [],a,_,_,_=>⟨0,by simp,by simp,by simp⟩
 |v::r,a,h,h0,h1=>by
  have hv:=h v (by simp)
  simp only [List.length_cons]at h1
  have hw:IntKind.i64.wrap (a + v)=a + v:=bp (by omega) (by omega)
  obtain⟨s,e1,e2,e3⟩:=afq r (a + v) (fun x hx=>h x (by simp [hx])) (by omega) (by omega)
  refine⟨v + s,by rw [List.foldl_cons,hw,e1];omega,by simp only [List.length_cons];omega,?_⟩
  simp only [List.length_cons,List.any_cons,Bool.or_eq_false_iff,← e3]
  rcases hv with rfl | rfl
  ·simp;omega
  ·simp;omega
theorem alH{a b:List Int}{n:Nat}(ha: ∀ v∈a,v=0∨v=1)(hb: ∀ v∈b,v=0∨v=1)(la:a.length=n)(lb:b.length=n)(hn:n≤12):
  (IntKind.i64.wrap (aif a + aif b)==IntKind.i64.wrap (2 * (n:Int)))=(!a.any (· ==0)&& !b.any (· ==0)):=by
 obtain⟨s,e1,e2,e3⟩:=afq a 0 ha (by omega) (by omega)
 obtain⟨t,g1,g2,g3⟩:=afq b 0 hb (by omega) (by omega)
 have w1:IntKind.i64.wrap (aif a + aif b)=s + t:=by rw [aif,aif,e1,g1,bp (by omega) (by omega)];omega
 have w2:IntKind.i64.wrap (2 * (n:Int))=2 * (n:Int):=bp (by omega) (by omega)
 rw [w1,w2]
 cases ha2:a.any (· ==0) <;> cases hb2:b.any (· ==0) <;> simp only [ha2,hb2]at e3 g3 <;> simp <;> simp at e3 g3 <;> omega
theorem ahc(st:List Int)(lf:List (Int×Int×Int))(h:ab1 st lf=true):Pt st lf=Rt st lf∧Pu st lf=0∧Pv st lf=true:=by
 have h':=h
 simp only [ab1,Bool.and_eq_true]at h'
 have h12:=(BA.1 h'.1).1
 have hl:=(ajw h'.2).1
 obtain⟨a1,a2⟩:=aca 0 st lf h
 obtain⟨b1,b2⟩:=aca 1 st lf h
 have n1:leN st.length 9223372036854775807=true:=hY (by omega)
 have n2:leN lf.length 9223372036854775807=true:=hY (by omega)
 have q0:zW st lf=0:=by simp only [zW,h'.1,h'.2];rfl
 have q1:zX st lf=lkC st lf 0:=by simp only [zX,h'.1,h'.2,a1];rfl
 have q2:zY st lf=lkC st lf 1:=by simp only [zY,h'.1,h'.2,b1];rfl
 have q3:EZ st lf=true:=by simp only [EZ,h'.1,h'.2,a2,b2,n1,n2,allT,Bool.or_true,cond_true]
 obtain⟨s1,s2⟩:=afp (lkC st lf 0) (by rw [LB];omega)
 obtain⟨t1,t2⟩:=afp (lkC st lf 1) (by rw [LB];omega)
 have e:=alH (ahQ (ch:=0) h) (ahQ (ch:=1) h) (LB st lf 0) (LB st lf 1) h12.2
 refine⟨?_,?_,?_⟩
 ·simp only [Pt,zb,q0,q1,q2,s1,t1,e,Rt,bne_self_eq_false,cond_false]
 ·simp only [Pu,zb,q0,bne_self_eq_false,cond_false]
 ·simp only [Pv,q1,q2,q3,s2,t2,allT,Bool.or_true,cond_true]
def ik(y2 b:Int):(Unit)→Nat ⊕ (Unit)
 |_=>(bif(y2==b)then(.inl 0)else(.inr ()))
def dJ(y2:Int)(y3:List Int)(i:Nat):(Unit)→bX
 |_=>((i:Int),(↑y3.length:Int),y2,y3)
def s8:bX→Unit
 |(_,_,_,_)=>()
theorem MO(y2:Int)(y3:List Int) (hn:y3.length≤9223372036854775807):
  aL.fin ((0:Int),(↑y3.length:Int),y2,y3)=true∧aL.res ((0:Int),(↑y3.length:Int),y2,y3)=((aq (ik y2) 1 y3 0 ()).1,(dJ y2 y3) (aq (ik y2) 1 y3 0 ()).2.1 (aq (ik y2) 1 y3 0 ()).2.2):=by
 have key:=aL.along (dJ y2 y3) s8 (ik y2) 1 (fun _ _=>True) y3 () (by trivial) (by simp only [aL,dJ];omega) (fun i b a hb hI=> ?_) (fun a hI=> ?_)
 ·exact key
 ·obtain⟨⟩:=a
  have hlt:=(List.getElem?_eq_some_iff.1 hb).1
  have hget: ∀ d,Option.getD y3[i]? d=b:=fun d=>by rw [hb];rfl
  have hw:=qG hlt hn
  have hdec:ltI (i:Int) (y3.length:Int)=true:=db (by omega)
  have hnn:leI (0:Int) (i:Int)=true:=bZ (by omega)
  have hltd:ltN i y3.length=true:=dK hlt
  refine⟨?_,?_,?_,?_⟩
  ·simp [kk,km,kn,ko,kq,kr,jM,aL,LT.nds,allT,dJ,hdec,hnn,hltd,hget]
  ·simp [kk,km,kn,ko,kq,kr,jM,aL,LT.each,dJ,s8,hw]
  ·simp only [kk,km,kn,ko,kq,kr,jM,aL,LT.fn,dJ,s8,ik,Int.toNat_natCast,hdec,hnn,hltd,hget,cond_true,Bool.cond_self]
  ·exact fun _ _=>trivial
 ·obtain⟨⟩:=a
  simp [kk,km,kn,ko,kq,kr,jM,aL,LT.out,dJ]
def mQ(b:Int):(List Int)→Nat ⊕ (List Int)
 |y3=>(.inr (y3++([TN (b==(2:Int))])))
def jq(y2:List Int)(i:Nat):(List Int)→gI
 |y3=>((i:Int),(↑y2.length:Int),y2,y3)
def EF:gI→List Int
 |(_,_,_,y3)=>y3
theorem Xt(y2 y3:List Int)(hn:y2.length≤9223372036854775807)(hR:areR y2=true)(h0:y3= []):
  cn.fin ((0:Int),(↑y2.length:Int),y2,y3)=true∧cn.res ((0:Int),(↑y2.length:Int),y2,y3)=((aq (mQ) 0 y2 0 y3).1,(jq y2) (aq (mQ) 0 y2 0 y3).2.1 (aq (mQ) 0 y2 0 y3).2.2):=by
 have key:=cn.along (jq y2) EF (mQ) 0 (fun i a=>a.length≤i) y2 y3 (by subst h0;simp) (by simp only [cn,jq];omega) (fun i b a hb hI=> ?_) (fun a hI=> ?_)
 ·exact key
 ·obtain y3:=a
  have hlt:=(List.getElem?_eq_some_iff.1 hb).1
  have hget: ∀ d,Option.getD y2[i]? d=b:=fun d=>by rw [hb];rfl
  have hw:=qG hlt hn
  have hdec:ltI (i:Int) (y2.length:Int)=true:=db (by omega)
  have hnn:leI (0:Int) (i:Int)=true:=bZ (by omega)
  have hltd:ltN i y2.length=true:=dK hlt
  refine⟨?_,?_,?_,?_⟩
  ·have h12:=(BA.1 hR).1
   have h6:leN (a.length + 1) 9223372036854775807=true:=hY (by omega)
   have h7:leN ((a.length + 1) * 8) 140737488355328=true:=hY (by omega)
   simp [lF,tH,tI,tJ,tK,tL,tM,tN,tO,sB,cn,LT.nds,allT,jq,hdec,hnn,hltd,h6,h7]
  ·simp [lF,tH,tI,tJ,tK,tL,tM,tN,tO,sB,cn,LT.each,jq,EF,hw]
  ·simp only [lF,tH,tI,tJ,tK,tL,tM,tN,tO,sB,cn,LT.fn,jq,EF,mQ,Int.toNat_natCast,hdec,hnn,hltd,hget,cond_true,Bool.cond_self]
  ·intro a' hf;simp only [mQ,Sum.inr.injEq]at hf;subst hf;simp;omega
 ·obtain y3:=a
  simp [lF,tH,tI,tJ,tK,tL,tM,tN,tO,sB,cn,LT.out,jq]
def mR(b:Int×(Int×Int)):(List Int×List Int)→Nat ⊕ (List Int×List Int)
 |(y3,y4)=>(.inr ((bif(b.2.1==(0:Int))then List.set y3 (Int.toNat b.1) b.2.2else y3),(bif(b.2.1==(0:Int))then y4 else List.set y4 (Int.toNat b.1) b.2.2)))
def jr(y2:List (Int×(Int×Int)))(i:Nat):(List Int×List Int)→gJ
 |(y3,y4)=>((i:Int),(↑y2.length:Int),y2,y3,y4)
def EG:gJ→List Int×List Int
 |(_,_,_,y3,y4)=>(y3,y4)
theorem Xu(y2:List (Int×(Int×Int)))(y3 y4:List Int)(hn:y2.length≤9223372036854775807)(n:Nat)(h3:y3.length=n)(h4:y4.length=n)(hf: ∀ f∈y2,0≤f.1∧f.1 < (n:Int)):
  cq.fin ((0:Int),(↑y2.length:Int),y2,y3,y4)=true∧cq.res ((0:Int),(↑y2.length:Int),y2,y3,y4)=((aq (mR) 0 y2 0 (y3,y4)).1,(jr y2) (aq (mR) 0 y2 0 (y3,y4)).2.1 (aq (mR) 0 y2 0 (y3,y4)).2.2):=by
 have key:=cq.along (jr y2) EG (mR) 0 (fun _ a=>a.1.length=n∧a.2.length=n) y2 (y3,y4) ⟨h3,h4⟩ (by simp only [cq,jr];omega) (fun i b a hb hI=> ?_) (fun a hI=> ?_)
 ·exact key
 ·obtain⟨y3,y4⟩:=a
  have hlt:=(List.getElem?_eq_some_iff.1 hb).1
  have hget: ∀ d,Option.getD y2[i]? d=b:=fun d=>by rw [hb];rfl
  have hw:=qG hlt hn
  have hdec:ltI (i:Int) (y2.length:Int)=true:=db (by omega)
  have hnn:leI (0:Int) (i:Int)=true:=bZ (by omega)
  have hltd:ltN i y2.length=true:=dK hlt
  refine⟨?_,?_,?_,?_⟩
  ·have h5:=hf b (List.mem_of_getElem? hb)
   have hI1:=hI.1
   have hI2:=hI.2
   have h6:leI 0 b.1=true:=bZ h5.1
   have h7:ltI b.1 (n:Int)=true:=db (by omega)
   have h8:ltN b.1.toNat n=true:=dK (by omega)
   simp only at hI1 hI2
   simp [cm,dL,oZ,tP,tQ,tS,tT,tU,tV,tW,tX,tY,tZ,sf,sg,si,sC,cq,LT.nds,allT,jr,hdec,hnn,hltd,hget,h6,h7,h8,hI1,hI2]
  ·simp [cm,dL,oZ,tP,tQ,tS,tT,tU,tV,tW,tX,tY,tZ,sf,sg,si,sC,cq,LT.each,jr,EG,hw]
  ·simp only [cm,dL,oZ,tP,tQ,tS,tT,tU,tV,tW,tX,tY,tZ,sf,sg,si,sC,cq,LT.fn,jr,EG,mR,Int.toNat_natCast,hdec,hnn,hltd,hget,cond_true,Bool.cond_self]
  ·intro a' hf;simp only [mR,Sum.inr.injEq]at hf;subst hf;have hI1:=hI.1;have hI2:=hI.2;cases b.2.1==0 <;> simpa using ⟨hI1,hI2⟩
 ·obtain⟨y3,y4⟩:=a
  simp [cm,dL,oZ,tP,tQ,tS,tT,tU,tV,tW,tX,tY,tZ,sf,sg,si,sC,cq,LT.out,jr]
theorem alf(x v:Int):(x==v)=(v==x):=by rw [Bool.eq_iff_iff,beq_iff_eq,beq_iff_eq];exact eq_comm
theorem TH(x:Int)(l:List Int)(h:l.length≤9223372036854775807):cX x l=l.any (· ==x)∧im x l=true:=by
 obtain⟨w1,w2⟩:=MO x l h
 rw [iq (P:=fun v=>v==x) (j:=0) (fun v=>by simp only [ik];rw [alf x v])]at w2
 simp only [cX,im,yo,yp,qA,w1,w2,allT,dJ]
 cases l.any (· ==x)with
 |false=>exact⟨rfl,rfl⟩
 |true=>
  simp only [cond_true,Nat.beq]
  exact⟨bZ (by omega),trivial⟩
theorem agU(st:List Int)(lf:List (Int×Int×Int))(h:ab1 st lf=true):OG st lf=Rt st lf∧OH st lf=true:=by
 have h':=h
 simp only [ab1,Bool.and_eq_true]at h'
 have h12:=(BA.1 h'.1).1
 obtain⟨hl,hf⟩:=ajw h'.2
 obtain⟨w1,w2⟩:=Xt st [] (by omega) h'.1 rfl
 rw [iW (f:=mQ) (g:=fun a b=>a++ [bif b==2 then 1 else 0]) (fun b a=>rfl),NU]at w2
 have e1:sO st=lkB st:=by
  simp only [sO,Do,w2,jq,List.nil_append];rfl
 obtain⟨v1,v2⟩:=Xu lf (lkB st) (lkB st) (by omega) st.length (OJ st) (OJ st) (fun f hm=>(hf f hm).1)
 rw [iW (f:=mR) (g:=fun a f=>(bif f.2.1==0 then a.1.set f.1.toNat f.2.2 else a.1,bif f.2.1==0 then a.2 else a.2.set f.1.toNat f.2.2)) (fun b a=>rfl),acD _ _ (fun f hm=>(hf f hm).2.1)]at v2
 have e3:Dp st lf=(lkC st lf 0,lkC st lf 1):=by
  simp only [Dp,xo,e1,v2,jr];rfl
 have e4:Lp.fin cq (xo st lf)=true:=by simp only [xo,e1];exact v1
 have e5:Lp.fin cn (Do st)=true:=w1
 have q0:u0 st lf=lkC st lf 0:=by rw [u0,e3]
 have q1:zg st lf=lkC st lf 1:=by rw [zg,e3]
 have n1:leN 1 st.length=true:=hY (by omega)
 have n2:leN st.length 1048576=true:=hY (by omega)
 have q2:ET st lf=true:=by simp only [ET,e4,e5,e1,OJ,n1,n2,allT,Bool.and_self,cond_true]
 obtain⟨s1,s2⟩:=TH 0 (lkC st lf 0) (by rw [LB];omega)
 obtain⟨t1,t2⟩:=TH 0 (lkC st lf 1) (by rw [LB];omega)
 refine⟨?_,?_⟩
 ·simp only [OG,q0,q1,s1,t1,Rt]
  cases (lkC st lf 0).any (· ==0) <;> rfl
 ·simp only [OH,q0,q1,q2,s2,t2,allT,Bool.or_true,cond_true]
def Wo:List SV→List Entry→Option Out
 | [.one ⟨false,[.ref 0]⟩,.one ⟨false,[.ref 1]⟩],[.row false 2 (.int .i64) x0,.row false 100 (.pair (.int .i64) (.pair (.int .i64) (.int .i64))) x1]=>some ⟨(.tup [⟨false,[(.val (.bool (Rt x0 x1)))]⟩,⟨false,[(.val (.int .i64 (0)))]⟩]),[(.row false 2 amU x0),(.row false 100 amS x1)],[],[ab1 x0 x1]⟩
 |_,_=>none
def OU:PF Tryz.prog:=PF.alt ae8 Wo (by
 intro args es o h hnd;unfold Wo at h;split at h
 ·rename_i x0 x1
  cases h
  have hnd:=eD hnd
  have hh:=ahc x0 x1 hnd
  obtain⟨e0,e1,en⟩:=hh
  exact gW rfl (eN en) (by simp only [e0,e1] <;> rfl) rfl rfl
 ·cases h)
def Wj:List SV→List Entry→Option Out
 | [.one ⟨false,[.ref 0]⟩,.one ⟨false,[.ref 1]⟩],[.row false 2 (.int .i64) x0,.row false 100 (.pair (.int .i64) (.pair (.int .i64) (.int .i64))) x1]=>some ⟨(.one ⟨false,[(.val (.bool (Rt x0 x1)))]⟩),[(.row false 2 amU x0),(.row false 100 amS x1)],[],[ab1 x0 x1]⟩
 |_,_=>none
def OP:PF Tryz.prog:=PF.alt ae3 Wj (by
 intro args es o h hnd;unfold Wj at h;split at h
 ·rename_i x0 x1
  cases h
  have hnd:=eD hnd
  have hh:=agU x0 x1 hnd
  obtain⟨e0,en⟩:=hh
  exact gW rfl (eN en) (by simp only [e0] <;> rfl) rfl rfl
 ·cases h)
end Go.SX

namespace Go.SX
open Go.Proofs
set_option maxRecDepth 100000
def rsB(n k row:Int):Bool:=bif k==0||k==1 then inR row 0 (IntKind.i64.wrap (n - 1))else bif k==2||k==3 then row==0 else false
def jp(st:List Int)(k row:Int):Bool:=bif k==0||k==1 then(st[row.toNat]?.getD 0)==k else bif k==2 then !st.any (· ==0)else JI st
def KG(st:List Int)(k row:Int):List Int:=bif k==0||k==1 then st.set row.toNat (1 - k)else st.map fun _=>bif k==2 then 2 else 1
def ab5(st:List Int)(k row:Int):Bool:=areR st&&rsB (st.length:Int) k row
theorem ajC(a b:Bool):(bif a then a else b)=(a||b):=by cases a <;> rfl
theorem akb(n k row:Int):PA n k row=rsB n k row:=by
 simp only [PA,aJ,rY,rsB,ajC]
theorem ajT(n k row:Int):Dn n k row=rsB n k row:=by
 simp only [Dn,aZ,rY,rsB,ajC]
theorem afj{st:List Int}{k row:Int}(h:ab5 st k row=true):areR st=true∧(1≤st.length∧st.length≤12)∧(((k=0∨k=1)∧0≤row∧row < st.length)∨((k=2∨k=3)∧row=0)):=by
 simp only [ab5,Bool.and_eq_true]at h
 have h12:=(BA.1 h.1).1
 refine⟨h.1,h12,?_⟩
 have h2:=h.2
 rw [rsB,bp (by omega) (by omega)]at h2
 cases h3:(k==0||k==1)with
 |true=>
  rw [h3,cond_true,pF]at h2
  simp only [Bool.or_eq_true,beq_iff_eq]at h3
  exact .inl ⟨h3,by omega⟩
 |false=>
  rw [h3,cond_false]at h2
  cases h4:(k==2||k==3)with
  |true=>
   rw [h4,cond_true,beq_iff_eq]at h2
   simp only [Bool.or_eq_true,beq_iff_eq]at h4
   exact .inr ⟨h4,h2⟩
  |false=>rw [h4]at h2;cases h2
def qR(y1 _b:Int):(List Int)→Nat ⊕ (List Int)
 |y3=>(.inr (y3++ [y1]))
def nz(y1:Int)(y2:List Int)(i:Nat):(List Int)→jX
 |y3=>((i:Int),y1,y2,y3)
def Ik:jX→List Int
 |(_,_,_,y3)=>y3
theorem acj(y1:Int)(y2 y3:List Int)(hn:y2.length≤9223372036854775807)(h12:y2.length≤12)(h0:y3= []):
  fB.fin ((0:Int),y1,y2,y3)=true∧fB.res ((0:Int),y1,y2,y3)=((aq (qR y1) 0 y2 0 y3).1,(nz y1 y2) (aq (qR y1) 0 y2 0 y3).2.1 (aq (qR y1) 0 y2 0 y3).2.2):=by
 have key:=fB.along (nz y1 y2) Ik (qR y1) 0 (fun i a=>a.length≤i) y2 y3 (by subst h0;simp) (by simp only [fB,nz];omega) (fun i b a hb hI=> ?_) (fun a hI=> ?_)
 ·exact key
 ·obtain y3:=a
  have hlt:=(List.getElem?_eq_some_iff.1 hb).1
  have hget: ∀ d,Option.getD y2[i]? d=b:=fun d=>by rw [hb];rfl
  have hw:=qG hlt hn
  have hdec:ltI (i:Int) (y2.length:Int)=true:=db (by omega)
  have hnn:leI (0:Int) (i:Int)=true:=bZ (by omega)
  have hltd:ltN i y2.length=true:=dK hlt
  refine⟨?_,?_,?_,?_⟩
  ·have h6:leN (a.length + 1) 9223372036854775807=true:=hY (by omega)
   have h7:leN ((a.length + 1) * 8) 140737488355328=true:=hY (by omega)
   simp [Aa,Ab,Ac,Ad,Ae,ya,fB,LT.nds,allT,nz,hdec,hnn,hltd,h6,h7]
  ·simp [Aa,Ab,Ac,Ad,Ae,ya,fB,LT.each,nz,Ik,hw]
  ·simp only [Aa,Ab,Ac,Ad,Ae,ya,fB,LT.fn,nz,Ik,qR,Int.toNat_natCast,hdec,hnn,hltd,hget,cond_true,Bool.cond_self]
  ·intro a' hf;simp only [qR,Sum.inr.injEq]at hf;subst hf;simp;omega
 ·obtain y3:=a
  simp [Aa,Ab,Ac,Ad,Ae,ya,fB,LT.out,nz]
theorem adT(x:Int)(st:List Int)(h:st.length≤12):FU x st=st.map (fun _=>x)∧FV x st=true:=by
 obtain⟨w1,w2⟩:=acj x st [] (by omega) h rfl
 rw [iW (f:=qR x) (g:=fun a _=>a++ [x]) (fun b a=>rfl),NU (fun _=>x)]at w2
 exact⟨by simp only [FU,HS,w2,nz,List.nil_append],by simp only [FV,HS,w1,allT,cond_true]⟩
theorem acH: ∀ (xs:List Int) (m:Int),0≤m→(∀ y∈xs,0≤y)→
  leI 1 (xs.foldl (fun m b=>bif ltI b m then b else m) m)=(!(m==0)&& !xs.any (· ==0))
 | [],m,hm,_=>by
  simp only [List.foldl_nil,List.any_nil,Bool.not_false,Bool.and_true]
  rw [Bool.eq_iff_iff,Bool.not_eq_true',beq_eq_false_iff_ne,JH];omega
 |y::xs,m,hm,h=>by
  have hy:=h y (by simp)
  rw [List.foldl_cons,List.any_cons]
  cases hc:ltI y m with
  |true=>
   rw [cond_true,acH xs y hy fun z hz=>h z (by simp [hz])]
   have hc:=abL.1 hc
   rw [show (m==0)=false from by rw [beq_eq_false_iff_ne];omega]
   cases y==0 <;> simp
  |false=>
   rw [cond_false,acH xs m hm fun z hz=>h z (by simp [hz])]
   have hc: ¬ y < m:=fun h=>by rw [db h]at hc;cases hc
   cases hm0:m==0 with
   |true=>rfl
   |false=>
    rw [beq_eq_false_iff_ne]at hm0
    rw [show (y==0)=false from by rw [beq_eq_false_iff_ne];omega]
    simp
theorem ajX(st:List Int)(h:areR st=true):leI 1 (vt st)= !st.any (· ==0):=by
 obtain⟨h1,h2⟩:=BA.1 h
 match st,h1,h2 with
 |x::xs,h1,h2=>
  have hx:=h2 x (by simp)
  obtain⟨w1,w2⟩:=PQ (x::xs) x (by omega)
  rw [iW (f:=kw) (g:=fun m b=>bif ltI b m then b else m) (fun b a=>by simp only [kw,agR])]at w2
  have e0:Option.getD (x::xs)[Int.toNat 0]? 0=x:=rfl
  simp only [vt,Ck,e0,w2,jB,List.drop_one,List.tail_cons]
  rw [acH xs x hx.1 fun y hy=>(h2 y (by simp [hy])).1,List.any_cons,Bool.not_or]
theorem adf{st:List Int}{row:Int}(h:0≤row∧row < st.length):leI 0 row=true∧ltI row (st.length:Int)=true∧ltN row.toNat st.length=true:=
 ⟨bZ h.1,db h.2,dK (by omega)⟩
theorem aha(k row:Int)(st:List Int)(h:ab5 st k row=true):zc k row st=jp st k row∧zd k row st=KG st k row∧ze k row st=true:=by
 obtain⟨hA,h12,hk⟩:=afj h
 obtain⟨l1,l2⟩:=akG st hA
 have l3:=ajX st hA
 obtain⟨f1,f2⟩:=adT 2 st h12.2
 obtain⟨g1,g2⟩:=adT 1 st h12.2
 have n1:leN st.length 1048576=true:=hY (by omega)
 rcases hk with⟨rfl | rfl,hr⟩ | ⟨rfl | rfl,rfl⟩
 ·obtain⟨r1,r2,r3⟩:=adf hr
  simp [zc,zd,ze,wK,wL,wM,wN,wO,wP,wQ,jp,KG,r1,r2,r3,n1,allT]
 ·obtain⟨r1,r2,r3⟩:=adf hr
  simp [zc,zd,ze,wK,wL,wM,wN,wO,wP,wQ,jp,KG,r1,r2,r3,n1,allT]
 ·simp [zc,zd,ze,wK,wL,wM,wN,wO,wP,wQ,jp,KG,l2,l3,f1,f2,n1,allT]
 ·simp [zc,zd,ze,wK,wL,wM,wN,wO,wP,wQ,jp,KG,l1,l2,g1,g2,n1,allT]
def i7(y2:Int)(b:Nat):(List Int)→Nat ⊕ (List Int)
 |y3=>(.inr (List.set y3 b y2))
def gr(y1 y2:Int)(i:Nat):(List Int)→dR
 |y3=>((i:Int),y1,y2,y3)
def yU:dR→List Int
 |(_,_,_,y3)=>y3
theorem RC(y1 y2:Int)(y3:List Int)(hn:y1≤9223372036854775807)(h3:y1=(y3.length:Int)):
  aV.fin ((0:Int),y1,y2,y3)=true∧aV.res ((0:Int),y1,y2,y3)=((aq (i7 y2) 0 (List.range y1.toNat) 0 y3).1,(gr y1 y2) (aq (i7 y2) 0 (List.range y1.toNat) 0 y3).2.1 (aq (i7 y2) 0 (List.range y1.toNat) 0 y3).2.2):=by
 have key:=aV.along (gr y1 y2) yU (i7 y2) 0 (fun _ a=>y1=(a.length:Int)) (List.range y1.toNat) y3 h3 (by simp only [aV,gr,List.length_range];omega) (fun i b a hb hI=> ?_) (fun a hI=> ?_)
 ·exact key
 ·obtain y3:=a
  obtain⟨rfl,hlt⟩:=gV hb
  have hw:IntKind.i64.wrap ((b:Int) + 1)=((b + 1:Nat):Int):=by rw [bp (by omega) (by omega)];omega
  have hdec:ltI (b:Int) y1=true:=db (by omega)
  have hnn:leI (0:Int) (b:Int)=true:=bZ (by omega)
  refine⟨?_,?_,?_,?_⟩
  ·have h6:ltI (b:Int) (a.length:Int)=true:=db (by omega)
   have h7:ltN b a.length=true:=dK (by omega)
   simp [pf,pg,ph,pj,pk,pm,ou,aV,LT.nds,allT,gr,hdec,hnn,h6,h7]
  ·simp [pf,pg,ph,pj,pk,pm,ou,aV,LT.each,gr,yU,hw]
  ·simp only [pf,pg,ph,pj,pk,pm,ou,aV,LT.fn,gr,yU,i7,Int.toNat_natCast,hdec,hnn,cond_true,Bool.cond_self]
  ·intro a' hf;simp only [i7,Sum.inr.injEq]at hf;subst hf;simpa using hI
 ·obtain y3:=a
  simp only [pf,pg,ph,pj,pk,pm,ou,aV,LT.out,gr,List.length_range,SU,Xc,cond_false]
theorem adC(x:Int)(st:List Int)(h:st.length≤12):(Lp.res aV ((0:Int),(↑(List.length st):Int),x,st)).2.2.2.2=st.map (fun _=>x)∧Lp.fin aV ((0:Int),(↑(List.length st):Int),x,st)=true:=by
 obtain⟨w1,w2⟩:=RC (st.length:Int) x st (by omega) rfl
 rw [Int.toNat_natCast,Gy (xs:=st) (d:=0) (f:=i7 x) (g:=fun _=>x) (fun b a=>rfl) rfl]at w2
 exact⟨by simp only [w2,gr],w1⟩
theorem ame{k:Int}(h:0≤k∧k≤2):IntKind.i64.wrap (IntKind.i64.wrap (k - 0) + 0)=k∧IntKind.i64.wrap (1 - k)=1 - k:=
 ⟨by rw [show IntKind.i64.wrap (k - 0)=k from by rw [bp (by omega) (by omega)];omega,bp (by omega) (by omega)];omega,bp (by omega) (by omega)⟩
theorem ahL(k row:Int)(st:List Int)(h:ab5 st k row=true):sj k row st=jp st k row∧sk k row st=(bif jp st k row then KG st k row else st)∧sm k row st=true:=by
 obtain⟨hA,h12,hk⟩:=afj h
 obtain⟨c1,c2⟩:=TH 0 st (by omega)
 obtain⟨f1,f2⟩:=adC 2 st h12.2
 obtain⟨g1,g2⟩:=adC 1 st h12.2
 have n1:leN st.length 9223372036854775807=true:=hY (by omega)
 rcases hk with⟨hk,hr⟩ | ⟨rfl | rfl,rfl⟩
 ·obtain⟨r1,r2,r3⟩:=adf hr
  obtain⟨q1,q2⟩:=ame (k:=k) (by omega)
  have ha0:bK k=true:=by rcases hk with rfl | rfl <;> rfl
  have ha1:(k==0||k==1)=true:=by rcases hk with rfl | rfl <;> rfl
  have ha2:kx k row st= !((st[row.toNat]?.getD 0)==k):=by
   rw [kx,q1];rfl
  simp only [sj,sk,sm,ha0,ha2,qT,qU,qV,jp,KG,ha1,cond_true,r1,r2,r3,Bool.or_true,Bool.true_or,allT]
  cases hc:(st[row.toNat]?.getD 0)==k with
  |false=>simp
  |true=>
   have hv:Dq row st=k:=by rw [beq_iff_eq]at hc;exact hc
   rw [hv,q2]
   simp
 ·simp only [sj,sk,sm,show bK 2=false from rfl,Dr,qT,qU,qV,jp,KG,c1,c2,f1,f2,n1,allT]
  cases st.any (· ==0) <;> simp
 ·simp only [sj,sk,sm,show bK 3=false from rfl,Ds,qT,qU,qV,jp,KG,c1,c2,g1,g2,n1,allT]
  cases JI st <;> simp
def Wr:List SV→List Entry→Option Out
 | [.one ⟨false,[.val (.int .i64 x0)]⟩,.one ⟨true,[.val (.int .i64 x1),.val (.int .i64 x2)]⟩],[]=>some ⟨(.one ⟨false,[(.val (.bool (rsB x0 x1 x2)))]⟩),[],[],[]⟩
 |_,_=>none
def aeW:PF Tryz.prog:=PF.alt afb Wr (by
 intro args es o h hnd;unfold Wr at h;split at h
 ·rename_i x0 x1 x2
  cases h
  have hh:=akb x0 x1 x2
  have e0:=hh
  exact gW rfl (fun _ h=>by cases h) (by simp only [e0] <;> rfl) rfl rfl
 ·cases h)
def Jj:List SV→List Entry→Option Out
 | [.one ⟨false,[.val (.int .i64 x0)]⟩,.one ⟨true,[.val (.int .i64 x1),.val (.int .i64 x2)]⟩],[]=>some ⟨(.one ⟨false,[(.val (.bool (rsB x0 x1 x2)))]⟩),[],[],[]⟩
 |_,_=>none
def TV:PF Tryz.prog:=PF.alt Ub Jj (by
 intro args es o h hnd;unfold Jj at h;split at h
 ·rename_i x0 x1 x2
  cases h
  have hh:=ajT x0 x1 x2
  have e0:=hh
  exact gW rfl (fun _ h=>by cases h) (by simp only [e0] <;> rfl) rfl rfl
 ·cases h)
def UI:List SV→List Entry→Option Out
 | [.one ⟨false,[.ref 0]⟩,.one ⟨true,[.val (.int .i64 x0),.val (.int .i64 x1)]⟩],[.row false 2 (.int .i64) x2]=>some ⟨(.tup [⟨false,[(.ref 1)]⟩,⟨false,[(.val (.bool (jp x2 x0 x1)))]⟩]),[(.row false 2 amU x2)],[(.row true 2 amU (KG x2 x0 x1))],[ab5 x2 x0 x1]⟩
 |_,_=>none
def Nf:PF Tryz.prog:=PF.alt aeb UI (by
 intro args es o h hnd;unfold UI at h;split at h
 ·rename_i x0 x1 x2
  cases h
  have hnd:=eD hnd
  have hh:=aha x0 x1 x2 hnd
  obtain⟨e0,e1,en⟩:=hh
  exact gW rfl (eN en) (by simp only [e0] <;> rfl) rfl (by simp only [e1] <;> rfl)
 ·cases h)
def KV:List SV→List Entry→Option Out
 | [.one ⟨false,[.ref 0]⟩,.one ⟨true,[.val (.int .i64 x0),.val (.int .i64 x1)]⟩],[.row true 2 (.int .i64) x2]=>some ⟨(.one ⟨false,[(.val (.bool (jp x2 x0 x1)))]⟩),[(.row true 2 amU (bif jp x2 x0 x1 then KG x2 x0 x1 else x2))],[],[ab5 x2 x0 x1]⟩
 |_,_=>none
def EA:PF Tryz.prog:=PF.alt Vv KV (by
 intro args es o h hnd;unfold KV at h;split at h
 ·rename_i x0 x1 x2
  cases h
  have hnd:=eD hnd
  have hh:=ahL x0 x1 x2 hnd
  obtain⟨e0,e1,en⟩:=hh
  exact gW rfl (eN en) (by simp only [e0] <;> rfl) (by simp only [e1] <;> rfl) rfl
 ·cases h)
end Go.SX

namespace Go.SX
open Go.Proofs
set_option maxRecDepth 100000
section
variable (x0 x1 x2 x3 x4 x5 x6 x7 x8:Int)(x9:Bool)(x10:List Int)(x11:List (Int×Int×Int))(x12:List (List Int))(x13:List (Int×Int×Int))(x14 x15:List (Int×Int))
def DI:Bool:=aJ x4 (0:Int) (IntKind.wrap .i64 ((↑x12.length:Int) - (1:Int)))
def Iy:Bool:=bif x5==(0:Int)then bif x6==(0:Int)then true else false else false
def Iz:Bool:=bif x7==(0:Int)then bif x8==(0:Int)then bif x9==false then true else false else false else false
def ve:Bool:=bif !nW x0 x10 x11 x12 x13 x1 x14 x15 x2 then false else bif x3==(0:Int)then bif DI x4 x12 then bif x3==(0:Int)then bif x4==x4 then bif Iy x5 x6 then bif Iz x7 x8 x9 then true else false else false else false else false else false else bif x3==(1:Int)then bif bif DI x4 x12 then rsB (uR x12) x5 x6 else false then Iz x7 x8 x9 else false else bif x3==(2:Int)then bif bif x4==(0:Int)then Iy x5 x6 else false then abx x7 x8 else false else false
def zV:Bool:=allT [BP (9223372036854775807:Nat) x10 x11 x12 x13 x14 x15,!nW x0 x10 x11 x12 x13 x1 x14 x15 x2||(x3==(0:Int)||(!x3==(1:Int)||(!(DI x4 x12&&true)||uS x12)))]
end
def Qo:List SV→List Entry→Option Out
 | [.one ⟨true,[.val (.int .i64 x0),.ref 0,.ref 1,.ref 2,.ref 3,.val (.int .i64 x1),.ref 4,.ref 5,.val (.int .i64 x2)]⟩,.one ⟨true,[.val (.int .i64 x3),.val (.int .i64 x4),.val (.int .i64 x5),.val (.int .i64 x6),.val (.int .i64 x7),.val (.int .i64 x8),.val (.bool x9)]⟩],[.row false 2 (.int .i64) x10,.row false 169 (.pair (.int .i64) (.pair (.int .i64) (.int .i64))) x11,.row false 24 (.sl 2 (.int .i64)) x12,.row false 100 (.pair (.int .i64) (.pair (.int .i64) (.int .i64))) x13,.row false 173 (.pair (.int .i64) (.int .i64)) x14,.row false 176 (.pair (.int .i64) (.int .i64)) x15]=>some ⟨(.one ⟨false,[(.val (.bool (ve x0 x1 x2 x3 x4 x5 x6 x7 x8 x9 x10 x11 x12 x13 x14 x15)))]⟩),[(.row false 2 amU x10),(.row false 169 amS x11),(.row false 24 (CTy.sl (2:TypeId) amU) x12),(.row false 100 amS x13),(.row false 173 amT x14),(.row false 176 amT x15)],[],[(zV x0 x1 x2 x3 x4 x10 x11 x12 x13 x14 x15)]⟩
 |_,_=>none
def l5:PF Tryz.prog:=PF.ofG Tryz.prog [aeW,acR,nB,PF.lend nB,PF.fz nB,eQ,ro,PF.lend ro,PF.fz ro] [] ay 35 Tryz.f35 Tryz.func35 (fun c _=>LOk.nil c) Qo (by
 intro vs es r h;unfold Qo at h;split at h
 ·cases h;kernel_rfl
 ·cases h)
abbrev kY:=Int×Int×Int×Int×List (List Int)×List Int×List (Int×(Int×Int))×List (List Int)×List (Int×(Int×Int))×List (Int×Int)×List (Int×Int)
section
variable (y0:Int)(y4 y7:List (List Int))
def oR:List Int:=Option.getD y7[Int.toNat y0]? (vD (CTy.sl (2:TypeId) amU))
def wU:Bool:=ltI y0 (↑y7.length:Int)
def Cr:Bool:=leI (0:Int) y0
def Cs:Bool:=ltN y0.toNat y7.length
def Ct:Bool:=leN (List.length (oR y0 y7)) (1048576:Nat)
def Cu:Bool:=leN (List.length y4 + List.length [oR y0 y7]) (9223372036854775807:Nat)
def Cv:Bool:=leN ((List.length y4 + List.length [oR y0 y7]) * (24:Nat)) (140737488355328:Nat)
def Cw:Int:=IntKind.wrap .i64 (y0 + (1:Int))
def Cx:List (List Int):=y4++ [oR y0 y7]
end
def aa8:kY→List (Nat×SV)
 |(y0,_,_,_,_,_,_,_,_,_,_)=> [(4,(.one ⟨false,[(.val (.int .i64 y0))]⟩)),(1,(.one ⟨false,[(.ptr 0 0)]⟩)),(3,(.one ⟨false,[(.ref 1)]⟩))]
def aaZ:kY→List (Nat×Entry)
 |(_,y1,y2,y3,y4,y5,y6,y7,y8,y9,y10)=> [(0,(.box 33 [(.val (.int .i64 y1)),(.ref 2),(.ref 3),(.ref 4),(.ref 5),(.val (.int .i64 y2)),(.ref 6),(.ref 7),(.val (.int .i64 y3))])),(2,(.row false 2 amU y5)),(3,(.row false 169 amS y6)),(4,(.row false 24 (CTy.sl (2:TypeId) amU) y7)),(5,(.row false 100 amS y8)),(6,(.row false 173 amT y9)),(7,(.row false 176 amT y10)),(1,(.row true 24 (CTy.sl (2:Nat) amU) y4))]
def abq:Nat→kY→List (Nat×SV)
 |_,(_,_,_,_,_,_,_,_,_,_,_)=> [(3,(.one ⟨false,[(.ref 1)]⟩))]
def abh:Nat→kY→List (Nat×Entry)
 |_,(_,y1,y2,y3,y4,y5,y6,y7,y8,y9,y10)=> [(0,(.box 33 [(.val (.int .i64 y1)),(.ref 2),(.ref 3),(.ref 4),(.ref 5),(.val (.int .i64 y2)),(.ref 6),(.ref 7),(.val (.int .i64 y3))])),(1,(.row true 24 (CTy.sl (2:Nat) amU) y4)),(2,(.row false 2 amU y5)),(3,(.row false 169 amS y6)),(4,(.row false 24 (CTy.sl (2:TypeId) amU) y7)),(5,(.row false 100 amS y8)),(6,(.row false 173 amT y9)),(7,(.row false 176 amT y10))]
def zP:kY→LT kY
 |(y0,y1,y2,y3,y4,y5,y6,y7,y8,y9,y10)=> .ite (wU y0 y7) (.need [(Cr y0),(wU y0 y7),(Cs y0 y7),(Ct y0 y7),(Cu y0 y4 y7),(Cv y0 y4 y7)] (.nrm ((Cw y0),y1,y2,y3,(Cx y0 y4 y7),y5,y6,y7,y8,y9,y10) [(0,0),(1,896),(2,2),(3,3),(4,4),(5,5),(6,6),(7,7)])) (.ext 0 [(0,0),(1,1),(2,2),(3,3),(4,4),(5,5),(6,6),(7,7)])
def Kj(s:St):Option kY:=
 (match s.look 4 with
 |some ⟨none,(.one ⟨false,[(.val (.int .i64 y0))]⟩)⟩=>
 (match s.look 1 with
 |some ⟨none,(.one ⟨false,[(.ptr 448 0)]⟩)⟩=>
 (match s.look 3 with
 |some ⟨none,(.one ⟨false,[(.ref 576)]⟩)⟩=>
 (match s.ent 448 with
 |some (.box 33 [(.val (.int .i64 y1)),(.ref 0),(.ref 1),(.ref 2),(.ref 3),(.val (.int .i64 y2)),(.ref 4),(.ref 5),(.val (.int .i64 y3))])=>
 (match s.ent 0 with
 |some (.row false 2 (.int .i64) y5)=>
 (match s.ent 1 with
 |some (.row false 169 (.pair (.int .i64) (.pair (.int .i64) (.int .i64))) y6)=>
 (match s.ent 2 with
 |some (.row false 24 (.sl 2 (.int .i64)) y7)=>
 (match s.ent 3 with
 |some (.row false 100 (.pair (.int .i64) (.pair (.int .i64) (.int .i64))) y8)=>
 (match s.ent 4 with
 |some (.row false 173 (.pair (.int .i64) (.int .i64)) y9)=>
 (match s.ent 5 with
 |some (.row false 176 (.pair (.int .i64) (.int .i64)) y10)=>
 (match s.ent 576 with
 |some (.row true 24 (.sl 2 (.int .i64)) y4)=>
 some (y0,y1,y2,y3,y4,y5,y6,y7,y8,y9,y10)
 |_=>none)
 |_=>none)
 |_=>none)
 |_=>none)
 |_=>none)
 |_=>none)
 |_=>none)
 |_=>none)
 |_=>none)
 |_=>none)
 |_=>none)
def fu:Lp kY where
 h:=⟨[6,7,8,9,10,13,14,15,16,17,18,19,20,21,3,11,12,4],[0,2,3,4,5,6,7],[1],[]⟩
 JL:=aa8
 JE:=aaZ
 XL:=abq
 XE:=abh
 q:=fun j=>match j with | _=> .exit 0
 tags:= [0]
 lt:=zP
 fuel:=fun(y0,y1,y2,y3,y4,y5,y6,y7,y8,y9,y10)=>y0.natAbs + y1.natAbs + y2.natAbs + y3.natAbs + y4.length + y5.length + y6.length + y7.length + y8.length + y9.length + y10.length
 fix:=fun(_,y1,y2,y3,_,y5,y6,y7,y8,y9,y10) (y0,_,_,_,y4,_,_,_,_,_,_)=>(y0,y1,y2,y3,y4,y5,y6,y7,y8,y9,y10)
 σ:= [(0,448),(2,0),(3,1),(4,2),(5,3),(6,4),(7,5),(1,576)]
 rd:=Kj
theorem YD:LoopOk Tryz.prog (fun k=>Nat.blt k Tryz.f155.ntmps) fu.F (aD Tryz.f155 0):=by
 refine Lp.ok (tbl:= [nC,PF.lend nC,PF.fz nC]) (lf:= []) ay fu (by kernel_rfl) (LOk.nil _) (fun _=>rfl) (fun _ _=>rfl) ?_ ?_ ?_ ?_ (fun _=>rfl) ?_
 ·intro x;obtain⟨y0,y1,y2,y3,y4,y5,y6,y7,y8,y9,y10⟩:=x;kernel_rfl
 ·intro x;obtain⟨y0,y1,y2,y3,y4,y5,y6,y7,y8,y9,y10⟩:=x;kernel_rfl
 ·intro s x h
  have h:Kj s=some x:=h
  unfold Kj at h
  repeat' split at h
  all_goals cases h
  exact⟨aa (by assumption) rfl (aa (by assumption) rfl (aa (by assumption) rfl (rfl))),ac rfl (by assumption) rfl (ac rfl (by assumption) rfl (ac rfl (by assumption) rfl (ac rfl (by assumption) rfl (ac rfl (by assumption) rfl (ac rfl (by assumption) rfl (ac rfl (by assumption) rfl (ac rfl (by assumption) rfl (rfl))))))))⟩
 ·intro x;obtain⟨y0,y1,y2,y3,y4,y5,y6,y7,y8,y9,y10⟩:=x;kernel_rfl
 ·intro x z;obtain⟨y0,y1,y2,y3,y4,y5,y6,y7,y8,y9,y10⟩:=x;exact(And.intro rfl trivial)
section
variable (x0 x1 x2:Int)(x3:List Int)(x4:List (Int×Int×Int))(x5:List (List Int))(x6:List (Int×Int×Int))(x7 x8:List (Int×Int))
def KE:Int×Int×Int×Int×List (List Int)×List Int×List (Int×Int×Int)×List (List Int)×List (Int×Int×Int)×List (Int×Int)×List (Int×Int):=((0:Int),x0,x1,x2,[],x3,x4,x5,x6,x7,x8)
def j7:List (List Int):=((Lp.res fu (KE x0 x1 x2 x3 x4 x5 x6 x7 x8)).2.2.2.2.2).1
def Hy:Bool:=allT [Lp.fin fu (KE x0 x1 x2 x3 x4 x5 x6 x7 x8),leN x3.length (1048576:Nat),leN ((0:Nat) + List.length x4) (9223372036854775807:Nat),leN (((0:Nat) + List.length x4) * (24:Nat)) (140737488355328:Nat),leN ((0:Nat) + List.length x6) (9223372036854775807:Nat),leN (((0:Nat) + List.length x6) * (24:Nat)) (140737488355328:Nat),leN ((0:Nat) + List.length x7) (9223372036854775807:Nat),leN (((0:Nat) + List.length x7) * (16:Nat)) (140737488355328:Nat),leN ((0:Nat) + List.length x8) (9223372036854775807:Nat),leN (((0:Nat) + List.length x8) * (16:Nat)) (140737488355328:Nat)]
end
def Zi:List SV→List Entry→Option Out
 | [.one ⟨true,[.val (.int .i64 x0),.ref 0,.ref 1,.ref 2,.ref 3,.val (.int .i64 x1),.ref 4,.ref 5,.val (.int .i64 x2)]⟩],[.row false 2 (.int .i64) x3,.row false 169 (.pair (.int .i64) (.pair (.int .i64) (.int .i64))) x4,.row false 24 (.sl 2 (.int .i64)) x5,.row false 100 (.pair (.int .i64) (.pair (.int .i64) (.int .i64))) x6,.row false 173 (.pair (.int .i64) (.int .i64)) x7,.row false 176 (.pair (.int .i64) (.int .i64)) x8]=>some ⟨(.one ⟨true,[(.val (.int .i64 x0)),(.ref 6),(.ref 7),(.ref 8),(.ref 9),(.val (.int .i64 x1)),(.ref 10),(.ref 11),(.val (.int .i64 x2))]⟩),[(.row false 2 amU x3),(.row false 169 amS x4),(.row false 24 (CTy.sl (2:TypeId) amU) x5),(.row false 100 amS x6),(.row false 173 amT x7),(.row false 176 amT x8)],[(.row true 2 amU x3),(.row true 169 amS x4),(.row true 24 (CTy.sl (2:Nat) amU) (j7 x0 x1 x2 x3 x4 x5 x6 x7 x8)),(.row true 100 amS x6),(.row true 173 amT x7),(.row true 176 amT x8)],[(Hy x0 x1 x2 x3 x4 x5 x6 x7 x8)]⟩
 |_,_=>none
def nD:PF Tryz.prog:=PF.ofG Tryz.prog [nC,PF.lend nC,PF.fz nC] [fu.F] ay 155 Tryz.f155 Tryz.func155 (LOk.fnT (l:= [aD Tryz.f155 0]) (by kernel_rfl) (.cons YD (.nil _))) Zi (by
 intro vs es r h;unfold Zi at h;split at h
 ·cases h;kernel_rfl
 ·cases h)
section
variable (x0 x1 x3:Int)(x4:List Int)(x5:List (Int×Int×Int))(x6:List (List Int))(x7:List (Int×Int×Int))
def pM:Bool:=Int.tmod (Option.getD x4[Int.toNat x3]? (0:Int)) (3:Int)!=(1:Int)
def Nl:Bool:= !ZE x0 x4 (AW x0 x4 x5 (0:Int)) (AW x0 x4 x5 (1:Int)) x3
def HV:List Int:=Option.getD x6[Int.toNat x3]? (vD (CTy.sl (2:TypeId) amU))
def Cq:Int:=bif pM x3 x4 then(0:Int)else bif x1 !=(3:Int)then(1:Int)else bif Nl x0 x3 x4 x5 then(2:Int)else bif bif cd x0 x3 x4 then !Rt (HV x3 x6) x7 else false then(3:Int)else(0:Int)
def KD:Bool:=allT [leI (0:Int) x3,ltI x3 (↑x4.length:Int),ltN x3.toNat x4.length,pM x3 x4||leI (0:Int) x3,pM x3 x4||ltI x3 (↑x6.length:Int),pM x3 x4||ltN x3.toNat x6.length,pM x3 x4||ab1 (HV x3 x6) x7,pM x3 x4||(x1 !=(3:Int)||isT x0 x4&&acE x0 x5),pM x3 x4||(x1 !=(3:Int)||Rs x0 x4 (AW x0 x4 x5 (0:Int)) (AW x0 x4 x5 (1:Int)) x3),pM x3 x4||(x1 !=(3:Int)||(Nl x0 x3 x4 x5||od x3 x4))]
end
def VU:List SV→List Entry→Option Out
 | [.one ⟨true,[.val (.int .i64 x0),.ref 0,.ref 1,.ref 2,.ref 3,.val (.int .i64 x1),.ref 4,.ref 5,.val (.int .i64 _x2)]⟩,.one ⟨false,[.val (.int .i64 x3)]⟩],[.row false 2 (.int .i64) x4,.row false 169 (.pair (.int .i64) (.pair (.int .i64) (.int .i64))) x5,.row false 24 (.sl 2 (.int .i64)) x6,.row false 100 (.pair (.int .i64) (.pair (.int .i64) (.int .i64))) x7,.row false 173 (.pair (.int .i64) (.int .i64)) x8,.row false 176 (.pair (.int .i64) (.int .i64)) x9]=>some ⟨(.one ⟨false,[(.val (.int .i64 (Cq x0 x1 x3 x4 x5 x6 x7)))]⟩),[(.row false 2 amU x4),(.row false 169 amS x5),(.row false 24 (CTy.sl (2:TypeId) amU) x6),(.row false 100 amS x7),(.row false 173 amT x8),(.row false 176 amT x9)],[],[(KD x0 x1 x3 x4 x5 x6 x7)]⟩
 |_,_=>none
def Pk:PF Tryz.prog:=PF.ofG Tryz.prog [OU,PF.lend OU,PF.fz OU,JO,PF.lend JO,PF.fz JO,LM,PF.lend LM,PF.fz LM,fC,PF.lend fC,PF.fz fC] [] ay 177 Tryz.f177 Tryz.func177 (fun c _=>LOk.nil c) VU (by
 intro vs es r h;unfold VU at h;split at h
 ·cases h;kernel_rfl
 ·cases h)
section
variable (x0 x1 x2 x3 x4 x5 x6 x7 x8:Int)(x9:Bool)(x10:List Int)(x11:List (Int×Int×Int))(x12:List (List Int))(x13:List (Int×Int×Int))(x14 x15:List (Int×Int))
def jC:Bool:=Cq x0 x1 x4 x10 x11 x12 x13==(0:Int)
def fT:List Int:=Option.getD x12[Int.toNat x4]? (vD (CTy.sl (2:TypeId) amU))
def iN:Bool:=vdC x1 x7 x8 x9 !=(0:Int)
def jD:Bool:=bif x7==(1:Int)then !acM x14 x15 x2 else false
def FX:Int:=bif x3==(0:Int)then bif jC x0 x1 x4 x10 x11 x12 x13 then x0 else x0 else bif x3==(1:Int)then bif !cd x0 x4 x10 then x0 else bif !jp (fT x4 x12) x5 x6 then x0 else x0 else bif iN x1 x7 x8 x9 then x0 else bif jD x2 x7 x14 x15 then x0 else x0
def FY:Int:=bif x3==(0:Int)then bif jC x0 x1 x4 x10 x11 x12 x13 then x1 else x1 else bif x3==(1:Int)then bif !cd x0 x4 x10 then x1 else bif !jp (fT x4 x12) x5 x6 then x1 else x1 else bif iN x1 x7 x8 x9 then x1 else bif jD x2 x7 x14 x15 then x1 else nxC x1 x7 x8 x9
def FZ:Int:=bif x3==(0:Int)then bif jC x0 x1 x4 x10 x11 x12 x13 then x2 else x2 else bif x3==(1:Int)then bif !cd x0 x4 x10 then x2 else bif !jp (fT x4 x12) x5 x6 then x2 else x2 else bif iN x1 x7 x8 x9 then x2 else bif jD x2 x7 x14 x15 then x2 else x2
def CO:Int:=bif x3==(0:Int)then bif jC x0 x1 x4 x10 x11 x12 x13 then Cq x0 x1 x4 x10 x11 x12 x13 else Cq x0 x1 x4 x10 x11 x12 x13 else bif x3==(1:Int)then bif !cd x0 x4 x10 then(4:Int)else bif !jp (fT x4 x12) x5 x6 then(5:Int)else(0:Int)else bif iN x1 x7 x8 x9 then(6:Int)else bif jD x2 x7 x14 x15 then(7:Int)else(0:Int)
def Ga:List Int:=bif x3==(0:Int)then bif jC x0 x1 x4 x10 x11 x12 x13 then acO x0 x10 x4 else x10 else bif x3==(1:Int)then bif !cd x0 x4 x10 then x10 else bif !jp (fT x4 x12) x5 x6 then x10 else x10 else bif iN x1 x7 x8 x9 then x10 else bif jD x2 x7 x14 x15 then x10 else x10
def Gb:List (Int×(Int×Int)):=bif x3==(0:Int)then bif jC x0 x1 x4 x10 x11 x12 x13 then x11 else x11 else bif x3==(1:Int)then bif !cd x0 x4 x10 then x11 else bif !jp (fT x4 x12) x5 x6 then x11 else x11 else bif iN x1 x7 x8 x9 then x11 else bif jD x2 x7 x14 x15 then x11 else x11
def Gc:List (List Int):=bif x3==(0:Int)then bif jC x0 x1 x4 x10 x11 x12 x13 then j7 x0 x1 x2 x10 x11 x12 x13 x14 x15 else j7 x0 x1 x2 x10 x11 x12 x13 x14 x15 else bif x3==(1:Int)then bif !cd x0 x4 x10 then j7 x0 x1 x2 x10 x11 x12 x13 x14 x15 else bif !jp (fT x4 x12) x5 x6 then j7 x0 x1 x2 x10 x11 x12 x13 x14 x15 else List.set (j7 x0 x1 x2 x10 x11 x12 x13 x14 x15) x4.toNat (KG (fT x4 x12) x5 x6)else bif iN x1 x7 x8 x9 then j7 x0 x1 x2 x10 x11 x12 x13 x14 x15 else bif jD x2 x7 x14 x15 then j7 x0 x1 x2 x10 x11 x12 x13 x14 x15 else j7 x0 x1 x2 x10 x11 x12 x13 x14 x15
def Gd:List (Int×(Int×Int)):=bif x3==(0:Int)then bif jC x0 x1 x4 x10 x11 x12 x13 then x13 else x13 else bif x3==(1:Int)then bif !cd x0 x4 x10 then x13 else bif !jp (fT x4 x12) x5 x6 then x13 else x13 else bif iN x1 x7 x8 x9 then x13 else bif jD x2 x7 x14 x15 then x13 else x13
def Ge:List (Int×Int):=bif x3==(0:Int)then bif jC x0 x1 x4 x10 x11 x12 x13 then x14 else x14 else bif x3==(1:Int)then bif !cd x0 x4 x10 then x14 else bif !jp (fT x4 x12) x5 x6 then x14 else x14 else bif iN x1 x7 x8 x9 then x14 else bif jD x2 x7 x14 x15 then x14 else x14
def Gf:List (Int×Int):=bif x3==(0:Int)then bif jC x0 x1 x4 x10 x11 x12 x13 then x15 else x15 else bif x3==(1:Int)then bif !cd x0 x4 x10 then x15 else bif !jp (fT x4 x12) x5 x6 then x15 else x15 else bif iN x1 x7 x8 x9 then x15 else bif jD x2 x7 x14 x15 then x15 else x15
def HW:Bool:=allT [Hy x0 x1 x2 x10 x11 x12 x13 x14 x15,!x3==(0:Int)||KD x0 x1 x4 x10 x11 x12 x13,!x3==(0:Int)||(!jC x0 x1 x4 x10 x11 x12 x13||SZ x0 x10 x4),x3==(0:Int)||(!x3==(1:Int)||leI (0:Int) x4),x3==(0:Int)||(!x3==(1:Int)||ltI x4 (↑x12.length:Int)),x3==(0:Int)||(!x3==(1:Int)||ltN x4.toNat x12.length),x3==(0:Int)||(!x3==(1:Int)||ab5 (fT x4 x12) x5 x6),x3==(0:Int)||(!x3==(1:Int)||od x4 x10),x3==(0:Int)||(!x3==(1:Int)||(!cd x0 x4 x10||(!jp (fT x4 x12) x5 x6||leI (0:Int) x4))),x3==(0:Int)||(!x3==(1:Int)||(!cd x0 x4 x10||(!jp (fT x4 x12) x5 x6||ltI x4 (↑(List.length (j7 x0 x1 x2 x10 x11 x12 x13 x14 x15)):Int)))),x3==(0:Int)||(!x3==(1:Int)||(!cd x0 x4 x10||(!jp (fT x4 x12) x5 x6||ltN x4.toNat (List.length (j7 x0 x1 x2 x10 x11 x12 x13 x14 x15))))),x3==(0:Int)||(x3==(1:Int)||Vy x1 x7),x3==(0:Int)||(x3==(1:Int)||(iN x1 x7 x8 x9||(!(x7==(1:Int)&&true)||leN x14.length (9223372036854775807:Nat)&&leN x15.length (9223372036854775807:Nat)))),x3==(0:Int)||(x3==(1:Int)||(iN x1 x7 x8 x9||(jD x2 x7 x14 x15||Vy x1 x7)))]
end
def VW:List SV→List Entry→Option Out
 | [.one ⟨true,[.val (.int .i64 x0),.ref 0,.ref 1,.ref 2,.ref 3,.val (.int .i64 x1),.ref 4,.ref 5,.val (.int .i64 x2)]⟩,.one ⟨true,[.val (.int .i64 x3),.val (.int .i64 x4),.val (.int .i64 x5),.val (.int .i64 x6),.val (.int .i64 x7),.val (.int .i64 x8),.val (.bool x9)]⟩],[.row false 2 (.int .i64) x10,.row false 169 (.pair (.int .i64) (.pair (.int .i64) (.int .i64))) x11,.row false 24 (.sl 2 (.int .i64)) x12,.row false 100 (.pair (.int .i64) (.pair (.int .i64) (.int .i64))) x13,.row false 173 (.pair (.int .i64) (.int .i64)) x14,.row false 176 (.pair (.int .i64) (.int .i64)) x15]=>some ⟨(.tup [⟨true,[(.val (.int .i64 (FX x0 x1 x2 x3 x4 x5 x6 x7 x8 x9 x10 x11 x12 x13 x14 x15))),(.ref 6),(.ref 7),(.ref 8),(.ref 9),(.val (.int .i64 (FY x0 x1 x2 x3 x4 x5 x6 x7 x8 x9 x10 x11 x12 x13 x14 x15))),(.ref 10),(.ref 11),(.val (.int .i64 (FZ x0 x1 x2 x3 x4 x5 x6 x7 x8 x9 x10 x11 x12 x13 x14 x15)))]⟩,⟨false,[(.val (.int .i64 (CO x0 x1 x2 x3 x4 x5 x6 x7 x8 x9 x10 x11 x12 x13 x14 x15)))]⟩]),[(.row false 2 amU x10),(.row false 169 amS x11),(.row false 24 (CTy.sl (2:TypeId) amU) x12),(.row false 100 amS x13),(.row false 173 amT x14),(.row false 176 amT x15)],[(.row true 2 amU (Ga x0 x1 x2 x3 x4 x5 x6 x7 x8 x9 x10 x11 x12 x13 x14 x15)),(.row true 169 amS (Gb x0 x1 x2 x3 x4 x5 x6 x7 x8 x9 x10 x11 x12 x13 x14 x15)),(.row true 24 (CTy.sl (2:Nat) amU) (Gc x0 x1 x2 x3 x4 x5 x6 x7 x8 x9 x10 x11 x12 x13 x14 x15)),(.row true 100 amS (Gd x0 x1 x2 x3 x4 x5 x6 x7 x8 x9 x10 x11 x12 x13 x14 x15)),(.row true 173 amT (Ge x0 x1 x2 x3 x4 x5 x6 x7 x8 x9 x10 x11 x12 x13 x14 x15)),(.row true 176 amT (Gf x0 x1 x2 x3 x4 x5 x6 x7 x8 x9 x10 x11 x12 x13 x14 x15))],[(HW x0 x1 x2 x3 x4 x5 x6 x7 x8 x9 x10 x11 x12 x13 x14 x15)]⟩
 |_,_=>none
def rp:PF Tryz.prog:=PF.ofG Tryz.prog [nD,PF.lend nD,PF.fz nD,Pk,PF.lend Pk,PF.fz Pk,OV,PF.lend OV,PF.fz OV,Nf,PF.lend Nf,PF.fz Nf,abQ,JN,PF.lend JN,PF.fz JN,aeX,fC,PF.lend fC,PF.fz fC] [] ay 98 Tryz.f98 Tryz.func98 (fun c _=>LOk.nil c) VW (by
 intro vs es r h;unfold VW at h;split at h
 ·cases h;kernel_rfl
 ·cases h)
abbrev kZ:=Int×List (Int×(Int×((Int×Int)×(Int×(Int×Bool)))))×Int×Int×Int×Int×Int×Int×List Int×List (Int×(Int×Int))×List (List Int)×List (Int×(Int×Int))×List (Int×Int)×List (Int×Int)×List Int×List (Int×(Int×Int))×List (List Int)×List (Int×(Int×Int))×List (Int×Int)×List (Int×Int)
def vh(y0:Int)(y1:List (Int×(Int×((Int×Int)×(Int×(Int×Bool)))))):Int×Int×(Int×Int)×Int×Int×Bool:=Option.getD y1[Int.toNat y0]? ((0:Int),(0:Int),((0:Int),(0:Int)),(0:Int),(0:Int),false)
def vi(y0:Int)(y1:List (Int×(Int×((Int×Int)×(Int×(Int×Bool)))))):Int:=(vh y0 y1).1
def vj(y0:Int)(y1:List (Int×(Int×((Int×Int)×(Int×(Int×Bool)))))):Int×(Int×Int)×Int×Int×Bool:=(vh y0 y1).2
def vk(y0:Int)(y1:List (Int×(Int×((Int×Int)×(Int×(Int×Bool)))))):Int:=(vj y0 y1).1
def oS(y0:Int)(y1:List (Int×(Int×((Int×Int)×(Int×(Int×Bool)))))):(Int×Int)×Int×Int×Bool:=(vj y0 y1).2
def vl(y0:Int)(y1:List (Int×(Int×((Int×Int)×(Int×(Int×Bool)))))):Int×Bool:=(oS y0 y1).2.2
def wV(y0:Int)(y1:List (Int×(Int×((Int×Int)×(Int×(Int×Bool)))))):Bool:=ltI y0 (↑y1.length:Int)
def CB(y0:Int):Bool:=leI (0:Int) y0
def CC(y0:Int)(y1:List (Int×(Int×((Int×Int)×(Int×(Int×Bool)))))):Bool:=ltN y0.toNat y1.length
def CD(y0:Int)(y1:List (Int×(Int×((Int×Int)×(Int×(Int×Bool))))))(y2 y3 y4:Int)(y8:List Int)(y9:List (Int×(Int×Int)))(y10:List (List Int))(y11:List (Int×(Int×Int)))(y12 y13:List (Int×Int)):Bool:=zV y2 y3 y4 (vi y0 y1) (vk y0 y1) y8 y9 y10 y11 y12 y13
def CE(y0:Int)(y1:List (Int×(Int×((Int×Int)×(Int×(Int×Bool))))))(y2 y3 y4:Int)(y8:List Int)(y9:List (Int×(Int×Int)))(y10:List (List Int))(y11:List (Int×(Int×Int)))(y12 y13:List (Int×Int)):Bool:= !ve y2 y3 y4 (vi y0 y1) (vk y0 y1) ((oS y0 y1).1.1) ((oS y0 y1).1.2) (((oS y0 y1).2).1) ((vl y0 y1).1) ((vl y0 y1).2) y8 y9 y10 y11 y12 y13
def CF(y0:Int):Int:=IntKind.wrap .i64 (y0 + (1:Int))
def aa9:kZ→List (Nat×SV)
 |(y0,_,_,_,_,_,_,_,_,_,_,_,_,_,_,_,_,_,_,_)=> [(8,(.one ⟨false,[(.val (.int .i64 y0))]⟩)),(1,(.one ⟨false,[(.ref 0)]⟩)),(2,(.one ⟨false,[(.ptr 1 0)]⟩)),(4,(.one ⟨false,[(.ptr 2 0)]⟩))]
def aa0:kZ→List (Nat×Entry)
 |(_,y1,y2,y3,y4,y5,y6,y7,y8,y9,y10,y11,y12,y13,y14,y15,y16,y17,y18,y19)=> [(0,(.row false 49 amR y1)),(1,(.box 33 [(.val (.int .i64 y2)),(.ref 3),(.ref 4),(.ref 5),(.ref 6),(.val (.int .i64 y3)),(.ref 7),(.ref 8),(.val (.int .i64 y4))])),(2,(.box 33 [(.val (.int .i64 y5)),(.ref 9),(.ref 10),(.ref 11),(.ref 12),(.val (.int .i64 y6)),(.ref 13),(.ref 14),(.val (.int .i64 y7))])),(3,(.row false 2 amU y8)),(4,(.row false 169 amS y9)),(5,(.row false 24 (CTy.sl (2:TypeId) amU) y10)),(6,(.row false 100 amS y11)),(7,(.row false 173 amT y12)),(8,(.row false 176 amT y13)),(9,(.row true 2 amU y14)),(10,(.row true 169 amS y15)),(11,(.row true 24 (CTy.sl (2:Nat) amU) y16)),(12,(.row true 100 amS y17)),(13,(.row true 173 amT y18)),(14,(.row true 176 amT y19))]
def abr:Nat→kZ→List (Nat×SV)
 |0,(_,_,_,_,_,_,_,_,_,_,_,_,_,_,_,_,_,_,_,_)=> [(5,(.one ⟨false,[(.ref 15)]⟩)),(6,(.one ⟨false,[(.val (.int .i64 (0:Int)))]⟩)),(7,(.one ⟨false,[(.val (.int .i64 (2:Int)))]⟩))]
 |_,(_,_,_,_,_,_,_,_,_,_,_,_,_,_,_,_,_,_,_,_)=> []
def abi:Nat→kZ→List (Nat×Entry)
 |0,(_,y1,y2,y3,y4,_,_,_,y8,y9,y10,y11,y12,y13,y14,y15,y16,y17,y18,y19)=> [(0,(.row false 49 amR y1)),(1,(.box 33 [(.val (.int .i64 y2)),(.ref 3),(.ref 4),(.ref 5),(.ref 6),(.val (.int .i64 y3)),(.ref 7),(.ref 8),(.val (.int .i64 y4))])),(2,(.box 33 [(.val (.int .i64 (0:Int))),(.ref 16),(.ref 17),(.ref 18),(.ref 19),(.val (.int .i64 (0:Int))),(.ref 20),(.ref 21),(.val (.int .i64 (0:Int)))])),(3,(.row false 2 amU y8)),(4,(.row false 169 amS y9)),(5,(.row false 24 (CTy.sl (2:TypeId) amU) y10)),(6,(.row false 100 amS y11)),(7,(.row false 173 amT y12)),(8,(.row false 176 amT y13)),(9,(.row true 2 amU y14)),(10,(.row true 169 amS y15)),(11,(.row true 24 (CTy.sl (2:Nat) amU) y16)),(12,(.row true 100 amS y17)),(13,(.row true 173 amT y18)),(14,(.row true 176 amT y19)),(15,(.row true 2 amU [])),(16,(.row true 2 amU [])),(17,(.row true 169 amS [])),(18,(.row true 24 (CTy.sl (2:Nat) amU) [])),(19,(.row true 100 amS [])),(20,(.row true 173 amT [])),(21,(.row true 176 amT []))]
 |_,(_,y1,y2,y3,y4,y5,y6,y7,y8,y9,y10,y11,y12,y13,y14,y15,y16,y17,y18,y19)=> [(0,(.row false 49 amR y1)),(1,(.box 33 [(.val (.int .i64 y2)),(.ref 3),(.ref 4),(.ref 5),(.ref 6),(.val (.int .i64 y3)),(.ref 7),(.ref 8),(.val (.int .i64 y4))])),(2,(.box 33 [(.val (.int .i64 y5)),(.ref 9),(.ref 10),(.ref 11),(.ref 12),(.val (.int .i64 y6)),(.ref 13),(.ref 14),(.val (.int .i64 y7))])),(3,(.row false 2 amU y8)),(4,(.row false 169 amS y9)),(5,(.row false 24 (CTy.sl (2:TypeId) amU) y10)),(6,(.row false 100 amS y11)),(7,(.row false 173 amT y12)),(8,(.row false 176 amT y13)),(9,(.row true 2 amU y14)),(10,(.row true 169 amS y15)),(11,(.row true 24 (CTy.sl (2:Nat) amU) y16)),(12,(.row true 100 amS y17)),(13,(.row true 173 amT y18)),(14,(.row true 176 amT y19))]
def zQ:kZ→LT kZ
 |(y0,y1,y2,y3,y4,y5,y6,y7,y8,y9,y10,y11,y12,y13,y14,y15,y16,y17,y18,y19)=> .ite (wV y0 y1) (.need [(CB y0),(wV y0 y1),(CC y0 y1),(CD y0 y1 y2 y3 y4 y8 y9 y10 y11 y12 y13)] (.ite (CE y0 y1 y2 y3 y4 y8 y9 y10 y11 y12 y13) (.ext 0 [(0,0),(1,1),(2,2),(3,3),(4,4),(5,5),(6,6),(7,7),(8,8),(9,9),(10,10),(11,11),(12,12),(13,13),(14,14),(15,896),(16,768),(17,769),(18,770),(19,771),(20,772),(21,773)]) (.nrm ((CF y0),y1,y2,y3,y4,y5,y6,y7,y8,y9,y10,y11,y12,y13,y14,y15,y16,y17,y18,y19) [(0,0),(1,1),(2,2),(3,3),(4,4),(5,5),(6,6),(7,7),(8,8),(9,9),(10,10),(11,11),(12,12),(13,13),(14,14)]))) (.ext 1 [(0,0),(1,1),(2,2),(3,3),(4,4),(5,5),(6,6),(7,7),(8,8),(9,9),(10,10),(11,11),(12,12),(13,13),(14,14)])
def Kk(s:St):Option kZ:=
 (match s.look 8 with
 |some ⟨none,(.one ⟨false,[(.val (.int .i64 y0))]⟩)⟩=>
 (match s.look 1 with
 |some ⟨none,(.one ⟨false,[(.ref 6)]⟩)⟩=>
 (match s.look 2 with
 |some ⟨none,(.one ⟨false,[(.ptr 512 0)]⟩)⟩=>
 (match s.look 4 with
 |some ⟨none,(.one ⟨false,[(.ptr 576 0)]⟩)⟩=>
 (match s.ent 6 with
 |some (.row false 49 (.pair (.int .i64) (.pair (.int .i64) (.pair (.pair (.int .i64) (.int .i64)) (.pair (.int .i64) (.pair (.int .i64) .bool))))) y1)=>
 (match s.ent 512 with
 |some (.box 33 [(.val (.int .i64 y2)),(.ref 0),(.ref 1),(.ref 2),(.ref 3),(.val (.int .i64 y3)),(.ref 4),(.ref 5),(.val (.int .i64 y4))])=>
 (match s.ent 576 with
 |some (.box 33 [(.val (.int .i64 y5)),(.ref 577),(.ref 578),(.ref 579),(.ref 580),(.val (.int .i64 y6)),(.ref 581),(.ref 582),(.val (.int .i64 y7))])=>
 (match s.ent 0 with
 |some (.row false 2 (.int .i64) y8)=>
 (match s.ent 1 with
 |some (.row false 169 (.pair (.int .i64) (.pair (.int .i64) (.int .i64))) y9)=>
 (match s.ent 2 with
 |some (.row false 24 (.sl 2 (.int .i64)) y10)=>
 (match s.ent 3 with
 |some (.row false 100 (.pair (.int .i64) (.pair (.int .i64) (.int .i64))) y11)=>
 (match s.ent 4 with
 |some (.row false 173 (.pair (.int .i64) (.int .i64)) y12)=>
 (match s.ent 5 with
 |some (.row false 176 (.pair (.int .i64) (.int .i64)) y13)=>
 (match s.ent 577 with
 |some (.row true 2 (.int .i64) y14)=>
 (match s.ent 578 with
 |some (.row true 169 (.pair (.int .i64) (.pair (.int .i64) (.int .i64))) y15)=>
 (match s.ent 579 with
 |some (.row true 24 (.sl 2 (.int .i64)) y16)=>
 (match s.ent 580 with
 |some (.row true 100 (.pair (.int .i64) (.pair (.int .i64) (.int .i64))) y17)=>
 (match s.ent 581 with
 |some (.row true 173 (.pair (.int .i64) (.int .i64)) y18)=>
 (match s.ent 582 with
 |some (.row true 176 (.pair (.int .i64) (.int .i64)) y19)=>
 some (y0,y1,y2,y3,y4,y5,y6,y7,y8,y9,y10,y11,y12,y13,y14,y15,y16,y17,y18,y19)
 |_=>none)
 |_=>none)
 |_=>none)
 |_=>none)
 |_=>none)
 |_=>none)
 |_=>none)
 |_=>none)
 |_=>none)
 |_=>none)
 |_=>none)
 |_=>none)
 |_=>none)
 |_=>none)
 |_=>none)
 |_=>none)
 |_=>none)
 |_=>none)
 |_=>none)
def eb:Lp kZ where
 h:=⟨[23,24,25,26,29,30,31,32,33,34,35,36,5,6,7,27,28,8],[0,1,2,3,4,5,6,7,8,9,10,11,12,13,14],[],[15,16,17,18,19,20,21]⟩
 JL:=aa9
 JE:=aa0
 XL:=abr
 XE:=abi
 q:=fun j=>match j with | 0=> .ret | _=> .exit 0
 tags:= [0,1]
 lt:=zQ
 fuel:=fun(y0,y1,y2,y3,y4,y5,y6,y7,y8,y9,y10,y11,y12,y13,y14,y15,y16,y17,y18,y19)=>y0.natAbs + y1.length + y2.natAbs + y3.natAbs + y4.natAbs + y5.natAbs + y6.natAbs + y7.natAbs + y8.length + y9.length + y10.length + y11.length + y12.length + y13.length + y14.length + y15.length + y16.length + y17.length + y18.length + y19.length
 fix:=fun(_,y1,y2,y3,y4,y5,y6,y7,y8,y9,y10,y11,y12,y13,y14,y15,y16,y17,y18,y19) (y0,_,_,_,_,_,_,_,_,_,_,_,_,_,_,_,_,_,_,_)=>(y0,y1,y2,y3,y4,y5,y6,y7,y8,y9,y10,y11,y12,y13,y14,y15,y16,y17,y18,y19)
 σ:= [(0,6),(1,512),(2,576),(3,0),(4,1),(5,2),(6,3),(7,4),(8,5),(9,577),(10,578),(11,579),(12,580),(13,581),(14,582)]
 rd:=Kk
theorem YE:LoopOk Tryz.prog (fun k=>Nat.blt k Tryz.f57.ntmps) eb.F (aD Tryz.f57 0):=by
 refine Lp.ok (tbl:= [nD,PF.lend nD,PF.fz nD,nB,PF.lend nB,PF.fz nB,l5,PF.lend l5,PF.fz l5,fC,PF.lend fC,PF.fz fC,rp,PF.lend rp,PF.fz rp]) (lf:= []) ay eb (by kernel_rfl) (LOk.nil _) (fun _=>rfl) (fun j _=>by unfold eb;match j with | 0=>rfl | _ + 1=>rfl) ?_ ?_ ?_ ?_ (fun _=>rfl) ?_
 ·intro x;obtain⟨y0,y1,y2,y3,y4,y5,y6,y7,y8,y9,y10,y11,y12,y13,y14,y15,y16,y17,y18,y19⟩:=x;kernel_rfl
 ·intro x;obtain⟨y0,y1,y2,y3,y4,y5,y6,y7,y8,y9,y10,y11,y12,y13,y14,y15,y16,y17,y18,y19⟩:=x;kernel_rfl
 ·intro s x h
  have h:Kk s=some x:=h
  unfold Kk at h
  repeat' split at h
  all_goals cases h
  exact⟨aa (by assumption) rfl (aa (by assumption) rfl (aa (by assumption) rfl (aa (by assumption) rfl (rfl)))),ac rfl (by assumption) rfl (ac rfl (by assumption) rfl (ac rfl (by assumption) rfl (ac rfl (by assumption) rfl (ac rfl (by assumption) rfl (ac rfl (by assumption) rfl (ac rfl (by assumption) rfl (ac rfl (by assumption) rfl (ac rfl (by assumption) rfl (ac rfl (by assumption) rfl (ac rfl (by assumption) rfl (ac rfl (by assumption) rfl (ac rfl (by assumption) rfl (ac rfl (by assumption) rfl (ac rfl (by assumption) rfl (rfl)))))))))))))))⟩
 ·intro x;obtain⟨y0,y1,y2,y3,y4,y5,y6,y7,y8,y9,y10,y11,y12,y13,y14,y15,y16,y17,y18,y19⟩:=x;kernel_rfl
 ·intro x z;obtain⟨y0,y1,y2,y3,y4,y5,y6,y7,y8,y9,y10,y11,y12,y13,y14,y15,y16,y17,y18,y19⟩:=x;exact(And.intro (And.intro trivial rfl) trivial)
abbrev lc:=Int×Int×List (Int×(Int×((Int×Int)×(Int×(Int×Bool)))))×Int×Int×Int×List Int×List Int×List (Int×(Int×Int))×List (List Int)×List (Int×(Int×Int))×List (Int×Int)×List (Int×Int)
def vm(y0:Int)(y2:List (Int×(Int×((Int×Int)×(Int×(Int×Bool)))))):Bool:=ltI y0 (↑y2.length:Int)
def vn(y0:Int)(y2:List (Int×(Int×((Int×Int)×(Int×(Int×Bool)))))):Bool:=ltN y0.toNat y2.length
def vo(y0:Int)(y2:List (Int×(Int×((Int×Int)×(Int×(Int×Bool)))))):Int×Int×(Int×Int)×Int×Int×Bool:=Option.getD y2[Int.toNat y0]? ((0:Int),(0:Int),((0:Int),(0:Int)),(0:Int),(0:Int),false)
def dw(y0:Int)(y2:List (Int×(Int×((Int×Int)×(Int×(Int×Bool)))))):Int:=(vo y0 y2).1
def vp(y0:Int)(y2:List (Int×(Int×((Int×Int)×(Int×(Int×Bool)))))):Int×(Int×Int)×Int×Int×Bool:=(vo y0 y2).2
def cY(y0:Int)(y2:List (Int×(Int×((Int×Int)×(Int×(Int×Bool)))))):Int:=(vp y0 y2).1
def oT(y0:Int)(y2:List (Int×(Int×((Int×Int)×(Int×(Int×Bool)))))):(Int×Int)×Int×Int×Bool:=(vp y0 y2).2
def eq(y0:Int)(y2:List (Int×(Int×((Int×Int)×(Int×(Int×Bool)))))):Int:=(oT y0 y2).1.1
def et(y0:Int)(y2:List (Int×(Int×((Int×Int)×(Int×(Int×Bool)))))):Int:=(oT y0 y2).1.2
def eu(y0:Int)(y2:List (Int×(Int×((Int×Int)×(Int×(Int×Bool)))))):Int:=((oT y0 y2).2).1
def aR(y0:Int)(y2:List (Int×(Int×((Int×Int)×(Int×(Int×Bool)))))):Int×Bool:=(oT y0 y2).2.2
def tg(y0:Int)(y2:List (Int×(Int×((Int×Int)×(Int×(Int×Bool))))))(y3 y4 y5:Int)(y7:List Int)(y8:List (Int×(Int×Int)))(y9:List (List Int))(y10:List (Int×(Int×Int)))(y11 y12:List (Int×Int)):Int:=CO y3 y4 y5 (dw y0 y2) (cY y0 y2) (eq y0 y2) (et y0 y2) (eu y0 y2) ((aR y0 y2).1) ((aR y0 y2).2) y7 y8 y9 y10 y11 y12
def th(y0:Int)(y2:List (Int×(Int×((Int×Int)×(Int×(Int×Bool))))))(y3 y4 y5:Int)(y7:List Int)(y8:List (Int×(Int×Int)))(y9:List (List Int))(y10:List (Int×(Int×Int)))(y11 y12:List (Int×Int)):Bool:=bif dw y0 y2==(0:Int)then tg y0 y2 y3 y4 y5 y7 y8 y9 y10 y11 y12==(0:Int)else false
def nt(y0:Int)(y2:List (Int×(Int×((Int×Int)×(Int×(Int×Bool))))))(y3 y4 y5:Int)(y7:List Int)(y8:List (Int×(Int×Int)))(y9:List (List Int))(y10:List (Int×(Int×Int)))(y11 y12:List (Int×Int)):Bool:= !(th y0 y2 y3 y4 y5 y7 y8 y9 y10 y11 y12&&true)
def p6(y0:Int)(y2:List (Int×(Int×((Int×Int)×(Int×(Int×Bool))))))(y3 y4 y5:Int)(y7:List Int)(y8:List (Int×(Int×Int)))(y9:List (List Int))(y10:List (Int×(Int×Int)))(y11 y12:List (Int×Int)):List Int:= [tg y0 y2 y3 y4 y5 y7 y8 y9 y10 y11 y12]
def tf(y0:Int)(y2:List (Int×(Int×((Int×Int)×(Int×(Int×Bool)))))):Bool:=vm y0 y2
def wW(y0:Int):Bool:=leI (0:Int) y0
def wX(y0:Int)(y2:List (Int×(Int×((Int×Int)×(Int×(Int×Bool)))))):Bool:=vn y0 y2
def CG(y0:Int)(y2:List (Int×(Int×((Int×Int)×(Int×(Int×Bool))))))(y3 y4 y5:Int)(y7:List Int)(y8:List (Int×(Int×Int)))(y9:List (List Int))(y10:List (Int×(Int×Int)))(y11 y12:List (Int×Int)):Bool:=HW y3 y4 y5 (dw y0 y2) (cY y0 y2) (eq y0 y2) (et y0 y2) (eu y0 y2) ((aR y0 y2).1) ((aR y0 y2).2) y7 y8 y9 y10 y11 y12
def CH(y0:Int)(y2:List (Int×(Int×((Int×Int)×(Int×(Int×Bool))))))(y3 y4 y5:Int)(y7:List Int)(y8:List (Int×(Int×Int)))(y9:List (List Int))(y10:List (Int×(Int×Int)))(y11 y12:List (Int×Int)):Bool:=nt y0 y2 y3 y4 y5 y7 y8 y9 y10 y11 y12||leI (0:Int) y0
def CI(y0:Int)(y2:List (Int×(Int×((Int×Int)×(Int×(Int×Bool))))))(y3 y4 y5:Int)(y7:List Int)(y8:List (Int×(Int×Int)))(y9:List (List Int))(y10:List (Int×(Int×Int)))(y11 y12:List (Int×Int)):Bool:=nt y0 y2 y3 y4 y5 y7 y8 y9 y10 y11 y12||vm y0 y2
def CJ(y0:Int)(y2:List (Int×(Int×((Int×Int)×(Int×(Int×Bool))))))(y3 y4 y5:Int)(y7:List Int)(y8:List (Int×(Int×Int)))(y9:List (List Int))(y10:List (Int×(Int×Int)))(y11 y12:List (Int×Int)):Bool:=nt y0 y2 y3 y4 y5 y7 y8 y9 y10 y11 y12||vn y0 y2
def CL(y0:Int)(y2:List (Int×(Int×((Int×Int)×(Int×(Int×Bool))))))(y3 y4 y5:Int)(y7:List Int)(y8:List (Int×(Int×Int)))(y9:List (List Int))(y10:List (Int×(Int×Int)))(y11 y12:List (Int×Int)):Bool:=nt y0 y2 y3 y4 y5 y7 y8 y9 y10 y11 y12||od (cY y0 y2) y7
def CM(y0:Int)(y2:List (Int×(Int×((Int×Int)×(Int×(Int×Bool))))))(y3 y4 y5:Int)(y6 y7:List Int)(y8:List (Int×(Int×Int)))(y9:List (List Int))(y10:List (Int×(Int×Int)))(y11 y12:List (Int×Int)):Bool:=leN (List.length y6 + List.length (p6 y0 y2 y3 y4 y5 y7 y8 y9 y10 y11 y12)) (9223372036854775807:Nat)
def CN(y0:Int)(y2:List (Int×(Int×((Int×Int)×(Int×(Int×Bool))))))(y3 y4 y5:Int)(y6 y7:List Int)(y8:List (Int×(Int×Int)))(y9:List (List Int))(y10:List (Int×(Int×Int)))(y11 y12:List (Int×Int)):Bool:=leN ((List.length y6 + List.length (p6 y0 y2 y3 y4 y5 y7 y8 y9 y10 y11 y12)) * (8:Nat)) (140737488355328:Nat)
def Am(y0:Int):Int:=IntKind.wrap .i64 (y0 + (1:Int))
def An(y0 y1:Int)(y2:List (Int×(Int×((Int×Int)×(Int×(Int×Bool))))))(y3 y4 y5:Int)(y7:List Int)(y8:List (Int×(Int×Int)))(y9:List (List Int))(y10:List (Int×(Int×Int)))(y11 y12:List (Int×Int)):Int:=bif bif th y0 y2 y3 y4 y5 y7 y8 y9 y10 y11 y12 then cd y3 (cY y0 y2) y7 else false then IntKind.wrap .i64 (y1 + (1:Int))else y1
def Ao(y0:Int)(y2:List (Int×(Int×((Int×Int)×(Int×(Int×Bool))))))(y3 y4 y5:Int)(y7:List Int)(y8:List (Int×(Int×Int)))(y9:List (List Int))(y10:List (Int×(Int×Int)))(y11 y12:List (Int×Int)):Int:=FX y3 y4 y5 (dw y0 y2) (cY y0 y2) (eq y0 y2) (et y0 y2) (eu y0 y2) ((aR y0 y2).1) ((aR y0 y2).2) y7 y8 y9 y10 y11 y12
def Ap(y0:Int)(y2:List (Int×(Int×((Int×Int)×(Int×(Int×Bool))))))(y3 y4 y5:Int)(y7:List Int)(y8:List (Int×(Int×Int)))(y9:List (List Int))(y10:List (Int×(Int×Int)))(y11 y12:List (Int×Int)):Int:=FY y3 y4 y5 (dw y0 y2) (cY y0 y2) (eq y0 y2) (et y0 y2) (eu y0 y2) ((aR y0 y2).1) ((aR y0 y2).2) y7 y8 y9 y10 y11 y12
def Aq(y0:Int)(y2:List (Int×(Int×((Int×Int)×(Int×(Int×Bool))))))(y3 y4 y5:Int)(y7:List Int)(y8:List (Int×(Int×Int)))(y9:List (List Int))(y10:List (Int×(Int×Int)))(y11 y12:List (Int×Int)):Int:=FZ y3 y4 y5 (dw y0 y2) (cY y0 y2) (eq y0 y2) (et y0 y2) (eu y0 y2) ((aR y0 y2).1) ((aR y0 y2).2) y7 y8 y9 y10 y11 y12
def Ar(y0:Int)(y2:List (Int×(Int×((Int×Int)×(Int×(Int×Bool))))))(y3 y4 y5:Int)(y6 y7:List Int)(y8:List (Int×(Int×Int)))(y9:List (List Int))(y10:List (Int×(Int×Int)))(y11 y12:List (Int×Int)):List Int:=y6++p6 y0 y2 y3 y4 y5 y7 y8 y9 y10 y11 y12
def As(y0:Int)(y2:List (Int×(Int×((Int×Int)×(Int×(Int×Bool))))))(y3 y4 y5:Int)(y7:List Int)(y8:List (Int×(Int×Int)))(y9:List (List Int))(y10:List (Int×(Int×Int)))(y11 y12:List (Int×Int)):List Int:=Ga y3 y4 y5 (dw y0 y2) (cY y0 y2) (eq y0 y2) (et y0 y2) (eu y0 y2) ((aR y0 y2).1) ((aR y0 y2).2) y7 y8 y9 y10 y11 y12
def At(y0:Int)(y2:List (Int×(Int×((Int×Int)×(Int×(Int×Bool))))))(y3 y4 y5:Int)(y7:List Int)(y8:List (Int×(Int×Int)))(y9:List (List Int))(y10:List (Int×(Int×Int)))(y11 y12:List (Int×Int)):List (Int×(Int×Int)):=Gb y3 y4 y5 (dw y0 y2) (cY y0 y2) (eq y0 y2) (et y0 y2) (eu y0 y2) ((aR y0 y2).1) ((aR y0 y2).2) y7 y8 y9 y10 y11 y12
def Au(y0:Int)(y2:List (Int×(Int×((Int×Int)×(Int×(Int×Bool))))))(y3 y4 y5:Int)(y7:List Int)(y8:List (Int×(Int×Int)))(y9:List (List Int))(y10:List (Int×(Int×Int)))(y11 y12:List (Int×Int)):List (List Int):=Gc y3 y4 y5 (dw y0 y2) (cY y0 y2) (eq y0 y2) (et y0 y2) (eu y0 y2) ((aR y0 y2).1) ((aR y0 y2).2) y7 y8 y9 y10 y11 y12
def Av(y0:Int)(y2:List (Int×(Int×((Int×Int)×(Int×(Int×Bool))))))(y3 y4 y5:Int)(y7:List Int)(y8:List (Int×(Int×Int)))(y9:List (List Int))(y10:List (Int×(Int×Int)))(y11 y12:List (Int×Int)):List (Int×(Int×Int)):=Gd y3 y4 y5 (dw y0 y2) (cY y0 y2) (eq y0 y2) (et y0 y2) (eu y0 y2) ((aR y0 y2).1) ((aR y0 y2).2) y7 y8 y9 y10 y11 y12
def Aw(y0:Int)(y2:List (Int×(Int×((Int×Int)×(Int×(Int×Bool))))))(y3 y4 y5:Int)(y7:List Int)(y8:List (Int×(Int×Int)))(y9:List (List Int))(y10:List (Int×(Int×Int)))(y11 y12:List (Int×Int)):List (Int×Int):=Ge y3 y4 y5 (dw y0 y2) (cY y0 y2) (eq y0 y2) (et y0 y2) (eu y0 y2) ((aR y0 y2).1) ((aR y0 y2).2) y7 y8 y9 y10 y11 y12
def Ax(y0:Int)(y2:List (Int×(Int×((Int×Int)×(Int×(Int×Bool))))))(y3 y4 y5:Int)(y7:List Int)(y8:List (Int×(Int×Int)))(y9:List (List Int))(y10:List (Int×(Int×Int)))(y11 y12:List (Int×Int)):List (Int×Int):=Gf y3 y4 y5 (dw y0 y2) (cY y0 y2) (eq y0 y2) (et y0 y2) (eu y0 y2) ((aR y0 y2).1) ((aR y0 y2).2) y7 y8 y9 y10 y11 y12
def aba:lc→List (Nat×SV)
 |(y0,y1,_,_,_,_,_,_,_,_,_,_,_)=> [(12,(.one ⟨false,[(.val (.int .i64 y0))]⟩)),(1,(.one ⟨false,[(.ref 0)]⟩)),(9,(.one ⟨false,[(.ptr 1 0)]⟩)),(11,(.one ⟨false,[(.val (.int .i64 y1))]⟩)),(10,(.one ⟨false,[(.ref 2)]⟩))]
def aa1:lc→List (Nat×Entry)
 |(_,_,y2,y3,y4,y5,y6,y7,y8,y9,y10,y11,y12)=> [(0,(.row false 49 amR y2)),(1,(.box 33 [(.val (.int .i64 y3)),(.ref 3),(.ref 4),(.ref 5),(.ref 6),(.val (.int .i64 y4)),(.ref 7),(.ref 8),(.val (.int .i64 y5))])),(2,(.row true 2 amU y6)),(3,(.row true 2 amU y7)),(4,(.row true 169 amS y8)),(5,(.row true 24 (CTy.sl (2:Nat) amU) y9)),(6,(.row true 100 amS y10)),(7,(.row true 173 amT y11)),(8,(.row true 176 amT y12))]
def abs:Nat→lc→List (Nat×SV)
 |_,(_,y1,_,_,_,_,_,_,_,_,_,_,_)=> [(11,(.one ⟨false,[(.val (.int .i64 y1))]⟩)),(10,(.one ⟨false,[(.ref 2)]⟩))]
def abj:Nat→lc→List (Nat×Entry)
 |_,(_,_,y2,y3,y4,y5,y6,y7,y8,y9,y10,y11,y12)=> [(0,(.row false 49 amR y2)),(1,(.box 33 [(.val (.int .i64 y3)),(.ref 3),(.ref 4),(.ref 5),(.ref 6),(.val (.int .i64 y4)),(.ref 7),(.ref 8),(.val (.int .i64 y5))])),(2,(.row true 2 amU y6)),(3,(.row true 2 amU y7)),(4,(.row true 169 amS y8)),(5,(.row true 24 (CTy.sl (2:Nat) amU) y9)),(6,(.row true 100 amS y10)),(7,(.row true 173 amT y11)),(8,(.row true 176 amT y12))]
def zR:lc→LT lc
 |(y0,y1,y2,y3,y4,y5,y6,y7,y8,y9,y10,y11,y12)=> .ite (tf y0 y2) (.need [(wW y0),(tf y0 y2),(wX y0 y2),(CG y0 y2 y3 y4 y5 y7 y8 y9 y10 y11 y12)] (.need [(wW y0),(tf y0 y2),(wX y0 y2),(CH y0 y2 y3 y4 y5 y7 y8 y9 y10 y11 y12),(CI y0 y2 y3 y4 y5 y7 y8 y9 y10 y11 y12),(CJ y0 y2 y3 y4 y5 y7 y8 y9 y10 y11 y12),(CL y0 y2 y3 y4 y5 y7 y8 y9 y10 y11 y12)] (.need [(CM y0 y2 y3 y4 y5 y6 y7 y8 y9 y10 y11 y12),(CN y0 y2 y3 y4 y5 y6 y7 y8 y9 y10 y11 y12)] (.nrm ((Am y0),(An y0 y1 y2 y3 y4 y5 y7 y8 y9 y10 y11 y12),y2,(Ao y0 y2 y3 y4 y5 y7 y8 y9 y10 y11 y12),(Ap y0 y2 y3 y4 y5 y7 y8 y9 y10 y11 y12),(Aq y0 y2 y3 y4 y5 y7 y8 y9 y10 y11 y12),(Ar y0 y2 y3 y4 y5 y6 y7 y8 y9 y10 y11 y12),(As y0 y2 y3 y4 y5 y7 y8 y9 y10 y11 y12),(At y0 y2 y3 y4 y5 y7 y8 y9 y10 y11 y12),(Au y0 y2 y3 y4 y5 y7 y8 y9 y10 y11 y12),(Av y0 y2 y3 y4 y5 y7 y8 y9 y10 y11 y12),(Aw y0 y2 y3 y4 y5 y7 y8 y9 y10 y11 y12),(Ax y0 y2 y3 y4 y5 y7 y8 y9 y10 y11 y12)) [(0,0),(1,1),(2,2816),(3,640),(4,641),(5,642),(6,643),(7,644),(8,645)])))) (.ext 0 [(0,0),(1,1),(2,2),(3,3),(4,4),(5,5),(6,6),(7,7),(8,8)])
def Kl(s:St):Option lc:=
 (match s.look 12 with
 |some ⟨none,(.one ⟨false,[(.val (.int .i64 y0))]⟩)⟩=>
 (match s.look 1 with
 |some ⟨none,(.one ⟨false,[(.ref 6)]⟩)⟩=>
 (match s.look 9 with
 |some ⟨none,(.one ⟨false,[(.ptr 1536 0)]⟩)⟩=>
 (match s.look 11 with
 |some ⟨none,(.one ⟨false,[(.val (.int .i64 y1))]⟩)⟩=>
 (match s.look 10 with
 |some ⟨none,(.one ⟨false,[(.ref 1472)]⟩)⟩=>
 (match s.ent 6 with
 |some (.row false 49 (.pair (.int .i64) (.pair (.int .i64) (.pair (.pair (.int .i64) (.int .i64)) (.pair (.int .i64) (.pair (.int .i64) .bool))))) y2)=>
 (match s.ent 1536 with
 |some (.box 33 [(.val (.int .i64 y3)),(.ref 1408),(.ref 1409),(.ref 1410),(.ref 1411),(.val (.int .i64 y4)),(.ref 1412),(.ref 1413),(.val (.int .i64 y5))])=>
 (match s.ent 1472 with
 |some (.row true 2 (.int .i64) y6)=>
 (match s.ent 1408 with
 |some (.row true 2 (.int .i64) y7)=>
 (match s.ent 1409 with
 |some (.row true 169 (.pair (.int .i64) (.pair (.int .i64) (.int .i64))) y8)=>
 (match s.ent 1410 with
 |some (.row true 24 (.sl 2 (.int .i64)) y9)=>
 (match s.ent 1411 with
 |some (.row true 100 (.pair (.int .i64) (.pair (.int .i64) (.int .i64))) y10)=>
 (match s.ent 1412 with
 |some (.row true 173 (.pair (.int .i64) (.int .i64)) y11)=>
 (match s.ent 1413 with
 |some (.row true 176 (.pair (.int .i64) (.int .i64)) y12)=>
 some (y0,y1,y2,y3,y4,y5,y6,y7,y8,y9,y10,y11,y12)
 |_=>none)
 |_=>none)
 |_=>none)
 |_=>none)
 |_=>none)
 |_=>none)
 |_=>none)
 |_=>none)
 |_=>none)
 |_=>none)
 |_=>none)
 |_=>none)
 |_=>none)
 |_=>none)
def ec:Lp lc where
 h:=⟨[40,41,42,43,47,48,49,50,51,52,46,53,54,13,14,55,56,57,58,59,60,61,62,63,64,65,66,67,68,69,70,71,72,73,74,75,11,76,77,78,79,80,10,44,45,12],[0,1],[2,3,4,5,6,7,8],[]⟩
 JL:=aba
 JE:=aa1
 XL:=abs
 XE:=abj
 q:=fun j=>match j with | _=> .exit 2
 tags:= [0]
 lt:=zR
 fuel:=fun(y0,y1,y2,y3,y4,y5,y6,y7,y8,y9,y10,y11,y12)=>y0.natAbs + y1.natAbs + y2.length + y3.natAbs + y4.natAbs + y5.natAbs + y6.length + y7.length + y8.length + y9.length + y10.length + y11.length + y12.length
 fix:=fun(_,_,y2,_,_,_,_,_,_,_,_,_,_) (y0,y1,_,y3,y4,y5,y6,y7,y8,y9,y10,y11,y12)=>(y0,y1,y2,y3,y4,y5,y6,y7,y8,y9,y10,y11,y12)
 σ:= [(0,6),(1,1536),(2,1472),(3,1408),(4,1409),(5,1410),(6,1411),(7,1412),(8,1413)]
 rd:=Kl
theorem YF:LoopOk Tryz.prog (fun k=>Nat.blt k Tryz.f57.ntmps) ec.F (aD Tryz.f57 1):=by
 refine Lp.ok (tbl:= [nD,PF.lend nD,PF.fz nD,nB,PF.lend nB,PF.fz nB,l5,PF.lend l5,PF.fz l5,fC,PF.lend fC,PF.fz fC,rp,PF.lend rp,PF.fz rp]) (lf:= []) ay ec (by kernel_rfl) (LOk.nil _) (fun _=>rfl) (fun _ _=>rfl) ?_ ?_ ?_ ?_ (fun _=>rfl) ?_
 ·intro x;obtain⟨y0,y1,y2,y3,y4,y5,y6,y7,y8,y9,y10,y11,y12⟩:=x;kernel_rfl
 ·intro x;obtain⟨y0,y1,y2,y3,y4,y5,y6,y7,y8,y9,y10,y11,y12⟩:=x;kernel_rfl
 ·intro s x h
  have h:Kl s=some x:=h
  unfold Kl at h
  repeat' split at h
  all_goals cases h
  exact⟨aa (by assumption) rfl (aa (by assumption) rfl (aa (by assumption) rfl (aa (by assumption) rfl (aa (by assumption) rfl (rfl))))),ac rfl (by assumption) rfl (ac rfl (by assumption) rfl (ac rfl (by assumption) rfl (ac rfl (by assumption) rfl (ac rfl (by assumption) rfl (ac rfl (by assumption) rfl (ac rfl (by assumption) rfl (ac rfl (by assumption) rfl (ac rfl (by assumption) rfl (rfl)))))))))⟩
 ·intro x;obtain⟨y0,y1,y2,y3,y4,y5,y6,y7,y8,y9,y10,y11,y12⟩:=x;kernel_rfl
 ·intro x z;obtain⟨y0,y1,y2,y3,y4,y5,y6,y7,y8,y9,y10,y11,y12⟩:=x;exact(And.intro rfl trivial)
section
variable (x0 x1 x2:Int)(x3:List Int)(x4:List (Int×Int×Int))(x5:List (List Int))(x6:List (Int×Int×Int))(x7 x8:List (Int×Int))(x9:List (Int×Int×(Int×Int)×Int×Int×Bool))
def gA:Bool:=ltI (200:Int) (↑x9.length:Int)
def KF:Int×List (Int×Int×(Int×Int)×Int×Int×Bool)×Int×Int×Int×Int×Int×Int×List Int×List (Int×Int×Int)×List (List Int)×List (Int×Int×Int)×List (Int×Int)×List (Int×Int)×List Int×List (Int×Int×Int)×List (List Int)×List (Int×Int×Int)×List (Int×Int)×List (Int×Int):=((0:Int),x9,x0,x1,x2,(0:Int),(0:Int),(0:Int),x3,x4,x5,x6,x7,x8,[],[],[],[],[],[])
def gB:Bool:=Nat.beq ((Lp.res eb (KF x0 x1 x2 x3 x4 x5 x6 x7 x8 x9)).1) (0:Nat)
def CA:Int×Int×List (Int×Int×(Int×Int)×Int×Int×Bool)×Int×Int×Int×List Int×List Int×List (Int×Int×Int)×List (List Int)×List (Int×Int×Int)×List (Int×Int)×List (Int×Int):=((0:Int),(0:Int),x9,x0,x1,x2,[],x3,x4,j7 x0 x1 x2 x3 x4 x5 x6 x7 x8,x6,x7,x8)
def PH:Int×List (Int×Int×(Int×Int)×Int×Int×Bool)×Int×Int×Int×List Int×List Int×List (Int×Int×Int)×List (List Int)×List (Int×Int×Int)×List (Int×Int)×List (Int×Int):=(Lp.res ec (CA x0 x1 x2 x3 x4 x5 x6 x7 x8 x9)).2.2
def PI:Int×Int×Int×List Int×List Int×List (Int×Int×Int)×List (List Int)×List (Int×Int×Int)×List (Int×Int)×List (Int×Int):=(PH x0 x1 x2 x3 x4 x5 x6 x7 x8 x9).2.2
def PJ:Int×Int×List Int×List Int×List (Int×Int×Int)×List (List Int)×List (Int×Int×Int)×List (Int×Int)×List (Int×Int):=(PI x0 x1 x2 x3 x4 x5 x6 x7 x8 x9).2
def PK:Int×List Int×List Int×List (Int×Int×Int)×List (List Int)×List (Int×Int×Int)×List (Int×Int)×List (Int×Int):=(PJ x0 x1 x2 x3 x4 x5 x6 x7 x8 x9).2
def PL:List Int×List Int×List (Int×Int×Int)×List (List Int)×List (Int×Int×Int)×List (Int×Int)×List (Int×Int):=(PK x0 x1 x2 x3 x4 x5 x6 x7 x8 x9).2
def PM:List Int×List (Int×Int×Int)×List (List Int)×List (Int×Int×Int)×List (Int×Int)×List (Int×Int):=(PL x0 x1 x2 x3 x4 x5 x6 x7 x8 x9).2
def Nn:List (Int×Int×Int)×List (List Int)×List (Int×Int×Int)×List (Int×Int)×List (Int×Int):=(PM x0 x1 x2 x3 x4 x5 x6 x7 x8 x9).2
def Np:List (List Int)×List (Int×Int×Int)×List (Int×Int)×List (Int×Int):=(Nn x0 x1 x2 x3 x4 x5 x6 x7 x8 x9).2
def Nq:List (Int×Int×Int)×List (Int×Int)×List (Int×Int):=(Np x0 x1 x2 x3 x4 x5 x6 x7 x8 x9).2
def Nr:List (Int×Int)×List (Int×Int):=(Nq x0 x1 x2 x3 x4 x5 x6 x7 x8 x9).2
def Ef:Int:=bif !nW x0 x3 x4 x5 x6 x1 x7 x8 x2 then(0:Int)else bif gA x9 then(0:Int)else bif gB x0 x1 x2 x3 x4 x5 x6 x7 x8 x9 then(0:Int)else (PI x0 x1 x2 x3 x4 x5 x6 x7 x8 x9).1
def Eg:Int:=bif !nW x0 x3 x4 x5 x6 x1 x7 x8 x2 then(0:Int)else bif gA x9 then(0:Int)else bif gB x0 x1 x2 x3 x4 x5 x6 x7 x8 x9 then(0:Int)else (PJ x0 x1 x2 x3 x4 x5 x6 x7 x8 x9).1
def Eh:Int:=bif !nW x0 x3 x4 x5 x6 x1 x7 x8 x2 then(0:Int)else bif gA x9 then(0:Int)else bif gB x0 x1 x2 x3 x4 x5 x6 x7 x8 x9 then(0:Int)else (PK x0 x1 x2 x3 x4 x5 x6 x7 x8 x9).1
def AO:Int:=bif !nW x0 x3 x4 x5 x6 x1 x7 x8 x2 then(0:Int)else bif gA x9 then(0:Int)else bif gB x0 x1 x2 x3 x4 x5 x6 x7 x8 x9 then(0:Int)else (PH x0 x1 x2 x3 x4 x5 x6 x7 x8 x9).1
def AP:Int:=bif !nW x0 x3 x4 x5 x6 x1 x7 x8 x2 then(1:Int)else bif gA x9 then(3:Int)else bif gB x0 x1 x2 x3 x4 x5 x6 x7 x8 x9 then(2:Int)else(0:Int)
def Ei:List Int:=bif !nW x0 x3 x4 x5 x6 x1 x7 x8 x2 then []else bif gA x9 then []else bif gB x0 x1 x2 x3 x4 x5 x6 x7 x8 x9 then []else (PM x0 x1 x2 x3 x4 x5 x6 x7 x8 x9).1
def Ej:List (Int×(Int×Int)):=bif !nW x0 x3 x4 x5 x6 x1 x7 x8 x2 then []else bif gA x9 then []else bif gB x0 x1 x2 x3 x4 x5 x6 x7 x8 x9 then []else (Nn x0 x1 x2 x3 x4 x5 x6 x7 x8 x9).1
def Ek:List (List Int):=bif !nW x0 x3 x4 x5 x6 x1 x7 x8 x2 then []else bif gA x9 then []else bif gB x0 x1 x2 x3 x4 x5 x6 x7 x8 x9 then []else (Np x0 x1 x2 x3 x4 x5 x6 x7 x8 x9).1
def El:List (Int×(Int×Int)):=bif !nW x0 x3 x4 x5 x6 x1 x7 x8 x2 then []else bif gA x9 then []else bif gB x0 x1 x2 x3 x4 x5 x6 x7 x8 x9 then []else (Nq x0 x1 x2 x3 x4 x5 x6 x7 x8 x9).1
def Em:List (Int×Int):=bif !nW x0 x3 x4 x5 x6 x1 x7 x8 x2 then []else bif gA x9 then []else bif gB x0 x1 x2 x3 x4 x5 x6 x7 x8 x9 then []else (Nr x0 x1 x2 x3 x4 x5 x6 x7 x8 x9).1
def Cy:List (Int×Int):=bif !nW x0 x3 x4 x5 x6 x1 x7 x8 x2 then []else bif gA x9 then []else bif gB x0 x1 x2 x3 x4 x5 x6 x7 x8 x9 then []else (Nr x0 x1 x2 x3 x4 x5 x6 x7 x8 x9).2
def Cz:List Int:=bif !nW x0 x3 x4 x5 x6 x1 x7 x8 x2 then []else bif gA x9 then []else bif gB x0 x1 x2 x3 x4 x5 x6 x7 x8 x9 then []else (PL x0 x1 x2 x3 x4 x5 x6 x7 x8 x9).1
def yH:Bool:=allT [BP (9223372036854775807:Nat) x3 x4 x5 x6 x7 x8,!nW x0 x3 x4 x5 x6 x1 x7 x8 x2||(gA x9||Lp.fin eb (KF x0 x1 x2 x3 x4 x5 x6 x7 x8 x9)),!nW x0 x3 x4 x5 x6 x1 x7 x8 x2||(gA x9||(gB x0 x1 x2 x3 x4 x5 x6 x7 x8 x9||Hy x0 x1 x2 x3 x4 x5 x6 x7 x8)),!nW x0 x3 x4 x5 x6 x1 x7 x8 x2||(gA x9||(gB x0 x1 x2 x3 x4 x5 x6 x7 x8 x9||Lp.fin ec (CA x0 x1 x2 x3 x4 x5 x6 x7 x8 x9)))]
end
def Zj:List SV→List Entry→Option Out
 | [.one ⟨true,[.val (.int .i64 x0),.ref 0,.ref 1,.ref 2,.ref 3,.val (.int .i64 x1),.ref 4,.ref 5,.val (.int .i64 x2)]⟩,.one ⟨false,[.ref 6]⟩],[.row false 2 (.int .i64) x3,.row false 169 (.pair (.int .i64) (.pair (.int .i64) (.int .i64))) x4,.row false 24 (.sl 2 (.int .i64)) x5,.row false 100 (.pair (.int .i64) (.pair (.int .i64) (.int .i64))) x6,.row false 173 (.pair (.int .i64) (.int .i64)) x7,.row false 176 (.pair (.int .i64) (.int .i64)) x8,.row false 49 (.pair (.int .i64) (.pair (.int .i64) (.pair (.pair (.int .i64) (.int .i64)) (.pair (.int .i64) (.pair (.int .i64) (.bool)))))) x9]=>some ⟨(.tup [⟨true,[(.val (.int .i64 (Ef x0 x1 x2 x3 x4 x5 x6 x7 x8 x9))),(.ref 7),(.ref 8),(.ref 9),(.ref 10),(.val (.int .i64 (Eg x0 x1 x2 x3 x4 x5 x6 x7 x8 x9))),(.ref 11),(.ref 12),(.val (.int .i64 (Eh x0 x1 x2 x3 x4 x5 x6 x7 x8 x9)))]⟩,⟨false,[(.ref 13)]⟩,⟨false,[(.val (.int .i64 (AO x0 x1 x2 x3 x4 x5 x6 x7 x8 x9)))]⟩,⟨false,[(.val (.int .i64 (AP x0 x1 x2 x3 x4 x5 x6 x7 x8 x9)))]⟩]),[(.row false 2 amU x3),(.row false 169 amS x4),(.row false 24 (CTy.sl (2:TypeId) amU) x5),(.row false 100 amS x6),(.row false 173 amT x7),(.row false 176 amT x8),(.row false 49 amR x9)],[(.row true 2 amU (Ei x0 x1 x2 x3 x4 x5 x6 x7 x8 x9)),(.row true 169 amS (Ej x0 x1 x2 x3 x4 x5 x6 x7 x8 x9)),(.row true 24 (CTy.sl (2:Nat) amU) (Ek x0 x1 x2 x3 x4 x5 x6 x7 x8 x9)),(.row true 100 amS (El x0 x1 x2 x3 x4 x5 x6 x7 x8 x9)),(.row true 173 amT (Em x0 x1 x2 x3 x4 x5 x6 x7 x8 x9)),(.row true 176 amT (Cy x0 x1 x2 x3 x4 x5 x6 x7 x8 x9)),(.row true 2 amU (Cz x0 x1 x2 x3 x4 x5 x6 x7 x8 x9))],[(yH x0 x1 x2 x3 x4 x5 x6 x7 x8 x9)]⟩
 |_,_=>none
def Rr:PF Tryz.prog:=PF.ofG Tryz.prog [nD,PF.lend nD,PF.fz nD,nB,PF.lend nB,PF.fz nB,l5,PF.lend l5,PF.fz l5,fC,PF.lend fC,PF.fz fC,rp,PF.lend rp,PF.fz rp] [eb.F,ec.F] ay 57 Tryz.f57 Tryz.func57 (LOk.fnT (l:= [aD Tryz.f57 0,aD Tryz.f57 1]) (by kernel_rfl) (.cons YE (.cons YF (.nil _)))) Zj (by
 intro vs es r h;unfold Zj at h;split at h
 ·cases h;kernel_rfl
 ·cases h)
section
variable (x0 x1 x2:Int)(x3:List Int)(x4:List (Int×Int×Int))(x5:List (List Int))(x6:List (Int×Int×Int))(x7 x8:List (Int×Int))(x9:List (Int×Int×(Int×Int)×Int×Int×Bool))
def Kn:Int:=AO x0 x1 x2 x3 x4 x5 x6 x7 x8 x9
def Ko:Int:=AP x0 x1 x2 x3 x4 x5 x6 x7 x8 x9
def DH:Bool:=allT [yH x0 x1 x2 x3 x4 x5 x6 x7 x8 x9]
end
def Jh:List SV→List Entry→Option Out
 | [.one ⟨true,[.val (.int .i64 x0),.ref 0,.ref 1,.ref 2,.ref 3,.val (.int .i64 x1),.ref 4,.ref 5,.val (.int .i64 x2)]⟩,.one ⟨false,[.ref 6]⟩],[.row false 2 (.int .i64) x3,.row false 169 (.pair (.int .i64) (.pair (.int .i64) (.int .i64))) x4,.row false 24 (.sl 2 (.int .i64)) x5,.row false 100 (.pair (.int .i64) (.pair (.int .i64) (.int .i64))) x6,.row false 173 (.pair (.int .i64) (.int .i64)) x7,.row false 176 (.pair (.int .i64) (.int .i64)) x8,.row false 49 (.pair (.int .i64) (.pair (.int .i64) (.pair (.pair (.int .i64) (.int .i64)) (.pair (.int .i64) (.pair (.int .i64) (.bool)))))) x9]=>some ⟨(.tup [⟨false,[(.val (.int .i64 (Kn x0 x1 x2 x3 x4 x5 x6 x7 x8 x9)))]⟩,⟨false,[(.val (.int .i64 (Ko x0 x1 x2 x3 x4 x5 x6 x7 x8 x9)))]⟩]),[(.row false 2 amU x3),(.row false 169 amS x4),(.row false 24 (CTy.sl (2:TypeId) amU) x5),(.row false 100 amS x6),(.row false 173 amT x7),(.row false 176 amT x8),(.row false 49 amR x9)],[],[(DH x0 x1 x2 x3 x4 x5 x6 x7 x8 x9)]⟩
 |_,_=>none
def Uf:PF Tryz.prog:=PF.ofG Tryz.prog [Rr,PF.lend Rr,PF.fz Rr] [] ay 31 Tryz.f31 Tryz.func31 (fun c _=>LOk.nil c) Jh (by
 intro vs es r h;unfold Jh at h;split at h
 ·cases h;kernel_rfl
 ·cases h)
end Go.SX

namespace Go.SX
open Go.Proofs
set_option maxRecDepth 100000
def KO(x0:List (Int×Int×Int)):Bool:=allT [ltN (0:Nat) x0.length,false||leN ((0:Nat) + List.length x0) (9223372036854775807:Nat),false||leN (((0:Nat) + List.length x0) * (24:Nat)) (140737488355328:Nat)]
def AU:List SV→List Entry→Option Out
 | [.one ⟨false,[.ref 0]⟩],[.row false 169 (.pair (.int .i64) (.pair (.int .i64) (.int .i64))) x0]=>some ⟨(.one ⟨false,[(.ref 1)]⟩),[(.row false 169 amS x0)],[(.row true 169 amS x0)],[(KO x0)]⟩
 |_,_=>none
def KL:PF Tryz.prog:=PF.ofG Tryz.prog [] [] ay 147 Tryz.f147 Tryz.func147 (fun c _=>LOk.nil c) AU (by
 intro vs es r h;unfold AU at h;split at h
 ·cases h;kernel_rfl
 ·cases h)
def Ja:List (Int×(Int×Int)):= []
def yP:List SV→List Entry→Option Out
 | [.one ⟨false,[.val (.slice none 0 0)]⟩],[]=>some ⟨(.one ⟨false,[(.ref 0)]⟩),[],[(.row true 169 amS (Ja))],[true]⟩
 |_,_=>none
def IY:PF Tryz.prog:=PF.ofG Tryz.prog [PF.raw Tryz.prog] [] ay 147 Tryz.f147 Tryz.func147 (fun c _=>LOk.nil c) yP (by
 intro vs es r h;unfold yP at h;split at h
 ·cases h;kernel_rfl
 ·cases h)
def Jb:List (Int×(Int×Int)):= []
def yQ:List SV→List Entry→Option Out
 | [.one ⟨false,[.val (.slice (some b) 0 c)]⟩],[]=>some ⟨(.one ⟨false,[(.ref 0)]⟩),[],[(.row true 169 amS (Jb))],[true]⟩
 |_,_=>none
def IZ:PF Tryz.prog:=PF.ofG Tryz.prog [] [] ay 147 Tryz.f147 Tryz.func147 (fun c _=>LOk.nil c) yQ (by
 intro vs es r h;unfold yQ at h;split at h
 ·cases h;kernel_rfl
 ·cases h)
def MM(x0:List (Int×Int×Int)):Bool:=allT [ltN (0:Nat) x0.length,false||leN ((0:Nat) + List.length x0) (9223372036854775807:Nat),false||leN (((0:Nat) + List.length x0) * (24:Nat)) (140737488355328:Nat)]
def Db:List SV→List Entry→Option Out
 | [.one ⟨false,[.ref 0]⟩],[.row false 100 (.pair (.int .i64) (.pair (.int .i64) (.int .i64))) x0]=>some ⟨(.one ⟨false,[(.ref 1)]⟩),[(.row false 100 amS x0)],[(.row true 100 amS x0)],[(MM x0)]⟩
 |_,_=>none
def MJ:PF Tryz.prog:=PF.ofG Tryz.prog [] [] ay 148 Tryz.f148 Tryz.func148 (fun c _=>LOk.nil c) Db (by
 intro vs es r h;unfold Db at h;split at h
 ·cases h;kernel_rfl
 ·cases h)
def KM:List (Int×(Int×Int)):= []
def AQ:List SV→List Entry→Option Out
 | [.one ⟨false,[.val (.slice none 0 0)]⟩],[]=>some ⟨(.one ⟨false,[(.ref 0)]⟩),[],[(.row true 100 amS (KM))],[true]⟩
 |_,_=>none
def KJ:PF Tryz.prog:=PF.ofG Tryz.prog [PF.raw Tryz.prog] [] ay 148 Tryz.f148 Tryz.func148 (fun c _=>LOk.nil c) AQ (by
 intro vs es r h;unfold AQ at h;split at h
 ·cases h;kernel_rfl
 ·cases h)
def KN:List (Int×(Int×Int)):= []
def AR:List SV→List Entry→Option Out
 | [.one ⟨false,[.val (.slice (some b) 0 c)]⟩],[]=>some ⟨(.one ⟨false,[(.ref 0)]⟩),[],[(.row true 100 amS (KN))],[true]⟩
 |_,_=>none
def KK:PF Tryz.prog:=PF.ofG Tryz.prog [] [] ay 148 Tryz.f148 Tryz.func148 (fun c _=>LOk.nil c) AR (by
 intro vs es r h;unfold AR at h;split at h
 ·cases h;kernel_rfl
 ·cases h)
def Rv(x0:List (Int×Int)):Bool:=allT [ltN (0:Nat) x0.length,false||leN ((0:Nat) + List.length x0) (9223372036854775807:Nat),false||leN (((0:Nat) + List.length x0) * (16:Nat)) (140737488355328:Nat)]
def Hi:List SV→List Entry→Option Out
 | [.one ⟨false,[.ref 0]⟩],[.row false 173 (.pair (.int .i64) (.int .i64)) x0]=>some ⟨(.one ⟨false,[(.ref 1)]⟩),[(.row false 173 amT x0)],[(.row true 173 amT x0)],[(Rv x0)]⟩
 |_,_=>none
def Rm:PF Tryz.prog:=PF.ofG Tryz.prog [] [] ay 149 Tryz.f149 Tryz.func149 (fun c _=>LOk.nil c) Hi (by
 intro vs es r h;unfold Hi at h;split at h
 ·cases h;kernel_rfl
 ·cases h)
def Po:List (Int×Int):= []
def Fm:List SV→List Entry→Option Out
 | [.one ⟨false,[.val (.slice none 0 0)]⟩],[]=>some ⟨(.one ⟨false,[(.ref 0)]⟩),[],[(.row true 173 amT (Po))],[true]⟩
 |_,_=>none
def Pc:PF Tryz.prog:=PF.ofG Tryz.prog [PF.raw Tryz.prog] [] ay 149 Tryz.f149 Tryz.func149 (fun c _=>LOk.nil c) Fm (by
 intro vs es r h;unfold Fm at h;split at h
 ·cases h;kernel_rfl
 ·cases h)
def Pp:List (Int×Int):= []
def Fo:List SV→List Entry→Option Out
 | [.one ⟨false,[.val (.slice (some b) 0 c)]⟩],[]=>some ⟨(.one ⟨false,[(.ref 0)]⟩),[],[(.row true 173 amT (Pp))],[true]⟩
 |_,_=>none
def Pf:PF Tryz.prog:=PF.ofG Tryz.prog [] [] ay 149 Tryz.f149 Tryz.func149 (fun c _=>LOk.nil c) Fo (by
 intro vs es r h;unfold Fo at h;split at h
 ·cases h;kernel_rfl
 ·cases h)
def Ru(x0:List (Int×Int)):Bool:=allT [ltN (0:Nat) x0.length,false||leN ((0:Nat) + List.length x0) (9223372036854775807:Nat),false||leN (((0:Nat) + List.length x0) * (16:Nat)) (140737488355328:Nat)]
def Hh:List SV→List Entry→Option Out
 | [.one ⟨false,[.ref 0]⟩],[.row false 176 (.pair (.int .i64) (.int .i64)) x0]=>some ⟨(.one ⟨false,[(.ref 1)]⟩),[(.row false 176 amT x0)],[(.row true 176 amT x0)],[(Ru x0)]⟩
 |_,_=>none
def Rl:PF Tryz.prog:=PF.ofG Tryz.prog [] [] ay 150 Tryz.f150 Tryz.func150 (fun c _=>LOk.nil c) Hh (by
 intro vs es r h;unfold Hh at h;split at h
 ·cases h;kernel_rfl
 ·cases h)
def Pm:List (Int×Int):= []
def Fk:List SV→List Entry→Option Out
 | [.one ⟨false,[.val (.slice none 0 0)]⟩],[]=>some ⟨(.one ⟨false,[(.ref 0)]⟩),[],[(.row true 176 amT (Pm))],[true]⟩
 |_,_=>none
def Pa:PF Tryz.prog:=PF.ofG Tryz.prog [PF.raw Tryz.prog] [] ay 150 Tryz.f150 Tryz.func150 (fun c _=>LOk.nil c) Fk (by
 intro vs es r h;unfold Fk at h;split at h
 ·cases h;kernel_rfl
 ·cases h)
def Pn:List (Int×Int):= []
def Fl:List SV→List Entry→Option Out
 | [.one ⟨false,[.val (.slice (some b) 0 c)]⟩],[]=>some ⟨(.one ⟨false,[(.ref 0)]⟩),[],[(.row true 176 amT (Pn))],[true]⟩
 |_,_=>none
def Pb:PF Tryz.prog:=PF.ofG Tryz.prog [] [] ay 150 Tryz.f150 Tryz.func150 (fun c _=>LOk.nil c) Fl (by
 intro vs es r h;unfold Fl at h;split at h
 ·cases h;kernel_rfl
 ·cases h)
end Go.SX

namespace Go.SX
open Go.RowKit Go.Proofs
set_option maxRecDepth 100000
theorem ajr{n:Nat}(h2:0 < n)(h1:n≤1048576):allT [ltN 0 n,false||leN (0 + n) 9223372036854775807,false||leN ((0 + n) * 24) 140737488355328]=true:=by
 rw [dK h2,hY (by omega),hY (by omega)];rfl
theorem ajq{n:Nat}(h2:0 < n)(h1:n≤1048576):allT [ltN 0 n,false||leN (0 + n) 9223372036854775807,false||leN ((0 + n) * 16) 140737488355328]=true:=by
 rw [dK h2,hY (by omega),hY (by omega)];rfl
theorem aev(x0:List (Int×(Int×Int)))(h:leN x0.length 1048576=true)(mem:Nat→Option Obj)(ρ:Nm)(w:World)(hp:HpL w mem [.row false 169 (.pair (.int .i64) (.pair (.int .i64) (.int .i64))) x0] ρ w):
  Calls Tryz.prog 147 ([SV.one ⟨false,[.ref 0]⟩].map (SV.conc ρ)).toArray w fun en w'=> ∃ ρ':Nm,Ext (memB w mem) (fun i=>Nat.blt i 1) ρ ρ'∧en= .returned ((SV.one ⟨false,[.ref 1]⟩).conc ρ')∧
   HpL w mem [.row false 169 (.pair (.int .i64) (.pair (.int .i64) (.int .i64))) x0,.row true 169 (.pair (.int .i64) (.pair (.int .i64) (.int .i64))) x0] ρ' w':=
 TF (t:=(.pair (.int .i64) (.pair (.int .i64) (.int .i64)))) KL IY IZ rfl rfl rfl ⟨_,rfl,fun b hb=>(by simp at hb;exact hb)⟩ (fun _ _=>⟨_,rfl,fun b hb=>(by simp at hb;exact hb)⟩) x0
  (fun hne=>⟨_,rfl,fun b hb=>(by
   have h1:=eP.1 h
   have h2:0 < x0.length:=by cases x0 with
    |nil=>exact(hne rfl).elim
    |cons y r=>exact Nat.succ_pos _
   rw [List.mem_singleton]at hb;subst hb
   exact ajr h2 h1)⟩) mem ρ w hp
def AV:List SV→List Entry→Option Out
 | [.one ⟨false,[.ref 0]⟩],[.row false 169 (.pair (.int .i64) (.pair (.int .i64) (.int .i64))) x0]=>some ⟨.one ⟨false,[.ref 1]⟩,[.row false 169 (.pair (.int .i64) (.pair (.int .i64) (.int .i64))) x0],[.row true 169 (.pair (.int .i64) (.pair (.int .i64) (.int .i64))) x0],[leN x0.length 1048576]⟩
 |_,_=>none
def gC:PF Tryz.prog where
 k:=147
 F:=AV
 ok:=by
  intro args es o h hnd mem ρ w hp
  unfold AV at h;split at h
  ·rename_i x0
   cases h
   refine(aev x0 (hnd _ (List.mem_singleton.2 rfl)) mem ρ w hp).mono fun en w' ⟨ρ1,hx,he,hh⟩=>⟨ρ1,hx,he,rfl,?_,hh⟩
   intro c hc
   simp at hc;subst hc;rfl
  ·cases h
theorem agG(x0:List (Int×(Int×Int)))(h:leN x0.length 1048576=true)(mem:Nat→Option Obj)(ρ:Nm)(w:World)(hp:HpL w mem [.row false 100 (.pair (.int .i64) (.pair (.int .i64) (.int .i64))) x0] ρ w):
  Calls Tryz.prog 148 ([SV.one ⟨false,[.ref 0]⟩].map (SV.conc ρ)).toArray w fun en w'=> ∃ ρ':Nm,Ext (memB w mem) (fun i=>Nat.blt i 1) ρ ρ'∧en= .returned ((SV.one ⟨false,[.ref 1]⟩).conc ρ')∧
   HpL w mem [.row false 100 (.pair (.int .i64) (.pair (.int .i64) (.int .i64))) x0,.row true 100 (.pair (.int .i64) (.pair (.int .i64) (.int .i64))) x0] ρ' w':=
 TF (t:=(.pair (.int .i64) (.pair (.int .i64) (.int .i64)))) MJ KJ KK rfl rfl rfl ⟨_,rfl,fun b hb=>(by simp at hb;exact hb)⟩ (fun _ _=>⟨_,rfl,fun b hb=>(by simp at hb;exact hb)⟩) x0
  (fun hne=>⟨_,rfl,fun b hb=>(by
   have h1:=eP.1 h
   have h2:0 < x0.length:=by cases x0 with
    |nil=>exact(hne rfl).elim
    |cons y r=>exact Nat.succ_pos _
   rw [List.mem_singleton]at hb;subst hb
   exact ajr h2 h1)⟩) mem ρ w hp
def Dd:List SV→List Entry→Option Out
 | [.one ⟨false,[.ref 0]⟩],[.row false 100 (.pair (.int .i64) (.pair (.int .i64) (.int .i64))) x0]=>some ⟨.one ⟨false,[.ref 1]⟩,[.row false 100 (.pair (.int .i64) (.pair (.int .i64) (.int .i64))) x0],[.row true 100 (.pair (.int .i64) (.pair (.int .i64) (.int .i64))) x0],[leN x0.length 1048576]⟩
 |_,_=>none
def il:PF Tryz.prog where
 k:=148
 F:=Dd
 ok:=by
  intro args es o h hnd mem ρ w hp
  unfold Dd at h;split at h
  ·rename_i x0
   cases h
   refine(agG x0 (hnd _ (List.mem_singleton.2 rfl)) mem ρ w hp).mono fun en w' ⟨ρ1,hx,he,hh⟩=>⟨ρ1,hx,he,rfl,?_,hh⟩
   intro c hc
   simp at hc;subst hc;rfl
  ·cases h
theorem ak8(x0:List (Int×Int))(h:leN x0.length 1048576=true)(mem:Nat→Option Obj)(ρ:Nm)(w:World)(hp:HpL w mem [.row false 173 (.pair (.int .i64) (.int .i64)) x0] ρ w):
  Calls Tryz.prog 149 ([SV.one ⟨false,[.ref 0]⟩].map (SV.conc ρ)).toArray w fun en w'=> ∃ ρ':Nm,Ext (memB w mem) (fun i=>Nat.blt i 1) ρ ρ'∧en= .returned ((SV.one ⟨false,[.ref 1]⟩).conc ρ')∧
   HpL w mem [.row false 173 (.pair (.int .i64) (.int .i64)) x0,.row true 173 (.pair (.int .i64) (.int .i64)) x0] ρ' w':=
 TF (t:=(.pair (.int .i64) (.int .i64))) Rm Pc Pf rfl rfl rfl ⟨_,rfl,fun b hb=>(by simp at hb;exact hb)⟩ (fun _ _=>⟨_,rfl,fun b hb=>(by simp at hb;exact hb)⟩) x0
  (fun hne=>⟨_,rfl,fun b hb=>(by
   have h1:=eP.1 h
   have h2:0 < x0.length:=by cases x0 with
    |nil=>exact(hne rfl).elim
    |cons y r=>exact Nat.succ_pos _
   rw [List.mem_singleton]at hb;subst hb
   exact ajq h2 h1)⟩) mem ρ w hp
def Hl:List SV→List Entry→Option Out
 | [.one ⟨false,[.ref 0]⟩],[.row false 173 (.pair (.int .i64) (.int .i64)) x0]=>some ⟨.one ⟨false,[.ref 1]⟩,[.row false 173 (.pair (.int .i64) (.int .i64)) x0],[.row true 173 (.pair (.int .i64) (.int .i64)) x0],[leN x0.length 1048576]⟩
 |_,_=>none
def lm:PF Tryz.prog where
 k:=149
 F:=Hl
 ok:=by
  intro args es o h hnd mem ρ w hp
  unfold Hl at h;split at h
  ·rename_i x0
   cases h
   refine(ak8 x0 (hnd _ (List.mem_singleton.2 rfl)) mem ρ w hp).mono fun en w' ⟨ρ1,hx,he,hh⟩=>⟨ρ1,hx,he,rfl,?_,hh⟩
   intro c hc
   simp at hc;subst hc;rfl
  ·cases h
theorem ak7(x0:List (Int×Int))(h:leN x0.length 1048576=true)(mem:Nat→Option Obj)(ρ:Nm)(w:World)(hp:HpL w mem [.row false 176 (.pair (.int .i64) (.int .i64)) x0] ρ w):
  Calls Tryz.prog 150 ([SV.one ⟨false,[.ref 0]⟩].map (SV.conc ρ)).toArray w fun en w'=> ∃ ρ':Nm,Ext (memB w mem) (fun i=>Nat.blt i 1) ρ ρ'∧en= .returned ((SV.one ⟨false,[.ref 1]⟩).conc ρ')∧
   HpL w mem [.row false 176 (.pair (.int .i64) (.int .i64)) x0,.row true 176 (.pair (.int .i64) (.int .i64)) x0] ρ' w':=
 TF (t:=(.pair (.int .i64) (.int .i64))) Rl Pa Pb rfl rfl rfl ⟨_,rfl,fun b hb=>(by simp at hb;exact hb)⟩ (fun _ _=>⟨_,rfl,fun b hb=>(by simp at hb;exact hb)⟩) x0
  (fun hne=>⟨_,rfl,fun b hb=>(by
   have h1:=eP.1 h
   have h2:0 < x0.length:=by cases x0 with
    |nil=>exact(hne rfl).elim
    |cons y r=>exact Nat.succ_pos _
   rw [List.mem_singleton]at hb;subst hb
   exact ajq h2 h1)⟩) mem ρ w hp
def Hk:List SV→List Entry→Option Out
 | [.one ⟨false,[.ref 0]⟩],[.row false 176 (.pair (.int .i64) (.int .i64)) x0]=>some ⟨.one ⟨false,[.ref 1]⟩,[.row false 176 (.pair (.int .i64) (.int .i64)) x0],[.row true 176 (.pair (.int .i64) (.int .i64)) x0],[leN x0.length 1048576]⟩
 |_,_=>none
def ll:PF Tryz.prog where
 k:=150
 F:=Hk
 ok:=by
  intro args es o h hnd mem ρ w hp
  unfold Hk at h;split at h
  ·rename_i x0
   cases h
   refine(ak7 x0 (hnd _ (List.mem_singleton.2 rfl)) mem ρ w hp).mono fun en w' ⟨ρ1,hx,he,hh⟩=>⟨ρ1,hx,he,rfl,?_,hh⟩
   intro c hc
   simp at hc;subst hc;rfl
  ·cases h
end Go.SX

namespace Go.SX
open Go.Proofs
set_option maxRecDepth 100000
section
variable (x3 x4 x5 x6 x7 x8:Int)(x9:Bool)(x10:List Int)(x12:List (List Int))
def pO:Bool:=bif x5==(0:Int)then bif x6==(0:Int)then true else false else false
def pP:Bool:=bif x7==(0:Int)then bif x8==(0:Int)then bif x9==false then true else false else false else false
def jK:Bool:=bif x3==(0:Int)then bif bif GC x10 x4 then pO x5 x6 else false then pP x7 x8 x9 else false else bif x3==(1:Int)then bif bif GC x10 x4 then rsB (cJ (bif GC x10 x4&&true then Option.getD x12[Int.toNat (0:Int)]? (vD (CTy.sl (2:Nat) amU))else [])) x5 x6 else false then pP x7 x8 x9 else false else bif x3==(2:Int)then bif bif x4==(0:Int)then pO x5 x6 else false then abx x7 x8 else false else false
def jL:Bool:=allT [!x3==(0:Int)||leN x10.length (9223372036854775807:Nat),x3==(0:Int)||(!x3==(1:Int)||leN x10.length (9223372036854775807:Nat)),x3==(0:Int)||(!x3==(1:Int)||(!(GC x10 x4&&true)||leI (0:Int) (0:Int))),x3==(0:Int)||(!x3==(1:Int)||(!(GC x10 x4&&true)||ltI (0:Int) (↑x12.length:Int))),x3==(0:Int)||(!x3==(1:Int)||(!(GC x10 x4&&true)||ltN (Int.toNat (0:Int)) x12.length))]
end
def p9:List SV→List Entry→Option Out
 | [(.one ⟨true,[(.val (.int .i64 _x0)),(.ref 0),(.ref 1),(.ref 2),(.ref 3),(.val (.int .i64 _x1)),(.ref 4),(.ref 5),(.val (.int .i64 _x2))]⟩),(.one ⟨true,[(.val (.int .i64 x3)),(.val (.int .i64 x4)),(.val (.int .i64 x5)),(.val (.int .i64 x6)),(.val (.int .i64 x7)),(.val (.int .i64 x8)),(.val (.bool x9))]⟩)],[(.row false 2 (.int .i64) x10),(.row false 169 (.pair (.int .i64) (.pair (.int .i64) (.int .i64))) x11),(.row false 24 (.sl 2 (.int .i64)) x12),(.row false 100 (.pair (.int .i64) (.pair (.int .i64) (.int .i64))) x13),(.row false 173 (.pair (.int .i64) (.int .i64)) x14),(.row false 176 (.pair (.int .i64) (.int .i64)) x15)]=>some ⟨(.one ⟨false,[(.val (.bool (jK x3 x4 x5 x6 x7 x8 x9 x10 x12)))]⟩),[(.row false 2 amU x10),(.row false 169 amS x11),(.row false 24 (CTy.sl (2:Nat) amU) x12),(.row false 100 amS x13),(.row false 173 amT x14),(.row false 176 amT x15)],[],[(jL x3 x4 x10 x12)]⟩
 |_,_=>none
def jN:PF Tryz.prog:=PF.ofG Tryz.prog [kb,PF.lend kb,PF.fz kb,TV,acQ,aG,PF.lend aG,PF.fz aG] [] ay 99 Tryz.f99 Tryz.func99 (fun c _=>LOk.nil c) p9 (by
 intro vs es r h;unfold p9 at h;split at h
 ·cases h;kernel_rfl
 ·cases h)
def tC(x0 x1 x2 x3 x4 x5:Int)(x6:Bool)(x10:List Int)(x12:List (List Int)):Bool:= !jK x0 x1 x2 x3 x4 x5 x6 x10 x12
def AD(x0 x1:Int)(x10:List Int)(x12:List (List Int)):Bool:=allT [jL x0 x1 x10 x12]
def Hg:List SV→List Entry→Option Out
 | [(.one ⟨true,[(.val (.int .i64 x0)),(.val (.int .i64 x1)),(.val (.int .i64 x2)),(.val (.int .i64 x3)),(.val (.int .i64 x4)),(.val (.int .i64 x5)),(.val (.bool x6))]⟩),(.one ⟨false,[(.ptr 0 0)]⟩)],[(.box 33 [(.val (.int .i64 x7)),(.ref 1),(.ref 2),(.ref 3),(.ref 4),(.val (.int .i64 x8)),(.ref 5),(.ref 6),(.val (.int .i64 x9))]),(.row false 2 (.int .i64) x10),(.row false 169 (.pair (.int .i64) (.pair (.int .i64) (.int .i64))) x11),(.row false 24 (.sl 2 (.int .i64)) x12),(.row false 100 (.pair (.int .i64) (.pair (.int .i64) (.int .i64))) x13),(.row false 173 (.pair (.int .i64) (.int .i64)) x14),(.row false 176 (.pair (.int .i64) (.int .i64)) x15)]=>some ⟨(.one ⟨false,[(.val (.bool (tC x0 x1 x2 x3 x4 x5 x6 x10 x12)))]⟩),[(.box 33 [(.val (.int .i64 x7)),(.ref 1),(.ref 2),(.ref 3),(.ref 4),(.val (.int .i64 x8)),(.ref 5),(.ref 6),(.val (.int .i64 x9))]),(.row false 2 amU x10),(.row false 169 amS x11),(.row false 24 (CTy.sl (2:Nat) amU) x12),(.row false 100 amS x13),(.row false 173 amT x14),(.row false 176 amT x15)],[],[(AD x0 x1 x10 x12)]⟩
 |_,_=>none
def ln:PF Tryz.prog:=PF.ofG Tryz.prog [jN,PF.lend jN,PF.fz jN] [] ay 145 Tryz.f145 Tryz.func145 (fun c _=>LOk.nil c) Hg (by
 intro vs es r h;unfold Hg at h;split at h
 ·cases h;kernel_rfl
 ·cases h)
abbrev aS:=Int×Int×Int×Int×Int×List (Int×(Int×((Int×Int)×(Int×(Int×Bool)))))×List Int×List (Int×(Int×Int))×List (List Int)×List (Int×(Int×Int))×List (Int×Int)×List (Int×Int)
def cB(y0:Int)(y5:List (Int×(Int×((Int×Int)×(Int×(Int×Bool)))))):Int×Int×(Int×Int)×Int×Int×Bool:=Option.getD y5[Int.toNat y0]? ((0:Int),(0:Int),((0:Int),(0:Int)),(0:Int),(0:Int),false)
def cC(y0:Int)(y5:List (Int×(Int×((Int×Int)×(Int×(Int×Bool)))))):Int:=(cB y0 y5).1
def cD(y0:Int)(y5:List (Int×(Int×((Int×Int)×(Int×(Int×Bool)))))):Int×(Int×Int)×Int×Int×Bool:=(cB y0 y5).2
def cE(y0:Int)(y5:List (Int×(Int×((Int×Int)×(Int×(Int×Bool)))))):Int:=(cD y0 y5).1
def bw(y0:Int)(y5:List (Int×(Int×((Int×Int)×(Int×(Int×Bool)))))):(Int×Int)×Int×Int×Bool:=(cD y0 y5).2
def cF(y0:Int)(y5:List (Int×(Int×((Int×Int)×(Int×(Int×Bool)))))):Int×Bool:=(bw y0 y5).2.2
def eF(y0 y1:Int):Bool:=ltI y0 y1
def eG(y0:Int):Bool:=leI (0:Int) y0
def eH(y0:Int)(y5:List (Int×(Int×((Int×Int)×(Int×(Int×Bool)))))):Bool:=ltI y0 (↑y5.length:Int)
def eI(y0:Int)(y5:List (Int×(Int×((Int×Int)×(Int×(Int×Bool)))))):Bool:=ltN y0.toNat y5.length
def eJ(y0:Int)(y5:List (Int×(Int×((Int×Int)×(Int×(Int×Bool))))))(y6:List Int)(y8:List (List Int)):Bool:=AD (cC y0 y5) (cE y0 y5) y6 y8
def eK(y0:Int)(y5:List (Int×(Int×((Int×Int)×(Int×(Int×Bool))))))(y6:List Int)(y8:List (List Int)):Bool:=tC (cC y0 y5) (cE y0 y5) ((bw y0 y5).1.1) ((bw y0 y5).1.2) (((bw y0 y5).2).1) ((cF y0 y5).1) ((cF y0 y5).2) y6 y8
def eL(y0:Int):Int:=IntKind.wrap .i64 (y0 + (1:Int))
def Dg:aS→List (Nat×SV)
 |(y0,y1,_,_,_,_,_,_,_,_,_,_)=> [(8,(.one ⟨false,[(.val (.int .i64 y0))]⟩)),(7,(.one ⟨false,[(.val (.int .i64 y1))]⟩)),(1,(.one ⟨false,[(.clo 145 [0])]⟩)),(0,(.one ⟨false,[(.ref 1)]⟩))]
def Df:aS→List (Nat×Entry)
 |(_,_,y2,y3,y4,y5,y6,y7,y8,y9,y10,y11)=> [(0,(.box 33 [(.val (.int .i64 y2)),(.ref 2),(.ref 3),(.ref 4),(.ref 5),(.val (.int .i64 y3)),(.ref 6),(.ref 7),(.val (.int .i64 y4))])),(1,(.row false 49 amR y5)),(2,(.row false 2 amU y6)),(3,(.row false 169 amS y7)),(4,(.row false 24 (CTy.sl (2:Nat) amU) y8)),(5,(.row false 100 amS y9)),(6,(.row false 173 amT y10)),(7,(.row false 176 amT y11))]
def Di:Nat→aS→List (Nat×SV)
 |0,(y0,_,_,_,_,_,_,_,_,_,_,_)=> [(4,(.one ⟨false,[(.val (.int .i64 y0))]⟩))]
 |_,(_,_,_,_,_,_,_,_,_,_,_,_)=> []
def Dh:Nat→aS→List (Nat×Entry)
 |0,(_,_,y2,y3,y4,y5,y6,y7,y8,y9,y10,y11)=> [(0,(.box 33 [(.val (.int .i64 y2)),(.ref 2),(.ref 3),(.ref 4),(.ref 5),(.val (.int .i64 y3)),(.ref 6),(.ref 7),(.val (.int .i64 y4))])),(1,(.row false 49 amR y5)),(2,(.row false 2 amU y6)),(3,(.row false 169 amS y7)),(4,(.row false 24 (CTy.sl (2:Nat) amU) y8)),(5,(.row false 100 amS y9)),(6,(.row false 173 amT y10)),(7,(.row false 176 amT y11))]
 |_,(_,_,y2,y3,y4,y5,y6,y7,y8,y9,y10,y11)=> [(0,(.box 33 [(.val (.int .i64 y2)),(.ref 2),(.ref 3),(.ref 4),(.ref 5),(.val (.int .i64 y3)),(.ref 6),(.ref 7),(.val (.int .i64 y4))])),(1,(.row false 49 amR y5)),(2,(.row false 2 amU y6)),(3,(.row false 169 amS y7)),(4,(.row false 24 (CTy.sl (2:Nat) amU) y8)),(5,(.row false 100 amS y9)),(6,(.row false 173 amT y10)),(7,(.row false 176 amT y11))]
def ed:aS→LT aS
 |(y0,y1,y2,y3,y4,y5,y6,y7,y8,y9,y10,y11)=> .ite (eF y0 y1) (.need [(eG y0),(eH y0 y5),(eI y0 y5),(eJ y0 y5 y6 y8)] (.ite (eK y0 y5 y6 y8) (.ext 0 [(0,0),(1,1),(2,2),(3,3),(4,4),(5,5),(6,6),(7,7)]) (.nrm ((eL y0),y1,y2,y3,y4,y5,y6,y7,y8,y9,y10,y11) [(0,0),(1,1),(2,2),(3,3),(4,4),(5,5),(6,6),(7,7)]))) (.ext 1 [(0,0),(1,1),(2,2),(3,3),(4,4),(5,5),(6,6),(7,7)])
def kz(s:St):Option aS:=
 (match s.look 8 with
 |some ⟨none,(.one ⟨false,[(.val (.int .i64 y0))]⟩)⟩=>
 (match s.look 7 with
 |some ⟨none,(.one ⟨false,[(.val (.int .i64 y1))]⟩)⟩=>
 (match s.look 1 with
 |some ⟨none,(.one ⟨false,[(.clo 145 [1])]⟩)⟩=>
 (match s.look 0 with
 |some ⟨none,(.one ⟨false,[(.ref 0)]⟩)⟩=>
 (match s.ent 1 with
 |some (.box 33 [(.val (.int .i64 y2)),(.ref 2),(.ref 3),(.ref 4),(.ref 5),(.val (.int .i64 y3)),(.ref 6),(.ref 7),(.val (.int .i64 y4))])=>
 (match s.ent 0 with
 |some (.row false 49 (.pair (.int .i64) (.pair (.int .i64) (.pair (.pair (.int .i64) (.int .i64)) (.pair (.int .i64) (.pair (.int .i64) .bool))))) y5)=>
 (match s.ent 2 with
 |some (.row false 2 (.int .i64) y6)=>
 (match s.ent 3 with
 |some (.row false 169 (.pair (.int .i64) (.pair (.int .i64) (.int .i64))) y7)=>
 (match s.ent 4 with
 |some (.row false 24 (.sl 2 (.int .i64)) y8)=>
 (match s.ent 5 with
 |some (.row false 100 (.pair (.int .i64) (.pair (.int .i64) (.int .i64))) y9)=>
 (match s.ent 6 with
 |some (.row false 173 (.pair (.int .i64) (.int .i64)) y10)=>
 (match s.ent 7 with
 |some (.row false 176 (.pair (.int .i64) (.int .i64)) y11)=>
 some (y0,y1,y2,y3,y4,y5,y6,y7,y8,y9,y10,y11)
 |_=>none)
 |_=>none)
 |_=>none)
 |_=>none)
 |_=>none)
 |_=>none)
 |_=>none)
 |_=>none)
 |_=>none)
 |_=>none)
 |_=>none)
 |_=>none)
def ah:Lp aS where
 h:=⟨[9,10,5,11,12,13,14,15,16,17,4,18,8],[0,1,2,3,4,5,6,7],[],[]⟩
 JL:=Dg
 JE:=Df
 XL:=Di
 XE:=Dh
 q:=fun j=>match j with | 0=> .ret | _=> .exit 0
 tags:= [0,1]
 lt:=ed
 fuel:=fun(y0,y1,y2,y3,y4,y5,y6,y7,y8,y9,y10,y11)=>y0.natAbs + y1.natAbs + y2.natAbs + y3.natAbs + y4.natAbs + y5.length + y6.length + y7.length + y8.length + y9.length + y10.length + y11.length
 fix:=fun(_,y1,y2,y3,y4,y5,y6,y7,y8,y9,y10,y11) (y0,_,_,_,_,_,_,_,_,_,_,_)=>(y0,y1,y2,y3,y4,y5,y6,y7,y8,y9,y10,y11)
 σ:= [(0,1),(1,0),(2,2),(3,3),(4,4),(5,5),(6,6),(7,7)]
 rd:=kz
theorem BG:LoopOk Tryz.prog (fun k=>Nat.blt k Tryz.f200.ntmps) ah.F (aD Tryz.f200 0):=by
 refine Lp.ok (tbl:= [ln,PF.lend ln,PF.fz ln]) (lf:= []) ay ah (by kernel_rfl) (LOk.nil _) (fun _=>rfl) (fun j _=>by unfold ah;match j with | 0=>rfl | _ + 1=>rfl) ?_ ?_ ?_ ?_ (fun _=>rfl) ?_
 ·intro x;obtain⟨y0,y1,y2,y3,y4,y5,y6,y7,y8,y9,y10,y11⟩:=x;kernel_rfl
 ·intro x;obtain⟨y0,y1,y2,y3,y4,y5,y6,y7,y8,y9,y10,y11⟩:=x;kernel_rfl
 ·intro s x h
  have h:kz s=some x:=h
  unfold kz at h
  repeat' split at h
  all_goals cases h
  exact⟨aa (by assumption) rfl (aa (by assumption) rfl (aa (by assumption) rfl (aa (by assumption) rfl (rfl)))),ac rfl (by assumption) rfl (ac rfl (by assumption) rfl (ac rfl (by assumption) rfl (ac rfl (by assumption) rfl (ac rfl (by assumption) rfl (ac rfl (by assumption) rfl (ac rfl (by assumption) rfl (ac rfl (by assumption) rfl (rfl))))))))⟩
 ·intro x;obtain⟨y0,y1,y2,y3,y4,y5,y6,y7,y8,y9,y10,y11⟩:=x;kernel_rfl
 ·intro x z;obtain⟨y0,y1,y2,y3,y4,y5,y6,y7,y8,y9,y10,y11⟩:=x;exact(And.intro (And.intro trivial rfl) trivial)
section
variable (x0:List (Int×Int×(Int×Int)×Int×Int×Bool))(x1 x2 x3:Int)(x4:List Int)(x5:List (Int×Int×Int))(x6:List (List Int))(x7:List (Int×Int×Int))(x8 x9:List (Int×Int))
def fD:Int×Int×Int×Int×Int×List (Int×Int×(Int×Int)×Int×Int×Bool)×List Int×List (Int×Int×Int)×List (List Int)×List (Int×Int×Int)×List (Int×Int)×List (Int×Int):=((0:Int),(↑x0.length:Int),x1,x2,x3,x0,x4,x5,x6,x7,x8,x9)
def fE:Bool:=Nat.beq ((Lp.res ah (fD x0 x1 x2 x3 x4 x5 x6 x7 x8 x9)).1) (0:Nat)
def nc:Int:=bif fE x0 x1 x2 x3 x4 x5 x6 x7 x8 x9 then ((Lp.res ah (fD x0 x1 x2 x3 x4 x5 x6 x7 x8 x9)).2).1else(-1:Int)
def um:Int:=bif fE x0 x1 x2 x3 x4 x5 x6 x7 x8 x9 then x1 else x1
def uo:Int:=bif fE x0 x1 x2 x3 x4 x5 x6 x7 x8 x9 then x2 else x2
def uq:Int:=bif fE x0 x1 x2 x3 x4 x5 x6 x7 x8 x9 then x3 else x3
def ne:Bool:=allT [Lp.fin ah (fD x0 x1 x2 x3 x4 x5 x6 x7 x8 x9)]
end
def tF:List SV→List Entry→Option Out
 | [(.one ⟨false,[(.ref 0)]⟩),(.one ⟨false,[(.clo 145 [1])]⟩)],[(.row false 49 (.pair (.int .i64) (.pair (.int .i64) (.pair (.pair (.int .i64) (.int .i64)) (.pair (.int .i64) (.pair (.int .i64) .bool))))) x0),(.box 33 [(.val (.int .i64 x1)),(.ref 2),(.ref 3),(.ref 4),(.ref 5),(.val (.int .i64 x2)),(.ref 6),(.ref 7),(.val (.int .i64 x3))]),(.row false 2 (.int .i64) x4),(.row false 169 (.pair (.int .i64) (.pair (.int .i64) (.int .i64))) x5),(.row false 24 (.sl 2 (.int .i64)) x6),(.row false 100 (.pair (.int .i64) (.pair (.int .i64) (.int .i64))) x7),(.row false 173 (.pair (.int .i64) (.int .i64)) x8),(.row false 176 (.pair (.int .i64) (.int .i64)) x9)]=>some ⟨(.one ⟨false,[(.val (.int .i64 (nc x0 x1 x2 x3 x4 x5 x6 x7 x8 x9)))]⟩),[(.row false 49 amR x0),(.box 33 [(.val (.int .i64 (um x0 x1 x2 x3 x4 x5 x6 x7 x8 x9))),(.ref 2),(.ref 3),(.ref 4),(.ref 5),(.val (.int .i64 (uo x0 x1 x2 x3 x4 x5 x6 x7 x8 x9))),(.ref 6),(.ref 7),(.val (.int .i64 (uq x0 x1 x2 x3 x4 x5 x6 x7 x8 x9)))]),(.row false 2 amU x4),(.row false 169 amS x5),(.row false 24 (CTy.sl (2:Nat) amU) x6),(.row false 100 amS x7),(.row false 173 amT x8),(.row false 176 amT x9)],[],[(ne x0 x1 x2 x3 x4 x5 x6 x7 x8 x9)]⟩
 |_,_=>none
def m9:PF Tryz.prog:=PF.ofG Tryz.prog [ln,PF.lend ln,PF.fz ln] [ah.F] ay 200 Tryz.f200 Tryz.func200 (LOk.fnT (l:= [aD Tryz.f200 0]) (by kernel_rfl) (.cons BG (.nil _))) tF (by
 intro vs es r h;unfold tF at h;split at h
 ·cases h;kernel_rfl
 ·cases h)
section
variable (x0:List (Int×Int×(Int×Int)×Int×Int×Bool))(x1 x2 x3:Int)(x4:List Int)(x5:List (Int×Int×Int))(x6:List (List Int))(x7:List (Int×Int×Int))(x8 x9:List (Int×Int))
def gY:Bool:=leI (0:Int) (nc x0 x1 x2 x3 x4 x5 x6 x7 x8 x9)
def DX:Int:=um x0 x1 x2 x3 x4 x5 x6 x7 x8 x9
def DY:Int:=uo x0 x1 x2 x3 x4 x5 x6 x7 x8 x9
def DZ:Int:=uq x0 x1 x2 x3 x4 x5 x6 x7 x8 x9
def kT:Bool:=allT [ne x0 x1 x2 x3 x4 x5 x6 x7 x8 x9]
end
def rV:List SV→List Entry→Option Out
 | [(.one ⟨false,[(.ref 0)]⟩),(.one ⟨false,[(.clo 145 [1])]⟩)],[(.row false 49 (.pair (.int .i64) (.pair (.int .i64) (.pair (.pair (.int .i64) (.int .i64)) (.pair (.int .i64) (.pair (.int .i64) .bool))))) x0),(.box 33 [(.val (.int .i64 x1)),(.ref 2),(.ref 3),(.ref 4),(.ref 5),(.val (.int .i64 x2)),(.ref 6),(.ref 7),(.val (.int .i64 x3))]),(.row false 2 (.int .i64) x4),(.row false 169 (.pair (.int .i64) (.pair (.int .i64) (.int .i64))) x5),(.row false 24 (.sl 2 (.int .i64)) x6),(.row false 100 (.pair (.int .i64) (.pair (.int .i64) (.int .i64))) x7),(.row false 173 (.pair (.int .i64) (.int .i64)) x8),(.row false 176 (.pair (.int .i64) (.int .i64)) x9)]=>some ⟨(.one ⟨false,[(.val (.bool (gY x0 x1 x2 x3 x4 x5 x6 x7 x8 x9)))]⟩),[(.row false 49 amR x0),(.box 33 [(.val (.int .i64 (DX x0 x1 x2 x3 x4 x5 x6 x7 x8 x9))),(.ref 2),(.ref 3),(.ref 4),(.ref 5),(.val (.int .i64 (DY x0 x1 x2 x3 x4 x5 x6 x7 x8 x9))),(.ref 6),(.ref 7),(.val (.int .i64 (DZ x0 x1 x2 x3 x4 x5 x6 x7 x8 x9)))]),(.row false 2 amU x4),(.row false 169 amS x5),(.row false 24 (CTy.sl (2:Nat) amU) x6),(.row false 100 amS x7),(.row false 173 amT x8),(.row false 176 amT x9)],[],[(kT x0 x1 x2 x3 x4 x5 x6 x7 x8 x9)]⟩
 |_,_=>none
def kP:PF Tryz.prog:=PF.ofG Tryz.prog [m9,PF.lend m9,PF.fz m9] [] ay 144 Tryz.f144 Tryz.func144 (fun c _=>LOk.nil c) rV (by
 intro vs es r h;unfold rV at h;split at h
 ·cases h;kernel_rfl
 ·cases h)
section
variable (x0 x1 x2:Int)(x3:List Int)(x4:List (Int×Int×Int))(x5:List (List Int))(x6:List (Int×Int×Int))(x7 x8:List (Int×Int))(x9:List (Int×Int×(Int×Int)×Int×Int×Bool))
def Jr:Bool:=ltI (200:Int) (↑x9.length:Int)
def sQ:Int:=bif !nW x0 x3 x4 x5 x6 x1 x7 x8 x2 then(1:Int)else bif Jr x9 then(3:Int)else bif gY x9 x0 x1 x2 x3 x4 x5 x6 x7 x8 then(2:Int)else(0:Int)
def wz:Bool:=allT [BP (9223372036854775807:Nat) x3 x4 x5 x6 x7 x8,!nW x0 x3 x4 x5 x6 x1 x7 x8 x2||(Jr x9||kT x9 x0 x1 x2 x3 x4 x5 x6 x7 x8)]
end
def RJ:List SV→List Entry→Option Out
 | [.one ⟨true,[.val (.int .i64 x0),.ref 0,.ref 1,.ref 2,.ref 3,.val (.int .i64 x1),.ref 4,.ref 5,.val (.int .i64 x2)]⟩,.one ⟨false,[.ref 6]⟩],[.row false 2 (.int .i64) x3,.row false 169 (.pair (.int .i64) (.pair (.int .i64) (.int .i64))) x4,.row false 24 (.sl 2 (.int .i64)) x5,.row false 100 (.pair (.int .i64) (.pair (.int .i64) (.int .i64))) x6,.row false 173 (.pair (.int .i64) (.int .i64)) x7,.row false 176 (.pair (.int .i64) (.int .i64)) x8,.row false 49 (.pair (.int .i64) (.pair (.int .i64) (.pair (.pair (.int .i64) (.int .i64)) (.pair (.int .i64) (.pair (.int .i64) (.bool)))))) x9]=>some ⟨(.one ⟨false,[(.val (.int .i64 (sQ x0 x1 x2 x3 x4 x5 x6 x7 x8 x9)))]⟩),[(.row false 2 amU x3),(.row false 169 amS x4),(.row false 24 (CTy.sl (2:TypeId) amU) x5),(.row false 100 amS x6),(.row false 173 amT x7),(.row false 176 amT x8),(.row false 49 amR x9)],[],[(wz x0 x1 x2 x3 x4 x5 x6 x7 x8 x9)]⟩
 |_,_=>none
def wG:PF Tryz.prog:=PF.ofG Tryz.prog [Rg,PF.lend Rg,PF.fz Rg,kP,PF.lend kP,PF.fz kP] [] ay 54 Tryz.f54 Tryz.func54 (fun c _=>LOk.nil c) RJ (by
 intro vs es r h;unfold RJ at h;split at h
 ·cases h;kernel_rfl
 ·cases h)
abbrev aT:=Int×Int×List (List Int)×Int×Int×Int×List Int×List (Int×(Int×Int))×List (List Int)×List (Int×(Int×Int))×List (Int×Int)×List (Int×Int)
section
variable (y0 y1:Int)(y2 y8:List (List Int))
def bc:List Int:=Option.getD y2[Int.toNat y0]? (vD (CTy.sl (2:Nat) amU))
def eT:Bool:=ltI y0 y1
def eU:Bool:=leI (0:Int) y0
def eV:Bool:=ltI y0 (↑y2.length:Int)
def eW:Bool:=ltN y0.toNat y2.length
def eY:Bool:=leN (1:Nat) (List.length (bc y0 y2))&&leN (List.length (bc y0 y2)) (1048576:Nat)
def eZ:Bool:=leN (List.length y8 + List.length [bc y0 y2]) (9223372036854775807:Nat)
def fa:Bool:=leN ((List.length y8 + List.length [bc y0 y2]) * (24:Nat)) (140737488355328:Nat)
def fb:Int:=IntKind.wrap .i64 (y0 + (1:Int))
def fc:List (List Int):=y8++ [bc y0 y2]
end
def DP:aT→List (Nat×SV)
 |(y0,y1,_,_,_,_,_,_,_,_,_,_)=> [(31,(.one ⟨false,[(.val (.int .i64 y0))]⟩)),(30,(.one ⟨false,[(.val (.int .i64 y1))]⟩)),(29,(.one ⟨false,[(.ref 0)]⟩)),(3,(.one ⟨false,[(.ptr 1 0)]⟩))]
def DO:aT→List (Nat×Entry)
 |(_,_,y2,y3,y4,y5,y6,y7,y8,y9,y10,y11)=> [(0,(.row false 24 (CTy.sl (2:Nat) amU) y2)),(1,(.box 33 [(.val (.int .i64 y3)),(.ref 2),(.ref 3),(.ref 4),(.ref 5),(.val (.int .i64 y4)),(.ref 6),(.ref 7),(.val (.int .i64 y5))])),(2,(.row true 2 amU y6)),(3,(.row true 169 amS y7)),(5,(.row true 100 amS y9)),(6,(.row true 173 amT y10)),(7,(.row true 176 amT y11)),(4,(.tree 24 (CTy.sl (2:Nat) amU) y8 none))]
def DR:Nat→aT→List (Nat×SV)
 |_,(_,_,_,_,_,_,_,_,_,_,_,_)=> []
def DQ:Nat→aT→List (Nat×Entry)
 |_,(_,_,y2,y3,y4,y5,y6,y7,y8,y9,y10,y11)=> [(0,(.row false 24 (CTy.sl (2:Nat) amU) y2)),(1,(.box 33 [(.val (.int .i64 y3)),(.ref 2),(.ref 3),(.ref 4),(.ref 5),(.val (.int .i64 y4)),(.ref 6),(.ref 7),(.val (.int .i64 y5))])),(2,(.row true 2 amU y6)),(3,(.row true 169 amS y7)),(4,(.tree 24 (CTy.sl (2:Nat) amU) y8 none)),(5,(.row true 100 amS y9)),(6,(.row true 173 amT y10)),(7,(.row true 176 amT y11))]
def eE:aT→LT aT
 |(y0,y1,y2,y3,y4,y5,y6,y7,y8,y9,y10,y11)=> .ite (eT y0 y1) (.need [(eU y0),(eV y0 y2),(eW y0 y2)] (.need [(eY y0 y2),(eZ y0 y2 y8),(fa y0 y2 y8)] (.nrm ((fb y0),y1,y2,y3,y4,y5,y6,y7,(fc y0 y2 y8),y9,y10,y11) [(0,0),(1,1),(2,2),(3,3),(4,640),(5,5),(6,6),(7,7)]))) (.ext 0 [(0,0),(1,1),(2,2),(3,3),(4,4),(5,5),(6,6),(7,7)])
def kS(s:St):Option aT:=
 (match s.look 31 with
 |some ⟨none,(.one ⟨false,[(.val (.int .i64 y0))]⟩)⟩=>
 (match s.look 30 with
 |some ⟨none,(.one ⟨false,[(.val (.int .i64 y1))]⟩)⟩=>
 (match s.look 29 with
 |some ⟨none,(.one ⟨false,[(.ref 2)]⟩)⟩=>
 (match s.look 3 with
 |some ⟨none,(.one ⟨false,[(.ptr 640 0)]⟩)⟩=>
 (match s.ent 2 with
 |some (.row false 24 (.sl 2 (.int .i64)) y2)=>
 (match s.ent 640 with
 |some (.box 33 [(.val (.int .i64 y3)),(.ref 896),(.ref 1216),(.ref 2432),(.ref 1408),(.val (.int .i64 y4)),(.ref 1856),(.ref 2048),(.val (.int .i64 y5))])=>
 (match s.ent 896 with
 |some (.row true 2 (.int .i64) y6)=>
 (match s.ent 1216 with
 |some (.row true 169 (.pair (.int .i64) (.pair (.int .i64) (.int .i64))) y7)=>
 (match s.ent 1408 with
 |some (.row true 100 (.pair (.int .i64) (.pair (.int .i64) (.int .i64))) y9)=>
 (match s.ent 1856 with
 |some (.row true 173 (.pair (.int .i64) (.int .i64)) y10)=>
 (match s.ent 2048 with
 |some (.row true 176 (.pair (.int .i64) (.int .i64)) y11)=>
 (match s.ent 2432 with
 |some (.tree 24 (.sl 2 (.int .i64)) y8 none)=>
 some (y0,y1,y2,y3,y4,y5,y6,y7,y8,y9,y10,y11)
 |_=>none)
 |_=>none)
 |_=>none)
 |_=>none)
 |_=>none)
 |_=>none)
 |_=>none)
 |_=>none)
 |_=>none)
 |_=>none)
 |_=>none)
 |_=>none)
def ar:Lp aT where
 h:=⟨[32,33,34,5,35,36,37,38,39,40,41,42,31],[0,1,2,3,5,6,7],[4],[]⟩
 JL:=DP
 JE:=DO
 XL:=DR
 XE:=DQ
 q:=fun j=>match j with | _=> .exit 0
 tags:= [0]
 lt:=eE
 fuel:=fun(y0,y1,y2,y3,y4,y5,y6,y7,y8,y9,y10,y11)=>y0.natAbs + y1.natAbs + y2.length + y3.natAbs + y4.natAbs + y5.natAbs + y6.length + y7.length + y8.length + y9.length + y10.length + y11.length
 fix:=fun(_,y1,y2,y3,y4,y5,y6,y7,_,y9,y10,y11) (y0,_,_,_,_,_,_,_,y8,_,_,_)=>(y0,y1,y2,y3,y4,y5,y6,y7,y8,y9,y10,y11)
 σ:= [(0,2),(1,640),(2,896),(3,1216),(5,1408),(6,1856),(7,2048),(4,2432)]
 rd:=kS
theorem CY:LoopOk Tryz.prog (fun k=>Nat.blt k Tryz.f55.ntmps) ar.F (aD Tryz.f55 0):=by
 refine Lp.ok (tbl:= [PF.trees Tryz.prog,bj,PF.lend bj,PF.fz bj,gC,PF.lend gC,PF.fz gC,il,PF.lend il,PF.fz il,lm,PF.lend lm,PF.fz lm,ll,PF.lend ll,PF.fz ll,ai,PF.lend ai,PF.fz ai]) (lf:= []) ay ar (by kernel_rfl) (LOk.nil _) (fun _=>rfl) (fun _ _=>rfl) ?_ ?_ ?_ ?_ (fun _=>rfl) ?_
 ·intro x;obtain⟨y0,y1,y2,y3,y4,y5,y6,y7,y8,y9,y10,y11⟩:=x;kernel_rfl
 ·intro x;obtain⟨y0,y1,y2,y3,y4,y5,y6,y7,y8,y9,y10,y11⟩:=x;kernel_rfl
 ·intro s x h
  have h:kS s=some x:=h
  unfold kS at h
  repeat' split at h
  all_goals cases h
  exact⟨aa (by assumption) rfl (aa (by assumption) rfl (aa (by assumption) rfl (aa (by assumption) rfl (rfl)))),ac rfl (by assumption) rfl (ac rfl (by assumption) rfl (ac rfl (by assumption) rfl (ac rfl (by assumption) rfl (ac rfl (by assumption) rfl (ac rfl (by assumption) rfl (ac rfl (by assumption) rfl (ac rfl (by assumption) rfl (rfl))))))))⟩
 ·intro x;obtain⟨y0,y1,y2,y3,y4,y5,y6,y7,y8,y9,y10,y11⟩:=x;kernel_rfl
 ·intro x z;obtain⟨y0,y1,y2,y3,y4,y5,y6,y7,y8,y9,y10,y11⟩:=x;exact(And.intro rfl trivial)
section
variable (x0 x1 x2:Int)(x3:List Int)(x4:List (Int×Int×Int))(x5:List (List Int))(x6:List (Int×Int×Int))(x7 x8:List (Int×Int))
def iS:Int×Int×List (List Int)×Int×Int×Int×List Int×List (Int×Int×Int)×List (List Int)×List (Int×Int×Int)×List (Int×Int)×List (Int×Int):=((0:Int),(↑x5.length:Int),x5,x0,x1,x2,x3,x4,[],x6,x7,x8)
def jg:List (List Int):=((Lp.res ar (iS x0 x1 x2 x3 x4 x5 x6 x7 x8)).2.2.2.2.2.2.2.2.2).1
def jh:Bool:=allT [fe x3,leN x4.length (1048576:Nat),leN x6.length (1048576:Nat),leN x7.length (1048576:Nat),leN x8.length (1048576:Nat),Lp.fin ar (iS x0 x1 x2 x3 x4 x5 x6 x7 x8)]
end
def uT:List SV→List Entry→Option Out
 | [.one ⟨true,[.val (.int .i64 x0),.ref 0,.ref 1,.ref 2,.ref 3,.val (.int .i64 x1),.ref 4,.ref 5,.val (.int .i64 x2)]⟩],[.row false 2 (.int .i64) x3,.row false 169 (.pair (.int .i64) (.pair (.int .i64) (.int .i64))) x4,.row false 24 (.sl 2 (.int .i64)) x5,.row false 100 (.pair (.int .i64) (.pair (.int .i64) (.int .i64))) x6,.row false 173 (.pair (.int .i64) (.int .i64)) x7,.row false 176 (.pair (.int .i64) (.int .i64)) x8]=>some ⟨(.one ⟨true,[(.val (.int .i64 x0)),(.ref 6),(.ref 7),(.ref 8),(.ref 9),(.val (.int .i64 x1)),(.ref 10),(.ref 11),(.val (.int .i64 x2))]⟩),[(.row false 2 amU x3),(.row false 169 amS x4),(.row false 24 (CTy.sl (2:TypeId) amU) x5),(.row false 100 amS x6),(.row false 173 amT x7),(.row false 176 amT x8)],[(.row true 2 amU x3),(.row true 169 amS x4),(.tree 24 (CTy.sl (2:Nat) amU) (jg x0 x1 x2 x3 x4 x5 x6 x7 x8) none),(.row true 100 amS x6),(.row true 173 amT x7),(.row true 176 amT x8)],[(jh x0 x1 x2 x3 x4 x5 x6 x7 x8)]⟩
 |_,_=>none
def dQ:PF Tryz.prog:=PF.ofG Tryz.prog [PF.trees Tryz.prog,bj,PF.lend bj,PF.fz bj,gC,PF.lend gC,PF.fz gC,il,PF.lend il,PF.fz il,lm,PF.lend lm,PF.fz lm,ll,PF.lend ll,PF.fz ll,ai,PF.lend ai,PF.fz ai] [ar.F] ay 55 Tryz.f55 Tryz.func55 (LOk.fnT (l:= [aD Tryz.f55 0]) (by kernel_rfl) (.cons CY (.nil _))) uT (by
 intro vs es r h;unfold uT at h;split at h
 ·cases h;kernel_rfl
 ·cases h)
def ae(x3:Int)(x4:List Int):Bool:=Int.tmod (Option.getD x4[Int.toNat x3]? (0:Int)) (3:Int)==(1:Int)
def mr(x3:Int)(x4:List Int):Bool:=allT [leI (0:Int) x3,ltI x3 (↑x4.length:Int),ltN x3.toNat x4.length]
def tk:List SV→List Entry→Option Out
 | [.one ⟨true,[.val (.int .i64 _x0),.ref 0,.ref 1,.ref 2,.ref 3,.val (.int .i64 _x1),.ref 4,.ref 5,.val (.int .i64 _x2)]⟩,.one ⟨false,[.val (.int .i64 x3)]⟩],[.row false 2 (.int .i64) x4,.row false 169 (.pair (.int .i64) (.pair (.int .i64) (.int .i64))) x5,.row false 24 (.sl 2 (.int .i64)) x6,.row false 100 (.pair (.int .i64) (.pair (.int .i64) (.int .i64))) x7,.row false 173 (.pair (.int .i64) (.int .i64)) x8,.row false 176 (.pair (.int .i64) (.int .i64)) x9]=>some ⟨(.one ⟨false,[(.val (.bool (ae x3 x4)))]⟩),[(.row false 2 amU x4),(.row false 169 amS x5),(.row false 24 (CTy.sl (2:TypeId) amU) x6),(.row false 100 amS x7),(.row false 173 amT x8),(.row false 176 amT x9)],[],[(mr x3 x4)]⟩
 |_,_=>none
def mz:PF Tryz.prog:=PF.ofG Tryz.prog [] [] ay 201 Tryz.f201 Tryz.func201 (fun c _=>LOk.nil c) tk (by
 intro vs es r h;unfold tk at h;split at h
 ·cases h;kernel_rfl
 ·cases h)
section
variable (x0 x1 x2 x3:Int)(x4:List Int)(x5:List (Int×Int×Int))(x6:List (List Int))(x7:List (Int×Int×Int))(x8 x9:List (Int×Int))
def al:Bool:= !ZE x1 x4 (AW x1 x4 x5 (0:Int)) (AW x1 x4 x5 (1:Int)) x0
def f9:List Int:=bif ad x1 x0 x4&&true then Option.getD x6[Int.toNat x0]? (vD (CTy.sl (2:TypeId) amU))else []
def aE:Bool:=bif ad x1 x0 x4 then !Rt (f9 x0 x1 x4 x6) x7 else false
def nV:List (Int×Int×Int):=bif ad x1 x0 x4&&true then x7 else x7
def jx:Int:=bif !ae x0 x4 then(0:Int)else bif x2 !=(3:Int)then(1:Int)else bif al x0 x1 x4 x5 then(2:Int)else bif aE x0 x1 x4 x6 x7 then(3:Int)else(0:Int)
def oz:Int:=bif !ae x0 x4 then x1 else bif x2 !=(3:Int)then x1 else bif al x0 x1 x4 x5 then x1 else bif aE x0 x1 x4 x6 x7 then x1 else x1
def oA:Int:=bif !ae x0 x4 then x2 else bif x2 !=(3:Int)then x2 else bif al x0 x1 x4 x5 then x2 else bif aE x0 x1 x4 x6 x7 then x2 else x2
def oB:Int:=bif !ae x0 x4 then x3 else bif x2 !=(3:Int)then x3 else bif al x0 x1 x4 x5 then x3 else bif aE x0 x1 x4 x6 x7 then x3 else x3
def oC:List Int:=bif !ae x0 x4 then acO x1 x4 x0 else bif x2 !=(3:Int)then x4 else bif al x0 x1 x4 x5 then x4 else bif aE x0 x1 x4 x6 x7 then x4 else acO x1 x4 x0
def oD:List (Int×(Int×Int)):=bif !ae x0 x4 then x5 else bif x2 !=(3:Int)then x5 else bif al x0 x1 x4 x5 then x5 else bif aE x0 x1 x4 x6 x7 then x5 else x5
def oE:List (Int×(Int×Int)):=bif !ae x0 x4 then x7 else bif x2 !=(3:Int)then x7 else bif al x0 x1 x4 x5 then x7 else bif aE x0 x1 x4 x6 x7 then nV x0 x1 x4 x7 else nV x0 x1 x4 x7
def oF:List (Int×Int):=bif !ae x0 x4 then x8 else bif x2 !=(3:Int)then x8 else bif al x0 x1 x4 x5 then x8 else bif aE x0 x1 x4 x6 x7 then x8 else x8
def oG:List (Int×Int):=bif !ae x0 x4 then x9 else bif x2 !=(3:Int)then x9 else bif al x0 x1 x4 x5 then x9 else bif aE x0 x1 x4 x6 x7 then x9 else x9
def jy:Bool:=allT [mr x0 x4,!ae x0 x4||(x2 !=(3:Int)||isT x1 x4&&acE x1 x5),!ae x0 x4||(x2 !=(3:Int)||Rs x1 x4 (AW x1 x4 x5 (0:Int)) (AW x1 x4 x5 (1:Int)) x0),!ae x0 x4||(x2 !=(3:Int)||(al x0 x1 x4 x5||aK x0 x4)),!ae x0 x4||(x2 !=(3:Int)||(al x0 x1 x4 x5||(!(ad x1 x0 x4&&true)||leI (0:Int) x0))),!ae x0 x4||(x2 !=(3:Int)||(al x0 x1 x4 x5||(!(ad x1 x0 x4&&true)||ltI x0 (↑x6.length:Int)))),!ae x0 x4||(x2 !=(3:Int)||(al x0 x1 x4 x5||(!(ad x1 x0 x4&&true)||ltN x0.toNat x6.length))),!ae x0 x4||(x2 !=(3:Int)||(al x0 x1 x4 x5||(!(ad x1 x0 x4&&true)||ab1 (f9 x0 x1 x4 x6) x7))),!!ae x0 x4||SZ x1 x4 x0,!ae x0 x4||(x2 !=(3:Int)||(al x0 x1 x4 x5||(aE x0 x1 x4 x6 x7||SZ x1 x4 x0)))]
end
def vu:List SV→List Entry→Option Out
 | [.one ⟨false,[.ptr 0 0]⟩,.one ⟨false,[.val (.int .i64 x0)]⟩],[.box 33 [.val (.int .i64 x1),.ref 1,.ref 2,.ref 3,.ref 4,.val (.int .i64 x2),.ref 5,.ref 6,.val (.int .i64 x3)],.row true 2 (.int .i64) x4,.row true 169 (.pair (.int .i64) (.pair (.int .i64) (.int .i64))) x5,.row false 24 (.sl 2 (.int .i64)) x6,.row true 100 (.pair (.int .i64) (.pair (.int .i64) (.int .i64))) x7,.row true 173 (.pair (.int .i64) (.int .i64)) x8,.row true 176 (.pair (.int .i64) (.int .i64)) x9]=>some ⟨(.one ⟨false,[(.val (.int .i64 (jx x0 x1 x2 x4 x5 x6 x7)))]⟩),[(.box 33 [(.val (.int .i64 (oz x0 x1 x2 x4 x5 x6 x7))),(.ref 7),(.ref 8),(.ref 3),(.ref 9),(.val (.int .i64 (oA x0 x1 x2 x4 x5 x6 x7))),(.ref 10),(.ref 11),(.val (.int .i64 (oB x0 x1 x2 x3 x4 x5 x6 x7)))]),.gone,.gone,(.row false 24 (CTy.sl (2:TypeId) amU) x6),.gone,.gone,.gone],[(.row true 2 amU (oC x0 x1 x2 x4 x5 x6 x7)),(.row true 169 amS (oD x0 x1 x2 x4 x5 x6 x7)),(.row true 100 amS (oE x0 x1 x2 x4 x5 x6 x7)),(.row true 173 amT (oF x0 x1 x2 x4 x5 x6 x7 x8)),(.row true 176 amT (oG x0 x1 x2 x4 x5 x6 x7 x9))],[(jy x0 x1 x2 x4 x5 x6 x7)]⟩
 |_,_=>none
def v7:PF Tryz.prog:=PF.ofGK Tryz.prog [OP,PF.lend OP,PF.fz OP,mz,PF.lend mz,PF.fz mz,Nd,PF.lend Nd,PF.fz Nd,kN,PF.lend kN,PF.fz kN,lR,PF.lend lR,PF.fz lR,az,PF.lend az,PF.fz az] [] ay 152 Tryz.f152 Tryz.func152 (fun c _=>LOk.nil c) vu (by
 intro vs es r h;unfold vu at h;split at h
 ·cases h;kernel_rfl
 ·cases h)
section
variable (x0 x1 x2 x3 x4 x5:Int)(x6:List Int)(x7:List (Int×Int×Int))(x8:List (List Int))(x9:List (Int×Int×Int))(x10 x11:List (Int×Int))
def am:List Int:=Option.getD x8[Int.toNat x0]? (vD (CTy.sl (2:TypeId) amU))
def kL:List (List Int):=List.set x8 x0.toNat (bif jp (am x0 x8) x1 x2 then KG (am x0 x8) x1 x2 else am x0 x8)
def lH:Int:=bif !ad x3 x0 x6 then(4:Int)else bif !jp (am x0 x8) x1 x2 then(5:Int)else(0:Int)
def lI:Int:=bif !ad x3 x0 x6 then x3 else bif !jp (am x0 x8) x1 x2 then x3 else x3
def lJ:Int:=bif !ad x3 x0 x6 then x4 else bif !jp (am x0 x8) x1 x2 then x4 else x4
def lK:Int:=bif !ad x3 x0 x6 then x5 else bif !jp (am x0 x8) x1 x2 then x5 else x5
def lL:List Int:=bif !ad x3 x0 x6 then x6 else bif !jp (am x0 x8) x1 x2 then x6 else x6
def lM:List (Int×(Int×Int)):=bif !ad x3 x0 x6 then x7 else bif !jp (am x0 x8) x1 x2 then x7 else x7
def lN:List (List Int):=bif !ad x3 x0 x6 then x8 else bif !jp (am x0 x8) x1 x2 then kL x0 x1 x2 x8 else kL x0 x1 x2 x8
def lO:List (Int×(Int×Int)):=bif !ad x3 x0 x6 then x9 else bif !jp (am x0 x8) x1 x2 then x9 else x9
def lP:List (Int×Int):=bif !ad x3 x0 x6 then x10 else bif !jp (am x0 x8) x1 x2 then x10 else x10
def lQ:List (Int×Int):=bif !ad x3 x0 x6 then x11 else bif !jp (am x0 x8) x1 x2 then x11 else x11
def kK:Bool:=allT [aK x0 x6,!ad x3 x0 x6||leI (0:Int) x0,!ad x3 x0 x6||ltI x0 (↑x8.length:Int),!ad x3 x0 x6||ltN x0.toNat x8.length,!ad x3 x0 x6||ab5 (am x0 x8) x1 x2]
end
def sa:List SV→List Entry→Option Out
 | [.one ⟨false,[.ptr 0 0]⟩,.one ⟨false,[.val (.int .i64 x0)]⟩,.one ⟨true,[.val (.int .i64 x1),.val (.int .i64 x2)]⟩],[.box 33 [.val (.int .i64 x3),.ref 1,.ref 2,.ref 3,.ref 4,.val (.int .i64 x4),.ref 5,.ref 6,.val (.int .i64 x5)],.row true 2 (.int .i64) x6,.row true 169 (.pair (.int .i64) (.pair (.int .i64) (.int .i64))) x7,.tree 24 (.sl 2 (.int .i64)) x8 none,.row true 100 (.pair (.int .i64) (.pair (.int .i64) (.int .i64))) x9,.row true 173 (.pair (.int .i64) (.int .i64)) x10,.row true 176 (.pair (.int .i64) (.int .i64)) x11]=>some ⟨(.one ⟨false,[(.val (.int .i64 (lH x0 x1 x2 x3 x6 x8)))]⟩),[(.box 33 [(.val (.int .i64 (lI x0 x1 x2 x3 x6 x8))),(.ref 1),(.ref 2),(.ref 3),(.ref 4),(.val (.int .i64 (lJ x0 x1 x2 x3 x4 x6 x8))),(.ref 5),(.ref 6),(.val (.int .i64 (lK x0 x1 x2 x3 x5 x6 x8)))]),(.row true 2 amU (lL x0 x1 x2 x3 x6 x8)),(.row true 169 amS (lM x0 x1 x2 x3 x6 x7 x8)),(.tree 24 (CTy.sl (2:TypeId) amU) (lN x0 x1 x2 x3 x6 x8) none),(.row true 100 amS (lO x0 x1 x2 x3 x6 x8 x9)),(.row true 173 amT (lP x0 x1 x2 x3 x6 x8 x10)),(.row true 176 amT (lQ x0 x1 x2 x3 x6 x8 x11))],[],[(kK x0 x1 x2 x3 x6 x8)]⟩
 |_,_=>none
def lS:PF Tryz.prog:=PF.ofG Tryz.prog [PF.trees Tryz.prog,EA,PF.lend EA,PF.fz EA,az,PF.lend az,PF.fz az] [] ay 153 Tryz.f153 Tryz.func153 (fun c _=>LOk.nil c) sa (by
 intro vs es r h;unfold sa at h;split at h
 ·cases h;kernel_rfl
 ·cases h)
section
variable (x0 x1:Int)(x2:Bool)(x3 x4 x5:Int)(x6:List Int)(x7:List (Int×Int×Int))(x8:List (List Int))(x9:List (Int×Int×Int))(x10 x11:List (Int×Int))
def aA:Bool:=vdC x4 x0 x1 x2 !=(0:Int)
def aC:Bool:=bif x0==(1:Int)then !acM x10 x11 x5 else false
def cZ:Bool:=x0==(1:Int)&&true
def mg:Int:=bif aA x0 x1 x2 x4 then(6:Int)else bif aC x0 x5 x10 x11 then(7:Int)else(0:Int)
def mh:Int:=bif aA x0 x1 x2 x4 then x3 else bif aC x0 x5 x10 x11 then x3 else x3
def mi:Int:=bif aA x0 x1 x2 x4 then x4 else bif aC x0 x5 x10 x11 then x4 else nxC x4 x0 x1 x2
def mj:Int:=bif aA x0 x1 x2 x4 then x5 else bif aC x0 x5 x10 x11 then x5 else x5
def ml:List Int:=bif aA x0 x1 x2 x4 then x6 else bif aC x0 x5 x10 x11 then x6 else x6
def mm:List (Int×(Int×Int)):=bif aA x0 x1 x2 x4 then x7 else bif aC x0 x5 x10 x11 then x7 else x7
def mn:List (List Int):=bif aA x0 x1 x2 x4 then x8 else bif aC x0 x5 x10 x11 then x8 else x8
def mo:List (Int×(Int×Int)):=bif aA x0 x1 x2 x4 then x9 else bif aC x0 x5 x10 x11 then x9 else x9
def mp:List (Int×Int):=bif aA x0 x1 x2 x4 then x10 else bif aC x0 x5 x10 x11 then bif cZ x0 then x10 else x10 else bif cZ x0 then x10 else x10
def mq:List (Int×Int):=bif aA x0 x1 x2 x4 then x11 else bif aC x0 x5 x10 x11 then bif cZ x0 then x11 else x11 else bif cZ x0 then x11 else x11
def lG:Bool:=allT [Vy x4 x0,aA x0 x1 x2 x4||(!cZ x0||leN x10.length (9223372036854775807:Nat)&&leN x11.length (9223372036854775807:Nat)),aA x0 x1 x2 x4||(aC x0 x5 x10 x11||Vy x4 x0)]
end
def tj:List SV→List Entry→Option Out
 | [.one ⟨false,[.ptr 0 0]⟩,.one ⟨true,[.val (.int .i64 x0),.val (.int .i64 x1),.val (.bool x2)]⟩],[.box 33 [.val (.int .i64 x3),.ref 1,.ref 2,.ref 3,.ref 4,.val (.int .i64 x4),.ref 5,.ref 6,.val (.int .i64 x5)],.row true 2 (.int .i64) x6,.row true 169 (.pair (.int .i64) (.pair (.int .i64) (.int .i64))) x7,.tree 24 (.sl 2 (.int .i64)) x8 none,.row true 100 (.pair (.int .i64) (.pair (.int .i64) (.int .i64))) x9,.row true 173 (.pair (.int .i64) (.int .i64)) x10,.row true 176 (.pair (.int .i64) (.int .i64)) x11]=>some ⟨(.one ⟨false,[(.val (.int .i64 (mg x0 x1 x2 x4 x5 x10 x11)))]⟩),[(.box 33 [(.val (.int .i64 (mh x0 x1 x2 x3 x4 x5 x10 x11))),(.ref 1),(.ref 2),(.ref 3),(.ref 4),(.val (.int .i64 (mi x0 x1 x2 x4 x5 x10 x11))),(.ref 5),(.ref 6),(.val (.int .i64 (mj x0 x1 x2 x4 x5 x10 x11)))]),(.row true 2 amU (ml x0 x1 x2 x4 x5 x6 x10 x11)),(.row true 169 amS (mm x0 x1 x2 x4 x5 x7 x10 x11)),(.tree 24 (CTy.sl (2:TypeId) amU) (mn x0 x1 x2 x4 x5 x8 x10 x11) none),(.row true 100 amS (mo x0 x1 x2 x4 x5 x9 x10 x11)),(.row true 173 amT (mp x0 x1 x2 x4 x5 x10 x11)),(.row true 176 amT (mq x0 x1 x2 x4 x5 x10 x11))],[],[(lG x0 x1 x2 x4 x5 x10 x11)]⟩
 |_,_=>none
def my:PF Tryz.prog:=PF.ofG Tryz.prog [PF.trees Tryz.prog,DB,JM,PF.lend JM,PF.fz JM,Fd] [] ay 154 Tryz.f154 Tryz.func154 (fun c _=>LOk.nil c) tj (by
 intro vs es r h;unfold tj at h;split at h
 ·cases h;kernel_rfl
 ·cases h)
section
variable (x0 x1 x2 x3 x4 x5:Int)(x6:Bool)(x7 x8 x9:Int)(x10:List Int)(x11:List (Int×Int×Int))(x12:List (List Int))(x13:List (Int×Int×Int))(x14 x15:List (Int×Int))
def cK:Int:=bif x0==(0:Int)then jx x1 x7 x8 x10 x11 x12 x13 else bif x0==(1:Int)then lH x1 x2 x3 x7 x10 x12 else mg x4 x5 x6 x8 x9 x14 x15
def cL:Int:=bif x0==(0:Int)then oz x1 x7 x8 x10 x11 x12 x13 else bif x0==(1:Int)then lI x1 x2 x3 x7 x10 x12 else mh x4 x5 x6 x7 x8 x9 x14 x15
def cM:Int:=bif x0==(0:Int)then oA x1 x7 x8 x10 x11 x12 x13 else bif x0==(1:Int)then lJ x1 x2 x3 x7 x8 x10 x12 else mi x4 x5 x6 x8 x9 x14 x15
def cN:Int:=bif x0==(0:Int)then oB x1 x7 x8 x9 x10 x11 x12 x13 else bif x0==(1:Int)then lK x1 x2 x3 x7 x9 x10 x12 else mj x4 x5 x6 x8 x9 x14 x15
def cO:List Int:=bif x0==(0:Int)then oC x1 x7 x8 x10 x11 x12 x13 else bif x0==(1:Int)then lL x1 x2 x3 x7 x10 x12 else ml x4 x5 x6 x8 x9 x10 x14 x15
def cP:List (Int×(Int×Int)):=bif x0==(0:Int)then oD x1 x7 x8 x10 x11 x12 x13 else bif x0==(1:Int)then lM x1 x2 x3 x7 x10 x11 x12 else mm x4 x5 x6 x8 x9 x11 x14 x15
def cQ:List (List Int):=bif x0==(0:Int)then x12 else bif x0==(1:Int)then lN x1 x2 x3 x7 x10 x12 else mn x4 x5 x6 x8 x9 x12 x14 x15
def cR:List (Int×(Int×Int)):=bif x0==(0:Int)then oE x1 x7 x8 x10 x11 x12 x13 else bif x0==(1:Int)then lO x1 x2 x3 x7 x10 x12 x13 else mo x4 x5 x6 x8 x9 x13 x14 x15
def cS:List (Int×Int):=bif x0==(0:Int)then oF x1 x7 x8 x10 x11 x12 x13 x14 else bif x0==(1:Int)then lP x1 x2 x3 x7 x10 x12 x14 else mp x4 x5 x6 x8 x9 x14 x15
def cT:List (Int×Int):=bif x0==(0:Int)then oG x1 x7 x8 x10 x11 x12 x13 x15 else bif x0==(1:Int)then lQ x1 x2 x3 x7 x10 x12 x15 else mq x4 x5 x6 x8 x9 x14 x15
def dP:Bool:=allT [!x0==(0:Int)||jy x1 x7 x8 x10 x11 x12 x13,x0==(0:Int)||(!x0==(1:Int)||kK x1 x2 x3 x7 x10 x12),x0==(0:Int)||(x0==(1:Int)||lG x4 x5 x6 x8 x9 x14 x15)]
end
def vv:List SV→List Entry→Option Out
 | [.one ⟨false,[.ptr 0 0]⟩,.one ⟨true,[.val (.int .i64 x0),.val (.int .i64 x1),.val (.int .i64 x2),.val (.int .i64 x3),.val (.int .i64 x4),.val (.int .i64 x5),.val (.bool x6)]⟩],[.box 33 [.val (.int .i64 x7),.ref 1,.ref 2,.ref 3,.ref 4,.val (.int .i64 x8),.ref 5,.ref 6,.val (.int .i64 x9)],.row true 2 (.int .i64) x10,.row true 169 (.pair (.int .i64) (.pair (.int .i64) (.int .i64))) x11,.tree 24 (.sl 2 (.int .i64)) x12 none,.row true 100 (.pair (.int .i64) (.pair (.int .i64) (.int .i64))) x13,.row true 173 (.pair (.int .i64) (.int .i64)) x14,.row true 176 (.pair (.int .i64) (.int .i64)) x15]=>some ⟨(.one ⟨false,[(.val (.int .i64 (cK x0 x1 x2 x3 x4 x5 x6 x7 x8 x9 x10 x11 x12 x13 x14 x15)))]⟩),[(.box 33 [(.val (.int .i64 (cL x0 x1 x2 x3 x4 x5 x6 x7 x8 x9 x10 x11 x12 x13 x14 x15))),(.ref 7),(.ref 8),(.ref 9),(.ref 10),(.val (.int .i64 (cM x0 x1 x2 x3 x4 x5 x6 x7 x8 x9 x10 x11 x12 x13 x14 x15))),(.ref 11),(.ref 12),(.val (.int .i64 (cN x0 x1 x2 x3 x4 x5 x6 x7 x8 x9 x10 x11 x12 x13 x14 x15)))]),.gone,.gone,.gone,.gone,.gone,.gone],[(.row true 2 amU (cO x0 x1 x2 x3 x4 x5 x6 x7 x8 x9 x10 x11 x12 x13 x14 x15)),(.row true 169 amS (cP x0 x1 x2 x3 x4 x5 x6 x7 x8 x9 x10 x11 x12 x13 x14 x15)),(.tree 24 (CTy.sl (2:TypeId) amU) (cQ x0 x1 x2 x3 x4 x5 x6 x7 x8 x9 x10 x12 x14 x15) none),(.row true 100 amS (cR x0 x1 x2 x3 x4 x5 x6 x7 x8 x9 x10 x11 x12 x13 x14 x15)),(.row true 173 amT (cS x0 x1 x2 x3 x4 x5 x6 x7 x8 x9 x10 x11 x12 x13 x14 x15)),(.row true 176 amT (cT x0 x1 x2 x3 x4 x5 x6 x7 x8 x9 x10 x11 x12 x13 x14 x15))],[(dP x0 x1 x2 x3 x4 x5 x6 x7 x8 x9 x10 x11 x12 x13 x14 x15)]⟩
 |_,_=>none
def eC:PF Tryz.prog:=PF.ofG Tryz.prog [PF.trees Tryz.prog,v7,PF.lendT v7,lS,PF.lend lS,PF.fz lS,my,PF.lend my,PF.fz my] [] ay 56 Tryz.f56 Tryz.func56 (fun c _=>LOk.nil c) vv (by
 intro vs es r h;unfold vv at h;split at h
 ·cases h;kernel_rfl
 ·cases h)
abbrev dx:=Int×Int×Int×List (Int×(Int×((Int×Int)×(Int×(Int×Bool)))))×Int×Int×Int×List Int×List (Int×(Int×Int))×List (List Int)×List (Int×(Int×Int))×List (Int×Int)×List (Int×Int)
def jF(y0:Int)(y3:List (Int×(Int×((Int×Int)×(Int×(Int×Bool)))))):Int×Int×(Int×Int)×Int×Int×Bool:=Option.getD y3[Int.toNat y0]? ((0:Int),(0:Int),((0:Int),(0:Int)),(0:Int),(0:Int),false)
def aW(y0:Int)(y3:List (Int×(Int×((Int×Int)×(Int×(Int×Bool)))))):Int:=(jF y0 y3).1
def ab(y0:Int)(y3:List (Int×(Int×((Int×Int)×(Int×(Int×Bool)))))):Bool:=aW y0 y3==(0:Int)
def jG(y0:Int)(y3:List (Int×(Int×((Int×Int)×(Int×(Int×Bool)))))):Int×(Int×Int)×Int×Int×Bool:=(jF y0 y3).2
def aQ(y0:Int)(y3:List (Int×(Int×((Int×Int)×(Int×(Int×Bool)))))):Int:=(jG y0 y3).1
def fZ(y0:Int)(y3:List (Int×(Int×((Int×Int)×(Int×(Int×Bool)))))):(Int×Int)×Int×Int×Bool:=(jG y0 y3).2
def bf(y0:Int)(y3:List (Int×(Int×((Int×Int)×(Int×(Int×Bool)))))):Int:=(fZ y0 y3).1.1
def bg(y0:Int)(y3:List (Int×(Int×((Int×Int)×(Int×(Int×Bool)))))):Int:=(fZ y0 y3).1.2
def bh(y0:Int)(y3:List (Int×(Int×((Int×Int)×(Int×(Int×Bool)))))):Int:=((fZ y0 y3).2).1
def ak(y0:Int)(y3:List (Int×(Int×((Int×Int)×(Int×(Int×Bool)))))):Int×Bool:=(fZ y0 y3).2.2
def bk(y0:Int)(y3:List (Int×(Int×((Int×Int)×(Int×(Int×Bool))))))(y8:List (Int×(Int×Int))):List (Int×Int×Int):=bif ab y0 y3&&true then y8 else y8
def bm(y0:Int)(y3:List (Int×(Int×((Int×Int)×(Int×(Int×Bool))))))(y10:List (Int×(Int×Int))):List (Int×Int×Int):=bif ab y0 y3&&true then y10 else y10
def oe(y0 y1:Int):Bool:=ltI y0 y1
def og(y0:Int):Bool:=leI (0:Int) y0
def oh(y0:Int)(y3:List (Int×(Int×((Int×Int)×(Int×(Int×Bool)))))):Bool:=ltI y0 (↑y3.length:Int)
def oi(y0:Int)(y3:List (Int×(Int×((Int×Int)×(Int×(Int×Bool)))))):Bool:=ltN y0.toNat y3.length
def oj(y0:Int)(y3:List (Int×(Int×((Int×Int)×(Int×(Int×Bool))))))(y7:List Int):Bool:= !(ab y0 y3&&true)||aK (aQ y0 y3) y7
def ol(y0:Int)(y3:List (Int×(Int×((Int×Int)×(Int×(Int×Bool))))))(y4 y5 y6:Int)(y7:List Int)(y8:List (Int×(Int×Int)))(y9:List (List Int))(y10:List (Int×(Int×Int)))(y11 y12:List (Int×Int)):Bool:=dP (aW y0 y3) (aQ y0 y3) (bf y0 y3) (bg y0 y3) (bh y0 y3) ((ak y0 y3).1) ((ak y0 y3).2) y4 y5 y6 (bif ab y0 y3&&true then y7 else y7) (bk y0 y3 y8) (bif ab y0 y3&&true then y9 else y9) (bm y0 y3 y10) (bif ab y0 y3&&true then y11 else y11) (bif ab y0 y3&&true then y12 else y12)
def om(y0:Int):Int:=IntKind.wrap .i64 (y0 + (1:Int))
def oo(y0 y2:Int)(y3:List (Int×(Int×((Int×Int)×(Int×(Int×Bool))))))(y4 y5 y6:Int)(y7:List Int)(y8:List (Int×(Int×Int)))(y9:List (List Int))(y10:List (Int×(Int×Int)))(y11 y12:List (Int×Int)):Int:=bif bif cK (aW y0 y3) (aQ y0 y3) (bf y0 y3) (bg y0 y3) (bh y0 y3) ((ak y0 y3).1) ((ak y0 y3).2) y4 y5 y6 (bif ab y0 y3&&true then y7 else y7) (bk y0 y3 y8) (bif ab y0 y3&&true then y9 else y9) (bm y0 y3 y10) (bif ab y0 y3&&true then y11 else y11) (bif ab y0 y3&&true then y12 else y12)==(0:Int)then bif ab y0 y3 then ad y4 (aQ y0 y3) y7 else false else false then IntKind.wrap .i64 (y2 + (1:Int))else y2
def oq(y0:Int)(y3:List (Int×(Int×((Int×Int)×(Int×(Int×Bool))))))(y4 y5 y6:Int)(y7:List Int)(y8:List (Int×(Int×Int)))(y9:List (List Int))(y10:List (Int×(Int×Int)))(y11 y12:List (Int×Int)):Int:=cL (aW y0 y3) (aQ y0 y3) (bf y0 y3) (bg y0 y3) (bh y0 y3) ((ak y0 y3).1) ((ak y0 y3).2) y4 y5 y6 (bif ab y0 y3&&true then y7 else y7) (bk y0 y3 y8) (bif ab y0 y3&&true then y9 else y9) (bm y0 y3 y10) (bif ab y0 y3&&true then y11 else y11) (bif ab y0 y3&&true then y12 else y12)
def ot(y0:Int)(y3:List (Int×(Int×((Int×Int)×(Int×(Int×Bool))))))(y4 y5 y6:Int)(y7:List Int)(y8:List (Int×(Int×Int)))(y9:List (List Int))(y10:List (Int×(Int×Int)))(y11 y12:List (Int×Int)):Int:=cM (aW y0 y3) (aQ y0 y3) (bf y0 y3) (bg y0 y3) (bh y0 y3) ((ak y0 y3).1) ((ak y0 y3).2) y4 y5 y6 (bif ab y0 y3&&true then y7 else y7) (bk y0 y3 y8) (bif ab y0 y3&&true then y9 else y9) (bm y0 y3 y10) (bif ab y0 y3&&true then y11 else y11) (bif ab y0 y3&&true then y12 else y12)
def mX(y0:Int)(y3:List (Int×(Int×((Int×Int)×(Int×(Int×Bool))))))(y4 y5 y6:Int)(y7:List Int)(y8:List (Int×(Int×Int)))(y9:List (List Int))(y10:List (Int×(Int×Int)))(y11 y12:List (Int×Int)):Int:=cN (aW y0 y3) (aQ y0 y3) (bf y0 y3) (bg y0 y3) (bh y0 y3) ((ak y0 y3).1) ((ak y0 y3).2) y4 y5 y6 (bif ab y0 y3&&true then y7 else y7) (bk y0 y3 y8) (bif ab y0 y3&&true then y9 else y9) (bm y0 y3 y10) (bif ab y0 y3&&true then y11 else y11) (bif ab y0 y3&&true then y12 else y12)
def mY(y0:Int)(y3:List (Int×(Int×((Int×Int)×(Int×(Int×Bool))))))(y4 y5 y6:Int)(y7:List Int)(y8:List (Int×(Int×Int)))(y9:List (List Int))(y10:List (Int×(Int×Int)))(y11 y12:List (Int×Int)):List Int:=cO (aW y0 y3) (aQ y0 y3) (bf y0 y3) (bg y0 y3) (bh y0 y3) ((ak y0 y3).1) ((ak y0 y3).2) y4 y5 y6 (bif ab y0 y3&&true then y7 else y7) (bk y0 y3 y8) (bif ab y0 y3&&true then y9 else y9) (bm y0 y3 y10) (bif ab y0 y3&&true then y11 else y11) (bif ab y0 y3&&true then y12 else y12)
def mZ(y0:Int)(y3:List (Int×(Int×((Int×Int)×(Int×(Int×Bool))))))(y4 y5 y6:Int)(y7:List Int)(y8:List (Int×(Int×Int)))(y9:List (List Int))(y10:List (Int×(Int×Int)))(y11 y12:List (Int×Int)):List (Int×(Int×Int)):=cP (aW y0 y3) (aQ y0 y3) (bf y0 y3) (bg y0 y3) (bh y0 y3) ((ak y0 y3).1) ((ak y0 y3).2) y4 y5 y6 (bif ab y0 y3&&true then y7 else y7) (bk y0 y3 y8) (bif ab y0 y3&&true then y9 else y9) (bm y0 y3 y10) (bif ab y0 y3&&true then y11 else y11) (bif ab y0 y3&&true then y12 else y12)
def m0(y0:Int)(y3:List (Int×(Int×((Int×Int)×(Int×(Int×Bool))))))(y4 y5 y6:Int)(y7:List Int)(y9:List (List Int))(y11 y12:List (Int×Int)):List (List Int):=cQ (aW y0 y3) (aQ y0 y3) (bf y0 y3) (bg y0 y3) (bh y0 y3) ((ak y0 y3).1) ((ak y0 y3).2) y4 y5 y6 (bif ab y0 y3&&true then y7 else y7) (bif ab y0 y3&&true then y9 else y9) (bif ab y0 y3&&true then y11 else y11) (bif ab y0 y3&&true then y12 else y12)
def m3(y0:Int)(y3:List (Int×(Int×((Int×Int)×(Int×(Int×Bool))))))(y4 y5 y6:Int)(y7:List Int)(y8:List (Int×(Int×Int)))(y9:List (List Int))(y10:List (Int×(Int×Int)))(y11 y12:List (Int×Int)):List (Int×(Int×Int)):=cR (aW y0 y3) (aQ y0 y3) (bf y0 y3) (bg y0 y3) (bh y0 y3) ((ak y0 y3).1) ((ak y0 y3).2) y4 y5 y6 (bif ab y0 y3&&true then y7 else y7) (bk y0 y3 y8) (bif ab y0 y3&&true then y9 else y9) (bm y0 y3 y10) (bif ab y0 y3&&true then y11 else y11) (bif ab y0 y3&&true then y12 else y12)
def m4(y0:Int)(y3:List (Int×(Int×((Int×Int)×(Int×(Int×Bool))))))(y4 y5 y6:Int)(y7:List Int)(y8:List (Int×(Int×Int)))(y9:List (List Int))(y10:List (Int×(Int×Int)))(y11 y12:List (Int×Int)):List (Int×Int):=cS (aW y0 y3) (aQ y0 y3) (bf y0 y3) (bg y0 y3) (bh y0 y3) ((ak y0 y3).1) ((ak y0 y3).2) y4 y5 y6 (bif ab y0 y3&&true then y7 else y7) (bk y0 y3 y8) (bif ab y0 y3&&true then y9 else y9) (bm y0 y3 y10) (bif ab y0 y3&&true then y11 else y11) (bif ab y0 y3&&true then y12 else y12)
def m5(y0:Int)(y3:List (Int×(Int×((Int×Int)×(Int×(Int×Bool))))))(y4 y5 y6:Int)(y7:List Int)(y8:List (Int×(Int×Int)))(y9:List (List Int))(y10:List (Int×(Int×Int)))(y11 y12:List (Int×Int)):List (Int×Int):=cT (aW y0 y3) (aQ y0 y3) (bf y0 y3) (bg y0 y3) (bh y0 y3) ((ak y0 y3).1) ((ak y0 y3).2) y4 y5 y6 (bif ab y0 y3&&true then y7 else y7) (bk y0 y3 y8) (bif ab y0 y3&&true then y9 else y9) (bm y0 y3 y10) (bif ab y0 y3&&true then y11 else y11) (bif ab y0 y3&&true then y12 else y12)
def Of:dx→List (Nat×SV)
 |(y0,y1,y2,_,_,_,_,_,_,_,_,_,_)=> [(22,(.one ⟨false,[(.val (.int .i64 y0))]⟩)),(21,(.one ⟨false,[(.val (.int .i64 y1))]⟩)),(20,(.one ⟨false,[(.ref 0)]⟩)),(7,(.one ⟨false,[(.ptr 1 0)]⟩)),(8,(.one ⟨false,[(.val (.int .i64 y2))]⟩))]
def Oe:dx→List (Nat×Entry)
 |(_,_,_,y3,y4,y5,y6,y7,y8,y9,y10,y11,y12)=> [(0,(.row false 49 amR y3)),(1,(.box 33 [(.val (.int .i64 y4)),(.ref 2),(.ref 3),(.ref 4),(.ref 5),(.val (.int .i64 y5)),(.ref 6),(.ref 7),(.val (.int .i64 y6))])),(2,(.row true 2 amU y7)),(3,(.row true 169 amS y8)),(4,(.tree 24 (CTy.sl (2:Nat) amU) y9 none)),(5,(.row true 100 amS y10)),(6,(.row true 173 amT y11)),(7,(.row true 176 amT y12))]
def Ol:Nat→dx→List (Nat×SV)
 |_,(_,_,y2,_,_,_,_,_,_,_,_,_,_)=> [(8,(.one ⟨false,[(.val (.int .i64 y2))]⟩))]
def Ok:Nat→dx→List (Nat×Entry)
 |_,(_,_,_,y3,y4,y5,y6,y7,y8,y9,y10,y11,y12)=> [(0,(.row false 49 amR y3)),(1,(.box 33 [(.val (.int .i64 y4)),(.ref 2),(.ref 3),(.ref 4),(.ref 5),(.val (.int .i64 y5)),(.ref 6),(.ref 7),(.val (.int .i64 y6))])),(2,(.row true 2 amU y7)),(3,(.row true 169 amS y8)),(4,(.tree 24 (CTy.sl (2:Nat) amU) y9 none)),(5,(.row true 100 amS y10)),(6,(.row true 173 amT y11)),(7,(.row true 176 amT y12))]
def m8:dx→LT dx
 |(y0,y1,y2,y3,y4,y5,y6,y7,y8,y9,y10,y11,y12)=> .ite (oe y0 y1) (.need [(og y0),(oh y0 y3),(oi y0 y3)] (.need [(oj y0 y3 y7)] (.need [(ol y0 y3 y4 y5 y6 y7 y8 y9 y10 y11 y12)] (.nrm ((om y0),y1,(oo y0 y2 y3 y4 y5 y6 y7 y8 y9 y10 y11 y12),y3,(oq y0 y3 y4 y5 y6 y7 y8 y9 y10 y11 y12),(ot y0 y3 y4 y5 y6 y7 y8 y9 y10 y11 y12),(mX y0 y3 y4 y5 y6 y7 y8 y9 y10 y11 y12),(mY y0 y3 y4 y5 y6 y7 y8 y9 y10 y11 y12),(mZ y0 y3 y4 y5 y6 y7 y8 y9 y10 y11 y12),(m0 y0 y3 y4 y5 y6 y7 y9 y11 y12),(m3 y0 y3 y4 y5 y6 y7 y8 y9 y10 y11 y12),(m4 y0 y3 y4 y5 y6 y7 y8 y9 y10 y11 y12),(m5 y0 y3 y4 y5 y6 y7 y8 y9 y10 y11 y12)) [(0,0),(1,1),(2,1088),(3,1089),(4,1090),(5,1091),(6,1092),(7,1093)])))) (.ext 0 [(0,0),(1,1),(2,2),(3,3),(4,4),(5,5),(6,6),(7,7)])
def yj(s:St):Option dx:=
 (match s.look 22 with
 |some ⟨none,(.one ⟨false,[(.val (.int .i64 y0))]⟩)⟩=>
 (match s.look 21 with
 |some ⟨none,(.one ⟨false,[(.val (.int .i64 y1))]⟩)⟩=>
 (match s.look 20 with
 |some ⟨none,(.one ⟨false,[(.ref 6)]⟩)⟩=>
 (match s.look 7 with
 |some ⟨none,(.one ⟨false,[(.ptr 1216 0)]⟩)⟩=>
 (match s.look 8 with
 |some ⟨none,(.one ⟨false,[(.val (.int .i64 y2))]⟩)⟩=>
 (match s.ent 6 with
 |some (.row false 49 (.pair (.int .i64) (.pair (.int .i64) (.pair (.pair (.int .i64) (.int .i64)) (.pair (.int .i64) (.pair (.int .i64) .bool))))) y3)=>
 (match s.ent 1216 with
 |some (.box 33 [(.val (.int .i64 y4)),(.ref 1152),(.ref 1153),(.ref 1154),(.ref 1155),(.val (.int .i64 y5)),(.ref 1156),(.ref 1157),(.val (.int .i64 y6))])=>
 (match s.ent 1152 with
 |some (.row true 2 (.int .i64) y7)=>
 (match s.ent 1153 with
 |some (.row true 169 (.pair (.int .i64) (.pair (.int .i64) (.int .i64))) y8)=>
 (match s.ent 1154 with
 |some (.tree 24 (.sl 2 (.int .i64)) y9 none)=>
 (match s.ent 1155 with
 |some (.row true 100 (.pair (.int .i64) (.pair (.int .i64) (.int .i64))) y10)=>
 (match s.ent 1156 with
 |some (.row true 173 (.pair (.int .i64) (.int .i64)) y11)=>
 (match s.ent 1157 with
 |some (.row true 176 (.pair (.int .i64) (.int .i64)) y12)=>
 some (y0,y1,y2,y3,y4,y5,y6,y7,y8,y9,y10,y11,y12)
 |_=>none)
 |_=>none)
 |_=>none)
 |_=>none)
 |_=>none)
 |_=>none)
 |_=>none)
 |_=>none)
 |_=>none)
 |_=>none)
 |_=>none)
 |_=>none)
 |_=>none)
def bi:Lp dx where
 h:=⟨[23,24,25,10,26,27,28,29,30,31,32,33,34,11,35,36,37,38,39,40,41,42,8,43,22],[0,1],[2,3,4,5,6,7],[]⟩
 JL:=Of
 JE:=Oe
 XL:=Ol
 XE:=Ok
 q:=fun j=>match j with | _=> .exit 0
 tags:= [0]
 lt:=m8
 fuel:=fun(y0,y1,y2,y3,y4,y5,y6,y7,y8,y9,y10,y11,y12)=>y0.natAbs + y1.natAbs + y2.natAbs + y3.length + y4.natAbs + y5.natAbs + y6.natAbs + y7.length + y8.length + y9.length + y10.length + y11.length + y12.length
 fix:=fun(_,y1,_,y3,_,_,_,_,_,_,_,_,_) (y0,_,y2,_,y4,y5,y6,y7,y8,y9,y10,y11,y12)=>(y0,y1,y2,y3,y4,y5,y6,y7,y8,y9,y10,y11,y12)
 σ:= [(0,6),(1,1216),(2,1152),(3,1153),(4,1154),(5,1155),(6,1156),(7,1157)]
 rd:=yj
theorem Nc:LoopOk Tryz.prog (fun k=>Nat.blt k Tryz.f30.ntmps) bi.F (aD Tryz.f30 0):=by
 refine Lp.ok (tbl:= [PF.trees Tryz.prog,wG,PF.lend wG,PF.fz wG,dQ,PF.lend dQ,PF.fz dQ,eC,PF.lend eC,PF.fz eC,az,PF.lend az,PF.fz az]) (lf:= []) ay bi (by kernel_rfl) (LOk.nil _) (fun _=>rfl) (fun _ _=>rfl) ?_ ?_ ?_ ?_ (fun _=>rfl) ?_
 ·intro x;obtain⟨y0,y1,y2,y3,y4,y5,y6,y7,y8,y9,y10,y11,y12⟩:=x;kernel_rfl
 ·intro x;obtain⟨y0,y1,y2,y3,y4,y5,y6,y7,y8,y9,y10,y11,y12⟩:=x;kernel_rfl
 ·intro s x h
  have h:yj s=some x:=h
  unfold yj at h
  repeat' split at h
  all_goals cases h
  exact⟨aa (by assumption) rfl (aa (by assumption) rfl (aa (by assumption) rfl (aa (by assumption) rfl (aa (by assumption) rfl (rfl))))),ac rfl (by assumption) rfl (ac rfl (by assumption) rfl (ac rfl (by assumption) rfl (ac rfl (by assumption) rfl (ac rfl (by assumption) rfl (ac rfl (by assumption) rfl (ac rfl (by assumption) rfl (ac rfl (by assumption) rfl (rfl))))))))⟩
 ·intro x;obtain⟨y0,y1,y2,y3,y4,y5,y6,y7,y8,y9,y10,y11,y12⟩:=x;kernel_rfl
 ·intro x z;obtain⟨y0,y1,y2,y3,y4,y5,y6,y7,y8,y9,y10,y11,y12⟩:=x;exact(And.intro rfl trivial)
section
variable (x0 x1 x2:Int)(x3:List Int)(x4:List (Int×Int×Int))(x5:List (List Int))(x6:List (Int×Int×Int))(x7 x8:List (Int×Int))(x9:List (Int×Int×(Int×Int)×Int×Int×Bool))
def mI:Bool:=sQ x0 x1 x2 x3 x4 x5 x6 x7 x8 x9 !=(0:Int)
def mJ:Int×Int×Int×List (Int×Int×(Int×Int)×Int×Int×Bool)×Int×Int×Int×List Int×List (Int×Int×Int)×List (List Int)×List (Int×Int×Int)×List (Int×Int)×List (Int×Int):=((0:Int),(↑x9.length:Int),(0:Int),x9,x0,x1,x2,x3,x4,jg x0 x1 x2 x3 x4 x5 x6 x7 x8,x6,x7,x8)
def wg:Int:=bif mI x0 x1 x2 x3 x4 x5 x6 x7 x8 x9 then(0:Int)else ((Lp.res bi (mJ x0 x1 x2 x3 x4 x5 x6 x7 x8 x9)).2.2.2).1
def wh:Int:=bif mI x0 x1 x2 x3 x4 x5 x6 x7 x8 x9 then sQ x0 x1 x2 x3 x4 x5 x6 x7 x8 x9 else(0:Int)
def wi:Bool:=allT [wz x0 x1 x2 x3 x4 x5 x6 x7 x8 x9,mI x0 x1 x2 x3 x4 x5 x6 x7 x8 x9||jh x0 x1 x2 x3 x4 x5 x6 x7 x8,mI x0 x1 x2 x3 x4 x5 x6 x7 x8 x9||Lp.fin bi (mJ x0 x1 x2 x3 x4 x5 x6 x7 x8 x9)]
end
def Jd:List SV→List Entry→Option Out
 | [.one ⟨true,[.val (.int .i64 x0),.ref 0,.ref 1,.ref 2,.ref 3,.val (.int .i64 x1),.ref 4,.ref 5,.val (.int .i64 x2)]⟩,.one ⟨false,[.ref 6]⟩],[.row false 2 (.int .i64) x3,.row false 169 (.pair (.int .i64) (.pair (.int .i64) (.int .i64))) x4,.row false 24 (.sl 2 (.int .i64)) x5,.row false 100 (.pair (.int .i64) (.pair (.int .i64) (.int .i64))) x6,.row false 173 (.pair (.int .i64) (.int .i64)) x7,.row false 176 (.pair (.int .i64) (.int .i64)) x8,.row false 49 (.pair (.int .i64) (.pair (.int .i64) (.pair (.pair (.int .i64) (.int .i64)) (.pair (.int .i64) (.pair (.int .i64) (.bool)))))) x9]=>some ⟨(.tup [⟨false,[(.val (.int .i64 (wg x0 x1 x2 x3 x4 x5 x6 x7 x8 x9)))]⟩,⟨false,[(.val (.int .i64 (wh x0 x1 x2 x3 x4 x5 x6 x7 x8 x9)))]⟩]),[(.row false 2 amU x3),(.row false 169 amS x4),(.row false 24 (CTy.sl (2:TypeId) amU) x5),(.row false 100 amS x6),(.row false 173 amT x7),(.row false 176 amT x8),(.row false 49 amR x9)],[],[(wi x0 x1 x2 x3 x4 x5 x6 x7 x8 x9)]⟩
 |_,_=>none
def Ua:PF Tryz.prog:=PF.ofG Tryz.prog [PF.trees Tryz.prog,wG,PF.lend wG,PF.fz wG,dQ,PF.lend dQ,PF.fz dQ,eC,PF.lend eC,PF.fz eC,az,PF.lend az,PF.fz az] [bi.F] ay 30 Tryz.f30 Tryz.func30 (LOk.fnT (l:= [aD Tryz.f30 0]) (by kernel_rfl) (.cons Nc (.nil _))) Jd (by
 intro vs es r h;unfold Jd at h;split at h
 ·cases h;kernel_rfl
 ·cases h)
section
variable (x3 x4 x5 x6 x7 x8:Int)(x9:Bool)(x10:List Int)(x12:List (List Int))
def mt:Bool:=bif x5==(0:Int)then bif x6==(0:Int)then true else false else false
def mu:Bool:=bif x7==(0:Int)then bif x8==(0:Int)then bif x9==false then true else false else false else false
def ub:Bool:=bif x3==(0:Int)then bif bif GC x10 x4 then mt x5 x6 else false then mu x7 x8 x9 else false else bif x3==(1:Int)then bif bif GC x10 x4 then rsB (cJ (bif GC x10 x4&&true then Option.getD x12[Int.toNat (0:Int)]? (vD (CTy.sl (2:TypeId) amU))else [])) x5 x6 else false then mu x7 x8 x9 else false else bif x3==(2:Int)then bif bif x4==(0:Int)then mt x5 x6 else false then abx x7 x8 else false else false
def uc:Bool:=allT [!x3==(0:Int)||leN x10.length (9223372036854775807:Nat),x3==(0:Int)||(!x3==(1:Int)||leN x10.length (9223372036854775807:Nat)),x3==(0:Int)||(!x3==(1:Int)||(!(GC x10 x4&&true)||leI (0:Int) (0:Int))),x3==(0:Int)||(!x3==(1:Int)||(!(GC x10 x4&&true)||ltI (0:Int) (↑x12.length:Int))),x3==(0:Int)||(!x3==(1:Int)||(!(GC x10 x4&&true)||ltN (Int.toNat (0:Int)) x12.length))]
end
end Go.SX

namespace Go.SX
open Go.Proofs
set_option maxRecDepth 100000
abbrev LI:=List Int
abbrev L3:=List (Int×Int×Int)
abbrev L2:=List (Int×Int)
def sM(b:List Int):(List (List Int))→Nat ⊕ (List (List Int))
 |y4=>(.inr (y4++ [(b)]))
def oW(y1 y2 y3:Int)(y5:List Int)(y6:List (Int×(Int×Int)))(y7:List (List Int))(y8:List (Int×(Int×Int)))(y9 y10:List (Int×Int))(i:Nat):(List (List Int))→kY
 |y4=>((i:Int),y1,y2,y3,y4,y5,y6,y7,y8,y9,y10)
def Ka:kY→List (List Int)
 |(_,_,_,_,y4,_,_,_,_,_,_)=>y4
theorem adq(y1 y2 y3:Int)(y5:List Int)(y6:List (Int×(Int×Int)))(y7:List (List Int))(y8:List (Int×(Int×Int)))(y9 y10:List (Int×Int))(y4:List (List Int))(hn:y7.length≤9223372036854775807)(hl:y7.length≤4)(hA: ∀ x∈y7,x.length≤12)(h0:y4= []):
  fu.fin ((0:Int),y1,y2,y3,y4,y5,y6,y7,y8,y9,y10)=true∧fu.res ((0:Int),y1,y2,y3,y4,y5,y6,y7,y8,y9,y10)=((aq (sM) 0 y7 0 y4).1,(oW y1 y2 y3 y5 y6 y7 y8 y9 y10) (aq (sM) 0 y7 0 y4).2.1 (aq (sM) 0 y7 0 y4).2.2):=by
 have key:=fu.along (oW y1 y2 y3 y5 y6 y7 y8 y9 y10) Ka (sM) 0 (fun i a=>a.length≤i) y7 y4 (by subst h0;simp) (by simp only [fu,oW];omega) (fun i b a hb hI=> ?_) (fun a hI=> ?_)
 ·exact key
 ·obtain y4:=a
  have hlt:=(List.getElem?_eq_some_iff.1 hb).1
  have hget: ∀ d,Option.getD y7[i]? d=b:=fun d=>by rw [hb];rfl
  have hw:=qG hlt hn
  have hdec:ltI (i:Int) (y7.length:Int)=true:=db (by omega)
  have hnn:leI (0:Int) (i:Int)=true:=bZ (by omega)
  have hltd:ltN i y7.length=true:=dK hlt
  refine⟨?_,?_,?_,?_⟩
  ·have hb2:=hA b (List.mem_of_getElem? hb)
   have h5:leN b.length 1048576=true:=hY (by omega)
   have h6:leN (a.length + 1) 9223372036854775807=true:=hY (by omega)
   have h7:leN ((a.length + 1) * 24) 140737488355328=true:=hY (by omega)
   simp [oR,wU,Cr,Cs,Ct,Cu,Cv,Cw,Cx,zP,fu,LT.nds,allT,oW,hdec,hnn,hltd,Dj,hget,h5,h6,h7]
  ·simp [oR,wU,Cr,Cs,Ct,Cu,Cv,Cw,Cx,zP,fu,LT.each,oW,Ka,hw,Dj,hget]
  ·simp only [oR,wU,Cr,Cs,Ct,Cu,Cv,Cw,Cx,zP,fu,LT.fn,oW,Ka,sM,Int.toNat_natCast,hdec,hnn,hltd,hget,cond_true,Bool.cond_self,Dj,hget]
  ·intro a' hf;simp only [sM,Sum.inr.injEq]at hf;subst hf;simp;omega
 ·obtain y4:=a
  simp [oR,wU,Cr,Cs,Ct,Cu,Cv,Cw,Cx,zP,fu,LT.out,oW]
def alY(ps:LI)(fs:L3)(rs:List LI)(lf:L3)(pl ls:L2):Prop:=ps.length≤4∧1≤ps.length∧fs.length≤100∧rs.length≤4∧(∀ x∈rs,1≤x.length∧x.length≤12)∧lf.length≤100∧pl.length≤10000∧ls.length≤10000
theorem afo(n mode day:Int){ps:LI}{fs:L3}{rs:List LI}{lf:L3}{pl ls:L2}(h:alY ps fs rs lf pl ls):
  j7 n mode day ps fs rs lf pl ls=rs∧Hy n mode day ps fs rs lf pl ls=true:=by
 obtain⟨h1,_,h2,h3,h4,h5,h6,h7⟩:=h
 obtain⟨w1,w2⟩:=adq n mode day ps fs rs lf pl ls [] (by omega) h3 (fun x hx=>(h4 x hx).2) rfl
 rw [iW (f:=sM) (g:=fun a b=>a++ [b]) (fun b a=>rfl),NU (fun x=>x)]at w2
 refine⟨by simp only [j7,KE,w2,oW,List.nil_append,List.map_id'],?_⟩
 have w3:Lp.fin fu (KE n mode day ps fs rs lf pl ls)=true:=w1
 have e1:leN ps.length 1048576=true:=hY (by omega)
 have e2:leN (0 + fs.length) 9223372036854775807=true:=hY (by omega)
 have e3:leN ((0 + fs.length) * 24) 140737488355328=true:=hY (by omega)
 have e4:leN (0 + lf.length) 9223372036854775807=true:=hY (by omega)
 have e5:leN ((0 + lf.length) * 24) 140737488355328=true:=hY (by omega)
 have e6:leN (0 + pl.length) 9223372036854775807=true:=hY (by omega)
 have e7:leN ((0 + pl.length) * 16) 140737488355328=true:=hY (by omega)
 have e8:leN (0 + ls.length) 9223372036854775807=true:=hY (by omega)
 have e9:leN ((0 + ls.length) * 16) 140737488355328=true:=hY (by omega)
 simp only [Hy,w3,e1,e2,e3,e4,e5,e6,e7,e8,e9,allT,cond_true]
def bP(b:List Int):(List (List Int))→Nat ⊕ (List (List Int))
 |y8=>(.inr (y8++ [(b)]))
def bA(y2:List (List Int))(y3 y4 y5:Int)(y6:List Int)(y7 y9:List (Int×(Int×Int)))(y10 y11:List (Int×Int))(i:Nat):(List (List Int))→aT
 |y8=>((i:Int),(↑y2.length:Int),y2,y3,y4,y5,y6,y7,y8,y9,y10,y11)
def kR:aT→List (List Int)
 |(_,_,_,_,_,_,_,_,y8,_,_,_)=>y8
theorem ER(y2:List (List Int))(y3 y4 y5:Int)(y6:List Int)(y7 y9:List (Int×(Int×Int)))(y10 y11:List (Int×Int))(y8:List (List Int))(hn:y2.length≤9223372036854775807)(hl:y2.length≤4)(hA: ∀ x∈y2,1≤x.length∧x.length≤12)(h0:y8= []):
  ar.fin ((0:Int),(↑y2.length:Int),y2,y3,y4,y5,y6,y7,y8,y9,y10,y11)=true∧ar.res ((0:Int),(↑y2.length:Int),y2,y3,y4,y5,y6,y7,y8,y9,y10,y11)=((aq (bP) 0 y2 0 y8).1,(bA y2 y3 y4 y5 y6 y7 y9 y10 y11) (aq (bP) 0 y2 0 y8).2.1 (aq (bP) 0 y2 0 y8).2.2):=by
 have key:=ar.along (bA y2 y3 y4 y5 y6 y7 y9 y10 y11) kR (bP) 0 (fun i a=>a.length≤i) y2 y8 (by subst h0;simp) (by simp only [ar,bA];omega) (fun i b a hb hI=> ?_) (fun a hI=> ?_)
 ·exact key
 ·obtain y8:=a
  have hlt:=(List.getElem?_eq_some_iff.1 hb).1
  have hget: ∀ d,Option.getD y2[i]? d=b:=fun d=>by rw [hb];rfl
  have hw:=qG hlt hn
  have hdec:ltI (i:Int) (y2.length:Int)=true:=db (by omega)
  have hnn:leI (0:Int) (i:Int)=true:=bZ (by omega)
  have hltd:ltN i y2.length=true:=dK hlt
  refine⟨?_,?_,?_,?_⟩
  ·have hb2:=hA b (List.mem_of_getElem? hb)
   have h5:leN b.length 1048576=true:=hY (by omega)
   have h4:leN 1 b.length=true:=hY (by omega)
   have h6:leN (a.length + 1) 9223372036854775807=true:=hY (by omega)
   have h7:leN ((a.length + 1) * 24) 140737488355328=true:=hY (by omega)
   simp [bc,eT,eU,eV,eW,eY,eZ,fa,fb,fc,eE,ar,LT.nds,allT,bA,hdec,hnn,hltd,Dj,hget,h4,h5,h6,h7]
  ·simp [bc,eT,eU,eV,eW,eY,eZ,fa,fb,fc,eE,ar,LT.each,bA,kR,hw,Dj,hget]
  ·simp only [bc,eT,eU,eV,eW,eY,eZ,fa,fb,fc,eE,ar,LT.fn,bA,kR,bP,Int.toNat_natCast,hdec,hnn,hltd,hget,cond_true,Bool.cond_self,Dj,hget]
  ·intro a' hf;simp only [bP,Sum.inr.injEq]at hf;subst hf;simp;omega
 ·obtain y8:=a
  simp [bc,eT,eU,eV,eW,eY,eZ,fa,fb,fc,eE,ar,LT.out,bA]
theorem agS(n mode day:Int){ps:LI}{fs:L3}{rs:List LI}{lf:L3}{pl ls:L2}(h:alY ps fs rs lf pl ls):
  jg n mode day ps fs rs lf pl ls=rs∧jh n mode day ps fs rs lf pl ls=true:=by
 obtain⟨h1,h1',h2,h3,h4,h5,h6,h7⟩:=h
 obtain⟨w1,w2⟩:=ER rs n mode day ps fs lf pl ls [] (by omega) h3 h4 rfl
 rw [iW (f:=bP) (g:=fun a b=>a++ [b]) (fun b a=>rfl),NU (fun x=>x)]at w2
 refine⟨by simp only [jg,iS,w2,bA,List.nil_append,List.map_id'],?_⟩
 have w3:Lp.fin ar (iS n mode day ps fs rs lf pl ls)=true:=w1
 have e0:leN 1 ps.length=true:=hY (by omega)
 have e1:leN ps.length 1048576=true:=hY (by omega)
 have e2:leN fs.length 1048576=true:=hY (by omega)
 have e3:leN lf.length 1048576=true:=hY (by omega)
 have e4:leN pl.length 1048576=true:=hY (by omega)
 have e5:leN ls.length 1048576=true:=hY (by omega)
 simp [jh,w3,fe,e0,e1,e2,e3,e4,e5,allT]
abbrev RX:=Int×Int×(Int×Int)×Int×Int×Bool
def UJ(ps:LI)(rs:List LI)(k t rk row ck role:Int)(key:Bool):Bool:=bif k==0 then GC ps t&&((rk==0&&row==0)&&(ck==0&&(role==0&&key==false)))else bif k==1 then(GC ps t&&rsB (rowsR rs) rk row)&&(ck==0&&(role==0&&key==false))else bif k==2 then(t==0&&(rk==0&&row==0))&&abx ck role else false
theorem akL{ls:L2}(h:okLk ls=true):ls.length≤8:=by
 simp only [okLk,Bool.and_eq_true,eP]at h;exact h.1
structure RideF (n mode day:Int) (ps:LI) (fs:L3) (rs:List LI) (lf:L3) (pl ls:L2):Prop where
 hT:isT n ps=true
 hF:okFs n fs=true
 hl:rs.length=ps.length
 hR:rsOk rs=true
 hL:lfOk (rowsR rs) lf=true
 hM:0≤mode∧mode≤5
 hP:okPl pl=true
 hK:okLk ls=true
 hD:inR day 0 100000=true
 n1:2≤n∧n≤8
 lp:1≤ps.length∧ps.length≤4
 lfs:fs.length≤8
 llf:lf.length≤8
 lpl:pl.length≤12
 lls:ls.length≤8
 hA: ∀ x∈rs,areR x=true∧(x.length:Int)=rowsR rs
theorem ag8{n mode day:Int}{ps:LI}{fs:L3}{rs:List LI}{lf:L3}{pl ls:L2}(h:nW n ps fs rs lf mode pl ls day=true):RideF n mode day ps fs rs lf pl ls:=by
 obtain⟨h1,h2,h3,h4,h5,h6,h7,h8,h9⟩:=aiV.1 h
 have h1':=h1
 simp only [isT,Bool.and_eq_true,pF]at h1'
 refine⟨h1,h2,h3,h4,h5,pF.1 h6,h7,h8,h9,h1'.1.1,by omega,ahS h2,akH h5,ae0 h7,akL h8,fun x hx=> ?_⟩
 simp only [rsOk,List.all_eq_true,Bool.and_eq_true,beq_iff_eq]at h4
 exact h4 x hx
theorem RideF.cp{n mode day:Int}{ps:LI}{fs:L3}{rs:List LI}{lf:L3}{pl ls:L2}(h:RideF n mode day ps fs rs lf pl ls):alY ps fs rs lf pl ls:=by
 have:=h.lp;have:=h.lfs;have:=h.llf;have:=h.lpl;have:=h.lls;have:=h.hl
 refine⟨by omega,by omega,by omega,by omega,fun x hx=> ?_,by omega,by omega,by omega⟩
 have:=(BA.1 (h.hA x hx).1).1
 omega
theorem RideF.rN{n mode day:Int}{ps:LI}{fs:L3}{rs:List LI}{lf:L3}{pl ls:L2}(h:RideF n mode day ps fs rs lf pl ls):BP 9223372036854775807 ps fs rs lf pl ls=true:=by
 have:=h.lp;have:=h.lfs;have:=h.llf;have:=h.lpl;have:=h.lls;have:=h.hl
 refine LO.2 ⟨by omega,by omega,⟨by omega,fun x hx=> ?_⟩,by omega,by omega,by omega⟩
 have:=(BA.1 (h.hA x hx).1).1
 omega
theorem ajQ{rs:List LI}{ps:LI}(hl:rs.length=ps.length)(hp:1≤ps.length∧ps.length≤4)(t:Int):aJ t 0 (IntKind.i64.wrap ((rs.length:Int) - 1))=GC ps t:=by
 rw [aJ,rY,hl,bp (by omega) (by omega),GC]
theorem aie(rs:List LI):uR rs=rowsR rs:=by
 simp only [uR,Dj];rfl
theorem agu(n mode day k t rk row ck role:Int)(key:Bool)(ps:LI)(fs:L3)(rs:List LI)(lf:L3)(pl ls:L2)(hN:BP 9223372036854775807 ps fs rs lf pl ls=true):
  ve n mode day k t rk row ck role key ps fs rs lf pl ls=(nW n ps fs rs lf mode pl ls day&&UJ ps rs k t rk row ck role key)∧
  zV n mode day k t ps fs rs lf pl ls=true:=by
 cases hO:nW n ps fs rs lf mode pl ls day with
 |false=>simp [ve,zV,hO,hN,allT]
 |true=>
  have f:=ag8 hO
  have hw:=ajQ f.hl f.lp t
  have n1:ltI 0 (rs.length:Int)=true:=db (by have:=f.hl;have:=f.lp;omega)
  have n2:ltN 0 rs.length=true:=dK (by have:=f.hl;have:=f.lp;omega)
  refine⟨?_,?_⟩
  ·simp only [ve,DI,Iy,Iz,hO,hw,aie,UJ,beq_self_eq_true,Bool.not_true,cond_false,cond_true,Bool.true_and]
   cases k==0 <;> cases k==1 <;> cases k==2 <;> cases GC ps t <;> cases rk==0 <;> cases row==0 <;> cases ck==0 <;> cases role==0 <;> cases key <;> cases t==0 <;> simp
  ·simp [zV,uS,hO,hN,allT,n1,n2]
theorem ajU{n mode day:Int}(k t rk row ck role:Int)(key:Bool){ps:LI}{fs:L3}{rs:List LI}{lf:L3}{pl ls:L2}(f:RideF n mode day ps fs rs lf pl ls):
  ub k t rk row ck role key ps rs=UJ ps rs k t rk row ck role key∧uc k t ps rs=true:=by
 have n1:ltI 0 (rs.length:Int)=true:=db (by have:=f.hl;have:=f.lp;omega)
 have n2:ltN 0 rs.length=true:=dK (by have:=f.hl;have:=f.lp;omega)
 have n3:leN ps.length 9223372036854775807=true:=hY (by have:=f.lp;omega)
 refine⟨?_,?_⟩
 ·simp only [ub,mt,mu,UJ,cJ,Dj,Bool.and_true]
  cases hh:GC ps t with
  |false=>cases k==0 <;> cases k==1 <;> cases k==2 <;> cases rk==0 <;> cases row==0 <;> cases ck==0 <;> cases role==0 <;> cases key <;> cases t==0 <;> simp
  |true=>
   simp only [cond_true,Int.toNat_zero,show ((rs[0]?.getD []).length:Int)=rowsR rs from rfl]
   cases k==0 <;> cases k==1 <;> cases k==2 <;> cases rk==0 <;> cases row==0 <;> cases ck==0 <;> cases role==0 <;> cases key <;> cases t==0 <;> simp
 ·simp [uc,allT,n1,n2,n3]
theorem aeI{n mode day:Int}(k t rk row ck role:Int)(key:Bool){ps:LI}{fs:L3}{rs:List LI}{lf:L3}{pl ls:L2}(f:RideF n mode day ps fs rs lf pl ls):
  jK k t rk row ck role key ps rs=UJ ps rs k t rk row ck role key∧jL k t ps rs=true:=
 ajU k t rk row ck role key f
def IC(n t:Int)(ps:LI):Bool:=cd n t ps
theorem XD(n t:Int)(ps:LI):ad n t ps=IC n t ps:=rfl
def adR(n mode:Int)(ps:LI)(fs:L3)(rs:List LI)(lf:L3)(t:Int):Int:=bif !(Int.tmod (ps[t.toNat]?.getD 0) 3==1)then 0 else bif mode !=3 then 1 else bif !ZE n ps (AW n ps fs 0) (AW n ps fs 1) t then 2 else bif IC n t ps&& !Rt (rs[t.toNat]?.getD []) lf then 3 else 0
theorem RideF.rd{n mode day:Int}{ps:LI}{fs:L3}{rs:List LI}{lf:L3}{pl ls:L2}(f:RideF n mode day ps fs rs lf pl ls){t:Int}(ht:GC ps t=true):
  ab1 (rs[t.toNat]?.getD []) lf=true∧areR (rs[t.toNat]?.getD [])=true∧((rs[t.toNat]?.getD []).length:Int)=rowsR rs:=by
 have h:=Or.1 ht
 have hlt:t.toNat < rs.length:=by have:=f.hl;omega
 rw [List.getElem?_eq_getElem hlt,Option.getD_some]
 obtain⟨h1,h2⟩:=f.hA _ (List.getElem_mem hlt)
 refine⟨?_,h1,h2⟩
 rw [ab1,h1,h2,f.hL];rfl
theorem RideF.tn{n mode day:Int}{ps:LI}{fs:L3}{rs:List LI}{lf:L3}{pl ls:L2}(f:RideF n mode day ps fs rs lf pl ls){t:Int}(ht:GC ps t=true):
  leI 0 t=true∧ltI t (ps.length:Int)=true∧ltN t.toNat ps.length=true∧ltI t (rs.length:Int)=true∧ltN t.toNat rs.length=true:=by
 have h:=Or.1 ht
 have:=f.hl
 exact⟨bZ h.1,db (by omega),dK (by omega),db (by omega),dK (by omega)⟩
theorem RideF.perm{n mode day:Int}{ps:LI}{fs:L3}{rs:List LI}{lf:L3}{pl ls:L2}(f:RideF n mode day ps fs rs lf pl ls){t:Int}(ht:GC ps t=true):
  acE n fs=true∧Rs n ps (AW n ps fs 0) (AW n ps fs 1) t=true:=by
 have hF:=aln f.n1 f.hF
 exact⟨hF,by rw [Rs,SZ,f.hT,ht,ahr n ps fs 0 f.hT hF,ahr n ps fs 1 f.hT hF];rfl⟩
theorem ajb{n mode day:Int}{ps:LI}{fs:L3}{rs:List LI}{lf:L3}{pl ls:L2}(f:RideF n mode day ps fs rs lf pl ls){t:Int}(ht:GC ps t=true):
  Cq n mode t ps fs rs lf=adR n mode ps fs rs lf t∧KD n mode t ps fs rs lf=true:=by
 obtain⟨t1,t2,t3,t4,t5⟩:=f.tn ht
 obtain⟨p1,p2⟩:=f.perm ht
 have hrd:=(f.rd ht).1
 refine⟨?_,?_⟩
 ·simp only [Cq,pM,Nl,HV,Dj,adR,IC,bne]
  cases cd n t ps <;> rfl
 ·simp only [KD,HV,Dj,od,t1,t2,t3,t4,t5,p1,p2,hrd,f.hT,allT,Bool.or_true,Bool.and_self,cond_true]
theorem aiO{n mode day:Int}{ps:LI}{fs:L3}{rs:List LI}{lf:L3}{pl ls:L2}(f:RideF n mode day ps fs rs lf pl ls){t:Int}(ht:GC ps t=true):
  jx t n mode ps fs rs lf=adR n mode ps fs rs lf t∧jy t n mode ps fs rs lf=true:=by
 obtain⟨t1,t2,t3,t4,t5⟩:=f.tn ht
 obtain⟨p1,p2⟩:=f.perm ht
 have hrd:=(f.rd ht).1
 have e1:aK t ps=true:=by simp only [aK,t1,t2,t3,allT,cond_true]
 refine⟨?_,?_⟩
 ·simp only [jx,ae,al,f9,aE,Dj,adR,XD]
  cases IC n t ps <;> rfl
 ·have hm:SZ n ps t=true:=by rw [SZ,f.hT,ht];rfl
  cases hs:IC n t ps <;>
  simp only [jy,mr,f9,aE,XD,hs,Dj,e1,t1,t2,t3,t4,t5,p1,p2,hrd,hm,f.hT,allT,Bool.or_true,Bool.and_self,cond_true,cond_false,Bool.not_false,Bool.not_true,Bool.false_and,Bool.true_and,Bool.true_or,Bool.false_or]
end Go.SX

namespace Go.SX
open Go.Proofs
set_option maxRecDepth 100000
def stV(n mode day:Int)(ps:LI)(fs:L3)(rs:List LI)(lf:L3)(pl ls:L2)(k t rk row ck role:Int)(key:Bool):Int:=bif k==0 then adR n mode ps fs rs lf t else bif k==1 then(bif !IC n t ps then 4 else bif !jp (rs[t.toNat]?.getD []) rk row then 5 else 0)else bif vdC mode ck role key !=0 then 6 else bif ck==1&& !acM pl ls day then 7 else 0
def stP(n mode:Int)(ps:LI)(fs:L3)(rs:List LI)(lf:L3)(k t:Int):LI:=bif k==0&&adR n mode ps fs rs lf t==0 then acO n ps t else ps
def stR(n:Int)(ps:LI)(rs:List LI)(k t rk row:Int):List LI:=bif !(k==0)&&(k==1&&(IC n t ps&&jp (rs[t.toNat]?.getD []) rk row))then rs.set t.toNat (KG (rs[t.toNat]?.getD []) rk row)else rs
def stM(mode day:Int)(pl ls:L2)(k ck role:Int)(key:Bool):Int:=bif k==0||(k==1||(vdC mode ck role key !=0||(ck==1&& !acM pl ls day)))then mode else nxC mode ck role key
theorem Ia{ps:LI}{rs:List LI}{k t rk row ck role:Int}{key:Bool}(h:UJ ps rs k t rk row ck role key=true):
  (k=0∧GC ps t=true)∨(k=1∧GC ps t=true∧rsB (rowsR rs) rk row=true)∨(k=2∧abx ck role=true):=by
 simp only [UJ]at h
 cases h0:k==0 with
 |true=>rw [h0]at h;simp at h;exact .inl ⟨beq_iff_eq.1 h0,h.1⟩
 |false=>
  cases h1:k==1 with
  |true=>rw [h0,h1]at h;simp at h;exact .inr (.inl ⟨beq_iff_eq.1 h1,h.1.1,h.1.2⟩)
  |false=>
   cases h2:k==2 with
   |true=>rw [h0,h1,h2]at h;simp at h;exact .inr (.inr ⟨beq_iff_eq.1 h2,h.2⟩)
   |false=>rw [h0,h1,h2]at h;cases h
theorem ZG{α:Type}(b:Bool)(x:α):(bif b then x else x)=x:=by cases b <;> rfl
theorem Xr{n mode day:Int}{ps:LI}{fs:L3}{rs:List LI}{lf:L3}{pl ls:L2}(f:RideF n mode day ps fs rs lf pl ls){k t rk row ck role:Int}{key:Bool}(h:UJ ps rs k t rk row ck role key=true):
  FX n mode day k t rk row ck role key ps fs rs lf pl ls=n∧FY n mode day k t rk row ck role key ps fs rs lf pl ls=stM mode day pl ls k ck role key∧
  FZ n mode day k t rk row ck role key ps fs rs lf pl ls=day∧CO n mode day k t rk row ck role key ps fs rs lf pl ls=stV n mode day ps fs rs lf pl ls k t rk row ck role key∧
  Ga n mode day k t rk row ck role key ps fs rs lf pl ls=stP n mode ps fs rs lf k t∧Gb n mode day k t rk row ck role key ps fs rs lf pl ls=fs∧
  Gc n mode day k t rk row ck role key ps fs rs lf pl ls=stR n ps rs k t rk row∧Gd n mode day k t rk row ck role key ps fs rs lf pl ls=lf∧
  Ge n mode day k t rk row ck role key ps fs rs lf pl ls=pl∧Gf n mode day k t rk row ck role key ps fs rs lf pl ls=ls∧
  HW n mode day k t rk row ck role key ps fs rs lf pl ls=true:=by
 obtain⟨o1,o2⟩:=afo n mode day f.cp
 simp only [jC,fT,iN,jD,FX,FY,FZ,CO,Ga,Gb,Gc,Gd,Ge,Gf,HW,o1,o2,Dj,stM,stV,stP,stR]
 rcases Ia h with⟨rfl,ht⟩ | ⟨rfl,ht,hr⟩ | ⟨rfl,hc⟩
 ·obtain⟨m1,m2⟩:=ajb f ht
  have hm:SZ n ps t=true:=by rw [SZ,f.hT,ht];rfl
  simp [m1,m2,hm,allT]
 ·obtain⟨t1,t2,t3,t4,t5⟩:=f.tn ht
  obtain⟨_,r1,r2⟩:=f.rd ht
  have hrn:ab5 (rs[t.toNat]?.getD []) rk row=true:=by rw [ab5,r1,r2,hr];rfl
  have e1:od t ps=true:=by simp only [od,t1,t2,t3,allT,cond_true]
  simp only [show ∀ x y,cd x y ps=IC x y ps from fun _ _=>rfl]
  cases IC n t ps <;> cases jp (rs[t.toNat]?.getD []) rk row <;> simp [t1,t2,t3,t4,t5,hrn,e1,allT]
 ·have hv:Vy mode ck=true:=by
   have:=f.hM
   simp only [abx,Bool.and_eq_true]at hc
   rw [Vy,hc.1,pF.2 (by omega)];rfl
  have l1:pl.length≤9223372036854775807:=by have:=f.lpl;omega
  have l2:ls.length≤9223372036854775807:=by have:=f.lls;omega
  cases vdC mode ck role key !=0 <;> cases ck==1 <;> cases acM pl ls day <;> simp [hv,l1,l2,allT]
theorem akU(rs:List LI)(i:Nat)(h:i < rs.length):rs.set i (rs[i]?.getD [])=rs:=by
 rw [List.getElem?_eq_getElem h,Option.getD_some];exact List.set_getElem_self h
theorem TL{n mode day:Int}{ps:LI}{fs:L3}{rs:List LI}{lf:L3}{pl ls:L2}(f:RideF n mode day ps fs rs lf pl ls){k t rk row ck role:Int}{key:Bool}(h:UJ ps rs k t rk row ck role key=true):
  cK k t rk row ck role key n mode day ps fs rs lf pl ls=stV n mode day ps fs rs lf pl ls k t rk row ck role key∧
  cL k t rk row ck role key n mode day ps fs rs lf pl ls=n∧cM k t rk row ck role key n mode day ps fs rs lf pl ls=stM mode day pl ls k ck role key∧
  cN k t rk row ck role key n mode day ps fs rs lf pl ls=day∧cO k t rk row ck role key n mode day ps fs rs lf pl ls=stP n mode ps fs rs lf k t∧
  cP k t rk row ck role key n mode day ps fs rs lf pl ls=fs∧cQ k t rk row ck role key n mode day ps rs pl ls=stR n ps rs k t rk row∧
  cR k t rk row ck role key n mode day ps fs rs lf pl ls=lf∧cS k t rk row ck role key n mode day ps fs rs lf pl ls=pl∧
  cT k t rk row ck role key n mode day ps fs rs lf pl ls=ls∧dP k t rk row ck role key n mode day ps fs rs lf pl ls=true:=by
 rcases Ia h with⟨rfl,ht⟩ | ⟨rfl,ht,hr⟩ | ⟨rfl,hc⟩
 ·obtain⟨m1,m2⟩:=aiO f ht
  refine⟨?_,?_,?_,?_,?_,?_,?_,?_,?_,?_,?_⟩
  ·simp [cK,m1,stV]
  ·simp [cL,oz,ZG]
  ·simp [cM,oA,ZG,stM]
  ·simp [cN,oB,ZG]
  ·simp only [cO,oC,al,f9,aE,ae,Dj,XD,stP,adR]
   cases hs:IC n t ps <;> cases Int.tmod (ps[t.toNat]?.getD 0) 3==1 <;> cases mode !=3 <;> cases ZE n ps (AW n ps fs 0) (AW n ps fs 1) t <;> cases hb:Rt (rs[t.toNat]?.getD []) lf <;> simp [hb]
  ·simp [cP,oD,ZG]
  ·simp [cQ,stR]
  ·simp [cR,oE,nV,ZG]
  ·simp [cS,oF,ZG]
  ·simp [cT,oG,ZG]
  ·simp [dP,m2,allT]
 ·obtain⟨t1,t2,t3,t4,t5⟩:=f.tn ht
  obtain⟨_,r1,r2⟩:=f.rd ht
  have hrn:ab5 (rs[t.toNat]?.getD []) rk row=true:=by rw [ab5,r1,r2,hr];rfl
  have e1:aK t ps=true:=by simp only [aK,t1,t2,t3,allT,cond_true]
  have hset:=akU rs t.toNat (by have:=agZ.1 t5;omega)
  simp only [cK,cL,cM,cN,cO,cP,cQ,cR,cS,cT,dP,am,kL,lH,lI,lJ,lK,lL,lM,lN,lO,lP,lQ,kK,Dj,XD,stM,stV,stP,stR]
  cases IC n t ps <;> cases jp (rs[t.toNat]?.getD []) rk row <;> simp [t1,t2,t3,t4,t5,hrn,e1,hset,allT]
 ·have hv:Vy mode ck=true:=by
   have:=f.hM
   simp only [abx,Bool.and_eq_true]at hc
   rw [Vy,hc.1,pF.2 (by omega)];rfl
  have l1:pl.length≤9223372036854775807:=by have:=f.lpl;omega
  have l2:ls.length≤9223372036854775807:=by have:=f.lls;omega
  simp only [cK,cL,cM,cN,cO,cP,cQ,cR,cS,cT,dP,aA,aC,cZ,mg,mh,mi,mj,ml,mm,mn,mo,mp,mq,lG,stM,stV,stP,stR]
  cases vdC mode ck role key !=0 <;> cases ck==1 <;> cases acM pl ls day <;> simp [hv,l1,l2,allT]
end Go.SX

namespace Go.SX
open Go.Proofs
set_option maxRecDepth 100000
theorem acd(st:LI)(k row:Int):(KG st k row).length=st.length:=by
 unfold KG;cases k==0||k==1 <;> simp
theorem ajd{st:LI}{k row:Int}(h:areR st=true)(hk:(k=0∨k=1)∨k=2∨k=3):areR (KG st k row)=true:=by
 obtain⟨h1,h2⟩:=BA.1 h
 refine BA.2 ⟨by rw [acd];exact h1,fun v hv=> ?_⟩
 unfold KG at hv
 rcases hk with hk | rfl | rfl
 ·rw [show (k==0||k==1)=true from by rcases hk with rfl | rfl <;> rfl,cond_true]at hv
  rcases List.mem_or_eq_of_mem_set hv with hv | rfl
  ·exact h2 v hv
  ·omega
 ·simp at hv;omega
 ·simp at hv;omega
theorem ama{rs:List LI}{i:Nat}{v:LI}(h:rsOk rs=true)(hv:areR v=true)(hl:(v.length:Int)=rowsR rs)(hi:i < rs.length):rowsR (rs.set i v)=rowsR rs∧rsOk (rs.set i v)=true:=by
 have h1:rowsR (rs.set i v)=rowsR rs:=by
  unfold rowsR
  rw [List.getElem?_set]
  cases i with
  |zero=>rw [if_pos rfl,if_pos hi,Option.getD_some];exact hl
  |succ i=>simp
 refine⟨h1,?_⟩
 simp only [rsOk,List.all_eq_true,Bool.and_eq_true,beq_iff_eq]at h ⊢
 intro x hx
 rw [h1]
 rcases List.mem_or_eq_of_mem_set hx with hx | rfl
 ·exact h x hx
 ·exact⟨hv,hl⟩
theorem alO: ∀ a:Fin 10,0≤toC (a.val:Int)∧toC (a.val:Int)≤5:=by decide
theorem aje{n mode day:Int}{ps:LI}{fs:L3}{rs:List LI}{lf:L3}{pl ls:L2}(f:RideF n mode day ps fs rs lf pl ls){k t rk row ck role:Int}{key:Bool}(h:UJ ps rs k t rk row ck role key=true):
  RideF n (stM mode day pl ls k ck role key) day (stP n mode ps fs rs lf k t) fs (stR n ps rs k t rk row) lf pl ls∧rowsR (stR n ps rs k t rk row)=rowsR rs∧(stP n mode ps fs rs lf k t).length=ps.length:=by
 have hp:isT n (stP n mode ps fs rs lf k t)=true∧(stP n mode ps fs rs lf k t).length=ps.length:=by
  unfold stP
  cases k==0&&adR n mode ps fs rs lf t==0 with
  |true=>exact⟨alr f.hT t,adL n ps t⟩
  |false=>exact⟨f.hT,rfl⟩
 have hr:rsOk (stR n ps rs k t rk row)=true∧rowsR (stR n ps rs k t rk row)=rowsR rs∧(stR n ps rs k t rk row).length=rs.length:=by
  unfold stR
  cases hc: !(k==0)&&(k==1&&(IC n t ps&&jp (rs[t.toNat]?.getD []) rk row))with
  |false=>exact⟨f.hR,rfl,rfl⟩
  |true=>
   simp only [Bool.and_eq_true,beq_iff_eq]at hc
   rcases Ia h with⟨rfl,_⟩ | ⟨rfl,ht,hb⟩ | ⟨rfl,_⟩
   ·simp at hc
   ·obtain⟨_,r1,r2⟩:=f.rd ht
    have hrn:ab5 (rs[t.toNat]?.getD []) rk row=true:=by rw [ab5,r1,r2,hb];rfl
    have hk:=(afj hrn).2.2
    have hi:t.toNat < rs.length:=agZ.1 (f.tn ht).2.2.2.2
    obtain⟨q1,q2⟩:=ama (v:=KG (rs[t.toNat]?.getD []) rk row) f.hR (ajd r1 (by rcases hk with hk | hk;exact .inl hk.1;exact .inr hk.1)) (by rw [acd];exact r2) hi
    exact⟨q2,q1,by simp⟩
   ·have:=hc.2.1;cases this
 have hm:0≤stM mode day pl ls k ck role key∧stM mode day pl ls k ck role key≤5:=by
  unfold stM
  cases hc:k==0||(k==1||(vdC mode ck role key !=0||(ck==1&& !acM pl ls day)))with
  |true=>exact f.hM
  |false=>
   rcases Ia h with⟨rfl,_⟩ | ⟨rfl,_,_⟩ | ⟨rfl,hcm⟩
   ·simp at hc
   ·simp at hc
   ·rw [cond_false,nxC]
    cases vdC mode ck role key==0 with
    |false=>exact f.hM
    |true=>
     simp only [abx,Bool.and_eq_true,pF]at hcm
     have:=alO ⟨ck.toNat,by omega⟩
     simp only [Int.toNat_of_nonneg hcm.1.1]at this
     exact this
 refine⟨⟨hp.1,f.hF,by rw [hr.2.2,hp.2];exact f.hl,hr.1,by rw [hr.2.1];exact f.hL,hm,f.hP,f.hK,f.hD,f.n1,by rw [hp.2];exact f.lp,f.lfs,f.llf,f.lpl,f.lls,fun x hx=> ?_⟩,hr.2.1,hp.2⟩
 have h4:=hr.1
 simp only [rsOk,List.all_eq_true,Bool.and_eq_true,beq_iff_eq]at h4
 exact h4 x hx
end Go.SX

namespace Go.SX
open Go.Proofs
set_option maxRecDepth 100000
def wx(y2 y3 y4:Int)(y8:List Int)(y9:List (Int×(Int×Int)))(y10:List (List Int))(y11:List (Int×(Int×Int)))(y12 y13:List (Int×Int))(b:Int×(Int×((Int×Int)×(Int×(Int×Bool))))):(Unit)→Nat ⊕ (Unit)
 |_=>(bif(!ve y2 y3 y4 b.1 (b.2.1) (b.2.2.1.1) (b.2.2.1.2) (b.2.2.2.1) (b.2.2.2.2.1) b.2.2.2.2.2 y8 y9 y10 y11 y12 y13)then(.inl 0)else(.inr ()))
def rE(y1:List (Int×(Int×((Int×Int)×(Int×(Int×Bool))))))(y2 y3 y4 y5 y6 y7:Int)(y8:List Int)(y9:List (Int×(Int×Int)))(y10:List (List Int))(y11:List (Int×(Int×Int)))(y12 y13:List (Int×Int))(y14:List Int)(y15:List (Int×(Int×Int)))(y16:List (List Int))(y17:List (Int×(Int×Int)))(y18 y19:List (Int×Int))(i:Nat):(Unit)→kZ
 |_=>((i:Int),y1,y2,y3,y4,y5,y6,y7,y8,y9,y10,y11,y12,y13,y14,y15,y16,y17,y18,y19)
def Kb:kZ→Unit
 |(_,_,_,_,_,_,_,_,_,_,_,_,_,_,_,_,_,_,_,_)=>()
theorem adr(y1:List (Int×(Int×((Int×Int)×(Int×(Int×Bool))))))(y2 y3 y4 y5 y6 y7:Int)(y8:List Int)(y9:List (Int×(Int×Int)))(y10:List (List Int))(y11:List (Int×(Int×Int)))(y12 y13:List (Int×Int))(y14:List Int)(y15:List (Int×(Int×Int)))(y16:List (List Int))(y17:List (Int×(Int×Int)))(y18 y19:List (Int×Int)) (hn:y1.length≤9223372036854775807) (f:RideF y2 y3 y4 y8 y9 y10 y11 y12 y13):
  eb.fin ((0:Int),y1,y2,y3,y4,y5,y6,y7,y8,y9,y10,y11,y12,y13,y14,y15,y16,y17,y18,y19)=true∧eb.res ((0:Int),y1,y2,y3,y4,y5,y6,y7,y8,y9,y10,y11,y12,y13,y14,y15,y16,y17,y18,y19)=((aq (wx y2 y3 y4 y8 y9 y10 y11 y12 y13) 1 y1 0 ()).1,(rE y1 y2 y3 y4 y5 y6 y7 y8 y9 y10 y11 y12 y13 y14 y15 y16 y17 y18 y19) (aq (wx y2 y3 y4 y8 y9 y10 y11 y12 y13) 1 y1 0 ()).2.1 (aq (wx y2 y3 y4 y8 y9 y10 y11 y12 y13) 1 y1 0 ()).2.2):=by
 have key:=eb.along (rE y1 y2 y3 y4 y5 y6 y7 y8 y9 y10 y11 y12 y13 y14 y15 y16 y17 y18 y19) Kb (wx y2 y3 y4 y8 y9 y10 y11 y12 y13) 1 (fun _ _=>True) y1 () (by trivial) (by simp only [eb,rE];omega) (fun i b a hb hI=> ?_) (fun a hI=> ?_)
 ·exact key
 ·obtain⟨⟩:=a
  have hlt:=(List.getElem?_eq_some_iff.1 hb).1
  have hget: ∀ d,Option.getD y1[i]? d=b:=fun d=>by rw [hb];rfl
  have hw:=qG hlt hn
  have hdec:ltI (i:Int) (y1.length:Int)=true:=db (by omega)
  have hnn:leI (0:Int) (i:Int)=true:=bZ (by omega)
  have hltd:ltN i y1.length=true:=dK hlt
  refine⟨?_,?_,?_,?_⟩
  ·have e:=(agu y2 y3 y4 b.1 b.2.1 b.2.2.1.1 b.2.2.1.2 b.2.2.2.1 b.2.2.2.2.1 b.2.2.2.2.2 y8 y9 y10 y11 y12 y13 f.rN).2
   simp [vh,vi,vj,vk,oS,vl,wV,CB,CC,CD,CE,CF,zQ,eb,LT.nds,allT,rE,hdec,hnn,hltd,hget,e]
  ·simp [vh,vi,vj,vk,oS,vl,wV,CB,CC,CD,CE,CF,zQ,eb,LT.each,rE,Kb,hw]
  ·simp only [vh,vi,vj,vk,oS,vl,wV,CB,CC,CD,CE,CF,zQ,eb,LT.fn,rE,Kb,wx,Int.toNat_natCast,hdec,hnn,hltd,hget,cond_true,Bool.cond_self]
  ·exact fun _ _=>trivial
 ·obtain⟨⟩:=a
  simp [vh,vi,vj,vk,oS,vl,wV,CB,CC,CD,CE,CF,zQ,eb,LT.out,rE]
theorem afv{A B S:Type}{f:B→A→Nat ⊕ A}{g:S→B→S}{emb:S→A}{Inv:S→Prop}{e:Nat}: ∀ {r:List B} {i:Nat} {s:S},(∀ b∈r,∀ s,Inv s→f b (emb s)= .inr (emb (g s b))∧Inv (g s b))→Inv s→
  aq f e r i (emb s)=(e,i + r.length,emb (r.foldl g s))∧Inv (r.foldl g s)
 | [],i,s,_,h=>⟨rfl,h⟩
 |b::r,i,s,hf,h=>by
  obtain⟨h1,h2⟩:=hf b (by simp) s h
  obtain⟨g1,g2⟩:=afv (r:=r) (i:=i + 1) (s:=g s b) (e:=e) (fun c hc=>hf c (by simp [hc])) h2
  refine⟨?_,g2⟩
  simp only [aq,h1,g1,List.foldl_cons,List.length_cons]
  rw [Nat.add_right_comm,Nat.add_assoc]
abbrev RS:=Int×LI×List LI×LI×Int
def isX(ps:LI)(rs:List LI)(x:RX):Bool:=UJ ps rs x.1 x.2.1 x.2.2.1.1 x.2.2.1.2 x.2.2.2.1 x.2.2.2.2.1 x.2.2.2.2.2
def vX(n day:Int)(fs lf:L3)(pl ls:L2)(s:RS)(x:RX):Int:=stV n s.1 day s.2.1 fs s.2.2.1 lf pl ls x.1 x.2.1 x.2.2.1.1 x.2.2.1.2 x.2.2.2.1 x.2.2.2.2.1 x.2.2.2.2.2
def stX(n day:Int)(fs lf:L3)(pl ls:L2)(s:RS)(x:RX):RS:=(stM s.1 day pl ls x.1 x.2.2.2.1 x.2.2.2.2.1 x.2.2.2.2.2,stP n s.1 s.2.1 fs s.2.2.1 lf x.1 x.2.1,stR n s.2.1 s.2.2.1 x.1 x.2.1 x.2.2.1.1 x.2.2.1.2,s.2.2.2.1++ [vX n day fs lf pl ls s x],bif x.1==0&&(vX n day fs lf pl ls s x==0&&IC n x.2.1 s.2.1)then IntKind.i64.wrap (s.2.2.2.2 + 1)else s.2.2.2.2)
theorem akE{ps ps':LI}{rs rs':List LI}(h1:ps'.length=ps.length)(h2:rowsR rs'=rowsR rs)(x:RX):isX ps' rs' x=isX ps rs x:=by
 simp only [isX,UJ,GC,h1,h2]
def aep(n day:Int)(fs lf:L3)(pl ls:L2)(ps0:LI)(rs0:List LI)(i:Nat)(s:RS):Prop:=RideF n s.1 day s.2.1 fs s.2.2.1 lf pl ls∧s.2.1.length=ps0.length∧rowsR s.2.2.1=rowsR rs0∧s.2.2.2.1.length≤i
theorem IQ{n day:Int}{fs lf:L3}{pl ls:L2}{ps0:LI}{rs0:List LI}{i:Nat}{s:RS}(hI:aep n day fs lf pl ls ps0 rs0 i s){x:RX}(hx:isX ps0 rs0 x=true):
  isX s.2.1 s.2.2.1 x=true∧aep n day fs lf pl ls ps0 rs0 (i + 1) (stX n day fs lf pl ls s x):=by
 obtain⟨f,h1,h2,h3⟩:=hI
 have hx':isX s.2.1 s.2.2.1 x=true:=by rw [akE h1 h2];exact hx
 obtain⟨k1,k2,k3⟩:=aje f hx'
 refine⟨hx',k1,by rw [← h1];exact k3,by rw [← h2];exact k2,?_⟩
 simp only [stX,List.length_append,List.length_cons,List.length_nil];omega
end Go.SX

namespace Go.SX
open Go.Proofs
set_option maxRecDepth 100000
def acx(n day:Int)(fs lf:L3)(pl ls:L2)(s:RS):Int×Int×Int×Int×LI×LI×L3×List LI×L3×L2×L2:=(s.2.2.2.2,n,s.1,day,s.2.2.2.1,s.2.1,fs,s.2.2.1,lf,pl,ls)
def nH(b:Int×(Int×((Int×Int)×(Int×(Int×Bool))))):(Int×Int×Int×Int×List Int×List Int×List (Int×(Int×Int))×List (List Int)×List (Int×(Int×Int))×List (Int×Int)×List (Int×Int))→Nat ⊕ (Int×Int×Int×Int×List Int×List Int×List (Int×(Int×Int))×List (List Int)×List (Int×(Int×Int))×List (Int×Int)×List (Int×Int))
 |(y1,y3,y4,y5,y6,y7,y8,y9,y10,y11,y12)=>(.inr ((bif bif(bif(b.1)==(0:Int)then(CO y3 y4 y5 b.1 (b.2.1) (b.2.2.1.1) (b.2.2.1.2) (b.2.2.2.1) (b.2.2.2.2.1) b.2.2.2.2.2 y7 y8 y9 y10 y11 y12)==(0:Int)else false)then cd y3 (b.2.1) y7 else false then IntKind.wrap .i64 (y1 + (1:Int))else y1),(FX y3 y4 y5 b.1 (b.2.1) (b.2.2.1.1) (b.2.2.1.2) (b.2.2.2.1) (b.2.2.2.2.1) b.2.2.2.2.2 y7 y8 y9 y10 y11 y12),(FY y3 y4 y5 b.1 (b.2.1) (b.2.2.1.1) (b.2.2.1.2) (b.2.2.2.1) (b.2.2.2.2.1) b.2.2.2.2.2 y7 y8 y9 y10 y11 y12),(FZ y3 y4 y5 b.1 (b.2.1) (b.2.2.1.1) (b.2.2.1.2) (b.2.2.2.1) (b.2.2.2.2.1) b.2.2.2.2.2 y7 y8 y9 y10 y11 y12),(y6++([(CO y3 y4 y5 b.1 (b.2.1) (b.2.2.1.1) (b.2.2.1.2) (b.2.2.2.1) (b.2.2.2.2.1) b.2.2.2.2.2 y7 y8 y9 y10 y11 y12)])),(Ga y3 y4 y5 b.1 (b.2.1) (b.2.2.1.1) (b.2.2.1.2) (b.2.2.2.1) (b.2.2.2.2.1) b.2.2.2.2.2 y7 y8 y9 y10 y11 y12),(Gb y3 y4 y5 b.1 (b.2.1) (b.2.2.1.1) (b.2.2.1.2) (b.2.2.2.1) (b.2.2.2.2.1) b.2.2.2.2.2 y7 y8 y9 y10 y11 y12),(Gc y3 y4 y5 b.1 (b.2.1) (b.2.2.1.1) (b.2.2.1.2) (b.2.2.2.1) (b.2.2.2.2.1) b.2.2.2.2.2 y7 y8 y9 y10 y11 y12),(Gd y3 y4 y5 b.1 (b.2.1) (b.2.2.1.1) (b.2.2.1.2) (b.2.2.2.1) (b.2.2.2.2.1) b.2.2.2.2.2 y7 y8 y9 y10 y11 y12),(Ge y3 y4 y5 b.1 (b.2.1) (b.2.2.1.1) (b.2.2.1.2) (b.2.2.2.1) (b.2.2.2.2.1) b.2.2.2.2.2 y7 y8 y9 y10 y11 y12),(Gf y3 y4 y5 b.1 (b.2.1) (b.2.2.1.1) (b.2.2.1.2) (b.2.2.2.1) (b.2.2.2.2.1) b.2.2.2.2.2 y7 y8 y9 y10 y11 y12)))
def md(y2:List (Int×(Int×((Int×Int)×(Int×(Int×Bool))))))(i:Nat):(Int×Int×Int×Int×List Int×List Int×List (Int×(Int×Int))×List (List Int)×List (Int×(Int×Int))×List (Int×Int)×List (Int×Int))→lc
 |(y1,y3,y4,y5,y6,y7,y8,y9,y10,y11,y12)=>((i:Int),y1,y2,y3,y4,y5,y6,y7,y8,y9,y10,y11,y12)
def Kc:lc→Int×Int×Int×Int×List Int×List Int×List (Int×(Int×Int))×List (List Int)×List (Int×(Int×Int))×List (Int×Int)×List (Int×Int)
 |(_,y1,_,y3,y4,y5,y6,y7,y8,y9,y10,y11,y12)=>(y1,y3,y4,y5,y6,y7,y8,y9,y10,y11,y12)
theorem ads(y2:List (Int×(Int×((Int×Int)×(Int×(Int×Bool))))))(y1 y3 y4 y5:Int)(y6 y7:List Int)(y8:List (Int×(Int×Int)))(y9:List (List Int))(y10:List (Int×(Int×Int)))(y11 y12:List (Int×Int))(hn:y2.length≤9223372036854775807)(n day:Int)(fs lf:L3)(pl ls:L2)(ps0:LI)(rs0:List LI)(hX: ∀ x∈y2,isX ps0 rs0 x=true)(s0:RS)(hs0:(y1,y3,y4,y5,y6,y7,y8,y9,y10,y11,y12)=acx n day fs lf pl ls s0)(hi0:aep n day fs lf pl ls ps0 rs0 0 s0)(h200:y2.length≤200):
  ec.fin ((0:Int),y1,y2,y3,y4,y5,y6,y7,y8,y9,y10,y11,y12)=true∧ec.res ((0:Int),y1,y2,y3,y4,y5,y6,y7,y8,y9,y10,y11,y12)=((aq (nH) 0 y2 0 (y1,y3,y4,y5,y6,y7,y8,y9,y10,y11,y12)).1,(md y2) (aq (nH) 0 y2 0 (y1,y3,y4,y5,y6,y7,y8,y9,y10,y11,y12)).2.1 (aq (nH) 0 y2 0 (y1,y3,y4,y5,y6,y7,y8,y9,y10,y11,y12)).2.2):=by
 have key:=ec.along (md y2) Kc (nH) 0 (fun i a=> ∃ s,a=acx n day fs lf pl ls s∧aep n day fs lf pl ls ps0 rs0 i s) y2 (y1,y3,y4,y5,y6,y7,y8,y9,y10,y11,y12) ⟨s0,hs0,hi0⟩ (by simp only [ec,md];omega) (fun i b a hb hI=> ?_) (fun a hI=> ?_)
 ·exact key
 ·obtain⟨y1,y3,y4,y5,y6,y7,y8,y9,y10,y11,y12⟩:=a
  have hlt:=(List.getElem?_eq_some_iff.1 hb).1
  have hget: ∀ d,Option.getD y2[i]? d=b:=fun d=>by rw [hb];rfl
  have hw:=qG hlt hn
  have hdec:ltI (i:Int) (y2.length:Int)=true:=db (by omega)
  have hnn:leI (0:Int) (i:Int)=true:=bZ (by omega)
  have hltd:ltN i y2.length=true:=dK hlt
  refine⟨?_,?_,?_,?_⟩
  ·have hm:=hX b (List.mem_of_getElem? hb)
   obtain⟨s,he,hI⟩:=hI
   obtain⟨hx,_⟩:=IQ hI hm
   obtain⟨o0,o1,o2,o3,o4,o5,o6,o7,o8,o9,o10⟩:=Xr hI.1 hx
   simp only [acx,Prod.mk.injEq]at he
   obtain⟨rfl,rfl,rfl,rfl,rfl,rfl,rfl,rfl,rfl,rfl,rfl⟩:=he
   have hlen:s.2.2.2.1.length≤i:=hI.2.2.2
   have hst:b.1=0→od b.2.1 s.2.1=true:=fun h0=>by
    rcases Ia hx with⟨_,ht⟩ | ⟨h1,_⟩ | ⟨h1,_⟩
    ·obtain⟨t1,t2,t3,_⟩:=hI.1.tn ht
     simp only [od,t1,t2,t3,allT,cond_true]
    ·rw [h0]at h1;cases h1
    ·rw [h0]at h1;cases h1
   have hst2:b.1=0→(0≤b.2.1∧b.2.1 < s.2.1.length)∧b.2.1.toNat < s.2.1.length:=fun h0=>by
    rcases Ia hx with⟨_,ht⟩ | ⟨h1,_⟩ | ⟨h1,_⟩
    ·have:=Or.1 ht;omega
    ·rw [h0]at h1;cases h1
    ·rw [h0]at h1;cases h1
   have h6:leN (s.2.2.2.1.length + 1) 9223372036854775807=true:=hY (by omega)
   have h7:leN ((s.2.2.2.1.length + 1) * 8) 140737488355328=true:=hY (by omega)
   simp [vm,vn,vo,dw,vp,cY,oT,eq,et,eu,aR,tg,th,nt,p6,tf,wW,wX,CG,CH,CI,CJ,CL,CM,CN,Am,An,Ao,Ap,Aq,Ar,As,At,Au,Av,Aw,Ax,zR,ec,LT.nds,allT,md,acx,hdec,hnn,hltd,hget,o0,o1,o2,o3,o4,o5,o6,o7,o8,o9,o10,h6,h7]
   by_cases h0:b.1=0
   ·exact .inr (hst h0)
   ·exact .inl (.inl h0)
  ·simp [vm,vn,vo,dw,vp,cY,oT,eq,et,eu,aR,tg,th,nt,p6,tf,wW,wX,CG,CH,CI,CJ,CL,CM,CN,Am,An,Ao,Ap,Aq,Ar,As,At,Au,Av,Aw,Ax,zR,ec,LT.each,md,Kc,hw]
  ·simp only [vm,vn,vo,dw,vp,cY,oT,eq,et,eu,aR,tg,th,nt,p6,tf,wW,wX,CG,CH,CI,CJ,CL,CM,CN,Am,An,Ao,Ap,Aq,Ar,As,At,Au,Av,Aw,Ax,zR,ec,LT.fn,md,Kc,nH,Int.toNat_natCast,hdec,hnn,hltd,hget,cond_true,Bool.cond_self]
  ·intro a' hf
   obtain⟨s,he,hI⟩:=hI
   have hm:=hX b (List.mem_of_getElem? hb)
   obtain⟨hx,hk⟩:=IQ hI hm
   obtain⟨o0,o1,o2,o3,o4,o5,o6,o7,o8,o9,o10⟩:=Xr hI.1 hx
   refine⟨stX n day fs lf pl ls s b,?_,hk⟩
   rw [he]at hf
   simp only [acx,nH,Sum.inr.injEq,o0,o1,o2,o3,o4,o5,o6,o7,o8,o9]at hf
   rw [← hf]
   simp only [acx,stX,vX,IC]
   generalize stV n s.1 day s.2.1 fs s.2.2.1 lf pl ls b.1 b.2.1 b.2.2.1.1 b.2.2.1.2 b.2.2.2.1 b.2.2.2.2.1 b.2.2.2.2.2=v
   cases b.1==0 <;> cases v==0 <;> rfl
 ·obtain⟨y1,y3,y4,y5,y6,y7,y8,y9,y10,y11,y12⟩:=a
  simp [vm,vn,vo,dw,vp,cY,oT,eq,et,eu,aR,tg,th,nt,p6,tf,wW,wX,CG,CH,CI,CJ,CL,CM,CN,Am,An,Ao,Ap,Aq,Ar,As,At,Au,Av,Aw,Ax,zR,ec,LT.out,md]
end Go.SX

namespace Go.SX
open Go.Proofs
set_option maxRecDepth 100000
def adW(n day:Int)(fs lf:L3)(pl ls:L2)(s:RS):Int×Int×Int×Int×LI×L3×List LI×L3×L2×L2:=(s.2.2.2.2,n,s.1,day,s.2.1,fs,s.2.2.1,lf,pl,ls)
def dy(b:Int×(Int×((Int×Int)×(Int×(Int×Bool))))):(Int×Int×Int×Int×List Int×List (Int×(Int×Int))×List (List Int)×List (Int×(Int×Int))×List (Int×Int)×List (Int×Int))→Nat ⊕ (Int×Int×Int×Int×List Int×List (Int×(Int×Int))×List (List Int)×List (Int×(Int×Int))×List (Int×Int)×List (Int×Int))
 |(y2,y4,y5,y6,y7,y8,y9,y10,y11,y12)=>(.inr ((bif bif cK b.1 (b.2.1) (b.2.2.1.1) (b.2.2.1.2) (b.2.2.2.1) (b.2.2.2.2.1) b.2.2.2.2.2 y4 y5 y6 y7 y8 y9 y10 y11 y12==(0:Int)then bif(b.1==(0:Int))then ad y4 (b.2.1) y7 else false else false then IntKind.wrap .i64 (y2 + (1:Int))else y2),(cL b.1 (b.2.1) (b.2.2.1.1) (b.2.2.1.2) (b.2.2.2.1) (b.2.2.2.2.1) b.2.2.2.2.2 y4 y5 y6 y7 y8 y9 y10 y11 y12),(cM b.1 (b.2.1) (b.2.2.1.1) (b.2.2.1.2) (b.2.2.2.1) (b.2.2.2.2.1) b.2.2.2.2.2 y4 y5 y6 y7 y8 y9 y10 y11 y12),(cN b.1 (b.2.1) (b.2.2.1.1) (b.2.2.1.2) (b.2.2.2.1) (b.2.2.2.2.1) b.2.2.2.2.2 y4 y5 y6 y7 y8 y9 y10 y11 y12),(cO b.1 (b.2.1) (b.2.2.1.1) (b.2.2.1.2) (b.2.2.2.1) (b.2.2.2.2.1) b.2.2.2.2.2 y4 y5 y6 y7 y8 y9 y10 y11 y12),(cP b.1 (b.2.1) (b.2.2.1.1) (b.2.2.1.2) (b.2.2.2.1) (b.2.2.2.2.1) b.2.2.2.2.2 y4 y5 y6 y7 y8 y9 y10 y11 y12),(cQ b.1 (b.2.1) (b.2.2.1.1) (b.2.2.1.2) (b.2.2.2.1) (b.2.2.2.2.1) b.2.2.2.2.2 y4 y5 y6 y7 y9 y11 y12),(cR b.1 (b.2.1) (b.2.2.1.1) (b.2.2.1.2) (b.2.2.2.1) (b.2.2.2.2.1) b.2.2.2.2.2 y4 y5 y6 y7 y8 y9 y10 y11 y12),(cS b.1 (b.2.1) (b.2.2.1.1) (b.2.2.1.2) (b.2.2.2.1) (b.2.2.2.2.1) b.2.2.2.2.2 y4 y5 y6 y7 y8 y9 y10 y11 y12),(cT b.1 (b.2.1) (b.2.2.1.1) (b.2.2.1.2) (b.2.2.2.1) (b.2.2.2.2.1) b.2.2.2.2.2 y4 y5 y6 y7 y8 y9 y10 y11 y12)))
def ew(y3:List (Int×(Int×((Int×Int)×(Int×(Int×Bool))))))(i:Nat):(Int×Int×Int×Int×List Int×List (Int×(Int×Int))×List (List Int)×List (Int×(Int×Int))×List (Int×Int)×List (Int×Int))→dx
 |(y2,y4,y5,y6,y7,y8,y9,y10,y11,y12)=>((i:Int),(↑y3.length:Int),y2,y3,y4,y5,y6,y7,y8,y9,y10,y11,y12)
def yh:dx→Int×Int×Int×Int×List Int×List (Int×(Int×Int))×List (List Int)×List (Int×(Int×Int))×List (Int×Int)×List (Int×Int)
 |(_,_,y2,_,y4,y5,y6,y7,y8,y9,y10,y11,y12)=>(y2,y4,y5,y6,y7,y8,y9,y10,y11,y12)
theorem Qi(y3:List (Int×(Int×((Int×Int)×(Int×(Int×Bool))))))(y2 y4 y5 y6:Int)(y7:List Int)(y8:List (Int×(Int×Int)))(y9:List (List Int))(y10:List (Int×(Int×Int)))(y11 y12:List (Int×Int))(hn:y3.length≤9223372036854775807)(n day:Int)(fs lf:L3)(pl ls:L2)(ps0:LI)(rs0:List LI)(hX: ∀ x∈y3,isX ps0 rs0 x=true)(s0:RS)(hs0:(y2,y4,y5,y6,y7,y8,y9,y10,y11,y12)=adW n day fs lf pl ls s0)(hi0:aep n day fs lf pl ls ps0 rs0 0 s0)(h200:y3.length≤200):
  bi.fin ((0:Int),(↑y3.length:Int),y2,y3,y4,y5,y6,y7,y8,y9,y10,y11,y12)=true∧bi.res ((0:Int),(↑y3.length:Int),y2,y3,y4,y5,y6,y7,y8,y9,y10,y11,y12)=((aq (dy) 0 y3 0 (y2,y4,y5,y6,y7,y8,y9,y10,y11,y12)).1,(ew y3) (aq (dy) 0 y3 0 (y2,y4,y5,y6,y7,y8,y9,y10,y11,y12)).2.1 (aq (dy) 0 y3 0 (y2,y4,y5,y6,y7,y8,y9,y10,y11,y12)).2.2):=by
 have key:=bi.along (ew y3) yh (dy) 0 (fun i a=> ∃ s,a=adW n day fs lf pl ls s∧aep n day fs lf pl ls ps0 rs0 i s) y3 (y2,y4,y5,y6,y7,y8,y9,y10,y11,y12) ⟨s0,hs0,hi0⟩ (by simp only [bi,ew];omega) (fun i b a hb hI=> ?_) (fun a hI=> ?_)
 ·exact key
 ·obtain⟨y2,y4,y5,y6,y7,y8,y9,y10,y11,y12⟩:=a
  have hlt:=(List.getElem?_eq_some_iff.1 hb).1
  have hget: ∀ d,Option.getD y3[i]? d=b:=fun d=>by rw [hb];rfl
  have hw:=qG hlt hn
  have hdec:ltI (i:Int) (y3.length:Int)=true:=db (by omega)
  have hnn:leI (0:Int) (i:Int)=true:=bZ (by omega)
  have hltd:ltN i y3.length=true:=dK hlt
  refine⟨?_,?_,?_,?_⟩
  ·have hm:=hX b (List.mem_of_getElem? hb)
   obtain⟨s,he,hI⟩:=hI
   obtain⟨hx,_⟩:=IQ hI hm
   obtain⟨o0,o1,o2,o3,o4,o5,o6,o7,o8,o9,o10⟩:=TL hI.1 hx
   simp only [adW,Prod.mk.injEq]at he
   obtain⟨rfl,rfl,rfl,rfl,rfl,rfl,rfl,rfl,rfl,rfl⟩:=he
   have hst:b.1=0→aK b.2.1 s.2.1=true:=fun h0=>by
    rcases Ia hx with⟨_,ht⟩ | ⟨h1,_⟩ | ⟨h1,_⟩
    ·obtain⟨t1,t2,t3,_⟩:=hI.1.tn ht
     simp only [aK,t1,t2,t3,allT,cond_true]
    ·rw [h0]at h1;cases h1
    ·rw [h0]at h1;cases h1
   simp [jF,aW,ab,jG,aQ,fZ,bf,bg,bh,ak,bk,bm,oe,og,oh,oi,oj,ol,om,oo,oq,ot,mX,mY,mZ,m0,m3,m4,m5,m8,bi,LT.nds,allT,ew,adW,ZG,hdec,hnn,hltd,hget,o0,o1,o2,o3,o4,o5,o6,o7,o8,o9,o10]
   by_cases h0:b.1=0
   ·exact .inr (hst h0)
   ·exact .inl h0
  ·simp [jF,aW,ab,jG,aQ,fZ,bf,bg,bh,ak,bk,bm,oe,og,oh,oi,oj,ol,om,oo,oq,ot,mX,mY,mZ,m0,m3,m4,m5,m8,bi,LT.each,ew,yh,hw]
  ·simp only [jF,aW,ab,jG,aQ,fZ,bf,bg,bh,ak,bk,bm,oe,og,oh,oi,oj,ol,om,oo,oq,ot,mX,mY,mZ,m0,m3,m4,m5,m8,bi,LT.fn,ew,yh,dy,Int.toNat_natCast,hdec,hnn,hltd,hget,cond_true,Bool.cond_self]
  ·intro a' hf
   obtain⟨s,he,hI⟩:=hI
   have hm:=hX b (List.mem_of_getElem? hb)
   obtain⟨hx,hk⟩:=IQ hI hm
   obtain⟨o0,o1,o2,o3,o4,o5,o6,o7,o8,o9,o10⟩:=TL hI.1 hx
   refine⟨stX n day fs lf pl ls s b,?_,hk⟩
   rw [he]at hf
   simp only [adW,dy,Sum.inr.injEq,ZG,o0,o1,o2,o3,o4,o5,o6,o7,o8,o9]at hf
   rw [← hf]
   simp only [adW,stX,vX,XD]
   generalize stV n s.1 day s.2.1 fs s.2.2.1 lf pl ls b.1 b.2.1 b.2.2.1.1 b.2.2.1.2 b.2.2.2.1 b.2.2.2.2.1 b.2.2.2.2.2=v
   cases b.1==0 <;> cases v==0 <;> rfl
 ·obtain⟨y2,y4,y5,y6,y7,y8,y9,y10,y11,y12⟩:=a
  simp [jF,aW,ab,jG,aQ,fZ,bf,bg,bh,ak,bk,bm,oe,og,oh,oi,oj,ol,om,oo,oq,ot,mX,mY,mZ,m0,m3,m4,m5,m8,bi,LT.out,ew]
end Go.SX

namespace Go.SX
open Go.Proofs
set_option maxRecDepth 100000
def cI(y6:List Int)(y8:List (List Int))(b:Int×(Int×((Int×Int)×(Int×(Int×Bool))))):(Unit)→Nat ⊕ (Unit)
 |_=>(bif(tC b.1 (b.2.1) (b.2.2.1.1) (b.2.2.1.2) (b.2.2.2.1) (b.2.2.2.2.1) b.2.2.2.2.2 y6 y8)then(.inl 0)else(.inr ()))
def bL(y2 y3 y4:Int)(y5:List (Int×(Int×((Int×Int)×(Int×(Int×Bool))))))(y6:List Int)(y7:List (Int×(Int×Int)))(y8:List (List Int))(y9:List (Int×(Int×Int)))(y10 y11:List (Int×Int))(i:Nat):(Unit)→aS
 |_=>((i:Int),(↑y5.length:Int),y2,y3,y4,y5,y6,y7,y8,y9,y10,y11)
def ky:aS→Unit
 |(_,_,_,_,_,_,_,_,_,_,_,_)=>()
theorem Ec(y2 y3 y4:Int)(y5:List (Int×(Int×((Int×Int)×(Int×(Int×Bool))))))(y6:List Int)(y7:List (Int×(Int×Int)))(y8:List (List Int))(y9:List (Int×(Int×Int)))(y10 y11:List (Int×Int)) (hn:y5.length≤9223372036854775807) (f:RideF y2 y3 y4 y6 y7 y8 y9 y10 y11):
  ah.fin ((0:Int),(↑y5.length:Int),y2,y3,y4,y5,y6,y7,y8,y9,y10,y11)=true∧ah.res ((0:Int),(↑y5.length:Int),y2,y3,y4,y5,y6,y7,y8,y9,y10,y11)=((aq (cI y6 y8) 1 y5 0 ()).1,(bL y2 y3 y4 y5 y6 y7 y8 y9 y10 y11) (aq (cI y6 y8) 1 y5 0 ()).2.1 (aq (cI y6 y8) 1 y5 0 ()).2.2):=by
 have key:=ah.along (bL y2 y3 y4 y5 y6 y7 y8 y9 y10 y11) ky (cI y6 y8) 1 (fun _ _=>True) y5 () (by trivial) (by simp only [ah,bL];omega) (fun i b a hb hI=> ?_) (fun a hI=> ?_)
 ·exact key
 ·obtain⟨⟩:=a
  have hlt:=(List.getElem?_eq_some_iff.1 hb).1
  have hget: ∀ d,Option.getD y5[i]? d=b:=fun d=>by rw [hb];rfl
  have hw:=qG hlt hn
  have hdec:ltI (i:Int) (y5.length:Int)=true:=db (by omega)
  have hnn:leI (0:Int) (i:Int)=true:=bZ (by omega)
  have hltd:ltN i y5.length=true:=dK hlt
  refine⟨?_,?_,?_,?_⟩
  ·have e:=(aeI b.1 b.2.1 b.2.2.1.1 b.2.2.1.2 b.2.2.2.1 b.2.2.2.2.1 b.2.2.2.2.2 f).2
   simp [cB,cC,cD,cE,bw,cF,eF,eG,eH,eI,eJ,eK,eL,ed,ah,LT.nds,allT,bL,AD,hdec,hnn,hltd,hget,e]
  ·simp [cB,cC,cD,cE,bw,cF,eF,eG,eH,eI,eJ,eK,eL,ed,ah,LT.each,bL,ky,hw]
  ·simp only [cB,cC,cD,cE,bw,cF,eF,eG,eH,eI,eJ,eK,eL,ed,ah,LT.fn,bL,ky,cI,Int.toNat_natCast,hdec,hnn,hltd,hget,cond_true,Bool.cond_self]
  ·exact fun _ _=>trivial
 ·obtain⟨⟩:=a
  simp [cB,cC,cD,cE,bw,cF,eF,eG,eH,eI,eJ,eK,eL,ed,ah,LT.out,bL]
def aet(ps:LI)(rs:List LI)(xs:List RX):Bool:=xs.any fun x=> !isX ps rs x
def rrC(n mode day:Int)(ps:LI)(fs:L3)(rs:List LI)(lf:L3)(pl ls:L2)(xs:List RX):Int:=bif !nW n ps fs rs lf mode pl ls day then 1 else bif ltI 200 (xs.length:Int)then 3 else bif aet ps rs xs then 2 else 0
def rrE(n mode day:Int)(ps:LI)(fs:L3)(rs:List LI)(lf:L3)(pl ls:L2)(xs:List RX):RS:=xs.foldl (stX n day fs lf pl ls) (mode,ps,rs,[],0)
def rrB(n mode day:Int)(ps:LI)(fs:L3)(rs:List LI)(lf:L3)(pl ls:L2)(xs:List RX):Bool:=rrC n mode day ps fs rs lf pl ls xs==0
def rrN(n mode day:Int)(ps:LI)(fs:L3)(rs:List LI)(lf:L3)(pl ls:L2)(xs:List RX):Int:=bif rrB n mode day ps fs rs lf pl ls xs then n else 0
def rrM(n mode day:Int)(ps:LI)(fs:L3)(rs:List LI)(lf:L3)(pl ls:L2)(xs:List RX):Int:=bif rrB n mode day ps fs rs lf pl ls xs then(rrE n mode day ps fs rs lf pl ls xs).1 else 0
def rrD(n mode day:Int)(ps:LI)(fs:L3)(rs:List LI)(lf:L3)(pl ls:L2)(xs:List RX):Int:=bif rrB n mode day ps fs rs lf pl ls xs then day else 0
def rrP(n mode day:Int)(ps:LI)(fs:L3)(rs:List LI)(lf:L3)(pl ls:L2)(xs:List RX):LI:=bif rrB n mode day ps fs rs lf pl ls xs then(rrE n mode day ps fs rs lf pl ls xs).2.1 else []
def rrF(n mode day:Int)(ps:LI)(fs:L3)(rs:List LI)(lf:L3)(pl ls:L2)(xs:List RX):L3:=bif rrB n mode day ps fs rs lf pl ls xs then fs else []
def rrR(n mode day:Int)(ps:LI)(fs:L3)(rs:List LI)(lf:L3)(pl ls:L2)(xs:List RX):List LI:=bif rrB n mode day ps fs rs lf pl ls xs then(rrE n mode day ps fs rs lf pl ls xs).2.2.1 else []
def rrL(n mode day:Int)(ps:LI)(fs:L3)(rs:List LI)(lf:L3)(pl ls:L2)(xs:List RX):L3:=bif rrB n mode day ps fs rs lf pl ls xs then lf else []
def akS(n mode day:Int)(ps:LI)(fs:L3)(rs:List LI)(lf:L3)(pl ls:L2)(xs:List RX):L2:=bif rrB n mode day ps fs rs lf pl ls xs then pl else []
def akR(n mode day:Int)(ps:LI)(fs:L3)(rs:List LI)(lf:L3)(pl ls:L2)(xs:List RX):L2:=bif rrB n mode day ps fs rs lf pl ls xs then ls else []
def rrV(n mode day:Int)(ps:LI)(fs:L3)(rs:List LI)(lf:L3)(pl ls:L2)(xs:List RX):LI:=bif rrB n mode day ps fs rs lf pl ls xs then(rrE n mode day ps fs rs lf pl ls xs).2.2.2.1 else []
def rrT(n mode day:Int)(ps:LI)(fs:L3)(rs:List LI)(lf:L3)(pl ls:L2)(xs:List RX):Int:=bif rrB n mode day ps fs rs lf pl ls xs then(rrE n mode day ps fs rs lf pl ls xs).2.2.2.2 else 0
theorem aki{ps:LI}{rs:List LI}{xs:List RX}(h:aet ps rs xs=false): ∀ x∈xs,isX ps rs x=true:=by
 simp only [aet,List.any_eq_false,Bool.not_eq_true',Bool.not_eq_false]at h
 exact h
theorem ajF{n mode day:Int}{ps:LI}{fs:L3}{rs:List LI}{lf:L3}{pl ls:L2}(f:RideF n mode day ps fs rs lf pl ls):aep n day fs lf pl ls ps rs 0 (mode,ps,rs,[],0):=
 ⟨f,rfl,rfl,Nat.le_refl _⟩
theorem alh{n day:Int}{fs lf:L3}{pl ls:L2}{ps0:LI}{rs0:List LI}{i:Nat}{s:RS}(hI:aep n day fs lf pl ls ps0 rs0 i s){b:RX}(hm:isX ps0 rs0 b=true):
  nH b (acx n day fs lf pl ls s)= .inr (acx n day fs lf pl ls (stX n day fs lf pl ls s b)):=by
 obtain⟨hx,_⟩:=IQ hI hm
 obtain⟨o0,o1,o2,o3,o4,o5,o6,o7,o8,o9,o10⟩:=Xr hI.1 hx
 simp only [acx,nH,o0,o1,o2,o3,o4,o5,o6,o7,o8,o9,stX,vX,IC]
 generalize stV n s.1 day s.2.1 fs s.2.2.1 lf pl ls b.1 b.2.1 b.2.2.1.1 b.2.2.1.2 b.2.2.2.1 b.2.2.2.2.1 b.2.2.2.2.2=v
 cases b.1==0 <;> cases v==0 <;> rfl
theorem ajc(n mode day:Int)(ps:LI)(fs:L3)(rs:List LI)(lf:L3)(pl ls:L2)(xs:List RX)(hN:BP 9223372036854775807 ps fs rs lf pl ls=true):
  Ef n mode day ps fs rs lf pl ls xs=rrN n mode day ps fs rs lf pl ls xs∧Eg n mode day ps fs rs lf pl ls xs=rrM n mode day ps fs rs lf pl ls xs∧
  Eh n mode day ps fs rs lf pl ls xs=rrD n mode day ps fs rs lf pl ls xs∧AO n mode day ps fs rs lf pl ls xs=rrT n mode day ps fs rs lf pl ls xs∧
  AP n mode day ps fs rs lf pl ls xs=rrC n mode day ps fs rs lf pl ls xs∧Ei n mode day ps fs rs lf pl ls xs=rrP n mode day ps fs rs lf pl ls xs∧
  Ej n mode day ps fs rs lf pl ls xs=rrF n mode day ps fs rs lf pl ls xs∧Ek n mode day ps fs rs lf pl ls xs=rrR n mode day ps fs rs lf pl ls xs∧
  El n mode day ps fs rs lf pl ls xs=rrL n mode day ps fs rs lf pl ls xs∧Em n mode day ps fs rs lf pl ls xs=akS n mode day ps fs rs lf pl ls xs∧
  Cy n mode day ps fs rs lf pl ls xs=akR n mode day ps fs rs lf pl ls xs∧Cz n mode day ps fs rs lf pl ls xs=rrV n mode day ps fs rs lf pl ls xs∧
  yH n mode day ps fs rs lf pl ls xs=true:=by
 cases hO:nW n ps fs rs lf mode pl ls day with
 |false=>
  have hc:rrC n mode day ps fs rs lf pl ls xs=1:=by simp [rrC,hO]
  have hb:rrB n mode day ps fs rs lf pl ls xs=false:=by rw [rrB,hc];rfl
  simp [Ef,Eg,Eh,AO,AP,Ei,Ej,Ek,El,Em,Cy,Cz,yH,rrN,rrM,rrD,rrT,rrP,rrF,rrR,rrL,akS,akR,rrV,hO,hc,hb,hN,allT]
 |true=>
  have f:=ag8 hO
  cases h2:gA xs with
  |true=>
   have h2':ltI 200 (xs.length:Int)=true:=h2
   have hc:rrC n mode day ps fs rs lf pl ls xs=3:=by simp only [rrC,hO,h2',Bool.not_true,cond_false,cond_true]
   have hb:rrB n mode day ps fs rs lf pl ls xs=false:=by rw [rrB,hc];rfl
   simp [Ef,Eg,Eh,AO,AP,Ei,Ej,Ek,El,Em,Cy,Cz,yH,rrN,rrM,rrD,rrT,rrP,rrF,rrR,rrL,akS,akR,rrV,hO,h2,hc,hb,hN,allT]
  |false=>
   have h2':ltI 200 (xs.length:Int)=false:=h2
   have hl:xs.length≤200:=by have:=Bx.1 h2';omega
   obtain⟨w1,w2⟩:=adr xs n mode day 0 0 0 ps fs rs lf pl ls [] [] [] [] [] [] (by omega) f
   rw [iq (P:=fun x=> !isX ps rs x) (j:=0) (fun b=>by
    simp only [wx,(agu n mode day b.1 b.2.1 b.2.2.1.1 b.2.2.1.2 b.2.2.2.1 b.2.2.2.2.1 b.2.2.2.2.2 ps fs rs lf pl ls hN).1,hO,Bool.true_and];rfl)]at w2
   have a2:gB n mode day ps fs rs lf pl ls xs=aet ps rs xs:=by
    rw [gB,KF,w2]
    show Nat.beq (bif aet ps rs xs then 0 else 1) 0=_
    cases aet ps rs xs <;> rfl
   have w1':Lp.fin eb (KF n mode day ps fs rs lf pl ls xs)=true:=w1
   cases hB:aet ps rs xs with
   |true=>
    have hc:rrC n mode day ps fs rs lf pl ls xs=2:=by simp only [rrC,hO,h2',hB,Bool.not_true,cond_false,cond_true]
    have hb:rrB n mode day ps fs rs lf pl ls xs=false:=by rw [rrB,hc];rfl
    rw [hB]at a2
    simp [Ef,Eg,Eh,AO,AP,Ei,Ej,Ek,El,Em,Cy,Cz,yH,rrN,rrM,rrD,rrT,rrP,rrF,rrR,rrL,akS,akR,rrV,hO,h2,a2,w1',hc,hb,hN,allT]
   |false=>
    have hX:=aki hB
    have hc:rrC n mode day ps fs rs lf pl ls xs=0:=by simp only [rrC,hO,h2',hB,Bool.not_true,cond_false]
    have hb:rrB n mode day ps fs rs lf pl ls xs=true:=by rw [rrB,hc];rfl
    obtain⟨o1,o2⟩:=afo n mode day f.cp
    obtain⟨v1,v2⟩:=ads xs 0 n mode day [] ps fs rs lf pl ls (by omega) n day fs lf pl ls ps rs hX (mode,ps,rs,[],0) rfl (ajF f) hl
    have hw:=(afv (e:=0) (i:=0) (r:=xs) (f:=nH) (g:=stX n day fs lf pl ls) (emb:=acx n day fs lf pl ls) (Inv:=fun s=> ∃ i,aep n day fs lf pl ls ps rs i s)
     (fun b hb s hs=>by obtain⟨i,hI⟩:=hs;exact⟨alh hI (hX b hb),_,(IQ hI (hX b hb)).2⟩) ⟨0,ajF f⟩).1
    rw [show ((0:Int),n,mode,day,([]:LI),ps,fs,rs,lf,pl,ls)=acx n day fs lf pl ls (mode,ps,rs,[],0) from rfl,hw]at v2
    rw [hB]at a2
    have v1':Lp.fin ec (CA n mode day ps fs rs lf pl ls xs)=true:=by rw [CA,o1];exact v1
    have v2':Lp.res ec (CA n mode day ps fs rs lf pl ls xs)=(0,md xs xs.length (acx n day fs lf pl ls (rrE n mode day ps fs rs lf pl ls xs))):=by
     rw [CA,o1,v2];simp only [Nat.zero_add];rfl
    simp only [Ef,Eg,Eh,AO,AP,Ei,Ej,Ek,El,Em,Cy,Cz,yH,PH,PI,PJ,PK,PL,PM,Nn,Np,Nq,Nr,v2',v1',w1',o2,md,acx,rrN,rrM,rrD,rrT,rrP,rrF,rrR,rrL,akS,akR,rrV,hO,h2,a2,hc,hb,hN,allT,Bool.not_true,cond_false,cond_true,Bool.or_true,Bool.and_self,and_self]
theorem ahE(n mode day:Int)(ps:LI)(fs:L3)(rs:List LI)(lf:L3)(pl ls:L2)(xs:List RX)(hN:BP 9223372036854775807 ps fs rs lf pl ls=true):
  sQ n mode day ps fs rs lf pl ls xs=rrC n mode day ps fs rs lf pl ls xs∧wz n mode day ps fs rs lf pl ls xs=true:=by
 cases hO:nW n ps fs rs lf mode pl ls day with
 |false=>simp [sQ,wz,rrC,hO,hN,allT]
 |true=>
  have f:=ag8 hO
  cases h2:Jr xs with
  |true=>
   have h2':ltI 200 (xs.length:Int)=true:=h2
   simp only [sQ,wz,rrC,hO,hN,h2,h2',allT,Bool.not_true,cond_false,cond_true,Bool.or_true,Bool.true_or,and_self,Bool.false_or]
  |false=>
   have h2':ltI 200 (xs.length:Int)=false:=h2
   have hl:xs.length≤200:=by have:=Bx.1 h2';omega
   obtain⟨w1,w2⟩:=Ec n mode day xs ps fs rs lf pl ls (by omega) f
   rw [iq (P:=fun x=> !isX ps rs x) (j:=0) (fun b=>by
    simp only [cI,tC,(aeI b.1 b.2.1 b.2.2.1.1 b.2.2.1.2 b.2.2.2.1 b.2.2.2.2.1 b.2.2.2.2.2 f).1];rfl)]at w2
   have w1':Lp.fin ah (fD xs n mode day ps fs rs lf pl ls)=true:=w1
   have e:gY xs n mode day ps fs rs lf pl ls=aet ps rs xs:=by
    rw [gY,nc,fE,fD,w2]
    show leI 0 (bif Nat.beq (bif aet ps rs xs then 0 else 1) 0 then _ else(-1:Int))=_
    cases aet ps rs xs with
    |true=>exact bZ (Int.natCast_nonneg _)
    |false=>rfl
   simp only [sQ,wz,kT,ne,rrC,hO,hN,h2,h2',e,w1',allT,Bool.not_true,cond_false,cond_true,Bool.or_true,Bool.true_or,and_self,Bool.false_or]
theorem akQ{n mode day:Int}{ps:LI}{fs:L3}{rs:List LI}{lf:L3}{pl ls:L2}{xs:List RX}(h:rrB n mode day ps fs rs lf pl ls xs=true):
  RideF n mode day ps fs rs lf pl ls∧xs.length≤200∧ ∀ x∈xs,isX ps rs x=true:=by
 simp only [rrB,rrC]at h
 cases hO:nW n ps fs rs lf mode pl ls day with
 |false=>rw [hO]at h;cases h
 |true=>
  cases h2:ltI 200 (xs.length:Int)with
  |true=>rw [hO,h2]at h;cases h
  |false=>
   cases hB:aet ps rs xs with
   |true=>rw [hO,h2,hB]at h;cases h
   |false=>exact⟨ag8 hO,by have:=Bx.1 h2;omega,aki hB⟩
theorem alg{n day:Int}{fs lf:L3}{pl ls:L2}{ps0:LI}{rs0:List LI}{i:Nat}{s:RS}(hI:aep n day fs lf pl ls ps0 rs0 i s){b:RX}(hm:isX ps0 rs0 b=true):
  dy b (adW n day fs lf pl ls s)= .inr (adW n day fs lf pl ls (stX n day fs lf pl ls s b)):=by
 obtain⟨hx,_⟩:=IQ hI hm
 obtain⟨o0,o1,o2,o3,o4,o5,o6,o7,o8,o9,o10⟩:=TL hI.1 hx
 simp only [adW,dy,ZG,o0,o1,o2,o3,o4,o5,o6,o7,o8,o9,stX,vX,XD]
 generalize stV n s.1 day s.2.1 fs s.2.2.1 lf pl ls b.1 b.2.1 b.2.2.1.1 b.2.2.1.2 b.2.2.2.1 b.2.2.2.2.1 b.2.2.2.2.2=v
 cases b.1==0 <;> cases v==0 <;> rfl
theorem aiJ(n mode day:Int)(ps:LI)(fs:L3)(rs:List LI)(lf:L3)(pl ls:L2)(xs:List RX)(hN:BP 9223372036854775807 ps fs rs lf pl ls=true):
  wg n mode day ps fs rs lf pl ls xs=rrT n mode day ps fs rs lf pl ls xs∧wh n mode day ps fs rs lf pl ls xs=rrC n mode day ps fs rs lf pl ls xs∧
  wi n mode day ps fs rs lf pl ls xs=true:=by
 obtain⟨c1,c2⟩:=ahE n mode day ps fs rs lf pl ls xs hN
 have a0:mI n mode day ps fs rs lf pl ls xs= !rrB n mode day ps fs rs lf pl ls xs:=by rw [mI,c1];rfl
 cases hb:rrB n mode day ps fs rs lf pl ls xs with
 |false=>
  rw [hb,Bool.not_false]at a0
  simp only [wg,wh,wi,rrT,hb,c1,c2,a0,allT,cond_true,cond_false,Bool.true_or,and_self]
 |true=>
  rw [hb,Bool.not_true]at a0
  have hc:rrC n mode day ps fs rs lf pl ls xs=0:=beq_iff_eq.1 hb
  obtain⟨f,hl,hX⟩:=akQ hb
  obtain⟨o1,o2⟩:=agS n mode day f.cp
  obtain⟨v1,v2⟩:=Qi xs 0 n mode day ps fs rs lf pl ls (by omega) n day fs lf pl ls ps rs hX (mode,ps,rs,[],0) rfl (ajF f) hl
  have hw:=(afv (e:=0) (i:=0) (r:=xs) (f:=dy) (g:=stX n day fs lf pl ls) (emb:=adW n day fs lf pl ls) (Inv:=fun s=> ∃ i,aep n day fs lf pl ls ps rs i s)
   (fun b hb s hs=>by obtain⟨i,hI⟩:=hs;exact⟨alg hI (hX b hb),_,(IQ hI (hX b hb)).2⟩) ⟨0,ajF f⟩).1
  change aq dy 0 xs 0 ((0:Int),n,mode,day,ps,fs,rs,lf,pl,ls)=_ at hw
  rw [hw]at v2
  have v1':Lp.fin bi (mJ n mode day ps fs rs lf pl ls xs)=true:=by rw [mJ,o1];exact v1
  have v2':Lp.res bi (mJ n mode day ps fs rs lf pl ls xs)=(0,ew xs xs.length (adW n day fs lf pl ls (rrE n mode day ps fs rs lf pl ls xs))):=by
   rw [mJ,o1,v2];simp only [Nat.zero_add];rfl
  simp only [wg,wh,wi,v2',v1',o2,ew,adW,rrT,hb,hc,c1,c2,a0,allT,cond_true,cond_false,Bool.or_true,Bool.and_self,and_self]
theorem aj8(n mode day:Int)(ps:LI)(fs:L3)(rs:List LI)(lf:L3)(pl ls:L2)(xs:List RX)(hN:BP 9223372036854775807 ps fs rs lf pl ls=true):
  Kn n mode day ps fs rs lf pl ls xs=rrT n mode day ps fs rs lf pl ls xs∧Ko n mode day ps fs rs lf pl ls xs=rrC n mode day ps fs rs lf pl ls xs∧
  DH n mode day ps fs rs lf pl ls xs=true:=by
 obtain⟨o0,o1,o2,o3,o4,o5,o6,o7,o8,o9,o10,o11,o12⟩:=ajc n mode day ps fs rs lf pl ls xs hN
 exact⟨o3,o4,by simp only [DH,o12,allT,cond_true]⟩
def Jk:List SV→List Entry→Option Out
 | [.one ⟨true,[.val (.int .i64 x0),.ref 0,.ref 1,.ref 2,.ref 3,.val (.int .i64 x1),.ref 4,.ref 5,.val (.int .i64 x2)]⟩,.one ⟨false,[.ref 6]⟩],[.row false 2 (.int .i64) x3,.row false 169 (.pair (.int .i64) (.pair (.int .i64) (.int .i64))) x4,.row false 24 (.sl 2 (.int .i64)) x5,.row false 100 (.pair (.int .i64) (.pair (.int .i64) (.int .i64))) x6,.row false 173 (.pair (.int .i64) (.int .i64)) x7,.row false 176 (.pair (.int .i64) (.int .i64)) x8,.row false 49 (.pair (.int .i64) (.pair (.int .i64) (.pair (.pair (.int .i64) (.int .i64)) (.pair (.int .i64) (.pair (.int .i64) (.bool)))))) x9]=>some ⟨(.tup [⟨false,[(.val (.int .i64 (rrT x0 x1 x2 x3 x4 x5 x6 x7 x8 x9)))]⟩,⟨false,[(.val (.int .i64 (rrC x0 x1 x2 x3 x4 x5 x6 x7 x8 x9)))]⟩]),[(.row false 2 amU x3),(.row false 169 amS x4),(.row false 24 (CTy.sl (2:TypeId) amU) x5),(.row false 100 amS x6),(.row false 173 amT x7),(.row false 176 amT x8),(.row false 49 amR x9)],[],[BP 9223372036854775807 x3 x4 x5 x6 x7 x8]⟩
 |_,_=>none
def DC:PF Tryz.prog:=PF.alt Uf Jk (by
 intro args es o h hnd;unfold Jk at h;split at h
 ·rename_i x0 x1 x2 x3 x4 x5 x6 x7 x8 x9
  cases h
  have hnd:=eD hnd
  have hh:=aj8 x0 x1 x2 x3 x4 x5 x6 x7 x8 x9 hnd
  obtain⟨e0,e1,en⟩:=hh
  exact gW rfl (eN en) (by simp only [e0,e1] <;> rfl) rfl rfl
 ·cases h)
def Ji:List SV→List Entry→Option Out
 | [.one ⟨true,[.val (.int .i64 x0),.ref 0,.ref 1,.ref 2,.ref 3,.val (.int .i64 x1),.ref 4,.ref 5,.val (.int .i64 x2)]⟩,.one ⟨false,[.ref 6]⟩],[.row false 2 (.int .i64) x3,.row false 169 (.pair (.int .i64) (.pair (.int .i64) (.int .i64))) x4,.row false 24 (.sl 2 (.int .i64)) x5,.row false 100 (.pair (.int .i64) (.pair (.int .i64) (.int .i64))) x6,.row false 173 (.pair (.int .i64) (.int .i64)) x7,.row false 176 (.pair (.int .i64) (.int .i64)) x8,.row false 49 (.pair (.int .i64) (.pair (.int .i64) (.pair (.pair (.int .i64) (.int .i64)) (.pair (.int .i64) (.pair (.int .i64) (.bool)))))) x9]=>some ⟨(.tup [⟨false,[(.val (.int .i64 (rrT x0 x1 x2 x3 x4 x5 x6 x7 x8 x9)))]⟩,⟨false,[(.val (.int .i64 (rrC x0 x1 x2 x3 x4 x5 x6 x7 x8 x9)))]⟩]),[(.row false 2 amU x3),(.row false 169 amS x4),(.row false 24 (CTy.sl (2:TypeId) amU) x5),(.row false 100 amS x6),(.row false 173 amT x7),(.row false 176 amT x8),(.row false 49 amR x9)],[],[BP 9223372036854775807 x3 x4 x5 x6 x7 x8]⟩
 |_,_=>none
def DA:PF Tryz.prog:=PF.alt Ua Ji (by
 intro args es o h hnd;unfold Ji at h;split at h
 ·rename_i x0 x1 x2 x3 x4 x5 x6 x7 x8 x9
  cases h
  have hnd:=eD hnd
  have hh:=aiJ x0 x1 x2 x3 x4 x5 x6 x7 x8 x9 hnd
  obtain⟨e0,e1,en⟩:=hh
  exact gW rfl (eN en) (by simp only [e0,e1] <;> rfl) rfl rfl
 ·cases h)
end Go.SX

namespace Go.SX
open Go.Proofs
set_option maxRecDepth 100000
section
variable (x0 x1 x2:Int)(x3:List Int)(x4:List (Int×Int×Int))(x5:List (List Int))(x6:List (Int×Int×Int))(x7 x8:List (Int×Int))(x9:List (Int×Int×(Int×Int)×Int×Int×Bool))
def ba:Bool:=ltI (jZ (1048576:Int) x3 x4 x5 x6 x7 x8) (0:Int)
def bv:Bool:=ltI (szN (jZ (1048576:Int) x3 x4 x5 x6 x7 x8) x9.length) (0:Int)
def cw:Bool:=bif rrT x0 x1 x2 x3 x4 x5 x6 x7 x8 x9 !=rrT x0 x1 x2 x3 x4 x5 x6 x7 x8 x9 then true else rrC x0 x1 x2 x3 x4 x5 x6 x7 x8 x9 !=rrC x0 x1 x2 x3 x4 x5 x6 x7 x8 x9
def fw:Bool:= !Mc x0 x1 x2 x0 x1 x2 x3 x4 x5 x6 x7 x8 x3 x4 x5 x6 x7 x8
def gQ:Bool:=leN x9.length (9223372036854775807:Nat)
def gR:Bool:=ba x3 x4 x5 x6 x7 x8||(bv x3 x4 x5 x6 x7 x8 x9||Hq x3 x4 x5 x6 x7 x8)
def gS:Bool:=leN x9.length (1048576:Nat)
def gT:Bool:=ba x3 x4 x5 x6 x7 x8||(bv x3 x4 x5 x6 x7 x8 x9||gS x9)
def gU:Bool:=ba x3 x4 x5 x6 x7 x8||(bv x3 x4 x5 x6 x7 x8 x9||BP (9223372036854775807:Nat) x3 x4 x5 x6 x7 x8)
def ki:Bool:=bif ba x3 x4 x5 x6 x7 x8 then true else bif bv x3 x4 x5 x6 x7 x8 x9 then true else bif cw x0 x1 x2 x3 x4 x5 x6 x7 x8 x9 then false else bif fw x0 x1 x2 x3 x4 x5 x6 x7 x8 then false else bif !aiC x9 x9 then false else true
def kj:Bool:=allT [Me (1048576:Int) x3 x4 x5,ba x3 x4 x5 x6 x7 x8||gQ x9&&(leI (-1:Int) (jZ (1048576:Int) x3 x4 x5 x6 x7 x8)&&leI (jZ (1048576:Int) x3 x4 x5 x6 x7 x8) (1048576:Int)),gR x3 x4 x5 x6 x7 x8 x9,gT x3 x4 x5 x6 x7 x8 x9,gU x3 x4 x5 x6 x7 x8 x9,gR x3 x4 x5 x6 x7 x8 x9,gT x3 x4 x5 x6 x7 x8 x9,gU x3 x4 x5 x6 x7 x8 x9,ba x3 x4 x5 x6 x7 x8||(bv x3 x4 x5 x6 x7 x8 x9||(cw x0 x1 x2 x3 x4 x5 x6 x7 x8 x9||Hq x3 x4 x5 x6 x7 x8)),ba x3 x4 x5 x6 x7 x8||(bv x3 x4 x5 x6 x7 x8 x9||(cw x0 x1 x2 x3 x4 x5 x6 x7 x8 x9||Md x0 x1 x0 x1 x3 x4 x5 x6 x7 x8 x3 x4 x5 x6 x7)),ba x3 x4 x5 x6 x7 x8||(bv x3 x4 x5 x6 x7 x8 x9||(cw x0 x1 x2 x3 x4 x5 x6 x7 x8 x9||(fw x0 x1 x2 x3 x4 x5 x6 x7 x8||gS x9))),ba x3 x4 x5 x6 x7 x8||(bv x3 x4 x5 x6 x7 x8 x9||(cw x0 x1 x2 x3 x4 x5 x6 x7 x8 x9||(fw x0 x1 x2 x3 x4 x5 x6 x7 x8||gQ x9)))]
end
def Da:List SV→List Entry→Option Out
 | [.one ⟨true,[.val (.int .i64 x0),.ref 0,.ref 1,.ref 2,.ref 3,.val (.int .i64 x1),.ref 4,.ref 5,.val (.int .i64 x2)]⟩,.one ⟨false,[.ref 6]⟩],[.row false 2 (.int .i64) x3,.row false 206 (.pair (.int .i64) (.pair (.int .i64) (.int .i64))) x4,.row false 24 (.sl 2 (.int .i64)) x5,.row false 208 (.pair (.int .i64) (.pair (.int .i64) (.int .i64))) x6,.row false 210 (.pair (.int .i64) (.int .i64)) x7,.row false 212 (.pair (.int .i64) (.int .i64)) x8,.row false 83 (.pair (.int .i64) (.pair (.int .i64) (.pair (.pair (.int .i64) (.int .i64)) (.pair (.int .i64) (.pair (.int .i64) (.bool)))))) x9]=>some ⟨(.one ⟨false,[(.val (.bool (ki x0 x1 x2 x3 x4 x5 x6 x7 x8 x9)))]⟩),[(.row false 2 amU x3),(.row false 206 amS x4),(.row false 24 (CTy.sl (2:TypeId) amU) x5),(.row false 208 amS x6),(.row false 210 amT x7),(.row false 212 amT x8),(.row false 83 amR x9)],[],[(kj x0 x1 x2 x3 x4 x5 x6 x7 x8 x9)]⟩
 |_,_=>none
def MG:PF Tryz.prog:=PF.ofG Tryz.prog [PF.trees Tryz.prog,DA,PF.lend DA,PF.fz DA,DC,PF.lend DC,PF.fz DC,Rj,PF.lend Rj,PF.fz Rj,Id,PF.lend Id,PF.fz Id,Rk,PF.lend Rk,PF.fz Rk,Ie,PF.lend Ie,PF.fz Ie,Ri,PF.lend Ri,PF.fz Ri,Ic,PF.lend Ic,PF.fz Ic] [] ay 7 Tryz.f7 Tryz.func7 (fun c _=>LOk.nil c) Da (by
 intro vs es r h;unfold Da at h;split at h
 ·cases h;kernel_rfl
 ·cases h)
end Go.SX

namespace Go.SX
open Go.Proofs
set_option maxRecDepth 100000
def ir(k:Int)(n:Nat):Int:=bif ltI (k - (n:Int)) 0 then -1 else k - (n:Int)
theorem AC{k:Int}{n:Nat}(h:ltI (ir k n) 0=false):(n:Int)≤k∧0≤ir k n∧ir k n≤k:=by
 have h0:=Bx.1 h
 unfold ir at h0 ⊢
 cases hz:ltI (k - (n:Int)) 0 with
 |true=>rw [hz]at h0;simp at h0
 |false=>have:=Bx.1 hz;simp;omega
theorem Xs{k:Int}{n:Nat}(hk:0≤k∧k≤1048576)(hn:n≤9223372036854775807):(bif ltI (IntKind.i64.wrap (k - (n:Int))) 0 then(-1:Int)else IntKind.i64.wrap (k - (n:Int)))=ir k n:=by
 rw [bp (by omega) (by omega)];rfl
theorem akf(ps:List Int)(fs:List (Int×Int×Int))(rs:List (List Int))(lf:List (Int×Int×Int))(pl ls:List (Int×Int))(h:BP 9223372036854775807 ps fs rs lf pl ls=true):
  Me 1048576 ps fs rs=true∧(ltI (jZ 1048576 ps fs rs lf pl ls) 0=false→BP 1048576 ps fs rs lf pl ls=true):=by
 obtain⟨h1,h2,⟨h3,h4⟩,h5,h6,h7⟩:=LO.1 h
 have q1:leN ps.length 9223372036854775807=true:=hY h1
 have q3:acb 9223372036854775807 rs=true:=aaH.2 ⟨h3,h4⟩
 have e1:szV 1048576 ps=ir 1048576 ps.length:=rfl
 have p1:leI (-1) 1048576=true:=bZ (by omega)
 have p2:leI 1048576 1048576=true:=bZ (by omega)
 have n1:ltI (-1) 0=true:=db (by omega)
 simp only [Me,jZ,JA,e1,q1,q3,p1,p2,allT,Bool.and_true,Bool.true_and,cond_true]
 cases a1:ltI (ir 1048576 ps.length) 0 with
 |true=>simp [n1]
 |false=>
  obtain⟨b1,c1,d1⟩:=AC a1
  have e2:eR (ir 1048576 ps.length) fs=ir (ir 1048576 ps.length) fs.length:=Xs ⟨c1,d1⟩ h2
  rw [e2]
  cases a2:ltI (ir (ir 1048576 ps.length) fs.length) 0 with
  |true=>simp [n1]
  |false=>
   obtain⟨b2,c2,d2⟩:=AC a2
   have p3:leI (-1) (ir (ir 1048576 ps.length) fs.length)=true:=bZ (by omega)
   have p4:leI (ir (ir 1048576 ps.length) fs.length) 1048576=true:=bZ (by omega)
   rw [p3,p4]
   refine⟨rfl,?_⟩
   simp only [cond_false]
   cases a3:ltI (ID (ir (ir 1048576 ps.length) fs.length) rs) 0 with
   |true=>simp [n1]
   |false=>
    obtain⟨b3,c3,d3⟩:=afr (by omega) a3
    obtain⟨b3,b4⟩:=aaH.1 b3
    have e4:rM (ID (ir (ir 1048576 ps.length) fs.length) rs) lf=ir (ID (ir (ir 1048576 ps.length) fs.length) rs) lf.length:=Xs ⟨c3,by omega⟩ h5
    rw [e4,cond_false]
    cases a4:ltI (ir (ID (ir (ir 1048576 ps.length) fs.length) rs) lf.length) 0 with
    |true=>simp [n1]
    |false=>
     obtain⟨b5,c5,d5⟩:=AC a4
     have e5:FE (ir (ID (ir (ir 1048576 ps.length) fs.length) rs) lf.length) pl=ir (ir (ID (ir (ir 1048576 ps.length) fs.length) rs) lf.length) pl.length:=Xs ⟨c5,by omega⟩ h6
     rw [e5,cond_false]
     cases a5:ltI (ir (ir (ID (ir (ir 1048576 ps.length) fs.length) rs) lf.length) pl.length) 0 with
     |true=>simp [n1]
     |false=>
      obtain⟨b6,c6,d6⟩:=AC a5
      have e6:Jz (ir (ir (ID (ir (ir 1048576 ps.length) fs.length) rs) lf.length) pl.length) ls=ir (ir (ir (ID (ir (ir 1048576 ps.length) fs.length) rs) lf.length) pl.length) ls.length:=Xs ⟨c6,by omega⟩ h7
      rw [e6,cond_false]
      cases a6:ltI (ir (ir (ir (ID (ir (ir 1048576 ps.length) fs.length) rs) lf.length) pl.length) ls.length) 0 with
      |true=>simp [n1]
      |false=>
       obtain⟨b7,c7,d7⟩:=AC a6
       exact fun _=>LO.2 ⟨by omega,by omega,⟨b3,b4⟩,by omega,by omega,by omega⟩
theorem aii(ps:List Int)(fs:List (Int×Int×Int))(rs:List (List Int))(lf:List (Int×Int×Int))(pl ls:List (Int×Int))(h:BP 1048576 ps fs rs lf pl ls=true):Hq ps fs rs lf pl ls=true:=by
 simp only [BP,Bool.and_eq_true]at h
 obtain⟨h1,h2,h3,h4,h5,h6⟩:=h
 simp only [Hq,allT,h1,h2,h3,h4,h5,h6,cond_true]
theorem ahx(n mode day:Int)(ps:List Int)(fs:List (Int×Int×Int))(rs:List (List Int))(lf:List (Int×Int×Int))(pl ls:List (Int×Int))(h:BP 9223372036854775807 ps fs rs lf pl ls=true):
  Mc n mode day n mode day ps fs rs lf pl ls ps fs rs lf pl ls=true∧Md n mode n mode ps fs rs lf pl ls ps fs rs lf pl=true:=by
 simp only [BP,Bool.and_eq_true]at h
 obtain⟨h1,h2,h3,h4,h5,h6⟩:=h
 have e1:eqT n n ps ps=true:=by simp [eqT,eqL]
 have e2:KY fs fs=true:=by simp [KY]
 have e3:agK rs rs=true:=by simp [agK]
 have e4:KY lf lf=true:=by simp [KY]
 have e5:acA pl pl=true:=by simp [acA]
 have e6:acA ls ls=true:=by simp [acA]
 simp [Mc,Md,allT,e1,e2,e3,e4,e5,e6,h1,h2,h3,h4,h5,h6]
theorem akO{ps:List Int}{fs:List (Int×Int×Int)}{rs:List (List Int)}{lf:List (Int×Int×Int)}{pl ls:List (Int×Int)}(h1:ps.length≤maxLen)(h2:fs.length≤maxLen)(h3:rs.length≤maxLen)(h4: ∀ x∈rs,x.length≤maxLen)(h5:lf.length≤maxLen)(h6:pl.length≤maxLen)(h7:ls.length≤maxLen):BP 9223372036854775807 ps fs rs lf pl ls=true:=
 LO.2 ⟨h1,h2,⟨h3,h4⟩,h5,h6,h7⟩
theorem ake(ps:LI)(fs:L3)(rs:List LI)(lf:L3)(pl ls:L2)(h:BP 9223372036854775807 ps fs rs lf pl ls=true):jZ 1048576 ps fs rs lf pl ls≤1048576:=by
 obtain⟨h1,h2,⟨h3,h4⟩,h5,h6,h7⟩:=LO.1 h
 have e1:szV 1048576 ps=ir 1048576 ps.length:=rfl
 simp only [jZ,JA,e1]
 cases a1:ltI (ir 1048576 ps.length) 0 with
 |true=>simp
 |false=>
  obtain⟨b1,c1,d1⟩:=AC a1
  have e2:eR (ir 1048576 ps.length) fs=ir (ir 1048576 ps.length) fs.length:=Xs ⟨c1,d1⟩ h2
  rw [e2]
  cases a2:ltI (ir (ir 1048576 ps.length) fs.length) 0 with
  |true=>simp
  |false=>
   obtain⟨b2,c2,d2⟩:=AC a2
   simp only [cond_false]
   cases a3:ltI (ID (ir (ir 1048576 ps.length) fs.length) rs) 0 with
   |true=>simp
   |false=>
    obtain⟨b3,c3,d3⟩:=afr (by omega) a3
    have e4:rM (ID (ir (ir 1048576 ps.length) fs.length) rs) lf=ir (ID (ir (ir 1048576 ps.length) fs.length) rs) lf.length:=Xs ⟨c3,by omega⟩ h5
    rw [e4,cond_false]
    cases a4:ltI (ir (ID (ir (ir 1048576 ps.length) fs.length) rs) lf.length) 0 with
    |true=>simp
    |false=>
     obtain⟨b5,c5,d5⟩:=AC a4
     have e5:FE (ir (ID (ir (ir 1048576 ps.length) fs.length) rs) lf.length) pl=ir (ir (ID (ir (ir 1048576 ps.length) fs.length) rs) lf.length) pl.length:=Xs ⟨c5,by omega⟩ h6
     rw [e5,cond_false]
     cases a5:ltI (ir (ir (ID (ir (ir 1048576 ps.length) fs.length) rs) lf.length) pl.length) 0 with
     |true=>simp
     |false=>
      obtain⟨b6,c6,d6⟩:=AC a5
      have e6:Jz (ir (ir (ID (ir (ir 1048576 ps.length) fs.length) rs) lf.length) pl.length) ls=ir (ir (ir (ID (ir (ir 1048576 ps.length) fs.length) rs) lf.length) pl.length) ls.length:=Xs ⟨c6,by omega⟩ h7
      rw [e6,cond_false]
      cases a6:ltI (ir (ir (ir (ID (ir (ir 1048576 ps.length) fs.length) rs) lf.length) pl.length) ls.length) 0 with
      |true=>simp
      |false=>
       obtain⟨b7,c7,d7⟩:=AC a6
       rw [cond_false];omega
theorem Yw(n:Int)(ps:LI)(fs:L3)(rs:List LI)(lf:L3)(mode:Int)(pl ls:L2)(day:Int)(xs:List RX)(wps:wfD (.sl 2 (.int .i64)) ps)(wfs:wfD (.sl 206 (.pair (.int .i64) (.pair (.int .i64) (.int .i64)))) fs)(wrs:wfD (.sl 24 (.sl 2 (.int .i64))) rs)(wlf:wfD (.sl 208 (.pair (.int .i64) (.pair (.int .i64) (.int .i64)))) lf)(wpl:wfD (.sl 210 (.pair (.int .i64) (.int .i64))) pl)(wls:wfD (.sl 212 (.pair (.int .i64) (.int .i64))) ls)(wxs:wfD (.sl 83 (.pair (.int .i64) (.pair (.int .i64) (.pair (.pair (.int .i64) (.int .i64)) (.pair (.int .i64) (.pair (.int .i64) (.bool))))))) xs):
  ki n mode day ps fs rs lf pl ls xs=true∧kj n mode day ps fs rs lf pl ls xs=true:=by
 have hN:BP 9223372036854775807 ps fs rs lf pl ls=true:=akO wps.1 wfs.1 wrs.1 (fun x hx=>(wrs.2 x hx).1) wlf.1 wpl.1 wls.1
 obtain⟨s1,s2⟩:=akf ps fs rs lf pl ls hN
 obtain⟨g1,g2⟩:=ahx n mode day ps fs rs lf pl ls hN
 have eX: ∀ l:List RX,aiC l l=true:=ajM
 cases r0:ltI (jZ 1048576 ps fs rs lf pl ls) 0 with
 |true=>simp [ki,kj,ba,bv,cw,fw,gQ,gR,gS,gT,gU,r0,s1,allT]
 |false=>
  have hK:=s2 r0
  have tR:=aii _ _ _ _ _ _ hK
  have i2:leI (-1) (jZ 1048576 ps fs rs lf pl ls)=true:=bZ (by have:=Bx.1 r0;omega)
  have i3:leI (jZ 1048576 ps fs rs lf pl ls) 1048576=true:=bZ (ake ps fs rs lf pl ls hN)
  have l1:leN xs.length 9223372036854775807=true:=hY wxs.1
  cases r1:ltI (szN (jZ 1048576 ps fs rs lf pl ls) xs.length) 0 with
  |true=>simp [ki,kj,ba,bv,cw,fw,gQ,gR,gS,gT,gU,r0,r1,s1,l1,i2,i3,hN,tR,allT]
  |false=>
   have lx:xs.length≤1048576:=by
    have h2:=JH.1 i3
    unfold szN at r1
    cases hz:ltI (jZ 1048576 ps fs rs lf pl ls - (xs.length:Int)) 0 with
    |true=>rw [hz]at r1;cases r1
    |false=>have:=Bx.1 hz;omega
   have l2:leN xs.length 1048576=true:=hY lx
   have r_a0:=Eq.refl (ba ps fs rs lf pl ls)
   conv at r_a0=>rhs;simp only [ba,cond_true,cond_false,Bool.cond_self,Bool.not_true,Bool.not_false,Bool.true_or,Bool.or_true,Bool.false_or,Bool.or_false,Bool.and_self,Bool.and_true,Bool.true_and,Bool.false_and,Bool.and_false,bne_self_eq_false,beq_self_eq_true,allT,r0,s1,tR,hN,g1,g2,i2,i3,eX,l1,l2,r1]
   have r_a1:=Eq.refl (bv ps fs rs lf pl ls xs)
   conv at r_a1=>rhs;simp only [bv,cond_true,cond_false,Bool.cond_self,Bool.not_true,Bool.not_false,Bool.true_or,Bool.or_true,Bool.false_or,Bool.or_false,Bool.and_self,Bool.and_true,Bool.true_and,Bool.false_and,Bool.and_false,bne_self_eq_false,beq_self_eq_true,allT,r0,s1,tR,hN,g1,g2,i2,i3,eX,l1,l2,r1,r_a0]
   have r_a2:=Eq.refl (cw n mode day ps fs rs lf pl ls xs)
   conv at r_a2=>rhs;simp only [cw,cond_true,cond_false,Bool.cond_self,Bool.not_true,Bool.not_false,Bool.true_or,Bool.or_true,Bool.false_or,Bool.or_false,Bool.and_self,Bool.and_true,Bool.true_and,Bool.false_and,Bool.and_false,bne_self_eq_false,beq_self_eq_true,allT,r0,s1,tR,hN,g1,g2,i2,i3,eX,l1,l2,r1,r_a0,r_a1]
   have r_a3:=Eq.refl (fw n mode day ps fs rs lf pl ls)
   conv at r_a3=>rhs;simp only [fw,cond_true,cond_false,Bool.cond_self,Bool.not_true,Bool.not_false,Bool.true_or,Bool.or_true,Bool.false_or,Bool.or_false,Bool.and_self,Bool.and_true,Bool.true_and,Bool.false_and,Bool.and_false,bne_self_eq_false,beq_self_eq_true,allT,r0,s1,tR,hN,g1,g2,i2,i3,eX,l1,l2,r1,r_a0,r_a1,r_a2]
   have r_a4:=Eq.refl (gQ xs)
   conv at r_a4=>rhs;simp only [gQ,cond_true,cond_false,Bool.cond_self,Bool.not_true,Bool.not_false,Bool.true_or,Bool.or_true,Bool.false_or,Bool.or_false,Bool.and_self,Bool.and_true,Bool.true_and,Bool.false_and,Bool.and_false,bne_self_eq_false,beq_self_eq_true,allT,r0,s1,tR,hN,g1,g2,i2,i3,eX,l1,l2,r1,r_a0,r_a1,r_a2,r_a3]
   have r_a5:=Eq.refl (gR ps fs rs lf pl ls xs)
   conv at r_a5=>rhs;simp only [gR,cond_true,cond_false,Bool.cond_self,Bool.not_true,Bool.not_false,Bool.true_or,Bool.or_true,Bool.false_or,Bool.or_false,Bool.and_self,Bool.and_true,Bool.true_and,Bool.false_and,Bool.and_false,bne_self_eq_false,beq_self_eq_true,allT,r0,s1,tR,hN,g1,g2,i2,i3,eX,l1,l2,r1,r_a0,r_a1,r_a2,r_a3,r_a4]
   have r_a6:=Eq.refl (gS xs)
   conv at r_a6=>rhs;simp only [gS,cond_true,cond_false,Bool.cond_self,Bool.not_true,Bool.not_false,Bool.true_or,Bool.or_true,Bool.false_or,Bool.or_false,Bool.and_self,Bool.and_true,Bool.true_and,Bool.false_and,Bool.and_false,bne_self_eq_false,beq_self_eq_true,allT,r0,s1,tR,hN,g1,g2,i2,i3,eX,l1,l2,r1,r_a0,r_a1,r_a2,r_a3,r_a4,r_a5]
   have r_a7:=Eq.refl (gT ps fs rs lf pl ls xs)
   conv at r_a7=>rhs;simp only [gT,cond_true,cond_false,Bool.cond_self,Bool.not_true,Bool.not_false,Bool.true_or,Bool.or_true,Bool.false_or,Bool.or_false,Bool.and_self,Bool.and_true,Bool.true_and,Bool.false_and,Bool.and_false,bne_self_eq_false,beq_self_eq_true,allT,r0,s1,tR,hN,g1,g2,i2,i3,eX,l1,l2,r1,r_a0,r_a1,r_a2,r_a3,r_a4,r_a5,r_a6]
   have r_a8:=Eq.refl (gU ps fs rs lf pl ls xs)
   conv at r_a8=>rhs;simp only [gU,cond_true,cond_false,Bool.cond_self,Bool.not_true,Bool.not_false,Bool.true_or,Bool.or_true,Bool.false_or,Bool.or_false,Bool.and_self,Bool.and_true,Bool.true_and,Bool.false_and,Bool.and_false,bne_self_eq_false,beq_self_eq_true,allT,r0,s1,tR,hN,g1,g2,i2,i3,eX,l1,l2,r1,r_a0,r_a1,r_a2,r_a3,r_a4,r_a5,r_a6,r_a7]
   refine⟨?_,?_⟩ <;> simp only [ki,kj,cond_true,cond_false,Bool.cond_self,Bool.not_true,Bool.not_false,Bool.true_or,Bool.or_true,Bool.false_or,Bool.or_false,Bool.and_self,Bool.and_true,Bool.true_and,Bool.false_and,Bool.and_false,bne_self_eq_false,beq_self_eq_true,allT,r0,s1,tR,hN,g1,g2,i2,i3,eX,l1,l2,r1,r_a0,r_a1,r_a2,r_a3,r_a4,r_a5,r_a6,r_a7,r_a8]
end Go.SX
