/- What functions of the program come to, and what that says in plain words: part 3. -/
import Derived.Test.YtbajbgcdcaknpaaGreatDoorMb
import Derived.Test.YtbajbgcdcaknpaaGreatDoorTXh
import Derived.Test.YtbajbgcdcaknpaaGreatDoorProg
import Derived.Test.YtbajbgcdcaknpaaGreatDoorTXk
set_option linter.unusedSimpArgs false
set_option linter.unusedVariables false
namespace Go.SX
open Go.Proofs
set_option maxRecDepth 100000
def ajX(x0:Int):Bool:=x0 !=(2:Int)
def Xn:List SV→List Entry→Option Out
 | [.one ⟨false,[.val (.int .i64 x0)]⟩],[]=>some ⟨(.one ⟨false,[(.val (.bool (ajX x0)))]⟩),[],[],[]⟩
 |_,_=>none
def aj4:PF Tryz.prog:=PF.ofG Tryz.prog [] [] aq 159 Tryz.f159 Tryz.func159 (fun c _=>LOk.nil c) Xn (by
 intro vs es r h;unfold Xn at h;split at h
 ·cases h;kernel_rfl
 ·cases h)
def ym(x0:Int):Bool:=x0 !=(2:Int)
def OO:List SV→List Entry→Option Out
 | [(.one ⟨false,[(.val (.int .i64 x0))]⟩)],[]=>some ⟨(.one ⟨false,[(.val (.bool (ym x0)))]⟩),[],[],[]⟩
 |_,_=>none
def Po:PF Tryz.prog:=PF.ofG Tryz.prog [] [] aq 159 Tryz.f159 Tryz.func159 (fun c _=>LOk.nil c) OO (by
 intro vs es r h;unfold OO at h;split at h
 ·cases h;kernel_rfl
 ·cases h)
abbrev a8:=Int×Int×List Int
section
variable (y0 y1:Int)(y2:List Int)
def gv:Bool:=ltI y0 y1
def gw:Bool:=leI (0:Int) y0
def gx:Bool:=ltI y0 (↑y2.length:Int)
def gy:Bool:=ltN y0.toNat y2.length
def gz:Bool:=ym (Option.getD y2[Int.toNat y0]? (0:Int))
def gA:Int:=IntKind.wrap .i64 (y0 + (1:Int))
end
def Lq:a8→List (Nat×SV)
 |(y0,y1,_)=> [(8,(.one ⟨false,[(.val (.int .i64 y0))]⟩)),(7,(.one ⟨false,[(.val (.int .i64 y1))]⟩)),(1,(.one ⟨false,[(.val (.func (.func 159) ⟨[]⟩ ⟨[]⟩))]⟩)),(0,(.one ⟨false,[(.ref 0)]⟩))]
def Ln:a8→List (Nat×Entry)
 |(_,_,y2)=> [(0,(.row false 2 axl y2))]
def Lv:Nat→a8→List (Nat×SV)
 |0,(y0,_,_)=> [(4,(.one ⟨false,[(.val (.int .i64 y0))]⟩))]
 |_,(_,_,_)=> []
def Lt:Nat→a8→List (Nat×Entry)
 |0,(_,_,y2)=> [(0,(.row false 2 axl y2))]
 |_,(_,_,y2)=> [(0,(.row false 2 axl y2))]
def fS:a8→LT a8
 |(y0,y1,y2)=> .ite (gv y0 y1) (.need [(gw y0),(gx y0 y2),(gy y0 y2)] (.ite (gz y0 y2) (.ext 0 [(0,0)]) (.nrm ((gA y0),y1,y2) [(0,0)]))) (.ext 1 [(0,0)])
def nZ(s:St):Option a8:=
 (match s.look 8 with
 |some ⟨none,(.one ⟨false,[(.val (.int .i64 y0))]⟩)⟩=>
 (match s.look 7 with
 |some ⟨none,(.one ⟨false,[(.val (.int .i64 y1))]⟩)⟩=>
 (match s.look 1 with
 |some ⟨none,(.one ⟨false,[(.val (.func (.func 159) ⟨[]⟩ ⟨[]⟩))]⟩)⟩=>
 (match s.look 0 with
 |some ⟨none,(.one ⟨false,[(.ref 0)]⟩)⟩=>
 (match s.ent 0 with
 |some (.row false 2 (.int .i64) y2)=>
 some (y0,y1,y2)
 |_=>none)
 |_=>none)
 |_=>none)
 |_=>none)
 |_=>none)
def ap:Lp a8 where
 h:=⟨[9,10,5,11,12,13,14,15,16,17,4,18,8],[0],[],[]⟩
 JL:=Lq
 JE:=Ln
 XL:=Lv
 XE:=Lt
 q:=fun j=>match j with | 0=> .ret | _=> .exit 0
 tags:= [0,1]
 lt:=fS
 fuel:=fun(y0,y1,y2)=>y0.natAbs + y1.natAbs + y2.length
 fix:=fun(_,y1,y2) (y0,_,_)=>(y0,y1,y2)
 σ:= [(0,0)]
 rd:=nZ
theorem KB:LoopOk Tryz.prog (fun k=>Nat.blt k Tryz.f211.ntmps) ap.F (au Tryz.f211 0):=by
 refine Lp.ok (tbl:= [Po]) (lf:= []) aq ap (by kernel_rfl) (LOk.nil _) (fun _=>rfl) (fun j _=>by unfold ap;match j with | 0=>rfl | _ + 1=>rfl) ?_ ?_ ?_ ?_ (fun _=>rfl) ?_
 ·rintro⟨y0,y1,y2⟩;kernel_rfl
 ·rintro⟨y0,y1,y2⟩;kernel_rfl
 ·intro s x h
  have h:nZ s=some x:=h
  unfold nZ at h
  repeat' split at h
  all_goals cases h
  exact⟨aa (by assumption) rfl (aa (by assumption) rfl (aa (by assumption) rfl (aa (by assumption) rfl (rfl)))),ab rfl (by assumption) rfl (rfl)⟩
 ·rintro⟨y0,y1,y2⟩;kernel_rfl
 ·rintro⟨y0,y1,y2⟩ z;exact(And.intro (And.intro trivial rfl) trivial)
section
variable (x0:List Int)
def kF:Int×Int×List Int:=((0:Int),(↑x0.length:Int),x0)
def rz:Int:=bif Nat.beq ((Lp.res ap (kF x0)).1) (0:Nat)then ((Lp.res ap (kF x0)).2).1else(-1:Int)
def rA:Bool:=allT [Lp.fin ap (kF x0)]
end
def AY:List SV→List Entry→Option Out
 | [(.one ⟨false,[(.ref 0)]⟩),(.one ⟨false,[(.val (.func (.func 159) ⟨[]⟩ ⟨[]⟩))]⟩)],[(.row false 2 (.int .i64) x0)]=>some ⟨(.one ⟨false,[(.val (.int .i64 (rz x0)))]⟩),[(.row false 2 axl x0)],[],[(rA x0)]⟩
 |_,_=>none
def rv:PF Tryz.prog:=PF.ofG Tryz.prog [Po] [ap.F] aq 211 Tryz.f211 Tryz.func211 (LOk.fnT (l:= [au Tryz.f211 0]) (by kernel_rfl) (.cons KB (.nil _))) AY (by
 intro vs es r h;unfold AY at h;split at h
 ·cases h;kernel_rfl
 ·cases h)
def oU(x0:List Int):Bool:=leI (0:Int) (rz x0)
def oV(x0:List Int):Bool:=allT [rA x0]
def yc:List SV→List Entry→Option Out
 | [(.one ⟨false,[(.ref 0)]⟩),(.one ⟨false,[(.val (.func (.func 159) ⟨[]⟩ ⟨[]⟩))]⟩)],[(.row false 2 (.int .i64) x0)]=>some ⟨(.one ⟨false,[(.val (.bool (oU x0)))]⟩),[(.row false 2 axl x0)],[],[(oV x0)]⟩
 |_,_=>none
def oQ:PF Tryz.prog:=PF.ofG Tryz.prog [rv,PF.lend rv,PF.fz rv] [] aq 158 Tryz.f158 Tryz.func158 (fun c _=>LOk.nil c) yc (by
 intro vs es r h;unfold yc at h;split at h
 ·cases h;kernel_rfl
 ·cases h)
def TQ(x0:List Int):Bool:= !oU x0
def TR(x0:List Int):Bool:=allT [oV x0]
def abm:List SV→List Entry→Option Out
 | [.one ⟨false,[.ref 0]⟩],[.row false 2 (.int .i64) x0]=>some ⟨(.one ⟨false,[(.val (.bool (TQ x0)))]⟩),[(.row false 2 axl x0)],[],[(TR x0)]⟩
 |_,_=>none
def amF:PF Tryz.prog:=PF.ofG Tryz.prog [aj4,oQ,PF.lend oQ,PF.fz oQ] [] aq 64 Tryz.f64 Tryz.func64 (fun c _=>LOk.nil c) abm (by
 intro vs es r h;unfold abm at h;split at h
 ·cases h;kernel_rfl
 ·cases h)
def cv(x0 x3:Int)(x4:List Int):Bool:=Option.getD x4[Int.toNat x3]? (0:Int)==IntKind.wrap .i64 (IntKind.wrap .i64 ((3:Int) * IntKind.wrap .i64 (x0 - (1:Int))) + (1:Int))
def qV(x3:Int)(x4:List Int):Bool:=allT [leI (0:Int) x3,ltI x3 (↑x4.length:Int),ltN x3.toNat x4.length]
def abG:List SV→List Entry→Option Out
 | [.one ⟨true,[.val (.int .i64 x0),.ref 0,.ref 1,.ref 2,.ref 3,.val (.int .i64 _x1),.ref 4,.ref 5,.val (.int .i64 _x2)]⟩,.one ⟨false,[.val (.int .i64 x3)]⟩],[.row false 2 (.int .i64) x4,.row false 169 (.pair (.int .i64) (.pair (.int .i64) (.int .i64))) x5,.row false 24 (.sl 2 (.int .i64)) x6,.row false 100 (.pair (.int .i64) (.pair (.int .i64) (.int .i64))) x7,.row false 173 (.pair (.int .i64) (.int .i64)) x8,.row false 176 (.pair (.int .i64) (.int .i64)) x9]=>some ⟨(.one ⟨false,[(.val (.bool (cv x0 x3 x4)))]⟩),[(.row false 2 axl x4),(.row false 169 axj x5),(.row false 24 (CTy.sl (2:TypeId) axl) x6),(.row false 100 axj x7),(.row false 173 axk x8),(.row false 176 axk x9)],[],[(qV x3 x4)]⟩
 |_,_=>none
def gj:PF Tryz.prog:=PF.ofG Tryz.prog [] [] aq 93 Tryz.f93 Tryz.func93 (fun c _=>LOk.nil c) abG (by
 intro vs es r h;unfold abG at h;split at h
 ·cases h;kernel_rfl
 ·cases h)
abbrev ke:=Int×Int×List Int
section
variable (y0 y1:Int)(y2:List Int)
def vE:Int:=Option.getD y2[Int.toNat y0]? (0:Int)
def xQ:Bool:=ltI y0 (↑y2.length:Int)
def EB:Bool:=leI (0:Int) y0
def EC:Bool:=ltN y0.toNat y2.length
def ED:Int:=IntKind.wrap .i64 (y0 + (1:Int))
def EE:Int:=apA (vE y0 y2) y1 (vE y0 y2) y1
end
def ahU:ke→List (Nat×SV)
 |(y0,y1,_)=> [(4,(.one ⟨false,[(.val (.int .i64 y0))]⟩)),(0,(.one ⟨false,[(.ref 0)]⟩)),(3,(.one ⟨false,[(.val (.int .i64 y1))]⟩))]
def ahL:ke→List (Nat×Entry)
 |(_,_,y2)=> [(0,(.row false 2 axl y2))]
def aic:Nat→ke→List (Nat×SV)
 |_,(_,y1,_)=> [(3,(.one ⟨false,[(.val (.int .i64 y1))]⟩))]
def ah3:Nat→ke→List (Nat×Entry)
 |_,(_,_,y2)=> [(0,(.row false 2 axl y2))]
def BS:ke→LT ke
 |(y0,y1,y2)=> .ite (xQ y0 y2) (.need [(EB y0),(xQ y0 y2),(EC y0 y2)] (.nrm ((ED y0),(EE y0 y1 y2),y2) [(0,0)])) (.ext 0 [(0,0)])
def OK(s:St):Option ke:=
 (match s.look 4 with
 |some ⟨none,(.one ⟨false,[(.val (.int .i64 y0))]⟩)⟩=>
 (match s.look 0 with
 |some ⟨none,(.one ⟨false,[(.ref 0)]⟩)⟩=>
 (match s.look 3 with
 |some ⟨none,(.one ⟨false,[(.val (.int .i64 y1))]⟩)⟩=>
 (match s.ent 0 with
 |some (.row false 2 (.int .i64) y2)=>
 some (y0,y1,y2)
 |_=>none)
 |_=>none)
 |_=>none)
 |_=>none)
def fh:Lp ke where
 h:=⟨[8,9,10,11,14,15,16,17,18,19,3,12,13,4],[0],[],[]⟩
 JL:=ahU
 JE:=ahL
 XL:=aic
 XE:=ah3
 q:=fun j=>match j with | _=> .exit 0
 tags:= [0]
 lt:=BS
 fuel:=fun(y0,y1,y2)=>y0.natAbs + y1.natAbs + y2.length
 fix:=fun(_,_,y2) (y0,y1,_)=>(y0,y1,y2)
 σ:= [(0,0)]
 rd:=OK
theorem ae0:LoopOk Tryz.prog (fun k=>Nat.blt k Tryz.f176.ntmps) fh.F (au Tryz.f176 0):=by
 refine Lp.ok (tbl:= []) (lf:= []) aq fh (by kernel_rfl) (LOk.nil _) (fun _=>rfl) (fun _ _=>rfl) ?_ ?_ ?_ ?_ (fun _=>rfl) ?_
 ·rintro⟨y0,y1,y2⟩;kernel_rfl
 ·rintro⟨y0,y1,y2⟩;kernel_rfl
 ·intro s x h
  have h:OK s=some x:=h
  unfold OK at h
  repeat' split at h
  all_goals cases h
  exact⟨aa (by assumption) rfl (aa (by assumption) rfl (aa (by assumption) rfl (rfl))),ab rfl (by assumption) rfl (rfl)⟩
 ·rintro⟨y0,y1,y2⟩;kernel_rfl
 ·rintro⟨y0,y1,y2⟩ z;exact(And.intro rfl trivial)
section
variable (x0:List Int)
def Jn:Int×Int×List Int:=((1:Int),Option.getD x0[Int.toNat (0:Int)]? (0:Int),x0)
def AR:Int:=((Lp.res fh (Jn x0)).2.2).1
def Lf:Bool:=allT [ltI (0:Int) (↑x0.length:Int),ltN (Int.toNat (0:Int)) x0.length,Lp.fin fh (Jn x0)]
end
def ad4:List SV→List Entry→Option Out
 | [.one ⟨false,[.ref 0]⟩],[.row false 2 (.int .i64) x0]=>some ⟨(.one ⟨false,[(.val (.int .i64 (AR x0)))]⟩),[(.row false 2 axl x0)],[],[(Lf x0)]⟩
 |_,_=>none
def Wl:PF Tryz.prog:=PF.ofG Tryz.prog [] [fh.F] aq 176 Tryz.f176 Tryz.func176 (LOk.fnT (l:= [au Tryz.f176 0]) (by kernel_rfl) (.cons ae0 (.nil _))) ad4 (by
 intro vs es r h;unfold ad4 at h;split at h
 ·cases h;kernel_rfl
 ·cases h)
end Go.SX

namespace Go.SX
open Go.Proofs
set_option maxRecDepth 100000
def Sh(st:List Int):Bool:=st.all fun x=>x==2
def mq(b:Int):(Int)→Nat ⊕ (Int)
 |y1=>(.inr (apA b y1 b y1))
def kW(y2:List Int)(i:Nat):(Int)→ke
 |y1=>(((i + 1:Nat):Int),y1,y2)
def OA:ke→Int
 |(_,y1,_)=>y1
theorem Zk(y2:List Int)(y1:Int)(hn:y2.length≤9223372036854775807):
  fh.fin ((1:Int),y1,y2)=true∧fh.res ((1:Int),y1,y2)=((ae (mq) 0 (y2.drop 1) 0 y1).1,(kW y2) (ae (mq) 0 (y2.drop 1) 0 y1).2.1 (ae (mq) 0 (y2.drop 1) 0 y1).2.2):=by
 have key:=fh.along (kW y2) OA (mq) 0 (fun _ _=>True) (y2.drop 1) y1 (by trivial) (by simp only [fh,kW,List.length_drop];omega) (fun i b a hb hI=> ?_) (fun a hI=> ?_)
 ·exact key
 ·obtain y1:=a
  rw [List.getElem?_drop,Nat.add_comm]at hb
  have hlt:=(List.getElem?_eq_some_iff.1 hb).1
  have hget: ∀ d,Option.getD y2[i + 1]? d=b:=fun d=>by rw [hb];rfl
  have hw:IntKind.i64.wrap (((i + 1:Nat):Int) + 1)=((i + 1 + 1:Nat):Int):=by rw [aw (by omega) (by omega)];omega
  have hdec:ltI ((i + 1:Nat):Int) (y2.length:Int)=true:=bZ (by omega)
  have hnn:leI (0:Int) ((i + 1:Nat):Int)=true:=bC (by omega)
  have hltd:ltN (i + 1) y2.length=true:=cB hlt
  refine⟨?_,?_,?_,?_⟩
  ·simp only [vE,xQ,EB,EC,ED,EE,BS,fh,LT.nds,allT,kW,Int.toNat_natCast,hdec,hnn,hltd,hget,cond_true]
  ·simp only [vE,xQ,EB,EC,ED,EE,BS,fh,LT.each,kW,OA,hw,and_self]
  ·simp only [vE,xQ,EB,EC,ED,EE,BS,fh,LT.fn,kW,OA,mq,Int.toNat_natCast,hdec,hnn,hltd,hget,cond_true,Bool.cond_self]
  ·exact fun _ _=>trivial
 ·obtain y1:=a
  simp only [vE,xQ,EB,EC,ED,EE,BS,fh,LT.out,kW,List.length_drop];rw [show ltI (((y2.length - 1) + 1:Nat):Int) (y2.length:Int)=false from aal (by omega)];rfl
def dA(b:Int):(Unit)→Nat ⊕ (Unit)
 |_=>(bif(ym b)then(.inl 0)else(.inr ()))
def bz(y2:List Int)(i:Nat):(Unit)→a8
 |_=>((i:Int),(↑y2.length:Int),y2)
def nX:a8→Unit
 |(_,_,_)=>()
theorem My(y2:List Int) (hn:y2.length≤9223372036854775807):
  ap.fin ((0:Int),(↑y2.length:Int),y2)=true∧ap.res ((0:Int),(↑y2.length:Int),y2)=((ae (dA) 1 y2 0 ()).1,(bz y2) (ae (dA) 1 y2 0 ()).2.1 (ae (dA) 1 y2 0 ()).2.2):=by
 have key:=ap.along (bz y2) nX (dA) 1 (fun _ _=>True) y2 () (by trivial) (by simp only [ap,bz];omega) (fun i b a hb hI=> ?_) (fun a hI=> ?_)
 ·exact key
 ·obtain⟨⟩:=a
  have hlt:=(List.getElem?_eq_some_iff.1 hb).1
  have hget: ∀ d,Option.getD y2[i]? d=b:=fun d=>by rw [hb];rfl
  have hw:=oW hlt hn
  have hdec:ltI (i:Int) (y2.length:Int)=true:=bZ (by omega)
  have hnn:leI (0:Int) (i:Int)=true:=bC (by omega)
  have hltd:ltN i y2.length=true:=cB hlt
  refine⟨?_,?_,?_,?_⟩
  ·simp [gv,gw,gx,gy,gz,gA,fS,ap,LT.nds,allT,bz,hdec,hnn,hltd,hget]
  ·simp [gv,gw,gx,gy,gz,gA,fS,ap,LT.each,bz,nX,hw]
  ·simp only [gv,gw,gx,gy,gz,gA,fS,ap,LT.fn,bz,nX,dA,Int.toNat_natCast,hdec,hnn,hltd,hget,cond_true,Bool.cond_self]
  ·exact fun _ _=>trivial
 ·obtain⟨⟩:=a
  simp [gv,gw,gx,gy,gz,gA,fS,ap,LT.out,bz]
theorem Ft{st:List Int}:areR st=true↔(1≤st.length∧st.length≤12)∧ ∀ v∈st,0≤v∧v≤2:=by
 simp only [areR,Bool.and_eq_true,sR,List.all_eq_true]
 constructor
 ·rintro⟨h1,h2⟩;exact⟨by omega,h2⟩
 ·rintro⟨h1,h2⟩;exact⟨by omega,h2⟩
theorem ava(st:List Int)(h:areR st=true):(AR st==2)=Sh st∧Lf st=true:=by
 obtain⟨h1,h2⟩:=Ft.1 h
 match st,h1,h2 with
 |x::xs,h1,h2=>
  have hx:=h2 x (by simp)
  obtain⟨w1,w2⟩:=Zk (x::xs) x (by omega)
  rw [iP (f:=mq) (g:=fun m b=>bif ltI b m then b else m) (fun b a=>by simp only [mq,aqS])]at w2
  have e0:Option.getD (x::xs)[Int.toNat 0]? 0=x:=rfl
  refine⟨?_,?_⟩
  ·simp only [AR,Jn,e0,w2,kW,List.drop_one,List.tail_cons]
   rw [amo xs x hx.1 hx.2 fun y hy=>h2 y (by simp [hy])]
   rfl
  ·simp only [Lf,Jn,e0,w1,allT]
   simp
theorem apC(st:List Int)(h:leN st.length 9223372036854775807=true):TQ st=Sh st∧TR st=true:=by
 obtain⟨w1,w2⟩:=My st (bT.1 h)
 rw [jp (P:=fun v=>v !=2) (j:=0) (fun v=>by simp only [dA,ym])]at w2
 have e5:(st.any fun v=>v !=2)= !Sh st:=by simp [Sh,List.all_eq_not_any_not,bne]
 rw [e5]at w2
 simp only [TQ,TR,oU,oV,rz,rA,kF,w1,w2,allT,bz]
 cases Sh st with
 |true=>exact⟨rfl,rfl⟩
 |false=>
  simp only [Bool.not_false,cond_true,Nat.beq]
  rw [bC (by omega)];simp
def abP:List SV→List Entry→Option Out
 | [.one ⟨false,[.ref 0]⟩],[.row false 2 (.int .i64) x0]=>some ⟨(.one ⟨false,[(.val (.bool (Sh x0)))]⟩),[(.row false 2 axl x0)],[],[leN x0.length 9223372036854775807]⟩
 |_,_=>none
def CC:PF Tryz.prog:=PF.alt amF abP (by
 intro args es o h hnd;unfold abP at h;split at h
 ·rename_i x0
  cases h
  have hnd:=bY hnd
  have hh:=apC x0 hnd
  obtain⟨e0,en⟩:=hh
  exact ek rfl (cg en) (by simp only [e0] <;> rfl) rfl rfl
 ·cases h)
end Go.SX

namespace Go.SX
open Go.Proofs
set_option maxRecDepth 100000
def ac(x0 x3:Int)(x4:List Int):Bool:=Option.getD x4[Int.toNat x3]? (0:Int)==IntKind.wrap .i64 (IntKind.wrap .i64 ((3:Int) * IntKind.wrap .i64 (x0 - (1:Int))) + (1:Int))
def bF(x3:Int)(x4:List Int):Bool:=allT [leI (0:Int) x3,ltI x3 (↑x4.length:Int),ltN x3.toNat x4.length]
def uj:List SV→List Entry→Option Out
 | [.one ⟨true,[.val (.int .i64 x0),.ref 0,.ref 1,.ref 2,.ref 3,.val (.int .i64 _x1),.ref 4,.ref 5,.val (.int .i64 _x2)]⟩,.one ⟨false,[.val (.int .i64 x3)]⟩],[.row false 2 (.int .i64) x4,.row false 169 (.pair (.int .i64) (.pair (.int .i64) (.int .i64))) x5,.row false 24 (.sl 2 (.int .i64)) x6,.row false 100 (.pair (.int .i64) (.pair (.int .i64) (.int .i64))) x7,.row false 173 (.pair (.int .i64) (.int .i64)) x8,.row false 176 (.pair (.int .i64) (.int .i64)) x9]=>some ⟨(.one ⟨false,[(.val (.bool (ac x0 x3 x4)))]⟩),[(.row false 2 axl x4),(.row false 169 axj x5),(.row false 24 (CTy.sl (2:TypeId) axl) x6),(.row false 100 axj x7),(.row false 173 axk x8),(.row false 176 axk x9)],[],[(bF x3 x4)]⟩
 |_,_=>none
def cD:PF Tryz.prog:=PF.ofG Tryz.prog [] [] aq 63 Tryz.f63 Tryz.func63 (fun c _=>LOk.nil c) uj (by
 intro vs es r h;unfold uj at h;split at h
 ·cases h;kernel_rfl
 ·cases h)
end Go.SX

namespace Go.SX
open Go.Proofs
set_option maxRecDepth 100000
theorem Km(x:Option (List Int)):Option.getD x (wu (CTy.sl (2:TypeId) axl))=x.getD []:=rfl
end Go.SX

namespace Go.SX
open Go.Proofs
set_option maxRecDepth 100000
abbrev j8:=Int×Int×List Int×List Int
section
variable (y0 y1:Int)(y2 y3:List Int)
def vi:Int:=Option.getD y2[Int.toNat y0]? (0:Int)
def Du:Bool:=ltI y0 y1
def xz:Bool:=leI (0:Int) y0
def Dv:Bool:=ltI y0 (↑y2.length:Int)
def Dw:Bool:=ltN y0.toNat y2.length
def Dx:Bool:=ltI y0 (↑y3.length:Int)
def Dy:Bool:=ltN y0.toNat y3.length
def Dz:Int:=IntKind.wrap .i64 (y0 + (1:Int))
def DA:List Int:=List.set y3 y0.toNat (apA (1:Int) (vi y0 y2) (1:Int) (vi y0 y2))
end
def ahO:j8→List (Nat×SV)
 |(y0,y1,_,_)=> [(17,(.one ⟨false,[(.val (.int .i64 y0))]⟩)),(16,(.one ⟨false,[(.val (.int .i64 y1))]⟩)),(15,(.one ⟨false,[(.ref 0)]⟩)),(5,(.one ⟨false,[(.ref 1)]⟩))]
def ahF:j8→List (Nat×Entry)
 |(_,_,y2,y3)=> [(0,(.row true 2 axl y2)),(1,(.row true 2 axl y3))]
def ah6:Nat→j8→List (Nat×SV)
 |_,(_,_,_,_)=> []
def ahX:Nat→j8→List (Nat×Entry)
 |_,(_,_,y2,y3)=> [(0,(.row true 2 axl y2)),(1,(.row true 2 axl y3))]
def BM:j8→LT j8
 |(y0,y1,y2,y3)=> .ite (Du y0 y1) (.need [(xz y0),(Dv y0 y2),(Dw y0 y2)] (.need [(xz y0),(Dx y0 y3),(Dy y0 y3)] (.nrm ((Dz y0),y1,y2,(DA y0 y2 y3)) [(0,0),(1,1)]))) (.ext 0 [(0,0),(1,1)])
def OD(s:St):Option j8:=
 (match s.look 17 with
 |some ⟨none,(.one ⟨false,[(.val (.int .i64 y0))]⟩)⟩=>
 (match s.look 16 with
 |some ⟨none,(.one ⟨false,[(.val (.int .i64 y1))]⟩)⟩=>
 (match s.look 15 with
 |some ⟨none,(.one ⟨false,[(.ref 640)]⟩)⟩=>
 (match s.look 5 with
 |some ⟨none,(.one ⟨false,[(.ref 448)]⟩)⟩=>
 (match s.ent 640 with
 |some (.row true 2 (.int .i64) y2)=>
 (match s.ent 448 with
 |some (.row true 2 (.int .i64) y3)=>
 some (y0,y1,y2,y3)
 |_=>none)
 |_=>none)
 |_=>none)
 |_=>none)
 |_=>none)
 |_=>none)
def dR:Lp j8 where
 h:=⟨[18,19,20,21,6,7,22,23,24,25,26,27,17],[0,1],[],[]⟩
 JL:=ahO
 JE:=ahF
 XL:=ah6
 XE:=ahX
 q:=fun j=>match j with | _=> .exit 0
 tags:= [0]
 lt:=BM
 fuel:=fun(y0,y1,y2,y3)=>y0.natAbs + y1.natAbs + y2.length + y3.length
 fix:=fun(_,y1,y2,_) (y0,_,_,y3)=>(y0,y1,y2,y3)
 σ:= [(0,640),(1,448)]
 rd:=OD
theorem aeU:LoopOk Tryz.prog (fun k=>Nat.blt k Tryz.f202.ntmps) dR.F (au Tryz.f202 0):=by
 refine Lp.ok (tbl:= [ai,PF.lend ai,PF.fz ai,bk,PF.lend bk,PF.fz bk]) (lf:= []) aq dR (by kernel_rfl) (LOk.nil _) (fun _=>rfl) (fun _ _=>rfl) ?_ ?_ ?_ ?_ (fun _=>rfl) ?_
 ·rintro⟨y0,y1,y2,y3⟩;kernel_rfl
 ·rintro⟨y0,y1,y2,y3⟩;kernel_rfl
 ·intro s x h
  have h:OD s=some x:=h
  unfold OD at h
  repeat' split at h
  all_goals cases h
  exact⟨aa (by assumption) rfl (aa (by assumption) rfl (aa (by assumption) rfl (aa (by assumption) rfl (rfl)))),ab rfl (by assumption) rfl (ab rfl (by assumption) rfl (rfl))⟩
 ·rintro⟨y0,y1,y2,y3⟩;kernel_rfl
 ·rintro⟨y0,y1,y2,y3⟩ z;exact(And.intro rfl trivial)
abbrev j9:=Int×Int×List (Int×(Int×Int))×List Int×List Int
section
variable (y0 y1:Int)(y2:List (Int×(Int×Int)))(y3 y4:List Int)
def dP:Int×Int×Int:=Option.getD y2[Int.toNat y0]? ((0:Int),(0:Int),(0:Int))
def gB:Bool:=((dP y0 y2).2).1==(0:Int)
def vj:Bool:=leI (0:Int) ((dP y0 y2).1)
def DB:Bool:=ltI y0 y1
def DC:Bool:=leI (0:Int) y0
def DD:Bool:=ltI y0 (↑y2.length:Int)
def DE:Bool:=ltN y0.toNat y2.length
def DF:Bool:= !gB y0 y2||vj y0 y2
def DG:Bool:= !gB y0 y2||ltI ((dP y0 y2).1) (↑y3.length:Int)
def DH:Bool:= !gB y0 y2||ltN (Int.toNat ((dP y0 y2).1)) y3.length
def DI:Bool:=gB y0 y2||vj y0 y2
def DJ:Bool:=gB y0 y2||ltI ((dP y0 y2).1) (↑y4.length:Int)
def DK:Bool:=gB y0 y2||ltN (Int.toNat ((dP y0 y2).1)) y4.length
def Bb:Int:=IntKind.wrap .i64 (y0 + (1:Int))
def Bc:List Int:=bif gB y0 y2 then List.set y3 (Int.toNat ((dP y0 y2).1)) ((dP y0 y2).2.2)else y3
def Bd:List Int:=bif gB y0 y2 then y4 else List.set y4 (Int.toNat ((dP y0 y2).1)) ((dP y0 y2).2.2)
end
def ahP:j9→List (Nat×SV)
 |(y0,y1,_,_,_)=> [(34,(.one ⟨false,[(.val (.int .i64 y0))]⟩)),(33,(.one ⟨false,[(.val (.int .i64 y1))]⟩)),(32,(.one ⟨false,[(.ref 0)]⟩)),(8,(.one ⟨false,[(.ptr 1 0)]⟩))]
def ahG:j9→List (Nat×Entry)
 |(_,_,y2,y3,y4)=> [(0,(.row false 169 axj y2)),(1,(.box 130 [(.ref 2),(.ref 3)])),(2,(.row true 2 axl y3)),(3,(.row true 2 axl y4))]
def ah7:Nat→j9→List (Nat×SV)
 |_,(_,_,_,_,_)=> []
def ahY:Nat→j9→List (Nat×Entry)
 |_,(_,_,y2,y3,y4)=> [(0,(.row false 169 axj y2)),(1,(.box 130 [(.ref 2),(.ref 3)])),(2,(.row true 2 axl y3)),(3,(.row true 2 axl y4))]
def BN:j9→LT j9
 |(y0,y1,y2,y3,y4)=> .ite (DB y0 y1) (.need [(DC y0),(DD y0 y2),(DE y0 y2)] (.need [(DF y0 y2),(DG y0 y2 y3),(DH y0 y2 y3),(DI y0 y2),(DJ y0 y2 y4),(DK y0 y2 y4)] (.nrm ((Bb y0),y1,y2,(Bc y0 y2 y3),(Bd y0 y2 y4)) [(0,0),(1,1),(2,2),(3,3)]))) (.ext 0 [(0,0),(1,1),(2,2),(3,3)])
def OE(s:St):Option j9:=
 (match s.look 34 with
 |some ⟨none,(.one ⟨false,[(.val (.int .i64 y0))]⟩)⟩=>
 (match s.look 33 with
 |some ⟨none,(.one ⟨false,[(.val (.int .i64 y1))]⟩)⟩=>
 (match s.look 32 with
 |some ⟨none,(.one ⟨false,[(.ref 1)]⟩)⟩=>
 (match s.look 8 with
 |some ⟨none,(.one ⟨false,[(.ptr 1152 0)]⟩)⟩=>
 (match s.ent 1 with
 |some (.row false 169 (.pair (.int .i64) (.pair (.int .i64) (.int .i64))) y2)=>
 (match s.ent 1152 with
 |some (.box 130 [(.ref 448),(.ref 1024)])=>
 (match s.ent 448 with
 |some (.row true 2 (.int .i64) y3)=>
 (match s.ent 1024 with
 |some (.row true 2 (.int .i64) y4)=>
 some (y0,y1,y2,y3,y4)
 |_=>none)
 |_=>none)
 |_=>none)
 |_=>none)
 |_=>none)
 |_=>none)
 |_=>none)
 |_=>none)
def dS:Lp j9 where
 h:=⟨[35,36,37,10,38,39,40,41,42,43,44,45,46,47,48,49,50,51,52,53,54,55,34],[0,1,2,3],[],[]⟩
 JL:=ahP
 JE:=ahG
 XL:=ah7
 XE:=ahY
 q:=fun j=>match j with | _=> .exit 2
 tags:= [0]
 lt:=BN
 fuel:=fun(y0,y1,y2,y3,y4)=>y0.natAbs + y1.natAbs + y2.length + y3.length + y4.length
 fix:=fun(_,y1,y2,_,_) (y0,_,_,y3,y4)=>(y0,y1,y2,y3,y4)
 σ:= [(0,1),(1,1152),(2,448),(3,1024)]
 rd:=OE
theorem aeV:LoopOk Tryz.prog (fun k=>Nat.blt k Tryz.f202.ntmps) dS.F (au Tryz.f202 1):=by
 refine Lp.ok (tbl:= [ai,PF.lend ai,PF.fz ai,bk,PF.lend bk,PF.fz bk]) (lf:= []) aq dS (by kernel_rfl) (LOk.nil _) (fun _=>rfl) (fun _ _=>rfl) ?_ ?_ ?_ ?_ (fun _=>rfl) ?_
 ·rintro⟨y0,y1,y2,y3,y4⟩;kernel_rfl
 ·rintro⟨y0,y1,y2,y3,y4⟩;kernel_rfl
 ·intro s x h
  have h:OE s=some x:=h
  unfold OE at h
  repeat' split at h
  all_goals cases h
  exact⟨aa (by assumption) rfl (aa (by assumption) rfl (aa (by assumption) rfl (aa (by assumption) rfl (rfl)))),ab rfl (by assumption) rfl (ab rfl (by assumption) rfl (ab rfl (by assumption) rfl (ab rfl (by assumption) rfl (rfl))))⟩
 ·rintro⟨y0,y1,y2,y3,y4⟩;kernel_rfl
 ·rintro⟨y0,y1,y2,y3,y4⟩ z;exact(And.intro rfl trivial)
section
variable (x0:Int)(x1:List Int)(x2:List (Int×Int×Int))
def NS:Int×Int×List Int×List Int:=((0:Int),(↑(List.length (ui x0 x1)):Int),ui x0 x1,List.replicate x0.toNat (0:Int))
def Ct:List Int:=(Lp.res dR (NS x0 x1)).2.2.2.2
def IA:Int×Int×List (Int×Int×Int)×List Int×List Int:=((0:Int),(↑x2.length:Int),x2,Ct x0 x1,Ct x0 x1)
def NT:List Int×List Int:=(Lp.res dS (IA x0 x1 x2)).2.2.2.2
def VY:List Int:=(NT x0 x1 x2).1
def VZ:List Int:=(NT x0 x1 x2).2
def Wa:Bool:=allT [leI (0:Int) x0,leI x0 x0,leI ((↑(8:Nat):Int) * x0) (281474976710656:Int),leI x0 (9223372036854775807:Int),isT x0 x1,Lp.fin dR (NS x0 x1),leN (1:Nat) (List.length (Ct x0 x1))&&leN (List.length (Ct x0 x1)) (1048576:Nat),Lp.fin dS (IA x0 x1 x2)]
end
def adV:List SV→List Entry→Option Out
 | [.one ⟨true,[.val (.int .i64 x0),.ref 0]⟩,.one ⟨false,[.ref 1]⟩],[.row false 2 (.int .i64) x1,.row false 169 (.pair (.int .i64) (.pair (.int .i64) (.int .i64))) x2]=>some ⟨(.one ⟨true,[(.ref 2),(.ref 3)]⟩),[(.row false 2 axl x1),(.row false 169 axj x2)],[(.row true 2 axl (VY x0 x1 x2)),(.row true 2 axl (VZ x0 x1 x2))],[(Wa x0 x1 x2)]⟩
 |_,_=>none
def anU:PF Tryz.prog:=PF.ofG Tryz.prog [ai,PF.lend ai,PF.fz ai,bk,PF.lend bk,PF.fz bk] [dR.F,dS.F] aq 202 Tryz.f202 Tryz.func202 (LOk.fnT (l:= [au Tryz.f202 0,au Tryz.f202 1]) (by kernel_rfl) (.cons aeU (.cons aeV (.nil _)))) adV (by
 intro vs es r h;unfold adV at h;split at h
 ·cases h;kernel_rfl
 ·cases h)
section
variable (x0:Int)(x1 x2:List Int)
def eD:Bool:=Option.getD x1[Int.toNat x0]? (0:Int)==(0:Int)
def mG:Bool:=bif eD x0 x1 then Option.getD x2[Int.toNat x0]? (0:Int)==(0:Int)else false
def mH:Bool:=allT [leI (0:Int) x0,ltI x0 (↑x1.length:Int),ltN x0.toNat x1.length,!(eD x0 x1&&true)||leI (0:Int) x0,!(eD x0 x1&&true)||ltI x0 (↑x2.length:Int),!(eD x0 x1&&true)||ltN x0.toNat x2.length]
end
def vF:List SV→List Entry→Option Out
 | [.one ⟨true,[.ref 0,.ref 1]⟩,.one ⟨false,[.val (.int .i64 x0)]⟩],[.row false 2 (.int .i64) x1,.row false 2 (.int .i64) x2]=>some ⟨(.one ⟨false,[(.val (.bool (mG x0 x1 x2)))]⟩),[(.row false 2 axl x1),(.row false 2 axl x2)],[],[(mH x0 x1 x2)]⟩
 |_,_=>none
def mO:PF Tryz.prog:=PF.ofG Tryz.prog [] [] aq 233 Tryz.f233 Tryz.func233 (fun c _=>LOk.nil c) vF (by
 intro vs es r h;unfold vF at h;split at h
 ·cases h;kernel_rfl
 ·cases h)
section
variable (x0 x1:Int)(x2 x3 x4:List Int)
def iz:Int:=Option.getD x4[Int.toNat x1]? (0:Int)
def eE:Bool:=Int.tmod (iz x1 x4) (3:Int)!=(1:Int)
def iA:Int:=Int.tmod (IntKind.wrap .i64 (IntKind.wrap .i64 (Int.tdiv (iz x1 x4) (3:Int)) + (1:Int))) x0
def mI:Bool:=bif eE x1 x4 then true else mG (iA x0 x1 x4) x2 x3
def mJ:Bool:=allT [leI (0:Int) x1,ltI x1 (↑x4.length:Int),ltN x1.toNat x4.length,!(!eE x1 x4&&true)||neI (3:Int) (0:Int),!(!eE x1 x4&&true)||neI x0 (0:Int),!(!eE x1 x4&&true)||mH (iA x0 x1 x4) x2 x3]
end
def vG:List SV→List Entry→Option Out
 | [.one ⟨true,[.ref 0,.ref 1]⟩,.one ⟨true,[.val (.int .i64 x0),.ref 2]⟩,.one ⟨false,[.val (.int .i64 x1)]⟩],[.row false 2 (.int .i64) x2,.row false 2 (.int .i64) x3,.row false 2 (.int .i64) x4]=>some ⟨(.one ⟨false,[(.val (.bool (mI x0 x1 x2 x3 x4)))]⟩),[(.row false 2 axl x2),(.row false 2 axl x3),(.row false 2 axl x4)],[],[(mJ x0 x1 x2 x3 x4)]⟩
 |_,_=>none
def La:PF Tryz.prog:=PF.ofG Tryz.prog [mO,PF.lend mO,PF.fz mO] [] aq 203 Tryz.f203 Tryz.func203 (fun c _=>LOk.nil c) vG (by
 intro vs es r h;unfold vG at h;split at h
 ·cases h;kernel_rfl
 ·cases h)
section
variable (x0 x1:Int)(x2 x3 x4:List Int)
def KN:Int:=Option.getD x2[Int.toNat x1]? (0:Int)
def th:Bool:=Int.tmod (KN x1 x2) (3:Int)!=(1:Int)
def mD:Int:=Int.tmod (IntKind.wrap .i64 (IntKind.wrap .i64 (Int.tdiv (KN x1 x2) (3:Int)) + (1:Int))) x0
def QJ:Bool:= !(!th x1 x2&&true)||leI (0:Int) (mD x0 x1 x2)
def SW:Bool:=bif th x1 x2 then true else IntKind.wrap .i64 (Option.getD x3[Int.toNat (mD x0 x1 x2)]? (0:Int) + Option.getD x4[Int.toNat (mD x0 x1 x2)]? (0:Int))==(0:Int)
def SY:Bool:=allT [leI (0:Int) x1,ltI x1 (↑x2.length:Int),ltN x1.toNat x2.length,neI x0 (0:Int),leI (0:Int) x1,ltI x1 (↑x2.length:Int),ltN x1.toNat x2.length,QJ x0 x1 x2,!(!th x1 x2&&true)||ltI (mD x0 x1 x2) (↑x3.length:Int),!(!th x1 x2&&true)||ltN (Int.toNat (mD x0 x1 x2)) x3.length,QJ x0 x1 x2,!(!th x1 x2&&true)||ltI (mD x0 x1 x2) (↑x4.length:Int),!(!th x1 x2&&true)||ltN (Int.toNat (mD x0 x1 x2)) x4.length]
end
def ZY:List SV→List Entry→Option Out
 | [.one ⟨true,[.val (.int .i64 x0),.ref 0]⟩,.one ⟨true,[.ref 1,.ref 2]⟩,.one ⟨false,[.val (.int .i64 x1)]⟩],[.row false 2 (.int .i64) x2,.row false 2 (.int .i64) x3,.row false 2 (.int .i64) x4]=>some ⟨(.one ⟨false,[(.val (.bool (SW x0 x1 x2 x3 x4)))]⟩),[(.row false 2 axl x2),(.row false 2 axl x3),(.row false 2 axl x4)],[],[(SY x0 x1 x2 x3 x4)]⟩
 |_,_=>none
def alD:PF Tryz.prog:=PF.ofG Tryz.prog [] [] aq 221 Tryz.f221 Tryz.func221 (fun c _=>LOk.nil c) ZY (by
 intro vs es r h;unfold ZY at h;split at h
 ·cases h;kernel_rfl
 ·cases h)
abbrev iH:=Int×Int×List Int×List Int
section
variable (y0 y1:Int)(y2 y3:List Int)
def oa:List Int:= [apA (↑(adh y1 y3 y0):Int) (1:Int) (↑(adh y1 y3 y0):Int) (1:Int)]
def zC:Bool:=ltI y0 y1
def zD:Bool:=isT y1 y3
def zE:Bool:=leN (List.length y2 + List.length (oa y0 y1 y3)) (9223372036854775807:Nat)
def zF:Bool:=leN ((List.length y2 + List.length (oa y0 y1 y3)) * (8:Nat)) (140737488355328:Nat)
def zG:Int:=IntKind.wrap .i64 (y0 + (1:Int))
def zH:List Int:=y2++oa y0 y1 y3
end
def aey:iH→List (Nat×SV)
 |(y0,_,_,_)=> [(8,(.one ⟨false,[(.val (.int .i64 y0))]⟩)),(3,(.one ⟨false,[(.ptr 0 0)]⟩)),(7,(.one ⟨false,[(.ref 1)]⟩))]
def aeq:iH→List (Nat×Entry)
 |(_,y1,y2,y3)=> [(0,(.box 26 [(.val (.int .i64 y1)),(.ref 2)])),(2,(.row false 2 axl y3)),(1,(.row true 2 axl y2))]
def aeO:Nat→iH→List (Nat×SV)
 |_,(_,_,_,_)=> [(7,(.one ⟨false,[(.ref 1)]⟩))]
def aeG:Nat→iH→List (Nat×Entry)
 |_,(_,y1,y2,y3)=> [(0,(.box 26 [(.val (.int .i64 y1)),(.ref 2)])),(1,(.row true 2 axl y2)),(2,(.row false 2 axl y3))]
def xc:iH→LT iH
 |(y0,y1,y2,y3)=> .ite (zC y0 y1) (.need [(zD y1 y3),(zE y0 y1 y2 y3),(zF y0 y1 y2 y3)] (.nrm ((zG y0),y1,(zH y0 y1 y2 y3),y3) [(0,0),(1,704),(2,2)])) (.ext 0 [(0,0),(1,1),(2,2)])
def LY(s:St):Option iH:=
 (match s.look 8 with
 |some ⟨none,(.one ⟨false,[(.val (.int .i64 y0))]⟩)⟩=>
 (match s.look 3 with
 |some ⟨none,(.one ⟨false,[(.ptr 192 0)]⟩)⟩=>
 (match s.look 7 with
 |some ⟨none,(.one ⟨false,[(.ref 320)]⟩)⟩=>
 (match s.ent 192 with
 |some (.box 26 [(.val (.int .i64 y1)),(.ref 0)])=>
 (match s.ent 0 with
 |some (.row false 2 (.int .i64) y3)=>
 (match s.ent 320 with
 |some (.row true 2 (.int .i64) y2)=>
 some (y0,y1,y2,y3)
 |_=>none)
 |_=>none)
 |_=>none)
 |_=>none)
 |_=>none)
 |_=>none)
def bW:Lp iH where
 h:=⟨[11,12,13,14,17,18,19,20,21,22,23,7,15,16,8],[0,2],[1],[]⟩
 JL:=aey
 JE:=aeq
 XL:=aeO
 XE:=aeG
 q:=fun j=>match j with | _=> .exit 0
 tags:= [0]
 lt:=xc
 fuel:=fun(y0,y1,y2,y3)=>y0.natAbs + y1.natAbs + y2.length + y3.length
 fix:=fun(_,y1,_,y3) (y0,_,y2,_)=>(y0,y1,y2,y3)
 σ:= [(0,192),(2,0),(1,320)]
 rd:=LY
theorem acs:LoopOk Tryz.prog (fun k=>Nat.blt k Tryz.f238.ntmps) bW.F (au Tryz.f238 0):=by
 refine Lp.ok (tbl:= [sW,PF.lend sW,PF.fz sW]) (lf:= []) aq bW (by kernel_rfl) (LOk.nil _) (fun _=>rfl) (fun _ _=>rfl) ?_ ?_ ?_ ?_ (fun _=>rfl) ?_
 ·rintro⟨y0,y1,y2,y3⟩;kernel_rfl
 ·rintro⟨y0,y1,y2,y3⟩;kernel_rfl
 ·intro s x h
  have h:LY s=some x:=h
  unfold LY at h
  repeat' split at h
  all_goals cases h
  exact⟨aa (by assumption) rfl (aa (by assumption) rfl (aa (by assumption) rfl (rfl))),ab rfl (by assumption) rfl (ab rfl (by assumption) rfl (ab rfl (by assumption) rfl (rfl)))⟩
 ·rintro⟨y0,y1,y2,y3⟩;kernel_rfl
 ·rintro⟨y0,y1,y2,y3⟩ z;exact(And.intro rfl trivial)
abbrev iI:=Int×Int×List (Int×(Int×Int))×List Int
section
variable (y0 y1:Int)(y2:List (Int×(Int×Int)))(y3:List Int)
def g9:Int×Int×Int:=Option.getD y2[Int.toNat y0]? ((0:Int),(0:Int),(0:Int))
def fU:Bool:=((g9 y0 y2).2).1==y1
def tS:Bool:=ltI y0 (↑y2.length:Int)
def zI:Bool:=leI (0:Int) y0
def zJ:Bool:=ltN y0.toNat y2.length
def tT:Bool:= !fU y0 y1 y2||leI (0:Int) y0
def tU:Bool:= !fU y0 y1 y2||ltI y0 (↑y2.length:Int)
def tV:Bool:= !fU y0 y1 y2||ltN y0.toNat y2.length
def zK:Bool:= !fU y0 y1 y2||leI (0:Int) ((g9 y0 y2).1)
def zL:Bool:= !fU y0 y1 y2||ltI ((g9 y0 y2).1) (↑y3.length:Int)
def zM:Bool:= !fU y0 y1 y2||ltN (Int.toNat ((g9 y0 y2).1)) y3.length
def zN:Int:=IntKind.wrap .i64 (y0 + (1:Int))
def xl:List Int:=bif fU y0 y1 y2 then List.set y3 (Int.toNat ((g9 y0 y2).1)) ((g9 y0 y2).2.2)else y3
end
def aez:iI→List (Nat×SV)
 |(y0,y1,_,_)=> [(9,(.one ⟨false,[(.val (.int .i64 y0))]⟩)),(1,(.one ⟨false,[(.ref 0)]⟩)),(2,(.one ⟨false,[(.val (.int .i64 y1))]⟩)),(7,(.one ⟨false,[(.ref 1)]⟩))]
def aer:iI→List (Nat×Entry)
 |(_,_,y2,y3)=> [(0,(.row false 169 axj y2)),(1,(.row true 2 axl y3))]
def aeP:Nat→iI→List (Nat×SV)
 |_,(_,_,_,_)=> []
def aeH:Nat→iI→List (Nat×Entry)
 |_,(_,_,y2,y3)=> [(0,(.row false 169 axj y2)),(1,(.row true 2 axl y3))]
def xf:iI→LT iI
 |(y0,y1,y2,y3)=> .ite (tS y0 y2) (.need [(zI y0),(tS y0 y2),(zJ y0 y2)] (.need [(tT y0 y1 y2),(tU y0 y1 y2),(tV y0 y1 y2),(tT y0 y1 y2),(tU y0 y1 y2),(tV y0 y1 y2),(zK y0 y1 y2),(zL y0 y1 y2 y3),(zM y0 y1 y2 y3)] (.nrm ((zN y0),y1,y2,(xl y0 y1 y2 y3)) [(0,0),(1,1)]))) (.ext 0 [(0,0),(1,1)])
def LZ(s:St):Option iI:=
 (match s.look 9 with
 |some ⟨none,(.one ⟨false,[(.val (.int .i64 y0))]⟩)⟩=>
 (match s.look 1 with
 |some ⟨none,(.one ⟨false,[(.ref 1)]⟩)⟩=>
 (match s.look 2 with
 |some ⟨none,(.one ⟨false,[(.val (.int .i64 y1))]⟩)⟩=>
 (match s.look 7 with
 |some ⟨none,(.one ⟨false,[(.ref 512)]⟩)⟩=>
 (match s.ent 1 with
 |some (.row false 169 (.pair (.int .i64) (.pair (.int .i64) (.int .i64))) y2)=>
 (match s.ent 512 with
 |some (.row true 2 (.int .i64) y3)=>
 some (y0,y1,y2,y3)
 |_=>none)
 |_=>none)
 |_=>none)
 |_=>none)
 |_=>none)
 |_=>none)
def cJ:Lp iI where
 h:=⟨[24,25,26,27,30,31,32,33,34,35,36,37,38,39,40,41,42,43,44,45,46,47,48,28,29,9],[0,1],[],[]⟩
 JL:=aez
 JE:=aer
 XL:=aeP
 XE:=aeH
 q:=fun j=>match j with | _=> .exit 2
 tags:= [0]
 lt:=xf
 fuel:=fun(y0,y1,y2,y3)=>y0.natAbs + y1.natAbs + y2.length + y3.length
 fix:=fun(_,y1,y2,_) (y0,_,_,y3)=>(y0,y1,y2,y3)
 σ:= [(0,1),(1,512)]
 rd:=LZ
theorem act:LoopOk Tryz.prog (fun k=>Nat.blt k Tryz.f238.ntmps) cJ.F (au Tryz.f238 1):=by
 refine Lp.ok (tbl:= [sW,PF.lend sW,PF.fz sW]) (lf:= []) aq cJ (by kernel_rfl) (LOk.nil _) (fun _=>rfl) (fun _ _=>rfl) ?_ ?_ ?_ ?_ (fun _=>rfl) ?_
 ·rintro⟨y0,y1,y2,y3⟩;kernel_rfl
 ·rintro⟨y0,y1,y2,y3⟩;kernel_rfl
 ·intro s x h
  have h:LZ s=some x:=h
  unfold LZ at h
  repeat' split at h
  all_goals cases h
  exact⟨aa (by assumption) rfl (aa (by assumption) rfl (aa (by assumption) rfl (aa (by assumption) rfl (rfl)))),ab rfl (by assumption) rfl (ab rfl (by assumption) rfl (rfl))⟩
 ·rintro⟨y0,y1,y2,y3⟩;kernel_rfl
 ·rintro⟨y0,y1,y2,y3⟩ z;exact(And.intro rfl trivial)
section
variable (x0 x1:Int)(x2:List Int)(x3:List (Int×Int×Int))
def Ew:Int×Int×List Int×List Int:=((0:Int),x0,[],x2)
def Ey:Int×Int×List (Int×Int×Int)×List Int:=((0:Int),x1,x3,((Lp.res bW (Ew x0 x2)).2.2.2).1)
def GE:List Int:=(Lp.res cJ (Ey x0 x1 x2 x3)).2.2.2.2
def GF:Bool:=allT [Lp.fin bW (Ew x0 x2),Lp.fin cJ (Ey x0 x1 x2 x3)]
end
def ZX:List SV→List Entry→Option Out
 | [.one ⟨true,[.val (.int .i64 x0),.ref 0]⟩,.one ⟨false,[.ref 1]⟩,.one ⟨false,[.val (.int .i64 x1)]⟩],[.row false 2 (.int .i64) x2,.row false 169 (.pair (.int .i64) (.pair (.int .i64) (.int .i64))) x3]=>some ⟨(.one ⟨false,[(.ref 2)]⟩),[(.row false 2 axl x2),(.row false 169 axj x3)],[(.row true 2 axl (GE x0 x1 x2 x3))],[(GF x0 x1 x2 x3)]⟩
 |_,_=>none
def Ss:PF Tryz.prog:=PF.ofG Tryz.prog [sW,PF.lend sW,PF.fz sW] [bW.F,cJ.F] aq 238 Tryz.f238 Tryz.func238 (LOk.fnT (l:= [au Tryz.f238 0,au Tryz.f238 1]) (by kernel_rfl) (.cons acs (.cons act (.nil _)))) ZX (by
 intro vs es r h;unfold ZX at h;split at h
 ·cases h;kernel_rfl
 ·cases h)
section
variable (x0:Int)(x1:List Int)(x2:List (Int×Int×Int))
def acO:List Int:=GE x0 (0:Int) x1 x2
def acP:List Int:=GE x0 (1:Int) x1 x2
def UN:Bool:=allT [GF x0 (0:Int) x1 x2,GF x0 (1:Int) x1 x2]
end
def abF:List SV→List Entry→Option Out
 | [.one ⟨true,[.val (.int .i64 x0),.ref 0]⟩,.one ⟨false,[.ref 1]⟩],[.row false 2 (.int .i64) x1,.row false 169 (.pair (.int .i64) (.pair (.int .i64) (.int .i64))) x2]=>some ⟨(.one ⟨true,[(.ref 2),(.ref 3)]⟩),[(.row false 2 axl x1),(.row false 169 axj x2)],[(.row true 2 axl (acO x0 x1 x2)),(.row true 2 axl (acP x0 x1 x2))],[(UN x0 x1 x2)]⟩
 |_,_=>none
def amW:PF Tryz.prog:=PF.ofG Tryz.prog [Ss,PF.lend Ss,PF.fz Ss] [] aq 222 Tryz.f222 Tryz.func222 (fun c _=>LOk.nil c) abF (by
 intro vs es r h;unfold abF at h;split at h
 ·cases h;kernel_rfl
 ·cases h)
end Go.SX

namespace Go.SX
open Go.Proofs
set_option maxRecDepth 100000
def occ(c:Int):Int:=bif ltI c 1 then c else 1
def ake(ch:Int)(l:List Int)(f:Int×Int×Int):List Int:=bif f.2.1==ch then l.set f.1.toNat f.2.2 else l
def aiZ(n:Int)(ps:List Int):List Int:=(List.range n.toNat).map fun(b:Nat)=>occ (adh n ps (b:Int):Int)
def HO(n:Int)(ps:List Int)(fs:List (Int×Int×Int))(ch:Int):List Int:=fs.foldl (ake ch) (aiZ n ps)
def asa(n:Int)(a:List Int):Bool:=eqI (a.length:Int) n&&a.all fun v=>inR v 0 1
theorem ask(ch:Int)(l:List Int)(f:Int×Int×Int):(ake ch l f).length=l.length:=by
 unfold ake;cases f.2.1==ch <;> simp
theorem Rz(n:Int)(ps:List Int):(aiZ n ps).length=n.toNat:=by simp [aiZ]
theorem TK(ch:Int): ∀ (fs:List (Int×Int×Int)) (l:List Int),(fs.foldl (ake ch) l).length=l.length
 | [],l=>rfl
 |f::fs,l=>by rw [List.foldl_cons,TK ch fs,ask]
theorem aqE(n:Int)(ps:List Int)(fs:List (Int×Int×Int))(ch:Int):(HO n ps fs ch).length=n.toNat:=by
 rw [HO,TK,Rz]
theorem avZ{n:Int}{fs:List (Int×Int×Int)}(h2:2≤n∧n≤8)(h:okFs n fs=true):fs.length≤8∧ ∀ f∈fs,(0≤f.1∧f.1 < n)∧(f.2.1=0∨f.2.1=1)∧(0≤f.2.2∧f.2.2≤1):=by
 simp only [okFs,Bool.and_eq_true,bT,List.all_eq_true,List.mem_range]at h
 refine⟨h.1,fun f hf=> ?_⟩
 obtain⟨b,hb,rfl⟩:=List.getElem_of_mem hf
 have h3:=h.2 b hb
 simp only [Bool.not_eq_true',Bool.or_eq_false_iff,ajT,fAt,List.getElem?_eq_getElem hb,Option.getD_some,Bool.not_eq_false']at h3
 have h4:=h3.1
 simp only [fIn,Bool.and_eq_true,sR]at h4
 rw [aw (by omega) (by omega)]at h4
 omega
def fV(n:Int)(f:Int×Int×Int):Bool:=(leI 0 f.1&&ltI f.1 n)&&((f.2.1==0||f.2.1==1)&&inR f.2.2 0 1)
def amk(n:Int)(fs:List (Int×Int×Int)):Bool:=leN fs.length 1000&&fs.all (fV n)
theorem aqW{n:Int}{fs:List (Int×Int×Int)}(h:amk n fs=true):fs.length≤1000∧ ∀ f∈fs,(0≤f.1∧f.1 < n)∧(f.2.1=0∨f.2.1=1)∧(0≤f.2.2∧f.2.2≤1):=by
 simp only [amk,Bool.and_eq_true,bT,List.all_eq_true]at h
 refine⟨h.1,fun f hf=> ?_⟩
 have h3:=h.2 f hf
 simp only [fV,Bool.and_eq_true,Bool.or_eq_true,beq_iff_eq,sR,Sg,alm]at h3
 exact h3
theorem avP{n:Int}{fs:List (Int×Int×Int)}(h2:2≤n∧n≤8)(h:okFs n fs=true):amk n fs=true:=by
 obtain⟨hl,hf⟩:=avZ h2 h
 simp only [amk,Bool.and_eq_true,bT,List.all_eq_true]
 refine⟨by omega,fun f hm=> ?_⟩
 simp only [fV,Bool.and_eq_true,Bool.or_eq_true,beq_iff_eq,sR,Sg,alm]
 exact hf f hm
theorem Xj{B C:Type}(g:B→C): ∀ (r:List B) (a:List C),r.foldl (fun a b=>a++ [g b]) a=a++r.map g
 | [],a=>by simp
 |b::r,a=>by rw [List.foldl_cons,Xj g r];simp
theorem awZ(c:Int):apA c 1 c 1=occ c:=by simp [occ]
theorem aw0(c:Int):apA 1 c 1 c=occ c:=by
 simp only [aqS,occ]
 cases h:ltI 1 c <;> cases h':ltI c 1 <;> simp at h h' ⊢ <;> omega
def lW(y1:Int)(y3:List Int)(b:Nat):(List Int)→Nat ⊕ (List Int)
 |y2=>(.inr (y2++([apA (↑(adh y1 y3 (↑b:Int)):Int) (1:Int) (↑(adh y1 y3 (↑b:Int)):Int) (1:Int)])))
def kO(y1:Int)(y3:List Int)(i:Nat):(List Int)→iH
 |y2=>((i:Int),y1,y2,y3)
def LP:iH→List Int
 |(_,_,y2,_)=>y2
theorem ahp(y1:Int)(y3 y2:List Int)(hn:y1≤9223372036854775807)(hT:isT y1 y3=true)(h0:y2= []):
  bW.fin ((0:Int),y1,y2,y3)=true∧bW.res ((0:Int),y1,y2,y3)=((ae (lW y1 y3) 0 (List.range y1.toNat) 0 y2).1,(kO y1 y3) (ae (lW y1 y3) 0 (List.range y1.toNat) 0 y2).2.1 (ae (lW y1 y3) 0 (List.range y1.toNat) 0 y2).2.2):=by
 have key:=bW.along (kO y1 y3) LP (lW y1 y3) 0 (fun i a=>a.length≤i) (List.range y1.toNat) y2 (by subst h0;simp) (by simp only [bW,kO,List.length_range];omega) (fun i b a hb hI=> ?_) (fun a hI=> ?_)
 ·exact key
 ·obtain y2:=a
  obtain⟨rfl,hlt⟩:=eu hb
  have hw:IntKind.i64.wrap ((b:Int) + 1)=((b + 1:Nat):Int):=by rw [aw (by omega) (by omega)];omega
  have hdec:ltI (b:Int) y1=true:=bZ (by omega)
  have hnn:leI (0:Int) (b:Int)=true:=bC (by omega)
  refine⟨?_,?_,?_,?_⟩
  ·have h4:=(EK.1 hT).1
   simp [oa,zC,zD,zE,zF,zG,zH,xc,bW,LT.nds,allT,kO,hdec,hT]
   omega
  ·simp [oa,zC,zD,zE,zF,zG,zH,xc,bW,LT.each,kO,LP,hw]
  ·simp only [oa,zC,zD,zE,zF,zG,zH,xc,bW,LT.fn,kO,LP,lW,Int.toNat_natCast,hdec,hnn,cond_true,Bool.cond_self]
  ·intro a' hf;simp only [lW,Sum.inr.injEq]at hf;subst hf;simp;omega
 ·obtain y2:=a
  simp only [oa,zC,zD,zE,zF,zG,zH,xc,bW,LT.out,kO,List.length_range,acw,agR,cond_false]
def pE(y1:Int)(b:Int×(Int×Int)):(List Int)→Nat ⊕ (List Int)
 |y3=>(.inr (bif(b.2.1==y1)then List.set y3 (Int.toNat b.1) b.2.2else y3))
def kP(y1:Int)(y2:List (Int×(Int×Int)))(i:Nat):(List Int)→iI
 |y3=>((i:Int),y1,y2,y3)
def LQ:iI→List Int
 |(_,_,_,y3)=>y3
theorem ahq(y1:Int)(y2:List (Int×(Int×Int)))(y3:List Int)(hn:y2.length≤9223372036854775807)(n:Nat)(h3:y3.length=n)(hf: ∀ f∈y2,0≤f.1∧f.1 < (n:Int)):
  cJ.fin ((0:Int),y1,y2,y3)=true∧cJ.res ((0:Int),y1,y2,y3)=((ae (pE y1) 0 y2 0 y3).1,(kP y1 y2) (ae (pE y1) 0 y2 0 y3).2.1 (ae (pE y1) 0 y2 0 y3).2.2):=by
 have key:=cJ.along (kP y1 y2) LQ (pE y1) 0 (fun _ a=>a.length=n) y2 y3 h3 (by simp only [cJ,kP];omega) (fun i b a hb hI=> ?_) (fun a hI=> ?_)
 ·exact key
 ·obtain y3:=a
  have hlt:=(List.getElem?_eq_some_iff.1 hb).1
  have hget: ∀ d,Option.getD y2[i]? d=b:=fun d=>by rw [hb];rfl
  have hw:=oW hlt hn
  have hdec:ltI (i:Int) (y2.length:Int)=true:=bZ (by omega)
  have hnn:leI (0:Int) (i:Int)=true:=bC (by omega)
  have hltd:ltN i y2.length=true:=cB hlt
  refine⟨?_,?_,?_,?_⟩
  ·have h5:=hf b (List.mem_of_getElem? hb)
   have h6:leI 0 b.1=true:=bC h5.1
   have h7:ltI b.1 (a.length:Int)=true:=bZ (by omega)
   have h8:ltN b.1.toNat a.length=true:=cB (by omega)
   simp only [g9,fU,tS,zI,zJ,tT,tU,tV,zK,zL,zM,zN,xl,xf,cJ,LT.nds,allT,kP,Int.toNat_natCast,hdec,hnn,hltd,hget,h6,h7,h8,Bool.or_true,cond_true]
  ·simp [g9,fU,tS,zI,zJ,tT,tU,tV,zK,zL,zM,zN,xl,xf,cJ,LT.each,kP,LQ,hw]
  ·simp only [g9,fU,tS,zI,zJ,tT,tU,tV,zK,zL,zM,zN,xl,xf,cJ,LT.fn,kP,LQ,pE,Int.toNat_natCast,hdec,hnn,hltd,hget,cond_true,Bool.cond_self]
  ·intro a' hf;simp only [pE,Sum.inr.injEq]at hf;subst hf;cases b.2.1==y1 <;> simpa using hI
 ·obtain y3:=a
  simp [g9,fU,tS,zI,zJ,tT,tU,tV,zK,zL,zM,zN,xl,xf,cJ,LT.out,kP]
theorem anE(n ch:Int)(ps:List Int)(fs:List (Int×Int×Int))(hT:isT n ps=true)(hF:amk n fs=true):
  GE n ch ps fs=HO n ps fs ch∧GF n ch ps fs=true:=by
 have h2:=(EK.1 hT).1
 obtain⟨hl,hf⟩:=aqW hF
 obtain⟨w1,w2⟩:=ahp n ps [] (by omega) hT rfl
 rw [iP (f:=lW n ps) (g:=fun a b=>a++ [occ (adh n ps ((b:Nat):Int):Int)]) (fun b a=>by simp only [lW,awZ]),Xj]at w2
 have e1:((Lp.res bW (Ew n ps)).2.2.2).1=aiZ n ps:=by
  simp only [Ew,w2,kO,List.nil_append];rfl
 obtain⟨v1,v2⟩:=ahq ch fs (aiZ n ps) (by omega) n.toNat (Rz n ps) (fun f hm=>by have:=(hf f hm).1;omega)
 rw [iP (f:=pE ch) (g:=ake ch) (fun b a=>rfl)]at v2
 refine⟨?_,?_⟩
 ·simp only [GE,Ey,e1,v2,kP];rfl
 ·have v3:Lp.fin cJ (Ey n ch ps fs)=true:=by rw [Ey,e1];exact v1
  have w3:Lp.fin bW (Ew n ps)=true:=w1
  simp only [GF,v3,w3,allT,cond_true]
theorem apR(n:Int)(ps:List Int)(fs:List (Int×Int×Int))(h:(isT n ps&&amk n fs)=true):
  acO n ps fs=HO n ps fs 0∧acP n ps fs=HO n ps fs 1∧UN n ps fs=true:=by
 simp only [Bool.and_eq_true]at h
 obtain⟨a1,a2⟩:=anE n 0 ps fs h.1 h.2
 obtain⟨b1,b2⟩:=anE n 1 ps fs h.1 h.2
 exact⟨a1,b1,by simp only [UN,a2,b2,allT,cond_true]⟩
def ab4:List SV→List Entry→Option Out
 | [.one ⟨true,[.val (.int .i64 x0),.ref 0]⟩,.one ⟨false,[.ref 1]⟩],[.row false 2 (.int .i64) x1,.row false 169 (.pair (.int .i64) (.pair (.int .i64) (.int .i64))) x2]=>some ⟨(.one ⟨true,[(.ref 2),(.ref 3)]⟩),[(.row false 2 axl x1),(.row false 169 axj x2)],[(.row true 2 axl (HO x0 x1 x2 0)),(.row true 2 axl (HO x0 x1 x2 1))],[isT x0 x1&&amk x0 x2]⟩
 |_,_=>none
def UE:PF Tryz.prog:=PF.alt amW ab4 (by
 intro args es o h hnd;unfold ab4 at h;split at h
 ·rename_i x0 x1 x2
  cases h
  have hnd:=bY hnd
  have hh:=apR x0 x1 x2 hnd
  obtain⟨e0,e1,en⟩:=hh
  exact ek rfl (cg en) rfl rfl (by simp only [e0,e1] <;> rfl)
 ·cases h)
def pC(y2:List Int)(b:Nat):(List Int)→Nat ⊕ (List Int)
 |y3=>(.inr (List.set y3 b (apA (1:Int) (Option.getD y2[b]? (0:Int)) (1:Int) (Option.getD y2[b]? (0:Int)))))
def nB(y2:List Int)(i:Nat):(List Int)→j8
 |y3=>((i:Int),(↑y2.length:Int),y2,y3)
def Ov:j8→List Int
 |(_,_,_,y3)=>y3
theorem akh(y2 y3:List Int)(hn:y2.length≤9223372036854775807)(hl:y3.length=y2.length):
  dR.fin ((0:Int),(↑y2.length:Int),y2,y3)=true∧dR.res ((0:Int),(↑y2.length:Int),y2,y3)=((ae (pC y2) 0 (List.range y2.length) 0 y3).1,(nB y2) (ae (pC y2) 0 (List.range y2.length) 0 y3).2.1 (ae (pC y2) 0 (List.range y2.length) 0 y3).2.2):=by
 have key:=dR.along (nB y2) Ov (pC y2) 0 (fun _ a=>a.length=y2.length) (List.range y2.length) y3 hl (by simp only [dR,nB,List.length_range];omega) (fun i b a hb hI=> ?_) (fun a hI=> ?_)
 ·exact key
 ·obtain y3:=a
  obtain⟨rfl,hlt⟩:=eu hb
  have hw:IntKind.i64.wrap ((b:Int) + 1)=((b + 1:Nat):Int):=by rw [aw (by omega) (by omega)];omega
  have hdec:ltI (b:Int) (y2.length:Int)=true:=bZ (by omega)
  have hnn:leI (0:Int) (b:Int)=true:=bC (by omega)
  have hltd:ltN b y2.length=true:=cB (by omega)
  refine⟨?_,?_,?_,?_⟩
  ·simp [vi,Du,xz,Dv,Dw,Dx,Dy,Dz,DA,BM,dR,LT.nds,allT,nB,hdec,hnn,hltd,hI]
  ·simp [vi,Du,xz,Dv,Dw,Dx,Dy,Dz,DA,BM,dR,LT.each,nB,Ov,hw,hI]
  ·simp only [vi,Du,xz,Dv,Dw,Dx,Dy,Dz,DA,BM,dR,LT.fn,nB,Ov,pC,Int.toNat_natCast,hdec,cond_true]
  ·intro a' hf;simp only [pC,Sum.inr.injEq]at hf;subst hf;simpa using hI
 ·obtain y3:=a
  simp [vi,Du,xz,Dv,Dw,Dx,Dy,Dz,DA,BM,dR,LT.out,nB,List.length_range]
def s8(b:Int×(Int×Int)):(List Int×List Int)→Nat ⊕ (List Int×List Int)
 |(y3,y4)=>(.inr ((bif(b.2.1==(0:Int))then List.set y3 (Int.toNat b.1) b.2.2else y3),(bif(b.2.1==(0:Int))then y4 else List.set y4 (Int.toNat b.1) b.2.2)))
def nC(y2:List (Int×(Int×Int)))(i:Nat):(List Int×List Int)→j9
 |(y3,y4)=>((i:Int),(↑y2.length:Int),y2,y3,y4)
def Ow:j9→List Int×List Int
 |(_,_,_,y3,y4)=>(y3,y4)
theorem aki(y2:List (Int×(Int×Int)))(y3 y4:List Int)(hn:y2.length≤9223372036854775807)(n:Nat)(h3:y3.length=n)(h4:y4.length=n)(hf: ∀ f∈y2,0≤f.1∧f.1 < (n:Int)):
  dS.fin ((0:Int),(↑y2.length:Int),y2,y3,y4)=true∧dS.res ((0:Int),(↑y2.length:Int),y2,y3,y4)=((ae (s8) 0 y2 0 (y3,y4)).1,(nC y2) (ae (s8) 0 y2 0 (y3,y4)).2.1 (ae (s8) 0 y2 0 (y3,y4)).2.2):=by
 have key:=dS.along (nC y2) Ow (s8) 0 (fun _ a=>a.1.length=n∧a.2.length=n) y2 (y3,y4) ⟨h3,h4⟩ (by simp only [dS,nC];omega) (fun i b a hb hI=> ?_) (fun a hI=> ?_)
 ·exact key
 ·obtain⟨y3,y4⟩:=a
  have hlt:=(List.getElem?_eq_some_iff.1 hb).1
  have hget: ∀ d,Option.getD y2[i]? d=b:=fun d=>by rw [hb];rfl
  have hw:=oW hlt hn
  have hdec:ltI (i:Int) (y2.length:Int)=true:=bZ (by omega)
  have hnn:leI (0:Int) (i:Int)=true:=bC (by omega)
  have hltd:ltN i y2.length=true:=cB hlt
  refine⟨?_,?_,?_,?_⟩
  ·have h5:=hf b (List.mem_of_getElem? hb)
   have hI1:=hI.1
   have hI2:=hI.2
   have h6:leI 0 b.1=true:=bC h5.1
   have h7:ltI b.1 (n:Int)=true:=bZ (by omega)
   have h8:ltN b.1.toNat n=true:=cB (by omega)
   simp only at hI1 hI2
   simp [dP,gB,vj,DB,DC,DD,DE,DF,DG,DH,DI,DJ,DK,Bb,Bc,Bd,BN,dS,LT.nds,allT,nC,hdec,hnn,hltd,hget,h6,h7,h8,hI1,hI2]
  ·simp [dP,gB,vj,DB,DC,DD,DE,DF,DG,DH,DI,DJ,DK,Bb,Bc,Bd,BN,dS,LT.each,nC,Ow,hw]
  ·simp only [dP,gB,vj,DB,DC,DD,DE,DF,DG,DH,DI,DJ,DK,Bb,Bc,Bd,BN,dS,LT.fn,nC,Ow,s8,Int.toNat_natCast,hdec,hnn,hltd,hget,cond_true,Bool.cond_self]
  ·intro a' hf;simp only [s8,Sum.inr.injEq]at hf;subst hf;have hI1:=hI.1;have hI2:=hI.2;cases b.2.1==0 <;> simpa using ⟨hI1,hI2⟩
 ·obtain⟨y3,y4⟩:=a
  simp [dP,gB,vj,DB,DC,DD,DE,DF,DG,DH,DI,DJ,DK,Bb,Bc,Bd,BN,dS,LT.out,nC]
theorem ami: ∀ (fs:List (Int×Int×Int)) (a:List Int×List Int),(∀ f∈fs,f.2.1=0∨f.2.1=1)→
  fs.foldl (fun a f=>(bif f.2.1==0 then a.1.set f.1.toNat f.2.2 else a.1,bif f.2.1==0 then a.2 else a.2.set f.1.toNat f.2.2)) a=(fs.foldl (ake 0) a.1,fs.foldl (ake 1) a.2)
 | [],a,_=>rfl
 |f::fs,a,h=>by
  simp only [List.foldl_cons]
  rw [ami fs _ (fun g hg=>h g (by simp [hg]))]
  rcases h f (by simp)with e | e <;> simp [ake,e]
theorem apD(n:Int)(ps:List Int)(fs:List (Int×Int×Int))(h:(isT n ps&&amk n fs)=true):
  VY n ps fs=HO n ps fs 0∧VZ n ps fs=HO n ps fs 1∧Wa n ps fs=true:=by
 simp only [Bool.and_eq_true]at h
 have h2:=(EK.1 h.1).1
 obtain⟨hl,hf⟩:=aqW h.2
 have hr:(List.replicate n.toNat (0:Int)).length=(ui n ps).length:=by rw [abf];simp
 obtain⟨w1,w2⟩:=akh (ui n ps) (List.replicate n.toNat (0:Int)) (by rw [abf];omega) hr
 rw [Og (xs:=ui n ps) (d:=(0:Int)) (g:=occ) (f:=pC (ui n ps)) (e:=0) (fun b a=>by simp only [pC,aw0]) hr]at w2
 have e1:Ct n ps=aiZ n ps:=by
  rw [Ct,NS,w2]
  simp only [nB,ui,aiZ,List.map_map];rfl
 obtain⟨v1,v2⟩:=aki fs (aiZ n ps) (aiZ n ps) (by omega) n.toNat (Rz n ps) (Rz n ps) (fun f hm=>by have:=(hf f hm).1;omega)
 rw [iP (f:=s8) (g:=fun a f=>(bif f.2.1==0 then a.1.set f.1.toNat f.2.2 else a.1,bif f.2.1==0 then a.2 else a.2.set f.1.toNat f.2.2)) (fun b a=>rfl),ami _ _ (fun f hm=>(hf f hm).2.1)]at v2
 have e3:NT n ps fs=(HO n ps fs 0,HO n ps fs 1):=by
  simp only [NT,IA,e1,v2,nC];rfl
 refine⟨by rw [VY,e3],by rw [VZ,e3],?_⟩
 have e4:Lp.fin dS (IA n ps fs)=true:=by simp only [IA,e1];exact v1
 have e5:Lp.fin dR (NS n ps)=true:=w1
 simp only [Wa,e4,e5,e1,h.1,Rz,allT]
 simp;omega
def ad7:List SV→List Entry→Option Out
 | [.one ⟨true,[.val (.int .i64 x0),.ref 0]⟩,.one ⟨false,[.ref 1]⟩],[.row false 2 (.int .i64) x1,.row false 169 (.pair (.int .i64) (.pair (.int .i64) (.int .i64))) x2]=>some ⟨(.one ⟨true,[(.ref 2),(.ref 3)]⟩),[(.row false 2 axl x1),(.row false 169 axj x2)],[(.row true 2 axl (HO x0 x1 x2 0)),(.row true 2 axl (HO x0 x1 x2 1))],[isT x0 x1&&amk x0 x2]⟩
 |_,_=>none
def Wg:PF Tryz.prog:=PF.alt anU ad7 (by
 intro args es o h hnd;unfold ad7 at h;split at h
 ·rename_i x0 x1 x2
  cases h
  have hnd:=bY hnd
  have hh:=apD x0 x1 x2 hnd
  obtain⟨e0,e1,en⟩:=hh
  exact ek rfl (cg en) rfl rfl (by simp only [e0,e1] <;> rfl)
 ·cases h)
def Oh(n:Int)(ps:List Int)(t:Int):Int:=Int.tmod (blk (ps[t.toNat]?.getD 0) + 1) n
def aje(n:Int)(ps a b:List Int)(t:Int):Bool:=phs (ps[t.toNat]?.getD 0)!=1||(a[(Oh n ps t).toNat]?.getD 0==0&&b[(Oh n ps t).toNat]?.getD 0==0)
def aa6(n:Int)(ps a b:List Int)(t:Int):Bool:=acz n ps t&&(asa n a&&asa n b)
theorem apa{n t:Int}{ps a b:List Int}(h:aa6 n ps a b t=true):
  (0≤t∧t < ps.length)∧(2≤n∧n≤8)∧(0≤Oh n ps t∧Oh n ps t < n)∧((a.length:Int)=n∧(b.length:Int)=n)∧
   IntKind.i64.wrap (IntKind.i64.wrap (Int.tdiv (ps[t.toNat]?.getD 0) 3) + 1)=blk (ps[t.toNat]?.getD 0) + 1∧
   (0≤a[(Oh n ps t).toNat]?.getD 0∧a[(Oh n ps t).toNat]?.getD 0≤1)∧(0≤b[(Oh n ps t).toNat]?.getD 0∧b[(Oh n ps t).toNat]?.getD 0≤1):=by
 simp only [aa6,Bool.and_eq_true,alr,asa,atR,List.all_eq_true,sR,XK]at h
 obtain⟨⟨hT,ht⟩,⟨ha,ha2⟩,hb,hb2⟩:=h
 have h1:=EK.1 hT
 have hlt:t.toNat < ps.length:=by omega
 have hp:=h1.2.2 (ps[t.toNat]) (List.getElem_mem hlt)
 have e0:ps[t.toNat]?.getD 0=ps[t.toNat]:=by rw [List.getElem?_eq_getElem hlt];rfl
 rw [Oh,e0]
 have hb3:blk ps[t.toNat]=ps[t.toNat] / 3:=al6 hp.1
 have hb4:Int.tdiv ps[t.toNat] 3=ps[t.toNat] / 3:=Int.tdiv_eq_ediv_of_nonneg hp.1
 have hq:Int.tmod (blk ps[t.toNat] + 1) n=(ps[t.toNat] / 3 + 1) % n:=by rw [hb3,Int.tmod_eq_emod_of_nonneg (by omega)]
 have hm0:0≤(ps[t.toNat] / 3 + 1) % n:=Int.emod_nonneg _ (by omega)
 have hm1:(ps[t.toNat] / 3 + 1) % n < n:=Int.emod_lt_of_pos _ (by omega)
 rw [hq]
 have la:((ps[t.toNat] / 3 + 1) % n).toNat < a.length:=by omega
 have lb:((ps[t.toNat] / 3 + 1) % n).toNat < b.length:=by omega
 rw [List.getElem?_eq_getElem la,List.getElem?_eq_getElem lb]
 refine⟨ht,h1.1,⟨hm0,hm1⟩,⟨ha,hb⟩,?_,ha2 _ (List.getElem_mem la),hb2 _ (List.getElem_mem lb)⟩
 rw [hb4,aw (x:=ps[t.toNat] / 3) (by omega) (by omega),aw (by omega) (by omega),hb3]
theorem aso(n t:Int)(ps a b:List Int)(h:aa6 n ps a b t=true):SW n t ps a b=aje n ps a b t∧SY n t ps a b=true:=by
 obtain⟨ht,hn,hx,hl,hw,ha,hb⟩:=apa h
 have e2:mD n t ps=Oh n ps t:=by
  simp only [mD,KN,hw];rfl
 refine⟨?_,?_⟩
 ·simp only [SW,e2,th,KN,aje,phs]
  rw [aw (by omega) (by omega)]
  cases Int.tmod (ps[t.toNat]?.getD 0) 3 !=1 with
  |true=>rfl
  |false=>
   rw [cond_false,Bool.false_or,Bool.eq_iff_iff]
   simp only [beq_iff_eq,Bool.and_eq_true]
   omega
 ·have t1:leI 0 t=true:=bC ht.1
  have t2:ltI t (ps.length:Int)=true:=bZ ht.2
  have t3:ltN t.toNat ps.length=true:=cB (by omega)
  have t4:neI n 0=true:=aqe (by omega)
  have t5:leI 0 (Oh n ps t)=true:=bC hx.1
  have t6:ltI (Oh n ps t) (a.length:Int)=true:=bZ (by omega)
  have t7:ltN (Oh n ps t).toNat a.length=true:=cB (by omega)
  have t8:ltI (Oh n ps t) (b.length:Int)=true:=bZ (by omega)
  have t9:ltN (Oh n ps t).toNat b.length=true:=cB (by omega)
  simp only [SY,QJ,e2,t1,t2,t3,t4,t5,t6,t7,t8,t9,allT,cond_true,Bool.or_true]
def aaf:List SV→List Entry→Option Out
 | [.one ⟨true,[.val (.int .i64 x0),.ref 0]⟩,.one ⟨true,[.ref 1,.ref 2]⟩,.one ⟨false,[.val (.int .i64 x1)]⟩],[.row false 2 (.int .i64) x2,.row false 2 (.int .i64) x3,.row false 2 (.int .i64) x4]=>some ⟨(.one ⟨false,[(.val (.bool (aje x0 x2 x3 x4 x1)))]⟩),[(.row false 2 axl x2),(.row false 2 axl x3),(.row false 2 axl x4)],[],[aa6 x0 x2 x3 x4 x1]⟩
 |_,_=>none
def Sm:PF Tryz.prog:=PF.alt alD aaf (by
 intro args es o h hnd;unfold aaf at h;split at h
 ·rename_i x0 x1 x2 x3 x4
  cases h
  have hnd:=bY hnd
  have hh:=aso x0 x1 x2 x3 x4 hnd
  obtain⟨e0,en⟩:=hh
  exact ek rfl (cg en) (by simp only [e0] <;> rfl) rfl rfl
 ·cases h)
theorem arQ(n t:Int)(a b ps:List Int)(h:aa6 n ps a b t=true):mI n t a b ps=aje n ps a b t∧mJ n t a b ps=true:=by
 obtain⟨ht,hn,hx,hl,hw,ha,hb⟩:=apa h
 have e2:iA n t ps=Oh n ps t:=by
  simp only [iA,iz,hw];rfl
 refine⟨?_,?_⟩
 ·simp only [mI,e2,eE,iz,mG,eD,aje,phs]
  cases Int.tmod (ps[t.toNat]?.getD 0) 3 !=1 with
  |true=>rfl
  |false=>
   rw [cond_false,Bool.false_or]
   cases a[(Oh n ps t).toNat]?.getD 0==0 <;> rfl
 ·have t1:leI 0 t=true:=bC ht.1
  have t2:ltI t (ps.length:Int)=true:=bZ ht.2
  have t3:ltN t.toNat ps.length=true:=cB (by omega)
  have t4:neI n 0=true:=aqe (by omega)
  have t4':neI (3:Int) 0=true:=aqe (by omega)
  have t5:leI 0 (Oh n ps t)=true:=bC hx.1
  have t6:ltI (Oh n ps t) (a.length:Int)=true:=bZ (by omega)
  have t7:ltN (Oh n ps t).toNat a.length=true:=cB (by omega)
  have t8:ltI (Oh n ps t) (b.length:Int)=true:=bZ (by omega)
  have t9:ltN (Oh n ps t).toNat b.length=true:=cB (by omega)
  simp only [mJ,mH,e2,t1,t2,t3,t4,t4',t5,t6,t7,t8,t9,allT,cond_true,Bool.or_true]
def vJ:List SV→List Entry→Option Out
 | [.one ⟨true,[.ref 0,.ref 1]⟩,.one ⟨true,[.val (.int .i64 x0),.ref 2]⟩,.one ⟨false,[.val (.int .i64 x1)]⟩],[.row false 2 (.int .i64) x2,.row false 2 (.int .i64) x3,.row false 2 (.int .i64) x4]=>some ⟨(.one ⟨false,[(.val (.bool (aje x0 x4 x2 x3 x1)))]⟩),[(.row false 2 axl x2),(.row false 2 axl x3),(.row false 2 axl x4)],[],[aa6 x0 x4 x2 x3 x1]⟩
 |_,_=>none
def mN:PF Tryz.prog:=PF.alt La vJ (by
 intro args es o h hnd;unfold vJ at h;split at h
 ·rename_i x0 x1 x2 x3 x4
  cases h
  have hnd:=bY hnd
  have hh:=arQ x0 x1 x2 x3 x4 hnd
  obtain⟨e0,en⟩:=hh
  exact ek rfl (cg en) (by simp only [e0] <;> rfl) rfl rfl
 ·cases h)
theorem avC(n:Int)(ps:List Int)(b:Int):inR (occ (adh n ps b:Int)) 0 1=true:=by
 rw [sR,occ];cases h:ltI (adh n ps b:Int) 1 <;> simp at h ⊢;omega
theorem arw(n:Int)(ps:List Int)(fs:List (Int×Int×Int))(ch:Int)(hT:isT n ps=true)(hF:amk n fs=true):asa n (HO n ps fs ch)=true:=by
 have h2:=(EK.1 hT).1
 obtain⟨hl,hf⟩:=aqW hF
 simp only [asa,Bool.and_eq_true,atR,aqE]
 refine⟨by omega,?_⟩
 have key: ∀ (fs:List (Int×Int×Int)) (l:List Int),(∀ f∈fs,0≤f.2.2∧f.2.2≤1)→(l.all fun v=>inR v 0 1)=true→((fs.foldl (ake ch) l).all fun v=>inR v 0 1)=true:=by
  intro fs
  induction fs with
  |nil=>intro l _ h;exact h
  |cons f fs ih=>
   intro l hv h
   rw [List.foldl_cons]
   refine ih _ (fun g hg=>hv g (by simp [hg])) ?_
   unfold ake
   cases f.2.1==ch with
   |false=>exact h
   |true=>
    simp only [cond_true,List.all_eq_true]at h ⊢
    intro v hm
    rcases List.mem_or_eq_of_mem_set hm with h3 | rfl
    ·exact h v h3
    ·exact sR.2 (hv f (by simp))
 refine key fs _ (fun f hm=>(hf f hm).2.2) ?_
 simp only [aiZ,List.all_map,List.all_eq_true,Function.comp]
 intro b _;exact avC n ps b
end Go.SX

namespace Go.SX
open Go.Proofs
set_option maxRecDepth 100000
def YT(x0 x1 x2:Int):Bool:=bif bif x1==(0:Int)then x1==(0:Int)else x1==(1:Int)then aL x2 (0:Int) (IntKind.wrap .i64 (x0 - (1:Int)))else bif bif x1==(2:Int)then x1==(2:Int)else x1==(3:Int)then x2==(0:Int)else false
def afp:List SV→List Entry→Option Out
 | [.one ⟨false,[.val (.int .i64 x0)]⟩,.one ⟨true,[.val (.int .i64 x1),.val (.int .i64 x2)]⟩],[]=>some ⟨(.one ⟨false,[(.val (.bool (YT x0 x1 x2)))]⟩),[],[],[]⟩
 |_,_=>none
def ao6:PF Tryz.prog:=PF.ofG Tryz.prog [fB] [] aq 100 Tryz.f100 Tryz.func100 (fun c _=>LOk.nil c) afp (by
 intro vs es r h;unfold afp at h;split at h
 ·cases h;kernel_rfl
 ·cases h)
def YW(x0:Int):Bool:=aL x0 (0:Int) (3:Int)
def aft:List SV→List Entry→Option Out
 | [.one ⟨false,[.val (.int .i64 x0)]⟩],[]=>some ⟨(.one ⟨false,[(.val (.bool (YW x0)))]⟩),[],[],[]⟩
 |_,_=>none
def ao9:PF Tryz.prog:=PF.ofG Tryz.prog [fB] [] aq 186 Tryz.f186 Tryz.func186 (fun c _=>LOk.nil c) aft (by
 intro vs es r h;unfold aft at h;split at h
 ·cases h;kernel_rfl
 ·cases h)
def UJ(x0 x1:Int):Bool:=bif aL x0 (0:Int) (9:Int)then YW x1 else false
def abC:List SV→List Entry→Option Out
 | [.one ⟨true,[.val (.int .i64 x0),.val (.int .i64 x1),.val (.bool _x2)]⟩],[]=>some ⟨(.one ⟨false,[(.val (.bool (UJ x0 x1)))]⟩),[],[],[]⟩
 |_,_=>none
def amU:PF Tryz.prog:=PF.ofG Tryz.prog [ao9,fB] [] aq 101 Tryz.f101 Tryz.func101 (fun c _=>LOk.nil c) abC (by
 intro vs es r h;unfold abC at h;split at h
 ·cases h;kernel_rfl
 ·cases h)
abbrev ci:=Int×Int×Int×List Int
section
variable (y0 y1 y2:Int)(y3:List Int)
def lZ:Bool:=ltI y0 y1
def l4:Bool:=leI (0:Int) y0
def l5:Bool:=ltI y0 (↑y3.length:Int)
def l6:Bool:=ltN y0.toNat y3.length
def l7:Bool:=y2==Option.getD y3[Int.toNat y0]? (0:Int)
def l8:Int:=IntKind.wrap .i64 (y0 + (1:Int))
end
def TG:ci→List (Nat×SV)
 |(y0,y1,y2,_)=> [(8,(.one ⟨false,[(.val (.int .i64 y0))]⟩)),(7,(.one ⟨false,[(.val (.int .i64 y1))]⟩)),(1,(.one ⟨false,[(.val (.int .i64 y2))]⟩)),(0,(.one ⟨false,[(.ref 0)]⟩))]
def TF:ci→List (Nat×Entry)
 |(_,_,_,y3)=> [(0,(.row false 2 axl y3))]
def TI:Nat→ci→List (Nat×SV)
 |0,(y0,_,_,_)=> [(4,(.one ⟨false,[(.val (.int .i64 y0))]⟩))]
 |_,(_,_,_,_)=> []
def TH:Nat→ci→List (Nat×Entry)
 |0,(_,_,_,y3)=> [(0,(.row false 2 axl y3))]
 |_,(_,_,_,y3)=> [(0,(.row false 2 axl y3))]
def lu:ci→LT ci
 |(y0,y1,y2,y3)=> .ite (lZ y0 y1) (.need [(l4 y0),(l5 y0 y3),(l6 y0 y3)] (.ite (l7 y0 y2 y3) (.ext 0 [(0,0)]) (.nrm ((l8 y0),y1,y2,y3) [(0,0)]))) (.ext 1 [(0,0)])
def xM(s:St):Option ci:=
 (match s.look 8 with
 |some ⟨none,(.one ⟨false,[(.val (.int .i64 y0))]⟩)⟩=>
 (match s.look 7 with
 |some ⟨none,(.one ⟨false,[(.val (.int .i64 y1))]⟩)⟩=>
 (match s.look 1 with
 |some ⟨none,(.one ⟨false,[(.val (.int .i64 y2))]⟩)⟩=>
 (match s.look 0 with
 |some ⟨none,(.one ⟨false,[(.ref 0)]⟩)⟩=>
 (match s.ent 0 with
 |some (.row false 2 (.int .i64) y3)=>
 some (y0,y1,y2,y3)
 |_=>none)
 |_=>none)
 |_=>none)
 |_=>none)
 |_=>none)
def aN:Lp ci where
 h:=⟨[9,10,5,11,12,13,14,15,16,17,4,18,8],[0],[],[]⟩
 JL:=TG
 JE:=TF
 XL:=TI
 XE:=TH
 q:=fun j=>match j with | 0=> .ret | _=> .exit 0
 tags:= [0,1]
 lt:=lu
 fuel:=fun(y0,y1,y2,y3)=>y0.natAbs + y1.natAbs + y2.natAbs + y3.length
 fix:=fun(_,y1,y2,y3) (y0,_,_,_)=>(y0,y1,y2,y3)
 σ:= [(0,0)]
 rd:=xM
theorem Si:LoopOk Tryz.prog (fun k=>Nat.blt k Tryz.f212.ntmps) aN.F (au Tryz.f212 0):=by
 refine Lp.ok (tbl:= []) (lf:= []) aq aN (by kernel_rfl) (LOk.nil _) (fun _=>rfl) (fun j _=>by unfold aN;match j with | 0=>rfl | _ + 1=>rfl) ?_ ?_ ?_ ?_ (fun _=>rfl) ?_
 ·rintro⟨y0,y1,y2,y3⟩;kernel_rfl
 ·rintro⟨y0,y1,y2,y3⟩;kernel_rfl
 ·intro s x h
  have h:xM s=some x:=h
  unfold xM at h
  repeat' split at h
  all_goals cases h
  exact⟨aa (by assumption) rfl (aa (by assumption) rfl (aa (by assumption) rfl (aa (by assumption) rfl (rfl)))),ab rfl (by assumption) rfl (rfl)⟩
 ·rintro⟨y0,y1,y2,y3⟩;kernel_rfl
 ·rintro⟨y0,y1,y2,y3⟩ z;exact(And.intro (And.intro trivial rfl) trivial)
section
variable (x0:Int)(x1:List Int)
def ud:Int×Int×Int×List Int:=((0:Int),(↑x1.length:Int),x0,x1)
def En:Int:=bif Nat.beq ((Lp.res aN (ud x0 x1)).1) (0:Nat)then ((Lp.res aN (ud x0 x1)).2).1else(-1:Int)
def Eo:Bool:=allT [Lp.fin aN (ud x0 x1)]
end
def ME:List SV→List Entry→Option Out
 | [.one ⟨false,[.ref 0]⟩,.one ⟨false,[.val (.int .i64 x0)]⟩],[.row false 2 (.int .i64) x1]=>some ⟨(.one ⟨false,[(.val (.int .i64 (En x0 x1)))]⟩),[(.row false 2 axl x1)],[],[(Eo x0 x1)]⟩
 |_,_=>none
def Ek:PF Tryz.prog:=PF.ofG Tryz.prog [] [aN.F] aq 212 Tryz.f212 Tryz.func212 (LOk.fnT (l:= [au Tryz.f212 0]) (by kernel_rfl) (.cons Si (.nil _))) ME (by
 intro vs es r h;unfold ME at h;split at h
 ·cases h;kernel_rfl
 ·cases h)
def dk(x0:Int)(x1:List Int):Bool:=leI (0:Int) (En x0 x1)
def jm(x0:Int)(x1:List Int):Bool:=allT [Eo x0 x1]
def Kf:List SV→List Entry→Option Out
 | [.one ⟨false,[.ref 0]⟩,.one ⟨false,[.val (.int .i64 x0)]⟩],[.row false 2 (.int .i64) x1]=>some ⟨(.one ⟨false,[(.val (.bool (dk x0 x1)))]⟩),[(.row false 2 axl x1)],[],[(jm x0 x1)]⟩
 |_,_=>none
def dj:PF Tryz.prog:=PF.ofG Tryz.prog [Ek,PF.lend Ek,PF.fz Ek] [] aq 160 Tryz.f160 Tryz.func160 (fun c _=>LOk.nil c) Kf (by
 intro vs es r h;unfold Kf at h;split at h
 ·cases h;kernel_rfl
 ·cases h)
def ado(x0:Bool):Int:=bif x0 then(1:Int)else(0:Int)
def akn:List SV→List Entry→Option Out
 | [.one ⟨false,[.val (.bool x0)]⟩],[]=>some ⟨(.one ⟨false,[(.val (.int .i64 (ado x0)))]⟩),[],[],[]⟩
 |_,_=>none
def adG:PF Tryz.prog:=PF.ofG Tryz.prog [] [] aq 232 Tryz.f232 Tryz.func232 (fun c _=>LOk.nil c) akn (by
 intro vs es r h;unfold akn at h;split at h
 ·cases h;kernel_rfl
 ·cases h)
abbrev iD:=Int×Int×List Int×List Int
section
variable (y0 y1:Int)(y2 y3:List Int)
def nH:List Int:= [ado (Option.getD y2[Int.toNat y0]? (0:Int)==(2:Int))]
def yF:Bool:=ltI y0 y1
def yG:Bool:=leI (0:Int) y0
def yH:Bool:=ltI y0 (↑y2.length:Int)
def yI:Bool:=ltN y0.toNat y2.length
def yJ:Bool:=leN (List.length y3 + List.length (nH y0 y2)) (9223372036854775807:Nat)
def yK:Bool:=leN ((List.length y3 + List.length (nH y0 y2)) * (8:Nat)) (140737488355328:Nat)
def yL:Int:=IntKind.wrap .i64 (y0 + (1:Int))
def yM:List Int:=y3++nH y0 y2
end
def aeu:iD→List (Nat×SV)
 |(y0,y1,_,_)=> [(13,(.one ⟨false,[(.val (.int .i64 y0))]⟩)),(12,(.one ⟨false,[(.val (.int .i64 y1))]⟩)),(11,(.one ⟨false,[(.ref 0)]⟩)),(5,(.one ⟨false,[(.ref 1)]⟩))]
def aem:iD→List (Nat×Entry)
 |(_,_,y2,y3)=> [(0,(.row false 2 axl y2)),(1,(.row true 2 axl y3))]
def aeK:Nat→iD→List (Nat×SV)
 |_,(_,_,_,_)=> [(5,(.one ⟨false,[(.ref 1)]⟩))]
def aeC:Nat→iD→List (Nat×Entry)
 |_,(_,_,y2,y3)=> [(0,(.row false 2 axl y2)),(1,(.row true 2 axl y3))]
def wX:iD→LT iD
 |(y0,y1,y2,y3)=> .ite (yF y0 y1) (.need [(yG y0),(yH y0 y2),(yI y0 y2)] (.need [(yJ y0 y2 y3),(yK y0 y2 y3)] (.nrm ((yL y0),y1,y2,(yM y0 y2 y3)) [(0,0),(1,640)]))) (.ext 0 [(0,0),(1,1)])
def LU(s:St):Option iD:=
 (match s.look 13 with
 |some ⟨none,(.one ⟨false,[(.val (.int .i64 y0))]⟩)⟩=>
 (match s.look 12 with
 |some ⟨none,(.one ⟨false,[(.val (.int .i64 y1))]⟩)⟩=>
 (match s.look 11 with
 |some ⟨none,(.one ⟨false,[(.ref 0)]⟩)⟩=>
 (match s.look 5 with
 |some ⟨none,(.one ⟨false,[(.ref 256)]⟩)⟩=>
 (match s.ent 0 with
 |some (.row false 2 (.int .i64) y2)=>
 (match s.ent 256 with
 |some (.row true 2 (.int .i64) y3)=>
 some (y0,y1,y2,y3)
 |_=>none)
 |_=>none)
 |_=>none)
 |_=>none)
 |_=>none)
 |_=>none)
def cH:Lp iD where
 h:=⟨[14,15,16,7,17,18,19,20,21,22,5,23,13],[0],[1],[]⟩
 JL:=aeu
 JE:=aem
 XL:=aeK
 XE:=aeC
 q:=fun j=>match j with | _=> .exit 0
 tags:= [0]
 lt:=wX
 fuel:=fun(y0,y1,y2,y3)=>y0.natAbs + y1.natAbs + y2.length + y3.length
 fix:=fun(_,y1,y2,_) (y0,_,_,y3)=>(y0,y1,y2,y3)
 σ:= [(0,0),(1,256)]
 rd:=LU
theorem aco:LoopOk Tryz.prog (fun k=>Nat.blt k Tryz.f187.ntmps) cH.F (au Tryz.f187 0):=by
 refine Lp.ok (tbl:= [ai,PF.lend ai,PF.fz ai,adG]) (lf:= []) aq cH (by kernel_rfl) (LOk.nil _) (fun _=>rfl) (fun _ _=>rfl) ?_ ?_ ?_ ?_ (fun _=>rfl) ?_
 ·rintro⟨y0,y1,y2,y3⟩;kernel_rfl
 ·rintro⟨y0,y1,y2,y3⟩;kernel_rfl
 ·intro s x h
  have h:LU s=some x:=h
  unfold LU at h
  repeat' split at h
  all_goals cases h
  exact⟨aa (by assumption) rfl (aa (by assumption) rfl (aa (by assumption) rfl (aa (by assumption) rfl (rfl)))),ab rfl (by assumption) rfl (ab rfl (by assumption) rfl (rfl))⟩
 ·rintro⟨y0,y1,y2,y3⟩;kernel_rfl
 ·rintro⟨y0,y1,y2,y3⟩ z;exact(And.intro rfl trivial)
abbrev iE:=Int×Int×List (Int×(Int×Int))×List Int×List Int
section
variable (y0 y1:Int)(y2:List (Int×(Int×Int)))(y3 y4:List Int)
def cG:Int×Int×Int:=Option.getD y2[Int.toNat y0]? ((0:Int),(0:Int),(0:Int))
def ej:Bool:=((cG y0 y2).2).1==(0:Int)
def rP:Bool:=leI (0:Int) ((cG y0 y2).1)
def yN:Bool:=ltI y0 y1
def yO:Bool:=leI (0:Int) y0
def yP:Bool:=ltI y0 (↑y2.length:Int)
def yQ:Bool:=ltN y0.toNat y2.length
def yR:Bool:= !ej y0 y2||rP y0 y2
def yS:Bool:= !ej y0 y2||ltI ((cG y0 y2).1) (↑y3.length:Int)
def yT:Bool:= !ej y0 y2||ltN (Int.toNat ((cG y0 y2).1)) y3.length
def yU:Bool:=ej y0 y2||rP y0 y2
def yV:Bool:=ej y0 y2||ltI ((cG y0 y2).1) (↑y4.length:Int)
def yW:Bool:=ej y0 y2||ltN (Int.toNat ((cG y0 y2).1)) y4.length
def ww:Int:=IntKind.wrap .i64 (y0 + (1:Int))
def wx:List Int:=bif ej y0 y2 then List.set y3 (Int.toNat ((cG y0 y2).1)) ((cG y0 y2).2.2)else y3
def wy:List Int:=bif ej y0 y2 then y4 else List.set y4 (Int.toNat ((cG y0 y2).1)) ((cG y0 y2).2.2)
end
def aev:iE→List (Nat×SV)
 |(y0,y1,_,_,_)=> [(30,(.one ⟨false,[(.val (.int .i64 y0))]⟩)),(29,(.one ⟨false,[(.val (.int .i64 y1))]⟩)),(28,(.one ⟨false,[(.ref 0)]⟩)),(8,(.one ⟨false,[(.ptr 1 0)]⟩))]
def aen:iE→List (Nat×Entry)
 |(_,_,y2,y3,y4)=> [(0,(.row false 100 axj y2)),(1,(.box 130 [(.ref 2),(.ref 3)])),(2,(.row true 2 axl y3)),(3,(.row true 2 axl y4))]
def aeL:Nat→iE→List (Nat×SV)
 |_,(_,_,_,_,_)=> []
def aeD:Nat→iE→List (Nat×Entry)
 |_,(_,_,y2,y3,y4)=> [(0,(.row false 100 axj y2)),(1,(.box 130 [(.ref 2),(.ref 3)])),(2,(.row true 2 axl y3)),(3,(.row true 2 axl y4))]
def wY:iE→LT iE
 |(y0,y1,y2,y3,y4)=> .ite (yN y0 y1) (.need [(yO y0),(yP y0 y2),(yQ y0 y2)] (.need [(yR y0 y2),(yS y0 y2 y3),(yT y0 y2 y3),(yU y0 y2),(yV y0 y2 y4),(yW y0 y2 y4)] (.nrm ((ww y0),y1,y2,(wx y0 y2 y3),(wy y0 y2 y4)) [(0,0),(1,1),(2,2),(3,3)]))) (.ext 0 [(0,0),(1,1),(2,2),(3,3)])
def LV(s:St):Option iE:=
 (match s.look 30 with
 |some ⟨none,(.one ⟨false,[(.val (.int .i64 y0))]⟩)⟩=>
 (match s.look 29 with
 |some ⟨none,(.one ⟨false,[(.val (.int .i64 y1))]⟩)⟩=>
 (match s.look 28 with
 |some ⟨none,(.one ⟨false,[(.ref 1)]⟩)⟩=>
 (match s.look 8 with
 |some ⟨none,(.one ⟨false,[(.ptr 832 0)]⟩)⟩=>
 (match s.ent 1 with
 |some (.row false 100 (.pair (.int .i64) (.pair (.int .i64) (.int .i64))) y2)=>
 (match s.ent 832 with
 |some (.box 130 [(.ref 512),(.ref 704)])=>
 (match s.ent 512 with
 |some (.row true 2 (.int .i64) y3)=>
 (match s.ent 704 with
 |some (.row true 2 (.int .i64) y4)=>
 some (y0,y1,y2,y3,y4)
 |_=>none)
 |_=>none)
 |_=>none)
 |_=>none)
 |_=>none)
 |_=>none)
 |_=>none)
 |_=>none)
def cI:Lp iE where
 h:=⟨[31,32,33,10,34,35,36,37,38,39,40,41,42,43,44,45,46,47,48,49,50,51,30],[0,1,2,3],[],[]⟩
 JL:=aev
 JE:=aen
 XL:=aeL
 XE:=aeD
 q:=fun j=>match j with | _=> .exit 2
 tags:= [0]
 lt:=wY
 fuel:=fun(y0,y1,y2,y3,y4)=>y0.natAbs + y1.natAbs + y2.length + y3.length + y4.length
 fix:=fun(_,y1,y2,_,_) (y0,_,_,y3,y4)=>(y0,y1,y2,y3,y4)
 σ:= [(0,1),(1,832),(2,512),(3,704)]
 rd:=LV
theorem acp:LoopOk Tryz.prog (fun k=>Nat.blt k Tryz.f187.ntmps) cI.F (au Tryz.f187 1):=by
 refine Lp.ok (tbl:= [ai,PF.lend ai,PF.fz ai,adG]) (lf:= []) aq cI (by kernel_rfl) (LOk.nil _) (fun _=>rfl) (fun _ _=>rfl) ?_ ?_ ?_ ?_ (fun _=>rfl) ?_
 ·rintro⟨y0,y1,y2,y3,y4⟩;kernel_rfl
 ·rintro⟨y0,y1,y2,y3,y4⟩;kernel_rfl
 ·intro s x h
  have h:LV s=some x:=h
  unfold LV at h
  repeat' split at h
  all_goals cases h
  exact⟨aa (by assumption) rfl (aa (by assumption) rfl (aa (by assumption) rfl (aa (by assumption) rfl (rfl)))),ab rfl (by assumption) rfl (ab rfl (by assumption) rfl (ab rfl (by assumption) rfl (ab rfl (by assumption) rfl (rfl))))⟩
 ·rintro⟨y0,y1,y2,y3,y4⟩;kernel_rfl
 ·rintro⟨y0,y1,y2,y3,y4⟩ z;exact(And.intro rfl trivial)
section
variable (x0:List Int)(x1:List (Int×Int×Int))
def Kq:Int×Int×List Int×List Int:=((0:Int),(↑x0.length:Int),x0,[])
def xy:List Int:=(Lp.res cH (Kq x0)).2.2.2.2
def Dt:Int×Int×List (Int×Int×Int)×List Int×List Int:=((0:Int),(↑x1.length:Int),x1,xy x0,xy x0)
def Kr:List Int×List Int:=(Lp.res cI (Dt x0 x1)).2.2.2.2
def Ah:List Int:=(Kr x0 x1).1
def FF:List Int:=(Kr x0 x1).2
def Me:Bool:=allT [Lp.fin cH (Kq x0),leN (1:Nat) (List.length (xy x0))&&leN (List.length (xy x0)) (1048576:Nat),Lp.fin cI (Dt x0 x1)]
end
def ZP:List SV→List Entry→Option Out
 | [.one ⟨false,[.ref 0]⟩,.one ⟨false,[.ref 1]⟩],[.row false 2 (.int .i64) x0,.row false 100 (.pair (.int .i64) (.pair (.int .i64) (.int .i64))) x1]=>some ⟨(.one ⟨true,[(.ref 2),(.ref 3)]⟩),[(.row false 2 axl x0),(.row false 100 axj x1)],[(.row true 2 axl (Ah x0 x1)),(.row true 2 axl (FF x0 x1))],[(Me x0 x1)]⟩
 |_,_=>none
def Sq:PF Tryz.prog:=PF.ofG Tryz.prog [ai,PF.lend ai,PF.fz ai,adG] [cH.F,cI.F] aq 187 Tryz.f187 Tryz.func187 (LOk.fnT (l:= [au Tryz.f187 0,au Tryz.f187 1]) (by kernel_rfl) (.cons aco (.cons acp (.nil _)))) ZP (by
 intro vs es r h;unfold ZP at h;split at h
 ·cases h;kernel_rfl
 ·cases h)
def XY(x0:List Int)(x1:List (Int×Int×Int)):Bool:=bif !dk (0:Int) (Ah x0 x1)then !dk (0:Int) (FF x0 x1)else false
def XZ(x0:List Int)(x1:List (Int×Int×Int)):Bool:=allT [Me x0 x1,jm (0:Int) (Ah x0 x1),!(!dk (0:Int) (Ah x0 x1)&&true)||jm (0:Int) (FF x0 x1)]
def afd:List SV→List Entry→Option Out
 | [.one ⟨false,[.ref 0]⟩,.one ⟨false,[.ref 1]⟩],[.row false 2 (.int .i64) x0,.row false 100 (.pair (.int .i64) (.pair (.int .i64) (.int .i64))) x1]=>some ⟨(.one ⟨false,[(.val (.bool (XY x0 x1)))]⟩),[(.row false 2 axl x0),(.row false 100 axj x1)],[],[(XZ x0 x1)]⟩
 |_,_=>none
def aoX:PF Tryz.prog:=PF.ofG Tryz.prog [dj,PF.lend dj,PF.fz dj,Sq,PF.lend Sq,PF.fz Sq] [] aq 103 Tryz.f103 Tryz.func103 (fun c _=>LOk.nil c) afd (by
 intro vs es r h;unfold afd at h;split at h
 ·cases h;kernel_rfl
 ·cases h)
abbrev ew:=Int×Int×Int×List Int
section
variable (y0 y1 y2:Int)(y3:List Int)
def rZ:Bool:=ltI y0 y1
def sa:Bool:=leI (0:Int) y0
def sb:Bool:=ltI y0 (↑y3.length:Int)
def sc:Bool:=ltN y0.toNat y3.length
def sd:Int:=IntKind.wrap .i64 (y0 + (1:Int))
def se:List Int:=List.set y3 y0.toNat y2
end
def Zs:ew→List (Nat×SV)
 |(y0,y1,y2,_)=> [(41,(.one ⟨false,[(.val (.int .i64 y0))]⟩)),(40,(.one ⟨false,[(.val (.int .i64 y1))]⟩)),(0,(.one ⟨false,[(.ref 0)]⟩)),(5,(.one ⟨false,[(.val (.int .i64 y2))]⟩))]
def Zn:ew→List (Nat×Entry)
 |(_,_,_,y3)=> [(0,(.row true 2 axl y3))]
def ZC:Nat→ew→List (Nat×SV)
 |_,(_,_,_,_)=> []
def Zx:Nat→ew→List (Nat×Entry)
 |_,(_,_,_,y3)=> [(0,(.row true 2 axl y3))]
def qY:ew→LT ew
 |(y0,y1,y2,y3)=> .ite (rZ y0 y1) (.need [(sa y0),(sb y0 y3),(sc y0 y3)] (.nrm ((sd y0),y1,y2,(se y0 y2 y3)) [(0,0)])) (.ext 0 [(0,0)])
def Fg(s:St):Option ew:=
 (match s.look 41 with
 |some ⟨none,(.one ⟨false,[(.val (.int .i64 y0))]⟩)⟩=>
 (match s.look 40 with
 |some ⟨none,(.one ⟨false,[(.val (.int .i64 y1))]⟩)⟩=>
 (match s.look 0 with
 |some ⟨none,(.one ⟨false,[(.ref 0)]⟩)⟩=>
 (match s.look 5 with
 |some ⟨none,(.one ⟨false,[(.val (.int .i64 y2))]⟩)⟩=>
 (match s.ent 0 with
 |some (.row true 2 (.int .i64) y3)=>
 some (y0,y1,y2,y3)
 |_=>none)
 |_=>none)
 |_=>none)
 |_=>none)
 |_=>none)
def aX:Lp ew where
 h:=⟨[42,43,6,44,45,46,47,48,41],[0],[],[]⟩
 JL:=Zs
 JE:=Zn
 XL:=ZC
 XE:=Zx
 q:=fun j=>match j with | _=> .exit 1
 tags:= [0]
 lt:=qY
 fuel:=fun(y0,y1,y2,y3)=>y0.natAbs + y1.natAbs + y2.natAbs + y3.length
 fix:=fun(_,y1,y2,_) (y0,_,_,y3)=>(y0,y1,y2,y3)
 σ:= [(0,0)]
 rd:=Fg
theorem Xd:LoopOk Tryz.prog (fun k=>Nat.blt k Tryz.f205.ntmps) aX.F (au Tryz.f205 0):=by
 refine Lp.ok (tbl:= [dj,PF.lend dj,PF.fz dj,CC,PF.lend CC,PF.fz CC]) (lf:= []) aq aX (by kernel_rfl) (LOk.nil _) (fun _=>rfl) (fun _ _=>rfl) ?_ ?_ ?_ ?_ (fun _=>rfl) ?_
 ·rintro⟨y0,y1,y2,y3⟩;kernel_rfl
 ·rintro⟨y0,y1,y2,y3⟩;kernel_rfl
 ·intro s x h
  have h:Fg s=some x:=h
  unfold Fg at h
  repeat' split at h
  all_goals cases h
  exact⟨aa (by assumption) rfl (aa (by assumption) rfl (aa (by assumption) rfl (aa (by assumption) rfl (rfl)))),ab rfl (by assumption) rfl (rfl)⟩
 ·rintro⟨y0,y1,y2,y3⟩;kernel_rfl
 ·rintro⟨y0,y1,y2,y3⟩ z;exact(And.intro rfl trivial)
section
variable (x0 x1:Int)(x2:List Int)
def bJ:Bool:=bif x0==(0:Int)then x0==(0:Int)else x0==(1:Int)
def Ks:Int:=Option.getD x2[Int.toNat x1]? (0:Int)
def mr:Bool:=Ks x1 x2 !=IntKind.wrap .i64 (IntKind.wrap .i64 (x0 - (0:Int)) + (0:Int))
def Kt:Int×Int×Int×List Int:=((0:Int),(↑x2.length:Int),(2:Int),x2)
def Ku:Int×Int×Int×List Int:=((0:Int),(↑x2.length:Int),(1:Int),x2)
def uy:Bool:= !bJ x0||(mr x0 x1 x2||leI (0:Int) x1)
def uz:Bool:= !bJ x0||(mr x0 x1 x2||ltI x1 (↑x2.length:Int))
def uA:Bool:= !bJ x0||(mr x0 x1 x2||ltN x1.toNat x2.length)
def wz:Bool:=bif bJ x0 then bif mr x0 x1 x2 then false else true else bif x0==(2:Int)then bif dk (0:Int) x2 then false else true else bif !Sh x2 then false else true
def wA:List Int:=bif bJ x0 then bif mr x0 x1 x2 then x2 else List.set x2 x1.toNat (IntKind.wrap .i64 ((1:Int) - Ks x1 x2))else bif x0==(2:Int)then bif dk (0:Int) x2 then x2 else (Lp.res aX (Kt x2)).2.2.2.2else bif !Sh x2 then x2 else (Lp.res aX (Ku x2)).2.2.2.2
def wB:Bool:=allT [!bJ x0||leI (0:Int) x1,!bJ x0||ltI x1 (↑x2.length:Int),!bJ x0||ltN x1.toNat x2.length,bJ x0||(!x0==(2:Int)||jm (0:Int) x2),bJ x0||(x0==(2:Int)||leN x2.length (9223372036854775807:Nat)),uy x0 x1 x2,uz x0 x1 x2,uA x0 x1 x2,uy x0 x1 x2,uz x0 x1 x2,uA x0 x1 x2,bJ x0||(!x0==(2:Int)||(dk (0:Int) x2||Lp.fin aX (Kt x2))),bJ x0||(x0==(2:Int)||(!Sh x2||Lp.fin aX (Ku x2)))]
end
def Tr:List SV→List Entry→Option Out
 | [.one ⟨false,[.ref 0]⟩,.one ⟨true,[.val (.int .i64 x0),.val (.int .i64 x1)]⟩],[.row true 2 (.int .i64) x2]=>some ⟨(.one ⟨false,[(.val (.bool (wz x0 x1 x2)))]⟩),[(.row true 2 axl (wA x0 x1 x2))],[],[(wB x0 x1 x2)]⟩
 |_,_=>none
def ae1:PF Tryz.prog:=PF.ofG Tryz.prog [dj,PF.lend dj,PF.fz dj,CC,PF.lend CC,PF.fz CC] [aX.F] aq 205 Tryz.f205 Tryz.func205 (LOk.fnT (l:= [au Tryz.f205 0]) (by kernel_rfl) (.cons Xd (.nil _))) Tr (by
 intro vs es r h;unfold Tr at h;split at h
 ·cases h;kernel_rfl
 ·cases h)
section
variable (x0 x1:Int)(x2:Bool)(x3:Int)
def lO:Int×Int×Int×Bool:=Option.getD am4[Int.toNat x0]? ((0:Int),(0:Int),(0:Int),false)
def lP:Int×Bool:=(lO x0).2.2
def iw:Int:=bif IntKind.wrap .i64 (↑(BitVec.toNat (BitVec.ofInt (IntKind.bits IntKind.i64) (Int.fdiv ((lO x0).1) ((2:Int) ^ min x3.toNat (IntKind.bits IntKind.i64)))&&& BitVec.ofInt (IntKind.bits IntKind.i64) (1:Int))):Int)==(0:Int)then(1:Int)else bif ltI x1 ((lP x0).1)then(2:Int)else bif bif (lP x0).2then !x2 else false then(3:Int)else(0:Int)
def iy:Bool:=allT [leI (0:Int) x0,ltI x0 (↑(List.length am4):Int),ltN x0.toNat (List.length am4),leI (0:Int) x3]
end
def uo:List SV→List Entry→Option Out
 | [.one ⟨true,[.val (.int .i64 x0),.val (.int .i64 x1),.val (.bool x2)]⟩,.one ⟨false,[.val (.int .i64 x3)]⟩],[]=>some ⟨(.one ⟨false,[(.val (.int .i64 (iw x0 x1 x2 x3)))]⟩),[],[],[(iy x0 x3)]⟩
 |_,_=>none
def uW:PF Tryz.prog:=PF.ofG Tryz.prog [] [] aq 206 Tryz.f206 Tryz.func206 (fun c _=>LOk.nil c) uo (by
 intro vs es r h;unfold uo at h;split at h
 ·cases h;kernel_rfl
 ·cases h)
def iN(x0 x1:Int):Int:=IntKind.wrap .i64 (x1 + x0)
def Cn:List SV→List Entry→Option Out
 | [.one ⟨true,[.val (.int .i64 x0),.val (.int .i64 x1)]⟩],[]=>some ⟨(.one ⟨false,[(.val (.int .i64 (iN x0 x1)))]⟩),[],[],[]⟩
 |_,_=>none
def Cp:PF Tryz.prog:=PF.ofG Tryz.prog [] [] aq 239 Tryz.f239 Tryz.func239 (fun c _=>LOk.nil c) Cn (by
 intro vs es r h;unfold Cn at h;split at h
 ·cases h;kernel_rfl
 ·cases h)
abbrev j7:=Int×Int×Int×List (Int×Int)×List Int
section
variable (y0 y1 y2:Int)(y3:List (Int×Int))(y4:List Int)
def vh:Int×Int:=Option.getD y3[Int.toNat y0]? ((0:Int),(0:Int))
def rg:Bool:=leI (iN ((vh y0 y3).1) ((vh y0 y3).2)) y2
def Dk:Bool:=ltI y0 y1
def Dm:Bool:=leI (0:Int) y0
def Dn:Bool:=ltI y0 (↑y3.length:Int)
def Do:Bool:=ltN y0.toNat y3.length
def Dp:Bool:= !rg y0 y2 y3||leN (List.length y4 + List.length [y0]) (9223372036854775807:Nat)
def Dq:Bool:= !rg y0 y2 y3||leN ((List.length y4 + List.length [y0]) * (8:Nat)) (140737488355328:Nat)
def Dr:Bool:=rg y0 y2 y3
def xx:Int:=IntKind.wrap .i64 (y0 + (1:Int))
def Ds:List Int:=y4++ [y0]
end
def ahN:j7→List (Nat×SV)
 |(y0,y1,y2,_,_)=> [(10,(.one ⟨false,[(.val (.int .i64 y0))]⟩)),(9,(.one ⟨false,[(.val (.int .i64 y1))]⟩)),(8,(.one ⟨false,[(.ref 0)]⟩)),(1,(.one ⟨false,[(.val (.int .i64 y2))]⟩)),(5,(.one ⟨false,[(.ref 1)]⟩))]
def ahE:j7→List (Nat×Entry)
 |(_,_,_,y3,y4)=> [(0,(.row false 173 axk y3)),(1,(.row true 2 axl y4))]
def ah5:Nat→j7→List (Nat×SV)
 |_,(_,_,_,_,_)=> [(5,(.one ⟨false,[(.ref 1)]⟩))]
def ahW:Nat→j7→List (Nat×Entry)
 |_,(_,_,_,y3,y4)=> [(0,(.row false 173 axk y3)),(1,(.row true 2 axl y4))]
def BL:j7→LT j7
 |(y0,y1,y2,y3,y4)=> .ite (Dk y0 y1) (.need [(Dm y0),(Dn y0 y3),(Do y0 y3)] (.need [(Dp y0 y2 y3 y4),(Dq y0 y2 y3 y4)] (.ite (Dr y0 y2 y3) (.nrm ((xx y0),y1,y2,y3,(Ds y0 y4)) [(0,0),(1,960)]) (.nrm ((xx y0),y1,y2,y3,y4) [(0,0),(1,1)])))) (.ext 0 [(0,0),(1,1)])
def OC(s:St):Option j7:=
 (match s.look 10 with
 |some ⟨none,(.one ⟨false,[(.val (.int .i64 y0))]⟩)⟩=>
 (match s.look 9 with
 |some ⟨none,(.one ⟨false,[(.val (.int .i64 y1))]⟩)⟩=>
 (match s.look 8 with
 |some ⟨none,(.one ⟨false,[(.ref 0)]⟩)⟩=>
 (match s.look 1 with
 |some ⟨none,(.one ⟨false,[(.val (.int .i64 y2))]⟩)⟩=>
 (match s.look 5 with
 |some ⟨none,(.one ⟨false,[(.ref 192)]⟩)⟩=>
 (match s.ent 0 with
 |some (.row false 173 (.pair (.int .i64) (.int .i64)) y3)=>
 (match s.ent 192 with
 |some (.row true 2 (.int .i64) y4)=>
 some (y0,y1,y2,y3,y4)
 |_=>none)
 |_=>none)
 |_=>none)
 |_=>none)
 |_=>none)
 |_=>none)
 |_=>none)
def fe:Lp j7 where
 h:=⟨[11,12,13,14,7,6,15,16,17,18,19,20,21,22,5,23,10],[0],[1],[]⟩
 JL:=ahN
 JE:=ahE
 XL:=ah5
 XE:=ahW
 q:=fun j=>match j with | _=> .exit 0
 tags:= [0]
 lt:=BL
 fuel:=fun(y0,y1,y2,y3,y4)=>y0.natAbs + y1.natAbs + y2.natAbs + y3.length + y4.length
 fix:=fun(_,y1,y2,y3,_) (y0,_,_,_,y4)=>(y0,y1,y2,y3,y4)
 σ:= [(0,0),(1,192)]
 rd:=OC
theorem aeT:LoopOk Tryz.prog (fun k=>Nat.blt k Tryz.f234.ntmps) fe.F (au Tryz.f234 0):=by
 refine Lp.ok (tbl:= [Cp]) (lf:= []) aq fe (by kernel_rfl) (LOk.nil _) (fun _=>rfl) (fun _ _=>rfl) ?_ ?_ ?_ ?_ (fun _=>rfl) ?_
 ·rintro⟨y0,y1,y2,y3,y4⟩;kernel_rfl
 ·rintro⟨y0,y1,y2,y3,y4⟩;kernel_rfl
 ·intro s x h
  have h:OC s=some x:=h
  unfold OC at h
  repeat' split at h
  all_goals cases h
  exact⟨aa (by assumption) rfl (aa (by assumption) rfl (aa (by assumption) rfl (aa (by assumption) rfl (aa (by assumption) rfl (rfl))))),ab rfl (by assumption) rfl (ab rfl (by assumption) rfl (rfl))⟩
 ·rintro⟨y0,y1,y2,y3,y4⟩;kernel_rfl
 ·rintro⟨y0,y1,y2,y3,y4⟩ z;exact(And.intro (And.intro rfl rfl) trivial)
section
variable (x0:Int)(x1:List (Int×Int))
def NR:Int×Int×Int×List (Int×Int)×List Int:=((0:Int),(↑x1.length:Int),x0,x1,[])
def Px:List Int:=(Lp.res fe (NR x0 x1)).2.2.2.2.2
def Py:Bool:=allT [Lp.fin fe (NR x0 x1)]
end
def adU:List SV→List Entry→Option Out
 | [.one ⟨false,[.ref 0]⟩,.one ⟨false,[.val (.int .i64 x0)]⟩],[.row false 173 (.pair (.int .i64) (.int .i64)) x1]=>some ⟨(.one ⟨false,[(.ref 1)]⟩),[(.row false 173 axk x1)],[(.row true 2 axl (Px x0 x1))],[(Py x0 x1)]⟩
 |_,_=>none
def Wk:PF Tryz.prog:=PF.ofG Tryz.prog [Cp] [fe.F] aq 234 Tryz.f234 Tryz.func234 (LOk.fnT (l:= [au Tryz.f234 0]) (by kernel_rfl) (.cons aeT (.nil _))) adU (by
 intro vs es r h;unfold adU at h;split at h
 ·cases h;kernel_rfl
 ·cases h)
section
variable (x0:Int)(x1 x2:List (Int×Int))
def PX:Bool:=(bif bif okPl x1 then okLk x2 else false then yp x0 else false)&&true
def RE:Bool:=bif bif bif bif okPl x1 then okLk x2 else false then yp x0 else false then(↑(List.length (bif PX x0 x1 x2 then Px x0 x1 else [])):Int)==(0:Int)else false then(↑x2.length:Int)==(0:Int)else false
def RF:Bool:=allT [leN x1.length (9223372036854775807:Nat),!(okPl x1&&true)||leN x2.length (9223372036854775807:Nat),!PX x0 x1 x2||Py x0 x1]
end
def ZN:List SV→List Entry→Option Out
 | [.one ⟨false,[.ref 0]⟩,.one ⟨false,[.ref 1]⟩,.one ⟨false,[.val (.int .i64 x0)]⟩],[.row false 173 (.pair (.int .i64) (.int .i64)) x1,.row false 176 (.pair (.int .i64) (.int .i64)) x2]=>some ⟨(.one ⟨false,[(.val (.bool (RE x0 x1 x2)))]⟩),[(.row false 173 axk x1),(.row false 176 axk x2)],[],[(RF x0 x1 x2)]⟩
 |_,_=>none
def alz:PF Tryz.prog:=PF.ofG Tryz.prog [Wk,PF.lend Wk,PF.fz Wk,yB,PF.lend yB,PF.fz yB,sS,PF.lend sS,PF.fz sS,So] [] aq 207 Tryz.f207 Tryz.func207 (fun c _=>LOk.nil c) ZN (by
 intro vs es r h;unfold ZN at h;split at h
 ·cases h;kernel_rfl
 ·cases h)
section
variable (x0 x1:Int)(x2:Bool)(x3:Int)
def fE:Bool:=iw x0 x1 x2 x3==(0:Int)
def ow:Int:=bif fE x0 x1 x2 x3 then ((Option.getD am4[Int.toNat x0]? ((0:Int),(0:Int),(0:Int),false)).2).1else x3
def ox:Bool:=allT [iy x0 x3,!fE x0 x1 x2 x3||leI (0:Int) x0,!fE x0 x1 x2 x3||ltI x0 (↑(List.length am4):Int),!fE x0 x1 x2 x3||ltN x0.toNat (List.length am4)]
end
def xV:List SV→List Entry→Option Out
 | [.one ⟨true,[.val (.int .i64 x0),.val (.int .i64 x1),.val (.bool x2)]⟩,.one ⟨false,[.val (.int .i64 x3)]⟩],[]=>some ⟨(.one ⟨false,[(.val (.int .i64 (ow x0 x1 x2 x3)))]⟩),[],[],[(ox x0 x1 x2 x3)]⟩
 |_,_=>none
def Mu:PF Tryz.prog:=PF.ofG Tryz.prog [uW] [] aq 208 Tryz.f208 Tryz.func208 (fun c _=>LOk.nil c) xV (by
 intro vs es r h;unfold xV at h;split at h
 ·cases h;kernel_rfl
 ·cases h)
abbrev iJ:=Int×List Int×List Int
section
variable (y0:Int)(y1:List Int)
def oc:List Int:= [IntKind.wrap .i64 (Int.tdiv (Option.getD y1[Int.toNat y0]? (0:Int)) (2:Int))]
def tW:Bool:=ltI y0 (↑y1.length:Int)
def zO:Bool:=leI (0:Int) y0
def zP:Bool:=ltN y0.toNat y1.length
end
def zQ:Bool:=neI (2:Int) (0:Int)
section
variable (y0:Int)(y1 y2:List Int)
def zR:Bool:=leN (List.length y2 + List.length (oc y0 y1)) (9223372036854775807:Nat)
def zS:Bool:=leN ((List.length y2 + List.length (oc y0 y1)) * (8:Nat)) (140737488355328:Nat)
def zT:Int:=IntKind.wrap .i64 (y0 + (1:Int))
def zU:List Int:=y2++oc y0 y1
end
def aeA:iJ→List (Nat×SV)
 |(y0,_,_)=> [(8,(.one ⟨false,[(.val (.int .i64 y0))]⟩)),(0,(.one ⟨false,[(.ref 0)]⟩)),(7,(.one ⟨false,[(.ref 1)]⟩))]
def aes:iJ→List (Nat×Entry)
 |(_,y1,y2)=> [(0,(.row false 2 axl y1)),(1,(.row true 2 axl y2))]
def aeQ:Nat→iJ→List (Nat×SV)
 |_,(_,_,_)=> [(7,(.one ⟨false,[(.ref 1)]⟩))]
def aeI:Nat→iJ→List (Nat×Entry)
 |_,(_,y1,y2)=> [(0,(.row false 2 axl y1)),(1,(.row true 2 axl y2))]
def xg:iJ→LT iJ
 |(y0,y1,y2)=> .ite (tW y0 y1) (.need [(zO y0),(tW y0 y1),(zP y0 y1),(zQ),(zR y0 y1 y2),(zS y0 y1 y2)] (.nrm ((zT y0),y1,(zU y0 y1 y2)) [(0,0),(1,768)])) (.ext 0 [(0,0),(1,1)])
def Ma(s:St):Option iJ:=
 (match s.look 8 with
 |some ⟨none,(.one ⟨false,[(.val (.int .i64 y0))]⟩)⟩=>
 (match s.look 0 with
 |some ⟨none,(.one ⟨false,[(.ref 0)]⟩)⟩=>
 (match s.look 7 with
 |some ⟨none,(.one ⟨false,[(.ref 256)]⟩)⟩=>
 (match s.ent 0 with
 |some (.row false 2 (.int .i64) y1)=>
 (match s.ent 256 with
 |some (.row true 2 (.int .i64) y2)=>
 some (y0,y1,y2)
 |_=>none)
 |_=>none)
 |_=>none)
 |_=>none)
 |_=>none)
def bX:Lp iJ where
 h:=⟨[11,12,13,14,17,18,19,20,21,22,23,24,7,15,16,8],[0],[1],[]⟩
 JL:=aeA
 JE:=aes
 XL:=aeQ
 XE:=aeI
 q:=fun j=>match j with | _=> .exit 0
 tags:= [0]
 lt:=xg
 fuel:=fun(y0,y1,y2)=>y0.natAbs + y1.length + y2.length
 fix:=fun(_,y1,_) (y0,_,y2)=>(y0,y1,y2)
 σ:= [(0,0),(1,256)]
 rd:=Ma
theorem acu:LoopOk Tryz.prog (fun k=>Nat.blt k Tryz.f242.ntmps) bX.F (au Tryz.f242 0):=by
 refine Lp.ok (tbl:= []) (lf:= []) aq bX (by kernel_rfl) (LOk.nil _) (fun _=>rfl) (fun _ _=>rfl) ?_ ?_ ?_ ?_ (fun _=>rfl) ?_
 ·rintro⟨y0,y1,y2⟩;kernel_rfl
 ·rintro⟨y0,y1,y2⟩;kernel_rfl
 ·intro s x h
  have h:Ma s=some x:=h
  unfold Ma at h
  repeat' split at h
  all_goals cases h
  exact⟨aa (by assumption) rfl (aa (by assumption) rfl (aa (by assumption) rfl (rfl))),ab rfl (by assumption) rfl (ab rfl (by assumption) rfl (rfl))⟩
 ·rintro⟨y0,y1,y2⟩;kernel_rfl
 ·rintro⟨y0,y1,y2⟩ z;exact(And.intro rfl trivial)
abbrev iK:=Int×Int×List (Int×(Int×Int))×List Int
section
variable (y0 y1:Int)(y2:List (Int×(Int×Int)))(y3:List Int)
def hY:Int×Int×Int:=Option.getD y2[Int.toNat y0]? ((0:Int),(0:Int),(0:Int))
def fW:Bool:=((hY y0 y2).2).1==y1
def tX:Bool:=ltI y0 (↑y2.length:Int)
def zV:Bool:=leI (0:Int) y0
def zW:Bool:=ltN y0.toNat y2.length
def tY:Bool:= !fW y0 y1 y2||leI (0:Int) y0
def tZ:Bool:= !fW y0 y1 y2||ltI y0 (↑y2.length:Int)
def ua:Bool:= !fW y0 y1 y2||ltN y0.toNat y2.length
def zX:Bool:= !fW y0 y1 y2||leI (0:Int) ((hY y0 y2).1)
def zY:Bool:= !fW y0 y1 y2||ltI ((hY y0 y2).1) (↑y3.length:Int)
def zZ:Bool:= !fW y0 y1 y2||ltN (Int.toNat ((hY y0 y2).1)) y3.length
def z6:Int:=IntKind.wrap .i64 (y0 + (1:Int))
def xm:List Int:=bif fW y0 y1 y2 then List.set y3 (Int.toNat ((hY y0 y2).1)) ((hY y0 y2).2.2)else y3
end
def aeB:iK→List (Nat×SV)
 |(y0,y1,_,_)=> [(9,(.one ⟨false,[(.val (.int .i64 y0))]⟩)),(1,(.one ⟨false,[(.ref 0)]⟩)),(2,(.one ⟨false,[(.val (.int .i64 y1))]⟩)),(7,(.one ⟨false,[(.ref 1)]⟩))]
def aet:iK→List (Nat×Entry)
 |(_,_,y2,y3)=> [(0,(.row false 100 axj y2)),(1,(.row true 2 axl y3))]
def aeR:Nat→iK→List (Nat×SV)
 |_,(_,_,_,_)=> []
def aeJ:Nat→iK→List (Nat×Entry)
 |_,(_,_,y2,y3)=> [(0,(.row false 100 axj y2)),(1,(.row true 2 axl y3))]
def xh:iK→LT iK
 |(y0,y1,y2,y3)=> .ite (tX y0 y2) (.need [(zV y0),(tX y0 y2),(zW y0 y2)] (.need [(tY y0 y1 y2),(tZ y0 y1 y2),(ua y0 y1 y2),(tY y0 y1 y2),(tZ y0 y1 y2),(ua y0 y1 y2),(zX y0 y1 y2),(zY y0 y1 y2 y3),(zZ y0 y1 y2 y3)] (.nrm ((z6 y0),y1,y2,(xm y0 y1 y2 y3)) [(0,0),(1,1)]))) (.ext 0 [(0,0),(1,1)])
def Mb(s:St):Option iK:=
 (match s.look 9 with
 |some ⟨none,(.one ⟨false,[(.val (.int .i64 y0))]⟩)⟩=>
 (match s.look 1 with
 |some ⟨none,(.one ⟨false,[(.ref 1)]⟩)⟩=>
 (match s.look 2 with
 |some ⟨none,(.one ⟨false,[(.val (.int .i64 y1))]⟩)⟩=>
 (match s.look 7 with
 |some ⟨none,(.one ⟨false,[(.ref 448)]⟩)⟩=>
 (match s.ent 1 with
 |some (.row false 100 (.pair (.int .i64) (.pair (.int .i64) (.int .i64))) y2)=>
 (match s.ent 448 with
 |some (.row true 2 (.int .i64) y3)=>
 some (y0,y1,y2,y3)
 |_=>none)
 |_=>none)
 |_=>none)
 |_=>none)
 |_=>none)
 |_=>none)
def cK:Lp iK where
 h:=⟨[25,26,27,28,31,32,33,34,35,36,37,38,39,40,41,42,43,44,45,46,47,48,49,29,30,9],[0,1],[],[]⟩
 JL:=aeB
 JE:=aet
 XL:=aeR
 XE:=aeJ
 q:=fun j=>match j with | _=> .exit 2
 tags:= [0]
 lt:=xh
 fuel:=fun(y0,y1,y2,y3)=>y0.natAbs + y1.natAbs + y2.length + y3.length
 fix:=fun(_,y1,y2,_) (y0,_,_,y3)=>(y0,y1,y2,y3)
 σ:= [(0,1),(1,448)]
 rd:=Mb
theorem acv:LoopOk Tryz.prog (fun k=>Nat.blt k Tryz.f242.ntmps) cK.F (au Tryz.f242 1):=by
 refine Lp.ok (tbl:= []) (lf:= []) aq cK (by kernel_rfl) (LOk.nil _) (fun _=>rfl) (fun _ _=>rfl) ?_ ?_ ?_ ?_ (fun _=>rfl) ?_
 ·rintro⟨y0,y1,y2,y3⟩;kernel_rfl
 ·rintro⟨y0,y1,y2,y3⟩;kernel_rfl
 ·intro s x h
  have h:Mb s=some x:=h
  unfold Mb at h
  repeat' split at h
  all_goals cases h
  exact⟨aa (by assumption) rfl (aa (by assumption) rfl (aa (by assumption) rfl (aa (by assumption) rfl (rfl)))),ab rfl (by assumption) rfl (ab rfl (by assumption) rfl (rfl))⟩
 ·rintro⟨y0,y1,y2,y3⟩;kernel_rfl
 ·rintro⟨y0,y1,y2,y3⟩ z;exact(And.intro rfl trivial)
section
variable (x0:Int)(x1:List Int)(x2:List (Int×Int×Int))
def Ez:Int×List Int×List Int:=((0:Int),x1,[])
def EA:Int×Int×List (Int×Int×Int)×List Int:=((0:Int),x0,x2,(Lp.res bX (Ez x1)).2.2.2)
def GG:List Int:=(Lp.res cK (EA x0 x1 x2)).2.2.2.2
def GH:Bool:=allT [Lp.fin bX (Ez x1),Lp.fin cK (EA x0 x1 x2)]
end
def ZZ:List SV→List Entry→Option Out
 | [.one ⟨false,[.ref 0]⟩,.one ⟨false,[.ref 1]⟩,.one ⟨false,[.val (.int .i64 x0)]⟩],[.row false 2 (.int .i64) x1,.row false 100 (.pair (.int .i64) (.pair (.int .i64) (.int .i64))) x2]=>some ⟨(.one ⟨false,[(.ref 2)]⟩),[(.row false 2 axl x1),(.row false 100 axj x2)],[(.row true 2 axl (GG x0 x1 x2))],[(GH x0 x1 x2)]⟩
 |_,_=>none
def Su:PF Tryz.prog:=PF.ofG Tryz.prog [] [bX.F,cK.F] aq 242 Tryz.f242 Tryz.func242 (LOk.fnT (l:= [au Tryz.f242 0,au Tryz.f242 1]) (by kernel_rfl) (.cons acu (.cons acv (.nil _)))) ZZ (by
 intro vs es r h;unfold ZZ at h;split at h
 ·cases h;kernel_rfl
 ·cases h)
section
variable (x0:List Int)(x1:List (Int×Int×Int))
def GA:Int:=bif !areR x0 then(1:Int)else bif !lfOk (↑x0.length:Int) x1 then(2:Int)else(0:Int)
def GC:List Int:=bif !areR x0 then []else bif !lfOk (↑x0.length:Int) x1 then []else GG (0:Int) x0 x1
def GD:List Int:=bif !areR x0 then []else bif !lfOk (↑x0.length:Int) x1 then []else GG (1:Int) x0 x1
def Mn:Bool:=allT [leN x0.length (9223372036854775807:Nat),!areR x0||leN x1.length (9223372036854775807:Nat),!areR x0||(!lfOk (↑x0.length:Int) x1||GH (0:Int) x0 x1),!areR x0||(!lfOk (↑x0.length:Int) x1||GH (1:Int) x0 x1)]
end
def ZV:List SV→List Entry→Option Out
 | [.one ⟨false,[.ref 0]⟩,.one ⟨false,[.ref 1]⟩],[.row false 2 (.int .i64) x0,.row false 100 (.pair (.int .i64) (.pair (.int .i64) (.int .i64))) x1]=>some ⟨(.tup [⟨true,[(.ref 2),(.ref 3)]⟩,⟨false,[(.val (.int .i64 (GA x0 x1)))]⟩]),[(.row false 2 axl x0),(.row false 100 axj x1)],[(.row true 2 axl (GC x0 x1)),(.row true 2 axl (GD x0 x1))],[(Mn x0 x1)]⟩
 |_,_=>none
def Sr:PF Tryz.prog:=PF.ofG Tryz.prog [Su,PF.lend Su,PF.fz Su,jX,PF.lend jX,PF.fz jX,jW,PF.lend jW,PF.fz jW] [] aq 236 Tryz.f236 Tryz.func236 (fun c _=>LOk.nil c) ZV (by
 intro vs es r h;unfold ZV at h;split at h
 ·cases h;kernel_rfl
 ·cases h)
abbrev mW:=Int×Int×List Int
section
variable (y0 y1:Int)(y2:List Int)
def CJ:Bool:=ltI y0 (↑y2.length:Int)
def Jj:Bool:=leI (0:Int) y0
def Jk:Bool:=ltN y0.toNat y2.length
def Jl:Int:=IntKind.wrap .i64 (y0 + (1:Int))
def Jm:Int:=IntKind.wrap .i64 (y1 + Option.getD y2[Int.toNat y0]? (0:Int))
end
def akD:mW→List (Nat×SV)
 |(y0,y1,_)=> [(4,(.one ⟨false,[(.val (.int .i64 y0))]⟩)),(0,(.one ⟨false,[(.ref 0)]⟩)),(3,(.one ⟨false,[(.val (.int .i64 y1))]⟩))]
def aku:mW→List (Nat×Entry)
 |(_,_,y2)=> [(0,(.row false 2 axl y2))]
def akV:Nat→mW→List (Nat×SV)
 |_,(_,y1,_)=> [(3,(.one ⟨false,[(.val (.int .i64 y1))]⟩))]
def akM:Nat→mW→List (Nat×Entry)
 |_,(_,_,y2)=> [(0,(.row false 2 axl y2))]
def Gr:mW→LT mW
 |(y0,y1,y2)=> .ite (CJ y0 y2) (.need [(Jj y0),(CJ y0 y2),(Jk y0 y2)] (.nrm ((Jl y0),(Jm y0 y1 y2),y2) [(0,0)])) (.ext 0 [(0,0)])
def SG(s:St):Option mW:=
 (match s.look 4 with
 |some ⟨none,(.one ⟨false,[(.val (.int .i64 y0))]⟩)⟩=>
 (match s.look 0 with
 |some ⟨none,(.one ⟨false,[(.ref 0)]⟩)⟩=>
 (match s.look 3 with
 |some ⟨none,(.one ⟨false,[(.val (.int .i64 y1))]⟩)⟩=>
 (match s.ent 0 with
 |some (.row false 2 (.int .i64) y2)=>
 some (y0,y1,y2)
 |_=>none)
 |_=>none)
 |_=>none)
 |_=>none)
def gO:Lp mW where
 h:=⟨[5,6,7,8,11,12,13,14,15,16,3,9,10,4],[0],[],[]⟩
 JL:=akD
 JE:=aku
 XL:=akV
 XE:=akM
 q:=fun j=>match j with | _=> .exit 0
 tags:= [0]
 lt:=Gr
 fuel:=fun(y0,y1,y2)=>y0.natAbs + y1.natAbs + y2.length
 fix:=fun(_,_,y2) (y0,y1,_)=>(y0,y1,y2)
 σ:= [(0,0)]
 rd:=SG
theorem aii:LoopOk Tryz.prog (fun k=>Nat.blt k Tryz.f237.ntmps) gO.F (au Tryz.f237 0):=by
 refine Lp.ok (tbl:= []) (lf:= []) aq gO (by kernel_rfl) (LOk.nil _) (fun _=>rfl) (fun _ _=>rfl) ?_ ?_ ?_ ?_ (fun _=>rfl) ?_
 ·rintro⟨y0,y1,y2⟩;kernel_rfl
 ·rintro⟨y0,y1,y2⟩;kernel_rfl
 ·intro s x h
  have h:SG s=some x:=h
  unfold SG at h
  repeat' split at h
  all_goals cases h
  exact⟨aa (by assumption) rfl (aa (by assumption) rfl (aa (by assumption) rfl (rfl))),ab rfl (by assumption) rfl (rfl)⟩
 ·rintro⟨y0,y1,y2⟩;kernel_rfl
 ·rintro⟨y0,y1,y2⟩ z;exact(And.intro rfl trivial)
section
variable (x0:List Int)
def SQ:Int×Int×List Int:=((0:Int),(0:Int),x0)
def Pq:Int:=((Lp.res gO (SQ x0)).2.2).1
def Pr:Bool:=allT [Lp.fin gO (SQ x0)]
end
def aiP:List SV→List Entry→Option Out
 | [.one ⟨false,[.ref 0]⟩],[.row false 2 (.int .i64) x0]=>some ⟨(.one ⟨false,[(.val (.int .i64 (Pq x0)))]⟩),[(.row false 2 axl x0)],[],[(Pr x0)]⟩
 |_,_=>none
def aa3:PF Tryz.prog:=PF.ofG Tryz.prog [] [gO.F] aq 237 Tryz.f237 Tryz.func237 (LOk.fnT (l:= [au Tryz.f237 0]) (by kernel_rfl) (.cons aii (.nil _))) aiP (by
 intro vs es r h;unfold aiP at h;split at h
 ·cases h;kernel_rfl
 ·cases h)
section
variable (x0:List Int)(x1:List (Int×Int×Int))
def Fp:Bool:=GA x0 x1 !=(0:Int)
def YM:Bool:=bif Fp x0 x1 then false else IntKind.wrap .i64 (Pq (GC x0 x1) + Pq (GD x0 x1))==IntKind.wrap .i64 ((2:Int) * (↑x0.length:Int))
def YN:Int:=bif Fp x0 x1 then GA x0 x1 else(0:Int)
def YO:Bool:=allT [Mn x0 x1,Fp x0 x1||Pr (GC x0 x1),Fp x0 x1||Pr (GD x0 x1)]
end
def afk:List SV→List Entry→Option Out
 | [.one ⟨false,[.ref 0]⟩,.one ⟨false,[.ref 1]⟩],[.row false 2 (.int .i64) x0,.row false 100 (.pair (.int .i64) (.pair (.int .i64) (.int .i64))) x1]=>some ⟨(.tup [⟨false,[(.val (.bool (YM x0 x1)))]⟩,⟨false,[(.val (.int .i64 (YN x0 x1)))]⟩]),[(.row false 2 axl x0),(.row false 100 axj x1)],[],[(YO x0 x1)]⟩
 |_,_=>none
def ao2:PF Tryz.prog:=PF.ofG Tryz.prog [Sr,PF.lend Sr,PF.fz Sr,aa3,PF.lend aa3,PF.fz aa3] [] aq 220 Tryz.f220 Tryz.func220 (fun c _=>LOk.nil c) afk (by
 intro vs es r h;unfold afk at h;split at h
 ·cases h;kernel_rfl
 ·cases h)
abbrev lH:=Int×Int×List Int×List Int
section
variable (y0 y1:Int)(y2 y3:List Int)
def GI:Bool:=ltI y0 (↑y2.length:Int)
def GJ:Bool:=leN (List.length y3 + List.length [y1]) (9223372036854775807:Nat)
def GK:Bool:=leN ((List.length y3 + List.length [y1]) * (8:Nat)) (140737488355328:Nat)
def GL:Int:=IntKind.wrap .i64 (y0 + (1:Int))
def GM:List Int:=y3++ [y1]
end
def ajt:lH→List (Nat×SV)
 |(y0,y1,_,_)=> [(6,(.one ⟨false,[(.val (.int .i64 y0))]⟩)),(0,(.one ⟨false,[(.ref 0)]⟩)),(5,(.one ⟨false,[(.ref 1)]⟩)),(1,(.one ⟨false,[(.val (.int .i64 y1))]⟩))]
def ajm:lH→List (Nat×Entry)
 |(_,_,y2,y3)=> [(0,(.row false 2 axl y2)),(1,(.row true 2 axl y3))]
def ajH:Nat→lH→List (Nat×SV)
 |_,(_,_,_,_)=> [(5,(.one ⟨false,[(.ref 1)]⟩))]
def ajA:Nat→lH→List (Nat×Entry)
 |_,(_,_,y2,y3)=> [(0,(.row false 2 axl y2)),(1,(.row true 2 axl y3))]
def Eh:lH→LT lH
 |(y0,y1,y2,y3)=> .ite (GI y0 y2) (.need [(GJ y1 y3),(GK y1 y3)] (.nrm ((GL y0),y1,y2,(GM y1 y3)) [(0,0),(1,512)])) (.ext 0 [(0,0),(1,1)])
def Qz(s:St):Option lH:=
 (match s.look 6 with
 |some ⟨none,(.one ⟨false,[(.val (.int .i64 y0))]⟩)⟩=>
 (match s.look 0 with
 |some ⟨none,(.one ⟨false,[(.ref 0)]⟩)⟩=>
 (match s.look 5 with
 |some ⟨none,(.one ⟨false,[(.ref 192)]⟩)⟩=>
 (match s.look 1 with
 |some ⟨none,(.one ⟨false,[(.val (.int .i64 y1))]⟩)⟩=>
 (match s.ent 0 with
 |some (.row false 2 (.int .i64) y2)=>
 (match s.ent 192 with
 |some (.row true 2 (.int .i64) y3)=>
 some (y0,y1,y2,y3)
 |_=>none)
 |_=>none)
 |_=>none)
 |_=>none)
 |_=>none)
 |_=>none)
def gi:Lp lH where
 h:=⟨[8,9,10,11,14,15,16,17,5,12,13,6],[0],[1],[]⟩
 JL:=ajt
 JE:=ajm
 XL:=ajH
 XE:=ajA
 q:=fun j=>match j with | _=> .exit 0
 tags:= [0]
 lt:=Eh
 fuel:=fun(y0,y1,y2,y3)=>y0.natAbs + y1.natAbs + y2.length + y3.length
 fix:=fun(_,y1,y2,_) (y0,_,_,y3)=>(y0,y1,y2,y3)
 σ:= [(0,0),(1,192)]
 rd:=Qz
theorem agP:LoopOk Tryz.prog (fun k=>Nat.blt k Tryz.f223.ntmps) gi.F (au Tryz.f223 0):=by
 refine Lp.ok (tbl:= []) (lf:= []) aq gi (by kernel_rfl) (LOk.nil _) (fun _=>rfl) (fun _ _=>rfl) ?_ ?_ ?_ ?_ (fun _=>rfl) ?_
 ·rintro⟨y0,y1,y2,y3⟩;kernel_rfl
 ·rintro⟨y0,y1,y2,y3⟩;kernel_rfl
 ·intro s x h
  have h:Qz s=some x:=h
  unfold Qz at h
  repeat' split at h
  all_goals cases h
  exact⟨aa (by assumption) rfl (aa (by assumption) rfl (aa (by assumption) rfl (aa (by assumption) rfl (rfl)))),ab rfl (by assumption) rfl (ab rfl (by assumption) rfl (rfl))⟩
 ·rintro⟨y0,y1,y2,y3⟩;kernel_rfl
 ·rintro⟨y0,y1,y2,y3⟩ z;exact(And.intro rfl trivial)
section
variable (x0:Int)(x1:List Int)
def PQ:Int×Int×List Int×List Int:=((0:Int),x0,x1,[])
def Nx:List Int:=(Lp.res gi (PQ x0 x1)).2.2.2.2
def Ny:Bool:=allT [Lp.fin gi (PQ x0 x1)]
end
def afo:List SV→List Entry→Option Out
 | [.one ⟨false,[.ref 0]⟩,.one ⟨false,[.val (.int .i64 x0)]⟩],[.row false 2 (.int .i64) x1]=>some ⟨(.one ⟨false,[(.ref 1)]⟩),[(.row false 2 axl x1)],[(.row true 2 axl (Nx x0 x1))],[(Ny x0 x1)]⟩
 |_,_=>none
def YA:PF Tryz.prog:=PF.ofG Tryz.prog [] [gi.F] aq 223 Tryz.f223 Tryz.func223 (LOk.fnT (l:= [au Tryz.f223 0]) (by kernel_rfl) (.cons agP (.nil _))) afo (by
 intro vs es r h;unfold afo at h;split at h
 ·cases h;kernel_rfl
 ·cases h)
section
variable (x0 x1:Int)(x2:List Int)
def CL:Int:=Option.getD x2[Int.toNat x1]? (0:Int)
def CM:Bool:= !x0==(0:Int)||leI (0:Int) x1
def CN:Bool:= !x0==(0:Int)||ltI x1 (↑x2.length:Int)
def CO:Bool:= !x0==(0:Int)||ltN x1.toNat x2.length
def CP:Bool:=x0==(0:Int)||(!x0==(1:Int)||leI (0:Int) x1)
def CQ:Bool:=x0==(0:Int)||(!x0==(1:Int)||ltI x1 (↑x2.length:Int))
def CR:Bool:=x0==(0:Int)||(!x0==(1:Int)||ltN x1.toNat x2.length)
def Fq:Bool:=bif x0==(0:Int)then CL x1 x2==(0:Int)else bif x0==(1:Int)then CL x1 x2==(1:Int)else bif x0==(2:Int)then leI (1:Int) (AR x2)else AR x2==(2:Int)
def Fr:List Int:=bif x0==(0:Int)then List.set x2 x1.toNat (1:Int)else bif x0==(1:Int)then List.set x2 x1.toNat (0:Int)else bif x0==(2:Int)then Nx (2:Int) x2 else Nx (1:Int) x2
def Fs:Bool:=allT [leN x2.length (1048576:Nat),CM x0 x1,CN x0 x1 x2,CO x0 x1 x2,CM x0 x1,CN x0 x1 x2,CO x0 x1 x2,CP x0 x1,CQ x0 x1 x2,CR x0 x1 x2,CP x0 x1,CQ x0 x1 x2,CR x0 x1 x2,x0==(0:Int)||(x0==(1:Int)||(!x0==(2:Int)||Ny (2:Int) x2)),x0==(0:Int)||(x0==(1:Int)||(!x0==(2:Int)||Lf x2)),x0==(0:Int)||(x0==(1:Int)||(x0==(2:Int)||Ny (1:Int) x2)),x0==(0:Int)||(x0==(1:Int)||(x0==(2:Int)||Lf x2))]
end
def ad3:List SV→List Entry→Option Out
 | [.one ⟨false,[.ref 0]⟩,.one ⟨true,[.val (.int .i64 x0),.val (.int .i64 x1)]⟩],[.row false 2 (.int .i64) x2]=>some ⟨(.tup [⟨false,[(.ref 1)]⟩,⟨false,[(.val (.bool (Fq x0 x1 x2)))]⟩]),[(.row false 2 axl x2)],[(.row true 2 axl (Fr x0 x1 x2))],[(Fs x0 x1 x2)]⟩
 |_,_=>none
def an2:PF Tryz.prog:=PF.ofG Tryz.prog [Wl,PF.lend Wl,PF.fz Wl,qr,PF.lend qr,PF.fz qr,YA,PF.lend YA,PF.fz YA] [] aq 179 Tryz.f179 Tryz.func179 (fun c _=>LOk.nil c) ad3 (by
 intro vs es r h;unfold ad3 at h;split at h
 ·cases h;kernel_rfl
 ·cases h)
abbrev mV:=Int×Int×List Int
section
variable (y0 y1:Int)(y2:List Int)
def CI:Bool:=ltI y0 (↑y2.length:Int)
def Jf:Bool:=leI (0:Int) y0
def Jg:Bool:=ltN y0.toNat y2.length
def Jh:Bool:=Option.getD y2[Int.toNat y0]? (0:Int)==y1
def Ji:Int:=IntKind.wrap .i64 (y0 + (1:Int))
end
def akC:mV→List (Nat×SV)
 |(y0,y1,_)=> [(5,(.one ⟨false,[(.val (.int .i64 y0))]⟩)),(0,(.one ⟨false,[(.ref 0)]⟩)),(1,(.one ⟨false,[(.val (.int .i64 y1))]⟩))]
def akt:mV→List (Nat×Entry)
 |(_,_,y2)=> [(0,(.row false 2 axl y2))]
def akU:Nat→mV→List (Nat×SV)
 |0,(_,_,_)=> [(4,(.one ⟨false,[(.val (.bool true))]⟩))]
 |_,(_,_,_)=> []
def akL:Nat→mV→List (Nat×Entry)
 |0,(_,_,y2)=> [(0,(.row false 2 axl y2))]
 |_,(_,_,y2)=> [(0,(.row false 2 axl y2))]
def Gq:mV→LT mV
 |(y0,y1,y2)=> .ite (CI y0 y2) (.need [(Jf y0),(CI y0 y2),(Jg y0 y2)] (.ite (Jh y0 y1 y2) (.ext 0 [(0,0)]) (.nrm ((Ji y0),y1,y2) [(0,0)]))) (.ext 1 [(0,0)])
def SF(s:St):Option mV:=
 (match s.look 5 with
 |some ⟨none,(.one ⟨false,[(.val (.int .i64 y0))]⟩)⟩=>
 (match s.look 0 with
 |some ⟨none,(.one ⟨false,[(.ref 0)]⟩)⟩=>
 (match s.look 1 with
 |some ⟨none,(.one ⟨false,[(.val (.int .i64 y1))]⟩)⟩=>
 (match s.ent 0 with
 |some (.row false 2 (.int .i64) y2)=>
 some (y0,y1,y2)
 |_=>none)
 |_=>none)
 |_=>none)
 |_=>none)
def gc:Lp mV where
 h:=⟨[6,7,8,9,12,13,14,15,16,17,4,10,11,5],[0],[],[]⟩
 JL:=akC
 JE:=akt
 XL:=akU
 XE:=akL
 q:=fun j=>match j with | 0=> .ret | _=> .exit 0
 tags:= [0,1]
 lt:=Gq
 fuel:=fun(y0,y1,y2)=>y0.natAbs + y1.natAbs + y2.length
 fix:=fun(_,y1,y2) (y0,_,_)=>(y0,y1,y2)
 σ:= [(0,0)]
 rd:=SF
theorem aih:LoopOk Tryz.prog (fun k=>Nat.blt k Tryz.f224.ntmps) gc.F (au Tryz.f224 0):=by
 refine Lp.ok (tbl:= []) (lf:= []) aq gc (by kernel_rfl) (LOk.nil _) (fun _=>rfl) (fun j _=>by unfold gc;match j with | 0=>rfl | _ + 1=>rfl) ?_ ?_ ?_ ?_ (fun _=>rfl) ?_
 ·rintro⟨y0,y1,y2⟩;kernel_rfl
 ·rintro⟨y0,y1,y2⟩;kernel_rfl
 ·intro s x h
  have h:SF s=some x:=h
  unfold SF at h
  repeat' split at h
  all_goals cases h
  exact⟨aa (by assumption) rfl (aa (by assumption) rfl (aa (by assumption) rfl (rfl))),ab rfl (by assumption) rfl (rfl)⟩
 ·rintro⟨y0,y1,y2⟩;kernel_rfl
 ·rintro⟨y0,y1,y2⟩ z;exact(And.intro (And.intro trivial rfl) trivial)
section
variable (x0:Int)(x1:List Int)
def YR:Int×Int×List Int:=((0:Int),x0,x1)
def UV:Bool:=bif Nat.beq ((Lp.res gc (YR x0 x1)).1) (0:Nat)then true else false
def UW:Bool:=allT [Lp.fin gc (YR x0 x1)]
end
def aiN:List SV→List Entry→Option Out
 | [.one ⟨false,[.ref 0]⟩,.one ⟨false,[.val (.int .i64 x0)]⟩],[.row false 2 (.int .i64) x1]=>some ⟨(.one ⟨false,[(.val (.bool (UV x0 x1)))]⟩),[(.row false 2 axl x1)],[],[(UW x0 x1)]⟩
 |_,_=>none
def aa2:PF Tryz.prog:=PF.ofG Tryz.prog [] [gc.F] aq 224 Tryz.f224 Tryz.func224 (LOk.fnT (l:= [au Tryz.f224 0]) (by kernel_rfl) (.cons aih (.nil _))) aiN (by
 intro vs es r h;unfold aiN at h;split at h
 ·cases h;kernel_rfl
 ·cases h)
def Nz(x0:Int):List Int:=bif x0==(0:Int)then [(0:Int)]else bif x0==(2:Int)then [(3:Int)]else bif x0==(3:Int)then [(1:Int),(2:Int),(3:Int),(4:Int),(5:Int)]else bif bif x0==(4:Int)then x0==(4:Int)else x0==(5:Int)then [(4:Int)]else bif x0==(6:Int)then [(5:Int)]else bif x0==(7:Int)then [(0:Int),(2:Int)]else bif x0==(8:Int)then [(1:Int)]else [(2:Int)]
def afq:List SV→List Entry→Option Out
 | [.one ⟨false,[.val (.int .i64 x0)]⟩],[]=>some ⟨(.one ⟨false,[(.ref 0)]⟩),[],[(.row true 2 axl (Nz x0))],[]⟩
 |_,_=>none
def ao7:PF Tryz.prog:=PF.ofG Tryz.prog [] [] aq 225 Tryz.f225 Tryz.func225 (fun c _=>LOk.nil c) afq (by
 intro vs es r h;unfold afq at h;split at h
 ·cases h;kernel_rfl
 ·cases h)
def PR(x0:Int):Int:=bif x0==(3:Int)then(0:Int)else bif bif x0==(4:Int)then x0==(4:Int)else bif x0==(7:Int)then x0==(7:Int)else x0==(8:Int)then(2:Int)else bif bif x0==(5:Int)then x0==(5:Int)else x0==(6:Int)then(3:Int)else(1:Int)
def ad5:List SV→List Entry→Option Out
 | [.one ⟨false,[.val (.int .i64 x0)]⟩],[]=>some ⟨(.one ⟨false,[(.val (.int .i64 (PR x0)))]⟩),[],[],[]⟩
 |_,_=>none
def an3:PF Tryz.prog:=PF.ofG Tryz.prog [] [] aq 226 Tryz.f226 Tryz.func226 (fun c _=>LOk.nil c) ad5 (by
 intro vs es r h;unfold ad5 at h;split at h
 ·cases h;kernel_rfl
 ·cases h)
def UX(x0:Int):Bool:=bif bif bif x0==(0:Int)then true else x0==(4:Int)then true else x0==(7:Int)then true else x0==(8:Int)
def aiQ:List SV→List Entry→Option Out
 | [.one ⟨false,[.val (.int .i64 x0)]⟩],[]=>some ⟨(.one ⟨false,[(.val (.bool (UX x0)))]⟩),[],[],[]⟩
 |_,_=>none
def apO:PF Tryz.prog:=PF.ofG Tryz.prog [] [] aq 227 Tryz.f227 Tryz.func227 (fun c _=>LOk.nil c) aiQ (by
 intro vs es r h;unfold aiQ at h;split at h
 ·cases h;kernel_rfl
 ·cases h)
def Mo(x0 x1 x2:Int)(x3:Bool):Int:=bif !UV x0 (Nz x1)then(1:Int)else bif ltI x2 (PR x1)then(2:Int)else bif bif UX x1 then !x3 else false then(3:Int)else(0:Int)
def Mp(x0 x1:Int):Bool:=allT [UW x0 (Nz x1)]
def aaa:List SV→List Entry→Option Out
 | [.one ⟨false,[.val (.int .i64 x0)]⟩,.one ⟨true,[.val (.int .i64 x1),.val (.int .i64 x2),.val (.bool x3)]⟩],[]=>some ⟨(.one ⟨false,[(.val (.int .i64 (Mo x0 x1 x2 x3)))]⟩),[],[],[(Mp x0 x1)]⟩
 |_,_=>none
def aap:PF Tryz.prog:=PF.ofG Tryz.prog [aa2,PF.lend aa2,PF.fz aa2,ao7,an3,apO] [] aq 180 Tryz.f180 Tryz.func180 (fun c _=>LOk.nil c) aaa (by
 intro vs es r h;unfold aaa at h;split at h
 ·cases h;kernel_rfl
 ·cases h)
def YX(x0:Int)(x1:List (Int×Int)):Int:=bif !okPl x1 then(1:Int)else bif !aL x0 (0:Int) (100000:Int)then(2:Int)else(0:Int)
def YY(x1:List (Int×Int)):Bool:=allT [leN x1.length (9223372036854775807:Nat)]
def afu:List SV→List Entry→Option Out
 | [.one ⟨false,[.ref 0]⟩,.one ⟨false,[.val (.int .i64 x0)]⟩],[.row false 173 (.pair (.int .i64) (.int .i64)) x1]=>some ⟨(.one ⟨false,[(.val (.int .i64 (YX x0 x1)))]⟩),[(.row false 173 axk x1)],[],[(YY x1)]⟩
 |_,_=>none
def YB:PF Tryz.prog:=PF.ofG Tryz.prog [fB,yC,PF.lend yC,PF.fz yC] [] aq 228 Tryz.f228 Tryz.func228 (fun c _=>LOk.nil c) afu (by
 intro vs es r h;unfold afu at h;split at h
 ·cases h;kernel_rfl
 ·cases h)
abbrev mX:=Int×Int×List (Int×Int)×List Int
section
variable (y0 y1:Int)(y2:List (Int×Int))(y3:List Int)
def Aw:Int×Int:=Option.getD y2[Int.toNat y0]? ((0:Int),(0:Int))
def vc:Bool:=leI (IntKind.wrap .i64 ((Aw y0 y2).2 + (Aw y0 y2).1)) y1
def xR:Bool:=ltI y0 (↑y2.length:Int)
def CS:Bool:=leI (0:Int) y0
def CT:Bool:=ltN y0.toNat y2.length
def Jo:Bool:= !vc y0 y1 y2||leN (List.length y3 + List.length [y0]) (9223372036854775807:Nat)
def Jp:Bool:= !vc y0 y1 y2||leN ((List.length y3 + List.length [y0]) * (8:Nat)) (140737488355328:Nat)
def Jq:Bool:=vc y0 y1 y2
def CU:Int:=IntKind.wrap .i64 (y0 + (1:Int))
def Jr:List Int:=y3++ [y0]
end
def akE:mX→List (Nat×SV)
 |(y0,y1,_,_)=> [(6,(.one ⟨false,[(.val (.int .i64 y0))]⟩)),(0,(.one ⟨false,[(.ref 0)]⟩)),(1,(.one ⟨false,[(.val (.int .i64 y1))]⟩)),(5,(.one ⟨false,[(.ref 1)]⟩))]
def akv:mX→List (Nat×Entry)
 |(_,_,y2,y3)=> [(0,(.row false 173 axk y2)),(1,(.row true 2 axl y3))]
def akW:Nat→mX→List (Nat×SV)
 |_,(_,_,_,_)=> [(5,(.one ⟨false,[(.ref 1)]⟩))]
def akN:Nat→mX→List (Nat×Entry)
 |_,(_,_,y2,y3)=> [(0,(.row false 173 axk y2)),(1,(.row true 2 axl y3))]
def Gs:mX→LT mX
 |(y0,y1,y2,y3)=> .ite (xR y0 y2) (.need [(CS y0),(xR y0 y2),(CT y0 y2),(CS y0),(xR y0 y2),(CT y0 y2)] (.need [(Jo y0 y1 y2 y3),(Jp y0 y1 y2 y3)] (.ite (Jq y0 y1 y2) (.nrm ((CU y0),y1,y2,(Jr y0 y3)) [(0,0),(1,1344)]) (.nrm ((CU y0),y1,y2,y3) [(0,0),(1,1)])))) (.ext 0 [(0,0),(1,1)])
def SH(s:St):Option mX:=
 (match s.look 6 with
 |some ⟨none,(.one ⟨false,[(.val (.int .i64 y0))]⟩)⟩=>
 (match s.look 0 with
 |some ⟨none,(.one ⟨false,[(.ref 0)]⟩)⟩=>
 (match s.look 1 with
 |some ⟨none,(.one ⟨false,[(.val (.int .i64 y1))]⟩)⟩=>
 (match s.look 5 with
 |some ⟨none,(.one ⟨false,[(.ref 192)]⟩)⟩=>
 (match s.ent 0 with
 |some (.row false 173 (.pair (.int .i64) (.int .i64)) y2)=>
 (match s.ent 192 with
 |some (.row true 2 (.int .i64) y3)=>
 some (y0,y1,y2,y3)
 |_=>none)
 |_=>none)
 |_=>none)
 |_=>none)
 |_=>none)
 |_=>none)
def gP:Lp mX where
 h:=⟨[8,9,10,11,14,15,16,17,18,19,20,21,22,23,24,25,26,27,28,29,30,5,12,13,6],[0],[1],[]⟩
 JL:=akE
 JE:=akv
 XL:=akW
 XE:=akN
 q:=fun j=>match j with | _=> .exit 0
 tags:= [0]
 lt:=Gs
 fuel:=fun(y0,y1,y2,y3)=>y0.natAbs + y1.natAbs + y2.length + y3.length
 fix:=fun(_,y1,y2,_) (y0,_,_,y3)=>(y0,y1,y2,y3)
 σ:= [(0,0),(1,192)]
 rd:=SH
theorem aij:LoopOk Tryz.prog (fun k=>Nat.blt k Tryz.f229.ntmps) gP.F (au Tryz.f229 0):=by
 refine Lp.ok (tbl:= []) (lf:= []) aq gP (by kernel_rfl) (LOk.nil _) (fun _=>rfl) (fun _ _=>rfl) ?_ ?_ ?_ ?_ (fun _=>rfl) ?_
 ·rintro⟨y0,y1,y2,y3⟩;kernel_rfl
 ·rintro⟨y0,y1,y2,y3⟩;kernel_rfl
 ·intro s x h
  have h:SH s=some x:=h
  unfold SH at h
  repeat' split at h
  all_goals cases h
  exact⟨aa (by assumption) rfl (aa (by assumption) rfl (aa (by assumption) rfl (aa (by assumption) rfl (rfl)))),ab rfl (by assumption) rfl (ab rfl (by assumption) rfl (rfl))⟩
 ·rintro⟨y0,y1,y2,y3⟩;kernel_rfl
 ·rintro⟨y0,y1,y2,y3⟩ z;exact(And.intro (And.intro rfl rfl) trivial)
section
variable (x0:Int)(x1:List (Int×Int))
def Ta:Int×Int×List (Int×Int)×List Int:=((0:Int),x0,x1,[])
def UY:List Int:=(Lp.res gP (Ta x0 x1)).2.2.2.2
def UZ:Bool:=allT [Lp.fin gP (Ta x0 x1)]
end
def aiR:List SV→List Entry→Option Out
 | [.one ⟨false,[.ref 0]⟩,.one ⟨false,[.val (.int .i64 x0)]⟩],[.row false 173 (.pair (.int .i64) (.int .i64)) x1]=>some ⟨(.one ⟨false,[(.ref 1)]⟩),[(.row false 173 axk x1)],[(.row true 2 axl (UY x0 x1))],[(UZ x0 x1)]⟩
 |_,_=>none
def aa4:PF Tryz.prog:=PF.ofG Tryz.prog [] [gP.F] aq 229 Tryz.f229 Tryz.func229 (LOk.fnT (l:= [au Tryz.f229 0]) (by kernel_rfl) (.cons aij (.nil _))) aiR (by
 intro vs es r h;unfold aiR at h;split at h
 ·cases h;kernel_rfl
 ·cases h)
section
variable (x0:Int)(x1 x2:List (Int×Int))
def QI:Bool:=YX x0 x1==(0:Int)
def KM:Bool:=bif bif QI x0 x1 then okLk x2 else false then(↑x2.length:Int)==(0:Int)else false
def SO:Bool:=bif KM x0 x1 x2 then(↑(List.length (bif KM x0 x1 x2&&true then UY x0 x1 else [])):Int)==(0:Int)else false
def SP:Bool:=allT [YY x1,!(QI x0 x1&&true)||leN x2.length (9223372036854775807:Nat),!(KM x0 x1 x2&&true)||UZ x0 x1]
end
def ZW:List SV→List Entry→Option Out
 | [.one ⟨false,[.ref 0]⟩,.one ⟨false,[.ref 1]⟩,.one ⟨false,[.val (.int .i64 x0)]⟩],[.row false 173 (.pair (.int .i64) (.int .i64)) x1,.row false 176 (.pair (.int .i64) (.int .i64)) x2]=>some ⟨(.one ⟨false,[(.val (.bool (SO x0 x1 x2)))]⟩),[(.row false 173 axk x1),(.row false 176 axk x2)],[],[(SP x0 x1 x2)]⟩
 |_,_=>none
def alC:PF Tryz.prog:=PF.ofG Tryz.prog [YB,PF.lend YB,PF.fz YB,aa4,PF.lend aa4,PF.fz aa4,sV,PF.lend sV,PF.fz sV] [] aq 181 Tryz.f181 Tryz.func181 (fun c _=>LOk.nil c) ZW (by
 intro vs es r h;unfold ZW at h;split at h
 ·cases h;kernel_rfl
 ·cases h)
def adK(x0:Int):Int:=Option.getD [(2:Int),(3:Int),(2:Int),(4:Int),(2:Int),(5:Int),(4:Int),(1:Int),(2:Int),(0:Int)][Int.toNat x0]? (0:Int)
def adL(x0:Int):Bool:=allT [leI (0:Int) x0,ltI x0 (↑(List.length [(2:Int),(3:Int),(2:Int),(4:Int),(2:Int),(5:Int),(4:Int),(1:Int),(2:Int),(0:Int)]):Int),ltN x0.toNat (List.length [(2:Int),(3:Int),(2:Int),(4:Int),(2:Int),(5:Int),(4:Int),(1:Int),(2:Int),(0:Int)])]
def akp:List SV→List Entry→Option Out
 | [.one ⟨false,[.val (.int .i64 x0)]⟩],[]=>some ⟨(.one ⟨false,[(.val (.int .i64 (adK x0)))]⟩),[],[],[(adL x0)]⟩
 |_,_=>none
def aq9:PF Tryz.prog:=PF.ofG Tryz.prog [] [] aq 230 Tryz.f230 Tryz.func230 (fun c _=>LOk.nil c) akp (by
 intro vs es r h;unfold akp at h;split at h
 ·cases h;kernel_rfl
 ·cases h)
section
variable (x0 x1 x2:Int)(x3:Bool)
def Wp:Bool:=Mo x0 x1 x2 x3==(0:Int)
def YU:Int:=bif Wp x0 x1 x2 x3 then adK x1 else x0
def YV:Bool:=allT [Mp x0 x1,!Wp x0 x1 x2 x3||adL x1]
end
def afs:List SV→List Entry→Option Out
 | [.one ⟨false,[.val (.int .i64 x0)]⟩,.one ⟨true,[.val (.int .i64 x1),.val (.int .i64 x2),.val (.bool x3)]⟩],[]=>some ⟨(.one ⟨false,[(.val (.int .i64 (YU x0 x1 x2 x3)))]⟩),[],[],[(YV x0 x1 x2 x3)]⟩
 |_,_=>none
def ao8:PF Tryz.prog:=PF.ofG Tryz.prog [aap,aq9] [] aq 182 Tryz.f182 Tryz.func182 (fun c _=>LOk.nil c) afs (by
 intro vs es r h;unfold afs at h;split at h
 ·cases h;kernel_rfl
 ·cases h)
def Kp(x0 x1 x2:Int):Bool:=bif bif x1==(0:Int)then x1==(0:Int)else x1==(1:Int)then ba x2 (0:Int) (IntKind.wrap .i64 (x0 - (1:Int)))else bif bif x1==(2:Int)then x1==(2:Int)else x1==(3:Int)then x2==(0:Int)else false
def Rv:List SV→List Entry→Option Out
 | [.one ⟨false,[.val (.int .i64 x0)]⟩,.one ⟨true,[.val (.int .i64 x1),.val (.int .i64 x2)]⟩],[]=>some ⟨(.one ⟨false,[(.val (.bool (Kp x0 x1 x2)))]⟩),[],[],[]⟩
 |_,_=>none
def adF:PF Tryz.prog:=PF.ofG Tryz.prog [gG] [] aq 184 Tryz.f184 Tryz.func184 (fun c _=>LOk.nil c) Rv (by
 intro vs es r h;unfold Rv at h;split at h
 ·cases h;kernel_rfl
 ·cases h)
def aaP(x0:Int):Bool:=ba x0 (0:Int) (3:Int)
def aiC:List SV→List Entry→Option Out
 | [.one ⟨false,[.val (.int .i64 x0)]⟩],[]=>some ⟨(.one ⟨false,[(.val (.bool (aaP x0)))]⟩),[],[],[]⟩
 |_,_=>none
def apK:PF Tryz.prog:=PF.ofG Tryz.prog [gG] [] aq 231 Tryz.f231 Tryz.func231 (fun c _=>LOk.nil c) aiC (by
 intro vs es r h;unfold aiC at h;split at h
 ·cases h;kernel_rfl
 ·cases h)
def TM(x0 x1:Int):Bool:=bif ba x0 (0:Int) (9:Int)then aaP x1 else false
def abk:List SV→List Entry→Option Out
 | [.one ⟨true,[.val (.int .i64 x0),.val (.int .i64 x1),.val (.bool _x2)]⟩],[]=>some ⟨(.one ⟨false,[(.val (.bool (TM x0 x1)))]⟩),[],[],[]⟩
 |_,_=>none
def amD:PF Tryz.prog:=PF.ofG Tryz.prog [apK,gG] [] aq 185 Tryz.f185 Tryz.func185 (fun c _=>LOk.nil c) abk (by
 intro vs es r h;unfold abk at h;split at h
 ·cases h;kernel_rfl
 ·cases h)
end Go.SX

namespace Go.SX
open Go.Proofs
set_option maxRecDepth 100000
def ak4(k r:Int):Bool:=inR k 0 9&&inR r 0 3
def arE(k:Int):List Int:=Nz k
def vdC(m k r:Int)(key:Bool):Int:=bif !(arE k).any (· ==m)then 1 else bif ltI r (PR k)then 2 else bif bif UX k then !key else false then 3 else 0
def toC(k:Int):Int:=adK k
def nxC(m k r:Int)(key:Bool):Int:=bif vdC m k r key==0 then toC k else m
def ae7(m k:Int):Bool:=inR k 0 9&&inR m 0 5
theorem atv(k r:Int):UJ k r=ak4 k r:=by
 simp only [UJ,YW,aL,vK,ak4]
 cases inR k 0 9 <;> rfl
theorem as4(k r:Int):TM k r=ak4 k r:=by
 simp only [TM,aaP,ba,vK,ak4]
 cases inR k 0 9 <;> rfl
def Iw(y1 b:Int):(Unit)→Nat ⊕ (Unit)
 |_=>(bif(b==y1)then(.inl 0)else(.inr ()))
def ve(y1:Int)(y2:List Int)(i:Nat):(Unit)→mV
 |_=>((i:Int),y1,y2)
def Sw:mV→Unit
 |(_,_,_)=>()
theorem am6(y1:Int)(y2:List Int) (hn:y2.length≤9223372036854775807):
  gc.fin ((0:Int),y1,y2)=true∧gc.res ((0:Int),y1,y2)=((ae (Iw y1) 1 y2 0 ()).1,(ve y1 y2) (ae (Iw y1) 1 y2 0 ()).2.1 (ae (Iw y1) 1 y2 0 ()).2.2):=by
 have key:=gc.along (ve y1 y2) Sw (Iw y1) 1 (fun _ _=>True) y2 () (by trivial) (by simp only [gc,ve];omega) (fun i b a hb hI=> ?_) (fun a hI=> ?_)
 ·exact key
 ·obtain⟨⟩:=a
  have hlt:=(List.getElem?_eq_some_iff.1 hb).1
  have hget: ∀ d,Option.getD y2[i]? d=b:=fun d=>by rw [hb];rfl
  have hw:=oW hlt hn
  have hdec:ltI (i:Int) (y2.length:Int)=true:=bZ (by omega)
  have hnn:leI (0:Int) (i:Int)=true:=bC (by omega)
  have hltd:ltN i y2.length=true:=cB hlt
  refine⟨?_,?_,?_,?_⟩
  ·simp [CI,Jf,Jg,Jh,Ji,Gq,gc,LT.nds,allT,ve,hdec,hnn,hltd,hget]
  ·simp [CI,Jf,Jg,Jh,Ji,Gq,gc,LT.each,ve,Sw,hw]
  ·simp only [CI,Jf,Jg,Jh,Ji,Gq,gc,LT.fn,ve,Sw,Iw,Int.toNat_natCast,hdec,hnn,hltd,hget,cond_true,Bool.cond_self]
  ·exact fun _ _=>trivial
 ·obtain⟨⟩:=a
  simp [CI,Jf,Jg,Jh,Ji,Gq,gc,LT.out,ve]
theorem awv(x:Int)(l:List Int)(h:l.length≤9223372036854775807):UV x l=l.any (· ==x)∧UW x l=true:=by
 obtain⟨w1,w2⟩:=am6 x l h
 rw [jp (P:=fun v=>v==x) (j:=0) (fun v=>rfl)]at w2
 simp only [UV,UW,YR,w1,w2,allT]
 cases l.any (· ==x) <;> exact⟨rfl,rfl⟩
theorem arl{m k:Int}(h:ae7 m k=true): ∃ (a:Fin 10) (b:Fin 6),k=(a.val:Int)∧m=(b.val:Int):=by
 simp only [ae7,Bool.and_eq_true,sR]at h
 exact⟨⟨k.toNat,by omega⟩,⟨m.toNat,by omega⟩,by simp;omega,by simp;omega⟩
theorem au1: ∀ a:Fin 10,(arE (a.val:Int)).length≤5:=by decide
theorem aqt(m k r:Int)(key:Bool)(h:ae7 m k=true):Mo m k r key=vdC m k r key∧Mp m k=true:=by
 obtain⟨a,b,rfl,rfl⟩:=arl h
 have hl:=au1 a
 obtain⟨h1,h2⟩:=awv (b.val:Int) (arE (a.val:Int)) (by omega)
 have e:Nz (a.val:Int)=arE (a.val:Int):=rfl
 simp only [Mo,Mp,e,h1,h2,vdC,allT,cond_true,and_self]
theorem avs: ∀ (a:Fin 10) (b:Fin 6),(IntKind.i64.wrap (↑(BitVec.toNat (BitVec.ofInt (IntKind.bits IntKind.i64) (Int.fdiv ((Option.getD am4[Int.toNat (a.val:Int)]? ((0:Int),(0:Int),(0:Int),false)).1) ((2:Int) ^ min (Int.toNat (b.val:Int)) (IntKind.bits IntKind.i64)))&&& BitVec.ofInt (IntKind.bits IntKind.i64) (1:Int))):Int)==(0:Int))= !(arE (a.val:Int)).any (· ==(b.val:Int)):=by decide
theorem asu: ∀ a:Fin 10,(Option.getD am4[Int.toNat (a.val:Int)]? ((0:Int),(0:Int),(0:Int),false)).2=(toC (a.val:Int),PR (a.val:Int),UX (a.val:Int)):=by decide
theorem atF: ∀ a:Fin 10,ltI (a.val:Int) (am4.length:Int)=true∧ltN (Int.toNat (a.val:Int)) am4.length=true∧adL (a.val:Int)=true:=by decide
theorem ap9(m k r:Int)(key:Bool)(h:ae7 m k=true):iw k r key m=vdC m k r key∧iy k m=true:=by
 obtain⟨a,b,rfl,rfl⟩:=arl h
 obtain⟨n1,n2,_⟩:=atF a
 have n0:leI 0 (a.val:Int)=true:=bC (by omega)
 have n3:leI 0 (b.val:Int)=true:=bC (by omega)
 simp only [iw,iy,lO,lP,avs,asu,n0,n1,n2,n3,vdC,allT,cond_true,and_self]
theorem auB(m k r:Int)(key:Bool)(h:ae7 m k=true):YU m k r key=nxC m k r key∧YV m k r key=true:=by
 obtain⟨h1,h2⟩:=aqt m k r key h
 obtain⟨a,b,rfl,rfl⟩:=arl h
 simp only [YU,YV,Wp,h1,h2,(atF a).2.2,nxC,toC,allT,Bool.or_true,cond_true,and_self]
theorem auh(m k r:Int)(key:Bool)(h:ae7 m k=true):ow k r key m=nxC m k r key∧ox k r key m=true:=by
 obtain⟨h1,h2⟩:=ap9 m k r key h
 obtain⟨a,b,rfl,rfl⟩:=arl h
 obtain⟨n1,n2,_⟩:=atF a
 have n0:leI 0 (a.val:Int)=true:=bC (by omega)
 simp only [ow,ox,fE,h1,h2,n0,n1,n2,asu,nxC,allT,Bool.or_true,cond_true,and_self]
def ab2:List SV→List Entry→Option Out
 | [.one ⟨true,[.val (.int .i64 x0),.val (.int .i64 x1),.val (.bool _x2)]⟩],[]=>some ⟨(.one ⟨false,[(.val (.bool (ak4 x0 x1)))]⟩),[],[],[]⟩
 |_,_=>none
def amx:PF Tryz.prog:=PF.alt amU ab2 (by
 intro args es o h hnd;unfold ab2 at h;split at h
 ·rename_i x0 x1 _x2
  cases h
  have hh:=atv x0 x1
  have e0:=hh
  exact ek rfl (fun _ h=>by cases h) (by simp only [e0] <;> rfl) rfl rfl
 ·cases h)
def abN:List SV→List Entry→Option Out
 | [.one ⟨true,[.val (.int .i64 x0),.val (.int .i64 x1),.val (.bool _x2)]⟩],[]=>some ⟨(.one ⟨false,[(.val (.bool (ak4 x0 x1)))]⟩),[],[],[]⟩
 |_,_=>none
def amw:PF Tryz.prog:=PF.alt amD abN (by
 intro args es o h hnd;unfold abN at h;split at h
 ·rename_i x0 x1 _x2
  cases h
  have hh:=as4 x0 x1
  have e0:=hh
  exact ek rfl (fun _ h=>by cases h) (by simp only [e0] <;> rfl) rfl rfl
 ·cases h)
def aag:List SV→List Entry→Option Out
 | [.one ⟨false,[.val (.int .i64 x0)]⟩,.one ⟨true,[.val (.int .i64 x1),.val (.int .i64 x2),.val (.bool x3)]⟩],[]=>some ⟨(.one ⟨false,[(.val (.int .i64 (vdC x0 x1 x2 x3)))]⟩),[],[],[ae7 x0 x1]⟩
 |_,_=>none
def als:PF Tryz.prog:=PF.alt aap aag (by
 intro args es o h hnd;unfold aag at h;split at h
 ·rename_i x0 x1 x2 x3
  cases h
  have hnd:=bY hnd
  have hh:=aqt x0 x1 x2 x3 hnd
  obtain⟨e0,en⟩:=hh
  exact ek rfl (cg en) (by simp only [e0] <;> rfl) rfl rfl
 ·cases h)
def af5:List SV→List Entry→Option Out
 | [.one ⟨false,[.val (.int .i64 x0)]⟩,.one ⟨true,[.val (.int .i64 x1),.val (.int .i64 x2),.val (.bool x3)]⟩],[]=>some ⟨(.one ⟨false,[(.val (.int .i64 (nxC x0 x1 x2 x3)))]⟩),[],[],[ae7 x0 x1]⟩
 |_,_=>none
def aoQ:PF Tryz.prog:=PF.alt ao8 af5 (by
 intro args es o h hnd;unfold af5 at h;split at h
 ·rename_i x0 x1 x2 x3
  cases h
  have hnd:=bY hnd
  have hh:=auB x0 x1 x2 x3 hnd
  obtain⟨e0,en⟩:=hh
  exact ek rfl (cg en) (by simp only [e0] <;> rfl) rfl rfl
 ·cases h)
def ur:List SV→List Entry→Option Out
 | [.one ⟨true,[.val (.int .i64 x0),.val (.int .i64 x1),.val (.bool x2)]⟩,.one ⟨false,[.val (.int .i64 x3)]⟩],[]=>some ⟨(.one ⟨false,[(.val (.int .i64 (vdC x3 x0 x1 x2)))]⟩),[],[],[ae7 x3 x0]⟩
 |_,_=>none
def KC:PF Tryz.prog:=PF.alt uW ur (by
 intro args es o h hnd;unfold ur at h;split at h
 ·rename_i x0 x1 x2 x3
  cases h
  have hnd:=bY hnd
  have hh:=ap9 x3 x0 x1 x2 hnd
  obtain⟨e0,en⟩:=hh
  exact ek rfl (cg en) (by simp only [e0] <;> rfl) rfl rfl
 ·cases h)
def yg:List SV→List Entry→Option Out
 | [.one ⟨true,[.val (.int .i64 x0),.val (.int .i64 x1),.val (.bool x2)]⟩,.one ⟨false,[.val (.int .i64 x3)]⟩],[]=>some ⟨(.one ⟨false,[(.val (.int .i64 (nxC x3 x0 x1 x2)))]⟩),[],[],[ae7 x3 x0]⟩
 |_,_=>none
def Mr:PF Tryz.prog:=PF.alt Mu yg (by
 intro args es o h hnd;unfold yg at h;split at h
 ·rename_i x0 x1 x2 x3
  cases h
  have hnd:=bY hnd
  have hh:=auh x3 x0 x1 x2 hnd
  obtain⟨e0,en⟩:=hh
  exact ek rfl (cg en) (by simp only [e0] <;> rfl) rfl rfl
 ·cases h)
def auU(pl:List (Int×Int))(day:Int)(b:Nat):Bool:=leI (IntKind.i64.wrap ((pl[b]?.getD ((0:Int),(0:Int))).2 + (pl[b]?.getD ((0:Int),(0:Int))).1)) day
def auV(pl:List (Int×Int))(day:Int):List Int:=((List.range pl.length).filter (auU pl day)).map fun b:Nat=>(b:Int)
def ams(pl ls:List (Int×Int))(day:Int):Bool:=okPl pl&&(okLk ls&&(inR day 0 100000&&((auV pl day).length==0&&ls.length==0)))
theorem agA(P:Nat→Bool): ∀ (r:List Nat) (a:List Int),r.foldl (fun a b=>bif P b then a++ [(b:Int)]else a) a=a++(r.filter P).map fun b:Nat=>(b:Int)
 | [],a=>by simp
 |b::r,a=>by
  rw [List.foldl_cons,agA P r]
  cases h:P b <;> simp [List.filter_cons,h]
theorem aoT{pl:List (Int×Int)}(h:okPl pl=true):pl.length≤12:=by
 simp only [okPl,Bool.and_eq_true,bT]at h;exact h.1
def tw(y1:Int)(y2:List (Int×Int))(b:Nat):(List Int)→Nat ⊕ (List Int)
 |y3=>(bif(leI (IntKind.wrap .i64 ((Option.getD y2[b]? ((0:Int),(0:Int))).2 + (Option.getD y2[b]? ((0:Int),(0:Int))).1)) y1)then(.inr (y3++ [(↑b:Int)]))else(.inr y3))
def rI(y1:Int)(y2:List (Int×Int))(i:Nat):(List Int)→mX
 |y3=>((i:Int),y1,y2,y3)
def Sy:mX→List Int
 |(_,_,_,y3)=>y3
theorem am8(y1:Int)(y2:List (Int×Int))(y3:List Int)(hn:y2.length≤9223372036854775807)(h12:y2.length≤12)(h3:y3= []):
  gP.fin ((0:Int),y1,y2,y3)=true∧gP.res ((0:Int),y1,y2,y3)=((ae (tw y1 y2) 0 (List.range y2.length) 0 y3).1,(rI y1 y2) (ae (tw y1 y2) 0 (List.range y2.length) 0 y3).2.1 (ae (tw y1 y2) 0 (List.range y2.length) 0 y3).2.2):=by
 have key:=gP.along (rI y1 y2) Sy (tw y1 y2) 0 (fun i a=>a.length≤i) (List.range y2.length) y3 (by subst h3;simp) (by simp only [gP,rI,List.length_range];omega) (fun i b a hb hI=> ?_) (fun a hI=> ?_)
 ·exact key
 ·obtain y3:=a
  obtain⟨rfl,hlt⟩:=eu hb
  have hw:IntKind.i64.wrap ((b:Int) + 1)=((b + 1:Nat):Int):=by rw [aw (by omega) (by omega)];omega
  have hdec:ltI (b:Int) (y2.length:Int)=true:=bZ (by omega)
  have hnn:leI (0:Int) (b:Int)=true:=bC (by omega)
  have hltd:ltN b y2.length=true:=cB (by omega)
  refine⟨?_,?_,?_,?_⟩
  ·have h6:leN (a.length + 1) 9223372036854775807=true:=fk (by omega)
   have h7:leN ((a.length + 1) * 8) 140737488355328=true:=fk (by omega)
   simp [Aw,vc,xR,CS,CT,Jo,Jp,Jq,CU,Jr,Gs,gP,LT.nds,allT,rI,hdec,hnn,hltd,h6,h7]
  ·simp [Aw,vc,xR,CS,CT,Jo,Jp,Jq,CU,Jr,Gs,gP,LT.each,rI,Sy,hw]
  ·simp only [Aw,vc,xR,CS,CT,Jo,Jp,Jq,CU,Jr,Gs,gP,LT.fn,rI,Sy,tw,Int.toNat_natCast,hdec,hnn,hltd,cond_true,Bool.cond_self]
  ·intro a' hf
   simp only [tw]at hf
   revert hf
   cases leI (IntKind.wrap .i64 ((Option.getD y2[b]? ((0:Int),(0:Int))).2 + (Option.getD y2[b]? ((0:Int),(0:Int))).1)) y1 <;> intro hf <;> (simp only [cond_true,cond_false,Sum.inr.injEq]at hf;subst hf;(try simp only [List.length_append,List.length_singleton]);omega)
 ·obtain y3:=a
  simp [Aw,vc,xR,CS,CT,Jo,Jp,Jq,CU,Jr,Gs,gP,LT.out,rI,List.length_range]
def pz(y2:Int)(y3:List (Int×Int))(b:Nat):(List Int)→Nat ⊕ (List Int)
 |y4=>(bif(leI (iN ((Option.getD y3[b]? ((0:Int),(0:Int))).1) ((Option.getD y3[b]? ((0:Int),(0:Int))).2)) y2)then(.inr (y4++ [(↑b:Int)]))else(.inr y4))
def nA(y2:Int)(y3:List (Int×Int))(i:Nat):(List Int)→j7
 |y4=>((i:Int),(↑y3.length:Int),y2,y3,y4)
def Ou:j7→List Int
 |(_,_,_,_,y4)=>y4
theorem akg(y2:Int)(y3:List (Int×Int))(y4:List Int)(hn:y3.length≤9223372036854775807)(h12:y3.length≤12)(h3:y4= []):
  fe.fin ((0:Int),(↑y3.length:Int),y2,y3,y4)=true∧fe.res ((0:Int),(↑y3.length:Int),y2,y3,y4)=((ae (pz y2 y3) 0 (List.range y3.length) 0 y4).1,(nA y2 y3) (ae (pz y2 y3) 0 (List.range y3.length) 0 y4).2.1 (ae (pz y2 y3) 0 (List.range y3.length) 0 y4).2.2):=by
 have key:=fe.along (nA y2 y3) Ou (pz y2 y3) 0 (fun i a=>a.length≤i) (List.range y3.length) y4 (by subst h3;simp) (by simp only [fe,nA,List.length_range];omega) (fun i b a hb hI=> ?_) (fun a hI=> ?_)
 ·exact key
 ·obtain y4:=a
  obtain⟨rfl,hlt⟩:=eu hb
  have hw:IntKind.i64.wrap ((b:Int) + 1)=((b + 1:Nat):Int):=by rw [aw (by omega) (by omega)];omega
  have hdec:ltI (b:Int) (y3.length:Int)=true:=bZ (by omega)
  have hnn:leI (0:Int) (b:Int)=true:=bC (by omega)
  have hltd:ltN b y3.length=true:=cB (by omega)
  refine⟨?_,?_,?_,?_⟩
  ·have h6:leN (a.length + 1) 9223372036854775807=true:=fk (by omega)
   have h7:leN ((a.length + 1) * 8) 140737488355328=true:=fk (by omega)
   simp [vh,rg,Dk,Dm,Dn,Do,Dp,Dq,Dr,xx,Ds,BL,fe,LT.nds,allT,nA,hdec,hnn,hltd,h6,h7]
  ·simp [vh,rg,Dk,Dm,Dn,Do,Dp,Dq,Dr,xx,Ds,BL,fe,LT.each,nA,Ou,hw]
  ·simp only [vh,rg,Dk,Dm,Dn,Do,Dp,Dq,Dr,xx,Ds,BL,fe,LT.fn,nA,Ou,pz,Int.toNat_natCast,hdec,hnn,hltd,cond_true,Bool.cond_self]
  ·intro a' hf
   simp only [pz,iN]at hf
   revert hf
   cases leI (IntKind.wrap .i64 ((Option.getD y3[b]? ((0:Int),(0:Int))).2 + (Option.getD y3[b]? ((0:Int),(0:Int))).1)) y2 <;> intro hf <;> (simp only [cond_true,cond_false,Sum.inr.injEq]at hf;subst hf;(try simp only [List.length_append,List.length_singleton]);omega)
 ·obtain y4:=a
  simp [vh,rg,Dk,Dm,Dn,Do,Dp,Dq,Dr,xx,Ds,BL,fe,LT.out,nA,List.length_range]
theorem atw(day:Int)(pl:List (Int×Int))(h:pl.length≤12):UY day pl=auV pl day∧UZ day pl=true:=by
 obtain⟨w1,w2⟩:=am8 day pl [] (by omega) h rfl
 rw [iP (f:=tw day pl) (g:=fun a b=>bif auU pl day b then a++ [(b:Int)]else a) (fun b a=>by simp only [tw,auU];cases leI _ day <;> rfl),agA]at w2
 exact⟨by simp only [UY,Ta,w2,rI,List.nil_append,auV],by simp only [UZ,Ta,w1,allT,cond_true]⟩
theorem as5(day:Int)(pl:List (Int×Int))(h:pl.length≤12):Px day pl=auV pl day∧Py day pl=true:=by
 obtain⟨w1,w2⟩:=akg day pl [] (by omega) h rfl
 rw [iP (f:=pz day pl) (g:=fun a b=>bif auU pl day b then a++ [(b:Int)]else a) (fun b a=>by simp only [pz,iN,auU];cases leI _ day <;> rfl),agA]at w2
 exact⟨by simp only [Px,NR,w2,nA,List.nil_append,auV],by simp only [Py,NR,w1,allT,cond_true]⟩
theorem awQ(n:Nat):((n:Int)==0)=(n==0):=by cases n <;> rfl
theorem aty(day:Int)(pl ls:List (Int×Int))(h:(leN pl.length 9223372036854775807&&leN ls.length 9223372036854775807)=true):SO day pl ls=ams pl ls day∧SP day pl ls=true:=by
 simp only [Bool.and_eq_true]at h
 simp only [SO,SP,QI,KM,YX,YY,aL,vK,h.1,h.2,awQ,ams,allT]
 cases hp:okPl pl with
 |false=>simp
 |true=>
  obtain⟨e1,e2⟩:=atw day pl (aoT hp)
  rw [e1,e2]
  cases hi:inR day 0 100000 <;> cases okLk ls <;> cases ls.length==0 <;> simp
theorem as8(day:Int)(pl ls:List (Int×Int))(h:(leN pl.length 9223372036854775807&&leN ls.length 9223372036854775807)=true):RE day pl ls=ams pl ls day∧RF day pl ls=true:=by
 simp only [Bool.and_eq_true]at h
 have e:yp day=inR day 0 100000:=by simp only [yp,ba,vK]
 simp only [RE,RF,PX,e,h.1,h.2,awQ,ams,allT]
 cases hp:okPl pl with
 |false=>simp
 |true=>
  obtain⟨e1,e2⟩:=as5 day pl (aoT hp)
  rw [e1,e2]
  cases hi:inR day 0 100000 <;> cases okLk ls <;> cases ls.length==0 <;> simp
def aae:List SV→List Entry→Option Out
 | [.one ⟨false,[.ref 0]⟩,.one ⟨false,[.ref 1]⟩,.one ⟨false,[.val (.int .i64 x0)]⟩],[.row false 173 (.pair (.int .i64) (.int .i64)) x1,.row false 176 (.pair (.int .i64) (.int .i64)) x2]=>some ⟨(.one ⟨false,[(.val (.bool (ams x1 x2 x0)))]⟩),[(.row false 173 axk x1),(.row false 176 axk x2)],[],[leN x1.length 9223372036854775807&&leN x2.length 9223372036854775807]⟩
 |_,_=>none
def Sl:PF Tryz.prog:=PF.alt alC aae (by
 intro args es o h hnd;unfold aae at h;split at h
 ·rename_i x0 x1 x2
  cases h
  have hnd:=bY hnd
  have hh:=aty x0 x1 x2 hnd
  obtain⟨e0,en⟩:=hh
  exact ek rfl (cg en) (by simp only [e0] <;> rfl) rfl rfl
 ·cases h)
def aab:List SV→List Entry→Option Out
 | [.one ⟨false,[.ref 0]⟩,.one ⟨false,[.ref 1]⟩,.one ⟨false,[.val (.int .i64 x0)]⟩],[.row false 173 (.pair (.int .i64) (.int .i64)) x1,.row false 176 (.pair (.int .i64) (.int .i64)) x2]=>some ⟨(.one ⟨false,[(.val (.bool (ams x1 x2 x0)))]⟩),[(.row false 173 axk x1),(.row false 176 axk x2)],[],[leN x1.length 9223372036854775807&&leN x2.length 9223372036854775807]⟩
 |_,_=>none
def Sk:PF Tryz.prog:=PF.alt alz aab (by
 intro args es o h hnd;unfold aab at h;split at h
 ·rename_i x0 x1 x2
  cases h
  have hnd:=bY hnd
  have hh:=as8 x0 x1 x2 hnd
  obtain⟨e0,en⟩:=hh
  exact ek rfl (cg en) (by simp only [e0] <;> rfl) rfl rfl
 ·cases h)
end Go.SX

namespace Go.SX
open Go.Proofs
set_option maxRecDepth 100000
theorem atV{n:Int}{fs:List (Int×Int×Int)}(h:lfOk n fs=true):fs.length≤8∧ ∀ f∈fs,(0≤f.1∧f.1 < n)∧(f.2.1=0∨f.2.1=1)∧(f.2.2=0∨f.2.2=1):=by
 simp only [lfOk,okFs,Bool.and_eq_true,bT,List.all_eq_true,List.mem_range,sR]at h
 refine⟨h.2.1,fun f hf=> ?_⟩
 obtain⟨b,hb,rfl⟩:=List.getElem_of_mem hf
 have h3:=h.2.2 b hb
 simp only [Bool.not_eq_true',Bool.or_eq_false_iff,ajT,fAt,List.getElem?_eq_getElem hb,Option.getD_some,Bool.not_eq_false']at h3
 have h4:=h3.1
 simp only [fIn,Bool.and_eq_true,sR]at h4
 rw [aw (by omega) (by omega)]at h4
 omega
def lkB(st:List Int):List Int:=st.map fun v=>bif v==2 then 1 else 0
def lkC(st:List Int)(lf:List (Int×Int×Int))(ch:Int):List Int:=lf.foldl (ake ch) (lkB st)
def aa7(st:List Int)(lf:List (Int×Int×Int)):Bool:= !(lkC st lf 0).any (· ==0)&& !(lkC st lf 1).any (· ==0)
def alG(st:List Int)(lf:List (Int×Int×Int)):Bool:=areR st&&lfOk (st.length:Int) lf
theorem Yb(st:List Int):(lkB st).length=st.length:=by simp [lkB]
theorem Uq(st:List Int)(lf:List (Int×Int×Int))(ch:Int):(lkC st lf ch).length=st.length:=by rw [lkC,TK,Yb]
theorem auy{ch:Int}{l:List Int}{f:Int×Int×Int}(h: ∀ v∈l,v=0∨v=1)(hf:f.2.2=0∨f.2.2=1): ∀ v∈ake ch l f,v=0∨v=1:=by
 intro v hv
 simp only [ake]at hv
 cases hc:f.2.1==ch with
 |false=>rw [hc]at hv;exact h v hv
 |true=>
  rw [hc]at hv
  rcases List.mem_or_eq_of_mem_set hv with hv | rfl
  ·exact h v hv
  ·exact hf
theorem ap6{ch:Int}: ∀ (lf:List (Int×Int×Int)) (l:List Int),(∀ v∈l,v=0∨v=1)→(∀ f∈lf,f.2.2=0∨f.2.2=1)→ ∀ v∈lf.foldl (ake ch) l,v=0∨v=1
 | [],l,h,_=>h
 |f::r,l,h,hf=>by
  rw [List.foldl_cons]
  exact ap6 r _ (auy h (hf f (by simp))) fun g hg=>hf g (by simp [hg])
theorem ar0{st:List Int}{lf:List (Int×Int×Int)}{ch:Int}(h:alG st lf=true): ∀ v∈lkC st lf ch,v=0∨v=1:=by
 simp only [alG,Bool.and_eq_true]at h
 refine ap6 lf _ (fun v hv=> ?_) fun f hf=>((atV h.2).2 f hf).2.2
 obtain⟨x,_,rfl⟩:=List.mem_map.1 hv
 cases x==2 <;> simp
def pF(b:Int):(List Int)→Nat ⊕ (List Int)
 |y2=>(.inr (y2++([IntKind.wrap .i64 (Int.tdiv b (2:Int))])))
def kQ(y1:List Int)(i:Nat):(List Int)→iJ
 |y2=>((i:Int),y1,y2)
def LR:iJ→List Int
 |(_,_,y2)=>y2
theorem ahr(y1 y2:List Int)(hn:y1.length≤9223372036854775807)(hR:areR y1=true)(h0:y2= []):
  bX.fin ((0:Int),y1,y2)=true∧bX.res ((0:Int),y1,y2)=((ae (pF) 0 y1 0 y2).1,(kQ y1) (ae (pF) 0 y1 0 y2).2.1 (ae (pF) 0 y1 0 y2).2.2):=by
 have key:=bX.along (kQ y1) LR (pF) 0 (fun i a=>a.length≤i) y1 y2 (by subst h0;simp) (by simp only [bX,kQ];omega) (fun i b a hb hI=> ?_) (fun a hI=> ?_)
 ·exact key
 ·obtain y2:=a
  have hlt:=(List.getElem?_eq_some_iff.1 hb).1
  have hget: ∀ d,Option.getD y1[i]? d=b:=fun d=>by rw [hb];rfl
  have hw:=oW hlt hn
  have hdec:ltI (i:Int) (y1.length:Int)=true:=bZ (by omega)
  have hnn:leI (0:Int) (i:Int)=true:=bC (by omega)
  have hltd:ltN i y1.length=true:=cB hlt
  refine⟨?_,?_,?_,?_⟩
  ·have h12:=(Ft.1 hR).1
   have h6:leN (a.length + 1) 9223372036854775807=true:=fk (by omega)
   have h7:leN ((a.length + 1) * 8) 140737488355328=true:=fk (by omega)
   have h8:neI 2 0=true:=rfl
   simp [oc,tW,zO,zP,zQ,zR,zS,zT,zU,xg,bX,LT.nds,allT,kQ,hdec,hnn,hltd,h6,h7,h8]
  ·simp [oc,tW,zO,zP,zQ,zR,zS,zT,zU,xg,bX,LT.each,kQ,LR,hw]
  ·simp only [oc,tW,zO,zP,zQ,zR,zS,zT,zU,xg,bX,LT.fn,kQ,LR,pF,Int.toNat_natCast,hdec,hnn,hltd,hget,cond_true,Bool.cond_self]
  ·intro a' hf;simp only [pF,Sum.inr.injEq]at hf;subst hf;simp;omega
 ·obtain y2:=a
  simp [oc,tW,zO,zP,zQ,zR,zS,zT,zU,xg,bX,LT.out,kQ]
def pG(y1:Int)(b:Int×(Int×Int)):(List Int)→Nat ⊕ (List Int)
 |y3=>(.inr (bif(b.2.1==y1)then List.set y3 (Int.toNat b.1) b.2.2else y3))
def kR(y1:Int)(y2:List (Int×(Int×Int)))(i:Nat):(List Int)→iK
 |y3=>((i:Int),y1,y2,y3)
def LS:iK→List Int
 |(_,_,_,y3)=>y3
theorem ahs(y1:Int)(y2:List (Int×(Int×Int)))(y3:List Int)(hn:y2.length≤9223372036854775807)(n:Nat)(h3:y3.length=n)(hf: ∀ f∈y2,0≤f.1∧f.1 < (n:Int)):
  cK.fin ((0:Int),y1,y2,y3)=true∧cK.res ((0:Int),y1,y2,y3)=((ae (pG y1) 0 y2 0 y3).1,(kR y1 y2) (ae (pG y1) 0 y2 0 y3).2.1 (ae (pG y1) 0 y2 0 y3).2.2):=by
 have key:=cK.along (kR y1 y2) LS (pG y1) 0 (fun _ a=>a.length=n) y2 y3 h3 (by simp only [cK,kR];omega) (fun i b a hb hI=> ?_) (fun a hI=> ?_)
 ·exact key
 ·obtain y3:=a
  have hlt:=(List.getElem?_eq_some_iff.1 hb).1
  have hget: ∀ d,Option.getD y2[i]? d=b:=fun d=>by rw [hb];rfl
  have hw:=oW hlt hn
  have hdec:ltI (i:Int) (y2.length:Int)=true:=bZ (by omega)
  have hnn:leI (0:Int) (i:Int)=true:=bC (by omega)
  have hltd:ltN i y2.length=true:=cB hlt
  refine⟨?_,?_,?_,?_⟩
  ·have h5:=hf b (List.mem_of_getElem? hb)
   have h6:leI 0 b.1=true:=bC h5.1
   have h7:ltI b.1 (a.length:Int)=true:=bZ (by omega)
   have h8:ltN b.1.toNat a.length=true:=cB (by omega)
   simp only [hY,fW,tX,zV,zW,tY,tZ,ua,zX,zY,zZ,z6,xm,xh,cK,LT.nds,allT,kR,Int.toNat_natCast,hdec,hnn,hltd,hget,h6,h7,h8,Bool.or_true,cond_true]
  ·simp [hY,fW,tX,zV,zW,tY,tZ,ua,zX,zY,zZ,z6,xm,xh,cK,LT.each,kR,LS,hw]
  ·simp only [hY,fW,tX,zV,zW,tY,tZ,ua,zX,zY,zZ,z6,xm,xh,cK,LT.fn,kR,LS,pG,Int.toNat_natCast,hdec,hnn,hltd,hget,cond_true,Bool.cond_self]
  ·intro a' hf;simp only [pG,Sum.inr.injEq]at hf;subst hf;cases b.2.1==y1 <;> simpa using hI
 ·obtain y3:=a
  simp [hY,fW,tX,zV,zW,tY,tZ,ua,zX,zY,zZ,z6,xm,xh,cK,LT.out,kR]
theorem awY{v:Int}(h:0≤v∧v≤2):IntKind.i64.wrap (Int.tdiv v 2)=bif v==2 then 1 else 0:=by
 have h:v=0∨v=1∨v=2:=by omega
 rcases h with rfl | rfl | rfl <;> rfl
theorem ald{B C:Type}{g g':B→C}: ∀ (r:List B) (a:List C),(∀ b∈r,g b=g' b)→r.foldl (fun a b=>a++ [g b]) a=a++r.map g'
 | [],a,_=>by simp
 |b::r,a,h=>by rw [List.foldl_cons,ald r _ fun c hc=>h c (by simp [hc]),h b (by simp)];simp
theorem alP(ch:Int)(st:List Int)(lf:List (Int×Int×Int))(h:alG st lf=true):GG ch st lf=lkC st lf ch∧GH ch st lf=true:=by
 simp only [alG,Bool.and_eq_true]at h
 have h12:=(Ft.1 h.1).1
 obtain⟨hl,hf⟩:=atV h.2
 obtain⟨w1,w2⟩:=ahr st [] (by omega) h.1 rfl
 rw [iP (f:=pF) (g:=fun a b=>a++ [IntKind.i64.wrap (Int.tdiv b 2)]) (fun b a=>rfl),ald (g':=fun v=>bif v==2 then 1 else 0) _ _ (fun b hb=>awY ((Ft.1 h.1).2 b hb))]at w2
 have e1:(Lp.res bX (Ez st)).2.2.2=lkB st:=by
  simp only [Ez,w2,kQ,List.nil_append];rfl
 obtain⟨v1,v2⟩:=ahs ch lf (lkB st) (by omega) st.length (Yb st) (fun f hm=>(hf f hm).1)
 rw [iP (f:=pG ch) (g:=ake ch) (fun b a=>rfl)]at v2
 refine⟨?_,?_⟩
 ·simp only [GG,EA,e1,v2,kR];rfl
 ·have v3:Lp.fin cK (EA ch st lf)=true:=by rw [EA,e1];exact v1
  have w3:Lp.fin bX (Ez st)=true:=w1
  simp only [GH,v3,w3,allT,cond_true]
def Cr(b:Int):(Int)→Nat ⊕ (Int)
 |y1=>(.inr (IntKind.wrap .i64 (y1 + b)))
def rH(y2:List Int)(i:Nat):(Int)→mW
 |y1=>((i:Int),y1,y2)
def Sx:mW→Int
 |(_,y1,_)=>y1
theorem am7(y2:List Int)(y1:Int)(hn:y2.length≤9223372036854775807):
  gO.fin ((0:Int),y1,y2)=true∧gO.res ((0:Int),y1,y2)=((ae (Cr) 0 y2 0 y1).1,(rH y2) (ae (Cr) 0 y2 0 y1).2.1 (ae (Cr) 0 y2 0 y1).2.2):=by
 have key:=gO.along (rH y2) Sx (Cr) 0 (fun _ _=>True) y2 y1 (by trivial) (by simp only [gO,rH];omega) (fun i b a hb hI=> ?_) (fun a hI=> ?_)
 ·exact key
 ·obtain y1:=a
  have hlt:=(List.getElem?_eq_some_iff.1 hb).1
  have hget: ∀ d,Option.getD y2[i]? d=b:=fun d=>by rw [hb];rfl
  have hw:=oW hlt hn
  have hdec:ltI (i:Int) (y2.length:Int)=true:=bZ (by omega)
  have hnn:leI (0:Int) (i:Int)=true:=bC (by omega)
  have hltd:ltN i y2.length=true:=cB hlt
  refine⟨?_,?_,?_,?_⟩
  ·simp [CJ,Jj,Jk,Jl,Jm,Gr,gO,LT.nds,allT,rH,hdec,hnn,hltd,hget]
  ·simp [CJ,Jj,Jk,Jl,Jm,Gr,gO,LT.each,rH,Sx,hw]
  ·simp only [CJ,Jj,Jk,Jl,Jm,Gr,gO,LT.fn,rH,Sx,Cr,Int.toNat_natCast,hdec,hnn,hltd,hget,cond_true,Bool.cond_self]
  ·exact fun _ _=>trivial
 ·obtain y1:=a
  simp [CJ,Jj,Jk,Jl,Jm,Gr,gO,LT.out,rH]
def ast(l:List Int):Int:=l.foldl (fun a b=>IntKind.i64.wrap (a + b)) 0
theorem apl(l:List Int)(h:l.length≤9223372036854775807):Pq l=ast l∧Pr l=true:=by
 obtain⟨w1,w2⟩:=am7 l 0 h
 rw [iP (f:=Cr) (g:=fun a b=>IntKind.i64.wrap (a + b)) (fun b a=>rfl)]at w2
 exact⟨by simp only [Pq,SQ,w2,rH,ast],by simp only [Pr,SQ,w1,allT,cond_true]⟩
theorem apm: ∀ (l:List Int) (a:Int),(∀ v∈l,v=0∨v=1)→0≤a→a + l.length≤1000000→
  ∃ s:Int,l.foldl (fun a b=>IntKind.i64.wrap (a + b)) a=a + s∧(0≤s∧s≤l.length)∧((s=l.length)↔l.any (· ==0)=false)
 | [],a,_,_,_=>⟨0,by simp,by simp,by simp⟩
 |v::r,a,h,h0,h1=>by
  have hv:=h v (by simp)
  simp only [List.length_cons]at h1
  have hw:IntKind.i64.wrap (a + v)=a + v:=aw (by omega) (by omega)
  obtain⟨s,e1,e2,e3⟩:=apm r (a + v) (fun x hx=>h x (by simp [hx])) (by omega) (by omega)
  refine⟨v + s,by rw [List.foldl_cons,hw,e1];omega,by simp only [List.length_cons];omega,?_⟩
  simp only [List.length_cons,List.any_cons,Bool.or_eq_false_iff,← e3]
  rcases hv with rfl | rfl
  ·simp;omega
  ·simp;omega
theorem av8{a b:List Int}{n:Nat}(ha: ∀ v∈a,v=0∨v=1)(hb: ∀ v∈b,v=0∨v=1)(la:a.length=n)(lb:b.length=n)(hn:n≤12):
  (IntKind.i64.wrap (ast a + ast b)==IntKind.i64.wrap (2 * (n:Int)))=(!a.any (· ==0)&& !b.any (· ==0)):=by
 obtain⟨s,e1,e2,e3⟩:=apm a 0 ha (by omega) (by omega)
 obtain⟨t,g1,g2,g3⟩:=apm b 0 hb (by omega) (by omega)
 have w1:IntKind.i64.wrap (ast a + ast b)=s + t:=by rw [ast,ast,e1,g1,aw (by omega) (by omega)];omega
 have w2:IntKind.i64.wrap (2 * (n:Int))=2 * (n:Int):=aw (by omega) (by omega)
 rw [w1,w2]
 cases ha2:a.any (· ==0) <;> cases hb2:b.any (· ==0) <;> simp only [ha2,hb2]at e3 g3 <;> simp <;> simp at e3 g3 <;> omega
theorem arg(st:List Int)(lf:List (Int×Int×Int))(h:alG st lf=true):YM st lf=aa7 st lf∧YN st lf=0∧YO st lf=true:=by
 have h':=h
 simp only [alG,Bool.and_eq_true]at h'
 have h12:=(Ft.1 h'.1).1
 have hl:=(atV h'.2).1
 obtain⟨a1,a2⟩:=alP 0 st lf h
 obtain⟨b1,b2⟩:=alP 1 st lf h
 have n1:leN st.length 9223372036854775807=true:=fk (by omega)
 have n2:leN lf.length 9223372036854775807=true:=fk (by omega)
 have q0:GA st lf=0:=by simp only [GA,h'.1,h'.2];rfl
 have q1:GC st lf=lkC st lf 0:=by simp only [GC,h'.1,h'.2,a1];rfl
 have q2:GD st lf=lkC st lf 1:=by simp only [GD,h'.1,h'.2,b1];rfl
 have q3:Mn st lf=true:=by simp only [Mn,h'.1,h'.2,a2,b2,n1,n2,allT,Bool.or_true,cond_true]
 obtain⟨s1,s2⟩:=apl (lkC st lf 0) (by rw [Uq];omega)
 obtain⟨t1,t2⟩:=apl (lkC st lf 1) (by rw [Uq];omega)
 have e:=av8 (ar0 (ch:=0) h) (ar0 (ch:=1) h) (Uq st lf 0) (Uq st lf 1) h12.2
 refine⟨?_,?_,?_⟩
 ·simp only [YM,Fp,q0,q1,q2,s1,t1,e,aa7,bne_self_eq_false,cond_false]
 ·simp only [YN,Fp,q0,bne_self_eq_false,cond_false]
 ·simp only [YO,q1,q2,q3,s2,t2,allT,Bool.or_true,cond_true]
def ji(y2 b:Int):(Unit)→Nat ⊕ (Unit)
 |_=>(bif(y2==b)then(.inl 0)else(.inr ()))
def eg(y2:Int)(y3:List Int)(i:Nat):(Unit)→ci
 |_=>((i:Int),(↑y3.length:Int),y2,y3)
def xL:ci→Unit
 |(_,_,_,_)=>()
theorem VG(y2:Int)(y3:List Int) (hn:y3.length≤9223372036854775807):
  aN.fin ((0:Int),(↑y3.length:Int),y2,y3)=true∧aN.res ((0:Int),(↑y3.length:Int),y2,y3)=((ae (ji y2) 1 y3 0 ()).1,(eg y2 y3) (ae (ji y2) 1 y3 0 ()).2.1 (ae (ji y2) 1 y3 0 ()).2.2):=by
 have key:=aN.along (eg y2 y3) xL (ji y2) 1 (fun _ _=>True) y3 () (by trivial) (by simp only [aN,eg];omega) (fun i b a hb hI=> ?_) (fun a hI=> ?_)
 ·exact key
 ·obtain⟨⟩:=a
  have hlt:=(List.getElem?_eq_some_iff.1 hb).1
  have hget: ∀ d,Option.getD y3[i]? d=b:=fun d=>by rw [hb];rfl
  have hw:=oW hlt hn
  have hdec:ltI (i:Int) (y3.length:Int)=true:=bZ (by omega)
  have hnn:leI (0:Int) (i:Int)=true:=bC (by omega)
  have hltd:ltN i y3.length=true:=cB hlt
  refine⟨?_,?_,?_,?_⟩
  ·simp [lZ,l4,l5,l6,l7,l8,lu,aN,LT.nds,allT,eg,hdec,hnn,hltd,hget]
  ·simp [lZ,l4,l5,l6,l7,l8,lu,aN,LT.each,eg,xL,hw]
  ·simp only [lZ,l4,l5,l6,l7,l8,lu,aN,LT.fn,eg,xL,ji,Int.toNat_natCast,hdec,hnn,hltd,hget,cond_true,Bool.cond_self]
  ·exact fun _ _=>trivial
 ·obtain⟨⟩:=a
  simp [lZ,l4,l5,l6,l7,l8,lu,aN,LT.out,eg]
def pA(b:Int):(List Int)→Nat ⊕ (List Int)
 |y3=>(.inr (y3++([ado (b==(2:Int))])))
def kL(y2:List Int)(i:Nat):(List Int)→iD
 |y3=>((i:Int),(↑y2.length:Int),y2,y3)
def LL:iD→List Int
 |(_,_,_,y3)=>y3
theorem ahm(y2 y3:List Int)(hn:y2.length≤9223372036854775807)(hR:areR y2=true)(h0:y3= []):
  cH.fin ((0:Int),(↑y2.length:Int),y2,y3)=true∧cH.res ((0:Int),(↑y2.length:Int),y2,y3)=((ae (pA) 0 y2 0 y3).1,(kL y2) (ae (pA) 0 y2 0 y3).2.1 (ae (pA) 0 y2 0 y3).2.2):=by
 have key:=cH.along (kL y2) LL (pA) 0 (fun i a=>a.length≤i) y2 y3 (by subst h0;simp) (by simp only [cH,kL];omega) (fun i b a hb hI=> ?_) (fun a hI=> ?_)
 ·exact key
 ·obtain y3:=a
  have hlt:=(List.getElem?_eq_some_iff.1 hb).1
  have hget: ∀ d,Option.getD y2[i]? d=b:=fun d=>by rw [hb];rfl
  have hw:=oW hlt hn
  have hdec:ltI (i:Int) (y2.length:Int)=true:=bZ (by omega)
  have hnn:leI (0:Int) (i:Int)=true:=bC (by omega)
  have hltd:ltN i y2.length=true:=cB hlt
  refine⟨?_,?_,?_,?_⟩
  ·have h12:=(Ft.1 hR).1
   have h6:leN (a.length + 1) 9223372036854775807=true:=fk (by omega)
   have h7:leN ((a.length + 1) * 8) 140737488355328=true:=fk (by omega)
   simp [nH,yF,yG,yH,yI,yJ,yK,yL,yM,wX,cH,LT.nds,allT,kL,hdec,hnn,hltd,h6,h7]
  ·simp [nH,yF,yG,yH,yI,yJ,yK,yL,yM,wX,cH,LT.each,kL,LL,hw]
  ·simp only [nH,yF,yG,yH,yI,yJ,yK,yL,yM,wX,cH,LT.fn,kL,LL,pA,Int.toNat_natCast,hdec,hnn,hltd,hget,cond_true,Bool.cond_self]
  ·intro a' hf;simp only [pA,Sum.inr.injEq]at hf;subst hf;simp;omega
 ·obtain y3:=a
  simp [nH,yF,yG,yH,yI,yJ,yK,yL,yM,wX,cH,LT.out,kL]
def pB(b:Int×(Int×Int)):(List Int×List Int)→Nat ⊕ (List Int×List Int)
 |(y3,y4)=>(.inr ((bif(b.2.1==(0:Int))then List.set y3 (Int.toNat b.1) b.2.2else y3),(bif(b.2.1==(0:Int))then y4 else List.set y4 (Int.toNat b.1) b.2.2)))
def kM(y2:List (Int×(Int×Int)))(i:Nat):(List Int×List Int)→iE
 |(y3,y4)=>((i:Int),(↑y2.length:Int),y2,y3,y4)
def LM:iE→List Int×List Int
 |(_,_,_,y3,y4)=>(y3,y4)
theorem ahn(y2:List (Int×(Int×Int)))(y3 y4:List Int)(hn:y2.length≤9223372036854775807)(n:Nat)(h3:y3.length=n)(h4:y4.length=n)(hf: ∀ f∈y2,0≤f.1∧f.1 < (n:Int)):
  cI.fin ((0:Int),(↑y2.length:Int),y2,y3,y4)=true∧cI.res ((0:Int),(↑y2.length:Int),y2,y3,y4)=((ae (pB) 0 y2 0 (y3,y4)).1,(kM y2) (ae (pB) 0 y2 0 (y3,y4)).2.1 (ae (pB) 0 y2 0 (y3,y4)).2.2):=by
 have key:=cI.along (kM y2) LM (pB) 0 (fun _ a=>a.1.length=n∧a.2.length=n) y2 (y3,y4) ⟨h3,h4⟩ (by simp only [cI,kM];omega) (fun i b a hb hI=> ?_) (fun a hI=> ?_)
 ·exact key
 ·obtain⟨y3,y4⟩:=a
  have hlt:=(List.getElem?_eq_some_iff.1 hb).1
  have hget: ∀ d,Option.getD y2[i]? d=b:=fun d=>by rw [hb];rfl
  have hw:=oW hlt hn
  have hdec:ltI (i:Int) (y2.length:Int)=true:=bZ (by omega)
  have hnn:leI (0:Int) (i:Int)=true:=bC (by omega)
  have hltd:ltN i y2.length=true:=cB hlt
  refine⟨?_,?_,?_,?_⟩
  ·have h5:=hf b (List.mem_of_getElem? hb)
   have hI1:=hI.1
   have hI2:=hI.2
   have h6:leI 0 b.1=true:=bC h5.1
   have h7:ltI b.1 (n:Int)=true:=bZ (by omega)
   have h8:ltN b.1.toNat n=true:=cB (by omega)
   simp only at hI1 hI2
   simp [cG,ej,rP,yN,yO,yP,yQ,yR,yS,yT,yU,yV,yW,ww,wx,wy,wY,cI,LT.nds,allT,kM,hdec,hnn,hltd,hget,h6,h7,h8,hI1,hI2]
  ·simp [cG,ej,rP,yN,yO,yP,yQ,yR,yS,yT,yU,yV,yW,ww,wx,wy,wY,cI,LT.each,kM,LM,hw]
  ·simp only [cG,ej,rP,yN,yO,yP,yQ,yR,yS,yT,yU,yV,yW,ww,wx,wy,wY,cI,LT.fn,kM,LM,pB,Int.toNat_natCast,hdec,hnn,hltd,hget,cond_true,Bool.cond_self]
  ·intro a' hf;simp only [pB,Sum.inr.injEq]at hf;subst hf;have hI1:=hI.1;have hI2:=hI.2;cases b.2.1==0 <;> simpa using ⟨hI1,hI2⟩
 ·obtain⟨y3,y4⟩:=a
  simp [cG,ej,rP,yN,yO,yP,yQ,yR,yS,yT,yU,yV,yW,ww,wx,wy,wY,cI,LT.out,kM]
theorem avI(x v:Int):(x==v)=(v==x):=by rw [Bool.eq_iff_iff,beq_iff_eq,beq_iff_eq];exact eq_comm
theorem adi(x:Int)(l:List Int)(h:l.length≤9223372036854775807):dk x l=l.any (· ==x)∧jm x l=true:=by
 obtain⟨w1,w2⟩:=VG x l h
 rw [jp (P:=fun v=>v==x) (j:=0) (fun v=>by simp only [ji];rw [avI x v])]at w2
 simp only [dk,jm,En,Eo,ud,w1,w2,allT,eg]
 cases l.any (· ==x)with
 |false=>exact⟨rfl,rfl⟩
 |true=>
  simp only [cond_true,Nat.beq]
  exact⟨bC (by omega),trivial⟩
theorem aqV(st:List Int)(lf:List (Int×Int×Int))(h:alG st lf=true):XY st lf=aa7 st lf∧XZ st lf=true:=by
 have h':=h
 simp only [alG,Bool.and_eq_true]at h'
 have h12:=(Ft.1 h'.1).1
 obtain⟨hl,hf⟩:=atV h'.2
 obtain⟨w1,w2⟩:=ahm st [] (by omega) h'.1 rfl
 rw [iP (f:=pA) (g:=fun a b=>a++ [bif b==2 then 1 else 0]) (fun b a=>rfl),Xj]at w2
 have e1:xy st=lkB st:=by
  simp only [xy,Kq,w2,kL,List.nil_append];rfl
 obtain⟨v1,v2⟩:=ahn lf (lkB st) (lkB st) (by omega) st.length (Yb st) (Yb st) (fun f hm=>(hf f hm).1)
 rw [iP (f:=pB) (g:=fun a f=>(bif f.2.1==0 then a.1.set f.1.toNat f.2.2 else a.1,bif f.2.1==0 then a.2 else a.2.set f.1.toNat f.2.2)) (fun b a=>rfl),ami _ _ (fun f hm=>(hf f hm).2.1)]at v2
 have e3:Kr st lf=(lkC st lf 0,lkC st lf 1):=by
  simp only [Kr,Dt,e1,v2,kM];rfl
 have e4:Lp.fin cI (Dt st lf)=true:=by simp only [Dt,e1];exact v1
 have e5:Lp.fin cH (Kq st)=true:=w1
 have q0:Ah st lf=lkC st lf 0:=by rw [Ah,e3]
 have q1:FF st lf=lkC st lf 1:=by rw [FF,e3]
 have n1:leN 1 st.length=true:=fk (by omega)
 have n2:leN st.length 1048576=true:=fk (by omega)
 have q2:Me st lf=true:=by simp only [Me,e4,e5,e1,Yb,n1,n2,allT,Bool.and_self,cond_true]
 obtain⟨s1,s2⟩:=adi 0 (lkC st lf 0) (by rw [Uq];omega)
 obtain⟨t1,t2⟩:=adi 0 (lkC st lf 1) (by rw [Uq];omega)
 refine⟨?_,?_⟩
 ·simp only [XY,q0,q1,s1,t1,aa7]
  cases (lkC st lf 0).any (· ==0) <;> rfl
 ·simp only [XZ,q0,q1,q2,s2,t2,allT,Bool.or_true,cond_true]
def af0:List SV→List Entry→Option Out
 | [.one ⟨false,[.ref 0]⟩,.one ⟨false,[.ref 1]⟩],[.row false 2 (.int .i64) x0,.row false 100 (.pair (.int .i64) (.pair (.int .i64) (.int .i64))) x1]=>some ⟨(.tup [⟨false,[(.val (.bool (aa7 x0 x1)))]⟩,⟨false,[(.val (.int .i64 (0)))]⟩]),[(.row false 2 axl x0),(.row false 100 axj x1)],[],[alG x0 x1]⟩
 |_,_=>none
def Yo:PF Tryz.prog:=PF.alt ao2 af0 (by
 intro args es o h hnd;unfold af0 at h;split at h
 ·rename_i x0 x1
  cases h
  have hnd:=bY hnd
  have hh:=arg x0 x1 hnd
  obtain⟨e0,e1,en⟩:=hh
  exact ek rfl (cg en) (by simp only [e0,e1] <;> rfl) rfl rfl
 ·cases h)
def afV:List SV→List Entry→Option Out
 | [.one ⟨false,[.ref 0]⟩,.one ⟨false,[.ref 1]⟩],[.row false 2 (.int .i64) x0,.row false 100 (.pair (.int .i64) (.pair (.int .i64) (.int .i64))) x1]=>some ⟨(.one ⟨false,[(.val (.bool (aa7 x0 x1)))]⟩),[(.row false 2 axl x0),(.row false 100 axj x1)],[],[alG x0 x1]⟩
 |_,_=>none
def Yj:PF Tryz.prog:=PF.alt aoX afV (by
 intro args es o h hnd;unfold afV at h;split at h
 ·rename_i x0 x1
  cases h
  have hnd:=bY hnd
  have hh:=aqV x0 x1 hnd
  obtain⟨e0,en⟩:=hh
  exact ek rfl (cg en) (by simp only [e0] <;> rfl) rfl rfl
 ·cases h)
end Go.SX

namespace Go.SX
open Go.Proofs
set_option maxRecDepth 100000
def rsB(n k row:Int):Bool:=bif k==0||k==1 then inR row 0 (IntKind.i64.wrap (n - 1))else bif k==2||k==3 then row==0 else false
def kK(st:List Int)(k row:Int):Bool:=bif k==0||k==1 then(st[row.toNat]?.getD 0)==k else bif k==2 then !st.any (· ==0)else Sh st
def Tg(st:List Int)(k row:Int):List Int:=bif k==0||k==1 then st.set row.toNat (1 - k)else st.map fun _=>bif k==2 then 2 else 1
def alK(st:List Int)(k row:Int):Bool:=areR st&&rsB (st.length:Int) k row
theorem at1(a b:Bool):(bif a then a else b)=(a||b):=by cases a <;> rfl
theorem auD(n k row:Int):YT n k row=rsB n k row:=by
 simp only [YT,aL,vK,rsB,at1]
theorem aui(n k row:Int):Kp n k row=rsB n k row:=by
 simp only [Kp,ba,vK,rsB,at1]
theorem ape{st:List Int}{k row:Int}(h:alK st k row=true):areR st=true∧(1≤st.length∧st.length≤12)∧(((k=0∨k=1)∧0≤row∧row < st.length)∨((k=2∨k=3)∧row=0)):=by
 simp only [alK,Bool.and_eq_true]at h
 have h12:=(Ft.1 h.1).1
 refine⟨h.1,h12,?_⟩
 have h2:=h.2
 rw [rsB,aw (by omega) (by omega)]at h2
 cases h3:(k==0||k==1)with
 |true=>
  rw [h3,cond_true,sR]at h2
  simp only [Bool.or_eq_true,beq_iff_eq]at h3
  exact .inl ⟨h3,by omega⟩
 |false=>
  rw [h3,cond_false]at h2
  cases h4:(k==2||k==3)with
  |true=>
   rw [h4,cond_true,beq_iff_eq]at h2
   simp only [Bool.or_eq_true,beq_iff_eq]at h4
   exact .inr ⟨h4,h2⟩
  |false=>rw [h4]at h2;cases h2
def uw(y1 _b:Int):(List Int)→Nat ⊕ (List Int)
 |y3=>(.inr (y3++ [y1]))
def qo(y1:Int)(y2:List Int)(i:Nat):(List Int)→lH
 |y3=>((i:Int),y1,y2,y3)
def Qs:lH→List Int
 |(_,_,_,y3)=>y3
theorem alX(y1:Int)(y2 y3:List Int)(hn:y2.length≤9223372036854775807)(h12:y2.length≤12)(h0:y3= []):
  gi.fin ((0:Int),y1,y2,y3)=true∧gi.res ((0:Int),y1,y2,y3)=((ae (uw y1) 0 y2 0 y3).1,(qo y1 y2) (ae (uw y1) 0 y2 0 y3).2.1 (ae (uw y1) 0 y2 0 y3).2.2):=by
 have key:=gi.along (qo y1 y2) Qs (uw y1) 0 (fun i a=>a.length≤i) y2 y3 (by subst h0;simp) (by simp only [gi,qo];omega) (fun i b a hb hI=> ?_) (fun a hI=> ?_)
 ·exact key
 ·obtain y3:=a
  have hlt:=(List.getElem?_eq_some_iff.1 hb).1
  have hget: ∀ d,Option.getD y2[i]? d=b:=fun d=>by rw [hb];rfl
  have hw:=oW hlt hn
  have hdec:ltI (i:Int) (y2.length:Int)=true:=bZ (by omega)
  have hnn:leI (0:Int) (i:Int)=true:=bC (by omega)
  have hltd:ltN i y2.length=true:=cB hlt
  refine⟨?_,?_,?_,?_⟩
  ·have h6:leN (a.length + 1) 9223372036854775807=true:=fk (by omega)
   have h7:leN ((a.length + 1) * 8) 140737488355328=true:=fk (by omega)
   simp [GI,GJ,GK,GL,GM,Eh,gi,LT.nds,allT,qo,hdec,hnn,hltd,h6,h7]
  ·simp [GI,GJ,GK,GL,GM,Eh,gi,LT.each,qo,Qs,hw]
  ·simp only [GI,GJ,GK,GL,GM,Eh,gi,LT.fn,qo,Qs,uw,Int.toNat_natCast,hdec,hnn,hltd,hget,cond_true,Bool.cond_self]
  ·intro a' hf;simp only [uw,Sum.inr.injEq]at hf;subst hf;simp;omega
 ·obtain y3:=a
  simp [GI,GJ,GK,GL,GM,Eh,gi,LT.out,qo]
theorem anF(x:Int)(st:List Int)(h:st.length≤12):Nx x st=st.map (fun _=>x)∧Ny x st=true:=by
 obtain⟨w1,w2⟩:=alX x st [] (by omega) h rfl
 rw [iP (f:=uw x) (g:=fun a _=>a++ [x]) (fun b a=>rfl),Xj (fun _=>x)]at w2
 exact⟨by simp only [Nx,PQ,w2,qo,List.nil_append],by simp only [Ny,PQ,w1,allT,cond_true]⟩
theorem amn: ∀ (xs:List Int) (m:Int),0≤m→(∀ y∈xs,0≤y)→
  leI 1 (xs.foldl (fun m b=>bif ltI b m then b else m) m)=(!(m==0)&& !xs.any (· ==0))
 | [],m,hm,_=>by
  simp only [List.foldl_nil,List.any_nil,Bool.not_false,Bool.and_true]
  rw [Bool.eq_iff_iff,Bool.not_eq_true',beq_eq_false_iff_ne,Sg];omega
 |y::xs,m,hm,h=>by
  have hy:=h y (by simp)
  rw [List.foldl_cons,List.any_cons]
  cases hc:ltI y m with
  |true=>
   rw [cond_true,amn xs y hy fun z hz=>h z (by simp [hz])]
   have hc:=alm.1 hc
   rw [show (m==0)=false from by rw [beq_eq_false_iff_ne];omega]
   cases y==0 <;> simp
  |false=>
   rw [cond_false,amn xs m hm fun z hz=>h z (by simp [hz])]
   have hc: ¬ y < m:=fun h=>by rw [bZ h]at hc;cases hc
   cases hm0:m==0 with
   |true=>rfl
   |false=>
    rw [beq_eq_false_iff_ne]at hm0
    rw [show (y==0)=false from by rw [beq_eq_false_iff_ne];omega]
    simp
theorem aum(st:List Int)(h:areR st=true):leI 1 (AR st)= !st.any (· ==0):=by
 obtain⟨h1,h2⟩:=Ft.1 h
 match st,h1,h2 with
 |x::xs,h1,h2=>
  have hx:=h2 x (by simp)
  obtain⟨w1,w2⟩:=Zk (x::xs) x (by omega)
  rw [iP (f:=mq) (g:=fun m b=>bif ltI b m then b else m) (fun b a=>by simp only [mq,aqS])]at w2
  have e0:Option.getD (x::xs)[Int.toNat 0]? 0=x:=rfl
  simp only [AR,Jn,e0,w2,kW,List.drop_one,List.tail_cons]
  rw [amn xs x hx.1 fun y hy=>(h2 y (by simp [hy])).1,List.any_cons,Bool.not_or]
theorem amY{st:List Int}{row:Int}(h:0≤row∧row < st.length):leI 0 row=true∧ltI row (st.length:Int)=true∧ltN row.toNat st.length=true:=
 ⟨bC h.1,bZ h.2,cB (by omega)⟩
theorem ard(k row:Int)(st:List Int)(h:alK st k row=true):Fq k row st=kK st k row∧Fr k row st=Tg st k row∧Fs k row st=true:=by
 obtain⟨hA,h12,hk⟩:=ape h
 obtain⟨l1,l2⟩:=ava st hA
 have l3:=aum st hA
 obtain⟨f1,f2⟩:=anF 2 st h12.2
 obtain⟨g1,g2⟩:=anF 1 st h12.2
 have n1:leN st.length 1048576=true:=fk (by omega)
 rcases hk with⟨rfl | rfl,hr⟩ | ⟨rfl | rfl,rfl⟩
 ·obtain⟨r1,r2,r3⟩:=amY hr
  simp [Fq,Fr,Fs,CL,CM,CN,CO,CP,CQ,CR,kK,Tg,r1,r2,r3,n1,allT]
 ·obtain⟨r1,r2,r3⟩:=amY hr
  simp [Fq,Fr,Fs,CL,CM,CN,CO,CP,CQ,CR,kK,Tg,r1,r2,r3,n1,allT]
 ·simp [Fq,Fr,Fs,CL,CM,CN,CO,CP,CQ,CR,kK,Tg,l2,l3,f1,f2,n1,allT]
 ·simp [Fq,Fr,Fs,CL,CM,CN,CO,CP,CQ,CR,kK,Tg,l1,l2,g1,g2,n1,allT]
def kf(y2:Int)(b:Nat):(List Int)→Nat ⊕ (List Int)
 |y3=>(.inr (List.set y3 b y2))
def ic(y1 y2:Int)(i:Nat):(List Int)→ew
 |y3=>((i:Int),y1,y2,y3)
def Fb:ew→List Int
 |(_,_,_,y3)=>y3
theorem abg(y1 y2:Int)(y3:List Int)(hn:y1≤9223372036854775807)(h3:y1=(y3.length:Int)):
  aX.fin ((0:Int),y1,y2,y3)=true∧aX.res ((0:Int),y1,y2,y3)=((ae (kf y2) 0 (List.range y1.toNat) 0 y3).1,(ic y1 y2) (ae (kf y2) 0 (List.range y1.toNat) 0 y3).2.1 (ae (kf y2) 0 (List.range y1.toNat) 0 y3).2.2):=by
 have key:=aX.along (ic y1 y2) Fb (kf y2) 0 (fun _ a=>y1=(a.length:Int)) (List.range y1.toNat) y3 h3 (by simp only [aX,ic,List.length_range];omega) (fun i b a hb hI=> ?_) (fun a hI=> ?_)
 ·exact key
 ·obtain y3:=a
  obtain⟨rfl,hlt⟩:=eu hb
  have hw:IntKind.i64.wrap ((b:Int) + 1)=((b + 1:Nat):Int):=by rw [aw (by omega) (by omega)];omega
  have hdec:ltI (b:Int) y1=true:=bZ (by omega)
  have hnn:leI (0:Int) (b:Int)=true:=bC (by omega)
  refine⟨?_,?_,?_,?_⟩
  ·have h6:ltI (b:Int) (a.length:Int)=true:=bZ (by omega)
   have h7:ltN b a.length=true:=cB (by omega)
   simp [rZ,sa,sb,sc,sd,se,qY,aX,LT.nds,allT,ic,hdec,hnn,h6,h7]
  ·simp [rZ,sa,sb,sc,sd,se,qY,aX,LT.each,ic,Fb,hw]
  ·simp only [rZ,sa,sb,sc,sd,se,qY,aX,LT.fn,ic,Fb,kf,Int.toNat_natCast,hdec,hnn,cond_true,Bool.cond_self]
  ·intro a' hf;simp only [kf,Sum.inr.injEq]at hf;subst hf;simpa using hI
 ·obtain y3:=a
  simp only [rZ,sa,sb,sc,sd,se,qY,aX,LT.out,ic,List.length_range,acw,agR,cond_false]
theorem anm(x:Int)(st:List Int)(h:st.length≤12):(Lp.res aX ((0:Int),(↑(List.length st):Int),x,st)).2.2.2.2=st.map (fun _=>x)∧Lp.fin aX ((0:Int),(↑(List.length st):Int),x,st)=true:=by
 obtain⟨w1,w2⟩:=abg (st.length:Int) x st (by omega) rfl
 rw [Int.toNat_natCast,Og (xs:=st) (d:=0) (f:=kf x) (g:=fun _=>x) (fun b a=>rfl) rfl]at w2
 exact⟨by simp only [w2,ic],w1⟩
theorem awF{k:Int}(h:0≤k∧k≤2):IntKind.i64.wrap (IntKind.i64.wrap (k - 0) + 0)=k∧IntKind.i64.wrap (1 - k)=1 - k:=
 ⟨by rw [show IntKind.i64.wrap (k - 0)=k from by rw [aw (by omega) (by omega)];omega,aw (by omega) (by omega)];omega,aw (by omega) (by omega)⟩
theorem arU(k row:Int)(st:List Int)(h:alK st k row=true):wz k row st=kK st k row∧wA k row st=(bif kK st k row then Tg st k row else st)∧wB k row st=true:=by
 obtain⟨hA,h12,hk⟩:=ape h
 obtain⟨c1,c2⟩:=adi 0 st (by omega)
 obtain⟨f1,f2⟩:=anm 2 st h12.2
 obtain⟨g1,g2⟩:=anm 1 st h12.2
 have n1:leN st.length 9223372036854775807=true:=fk (by omega)
 rcases hk with⟨hk,hr⟩ | ⟨rfl | rfl,rfl⟩
 ·obtain⟨r1,r2,r3⟩:=amY hr
  obtain⟨q1,q2⟩:=awF (k:=k) (by omega)
  have ha0:bJ k=true:=by rcases hk with rfl | rfl <;> rfl
  have ha1:(k==0||k==1)=true:=by rcases hk with rfl | rfl <;> rfl
  have ha2:mr k row st= !((st[row.toNat]?.getD 0)==k):=by
   rw [mr,q1];rfl
  simp only [wz,wA,wB,ha0,ha2,uy,uz,uA,kK,Tg,ha1,cond_true,r1,r2,r3,Bool.or_true,Bool.true_or,allT]
  cases hc:(st[row.toNat]?.getD 0)==k with
  |false=>simp
  |true=>
   have hv:Ks row st=k:=by rw [beq_iff_eq]at hc;exact hc
   rw [hv,q2]
   simp
 ·simp only [wz,wA,wB,show bJ 2=false from rfl,Kt,uy,uz,uA,kK,Tg,c1,c2,f1,f2,n1,allT]
  cases st.any (· ==0) <;> simp
 ·simp only [wz,wA,wB,show bJ 3=false from rfl,Ku,uy,uz,uA,kK,Tg,c1,c2,g1,g2,n1,allT]
  cases Sh st <;> simp
def af4:List SV→List Entry→Option Out
 | [.one ⟨false,[.val (.int .i64 x0)]⟩,.one ⟨true,[.val (.int .i64 x1),.val (.int .i64 x2)]⟩],[]=>some ⟨(.one ⟨false,[(.val (.bool (rsB x0 x1 x2)))]⟩),[],[],[]⟩
 |_,_=>none
def aoP:PF Tryz.prog:=PF.alt ao6 af4 (by
 intro args es o h hnd;unfold af4 at h;split at h
 ·rename_i x0 x1 x2
  cases h
  have hh:=auD x0 x1 x2
  have e0:=hh
  exact ek rfl (fun _ h=>by cases h) (by simp only [e0] <;> rfl) rfl rfl
 ·cases h)
def Ry:List SV→List Entry→Option Out
 | [.one ⟨false,[.val (.int .i64 x0)]⟩,.one ⟨true,[.val (.int .i64 x1),.val (.int .i64 x2)]⟩],[]=>some ⟨(.one ⟨false,[(.val (.bool (rsB x0 x1 x2)))]⟩),[],[],[]⟩
 |_,_=>none
def adA:PF Tryz.prog:=PF.alt adF Ry (by
 intro args es o h hnd;unfold Ry at h;split at h
 ·rename_i x0 x1 x2
  cases h
  have hh:=aui x0 x1 x2
  have e0:=hh
  exact ek rfl (fun _ h=>by cases h) (by simp only [e0] <;> rfl) rfl rfl
 ·cases h)
def aef:List SV→List Entry→Option Out
 | [.one ⟨false,[.ref 0]⟩,.one ⟨true,[.val (.int .i64 x0),.val (.int .i64 x1)]⟩],[.row false 2 (.int .i64) x2]=>some ⟨(.tup [⟨false,[(.ref 1)]⟩,⟨false,[(.val (.bool (kK x2 x0 x1)))]⟩]),[(.row false 2 axl x2)],[(.row true 2 axl (Tg x2 x0 x1))],[alK x2 x0 x1]⟩
 |_,_=>none
def Wj:PF Tryz.prog:=PF.alt an2 aef (by
 intro args es o h hnd;unfold aef at h;split at h
 ·rename_i x0 x1 x2
  cases h
  have hnd:=bY hnd
  have hh:=ard x0 x1 x2 hnd
  obtain⟨e0,e1,en⟩:=hh
  exact ek rfl (cg en) (by simp only [e0] <;> rfl) rfl (by simp only [e1] <;> rfl)
 ·cases h)
def Ty:List SV→List Entry→Option Out
 | [.one ⟨false,[.ref 0]⟩,.one ⟨true,[.val (.int .i64 x0),.val (.int .i64 x1)]⟩],[.row true 2 (.int .i64) x2]=>some ⟨(.one ⟨false,[(.val (.bool (kK x2 x0 x1)))]⟩),[(.row true 2 axl (bif kK x2 x0 x1 then Tg x2 x0 x1 else x2))],[],[alK x2 x0 x1]⟩
 |_,_=>none
def LD:PF Tryz.prog:=PF.alt ae1 Ty (by
 intro args es o h hnd;unfold Ty at h;split at h
 ·rename_i x0 x1 x2
  cases h
  have hnd:=bY hnd
  have hh:=arU x0 x1 x2 hnd
  obtain⟨e0,e1,en⟩:=hh
  exact ek rfl (cg en) (by simp only [e0] <;> rfl) (by simp only [e1] <;> rfl) rfl
 ·cases h)
end Go.SX

namespace Go.SX
open Go.Proofs
set_option maxRecDepth 100000
section
variable (x0 x1 x2 x3 x4 x5 x6 x7 x8:Int)(x9:Bool)(x10:List Int)(x11:List (Int×Int×Int))(x12:List (List Int))(x13:List (Int×Int×Int))(x14 x15:List (Int×Int))
def KL:Bool:=aL x4 (0:Int) (IntKind.wrap .i64 ((↑x12.length:Int) - (1:Int)))
def QG:Bool:=bif x5==(0:Int)then bif x6==(0:Int)then true else false else false
def QH:Bool:=bif x7==(0:Int)then bif x8==(0:Int)then bif x9==false then true else false else false else false
def Av:Bool:=bif !qP x0 x10 x11 x12 x13 x1 x14 x15 x2 then false else bif x3==(0:Int)then bif KL x4 x12 then bif x3==(0:Int)then bif x4==x4 then bif QG x5 x6 then bif QH x7 x8 x9 then true else false else false else false else false else false else bif x3==(1:Int)then bif bif KL x4 x12 then rsB (z7 x12) x5 x6 else false then QH x7 x8 x9 else false else bif x3==(2:Int)then bif bif x4==(0:Int)then QG x5 x6 else false then ak4 x7 x8 else false else false
def Gz:Bool:=allT [rb (9223372036854775807:Nat) x10 x11 x12 x13 x14 x15,!qP x0 x10 x11 x12 x13 x1 x14 x15 x2||(x3==(0:Int)||(!x3==(1:Int)||(!(KL x4 x12&&true)||z8 x12)))]
end
def ZU:List SV→List Entry→Option Out
 | [.one ⟨true,[.val (.int .i64 x0),.ref 0,.ref 1,.ref 2,.ref 3,.val (.int .i64 x1),.ref 4,.ref 5,.val (.int .i64 x2)]⟩,.one ⟨true,[.val (.int .i64 x3),.val (.int .i64 x4),.val (.int .i64 x5),.val (.int .i64 x6),.val (.int .i64 x7),.val (.int .i64 x8),.val (.bool x9)]⟩],[.row false 2 (.int .i64) x10,.row false 169 (.pair (.int .i64) (.pair (.int .i64) (.int .i64))) x11,.row false 24 (.sl 2 (.int .i64)) x12,.row false 100 (.pair (.int .i64) (.pair (.int .i64) (.int .i64))) x13,.row false 173 (.pair (.int .i64) (.int .i64)) x14,.row false 176 (.pair (.int .i64) (.int .i64)) x15]=>some ⟨(.one ⟨false,[(.val (.bool (Av x0 x1 x2 x3 x4 x5 x6 x7 x8 x9 x10 x11 x12 x13 x14 x15)))]⟩),[(.row false 2 axl x10),(.row false 169 axj x11),(.row false 24 (CTy.sl (2:TypeId) axl) x12),(.row false 100 axj x13),(.row false 173 axk x14),(.row false 176 axk x15)],[],[(Gz x0 x1 x2 x3 x4 x10 x11 x12 x13 x14 x15)]⟩
 |_,_=>none
def oi:PF Tryz.prog:=PF.ofG Tryz.prog [aoP,amx,qq,PF.lend qq,PF.fz qq,fB,uX,PF.lend uX,PF.fz uX] [] aq 35 Tryz.f35 Tryz.func35 (fun c _=>LOk.nil c) ZU (by
 intro vs es r h;unfold ZU at h;split at h
 ·cases h;kernel_rfl
 ·cases h)
abbrev mY:=Int×Int×Int×Int×List (List Int)×List Int×List (Int×(Int×Int))×List (List Int)×List (Int×(Int×Int))×List (Int×Int)×List (Int×Int)
section
variable (y0:Int)(y4 y7:List (List Int))
def rE:List Int:=Option.getD y7[Int.toNat y0]? (wu (CTy.sl (2:TypeId) axl))
def CV:Bool:=ltI y0 (↑y7.length:Int)
def Ju:Bool:=leI (0:Int) y0
def Jv:Bool:=ltN y0.toNat y7.length
def Jw:Bool:=leN (List.length (rE y0 y7)) (1048576:Nat)
def Jz:Bool:=leN (List.length y4 + List.length [rE y0 y7]) (9223372036854775807:Nat)
def JA:Bool:=leN ((List.length y4 + List.length [rE y0 y7]) * (24:Nat)) (140737488355328:Nat)
def JB:Int:=IntKind.wrap .i64 (y0 + (1:Int))
def JC:List (List Int):=y4++ [rE y0 y7]
end
def akF:mY→List (Nat×SV)
 |(y0,_,_,_,_,_,_,_,_,_,_)=> [(4,(.one ⟨false,[(.val (.int .i64 y0))]⟩)),(1,(.one ⟨false,[(.ptr 0 0)]⟩)),(3,(.one ⟨false,[(.ref 1)]⟩))]
def akw:mY→List (Nat×Entry)
 |(_,y1,y2,y3,y4,y5,y6,y7,y8,y9,y10)=> [(0,(.box 33 [(.val (.int .i64 y1)),(.ref 2),(.ref 3),(.ref 4),(.ref 5),(.val (.int .i64 y2)),(.ref 6),(.ref 7),(.val (.int .i64 y3))])),(2,(.row false 2 axl y5)),(3,(.row false 169 axj y6)),(4,(.row false 24 (CTy.sl (2:TypeId) axl) y7)),(5,(.row false 100 axj y8)),(6,(.row false 173 axk y9)),(7,(.row false 176 axk y10)),(1,(.row true 24 (CTy.sl (2:Nat) axl) y4))]
def akX:Nat→mY→List (Nat×SV)
 |_,(_,_,_,_,_,_,_,_,_,_,_)=> [(3,(.one ⟨false,[(.ref 1)]⟩))]
def akO:Nat→mY→List (Nat×Entry)
 |_,(_,y1,y2,y3,y4,y5,y6,y7,y8,y9,y10)=> [(0,(.box 33 [(.val (.int .i64 y1)),(.ref 2),(.ref 3),(.ref 4),(.ref 5),(.val (.int .i64 y2)),(.ref 6),(.ref 7),(.val (.int .i64 y3))])),(1,(.row true 24 (CTy.sl (2:Nat) axl) y4)),(2,(.row false 2 axl y5)),(3,(.row false 169 axj y6)),(4,(.row false 24 (CTy.sl (2:TypeId) axl) y7)),(5,(.row false 100 axj y8)),(6,(.row false 173 axk y9)),(7,(.row false 176 axk y10))]
def Gt:mY→LT mY
 |(y0,y1,y2,y3,y4,y5,y6,y7,y8,y9,y10)=> .ite (CV y0 y7) (.need [(Ju y0),(CV y0 y7),(Jv y0 y7),(Jw y0 y7),(Jz y0 y4 y7),(JA y0 y4 y7)] (.nrm ((JB y0),y1,y2,y3,(JC y0 y4 y7),y5,y6,y7,y8,y9,y10) [(0,0),(1,896),(2,2),(3,3),(4,4),(5,5),(6,6),(7,7)])) (.ext 0 [(0,0),(1,1),(2,2),(3,3),(4,4),(5,5),(6,6),(7,7)])
def SI(s:St):Option mY:=
 (match s.look 4 with
 |some ⟨none,(.one ⟨false,[(.val (.int .i64 y0))]⟩)⟩=>
 (match s.look 1 with
 |some ⟨none,(.one ⟨false,[(.ptr 448 0)]⟩)⟩=>
 (match s.look 3 with
 |some ⟨none,(.one ⟨false,[(.ref 576)]⟩)⟩=>
 (match s.ent 448 with
 |some (.box 33 [(.val (.int .i64 y1)),(.ref 0),(.ref 1),(.ref 2),(.ref 3),(.val (.int .i64 y2)),(.ref 4),(.ref 5),(.val (.int .i64 y3))])=>
 (match s.ent 0 with
 |some (.row false 2 (.int .i64) y5)=>
 (match s.ent 1 with
 |some (.row false 169 (.pair (.int .i64) (.pair (.int .i64) (.int .i64))) y6)=>
 (match s.ent 2 with
 |some (.row false 24 (.sl 2 (.int .i64)) y7)=>
 (match s.ent 3 with
 |some (.row false 100 (.pair (.int .i64) (.pair (.int .i64) (.int .i64))) y8)=>
 (match s.ent 4 with
 |some (.row false 173 (.pair (.int .i64) (.int .i64)) y9)=>
 (match s.ent 5 with
 |some (.row false 176 (.pair (.int .i64) (.int .i64)) y10)=>
 (match s.ent 576 with
 |some (.row true 24 (.sl 2 (.int .i64)) y4)=>
 some (y0,y1,y2,y3,y4,y5,y6,y7,y8,y9,y10)
 |_=>none)
 |_=>none)
 |_=>none)
 |_=>none)
 |_=>none)
 |_=>none)
 |_=>none)
 |_=>none)
 |_=>none)
 |_=>none)
 |_=>none)
def gd:Lp mY where
 h:=⟨[6,7,8,9,10,13,14,15,16,17,18,19,20,21,3,11,12,4],[0,2,3,4,5,6,7],[1],[]⟩
 JL:=akF
 JE:=akw
 XL:=akX
 XE:=akO
 q:=fun j=>match j with | _=> .exit 0
 tags:= [0]
 lt:=Gt
 fuel:=fun(y0,y1,y2,y3,y4,y5,y6,y7,y8,y9,y10)=>y0.natAbs + y1.natAbs + y2.natAbs + y3.natAbs + y4.length + y5.length + y6.length + y7.length + y8.length + y9.length + y10.length
 fix:=fun(_,y1,y2,y3,_,y5,y6,y7,y8,y9,y10) (y0,_,_,_,y4,_,_,_,_,_,_)=>(y0,y1,y2,y3,y4,y5,y6,y7,y8,y9,y10)
 σ:= [(0,448),(2,0),(3,1),(4,2),(5,3),(6,4),(7,5),(1,576)]
 rd:=SI
theorem aik:LoopOk Tryz.prog (fun k=>Nat.blt k Tryz.f155.ntmps) gd.F (au Tryz.f155 0):=by
 refine Lp.ok (tbl:= [qr,PF.lend qr,PF.fz qr]) (lf:= []) aq gd (by kernel_rfl) (LOk.nil _) (fun _=>rfl) (fun _ _=>rfl) ?_ ?_ ?_ ?_ (fun _=>rfl) ?_
 ·rintro⟨y0,y1,y2,y3,y4,y5,y6,y7,y8,y9,y10⟩;kernel_rfl
 ·rintro⟨y0,y1,y2,y3,y4,y5,y6,y7,y8,y9,y10⟩;kernel_rfl
 ·intro s x h
  have h:SI s=some x:=h
  unfold SI at h
  repeat' split at h
  all_goals cases h
  exact⟨aa (by assumption) rfl (aa (by assumption) rfl (aa (by assumption) rfl (rfl))),ab rfl (by assumption) rfl (ab rfl (by assumption) rfl (ab rfl (by assumption) rfl (ab rfl (by assumption) rfl (ab rfl (by assumption) rfl (ab rfl (by assumption) rfl (ab rfl (by assumption) rfl (ab rfl (by assumption) rfl (rfl))))))))⟩
 ·rintro⟨y0,y1,y2,y3,y4,y5,y6,y7,y8,y9,y10⟩;kernel_rfl
 ·rintro⟨y0,y1,y2,y3,y4,y5,y6,y7,y8,y9,y10⟩ z;exact(And.intro rfl trivial)
section
variable (x0 x1 x2:Int)(x3:List Int)(x4:List (Int×Int×Int))(x5:List (List Int))(x6:List (Int×Int×Int))(x7 x8:List (Int×Int))
def Te:Int×Int×Int×Int×List (List Int)×List Int×List (Int×Int×Int)×List (List Int)×List (Int×Int×Int)×List (Int×Int)×List (Int×Int):=((0:Int),x0,x1,x2,[],x3,x4,x5,x6,x7,x8)
def lN:List (List Int):=((Lp.res gd (Te x0 x1 x2 x3 x4 x5 x6 x7 x8)).2.2.2.2.2).1
def Ps:Bool:=allT [Lp.fin gd (Te x0 x1 x2 x3 x4 x5 x6 x7 x8),leN x3.length (1048576:Nat),leN ((0:Nat) + List.length x4) (9223372036854775807:Nat),leN (((0:Nat) + List.length x4) * (24:Nat)) (140737488355328:Nat),leN ((0:Nat) + List.length x6) (9223372036854775807:Nat),leN (((0:Nat) + List.length x6) * (24:Nat)) (140737488355328:Nat),leN ((0:Nat) + List.length x7) (9223372036854775807:Nat),leN (((0:Nat) + List.length x7) * (16:Nat)) (140737488355328:Nat),leN ((0:Nat) + List.length x8) (9223372036854775807:Nat),leN (((0:Nat) + List.length x8) * (16:Nat)) (140737488355328:Nat)]
end
def aiS:List SV→List Entry→Option Out
 | [.one ⟨true,[.val (.int .i64 x0),.ref 0,.ref 1,.ref 2,.ref 3,.val (.int .i64 x1),.ref 4,.ref 5,.val (.int .i64 x2)]⟩],[.row false 2 (.int .i64) x3,.row false 169 (.pair (.int .i64) (.pair (.int .i64) (.int .i64))) x4,.row false 24 (.sl 2 (.int .i64)) x5,.row false 100 (.pair (.int .i64) (.pair (.int .i64) (.int .i64))) x6,.row false 173 (.pair (.int .i64) (.int .i64)) x7,.row false 176 (.pair (.int .i64) (.int .i64)) x8]=>some ⟨(.one ⟨true,[(.val (.int .i64 x0)),(.ref 6),(.ref 7),(.ref 8),(.ref 9),(.val (.int .i64 x1)),(.ref 10),(.ref 11),(.val (.int .i64 x2))]⟩),[(.row false 2 axl x3),(.row false 169 axj x4),(.row false 24 (CTy.sl (2:TypeId) axl) x5),(.row false 100 axj x6),(.row false 173 axk x7),(.row false 176 axk x8)],[(.row true 2 axl x3),(.row true 169 axj x4),(.row true 24 (CTy.sl (2:Nat) axl) (lN x0 x1 x2 x3 x4 x5 x6 x7 x8)),(.row true 100 axj x6),(.row true 173 axk x7),(.row true 176 axk x8)],[(Ps x0 x1 x2 x3 x4 x5 x6 x7 x8)]⟩
 |_,_=>none
def qt:PF Tryz.prog:=PF.ofG Tryz.prog [qr,PF.lend qr,PF.fz qr] [gd.F] aq 155 Tryz.f155 Tryz.func155 (LOk.fnT (l:= [au Tryz.f155 0]) (by kernel_rfl) (.cons aik (.nil _))) aiS (by
 intro vs es r h;unfold aiS at h;split at h
 ·cases h;kernel_rfl
 ·cases h)
section
variable (x0 x1 x3:Int)(x4:List Int)(x5:List (Int×Int×Int))(x6:List (List Int))(x7:List (Int×Int×Int))
def sX:Bool:=Int.tmod (Option.getD x4[Int.toNat x3]? (0:Int)) (3:Int)!=(1:Int)
def Wq:Bool:= !aje x0 x4 (HO x0 x4 x5 (0:Int)) (HO x0 x4 x5 (1:Int)) x3
def PT:List Int:=Option.getD x6[Int.toNat x3]? (wu (CTy.sl (2:TypeId) axl))
def Jt:Int:=bif sX x3 x4 then(0:Int)else bif x1 !=(3:Int)then(1:Int)else bif Wq x0 x3 x4 x5 then(2:Int)else bif bif cv x0 x3 x4 then !aa7 (PT x3 x6) x7 else false then(3:Int)else(0:Int)
def Td:Bool:=allT [leI (0:Int) x3,ltI x3 (↑x4.length:Int),ltN x3.toNat x4.length,sX x3 x4||leI (0:Int) x3,sX x3 x4||ltI x3 (↑x6.length:Int),sX x3 x4||ltN x3.toNat x6.length,sX x3 x4||alG (PT x3 x6) x7,sX x3 x4||(x1 !=(3:Int)||isT x0 x4&&amk x0 x5),sX x3 x4||(x1 !=(3:Int)||aa6 x0 x4 (HO x0 x4 x5 (0:Int)) (HO x0 x4 x5 (1:Int)) x3),sX x3 x4||(x1 !=(3:Int)||(Wq x0 x3 x4 x5||qV x3 x4))]
end
def afx:List SV→List Entry→Option Out
 | [.one ⟨true,[.val (.int .i64 x0),.ref 0,.ref 1,.ref 2,.ref 3,.val (.int .i64 x1),.ref 4,.ref 5,.val (.int .i64 _x2)]⟩,.one ⟨false,[.val (.int .i64 x3)]⟩],[.row false 2 (.int .i64) x4,.row false 169 (.pair (.int .i64) (.pair (.int .i64) (.int .i64))) x5,.row false 24 (.sl 2 (.int .i64)) x6,.row false 100 (.pair (.int .i64) (.pair (.int .i64) (.int .i64))) x7,.row false 173 (.pair (.int .i64) (.int .i64)) x8,.row false 176 (.pair (.int .i64) (.int .i64)) x9]=>some ⟨(.one ⟨false,[(.val (.int .i64 (Jt x0 x1 x3 x4 x5 x6 x7)))]⟩),[(.row false 2 axl x4),(.row false 169 axj x5),(.row false 24 (CTy.sl (2:TypeId) axl) x6),(.row false 100 axj x7),(.row false 173 axk x8),(.row false 176 axk x9)],[],[(Td x0 x1 x3 x4 x5 x6 x7)]⟩
 |_,_=>none
def YC:PF Tryz.prog:=PF.ofG Tryz.prog [Yo,PF.lend Yo,PF.fz Yo,Sm,PF.lend Sm,PF.fz Sm,UE,PF.lend UE,PF.fz UE,gj,PF.lend gj,PF.fz gj] [] aq 177 Tryz.f177 Tryz.func177 (fun c _=>LOk.nil c) afx (by
 intro vs es r h;unfold afx at h;split at h
 ·cases h;kernel_rfl
 ·cases h)
section
variable (x0 x1 x2 x3 x4 x5 x6 x7 x8:Int)(x9:Bool)(x10:List Int)(x11:List (Int×Int×Int))(x12:List (List Int))(x13:List (Int×Int×Int))(x14 x15:List (Int×Int))
def kY:Bool:=Jt x0 x1 x4 x10 x11 x12 x13==(0:Int)
def gC:List Int:=Option.getD x12[Int.toNat x4]? (wu (CTy.sl (2:TypeId) axl))
def jQ:Bool:=vdC x1 x7 x8 x9 !=(0:Int)
def kZ:Bool:=bif x7==(1:Int)then !ams x14 x15 x2 else false
def NA:Int:=bif x3==(0:Int)then bif kY x0 x1 x4 x10 x11 x12 x13 then x0 else x0 else bif x3==(1:Int)then bif !cv x0 x4 x10 then x0 else bif !kK (gC x4 x12) x5 x6 then x0 else x0 else bif jQ x1 x7 x8 x9 then x0 else bif kZ x2 x7 x14 x15 then x0 else x0
def NB:Int:=bif x3==(0:Int)then bif kY x0 x1 x4 x10 x11 x12 x13 then x1 else x1 else bif x3==(1:Int)then bif !cv x0 x4 x10 then x1 else bif !kK (gC x4 x12) x5 x6 then x1 else x1 else bif jQ x1 x7 x8 x9 then x1 else bif kZ x2 x7 x14 x15 then x1 else nxC x1 x7 x8 x9
def NC:Int:=bif x3==(0:Int)then bif kY x0 x1 x4 x10 x11 x12 x13 then x2 else x2 else bif x3==(1:Int)then bif !cv x0 x4 x10 then x2 else bif !kK (gC x4 x12) x5 x6 then x2 else x2 else bif jQ x1 x7 x8 x9 then x2 else bif kZ x2 x7 x14 x15 then x2 else x2
def JS:Int:=bif x3==(0:Int)then bif kY x0 x1 x4 x10 x11 x12 x13 then Jt x0 x1 x4 x10 x11 x12 x13 else Jt x0 x1 x4 x10 x11 x12 x13 else bif x3==(1:Int)then bif !cv x0 x4 x10 then(4:Int)else bif !kK (gC x4 x12) x5 x6 then(5:Int)else(0:Int)else bif jQ x1 x7 x8 x9 then(6:Int)else bif kZ x2 x7 x14 x15 then(7:Int)else(0:Int)
def ND:List Int:=bif x3==(0:Int)then bif kY x0 x1 x4 x10 x11 x12 x13 then amu x0 x10 x4 else x10 else bif x3==(1:Int)then bif !cv x0 x4 x10 then x10 else bif !kK (gC x4 x12) x5 x6 then x10 else x10 else bif jQ x1 x7 x8 x9 then x10 else bif kZ x2 x7 x14 x15 then x10 else x10
def NE:List (Int×(Int×Int)):=bif x3==(0:Int)then bif kY x0 x1 x4 x10 x11 x12 x13 then x11 else x11 else bif x3==(1:Int)then bif !cv x0 x4 x10 then x11 else bif !kK (gC x4 x12) x5 x6 then x11 else x11 else bif jQ x1 x7 x8 x9 then x11 else bif kZ x2 x7 x14 x15 then x11 else x11
def NF:List (List Int):=bif x3==(0:Int)then bif kY x0 x1 x4 x10 x11 x12 x13 then lN x0 x1 x2 x10 x11 x12 x13 x14 x15 else lN x0 x1 x2 x10 x11 x12 x13 x14 x15 else bif x3==(1:Int)then bif !cv x0 x4 x10 then lN x0 x1 x2 x10 x11 x12 x13 x14 x15 else bif !kK (gC x4 x12) x5 x6 then lN x0 x1 x2 x10 x11 x12 x13 x14 x15 else List.set (lN x0 x1 x2 x10 x11 x12 x13 x14 x15) x4.toNat (Tg (gC x4 x12) x5 x6)else bif jQ x1 x7 x8 x9 then lN x0 x1 x2 x10 x11 x12 x13 x14 x15 else bif kZ x2 x7 x14 x15 then lN x0 x1 x2 x10 x11 x12 x13 x14 x15 else lN x0 x1 x2 x10 x11 x12 x13 x14 x15
def NG:List (Int×(Int×Int)):=bif x3==(0:Int)then bif kY x0 x1 x4 x10 x11 x12 x13 then x13 else x13 else bif x3==(1:Int)then bif !cv x0 x4 x10 then x13 else bif !kK (gC x4 x12) x5 x6 then x13 else x13 else bif jQ x1 x7 x8 x9 then x13 else bif kZ x2 x7 x14 x15 then x13 else x13
def NH:List (Int×Int):=bif x3==(0:Int)then bif kY x0 x1 x4 x10 x11 x12 x13 then x14 else x14 else bif x3==(1:Int)then bif !cv x0 x4 x10 then x14 else bif !kK (gC x4 x12) x5 x6 then x14 else x14 else bif jQ x1 x7 x8 x9 then x14 else bif kZ x2 x7 x14 x15 then x14 else x14
def NI:List (Int×Int):=bif x3==(0:Int)then bif kY x0 x1 x4 x10 x11 x12 x13 then x15 else x15 else bif x3==(1:Int)then bif !cv x0 x4 x10 then x15 else bif !kK (gC x4 x12) x5 x6 then x15 else x15 else bif jQ x1 x7 x8 x9 then x15 else bif kZ x2 x7 x14 x15 then x15 else x15
def PU:Bool:=allT [Ps x0 x1 x2 x10 x11 x12 x13 x14 x15,!x3==(0:Int)||Td x0 x1 x4 x10 x11 x12 x13,!x3==(0:Int)||(!kY x0 x1 x4 x10 x11 x12 x13||acz x0 x10 x4),x3==(0:Int)||(!x3==(1:Int)||leI (0:Int) x4),x3==(0:Int)||(!x3==(1:Int)||ltI x4 (↑x12.length:Int)),x3==(0:Int)||(!x3==(1:Int)||ltN x4.toNat x12.length),x3==(0:Int)||(!x3==(1:Int)||alK (gC x4 x12) x5 x6),x3==(0:Int)||(!x3==(1:Int)||qV x4 x10),x3==(0:Int)||(!x3==(1:Int)||(!cv x0 x4 x10||(!kK (gC x4 x12) x5 x6||leI (0:Int) x4))),x3==(0:Int)||(!x3==(1:Int)||(!cv x0 x4 x10||(!kK (gC x4 x12) x5 x6||ltI x4 (↑(List.length (lN x0 x1 x2 x10 x11 x12 x13 x14 x15)):Int)))),x3==(0:Int)||(!x3==(1:Int)||(!cv x0 x4 x10||(!kK (gC x4 x12) x5 x6||ltN x4.toNat (List.length (lN x0 x1 x2 x10 x11 x12 x13 x14 x15))))),x3==(0:Int)||(x3==(1:Int)||ae7 x1 x7),x3==(0:Int)||(x3==(1:Int)||(jQ x1 x7 x8 x9||(!(x7==(1:Int)&&true)||leN x14.length (9223372036854775807:Nat)&&leN x15.length (9223372036854775807:Nat)))),x3==(0:Int)||(x3==(1:Int)||(jQ x1 x7 x8 x9||(kZ x2 x7 x14 x15||ae7 x1 x7)))]
end
def afz:List SV→List Entry→Option Out
 | [.one ⟨true,[.val (.int .i64 x0),.ref 0,.ref 1,.ref 2,.ref 3,.val (.int .i64 x1),.ref 4,.ref 5,.val (.int .i64 x2)]⟩,.one ⟨true,[.val (.int .i64 x3),.val (.int .i64 x4),.val (.int .i64 x5),.val (.int .i64 x6),.val (.int .i64 x7),.val (.int .i64 x8),.val (.bool x9)]⟩],[.row false 2 (.int .i64) x10,.row false 169 (.pair (.int .i64) (.pair (.int .i64) (.int .i64))) x11,.row false 24 (.sl 2 (.int .i64)) x12,.row false 100 (.pair (.int .i64) (.pair (.int .i64) (.int .i64))) x13,.row false 173 (.pair (.int .i64) (.int .i64)) x14,.row false 176 (.pair (.int .i64) (.int .i64)) x15]=>some ⟨(.tup [⟨true,[(.val (.int .i64 (NA x0 x1 x2 x3 x4 x5 x6 x7 x8 x9 x10 x11 x12 x13 x14 x15))),(.ref 6),(.ref 7),(.ref 8),(.ref 9),(.val (.int .i64 (NB x0 x1 x2 x3 x4 x5 x6 x7 x8 x9 x10 x11 x12 x13 x14 x15))),(.ref 10),(.ref 11),(.val (.int .i64 (NC x0 x1 x2 x3 x4 x5 x6 x7 x8 x9 x10 x11 x12 x13 x14 x15)))]⟩,⟨false,[(.val (.int .i64 (JS x0 x1 x2 x3 x4 x5 x6 x7 x8 x9 x10 x11 x12 x13 x14 x15)))]⟩]),[(.row false 2 axl x10),(.row false 169 axj x11),(.row false 24 (CTy.sl (2:TypeId) axl) x12),(.row false 100 axj x13),(.row false 173 axk x14),(.row false 176 axk x15)],[(.row true 2 axl (ND x0 x1 x2 x3 x4 x5 x6 x7 x8 x9 x10 x11 x12 x13 x14 x15)),(.row true 169 axj (NE x0 x1 x2 x3 x4 x5 x6 x7 x8 x9 x10 x11 x12 x13 x14 x15)),(.row true 24 (CTy.sl (2:Nat) axl) (NF x0 x1 x2 x3 x4 x5 x6 x7 x8 x9 x10 x11 x12 x13 x14 x15)),(.row true 100 axj (NG x0 x1 x2 x3 x4 x5 x6 x7 x8 x9 x10 x11 x12 x13 x14 x15)),(.row true 173 axk (NH x0 x1 x2 x3 x4 x5 x6 x7 x8 x9 x10 x11 x12 x13 x14 x15)),(.row true 176 axk (NI x0 x1 x2 x3 x4 x5 x6 x7 x8 x9 x10 x11 x12 x13 x14 x15))],[(PU x0 x1 x2 x3 x4 x5 x6 x7 x8 x9 x10 x11 x12 x13 x14 x15)]⟩
 |_,_=>none
def uY:PF Tryz.prog:=PF.ofG Tryz.prog [qt,PF.lend qt,PF.fz qt,YC,PF.lend YC,PF.fz YC,Yq,PF.lend Yq,PF.fz Yq,Wj,PF.lend Wj,PF.fz Wj,als,Sl,PF.lend Sl,PF.fz Sl,aoQ,gj,PF.lend gj,PF.fz gj] [] aq 98 Tryz.f98 Tryz.func98 (fun c _=>LOk.nil c) afz (by
 intro vs es r h;unfold afz at h;split at h
 ·cases h;kernel_rfl
 ·cases h)
abbrev mZ:=Int×List (Int×(Int×((Int×Int)×(Int×(Int×Bool)))))×Int×Int×Int×Int×Int×Int×List Int×List (Int×(Int×Int))×List (List Int)×List (Int×(Int×Int))×List (Int×Int)×List (Int×Int)×List Int×List (Int×(Int×Int))×List (List Int)×List (Int×(Int×Int))×List (Int×Int)×List (Int×Int)
def Ay(y0:Int)(y1:List (Int×(Int×((Int×Int)×(Int×(Int×Bool)))))):Int×Int×(Int×Int)×Int×Int×Bool:=Option.getD y1[Int.toNat y0]? ((0:Int),(0:Int),((0:Int),(0:Int)),(0:Int),(0:Int),false)
def Az(y0:Int)(y1:List (Int×(Int×((Int×Int)×(Int×(Int×Bool)))))):Int:=(Ay y0 y1).1
def AA(y0:Int)(y1:List (Int×(Int×((Int×Int)×(Int×(Int×Bool)))))):Int×(Int×Int)×Int×Int×Bool:=(Ay y0 y1).2
def AB(y0:Int)(y1:List (Int×(Int×((Int×Int)×(Int×(Int×Bool)))))):Int:=(AA y0 y1).1
def rF(y0:Int)(y1:List (Int×(Int×((Int×Int)×(Int×(Int×Bool)))))):(Int×Int)×Int×Int×Bool:=(AA y0 y1).2
def AC(y0:Int)(y1:List (Int×(Int×((Int×Int)×(Int×(Int×Bool)))))):Int×Bool:=(rF y0 y1).2.2
def CW(y0:Int)(y1:List (Int×(Int×((Int×Int)×(Int×(Int×Bool)))))):Bool:=ltI y0 (↑y1.length:Int)
def JF(y0:Int):Bool:=leI (0:Int) y0
def JG(y0:Int)(y1:List (Int×(Int×((Int×Int)×(Int×(Int×Bool)))))):Bool:=ltN y0.toNat y1.length
def JH(y0:Int)(y1:List (Int×(Int×((Int×Int)×(Int×(Int×Bool))))))(y2 y3 y4:Int)(y8:List Int)(y9:List (Int×(Int×Int)))(y10:List (List Int))(y11:List (Int×(Int×Int)))(y12 y13:List (Int×Int)):Bool:=Gz y2 y3 y4 (Az y0 y1) (AB y0 y1) y8 y9 y10 y11 y12 y13
def JI(y0:Int)(y1:List (Int×(Int×((Int×Int)×(Int×(Int×Bool))))))(y2 y3 y4:Int)(y8:List Int)(y9:List (Int×(Int×Int)))(y10:List (List Int))(y11:List (Int×(Int×Int)))(y12 y13:List (Int×Int)):Bool:= !Av y2 y3 y4 (Az y0 y1) (AB y0 y1) ((rF y0 y1).1.1) ((rF y0 y1).1.2) (((rF y0 y1).2).1) ((AC y0 y1).1) ((AC y0 y1).2) y8 y9 y10 y11 y12 y13
def JJ(y0:Int):Int:=IntKind.wrap .i64 (y0 + (1:Int))
def akG:mZ→List (Nat×SV)
 |(y0,_,_,_,_,_,_,_,_,_,_,_,_,_,_,_,_,_,_,_)=> [(8,(.one ⟨false,[(.val (.int .i64 y0))]⟩)),(1,(.one ⟨false,[(.ref 0)]⟩)),(2,(.one ⟨false,[(.ptr 1 0)]⟩)),(4,(.one ⟨false,[(.ptr 2 0)]⟩))]
def akx:mZ→List (Nat×Entry)
 |(_,y1,y2,y3,y4,y5,y6,y7,y8,y9,y10,y11,y12,y13,y14,y15,y16,y17,y18,y19)=> [(0,(.row false 49 axi y1)),(1,(.box 33 [(.val (.int .i64 y2)),(.ref 3),(.ref 4),(.ref 5),(.ref 6),(.val (.int .i64 y3)),(.ref 7),(.ref 8),(.val (.int .i64 y4))])),(2,(.box 33 [(.val (.int .i64 y5)),(.ref 9),(.ref 10),(.ref 11),(.ref 12),(.val (.int .i64 y6)),(.ref 13),(.ref 14),(.val (.int .i64 y7))])),(3,(.row false 2 axl y8)),(4,(.row false 169 axj y9)),(5,(.row false 24 (CTy.sl (2:TypeId) axl) y10)),(6,(.row false 100 axj y11)),(7,(.row false 173 axk y12)),(8,(.row false 176 axk y13)),(9,(.row true 2 axl y14)),(10,(.row true 169 axj y15)),(11,(.row true 24 (CTy.sl (2:Nat) axl) y16)),(12,(.row true 100 axj y17)),(13,(.row true 173 axk y18)),(14,(.row true 176 axk y19))]
def akY:Nat→mZ→List (Nat×SV)
 |0,(_,_,_,_,_,_,_,_,_,_,_,_,_,_,_,_,_,_,_,_)=> [(5,(.one ⟨false,[(.ref 15)]⟩)),(6,(.one ⟨false,[(.val (.int .i64 (0:Int)))]⟩)),(7,(.one ⟨false,[(.val (.int .i64 (2:Int)))]⟩))]
 |_,(_,_,_,_,_,_,_,_,_,_,_,_,_,_,_,_,_,_,_,_)=> []
def akP:Nat→mZ→List (Nat×Entry)
 |0,(_,y1,y2,y3,y4,_,_,_,y8,y9,y10,y11,y12,y13,y14,y15,y16,y17,y18,y19)=> [(0,(.row false 49 axi y1)),(1,(.box 33 [(.val (.int .i64 y2)),(.ref 3),(.ref 4),(.ref 5),(.ref 6),(.val (.int .i64 y3)),(.ref 7),(.ref 8),(.val (.int .i64 y4))])),(2,(.box 33 [(.val (.int .i64 (0:Int))),(.ref 16),(.ref 17),(.ref 18),(.ref 19),(.val (.int .i64 (0:Int))),(.ref 20),(.ref 21),(.val (.int .i64 (0:Int)))])),(3,(.row false 2 axl y8)),(4,(.row false 169 axj y9)),(5,(.row false 24 (CTy.sl (2:TypeId) axl) y10)),(6,(.row false 100 axj y11)),(7,(.row false 173 axk y12)),(8,(.row false 176 axk y13)),(9,(.row true 2 axl y14)),(10,(.row true 169 axj y15)),(11,(.row true 24 (CTy.sl (2:Nat) axl) y16)),(12,(.row true 100 axj y17)),(13,(.row true 173 axk y18)),(14,(.row true 176 axk y19)),(15,(.row true 2 axl [])),(16,(.row true 2 axl [])),(17,(.row true 169 axj [])),(18,(.row true 24 (CTy.sl (2:Nat) axl) [])),(19,(.row true 100 axj [])),(20,(.row true 173 axk [])),(21,(.row true 176 axk []))]
 |_,(_,y1,y2,y3,y4,y5,y6,y7,y8,y9,y10,y11,y12,y13,y14,y15,y16,y17,y18,y19)=> [(0,(.row false 49 axi y1)),(1,(.box 33 [(.val (.int .i64 y2)),(.ref 3),(.ref 4),(.ref 5),(.ref 6),(.val (.int .i64 y3)),(.ref 7),(.ref 8),(.val (.int .i64 y4))])),(2,(.box 33 [(.val (.int .i64 y5)),(.ref 9),(.ref 10),(.ref 11),(.ref 12),(.val (.int .i64 y6)),(.ref 13),(.ref 14),(.val (.int .i64 y7))])),(3,(.row false 2 axl y8)),(4,(.row false 169 axj y9)),(5,(.row false 24 (CTy.sl (2:TypeId) axl) y10)),(6,(.row false 100 axj y11)),(7,(.row false 173 axk y12)),(8,(.row false 176 axk y13)),(9,(.row true 2 axl y14)),(10,(.row true 169 axj y15)),(11,(.row true 24 (CTy.sl (2:Nat) axl) y16)),(12,(.row true 100 axj y17)),(13,(.row true 173 axk y18)),(14,(.row true 176 axk y19))]
def Gu:mZ→LT mZ
 |(y0,y1,y2,y3,y4,y5,y6,y7,y8,y9,y10,y11,y12,y13,y14,y15,y16,y17,y18,y19)=> .ite (CW y0 y1) (.need [(JF y0),(CW y0 y1),(JG y0 y1),(JH y0 y1 y2 y3 y4 y8 y9 y10 y11 y12 y13)] (.ite (JI y0 y1 y2 y3 y4 y8 y9 y10 y11 y12 y13) (.ext 0 [(0,0),(1,1),(2,2),(3,3),(4,4),(5,5),(6,6),(7,7),(8,8),(9,9),(10,10),(11,11),(12,12),(13,13),(14,14),(15,896),(16,768),(17,769),(18,770),(19,771),(20,772),(21,773)]) (.nrm ((JJ y0),y1,y2,y3,y4,y5,y6,y7,y8,y9,y10,y11,y12,y13,y14,y15,y16,y17,y18,y19) [(0,0),(1,1),(2,2),(3,3),(4,4),(5,5),(6,6),(7,7),(8,8),(9,9),(10,10),(11,11),(12,12),(13,13),(14,14)]))) (.ext 1 [(0,0),(1,1),(2,2),(3,3),(4,4),(5,5),(6,6),(7,7),(8,8),(9,9),(10,10),(11,11),(12,12),(13,13),(14,14)])
def SJ(s:St):Option mZ:=
 (match s.look 8 with
 |some ⟨none,(.one ⟨false,[(.val (.int .i64 y0))]⟩)⟩=>
 (match s.look 1 with
 |some ⟨none,(.one ⟨false,[(.ref 6)]⟩)⟩=>
 (match s.look 2 with
 |some ⟨none,(.one ⟨false,[(.ptr 512 0)]⟩)⟩=>
 (match s.look 4 with
 |some ⟨none,(.one ⟨false,[(.ptr 576 0)]⟩)⟩=>
 (match s.ent 6 with
 |some (.row false 49 (.pair (.int .i64) (.pair (.int .i64) (.pair (.pair (.int .i64) (.int .i64)) (.pair (.int .i64) (.pair (.int .i64) .bool))))) y1)=>
 (match s.ent 512 with
 |some (.box 33 [(.val (.int .i64 y2)),(.ref 0),(.ref 1),(.ref 2),(.ref 3),(.val (.int .i64 y3)),(.ref 4),(.ref 5),(.val (.int .i64 y4))])=>
 (match s.ent 576 with
 |some (.box 33 [(.val (.int .i64 y5)),(.ref 577),(.ref 578),(.ref 579),(.ref 580),(.val (.int .i64 y6)),(.ref 581),(.ref 582),(.val (.int .i64 y7))])=>
 (match s.ent 0 with
 |some (.row false 2 (.int .i64) y8)=>
 (match s.ent 1 with
 |some (.row false 169 (.pair (.int .i64) (.pair (.int .i64) (.int .i64))) y9)=>
 (match s.ent 2 with
 |some (.row false 24 (.sl 2 (.int .i64)) y10)=>
 (match s.ent 3 with
 |some (.row false 100 (.pair (.int .i64) (.pair (.int .i64) (.int .i64))) y11)=>
 (match s.ent 4 with
 |some (.row false 173 (.pair (.int .i64) (.int .i64)) y12)=>
 (match s.ent 5 with
 |some (.row false 176 (.pair (.int .i64) (.int .i64)) y13)=>
 (match s.ent 577 with
 |some (.row true 2 (.int .i64) y14)=>
 (match s.ent 578 with
 |some (.row true 169 (.pair (.int .i64) (.pair (.int .i64) (.int .i64))) y15)=>
 (match s.ent 579 with
 |some (.row true 24 (.sl 2 (.int .i64)) y16)=>
 (match s.ent 580 with
 |some (.row true 100 (.pair (.int .i64) (.pair (.int .i64) (.int .i64))) y17)=>
 (match s.ent 581 with
 |some (.row true 173 (.pair (.int .i64) (.int .i64)) y18)=>
 (match s.ent 582 with
 |some (.row true 176 (.pair (.int .i64) (.int .i64)) y19)=>
 some (y0,y1,y2,y3,y4,y5,y6,y7,y8,y9,y10,y11,y12,y13,y14,y15,y16,y17,y18,y19)
 |_=>none)
 |_=>none)
 |_=>none)
 |_=>none)
 |_=>none)
 |_=>none)
 |_=>none)
 |_=>none)
 |_=>none)
 |_=>none)
 |_=>none)
 |_=>none)
 |_=>none)
 |_=>none)
 |_=>none)
 |_=>none)
 |_=>none)
 |_=>none)
 |_=>none)
def eM:Lp mZ where
 h:=⟨[23,24,25,26,29,30,31,32,33,34,35,36,5,6,7,27,28,8],[0,1,2,3,4,5,6,7,8,9,10,11,12,13,14],[],[15,16,17,18,19,20,21]⟩
 JL:=akG
 JE:=akx
 XL:=akY
 XE:=akP
 q:=fun j=>match j with | 0=> .ret | _=> .exit 0
 tags:= [0,1]
 lt:=Gu
 fuel:=fun(y0,y1,y2,y3,y4,y5,y6,y7,y8,y9,y10,y11,y12,y13,y14,y15,y16,y17,y18,y19)=>y0.natAbs + y1.length + y2.natAbs + y3.natAbs + y4.natAbs + y5.natAbs + y6.natAbs + y7.natAbs + y8.length + y9.length + y10.length + y11.length + y12.length + y13.length + y14.length + y15.length + y16.length + y17.length + y18.length + y19.length
 fix:=fun(_,y1,y2,y3,y4,y5,y6,y7,y8,y9,y10,y11,y12,y13,y14,y15,y16,y17,y18,y19) (y0,_,_,_,_,_,_,_,_,_,_,_,_,_,_,_,_,_,_,_)=>(y0,y1,y2,y3,y4,y5,y6,y7,y8,y9,y10,y11,y12,y13,y14,y15,y16,y17,y18,y19)
 σ:= [(0,6),(1,512),(2,576),(3,0),(4,1),(5,2),(6,3),(7,4),(8,5),(9,577),(10,578),(11,579),(12,580),(13,581),(14,582)]
 rd:=SJ
theorem ail:LoopOk Tryz.prog (fun k=>Nat.blt k Tryz.f57.ntmps) eM.F (au Tryz.f57 0):=by
 refine Lp.ok (tbl:= [qt,PF.lend qt,PF.fz qt,qq,PF.lend qq,PF.fz qq,oi,PF.lend oi,PF.fz oi,gj,PF.lend gj,PF.fz gj,uY,PF.lend uY,PF.fz uY]) (lf:= []) aq eM (by kernel_rfl) (LOk.nil _) (fun _=>rfl) (fun j _=>by unfold eM;match j with | 0=>rfl | _ + 1=>rfl) ?_ ?_ ?_ ?_ (fun _=>rfl) ?_
 ·rintro⟨y0,y1,y2,y3,y4,y5,y6,y7,y8,y9,y10,y11,y12,y13,y14,y15,y16,y17,y18,y19⟩;kernel_rfl
 ·rintro⟨y0,y1,y2,y3,y4,y5,y6,y7,y8,y9,y10,y11,y12,y13,y14,y15,y16,y17,y18,y19⟩;kernel_rfl
 ·intro s x h
  have h:SJ s=some x:=h
  unfold SJ at h
  repeat' split at h
  all_goals cases h
  exact⟨aa (by assumption) rfl (aa (by assumption) rfl (aa (by assumption) rfl (aa (by assumption) rfl (rfl)))),ab rfl (by assumption) rfl (ab rfl (by assumption) rfl (ab rfl (by assumption) rfl (ab rfl (by assumption) rfl (ab rfl (by assumption) rfl (ab rfl (by assumption) rfl (ab rfl (by assumption) rfl (ab rfl (by assumption) rfl (ab rfl (by assumption) rfl (ab rfl (by assumption) rfl (ab rfl (by assumption) rfl (ab rfl (by assumption) rfl (ab rfl (by assumption) rfl (ab rfl (by assumption) rfl (ab rfl (by assumption) rfl (rfl)))))))))))))))⟩
 ·rintro⟨y0,y1,y2,y3,y4,y5,y6,y7,y8,y9,y10,y11,y12,y13,y14,y15,y16,y17,y18,y19⟩;kernel_rfl
 ·rintro⟨y0,y1,y2,y3,y4,y5,y6,y7,y8,y9,y10,y11,y12,y13,y14,y15,y16,y17,y18,y19⟩ z;exact(And.intro (And.intro trivial rfl) trivial)
abbrev m0:=Int×Int×List (Int×(Int×((Int×Int)×(Int×(Int×Bool)))))×Int×Int×Int×List Int×List Int×List (Int×(Int×Int))×List (List Int)×List (Int×(Int×Int))×List (Int×Int)×List (Int×Int)
def AD(y0:Int)(y2:List (Int×(Int×((Int×Int)×(Int×(Int×Bool)))))):Bool:=ltI y0 (↑y2.length:Int)
def AE(y0:Int)(y2:List (Int×(Int×((Int×Int)×(Int×(Int×Bool)))))):Bool:=ltN y0.toNat y2.length
def AF(y0:Int)(y2:List (Int×(Int×((Int×Int)×(Int×(Int×Bool)))))):Int×Int×(Int×Int)×Int×Int×Bool:=Option.getD y2[Int.toNat y0]? ((0:Int),(0:Int),((0:Int),(0:Int)),(0:Int),(0:Int),false)
def dV(y0:Int)(y2:List (Int×(Int×((Int×Int)×(Int×(Int×Bool)))))):Int:=(AF y0 y2).1
def AG(y0:Int)(y2:List (Int×(Int×((Int×Int)×(Int×(Int×Bool)))))):Int×(Int×Int)×Int×Int×Bool:=(AF y0 y2).2
def dl(y0:Int)(y2:List (Int×(Int×((Int×Int)×(Int×(Int×Bool)))))):Int:=(AG y0 y2).1
def rG(y0:Int)(y2:List (Int×(Int×((Int×Int)×(Int×(Int×Bool)))))):(Int×Int)×Int×Int×Bool:=(AG y0 y2).2
def eZ(y0:Int)(y2:List (Int×(Int×((Int×Int)×(Int×(Int×Bool)))))):Int:=(rG y0 y2).1.1
def fa(y0:Int)(y2:List (Int×(Int×((Int×Int)×(Int×(Int×Bool)))))):Int:=(rG y0 y2).1.2
def fb(y0:Int)(y2:List (Int×(Int×((Int×Int)×(Int×(Int×Bool)))))):Int:=((rG y0 y2).2).1
def aT(y0:Int)(y2:List (Int×(Int×((Int×Int)×(Int×(Int×Bool)))))):Int×Bool:=(rG y0 y2).2.2
def xT(y0:Int)(y2:List (Int×(Int×((Int×Int)×(Int×(Int×Bool))))))(y3 y4 y5:Int)(y7:List Int)(y8:List (Int×(Int×Int)))(y9:List (List Int))(y10:List (Int×(Int×Int)))(y11 y12:List (Int×Int)):Int:=JS y3 y4 y5 (dV y0 y2) (dl y0 y2) (eZ y0 y2) (fa y0 y2) (fb y0 y2) ((aT y0 y2).1) ((aT y0 y2).2) y7 y8 y9 y10 y11 y12
def xU(y0:Int)(y2:List (Int×(Int×((Int×Int)×(Int×(Int×Bool))))))(y3 y4 y5:Int)(y7:List Int)(y8:List (Int×(Int×Int)))(y9:List (List Int))(y10:List (Int×(Int×Int)))(y11 y12:List (Int×Int)):Bool:=bif dV y0 y2==(0:Int)then xT y0 y2 y3 y4 y5 y7 y8 y9 y10 y11 y12==(0:Int)else false
def qj(y0:Int)(y2:List (Int×(Int×((Int×Int)×(Int×(Int×Bool))))))(y3 y4 y5:Int)(y7:List Int)(y8:List (Int×(Int×Int)))(y9:List (List Int))(y10:List (Int×(Int×Int)))(y11 y12:List (Int×Int)):Bool:= !(xU y0 y2 y3 y4 y5 y7 y8 y9 y10 y11 y12&&true)
def tk(y0:Int)(y2:List (Int×(Int×((Int×Int)×(Int×(Int×Bool))))))(y3 y4 y5:Int)(y7:List Int)(y8:List (Int×(Int×Int)))(y9:List (List Int))(y10:List (Int×(Int×Int)))(y11 y12:List (Int×Int)):List Int:= [xT y0 y2 y3 y4 y5 y7 y8 y9 y10 y11 y12]
def xS(y0:Int)(y2:List (Int×(Int×((Int×Int)×(Int×(Int×Bool)))))):Bool:=AD y0 y2
def CX(y0:Int):Bool:=leI (0:Int) y0
def CY(y0:Int)(y2:List (Int×(Int×((Int×Int)×(Int×(Int×Bool)))))):Bool:=AE y0 y2
def JK(y0:Int)(y2:List (Int×(Int×((Int×Int)×(Int×(Int×Bool))))))(y3 y4 y5:Int)(y7:List Int)(y8:List (Int×(Int×Int)))(y9:List (List Int))(y10:List (Int×(Int×Int)))(y11 y12:List (Int×Int)):Bool:=PU y3 y4 y5 (dV y0 y2) (dl y0 y2) (eZ y0 y2) (fa y0 y2) (fb y0 y2) ((aT y0 y2).1) ((aT y0 y2).2) y7 y8 y9 y10 y11 y12
def JM(y0:Int)(y2:List (Int×(Int×((Int×Int)×(Int×(Int×Bool))))))(y3 y4 y5:Int)(y7:List Int)(y8:List (Int×(Int×Int)))(y9:List (List Int))(y10:List (Int×(Int×Int)))(y11 y12:List (Int×Int)):Bool:=qj y0 y2 y3 y4 y5 y7 y8 y9 y10 y11 y12||leI (0:Int) y0
def JN(y0:Int)(y2:List (Int×(Int×((Int×Int)×(Int×(Int×Bool))))))(y3 y4 y5:Int)(y7:List Int)(y8:List (Int×(Int×Int)))(y9:List (List Int))(y10:List (Int×(Int×Int)))(y11 y12:List (Int×Int)):Bool:=qj y0 y2 y3 y4 y5 y7 y8 y9 y10 y11 y12||AD y0 y2
def JO(y0:Int)(y2:List (Int×(Int×((Int×Int)×(Int×(Int×Bool))))))(y3 y4 y5:Int)(y7:List Int)(y8:List (Int×(Int×Int)))(y9:List (List Int))(y10:List (Int×(Int×Int)))(y11 y12:List (Int×Int)):Bool:=qj y0 y2 y3 y4 y5 y7 y8 y9 y10 y11 y12||AE y0 y2
def JP(y0:Int)(y2:List (Int×(Int×((Int×Int)×(Int×(Int×Bool))))))(y3 y4 y5:Int)(y7:List Int)(y8:List (Int×(Int×Int)))(y9:List (List Int))(y10:List (Int×(Int×Int)))(y11 y12:List (Int×Int)):Bool:=qj y0 y2 y3 y4 y5 y7 y8 y9 y10 y11 y12||qV (dl y0 y2) y7
def JQ(y0:Int)(y2:List (Int×(Int×((Int×Int)×(Int×(Int×Bool))))))(y3 y4 y5:Int)(y6 y7:List Int)(y8:List (Int×(Int×Int)))(y9:List (List Int))(y10:List (Int×(Int×Int)))(y11 y12:List (Int×Int)):Bool:=leN (List.length y6 + List.length (tk y0 y2 y3 y4 y5 y7 y8 y9 y10 y11 y12)) (9223372036854775807:Nat)
def JR(y0:Int)(y2:List (Int×(Int×((Int×Int)×(Int×(Int×Bool))))))(y3 y4 y5:Int)(y6 y7:List Int)(y8:List (Int×(Int×Int)))(y9:List (List Int))(y10:List (Int×(Int×Int)))(y11 y12:List (Int×Int)):Bool:=leN ((List.length y6 + List.length (tk y0 y2 y3 y4 y5 y7 y8 y9 y10 y11 y12)) * (8:Nat)) (140737488355328:Nat)
def GV(y0:Int):Int:=IntKind.wrap .i64 (y0 + (1:Int))
def GW(y0 y1:Int)(y2:List (Int×(Int×((Int×Int)×(Int×(Int×Bool))))))(y3 y4 y5:Int)(y7:List Int)(y8:List (Int×(Int×Int)))(y9:List (List Int))(y10:List (Int×(Int×Int)))(y11 y12:List (Int×Int)):Int:=bif bif xU y0 y2 y3 y4 y5 y7 y8 y9 y10 y11 y12 then cv y3 (dl y0 y2) y7 else false then IntKind.wrap .i64 (y1 + (1:Int))else y1
def GX(y0:Int)(y2:List (Int×(Int×((Int×Int)×(Int×(Int×Bool))))))(y3 y4 y5:Int)(y7:List Int)(y8:List (Int×(Int×Int)))(y9:List (List Int))(y10:List (Int×(Int×Int)))(y11 y12:List (Int×Int)):Int:=NA y3 y4 y5 (dV y0 y2) (dl y0 y2) (eZ y0 y2) (fa y0 y2) (fb y0 y2) ((aT y0 y2).1) ((aT y0 y2).2) y7 y8 y9 y10 y11 y12
def GY(y0:Int)(y2:List (Int×(Int×((Int×Int)×(Int×(Int×Bool))))))(y3 y4 y5:Int)(y7:List Int)(y8:List (Int×(Int×Int)))(y9:List (List Int))(y10:List (Int×(Int×Int)))(y11 y12:List (Int×Int)):Int:=NB y3 y4 y5 (dV y0 y2) (dl y0 y2) (eZ y0 y2) (fa y0 y2) (fb y0 y2) ((aT y0 y2).1) ((aT y0 y2).2) y7 y8 y9 y10 y11 y12
def GZ(y0:Int)(y2:List (Int×(Int×((Int×Int)×(Int×(Int×Bool))))))(y3 y4 y5:Int)(y7:List Int)(y8:List (Int×(Int×Int)))(y9:List (List Int))(y10:List (Int×(Int×Int)))(y11 y12:List (Int×Int)):Int:=NC y3 y4 y5 (dV y0 y2) (dl y0 y2) (eZ y0 y2) (fa y0 y2) (fb y0 y2) ((aT y0 y2).1) ((aT y0 y2).2) y7 y8 y9 y10 y11 y12
def Ha(y0:Int)(y2:List (Int×(Int×((Int×Int)×(Int×(Int×Bool))))))(y3 y4 y5:Int)(y6 y7:List Int)(y8:List (Int×(Int×Int)))(y9:List (List Int))(y10:List (Int×(Int×Int)))(y11 y12:List (Int×Int)):List Int:=y6++tk y0 y2 y3 y4 y5 y7 y8 y9 y10 y11 y12
def Hb(y0:Int)(y2:List (Int×(Int×((Int×Int)×(Int×(Int×Bool))))))(y3 y4 y5:Int)(y7:List Int)(y8:List (Int×(Int×Int)))(y9:List (List Int))(y10:List (Int×(Int×Int)))(y11 y12:List (Int×Int)):List Int:=ND y3 y4 y5 (dV y0 y2) (dl y0 y2) (eZ y0 y2) (fa y0 y2) (fb y0 y2) ((aT y0 y2).1) ((aT y0 y2).2) y7 y8 y9 y10 y11 y12
def Hc(y0:Int)(y2:List (Int×(Int×((Int×Int)×(Int×(Int×Bool))))))(y3 y4 y5:Int)(y7:List Int)(y8:List (Int×(Int×Int)))(y9:List (List Int))(y10:List (Int×(Int×Int)))(y11 y12:List (Int×Int)):List (Int×(Int×Int)):=NE y3 y4 y5 (dV y0 y2) (dl y0 y2) (eZ y0 y2) (fa y0 y2) (fb y0 y2) ((aT y0 y2).1) ((aT y0 y2).2) y7 y8 y9 y10 y11 y12
def Hd(y0:Int)(y2:List (Int×(Int×((Int×Int)×(Int×(Int×Bool))))))(y3 y4 y5:Int)(y7:List Int)(y8:List (Int×(Int×Int)))(y9:List (List Int))(y10:List (Int×(Int×Int)))(y11 y12:List (Int×Int)):List (List Int):=NF y3 y4 y5 (dV y0 y2) (dl y0 y2) (eZ y0 y2) (fa y0 y2) (fb y0 y2) ((aT y0 y2).1) ((aT y0 y2).2) y7 y8 y9 y10 y11 y12
def He(y0:Int)(y2:List (Int×(Int×((Int×Int)×(Int×(Int×Bool))))))(y3 y4 y5:Int)(y7:List Int)(y8:List (Int×(Int×Int)))(y9:List (List Int))(y10:List (Int×(Int×Int)))(y11 y12:List (Int×Int)):List (Int×(Int×Int)):=NG y3 y4 y5 (dV y0 y2) (dl y0 y2) (eZ y0 y2) (fa y0 y2) (fb y0 y2) ((aT y0 y2).1) ((aT y0 y2).2) y7 y8 y9 y10 y11 y12
def Hf(y0:Int)(y2:List (Int×(Int×((Int×Int)×(Int×(Int×Bool))))))(y3 y4 y5:Int)(y7:List Int)(y8:List (Int×(Int×Int)))(y9:List (List Int))(y10:List (Int×(Int×Int)))(y11 y12:List (Int×Int)):List (Int×Int):=NH y3 y4 y5 (dV y0 y2) (dl y0 y2) (eZ y0 y2) (fa y0 y2) (fb y0 y2) ((aT y0 y2).1) ((aT y0 y2).2) y7 y8 y9 y10 y11 y12
def Hg(y0:Int)(y2:List (Int×(Int×((Int×Int)×(Int×(Int×Bool))))))(y3 y4 y5:Int)(y7:List Int)(y8:List (Int×(Int×Int)))(y9:List (List Int))(y10:List (Int×(Int×Int)))(y11 y12:List (Int×Int)):List (Int×Int):=NI y3 y4 y5 (dV y0 y2) (dl y0 y2) (eZ y0 y2) (fa y0 y2) (fb y0 y2) ((aT y0 y2).1) ((aT y0 y2).2) y7 y8 y9 y10 y11 y12
def akH:m0→List (Nat×SV)
 |(y0,y1,_,_,_,_,_,_,_,_,_,_,_)=> [(12,(.one ⟨false,[(.val (.int .i64 y0))]⟩)),(1,(.one ⟨false,[(.ref 0)]⟩)),(9,(.one ⟨false,[(.ptr 1 0)]⟩)),(11,(.one ⟨false,[(.val (.int .i64 y1))]⟩)),(10,(.one ⟨false,[(.ref 2)]⟩))]
def aky:m0→List (Nat×Entry)
 |(_,_,y2,y3,y4,y5,y6,y7,y8,y9,y10,y11,y12)=> [(0,(.row false 49 axi y2)),(1,(.box 33 [(.val (.int .i64 y3)),(.ref 3),(.ref 4),(.ref 5),(.ref 6),(.val (.int .i64 y4)),(.ref 7),(.ref 8),(.val (.int .i64 y5))])),(2,(.row true 2 axl y6)),(3,(.row true 2 axl y7)),(4,(.row true 169 axj y8)),(5,(.row true 24 (CTy.sl (2:Nat) axl) y9)),(6,(.row true 100 axj y10)),(7,(.row true 173 axk y11)),(8,(.row true 176 axk y12))]
def akZ:Nat→m0→List (Nat×SV)
 |_,(_,y1,_,_,_,_,_,_,_,_,_,_,_)=> [(11,(.one ⟨false,[(.val (.int .i64 y1))]⟩)),(10,(.one ⟨false,[(.ref 2)]⟩))]
def akQ:Nat→m0→List (Nat×Entry)
 |_,(_,_,y2,y3,y4,y5,y6,y7,y8,y9,y10,y11,y12)=> [(0,(.row false 49 axi y2)),(1,(.box 33 [(.val (.int .i64 y3)),(.ref 3),(.ref 4),(.ref 5),(.ref 6),(.val (.int .i64 y4)),(.ref 7),(.ref 8),(.val (.int .i64 y5))])),(2,(.row true 2 axl y6)),(3,(.row true 2 axl y7)),(4,(.row true 169 axj y8)),(5,(.row true 24 (CTy.sl (2:Nat) axl) y9)),(6,(.row true 100 axj y10)),(7,(.row true 173 axk y11)),(8,(.row true 176 axk y12))]
def Gv:m0→LT m0
 |(y0,y1,y2,y3,y4,y5,y6,y7,y8,y9,y10,y11,y12)=> .ite (xS y0 y2) (.need [(CX y0),(xS y0 y2),(CY y0 y2),(JK y0 y2 y3 y4 y5 y7 y8 y9 y10 y11 y12)] (.need [(CX y0),(xS y0 y2),(CY y0 y2),(JM y0 y2 y3 y4 y5 y7 y8 y9 y10 y11 y12),(JN y0 y2 y3 y4 y5 y7 y8 y9 y10 y11 y12),(JO y0 y2 y3 y4 y5 y7 y8 y9 y10 y11 y12),(JP y0 y2 y3 y4 y5 y7 y8 y9 y10 y11 y12)] (.need [(JQ y0 y2 y3 y4 y5 y6 y7 y8 y9 y10 y11 y12),(JR y0 y2 y3 y4 y5 y6 y7 y8 y9 y10 y11 y12)] (.nrm ((GV y0),(GW y0 y1 y2 y3 y4 y5 y7 y8 y9 y10 y11 y12),y2,(GX y0 y2 y3 y4 y5 y7 y8 y9 y10 y11 y12),(GY y0 y2 y3 y4 y5 y7 y8 y9 y10 y11 y12),(GZ y0 y2 y3 y4 y5 y7 y8 y9 y10 y11 y12),(Ha y0 y2 y3 y4 y5 y6 y7 y8 y9 y10 y11 y12),(Hb y0 y2 y3 y4 y5 y7 y8 y9 y10 y11 y12),(Hc y0 y2 y3 y4 y5 y7 y8 y9 y10 y11 y12),(Hd y0 y2 y3 y4 y5 y7 y8 y9 y10 y11 y12),(He y0 y2 y3 y4 y5 y7 y8 y9 y10 y11 y12),(Hf y0 y2 y3 y4 y5 y7 y8 y9 y10 y11 y12),(Hg y0 y2 y3 y4 y5 y7 y8 y9 y10 y11 y12)) [(0,0),(1,1),(2,2816),(3,640),(4,641),(5,642),(6,643),(7,644),(8,645)])))) (.ext 0 [(0,0),(1,1),(2,2),(3,3),(4,4),(5,5),(6,6),(7,7),(8,8)])
def SK(s:St):Option m0:=
 (match s.look 12 with
 |some ⟨none,(.one ⟨false,[(.val (.int .i64 y0))]⟩)⟩=>
 (match s.look 1 with
 |some ⟨none,(.one ⟨false,[(.ref 6)]⟩)⟩=>
 (match s.look 9 with
 |some ⟨none,(.one ⟨false,[(.ptr 1536 0)]⟩)⟩=>
 (match s.look 11 with
 |some ⟨none,(.one ⟨false,[(.val (.int .i64 y1))]⟩)⟩=>
 (match s.look 10 with
 |some ⟨none,(.one ⟨false,[(.ref 1472)]⟩)⟩=>
 (match s.ent 6 with
 |some (.row false 49 (.pair (.int .i64) (.pair (.int .i64) (.pair (.pair (.int .i64) (.int .i64)) (.pair (.int .i64) (.pair (.int .i64) .bool))))) y2)=>
 (match s.ent 1536 with
 |some (.box 33 [(.val (.int .i64 y3)),(.ref 1408),(.ref 1409),(.ref 1410),(.ref 1411),(.val (.int .i64 y4)),(.ref 1412),(.ref 1413),(.val (.int .i64 y5))])=>
 (match s.ent 1472 with
 |some (.row true 2 (.int .i64) y6)=>
 (match s.ent 1408 with
 |some (.row true 2 (.int .i64) y7)=>
 (match s.ent 1409 with
 |some (.row true 169 (.pair (.int .i64) (.pair (.int .i64) (.int .i64))) y8)=>
 (match s.ent 1410 with
 |some (.row true 24 (.sl 2 (.int .i64)) y9)=>
 (match s.ent 1411 with
 |some (.row true 100 (.pair (.int .i64) (.pair (.int .i64) (.int .i64))) y10)=>
 (match s.ent 1412 with
 |some (.row true 173 (.pair (.int .i64) (.int .i64)) y11)=>
 (match s.ent 1413 with
 |some (.row true 176 (.pair (.int .i64) (.int .i64)) y12)=>
 some (y0,y1,y2,y3,y4,y5,y6,y7,y8,y9,y10,y11,y12)
 |_=>none)
 |_=>none)
 |_=>none)
 |_=>none)
 |_=>none)
 |_=>none)
 |_=>none)
 |_=>none)
 |_=>none)
 |_=>none)
 |_=>none)
 |_=>none)
 |_=>none)
 |_=>none)
def eN:Lp m0 where
 h:=⟨[40,41,42,43,47,48,49,50,51,52,46,53,54,13,14,55,56,57,58,59,60,61,62,63,64,65,66,67,68,69,70,71,72,73,74,75,11,76,77,78,79,80,10,44,45,12],[0,1],[2,3,4,5,6,7,8],[]⟩
 JL:=akH
 JE:=aky
 XL:=akZ
 XE:=akQ
 q:=fun j=>match j with | _=> .exit 2
 tags:= [0]
 lt:=Gv
 fuel:=fun(y0,y1,y2,y3,y4,y5,y6,y7,y8,y9,y10,y11,y12)=>y0.natAbs + y1.natAbs + y2.length + y3.natAbs + y4.natAbs + y5.natAbs + y6.length + y7.length + y8.length + y9.length + y10.length + y11.length + y12.length
 fix:=fun(_,_,y2,_,_,_,_,_,_,_,_,_,_) (y0,y1,_,y3,y4,y5,y6,y7,y8,y9,y10,y11,y12)=>(y0,y1,y2,y3,y4,y5,y6,y7,y8,y9,y10,y11,y12)
 σ:= [(0,6),(1,1536),(2,1472),(3,1408),(4,1409),(5,1410),(6,1411),(7,1412),(8,1413)]
 rd:=SK
theorem aim:LoopOk Tryz.prog (fun k=>Nat.blt k Tryz.f57.ntmps) eN.F (au Tryz.f57 1):=by
 refine Lp.ok (tbl:= [qt,PF.lend qt,PF.fz qt,qq,PF.lend qq,PF.fz qq,oi,PF.lend oi,PF.fz oi,gj,PF.lend gj,PF.fz gj,uY,PF.lend uY,PF.fz uY]) (lf:= []) aq eN (by kernel_rfl) (LOk.nil _) (fun _=>rfl) (fun _ _=>rfl) ?_ ?_ ?_ ?_ (fun _=>rfl) ?_
 ·rintro⟨y0,y1,y2,y3,y4,y5,y6,y7,y8,y9,y10,y11,y12⟩;kernel_rfl
 ·rintro⟨y0,y1,y2,y3,y4,y5,y6,y7,y8,y9,y10,y11,y12⟩;kernel_rfl
 ·intro s x h
  have h:SK s=some x:=h
  unfold SK at h
  repeat' split at h
  all_goals cases h
  exact⟨aa (by assumption) rfl (aa (by assumption) rfl (aa (by assumption) rfl (aa (by assumption) rfl (aa (by assumption) rfl (rfl))))),ab rfl (by assumption) rfl (ab rfl (by assumption) rfl (ab rfl (by assumption) rfl (ab rfl (by assumption) rfl (ab rfl (by assumption) rfl (ab rfl (by assumption) rfl (ab rfl (by assumption) rfl (ab rfl (by assumption) rfl (ab rfl (by assumption) rfl (rfl)))))))))⟩
 ·rintro⟨y0,y1,y2,y3,y4,y5,y6,y7,y8,y9,y10,y11,y12⟩;kernel_rfl
 ·rintro⟨y0,y1,y2,y3,y4,y5,y6,y7,y8,y9,y10,y11,y12⟩ z;exact(And.intro rfl trivial)
section
variable (x0 x1 x2:Int)(x3:List Int)(x4:List (Int×Int×Int))(x5:List (List Int))(x6:List (Int×Int×Int))(x7 x8:List (Int×Int))(x9:List (Int×Int×(Int×Int)×Int×Int×Bool))
def ip:Bool:=ltI (200:Int) (↑x9.length:Int)
def Tf:Int×List (Int×Int×(Int×Int)×Int×Int×Bool)×Int×Int×Int×Int×Int×Int×List Int×List (Int×Int×Int)×List (List Int)×List (Int×Int×Int)×List (Int×Int)×List (Int×Int)×List Int×List (Int×Int×Int)×List (List Int)×List (Int×Int×Int)×List (Int×Int)×List (Int×Int):=((0:Int),x9,x0,x1,x2,(0:Int),(0:Int),(0:Int),x3,x4,x5,x6,x7,x8,[],[],[],[],[],[])
def iq:Bool:=Nat.beq ((Lp.res eM (Tf x0 x1 x2 x3 x4 x5 x6 x7 x8 x9)).1) (0:Nat)
def JD:Int×Int×List (Int×Int×(Int×Int)×Int×Int×Bool)×Int×Int×Int×List Int×List Int×List (Int×Int×Int)×List (List Int)×List (Int×Int×Int)×List (Int×Int)×List (Int×Int):=((0:Int),(0:Int),x9,x0,x1,x2,[],x3,x4,lN x0 x1 x2 x3 x4 x5 x6 x7 x8,x6,x7,x8)
def YZ:Int×List (Int×Int×(Int×Int)×Int×Int×Bool)×Int×Int×Int×List Int×List Int×List (Int×Int×Int)×List (List Int)×List (Int×Int×Int)×List (Int×Int)×List (Int×Int):=(Lp.res eN (JD x0 x1 x2 x3 x4 x5 x6 x7 x8 x9)).2.2
def Za:Int×Int×Int×List Int×List Int×List (Int×Int×Int)×List (List Int)×List (Int×Int×Int)×List (Int×Int)×List (Int×Int):=(YZ x0 x1 x2 x3 x4 x5 x6 x7 x8 x9).2.2
def Zb:Int×Int×List Int×List Int×List (Int×Int×Int)×List (List Int)×List (Int×Int×Int)×List (Int×Int)×List (Int×Int):=(Za x0 x1 x2 x3 x4 x5 x6 x7 x8 x9).2
def Zc:Int×List Int×List Int×List (Int×Int×Int)×List (List Int)×List (Int×Int×Int)×List (Int×Int)×List (Int×Int):=(Zb x0 x1 x2 x3 x4 x5 x6 x7 x8 x9).2
def Zd:List Int×List Int×List (Int×Int×Int)×List (List Int)×List (Int×Int×Int)×List (Int×Int)×List (Int×Int):=(Zc x0 x1 x2 x3 x4 x5 x6 x7 x8 x9).2
def Ze:List Int×List (Int×Int×Int)×List (List Int)×List (Int×Int×Int)×List (Int×Int)×List (Int×Int):=(Zd x0 x1 x2 x3 x4 x5 x6 x7 x8 x9).2
def Wr:List (Int×Int×Int)×List (List Int)×List (Int×Int×Int)×List (Int×Int)×List (Int×Int):=(Ze x0 x1 x2 x3 x4 x5 x6 x7 x8 x9).2
def Ws:List (List Int)×List (Int×Int×Int)×List (Int×Int)×List (Int×Int):=(Wr x0 x1 x2 x3 x4 x5 x6 x7 x8 x9).2
def Wt:List (Int×Int×Int)×List (Int×Int)×List (Int×Int):=(Ws x0 x1 x2 x3 x4 x5 x6 x7 x8 x9).2
def Wu:List (Int×Int)×List (Int×Int):=(Wt x0 x1 x2 x3 x4 x5 x6 x7 x8 x9).2
def HB:Int:=bif !qP x0 x3 x4 x5 x6 x1 x7 x8 x2 then(0:Int)else bif ip x9 then(0:Int)else bif iq x0 x1 x2 x3 x4 x5 x6 x7 x8 x9 then(0:Int)else (Za x0 x1 x2 x3 x4 x5 x6 x7 x8 x9).1
def HC:Int:=bif !qP x0 x3 x4 x5 x6 x1 x7 x8 x2 then(0:Int)else bif ip x9 then(0:Int)else bif iq x0 x1 x2 x3 x4 x5 x6 x7 x8 x9 then(0:Int)else (Zb x0 x1 x2 x3 x4 x5 x6 x7 x8 x9).1
def HD:Int:=bif !qP x0 x3 x4 x5 x6 x1 x7 x8 x2 then(0:Int)else bif ip x9 then(0:Int)else bif iq x0 x1 x2 x3 x4 x5 x6 x7 x8 x9 then(0:Int)else (Zc x0 x1 x2 x3 x4 x5 x6 x7 x8 x9).1
def Lk:Int:=bif !qP x0 x3 x4 x5 x6 x1 x7 x8 x2 then(0:Int)else bif ip x9 then(0:Int)else bif iq x0 x1 x2 x3 x4 x5 x6 x7 x8 x9 then(0:Int)else (YZ x0 x1 x2 x3 x4 x5 x6 x7 x8 x9).1
def HE:Int:=bif !qP x0 x3 x4 x5 x6 x1 x7 x8 x2 then(1:Int)else bif ip x9 then(3:Int)else bif iq x0 x1 x2 x3 x4 x5 x6 x7 x8 x9 then(2:Int)else(0:Int)
def HF:List Int:=bif !qP x0 x3 x4 x5 x6 x1 x7 x8 x2 then []else bif ip x9 then []else bif iq x0 x1 x2 x3 x4 x5 x6 x7 x8 x9 then []else (Ze x0 x1 x2 x3 x4 x5 x6 x7 x8 x9).1
def HG:List (Int×(Int×Int)):=bif !qP x0 x3 x4 x5 x6 x1 x7 x8 x2 then []else bif ip x9 then []else bif iq x0 x1 x2 x3 x4 x5 x6 x7 x8 x9 then []else (Wr x0 x1 x2 x3 x4 x5 x6 x7 x8 x9).1
def HH:List (List Int):=bif !qP x0 x3 x4 x5 x6 x1 x7 x8 x2 then []else bif ip x9 then []else bif iq x0 x1 x2 x3 x4 x5 x6 x7 x8 x9 then []else (Ws x0 x1 x2 x3 x4 x5 x6 x7 x8 x9).1
def HI:List (Int×(Int×Int)):=bif !qP x0 x3 x4 x5 x6 x1 x7 x8 x2 then []else bif ip x9 then []else bif iq x0 x1 x2 x3 x4 x5 x6 x7 x8 x9 then []else (Wt x0 x1 x2 x3 x4 x5 x6 x7 x8 x9).1
def HJ:List (Int×Int):=bif !qP x0 x3 x4 x5 x6 x1 x7 x8 x2 then []else bif ip x9 then []else bif iq x0 x1 x2 x3 x4 x5 x6 x7 x8 x9 then []else (Wu x0 x1 x2 x3 x4 x5 x6 x7 x8 x9).1
def EF:List (Int×Int):=bif !qP x0 x3 x4 x5 x6 x1 x7 x8 x2 then []else bif ip x9 then []else bif iq x0 x1 x2 x3 x4 x5 x6 x7 x8 x9 then []else (Wu x0 x1 x2 x3 x4 x5 x6 x7 x8 x9).2
def EG:List Int:=bif !qP x0 x3 x4 x5 x6 x1 x7 x8 x2 then []else bif ip x9 then []else bif iq x0 x1 x2 x3 x4 x5 x6 x7 x8 x9 then []else (Zd x0 x1 x2 x3 x4 x5 x6 x7 x8 x9).1
def EH:Bool:=allT [rb (9223372036854775807:Nat) x3 x4 x5 x6 x7 x8,!qP x0 x3 x4 x5 x6 x1 x7 x8 x2||(ip x9||Lp.fin eM (Tf x0 x1 x2 x3 x4 x5 x6 x7 x8 x9)),!qP x0 x3 x4 x5 x6 x1 x7 x8 x2||(ip x9||(iq x0 x1 x2 x3 x4 x5 x6 x7 x8 x9||Ps x0 x1 x2 x3 x4 x5 x6 x7 x8)),!qP x0 x3 x4 x5 x6 x1 x7 x8 x2||(ip x9||(iq x0 x1 x2 x3 x4 x5 x6 x7 x8 x9||Lp.fin eN (JD x0 x1 x2 x3 x4 x5 x6 x7 x8 x9)))]
end
def aiT:List SV→List Entry→Option Out
 | [.one ⟨true,[.val (.int .i64 x0),.ref 0,.ref 1,.ref 2,.ref 3,.val (.int .i64 x1),.ref 4,.ref 5,.val (.int .i64 x2)]⟩,.one ⟨false,[.ref 6]⟩],[.row false 2 (.int .i64) x3,.row false 169 (.pair (.int .i64) (.pair (.int .i64) (.int .i64))) x4,.row false 24 (.sl 2 (.int .i64)) x5,.row false 100 (.pair (.int .i64) (.pair (.int .i64) (.int .i64))) x6,.row false 173 (.pair (.int .i64) (.int .i64)) x7,.row false 176 (.pair (.int .i64) (.int .i64)) x8,.row false 49 (.pair (.int .i64) (.pair (.int .i64) (.pair (.pair (.int .i64) (.int .i64)) (.pair (.int .i64) (.pair (.int .i64) (.bool)))))) x9]=>some ⟨(.tup [⟨true,[(.val (.int .i64 (HB x0 x1 x2 x3 x4 x5 x6 x7 x8 x9))),(.ref 7),(.ref 8),(.ref 9),(.ref 10),(.val (.int .i64 (HC x0 x1 x2 x3 x4 x5 x6 x7 x8 x9))),(.ref 11),(.ref 12),(.val (.int .i64 (HD x0 x1 x2 x3 x4 x5 x6 x7 x8 x9)))]⟩,⟨false,[(.ref 13)]⟩,⟨false,[(.val (.int .i64 (Lk x0 x1 x2 x3 x4 x5 x6 x7 x8 x9)))]⟩,⟨false,[(.val (.int .i64 (HE x0 x1 x2 x3 x4 x5 x6 x7 x8 x9)))]⟩]),[(.row false 2 axl x3),(.row false 169 axj x4),(.row false 24 (CTy.sl (2:TypeId) axl) x5),(.row false 100 axj x6),(.row false 173 axk x7),(.row false 176 axk x8),(.row false 49 axi x9)],[(.row true 2 axl (HF x0 x1 x2 x3 x4 x5 x6 x7 x8 x9)),(.row true 169 axj (HG x0 x1 x2 x3 x4 x5 x6 x7 x8 x9)),(.row true 24 (CTy.sl (2:Nat) axl) (HH x0 x1 x2 x3 x4 x5 x6 x7 x8 x9)),(.row true 100 axj (HI x0 x1 x2 x3 x4 x5 x6 x7 x8 x9)),(.row true 173 axk (HJ x0 x1 x2 x3 x4 x5 x6 x7 x8 x9)),(.row true 176 axk (EF x0 x1 x2 x3 x4 x5 x6 x7 x8 x9)),(.row true 2 axl (EG x0 x1 x2 x3 x4 x5 x6 x7 x8 x9))],[(EH x0 x1 x2 x3 x4 x5 x6 x7 x8 x9)]⟩
 |_,_=>none
def aa5:PF Tryz.prog:=PF.ofG Tryz.prog [qt,PF.lend qt,PF.fz qt,qq,PF.lend qq,PF.fz qq,oi,PF.lend oi,PF.fz oi,gj,PF.lend gj,PF.fz gj,uY,PF.lend uY,PF.fz uY] [eM.F,eN.F] aq 57 Tryz.f57 Tryz.func57 (LOk.fnT (l:= [au Tryz.f57 0,au Tryz.f57 1]) (by kernel_rfl) (.cons ail (.cons aim (.nil _)))) aiT (by
 intro vs es r h;unfold aiT at h;split at h
 ·cases h;kernel_rfl
 ·cases h)
section
variable (x0 x1 x2:Int)(x3:List Int)(x4:List (Int×Int×Int))(x5:List (List Int))(x6:List (Int×Int×Int))(x7 x8:List (Int×Int))(x9:List (Int×Int×(Int×Int)×Int×Int×Bool))
def ag8:Int:=HB x0 x1 x2 x3 x4 x5 x6 x7 x8 x9
def ag9:Int:=HC x0 x1 x2 x3 x4 x5 x6 x7 x8 x9
def aha:Int:=HD x0 x1 x2 x3 x4 x5 x6 x7 x8 x9
def ahb:Int:=HE x0 x1 x2 x3 x4 x5 x6 x7 x8 x9
def ahc:List Int:=HF x0 x1 x2 x3 x4 x5 x6 x7 x8 x9
def ahd:List (Int×(Int×Int)):=HG x0 x1 x2 x3 x4 x5 x6 x7 x8 x9
def ahe:List (List Int):=HH x0 x1 x2 x3 x4 x5 x6 x7 x8 x9
def ahf:List (Int×(Int×Int)):=HI x0 x1 x2 x3 x4 x5 x6 x7 x8 x9
def ahg:List (Int×Int):=HJ x0 x1 x2 x3 x4 x5 x6 x7 x8 x9
def ahh:List (Int×Int):=EF x0 x1 x2 x3 x4 x5 x6 x7 x8 x9
def ael:List Int:=EG x0 x1 x2 x3 x4 x5 x6 x7 x8 x9
def Wo:Bool:=allT [EH x0 x1 x2 x3 x4 x5 x6 x7 x8 x9]
end
def afl:List SV→List Entry→Option Out
 | [.one ⟨true,[.val (.int .i64 x0),.ref 0,.ref 1,.ref 2,.ref 3,.val (.int .i64 x1),.ref 4,.ref 5,.val (.int .i64 x2)]⟩,.one ⟨false,[.ref 6]⟩],[.row false 2 (.int .i64) x3,.row false 169 (.pair (.int .i64) (.pair (.int .i64) (.int .i64))) x4,.row false 24 (.sl 2 (.int .i64)) x5,.row false 100 (.pair (.int .i64) (.pair (.int .i64) (.int .i64))) x6,.row false 173 (.pair (.int .i64) (.int .i64)) x7,.row false 176 (.pair (.int .i64) (.int .i64)) x8,.row false 49 (.pair (.int .i64) (.pair (.int .i64) (.pair (.pair (.int .i64) (.int .i64)) (.pair (.int .i64) (.pair (.int .i64) (.bool)))))) x9]=>some ⟨(.tup [⟨true,[(.val (.int .i64 (ag8 x0 x1 x2 x3 x4 x5 x6 x7 x8 x9))),(.ref 7),(.ref 8),(.ref 9),(.ref 10),(.val (.int .i64 (ag9 x0 x1 x2 x3 x4 x5 x6 x7 x8 x9))),(.ref 11),(.ref 12),(.val (.int .i64 (aha x0 x1 x2 x3 x4 x5 x6 x7 x8 x9)))]⟩,⟨false,[(.ref 13)]⟩,⟨false,[(.val (.int .i64 (ahb x0 x1 x2 x3 x4 x5 x6 x7 x8 x9)))]⟩]),[(.row false 2 axl x3),(.row false 169 axj x4),(.row false 24 (CTy.sl (2:TypeId) axl) x5),(.row false 100 axj x6),(.row false 173 axk x7),(.row false 176 axk x8),(.row false 49 axi x9)],[(.row true 2 axl (ahc x0 x1 x2 x3 x4 x5 x6 x7 x8 x9)),(.row true 169 axj (ahd x0 x1 x2 x3 x4 x5 x6 x7 x8 x9)),(.row true 24 (CTy.sl (2:Nat) axl) (ahe x0 x1 x2 x3 x4 x5 x6 x7 x8 x9)),(.row true 100 axj (ahf x0 x1 x2 x3 x4 x5 x6 x7 x8 x9)),(.row true 173 axk (ahg x0 x1 x2 x3 x4 x5 x6 x7 x8 x9)),(.row true 176 axk (ahh x0 x1 x2 x3 x4 x5 x6 x7 x8 x9)),(.row true 2 axl (ael x0 x1 x2 x3 x4 x5 x6 x7 x8 x9))],[(Wo x0 x1 x2 x3 x4 x5 x6 x7 x8 x9)]⟩
 |_,_=>none
def ao3:PF Tryz.prog:=PF.ofG Tryz.prog [aa5,PF.lend aa5,PF.fz aa5] [] aq 13 Tryz.f13 Tryz.func13 (fun c _=>LOk.nil c) afl (by
 intro vs es r h;unfold afl at h;split at h
 ·cases h;kernel_rfl
 ·cases h)
end Go.SX

namespace Go.SX
open Go.Proofs
set_option maxRecDepth 100000
def To(x0:List (Int×Int×Int)):Bool:=allT [ltN (0:Nat) x0.length,false||leN ((0:Nat) + List.length x0) (9223372036854775807:Nat),false||leN (((0:Nat) + List.length x0) * (24:Nat)) (140737488355328:Nat)]
def HM:List SV→List Entry→Option Out
 | [.one ⟨false,[.ref 0]⟩],[.row false 169 (.pair (.int .i64) (.pair (.int .i64) (.int .i64))) x0]=>some ⟨(.one ⟨false,[(.ref 1)]⟩),[(.row false 169 axj x0)],[(.row true 169 axj x0)],[(To x0)]⟩
 |_,_=>none
def Tl:PF Tryz.prog:=PF.ofG Tryz.prog [] [] aq 147 Tryz.f147 Tryz.func147 (fun c _=>LOk.nil c) HM (by
 intro vs es r h;unfold HM at h;split at h
 ·cases h;kernel_rfl
 ·cases h)
def Rs:List (Int×(Int×Int)):= []
def EV:List SV→List Entry→Option Out
 | [.one ⟨false,[.val (.slice none 0 0)]⟩],[]=>some ⟨(.one ⟨false,[(.ref 0)]⟩),[],[(.row true 169 axj (Rs))],[true]⟩
 |_,_=>none
def Rq:PF Tryz.prog:=PF.ofG Tryz.prog [PF.raw Tryz.prog] [] aq 147 Tryz.f147 Tryz.func147 (fun c _=>LOk.nil c) EV (by
 intro vs es r h;unfold EV at h;split at h
 ·cases h;kernel_rfl
 ·cases h)
def Rt:List (Int×(Int×Int)):= []
def EW:List SV→List Entry→Option Out
 | [.one ⟨false,[.val (.slice (some b) 0 c)]⟩],[]=>some ⟨(.one ⟨false,[(.ref 0)]⟩),[],[(.row true 169 axj (Rt))],[true]⟩
 |_,_=>none
def Rr:PF Tryz.prog:=PF.ofG Tryz.prog [] [] aq 147 Tryz.f147 Tryz.func147 (fun c _=>LOk.nil c) EW (by
 intro vs es r h;unfold EW at h;split at h
 ·cases h;kernel_rfl
 ·cases h)
def VD(x0:List (Int×Int×Int)):Bool:=allT [ltN (0:Nat) x0.length,false||leN ((0:Nat) + List.length x0) (9223372036854775807:Nat),false||leN (((0:Nat) + List.length x0) * (24:Nat)) (140737488355328:Nat)]
def Ke:List SV→List Entry→Option Out
 | [.one ⟨false,[.ref 0]⟩],[.row false 100 (.pair (.int .i64) (.pair (.int .i64) (.int .i64))) x0]=>some ⟨(.one ⟨false,[(.ref 1)]⟩),[(.row false 100 axj x0)],[(.row true 100 axj x0)],[(VD x0)]⟩
 |_,_=>none
def VA:PF Tryz.prog:=PF.ofG Tryz.prog [] [] aq 148 Tryz.f148 Tryz.func148 (fun c _=>LOk.nil c) Ke (by
 intro vs es r h;unfold Ke at h;split at h
 ·cases h;kernel_rfl
 ·cases h)
def Tm:List (Int×(Int×Int)):= []
def HK:List SV→List Entry→Option Out
 | [.one ⟨false,[.val (.slice none 0 0)]⟩],[]=>some ⟨(.one ⟨false,[(.ref 0)]⟩),[],[(.row true 100 axj (Tm))],[true]⟩
 |_,_=>none
def Tj:PF Tryz.prog:=PF.ofG Tryz.prog [PF.raw Tryz.prog] [] aq 148 Tryz.f148 Tryz.func148 (fun c _=>LOk.nil c) HK (by
 intro vs es r h;unfold HK at h;split at h
 ·cases h;kernel_rfl
 ·cases h)
def Tn:List (Int×(Int×Int)):= []
def HL:List SV→List Entry→Option Out
 | [.one ⟨false,[.val (.slice (some b) 0 c)]⟩],[]=>some ⟨(.one ⟨false,[(.ref 0)]⟩),[],[(.row true 100 axj (Tn))],[true]⟩
 |_,_=>none
def Tk:PF Tryz.prog:=PF.ofG Tryz.prog [] [] aq 148 Tryz.f148 Tryz.func148 (fun c _=>LOk.nil c) HL (by
 intro vs es r h;unfold HL at h;split at h
 ·cases h;kernel_rfl
 ·cases h)
def aa9(x0:List (Int×Int)):Bool:=allT [ltN (0:Nat) x0.length,false||leN ((0:Nat) + List.length x0) (9223372036854775807:Nat),false||leN (((0:Nat) + List.length x0) * (16:Nat)) (140737488355328:Nat)]
def OR:List SV→List Entry→Option Out
 | [.one ⟨false,[.ref 0]⟩],[.row false 173 (.pair (.int .i64) (.int .i64)) x0]=>some ⟨(.one ⟨false,[(.ref 1)]⟩),[(.row false 173 axk x0)],[(.row true 173 axk x0)],[(aa9 x0)]⟩
 |_,_=>none
def aa1:PF Tryz.prog:=PF.ofG Tryz.prog [] [] aq 149 Tryz.f149 Tryz.func149 (fun c _=>LOk.nil c) OR (by
 intro vs es r h;unfold OR at h;split at h
 ·cases h;kernel_rfl
 ·cases h)
def YH:List (Int×Int):= []
def MB:List SV→List Entry→Option Out
 | [.one ⟨false,[.val (.slice none 0 0)]⟩],[]=>some ⟨(.one ⟨false,[(.ref 0)]⟩),[],[(.row true 173 axk (YH))],[true]⟩
 |_,_=>none
def Yx:PF Tryz.prog:=PF.ofG Tryz.prog [PF.raw Tryz.prog] [] aq 149 Tryz.f149 Tryz.func149 (fun c _=>LOk.nil c) MB (by
 intro vs es r h;unfold MB at h;split at h
 ·cases h;kernel_rfl
 ·cases h)
def YI:List (Int×Int):= []
def MC:List SV→List Entry→Option Out
 | [.one ⟨false,[.val (.slice (some b) 0 c)]⟩],[]=>some ⟨(.one ⟨false,[(.ref 0)]⟩),[],[(.row true 173 axk (YI))],[true]⟩
 |_,_=>none
def Yy:PF Tryz.prog:=PF.ofG Tryz.prog [] [] aq 149 Tryz.f149 Tryz.func149 (fun c _=>LOk.nil c) MC (by
 intro vs es r h;unfold MC at h;split at h
 ·cases h;kernel_rfl
 ·cases h)
def aa8(x0:List (Int×Int)):Bool:=allT [ltN (0:Nat) x0.length,false||leN ((0:Nat) + List.length x0) (9223372036854775807:Nat),false||leN (((0:Nat) + List.length x0) * (16:Nat)) (140737488355328:Nat)]
def OQ:List SV→List Entry→Option Out
 | [.one ⟨false,[.ref 0]⟩],[.row false 176 (.pair (.int .i64) (.int .i64)) x0]=>some ⟨(.one ⟨false,[(.ref 1)]⟩),[(.row false 176 axk x0)],[(.row true 176 axk x0)],[(aa8 x0)]⟩
 |_,_=>none
def aa0:PF Tryz.prog:=PF.ofG Tryz.prog [] [] aq 150 Tryz.f150 Tryz.func150 (fun c _=>LOk.nil c) OQ (by
 intro vs es r h;unfold OQ at h;split at h
 ·cases h;kernel_rfl
 ·cases h)
def YF:List (Int×Int):= []
def Mz:List SV→List Entry→Option Out
 | [.one ⟨false,[.val (.slice none 0 0)]⟩],[]=>some ⟨(.one ⟨false,[(.ref 0)]⟩),[],[(.row true 176 axk (YF))],[true]⟩
 |_,_=>none
def Yv:PF Tryz.prog:=PF.ofG Tryz.prog [PF.raw Tryz.prog] [] aq 150 Tryz.f150 Tryz.func150 (fun c _=>LOk.nil c) Mz (by
 intro vs es r h;unfold Mz at h;split at h
 ·cases h;kernel_rfl
 ·cases h)
def YG:List (Int×Int):= []
def MA:List SV→List Entry→Option Out
 | [.one ⟨false,[.val (.slice (some b) 0 c)]⟩],[]=>some ⟨(.one ⟨false,[(.ref 0)]⟩),[],[(.row true 176 axk (YG))],[true]⟩
 |_,_=>none
def Yw:PF Tryz.prog:=PF.ofG Tryz.prog [] [] aq 150 Tryz.f150 Tryz.func150 (fun c _=>LOk.nil c) MA (by
 intro vs es r h;unfold MA at h;split at h
 ·cases h;kernel_rfl
 ·cases h)
end Go.SX

namespace Go.SX
open Go.RowKit Go.Proofs
set_option maxRecDepth 100000
theorem atQ{n:Nat}(h2:0 < n)(h1:n≤1048576):allT [ltN 0 n,false||leN (0 + n) 9223372036854775807,false||leN ((0 + n) * 24) 140737488355328]=true:=by
 rw [cB h2,fk (by omega),fk (by omega)];rfl
theorem atP{n:Nat}(h2:0 < n)(h1:n≤1048576):allT [ltN 0 n,false||leN (0 + n) 9223372036854775807,false||leN ((0 + n) * 16) 140737488355328]=true:=by
 rw [cB h2,fk (by omega),fk (by omega)];rfl
theorem aom(x0:List (Int×(Int×Int)))(h:leN x0.length 1048576=true)(mem:Nat→Option Obj)(ρ:Nm)(w:World)(hp:HpL w mem [.row false 169 (.pair (.int .i64) (.pair (.int .i64) (.int .i64))) x0] ρ w):
  Calls Tryz.prog 147 ([SV.one ⟨false,[.ref 0]⟩].map (SV.conc ρ)).toArray w fun en w'=> ∃ ρ':Nm,Ext (memB w mem) (fun i=>Nat.blt i 1) ρ ρ'∧en= .returned ((SV.one ⟨false,[.ref 1]⟩).conc ρ')∧
   HpL w mem [.row false 169 (.pair (.int .i64) (.pair (.int .i64) (.int .i64))) x0,.row true 169 (.pair (.int .i64) (.pair (.int .i64) (.int .i64))) x0] ρ' w':=
 adg (t:=(.pair (.int .i64) (.pair (.int .i64) (.int .i64)))) Tl Rq Rr rfl rfl rfl ⟨_,rfl,fun b hb=>(by simp at hb;exact hb)⟩ (fun _ _=>⟨_,rfl,fun b hb=>(by simp at hb;exact hb)⟩) x0
  (fun hne=>⟨_,rfl,fun b hb=>(by
   have h1:=bT.1 h
   have h2:0 < x0.length:=by cases x0 with
    |nil=>exact(hne rfl).elim
    |cons y r=>exact Nat.succ_pos _
   rw [List.mem_singleton]at hb;subst hb
   exact atQ h2 h1)⟩) mem ρ w hp
def HN:List SV→List Entry→Option Out
 | [.one ⟨false,[.ref 0]⟩],[.row false 169 (.pair (.int .i64) (.pair (.int .i64) (.int .i64))) x0]=>some ⟨.one ⟨false,[.ref 1]⟩,[.row false 169 (.pair (.int .i64) (.pair (.int .i64) (.int .i64))) x0],[.row true 169 (.pair (.int .i64) (.pair (.int .i64) (.int .i64))) x0],[leN x0.length 1048576]⟩
 |_,_=>none
def ir:PF Tryz.prog where
 k:=147
 F:=HN
 ok:=by
  intro args es o h hnd mem ρ w hp
  unfold HN at h;split at h
  ·rename_i x0
   cases h
   refine(aom x0 (hnd _ (List.mem_singleton.2 rfl)) mem ρ w hp).mono fun en w' ⟨ρ1,hx,he,hh⟩=>⟨ρ1,hx,he,rfl,?_,hh⟩
   intro c hc
   simp at hc;subst hc;rfl
  ·cases h
theorem aqF(x0:List (Int×(Int×Int)))(h:leN x0.length 1048576=true)(mem:Nat→Option Obj)(ρ:Nm)(w:World)(hp:HpL w mem [.row false 100 (.pair (.int .i64) (.pair (.int .i64) (.int .i64))) x0] ρ w):
  Calls Tryz.prog 148 ([SV.one ⟨false,[.ref 0]⟩].map (SV.conc ρ)).toArray w fun en w'=> ∃ ρ':Nm,Ext (memB w mem) (fun i=>Nat.blt i 1) ρ ρ'∧en= .returned ((SV.one ⟨false,[.ref 1]⟩).conc ρ')∧
   HpL w mem [.row false 100 (.pair (.int .i64) (.pair (.int .i64) (.int .i64))) x0,.row true 100 (.pair (.int .i64) (.pair (.int .i64) (.int .i64))) x0] ρ' w':=
 adg (t:=(.pair (.int .i64) (.pair (.int .i64) (.int .i64)))) VA Tj Tk rfl rfl rfl ⟨_,rfl,fun b hb=>(by simp at hb;exact hb)⟩ (fun _ _=>⟨_,rfl,fun b hb=>(by simp at hb;exact hb)⟩) x0
  (fun hne=>⟨_,rfl,fun b hb=>(by
   have h1:=bT.1 h
   have h2:0 < x0.length:=by cases x0 with
    |nil=>exact(hne rfl).elim
    |cons y r=>exact Nat.succ_pos _
   rw [List.mem_singleton]at hb;subst hb
   exact atQ h2 h1)⟩) mem ρ w hp
def Kg:List SV→List Entry→Option Out
 | [.one ⟨false,[.ref 0]⟩],[.row false 100 (.pair (.int .i64) (.pair (.int .i64) (.int .i64))) x0]=>some ⟨.one ⟨false,[.ref 1]⟩,[.row false 100 (.pair (.int .i64) (.pair (.int .i64) (.int .i64))) x0],[.row true 100 (.pair (.int .i64) (.pair (.int .i64) (.int .i64))) x0],[leN x0.length 1048576]⟩
 |_,_=>none
def jl:PF Tryz.prog where
 k:=148
 F:=Kg
 ok:=by
  intro args es o h hnd mem ρ w hp
  unfold Kg at h;split at h
  ·rename_i x0
   cases h
   refine(aqF x0 (hnd _ (List.mem_singleton.2 rfl)) mem ρ w hp).mono fun en w' ⟨ρ1,hx,he,hh⟩=>⟨ρ1,hx,he,rfl,?_,hh⟩
   intro c hc
   simp at hc;subst hc;rfl
  ·cases h
theorem avB(x0:List (Int×Int))(h:leN x0.length 1048576=true)(mem:Nat→Option Obj)(ρ:Nm)(w:World)(hp:HpL w mem [.row false 173 (.pair (.int .i64) (.int .i64)) x0] ρ w):
  Calls Tryz.prog 149 ([SV.one ⟨false,[.ref 0]⟩].map (SV.conc ρ)).toArray w fun en w'=> ∃ ρ':Nm,Ext (memB w mem) (fun i=>Nat.blt i 1) ρ ρ'∧en= .returned ((SV.one ⟨false,[.ref 1]⟩).conc ρ')∧
   HpL w mem [.row false 173 (.pair (.int .i64) (.int .i64)) x0,.row true 173 (.pair (.int .i64) (.int .i64)) x0] ρ' w':=
 adg (t:=(.pair (.int .i64) (.int .i64))) aa1 Yx Yy rfl rfl rfl ⟨_,rfl,fun b hb=>(by simp at hb;exact hb)⟩ (fun _ _=>⟨_,rfl,fun b hb=>(by simp at hb;exact hb)⟩) x0
  (fun hne=>⟨_,rfl,fun b hb=>(by
   have h1:=bT.1 h
   have h2:0 < x0.length:=by cases x0 with
    |nil=>exact(hne rfl).elim
    |cons y r=>exact Nat.succ_pos _
   rw [List.mem_singleton]at hb;subst hb
   exact atP h2 h1)⟩) mem ρ w hp
def OU:List SV→List Entry→Option Out
 | [.one ⟨false,[.ref 0]⟩],[.row false 173 (.pair (.int .i64) (.int .i64)) x0]=>some ⟨.one ⟨false,[.ref 1]⟩,[.row false 173 (.pair (.int .i64) (.int .i64)) x0],[.row true 173 (.pair (.int .i64) (.int .i64)) x0],[leN x0.length 1048576]⟩
 |_,_=>none
def nj:PF Tryz.prog where
 k:=149
 F:=OU
 ok:=by
  intro args es o h hnd mem ρ w hp
  unfold OU at h;split at h
  ·rename_i x0
   cases h
   refine(avB x0 (hnd _ (List.mem_singleton.2 rfl)) mem ρ w hp).mono fun en w' ⟨ρ1,hx,he,hh⟩=>⟨ρ1,hx,he,rfl,?_,hh⟩
   intro c hc
   simp at hc;subst hc;rfl
  ·cases h
theorem avA(x0:List (Int×Int))(h:leN x0.length 1048576=true)(mem:Nat→Option Obj)(ρ:Nm)(w:World)(hp:HpL w mem [.row false 176 (.pair (.int .i64) (.int .i64)) x0] ρ w):
  Calls Tryz.prog 150 ([SV.one ⟨false,[.ref 0]⟩].map (SV.conc ρ)).toArray w fun en w'=> ∃ ρ':Nm,Ext (memB w mem) (fun i=>Nat.blt i 1) ρ ρ'∧en= .returned ((SV.one ⟨false,[.ref 1]⟩).conc ρ')∧
   HpL w mem [.row false 176 (.pair (.int .i64) (.int .i64)) x0,.row true 176 (.pair (.int .i64) (.int .i64)) x0] ρ' w':=
 adg (t:=(.pair (.int .i64) (.int .i64))) aa0 Yv Yw rfl rfl rfl ⟨_,rfl,fun b hb=>(by simp at hb;exact hb)⟩ (fun _ _=>⟨_,rfl,fun b hb=>(by simp at hb;exact hb)⟩) x0
  (fun hne=>⟨_,rfl,fun b hb=>(by
   have h1:=bT.1 h
   have h2:0 < x0.length:=by cases x0 with
    |nil=>exact(hne rfl).elim
    |cons y r=>exact Nat.succ_pos _
   rw [List.mem_singleton]at hb;subst hb
   exact atP h2 h1)⟩) mem ρ w hp
def OT:List SV→List Entry→Option Out
 | [.one ⟨false,[.ref 0]⟩],[.row false 176 (.pair (.int .i64) (.int .i64)) x0]=>some ⟨.one ⟨false,[.ref 1]⟩,[.row false 176 (.pair (.int .i64) (.int .i64)) x0],[.row true 176 (.pair (.int .i64) (.int .i64)) x0],[leN x0.length 1048576]⟩
 |_,_=>none
def ni:PF Tryz.prog where
 k:=150
 F:=OT
 ok:=by
  intro args es o h hnd mem ρ w hp
  unfold OT at h;split at h
  ·rename_i x0
   cases h
   refine(avA x0 (hnd _ (List.mem_singleton.2 rfl)) mem ρ w hp).mono fun en w' ⟨ρ1,hx,he,hh⟩=>⟨ρ1,hx,he,rfl,?_,hh⟩
   intro c hc
   simp at hc;subst hc;rfl
  ·cases h
end Go.SX
