/- What functions of the program come to, and what that says in plain words: part 3. -/
import Derived.Test.YtbajbgcdcaknpaaGreatDoorMb
import Derived.Test.YtbajbgcdcaknpaaGreatDoorTXh
import Derived.Test.YtbajbgcdcaknpaaGreatDoorProg
import Derived.Test.YtbajbgcdcaknpaaGreatDoorTXk
set_option linter.unusedSimpArgs false
set_option linter.unusedVariables false
namespace Go.SX
open Go.Proofs
set_option maxRecDepth 100000
def UL(x0 x1 x2:Int):Bool:=bif bif x1==(0:Int)then x1==(0:Int)else x1==(1:Int)then aI x2 (0:Int) (IntKind.wrap .i64 (x0 - (1:Int)))else bif bif x1==(2:Int)then x1==(2:Int)else x1==(3:Int)then x2==(0:Int)else false
def aby:List SV→List Entry→Option Out
 | [.one ⟨false,[.val (.int .i64 x0)]⟩,.one ⟨true,[.val (.int .i64 x1),.val (.int .i64 x2)]⟩],[]=>some ⟨(.one ⟨false,[(.val (.bool (UL x0 x1 x2)))]⟩),[],[],[]⟩
 |_,_=>none
def akF:PF Tryz.prog:=PF.ofG Tryz.prog [fg] [] ar 100 Tryz.f100 Tryz.func100 (fun c _=>LOk.nil c) aby (by
 intro vs es r h;unfold aby at h;split at h
 ·cases h;kernel_rfl
 ·cases h)
def UO(x0:Int):Bool:=aI x0 (0:Int) (3:Int)
def abC:List SV→List Entry→Option Out
 | [.one ⟨false,[.val (.int .i64 x0)]⟩],[]=>some ⟨(.one ⟨false,[(.val (.bool (UO x0)))]⟩),[],[],[]⟩
 |_,_=>none
def akI:PF Tryz.prog:=PF.ofG Tryz.prog [fg] [] ar 186 Tryz.f186 Tryz.func186 (fun c _=>LOk.nil c) abC (by
 intro vs es r h;unfold abC at h;split at h
 ·cases h;kernel_rfl
 ·cases h)
def QF(x0 x1:Int):Bool:=bif aI x0 (0:Int) (9:Int)then UO x1 else false
def Xn:List SV→List Entry→Option Out
 | [.one ⟨true,[.val (.int .i64 x0),.val (.int .i64 x1),.val (.bool _x2)]⟩],[]=>some ⟨(.one ⟨false,[(.val (.bool (QF x0 x1)))]⟩),[],[],[]⟩
 |_,_=>none
def aiA:PF Tryz.prog:=PF.ofG Tryz.prog [akI,fg] [] ar 101 Tryz.f101 Tryz.func101 (fun c _=>LOk.nil c) Xn (by
 intro vs es r h;unfold Xn at h;split at h
 ·cases h;kernel_rfl
 ·cases h)
abbrev bW:=Int×Int×Int×List Int
section
variable (y0 y1 y2:Int)(y3:List Int)
def lu:Bool:=ltI y0 y1
def lv:Bool:=leI (0:Int) y0
def lw:Bool:=ltI y0 (↑y3.length:Int)
def lx:Bool:=ltN y0.toNat y3.length
def ly:Bool:=y2==Option.getD y3[Int.toNat y0]? (0:Int)
def lz:Int:=IntKind.wrap .i64 (y0 + (1:Int))
end
def PD:bW→List (Nat×SV)
 |(y0,y1,y2,_)=> [(8,(.one ⟨false,[(.val (.int .i64 y0))]⟩)),(7,(.one ⟨false,[(.val (.int .i64 y1))]⟩)),(1,(.one ⟨false,[(.val (.int .i64 y2))]⟩)),(0,(.one ⟨false,[(.ref 0)]⟩))]
def PC:bW→List (Nat×Entry)
 |(_,_,_,y3)=> [(0,(.row false 2 asZ y3))]
def PG:Nat→bW→List (Nat×SV)
 |0,(y0,_,_,_)=> [(4,(.one ⟨false,[(.val (.int .i64 y0))]⟩))]
 |_,(_,_,_,_)=> []
def PE:Nat→bW→List (Nat×Entry)
 |0,(_,_,_,y3)=> [(0,(.row false 2 asZ y3))]
 |_,(_,_,_,y3)=> [(0,(.row false 2 asZ y3))]
def kJ:bW→LT bW
 |(y0,y1,y2,y3)=> .ite (lu y0 y1) (.need [(lv y0),(lw y0 y3),(lx y0 y3)] (.ite (ly y0 y2 y3) (.ext 0 [(0,0)]) (.nrm ((lz y0),y1,y2,y3) [(0,0)]))) (.ext 1 [(0,0)])
def vh(s:St):Option bW:=
 (match s.look 8 with
 |some ⟨none,(.one ⟨false,[(.val (.int .i64 y0))]⟩)⟩=>
 (match s.look 7 with
 |some ⟨none,(.one ⟨false,[(.val (.int .i64 y1))]⟩)⟩=>
 (match s.look 1 with
 |some ⟨none,(.one ⟨false,[(.val (.int .i64 y2))]⟩)⟩=>
 (match s.look 0 with
 |some ⟨none,(.one ⟨false,[(.ref 0)]⟩)⟩=>
 (match s.ent 0 with
 |some (.row false 2 (.int .i64) y3)=>
 some (y0,y1,y2,y3)
 |_=>none)
 |_=>none)
 |_=>none)
 |_=>none)
 |_=>none)
def aK:Lp bW where
 h:=⟨[9,10,5,11,12,13,14,15,16,17,4,18,8],[0],[],[]⟩
 JL:=PD
 JE:=PC
 XL:=PG
 XE:=PE
 q:=fun j=>match j with | 0=> .ret | _=> .exit 0
 tags:= [0,1]
 lt:=kJ
 fuel:=fun(y0,y1,y2,y3)=>y0.natAbs + y1.natAbs + y2.natAbs + y3.length
 fix:=fun(_,y1,y2,y3) (y0,_,_,_)=>(y0,y1,y2,y3)
 σ:= [(0,0)]
 rd:=vh
theorem NW:LoopOk Tryz.prog (fun k=>Nat.blt k Tryz.f212.ntmps) aK.F (ay Tryz.f212 0):=by
 refine Lp.ok (tbl:= []) (lf:= []) ar aK (by kernel_rfl) (LOk.nil _) (fun _=>rfl) (fun j _=>by unfold aK;match j with | 0=>rfl | _ + 1=>rfl) ?_ ?_ ?_ ?_ (fun _=>rfl) ?_
 ·intro x;obtain⟨y0,y1,y2,y3⟩:=x;kernel_rfl
 ·intro x;obtain⟨y0,y1,y2,y3⟩:=x;kernel_rfl
 ·intro s x h
  have h:vh s=some x:=h
  unfold vh at h
  repeat' split at h
  all_goals cases h
  exact⟨aa (by assumption) rfl (aa (by assumption) rfl (aa (by assumption) rfl (aa (by assumption) rfl (rfl)))),ac rfl (by assumption) rfl (rfl)⟩
 ·intro x;obtain⟨y0,y1,y2,y3⟩:=x;kernel_rfl
 ·intro x z;obtain⟨y0,y1,y2,y3⟩:=x;exact(And.intro (And.intro trivial rfl) trivial)
section
variable (x0:Int)(x1:List Int)
def sC:Int×Int×Int×List Int:=((0:Int),(↑x1.length:Int),x0,x1)
def BC:Int:=bif Nat.beq ((Lp.res aK (sC x0 x1)).1) (0:Nat)then ((Lp.res aK (sC x0 x1)).2).1else(-1:Int)
def BD:Bool:=allT [Lp.fin aK (sC x0 x1)]
end
def IX:List SV→List Entry→Option Out
 | [.one ⟨false,[.ref 0]⟩,.one ⟨false,[.val (.int .i64 x0)]⟩],[.row false 2 (.int .i64) x1]=>some ⟨(.one ⟨false,[(.val (.int .i64 (BC x0 x1)))]⟩),[(.row false 2 asZ x1)],[],[(BD x0 x1)]⟩
 |_,_=>none
def Bz:PF Tryz.prog:=PF.ofG Tryz.prog [] [aK.F] ar 212 Tryz.f212 Tryz.func212 (LOk.fnT (l:= [ay Tryz.f212 0]) (by kernel_rfl) (.cons NW (.nil _))) IX (by
 intro vs es r h;unfold IX at h;split at h
 ·cases h;kernel_rfl
 ·cases h)
def c9(x0:Int)(x1:List Int):Bool:=leI (0:Int) (BC x0 x1)
def iX(x0:Int)(x1:List Int):Bool:=allT [BD x0 x1]
def Gr:List SV→List Entry→Option Out
 | [.one ⟨false,[.ref 0]⟩,.one ⟨false,[.val (.int .i64 x0)]⟩],[.row false 2 (.int .i64) x1]=>some ⟨(.one ⟨false,[(.val (.bool (c9 x0 x1)))]⟩),[(.row false 2 asZ x1)],[],[(iX x0 x1)]⟩
 |_,_=>none
def c8:PF Tryz.prog:=PF.ofG Tryz.prog [Bz,PF.lend Bz,PF.fz Bz] [] ar 160 Tryz.f160 Tryz.func160 (fun c _=>LOk.nil c) Gr (by
 intro vs es r h;unfold Gr at h;split at h
 ·cases h;kernel_rfl
 ·cases h)
def Zn(x0:Bool):Int:=bif x0 then(1:Int)else(0:Int)
def agd:List SV→List Entry→Option Out
 | [.one ⟨false,[.val (.bool x0)]⟩],[]=>some ⟨(.one ⟨false,[(.val (.int .i64 (Zn x0)))]⟩),[],[],[]⟩
 |_,_=>none
def ZG:PF Tryz.prog:=PF.ofG Tryz.prog [] [] ar 232 Tryz.f232 Tryz.func232 (fun c _=>LOk.nil c) agd (by
 intro vs es r h;unfold agd at h;split at h
 ·cases h;kernel_rfl
 ·cases h)
abbrev ij:=Int×Int×List Int×List Int
section
variable (y0 y1:Int)(y2 y3:List Int)
def mN:List Int:= [Zn (Option.getD y2[Int.toNat y0]? (0:Int)==(2:Int))]
def vM:Bool:=ltI y0 y1
def vN:Bool:=leI (0:Int) y0
def vO:Bool:=ltI y0 (↑y2.length:Int)
def vP:Bool:=ltN y0.toNat y2.length
def vQ:Bool:=leN (List.length y3 + List.length (mN y0 y2)) (9223372036854775807:Nat)
def vR:Bool:=leN ((List.length y3 + List.length (mN y0 y2)) * (8:Nat)) (140737488355328:Nat)
def vS:Int:=IntKind.wrap .i64 (y0 + (1:Int))
def vT:List Int:=y3++mN y0 y2
end
def aaH:ij→List (Nat×SV)
 |(y0,y1,_,_)=> [(13,(.one ⟨false,[(.val (.int .i64 y0))]⟩)),(12,(.one ⟨false,[(.val (.int .i64 y1))]⟩)),(11,(.one ⟨false,[(.ref 0)]⟩)),(5,(.one ⟨false,[(.ref 1)]⟩))]
def aaz:ij→List (Nat×Entry)
 |(_,_,y2,y3)=> [(0,(.row false 2 asZ y2)),(1,(.row true 2 asZ y3))]
def aaX:Nat→ij→List (Nat×SV)
 |_,(_,_,_,_)=> [(5,(.one ⟨false,[(.ref 1)]⟩))]
def aaP:Nat→ij→List (Nat×Entry)
 |_,(_,_,y2,y3)=> [(0,(.row false 2 asZ y2)),(1,(.row true 2 asZ y3))]
def uH:ij→LT ij
 |(y0,y1,y2,y3)=> .ite (vM y0 y1) (.need [(vN y0),(vO y0 y2),(vP y0 y2)] (.need [(vQ y0 y2 y3),(vR y0 y2 y3)] (.nrm ((vS y0),y1,y2,(vT y0 y2 y3)) [(0,0),(1,640)]))) (.ext 0 [(0,0),(1,1)])
def Ij(s:St):Option ij:=
 (match s.look 13 with
 |some ⟨none,(.one ⟨false,[(.val (.int .i64 y0))]⟩)⟩=>
 (match s.look 12 with
 |some ⟨none,(.one ⟨false,[(.val (.int .i64 y1))]⟩)⟩=>
 (match s.look 11 with
 |some ⟨none,(.one ⟨false,[(.ref 0)]⟩)⟩=>
 (match s.look 5 with
 |some ⟨none,(.one ⟨false,[(.ref 256)]⟩)⟩=>
 (match s.ent 0 with
 |some (.row false 2 (.int .i64) y2)=>
 (match s.ent 256 with
 |some (.row true 2 (.int .i64) y3)=>
 some (y0,y1,y2,y3)
 |_=>none)
 |_=>none)
 |_=>none)
 |_=>none)
 |_=>none)
 |_=>none)
def cv:Lp ij where
 h:=⟨[14,15,16,7,17,18,19,20,21,22,5,23,13],[0],[1],[]⟩
 JL:=aaH
 JE:=aaz
 XL:=aaX
 XE:=aaP
 q:=fun j=>match j with | _=> .exit 0
 tags:= [0]
 lt:=uH
 fuel:=fun(y0,y1,y2,y3)=>y0.natAbs + y1.natAbs + y2.length + y3.length
 fix:=fun(_,y1,y2,_) (y0,_,_,y3)=>(y0,y1,y2,y3)
 σ:= [(0,0),(1,256)]
 rd:=Ij
theorem Yl:LoopOk Tryz.prog (fun k=>Nat.blt k Tryz.f187.ntmps) cv.F (ay Tryz.f187 0):=by
 refine Lp.ok (tbl:= [aj,PF.lend aj,PF.fz aj,ZG]) (lf:= []) ar cv (by kernel_rfl) (LOk.nil _) (fun _=>rfl) (fun _ _=>rfl) ?_ ?_ ?_ ?_ (fun _=>rfl) ?_
 ·intro x;obtain⟨y0,y1,y2,y3⟩:=x;kernel_rfl
 ·intro x;obtain⟨y0,y1,y2,y3⟩:=x;kernel_rfl
 ·intro s x h
  have h:Ij s=some x:=h
  unfold Ij at h
  repeat' split at h
  all_goals cases h
  exact⟨aa (by assumption) rfl (aa (by assumption) rfl (aa (by assumption) rfl (aa (by assumption) rfl (rfl)))),ac rfl (by assumption) rfl (ac rfl (by assumption) rfl (rfl))⟩
 ·intro x;obtain⟨y0,y1,y2,y3⟩:=x;kernel_rfl
 ·intro x z;obtain⟨y0,y1,y2,y3⟩:=x;exact(And.intro rfl trivial)
abbrev ik:=Int×Int×List (Int×(Int×Int))×List Int×List Int
section
variable (y0 y1:Int)(y2:List (Int×(Int×Int)))(y3 y4:List Int)
def ct:Int×Int×Int:=Option.getD y2[Int.toNat y0]? ((0:Int),(0:Int),(0:Int))
def d8:Bool:=((ct y0 y2).2).1==(0:Int)
def qg:Bool:=leI (0:Int) ((ct y0 y2).1)
def vU:Bool:=ltI y0 y1
def vV:Bool:=leI (0:Int) y0
def vW:Bool:=ltI y0 (↑y2.length:Int)
def vY:Bool:=ltN y0.toNat y2.length
def vZ:Bool:= !d8 y0 y2||qg y0 y2
def v6:Bool:= !d8 y0 y2||ltI ((ct y0 y2).1) (↑y3.length:Int)
def v7:Bool:= !d8 y0 y2||ltN (Int.toNat ((ct y0 y2).1)) y3.length
def v8:Bool:=d8 y0 y2||qg y0 y2
def wa:Bool:=d8 y0 y2||ltI ((ct y0 y2).1) (↑y4.length:Int)
def wb:Bool:=d8 y0 y2||ltN (Int.toNat ((ct y0 y2).1)) y4.length
def ut:Int:=IntKind.wrap .i64 (y0 + (1:Int))
def uu:List Int:=bif d8 y0 y2 then List.set y3 (Int.toNat ((ct y0 y2).1)) ((ct y0 y2).2.2)else y3
def uv:List Int:=bif d8 y0 y2 then y4 else List.set y4 (Int.toNat ((ct y0 y2).1)) ((ct y0 y2).2.2)
end
def aaI:ik→List (Nat×SV)
 |(y0,y1,_,_,_)=> [(30,(.one ⟨false,[(.val (.int .i64 y0))]⟩)),(29,(.one ⟨false,[(.val (.int .i64 y1))]⟩)),(28,(.one ⟨false,[(.ref 0)]⟩)),(8,(.one ⟨false,[(.ptr 1 0)]⟩))]
def aaA:ik→List (Nat×Entry)
 |(_,_,y2,y3,y4)=> [(0,(.row false 100 asX y2)),(1,(.box 130 [(.ref 2),(.ref 3)])),(2,(.row true 2 asZ y3)),(3,(.row true 2 asZ y4))]
def aaY:Nat→ik→List (Nat×SV)
 |_,(_,_,_,_,_)=> []
def aaQ:Nat→ik→List (Nat×Entry)
 |_,(_,_,y2,y3,y4)=> [(0,(.row false 100 asX y2)),(1,(.box 130 [(.ref 2),(.ref 3)])),(2,(.row true 2 asZ y3)),(3,(.row true 2 asZ y4))]
def uI:ik→LT ik
 |(y0,y1,y2,y3,y4)=> .ite (vU y0 y1) (.need [(vV y0),(vW y0 y2),(vY y0 y2)] (.need [(vZ y0 y2),(v6 y0 y2 y3),(v7 y0 y2 y3),(v8 y0 y2),(wa y0 y2 y4),(wb y0 y2 y4)] (.nrm ((ut y0),y1,y2,(uu y0 y2 y3),(uv y0 y2 y4)) [(0,0),(1,1),(2,2),(3,3)]))) (.ext 0 [(0,0),(1,1),(2,2),(3,3)])
def Ik(s:St):Option ik:=
 (match s.look 30 with
 |some ⟨none,(.one ⟨false,[(.val (.int .i64 y0))]⟩)⟩=>
 (match s.look 29 with
 |some ⟨none,(.one ⟨false,[(.val (.int .i64 y1))]⟩)⟩=>
 (match s.look 28 with
 |some ⟨none,(.one ⟨false,[(.ref 1)]⟩)⟩=>
 (match s.look 8 with
 |some ⟨none,(.one ⟨false,[(.ptr 832 0)]⟩)⟩=>
 (match s.ent 1 with
 |some (.row false 100 (.pair (.int .i64) (.pair (.int .i64) (.int .i64))) y2)=>
 (match s.ent 832 with
 |some (.box 130 [(.ref 512),(.ref 704)])=>
 (match s.ent 512 with
 |some (.row true 2 (.int .i64) y3)=>
 (match s.ent 704 with
 |some (.row true 2 (.int .i64) y4)=>
 some (y0,y1,y2,y3,y4)
 |_=>none)
 |_=>none)
 |_=>none)
 |_=>none)
 |_=>none)
 |_=>none)
 |_=>none)
 |_=>none)
def cw:Lp ik where
 h:=⟨[31,32,33,10,34,35,36,37,38,39,40,41,42,43,44,45,46,47,48,49,50,51,30],[0,1,2,3],[],[]⟩
 JL:=aaI
 JE:=aaA
 XL:=aaY
 XE:=aaQ
 q:=fun j=>match j with | _=> .exit 2
 tags:= [0]
 lt:=uI
 fuel:=fun(y0,y1,y2,y3,y4)=>y0.natAbs + y1.natAbs + y2.length + y3.length + y4.length
 fix:=fun(_,y1,y2,_,_) (y0,_,_,y3,y4)=>(y0,y1,y2,y3,y4)
 σ:= [(0,1),(1,832),(2,512),(3,704)]
 rd:=Ik
theorem Ym:LoopOk Tryz.prog (fun k=>Nat.blt k Tryz.f187.ntmps) cw.F (ay Tryz.f187 1):=by
 refine Lp.ok (tbl:= [aj,PF.lend aj,PF.fz aj,ZG]) (lf:= []) ar cw (by kernel_rfl) (LOk.nil _) (fun _=>rfl) (fun _ _=>rfl) ?_ ?_ ?_ ?_ (fun _=>rfl) ?_
 ·intro x;obtain⟨y0,y1,y2,y3,y4⟩:=x;kernel_rfl
 ·intro x;obtain⟨y0,y1,y2,y3,y4⟩:=x;kernel_rfl
 ·intro s x h
  have h:Ik s=some x:=h
  unfold Ik at h
  repeat' split at h
  all_goals cases h
  exact⟨aa (by assumption) rfl (aa (by assumption) rfl (aa (by assumption) rfl (aa (by assumption) rfl (rfl)))),ac rfl (by assumption) rfl (ac rfl (by assumption) rfl (ac rfl (by assumption) rfl (ac rfl (by assumption) rfl (rfl))))⟩
 ·intro x;obtain⟨y0,y1,y2,y3,y4⟩:=x;kernel_rfl
 ·intro x z;obtain⟨y0,y1,y2,y3,y4⟩:=x;exact(And.intro rfl trivial)
section
variable (x0:List Int)(x1:List (Int×Int×Int))
def GE:Int×Int×List Int×List Int:=((0:Int),(↑x0.length:Int),x0,[])
def uZ:List Int:=(Lp.res cv (GE x0)).2.2.2.2
def AC:Int×Int×List (Int×Int×Int)×List Int×List Int:=((0:Int),(↑x1.length:Int),x1,uZ x0,uZ x0)
def GF:List Int×List Int:=(Lp.res cw (AC x0 x1)).2.2.2.2
def xB:List Int:=(GF x0 x1).1
def CM:List Int:=(GF x0 x1).2
def Iu:Bool:=allT [Lp.fin cv (GE x0),leN (1:Nat) (List.length (uZ x0))&&leN (List.length (uZ x0)) (1048576:Nat),Lp.fin cw (AC x0 x1)]
end
def VB:List SV→List Entry→Option Out
 | [.one ⟨false,[.ref 0]⟩,.one ⟨false,[.ref 1]⟩],[.row false 2 (.int .i64) x0,.row false 100 (.pair (.int .i64) (.pair (.int .i64) (.int .i64))) x1]=>some ⟨(.one ⟨true,[(.ref 2),(.ref 3)]⟩),[(.row false 2 asZ x0),(.row false 100 asX x1)],[(.row true 2 asZ (xB x0 x1)),(.row true 2 asZ (CM x0 x1))],[(Iu x0 x1)]⟩
 |_,_=>none
def Oe:PF Tryz.prog:=PF.ofG Tryz.prog [aj,PF.lend aj,PF.fz aj,ZG] [cv.F,cw.F] ar 187 Tryz.f187 Tryz.func187 (LOk.fnT (l:= [ay Tryz.f187 0,ay Tryz.f187 1]) (by kernel_rfl) (.cons Yl (.cons Ym (.nil _)))) VB (by
 intro vs es r h;unfold VB at h;split at h
 ·cases h;kernel_rfl
 ·cases h)
def TR(x0:List Int)(x1:List (Int×Int×Int)):Bool:=bif !c9 (0:Int) (xB x0 x1)then !c9 (0:Int) (CM x0 x1)else false
def TS(x0:List Int)(x1:List (Int×Int×Int)):Bool:=allT [Iu x0 x1,iX (0:Int) (xB x0 x1),!(!c9 (0:Int) (xB x0 x1)&&true)||iX (0:Int) (CM x0 x1)]
def abn:List SV→List Entry→Option Out
 | [.one ⟨false,[.ref 0]⟩,.one ⟨false,[.ref 1]⟩],[.row false 2 (.int .i64) x0,.row false 100 (.pair (.int .i64) (.pair (.int .i64) (.int .i64))) x1]=>some ⟨(.one ⟨false,[(.val (.bool (TR x0 x1)))]⟩),[(.row false 2 asZ x0),(.row false 100 asX x1)],[],[(TS x0 x1)]⟩
 |_,_=>none
def akx:PF Tryz.prog:=PF.ofG Tryz.prog [c8,PF.lend c8,PF.fz c8,Oe,PF.lend Oe,PF.fz Oe] [] ar 103 Tryz.f103 Tryz.func103 (fun c _=>LOk.nil c) abn (by
 intro vs es r h;unfold abn at h;split at h
 ·cases h;kernel_rfl
 ·cases h)
abbrev ee:=Int×Int×Int×List Int
section
variable (y0 y1 y2:Int)(y3:List Int)
def ql:Bool:=ltI y0 y1
def qm:Bool:=leI (0:Int) y0
def qn:Bool:=ltI y0 (↑y3.length:Int)
def qo:Bool:=ltN y0.toNat y3.length
def qp:Int:=IntKind.wrap .i64 (y0 + (1:Int))
def qq:List Int:=List.set y3 y0.toNat y2
end
def Vf:ee→List (Nat×SV)
 |(y0,y1,y2,_)=> [(41,(.one ⟨false,[(.val (.int .i64 y0))]⟩)),(40,(.one ⟨false,[(.val (.int .i64 y1))]⟩)),(0,(.one ⟨false,[(.ref 0)]⟩)),(5,(.one ⟨false,[(.val (.int .i64 y2))]⟩))]
def Va:ee→List (Nat×Entry)
 |(_,_,_,y3)=> [(0,(.row true 2 asZ y3))]
def Vp:Nat→ee→List (Nat×SV)
 |_,(_,_,_,_)=> []
def Vk:Nat→ee→List (Nat×Entry)
 |_,(_,_,_,y3)=> [(0,(.row true 2 asZ y3))]
def pz:ee→LT ee
 |(y0,y1,y2,y3)=> .ite (ql y0 y1) (.need [(qm y0),(qn y0 y3),(qo y0 y3)] (.nrm ((qp y0),y1,y2,(qq y0 y2 y3)) [(0,0)])) (.ext 0 [(0,0)])
def Cp(s:St):Option ee:=
 (match s.look 41 with
 |some ⟨none,(.one ⟨false,[(.val (.int .i64 y0))]⟩)⟩=>
 (match s.look 40 with
 |some ⟨none,(.one ⟨false,[(.val (.int .i64 y1))]⟩)⟩=>
 (match s.look 0 with
 |some ⟨none,(.one ⟨false,[(.ref 0)]⟩)⟩=>
 (match s.look 5 with
 |some ⟨none,(.one ⟨false,[(.val (.int .i64 y2))]⟩)⟩=>
 (match s.ent 0 with
 |some (.row true 2 (.int .i64) y3)=>
 some (y0,y1,y2,y3)
 |_=>none)
 |_=>none)
 |_=>none)
 |_=>none)
 |_=>none)
def aT:Lp ee where
 h:=⟨[42,43,6,44,45,46,47,48,41],[0],[],[]⟩
 JL:=Vf
 JE:=Va
 XL:=Vp
 XE:=Vk
 q:=fun j=>match j with | _=> .exit 1
 tags:= [0]
 lt:=pz
 fuel:=fun(y0,y1,y2,y3)=>y0.natAbs + y1.natAbs + y2.natAbs + y3.length
 fix:=fun(_,y1,y2,_) (y0,_,_,y3)=>(y0,y1,y2,y3)
 σ:= [(0,0)]
 rd:=Cp
theorem Te:LoopOk Tryz.prog (fun k=>Nat.blt k Tryz.f205.ntmps) aT.F (ay Tryz.f205 0):=by
 refine Lp.ok (tbl:= [c8,PF.lend c8,PF.fz c8,zR,PF.lend zR,PF.fz zR]) (lf:= []) ar aT (by kernel_rfl) (LOk.nil _) (fun _=>rfl) (fun _ _=>rfl) ?_ ?_ ?_ ?_ (fun _=>rfl) ?_
 ·intro x;obtain⟨y0,y1,y2,y3⟩:=x;kernel_rfl
 ·intro x;obtain⟨y0,y1,y2,y3⟩:=x;kernel_rfl
 ·intro s x h
  have h:Cp s=some x:=h
  unfold Cp at h
  repeat' split at h
  all_goals cases h
  exact⟨aa (by assumption) rfl (aa (by assumption) rfl (aa (by assumption) rfl (aa (by assumption) rfl (rfl)))),ac rfl (by assumption) rfl (rfl)⟩
 ·intro x;obtain⟨y0,y1,y2,y3⟩:=x;kernel_rfl
 ·intro x z;obtain⟨y0,y1,y2,y3⟩:=x;exact(And.intro rfl trivial)
section
variable (x0 x1:Int)(x2:List Int)
def bE:Bool:=bif x0==(0:Int)then x0==(0:Int)else x0==(1:Int)
def GG:Int:=Option.getD x2[Int.toNat x1]? (0:Int)
def lN:Bool:=GG x1 x2 !=IntKind.wrap .i64 (IntKind.wrap .i64 (x0 - (0:Int)) + (0:Int))
def GH:Int×Int×Int×List Int:=((0:Int),(↑x2.length:Int),(2:Int),x2)
def GI:Int×Int×Int×List Int:=((0:Int),(↑x2.length:Int),(1:Int),x2)
def sU:Bool:= !bE x0||(lN x0 x1 x2||leI (0:Int) x1)
def sV:Bool:= !bE x0||(lN x0 x1 x2||ltI x1 (↑x2.length:Int))
def sW:Bool:= !bE x0||(lN x0 x1 x2||ltN x1.toNat x2.length)
def uw:Bool:=bif bE x0 then bif lN x0 x1 x2 then false else true else bif x0==(2:Int)then bif c9 (0:Int) x2 then false else true else bif !NV x2 then false else true
def ux:List Int:=bif bE x0 then bif lN x0 x1 x2 then x2 else List.set x2 x1.toNat (IntKind.wrap .i64 ((1:Int) - GG x1 x2))else bif x0==(2:Int)then bif c9 (0:Int) x2 then x2 else (Lp.res aT (GH x2)).2.2.2.2else bif !NV x2 then x2 else (Lp.res aT (GI x2)).2.2.2.2
def uy:Bool:=allT [!bE x0||leI (0:Int) x1,!bE x0||ltI x1 (↑x2.length:Int),!bE x0||ltN x1.toNat x2.length,bE x0||(!x0==(2:Int)||iX (0:Int) x2),bE x0||(x0==(2:Int)||leN x2.length (9223372036854775807:Nat)),sU x0 x1 x2,sV x0 x1 x2,sW x0 x1 x2,sU x0 x1 x2,sV x0 x1 x2,sW x0 x1 x2,bE x0||(!x0==(2:Int)||(c9 (0:Int) x2||Lp.fin aT (GH x2))),bE x0||(x0==(2:Int)||(!NV x2||Lp.fin aT (GI x2)))]
end
def Pp:List SV→List Entry→Option Out
 | [.one ⟨false,[.ref 0]⟩,.one ⟨true,[.val (.int .i64 x0),.val (.int .i64 x1)]⟩],[.row true 2 (.int .i64) x2]=>some ⟨(.one ⟨false,[(.val (.bool (uw x0 x1 x2)))]⟩),[(.row true 2 asZ (ux x0 x1 x2))],[],[(uy x0 x1 x2)]⟩
 |_,_=>none
def abe:PF Tryz.prog:=PF.ofG Tryz.prog [c8,PF.lend c8,PF.fz c8,zR,PF.lend zR,PF.fz zR] [aT.F] ar 205 Tryz.f205 Tryz.func205 (LOk.fnT (l:= [ay Tryz.f205 0]) (by kernel_rfl) (.cons Te (.nil _))) Pp (by
 intro vs es r h;unfold Pp at h;split at h
 ·cases h;kernel_rfl
 ·cases h)
section
variable (x0 x1:Int)(x2:Bool)(x3:Int)
def lc:Int×Int×Int×Bool:=Option.getD aiK[Int.toNat x0]? ((0:Int),(0:Int),(0:Int),false)
def ld:Int×Bool:=(lc x0).2.2
def ia:Int:=bif IntKind.wrap .i64 (↑(BitVec.toNat (BitVec.ofInt (IntKind.bits IntKind.i64) (Int.fdiv ((lc x0).1) ((2:Int) ^ min x3.toNat (IntKind.bits IntKind.i64)))&&& BitVec.ofInt (IntKind.bits IntKind.i64) (1:Int))):Int)==(0:Int)then(1:Int)else bif ltI x1 ((ld x0).1)then(2:Int)else bif bif (ld x0).2then !x2 else false then(3:Int)else(0:Int)
def ib:Bool:=allT [leI (0:Int) x0,ltI x0 (↑(List.length aiK):Int),ltN x0.toNat (List.length aiK),leI (0:Int) x3]
end
def sM:List SV→List Entry→Option Out
 | [.one ⟨true,[.val (.int .i64 x0),.val (.int .i64 x1),.val (.bool x2)]⟩,.one ⟨false,[.val (.int .i64 x3)]⟩],[]=>some ⟨(.one ⟨false,[(.val (.int .i64 (ia x0 x1 x2 x3)))]⟩),[],[],[(ib x0 x3)]⟩
 |_,_=>none
def tm:PF Tryz.prog:=PF.ofG Tryz.prog [] [] ar 206 Tryz.f206 Tryz.func206 (fun c _=>LOk.nil c) sM (by
 intro vs es r h;unfold sM at h;split at h
 ·cases h;kernel_rfl
 ·cases h)
def iy(x0 x1:Int):Int:=IntKind.wrap .i64 (x1 + x0)
def zD:List SV→List Entry→Option Out
 | [.one ⟨true,[.val (.int .i64 x0),.val (.int .i64 x1)]⟩],[]=>some ⟨(.one ⟨false,[(.val (.int .i64 (iy x0 x1)))]⟩),[],[],[]⟩
 |_,_=>none
def zF:PF Tryz.prog:=PF.ofG Tryz.prog [] [] ar 239 Tryz.f239 Tryz.func239 (fun c _=>LOk.nil c) zD (by
 intro vs es r h;unfold zD at h;split at h
 ·cases h;kernel_rfl
 ·cases h)
abbrev jD:=Int×Int×Int×List (Int×Int)×List Int
section
variable (y0 y1 y2:Int)(y3:List (Int×Int))(y4:List Int)
def tH:Int×Int:=Option.getD y3[Int.toNat y0]? ((0:Int),(0:Int))
def pH:Bool:=leI (iy ((tH y0 y3).1) ((tH y0 y3).2)) y2
def Au:Bool:=ltI y0 y1
def Av:Bool:=leI (0:Int) y0
def Aw:Bool:=ltI y0 (↑y3.length:Int)
def Ax:Bool:=ltN y0.toNat y3.length
def Ay:Bool:= !pH y0 y2 y3||leN (List.length y4 + List.length [y0]) (9223372036854775807:Nat)
def Az:Bool:= !pH y0 y2 y3||leN ((List.length y4 + List.length [y0]) * (8:Nat)) (140737488355328:Nat)
def AA:Bool:=pH y0 y2 y3
def uY:Int:=IntKind.wrap .i64 (y0 + (1:Int))
def AB:List Int:=y4++ [y0]
end
def adK:jD→List (Nat×SV)
 |(y0,y1,y2,_,_)=> [(10,(.one ⟨false,[(.val (.int .i64 y0))]⟩)),(9,(.one ⟨false,[(.val (.int .i64 y1))]⟩)),(8,(.one ⟨false,[(.ref 0)]⟩)),(1,(.one ⟨false,[(.val (.int .i64 y2))]⟩)),(5,(.one ⟨false,[(.ref 1)]⟩))]
def adB:jD→List (Nat×Entry)
 |(_,_,_,y3,y4)=> [(0,(.row false 173 asY y3)),(1,(.row true 2 asZ y4))]
def ad2:Nat→jD→List (Nat×SV)
 |_,(_,_,_,_,_)=> [(5,(.one ⟨false,[(.ref 1)]⟩))]
def adT:Nat→jD→List (Nat×Entry)
 |_,(_,_,_,y3,y4)=> [(0,(.row false 173 asY y3)),(1,(.row true 2 asZ y4))]
def yZ:jD→LT jD
 |(y0,y1,y2,y3,y4)=> .ite (Au y0 y1) (.need [(Av y0),(Aw y0 y3),(Ax y0 y3)] (.need [(Ay y0 y2 y3 y4),(Az y0 y2 y3 y4)] (.ite (AA y0 y2 y3) (.nrm ((uY y0),y1,y2,y3,(AB y0 y4)) [(0,0),(1,960)]) (.nrm ((uY y0),y1,y2,y3,y4) [(0,0),(1,1)])))) (.ext 0 [(0,0),(1,1)])
def KQ(s:St):Option jD:=
 (match s.look 10 with
 |some ⟨none,(.one ⟨false,[(.val (.int .i64 y0))]⟩)⟩=>
 (match s.look 9 with
 |some ⟨none,(.one ⟨false,[(.val (.int .i64 y1))]⟩)⟩=>
 (match s.look 8 with
 |some ⟨none,(.one ⟨false,[(.ref 0)]⟩)⟩=>
 (match s.look 1 with
 |some ⟨none,(.one ⟨false,[(.val (.int .i64 y2))]⟩)⟩=>
 (match s.look 5 with
 |some ⟨none,(.one ⟨false,[(.ref 192)]⟩)⟩=>
 (match s.ent 0 with
 |some (.row false 173 (.pair (.int .i64) (.int .i64)) y3)=>
 (match s.ent 192 with
 |some (.row true 2 (.int .i64) y4)=>
 some (y0,y1,y2,y3,y4)
 |_=>none)
 |_=>none)
 |_=>none)
 |_=>none)
 |_=>none)
 |_=>none)
 |_=>none)
def eO:Lp jD where
 h:=⟨[11,12,13,14,7,6,15,16,17,18,19,20,21,22,5,23,10],[0],[1],[]⟩
 JL:=adK
 JE:=adB
 XL:=ad2
 XE:=adT
 q:=fun j=>match j with | _=> .exit 0
 tags:= [0]
 lt:=yZ
 fuel:=fun(y0,y1,y2,y3,y4)=>y0.natAbs + y1.natAbs + y2.natAbs + y3.length + y4.length
 fix:=fun(_,y1,y2,y3,_) (y0,_,_,_,y4)=>(y0,y1,y2,y3,y4)
 σ:= [(0,0),(1,192)]
 rd:=KQ
theorem aa6:LoopOk Tryz.prog (fun k=>Nat.blt k Tryz.f234.ntmps) eO.F (ay Tryz.f234 0):=by
 refine Lp.ok (tbl:= [zF]) (lf:= []) ar eO (by kernel_rfl) (LOk.nil _) (fun _=>rfl) (fun _ _=>rfl) ?_ ?_ ?_ ?_ (fun _=>rfl) ?_
 ·intro x;obtain⟨y0,y1,y2,y3,y4⟩:=x;kernel_rfl
 ·intro x;obtain⟨y0,y1,y2,y3,y4⟩:=x;kernel_rfl
 ·intro s x h
  have h:KQ s=some x:=h
  unfold KQ at h
  repeat' split at h
  all_goals cases h
  exact⟨aa (by assumption) rfl (aa (by assumption) rfl (aa (by assumption) rfl (aa (by assumption) rfl (aa (by assumption) rfl (rfl))))),ac rfl (by assumption) rfl (ac rfl (by assumption) rfl (rfl))⟩
 ·intro x;obtain⟨y0,y1,y2,y3,y4⟩:=x;kernel_rfl
 ·intro x z;obtain⟨y0,y1,y2,y3,y4⟩:=x;exact(And.intro (And.intro rfl rfl) trivial)
section
variable (x0:Int)(x1:List (Int×Int))
def Kl:Int×Int×Int×List (Int×Int)×List Int:=((0:Int),(↑x1.length:Int),x0,x1,[])
def LH:List Int:=(Lp.res eO (Kl x0 x1)).2.2.2.2.2
def LJ:Bool:=allT [Lp.fin eO (Kl x0 x1)]
end
def ZV:List SV→List Entry→Option Out
 | [.one ⟨false,[.ref 0]⟩,.one ⟨false,[.val (.int .i64 x0)]⟩],[.row false 173 (.pair (.int .i64) (.int .i64)) x1]=>some ⟨(.one ⟨false,[(.ref 1)]⟩),[(.row false 173 asY x1)],[(.row true 2 asZ (LH x0 x1))],[(LJ x0 x1)]⟩
 |_,_=>none
def Sl:PF Tryz.prog:=PF.ofG Tryz.prog [zF] [eO.F] ar 234 Tryz.f234 Tryz.func234 (LOk.fnT (l:= [ay Tryz.f234 0]) (by kernel_rfl) (.cons aa6 (.nil _))) ZV (by
 intro vs es r h;unfold ZV at h;split at h
 ·cases h;kernel_rfl
 ·cases h)
section
variable (x0:Int)(x1 x2:List (Int×Int))
def Mj:Bool:=(bif bif okPl x1 then okLk x2 else false then vE x0 else false)&&true
def NG:Bool:=bif bif bif bif okPl x1 then okLk x2 else false then vE x0 else false then(↑(List.length (bif Mj x0 x1 x2 then LH x0 x1 else [])):Int)==(0:Int)else false then(↑x2.length:Int)==(0:Int)else false
def NH:Bool:=allT [leN x1.length (9223372036854775807:Nat),!(okPl x1&&true)||leN x2.length (9223372036854775807:Nat),!Mj x0 x1 x2||LJ x0 x1]
end
def Vz:List SV→List Entry→Option Out
 | [.one ⟨false,[.ref 0]⟩,.one ⟨false,[.ref 1]⟩,.one ⟨false,[.val (.int .i64 x0)]⟩],[.row false 173 (.pair (.int .i64) (.int .i64)) x1,.row false 176 (.pair (.int .i64) (.int .i64)) x2]=>some ⟨(.one ⟨false,[(.val (.bool (NG x0 x1 x2)))]⟩),[(.row false 173 asY x1),(.row false 176 asY x2)],[],[(NH x0 x1 x2)]⟩
 |_,_=>none
def ahg:PF Tryz.prog:=PF.ofG Tryz.prog [Sl,PF.lend Sl,PF.fz Sl,vI,PF.lend vI,PF.fz vI,ri,PF.lend ri,PF.fz ri,Oc] [] ar 207 Tryz.f207 Tryz.func207 (fun c _=>LOk.nil c) Vz (by
 intro vs es r h;unfold Vz at h;split at h
 ·cases h;kernel_rfl
 ·cases h)
section
variable (x0 x1:Int)(x2:Bool)(x3:Int)
def fk:Bool:=ia x0 x1 x2 x3==(0:Int)
def nv:Int:=bif fk x0 x1 x2 x3 then ((Option.getD aiK[Int.toNat x0]? ((0:Int),(0:Int),(0:Int),false)).2).1else x3
def nx:Bool:=allT [ib x0 x3,!fk x0 x1 x2 x3||leI (0:Int) x0,!fk x0 x1 x2 x3||ltI x0 (↑(List.length aiK):Int),!fk x0 x1 x2 x3||ltN x0.toNat (List.length aiK)]
end
def vm:List SV→List Entry→Option Out
 | [.one ⟨true,[.val (.int .i64 x0),.val (.int .i64 x1),.val (.bool x2)]⟩,.one ⟨false,[.val (.int .i64 x3)]⟩],[]=>some ⟨(.one ⟨false,[(.val (.int .i64 (nv x0 x1 x2 x3)))]⟩),[],[],[(nx x0 x1 x2 x3)]⟩
 |_,_=>none
def IK:PF Tryz.prog:=PF.ofG Tryz.prog [tm] [] ar 208 Tryz.f208 Tryz.func208 (fun c _=>LOk.nil c) vm (by
 intro vs es r h;unfold vm at h;split at h
 ·cases h;kernel_rfl
 ·cases h)
abbrev iq:=Int×List Int×List Int
section
variable (y0:Int)(y1:List Int)
def nc:List Int:= [IntKind.wrap .i64 (Int.tdiv (Option.getD y1[Int.toNat y0]? (0:Int)) (2:Int))]
def sv:Bool:=ltI y0 (↑y1.length:Int)
def wV:Bool:=leI (0:Int) y0
def wW:Bool:=ltN y0.toNat y1.length
end
def wX:Bool:=neI (2:Int) (0:Int)
section
variable (y0:Int)(y1 y2:List Int)
def wY:Bool:=leN (List.length y2 + List.length (nc y0 y1)) (9223372036854775807:Nat)
def wZ:Bool:=leN ((List.length y2 + List.length (nc y0 y1)) * (8:Nat)) (140737488355328:Nat)
def xa:Int:=IntKind.wrap .i64 (y0 + (1:Int))
def xc:List Int:=y2++nc y0 y1
end
def aaN:iq→List (Nat×SV)
 |(y0,_,_)=> [(8,(.one ⟨false,[(.val (.int .i64 y0))]⟩)),(0,(.one ⟨false,[(.ref 0)]⟩)),(7,(.one ⟨false,[(.ref 1)]⟩))]
def aaF:iq→List (Nat×Entry)
 |(_,y1,y2)=> [(0,(.row false 2 asZ y1)),(1,(.row true 2 asZ y2))]
def aa3:Nat→iq→List (Nat×SV)
 |_,(_,_,_)=> [(7,(.one ⟨false,[(.ref 1)]⟩))]
def aaV:Nat→iq→List (Nat×Entry)
 |_,(_,y1,y2)=> [(0,(.row false 2 asZ y1)),(1,(.row true 2 asZ y2))]
def uO:iq→LT iq
 |(y0,y1,y2)=> .ite (sv y0 y1) (.need [(wV y0),(sv y0 y1),(wW y0 y1),(wX),(wY y0 y1 y2),(wZ y0 y1 y2)] (.nrm ((xa y0),y1,(xc y0 y1 y2)) [(0,0),(1,768)])) (.ext 0 [(0,0),(1,1)])
def Iq(s:St):Option iq:=
 (match s.look 8 with
 |some ⟨none,(.one ⟨false,[(.val (.int .i64 y0))]⟩)⟩=>
 (match s.look 0 with
 |some ⟨none,(.one ⟨false,[(.ref 0)]⟩)⟩=>
 (match s.look 7 with
 |some ⟨none,(.one ⟨false,[(.ref 256)]⟩)⟩=>
 (match s.ent 0 with
 |some (.row false 2 (.int .i64) y1)=>
 (match s.ent 256 with
 |some (.row true 2 (.int .i64) y2)=>
 some (y0,y1,y2)
 |_=>none)
 |_=>none)
 |_=>none)
 |_=>none)
 |_=>none)
def bR:Lp iq where
 h:=⟨[11,12,13,14,17,18,19,20,21,22,23,24,7,15,16,8],[0],[1],[]⟩
 JL:=aaN
 JE:=aaF
 XL:=aa3
 XE:=aaV
 q:=fun j=>match j with | _=> .exit 0
 tags:= [0]
 lt:=uO
 fuel:=fun(y0,y1,y2)=>y0.natAbs + y1.length + y2.length
 fix:=fun(_,y1,_) (y0,_,y2)=>(y0,y1,y2)
 σ:= [(0,0),(1,256)]
 rd:=Iq
theorem Yr:LoopOk Tryz.prog (fun k=>Nat.blt k Tryz.f242.ntmps) bR.F (ay Tryz.f242 0):=by
 refine Lp.ok (tbl:= []) (lf:= []) ar bR (by kernel_rfl) (LOk.nil _) (fun _=>rfl) (fun _ _=>rfl) ?_ ?_ ?_ ?_ (fun _=>rfl) ?_
 ·intro x;obtain⟨y0,y1,y2⟩:=x;kernel_rfl
 ·intro x;obtain⟨y0,y1,y2⟩:=x;kernel_rfl
 ·intro s x h
  have h:Iq s=some x:=h
  unfold Iq at h
  repeat' split at h
  all_goals cases h
  exact⟨aa (by assumption) rfl (aa (by assumption) rfl (aa (by assumption) rfl (rfl))),ac rfl (by assumption) rfl (ac rfl (by assumption) rfl (rfl))⟩
 ·intro x;obtain⟨y0,y1,y2⟩:=x;kernel_rfl
 ·intro x z;obtain⟨y0,y1,y2⟩:=x;exact(And.intro rfl trivial)
abbrev ir:=Int×Int×List (Int×(Int×Int))×List Int
section
variable (y0 y1:Int)(y2:List (Int×(Int×Int)))(y3:List Int)
def gO:Int×Int×Int:=Option.getD y2[Int.toNat y0]? ((0:Int),(0:Int),(0:Int))
def fH:Bool:=((gO y0 y2).2).1==y1
def sw:Bool:=ltI y0 (↑y2.length:Int)
def xf:Bool:=leI (0:Int) y0
def xg:Bool:=ltN y0.toNat y2.length
def sx:Bool:= !fH y0 y1 y2||leI (0:Int) y0
def sy:Bool:= !fH y0 y1 y2||ltI y0 (↑y2.length:Int)
def sz:Bool:= !fH y0 y1 y2||ltN y0.toNat y2.length
def xh:Bool:= !fH y0 y1 y2||leI (0:Int) ((gO y0 y2).1)
def xj:Bool:= !fH y0 y1 y2||ltI ((gO y0 y2).1) (↑y3.length:Int)
def xk:Bool:= !fH y0 y1 y2||ltN (Int.toNat ((gO y0 y2).1)) y3.length
def xl:Int:=IntKind.wrap .i64 (y0 + (1:Int))
def uT:List Int:=bif fH y0 y1 y2 then List.set y3 (Int.toNat ((gO y0 y2).1)) ((gO y0 y2).2.2)else y3
end
def aaO:ir→List (Nat×SV)
 |(y0,y1,_,_)=> [(9,(.one ⟨false,[(.val (.int .i64 y0))]⟩)),(1,(.one ⟨false,[(.ref 0)]⟩)),(2,(.one ⟨false,[(.val (.int .i64 y1))]⟩)),(7,(.one ⟨false,[(.ref 1)]⟩))]
def aaG:ir→List (Nat×Entry)
 |(_,_,y2,y3)=> [(0,(.row false 100 asX y2)),(1,(.row true 2 asZ y3))]
def aa4:Nat→ir→List (Nat×SV)
 |_,(_,_,_,_)=> []
def aaW:Nat→ir→List (Nat×Entry)
 |_,(_,_,y2,y3)=> [(0,(.row false 100 asX y2)),(1,(.row true 2 asZ y3))]
def uP:ir→LT ir
 |(y0,y1,y2,y3)=> .ite (sw y0 y2) (.need [(xf y0),(sw y0 y2),(xg y0 y2)] (.need [(sx y0 y1 y2),(sy y0 y1 y2),(sz y0 y1 y2),(sx y0 y1 y2),(sy y0 y1 y2),(sz y0 y1 y2),(xh y0 y1 y2),(xj y0 y1 y2 y3),(xk y0 y1 y2 y3)] (.nrm ((xl y0),y1,y2,(uT y0 y1 y2 y3)) [(0,0),(1,1)]))) (.ext 0 [(0,0),(1,1)])
def Ir(s:St):Option ir:=
 (match s.look 9 with
 |some ⟨none,(.one ⟨false,[(.val (.int .i64 y0))]⟩)⟩=>
 (match s.look 1 with
 |some ⟨none,(.one ⟨false,[(.ref 1)]⟩)⟩=>
 (match s.look 2 with
 |some ⟨none,(.one ⟨false,[(.val (.int .i64 y1))]⟩)⟩=>
 (match s.look 7 with
 |some ⟨none,(.one ⟨false,[(.ref 448)]⟩)⟩=>
 (match s.ent 1 with
 |some (.row false 100 (.pair (.int .i64) (.pair (.int .i64) (.int .i64))) y2)=>
 (match s.ent 448 with
 |some (.row true 2 (.int .i64) y3)=>
 some (y0,y1,y2,y3)
 |_=>none)
 |_=>none)
 |_=>none)
 |_=>none)
 |_=>none)
 |_=>none)
def cA:Lp ir where
 h:=⟨[25,26,27,28,31,32,33,34,35,36,37,38,39,40,41,42,43,44,45,46,47,48,49,29,30,9],[0,1],[],[]⟩
 JL:=aaO
 JE:=aaG
 XL:=aa4
 XE:=aaW
 q:=fun j=>match j with | _=> .exit 2
 tags:= [0]
 lt:=uP
 fuel:=fun(y0,y1,y2,y3)=>y0.natAbs + y1.natAbs + y2.length + y3.length
 fix:=fun(_,y1,y2,_) (y0,_,_,y3)=>(y0,y1,y2,y3)
 σ:= [(0,1),(1,448)]
 rd:=Ir
theorem Ys:LoopOk Tryz.prog (fun k=>Nat.blt k Tryz.f242.ntmps) cA.F (ay Tryz.f242 1):=by
 refine Lp.ok (tbl:= []) (lf:= []) ar cA (by kernel_rfl) (LOk.nil _) (fun _=>rfl) (fun _ _=>rfl) ?_ ?_ ?_ ?_ (fun _=>rfl) ?_
 ·intro x;obtain⟨y0,y1,y2,y3⟩:=x;kernel_rfl
 ·intro x;obtain⟨y0,y1,y2,y3⟩:=x;kernel_rfl
 ·intro s x h
  have h:Ir s=some x:=h
  unfold Ir at h
  repeat' split at h
  all_goals cases h
  exact⟨aa (by assumption) rfl (aa (by assumption) rfl (aa (by assumption) rfl (aa (by assumption) rfl (rfl)))),ac rfl (by assumption) rfl (ac rfl (by assumption) rfl (rfl))⟩
 ·intro x;obtain⟨y0,y1,y2,y3⟩:=x;kernel_rfl
 ·intro x z;obtain⟨y0,y1,y2,y3⟩:=x;exact(And.intro rfl trivial)
section
variable (x0:Int)(x1:List Int)(x2:List (Int×Int×Int))
def BM:Int×List Int×List Int:=((0:Int),x1,[])
def BN:Int×Int×List (Int×Int×Int)×List Int:=((0:Int),x0,x2,(Lp.res bR (BM x1)).2.2.2)
def DK:List Int:=(Lp.res cA (BN x0 x1 x2)).2.2.2.2
def DL:Bool:=allT [Lp.fin bR (BM x1),Lp.fin cA (BN x0 x1 x2)]
end
def VK:List SV→List Entry→Option Out
 | [.one ⟨false,[.ref 0]⟩,.one ⟨false,[.ref 1]⟩,.one ⟨false,[.val (.int .i64 x0)]⟩],[.row false 2 (.int .i64) x1,.row false 100 (.pair (.int .i64) (.pair (.int .i64) (.int .i64))) x2]=>some ⟨(.one ⟨false,[(.ref 2)]⟩),[(.row false 2 asZ x1),(.row false 100 asX x2)],[(.row true 2 asZ (DK x0 x1 x2))],[(DL x0 x1 x2)]⟩
 |_,_=>none
def Oi:PF Tryz.prog:=PF.ofG Tryz.prog [] [bR.F,cA.F] ar 242 Tryz.f242 Tryz.func242 (LOk.fnT (l:= [ay Tryz.f242 0,ay Tryz.f242 1]) (by kernel_rfl) (.cons Yr (.cons Ys (.nil _)))) VK (by
 intro vs es r h;unfold VK at h;split at h
 ·cases h;kernel_rfl
 ·cases h)
section
variable (x0:List Int)(x1:List (Int×Int×Int))
def DF:Int:=bif !areR x0 then(1:Int)else bif !lfOk (↑x0.length:Int) x1 then(2:Int)else(0:Int)
def DG:List Int:=bif !areR x0 then []else bif !lfOk (↑x0.length:Int) x1 then []else DK (0:Int) x0 x1
def DH:List Int:=bif !areR x0 then []else bif !lfOk (↑x0.length:Int) x1 then []else DK (1:Int) x0 x1
def IE:Bool:=allT [leN x0.length (9223372036854775807:Nat),!areR x0||leN x1.length (9223372036854775807:Nat),!areR x0||(!lfOk (↑x0.length:Int) x1||DL (0:Int) x0 x1),!areR x0||(!lfOk (↑x0.length:Int) x1||DL (1:Int) x0 x1)]
end
def VG:List SV→List Entry→Option Out
 | [.one ⟨false,[.ref 0]⟩,.one ⟨false,[.ref 1]⟩],[.row false 2 (.int .i64) x0,.row false 100 (.pair (.int .i64) (.pair (.int .i64) (.int .i64))) x1]=>some ⟨(.tup [⟨true,[(.ref 2),(.ref 3)]⟩,⟨false,[(.val (.int .i64 (DF x0 x1)))]⟩]),[(.row false 2 asZ x0),(.row false 100 asX x1)],[(.row true 2 asZ (DG x0 x1)),(.row true 2 asZ (DH x0 x1))],[(IE x0 x1)]⟩
 |_,_=>none
def Og:PF Tryz.prog:=PF.ofG Tryz.prog [Oi,PF.lend Oi,PF.fz Oi,jz,PF.lend jz,PF.fz jz,jy,PF.lend jy,PF.fz jy] [] ar 236 Tryz.f236 Tryz.func236 (fun c _=>LOk.nil c) VG (by
 intro vs es r h;unfold VG at h;split at h
 ·cases h;kernel_rfl
 ·cases h)
abbrev mh:=Int×Int×List Int
section
variable (y0 y1:Int)(y2:List Int)
def zZ:Bool:=ltI y0 (↑y2.length:Int)
def FM:Bool:=leI (0:Int) y0
def FN:Bool:=ltN y0.toNat y2.length
def FO:Int:=IntKind.wrap .i64 (y0 + (1:Int))
def FP:Int:=IntKind.wrap .i64 (y1 + Option.getD y2[Int.toNat y0]? (0:Int))
end
def ags:mh→List (Nat×SV)
 |(y0,y1,_)=> [(4,(.one ⟨false,[(.val (.int .i64 y0))]⟩)),(0,(.one ⟨false,[(.ref 0)]⟩)),(3,(.one ⟨false,[(.val (.int .i64 y1))]⟩))]
def agl:mh→List (Nat×Entry)
 |(_,_,y2)=> [(0,(.row false 2 asZ y2))]
def agG:Nat→mh→List (Nat×SV)
 |_,(_,y1,_)=> [(3,(.one ⟨false,[(.val (.int .i64 y1))]⟩))]
def agz:Nat→mh→List (Nat×Entry)
 |_,(_,_,y2)=> [(0,(.row false 2 asZ y2))]
def Dx:mh→LT mh
 |(y0,y1,y2)=> .ite (zZ y0 y2) (.need [(FM y0),(zZ y0 y2),(FN y0 y2)] (.nrm ((FO y0),(FP y0 y1 y2),y2) [(0,0)])) (.ext 0 [(0,0)])
def Ou(s:St):Option mh:=
 (match s.look 4 with
 |some ⟨none,(.one ⟨false,[(.val (.int .i64 y0))]⟩)⟩=>
 (match s.look 0 with
 |some ⟨none,(.one ⟨false,[(.ref 0)]⟩)⟩=>
 (match s.look 3 with
 |some ⟨none,(.one ⟨false,[(.val (.int .i64 y1))]⟩)⟩=>
 (match s.ent 0 with
 |some (.row false 2 (.int .i64) y2)=>
 some (y0,y1,y2)
 |_=>none)
 |_=>none)
 |_=>none)
 |_=>none)
def gB:Lp mh where
 h:=⟨[5,6,7,8,11,12,13,14,15,16,3,9,10,4],[0],[],[]⟩
 JL:=ags
 JE:=agl
 XL:=agG
 XE:=agz
 q:=fun j=>match j with | _=> .exit 0
 tags:= [0]
 lt:=Dx
 fuel:=fun(y0,y1,y2)=>y0.natAbs + y1.natAbs + y2.length
 fix:=fun(_,_,y2) (y0,y1,_)=>(y0,y1,y2)
 σ:= [(0,0)]
 rd:=Ou
theorem aef:LoopOk Tryz.prog (fun k=>Nat.blt k Tryz.f237.ntmps) gB.F (ay Tryz.f237 0):=by
 refine Lp.ok (tbl:= []) (lf:= []) ar gB (by kernel_rfl) (LOk.nil _) (fun _=>rfl) (fun _ _=>rfl) ?_ ?_ ?_ ?_ (fun _=>rfl) ?_
 ·intro x;obtain⟨y0,y1,y2⟩:=x;kernel_rfl
 ·intro x;obtain⟨y0,y1,y2⟩:=x;kernel_rfl
 ·intro s x h
  have h:Ou s=some x:=h
  unfold Ou at h
  repeat' split at h
  all_goals cases h
  exact⟨aa (by assumption) rfl (aa (by assumption) rfl (aa (by assumption) rfl (rfl))),ac rfl (by assumption) rfl (rfl)⟩
 ·intro x;obtain⟨y0,y1,y2⟩:=x;kernel_rfl
 ·intro x z;obtain⟨y0,y1,y2⟩:=x;exact(And.intro rfl trivial)
section
variable (x0:List Int)
def OC:Int×Int×List Int:=((0:Int),(0:Int),x0)
def Lr:Int:=((Lp.res gB (OC x0)).2.2).1
def Lt:Bool:=allT [Lp.fin gB (OC x0)]
end
def aeJ:List SV→List Entry→Option Out
 | [.one ⟨false,[.ref 0]⟩],[.row false 2 (.int .i64) x0]=>some ⟨(.one ⟨false,[(.val (.int .i64 (Lr x0)))]⟩),[(.row false 2 asZ x0)],[],[(Lt x0)]⟩
 |_,_=>none
def WF:PF Tryz.prog:=PF.ofG Tryz.prog [] [gB.F] ar 237 Tryz.f237 Tryz.func237 (LOk.fnT (l:= [ay Tryz.f237 0]) (by kernel_rfl) (.cons aef (.nil _))) aeJ (by
 intro vs es r h;unfold aeJ at h;split at h
 ·cases h;kernel_rfl
 ·cases h)
section
variable (x0:List Int)(x1:List (Int×Int×Int))
def Cw:Bool:=DF x0 x1 !=(0:Int)
def UE:Bool:=bif Cw x0 x1 then false else IntKind.wrap .i64 (Lr (DG x0 x1) + Lr (DH x0 x1))==IntKind.wrap .i64 ((2:Int) * (↑x0.length:Int))
def UF:Int:=bif Cw x0 x1 then DF x0 x1 else(0:Int)
def UG:Bool:=allT [IE x0 x1,Cw x0 x1||Lt (DG x0 x1),Cw x0 x1||Lt (DH x0 x1)]
end
def abu:List SV→List Entry→Option Out
 | [.one ⟨false,[.ref 0]⟩,.one ⟨false,[.ref 1]⟩],[.row false 2 (.int .i64) x0,.row false 100 (.pair (.int .i64) (.pair (.int .i64) (.int .i64))) x1]=>some ⟨(.tup [⟨false,[(.val (.bool (UE x0 x1)))]⟩,⟨false,[(.val (.int .i64 (UF x0 x1)))]⟩]),[(.row false 2 asZ x0),(.row false 100 asX x1)],[],[(UG x0 x1)]⟩
 |_,_=>none
def akC:PF Tryz.prog:=PF.ofG Tryz.prog [Og,PF.lend Og,PF.fz Og,WF,PF.lend WF,PF.fz WF] [] ar 220 Tryz.f220 Tryz.func220 (fun c _=>LOk.nil c) abu (by
 intro vs es r h;unfold abu at h;split at h
 ·cases h;kernel_rfl
 ·cases h)
abbrev kV:=Int×Int×List Int×List Int
section
variable (y0 y1:Int)(y2 y3:List Int)
def DM:Bool:=ltI y0 (↑y2.length:Int)
def DN:Bool:=leN (List.length y3 + List.length [y1]) (9223372036854775807:Nat)
def DO:Bool:=leN ((List.length y3 + List.length [y1]) * (8:Nat)) (140737488355328:Nat)
def DP:Int:=IntKind.wrap .i64 (y0 + (1:Int))
def DQ:List Int:=y3++ [y1]
end
def afm:kV→List (Nat×SV)
 |(y0,y1,_,_)=> [(6,(.one ⟨false,[(.val (.int .i64 y0))]⟩)),(0,(.one ⟨false,[(.ref 0)]⟩)),(5,(.one ⟨false,[(.ref 1)]⟩)),(1,(.one ⟨false,[(.val (.int .i64 y1))]⟩))]
def aff:kV→List (Nat×Entry)
 |(_,_,y2,y3)=> [(0,(.row false 2 asZ y2)),(1,(.row true 2 asZ y3))]
def afA:Nat→kV→List (Nat×SV)
 |_,(_,_,_,_)=> [(5,(.one ⟨false,[(.ref 1)]⟩))]
def aft:Nat→kV→List (Nat×Entry)
 |_,(_,_,y2,y3)=> [(0,(.row false 2 asZ y2)),(1,(.row true 2 asZ y3))]
def Bu:kV→LT kV
 |(y0,y1,y2,y3)=> .ite (DM y0 y2) (.need [(DN y1 y3),(DO y1 y3)] (.nrm ((DP y0),y1,y2,(DQ y1 y3)) [(0,0),(1,512)])) (.ext 0 [(0,0),(1,1)])
def MI(s:St):Option kV:=
 (match s.look 6 with
 |some ⟨none,(.one ⟨false,[(.val (.int .i64 y0))]⟩)⟩=>
 (match s.look 0 with
 |some ⟨none,(.one ⟨false,[(.ref 0)]⟩)⟩=>
 (match s.look 5 with
 |some ⟨none,(.one ⟨false,[(.ref 192)]⟩)⟩=>
 (match s.look 1 with
 |some ⟨none,(.one ⟨false,[(.val (.int .i64 y1))]⟩)⟩=>
 (match s.ent 0 with
 |some (.row false 2 (.int .i64) y2)=>
 (match s.ent 192 with
 |some (.row true 2 (.int .i64) y3)=>
 some (y0,y1,y2,y3)
 |_=>none)
 |_=>none)
 |_=>none)
 |_=>none)
 |_=>none)
 |_=>none)
def fT:Lp kV where
 h:=⟨[8,9,10,11,14,15,16,17,5,12,13,6],[0],[1],[]⟩
 JL:=afm
 JE:=aff
 XL:=afA
 XE:=aft
 q:=fun j=>match j with | _=> .exit 0
 tags:= [0]
 lt:=Bu
 fuel:=fun(y0,y1,y2,y3)=>y0.natAbs + y1.natAbs + y2.length + y3.length
 fix:=fun(_,y1,y2,_) (y0,_,_,y3)=>(y0,y1,y2,y3)
 σ:= [(0,0),(1,192)]
 rd:=MI
theorem acW:LoopOk Tryz.prog (fun k=>Nat.blt k Tryz.f223.ntmps) fT.F (ay Tryz.f223 0):=by
 refine Lp.ok (tbl:= []) (lf:= []) ar fT (by kernel_rfl) (LOk.nil _) (fun _=>rfl) (fun _ _=>rfl) ?_ ?_ ?_ ?_ (fun _=>rfl) ?_
 ·intro x;obtain⟨y0,y1,y2,y3⟩:=x;kernel_rfl
 ·intro x;obtain⟨y0,y1,y2,y3⟩:=x;kernel_rfl
 ·intro s x h
  have h:MI s=some x:=h
  unfold MI at h
  repeat' split at h
  all_goals cases h
  exact⟨aa (by assumption) rfl (aa (by assumption) rfl (aa (by assumption) rfl (aa (by assumption) rfl (rfl)))),ac rfl (by assumption) rfl (ac rfl (by assumption) rfl (rfl))⟩
 ·intro x;obtain⟨y0,y1,y2,y3⟩:=x;kernel_rfl
 ·intro x z;obtain⟨y0,y1,y2,y3⟩:=x;exact(And.intro rfl trivial)
section
variable (x0:Int)(x1:List Int)
def Mb:Int×Int×List Int×List Int:=((0:Int),x0,x1,[])
def JX:List Int:=(Lp.res fT (Mb x0 x1)).2.2.2.2
def JY:Bool:=allT [Lp.fin fT (Mb x0 x1)]
end
def abx:List SV→List Entry→Option Out
 | [.one ⟨false,[.ref 0]⟩,.one ⟨false,[.val (.int .i64 x0)]⟩],[.row false 2 (.int .i64) x1]=>some ⟨(.one ⟨false,[(.ref 1)]⟩),[(.row false 2 asZ x1)],[(.row true 2 asZ (JX x0 x1))],[(JY x0 x1)]⟩
 |_,_=>none
def Ur:PF Tryz.prog:=PF.ofG Tryz.prog [] [fT.F] ar 223 Tryz.f223 Tryz.func223 (LOk.fnT (l:= [ay Tryz.f223 0]) (by kernel_rfl) (.cons acW (.nil _))) abx (by
 intro vs es r h;unfold abx at h;split at h
 ·cases h;kernel_rfl
 ·cases h)
section
variable (x0 x1:Int)(x2:List Int)
def z6:Int:=Option.getD x2[Int.toNat x1]? (0:Int)
def z7:Bool:= !x0==(0:Int)||leI (0:Int) x1
def z8:Bool:= !x0==(0:Int)||ltI x1 (↑x2.length:Int)
def Aa:Bool:= !x0==(0:Int)||ltN x1.toNat x2.length
def Ab:Bool:=x0==(0:Int)||(!x0==(1:Int)||leI (0:Int) x1)
def Ac:Bool:=x0==(0:Int)||(!x0==(1:Int)||ltI x1 (↑x2.length:Int))
def Ad:Bool:=x0==(0:Int)||(!x0==(1:Int)||ltN x1.toNat x2.length)
def Cx:Bool:=bif x0==(0:Int)then z6 x1 x2==(0:Int)else bif x0==(1:Int)then z6 x1 x2==(1:Int)else bif x0==(2:Int)then leI (1:Int) (xZ x2)else xZ x2==(2:Int)
def Cy:List Int:=bif x0==(0:Int)then List.set x2 x1.toNat (1:Int)else bif x0==(1:Int)then List.set x2 x1.toNat (0:Int)else bif x0==(2:Int)then JX (2:Int) x2 else JX (1:Int) x2
def Cz:Bool:=allT [leN x2.length (1048576:Nat),z7 x0 x1,z8 x0 x1 x2,Aa x0 x1 x2,z7 x0 x1,z8 x0 x1 x2,Aa x0 x1 x2,Ab x0 x1,Ac x0 x1 x2,Ad x0 x1 x2,Ab x0 x1,Ac x0 x1 x2,Ad x0 x1 x2,x0==(0:Int)||(x0==(1:Int)||(!x0==(2:Int)||JY (2:Int) x2)),x0==(0:Int)||(x0==(1:Int)||(!x0==(2:Int)||Hy x2)),x0==(0:Int)||(x0==(1:Int)||(x0==(2:Int)||JY (1:Int) x2)),x0==(0:Int)||(x0==(1:Int)||(x0==(2:Int)||Hy x2))]
end
def aaf:List SV→List Entry→Option Out
 | [.one ⟨false,[.ref 0]⟩,.one ⟨true,[.val (.int .i64 x0),.val (.int .i64 x1)]⟩],[.row false 2 (.int .i64) x2]=>some ⟨(.tup [⟨false,[(.ref 1)]⟩,⟨false,[(.val (.bool (Cx x0 x1 x2)))]⟩]),[(.row false 2 asZ x2)],[(.row true 2 asZ (Cy x0 x1 x2))],[(Cz x0 x1 x2)]⟩
 |_,_=>none
def ajG:PF Tryz.prog:=PF.ofG Tryz.prog [Sm,PF.lend Sm,PF.fz Sm,pg,PF.lend pg,PF.fz pg,Ur,PF.lend Ur,PF.fz Ur] [] ar 179 Tryz.f179 Tryz.func179 (fun c _=>LOk.nil c) aaf (by
 intro vs es r h;unfold aaf at h;split at h
 ·cases h;kernel_rfl
 ·cases h)
abbrev mg:=Int×Int×List Int
section
variable (y0 y1:Int)(y2:List Int)
def zY:Bool:=ltI y0 (↑y2.length:Int)
def FI:Bool:=leI (0:Int) y0
def FJ:Bool:=ltN y0.toNat y2.length
def FK:Bool:=Option.getD y2[Int.toNat y0]? (0:Int)==y1
def FL:Int:=IntKind.wrap .i64 (y0 + (1:Int))
end
def agr:mg→List (Nat×SV)
 |(y0,y1,_)=> [(5,(.one ⟨false,[(.val (.int .i64 y0))]⟩)),(0,(.one ⟨false,[(.ref 0)]⟩)),(1,(.one ⟨false,[(.val (.int .i64 y1))]⟩))]
def agk:mg→List (Nat×Entry)
 |(_,_,y2)=> [(0,(.row false 2 asZ y2))]
def agF:Nat→mg→List (Nat×SV)
 |0,(_,_,_)=> [(4,(.one ⟨false,[(.val (.bool true))]⟩))]
 |_,(_,_,_)=> []
def agy:Nat→mg→List (Nat×Entry)
 |0,(_,_,y2)=> [(0,(.row false 2 asZ y2))]
 |_,(_,_,y2)=> [(0,(.row false 2 asZ y2))]
def Dw:mg→LT mg
 |(y0,y1,y2)=> .ite (zY y0 y2) (.need [(FI y0),(zY y0 y2),(FJ y0 y2)] (.ite (FK y0 y1 y2) (.ext 0 [(0,0)]) (.nrm ((FL y0),y1,y2) [(0,0)]))) (.ext 1 [(0,0)])
def Ot(s:St):Option mg:=
 (match s.look 5 with
 |some ⟨none,(.one ⟨false,[(.val (.int .i64 y0))]⟩)⟩=>
 (match s.look 0 with
 |some ⟨none,(.one ⟨false,[(.ref 0)]⟩)⟩=>
 (match s.look 1 with
 |some ⟨none,(.one ⟨false,[(.val (.int .i64 y1))]⟩)⟩=>
 (match s.ent 0 with
 |some (.row false 2 (.int .i64) y2)=>
 some (y0,y1,y2)
 |_=>none)
 |_=>none)
 |_=>none)
 |_=>none)
def fN:Lp mg where
 h:=⟨[6,7,8,9,12,13,14,15,16,17,4,10,11,5],[0],[],[]⟩
 JL:=agr
 JE:=agk
 XL:=agF
 XE:=agy
 q:=fun j=>match j with | 0=> .ret | _=> .exit 0
 tags:= [0,1]
 lt:=Dw
 fuel:=fun(y0,y1,y2)=>y0.natAbs + y1.natAbs + y2.length
 fix:=fun(_,y1,y2) (y0,_,_)=>(y0,y1,y2)
 σ:= [(0,0)]
 rd:=Ot
theorem aee:LoopOk Tryz.prog (fun k=>Nat.blt k Tryz.f224.ntmps) fN.F (ay Tryz.f224 0):=by
 refine Lp.ok (tbl:= []) (lf:= []) ar fN (by kernel_rfl) (LOk.nil _) (fun _=>rfl) (fun j _=>by unfold fN;match j with | 0=>rfl | _ + 1=>rfl) ?_ ?_ ?_ ?_ (fun _=>rfl) ?_
 ·intro x;obtain⟨y0,y1,y2⟩:=x;kernel_rfl
 ·intro x;obtain⟨y0,y1,y2⟩:=x;kernel_rfl
 ·intro s x h
  have h:Ot s=some x:=h
  unfold Ot at h
  repeat' split at h
  all_goals cases h
  exact⟨aa (by assumption) rfl (aa (by assumption) rfl (aa (by assumption) rfl (rfl))),ac rfl (by assumption) rfl (rfl)⟩
 ·intro x;obtain⟨y0,y1,y2⟩:=x;kernel_rfl
 ·intro x z;obtain⟨y0,y1,y2⟩:=x;exact(And.intro (And.intro trivial rfl) trivial)
section
variable (x0:Int)(x1:List Int)
def UJ:Int×Int×List Int:=((0:Int),x0,x1)
def QR:Bool:=bif Nat.beq ((Lp.res fN (UJ x0 x1)).1) (0:Nat)then true else false
def QS:Bool:=allT [Lp.fin fN (UJ x0 x1)]
end
def aeH:List SV→List Entry→Option Out
 | [.one ⟨false,[.ref 0]⟩,.one ⟨false,[.val (.int .i64 x0)]⟩],[.row false 2 (.int .i64) x1]=>some ⟨(.one ⟨false,[(.val (.bool (QR x0 x1)))]⟩),[(.row false 2 asZ x1)],[],[(QS x0 x1)]⟩
 |_,_=>none
def WE:PF Tryz.prog:=PF.ofG Tryz.prog [] [fN.F] ar 224 Tryz.f224 Tryz.func224 (LOk.fnT (l:= [ay Tryz.f224 0]) (by kernel_rfl) (.cons aee (.nil _))) aeH (by
 intro vs es r h;unfold aeH at h;split at h
 ·cases h;kernel_rfl
 ·cases h)
def JZ(x0:Int):List Int:=bif x0==(0:Int)then [(0:Int)]else bif x0==(2:Int)then [(3:Int)]else bif x0==(3:Int)then [(1:Int),(2:Int),(3:Int),(4:Int),(5:Int)]else bif bif x0==(4:Int)then x0==(4:Int)else x0==(5:Int)then [(4:Int)]else bif x0==(6:Int)then [(5:Int)]else bif x0==(7:Int)then [(0:Int),(2:Int)]else bif x0==(8:Int)then [(1:Int)]else [(2:Int)]
def abz:List SV→List Entry→Option Out
 | [.one ⟨false,[.val (.int .i64 x0)]⟩],[]=>some ⟨(.one ⟨false,[(.ref 0)]⟩),[],[(.row true 2 asZ (JZ x0))],[]⟩
 |_,_=>none
def akG:PF Tryz.prog:=PF.ofG Tryz.prog [] [] ar 225 Tryz.f225 Tryz.func225 (fun c _=>LOk.nil c) abz (by
 intro vs es r h;unfold abz at h;split at h
 ·cases h;kernel_rfl
 ·cases h)
def Mc(x0:Int):Int:=bif x0==(3:Int)then(0:Int)else bif bif x0==(4:Int)then x0==(4:Int)else bif x0==(7:Int)then x0==(7:Int)else x0==(8:Int)then(2:Int)else bif bif x0==(5:Int)then x0==(5:Int)else x0==(6:Int)then(3:Int)else(1:Int)
def aah:List SV→List Entry→Option Out
 | [.one ⟨false,[.val (.int .i64 x0)]⟩],[]=>some ⟨(.one ⟨false,[(.val (.int .i64 (Mc x0)))]⟩),[],[],[]⟩
 |_,_=>none
def ajH:PF Tryz.prog:=PF.ofG Tryz.prog [] [] ar 226 Tryz.f226 Tryz.func226 (fun c _=>LOk.nil c) aah (by
 intro vs es r h;unfold aah at h;split at h
 ·cases h;kernel_rfl
 ·cases h)
def QT(x0:Int):Bool:=bif bif bif x0==(0:Int)then true else x0==(4:Int)then true else x0==(7:Int)then true else x0==(8:Int)
def aeK:List SV→List Entry→Option Out
 | [.one ⟨false,[.val (.int .i64 x0)]⟩],[]=>some ⟨(.one ⟨false,[(.val (.bool (QT x0)))]⟩),[],[],[]⟩
 |_,_=>none
def alj:PF Tryz.prog:=PF.ofG Tryz.prog [] [] ar 227 Tryz.f227 Tryz.func227 (fun c _=>LOk.nil c) aeK (by
 intro vs es r h;unfold aeK at h;split at h
 ·cases h;kernel_rfl
 ·cases h)
def IF(x0 x1 x2:Int)(x3:Bool):Int:=bif !QR x0 (JZ x1)then(1:Int)else bif ltI x2 (Mc x1)then(2:Int)else bif bif QT x1 then !x3 else false then(3:Int)else(0:Int)
def IG(x0 x1:Int):Bool:=allT [QS x0 (JZ x1)]
def VL:List SV→List Entry→Option Out
 | [.one ⟨false,[.val (.int .i64 x0)]⟩,.one ⟨true,[.val (.int .i64 x1),.val (.int .i64 x2),.val (.bool x3)]⟩],[]=>some ⟨(.one ⟨false,[(.val (.int .i64 (IF x0 x1 x2 x3)))]⟩),[],[],[(IG x0 x1)]⟩
 |_,_=>none
def VX:PF Tryz.prog:=PF.ofG Tryz.prog [WE,PF.lend WE,PF.fz WE,akG,ajH,alj] [] ar 180 Tryz.f180 Tryz.func180 (fun c _=>LOk.nil c) VL (by
 intro vs es r h;unfold VL at h;split at h
 ·cases h;kernel_rfl
 ·cases h)
def UP(x0:Int)(x1:List (Int×Int)):Int:=bif !okPl x1 then(1:Int)else bif !aI x0 (0:Int) (100000:Int)then(2:Int)else(0:Int)
def UQ(x1:List (Int×Int)):Bool:=allT [leN x1.length (9223372036854775807:Nat)]
def abD:List SV→List Entry→Option Out
 | [.one ⟨false,[.ref 0]⟩,.one ⟨false,[.val (.int .i64 x0)]⟩],[.row false 173 (.pair (.int .i64) (.int .i64)) x1]=>some ⟨(.one ⟨false,[(.val (.int .i64 (UP x0 x1)))]⟩),[(.row false 173 asY x1)],[],[(UQ x1)]⟩
 |_,_=>none
def Us:PF Tryz.prog:=PF.ofG Tryz.prog [fg,vJ,PF.lend vJ,PF.fz vJ] [] ar 228 Tryz.f228 Tryz.func228 (fun c _=>LOk.nil c) abD (by
 intro vs es r h;unfold abD at h;split at h
 ·cases h;kernel_rfl
 ·cases h)
abbrev mi:=Int×Int×List (Int×Int)×List Int
section
variable (y0 y1:Int)(y2:List (Int×Int))(y3:List Int)
def xP:Int×Int:=Option.getD y2[Int.toNat y0]? ((0:Int),(0:Int))
def tC:Bool:=leI (IntKind.wrap .i64 ((xP y0 y2).2 + (xP y0 y2).1)) y1
def vl:Bool:=ltI y0 (↑y2.length:Int)
def Ae:Bool:=leI (0:Int) y0
def Af:Bool:=ltN y0.toNat y2.length
def FR:Bool:= !tC y0 y1 y2||leN (List.length y3 + List.length [y0]) (9223372036854775807:Nat)
def FS:Bool:= !tC y0 y1 y2||leN ((List.length y3 + List.length [y0]) * (8:Nat)) (140737488355328:Nat)
def FT:Bool:=tC y0 y1 y2
def Ag:Int:=IntKind.wrap .i64 (y0 + (1:Int))
def FU:List Int:=y3++ [y0]
end
def agt:mi→List (Nat×SV)
 |(y0,y1,_,_)=> [(6,(.one ⟨false,[(.val (.int .i64 y0))]⟩)),(0,(.one ⟨false,[(.ref 0)]⟩)),(1,(.one ⟨false,[(.val (.int .i64 y1))]⟩)),(5,(.one ⟨false,[(.ref 1)]⟩))]
def agm:mi→List (Nat×Entry)
 |(_,_,y2,y3)=> [(0,(.row false 173 asY y2)),(1,(.row true 2 asZ y3))]
def agH:Nat→mi→List (Nat×SV)
 |_,(_,_,_,_)=> [(5,(.one ⟨false,[(.ref 1)]⟩))]
def agA:Nat→mi→List (Nat×Entry)
 |_,(_,_,y2,y3)=> [(0,(.row false 173 asY y2)),(1,(.row true 2 asZ y3))]
def Dy:mi→LT mi
 |(y0,y1,y2,y3)=> .ite (vl y0 y2) (.need [(Ae y0),(vl y0 y2),(Af y0 y2),(Ae y0),(vl y0 y2),(Af y0 y2)] (.need [(FR y0 y1 y2 y3),(FS y0 y1 y2 y3)] (.ite (FT y0 y1 y2) (.nrm ((Ag y0),y1,y2,(FU y0 y3)) [(0,0),(1,1344)]) (.nrm ((Ag y0),y1,y2,y3) [(0,0),(1,1)])))) (.ext 0 [(0,0),(1,1)])
def Ov(s:St):Option mi:=
 (match s.look 6 with
 |some ⟨none,(.one ⟨false,[(.val (.int .i64 y0))]⟩)⟩=>
 (match s.look 0 with
 |some ⟨none,(.one ⟨false,[(.ref 0)]⟩)⟩=>
 (match s.look 1 with
 |some ⟨none,(.one ⟨false,[(.val (.int .i64 y1))]⟩)⟩=>
 (match s.look 5 with
 |some ⟨none,(.one ⟨false,[(.ref 192)]⟩)⟩=>
 (match s.ent 0 with
 |some (.row false 173 (.pair (.int .i64) (.int .i64)) y2)=>
 (match s.ent 192 with
 |some (.row true 2 (.int .i64) y3)=>
 some (y0,y1,y2,y3)
 |_=>none)
 |_=>none)
 |_=>none)
 |_=>none)
 |_=>none)
 |_=>none)
def gC:Lp mi where
 h:=⟨[8,9,10,11,14,15,16,17,18,19,20,21,22,23,24,25,26,27,28,29,30,5,12,13,6],[0],[1],[]⟩
 JL:=agt
 JE:=agm
 XL:=agH
 XE:=agA
 q:=fun j=>match j with | _=> .exit 0
 tags:= [0]
 lt:=Dy
 fuel:=fun(y0,y1,y2,y3)=>y0.natAbs + y1.natAbs + y2.length + y3.length
 fix:=fun(_,y1,y2,_) (y0,_,_,y3)=>(y0,y1,y2,y3)
 σ:= [(0,0),(1,192)]
 rd:=Ov
theorem aeg:LoopOk Tryz.prog (fun k=>Nat.blt k Tryz.f229.ntmps) gC.F (ay Tryz.f229 0):=by
 refine Lp.ok (tbl:= []) (lf:= []) ar gC (by kernel_rfl) (LOk.nil _) (fun _=>rfl) (fun _ _=>rfl) ?_ ?_ ?_ ?_ (fun _=>rfl) ?_
 ·intro x;obtain⟨y0,y1,y2,y3⟩:=x;kernel_rfl
 ·intro x;obtain⟨y0,y1,y2,y3⟩:=x;kernel_rfl
 ·intro s x h
  have h:Ov s=some x:=h
  unfold Ov at h
  repeat' split at h
  all_goals cases h
  exact⟨aa (by assumption) rfl (aa (by assumption) rfl (aa (by assumption) rfl (aa (by assumption) rfl (rfl)))),ac rfl (by assumption) rfl (ac rfl (by assumption) rfl (rfl))⟩
 ·intro x;obtain⟨y0,y1,y2,y3⟩:=x;kernel_rfl
 ·intro x z;obtain⟨y0,y1,y2,y3⟩:=x;exact(And.intro (And.intro rfl rfl) trivial)
section
variable (x0:Int)(x1:List (Int×Int))
def OK:Int×Int×List (Int×Int)×List Int:=((0:Int),x0,x1,[])
def QU:List Int:=(Lp.res gC (OK x0 x1)).2.2.2.2
def QV:Bool:=allT [Lp.fin gC (OK x0 x1)]
end
def aeL:List SV→List Entry→Option Out
 | [.one ⟨false,[.ref 0]⟩,.one ⟨false,[.val (.int .i64 x0)]⟩],[.row false 173 (.pair (.int .i64) (.int .i64)) x1]=>some ⟨(.one ⟨false,[(.ref 1)]⟩),[(.row false 173 asY x1)],[(.row true 2 asZ (QU x0 x1))],[(QV x0 x1)]⟩
 |_,_=>none
def WG:PF Tryz.prog:=PF.ofG Tryz.prog [] [gC.F] ar 229 Tryz.f229 Tryz.func229 (LOk.fnT (l:= [ay Tryz.f229 0]) (by kernel_rfl) (.cons aeg (.nil _))) aeL (by
 intro vs es r h;unfold aeL at h;split at h
 ·cases h;kernel_rfl
 ·cases h)
section
variable (x0:Int)(x1 x2:List (Int×Int))
def MR:Bool:=UP x0 x1==(0:Int)
def GR:Bool:=bif bif MR x0 x1 then okLk x2 else false then(↑x2.length:Int)==(0:Int)else false
def OA:Bool:=bif GR x0 x1 x2 then(↑(List.length (bif GR x0 x1 x2&&true then QU x0 x1 else [])):Int)==(0:Int)else false
def OB:Bool:=allT [UQ x1,!(MR x0 x1&&true)||leN x2.length (9223372036854775807:Nat),!(GR x0 x1 x2&&true)||QV x0 x1]
end
def VH:List SV→List Entry→Option Out
 | [.one ⟨false,[.ref 0]⟩,.one ⟨false,[.ref 1]⟩,.one ⟨false,[.val (.int .i64 x0)]⟩],[.row false 173 (.pair (.int .i64) (.int .i64)) x1,.row false 176 (.pair (.int .i64) (.int .i64)) x2]=>some ⟨(.one ⟨false,[(.val (.bool (OA x0 x1 x2)))]⟩),[(.row false 173 asY x1),(.row false 176 asY x2)],[],[(OB x0 x1 x2)]⟩
 |_,_=>none
def ahk:PF Tryz.prog:=PF.ofG Tryz.prog [Us,PF.lend Us,PF.fz Us,WG,PF.lend WG,PF.fz WG,rn,PF.lend rn,PF.fz rn] [] ar 181 Tryz.f181 Tryz.func181 (fun c _=>LOk.nil c) VH (by
 intro vs es r h;unfold VH at h;split at h
 ·cases h;kernel_rfl
 ·cases h)
def ZK(x0:Int):Int:=Option.getD [(2:Int),(3:Int),(2:Int),(4:Int),(2:Int),(5:Int),(4:Int),(1:Int),(2:Int),(0:Int)][Int.toNat x0]? (0:Int)
def ZL(x0:Int):Bool:=allT [leI (0:Int) x0,ltI x0 (↑(List.length [(2:Int),(3:Int),(2:Int),(4:Int),(2:Int),(5:Int),(4:Int),(1:Int),(2:Int),(0:Int)]):Int),ltN x0.toNat (List.length [(2:Int),(3:Int),(2:Int),(4:Int),(2:Int),(5:Int),(4:Int),(1:Int),(2:Int),(0:Int)])]
def agf:List SV→List Entry→Option Out
 | [.one ⟨false,[.val (.int .i64 x0)]⟩],[]=>some ⟨(.one ⟨false,[(.val (.int .i64 (ZK x0)))]⟩),[],[],[(ZL x0)]⟩
 |_,_=>none
def amH:PF Tryz.prog:=PF.ofG Tryz.prog [] [] ar 230 Tryz.f230 Tryz.func230 (fun c _=>LOk.nil c) agf (by
 intro vs es r h;unfold agf at h;split at h
 ·cases h;kernel_rfl
 ·cases h)
section
variable (x0 x1 x2:Int)(x3:Bool)
def Sp:Bool:=IF x0 x1 x2 x3==(0:Int)
def UM:Int:=bif Sp x0 x1 x2 x3 then ZK x1 else x0
def UN:Bool:=allT [IG x0 x1,!Sp x0 x1 x2 x3||ZL x1]
end
def abB:List SV→List Entry→Option Out
 | [.one ⟨false,[.val (.int .i64 x0)]⟩,.one ⟨true,[.val (.int .i64 x1),.val (.int .i64 x2),.val (.bool x3)]⟩],[]=>some ⟨(.one ⟨false,[(.val (.int .i64 (UM x0 x1 x2 x3)))]⟩),[],[],[(UN x0 x1 x2 x3)]⟩
 |_,_=>none
def akH:PF Tryz.prog:=PF.ofG Tryz.prog [VX,amH] [] ar 182 Tryz.f182 Tryz.func182 (fun c _=>LOk.nil c) abB (by
 intro vs es r h;unfold abB at h;split at h
 ·cases h;kernel_rfl
 ·cases h)
def GD(x0 x1 x2:Int):Bool:=bif bif x1==(0:Int)then x1==(0:Int)else x1==(1:Int)then aX x2 (0:Int) (IntKind.wrap .i64 (x0 - (1:Int)))else bif bif x1==(2:Int)then x1==(2:Int)else x1==(3:Int)then x2==(0:Int)else false
def Ny:List SV→List Entry→Option Out
 | [.one ⟨false,[.val (.int .i64 x0)]⟩,.one ⟨true,[.val (.int .i64 x1),.val (.int .i64 x2)]⟩],[]=>some ⟨(.one ⟨false,[(.val (.bool (GD x0 x1 x2)))]⟩),[],[],[]⟩
 |_,_=>none
def ZF:PF Tryz.prog:=PF.ofG Tryz.prog [gt] [] ar 184 Tryz.f184 Tryz.func184 (fun c _=>LOk.nil c) Ny (by
 intro vs es r h;unfold Ny at h;split at h
 ·cases h;kernel_rfl
 ·cases h)
def Wt(x0:Int):Bool:=aX x0 (0:Int) (3:Int)
def aew:List SV→List Entry→Option Out
 | [.one ⟨false,[.val (.int .i64 x0)]⟩],[]=>some ⟨(.one ⟨false,[(.val (.bool (Wt x0)))]⟩),[],[],[]⟩
 |_,_=>none
def alf:PF Tryz.prog:=PF.ofG Tryz.prog [gt] [] ar 231 Tryz.f231 Tryz.func231 (fun c _=>LOk.nil c) aew (by
 intro vs es r h;unfold aew at h;split at h
 ·cases h;kernel_rfl
 ·cases h)
def PK(x0 x1:Int):Bool:=bif aX x0 (0:Int) (9:Int)then Wt x1 else false
def WW:List SV→List Entry→Option Out
 | [.one ⟨true,[.val (.int .i64 x0),.val (.int .i64 x1),.val (.bool _x2)]⟩],[]=>some ⟨(.one ⟨false,[(.val (.bool (PK x0 x1)))]⟩),[],[],[]⟩
 |_,_=>none
def aik:PF Tryz.prog:=PF.ofG Tryz.prog [alf,gt] [] ar 185 Tryz.f185 Tryz.func185 (fun c _=>LOk.nil c) WW (by
 intro vs es r h;unfold WW at h;split at h
 ·cases h;kernel_rfl
 ·cases h)
end Go.SX

namespace Go.SX
open Go.Proofs
set_option maxRecDepth 100000
def agN(k r:Int):Bool:=inR k 0 9&&inR r 0 3
def anb(k:Int):List Int:=JZ k
def vdC(m k r:Int)(key:Bool):Int:=bif !(anb k).any (· ==m)then 1 else bif ltI r (Mc k)then 2 else bif bif QT k then !key else false then 3 else 0
def toC(k:Int):Int:=ZK k
def nxC(m k r:Int)(key:Bool):Int:=bif vdC m k r key==0 then toC k else m
def abj(m k:Int):Bool:=inR k 0 9&&inR m 0 5
theorem ao6(k r:Int):QF k r=agN k r:=by
 simp only [QF,UO,aI,ui,agN]
 cases inR k 0 9 <;> rfl
theorem aoF(k r:Int):PK k r=agN k r:=by
 simp only [PK,Wt,aX,ui,agN]
 cases inR k 0 9 <;> rfl
def EY(y1 b:Int):(Unit)→Nat ⊕ (Unit)
 |_=>(bif(b==y1)then(.inl 0)else(.inr ()))
def tE(y1:Int)(y2:List Int)(i:Nat):(Unit)→mg
 |_=>((i:Int),y1,y2)
def Ok:mg→Unit
 |(_,_,_)=>()
theorem aiM(y1:Int)(y2:List Int) (hn:y2.length≤9223372036854775807):
  fN.fin ((0:Int),y1,y2)=true∧fN.res ((0:Int),y1,y2)=((ag (EY y1) 1 y2 0 ()).1,(tE y1 y2) (ag (EY y1) 1 y2 0 ()).2.1 (ag (EY y1) 1 y2 0 ()).2.2):=by
 have key:=fN.along (tE y1 y2) Ok (EY y1) 1 (fun _ _=>True) y2 () (by trivial) (by simp only [fN,tE];omega) (fun i b a hb hI=> ?_) (fun a hI=> ?_)
 ·exact key
 ·obtain⟨⟩:=a
  have hlt:=(List.getElem?_eq_some_iff.1 hb).1
  have hget: ∀ d,Option.getD y2[i]? d=b:=fun d=>by rw [hb];rfl
  have hw:=py hlt hn
  have hdec:ltI (i:Int) (y2.length:Int)=true:=ce (by omega)
  have hnn:leI (0:Int) (i:Int)=true:=bH (by omega)
  have hltd:ltN i y2.length=true:=cM hlt
  refine⟨?_,?_,?_,?_⟩
  ·simp [zY,FI,FJ,FK,FL,Dw,fN,LT.nds,allT,tE,hdec,hnn,hltd,hget]
  ·simp [zY,FI,FJ,FK,FL,Dw,fN,LT.each,tE,Ok,hw]
  ·simp only [zY,FI,FJ,FK,FL,Dw,fN,LT.fn,tE,Ok,EY,Int.toNat_natCast,hdec,hnn,hltd,hget,cond_true,Bool.cond_self]
  ·exact fun _ _=>trivial
 ·obtain⟨⟩:=a
  simp [zY,FI,FJ,FK,FL,Dw,fN,LT.out,tE]
theorem ar7(x:Int)(l:List Int)(h:l.length≤9223372036854775807):QR x l=l.any (· ==x)∧QS x l=true:=by
 obtain⟨w1,w2⟩:=aiM x l h
 rw [kf (P:=fun v=>v==x) (j:=0) (fun v=>rfl)]at w2
 simp only [QR,QS,UJ,w1,w2,allT]
 cases l.any (· ==x) <;> exact⟨rfl,rfl⟩
theorem amS{m k:Int}(h:abj m k=true): ∃ (a:Fin 10) (b:Fin 6),k=(a.val:Int)∧m=(b.val:Int):=by
 simp only [abj,Bool.and_eq_true,rh]at h
 exact⟨⟨k.toNat,by omega⟩,⟨m.toNat,by omega⟩,by simp;omega,by simp;omega⟩
theorem aqC: ∀ a:Fin 10,(anb (a.val:Int)).length≤5:=by decide
theorem alZ(m k r:Int)(key:Bool)(h:abj m k=true):IF m k r key=vdC m k r key∧IG m k=true:=by
 obtain⟨a,b,rfl,rfl⟩:=amS h
 have hl:=aqC a
 obtain⟨h1,h2⟩:=ar7 (b.val:Int) (anb (a.val:Int)) (by omega)
 have e:JZ (a.val:Int)=anb (a.val:Int):=rfl
 simp only [IF,IG,e,h1,h2,vdC,allT,cond_true,and_self]
theorem aq3: ∀ (a:Fin 10) (b:Fin 6),(IntKind.i64.wrap (↑(BitVec.toNat (BitVec.ofInt (IntKind.bits IntKind.i64) (Int.fdiv ((Option.getD aiK[Int.toNat (a.val:Int)]? ((0:Int),(0:Int),(0:Int),false)).1) ((2:Int) ^ min (Int.toNat (b.val:Int)) (IntKind.bits IntKind.i64)))&&& BitVec.ofInt (IntKind.bits IntKind.i64) (1:Int))):Int)==(0:Int))= !(anb (a.val:Int)).any (· ==(b.val:Int)):=by decide
theorem an4: ∀ a:Fin 10,(Option.getD aiK[Int.toNat (a.val:Int)]? ((0:Int),(0:Int),(0:Int),false)).2=(toC (a.val:Int),Mc (a.val:Int),QT (a.val:Int)):=by decide
theorem apg: ∀ a:Fin 10,ltI (a.val:Int) (aiK.length:Int)=true∧ltN (Int.toNat (a.val:Int)) aiK.length=true∧ZL (a.val:Int)=true:=by decide
theorem alG(m k r:Int)(key:Bool)(h:abj m k=true):ia k r key m=vdC m k r key∧ib k m=true:=by
 obtain⟨a,b,rfl,rfl⟩:=amS h
 obtain⟨n1,n2,_⟩:=apg a
 have n0:leI 0 (a.val:Int)=true:=bH (by omega)
 have n3:leI 0 (b.val:Int)=true:=bH (by omega)
 simp only [ia,ib,lc,ld,aq3,an4,n0,n1,n2,n3,vdC,allT,cond_true,and_self]
theorem aqd(m k r:Int)(key:Bool)(h:abj m k=true):UM m k r key=nxC m k r key∧UN m k r key=true:=by
 obtain⟨h1,h2⟩:=alZ m k r key h
 obtain⟨a,b,rfl,rfl⟩:=amS h
 simp only [UM,UN,Sp,h1,h2,(apg a).2.2,nxC,toC,allT,Bool.or_true,cond_true,and_self]
theorem apS(m k r:Int)(key:Bool)(h:abj m k=true):nv k r key m=nxC m k r key∧nx k r key m=true:=by
 obtain⟨h1,h2⟩:=alG m k r key h
 obtain⟨a,b,rfl,rfl⟩:=amS h
 obtain⟨n1,n2,_⟩:=apg a
 have n0:leI 0 (a.val:Int)=true:=bH (by omega)
 simp only [nv,nx,fk,h1,h2,n0,n1,n2,an4,nxC,allT,Bool.or_true,cond_true,and_self]
def XP:List SV→List Entry→Option Out
 | [.one ⟨true,[.val (.int .i64 x0),.val (.int .i64 x1),.val (.bool _x2)]⟩],[]=>some ⟨(.one ⟨false,[(.val (.bool (agN x0 x1)))]⟩),[],[],[]⟩
 |_,_=>none
def aie:PF Tryz.prog:=PF.alt aiA XP (by
 intro args es o h hnd;unfold XP at h;split at h
 ·rename_i x0 x1 _x2
  cases h
  have hh:=ao6 x0 x1
  have e0:=hh
  exact eT rfl (fun _ h=>by cases h) (by simp only [e0] <;> rfl) rfl rfl
 ·cases h)
def Xy:List SV→List Entry→Option Out
 | [.one ⟨true,[.val (.int .i64 x0),.val (.int .i64 x1),.val (.bool _x2)]⟩],[]=>some ⟨(.one ⟨false,[(.val (.bool (agN x0 x1)))]⟩),[],[],[]⟩
 |_,_=>none
def aid:PF Tryz.prog:=PF.alt aik Xy (by
 intro args es o h hnd;unfold Xy at h;split at h
 ·rename_i x0 x1 _x2
  cases h
  have hh:=aoF x0 x1
  have e0:=hh
  exact eT rfl (fun _ h=>by cases h) (by simp only [e0] <;> rfl) rfl rfl
 ·cases h)
def VR:List SV→List Entry→Option Out
 | [.one ⟨false,[.val (.int .i64 x0)]⟩,.one ⟨true,[.val (.int .i64 x1),.val (.int .i64 x2),.val (.bool x3)]⟩],[]=>some ⟨(.one ⟨false,[(.val (.int .i64 (vdC x0 x1 x2 x3)))]⟩),[],[],[abj x0 x1]⟩
 |_,_=>none
def aha:PF Tryz.prog:=PF.alt VX VR (by
 intro args es o h hnd;unfold VR at h;split at h
 ·rename_i x0 x1 x2 x3
  cases h
  have hnd:=cf hnd
  have hh:=alZ x0 x1 x2 x3 hnd
  obtain⟨e0,en⟩:=hh
  exact eT rfl (cg en) (by simp only [e0] <;> rfl) rfl rfl
 ·cases h)
def acd:List SV→List Entry→Option Out
 | [.one ⟨false,[.val (.int .i64 x0)]⟩,.one ⟨true,[.val (.int .i64 x1),.val (.int .i64 x2),.val (.bool x3)]⟩],[]=>some ⟨(.one ⟨false,[(.val (.int .i64 (nxC x0 x1 x2 x3)))]⟩),[],[],[abj x0 x1]⟩
 |_,_=>none
def akr:PF Tryz.prog:=PF.alt akH acd (by
 intro args es o h hnd;unfold acd at h;split at h
 ·rename_i x0 x1 x2 x3
  cases h
  have hnd:=cf hnd
  have hh:=aqd x0 x1 x2 x3 hnd
  obtain⟨e0,en⟩:=hh
  exact eT rfl (cg en) (by simp only [e0] <;> rfl) rfl rfl
 ·cases h)
def sO:List SV→List Entry→Option Out
 | [.one ⟨true,[.val (.int .i64 x0),.val (.int .i64 x1),.val (.bool x2)]⟩,.one ⟨false,[.val (.int .i64 x3)]⟩],[]=>some ⟨(.one ⟨false,[(.val (.int .i64 (vdC x3 x0 x1 x2)))]⟩),[],[],[abj x3 x0]⟩
 |_,_=>none
def GL:PF Tryz.prog:=PF.alt tm sO (by
 intro args es o h hnd;unfold sO at h;split at h
 ·rename_i x0 x1 x2 x3
  cases h
  have hnd:=cf hnd
  have hh:=alG x3 x0 x1 x2 hnd
  obtain⟨e0,en⟩:=hh
  exact eT rfl (cg en) (by simp only [e0] <;> rfl) rfl rfl
 ·cases h)
def vv:List SV→List Entry→Option Out
 | [.one ⟨true,[.val (.int .i64 x0),.val (.int .i64 x1),.val (.bool x2)]⟩,.one ⟨false,[.val (.int .i64 x3)]⟩],[]=>some ⟨(.one ⟨false,[(.val (.int .i64 (nxC x3 x0 x1 x2)))]⟩),[],[],[abj x3 x0]⟩
 |_,_=>none
def II:PF Tryz.prog:=PF.alt IK vv (by
 intro args es o h hnd;unfold vv at h;split at h
 ·rename_i x0 x1 x2 x3
  cases h
  have hnd:=cf hnd
  have hh:=apS x3 x0 x1 x2 hnd
  obtain⟨e0,en⟩:=hh
  exact eT rfl (cg en) (by simp only [e0] <;> rfl) rfl rfl
 ·cases h)
def aqv(pl:List (Int×Int))(day:Int)(b:Nat):Bool:=leI (IntKind.i64.wrap ((pl[b]?.getD ((0:Int),(0:Int))).2 + (pl[b]?.getD ((0:Int),(0:Int))).1)) day
def aqw(pl:List (Int×Int))(day:Int):List Int:=((List.range pl.length).filter (aqv pl day)).map fun b:Nat=>(b:Int)
def ah9(pl ls:List (Int×Int))(day:Int):Bool:=okPl pl&&(okLk ls&&(inR day 0 100000&&((aqw pl day).length==0&&ls.length==0)))
theorem acH(P:Nat→Bool): ∀ (r:List Nat) (a:List Int),r.foldl (fun a b=>bif P b then a++ [(b:Int)]else a) a=a++(r.filter P).map fun b:Nat=>(b:Int)
 | [],a=>by simp
 |b::r,a=>by
  rw [List.foldl_cons,acH P r]
  cases h:P b <;> simp [List.filter_cons,h]
theorem aku{pl:List (Int×Int)}(h:okPl pl=true):pl.length≤12:=by
 simp only [okPl,Bool.and_eq_true,cu]at h;exact h.1
def rO(y1:Int)(y2:List (Int×Int))(b:Nat):(List Int)→Nat ⊕ (List Int)
 |y3=>(bif(leI (IntKind.wrap .i64 ((Option.getD y2[b]? ((0:Int),(0:Int))).2 + (Option.getD y2[b]? ((0:Int),(0:Int))).1)) y1)then(.inr (y3++ [(↑b:Int)]))else(.inr y3))
def qc(y1:Int)(y2:List (Int×Int))(i:Nat):(List Int)→mi
 |y3=>((i:Int),y1,y2,y3)
def Om:mi→List Int
 |(_,_,_,y3)=>y3
theorem aiO(y1:Int)(y2:List (Int×Int))(y3:List Int)(hn:y2.length≤9223372036854775807)(h12:y2.length≤12)(h3:y3= []):
  gC.fin ((0:Int),y1,y2,y3)=true∧gC.res ((0:Int),y1,y2,y3)=((ag (rO y1 y2) 0 (List.range y2.length) 0 y3).1,(qc y1 y2) (ag (rO y1 y2) 0 (List.range y2.length) 0 y3).2.1 (ag (rO y1 y2) 0 (List.range y2.length) 0 y3).2.2):=by
 have key:=gC.along (qc y1 y2) Om (rO y1 y2) 0 (fun i a=>a.length≤i) (List.range y2.length) y3 (by subst h3;simp) (by simp only [gC,qc,List.length_range];omega) (fun i b a hb hI=> ?_) (fun a hI=> ?_)
 ·exact key
 ·obtain y3:=a
  obtain⟨rfl,hlt⟩:=fU hb
  have hw:IntKind.i64.wrap ((b:Int) + 1)=((b + 1:Nat):Int):=by rw [aA (by omega) (by omega)];omega
  have hdec:ltI (b:Int) (y2.length:Int)=true:=ce (by omega)
  have hnn:leI (0:Int) (b:Int)=true:=bH (by omega)
  have hltd:ltN b y2.length=true:=cM (by omega)
  refine⟨?_,?_,?_,?_⟩
  ·have h6:leN (a.length + 1) 9223372036854775807=true:=gx (by omega)
   have h7:leN ((a.length + 1) * 8) 140737488355328=true:=gx (by omega)
   simp [xP,tC,vl,Ae,Af,FR,FS,FT,Ag,FU,Dy,gC,LT.nds,allT,qc,hdec,hnn,hltd,h6,h7]
  ·simp [xP,tC,vl,Ae,Af,FR,FS,FT,Ag,FU,Dy,gC,LT.each,qc,Om,hw]
  ·simp only [xP,tC,vl,Ae,Af,FR,FS,FT,Ag,FU,Dy,gC,LT.fn,qc,Om,rO,Int.toNat_natCast,hdec,hnn,hltd,cond_true,Bool.cond_self]
  ·intro a' hf
   simp only [rO]at hf
   revert hf
   cases leI (IntKind.wrap .i64 ((Option.getD y2[b]? ((0:Int),(0:Int))).2 + (Option.getD y2[b]? ((0:Int),(0:Int))).1)) y1 <;> intro hf <;> (simp only [cond_true,cond_false,Sum.inr.injEq]at hf;subst hf;(try simp only [List.length_append,List.length_singleton]);omega)
 ·obtain y3:=a
  simp [xP,tC,vl,Ae,Af,FR,FS,FT,Ag,FU,Dy,gC,LT.out,qc,List.length_range]
def oh(y2:Int)(y3:List (Int×Int))(b:Nat):(List Int)→Nat ⊕ (List Int)
 |y4=>(bif(leI (iy ((Option.getD y3[b]? ((0:Int),(0:Int))).1) ((Option.getD y3[b]? ((0:Int),(0:Int))).2)) y2)then(.inr (y4++ [(↑b:Int)]))else(.inr y4))
def mH(y2:Int)(y3:List (Int×Int))(i:Nat):(List Int)→jD
 |y4=>((i:Int),(↑y3.length:Int),y2,y3,y4)
def KI:jD→List Int
 |(_,_,_,_,y4)=>y4
theorem af6(y2:Int)(y3:List (Int×Int))(y4:List Int)(hn:y3.length≤9223372036854775807)(h12:y3.length≤12)(h3:y4= []):
  eO.fin ((0:Int),(↑y3.length:Int),y2,y3,y4)=true∧eO.res ((0:Int),(↑y3.length:Int),y2,y3,y4)=((ag (oh y2 y3) 0 (List.range y3.length) 0 y4).1,(mH y2 y3) (ag (oh y2 y3) 0 (List.range y3.length) 0 y4).2.1 (ag (oh y2 y3) 0 (List.range y3.length) 0 y4).2.2):=by
 have key:=eO.along (mH y2 y3) KI (oh y2 y3) 0 (fun i a=>a.length≤i) (List.range y3.length) y4 (by subst h3;simp) (by simp only [eO,mH,List.length_range];omega) (fun i b a hb hI=> ?_) (fun a hI=> ?_)
 ·exact key
 ·obtain y4:=a
  obtain⟨rfl,hlt⟩:=fU hb
  have hw:IntKind.i64.wrap ((b:Int) + 1)=((b + 1:Nat):Int):=by rw [aA (by omega) (by omega)];omega
  have hdec:ltI (b:Int) (y3.length:Int)=true:=ce (by omega)
  have hnn:leI (0:Int) (b:Int)=true:=bH (by omega)
  have hltd:ltN b y3.length=true:=cM (by omega)
  refine⟨?_,?_,?_,?_⟩
  ·have h6:leN (a.length + 1) 9223372036854775807=true:=gx (by omega)
   have h7:leN ((a.length + 1) * 8) 140737488355328=true:=gx (by omega)
   simp [tH,pH,Au,Av,Aw,Ax,Ay,Az,AA,uY,AB,yZ,eO,LT.nds,allT,mH,hdec,hnn,hltd,h6,h7]
  ·simp [tH,pH,Au,Av,Aw,Ax,Ay,Az,AA,uY,AB,yZ,eO,LT.each,mH,KI,hw]
  ·simp only [tH,pH,Au,Av,Aw,Ax,Ay,Az,AA,uY,AB,yZ,eO,LT.fn,mH,KI,oh,Int.toNat_natCast,hdec,hnn,hltd,cond_true,Bool.cond_self]
  ·intro a' hf
   simp only [oh,iy]at hf
   revert hf
   cases leI (IntKind.wrap .i64 ((Option.getD y3[b]? ((0:Int),(0:Int))).2 + (Option.getD y3[b]? ((0:Int),(0:Int))).1)) y2 <;> intro hf <;> (simp only [cond_true,cond_false,Sum.inr.injEq]at hf;subst hf;(try simp only [List.length_append,List.length_singleton]);omega)
 ·obtain y4:=a
  simp [tH,pH,Au,Av,Aw,Ax,Ay,Az,AA,uY,AB,yZ,eO,LT.out,mH,List.length_range]
theorem ao7(day:Int)(pl:List (Int×Int))(h:pl.length≤12):QU day pl=aqw pl day∧QV day pl=true:=by
 obtain⟨w1,w2⟩:=aiO day pl [] (by omega) h rfl
 rw [iA (f:=rO day pl) (g:=fun a b=>bif aqv pl day b then a++ [(b:Int)]else a) (fun b a=>by simp only [rO,aqv];cases leI _ day <;> rfl),acH]at w2
 exact⟨by simp only [QU,OK,w2,qc,List.nil_append,aqw],by simp only [QV,OK,w1,allT,cond_true]⟩
theorem aoG(day:Int)(pl:List (Int×Int))(h:pl.length≤12):LH day pl=aqw pl day∧LJ day pl=true:=by
 obtain⟨w1,w2⟩:=af6 day pl [] (by omega) h rfl
 rw [iA (f:=oh day pl) (g:=fun a b=>bif aqv pl day b then a++ [(b:Int)]else a) (fun b a=>by simp only [oh,iy,aqv];cases leI _ day <;> rfl),acH]at w2
 exact⟨by simp only [LH,Kl,w2,mH,List.nil_append,aqw],by simp only [LJ,Kl,w1,allT,cond_true]⟩
theorem asu(n:Nat):((n:Int)==0)=(n==0):=by cases n <;> rfl
theorem ao9(day:Int)(pl ls:List (Int×Int))(h:(leN pl.length 9223372036854775807&&leN ls.length 9223372036854775807)=true):OA day pl ls=ah9 pl ls day∧OB day pl ls=true:=by
 simp only [Bool.and_eq_true]at h
 simp only [OA,OB,MR,GR,UP,UQ,aI,ui,h.1,h.2,asu,ah9,allT]
 cases hp:okPl pl with
 |false=>simp
 |true=>
  obtain⟨e1,e2⟩:=ao7 day pl (aku hp)
  rw [e1,e2]
  cases hi:inR day 0 100000 <;> cases okLk ls <;> cases ls.length==0 <;> simp
theorem aoJ(day:Int)(pl ls:List (Int×Int))(h:(leN pl.length 9223372036854775807&&leN ls.length 9223372036854775807)=true):NG day pl ls=ah9 pl ls day∧NH day pl ls=true:=by
 simp only [Bool.and_eq_true]at h
 have e:vE day=inR day 0 100000:=by simp only [vE,aX,ui]
 simp only [NG,NH,Mj,e,h.1,h.2,asu,ah9,allT]
 cases hp:okPl pl with
 |false=>simp
 |true=>
  obtain⟨e1,e2⟩:=aoG day pl (aku hp)
  rw [e1,e2]
  cases hi:inR day 0 100000 <;> cases okLk ls <;> cases ls.length==0 <;> simp
def VP:List SV→List Entry→Option Out
 | [.one ⟨false,[.ref 0]⟩,.one ⟨false,[.ref 1]⟩,.one ⟨false,[.val (.int .i64 x0)]⟩],[.row false 173 (.pair (.int .i64) (.int .i64)) x1,.row false 176 (.pair (.int .i64) (.int .i64)) x2]=>some ⟨(.one ⟨false,[(.val (.bool (ah9 x1 x2 x0)))]⟩),[(.row false 173 asY x1),(.row false 176 asY x2)],[],[leN x1.length 9223372036854775807&&leN x2.length 9223372036854775807]⟩
 |_,_=>none
def NZ:PF Tryz.prog:=PF.alt ahk VP (by
 intro args es o h hnd;unfold VP at h;split at h
 ·rename_i x0 x1 x2
  cases h
  have hnd:=cf hnd
  have hh:=ao9 x0 x1 x2 hnd
  obtain⟨e0,en⟩:=hh
  exact eT rfl (cg en) (by simp only [e0] <;> rfl) rfl rfl
 ·cases h)
def VM:List SV→List Entry→Option Out
 | [.one ⟨false,[.ref 0]⟩,.one ⟨false,[.ref 1]⟩,.one ⟨false,[.val (.int .i64 x0)]⟩],[.row false 173 (.pair (.int .i64) (.int .i64)) x1,.row false 176 (.pair (.int .i64) (.int .i64)) x2]=>some ⟨(.one ⟨false,[(.val (.bool (ah9 x1 x2 x0)))]⟩),[(.row false 173 asY x1),(.row false 176 asY x2)],[],[leN x1.length 9223372036854775807&&leN x2.length 9223372036854775807]⟩
 |_,_=>none
def NY:PF Tryz.prog:=PF.alt ahg VM (by
 intro args es o h hnd;unfold VM at h;split at h
 ·rename_i x0 x1 x2
  cases h
  have hnd:=cf hnd
  have hh:=aoJ x0 x1 x2 hnd
  obtain⟨e0,en⟩:=hh
  exact eT rfl (cg en) (by simp only [e0] <;> rfl) rfl rfl
 ·cases h)
end Go.SX

namespace Go.SX
open Go.Proofs
set_option maxRecDepth 100000
theorem apw{n:Int}{fs:List (Int×Int×Int)}(h:lfOk n fs=true):fs.length≤8∧ ∀ f∈fs,(0≤f.1∧f.1 < n)∧(f.2.1=0∨f.2.1=1)∧(f.2.2=0∨f.2.2=1):=by
 simp only [lfOk,okFs,Bool.and_eq_true,cu,List.all_eq_true,List.mem_range,rh]at h
 refine⟨h.2.1,fun f hf=> ?_⟩
 obtain⟨b,hb,rfl⟩:=List.getElem_of_mem hf
 have h3:=h.2.2 b hb
 simp only [Bool.not_eq_true',Bool.or_eq_false_iff,afL,fAt,List.getElem?_eq_getElem hb,Option.getD_some,Bool.not_eq_false']at h3
 have h4:=h3.1
 simp only [fIn,Bool.and_eq_true,rh]at h4
 rw [aA (by omega) (by omega)]at h4
 omega
def lkB(st:List Int):List Int:=st.map fun v=>bif v==2 then 1 else 0
def lkC(st:List Int)(lf:List (Int×Int×Int))(ch:Int):List Int:=lf.foldl (af4 ch) (lkB st)
def WJ(st:List Int)(lf:List (Int×Int×Int)):Bool:= !(lkC st lf 0).any (· ==0)&& !(lkC st lf 1).any (· ==0)
def aho(st:List Int)(lf:List (Int×Int×Int)):Bool:=areR st&&lfOk (st.length:Int) lf
theorem TU(st:List Int):(lkB st).length=st.length:=by simp [lkB]
theorem Qm(st:List Int)(lf:List (Int×Int×Int))(ch:Int):(lkC st lf ch).length=st.length:=by rw [lkC,PI,TU]
theorem ap9{ch:Int}{l:List Int}{f:Int×Int×Int}(h: ∀ v∈l,v=0∨v=1)(hf:f.2.2=0∨f.2.2=1): ∀ v∈af4 ch l f,v=0∨v=1:=by
 intro v hv
 simp only [af4]at hv
 cases hc:f.2.1==ch with
 |false=>rw [hc]at hv;exact h v hv
 |true=>
  rw [hc]at hv
  rcases List.mem_or_eq_of_mem_set hv with hv | rfl
  ·exact h v hv
  ·exact hf
theorem alD{ch:Int}: ∀ (lf:List (Int×Int×Int)) (l:List Int),(∀ v∈l,v=0∨v=1)→(∀ f∈lf,f.2.2=0∨f.2.2=1)→ ∀ v∈lf.foldl (af4 ch) l,v=0∨v=1
 | [],l,h,_=>h
 |f::r,l,h,hf=>by
  rw [List.foldl_cons]
  exact alD r _ (ap9 h (hf f (by simp))) fun g hg=>hf g (by simp [hg])
theorem anz{st:List Int}{lf:List (Int×Int×Int)}{ch:Int}(h:aho st lf=true): ∀ v∈lkC st lf ch,v=0∨v=1:=by
 simp only [aho,Bool.and_eq_true]at h
 refine alD lf _ (fun v hv=> ?_) fun f hf=>((apw h.2).2 f hf).2.2
 obtain⟨x,_,rfl⟩:=List.mem_map.1 hv
 cases x==2 <;> simp
def oq(b:Int):(List Int)→Nat ⊕ (List Int)
 |y2=>(.inr (y2++([IntKind.wrap .i64 (Int.tdiv b (2:Int))])))
def kr(y1:List Int)(i:Nat):(List Int)→iq
 |y2=>((i:Int),y1,y2)
def Ih:iq→List Int
 |(_,_,y2)=>y2
theorem ado(y1 y2:List Int)(hn:y1.length≤9223372036854775807)(hR:areR y1=true)(h0:y2= []):
  bR.fin ((0:Int),y1,y2)=true∧bR.res ((0:Int),y1,y2)=((ag (oq) 0 y1 0 y2).1,(kr y1) (ag (oq) 0 y1 0 y2).2.1 (ag (oq) 0 y1 0 y2).2.2):=by
 have key:=bR.along (kr y1) Ih (oq) 0 (fun i a=>a.length≤i) y1 y2 (by subst h0;simp) (by simp only [bR,kr];omega) (fun i b a hb hI=> ?_) (fun a hI=> ?_)
 ·exact key
 ·obtain y2:=a
  have hlt:=(List.getElem?_eq_some_iff.1 hb).1
  have hget: ∀ d,Option.getD y1[i]? d=b:=fun d=>by rw [hb];rfl
  have hw:=py hlt hn
  have hdec:ltI (i:Int) (y1.length:Int)=true:=ce (by omega)
  have hnn:leI (0:Int) (i:Int)=true:=bH (by omega)
  have hltd:ltN i y1.length=true:=cM hlt
  refine⟨?_,?_,?_,?_⟩
  ·have h12:=(EW.1 hR).1
   have h6:leN (a.length + 1) 9223372036854775807=true:=gx (by omega)
   have h7:leN ((a.length + 1) * 8) 140737488355328=true:=gx (by omega)
   have h8:neI 2 0=true:=rfl
   simp [nc,sv,wV,wW,wX,wY,wZ,xa,xc,uO,bR,LT.nds,allT,kr,hdec,hnn,hltd,h6,h7,h8]
  ·simp [nc,sv,wV,wW,wX,wY,wZ,xa,xc,uO,bR,LT.each,kr,Ih,hw]
  ·simp only [nc,sv,wV,wW,wX,wY,wZ,xa,xc,uO,bR,LT.fn,kr,Ih,oq,Int.toNat_natCast,hdec,hnn,hltd,hget,cond_true,Bool.cond_self]
  ·intro a' hf;simp only [oq,Sum.inr.injEq]at hf;subst hf;simp;omega
 ·obtain y2:=a
  simp [nc,sv,wV,wW,wX,wY,wZ,xa,xc,uO,bR,LT.out,kr]
def ot(y1:Int)(b:Int×(Int×Int)):(List Int)→Nat ⊕ (List Int)
 |y3=>(.inr (bif(b.2.1==y1)then List.set y3 (Int.toNat b.1) b.2.2else y3))
def kt(y1:Int)(y2:List (Int×(Int×Int)))(i:Nat):(List Int)→ir
 |y3=>((i:Int),y1,y2,y3)
def Ii:ir→List Int
 |(_,_,_,y3)=>y3
theorem adp(y1:Int)(y2:List (Int×(Int×Int)))(y3:List Int)(hn:y2.length≤9223372036854775807)(n:Nat)(h3:y3.length=n)(hf: ∀ f∈y2,0≤f.1∧f.1 < (n:Int)):
  cA.fin ((0:Int),y1,y2,y3)=true∧cA.res ((0:Int),y1,y2,y3)=((ag (ot y1) 0 y2 0 y3).1,(kt y1 y2) (ag (ot y1) 0 y2 0 y3).2.1 (ag (ot y1) 0 y2 0 y3).2.2):=by
 have key:=cA.along (kt y1 y2) Ii (ot y1) 0 (fun _ a=>a.length=n) y2 y3 h3 (by simp only [cA,kt];omega) (fun i b a hb hI=> ?_) (fun a hI=> ?_)
 ·exact key
 ·obtain y3:=a
  have hlt:=(List.getElem?_eq_some_iff.1 hb).1
  have hget: ∀ d,Option.getD y2[i]? d=b:=fun d=>by rw [hb];rfl
  have hw:=py hlt hn
  have hdec:ltI (i:Int) (y2.length:Int)=true:=ce (by omega)
  have hnn:leI (0:Int) (i:Int)=true:=bH (by omega)
  have hltd:ltN i y2.length=true:=cM hlt
  refine⟨?_,?_,?_,?_⟩
  ·have h5:=hf b (List.mem_of_getElem? hb)
   have h6:leI 0 b.1=true:=bH h5.1
   have h7:ltI b.1 (a.length:Int)=true:=ce (by omega)
   have h8:ltN b.1.toNat a.length=true:=cM (by omega)
   simp only [gO,fH,sw,xf,xg,sx,sy,sz,xh,xj,xk,xl,uT,uP,cA,LT.nds,allT,kt,Int.toNat_natCast,hdec,hnn,hltd,hget,h6,h7,h8,Bool.or_true,cond_true]
  ·simp [gO,fH,sw,xf,xg,sx,sy,sz,xh,xj,xk,xl,uT,uP,cA,LT.each,kt,Ii,hw]
  ·simp only [gO,fH,sw,xf,xg,sx,sy,sz,xh,xj,xk,xl,uT,uP,cA,LT.fn,kt,Ii,ot,Int.toNat_natCast,hdec,hnn,hltd,hget,cond_true,Bool.cond_self]
  ·intro a' hf;simp only [ot,Sum.inr.injEq]at hf;subst hf;cases b.2.1==y1 <;> simpa using hI
 ·obtain y3:=a
  simp [gO,fH,sw,xf,xg,sx,sy,sz,xh,xj,xk,xl,uT,uP,cA,LT.out,kt]
theorem asC{v:Int}(h:0≤v∧v≤2):IntKind.i64.wrap (Int.tdiv v 2)=bif v==2 then 1 else 0:=by
 have h:v=0∨v=1∨v=2:=by omega
 rcases h with rfl | rfl | rfl <;> rfl
theorem agW{B C:Type}{g g':B→C}: ∀ (r:List B) (a:List C),(∀ b∈r,g b=g' b)→r.foldl (fun a b=>a++ [g b]) a=a++r.map g'
 | [],a,_=>by simp
 |b::r,a,h=>by rw [List.foldl_cons,agW r _ fun c hc=>h c (by simp [hc]),h b (by simp)];simp
theorem ahx(ch:Int)(st:List Int)(lf:List (Int×Int×Int))(h:aho st lf=true):DK ch st lf=lkC st lf ch∧DL ch st lf=true:=by
 simp only [aho,Bool.and_eq_true]at h
 have h12:=(EW.1 h.1).1
 obtain⟨hl,hf⟩:=apw h.2
 obtain⟨w1,w2⟩:=ado st [] (by omega) h.1 rfl
 rw [iA (f:=oq) (g:=fun a b=>a++ [IntKind.i64.wrap (Int.tdiv b 2)]) (fun b a=>rfl),agW (g':=fun v=>bif v==2 then 1 else 0) _ _ (fun b hb=>asC ((EW.1 h.1).2 b hb))]at w2
 have e1:(Lp.res bR (BM st)).2.2.2=lkB st:=by
  simp only [BM,w2,kr,List.nil_append];rfl
 obtain⟨v1,v2⟩:=adp ch lf (lkB st) (by omega) st.length (TU st) (fun f hm=>(hf f hm).1)
 rw [iA (f:=ot ch) (g:=af4 ch) (fun b a=>rfl)]at v2
 refine⟨?_,?_⟩
 ·simp only [DK,BN,e1,v2,kt];rfl
 ·have v3:Lp.fin cA (BN ch st lf)=true:=by rw [BN,e1];exact v1
  have w3:Lp.fin bR (BM st)=true:=w1
  simp only [DL,v3,w3,allT,cond_true]
def zH(b:Int):(Int)→Nat ⊕ (Int)
 |y1=>(.inr (IntKind.wrap .i64 (y1 + b)))
def qb(y2:List Int)(i:Nat):(Int)→mh
 |y1=>((i:Int),y1,y2)
def Ol:mh→Int
 |(_,y1,_)=>y1
theorem aiN(y2:List Int)(y1:Int)(hn:y2.length≤9223372036854775807):
  gB.fin ((0:Int),y1,y2)=true∧gB.res ((0:Int),y1,y2)=((ag (zH) 0 y2 0 y1).1,(qb y2) (ag (zH) 0 y2 0 y1).2.1 (ag (zH) 0 y2 0 y1).2.2):=by
 have key:=gB.along (qb y2) Ol (zH) 0 (fun _ _=>True) y2 y1 (by trivial) (by simp only [gB,qb];omega) (fun i b a hb hI=> ?_) (fun a hI=> ?_)
 ·exact key
 ·obtain y1:=a
  have hlt:=(List.getElem?_eq_some_iff.1 hb).1
  have hget: ∀ d,Option.getD y2[i]? d=b:=fun d=>by rw [hb];rfl
  have hw:=py hlt hn
  have hdec:ltI (i:Int) (y2.length:Int)=true:=ce (by omega)
  have hnn:leI (0:Int) (i:Int)=true:=bH (by omega)
  have hltd:ltN i y2.length=true:=cM hlt
  refine⟨?_,?_,?_,?_⟩
  ·simp [zZ,FM,FN,FO,FP,Dx,gB,LT.nds,allT,qb,hdec,hnn,hltd,hget]
  ·simp [zZ,FM,FN,FO,FP,Dx,gB,LT.each,qb,Ol,hw]
  ·simp only [zZ,FM,FN,FO,FP,Dx,gB,LT.fn,qb,Ol,zH,Int.toNat_natCast,hdec,hnn,hltd,hget,cond_true,Bool.cond_self]
  ·exact fun _ _=>trivial
 ·obtain y1:=a
  simp [zZ,FM,FN,FO,FP,Dx,gB,LT.out,qb]
def an3(l:List Int):Int:=l.foldl (fun a b=>IntKind.i64.wrap (a + b)) 0
theorem akS(l:List Int)(h:l.length≤9223372036854775807):Lr l=an3 l∧Lt l=true:=by
 obtain⟨w1,w2⟩:=aiN l 0 h
 rw [iA (f:=zH) (g:=fun a b=>IntKind.i64.wrap (a + b)) (fun b a=>rfl)]at w2
 exact⟨by simp only [Lr,OC,w2,qb,an3],by simp only [Lt,OC,w1,allT,cond_true]⟩
theorem akT: ∀ (l:List Int) (a:Int),(∀ v∈l,v=0∨v=1)→0≤a→a + l.length≤1000000→
  ∃ s:Int,l.foldl (fun a b=>IntKind.i64.wrap (a + b)) a=a + s∧(0≤s∧s≤l.length)∧((s=l.length)↔l.any (· ==0)=false)
 | [],a,_,_,_=>⟨0,by simp,by simp,by simp⟩
 |v::r,a,h,h0,h1=>by
  have hv:=h v (by simp)
  simp only [List.length_cons]at h1
  have hw:IntKind.i64.wrap (a + v)=a + v:=aA (by omega) (by omega)
  obtain⟨s,e1,e2,e3⟩:=akT r (a + v) (fun x hx=>h x (by simp [hx])) (by omega) (by omega)
  refine⟨v + s,by rw [List.foldl_cons,hw,e1];omega,by simp only [List.length_cons];omega,?_⟩
  simp only [List.length_cons,List.any_cons,Bool.or_eq_false_iff,← e3]
  rcases hv with rfl | rfl
  ·simp;omega
  ·simp;omega
theorem arJ{a b:List Int}{n:Nat}(ha: ∀ v∈a,v=0∨v=1)(hb: ∀ v∈b,v=0∨v=1)(la:a.length=n)(lb:b.length=n)(hn:n≤12):
  (IntKind.i64.wrap (an3 a + an3 b)==IntKind.i64.wrap (2 * (n:Int)))=(!a.any (· ==0)&& !b.any (· ==0)):=by
 obtain⟨s,e1,e2,e3⟩:=akT a 0 ha (by omega) (by omega)
 obtain⟨t,g1,g2,g3⟩:=akT b 0 hb (by omega) (by omega)
 have w1:IntKind.i64.wrap (an3 a + an3 b)=s + t:=by rw [an3,an3,e1,g1,aA (by omega) (by omega)];omega
 have w2:IntKind.i64.wrap (2 * (n:Int))=2 * (n:Int):=aA (by omega) (by omega)
 rw [w1,w2]
 cases ha2:a.any (· ==0) <;> cases hb2:b.any (· ==0) <;> simp only [ha2,hb2]at e3 g3 <;> simp <;> simp at e3 g3 <;> omega
theorem amN(st:List Int)(lf:List (Int×Int×Int))(h:aho st lf=true):UE st lf=WJ st lf∧UF st lf=0∧UG st lf=true:=by
 have h':=h
 simp only [aho,Bool.and_eq_true]at h'
 have h12:=(EW.1 h'.1).1
 have hl:=(apw h'.2).1
 obtain⟨a1,a2⟩:=ahx 0 st lf h
 obtain⟨b1,b2⟩:=ahx 1 st lf h
 have n1:leN st.length 9223372036854775807=true:=gx (by omega)
 have n2:leN lf.length 9223372036854775807=true:=gx (by omega)
 have q0:DF st lf=0:=by simp only [DF,h'.1,h'.2];rfl
 have q1:DG st lf=lkC st lf 0:=by simp only [DG,h'.1,h'.2,a1];rfl
 have q2:DH st lf=lkC st lf 1:=by simp only [DH,h'.1,h'.2,b1];rfl
 have q3:IE st lf=true:=by simp only [IE,h'.1,h'.2,a2,b2,n1,n2,allT,Bool.or_true,cond_true]
 obtain⟨s1,s2⟩:=akS (lkC st lf 0) (by rw [Qm];omega)
 obtain⟨t1,t2⟩:=akS (lkC st lf 1) (by rw [Qm];omega)
 have e:=arJ (anz (ch:=0) h) (anz (ch:=1) h) (Qm st lf 0) (Qm st lf 1) h12.2
 refine⟨?_,?_,?_⟩
 ·simp only [UE,Cw,q0,q1,q2,s1,t1,e,WJ,bne_self_eq_false,cond_false]
 ·simp only [UF,Cw,q0,bne_self_eq_false,cond_false]
 ·simp only [UG,q1,q2,q3,s2,t2,allT,Bool.or_true,cond_true]
def iV(y2 b:Int):(Unit)→Nat ⊕ (Unit)
 |_=>(bif(y2==b)then(.inl 0)else(.inr ()))
def dZ(y2:Int)(y3:List Int)(i:Nat):(Unit)→bW
 |_=>((i:Int),(↑y3.length:Int),y2,y3)
def vg:bW→Unit
 |(_,_,_,_)=>()
theorem RC(y2:Int)(y3:List Int) (hn:y3.length≤9223372036854775807):
  aK.fin ((0:Int),(↑y3.length:Int),y2,y3)=true∧aK.res ((0:Int),(↑y3.length:Int),y2,y3)=((ag (iV y2) 1 y3 0 ()).1,(dZ y2 y3) (ag (iV y2) 1 y3 0 ()).2.1 (ag (iV y2) 1 y3 0 ()).2.2):=by
 have key:=aK.along (dZ y2 y3) vg (iV y2) 1 (fun _ _=>True) y3 () (by trivial) (by simp only [aK,dZ];omega) (fun i b a hb hI=> ?_) (fun a hI=> ?_)
 ·exact key
 ·obtain⟨⟩:=a
  have hlt:=(List.getElem?_eq_some_iff.1 hb).1
  have hget: ∀ d,Option.getD y3[i]? d=b:=fun d=>by rw [hb];rfl
  have hw:=py hlt hn
  have hdec:ltI (i:Int) (y3.length:Int)=true:=ce (by omega)
  have hnn:leI (0:Int) (i:Int)=true:=bH (by omega)
  have hltd:ltN i y3.length=true:=cM hlt
  refine⟨?_,?_,?_,?_⟩
  ·simp [lu,lv,lw,lx,ly,lz,kJ,aK,LT.nds,allT,dZ,hdec,hnn,hltd,hget]
  ·simp [lu,lv,lw,lx,ly,lz,kJ,aK,LT.each,dZ,vg,hw]
  ·simp only [lu,lv,lw,lx,ly,lz,kJ,aK,LT.fn,dZ,vg,iV,Int.toNat_natCast,hdec,hnn,hltd,hget,cond_true,Bool.cond_self]
  ·exact fun _ _=>trivial
 ·obtain⟨⟩:=a
  simp [lu,lv,lw,lx,ly,lz,kJ,aK,LT.out,dZ]
def oi(b:Int):(List Int)→Nat ⊕ (List Int)
 |y3=>(.inr (y3++([Zn (b==(2:Int))])))
def kk(y2:List Int)(i:Nat):(List Int)→ij
 |y3=>((i:Int),(↑y2.length:Int),y2,y3)
def Ia:ij→List Int
 |(_,_,_,y3)=>y3
theorem adj(y2 y3:List Int)(hn:y2.length≤9223372036854775807)(hR:areR y2=true)(h0:y3= []):
  cv.fin ((0:Int),(↑y2.length:Int),y2,y3)=true∧cv.res ((0:Int),(↑y2.length:Int),y2,y3)=((ag (oi) 0 y2 0 y3).1,(kk y2) (ag (oi) 0 y2 0 y3).2.1 (ag (oi) 0 y2 0 y3).2.2):=by
 have key:=cv.along (kk y2) Ia (oi) 0 (fun i a=>a.length≤i) y2 y3 (by subst h0;simp) (by simp only [cv,kk];omega) (fun i b a hb hI=> ?_) (fun a hI=> ?_)
 ·exact key
 ·obtain y3:=a
  have hlt:=(List.getElem?_eq_some_iff.1 hb).1
  have hget: ∀ d,Option.getD y2[i]? d=b:=fun d=>by rw [hb];rfl
  have hw:=py hlt hn
  have hdec:ltI (i:Int) (y2.length:Int)=true:=ce (by omega)
  have hnn:leI (0:Int) (i:Int)=true:=bH (by omega)
  have hltd:ltN i y2.length=true:=cM hlt
  refine⟨?_,?_,?_,?_⟩
  ·have h12:=(EW.1 hR).1
   have h6:leN (a.length + 1) 9223372036854775807=true:=gx (by omega)
   have h7:leN ((a.length + 1) * 8) 140737488355328=true:=gx (by omega)
   simp [mN,vM,vN,vO,vP,vQ,vR,vS,vT,uH,cv,LT.nds,allT,kk,hdec,hnn,hltd,h6,h7]
  ·simp [mN,vM,vN,vO,vP,vQ,vR,vS,vT,uH,cv,LT.each,kk,Ia,hw]
  ·simp only [mN,vM,vN,vO,vP,vQ,vR,vS,vT,uH,cv,LT.fn,kk,Ia,oi,Int.toNat_natCast,hdec,hnn,hltd,hget,cond_true,Bool.cond_self]
  ·intro a' hf;simp only [oi,Sum.inr.injEq]at hf;subst hf;simp;omega
 ·obtain y3:=a
  simp [mN,vM,vN,vO,vP,vQ,vR,vS,vT,uH,cv,LT.out,kk]
def oj(b:Int×(Int×Int)):(List Int×List Int)→Nat ⊕ (List Int×List Int)
 |(y3,y4)=>(.inr ((bif(b.2.1==(0:Int))then List.set y3 (Int.toNat b.1) b.2.2else y3),(bif(b.2.1==(0:Int))then y4 else List.set y4 (Int.toNat b.1) b.2.2)))
def km(y2:List (Int×(Int×Int)))(i:Nat):(List Int×List Int)→ik
 |(y3,y4)=>((i:Int),(↑y2.length:Int),y2,y3,y4)
def Ib:ik→List Int×List Int
 |(_,_,_,y3,y4)=>(y3,y4)
theorem adk(y2:List (Int×(Int×Int)))(y3 y4:List Int)(hn:y2.length≤9223372036854775807)(n:Nat)(h3:y3.length=n)(h4:y4.length=n)(hf: ∀ f∈y2,0≤f.1∧f.1 < (n:Int)):
  cw.fin ((0:Int),(↑y2.length:Int),y2,y3,y4)=true∧cw.res ((0:Int),(↑y2.length:Int),y2,y3,y4)=((ag (oj) 0 y2 0 (y3,y4)).1,(km y2) (ag (oj) 0 y2 0 (y3,y4)).2.1 (ag (oj) 0 y2 0 (y3,y4)).2.2):=by
 have key:=cw.along (km y2) Ib (oj) 0 (fun _ a=>a.1.length=n∧a.2.length=n) y2 (y3,y4) ⟨h3,h4⟩ (by simp only [cw,km];omega) (fun i b a hb hI=> ?_) (fun a hI=> ?_)
 ·exact key
 ·obtain⟨y3,y4⟩:=a
  have hlt:=(List.getElem?_eq_some_iff.1 hb).1
  have hget: ∀ d,Option.getD y2[i]? d=b:=fun d=>by rw [hb];rfl
  have hw:=py hlt hn
  have hdec:ltI (i:Int) (y2.length:Int)=true:=ce (by omega)
  have hnn:leI (0:Int) (i:Int)=true:=bH (by omega)
  have hltd:ltN i y2.length=true:=cM hlt
  refine⟨?_,?_,?_,?_⟩
  ·have h5:=hf b (List.mem_of_getElem? hb)
   have hI1:=hI.1
   have hI2:=hI.2
   have h6:leI 0 b.1=true:=bH h5.1
   have h7:ltI b.1 (n:Int)=true:=ce (by omega)
   have h8:ltN b.1.toNat n=true:=cM (by omega)
   simp only at hI1 hI2
   simp [ct,d8,qg,vU,vV,vW,vY,vZ,v6,v7,v8,wa,wb,ut,uu,uv,uI,cw,LT.nds,allT,km,hdec,hnn,hltd,hget,h6,h7,h8,hI1,hI2]
  ·simp [ct,d8,qg,vU,vV,vW,vY,vZ,v6,v7,v8,wa,wb,ut,uu,uv,uI,cw,LT.each,km,Ib,hw]
  ·simp only [ct,d8,qg,vU,vV,vW,vY,vZ,v6,v7,v8,wa,wb,ut,uu,uv,uI,cw,LT.fn,km,Ib,oj,Int.toNat_natCast,hdec,hnn,hltd,hget,cond_true,Bool.cond_self]
  ·intro a' hf;simp only [oj,Sum.inr.injEq]at hf;subst hf;have hI1:=hI.1;have hI2:=hI.2;cases b.2.1==0 <;> simpa using ⟨hI1,hI2⟩
 ·obtain⟨y3,y4⟩:=a
  simp [ct,d8,qg,vU,vV,vW,vY,vZ,v6,v7,v8,wa,wb,ut,uu,uv,uI,cw,LT.out,km]
theorem ark(x v:Int):(x==v)=(v==x):=by rw [Bool.eq_iff_iff,beq_iff_eq,beq_iff_eq];exact eq_comm
theorem Zh(x:Int)(l:List Int)(h:l.length≤9223372036854775807):c9 x l=l.any (· ==x)∧iX x l=true:=by
 obtain⟨w1,w2⟩:=RC x l h
 rw [kf (P:=fun v=>v==x) (j:=0) (fun v=>by simp only [iV];rw [ark x v])]at w2
 simp only [c9,iX,BC,BD,sC,w1,w2,allT,dZ]
 cases l.any (· ==x)with
 |false=>exact⟨rfl,rfl⟩
 |true=>
  simp only [cond_true,Nat.beq]
  exact⟨bH (by omega),trivial⟩
theorem ams(st:List Int)(lf:List (Int×Int×Int))(h:aho st lf=true):TR st lf=WJ st lf∧TS st lf=true:=by
 have h':=h
 simp only [aho,Bool.and_eq_true]at h'
 have h12:=(EW.1 h'.1).1
 obtain⟨hl,hf⟩:=apw h'.2
 obtain⟨w1,w2⟩:=adj st [] (by omega) h'.1 rfl
 rw [iA (f:=oi) (g:=fun a b=>a++ [bif b==2 then 1 else 0]) (fun b a=>rfl),Tk]at w2
 have e1:uZ st=lkB st:=by
  simp only [uZ,GE,w2,kk,List.nil_append];rfl
 obtain⟨v1,v2⟩:=adk lf (lkB st) (lkB st) (by omega) st.length (TU st) (TU st) (fun f hm=>(hf f hm).1)
 rw [iA (f:=oj) (g:=fun a f=>(bif f.2.1==0 then a.1.set f.1.toNat f.2.2 else a.1,bif f.2.1==0 then a.2 else a.2.set f.1.toNat f.2.2)) (fun b a=>rfl),ahZ _ _ (fun f hm=>(hf f hm).2.1)]at v2
 have e3:GF st lf=(lkC st lf 0,lkC st lf 1):=by
  simp only [GF,AC,e1,v2,km];rfl
 have e4:Lp.fin cw (AC st lf)=true:=by simp only [AC,e1];exact v1
 have e5:Lp.fin cv (GE st)=true:=w1
 have q0:xB st lf=lkC st lf 0:=by rw [xB,e3]
 have q1:CM st lf=lkC st lf 1:=by rw [CM,e3]
 have n1:leN 1 st.length=true:=gx (by omega)
 have n2:leN st.length 1048576=true:=gx (by omega)
 have q2:Iu st lf=true:=by simp only [Iu,e4,e5,e1,TU,n1,n2,allT,Bool.and_self,cond_true]
 obtain⟨s1,s2⟩:=Zh 0 (lkC st lf 0) (by rw [Qm];omega)
 obtain⟨t1,t2⟩:=Zh 0 (lkC st lf 1) (by rw [Qm];omega)
 refine⟨?_,?_⟩
 ·simp only [TR,q0,q1,s1,t1,WJ]
  cases (lkC st lf 0).any (· ==0) <;> rfl
 ·simp only [TS,q0,q1,q2,s2,t2,allT,Bool.or_true,cond_true]
def ab8:List SV→List Entry→Option Out
 | [.one ⟨false,[.ref 0]⟩,.one ⟨false,[.ref 1]⟩],[.row false 2 (.int .i64) x0,.row false 100 (.pair (.int .i64) (.pair (.int .i64) (.int .i64))) x1]=>some ⟨(.tup [⟨false,[(.val (.bool (WJ x0 x1)))]⟩,⟨false,[(.val (.int .i64 (0)))]⟩]),[(.row false 2 asZ x0),(.row false 100 asX x1)],[],[aho x0 x1]⟩
 |_,_=>none
def Uf:PF Tryz.prog:=PF.alt akC ab8 (by
 intro args es o h hnd;unfold ab8 at h;split at h
 ·rename_i x0 x1
  cases h
  have hnd:=cf hnd
  have hh:=amN x0 x1 hnd
  obtain⟨e0,e1,en⟩:=hh
  exact eT rfl (cg en) (by simp only [e0,e1] <;> rfl) rfl rfl
 ·cases h)
def ab3:List SV→List Entry→Option Out
 | [.one ⟨false,[.ref 0]⟩,.one ⟨false,[.ref 1]⟩],[.row false 2 (.int .i64) x0,.row false 100 (.pair (.int .i64) (.pair (.int .i64) (.int .i64))) x1]=>some ⟨(.one ⟨false,[(.val (.bool (WJ x0 x1)))]⟩),[(.row false 2 asZ x0),(.row false 100 asX x1)],[],[aho x0 x1]⟩
 |_,_=>none
def Ua:PF Tryz.prog:=PF.alt akx ab3 (by
 intro args es o h hnd;unfold ab3 at h;split at h
 ·rename_i x0 x1
  cases h
  have hnd:=cf hnd
  have hh:=ams x0 x1 hnd
  obtain⟨e0,en⟩:=hh
  exact eT rfl (cg en) (by simp only [e0] <;> rfl) rfl rfl
 ·cases h)
end Go.SX

namespace Go.SX
open Go.Proofs
set_option maxRecDepth 100000
def rsB(n k row:Int):Bool:=bif k==0||k==1 then inR row 0 (IntKind.i64.wrap (n - 1))else bif k==2||k==3 then row==0 else false
def kj(st:List Int)(k row:Int):Bool:=bif k==0||k==1 then(st[row.toNat]?.getD 0)==k else bif k==2 then !st.any (· ==0)else NV st
def OZ(st:List Int)(k row:Int):List Int:=bif k==0||k==1 then st.set row.toNat (1 - k)else st.map fun _=>bif k==2 then 2 else 1
def ahs(st:List Int)(k row:Int):Bool:=areR st&&rsB (st.length:Int) k row
theorem apC(a b:Bool):(bif a then a else b)=(a||b):=by cases a <;> rfl
theorem aqe(n k row:Int):UL n k row=rsB n k row:=by
 simp only [UL,aI,ui,rsB,apC]
theorem apT(n k row:Int):GD n k row=rsB n k row:=by
 simp only [GD,aX,ui,rsB,apC]
theorem akM{st:List Int}{k row:Int}(h:ahs st k row=true):areR st=true∧(1≤st.length∧st.length≤12)∧(((k=0∨k=1)∧0≤row∧row < st.length)∨((k=2∨k=3)∧row=0)):=by
 simp only [ahs,Bool.and_eq_true]at h
 have h12:=(EW.1 h.1).1
 refine⟨h.1,h12,?_⟩
 have h2:=h.2
 rw [rsB,aA (by omega) (by omega)]at h2
 cases h3:(k==0||k==1)with
 |true=>
  rw [h3,cond_true,rh]at h2
  simp only [Bool.or_eq_true,beq_iff_eq]at h3
  exact .inl ⟨h3,by omega⟩
 |false=>
  rw [h3,cond_false]at h2
  cases h4:(k==2||k==3)with
  |true=>
   rw [h4,cond_true,beq_iff_eq]at h2
   simp only [Bool.or_eq_true,beq_iff_eq]at h4
   exact .inr ⟨h4,h2⟩
  |false=>rw [h4]at h2;cases h2
def sS(y1 _b:Int):(List Int)→Nat ⊕ (List Int)
 |y3=>(.inr (y3++ [y1]))
def pe(y1:Int)(y2:List Int)(i:Nat):(List Int)→kV
 |y3=>((i:Int),y1,y2,y3)
def MB:kV→List Int
 |(_,_,_,y3)=>y3
theorem ahF(y1:Int)(y2 y3:List Int)(hn:y2.length≤9223372036854775807)(h12:y2.length≤12)(h0:y3= []):
  fT.fin ((0:Int),y1,y2,y3)=true∧fT.res ((0:Int),y1,y2,y3)=((ag (sS y1) 0 y2 0 y3).1,(pe y1 y2) (ag (sS y1) 0 y2 0 y3).2.1 (ag (sS y1) 0 y2 0 y3).2.2):=by
 have key:=fT.along (pe y1 y2) MB (sS y1) 0 (fun i a=>a.length≤i) y2 y3 (by subst h0;simp) (by simp only [fT,pe];omega) (fun i b a hb hI=> ?_) (fun a hI=> ?_)
 ·exact key
 ·obtain y3:=a
  have hlt:=(List.getElem?_eq_some_iff.1 hb).1
  have hget: ∀ d,Option.getD y2[i]? d=b:=fun d=>by rw [hb];rfl
  have hw:=py hlt hn
  have hdec:ltI (i:Int) (y2.length:Int)=true:=ce (by omega)
  have hnn:leI (0:Int) (i:Int)=true:=bH (by omega)
  have hltd:ltN i y2.length=true:=cM hlt
  refine⟨?_,?_,?_,?_⟩
  ·have h6:leN (a.length + 1) 9223372036854775807=true:=gx (by omega)
   have h7:leN ((a.length + 1) * 8) 140737488355328=true:=gx (by omega)
   simp [DM,DN,DO,DP,DQ,Bu,fT,LT.nds,allT,pe,hdec,hnn,hltd,h6,h7]
  ·simp [DM,DN,DO,DP,DQ,Bu,fT,LT.each,pe,MB,hw]
  ·simp only [DM,DN,DO,DP,DQ,Bu,fT,LT.fn,pe,MB,sS,Int.toNat_natCast,hdec,hnn,hltd,hget,cond_true,Bool.cond_self]
  ·intro a' hf;simp only [sS,Sum.inr.injEq]at hf;subst hf;simp;omega
 ·obtain y3:=a
  simp [DM,DN,DO,DP,DQ,Bu,fT,LT.out,pe]
theorem ajh(x:Int)(st:List Int)(h:st.length≤12):JX x st=st.map (fun _=>x)∧JY x st=true:=by
 obtain⟨w1,w2⟩:=ahF x st [] (by omega) h rfl
 rw [iA (f:=sS x) (g:=fun a _=>a++ [x]) (fun b a=>rfl),Tk (fun _=>x)]at w2
 exact⟨by simp only [JX,Mb,w2,pe,List.nil_append],by simp only [JY,Mb,w1,allT,cond_true]⟩
theorem ah4: ∀ (xs:List Int) (m:Int),0≤m→(∀ y∈xs,0≤y)→
  leI 1 (xs.foldl (fun m b=>bif ltI b m then b else m) m)=(!(m==0)&& !xs.any (· ==0))
 | [],m,hm,_=>by
  simp only [List.foldl_nil,List.any_nil,Bool.not_false,Bool.and_true]
  rw [Bool.eq_iff_iff,Bool.not_eq_true',beq_eq_false_iff_ne,Td];omega
 |y::xs,m,hm,h=>by
  have hy:=h y (by simp)
  rw [List.foldl_cons,List.any_cons]
  cases hc:ltI y m with
  |true=>
   rw [cond_true,ah4 xs y hy fun z hz=>h z (by simp [hz])]
   have hc:=ag4.1 hc
   rw [show (m==0)=false from by rw [beq_eq_false_iff_ne];omega]
   cases y==0 <;> simp
  |false=>
   rw [cond_false,ah4 xs m hm fun z hz=>h z (by simp [hz])]
   have hc: ¬ y < m:=fun h=>by rw [ce h]at hc;cases hc
   cases hm0:m==0 with
   |true=>rfl
   |false=>
    rw [beq_eq_false_iff_ne]at hm0
    rw [show (y==0)=false from by rw [beq_eq_false_iff_ne];omega]
    simp
theorem apY(st:List Int)(h:areR st=true):leI 1 (xZ st)= !st.any (· ==0):=by
 obtain⟨h1,h2⟩:=EW.1 h
 match st,h1,h2 with
 |x::xs,h1,h2=>
  have hx:=h2 x (by simp)
  obtain⟨w1,w2⟩:=UW (x::xs) x (by omega)
  rw [iA (f:=lM) (g:=fun m b=>bif ltI b m then b else m) (fun b a=>by simp only [lM,amp])]at w2
  have e0:Option.getD (x::xs)[Int.toNat 0]? 0=x:=rfl
  simp only [xZ,FQ,e0,w2,ky,List.drop_one,List.tail_cons]
  rw [ah4 xs x hx.1 fun y hy=>(h2 y (by simp [hy])).1,List.any_cons,Bool.not_or]
theorem aiE{st:List Int}{row:Int}(h:0≤row∧row < st.length):leI 0 row=true∧ltI row (st.length:Int)=true∧ltN row.toNat st.length=true:=
 ⟨bH h.1,ce h.2,cM (by omega)⟩
theorem amL(k row:Int)(st:List Int)(h:ahs st k row=true):Cx k row st=kj st k row∧Cy k row st=OZ st k row∧Cz k row st=true:=by
 obtain⟨hA,h12,hk⟩:=akM h
 obtain⟨l1,l2⟩:=aqL st hA
 have l3:=apY st hA
 obtain⟨f1,f2⟩:=ajh 2 st h12.2
 obtain⟨g1,g2⟩:=ajh 1 st h12.2
 have n1:leN st.length 1048576=true:=gx (by omega)
 rcases hk with⟨rfl | rfl,hr⟩ | ⟨rfl | rfl,rfl⟩
 ·obtain⟨r1,r2,r3⟩:=aiE hr
  simp [Cx,Cy,Cz,z6,z7,z8,Aa,Ab,Ac,Ad,kj,OZ,r1,r2,r3,n1,allT]
 ·obtain⟨r1,r2,r3⟩:=aiE hr
  simp [Cx,Cy,Cz,z6,z7,z8,Aa,Ab,Ac,Ad,kj,OZ,r1,r2,r3,n1,allT]
 ·simp [Cx,Cy,Cz,z6,z7,z8,Aa,Ab,Ac,Ad,kj,OZ,l2,l3,f1,f2,n1,allT]
 ·simp [Cx,Cy,Cz,z6,z7,z8,Aa,Ab,Ac,Ad,kj,OZ,l1,l2,g1,g2,n1,allT]
def jK(y2:Int)(b:Nat):(List Int)→Nat ⊕ (List Int)
 |y3=>(.inr (List.set y3 b y2))
def gS(y1 y2:Int)(i:Nat):(List Int)→ee
 |y3=>((i:Int),y1,y2,y3)
def Ck:ee→List Int
 |(_,_,_,y3)=>y3
theorem WS(y1 y2:Int)(y3:List Int)(hn:y1≤9223372036854775807)(h3:y1=(y3.length:Int)):
  aT.fin ((0:Int),y1,y2,y3)=true∧aT.res ((0:Int),y1,y2,y3)=((ag (jK y2) 0 (List.range y1.toNat) 0 y3).1,(gS y1 y2) (ag (jK y2) 0 (List.range y1.toNat) 0 y3).2.1 (ag (jK y2) 0 (List.range y1.toNat) 0 y3).2.2):=by
 have key:=aT.along (gS y1 y2) Ck (jK y2) 0 (fun _ a=>y1=(a.length:Int)) (List.range y1.toNat) y3 h3 (by simp only [aT,gS,List.length_range];omega) (fun i b a hb hI=> ?_) (fun a hI=> ?_)
 ·exact key
 ·obtain y3:=a
  obtain⟨rfl,hlt⟩:=fU hb
  have hw:IntKind.i64.wrap ((b:Int) + 1)=((b + 1:Nat):Int):=by rw [aA (by omega) (by omega)];omega
  have hdec:ltI (b:Int) y1=true:=ce (by omega)
  have hnn:leI (0:Int) (b:Int)=true:=bH (by omega)
  refine⟨?_,?_,?_,?_⟩
  ·have h6:ltI (b:Int) (a.length:Int)=true:=ce (by omega)
   have h7:ltN b a.length=true:=cM (by omega)
   simp [ql,qm,qn,qo,qp,qq,pz,aT,LT.nds,allT,gS,hdec,hnn,h6,h7]
  ·simp [ql,qm,qn,qo,qp,qq,pz,aT,LT.each,gS,Ck,hw]
  ·simp only [ql,qm,qn,qo,qp,qq,pz,aT,LT.fn,gS,Ck,jK,Int.toNat_natCast,hdec,hnn,cond_true,Bool.cond_self]
  ·intro a' hf;simp only [jK,Sum.inr.injEq]at hf;subst hf;simpa using hI
 ·obtain y3:=a
  simp only [ql,qm,qn,qo,qp,qq,pz,aT,LT.out,gS,List.length_range,Yt,acY,cond_false]
theorem aiZ(x:Int)(st:List Int)(h:st.length≤12):(Lp.res aT ((0:Int),(↑(List.length st):Int),x,st)).2.2.2.2=st.map (fun _=>x)∧Lp.fin aT ((0:Int),(↑(List.length st):Int),x,st)=true:=by
 obtain⟨w1,w2⟩:=WS (st.length:Int) x st (by omega) rfl
 rw [Int.toNat_natCast,Nr (xs:=st) (d:=0) (f:=jK x) (g:=fun _=>x) (fun b a=>rfl) rfl]at w2
 exact⟨by simp only [w2,gS],w1⟩
theorem asj{k:Int}(h:0≤k∧k≤2):IntKind.i64.wrap (IntKind.i64.wrap (k - 0) + 0)=k∧IntKind.i64.wrap (1 - k)=1 - k:=
 ⟨by rw [show IntKind.i64.wrap (k - 0)=k from by rw [aA (by omega) (by omega)];omega,aA (by omega) (by omega)];omega,aA (by omega) (by omega)⟩
theorem ant(k row:Int)(st:List Int)(h:ahs st k row=true):uw k row st=kj st k row∧ux k row st=(bif kj st k row then OZ st k row else st)∧uy k row st=true:=by
 obtain⟨hA,h12,hk⟩:=akM h
 obtain⟨c1,c2⟩:=Zh 0 st (by omega)
 obtain⟨f1,f2⟩:=aiZ 2 st h12.2
 obtain⟨g1,g2⟩:=aiZ 1 st h12.2
 have n1:leN st.length 9223372036854775807=true:=gx (by omega)
 rcases hk with⟨hk,hr⟩ | ⟨rfl | rfl,rfl⟩
 ·obtain⟨r1,r2,r3⟩:=aiE hr
  obtain⟨q1,q2⟩:=asj (k:=k) (by omega)
  have ha0:bE k=true:=by rcases hk with rfl | rfl <;> rfl
  have ha1:(k==0||k==1)=true:=by rcases hk with rfl | rfl <;> rfl
  have ha2:lN k row st= !((st[row.toNat]?.getD 0)==k):=by
   rw [lN,q1];rfl
  simp only [uw,ux,uy,ha0,ha2,sU,sV,sW,kj,OZ,ha1,cond_true,r1,r2,r3,Bool.or_true,Bool.true_or,allT]
  cases hc:(st[row.toNat]?.getD 0)==k with
  |false=>simp
  |true=>
   have hv:GG row st=k:=by rw [beq_iff_eq]at hc;exact hc
   rw [hv,q2]
   simp
 ·simp only [uw,ux,uy,show bE 2=false from rfl,GH,sU,sV,sW,kj,OZ,c1,c2,f1,f2,n1,allT]
  cases st.any (· ==0) <;> simp
 ·simp only [uw,ux,uy,show bE 3=false from rfl,GI,sU,sV,sW,kj,OZ,c1,c2,g1,g2,n1,allT]
  cases NV st <;> simp
def acb:List SV→List Entry→Option Out
 | [.one ⟨false,[.val (.int .i64 x0)]⟩,.one ⟨true,[.val (.int .i64 x1),.val (.int .i64 x2)]⟩],[]=>some ⟨(.one ⟨false,[(.val (.bool (rsB x0 x1 x2)))]⟩),[],[],[]⟩
 |_,_=>none
def akq:PF Tryz.prog:=PF.alt akF acb (by
 intro args es o h hnd;unfold acb at h;split at h
 ·rename_i x0 x1 x2
  cases h
  have hh:=aqe x0 x1 x2
  have e0:=hh
  exact eT rfl (fun _ h=>by cases h) (by simp only [e0] <;> rfl) rfl rfl
 ·cases h)
def NB:List SV→List Entry→Option Out
 | [.one ⟨false,[.val (.int .i64 x0)]⟩,.one ⟨true,[.val (.int .i64 x1),.val (.int .i64 x2)]⟩],[]=>some ⟨(.one ⟨false,[(.val (.bool (rsB x0 x1 x2)))]⟩),[],[],[]⟩
 |_,_=>none
def ZA:PF Tryz.prog:=PF.alt ZF NB (by
 intro args es o h hnd;unfold NB at h;split at h
 ·rename_i x0 x1 x2
  cases h
  have hh:=apT x0 x1 x2
  have e0:=hh
  exact eT rfl (fun _ h=>by cases h) (by simp only [e0] <;> rfl) rfl rfl
 ·cases h)
def aat:List SV→List Entry→Option Out
 | [.one ⟨false,[.ref 0]⟩,.one ⟨true,[.val (.int .i64 x0),.val (.int .i64 x1)]⟩],[.row false 2 (.int .i64) x2]=>some ⟨(.tup [⟨false,[(.ref 1)]⟩,⟨false,[(.val (.bool (kj x2 x0 x1)))]⟩]),[(.row false 2 asZ x2)],[(.row true 2 asZ (OZ x2 x0 x1))],[ahs x2 x0 x1]⟩
 |_,_=>none
def Sk:PF Tryz.prog:=PF.alt ajG aat (by
 intro args es o h hnd;unfold aat at h;split at h
 ·rename_i x0 x1 x2
  cases h
  have hnd:=cf hnd
  have hh:=amL x0 x1 x2 hnd
  obtain⟨e0,e1,en⟩:=hh
  exact eT rfl (cg en) (by simp only [e0] <;> rfl) rfl (by simp only [e1] <;> rfl)
 ·cases h)
def Pv:List SV→List Entry→Option Out
 | [.one ⟨false,[.ref 0]⟩,.one ⟨true,[.val (.int .i64 x0),.val (.int .i64 x1)]⟩],[.row true 2 (.int .i64) x2]=>some ⟨(.one ⟨false,[(.val (.bool (kj x2 x0 x1)))]⟩),[(.row true 2 asZ (bif kj x2 x0 x1 then OZ x2 x0 x1 else x2))],[],[ahs x2 x0 x1]⟩
 |_,_=>none
def HT:PF Tryz.prog:=PF.alt abe Pv (by
 intro args es o h hnd;unfold Pv at h;split at h
 ·rename_i x0 x1 x2
  cases h
  have hnd:=cf hnd
  have hh:=ant x0 x1 x2 hnd
  obtain⟨e0,e1,en⟩:=hh
  exact eT rfl (cg en) (by simp only [e0] <;> rfl) (by simp only [e1] <;> rfl) rfl
 ·cases h)
end Go.SX

namespace Go.SX
open Go.Proofs
set_option maxRecDepth 100000
section
variable (x0 x1 x2 x3 x4 x5 x6 x7 x8:Int)(x9:Bool)(x10:List Int)(x11:List (Int×Int×Int))(x12:List (List Int))(x13:List (Int×Int×Int))(x14 x15:List (Int×Int))
def GQ:Bool:=aI x4 (0:Int) (IntKind.wrap .i64 ((↑x12.length:Int) - (1:Int)))
def MP:Bool:=bif x5==(0:Int)then bif x6==(0:Int)then true else false else false
def MQ:Bool:=bif x7==(0:Int)then bif x8==(0:Int)then bif x9==false then true else false else false else false
def DD:Bool:=bif !pS x0 x10 x11 x12 x13 x1 x14 x15 x2 then false else bif x3==(0:Int)then bif GQ x4 x12 then bif x3==(0:Int)then bif x4==x4 then bif MP x5 x6 then bif MQ x7 x8 x9 then true else false else false else false else false else false else bif x3==(1:Int)then bif bif GQ x4 x12 then rsB (xm x12) x5 x6 else false then MQ x7 x8 x9 else false else bif x3==(2:Int)then bif bif x4==(0:Int)then MP x5 x6 else false then agN x7 x8 else false else false
def DE:Bool:=allT [p8 (9223372036854775807:Nat) x10 x11 x12 x13 x14 x15,!pS x0 x10 x11 x12 x13 x1 x14 x15 x2||(x3==(0:Int)||(!x3==(1:Int)||(!(GQ x4 x12&&true)||xo x12)))]
end
def VF:List SV→List Entry→Option Out
 | [.one ⟨true,[.val (.int .i64 x0),.ref 0,.ref 1,.ref 2,.ref 3,.val (.int .i64 x1),.ref 4,.ref 5,.val (.int .i64 x2)]⟩,.one ⟨true,[.val (.int .i64 x3),.val (.int .i64 x4),.val (.int .i64 x5),.val (.int .i64 x6),.val (.int .i64 x7),.val (.int .i64 x8),.val (.bool x9)]⟩],[.row false 2 (.int .i64) x10,.row false 169 (.pair (.int .i64) (.pair (.int .i64) (.int .i64))) x11,.row false 24 (.sl 2 (.int .i64)) x12,.row false 100 (.pair (.int .i64) (.pair (.int .i64) (.int .i64))) x13,.row false 173 (.pair (.int .i64) (.int .i64)) x14,.row false 176 (.pair (.int .i64) (.int .i64)) x15]=>some ⟨(.one ⟨false,[(.val (.bool (DD x0 x1 x2 x3 x4 x5 x6 x7 x8 x9 x10 x11 x12 x13 x14 x15)))]⟩),[(.row false 2 asZ x10),(.row false 169 asX x11),(.row false 24 (CTy.sl (2:TypeId) asZ) x12),(.row false 100 asX x13),(.row false 173 asY x14),(.row false 176 asY x15)],[],[(DE x0 x1 x2 x3 x4 x10 x11 x12 x13 x14 x15)]⟩
 |_,_=>none
def Of:PF Tryz.prog:=PF.ofG Tryz.prog [akq,aie,HD,PF.lend HD,PF.fz HD,fg,tp,PF.lend tp,PF.fz tp] [] ar 35 Tryz.f35 Tryz.func35 (fun c _=>LOk.nil c) VF (by
 intro vs es r h;unfold VF at h;split at h
 ·cases h;kernel_rfl
 ·cases h)
abbrev mj:=Int×Int×Int×Int×List (List Int)×List Int×List (Int×(Int×Int))×List (List Int)×List (Int×(Int×Int))×List (Int×Int)×List (Int×Int)
section
variable (y0:Int)(y4 y7:List (List Int))
def qa:List Int:=Option.getD y7[Int.toNat y0]? (uq (CTy.sl (2:TypeId) asZ))
def Ah:Bool:=ltI y0 (↑y7.length:Int)
def FX:Bool:=leI (0:Int) y0
def FY:Bool:=ltN y0.toNat y7.length
def FZ:Bool:=leN (List.length (qa y0 y7)) (1048576:Nat)
def Ga:Bool:=leN (List.length y4 + List.length [qa y0 y7]) (9223372036854775807:Nat)
def Gb:Bool:=leN ((List.length y4 + List.length [qa y0 y7]) * (24:Nat)) (140737488355328:Nat)
def Gc:Int:=IntKind.wrap .i64 (y0 + (1:Int))
def Gd:List (List Int):=y4++ [qa y0 y7]
end
def agu:mj→List (Nat×SV)
 |(y0,_,_,_,_,_,_,_,_,_,_)=> [(4,(.one ⟨false,[(.val (.int .i64 y0))]⟩)),(1,(.one ⟨false,[(.ptr 0 0)]⟩)),(3,(.one ⟨false,[(.ref 1)]⟩))]
def agn:mj→List (Nat×Entry)
 |(_,y1,y2,y3,y4,y5,y6,y7,y8,y9,y10)=> [(0,(.box 33 [(.val (.int .i64 y1)),(.ref 2),(.ref 3),(.ref 4),(.ref 5),(.val (.int .i64 y2)),(.ref 6),(.ref 7),(.val (.int .i64 y3))])),(2,(.row false 2 asZ y5)),(3,(.row false 169 asX y6)),(4,(.row false 24 (CTy.sl (2:TypeId) asZ) y7)),(5,(.row false 100 asX y8)),(6,(.row false 173 asY y9)),(7,(.row false 176 asY y10)),(1,(.row true 24 (CTy.sl (2:Nat) asZ) y4))]
def agI:Nat→mj→List (Nat×SV)
 |_,(_,_,_,_,_,_,_,_,_,_,_)=> [(3,(.one ⟨false,[(.ref 1)]⟩))]
def agB:Nat→mj→List (Nat×Entry)
 |_,(_,y1,y2,y3,y4,y5,y6,y7,y8,y9,y10)=> [(0,(.box 33 [(.val (.int .i64 y1)),(.ref 2),(.ref 3),(.ref 4),(.ref 5),(.val (.int .i64 y2)),(.ref 6),(.ref 7),(.val (.int .i64 y3))])),(1,(.row true 24 (CTy.sl (2:Nat) asZ) y4)),(2,(.row false 2 asZ y5)),(3,(.row false 169 asX y6)),(4,(.row false 24 (CTy.sl (2:TypeId) asZ) y7)),(5,(.row false 100 asX y8)),(6,(.row false 173 asY y9)),(7,(.row false 176 asY y10))]
def Dz:mj→LT mj
 |(y0,y1,y2,y3,y4,y5,y6,y7,y8,y9,y10)=> .ite (Ah y0 y7) (.need [(FX y0),(Ah y0 y7),(FY y0 y7),(FZ y0 y7),(Ga y0 y4 y7),(Gb y0 y4 y7)] (.nrm ((Gc y0),y1,y2,y3,(Gd y0 y4 y7),y5,y6,y7,y8,y9,y10) [(0,0),(1,896),(2,2),(3,3),(4,4),(5,5),(6,6),(7,7)])) (.ext 0 [(0,0),(1,1),(2,2),(3,3),(4,4),(5,5),(6,6),(7,7)])
def Ow(s:St):Option mj:=
 (match s.look 4 with
 |some ⟨none,(.one ⟨false,[(.val (.int .i64 y0))]⟩)⟩=>
 (match s.look 1 with
 |some ⟨none,(.one ⟨false,[(.ptr 448 0)]⟩)⟩=>
 (match s.look 3 with
 |some ⟨none,(.one ⟨false,[(.ref 576)]⟩)⟩=>
 (match s.ent 448 with
 |some (.box 33 [(.val (.int .i64 y1)),(.ref 0),(.ref 1),(.ref 2),(.ref 3),(.val (.int .i64 y2)),(.ref 4),(.ref 5),(.val (.int .i64 y3))])=>
 (match s.ent 0 with
 |some (.row false 2 (.int .i64) y5)=>
 (match s.ent 1 with
 |some (.row false 169 (.pair (.int .i64) (.pair (.int .i64) (.int .i64))) y6)=>
 (match s.ent 2 with
 |some (.row false 24 (.sl 2 (.int .i64)) y7)=>
 (match s.ent 3 with
 |some (.row false 100 (.pair (.int .i64) (.pair (.int .i64) (.int .i64))) y8)=>
 (match s.ent 4 with
 |some (.row false 173 (.pair (.int .i64) (.int .i64)) y9)=>
 (match s.ent 5 with
 |some (.row false 176 (.pair (.int .i64) (.int .i64)) y10)=>
 (match s.ent 576 with
 |some (.row true 24 (.sl 2 (.int .i64)) y4)=>
 some (y0,y1,y2,y3,y4,y5,y6,y7,y8,y9,y10)
 |_=>none)
 |_=>none)
 |_=>none)
 |_=>none)
 |_=>none)
 |_=>none)
 |_=>none)
 |_=>none)
 |_=>none)
 |_=>none)
 |_=>none)
def fO:Lp mj where
 h:=⟨[6,7,8,9,10,13,14,15,16,17,18,19,20,21,3,11,12,4],[0,2,3,4,5,6,7],[1],[]⟩
 JL:=agu
 JE:=agn
 XL:=agI
 XE:=agB
 q:=fun j=>match j with | _=> .exit 0
 tags:= [0]
 lt:=Dz
 fuel:=fun(y0,y1,y2,y3,y4,y5,y6,y7,y8,y9,y10)=>y0.natAbs + y1.natAbs + y2.natAbs + y3.natAbs + y4.length + y5.length + y6.length + y7.length + y8.length + y9.length + y10.length
 fix:=fun(_,y1,y2,y3,_,y5,y6,y7,y8,y9,y10) (y0,_,_,_,y4,_,_,_,_,_,_)=>(y0,y1,y2,y3,y4,y5,y6,y7,y8,y9,y10)
 σ:= [(0,448),(2,0),(3,1),(4,2),(5,3),(6,4),(7,5),(1,576)]
 rd:=Ow
theorem aeh:LoopOk Tryz.prog (fun k=>Nat.blt k Tryz.f155.ntmps) fO.F (ay Tryz.f155 0):=by
 refine Lp.ok (tbl:= [pg,PF.lend pg,PF.fz pg]) (lf:= []) ar fO (by kernel_rfl) (LOk.nil _) (fun _=>rfl) (fun _ _=>rfl) ?_ ?_ ?_ ?_ (fun _=>rfl) ?_
 ·intro x;obtain⟨y0,y1,y2,y3,y4,y5,y6,y7,y8,y9,y10⟩:=x;kernel_rfl
 ·intro x;obtain⟨y0,y1,y2,y3,y4,y5,y6,y7,y8,y9,y10⟩:=x;kernel_rfl
 ·intro s x h
  have h:Ow s=some x:=h
  unfold Ow at h
  repeat' split at h
  all_goals cases h
  exact⟨aa (by assumption) rfl (aa (by assumption) rfl (aa (by assumption) rfl (rfl))),ac rfl (by assumption) rfl (ac rfl (by assumption) rfl (ac rfl (by assumption) rfl (ac rfl (by assumption) rfl (ac rfl (by assumption) rfl (ac rfl (by assumption) rfl (ac rfl (by assumption) rfl (ac rfl (by assumption) rfl (rfl))))))))⟩
 ·intro x;obtain⟨y0,y1,y2,y3,y4,y5,y6,y7,y8,y9,y10⟩:=x;kernel_rfl
 ·intro x z;obtain⟨y0,y1,y2,y3,y4,y5,y6,y7,y8,y9,y10⟩:=x;exact(And.intro rfl trivial)
section
variable (x0 x1 x2:Int)(x3:List Int)(x4:List (Int×Int×Int))(x5:List (List Int))(x6:List (Int×Int×Int))(x7 x8:List (Int×Int))
def OO:Int×Int×Int×Int×List (List Int)×List Int×List (Int×Int×Int)×List (List Int)×List (Int×Int×Int)×List (Int×Int)×List (Int×Int):=((0:Int),x0,x1,x2,[],x3,x4,x5,x6,x7,x8)
def mw:List (List Int):=((Lp.res fO (OO x0 x1 x2 x3 x4 x5 x6 x7 x8)).2.2.2.2.2).1
def QW:Bool:=allT [Lp.fin fO (OO x0 x1 x2 x3 x4 x5 x6 x7 x8),leN x3.length (1048576:Nat),leN ((0:Nat) + List.length x4) (9223372036854775807:Nat),leN (((0:Nat) + List.length x4) * (24:Nat)) (140737488355328:Nat),leN ((0:Nat) + List.length x6) (9223372036854775807:Nat),leN (((0:Nat) + List.length x6) * (24:Nat)) (140737488355328:Nat),leN ((0:Nat) + List.length x7) (9223372036854775807:Nat),leN (((0:Nat) + List.length x7) * (16:Nat)) (140737488355328:Nat),leN ((0:Nat) + List.length x8) (9223372036854775807:Nat),leN (((0:Nat) + List.length x8) * (16:Nat)) (140737488355328:Nat)]
end
def aeM:List SV→List Entry→Option Out
 | [.one ⟨true,[.val (.int .i64 x0),.ref 0,.ref 1,.ref 2,.ref 3,.val (.int .i64 x1),.ref 4,.ref 5,.val (.int .i64 x2)]⟩],[.row false 2 (.int .i64) x3,.row false 169 (.pair (.int .i64) (.pair (.int .i64) (.int .i64))) x4,.row false 24 (.sl 2 (.int .i64)) x5,.row false 100 (.pair (.int .i64) (.pair (.int .i64) (.int .i64))) x6,.row false 173 (.pair (.int .i64) (.int .i64)) x7,.row false 176 (.pair (.int .i64) (.int .i64)) x8]=>some ⟨(.one ⟨true,[(.val (.int .i64 x0)),(.ref 6),(.ref 7),(.ref 8),(.ref 9),(.val (.int .i64 x1)),(.ref 10),(.ref 11),(.val (.int .i64 x2))]⟩),[(.row false 2 asZ x3),(.row false 169 asX x4),(.row false 24 (CTy.sl (2:TypeId) asZ) x5),(.row false 100 asX x6),(.row false 173 asY x7),(.row false 176 asY x8)],[(.row true 2 asZ x3),(.row true 169 asX x4),(.row true 24 (CTy.sl (2:Nat) asZ) (mw x0 x1 x2 x3 x4 x5 x6 x7 x8)),(.row true 100 asX x6),(.row true 173 asY x7),(.row true 176 asY x8)],[(QW x0 x1 x2 x3 x4 x5 x6 x7 x8)]⟩
 |_,_=>none
def WH:PF Tryz.prog:=PF.ofG Tryz.prog [pg,PF.lend pg,PF.fz pg] [fO.F] ar 155 Tryz.f155 Tryz.func155 (LOk.fnT (l:= [ay Tryz.f155 0]) (by kernel_rfl) (.cons aeh (.nil _))) aeM (by
 intro vs es r h;unfold aeM at h;split at h
 ·cases h;kernel_rfl
 ·cases h)
section
variable (x0 x1 x3:Int)(x4:List Int)(x5:List (Int×Int×Int))(x6:List (List Int))(x7:List (Int×Int×Int))
def rp:Bool:=Int.tmod (Option.getD x4[Int.toNat x3]? (0:Int)) (3:Int)!=(1:Int)
def Sq:Bool:= !ae7 x0 x4 (Eu x0 x4 x5 (0:Int)) (Eu x0 x4 x5 (1:Int)) x3
def Me:List Int:=Option.getD x6[Int.toNat x3]? (uq (CTy.sl (2:TypeId) asZ))
def FW:Int:=bif rp x3 x4 then(0:Int)else bif x1 !=(3:Int)then(1:Int)else bif Sq x0 x3 x4 x5 then(2:Int)else bif bif de x0 x3 x4 then !WJ (Me x3 x6) x7 else false then(3:Int)else(0:Int)
def ON:Bool:=allT [leI (0:Int) x3,ltI x3 (↑x4.length:Int),ltN x3.toNat x4.length,rp x3 x4||leI (0:Int) x3,rp x3 x4||ltI x3 (↑x6.length:Int),rp x3 x4||ltN x3.toNat x6.length,rp x3 x4||aho (Me x3 x6) x7,rp x3 x4||(x1 !=(3:Int)||isT x0 x4&&ah1 x0 x5),rp x3 x4||(x1 !=(3:Int)||WI x0 x4 (Eu x0 x4 x5 (0:Int)) (Eu x0 x4 x5 (1:Int)) x3),rp x3 x4||(x1 !=(3:Int)||(Sq x0 x3 x4 x5||Ai x3 x4))]
end
def abG:List SV→List Entry→Option Out
 | [.one ⟨true,[.val (.int .i64 x0),.ref 0,.ref 1,.ref 2,.ref 3,.val (.int .i64 x1),.ref 4,.ref 5,.val (.int .i64 _x2)]⟩,.one ⟨false,[.val (.int .i64 x3)]⟩],[.row false 2 (.int .i64) x4,.row false 169 (.pair (.int .i64) (.pair (.int .i64) (.int .i64))) x5,.row false 24 (.sl 2 (.int .i64)) x6,.row false 100 (.pair (.int .i64) (.pair (.int .i64) (.int .i64))) x7,.row false 173 (.pair (.int .i64) (.int .i64)) x8,.row false 176 (.pair (.int .i64) (.int .i64)) x9]=>some ⟨(.one ⟨false,[(.val (.int .i64 (FW x0 x1 x3 x4 x5 x6 x7)))]⟩),[(.row false 2 asZ x4),(.row false 169 asX x5),(.row false 24 (CTy.sl (2:TypeId) asZ) x6),(.row false 100 asX x7),(.row false 173 asY x8),(.row false 176 asY x9)],[],[(ON x0 x1 x3 x4 x5 x6 x7)]⟩
 |_,_=>none
def Ut:PF Tryz.prog:=PF.ofG Tryz.prog [Uf,PF.lend Uf,PF.fz Uf,Oa,PF.lend Oa,PF.fz Oa,QA,PF.lend QA,PF.fz QA,zW,PF.lend zW,PF.fz zW] [] ar 177 Tryz.f177 Tryz.func177 (fun c _=>LOk.nil c) abG (by
 intro vs es r h;unfold abG at h;split at h
 ·cases h;kernel_rfl
 ·cases h)
section
variable (x0 x1 x2 x3 x4 x5 x6 x7 x8:Int)(x9:Bool)(x10:List Int)(x11:List (Int×Int×Int))(x12:List (List Int))(x13:List (Int×Int×Int))(x14 x15:List (Int×Int))
def kz:Bool:=FW x0 x1 x4 x10 x11 x12 x13==(0:Int)
def gk:List Int:=Option.getD x12[Int.toNat x4]? (uq (CTy.sl (2:TypeId) asZ))
def jv:Bool:=vdC x1 x7 x8 x9 !=(0:Int)
def kA:Bool:=bif x7==(1:Int)then !ah9 x14 x15 x2 else false
def OP:Int:=bif x3==(0:Int)then bif kz x0 x1 x4 x10 x11 x12 x13 then x0 else x0 else bif x3==(1:Int)then bif !de x0 x4 x10 then x0 else bif !kj (gk x4 x12) x5 x6 then x0 else x0 else bif jv x1 x7 x8 x9 then x0 else bif kA x2 x7 x14 x15 then x0 else x0
def OQ:Int:=bif x3==(0:Int)then bif kz x0 x1 x4 x10 x11 x12 x13 then x1 else x1 else bif x3==(1:Int)then bif !de x0 x4 x10 then x1 else bif !kj (gk x4 x12) x5 x6 then x1 else x1 else bif jv x1 x7 x8 x9 then x1 else bif kA x2 x7 x14 x15 then x1 else nxC x1 x7 x8 x9
def OR:Int:=bif x3==(0:Int)then bif kz x0 x1 x4 x10 x11 x12 x13 then x2 else x2 else bif x3==(1:Int)then bif !de x0 x4 x10 then x2 else bif !kj (gk x4 x12) x5 x6 then x2 else x2 else bif jv x1 x7 x8 x9 then x2 else bif kA x2 x7 x14 x15 then x2 else x2
def OS:Int:=bif x3==(0:Int)then bif kz x0 x1 x4 x10 x11 x12 x13 then FW x0 x1 x4 x10 x11 x12 x13 else FW x0 x1 x4 x10 x11 x12 x13 else bif x3==(1:Int)then bif !de x0 x4 x10 then(4:Int)else bif !kj (gk x4 x12) x5 x6 then(5:Int)else(0:Int)else bif jv x1 x7 x8 x9 then(6:Int)else bif kA x2 x7 x14 x15 then(7:Int)else(0:Int)
def OT:List Int:=bif x3==(0:Int)then bif kz x0 x1 x4 x10 x11 x12 x13 then aib x0 x10 x4 else x10 else bif x3==(1:Int)then bif !de x0 x4 x10 then x10 else bif !kj (gk x4 x12) x5 x6 then x10 else x10 else bif jv x1 x7 x8 x9 then x10 else bif kA x2 x7 x14 x15 then x10 else x10
def OU:List (Int×(Int×Int)):=bif x3==(0:Int)then bif kz x0 x1 x4 x10 x11 x12 x13 then x11 else x11 else bif x3==(1:Int)then bif !de x0 x4 x10 then x11 else bif !kj (gk x4 x12) x5 x6 then x11 else x11 else bif jv x1 x7 x8 x9 then x11 else bif kA x2 x7 x14 x15 then x11 else x11
def OV:List (List Int):=bif x3==(0:Int)then bif kz x0 x1 x4 x10 x11 x12 x13 then mw x0 x1 x2 x10 x11 x12 x13 x14 x15 else mw x0 x1 x2 x10 x11 x12 x13 x14 x15 else bif x3==(1:Int)then bif !de x0 x4 x10 then mw x0 x1 x2 x10 x11 x12 x13 x14 x15 else bif !kj (gk x4 x12) x5 x6 then mw x0 x1 x2 x10 x11 x12 x13 x14 x15 else List.set (mw x0 x1 x2 x10 x11 x12 x13 x14 x15) x4.toNat (OZ (gk x4 x12) x5 x6)else bif jv x1 x7 x8 x9 then mw x0 x1 x2 x10 x11 x12 x13 x14 x15 else bif kA x2 x7 x14 x15 then mw x0 x1 x2 x10 x11 x12 x13 x14 x15 else mw x0 x1 x2 x10 x11 x12 x13 x14 x15
def OW:List (Int×(Int×Int)):=bif x3==(0:Int)then bif kz x0 x1 x4 x10 x11 x12 x13 then x13 else x13 else bif x3==(1:Int)then bif !de x0 x4 x10 then x13 else bif !kj (gk x4 x12) x5 x6 then x13 else x13 else bif jv x1 x7 x8 x9 then x13 else bif kA x2 x7 x14 x15 then x13 else x13
def OX:List (Int×Int):=bif x3==(0:Int)then bif kz x0 x1 x4 x10 x11 x12 x13 then x14 else x14 else bif x3==(1:Int)then bif !de x0 x4 x10 then x14 else bif !kj (gk x4 x12) x5 x6 then x14 else x14 else bif jv x1 x7 x8 x9 then x14 else bif kA x2 x7 x14 x15 then x14 else x14
def OY:List (Int×Int):=bif x3==(0:Int)then bif kz x0 x1 x4 x10 x11 x12 x13 then x15 else x15 else bif x3==(1:Int)then bif !de x0 x4 x10 then x15 else bif !kj (gk x4 x12) x5 x6 then x15 else x15 else bif jv x1 x7 x8 x9 then x15 else bif kA x2 x7 x14 x15 then x15 else x15
def Mf:Bool:=allT [QW x0 x1 x2 x10 x11 x12 x13 x14 x15,!x3==(0:Int)||ON x0 x1 x4 x10 x11 x12 x13,!x3==(0:Int)||(!kz x0 x1 x4 x10 x11 x12 x13||Yw x0 x10 x4),x3==(0:Int)||(!x3==(1:Int)||leI (0:Int) x4),x3==(0:Int)||(!x3==(1:Int)||ltI x4 (↑x12.length:Int)),x3==(0:Int)||(!x3==(1:Int)||ltN x4.toNat x12.length),x3==(0:Int)||(!x3==(1:Int)||ahs (gk x4 x12) x5 x6),x3==(0:Int)||(!x3==(1:Int)||Ai x4 x10),x3==(0:Int)||(!x3==(1:Int)||(!de x0 x4 x10||(!kj (gk x4 x12) x5 x6||leI (0:Int) x4))),x3==(0:Int)||(!x3==(1:Int)||(!de x0 x4 x10||(!kj (gk x4 x12) x5 x6||ltI x4 (↑(List.length (mw x0 x1 x2 x10 x11 x12 x13 x14 x15)):Int)))),x3==(0:Int)||(!x3==(1:Int)||(!de x0 x4 x10||(!kj (gk x4 x12) x5 x6||ltN x4.toNat (List.length (mw x0 x1 x2 x10 x11 x12 x13 x14 x15))))),x3==(0:Int)||(x3==(1:Int)||abj x1 x7),x3==(0:Int)||(x3==(1:Int)||(jv x1 x7 x8 x9||(!(x7==(1:Int)&&true)||leN x14.length (9223372036854775807:Nat)&&leN x15.length (9223372036854775807:Nat)))),x3==(0:Int)||(x3==(1:Int)||(jv x1 x7 x8 x9||(kA x2 x7 x14 x15||abj x1 x7)))]
end
def abI:List SV→List Entry→Option Out
 | [.one ⟨true,[.val (.int .i64 x0),.ref 0,.ref 1,.ref 2,.ref 3,.val (.int .i64 x1),.ref 4,.ref 5,.val (.int .i64 x2)]⟩,.one ⟨true,[.val (.int .i64 x3),.val (.int .i64 x4),.val (.int .i64 x5),.val (.int .i64 x6),.val (.int .i64 x7),.val (.int .i64 x8),.val (.bool x9)]⟩],[.row false 2 (.int .i64) x10,.row false 169 (.pair (.int .i64) (.pair (.int .i64) (.int .i64))) x11,.row false 24 (.sl 2 (.int .i64)) x12,.row false 100 (.pair (.int .i64) (.pair (.int .i64) (.int .i64))) x13,.row false 173 (.pair (.int .i64) (.int .i64)) x14,.row false 176 (.pair (.int .i64) (.int .i64)) x15]=>some ⟨(.tup [⟨true,[(.val (.int .i64 (OP x0 x1 x2 x3 x4 x5 x6 x7 x8 x9 x10 x11 x12 x13 x14 x15))),(.ref 6),(.ref 7),(.ref 8),(.ref 9),(.val (.int .i64 (OQ x0 x1 x2 x3 x4 x5 x6 x7 x8 x9 x10 x11 x12 x13 x14 x15))),(.ref 10),(.ref 11),(.val (.int .i64 (OR x0 x1 x2 x3 x4 x5 x6 x7 x8 x9 x10 x11 x12 x13 x14 x15)))]⟩,⟨false,[(.val (.int .i64 (OS x0 x1 x2 x3 x4 x5 x6 x7 x8 x9 x10 x11 x12 x13 x14 x15)))]⟩]),[(.row false 2 asZ x10),(.row false 169 asX x11),(.row false 24 (CTy.sl (2:TypeId) asZ) x12),(.row false 100 asX x13),(.row false 173 asY x14),(.row false 176 asY x15)],[(.row true 2 asZ (OT x0 x1 x2 x3 x4 x5 x6 x7 x8 x9 x10 x11 x12 x13 x14 x15)),(.row true 169 asX (OU x0 x1 x2 x3 x4 x5 x6 x7 x8 x9 x10 x11 x12 x13 x14 x15)),(.row true 24 (CTy.sl (2:Nat) asZ) (OV x0 x1 x2 x3 x4 x5 x6 x7 x8 x9 x10 x11 x12 x13 x14 x15)),(.row true 100 asX (OW x0 x1 x2 x3 x4 x5 x6 x7 x8 x9 x10 x11 x12 x13 x14 x15)),(.row true 173 asY (OX x0 x1 x2 x3 x4 x5 x6 x7 x8 x9 x10 x11 x12 x13 x14 x15)),(.row true 176 asY (OY x0 x1 x2 x3 x4 x5 x6 x7 x8 x9 x10 x11 x12 x13 x14 x15))],[(Mf x0 x1 x2 x3 x4 x5 x6 x7 x8 x9 x10 x11 x12 x13 x14 x15)]⟩
 |_,_=>none
def Uu:PF Tryz.prog:=PF.ofG Tryz.prog [WH,PF.lend WH,PF.fz WH,Ut,PF.lend Ut,PF.fz Ut,Ug,PF.lend Ug,PF.fz Ug,Sk,PF.lend Sk,PF.fz Sk,aha,NZ,PF.lend NZ,PF.fz NZ,akr,zW,PF.lend zW,PF.fz zW] [] ar 98 Tryz.f98 Tryz.func98 (fun c _=>LOk.nil c) abI (by
 intro vs es r h;unfold abI at h;split at h
 ·cases h;kernel_rfl
 ·cases h)
section
variable (x0 x1 x2 x3 x4 x5 x6 x7 x8:Int)(x9:Bool)(x10:List Int)(x11:List (Int×Int×Int))(x12:List (List Int))(x13:List (Int×Int×Int))(x14 x15:List (Int×Int))
def gK:Bool:= !DD x0 x1 x2 x3 x4 x5 x6 x7 x8 x9 x10 x11 x12 x13 x14 x15
def Hm:Int:=bif !pS x0 x10 x11 x12 x13 x1 x14 x15 x2 then(0:Int)else bif gK x0 x1 x2 x3 x4 x5 x6 x7 x8 x9 x10 x11 x12 x13 x14 x15 then(0:Int)else OP x0 x1 x2 x3 x4 x5 x6 x7 x8 x9 x10 x11 x12 x13 x14 x15
def Hn:Int:=bif !pS x0 x10 x11 x12 x13 x1 x14 x15 x2 then(0:Int)else bif gK x0 x1 x2 x3 x4 x5 x6 x7 x8 x9 x10 x11 x12 x13 x14 x15 then(0:Int)else OQ x0 x1 x2 x3 x4 x5 x6 x7 x8 x9 x10 x11 x12 x13 x14 x15
def Ho:Int:=bif !pS x0 x10 x11 x12 x13 x1 x14 x15 x2 then(0:Int)else bif gK x0 x1 x2 x3 x4 x5 x6 x7 x8 x9 x10 x11 x12 x13 x14 x15 then(0:Int)else OR x0 x1 x2 x3 x4 x5 x6 x7 x8 x9 x10 x11 x12 x13 x14 x15
def Hq:Int:=bif !pS x0 x10 x11 x12 x13 x1 x14 x15 x2 then(0:Int)else bif gK x0 x1 x2 x3 x4 x5 x6 x7 x8 x9 x10 x11 x12 x13 x14 x15 then(0:Int)else OS x0 x1 x2 x3 x4 x5 x6 x7 x8 x9 x10 x11 x12 x13 x14 x15
def Hr:Int:=bif !pS x0 x10 x11 x12 x13 x1 x14 x15 x2 then(1:Int)else bif gK x0 x1 x2 x3 x4 x5 x6 x7 x8 x9 x10 x11 x12 x13 x14 x15 then(2:Int)else(0:Int)
def Hs:List Int:=bif !pS x0 x10 x11 x12 x13 x1 x14 x15 x2 then []else bif gK x0 x1 x2 x3 x4 x5 x6 x7 x8 x9 x10 x11 x12 x13 x14 x15 then []else OT x0 x1 x2 x3 x4 x5 x6 x7 x8 x9 x10 x11 x12 x13 x14 x15
def Ht:List (Int×(Int×Int)):=bif !pS x0 x10 x11 x12 x13 x1 x14 x15 x2 then []else bif gK x0 x1 x2 x3 x4 x5 x6 x7 x8 x9 x10 x11 x12 x13 x14 x15 then []else OU x0 x1 x2 x3 x4 x5 x6 x7 x8 x9 x10 x11 x12 x13 x14 x15
def Hu:List (List Int):=bif !pS x0 x10 x11 x12 x13 x1 x14 x15 x2 then []else bif gK x0 x1 x2 x3 x4 x5 x6 x7 x8 x9 x10 x11 x12 x13 x14 x15 then []else OV x0 x1 x2 x3 x4 x5 x6 x7 x8 x9 x10 x11 x12 x13 x14 x15
def Hv:List (Int×(Int×Int)):=bif !pS x0 x10 x11 x12 x13 x1 x14 x15 x2 then []else bif gK x0 x1 x2 x3 x4 x5 x6 x7 x8 x9 x10 x11 x12 x13 x14 x15 then []else OW x0 x1 x2 x3 x4 x5 x6 x7 x8 x9 x10 x11 x12 x13 x14 x15
def Hw:List (Int×Int):=bif !pS x0 x10 x11 x12 x13 x1 x14 x15 x2 then []else bif gK x0 x1 x2 x3 x4 x5 x6 x7 x8 x9 x10 x11 x12 x13 x14 x15 then []else OX x0 x1 x2 x3 x4 x5 x6 x7 x8 x9 x10 x11 x12 x13 x14 x15
def FG:List (Int×Int):=bif !pS x0 x10 x11 x12 x13 x1 x14 x15 x2 then []else bif gK x0 x1 x2 x3 x4 x5 x6 x7 x8 x9 x10 x11 x12 x13 x14 x15 then []else OY x0 x1 x2 x3 x4 x5 x6 x7 x8 x9 x10 x11 x12 x13 x14 x15
def FH:Bool:=allT [p8 (9223372036854775807:Nat) x10 x11 x12 x13 x14 x15,!pS x0 x10 x11 x12 x13 x1 x14 x15 x2||DE x0 x1 x2 x3 x4 x10 x11 x12 x13 x14 x15,!pS x0 x10 x11 x12 x13 x1 x14 x15 x2||(gK x0 x1 x2 x3 x4 x5 x6 x7 x8 x9 x10 x11 x12 x13 x14 x15||Mf x0 x1 x2 x3 x4 x5 x6 x7 x8 x9 x10 x11 x12 x13 x14 x15)]
end
def aad:List SV→List Entry→Option Out
 | [.one ⟨true,[.val (.int .i64 x0),.ref 0,.ref 1,.ref 2,.ref 3,.val (.int .i64 x1),.ref 4,.ref 5,.val (.int .i64 x2)]⟩,.one ⟨true,[.val (.int .i64 x3),.val (.int .i64 x4),.val (.int .i64 x5),.val (.int .i64 x6),.val (.int .i64 x7),.val (.int .i64 x8),.val (.bool x9)]⟩],[.row false 2 (.int .i64) x10,.row false 169 (.pair (.int .i64) (.pair (.int .i64) (.int .i64))) x11,.row false 24 (.sl 2 (.int .i64)) x12,.row false 100 (.pair (.int .i64) (.pair (.int .i64) (.int .i64))) x13,.row false 173 (.pair (.int .i64) (.int .i64)) x14,.row false 176 (.pair (.int .i64) (.int .i64)) x15]=>some ⟨(.tup [⟨true,[(.val (.int .i64 (Hm x0 x1 x2 x3 x4 x5 x6 x7 x8 x9 x10 x11 x12 x13 x14 x15))),(.ref 6),(.ref 7),(.ref 8),(.ref 9),(.val (.int .i64 (Hn x0 x1 x2 x3 x4 x5 x6 x7 x8 x9 x10 x11 x12 x13 x14 x15))),(.ref 10),(.ref 11),(.val (.int .i64 (Ho x0 x1 x2 x3 x4 x5 x6 x7 x8 x9 x10 x11 x12 x13 x14 x15)))]⟩,⟨false,[(.val (.int .i64 (Hq x0 x1 x2 x3 x4 x5 x6 x7 x8 x9 x10 x11 x12 x13 x14 x15)))]⟩,⟨false,[(.val (.int .i64 (Hr x0 x1 x2 x3 x4 x5 x6 x7 x8 x9 x10 x11 x12 x13 x14 x15)))]⟩]),[(.row false 2 asZ x10),(.row false 169 asX x11),(.row false 24 (CTy.sl (2:TypeId) asZ) x12),(.row false 100 asX x13),(.row false 173 asY x14),(.row false 176 asY x15)],[(.row true 2 asZ (Hs x0 x1 x2 x3 x4 x5 x6 x7 x8 x9 x10 x11 x12 x13 x14 x15)),(.row true 169 asX (Ht x0 x1 x2 x3 x4 x5 x6 x7 x8 x9 x10 x11 x12 x13 x14 x15)),(.row true 24 (CTy.sl (2:Nat) asZ) (Hu x0 x1 x2 x3 x4 x5 x6 x7 x8 x9 x10 x11 x12 x13 x14 x15)),(.row true 100 asX (Hv x0 x1 x2 x3 x4 x5 x6 x7 x8 x9 x10 x11 x12 x13 x14 x15)),(.row true 173 asY (Hw x0 x1 x2 x3 x4 x5 x6 x7 x8 x9 x10 x11 x12 x13 x14 x15)),(.row true 176 asY (FG x0 x1 x2 x3 x4 x5 x6 x7 x8 x9 x10 x11 x12 x13 x14 x15))],[(FH x0 x1 x2 x3 x4 x5 x6 x7 x8 x9 x10 x11 x12 x13 x14 x15)]⟩
 |_,_=>none
def ajE:PF Tryz.prog:=PF.ofG Tryz.prog [HD,PF.lend HD,PF.fz HD,Of,PF.lend Of,PF.fz Of,Uu,PF.lend Uu,PF.fz Uu] [] ar 33 Tryz.f33 Tryz.func33 (fun c _=>LOk.nil c) aad (by
 intro vs es r h;unfold aad at h;split at h
 ·cases h;kernel_rfl
 ·cases h)
end Go.SX

namespace Go.SX
open Go.Proofs
set_option maxRecDepth 100000
def Pm(x0:List (Int×Int×Int)):Bool:=allT [ltN (0:Nat) x0.length,false||leN ((0:Nat) + List.length x0) (9223372036854775807:Nat),false||leN (((0:Nat) + List.length x0) * (24:Nat)) (140737488355328:Nat)]
def Es:List SV→List Entry→Option Out
 | [.one ⟨false,[.ref 0]⟩],[.row false 169 (.pair (.int .i64) (.pair (.int .i64) (.int .i64))) x0]=>some ⟨(.one ⟨false,[(.ref 1)]⟩),[(.row false 169 asX x0)],[(.row true 169 asX x0)],[(Pm x0)]⟩
 |_,_=>none
def Ph:PF Tryz.prog:=PF.ofG Tryz.prog [] [] ar 147 Tryz.f147 Tryz.func147 (fun c _=>LOk.nil c) Es (by
 intro vs es r h;unfold Es at h;split at h
 ·cases h;kernel_rfl
 ·cases h)
def Nv:List (Int×(Int×Int)):= []
def Cf:List SV→List Entry→Option Out
 | [.one ⟨false,[.val (.slice none 0 0)]⟩],[]=>some ⟨(.one ⟨false,[(.ref 0)]⟩),[],[(.row true 169 asX (Nv))],[true]⟩
 |_,_=>none
def Nt:PF Tryz.prog:=PF.ofG Tryz.prog [PF.raw Tryz.prog] [] ar 147 Tryz.f147 Tryz.func147 (fun c _=>LOk.nil c) Cf (by
 intro vs es r h;unfold Cf at h;split at h
 ·cases h;kernel_rfl
 ·cases h)
def Nw:List (Int×(Int×Int)):= []
def Cg:List SV→List Entry→Option Out
 | [.one ⟨false,[.val (.slice (some b) 0 c)]⟩],[]=>some ⟨(.one ⟨false,[(.ref 0)]⟩),[],[(.row true 169 asX (Nw))],[true]⟩
 |_,_=>none
def Nu:PF Tryz.prog:=PF.ofG Tryz.prog [] [] ar 147 Tryz.f147 Tryz.func147 (fun c _=>LOk.nil c) Cg (by
 intro vs es r h;unfold Cg at h;split at h
 ·cases h;kernel_rfl
 ·cases h)
def Rz(x0:List (Int×Int×Int)):Bool:=allT [ltN (0:Nat) x0.length,false||leN ((0:Nat) + List.length x0) (9223372036854775807:Nat),false||leN (((0:Nat) + List.length x0) * (24:Nat)) (140737488355328:Nat)]
def Gq:List SV→List Entry→Option Out
 | [.one ⟨false,[.ref 0]⟩],[.row false 100 (.pair (.int .i64) (.pair (.int .i64) (.int .i64))) x0]=>some ⟨(.one ⟨false,[(.ref 1)]⟩),[(.row false 100 asX x0)],[(.row true 100 asX x0)],[(Rz x0)]⟩
 |_,_=>none
def Rw:PF Tryz.prog:=PF.ofG Tryz.prog [] [] ar 148 Tryz.f148 Tryz.func148 (fun c _=>LOk.nil c) Gq (by
 intro vs es r h;unfold Gq at h;split at h
 ·cases h;kernel_rfl
 ·cases h)
def Pj:List (Int×(Int×Int)):= []
def Ep:List SV→List Entry→Option Out
 | [.one ⟨false,[.val (.slice none 0 0)]⟩],[]=>some ⟨(.one ⟨false,[(.ref 0)]⟩),[],[(.row true 100 asX (Pj))],[true]⟩
 |_,_=>none
def Pf:PF Tryz.prog:=PF.ofG Tryz.prog [PF.raw Tryz.prog] [] ar 148 Tryz.f148 Tryz.func148 (fun c _=>LOk.nil c) Ep (by
 intro vs es r h;unfold Ep at h;split at h
 ·cases h;kernel_rfl
 ·cases h)
def Pk:List (Int×(Int×Int)):= []
def Er:List SV→List Entry→Option Out
 | [.one ⟨false,[.val (.slice (some b) 0 c)]⟩],[]=>some ⟨(.one ⟨false,[(.ref 0)]⟩),[],[(.row true 100 asX (Pk))],[true]⟩
 |_,_=>none
def Pg:PF Tryz.prog:=PF.ofG Tryz.prog [] [] ar 148 Tryz.f148 Tryz.func148 (fun c _=>LOk.nil c) Er (by
 intro vs es r h;unfold Er at h;split at h
 ·cases h;kernel_rfl
 ·cases h)
def WL(x0:List (Int×Int)):Bool:=allT [ltN (0:Nat) x0.length,false||leN ((0:Nat) + List.length x0) (9223372036854775807:Nat),false||leN (((0:Nat) + List.length x0) * (16:Nat)) (140737488355328:Nat)]
def Le:List SV→List Entry→Option Out
 | [.one ⟨false,[.ref 0]⟩],[.row false 173 (.pair (.int .i64) (.int .i64)) x0]=>some ⟨(.one ⟨false,[(.ref 1)]⟩),[(.row false 173 asY x0)],[(.row true 173 asY x0)],[(WL x0)]⟩
 |_,_=>none
def WD:PF Tryz.prog:=PF.ofG Tryz.prog [] [] ar 149 Tryz.f149 Tryz.func149 (fun c _=>LOk.nil c) Le (by
 intro vs es r h;unfold Le at h;split at h
 ·cases h;kernel_rfl
 ·cases h)
def Uz:List (Int×Int):= []
def IU:List SV→List Entry→Option Out
 | [.one ⟨false,[.val (.slice none 0 0)]⟩],[]=>some ⟨(.one ⟨false,[(.ref 0)]⟩),[],[(.row true 173 asY (Uz))],[true]⟩
 |_,_=>none
def Uo:PF Tryz.prog:=PF.ofG Tryz.prog [PF.raw Tryz.prog] [] ar 149 Tryz.f149 Tryz.func149 (fun c _=>LOk.nil c) IU (by
 intro vs es r h;unfold IU at h;split at h
 ·cases h;kernel_rfl
 ·cases h)
def UA:List (Int×Int):= []
def IV:List SV→List Entry→Option Out
 | [.one ⟨false,[.val (.slice (some b) 0 c)]⟩],[]=>some ⟨(.one ⟨false,[(.ref 0)]⟩),[],[(.row true 173 asY (UA))],[true]⟩
 |_,_=>none
def Up:PF Tryz.prog:=PF.ofG Tryz.prog [] [] ar 149 Tryz.f149 Tryz.func149 (fun c _=>LOk.nil c) IV (by
 intro vs es r h;unfold IV at h;split at h
 ·cases h;kernel_rfl
 ·cases h)
def WK(x0:List (Int×Int)):Bool:=allT [ltN (0:Nat) x0.length,false||leN ((0:Nat) + List.length x0) (9223372036854775807:Nat),false||leN (((0:Nat) + List.length x0) * (16:Nat)) (140737488355328:Nat)]
def Ld:List SV→List Entry→Option Out
 | [.one ⟨false,[.ref 0]⟩],[.row false 176 (.pair (.int .i64) (.int .i64)) x0]=>some ⟨(.one ⟨false,[(.ref 1)]⟩),[(.row false 176 asY x0)],[(.row true 176 asY x0)],[(WK x0)]⟩
 |_,_=>none
def WC:PF Tryz.prog:=PF.ofG Tryz.prog [] [] ar 150 Tryz.f150 Tryz.func150 (fun c _=>LOk.nil c) Ld (by
 intro vs es r h;unfold Ld at h;split at h
 ·cases h;kernel_rfl
 ·cases h)
def Ux:List (Int×Int):= []
def IQ:List SV→List Entry→Option Out
 | [.one ⟨false,[.val (.slice none 0 0)]⟩],[]=>some ⟨(.one ⟨false,[(.ref 0)]⟩),[],[(.row true 176 asY (Ux))],[true]⟩
 |_,_=>none
def Um:PF Tryz.prog:=PF.ofG Tryz.prog [PF.raw Tryz.prog] [] ar 150 Tryz.f150 Tryz.func150 (fun c _=>LOk.nil c) IQ (by
 intro vs es r h;unfold IQ at h;split at h
 ·cases h;kernel_rfl
 ·cases h)
def Uy:List (Int×Int):= []
def IR:List SV→List Entry→Option Out
 | [.one ⟨false,[.val (.slice (some b) 0 c)]⟩],[]=>some ⟨(.one ⟨false,[(.ref 0)]⟩),[],[(.row true 176 asY (Uy))],[true]⟩
 |_,_=>none
def Un:PF Tryz.prog:=PF.ofG Tryz.prog [] [] ar 150 Tryz.f150 Tryz.func150 (fun c _=>LOk.nil c) IR (by
 intro vs es r h;unfold IR at h;split at h
 ·cases h;kernel_rfl
 ·cases h)
end Go.SX

namespace Go.SX
open Go.RowKit Go.Proofs
set_option maxRecDepth 100000
theorem apq{n:Nat}(h2:0 < n)(h1:n≤1048576):allT [ltN 0 n,false||leN (0 + n) 9223372036854775807,false||leN ((0 + n) * 24) 140737488355328]=true:=by
 rw [cM h2,gx (by omega),gx (by omega)];rfl
theorem app{n:Nat}(h2:0 < n)(h1:n≤1048576):allT [ltN 0 n,false||leN (0 + n) 9223372036854775807,false||leN ((0 + n) * 16) 140737488355328]=true:=by
 rw [cM h2,gx (by omega),gx (by omega)];rfl
theorem ajZ(x0:List (Int×(Int×Int)))(h:leN x0.length 1048576=true)(mem:Nat→Option Obj)(ρ:Nm)(w:World)(hp:HpL w mem [.row false 169 (.pair (.int .i64) (.pair (.int .i64) (.int .i64))) x0] ρ w):
  Calls Tryz.prog 147 ([SV.one ⟨false,[.ref 0]⟩].map (SV.conc ρ)).toArray w fun en w'=> ∃ ρ':Nm,Ext (memB w mem) (fun i=>Nat.blt i 1) ρ ρ'∧en= .returned ((SV.one ⟨false,[.ref 1]⟩).conc ρ')∧
   HpL w mem [.row false 169 (.pair (.int .i64) (.pair (.int .i64) (.int .i64))) x0,.row true 169 (.pair (.int .i64) (.pair (.int .i64) (.int .i64))) x0] ρ' w':=
 Zf (t:=(.pair (.int .i64) (.pair (.int .i64) (.int .i64)))) Ph Nt Nu rfl rfl rfl ⟨_,rfl,fun b hb=>(by simp at hb;exact hb)⟩ (fun _ _=>⟨_,rfl,fun b hb=>(by simp at hb;exact hb)⟩) x0
  (fun hne=>⟨_,rfl,fun b hb=>(by
   have h1:=cu.1 h
   have h2:0 < x0.length:=by cases x0 with
    |nil=>exact(hne rfl).elim
    |cons y r=>exact Nat.succ_pos _
   rw [List.mem_singleton]at hb;subst hb
   exact apq h2 h1)⟩) mem ρ w hp
def Et:List SV→List Entry→Option Out
 | [.one ⟨false,[.ref 0]⟩],[.row false 169 (.pair (.int .i64) (.pair (.int .i64) (.int .i64))) x0]=>some ⟨.one ⟨false,[.ref 1]⟩,[.row false 169 (.pair (.int .i64) (.pair (.int .i64) (.int .i64))) x0],[.row true 169 (.pair (.int .i64) (.pair (.int .i64) (.int .i64))) x0],[leN x0.length 1048576]⟩
 |_,_=>none
def g9:PF Tryz.prog where
 k:=147
 F:=Et
 ok:=by
  intro args es o h hnd mem ρ w hp
  unfold Et at h;split at h
  ·rename_i x0
   cases h
   refine(ajZ x0 (hnd _ (List.mem_singleton.2 rfl)) mem ρ w hp).mono fun en w' ⟨ρ1,hx,he,hh⟩=>⟨ρ1,hx,he,rfl,?_,hh⟩
   intro c hc
   simp at hc;subst hc;rfl
  ·cases h
theorem amc(x0:List (Int×(Int×Int)))(h:leN x0.length 1048576=true)(mem:Nat→Option Obj)(ρ:Nm)(w:World)(hp:HpL w mem [.row false 100 (.pair (.int .i64) (.pair (.int .i64) (.int .i64))) x0] ρ w):
  Calls Tryz.prog 148 ([SV.one ⟨false,[.ref 0]⟩].map (SV.conc ρ)).toArray w fun en w'=> ∃ ρ':Nm,Ext (memB w mem) (fun i=>Nat.blt i 1) ρ ρ'∧en= .returned ((SV.one ⟨false,[.ref 1]⟩).conc ρ')∧
   HpL w mem [.row false 100 (.pair (.int .i64) (.pair (.int .i64) (.int .i64))) x0,.row true 100 (.pair (.int .i64) (.pair (.int .i64) (.int .i64))) x0] ρ' w':=
 Zf (t:=(.pair (.int .i64) (.pair (.int .i64) (.int .i64)))) Rw Pf Pg rfl rfl rfl ⟨_,rfl,fun b hb=>(by simp at hb;exact hb)⟩ (fun _ _=>⟨_,rfl,fun b hb=>(by simp at hb;exact hb)⟩) x0
  (fun hne=>⟨_,rfl,fun b hb=>(by
   have h1:=cu.1 h
   have h2:0 < x0.length:=by cases x0 with
    |nil=>exact(hne rfl).elim
    |cons y r=>exact Nat.succ_pos _
   rw [List.mem_singleton]at hb;subst hb
   exact apq h2 h1)⟩) mem ρ w hp
def Gs:List SV→List Entry→Option Out
 | [.one ⟨false,[.ref 0]⟩],[.row false 100 (.pair (.int .i64) (.pair (.int .i64) (.int .i64))) x0]=>some ⟨.one ⟨false,[.ref 1]⟩,[.row false 100 (.pair (.int .i64) (.pair (.int .i64) (.int .i64))) x0],[.row true 100 (.pair (.int .i64) (.pair (.int .i64) (.int .i64))) x0],[leN x0.length 1048576]⟩
 |_,_=>none
def iW:PF Tryz.prog where
 k:=148
 F:=Gs
 ok:=by
  intro args es o h hnd mem ρ w hp
  unfold Gs at h;split at h
  ·rename_i x0
   cases h
   refine(amc x0 (hnd _ (List.mem_singleton.2 rfl)) mem ρ w hp).mono fun en w' ⟨ρ1,hx,he,hh⟩=>⟨ρ1,hx,he,rfl,?_,hh⟩
   intro c hc
   simp at hc;subst hc;rfl
  ·cases h
theorem arc(x0:List (Int×Int))(h:leN x0.length 1048576=true)(mem:Nat→Option Obj)(ρ:Nm)(w:World)(hp:HpL w mem [.row false 173 (.pair (.int .i64) (.int .i64)) x0] ρ w):
  Calls Tryz.prog 149 ([SV.one ⟨false,[.ref 0]⟩].map (SV.conc ρ)).toArray w fun en w'=> ∃ ρ':Nm,Ext (memB w mem) (fun i=>Nat.blt i 1) ρ ρ'∧en= .returned ((SV.one ⟨false,[.ref 1]⟩).conc ρ')∧
   HpL w mem [.row false 173 (.pair (.int .i64) (.int .i64)) x0,.row true 173 (.pair (.int .i64) (.int .i64)) x0] ρ' w':=
 Zf (t:=(.pair (.int .i64) (.int .i64))) WD Uo Up rfl rfl rfl ⟨_,rfl,fun b hb=>(by simp at hb;exact hb)⟩ (fun _ _=>⟨_,rfl,fun b hb=>(by simp at hb;exact hb)⟩) x0
  (fun hne=>⟨_,rfl,fun b hb=>(by
   have h1:=cu.1 h
   have h2:0 < x0.length:=by cases x0 with
    |nil=>exact(hne rfl).elim
    |cons y r=>exact Nat.succ_pos _
   rw [List.mem_singleton]at hb;subst hb
   exact app h2 h1)⟩) mem ρ w hp
def Lh:List SV→List Entry→Option Out
 | [.one ⟨false,[.ref 0]⟩],[.row false 173 (.pair (.int .i64) (.int .i64)) x0]=>some ⟨.one ⟨false,[.ref 1]⟩,[.row false 173 (.pair (.int .i64) (.int .i64)) x0],[.row true 173 (.pair (.int .i64) (.int .i64)) x0],[leN x0.length 1048576]⟩
 |_,_=>none
def mu:PF Tryz.prog where
 k:=149
 F:=Lh
 ok:=by
  intro args es o h hnd mem ρ w hp
  unfold Lh at h;split at h
  ·rename_i x0
   cases h
   refine(arc x0 (hnd _ (List.mem_singleton.2 rfl)) mem ρ w hp).mono fun en w' ⟨ρ1,hx,he,hh⟩=>⟨ρ1,hx,he,rfl,?_,hh⟩
   intro c hc
   simp at hc;subst hc;rfl
  ·cases h
theorem arb(x0:List (Int×Int))(h:leN x0.length 1048576=true)(mem:Nat→Option Obj)(ρ:Nm)(w:World)(hp:HpL w mem [.row false 176 (.pair (.int .i64) (.int .i64)) x0] ρ w):
  Calls Tryz.prog 150 ([SV.one ⟨false,[.ref 0]⟩].map (SV.conc ρ)).toArray w fun en w'=> ∃ ρ':Nm,Ext (memB w mem) (fun i=>Nat.blt i 1) ρ ρ'∧en= .returned ((SV.one ⟨false,[.ref 1]⟩).conc ρ')∧
   HpL w mem [.row false 176 (.pair (.int .i64) (.int .i64)) x0,.row true 176 (.pair (.int .i64) (.int .i64)) x0] ρ' w':=
 Zf (t:=(.pair (.int .i64) (.int .i64))) WC Um Un rfl rfl rfl ⟨_,rfl,fun b hb=>(by simp at hb;exact hb)⟩ (fun _ _=>⟨_,rfl,fun b hb=>(by simp at hb;exact hb)⟩) x0
  (fun hne=>⟨_,rfl,fun b hb=>(by
   have h1:=cu.1 h
   have h2:0 < x0.length:=by cases x0 with
    |nil=>exact(hne rfl).elim
    |cons y r=>exact Nat.succ_pos _
   rw [List.mem_singleton]at hb;subst hb
   exact app h2 h1)⟩) mem ρ w hp
def Lg:List SV→List Entry→Option Out
 | [.one ⟨false,[.ref 0]⟩],[.row false 176 (.pair (.int .i64) (.int .i64)) x0]=>some ⟨.one ⟨false,[.ref 1]⟩,[.row false 176 (.pair (.int .i64) (.int .i64)) x0],[.row true 176 (.pair (.int .i64) (.int .i64)) x0],[leN x0.length 1048576]⟩
 |_,_=>none
def mt:PF Tryz.prog where
 k:=150
 F:=Lg
 ok:=by
  intro args es o h hnd mem ρ w hp
  unfold Lg at h;split at h
  ·rename_i x0
   cases h
   refine(arb x0 (hnd _ (List.mem_singleton.2 rfl)) mem ρ w hp).mono fun en w' ⟨ρ1,hx,he,hh⟩=>⟨ρ1,hx,he,rfl,?_,hh⟩
   intro c hc
   simp at hc;subst hc;rfl
  ·cases h
end Go.SX

namespace Go.SX
open Go.Proofs
set_option maxRecDepth 100000
section
variable (x3 x4 x5 x6 x7 x8:Int)(x9:Bool)(x10:List Int)(x12:List (List Int))
def rr:Bool:=bif x5==(0:Int)then bif x6==(0:Int)then true else false else false
def rt:Bool:=bif x7==(0:Int)then bif x8==(0:Int)then bif x9==false then true else false else false else false
def kH:Bool:=bif x3==(0:Int)then bif bif KA x10 x4 then rr x5 x6 else false then rt x7 x8 x9 else false else bif x3==(1:Int)then bif bif KA x10 x4 then rsB (cN (bif KA x10 x4&&true then Option.getD x12[Int.toNat (0:Int)]? (uq (CTy.sl (2:Nat) asZ))else [])) x5 x6 else false then rt x7 x8 x9 else false else bif x3==(2:Int)then bif bif x4==(0:Int)then rr x5 x6 else false then agN x7 x8 else false else false
def kI:Bool:=allT [!x3==(0:Int)||leN x10.length (9223372036854775807:Nat),x3==(0:Int)||(!x3==(1:Int)||leN x10.length (9223372036854775807:Nat)),x3==(0:Int)||(!x3==(1:Int)||(!(KA x10 x4&&true)||leI (0:Int) (0:Int))),x3==(0:Int)||(!x3==(1:Int)||(!(KA x10 x4&&true)||ltI (0:Int) (↑x12.length:Int))),x3==(0:Int)||(!x3==(1:Int)||(!(KA x10 x4&&true)||ltN (Int.toNat (0:Int)) x12.length))]
end
def rI:List SV→List Entry→Option Out
 | [(.one ⟨true,[(.val (.int .i64 _x0)),(.ref 0),(.ref 1),(.ref 2),(.ref 3),(.val (.int .i64 _x1)),(.ref 4),(.ref 5),(.val (.int .i64 _x2))]⟩),(.one ⟨true,[(.val (.int .i64 x3)),(.val (.int .i64 x4)),(.val (.int .i64 x5)),(.val (.int .i64 x6)),(.val (.int .i64 x7)),(.val (.int .i64 x8)),(.val (.bool x9))]⟩)],[(.row false 2 (.int .i64) x10),(.row false 169 (.pair (.int .i64) (.pair (.int .i64) (.int .i64))) x11),(.row false 24 (.sl 2 (.int .i64)) x12),(.row false 100 (.pair (.int .i64) (.pair (.int .i64) (.int .i64))) x13),(.row false 173 (.pair (.int .i64) (.int .i64)) x14),(.row false 176 (.pair (.int .i64) (.int .i64)) x15)]=>some ⟨(.one ⟨false,[(.val (.bool (kH x3 x4 x5 x6 x7 x8 x9 x10 x12)))]⟩),[(.row false 2 asZ x10),(.row false 169 asX x11),(.row false 24 (CTy.sl (2:Nat) asZ) x12),(.row false 100 asX x13),(.row false 173 asY x14),(.row false 176 asY x15)],[],[(kI x3 x4 x10 x12)]⟩
 |_,_=>none
def kK:PF Tryz.prog:=PF.ofG Tryz.prog [lh,PF.lend lh,PF.fz lh,ZA,aid,aF,PF.lend aF,PF.fz aF] [] ar 99 Tryz.f99 Tryz.func99 (fun c _=>LOk.nil c) rI (by
 intro vs es r h;unfold rI at h;split at h
 ·cases h;kernel_rfl
 ·cases h)
def vF(x0 x1 x2 x3 x4 x5:Int)(x6:Bool)(x10:List Int)(x12:List (List Int)):Bool:= !kH x0 x1 x2 x3 x4 x5 x6 x10 x12
def Ee(x0 x1:Int)(x10:List Int)(x12:List (List Int)):Bool:=allT [kI x0 x1 x10 x12]
def Lc:List SV→List Entry→Option Out
 | [(.one ⟨true,[(.val (.int .i64 x0)),(.val (.int .i64 x1)),(.val (.int .i64 x2)),(.val (.int .i64 x3)),(.val (.int .i64 x4)),(.val (.int .i64 x5)),(.val (.bool x6))]⟩),(.one ⟨false,[(.ptr 0 0)]⟩)],[(.box 33 [(.val (.int .i64 x7)),(.ref 1),(.ref 2),(.ref 3),(.ref 4),(.val (.int .i64 x8)),(.ref 5),(.ref 6),(.val (.int .i64 x9))]),(.row false 2 (.int .i64) x10),(.row false 169 (.pair (.int .i64) (.pair (.int .i64) (.int .i64))) x11),(.row false 24 (.sl 2 (.int .i64)) x12),(.row false 100 (.pair (.int .i64) (.pair (.int .i64) (.int .i64))) x13),(.row false 173 (.pair (.int .i64) (.int .i64)) x14),(.row false 176 (.pair (.int .i64) (.int .i64)) x15)]=>some ⟨(.one ⟨false,[(.val (.bool (vF x0 x1 x2 x3 x4 x5 x6 x10 x12)))]⟩),[(.box 33 [(.val (.int .i64 x7)),(.ref 1),(.ref 2),(.ref 3),(.ref 4),(.val (.int .i64 x8)),(.ref 5),(.ref 6),(.val (.int .i64 x9))]),(.row false 2 asZ x10),(.row false 169 asX x11),(.row false 24 (CTy.sl (2:Nat) asZ) x12),(.row false 100 asX x13),(.row false 173 asY x14),(.row false 176 asY x15)],[],[(Ee x0 x1 x10 x12)]⟩
 |_,_=>none
def mv:PF Tryz.prog:=PF.ofG Tryz.prog [kK,PF.lend kK,PF.fz kK] [] ar 145 Tryz.f145 Tryz.func145 (fun c _=>LOk.nil c) Lc (by
 intro vs es r h;unfold Lc at h;split at h
 ·cases h;kernel_rfl
 ·cases h)
abbrev aQ:=Int×Int×Int×Int×Int×List (Int×(Int×((Int×Int)×(Int×(Int×Bool)))))×List Int×List (Int×(Int×Int))×List (List Int)×List (Int×(Int×Int))×List (Int×Int)×List (Int×Int)
def cE(y0:Int)(y5:List (Int×(Int×((Int×Int)×(Int×(Int×Bool)))))):Int×Int×(Int×Int)×Int×Int×Bool:=Option.getD y5[Int.toNat y0]? ((0:Int),(0:Int),((0:Int),(0:Int)),(0:Int),(0:Int),false)
def cF(y0:Int)(y5:List (Int×(Int×((Int×Int)×(Int×(Int×Bool)))))):Int:=(cE y0 y5).1
def cG(y0:Int)(y5:List (Int×(Int×((Int×Int)×(Int×(Int×Bool)))))):Int×(Int×Int)×Int×Int×Bool:=(cE y0 y5).2
def cH(y0:Int)(y5:List (Int×(Int×((Int×Int)×(Int×(Int×Bool)))))):Int:=(cG y0 y5).1
def bj(y0:Int)(y5:List (Int×(Int×((Int×Int)×(Int×(Int×Bool)))))):(Int×Int)×Int×Int×Bool:=(cG y0 y5).2
def cI(y0:Int)(y5:List (Int×(Int×((Int×Int)×(Int×(Int×Bool)))))):Int×Bool:=(bj y0 y5).2.2
def eV(y0 y1:Int):Bool:=ltI y0 y1
def eW(y0:Int):Bool:=leI (0:Int) y0
def eY(y0:Int)(y5:List (Int×(Int×((Int×Int)×(Int×(Int×Bool)))))):Bool:=ltI y0 (↑y5.length:Int)
def eZ(y0:Int)(y5:List (Int×(Int×((Int×Int)×(Int×(Int×Bool)))))):Bool:=ltN y0.toNat y5.length
def fa(y0:Int)(y5:List (Int×(Int×((Int×Int)×(Int×(Int×Bool))))))(y6:List Int)(y8:List (List Int)):Bool:=Ee (cF y0 y5) (cH y0 y5) y6 y8
def fb(y0:Int)(y5:List (Int×(Int×((Int×Int)×(Int×(Int×Bool))))))(y6:List Int)(y8:List (List Int)):Bool:=vF (cF y0 y5) (cH y0 y5) ((bj y0 y5).1.1) ((bj y0 y5).1.2) (((bj y0 y5).2).1) ((cI y0 y5).1) ((cI y0 y5).2) y6 y8
def fc(y0:Int):Int:=IntKind.wrap .i64 (y0 + (1:Int))
def Gw:aQ→List (Nat×SV)
 |(y0,y1,_,_,_,_,_,_,_,_,_,_)=> [(8,(.one ⟨false,[(.val (.int .i64 y0))]⟩)),(7,(.one ⟨false,[(.val (.int .i64 y1))]⟩)),(1,(.one ⟨false,[(.clo 145 [0])]⟩)),(0,(.one ⟨false,[(.ref 1)]⟩))]
def Gv:aQ→List (Nat×Entry)
 |(_,_,y2,y3,y4,y5,y6,y7,y8,y9,y10,y11)=> [(0,(.box 33 [(.val (.int .i64 y2)),(.ref 2),(.ref 3),(.ref 4),(.ref 5),(.val (.int .i64 y3)),(.ref 6),(.ref 7),(.val (.int .i64 y4))])),(1,(.row false 49 asW y5)),(2,(.row false 2 asZ y6)),(3,(.row false 169 asX y7)),(4,(.row false 24 (CTy.sl (2:Nat) asZ) y8)),(5,(.row false 100 asX y9)),(6,(.row false 173 asY y10)),(7,(.row false 176 asY y11))]
def Gy:Nat→aQ→List (Nat×SV)
 |0,(y0,_,_,_,_,_,_,_,_,_,_,_)=> [(4,(.one ⟨false,[(.val (.int .i64 y0))]⟩))]
 |_,(_,_,_,_,_,_,_,_,_,_,_,_)=> []
def Gx:Nat→aQ→List (Nat×Entry)
 |0,(_,_,y2,y3,y4,y5,y6,y7,y8,y9,y10,y11)=> [(0,(.box 33 [(.val (.int .i64 y2)),(.ref 2),(.ref 3),(.ref 4),(.ref 5),(.val (.int .i64 y3)),(.ref 6),(.ref 7),(.val (.int .i64 y4))])),(1,(.row false 49 asW y5)),(2,(.row false 2 asZ y6)),(3,(.row false 169 asX y7)),(4,(.row false 24 (CTy.sl (2:Nat) asZ) y8)),(5,(.row false 100 asX y9)),(6,(.row false 173 asY y10)),(7,(.row false 176 asY y11))]
 |_,(_,_,y2,y3,y4,y5,y6,y7,y8,y9,y10,y11)=> [(0,(.box 33 [(.val (.int .i64 y2)),(.ref 2),(.ref 3),(.ref 4),(.ref 5),(.val (.int .i64 y3)),(.ref 6),(.ref 7),(.val (.int .i64 y4))])),(1,(.row false 49 asW y5)),(2,(.row false 2 asZ y6)),(3,(.row false 169 asX y7)),(4,(.row false 24 (CTy.sl (2:Nat) asZ) y8)),(5,(.row false 100 asX y9)),(6,(.row false 173 asY y10)),(7,(.row false 176 asY y11))]
def eC:aQ→LT aQ
 |(y0,y1,y2,y3,y4,y5,y6,y7,y8,y9,y10,y11)=> .ite (eV y0 y1) (.need [(eW y0),(eY y0 y5),(eZ y0 y5),(fa y0 y5 y6 y8)] (.ite (fb y0 y5 y6 y8) (.ext 0 [(0,0),(1,1),(2,2),(3,3),(4,4),(5,5),(6,6),(7,7)]) (.nrm ((fc y0),y1,y2,y3,y4,y5,y6,y7,y8,y9,y10,y11) [(0,0),(1,1),(2,2),(3,3),(4,4),(5,5),(6,6),(7,7)]))) (.ext 1 [(0,0),(1,1),(2,2),(3,3),(4,4),(5,5),(6,6),(7,7)])
def lQ(s:St):Option aQ:=
 (match s.look 8 with
 |some ⟨none,(.one ⟨false,[(.val (.int .i64 y0))]⟩)⟩=>
 (match s.look 7 with
 |some ⟨none,(.one ⟨false,[(.val (.int .i64 y1))]⟩)⟩=>
 (match s.look 1 with
 |some ⟨none,(.one ⟨false,[(.clo 145 [1])]⟩)⟩=>
 (match s.look 0 with
 |some ⟨none,(.one ⟨false,[(.ref 0)]⟩)⟩=>
 (match s.ent 1 with
 |some (.box 33 [(.val (.int .i64 y2)),(.ref 2),(.ref 3),(.ref 4),(.ref 5),(.val (.int .i64 y3)),(.ref 6),(.ref 7),(.val (.int .i64 y4))])=>
 (match s.ent 0 with
 |some (.row false 49 (.pair (.int .i64) (.pair (.int .i64) (.pair (.pair (.int .i64) (.int .i64)) (.pair (.int .i64) (.pair (.int .i64) .bool))))) y5)=>
 (match s.ent 2 with
 |some (.row false 2 (.int .i64) y6)=>
 (match s.ent 3 with
 |some (.row false 169 (.pair (.int .i64) (.pair (.int .i64) (.int .i64))) y7)=>
 (match s.ent 4 with
 |some (.row false 24 (.sl 2 (.int .i64)) y8)=>
 (match s.ent 5 with
 |some (.row false 100 (.pair (.int .i64) (.pair (.int .i64) (.int .i64))) y9)=>
 (match s.ent 6 with
 |some (.row false 173 (.pair (.int .i64) (.int .i64)) y10)=>
 (match s.ent 7 with
 |some (.row false 176 (.pair (.int .i64) (.int .i64)) y11)=>
 some (y0,y1,y2,y3,y4,y5,y6,y7,y8,y9,y10,y11)
 |_=>none)
 |_=>none)
 |_=>none)
 |_=>none)
 |_=>none)
 |_=>none)
 |_=>none)
 |_=>none)
 |_=>none)
 |_=>none)
 |_=>none)
 |_=>none)
def ai:Lp aQ where
 h:=⟨[9,10,5,11,12,13,14,15,16,17,4,18,8],[0,1,2,3,4,5,6,7],[],[]⟩
 JL:=Gw
 JE:=Gv
 XL:=Gy
 XE:=Gx
 q:=fun j=>match j with | 0=> .ret | _=> .exit 0
 tags:= [0,1]
 lt:=eC
 fuel:=fun(y0,y1,y2,y3,y4,y5,y6,y7,y8,y9,y10,y11)=>y0.natAbs + y1.natAbs + y2.natAbs + y3.natAbs + y4.natAbs + y5.length + y6.length + y7.length + y8.length + y9.length + y10.length + y11.length
 fix:=fun(_,y1,y2,y3,y4,y5,y6,y7,y8,y9,y10,y11) (y0,_,_,_,_,_,_,_,_,_,_,_)=>(y0,y1,y2,y3,y4,y5,y6,y7,y8,y9,y10,y11)
 σ:= [(0,1),(1,0),(2,2),(3,3),(4,4),(5,5),(6,6),(7,7)]
 rd:=lQ
theorem Fj:LoopOk Tryz.prog (fun k=>Nat.blt k Tryz.f200.ntmps) ai.F (ay Tryz.f200 0):=by
 refine Lp.ok (tbl:= [mv,PF.lend mv,PF.fz mv]) (lf:= []) ar ai (by kernel_rfl) (LOk.nil _) (fun _=>rfl) (fun j _=>by unfold ai;match j with | 0=>rfl | _ + 1=>rfl) ?_ ?_ ?_ ?_ (fun _=>rfl) ?_
 ·intro x;obtain⟨y0,y1,y2,y3,y4,y5,y6,y7,y8,y9,y10,y11⟩:=x;kernel_rfl
 ·intro x;obtain⟨y0,y1,y2,y3,y4,y5,y6,y7,y8,y9,y10,y11⟩:=x;kernel_rfl
 ·intro s x h
  have h:lQ s=some x:=h
  unfold lQ at h
  repeat' split at h
  all_goals cases h
  exact⟨aa (by assumption) rfl (aa (by assumption) rfl (aa (by assumption) rfl (aa (by assumption) rfl (rfl)))),ac rfl (by assumption) rfl (ac rfl (by assumption) rfl (ac rfl (by assumption) rfl (ac rfl (by assumption) rfl (ac rfl (by assumption) rfl (ac rfl (by assumption) rfl (ac rfl (by assumption) rfl (ac rfl (by assumption) rfl (rfl))))))))⟩
 ·intro x;obtain⟨y0,y1,y2,y3,y4,y5,y6,y7,y8,y9,y10,y11⟩:=x;kernel_rfl
 ·intro x z;obtain⟨y0,y1,y2,y3,y4,y5,y6,y7,y8,y9,y10,y11⟩:=x;exact(And.intro (And.intro trivial rfl) trivial)
section
variable (x0:List (Int×Int×(Int×Int)×Int×Int×Bool))(x1 x2 x3:Int)(x4:List Int)(x5:List (Int×Int×Int))(x6:List (List Int))(x7:List (Int×Int×Int))(x8 x9:List (Int×Int))
def fW:Int×Int×Int×Int×Int×List (Int×Int×(Int×Int)×Int×Int×Bool)×List Int×List (Int×Int×Int)×List (List Int)×List (Int×Int×Int)×List (Int×Int)×List (Int×Int):=((0:Int),(↑x0.length:Int),x1,x2,x3,x0,x4,x5,x6,x7,x8,x9)
def fX:Bool:=Nat.beq ((Lp.res ai (fW x0 x1 x2 x3 x4 x5 x6 x7 x8 x9)).1) (0:Nat)
def oO:Int:=bif fX x0 x1 x2 x3 x4 x5 x6 x7 x8 x9 then ((Lp.res ai (fW x0 x1 x2 x3 x4 x5 x6 x7 x8 x9)).2).1else(-1:Int)
def wG:Int:=bif fX x0 x1 x2 x3 x4 x5 x6 x7 x8 x9 then x1 else x1
def wH:Int:=bif fX x0 x1 x2 x3 x4 x5 x6 x7 x8 x9 then x2 else x2
def wI:Int:=bif fX x0 x1 x2 x3 x4 x5 x6 x7 x8 x9 then x3 else x3
def oP:Bool:=allT [Lp.fin ai (fW x0 x1 x2 x3 x4 x5 x6 x7 x8 x9)]
end
def vK:List SV→List Entry→Option Out
 | [(.one ⟨false,[(.ref 0)]⟩),(.one ⟨false,[(.clo 145 [1])]⟩)],[(.row false 49 (.pair (.int .i64) (.pair (.int .i64) (.pair (.pair (.int .i64) (.int .i64)) (.pair (.int .i64) (.pair (.int .i64) .bool))))) x0),(.box 33 [(.val (.int .i64 x1)),(.ref 2),(.ref 3),(.ref 4),(.ref 5),(.val (.int .i64 x2)),(.ref 6),(.ref 7),(.val (.int .i64 x3))]),(.row false 2 (.int .i64) x4),(.row false 169 (.pair (.int .i64) (.pair (.int .i64) (.int .i64))) x5),(.row false 24 (.sl 2 (.int .i64)) x6),(.row false 100 (.pair (.int .i64) (.pair (.int .i64) (.int .i64))) x7),(.row false 173 (.pair (.int .i64) (.int .i64)) x8),(.row false 176 (.pair (.int .i64) (.int .i64)) x9)]=>some ⟨(.one ⟨false,[(.val (.int .i64 (oO x0 x1 x2 x3 x4 x5 x6 x7 x8 x9)))]⟩),[(.row false 49 asW x0),(.box 33 [(.val (.int .i64 (wG x0 x1 x2 x3 x4 x5 x6 x7 x8 x9))),(.ref 2),(.ref 3),(.ref 4),(.ref 5),(.val (.int .i64 (wH x0 x1 x2 x3 x4 x5 x6 x7 x8 x9))),(.ref 6),(.ref 7),(.val (.int .i64 (wI x0 x1 x2 x3 x4 x5 x6 x7 x8 x9)))]),(.row false 2 asZ x4),(.row false 169 asX x5),(.row false 24 (CTy.sl (2:Nat) asZ) x6),(.row false 100 asX x7),(.row false 173 asY x8),(.row false 176 asY x9)],[],[(oP x0 x1 x2 x3 x4 x5 x6 x7 x8 x9)]⟩
 |_,_=>none
def oL:PF Tryz.prog:=PF.ofG Tryz.prog [mv,PF.lend mv,PF.fz mv] [ai.F] ar 200 Tryz.f200 Tryz.func200 (LOk.fnT (l:= [ay Tryz.f200 0]) (by kernel_rfl) (.cons Fj (.nil _))) vK (by
 intro vs es r h;unfold vK at h;split at h
 ·cases h;kernel_rfl
 ·cases h)
section
variable (x0:List (Int×Int×(Int×Int)×Int×Int×Bool))(x1 x2 x3:Int)(x4:List Int)(x5:List (Int×Int×Int))(x6:List (List Int))(x7:List (Int×Int×Int))(x8 x9:List (Int×Int))
def iC:Bool:=leI (0:Int) (oO x0 x1 x2 x3 x4 x5 x6 x7 x8 x9)
def Hj:Int:=wG x0 x1 x2 x3 x4 x5 x6 x7 x8 x9
def Hk:Int:=wH x0 x1 x2 x3 x4 x5 x6 x7 x8 x9
def Hl:Int:=wI x0 x1 x2 x3 x4 x5 x6 x7 x8 x9
def me:Bool:=allT [oP x0 x1 x2 x3 x4 x5 x6 x7 x8 x9]
end
def uf:List SV→List Entry→Option Out
 | [(.one ⟨false,[(.ref 0)]⟩),(.one ⟨false,[(.clo 145 [1])]⟩)],[(.row false 49 (.pair (.int .i64) (.pair (.int .i64) (.pair (.pair (.int .i64) (.int .i64)) (.pair (.int .i64) (.pair (.int .i64) .bool))))) x0),(.box 33 [(.val (.int .i64 x1)),(.ref 2),(.ref 3),(.ref 4),(.ref 5),(.val (.int .i64 x2)),(.ref 6),(.ref 7),(.val (.int .i64 x3))]),(.row false 2 (.int .i64) x4),(.row false 169 (.pair (.int .i64) (.pair (.int .i64) (.int .i64))) x5),(.row false 24 (.sl 2 (.int .i64)) x6),(.row false 100 (.pair (.int .i64) (.pair (.int .i64) (.int .i64))) x7),(.row false 173 (.pair (.int .i64) (.int .i64)) x8),(.row false 176 (.pair (.int .i64) (.int .i64)) x9)]=>some ⟨(.one ⟨false,[(.val (.bool (iC x0 x1 x2 x3 x4 x5 x6 x7 x8 x9)))]⟩),[(.row false 49 asW x0),(.box 33 [(.val (.int .i64 (Hj x0 x1 x2 x3 x4 x5 x6 x7 x8 x9))),(.ref 2),(.ref 3),(.ref 4),(.ref 5),(.val (.int .i64 (Hk x0 x1 x2 x3 x4 x5 x6 x7 x8 x9))),(.ref 6),(.ref 7),(.val (.int .i64 (Hl x0 x1 x2 x3 x4 x5 x6 x7 x8 x9)))]),(.row false 2 asZ x4),(.row false 169 asX x5),(.row false 24 (CTy.sl (2:Nat) asZ) x6),(.row false 100 asX x7),(.row false 173 asY x8),(.row false 176 asY x9)],[],[(me x0 x1 x2 x3 x4 x5 x6 x7 x8 x9)]⟩
 |_,_=>none
def ma:PF Tryz.prog:=PF.ofG Tryz.prog [oL,PF.lend oL,PF.fz oL] [] ar 144 Tryz.f144 Tryz.func144 (fun c _=>LOk.nil c) uf (by
 intro vs es r h;unfold uf at h;split at h
 ·cases h;kernel_rfl
 ·cases h)
section
variable (x0 x1 x2:Int)(x3:List Int)(x4:List (Int×Int×Int))(x5:List (List Int))(x6:List (Int×Int×Int))(x7 x8:List (Int×Int))(x9:List (Int×Int×(Int×Int)×Int×Int×Bool))
def NI:Bool:=ltI (200:Int) (↑x9.length:Int)
def u4:Int:=bif !pS x0 x3 x4 x5 x6 x1 x7 x8 x2 then(1:Int)else bif NI x9 then(3:Int)else bif iC x9 x0 x1 x2 x3 x4 x5 x6 x7 x8 then(2:Int)else(0:Int)
def zJ:Bool:=allT [p8 (9223372036854775807:Nat) x3 x4 x5 x6 x7 x8,!pS x0 x3 x4 x5 x6 x1 x7 x8 x2||(NI x9||me x9 x0 x1 x2 x3 x4 x5 x6 x7 x8)]
end
def Xa:List SV→List Entry→Option Out
 | [.one ⟨true,[.val (.int .i64 x0),.ref 0,.ref 1,.ref 2,.ref 3,.val (.int .i64 x1),.ref 4,.ref 5,.val (.int .i64 x2)]⟩,.one ⟨false,[.ref 6]⟩],[.row false 2 (.int .i64) x3,.row false 169 (.pair (.int .i64) (.pair (.int .i64) (.int .i64))) x4,.row false 24 (.sl 2 (.int .i64)) x5,.row false 100 (.pair (.int .i64) (.pair (.int .i64) (.int .i64))) x6,.row false 173 (.pair (.int .i64) (.int .i64)) x7,.row false 176 (.pair (.int .i64) (.int .i64)) x8,.row false 49 (.pair (.int .i64) (.pair (.int .i64) (.pair (.pair (.int .i64) (.int .i64)) (.pair (.int .i64) (.pair (.int .i64) (.bool)))))) x9]=>some ⟨(.one ⟨false,[(.val (.int .i64 (u4 x0 x1 x2 x3 x4 x5 x6 x7 x8 x9)))]⟩),[(.row false 2 asZ x3),(.row false 169 asX x4),(.row false 24 (CTy.sl (2:TypeId) asZ) x5),(.row false 100 asX x6),(.row false 173 asY x7),(.row false 176 asY x8),(.row false 49 asW x9)],[],[(zJ x0 x1 x2 x3 x4 x5 x6 x7 x8 x9)]⟩
 |_,_=>none
def zV:PF Tryz.prog:=PF.ofG Tryz.prog [Wx,PF.lend Wx,PF.fz Wx,ma,PF.lend ma,PF.fz ma] [] ar 54 Tryz.f54 Tryz.func54 (fun c _=>LOk.nil c) Xa (by
 intro vs es r h;unfold Xa at h;split at h
 ·cases h;kernel_rfl
 ·cases h)
abbrev aR:=Int×Int×List (List Int)×Int×Int×Int×List Int×List (Int×(Int×Int))×List (List Int)×List (Int×(Int×Int))×List (Int×Int)×List (Int×Int)
section
variable (y0 y1:Int)(y2 y8:List (List Int))
def aZ:List Int:=Option.getD y2[Int.toNat y0]? (uq (CTy.sl (2:Nat) asZ))
def fl:Bool:=ltI y0 y1
def fm:Bool:=leI (0:Int) y0
def fo:Bool:=ltI y0 (↑y2.length:Int)
def fq:Bool:=ltN y0.toNat y2.length
def ft:Bool:=leN (1:Nat) (List.length (aZ y0 y2))&&leN (List.length (aZ y0 y2)) (1048576:Nat)
def fu:Bool:=leN (List.length y8 + List.length [aZ y0 y2]) (9223372036854775807:Nat)
def fv:Bool:=leN ((List.length y8 + List.length [aZ y0 y2]) * (24:Nat)) (140737488355328:Nat)
def fw:Int:=IntKind.wrap .i64 (y0 + (1:Int))
def fy:List (List Int):=y8++ [aZ y0 y2]
end
def GY:aR→List (Nat×SV)
 |(y0,y1,_,_,_,_,_,_,_,_,_,_)=> [(31,(.one ⟨false,[(.val (.int .i64 y0))]⟩)),(30,(.one ⟨false,[(.val (.int .i64 y1))]⟩)),(29,(.one ⟨false,[(.ref 0)]⟩)),(3,(.one ⟨false,[(.ptr 1 0)]⟩))]
def GX:aR→List (Nat×Entry)
 |(_,_,y2,y3,y4,y5,y6,y7,y8,y9,y10,y11)=> [(0,(.row false 24 (CTy.sl (2:Nat) asZ) y2)),(1,(.box 33 [(.val (.int .i64 y3)),(.ref 2),(.ref 3),(.ref 4),(.ref 5),(.val (.int .i64 y4)),(.ref 6),(.ref 7),(.val (.int .i64 y5))])),(2,(.row true 2 asZ y6)),(3,(.row true 169 asX y7)),(5,(.row true 100 asX y9)),(6,(.row true 173 asY y10)),(7,(.row true 176 asY y11)),(4,(.tree 24 (CTy.sl (2:Nat) asZ) y8 none))]
def Ha:Nat→aR→List (Nat×SV)
 |_,(_,_,_,_,_,_,_,_,_,_,_,_)=> []
def GZ:Nat→aR→List (Nat×Entry)
 |_,(_,_,y2,y3,y4,y5,y6,y7,y8,y9,y10,y11)=> [(0,(.row false 24 (CTy.sl (2:Nat) asZ) y2)),(1,(.box 33 [(.val (.int .i64 y3)),(.ref 2),(.ref 3),(.ref 4),(.ref 5),(.val (.int .i64 y4)),(.ref 6),(.ref 7),(.val (.int .i64 y5))])),(2,(.row true 2 asZ y6)),(3,(.row true 169 asX y7)),(4,(.tree 24 (CTy.sl (2:Nat) asZ) y8 none)),(5,(.row true 100 asX y9)),(6,(.row true 173 asY y10)),(7,(.row true 176 asY y11))]
def eU:aR→LT aR
 |(y0,y1,y2,y3,y4,y5,y6,y7,y8,y9,y10,y11)=> .ite (fl y0 y1) (.need [(fm y0),(fo y0 y2),(fq y0 y2)] (.need [(ft y0 y2),(fu y0 y2 y8),(fv y0 y2 y8)] (.nrm ((fw y0),y1,y2,y3,y4,y5,y6,y7,(fy y0 y2 y8),y9,y10,y11) [(0,0),(1,1),(2,2),(3,3),(4,640),(5,5),(6,6),(7,7)]))) (.ext 0 [(0,0),(1,1),(2,2),(3,3),(4,4),(5,5),(6,6),(7,7)])
def md(s:St):Option aR:=
 (match s.look 31 with
 |some ⟨none,(.one ⟨false,[(.val (.int .i64 y0))]⟩)⟩=>
 (match s.look 30 with
 |some ⟨none,(.one ⟨false,[(.val (.int .i64 y1))]⟩)⟩=>
 (match s.look 29 with
 |some ⟨none,(.one ⟨false,[(.ref 2)]⟩)⟩=>
 (match s.look 3 with
 |some ⟨none,(.one ⟨false,[(.ptr 640 0)]⟩)⟩=>
 (match s.ent 2 with
 |some (.row false 24 (.sl 2 (.int .i64)) y2)=>
 (match s.ent 640 with
 |some (.box 33 [(.val (.int .i64 y3)),(.ref 896),(.ref 1216),(.ref 2432),(.ref 1408),(.val (.int .i64 y4)),(.ref 1856),(.ref 2048),(.val (.int .i64 y5))])=>
 (match s.ent 896 with
 |some (.row true 2 (.int .i64) y6)=>
 (match s.ent 1216 with
 |some (.row true 169 (.pair (.int .i64) (.pair (.int .i64) (.int .i64))) y7)=>
 (match s.ent 1408 with
 |some (.row true 100 (.pair (.int .i64) (.pair (.int .i64) (.int .i64))) y9)=>
 (match s.ent 1856 with
 |some (.row true 173 (.pair (.int .i64) (.int .i64)) y10)=>
 (match s.ent 2048 with
 |some (.row true 176 (.pair (.int .i64) (.int .i64)) y11)=>
 (match s.ent 2432 with
 |some (.tree 24 (.sl 2 (.int .i64)) y8 none)=>
 some (y0,y1,y2,y3,y4,y5,y6,y7,y8,y9,y10,y11)
 |_=>none)
 |_=>none)
 |_=>none)
 |_=>none)
 |_=>none)
 |_=>none)
 |_=>none)
 |_=>none)
 |_=>none)
 |_=>none)
 |_=>none)
 |_=>none)
def aq:Lp aR where
 h:=⟨[32,33,34,5,35,36,37,38,39,40,41,42,31],[0,1,2,3,5,6,7],[4],[]⟩
 JL:=GY
 JE:=GX
 XL:=Ha
 XE:=GZ
 q:=fun j=>match j with | _=> .exit 0
 tags:= [0]
 lt:=eU
 fuel:=fun(y0,y1,y2,y3,y4,y5,y6,y7,y8,y9,y10,y11)=>y0.natAbs + y1.natAbs + y2.length + y3.natAbs + y4.natAbs + y5.natAbs + y6.length + y7.length + y8.length + y9.length + y10.length + y11.length
 fix:=fun(_,y1,y2,y3,y4,y5,y6,y7,_,y9,y10,y11) (y0,_,_,_,_,_,_,_,y8,_,_,_)=>(y0,y1,y2,y3,y4,y5,y6,y7,y8,y9,y10,y11)
 σ:= [(0,2),(1,640),(2,896),(3,1216),(5,1408),(6,1856),(7,2048),(4,2432)]
 rd:=md
theorem Gn:LoopOk Tryz.prog (fun k=>Nat.blt k Tryz.f55.ntmps) aq.F (ay Tryz.f55 0):=by
 refine Lp.ok (tbl:= [PF.trees Tryz.prog,ba,PF.lend ba,PF.fz ba,g9,PF.lend g9,PF.fz g9,iW,PF.lend iW,PF.fz iW,mu,PF.lend mu,PF.fz mu,mt,PF.lend mt,PF.fz mt,aj,PF.lend aj,PF.fz aj]) (lf:= []) ar aq (by kernel_rfl) (LOk.nil _) (fun _=>rfl) (fun _ _=>rfl) ?_ ?_ ?_ ?_ (fun _=>rfl) ?_
 ·intro x;obtain⟨y0,y1,y2,y3,y4,y5,y6,y7,y8,y9,y10,y11⟩:=x;kernel_rfl
 ·intro x;obtain⟨y0,y1,y2,y3,y4,y5,y6,y7,y8,y9,y10,y11⟩:=x;kernel_rfl
 ·intro s x h
  have h:md s=some x:=h
  unfold md at h
  repeat' split at h
  all_goals cases h
  exact⟨aa (by assumption) rfl (aa (by assumption) rfl (aa (by assumption) rfl (aa (by assumption) rfl (rfl)))),ac rfl (by assumption) rfl (ac rfl (by assumption) rfl (ac rfl (by assumption) rfl (ac rfl (by assumption) rfl (ac rfl (by assumption) rfl (ac rfl (by assumption) rfl (ac rfl (by assumption) rfl (ac rfl (by assumption) rfl (rfl))))))))⟩
 ·intro x;obtain⟨y0,y1,y2,y3,y4,y5,y6,y7,y8,y9,y10,y11⟩:=x;kernel_rfl
 ·intro x z;obtain⟨y0,y1,y2,y3,y4,y5,y6,y7,y8,y9,y10,y11⟩:=x;exact(And.intro rfl trivial)
section
variable (x0 x1 x2:Int)(x3:List Int)(x4:List (Int×Int×Int))(x5:List (List Int))(x6:List (Int×Int×Int))(x7 x8:List (Int×Int))
def jx:Int×Int×List (List Int)×Int×Int×Int×List Int×List (Int×Int×Int)×List (List Int)×List (Int×Int×Int)×List (Int×Int)×List (Int×Int):=((0:Int),(↑x5.length:Int),x5,x0,x1,x2,x3,x4,[],x6,x7,x8)
def j8:List (List Int):=((Lp.res aq (jx x0 x1 x2 x3 x4 x5 x6 x7 x8)).2.2.2.2.2.2.2.2.2).1
def j9:Bool:=allT [fA x3,leN x4.length (1048576:Nat),leN x6.length (1048576:Nat),leN x7.length (1048576:Nat),leN x8.length (1048576:Nat),Lp.fin aq (jx x0 x1 x2 x3 x4 x5 x6 x7 x8)]
end
def xt:List SV→List Entry→Option Out
 | [.one ⟨true,[.val (.int .i64 x0),.ref 0,.ref 1,.ref 2,.ref 3,.val (.int .i64 x1),.ref 4,.ref 5,.val (.int .i64 x2)]⟩],[.row false 2 (.int .i64) x3,.row false 169 (.pair (.int .i64) (.pair (.int .i64) (.int .i64))) x4,.row false 24 (.sl 2 (.int .i64)) x5,.row false 100 (.pair (.int .i64) (.pair (.int .i64) (.int .i64))) x6,.row false 173 (.pair (.int .i64) (.int .i64)) x7,.row false 176 (.pair (.int .i64) (.int .i64)) x8]=>some ⟨(.one ⟨true,[(.val (.int .i64 x0)),(.ref 6),(.ref 7),(.ref 8),(.ref 9),(.val (.int .i64 x1)),(.ref 10),(.ref 11),(.val (.int .i64 x2))]⟩),[(.row false 2 asZ x3),(.row false 169 asX x4),(.row false 24 (CTy.sl (2:TypeId) asZ) x5),(.row false 100 asX x6),(.row false 173 asY x7),(.row false 176 asY x8)],[(.row true 2 asZ x3),(.row true 169 asX x4),(.tree 24 (CTy.sl (2:Nat) asZ) (j8 x0 x1 x2 x3 x4 x5 x6 x7 x8) none),(.row true 100 asX x6),(.row true 173 asY x7),(.row true 176 asY x8)],[(j9 x0 x1 x2 x3 x4 x5 x6 x7 x8)]⟩
 |_,_=>none
def ed:PF Tryz.prog:=PF.ofG Tryz.prog [PF.trees Tryz.prog,ba,PF.lend ba,PF.fz ba,g9,PF.lend g9,PF.fz g9,iW,PF.lend iW,PF.fz iW,mu,PF.lend mu,PF.fz mu,mt,PF.lend mt,PF.fz mt,aj,PF.lend aj,PF.fz aj] [aq.F] ar 55 Tryz.f55 Tryz.func55 (LOk.fnT (l:= [ay Tryz.f55 0]) (by kernel_rfl) (.cons Gn (.nil _))) xt (by
 intro vs es r h;unfold xt at h;split at h
 ·cases h;kernel_rfl
 ·cases h)
def ae(x3:Int)(x4:List Int):Bool:=Int.tmod (Option.getD x4[Int.toNat x3]? (0:Int)) (3:Int)==(1:Int)
def nI(x3:Int)(x4:List Int):Bool:=allT [leI (0:Int) x3,ltI x3 (↑x4.length:Int),ltN x3.toNat x4.length]
def vo:List SV→List Entry→Option Out
 | [.one ⟨true,[.val (.int .i64 _x0),.ref 0,.ref 1,.ref 2,.ref 3,.val (.int .i64 _x1),.ref 4,.ref 5,.val (.int .i64 _x2)]⟩,.one ⟨false,[.val (.int .i64 x3)]⟩],[.row false 2 (.int .i64) x4,.row false 169 (.pair (.int .i64) (.pair (.int .i64) (.int .i64))) x5,.row false 24 (.sl 2 (.int .i64)) x6,.row false 100 (.pair (.int .i64) (.pair (.int .i64) (.int .i64))) x7,.row false 173 (.pair (.int .i64) (.int .i64)) x8,.row false 176 (.pair (.int .i64) (.int .i64)) x9]=>some ⟨(.one ⟨false,[(.val (.bool (ae x3 x4)))]⟩),[(.row false 2 asZ x4),(.row false 169 asX x5),(.row false 24 (CTy.sl (2:TypeId) asZ) x6),(.row false 100 asX x7),(.row false 173 asY x8),(.row false 176 asY x9)],[],[(nI x3 x4)]⟩
 |_,_=>none
def nO:PF Tryz.prog:=PF.ofG Tryz.prog [] [] ar 201 Tryz.f201 Tryz.func201 (fun c _=>LOk.nil c) vo (by
 intro vs es r h;unfold vo at h;split at h
 ·cases h;kernel_rfl
 ·cases h)
section
variable (x0 x1 x2 x3:Int)(x4:List Int)(x5:List (Int×Int×Int))(x6:List (List Int))(x7:List (Int×Int×Int))(x8 x9:List (Int×Int))
def al:Bool:= !ae7 x1 x4 (Eu x1 x4 x5 (0:Int)) (Eu x1 x4 x5 (1:Int)) x0
def gA:List Int:=bif ad x1 x0 x4&&true then Option.getD x6[Int.toNat x0]? (uq (CTy.sl (2:TypeId) asZ))else []
def aD:Bool:=bif ad x1 x0 x4 then !WJ (gA x0 x1 x4 x6) x7 else false
def pq:List (Int×Int×Int):=bif ad x1 x0 x4&&true then x7 else x7
def ku:Int:=bif !ae x0 x4 then(0:Int)else bif x2 !=(3:Int)then(1:Int)else bif al x0 x1 x4 x5 then(2:Int)else bif aD x0 x1 x4 x6 x7 then(3:Int)else(0:Int)
def pK:Int:=bif !ae x0 x4 then x1 else bif x2 !=(3:Int)then x1 else bif al x0 x1 x4 x5 then x1 else bif aD x0 x1 x4 x6 x7 then x1 else x1
def pL:Int:=bif !ae x0 x4 then x2 else bif x2 !=(3:Int)then x2 else bif al x0 x1 x4 x5 then x2 else bif aD x0 x1 x4 x6 x7 then x2 else x2
def pM:Int:=bif !ae x0 x4 then x3 else bif x2 !=(3:Int)then x3 else bif al x0 x1 x4 x5 then x3 else bif aD x0 x1 x4 x6 x7 then x3 else x3
def pN:List Int:=bif !ae x0 x4 then aib x1 x4 x0 else bif x2 !=(3:Int)then x4 else bif al x0 x1 x4 x5 then x4 else bif aD x0 x1 x4 x6 x7 then x4 else aib x1 x4 x0
def pO:List (Int×(Int×Int)):=bif !ae x0 x4 then x5 else bif x2 !=(3:Int)then x5 else bif al x0 x1 x4 x5 then x5 else bif aD x0 x1 x4 x6 x7 then x5 else x5
def pP:List (Int×(Int×Int)):=bif !ae x0 x4 then x7 else bif x2 !=(3:Int)then x7 else bif al x0 x1 x4 x5 then x7 else bif aD x0 x1 x4 x6 x7 then pq x0 x1 x4 x7 else pq x0 x1 x4 x7
def pQ:List (Int×Int):=bif !ae x0 x4 then x8 else bif x2 !=(3:Int)then x8 else bif al x0 x1 x4 x5 then x8 else bif aD x0 x1 x4 x6 x7 then x8 else x8
def pR:List (Int×Int):=bif !ae x0 x4 then x9 else bif x2 !=(3:Int)then x9 else bif al x0 x1 x4 x5 then x9 else bif aD x0 x1 x4 x6 x7 then x9 else x9
def kv:Bool:=allT [nI x0 x4,!ae x0 x4||(x2 !=(3:Int)||isT x1 x4&&ah1 x1 x5),!ae x0 x4||(x2 !=(3:Int)||WI x1 x4 (Eu x1 x4 x5 (0:Int)) (Eu x1 x4 x5 (1:Int)) x0),!ae x0 x4||(x2 !=(3:Int)||(al x0 x1 x4 x5||bA x0 x4)),!ae x0 x4||(x2 !=(3:Int)||(al x0 x1 x4 x5||(!(ad x1 x0 x4&&true)||leI (0:Int) x0))),!ae x0 x4||(x2 !=(3:Int)||(al x0 x1 x4 x5||(!(ad x1 x0 x4&&true)||ltI x0 (↑x6.length:Int)))),!ae x0 x4||(x2 !=(3:Int)||(al x0 x1 x4 x5||(!(ad x1 x0 x4&&true)||ltN x0.toNat x6.length))),!ae x0 x4||(x2 !=(3:Int)||(al x0 x1 x4 x5||(!(ad x1 x0 x4&&true)||aho (gA x0 x1 x4 x6) x7))),!!ae x0 x4||Yw x1 x4 x0,!ae x0 x4||(x2 !=(3:Int)||(al x0 x1 x4 x5||(aD x0 x1 x4 x6 x7||Yw x1 x4 x0)))]
end
def ya:List SV→List Entry→Option Out
 | [.one ⟨false,[.ptr 0 0]⟩,.one ⟨false,[.val (.int .i64 x0)]⟩],[.box 33 [.val (.int .i64 x1),.ref 1,.ref 2,.ref 3,.ref 4,.val (.int .i64 x2),.ref 5,.ref 6,.val (.int .i64 x3)],.row true 2 (.int .i64) x4,.row true 169 (.pair (.int .i64) (.pair (.int .i64) (.int .i64))) x5,.row false 24 (.sl 2 (.int .i64)) x6,.row true 100 (.pair (.int .i64) (.pair (.int .i64) (.int .i64))) x7,.row true 173 (.pair (.int .i64) (.int .i64)) x8,.row true 176 (.pair (.int .i64) (.int .i64)) x9]=>some ⟨(.one ⟨false,[(.val (.int .i64 (ku x0 x1 x2 x4 x5 x6 x7)))]⟩),[(.box 33 [(.val (.int .i64 (pK x0 x1 x2 x4 x5 x6 x7))),(.ref 7),(.ref 8),(.ref 3),(.ref 9),(.val (.int .i64 (pL x0 x1 x2 x4 x5 x6 x7))),(.ref 10),(.ref 11),(.val (.int .i64 (pM x0 x1 x2 x3 x4 x5 x6 x7)))]),.gone,.gone,(.row false 24 (CTy.sl (2:TypeId) asZ) x6),.gone,.gone,.gone],[(.row true 2 asZ (pN x0 x1 x2 x4 x5 x6 x7)),(.row true 169 asX (pO x0 x1 x2 x4 x5 x6 x7)),(.row true 100 asX (pP x0 x1 x2 x4 x5 x6 x7)),(.row true 173 asY (pQ x0 x1 x2 x4 x5 x6 x7 x8)),(.row true 176 asY (pR x0 x1 x2 x4 x5 x6 x7 x9))],[(kv x0 x1 x2 x4 x5 x6 x7)]⟩
 |_,_=>none
def zh:PF Tryz.prog:=PF.ofGK Tryz.prog [Ua,PF.lend Ua,PF.fz Ua,nO,PF.lend nO,PF.fz nO,Sg,PF.lend Sg,PF.fz Sg,l8,PF.lend l8,PF.fz l8,mZ,PF.lend mZ,PF.fz mZ,cj,PF.lend cj,PF.fz cj] [] ar 152 Tryz.f152 Tryz.func152 (fun c _=>LOk.nil c) ya (by
 intro vs es r h;unfold ya at h;split at h
 ·cases h;kernel_rfl
 ·cases h)
section
variable (x0 x1 x2 x3 x4 x5:Int)(x6:List Int)(x7:List (Int×Int×Int))(x8:List (List Int))(x9:List (Int×Int×Int))(x10 x11:List (Int×Int))
def am:List Int:=Option.getD x8[Int.toNat x0]? (uq (CTy.sl (2:TypeId) asZ))
def l6:List (List Int):=List.set x8 x0.toNat (bif kj (am x0 x8) x1 x2 then OZ (am x0 x8) x1 x2 else am x0 x8)
def mP:Int:=bif !ad x3 x0 x6 then(4:Int)else bif !kj (am x0 x8) x1 x2 then(5:Int)else(0:Int)
def mQ:Int:=bif !ad x3 x0 x6 then x3 else bif !kj (am x0 x8) x1 x2 then x3 else x3
def mR:Int:=bif !ad x3 x0 x6 then x4 else bif !kj (am x0 x8) x1 x2 then x4 else x4
def mS:Int:=bif !ad x3 x0 x6 then x5 else bif !kj (am x0 x8) x1 x2 then x5 else x5
def mT:List Int:=bif !ad x3 x0 x6 then x6 else bif !kj (am x0 x8) x1 x2 then x6 else x6
def mU:List (Int×(Int×Int)):=bif !ad x3 x0 x6 then x7 else bif !kj (am x0 x8) x1 x2 then x7 else x7
def mV:List (List Int):=bif !ad x3 x0 x6 then x8 else bif !kj (am x0 x8) x1 x2 then l6 x0 x1 x2 x8 else l6 x0 x1 x2 x8
def mW:List (Int×(Int×Int)):=bif !ad x3 x0 x6 then x9 else bif !kj (am x0 x8) x1 x2 then x9 else x9
def mX:List (Int×Int):=bif !ad x3 x0 x6 then x10 else bif !kj (am x0 x8) x1 x2 then x10 else x10
def mY:List (Int×Int):=bif !ad x3 x0 x6 then x11 else bif !kj (am x0 x8) x1 x2 then x11 else x11
def l5:Bool:=allT [bA x0 x6,!ad x3 x0 x6||leI (0:Int) x0,!ad x3 x0 x6||ltI x0 (↑x8.length:Int),!ad x3 x0 x6||ltN x0.toNat x8.length,!ad x3 x0 x6||ahs (am x0 x8) x1 x2]
end
def uk:List SV→List Entry→Option Out
 | [.one ⟨false,[.ptr 0 0]⟩,.one ⟨false,[.val (.int .i64 x0)]⟩,.one ⟨true,[.val (.int .i64 x1),.val (.int .i64 x2)]⟩],[.box 33 [.val (.int .i64 x3),.ref 1,.ref 2,.ref 3,.ref 4,.val (.int .i64 x4),.ref 5,.ref 6,.val (.int .i64 x5)],.row true 2 (.int .i64) x6,.row true 169 (.pair (.int .i64) (.pair (.int .i64) (.int .i64))) x7,.tree 24 (.sl 2 (.int .i64)) x8 none,.row true 100 (.pair (.int .i64) (.pair (.int .i64) (.int .i64))) x9,.row true 173 (.pair (.int .i64) (.int .i64)) x10,.row true 176 (.pair (.int .i64) (.int .i64)) x11]=>some ⟨(.one ⟨false,[(.val (.int .i64 (mP x0 x1 x2 x3 x6 x8)))]⟩),[(.box 33 [(.val (.int .i64 (mQ x0 x1 x2 x3 x6 x8))),(.ref 1),(.ref 2),(.ref 3),(.ref 4),(.val (.int .i64 (mR x0 x1 x2 x3 x4 x6 x8))),(.ref 5),(.ref 6),(.val (.int .i64 (mS x0 x1 x2 x3 x5 x6 x8)))]),(.row true 2 asZ (mT x0 x1 x2 x3 x6 x8)),(.row true 169 asX (mU x0 x1 x2 x3 x6 x7 x8)),(.tree 24 (CTy.sl (2:TypeId) asZ) (mV x0 x1 x2 x3 x6 x8) none),(.row true 100 asX (mW x0 x1 x2 x3 x6 x8 x9)),(.row true 173 asY (mX x0 x1 x2 x3 x6 x8 x10)),(.row true 176 asY (mY x0 x1 x2 x3 x6 x8 x11))],[],[(l5 x0 x1 x2 x3 x6 x8)]⟩
 |_,_=>none
def m0:PF Tryz.prog:=PF.ofG Tryz.prog [PF.trees Tryz.prog,HT,PF.lend HT,PF.fz HT,cj,PF.lend cj,PF.fz cj] [] ar 153 Tryz.f153 Tryz.func153 (fun c _=>LOk.nil c) uk (by
 intro vs es r h;unfold uk at h;split at h
 ·cases h;kernel_rfl
 ·cases h)
section
variable (x0 x1:Int)(x2:Bool)(x3 x4 x5:Int)(x6:List Int)(x7:List (Int×Int×Int))(x8:List (List Int))(x9:List (Int×Int×Int))(x10 x11:List (Int×Int))
def az:Bool:=vdC x4 x0 x1 x2 !=(0:Int)
def aC:Bool:=bif x0==(1:Int)then !ah9 x10 x11 x5 else false
def da:Bool:=x0==(1:Int)&&true
def ny:Int:=bif az x0 x1 x2 x4 then(6:Int)else bif aC x0 x5 x10 x11 then(7:Int)else(0:Int)
def nz:Int:=bif az x0 x1 x2 x4 then x3 else bif aC x0 x5 x10 x11 then x3 else x3
def nA:Int:=bif az x0 x1 x2 x4 then x4 else bif aC x0 x5 x10 x11 then x4 else nxC x4 x0 x1 x2
def nB:Int:=bif az x0 x1 x2 x4 then x5 else bif aC x0 x5 x10 x11 then x5 else x5
def nC:List Int:=bif az x0 x1 x2 x4 then x6 else bif aC x0 x5 x10 x11 then x6 else x6
def nD:List (Int×(Int×Int)):=bif az x0 x1 x2 x4 then x7 else bif aC x0 x5 x10 x11 then x7 else x7
def nE:List (List Int):=bif az x0 x1 x2 x4 then x8 else bif aC x0 x5 x10 x11 then x8 else x8
def nF:List (Int×(Int×Int)):=bif az x0 x1 x2 x4 then x9 else bif aC x0 x5 x10 x11 then x9 else x9
def nG:List (Int×Int):=bif az x0 x1 x2 x4 then x10 else bif aC x0 x5 x10 x11 then bif da x0 then x10 else x10 else bif da x0 then x10 else x10
def nH:List (Int×Int):=bif az x0 x1 x2 x4 then x11 else bif aC x0 x5 x10 x11 then bif da x0 then x11 else x11 else bif da x0 then x11 else x11
def mO:Bool:=allT [abj x4 x0,az x0 x1 x2 x4||(!da x0||leN x10.length (9223372036854775807:Nat)&&leN x11.length (9223372036854775807:Nat)),az x0 x1 x2 x4||(aC x0 x5 x10 x11||abj x4 x0)]
end
def vn:List SV→List Entry→Option Out
 | [.one ⟨false,[.ptr 0 0]⟩,.one ⟨true,[.val (.int .i64 x0),.val (.int .i64 x1),.val (.bool x2)]⟩],[.box 33 [.val (.int .i64 x3),.ref 1,.ref 2,.ref 3,.ref 4,.val (.int .i64 x4),.ref 5,.ref 6,.val (.int .i64 x5)],.row true 2 (.int .i64) x6,.row true 169 (.pair (.int .i64) (.pair (.int .i64) (.int .i64))) x7,.tree 24 (.sl 2 (.int .i64)) x8 none,.row true 100 (.pair (.int .i64) (.pair (.int .i64) (.int .i64))) x9,.row true 173 (.pair (.int .i64) (.int .i64)) x10,.row true 176 (.pair (.int .i64) (.int .i64)) x11]=>some ⟨(.one ⟨false,[(.val (.int .i64 (ny x0 x1 x2 x4 x5 x10 x11)))]⟩),[(.box 33 [(.val (.int .i64 (nz x0 x1 x2 x3 x4 x5 x10 x11))),(.ref 1),(.ref 2),(.ref 3),(.ref 4),(.val (.int .i64 (nA x0 x1 x2 x4 x5 x10 x11))),(.ref 5),(.ref 6),(.val (.int .i64 (nB x0 x1 x2 x4 x5 x10 x11)))]),(.row true 2 asZ (nC x0 x1 x2 x4 x5 x6 x10 x11)),(.row true 169 asX (nD x0 x1 x2 x4 x5 x7 x10 x11)),(.tree 24 (CTy.sl (2:TypeId) asZ) (nE x0 x1 x2 x4 x5 x8 x10 x11) none),(.row true 100 asX (nF x0 x1 x2 x4 x5 x9 x10 x11)),(.row true 173 asY (nG x0 x1 x2 x4 x5 x10 x11)),(.row true 176 asY (nH x0 x1 x2 x4 x5 x10 x11))],[],[(mO x0 x1 x2 x4 x5 x10 x11)]⟩
 |_,_=>none
def nN:PF Tryz.prog:=PF.ofG Tryz.prog [PF.trees Tryz.prog,GL,NY,PF.lend NY,PF.fz NY,II] [] ar 154 Tryz.f154 Tryz.func154 (fun c _=>LOk.nil c) vn (by
 intro vs es r h;unfold vn at h;split at h
 ·cases h;kernel_rfl
 ·cases h)
section
variable (x0 x1 x2 x3 x4 x5:Int)(x6:Bool)(x7 x8 x9:Int)(x10:List Int)(x11:List (Int×Int×Int))(x12:List (List Int))(x13:List (Int×Int×Int))(x14 x15:List (Int×Int))
def cO:Int:=bif x0==(0:Int)then ku x1 x7 x8 x10 x11 x12 x13 else bif x0==(1:Int)then mP x1 x2 x3 x7 x10 x12 else ny x4 x5 x6 x8 x9 x14 x15
def cP:Int:=bif x0==(0:Int)then pK x1 x7 x8 x10 x11 x12 x13 else bif x0==(1:Int)then mQ x1 x2 x3 x7 x10 x12 else nz x4 x5 x6 x7 x8 x9 x14 x15
def cQ:Int:=bif x0==(0:Int)then pL x1 x7 x8 x10 x11 x12 x13 else bif x0==(1:Int)then mR x1 x2 x3 x7 x8 x10 x12 else nA x4 x5 x6 x8 x9 x14 x15
def cR:Int:=bif x0==(0:Int)then pM x1 x7 x8 x9 x10 x11 x12 x13 else bif x0==(1:Int)then mS x1 x2 x3 x7 x9 x10 x12 else nB x4 x5 x6 x8 x9 x14 x15
def cS:List Int:=bif x0==(0:Int)then pN x1 x7 x8 x10 x11 x12 x13 else bif x0==(1:Int)then mT x1 x2 x3 x7 x10 x12 else nC x4 x5 x6 x8 x9 x10 x14 x15
def cT:List (Int×(Int×Int)):=bif x0==(0:Int)then pO x1 x7 x8 x10 x11 x12 x13 else bif x0==(1:Int)then mU x1 x2 x3 x7 x10 x11 x12 else nD x4 x5 x6 x8 x9 x11 x14 x15
def cU:List (List Int):=bif x0==(0:Int)then x12 else bif x0==(1:Int)then mV x1 x2 x3 x7 x10 x12 else nE x4 x5 x6 x8 x9 x12 x14 x15
def cV:List (Int×(Int×Int)):=bif x0==(0:Int)then pP x1 x7 x8 x10 x11 x12 x13 else bif x0==(1:Int)then mW x1 x2 x3 x7 x10 x12 x13 else nF x4 x5 x6 x8 x9 x13 x14 x15
def cW:List (Int×Int):=bif x0==(0:Int)then pQ x1 x7 x8 x10 x11 x12 x13 x14 else bif x0==(1:Int)then mX x1 x2 x3 x7 x10 x12 x14 else nG x4 x5 x6 x8 x9 x14 x15
def cX:List (Int×Int):=bif x0==(0:Int)then pR x1 x7 x8 x10 x11 x12 x13 x15 else bif x0==(1:Int)then mY x1 x2 x3 x7 x10 x12 x15 else nH x4 x5 x6 x8 x9 x14 x15
def ec:Bool:=allT [!x0==(0:Int)||kv x1 x7 x8 x10 x11 x12 x13,x0==(0:Int)||(!x0==(1:Int)||l5 x1 x2 x3 x7 x10 x12),x0==(0:Int)||(x0==(1:Int)||mO x4 x5 x6 x8 x9 x14 x15)]
end
def yc:List SV→List Entry→Option Out
 | [.one ⟨false,[.ptr 0 0]⟩,.one ⟨true,[.val (.int .i64 x0),.val (.int .i64 x1),.val (.int .i64 x2),.val (.int .i64 x3),.val (.int .i64 x4),.val (.int .i64 x5),.val (.bool x6)]⟩],[.box 33 [.val (.int .i64 x7),.ref 1,.ref 2,.ref 3,.ref 4,.val (.int .i64 x8),.ref 5,.ref 6,.val (.int .i64 x9)],.row true 2 (.int .i64) x10,.row true 169 (.pair (.int .i64) (.pair (.int .i64) (.int .i64))) x11,.tree 24 (.sl 2 (.int .i64)) x12 none,.row true 100 (.pair (.int .i64) (.pair (.int .i64) (.int .i64))) x13,.row true 173 (.pair (.int .i64) (.int .i64)) x14,.row true 176 (.pair (.int .i64) (.int .i64)) x15]=>some ⟨(.one ⟨false,[(.val (.int .i64 (cO x0 x1 x2 x3 x4 x5 x6 x7 x8 x9 x10 x11 x12 x13 x14 x15)))]⟩),[(.box 33 [(.val (.int .i64 (cP x0 x1 x2 x3 x4 x5 x6 x7 x8 x9 x10 x11 x12 x13 x14 x15))),(.ref 7),(.ref 8),(.ref 9),(.ref 10),(.val (.int .i64 (cQ x0 x1 x2 x3 x4 x5 x6 x7 x8 x9 x10 x11 x12 x13 x14 x15))),(.ref 11),(.ref 12),(.val (.int .i64 (cR x0 x1 x2 x3 x4 x5 x6 x7 x8 x9 x10 x11 x12 x13 x14 x15)))]),.gone,.gone,.gone,.gone,.gone,.gone],[(.row true 2 asZ (cS x0 x1 x2 x3 x4 x5 x6 x7 x8 x9 x10 x11 x12 x13 x14 x15)),(.row true 169 asX (cT x0 x1 x2 x3 x4 x5 x6 x7 x8 x9 x10 x11 x12 x13 x14 x15)),(.tree 24 (CTy.sl (2:TypeId) asZ) (cU x0 x1 x2 x3 x4 x5 x6 x7 x8 x9 x10 x12 x14 x15) none),(.row true 100 asX (cV x0 x1 x2 x3 x4 x5 x6 x7 x8 x9 x10 x11 x12 x13 x14 x15)),(.row true 173 asY (cW x0 x1 x2 x3 x4 x5 x6 x7 x8 x9 x10 x11 x12 x13 x14 x15)),(.row true 176 asY (cX x0 x1 x2 x3 x4 x5 x6 x7 x8 x9 x10 x11 x12 x13 x14 x15))],[(ec x0 x1 x2 x3 x4 x5 x6 x7 x8 x9 x10 x11 x12 x13 x14 x15)]⟩
 |_,_=>none
def eS:PF Tryz.prog:=PF.ofG Tryz.prog [PF.trees Tryz.prog,zh,PF.lendT zh,m0,PF.lend m0,PF.fz m0,nN,PF.lend nN,PF.fz nN] [] ar 56 Tryz.f56 Tryz.func56 (fun c _=>LOk.nil c) yc (by
 intro vs es r h;unfold yc at h;split at h
 ·cases h;kernel_rfl
 ·cases h)
abbrev kQ:=Int×Int×List (Int×(Int×((Int×Int)×(Int×(Int×Bool)))))×List Int×Int×Int×Int×List Int×List (Int×(Int×Int))×List (List Int)×List (Int×(Int×Int))×List (Int×Int)×List (Int×Int)
def uW(y0:Int)(y2:List (Int×(Int×((Int×Int)×(Int×(Int×Bool)))))):Int×Int×(Int×Int)×Int×Int×Bool:=Option.getD y2[Int.toNat y0]? ((0:Int),(0:Int),((0:Int),(0:Int)),(0:Int),(0:Int),false)
def dy(y0:Int)(y2:List (Int×(Int×((Int×Int)×(Int×(Int×Bool)))))):Int:=(uW y0 y2).1
def uX(y0:Int)(y2:List (Int×(Int×((Int×Int)×(Int×(Int×Bool)))))):Int×(Int×Int)×Int×Int×Bool:=(uW y0 y2).2
def dz(y0:Int)(y2:List (Int×(Int×((Int×Int)×(Int×(Int×Bool)))))):Int:=(uX y0 y2).1
def ov(y0:Int)(y2:List (Int×(Int×((Int×Int)×(Int×(Int×Bool)))))):(Int×Int)×Int×Int×Bool:=(uX y0 y2).2
def dA(y0:Int)(y2:List (Int×(Int×((Int×Int)×(Int×(Int×Bool)))))):Int:=(ov y0 y2).1.1
def dB(y0:Int)(y2:List (Int×(Int×((Int×Int)×(Int×(Int×Bool)))))):Int:=(ov y0 y2).1.2
def dC(y0:Int)(y2:List (Int×(Int×((Int×Int)×(Int×(Int×Bool)))))):Int:=((ov y0 y2).2).1
def aP(y0:Int)(y2:List (Int×(Int×((Int×Int)×(Int×(Int×Bool)))))):Int×Bool:=(ov y0 y2).2.2
def ry(y0:Int)(y2:List (Int×(Int×((Int×Int)×(Int×(Int×Bool))))))(y4 y5 y6:Int)(y7:List Int)(y8:List (Int×(Int×Int)))(y9:List (List Int))(y10:List (Int×(Int×Int)))(y11 y12:List (Int×Int)):List Int:= [cO (dy y0 y2) (dz y0 y2) (dA y0 y2) (dB y0 y2) (dC y0 y2) ((aP y0 y2).1) ((aP y0 y2).2) y4 y5 y6 y7 y8 y9 y10 y11 y12]
def CA(y0 y1:Int):Bool:=ltI y0 y1
def CB(y0:Int):Bool:=leI (0:Int) y0
def CC(y0:Int)(y2:List (Int×(Int×((Int×Int)×(Int×(Int×Bool)))))):Bool:=ltI y0 (↑y2.length:Int)
def CD(y0:Int)(y2:List (Int×(Int×((Int×Int)×(Int×(Int×Bool)))))):Bool:=ltN y0.toNat y2.length
def CE(y0:Int)(y2:List (Int×(Int×((Int×Int)×(Int×(Int×Bool))))))(y4 y5 y6:Int)(y7:List Int)(y8:List (Int×(Int×Int)))(y9:List (List Int))(y10:List (Int×(Int×Int)))(y11 y12:List (Int×Int)):Bool:=ec (dy y0 y2) (dz y0 y2) (dA y0 y2) (dB y0 y2) (dC y0 y2) ((aP y0 y2).1) ((aP y0 y2).2) y4 y5 y6 y7 y8 y9 y10 y11 y12
def CF(y0:Int)(y2:List (Int×(Int×((Int×Int)×(Int×(Int×Bool))))))(y3:List Int)(y4 y5 y6:Int)(y7:List Int)(y8:List (Int×(Int×Int)))(y9:List (List Int))(y10:List (Int×(Int×Int)))(y11 y12:List (Int×Int)):Bool:=leN (List.length y3 + List.length (ry y0 y2 y4 y5 y6 y7 y8 y9 y10 y11 y12)) (9223372036854775807:Nat)
def CG(y0:Int)(y2:List (Int×(Int×((Int×Int)×(Int×(Int×Bool))))))(y3:List Int)(y4 y5 y6:Int)(y7:List Int)(y8:List (Int×(Int×Int)))(y9:List (List Int))(y10:List (Int×(Int×Int)))(y11 y12:List (Int×Int)):Bool:=leN ((List.length y3 + List.length (ry y0 y2 y4 y5 y6 y7 y8 y9 y10 y11 y12)) * (8:Nat)) (140737488355328:Nat)
def CH(y0:Int):Int:=IntKind.wrap .i64 (y0 + (1:Int))
def CI(y0:Int)(y2:List (Int×(Int×((Int×Int)×(Int×(Int×Bool))))))(y3:List Int)(y4 y5 y6:Int)(y7:List Int)(y8:List (Int×(Int×Int)))(y9:List (List Int))(y10:List (Int×(Int×Int)))(y11 y12:List (Int×Int)):List Int:=y3++ry y0 y2 y4 y5 y6 y7 y8 y9 y10 y11 y12
def CJ(y0:Int)(y2:List (Int×(Int×((Int×Int)×(Int×(Int×Bool))))))(y4 y5 y6:Int)(y7:List Int)(y8:List (Int×(Int×Int)))(y9:List (List Int))(y10:List (Int×(Int×Int)))(y11 y12:List (Int×Int)):Int:=cP (dy y0 y2) (dz y0 y2) (dA y0 y2) (dB y0 y2) (dC y0 y2) ((aP y0 y2).1) ((aP y0 y2).2) y4 y5 y6 y7 y8 y9 y10 y11 y12
def Am(y0:Int)(y2:List (Int×(Int×((Int×Int)×(Int×(Int×Bool))))))(y4 y5 y6:Int)(y7:List Int)(y8:List (Int×(Int×Int)))(y9:List (List Int))(y10:List (Int×(Int×Int)))(y11 y12:List (Int×Int)):Int:=cQ (dy y0 y2) (dz y0 y2) (dA y0 y2) (dB y0 y2) (dC y0 y2) ((aP y0 y2).1) ((aP y0 y2).2) y4 y5 y6 y7 y8 y9 y10 y11 y12
def An(y0:Int)(y2:List (Int×(Int×((Int×Int)×(Int×(Int×Bool))))))(y4 y5 y6:Int)(y7:List Int)(y8:List (Int×(Int×Int)))(y9:List (List Int))(y10:List (Int×(Int×Int)))(y11 y12:List (Int×Int)):Int:=cR (dy y0 y2) (dz y0 y2) (dA y0 y2) (dB y0 y2) (dC y0 y2) ((aP y0 y2).1) ((aP y0 y2).2) y4 y5 y6 y7 y8 y9 y10 y11 y12
def Ao(y0:Int)(y2:List (Int×(Int×((Int×Int)×(Int×(Int×Bool))))))(y4 y5 y6:Int)(y7:List Int)(y8:List (Int×(Int×Int)))(y9:List (List Int))(y10:List (Int×(Int×Int)))(y11 y12:List (Int×Int)):List Int:=cS (dy y0 y2) (dz y0 y2) (dA y0 y2) (dB y0 y2) (dC y0 y2) ((aP y0 y2).1) ((aP y0 y2).2) y4 y5 y6 y7 y8 y9 y10 y11 y12
def Ap(y0:Int)(y2:List (Int×(Int×((Int×Int)×(Int×(Int×Bool))))))(y4 y5 y6:Int)(y7:List Int)(y8:List (Int×(Int×Int)))(y9:List (List Int))(y10:List (Int×(Int×Int)))(y11 y12:List (Int×Int)):List (Int×(Int×Int)):=cT (dy y0 y2) (dz y0 y2) (dA y0 y2) (dB y0 y2) (dC y0 y2) ((aP y0 y2).1) ((aP y0 y2).2) y4 y5 y6 y7 y8 y9 y10 y11 y12
def Aq(y0:Int)(y2:List (Int×(Int×((Int×Int)×(Int×(Int×Bool))))))(y4 y5 y6:Int)(y7:List Int)(y9:List (List Int))(y11 y12:List (Int×Int)):List (List Int):=cU (dy y0 y2) (dz y0 y2) (dA y0 y2) (dB y0 y2) (dC y0 y2) ((aP y0 y2).1) ((aP y0 y2).2) y4 y5 y6 y7 y9 y11 y12
def Ar(y0:Int)(y2:List (Int×(Int×((Int×Int)×(Int×(Int×Bool))))))(y4 y5 y6:Int)(y7:List Int)(y8:List (Int×(Int×Int)))(y9:List (List Int))(y10:List (Int×(Int×Int)))(y11 y12:List (Int×Int)):List (Int×(Int×Int)):=cV (dy y0 y2) (dz y0 y2) (dA y0 y2) (dB y0 y2) (dC y0 y2) ((aP y0 y2).1) ((aP y0 y2).2) y4 y5 y6 y7 y8 y9 y10 y11 y12
def As(y0:Int)(y2:List (Int×(Int×((Int×Int)×(Int×(Int×Bool))))))(y4 y5 y6:Int)(y7:List Int)(y8:List (Int×(Int×Int)))(y9:List (List Int))(y10:List (Int×(Int×Int)))(y11 y12:List (Int×Int)):List (Int×Int):=cW (dy y0 y2) (dz y0 y2) (dA y0 y2) (dB y0 y2) (dC y0 y2) ((aP y0 y2).1) ((aP y0 y2).2) y4 y5 y6 y7 y8 y9 y10 y11 y12
def At(y0:Int)(y2:List (Int×(Int×((Int×Int)×(Int×(Int×Bool))))))(y4 y5 y6:Int)(y7:List Int)(y8:List (Int×(Int×Int)))(y9:List (List Int))(y10:List (Int×(Int×Int)))(y11 y12:List (Int×Int)):List (Int×Int):=cX (dy y0 y2) (dz y0 y2) (dA y0 y2) (dB y0 y2) (dC y0 y2) ((aP y0 y2).1) ((aP y0 y2).2) y4 y5 y6 y7 y8 y9 y10 y11 y12
def afh:kQ→List (Nat×SV)
 |(y0,y1,_,_,_,_,_,_,_,_,_,_,_)=> [(23,(.one ⟨false,[(.val (.int .i64 y0))]⟩)),(22,(.one ⟨false,[(.val (.int .i64 y1))]⟩)),(21,(.one ⟨false,[(.ref 0)]⟩)),(9,(.one ⟨false,[(.ref 1)]⟩)),(8,(.one ⟨false,[(.ptr 2 0)]⟩))]
def afa:kQ→List (Nat×Entry)
 |(_,_,y2,y3,y4,y5,y6,y7,y8,y9,y10,y11,y12)=> [(0,(.row false 49 asW y2)),(2,(.box 33 [(.val (.int .i64 y4)),(.ref 3),(.ref 4),(.ref 5),(.ref 6),(.val (.int .i64 y5)),(.ref 7),(.ref 8),(.val (.int .i64 y6))])),(1,(.row true 2 asZ y3)),(3,(.row true 2 asZ y7)),(4,(.row true 169 asX y8)),(5,(.tree 24 (CTy.sl (2:Nat) asZ) y9 none)),(6,(.row true 100 asX y10)),(7,(.row true 173 asY y11)),(8,(.row true 176 asY y12))]
def afv:Nat→kQ→List (Nat×SV)
 |_,(_,_,_,_,_,_,_,_,_,_,_,_,_)=> [(9,(.one ⟨false,[(.ref 1)]⟩))]
def afo:Nat→kQ→List (Nat×Entry)
 |_,(_,_,y2,y3,y4,y5,y6,y7,y8,y9,y10,y11,y12)=> [(0,(.row false 49 asW y2)),(1,(.row true 2 asZ y3)),(2,(.box 33 [(.val (.int .i64 y4)),(.ref 3),(.ref 4),(.ref 5),(.ref 6),(.val (.int .i64 y5)),(.ref 7),(.ref 8),(.val (.int .i64 y6))])),(3,(.row true 2 asZ y7)),(4,(.row true 169 asX y8)),(5,(.tree 24 (CTy.sl (2:Nat) asZ) y9 none)),(6,(.row true 100 asX y10)),(7,(.row true 173 asY y11)),(8,(.row true 176 asY y12))]
def Bp:kQ→LT kQ
 |(y0,y1,y2,y3,y4,y5,y6,y7,y8,y9,y10,y11,y12)=> .ite (CA y0 y1) (.need [(CB y0),(CC y0 y2),(CD y0 y2)] (.need [(CE y0 y2 y4 y5 y6 y7 y8 y9 y10 y11 y12),(CF y0 y2 y3 y4 y5 y6 y7 y8 y9 y10 y11 y12),(CG y0 y2 y3 y4 y5 y6 y7 y8 y9 y10 y11 y12)] (.nrm ((CH y0),y1,y2,(CI y0 y2 y3 y4 y5 y6 y7 y8 y9 y10 y11 y12),(CJ y0 y2 y4 y5 y6 y7 y8 y9 y10 y11 y12),(Am y0 y2 y4 y5 y6 y7 y8 y9 y10 y11 y12),(An y0 y2 y4 y5 y6 y7 y8 y9 y10 y11 y12),(Ao y0 y2 y4 y5 y6 y7 y8 y9 y10 y11 y12),(Ap y0 y2 y4 y5 y6 y7 y8 y9 y10 y11 y12),(Aq y0 y2 y4 y5 y6 y7 y9 y11 y12),(Ar y0 y2 y4 y5 y6 y7 y8 y9 y10 y11 y12),(As y0 y2 y4 y5 y6 y7 y8 y9 y10 y11 y12),(At y0 y2 y4 y5 y6 y7 y8 y9 y10 y11 y12)) [(0,0),(1,640),(2,2),(3,512),(4,513),(5,514),(6,515),(7,516),(8,517)]))) (.ext 0 [(0,0),(1,1),(2,2),(3,3),(4,4),(5,5),(6,6),(7,7),(8,8)])
def MD(s:St):Option kQ:=
 (match s.look 23 with
 |some ⟨none,(.one ⟨false,[(.val (.int .i64 y0))]⟩)⟩=>
 (match s.look 22 with
 |some ⟨none,(.one ⟨false,[(.val (.int .i64 y1))]⟩)⟩=>
 (match s.look 21 with
 |some ⟨none,(.one ⟨false,[(.ref 6)]⟩)⟩=>
 (match s.look 9 with
 |some ⟨none,(.one ⟨false,[(.ref 1408)]⟩)⟩=>
 (match s.look 8 with
 |some ⟨none,(.one ⟨false,[(.ptr 1280 0)]⟩)⟩=>
 (match s.ent 6 with
 |some (.row false 49 (.pair (.int .i64) (.pair (.int .i64) (.pair (.pair (.int .i64) (.int .i64)) (.pair (.int .i64) (.pair (.int .i64) .bool))))) y2)=>
 (match s.ent 1280 with
 |some (.box 33 [(.val (.int .i64 y4)),(.ref 1216),(.ref 1217),(.ref 1218),(.ref 1219),(.val (.int .i64 y5)),(.ref 1220),(.ref 1221),(.val (.int .i64 y6))])=>
 (match s.ent 1408 with
 |some (.row true 2 (.int .i64) y3)=>
 (match s.ent 1216 with
 |some (.row true 2 (.int .i64) y7)=>
 (match s.ent 1217 with
 |some (.row true 169 (.pair (.int .i64) (.pair (.int .i64) (.int .i64))) y8)=>
 (match s.ent 1218 with
 |some (.tree 24 (.sl 2 (.int .i64)) y9 none)=>
 (match s.ent 1219 with
 |some (.row true 100 (.pair (.int .i64) (.pair (.int .i64) (.int .i64))) y10)=>
 (match s.ent 1220 with
 |some (.row true 173 (.pair (.int .i64) (.int .i64)) y11)=>
 (match s.ent 1221 with
 |some (.row true 176 (.pair (.int .i64) (.int .i64)) y12)=>
 some (y0,y1,y2,y3,y4,y5,y6,y7,y8,y9,y10,y11,y12)
 |_=>none)
 |_=>none)
 |_=>none)
 |_=>none)
 |_=>none)
 |_=>none)
 |_=>none)
 |_=>none)
 |_=>none)
 |_=>none)
 |_=>none)
 |_=>none)
 |_=>none)
 |_=>none)
def dD:Lp kQ where
 h:=⟨[24,25,26,11,27,28,29,30,31,9,32,23],[0,2],[1,3,4,5,6,7,8],[]⟩
 JL:=afh
 JE:=afa
 XL:=afv
 XE:=afo
 q:=fun j=>match j with | _=> .exit 0
 tags:= [0]
 lt:=Bp
 fuel:=fun(y0,y1,y2,y3,y4,y5,y6,y7,y8,y9,y10,y11,y12)=>y0.natAbs + y1.natAbs + y2.length + y3.length + y4.natAbs + y5.natAbs + y6.natAbs + y7.length + y8.length + y9.length + y10.length + y11.length + y12.length
 fix:=fun(_,y1,y2,_,_,_,_,_,_,_,_,_,_) (y0,_,_,y3,y4,y5,y6,y7,y8,y9,y10,y11,y12)=>(y0,y1,y2,y3,y4,y5,y6,y7,y8,y9,y10,y11,y12)
 σ:= [(0,6),(2,1280),(1,1408),(3,1216),(4,1217),(5,1218),(6,1219),(7,1220),(8,1221)]
 rd:=MD
theorem acR:LoopOk Tryz.prog (fun k=>Nat.blt k Tryz.f12.ntmps) dD.F (ay Tryz.f12 0):=by
 refine Lp.ok (tbl:= [PF.trees Tryz.prog,zV,PF.lend zV,PF.fz zV,ed,PF.lend ed,PF.fz ed,eS,PF.lend eS,PF.fz eS]) (lf:= []) ar dD (by kernel_rfl) (LOk.nil _) (fun _=>rfl) (fun _ _=>rfl) ?_ ?_ ?_ ?_ (fun _=>rfl) ?_
 ·intro x;obtain⟨y0,y1,y2,y3,y4,y5,y6,y7,y8,y9,y10,y11,y12⟩:=x;kernel_rfl
 ·intro x;obtain⟨y0,y1,y2,y3,y4,y5,y6,y7,y8,y9,y10,y11,y12⟩:=x;kernel_rfl
 ·intro s x h
  have h:MD s=some x:=h
  unfold MD at h
  repeat' split at h
  all_goals cases h
  exact⟨aa (by assumption) rfl (aa (by assumption) rfl (aa (by assumption) rfl (aa (by assumption) rfl (aa (by assumption) rfl (rfl))))),ac rfl (by assumption) rfl (ac rfl (by assumption) rfl (ac rfl (by assumption) rfl (ac rfl (by assumption) rfl (ac rfl (by assumption) rfl (ac rfl (by assumption) rfl (ac rfl (by assumption) rfl (ac rfl (by assumption) rfl (ac rfl (by assumption) rfl (rfl)))))))))⟩
 ·intro x;obtain⟨y0,y1,y2,y3,y4,y5,y6,y7,y8,y9,y10,y11,y12⟩:=x;kernel_rfl
 ·intro x z;obtain⟨y0,y1,y2,y3,y4,y5,y6,y7,y8,y9,y10,y11,y12⟩:=x;exact(And.intro rfl trivial)
section
variable (x0 x1 x2:Int)(x3:List Int)(x4:List (Int×Int×Int))(x5:List (List Int))(x6:List (Int×Int×Int))(x7 x8:List (Int×Int))(x9:List (Int×Int×(Int×Int)×Int×Int×Bool))
def gP:Bool:=u4 x0 x1 x2 x3 x4 x5 x6 x7 x8 x9 !=(0:Int)
def Cv:Int×Int×List (Int×Int×(Int×Int)×Int×Int×Bool)×List Int×Int×Int×Int×List Int×List (Int×Int×Int)×List (List Int)×List (Int×Int×Int)×List (Int×Int)×List (Int×Int):=((0:Int),(↑x9.length:Int),x9,[],x0,x1,x2,x3,x4,j8 x0 x1 x2 x3 x4 x5 x6 x7 x8,x6,x7,x8)
def RM:List Int×Int×Int×Int×List Int×List (Int×Int×Int)×List (List Int)×List (Int×Int×Int)×List (Int×Int)×List (Int×Int):=(Lp.res dD (Cv x0 x1 x2 x3 x4 x5 x6 x7 x8 x9)).2.2.2.2
def RN:Int×Int×Int×List Int×List (Int×Int×Int)×List (List Int)×List (Int×Int×Int)×List (Int×Int)×List (Int×Int):=(RM x0 x1 x2 x3 x4 x5 x6 x7 x8 x9).2
def RO:Int×Int×List Int×List (Int×Int×Int)×List (List Int)×List (Int×Int×Int)×List (Int×Int)×List (Int×Int):=(RN x0 x1 x2 x3 x4 x5 x6 x7 x8 x9).2
def RP:Int×List Int×List (Int×Int×Int)×List (List Int)×List (Int×Int×Int)×List (Int×Int)×List (Int×Int):=(RO x0 x1 x2 x3 x4 x5 x6 x7 x8 x9).2
def RQ:List Int×List (Int×Int×Int)×List (List Int)×List (Int×Int×Int)×List (Int×Int)×List (Int×Int):=(RP x0 x1 x2 x3 x4 x5 x6 x7 x8 x9).2
def RR:List (Int×Int×Int)×List (List Int)×List (Int×Int×Int)×List (Int×Int)×List (Int×Int):=(RQ x0 x1 x2 x3 x4 x5 x6 x7 x8 x9).2
def RT:List (List Int)×List (Int×Int×Int)×List (Int×Int)×List (Int×Int):=(RR x0 x1 x2 x3 x4 x5 x6 x7 x8 x9).2
def RU:List (Int×Int×Int)×List (Int×Int)×List (Int×Int):=(RT x0 x1 x2 x3 x4 x5 x6 x7 x8 x9).2
def PN:List (Int×Int)×List (Int×Int):=(RU x0 x1 x2 x3 x4 x5 x6 x7 x8 x9).2
def Jk:Int:=bif gP x0 x1 x2 x3 x4 x5 x6 x7 x8 x9 then(0:Int)else (RN x0 x1 x2 x3 x4 x5 x6 x7 x8 x9).1
def Jl:Int:=bif gP x0 x1 x2 x3 x4 x5 x6 x7 x8 x9 then(0:Int)else (RO x0 x1 x2 x3 x4 x5 x6 x7 x8 x9).1
def Jm:Int:=bif gP x0 x1 x2 x3 x4 x5 x6 x7 x8 x9 then(0:Int)else (RP x0 x1 x2 x3 x4 x5 x6 x7 x8 x9).1
def Jn:Int:=bif gP x0 x1 x2 x3 x4 x5 x6 x7 x8 x9 then u4 x0 x1 x2 x3 x4 x5 x6 x7 x8 x9 else(0:Int)
def Jo:List Int:=bif gP x0 x1 x2 x3 x4 x5 x6 x7 x8 x9 then []else (RQ x0 x1 x2 x3 x4 x5 x6 x7 x8 x9).1
def Jp:List (Int×(Int×Int)):=bif gP x0 x1 x2 x3 x4 x5 x6 x7 x8 x9 then []else (RR x0 x1 x2 x3 x4 x5 x6 x7 x8 x9).1
def Jq:List (List Int):=bif gP x0 x1 x2 x3 x4 x5 x6 x7 x8 x9 then []else (RT x0 x1 x2 x3 x4 x5 x6 x7 x8 x9).1
def Jr:List (Int×(Int×Int)):=bif gP x0 x1 x2 x3 x4 x5 x6 x7 x8 x9 then []else (RU x0 x1 x2 x3 x4 x5 x6 x7 x8 x9).1
def Js:List (Int×Int):=bif gP x0 x1 x2 x3 x4 x5 x6 x7 x8 x9 then []else (PN x0 x1 x2 x3 x4 x5 x6 x7 x8 x9).1
def Jt:List (Int×Int):=bif gP x0 x1 x2 x3 x4 x5 x6 x7 x8 x9 then []else (PN x0 x1 x2 x3 x4 x5 x6 x7 x8 x9).2
def Hb:List Int:=bif gP x0 x1 x2 x3 x4 x5 x6 x7 x8 x9 then []else (RM x0 x1 x2 x3 x4 x5 x6 x7 x8 x9).1
def Hc:Bool:=allT [zJ x0 x1 x2 x3 x4 x5 x6 x7 x8 x9,gP x0 x1 x2 x3 x4 x5 x6 x7 x8 x9||j9 x0 x1 x2 x3 x4 x5 x6 x7 x8,gP x0 x1 x2 x3 x4 x5 x6 x7 x8 x9||Lp.fin dD (Cv x0 x1 x2 x3 x4 x5 x6 x7 x8 x9)]
end
def abm:List SV→List Entry→Option Out
 | [.one ⟨true,[.val (.int .i64 x0),.ref 0,.ref 1,.ref 2,.ref 3,.val (.int .i64 x1),.ref 4,.ref 5,.val (.int .i64 x2)]⟩,.one ⟨false,[.ref 6]⟩],[.row false 2 (.int .i64) x3,.row false 169 (.pair (.int .i64) (.pair (.int .i64) (.int .i64))) x4,.row false 24 (.sl 2 (.int .i64)) x5,.row false 100 (.pair (.int .i64) (.pair (.int .i64) (.int .i64))) x6,.row false 173 (.pair (.int .i64) (.int .i64)) x7,.row false 176 (.pair (.int .i64) (.int .i64)) x8,.row false 49 (.pair (.int .i64) (.pair (.int .i64) (.pair (.pair (.int .i64) (.int .i64)) (.pair (.int .i64) (.pair (.int .i64) (.bool)))))) x9]=>some ⟨(.tup [⟨true,[(.val (.int .i64 (Jk x0 x1 x2 x3 x4 x5 x6 x7 x8 x9))),(.ref 7),(.ref 8),(.ref 9),(.ref 10),(.val (.int .i64 (Jl x0 x1 x2 x3 x4 x5 x6 x7 x8 x9))),(.ref 11),(.ref 12),(.val (.int .i64 (Jm x0 x1 x2 x3 x4 x5 x6 x7 x8 x9)))]⟩,⟨false,[(.ref 13)]⟩,⟨false,[(.val (.int .i64 (Jn x0 x1 x2 x3 x4 x5 x6 x7 x8 x9)))]⟩]),[(.row false 2 asZ x3),(.row false 169 asX x4),(.row false 24 (CTy.sl (2:TypeId) asZ) x5),(.row false 100 asX x6),(.row false 173 asY x7),(.row false 176 asY x8),(.row false 49 asW x9)],[(.row true 2 asZ (Jo x0 x1 x2 x3 x4 x5 x6 x7 x8 x9)),(.row true 169 asX (Jp x0 x1 x2 x3 x4 x5 x6 x7 x8 x9)),(.tree 24 (CTy.sl (2:Nat) asZ) (Jq x0 x1 x2 x3 x4 x5 x6 x7 x8 x9) none),(.row true 100 asX (Jr x0 x1 x2 x3 x4 x5 x6 x7 x8 x9)),(.row true 173 asY (Js x0 x1 x2 x3 x4 x5 x6 x7 x8 x9)),(.row true 176 asY (Jt x0 x1 x2 x3 x4 x5 x6 x7 x8 x9)),(.row true 2 asZ (Hb x0 x1 x2 x3 x4 x5 x6 x7 x8 x9))],[(Hc x0 x1 x2 x3 x4 x5 x6 x7 x8 x9)]⟩
 |_,_=>none
def Uh:PF Tryz.prog:=PF.ofG Tryz.prog [PF.trees Tryz.prog,zV,PF.lend zV,PF.fz zV,ed,PF.lend ed,PF.fz ed,eS,PF.lend eS,PF.fz eS] [dD.F] ar 12 Tryz.f12 Tryz.func12 (LOk.fnT (l:= [ay Tryz.f12 0]) (by kernel_rfl) (.cons acR (.nil _))) abm (by
 intro vs es r h;unfold abm at h;split at h
 ·cases h;kernel_rfl
 ·cases h)
section
variable (x0 x1 x2 x3 x4 x5 x6 x7 x8:Int)(x9:Bool)(x10:List Int)(x11:List (Int×Int×Int))(x12:List (List Int))(x13:List (Int×Int×Int))(x14 x15:List (Int×Int))
def gz:List (Int×Int×(Int×Int)×Int×Int×Bool):= [(x3,x4,(x5,x6),x7,x8,x9)]
def Kk:Int:=Jn x0 x1 x2 x10 x11 x12 x13 x14 x15 (gz x3 x4 x5 x6 x7 x8 x9)
def eN:Bool:=Kk x0 x1 x2 x3 x4 x5 x6 x7 x8 x9 x10 x11 x12 x13 x14 x15 !=(0:Int)
def Fc:List Int:=Hb x0 x1 x2 x10 x11 x12 x13 x14 x15 (gz x3 x4 x5 x6 x7 x8 x9)
def Lx:Int:=bif eN x0 x1 x2 x3 x4 x5 x6 x7 x8 x9 x10 x11 x12 x13 x14 x15 then(0:Int)else Jk x0 x1 x2 x10 x11 x12 x13 x14 x15 (gz x3 x4 x5 x6 x7 x8 x9)
def Ly:Int:=bif eN x0 x1 x2 x3 x4 x5 x6 x7 x8 x9 x10 x11 x12 x13 x14 x15 then(0:Int)else Jl x0 x1 x2 x10 x11 x12 x13 x14 x15 (gz x3 x4 x5 x6 x7 x8 x9)
def Lz:Int:=bif eN x0 x1 x2 x3 x4 x5 x6 x7 x8 x9 x10 x11 x12 x13 x14 x15 then(0:Int)else Jm x0 x1 x2 x10 x11 x12 x13 x14 x15 (gz x3 x4 x5 x6 x7 x8 x9)
def LA:Int:=bif eN x0 x1 x2 x3 x4 x5 x6 x7 x8 x9 x10 x11 x12 x13 x14 x15 then(0:Int)else Option.getD (Fc x0 x1 x2 x3 x4 x5 x6 x7 x8 x9 x10 x11 x12 x13 x14 x15)[Int.toNat (0:Int)]? (0:Int)
def LB:Int:=bif eN x0 x1 x2 x3 x4 x5 x6 x7 x8 x9 x10 x11 x12 x13 x14 x15 then Kk x0 x1 x2 x3 x4 x5 x6 x7 x8 x9 x10 x11 x12 x13 x14 x15 else(0:Int)
def LC:List Int:=bif eN x0 x1 x2 x3 x4 x5 x6 x7 x8 x9 x10 x11 x12 x13 x14 x15 then []else Jo x0 x1 x2 x10 x11 x12 x13 x14 x15 (gz x3 x4 x5 x6 x7 x8 x9)
def LD:List (Int×(Int×Int)):=bif eN x0 x1 x2 x3 x4 x5 x6 x7 x8 x9 x10 x11 x12 x13 x14 x15 then []else Jp x0 x1 x2 x10 x11 x12 x13 x14 x15 (gz x3 x4 x5 x6 x7 x8 x9)
def LE:List (List Int):=bif eN x0 x1 x2 x3 x4 x5 x6 x7 x8 x9 x10 x11 x12 x13 x14 x15 then []else Jq x0 x1 x2 x10 x11 x12 x13 x14 x15 (gz x3 x4 x5 x6 x7 x8 x9)
def LF:List (Int×(Int×Int)):=bif eN x0 x1 x2 x3 x4 x5 x6 x7 x8 x9 x10 x11 x12 x13 x14 x15 then []else Jr x0 x1 x2 x10 x11 x12 x13 x14 x15 (gz x3 x4 x5 x6 x7 x8 x9)
def LG:List (Int×Int):=bif eN x0 x1 x2 x3 x4 x5 x6 x7 x8 x9 x10 x11 x12 x13 x14 x15 then []else Js x0 x1 x2 x10 x11 x12 x13 x14 x15 (gz x3 x4 x5 x6 x7 x8 x9)
def Ki:List (Int×Int):=bif eN x0 x1 x2 x3 x4 x5 x6 x7 x8 x9 x10 x11 x12 x13 x14 x15 then []else Jt x0 x1 x2 x10 x11 x12 x13 x14 x15 (gz x3 x4 x5 x6 x7 x8 x9)
def Kj:Bool:=allT [Hc x0 x1 x2 x10 x11 x12 x13 x14 x15 (gz x3 x4 x5 x6 x7 x8 x9),eN x0 x1 x2 x3 x4 x5 x6 x7 x8 x9 x10 x11 x12 x13 x14 x15||leI (0:Int) (0:Int),eN x0 x1 x2 x3 x4 x5 x6 x7 x8 x9 x10 x11 x12 x13 x14 x15||ltI (0:Int) (↑(List.length (Fc x0 x1 x2 x3 x4 x5 x6 x7 x8 x9 x10 x11 x12 x13 x14 x15)):Int),eN x0 x1 x2 x3 x4 x5 x6 x7 x8 x9 x10 x11 x12 x13 x14 x15||ltN (Int.toNat (0:Int)) (List.length (Fc x0 x1 x2 x3 x4 x5 x6 x7 x8 x9 x10 x11 x12 x13 x14 x15))]
end
def ZU:List SV→List Entry→Option Out
 | [.one ⟨true,[.val (.int .i64 x0),.ref 0,.ref 1,.ref 2,.ref 3,.val (.int .i64 x1),.ref 4,.ref 5,.val (.int .i64 x2)]⟩,.one ⟨true,[.val (.int .i64 x3),.val (.int .i64 x4),.val (.int .i64 x5),.val (.int .i64 x6),.val (.int .i64 x7),.val (.int .i64 x8),.val (.bool x9)]⟩],[.row false 2 (.int .i64) x10,.row false 169 (.pair (.int .i64) (.pair (.int .i64) (.int .i64))) x11,.row false 24 (.sl 2 (.int .i64)) x12,.row false 100 (.pair (.int .i64) (.pair (.int .i64) (.int .i64))) x13,.row false 173 (.pair (.int .i64) (.int .i64)) x14,.row false 176 (.pair (.int .i64) (.int .i64)) x15]=>some ⟨(.tup [⟨true,[(.val (.int .i64 (Lx x0 x1 x2 x3 x4 x5 x6 x7 x8 x9 x10 x11 x12 x13 x14 x15))),(.ref 6),(.ref 7),(.ref 8),(.ref 9),(.val (.int .i64 (Ly x0 x1 x2 x3 x4 x5 x6 x7 x8 x9 x10 x11 x12 x13 x14 x15))),(.ref 10),(.ref 11),(.val (.int .i64 (Lz x0 x1 x2 x3 x4 x5 x6 x7 x8 x9 x10 x11 x12 x13 x14 x15)))]⟩,⟨false,[(.val (.int .i64 (LA x0 x1 x2 x3 x4 x5 x6 x7 x8 x9 x10 x11 x12 x13 x14 x15)))]⟩,⟨false,[(.val (.int .i64 (LB x0 x1 x2 x3 x4 x5 x6 x7 x8 x9 x10 x11 x12 x13 x14 x15)))]⟩]),[(.row false 2 asZ x10),(.row false 169 asX x11),(.row false 24 (CTy.sl (2:TypeId) asZ) x12),(.row false 100 asX x13),(.row false 173 asY x14),(.row false 176 asY x15)],[(.row true 2 asZ (LC x0 x1 x2 x3 x4 x5 x6 x7 x8 x9 x10 x11 x12 x13 x14 x15)),(.row true 169 asX (LD x0 x1 x2 x3 x4 x5 x6 x7 x8 x9 x10 x11 x12 x13 x14 x15)),(.tree 24 (CTy.sl (2:Nat) asZ) (LE x0 x1 x2 x3 x4 x5 x6 x7 x8 x9 x10 x11 x12 x13 x14 x15) none),(.row true 100 asX (LF x0 x1 x2 x3 x4 x5 x6 x7 x8 x9 x10 x11 x12 x13 x14 x15)),(.row true 173 asY (LG x0 x1 x2 x3 x4 x5 x6 x7 x8 x9 x10 x11 x12 x13 x14 x15)),(.row true 176 asY (Ki x0 x1 x2 x3 x4 x5 x6 x7 x8 x9 x10 x11 x12 x13 x14 x15))],[(Kj x0 x1 x2 x3 x4 x5 x6 x7 x8 x9 x10 x11 x12 x13 x14 x15)]⟩
 |_,_=>none
def ajw:PF Tryz.prog:=PF.ofG Tryz.prog [PF.trees Tryz.prog,Uh,PF.lend Uh,PF.fz Uh] [] ar 18 Tryz.f18 Tryz.func18 (fun c _=>LOk.nil c) ZU (by
 intro vs es r h;unfold ZU at h;split at h
 ·cases h;kernel_rfl
 ·cases h)
section
variable (x3 x4 x5 x6 x7 x8:Int)(x9:Bool)(x10:List Int)(x12:List (List Int))
def nJ:Bool:=bif x5==(0:Int)then bif x6==(0:Int)then true else false else false
def nK:Bool:=bif x7==(0:Int)then bif x8==(0:Int)then bif x9==false then true else false else false else false
def wo:Bool:=bif x3==(0:Int)then bif bif KA x10 x4 then nJ x5 x6 else false then nK x7 x8 x9 else false else bif x3==(1:Int)then bif bif KA x10 x4 then rsB (cN (bif KA x10 x4&&true then Option.getD x12[Int.toNat (0:Int)]? (uq (CTy.sl (2:TypeId) asZ))else [])) x5 x6 else false then nK x7 x8 x9 else false else bif x3==(2:Int)then bif bif x4==(0:Int)then nJ x5 x6 else false then agN x7 x8 else false else false
def wq:Bool:=allT [!x3==(0:Int)||leN x10.length (9223372036854775807:Nat),x3==(0:Int)||(!x3==(1:Int)||leN x10.length (9223372036854775807:Nat)),x3==(0:Int)||(!x3==(1:Int)||(!(KA x10 x4&&true)||leI (0:Int) (0:Int))),x3==(0:Int)||(!x3==(1:Int)||(!(KA x10 x4&&true)||ltI (0:Int) (↑x12.length:Int))),x3==(0:Int)||(!x3==(1:Int)||(!(KA x10 x4&&true)||ltN (Int.toNat (0:Int)) x12.length))]
end
end Go.SX

namespace Go.SX
open Go.Proofs
set_option maxRecDepth 100000
abbrev LI:=List Int
abbrev L3:=List (Int×Int×Int)
abbrev L2:=List (Int×Int)
def uV(b:List Int):(List (List Int))→Nat ⊕ (List (List Int))
 |y4=>(.inr (y4++ [(b)]))
def qd(y1 y2 y3:Int)(y5:List Int)(y6:List (Int×(Int×Int)))(y7:List (List Int))(y8:List (Int×(Int×Int)))(y9 y10:List (Int×Int))(i:Nat):(List (List Int))→mj
 |y4=>((i:Int),y1,y2,y3,y4,y5,y6,y7,y8,y9,y10)
def On:mj→List (List Int)
 |(_,_,_,_,y4,_,_,_,_,_,_)=>y4
theorem aiP(y1 y2 y3:Int)(y5:List Int)(y6:List (Int×(Int×Int)))(y7:List (List Int))(y8:List (Int×(Int×Int)))(y9 y10:List (Int×Int))(y4:List (List Int))(hn:y7.length≤9223372036854775807)(hl:y7.length≤4)(hA: ∀ x∈y7,x.length≤12)(h0:y4= []):
  fO.fin ((0:Int),y1,y2,y3,y4,y5,y6,y7,y8,y9,y10)=true∧fO.res ((0:Int),y1,y2,y3,y4,y5,y6,y7,y8,y9,y10)=((ag (uV) 0 y7 0 y4).1,(qd y1 y2 y3 y5 y6 y7 y8 y9 y10) (ag (uV) 0 y7 0 y4).2.1 (ag (uV) 0 y7 0 y4).2.2):=by
 have key:=fO.along (qd y1 y2 y3 y5 y6 y7 y8 y9 y10) On (uV) 0 (fun i a=>a.length≤i) y7 y4 (by subst h0;simp) (by simp only [fO,qd];omega) (fun i b a hb hI=> ?_) (fun a hI=> ?_)
 ·exact key
 ·obtain y4:=a
  have hlt:=(List.getElem?_eq_some_iff.1 hb).1
  have hget: ∀ d,Option.getD y7[i]? d=b:=fun d=>by rw [hb];rfl
  have hw:=py hlt hn
  have hdec:ltI (i:Int) (y7.length:Int)=true:=ce (by omega)
  have hnn:leI (0:Int) (i:Int)=true:=bH (by omega)
  have hltd:ltN i y7.length=true:=cM hlt
  refine⟨?_,?_,?_,?_⟩
  ·have hb2:=hA b (List.mem_of_getElem? hb)
   have h5:leN b.length 1048576=true:=gx (by omega)
   have h6:leN (a.length + 1) 9223372036854775807=true:=gx (by omega)
   have h7:leN ((a.length + 1) * 24) 140737488355328=true:=gx (by omega)
   simp [qa,Ah,FX,FY,FZ,Ga,Gb,Gc,Gd,Dz,fO,LT.nds,allT,qd,hdec,hnn,hltd,Gz,hget,h5,h6,h7]
  ·simp [qa,Ah,FX,FY,FZ,Ga,Gb,Gc,Gd,Dz,fO,LT.each,qd,On,hw,Gz,hget]
  ·simp only [qa,Ah,FX,FY,FZ,Ga,Gb,Gc,Gd,Dz,fO,LT.fn,qd,On,uV,Int.toNat_natCast,hdec,hnn,hltd,hget,cond_true,Bool.cond_self,Gz,hget]
  ·intro a' hf;simp only [uV,Sum.inr.injEq]at hf;subst hf;simp;omega
 ·obtain y4:=a
  simp [qa,Ah,FX,FY,FZ,Ga,Gb,Gc,Gd,Dz,fO,LT.out,qd]
def ar0(ps:LI)(fs:L3)(rs:List LI)(lf:L3)(pl ls:L2):Prop:=ps.length≤4∧1≤ps.length∧fs.length≤100∧rs.length≤4∧(∀ x∈rs,1≤x.length∧x.length≤12)∧lf.length≤100∧pl.length≤10000∧ls.length≤10000
theorem apb(n mode day:Int){ps:LI}{fs:L3}{rs:List LI}{lf:L3}{pl ls:L2}(h:ar0 ps fs rs lf pl ls):
  mw n mode day ps fs rs lf pl ls=rs∧QW n mode day ps fs rs lf pl ls=true:=by
 obtain⟨h1,_,h2,h3,h4,h5,h6,h7⟩:=h
 obtain⟨w1,w2⟩:=aiP n mode day ps fs rs lf pl ls [] (by omega) h3 (fun x hx=>(h4 x hx).2) rfl
 rw [iA (f:=uV) (g:=fun a b=>a++ [b]) (fun b a=>rfl),Tk (fun x=>x)]at w2
 refine⟨by simp only [mw,OO,w2,qd,List.nil_append,List.map_id'],?_⟩
 have w3:Lp.fin fO (OO n mode day ps fs rs lf pl ls)=true:=w1
 have e1:leN ps.length 1048576=true:=gx (by omega)
 have e2:leN (0 + fs.length) 9223372036854775807=true:=gx (by omega)
 have e3:leN ((0 + fs.length) * 24) 140737488355328=true:=gx (by omega)
 have e4:leN (0 + lf.length) 9223372036854775807=true:=gx (by omega)
 have e5:leN ((0 + lf.length) * 24) 140737488355328=true:=gx (by omega)
 have e6:leN (0 + pl.length) 9223372036854775807=true:=gx (by omega)
 have e7:leN ((0 + pl.length) * 16) 140737488355328=true:=gx (by omega)
 have e8:leN (0 + ls.length) 9223372036854775807=true:=gx (by omega)
 have e9:leN ((0 + ls.length) * 16) 140737488355328=true:=gx (by omega)
 simp only [QW,w3,e1,e2,e3,e4,e5,e6,e7,e8,e9,allT,cond_true]
def bO(b:List Int):(List (List Int))→Nat ⊕ (List (List Int))
 |y8=>(.inr (y8++ [(b)]))
def bn(y2:List (List Int))(y3 y4 y5:Int)(y6:List Int)(y7 y9:List (Int×(Int×Int)))(y10 y11:List (Int×Int))(i:Nat):(List (List Int))→aR
 |y8=>((i:Int),(↑y2.length:Int),y2,y3,y4,y5,y6,y7,y8,y9,y10,y11)
def mc:aR→List (List Int)
 |(_,_,_,_,_,_,_,_,y8,_,_,_)=>y8
theorem Is(y2:List (List Int))(y3 y4 y5:Int)(y6:List Int)(y7 y9:List (Int×(Int×Int)))(y10 y11:List (Int×Int))(y8:List (List Int))(hn:y2.length≤9223372036854775807)(hl:y2.length≤4)(hA: ∀ x∈y2,1≤x.length∧x.length≤12)(h0:y8= []):
  aq.fin ((0:Int),(↑y2.length:Int),y2,y3,y4,y5,y6,y7,y8,y9,y10,y11)=true∧aq.res ((0:Int),(↑y2.length:Int),y2,y3,y4,y5,y6,y7,y8,y9,y10,y11)=((ag (bO) 0 y2 0 y8).1,(bn y2 y3 y4 y5 y6 y7 y9 y10 y11) (ag (bO) 0 y2 0 y8).2.1 (ag (bO) 0 y2 0 y8).2.2):=by
 have key:=aq.along (bn y2 y3 y4 y5 y6 y7 y9 y10 y11) mc (bO) 0 (fun i a=>a.length≤i) y2 y8 (by subst h0;simp) (by simp only [aq,bn];omega) (fun i b a hb hI=> ?_) (fun a hI=> ?_)
 ·exact key
 ·obtain y8:=a
  have hlt:=(List.getElem?_eq_some_iff.1 hb).1
  have hget: ∀ d,Option.getD y2[i]? d=b:=fun d=>by rw [hb];rfl
  have hw:=py hlt hn
  have hdec:ltI (i:Int) (y2.length:Int)=true:=ce (by omega)
  have hnn:leI (0:Int) (i:Int)=true:=bH (by omega)
  have hltd:ltN i y2.length=true:=cM hlt
  refine⟨?_,?_,?_,?_⟩
  ·have hb2:=hA b (List.mem_of_getElem? hb)
   have h5:leN b.length 1048576=true:=gx (by omega)
   have h4:leN 1 b.length=true:=gx (by omega)
   have h6:leN (a.length + 1) 9223372036854775807=true:=gx (by omega)
   have h7:leN ((a.length + 1) * 24) 140737488355328=true:=gx (by omega)
   simp [aZ,fl,fm,fo,fq,ft,fu,fv,fw,fy,eU,aq,LT.nds,allT,bn,hdec,hnn,hltd,Gz,hget,h4,h5,h6,h7]
  ·simp [aZ,fl,fm,fo,fq,ft,fu,fv,fw,fy,eU,aq,LT.each,bn,mc,hw,Gz,hget]
  ·simp only [aZ,fl,fm,fo,fq,ft,fu,fv,fw,fy,eU,aq,LT.fn,bn,mc,bO,Int.toNat_natCast,hdec,hnn,hltd,hget,cond_true,Bool.cond_self,Gz,hget]
  ·intro a' hf;simp only [bO,Sum.inr.injEq]at hf;subst hf;simp;omega
 ·obtain y8:=a
  simp [aZ,fl,fm,fo,fq,ft,fu,fv,fw,fy,eU,aq,LT.out,bn]
theorem amq(n mode day:Int){ps:LI}{fs:L3}{rs:List LI}{lf:L3}{pl ls:L2}(h:ar0 ps fs rs lf pl ls):
  j8 n mode day ps fs rs lf pl ls=rs∧j9 n mode day ps fs rs lf pl ls=true:=by
 obtain⟨h1,h1',h2,h3,h4,h5,h6,h7⟩:=h
 obtain⟨w1,w2⟩:=Is rs n mode day ps fs lf pl ls [] (by omega) h3 h4 rfl
 rw [iA (f:=bO) (g:=fun a b=>a++ [b]) (fun b a=>rfl),Tk (fun x=>x)]at w2
 refine⟨by simp only [j8,jx,w2,bn,List.nil_append,List.map_id'],?_⟩
 have w3:Lp.fin aq (jx n mode day ps fs rs lf pl ls)=true:=w1
 have e0:leN 1 ps.length=true:=gx (by omega)
 have e1:leN ps.length 1048576=true:=gx (by omega)
 have e2:leN fs.length 1048576=true:=gx (by omega)
 have e3:leN lf.length 1048576=true:=gx (by omega)
 have e4:leN pl.length 1048576=true:=gx (by omega)
 have e5:leN ls.length 1048576=true:=gx (by omega)
 simp [j9,w3,fA,e0,e1,e2,e3,e4,e5,allT]
abbrev RX:=Int×Int×(Int×Int)×Int×Int×Bool
def aau(ps:LI)(rs:List LI)(k t rk row ck role:Int)(key:Bool):Bool:=bif k==0 then KA ps t&&((rk==0&&row==0)&&(ck==0&&(role==0&&key==false)))else bif k==1 then(KA ps t&&rsB (rowsR rs) rk row)&&(ck==0&&(role==0&&key==false))else bif k==2 then(t==0&&(rk==0&&row==0))&&agN ck role else false
theorem aqR{ls:L2}(h:okLk ls=true):ls.length≤8:=by
 simp only [okLk,Bool.and_eq_true,cu]at h;exact h.1
structure RideF (n mode day:Int) (ps:LI) (fs:L3) (rs:List LI) (lf:L3) (pl ls:L2):Prop where
 hT:isT n ps=true
 hF:okFs n fs=true
 hl:rs.length=ps.length
 hR:rsOk rs=true
 hL:lfOk (rowsR rs) lf=true
 hM:0≤mode∧mode≤5
 hP:okPl pl=true
 hK:okLk ls=true
 hD:inR day 0 100000=true
 n1:2≤n∧n≤8
 lp:1≤ps.length∧ps.length≤4
 lfs:fs.length≤8
 llf:lf.length≤8
 lpl:pl.length≤12
 lls:ls.length≤8
 hA: ∀ x∈rs,areR x=true∧(x.length:Int)=rowsR rs
theorem amJ{n mode day:Int}{ps:LI}{fs:L3}{rs:List LI}{lf:L3}{pl ls:L2}(h:pS n ps fs rs lf mode pl ls day=true):RideF n mode day ps fs rs lf pl ls:=by
 obtain⟨h1,h2,h3,h4,h5,h6,h7,h8,h9⟩:=aoT.1 h
 have h1':=h1
 simp only [isT,Bool.and_eq_true,rh]at h1'
 refine⟨h1,h2,h3,h4,h5,rh.1 h6,h7,h8,h9,h1'.1.1,by omega,anC h2,aqM h5,aku h7,aqR h8,fun x hx=> ?_⟩
 simp only [rsOk,List.all_eq_true,Bool.and_eq_true,beq_iff_eq]at h4
 exact h4 x hx
theorem RideF.cp{n mode day:Int}{ps:LI}{fs:L3}{rs:List LI}{lf:L3}{pl ls:L2}(h:RideF n mode day ps fs rs lf pl ls):ar0 ps fs rs lf pl ls:=by
 have:=h.lp;have:=h.lfs;have:=h.llf;have:=h.lpl;have:=h.lls;have:=h.hl
 refine⟨by omega,by omega,by omega,by omega,fun x hx=> ?_,by omega,by omega,by omega⟩
 have:=(EW.1 (h.hA x hx).1).1
 omega
theorem apP{rs:List LI}{ps:LI}(hl:rs.length=ps.length)(hp:1≤ps.length∧ps.length≤4)(t:Int):aI t 0 (IntKind.i64.wrap ((rs.length:Int) - 1))=KA ps t:=by
 rw [aI,ui,hl,aA (by omega) (by omega),KA]
theorem an1(rs:List LI):xm rs=rowsR rs:=by
 simp only [xm,Gz];rfl
theorem aqb(n mode day k t rk row ck role:Int)(key:Bool)(ps:LI)(fs:L3)(rs:List LI)(lf:L3)(pl ls:L2)(hN:p8 9223372036854775807 ps fs rs lf pl ls=true):
  DD n mode day k t rk row ck role key ps fs rs lf pl ls=(pS n ps fs rs lf mode pl ls day&&aau ps rs k t rk row ck role key)∧
  DE n mode day k t ps fs rs lf pl ls=true:=by
 cases hO:pS n ps fs rs lf mode pl ls day with
 |false=>simp [DD,DE,hO,hN,allT]
 |true=>
  have f:=amJ hO
  have hw:=apP f.hl f.lp t
  have n1:ltI 0 (rs.length:Int)=true:=ce (by have:=f.hl;have:=f.lp;omega)
  have n2:ltN 0 rs.length=true:=cM (by have:=f.hl;have:=f.lp;omega)
  refine⟨?_,?_⟩
  ·simp only [DD,GQ,MP,MQ,hO,hw,an1,aau,beq_self_eq_true,Bool.not_true,cond_false,cond_true,Bool.true_and]
   cases k==0 <;> cases k==1 <;> cases k==2 <;> cases KA ps t <;> cases rk==0 <;> cases row==0 <;> cases ck==0 <;> cases role==0 <;> cases key <;> cases t==0 <;> simp
  ·simp [DE,xo,hO,hN,allT,n1,n2]
theorem apV{n mode day:Int}(k t rk row ck role:Int)(key:Bool){ps:LI}{fs:L3}{rs:List LI}{lf:L3}{pl ls:L2}(f:RideF n mode day ps fs rs lf pl ls):
  wo k t rk row ck role key ps rs=aau ps rs k t rk row ck role key∧wq k t ps rs=true:=by
 have n1:ltI 0 (rs.length:Int)=true:=ce (by have:=f.hl;have:=f.lp;omega)
 have n2:ltN 0 rs.length=true:=cM (by have:=f.hl;have:=f.lp;omega)
 have n3:leN ps.length 9223372036854775807=true:=gx (by have:=f.lp;omega)
 refine⟨?_,?_⟩
 ·simp only [wo,nJ,nK,aau,cN,Gz,Bool.and_true]
  cases hh:KA ps t with
  |false=>cases k==0 <;> cases k==1 <;> cases k==2 <;> cases rk==0 <;> cases row==0 <;> cases ck==0 <;> cases role==0 <;> cases key <;> cases t==0 <;> simp
  |true=>
   simp only [cond_true,Int.toNat_zero,show ((rs[0]?.getD []).length:Int)=rowsR rs from rfl]
   cases k==0 <;> cases k==1 <;> cases k==2 <;> cases rk==0 <;> cases row==0 <;> cases ck==0 <;> cases role==0 <;> cases key <;> cases t==0 <;> simp
 ·simp [wq,allT,n1,n2,n3]
theorem akc{n mode day:Int}(k t rk row ck role:Int)(key:Bool){ps:LI}{fs:L3}{rs:List LI}{lf:L3}{pl ls:L2}(f:RideF n mode day ps fs rs lf pl ls):
  kH k t rk row ck role key ps rs=aau ps rs k t rk row ck role key∧kI k t ps rs=true:=
 apV k t rk row ck role key f
def QK(n t:Int)(ps:LI):Bool:=de n t ps
theorem ajM(n t:Int)(ps:LI):ad n t ps=QK n t ps:=rfl
def ajf(n mode:Int)(ps:LI)(fs:L3)(rs:List LI)(lf:L3)(t:Int):Int:=bif !(Int.tmod (ps[t.toNat]?.getD 0) 3==1)then 0 else bif mode !=3 then 1 else bif !ae7 n ps (Eu n ps fs 0) (Eu n ps fs 1) t then 2 else bif QK n t ps&& !WJ (rs[t.toNat]?.getD []) lf then 3 else 0
theorem RideF.rd{n mode day:Int}{ps:LI}{fs:L3}{rs:List LI}{lf:L3}{pl ls:L2}(f:RideF n mode day ps fs rs lf pl ls){t:Int}(ht:KA ps t=true):
  aho (rs[t.toNat]?.getD []) lf=true∧areR (rs[t.toNat]?.getD [])=true∧((rs[t.toNat]?.getD []).length:Int)=rowsR rs:=by
 have h:=XZ.1 ht
 have hlt:t.toNat < rs.length:=by have:=f.hl;omega
 rw [List.getElem?_eq_getElem hlt,Option.getD_some]
 obtain⟨h1,h2⟩:=f.hA _ (List.getElem_mem hlt)
 refine⟨?_,h1,h2⟩
 rw [aho,h1,h2,f.hL];rfl
theorem RideF.tn{n mode day:Int}{ps:LI}{fs:L3}{rs:List LI}{lf:L3}{pl ls:L2}(f:RideF n mode day ps fs rs lf pl ls){t:Int}(ht:KA ps t=true):
  leI 0 t=true∧ltI t (ps.length:Int)=true∧ltN t.toNat ps.length=true∧ltI t (rs.length:Int)=true∧ltN t.toNat rs.length=true:=by
 have h:=XZ.1 ht
 have:=f.hl
 exact⟨bH h.1,ce (by omega),cM (by omega),ce (by omega),cM (by omega)⟩
theorem RideF.perm{n mode day:Int}{ps:LI}{fs:L3}{rs:List LI}{lf:L3}{pl ls:L2}(f:RideF n mode day ps fs rs lf pl ls){t:Int}(ht:KA ps t=true):
  ah1 n fs=true∧WI n ps (Eu n ps fs 0) (Eu n ps fs 1) t=true:=by
 have hF:=arq f.n1 f.hF
 exact⟨hF,by rw [WI,Yw,f.hT,ht,am3 n ps fs 0 f.hT hF,am3 n ps fs 1 f.hT hF];rfl⟩
theorem apa{n mode day:Int}{ps:LI}{fs:L3}{rs:List LI}{lf:L3}{pl ls:L2}(f:RideF n mode day ps fs rs lf pl ls){t:Int}(ht:KA ps t=true):
  FW n mode t ps fs rs lf=ajf n mode ps fs rs lf t∧ON n mode t ps fs rs lf=true:=by
 obtain⟨t1,t2,t3,t4,t5⟩:=f.tn ht
 obtain⟨p1,p2⟩:=f.perm ht
 have hrd:=(f.rd ht).1
 refine⟨?_,?_⟩
 ·simp only [FW,rp,Sq,Me,Gz,ajf,QK,bne]
  cases de n t ps <;> rfl
 ·simp only [ON,Me,Gz,Ai,t1,t2,t3,t4,t5,p1,p2,hrd,f.hT,allT,Bool.or_true,Bool.and_self,cond_true]
theorem aoK{n mode day:Int}{ps:LI}{fs:L3}{rs:List LI}{lf:L3}{pl ls:L2}(f:RideF n mode day ps fs rs lf pl ls){t:Int}(ht:KA ps t=true):
  ku t n mode ps fs rs lf=ajf n mode ps fs rs lf t∧kv t n mode ps fs rs lf=true:=by
 obtain⟨t1,t2,t3,t4,t5⟩:=f.tn ht
 obtain⟨p1,p2⟩:=f.perm ht
 have hrd:=(f.rd ht).1
 have e1:bA t ps=true:=by simp only [bA,t1,t2,t3,allT,cond_true]
 refine⟨?_,?_⟩
 ·simp only [ku,ae,al,gA,aD,Gz,ajf,ajM]
  cases QK n t ps <;> rfl
 ·have hm:Yw n ps t=true:=by rw [Yw,f.hT,ht];rfl
  cases hs:QK n t ps <;>
  simp only [kv,nI,gA,aD,ajM,hs,Gz,e1,t1,t2,t3,t4,t5,p1,p2,hrd,hm,f.hT,allT,Bool.or_true,Bool.and_self,cond_true,cond_false,Bool.not_false,Bool.not_true,Bool.false_and,Bool.true_and,Bool.true_or,Bool.false_or]
end Go.SX

namespace Go.SX
open Go.Proofs
set_option maxRecDepth 100000
def stV(n mode day:Int)(ps:LI)(fs:L3)(rs:List LI)(lf:L3)(pl ls:L2)(k t rk row ck role:Int)(key:Bool):Int:=bif k==0 then ajf n mode ps fs rs lf t else bif k==1 then(bif !QK n t ps then 4 else bif !kj (rs[t.toNat]?.getD []) rk row then 5 else 0)else bif vdC mode ck role key !=0 then 6 else bif ck==1&& !ah9 pl ls day then 7 else 0
def stP(n mode:Int)(ps:LI)(fs:L3)(rs:List LI)(lf:L3)(k t:Int):LI:=bif k==0&&ajf n mode ps fs rs lf t==0 then aib n ps t else ps
def stR(n:Int)(ps:LI)(rs:List LI)(k t rk row:Int):List LI:=bif !(k==0)&&(k==1&&(QK n t ps&&kj (rs[t.toNat]?.getD []) rk row))then rs.set t.toNat (OZ (rs[t.toNat]?.getD []) rk row)else rs
def stM(mode day:Int)(pl ls:L2)(k ck role:Int)(key:Bool):Int:=bif k==0||(k==1||(vdC mode ck role key !=0||(ck==1&& !ah9 pl ls day)))then mode else nxC mode ck role key
theorem Zo{ps:LI}{rs:List LI}{k t rk row ck role:Int}{key:Bool}(h:aau ps rs k t rk row ck role key=true):
  (k=0∧KA ps t=true)∨(k=1∧KA ps t=true∧rsB (rowsR rs) rk row=true)∨(k=2∧agN ck role=true):=by
 simp only [aau]at h
 cases h0:k==0 with
 |true=>rw [h0]at h;simp at h;exact .inl ⟨beq_iff_eq.1 h0,h.1⟩
 |false=>
  cases h1:k==1 with
  |true=>rw [h0,h1]at h;simp at h;exact .inr (.inl ⟨beq_iff_eq.1 h1,h.1.1,h.1.2⟩)
  |false=>
   cases h2:k==2 with
   |true=>rw [h0,h1,h2]at h;simp at h;exact .inr (.inr ⟨beq_iff_eq.1 h2,h.2⟩)
   |false=>rw [h0,h1,h2]at h;cases h
theorem akQ{α:Type}(b:Bool)(x:α):(bif b then x else x)=x:=by cases b <;> rfl
theorem an2{n mode day:Int}{ps:LI}{fs:L3}{rs:List LI}{lf:L3}{pl ls:L2}(f:RideF n mode day ps fs rs lf pl ls){k t rk row ck role:Int}{key:Bool}(h:aau ps rs k t rk row ck role key=true):
  OP n mode day k t rk row ck role key ps fs rs lf pl ls=n∧OQ n mode day k t rk row ck role key ps fs rs lf pl ls=stM mode day pl ls k ck role key∧
  OR n mode day k t rk row ck role key ps fs rs lf pl ls=day∧OS n mode day k t rk row ck role key ps fs rs lf pl ls=stV n mode day ps fs rs lf pl ls k t rk row ck role key∧
  OT n mode day k t rk row ck role key ps fs rs lf pl ls=stP n mode ps fs rs lf k t∧OU n mode day k t rk row ck role key ps fs rs lf pl ls=fs∧
  OV n mode day k t rk row ck role key ps fs rs lf pl ls=stR n ps rs k t rk row∧OW n mode day k t rk row ck role key ps fs rs lf pl ls=lf∧
  OX n mode day k t rk row ck role key ps fs rs lf pl ls=pl∧OY n mode day k t rk row ck role key ps fs rs lf pl ls=ls∧
  Mf n mode day k t rk row ck role key ps fs rs lf pl ls=true:=by
 obtain⟨o1,o2⟩:=apb n mode day f.cp
 simp only [kz,gk,jv,kA,OP,OQ,OR,OS,OT,OU,OV,OW,OX,OY,Mf,o1,o2,Gz,stM,stV,stP,stR]
 rcases Zo h with⟨rfl,ht⟩ | ⟨rfl,ht,hr⟩ | ⟨rfl,hc⟩
 ·obtain⟨m1,m2⟩:=apa f ht
  have hm:Yw n ps t=true:=by rw [Yw,f.hT,ht];rfl
  simp [m1,m2,hm,allT]
 ·obtain⟨t1,t2,t3,t4,t5⟩:=f.tn ht
  obtain⟨_,r1,r2⟩:=f.rd ht
  have hrn:ahs (rs[t.toNat]?.getD []) rk row=true:=by rw [ahs,r1,r2,hr];rfl
  have e1:Ai t ps=true:=by simp only [Ai,t1,t2,t3,allT,cond_true]
  simp only [show ∀ x y,de x y ps=QK x y ps from fun _ _=>rfl]
  cases QK n t ps <;> cases kj (rs[t.toNat]?.getD []) rk row <;> simp [t1,t2,t3,t4,t5,hrn,e1,allT]
 ·have hv:abj mode ck=true:=by
   have:=f.hM
   simp only [agN,Bool.and_eq_true]at hc
   rw [abj,hc.1,rh.2 (by omega)];rfl
  have l1:pl.length≤9223372036854775807:=by have:=f.lpl;omega
  have l2:ls.length≤9223372036854775807:=by have:=f.lls;omega
  cases vdC mode ck role key !=0 <;> cases ck==1 <;> cases ah9 pl ls day <;> simp [hv,l1,l2,allT]
theorem aqY(rs:List LI)(i:Nat)(h:i < rs.length):rs.set i (rs[i]?.getD [])=rs:=by
 rw [List.getElem?_eq_getElem h,Option.getD_some];exact List.set_getElem_self h
theorem Zl{n mode day:Int}{ps:LI}{fs:L3}{rs:List LI}{lf:L3}{pl ls:L2}(f:RideF n mode day ps fs rs lf pl ls){k t rk row ck role:Int}{key:Bool}(h:aau ps rs k t rk row ck role key=true):
  cO k t rk row ck role key n mode day ps fs rs lf pl ls=stV n mode day ps fs rs lf pl ls k t rk row ck role key∧
  cP k t rk row ck role key n mode day ps fs rs lf pl ls=n∧cQ k t rk row ck role key n mode day ps fs rs lf pl ls=stM mode day pl ls k ck role key∧
  cR k t rk row ck role key n mode day ps fs rs lf pl ls=day∧cS k t rk row ck role key n mode day ps fs rs lf pl ls=stP n mode ps fs rs lf k t∧
  cT k t rk row ck role key n mode day ps fs rs lf pl ls=fs∧cU k t rk row ck role key n mode day ps rs pl ls=stR n ps rs k t rk row∧
  cV k t rk row ck role key n mode day ps fs rs lf pl ls=lf∧cW k t rk row ck role key n mode day ps fs rs lf pl ls=pl∧
  cX k t rk row ck role key n mode day ps fs rs lf pl ls=ls∧ec k t rk row ck role key n mode day ps fs rs lf pl ls=true:=by
 rcases Zo h with⟨rfl,ht⟩ | ⟨rfl,ht,hr⟩ | ⟨rfl,hc⟩
 ·obtain⟨m1,m2⟩:=aoK f ht
  refine⟨?_,?_,?_,?_,?_,?_,?_,?_,?_,?_,?_⟩
  ·simp [cO,m1,stV]
  ·simp [cP,pK,akQ]
  ·simp [cQ,pL,akQ,stM]
  ·simp [cR,pM,akQ]
  ·simp only [cS,pN,al,gA,aD,ae,Gz,ajM,stP,ajf]
   cases hs:QK n t ps <;> cases Int.tmod (ps[t.toNat]?.getD 0) 3==1 <;> cases mode !=3 <;> cases ae7 n ps (Eu n ps fs 0) (Eu n ps fs 1) t <;> cases hb:WJ (rs[t.toNat]?.getD []) lf <;> simp [hb]
  ·simp [cT,pO,akQ]
  ·simp [cU,stR]
  ·simp [cV,pP,pq,akQ]
  ·simp [cW,pQ,akQ]
  ·simp [cX,pR,akQ]
  ·simp [ec,m2,allT]
 ·obtain⟨t1,t2,t3,t4,t5⟩:=f.tn ht
  obtain⟨_,r1,r2⟩:=f.rd ht
  have hrn:ahs (rs[t.toNat]?.getD []) rk row=true:=by rw [ahs,r1,r2,hr];rfl
  have e1:bA t ps=true:=by simp only [bA,t1,t2,t3,allT,cond_true]
  have hset:=aqY rs t.toNat (by have:=amy.1 t5;omega)
  simp only [cO,cP,cQ,cR,cS,cT,cU,cV,cW,cX,ec,am,l6,mP,mQ,mR,mS,mT,mU,mV,mW,mX,mY,l5,Gz,ajM,stM,stV,stP,stR]
  cases QK n t ps <;> cases kj (rs[t.toNat]?.getD []) rk row <;> simp [t1,t2,t3,t4,t5,hrn,e1,hset,allT]
 ·have hv:abj mode ck=true:=by
   have:=f.hM
   simp only [agN,Bool.and_eq_true]at hc
   rw [abj,hc.1,rh.2 (by omega)];rfl
  have l1:pl.length≤9223372036854775807:=by have:=f.lpl;omega
  have l2:ls.length≤9223372036854775807:=by have:=f.lls;omega
  simp only [cO,cP,cQ,cR,cS,cT,cU,cV,cW,cX,ec,az,aC,da,ny,nz,nA,nB,nC,nD,nE,nF,nG,nH,mO,stM,stV,stP,stR]
  cases vdC mode ck role key !=0 <;> cases ck==1 <;> cases ah9 pl ls day <;> simp [hv,l1,l2,allT]
end Go.SX

namespace Go.SX
open Go.Proofs
set_option maxRecDepth 100000
theorem ahy(st:LI)(k row:Int):(OZ st k row).length=st.length:=by
 unfold OZ;cases k==0||k==1 <;> simp
theorem apc{st:LI}{k row:Int}(h:areR st=true)(hk:(k=0∨k=1)∨k=2∨k=3):areR (OZ st k row)=true:=by
 obtain⟨h1,h2⟩:=EW.1 h
 refine EW.2 ⟨by rw [ahy];exact h1,fun v hv=> ?_⟩
 unfold OZ at hv
 rcases hk with hk | rfl | rfl
 ·rw [show (k==0||k==1)=true from by rcases hk with rfl | rfl <;> rfl,cond_true]at hv
  rcases List.mem_or_eq_of_mem_set hv with hv | rfl
  ·exact h2 v hv
  ·omega
 ·simp at hv;omega
 ·simp at hv;omega
theorem ase{rs:List LI}{i:Nat}{v:LI}(h:rsOk rs=true)(hv:areR v=true)(hl:(v.length:Int)=rowsR rs)(hi:i < rs.length):rowsR (rs.set i v)=rowsR rs∧rsOk (rs.set i v)=true:=by
 have h1:rowsR (rs.set i v)=rowsR rs:=by
  unfold rowsR
  rw [List.getElem?_set]
  cases i with
  |zero=>rw [if_pos rfl,if_pos hi,Option.getD_some];exact hl
  |succ i=>simp
 refine⟨h1,?_⟩
 simp only [rsOk,List.all_eq_true,Bool.and_eq_true,beq_iff_eq]at h ⊢
 intro x hx
 rw [h1]
 rcases List.mem_or_eq_of_mem_set hx with hx | rfl
 ·exact h x hx
 ·exact⟨hv,hl⟩
theorem arP: ∀ a:Fin 10,0≤toC (a.val:Int)∧toC (a.val:Int)≤5:=by decide
theorem apd{n mode day:Int}{ps:LI}{fs:L3}{rs:List LI}{lf:L3}{pl ls:L2}(f:RideF n mode day ps fs rs lf pl ls){k t rk row ck role:Int}{key:Bool}(h:aau ps rs k t rk row ck role key=true):
  RideF n (stM mode day pl ls k ck role key) day (stP n mode ps fs rs lf k t) fs (stR n ps rs k t rk row) lf pl ls∧rowsR (stR n ps rs k t rk row)=rowsR rs∧(stP n mode ps fs rs lf k t).length=ps.length:=by
 have hp:isT n (stP n mode ps fs rs lf k t)=true∧(stP n mode ps fs rs lf k t).length=ps.length:=by
  unfold stP
  cases k==0&&ajf n mode ps fs rs lf t==0 with
  |true=>exact⟨arv f.hT t,ai8 n ps t⟩
  |false=>exact⟨f.hT,rfl⟩
 have hr:rsOk (stR n ps rs k t rk row)=true∧rowsR (stR n ps rs k t rk row)=rowsR rs∧(stR n ps rs k t rk row).length=rs.length:=by
  unfold stR
  cases hc: !(k==0)&&(k==1&&(QK n t ps&&kj (rs[t.toNat]?.getD []) rk row))with
  |false=>exact⟨f.hR,rfl,rfl⟩
  |true=>
   simp only [Bool.and_eq_true,beq_iff_eq]at hc
   rcases Zo h with⟨rfl,_⟩ | ⟨rfl,ht,hb⟩ | ⟨rfl,_⟩
   ·simp at hc
   ·obtain⟨_,r1,r2⟩:=f.rd ht
    have hrn:ahs (rs[t.toNat]?.getD []) rk row=true:=by rw [ahs,r1,r2,hb];rfl
    have hk:=(akM hrn).2.2
    have hi:t.toNat < rs.length:=amy.1 (f.tn ht).2.2.2.2
    obtain⟨q1,q2⟩:=ase (v:=OZ (rs[t.toNat]?.getD []) rk row) f.hR (apc r1 (by rcases hk with hk | hk;exact .inl hk.1;exact .inr hk.1)) (by rw [ahy];exact r2) hi
    exact⟨q2,q1,by simp⟩
   ·have:=hc.2.1;cases this
 have hm:0≤stM mode day pl ls k ck role key∧stM mode day pl ls k ck role key≤5:=by
  unfold stM
  cases hc:k==0||(k==1||(vdC mode ck role key !=0||(ck==1&& !ah9 pl ls day)))with
  |true=>exact f.hM
  |false=>
   rcases Zo h with⟨rfl,_⟩ | ⟨rfl,_,_⟩ | ⟨rfl,hcm⟩
   ·simp at hc
   ·simp at hc
   ·rw [cond_false,nxC]
    cases vdC mode ck role key==0 with
    |false=>exact f.hM
    |true=>
     simp only [agN,Bool.and_eq_true,rh]at hcm
     have:=arP ⟨ck.toNat,by omega⟩
     simp only [Int.toNat_of_nonneg hcm.1.1]at this
     exact this
 refine⟨⟨hp.1,f.hF,by rw [hr.2.2,hp.2];exact f.hl,hr.1,by rw [hr.2.1];exact f.hL,hm,f.hP,f.hK,f.hD,f.n1,by rw [hp.2];exact f.lp,f.lfs,f.llf,f.lpl,f.lls,fun x hx=> ?_⟩,hr.2.1,hp.2⟩
 have h4:=hr.1
 simp only [rsOk,List.all_eq_true,Bool.and_eq_true,beq_iff_eq]at h4
 exact h4 x hx
end Go.SX

namespace Go.SX
open Go.Proofs
set_option maxRecDepth 100000
theorem aof{A B S:Type}{f:B→A→Nat ⊕ A}{g:S→B→S}{emb:S→A}{Inv:S→Prop}{e:Nat}: ∀ {r:List B} {i:Nat} {s:S},(∀ b∈r,∀ s,Inv s→f b (emb s)= .inr (emb (g s b))∧Inv (g s b))→Inv s→
  ag f e r i (emb s)=(e,i + r.length,emb (r.foldl g s))∧Inv (r.foldl g s)
 | [],i,s,_,h=>⟨rfl,h⟩
 |b::r,i,s,hf,h=>by
  obtain⟨h1,h2⟩:=hf b (by simp) s h
  obtain⟨g1,g2⟩:=aof (r:=r) (i:=i + 1) (s:=g s b) (e:=e) (fun c hc=>hf c (by simp [hc])) h2
  refine⟨?_,g2⟩
  simp only [ag,h1,g1,List.foldl_cons,List.length_cons]
  rw [Nat.add_right_comm,Nat.add_assoc]
abbrev RS:=Int×LI×List LI×LI×Int
def isX(ps:LI)(rs:List LI)(x:RX):Bool:=aau ps rs x.1 x.2.1 x.2.2.1.1 x.2.2.1.2 x.2.2.2.1 x.2.2.2.2.1 x.2.2.2.2.2
def vX(n day:Int)(fs lf:L3)(pl ls:L2)(s:RS)(x:RX):Int:=stV n s.1 day s.2.1 fs s.2.2.1 lf pl ls x.1 x.2.1 x.2.2.1.1 x.2.2.1.2 x.2.2.2.1 x.2.2.2.2.1 x.2.2.2.2.2
def stX(n day:Int)(fs lf:L3)(pl ls:L2)(s:RS)(x:RX):RS:=(stM s.1 day pl ls x.1 x.2.2.2.1 x.2.2.2.2.1 x.2.2.2.2.2,stP n s.1 s.2.1 fs s.2.2.1 lf x.1 x.2.1,stR n s.2.1 s.2.2.1 x.1 x.2.1 x.2.2.1.1 x.2.2.1.2,s.2.2.2.1++ [vX n day fs lf pl ls s x],bif x.1==0&&(vX n day fs lf pl ls s x==0&&QK n x.2.1 s.2.1)then IntKind.i64.wrap (s.2.2.2.2 + 1)else s.2.2.2.2)
theorem aqJ{ps ps':LI}{rs rs':List LI}(h1:ps'.length=ps.length)(h2:rowsR rs'=rowsR rs)(x:RX):isX ps' rs' x=isX ps rs x:=by
 simp only [isX,aau,KA,h1,h2]
def al6(n day:Int)(fs lf:L3)(pl ls:L2)(ps0:LI)(rs0:List LI)(i:Nat)(s:RS):Prop:=RideF n s.1 day s.2.1 fs s.2.2.1 lf pl ls∧s.2.1.length=ps0.length∧rowsR s.2.2.1=rowsR rs0∧s.2.2.2.1.length≤i
theorem YB{n day:Int}{fs lf:L3}{pl ls:L2}{ps0:LI}{rs0:List LI}{i:Nat}{s:RS}(hI:al6 n day fs lf pl ls ps0 rs0 i s){x:RX}(hx:isX ps0 rs0 x=true):
  isX s.2.1 s.2.2.1 x=true∧al6 n day fs lf pl ls ps0 rs0 (i + 1) (stX n day fs lf pl ls s x):=by
 obtain⟨f,h1,h2,h3⟩:=hI
 have hx':isX s.2.1 s.2.2.1 x=true:=by rw [aqJ h1 h2];exact hx
 obtain⟨k1,k2,k3⟩:=apd f hx'
 refine⟨hx',k1,by rw [← h1];exact k3,by rw [← h2];exact k2,?_⟩
 simp only [stX,List.length_append,List.length_cons,List.length_nil];omega
end Go.SX

namespace Go.SX
open Go.Proofs
set_option maxRecDepth 100000
def aj2(n day:Int)(fs lf:L3)(pl ls:L2)(s:RS):LI×Int×Int×Int×LI×L3×List LI×L3×L2×L2:=(s.2.2.2.1,n,s.1,day,s.2.1,fs,s.2.2.1,lf,pl,ls)
def kX(b:Int×(Int×((Int×Int)×(Int×(Int×Bool))))):(List Int×Int×Int×Int×List Int×List (Int×(Int×Int))×List (List Int)×List (Int×(Int×Int))×List (Int×Int)×List (Int×Int))→Nat ⊕ (List Int×Int×Int×Int×List Int×List (Int×(Int×Int))×List (List Int)×List (Int×(Int×Int))×List (Int×Int)×List (Int×Int))
 |(y3,y4,y5,y6,y7,y8,y9,y10,y11,y12)=>(.inr ((y3++([cO b.1 (b.2.1) (b.2.2.1.1) (b.2.2.1.2) (b.2.2.2.1) (b.2.2.2.2.1) b.2.2.2.2.2 y4 y5 y6 y7 y8 y9 y10 y11 y12])),(cP b.1 (b.2.1) (b.2.2.1.1) (b.2.2.1.2) (b.2.2.2.1) (b.2.2.2.2.1) b.2.2.2.2.2 y4 y5 y6 y7 y8 y9 y10 y11 y12),(cQ b.1 (b.2.1) (b.2.2.1.1) (b.2.2.1.2) (b.2.2.2.1) (b.2.2.2.2.1) b.2.2.2.2.2 y4 y5 y6 y7 y8 y9 y10 y11 y12),(cR b.1 (b.2.1) (b.2.2.1.1) (b.2.2.1.2) (b.2.2.2.1) (b.2.2.2.2.1) b.2.2.2.2.2 y4 y5 y6 y7 y8 y9 y10 y11 y12),(cS b.1 (b.2.1) (b.2.2.1.1) (b.2.2.1.2) (b.2.2.2.1) (b.2.2.2.2.1) b.2.2.2.2.2 y4 y5 y6 y7 y8 y9 y10 y11 y12),(cT b.1 (b.2.1) (b.2.2.1.1) (b.2.2.1.2) (b.2.2.2.1) (b.2.2.2.2.1) b.2.2.2.2.2 y4 y5 y6 y7 y8 y9 y10 y11 y12),(cU b.1 (b.2.1) (b.2.2.1.1) (b.2.2.1.2) (b.2.2.2.1) (b.2.2.2.2.1) b.2.2.2.2.2 y4 y5 y6 y7 y9 y11 y12),(cV b.1 (b.2.1) (b.2.2.1.1) (b.2.2.1.2) (b.2.2.2.1) (b.2.2.2.2.1) b.2.2.2.2.2 y4 y5 y6 y7 y8 y9 y10 y11 y12),(cW b.1 (b.2.1) (b.2.2.1.1) (b.2.2.1.2) (b.2.2.2.1) (b.2.2.2.2.1) b.2.2.2.2.2 y4 y5 y6 y7 y8 y9 y10 y11 y12),(cX b.1 (b.2.1) (b.2.2.1.1) (b.2.2.1.2) (b.2.2.2.1) (b.2.2.2.2.1) b.2.2.2.2.2 y4 y5 y6 y7 y8 y9 y10 y11 y12)))
def lW(y2:List (Int×(Int×((Int×Int)×(Int×(Int×Bool))))))(i:Nat):(List Int×Int×Int×Int×List Int×List (Int×(Int×Int))×List (List Int)×List (Int×(Int×Int))×List (Int×Int)×List (Int×Int))→kQ
 |(y3,y4,y5,y6,y7,y8,y9,y10,y11,y12)=>((i:Int),(↑y2.length:Int),y2,y3,y4,y5,y6,y7,y8,y9,y10,y11,y12)
def Mw:kQ→List Int×Int×Int×Int×List Int×List (Int×(Int×Int))×List (List Int)×List (Int×(Int×Int))×List (Int×Int)×List (Int×Int)
 |(_,_,_,y3,y4,y5,y6,y7,y8,y9,y10,y11,y12)=>(y3,y4,y5,y6,y7,y8,y9,y10,y11,y12)
theorem ahA(y2:List (Int×(Int×((Int×Int)×(Int×(Int×Bool))))))(y3:List Int)(y4 y5 y6:Int)(y7:List Int)(y8:List (Int×(Int×Int)))(y9:List (List Int))(y10:List (Int×(Int×Int)))(y11 y12:List (Int×Int))(hn:y2.length≤9223372036854775807)(n day:Int)(fs lf:L3)(pl ls:L2)(ps0:LI)(rs0:List LI)(hX: ∀ x∈y2,isX ps0 rs0 x=true)(s0:RS)(hs0:(y3,y4,y5,y6,y7,y8,y9,y10,y11,y12)=aj2 n day fs lf pl ls s0)(hi0:al6 n day fs lf pl ls ps0 rs0 0 s0)(h200:y2.length≤200):
  dD.fin ((0:Int),(↑y2.length:Int),y2,y3,y4,y5,y6,y7,y8,y9,y10,y11,y12)=true∧dD.res ((0:Int),(↑y2.length:Int),y2,y3,y4,y5,y6,y7,y8,y9,y10,y11,y12)=((ag (kX) 0 y2 0 (y3,y4,y5,y6,y7,y8,y9,y10,y11,y12)).1,(lW y2) (ag (kX) 0 y2 0 (y3,y4,y5,y6,y7,y8,y9,y10,y11,y12)).2.1 (ag (kX) 0 y2 0 (y3,y4,y5,y6,y7,y8,y9,y10,y11,y12)).2.2):=by
 have key:=dD.along (lW y2) Mw (kX) 0 (fun i a=> ∃ s,a=aj2 n day fs lf pl ls s∧al6 n day fs lf pl ls ps0 rs0 i s) y2 (y3,y4,y5,y6,y7,y8,y9,y10,y11,y12) ⟨s0,hs0,hi0⟩ (by simp only [dD,lW];omega) (fun i b a hb hI=> ?_) (fun a hI=> ?_)
 ·exact key
 ·obtain⟨y3,y4,y5,y6,y7,y8,y9,y10,y11,y12⟩:=a
  have hlt:=(List.getElem?_eq_some_iff.1 hb).1
  have hget: ∀ d,Option.getD y2[i]? d=b:=fun d=>by rw [hb];rfl
  have hw:=py hlt hn
  have hdec:ltI (i:Int) (y2.length:Int)=true:=ce (by omega)
  have hnn:leI (0:Int) (i:Int)=true:=bH (by omega)
  have hltd:ltN i y2.length=true:=cM hlt
  refine⟨?_,?_,?_,?_⟩
  ·have hm:=hX b (List.mem_of_getElem? hb)
   obtain⟨s,he,hI⟩:=hI
   obtain⟨hx,_⟩:=YB hI hm
   obtain⟨o0,o1,o2,o3,o4,o5,o6,o7,o8,o9,o10⟩:=Zl hI.1 hx
   simp only [aj2,Prod.mk.injEq]at he
   obtain⟨rfl,rfl,rfl,rfl,rfl,rfl,rfl,rfl,rfl,rfl⟩:=he
   have hlen:s.2.2.2.1.length≤i:=hI.2.2.2
   have h6:leN (s.2.2.2.1.length + 1) 9223372036854775807=true:=gx (by omega)
   have h7:leN ((s.2.2.2.1.length + 1) * 8) 140737488355328=true:=gx (by omega)
   simp [uW,dy,uX,dz,ov,dA,dB,dC,aP,ry,CA,CB,CC,CD,CE,CF,CG,CH,CI,CJ,Am,An,Ao,Ap,Aq,Ar,As,At,Bp,dD,LT.nds,allT,lW,aj2,hdec,hnn,hltd,hget,o0,o1,o2,o3,o4,o5,o6,o7,o8,o9,o10,h6,h7]
  ·simp [uW,dy,uX,dz,ov,dA,dB,dC,aP,ry,CA,CB,CC,CD,CE,CF,CG,CH,CI,CJ,Am,An,Ao,Ap,Aq,Ar,As,At,Bp,dD,LT.each,lW,Mw,hw]
  ·simp only [uW,dy,uX,dz,ov,dA,dB,dC,aP,ry,CA,CB,CC,CD,CE,CF,CG,CH,CI,CJ,Am,An,Ao,Ap,Aq,Ar,As,At,Bp,dD,LT.fn,lW,Mw,kX,Int.toNat_natCast,hdec,hnn,hltd,hget,cond_true,Bool.cond_self]
  ·intro a' hf
   obtain⟨s,he,hI⟩:=hI
   have hm:=hX b (List.mem_of_getElem? hb)
   obtain⟨hx,hk⟩:=YB hI hm
   obtain⟨o0,o1,o2,o3,o4,o5,o6,o7,o8,o9,o10⟩:=Zl hI.1 hx
   refine⟨stX n day fs lf pl ls s b,?_,hk⟩
   rw [he]at hf
   simp only [aj2,kX,Sum.inr.injEq,o0,o1,o2,o3,o4,o5,o6,o7,o8,o9]at hf
   rw [← hf]
   rfl
 ·obtain⟨y3,y4,y5,y6,y7,y8,y9,y10,y11,y12⟩:=a
  simp [uW,dy,uX,dz,ov,dA,dB,dC,aP,ry,CA,CB,CC,CD,CE,CF,CG,CH,CI,CJ,Am,An,Ao,Ap,Aq,Ar,As,At,Bp,dD,LT.out,lW]
end Go.SX
