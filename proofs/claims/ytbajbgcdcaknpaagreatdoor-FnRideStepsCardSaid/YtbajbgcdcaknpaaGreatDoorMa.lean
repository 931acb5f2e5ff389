/- What functions of the program come to, and what that says in plain words: part 1. -/
import Derived.Test.YtbajbgcdcaknpaaGreatDoorProg
import Derived.Shelf.SortM.Plain
import Derived.Ground.SlgmProg
import Derived.Shelf.SlGeneric
import Derived.Test.YtbajbgcdcaknpaaGreatDoorTXh
import Derived.Test.YtbajbgcdcaknpaaGreatDoorTXs
set_option linter.unusedSimpArgs false
set_option linter.unusedVariables false
namespace Go.SX
open Go.Proofs
abbrev asd:CTy:=(CTy.pair (CTy.int IntKind.i64) (CTy.pair (CTy.int IntKind.i64) (CTy.pair (CTy.pair (CTy.int IntKind.i64) (CTy.int IntKind.i64)) (CTy.pair (CTy.int IntKind.i64) (CTy.pair (CTy.int IntKind.i64) CTy.bool)))))
abbrev ase:CTy:=(CTy.pair (CTy.int IntKind.i64) (CTy.pair (CTy.int IntKind.i64) (CTy.int IntKind.i64)))
abbrev asf:CTy:=(CTy.pair (CTy.int IntKind.i64) (CTy.int IntKind.i64))
abbrev asg:CTy:=(CTy.int IntKind.i64)
abbrev ash:CTy:=(CTy.int IntKind.u8)
end Go.SX
namespace Go.Proofs
open Go.Shelf
def Tryz.laysSort_ren:Go.Shelf.Ren:=⟨fun | 5=>235 | 8=>241 | 7=>240 | 19=>252 | 20=>253 | 10=>243 | 11=>244 | 12=>245 | 13=>246 | 14=>247 | 15=>248 | 16=>249 | 17=>250 | 18=>251 | 30=>254 | 31=>255 | 32=>256 | 33=>257 | 34=>258 | 35=>259 | 40=>260 | n=>n,fun | 23=>24 | 25=>2 | 3=>3 | 32=>124 | 22=>24 | 0=>0 | 44=>227 | 46=>57 | 4=>4 | 36=>252 | 35=>251 | 41=>256 | 5=>5 | 9=>9 | 53=>260 | 57=>264 | 63=>266 | 64=>267 | n=>n,fun | n=>n⟩
theorem Tryz.laysSort:Go.Proofs.SlLaysM.n5 Tryz.prog Tryz.laysSort_ren:= {
 mixed:=by kernel_rfl
 f5:=⟨Tryz.f235.name,by decide,Tryz.func235.trans (congrArg some (by kernel_rfl))⟩
 f7:=⟨Tryz.f240.name,by decide,Tryz.func240.trans (congrArg some (by kernel_rfl))⟩
 f8:=Tryz.func241.trans (congrArg some (by kernel_rfl))
 f10:=⟨Tryz.f243.name,by decide,Tryz.func243.trans (congrArg some (by kernel_rfl))⟩
 f11:=⟨Tryz.f244.name,by decide,Tryz.func244.trans (congrArg some (by kernel_rfl))⟩
 f12:=⟨Tryz.f245.name,by decide,Tryz.func245.trans (congrArg some (by kernel_rfl))⟩
 f13:=⟨Tryz.f246.name,by decide,Tryz.func246.trans (congrArg some (by kernel_rfl))⟩
 f14:=⟨Tryz.f247.name,by decide,Tryz.func247.trans (congrArg some (by kernel_rfl))⟩
 f15:=⟨Tryz.f248.name,by decide,Tryz.func248.trans (congrArg some (by kernel_rfl))⟩
 f16:=⟨Tryz.f249.name,by decide,Tryz.func249.trans (congrArg some (by kernel_rfl))⟩
 f17:=⟨Tryz.f250.name,by decide,Tryz.func250.trans (congrArg some (by kernel_rfl))⟩
 f18:=⟨Tryz.f251.name,by decide,Tryz.func251.trans (congrArg some (by kernel_rfl))⟩
 f19:=Tryz.func252.trans (congrArg some (by kernel_rfl))
 f20:=Tryz.func253.trans (congrArg some (by kernel_rfl))
 f30:=⟨Tryz.f254.name,by decide,Tryz.func254.trans (congrArg some (by kernel_rfl))⟩
 f31:=Tryz.func255.trans (congrArg some (by kernel_rfl))
 f32:=Tryz.func256.trans (congrArg some (by kernel_rfl))
 f33:=⟨Tryz.f257.name,by decide,Tryz.func257.trans (congrArg some (by kernel_rfl))⟩
 f34:=⟨Tryz.f258.name,by decide,Tryz.func258.trans (congrArg some (by kernel_rfl))⟩
 f35:=⟨Tryz.f259.name,by decide,Tryz.func259.trans (congrArg some (by kernel_rfl))⟩
 f40:=⟨Tryz.f260.name,by decide,Tryz.func260.trans (congrArg some (by kernel_rfl))⟩
 t0:=Tryz.underlying0
 a0:=Tryz.isAgg0
 z0:=Tryz.sizeOf0
 v0:=Tryz.zeroValue0
 t3:=Tryz.underlying3
 a3:=Tryz.isAgg3
 z3:=Tryz.sizeOf3
 v3:=Tryz.zeroValue3
 t4:=Tryz.underlying4
 a4:=Tryz.isAgg4
 z4:=Tryz.sizeOf4
 v4:=Tryz.zeroValue4
 t5:=Tryz.underlying5
 a5:=Tryz.isAgg5
 z5:=Tryz.sizeOf5
 v5:=Tryz.zeroValue5
 t9:=Tryz.underlying9
 a9:=Tryz.isAgg9
 z9:=Tryz.sizeOf9
 v9:=Tryz.zeroValue9
 t22:=Tryz.underlying24
 a22:=Tryz.isAgg24
 z22:=Tryz.sizeOf24
 v22:=Tryz.zeroValue24
 t23:=Tryz.underlying24
 a23:=Tryz.isAgg24
 z23:=Tryz.sizeOf24
 v23:=Tryz.zeroValue24
 t25:=Tryz.underlying2
 a25:=Tryz.isAgg2
 z25:=Tryz.sizeOf2
 v25:=Tryz.zeroValue2
 t32:=Tryz.underlying124
 a32:=Tryz.isAgg124
 z32:=Tryz.sizeOf124
 v32:=Tryz.zeroValue124
 t35:=Tryz.underlying251
 a35:=Tryz.isAgg251
 z35:=Tryz.sizeOf251
 v35:=Tryz.zeroValue251
 t36:=Tryz.underlying252
 a36:=Tryz.isAgg252
 z36:=Tryz.sizeOf252
 v36:=Tryz.zeroValue252
 t41:=Tryz.underlying256
 a41:=Tryz.isAgg256
 z41:=Tryz.sizeOf256
 v41:=Tryz.zeroValue256
 t44:=Tryz.underlying227
 a44:=Tryz.isAgg227
 z44:=Tryz.sizeOf227
 v44:=Tryz.zeroValue227
 t46:=Tryz.underlying57
 a46:=Tryz.isAgg57
 z46:=Tryz.sizeOf57
 v46:=Tryz.zeroValue57
 t53:=Tryz.underlying260
 a53:=Tryz.isAgg260
 z53:=Tryz.sizeOf260
 v53:=Tryz.zeroValue260
 t57:=Tryz.underlying264
 a57:=Tryz.isAgg264
 z57:=Tryz.sizeOf264
 v57:=Tryz.zeroValue264
 t63:=Tryz.underlying266
 a63:=Tryz.isAgg266
 z63:=Tryz.sizeOf266
 v63:=Tryz.zeroValue266
 t64:=Tryz.underlying267
 a64:=Tryz.isAgg267
 z64:=Tryz.sizeOf267
 v64:=Tryz.zeroValue267 }
end Go.Proofs

namespace Go.SX
open Go.Proofs
set_option maxRecDepth 100000
theorem aS:Tryz.prog.follows .mixedOrders=true:=by kernel_rfl
def a6(x0 x1 x2:Int):Bool:=bif leI x1 x0 then leI x0 x2 else false
def agl:List SV→List Entry→Option Out
 | [.one ⟨false,[.val (.int .i64 x0)]⟩,.one ⟨false,[.val (.int .i64 x1)]⟩,.one ⟨false,[.val (.int .i64 x2)]⟩],[]=>some ⟨(.one ⟨false,[(.val (.bool (a6 x0 x1 x2)))]⟩),[],[],[]⟩
 |_,_=>none
def fK:PF Tryz.prog:=PF.ofG Tryz.prog [] [] aS 73 Tryz.f73 Tryz.func73 (fun c _=>LOk.nil c) agl (by
 intro vs es r h;unfold agl at h;split at h
 ·cases h;kernel_rfl
 ·cases h)
abbrev jE:=Int×Int×List Int
section
variable (y0 y1:Int)(y2:List Int)
def uZ:Bool:=ltI y0 (↑y2.length:Int)
def Ax:Bool:=leI (0:Int) y0
def Ay:Bool:=ltN y0.toNat y2.length
def Az:Bool:= !a6 (Option.getD y2[Int.toNat y0]? (0:Int)) (0:Int) (IntKind.wrap .i64 (IntKind.wrap .i64 ((3:Int) * y1) - (1:Int)))
def AA:Int:=IntKind.wrap .i64 (y0 + (1:Int))
end
def acC:jE→List (Nat×SV)
 |(y0,_,_)=> [(3,(.one ⟨false,[(.val (.int .i64 y0))]⟩)),(1,(.one ⟨false,[(.ptr 0 0)]⟩))]
def acz:jE→List (Nat×Entry)
 |(_,y1,y2)=> [(0,(.box 26 [(.val (.int .i64 y1)),(.ref 1)])),(1,(.row false 2 asg y2))]
def acV:Nat→jE→List (Nat×SV)
 |0,(_,_,_)=> [(2,(.one ⟨false,[(.val (.bool false))]⟩))]
 |_,(_,_,_)=> []
def acS:Nat→jE→List (Nat×Entry)
 |0,(_,y1,y2)=> [(0,(.box 26 [(.val (.int .i64 y1)),(.ref 1)])),(1,(.row false 2 asg y2))]
 |_,(_,y1,y2)=> [(0,(.box 26 [(.val (.int .i64 y1)),(.ref 1)])),(1,(.row false 2 asg y2))]
def yA:jE→LT jE
 |(y0,y1,y2)=> .ite (uZ y0 y2) (.need [(Ax y0),(uZ y0 y2),(Ay y0 y2)] (.ite (Az y0 y1 y2) (.ext 0 [(0,0),(1,1)]) (.nrm ((AA y0),y1,y2) [(0,0),(1,1)]))) (.ext 1 [(0,0),(1,1)])
def KX(s:St):Option jE:=
 (match s.look 3 with
 |some ⟨none,(.one ⟨false,[(.val (.int .i64 y0))]⟩)⟩=>
 (match s.look 1 with
 |some ⟨none,(.one ⟨false,[(.ptr 128 0)]⟩)⟩=>
 (match s.ent 128 with
 |some (.box 26 [(.val (.int .i64 y1)),(.ref 0)])=>
 (match s.ent 0 with
 |some (.row false 2 (.int .i64) y2)=>
 some (y0,y1,y2)
 |_=>none)
 |_=>none)
 |_=>none)
 |_=>none)
def dm:Lp jE where
 h:=⟨[15,16,17,18,19,22,23,24,25,26,27,28,29,30,31,32,2,20,21,3],[0,1],[],[]⟩
 JL:=acC
 JE:=acz
 XL:=acV
 XE:=acS
 q:=fun j=>match j with | 0=> .ret | _=> .exit 0
 tags:= [0,1]
 lt:=yA
 fuel:=fun(y0,y1,y2)=>y0.natAbs + y1.natAbs + y2.length
 fix:=fun(_,y1,y2) (y0,_,_)=>(y0,y1,y2)
 σ:= [(0,128),(1,0)]
 rd:=KX
theorem aaF:LoopOk Tryz.prog (fun k=>Nat.blt k Tryz.f84.ntmps) dm.F (aT Tryz.f84 0):=by
 refine Lp.ok (tbl:= [fK]) (lf:= []) aS dm (by kernel_rfl) (LOk.nil _) (fun _=>rfl) (fun j _=>by unfold dm;match j with | 0=>rfl | _ + 1=>rfl) ?_ ?_ ?_ ?_ (fun _=>rfl) ?_
 ·rintro⟨y0,y1,y2⟩;kernel_rfl
 ·rintro⟨y0,y1,y2⟩;kernel_rfl
 ·intro s x h
  have h:KX s=some x:=h
  unfold KX at h
  repeat' split at h
  all_goals cases h
  exact⟨aa (by assumption) rfl (aa (by assumption) rfl (rfl)),ab rfl (by assumption) rfl (ab rfl (by assumption) rfl (rfl))⟩
 ·rintro⟨y0,y1,y2⟩;kernel_rfl
 ·rintro⟨y0,y1,y2⟩ z;exact(And.intro (And.intro trivial rfl) trivial)
section
variable (x0:Int)(x1:List Int)
def Qi:Bool:=bif !a6 x0 (2:Int) (8:Int)then true else !a6 (↑x1.length:Int) (1:Int) (4:Int)
def Qj:Int×Int×List Int:=((0:Int),x0,x1)
def So:Bool:=bif Qi x0 x1 then false else bif Nat.beq ((Lp.res dm (Qj x0 x1)).1) (0:Nat)then false else true
def Sp:Bool:=allT [Qi x0 x1||Lp.fin dm (Qj x0 x1)]
end
def YM:List SV→List Entry→Option Out
 | [.one ⟨true,[.val (.int .i64 x0),.ref 0]⟩],[.row false 2 (.int .i64) x1]=>some ⟨(.one ⟨false,[(.val (.bool (So x0 x1)))]⟩),[(.row false 2 asg x1)],[],[(Sp x0 x1)]⟩
 |_,_=>none
def ail:PF Tryz.prog:=PF.ofG Tryz.prog [fK] [dm.F] aS 84 Tryz.f84 Tryz.func84 (LOk.fnT (l:= [aT Tryz.f84 0]) (by kernel_rfl) (.cons aaF (.nil _))) YM (by
 intro vs es r h;unfold YM at h;split at h
 ·cases h;kernel_rfl
 ·cases h)
def bn(x0 x1 x2:Int):Bool:=bif leI x1 x0 then leI x0 x2 else false
def aeL:List SV→List Entry→Option Out
 | [.one ⟨false,[.val (.int .i64 x0)]⟩,.one ⟨false,[.val (.int .i64 x1)]⟩,.one ⟨false,[.val (.int .i64 x2)]⟩],[]=>some ⟨(.one ⟨false,[(.val (.bool (bn x0 x1 x2)))]⟩),[],[],[]⟩
 |_,_=>none
def gP:PF Tryz.prog:=PF.ofG Tryz.prog [] [] aS 69 Tryz.f69 Tryz.func69 (fun c _=>LOk.nil c) aeL (by
 intro vs es r h;unfold aeL at h;split at h
 ·cases h;kernel_rfl
 ·cases h)
def LY(x0:Int):Bool:=bn x0 (2:Int) (8:Int)
def TV:List SV→List Entry→Option Out
 | [.one ⟨false,[.val (.int .i64 x0)]⟩],[]=>some ⟨(.one ⟨false,[(.val (.bool (LY x0)))]⟩),[],[],[]⟩
 |_,_=>none
def aeC:PF Tryz.prog:=PF.ofG Tryz.prog [gP] [] aS 68 Tryz.f68 Tryz.func68 (fun c _=>LOk.nil c) TV (by
 intro vs es r h;unfold TV at h;split at h
 ·cases h;kernel_rfl
 ·cases h)
def bI(x0:List Int):Int:=(↑x0.length:Int)
def TW:List SV→List Entry→Option Out
 | [.one ⟨false,[.ref 0]⟩],[.row false 2 (.int .i64) x0]=>some ⟨(.one ⟨false,[(.val (.int .i64 (bI x0)))]⟩),[(.row false 2 asg x0)],[],[]⟩
 |_,_=>none
def aK:PF Tryz.prog:=PF.ofG Tryz.prog [] [] aS 79 Tryz.f79 Tryz.func79 (fun c _=>LOk.nil c) TW (by
 intro vs es r h;unfold TW at h;split at h
 ·cases h;kernel_rfl
 ·cases h)
def Dv(x0 x1:Int):Bool:= !bn x0 (0:Int) (IntKind.wrap .i64 (IntKind.wrap .i64 ((3:Int) * x1) - (1:Int)))
def Rj:List SV→List Entry→Option Out
 | [(.one ⟨false,[(.val (.int .i64 x0))]⟩),(.one ⟨false,[(.ptr 0 0)]⟩)],[(.box 26 [(.val (.int .i64 x1)),(.ref 1)]),(.row false 2 (.int .i64) x2)]=>some ⟨(.one ⟨false,[(.val (.bool (Dv x0 x1)))]⟩),[(.box 26 [(.val (.int .i64 x1)),(.ref 1)]),(.row false 2 asg x2)],[],[]⟩
 |_,_=>none
def rx:PF Tryz.prog:=PF.ofG Tryz.prog [gP] [] aS 162 Tryz.f162 Tryz.func162 (fun c _=>LOk.nil c) Rj (by
 intro vs es r h;unfold Rj at h;split at h
 ·cases h;kernel_rfl
 ·cases h)
abbrev bA:=Int×Int×Int×List Int
section
variable (y0 y1 y2:Int)(y3:List Int)
def iy:Bool:=ltI y0 y1
def iz:Bool:=leI (0:Int) y0
def iA:Bool:=ltI y0 (↑y3.length:Int)
def iB:Bool:=ltN y0.toNat y3.length
def iC:Bool:=Dv (Option.getD y3[Int.toNat y0]? (0:Int)) y2
def iD:Int:=IntKind.wrap .i64 (y0 + (1:Int))
end
def LB:bA→List (Nat×SV)
 |(y0,y1,_,_)=> [(8,(.one ⟨false,[(.val (.int .i64 y0))]⟩)),(7,(.one ⟨false,[(.val (.int .i64 y1))]⟩)),(1,(.one ⟨false,[(.clo 162 [0])]⟩)),(0,(.one ⟨false,[(.ref 1)]⟩))]
def LA:bA→List (Nat×Entry)
 |(_,_,y2,y3)=> [(0,(.box 26 [(.val (.int .i64 y2)),(.ref 1)])),(1,(.row false 2 asg y3))]
def LD:Nat→bA→List (Nat×SV)
 |0,(y0,_,_,_)=> [(4,(.one ⟨false,[(.val (.int .i64 y0))]⟩))]
 |_,(_,_,_,_)=> []
def LC:Nat→bA→List (Nat×Entry)
 |0,(_,_,y2,y3)=> [(0,(.box 26 [(.val (.int .i64 y2)),(.ref 1)])),(1,(.row false 2 asg y3))]
 |_,(_,_,y2,y3)=> [(0,(.box 26 [(.val (.int .i64 y2)),(.ref 1)])),(1,(.row false 2 asg y3))]
def ia:bA→LT bA
 |(y0,y1,y2,y3)=> .ite (iy y0 y1) (.need [(iz y0),(iA y0 y3),(iB y0 y3)] (.ite (iC y0 y2 y3) (.ext 0 [(0,0),(1,1)]) (.nrm ((iD y0),y1,y2,y3) [(0,0),(1,1)]))) (.ext 1 [(0,0),(1,1)])
def qx(s:St):Option bA:=
 (match s.look 8 with
 |some ⟨none,(.one ⟨false,[(.val (.int .i64 y0))]⟩)⟩=>
 (match s.look 7 with
 |some ⟨none,(.one ⟨false,[(.val (.int .i64 y1))]⟩)⟩=>
 (match s.look 1 with
 |some ⟨none,(.one ⟨false,[(.clo 162 [1])]⟩)⟩=>
 (match s.look 0 with
 |some ⟨none,(.one ⟨false,[(.ref 0)]⟩)⟩=>
 (match s.ent 1 with
 |some (.box 26 [(.val (.int .i64 y2)),(.ref 0)])=>
 (match s.ent 0 with
 |some (.row false 2 (.int .i64) y3)=>
 some (y0,y1,y2,y3)
 |_=>none)
 |_=>none)
 |_=>none)
 |_=>none)
 |_=>none)
 |_=>none)
def aO:Lp bA where
 h:=⟨[9,10,5,11,12,13,14,15,16,17,4,18,8],[0,1],[],[]⟩
 JL:=LB
 JE:=LA
 XL:=LD
 XE:=LC
 q:=fun j=>match j with | 0=> .ret | _=> .exit 0
 tags:= [0,1]
 lt:=ia
 fuel:=fun(y0,y1,y2,y3)=>y0.natAbs + y1.natAbs + y2.natAbs + y3.length
 fix:=fun(_,y1,y2,y3) (y0,_,_,_)=>(y0,y1,y2,y3)
 σ:= [(0,1),(1,0)]
 rd:=qx
theorem Kj:LoopOk Tryz.prog (fun k=>Nat.blt k Tryz.f211.ntmps) aO.F (aT Tryz.f211 0):=by
 refine Lp.ok (tbl:= [rx,PF.lend rx,PF.fz rx]) (lf:= []) aS aO (by kernel_rfl) (LOk.nil _) (fun _=>rfl) (fun j _=>by unfold aO;match j with | 0=>rfl | _ + 1=>rfl) ?_ ?_ ?_ ?_ (fun _=>rfl) ?_
 ·rintro⟨y0,y1,y2,y3⟩;kernel_rfl
 ·rintro⟨y0,y1,y2,y3⟩;kernel_rfl
 ·intro s x h
  have h:qx s=some x:=h
  unfold qx at h
  repeat' split at h
  all_goals cases h
  exact⟨aa (by assumption) rfl (aa (by assumption) rfl (aa (by assumption) rfl (aa (by assumption) rfl (rfl)))),ab rfl (by assumption) rfl (ab rfl (by assumption) rfl (rfl))⟩
 ·rintro⟨y0,y1,y2,y3⟩;kernel_rfl
 ·rintro⟨y0,y1,y2,y3⟩ z;exact(And.intro (And.intro trivial rfl) trivial)
section
variable (x0:List Int)(x1:Int)
def mE:Int×Int×Int×List Int:=((0:Int),(↑x0.length:Int),x1,x0)
def sm:Bool:=Nat.beq ((Lp.res aO (mE x0 x1)).1) (0:Nat)
def tH:Int:=bif sm x0 x1 then ((Lp.res aO (mE x0 x1)).2).1else(-1:Int)
def tI:Int:=bif sm x0 x1 then x1 else x1
def tJ:Bool:=allT [Lp.fin aO (mE x0 x1)]
end
def DC:List SV→List Entry→Option Out
 | [(.one ⟨false,[(.ref 0)]⟩),(.one ⟨false,[(.clo 162 [1])]⟩)],[(.row false 2 (.int .i64) x0),(.box 26 [(.val (.int .i64 x1)),(.ref 0)])]=>some ⟨(.one ⟨false,[(.val (.int .i64 (tH x0 x1)))]⟩),[(.row false 2 asg x0),(.box 26 [(.val (.int .i64 (tI x0 x1))),(.ref 0)])],[],[(tJ x0 x1)]⟩
 |_,_=>none
def tG:PF Tryz.prog:=PF.ofG Tryz.prog [rx,PF.lend rx,PF.fz rx] [aO.F] aS 211 Tryz.f211 Tryz.func211 (LOk.fnT (l:= [aT Tryz.f211 0]) (by kernel_rfl) (.cons Kj (.nil _))) DC (by
 intro vs es r h;unfold DC at h;split at h
 ·cases h;kernel_rfl
 ·cases h)
section
variable (x0:List Int)(x1:Int)
def lv:Bool:=leI (0:Int) (tH x0 x1)
def Av:Int:=tI x0 x1
def lw:Bool:=allT [tJ x0 x1]
end
def Ad:List SV→List Entry→Option Out
 | [(.one ⟨false,[(.ref 0)]⟩),(.one ⟨false,[(.clo 162 [1])]⟩)],[(.row false 2 (.int .i64) x0),(.box 26 [(.val (.int .i64 x1)),(.ref 0)])]=>some ⟨(.one ⟨false,[(.val (.bool (lv x0 x1)))]⟩),[(.row false 2 asg x0),(.box 26 [(.val (.int .i64 (Av x0 x1))),(.ref 0)])],[],[(lw x0 x1)]⟩
 |_,_=>none
def qQ:PF Tryz.prog:=PF.ofG Tryz.prog [tG,PF.lend tG,PF.fz tG] [] aS 158 Tryz.f158 Tryz.func158 (fun c _=>LOk.nil c) Ad (by
 intro vs es r h;unfold Ad at h;split at h
 ·cases h;kernel_rfl
 ·cases h)
section
variable (x0:Int)(x1:List Int)
def Px:Bool:=bif LY x0 then bn (bI x1) (1:Int) (4:Int)else false
def RW:Bool:=bif Px x0 x1 then !lv x1 x0 else false
def RY:Bool:=allT [!(Px x0 x1&&true)||lw x1 x0]
end
def YG:List SV→List Entry→Option Out
 | [.one ⟨true,[.val (.int .i64 x0),.ref 0]⟩],[.row false 2 (.int .i64) x1]=>some ⟨(.one ⟨false,[(.val (.bool (RW x0 x1)))]⟩),[(.row false 2 asg x1)],[],[(RY x0 x1)]⟩
 |_,_=>none
def aig:PF Tryz.prog:=PF.ofG Tryz.prog [aeC,gP,aK,PF.lend aK,PF.fz aK,qQ,PF.lend qQ,PF.fz qQ] [] aS 75 Tryz.f75 Tryz.func75 (fun c _=>LOk.nil c) YG (by
 intro vs es r h;unfold YG at h;split at h
 ·cases h;kernel_rfl
 ·cases h)
def CU(x0:List Int):Bool:=allT [ltN (0:Nat) x0.length,false||leN ((0:Nat) + List.length x0) (9223372036854775807:Nat),false||leN (((0:Nat) + List.length x0) * (8:Nat)) (140737488355328:Nat)]
def Kv:List SV→List Entry→Option Out
 | [.one ⟨false,[.ref 0]⟩],[.row false 2 (.int .i64) x0]=>some ⟨(.one ⟨false,[(.ref 1)]⟩),[(.row false 2 asg x0)],[(.row true 2 asg x0)],[(CU x0)]⟩
 |_,_=>none
def VC:PF Tryz.prog:=PF.ofG Tryz.prog [] [] aS 151 Tryz.f151 Tryz.func151 (fun c _=>LOk.nil c) Kv (by
 intro vs es r h;unfold Kv at h;split at h
 ·cases h;kernel_rfl
 ·cases h)
def YB(x0:List Int):Bool:=allT [leN ((0:Nat) + List.length x0) (9223372036854775807:Nat),leN (((0:Nat) + List.length x0) * (8:Nat)) (140737488355328:Nat)]
def aeP:List SV→List Entry→Option Out
 | [.one ⟨false,[.ref 0]⟩],[.row false 2 (.int .i64) x0]=>some ⟨(.one ⟨false,[(.ref 1)]⟩),[(.row false 2 asg x0)],[(.row true 2 asg x0)],[(YB x0)]⟩
 |_,_=>none
def ald:PF Tryz.prog:=PF.ofG Tryz.prog [] [] aS 209 Tryz.f209 Tryz.func209 (fun c _=>LOk.nil c) aeP (by
 intro vs es r h;unfold aeP at h;split at h
 ·cases h;kernel_rfl
 ·cases h)
section
variable (x0 x1 x2:Int)
def IQ:Bool:=IntKind.wrap .i64 (Int.tdiv x1 (3:Int))==x2
def Nz:Bool:=Int.tmod x1 (3:Int)==(2:Int)
def Wd:Bool:=bif IQ x1 x2 then true else bif Nz x1 then Int.tmod (IntKind.wrap .i64 (IntKind.wrap .i64 (Int.tdiv x1 (3:Int)) + (1:Int))) x0==x2 else false
def Qu:Bool:=allT [!(!IQ x1 x2&&true)||neI (3:Int) (0:Int),!(Nz x1&&(!IQ x1 x2&&true))||neI (3:Int) (0:Int),!(Nz x1&&(!IQ x1 x2&&true))||neI x0 (0:Int)]
end
def ach:List SV→List Entry→Option Out
 | [.one ⟨false,[.val (.int .i64 x0)]⟩,.one ⟨false,[.val (.int .i64 x1)]⟩,.one ⟨false,[.val (.int .i64 x2)]⟩],[]=>some ⟨(.one ⟨false,[(.val (.bool (Wd x0 x1 x2)))]⟩),[],[],[(Qu x0 x1 x2)]⟩
 |_,_=>none
def aku:PF Tryz.prog:=PF.ofG Tryz.prog [] [] aS 219 Tryz.f219 Tryz.func219 (fun c _=>LOk.nil c) ach (by
 intro vs es r h;unfold ach at h;split at h
 ·cases h;kernel_rfl
 ·cases h)
abbrev ku:=Int×List Int×List Int
section
variable (y0:Int)(y1 y2:List Int)
def wn:Bool:=ltI y0 (↑y1.length:Int)
def wo:Bool:=leI (0:Int) y0
def CF:Bool:=ltN y0.toNat y1.length
def CG:Bool:=ltI y0 (↑y2.length:Int)
def CH:Bool:=ltN y0.toNat y2.length
def CI:Bool:=Option.getD y1[Int.toNat y0]? (0:Int)!=Option.getD y2[Int.toNat y0]? (0:Int)
def CJ:Int:=IntKind.wrap .i64 (y0 + (1:Int))
end
def aeb:ku→List (Nat×SV)
 |(y0,_,_)=> [(5,(.one ⟨false,[(.val (.int .i64 y0))]⟩)),(0,(.one ⟨false,[(.ref 0)]⟩)),(1,(.one ⟨false,[(.ref 1)]⟩))]
def ad3:ku→List (Nat×Entry)
 |(_,y1,y2)=> [(0,(.row false 2 asg y1)),(1,(.row false 2 asg y2))]
def aer:Nat→ku→List (Nat×SV)
 |0,(_,_,_)=> [(4,(.one ⟨false,[(.val (.bool false))]⟩))]
 |_,(_,_,_)=> []
def aej:Nat→ku→List (Nat×Entry)
 |0,(_,y1,y2)=> [(0,(.row false 2 asg y1)),(1,(.row false 2 asg y2))]
 |_,(_,y1,y2)=> [(0,(.row false 2 asg y1)),(1,(.row false 2 asg y2))]
def Aq:ku→LT ku
 |(y0,y1,y2)=> .ite (wn y0 y1) (.need [(wo y0),(wn y0 y1),(CF y0 y1),(wo y0),(CG y0 y2),(CH y0 y2)] (.ite (CI y0 y1 y2) (.ext 0 [(0,0),(1,1)]) (.nrm ((CJ y0),y1,y2) [(0,0),(1,1)]))) (.ext 1 [(0,0),(1,1)])
def Mk(s:St):Option ku:=
 (match s.look 5 with
 |some ⟨none,(.one ⟨false,[(.val (.int .i64 y0))]⟩)⟩=>
 (match s.look 0 with
 |some ⟨none,(.one ⟨false,[(.ref 0)]⟩)⟩=>
 (match s.look 1 with
 |some ⟨none,(.one ⟨false,[(.ref 1)]⟩)⟩=>
 (match s.ent 0 with
 |some (.row false 2 (.int .i64) y1)=>
 (match s.ent 1 with
 |some (.row false 2 (.int .i64) y2)=>
 some (y0,y1,y2)
 |_=>none)
 |_=>none)
 |_=>none)
 |_=>none)
 |_=>none)
def dV:Lp ku where
 h:=⟨[11,12,13,14,17,18,19,20,21,22,23,24,25,4,15,16,5],[0,1],[],[]⟩
 JL:=aeb
 JE:=ad3
 XL:=aer
 XE:=aej
 q:=fun j=>match j with | 0=> .ret | _=> .exit 0
 tags:= [0,1]
 lt:=Aq
 fuel:=fun(y0,y1,y2)=>y0.natAbs + y1.length + y2.length
 fix:=fun(_,y1,y2) (y0,_,_)=>(y0,y1,y2)
 σ:= [(0,0),(1,1)]
 rd:=Mk
theorem abZ:LoopOk Tryz.prog (fun k=>Nat.blt k Tryz.f14.ntmps) dV.F (aT Tryz.f14 0):=by
 refine Lp.ok (tbl:= []) (lf:= []) aS dV (by kernel_rfl) (LOk.nil _) (fun _=>rfl) (fun j _=>by unfold dV;match j with | 0=>rfl | _ + 1=>rfl) ?_ ?_ ?_ ?_ (fun _=>rfl) ?_
 ·rintro⟨y0,y1,y2⟩;kernel_rfl
 ·rintro⟨y0,y1,y2⟩;kernel_rfl
 ·intro s x h
  have h:Mk s=some x:=h
  unfold Mk at h
  repeat' split at h
  all_goals cases h
  exact⟨aa (by assumption) rfl (aa (by assumption) rfl (aa (by assumption) rfl (rfl))),ab rfl (by assumption) rfl (ab rfl (by assumption) rfl (rfl))⟩
 ·rintro⟨y0,y1,y2⟩;kernel_rfl
 ·rintro⟨y0,y1,y2⟩ z;exact(And.intro (And.intro trivial rfl) trivial)
section
variable (x0 x1:List Int)
def LO:Bool:=(↑x0.length:Int)!=(↑x1.length:Int)
def LP:Int×List Int×List Int:=((0:Int),x0,x1)
def Nr:Bool:=bif LO x0 x1 then false else bif Nat.beq ((Lp.res dV (LP x0 x1)).1) (0:Nat)then false else true
def Ns:Bool:=allT [LO x0 x1||Lp.fin dV (LP x0 x1)]
end
def aaZ:List SV→List Entry→Option Out
 | [.one ⟨false,[.ref 0]⟩,.one ⟨false,[.ref 1]⟩],[.row false 2 (.int .i64) x0,.row false 2 (.int .i64) x1]=>some ⟨(.one ⟨false,[(.val (.bool (Nr x0 x1)))]⟩),[(.row false 2 asg x0),(.row false 2 asg x1)],[],[(Ns x0 x1)]⟩
 |_,_=>none
def aji:PF Tryz.prog:=PF.ofG Tryz.prog [] [dV.F] aS 14 Tryz.f14 Tryz.func14 (LOk.fnT (l:= [aT Tryz.f14 0]) (by kernel_rfl) (.cons abZ (.nil _))) aaZ (by
 intro vs es r h;unfold aaZ at h;split at h
 ·cases h;kernel_rfl
 ·cases h)
def ma(x1:Int)(x2:List Int):Bool:=bn x1 (0:Int) (IntKind.wrap .i64 (bI x2 - (1:Int)))
def tM:List SV→List Entry→Option Out
 | [.one ⟨true,[.val (.int .i64 _x0),.ref 0]⟩,.one ⟨false,[.val (.int .i64 x1)]⟩],[.row false 2 (.int .i64) x2]=>some ⟨(.one ⟨false,[(.val (.bool (ma x1 x2)))]⟩),[(.row false 2 asg x2)],[],[]⟩
 |_,_=>none
def Ho:PF Tryz.prog:=PF.ofG Tryz.prog [gP,aK,PF.lend aK,PF.fz aK] [] aS 183 Tryz.f183 Tryz.func183 (fun c _=>LOk.nil c) tM (by
 intro vs es r h;unfold tM at h;split at h
 ·cases h;kernel_rfl
 ·cases h)
end Go.SX

namespace Go.SX
open Go.Proofs
set_option maxRecDepth 100000
def blk(p:Int):Int:=Int.tdiv p 3
def phs(p:Int):Int:=Int.tmod p 3
def inR(a lo hi:Int):Bool:=leI lo a&&leI a hi
def isT(n:Int)(ps:List Int):Bool:=inR n 2 8&&inR ps.length 1 4&&ps.all fun p=>inR p 0 (3 * n - 1)
def aad(n p b:Int):Bool:=blk p==b||(phs p==2&&Int.tmod (blk p + 1) n==b)
def aav(n:Int)(ps:List Int)(b:Int):Nat:=ps.countP fun p=>aad n p b
def eqL(xs ys:List Int):Bool:=decide (xs=ys)
theorem re{a lo hi:Int}:inR a lo hi=true↔lo≤a∧a≤hi:=by simp [inR]
theorem vt(a lo hi:Int):(bif leI lo a then leI a hi else false)=inR a lo hi:=by
 unfold inR;cases leI lo a <;> rfl
theorem Dw{n:Int}{ps:List Int}:isT n ps=true↔(2≤n∧n≤8)∧(1≤ps.length∧ps.length≤4)∧ ∀ p∈ps,0≤p∧p≤3 * n - 1:=by
 simp only [isT,Bool.and_eq_true,re,List.all_eq_true]
 constructor
 ·rintro⟨⟨h1,h2⟩,h3⟩;exact⟨h1,by omega,h3⟩
 ·rintro⟨h1,h2,h3⟩;exact⟨⟨h1,by omega⟩,h3⟩
def uQ(y1 b:Int):(Unit)→Nat ⊕ (Unit)
 |_=>(bif(!a6 b (0:Int) (IntKind.wrap .i64 (IntKind.wrap .i64 ((3:Int) * y1) - (1:Int))))then(.inl 0)else(.inr ()))
def qh(y1:Int)(y2:List Int)(i:Nat):(Unit)→jE
 |_=>((i:Int),y1,y2)
def KU:jE→Unit
 |(_,_,_)=>()
theorem aeF(y1:Int)(y2:List Int) (hn:y2.length≤9223372036854775807):
  dm.fin ((0:Int),y1,y2)=true∧dm.res ((0:Int),y1,y2)=((aU (uQ y1) 1 y2 0 ()).1,(qh y1 y2) (aU (uQ y1) 1 y2 0 ()).2.1 (aU (uQ y1) 1 y2 0 ()).2.2):=by
 have key:=dm.along (qh y1 y2) KU (uQ y1) 1 (fun _ _=>True) y2 () (by trivial) (by simp only [dm,qh];omega) (fun i b a hb hI=> ?_) (fun a hI=> ?_)
 ·exact key
 ·obtain⟨⟩:=a
  have hlt:=(List.getElem?_eq_some_iff.1 hb).1
  have hget: ∀ d,Option.getD y2[i]? d=b:=fun d=>by rw [hb];rfl
  have hw:=vu hlt hn
  have hdec:ltI (i:Int) (y2.length:Int)=true:=et (by omega)
  have hnn:leI (0:Int) (i:Int)=true:=dk (by omega)
  have hltd:ltN i y2.length=true:=fJ hlt
  refine⟨?_,?_,?_,?_⟩
  ·simp [uZ,Ax,Ay,Az,AA,yA,dm,LT.nds,allT,qh,hdec,hnn,hltd,hget]
  ·simp [uZ,Ax,Ay,Az,AA,yA,dm,LT.each,qh,KU,hw]
  ·simp only [uZ,Ax,Ay,Az,AA,yA,dm,LT.fn,qh,KU,uQ,Int.toNat_natCast,hdec,hnn,hltd,hget,cond_true,Bool.cond_self]
  ·exact fun _ _=>trivial
 ·obtain⟨⟩:=a
  simp [uZ,Ax,Ay,Az,AA,yA,dm,LT.out,qh]
def eW(y2 b:Int):(Unit)→Nat ⊕ (Unit)
 |_=>(bif(Dv b y2)then(.inl 0)else(.inr ()))
def bZ(y2:Int)(y3:List Int)(i:Nat):(Unit)→bA
 |_=>((i:Int),(↑y3.length:Int),y2,y3)
def qv:bA→Unit
 |(_,_,_,_)=>()
theorem Mx(y2:Int)(y3:List Int) (hn:y3.length≤9223372036854775807):
  aO.fin ((0:Int),(↑y3.length:Int),y2,y3)=true∧aO.res ((0:Int),(↑y3.length:Int),y2,y3)=((aU (eW y2) 1 y3 0 ()).1,(bZ y2 y3) (aU (eW y2) 1 y3 0 ()).2.1 (aU (eW y2) 1 y3 0 ()).2.2):=by
 have key:=aO.along (bZ y2 y3) qv (eW y2) 1 (fun _ _=>True) y3 () (by trivial) (by simp only [aO,bZ];omega) (fun i b a hb hI=> ?_) (fun a hI=> ?_)
 ·exact key
 ·obtain⟨⟩:=a
  have hlt:=(List.getElem?_eq_some_iff.1 hb).1
  have hget: ∀ d,Option.getD y3[i]? d=b:=fun d=>by rw [hb];rfl
  have hw:=vu hlt hn
  have hdec:ltI (i:Int) (y3.length:Int)=true:=et (by omega)
  have hnn:leI (0:Int) (i:Int)=true:=dk (by omega)
  have hltd:ltN i y3.length=true:=fJ hlt
  refine⟨?_,?_,?_,?_⟩
  ·simp [iy,iz,iA,iB,iC,iD,ia,aO,LT.nds,allT,bZ,hdec,hnn,hltd,hget]
  ·simp [iy,iz,iA,iB,iC,iD,ia,aO,LT.each,bZ,qv,hw]
  ·simp only [iy,iz,iA,iB,iC,iD,ia,aO,LT.fn,bZ,qv,eW,Int.toNat_natCast,hdec,hnn,hltd,hget,cond_true,Bool.cond_self]
  ·exact fun _ _=>trivial
 ·obtain⟨⟩:=a
  simp [iy,iz,iA,iB,iC,iD,ia,aO,LT.out,bZ]
def BU(y1 y2:List Int)(b:Nat):(Unit)→Nat ⊕ (Unit)
 |_=>(bif(Option.getD y1[b]? (0:Int)!=Option.getD y2[b]? (0:Int))then(.inl 0)else(.inr ()))
def ra(y1 y2:List Int)(i:Nat):(Unit)→ku
 |_=>((i:Int),y1,y2)
def Md:ku→Unit
 |(_,_,_)=>()
theorem agh(y1 y2:List Int) (hn:y1.length≤9223372036854775807) (he:y2.length=y1.length):
  dV.fin ((0:Int),y1,y2)=true∧dV.res ((0:Int),y1,y2)=((aU (BU y1 y2) 1 (List.range y1.length) 0 ()).1,(ra y1 y2) (aU (BU y1 y2) 1 (List.range y1.length) 0 ()).2.1 (aU (BU y1 y2) 1 (List.range y1.length) 0 ()).2.2):=by
 have key:=dV.along (ra y1 y2) Md (BU y1 y2) 1 (fun _ _=>True) (List.range y1.length) () (by trivial) (by simp only [dV,ra,List.length_range];omega) (fun i b a hb hI=> ?_) (fun a hI=> ?_)
 ·exact key
 ·obtain⟨⟩:=a
  obtain⟨rfl,hlt⟩:=qw hb
  have hw:IntKind.i64.wrap ((b:Int) + 1)=((b + 1:Nat):Int):=by rw [aj (by omega) (by omega)];omega
  have hdec:ltI (b:Int) (y1.length:Int)=true:=et (by omega)
  have hnn:leI (0:Int) (b:Int)=true:=dk (by omega)
  have hltd:ltN b y1.length=true:=fJ (by omega)
  refine⟨?_,?_,?_,?_⟩
  ·simp [wn,wo,CF,CG,CH,CI,CJ,Aq,dV,LT.nds,allT,ra,hdec,hnn,hltd,he]
  ·simp [wn,wo,CF,CG,CH,CI,CJ,Aq,dV,LT.each,ra,Md,hw,he]
  ·simp only [wn,wo,CF,CG,CH,CI,CJ,Aq,dV,LT.fn,ra,Md,BU,Int.toNat_natCast,hdec,cond_true]
  ·exact fun _ _=>trivial
 ·obtain⟨⟩:=a
  simp [wn,wo,CF,CG,CH,CI,CJ,Aq,dV,LT.out,ra,List.length_range]
theorem anj(xs ys:List Int)(hn:leN xs.length 9223372036854775807=true):Nr xs ys=eqL xs ys∧Ns xs ys=true:=by
 have hn:=c8.1 hn
 unfold eqL
 by_cases hl:ys.length=xs.length
 ·obtain⟨w1,w2⟩:=agh xs ys hn hl
  have ha:=arb (d:=(0:Int)) hl (P:=fun b=>Option.getD xs[b]? 0 !=Option.getD ys[b]? 0) (fun b=>by simp [bne,BEq.beq])
  rw [kU (P:=fun b=>Option.getD xs[b]? 0 !=Option.getD ys[b]? 0) (j:=0) (fun b=>rfl),ha]at w2
  simp only [LO,LP,Nr,Ns,w1,w2,allT]
  by_cases he:xs=ys
  ·subst he;simp;decide
  ·simp [he,hl]
 ·have hne:xs≠ys:=fun h=>hl (by rw [h])
  simp [LO,LP,Nr,Ns,allT,hne]
  omega
def aa9:List SV→List Entry→Option Out
 | [.one ⟨false,[.ref 0]⟩,.one ⟨false,[.ref 1]⟩],[.row false 2 (.int .i64) x0,.row false 2 (.int .i64) x1]=>some ⟨(.one ⟨false,[(.val (.bool (eqL x0 x1)))]⟩),[(.row false 2 asg x0),(.row false 2 asg x1)],[],[leN x0.length 9223372036854775807]⟩
 |_,_=>none
def lD:PF Tryz.prog:=PF.alt aji aa9 (by
 intro args es o h hnd;unfold aa9 at h;split at h
 ·rename_i x0 x1
  cases h
  have hnd:=gO hnd
  have hh:=anj x0 x1 hnd
  obtain⟨e0,en⟩:=hh
  exact jO rfl (gn en) (by simp only [e0] <;> rfl) rfl rfl
 ·cases h)
theorem aiX{n:Int}(h:2≤n∧n≤8):IntKind.i64.wrap (IntKind.i64.wrap (3 * n) - 1)=3 * n - 1:=by
 rw [aj (x:=3 * n) (by omega) (by omega),aj (by omega) (by omega)]
theorem aoF(n:Int)(ps:List Int):So n ps=isT n ps∧Sp n ps=true:=by
 simp only [Qi,Qj,So,Sp,a6,vt,isT]
 cases h1:inR n 2 8 with
 |false=>simp [allT]
 |true=>
  cases h2:inR (ps.length:Int) 1 4 with
  |false=>simp [allT]
  |true=>
   have h2':=re.1 h2
   obtain⟨w1,w2⟩:=aeF n ps (by omega)
   rw [kU (P:=fun b=> !inR b 0 (3 * n - 1)) (j:=0) (fun b=>by simp only [uQ,aiX (re.1 h1),a6,vt])]at w2
   have e5:(ps.any fun b=> !inR b 0 (3 * n - 1))= !(ps.all fun b=>inR b 0 (3 * n - 1)):=by simp [List.all_eq_not_any_not]
   rw [e5]at w2
   simp only [w1,w2,allT]
   cases (ps.all fun b=>inR b 0 (3 * n - 1)) <;> simp <;> rfl
def Zc:List SV→List Entry→Option Out
 | [.one ⟨true,[.val (.int .i64 x0),.ref 0]⟩],[.row false 2 (.int .i64) x1]=>some ⟨(.one ⟨false,[(.val (.bool (isT x0 x1)))]⟩),[(.row false 2 asg x1)],[],[]⟩
 |_,_=>none
def Bx:PF Tryz.prog:=PF.alt ail Zc (by
 intro args es o h hnd;unfold Zc at h;split at h
 ·rename_i x0 x1
  cases h
  have hh:=aoF x0 x1
  obtain⟨e0,en⟩:=hh
  exact jO rfl (gn en) (by simp only [e0] <;> rfl) rfl rfl
 ·cases h)
theorem amY(n:Int)(h:2≤n∧n≤8)(ps:List Int)(hn:ps.length≤9223372036854775807):
  lv ps n=(ps.any fun b=> !inR b 0 (3 * n - 1))∧lw ps n=true:=by
 obtain⟨w1,w2⟩:=Mx n ps hn
 rw [kU (P:=fun b=> !inR b 0 (3 * n - 1)) (j:=0) (fun b=>by simp only [eW,Dv,aiX h,bn,vt])]at w2
 simp only [lv,Av,lw,mE,sm,tH,tI,tJ,w1,w2,allT,cond_true,and_true,bZ]
 cases (ps.any fun b=> !inR b 0 (3 * n - 1))with
 |true=>exact dk (Int.natCast_nonneg _)
 |false=>rfl
theorem aof(n:Int)(ps:List Int):RW n ps=isT n ps∧RY n ps=true:=by
 simp only [Px,RW,RY,LY,bn,bI,vt,isT]
 cases h1:inR n 2 8 with
 |false=>simp [allT]
 |true=>
  cases h2:inR (ps.length:Int) 1 4 with
  |false=>simp [allT]
  |true=>
   have h2':=re.1 h2
   obtain⟨c1,c2⟩:=amY n (re.1 h1) ps (by omega)
   simp only [c1,c2,allT]
   simp [List.all_eq_not_any_not]
def YX:List SV→List Entry→Option Out
 | [.one ⟨true,[.val (.int .i64 x0),.ref 0]⟩],[.row false 2 (.int .i64) x1]=>some ⟨(.one ⟨false,[(.val (.bool (isT x0 x1)))]⟩),[(.row false 2 asg x1)],[],[]⟩
 |_,_=>none
def Bt:PF Tryz.prog:=PF.alt aig YX (by
 intro args es o h hnd;unfold YX at h;split at h
 ·rename_i x0 x1
  cases h
  have hh:=aof x0 x1
  obtain⟨e0,en⟩:=hh
  exact jO rfl (gn en) (by simp only [e0] <;> rfl) rfl rfl
 ·cases h)
def LF(ps:List Int)(t:Int):Bool:=inR t 0 ((ps.length:Int) - 1)
theorem Zl{ps:List Int}{t:Int}:LF ps t=true↔0≤t∧t < ps.length:=by
 rw [LF,re];omega
theorem am4(t:Int)(ps:List Int)(h:leN ps.length 9223372036854775807=true):ma t ps=LF ps t:=by
 have h:=c8.1 h
 simp only [ma,bn,bI,LF,vt]
 rw [aj (x:=(ps.length:Int) - 1) (by omega) (by omega)]
def tN:List SV→List Entry→Option Out
 | [.one ⟨true,[.val (.int .i64 _x0),.ref 0]⟩,.one ⟨false,[.val (.int .i64 x1)]⟩],[.row false 2 (.int .i64) x2]=>some ⟨(.one ⟨false,[(.val (.bool (LF x2 x1)))]⟩),[(.row false 2 asg x2)],[],[leN x2.length 9223372036854775807]⟩
 |_,_=>none
def cC:PF Tryz.prog:=PF.alt Ho tN (by
 intro args es o h hnd;unfold tN at h;split at h
 ·rename_i _x0 x1 x2
  cases h
  have hnd:=gO hnd
  have hh:=am4 x1 x2 hnd
  have e0:=hh
  exact jO rfl (fun _ h=>by cases h) (by simp only [e0] <;> rfl) rfl rfl
 ·cases h)
theorem apN(xs:List Int)(h:(leN 1 xs.length&&leN xs.length 1048576)=true):CU xs=true:=by
 simp only [Bool.and_eq_true,c8]at h
 simp [CU,allT]
 omega
def Kz:List SV→List Entry→Option Out
 | [.one ⟨false,[.ref 0]⟩],[.row false 2 (.int .i64) x0]=>some ⟨(.one ⟨false,[(.ref 1)]⟩),[(.row false 2 asg x0)],[(.row true 2 asg x0)],[leN 1 x0.length&&leN x0.length 1048576]⟩
 |_,_=>none
def ay:PF Tryz.prog:=PF.alt VC Kz (by
 intro args es o h hnd;unfold Kz at h;split at h
 ·rename_i x0
  cases h
  have hnd:=gO hnd
  have hh:=apN x0 hnd
  have en:=hh
  exact jO rfl (gn en) rfl rfl rfl
 ·cases h)
theorem arp(xs:List Int)(h:leN xs.length 1048576=true):YB xs=true:=by
 have h:=c8.1 h
 simp [YB,allT]
 omega
def aeY:List SV→List Entry→Option Out
 | [.one ⟨false,[.ref 0]⟩],[.row false 2 (.int .i64) x0]=>some ⟨(.one ⟨false,[(.ref 1)]⟩),[(.row false 2 asg x0)],[(.row true 2 asg x0)],[leN x0.length 1048576]⟩
 |_,_=>none
def qk:PF Tryz.prog:=PF.alt ald aeY (by
 intro args es o h hnd;unfold aeY at h;split at h
 ·rename_i x0
  cases h
  have hnd:=gO hnd
  have hh:=arp x0 hnd
  have en:=hh
  exact jO rfl (gn en) rfl rfl rfl
 ·cases h)
def okP(n p:Int):Bool:=inR n 2 8&&inR p 0 (3 * n - 1)
theorem ajz{n p:Int}:okP n p=true↔(2≤n∧n≤8)∧0≤p∧p≤3 * n - 1:=by simp [okP,re]
theorem ajv{n:Int}{ps:List Int}(h:isT n ps=true){p:Int}(hp:p∈ps):okP n p=true:=by
 obtain⟨h1,_,h3⟩:=Dw.1 h
 exact ajz.2 ⟨h1,h3 p hp⟩
theorem ahO{p:Int}(h:0≤p):blk p=p / 3:=by rw [blk,Int.tdiv_eq_ediv_of_nonneg h]
theorem aq7(n p b:Int)(h:okP n p=true):Wd n p b=aad n p b∧Qu n p b=true:=by
 obtain⟨⟨h1,h2⟩,h3,h4⟩:=ajz.1 h
 have e1:IntKind.i64.wrap (Int.tdiv p 3)=blk p:=by
  rw [Int.tdiv_eq_ediv_of_nonneg h3,ahO h3,aj (by omega) (by omega)]
 have e2:IntKind.i64.wrap (blk p + 1)=blk p + 1:=by rw [ahO h3,aj (by omega) (by omega)]
 refine⟨?_,?_⟩
 ·simp only [IQ,Nz,Wd,Qu,e1,e2,aad,phs]
  cases (blk p==b) <;> cases (Int.tmod p 3==2) <;> simp
 ·have hn:neI n 0=true:=aiV (by omega)
  simp [Qu,allT,hn]
def acK:List SV→List Entry→Option Out
 | [.one ⟨false,[.val (.int .i64 x0)]⟩,.one ⟨false,[.val (.int .i64 x1)]⟩,.one ⟨false,[.val (.int .i64 x2)]⟩],[]=>some ⟨(.one ⟨false,[(.val (.bool (aad x0 x1 x2)))]⟩),[],[],[okP x0 x1]⟩
 |_,_=>none
def adp:PF Tryz.prog:=PF.alt aku acK (by
 intro args es o h hnd;unfold acK at h;split at h
 ·rename_i x0 x1 x2
  cases h
  have hnd:=gO hnd
  have hh:=aq7 x0 x1 x2 hnd
  obtain⟨e0,en⟩:=hh
  exact jO rfl (gn en) (by simp only [e0] <;> rfl) rfl rfl
 ·cases h)
end Go.SX

namespace Go.SX
open Go.Proofs
set_option maxRecDepth 100000
def fW(x1:List Int):Bool:=allT [leN (1:Nat) x1.length&&leN x1.length (1048576:Nat)]
def vA:List SV→List Entry→Option Out
 | [.one ⟨true,[.val (.int .i64 x0),.ref 0]⟩],[.row false 2 (.int .i64) x1]=>some ⟨(.one ⟨true,[(.val (.int .i64 x0)),(.ref 1)]⟩),[(.row false 2 asg x1)],[(.row true 2 asg x1)],[(fW x1)]⟩
 |_,_=>none
def bw:PF Tryz.prog:=PF.ofG Tryz.prog [ay,PF.lend ay,PF.fz ay] [] aS 146 Tryz.f146 Tryz.func146 (fun c _=>LOk.nil c) vA (by
 intro vs es r h;unfold vA at h;split at h
 ·cases h;kernel_rfl
 ·cases h)
section
variable (x0 x1:Int)(x2:List Int)
def ja:Int:=IntKind.wrap .i64 ((3:Int) * x0)
def jp:List Int:=List.set x2 x1.toNat (Int.tmod (IntKind.wrap .i64 (Option.getD x2[Int.toNat x1]? (0:Int) + (1:Int))) (ja x0))
def jq:Bool:=allT [fW x2,leI (0:Int) x1,ltI x1 (↑x2.length:Int),ltN x1.toNat x2.length,neI (ja x0) (0:Int),leI (0:Int) x1,ltI x1 (↑x2.length:Int),ltN x1.toNat x2.length]
end
def vB:List SV→List Entry→Option Out
 | [.one ⟨true,[.val (.int .i64 x0),.ref 0]⟩,.one ⟨false,[.val (.int .i64 x1)]⟩],[.row false 2 (.int .i64) x2]=>some ⟨(.one ⟨true,[(.val (.int .i64 x0)),(.ref 1)]⟩),[(.row false 2 asg x2)],[(.row true 2 asg (jp x0 x1 x2))],[(jq x0 x1 x2)]⟩
 |_,_=>none
def Jl:PF Tryz.prog:=PF.ofG Tryz.prog [bw,PF.lend bw,PF.fz bw] [] aS 204 Tryz.f204 Tryz.func204 (fun c _=>LOk.nil c) vB (by
 intro vs es r h;unfold vB at h;split at h
 ·cases h;kernel_rfl
 ·cases h)
abbrev kv:=Int×Int×Int×Int×List Int
section
variable (y0 y1 y2 y3:Int)(y4:List Int)
def va:Int:=Option.getD y4[Int.toNat y0]? (0:Int)
def wv:Bool:=ltI y0 (↑y4.length:Int)
def Db:Bool:=leI (0:Int) y0
def Dc:Bool:=ltN y0.toNat y4.length
def Dd:Bool:=okP y3 (va y0 y4)
def De:Int:=IntKind.wrap .i64 (y0 + (1:Int))
def Df:Int:=bif aad y3 (va y0 y4) y1 then IntKind.wrap .i64 (y2 + (1:Int))else y2
end
def aed:kv→List (Nat×SV)
 |(y0,y1,y2,_,_)=> [(6,(.one ⟨false,[(.val (.int .i64 y0))]⟩)),(2,(.one ⟨false,[(.ptr 0 0)]⟩)),(1,(.one ⟨false,[(.val (.int .i64 y1))]⟩)),(5,(.one ⟨false,[(.val (.int .i64 y2))]⟩))]
def ad5:kv→List (Nat×Entry)
 |(_,_,_,y3,y4)=> [(0,(.box 26 [(.val (.int .i64 y3)),(.ref 1)])),(1,(.row false 2 asg y4))]
def aet:Nat→kv→List (Nat×SV)
 |_,(_,_,y2,_,_)=> [(5,(.one ⟨false,[(.val (.int .i64 y2))]⟩))]
def ael:Nat→kv→List (Nat×Entry)
 |_,(_,_,_,y3,y4)=> [(0,(.box 26 [(.val (.int .i64 y3)),(.ref 1)])),(1,(.row false 2 asg y4))]
def As:kv→LT kv
 |(y0,y1,y2,y3,y4)=> .ite (wv y0 y4) (.need [(Db y0),(wv y0 y4),(Dc y0 y4),(Dd y0 y3 y4)] (.nrm ((De y0),y1,(Df y0 y1 y2 y3 y4),y3,y4) [(0,0),(1,1)])) (.ext 0 [(0,0),(1,1)])
def Mm(s:St):Option kv:=
 (match s.look 6 with
 |some ⟨none,(.one ⟨false,[(.val (.int .i64 y0))]⟩)⟩=>
 (match s.look 2 with
 |some ⟨none,(.one ⟨false,[(.ptr 128 0)]⟩)⟩=>
 (match s.look 1 with
 |some ⟨none,(.one ⟨false,[(.val (.int .i64 y1))]⟩)⟩=>
 (match s.look 5 with
 |some ⟨none,(.one ⟨false,[(.val (.int .i64 y2))]⟩)⟩=>
 (match s.ent 128 with
 |some (.box 26 [(.val (.int .i64 y3)),(.ref 0)])=>
 (match s.ent 0 with
 |some (.row false 2 (.int .i64) y4)=>
 some (y0,y1,y2,y3,y4)
 |_=>none)
 |_=>none)
 |_=>none)
 |_=>none)
 |_=>none)
 |_=>none)
def fe:Lp kv where
 h:=⟨[7,8,9,10,11,14,15,16,17,18,19,20,21,22,23,24,5,12,13,6],[0,1],[],[]⟩
 JL:=aed
 JE:=ad5
 XL:=aet
 XE:=ael
 q:=fun j=>match j with | _=> .exit 0
 tags:= [0]
 lt:=As
 fuel:=fun(y0,y1,y2,y3,y4)=>y0.natAbs + y1.natAbs + y2.natAbs + y3.natAbs + y4.length
 fix:=fun(_,y1,_,y3,y4) (y0,_,y2,_,_)=>(y0,y1,y2,y3,y4)
 σ:= [(0,128),(1,0)]
 rd:=Mm
theorem ab1:LoopOk Tryz.prog (fun k=>Nat.blt k Tryz.f175.ntmps) fe.F (aT Tryz.f175 0):=by
 refine Lp.ok (tbl:= [adp]) (lf:= []) aS fe (by kernel_rfl) (LOk.nil _) (fun _=>rfl) (fun _ _=>rfl) ?_ ?_ ?_ ?_ (fun _=>rfl) ?_
 ·rintro⟨y0,y1,y2,y3,y4⟩;kernel_rfl
 ·rintro⟨y0,y1,y2,y3,y4⟩;kernel_rfl
 ·intro s x h
  have h:Mm s=some x:=h
  unfold Mm at h
  repeat' split at h
  all_goals cases h
  exact⟨aa (by assumption) rfl (aa (by assumption) rfl (aa (by assumption) rfl (aa (by assumption) rfl (rfl)))),ab rfl (by assumption) rfl (ab rfl (by assumption) rfl (rfl))⟩
 ·rintro⟨y0,y1,y2,y3,y4⟩;kernel_rfl
 ·rintro⟨y0,y1,y2,y3,y4⟩ z;exact(And.intro rfl trivial)
section
variable (x0 x1:Int)(x2:List Int)
def LR:Int×Int×Int×Int×List Int:=((0:Int),x1,(0:Int),x0,x2)
def Nv:Int:=((Lp.res fe (LR x0 x1 x2)).2.2.2).1
def Nw:Bool:=allT [Lp.fin fe (LR x0 x1 x2)]
end
def aa2:List SV→List Entry→Option Out
 | [.one ⟨true,[.val (.int .i64 x0),.ref 0]⟩,.one ⟨false,[.val (.int .i64 x1)]⟩],[.row false 2 (.int .i64) x2]=>some ⟨(.one ⟨false,[(.val (.int .i64 (Nv x0 x1 x2)))]⟩),[(.row false 2 asg x2)],[],[(Nw x0 x1 x2)]⟩
 |_,_=>none
def ajl:PF Tryz.prog:=PF.ofG Tryz.prog [adp] [fe.F] aS 175 Tryz.f175 Tryz.func175 (LOk.fnT (l:= [aT Tryz.f175 0]) (by kernel_rfl) (.cons ab1 (.nil _))) aa2 (by
 intro vs es r h;unfold aa2 at h;split at h
 ·cases h;kernel_rfl
 ·cases h)
section
variable (x0 x1:Int)(x2:List Int)
def Ny:Int:=IntKind.wrap .i64 ((3:Int) * x0)
def Qs:List Int:=List.set x2 x1.toNat (Int.tmod (IntKind.wrap .i64 (Option.getD x2[Int.toNat x1]? (0:Int) + (1:Int))) (Ny x0))
def Qt:Bool:=allT [leN x2.length (1048576:Nat),leI (0:Int) x1,ltI x1 (↑x2.length:Int),ltN x1.toNat x2.length,neI (Ny x0) (0:Int),leI (0:Int) x1,ltI x1 (↑x2.length:Int),ltN x1.toNat x2.length]
end
def acg:List SV→List Entry→Option Out
 | [.one ⟨true,[.val (.int .i64 x0),.ref 0]⟩,.one ⟨false,[.val (.int .i64 x1)]⟩],[.row false 2 (.int .i64) x2]=>some ⟨(.one ⟨true,[(.val (.int .i64 x0)),(.ref 1)]⟩),[(.row false 2 asg x2)],[(.row true 2 asg (Qs x0 x1 x2))],[(Qt x0 x1 x2)]⟩
 |_,_=>none
def akt:PF Tryz.prog:=PF.ofG Tryz.prog [qk,PF.lend qk,PF.fz qk] [] aS 178 Tryz.f178 Tryz.func178 (fun c _=>LOk.nil c) acg (by
 intro vs es r h;unfold acg at h;split at h
 ·cases h;kernel_rfl
 ·cases h)
end Go.SX

namespace Go.SX
open Go.Proofs
set_option maxRecDepth 100000
def ah7(n:Int)(ps:List Int)(t:Int):List Int:=ps.set t.toNat (Int.tmod (ps[t.toNat]?.getD 0 + 1) (3 * n))
theorem aiT(n:Int)(ps:List Int)(t:Int):(ah7 n ps t).length=ps.length:=by simp [ah7]
theorem aqN{n:Int}{ps:List Int}(h:isT n ps=true)(t:Int):isT n (ah7 n ps t)=true:=by
 obtain⟨h1,h2,h3⟩:=Dw.1 h
 refine Dw.2 ⟨h1,by rw [aiT];exact h2,fun p hp=> ?_⟩
 rcases List.mem_or_eq_of_mem_set hp with hp | rfl
 ·exact h3 p hp
 ·have h0:0≤ps[t.toNat]?.getD 0:=by
   cases hg:ps[t.toNat]? with
   |none=>simp
   |some q=>exact(h3 q (List.mem_of_getElem? hg)).1
  have:=Int.emod_lt_of_pos (ps[t.toNat]?.getD 0 + 1) (show 0 < 3 * n by omega)
  have:=Int.emod_nonneg (ps[t.toNat]?.getD 0 + 1) (show 3 * n≠0 by omega)
  rw [Int.tmod_eq_emod_of_nonneg (by omega)]
  omega
def ZJ(n:Int)(ps:List Int)(t:Int):Bool:=isT n ps&&LF ps t
theorem ahe{n:Int}{ps:List Int}{t:Int}:ZJ n ps t=true↔isT n ps=true∧LF ps t=true:=by simp [ZJ]
theorem ah8{n:Int}{ps:List Int}{t:Int}(h:ZJ n ps t=true):IntKind.i64.wrap (3 * n)=3 * n∧IntKind.i64.wrap (ps[t.toNat]?.getD 0 + 1)=ps[t.toNat]?.getD 0 + 1∧neI (3 * n) 0=true∧
  leI 0 t=true∧ltI t ps.length=true∧ltN t.toNat ps.length=true∧leN ps.length 1048576=true∧leN 1 ps.length=true:=by
 obtain⟨hT,ht⟩:=ahe.1 h
 obtain⟨h1,h2,h3⟩:=Dw.1 hT
 have h4:=Zl.1 ht
 have hlt:t.toNat < ps.length:=by omega
 have hg:ps[t.toNat]?.getD 0=ps[t.toNat]:=by rw [List.getElem?_eq_getElem hlt];rfl
 have h5:=h3 _ (List.getElem_mem hlt)
 rw [hg]
 exact⟨aj (by omega) (by omega),aj (by omega) (by omega),aiV (by omega),dk h4.1,et h4.2,fJ hlt,br (by omega),br h2.1⟩
theorem anE(n t:Int)(ps:List Int)(h:ZJ n ps t=true):Qs n t ps=ah7 n ps t∧Qt n t ps=true:=by
 obtain⟨e1,e2,e3,e4,e5,e6,e7,e8⟩:=ah8 h
 refine⟨?_,?_⟩
 ·simp only [Ny,Qs,Qt,e1,e2,ah7]
 ·simp only [Ny,Qs,Qt,e1,e3,e4,e5,e6,e7,allT,cond_true]
def acJ:List SV→List Entry→Option Out
 | [.one ⟨true,[.val (.int .i64 x0),.ref 0]⟩,.one ⟨false,[.val (.int .i64 x1)]⟩],[.row false 2 (.int .i64) x2]=>some ⟨(.one ⟨true,[(.val (.int .i64 x0)),(.ref 1)]⟩),[(.row false 2 asg x2)],[(.row true 2 asg (ah7 x0 x2 x1))],[ZJ x0 x2 x1]⟩
 |_,_=>none
def Vt:PF Tryz.prog:=PF.alt akt acJ (by
 intro args es o h hnd;unfold acJ at h;split at h
 ·rename_i x0 x1 x2
  cases h
  have hnd:=gO hnd
  have hh:=anE x0 x1 x2 hnd
  obtain⟨e0,en⟩:=hh
  exact jO rfl (gn en) rfl rfl (by simp only [e0] <;> rfl)
 ·cases h)
theorem am8(n t:Int)(ps:List Int)(h:ZJ n ps t=true):jp n t ps=ah7 n ps t∧jq n t ps=true:=by
 obtain⟨e1,e2,e3,e4,e5,e6,e7,e8⟩:=ah8 h
 refine⟨?_,?_⟩
 ·simp only [ja,jp,jq,e1,e2,ah7]
 ·simp only [ja,jp,jq,fW,e1,e3,e4,e5,e6,e7,e8,allT,cond_true,Bool.and_self]
def vC:List SV→List Entry→Option Out
 | [.one ⟨true,[.val (.int .i64 x0),.ref 0]⟩,.one ⟨false,[.val (.int .i64 x1)]⟩],[.row false 2 (.int .i64) x2]=>some ⟨(.one ⟨true,[(.val (.int .i64 x0)),(.ref 1)]⟩),[(.row false 2 asg x2)],[(.row true 2 asg (ah7 x0 x2 x1))],[ZJ x0 x2 x1]⟩
 |_,_=>none
def nW:PF Tryz.prog:=PF.alt Jl vC (by
 intro args es o h hnd;unfold vC at h;split at h
 ·rename_i x0 x1 x2
  cases h
  have hnd:=gO hnd
  have hh:=am8 x0 x1 x2 hnd
  obtain⟨e0,en⟩:=hh
  exact jO rfl (gn en) rfl rfl (by simp only [e0] <;> rfl)
 ·cases h)
def sd(y1 y3 b:Int):(Int)→Nat ⊕ (Int)
 |y2=>(.inr (bif aad y3 b y1 then IntKind.wrap .i64 (y2 + (1:Int))else y2))
def nG(y1 y3:Int)(y4:List Int)(i:Nat):(Int)→kv
 |y2=>((i:Int),y1,y2,y3,y4)
def Me:kv→Int
 |(_,_,y2,_,_)=>y2
theorem agi(y1 y3:Int)(y4:List Int)(y2:Int)(hn:y4.length≤9223372036854775807)(hT: ∀ p∈y4,okP y3 p=true)(h4:y4.length≤4)(h2:y2=0):
  fe.fin ((0:Int),y1,y2,y3,y4)=true∧fe.res ((0:Int),y1,y2,y3,y4)=((aU (sd y1 y3) 0 y4 0 y2).1,(nG y1 y3 y4) (aU (sd y1 y3) 0 y4 0 y2).2.1 (aU (sd y1 y3) 0 y4 0 y2).2.2):=by
 have key:=fe.along (nG y1 y3 y4) Me (sd y1 y3) 0 (fun i a=>0≤a∧a≤i) y4 y2 (by omega) (by simp only [fe,nG];omega) (fun i b a hb hI=> ?_) (fun a hI=> ?_)
 ·exact key
 ·obtain y2:=a
  have hlt:=(List.getElem?_eq_some_iff.1 hb).1
  have hget: ∀ d,Option.getD y4[i]? d=b:=fun d=>by rw [hb];rfl
  have hw:=vu hlt hn
  have hdec:ltI (i:Int) (y4.length:Int)=true:=et (by omega)
  have hnn:leI (0:Int) (i:Int)=true:=dk (by omega)
  have hltd:ltN i y4.length=true:=fJ hlt
  refine⟨?_,?_,?_,?_⟩
  ·simp [va,wv,Db,Dc,Dd,De,Df,As,fe,LT.nds,allT,nG,hdec,hnn,hltd,hget,hT b (List.mem_of_getElem? hb)]
  ·simp [va,wv,Db,Dc,Dd,De,Df,As,fe,LT.each,nG,Me,hw,hT b (List.mem_of_getElem? hb)]
  ·simp only [va,wv,Db,Dc,Dd,De,Df,As,fe,LT.fn,nG,Me,sd,Int.toNat_natCast,hdec,hget,cond_true]
  ·intro a' hf;simp only [sd,Sum.inr.injEq]at hf;subst hf;cases aad y3 b y1 <;> simp only [cond_true,cond_false] <;> (try rw [aj (by omega) (by omega)]) <;> omega
 ·obtain y2:=a
  simp [va,wv,Db,Dc,Dd,De,Df,As,fe,LT.out,nG]
theorem ajK(n b:Int): ∀ (ps:List Int) (a:Int),0≤a→a + ps.length≤100→ps.foldl (fun a p=>bif aad n p b then IntKind.wrap .i64 (a + (1:Int))else a) a=a + (aav n ps b:Int)
 | [],a,_,_=>by simp [aav]
 |p::ps,a,h0,h1=>by
  simp only [List.length_cons]at h1
  simp only [List.foldl_cons,aav,List.countP_cons]
  cases hu:aad n p b with
  |true=>
   rw [cond_true,aj (by omega) (by omega),ajK n b ps (a + 1) (by omega) (by omega)]
   simp only [aav]
   simp;omega
  |false=>
   rw [cond_false,ajK n b ps a h0 (by omega)]
   simp [aav]
theorem apP(n b:Int)(ps:List Int)(h:isT n ps=true):Nv n b ps=(aav n ps b:Int)∧Nw n b ps=true:=by
 have h2:=(Dw.1 h).2.1
 obtain⟨w1,w2⟩:=agi b n ps 0 (by omega) (fun p hp=>ajv h hp) h2.2 rfl
 rw [ko (f:=sd b n) (g:=fun a p=>bif aad n p b then IntKind.wrap .i64 (a + (1:Int))else a) (fun p a=>rfl),ajK n b ps 0 (by omega) (by omega)]at w2
 refine⟨?_,?_⟩
 ·simp only [LR,Nv,Nw,w2,nG];omega
 ·simp only [LR,Nv,Nw,w1,allT,cond_true]
def abc:List SV→List Entry→Option Out
 | [.one ⟨true,[.val (.int .i64 x0),.ref 0]⟩,.one ⟨false,[.val (.int .i64 x1)]⟩],[.row false 2 (.int .i64) x2]=>some ⟨(.one ⟨false,[(.val (.int .i64 (aav x0 x2 x1:Int)))]⟩),[(.row false 2 asg x2)],[],[isT x0 x2]⟩
 |_,_=>none
def rV:PF Tryz.prog:=PF.alt ajl abc (by
 intro args es o h hnd;unfold abc at h;split at h
 ·rename_i x0 x1 x2
  cases h
  have hnd:=gO hnd
  have hh:=apP x0 x1 x2 hnd
  obtain⟨e0,en⟩:=hh
  exact jO rfl (gn en) (by simp only [e0] <;> rfl) rfl rfl
 ·cases h)
end Go.SX

namespace Go.SX
open Go.Proofs
def DI:PF Tryz.prog:=PF.sort 235 2 (fun blk off cap zs w h1 h2 h3=>AnyM.slices_Sort_int Tryz.laysSort blk off cap zs w h1 h2 h3)
end Go.SX

namespace Go.SX
open Go.Proofs
set_option maxRecDepth 100000
section
variable (x0 x1:Int)(x2:List Int)
def du:Int:=Option.getD x2[Int.toNat x1]? (0:Int)
def fX:Bool:=Int.tmod (du x1 x2) (3:Int)!=(2:Int)
def jr:List Int:= [IntKind.wrap .i64 (Int.tdiv (du x1 x2) (3:Int)),Int.tmod (IntKind.wrap .i64 (IntKind.wrap .i64 (Int.tdiv (du x1 x2) (3:Int)) + (1:Int))) x0]
def jH:List Int:=bif fX x1 x2 then [IntKind.wrap .i64 (Int.tdiv (du x1 x2) (3:Int))]else ahz (jr x0 x1 x2)
def jI:Bool:=allT [leI (0:Int) x1,ltI x1 (↑x2.length:Int),ltN x1.toNat x2.length,leI (0:Int) x1,ltI x1 (↑x2.length:Int),ltN x1.toNat x2.length,fX x1 x2||neI x0 (0:Int),fX x1 x2||leN (List.length (jr x0 x1 x2)) (4611686018427387903:Nat)]
end
def wK:List SV→List Entry→Option Out
 | [.one ⟨true,[.val (.int .i64 x0),.ref 0]⟩,.one ⟨false,[.val (.int .i64 x1)]⟩],[.row false 2 (.int .i64) x2]=>some ⟨(.one ⟨false,[(.ref 1)]⟩),[(.row false 2 asg x2)],[(.row true 2 asg (jH x0 x1 x2))],[(jI x0 x1 x2)]⟩
 |_,_=>none
def Kn:PF Tryz.prog:=PF.ofG Tryz.prog [DI,PF.lend DI,PF.fz DI] [] aS 210 Tryz.f210 Tryz.func210 (fun c _=>LOk.nil c) wK (by
 intro vs es r h;unfold wK at h;split at h
 ·cases h;kernel_rfl
 ·cases h)
end Go.SX

namespace Go.SX
open Go.Proofs
set_option maxRecDepth 100000
def Tj(n p:Int):List Int:=bif phs p !=2 then [blk p]else ahz [blk p,Int.tmod (blk p + 1) n]
theorem aqn(a b:Int):ahz [a,b]=bif leI a b then [a,b]else [b,a]:=by
 unfold ahz
 have hp:=List.mergeSort_perm [a,b] (fun x y=>decide (x≤y))
 have hs:=List.pairwise_mergeSort (le:=fun(x y:Int)=>decide (x≤y)) (fun x y z h1 h2=>by simp at h1 h2 ⊢;omega) (fun x y=>by simp;omega) [a,b]
 generalize hm:List.mergeSort [a,b] (fun x y=>decide (x≤y))=l at hp hs
 have hl:=hp.length_eq
 match l,hl with
 | [x,y],_=>
  simp at hs
  have hx:x∈ [a,b]:=hp.subset (by simp)
  simp at hx
  rcases hx with rfl | rfl
  ·have:=(List.perm_cons x).1 hp
   rw [List.perm_singleton]at this
   simp at this;subst this
   rw [dk hs];rfl
  ·have h2:=hp.trans (List.Perm.swap x a [])
   have:=(List.perm_cons x).1 h2
   rw [List.perm_singleton]at this
   simp at this;subst this
   cases hq:leI y x with
   |false=>rfl
   |true=>
    have:=aE.1 hq;have:x=y:=by omega
    subst this;rfl
def atI(xs:List Int)(t:Int):Int:=xs[t.toNat]?.getD 0
theorem aq5(n t:Int)(ps:List Int)(h:ZJ n ps t=true):jH n t ps=Tj n (atI ps t)∧jI n t ps=true:=by
 obtain⟨e1,e2,e3,e4,e5,e6,e7,e8⟩:=ah8 h
 obtain⟨hT,ht⟩:=ahe.1 h
 obtain⟨h1,h2,h3⟩:=Dw.1 hT
 have h4:=Zl.1 ht
 have hlt:t.toNat < ps.length:=by omega
 have hg:ps[t.toNat]?.getD 0=ps[t.toNat]:=by rw [List.getElem?_eq_getElem hlt];rfl
 have h5:=h3 _ (List.getElem_mem hlt)
 rw [← hg]at h5
 have f1:IntKind.i64.wrap (Int.tdiv (ps[t.toNat]?.getD 0) 3)=blk (ps[t.toNat]?.getD 0):=by
  rw [Int.tdiv_eq_ediv_of_nonneg h5.1,ahO h5.1,aj (by omega) (by omega)]
 have f2:IntKind.i64.wrap (blk (ps[t.toNat]?.getD 0) + 1)=blk (ps[t.toNat]?.getD 0) + 1:=by rw [ahO h5.1,aj (by omega) (by omega)]
 have f3:neI n 0=true:=aiV (by omega)
 refine⟨?_,?_⟩
 ·simp only [du,fX,jr,jH,jI,f1,f2,Tj,phs,atI]
 ·simp [du,fX,jr,jH,jI,e4,e5,e6,f3,allT]
def wQ:List SV→List Entry→Option Out
 | [.one ⟨true,[.val (.int .i64 x0),.ref 0]⟩,.one ⟨false,[.val (.int .i64 x1)]⟩],[.row false 2 (.int .i64) x2]=>some ⟨(.one ⟨false,[(.ref 1)]⟩),[(.row false 2 asg x2)],[(.row true 2 asg (Tj x0 (atI x2 x1)))],[ZJ x0 x2 x1]⟩
 |_,_=>none
def bD:PF Tryz.prog:=PF.alt Kn wQ (by
 intro args es o h hnd;unfold wQ at h;split at h
 ·rename_i x0 x1 x2
  cases h
  have hnd:=gO hnd
  have hh:=aq5 x0 x1 x2 hnd
  obtain⟨e0,en⟩:=hh
  exact jO rfl (gn en) rfl rfl (by simp only [e0] <;> rfl)
 ·cases h)
theorem aoQ{n p:Int}(h:okP n p=true):(∀ u∈Tj n p,0≤u∧u < n)∧(Tj n p).length≤2∧ ∀ b:Nat,(Tj n p).count (b:Int)=bif aad n p (b:Int)then 1 else 0:=by
 obtain⟨⟨h1,h2⟩,h3,h4⟩:=ajz.1 h
 have hb:=ahO h3
 have hm:Int.tmod (blk p + 1) n=(blk p + 1) % n:=Int.tmod_eq_emod_of_nonneg (by rw [hb];omega)
 have hb0:0≤blk p∧blk p < n:=by rw [hb];omega
 have hm0:=Int.emod_nonneg (blk p + 1) (show n≠0 by omega)
 have hm1:=Int.emod_lt_of_pos (blk p + 1) (show 0 < n by omega)
 have hne:(blk p + 1) % n≠blk p:=by
  by_cases hq:blk p + 1=n
  ·rw [hq,Int.emod_self];omega
  ·rw [Int.emod_eq_of_lt (by omega) (by omega)];omega
 unfold Tj aad
 rw [hm,aqn]
 generalize (blk p + 1) % n=q at *
 generalize blk p=a at *
 cases hp:phs p==2 with
 |false=>
  simp only [bne,hp,Bool.not_false,cond_true,Bool.false_and,Bool.or_false]
  refine⟨fun u hu=>by simp at hu;omega,by simp,fun b=> ?_⟩
  simp only [List.count_cons,List.count_nil]
  cases hab:a==(b:Int) <;> simp [hab]
 |true=>
  simp only [bne,hp,Bool.not_true,cond_false,Bool.true_and]
  have key: ∀ b:Nat,(if (a==(b:Int))=true then 1 else 0) + (if (q==(b:Int))=true then 1 else 0)=(bif a==(b:Int)||q==(b:Int)then 1 else 0:Nat):=by
   intro b
   cases hab:a==(b:Int) <;> cases hqb:q==(b:Int) <;> simp
   have:=eq_of_beq hab;have:=eq_of_beq hqb;omega
  cases leI a q with
  |true=>
   refine⟨fun u hu=>by simp at hu;omega,by simp,fun b=> ?_⟩
   rw [← key b];simp [List.count_cons];omega
  |false=>
   refine⟨fun u hu=>by simp at hu;omega,by simp,fun b=> ?_⟩
   rw [← key b];simp [List.count_cons]
end Go.SX

namespace Go.SX
open Go.Proofs
set_option maxRecDepth 100000
abbrev aY:=Int×Int×List Int×List Int
section
variable (y0 y1:Int)(y2 y3:List Int)
def bd:Int:=Option.getD y2[Int.toNat y0]? (0:Int)
def dD:Bool:=ltI y0 y1
def dE:Bool:=leI (0:Int) y0
def dF:Bool:=ltI y0 (↑y2.length:Int)
def dG:Bool:=ltN y0.toNat y2.length
def cf:Bool:=leI (0:Int) (bd y0 y2)
def cg:Bool:=ltI (bd y0 y2) (↑y3.length:Int)
def ci:Bool:=ltN (Int.toNat (bd y0 y2)) y3.length
def dH:Int:=IntKind.wrap .i64 (y0 + (1:Int))
def dI:List Int:=List.set y3 (Int.toNat (bd y0 y2)) (IntKind.wrap .i64 (Option.getD y3[Int.toNat (bd y0 y2)]? (0:Int) + (1:Int)))
end
def Fb:aY→List (Nat×SV)
 |(y0,y1,_,_)=> [(20,(.one ⟨false,[(.val (.int .i64 y0))]⟩)),(19,(.one ⟨false,[(.val (.int .i64 y1))]⟩)),(18,(.one ⟨false,[(.ref 0)]⟩)),(3,(.one ⟨false,[(.ref 1)]⟩))]
def Fa:aY→List (Nat×Entry)
 |(_,_,y2,y3)=> [(0,(.row true 2 asg y2)),(1,(.row true 2 asg y3))]
def Fd:Nat→aY→List (Nat×SV)
 |_,(_,_,_,_)=> []
def Fc:Nat→aY→List (Nat×Entry)
 |_,(_,_,y2,y3)=> [(0,(.row true 2 asg y2)),(1,(.row true 2 asg y3))]
def dy:aY→LT aY
 |(y0,y1,y2,y3)=> .ite (dD y0 y1) (.need [(dE y0),(dF y0 y2),(dG y0 y2)] (.need [(cf y0 y2),(cg y0 y2 y3),(ci y0 y2 y3),(cf y0 y2),(cg y0 y2 y3),(ci y0 y2 y3)] (.nrm ((dH y0),y1,y2,(dI y0 y2 y3)) [(0,0),(1,1)]))) (.ext 0 [(0,0),(1,1)])
def kD(s:St):Option aY:=
 (match s.look 20 with
 |some ⟨none,(.one ⟨false,[(.val (.int .i64 y0))]⟩)⟩=>
 (match s.look 19 with
 |some ⟨none,(.one ⟨false,[(.val (.int .i64 y1))]⟩)⟩=>
 (match s.look 18 with
 |some ⟨none,(.one ⟨false,[(.ref 384)]⟩)⟩=>
 (match s.look 3 with
 |some ⟨none,(.one ⟨false,[(.ref 1)]⟩)⟩=>
 (match s.ent 384 with
 |some (.row true 2 (.int .i64) y2)=>
 (match s.ent 1 with
 |some (.row true 2 (.int .i64) y3)=>
 some (y0,y1,y2,y3)
 |_=>none)
 |_=>none)
 |_=>none)
 |_=>none)
 |_=>none)
 |_=>none)
def ap:Lp aY where
 h:=⟨[21,22,23,6,24,25,26,27,28,29,30,20],[0,1],[],[]⟩
 JL:=Fb
 JE:=Fa
 XL:=Fd
 XE:=Fc
 q:=fun j=>match j with | _=> .exit 2
 tags:= [0]
 lt:=dy
 fuel:=fun(y0,y1,y2,y3)=>y0.natAbs + y1.natAbs + y2.length + y3.length
 fix:=fun(_,y1,y2,_) (y0,_,_,y3)=>(y0,y1,y2,y3)
 σ:= [(0,384),(1,1)]
 rd:=kD
theorem DG:LoopOk Tryz.prog (memN [14,15,4,16,17,18,19,20,21,22,23,6,24,25,26,27,28,29,30,31,13]) ap.F (ade (aT Tryz.f157 0) 0):=by
 refine Lp.ok (tbl:= [bD,PF.lend bD,PF.fz bD,aK,PF.lend aK,PF.fz aK]) (lf:= []) aS ap (by kernel_rfl) (LOk.nil _) (fun _=>rfl) (fun _ _=>rfl) ?_ ?_ ?_ ?_ (fun _=>rfl) ?_
 ·rintro⟨y0,y1,y2,y3⟩;kernel_rfl
 ·rintro⟨y0,y1,y2,y3⟩;kernel_rfl
 ·intro s x h
  have h:kD s=some x:=h
  unfold kD at h
  repeat' split at h
  all_goals cases h
  exact⟨aa (by assumption) rfl (aa (by assumption) rfl (aa (by assumption) rfl (aa (by assumption) rfl (rfl)))),ab rfl (by assumption) rfl (ab rfl (by assumption) rfl (rfl))⟩
 ·rintro⟨y0,y1,y2,y3⟩;kernel_rfl
 ·rintro⟨y0,y1,y2,y3⟩ z;exact(And.intro rfl trivial)
abbrev ba:=Int×Int×Int×List Int×List Int
section
variable (y0 y1 y2:Int)(y3 y4:List Int)
def cB:Int×Int×List Int×List Int:=((0:Int),(↑(List.length (Tj y2 (atI y4 y0))):Int),Tj y2 (atI y4 y0),y3)
def eG:Bool:=ltI y0 y1
def eH:Bool:=ZJ y2 y4 y0
def eI:Bool:=Lp.fin ap (cB y0 y2 y3 y4)
def eJ:Int:=IntKind.wrap .i64 (y0 + (1:Int))
def eK:List Int:=(Lp.res ap (cB y0 y2 y3 y4)).2.2.2.2
end
def Hh:ba→List (Nat×SV)
 |(y0,y1,_,_,_)=> [(13,(.one ⟨false,[(.val (.int .i64 y0))]⟩)),(12,(.one ⟨false,[(.val (.int .i64 y1))]⟩)),(1,(.one ⟨false,[(.ptr 0 0)]⟩)),(3,(.one ⟨false,[(.ref 1)]⟩))]
def Hf:ba→List (Nat×Entry)
 |(_,_,y2,y3,y4)=> [(0,(.box 26 [(.val (.int .i64 y2)),(.ref 2)])),(1,(.row true 2 asg y3)),(2,(.row false 2 asg y4))]
def Hl:Nat→ba→List (Nat×SV)
 |_,(_,_,_,_,_)=> []
def Hj:Nat→ba→List (Nat×Entry)
 |_,(_,_,y2,y3,y4)=> [(0,(.box 26 [(.val (.int .i64 y2)),(.ref 2)])),(1,(.row true 2 asg y3)),(2,(.row false 2 asg y4))]
def eu:ba→LT ba
 |(y0,y1,y2,y3,y4)=> .ite (eG y0 y1) (.need [(eH y0 y2 y4)] (.need [(eI y0 y2 y3 y4)] (.nrm ((eJ y0),y1,y2,(eK y0 y2 y3 y4),y4) [(0,0),(1,1),(2,2)]))) (.ext 0 [(0,0),(1,1),(2,2)])
def md(s:St):Option ba:=
 (match s.look 13 with
 |some ⟨none,(.one ⟨false,[(.val (.int .i64 y0))]⟩)⟩=>
 (match s.look 12 with
 |some ⟨none,(.one ⟨false,[(.val (.int .i64 y1))]⟩)⟩=>
 (match s.look 1 with
 |some ⟨none,(.one ⟨false,[(.ptr 128 0)]⟩)⟩=>
 (match s.look 3 with
 |some ⟨none,(.one ⟨false,[(.ref 384)]⟩)⟩=>
 (match s.ent 128 with
 |some (.box 26 [(.val (.int .i64 y2)),(.ref 0)])=>
 (match s.ent 384 with
 |some (.row true 2 (.int .i64) y3)=>
 (match s.ent 0 with
 |some (.row false 2 (.int .i64) y4)=>
 some (y0,y1,y2,y3,y4)
 |_=>none)
 |_=>none)
 |_=>none)
 |_=>none)
 |_=>none)
 |_=>none)
 |_=>none)
def aM:Lp ba where
 h:=⟨[14,15,4,16,17,18,19,20,21,22,23,6,24,25,26,27,28,29,30,31,13],[0,1,2],[],[]⟩
 JL:=Hh
 JE:=Hf
 XL:=Hl
 XE:=Hj
 q:=fun j=>match j with | _=> .exit 0
 tags:= [0]
 lt:=eu
 fuel:=fun(y0,y1,y2,y3,y4)=>y0.natAbs + y1.natAbs + y2.natAbs + y3.length + y4.length
 fix:=fun(_,y1,y2,_,y4) (y0,_,_,y3,_)=>(y0,y1,y2,y3,y4)
 σ:= [(0,128),(1,384),(2,0)]
 rd:=md
theorem FN:LoopOk Tryz.prog (fun k=>Nat.blt k Tryz.f157.ntmps) aM.F (aT Tryz.f157 0):=by
 refine Lp.ok (tbl:= [bD,PF.lend bD,PF.fz bD,aK,PF.lend aK,PF.fz aK]) (lf:= [ap.F]) aS aM (by kernel_rfl) (LOk.allT (l:= [ade (aT Tryz.f157 0) 0]) (by kernel_rfl) (.cons DG (.nil _))) (fun _=>rfl) (fun _ _=>rfl) ?_ ?_ ?_ ?_ (fun _=>rfl) ?_
 ·rintro⟨y0,y1,y2,y3,y4⟩;kernel_rfl
 ·rintro⟨y0,y1,y2,y3,y4⟩;kernel_rfl
 ·intro s x h
  have h:md s=some x:=h
  unfold md at h
  repeat' split at h
  all_goals cases h
  exact⟨aa (by assumption) rfl (aa (by assumption) rfl (aa (by assumption) rfl (aa (by assumption) rfl (rfl)))),ab rfl (by assumption) rfl (ab rfl (by assumption) rfl (ab rfl (by assumption) rfl (rfl)))⟩
 ·rintro⟨y0,y1,y2,y3,y4⟩;kernel_rfl
 ·rintro⟨y0,y1,y2,y3,y4⟩ z;exact(And.intro rfl trivial)
section
variable (x0:Int)(x1:List Int)
def jt:Int×Int×Int×List Int×List Int:=((0:Int),bI x1,x0,List.replicate x0.toNat (0:Int),x1)
def pb:List Int:=((Lp.res aM (jt x0 x1)).2.2.2.2).1
def pc:Bool:=allT [leI (0:Int) x0,leI x0 x0,leI ((↑(8:Nat):Int) * x0) (281474976710656:Int),leI x0 (9223372036854775807:Int),Lp.fin aM (jt x0 x1)]
end
def wL:List SV→List Entry→Option Out
 | [.one ⟨true,[.val (.int .i64 x0),.ref 0]⟩],[.row false 2 (.int .i64) x1]=>some ⟨(.one ⟨false,[(.ref 1)]⟩),[(.row false 2 asg x1)],[(.row true 2 asg (pb x0 x1))],[(pc x0 x1)]⟩
 |_,_=>none
def Ko:PF Tryz.prog:=PF.ofG Tryz.prog [bD,PF.lend bD,PF.fz bD,aK,PF.lend aK,PF.fz aK] [aM.F] aS 157 Tryz.f157 Tryz.func157 (LOk.fnT (l:= [aT Tryz.f157 0]) (by kernel_rfl) (.cons FN (.nil _))) wL (by
 intro vs es r h;unfold wL at h;split at h
 ·cases h;kernel_rfl
 ·cases h)
end Go.SX

namespace Go.SX
open Go.Proofs
set_option maxRecDepth 100000
def tK(n:Int)(ps:List Int):List Int:=(List.range n.toNat).map fun(b:Nat)=>(aav n ps (b:Int):Int)
theorem YD(n:Int)(ps:List Int):(tK n ps).length=n.toNat:=by simp [tK]
def bM(b:Int):(List Int)→Nat ⊕ (List Int)
 |y3=>(.inr (List.set y3 (Int.toNat b) (IntKind.wrap .i64 (Option.getD y3[Int.toNat (b)]? (0:Int) + (1:Int)))))
def bq(y2:List Int)(i:Nat):(List Int)→aY
 |y3=>((i:Int),(↑y2.length:Int),y2,y3)
def kC:aY→List Int
 |(_,_,_,y3)=>y3
theorem FP(y2 y3:List Int)(hn:y2.length≤9223372036854775807)(hU: ∀ u∈y2,0≤u∧u < (y3.length:Int)):
  ap.fin ((0:Int),(↑y2.length:Int),y2,y3)=true∧ap.res ((0:Int),(↑y2.length:Int),y2,y3)=((aU (bM) 0 y2 0 y3).1,(bq y2) (aU (bM) 0 y2 0 y3).2.1 (aU (bM) 0 y2 0 y3).2.2):=by
 have key:=ap.along (bq y2) kC (bM) 0 (fun _ a=>a.length=y3.length) y2 y3 rfl (by simp only [ap,bq];omega) (fun i b a hb hI=> ?_) (fun a hI=> ?_)
 ·exact key
 ·obtain y3:=a
  have hlt:=(List.getElem?_eq_some_iff.1 hb).1
  have hget: ∀ d,Option.getD y2[i]? d=b:=fun d=>by rw [hb];rfl
  have hw:=vu hlt hn
  have hdec:ltI (i:Int) (y2.length:Int)=true:=et (by omega)
  have hnn:leI (0:Int) (i:Int)=true:=dk (by omega)
  have hltd:ltN i y2.length=true:=fJ hlt
  refine⟨?_,?_,?_,?_⟩
  ·have hu:=hU b (List.mem_of_getElem? hb)
   have e1:leI 0 b=true:=dk hu.1
   have e2:ltI b (a.length:Int)=true:=et (by omega)
   have e3:ltN b.toNat a.length=true:=fJ (by omega)
   simp only [bd,dD,dE,dF,dG,cf,cg,ci,dH,dI,dy,ap,LT.nds,allT,bq,Int.toNat_natCast,hdec,hnn,hltd,hget,e1,e2,e3,cond_true]
  ·simp [bd,dD,dE,dF,dG,cf,cg,ci,dH,dI,dy,ap,LT.each,bq,kC,hw]
  ·simp only [bd,dD,dE,dF,dG,cf,cg,ci,dH,dI,dy,ap,LT.fn,bq,kC,bM,Int.toNat_natCast,hdec,hnn,hltd,hget,cond_true,Bool.cond_self]
  ·intro a' hf;simp only [bM,Sum.inr.injEq]at hf;subst hf;simpa using hI
 ·obtain y3:=a
  simp [bd,dD,dE,dF,dG,cf,cg,ci,dH,dI,dy,ap,LT.out,bq]
def aqK(a:List Int)(u:Int):List Int:=a.set u.toNat (IntKind.wrap .i64 (Option.getD a[u.toNat]? 0 + 1))
theorem arF(N:Nat): ∀ (us:List Int) (c:Nat→Int),(∀ u∈us,0≤u∧u < (N:Int))→(∀ b,0≤c b∧c b + us.length≤1000000)→
  us.foldl aqK ((List.range N).map c)=(List.range N).map fun(b:Nat)=>c b + (us.count (b:Int):Int)
 | [],c,_,_=>by simp
 |u::us,c,hu,hc=>by
  have hu0:=hu u (by simp)
  have hlt:u.toNat < N:=by omega
  have h1:aqK ((List.range N).map c) u=(List.range N).map fun(b:Nat)=>if (b:Int)=u then c b + 1 else c b:=by
   unfold aqK
   have hg:Option.getD ((List.range N).map c)[u.toNat]? 0=c u.toNat:=by simp [List.getElem?_map,List.getElem?_range hlt]
   have hcu:=hc u.toNat
   simp only [List.length_cons]at hcu
   rw [hg,aj (by omega) (by omega)]
   refine List.ext_getElem? fun i=> ?_
   rw [List.getElem?_set]
   by_cases hi:u.toNat=i
   ·rw [if_pos hi,if_pos (by simpa using hlt)]
    subst hi
    rw [List.getElem?_map,List.getElem?_range hlt,Option.map_some,if_pos (by omega)]
   ·rw [if_neg hi,List.getElem?_map,List.getElem?_map]
    by_cases hiN:i < N
    ·rw [List.getElem?_range hiN,Option.map_some,Option.map_some,if_neg (by omega)]
    ·rw [List.getElem?_eq_none (by simp;omega)];rfl
  rw [List.foldl_cons,h1,arF N us _ (fun v hv=>hu v (by simp [hv])) (fun b=>by
   have:=hc b
   simp only [List.length_cons]at this
   split <;> omega)]
  refine List.map_congr_left fun b _=> ?_
  rw [List.count_cons]
  by_cases hb:(b:Int)=u
  ·rw [if_pos hb,if_pos (by simp [hb])];omega
  ·rw [if_neg hb,if_neg (by simp;omega)];omega
theorem ajY{n p:Int}{qs:List Int}(h:okP n p=true)(hq:qs.length≤50):
  ap.fin ((0:Int),((Tj n p).length:Int),Tj n p,tK n qs)=true∧
   (ap.res ((0:Int),((Tj n p).length:Int),Tj n p,tK n qs)).2.2.2.2=tK n (qs++ [p]):=by
 obtain⟨hu,hl,hc⟩:=aoQ h
 have hn:=(ajz.1 h).1
 obtain⟨w1,w2⟩:=FP (Tj n p) (tK n qs) (by omega) (fun u hm=>by rw [YD];have:=hu u hm;omega)
 refine⟨w1,?_⟩
 rw [w2,ko (f:=bM) (g:=aqK) (fun b a=>rfl)]
 simp only [bq]
 unfold tK
 rw [arF n.toNat (Tj n p) _ (fun u hm=>by have:=hu u hm;omega) (fun b=>by
  have:aav n qs (b:Int)≤qs.length:=List.countP_le_length
  omega)]
 refine List.map_congr_left fun b _=> ?_
 rw [hc b]
 simp only [aav,List.countP_append,List.countP_cons,List.countP_nil]
 cases aad n p (b:Int) <;> simp
theorem alX{ps:List Int}{b:Nat}(h:b < ps.length):ps.take (b + 1)=ps.take b++ [ps[b]?.getD 0]:=by
 rw [List.take_add_one,List.getElem?_eq_getElem h];rfl
def aR(y2:Int)(y4:List Int)(b:Nat):(List Int)→Nat ⊕ (List Int)
 |y3=>(.inr ((Lp.res ap ((0:Int),(↑(List.length (Tj y2 (atI y4 (↑b:Int)))):Int),Tj y2 (atI y4 (↑b:Int)),y3)).2.2.2.2))
def bF(y1 y2:Int)(y4:List Int)(i:Nat):(List Int)→ba
 |y3=>((i:Int),y1,y2,y3,y4)
def mb:ba→List Int
 |(_,_,_,y3,_)=>y3
theorem Ij(y1 y2:Int)(y4 y3:List Int)(hn:y1≤9223372036854775807)(hl:y1=(y4.length:Int))(hT:isT y2 y4=true)(h3:y3=tK y2 []):
  aM.fin ((0:Int),y1,y2,y3,y4)=true∧aM.res ((0:Int),y1,y2,y3,y4)=((aU (aR y2 y4) 0 (List.range y1.toNat) 0 y3).1,(bF y1 y2 y4) (aU (aR y2 y4) 0 (List.range y1.toNat) 0 y3).2.1 (aU (aR y2 y4) 0 (List.range y1.toNat) 0 y3).2.2):=by
 have key:=aM.along (bF y1 y2 y4) mb (aR y2 y4) 0 (fun i a=>a=tK y2 (y4.take i)) (List.range y1.toNat) y3 (by subst h3;simp) (by simp only [aM,bF,List.length_range];omega) (fun i b a hb hI=> ?_) (fun a hI=> ?_)
 ·exact key
 ·obtain y3:=a
  obtain⟨rfl,hlt⟩:=qw hb
  have hw:IntKind.i64.wrap ((b:Int) + 1)=((b + 1:Nat):Int):=by rw [aj (by omega) (by omega)];omega
  have hdec:ltI (b:Int) y1=true:=et (by omega)
  have hnn:leI (0:Int) (b:Int)=true:=dk (by omega)
  refine⟨?_,?_,?_,?_⟩
  ·have h4:=(Dw.1 hT).2.1
   have hbl:b < y4.length:=by omega
   have hm:ZJ y2 y4 (b:Int)=true:=ahe.2 ⟨hT,Zl.2 (by omega)⟩
   have hp:okP y2 (atI y4 (b:Int))=true:=ajv hT (by unfold atI;rw [Int.toNat_natCast,List.getElem?_eq_getElem hbl];exact List.getElem_mem hbl)
   obtain⟨i1,i2⟩:=ajY (qs:=y4.take b) hp (by rw [List.length_take];omega)
   subst hI
   simp only [cB,eG,eH,eI,eJ,eK,eu,aM,LT.nds,allT,bF,hdec,hm,i1,cond_true]
  ·simp [cB,eG,eH,eI,eJ,eK,eu,aM,LT.each,bF,mb,hw]
  ·simp only [cB,eG,eH,eI,eJ,eK,eu,aM,LT.fn,bF,mb,aR,Int.toNat_natCast,hdec,hnn,cond_true,Bool.cond_self]
  ·intro a' hf
   have h4:=(Dw.1 hT).2.1
   have hbl:b < y4.length:=by omega
   have hp:okP y2 (atI y4 (b:Int))=true:=ajv hT (by unfold atI;rw [Int.toNat_natCast,List.getElem?_eq_getElem hbl];exact List.getElem_mem hbl)
   obtain⟨i1,i2⟩:=ajY (qs:=y4.take b) hp (by rw [List.length_take];omega)
   subst hI
   simp only [aR,i2,Sum.inr.injEq]at hf
   rw [← hf,alX hbl]
   rfl
 ·obtain y3:=a
  simp only [cB,eG,eH,eI,eJ,eK,eu,aM,LT.out,bF,List.length_range,ZG,adn,cond_false]
theorem aq6(n:Int)(ps:List Int): ∀ (m:Nat),m≤ps.length→(∀ b,b < m→ ∀ a,a=tK n (ps.take b)→aR n ps b a= .inr (tK n (ps.take (b + 1))))→
  (aU (aR n ps) 0 (List.range m) 0 (tK n [])).2.2=tK n (ps.take m):=by
 have key: ∀ (k i s:Nat),(∀ b,b < s + k→ ∀ a,a=tK n (ps.take b)→aR n ps b a= .inr (tK n (ps.take (b + 1))))→
   (aU (aR n ps) 0 ((List.range k).map (· + s)) i (tK n (ps.take s))).2.2=tK n (ps.take (s + k)):=by
  intro k
  induction k with
  |zero=>intro i s _;rfl
  |succ k ih=>
   intro i s hb
   rw [List.range_succ_eq_map,List.map_cons,List.map_map]
   simp only [aU,Nat.zero_add]
   rw [hb s (by omega) _ rfl]
   have:=ih (i + 1) (s + 1) (fun b hlt=>hb b (by omega))
   have he:List.map ((fun x=>x + s) ∘ Nat.succ) (List.range k)=(List.range k).map (· + (s + 1)):=List.map_congr_left fun x _=>by simp only [Function.comp];omega
   rw [he]
   show (aU (aR n ps) 0 ((List.range k).map (· + (s + 1))) (i + 1) (tK n (ps.take (s + 1)))).2.2=_
   rw [this]
   congr 2;omega
 intro m hm hb
 have:=key m 0 0 (by simpa using hb)
 simpa using this
theorem aqr(n:Int)(ps:List Int)(hT:isT n ps=true):pb n ps=tK n ps∧pc n ps=true:=by
 have h1:=(Dw.1 hT).1
 have h4:=(Dw.1 hT).2.1
 have hr:List.replicate (Int.toNat n) (0:Int)=tK n []:=by
  unfold tK
  refine List.ext_getElem (by simp) fun i h1 h2=>by simp [aav]
 obtain⟨w1,w2⟩:=Ij (ps.length:Int) n ps (tK n []) (by omega) rfl hT rfl
 have hw:=aq6 n ps ps.length (Nat.le_refl _) (fun b hb a ha=>by
  have hp:okP n (atI ps (b:Int))=true:=ajv hT (by unfold atI;rw [Int.toNat_natCast,List.getElem?_eq_getElem hb];exact List.getElem_mem hb)
  obtain⟨i1,i2⟩:=ajY (qs:=ps.take b) hp (by rw [List.length_take];omega)
  subst ha
  simp only [aR,i2,alX hb]
  rfl)
 have e1:(ps.length:Int).toNat=ps.length:=by omega
 rw [e1]at w2
 refine⟨?_,?_⟩
 ·simp only [pb,jt,bI,hr,w2,bF,hw,List.take_length]
 ·simp only [pc,jt,bI,hr,w1,allT]
  simp;omega
def wR:List SV→List Entry→Option Out
 | [.one ⟨true,[.val (.int .i64 x0),.ref 0]⟩],[.row false 2 (.int .i64) x1]=>some ⟨(.one ⟨false,[(.ref 1)]⟩),[(.row false 2 asg x1)],[(.row true 2 asg (tK x0 x1))],[isT x0 x1]⟩
 |_,_=>none
def bE:PF Tryz.prog:=PF.alt Ko wR (by
 intro args es o h hnd;unfold wR at h;split at h
 ·rename_i x0 x1
  cases h
  have hnd:=gO hnd
  have hh:=aqr x0 x1 hnd
  obtain⟨e0,en⟩:=hh
  exact jO rfl (gn en) rfl rfl (by simp only [e0] <;> rfl)
 ·cases h)
end Go.SX

namespace Go.SX
open Go.Proofs
set_option maxRecDepth 100000
def Sq(x0:Int):Bool:=a6 x0 (2:Int) (8:Int)
def YN:List SV→List Entry→Option Out
 | [.one ⟨false,[.val (.int .i64 x0)]⟩],[]=>some ⟨(.one ⟨false,[(.val (.bool (Sq x0)))]⟩),[],[],[]⟩
 |_,_=>none
def Sk:PF Tryz.prog:=PF.ofG Tryz.prog [fK] [] aS 72 Tryz.f72 Tryz.func72 (fun c _=>LOk.nil c) YN (by
 intro vs es r h;unfold YN at h;split at h
 ·cases h;kernel_rfl
 ·cases h)
abbrev gL:=Int×Int×List (Int×(Int×Int))×Int×Int×Int
section
variable (y0 y1:Int)(y2:List (Int×(Int×Int)))(y3 y4:Int)
def pp:Int×Int×Int:=Option.getD y2[Int.toNat y0]? ((0:Int),(0:Int),(0:Int))
def jD:Bool:=(pp y0 y2).1==y3
def ul:Bool:=ltI y0 y1
def um:Bool:=leI (0:Int) y0
def uo:Bool:=ltI y0 (↑y2.length:Int)
def uq:Bool:=ltN y0.toNat y2.length
def ur:Bool:= !(jD y0 y2 y3&&true)||leI (0:Int) y0
def ut:Bool:= !(jD y0 y2 y3&&true)||ltI y0 (↑y2.length:Int)
def uu:Bool:= !(jD y0 y2 y3&&true)||ltN y0.toNat y2.length
def uv:Bool:=bif jD y0 y2 y3 then ((pp y0 y2).2).1==y4 else false
def uw:Int:=IntKind.wrap .i64 (y0 + (1:Int))
end
def YT:gL→List (Nat×SV)
 |(y0,y1,_,_,_,_)=> [(7,(.one ⟨false,[(.val (.int .i64 y0))]⟩)),(5,(.one ⟨false,[(.val (.int .i64 y1))]⟩)),(1,(.one ⟨false,[(.ref 0)]⟩)),(6,(.one ⟨false,[(.ptr 1 0)]⟩))]
def YQ:gL→List (Nat×Entry)
 |(_,_,y2,y3,y4,y5)=> [(0,(.row false 169 ase y2)),(1,(.box 169 [(.val (.int .i64 y3)),(.val (.int .i64 y4)),(.val (.int .i64 y5))]))]
def Zh:Nat→gL→List (Nat×SV)
 |0,(_,_,_,_,_,_)=> [(4,(.one ⟨false,[(.val (.bool false))]⟩))]
 |_,(_,_,_,_,_,_)=> []
def Ze:Nat→gL→List (Nat×Entry)
 |0,(_,_,y2,y3,y4,y5)=> [(0,(.row false 169 ase y2)),(1,(.box 169 [(.val (.int .i64 y3)),(.val (.int .i64 y4)),(.val (.int .i64 y5))]))]
 |_,(_,_,y2,y3,y4,y5)=> [(0,(.row false 169 ase y2)),(1,(.box 169 [(.val (.int .i64 y3)),(.val (.int .i64 y4)),(.val (.int .i64 y5))]))]
def sS:gL→LT gL
 |(y0,y1,y2,y3,y4,y5)=> .ite (ul y0 y1) (.need [(um y0),(uo y0 y2),(uq y0 y2),(ur y0 y2 y3),(ut y0 y2 y3),(uu y0 y2 y3)] (.ite (uv y0 y2 y3 y4) (.ext 0 [(0,0),(1,1)]) (.nrm ((uw y0),y1,y2,y3,y4,y5) [(0,0),(1,1)]))) (.ext 1 [(0,0),(1,1)])
def Gm(s:St):Option gL:=
 (match s.look 7 with
 |some ⟨none,(.one ⟨false,[(.val (.int .i64 y0))]⟩)⟩=>
 (match s.look 5 with
 |some ⟨none,(.one ⟨false,[(.val (.int .i64 y1))]⟩)⟩=>
 (match s.look 1 with
 |some ⟨none,(.one ⟨false,[(.ref 0)]⟩)⟩=>
 (match s.look 6 with
 |some ⟨none,(.one ⟨false,[(.ptr 576 0)]⟩)⟩=>
 (match s.ent 0 with
 |some (.row false 169 (.pair (.int .i64) (.pair (.int .i64) (.int .i64))) y2)=>
 (match s.ent 576 with
 |some (.box 169 [(.val (.int .i64 y3)),(.val (.int .i64 y4)),(.val (.int .i64 y5))])=>
 some (y0,y1,y2,y3,y4,y5)
 |_=>none)
 |_=>none)
 |_=>none)
 |_=>none)
 |_=>none)
 |_=>none)
def bY:Lp gL where
 h:=⟨[36,37,38,41,42,43,44,45,46,47,48,49,50,51,52,53,54,55,56,57,58,4,39,40,7],[0,1],[],[]⟩
 JL:=YT
 JE:=YQ
 XL:=Zh
 XE:=Ze
 q:=fun j=>match j with | 0=> .ret | _=> .exit 2
 tags:= [0,1]
 lt:=sS
 fuel:=fun(y0,y1,y2,y3,y4,y5)=>y0.natAbs + y1.natAbs + y2.length + y3.natAbs + y4.natAbs + y5.natAbs
 fix:=fun(_,y1,y2,y3,y4,y5) (y0,_,_,_,_,_)=>(y0,y1,y2,y3,y4,y5)
 σ:= [(0,0),(1,576)]
 rd:=Gm
theorem WA:LoopOk Tryz.prog (memN [8,9,10,11,14,15,16,17,6,18,19,20,21,22,23,24,25,26,27,28,29,30,31,32,33,34,35,4,7,36,37,38,41,42,43,44,45,46,47,48,49,50,51,52,53,54,55,56,57,58,39,40,12,13,5]) bY.F (ade (aT Tryz.f85 0) 0):=by
 refine Lp.ok (tbl:= [Sk,fK]) (lf:= []) aS bY (by kernel_rfl) (LOk.nil _) (fun _=>rfl) (fun j _=>by unfold bY;match j with | 0=>rfl | _ + 1=>rfl) ?_ ?_ ?_ ?_ (fun _=>rfl) ?_
 ·rintro⟨y0,y1,y2,y3,y4,y5⟩;kernel_rfl
 ·rintro⟨y0,y1,y2,y3,y4,y5⟩;kernel_rfl
 ·intro s x h
  have h:Gm s=some x:=h
  unfold Gm at h
  repeat' split at h
  all_goals cases h
  exact⟨aa (by assumption) rfl (aa (by assumption) rfl (aa (by assumption) rfl (aa (by assumption) rfl (rfl)))),ab rfl (by assumption) rfl (ab rfl (by assumption) rfl (rfl))⟩
 ·rintro⟨y0,y1,y2,y3,y4,y5⟩;kernel_rfl
 ·rintro⟨y0,y1,y2,y3,y4,y5⟩ z;exact(And.intro (And.intro trivial rfl) trivial)
abbrev nz:=Int×Int×List (Int×(Int×Int))
section
variable (y0 y1:Int)(y2:List (Int×(Int×Int)))
def pR:Int×Int×Int:=Option.getD y2[Int.toNat y0]? ((0:Int),(0:Int),(0:Int))
def KY:Int×Int×List (Int×Int×Int)×Int×Int×Int:=((0:Int),y0,y2,(pR y0 y2).1,((pR y0 y2).2).1,(pR y0 y2).2.2)
def Aw:Bool:=ltI y0 (↑y2.length:Int)
def Uj:Bool:=leI (0:Int) y0
def Uk:Bool:=ltN y0.toNat y2.length
def Mo:Bool:=bif bif !a6 ((pR y0 y2).1) (0:Int) (IntKind.wrap .i64 (y1 - (1:Int)))then true else !a6 (((pR y0 y2).2).1) (0:Int) (1:Int)then true else !a6 ((pR y0 y2).2.2) (0:Int) (1:Int)
def Ul:Bool:=Lp.fin bY (KY y0 y2)
def Mp:Bool:=Nat.beq ((Lp.res bY (KY y0 y2)).1) (0:Nat)
def Um:Int:=IntKind.wrap .i64 (y0 + (1:Int))
end
def acB:nz→List (Nat×SV)
 |(y0,y1,_)=> [(5,(.one ⟨false,[(.val (.int .i64 y0))]⟩)),(1,(.one ⟨false,[(.ref 0)]⟩)),(0,(.one ⟨false,[(.val (.int .i64 y1))]⟩))]
def acy:nz→List (Nat×Entry)
 |(_,_,y2)=> [(0,(.row false 169 ase y2))]
def acU:Nat→nz→List (Nat×SV)
 |0,(_,_,_)=> [(4,(.one ⟨false,[(.val (.bool false))]⟩))]
 |1,(_,_,_)=> [(4,(.one ⟨false,[(.val (.bool false))]⟩))]
 |_,(_,_,_)=> []
def acR:Nat→nz→List (Nat×Entry)
 |0,(_,_,y2)=> [(0,(.row false 169 ase y2))]
 |1,(_,_,y2)=> [(0,(.row false 169 ase y2))]
 |_,(_,_,y2)=> [(0,(.row false 169 ase y2))]
def yz:nz→LT nz
 |(y0,y1,y2)=> .ite (Aw y0 y2) (.need [(Uj y0),(Aw y0 y2),(Uk y0 y2)] (.ite (Mo y0 y1 y2) (.ext 0 [(0,0)]) (.need [(Ul y0 y2)] (.ite (Mp y0 y2) (.ext 1 [(0,0)]) (.nrm ((Um y0),y1,y2) [(0,0)]))))) (.ext 2 [(0,0)])
def KW(s:St):Option nz:=
 (match s.look 5 with
 |some ⟨none,(.one ⟨false,[(.val (.int .i64 y0))]⟩)⟩=>
 (match s.look 1 with
 |some ⟨none,(.one ⟨false,[(.ref 0)]⟩)⟩=>
 (match s.look 0 with
 |some ⟨none,(.one ⟨false,[(.val (.int .i64 y1))]⟩)⟩=>
 (match s.ent 0 with
 |some (.row false 169 (.pair (.int .i64) (.pair (.int .i64) (.int .i64))) y2)=>
 some (y0,y1,y2)
 |_=>none)
 |_=>none)
 |_=>none)
 |_=>none)
def cz:Lp nz where
 h:=⟨[8,9,10,11,14,15,16,17,6,18,19,20,21,22,23,24,25,26,27,28,29,30,31,32,33,34,35,4,7,36,37,38,41,42,43,44,45,46,47,48,49,50,51,52,53,54,55,56,57,58,39,40,12,13,5],[0],[],[]⟩
 JL:=acB
 JE:=acy
 XL:=acU
 XE:=acR
 q:=fun j=>match j with | 0=> .ret | 1=> .ret | _=> .exit 0
 tags:= [0,1,2]
 lt:=yz
 fuel:=fun(y0,y1,y2)=>y0.natAbs + y1.natAbs + y2.length
 fix:=fun(_,y1,y2) (y0,_,_)=>(y0,y1,y2)
 σ:= [(0,0)]
 rd:=KW
theorem aaE:LoopOk Tryz.prog (fun k=>Nat.blt k Tryz.f85.ntmps) cz.F (aT Tryz.f85 0):=by
 refine Lp.ok (tbl:= [Sk,fK]) (lf:= [bY.F]) aS cz (by kernel_rfl) (LOk.allT (l:= [ade (aT Tryz.f85 0) 0]) (by kernel_rfl) (.cons WA (.nil _))) (fun _=>rfl) (fun j _=>by unfold cz;match j with | 0=>rfl | 1=>rfl | _ + 2=>rfl) ?_ ?_ ?_ ?_ (fun _=>rfl) ?_
 ·rintro⟨y0,y1,y2⟩;kernel_rfl
 ·rintro⟨y0,y1,y2⟩;kernel_rfl
 ·intro s x h
  have h:KW s=some x:=h
  unfold KW at h
  repeat' split at h
  all_goals cases h
  exact⟨aa (by assumption) rfl (aa (by assumption) rfl (aa (by assumption) rfl (rfl))),ab rfl (by assumption) rfl (rfl)⟩
 ·rintro⟨y0,y1,y2⟩;kernel_rfl
 ·rintro⟨y0,y1,y2⟩ z;exact(And.intro (And.intro trivial (And.intro trivial rfl)) trivial)
section
variable (x0:Int)(x1:List (Int×Int×Int))
def Ev:Int×Int×List (Int×Int×Int):=((0:Int),x0,x1)
def Sl:Bool:=bif Nat.beq ((Lp.res cz (Ev x0 x1)).1) (0:Nat)then false else bif Nat.beq ((Lp.res cz (Ev x0 x1)).1) (1:Nat)then false else bif Sq x0 then leI (↑x1.length:Int) (8:Int)else false
def Sm:Bool:=allT [Lp.fin cz (Ev x0 x1)]
end
def YK:List SV→List Entry→Option Out
 | [.one ⟨false,[.val (.int .i64 x0)]⟩,.one ⟨false,[.ref 0]⟩],[.row false 169 (.pair (.int .i64) (.pair (.int .i64) (.int .i64))) x1]=>some ⟨(.one ⟨false,[(.val (.bool (Sl x0 x1)))]⟩),[(.row false 169 ase x1)],[],[(Sm x0 x1)]⟩
 |_,_=>none
def aij:PF Tryz.prog:=PF.ofG Tryz.prog [Sk,fK] [cz.F] aS 85 Tryz.f85 Tryz.func85 (LOk.fnT (l:= [aT Tryz.f85 0]) (by kernel_rfl) (.cons aaE (.nil _))) YK (by
 intro vs es r h;unfold YK at h;split at h
 ·cases h;kernel_rfl
 ·cases h)
def KT(x0:Int):Bool:=bif x0==(0:Int)then true else x0==(1:Int)
def SH:List SV→List Entry→Option Out
 | [.one ⟨false,[.val (.int .i64 x0)]⟩],[]=>some ⟨(.one ⟨false,[(.val (.bool (KT x0)))]⟩),[],[],[]⟩
 |_,_=>none
def Ta:PF Tryz.prog:=PF.ofG Tryz.prog [] [] aS 163 Tryz.f163 Tryz.func163 (fun c _=>LOk.nil c) SH (by
 intro vs es r h;unfold SH at h;split at h
 ·cases h;kernel_rfl
 ·cases h)
def wU(x0 x1 x3 x4:Int):Bool:=bif x0==x3 then x1==x4 else false
def wS:List SV→List Entry→Option Out
 | [(.one ⟨true,[(.val (.int .i64 x0)),(.val (.int .i64 x1)),(.val (.int .i64 _x2))]⟩),(.one ⟨false,[(.ptr 0 0)]⟩)],[(.box 169 [(.val (.int .i64 x3)),(.val (.int .i64 x4)),(.val (.int .i64 x5))])]=>some ⟨(.one ⟨false,[(.val (.bool (wU x0 x1 x3 x4)))]⟩),[(.box 169 [(.val (.int .i64 x3)),(.val (.int .i64 x4)),(.val (.int .i64 x5))])],[],[]⟩
 |_,_=>none
def MK:PF Tryz.prog:=PF.kept (PF.ofG Tryz.prog [] [] aS 165 Tryz.f165 Tryz.func165 (fun c _=>LOk.nil c) wS (by
 intro vs es r h;unfold wS at h;split at h
 ·cases h;kernel_rfl
 ·cases h)) [0] (by
 intro vs es r h;have h:wS vs es=some r:=h;unfold wS at h;split at h
 ·cases h;exact List.forall_mem_cons.2 ⟨rfl,fun _ h=>(by cases h)⟩
 ·cases h)
abbrev aZ:=Int×Int×Int×Int×Int×List (Int×(Int×Int))
section
variable (y0 y1 y2 y3:Int)(y5:List (Int×(Int×Int)))
def cj:Int×Int×Int:=Option.getD y5[Int.toNat y0]? ((0:Int),(0:Int),(0:Int))
def ef:Bool:=ltI y0 y1
def eg:Bool:=leI (0:Int) y0
def ei:Bool:=ltI y0 (↑y5.length:Int)
def ej:Bool:=ltN y0.toNat y5.length
def ek:Bool:=wU ((cj y0 y5).1) (((cj y0 y5).2).1) y2 y3
def em:Int:=IntKind.wrap .i64 (y0 + (1:Int))
end
def FK:aZ→List (Nat×SV)
 |(y0,y1,_,_,_,_)=> [(8,(.one ⟨false,[(.val (.int .i64 y0))]⟩)),(7,(.one ⟨false,[(.val (.int .i64 y1))]⟩)),(1,(.one ⟨false,[(.clo 165 [0])]⟩)),(0,(.one ⟨false,[(.ref 1)]⟩))]
def FJ:aZ→List (Nat×Entry)
 |(_,_,y2,y3,y4,y5)=> [(0,(.box 169 [(.val (.int .i64 y2)),(.val (.int .i64 y3)),(.val (.int .i64 y4))])),(1,(.row false 169 ase y5))]
def FM:Nat→aZ→List (Nat×SV)
 |0,(y0,_,_,_,_,_)=> [(4,(.one ⟨false,[(.val (.int .i64 y0))]⟩))]
 |_,(_,_,_,_,_,_)=> []
def FL:Nat→aZ→List (Nat×Entry)
 |0,(_,_,y2,y3,y4,y5)=> [(0,(.box 169 [(.val (.int .i64 y2)),(.val (.int .i64 y3)),(.val (.int .i64 y4))])),(1,(.row false 169 ase y5))]
 |_,(_,_,y2,y3,y4,y5)=> [(0,(.box 169 [(.val (.int .i64 y2)),(.val (.int .i64 y3)),(.val (.int .i64 y4))])),(1,(.row false 169 ase y5))]
def dJ:aZ→LT aZ
 |(y0,y1,y2,y3,y4,y5)=> .ite (ef y0 y1) (.need [(eg y0),(ei y0 y5),(ej y0 y5)] (.ite (ek y0 y2 y3 y5) (.ext 0 [(0,0),(1,1)]) (.nrm ((em y0),y1,y2,y3,y4,y5) [(0,0),(1,1)]))) (.ext 1 [(0,0),(1,1)])
def kX(s:St):Option aZ:=
 (match s.look 8 with
 |some ⟨none,(.one ⟨false,[(.val (.int .i64 y0))]⟩)⟩=>
 (match s.look 7 with
 |some ⟨none,(.one ⟨false,[(.val (.int .i64 y1))]⟩)⟩=>
 (match s.look 1 with
 |some ⟨none,(.one ⟨false,[(.clo 165 [1])]⟩)⟩=>
 (match s.look 0 with
 |some ⟨none,(.one ⟨false,[(.ref 0)]⟩)⟩=>
 (match s.ent 1 with
 |some (.box 169 [(.val (.int .i64 y2)),(.val (.int .i64 y3)),(.val (.int .i64 y4))])=>
 (match s.ent 0 with
 |some (.row false 169 (.pair (.int .i64) (.pair (.int .i64) (.int .i64))) y5)=>
 some (y0,y1,y2,y3,y4,y5)
 |_=>none)
 |_=>none)
 |_=>none)
 |_=>none)
 |_=>none)
 |_=>none)
def aw:Lp aZ where
 h:=⟨[9,10,5,11,12,13,14,15,16,17,4,18,8],[0,1],[],[]⟩
 JL:=FK
 JE:=FJ
 XL:=FM
 XE:=FL
 q:=fun j=>match j with | 0=> .ret | _=> .exit 0
 tags:= [0,1]
 lt:=dJ
 fuel:=fun(y0,y1,y2,y3,y4,y5)=>y0.natAbs + y1.natAbs + y2.natAbs + y3.natAbs + y4.natAbs + y5.length
 fix:=fun(_,y1,y2,y3,y4,y5) (y0,_,_,_,_,_)=>(y0,y1,y2,y3,y4,y5)
 σ:= [(0,1),(1,0)]
 rd:=kX
theorem Ek:LoopOk Tryz.prog (fun k=>Nat.blt k Tryz.f215.ntmps) aw.F (aT Tryz.f215 0):=by
 refine Lp.ok (tbl:= [MK]) (lf:= []) aS aw (by kernel_rfl) (LOk.nil _) (fun _=>rfl) (fun j _=>by unfold aw;match j with | 0=>rfl | _ + 1=>rfl) ?_ ?_ ?_ ?_ (fun _=>rfl) ?_
 ·rintro⟨y0,y1,y2,y3,y4,y5⟩;kernel_rfl
 ·rintro⟨y0,y1,y2,y3,y4,y5⟩;kernel_rfl
 ·intro s x h
  have h:kX s=some x:=h
  unfold kX at h
  repeat' split at h
  all_goals cases h
  exact⟨aa (by assumption) rfl (aa (by assumption) rfl (aa (by assumption) rfl (aa (by assumption) rfl (rfl)))),ab rfl (by assumption) rfl (ab rfl (by assumption) rfl (rfl))⟩
 ·rintro⟨y0,y1,y2,y3,y4,y5⟩;kernel_rfl
 ·rintro⟨y0,y1,y2,y3,y4,y5⟩ z;exact(And.intro (And.intro trivial rfl) trivial)
section
variable (x0:List (Int×Int×Int))(x1 x2 x3:Int)
def eU:Int×Int×Int×Int×Int×List (Int×Int×Int):=((0:Int),(↑x0.length:Int),x1,x2,x3,x0)
def cY:Bool:=Nat.beq ((Lp.res aw (eU x0 x1 x2 x3)).1) (0:Nat)
def je:Int:=bif cY x0 x1 x2 x3 then ((Lp.res aw (eU x0 x1 x2 x3)).2).1else(-1:Int)
def jf:Int:=bif cY x0 x1 x2 x3 then x1 else x1
def jg:Int:=bif cY x0 x1 x2 x3 then x2 else x2
def jh:Int:=bif cY x0 x1 x2 x3 then x3 else x3
def ji:Bool:=allT [Lp.fin aw (eU x0 x1 x2 x3)]
end
def vj:List SV→List Entry→Option Out
 | [(.one ⟨false,[(.ref 0)]⟩),(.one ⟨false,[(.clo 165 [1])]⟩)],[(.row false 169 (.pair (.int .i64) (.pair (.int .i64) (.int .i64))) x0),(.box 169 [(.val (.int .i64 x1)),(.val (.int .i64 x2)),(.val (.int .i64 x3))])]=>some ⟨(.one ⟨false,[(.val (.int .i64 (je x0 x1 x2 x3)))]⟩),[(.row false 169 ase x0),(.box 169 [(.val (.int .i64 (jf x0 x1 x2 x3))),(.val (.int .i64 (jg x0 x1 x2 x3))),(.val (.int .i64 (jh x0 x1 x2 x3)))])],[],[(ji x0 x1 x2 x3)]⟩
 |_,_=>none
def mY:PF Tryz.prog:=PF.ofG Tryz.prog [MK] [aw.F] aS 215 Tryz.f215 Tryz.func215 (LOk.fnT (l:= [aT Tryz.f215 0]) (by kernel_rfl) (.cons Ek (.nil _))) vj (by
 intro vs es r h;unfold vj at h;split at h
 ·cases h;kernel_rfl
 ·cases h)
section
variable (x0:List (Int×Int×Int))(x1 x2 x3:Int)
def ed:Bool:=leI (0:Int) (je x0 x1 x2 x3)
def lM:Int:=jf x0 x1 x2 x3
def lN:Int:=jg x0 x1 x2 x3
def lO:Int:=jh x0 x1 x2 x3
def ee:Bool:=allT [ji x0 x1 x2 x3]
end
def sy:List SV→List Entry→Option Out
 | [(.one ⟨false,[(.ref 0)]⟩),(.one ⟨false,[(.clo 165 [1])]⟩)],[(.row false 169 (.pair (.int .i64) (.pair (.int .i64) (.int .i64))) x0),(.box 169 [(.val (.int .i64 x1)),(.val (.int .i64 x2)),(.val (.int .i64 x3))])]=>some ⟨(.one ⟨false,[(.val (.bool (ed x0 x1 x2 x3)))]⟩),[(.row false 169 ase x0),(.box 169 [(.val (.int .i64 (lM x0 x1 x2 x3))),(.val (.int .i64 (lN x0 x1 x2 x3))),(.val (.int .i64 (lO x0 x1 x2 x3)))])],[],[(ee x0 x1 x2 x3)]⟩
 |_,_=>none
def ct:PF Tryz.prog:=PF.ofG Tryz.prog [mY,PF.lend mY,PF.fz mY] [] aS 164 Tryz.f164 Tryz.func164 (fun c _=>LOk.nil c) sy (by
 intro vs es r h;unfold sy at h;split at h
 ·cases h;kernel_rfl
 ·cases h)
abbrev ny:=Int×Int×Int×List (Int×(Int×Int))
section
variable (y0 y1 y2:Int)(y3:List (Int×(Int×Int)))
def gR:Int×Int×Int:=Option.getD y3[Int.toNat y0]? ((0:Int),(0:Int),(0:Int))
def SU:List (Int×Int×Int):=List.drop (Int.toNat (0:Int)) (List.take y0.toNat y3)
def FR:Bool:=ltI y0 y1
def LW:Bool:=leI (0:Int) y0
def Uc:Bool:=ltI y0 (↑y3.length:Int)
def Ud:Bool:=ltN y0.toNat y3.length
def LX:Bool:=bif bif !bn ((gR y0 y3).1) (0:Int) (IntKind.wrap .i64 (y2 - (1:Int)))then true else bif ((gR y0 y3).2).1!=(0:Int)then ((gR y0 y3).2).1!=(1:Int)else false then true else !KT ((gR y0 y3).2.2)
end
def Ue:Bool:=leI (0:Int) (0:Int)
section
variable (y0:Int)(y3:List (Int×(Int×Int)))
def Uf:Bool:=leI y0 (↑y3.length:Int)
def Ug:Bool:=ee (SU y0 y3) ((gR y0 y3).1) (((gR y0 y3).2).1) ((gR y0 y3).2.2)
def Uh:Bool:=ed (SU y0 y3) ((gR y0 y3).1) (((gR y0 y3).2).1) ((gR y0 y3).2.2)
def Ui:Int:=IntKind.wrap .i64 (y0 + (1:Int))
end
def acA:ny→List (Nat×SV)
 |(y0,y1,y2,_)=> [(9,(.one ⟨false,[(.val (.int .i64 y0))]⟩)),(8,(.one ⟨false,[(.val (.int .i64 y1))]⟩)),(7,(.one ⟨false,[(.ref 0)]⟩)),(0,(.one ⟨false,[(.val (.int .i64 y2))]⟩)),(1,(.one ⟨false,[(.ref 0)]⟩))]
def acx:ny→List (Nat×Entry)
 |(_,_,_,y3)=> [(0,(.row false 169 ase y3))]
def acT:Nat→ny→List (Nat×SV)
 |0,(_,_,_,_)=> [(4,(.one ⟨false,[(.val (.bool false))]⟩))]
 |1,(_,_,_,_)=> [(4,(.one ⟨false,[(.val (.bool false))]⟩))]
 |_,(_,_,_,_)=> []
def acQ:Nat→ny→List (Nat×Entry)
 |0,(_,_,_,y3)=> [(0,(.row false 169 ase y3))]
 |1,(_,_,_,y3)=> [(0,(.row false 169 ase y3))]
 |_,(_,_,_,y3)=> [(0,(.row false 169 ase y3))]
def yy:ny→LT ny
 |(y0,y1,y2,y3)=> .ite (FR y0 y1) (.need [(LW y0),(Uc y0 y3),(Ud y0 y3)] (.ite (LX y0 y2 y3) (.ext 0 [(0,0)]) (.need [(Ue),(LW y0),(Uf y0 y3),(Ug y0 y3)] (.ite (Uh y0 y3) (.ext 1 [(0,0)]) (.nrm ((Ui y0),y1,y2,y3) [(0,0)]))))) (.ext 2 [(0,0)])
def KV(s:St):Option ny:=
 (match s.look 9 with
 |some ⟨none,(.one ⟨false,[(.val (.int .i64 y0))]⟩)⟩=>
 (match s.look 8 with
 |some ⟨none,(.one ⟨false,[(.val (.int .i64 y1))]⟩)⟩=>
 (match s.look 7 with
 |some ⟨none,(.one ⟨false,[(.ref 0)]⟩)⟩=>
 (match s.look 0 with
 |some ⟨none,(.one ⟨false,[(.val (.int .i64 y2))]⟩)⟩=>
 (match s.look 1 with
 |some ⟨none,(.one ⟨false,[(.ref 0)]⟩)⟩=>
 (match s.ent 0 with
 |some (.row false 169 (.pair (.int .i64) (.pair (.int .i64) (.int .i64))) y3)=>
 some (y0,y1,y2,y3)
 |_=>none)
 |_=>none)
 |_=>none)
 |_=>none)
 |_=>none)
 |_=>none)
def cw:Lp ny where
 h:=⟨[10,11,12,13,6,5,14,15,16,17,18,19,20,21,22,23,24,25,26,27,28,29,30,31,32,33,34,35,4,36,37,38,39,40,41,9],[0],[],[]⟩
 JL:=acA
 JE:=acx
 XL:=acT
 XE:=acQ
 q:=fun j=>match j with | 0=> .ret | 1=> .ret | _=> .exit 0
 tags:= [0,1,2]
 lt:=yy
 fuel:=fun(y0,y1,y2,y3)=>y0.natAbs + y1.natAbs + y2.natAbs + y3.length
 fix:=fun(_,y1,y2,y3) (y0,_,_,_)=>(y0,y1,y2,y3)
 σ:= [(0,0)]
 rd:=KV
theorem aaD:LoopOk Tryz.prog (fun k=>Nat.blt k Tryz.f76.ntmps) cw.F (aT Tryz.f76 0):=by
 refine Lp.ok (tbl:= [Ta,gP,ct,PF.lend ct,PF.fz ct]) (lf:= []) aS cw (by kernel_rfl) (LOk.nil _) (fun _=>rfl) (fun j _=>by unfold cw;match j with | 0=>rfl | 1=>rfl | _ + 2=>rfl) ?_ ?_ ?_ ?_ (fun _=>rfl) ?_
 ·rintro⟨y0,y1,y2,y3⟩;kernel_rfl
 ·rintro⟨y0,y1,y2,y3⟩;kernel_rfl
 ·intro s x h
  have h:KV s=some x:=h
  unfold KV at h
  repeat' split at h
  all_goals cases h
  exact⟨aa (by assumption) rfl (aa (by assumption) rfl (aa (by assumption) rfl (aa (by assumption) rfl (aa (by assumption) rfl (rfl))))),ab rfl (by assumption) rfl (rfl)⟩
 ·rintro⟨y0,y1,y2,y3⟩;kernel_rfl
 ·rintro⟨y0,y1,y2,y3⟩ z;exact(And.intro (And.intro trivial (And.intro trivial rfl)) trivial)
section
variable (x0:Int)(x1:List (Int×Int×Int))
def Eh:Int×Int×Int×List (Int×Int×Int):=((0:Int),(↑x1.length:Int),x0,x1)
def Sc:Bool:=bif Nat.beq ((Lp.res cw (Eh x0 x1)).1) (0:Nat)then false else bif Nat.beq ((Lp.res cw (Eh x0 x1)).1) (1:Nat)then false else leI (↑x1.length:Int) (8:Int)
def Sd:Bool:=allT [Lp.fin cw (Eh x0 x1)]
end
def YI:List SV→List Entry→Option Out
 | [.one ⟨false,[.val (.int .i64 x0)]⟩,.one ⟨false,[.ref 0]⟩],[.row false 169 (.pair (.int .i64) (.pair (.int .i64) (.int .i64))) x1]=>some ⟨(.one ⟨false,[(.val (.bool (Sc x0 x1)))]⟩),[(.row false 169 ase x1)],[],[(Sd x0 x1)]⟩
 |_,_=>none
def aii:PF Tryz.prog:=PF.ofG Tryz.prog [Ta,gP,ct,PF.lend ct,PF.fz ct] [cw.F] aS 76 Tryz.f76 Tryz.func76 (LOk.fnT (l:= [aT Tryz.f76 0]) (by kernel_rfl) (.cons aaD (.nil _))) YI (by
 intro vs es r h;unfold YI at h;split at h
 ·cases h;kernel_rfl
 ·cases h)
end Go.SX

namespace Go.SX
open Go.Proofs
set_option maxRecDepth 100000
def fIn(n:Int)(f:Int×Int×Int):Bool:=inR f.1 0 (IntKind.i64.wrap (n - 1))&&(inR f.2.1 0 1&&inR f.2.2 0 1)
def UR(f g:Int×Int×Int):Bool:=g.1==f.1&&g.2.1==f.2.1
def fAt(fs:List (Int×Int×Int))(b:Nat):Int×Int×Int:=fs[b]?.getD (0,0,0)
def afS(n:Int)(fs:List (Int×Int×Int))(b:Nat):Bool:= !fIn n (fAt fs b)
def ajO(fs:List (Int×Int×Int))(b:Nat):Bool:=(fs.take b).any (UR (fAt fs b))
def okFs(n:Int)(fs:List (Int×Int×Int)):Bool:=leN fs.length 8&&(List.range fs.length).all fun b=> !(afS n fs b||ajO fs b)
theorem amN{fs:List (Int×Int×Int)}{P:Int×Int×Int→Bool}{b:Nat}(h:b≤fs.length):((List.range b).any fun j=>P (fs[j]?.getD (0,0,0)))=(fs.take b).any P:=by
 rw [Bool.eq_iff_iff]
 simp only [List.any_eq_true,List.mem_range,List.mem_take_iff_getElem]
 constructor
 ·rintro⟨j,hj,hp⟩
  have hl:j < fs.length:=by omega
  rw [List.getElem?_eq_getElem hl]at hp
  exact⟨fs[j],⟨j,by omega,rfl⟩,hp⟩
 ·rintro⟨x,⟨j,hj,rfl⟩,hp⟩
  have hl:j < fs.length:=by omega
  exact⟨j,by omega,by rw [List.getElem?_eq_getElem hl];exact hp⟩
def qq(y2:List (Int×(Int×Int)))(y3 y4:Int)(b:Nat):(Unit)→Nat ⊕ (Unit)
 |_=>(bif(bif((Option.getD y2[b]? ((0:Int),(0:Int),(0:Int))).1==y3)then ((Option.getD y2[b]? ((0:Int),(0:Int),(0:Int))).2).1==y4 else false)then(.inl 0)else(.inr ()))
def lV(y1:Int)(y2:List (Int×(Int×Int)))(y3 y4 y5:Int)(i:Nat):(Unit)→gL
 |_=>((i:Int),y1,y2,y3,y4,y5)
def Gl:gL→Unit
 |(_,_,_,_,_,_)=>()
theorem aaR(y1:Int)(y2:List (Int×(Int×Int)))(y3 y4 y5:Int) (hn:y1≤9223372036854775807) (hb:y1≤(y2.length:Int)):
  bY.fin ((0:Int),y1,y2,y3,y4,y5)=true∧bY.res ((0:Int),y1,y2,y3,y4,y5)=((aU (qq y2 y3 y4) 1 (List.range y1.toNat) 0 ()).1,(lV y1 y2 y3 y4 y5) (aU (qq y2 y3 y4) 1 (List.range y1.toNat) 0 ()).2.1 (aU (qq y2 y3 y4) 1 (List.range y1.toNat) 0 ()).2.2):=by
 have key:=bY.along (lV y1 y2 y3 y4 y5) Gl (qq y2 y3 y4) 1 (fun _ _=>True) (List.range y1.toNat) () (by trivial) (by simp only [bY,lV,List.length_range];omega) (fun i b a hb hI=> ?_) (fun a hI=> ?_)
 ·exact key
 ·obtain⟨⟩:=a
  obtain⟨rfl,hlt⟩:=qw hb
  have hw:IntKind.i64.wrap ((b:Int) + 1)=((b + 1:Nat):Int):=by rw [aj (by omega) (by omega)];omega
  have hdec:ltI (b:Int) y1=true:=et (by omega)
  have hnn:leI (0:Int) (b:Int)=true:=dk (by omega)
  refine⟨?_,?_,?_,?_⟩
  ·have h1:ltI (b:Int) (y2.length:Int)=true:=et (by omega)
   have h2:ltN b y2.length=true:=fJ (by omega)
   simp [pp,jD,ul,um,uo,uq,ur,ut,uu,uv,uw,sS,bY,LT.nds,allT,lV,hdec,hnn,h1,h2]
  ·simp [pp,jD,ul,um,uo,uq,ur,ut,uu,uv,uw,sS,bY,LT.each,lV,Gl,hw]
  ·simp only [pp,jD,ul,um,uo,uq,ur,ut,uu,uv,uw,sS,bY,LT.fn,lV,Gl,qq,Int.toNat_natCast,hdec,hnn,cond_true,Bool.cond_self]
  ·exact fun _ _=>trivial
 ·obtain⟨⟩:=a
  simp only [pp,jD,ul,um,uo,uq,ur,ut,uu,uv,uw,sS,bY,LT.out,lV,List.length_range,ZG,adn,cond_false]
theorem apr(fs:List (Int×Int×Int))(b:Nat)(hb:b < fs.length)(hn:fs.length≤9223372036854775807):
  Ul (b:Int) fs=true∧Mp (b:Int) fs=ajO fs b:=by
 obtain⟨w1,w2⟩:=aaR (b:Int) fs (fAt fs b).1 (fAt fs b).2.1 (fAt fs b).2.2 (by omega) (by omega)
 rw [kU (P:=fun j=>UR (fAt fs b) (fs[j]?.getD (0,0,0))) (j:=0) (fun j=>by
  simp only [qq,UR];cases (fs[j]?.getD (0,0,0)).1==(fAt fs b).1 <;> rfl),Int.toNat_natCast,amN (by omega)]at w2
 refine⟨w1,?_⟩
 have e:KY (b:Int) fs=(0,(b:Int),fs,(fAt fs b).1,(fAt fs b).2.1,(fAt fs b).2.2):=rfl
 simp only [Mp,e,w2,ajO]
 cases (fs.take b).any (UR (fAt fs b)) <;> rfl
theorem aq0(n:Int)(fs:List (Int×Int×Int))(b:Nat):Mo (b:Int) n fs=afS n fs b:=by
 simp only [Mo,a6,afS,fIn,fAt,pR,Int.toNat_natCast,vt]
 cases inR (fs[b]?.getD (0,0,0)).1 0 (IntKind.i64.wrap (n - 1)) <;> cases inR (fs[b]?.getD (0,0,0)).2.1 0 1 <;> cases inR (fs[b]?.getD (0,0,0)).2.2 0 1 <;> rfl
def fF(n:Int)(fs:List (Int×Int×Int))(b:Nat)(_:Unit):Nat ⊕ Unit:=bif afS n fs b then .inl 0 else bif ajO fs b then .inl 1 else .inr ()
theorem ahI(n:Int)(fs:List (Int×Int×Int)): ∀ (r:List Nat) (i:Nat),∃ k m,aU (fF n fs) 2 r i ()=(k,m,())∧((k=2∧(r.all fun b=> !(afS n fs b||ajO fs b))=true)∨((k=0∨k=1)∧(r.all fun b=> !(afS n fs b||ajO fs b))=false))
 | [],i=>⟨2,i,rfl,.inl ⟨rfl,rfl⟩⟩
 |b::r,i=>by
  cases h1:afS n fs b with
  |true=>exact⟨0,i,by simp only [aU,fF,h1,cond_true],.inr ⟨.inl rfl,by simp [h1]⟩⟩
  |false=>
   cases h2:ajO fs b with
   |true=>exact⟨1,i,by simp only [aU,fF,h1,h2,cond_true,cond_false],.inr ⟨.inr rfl,by simp [h2]⟩⟩
   |false=>
    obtain⟨k,m,e,h⟩:=ahI n fs r (i + 1)
    exact⟨k,m,by simp only [aU,fF,h1,h2,cond_false];exact e,by simpa [h1,h2] using h⟩
theorem amJ(n:Int)(fs:List (Int×Int×Int))(hn:fs.length≤9223372036854775807):
  cz.fin ((0:Int),n,fs)=true∧cz.res ((0:Int),n,fs)=((aU (fF n fs) 2 (List.range fs.length) 0 ()).1,(((aU (fF n fs) 2 (List.range fs.length) 0 ()).2.1:Int),n,fs)):=by
 have key:=cz.along (fun i _=>((i:Int),n,fs)) (fun _=>()) (fF n fs) 2 (fun _ _=>True) (List.range fs.length) () trivial (by simp only [cz,List.length_range];omega) (fun i b a hb hI=> ?_) (fun a hI=> ?_)
 ·exact key
 ·obtain⟨rfl,hlt⟩:=qw hb
  have hw:IntKind.i64.wrap ((b:Int) + 1)=((b + 1:Nat):Int):=by rw [aj (by omega) (by omega)];omega
  have hdec:ltI (b:Int) (fs.length:Int)=true:=et (by omega)
  have hnn:leI (0:Int) (b:Int)=true:=dk (by omega)
  have hltd:ltN b fs.length=true:=fJ (by omega)
  obtain⟨i1,i2⟩:=apr fs b hlt hn
  have i3:=aq0 n fs b
  refine⟨?_,?_,?_,?_⟩
  ·simp [cz,yz,LT.nds,allT,Aw,Uj,Uk,hdec,hnn,hltd,i1]
  ·simp [cz,yz,LT.each,Um,hw]
  ·simp only [cz,yz,LT.fn,Aw,hdec,i2,i3,fF,cond_true]
  ·exact fun _ _=>trivial
 ·simp [cz,yz,LT.out,Aw,List.length_range]
theorem alg(n:Int)(fs:List (Int×Int×Int))(hn:leN fs.length 9223372036854775807=true):Sl n fs=(inR n 2 8&&okFs n fs)∧Sm n fs=true:=by
 obtain⟨w1,w2⟩:=amJ n fs (c8.1 hn)
 obtain⟨k,m,e,h⟩:=ahI n fs (List.range fs.length) 0
 rw [e]at w2
 refine⟨?_,?_⟩
 ·have hl:leI (fs.length:Int) 8=leN fs.length 8:=by rw [Bool.eq_iff_iff];simp;omega
  simp only [Sl,Ev,w2,Sq,a6,vt,okFs,hl]
  rcases h with⟨rfl,h⟩ | ⟨rfl | rfl,h⟩ <;> rw [h]
  ·cases inR n 2 8 <;> cases leN fs.length 8 <;> rfl
  ·cases inR n 2 8 <;> cases leN fs.length 8 <;> rfl
  ·cases inR n 2 8 <;> cases leN fs.length 8 <;> rfl
 ·simp only [Sm,Ev,w1,allT,cond_true]
def Za:List SV→List Entry→Option Out
 | [.one ⟨false,[.val (.int .i64 x0)]⟩,.one ⟨false,[.ref 0]⟩],[.row false 169 (.pair (.int .i64) (.pair (.int .i64) (.int .i64))) x1]=>some ⟨(.one ⟨false,[(.val (.bool (inR x0 2 8&&okFs x0 x1)))]⟩),[(.row false 169 ase x1)],[],[leN x1.length 9223372036854775807]⟩
 |_,_=>none
def Bw:PF Tryz.prog:=PF.alt aij Za (by
 intro args es o h hnd;unfold Za at h;split at h
 ·rename_i x0 x1
  cases h
  have hnd:=gO hnd
  have hh:=alg x0 x1 hnd
  obtain⟨e0,en⟩:=hh
  exact jO rfl (gn en) (by simp only [e0] <;> rfl) rfl rfl
 ·cases h)
def cq(y2 y3:Int)(b:Int×(Int×Int)):(Unit)→Nat ⊕ (Unit)
 |_=>(bif(wU b.1 (b.2.1) y2 y3)then(.inl 0)else(.inr ()))
def bu(y2 y3 y4:Int)(y5:List (Int×(Int×Int)))(i:Nat):(Unit)→aZ
 |_=>((i:Int),(↑y5.length:Int),y2,y3,y4,y5)
def kW:aZ→Unit
 |(_,_,_,_,_,_)=>()
theorem He(y2 y3 y4:Int)(y5:List (Int×(Int×Int))) (hn:y5.length≤9223372036854775807):
  aw.fin ((0:Int),(↑y5.length:Int),y2,y3,y4,y5)=true∧aw.res ((0:Int),(↑y5.length:Int),y2,y3,y4,y5)=((aU (cq y2 y3) 1 y5 0 ()).1,(bu y2 y3 y4 y5) (aU (cq y2 y3) 1 y5 0 ()).2.1 (aU (cq y2 y3) 1 y5 0 ()).2.2):=by
 have key:=aw.along (bu y2 y3 y4 y5) kW (cq y2 y3) 1 (fun _ _=>True) y5 () (by trivial) (by simp only [aw,bu];omega) (fun i b a hb hI=> ?_) (fun a hI=> ?_)
 ·exact key
 ·obtain⟨⟩:=a
  have hlt:=(List.getElem?_eq_some_iff.1 hb).1
  have hget: ∀ d,Option.getD y5[i]? d=b:=fun d=>by rw [hb];rfl
  have hw:=vu hlt hn
  have hdec:ltI (i:Int) (y5.length:Int)=true:=et (by omega)
  have hnn:leI (0:Int) (i:Int)=true:=dk (by omega)
  have hltd:ltN i y5.length=true:=fJ hlt
  refine⟨?_,?_,?_,?_⟩
  ·simp [cj,ef,eg,ei,ej,ek,em,dJ,aw,LT.nds,allT,bu,hdec,hnn,hltd,hget]
  ·simp [cj,ef,eg,ei,ej,ek,em,dJ,aw,LT.each,bu,kW,hw]
  ·simp only [cj,ef,eg,ei,ej,ek,em,dJ,aw,LT.fn,bu,kW,cq,Int.toNat_natCast,hdec,hnn,hltd,hget,cond_true,Bool.cond_self]
  ·exact fun _ _=>trivial
 ·obtain⟨⟩:=a
  simp [cj,ef,eg,ei,ej,ek,em,dJ,aw,LT.out,bu]
theorem aoe(xs:List (Int×Int×Int))(f:Int×Int×Int)(hn:xs.length≤9223372036854775807):
  ed xs f.1 f.2.1 f.2.2=xs.any (UR f)∧ee xs f.1 f.2.1 f.2.2=true:=by
 obtain⟨w1,w2⟩:=He f.1 f.2.1 f.2.2 xs hn
 rw [kU (P:=UR f) (j:=0) (fun t=>by
  simp only [cq,wU,UR];cases t.1==f.1 <;> rfl)]at w2
 refine⟨?_,?_⟩
 ·simp only [ed,lM,lN,lO,ee,eU,cY,je,jf,jg,jh,ji,w2,bu]
  cases xs.any (UR f)with
  |false=>rfl
  |true=>exact dk (Int.natCast_nonneg _)
 ·simp only [ed,lM,lN,lO,ee,eU,cY,je,jf,jg,jh,ji,w1,allT,cond_true]
theorem aqI(n:Int)(fs:List (Int×Int×Int))(b:Nat):LX (b:Int) n fs=afS n fs b:=by
 have h2: ∀ v:Int,(bif v==0 then true else v==1)=inR v 0 1:=fun v=>by
  rw [Bool.eq_iff_iff,re];by_cases h:v=0 <;> by_cases h':v=1 <;> simp [h,h'] <;> omega
 have h3: ∀ v:Int,(bif v !=0 then v !=1 else false)= !inR v 0 1:=fun v=>by
  rw [← h2 v];simp only [bne];cases v==0 <;> rfl
 simp only [LX,bn,KT,afS,fIn,fAt,gR,Int.toNat_natCast,vt,h2,h3]
 cases inR (fs[b]?.getD (0,0,0)).1 0 (IntKind.i64.wrap (n - 1)) <;> cases inR (fs[b]?.getD (0,0,0)).2.1 0 1 <;> cases inR (fs[b]?.getD (0,0,0)).2.2 0 1 <;> rfl
theorem amI(n:Int)(fs:List (Int×Int×Int))(hn:fs.length≤9223372036854775807):
  cw.fin ((0:Int),(fs.length:Int),n,fs)=true∧cw.res ((0:Int),(fs.length:Int),n,fs)=((aU (fF n fs) 2 (List.range fs.length) 0 ()).1,(((aU (fF n fs) 2 (List.range fs.length) 0 ()).2.1:Int),(fs.length:Int),n,fs)):=by
 have key:=cw.along (fun i _=>((i:Int),(fs.length:Int),n,fs)) (fun _=>()) (fF n fs) 2 (fun _ _=>True) (List.range fs.length) () trivial (by simp only [cw,List.length_range];omega) (fun i b a hb hI=> ?_) (fun a hI=> ?_)
 ·exact key
 ·obtain⟨rfl,hlt⟩:=qw hb
  have hw:IntKind.i64.wrap ((b:Int) + 1)=((b + 1:Nat):Int):=by rw [aj (by omega) (by omega)];omega
  have hdec:ltI (b:Int) (fs.length:Int)=true:=et (by omega)
  have hle:leI (b:Int) (fs.length:Int)=true:=dk (by omega)
  have hnn:leI (0:Int) (b:Int)=true:=dk (by omega)
  have hltd:ltN b fs.length=true:=fJ (by omega)
  obtain⟨i2,i1⟩:=aoe (fs.take b) (fAt fs b) (by rw [List.length_take];omega)
  have i2:Uh (b:Int) fs=ajO fs b:=i2
  have i1:Ug (b:Int) fs=true:=i1
  have i3:=aqI n fs b
  refine⟨?_,?_,?_,?_⟩
  ·simp [cw,yy,LT.nds,allT,FR,LW,Uc,Ud,Ue,Uf,hdec,hnn,hltd,hle,i1]
  ·simp [cw,yy,LT.each,Ui,hw]
  ·simp only [cw,yy,LT.fn,FR,hdec,i2,i3,fF,cond_true]
  ·exact fun _ _=>trivial
 ·simp [cw,yy,LT.out,FR,List.length_range]
theorem akZ(n:Int)(fs:List (Int×Int×Int))(hn:leN fs.length 9223372036854775807=true):Sc n fs=okFs n fs∧Sd n fs=true:=by
 obtain⟨w1,w2⟩:=amI n fs (c8.1 hn)
 obtain⟨k,m,e,h⟩:=ahI n fs (List.range fs.length) 0
 rw [e]at w2
 refine⟨?_,?_⟩
 ·have hl:leI (fs.length:Int) 8=leN fs.length 8:=by rw [Bool.eq_iff_iff];simp;omega
  simp only [Sc,Eh,w2,okFs,hl]
  rcases h with⟨rfl,h⟩ | ⟨rfl | rfl,h⟩ <;> rw [h] <;> cases leN fs.length 8 <;> rfl
 ·simp only [Sd,Eh,w1,allT,cond_true]
def YZ:List SV→List Entry→Option Out
 | [.one ⟨false,[.val (.int .i64 x0)]⟩,.one ⟨false,[.ref 0]⟩],[.row false 169 (.pair (.int .i64) (.pair (.int .i64) (.int .i64))) x1]=>some ⟨(.one ⟨false,[(.val (.bool (okFs x0 x1)))]⟩),[(.row false 169 ase x1)],[],[leN x1.length 9223372036854775807]⟩
 |_,_=>none
def Bv:PF Tryz.prog:=PF.alt aii YZ (by
 intro args es o h hnd;unfold YZ at h;split at h
 ·rename_i x0 x1
  cases h
  have hnd:=gO hnd
  have hh:=akZ x0 x1 hnd
  obtain⟨e0,en⟩:=hh
  exact jO rfl (gn en) (by simp only [e0] <;> rfl) rfl rfl
 ·cases h)
end Go.SX

namespace Go.SX
open Go.Proofs
set_option maxRecDepth 100000
abbrev fG:=Int×List Int
section
variable (y0:Int)(y1:List Int)
def pq:Bool:=ltI y0 (↑y1.length:Int)
def sU:Bool:=leI (0:Int) y0
def sV:Bool:=ltN y0.toNat y1.length
def sW:Bool:= !a6 (Option.getD y1[Int.toNat y0]? (0:Int)) (0:Int) (2:Int)
def sX:Int:=IntKind.wrap .i64 (y0 + (1:Int))
end
def XM:fG→List (Nat×SV)
 |(y0,_)=> [(3,(.one ⟨false,[(.val (.int .i64 y0))]⟩)),(0,(.one ⟨false,[(.ref 0)]⟩))]
def XD:fG→List (Nat×Entry)
 |(_,y1)=> [(0,(.row false 2 asg y1))]
def Ya:Nat→fG→List (Nat×SV)
 |0,(_,_)=> [(2,(.one ⟨false,[(.val (.bool false))]⟩))]
 |_,(_,_)=> []
def XT:Nat→fG→List (Nat×Entry)
 |0,(_,y1)=> [(0,(.row false 2 asg y1))]
 |_,(_,y1)=> [(0,(.row false 2 asg y1))]
def rH:fG→LT fG
 |(y0,y1)=> .ite (pq y0 y1) (.need [(sU y0),(pq y0 y1),(sV y0 y1)] (.ite (sW y0 y1) (.ext 0 [(0,0)]) (.nrm ((sX y0),y1) [(0,0)]))) (.ext 1 [(0,0)])
def Fl(s:St):Option fG:=
 (match s.look 3 with
 |some ⟨none,(.one ⟨false,[(.val (.int .i64 y0))]⟩)⟩=>
 (match s.look 0 with
 |some ⟨none,(.one ⟨false,[(.ref 0)]⟩)⟩=>
 (match s.ent 0 with
 |some (.row false 2 (.int .i64) y1)=>
 some (y0,y1)
 |_=>none)
 |_=>none)
 |_=>none)
def bS:Lp fG where
 h:=⟨[4,5,6,7,10,11,12,13,14,15,2,8,9,3],[0],[],[]⟩
 JL:=XM
 JE:=XD
 XL:=Ya
 XE:=XT
 q:=fun j=>match j with | 0=> .ret | _=> .exit 0
 tags:= [0,1]
 lt:=rH
 fuel:=fun(y0,y1)=>y0.natAbs + y1.length
 fix:=fun(_,y1) (y0,_)=>(y0,y1)
 σ:= [(0,0)]
 rd:=Fl
theorem Vk:LoopOk Tryz.prog (fun k=>Nat.blt k Tryz.f86.ntmps) bS.F (aT Tryz.f86 0):=by
 refine Lp.ok (tbl:= [fK]) (lf:= []) aS bS (by kernel_rfl) (LOk.nil _) (fun _=>rfl) (fun j _=>by unfold bS;match j with | 0=>rfl | _ + 1=>rfl) ?_ ?_ ?_ ?_ (fun _=>rfl) ?_
 ·rintro⟨y0,y1⟩;kernel_rfl
 ·rintro⟨y0,y1⟩;kernel_rfl
 ·intro s x h
  have h:Fl s=some x:=h
  unfold Fl at h
  repeat' split at h
  all_goals cases h
  exact⟨aa (by assumption) rfl (aa (by assumption) rfl (rfl)),ab rfl (by assumption) rfl (rfl)⟩
 ·rintro⟨y0,y1⟩;kernel_rfl
 ·rintro⟨y0,y1⟩ z;exact(And.intro (And.intro trivial rfl) trivial)
def Lb(x0:List Int):Bool:=bif Nat.beq ((Lp.res bS ((0:Int),x0)).1) (0:Nat)then false else a6 (↑x0.length:Int) (1:Int) (12:Int)
def Lc(x0:List Int):Bool:=allT [Lp.fin bS ((0:Int),x0)]
def SJ:List SV→List Entry→Option Out
 | [.one ⟨false,[.ref 0]⟩],[.row false 2 (.int .i64) x0]=>some ⟨(.one ⟨false,[(.val (.bool (Lb x0)))]⟩),[(.row false 2 asg x0)],[],[(Lc x0)]⟩
 |_,_=>none
def adx:PF Tryz.prog:=PF.ofG Tryz.prog [fK] [bS.F] aS 86 Tryz.f86 Tryz.func86 (LOk.fnT (l:= [aT Tryz.f86 0]) (by kernel_rfl) (.cons Vk (.nil _))) SJ (by
 intro vs es r h;unfold SJ at h;split at h
 ·cases h;kernel_rfl
 ·cases h)
def zp(x5:List (List Int)):Int:=(↑(List.length (Option.getD x5[Int.toNat (0:Int)]? (AK (CTy.sl (2:TypeId) asg)))):Int)
def zq(x5:List (List Int)):Bool:=allT [ltI (0:Int) (↑x5.length:Int),ltN (Int.toNat (0:Int)) x5.length]
def acv:List SV→List Entry→Option Out
 | [.one ⟨true,[.val (.int .i64 _x0),.ref 0,.ref 1,.ref 2,.ref 3,.val (.int .i64 _x1),.ref 4,.ref 5,.val (.int .i64 _x2)]⟩],[.row false 2 (.int .i64) x3,.row false 169 (.pair (.int .i64) (.pair (.int .i64) (.int .i64))) x4,.row false 24 (.sl 2 (.int .i64)) x5,.row false 100 (.pair (.int .i64) (.pair (.int .i64) (.int .i64))) x6,.row false 173 (.pair (.int .i64) (.int .i64)) x7,.row false 176 (.pair (.int .i64) (.int .i64)) x8]=>some ⟨(.one ⟨false,[(.val (.int .i64 (zp x5)))]⟩),[(.row false 2 asg x3),(.row false 169 ase x4),(.row false 24 (CTy.sl (2:TypeId) asg) x5),(.row false 100 ase x6),(.row false 173 asf x7),(.row false 176 asf x8)],[],[(zq x5)]⟩
 |_,_=>none
def uk:PF Tryz.prog:=PF.ofG Tryz.prog [] [] aS 87 Tryz.f87 Tryz.func87 (fun c _=>LOk.nil c) acv (by
 intro vs es r h;unfold acv at h;split at h
 ·cases h;kernel_rfl
 ·cases h)
abbrev dx:=Int×Int×List (Int×(Int×Int))×Int×Int×Int
section
variable (y0 y1:Int)(y2:List (Int×(Int×Int)))(y3 y4:Int)
def kT:Int×Int×Int:=Option.getD y2[Int.toNat y0]? ((0:Int),(0:Int),(0:Int))
def gk:Bool:=(kT y0 y2).1==y3
def pS:Bool:=ltI y0 y1
def pT:Bool:=leI (0:Int) y0
def pU:Bool:=ltI y0 (↑y2.length:Int)
def pV:Bool:=ltN y0.toNat y2.length
def pW:Bool:= !(gk y0 y2 y3&&true)||leI (0:Int) y0
def pX:Bool:= !(gk y0 y2 y3&&true)||ltI y0 (↑y2.length:Int)
def pY:Bool:= !(gk y0 y2 y3&&true)||ltN y0.toNat y2.length
def pZ:Bool:=bif gk y0 y2 y3 then ((kT y0 y2).2).1==y4 else false
def p6:Int:=IntKind.wrap .i64 (y0 + (1:Int))
end
def Up:dx→List (Nat×SV)
 |(y0,y1,_,_,_,_)=> [(7,(.one ⟨false,[(.val (.int .i64 y0))]⟩)),(5,(.one ⟨false,[(.val (.int .i64 y1))]⟩)),(1,(.one ⟨false,[(.ref 0)]⟩)),(6,(.one ⟨false,[(.ptr 1 0)]⟩))]
def Uo:dx→List (Nat×Entry)
 |(_,_,y2,y3,y4,y5)=> [(0,(.row false 100 ase y2)),(1,(.box 100 [(.val (.int .i64 y3)),(.val (.int .i64 y4)),(.val (.int .i64 y5))]))]
def Ur:Nat→dx→List (Nat×SV)
 |0,(_,_,_,_,_,_)=> [(4,(.one ⟨false,[(.val (.bool false))]⟩))]
 |_,(_,_,_,_,_,_)=> []
def Uq:Nat→dx→List (Nat×Entry)
 |0,(_,_,y2,y3,y4,y5)=> [(0,(.row false 100 ase y2)),(1,(.box 100 [(.val (.int .i64 y3)),(.val (.int .i64 y4)),(.val (.int .i64 y5))]))]
 |_,(_,_,y2,y3,y4,y5)=> [(0,(.row false 100 ase y2)),(1,(.box 100 [(.val (.int .i64 y3)),(.val (.int .i64 y4)),(.val (.int .i64 y5))]))]
def oC:dx→LT dx
 |(y0,y1,y2,y3,y4,y5)=> .ite (pS y0 y1) (.need [(pT y0),(pU y0 y2),(pV y0 y2),(pW y0 y2 y3),(pX y0 y2 y3),(pY y0 y2 y3)] (.ite (pZ y0 y2 y3 y4) (.ext 0 [(0,0),(1,1)]) (.nrm ((p6 y0),y1,y2,y3,y4,y5) [(0,0),(1,1)]))) (.ext 1 [(0,0),(1,1)])
def AO(s:St):Option dx:=
 (match s.look 7 with
 |some ⟨none,(.one ⟨false,[(.val (.int .i64 y0))]⟩)⟩=>
 (match s.look 5 with
 |some ⟨none,(.one ⟨false,[(.val (.int .i64 y1))]⟩)⟩=>
 (match s.look 1 with
 |some ⟨none,(.one ⟨false,[(.ref 0)]⟩)⟩=>
 (match s.look 6 with
 |some ⟨none,(.one ⟨false,[(.ptr 576 0)]⟩)⟩=>
 (match s.ent 0 with
 |some (.row false 100 (.pair (.int .i64) (.pair (.int .i64) (.int .i64))) y2)=>
 (match s.ent 576 with
 |some (.box 100 [(.val (.int .i64 y3)),(.val (.int .i64 y4)),(.val (.int .i64 y5))])=>
 some (y0,y1,y2,y3,y4,y5)
 |_=>none)
 |_=>none)
 |_=>none)
 |_=>none)
 |_=>none)
 |_=>none)
def bz:Lp dx where
 h:=⟨[36,37,38,41,42,43,44,45,46,47,48,49,50,51,52,53,54,55,56,57,58,4,39,40,7],[0,1],[],[]⟩
 JL:=Up
 JE:=Uo
 XL:=Ur
 XE:=Uq
 q:=fun j=>match j with | 0=> .ret | _=> .exit 2
 tags:= [0,1]
 lt:=oC
 fuel:=fun(y0,y1,y2,y3,y4,y5)=>y0.natAbs + y1.natAbs + y2.length + y3.natAbs + y4.natAbs + y5.natAbs
 fix:=fun(_,y1,y2,y3,y4,y5) (y0,_,_,_,_,_)=>(y0,y1,y2,y3,y4,y5)
 σ:= [(0,0),(1,576)]
 rd:=AO
theorem SY:LoopOk Tryz.prog (memN [8,9,10,11,14,15,16,17,6,18,19,20,21,22,23,24,25,26,27,28,29,30,31,32,33,34,35,4,7,36,37,38,41,42,43,44,45,46,47,48,49,50,51,52,53,54,55,56,57,58,39,40,12,13,5]) bz.F (ade (aT Tryz.f88 0) 0):=by
 refine Lp.ok (tbl:= [fK]) (lf:= []) aS bz (by kernel_rfl) (LOk.nil _) (fun _=>rfl) (fun j _=>by unfold bz;match j with | 0=>rfl | _ + 1=>rfl) ?_ ?_ ?_ ?_ (fun _=>rfl) ?_
 ·rintro⟨y0,y1,y2,y3,y4,y5⟩;kernel_rfl
 ·rintro⟨y0,y1,y2,y3,y4,y5⟩;kernel_rfl
 ·intro s x h
  have h:AO s=some x:=h
  unfold AO at h
  repeat' split at h
  all_goals cases h
  exact⟨aa (by assumption) rfl (aa (by assumption) rfl (aa (by assumption) rfl (aa (by assumption) rfl (rfl)))),ab rfl (by assumption) rfl (ab rfl (by assumption) rfl (rfl))⟩
 ·rintro⟨y0,y1,y2,y3,y4,y5⟩;kernel_rfl
 ·rintro⟨y0,y1,y2,y3,y4,y5⟩ z;exact(And.intro (And.intro trivial rfl) trivial)
abbrev jx:=Int×Int×List (Int×(Int×Int))
section
variable (y0 y1:Int)(y2:List (Int×(Int×Int)))
def kE:Int×Int×Int:=Option.getD y2[Int.toNat y0]? ((0:Int),(0:Int),(0:Int))
def Ft:Int×Int×List (Int×Int×Int)×Int×Int×Int:=((0:Int),y0,y2,(kE y0 y2).1,((kE y0 y2).2).1,(kE y0 y2).2.2)
def sT:Bool:=ltI y0 (↑y2.length:Int)
def OO:Bool:=leI (0:Int) y0
def OP:Bool:=ltN y0.toNat y2.length
def Gq:Bool:=bif bif !a6 ((kE y0 y2).1) (0:Int) (IntKind.wrap .i64 (y1 - (1:Int)))then true else !a6 (((kE y0 y2).2).1) (0:Int) (1:Int)then true else !a6 ((kE y0 y2).2.2) (0:Int) (1:Int)
def OQ:Bool:=Lp.fin bz (Ft y0 y2)
def Gr:Bool:=Nat.beq ((Lp.res bz (Ft y0 y2)).1) (0:Nat)
def OR:Int:=IntKind.wrap .i64 (y0 + (1:Int))
end
def XK:jx→List (Nat×SV)
 |(y0,y1,_)=> [(5,(.one ⟨false,[(.val (.int .i64 y0))]⟩)),(1,(.one ⟨false,[(.ref 0)]⟩)),(0,(.one ⟨false,[(.val (.int .i64 y1))]⟩))]
def XC:jx→List (Nat×Entry)
 |(_,_,y2)=> [(0,(.row false 100 ase y2))]
def XZ:Nat→jx→List (Nat×SV)
 |0,(_,_,_)=> [(4,(.one ⟨false,[(.val (.bool false))]⟩))]
 |1,(_,_,_)=> [(4,(.one ⟨false,[(.val (.bool false))]⟩))]
 |_,(_,_,_)=> []
def XS:Nat→jx→List (Nat×Entry)
 |0,(_,_,y2)=> [(0,(.row false 100 ase y2))]
 |1,(_,_,y2)=> [(0,(.row false 100 ase y2))]
 |_,(_,_,y2)=> [(0,(.row false 100 ase y2))]
def rG:jx→LT jx
 |(y0,y1,y2)=> .ite (sT y0 y2) (.need [(OO y0),(sT y0 y2),(OP y0 y2)] (.ite (Gq y0 y1 y2) (.ext 0 [(0,0)]) (.need [(OQ y0 y2)] (.ite (Gr y0 y2) (.ext 1 [(0,0)]) (.nrm ((OR y0),y1,y2) [(0,0)]))))) (.ext 2 [(0,0)])
def Fk(s:St):Option jx:=
 (match s.look 5 with
 |some ⟨none,(.one ⟨false,[(.val (.int .i64 y0))]⟩)⟩=>
 (match s.look 1 with
 |some ⟨none,(.one ⟨false,[(.ref 0)]⟩)⟩=>
 (match s.look 0 with
 |some ⟨none,(.one ⟨false,[(.val (.int .i64 y1))]⟩)⟩=>
 (match s.ent 0 with
 |some (.row false 100 (.pair (.int .i64) (.pair (.int .i64) (.int .i64))) y2)=>
 some (y0,y1,y2)
 |_=>none)
 |_=>none)
 |_=>none)
 |_=>none)
def bK:Lp jx where
 h:=⟨[8,9,10,11,14,15,16,17,6,18,19,20,21,22,23,24,25,26,27,28,29,30,31,32,33,34,35,4,7,36,37,38,41,42,43,44,45,46,47,48,49,50,51,52,53,54,55,56,57,58,39,40,12,13,5],[0],[],[]⟩
 JL:=XK
 JE:=XC
 XL:=XZ
 XE:=XS
 q:=fun j=>match j with | 0=> .ret | 1=> .ret | _=> .exit 0
 tags:= [0,1,2]
 lt:=rG
 fuel:=fun(y0,y1,y2)=>y0.natAbs + y1.natAbs + y2.length
 fix:=fun(_,y1,y2) (y0,_,_)=>(y0,y1,y2)
 σ:= [(0,0)]
 rd:=Fk
theorem Vj:LoopOk Tryz.prog (fun k=>Nat.blt k Tryz.f88.ntmps) bK.F (aT Tryz.f88 0):=by
 refine Lp.ok (tbl:= [fK]) (lf:= [bz.F]) aS bK (by kernel_rfl) (LOk.allT (l:= [ade (aT Tryz.f88 0) 0]) (by kernel_rfl) (.cons SY (.nil _))) (fun _=>rfl) (fun j _=>by unfold bK;match j with | 0=>rfl | 1=>rfl | _ + 2=>rfl) ?_ ?_ ?_ ?_ (fun _=>rfl) ?_
 ·rintro⟨y0,y1,y2⟩;kernel_rfl
 ·rintro⟨y0,y1,y2⟩;kernel_rfl
 ·intro s x h
  have h:Fk s=some x:=h
  unfold Fk at h
  repeat' split at h
  all_goals cases h
  exact⟨aa (by assumption) rfl (aa (by assumption) rfl (aa (by assumption) rfl (rfl))),ab rfl (by assumption) rfl (rfl)⟩
 ·rintro⟨y0,y1,y2⟩;kernel_rfl
 ·rintro⟨y0,y1,y2⟩ z;exact(And.intro (And.intro trivial (And.intro trivial rfl)) trivial)
section
variable (x0:Int)(x1:List (Int×Int×Int))
def v7:Int×Int×List (Int×Int×Int):=((0:Int),x0,x1)
def KZ:Bool:=bif Nat.beq ((Lp.res bK (v7 x0 x1)).1) (0:Nat)then false else bif Nat.beq ((Lp.res bK (v7 x0 x1)).1) (1:Nat)then false else bif a6 x0 (1:Int) (12:Int)then leI (↑x1.length:Int) (8:Int)else false
def La:Bool:=allT [Lp.fin bK (v7 x0 x1)]
end
def SI:List SV→List Entry→Option Out
 | [.one ⟨false,[.val (.int .i64 x0)]⟩,.one ⟨false,[.ref 0]⟩],[.row false 100 (.pair (.int .i64) (.pair (.int .i64) (.int .i64))) x1]=>some ⟨(.one ⟨false,[(.val (.bool (KZ x0 x1)))]⟩),[(.row false 100 ase x1)],[],[(La x0 x1)]⟩
 |_,_=>none
def adw:PF Tryz.prog:=PF.ofG Tryz.prog [fK] [bK.F] aS 88 Tryz.f88 Tryz.func88 (LOk.fnT (l:= [aT Tryz.f88 0]) (by kernel_rfl) (.cons Vj (.nil _))) SI (by
 intro vs es r h;unfold SI at h;split at h
 ·cases h;kernel_rfl
 ·cases h)
def QA(x0:Int):Bool:=a6 x0 (0:Int) (5:Int)
def acm:List SV→List Entry→Option Out
 | [.one ⟨false,[.val (.int .i64 x0)]⟩],[]=>some ⟨(.one ⟨false,[(.val (.bool (QA x0)))]⟩),[],[],[]⟩
 |_,_=>none
def adA:PF Tryz.prog:=PF.ofG Tryz.prog [fK] [] aS 89 Tryz.f89 Tryz.func89 (fun c _=>LOk.nil c) acm (by
 intro vs es r h;unfold acm at h;split at h
 ·cases h;kernel_rfl
 ·cases h)
abbrev nc:=Int×List (Int×Int)
section
variable (y0:Int)(y1:List (Int×Int))
def zD:Int×Int:=Option.getD y1[Int.toNat y0]? ((0:Int),(0:Int))
def rf:Bool:= !a6 ((zD y0 y1).1) (1:Int) (366:Int)
def BB:Bool:=ltI y0 (↑y1.length:Int)
def Gs:Bool:=leI (0:Int) y0
def Gt:Bool:=ltN y0.toNat y1.length
def Gu:Bool:= !(!rf y0 y1&&true)||leI (0:Int) y0
def Gv:Bool:= !(!rf y0 y1&&true)||ltI y0 (↑y1.length:Int)
def Gw:Bool:= !(!rf y0 y1&&true)||ltN y0.toNat y1.length
def Gx:Bool:=bif rf y0 y1 then true else !a6 ((zD y0 y1).2) (0:Int) (100000:Int)
def Gy:Int:=IntKind.wrap .i64 (y0 + (1:Int))
end
def agv:nc→List (Nat×SV)
 |(y0,_)=> [(3,(.one ⟨false,[(.val (.int .i64 y0))]⟩)),(0,(.one ⟨false,[(.ref 0)]⟩))]
def ago:nc→List (Nat×Entry)
 |(_,y1)=> [(0,(.row false 173 asf y1))]
def agJ:Nat→nc→List (Nat×SV)
 |0,(_,_)=> [(2,(.one ⟨false,[(.val (.bool false))]⟩))]
 |_,(_,_)=> []
def agC:Nat→nc→List (Nat×Entry)
 |0,(_,y1)=> [(0,(.row false 173 asf y1))]
 |_,(_,y1)=> [(0,(.row false 173 asf y1))]
def Em:nc→LT nc
 |(y0,y1)=> .ite (BB y0 y1) (.need [(Gs y0),(BB y0 y1),(Gt y0 y1),(Gu y0 y1),(Gv y0 y1),(Gw y0 y1)] (.ite (Gx y0 y1) (.ext 0 [(0,0)]) (.nrm ((Gy y0),y1) [(0,0)]))) (.ext 1 [(0,0)])
def Qa(s:St):Option nc:=
 (match s.look 3 with
 |some ⟨none,(.one ⟨false,[(.val (.int .i64 y0))]⟩)⟩=>
 (match s.look 0 with
 |some ⟨none,(.one ⟨false,[(.ref 0)]⟩)⟩=>
 (match s.ent 0 with
 |some (.row false 173 (.pair (.int .i64) (.int .i64)) y1)=>
 some (y0,y1)
 |_=>none)
 |_=>none)
 |_=>none)
def gg:Lp nc where
 h:=⟨[4,5,6,7,10,11,12,13,14,15,16,17,18,19,20,21,22,23,24,25,2,8,9,3],[0],[],[]⟩
 JL:=agv
 JE:=ago
 XL:=agJ
 XE:=agC
 q:=fun j=>match j with | 0=> .ret | _=> .exit 0
 tags:= [0,1]
 lt:=Em
 fuel:=fun(y0,y1)=>y0.natAbs + y1.length
 fix:=fun(_,y1) (y0,_)=>(y0,y1)
 σ:= [(0,0)]
 rd:=Qa
theorem aew:LoopOk Tryz.prog (fun k=>Nat.blt k Tryz.f90.ntmps) gg.F (aT Tryz.f90 0):=by
 refine Lp.ok (tbl:= [fK]) (lf:= []) aS gg (by kernel_rfl) (LOk.nil _) (fun _=>rfl) (fun j _=>by unfold gg;match j with | 0=>rfl | _ + 1=>rfl) ?_ ?_ ?_ ?_ (fun _=>rfl) ?_
 ·rintro⟨y0,y1⟩;kernel_rfl
 ·rintro⟨y0,y1⟩;kernel_rfl
 ·intro s x h
  have h:Qa s=some x:=h
  unfold Qa at h
  repeat' split at h
  all_goals cases h
  exact⟨aa (by assumption) rfl (aa (by assumption) rfl (rfl)),ab rfl (by assumption) rfl (rfl)⟩
 ·rintro⟨y0,y1⟩;kernel_rfl
 ·rintro⟨y0,y1⟩ z;exact(And.intro (And.intro trivial rfl) trivial)
def Yx(x0:List (Int×Int)):Bool:=bif Nat.beq ((Lp.res gg ((0:Int),x0)).1) (0:Nat)then false else leI (↑x0.length:Int) (12:Int)
def Yy(x0:List (Int×Int)):Bool:=allT [Lp.fin gg ((0:Int),x0)]
def aeM:List SV→List Entry→Option Out
 | [.one ⟨false,[.ref 0]⟩],[.row false 173 (.pair (.int .i64) (.int .i64)) x0]=>some ⟨(.one ⟨false,[(.val (.bool (Yx x0)))]⟩),[(.row false 173 asf x0)],[],[(Yy x0)]⟩
 |_,_=>none
def alb:PF Tryz.prog:=PF.ofG Tryz.prog [fK] [gg.F] aS 90 Tryz.f90 Tryz.func90 (LOk.fnT (l:= [aT Tryz.f90 0]) (by kernel_rfl) (.cons aew (.nil _))) aeM (by
 intro vs es r h;unfold aeM at h;split at h
 ·cases h;kernel_rfl
 ·cases h)
def QE(x0 x1:Int):Bool:=bif a6 x0 (0:Int) (23:Int)then a6 x1 (1:Int) (999:Int)else false
def acs:List SV→List Entry→Option Out
 | [.one ⟨false,[.val (.int .i64 x0)]⟩,.one ⟨false,[.val (.int .i64 x1)]⟩],[]=>some ⟨(.one ⟨false,[(.val (.bool (QE x0 x1)))]⟩),[],[],[]⟩
 |_,_=>none
def adB:PF Tryz.prog:=PF.ofG Tryz.prog [fK] [] aS 173 Tryz.f173 Tryz.func173 (fun c _=>LOk.nil c) acs (by
 intro vs es r h;unfold acs at h;split at h
 ·cases h;kernel_rfl
 ·cases h)
abbrev lY:=Int×Int×Int×List (Int×Int)
section
variable (y0 y1 y2:Int)(y3:List (Int×Int))
def sv:Int×Int:=Option.getD y3[Int.toNat y0]? ((0:Int),(0:Int))
def sw:Bool:= !((sv y0 y3).1==y1&&true)
def zU:Bool:=ltI y0 (↑y3.length:Int)
def EP:Bool:=leI (0:Int) y0
def EQ:Bool:=ltN y0.toNat y3.length
def ER:Bool:=sw y0 y1 y3||leI (0:Int) y0
def ES:Bool:=sw y0 y1 y3||ltI y0 (↑y3.length:Int)
def ET:Bool:=sw y0 y1 y3||ltN y0.toNat y3.length
def EU:Bool:=bif (sv y0 y3).1==y1 then (sv y0 y3).2==y2 else false
def EV:Int:=IntKind.wrap .i64 (y0 + (1:Int))
end
def afr:lY→List (Nat×SV)
 |(y0,y1,y2,_)=> [(7,(.one ⟨false,[(.val (.int .i64 y0))]⟩)),(0,(.one ⟨false,[(.ref 0)]⟩)),(1,(.one ⟨false,[(.val (.int .i64 y1))]⟩)),(2,(.one ⟨false,[(.val (.int .i64 y2))]⟩))]
def afj:lY→List (Nat×Entry)
 |(_,_,_,y3)=> [(0,(.row false 176 asf y3))]
def afH:Nat→lY→List (Nat×SV)
 |0,(y0,_,_,_)=> [(6,(.one ⟨false,[(.val (.int .i64 y0))]⟩))]
 |_,(_,_,_,_)=> []
def afz:Nat→lY→List (Nat×Entry)
 |0,(_,_,_,y3)=> [(0,(.row false 176 asf y3))]
 |_,(_,_,_,y3)=> [(0,(.row false 176 asf y3))]
def CQ:lY→LT lY
 |(y0,y1,y2,y3)=> .ite (zU y0 y3) (.need [(EP y0),(zU y0 y3),(EQ y0 y3),(ER y0 y1 y3),(ES y0 y1 y3),(ET y0 y1 y3)] (.ite (EU y0 y1 y2 y3) (.ext 0 [(0,0)]) (.nrm ((EV y0),y1,y2,y3) [(0,0)]))) (.ext 1 [(0,0)])
def Od(s:St):Option lY:=
 (match s.look 7 with
 |some ⟨none,(.one ⟨false,[(.val (.int .i64 y0))]⟩)⟩=>
 (match s.look 0 with
 |some ⟨none,(.one ⟨false,[(.ref 0)]⟩)⟩=>
 (match s.look 1 with
 |some ⟨none,(.one ⟨false,[(.val (.int .i64 y1))]⟩)⟩=>
 (match s.look 2 with
 |some ⟨none,(.one ⟨false,[(.val (.int .i64 y2))]⟩)⟩=>
 (match s.ent 0 with
 |some (.row false 176 (.pair (.int .i64) (.int .i64)) y3)=>
 some (y0,y1,y2,y3)
 |_=>none)
 |_=>none)
 |_=>none)
 |_=>none)
 |_=>none)
def dQ:Lp lY where
 h:=⟨[8,9,10,11,14,15,16,17,18,19,20,21,22,23,24,25,26,27,28,29,30,6,12,13,7],[0],[],[]⟩
 JL:=afr
 JE:=afj
 XL:=afH
 XE:=afz
 q:=fun j=>match j with | 0=> .ret | _=> .exit 0
 tags:= [0,1]
 lt:=CQ
 fuel:=fun(y0,y1,y2,y3)=>y0.natAbs + y1.natAbs + y2.natAbs + y3.length
 fix:=fun(_,y1,y2,y3) (y0,_,_,_)=>(y0,y1,y2,y3)
 σ:= [(0,0)]
 rd:=Od
theorem adl:LoopOk Tryz.prog (fun k=>Nat.blt k Tryz.f174.ntmps) dQ.F (aT Tryz.f174 0):=by
 refine Lp.ok (tbl:= []) (lf:= []) aS dQ (by kernel_rfl) (LOk.nil _) (fun _=>rfl) (fun j _=>by unfold dQ;match j with | 0=>rfl | _ + 1=>rfl) ?_ ?_ ?_ ?_ (fun _=>rfl) ?_
 ·rintro⟨y0,y1,y2,y3⟩;kernel_rfl
 ·rintro⟨y0,y1,y2,y3⟩;kernel_rfl
 ·intro s x h
  have h:Od s=some x:=h
  unfold Od at h
  repeat' split at h
  all_goals cases h
  exact⟨aa (by assumption) rfl (aa (by assumption) rfl (aa (by assumption) rfl (aa (by assumption) rfl (rfl)))),ab rfl (by assumption) rfl (rfl)⟩
 ·rintro⟨y0,y1,y2,y3⟩;kernel_rfl
 ·rintro⟨y0,y1,y2,y3⟩ z;exact(And.intro (And.intro trivial rfl) trivial)
section
variable (x0 x1:Int)(x2:List (Int×Int))
def NF:Int×Int×Int×List (Int×Int):=((0:Int),x0,x1,x2)
def GU:Int:=bif Nat.beq ((Lp.res dQ (NF x0 x1 x2)).1) (0:Nat)then ((Lp.res dQ (NF x0 x1 x2)).2).1else(-1:Int)
def QD:Bool:=allT [Lp.fin dQ (NF x0 x1 x2)]
end
def acr:List SV→List Entry→Option Out
 | [.one ⟨false,[.ref 0]⟩,.one ⟨false,[.val (.int .i64 x0)]⟩,.one ⟨false,[.val (.int .i64 x1)]⟩],[.row false 176 (.pair (.int .i64) (.int .i64)) x2]=>some ⟨(.one ⟨false,[(.val (.int .i64 (GU x0 x1 x2)))]⟩),[(.row false 176 asf x2)],[],[(QD x0 x1 x2)]⟩
 |_,_=>none
def Gk:PF Tryz.prog:=PF.ofG Tryz.prog [] [dQ.F] aS 174 Tryz.f174 Tryz.func174 (LOk.fnT (l:= [aT Tryz.f174 0]) (by kernel_rfl) (.cons adl (.nil _))) acr (by
 intro vs es r h;unfold acr at h;split at h
 ·cases h;kernel_rfl
 ·cases h)
abbrev px:=Int×List (Int×Int)
section
variable (y0:Int)(y1:List (Int×Int))
def nC:Int×Int:=Option.getD y1[Int.toNat y0]? ((0:Int),(0:Int))
def qX:Bool:= !QE ((nC y0 y1).1) ((nC y0 y1).2)
def wu:Bool:=ltI y0 (↑y1.length:Int)
def Of:Bool:=leI (0:Int) y0
def Og:Bool:=ltN y0.toNat y1.length
def Oh:Bool:= !(!qX y0 y1&&true)||leI (0:Int) y0
def Oi:Bool:= !(!qX y0 y1&&true)||ltI y0 (↑y1.length:Int)
def Oj:Bool:= !(!qX y0 y1&&true)||ltN y0.toNat y1.length
def VO:Bool:= !(!qX y0 y1&&true)||QD ((nC y0 y1).1) ((nC y0 y1).2) y1
def VP:Bool:=bif qX y0 y1 then true else GU ((nC y0 y1).1) ((nC y0 y1).2) y1 !=y0
def VQ:Int:=IntKind.wrap .i64 (y0 + (1:Int))
end
def aec:px→List (Nat×SV)
 |(y0,_)=> [(3,(.one ⟨false,[(.val (.int .i64 y0))]⟩)),(0,(.one ⟨false,[(.ref 0)]⟩))]
def ad4:px→List (Nat×Entry)
 |(_,y1)=> [(0,(.row false 176 asf y1))]
def aes:Nat→px→List (Nat×SV)
 |0,(_,_)=> [(2,(.one ⟨false,[(.val (.bool false))]⟩))]
 |_,(_,_)=> []
def aek:Nat→px→List (Nat×Entry)
 |0,(_,y1)=> [(0,(.row false 176 asf y1))]
 |_,(_,y1)=> [(0,(.row false 176 asf y1))]
def Ar:px→LT px
 |(y0,y1)=> .ite (wu y0 y1) (.need [(Of y0),(wu y0 y1),(Og y0 y1),(Of y0),(wu y0 y1),(Og y0 y1),(Oh y0 y1),(Oi y0 y1),(Oj y0 y1),(Oh y0 y1),(Oi y0 y1),(Oj y0 y1),(VO y0 y1)] (.ite (VP y0 y1) (.ext 0 [(0,0)]) (.nrm ((VQ y0),y1) [(0,0)]))) (.ext 1 [(0,0)])
def Ml(s:St):Option px:=
 (match s.look 3 with
 |some ⟨none,(.one ⟨false,[(.val (.int .i64 y0))]⟩)⟩=>
 (match s.look 0 with
 |some ⟨none,(.one ⟨false,[(.ref 0)]⟩)⟩=>
 (match s.ent 0 with
 |some (.row false 176 (.pair (.int .i64) (.int .i64)) y1)=>
 some (y0,y1)
 |_=>none)
 |_=>none)
 |_=>none)
def dW:Lp px where
 h:=⟨[4,5,6,7,10,11,12,13,14,15,16,17,18,19,20,21,22,23,24,25,26,27,28,29,30,31,32,33,34,35,36,37,2,8,9,3],[0],[],[]⟩
 JL:=aec
 JE:=ad4
 XL:=aes
 XE:=aek
 q:=fun j=>match j with | 0=> .ret | _=> .exit 0
 tags:= [0,1]
 lt:=Ar
 fuel:=fun(y0,y1)=>y0.natAbs + y1.length
 fix:=fun(_,y1) (y0,_)=>(y0,y1)
 σ:= [(0,0)]
 rd:=Ml
theorem ab0:LoopOk Tryz.prog (fun k=>Nat.blt k Tryz.f91.ntmps) dW.F (aT Tryz.f91 0):=by
 refine Lp.ok (tbl:= [adB,Gk,PF.lend Gk,PF.fz Gk]) (lf:= []) aS dW (by kernel_rfl) (LOk.nil _) (fun _=>rfl) (fun j _=>by unfold dW;match j with | 0=>rfl | _ + 1=>rfl) ?_ ?_ ?_ ?_ (fun _=>rfl) ?_
 ·rintro⟨y0,y1⟩;kernel_rfl
 ·rintro⟨y0,y1⟩;kernel_rfl
 ·intro s x h
  have h:Ml s=some x:=h
  unfold Ml at h
  repeat' split at h
  all_goals cases h
  exact⟨aa (by assumption) rfl (aa (by assumption) rfl (rfl)),ab rfl (by assumption) rfl (rfl)⟩
 ·rintro⟨y0,y1⟩;kernel_rfl
 ·rintro⟨y0,y1⟩ z;exact(And.intro (And.intro trivial rfl) trivial)
def TP(x0:List (Int×Int)):Bool:=bif Nat.beq ((Lp.res dW ((0:Int),x0)).1) (0:Nat)then false else leI (↑x0.length:Int) (8:Int)
def TQ(x0:List (Int×Int)):Bool:=allT [Lp.fin dW ((0:Int),x0)]
def aa0:List SV→List Entry→Option Out
 | [.one ⟨false,[.ref 0]⟩],[.row false 176 (.pair (.int .i64) (.int .i64)) x0]=>some ⟨(.one ⟨false,[(.val (.bool (TP x0)))]⟩),[(.row false 176 asf x0)],[],[(TQ x0)]⟩
 |_,_=>none
def ajj:PF Tryz.prog:=PF.ofG Tryz.prog [adB,Gk,PF.lend Gk,PF.fz Gk] [dW.F] aS 91 Tryz.f91 Tryz.func91 (LOk.fnT (l:= [aT Tryz.f91 0]) (by kernel_rfl) (.cons ab0 (.nil _))) aa0 (by
 intro vs es r h;unfold aa0 at h;split at h
 ·cases h;kernel_rfl
 ·cases h)
def aaB(x0:Int):Bool:= !bn x0 (0:Int) (2:Int)
def Po:List SV→List Entry→Option Out
 | [.one ⟨false,[.val (.int .i64 x0)]⟩],[]=>some ⟨(.one ⟨false,[(.val (.bool (aaB x0)))]⟩),[],[],[]⟩
 |_,_=>none
def aaK:PF Tryz.prog:=PF.ofG Tryz.prog [gP] [] aS 166 Tryz.f166 Tryz.func166 (fun c _=>LOk.nil c) Po (by
 intro vs es r h;unfold Po at h;split at h
 ·cases h;kernel_rfl
 ·cases h)
def zx(x0:Int):Bool:=bn x0 (1:Int) (12:Int)
def WJ:List SV→List Entry→Option Out
 | [.one ⟨false,[.val (.int .i64 x0)]⟩],[]=>some ⟨(.one ⟨false,[(.val (.bool (zx x0)))]⟩),[],[],[]⟩
 |_,_=>none
def PP:PF Tryz.prog:=PF.ofG Tryz.prog [gP] [] aS 70 Tryz.f70 Tryz.func70 (fun c _=>LOk.nil c) WJ (by
 intro vs es r h;unfold WJ at h;split at h
 ·cases h;kernel_rfl
 ·cases h)
def rS(x0:Int):Bool:= !bn x0 (0:Int) (2:Int)
def Il:List SV→List Entry→Option Out
 | [(.one ⟨false,[(.val (.int .i64 x0))]⟩)],[]=>some ⟨(.one ⟨false,[(.val (.bool (rS x0)))]⟩),[],[],[]⟩
 |_,_=>none
def Ix:PF Tryz.prog:=PF.ofG Tryz.prog [gP] [] aS 166 Tryz.f166 Tryz.func166 (fun c _=>LOk.nil c) Il (by
 intro vs es r h;unfold Il at h;split at h
 ·cases h;kernel_rfl
 ·cases h)
abbrev bk:=Int×Int×List Int
section
variable (y0 y1:Int)(y2:List Int)
def gu:Bool:=ltI y0 y1
def gv:Bool:=leI (0:Int) y0
def gw:Bool:=ltI y0 (↑y2.length:Int)
def gx:Bool:=ltN y0.toNat y2.length
def gy:Bool:=rS (Option.getD y2[Int.toNat y0]? (0:Int))
def gz:Int:=IntKind.wrap .i64 (y0 + (1:Int))
end
def Jb:bk→List (Nat×SV)
 |(y0,y1,_)=> [(8,(.one ⟨false,[(.val (.int .i64 y0))]⟩)),(7,(.one ⟨false,[(.val (.int .i64 y1))]⟩)),(1,(.one ⟨false,[(.val (.func (.func 166) ⟨[]⟩ ⟨[]⟩))]⟩)),(0,(.one ⟨false,[(.ref 0)]⟩))]
def IZ:bk→List (Nat×Entry)
 |(_,_,y2)=> [(0,(.row false 2 asg y2))]
def Jf:Nat→bk→List (Nat×SV)
 |0,(y0,_,_)=> [(4,(.one ⟨false,[(.val (.int .i64 y0))]⟩))]
 |_,(_,_,_)=> []
def Jd:Nat→bk→List (Nat×Entry)
 |0,(_,_,y2)=> [(0,(.row false 2 asg y2))]
 |_,(_,_,y2)=> [(0,(.row false 2 asg y2))]
def fY:bk→LT bk
 |(y0,y1,y2)=> .ite (gu y0 y1) (.need [(gv y0),(gw y0 y2),(gx y0 y2)] (.ite (gy y0 y2) (.ext 0 [(0,0)]) (.nrm ((gz y0),y1,y2) [(0,0)]))) (.ext 1 [(0,0)])
def oc(s:St):Option bk:=
 (match s.look 8 with
 |some ⟨none,(.one ⟨false,[(.val (.int .i64 y0))]⟩)⟩=>
 (match s.look 7 with
 |some ⟨none,(.one ⟨false,[(.val (.int .i64 y1))]⟩)⟩=>
 (match s.look 1 with
 |some ⟨none,(.one ⟨false,[(.val (.func (.func 166) ⟨[]⟩ ⟨[]⟩))]⟩)⟩=>
 (match s.look 0 with
 |some ⟨none,(.one ⟨false,[(.ref 0)]⟩)⟩=>
 (match s.ent 0 with
 |some (.row false 2 (.int .i64) y2)=>
 some (y0,y1,y2)
 |_=>none)
 |_=>none)
 |_=>none)
 |_=>none)
 |_=>none)
def aF:Lp bk where
 h:=⟨[9,10,5,11,12,13,14,15,16,17,4,18,8],[0],[],[]⟩
 JL:=Jb
 JE:=IZ
 XL:=Jf
 XE:=Jd
 q:=fun j=>match j with | 0=> .ret | _=> .exit 0
 tags:= [0,1]
 lt:=fY
 fuel:=fun(y0,y1,y2)=>y0.natAbs + y1.natAbs + y2.length
 fix:=fun(_,y1,y2) (y0,_,_)=>(y0,y1,y2)
 σ:= [(0,0)]
 rd:=oc
theorem HJ:LoopOk Tryz.prog (fun k=>Nat.blt k Tryz.f211.ntmps) aF.F (aT Tryz.f211 0):=by
 refine Lp.ok (tbl:= [Ix]) (lf:= []) aS aF (by kernel_rfl) (LOk.nil _) (fun _=>rfl) (fun j _=>by unfold aF;match j with | 0=>rfl | _ + 1=>rfl) ?_ ?_ ?_ ?_ (fun _=>rfl) ?_
 ·rintro⟨y0,y1,y2⟩;kernel_rfl
 ·rintro⟨y0,y1,y2⟩;kernel_rfl
 ·intro s x h
  have h:oc s=some x:=h
  unfold oc at h
  repeat' split at h
  all_goals cases h
  exact⟨aa (by assumption) rfl (aa (by assumption) rfl (aa (by assumption) rfl (aa (by assumption) rfl (rfl)))),ab rfl (by assumption) rfl (rfl)⟩
 ·rintro⟨y0,y1,y2⟩;kernel_rfl
 ·rintro⟨y0,y1,y2⟩ z;exact(And.intro (And.intro trivial rfl) trivial)
section
variable (x0:List Int)
def kR:Int×Int×List Int:=((0:Int),(↑x0.length:Int),x0)
def qT:Int:=bif Nat.beq ((Lp.res aF (kR x0)).1) (0:Nat)then ((Lp.res aF (kR x0)).2).1else(-1:Int)
def qU:Bool:=allT [Lp.fin aF (kR x0)]
end
def Ae:List SV→List Entry→Option Out
 | [(.one ⟨false,[(.ref 0)]⟩),(.one ⟨false,[(.val (.func (.func 166) ⟨[]⟩ ⟨[]⟩))]⟩)],[(.row false 2 (.int .i64) x0)]=>some ⟨(.one ⟨false,[(.val (.int .i64 (qT x0)))]⟩),[(.row false 2 asg x0)],[],[(qU x0)]⟩
 |_,_=>none
def qR:PF Tryz.prog:=PF.ofG Tryz.prog [Ix] [aF.F] aS 211 Tryz.f211 Tryz.func211 (LOk.fnT (l:= [aT Tryz.f211 0]) (by kernel_rfl) (.cons HJ (.nil _))) Ae (by
 intro vs es r h;unfold Ae at h;split at h
 ·cases h;kernel_rfl
 ·cases h)
def pj(x0:List Int):Bool:=leI (0:Int) (qT x0)
def pk(x0:List Int):Bool:=allT [qU x0]
def wM:List SV→List Entry→Option Out
 | [(.one ⟨false,[(.ref 0)]⟩),(.one ⟨false,[(.val (.func (.func 166) ⟨[]⟩ ⟨[]⟩))]⟩)],[(.row false 2 (.int .i64) x0)]=>some ⟨(.one ⟨false,[(.val (.bool (pj x0)))]⟩),[(.row false 2 asg x0)],[],[(pk x0)]⟩
 |_,_=>none
def pf:PF Tryz.prog:=PF.ofG Tryz.prog [qR,PF.lend qR,PF.fz qR] [] aS 158 Tryz.f158 Tryz.func158 (fun c _=>LOk.nil c) wM (by
 intro vs es r h;unfold wM at h;split at h
 ·cases h;kernel_rfl
 ·cases h)
def KH(x0:List Int):Bool:=bif zx (bI x0)then !pj x0 else false
def KI(x0:List Int):Bool:=allT [!(zx (bI x0)&&true)||pk x0]
def SG:List SV→List Entry→Option Out
 | [.one ⟨false,[.ref 0]⟩],[.row false 2 (.int .i64) x0]=>some ⟨(.one ⟨false,[(.val (.bool (KH x0)))]⟩),[(.row false 2 asg x0)],[],[(KI x0)]⟩
 |_,_=>none
def adv:PF Tryz.prog:=PF.ofG Tryz.prog [aaK,PP,aK,PF.lend aK,PF.fz aK,pf,PF.lend pf,PF.fz pf] [] aS 77 Tryz.f77 Tryz.func77 (fun c _=>LOk.nil c) SG (by
 intro vs es r h;unfold SG at h;split at h
 ·cases h;kernel_rfl
 ·cases h)
def rR(x0 x1 x3 x4:Int):Bool:=bif x0==x3 then x1==x4 else false
def rQ:List SV→List Entry→Option Out
 | [(.one ⟨true,[(.val (.int .i64 x0)),(.val (.int .i64 x1)),(.val (.int .i64 _x2))]⟩),(.one ⟨false,[(.ptr 0 0)]⟩)],[(.box 100 [(.val (.int .i64 x3)),(.val (.int .i64 x4)),(.val (.int .i64 x5))])]=>some ⟨(.one ⟨false,[(.val (.bool (rR x0 x1 x3 x4)))]⟩),[(.box 100 [(.val (.int .i64 x3)),(.val (.int .i64 x4)),(.val (.int .i64 x5))])],[],[]⟩
 |_,_=>none
def Iw:PF Tryz.prog:=PF.kept (PF.ofG Tryz.prog [] [] aS 168 Tryz.f168 Tryz.func168 (fun c _=>LOk.nil c) rQ (by
 intro vs es r h;unfold rQ at h;split at h
 ·cases h;kernel_rfl
 ·cases h)) [0] (by
 intro vs es r h;have h:rQ vs es=some r:=h;unfold rQ at h;split at h
 ·cases h;exact List.forall_mem_cons.2 ⟨rfl,fun _ h=>(by cases h)⟩
 ·cases h)
abbrev bc:=Int×Int×Int×Int×Int×List (Int×(Int×Int))
section
variable (y0 y1 y2 y3:Int)(y5:List (Int×(Int×Int)))
def cE:Int×Int×Int:=Option.getD y5[Int.toNat y0]? ((0:Int),(0:Int),(0:Int))
def eO:Bool:=ltI y0 y1
def eP:Bool:=leI (0:Int) y0
def eQ:Bool:=ltI y0 (↑y5.length:Int)
def eR:Bool:=ltN y0.toNat y5.length
def eS:Bool:=rR ((cE y0 y5).1) (((cE y0 y5).2).1) y2 y3
def eT:Int:=IntKind.wrap .i64 (y0 + (1:Int))
end
def Hi:bc→List (Nat×SV)
 |(y0,y1,_,_,_,_)=> [(8,(.one ⟨false,[(.val (.int .i64 y0))]⟩)),(7,(.one ⟨false,[(.val (.int .i64 y1))]⟩)),(1,(.one ⟨false,[(.clo 168 [0])]⟩)),(0,(.one ⟨false,[(.ref 1)]⟩))]
def Hg:bc→List (Nat×Entry)
 |(_,_,y2,y3,y4,y5)=> [(0,(.box 100 [(.val (.int .i64 y2)),(.val (.int .i64 y3)),(.val (.int .i64 y4))])),(1,(.row false 100 ase y5))]
def Hm:Nat→bc→List (Nat×SV)
 |0,(y0,_,_,_,_,_)=> [(4,(.one ⟨false,[(.val (.int .i64 y0))]⟩))]
 |_,(_,_,_,_,_,_)=> []
def Hk:Nat→bc→List (Nat×Entry)
 |0,(_,_,y2,y3,y4,y5)=> [(0,(.box 100 [(.val (.int .i64 y2)),(.val (.int .i64 y3)),(.val (.int .i64 y4))])),(1,(.row false 100 ase y5))]
 |_,(_,_,y2,y3,y4,y5)=> [(0,(.box 100 [(.val (.int .i64 y2)),(.val (.int .i64 y3)),(.val (.int .i64 y4))])),(1,(.row false 100 ase y5))]
def ew:bc→LT bc
 |(y0,y1,y2,y3,y4,y5)=> .ite (eO y0 y1) (.need [(eP y0),(eQ y0 y5),(eR y0 y5)] (.ite (eS y0 y2 y3 y5) (.ext 0 [(0,0),(1,1)]) (.nrm ((eT y0),y1,y2,y3,y4,y5) [(0,0),(1,1)]))) (.ext 1 [(0,0),(1,1)])
def me(s:St):Option bc:=
 (match s.look 8 with
 |some ⟨none,(.one ⟨false,[(.val (.int .i64 y0))]⟩)⟩=>
 (match s.look 7 with
 |some ⟨none,(.one ⟨false,[(.val (.int .i64 y1))]⟩)⟩=>
 (match s.look 1 with
 |some ⟨none,(.one ⟨false,[(.clo 168 [1])]⟩)⟩=>
 (match s.look 0 with
 |some ⟨none,(.one ⟨false,[(.ref 0)]⟩)⟩=>
 (match s.ent 1 with
 |some (.box 100 [(.val (.int .i64 y2)),(.val (.int .i64 y3)),(.val (.int .i64 y4))])=>
 (match s.ent 0 with
 |some (.row false 100 (.pair (.int .i64) (.pair (.int .i64) (.int .i64))) y5)=>
 some (y0,y1,y2,y3,y4,y5)
 |_=>none)
 |_=>none)
 |_=>none)
 |_=>none)
 |_=>none)
 |_=>none)
def az:Lp bc where
 h:=⟨[9,10,5,11,12,13,14,15,16,17,4,18,8],[0,1],[],[]⟩
 JL:=Hi
 JE:=Hg
 XL:=Hm
 XE:=Hk
 q:=fun j=>match j with | 0=> .ret | _=> .exit 0
 tags:= [0,1]
 lt:=ew
 fuel:=fun(y0,y1,y2,y3,y4,y5)=>y0.natAbs + y1.natAbs + y2.natAbs + y3.natAbs + y4.natAbs + y5.length
 fix:=fun(_,y1,y2,y3,y4,y5) (y0,_,_,_,_,_)=>(y0,y1,y2,y3,y4,y5)
 σ:= [(0,1),(1,0)]
 rd:=me
theorem FO:LoopOk Tryz.prog (fun k=>Nat.blt k Tryz.f216.ntmps) az.F (aT Tryz.f216 0):=by
 refine Lp.ok (tbl:= [Iw]) (lf:= []) aS az (by kernel_rfl) (LOk.nil _) (fun _=>rfl) (fun j _=>by unfold az;match j with | 0=>rfl | _ + 1=>rfl) ?_ ?_ ?_ ?_ (fun _=>rfl) ?_
 ·rintro⟨y0,y1,y2,y3,y4,y5⟩;kernel_rfl
 ·rintro⟨y0,y1,y2,y3,y4,y5⟩;kernel_rfl
 ·intro s x h
  have h:me s=some x:=h
  unfold me at h
  repeat' split at h
  all_goals cases h
  exact⟨aa (by assumption) rfl (aa (by assumption) rfl (aa (by assumption) rfl (aa (by assumption) rfl (rfl)))),ab rfl (by assumption) rfl (ab rfl (by assumption) rfl (rfl))⟩
 ·rintro⟨y0,y1,y2,y3,y4,y5⟩;kernel_rfl
 ·rintro⟨y0,y1,y2,y3,y4,y5⟩ z;exact(And.intro (And.intro trivial rfl) trivial)
section
variable (x0:List (Int×Int×Int))(x1 x2 x3:Int)
def f9:Int×Int×Int×Int×Int×List (Int×Int×Int):=((0:Int),(↑x0.length:Int),x1,x2,x3,x0)
def dv:Bool:=Nat.beq ((Lp.res az (f9 x0 x1 x2 x3)).1) (0:Nat)
def jJ:Int:=bif dv x0 x1 x2 x3 then ((Lp.res az (f9 x0 x1 x2 x3)).2).1else(-1:Int)
def jK:Int:=bif dv x0 x1 x2 x3 then x1 else x1
def jL:Int:=bif dv x0 x1 x2 x3 then x2 else x2
def jM:Int:=bif dv x0 x1 x2 x3 then x3 else x3
def jN:Bool:=allT [Lp.fin az (f9 x0 x1 x2 x3)]
end
def wO:List SV→List Entry→Option Out
 | [(.one ⟨false,[(.ref 0)]⟩),(.one ⟨false,[(.clo 168 [1])]⟩)],[(.row false 100 (.pair (.int .i64) (.pair (.int .i64) (.int .i64))) x0),(.box 100 [(.val (.int .i64 x1)),(.val (.int .i64 x2)),(.val (.int .i64 x3))])]=>some ⟨(.one ⟨false,[(.val (.int .i64 (jJ x0 x1 x2 x3)))]⟩),[(.row false 100 ase x0),(.box 100 [(.val (.int .i64 (jK x0 x1 x2 x3))),(.val (.int .i64 (jL x0 x1 x2 x3))),(.val (.int .i64 (jM x0 x1 x2 x3)))])],[],[(jN x0 x1 x2 x3)]⟩
 |_,_=>none
def ph:PF Tryz.prog:=PF.ofG Tryz.prog [Iw] [az.F] aS 216 Tryz.f216 Tryz.func216 (LOk.fnT (l:= [aT Tryz.f216 0]) (by kernel_rfl) (.cons FO (.nil _))) wO (by
 intro vs es r h;unfold wO at h;split at h
 ·cases h;kernel_rfl
 ·cases h)
section
variable (x0:List (Int×Int×Int))(x1 x2 x3:Int)
def eM:Bool:=leI (0:Int) (jJ x0 x1 x2 x3)
def mB:Int:=jK x0 x1 x2 x3
def mC:Int:=jL x0 x1 x2 x3
def mD:Int:=jM x0 x1 x2 x3
def eN:Bool:=allT [jN x0 x1 x2 x3]
end
def tQ:List SV→List Entry→Option Out
 | [(.one ⟨false,[(.ref 0)]⟩),(.one ⟨false,[(.clo 168 [1])]⟩)],[(.row false 100 (.pair (.int .i64) (.pair (.int .i64) (.int .i64))) x0),(.box 100 [(.val (.int .i64 x1)),(.val (.int .i64 x2)),(.val (.int .i64 x3))])]=>some ⟨(.one ⟨false,[(.val (.bool (eM x0 x1 x2 x3)))]⟩),[(.row false 100 ase x0),(.box 100 [(.val (.int .i64 (mB x0 x1 x2 x3))),(.val (.int .i64 (mC x0 x1 x2 x3))),(.val (.int .i64 (mD x0 x1 x2 x3)))])],[],[(eN x0 x1 x2 x3)]⟩
 |_,_=>none
def cS:PF Tryz.prog:=PF.ofG Tryz.prog [ph,PF.lend ph,PF.fz ph] [] aS 167 Tryz.f167 Tryz.func167 (fun c _=>LOk.nil c) tQ (by
 intro vs es r h;unfold tQ at h;split at h
 ·cases h;kernel_rfl
 ·cases h)
abbrev jw:=Int×Int×Int×List (Int×(Int×Int))
section
variable (y0 y1 y2:Int)(y3:List (Int×(Int×Int)))
def eB:Int×Int×Int:=Option.getD y3[Int.toNat y0]? ((0:Int),(0:Int),(0:Int))
def MF:List (Int×Int×Int):=List.drop (Int.toNat (0:Int)) (List.take y0.toNat y3)
def zv:Bool:=ltI y0 y1
def Gb:Bool:=leI (0:Int) y0
def OE:Bool:=ltI y0 (↑y3.length:Int)
def OG:Bool:=ltN y0.toNat y3.length
def Gc:Bool:=bif bif !bn ((eB y0 y3).1) (0:Int) (IntKind.wrap .i64 (y2 - (1:Int)))then true else !bn (((eB y0 y3).2).1) (0:Int) (1:Int)then true else !bn ((eB y0 y3).2.2) (0:Int) (1:Int)
end
def OH:Bool:=leI (0:Int) (0:Int)
section
variable (y0:Int)(y3:List (Int×(Int×Int)))
def OI:Bool:=leI y0 (↑y3.length:Int)
def OJ:Bool:=eN (MF y0 y3) ((eB y0 y3).1) (((eB y0 y3).2).1) ((eB y0 y3).2.2)
def OK:Bool:=eM (MF y0 y3) ((eB y0 y3).1) (((eB y0 y3).2).1) ((eB y0 y3).2.2)
def OL:Int:=IntKind.wrap .i64 (y0 + (1:Int))
end
def XJ:jw→List (Nat×SV)
 |(y0,y1,y2,_)=> [(9,(.one ⟨false,[(.val (.int .i64 y0))]⟩)),(8,(.one ⟨false,[(.val (.int .i64 y1))]⟩)),(7,(.one ⟨false,[(.ref 0)]⟩)),(0,(.one ⟨false,[(.val (.int .i64 y2))]⟩)),(1,(.one ⟨false,[(.ref 0)]⟩))]
def XB:jw→List (Nat×Entry)
 |(_,_,_,y3)=> [(0,(.row false 100 ase y3))]
def XY:Nat→jw→List (Nat×SV)
 |0,(_,_,_,_)=> [(4,(.one ⟨false,[(.val (.bool false))]⟩))]
 |1,(_,_,_,_)=> [(4,(.one ⟨false,[(.val (.bool false))]⟩))]
 |_,(_,_,_,_)=> []
def XR:Nat→jw→List (Nat×Entry)
 |0,(_,_,_,y3)=> [(0,(.row false 100 ase y3))]
 |1,(_,_,_,y3)=> [(0,(.row false 100 ase y3))]
 |_,(_,_,_,y3)=> [(0,(.row false 100 ase y3))]
def rF:jw→LT jw
 |(y0,y1,y2,y3)=> .ite (zv y0 y1) (.need [(Gb y0),(OE y0 y3),(OG y0 y3)] (.ite (Gc y0 y2 y3) (.ext 0 [(0,0)]) (.need [(OH),(Gb y0),(OI y0 y3),(OJ y0 y3)] (.ite (OK y0 y3) (.ext 1 [(0,0)]) (.nrm ((OL y0),y1,y2,y3) [(0,0)]))))) (.ext 2 [(0,0)])
def Fj(s:St):Option jw:=
 (match s.look 9 with
 |some ⟨none,(.one ⟨false,[(.val (.int .i64 y0))]⟩)⟩=>
 (match s.look 8 with
 |some ⟨none,(.one ⟨false,[(.val (.int .i64 y1))]⟩)⟩=>
 (match s.look 7 with
 |some ⟨none,(.one ⟨false,[(.ref 0)]⟩)⟩=>
 (match s.look 0 with
 |some ⟨none,(.one ⟨false,[(.val (.int .i64 y2))]⟩)⟩=>
 (match s.look 1 with
 |some ⟨none,(.one ⟨false,[(.ref 0)]⟩)⟩=>
 (match s.ent 0 with
 |some (.row false 100 (.pair (.int .i64) (.pair (.int .i64) (.int .i64))) y3)=>
 some (y0,y1,y2,y3)
 |_=>none)
 |_=>none)
 |_=>none)
 |_=>none)
 |_=>none)
 |_=>none)
def bJ:Lp jw where
 h:=⟨[10,11,12,13,6,5,14,15,16,17,18,19,20,21,22,23,24,25,26,27,28,29,30,31,4,32,33,34,35,36,37,9],[0],[],[]⟩
 JL:=XJ
 JE:=XB
 XL:=XY
 XE:=XR
 q:=fun j=>match j with | 0=> .ret | 1=> .ret | _=> .exit 0
 tags:= [0,1,2]
 lt:=rF
 fuel:=fun(y0,y1,y2,y3)=>y0.natAbs + y1.natAbs + y2.natAbs + y3.length
 fix:=fun(_,y1,y2,y3) (y0,_,_,_)=>(y0,y1,y2,y3)
 σ:= [(0,0)]
 rd:=Fj
theorem Vi:LoopOk Tryz.prog (fun k=>Nat.blt k Tryz.f78.ntmps) bJ.F (aT Tryz.f78 0):=by
 refine Lp.ok (tbl:= [gP,PP,cS,PF.lend cS,PF.fz cS]) (lf:= []) aS bJ (by kernel_rfl) (LOk.nil _) (fun _=>rfl) (fun j _=>by unfold bJ;match j with | 0=>rfl | 1=>rfl | _ + 2=>rfl) ?_ ?_ ?_ ?_ (fun _=>rfl) ?_
 ·rintro⟨y0,y1,y2,y3⟩;kernel_rfl
 ·rintro⟨y0,y1,y2,y3⟩;kernel_rfl
 ·intro s x h
  have h:Fj s=some x:=h
  unfold Fj at h
  repeat' split at h
  all_goals cases h
  exact⟨aa (by assumption) rfl (aa (by assumption) rfl (aa (by assumption) rfl (aa (by assumption) rfl (aa (by assumption) rfl (rfl))))),ab rfl (by assumption) rfl (rfl)⟩
 ·rintro⟨y0,y1,y2,y3⟩;kernel_rfl
 ·rintro⟨y0,y1,y2,y3⟩ z;exact(And.intro (And.intro trivial (And.intro trivial rfl)) trivial)
section
variable (x0:Int)(x1:List (Int×Int×Int))
def vD:Int×Int×Int×List (Int×Int×Int):=((0:Int),(↑x1.length:Int),x0,x1)
def KF:Bool:=bif Nat.beq ((Lp.res bJ (vD x0 x1)).1) (0:Nat)then false else bif Nat.beq ((Lp.res bJ (vD x0 x1)).1) (1:Nat)then false else bif zx x0 then leI (↑x1.length:Int) (8:Int)else false
def KG:Bool:=allT [Lp.fin bJ (vD x0 x1)]
end
def SF:List SV→List Entry→Option Out
 | [.one ⟨false,[.val (.int .i64 x0)]⟩,.one ⟨false,[.ref 0]⟩],[.row false 100 (.pair (.int .i64) (.pair (.int .i64) (.int .i64))) x1]=>some ⟨(.one ⟨false,[(.val (.bool (KF x0 x1)))]⟩),[(.row false 100 ase x1)],[],[(KG x0 x1)]⟩
 |_,_=>none
def adu:PF Tryz.prog:=PF.ofG Tryz.prog [gP,PP,cS,PF.lend cS,PF.fz cS] [bJ.F] aS 78 Tryz.f78 Tryz.func78 (LOk.fnT (l:= [aT Tryz.f78 0]) (by kernel_rfl) (.cons Vi (.nil _))) SF (by
 intro vs es r h;unfold SF at h;split at h
 ·cases h;kernel_rfl
 ·cases h)
def Sw(x0:Int):Bool:=bn x0 (0:Int) (5:Int)
def aeJ:List SV→List Entry→Option Out
 | [.one ⟨false,[.val (.int .i64 x0)]⟩],[]=>some ⟨(.one ⟨false,[(.val (.bool (Sw x0)))]⟩),[],[],[]⟩
 |_,_=>none
def afa:PF Tryz.prog:=PF.ofG Tryz.prog [gP] [] aS 80 Tryz.f80 Tryz.func80 (fun c _=>LOk.nil c) aeJ (by
 intro vs es r h;unfold aeJ at h;split at h
 ·cases h;kernel_rfl
 ·cases h)
def wV(x0:Int):Bool:=bn x0 (0:Int) (100000:Int)
def agj:List SV→List Entry→Option Out
 | [.one ⟨false,[.val (.int .i64 x0)]⟩],[]=>some ⟨(.one ⟨false,[(.val (.bool (wV x0)))]⟩),[],[],[]⟩
 |_,_=>none
def PO:PF Tryz.prog:=PF.ofG Tryz.prog [gP] [] aS 83 Tryz.f83 Tryz.func83 (fun c _=>LOk.nil c) agj (by
 intro vs es r h;unfold agj at h;split at h
 ·cases h;kernel_rfl
 ·cases h)
def ai5(x0 x1:Int):Bool:=bif !bn x0 (1:Int) (366:Int)then true else !wV x1
def aaV:List SV→List Entry→Option Out
 | [.one ⟨true,[.val (.int .i64 x0),.val (.int .i64 x1)]⟩],[]=>some ⟨(.one ⟨false,[(.val (.bool (ai5 x0 x1)))]⟩),[],[],[]⟩
 |_,_=>none
def ajf:PF Tryz.prog:=PF.ofG Tryz.prog [gP,PO] [] aS 170 Tryz.f170 Tryz.func170 (fun c _=>LOk.nil c) aaV (by
 intro vs es r h;unfold aaV at h;split at h
 ·cases h;kernel_rfl
 ·cases h)
def Du(x0 x1:Int):Bool:=bif !bn x0 (1:Int) (366:Int)then true else !wV x1
def Ri:List SV→List Entry→Option Out
 | [(.one ⟨true,[(.val (.int .i64 x0)),(.val (.int .i64 x1))]⟩)],[]=>some ⟨(.one ⟨false,[(.val (.bool (Du x0 x1)))]⟩),[],[],[]⟩
 |_,_=>none
def Rn:PF Tryz.prog:=PF.ofG Tryz.prog [gP,PO] [] aS 170 Tryz.f170 Tryz.func170 (fun c _=>LOk.nil c) Ri (by
 intro vs es r h;unfold Ri at h;split at h
 ·cases h;kernel_rfl
 ·cases h)
abbrev bv:=Int×Int×List (Int×Int)
section
variable (y0 y1:Int)(y2:List (Int×Int))
def eo:Int×Int:=Option.getD y2[Int.toNat y0]? ((0:Int),(0:Int))
def ib:Bool:=ltI y0 y1
def ic:Bool:=leI (0:Int) y0
def ie:Bool:=ltI y0 (↑y2.length:Int)
def ig:Bool:=ltN y0.toNat y2.length
def ii:Bool:=Du ((eo y0 y2).1) ((eo y0 y2).2)
def ij:Int:=IntKind.wrap .i64 (y0 + (1:Int))
end
def Ky:bv→List (Nat×SV)
 |(y0,y1,_)=> [(8,(.one ⟨false,[(.val (.int .i64 y0))]⟩)),(7,(.one ⟨false,[(.val (.int .i64 y1))]⟩)),(1,(.one ⟨false,[(.val (.func (.func 170) ⟨[]⟩ ⟨[]⟩))]⟩)),(0,(.one ⟨false,[(.ref 0)]⟩))]
def Kx:bv→List (Nat×Entry)
 |(_,_,y2)=> [(0,(.row false 173 asf y2))]
def KB:Nat→bv→List (Nat×SV)
 |0,(y0,_,_)=> [(4,(.one ⟨false,[(.val (.int .i64 y0))]⟩))]
 |_,(_,_,_)=> []
def KA:Nat→bv→List (Nat×Entry)
 |0,(_,_,y2)=> [(0,(.row false 173 asf y2))]
 |_,(_,_,y2)=> [(0,(.row false 173 asf y2))]
def gS:bv→LT bv
 |(y0,y1,y2)=> .ite (ib y0 y1) (.need [(ic y0),(ie y0 y2),(ig y0 y2)] (.ite (ii y0 y2) (.ext 0 [(0,0)]) (.nrm ((ij y0),y1,y2) [(0,0)]))) (.ext 1 [(0,0)])
def pO(s:St):Option bv:=
 (match s.look 8 with
 |some ⟨none,(.one ⟨false,[(.val (.int .i64 y0))]⟩)⟩=>
 (match s.look 7 with
 |some ⟨none,(.one ⟨false,[(.val (.int .i64 y1))]⟩)⟩=>
 (match s.look 1 with
 |some ⟨none,(.one ⟨false,[(.val (.func (.func 170) ⟨[]⟩ ⟨[]⟩))]⟩)⟩=>
 (match s.look 0 with
 |some ⟨none,(.one ⟨false,[(.ref 0)]⟩)⟩=>
 (match s.ent 0 with
 |some (.row false 173 (.pair (.int .i64) (.int .i64)) y2)=>
 some (y0,y1,y2)
 |_=>none)
 |_=>none)
 |_=>none)
 |_=>none)
 |_=>none)
def aL:Lp bv where
 h:=⟨[9,10,5,11,12,13,14,15,16,17,4,18,8],[0],[],[]⟩
 JL:=Ky
 JE:=Kx
 XL:=KB
 XE:=KA
 q:=fun j=>match j with | 0=> .ret | _=> .exit 0
 tags:= [0,1]
 lt:=gS
 fuel:=fun(y0,y1,y2)=>y0.natAbs + y1.natAbs + y2.length
 fix:=fun(_,y1,y2) (y0,_,_)=>(y0,y1,y2)
 σ:= [(0,0)]
 rd:=pO
theorem Jj:LoopOk Tryz.prog (fun k=>Nat.blt k Tryz.f217.ntmps) aL.F (aT Tryz.f217 0):=by
 refine Lp.ok (tbl:= [Rn]) (lf:= []) aS aL (by kernel_rfl) (LOk.nil _) (fun _=>rfl) (fun j _=>by unfold aL;match j with | 0=>rfl | _ + 1=>rfl) ?_ ?_ ?_ ?_ (fun _=>rfl) ?_
 ·rintro⟨y0,y1,y2⟩;kernel_rfl
 ·rintro⟨y0,y1,y2⟩;kernel_rfl
 ·intro s x h
  have h:pO s=some x:=h
  unfold pO at h
  repeat' split at h
  all_goals cases h
  exact⟨aa (by assumption) rfl (aa (by assumption) rfl (aa (by assumption) rfl (aa (by assumption) rfl (rfl)))),ab rfl (by assumption) rfl (rfl)⟩
 ·rintro⟨y0,y1,y2⟩;kernel_rfl
 ·rintro⟨y0,y1,y2⟩ z;exact(And.intro (And.intro trivial rfl) trivial)
section
variable (x0:List (Int×Int))
def l4:Int×Int×List (Int×Int):=((0:Int),(↑x0.length:Int),x0)
def sj:Int:=bif Nat.beq ((Lp.res aL (l4 x0)).1) (0:Nat)then ((Lp.res aL (l4 x0)).2).1else(-1:Int)
def sk:Bool:=allT [Lp.fin aL (l4 x0)]
end
def BS:List SV→List Entry→Option Out
 | [(.one ⟨false,[(.ref 0)]⟩),(.one ⟨false,[(.val (.func (.func 170) ⟨[]⟩ ⟨[]⟩))]⟩)],[(.row false 173 (.pair (.int .i64) (.int .i64)) x0)]=>some ⟨(.one ⟨false,[(.val (.int .i64 (sj x0)))]⟩),[(.row false 173 asf x0)],[],[(sk x0)]⟩
 |_,_=>none
def si:PF Tryz.prog:=PF.ofG Tryz.prog [Rn] [aL.F] aS 217 Tryz.f217 Tryz.func217 (LOk.fnT (l:= [aT Tryz.f217 0]) (by kernel_rfl) (.cons Jj (.nil _))) BS (by
 intro vs es r h;unfold BS at h;split at h
 ·cases h;kernel_rfl
 ·cases h)
def qy(x0:List (Int×Int)):Bool:=leI (0:Int) (sj x0)
def qz(x0:List (Int×Int)):Bool:=allT [sk x0]
def zt:List SV→List Entry→Option Out
 | [(.one ⟨false,[(.ref 0)]⟩),(.one ⟨false,[(.val (.func (.func 170) ⟨[]⟩ ⟨[]⟩))]⟩)],[(.row false 173 (.pair (.int .i64) (.int .i64)) x0)]=>some ⟨(.one ⟨false,[(.val (.bool (qy x0)))]⟩),[(.row false 173 asf x0)],[],[(qz x0)]⟩
 |_,_=>none
def qu:PF Tryz.prog:=PF.ofG Tryz.prog [si,PF.lend si,PF.fz si] [] aS 169 Tryz.f169 Tryz.func169 (fun c _=>LOk.nil c) zt (by
 intro vs es r h;unfold zt at h;split at h
 ·cases h;kernel_rfl
 ·cases h)
section
variable (x0:List (Int×Int))
def Vc:Bool:=leI (↑x0.length:Int) (12:Int)
def Yf:Bool:=bif Vc x0 then !qy x0 else false
def Yg:Bool:=allT [!(Vc x0&&true)||qz x0]
end
def aeG:List SV→List Entry→Option Out
 | [.one ⟨false,[.ref 0]⟩],[.row false 173 (.pair (.int .i64) (.int .i64)) x0]=>some ⟨(.one ⟨false,[(.val (.bool (Yf x0)))]⟩),[(.row false 173 asf x0)],[],[(Yg x0)]⟩
 |_,_=>none
def ak8:PF Tryz.prog:=PF.ofG Tryz.prog [ajf,qu,PF.lend qu,PF.fz qu] [] aS 81 Tryz.f81 Tryz.func81 (fun c _=>LOk.nil c) aeG (by
 intro vs es r h;unfold aeG at h;split at h
 ·cases h;kernel_rfl
 ·cases h)
def Sv(x0 x1:Int):Bool:=bif bn x0 (0:Int) (23:Int)then bn x1 (1:Int) (999:Int)else false
def aeI:List SV→List Entry→Option Out
 | [.one ⟨true,[.val (.int .i64 x0),.val (.int .i64 x1)]⟩],[]=>some ⟨(.one ⟨false,[(.val (.bool (Sv x0 x1)))]⟩),[],[],[]⟩
 |_,_=>none
def ae9:PF Tryz.prog:=PF.ofG Tryz.prog [gP] [] aS 171 Tryz.f171 Tryz.func171 (fun c _=>LOk.nil c) aeI (by
 intro vs es r h;unfold aeI at h;split at h
 ·cases h;kernel_rfl
 ·cases h)
abbrev c7:=Int×Int×Int×Int×List (Int×Int)
section
variable (y0 y1 y2 y3:Int)(y4:List (Int×Int))
def jP:Int×Int:=Option.getD y4[Int.toNat y0]? ((0:Int),(0:Int))
def oG:Bool:=ltI y0 y1
def oH:Bool:=leI (0:Int) y0
def oI:Bool:=ltI y0 (↑y4.length:Int)
def oJ:Bool:=ltN y0.toNat y4.length
def oK:Bool:=bif y2==(jP y0 y4).1then bif y3==(jP y0 y4).2then true else false else false
def oL:Int:=IntKind.wrap .i64 (y0 + (1:Int))
end
def Tq:c7→List (Nat×SV)
 |(y0,y1,_,_,_)=> [(8,(.one ⟨false,[(.val (.int .i64 y0))]⟩)),(7,(.one ⟨false,[(.val (.int .i64 y1))]⟩)),(3,(.one ⟨false,[(.ptr 0 0)]⟩)),(0,(.one ⟨false,[(.ref 1)]⟩))]
def Tp:c7→List (Nat×Entry)
 |(_,_,y2,y3,y4)=> [(0,(.box 176 [(.val (.int .i64 y2)),(.val (.int .i64 y3))])),(1,(.row false 176 asf y4))]
def Ts:Nat→c7→List (Nat×SV)
 |0,(y0,_,_,_,_)=> [(4,(.one ⟨false,[(.val (.int .i64 y0))]⟩))]
 |_,(_,_,_,_,_)=> []
def Tr:Nat→c7→List (Nat×Entry)
 |0,(_,_,y2,y3,y4)=> [(0,(.box 176 [(.val (.int .i64 y2)),(.val (.int .i64 y3))])),(1,(.row false 176 asf y4))]
 |_,(_,_,y2,y3,y4)=> [(0,(.box 176 [(.val (.int .i64 y2)),(.val (.int .i64 y3))])),(1,(.row false 176 asf y4))]
def mU:c7→LT c7
 |(y0,y1,y2,y3,y4)=> .ite (oG y0 y1) (.need [(oH y0),(oI y0 y4),(oJ y0 y4)] (.ite (oK y0 y2 y3 y4) (.ext 0 [(0,0),(1,1)]) (.nrm ((oL y0),y1,y2,y3,y4) [(0,0),(1,1)]))) (.ext 1 [(0,0),(1,1)])
def zW(s:St):Option c7:=
 (match s.look 8 with
 |some ⟨none,(.one ⟨false,[(.val (.int .i64 y0))]⟩)⟩=>
 (match s.look 7 with
 |some ⟨none,(.one ⟨false,[(.val (.int .i64 y1))]⟩)⟩=>
 (match s.look 3 with
 |some ⟨none,(.one ⟨false,[(.ptr 128 0)]⟩)⟩=>
 (match s.look 0 with
 |some ⟨none,(.one ⟨false,[(.ref 0)]⟩)⟩=>
 (match s.ent 128 with
 |some (.box 176 [(.val (.int .i64 y2)),(.val (.int .i64 y3))])=>
 (match s.ent 0 with
 |some (.row false 176 (.pair (.int .i64) (.int .i64)) y4)=>
 some (y0,y1,y2,y3,y4)
 |_=>none)
 |_=>none)
 |_=>none)
 |_=>none)
 |_=>none)
 |_=>none)
def bh:Lp c7 where
 h:=⟨[9,10,5,11,12,13,14,15,16,17,4,18,8],[0,1],[],[]⟩
 JL:=Tq
 JE:=Tp
 XL:=Ts
 XE:=Tr
 q:=fun j=>match j with | 0=> .ret | _=> .exit 0
 tags:= [0,1]
 lt:=mU
 fuel:=fun(y0,y1,y2,y3,y4)=>y0.natAbs + y1.natAbs + y2.natAbs + y3.natAbs + y4.length
 fix:=fun(_,y1,y2,y3,y4) (y0,_,_,_,_)=>(y0,y1,y2,y3,y4)
 σ:= [(0,128),(1,0)]
 rd:=zW
theorem Sg:LoopOk Tryz.prog (fun k=>Nat.blt k Tryz.f218.ntmps) bh.F (aT Tryz.f218 0):=by
 refine Lp.ok (tbl:= []) (lf:= []) aS bh (by kernel_rfl) (LOk.nil _) (fun _=>rfl) (fun j _=>by unfold bh;match j with | 0=>rfl | _ + 1=>rfl) ?_ ?_ ?_ ?_ (fun _=>rfl) ?_
 ·rintro⟨y0,y1,y2,y3,y4⟩;kernel_rfl
 ·rintro⟨y0,y1,y2,y3,y4⟩;kernel_rfl
 ·intro s x h
  have h:zW s=some x:=h
  unfold zW at h
  repeat' split at h
  all_goals cases h
  exact⟨aa (by assumption) rfl (aa (by assumption) rfl (aa (by assumption) rfl (aa (by assumption) rfl (rfl)))),ab rfl (by assumption) rfl (ab rfl (by assumption) rfl (rfl))⟩
 ·rintro⟨y0,y1,y2,y3,y4⟩;kernel_rfl
 ·rintro⟨y0,y1,y2,y3,y4⟩ z;exact(And.intro (And.intro trivial rfl) trivial)
section
variable (x0 x1:Int)(x2:List (Int×Int))
def vv:Int×Int×Int×Int×List (Int×Int):=((0:Int),(↑x2.length:Int),x0,x1,x2)
def Fr:Int:=bif Nat.beq ((Lp.res bh (vv x0 x1 x2)).1) (0:Nat)then ((Lp.res bh (vv x0 x1 x2)).2).1else(-1:Int)
def Fs:Bool:=allT [Lp.fin bh (vv x0 x1 x2)]
end
def MC:List SV→List Entry→Option Out
 | [.one ⟨false,[.ref 0]⟩,.one ⟨true,[.val (.int .i64 x0),.val (.int .i64 x1)]⟩],[.row false 176 (.pair (.int .i64) (.int .i64)) x2]=>some ⟨(.one ⟨false,[(.val (.int .i64 (Fr x0 x1 x2)))]⟩),[(.row false 176 asf x2)],[],[(Fs x0 x1 x2)]⟩
 |_,_=>none
def Fh:PF Tryz.prog:=PF.ofG Tryz.prog [] [bh.F] aS 218 Tryz.f218 Tryz.func218 (LOk.fnT (l:= [aT Tryz.f218 0]) (by kernel_rfl) (.cons Sg (.nil _))) MC (by
 intro vs es r h;unfold MC at h;split at h
 ·cases h;kernel_rfl
 ·cases h)
def oF(x0 x1:Int)(x2:List (Int×Int)):Bool:=leI (0:Int) (Fr x0 x1 x2)
def tE(x0 x1:Int)(x2:List (Int×Int)):Bool:=allT [Fs x0 x1 x2]
def JO:List SV→List Entry→Option Out
 | [.one ⟨false,[.ref 0]⟩,.one ⟨true,[.val (.int .i64 x0),.val (.int .i64 x1)]⟩],[.row false 176 (.pair (.int .i64) (.int .i64)) x2]=>some ⟨(.one ⟨false,[(.val (.bool (oF x0 x1 x2)))]⟩),[(.row false 176 asf x2)],[],[(tE x0 x1 x2)]⟩
 |_,_=>none
def kQ:PF Tryz.prog:=PF.ofG Tryz.prog [Fh,PF.lend Fh,PF.fz Fh] [] aS 172 Tryz.f172 Tryz.func172 (fun c _=>LOk.nil c) JO (by
 intro vs es r h;unfold JO at h;split at h
 ·cases h;kernel_rfl
 ·cases h)
abbrev pw:=Int×Int×List (Int×Int)
section
variable (y0 y1:Int)(y2:List (Int×Int))
def nA:Int×Int:=Option.getD y2[Int.toNat y0]? ((0:Int),(0:Int))
def nB:Bool:= !Sv ((nA y0 y2).1) ((nA y0 y2).2)
def FQ:List (Int×Int):=bif !nB y0 y2&&true then List.drop (Int.toNat (0:Int)) (List.take y0.toNat y2)else []
def Hz:Bool:=ltI y0 y1
def UT:Bool:=leI (0:Int) y0
def UU:Bool:=ltI y0 (↑y2.length:Int)
def UV:Bool:=ltN y0.toNat y2.length
def UW:Bool:= !(!nB y0 y2&&true)||leI (0:Int) (0:Int)
def UX:Bool:= !(!nB y0 y2&&true)||leI (0:Int) y0
def UY:Bool:= !(!nB y0 y2&&true)||leI y0 (↑y2.length:Int)
def UZ:Bool:= !(!nB y0 y2&&true)||tE ((nA y0 y2).1) ((nA y0 y2).2) (FQ y0 y2)
def Va:Bool:=bif nB y0 y2 then true else oF ((nA y0 y2).1) ((nA y0 y2).2) (FQ y0 y2)
def Vb:Int:=IntKind.wrap .i64 (y0 + (1:Int))
end
def ad7:pw→List (Nat×SV)
 |(y0,y1,_)=> [(7,(.one ⟨false,[(.val (.int .i64 y0))]⟩)),(6,(.one ⟨false,[(.val (.int .i64 y1))]⟩)),(5,(.one ⟨false,[(.ref 0)]⟩)),(0,(.one ⟨false,[(.ref 0)]⟩))]
def adZ:pw→List (Nat×Entry)
 |(_,_,y2)=> [(0,(.row false 176 asf y2))]
def aen:Nat→pw→List (Nat×SV)
 |0,(_,_,_)=> [(2,(.one ⟨false,[(.val (.bool false))]⟩))]
 |_,(_,_,_)=> []
def aef:Nat→pw→List (Nat×Entry)
 |0,(_,_,y2)=> [(0,(.row false 176 asf y2))]
 |_,(_,_,y2)=> [(0,(.row false 176 asf y2))]
def Am:pw→LT pw
 |(y0,y1,y2)=> .ite (Hz y0 y1) (.need [(UT y0),(UU y0 y2),(UV y0 y2)] (.need [(UW y0 y2),(UX y0 y2),(UY y0 y2),(UZ y0 y2)] (.ite (Va y0 y2) (.ext 0 [(0,0)]) (.nrm ((Vb y0),y1,y2) [(0,0)])))) (.ext 1 [(0,0)])
def Mg(s:St):Option pw:=
 (match s.look 7 with
 |some ⟨none,(.one ⟨false,[(.val (.int .i64 y0))]⟩)⟩=>
 (match s.look 6 with
 |some ⟨none,(.one ⟨false,[(.val (.int .i64 y1))]⟩)⟩=>
 (match s.look 5 with
 |some ⟨none,(.one ⟨false,[(.ref 0)]⟩)⟩=>
 (match s.look 0 with
 |some ⟨none,(.one ⟨false,[(.ref 0)]⟩)⟩=>
 (match s.ent 0 with
 |some (.row false 176 (.pair (.int .i64) (.int .i64)) y2)=>
 some (y0,y1,y2)
 |_=>none)
 |_=>none)
 |_=>none)
 |_=>none)
 |_=>none)
def dS:Lp pw where
 h:=⟨[8,9,10,11,4,3,12,13,14,15,16,17,18,19,20,21,2,22,7],[0],[],[]⟩
 JL:=ad7
 JE:=adZ
 XL:=aen
 XE:=aef
 q:=fun j=>match j with | 0=> .ret | _=> .exit 0
 tags:= [0,1]
 lt:=Am
 fuel:=fun(y0,y1,y2)=>y0.natAbs + y1.natAbs + y2.length
 fix:=fun(_,y1,y2) (y0,_,_)=>(y0,y1,y2)
 σ:= [(0,0)]
 rd:=Mg
theorem abV:LoopOk Tryz.prog (fun k=>Nat.blt k Tryz.f82.ntmps) dS.F (aT Tryz.f82 0):=by
 refine Lp.ok (tbl:= [ae9,kQ,PF.lend kQ,PF.fz kQ]) (lf:= []) aS dS (by kernel_rfl) (LOk.nil _) (fun _=>rfl) (fun j _=>by unfold dS;match j with | 0=>rfl | _ + 1=>rfl) ?_ ?_ ?_ ?_ (fun _=>rfl) ?_
 ·rintro⟨y0,y1,y2⟩;kernel_rfl
 ·rintro⟨y0,y1,y2⟩;kernel_rfl
 ·intro s x h
  have h:Mg s=some x:=h
  unfold Mg at h
  repeat' split at h
  all_goals cases h
  exact⟨aa (by assumption) rfl (aa (by assumption) rfl (aa (by assumption) rfl (aa (by assumption) rfl (rfl)))),ab rfl (by assumption) rfl (rfl)⟩
 ·rintro⟨y0,y1,y2⟩;kernel_rfl
 ·rintro⟨y0,y1,y2⟩ z;exact(And.intro (And.intro trivial rfl) trivial)
section
variable (x0:List (Int×Int))
def RT:Int×Int×List (Int×Int):=((0:Int),(↑x0.length:Int),x0)
def Tv:Bool:=bif Nat.beq ((Lp.res dS (RT x0)).1) (0:Nat)then false else leI (↑x0.length:Int) (8:Int)
def Tw:Bool:=allT [Lp.fin dS (RT x0)]
end
def aaU:List SV→List Entry→Option Out
 | [.one ⟨false,[.ref 0]⟩],[.row false 176 (.pair (.int .i64) (.int .i64)) x0]=>some ⟨(.one ⟨false,[(.val (.bool (Tv x0)))]⟩),[(.row false 176 asf x0)],[],[(Tw x0)]⟩
 |_,_=>none
def aje:PF Tryz.prog:=PF.ofG Tryz.prog [ae9,kQ,PF.lend kQ,PF.fz kQ] [dS.F] aS 82 Tryz.f82 Tryz.func82 (LOk.fnT (l:= [aT Tryz.f82 0]) (by kernel_rfl) (.cons abV (.nil _))) aaU (by
 intro vs es r h;unfold aaU at h;split at h
 ·cases h;kernel_rfl
 ·cases h)
end Go.SX

namespace Go.SX
open Go.Proofs
set_option maxRecDepth 100000
def areR(st:List Int):Bool:=inR (st.length:Int) 1 12&&st.all fun v=>inR v 0 2
def rowsR(rs:List (List Int)):Int:=((rs[0]?.getD []).length:Int)
def rsOk(rs:List (List Int)):Bool:=rs.all fun st=>areR st&&((st.length:Int)==rowsR rs)
def lfOk(n:Int)(lf:List (Int×Int×Int)):Bool:=inR n 1 12&&okFs n lf
def akD(t:Int×Int):Bool:=inR t.1 1 366&&inR t.2 0 100000
def okPl(pl:List (Int×Int)):Bool:=leN pl.length 12&&pl.all akD
def aqP(x:Int×Int):Bool:=inR x.1 0 23&&inR x.2 1 999
def TI(ls:List (Int×Int))(b:Nat):Int×Int:=ls[b]?.getD (0,0)
def Ji(x y:Int×Int):Bool:=y.1==x.1&&y.2==x.2
def MG(ls:List (Int×Int))(b:Nat):Bool:= !aqP (TI ls b)
def adb(ls:List (Int×Int))(b:Nat):Bool:=(ls.take b).any (Ji (TI ls b))
def okLk(ls:List (Int×Int)):Bool:=leN ls.length 8&&(List.range ls.length).all fun b=> !(MG ls b||adb ls b)
def nX(n:Int)(ps:List Int)(fs:List (Int×Int×Int))(rs:List (List Int))(lf:List (Int×Int×Int))(mode:Int)(pl ls:List (Int×Int))(day:Int):Bool:=isT n ps&&(okFs n fs&&(decide (rs.length=ps.length)&&(rsOk rs&&(lfOk (rowsR rs) lf&&(inR mode 0 5&&(okPl pl&&(okLk ls&&inR day 0 100000)))))))
theorem ajT{C:Type}{P:C→Bool}: ∀ (l:List C) (i:Nat) (hi:i < l.length),P l[i]=true→((l.takeWhile fun x=> !P x).length=i↔(l.take i).any P=false)
 | [],i,hi,_=>by simp at hi
 |a::r,0,hi,h=>by
  have h:P a=true:=h
  simp [List.takeWhile_cons,h]
 |a::r,i + 1,hi,h=>by
  have hi':i < r.length:=by simpa using hi
  have h':P r[i]=true:=h
  have ih:=ajT r i hi' h'
  rw [List.take_succ_cons,List.any_cons,List.takeWhile_cons]
  cases ha:P a with
  |true=>simp
  |false=>
   simp only [Bool.not_false,if_true,List.length_cons,Bool.false_or]
   rw [← ih];omega
theorem ah3: ∀ (xs:List Int) (m:Int),0≤m→m≤2→(∀ x∈xs,0≤x∧x≤2)→((xs.foldl (fun m b=>bif ltI b m then b else m) m)==2)=(m==2&&xs.all fun x=>x==2)
 | [],m,_,_,_=>by simp
 |x::xs,m,h0,h1,h=>by
  have hx:=h x (by simp)
  rw [List.foldl_cons,List.all_cons]
  cases hl:ltI x m with
  |true=>
   have:=aH.1 hl
   rw [cond_true,ah3 xs x hx.1 hx.2 fun y hy=>h y (by simp [hy])]
   have hm:(x==2)=false:=by simp;omega
   simp [hm]
  |false=>
   have:=aI.1 hl
   rw [cond_false,ah3 xs m h0 h1 fun y hy=>h y (by simp [hy])]
   by_cases hm:m=2
   ·have hx2:x=2:=by omega
    subst hm;subst hx2;simp
   ·have:(m==2)=false:=by simpa using hm
    simp [this]
end Go.SX

namespace Go.SX
open Go.Proofs
set_option maxRecDepth 100000
def ary(m:Nat)(rs:List (List Int)):Bool:=leN rs.length m&&rs.all fun x=>leN x.length m
theorem aoJ{m:Nat}{rs:List (List Int)}:ary m rs=true↔rs.length≤m∧ ∀ x∈rs,x.length≤m:=by
 simp only [ary,Bool.and_eq_true,c8,List.all_eq_true]
def po(b:Int):(Unit)→Nat ⊕ (Unit)
 |_=>(bif(!a6 b (0:Int) (2:Int))then(.inl 0)else(.inr ()))
def kL(y1:List Int)(i:Nat):(Unit)→fG
 |_=>((i:Int),y1)
def Fi:fG→Unit
 |(_,_)=>()
theorem aae(y1:List Int) (hn:y1.length≤9223372036854775807):
  bS.fin ((0:Int),y1)=true∧bS.res ((0:Int),y1)=((aU (po) 1 y1 0 ()).1,(kL y1) (aU (po) 1 y1 0 ()).2.1 (aU (po) 1 y1 0 ()).2.2):=by
 have key:=bS.along (kL y1) Fi (po) 1 (fun _ _=>True) y1 () (by trivial) (by simp only [bS,kL];omega) (fun i b a hb hI=> ?_) (fun a hI=> ?_)
 ·exact key
 ·obtain⟨⟩:=a
  have hlt:=(List.getElem?_eq_some_iff.1 hb).1
  have hget: ∀ d,Option.getD y1[i]? d=b:=fun d=>by rw [hb];rfl
  have hw:=vu hlt hn
  have hdec:ltI (i:Int) (y1.length:Int)=true:=et (by omega)
  have hnn:leI (0:Int) (i:Int)=true:=dk (by omega)
  have hltd:ltN i y1.length=true:=fJ hlt
  refine⟨?_,?_,?_,?_⟩
  ·simp [pq,sU,sV,sW,sX,rH,bS,LT.nds,allT,kL,hdec,hnn,hltd,hget]
  ·simp [pq,sU,sV,sW,sX,rH,bS,LT.each,kL,Fi,hw]
  ·simp only [pq,sU,sV,sW,sX,rH,bS,LT.fn,kL,Fi,po,Int.toNat_natCast,hdec,hnn,hltd,hget,cond_true,Bool.cond_self]
  ·exact fun _ _=>trivial
 ·obtain⟨⟩:=a
  simp [pq,sU,sV,sW,sX,rH,bS,LT.out,kL]
def dB(b:Int):(Unit)→Nat ⊕ (Unit)
 |_=>(bif(rS b)then(.inl 0)else(.inr ()))
def bN(y2:List Int)(i:Nat):(Unit)→bk
 |_=>((i:Int),(↑y2.length:Int),y2)
def nZ:bk→Unit
 |(_,_,_)=>()
theorem Kp(y2:List Int) (hn:y2.length≤9223372036854775807):
  aF.fin ((0:Int),(↑y2.length:Int),y2)=true∧aF.res ((0:Int),(↑y2.length:Int),y2)=((aU (dB) 1 y2 0 ()).1,(bN y2) (aU (dB) 1 y2 0 ()).2.1 (aU (dB) 1 y2 0 ()).2.2):=by
 have key:=aF.along (bN y2) nZ (dB) 1 (fun _ _=>True) y2 () (by trivial) (by simp only [aF,bN];omega) (fun i b a hb hI=> ?_) (fun a hI=> ?_)
 ·exact key
 ·obtain⟨⟩:=a
  have hlt:=(List.getElem?_eq_some_iff.1 hb).1
  have hget: ∀ d,Option.getD y2[i]? d=b:=fun d=>by rw [hb];rfl
  have hw:=vu hlt hn
  have hdec:ltI (i:Int) (y2.length:Int)=true:=et (by omega)
  have hnn:leI (0:Int) (i:Int)=true:=dk (by omega)
  have hltd:ltN i y2.length=true:=fJ hlt
  refine⟨?_,?_,?_,?_⟩
  ·simp [gu,gv,gw,gx,gy,gz,fY,aF,LT.nds,allT,bN,hdec,hnn,hltd,hget]
  ·simp [gu,gv,gw,gx,gy,gz,fY,aF,LT.each,bN,nZ,hw]
  ·simp only [gu,gv,gw,gx,gy,gz,fY,aF,LT.fn,bN,nZ,dB,Int.toNat_natCast,hdec,hnn,hltd,hget,cond_true,Bool.cond_self]
  ·exact fun _ _=>trivial
 ·obtain⟨⟩:=a
  simp [gu,gv,gw,gx,gy,gz,fY,aF,LT.out,bN]
def Bo(b:Int×Int):(Unit)→Nat ⊕ (Unit)
 |_=>(bif(bif(!a6 b.1 (1:Int) (366:Int))then true else !a6 b.2 (0:Int) (100000:Int))then(.inl 0)else(.inr ()))
def uO(y1:List (Int×Int))(i:Nat):(Unit)→nc
 |_=>((i:Int),y1)
def PU:nc→Unit
 |(_,_)=>()
theorem aiw(y1:List (Int×Int)) (hn:y1.length≤9223372036854775807):
  gg.fin ((0:Int),y1)=true∧gg.res ((0:Int),y1)=((aU (Bo) 1 y1 0 ()).1,(uO y1) (aU (Bo) 1 y1 0 ()).2.1 (aU (Bo) 1 y1 0 ()).2.2):=by
 have key:=gg.along (uO y1) PU (Bo) 1 (fun _ _=>True) y1 () (by trivial) (by simp only [gg,uO];omega) (fun i b a hb hI=> ?_) (fun a hI=> ?_)
 ·exact key
 ·obtain⟨⟩:=a
  have hlt:=(List.getElem?_eq_some_iff.1 hb).1
  have hget: ∀ d,Option.getD y1[i]? d=b:=fun d=>by rw [hb];rfl
  have hw:=vu hlt hn
  have hdec:ltI (i:Int) (y1.length:Int)=true:=et (by omega)
  have hnn:leI (0:Int) (i:Int)=true:=dk (by omega)
  have hltd:ltN i y1.length=true:=fJ hlt
  refine⟨?_,?_,?_,?_⟩
  ·simp [zD,rf,BB,Gs,Gt,Gu,Gv,Gw,Gx,Gy,Em,gg,LT.nds,allT,uO,hdec,hnn,hltd,hget]
  ·simp [zD,rf,BB,Gs,Gt,Gu,Gv,Gw,Gx,Gy,Em,gg,LT.each,uO,PU,hw]
  ·simp only [zD,rf,BB,Gs,Gt,Gu,Gv,Gw,Gx,Gy,Em,gg,LT.fn,uO,PU,Bo,Int.toNat_natCast,hdec,hnn,hltd,hget,cond_true,Bool.cond_self]
  ·exact fun _ _=>trivial
 ·obtain⟨⟩:=a
  simp [zD,rf,BB,Gs,Gt,Gu,Gv,Gw,Gx,Gy,Em,gg,LT.out,uO]
def ex(b:Int×Int):(Unit)→Nat ⊕ (Unit)
 |_=>(bif(Du b.1 b.2)then(.inl 0)else(.inr ()))
def bU(y2:List (Int×Int))(i:Nat):(Unit)→bv
 |_=>((i:Int),(↑y2.length:Int),y2)
def pN:bv→Unit
 |(_,_,_)=>()
theorem LU(y2:List (Int×Int)) (hn:y2.length≤9223372036854775807):
  aL.fin ((0:Int),(↑y2.length:Int),y2)=true∧aL.res ((0:Int),(↑y2.length:Int),y2)=((aU (ex) 1 y2 0 ()).1,(bU y2) (aU (ex) 1 y2 0 ()).2.1 (aU (ex) 1 y2 0 ()).2.2):=by
 have key:=aL.along (bU y2) pN (ex) 1 (fun _ _=>True) y2 () (by trivial) (by simp only [aL,bU];omega) (fun i b a hb hI=> ?_) (fun a hI=> ?_)
 ·exact key
 ·obtain⟨⟩:=a
  have hlt:=(List.getElem?_eq_some_iff.1 hb).1
  have hget: ∀ d,Option.getD y2[i]? d=b:=fun d=>by rw [hb];rfl
  have hw:=vu hlt hn
  have hdec:ltI (i:Int) (y2.length:Int)=true:=et (by omega)
  have hnn:leI (0:Int) (i:Int)=true:=dk (by omega)
  have hltd:ltN i y2.length=true:=fJ hlt
  refine⟨?_,?_,?_,?_⟩
  ·simp [eo,ib,ic,ie,ig,ii,ij,gS,aL,LT.nds,allT,bU,hdec,hnn,hltd,hget]
  ·simp [eo,ib,ic,ie,ig,ii,ij,gS,aL,LT.each,bU,pN,hw]
  ·simp only [eo,ib,ic,ie,ig,ii,ij,gS,aL,LT.fn,bU,pN,ex,Int.toNat_natCast,hdec,hnn,hltd,hget,cond_true,Bool.cond_self]
  ·exact fun _ _=>trivial
 ·obtain⟨⟩:=a
  simp [eo,ib,ic,ie,ig,ii,ij,gS,aL,LT.out,bU]
theorem ajx(n:Nat)(k:Int)(hk:0≤k):leI (n:Int) k=leN n k.toNat:=by
 rw [Bool.eq_iff_iff,aE,c8];omega
theorem anH(st:List Int)(hn:leN st.length 9223372036854775807=true):Lb st=areR st∧Lc st=true:=by
 obtain⟨w1,w2⟩:=aae st (c8.1 hn)
 rw [kU (P:=fun v=> !inR v 0 2) (j:=0) (fun v=>by simp only [po,a6,vt])]at w2
 have e5:(st.any fun v=> !inR v 0 2)= !st.all fun v=>inR v 0 2:=by simp [List.all_eq_not_any_not]
 rw [e5]at w2
 simp only [Lb,Lc,w1,w2,allT,areR,a6,vt]
 cases (st.all fun v=>inR v 0 2) <;> cases inR (st.length:Int) 1 12 <;> simp [Nat.beq]
theorem anb(st:List Int)(hn:leN st.length 9223372036854775807=true):KH st=areR st∧KI st=true:=by
 obtain⟨w1,w2⟩:=Kp st (c8.1 hn)
 rw [kU (P:=fun v=> !inR v 0 2) (j:=0) (fun v=>by simp only [dB,rS,bn,vt])]at w2
 have e5:(st.any fun v=> !inR v 0 2)= !st.all fun v=>inR v 0 2:=by simp [List.all_eq_not_any_not]
 rw [e5]at w2
 simp only [KH,KI,pj,pk,qT,qU,kR,w1,w2,allT,areR,zx,bn,bI,vt,bN]
 cases hr:inR (st.length:Int) 1 12 with
 |false=>simp
 |true=>
  cases (st.all fun v=>inR v 0 2)with
  |true=>
   have q:leI 0 (-1)=false:=rfl
   simp [Nat.beq,q]
  |false=>
   simp only [Bool.not_false,cond_true,Nat.beq,Bool.and_false]
   rw [dk (by omega)];simp
theorem anG(pl:List (Int×Int))(hn:leN pl.length 9223372036854775807=true):Yx pl=okPl pl∧Yy pl=true:=by
 obtain⟨w1,w2⟩:=aiw pl (c8.1 hn)
 rw [kU (P:=fun t=> !akD t) (j:=0) (fun t=>by simp only [Bo,a6,vt,akD];cases inR t.1 1 366 <;> rfl)]at w2
 have e5:(pl.any fun t=> !akD t)= !pl.all akD:=by simp [List.all_eq_not_any_not]
 rw [e5]at w2
 simp only [Yx,Yy,w1,w2,allT,okPl,ajx pl.length 12 (by omega)]
 cases pl.all akD <;> simp [Nat.beq]
theorem ana(pl:List (Int×Int))(hn:leN pl.length 9223372036854775807=true):Yf pl=okPl pl∧Yg pl=true:=by
 obtain⟨w1,w2⟩:=LU pl (c8.1 hn)
 rw [kU (P:=fun t=> !akD t) (j:=0) (fun t=>by simp only [ex,Du,wV,bn,vt,akD];cases inR t.1 1 366 <;> rfl)]at w2
 have e5:(pl.any fun t=> !akD t)= !pl.all akD:=by simp [List.all_eq_not_any_not]
 rw [e5]at w2
 simp only [Yf,Yg,Vc,qy,qz,sj,sk,l4,w1,w2,allT,okPl,ajx pl.length 12 (by omega),bU]
 cases hr:leN pl.length (Int.toNat 12)with
 |false=>
  simp at hr
  simp [hr]
  intro h;omega
 |true=>
  simp at hr
  cases pl.all akD with
  |true=>
   have q:leI 0 (-1)=false:=rfl
   simp [Nat.beq,hr,q]
  |false=>
   simp only [Bool.not_false,cond_true,Nat.beq,Bool.and_false]
   rw [dk (by omega)];simp
def SP:List SV→List Entry→Option Out
 | [.one ⟨false,[.ref 0]⟩],[.row false 2 (.int .i64) x0]=>some ⟨(.one ⟨false,[(.val (.bool (areR x0)))]⟩),[(.row false 2 asg x0)],[],[leN x0.length 9223372036854775807]⟩
 |_,_=>none
def j6:PF Tryz.prog:=PF.alt adx SP (by
 intro args es o h hnd;unfold SP at h;split at h
 ·rename_i x0
  cases h
  have hnd:=gO hnd
  have hh:=anH x0 hnd
  obtain⟨e0,en⟩:=hh
  exact jO rfl (gn en) (by simp only [e0] <;> rfl) rfl rfl
 ·cases h)
def SN:List SV→List Entry→Option Out
 | [.one ⟨false,[.ref 0]⟩],[.row false 2 (.int .i64) x0]=>some ⟨(.one ⟨false,[(.val (.bool (areR x0)))]⟩),[(.row false 2 asg x0)],[],[leN x0.length 9223372036854775807]⟩
 |_,_=>none
def jY:PF Tryz.prog:=PF.alt adv SN (by
 intro args es o h hnd;unfold SN at h;split at h
 ·rename_i x0
  cases h
  have hnd:=gO hnd
  have hh:=anb x0 hnd
  obtain⟨e0,en⟩:=hh
  exact jO rfl (gn en) (by simp only [e0] <;> rfl) rfl rfl
 ·cases h)
def aeW:List SV→List Entry→Option Out
 | [.one ⟨false,[.ref 0]⟩],[.row false 173 (.pair (.int .i64) (.int .i64)) x0]=>some ⟨(.one ⟨false,[(.val (.bool (okPl x0)))]⟩),[(.row false 173 asf x0)],[],[leN x0.length 9223372036854775807]⟩
 |_,_=>none
def xa:PF Tryz.prog:=PF.alt alb aeW (by
 intro args es o h hnd;unfold aeW at h;split at h
 ·rename_i x0
  cases h
  have hnd:=gO hnd
  have hh:=anG x0 hnd
  obtain⟨e0,en⟩:=hh
  exact jO rfl (gn en) (by simp only [e0] <;> rfl) rfl rfl
 ·cases h)
def aeU:List SV→List Entry→Option Out
 | [.one ⟨false,[.ref 0]⟩],[.row false 173 (.pair (.int .i64) (.int .i64)) x0]=>some ⟨(.one ⟨false,[(.val (.bool (okPl x0)))]⟩),[(.row false 173 asf x0)],[],[leN x0.length 9223372036854775807]⟩
 |_,_=>none
def wZ:PF Tryz.prog:=PF.alt ak8 aeU (by
 intro args es o h hnd;unfold aeU at h;split at h
 ·rename_i x0
  cases h
  have hnd:=gO hnd
  have hh:=ana x0 hnd
  obtain⟨e0,en⟩:=hh
  exact jO rfl (gn en) (by simp only [e0] <;> rfl) rfl rfl
 ·cases h)
end Go.SX

namespace Go.SX
open Go.Proofs
set_option maxRecDepth 100000
theorem Lp.scan{X:Type}(p:Lp X)(st:Nat→X)(N:Nat)(P:Nat→Bool)(e:Nat)(hN:N≤p.fuel (st 0))
  (hs: ∀ b,b < N→(p.lt (st b)).nds=true∧(p.lt (st b)).each (fun y=>y=st (b + 1))∧(p.lt (st b)).fn (fun _=>())=(bif P b then .inl 0 else .inr ()))
  (he:(p.lt (st N)).out=some (.inl e)):p.fin (st 0)=true∧(p.res (st 0)).1=bif(List.range N).any P then 0 else e:=by
 have key:=p.along (fun i (_:Unit)=>st i) (fun _=>()) (fun(b:Nat) (_:Unit)=>bif P b then .inl 0 else .inr ()) e (fun _ _=>True) (List.range N) () trivial (by rw [List.length_range];exact hN)
  (fun i b a hb _=>by
   obtain⟨rfl,hlt⟩:=qw hb
   obtain⟨h1,h2,h3⟩:=hs b hlt
   exact⟨h1,h2,h3,fun _ _=>trivial⟩) (fun a _=>by rw [List.length_range];exact he)
 rw [kU (P:=P) (j:=0) (fun b=>rfl)]at key
 exact⟨key.1,by rw [key.2]⟩
def lH(y2:List (Int×(Int×Int)))(y3 y4:Int)(b:Nat):(Unit)→Nat ⊕ (Unit)
 |_=>(bif(bif((Option.getD y2[b]? ((0:Int),(0:Int),(0:Int))).1==y3)then ((Option.getD y2[b]? ((0:Int),(0:Int),(0:Int))).2).1==y4 else false)then(.inl 0)else(.inr ()))
def iO(y1:Int)(y2:List (Int×(Int×Int)))(y3 y4 y5:Int)(i:Nat):(Unit)→dx
 |_=>((i:Int),y1,y2,y3,y4,y5)
def AM:dx→Unit
 |(_,_,_,_,_,_)=>()
theorem Wp(y1:Int)(y2:List (Int×(Int×Int)))(y3 y4 y5:Int) (hn:y1≤9223372036854775807) (hb:y1≤(y2.length:Int)):
  bz.fin ((0:Int),y1,y2,y3,y4,y5)=true∧bz.res ((0:Int),y1,y2,y3,y4,y5)=((aU (lH y2 y3 y4) 1 (List.range y1.toNat) 0 ()).1,(iO y1 y2 y3 y4 y5) (aU (lH y2 y3 y4) 1 (List.range y1.toNat) 0 ()).2.1 (aU (lH y2 y3 y4) 1 (List.range y1.toNat) 0 ()).2.2):=by
 have key:=bz.along (iO y1 y2 y3 y4 y5) AM (lH y2 y3 y4) 1 (fun _ _=>True) (List.range y1.toNat) () (by trivial) (by simp only [bz,iO,List.length_range];omega) (fun i b a hb hI=> ?_) (fun a hI=> ?_)
 ·exact key
 ·obtain⟨⟩:=a
  obtain⟨rfl,hlt⟩:=qw hb
  have hw:IntKind.i64.wrap ((b:Int) + 1)=((b + 1:Nat):Int):=by rw [aj (by omega) (by omega)];omega
  have hdec:ltI (b:Int) y1=true:=et (by omega)
  have hnn:leI (0:Int) (b:Int)=true:=dk (by omega)
  refine⟨?_,?_,?_,?_⟩
  ·have h1:ltI (b:Int) (y2.length:Int)=true:=et (by omega)
   have h2:ltN b y2.length=true:=fJ (by omega)
   simp [kT,gk,pS,pT,pU,pV,pW,pX,pY,pZ,p6,oC,bz,LT.nds,allT,iO,hdec,hnn,h1,h2]
  ·simp [kT,gk,pS,pT,pU,pV,pW,pX,pY,pZ,p6,oC,bz,LT.each,iO,AM,hw]
  ·simp only [kT,gk,pS,pT,pU,pV,pW,pX,pY,pZ,p6,oC,bz,LT.fn,iO,AM,lH,Int.toNat_natCast,hdec,hnn,cond_true,Bool.cond_self]
  ·exact fun _ _=>trivial
 ·obtain⟨⟩:=a
  simp only [kT,gk,pS,pT,pU,pV,pW,pX,pY,pZ,p6,oC,bz,LT.out,iO,List.length_range,ZG,adn,cond_false]
theorem aok(fs:List (Int×Int×Int))(b:Nat)(hb:b < fs.length)(hn:fs.length≤9223372036854775807):
  OQ (b:Int) fs=true∧Gr (b:Int) fs=ajO fs b:=by
 obtain⟨w1,w2⟩:=Wp (b:Int) fs (fAt fs b).1 (fAt fs b).2.1 (fAt fs b).2.2 (by omega) (by omega)
 rw [kU (P:=fun j=>UR (fAt fs b) (fs[j]?.getD (0,0,0))) (j:=0) (fun j=>by
  simp only [lH,UR];cases (fs[j]?.getD (0,0,0)).1==(fAt fs b).1 <;> rfl),Int.toNat_natCast,amN (by omega)]at w2
 refine⟨w1,?_⟩
 have e:Ft (b:Int) fs=(0,(b:Int),fs,(fAt fs b).1,(fAt fs b).2.1,(fAt fs b).2.2):=rfl
 simp only [Gr,e,w2,ajO]
 cases (fs.take b).any (UR (fAt fs b)) <;> rfl
theorem aqo(n:Int)(fs:List (Int×Int×Int))(b:Nat):Gq (b:Int) n fs=afS n fs b:=by
 simp only [Gq,a6,afS,fIn,fAt,kE,Int.toNat_natCast,vt]
 cases inR (fs[b]?.getD (0,0,0)).1 0 (IntKind.i64.wrap (n - 1)) <;> cases inR (fs[b]?.getD (0,0,0)).2.1 0 1 <;> cases inR (fs[b]?.getD (0,0,0)).2.2 0 1 <;> rfl
theorem aqv(n:Int)(fs:List (Int×Int×Int))(hn:fs.length≤9223372036854775807):
  bK.fin ((0:Int),n,fs)=true∧bK.res ((0:Int),n,fs)=((aU (fF n fs) 2 (List.range fs.length) 0 ()).1,(((aU (fF n fs) 2 (List.range fs.length) 0 ()).2.1:Int),n,fs)):=by
 have key:=bK.along (fun i _=>((i:Int),n,fs)) (fun _=>()) (fF n fs) 2 (fun _ _=>True) (List.range fs.length) () trivial (by simp only [bK,List.length_range];omega) (fun i b a hb hI=> ?_) (fun a hI=> ?_)
 ·exact key
 ·obtain⟨rfl,hlt⟩:=qw hb
  have hw:IntKind.i64.wrap ((b:Int) + 1)=((b + 1:Nat):Int):=by rw [aj (by omega) (by omega)];omega
  have hdec:ltI (b:Int) (fs.length:Int)=true:=et (by omega)
  have hnn:leI (0:Int) (b:Int)=true:=dk (by omega)
  have hltd:ltN b fs.length=true:=fJ (by omega)
  obtain⟨i1,i2⟩:=aok fs b hlt hn
  have i3:=aqo n fs b
  refine⟨?_,?_,?_,?_⟩
  ·simp [bK,rG,LT.nds,allT,sT,OO,OP,hdec,hnn,hltd,i1]
  ·simp [bK,rG,LT.each,OR,hw]
  ·simp only [bK,rG,LT.fn,sT,hdec,i2,i3,fF,cond_true]
  ·exact fun _ _=>trivial
 ·simp [bK,rG,LT.out,sT,List.length_range]
theorem apD(n:Int)(fs:List (Int×Int×Int))(hn:leN fs.length 9223372036854775807=true):KZ n fs=lfOk n fs∧La n fs=true:=by
 obtain⟨w1,w2⟩:=aqv n fs (c8.1 hn)
 obtain⟨k,m,e,h⟩:=ahI n fs (List.range fs.length) 0
 rw [e]at w2
 refine⟨?_,?_⟩
 ·have hl:leI (fs.length:Int) 8=leN fs.length 8:=by rw [Bool.eq_iff_iff];simp;omega
  simp only [KZ,v7,w2,a6,vt,lfOk,okFs,hl]
  rcases h with⟨rfl,h⟩ | ⟨rfl | rfl,h⟩ <;> rw [h]
  ·cases inR n 1 12 <;> cases leN fs.length 8 <;> rfl
  ·cases inR n 1 12 <;> cases leN fs.length 8 <;> rfl
  ·cases inR n 1 12 <;> cases leN fs.length 8 <;> rfl
 ·simp only [La,v7,w1,allT,cond_true]
def SO:List SV→List Entry→Option Out
 | [.one ⟨false,[.val (.int .i64 x0)]⟩,.one ⟨false,[.ref 0]⟩],[.row false 100 (.pair (.int .i64) (.pair (.int .i64) (.int .i64))) x1]=>some ⟨(.one ⟨false,[(.val (.bool (lfOk x0 x1)))]⟩),[(.row false 100 ase x1)],[],[leN x1.length 9223372036854775807]⟩
 |_,_=>none
def jZ:PF Tryz.prog:=PF.alt adw SO (by
 intro args es o h hnd;unfold SO at h;split at h
 ·rename_i x0 x1
  cases h
  have hnd:=gO hnd
  have hh:=apD x0 x1 hnd
  obtain⟨e0,en⟩:=hh
  exact jO rfl (gn en) (by simp only [e0] <;> rfl) rfl rfl
 ·cases h)
def cR(y2 y3:Int)(b:Int×(Int×Int)):(Unit)→Nat ⊕ (Unit)
 |_=>(bif(rR b.1 (b.2.1) y2 y3)then(.inl 0)else(.inr ()))
def bG(y2 y3 y4:Int)(y5:List (Int×(Int×Int)))(i:Nat):(Unit)→bc
 |_=>((i:Int),(↑y5.length:Int),y2,y3,y4,y5)
def mc:bc→Unit
 |(_,_,_,_,_,_)=>()
theorem Ik(y2 y3 y4:Int)(y5:List (Int×(Int×Int))) (hn:y5.length≤9223372036854775807):
  az.fin ((0:Int),(↑y5.length:Int),y2,y3,y4,y5)=true∧az.res ((0:Int),(↑y5.length:Int),y2,y3,y4,y5)=((aU (cR y2 y3) 1 y5 0 ()).1,(bG y2 y3 y4 y5) (aU (cR y2 y3) 1 y5 0 ()).2.1 (aU (cR y2 y3) 1 y5 0 ()).2.2):=by
 have key:=az.along (bG y2 y3 y4 y5) mc (cR y2 y3) 1 (fun _ _=>True) y5 () (by trivial) (by simp only [az,bG];omega) (fun i b a hb hI=> ?_) (fun a hI=> ?_)
 ·exact key
 ·obtain⟨⟩:=a
  have hlt:=(List.getElem?_eq_some_iff.1 hb).1
  have hget: ∀ d,Option.getD y5[i]? d=b:=fun d=>by rw [hb];rfl
  have hw:=vu hlt hn
  have hdec:ltI (i:Int) (y5.length:Int)=true:=et (by omega)
  have hnn:leI (0:Int) (i:Int)=true:=dk (by omega)
  have hltd:ltN i y5.length=true:=fJ hlt
  refine⟨?_,?_,?_,?_⟩
  ·simp [cE,eO,eP,eQ,eR,eS,eT,ew,az,LT.nds,allT,bG,hdec,hnn,hltd,hget]
  ·simp [cE,eO,eP,eQ,eR,eS,eT,ew,az,LT.each,bG,mc,hw]
  ·simp only [cE,eO,eP,eQ,eR,eS,eT,ew,az,LT.fn,bG,mc,cR,Int.toNat_natCast,hdec,hnn,hltd,hget,cond_true,Bool.cond_self]
  ·exact fun _ _=>trivial
 ·obtain⟨⟩:=a
  simp [cE,eO,eP,eQ,eR,eS,eT,ew,az,LT.out,bG]
theorem am7(xs:List (Int×Int×Int))(f:Int×Int×Int)(hn:xs.length≤9223372036854775807):
  eM xs f.1 f.2.1 f.2.2=xs.any (UR f)∧eN xs f.1 f.2.1 f.2.2=true:=by
 obtain⟨w1,w2⟩:=Ik f.1 f.2.1 f.2.2 xs hn
 rw [kU (P:=UR f) (j:=0) (fun t=>by
  simp only [cR,rR,UR];cases t.1==f.1 <;> rfl)]at w2
 refine⟨?_,?_⟩
 ·simp only [eM,mB,mC,mD,eN,f9,dv,jJ,jK,jL,jM,jN,w2,bG]
  cases xs.any (UR f)with
  |false=>rfl
  |true=>exact dk (Int.natCast_nonneg _)
 ·simp only [eM,mB,mC,mD,eN,f9,dv,jJ,jK,jL,jM,jN,w1,allT,cond_true]
theorem ap4(n:Int)(fs:List (Int×Int×Int))(b:Nat):Gc (b:Int) n fs=afS n fs b:=by
 simp only [Gc,bn,afS,fIn,fAt,eB,Int.toNat_natCast,vt]
 cases inR (fs[b]?.getD (0,0,0)).1 0 (IntKind.i64.wrap (n - 1)) <;> cases inR (fs[b]?.getD (0,0,0)).2.1 0 1 <;> cases inR (fs[b]?.getD (0,0,0)).2.2 0 1 <;> rfl
theorem aqu(n:Int)(fs:List (Int×Int×Int))(hn:fs.length≤9223372036854775807):
  bJ.fin ((0:Int),(fs.length:Int),n,fs)=true∧bJ.res ((0:Int),(fs.length:Int),n,fs)=((aU (fF n fs) 2 (List.range fs.length) 0 ()).1,(((aU (fF n fs) 2 (List.range fs.length) 0 ()).2.1:Int),(fs.length:Int),n,fs)):=by
 have key:=bJ.along (fun i _=>((i:Int),(fs.length:Int),n,fs)) (fun _=>()) (fF n fs) 2 (fun _ _=>True) (List.range fs.length) () trivial (by simp only [bJ,List.length_range];omega) (fun i b a hb hI=> ?_) (fun a hI=> ?_)
 ·exact key
 ·obtain⟨rfl,hlt⟩:=qw hb
  have hw:IntKind.i64.wrap ((b:Int) + 1)=((b + 1:Nat):Int):=by rw [aj (by omega) (by omega)];omega
  have hdec:ltI (b:Int) (fs.length:Int)=true:=et (by omega)
  have hle:leI (b:Int) (fs.length:Int)=true:=dk (by omega)
  have hnn:leI (0:Int) (b:Int)=true:=dk (by omega)
  have hltd:ltN b fs.length=true:=fJ (by omega)
  obtain⟨i2,i1⟩:=am7 (fs.take b) (fAt fs b) (by rw [List.length_take];omega)
  have i2:OK (b:Int) fs=ajO fs b:=i2
  have i1:OJ (b:Int) fs=true:=i1
  have i3:=ap4 n fs b
  refine⟨?_,?_,?_,?_⟩
  ·simp [bJ,rF,LT.nds,allT,zv,Gb,OE,OG,OH,OI,hdec,hnn,hltd,hle,i1]
  ·simp [bJ,rF,LT.each,OL,hw]
  ·simp only [bJ,rF,LT.fn,zv,hdec,i2,i3,fF,cond_true]
  ·exact fun _ _=>trivial
 ·simp [bJ,rF,LT.out,zv,List.length_range]
theorem apn(n:Int)(fs:List (Int×Int×Int))(hn:leN fs.length 9223372036854775807=true):KF n fs=lfOk n fs∧KG n fs=true:=by
 obtain⟨w1,w2⟩:=aqu n fs (c8.1 hn)
 obtain⟨k,m,e,h⟩:=ahI n fs (List.range fs.length) 0
 rw [e]at w2
 refine⟨?_,?_⟩
 ·have hl:leI (fs.length:Int) 8=leN fs.length 8:=by rw [Bool.eq_iff_iff];simp;omega
  simp only [KF,vD,w2,zx,bn,vt,lfOk,okFs,hl]
  rcases h with⟨rfl,h⟩ | ⟨rfl | rfl,h⟩ <;> rw [h] <;> cases inR n 1 12 <;> cases leN fs.length 8 <;> rfl
 ·simp only [KG,vD,w1,allT,cond_true]
def SM:List SV→List Entry→Option Out
 | [.one ⟨false,[.val (.int .i64 x0)]⟩,.one ⟨false,[.ref 0]⟩],[.row false 100 (.pair (.int .i64) (.pair (.int .i64) (.int .i64))) x1]=>some ⟨(.one ⟨false,[(.val (.bool (lfOk x0 x1)))]⟩),[(.row false 100 ase x1)],[],[leN x1.length 9223372036854775807]⟩
 |_,_=>none
def jX:PF Tryz.prog:=PF.alt adu SM (by
 intro args es o h hnd;unfold SM at h;split at h
 ·rename_i x0 x1
  cases h
  have hnd:=gO hnd
  have hh:=apn x0 x1 hnd
  obtain⟨e0,en⟩:=hh
  exact jO rfl (gn en) (by simp only [e0] <;> rfl) rfl rfl
 ·cases h)
def zu(y1 y2:Int)(b:Int×Int):(Unit)→Nat ⊕ (Unit)
 |_=>(bif(bif b.1==y1 then b.2==y2 else false)then(.inl 0)else(.inr ()))
def qj(y1 y2:Int)(y3:List (Int×Int))(i:Nat):(Unit)→lY
 |_=>((i:Int),y1,y2,y3)
def NW:lY→Unit
 |(_,_,_,_)=>()
theorem ahH(y1 y2:Int)(y3:List (Int×Int)) (hn:y3.length≤9223372036854775807):
  dQ.fin ((0:Int),y1,y2,y3)=true∧dQ.res ((0:Int),y1,y2,y3)=((aU (zu y1 y2) 1 y3 0 ()).1,(qj y1 y2 y3) (aU (zu y1 y2) 1 y3 0 ()).2.1 (aU (zu y1 y2) 1 y3 0 ()).2.2):=by
 have key:=dQ.along (qj y1 y2 y3) NW (zu y1 y2) 1 (fun _ _=>True) y3 () (by trivial) (by simp only [dQ,qj];omega) (fun i b a hb hI=> ?_) (fun a hI=> ?_)
 ·exact key
 ·obtain⟨⟩:=a
  have hlt:=(List.getElem?_eq_some_iff.1 hb).1
  have hget: ∀ d,Option.getD y3[i]? d=b:=fun d=>by rw [hb];rfl
  have hw:=vu hlt hn
  have hdec:ltI (i:Int) (y3.length:Int)=true:=et (by omega)
  have hnn:leI (0:Int) (i:Int)=true:=dk (by omega)
  have hltd:ltN i y3.length=true:=fJ hlt
  refine⟨?_,?_,?_,?_⟩
  ·simp [sv,sw,zU,EP,EQ,ER,ES,ET,EU,EV,CQ,dQ,LT.nds,allT,qj,hdec,hnn,hltd,hget]
  ·simp [sv,sw,zU,EP,EQ,ER,ES,ET,EU,EV,CQ,dQ,LT.each,qj,NW,hw]
  ·simp only [sv,sw,zU,EP,EQ,ER,ES,ET,EU,EV,CQ,dQ,LT.fn,qj,NW,zu,Int.toNat_natCast,hdec,hnn,hltd,hget,cond_true,Bool.cond_self]
  ·exact fun _ _=>trivial
 ·obtain⟨⟩:=a
  simp [sv,sw,zU,EP,EQ,ER,ES,ET,EU,EV,CQ,dQ,LT.out,qj]
def kN(y2 y3:Int)(b:Int×Int):(Unit)→Nat ⊕ (Unit)
 |_=>(bif(bif y2==b.1then bif y3==b.2then true else false else false)then(.inl 0)else(.inr ()))
def fE(y2 y3:Int)(y4:List (Int×Int))(i:Nat):(Unit)→c7
 |_=>((i:Int),(↑y4.length:Int),y2,y3,y4)
def zV:c7→Unit
 |(_,_,_,_,_)=>()
theorem Ux(y2 y3:Int)(y4:List (Int×Int)) (hn:y4.length≤9223372036854775807):
  bh.fin ((0:Int),(↑y4.length:Int),y2,y3,y4)=true∧bh.res ((0:Int),(↑y4.length:Int),y2,y3,y4)=((aU (kN y2 y3) 1 y4 0 ()).1,(fE y2 y3 y4) (aU (kN y2 y3) 1 y4 0 ()).2.1 (aU (kN y2 y3) 1 y4 0 ()).2.2):=by
 have key:=bh.along (fE y2 y3 y4) zV (kN y2 y3) 1 (fun _ _=>True) y4 () (by trivial) (by simp only [bh,fE];omega) (fun i b a hb hI=> ?_) (fun a hI=> ?_)
 ·exact key
 ·obtain⟨⟩:=a
  have hlt:=(List.getElem?_eq_some_iff.1 hb).1
  have hget: ∀ d,Option.getD y4[i]? d=b:=fun d=>by rw [hb];rfl
  have hw:=vu hlt hn
  have hdec:ltI (i:Int) (y4.length:Int)=true:=et (by omega)
  have hnn:leI (0:Int) (i:Int)=true:=dk (by omega)
  have hltd:ltN i y4.length=true:=fJ hlt
  refine⟨?_,?_,?_,?_⟩
  ·simp [jP,oG,oH,oI,oJ,oK,oL,mU,bh,LT.nds,allT,fE,hdec,hnn,hltd,hget]
  ·simp [jP,oG,oH,oI,oJ,oK,oL,mU,bh,LT.each,fE,zV,hw]
  ·simp only [jP,oG,oH,oI,oJ,oK,oL,mU,bh,LT.fn,fE,zV,kN,Int.toNat_natCast,hdec,hnn,hltd,hget,cond_true,Bool.cond_self]
  ·exact fun _ _=>trivial
 ·obtain⟨⟩:=a
  simp [jP,oG,oH,oI,oJ,oK,oL,mU,bh,LT.out,fE]
theorem aqF(d o:Int)(ls:List (Int×Int))(hn:ls.length≤9223372036854775807):GU d o ls=(bif ls.any (Ji (d,o))then(((ls.takeWhile fun x=> !Ji (d,o) x).length:Nat):Int)else -1)∧QD d o ls=true:=by
 obtain⟨w1,w2⟩:=ahH d o ls hn
 rw [kU (P:=Ji (d,o)) (j:=0) (fun x=>by simp only [zu,Ji];cases x.1==d <;> rfl)]at w2
 simp only [GU,QD,NF,w1,w2,allT,qj]
 cases ls.any (Ji (d,o)) <;> simp [Nat.beq]
theorem ap3(d o:Int)(ls:List (Int×Int))(hn:ls.length≤9223372036854775807):oF d o ls=ls.any (Ji (d,o))∧tE d o ls=true:=by
 obtain⟨w1,w2⟩:=Ux d o ls hn
 rw [kU (P:=Ji (d,o)) (j:=0) (fun x=>by
  simp only [kN,Ji,BEq.comm (a:=d),BEq.comm (a:=o)];cases x.1==d <;> cases x.2==o <;> rfl)]at w2
 simp only [oF,tE,Fr,Fs,vv,w1,w2,allT,fE]
 refine⟨?_,rfl⟩
 cases ls.any (Ji (d,o))with
 |false=>rfl
 |true=>exact dk (Int.natCast_nonneg _)
theorem alC(a b:Int):QE a b=aqP (a,b)∧Sv a b=aqP (a,b):=by
 simp only [QE,Sv,a6,bn,vt,aqP]
 cases inR a 0 23 <;> exact⟨rfl,rfl⟩
theorem anQ(ls:List (Int×Int))(hn:ls.length≤9223372036854775807):
  dW.fin ((0:Int),ls)=true∧(dW.res ((0:Int),ls)).1=bif(List.range ls.length).any (fun b=>MG ls b||adb ls b)then 0 else 1:=by
 refine Lp.scan dW (fun b=>((b:Int),ls)) ls.length (fun b=>MG ls b||adb ls b) 1 (by simp only [dW];omega) (fun b hb=> ?_) ?_
 ·have hdec:ltI (b:Int) (ls.length:Int)=true:=et (by omega)
  have hnn:leI (0:Int) (b:Int)=true:=dk (by omega)
  have hltd:ltN b ls.length=true:=fJ hb
  have hw:IntKind.i64.wrap ((b:Int) + 1)=((b + 1:Nat):Int):=by rw [aj (by omega) (by omega)];omega
  have a0:nC (b:Int) ls=TI ls b:=by simp only [nC,Int.toNat_natCast,TI]
  have a1:qX (b:Int) ls=MG ls b:=by simp only [qX,a0,(alC _ _).1,MG]
  obtain⟨f1,f2⟩:=aqF (TI ls b).1 (TI ls b).2 ls hn
  have hat:TI ls b=ls[b]:=by simp only [TI,List.getElem?_eq_getElem hb,Option.getD_some]
  have hp:Ji (TI ls b) ls[b]=true:=by rw [hat];simp [Ji]
  have hany:ls.any (Ji (TI ls b))=true:=List.any_eq_true.2 ⟨_,List.getElem_mem hb,hp⟩
  have f1':GU (TI ls b).1 (TI ls b).2 ls=(bif ls.any (Ji (TI ls b))then(((ls.takeWhile fun x=> !Ji (TI ls b) x).length:Nat):Int)else -1):=f1
  have h7:(GU (TI ls b).1 (TI ls b).2 ls !=(b:Int))=adb ls b:=by
   rw [f1']
   simp only [hany,cond_true,adb]
   have hf:=ajT ls b hb hp
   cases hd:(ls.take b).any (Ji (TI ls b))with
   |false=>have:=hf.2 hd;rw [this];simp
   |true=>
    have:(ls.takeWhile fun x=> !Ji (TI ls b) x).length≠b:=fun h=>by rw [hf.1 h]at hd;cases hd
    simp only [bne_iff_ne,ne_eq];omega
  refine⟨?_,?_,?_⟩
  ·simp [dW,Ar,LT.nds,allT,wu,Of,Og,Oh,Oi,Oj,VO,hdec,hnn,hltd,a0,f2]
  ·simp [dW,Ar,LT.each,VQ,hw]
  ·simp only [dW,Ar,LT.fn,wu,VP,hdec,a0,a1,h7,cond_true]
   cases MG ls b <;> rfl
 ·simp [dW,Ar,LT.out,wu]
theorem anP(ls:List (Int×Int))(hn:ls.length≤9223372036854775807):
  dS.fin ((0:Int),(ls.length:Int),ls)=true∧(dS.res ((0:Int),(ls.length:Int),ls)).1=bif(List.range ls.length).any (fun b=>MG ls b||adb ls b)then 0 else 1:=by
 refine Lp.scan dS (fun b=>((b:Int),(ls.length:Int),ls)) ls.length (fun b=>MG ls b||adb ls b) 1 (by simp only [dS];omega) (fun b hb=> ?_) ?_
 ·have hdec:ltI (b:Int) (ls.length:Int)=true:=et (by omega)
  have hle:leI (b:Int) (ls.length:Int)=true:=dk (by omega)
  have hnn:leI (0:Int) (b:Int)=true:=dk (by omega)
  have hltd:ltN b ls.length=true:=fJ hb
  have hw:IntKind.i64.wrap ((b:Int) + 1)=((b + 1:Nat):Int):=by rw [aj (by omega) (by omega)];omega
  have a0:nA (b:Int) ls=TI ls b:=by simp only [nA,Int.toNat_natCast,TI]
  have a1:nB (b:Int) ls=MG ls b:=by simp only [nB,a0,(alC _ _).2,MG]
  have a2:FQ (b:Int) ls=bif !MG ls b then ls.take b else []:=by
   simp only [FQ,a1,Int.toNat_natCast,Int.toNat_zero,List.drop_zero,Bool.and_true]
  have hl2:(bif !MG ls b then ls.take b else []).length≤9223372036854775807:=by
   cases MG ls b <;> simp;omega
  obtain⟨f1,f2⟩:=ap3 (TI ls b).1 (TI ls b).2 (bif !MG ls b then ls.take b else []) hl2
  have f1:oF (TI ls b).1 (TI ls b).2 (bif !MG ls b then ls.take b else [])=(bif !MG ls b then ls.take b else []).any (Ji (TI ls b)):=f1
  refine⟨?_,?_,?_⟩
  ·have z0:leI 0 0=true:=rfl
   simp only [dS,Am,LT.nds,allT,Hz,UT,UU,UV,UW,UX,UY,UZ,Int.toNat_natCast,hdec,hle,hnn,hltd,a0,a2,f2,z0,Bool.or_true,cond_true,Bool.cond_self]
  ·simp [dS,Am,LT.each,Vb,hw]
  ·simp only [dS,Am,LT.fn,Hz,Va,hdec,a0,a1,a2,f1,cond_true]
   cases MG ls b <;> rfl
 ·simp [dS,Am,LT.out,Hz]
theorem aqd(ls:List (Int×Int)):((List.range ls.length).any fun b=>MG ls b||adb ls b)= !(List.range ls.length).all fun b=> !(MG ls b||adb ls b):=by simp [List.all_eq_not_any_not]
theorem amB(ls:List (Int×Int))(hn:leN ls.length 9223372036854775807=true):TP ls=okLk ls∧TQ ls=true:=by
 obtain⟨w1,w2⟩:=anQ ls (c8.1 hn)
 rw [aqd]at w2
 simp only [TP,TQ,w1,w2,allT,okLk,ajx ls.length 8 (by omega)]
 cases ((List.range ls.length).all fun b=> !(MG ls b||adb ls b)) <;> simp [Nat.beq]
theorem amk(ls:List (Int×Int))(hn:leN ls.length 9223372036854775807=true):Tv ls=okLk ls∧Tw ls=true:=by
 obtain⟨w1,w2⟩:=anP ls (c8.1 hn)
 rw [aqd]at w2
 simp only [Tv,Tw,RT,w1,w2,allT,okLk,ajx ls.length 8 (by omega)]
 cases ((List.range ls.length).all fun b=> !(MG ls b||adb ls b)) <;> simp [Nat.beq]
def aba:List SV→List Entry→Option Out
 | [.one ⟨false,[.ref 0]⟩],[.row false 176 (.pair (.int .i64) (.int .i64)) x0]=>some ⟨(.one ⟨false,[(.val (.bool (okLk x0)))]⟩),[(.row false 176 asf x0)],[],[leN x0.length 9223372036854775807]⟩
 |_,_=>none
def rU:PF Tryz.prog:=PF.alt ajj aba (by
 intro args es o h hnd;unfold aba at h;split at h
 ·rename_i x0
  cases h
  have hnd:=gO hnd
  have hh:=amB x0 hnd
  obtain⟨e0,en⟩:=hh
  exact jO rfl (gn en) (by simp only [e0] <;> rfl) rfl rfl
 ·cases h)
def aa6:List SV→List Entry→Option Out
 | [.one ⟨false,[.ref 0]⟩],[.row false 176 (.pair (.int .i64) (.int .i64)) x0]=>some ⟨(.one ⟨false,[(.val (.bool (okLk x0)))]⟩),[(.row false 176 asf x0)],[],[leN x0.length 9223372036854775807]⟩
 |_,_=>none
def rT:PF Tryz.prog:=PF.alt aje aa6 (by
 intro args es o h hnd;unfold aa6 at h;split at h
 ·rename_i x0
  cases h
  have hnd:=gO hnd
  have hh:=amk x0 hnd
  obtain⟨e0,en⟩:=hh
  exact jO rfl (gn en) (by simp only [e0] <;> rfl) rfl rfl
 ·cases h)
end Go.SX

namespace Go.SX
open Go.Proofs
set_option maxRecDepth 100000
abbrev sE:=Int×Int×Int×Int×List Int×List (Int×(Int×Int))×List (List Int)×List (Int×(Int×Int))×List (Int×Int)×List (Int×Int)
section
variable (y0:Int)(y6:List (List Int))
def l6:List Int:=Option.getD y6[Int.toNat y0]? (AK (CTy.sl (2:TypeId) asg))
def GA:Bool:=ltI y0 (↑y6.length:Int)
def ZQ:Bool:=leI (0:Int) y0
def ZR:Bool:=ltN y0.toNat y6.length
def ZS:Bool:=leN (List.length (l6 y0 y6)) (9223372036854775807:Nat)
def ZT:Bool:= !(!!areR (l6 y0 y6)&&true)||leI (0:Int) y0
def ZU:Bool:= !(!!areR (l6 y0 y6)&&true)||ltI y0 (↑y6.length:Int)
def ZV:Bool:= !(!!areR (l6 y0 y6)&&true)||ltN y0.toNat y6.length
def ZW:Bool:= !(!!areR (l6 y0 y6)&&true)||zq y6
def ZX:Bool:=bif !areR (l6 y0 y6)then true else(↑(List.length (bif !!areR (l6 y0 y6)&&true then l6 y0 y6 else [])):Int)!=zp y6
def ZY:Int:=IntKind.wrap .i64 (y0 + (1:Int))
end
def agw:sE→List (Nat×SV)
 |(y0,_,_,_,_,_,_,_,_,_)=> [(3,(.one ⟨false,[(.val (.int .i64 y0))]⟩)),(1,(.one ⟨false,[(.ptr 0 0)]⟩))]
def agp:sE→List (Nat×Entry)
 |(_,y1,y2,y3,y4,y5,y6,y7,y8,y9)=> [(0,(.box 33 [(.val (.int .i64 y1)),(.ref 1),(.ref 2),(.ref 3),(.ref 4),(.val (.int .i64 y2)),(.ref 5),(.ref 6),(.val (.int .i64 y3))])),(1,(.row false 2 asg y4)),(2,(.row false 169 ase y5)),(3,(.row false 24 (CTy.sl (2:TypeId) asg) y6)),(4,(.row false 100 ase y7)),(5,(.row false 173 asf y8)),(6,(.row false 176 asf y9))]
def agK:Nat→sE→List (Nat×SV)
 |0,(_,_,_,_,_,_,_,_,_,_)=> [(2,(.one ⟨false,[(.val (.bool false))]⟩))]
 |_,(_,_,_,_,_,_,_,_,_,_)=> []
def agD:Nat→sE→List (Nat×Entry)
 |0,(_,y1,y2,y3,y4,y5,y6,y7,y8,y9)=> [(0,(.box 33 [(.val (.int .i64 y1)),(.ref 1),(.ref 2),(.ref 3),(.ref 4),(.val (.int .i64 y2)),(.ref 5),(.ref 6),(.val (.int .i64 y3))])),(1,(.row false 2 asg y4)),(2,(.row false 169 ase y5)),(3,(.row false 24 (CTy.sl (2:TypeId) asg) y6)),(4,(.row false 100 ase y7)),(5,(.row false 173 asf y8)),(6,(.row false 176 asf y9))]
 |_,(_,y1,y2,y3,y4,y5,y6,y7,y8,y9)=> [(0,(.box 33 [(.val (.int .i64 y1)),(.ref 1),(.ref 2),(.ref 3),(.ref 4),(.val (.int .i64 y2)),(.ref 5),(.ref 6),(.val (.int .i64 y3))])),(1,(.row false 2 asg y4)),(2,(.row false 169 ase y5)),(3,(.row false 24 (CTy.sl (2:TypeId) asg) y6)),(4,(.row false 100 ase y7)),(5,(.row false 173 asf y8)),(6,(.row false 176 asf y9))]
def En:sE→LT sE
 |(y0,y1,y2,y3,y4,y5,y6,y7,y8,y9)=> .ite (GA y0 y6) (.need [(ZQ y0),(GA y0 y6),(ZR y0 y6),(ZS y0 y6),(ZT y0 y6),(ZU y0 y6),(ZV y0 y6),(ZW y0 y6)] (.ite (ZX y0 y6) (.ext 0 [(0,0),(1,1),(2,2),(3,3),(4,4),(5,5),(6,6)]) (.nrm ((ZY y0),y1,y2,y3,y4,y5,y6,y7,y8,y9) [(0,0),(1,1),(2,2),(3,3),(4,4),(5,5),(6,6)]))) (.ext 1 [(0,0),(1,1),(2,2),(3,3),(4,4),(5,5),(6,6)])
def Qb(s:St):Option sE:=
 (match s.look 3 with
 |some ⟨none,(.one ⟨false,[(.val (.int .i64 y0))]⟩)⟩=>
 (match s.look 1 with
 |some ⟨none,(.one ⟨false,[(.ptr 448 0)]⟩)⟩=>
 (match s.ent 448 with
 |some (.box 33 [(.val (.int .i64 y1)),(.ref 0),(.ref 1),(.ref 2),(.ref 3),(.val (.int .i64 y2)),(.ref 4),(.ref 5),(.val (.int .i64 y3))])=>
 (match s.ent 0 with
 |some (.row false 2 (.int .i64) y4)=>
 (match s.ent 1 with
 |some (.row false 169 (.pair (.int .i64) (.pair (.int .i64) (.int .i64))) y5)=>
 (match s.ent 2 with
 |some (.row false 24 (.sl 2 (.int .i64)) y6)=>
 (match s.ent 3 with
 |some (.row false 100 (.pair (.int .i64) (.pair (.int .i64) (.int .i64))) y7)=>
 (match s.ent 4 with
 |some (.row false 173 (.pair (.int .i64) (.int .i64)) y8)=>
 (match s.ent 5 with
 |some (.row false 176 (.pair (.int .i64) (.int .i64)) y9)=>
 some (y0,y1,y2,y3,y4,y5,y6,y7,y8,y9)
 |_=>none)
 |_=>none)
 |_=>none)
 |_=>none)
 |_=>none)
 |_=>none)
 |_=>none)
 |_=>none)
 |_=>none)
def gh:Lp sE where
 h:=⟨[27,28,29,30,31,34,35,36,37,38,39,40,41,42,43,44,45,46,47,48,49,50,51,2,32,33,3],[0,1,2,3,4,5,6],[],[]⟩
 JL:=agw
 JE:=agp
 XL:=agK
 XE:=agD
 q:=fun j=>match j with | 0=> .ret | _=> .exit 0
 tags:= [0,1]
 lt:=En
 fuel:=fun(y0,y1,y2,y3,y4,y5,y6,y7,y8,y9)=>y0.natAbs + y1.natAbs + y2.natAbs + y3.natAbs + y4.length + y5.length + y6.length + y7.length + y8.length + y9.length
 fix:=fun(_,y1,y2,y3,y4,y5,y6,y7,y8,y9) (y0,_,_,_,_,_,_,_,_,_)=>(y0,y1,y2,y3,y4,y5,y6,y7,y8,y9)
 σ:= [(0,448),(1,0),(2,1),(3,2),(4,3),(5,4),(6,5)]
 rd:=Qb
theorem aex:LoopOk Tryz.prog (fun k=>Nat.blt k Tryz.f24.ntmps) gh.F (aT Tryz.f24 0):=by
 refine Lp.ok (tbl:= [fK,Bx,PF.lend Bx,PF.fz Bx,Bw,PF.lend Bw,PF.fz Bw,j6,PF.lend j6,PF.fz j6,uk,PF.lend uk,PF.fz uk,jZ,PF.lend jZ,PF.fz jZ,adA,xa,PF.lend xa,PF.fz xa,rU,PF.lend rU,PF.fz rU]) (lf:= []) aS gh (by kernel_rfl) (LOk.nil _) (fun _=>rfl) (fun j _=>by unfold gh;match j with | 0=>rfl | _ + 1=>rfl) ?_ ?_ ?_ ?_ (fun _=>rfl) ?_
 ·rintro⟨y0,y1,y2,y3,y4,y5,y6,y7,y8,y9⟩;kernel_rfl
 ·rintro⟨y0,y1,y2,y3,y4,y5,y6,y7,y8,y9⟩;kernel_rfl
 ·intro s x h
  have h:Qb s=some x:=h
  unfold Qb at h
  repeat' split at h
  all_goals cases h
  exact⟨aa (by assumption) rfl (aa (by assumption) rfl (rfl)),ab rfl (by assumption) rfl (ab rfl (by assumption) rfl (ab rfl (by assumption) rfl (ab rfl (by assumption) rfl (ab rfl (by assumption) rfl (ab rfl (by assumption) rfl (ab rfl (by assumption) rfl (rfl)))))))⟩
 ·rintro⟨y0,y1,y2,y3,y4,y5,y6,y7,y8,y9⟩;kernel_rfl
 ·rintro⟨y0,y1,y2,y3,y4,y5,y6,y7,y8,y9⟩ z;exact(And.intro (And.intro trivial rfl) trivial)
section
variable (x0 x1 x2:Int)(x3:List Int)(x4:List (Int×Int×Int))(x5:List (List Int))(x6:List (Int×Int×Int))(x7 x8:List (Int×Int))
def CX:Bool:=bif bif !isT x0 x3 then true else !(inR x0 (2:Int) (8:Int)&&okFs x0 x4)then true else(↑x5.length:Int)!=(↑x3.length:Int)
def VU:Int×Int×Int×Int×List Int×List (Int×Int×Int)×List (List Int)×List (Int×Int×Int)×List (Int×Int)×List (Int×Int):=((0:Int),x0,x1,x2,x3,x4,x5,x6,x7,x8)
def Gz:Bool:=Nat.beq ((Lp.res gh (VU x0 x1 x2 x3 x4 x5 x6 x7 x8)).1) (0:Nat)
def VV:Bool:=bif bif lfOk (zp x5) x6 then QA x1 else false then okPl x7 else false
def Yz:Bool:=bif CX x0 x3 x4 x5 then false else bif Gz x0 x1 x2 x3 x4 x5 x6 x7 x8 then false else bif bif VV x1 x5 x6 x7 then okLk x8 else false then a6 x2 (0:Int) (100000:Int)else false
def YA:Bool:=allT [!(!!isT x0 x3&&true)||leN x4.length (9223372036854775807:Nat),CX x0 x3 x4 x5||Lp.fin gh (VU x0 x1 x2 x3 x4 x5 x6 x7 x8),CX x0 x3 x4 x5||(Gz x0 x1 x2 x3 x4 x5 x6 x7 x8||zq x5),CX x0 x3 x4 x5||(Gz x0 x1 x2 x3 x4 x5 x6 x7 x8||leN x6.length (9223372036854775807:Nat)),CX x0 x3 x4 x5||(Gz x0 x1 x2 x3 x4 x5 x6 x7 x8||(!((bif lfOk (zp x5) x6 then QA x1 else false)&&true)||leN x7.length (9223372036854775807:Nat))),CX x0 x3 x4 x5||(Gz x0 x1 x2 x3 x4 x5 x6 x7 x8||(!(VV x1 x5 x6 x7&&true)||leN x8.length (9223372036854775807:Nat)))]
end
def aeN:List SV→List Entry→Option Out
 | [.one ⟨true,[.val (.int .i64 x0),.ref 0,.ref 1,.ref 2,.ref 3,.val (.int .i64 x1),.ref 4,.ref 5,.val (.int .i64 x2)]⟩],[.row false 2 (.int .i64) x3,.row false 169 (.pair (.int .i64) (.pair (.int .i64) (.int .i64))) x4,.row false 24 (.sl 2 (.int .i64)) x5,.row false 100 (.pair (.int .i64) (.pair (.int .i64) (.int .i64))) x6,.row false 173 (.pair (.int .i64) (.int .i64)) x7,.row false 176 (.pair (.int .i64) (.int .i64)) x8]=>some ⟨(.one ⟨false,[(.val (.bool (Yz x0 x1 x2 x3 x4 x5 x6 x7 x8)))]⟩),[(.row false 2 asg x3),(.row false 169 ase x4),(.row false 24 (CTy.sl (2:TypeId) asg) x5),(.row false 100 ase x6),(.row false 173 asf x7),(.row false 176 asf x8)],[],[(YA x0 x1 x2 x3 x4 x5 x6 x7 x8)]⟩
 |_,_=>none
def alc:PF Tryz.prog:=PF.ofG Tryz.prog [fK,Bx,PF.lend Bx,PF.fz Bx,Bw,PF.lend Bw,PF.fz Bw,j6,PF.lend j6,PF.fz j6,uk,PF.lend uk,PF.fz uk,jZ,PF.lend jZ,PF.fz jZ,adA,xa,PF.lend xa,PF.fz xa,rU,PF.lend rU,PF.fz rU] [gh.F] aS 24 Tryz.f24 Tryz.func24 (LOk.fnT (l:= [aT Tryz.f24 0]) (by kernel_rfl) (.cons aex (.nil _))) aeN (by
 intro vs es r h;unfold aeN at h;split at h
 ·cases h;kernel_rfl
 ·cases h)
abbrev sz:=Int×Int×List (List Int)×Int×Int×Int×List Int×List (Int×(Int×Int))×List (Int×(Int×Int))×List (Int×Int)×List (Int×Int)
section
variable (y0 y1:Int)(y2:List (List Int))
def oB:List Int:=Option.getD y2[Int.toNat y0]? (AK (CTy.sl (2:TypeId) asg))
def LG:Bool:=ltI y0 y1
def Zm:Bool:=leI (0:Int) y0
def Zn:Bool:=ltI y0 (↑y2.length:Int)
def Zo:Bool:=ltN y0.toNat y2.length
def Zp:Bool:=leN (List.length (oB y0 y2)) (9223372036854775807:Nat)
def Zq:Bool:= !(!!areR (oB y0 y2)&&true)||leI (0:Int) (0:Int)
def Zr:Bool:= !(!!areR (oB y0 y2)&&true)||ltI (0:Int) (↑y2.length:Int)
def Zs:Bool:= !(!!areR (oB y0 y2)&&true)||ltN (Int.toNat (0:Int)) y2.length
def Zt:Bool:=bif !areR (oB y0 y2)then true else(↑(List.length (oB y0 y2)):Int)!=(↑(List.length (bif !!areR (oB y0 y2)&&true then Option.getD y2[Int.toNat (0:Int)]? (AK (CTy.sl (2:TypeId) asg))else [])):Int)
def Zu:Int:=IntKind.wrap .i64 (y0 + (1:Int))
end
def agu:sz→List (Nat×SV)
 |(y0,y1,_,_,_,_,_,_,_,_,_)=> [(31,(.one ⟨false,[(.val (.int .i64 y0))]⟩)),(30,(.one ⟨false,[(.val (.int .i64 y1))]⟩)),(29,(.one ⟨false,[(.ref 0)]⟩)),(1,(.one ⟨false,[(.ptr 1 0)]⟩))]
def agn:sz→List (Nat×Entry)
 |(_,_,y2,y3,y4,y5,y6,y7,y8,y9,y10)=> [(0,(.row false 24 (CTy.sl (2:TypeId) asg) y2)),(1,(.box 33 [(.val (.int .i64 y3)),(.ref 2),(.ref 3),(.ref 0),(.ref 4),(.val (.int .i64 y4)),(.ref 5),(.ref 6),(.val (.int .i64 y5))])),(2,(.row false 2 asg y6)),(3,(.row false 169 ase y7)),(4,(.row false 100 ase y8)),(5,(.row false 173 asf y9)),(6,(.row false 176 asf y10))]
def agI:Nat→sz→List (Nat×SV)
 |0,(_,_,_,_,_,_,_,_,_,_,_)=> [(2,(.one ⟨false,[(.val (.bool false))]⟩))]
 |_,(_,_,_,_,_,_,_,_,_,_,_)=> []
def agB:Nat→sz→List (Nat×Entry)
 |0,(_,_,y2,y3,y4,y5,y6,y7,y8,y9,y10)=> [(0,(.row false 24 (CTy.sl (2:TypeId) asg) y2)),(1,(.box 33 [(.val (.int .i64 y3)),(.ref 2),(.ref 3),(.ref 0),(.ref 4),(.val (.int .i64 y4)),(.ref 5),(.ref 6),(.val (.int .i64 y5))])),(2,(.row false 2 asg y6)),(3,(.row false 169 ase y7)),(4,(.row false 100 ase y8)),(5,(.row false 173 asf y9)),(6,(.row false 176 asf y10))]
 |_,(_,_,y2,y3,y4,y5,y6,y7,y8,y9,y10)=> [(0,(.row false 24 (CTy.sl (2:TypeId) asg) y2)),(1,(.box 33 [(.val (.int .i64 y3)),(.ref 2),(.ref 3),(.ref 0),(.ref 4),(.val (.int .i64 y4)),(.ref 5),(.ref 6),(.val (.int .i64 y5))])),(2,(.row false 2 asg y6)),(3,(.row false 169 ase y7)),(4,(.row false 100 ase y8)),(5,(.row false 173 asf y9)),(6,(.row false 176 asf y10))]
def El:sz→LT sz
 |(y0,y1,y2,y3,y4,y5,y6,y7,y8,y9,y10)=> .ite (LG y0 y1) (.need [(Zm y0),(Zn y0 y2),(Zo y0 y2)] (.need [(Zp y0 y2),(Zq y0 y2),(Zr y0 y2),(Zs y0 y2)] (.ite (Zt y0 y2) (.ext 0 [(0,0),(1,1),(2,2),(3,3),(4,4),(5,5),(6,6)]) (.nrm ((Zu y0),y1,y2,y3,y4,y5,y6,y7,y8,y9,y10) [(0,0),(1,1),(2,2),(3,3),(4,4),(5,5),(6,6)])))) (.ext 1 [(0,0),(1,1),(2,2),(3,3),(4,4),(5,5),(6,6)])
def PZ(s:St):Option sz:=
 (match s.look 31 with
 |some ⟨none,(.one ⟨false,[(.val (.int .i64 y0))]⟩)⟩=>
 (match s.look 30 with
 |some ⟨none,(.one ⟨false,[(.val (.int .i64 y1))]⟩)⟩=>
 (match s.look 29 with
 |some ⟨none,(.one ⟨false,[(.ref 2)]⟩)⟩=>
 (match s.look 1 with
 |some ⟨none,(.one ⟨false,[(.ptr 448 0)]⟩)⟩=>
 (match s.ent 2 with
 |some (.row false 24 (.sl 2 (.int .i64)) y2)=>
 (match s.ent 448 with
 |some (.box 33 [(.val (.int .i64 y3)),(.ref 0),(.ref 1),(.ref 2),(.ref 3),(.val (.int .i64 y4)),(.ref 4),(.ref 5),(.val (.int .i64 y5))])=>
 (match s.ent 0 with
 |some (.row false 2 (.int .i64) y6)=>
 (match s.ent 1 with
 |some (.row false 169 (.pair (.int .i64) (.pair (.int .i64) (.int .i64))) y7)=>
 (match s.ent 3 with
 |some (.row false 100 (.pair (.int .i64) (.pair (.int .i64) (.int .i64))) y8)=>
 (match s.ent 4 with
 |some (.row false 173 (.pair (.int .i64) (.int .i64)) y9)=>
 (match s.ent 5 with
 |some (.row false 176 (.pair (.int .i64) (.int .i64)) y10)=>
 some (y0,y1,y2,y3,y4,y5,y6,y7,y8,y9,y10)
 |_=>none)
 |_=>none)
 |_=>none)
 |_=>none)
 |_=>none)
 |_=>none)
 |_=>none)
 |_=>none)
 |_=>none)
 |_=>none)
 |_=>none)
def gf:Lp sz where
 h:=⟨[32,33,34,4,35,36,37,38,39,40,41,42,43,44,45,46,47,2,48,31],[0,1,2,3,4,5,6],[],[]⟩
 JL:=agu
 JE:=agn
 XL:=agI
 XE:=agB
 q:=fun j=>match j with | 0=> .ret | _=> .exit 0
 tags:= [0,1]
 lt:=El
 fuel:=fun(y0,y1,y2,y3,y4,y5,y6,y7,y8,y9,y10)=>y0.natAbs + y1.natAbs + y2.length + y3.natAbs + y4.natAbs + y5.natAbs + y6.length + y7.length + y8.length + y9.length + y10.length
 fix:=fun(_,y1,y2,y3,y4,y5,y6,y7,y8,y9,y10) (y0,_,_,_,_,_,_,_,_,_,_)=>(y0,y1,y2,y3,y4,y5,y6,y7,y8,y9,y10)
 σ:= [(0,2),(1,448),(2,0),(3,1),(4,3),(5,4),(6,5)]
 rd:=PZ
theorem aev:LoopOk Tryz.prog (fun k=>Nat.blt k Tryz.f23.ntmps) gf.F (aT Tryz.f23 0):=by
 refine Lp.ok (tbl:= [Bt,PF.lend Bt,PF.fz Bt,Bv,PF.lend Bv,PF.fz Bv,jY,PF.lend jY,PF.fz jY,jX,PF.lend jX,PF.fz jX,aK,PF.lend aK,PF.fz aK,afa,wZ,PF.lend wZ,PF.fz wZ,rT,PF.lend rT,PF.fz rT,PO]) (lf:= []) aS gf (by kernel_rfl) (LOk.nil _) (fun _=>rfl) (fun j _=>by unfold gf;match j with | 0=>rfl | _ + 1=>rfl) ?_ ?_ ?_ ?_ (fun _=>rfl) ?_
 ·rintro⟨y0,y1,y2,y3,y4,y5,y6,y7,y8,y9,y10⟩;kernel_rfl
 ·rintro⟨y0,y1,y2,y3,y4,y5,y6,y7,y8,y9,y10⟩;kernel_rfl
 ·intro s x h
  have h:PZ s=some x:=h
  unfold PZ at h
  repeat' split at h
  all_goals cases h
  exact⟨aa (by assumption) rfl (aa (by assumption) rfl (aa (by assumption) rfl (aa (by assumption) rfl (rfl)))),ab rfl (by assumption) rfl (ab rfl (by assumption) rfl (ab rfl (by assumption) rfl (ab rfl (by assumption) rfl (ab rfl (by assumption) rfl (ab rfl (by assumption) rfl (ab rfl (by assumption) rfl (rfl)))))))⟩
 ·rintro⟨y0,y1,y2,y3,y4,y5,y6,y7,y8,y9,y10⟩;kernel_rfl
 ·rintro⟨y0,y1,y2,y3,y4,y5,y6,y7,y8,y9,y10⟩ z;exact(And.intro (And.intro trivial rfl) trivial)
section
variable (x0 x1 x2:Int)(x3:List Int)(x4:List (Int×Int×Int))(x5:List (List Int))(x6:List (Int×Int×Int))(x7 x8:List (Int×Int))
def tU:Bool:=bif bif !isT x0 x3 then true else !okFs x0 x4 then true else(↑x5.length:Int)!=(↑x3.length:Int)
def Vd:Int×Int×List (List Int)×Int×Int×Int×List Int×List (Int×Int×Int)×List (Int×Int×Int)×List (Int×Int)×List (Int×Int):=((0:Int),(↑x5.length:Int),x5,x0,x1,x2,x3,x4,x6,x7,x8)
def xB:Bool:=Nat.beq ((Lp.res gf (Vd x0 x1 x2 x3 x4 x5 x6 x7 x8)).1) (0:Nat)
def Pw:Bool:=bif lfOk (bI (Option.getD x5[Int.toNat (0:Int)]? (AK (CTy.sl (2:TypeId) asg)))) x6 then Sw x1 else false
def Yh:Bool:=bif tU x0 x3 x4 x5 then false else bif xB x0 x1 x2 x3 x4 x5 x6 x7 x8 then false else bif bif bif Pw x1 x5 x6 then okPl x7 else false then okLk x8 else false then wV x2 else false
def Yi:Bool:=allT [!(!!isT x0 x3&&true)||leN x4.length (9223372036854775807:Nat),tU x0 x3 x4 x5||Lp.fin gf (Vd x0 x1 x2 x3 x4 x5 x6 x7 x8),tU x0 x3 x4 x5||(xB x0 x1 x2 x3 x4 x5 x6 x7 x8||leI (0:Int) (0:Int)),tU x0 x3 x4 x5||(xB x0 x1 x2 x3 x4 x5 x6 x7 x8||ltI (0:Int) (↑x5.length:Int)),tU x0 x3 x4 x5||(xB x0 x1 x2 x3 x4 x5 x6 x7 x8||ltN (Int.toNat (0:Int)) x5.length),tU x0 x3 x4 x5||(xB x0 x1 x2 x3 x4 x5 x6 x7 x8||leN x6.length (9223372036854775807:Nat)),tU x0 x3 x4 x5||(xB x0 x1 x2 x3 x4 x5 x6 x7 x8||(!(Pw x1 x5 x6&&true)||leN x7.length (9223372036854775807:Nat))),tU x0 x3 x4 x5||(xB x0 x1 x2 x3 x4 x5 x6 x7 x8||(!((bif Pw x1 x5 x6 then okPl x7 else false)&&true)||leN x8.length (9223372036854775807:Nat)))]
end
def aeH:List SV→List Entry→Option Out
 | [.one ⟨true,[.val (.int .i64 x0),.ref 0,.ref 1,.ref 2,.ref 3,.val (.int .i64 x1),.ref 4,.ref 5,.val (.int .i64 x2)]⟩],[.row false 2 (.int .i64) x3,.row false 169 (.pair (.int .i64) (.pair (.int .i64) (.int .i64))) x4,.row false 24 (.sl 2 (.int .i64)) x5,.row false 100 (.pair (.int .i64) (.pair (.int .i64) (.int .i64))) x6,.row false 173 (.pair (.int .i64) (.int .i64)) x7,.row false 176 (.pair (.int .i64) (.int .i64)) x8]=>some ⟨(.one ⟨false,[(.val (.bool (Yh x0 x1 x2 x3 x4 x5 x6 x7 x8)))]⟩),[(.row false 2 asg x3),(.row false 169 ase x4),(.row false 24 (CTy.sl (2:TypeId) asg) x5),(.row false 100 ase x6),(.row false 173 asf x7),(.row false 176 asf x8)],[],[(Yi x0 x1 x2 x3 x4 x5 x6 x7 x8)]⟩
 |_,_=>none
def ak9:PF Tryz.prog:=PF.ofG Tryz.prog [Bt,PF.lend Bt,PF.fz Bt,Bv,PF.lend Bv,PF.fz Bv,jY,PF.lend jY,PF.fz jY,jX,PF.lend jX,PF.fz jX,aK,PF.lend aK,PF.fz aK,afa,wZ,PF.lend wZ,PF.fz wZ,rT,PF.lend rT,PF.fz rT,PO] [gf.F] aS 23 Tryz.f23 Tryz.func23 (LOk.fnT (l:= [aT Tryz.f23 0]) (by kernel_rfl) (.cons aev (.nil _))) aeH (by
 intro vs es r h;unfold aeH at h;split at h
 ·cases h;kernel_rfl
 ·cases h)
end Go.SX

namespace Go.SX
open Go.Proofs
set_option maxRecDepth 100000
def anw(rs:List (List Int))(b:Nat):Bool:= !(areR (rs[b]?.getD [])&&(((rs[b]?.getD []).length:Int)==rowsR rs))
theorem anx(rs:List (List Int)):(List.range rs.length).any (anw rs)= !rsOk rs:=by
 have key: ∀ (l:List (List Int)) (P:List Int→Bool),((List.range l.length).any fun b=> !P (l[b]?.getD []))= !l.all P:=by
  intro l P
  rw [Bool.eq_iff_iff]
  simp only [List.any_eq_true,List.mem_range,Bool.not_eq_true',List.all_eq_false]
  constructor
  ·rintro⟨b,hb,h⟩
   rw [List.getElem?_eq_getElem hb]at h
   exact⟨l[b],List.getElem_mem hb,by simpa using h⟩
  ·rintro⟨x,hx,h⟩
   obtain⟨b,hb,rfl⟩:=List.getElem_of_mem hx
   exact⟨b,hb,by rw [List.getElem?_eq_getElem hb];simpa using h⟩
 exact key rs fun st=>areR st&&((st.length:Int)==rowsR rs)
def zC(m:Nat)(ps:List Int)(fs:List (Int×Int×Int))(rs:List (List Int))(lf:List (Int×Int×Int))(pl ls:List (Int×Int)):Bool:=leN ps.length m&&(leN fs.length m&&(ary m rs&&(leN lf.length m&&(leN pl.length m&&leN ls.length m))))
theorem UB{m:Nat}{ps:List Int}{fs:List (Int×Int×Int)}{rs:List (List Int)}{lf:List (Int×Int×Int)}{pl ls:List (Int×Int)}:
  zC m ps fs rs lf pl ls=true↔ps.length≤m∧fs.length≤m∧(rs.length≤m∧ ∀ x∈rs,x.length≤m)∧lf.length≤m∧pl.length≤m∧ls.length≤m:=by
 simp only [zC,Bool.and_eq_true,c8,aoJ]
theorem akF{m k:Nat}{ps:List Int}{fs:List (Int×Int×Int)}{rs:List (List Int)}{lf:List (Int×Int×Int)}{pl ls:List (Int×Int)}(h:zC m ps fs rs lf pl ls=true)(hk:m≤k):zC k ps fs rs lf pl ls=true:=by
 obtain⟨h1,h2,⟨h3,h4⟩,h5,h6,h7⟩:=UB.1 h
 exact UB.2 ⟨by omega,by omega,⟨by omega,fun x hx=>by have:=h4 x hx;omega⟩,by omega,by omega,by omega⟩
theorem aqw(x y:List Int):(bif !areR x then true else((bif !!areR x&&true then x else []).length:Int)!=(y.length:Int))= !(areR x&&((x.length:Int)==(y.length:Int))):=by
 cases h:areR x <;> simp [bne]
theorem aqx(x y:List Int):(bif !areR x then true else(x.length:Int)!=((bif !!areR x&&true then y else []).length:Int))= !(areR x&&((x.length:Int)==(y.length:Int))):=by
 cases h:areR x <;> simp [bne]
theorem aqp(rs:List (List Int))(b:Nat):ZX (b:Int) rs=anw rs b:=by
 exact aqw (rs[b]?.getD []) (rs[0]?.getD [])
theorem ap5(rs:List (List Int))(b:Nat):Zt (b:Int) rs=anw rs b:=by
 exact aqx (rs[b]?.getD []) (rs[0]?.getD [])
theorem aoS(n mode day:Int)(ps:List Int)(fs:List (Int×Int×Int))(rs:List (List Int))(lf:List (Int×Int×Int))(pl ls:List (Int×Int))(hn:rs.length≤9223372036854775807)(hA: ∀ x∈rs,x.length≤9223372036854775807):
  gh.fin ((0:Int),n,mode,day,ps,fs,rs,lf,pl,ls)=true∧(gh.res ((0:Int),n,mode,day,ps,fs,rs,lf,pl,ls)).1=bif !rsOk rs then 0 else 1:=by
 rw [← anx]
 refine Lp.scan gh (fun b=>((b:Int),n,mode,day,ps,fs,rs,lf,pl,ls)) rs.length (anw rs) 1 (by simp only [gh];omega) (fun b hb=> ?_) ?_
 ·have hdec:ltI (b:Int) (rs.length:Int)=true:=et (by omega)
  have hdec0:ltI 0 (rs.length:Int)=true:=et (by omega)
  have hw:IntKind.i64.wrap ((b:Int) + 1)=((b + 1:Nat):Int):=by rw [aj (by omega) (by omega)];omega
  have hnn:leI (0:Int) (b:Int)=true:=dk (by omega)
  have hltd:ltN b rs.length=true:=fJ (by omega)
  have hlt0:ltN 0 rs.length=true:=fJ (by omega)
  have h6:leN (l6 (b:Int) rs).length 9223372036854775807=true:=br (by
   simp only [l6,Int.toNat_natCast]
   cases hq:rs[b]? with
   |none=>exact Nat.zero_le _
   |some x=>exact hA x (List.mem_of_getElem? hq))
  have i2:=aqp rs b
  refine⟨?_,?_,?_⟩
  ·simp [gh,En,LT.nds,allT,GA,ZQ,ZR,ZS,ZT,ZU,ZV,ZW,zq,hdec,hdec0,hnn,hltd,hlt0,h6]
  ·simp [gh,En,LT.each,ZY,hw]
  ·simp only [gh,En,LT.fn,GA,hdec,i2,cond_true]
 ·simp [gh,En,LT.out,GA]
theorem aoR(n mode day:Int)(ps:List Int)(fs:List (Int×Int×Int))(rs:List (List Int))(lf:List (Int×Int×Int))(pl ls:List (Int×Int))(hn:rs.length≤9223372036854775807)(hA: ∀ x∈rs,x.length≤9223372036854775807):
  gf.fin ((0:Int),(rs.length:Int),rs,n,mode,day,ps,fs,lf,pl,ls)=true∧(gf.res ((0:Int),(rs.length:Int),rs,n,mode,day,ps,fs,lf,pl,ls)).1=bif !rsOk rs then 0 else 1:=by
 rw [← anx]
 refine Lp.scan gf (fun b=>((b:Int),(rs.length:Int),rs,n,mode,day,ps,fs,lf,pl,ls)) rs.length (anw rs) 1 (by simp only [gf];omega) (fun b hb=> ?_) ?_
 ·have hdec:ltI (b:Int) (rs.length:Int)=true:=et (by omega)
  have hdec0:ltI 0 (rs.length:Int)=true:=et (by omega)
  have hw:IntKind.i64.wrap ((b:Int) + 1)=((b + 1:Nat):Int):=by rw [aj (by omega) (by omega)];omega
  have hnn:leI (0:Int) (b:Int)=true:=dk (by omega)
  have hltd:ltN b rs.length=true:=fJ (by omega)
  have hlt0:ltN 0 rs.length=true:=fJ (by omega)
  have h6:leN (oB (b:Int) rs).length 9223372036854775807=true:=br (by
   simp only [oB,Int.toNat_natCast]
   cases hq:rs[b]? with
   |none=>exact Nat.zero_le _
   |some x=>exact hA x (List.mem_of_getElem? hq))
  have i2:=ap5 rs b
  have h00:leI 0 0=true:=rfl
  refine⟨?_,?_,?_⟩
  ·simp [gf,El,LT.nds,allT,LG,Zm,Zn,Zo,Zp,Zq,Zr,Zs,hdec,hdec0,hnn,hltd,hlt0,h6,h00]
  ·simp [gf,El,LT.each,Zu,hw]
  ·simp only [gf,El,LT.fn,LG,hdec,i2,cond_true]
 ·simp [gf,El,LT.out,LG]
theorem aqM{n:Int}{ps:List Int}(h:isT n ps=true):inR n 2 8=true:=re.2 (Dw.1 h).1
theorem apS(a b:Nat):((a:Int)!=(b:Int))= !decide (a=b):=by
 by_cases h:a=b
 ·subst h;simp
 ·have:(a:Int)≠(b:Int):=by omega
  simp [h,this]
theorem anI(n mode day:Int)(ps:List Int)(fs:List (Int×Int×Int))(rs:List (List Int))(lf:List (Int×Int×Int))(pl ls:List (Int×Int))(h:zC 9223372036854775807 ps fs rs lf pl ls=true):
  Yz n mode day ps fs rs lf pl ls=nX n ps fs rs lf mode pl ls day∧YA n mode day ps fs rs lf pl ls=true:=by
 obtain⟨h1,h2,⟨h3,h4⟩,h5,h6,h7⟩:=UB.1 h
 obtain⟨w1,w2⟩:=aoS n mode day ps fs rs lf pl ls h3 h4
 have e:AK (CTy.sl (2:TypeId) asg)= []:=rfl
 have er:zp rs=rowsR rs:=rfl
 have q5:leN lf.length 9223372036854775807=true:=br h5
 have q6:leN pl.length 9223372036854775807=true:=br h6
 have q7:leN ls.length 9223372036854775807=true:=br h7
 have q2:leN fs.length 9223372036854775807=true:=br h2
 simp only [Yz,YA,CX,VU,Gz,VV,w1,w2,er,apS,nX,QA,a6,vt,allT,q2,q5,q6,q7,Bool.or_true,cond_true]
 cases hT:isT n ps with
 |false=>simp
 |true=>
  rw [aqM hT]
  cases hF:okFs n fs with
  |false=>simp
  |true=>
   cases hl:decide (rs.length=ps.length)with
   |false=>simp
   |true=>
    have hl:rs.length=ps.length:=by simpa using hl
    have:=(Dw.1 hT).2.1
    have r1:zq rs=true:=by
     have a1:ltI 0 (rs.length:Int)=true:=et (by omega)
     have a2:ltN 0 rs.length=true:=fJ (by omega)
     simp [zq,allT,a1,a2]
    cases rsOk rs with
    |false=>simp
    |true=>
     rw [r1]
     cases lfOk (rowsR rs) lf <;> cases inR mode 0 5 <;> cases okPl pl <;> cases okLk ls <;> simp [Nat.beq]
theorem anc(n mode day:Int)(ps:List Int)(fs:List (Int×Int×Int))(rs:List (List Int))(lf:List (Int×Int×Int))(pl ls:List (Int×Int))(h:zC 9223372036854775807 ps fs rs lf pl ls=true):
  Yh n mode day ps fs rs lf pl ls=nX n ps fs rs lf mode pl ls day∧Yi n mode day ps fs rs lf pl ls=true:=by
 obtain⟨h1,h2,⟨h3,h4⟩,h5,h6,h7⟩:=UB.1 h
 obtain⟨w1,w2⟩:=aoR n mode day ps fs rs lf pl ls h3 h4
 have e:AK (CTy.sl (2:TypeId) asg)= []:=rfl
 have er:Pw mode rs lf=(bif lfOk (rowsR rs) lf then Sw mode else false):=rfl
 have q5:leN lf.length 9223372036854775807=true:=br h5
 have q6:leN pl.length 9223372036854775807=true:=br h6
 have q7:leN ls.length 9223372036854775807=true:=br h7
 have q2:leN fs.length 9223372036854775807=true:=br h2
 have h00:leI 0 0=true:=rfl
 simp only [Yh,Yi,tU,Vd,xB,er,w1,w2,apS,nX,Sw,wV,bn,vt,allT,q2,q5,q6,q7,h00,Bool.or_true,cond_true]
 cases hT:isT n ps with
 |false=>simp
 |true=>
  cases hF:okFs n fs with
  |false=>simp
  |true=>
   cases hl:decide (rs.length=ps.length)with
   |false=>simp
   |true=>
    have hl:rs.length=ps.length:=by simpa using hl
    have:=(Dw.1 hT).2.1
    have a1:ltI 0 (rs.length:Int)=true:=et (by omega)
    have a2:ltN (Int.toNat 0) rs.length=true:=fJ (by simp;omega)
    rw [a1,a2]
    cases rsOk rs with
    |false=>simp
    |true=>
     cases lfOk (rowsR rs) lf <;> cases inR mode 0 5 <;> cases okPl pl <;> cases okLk ls <;> simp [Nat.beq]
theorem aor{n:Int}{ps:List Int}{fs:List (Int×Int×Int)}{rs:List (List Int)}{lf:List (Int×Int×Int)}{mode:Int}{pl ls:List (Int×Int)}{day:Int}:
  nX n ps fs rs lf mode pl ls day=true↔isT n ps=true∧okFs n fs=true∧rs.length=ps.length∧rsOk rs=true∧lfOk (rowsR rs) lf=true∧inR mode 0 5=true∧okPl pl=true∧okLk ls=true∧inR day 0 100000=true:=by
 simp only [nX,Bool.and_eq_true,decide_eq_true_eq]
theorem anm{n:Int}{fs:List (Int×Int×Int)}(h:okFs n fs=true):fs.length≤8:=by
 simp only [okFs,Bool.and_eq_true,c8]at h;exact h.1
theorem aqb{n:Int}{fs:List (Int×Int×Int)}(h:lfOk n fs=true):fs.length≤8:=by
 simp only [lfOk,Bool.and_eq_true]at h;exact anm h.2
def aeX:List SV→List Entry→Option Out
 | [.one ⟨true,[.val (.int .i64 x0),.ref 0,.ref 1,.ref 2,.ref 3,.val (.int .i64 x1),.ref 4,.ref 5,.val (.int .i64 x2)]⟩],[.row false 2 (.int .i64) x3,.row false 169 (.pair (.int .i64) (.pair (.int .i64) (.int .i64))) x4,.row false 24 (.sl 2 (.int .i64)) x5,.row false 100 (.pair (.int .i64) (.pair (.int .i64) (.int .i64))) x6,.row false 173 (.pair (.int .i64) (.int .i64)) x7,.row false 176 (.pair (.int .i64) (.int .i64)) x8]=>some ⟨(.one ⟨false,[(.val (.bool (nX x0 x3 x4 x5 x6 x1 x7 x8 x2)))]⟩),[(.row false 2 asg x3),(.row false 169 ase x4),(.row false 24 (CTy.sl (2:TypeId) asg) x5),(.row false 100 ase x6),(.row false 173 asf x7),(.row false 176 asf x8)],[],[zC 9223372036854775807 x3 x4 x5 x6 x7 x8]⟩
 |_,_=>none
def IY:PF Tryz.prog:=PF.alt alc aeX (by
 intro args es o h hnd;unfold aeX at h;split at h
 ·rename_i x0 x1 x2 x3 x4 x5 x6 x7 x8
  cases h
  have hnd:=gO hnd
  have hh:=anI x0 x1 x2 x3 x4 x5 x6 x7 x8 hnd
  obtain⟨e0,en⟩:=hh
  exact jO rfl (gn en) (by simp only [e0] <;> rfl) rfl rfl
 ·cases h)
def aeV:List SV→List Entry→Option Out
 | [.one ⟨true,[.val (.int .i64 x0),.ref 0,.ref 1,.ref 2,.ref 3,.val (.int .i64 x1),.ref 4,.ref 5,.val (.int .i64 x2)]⟩],[.row false 2 (.int .i64) x3,.row false 169 (.pair (.int .i64) (.pair (.int .i64) (.int .i64))) x4,.row false 24 (.sl 2 (.int .i64)) x5,.row false 100 (.pair (.int .i64) (.pair (.int .i64) (.int .i64))) x6,.row false 173 (.pair (.int .i64) (.int .i64)) x7,.row false 176 (.pair (.int .i64) (.int .i64)) x8]=>some ⟨(.one ⟨false,[(.val (.bool (nX x0 x3 x4 x5 x6 x1 x7 x8 x2)))]⟩),[(.row false 2 asg x3),(.row false 169 ase x4),(.row false 24 (CTy.sl (2:TypeId) asg) x5),(.row false 100 ase x6),(.row false 173 asf x7),(.row false 176 asf x8)],[],[zC 9223372036854775807 x3 x4 x5 x6 x7 x8]⟩
 |_,_=>none
def IX:PF Tryz.prog:=PF.alt ak9 aeV (by
 intro args es o h hnd;unfold aeV at h;split at h
 ·rename_i x0 x1 x2 x3 x4 x5 x6 x7 x8
  cases h
  have hnd:=gO hnd
  have hh:=anc x0 x1 x2 x3 x4 x5 x6 x7 x8 hnd
  obtain⟨e0,en⟩:=hh
  exact jO rfl (gn en) (by simp only [e0] <;> rfl) rfl rfl
 ·cases h)
end Go.SX

namespace Go.SX
open Go.Proofs
set_option maxRecDepth 100000
def afV(x0:Int):Bool:=x0 !=(2:Int)
def UE:List SV→List Entry→Option Out
 | [.one ⟨false,[.val (.int .i64 x0)]⟩],[]=>some ⟨(.one ⟨false,[(.val (.bool (afV x0)))]⟩),[],[],[]⟩
 |_,_=>none
def af3:PF Tryz.prog:=PF.ofG Tryz.prog [] [] aS 159 Tryz.f159 Tryz.func159 (fun c _=>LOk.nil c) UE (by
 intro vs es r h;unfold UE at h;split at h
 ·cases h;kernel_rfl
 ·cases h)
def wT(x0:Int):Bool:=x0 !=(2:Int)
def My:List SV→List Entry→Option Out
 | [(.one ⟨false,[(.val (.int .i64 x0))]⟩)],[]=>some ⟨(.one ⟨false,[(.val (.bool (wT x0)))]⟩),[],[],[]⟩
 |_,_=>none
def MJ:PF Tryz.prog:=PF.ofG Tryz.prog [] [] aS 159 Tryz.f159 Tryz.func159 (fun c _=>LOk.nil c) My (by
 intro vs es r h;unfold My at h;split at h
 ·cases h;kernel_rfl
 ·cases h)
abbrev bm:=Int×Int×List Int
section
variable (y0 y1:Int)(y2:List Int)
def gA:Bool:=ltI y0 y1
def gB:Bool:=leI (0:Int) y0
def gC:Bool:=ltI y0 (↑y2.length:Int)
def gD:Bool:=ltN y0.toNat y2.length
def gE:Bool:=wT (Option.getD y2[Int.toNat y0]? (0:Int))
def gF:Int:=IntKind.wrap .i64 (y0 + (1:Int))
end
def Jc:bm→List (Nat×SV)
 |(y0,y1,_)=> [(8,(.one ⟨false,[(.val (.int .i64 y0))]⟩)),(7,(.one ⟨false,[(.val (.int .i64 y1))]⟩)),(1,(.one ⟨false,[(.val (.func (.func 159) ⟨[]⟩ ⟨[]⟩))]⟩)),(0,(.one ⟨false,[(.ref 0)]⟩))]
def Ja:bm→List (Nat×Entry)
 |(_,_,y2)=> [(0,(.row false 2 asg y2))]
def Jg:Nat→bm→List (Nat×SV)
 |0,(y0,_,_)=> [(4,(.one ⟨false,[(.val (.int .i64 y0))]⟩))]
 |_,(_,_,_)=> []
def Je:Nat→bm→List (Nat×Entry)
 |0,(_,_,y2)=> [(0,(.row false 2 asg y2))]
 |_,(_,_,y2)=> [(0,(.row false 2 asg y2))]
def fZ:bm→LT bm
 |(y0,y1,y2)=> .ite (gA y0 y1) (.need [(gB y0),(gC y0 y2),(gD y0 y2)] (.ite (gE y0 y2) (.ext 0 [(0,0)]) (.nrm ((gF y0),y1,y2) [(0,0)]))) (.ext 1 [(0,0)])
def od(s:St):Option bm:=
 (match s.look 8 with
 |some ⟨none,(.one ⟨false,[(.val (.int .i64 y0))]⟩)⟩=>
 (match s.look 7 with
 |some ⟨none,(.one ⟨false,[(.val (.int .i64 y1))]⟩)⟩=>
 (match s.look 1 with
 |some ⟨none,(.one ⟨false,[(.val (.func (.func 159) ⟨[]⟩ ⟨[]⟩))]⟩)⟩=>
 (match s.look 0 with
 |some ⟨none,(.one ⟨false,[(.ref 0)]⟩)⟩=>
 (match s.ent 0 with
 |some (.row false 2 (.int .i64) y2)=>
 some (y0,y1,y2)
 |_=>none)
 |_=>none)
 |_=>none)
 |_=>none)
 |_=>none)
def aG:Lp bm where
 h:=⟨[9,10,5,11,12,13,14,15,16,17,4,18,8],[0],[],[]⟩
 JL:=Jc
 JE:=Ja
 XL:=Jg
 XE:=Je
 q:=fun j=>match j with | 0=> .ret | _=> .exit 0
 tags:= [0,1]
 lt:=fZ
 fuel:=fun(y0,y1,y2)=>y0.natAbs + y1.natAbs + y2.length
 fix:=fun(_,y1,y2) (y0,_,_)=>(y0,y1,y2)
 σ:= [(0,0)]
 rd:=od
theorem HK:LoopOk Tryz.prog (fun k=>Nat.blt k Tryz.f211.ntmps) aG.F (aT Tryz.f211 0):=by
 refine Lp.ok (tbl:= [MJ]) (lf:= []) aS aG (by kernel_rfl) (LOk.nil _) (fun _=>rfl) (fun j _=>by unfold aG;match j with | 0=>rfl | _ + 1=>rfl) ?_ ?_ ?_ ?_ (fun _=>rfl) ?_
 ·rintro⟨y0,y1,y2⟩;kernel_rfl
 ·rintro⟨y0,y1,y2⟩;kernel_rfl
 ·intro s x h
  have h:od s=some x:=h
  unfold od at h
  repeat' split at h
  all_goals cases h
  exact⟨aa (by assumption) rfl (aa (by assumption) rfl (aa (by assumption) rfl (aa (by assumption) rfl (rfl)))),ab rfl (by assumption) rfl (rfl)⟩
 ·rintro⟨y0,y1,y2⟩;kernel_rfl
 ·rintro⟨y0,y1,y2⟩ z;exact(And.intro (And.intro trivial rfl) trivial)
section
variable (x0:List Int)
def kS:Int×Int×List Int:=((0:Int),(↑x0.length:Int),x0)
def qV:Int:=bif Nat.beq ((Lp.res aG (kS x0)).1) (0:Nat)then ((Lp.res aG (kS x0)).2).1else(-1:Int)
def qW:Bool:=allT [Lp.fin aG (kS x0)]
end
def Af:List SV→List Entry→Option Out
 | [(.one ⟨false,[(.ref 0)]⟩),(.one ⟨false,[(.val (.func (.func 159) ⟨[]⟩ ⟨[]⟩))]⟩)],[(.row false 2 (.int .i64) x0)]=>some ⟨(.one ⟨false,[(.val (.int .i64 (qV x0)))]⟩),[(.row false 2 asg x0)],[],[(qW x0)]⟩
 |_,_=>none
def qS:PF Tryz.prog:=PF.ofG Tryz.prog [MJ] [aG.F] aS 211 Tryz.f211 Tryz.func211 (LOk.fnT (l:= [aT Tryz.f211 0]) (by kernel_rfl) (.cons HK (.nil _))) Af (by
 intro vs es r h;unfold Af at h;split at h
 ·cases h;kernel_rfl
 ·cases h)
def pm(x0:List Int):Bool:=leI (0:Int) (qV x0)
def pn(x0:List Int):Bool:=allT [qW x0]
def wN:List SV→List Entry→Option Out
 | [(.one ⟨false,[(.ref 0)]⟩),(.one ⟨false,[(.val (.func (.func 159) ⟨[]⟩ ⟨[]⟩))]⟩)],[(.row false 2 (.int .i64) x0)]=>some ⟨(.one ⟨false,[(.val (.bool (pm x0)))]⟩),[(.row false 2 asg x0)],[],[(pn x0)]⟩
 |_,_=>none
def pg:PF Tryz.prog:=PF.ofG Tryz.prog [qS,PF.lend qS,PF.fz qS] [] aS 158 Tryz.f158 Tryz.func158 (fun c _=>LOk.nil c) wN (by
 intro vs es r h;unfold wN at h;split at h
 ·cases h;kernel_rfl
 ·cases h)
def Sa(x0:List Int):Bool:= !pm x0
def Sb(x0:List Int):Bool:=allT [pn x0]
def YH:List SV→List Entry→Option Out
 | [.one ⟨false,[.ref 0]⟩],[.row false 2 (.int .i64) x0]=>some ⟨(.one ⟨false,[(.val (.bool (Sa x0)))]⟩),[(.row false 2 asg x0)],[],[(Sb x0)]⟩
 |_,_=>none
def aih:PF Tryz.prog:=PF.ofG Tryz.prog [af3,pg,PF.lend pg,PF.fz pg] [] aS 64 Tryz.f64 Tryz.func64 (fun c _=>LOk.nil c) YH (by
 intro vs es r h;unfold YH at h;split at h
 ·cases h;kernel_rfl
 ·cases h)
def cZ(x0 x3:Int)(x4:List Int):Bool:=Option.getD x4[Int.toNat x3]? (0:Int)==IntKind.wrap .i64 (IntKind.wrap .i64 ((3:Int) * IntKind.wrap .i64 (x0 - (1:Int))) + (1:Int))
def BR(x3:Int)(x4:List Int):Bool:=allT [leI (0:Int) x3,ltI x3 (↑x4.length:Int),ltN x3.toNat x4.length]
def YP:List SV→List Entry→Option Out
 | [.one ⟨true,[.val (.int .i64 x0),.ref 0,.ref 1,.ref 2,.ref 3,.val (.int .i64 _x1),.ref 4,.ref 5,.val (.int .i64 _x2)]⟩,.one ⟨false,[.val (.int .i64 x3)]⟩],[.row false 2 (.int .i64) x4,.row false 169 (.pair (.int .i64) (.pair (.int .i64) (.int .i64))) x5,.row false 24 (.sl 2 (.int .i64)) x6,.row false 100 (.pair (.int .i64) (.pair (.int .i64) (.int .i64))) x7,.row false 173 (.pair (.int .i64) (.int .i64)) x8,.row false 176 (.pair (.int .i64) (.int .i64)) x9]=>some ⟨(.one ⟨false,[(.val (.bool (cZ x0 x3 x4)))]⟩),[(.row false 2 asg x4),(.row false 169 ase x5),(.row false 24 (CTy.sl (2:TypeId) asg) x6),(.row false 100 ase x7),(.row false 173 asf x8),(.row false 176 asf x9)],[],[(BR x3 x4)]⟩
 |_,_=>none
def BA:PF Tryz.prog:=PF.ofG Tryz.prog [] [] aS 93 Tryz.f93 Tryz.func93 (fun c _=>LOk.nil c) YP (by
 intro vs es r h;unfold YP at h;split at h
 ·cases h;kernel_rfl
 ·cases h)
abbrev kw:=Int×Int×List Int
section
variable (y0 y1:Int)(y2:List Int)
def vd:Int:=Option.getD y2[Int.toNat y0]? (0:Int)
def ww:Bool:=ltI y0 (↑y2.length:Int)
def Dp:Bool:=leI (0:Int) y0
def Dq:Bool:=ltN y0.toNat y2.length
def Dr:Int:=IntKind.wrap .i64 (y0 + (1:Int))
def Ds:Int:=ajW (vd y0 y2) y1 (vd y0 y2) y1
end
def aee:kw→List (Nat×SV)
 |(y0,y1,_)=> [(4,(.one ⟨false,[(.val (.int .i64 y0))]⟩)),(0,(.one ⟨false,[(.ref 0)]⟩)),(3,(.one ⟨false,[(.val (.int .i64 y1))]⟩))]
def ad6:kw→List (Nat×Entry)
 |(_,_,y2)=> [(0,(.row false 2 asg y2))]
def aeu:Nat→kw→List (Nat×SV)
 |_,(_,y1,_)=> [(3,(.one ⟨false,[(.val (.int .i64 y1))]⟩))]
def aem:Nat→kw→List (Nat×Entry)
 |_,(_,_,y2)=> [(0,(.row false 2 asg y2))]
def At:kw→LT kw
 |(y0,y1,y2)=> .ite (ww y0 y2) (.need [(Dp y0),(ww y0 y2),(Dq y0 y2)] (.nrm ((Dr y0),(Ds y0 y1 y2),y2) [(0,0)])) (.ext 0 [(0,0)])
def Mn(s:St):Option kw:=
 (match s.look 4 with
 |some ⟨none,(.one ⟨false,[(.val (.int .i64 y0))]⟩)⟩=>
 (match s.look 0 with
 |some ⟨none,(.one ⟨false,[(.ref 0)]⟩)⟩=>
 (match s.look 3 with
 |some ⟨none,(.one ⟨false,[(.val (.int .i64 y1))]⟩)⟩=>
 (match s.ent 0 with
 |some (.row false 2 (.int .i64) y2)=>
 some (y0,y1,y2)
 |_=>none)
 |_=>none)
 |_=>none)
 |_=>none)
def ff:Lp kw where
 h:=⟨[8,9,10,11,14,15,16,17,18,19,3,12,13,4],[0],[],[]⟩
 JL:=aee
 JE:=ad6
 XL:=aeu
 XE:=aem
 q:=fun j=>match j with | _=> .exit 0
 tags:= [0]
 lt:=At
 fuel:=fun(y0,y1,y2)=>y0.natAbs + y1.natAbs + y2.length
 fix:=fun(_,_,y2) (y0,y1,_)=>(y0,y1,y2)
 σ:= [(0,0)]
 rd:=Mn
theorem ab2:LoopOk Tryz.prog (fun k=>Nat.blt k Tryz.f176.ntmps) ff.F (aT Tryz.f176 0):=by
 refine Lp.ok (tbl:= []) (lf:= []) aS ff (by kernel_rfl) (LOk.nil _) (fun _=>rfl) (fun _ _=>rfl) ?_ ?_ ?_ ?_ (fun _=>rfl) ?_
 ·rintro⟨y0,y1,y2⟩;kernel_rfl
 ·rintro⟨y0,y1,y2⟩;kernel_rfl
 ·intro s x h
  have h:Mn s=some x:=h
  unfold Mn at h
  repeat' split at h
  all_goals cases h
  exact⟨aa (by assumption) rfl (aa (by assumption) rfl (aa (by assumption) rfl (rfl))),ab rfl (by assumption) rfl (rfl)⟩
 ·rintro⟨y0,y1,y2⟩;kernel_rfl
 ·rintro⟨y0,y1,y2⟩ z;exact(And.intro rfl trivial)
section
variable (x0:List Int)
def GO:Int×Int×List Int:=((1:Int),Option.getD x0[Int.toNat (0:Int)]? (0:Int),x0)
def zX:Int:=((Lp.res ff (GO x0)).2.2).1
def IR:Bool:=allT [ltI (0:Int) (↑x0.length:Int),ltN (Int.toNat (0:Int)) x0.length,Lp.fin ff (GO x0)]
end
def aa4:List SV→List Entry→Option Out
 | [.one ⟨false,[.ref 0]⟩],[.row false 2 (.int .i64) x0]=>some ⟨(.one ⟨false,[(.val (.int .i64 (zX x0)))]⟩),[(.row false 2 asg x0)],[],[(IR x0)]⟩
 |_,_=>none
def TO:PF Tryz.prog:=PF.ofG Tryz.prog [] [ff.F] aS 176 Tryz.f176 Tryz.func176 (LOk.fnT (l:= [aT Tryz.f176 0]) (by kernel_rfl) (.cons ab2 (.nil _))) aa4 (by
 intro vs es r h;unfold aa4 at h;split at h
 ·cases h;kernel_rfl
 ·cases h)
end Go.SX

namespace Go.SX
open Go.Proofs
set_option maxRecDepth 100000
def PC(st:List Int):Bool:=st.all fun x=>x==2
def mr(b:Int):(Int)→Nat ⊕ (Int)
 |y1=>(.inr (ajW b y1 b y1))
def lC(y2:List Int)(i:Nat):(Int)→kw
 |y1=>(((i + 1:Nat):Int),y1,y2)
def Mf:kw→Int
 |(_,y1,_)=>y1
theorem Wq(y2:List Int)(y1:Int)(hn:y2.length≤9223372036854775807):
  ff.fin ((1:Int),y1,y2)=true∧ff.res ((1:Int),y1,y2)=((aU (mr) 0 (y2.drop 1) 0 y1).1,(lC y2) (aU (mr) 0 (y2.drop 1) 0 y1).2.1 (aU (mr) 0 (y2.drop 1) 0 y1).2.2):=by
 have key:=ff.along (lC y2) Mf (mr) 0 (fun _ _=>True) (y2.drop 1) y1 (by trivial) (by simp only [ff,lC,List.length_drop];omega) (fun i b a hb hI=> ?_) (fun a hI=> ?_)
 ·exact key
 ·obtain y1:=a
  rw [List.getElem?_drop,Nat.add_comm]at hb
  have hlt:=(List.getElem?_eq_some_iff.1 hb).1
  have hget: ∀ d,Option.getD y2[i + 1]? d=b:=fun d=>by rw [hb];rfl
  have hw:IntKind.i64.wrap (((i + 1:Nat):Int) + 1)=((i + 1 + 1:Nat):Int):=by rw [aj (by omega) (by omega)];omega
  have hdec:ltI ((i + 1:Nat):Int) (y2.length:Int)=true:=et (by omega)
  have hnn:leI (0:Int) ((i + 1:Nat):Int)=true:=dk (by omega)
  have hltd:ltN (i + 1) y2.length=true:=fJ hlt
  refine⟨?_,?_,?_,?_⟩
  ·simp only [vd,ww,Dp,Dq,Dr,Ds,At,ff,LT.nds,allT,lC,Int.toNat_natCast,hdec,hnn,hltd,hget,cond_true]
  ·simp only [vd,ww,Dp,Dq,Dr,Ds,At,ff,LT.each,lC,Mf,hw,and_self]
  ·simp only [vd,ww,Dp,Dq,Dr,Ds,At,ff,LT.fn,lC,Mf,mr,Int.toNat_natCast,hdec,hnn,hltd,hget,cond_true,Bool.cond_self]
  ·exact fun _ _=>trivial
 ·obtain y1:=a
  simp only [vd,ww,Dp,Dq,Dr,Ds,At,ff,LT.out,lC,List.length_drop];rw [show ltI (((y2.length - 1) + 1:Nat):Int) (y2.length:Int)=false from aj8 (by omega)];rfl
def dC(b:Int):(Unit)→Nat ⊕ (Unit)
 |_=>(bif(wT b)then(.inl 0)else(.inr ()))
def bO(y2:List Int)(i:Nat):(Unit)→bm
 |_=>((i:Int),(↑y2.length:Int),y2)
def oa:bm→Unit
 |(_,_,_)=>()
theorem Kq(y2:List Int) (hn:y2.length≤9223372036854775807):
  aG.fin ((0:Int),(↑y2.length:Int),y2)=true∧aG.res ((0:Int),(↑y2.length:Int),y2)=((aU (dC) 1 y2 0 ()).1,(bO y2) (aU (dC) 1 y2 0 ()).2.1 (aU (dC) 1 y2 0 ()).2.2):=by
 have key:=aG.along (bO y2) oa (dC) 1 (fun _ _=>True) y2 () (by trivial) (by simp only [aG,bO];omega) (fun i b a hb hI=> ?_) (fun a hI=> ?_)
 ·exact key
 ·obtain⟨⟩:=a
  have hlt:=(List.getElem?_eq_some_iff.1 hb).1
  have hget: ∀ d,Option.getD y2[i]? d=b:=fun d=>by rw [hb];rfl
  have hw:=vu hlt hn
  have hdec:ltI (i:Int) (y2.length:Int)=true:=et (by omega)
  have hnn:leI (0:Int) (i:Int)=true:=dk (by omega)
  have hltd:ltN i y2.length=true:=fJ hlt
  refine⟨?_,?_,?_,?_⟩
  ·simp [gA,gB,gC,gD,gE,gF,fZ,aG,LT.nds,allT,bO,hdec,hnn,hltd,hget]
  ·simp [gA,gB,gC,gD,gE,gF,fZ,aG,LT.each,bO,oa,hw]
  ·simp only [gA,gB,gC,gD,gE,gF,fZ,aG,LT.fn,bO,oa,dC,Int.toNat_natCast,hdec,hnn,hltd,hget,cond_true,Bool.cond_self]
  ·exact fun _ _=>trivial
 ·obtain⟨⟩:=a
  simp [gA,gB,gC,gD,gE,gF,fZ,aG,LT.out,bO]
theorem DU{st:List Int}:areR st=true↔(1≤st.length∧st.length≤12)∧ ∀ v∈st,0≤v∧v≤2:=by
 simp only [areR,Bool.and_eq_true,re,List.all_eq_true]
 constructor
 ·rintro⟨h1,h2⟩;exact⟨by omega,h2⟩
 ·rintro⟨h1,h2⟩;exact⟨by omega,h2⟩
theorem aqa(st:List Int)(h:areR st=true):(zX st==2)=PC st∧IR st=true:=by
 obtain⟨h1,h2⟩:=DU.1 h
 match st,h1,h2 with
 |x::xs,h1,h2=>
  have hx:=h2 x (by simp)
  obtain⟨w1,w2⟩:=Wq (x::xs) x (by omega)
  rw [ko (f:=mr) (g:=fun m b=>bif ltI b m then b else m) (fun b a=>by simp only [mr,ajt])]at w2
  have e0:Option.getD (x::xs)[Int.toNat 0]? 0=x:=rfl
  refine⟨?_,?_⟩
  ·simp only [zX,GO,e0,w2,lC,List.drop_one,List.tail_cons]
   rw [ah3 xs x hx.1 hx.2 fun y hy=>h2 y (by simp [hy])]
   rfl
  ·simp only [IR,GO,e0,w1,allT]
   simp
theorem ak0(st:List Int)(h:leN st.length 9223372036854775807=true):Sa st=PC st∧Sb st=true:=by
 obtain⟨w1,w2⟩:=Kq st (c8.1 h)
 rw [kU (P:=fun v=>v !=2) (j:=0) (fun v=>by simp only [dC,wT])]at w2
 have e5:(st.any fun v=>v !=2)= !PC st:=by simp [PC,List.all_eq_not_any_not,bne]
 rw [e5]at w2
 simp only [Sa,Sb,pm,pn,qV,qW,kS,w1,w2,allT,bO]
 cases PC st with
 |true=>exact⟨rfl,rfl⟩
 |false=>
  simp only [Bool.not_false,cond_true,Nat.beq]
  rw [dk (by omega)];simp
def YY:List SV→List Entry→Option Out
 | [.one ⟨false,[.ref 0]⟩],[.row false 2 (.int .i64) x0]=>some ⟨(.one ⟨false,[(.val (.bool (PC x0)))]⟩),[(.row false 2 asg x0)],[],[leN x0.length 9223372036854775807]⟩
 |_,_=>none
def Bu:PF Tryz.prog:=PF.alt aih YY (by
 intro args es o h hnd;unfold YY at h;split at h
 ·rename_i x0
  cases h
  have hnd:=gO hnd
  have hh:=ak0 x0 hnd
  obtain⟨e0,en⟩:=hh
  exact jO rfl (gn en) (by simp only [e0] <;> rfl) rfl rfl
 ·cases h)
end Go.SX

namespace Go.SX
open Go.Proofs
set_option maxRecDepth 100000
def ac(x0 x3:Int)(x4:List Int):Bool:=Option.getD x4[Int.toNat x3]? (0:Int)==IntKind.wrap .i64 (IntKind.wrap .i64 ((3:Int) * IntKind.wrap .i64 (x0 - (1:Int))) + (1:Int))
def bT(x3:Int)(x4:List Int):Bool:=allT [leI (0:Int) x3,ltI x3 (↑x4.length:Int),ltN x3.toNat x4.length]
def tL:List SV→List Entry→Option Out
 | [.one ⟨true,[.val (.int .i64 x0),.ref 0,.ref 1,.ref 2,.ref 3,.val (.int .i64 _x1),.ref 4,.ref 5,.val (.int .i64 _x2)]⟩,.one ⟨false,[.val (.int .i64 x3)]⟩],[.row false 2 (.int .i64) x4,.row false 169 (.pair (.int .i64) (.pair (.int .i64) (.int .i64))) x5,.row false 24 (.sl 2 (.int .i64)) x6,.row false 100 (.pair (.int .i64) (.pair (.int .i64) (.int .i64))) x7,.row false 173 (.pair (.int .i64) (.int .i64)) x8,.row false 176 (.pair (.int .i64) (.int .i64)) x9]=>some ⟨(.one ⟨false,[(.val (.bool (ac x0 x3 x4)))]⟩),[(.row false 2 asg x4),(.row false 169 ase x5),(.row false 24 (CTy.sl (2:TypeId) asg) x6),(.row false 100 ase x7),(.row false 173 asf x8),(.row false 176 asf x9)],[],[(bT x3 x4)]⟩
 |_,_=>none
def cD:PF Tryz.prog:=PF.ofG Tryz.prog [] [] aS 63 Tryz.f63 Tryz.func63 (fun c _=>LOk.nil c) tL (by
 intro vs es r h;unfold tL at h;split at h
 ·cases h;kernel_rfl
 ·cases h)
end Go.SX

namespace Go.SX
open Go.Proofs
set_option maxRecDepth 100000
theorem jT(x:Option (List Int)):Option.getD x (AK (CTy.sl (2:TypeId) asg))=x.getD []:=rfl
end Go.SX
