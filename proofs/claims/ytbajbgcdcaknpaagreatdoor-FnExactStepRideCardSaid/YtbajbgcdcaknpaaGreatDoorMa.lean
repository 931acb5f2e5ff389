/- What functions of the program come to, and what that says in plain words: part 1. -/
import Derived.Test.YtbajbgcdcaknpaaGreatDoorProg
import Derived.Shelf.SortM.Plain
import Derived.Ground.SlgmProg
import Derived.Shelf.SlGeneric
import Derived.Test.YtbajbgcdcaknpaaGreatDoorTXh
import Derived.Test.YtbajbgcdcaknpaaGreatDoorTXs
set_option linter.unusedSimpArgs false
set_option linter.unusedVariables false
namespace Go.SX
open Go.Proofs
abbrev asW:CTy:=(CTy.pair (CTy.int IntKind.i64) (CTy.pair (CTy.int IntKind.i64) (CTy.pair (CTy.pair (CTy.int IntKind.i64) (CTy.int IntKind.i64)) (CTy.pair (CTy.int IntKind.i64) (CTy.pair (CTy.int IntKind.i64) CTy.bool)))))
abbrev asX:CTy:=(CTy.pair (CTy.int IntKind.i64) (CTy.pair (CTy.int IntKind.i64) (CTy.int IntKind.i64)))
abbrev asY:CTy:=(CTy.pair (CTy.int IntKind.i64) (CTy.int IntKind.i64))
abbrev asZ:CTy:=(CTy.int IntKind.i64)
end Go.SX
namespace Go.Proofs
open Go.Shelf
def Tryz.laysSort_ren:Go.Shelf.Ren:=⟨fun | 5=>235 | 8=>241 | 7=>240 | 19=>252 | 20=>253 | 10=>243 | 11=>244 | 12=>245 | 13=>246 | 14=>247 | 15=>248 | 16=>249 | 17=>250 | 18=>251 | 30=>254 | 31=>255 | 32=>256 | 33=>257 | 34=>258 | 35=>259 | 40=>260 | n=>n,fun | 23=>24 | 25=>2 | 3=>3 | 32=>124 | 22=>24 | 0=>0 | 44=>227 | 46=>57 | 4=>4 | 36=>252 | 35=>251 | 41=>256 | 5=>5 | 9=>9 | 53=>260 | 57=>264 | 63=>266 | 64=>267 | n=>n,fun | n=>n⟩
theorem Tryz.laysSort:Go.Proofs.SlLaysM.n5 Tryz.prog Tryz.laysSort_ren:= {
 mixed:=by kernel_rfl
 f5:=⟨Tryz.f235.name,by decide,Tryz.func235.trans (congrArg some (by kernel_rfl))⟩
 f7:=⟨Tryz.f240.name,by decide,Tryz.func240.trans (congrArg some (by kernel_rfl))⟩
 f8:=Tryz.func241.trans (congrArg some (by kernel_rfl))
 f10:=⟨Tryz.f243.name,by decide,Tryz.func243.trans (congrArg some (by kernel_rfl))⟩
 f11:=⟨Tryz.f244.name,by decide,Tryz.func244.trans (congrArg some (by kernel_rfl))⟩
 f12:=⟨Tryz.f245.name,by decide,Tryz.func245.trans (congrArg some (by kernel_rfl))⟩
 f13:=⟨Tryz.f246.name,by decide,Tryz.func246.trans (congrArg some (by kernel_rfl))⟩
 f14:=⟨Tryz.f247.name,by decide,Tryz.func247.trans (congrArg some (by kernel_rfl))⟩
 f15:=⟨Tryz.f248.name,by decide,Tryz.func248.trans (congrArg some (by kernel_rfl))⟩
 f16:=⟨Tryz.f249.name,by decide,Tryz.func249.trans (congrArg some (by kernel_rfl))⟩
 f17:=⟨Tryz.f250.name,by decide,Tryz.func250.trans (congrArg some (by kernel_rfl))⟩
 f18:=⟨Tryz.f251.name,by decide,Tryz.func251.trans (congrArg some (by kernel_rfl))⟩
 f19:=Tryz.func252.trans (congrArg some (by kernel_rfl))
 f20:=Tryz.func253.trans (congrArg some (by kernel_rfl))
 f30:=⟨Tryz.f254.name,by decide,Tryz.func254.trans (congrArg some (by kernel_rfl))⟩
 f31:=Tryz.func255.trans (congrArg some (by kernel_rfl))
 f32:=Tryz.func256.trans (congrArg some (by kernel_rfl))
 f33:=⟨Tryz.f257.name,by decide,Tryz.func257.trans (congrArg some (by kernel_rfl))⟩
 f34:=⟨Tryz.f258.name,by decide,Tryz.func258.trans (congrArg some (by kernel_rfl))⟩
 f35:=⟨Tryz.f259.name,by decide,Tryz.func259.trans (congrArg some (by kernel_rfl))⟩
 f40:=⟨Tryz.f260.name,by decide,Tryz.func260.trans (congrArg some (by kernel_rfl))⟩
 t0:=Tryz.underlying0
 a0:=Tryz.isAgg0
 z0:=Tryz.sizeOf0
 v0:=Tryz.zeroValue0
 t3:=Tryz.underlying3
 a3:=Tryz.isAgg3
 z3:=Tryz.sizeOf3
 v3:=Tryz.zeroValue3
 t4:=Tryz.underlying4
 a4:=Tryz.isAgg4
 z4:=Tryz.sizeOf4
 v4:=Tryz.zeroValue4
 t5:=Tryz.underlying5
 a5:=Tryz.isAgg5
 z5:=Tryz.sizeOf5
 v5:=Tryz.zeroValue5
 t9:=Tryz.underlying9
 a9:=Tryz.isAgg9
 z9:=Tryz.sizeOf9
 v9:=Tryz.zeroValue9
 t22:=Tryz.underlying24
 a22:=Tryz.isAgg24
 z22:=Tryz.sizeOf24
 v22:=Tryz.zeroValue24
 t23:=Tryz.underlying24
 a23:=Tryz.isAgg24
 z23:=Tryz.sizeOf24
 v23:=Tryz.zeroValue24
 t25:=Tryz.underlying2
 a25:=Tryz.isAgg2
 z25:=Tryz.sizeOf2
 v25:=Tryz.zeroValue2
 t32:=Tryz.underlying124
 a32:=Tryz.isAgg124
 z32:=Tryz.sizeOf124
 v32:=Tryz.zeroValue124
 t35:=Tryz.underlying251
 a35:=Tryz.isAgg251
 z35:=Tryz.sizeOf251
 v35:=Tryz.zeroValue251
 t36:=Tryz.underlying252
 a36:=Tryz.isAgg252
 z36:=Tryz.sizeOf252
 v36:=Tryz.zeroValue252
 t41:=Tryz.underlying256
 a41:=Tryz.isAgg256
 z41:=Tryz.sizeOf256
 v41:=Tryz.zeroValue256
 t44:=Tryz.underlying227
 a44:=Tryz.isAgg227
 z44:=Tryz.sizeOf227
 v44:=Tryz.zeroValue227
 t46:=Tryz.underlying57
 a46:=Tryz.isAgg57
 z46:=Tryz.sizeOf57
 v46:=Tryz.zeroValue57
 t53:=Tryz.underlying260
 a53:=Tryz.isAgg260
 z53:=Tryz.sizeOf260
 v53:=Tryz.zeroValue260
 t57:=Tryz.underlying264
 a57:=Tryz.isAgg264
 z57:=Tryz.sizeOf264
 v57:=Tryz.zeroValue264
 t63:=Tryz.underlying266
 a63:=Tryz.isAgg266
 z63:=Tryz.sizeOf266
 v63:=Tryz.zeroValue266
 t64:=Tryz.underlying267
 a64:=Tryz.isAgg267
 z64:=Tryz.sizeOf267
 v64:=Tryz.zeroValue267 }
end Go.Proofs

namespace Go.SX
open Go.Proofs
set_option maxRecDepth 100000
theorem ar:Tryz.prog.follows .mixedOrders=true:=by kernel_rfl
def aI(x0 x1 x2:Int):Bool:=bif leI x1 x0 then leI x0 x2 else false
def age:List SV→List Entry→Option Out
 | [.one ⟨false,[.val (.int .i64 x0)]⟩,.one ⟨false,[.val (.int .i64 x1)]⟩,.one ⟨false,[.val (.int .i64 x2)]⟩],[]=>some ⟨(.one ⟨false,[(.val (.bool (aI x0 x1 x2)))]⟩),[],[],[]⟩
 |_,_=>none
def fg:PF Tryz.prog:=PF.ofG Tryz.prog [] [] ar 73 Tryz.f73 Tryz.func73 (fun c _=>LOk.nil c) age (by
 intro vs es r h;unfold age at h;split at h
 ·cases h;kernel_rfl
 ·cases h)
abbrev jb:=Int×Int×List Int
section
variable (y0 y1:Int)(y2:List Int)
def ua:Bool:=ltI y0 (↑y2.length:Int)
def zk:Bool:=leI (0:Int) y0
def zl:Bool:=ltN y0.toNat y2.length
def zm:Bool:= !aI (Option.getD y2[Int.toNat y0]? (0:Int)) (0:Int) (IntKind.wrap .i64 (IntKind.wrap .i64 ((3:Int) * y1) - (1:Int)))
def zn:Int:=IntKind.wrap .i64 (y0 + (1:Int))
end
def ab2:jb→List (Nat×SV)
 |(y0,_,_)=> [(3,(.one ⟨false,[(.val (.int .i64 y0))]⟩)),(1,(.one ⟨false,[(.ptr 0 0)]⟩))]
def abS:jb→List (Nat×Entry)
 |(_,y1,y2)=> [(0,(.box 26 [(.val (.int .i64 y1)),(.ref 1)])),(1,(.row false 2 asZ y2))]
def acx:Nat→jb→List (Nat×SV)
 |0,(_,_,_)=> [(2,(.one ⟨false,[(.val (.bool false))]⟩))]
 |_,(_,_,_)=> []
def acn:Nat→jb→List (Nat×Entry)
 |0,(_,y1,y2)=> [(0,(.box 26 [(.val (.int .i64 y1)),(.ref 1)])),(1,(.row false 2 asZ y2))]
 |_,(_,y1,y2)=> [(0,(.box 26 [(.val (.int .i64 y1)),(.ref 1)])),(1,(.row false 2 asZ y2))]
def wC:jb→LT jb
 |(y0,y1,y2)=> .ite (ua y0 y2) (.need [(zk y0),(ua y0 y2),(zl y0 y2)] (.ite (zm y0 y1 y2) (.ext 0 [(0,0),(1,1)]) (.nrm ((zn y0),y1,y2) [(0,0),(1,1)]))) (.ext 1 [(0,0),(1,1)])
def JR(s:St):Option jb:=
 (match s.look 3 with
 |some ⟨none,(.one ⟨false,[(.val (.int .i64 y0))]⟩)⟩=>
 (match s.look 1 with
 |some ⟨none,(.one ⟨false,[(.ptr 128 0)]⟩)⟩=>
 (match s.ent 128 with
 |some (.box 26 [(.val (.int .i64 y1)),(.ref 0)])=>
 (match s.ent 0 with
 |some (.row false 2 (.int .i64) y2)=>
 some (y0,y1,y2)
 |_=>none)
 |_=>none)
 |_=>none)
 |_=>none)
def cZ:Lp jb where
 h:=⟨[15,16,17,18,19,22,23,24,25,26,27,28,29,30,31,32,2,20,21,3],[0,1],[],[]⟩
 JL:=ab2
 JE:=abS
 XL:=acx
 XE:=acn
 q:=fun j=>match j with | 0=> .ret | _=> .exit 0
 tags:= [0,1]
 lt:=wC
 fuel:=fun(y0,y1,y2)=>y0.natAbs + y1.natAbs + y2.length
 fix:=fun(_,y1,y2) (y0,_,_)=>(y0,y1,y2)
 σ:= [(0,128),(1,0)]
 rd:=JR
theorem Zy:LoopOk Tryz.prog (fun k=>Nat.blt k Tryz.f84.ntmps) cZ.F (ay Tryz.f84 0):=by
 refine Lp.ok (tbl:= [fg]) (lf:= []) ar cZ (by kernel_rfl) (LOk.nil _) (fun _=>rfl) (fun j _=>by unfold cZ;match j with | 0=>rfl | _ + 1=>rfl) ?_ ?_ ?_ ?_ (fun _=>rfl) ?_
 ·intro x;obtain⟨y0,y1,y2⟩:=x;kernel_rfl
 ·intro x;obtain⟨y0,y1,y2⟩:=x;kernel_rfl
 ·intro s x h
  have h:JR s=some x:=h
  unfold JR at h
  repeat' split at h
  all_goals cases h
  exact⟨aa (by assumption) rfl (aa (by assumption) rfl (rfl)),ac rfl (by assumption) rfl (ac rfl (by assumption) rfl (rfl))⟩
 ·intro x;obtain⟨y0,y1,y2⟩:=x;kernel_rfl
 ·intro x z;obtain⟨y0,y1,y2⟩:=x;exact(And.intro (And.intro trivial rfl) trivial)
section
variable (x0:Int)(x1:List Int)
def Oy:Bool:=bif !aI x0 (2:Int) (8:Int)then true else !aI (↑x1.length:Int) (1:Int) (4:Int)
def Oz:Int×Int×List Int:=((0:Int),x0,x1)
def QG:Bool:=bif Oy x0 x1 then false else bif Nat.beq ((Lp.res cZ (Oz x0 x1)).1) (0:Nat)then false else true
def QH:Bool:=allT [Oy x0 x1||Lp.fin cZ (Oz x0 x1)]
end
def Xo:List SV→List Entry→Option Out
 | [.one ⟨true,[.val (.int .i64 x0),.ref 0]⟩],[.row false 2 (.int .i64) x1]=>some ⟨(.one ⟨false,[(.val (.bool (QG x0 x1)))]⟩),[(.row false 2 asZ x1)],[],[(QH x0 x1)]⟩
 |_,_=>none
def aiB:PF Tryz.prog:=PF.ofG Tryz.prog [fg] [cZ.F] ar 84 Tryz.f84 Tryz.func84 (LOk.fnT (l:= [ay Tryz.f84 0]) (by kernel_rfl) (.cons Zy (.nil _))) Xo (by
 intro vs es r h;unfold Xo at h;split at h
 ·cases h;kernel_rfl
 ·cases h)
def aX(x0 x1 x2:Int):Bool:=bif leI x1 x0 then leI x0 x2 else false
def aex:List SV→List Entry→Option Out
 | [.one ⟨false,[.val (.int .i64 x0)]⟩,.one ⟨false,[.val (.int .i64 x1)]⟩,.one ⟨false,[.val (.int .i64 x2)]⟩],[]=>some ⟨(.one ⟨false,[(.val (.bool (aX x0 x1 x2)))]⟩),[],[],[]⟩
 |_,_=>none
def gt:PF Tryz.prog:=PF.ofG Tryz.prog [] [] ar 69 Tryz.f69 Tryz.func69 (fun c _=>LOk.nil c) aex (by
 intro vs es r h;unfold aex at h;split at h
 ·cases h;kernel_rfl
 ·cases h)
def KD(x0:Int):Bool:=aX x0 (2:Int) (8:Int)
def Sr:List SV→List Entry→Option Out
 | [.one ⟨false,[.val (.int .i64 x0)]⟩],[]=>some ⟨(.one ⟨false,[(.val (.bool (KD x0)))]⟩),[],[],[]⟩
 |_,_=>none
def aej:PF Tryz.prog:=PF.ofG Tryz.prog [gt] [] ar 68 Tryz.f68 Tryz.func68 (fun c _=>LOk.nil c) Sr (by
 intro vs es r h;unfold Sr at h;split at h
 ·cases h;kernel_rfl
 ·cases h)
def cN(x0:List Int):Int:=(↑x0.length:Int)
def Ss:List SV→List Entry→Option Out
 | [.one ⟨false,[.ref 0]⟩],[.row false 2 (.int .i64) x0]=>some ⟨(.one ⟨false,[(.val (.int .i64 (cN x0)))]⟩),[(.row false 2 asZ x0)],[],[]⟩
 |_,_=>none
def aF:PF Tryz.prog:=PF.ofG Tryz.prog [] [] ar 79 Tryz.f79 Tryz.func79 (fun c _=>LOk.nil c) Ss (by
 intro vs es r h;unfold Ss at h;split at h
 ·cases h;kernel_rfl
 ·cases h)
def BT(x0 x1:Int):Bool:= !aX x0 (0:Int) (IntKind.wrap .i64 (IntKind.wrap .i64 ((3:Int) * x1) - (1:Int)))
def Po:List SV→List Entry→Option Out
 | [(.one ⟨false,[(.val (.int .i64 x0))]⟩),(.one ⟨false,[(.ptr 0 0)]⟩)],[(.box 26 [(.val (.int .i64 x1)),(.ref 1)]),(.row false 2 (.int .i64) x2)]=>some ⟨(.one ⟨false,[(.val (.bool (BT x0 x1)))]⟩),[(.box 26 [(.val (.int .i64 x1)),(.ref 1)]),(.row false 2 asZ x2)],[],[]⟩
 |_,_=>none
def qk:PF Tryz.prog:=PF.ofG Tryz.prog [gt] [] ar 162 Tryz.f162 Tryz.func162 (fun c _=>LOk.nil c) Po (by
 intro vs es r h;unfold Po at h;split at h
 ·cases h;kernel_rfl
 ·cases h)
abbrev be:=Int×Int×Int×List Int
section
variable (y0 y1 y2:Int)(y3:List Int)
def gV:Bool:=ltI y0 y1
def gW:Bool:=leI (0:Int) y0
def gX:Bool:=ltI y0 (↑y3.length:Int)
def gY:Bool:=ltN y0.toNat y3.length
def gZ:Bool:=BT (Option.getD y3[Int.toNat y0]? (0:Int)) y2
def g8:Int:=IntKind.wrap .i64 (y0 + (1:Int))
end
def Kd:be→List (Nat×SV)
 |(y0,y1,_,_)=> [(8,(.one ⟨false,[(.val (.int .i64 y0))]⟩)),(7,(.one ⟨false,[(.val (.int .i64 y1))]⟩)),(1,(.one ⟨false,[(.clo 162 [0])]⟩)),(0,(.one ⟨false,[(.ref 1)]⟩))]
def Kc:be→List (Nat×Entry)
 |(_,_,y2,y3)=> [(0,(.box 26 [(.val (.int .i64 y2)),(.ref 1)])),(1,(.row false 2 asZ y3))]
def Kf:Nat→be→List (Nat×SV)
 |0,(y0,_,_,_)=> [(4,(.one ⟨false,[(.val (.int .i64 y0))]⟩))]
 |_,(_,_,_,_)=> []
def Ke:Nat→be→List (Nat×Entry)
 |0,(_,_,y2,y3)=> [(0,(.box 26 [(.val (.int .i64 y2)),(.ref 1)])),(1,(.row false 2 asZ y3))]
 |_,(_,_,y2,y3)=> [(0,(.box 26 [(.val (.int .i64 y2)),(.ref 1)])),(1,(.row false 2 asZ y3))]
def gD:be→LT be
 |(y0,y1,y2,y3)=> .ite (gV y0 y1) (.need [(gW y0),(gX y0 y3),(gY y0 y3)] (.ite (gZ y0 y2 y3) (.ext 0 [(0,0),(1,1)]) (.nrm ((g8 y0),y1,y2,y3) [(0,0),(1,1)]))) (.ext 1 [(0,0),(1,1)])
def pv(s:St):Option be:=
 (match s.look 8 with
 |some ⟨none,(.one ⟨false,[(.val (.int .i64 y0))]⟩)⟩=>
 (match s.look 7 with
 |some ⟨none,(.one ⟨false,[(.val (.int .i64 y1))]⟩)⟩=>
 (match s.look 1 with
 |some ⟨none,(.one ⟨false,[(.clo 162 [1])]⟩)⟩=>
 (match s.look 0 with
 |some ⟨none,(.one ⟨false,[(.ref 0)]⟩)⟩=>
 (match s.ent 1 with
 |some (.box 26 [(.val (.int .i64 y2)),(.ref 0)])=>
 (match s.ent 0 with
 |some (.row false 2 (.int .i64) y3)=>
 some (y0,y1,y2,y3)
 |_=>none)
 |_=>none)
 |_=>none)
 |_=>none)
 |_=>none)
 |_=>none)
def ax:Lp be where
 h:=⟨[9,10,5,11,12,13,14,15,16,17,4,18,8],[0,1],[],[]⟩
 JL:=Kd
 JE:=Kc
 XL:=Kf
 XE:=Ke
 q:=fun j=>match j with | 0=> .ret | _=> .exit 0
 tags:= [0,1]
 lt:=gD
 fuel:=fun(y0,y1,y2,y3)=>y0.natAbs + y1.natAbs + y2.natAbs + y3.length
 fix:=fun(_,y1,y2,y3) (y0,_,_,_)=>(y0,y1,y2,y3)
 σ:= [(0,1),(1,0)]
 rd:=pv
theorem IH:LoopOk Tryz.prog (fun k=>Nat.blt k Tryz.f211.ntmps) ax.F (ay Tryz.f211 0):=by
 refine Lp.ok (tbl:= [qk,PF.lend qk,PF.fz qk]) (lf:= []) ar ax (by kernel_rfl) (LOk.nil _) (fun _=>rfl) (fun j _=>by unfold ax;match j with | 0=>rfl | _ + 1=>rfl) ?_ ?_ ?_ ?_ (fun _=>rfl) ?_
 ·intro x;obtain⟨y0,y1,y2,y3⟩:=x;kernel_rfl
 ·intro x;obtain⟨y0,y1,y2,y3⟩:=x;kernel_rfl
 ·intro s x h
  have h:pv s=some x:=h
  unfold pv at h
  repeat' split at h
  all_goals cases h
  exact⟨aa (by assumption) rfl (aa (by assumption) rfl (aa (by assumption) rfl (aa (by assumption) rfl (rfl)))),ac rfl (by assumption) rfl (ac rfl (by assumption) rfl (rfl))⟩
 ·intro x;obtain⟨y0,y1,y2,y3⟩:=x;kernel_rfl
 ·intro x z;obtain⟨y0,y1,y2,y3⟩:=x;exact(And.intro (And.intro trivial rfl) trivial)
section
variable (x0:List Int)(x1:Int)
def lU:Int×Int×Int×List Int:=((0:Int),(↑x0.length:Int),x1,x0)
def rC:Bool:=Nat.beq ((Lp.res ax (lU x0 x1)).1) (0:Nat)
def sE:Int:=bif rC x0 x1 then ((Lp.res ax (lU x0 x1)).2).1else(-1:Int)
def sF:Int:=bif rC x0 x1 then x1 else x1
def sG:Bool:=allT [Lp.fin ax (lU x0 x1)]
end
def Ch:List SV→List Entry→Option Out
 | [(.one ⟨false,[(.ref 0)]⟩),(.one ⟨false,[(.clo 162 [1])]⟩)],[(.row false 2 (.int .i64) x0),(.box 26 [(.val (.int .i64 x1)),(.ref 0)])]=>some ⟨(.one ⟨false,[(.val (.int .i64 (sE x0 x1)))]⟩),[(.row false 2 asZ x0),(.box 26 [(.val (.int .i64 (sF x0 x1))),(.ref 0)])],[],[(sG x0 x1)]⟩
 |_,_=>none
def sD:PF Tryz.prog:=PF.ofG Tryz.prog [qk,PF.lend qk,PF.fz qk] [ax.F] ar 211 Tryz.f211 Tryz.func211 (LOk.fnT (l:= [ay Tryz.f211 0]) (by kernel_rfl) (.cons IH (.nil _))) Ch (by
 intro vs es r h;unfold Ch at h;split at h
 ·cases h;kernel_rfl
 ·cases h)
section
variable (x0:List Int)(x1:Int)
def kw:Bool:=leI (0:Int) (sE x0 x1)
def zi:Int:=sF x0 x1
def kx:Bool:=allT [sG x0 x1]
end
def yf:List SV→List Entry→Option Out
 | [(.one ⟨false,[(.ref 0)]⟩),(.one ⟨false,[(.clo 162 [1])]⟩)],[(.row false 2 (.int .i64) x0),(.box 26 [(.val (.int .i64 x1)),(.ref 0)])]=>some ⟨(.one ⟨false,[(.val (.bool (kw x0 x1)))]⟩),[(.row false 2 asZ x0),(.box 26 [(.val (.int .i64 (zi x0 x1))),(.ref 0)])],[],[(kx x0 x1)]⟩
 |_,_=>none
def pT:PF Tryz.prog:=PF.ofG Tryz.prog [sD,PF.lend sD,PF.fz sD] [] ar 158 Tryz.f158 Tryz.func158 (fun c _=>LOk.nil c) yf (by
 intro vs es r h;unfold yf at h;split at h
 ·cases h;kernel_rfl
 ·cases h)
section
variable (x0:Int)(x1:List Int)
def NF:Bool:=bif KD x0 then aX (cN x1) (1:Int) (4:Int)else false
def PL:Bool:=bif NF x0 x1 then !kw x1 x0 else false
def PM:Bool:=allT [!(NF x0 x1&&true)||kx x1 x0]
end
def WX:List SV→List Entry→Option Out
 | [.one ⟨true,[.val (.int .i64 x0),.ref 0]⟩],[.row false 2 (.int .i64) x1]=>some ⟨(.one ⟨false,[(.val (.bool (PL x0 x1)))]⟩),[(.row false 2 asZ x1)],[],[(PM x0 x1)]⟩
 |_,_=>none
def ail:PF Tryz.prog:=PF.ofG Tryz.prog [aej,gt,aF,PF.lend aF,PF.fz aF,pT,PF.lend pT,PF.fz pT] [] ar 75 Tryz.f75 Tryz.func75 (fun c _=>LOk.nil c) WX (by
 intro vs es r h;unfold WX at h;split at h
 ·cases h;kernel_rfl
 ·cases h)
def BB(x0:List Int):Bool:=allT [ltN (0:Nat) x0.length,false||leN ((0:Nat) + List.length x0) (9223372036854775807:Nat),false||leN (((0:Nat) + List.length x0) * (8:Nat)) (140737488355328:Nat)]
def IW:List SV→List Entry→Option Out
 | [.one ⟨false,[.ref 0]⟩],[.row false 2 (.int .i64) x0]=>some ⟨(.one ⟨false,[(.ref 1)]⟩),[(.row false 2 asZ x0)],[(.row true 2 asZ x0)],[(BB x0)]⟩
 |_,_=>none
def Uq:PF Tryz.prog:=PF.ofG Tryz.prog [] [] ar 151 Tryz.f151 Tryz.func151 (fun c _=>LOk.nil c) IW (by
 intro vs es r h;unfold IW at h;split at h
 ·cases h;kernel_rfl
 ·cases h)
def WQ(x0:List Int):Bool:=allT [leN ((0:Nat) + List.length x0) (9223372036854775807:Nat),leN (((0:Nat) + List.length x0) * (8:Nat)) (140737488355328:Nat)]
def aeI:List SV→List Entry→Option Out
 | [.one ⟨false,[.ref 0]⟩],[.row false 2 (.int .i64) x0]=>some ⟨(.one ⟨false,[(.ref 1)]⟩),[(.row false 2 asZ x0)],[(.row true 2 asZ x0)],[(WQ x0)]⟩
 |_,_=>none
def ali:PF Tryz.prog:=PF.ofG Tryz.prog [] [] ar 209 Tryz.f209 Tryz.func209 (fun c _=>LOk.nil c) aeI (by
 intro vs es r h;unfold aeI at h;split at h
 ·cases h;kernel_rfl
 ·cases h)
section
variable (x0 x1 x2:Int)
def Hx:Bool:=IntKind.wrap .i64 (Int.tdiv x1 (3:Int))==x2
def Ma:Bool:=Int.tmod x1 (3:Int)==(2:Int)
def UK:Bool:=bif Hx x1 x2 then true else bif Ma x1 then Int.tmod (IntKind.wrap .i64 (IntKind.wrap .i64 (Int.tdiv x1 (3:Int)) + (1:Int))) x0==x2 else false
def OG:Bool:=allT [!(!Hx x1 x2&&true)||neI (3:Int) (0:Int),!(Ma x1&&(!Hx x1 x2&&true))||neI (3:Int) (0:Int),!(Ma x1&&(!Hx x1 x2&&true))||neI x0 (0:Int)]
end
def abw:List SV→List Entry→Option Out
 | [.one ⟨false,[.val (.int .i64 x0)]⟩,.one ⟨false,[.val (.int .i64 x1)]⟩,.one ⟨false,[.val (.int .i64 x2)]⟩],[]=>some ⟨(.one ⟨false,[(.val (.bool (UK x0 x1 x2)))]⟩),[],[],[(OG x0 x1 x2)]⟩
 |_,_=>none
def akE:PF Tryz.prog:=PF.ofG Tryz.prog [] [] ar 219 Tryz.f219 Tryz.func219 (fun c _=>LOk.nil c) abw (by
 intro vs es r h;unfold abw at h;split at h
 ·cases h;kernel_rfl
 ·cases h)
def lg(x1:Int)(x2:List Int):Bool:=aX x1 (0:Int) (IntKind.wrap .i64 (cN x2 - (1:Int)))
def sJ:List SV→List Entry→Option Out
 | [.one ⟨true,[.val (.int .i64 _x0),.ref 0]⟩,.one ⟨false,[.val (.int .i64 x1)]⟩],[.row false 2 (.int .i64) x2]=>some ⟨(.one ⟨false,[(.val (.bool (lg x1 x2)))]⟩),[(.row false 2 asZ x2)],[],[]⟩
 |_,_=>none
def Gp:PF Tryz.prog:=PF.ofG Tryz.prog [gt,aF,PF.lend aF,PF.fz aF] [] ar 183 Tryz.f183 Tryz.func183 (fun c _=>LOk.nil c) sJ (by
 intro vs es r h;unfold sJ at h;split at h
 ·cases h;kernel_rfl
 ·cases h)
def Qg(x0:Int)(x1:List Int):Int:=IntKind.wrap .i64 (x0 - (↑x1.length:Int))
def Sd(x0:Int)(x1:List Int):Int:=bif ltI (Qg x0 x1) (0:Int)then(-1:Int)else Qg x0 x1
def aaa:List SV→List Entry→Option Out
 | [.one ⟨false,[.ref 0]⟩,.one ⟨false,[.val (.int .i64 x0)]⟩],[.row false 2 (.int .i64) x1]=>some ⟨(.one ⟨false,[(.val (.int .i64 (Sd x0 x1)))]⟩),[(.row false 2 asZ x1)],[],[]⟩
 |_,_=>none
def ajB:PF Tryz.prog:=PF.ofG Tryz.prog [] [] ar 188 Tryz.f188 Tryz.func188 (fun c _=>LOk.nil c) aaa (by
 intro vs es r h;unfold aaa at h;split at h
 ·cases h;kernel_rfl
 ·cases h)
abbrev jH:=Int×List Int×List Int
section
variable (y0:Int)(y1 y2:List Int)
def vc:Bool:=ltI y0 (↑y1.length:Int)
def vd:Bool:=leI (0:Int) y0
def Bk:Bool:=ltN y0.toNat y1.length
def Bl:Bool:=ltI y0 (↑y2.length:Int)
def Bm:Bool:=ltN y0.toNat y2.length
def Bn:Int:=IntKind.wrap .i64 (y0 + (1:Int))
def Bo:List Int:=List.set y2 y0.toNat (Option.getD y1[Int.toNat y0]? (0:Int))
end
def adO:jH→List (Nat×SV)
 |(y0,_,_)=> [(4,(.one ⟨false,[(.val (.int .i64 y0))]⟩)),(0,(.one ⟨false,[(.ref 0)]⟩)),(3,(.one ⟨false,[(.ref 1)]⟩))]
def adF:jH→List (Nat×Entry)
 |(_,y1,y2)=> [(0,(.row false 2 asZ y1)),(1,(.row true 2 asZ y2))]
def ad6:Nat→jH→List (Nat×SV)
 |_,(_,_,_)=> []
def adX:Nat→jH→List (Nat×Entry)
 |_,(_,y1,y2)=> [(0,(.row false 2 asZ y1)),(1,(.row true 2 asZ y2))]
def zd:jH→LT jH
 |(y0,y1,y2)=> .ite (vc y0 y1) (.need [(vd y0),(vc y0 y1),(Bk y0 y1),(vd y0),(Bl y0 y2),(Bm y0 y2)] (.nrm ((Bn y0),y1,(Bo y0 y1 y2)) [(0,0),(1,1)])) (.ext 0 [(0,0),(1,1)])
def KU(s:St):Option jH:=
 (match s.look 4 with
 |some ⟨none,(.one ⟨false,[(.val (.int .i64 y0))]⟩)⟩=>
 (match s.look 0 with
 |some ⟨none,(.one ⟨false,[(.ref 0)]⟩)⟩=>
 (match s.look 3 with
 |some ⟨none,(.one ⟨false,[(.ref 320)]⟩)⟩=>
 (match s.ent 0 with
 |some (.row false 2 (.int .i64) y1)=>
 (match s.ent 320 with
 |some (.row true 2 (.int .i64) y2)=>
 some (y0,y1,y2)
 |_=>none)
 |_=>none)
 |_=>none)
 |_=>none)
 |_=>none)
def eP:Lp jH where
 h:=⟨[8,9,10,11,14,15,16,17,18,19,20,12,13,4],[0,1],[],[]⟩
 JL:=adO
 JE:=adF
 XL:=ad6
 XE:=adX
 q:=fun j=>match j with | _=> .exit 0
 tags:= [0]
 lt:=zd
 fuel:=fun(y0,y1,y2)=>y0.natAbs + y1.length + y2.length
 fix:=fun(_,y1,_) (y0,_,y2)=>(y0,y1,y2)
 σ:= [(0,0),(1,320)]
 rd:=KU
theorem aba:LoopOk Tryz.prog (fun k=>Nat.blt k Tryz.f189.ntmps) eP.F (ay Tryz.f189 0):=by
 refine Lp.ok (tbl:= []) (lf:= []) ar eP (by kernel_rfl) (LOk.nil _) (fun _=>rfl) (fun _ _=>rfl) ?_ ?_ ?_ ?_ (fun _=>rfl) ?_
 ·intro x;obtain⟨y0,y1,y2⟩:=x;kernel_rfl
 ·intro x;obtain⟨y0,y1,y2⟩:=x;kernel_rfl
 ·intro s x h
  have h:KU s=some x:=h
  unfold KU at h
  repeat' split at h
  all_goals cases h
  exact⟨aa (by assumption) rfl (aa (by assumption) rfl (aa (by assumption) rfl (rfl))),ac rfl (by assumption) rfl (ac rfl (by assumption) rfl (rfl))⟩
 ·intro x;obtain⟨y0,y1,y2⟩:=x;kernel_rfl
 ·intro x z;obtain⟨y0,y1,y2⟩:=x;exact(And.intro rfl trivial)
section
variable (x0:List Int)
def Kv:Int×List Int×List Int:=((0:Int),x0,List.replicate (Int.toNat (↑x0.length:Int)) (0:Int))
def LQ:List Int:=(Lp.res eP (Kv x0)).2.2.2
def LR:Bool:=allT [leI (0:Int) (↑x0.length:Int),leI (↑x0.length:Int) (↑x0.length:Int),leI ((↑(8:Nat):Int) * (↑x0.length:Int)) (281474976710656:Int),leI (↑x0.length:Int) (9223372036854775807:Int),Lp.fin eP (Kv x0)]
end
def aab:List SV→List Entry→Option Out
 | [.one ⟨false,[.ref 0]⟩],[.row false 2 (.int .i64) x0]=>some ⟨(.one ⟨false,[(.ref 1)]⟩),[(.row false 2 asZ x0)],[(.row true 2 asZ (LQ x0))],[(LR x0)]⟩
 |_,_=>none
def ajC:PF Tryz.prog:=PF.ofG Tryz.prog [] [eP.F] ar 189 Tryz.f189 Tryz.func189 (LOk.fnT (l:= [ay Tryz.f189 0]) (by kernel_rfl) (.cons aba (.nil _))) aab (by
 intro vs es r h;unfold aab at h;split at h
 ·cases h;kernel_rfl
 ·cases h)
abbrev jG:=Int×List Int×List Int
section
variable (y0:Int)(y1 y2:List Int)
def u5:Bool:=ltI y0 (↑y1.length:Int)
def u6:Bool:=leI (0:Int) y0
def AY:Bool:=ltN y0.toNat y1.length
def AZ:Bool:=ltI y0 (↑y2.length:Int)
def Ba:Bool:=ltN y0.toNat y2.length
def Bb:Bool:=Option.getD y1[Int.toNat y0]? (0:Int)!=Option.getD y2[Int.toNat y0]? (0:Int)
def Bc:Int:=IntKind.wrap .i64 (y0 + (1:Int))
end
def adN:jG→List (Nat×SV)
 |(y0,_,_)=> [(5,(.one ⟨false,[(.val (.int .i64 y0))]⟩)),(0,(.one ⟨false,[(.ref 0)]⟩)),(1,(.one ⟨false,[(.ref 1)]⟩))]
def adE:jG→List (Nat×Entry)
 |(_,y1,y2)=> [(0,(.row false 2 asZ y1)),(1,(.row false 2 asZ y2))]
def ad5:Nat→jG→List (Nat×SV)
 |0,(_,_,_)=> [(4,(.one ⟨false,[(.val (.bool false))]⟩))]
 |_,(_,_,_)=> []
def adW:Nat→jG→List (Nat×Entry)
 |0,(_,y1,y2)=> [(0,(.row false 2 asZ y1)),(1,(.row false 2 asZ y2))]
 |_,(_,y1,y2)=> [(0,(.row false 2 asZ y1)),(1,(.row false 2 asZ y2))]
def zc:jG→LT jG
 |(y0,y1,y2)=> .ite (u5 y0 y1) (.need [(u6 y0),(u5 y0 y1),(AY y0 y1),(u6 y0),(AZ y0 y2),(Ba y0 y2)] (.ite (Bb y0 y1 y2) (.ext 0 [(0,0),(1,1)]) (.nrm ((Bc y0),y1,y2) [(0,0),(1,1)]))) (.ext 1 [(0,0),(1,1)])
def KT(s:St):Option jG:=
 (match s.look 5 with
 |some ⟨none,(.one ⟨false,[(.val (.int .i64 y0))]⟩)⟩=>
 (match s.look 0 with
 |some ⟨none,(.one ⟨false,[(.ref 0)]⟩)⟩=>
 (match s.look 1 with
 |some ⟨none,(.one ⟨false,[(.ref 1)]⟩)⟩=>
 (match s.ent 0 with
 |some (.row false 2 (.int .i64) y1)=>
 (match s.ent 1 with
 |some (.row false 2 (.int .i64) y2)=>
 some (y0,y1,y2)
 |_=>none)
 |_=>none)
 |_=>none)
 |_=>none)
 |_=>none)
def dJ:Lp jG where
 h:=⟨[11,12,13,14,17,18,19,20,21,22,23,24,25,4,15,16,5],[0,1],[],[]⟩
 JL:=adN
 JE:=adE
 XL:=ad5
 XE:=adW
 q:=fun j=>match j with | 0=> .ret | _=> .exit 0
 tags:= [0,1]
 lt:=zc
 fuel:=fun(y0,y1,y2)=>y0.natAbs + y1.length + y2.length
 fix:=fun(_,y1,y2) (y0,_,_)=>(y0,y1,y2)
 σ:= [(0,0),(1,1)]
 rd:=KT
theorem aa9:LoopOk Tryz.prog (fun k=>Nat.blt k Tryz.f46.ntmps) dJ.F (ay Tryz.f46 0):=by
 refine Lp.ok (tbl:= []) (lf:= []) ar dJ (by kernel_rfl) (LOk.nil _) (fun _=>rfl) (fun j _=>by unfold dJ;match j with | 0=>rfl | _ + 1=>rfl) ?_ ?_ ?_ ?_ (fun _=>rfl) ?_
 ·intro x;obtain⟨y0,y1,y2⟩:=x;kernel_rfl
 ·intro x;obtain⟨y0,y1,y2⟩:=x;kernel_rfl
 ·intro s x h
  have h:KT s=some x:=h
  unfold KT at h
  repeat' split at h
  all_goals cases h
  exact⟨aa (by assumption) rfl (aa (by assumption) rfl (aa (by assumption) rfl (rfl))),ac rfl (by assumption) rfl (ac rfl (by assumption) rfl (rfl))⟩
 ·intro x;obtain⟨y0,y1,y2⟩:=x;kernel_rfl
 ·intro x z;obtain⟨y0,y1,y2⟩:=x;exact(And.intro (And.intro trivial rfl) trivial)
section
variable (x0 x1:List Int)
def Kq:Bool:=(↑x0.length:Int)!=(↑x1.length:Int)
def Kr:Int×List Int×List Int:=((0:Int),x0,x1)
def LK:Bool:=bif Kq x0 x1 then false else bif Nat.beq ((Lp.res dJ (Kr x0 x1)).1) (0:Nat)then false else true
def LL:Bool:=allT [Kq x0 x1||Lp.fin dJ (Kr x0 x1)]
end
def ZX:List SV→List Entry→Option Out
 | [.one ⟨false,[.ref 0]⟩,.one ⟨false,[.ref 1]⟩],[.row false 2 (.int .i64) x0,.row false 2 (.int .i64) x1]=>some ⟨(.one ⟨false,[(.val (.bool (LK x0 x1)))]⟩),[(.row false 2 asZ x0),(.row false 2 asZ x1)],[],[(LL x0 x1)]⟩
 |_,_=>none
def ajy:PF Tryz.prog:=PF.ofG Tryz.prog [] [dJ.F] ar 46 Tryz.f46 Tryz.func46 (LOk.fnT (l:= [ay Tryz.f46 0]) (by kernel_rfl) (.cons aa9 (.nil _))) ZX (by
 intro vs es r h;unfold ZX at h;split at h
 ·cases h;kernel_rfl
 ·cases h)
abbrev im:=Int×Int×List Int
section
variable (y0 y1:Int)(y2:List Int)
def rY:Bool:=ltI y0 (↑y2.length:Int)
def wj:Bool:=leI (0:Int) y0
def wk:Bool:=ltN y0.toNat y2.length
def wl:Int:=IntKind.wrap .i64 (y0 + (1:Int))
def wm:Int:=IntKind.wrap .i64 (y1 + (1:Int))
def wn:List Int:=List.set y2 y0.toNat y1
end
def aaK:im→List (Nat×SV)
 |(y0,y1,_)=> [(5,(.one ⟨false,[(.val (.int .i64 y0))]⟩)),(0,(.one ⟨false,[(.ref 0)]⟩)),(1,(.one ⟨false,[(.val (.int .i64 y1))]⟩))]
def aaC:im→List (Nat×Entry)
 |(_,_,y2)=> [(0,(.row true 2 asZ y2))]
def aa0:Nat→im→List (Nat×SV)
 |_,(_,y1,_)=> [(1,(.one ⟨false,[(.val (.int .i64 y1))]⟩))]
def aaS:Nat→im→List (Nat×Entry)
 |_,(_,_,y2)=> [(0,(.row true 2 asZ y2))]
def uK:im→LT im
 |(y0,y1,y2)=> .ite (rY y0 y2) (.need [(wj y0),(rY y0 y2),(wk y0 y2)] (.nrm ((wl y0),(wm y1),(wn y0 y1 y2)) [(0,0)])) (.ext 0 [(0,0)])
def Im(s:St):Option im:=
 (match s.look 5 with
 |some ⟨none,(.one ⟨false,[(.val (.int .i64 y0))]⟩)⟩=>
 (match s.look 0 with
 |some ⟨none,(.one ⟨false,[(.ref 0)]⟩)⟩=>
 (match s.look 1 with
 |some ⟨none,(.one ⟨false,[(.val (.int .i64 y1))]⟩)⟩=>
 (match s.ent 0 with
 |some (.row true 2 (.int .i64) y2)=>
 some (y0,y1,y2)
 |_=>none)
 |_=>none)
 |_=>none)
 |_=>none)
def dc:Lp im where
 h:=⟨[6,7,8,9,12,13,14,15,16,17,1,10,11,5],[0],[],[]⟩
 JL:=aaK
 JE:=aaC
 XL:=aa0
 XE:=aaS
 q:=fun j=>match j with | _=> .exit 0
 tags:= [0]
 lt:=uK
 fuel:=fun(y0,y1,y2)=>y0.natAbs + y1.natAbs + y2.length
 fix:=fun(_,_,_) (y0,y1,y2)=>(y0,y1,y2)
 σ:= [(0,0)]
 rd:=Im
theorem Yo:LoopOk Tryz.prog (fun k=>Nat.blt k Tryz.f48.ntmps) dc.F (ay Tryz.f48 0):=by
 refine Lp.ok (tbl:= []) (lf:= []) ar dc (by kernel_rfl) (LOk.nil _) (fun _=>rfl) (fun _ _=>rfl) ?_ ?_ ?_ ?_ (fun _=>rfl) ?_
 ·intro x;obtain⟨y0,y1,y2⟩:=x;kernel_rfl
 ·intro x;obtain⟨y0,y1,y2⟩:=x;kernel_rfl
 ·intro s x h
  have h:Im s=some x:=h
  unfold Im at h
  repeat' split at h
  all_goals cases h
  exact⟨aa (by assumption) rfl (aa (by assumption) rfl (aa (by assumption) rfl (rfl))),ac rfl (by assumption) rfl (rfl)⟩
 ·intro x;obtain⟨y0,y1,y2⟩:=x;kernel_rfl
 ·intro x z;obtain⟨y0,y1,y2⟩:=x;exact(And.intro rfl trivial)
section
variable (x0:Int)(x1:List Int)
def Bi:Int×Int×List Int:=((0:Int),x0,x1)
def Bj:Int×List Int:=(Lp.res dc (Bi x0 x1)).2.2
def Da:Int:=(Bj x0 x1).1
def Db:List Int:=(Bj x0 x1).2
def Dc:Bool:=allT [Lp.fin dc (Bi x0 x1)]
end
def VD:List SV→List Entry→Option Out
 | [.one ⟨false,[.ref 0]⟩,.one ⟨false,[.val (.int .i64 x0)]⟩],[.row true 2 (.int .i64) x1]=>some ⟨(.one ⟨false,[(.val (.int .i64 (Da x0 x1)))]⟩),[(.row true 2 asZ (Db x0 x1))],[],[(Dc x0 x1)]⟩
 |_,_=>none
def ahi:PF Tryz.prog:=PF.ofG Tryz.prog [] [dc.F] ar 48 Tryz.f48 Tryz.func48 (LOk.fnT (l:= [ay Tryz.f48 0]) (by kernel_rfl) (.cons Yo (.nil _))) VD (by
 intro vs es r h;unfold VD at h;split at h
 ·cases h;kernel_rfl
 ·cases h)
abbrev il:=Int×Int×List Int
section
variable (y0 y1:Int)(y2:List Int)
def rS:Bool:=ltI y0 (↑y2.length:Int)
def wd:Bool:=leI (0:Int) y0
def we:Bool:=ltN y0.toNat y2.length
def wg:Bool:=Option.getD y2[Int.toNat y0]? (0:Int)!=y1
end
def rT:Int:=(-1:Int)
def wh(y0:Int):Int:=IntKind.wrap .i64 (y0 + (1:Int))
def wi(y1:Int):Int:=IntKind.wrap .i64 (y1 + (1:Int))
def aaJ:il→List (Nat×SV)
 |(y0,y1,_)=> [(5,(.one ⟨false,[(.val (.int .i64 y0))]⟩)),(0,(.one ⟨false,[(.ref 0)]⟩)),(1,(.one ⟨false,[(.val (.int .i64 y1))]⟩))]
def aaB:il→List (Nat×Entry)
 |(_,_,y2)=> [(0,(.row false 2 asZ y2))]
def aaZ:Nat→il→List (Nat×SV)
 |0,(_,_,_)=> [(4,(.one ⟨false,[(.val (.int .i64 (rT)))]⟩))]
 |_,(_,y1,_)=> [(1,(.one ⟨false,[(.val (.int .i64 y1))]⟩))]
def aaR:Nat→il→List (Nat×Entry)
 |0,(_,_,y2)=> [(0,(.row false 2 asZ y2))]
 |_,(_,_,y2)=> [(0,(.row false 2 asZ y2))]
def uJ:il→LT il
 |(y0,y1,y2)=> .ite (rS y0 y2) (.need [(wd y0),(rS y0 y2),(we y0 y2)] (.ite (wg y0 y1 y2) (.ext 0 [(0,0)]) (.nrm ((wh y0),(wi y1),y2) [(0,0)]))) (.ext 1 [(0,0)])
def Il(s:St):Option il:=
 (match s.look 5 with
 |some ⟨none,(.one ⟨false,[(.val (.int .i64 y0))]⟩)⟩=>
 (match s.look 0 with
 |some ⟨none,(.one ⟨false,[(.ref 0)]⟩)⟩=>
 (match s.look 1 with
 |some ⟨none,(.one ⟨false,[(.val (.int .i64 y1))]⟩)⟩=>
 (match s.ent 0 with
 |some (.row false 2 (.int .i64) y2)=>
 some (y0,y1,y2)
 |_=>none)
 |_=>none)
 |_=>none)
 |_=>none)
def bP:Lp il where
 h:=⟨[6,7,8,9,12,13,14,15,16,17,4,18,19,1,10,11,5],[0],[],[]⟩
 JL:=aaJ
 JE:=aaB
 XL:=aaZ
 XE:=aaR
 q:=fun j=>match j with | 0=> .ret | _=> .exit 0
 tags:= [0,1]
 lt:=uJ
 fuel:=fun(y0,y1,y2)=>y0.natAbs + y1.natAbs + y2.length
 fix:=fun(_,_,y2) (y0,y1,_)=>(y0,y1,y2)
 σ:= [(0,0)]
 rd:=Il
theorem Yn:LoopOk Tryz.prog (fun k=>Nat.blt k Tryz.f49.ntmps) bP.F (ay Tryz.f49 0):=by
 refine Lp.ok (tbl:= []) (lf:= []) ar bP (by kernel_rfl) (LOk.nil _) (fun _=>rfl) (fun j _=>by unfold bP;match j with | 0=>rfl | _ + 1=>rfl) ?_ ?_ ?_ ?_ (fun _=>rfl) ?_
 ·intro x;obtain⟨y0,y1,y2⟩:=x;kernel_rfl
 ·intro x;obtain⟨y0,y1,y2⟩:=x;kernel_rfl
 ·intro s x h
  have h:Il s=some x:=h
  unfold Il at h
  repeat' split at h
  all_goals cases h
  exact⟨aa (by assumption) rfl (aa (by assumption) rfl (aa (by assumption) rfl (rfl))),ac rfl (by assumption) rfl (rfl)⟩
 ·intro x;obtain⟨y0,y1,y2⟩:=x;kernel_rfl
 ·intro x z;obtain⟨y0,y1,y2⟩:=x;exact(And.intro (And.intro trivial rfl) trivial)
section
variable (x0:Int)(x1:List Int)
def Be:Int×Int×List Int:=((0:Int),x0,x1)
def CZ:Int:=bif Nat.beq ((Lp.res bP (Be x0 x1)).1) (0:Nat)then rT else ((Lp.res bP (Be x0 x1)).2.2).1
def Iw:Bool:=allT [Lp.fin bP (Be x0 x1)]
end
def VC:List SV→List Entry→Option Out
 | [.one ⟨false,[.ref 0]⟩,.one ⟨false,[.val (.int .i64 x0)]⟩],[.row false 2 (.int .i64) x1]=>some ⟨(.one ⟨false,[(.val (.int .i64 (CZ x0 x1)))]⟩),[(.row false 2 asZ x1)],[],[(Iw x0 x1)]⟩
 |_,_=>none
def ahh:PF Tryz.prog:=PF.ofG Tryz.prog [] [bP.F] ar 49 Tryz.f49 Tryz.func49 (LOk.fnT (l:= [ay Tryz.f49 0]) (by kernel_rfl) (.cons Yn (.nil _))) VC (by
 intro vs es r h;unfold VC at h;split at h
 ·cases h;kernel_rfl
 ·cases h)
end Go.SX

namespace Go.SX
open Go.Proofs
set_option maxRecDepth 100000
def blk(p:Int):Int:=Int.tdiv p 3
def phs(p:Int):Int:=Int.tmod p 3
def inR(a lo hi:Int):Bool:=leI lo a&&leI a hi
def isT(n:Int)(ps:List Int):Bool:=inR n 2 8&&inR ps.length 1 4&&ps.all fun p=>inR p 0 (3 * n - 1)
def YO(n p b:Int):Bool:=blk p==b||(phs p==2&&Int.tmod (blk p + 1) n==b)
def Zg(n:Int)(ps:List Int)(b:Int):Nat:=ps.countP fun p=>YO n p b
def eqL(xs ys:List Int):Bool:=decide (xs=ys)
theorem rh{a lo hi:Int}:inR a lo hi=true↔lo≤a∧a≤hi:=by simp [inR]
theorem ui(a lo hi:Int):(bif leI lo a then leI a hi else false)=inR a lo hi:=by
 unfold inR;cases leI lo a <;> rfl
theorem BU{n:Int}{ps:List Int}:isT n ps=true↔(2≤n∧n≤8)∧(1≤ps.length∧ps.length≤4)∧ ∀ p∈ps,0≤p∧p≤3 * n - 1:=by
 simp only [isT,Bool.and_eq_true,rh,List.all_eq_true]
 constructor
 ·rintro⟨⟨h1,h2⟩,h3⟩;exact⟨h1,by omega,h3⟩
 ·rintro⟨h1,h2,h3⟩;exact⟨⟨h1,by omega⟩,h3⟩
def tG(y1 b:Int):(Unit)→Nat ⊕ (Unit)
 |_=>(bif(!aI b (0:Int) (IntKind.wrap .i64 (IntKind.wrap .i64 ((3:Int) * y1) - (1:Int))))then(.inl 0)else(.inr ()))
def pd(y1:Int)(y2:List Int)(i:Nat):(Unit)→jb
 |_=>((i:Int),y1,y2)
def JG:jb→Unit
 |(_,_,_)=>()
theorem aer(y1:Int)(y2:List Int) (hn:y2.length≤9223372036854775807):
  cZ.fin ((0:Int),y1,y2)=true∧cZ.res ((0:Int),y1,y2)=((ag (tG y1) 1 y2 0 ()).1,(pd y1 y2) (ag (tG y1) 1 y2 0 ()).2.1 (ag (tG y1) 1 y2 0 ()).2.2):=by
 have key:=cZ.along (pd y1 y2) JG (tG y1) 1 (fun _ _=>True) y2 () (by trivial) (by simp only [cZ,pd];omega) (fun i b a hb hI=> ?_) (fun a hI=> ?_)
 ·exact key
 ·obtain⟨⟩:=a
  have hlt:=(List.getElem?_eq_some_iff.1 hb).1
  have hget: ∀ d,Option.getD y2[i]? d=b:=fun d=>by rw [hb];rfl
  have hw:=py hlt hn
  have hdec:ltI (i:Int) (y2.length:Int)=true:=ce (by omega)
  have hnn:leI (0:Int) (i:Int)=true:=bH (by omega)
  have hltd:ltN i y2.length=true:=cM hlt
  refine⟨?_,?_,?_,?_⟩
  ·simp [ua,zk,zl,zm,zn,wC,cZ,LT.nds,allT,pd,hdec,hnn,hltd,hget]
  ·simp [ua,zk,zl,zm,zn,wC,cZ,LT.each,pd,JG,hw]
  ·simp only [ua,zk,zl,zm,zn,wC,cZ,LT.fn,pd,JG,tG,Int.toNat_natCast,hdec,hnn,hltd,hget,cond_true,Bool.cond_self]
  ·exact fun _ _=>trivial
 ·obtain⟨⟩:=a
  simp [ua,zk,zl,zm,zn,wC,cZ,LT.out,pd]
def eM(y2 b:Int):(Unit)→Nat ⊕ (Unit)
 |_=>(bif(BT b y2)then(.inl 0)else(.inr ()))
def bK(y2:Int)(y3:List Int)(i:Nat):(Unit)→be
 |_=>((i:Int),(↑y3.length:Int),y2,y3)
def pu:be→Unit
 |(_,_,_,_)=>()
theorem La(y2:Int)(y3:List Int) (hn:y3.length≤9223372036854775807):
  ax.fin ((0:Int),(↑y3.length:Int),y2,y3)=true∧ax.res ((0:Int),(↑y3.length:Int),y2,y3)=((ag (eM y2) 1 y3 0 ()).1,(bK y2 y3) (ag (eM y2) 1 y3 0 ()).2.1 (ag (eM y2) 1 y3 0 ()).2.2):=by
 have key:=ax.along (bK y2 y3) pu (eM y2) 1 (fun _ _=>True) y3 () (by trivial) (by simp only [ax,bK];omega) (fun i b a hb hI=> ?_) (fun a hI=> ?_)
 ·exact key
 ·obtain⟨⟩:=a
  have hlt:=(List.getElem?_eq_some_iff.1 hb).1
  have hget: ∀ d,Option.getD y3[i]? d=b:=fun d=>by rw [hb];rfl
  have hw:=py hlt hn
  have hdec:ltI (i:Int) (y3.length:Int)=true:=ce (by omega)
  have hnn:leI (0:Int) (i:Int)=true:=bH (by omega)
  have hltd:ltN i y3.length=true:=cM hlt
  refine⟨?_,?_,?_,?_⟩
  ·simp [gV,gW,gX,gY,gZ,g8,gD,ax,LT.nds,allT,bK,hdec,hnn,hltd,hget]
  ·simp [gV,gW,gX,gY,gZ,g8,gD,ax,LT.each,bK,pu,hw]
  ·simp only [gV,gW,gX,gY,gZ,g8,gD,ax,LT.fn,bK,pu,eM,Int.toNat_natCast,hdec,hnn,hltd,hget,cond_true,Bool.cond_self]
  ·exact fun _ _=>trivial
 ·obtain⟨⟩:=a
  simp [gV,gW,gX,gY,gZ,g8,gD,ax,LT.out,bK]
def rv(y1:List Int)(b:Nat):(List Int)→Nat ⊕ (List Int)
 |y2=>(.inr (List.set y2 b (Option.getD y1[b]? (0:Int))))
def mK(y1:List Int)(i:Nat):(List Int)→jH
 |y2=>((i:Int),y1,y2)
def KM:jH→List Int
 |(_,_,y2)=>y2
theorem aga(y1 y2:List Int)(hn:y1.length≤9223372036854775807)(hl:y2.length=y1.length):
  eP.fin ((0:Int),y1,y2)=true∧eP.res ((0:Int),y1,y2)=((ag (rv y1) 0 (List.range y1.length) 0 y2).1,(mK y1) (ag (rv y1) 0 (List.range y1.length) 0 y2).2.1 (ag (rv y1) 0 (List.range y1.length) 0 y2).2.2):=by
 have key:=eP.along (mK y1) KM (rv y1) 0 (fun _ a=>a.length=y1.length) (List.range y1.length) y2 hl (by simp only [eP,mK,List.length_range];omega) (fun i b a hb hI=> ?_) (fun a hI=> ?_)
 ·exact key
 ·obtain y2:=a
  obtain⟨rfl,hlt⟩:=fU hb
  have hw:IntKind.i64.wrap ((b:Int) + 1)=((b + 1:Nat):Int):=by rw [aA (by omega) (by omega)];omega
  have hdec:ltI (b:Int) (y1.length:Int)=true:=ce (by omega)
  have hnn:leI (0:Int) (b:Int)=true:=bH (by omega)
  have hltd:ltN b y1.length=true:=cM (by omega)
  refine⟨?_,?_,?_,?_⟩
  ·simp [vc,vd,Bk,Bl,Bm,Bn,Bo,zd,eP,LT.nds,allT,mK,hdec,hnn,hltd,hI]
  ·simp [vc,vd,Bk,Bl,Bm,Bn,Bo,zd,eP,LT.each,mK,KM,hw,hI]
  ·simp only [vc,vd,Bk,Bl,Bm,Bn,Bo,zd,eP,LT.fn,mK,KM,rv,Int.toNat_natCast,hdec,cond_true]
  ·intro a' hf;simp only [rv,Sum.inr.injEq]at hf;subst hf;simpa using hI
 ·obtain y2:=a
  simp [vc,vd,Bk,Bl,Bm,Bn,Bo,zd,eP,LT.out,mK,List.length_range]
def Al(y1 y2:List Int)(b:Nat):(Unit)→Nat ⊕ (Unit)
 |_=>(bif(Option.getD y1[b]? (0:Int)!=Option.getD y2[b]? (0:Int))then(.inl 0)else(.inr ()))
def p7(y1 y2:List Int)(i:Nat):(Unit)→jG
 |_=>((i:Int),y1,y2)
def KL:jG→Unit
 |(_,_,_)=>()
theorem af9(y1 y2:List Int) (hn:y1.length≤9223372036854775807) (he:y2.length=y1.length):
  dJ.fin ((0:Int),y1,y2)=true∧dJ.res ((0:Int),y1,y2)=((ag (Al y1 y2) 1 (List.range y1.length) 0 ()).1,(p7 y1 y2) (ag (Al y1 y2) 1 (List.range y1.length) 0 ()).2.1 (ag (Al y1 y2) 1 (List.range y1.length) 0 ()).2.2):=by
 have key:=dJ.along (p7 y1 y2) KL (Al y1 y2) 1 (fun _ _=>True) (List.range y1.length) () (by trivial) (by simp only [dJ,p7,List.length_range];omega) (fun i b a hb hI=> ?_) (fun a hI=> ?_)
 ·exact key
 ·obtain⟨⟩:=a
  obtain⟨rfl,hlt⟩:=fU hb
  have hw:IntKind.i64.wrap ((b:Int) + 1)=((b + 1:Nat):Int):=by rw [aA (by omega) (by omega)];omega
  have hdec:ltI (b:Int) (y1.length:Int)=true:=ce (by omega)
  have hnn:leI (0:Int) (b:Int)=true:=bH (by omega)
  have hltd:ltN b y1.length=true:=cM (by omega)
  refine⟨?_,?_,?_,?_⟩
  ·simp [u5,u6,AY,AZ,Ba,Bb,Bc,zc,dJ,LT.nds,allT,p7,hdec,hnn,hltd,he]
  ·simp [u5,u6,AY,AZ,Ba,Bb,Bc,zc,dJ,LT.each,p7,KL,hw,he]
  ·simp only [u5,u6,AY,AZ,Ba,Bb,Bc,zc,dJ,LT.fn,p7,KL,Al,Int.toNat_natCast,hdec,cond_true]
  ·exact fun _ _=>trivial
 ·obtain⟨⟩:=a
  simp [u5,u6,AY,AZ,Ba,Bb,Bc,zc,dJ,LT.out,p7,List.length_range]
def om(b:Nat):(Int×List Int)→Nat ⊕ (Int×List Int)
 |(y1,y2)=>(.inr ((IntKind.wrap .i64 (y1 + (1:Int))),(List.set y2 b y1)))
def iS(i:Nat):(Int×List Int)→im
 |(y1,y2)=>((i:Int),y1,y2)
def Id:im→Int×List Int
 |(_,y1,y2)=>(y1,y2)
theorem adl(y1:Int)(y2:List Int)(n:Nat)(hl:y2.length=n)(hn:n≤9223372036854775807):
  dc.fin ((0:Int),y1,y2)=true∧dc.res ((0:Int),y1,y2)=((ag (om) 0 (List.range n) 0 (y1,y2)).1,(iS) (ag (om) 0 (List.range n) 0 (y1,y2)).2.1 (ag (om) 0 (List.range n) 0 (y1,y2)).2.2):=by
 have key:=dc.along (iS) Id (om) 0 (fun _ a=>a.2.length=n) (List.range n) (y1,y2) hl (by simp only [dc,iS,List.length_range];omega) (fun i b a hb hI=> ?_) (fun a hI=> ?_)
 ·exact key
 ·obtain⟨y1,y2⟩:=a
  obtain⟨rfl,hlt⟩:=fU hb
  have hI0:y2.length=n:=hI
  have hw:IntKind.i64.wrap ((b:Int) + 1)=((b + 1:Nat):Int):=by rw [aA (by omega) (by omega)];omega
  have hdec:ltI (b:Int) (y2.length:Int)=true:=ce (by omega)
  have hnn:leI (0:Int) (b:Int)=true:=bH (by omega)
  have hltd:ltN b y2.length=true:=cM (by omega)
  refine⟨?_,?_,?_,?_⟩
  ·simp [rY,wj,wk,wl,wm,wn,uK,dc,LT.nds,allT,iS,hdec,hnn,hltd]
  ·simp [rY,wj,wk,wl,wm,wn,uK,dc,LT.each,iS,Id,hw]
  ·simp only [rY,wj,wk,wl,wm,wn,uK,dc,LT.fn,iS,Id,om,Int.toNat_natCast,hdec,hnn,hltd,cond_true,Bool.cond_self]
  ·intro a' hf;simp only [om,Sum.inr.injEq]at hf;subst hf;simp [hI0]
 ·obtain⟨y1,y2⟩:=a
  have hI0:y2.length=n:=hI
  simp [rY,wj,wk,wl,wm,wn,uK,dc,LT.out,iS,hI0,List.length_range]
def rN(b:Int):(Int)→Nat ⊕ (Int)
 |y1=>(bif(b !=y1)then(.inl 0)else(.inr (IntKind.wrap .i64 (y1 + (1:Int)))))
def kn(y2:List Int)(i:Nat):(Int)→il
 |y1=>((i:Int),y1,y2)
def Ic:il→Int
 |(_,y1,_)=>y1
theorem RB(y2:List Int)(y1:Int)(hn:y2.length≤9223372036854775807):
  bP.fin ((0:Int),y1,y2)=true∧bP.res ((0:Int),y1,y2)=((ag (rN) 1 y2 0 y1).1,(kn y2) (ag (rN) 1 y2 0 y1).2.1 (ag (rN) 1 y2 0 y1).2.2):=by
 have key:=bP.along (kn y2) Ic (rN) 1 (fun _ _=>True) y2 y1 (by trivial) (by simp only [bP,kn];omega) (fun i b a hb hI=> ?_) (fun a hI=> ?_)
 ·exact key
 ·obtain y1:=a
  have hlt:=(List.getElem?_eq_some_iff.1 hb).1
  have hget: ∀ d,Option.getD y2[i]? d=b:=fun d=>by rw [hb];rfl
  have hw:=py hlt hn
  have hdec:ltI (i:Int) (y2.length:Int)=true:=ce (by omega)
  have hnn:leI (0:Int) (i:Int)=true:=bH (by omega)
  have hltd:ltN i y2.length=true:=cM hlt
  refine⟨?_,?_,?_,?_⟩
  ·simp [rS,wd,we,wg,rT,wh,wi,uJ,bP,LT.nds,allT,kn,hdec,hnn,hltd,hget]
  ·simp [rS,wd,we,wg,rT,wh,wi,uJ,bP,LT.each,kn,Ic,hw]
  ·simp only [rS,wd,we,wg,rT,wh,wi,uJ,bP,LT.fn,kn,Ic,rN,Int.toNat_natCast,hdec,hnn,hltd,hget,cond_true,Bool.cond_self]
  ·exact fun _ _=>trivial
 ·obtain y1:=a
  simp [rS,wd,we,wg,rT,wh,wi,uJ,bP,LT.out,kn]
theorem aqk(xs:List Int)(hn:leN xs.length 1048576=true):LQ xs=xs∧LR xs=true:=by
 have hn:=cu.1 hn
 have hr:(List.replicate (Int.toNat (xs.length:Int)) (0:Int)).length=xs.length:=by simp
 obtain⟨w1,w2⟩:=aga xs (List.replicate (Int.toNat (xs.length:Int)) (0:Int)) (by omega) hr
 have hc:=Nr (xs:=xs) (d:=(0:Int)) (g:=fun x=>x) (f:=rv xs) (e:=0) (fun b a=>rfl) hr
 rw [hc]at w2
 refine⟨?_,?_⟩
 ·simp only [Kv,LQ,LR,w2,mK];simp
 ·simp only [Kv,LQ,LR,w1,allT];simp;omega
def aap:List SV→List Entry→Option Out
 | [.one ⟨false,[.ref 0]⟩],[.row false 2 (.int .i64) x0]=>some ⟨(.one ⟨false,[(.ref 1)]⟩),[(.row false 2 asZ x0)],[(.row true 2 asZ x0)],[leN x0.length 1048576]⟩
 |_,_=>none
def rm:PF Tryz.prog:=PF.alt ajC aap (by
 intro args es o h hnd;unfold aap at h;split at h
 ·rename_i x0
  cases h
  have hnd:=cf hnd
  have hh:=aqk x0 hnd
  obtain⟨e0,en⟩:=hh
  exact eT rfl (cg en) rfl rfl (by simp only [e0] <;> rfl)
 ·cases h)
theorem apK(xs ys:List Int)(hn:leN xs.length 9223372036854775807=true):LK xs ys=eqL xs ys∧LL xs ys=true:=by
 have hn:=cu.1 hn
 unfold eqL
 by_cases hl:ys.length=xs.length
 ·obtain⟨w1,w2⟩:=af9 xs ys hn hl
  have ha:=ahM (d:=(0:Int)) hl (P:=fun b=>Option.getD xs[b]? 0 !=Option.getD ys[b]? 0) (fun b=>by simp [bne,BEq.beq])
  rw [kf (P:=fun b=>Option.getD xs[b]? 0 !=Option.getD ys[b]? 0) (j:=0) (fun b=>rfl),ha]at w2
  simp only [Kq,Kr,LK,LL,w1,w2,allT]
  by_cases he:xs=ys
  ·subst he;simp;decide
  ·simp [he,hl]
 ·have hne:xs≠ys:=fun h=>hl (by rw [h])
  simp [Kq,Kr,LK,LL,allT,hne]
  omega
def aal:List SV→List Entry→Option Out
 | [.one ⟨false,[.ref 0]⟩,.one ⟨false,[.ref 1]⟩],[.row false 2 (.int .i64) x0,.row false 2 (.int .i64) x1]=>some ⟨(.one ⟨false,[(.val (.bool (eqL x0 x1)))]⟩),[(.row false 2 asZ x0),(.row false 2 asZ x1)],[],[leN x0.length 9223372036854775807]⟩
 |_,_=>none
def rj:PF Tryz.prog:=PF.alt ajy aal (by
 intro args es o h hnd;unfold aal at h;split at h
 ·rename_i x0 x1
  cases h
  have hnd:=cf hnd
  have hh:=apK x0 x1 hnd
  obtain⟨e0,en⟩:=hh
  exact eT rfl (cg en) (by simp only [e0] <;> rfl) rfl rfl
 ·cases h)
def Pc(k:Int)(n:Nat):Bool:=leI 0 k&&leI (k + n) 9223372036854775807
theorem Bx{k:Int}{n:Nat}:Pc k n=true↔0≤k∧k + n≤9223372036854775807:=by simp [Pc]
theorem anB(k:Int)(xs:List Int)(h:Pc k xs.length=true):Da k xs=k + xs.length∧Db k xs=tF k xs.length∧Dc k xs=true:=by
 obtain⟨h0,h1⟩:=Bx.1 h
 obtain⟨w1,w2⟩:=adl k xs xs.length rfl (by omega)
 rw [aql (f:=om) (fun b k xs=>rfl) h0 h1]at w2
 refine⟨?_,?_,?_⟩
 ·simp only [Bi,Bj,Da,Db,Dc,w2,iS]
 ·simp only [Bi,Bj,Da,Db,Dc,w2,iS]
 ·simp only [Bi,Bj,Da,Db,Dc,w1,allT,cond_true]
def VO:List SV→List Entry→Option Out
 | [.one ⟨false,[.ref 0]⟩,.one ⟨false,[.val (.int .i64 x0)]⟩],[.row true 2 (.int .i64) x1]=>some ⟨(.one ⟨false,[(.val (.int .i64 (x0 + (x1.length:Int))))]⟩),[(.row true 2 asZ (tF x0 x1.length))],[],[Pc x0 x1.length]⟩
 |_,_=>none
def nj:PF Tryz.prog:=PF.alt ahi VO (by
 intro args es o h hnd;unfold VO at h;split at h
 ·rename_i x0 x1
  cases h
  have hnd:=cf hnd
  have hh:=anB x0 x1 hnd
  obtain⟨e0,e1,en⟩:=hh
  exact eT rfl (cg en) (by simp only [e0] <;> rfl) (by simp only [e1] <;> rfl) rfl
 ·cases h)
def Rk(k:Int)(xs:List Int):Int:=CZ k xs
theorem anl(k:Int)(n:Nat)(h:Pc k n=true):Rk k (tF k n)=k + n:=by
 obtain⟨h0,h1⟩:=Bx.1 h
 obtain⟨w1,w2⟩:=RB (tF k n) k (by rw [Lu];omega)
 rw [al5 (f:=rN) (fun b k=>rfl) h0 h1]at w2
 simp only [Rk,Be,CZ,Iw,w2,kn]
 rfl
theorem ang(k:Int)(xs:List Int)(h:leN xs.length 9223372036854775807=true):CZ k xs=Rk k xs∧Iw k xs=true:=by
 obtain⟨w1,w2⟩:=RB xs k (cu.1 h)
 exact⟨rfl,by simp only [Be,CZ,Iw,w1,allT,cond_true]⟩
def VN:List SV→List Entry→Option Out
 | [.one ⟨false,[.ref 0]⟩,.one ⟨false,[.val (.int .i64 x0)]⟩],[.row false 2 (.int .i64) x1]=>some ⟨(.one ⟨false,[(.val (.int .i64 (Rk x0 x1)))]⟩),[(.row false 2 asZ x1)],[],[leN x1.length 9223372036854775807]⟩
 |_,_=>none
def ni:PF Tryz.prog:=PF.alt ahh VN (by
 intro args es o h hnd;unfold VN at h;split at h
 ·rename_i x0 x1
  cases h
  have hnd:=cf hnd
  have hh:=ang x0 x1 hnd
  obtain⟨e0,en⟩:=hh
  exact eT rfl (cg en) (by simp only [e0] <;> rfl) rfl rfl
 ·cases h)
def szV(k:Int)(xs:List Int):Int:=bif ltI (k - xs.length) 0 then -1 else k - xs.length
theorem aqh(k:Int)(xs:List Int)(h:(leN xs.length 9223372036854775807&&(leI (-1) k&&leI k 1048576))=true):Sd k xs=szV k xs:=by
 simp only [Bool.and_eq_true,cu,Td]at h
 simp only [Qg,Sd,szV]
 rw [aA (by omega) (by omega)]
def aao:List SV→List Entry→Option Out
 | [.one ⟨false,[.ref 0]⟩,.one ⟨false,[.val (.int .i64 x0)]⟩],[.row false 2 (.int .i64) x1]=>some ⟨(.one ⟨false,[(.val (.int .i64 (szV x0 x1)))]⟩),[(.row false 2 asZ x1)],[],[leN x1.length 9223372036854775807&&(leI (-1) x0&&leI x0 1048576)]⟩
 |_,_=>none
def rl:PF Tryz.prog:=PF.alt ajB aao (by
 intro args es o h hnd;unfold aao at h;split at h
 ·rename_i x0 x1
  cases h
  have hnd:=cf hnd
  have hh:=aqh x0 x1 hnd
  have e0:=hh
  exact eT rfl (fun _ h=>by cases h) (by simp only [e0] <;> rfl) rfl rfl
 ·cases h)
theorem ajb{n:Int}(h:2≤n∧n≤8):IntKind.i64.wrap (IntKind.i64.wrap (3 * n) - 1)=3 * n - 1:=by
 rw [aA (x:=3 * n) (by omega) (by omega),aA (by omega) (by omega)]
theorem ao8(n:Int)(ps:List Int):QG n ps=isT n ps∧QH n ps=true:=by
 simp only [Oy,Oz,QG,QH,aI,ui,isT]
 cases h1:inR n 2 8 with
 |false=>simp [allT]
 |true=>
  cases h2:inR (ps.length:Int) 1 4 with
  |false=>simp [allT]
  |true=>
   have h2':=rh.1 h2
   obtain⟨w1,w2⟩:=aer n ps (by omega)
   rw [kf (P:=fun b=> !inR b 0 (3 * n - 1)) (j:=0) (fun b=>by simp only [tG,ajb (rh.1 h1),aI,ui])]at w2
   have e5:(ps.any fun b=> !inR b 0 (3 * n - 1))= !(ps.all fun b=>inR b 0 (3 * n - 1)):=by simp [List.all_eq_not_any_not]
   rw [e5]at w2
   simp only [w1,w2,allT]
   cases (ps.all fun b=>inR b 0 (3 * n - 1)) <;> simp <;> rfl
def XQ:List SV→List Entry→Option Out
 | [.one ⟨true,[.val (.int .i64 x0),.ref 0]⟩],[.row false 2 (.int .i64) x1]=>some ⟨(.one ⟨false,[(.val (.bool (isT x0 x1)))]⟩),[(.row false 2 asZ x1)],[],[]⟩
 |_,_=>none
def zU:PF Tryz.prog:=PF.alt aiB XQ (by
 intro args es o h hnd;unfold XQ at h;split at h
 ·rename_i x0 x1
  cases h
  have hh:=ao8 x0 x1
  obtain⟨e0,en⟩:=hh
  exact eT rfl (cg en) (by simp only [e0] <;> rfl) rfl rfl
 ·cases h)
theorem am7(n:Int)(h:2≤n∧n≤8)(ps:List Int)(hn:ps.length≤9223372036854775807):
  kw ps n=(ps.any fun b=> !inR b 0 (3 * n - 1))∧kx ps n=true:=by
 obtain⟨w1,w2⟩:=La n ps hn
 rw [kf (P:=fun b=> !inR b 0 (3 * n - 1)) (j:=0) (fun b=>by simp only [eM,BT,ajb h,aX,ui])]at w2
 simp only [kw,zi,kx,lU,rC,sE,sF,sG,w1,w2,allT,cond_true,and_true,bK]
 cases (ps.any fun b=> !inR b 0 (3 * n - 1))with
 |true=>exact bH (Int.natCast_nonneg _)
 |false=>rfl
theorem aoI(n:Int)(ps:List Int):PL n ps=isT n ps∧PM n ps=true:=by
 simp only [NF,PL,PM,KD,aX,cN,ui,isT]
 cases h1:inR n 2 8 with
 |false=>simp [allT]
 |true=>
  cases h2:inR (ps.length:Int) 1 4 with
  |false=>simp [allT]
  |true=>
   have h2':=rh.1 h2
   obtain⟨c1,c2⟩:=am7 n (rh.1 h1) ps (by omega)
   simp only [c1,c2,allT]
   simp [List.all_eq_not_any_not]
def Xz:List SV→List Entry→Option Out
 | [.one ⟨true,[.val (.int .i64 x0),.ref 0]⟩],[.row false 2 (.int .i64) x1]=>some ⟨(.one ⟨false,[(.val (.bool (isT x0 x1)))]⟩),[(.row false 2 asZ x1)],[],[]⟩
 |_,_=>none
def zQ:PF Tryz.prog:=PF.alt ail Xz (by
 intro args es o h hnd;unfold Xz at h;split at h
 ·rename_i x0 x1
  cases h
  have hh:=aoI x0 x1
  obtain⟨e0,en⟩:=hh
  exact eT rfl (cg en) (by simp only [e0] <;> rfl) rfl rfl
 ·cases h)
def KA(ps:List Int)(t:Int):Bool:=inR t 0 ((ps.length:Int) - 1)
theorem XZ{ps:List Int}{t:Int}:KA ps t=true↔0≤t∧t < ps.length:=by
 rw [KA,rh];omega
theorem anf(t:Int)(ps:List Int)(h:leN ps.length 9223372036854775807=true):lg t ps=KA ps t:=by
 have h:=cu.1 h
 simp only [lg,aX,cN,KA,ui]
 rw [aA (x:=(ps.length:Int) - 1) (by omega) (by omega)]
def sK:List SV→List Entry→Option Out
 | [.one ⟨true,[.val (.int .i64 _x0),.ref 0]⟩,.one ⟨false,[.val (.int .i64 x1)]⟩],[.row false 2 (.int .i64) x2]=>some ⟨(.one ⟨false,[(.val (.bool (KA x2 x1)))]⟩),[(.row false 2 asZ x2)],[],[leN x2.length 9223372036854775807]⟩
 |_,_=>none
def lh:PF Tryz.prog:=PF.alt Gp sK (by
 intro args es o h hnd;unfold sK at h;split at h
 ·rename_i _x0 x1 x2
  cases h
  have hnd:=cf hnd
  have hh:=anf x1 x2 hnd
  have e0:=hh
  exact eT rfl (fun _ h=>by cases h) (by simp only [e0] <;> rfl) rfl rfl
 ·cases h)
theorem aqp(xs:List Int)(h:(leN 1 xs.length&&leN xs.length 1048576)=true):BB xs=true:=by
 simp only [Bool.and_eq_true,cu]at h
 simp [BB,allT]
 omega
def Ja:List SV→List Entry→Option Out
 | [.one ⟨false,[.ref 0]⟩],[.row false 2 (.int .i64) x0]=>some ⟨(.one ⟨false,[(.ref 1)]⟩),[(.row false 2 asZ x0)],[(.row true 2 asZ x0)],[leN 1 x0.length&&leN x0.length 1048576]⟩
 |_,_=>none
def aj:PF Tryz.prog:=PF.alt Uq Ja (by
 intro args es o h hnd;unfold Ja at h;split at h
 ·rename_i x0
  cases h
  have hnd:=cf hnd
  have hh:=aqp x0 hnd
  have en:=hh
  exact eT rfl (cg en) rfl rfl rfl
 ·cases h)
theorem asa(xs:List Int)(h:leN xs.length 1048576=true):WQ xs=true:=by
 have h:=cu.1 h
 simp [WQ,allT]
 omega
def aeR:List SV→List Entry→Option Out
 | [.one ⟨false,[.ref 0]⟩],[.row false 2 (.int .i64) x0]=>some ⟨(.one ⟨false,[(.ref 1)]⟩),[(.row false 2 asZ x0)],[(.row true 2 asZ x0)],[leN x0.length 1048576]⟩
 |_,_=>none
def pg:PF Tryz.prog:=PF.alt ali aeR (by
 intro args es o h hnd;unfold aeR at h;split at h
 ·rename_i x0
  cases h
  have hnd:=cf hnd
  have hh:=asa x0 hnd
  have en:=hh
  exact eT rfl (cg en) rfl rfl rfl
 ·cases h)
def okP(n p:Int):Bool:=inR n 2 8&&inR p 0 (3 * n - 1)
theorem ajR{n p:Int}:okP n p=true↔(2≤n∧n≤8)∧0≤p∧p≤3 * n - 1:=by simp [okP,rh]
theorem ajN{n:Int}{ps:List Int}(h:isT n ps=true){p:Int}(hp:p∈ps):okP n p=true:=by
 obtain⟨h1,_,h3⟩:=BU.1 h
 exact ajR.2 ⟨h1,h3 p hp⟩
theorem ahO{p:Int}(h:0≤p):blk p=p / 3:=by rw [blk,Int.tdiv_eq_ediv_of_nonneg h]
theorem arS(n p b:Int)(h:okP n p=true):UK n p b=YO n p b∧OG n p b=true:=by
 obtain⟨⟨h1,h2⟩,h3,h4⟩:=ajR.1 h
 have e1:IntKind.i64.wrap (Int.tdiv p 3)=blk p:=by
  rw [Int.tdiv_eq_ediv_of_nonneg h3,ahO h3,aA (by omega) (by omega)]
 have e2:IntKind.i64.wrap (blk p + 1)=blk p + 1:=by rw [ahO h3,aA (by omega) (by omega)]
 refine⟨?_,?_⟩
 ·simp only [Hx,Ma,UK,OG,e1,e2,YO,phs]
  cases (blk p==b) <;> cases (Int.tmod p 3==2) <;> simp
 ·have hn:neI n 0=true:=alL (by omega)
  simp [OG,allT,hn]
def aca:List SV→List Entry→Option Out
 | [.one ⟨false,[.val (.int .i64 x0)]⟩,.one ⟨false,[.val (.int .i64 x1)]⟩,.one ⟨false,[.val (.int .i64 x2)]⟩],[]=>some ⟨(.one ⟨false,[(.val (.bool (YO x0 x1 x2)))]⟩),[],[],[okP x0 x1]⟩
 |_,_=>none
def ac1:PF Tryz.prog:=PF.alt akE aca (by
 intro args es o h hnd;unfold aca at h;split at h
 ·rename_i x0 x1 x2
  cases h
  have hnd:=cf hnd
  have hh:=arS x0 x1 x2 hnd
  obtain⟨e0,en⟩:=hh
  exact eT rfl (cg en) (by simp only [e0] <;> rfl) rfl rfl
 ·cases h)
end Go.SX

namespace Go.SX
open Go.Proofs
set_option maxRecDepth 100000
def fA(x1:List Int):Bool:=allT [leN (1:Nat) x1.length&&leN x1.length (1048576:Nat)]
def ul:List SV→List Entry→Option Out
 | [.one ⟨true,[.val (.int .i64 x0),.ref 0]⟩],[.row false 2 (.int .i64) x1]=>some ⟨(.one ⟨true,[(.val (.int .i64 x0)),(.ref 1)]⟩),[(.row false 2 asZ x1)],[(.row true 2 asZ x1)],[(fA x1)]⟩
 |_,_=>none
def ba:PF Tryz.prog:=PF.ofG Tryz.prog [aj,PF.lend aj,PF.fz aj] [] ar 146 Tryz.f146 Tryz.func146 (fun c _=>LOk.nil c) ul (by
 intro vs es r h;unfold ul at h;split at h
 ·cases h;kernel_rfl
 ·cases h)
section
variable (x0 x1:Int)(x2:List Int)
def iB:Int:=IntKind.wrap .i64 ((3:Int) * x0)
def iO:List Int:=List.set x2 x1.toNat (Int.tmod (IntKind.wrap .i64 (Option.getD x2[Int.toNat x1]? (0:Int) + (1:Int))) (iB x0))
def iP:Bool:=allT [fA x2,leI (0:Int) x1,ltI x1 (↑x2.length:Int),ltN x1.toNat x2.length,neI (iB x0) (0:Int),leI (0:Int) x1,ltI x1 (↑x2.length:Int),ltN x1.toNat x2.length]
end
def um:List SV→List Entry→Option Out
 | [.one ⟨true,[.val (.int .i64 x0),.ref 0]⟩,.one ⟨false,[.val (.int .i64 x1)]⟩],[.row false 2 (.int .i64) x2]=>some ⟨(.one ⟨true,[(.val (.int .i64 x0)),(.ref 1)]⟩),[(.row false 2 asZ x2)],[(.row true 2 asZ (iO x0 x1 x2))],[(iP x0 x1 x2)]⟩
 |_,_=>none
def HZ:PF Tryz.prog:=PF.ofG Tryz.prog [ba,PF.lend ba,PF.fz ba] [] ar 204 Tryz.f204 Tryz.func204 (fun c _=>LOk.nil c) um (by
 intro vs es r h;unfold um at h;split at h
 ·cases h;kernel_rfl
 ·cases h)
abbrev jI:=Int×Int×Int×Int×List Int
section
variable (y0 y1 y2 y3:Int)(y4:List Int)
def ub:Int:=Option.getD y4[Int.toNat y0]? (0:Int)
def vj:Bool:=ltI y0 (↑y4.length:Int)
def BF:Bool:=leI (0:Int) y0
def BG:Bool:=ltN y0.toNat y4.length
def BH:Bool:=okP y3 (ub y0 y4)
def BI:Int:=IntKind.wrap .i64 (y0 + (1:Int))
def BJ:Int:=bif YO y3 (ub y0 y4) y1 then IntKind.wrap .i64 (y2 + (1:Int))else y2
end
def adQ:jI→List (Nat×SV)
 |(y0,y1,y2,_,_)=> [(6,(.one ⟨false,[(.val (.int .i64 y0))]⟩)),(2,(.one ⟨false,[(.ptr 0 0)]⟩)),(1,(.one ⟨false,[(.val (.int .i64 y1))]⟩)),(5,(.one ⟨false,[(.val (.int .i64 y2))]⟩))]
def adH:jI→List (Nat×Entry)
 |(_,_,_,y3,y4)=> [(0,(.box 26 [(.val (.int .i64 y3)),(.ref 1)])),(1,(.row false 2 asZ y4))]
def ad8:Nat→jI→List (Nat×SV)
 |_,(_,_,y2,_,_)=> [(5,(.one ⟨false,[(.val (.int .i64 y2))]⟩))]
def adZ:Nat→jI→List (Nat×Entry)
 |_,(_,_,_,y3,y4)=> [(0,(.box 26 [(.val (.int .i64 y3)),(.ref 1)])),(1,(.row false 2 asZ y4))]
def zf:jI→LT jI
 |(y0,y1,y2,y3,y4)=> .ite (vj y0 y4) (.need [(BF y0),(vj y0 y4),(BG y0 y4),(BH y0 y3 y4)] (.nrm ((BI y0),y1,(BJ y0 y1 y2 y3 y4),y3,y4) [(0,0),(1,1)])) (.ext 0 [(0,0),(1,1)])
def KW(s:St):Option jI:=
 (match s.look 6 with
 |some ⟨none,(.one ⟨false,[(.val (.int .i64 y0))]⟩)⟩=>
 (match s.look 2 with
 |some ⟨none,(.one ⟨false,[(.ptr 128 0)]⟩)⟩=>
 (match s.look 1 with
 |some ⟨none,(.one ⟨false,[(.val (.int .i64 y1))]⟩)⟩=>
 (match s.look 5 with
 |some ⟨none,(.one ⟨false,[(.val (.int .i64 y2))]⟩)⟩=>
 (match s.ent 128 with
 |some (.box 26 [(.val (.int .i64 y3)),(.ref 0)])=>
 (match s.ent 0 with
 |some (.row false 2 (.int .i64) y4)=>
 some (y0,y1,y2,y3,y4)
 |_=>none)
 |_=>none)
 |_=>none)
 |_=>none)
 |_=>none)
 |_=>none)
def eQ:Lp jI where
 h:=⟨[7,8,9,10,11,14,15,16,17,18,19,20,21,22,23,24,5,12,13,6],[0,1],[],[]⟩
 JL:=adQ
 JE:=adH
 XL:=ad8
 XE:=adZ
 q:=fun j=>match j with | _=> .exit 0
 tags:= [0]
 lt:=zf
 fuel:=fun(y0,y1,y2,y3,y4)=>y0.natAbs + y1.natAbs + y2.natAbs + y3.natAbs + y4.length
 fix:=fun(_,y1,_,y3,y4) (y0,_,y2,_,_)=>(y0,y1,y2,y3,y4)
 σ:= [(0,128),(1,0)]
 rd:=KW
theorem abc:LoopOk Tryz.prog (fun k=>Nat.blt k Tryz.f175.ntmps) eQ.F (ay Tryz.f175 0):=by
 refine Lp.ok (tbl:= [ac1]) (lf:= []) ar eQ (by kernel_rfl) (LOk.nil _) (fun _=>rfl) (fun _ _=>rfl) ?_ ?_ ?_ ?_ (fun _=>rfl) ?_
 ·intro x;obtain⟨y0,y1,y2,y3,y4⟩:=x;kernel_rfl
 ·intro x;obtain⟨y0,y1,y2,y3,y4⟩:=x;kernel_rfl
 ·intro s x h
  have h:KW s=some x:=h
  unfold KW at h
  repeat' split at h
  all_goals cases h
  exact⟨aa (by assumption) rfl (aa (by assumption) rfl (aa (by assumption) rfl (aa (by assumption) rfl (rfl)))),ac rfl (by assumption) rfl (ac rfl (by assumption) rfl (rfl))⟩
 ·intro x;obtain⟨y0,y1,y2,y3,y4⟩:=x;kernel_rfl
 ·intro x z;obtain⟨y0,y1,y2,y3,y4⟩:=x;exact(And.intro rfl trivial)
section
variable (x0 x1:Int)(x2:List Int)
def Kx:Int×Int×Int×Int×List Int:=((0:Int),x1,(0:Int),x0,x2)
def LX:Int:=((Lp.res eQ (Kx x0 x1 x2)).2.2.2).1
def LY:Bool:=allT [Lp.fin eQ (Kx x0 x1 x2)]
end
def aae:List SV→List Entry→Option Out
 | [.one ⟨true,[.val (.int .i64 x0),.ref 0]⟩,.one ⟨false,[.val (.int .i64 x1)]⟩],[.row false 2 (.int .i64) x2]=>some ⟨(.one ⟨false,[(.val (.int .i64 (LX x0 x1 x2)))]⟩),[(.row false 2 asZ x2)],[],[(LY x0 x1 x2)]⟩
 |_,_=>none
def ajF:PF Tryz.prog:=PF.ofG Tryz.prog [ac1] [eQ.F] ar 175 Tryz.f175 Tryz.func175 (LOk.fnT (l:= [ay Tryz.f175 0]) (by kernel_rfl) (.cons abc (.nil _))) aae (by
 intro vs es r h;unfold aae at h;split at h
 ·cases h;kernel_rfl
 ·cases h)
section
variable (x0 x1:Int)(x2:List Int)
def LZ:Int:=IntKind.wrap .i64 ((3:Int) * x0)
def OD:List Int:=List.set x2 x1.toNat (Int.tmod (IntKind.wrap .i64 (Option.getD x2[Int.toNat x1]? (0:Int) + (1:Int))) (LZ x0))
def OE:Bool:=allT [leN x2.length (1048576:Nat),leI (0:Int) x1,ltI x1 (↑x2.length:Int),ltN x1.toNat x2.length,neI (LZ x0) (0:Int),leI (0:Int) x1,ltI x1 (↑x2.length:Int),ltN x1.toNat x2.length]
end
def abv:List SV→List Entry→Option Out
 | [.one ⟨true,[.val (.int .i64 x0),.ref 0]⟩,.one ⟨false,[.val (.int .i64 x1)]⟩],[.row false 2 (.int .i64) x2]=>some ⟨(.one ⟨true,[(.val (.int .i64 x0)),(.ref 1)]⟩),[(.row false 2 asZ x2)],[(.row true 2 asZ (OD x0 x1 x2))],[(OE x0 x1 x2)]⟩
 |_,_=>none
def akD:PF Tryz.prog:=PF.ofG Tryz.prog [pg,PF.lend pg,PF.fz pg] [] ar 178 Tryz.f178 Tryz.func178 (fun c _=>LOk.nil c) abv (by
 intro vs es r h;unfold abv at h;split at h
 ·cases h;kernel_rfl
 ·cases h)
def Qh(x1:Int)(x2:List Int):Int:=bif ltI (szV x1 x2) (0:Int)then(-1:Int)else szV x1 x2
def Qi(x1:Int)(x2:List Int):Bool:=allT [leN x2.length (9223372036854775807:Nat)&&(leI (-1:Int) x1&&leI x1 (1048576:Int))]
def Xi:List SV→List Entry→Option Out
 | [.one ⟨true,[.val (.int .i64 _x0),.ref 0]⟩,.one ⟨false,[.val (.int .i64 x1)]⟩],[.row false 2 (.int .i64) x2]=>some ⟨(.one ⟨false,[(.val (.int .i64 (Qh x1 x2)))]⟩),[(.row false 2 asZ x2)],[],[(Qi x1 x2)]⟩
 |_,_=>none
def aiv:PF Tryz.prog:=PF.ofG Tryz.prog [rl,PF.lend rl,PF.fz rl] [] ar 104 Tryz.f104 Tryz.func104 (fun c _=>LOk.nil c) Xi (by
 intro vs es r h;unfold Xi at h;split at h
 ·cases h;kernel_rfl
 ·cases h)
def Ql(x1:List Int):Bool:=allT [leN x1.length (1048576:Nat)]
def Xl:List SV→List Entry→Option Out
 | [.one ⟨true,[.val (.int .i64 x0),.ref 0]⟩],[.row false 2 (.int .i64) x1]=>some ⟨(.one ⟨true,[(.val (.int .i64 x0)),(.ref 1)]⟩),[(.row false 2 asZ x1)],[(.row true 2 asZ x1)],[(Ql x1)]⟩
 |_,_=>none
def aiy:PF Tryz.prog:=PF.ofG Tryz.prog [rm,PF.lend rm,PF.fz rm] [] ar 110 Tryz.f110 Tryz.func110 (fun c _=>LOk.nil c) Xl (by
 intro vs es r h;unfold Xl at h;split at h
 ·cases h;kernel_rfl
 ·cases h)
def PS(x0 x1:Int)(x2 x3:List Int):Bool:=bif x0 !=x1 then false else bif !eqL x2 x3 then false else true
def PT(x0 x1:Int)(x2:List Int):Bool:=allT [x0 !=x1||leN x2.length (9223372036854775807:Nat)]
def Xc:List SV→List Entry→Option Out
 | [.one ⟨true,[.val (.int .i64 x0),.ref 0]⟩,.one ⟨true,[.val (.int .i64 x1),.ref 1]⟩],[.row false 2 (.int .i64) x2,.row false 2 (.int .i64) x3]=>some ⟨(.one ⟨false,[(.val (.bool (PS x0 x1 x2 x3)))]⟩),[(.row false 2 asZ x2),(.row false 2 asZ x3)],[],[(PT x0 x1 x2)]⟩
 |_,_=>none
def aip:PF Tryz.prog:=PF.ofG Tryz.prog [rj,PF.lend rj,PF.fz rj] [] ar 116 Tryz.f116 Tryz.func116 (fun c _=>LOk.nil c) Xc (by
 intro vs es r h;unfold Xc at h;split at h
 ·cases h;kernel_rfl
 ·cases h)
section
variable (x1:Int)(x2:List Int)
def Mo:Int:=x1 + (↑x2.length:Int)
def Mp:List Int:=tF x1 x2.length
def Mq:Bool:=allT [Pc x1 x2.length]
end
def Tt:List SV→List Entry→Option Out
 | [.one ⟨true,[.val (.int .i64 _x0),.ref 0]⟩,.one ⟨false,[.val (.int .i64 x1)]⟩],[.row true 2 (.int .i64) x2]=>some ⟨(.one ⟨false,[(.val (.int .i64 (Mo x1 x2)))]⟩),[(.row true 2 asZ (Mp x1 x2))],[],[(Mq x1 x2)]⟩
 |_,_=>none
def af1:PF Tryz.prog:=PF.ofG Tryz.prog [nj,PF.lend nj,PF.fz nj] [] ar 125 Tryz.f125 Tryz.func125 (fun c _=>LOk.nil c) Tt (by
 intro vs es r h;unfold Tt at h;split at h
 ·cases h;kernel_rfl
 ·cases h)
def Mm(x1:Int)(x2:List Int):Int:=bif ltI (Rk x1 x2) (0:Int)then(-1:Int)else Rk x1 x2
def Mn(x2:List Int):Bool:=allT [leN x2.length (9223372036854775807:Nat)]
def Tr:List SV→List Entry→Option Out
 | [.one ⟨true,[.val (.int .i64 _x0),.ref 0]⟩,.one ⟨false,[.val (.int .i64 x1)]⟩],[.row false 2 (.int .i64) x2]=>some ⟨(.one ⟨false,[(.val (.int .i64 (Mm x1 x2)))]⟩),[(.row false 2 asZ x2)],[],[(Mn x2)]⟩
 |_,_=>none
def afZ:PF Tryz.prog:=PF.ofG Tryz.prog [ni,PF.lend ni,PF.fz ni] [] ar 131 Tryz.f131 Tryz.func131 (fun c _=>LOk.nil c) Tr (by
 intro vs es r h;unfold Tr at h;split at h
 ·cases h;kernel_rfl
 ·cases h)
end Go.SX

namespace Go.SX
open Go.Proofs
set_option maxRecDepth 100000
def aib(n:Int)(ps:List Int)(t:Int):List Int:=ps.set t.toNat (Int.tmod (ps[t.toNat]?.getD 0 + 1) (3 * n))
theorem ai8(n:Int)(ps:List Int)(t:Int):(aib n ps t).length=ps.length:=by simp [aib]
theorem arv{n:Int}{ps:List Int}(h:isT n ps=true)(t:Int):isT n (aib n ps t)=true:=by
 obtain⟨h1,h2,h3⟩:=BU.1 h
 refine BU.2 ⟨h1,by rw [ai8];exact h2,fun p hp=> ?_⟩
 rcases List.mem_or_eq_of_mem_set hp with hp | rfl
 ·exact h3 p hp
 ·have h0:0≤ps[t.toNat]?.getD 0:=by
   cases hg:ps[t.toNat]? with
   |none=>simp
   |some q=>exact(h3 q (List.mem_of_getElem? hg)).1
  have:=Int.emod_lt_of_pos (ps[t.toNat]?.getD 0 + 1) (show 0 < 3 * n by omega)
  have:=Int.emod_nonneg (ps[t.toNat]?.getD 0 + 1) (show 3 * n≠0 by omega)
  rw [Int.tmod_eq_emod_of_nonneg (by omega)]
  omega
def Yw(n:Int)(ps:List Int)(t:Int):Bool:=isT n ps&&KA ps t
theorem ag9{n:Int}{ps:List Int}{t:Int}:Yw n ps t=true↔isT n ps=true∧KA ps t=true:=by simp [Yw]
theorem aic{n:Int}{ps:List Int}{t:Int}(h:Yw n ps t=true):IntKind.i64.wrap (3 * n)=3 * n∧IntKind.i64.wrap (ps[t.toNat]?.getD 0 + 1)=ps[t.toNat]?.getD 0 + 1∧neI (3 * n) 0=true∧
  leI 0 t=true∧ltI t ps.length=true∧ltN t.toNat ps.length=true∧leN ps.length 1048576=true∧leN 1 ps.length=true:=by
 obtain⟨hT,ht⟩:=ag9.1 h
 obtain⟨h1,h2,h3⟩:=BU.1 hT
 have h4:=XZ.1 ht
 have hlt:t.toNat < ps.length:=by omega
 have hg:ps[t.toNat]?.getD 0=ps[t.toNat]:=by rw [List.getElem?_eq_getElem hlt];rfl
 have h5:=h3 _ (List.getElem_mem hlt)
 rw [hg]
 exact⟨aA (by omega) (by omega),aA (by omega) (by omega),alL (by omega),bH h4.1,ce h4.2,cM hlt,gx (by omega),gx h2.1⟩
theorem anW(n t:Int)(ps:List Int)(h:Yw n ps t=true):OD n t ps=aib n ps t∧OE n t ps=true:=by
 obtain⟨e1,e2,e3,e4,e5,e6,e7,e8⟩:=aic h
 refine⟨?_,?_⟩
 ·simp only [LZ,OD,OE,e1,e2,aib]
 ·simp only [LZ,OD,OE,e1,e3,e4,e5,e6,e7,allT,cond_true]
def ab9:List SV→List Entry→Option Out
 | [.one ⟨true,[.val (.int .i64 x0),.ref 0]⟩,.one ⟨false,[.val (.int .i64 x1)]⟩],[.row false 2 (.int .i64) x2]=>some ⟨(.one ⟨true,[(.val (.int .i64 x0)),(.ref 1)]⟩),[(.row false 2 asZ x2)],[(.row true 2 asZ (aib x0 x2 x1))],[Yw x0 x2 x1]⟩
 |_,_=>none
def Ug:PF Tryz.prog:=PF.alt akD ab9 (by
 intro args es o h hnd;unfold ab9 at h;split at h
 ·rename_i x0 x1 x2
  cases h
  have hnd:=cf hnd
  have hh:=anW x0 x1 x2 hnd
  obtain⟨e0,en⟩:=hh
  exact eT rfl (cg en) rfl rfl (by simp only [e0] <;> rfl)
 ·cases h)
theorem ano(n t:Int)(ps:List Int)(h:Yw n ps t=true):iO n t ps=aib n ps t∧iP n t ps=true:=by
 obtain⟨e1,e2,e3,e4,e5,e6,e7,e8⟩:=aic h
 refine⟨?_,?_⟩
 ·simp only [iB,iO,iP,e1,e2,aib]
 ·simp only [iB,iO,iP,fA,e1,e3,e4,e5,e6,e7,e8,allT,cond_true,Bool.and_self]
def uo:List SV→List Entry→Option Out
 | [.one ⟨true,[.val (.int .i64 x0),.ref 0]⟩,.one ⟨false,[.val (.int .i64 x1)]⟩],[.row false 2 (.int .i64) x2]=>some ⟨(.one ⟨true,[(.val (.int .i64 x0)),(.ref 1)]⟩),[(.row false 2 asZ x2)],[(.row true 2 asZ (aib x0 x2 x1))],[Yw x0 x2 x1]⟩
 |_,_=>none
def mZ:PF Tryz.prog:=PF.alt HZ uo (by
 intro args es o h hnd;unfold uo at h;split at h
 ·rename_i x0 x1 x2
  cases h
  have hnd:=cf hnd
  have hh:=ano x0 x1 x2 hnd
  obtain⟨e0,en⟩:=hh
  exact eT rfl (cg en) rfl rfl (by simp only [e0] <;> rfl)
 ·cases h)
theorem asi(ps:List Int)(h:leN ps.length 1048576=true):Ql ps=true:=by simp only [Ql,allT,h,cond_true]
def XN:List SV→List Entry→Option Out
 | [.one ⟨true,[.val (.int .i64 x0),.ref 0]⟩],[.row false 2 (.int .i64) x1]=>some ⟨(.one ⟨true,[(.val (.int .i64 x0)),(.ref 1)]⟩),[(.row false 2 asZ x1)],[(.row true 2 asZ x1)],[leN x1.length 1048576]⟩
 |_,_=>none
def Qz:PF Tryz.prog:=PF.alt aiy XN (by
 intro args es o h hnd;unfold XN at h;split at h
 ·rename_i x0 x1
  cases h
  have hnd:=cf hnd
  have hh:=asi x1 hnd
  have en:=hh
  exact eT rfl (cg en) rfl rfl rfl
 ·cases h)
def eqT(n m:Int)(ps qs:List Int):Bool:=n==m&&eqL ps qs
theorem ar3(n m:Int)(ps qs:List Int)(h:leN ps.length 9223372036854775807=true):PS n m ps qs=eqT n m ps qs∧PT n m ps=true:=by
 simp only [PS,PT,allT,h,eqT,bne]
 cases n==m <;> cases eqL ps qs <;> simp
def XD:List SV→List Entry→Option Out
 | [.one ⟨true,[.val (.int .i64 x0),.ref 0]⟩,.one ⟨true,[.val (.int .i64 x1),.ref 1]⟩],[.row false 2 (.int .i64) x2,.row false 2 (.int .i64) x3]=>some ⟨(.one ⟨false,[(.val (.bool (eqT x0 x1 x2 x3)))]⟩),[(.row false 2 asZ x2),(.row false 2 asZ x3)],[],[leN x2.length 9223372036854775807]⟩
 |_,_=>none
def Qr:PF Tryz.prog:=PF.alt aip XD (by
 intro args es o h hnd;unfold XD at h;split at h
 ·rename_i x0 x1 x2 x3
  cases h
  have hnd:=cf hnd
  have hh:=ar3 x0 x1 x2 x3 hnd
  obtain⟨e0,en⟩:=hh
  exact eT rfl (cg en) (by simp only [e0] <;> rfl) rfl rfl
 ·cases h)
theorem ash(k:Int)(ps:List Int)(h:(leN ps.length 9223372036854775807&&(leI (-1) k&&leI k 1048576))=true):Qh k ps=szV k ps∧Qi k ps=true:=by
 simp only [Qh,Qi,allT,h,cond_true,and_true]
 cases hs:ltI (szV k ps) 0 with
 |false=>rfl
 |true=>
  simp only [szV]at hs ⊢
  cases hq:ltI (k - (ps.length:Int)) 0 with
  |true=>rfl
  |false=>rw [hq,cond_false]at hs;rw [hs]at hq;cases hq
def XK:List SV→List Entry→Option Out
 | [.one ⟨true,[.val (.int .i64 _x0),.ref 0]⟩,.one ⟨false,[.val (.int .i64 x1)]⟩],[.row false 2 (.int .i64) x2]=>some ⟨(.one ⟨false,[(.val (.int .i64 (szV x1 x2)))]⟩),[(.row false 2 asZ x2)],[],[leN x2.length 9223372036854775807&&(leI (-1) x1&&leI x1 1048576)]⟩
 |_,_=>none
def Qx:PF Tryz.prog:=PF.alt aiv XK (by
 intro args es o h hnd;unfold XK at h;split at h
 ·rename_i _x0 x1 x2
  cases h
  have hnd:=cf hnd
  have hh:=ash x1 x2 hnd
  obtain⟨e0,en⟩:=hh
  exact eT rfl (cg en) (by simp only [e0] <;> rfl) rfl rfl
 ·cases h)
theorem aqP(k:Int)(ps:List Int)(h:Pc k ps.length=true):Mo k ps=k + ps.length∧Mp k ps=tF k ps.length∧Mq k ps=true:=by
 simp only [Mo,Mp,Mq,allT,h,cond_true,and_self]
def Ty:List SV→List Entry→Option Out
 | [.one ⟨true,[.val (.int .i64 _x0),.ref 0]⟩,.one ⟨false,[.val (.int .i64 x1)]⟩],[.row true 2 (.int .i64) x2]=>some ⟨(.one ⟨false,[(.val (.int .i64 (x1 + (x2.length:Int))))]⟩),[(.row true 2 asZ (tF x1 x2.length))],[],[Pc x1 x2.length]⟩
 |_,_=>none
def Mv:PF Tryz.prog:=PF.alt af1 Ty (by
 intro args es o h hnd;unfold Ty at h;split at h
 ·rename_i _x0 x1 x2
  cases h
  have hnd:=cf hnd
  have hh:=aqP x1 x2 hnd
  obtain⟨e0,e1,en⟩:=hh
  exact eT rfl (cg en) (by simp only [e0] <;> rfl) (by simp only [e1] <;> rfl) rfl
 ·cases h)
def EZ(k:Int)(xs:List Int):Int:=bif ltI (Rk k xs) 0 then -1 else Rk k xs
theorem aqF(k:Int)(ps:List Int)(h:leN ps.length 9223372036854775807=true):Mm k ps=EZ k ps∧Mn ps=true:=by
 simp only [Mm,Mn,EZ,allT,h,cond_true,and_self]
def Tw:List SV→List Entry→Option Out
 | [.one ⟨true,[.val (.int .i64 _x0),.ref 0]⟩,.one ⟨false,[.val (.int .i64 x1)]⟩],[.row false 2 (.int .i64) x2]=>some ⟨(.one ⟨false,[(.val (.int .i64 (EZ x1 x2)))]⟩),[(.row false 2 asZ x2)],[],[leN x2.length 9223372036854775807]⟩
 |_,_=>none
def Mt:PF Tryz.prog:=PF.alt afZ Tw (by
 intro args es o h hnd;unfold Tw at h;split at h
 ·rename_i _x0 x1 x2
  cases h
  have hnd:=cf hnd
  have hh:=aqF x1 x2 hnd
  obtain⟨e0,en⟩:=hh
  exact eT rfl (cg en) (by simp only [e0] <;> rfl) rfl rfl
 ·cases h)
def rx(y1 y3 b:Int):(Int)→Nat ⊕ (Int)
 |y2=>(.inr (bif YO y3 b y1 then IntKind.wrap .i64 (y2 + (1:Int))else y2))
def mL(y1 y3:Int)(y4:List Int)(i:Nat):(Int)→jI
 |y2=>((i:Int),y1,y2,y3,y4)
def KN:jI→Int
 |(_,_,y2,_,_)=>y2
theorem agb(y1 y3:Int)(y4:List Int)(y2:Int)(hn:y4.length≤9223372036854775807)(hT: ∀ p∈y4,okP y3 p=true)(h4:y4.length≤4)(h2:y2=0):
  eQ.fin ((0:Int),y1,y2,y3,y4)=true∧eQ.res ((0:Int),y1,y2,y3,y4)=((ag (rx y1 y3) 0 y4 0 y2).1,(mL y1 y3 y4) (ag (rx y1 y3) 0 y4 0 y2).2.1 (ag (rx y1 y3) 0 y4 0 y2).2.2):=by
 have key:=eQ.along (mL y1 y3 y4) KN (rx y1 y3) 0 (fun i a=>0≤a∧a≤i) y4 y2 (by omega) (by simp only [eQ,mL];omega) (fun i b a hb hI=> ?_) (fun a hI=> ?_)
 ·exact key
 ·obtain y2:=a
  have hlt:=(List.getElem?_eq_some_iff.1 hb).1
  have hget: ∀ d,Option.getD y4[i]? d=b:=fun d=>by rw [hb];rfl
  have hw:=py hlt hn
  have hdec:ltI (i:Int) (y4.length:Int)=true:=ce (by omega)
  have hnn:leI (0:Int) (i:Int)=true:=bH (by omega)
  have hltd:ltN i y4.length=true:=cM hlt
  refine⟨?_,?_,?_,?_⟩
  ·simp [ub,vj,BF,BG,BH,BI,BJ,zf,eQ,LT.nds,allT,mL,hdec,hnn,hltd,hget,hT b (List.mem_of_getElem? hb)]
  ·simp [ub,vj,BF,BG,BH,BI,BJ,zf,eQ,LT.each,mL,KN,hw,hT b (List.mem_of_getElem? hb)]
  ·simp only [ub,vj,BF,BG,BH,BI,BJ,zf,eQ,LT.fn,mL,KN,rx,Int.toNat_natCast,hdec,hget,cond_true]
  ·intro a' hf;simp only [rx,Sum.inr.injEq]at hf;subst hf;cases YO y3 b y1 <;> simp only [cond_true,cond_false] <;> (try rw [aA (by omega) (by omega)]) <;> omega
 ·obtain y2:=a
  simp [ub,vj,BF,BG,BH,BI,BJ,zf,eQ,LT.out,mL]
theorem aj0(n b:Int): ∀ (ps:List Int) (a:Int),0≤a→a + ps.length≤100→ps.foldl (fun a p=>bif YO n p b then IntKind.wrap .i64 (a + (1:Int))else a) a=a + (Zg n ps b:Int)
 | [],a,_,_=>by simp [Zg]
 |p::ps,a,h0,h1=>by
  simp only [List.length_cons]at h1
  simp only [List.foldl_cons,Zg,List.countP_cons]
  cases hu:YO n p b with
  |true=>
   rw [cond_true,aA (by omega) (by omega),aj0 n b ps (a + 1) (by omega) (by omega)]
   simp only [Zg]
   simp;omega
  |false=>
   rw [cond_false,aj0 n b ps a h0 (by omega)]
   simp [Zg]
theorem aqq(n b:Int)(ps:List Int)(h:isT n ps=true):LX n b ps=(Zg n ps b:Int)∧LY n b ps=true:=by
 have h2:=(BU.1 h).2.1
 obtain⟨w1,w2⟩:=agb b n ps 0 (by omega) (fun p hp=>ajN h hp) h2.2 rfl
 rw [iA (f:=rx b n) (g:=fun a p=>bif YO n p b then IntKind.wrap .i64 (a + (1:Int))else a) (fun p a=>rfl),aj0 n b ps 0 (by omega) (by omega)]at w2
 refine⟨?_,?_⟩
 ·simp only [Kx,LX,LY,w2,mL];omega
 ·simp only [Kx,LX,LY,w1,allT,cond_true]
def aas:List SV→List Entry→Option Out
 | [.one ⟨true,[.val (.int .i64 x0),.ref 0]⟩,.one ⟨false,[.val (.int .i64 x1)]⟩],[.row false 2 (.int .i64) x2]=>some ⟨(.one ⟨false,[(.val (.int .i64 (Zg x0 x2 x1:Int)))]⟩),[(.row false 2 asZ x2)],[],[isT x0 x2]⟩
 |_,_=>none
def ro:PF Tryz.prog:=PF.alt ajF aas (by
 intro args es o h hnd;unfold aas at h;split at h
 ·rename_i x0 x1 x2
  cases h
  have hnd:=cf hnd
  have hh:=aqq x0 x1 x2 hnd
  obtain⟨e0,en⟩:=hh
  exact eT rfl (cg en) (by simp only [e0] <;> rfl) rfl rfl
 ·cases h)
end Go.SX

namespace Go.SX
open Go.Proofs
def Cj:PF Tryz.prog:=PF.sort 235 2 (fun blk off cap zs w h1 h2 h3=>AnyM.slices_Sort_int Tryz.laysSort blk off cap zs w h1 h2 h3)
end Go.SX

namespace Go.SX
open Go.Proofs
set_option maxRecDepth 100000
section
variable (x0 x1:Int)(x2:List Int)
def db:Int:=Option.getD x2[Int.toNat x1]? (0:Int)
def fB:Bool:=Int.tmod (db x1 x2) (3:Int)!=(2:Int)
def iQ:List Int:= [IntKind.wrap .i64 (Int.tdiv (db x1 x2) (3:Int)),Int.tmod (IntKind.wrap .i64 (IntKind.wrap .i64 (Int.tdiv (db x1 x2) (3:Int)) + (1:Int))) x0]
def jg:List Int:=bif fB x1 x2 then [IntKind.wrap .i64 (Int.tdiv (db x1 x2) (3:Int))]else ahv (iQ x0 x1 x2)
def jh:Bool:=allT [leI (0:Int) x1,ltI x1 (↑x2.length:Int),ltN x1.toNat x2.length,leI (0:Int) x1,ltI x1 (↑x2.length:Int),ltN x1.toNat x2.length,fB x1 x2||neI x0 (0:Int),fB x1 x2||leN (List.length (iQ x0 x1 x2)) (4611686018427387903:Nat)]
end
def vp:List SV→List Entry→Option Out
 | [.one ⟨true,[.val (.int .i64 x0),.ref 0]⟩,.one ⟨false,[.val (.int .i64 x1)]⟩],[.row false 2 (.int .i64) x2]=>some ⟨(.one ⟨false,[(.ref 1)]⟩),[(.row false 2 asZ x2)],[(.row true 2 asZ (jg x0 x1 x2))],[(jh x0 x1 x2)]⟩
 |_,_=>none
def IL:PF Tryz.prog:=PF.ofG Tryz.prog [Cj,PF.lend Cj,PF.fz Cj] [] ar 210 Tryz.f210 Tryz.func210 (fun c _=>LOk.nil c) vp (by
 intro vs es r h;unfold vp at h;split at h
 ·cases h;kernel_rfl
 ·cases h)
end Go.SX

namespace Go.SX
open Go.Proofs
set_option maxRecDepth 100000
def RA(n p:Int):List Int:=bif phs p !=2 then [blk p]else ahv [blk p,Int.tmod (blk p + 1) n]
theorem aqZ(a b:Int):ahv [a,b]=bif leI a b then [a,b]else [b,a]:=by
 unfold ahv
 have hp:=List.mergeSort_perm [a,b] (fun x y=>decide (x≤y))
 have hs:=List.pairwise_mergeSort (le:=fun(x y:Int)=>decide (x≤y)) (fun x y z h1 h2=>by simp at h1 h2 ⊢;omega) (fun x y=>by simp;omega) [a,b]
 generalize hm:List.mergeSort [a,b] (fun x y=>decide (x≤y))=l at hp hs
 have hl:=hp.length_eq
 match l,hl with
 | [x,y],_=>
  simp at hs
  have hx:x∈ [a,b]:=hp.subset (by simp)
  simp at hx
  rcases hx with rfl | rfl
  ·have:=(List.perm_cons x).1 hp
   rw [List.perm_singleton]at this
   simp at this;subst this
   rw [bH hs];rfl
  ·have h2:=hp.trans (List.Perm.swap x a [])
   have:=(List.perm_cons x).1 h2
   rw [List.perm_singleton]at this
   simp at this;subst this
   cases hq:leI y x with
   |false=>rfl
   |true=>
    have:=Td.1 hq;have:x=y:=by omega
    subst this;rfl
def atI(xs:List Int)(t:Int):Int:=xs[t.toNat]?.getD 0
theorem arQ(n t:Int)(ps:List Int)(h:Yw n ps t=true):jg n t ps=RA n (atI ps t)∧jh n t ps=true:=by
 obtain⟨e1,e2,e3,e4,e5,e6,e7,e8⟩:=aic h
 obtain⟨hT,ht⟩:=ag9.1 h
 obtain⟨h1,h2,h3⟩:=BU.1 hT
 have h4:=XZ.1 ht
 have hlt:t.toNat < ps.length:=by omega
 have hg:ps[t.toNat]?.getD 0=ps[t.toNat]:=by rw [List.getElem?_eq_getElem hlt];rfl
 have h5:=h3 _ (List.getElem_mem hlt)
 rw [← hg]at h5
 have f1:IntKind.i64.wrap (Int.tdiv (ps[t.toNat]?.getD 0) 3)=blk (ps[t.toNat]?.getD 0):=by
  rw [Int.tdiv_eq_ediv_of_nonneg h5.1,ahO h5.1,aA (by omega) (by omega)]
 have f2:IntKind.i64.wrap (blk (ps[t.toNat]?.getD 0) + 1)=blk (ps[t.toNat]?.getD 0) + 1:=by rw [ahO h5.1,aA (by omega) (by omega)]
 have f3:neI n 0=true:=alL (by omega)
 refine⟨?_,?_⟩
 ·simp only [db,fB,iQ,jg,jh,f1,f2,RA,phs,atI]
 ·simp [db,fB,iQ,jg,jh,e4,e5,e6,f3,allT]
def vz:List SV→List Entry→Option Out
 | [.one ⟨true,[.val (.int .i64 x0),.ref 0]⟩,.one ⟨false,[.val (.int .i64 x1)]⟩],[.row false 2 (.int .i64) x2]=>some ⟨(.one ⟨false,[(.ref 1)]⟩),[(.row false 2 asZ x2)],[(.row true 2 asZ (RA x0 (atI x2 x1)))],[Yw x0 x2 x1]⟩
 |_,_=>none
def bf:PF Tryz.prog:=PF.alt IL vz (by
 intro args es o h hnd;unfold vz at h;split at h
 ·rename_i x0 x1 x2
  cases h
  have hnd:=cf hnd
  have hh:=arQ x0 x1 x2 hnd
  obtain⟨e0,en⟩:=hh
  exact eT rfl (cg en) rfl rfl (by simp only [e0] <;> rfl)
 ·cases h)
theorem api{n p:Int}(h:okP n p=true):(∀ u∈RA n p,0≤u∧u < n)∧(RA n p).length≤2∧ ∀ b:Nat,(RA n p).count (b:Int)=bif YO n p (b:Int)then 1 else 0:=by
 obtain⟨⟨h1,h2⟩,h3,h4⟩:=ajR.1 h
 have hb:=ahO h3
 have hm:Int.tmod (blk p + 1) n=(blk p + 1) % n:=Int.tmod_eq_emod_of_nonneg (by rw [hb];omega)
 have hb0:0≤blk p∧blk p < n:=by rw [hb];omega
 have hm0:=Int.emod_nonneg (blk p + 1) (show n≠0 by omega)
 have hm1:=Int.emod_lt_of_pos (blk p + 1) (show 0 < n by omega)
 have hne:(blk p + 1) % n≠blk p:=by
  by_cases hq:blk p + 1=n
  ·rw [hq,Int.emod_self];omega
  ·rw [Int.emod_eq_of_lt (by omega) (by omega)];omega
 unfold RA YO
 rw [hm,aqZ]
 generalize (blk p + 1) % n=q at *
 generalize blk p=a at *
 cases hp:phs p==2 with
 |false=>
  simp only [bne,hp,Bool.not_false,cond_true,Bool.false_and,Bool.or_false]
  refine⟨fun u hu=>by simp at hu;omega,by simp,fun b=> ?_⟩
  simp only [List.count_cons,List.count_nil]
  cases hab:a==(b:Int) <;> simp [hab]
 |true=>
  simp only [bne,hp,Bool.not_true,cond_false,Bool.true_and]
  have key: ∀ b:Nat,(if (a==(b:Int))=true then 1 else 0) + (if (q==(b:Int))=true then 1 else 0)=(bif a==(b:Int)||q==(b:Int)then 1 else 0:Nat):=by
   intro b
   cases hab:a==(b:Int) <;> cases hqb:q==(b:Int) <;> simp
   have:=eq_of_beq hab;have:=eq_of_beq hqb;omega
  cases leI a q with
  |true=>
   refine⟨fun u hu=>by simp at hu;omega,by simp,fun b=> ?_⟩
   rw [← key b];simp [List.count_cons];omega
  |false=>
   refine⟨fun u hu=>by simp at hu;omega,by simp,fun b=> ?_⟩
   rw [← key b];simp [List.count_cons]
end Go.SX

namespace Go.SX
open Go.Proofs
set_option maxRecDepth 100000
abbrev aG:=Int×Int×List Int×List Int
section
variable (y0 y1:Int)(y2 y3:List Int)
def aO:Int:=Option.getD y2[Int.toNat y0]? (0:Int)
def dp:Bool:=ltI y0 y1
def dq:Bool:=leI (0:Int) y0
def dr:Bool:=ltI y0 (↑y2.length:Int)
def du:Bool:=ltN y0.toNat y2.length
def bS:Bool:=leI (0:Int) (aO y0 y2)
def bT:Bool:=ltI (aO y0 y2) (↑y3.length:Int)
def bU:Bool:=ltN (Int.toNat (aO y0 y2)) y3.length
def dv:Int:=IntKind.wrap .i64 (y0 + (1:Int))
def dw:List Int:=List.set y3 (Int.toNat (aO y0 y2)) (IntKind.wrap .i64 (Option.getD y3[Int.toNat (aO y0 y2)]? (0:Int) + (1:Int)))
end
def DZ:aG→List (Nat×SV)
 |(y0,y1,_,_)=> [(20,(.one ⟨false,[(.val (.int .i64 y0))]⟩)),(19,(.one ⟨false,[(.val (.int .i64 y1))]⟩)),(18,(.one ⟨false,[(.ref 0)]⟩)),(3,(.one ⟨false,[(.ref 1)]⟩))]
def DY:aG→List (Nat×Entry)
 |(_,_,y2,y3)=> [(0,(.row true 2 asZ y2)),(1,(.row true 2 asZ y3))]
def Eb:Nat→aG→List (Nat×SV)
 |_,(_,_,_,_)=> []
def Ea:Nat→aG→List (Nat×Entry)
 |_,(_,_,y2,y3)=> [(0,(.row true 2 asZ y2)),(1,(.row true 2 asZ y3))]
def dl:aG→LT aG
 |(y0,y1,y2,y3)=> .ite (dp y0 y1) (.need [(dq y0),(dr y0 y2),(du y0 y2)] (.need [(bS y0 y2),(bT y0 y2 y3),(bU y0 y2 y3),(bS y0 y2),(bT y0 y2 y3),(bU y0 y2 y3)] (.nrm ((dv y0),y1,y2,(dw y0 y2 y3)) [(0,0),(1,1)]))) (.ext 0 [(0,0),(1,1)])
def jS(s:St):Option aG:=
 (match s.look 20 with
 |some ⟨none,(.one ⟨false,[(.val (.int .i64 y0))]⟩)⟩=>
 (match s.look 19 with
 |some ⟨none,(.one ⟨false,[(.val (.int .i64 y1))]⟩)⟩=>
 (match s.look 18 with
 |some ⟨none,(.one ⟨false,[(.ref 384)]⟩)⟩=>
 (match s.look 3 with
 |some ⟨none,(.one ⟨false,[(.ref 1)]⟩)⟩=>
 (match s.ent 384 with
 |some (.row true 2 (.int .i64) y2)=>
 (match s.ent 1 with
 |some (.row true 2 (.int .i64) y3)=>
 some (y0,y1,y2,y3)
 |_=>none)
 |_=>none)
 |_=>none)
 |_=>none)
 |_=>none)
 |_=>none)
def af:Lp aG where
 h:=⟨[21,22,23,6,24,25,26,27,28,29,30,20],[0,1],[],[]⟩
 JL:=DZ
 JE:=DY
 XL:=Eb
 XE:=Ea
 q:=fun j=>match j with | _=> .exit 2
 tags:= [0]
 lt:=dl
 fuel:=fun(y0,y1,y2,y3)=>y0.natAbs + y1.natAbs + y2.length + y3.length
 fix:=fun(_,y1,y2,_) (y0,_,_,y3)=>(y0,y1,y2,y3)
 σ:= [(0,384),(1,1)]
 rd:=jS
theorem Ci:LoopOk Tryz.prog (memN [14,15,4,16,17,18,19,20,21,22,23,6,24,25,26,27,28,29,30,31,13]) af.F (ah6 (ay Tryz.f157 0) 0):=by
 refine Lp.ok (tbl:= [bf,PF.lend bf,PF.fz bf,aF,PF.lend aF,PF.fz aF]) (lf:= []) ar af (by kernel_rfl) (LOk.nil _) (fun _=>rfl) (fun _ _=>rfl) ?_ ?_ ?_ ?_ (fun _=>rfl) ?_
 ·intro x;obtain⟨y0,y1,y2,y3⟩:=x;kernel_rfl
 ·intro x;obtain⟨y0,y1,y2,y3⟩:=x;kernel_rfl
 ·intro s x h
  have h:jS s=some x:=h
  unfold jS at h
  repeat' split at h
  all_goals cases h
  exact⟨aa (by assumption) rfl (aa (by assumption) rfl (aa (by assumption) rfl (aa (by assumption) rfl (rfl)))),ac rfl (by assumption) rfl (ac rfl (by assumption) rfl (rfl))⟩
 ·intro x;obtain⟨y0,y1,y2,y3⟩:=x;kernel_rfl
 ·intro x z;obtain⟨y0,y1,y2,y3⟩:=x;exact(And.intro rfl trivial)
abbrev aM:=Int×Int×Int×List Int×List Int
section
variable (y0 y1 y2:Int)(y3 y4:List Int)
def ci:Int×Int×List Int×List Int:=((0:Int),(↑(List.length (RA y2 (atI y4 y0))):Int),RA y2 (atI y4 y0),y3)
def eu:Bool:=ltI y0 y1
def ew:Bool:=Yw y2 y4 y0
def ex:Bool:=Lp.fin af (ci y0 y2 y3 y4)
def ey:Int:=IntKind.wrap .i64 (y0 + (1:Int))
def ez:List Int:=(Lp.res af (ci y0 y2 y3 y4)).2.2.2.2
end
def Gh:aM→List (Nat×SV)
 |(y0,y1,_,_,_)=> [(13,(.one ⟨false,[(.val (.int .i64 y0))]⟩)),(12,(.one ⟨false,[(.val (.int .i64 y1))]⟩)),(1,(.one ⟨false,[(.ptr 0 0)]⟩)),(3,(.one ⟨false,[(.ref 1)]⟩))]
def Gf:aM→List (Nat×Entry)
 |(_,_,y2,y3,y4)=> [(0,(.box 26 [(.val (.int .i64 y2)),(.ref 2)])),(1,(.row true 2 asZ y3)),(2,(.row false 2 asZ y4))]
def Gl:Nat→aM→List (Nat×SV)
 |_,(_,_,_,_,_)=> []
def Gj:Nat→aM→List (Nat×Entry)
 |_,(_,_,y2,y3,y4)=> [(0,(.box 26 [(.val (.int .i64 y2)),(.ref 2)])),(1,(.row true 2 asZ y3)),(2,(.row false 2 asZ y4))]
def d9:aM→LT aM
 |(y0,y1,y2,y3,y4)=> .ite (eu y0 y1) (.need [(ew y0 y2 y4)] (.need [(ex y0 y2 y3 y4)] (.nrm ((ey y0),y1,y2,(ez y0 y2 y3 y4),y4) [(0,0),(1,1),(2,2)]))) (.ext 0 [(0,0),(1,1),(2,2)])
def lk(s:St):Option aM:=
 (match s.look 13 with
 |some ⟨none,(.one ⟨false,[(.val (.int .i64 y0))]⟩)⟩=>
 (match s.look 12 with
 |some ⟨none,(.one ⟨false,[(.val (.int .i64 y1))]⟩)⟩=>
 (match s.look 1 with
 |some ⟨none,(.one ⟨false,[(.ptr 128 0)]⟩)⟩=>
 (match s.look 3 with
 |some ⟨none,(.one ⟨false,[(.ref 384)]⟩)⟩=>
 (match s.ent 128 with
 |some (.box 26 [(.val (.int .i64 y2)),(.ref 0)])=>
 (match s.ent 384 with
 |some (.row true 2 (.int .i64) y3)=>
 (match s.ent 0 with
 |some (.row false 2 (.int .i64) y4)=>
 some (y0,y1,y2,y3,y4)
 |_=>none)
 |_=>none)
 |_=>none)
 |_=>none)
 |_=>none)
 |_=>none)
 |_=>none)
def aw:Lp aM where
 h:=⟨[14,15,4,16,17,18,19,20,21,22,23,6,24,25,26,27,28,29,30,31,13],[0,1,2],[],[]⟩
 JL:=Gh
 JE:=Gf
 XL:=Gl
 XE:=Gj
 q:=fun j=>match j with | _=> .exit 0
 tags:= [0]
 lt:=d9
 fuel:=fun(y0,y1,y2,y3,y4)=>y0.natAbs + y1.natAbs + y2.natAbs + y3.length + y4.length
 fix:=fun(_,y1,y2,_,y4) (y0,_,_,y3,_)=>(y0,y1,y2,y3,y4)
 σ:= [(0,128),(1,384),(2,0)]
 rd:=lk
theorem EB:LoopOk Tryz.prog (fun k=>Nat.blt k Tryz.f157.ntmps) aw.F (ay Tryz.f157 0):=by
 refine Lp.ok (tbl:= [bf,PF.lend bf,PF.fz bf,aF,PF.lend aF,PF.fz aF]) (lf:= [af.F]) ar aw (by kernel_rfl) (LOk.allT (l:= [ah6 (ay Tryz.f157 0) 0]) (by kernel_rfl) (.cons Ci (.nil _))) (fun _=>rfl) (fun _ _=>rfl) ?_ ?_ ?_ ?_ (fun _=>rfl) ?_
 ·intro x;obtain⟨y0,y1,y2,y3,y4⟩:=x;kernel_rfl
 ·intro x;obtain⟨y0,y1,y2,y3,y4⟩:=x;kernel_rfl
 ·intro s x h
  have h:lk s=some x:=h
  unfold lk at h
  repeat' split at h
  all_goals cases h
  exact⟨aa (by assumption) rfl (aa (by assumption) rfl (aa (by assumption) rfl (aa (by assumption) rfl (rfl)))),ac rfl (by assumption) rfl (ac rfl (by assumption) rfl (ac rfl (by assumption) rfl (rfl)))⟩
 ·intro x;obtain⟨y0,y1,y2,y3,y4⟩:=x;kernel_rfl
 ·intro x z;obtain⟨y0,y1,y2,y3,y4⟩:=x;exact(And.intro rfl trivial)
section
variable (x0:Int)(x1:List Int)
def iR:Int×Int×Int×List Int×List Int:=((0:Int),cN x1,x0,List.replicate x0.toNat (0:Int),x1)
def nL:List Int:=((Lp.res aw (iR x0 x1)).2.2.2.2).1
def nM:Bool:=allT [leI (0:Int) x0,leI x0 x0,leI ((↑(8:Nat):Int) * x0) (281474976710656:Int),leI x0 (9223372036854775807:Int),Lp.fin aw (iR x0 x1)]
end
def vq:List SV→List Entry→Option Out
 | [.one ⟨true,[.val (.int .i64 x0),.ref 0]⟩],[.row false 2 (.int .i64) x1]=>some ⟨(.one ⟨false,[(.ref 1)]⟩),[(.row false 2 asZ x1)],[(.row true 2 asZ (nL x0 x1))],[(nM x0 x1)]⟩
 |_,_=>none
def IM:PF Tryz.prog:=PF.ofG Tryz.prog [bf,PF.lend bf,PF.fz bf,aF,PF.lend aF,PF.fz aF] [aw.F] ar 157 Tryz.f157 Tryz.func157 (LOk.fnT (l:= [ay Tryz.f157 0]) (by kernel_rfl) (.cons EB (.nil _))) vq (by
 intro vs es r h;unfold vq at h;split at h
 ·cases h;kernel_rfl
 ·cases h)
end Go.SX

namespace Go.SX
open Go.Proofs
set_option maxRecDepth 100000
def sH(n:Int)(ps:List Int):List Int:=(List.range n.toNat).map fun(b:Nat)=>(Zg n ps (b:Int):Int)
theorem WR(n:Int)(ps:List Int):(sH n ps).length=n.toNat:=by simp [sH]
def bq(b:Int):(List Int)→Nat ⊕ (List Int)
 |y3=>(.inr (List.set y3 (Int.toNat b) (IntKind.wrap .i64 (Option.getD y3[Int.toNat (b)]? (0:Int) + (1:Int)))))
def aY(y2:List Int)(i:Nat):(List Int)→aG
 |y3=>((i:Int),(↑y2.length:Int),y2,y3)
def jR:aG→List Int
 |(_,_,_,y3)=>y3
theorem ED(y2 y3:List Int)(hn:y2.length≤9223372036854775807)(hU: ∀ u∈y2,0≤u∧u < (y3.length:Int)):
  af.fin ((0:Int),(↑y2.length:Int),y2,y3)=true∧af.res ((0:Int),(↑y2.length:Int),y2,y3)=((ag (bq) 0 y2 0 y3).1,(aY y2) (ag (bq) 0 y2 0 y3).2.1 (ag (bq) 0 y2 0 y3).2.2):=by
 have key:=af.along (aY y2) jR (bq) 0 (fun _ a=>a.length=y3.length) y2 y3 rfl (by simp only [af,aY];omega) (fun i b a hb hI=> ?_) (fun a hI=> ?_)
 ·exact key
 ·obtain y3:=a
  have hlt:=(List.getElem?_eq_some_iff.1 hb).1
  have hget: ∀ d,Option.getD y2[i]? d=b:=fun d=>by rw [hb];rfl
  have hw:=py hlt hn
  have hdec:ltI (i:Int) (y2.length:Int)=true:=ce (by omega)
  have hnn:leI (0:Int) (i:Int)=true:=bH (by omega)
  have hltd:ltN i y2.length=true:=cM hlt
  refine⟨?_,?_,?_,?_⟩
  ·have hu:=hU b (List.mem_of_getElem? hb)
   have e1:leI 0 b=true:=bH hu.1
   have e2:ltI b (a.length:Int)=true:=ce (by omega)
   have e3:ltN b.toNat a.length=true:=cM (by omega)
   simp only [aO,dp,dq,dr,du,bS,bT,bU,dv,dw,dl,af,LT.nds,allT,aY,Int.toNat_natCast,hdec,hnn,hltd,hget,e1,e2,e3,cond_true]
  ·simp [aO,dp,dq,dr,du,bS,bT,bU,dv,dw,dl,af,LT.each,aY,jR,hw]
  ·simp only [aO,dp,dq,dr,du,bS,bT,bU,dv,dw,dl,af,LT.fn,aY,jR,bq,Int.toNat_natCast,hdec,hnn,hltd,hget,cond_true,Bool.cond_self]
  ·intro a' hf;simp only [bq,Sum.inr.injEq]at hf;subst hf;simpa using hI
 ·obtain y3:=a
  simp [aO,dp,dq,dr,du,bS,bT,bU,dv,dw,dl,af,LT.out,aY]
def ars(a:List Int)(u:Int):List Int:=a.set u.toNat (IntKind.wrap .i64 (Option.getD a[u.toNat]? 0 + 1))
theorem aso(N:Nat): ∀ (us:List Int) (c:Nat→Int),(∀ u∈us,0≤u∧u < (N:Int))→(∀ b,0≤c b∧c b + us.length≤1000000)→
  us.foldl ars ((List.range N).map c)=(List.range N).map fun(b:Nat)=>c b + (us.count (b:Int):Int)
 | [],c,_,_=>by simp
 |u::us,c,hu,hc=>by
  have hu0:=hu u (by simp)
  have hlt:u.toNat < N:=by omega
  have h1:ars ((List.range N).map c) u=(List.range N).map fun(b:Nat)=>if (b:Int)=u then c b + 1 else c b:=by
   unfold ars
   have hg:Option.getD ((List.range N).map c)[u.toNat]? 0=c u.toNat:=by simp [List.getElem?_map,List.getElem?_range hlt]
   have hcu:=hc u.toNat
   simp only [List.length_cons]at hcu
   rw [hg,aA (by omega) (by omega)]
   refine List.ext_getElem? fun i=> ?_
   rw [List.getElem?_set]
   by_cases hi:u.toNat=i
   ·rw [if_pos hi,if_pos (by simpa using hlt)]
    subst hi
    rw [List.getElem?_map,List.getElem?_range hlt,Option.map_some,if_pos (by omega)]
   ·rw [if_neg hi,List.getElem?_map,List.getElem?_map]
    by_cases hiN:i < N
    ·rw [List.getElem?_range hiN,Option.map_some,Option.map_some,if_neg (by omega)]
    ·rw [List.getElem?_eq_none (by simp;omega)];rfl
  rw [List.foldl_cons,h1,aso N us _ (fun v hv=>hu v (by simp [hv])) (fun b=>by
   have:=hc b
   simp only [List.length_cons]at this
   split <;> omega)]
  refine List.map_congr_left fun b _=> ?_
  rw [List.count_cons]
  by_cases hb:(b:Int)=u
  ·rw [if_pos hb,if_pos (by simp [hb])];omega
  ·rw [if_neg hb,if_neg (by simp;omega)];omega
theorem akd{n p:Int}{qs:List Int}(h:okP n p=true)(hq:qs.length≤50):
  af.fin ((0:Int),((RA n p).length:Int),RA n p,sH n qs)=true∧
   (af.res ((0:Int),((RA n p).length:Int),RA n p,sH n qs)).2.2.2.2=sH n (qs++ [p]):=by
 obtain⟨hu,hl,hc⟩:=api h
 have hn:=(ajR.1 h).1
 obtain⟨w1,w2⟩:=ED (RA n p) (sH n qs) (by omega) (fun u hm=>by rw [WR];have:=hu u hm;omega)
 refine⟨w1,?_⟩
 rw [w2,iA (f:=bq) (g:=ars) (fun b a=>rfl)]
 simp only [aY]
 unfold sH
 rw [aso n.toNat (RA n p) _ (fun u hm=>by have:=hu u hm;omega) (fun b=>by
  have:Zg n qs (b:Int)≤qs.length:=List.countP_le_length
  omega)]
 refine List.map_congr_left fun b _=> ?_
 rw [hc b]
 simp only [Zg,List.countP_append,List.countP_cons,List.countP_nil]
 cases YO n p (b:Int) <;> simp
theorem al3{ps:List Int}{b:Nat}(h:b < ps.length):ps.take (b + 1)=ps.take b++ [ps[b]?.getD 0]:=by
 rw [List.take_add_one,List.getElem?_eq_getElem h];rfl
def aB(y2:Int)(y4:List Int)(b:Nat):(List Int)→Nat ⊕ (List Int)
 |y3=>(.inr ((Lp.res af ((0:Int),(↑(List.length (RA y2 (atI y4 (↑b:Int)))):Int),RA y2 (atI y4 (↑b:Int)),y3)).2.2.2.2))
def bh(y1 y2:Int)(y4:List Int)(i:Nat):(List Int)→aM
 |y3=>((i:Int),y1,y2,y3,y4)
def li:aM→List Int
 |(_,_,_,y3,_)=>y3
theorem GU(y1 y2:Int)(y4 y3:List Int)(hn:y1≤9223372036854775807)(hl:y1=(y4.length:Int))(hT:isT y2 y4=true)(h3:y3=sH y2 []):
  aw.fin ((0:Int),y1,y2,y3,y4)=true∧aw.res ((0:Int),y1,y2,y3,y4)=((ag (aB y2 y4) 0 (List.range y1.toNat) 0 y3).1,(bh y1 y2 y4) (ag (aB y2 y4) 0 (List.range y1.toNat) 0 y3).2.1 (ag (aB y2 y4) 0 (List.range y1.toNat) 0 y3).2.2):=by
 have key:=aw.along (bh y1 y2 y4) li (aB y2 y4) 0 (fun i a=>a=sH y2 (y4.take i)) (List.range y1.toNat) y3 (by subst h3;simp) (by simp only [aw,bh,List.length_range];omega) (fun i b a hb hI=> ?_) (fun a hI=> ?_)
 ·exact key
 ·obtain y3:=a
  obtain⟨rfl,hlt⟩:=fU hb
  have hw:IntKind.i64.wrap ((b:Int) + 1)=((b + 1:Nat):Int):=by rw [aA (by omega) (by omega)];omega
  have hdec:ltI (b:Int) y1=true:=ce (by omega)
  have hnn:leI (0:Int) (b:Int)=true:=bH (by omega)
  refine⟨?_,?_,?_,?_⟩
  ·have h4:=(BU.1 hT).2.1
   have hbl:b < y4.length:=by omega
   have hm:Yw y2 y4 (b:Int)=true:=ag9.2 ⟨hT,XZ.2 (by omega)⟩
   have hp:okP y2 (atI y4 (b:Int))=true:=ajN hT (by unfold atI;rw [Int.toNat_natCast,List.getElem?_eq_getElem hbl];exact List.getElem_mem hbl)
   obtain⟨i1,i2⟩:=akd (qs:=y4.take b) hp (by rw [List.length_take];omega)
   subst hI
   simp only [ci,eu,ew,ex,ey,ez,d9,aw,LT.nds,allT,bh,hdec,hm,i1,cond_true]
  ·simp [ci,eu,ew,ex,ey,ez,d9,aw,LT.each,bh,li,hw]
  ·simp only [ci,eu,ew,ex,ey,ez,d9,aw,LT.fn,bh,li,aB,Int.toNat_natCast,hdec,hnn,cond_true,Bool.cond_self]
  ·intro a' hf
   have h4:=(BU.1 hT).2.1
   have hbl:b < y4.length:=by omega
   have hp:okP y2 (atI y4 (b:Int))=true:=ajN hT (by unfold atI;rw [Int.toNat_natCast,List.getElem?_eq_getElem hbl];exact List.getElem_mem hbl)
   obtain⟨i1,i2⟩:=akd (qs:=y4.take b) hp (by rw [List.length_take];omega)
   subst hI
   simp only [aB,i2,Sum.inr.injEq]at hf
   rw [← hf,al3 hbl]
   rfl
 ·obtain y3:=a
  simp only [ci,eu,ew,ex,ey,ez,d9,aw,LT.out,bh,List.length_range,Yt,acY,cond_false]
theorem arR(n:Int)(ps:List Int): ∀ (m:Nat),m≤ps.length→(∀ b,b < m→ ∀ a,a=sH n (ps.take b)→aB n ps b a= .inr (sH n (ps.take (b + 1))))→
  (ag (aB n ps) 0 (List.range m) 0 (sH n [])).2.2=sH n (ps.take m):=by
 have key: ∀ (k i s:Nat),(∀ b,b < s + k→ ∀ a,a=sH n (ps.take b)→aB n ps b a= .inr (sH n (ps.take (b + 1))))→
   (ag (aB n ps) 0 ((List.range k).map (· + s)) i (sH n (ps.take s))).2.2=sH n (ps.take (s + k)):=by
  intro k
  induction k with
  |zero=>intro i s _;rfl
  |succ k ih=>
   intro i s hb
   rw [List.range_succ_eq_map,List.map_cons,List.map_map]
   simp only [ag,Nat.zero_add]
   rw [hb s (by omega) _ rfl]
   have:=ih (i + 1) (s + 1) (fun b hlt=>hb b (by omega))
   have he:List.map ((fun x=>x + s) ∘ Nat.succ) (List.range k)=(List.range k).map (· + (s + 1)):=List.map_congr_left fun x _=>by simp only [Function.comp];omega
   rw [he]
   show (ag (aB n ps) 0 ((List.range k).map (· + (s + 1))) (i + 1) (sH n (ps.take (s + 1)))).2.2=_
   rw [this]
   congr 2;omega
 intro m hm hb
 have:=key m 0 0 (by simpa using hb)
 simpa using this
theorem aq4(n:Int)(ps:List Int)(hT:isT n ps=true):nL n ps=sH n ps∧nM n ps=true:=by
 have h1:=(BU.1 hT).1
 have h4:=(BU.1 hT).2.1
 have hr:List.replicate (Int.toNat n) (0:Int)=sH n []:=by
  unfold sH
  refine List.ext_getElem (by simp) fun i h1 h2=>by simp [Zg]
 obtain⟨w1,w2⟩:=GU (ps.length:Int) n ps (sH n []) (by omega) rfl hT rfl
 have hw:=arR n ps ps.length (Nat.le_refl _) (fun b hb a ha=>by
  have hp:okP n (atI ps (b:Int))=true:=ajN hT (by unfold atI;rw [Int.toNat_natCast,List.getElem?_eq_getElem hb];exact List.getElem_mem hb)
  obtain⟨i1,i2⟩:=akd (qs:=ps.take b) hp (by rw [List.length_take];omega)
  subst ha
  simp only [aB,i2,al3 hb]
  rfl)
 have e1:(ps.length:Int).toNat=ps.length:=by omega
 rw [e1]at w2
 refine⟨?_,?_⟩
 ·simp only [nL,iR,cN,hr,w2,bh,hw,List.take_length]
 ·simp only [nM,iR,cN,hr,w1,allT]
  simp;omega
def vA:List SV→List Entry→Option Out
 | [.one ⟨true,[.val (.int .i64 x0),.ref 0]⟩],[.row false 2 (.int .i64) x1]=>some ⟨(.one ⟨false,[(.ref 1)]⟩),[(.row false 2 asZ x1)],[(.row true 2 asZ (sH x0 x1))],[isT x0 x1]⟩
 |_,_=>none
def bg:PF Tryz.prog:=PF.alt IM vA (by
 intro args es o h hnd;unfold vA at h;split at h
 ·rename_i x0 x1
  cases h
  have hnd:=cf hnd
  have hh:=aq4 x0 x1 hnd
  obtain⟨e0,en⟩:=hh
  exact eT rfl (cg en) rfl rfl (by simp only [e0] <;> rfl)
 ·cases h)
end Go.SX

namespace Go.SX
open Go.Proofs
set_option maxRecDepth 100000
def QI(x0:Int):Bool:=aI x0 (2:Int) (8:Int)
def Xp:List SV→List Entry→Option Out
 | [.one ⟨false,[.val (.int .i64 x0)]⟩],[]=>some ⟨(.one ⟨false,[(.val (.bool (QI x0)))]⟩),[],[],[]⟩
 |_,_=>none
def QB:PF Tryz.prog:=PF.ofG Tryz.prog [fg] [] ar 72 Tryz.f72 Tryz.func72 (fun c _=>LOk.nil c) Xp (by
 intro vs es r h;unfold Xp at h;split at h
 ·cases h;kernel_rfl
 ·cases h)
abbrev gp:=Int×Int×List (Int×(Int×Int))×Int×Int×Int
section
variable (y0 y1:Int)(y2:List (Int×(Int×Int)))(y3 y4:Int)
def oa:Int×Int×Int:=Option.getD y2[Int.toNat y0]? ((0:Int),(0:Int),(0:Int))
def iY:Bool:=(oa y0 y2).1==y3
def tq:Bool:=ltI y0 y1
def tt:Bool:=leI (0:Int) y0
def tu:Bool:=ltI y0 (↑y2.length:Int)
def tv:Bool:=ltN y0.toNat y2.length
def tw:Bool:= !(iY y0 y2 y3&&true)||leI (0:Int) y0
def tx:Bool:= !(iY y0 y2 y3&&true)||ltI y0 (↑y2.length:Int)
def tz:Bool:= !(iY y0 y2 y3&&true)||ltN y0.toNat y2.length
def tA:Bool:=bif iY y0 y2 y3 then ((oa y0 y2).2).1==y4 else false
def tB:Int:=IntKind.wrap .i64 (y0 + (1:Int))
end
def Xx:gp→List (Nat×SV)
 |(y0,y1,_,_,_,_)=> [(7,(.one ⟨false,[(.val (.int .i64 y0))]⟩)),(5,(.one ⟨false,[(.val (.int .i64 y1))]⟩)),(1,(.one ⟨false,[(.ref 0)]⟩)),(6,(.one ⟨false,[(.ptr 1 0)]⟩))]
def Xu:gp→List (Nat×Entry)
 |(_,_,y2,y3,y4,y5)=> [(0,(.row false 169 asX y2)),(1,(.box 169 [(.val (.int .i64 y3)),(.val (.int .i64 y4)),(.val (.int .i64 y5))]))]
def XX:Nat→gp→List (Nat×SV)
 |0,(_,_,_,_,_,_)=> [(4,(.one ⟨false,[(.val (.bool false))]⟩))]
 |_,(_,_,_,_,_,_)=> []
def XU:Nat→gp→List (Nat×Entry)
 |0,(_,_,y2,y3,y4,y5)=> [(0,(.row false 169 asX y2)),(1,(.box 169 [(.val (.int .i64 y3)),(.val (.int .i64 y4)),(.val (.int .i64 y5))]))]
 |_,(_,_,y2,y3,y4,y5)=> [(0,(.row false 169 asX y2)),(1,(.box 169 [(.val (.int .i64 y3)),(.val (.int .i64 y4)),(.val (.int .i64 y5))]))]
def sd:gp→LT gp
 |(y0,y1,y2,y3,y4,y5)=> .ite (tq y0 y1) (.need [(tt y0),(tu y0 y2),(tv y0 y2),(tw y0 y2 y3),(tx y0 y2 y3),(tz y0 y2 y3)] (.ite (tA y0 y2 y3 y4) (.ext 0 [(0,0),(1,1)]) (.nrm ((tB y0),y1,y2,y3,y4,y5) [(0,0),(1,1)]))) (.ext 1 [(0,0),(1,1)])
def Fu(s:St):Option gp:=
 (match s.look 7 with
 |some ⟨none,(.one ⟨false,[(.val (.int .i64 y0))]⟩)⟩=>
 (match s.look 5 with
 |some ⟨none,(.one ⟨false,[(.val (.int .i64 y1))]⟩)⟩=>
 (match s.look 1 with
 |some ⟨none,(.one ⟨false,[(.ref 0)]⟩)⟩=>
 (match s.look 6 with
 |some ⟨none,(.one ⟨false,[(.ptr 576 0)]⟩)⟩=>
 (match s.ent 0 with
 |some (.row false 169 (.pair (.int .i64) (.pair (.int .i64) (.int .i64))) y2)=>
 (match s.ent 576 with
 |some (.box 169 [(.val (.int .i64 y3)),(.val (.int .i64 y4)),(.val (.int .i64 y5))])=>
 some (y0,y1,y2,y3,y4,y5)
 |_=>none)
 |_=>none)
 |_=>none)
 |_=>none)
 |_=>none)
 |_=>none)
def bJ:Lp gp where
 h:=⟨[36,37,38,41,42,43,44,45,46,47,48,49,50,51,52,53,54,55,56,57,58,4,39,40,7],[0,1],[],[]⟩
 JL:=Xx
 JE:=Xu
 XL:=XX
 XE:=XU
 q:=fun j=>match j with | 0=> .ret | _=> .exit 2
 tags:= [0,1]
 lt:=sd
 fuel:=fun(y0,y1,y2,y3,y4,y5)=>y0.natAbs + y1.natAbs + y2.length + y3.natAbs + y4.natAbs + y5.natAbs
 fix:=fun(_,y1,y2,y3,y4,y5) (y0,_,_,_,_,_)=>(y0,y1,y2,y3,y4,y5)
 σ:= [(0,0),(1,576)]
 rd:=Fu
theorem Vw:LoopOk Tryz.prog (memN [8,9,10,11,14,15,16,17,6,18,19,20,21,22,23,24,25,26,27,28,29,30,31,32,33,34,35,4,7,36,37,38,41,42,43,44,45,46,47,48,49,50,51,52,53,54,55,56,57,58,39,40,12,13,5]) bJ.F (ah6 (ay Tryz.f85 0) 0):=by
 refine Lp.ok (tbl:= [QB,fg]) (lf:= []) ar bJ (by kernel_rfl) (LOk.nil _) (fun _=>rfl) (fun j _=>by unfold bJ;match j with | 0=>rfl | _ + 1=>rfl) ?_ ?_ ?_ ?_ (fun _=>rfl) ?_
 ·intro x;obtain⟨y0,y1,y2,y3,y4,y5⟩:=x;kernel_rfl
 ·intro x;obtain⟨y0,y1,y2,y3,y4,y5⟩:=x;kernel_rfl
 ·intro s x h
  have h:Fu s=some x:=h
  unfold Fu at h
  repeat' split at h
  all_goals cases h
  exact⟨aa (by assumption) rfl (aa (by assumption) rfl (aa (by assumption) rfl (aa (by assumption) rfl (rfl)))),ac rfl (by assumption) rfl (ac rfl (by assumption) rfl (rfl))⟩
 ·intro x;obtain⟨y0,y1,y2,y3,y4,y5⟩:=x;kernel_rfl
 ·intro x z;obtain⟨y0,y1,y2,y3,y4,y5⟩:=x;exact(And.intro (And.intro trivial rfl) trivial)
abbrev mz:=Int×Int×List (Int×(Int×Int))
section
variable (y0 y1:Int)(y2:List (Int×(Int×Int)))
def oQ:Int×Int×Int:=Option.getD y2[Int.toNat y0]? ((0:Int),(0:Int),(0:Int))
def JS:Int×Int×List (Int×Int×Int)×Int×Int×Int:=((0:Int),y0,y2,(oQ y0 y2).1,((oQ y0 y2).2).1,(oQ y0 y2).2.2)
def zj:Bool:=ltI y0 (↑y2.length:Int)
def SG:Bool:=leI (0:Int) y0
def SH:Bool:=ltN y0.toNat y2.length
def KY:Bool:=bif bif !aI ((oQ y0 y2).1) (0:Int) (IntKind.wrap .i64 (y1 - (1:Int)))then true else !aI (((oQ y0 y2).2).1) (0:Int) (1:Int)then true else !aI ((oQ y0 y2).2.2) (0:Int) (1:Int)
def SI:Bool:=Lp.fin bJ (JS y0 y2)
def KZ:Bool:=Nat.beq ((Lp.res bJ (JS y0 y2)).1) (0:Nat)
def SJ:Int:=IntKind.wrap .i64 (y0 + (1:Int))
end
def ab1:mz→List (Nat×SV)
 |(y0,y1,_)=> [(5,(.one ⟨false,[(.val (.int .i64 y0))]⟩)),(1,(.one ⟨false,[(.ref 0)]⟩)),(0,(.one ⟨false,[(.val (.int .i64 y1))]⟩))]
def abR:mz→List (Nat×Entry)
 |(_,_,y2)=> [(0,(.row false 169 asX y2))]
def acw:Nat→mz→List (Nat×SV)
 |0,(_,_,_)=> [(4,(.one ⟨false,[(.val (.bool false))]⟩))]
 |1,(_,_,_)=> [(4,(.one ⟨false,[(.val (.bool false))]⟩))]
 |_,(_,_,_)=> []
def acm:Nat→mz→List (Nat×Entry)
 |0,(_,_,y2)=> [(0,(.row false 169 asX y2))]
 |1,(_,_,y2)=> [(0,(.row false 169 asX y2))]
 |_,(_,_,y2)=> [(0,(.row false 169 asX y2))]
def wB:mz→LT mz
 |(y0,y1,y2)=> .ite (zj y0 y2) (.need [(SG y0),(zj y0 y2),(SH y0 y2)] (.ite (KY y0 y1 y2) (.ext 0 [(0,0)]) (.need [(SI y0 y2)] (.ite (KZ y0 y2) (.ext 1 [(0,0)]) (.nrm ((SJ y0),y1,y2) [(0,0)]))))) (.ext 2 [(0,0)])
def JQ(s:St):Option mz:=
 (match s.look 5 with
 |some ⟨none,(.one ⟨false,[(.val (.int .i64 y0))]⟩)⟩=>
 (match s.look 1 with
 |some ⟨none,(.one ⟨false,[(.ref 0)]⟩)⟩=>
 (match s.look 0 with
 |some ⟨none,(.one ⟨false,[(.val (.int .i64 y1))]⟩)⟩=>
 (match s.ent 0 with
 |some (.row false 169 (.pair (.int .i64) (.pair (.int .i64) (.int .i64))) y2)=>
 some (y0,y1,y2)
 |_=>none)
 |_=>none)
 |_=>none)
 |_=>none)
def cd:Lp mz where
 h:=⟨[8,9,10,11,14,15,16,17,6,18,19,20,21,22,23,24,25,26,27,28,29,30,31,32,33,34,35,4,7,36,37,38,41,42,43,44,45,46,47,48,49,50,51,52,53,54,55,56,57,58,39,40,12,13,5],[0],[],[]⟩
 JL:=ab1
 JE:=abR
 XL:=acw
 XE:=acm
 q:=fun j=>match j with | 0=> .ret | 1=> .ret | _=> .exit 0
 tags:= [0,1,2]
 lt:=wB
 fuel:=fun(y0,y1,y2)=>y0.natAbs + y1.natAbs + y2.length
 fix:=fun(_,y1,y2) (y0,_,_)=>(y0,y1,y2)
 σ:= [(0,0)]
 rd:=JQ
theorem Zx:LoopOk Tryz.prog (fun k=>Nat.blt k Tryz.f85.ntmps) cd.F (ay Tryz.f85 0):=by
 refine Lp.ok (tbl:= [QB,fg]) (lf:= [bJ.F]) ar cd (by kernel_rfl) (LOk.allT (l:= [ah6 (ay Tryz.f85 0) 0]) (by kernel_rfl) (.cons Vw (.nil _))) (fun _=>rfl) (fun j _=>by unfold cd;match j with | 0=>rfl | 1=>rfl | _ + 2=>rfl) ?_ ?_ ?_ ?_ (fun _=>rfl) ?_
 ·intro x;obtain⟨y0,y1,y2⟩:=x;kernel_rfl
 ·intro x;obtain⟨y0,y1,y2⟩:=x;kernel_rfl
 ·intro s x h
  have h:JQ s=some x:=h
  unfold JQ at h
  repeat' split at h
  all_goals cases h
  exact⟨aa (by assumption) rfl (aa (by assumption) rfl (aa (by assumption) rfl (rfl))),ac rfl (by assumption) rfl (rfl)⟩
 ·intro x;obtain⟨y0,y1,y2⟩:=x;kernel_rfl
 ·intro x z;obtain⟨y0,y1,y2⟩:=x;exact(And.intro (And.intro trivial (And.intro trivial rfl)) trivial)
section
variable (x0:Int)(x1:List (Int×Int×Int))
def DC:Int×Int×List (Int×Int×Int):=((0:Int),x0,x1)
def QD:Bool:=bif Nat.beq ((Lp.res cd (DC x0 x1)).1) (0:Nat)then false else bif Nat.beq ((Lp.res cd (DC x0 x1)).1) (1:Nat)then false else bif QI x0 then leI (↑x1.length:Int) (8:Int)else false
def QE:Bool:=allT [Lp.fin cd (DC x0 x1)]
end
def Xm:List SV→List Entry→Option Out
 | [.one ⟨false,[.val (.int .i64 x0)]⟩,.one ⟨false,[.ref 0]⟩],[.row false 169 (.pair (.int .i64) (.pair (.int .i64) (.int .i64))) x1]=>some ⟨(.one ⟨false,[(.val (.bool (QD x0 x1)))]⟩),[(.row false 169 asX x1)],[],[(QE x0 x1)]⟩
 |_,_=>none
def aiz:PF Tryz.prog:=PF.ofG Tryz.prog [QB,fg] [cd.F] ar 85 Tryz.f85 Tryz.func85 (LOk.fnT (l:= [ay Tryz.f85 0]) (by kernel_rfl) (.cons Zx (.nil _))) Xm (by
 intro vs es r h;unfold Xm at h;split at h
 ·cases h;kernel_rfl
 ·cases h)
def Ju(x0:Int):Bool:=bif x0==(0:Int)then true else x0==(1:Int)
def Ra:List SV→List Entry→Option Out
 | [.one ⟨false,[.val (.int .i64 x0)]⟩],[]=>some ⟨(.one ⟨false,[(.val (.bool (Ju x0)))]⟩),[],[],[]⟩
 |_,_=>none
def Rt:PF Tryz.prog:=PF.ofG Tryz.prog [] [] ar 163 Tryz.f163 Tryz.func163 (fun c _=>LOk.nil c) Ra (by
 intro vs es r h;unfold Ra at h;split at h
 ·cases h;kernel_rfl
 ·cases h)
def vD(x0 x1 x3 x4:Int):Bool:=bif x0==x3 then x1==x4 else false
def vB:List SV→List Entry→Option Out
 | [(.one ⟨true,[(.val (.int .i64 x0)),(.val (.int .i64 x1)),(.val (.int .i64 _x2))]⟩),(.one ⟨false,[(.ptr 0 0)]⟩)],[(.box 169 [(.val (.int .i64 x3)),(.val (.int .i64 x4)),(.val (.int .i64 x5))])]=>some ⟨(.one ⟨false,[(.val (.bool (vD x0 x1 x3 x4)))]⟩),[(.box 169 [(.val (.int .i64 x3)),(.val (.int .i64 x4)),(.val (.int .i64 x5))])],[],[]⟩
 |_,_=>none
def Lq:PF Tryz.prog:=PF.kept (PF.ofG Tryz.prog [] [] ar 165 Tryz.f165 Tryz.func165 (fun c _=>LOk.nil c) vB (by
 intro vs es r h;unfold vB at h;split at h
 ·cases h;kernel_rfl
 ·cases h)) [0] (by
 intro vs es r h;have h:vB vs es=some r:=h;unfold vB at h;split at h
 ·cases h;exact List.forall_mem_cons.2 ⟨rfl,fun _ h=>(by cases h)⟩
 ·cases h)
abbrev aH:=Int×Int×Int×Int×Int×List (Int×(Int×Int))
section
variable (y0 y1 y2 y3:Int)(y5:List (Int×(Int×Int)))
def bV:Int×Int×Int:=Option.getD y5[Int.toNat y0]? ((0:Int),(0:Int),(0:Int))
def dS:Bool:=ltI y0 y1
def dT:Bool:=leI (0:Int) y0
def dU:Bool:=ltI y0 (↑y5.length:Int)
def dV:Bool:=ltN y0.toNat y5.length
def dW:Bool:=vD ((bV y0 y5).1) (((bV y0 y5).2).1) y2 y3
def dX:Int:=IntKind.wrap .i64 (y0 + (1:Int))
end
def Ey:aH→List (Nat×SV)
 |(y0,y1,_,_,_,_)=> [(8,(.one ⟨false,[(.val (.int .i64 y0))]⟩)),(7,(.one ⟨false,[(.val (.int .i64 y1))]⟩)),(1,(.one ⟨false,[(.clo 165 [0])]⟩)),(0,(.one ⟨false,[(.ref 1)]⟩))]
def Ew:aH→List (Nat×Entry)
 |(_,_,y2,y3,y4,y5)=> [(0,(.box 169 [(.val (.int .i64 y2)),(.val (.int .i64 y3)),(.val (.int .i64 y4))])),(1,(.row false 169 asX y5))]
def EA:Nat→aH→List (Nat×SV)
 |0,(y0,_,_,_,_,_)=> [(4,(.one ⟨false,[(.val (.int .i64 y0))]⟩))]
 |_,(_,_,_,_,_,_)=> []
def Ez:Nat→aH→List (Nat×Entry)
 |0,(_,_,y2,y3,y4,y5)=> [(0,(.box 169 [(.val (.int .i64 y2)),(.val (.int .i64 y3)),(.val (.int .i64 y4))])),(1,(.row false 169 asX y5))]
 |_,(_,_,y2,y3,y4,y5)=> [(0,(.box 169 [(.val (.int .i64 y2)),(.val (.int .i64 y3)),(.val (.int .i64 y4))])),(1,(.row false 169 asX y5))]
def dx:aH→LT aH
 |(y0,y1,y2,y3,y4,y5)=> .ite (dS y0 y1) (.need [(dT y0),(dU y0 y5),(dV y0 y5)] (.ite (dW y0 y2 y3 y5) (.ext 0 [(0,0),(1,1)]) (.nrm ((dX y0),y1,y2,y3,y4,y5) [(0,0),(1,1)]))) (.ext 1 [(0,0),(1,1)])
def ki(s:St):Option aH:=
 (match s.look 8 with
 |some ⟨none,(.one ⟨false,[(.val (.int .i64 y0))]⟩)⟩=>
 (match s.look 7 with
 |some ⟨none,(.one ⟨false,[(.val (.int .i64 y1))]⟩)⟩=>
 (match s.look 1 with
 |some ⟨none,(.one ⟨false,[(.clo 165 [1])]⟩)⟩=>
 (match s.look 0 with
 |some ⟨none,(.one ⟨false,[(.ref 0)]⟩)⟩=>
 (match s.ent 1 with
 |some (.box 169 [(.val (.int .i64 y2)),(.val (.int .i64 y3)),(.val (.int .i64 y4))])=>
 (match s.ent 0 with
 |some (.row false 169 (.pair (.int .i64) (.pair (.int .i64) (.int .i64))) y5)=>
 some (y0,y1,y2,y3,y4,y5)
 |_=>none)
 |_=>none)
 |_=>none)
 |_=>none)
 |_=>none)
 |_=>none)
def ah:Lp aH where
 h:=⟨[9,10,5,11,12,13,14,15,16,17,4,18,8],[0,1],[],[]⟩
 JL:=Ey
 JE:=Ew
 XL:=EA
 XE:=Ez
 q:=fun j=>match j with | 0=> .ret | _=> .exit 0
 tags:= [0,1]
 lt:=dx
 fuel:=fun(y0,y1,y2,y3,y4,y5)=>y0.natAbs + y1.natAbs + y2.natAbs + y3.natAbs + y4.natAbs + y5.length
 fix:=fun(_,y1,y2,y3,y4,y5) (y0,_,_,_,_,_)=>(y0,y1,y2,y3,y4,y5)
 σ:= [(0,1),(1,0)]
 rd:=ki
theorem Ds:LoopOk Tryz.prog (fun k=>Nat.blt k Tryz.f215.ntmps) ah.F (ay Tryz.f215 0):=by
 refine Lp.ok (tbl:= [Lq]) (lf:= []) ar ah (by kernel_rfl) (LOk.nil _) (fun _=>rfl) (fun j _=>by unfold ah;match j with | 0=>rfl | _ + 1=>rfl) ?_ ?_ ?_ ?_ (fun _=>rfl) ?_
 ·intro x;obtain⟨y0,y1,y2,y3,y4,y5⟩:=x;kernel_rfl
 ·intro x;obtain⟨y0,y1,y2,y3,y4,y5⟩:=x;kernel_rfl
 ·intro s x h
  have h:ki s=some x:=h
  unfold ki at h
  repeat' split at h
  all_goals cases h
  exact⟨aa (by assumption) rfl (aa (by assumption) rfl (aa (by assumption) rfl (aa (by assumption) rfl (rfl)))),ac rfl (by assumption) rfl (ac rfl (by assumption) rfl (rfl))⟩
 ·intro x;obtain⟨y0,y1,y2,y3,y4,y5⟩:=x;kernel_rfl
 ·intro x z;obtain⟨y0,y1,y2,y3,y4,y5⟩:=x;exact(And.intro (And.intro trivial rfl) trivial)
section
variable (x0:List (Int×Int×Int))(x1 x2 x3:Int)
def eL:Int×Int×Int×Int×Int×List (Int×Int×Int):=((0:Int),(↑x0.length:Int),x1,x2,x3,x0)
def cJ:Bool:=Nat.beq ((Lp.res ah (eL x0 x1 x2 x3)).1) (0:Nat)
def iD:Int:=bif cJ x0 x1 x2 x3 then ((Lp.res ah (eL x0 x1 x2 x3)).2).1else(-1:Int)
def iE:Int:=bif cJ x0 x1 x2 x3 then x1 else x1
def iF:Int:=bif cJ x0 x1 x2 x3 then x2 else x2
def iG:Int:=bif cJ x0 x1 x2 x3 then x3 else x3
def iH:Bool:=allT [Lp.fin ah (eL x0 x1 x2 x3)]
end
def ug:List SV→List Entry→Option Out
 | [(.one ⟨false,[(.ref 0)]⟩),(.one ⟨false,[(.clo 165 [1])]⟩)],[(.row false 169 (.pair (.int .i64) (.pair (.int .i64) (.int .i64))) x0),(.box 169 [(.val (.int .i64 x1)),(.val (.int .i64 x2)),(.val (.int .i64 x3))])]=>some ⟨(.one ⟨false,[(.val (.int .i64 (iD x0 x1 x2 x3)))]⟩),[(.row false 169 asX x0),(.box 169 [(.val (.int .i64 (iE x0 x1 x2 x3))),(.val (.int .i64 (iF x0 x1 x2 x3))),(.val (.int .i64 (iG x0 x1 x2 x3)))])],[],[(iH x0 x1 x2 x3)]⟩
 |_,_=>none
def mb:PF Tryz.prog:=PF.ofG Tryz.prog [Lq] [ah.F] ar 215 Tryz.f215 Tryz.func215 (LOk.fnT (l:= [ay Tryz.f215 0]) (by kernel_rfl) (.cons Ds (.nil _))) ug (by
 intro vs es r h;unfold ug at h;split at h
 ·cases h;kernel_rfl
 ·cases h)
section
variable (x0:List (Int×Int×Int))(x1 x2 x3:Int)
def dQ:Bool:=leI (0:Int) (iD x0 x1 x2 x3)
def kL:Int:=iE x0 x1 x2 x3
def kM:Int:=iF x0 x1 x2 x3
def kN:Int:=iG x0 x1 x2 x3
def dR:Bool:=allT [iH x0 x1 x2 x3]
end
def rJ:List SV→List Entry→Option Out
 | [(.one ⟨false,[(.ref 0)]⟩),(.one ⟨false,[(.clo 165 [1])]⟩)],[(.row false 169 (.pair (.int .i64) (.pair (.int .i64) (.int .i64))) x0),(.box 169 [(.val (.int .i64 x1)),(.val (.int .i64 x2)),(.val (.int .i64 x3))])]=>some ⟨(.one ⟨false,[(.val (.bool (dQ x0 x1 x2 x3)))]⟩),[(.row false 169 asX x0),(.box 169 [(.val (.int .i64 (kL x0 x1 x2 x3))),(.val (.int .i64 (kM x0 x1 x2 x3))),(.val (.int .i64 (kN x0 x1 x2 x3)))])],[],[(dR x0 x1 x2 x3)]⟩
 |_,_=>none
def bZ:PF Tryz.prog:=PF.ofG Tryz.prog [mb,PF.lend mb,PF.fz mb] [] ar 164 Tryz.f164 Tryz.func164 (fun c _=>LOk.nil c) rJ (by
 intro vs es r h;unfold rJ at h;split at h
 ·cases h;kernel_rfl
 ·cases h)
abbrev my:=Int×Int×Int×List (Int×(Int×Int))
section
variable (y0 y1 y2:Int)(y3:List (Int×(Int×Int)))
def gv:Int×Int×Int:=Option.getD y3[Int.toNat y0]? ((0:Int),(0:Int),(0:Int))
def Rl:List (Int×Int×Int):=List.drop (Int.toNat (0:Int)) (List.take y0.toNat y3)
def EF:Bool:=ltI y0 y1
def KB:Bool:=leI (0:Int) y0
def Sz:Bool:=ltI y0 (↑y3.length:Int)
def SA:Bool:=ltN y0.toNat y3.length
def KC:Bool:=bif bif !aX ((gv y0 y3).1) (0:Int) (IntKind.wrap .i64 (y2 - (1:Int)))then true else bif ((gv y0 y3).2).1!=(0:Int)then ((gv y0 y3).2).1!=(1:Int)else false then true else !Ju ((gv y0 y3).2.2)
end
def SB:Bool:=leI (0:Int) (0:Int)
section
variable (y0:Int)(y3:List (Int×(Int×Int)))
def SC:Bool:=leI y0 (↑y3.length:Int)
def SD:Bool:=dR (Rl y0 y3) ((gv y0 y3).1) (((gv y0 y3).2).1) ((gv y0 y3).2.2)
def SE:Bool:=dQ (Rl y0 y3) ((gv y0 y3).1) (((gv y0 y3).2).1) ((gv y0 y3).2.2)
def SF:Int:=IntKind.wrap .i64 (y0 + (1:Int))
end
def abT:my→List (Nat×SV)
 |(y0,y1,y2,_)=> [(9,(.one ⟨false,[(.val (.int .i64 y0))]⟩)),(8,(.one ⟨false,[(.val (.int .i64 y1))]⟩)),(7,(.one ⟨false,[(.ref 0)]⟩)),(0,(.one ⟨false,[(.val (.int .i64 y2))]⟩)),(1,(.one ⟨false,[(.ref 0)]⟩))]
def abJ:my→List (Nat×Entry)
 |(_,_,_,y3)=> [(0,(.row false 169 asX y3))]
def aco:Nat→my→List (Nat×SV)
 |0,(_,_,_,_)=> [(4,(.one ⟨false,[(.val (.bool false))]⟩))]
 |1,(_,_,_,_)=> [(4,(.one ⟨false,[(.val (.bool false))]⟩))]
 |_,(_,_,_,_)=> []
def ace:Nat→my→List (Nat×Entry)
 |0,(_,_,_,y3)=> [(0,(.row false 169 asX y3))]
 |1,(_,_,_,y3)=> [(0,(.row false 169 asX y3))]
 |_,(_,_,_,y3)=> [(0,(.row false 169 asX y3))]
def ws:my→LT my
 |(y0,y1,y2,y3)=> .ite (EF y0 y1) (.need [(KB y0),(Sz y0 y3),(SA y0 y3)] (.ite (KC y0 y2 y3) (.ext 0 [(0,0)]) (.need [(SB),(KB y0),(SC y0 y3),(SD y0 y3)] (.ite (SE y0 y3) (.ext 1 [(0,0)]) (.nrm ((SF y0),y1,y2,y3) [(0,0)]))))) (.ext 2 [(0,0)])
def JH(s:St):Option my:=
 (match s.look 9 with
 |some ⟨none,(.one ⟨false,[(.val (.int .i64 y0))]⟩)⟩=>
 (match s.look 8 with
 |some ⟨none,(.one ⟨false,[(.val (.int .i64 y1))]⟩)⟩=>
 (match s.look 7 with
 |some ⟨none,(.one ⟨false,[(.ref 0)]⟩)⟩=>
 (match s.look 0 with
 |some ⟨none,(.one ⟨false,[(.val (.int .i64 y2))]⟩)⟩=>
 (match s.look 1 with
 |some ⟨none,(.one ⟨false,[(.ref 0)]⟩)⟩=>
 (match s.ent 0 with
 |some (.row false 169 (.pair (.int .i64) (.pair (.int .i64) (.int .i64))) y3)=>
 some (y0,y1,y2,y3)
 |_=>none)
 |_=>none)
 |_=>none)
 |_=>none)
 |_=>none)
 |_=>none)
def b8:Lp my where
 h:=⟨[10,11,12,13,6,5,14,15,16,17,18,19,20,21,22,23,24,25,26,27,28,29,30,31,32,33,34,35,4,36,37,38,39,40,41,9],[0],[],[]⟩
 JL:=abT
 JE:=abJ
 XL:=aco
 XE:=ace
 q:=fun j=>match j with | 0=> .ret | 1=> .ret | _=> .exit 0
 tags:= [0,1,2]
 lt:=ws
 fuel:=fun(y0,y1,y2,y3)=>y0.natAbs + y1.natAbs + y2.natAbs + y3.length
 fix:=fun(_,y1,y2,y3) (y0,_,_,_)=>(y0,y1,y2,y3)
 σ:= [(0,0)]
 rd:=JH
theorem Zp:LoopOk Tryz.prog (fun k=>Nat.blt k Tryz.f76.ntmps) b8.F (ay Tryz.f76 0):=by
 refine Lp.ok (tbl:= [Rt,gt,bZ,PF.lend bZ,PF.fz bZ]) (lf:= []) ar b8 (by kernel_rfl) (LOk.nil _) (fun _=>rfl) (fun j _=>by unfold b8;match j with | 0=>rfl | 1=>rfl | _ + 2=>rfl) ?_ ?_ ?_ ?_ (fun _=>rfl) ?_
 ·intro x;obtain⟨y0,y1,y2,y3⟩:=x;kernel_rfl
 ·intro x;obtain⟨y0,y1,y2,y3⟩:=x;kernel_rfl
 ·intro s x h
  have h:JH s=some x:=h
  unfold JH at h
  repeat' split at h
  all_goals cases h
  exact⟨aa (by assumption) rfl (aa (by assumption) rfl (aa (by assumption) rfl (aa (by assumption) rfl (aa (by assumption) rfl (rfl))))),ac rfl (by assumption) rfl (rfl)⟩
 ·intro x;obtain⟨y0,y1,y2,y3⟩:=x;kernel_rfl
 ·intro x z;obtain⟨y0,y1,y2,y3⟩:=x;exact(And.intro (And.intro trivial (And.intro trivial rfl)) trivial)
section
variable (x0:Int)(x1:List (Int×Int×Int))
def CL:Int×Int×Int×List (Int×Int×Int):=((0:Int),(↑x1.length:Int),x0,x1)
def PQ:Bool:=bif Nat.beq ((Lp.res b8 (CL x0 x1)).1) (0:Nat)then false else bif Nat.beq ((Lp.res b8 (CL x0 x1)).1) (1:Nat)then false else leI (↑x1.length:Int) (8:Int)
def PR:Bool:=allT [Lp.fin b8 (CL x0 x1)]
end
def WZ:List SV→List Entry→Option Out
 | [.one ⟨false,[.val (.int .i64 x0)]⟩,.one ⟨false,[.ref 0]⟩],[.row false 169 (.pair (.int .i64) (.pair (.int .i64) (.int .i64))) x1]=>some ⟨(.one ⟨false,[(.val (.bool (PQ x0 x1)))]⟩),[(.row false 169 asX x1)],[],[(PR x0 x1)]⟩
 |_,_=>none
def ain:PF Tryz.prog:=PF.ofG Tryz.prog [Rt,gt,bZ,PF.lend bZ,PF.fz bZ] [b8.F] ar 76 Tryz.f76 Tryz.func76 (LOk.fnT (l:= [ay Tryz.f76 0]) (by kernel_rfl) (.cons Zp (.nil _))) WZ (by
 intro vs es r h;unfold WZ at h;split at h
 ·cases h;kernel_rfl
 ·cases h)
def NQ(x0:Int)(x1:List (Int×Int×Int)):Int:=IntKind.wrap .i64 (x0 - (↑x1.length:Int))
def fj(x0:Int)(x1:List (Int×Int×Int)):Int:=bif ltI (NQ x0 x1) (0:Int)then(-1:Int)else NQ x0 x1
def Pt:List SV→List Entry→Option Out
 | [.one ⟨false,[.ref 0]⟩,.one ⟨false,[.val (.int .i64 x0)]⟩],[.row false 206 (.pair (.int .i64) (.pair (.int .i64) (.int .i64))) x1]=>some ⟨(.one ⟨false,[(.val (.int .i64 (fj x0 x1)))]⟩),[(.row false 206 asX x1)],[],[]⟩
 |_,_=>none
def HY:PF Tryz.prog:=PF.ofG Tryz.prog [] [] ar 105 Tryz.f105 Tryz.func105 (fun c _=>LOk.nil c) Pt (by
 intro vs es r h;unfold Pt at h;split at h
 ·cases h;kernel_rfl
 ·cases h)
def Rc:List SV→List Entry→Option Out
 | [.one ⟨true,[.val (.int .i64 x0),.val (.int .i64 x1),.val (.int .i64 x2)]⟩],[]=>some ⟨(.one ⟨true,[(.val (.int .i64 x0)),(.val (.int .i64 x1)),(.val (.int .i64 x2))]⟩),[],[],[]⟩
 |_,_=>none
def Rv:PF Tryz.prog:=PF.ofG Tryz.prog [] [] ar 190 Tryz.f190 Tryz.func190 (fun c _=>LOk.nil c) Rc (by
 intro vs es r h;unfold Rc at h;split at h
 ·cases h;kernel_rfl
 ·cases h)
abbrev ej:=Int×List (Int×(Int×Int))×List (Int×(Int×Int))
section
variable (y0:Int)(y1 y2:List (Int×(Int×Int)))
def jq:Int×Int×Int:=Option.getD y1[Int.toNat y0]? ((0:Int),(0:Int),(0:Int))
def mp:Bool:=ltI y0 (↑y1.length:Int)
def mq:Bool:=leI (0:Int) y0
def qX:Bool:=ltN y0.toNat y1.length
def qY:Bool:=ltI y0 (↑y2.length:Int)
def qZ:Bool:=ltN y0.toNat y2.length
def q8:Int:=IntKind.wrap .i64 (y0 + (1:Int))
def q9:List (Int×(Int×Int)):=List.set y2 y0.toNat ((jq y0 y1).1,((jq y0 y1).2).1,(jq y0 y1).2.2)
end
def Vj:ej→List (Nat×SV)
 |(y0,_,_)=> [(4,(.one ⟨false,[(.val (.int .i64 y0))]⟩)),(0,(.one ⟨false,[(.ref 0)]⟩)),(3,(.one ⟨false,[(.ref 1)]⟩))]
def Ve:ej→List (Nat×Entry)
 |(_,y1,y2)=> [(0,(.row false 206 asX y1)),(1,(.row true 169 asX y2))]
def Vt:Nat→ej→List (Nat×SV)
 |_,(_,_,_)=> []
def Vo:Nat→ej→List (Nat×Entry)
 |_,(_,y1,y2)=> [(0,(.row false 206 asX y1)),(1,(.row true 169 asX y2))]
def pD:ej→LT ej
 |(y0,y1,y2)=> .ite (mp y0 y1) (.need [(mq y0),(mp y0 y1),(qX y0 y1),(mq y0),(qY y0 y2),(qZ y0 y2)] (.nrm ((q8 y0),y1,(q9 y0 y1 y2)) [(0,0),(1,1)])) (.ext 0 [(0,0),(1,1)])
def Ct(s:St):Option ej:=
 (match s.look 4 with
 |some ⟨none,(.one ⟨false,[(.val (.int .i64 y0))]⟩)⟩=>
 (match s.look 0 with
 |some ⟨none,(.one ⟨false,[(.ref 0)]⟩)⟩=>
 (match s.look 3 with
 |some ⟨none,(.one ⟨false,[(.ref 320)]⟩)⟩=>
 (match s.ent 0 with
 |some (.row false 206 (.pair (.int .i64) (.pair (.int .i64) (.int .i64))) y1)=>
 (match s.ent 320 with
 |some (.row true 169 (.pair (.int .i64) (.pair (.int .i64) (.int .i64))) y2)=>
 some (y0,y1,y2)
 |_=>none)
 |_=>none)
 |_=>none)
 |_=>none)
 |_=>none)
def bD:Lp ej where
 h:=⟨[8,9,10,11,14,15,16,17,18,19,20,21,12,13,4],[0,1],[],[]⟩
 JL:=Vj
 JE:=Ve
 XL:=Vt
 XE:=Vo
 q:=fun j=>match j with | _=> .exit 0
 tags:= [0]
 lt:=pD
 fuel:=fun(y0,y1,y2)=>y0.natAbs + y1.length + y2.length
 fix:=fun(_,y1,_) (y0,_,y2)=>(y0,y1,y2)
 σ:= [(0,0),(1,320)]
 rd:=Ct
theorem Ti:LoopOk Tryz.prog (fun k=>Nat.blt k Tryz.f111.ntmps) bD.F (ay Tryz.f111 0):=by
 refine Lp.ok (tbl:= [Rv]) (lf:= []) ar bD (by kernel_rfl) (LOk.nil _) (fun _=>rfl) (fun _ _=>rfl) ?_ ?_ ?_ ?_ (fun _=>rfl) ?_
 ·intro x;obtain⟨y0,y1,y2⟩:=x;kernel_rfl
 ·intro x;obtain⟨y0,y1,y2⟩:=x;kernel_rfl
 ·intro s x h
  have h:Ct s=some x:=h
  unfold Ct at h
  repeat' split at h
  all_goals cases h
  exact⟨aa (by assumption) rfl (aa (by assumption) rfl (aa (by assumption) rfl (rfl))),ac rfl (by assumption) rfl (ac rfl (by assumption) rfl (rfl))⟩
 ·intro x;obtain⟨y0,y1,y2⟩:=x;kernel_rfl
 ·intro x z;obtain⟨y0,y1,y2⟩:=x;exact(And.intro rfl trivial)
section
variable (x0:List (Int×Int×Int))
def zu:Int×List (Int×Int×Int)×List (Int×Int×Int):=((0:Int),x0,List.replicate (Int.toNat (↑x0.length:Int)) ((0:Int),(0:Int),(0:Int)))
def Cd:List (Int×(Int×Int)):=(Lp.res bD (zu x0)).2.2.2
def Ce:Bool:=allT [leI (0:Int) (↑x0.length:Int),leI (↑x0.length:Int) (↑x0.length:Int),leI ((↑(24:Nat):Int) * (↑x0.length:Int)) (281474976710656:Int),leI (↑x0.length:Int) (9223372036854775807:Int),Lp.fin bD (zu x0)]
end
def Pu:List SV→List Entry→Option Out
 | [.one ⟨false,[.ref 0]⟩],[.row false 206 (.pair (.int .i64) (.pair (.int .i64) (.int .i64))) x0]=>some ⟨(.one ⟨false,[(.ref 1)]⟩),[(.row false 206 asX x0)],[(.row true 169 asX (Cd x0))],[(Ce x0)]⟩
 |_,_=>none
def abi:PF Tryz.prog:=PF.ofG Tryz.prog [Rv] [bD.F] ar 111 Tryz.f111 Tryz.func111 (LOk.fnT (l:= [ay Tryz.f111 0]) (by kernel_rfl) (.cons Ti (.nil _))) Pu (by
 intro vs es r h;unfold Pu at h;split at h
 ·cases h;kernel_rfl
 ·cases h)
def wc(x0 x1 x2 x3 x4 x5:Int):Bool:=bif x0 !=x3 then false else bif x1 !=x4 then false else bif x2 !=x5 then false else true
def Rb:List SV→List Entry→Option Out
 | [.one ⟨true,[.val (.int .i64 x0),.val (.int .i64 x1),.val (.int .i64 x2)]⟩,.one ⟨true,[.val (.int .i64 x3),.val (.int .i64 x4),.val (.int .i64 x5)]⟩],[]=>some ⟨(.one ⟨false,[(.val (.bool (wc x0 x1 x2 x3 x4 x5)))]⟩),[],[],[]⟩
 |_,_=>none
def Ru:PF Tryz.prog:=PF.ofG Tryz.prog [] [] ar 194 Tryz.f194 Tryz.func194 (fun c _=>LOk.nil c) Rb (by
 intro vs es r h;unfold Rb at h;split at h
 ·cases h;kernel_rfl
 ·cases h)
abbrev ef:=Int×List (Int×(Int×Int))×List (Int×(Int×Int))
section
variable (y0:Int)(y1 y2:List (Int×(Int×Int)))
def jn:Int×Int×Int:=Option.getD y1[Int.toNat y0]? ((0:Int),(0:Int),(0:Int))
def jo:Int×Int×Int:=Option.getD y2[Int.toNat y0]? ((0:Int),(0:Int),(0:Int))
def mm:Bool:=ltI y0 (↑y1.length:Int)
def mn:Bool:=leI (0:Int) y0
def qE:Bool:=ltN y0.toNat y1.length
def qF:Bool:=ltI y0 (↑y2.length:Int)
def qG:Bool:=ltN y0.toNat y2.length
def qH:Bool:= !wc ((jn y0 y1).1) (((jn y0 y1).2).1) ((jn y0 y1).2.2) ((jo y0 y2).1) (((jo y0 y2).2).1) ((jo y0 y2).2.2)
def qI:Int:=IntKind.wrap .i64 (y0 + (1:Int))
end
def Vg:ef→List (Nat×SV)
 |(y0,_,_)=> [(5,(.one ⟨false,[(.val (.int .i64 y0))]⟩)),(0,(.one ⟨false,[(.ref 0)]⟩)),(1,(.one ⟨false,[(.ref 1)]⟩))]
def Vb:ef→List (Nat×Entry)
 |(_,y1,y2)=> [(0,(.row false 169 asX y1)),(1,(.row false 169 asX y2))]
def Vq:Nat→ef→List (Nat×SV)
 |0,(_,_,_)=> [(4,(.one ⟨false,[(.val (.bool false))]⟩))]
 |_,(_,_,_)=> []
def Vl:Nat→ef→List (Nat×Entry)
 |0,(_,y1,y2)=> [(0,(.row false 169 asX y1)),(1,(.row false 169 asX y2))]
 |_,(_,y1,y2)=> [(0,(.row false 169 asX y1)),(1,(.row false 169 asX y2))]
def pA:ef→LT ef
 |(y0,y1,y2)=> .ite (mm y0 y1) (.need [(mn y0),(mm y0 y1),(qE y0 y1),(mn y0),(qF y0 y2),(qG y0 y2)] (.ite (qH y0 y1 y2) (.ext 0 [(0,0),(1,1)]) (.nrm ((qI y0),y1,y2) [(0,0),(1,1)]))) (.ext 1 [(0,0),(1,1)])
def Cq(s:St):Option ef:=
 (match s.look 5 with
 |some ⟨none,(.one ⟨false,[(.val (.int .i64 y0))]⟩)⟩=>
 (match s.look 0 with
 |some ⟨none,(.one ⟨false,[(.ref 0)]⟩)⟩=>
 (match s.look 1 with
 |some ⟨none,(.one ⟨false,[(.ref 1)]⟩)⟩=>
 (match s.ent 0 with
 |some (.row false 169 (.pair (.int .i64) (.pair (.int .i64) (.int .i64))) y1)=>
 (match s.ent 1 with
 |some (.row false 169 (.pair (.int .i64) (.pair (.int .i64) (.int .i64))) y2)=>
 some (y0,y1,y2)
 |_=>none)
 |_=>none)
 |_=>none)
 |_=>none)
 |_=>none)
def bp:Lp ef where
 h:=⟨[11,12,13,14,17,18,19,20,21,22,23,24,25,26,4,15,16,5],[0,1],[],[]⟩
 JL:=Vg
 JE:=Vb
 XL:=Vq
 XE:=Vl
 q:=fun j=>match j with | 0=> .ret | _=> .exit 0
 tags:= [0,1]
 lt:=pA
 fuel:=fun(y0,y1,y2)=>y0.natAbs + y1.length + y2.length
 fix:=fun(_,y1,y2) (y0,_,_)=>(y0,y1,y2)
 σ:= [(0,0),(1,1)]
 rd:=Cq
theorem Tf:LoopOk Tryz.prog (fun k=>Nat.blt k Tryz.f117.ntmps) bp.F (ay Tryz.f117 0):=by
 refine Lp.ok (tbl:= [Ru]) (lf:= []) ar bp (by kernel_rfl) (LOk.nil _) (fun _=>rfl) (fun j _=>by unfold bp;match j with | 0=>rfl | _ + 1=>rfl) ?_ ?_ ?_ ?_ (fun _=>rfl) ?_
 ·intro x;obtain⟨y0,y1,y2⟩:=x;kernel_rfl
 ·intro x;obtain⟨y0,y1,y2⟩:=x;kernel_rfl
 ·intro s x h
  have h:Cq s=some x:=h
  unfold Cq at h
  repeat' split at h
  all_goals cases h
  exact⟨aa (by assumption) rfl (aa (by assumption) rfl (aa (by assumption) rfl (rfl))),ac rfl (by assumption) rfl (ac rfl (by assumption) rfl (rfl))⟩
 ·intro x;obtain⟨y0,y1,y2⟩:=x;kernel_rfl
 ·intro x z;obtain⟨y0,y1,y2⟩:=x;exact(And.intro (And.intro trivial rfl) trivial)
section
variable (x0 x1:List (Int×Int×Int))
def zq:Bool:=(↑x0.length:Int)!=(↑x1.length:Int)
def zr:Int×List (Int×Int×Int)×List (Int×Int×Int):=((0:Int),x0,x1)
def BV:Bool:=bif zq x0 x1 then false else bif Nat.beq ((Lp.res bp (zr x0 x1)).1) (0:Nat)then false else true
def BW:Bool:=allT [zq x0 x1||Lp.fin bp (zr x0 x1)]
end
def Pq:List SV→List Entry→Option Out
 | [.one ⟨false,[.ref 0]⟩,.one ⟨false,[.ref 1]⟩],[.row false 169 (.pair (.int .i64) (.pair (.int .i64) (.int .i64))) x0,.row false 169 (.pair (.int .i64) (.pair (.int .i64) (.int .i64))) x1]=>some ⟨(.one ⟨false,[(.val (.bool (BV x0 x1)))]⟩),[(.row false 169 asX x0),(.row false 169 asX x1)],[],[(BW x0 x1)]⟩
 |_,_=>none
def abf:PF Tryz.prog:=PF.ofG Tryz.prog [Ru] [bp.F] ar 117 Tryz.f117 Tryz.func117 (LOk.fnT (l:= [ay Tryz.f117 0]) (by kernel_rfl) (.cons Tf (.nil _))) Pq (by
 intro vs es r h;unfold Pq at h;split at h
 ·cases h;kernel_rfl
 ·cases h)
end Go.SX

namespace Go.SX
open Go.Proofs
set_option maxRecDepth 100000
def fIn(n:Int)(f:Int×Int×Int):Bool:=inR f.1 0 (IntKind.i64.wrap (n - 1))&&(inR f.2.1 0 1&&inR f.2.2 0 1)
def TE(f g:Int×Int×Int):Bool:=g.1==f.1&&g.2.1==f.2.1
def fAt(fs:List (Int×Int×Int))(b:Nat):Int×Int×Int:=fs[b]?.getD (0,0,0)
def afL(n:Int)(fs:List (Int×Int×Int))(b:Nat):Bool:= !fIn n (fAt fs b)
def aj4(fs:List (Int×Int×Int))(b:Nat):Bool:=(fs.take b).any (TE (fAt fs b))
def okFs(n:Int)(fs:List (Int×Int×Int)):Bool:=leN fs.length 8&&(List.range fs.length).all fun b=> !(afL n fs b||aj4 fs b)
theorem amX{fs:List (Int×Int×Int)}{P:Int×Int×Int→Bool}{b:Nat}(h:b≤fs.length):((List.range b).any fun j=>P (fs[j]?.getD (0,0,0)))=(fs.take b).any P:=by
 rw [Bool.eq_iff_iff]
 simp only [List.any_eq_true,List.mem_range,List.mem_take_iff_getElem]
 constructor
 ·rintro⟨j,hj,hp⟩
  have hl:j < fs.length:=by omega
  rw [List.getElem?_eq_getElem hl]at hp
  exact⟨fs[j],⟨j,by omega,rfl⟩,hp⟩
 ·rintro⟨x,⟨j,hj,rfl⟩,hp⟩
  have hl:j < fs.length:=by omega
  exact⟨j,by omega,by rw [List.getElem?_eq_getElem hl];exact hp⟩
def pk(y2:List (Int×(Int×Int)))(y3 y4:Int)(b:Nat):(Unit)→Nat ⊕ (Unit)
 |_=>(bif(bif((Option.getD y2[b]? ((0:Int),(0:Int),(0:Int))).1==y3)then ((Option.getD y2[b]? ((0:Int),(0:Int),(0:Int))).2).1==y4 else false)then(.inl 0)else(.inr ()))
def kP(y1:Int)(y2:List (Int×(Int×Int)))(y3 y4 y5:Int)(i:Nat):(Unit)→gp
 |_=>((i:Int),y1,y2,y3,y4,y5)
def Fr:gp→Unit
 |(_,_,_,_,_,_)=>()
theorem ZP(y1:Int)(y2:List (Int×(Int×Int)))(y3 y4 y5:Int) (hn:y1≤9223372036854775807) (hb:y1≤(y2.length:Int)):
  bJ.fin ((0:Int),y1,y2,y3,y4,y5)=true∧bJ.res ((0:Int),y1,y2,y3,y4,y5)=((ag (pk y2 y3 y4) 1 (List.range y1.toNat) 0 ()).1,(kP y1 y2 y3 y4 y5) (ag (pk y2 y3 y4) 1 (List.range y1.toNat) 0 ()).2.1 (ag (pk y2 y3 y4) 1 (List.range y1.toNat) 0 ()).2.2):=by
 have key:=bJ.along (kP y1 y2 y3 y4 y5) Fr (pk y2 y3 y4) 1 (fun _ _=>True) (List.range y1.toNat) () (by trivial) (by simp only [bJ,kP,List.length_range];omega) (fun i b a hb hI=> ?_) (fun a hI=> ?_)
 ·exact key
 ·obtain⟨⟩:=a
  obtain⟨rfl,hlt⟩:=fU hb
  have hw:IntKind.i64.wrap ((b:Int) + 1)=((b + 1:Nat):Int):=by rw [aA (by omega) (by omega)];omega
  have hdec:ltI (b:Int) y1=true:=ce (by omega)
  have hnn:leI (0:Int) (b:Int)=true:=bH (by omega)
  refine⟨?_,?_,?_,?_⟩
  ·have h1:ltI (b:Int) (y2.length:Int)=true:=ce (by omega)
   have h2:ltN b y2.length=true:=cM (by omega)
   simp [oa,iY,tq,tt,tu,tv,tw,tx,tz,tA,tB,sd,bJ,LT.nds,allT,kP,hdec,hnn,h1,h2]
  ·simp [oa,iY,tq,tt,tu,tv,tw,tx,tz,tA,tB,sd,bJ,LT.each,kP,Fr,hw]
  ·simp only [oa,iY,tq,tt,tu,tv,tw,tx,tz,tA,tB,sd,bJ,LT.fn,kP,Fr,pk,Int.toNat_natCast,hdec,hnn,cond_true,Bool.cond_self]
  ·exact fun _ _=>trivial
 ·obtain⟨⟩:=a
  simp only [oa,iY,tq,tt,tu,tv,tw,tx,tz,tA,tB,sd,bJ,LT.out,kP,List.length_range,Yt,acY,cond_false]
theorem apW(fs:List (Int×Int×Int))(b:Nat)(hb:b < fs.length)(hn:fs.length≤9223372036854775807):
  SI (b:Int) fs=true∧KZ (b:Int) fs=aj4 fs b:=by
 obtain⟨w1,w2⟩:=ZP (b:Int) fs (fAt fs b).1 (fAt fs b).2.1 (fAt fs b).2.2 (by omega) (by omega)
 rw [kf (P:=fun j=>TE (fAt fs b) (fs[j]?.getD (0,0,0))) (j:=0) (fun j=>by
  simp only [pk,TE];cases (fs[j]?.getD (0,0,0)).1==(fAt fs b).1 <;> rfl),Int.toNat_natCast,amX (by omega)]at w2
 refine⟨w1,?_⟩
 have e:JS (b:Int) fs=(0,(b:Int),fs,(fAt fs b).1,(fAt fs b).2.1,(fAt fs b).2.2):=rfl
 simp only [KZ,e,w2,aj4]
 cases (fs.take b).any (TE (fAt fs b)) <;> rfl
theorem arH(n:Int)(fs:List (Int×Int×Int))(b:Nat):KY (b:Int) n fs=afL n fs b:=by
 simp only [KY,aI,afL,fIn,fAt,oQ,Int.toNat_natCast,ui]
 cases inR (fs[b]?.getD (0,0,0)).1 0 (IntKind.i64.wrap (n - 1)) <;> cases inR (fs[b]?.getD (0,0,0)).2.1 0 1 <;> cases inR (fs[b]?.getD (0,0,0)).2.2 0 1 <;> rfl
def fF(n:Int)(fs:List (Int×Int×Int))(b:Nat)(_:Unit):Nat ⊕ Unit:=bif afL n fs b then .inl 0 else bif aj4 fs b then .inl 1 else .inr ()
theorem ahH(n:Int)(fs:List (Int×Int×Int)): ∀ (r:List Nat) (i:Nat),∃ k m,ag (fF n fs) 2 r i ()=(k,m,())∧((k=2∧(r.all fun b=> !(afL n fs b||aj4 fs b))=true)∨((k=0∨k=1)∧(r.all fun b=> !(afL n fs b||aj4 fs b))=false))
 | [],i=>⟨2,i,rfl,.inl ⟨rfl,rfl⟩⟩
 |b::r,i=>by
  cases h1:afL n fs b with
  |true=>exact⟨0,i,by simp only [ag,fF,h1,cond_true],.inr ⟨.inl rfl,by simp [h1]⟩⟩
  |false=>
   cases h2:aj4 fs b with
   |true=>exact⟨1,i,by simp only [ag,fF,h1,h2,cond_true,cond_false],.inr ⟨.inr rfl,by simp [h2]⟩⟩
   |false=>
    obtain⟨k,m,e,h⟩:=ahH n fs r (i + 1)
    exact⟨k,m,by simp only [ag,fF,h1,h2,cond_false];exact e,by simpa [h1,h2] using h⟩
theorem amU(n:Int)(fs:List (Int×Int×Int))(hn:fs.length≤9223372036854775807):
  cd.fin ((0:Int),n,fs)=true∧cd.res ((0:Int),n,fs)=((ag (fF n fs) 2 (List.range fs.length) 0 ()).1,(((ag (fF n fs) 2 (List.range fs.length) 0 ()).2.1:Int),n,fs)):=by
 have key:=cd.along (fun i _=>((i:Int),n,fs)) (fun _=>()) (fF n fs) 2 (fun _ _=>True) (List.range fs.length) () trivial (by simp only [cd,List.length_range];omega) (fun i b a hb hI=> ?_) (fun a hI=> ?_)
 ·exact key
 ·obtain⟨rfl,hlt⟩:=fU hb
  have hw:IntKind.i64.wrap ((b:Int) + 1)=((b + 1:Nat):Int):=by rw [aA (by omega) (by omega)];omega
  have hdec:ltI (b:Int) (fs.length:Int)=true:=ce (by omega)
  have hnn:leI (0:Int) (b:Int)=true:=bH (by omega)
  have hltd:ltN b fs.length=true:=cM (by omega)
  obtain⟨i1,i2⟩:=apW fs b hlt hn
  have i3:=arH n fs b
  refine⟨?_,?_,?_,?_⟩
  ·simp [cd,wB,LT.nds,allT,zj,SG,SH,hdec,hnn,hltd,i1]
  ·simp [cd,wB,LT.each,SJ,hw]
  ·simp only [cd,wB,LT.fn,zj,hdec,i2,i3,fF,cond_true]
  ·exact fun _ _=>trivial
 ·simp [cd,wB,LT.out,zj,List.length_range]
theorem alm(n:Int)(fs:List (Int×Int×Int))(hn:leN fs.length 9223372036854775807=true):QD n fs=(inR n 2 8&&okFs n fs)∧QE n fs=true:=by
 obtain⟨w1,w2⟩:=amU n fs (cu.1 hn)
 obtain⟨k,m,e,h⟩:=ahH n fs (List.range fs.length) 0
 rw [e]at w2
 refine⟨?_,?_⟩
 ·have hl:leI (fs.length:Int) 8=leN fs.length 8:=by rw [Bool.eq_iff_iff];simp;omega
  simp only [QD,DC,w2,QI,aI,ui,okFs,hl]
  rcases h with⟨rfl,h⟩ | ⟨rfl | rfl,h⟩ <;> rw [h]
  ·cases inR n 2 8 <;> cases leN fs.length 8 <;> rfl
  ·cases inR n 2 8 <;> cases leN fs.length 8 <;> rfl
  ·cases inR n 2 8 <;> cases leN fs.length 8 <;> rfl
 ·simp only [QE,DC,w1,allT,cond_true]
def XO:List SV→List Entry→Option Out
 | [.one ⟨false,[.val (.int .i64 x0)]⟩,.one ⟨false,[.ref 0]⟩],[.row false 169 (.pair (.int .i64) (.pair (.int .i64) (.int .i64))) x1]=>some ⟨(.one ⟨false,[(.val (.bool (inR x0 2 8&&okFs x0 x1)))]⟩),[(.row false 169 asX x1)],[],[leN x1.length 9223372036854775807]⟩
 |_,_=>none
def zT:PF Tryz.prog:=PF.alt aiz XO (by
 intro args es o h hnd;unfold XO at h;split at h
 ·rename_i x0 x1
  cases h
  have hnd:=cf hnd
  have hh:=alm x0 x1 hnd
  obtain⟨e0,en⟩:=hh
  exact eT rfl (cg en) (by simp only [e0] <;> rfl) rfl rfl
 ·cases h)
def bX(y2 y3:Int)(b:Int×(Int×Int)):(Unit)→Nat ⊕ (Unit)
 |_=>(bif(vD b.1 (b.2.1) y2 y3)then(.inl 0)else(.inr ()))
def a7(y2 y3 y4:Int)(y5:List (Int×(Int×Int)))(i:Nat):(Unit)→aH
 |_=>((i:Int),(↑y5.length:Int),y2,y3,y4,y5)
def kh:aH→Unit
 |(_,_,_,_,_,_)=>()
theorem Ge(y2 y3 y4:Int)(y5:List (Int×(Int×Int))) (hn:y5.length≤9223372036854775807):
  ah.fin ((0:Int),(↑y5.length:Int),y2,y3,y4,y5)=true∧ah.res ((0:Int),(↑y5.length:Int),y2,y3,y4,y5)=((ag (bX y2 y3) 1 y5 0 ()).1,(a7 y2 y3 y4 y5) (ag (bX y2 y3) 1 y5 0 ()).2.1 (ag (bX y2 y3) 1 y5 0 ()).2.2):=by
 have key:=ah.along (a7 y2 y3 y4 y5) kh (bX y2 y3) 1 (fun _ _=>True) y5 () (by trivial) (by simp only [ah,a7];omega) (fun i b a hb hI=> ?_) (fun a hI=> ?_)
 ·exact key
 ·obtain⟨⟩:=a
  have hlt:=(List.getElem?_eq_some_iff.1 hb).1
  have hget: ∀ d,Option.getD y5[i]? d=b:=fun d=>by rw [hb];rfl
  have hw:=py hlt hn
  have hdec:ltI (i:Int) (y5.length:Int)=true:=ce (by omega)
  have hnn:leI (0:Int) (i:Int)=true:=bH (by omega)
  have hltd:ltN i y5.length=true:=cM hlt
  refine⟨?_,?_,?_,?_⟩
  ·simp [bV,dS,dT,dU,dV,dW,dX,dx,ah,LT.nds,allT,a7,hdec,hnn,hltd,hget]
  ·simp [bV,dS,dT,dU,dV,dW,dX,dx,ah,LT.each,a7,kh,hw]
  ·simp only [bV,dS,dT,dU,dV,dW,dX,dx,ah,LT.fn,a7,kh,bX,Int.toNat_natCast,hdec,hnn,hltd,hget,cond_true,Bool.cond_self]
  ·exact fun _ _=>trivial
 ·obtain⟨⟩:=a
  simp [bV,dS,dT,dU,dV,dW,dX,dx,ah,LT.out,a7]
theorem aoH(xs:List (Int×Int×Int))(f:Int×Int×Int)(hn:xs.length≤9223372036854775807):
  dQ xs f.1 f.2.1 f.2.2=xs.any (TE f)∧dR xs f.1 f.2.1 f.2.2=true:=by
 obtain⟨w1,w2⟩:=Ge f.1 f.2.1 f.2.2 xs hn
 rw [kf (P:=TE f) (j:=0) (fun t=>by
  simp only [bX,vD,TE];cases t.1==f.1 <;> rfl)]at w2
 refine⟨?_,?_⟩
 ·simp only [dQ,kL,kM,kN,dR,eL,cJ,iD,iE,iF,iG,iH,w2,a7]
  cases xs.any (TE f)with
  |false=>rfl
  |true=>exact bH (Int.natCast_nonneg _)
 ·simp only [dQ,kL,kM,kN,dR,eL,cJ,iD,iE,iF,iG,iH,w1,allT,cond_true]
theorem arp(n:Int)(fs:List (Int×Int×Int))(b:Nat):KC (b:Int) n fs=afL n fs b:=by
 have h2: ∀ v:Int,(bif v==0 then true else v==1)=inR v 0 1:=fun v=>by
  rw [Bool.eq_iff_iff,rh];by_cases h:v=0 <;> by_cases h':v=1 <;> simp [h,h'] <;> omega
 have h3: ∀ v:Int,(bif v !=0 then v !=1 else false)= !inR v 0 1:=fun v=>by
  rw [← h2 v];simp only [bne];cases v==0 <;> rfl
 simp only [KC,aX,Ju,afL,fIn,fAt,gv,Int.toNat_natCast,ui,h2,h3]
 cases inR (fs[b]?.getD (0,0,0)).1 0 (IntKind.i64.wrap (n - 1)) <;> cases inR (fs[b]?.getD (0,0,0)).2.1 0 1 <;> cases inR (fs[b]?.getD (0,0,0)).2.2 0 1 <;> rfl
theorem amT(n:Int)(fs:List (Int×Int×Int))(hn:fs.length≤9223372036854775807):
  b8.fin ((0:Int),(fs.length:Int),n,fs)=true∧b8.res ((0:Int),(fs.length:Int),n,fs)=((ag (fF n fs) 2 (List.range fs.length) 0 ()).1,(((ag (fF n fs) 2 (List.range fs.length) 0 ()).2.1:Int),(fs.length:Int),n,fs)):=by
 have key:=b8.along (fun i _=>((i:Int),(fs.length:Int),n,fs)) (fun _=>()) (fF n fs) 2 (fun _ _=>True) (List.range fs.length) () trivial (by simp only [b8,List.length_range];omega) (fun i b a hb hI=> ?_) (fun a hI=> ?_)
 ·exact key
 ·obtain⟨rfl,hlt⟩:=fU hb
  have hw:IntKind.i64.wrap ((b:Int) + 1)=((b + 1:Nat):Int):=by rw [aA (by omega) (by omega)];omega
  have hdec:ltI (b:Int) (fs.length:Int)=true:=ce (by omega)
  have hle:leI (b:Int) (fs.length:Int)=true:=bH (by omega)
  have hnn:leI (0:Int) (b:Int)=true:=bH (by omega)
  have hltd:ltN b fs.length=true:=cM (by omega)
  obtain⟨i2,i1⟩:=aoH (fs.take b) (fAt fs b) (by rw [List.length_take];omega)
  have i2:SE (b:Int) fs=aj4 fs b:=i2
  have i1:SD (b:Int) fs=true:=i1
  have i3:=arp n fs b
  refine⟨?_,?_,?_,?_⟩
  ·simp [b8,ws,LT.nds,allT,EF,KB,Sz,SA,SB,SC,hdec,hnn,hltd,hle,i1]
  ·simp [b8,ws,LT.each,SF,hw]
  ·simp only [b8,ws,LT.fn,EF,hdec,i2,i3,fF,cond_true]
  ·exact fun _ _=>trivial
 ·simp [b8,ws,LT.out,EF,List.length_range]
theorem ak6(n:Int)(fs:List (Int×Int×Int))(hn:leN fs.length 9223372036854775807=true):PQ n fs=okFs n fs∧PR n fs=true:=by
 obtain⟨w1,w2⟩:=amT n fs (cu.1 hn)
 obtain⟨k,m,e,h⟩:=ahH n fs (List.range fs.length) 0
 rw [e]at w2
 refine⟨?_,?_⟩
 ·have hl:leI (fs.length:Int) 8=leN fs.length 8:=by rw [Bool.eq_iff_iff];simp;omega
  simp only [PQ,CL,w2,okFs,hl]
  rcases h with⟨rfl,h⟩ | ⟨rfl | rfl,h⟩ <;> rw [h] <;> cases leN fs.length 8 <;> rfl
 ·simp only [PR,CL,w1,allT,cond_true]
def XB:List SV→List Entry→Option Out
 | [.one ⟨false,[.val (.int .i64 x0)]⟩,.one ⟨false,[.ref 0]⟩],[.row false 169 (.pair (.int .i64) (.pair (.int .i64) (.int .i64))) x1]=>some ⟨(.one ⟨false,[(.val (.bool (okFs x0 x1)))]⟩),[(.row false 169 asX x1)],[],[leN x1.length 9223372036854775807]⟩
 |_,_=>none
def zS:PF Tryz.prog:=PF.alt ain XB (by
 intro args es o h hnd;unfold XB at h;split at h
 ·rename_i x0 x1
  cases h
  have hnd:=cf hnd
  have hh:=ak6 x0 x1 hnd
  obtain⟨e0,en⟩:=hh
  exact eT rfl (cg en) (by simp only [e0] <;> rfl) rfl rfl
 ·cases h)
def PA(xs ys:List (Int×Int×Int)):Bool:=decide (xs=ys)
def jM(y1:List (Int×(Int×Int)))(b:Nat):(List (Int×(Int×Int)))→Nat ⊕ (List (Int×(Int×Int)))
 |y2=>(.inr (List.set y2 b ((Option.getD y1[b]? ((0:Int),(0:Int),(0:Int))).1,((Option.getD y1[b]? ((0:Int),(0:Int),(0:Int))).2).1,(Option.getD y1[b]? ((0:Int),(0:Int),(0:Int))).2.2)))
def gU(y1:List (Int×(Int×Int)))(i:Nat):(List (Int×(Int×Int)))→ej
 |y2=>((i:Int),y1,y2)
def Co:ej→List (Int×(Int×Int))
 |(_,_,y2)=>y2
theorem WV(y1 y2:List (Int×(Int×Int)))(hn:y1.length≤9223372036854775807)(hl:y2.length=y1.length):
  bD.fin ((0:Int),y1,y2)=true∧bD.res ((0:Int),y1,y2)=((ag (jM y1) 0 (List.range y1.length) 0 y2).1,(gU y1) (ag (jM y1) 0 (List.range y1.length) 0 y2).2.1 (ag (jM y1) 0 (List.range y1.length) 0 y2).2.2):=by
 have key:=bD.along (gU y1) Co (jM y1) 0 (fun _ a=>a.length=y1.length) (List.range y1.length) y2 hl (by simp only [bD,gU,List.length_range];omega) (fun i b a hb hI=> ?_) (fun a hI=> ?_)
 ·exact key
 ·obtain y2:=a
  obtain⟨rfl,hlt⟩:=fU hb
  have hw:IntKind.i64.wrap ((b:Int) + 1)=((b + 1:Nat):Int):=by rw [aA (by omega) (by omega)];omega
  have hdec:ltI (b:Int) (y1.length:Int)=true:=ce (by omega)
  have hnn:leI (0:Int) (b:Int)=true:=bH (by omega)
  have hltd:ltN b y1.length=true:=cM (by omega)
  refine⟨?_,?_,?_,?_⟩
  ·simp [jq,mp,mq,qX,qY,qZ,q8,q9,pD,bD,LT.nds,allT,gU,hdec,hnn,hltd,hI]
  ·simp [jq,mp,mq,qX,qY,qZ,q8,q9,pD,bD,LT.each,gU,Co,hw,hI]
  ·simp only [jq,mp,mq,qX,qY,qZ,q8,q9,pD,bD,LT.fn,gU,Co,jM,Int.toNat_natCast,hdec,cond_true]
  ·intro a' hf;simp only [jM,Sum.inr.injEq]at hf;subst hf;simpa using hI
 ·obtain y2:=a
  simp [jq,mp,mq,qX,qY,qZ,q8,q9,pD,bD,LT.out,gU,List.length_range]
def ml(y1 y2:List (Int×(Int×Int)))(b:Nat):(Unit)→Nat ⊕ (Unit)
 |_=>(bif(!wc ((Option.getD y1[b]? ((0:Int),(0:Int),(0:Int))).1) (((Option.getD y1[b]? ((0:Int),(0:Int),(0:Int))).2).1) ((Option.getD y1[b]? ((0:Int),(0:Int),(0:Int))).2.2) ((Option.getD y2[b]? ((0:Int),(0:Int),(0:Int))).1) (((Option.getD y2[b]? ((0:Int),(0:Int),(0:Int))).2).1) ((Option.getD y2[b]? ((0:Int),(0:Int),(0:Int))).2.2))then(.inl 0)else(.inr ()))
def jr(y1 y2:List (Int×(Int×Int)))(i:Nat):(Unit)→ef
 |_=>((i:Int),y1,y2)
def Cl:ef→Unit
 |(_,_,_)=>()
theorem WT(y1 y2:List (Int×(Int×Int))) (hn:y1.length≤9223372036854775807) (he:y2.length=y1.length):
  bp.fin ((0:Int),y1,y2)=true∧bp.res ((0:Int),y1,y2)=((ag (ml y1 y2) 1 (List.range y1.length) 0 ()).1,(jr y1 y2) (ag (ml y1 y2) 1 (List.range y1.length) 0 ()).2.1 (ag (ml y1 y2) 1 (List.range y1.length) 0 ()).2.2):=by
 have key:=bp.along (jr y1 y2) Cl (ml y1 y2) 1 (fun _ _=>True) (List.range y1.length) () (by trivial) (by simp only [bp,jr,List.length_range];omega) (fun i b a hb hI=> ?_) (fun a hI=> ?_)
 ·exact key
 ·obtain⟨⟩:=a
  obtain⟨rfl,hlt⟩:=fU hb
  have hw:IntKind.i64.wrap ((b:Int) + 1)=((b + 1:Nat):Int):=by rw [aA (by omega) (by omega)];omega
  have hdec:ltI (b:Int) (y1.length:Int)=true:=ce (by omega)
  have hnn:leI (0:Int) (b:Int)=true:=bH (by omega)
  have hltd:ltN b y1.length=true:=cM (by omega)
  refine⟨?_,?_,?_,?_⟩
  ·simp [jn,jo,mm,mn,qE,qF,qG,qH,qI,pA,bp,LT.nds,allT,jr,hdec,hnn,hltd,he]
  ·simp [jn,jo,mm,mn,qE,qF,qG,qH,qI,pA,bp,LT.each,jr,Cl,hw,he]
  ·simp only [jn,jo,mm,mn,qE,qF,qG,qH,qI,pA,bp,LT.fn,jr,Cl,ml,Int.toNat_natCast,hdec,cond_true]
  ·exact fun _ _=>trivial
 ·obtain⟨⟩:=a
  simp [jn,jo,mm,mn,qE,qF,qG,qH,qI,pA,bp,LT.out,jr,List.length_range]
theorem an5(xs:List (Int×Int×Int))(hn:leN xs.length 1048576=true):Cd xs=xs∧Ce xs=true:=by
 have hn:=cu.1 hn
 have hr:(List.replicate (Int.toNat (xs.length:Int)) ((0:Int),(0:Int),(0:Int))).length=xs.length:=by simp
 obtain⟨w1,w2⟩:=WV xs (List.replicate (Int.toNat (xs.length:Int)) ((0:Int),(0:Int),(0:Int))) (by omega) hr
 have hc:=Nr (xs:=xs) (d:=((0:Int),(0:Int),(0:Int))) (g:=fun x=>x) (f:=jM xs) (e:=0) (fun b a=>rfl) hr
 rw [hc]at w2
 refine⟨?_,?_⟩
 ·simp only [zu,Cd,Ce,w2,gU];simp
 ·simp only [zu,Cd,Ce,w1,allT];simp;omega
def Pz:List SV→List Entry→Option Out
 | [.one ⟨false,[.ref 0]⟩],[.row false 206 (.pair (.int .i64) (.pair (.int .i64) (.int .i64))) x0]=>some ⟨(.one ⟨false,[(.ref 1)]⟩),[(.row false 206 asX x0)],[(.row true 169 asX x0)],[leN x0.length 1048576]⟩
 |_,_=>none
def HX:PF Tryz.prog:=PF.alt abi Pz (by
 intro args es o h hnd;unfold Pz at h;split at h
 ·rename_i x0
  cases h
  have hnd:=cf hnd
  have hh:=an5 x0 hnd
  obtain⟨e0,en⟩:=hh
  exact eT rfl (cg en) rfl rfl (by simp only [e0] <;> rfl)
 ·cases h)
theorem am8(xs ys:List (Int×Int×Int))(hn:leN xs.length 9223372036854775807=true):BV xs ys=PA xs ys∧BW xs ys=true:=by
 have hn:=cu.1 hn
 unfold PA
 have h3: ∀ a b:Int×Int×Int,(!wc a.1 a.2.1 a.2.2 b.1 b.2.1 b.2.2)= !decide (a=b):=fun a b=>by
  obtain⟨a1,a2,a3⟩:=a;obtain⟨b1,b2,b3⟩:=b
  simp only [wc,Prod.mk.injEq]
  by_cases h1:a1=b1 <;> by_cases h2:a2=b2 <;> by_cases h3:a3=b3 <;> simp [h1,h2,h3]
 by_cases hl:ys.length=xs.length
 ·obtain⟨w1,w2⟩:=WT xs ys hn hl
  have ha:=ahM (d:=((0:Int),(0:Int),(0:Int))) hl (P:=fun b=> !decide (Option.getD xs[b]? (0,0,0)=Option.getD ys[b]? (0,0,0))) (fun b=>rfl)
  rw [kf (P:=fun b=> !decide (Option.getD xs[b]? (0,0,0)=Option.getD ys[b]? (0,0,0))) (j:=0) (fun b=>by simp only [ml,h3]),ha]at w2
  simp only [zq,zr,BV,BW,w1,w2,allT]
  by_cases he:xs=ys
  ·subst he;simp;decide
  ·simp [he,hl]
 ·have hne:xs≠ys:=fun h=>hl (by rw [h])
  simp [zq,zr,BV,BW,allT,hne]
  omega
def Pw:List SV→List Entry→Option Out
 | [.one ⟨false,[.ref 0]⟩,.one ⟨false,[.ref 1]⟩],[.row false 169 (.pair (.int .i64) (.pair (.int .i64) (.int .i64))) x0,.row false 169 (.pair (.int .i64) (.pair (.int .i64) (.int .i64))) x1]=>some ⟨(.one ⟨false,[(.val (.bool (PA x0 x1)))]⟩),[(.row false 169 asX x0),(.row false 169 asX x1)],[],[leN x0.length 9223372036854775807]⟩
 |_,_=>none
def HU:PF Tryz.prog:=PF.alt abf Pw (by
 intro args es o h hnd;unfold Pw at h;split at h
 ·rename_i x0 x1
  cases h
  have hnd:=cf hnd
  have hh:=am8 x0 x1 hnd
  obtain⟨e0,en⟩:=hh
  exact eT rfl (cg en) (by simp only [e0] <;> rfl) rfl rfl
 ·cases h)
end Go.SX

namespace Go.SX
open Go.Proofs
set_option maxRecDepth 100000
abbrev ff:=Int×List Int
section
variable (y0:Int)(y1:List Int)
def oc:Bool:=ltI y0 (↑y1.length:Int)
def si:Bool:=leI (0:Int) y0
def sj:Bool:=ltN y0.toNat y1.length
def sk:Bool:= !aI (Option.getD y1[Int.toNat y0]? (0:Int)) (0:Int) (2:Int)
def sm:Int:=IntKind.wrap .i64 (y0 + (1:Int))
end
def Wi:ff→List (Nat×SV)
 |(y0,_)=> [(3,(.one ⟨false,[(.val (.int .i64 y0))]⟩)),(0,(.one ⟨false,[(.ref 0)]⟩))]
def Wf:ff→List (Nat×Entry)
 |(_,y1)=> [(0,(.row false 2 asZ y1))]
def Wo:Nat→ff→List (Nat×SV)
 |0,(_,_)=> [(2,(.one ⟨false,[(.val (.bool false))]⟩))]
 |_,(_,_)=> []
def Wl:Nat→ff→List (Nat×Entry)
 |0,(_,y1)=> [(0,(.row false 2 asZ y1))]
 |_,(_,y1)=> [(0,(.row false 2 asZ y1))]
def rc:ff→LT ff
 |(y0,y1)=> .ite (oc y0 y1) (.need [(si y0),(oc y0 y1),(sj y0 y1)] (.ite (sk y0 y1) (.ext 0 [(0,0)]) (.nrm ((sm y0),y1) [(0,0)]))) (.ext 1 [(0,0)])
def El(s:St):Option ff:=
 (match s.look 3 with
 |some ⟨none,(.one ⟨false,[(.val (.int .i64 y0))]⟩)⟩=>
 (match s.look 0 with
 |some ⟨none,(.one ⟨false,[(.ref 0)]⟩)⟩=>
 (match s.ent 0 with
 |some (.row false 2 (.int .i64) y1)=>
 some (y0,y1)
 |_=>none)
 |_=>none)
 |_=>none)
def bz:Lp ff where
 h:=⟨[4,5,6,7,10,11,12,13,14,15,2,8,9,3],[0],[],[]⟩
 JL:=Wi
 JE:=Wf
 XL:=Wo
 XE:=Wl
 q:=fun j=>match j with | 0=> .ret | _=> .exit 0
 tags:= [0,1]
 lt:=rc
 fuel:=fun(y0,y1)=>y0.natAbs + y1.length
 fix:=fun(_,y1) (y0,_)=>(y0,y1)
 σ:= [(0,0)]
 rd:=El
theorem TX:LoopOk Tryz.prog (fun k=>Nat.blt k Tryz.f86.ntmps) bz.F (ay Tryz.f86 0):=by
 refine Lp.ok (tbl:= [fg]) (lf:= []) ar bz (by kernel_rfl) (LOk.nil _) (fun _=>rfl) (fun j _=>by unfold bz;match j with | 0=>rfl | _ + 1=>rfl) ?_ ?_ ?_ ?_ (fun _=>rfl) ?_
 ·intro x;obtain⟨y0,y1⟩:=x;kernel_rfl
 ·intro x;obtain⟨y0,y1⟩:=x;kernel_rfl
 ·intro s x h
  have h:El s=some x:=h
  unfold El at h
  repeat' split at h
  all_goals cases h
  exact⟨aa (by assumption) rfl (aa (by assumption) rfl (rfl)),ac rfl (by assumption) rfl (rfl)⟩
 ·intro x;obtain⟨y0,y1⟩:=x;kernel_rfl
 ·intro x z;obtain⟨y0,y1⟩:=x;exact(And.intro (And.intro trivial rfl) trivial)
def JV(x0:List Int):Bool:=bif Nat.beq ((Lp.res bz ((0:Int),x0)).1) (0:Nat)then false else aI (↑x0.length:Int) (1:Int) (12:Int)
def JW(x0:List Int):Bool:=allT [Lp.fin bz ((0:Int),x0)]
def Re:List SV→List Entry→Option Out
 | [.one ⟨false,[.ref 0]⟩],[.row false 2 (.int .i64) x0]=>some ⟨(.one ⟨false,[(.val (.bool (JV x0)))]⟩),[(.row false 2 asZ x0)],[],[(JW x0)]⟩
 |_,_=>none
def ac9:PF Tryz.prog:=PF.ofG Tryz.prog [fg] [bz.F] ar 86 Tryz.f86 Tryz.func86 (LOk.fnT (l:= [ay Tryz.f86 0]) (by kernel_rfl) (.cons TX (.nil _))) Re (by
 intro vs es r h;unfold Re at h;split at h
 ·cases h;kernel_rfl
 ·cases h)
def xm(x5:List (List Int)):Int:=(↑(List.length (Option.getD x5[Int.toNat (0:Int)]? (uq (CTy.sl (2:TypeId) asZ)))):Int)
def xo(x5:List (List Int)):Bool:=allT [ltI (0:Int) (↑x5.length:Int),ltN (Int.toNat (0:Int)) x5.length]
def abH:List SV→List Entry→Option Out
 | [.one ⟨true,[.val (.int .i64 _x0),.ref 0,.ref 1,.ref 2,.ref 3,.val (.int .i64 _x1),.ref 4,.ref 5,.val (.int .i64 _x2)]⟩],[.row false 2 (.int .i64) x3,.row false 169 (.pair (.int .i64) (.pair (.int .i64) (.int .i64))) x4,.row false 24 (.sl 2 (.int .i64)) x5,.row false 100 (.pair (.int .i64) (.pair (.int .i64) (.int .i64))) x6,.row false 173 (.pair (.int .i64) (.int .i64)) x7,.row false 176 (.pair (.int .i64) (.int .i64)) x8]=>some ⟨(.one ⟨false,[(.val (.int .i64 (xm x5)))]⟩),[(.row false 2 asZ x3),(.row false 169 asX x4),(.row false 24 (CTy.sl (2:TypeId) asZ) x5),(.row false 100 asX x6),(.row false 173 asY x7),(.row false 176 asY x8)],[],[(xo x5)]⟩
 |_,_=>none
def tp:PF Tryz.prog:=PF.ofG Tryz.prog [] [] ar 87 Tryz.f87 Tryz.func87 (fun c _=>LOk.nil c) abH (by
 intro vs es r h;unfold abH at h;split at h
 ·cases h;kernel_rfl
 ·cases h)
abbrev dh:=Int×Int×List (Int×(Int×Int))×Int×Int×Int
section
variable (y0 y1:Int)(y2:List (Int×(Int×Int)))(y3 y4:Int)
def ke:Int×Int×Int:=Option.getD y2[Int.toNat y0]? ((0:Int),(0:Int),(0:Int))
def fP:Bool:=(ke y0 y2).1==y3
def oR:Bool:=ltI y0 y1
def oS:Bool:=leI (0:Int) y0
def oT:Bool:=ltI y0 (↑y2.length:Int)
def oU:Bool:=ltN y0.toNat y2.length
def oV:Bool:= !(fP y0 y2 y3&&true)||leI (0:Int) y0
def oW:Bool:= !(fP y0 y2 y3&&true)||ltI y0 (↑y2.length:Int)
def oX:Bool:= !(fP y0 y2 y3&&true)||ltN y0.toNat y2.length
def oY:Bool:=bif fP y0 y2 y3 then ((ke y0 y2).2).1==y4 else false
def oZ:Int:=IntKind.wrap .i64 (y0 + (1:Int))
end
def SR:dh→List (Nat×SV)
 |(y0,y1,_,_,_,_)=> [(7,(.one ⟨false,[(.val (.int .i64 y0))]⟩)),(5,(.one ⟨false,[(.val (.int .i64 y1))]⟩)),(1,(.one ⟨false,[(.ref 0)]⟩)),(6,(.one ⟨false,[(.ptr 1 0)]⟩))]
def SO:dh→List (Nat×Entry)
 |(_,_,y2,y3,y4,y5)=> [(0,(.row false 100 asX y2)),(1,(.box 100 [(.val (.int .i64 y3)),(.val (.int .i64 y4)),(.val (.int .i64 y5))]))]
def Ta:Nat→dh→List (Nat×SV)
 |0,(_,_,_,_,_,_)=> [(4,(.one ⟨false,[(.val (.bool false))]⟩))]
 |_,(_,_,_,_,_,_)=> []
def SW:Nat→dh→List (Nat×Entry)
 |0,(_,_,y2,y3,y4,y5)=> [(0,(.row false 100 asX y2)),(1,(.box 100 [(.val (.int .i64 y3)),(.val (.int .i64 y4)),(.val (.int .i64 y5))]))]
 |_,(_,_,y2,y3,y4,y5)=> [(0,(.row false 100 asX y2)),(1,(.box 100 [(.val (.int .i64 y3)),(.val (.int .i64 y4)),(.val (.int .i64 y5))]))]
def nh:dh→LT dh
 |(y0,y1,y2,y3,y4,y5)=> .ite (oR y0 y1) (.need [(oS y0),(oT y0 y2),(oU y0 y2),(oV y0 y2 y3),(oW y0 y2 y3),(oX y0 y2 y3)] (.ite (oY y0 y2 y3 y4) (.ext 0 [(0,0),(1,1)]) (.nrm ((oZ y0),y1,y2,y3,y4,y5) [(0,0),(1,1)]))) (.ext 1 [(0,0),(1,1)])
def zC(s:St):Option dh:=
 (match s.look 7 with
 |some ⟨none,(.one ⟨false,[(.val (.int .i64 y0))]⟩)⟩=>
 (match s.look 5 with
 |some ⟨none,(.one ⟨false,[(.val (.int .i64 y1))]⟩)⟩=>
 (match s.look 1 with
 |some ⟨none,(.one ⟨false,[(.ref 0)]⟩)⟩=>
 (match s.look 6 with
 |some ⟨none,(.one ⟨false,[(.ptr 576 0)]⟩)⟩=>
 (match s.ent 0 with
 |some (.row false 100 (.pair (.int .i64) (.pair (.int .i64) (.int .i64))) y2)=>
 (match s.ent 576 with
 |some (.box 100 [(.val (.int .i64 y3)),(.val (.int .i64 y4)),(.val (.int .i64 y5))])=>
 some (y0,y1,y2,y3,y4,y5)
 |_=>none)
 |_=>none)
 |_=>none)
 |_=>none)
 |_=>none)
 |_=>none)
def bd:Lp dh where
 h:=⟨[36,37,38,41,42,43,44,45,46,47,48,49,50,51,52,53,54,55,56,57,58,4,39,40,7],[0,1],[],[]⟩
 JL:=SR
 JE:=SO
 XL:=Ta
 XE:=SW
 q:=fun j=>match j with | 0=> .ret | _=> .exit 2
 tags:= [0,1]
 lt:=nh
 fuel:=fun(y0,y1,y2,y3,y4,y5)=>y0.natAbs + y1.natAbs + y2.length + y3.natAbs + y4.natAbs + y5.natAbs
 fix:=fun(_,y1,y2,y3,y4,y5) (y0,_,_,_,_,_)=>(y0,y1,y2,y3,y4,y5)
 σ:= [(0,0),(1,576)]
 rd:=zC
theorem Rr:LoopOk Tryz.prog (memN [8,9,10,11,14,15,16,17,6,18,19,20,21,22,23,24,25,26,27,28,29,30,31,32,33,34,35,4,7,36,37,38,41,42,43,44,45,46,47,48,49,50,51,52,53,54,55,56,57,58,39,40,12,13,5]) bd.F (ah6 (ay Tryz.f88 0) 0):=by
 refine Lp.ok (tbl:= [fg]) (lf:= []) ar bd (by kernel_rfl) (LOk.nil _) (fun _=>rfl) (fun j _=>by unfold bd;match j with | 0=>rfl | _ + 1=>rfl) ?_ ?_ ?_ ?_ (fun _=>rfl) ?_
 ·intro x;obtain⟨y0,y1,y2,y3,y4,y5⟩:=x;kernel_rfl
 ·intro x;obtain⟨y0,y1,y2,y3,y4,y5⟩:=x;kernel_rfl
 ·intro s x h
  have h:zC s=some x:=h
  unfold zC at h
  repeat' split at h
  all_goals cases h
  exact⟨aa (by assumption) rfl (aa (by assumption) rfl (aa (by assumption) rfl (aa (by assumption) rfl (rfl)))),ac rfl (by assumption) rfl (ac rfl (by assumption) rfl (rfl))⟩
 ·intro x;obtain⟨y0,y1,y2,y3,y4,y5⟩:=x;kernel_rfl
 ·intro x z;obtain⟨y0,y1,y2,y3,y4,y5⟩:=x;exact(And.intro (And.intro trivial rfl) trivial)
abbrev iU:=Int×Int×List (Int×(Int×Int))
section
variable (y0 y1:Int)(y2:List (Int×(Int×Int)))
def jT:Int×Int×Int:=Option.getD y2[Int.toNat y0]? ((0:Int),(0:Int),(0:Int))
def Eo:Int×Int×List (Int×Int×Int)×Int×Int×Int:=((0:Int),y0,y2,(jT y0 y2).1,((jT y0 y2).2).1,(jT y0 y2).2.2)
def sg:Bool:=ltI y0 (↑y2.length:Int)
def Nl:Bool:=leI (0:Int) y0
def Nn:Bool:=ltN y0.toNat y2.length
def Fv:Bool:=bif bif !aI ((jT y0 y2).1) (0:Int) (IntKind.wrap .i64 (y1 - (1:Int)))then true else !aI (((jT y0 y2).2).1) (0:Int) (1:Int)then true else !aI ((jT y0 y2).2.2) (0:Int) (1:Int)
def Np:Bool:=Lp.fin bd (Eo y0 y2)
def Fw:Bool:=Nat.beq ((Lp.res bd (Eo y0 y2)).1) (0:Nat)
def Nq:Int:=IntKind.wrap .i64 (y0 + (1:Int))
end
def Wh:iU→List (Nat×SV)
 |(y0,y1,_)=> [(5,(.one ⟨false,[(.val (.int .i64 y0))]⟩)),(1,(.one ⟨false,[(.ref 0)]⟩)),(0,(.one ⟨false,[(.val (.int .i64 y1))]⟩))]
def We:iU→List (Nat×Entry)
 |(_,_,y2)=> [(0,(.row false 100 asX y2))]
def Wn:Nat→iU→List (Nat×SV)
 |0,(_,_,_)=> [(4,(.one ⟨false,[(.val (.bool false))]⟩))]
 |1,(_,_,_)=> [(4,(.one ⟨false,[(.val (.bool false))]⟩))]
 |_,(_,_,_)=> []
def Wk:Nat→iU→List (Nat×Entry)
 |0,(_,_,y2)=> [(0,(.row false 100 asX y2))]
 |1,(_,_,y2)=> [(0,(.row false 100 asX y2))]
 |_,(_,_,y2)=> [(0,(.row false 100 asX y2))]
def rb:iU→LT iU
 |(y0,y1,y2)=> .ite (sg y0 y2) (.need [(Nl y0),(sg y0 y2),(Nn y0 y2)] (.ite (Fv y0 y1 y2) (.ext 0 [(0,0)]) (.need [(Np y0 y2)] (.ite (Fw y0 y2) (.ext 1 [(0,0)]) (.nrm ((Nq y0),y1,y2) [(0,0)]))))) (.ext 2 [(0,0)])
def Ek(s:St):Option iU:=
 (match s.look 5 with
 |some ⟨none,(.one ⟨false,[(.val (.int .i64 y0))]⟩)⟩=>
 (match s.look 1 with
 |some ⟨none,(.one ⟨false,[(.ref 0)]⟩)⟩=>
 (match s.look 0 with
 |some ⟨none,(.one ⟨false,[(.val (.int .i64 y1))]⟩)⟩=>
 (match s.ent 0 with
 |some (.row false 100 (.pair (.int .i64) (.pair (.int .i64) (.int .i64))) y2)=>
 some (y0,y1,y2)
 |_=>none)
 |_=>none)
 |_=>none)
 |_=>none)
def bm:Lp iU where
 h:=⟨[8,9,10,11,14,15,16,17,6,18,19,20,21,22,23,24,25,26,27,28,29,30,31,32,33,34,35,4,7,36,37,38,41,42,43,44,45,46,47,48,49,50,51,52,53,54,55,56,57,58,39,40,12,13,5],[0],[],[]⟩
 JL:=Wh
 JE:=We
 XL:=Wn
 XE:=Wk
 q:=fun j=>match j with | 0=> .ret | 1=> .ret | _=> .exit 0
 tags:= [0,1,2]
 lt:=rb
 fuel:=fun(y0,y1,y2)=>y0.natAbs + y1.natAbs + y2.length
 fix:=fun(_,y1,y2) (y0,_,_)=>(y0,y1,y2)
 σ:= [(0,0)]
 rd:=Ek
theorem TW:LoopOk Tryz.prog (fun k=>Nat.blt k Tryz.f88.ntmps) bm.F (ay Tryz.f88 0):=by
 refine Lp.ok (tbl:= [fg]) (lf:= [bd.F]) ar bm (by kernel_rfl) (LOk.allT (l:= [ah6 (ay Tryz.f88 0) 0]) (by kernel_rfl) (.cons Rr (.nil _))) (fun _=>rfl) (fun j _=>by unfold bm;match j with | 0=>rfl | 1=>rfl | _ + 2=>rfl) ?_ ?_ ?_ ?_ (fun _=>rfl) ?_
 ·intro x;obtain⟨y0,y1,y2⟩:=x;kernel_rfl
 ·intro x;obtain⟨y0,y1,y2⟩:=x;kernel_rfl
 ·intro s x h
  have h:Ek s=some x:=h
  unfold Ek at h
  repeat' split at h
  all_goals cases h
  exact⟨aa (by assumption) rfl (aa (by assumption) rfl (aa (by assumption) rfl (rfl))),ac rfl (by assumption) rfl (rfl)⟩
 ·intro x;obtain⟨y0,y1,y2⟩:=x;kernel_rfl
 ·intro x z;obtain⟨y0,y1,y2⟩:=x;exact(And.intro (And.intro trivial (And.intro trivial rfl)) trivial)
section
variable (x0:Int)(x1:List (Int×Int×Int))
def uR:Int×Int×List (Int×Int×Int):=((0:Int),x0,x1)
def JT:Bool:=bif Nat.beq ((Lp.res bm (uR x0 x1)).1) (0:Nat)then false else bif Nat.beq ((Lp.res bm (uR x0 x1)).1) (1:Nat)then false else bif aI x0 (1:Int) (12:Int)then leI (↑x1.length:Int) (8:Int)else false
def JU:Bool:=allT [Lp.fin bm (uR x0 x1)]
end
def Rd:List SV→List Entry→Option Out
 | [.one ⟨false,[.val (.int .i64 x0)]⟩,.one ⟨false,[.ref 0]⟩],[.row false 100 (.pair (.int .i64) (.pair (.int .i64) (.int .i64))) x1]=>some ⟨(.one ⟨false,[(.val (.bool (JT x0 x1)))]⟩),[(.row false 100 asX x1)],[],[(JU x0 x1)]⟩
 |_,_=>none
def ac8:PF Tryz.prog:=PF.ofG Tryz.prog [fg] [bm.F] ar 88 Tryz.f88 Tryz.func88 (LOk.fnT (l:= [ay Tryz.f88 0]) (by kernel_rfl) (.cons TW (.nil _))) Rd (by
 intro vs es r h;unfold Rd at h;split at h
 ·cases h;kernel_rfl
 ·cases h)
def OJ(x0:Int):Bool:=aI x0 (0:Int) (5:Int)
def abA:List SV→List Entry→Option Out
 | [.one ⟨false,[.val (.int .i64 x0)]⟩],[]=>some ⟨(.one ⟨false,[(.val (.bool (OJ x0)))]⟩),[],[],[]⟩
 |_,_=>none
def ada:PF Tryz.prog:=PF.ofG Tryz.prog [fg] [] ar 89 Tryz.f89 Tryz.func89 (fun c _=>LOk.nil c) abA (by
 intro vs es r h;unfold abA at h;split at h
 ·cases h;kernel_rfl
 ·cases h)
abbrev mf:=Int×List (Int×Int)
section
variable (y0:Int)(y1:List (Int×Int))
def xO:Int×Int:=Option.getD y1[Int.toNat y0]? ((0:Int),(0:Int))
def p9:Bool:= !aI ((xO y0 y1).1) (1:Int) (366:Int)
def zX:Bool:=ltI y0 (↑y1.length:Int)
def Fx:Bool:=leI (0:Int) y0
def Fy:Bool:=ltN y0.toNat y1.length
def Fz:Bool:= !(!p9 y0 y1&&true)||leI (0:Int) y0
def FA:Bool:= !(!p9 y0 y1&&true)||ltI y0 (↑y1.length:Int)
def FB:Bool:= !(!p9 y0 y1&&true)||ltN y0.toNat y1.length
def FC:Bool:=bif p9 y0 y1 then true else !aI ((xO y0 y1).2) (0:Int) (100000:Int)
def FD:Int:=IntKind.wrap .i64 (y0 + (1:Int))
end
def agp:mf→List (Nat×SV)
 |(y0,_)=> [(3,(.one ⟨false,[(.val (.int .i64 y0))]⟩)),(0,(.one ⟨false,[(.ref 0)]⟩))]
def agi:mf→List (Nat×Entry)
 |(_,y1)=> [(0,(.row false 173 asY y1))]
def agD:Nat→mf→List (Nat×SV)
 |0,(_,_)=> [(2,(.one ⟨false,[(.val (.bool false))]⟩))]
 |_,(_,_)=> []
def agw:Nat→mf→List (Nat×Entry)
 |0,(_,y1)=> [(0,(.row false 173 asY y1))]
 |_,(_,y1)=> [(0,(.row false 173 asY y1))]
def Du:mf→LT mf
 |(y0,y1)=> .ite (zX y0 y1) (.need [(Fx y0),(zX y0 y1),(Fy y0 y1),(Fz y0 y1),(FA y0 y1),(FB y0 y1)] (.ite (FC y0 y1) (.ext 0 [(0,0)]) (.nrm ((FD y0),y1) [(0,0)]))) (.ext 1 [(0,0)])
def Oq(s:St):Option mf:=
 (match s.look 3 with
 |some ⟨none,(.one ⟨false,[(.val (.int .i64 y0))]⟩)⟩=>
 (match s.look 0 with
 |some ⟨none,(.one ⟨false,[(.ref 0)]⟩)⟩=>
 (match s.ent 0 with
 |some (.row false 173 (.pair (.int .i64) (.int .i64)) y1)=>
 some (y0,y1)
 |_=>none)
 |_=>none)
 |_=>none)
def fL:Lp mf where
 h:=⟨[4,5,6,7,10,11,12,13,14,15,16,17,18,19,20,21,22,23,24,25,2,8,9,3],[0],[],[]⟩
 JL:=agp
 JE:=agi
 XL:=agD
 XE:=agw
 q:=fun j=>match j with | 0=> .ret | _=> .exit 0
 tags:= [0,1]
 lt:=Du
 fuel:=fun(y0,y1)=>y0.natAbs + y1.length
 fix:=fun(_,y1) (y0,_)=>(y0,y1)
 σ:= [(0,0)]
 rd:=Oq
theorem aec:LoopOk Tryz.prog (fun k=>Nat.blt k Tryz.f90.ntmps) fL.F (ay Tryz.f90 0):=by
 refine Lp.ok (tbl:= [fg]) (lf:= []) ar fL (by kernel_rfl) (LOk.nil _) (fun _=>rfl) (fun j _=>by unfold fL;match j with | 0=>rfl | _ + 1=>rfl) ?_ ?_ ?_ ?_ (fun _=>rfl) ?_
 ·intro x;obtain⟨y0,y1⟩:=x;kernel_rfl
 ·intro x;obtain⟨y0,y1⟩:=x;kernel_rfl
 ·intro s x h
  have h:Oq s=some x:=h
  unfold Oq at h
  repeat' split at h
  all_goals cases h
  exact⟨aa (by assumption) rfl (aa (by assumption) rfl (rfl)),ac rfl (by assumption) rfl (rfl)⟩
 ·intro x;obtain⟨y0,y1⟩:=x;kernel_rfl
 ·intro x z;obtain⟨y0,y1⟩:=x;exact(And.intro (And.intro trivial rfl) trivial)
def WM(x0:List (Int×Int)):Bool:=bif Nat.beq ((Lp.res fL ((0:Int),x0)).1) (0:Nat)then false else leI (↑x0.length:Int) (12:Int)
def WN(x0:List (Int×Int)):Bool:=allT [Lp.fin fL ((0:Int),x0)]
def aeF:List SV→List Entry→Option Out
 | [.one ⟨false,[.ref 0]⟩],[.row false 173 (.pair (.int .i64) (.int .i64)) x0]=>some ⟨(.one ⟨false,[(.val (.bool (WM x0)))]⟩),[(.row false 173 asY x0)],[],[(WN x0)]⟩
 |_,_=>none
def alg:PF Tryz.prog:=PF.ofG Tryz.prog [fg] [fL.F] ar 90 Tryz.f90 Tryz.func90 (LOk.fnT (l:= [ay Tryz.f90 0]) (by kernel_rfl) (.cons aec (.nil _))) aeF (by
 intro vs es r h;unfold aeF at h;split at h
 ·cases h;kernel_rfl
 ·cases h)
def OM(x0 x1:Int):Bool:=bif aI x0 (0:Int) (23:Int)then aI x1 (1:Int) (999:Int)else false
def abF:List SV→List Entry→Option Out
 | [.one ⟨false,[.val (.int .i64 x0)]⟩,.one ⟨false,[.val (.int .i64 x1)]⟩],[]=>some ⟨(.one ⟨false,[(.val (.bool (OM x0 x1)))]⟩),[],[],[]⟩
 |_,_=>none
def adb:PF Tryz.prog:=PF.ofG Tryz.prog [fg] [] ar 173 Tryz.f173 Tryz.func173 (fun c _=>LOk.nil c) abF (by
 intro vs es r h;unfold abF at h;split at h
 ·cases h;kernel_rfl
 ·cases h)
abbrev kW:=Int×Int×Int×List (Int×Int)
section
variable (y0 y1 y2:Int)(y3:List (Int×Int))
def rE:Int×Int:=Option.getD y3[Int.toNat y0]? ((0:Int),(0:Int))
def rF:Bool:= !((rE y0 y3).1==y1&&true)
def xQ:Bool:=ltI y0 (↑y3.length:Int)
def DR:Bool:=leI (0:Int) y0
def DS:Bool:=ltN y0.toNat y3.length
def DT:Bool:=rF y0 y1 y3||leI (0:Int) y0
def DU:Bool:=rF y0 y1 y3||ltI y0 (↑y3.length:Int)
def DV:Bool:=rF y0 y1 y3||ltN y0.toNat y3.length
def DW:Bool:=bif (rE y0 y3).1==y1 then (rE y0 y3).2==y2 else false
def DX:Int:=IntKind.wrap .i64 (y0 + (1:Int))
end
def afn:kW→List (Nat×SV)
 |(y0,y1,y2,_)=> [(7,(.one ⟨false,[(.val (.int .i64 y0))]⟩)),(0,(.one ⟨false,[(.ref 0)]⟩)),(1,(.one ⟨false,[(.val (.int .i64 y1))]⟩)),(2,(.one ⟨false,[(.val (.int .i64 y2))]⟩))]
def afg:kW→List (Nat×Entry)
 |(_,_,_,y3)=> [(0,(.row false 176 asY y3))]
def afB:Nat→kW→List (Nat×SV)
 |0,(y0,_,_,_)=> [(6,(.one ⟨false,[(.val (.int .i64 y0))]⟩))]
 |_,(_,_,_,_)=> []
def afu:Nat→kW→List (Nat×Entry)
 |0,(_,_,_,y3)=> [(0,(.row false 176 asY y3))]
 |_,(_,_,_,y3)=> [(0,(.row false 176 asY y3))]
def Bv:kW→LT kW
 |(y0,y1,y2,y3)=> .ite (xQ y0 y3) (.need [(DR y0),(xQ y0 y3),(DS y0 y3),(DT y0 y1 y3),(DU y0 y1 y3),(DV y0 y1 y3)] (.ite (DW y0 y1 y2 y3) (.ext 0 [(0,0)]) (.nrm ((DX y0),y1,y2,y3) [(0,0)]))) (.ext 1 [(0,0)])
def MJ(s:St):Option kW:=
 (match s.look 7 with
 |some ⟨none,(.one ⟨false,[(.val (.int .i64 y0))]⟩)⟩=>
 (match s.look 0 with
 |some ⟨none,(.one ⟨false,[(.ref 0)]⟩)⟩=>
 (match s.look 1 with
 |some ⟨none,(.one ⟨false,[(.val (.int .i64 y1))]⟩)⟩=>
 (match s.look 2 with
 |some ⟨none,(.one ⟨false,[(.val (.int .i64 y2))]⟩)⟩=>
 (match s.ent 0 with
 |some (.row false 176 (.pair (.int .i64) (.int .i64)) y3)=>
 some (y0,y1,y2,y3)
 |_=>none)
 |_=>none)
 |_=>none)
 |_=>none)
 |_=>none)
def dE:Lp kW where
 h:=⟨[8,9,10,11,14,15,16,17,18,19,20,21,22,23,24,25,26,27,28,29,30,6,12,13,7],[0],[],[]⟩
 JL:=afn
 JE:=afg
 XL:=afB
 XE:=afu
 q:=fun j=>match j with | 0=> .ret | _=> .exit 0
 tags:= [0,1]
 lt:=Bv
 fuel:=fun(y0,y1,y2,y3)=>y0.natAbs + y1.natAbs + y2.natAbs + y3.length
 fix:=fun(_,y1,y2,y3) (y0,_,_,_)=>(y0,y1,y2,y3)
 σ:= [(0,0)]
 rd:=MJ
theorem acX:LoopOk Tryz.prog (fun k=>Nat.blt k Tryz.f174.ntmps) dE.F (ay Tryz.f174 0):=by
 refine Lp.ok (tbl:= []) (lf:= []) ar dE (by kernel_rfl) (LOk.nil _) (fun _=>rfl) (fun j _=>by unfold dE;match j with | 0=>rfl | _ + 1=>rfl) ?_ ?_ ?_ ?_ (fun _=>rfl) ?_
 ·intro x;obtain⟨y0,y1,y2,y3⟩:=x;kernel_rfl
 ·intro x;obtain⟨y0,y1,y2,y3⟩:=x;kernel_rfl
 ·intro s x h
  have h:MJ s=some x:=h
  unfold MJ at h
  repeat' split at h
  all_goals cases h
  exact⟨aa (by assumption) rfl (aa (by assumption) rfl (aa (by assumption) rfl (aa (by assumption) rfl (rfl)))),ac rfl (by assumption) rfl (rfl)⟩
 ·intro x;obtain⟨y0,y1,y2,y3⟩:=x;kernel_rfl
 ·intro x z;obtain⟨y0,y1,y2,y3⟩:=x;exact(And.intro (And.intro trivial rfl) trivial)
section
variable (x0 x1:Int)(x2:List (Int×Int))
def Md:Int×Int×Int×List (Int×Int):=((0:Int),x0,x1,x2)
def FV:Int:=bif Nat.beq ((Lp.res dE (Md x0 x1 x2)).1) (0:Nat)then ((Lp.res dE (Md x0 x1 x2)).2).1else(-1:Int)
def OL:Bool:=allT [Lp.fin dE (Md x0 x1 x2)]
end
def abE:List SV→List Entry→Option Out
 | [.one ⟨false,[.ref 0]⟩,.one ⟨false,[.val (.int .i64 x0)]⟩,.one ⟨false,[.val (.int .i64 x1)]⟩],[.row false 176 (.pair (.int .i64) (.int .i64)) x2]=>some ⟨(.one ⟨false,[(.val (.int .i64 (FV x0 x1 x2)))]⟩),[(.row false 176 asY x2)],[],[(OL x0 x1 x2)]⟩
 |_,_=>none
def Fo:PF Tryz.prog:=PF.ofG Tryz.prog [] [dE.F] ar 174 Tryz.f174 Tryz.func174 (LOk.fnT (l:= [ay Tryz.f174 0]) (by kernel_rfl) (.cons acX (.nil _))) abE (by
 intro vs es r h;unfold abE at h;split at h
 ·cases h;kernel_rfl
 ·cases h)
abbrev og:=Int×List (Int×Int)
section
variable (y0:Int)(y1:List (Int×Int))
def mG:Int×Int:=Option.getD y1[Int.toNat y0]? ((0:Int),(0:Int))
def p6:Bool:= !OM ((mG y0 y1).1) ((mG y0 y1).2)
def vi:Bool:=ltI y0 (↑y1.length:Int)
def MK:Bool:=leI (0:Int) y0
def ML:Bool:=ltN y0.toNat y1.length
def MM:Bool:= !(!p6 y0 y1&&true)||leI (0:Int) y0
def MN:Bool:= !(!p6 y0 y1&&true)||ltI y0 (↑y1.length:Int)
def MO:Bool:= !(!p6 y0 y1&&true)||ltN y0.toNat y1.length
def UB:Bool:= !(!p6 y0 y1&&true)||OL ((mG y0 y1).1) ((mG y0 y1).2) y1
def UC:Bool:=bif p6 y0 y1 then true else FV ((mG y0 y1).1) ((mG y0 y1).2) y1 !=y0
def UD:Int:=IntKind.wrap .i64 (y0 + (1:Int))
end
def adP:og→List (Nat×SV)
 |(y0,_)=> [(3,(.one ⟨false,[(.val (.int .i64 y0))]⟩)),(0,(.one ⟨false,[(.ref 0)]⟩))]
def adG:og→List (Nat×Entry)
 |(_,y1)=> [(0,(.row false 176 asY y1))]
def ad7:Nat→og→List (Nat×SV)
 |0,(_,_)=> [(2,(.one ⟨false,[(.val (.bool false))]⟩))]
 |_,(_,_)=> []
def adY:Nat→og→List (Nat×Entry)
 |0,(_,y1)=> [(0,(.row false 176 asY y1))]
 |_,(_,y1)=> [(0,(.row false 176 asY y1))]
def ze:og→LT og
 |(y0,y1)=> .ite (vi y0 y1) (.need [(MK y0),(vi y0 y1),(ML y0 y1),(MK y0),(vi y0 y1),(ML y0 y1),(MM y0 y1),(MN y0 y1),(MO y0 y1),(MM y0 y1),(MN y0 y1),(MO y0 y1),(UB y0 y1)] (.ite (UC y0 y1) (.ext 0 [(0,0)]) (.nrm ((UD y0),y1) [(0,0)]))) (.ext 1 [(0,0)])
def KV(s:St):Option og:=
 (match s.look 3 with
 |some ⟨none,(.one ⟨false,[(.val (.int .i64 y0))]⟩)⟩=>
 (match s.look 0 with
 |some ⟨none,(.one ⟨false,[(.ref 0)]⟩)⟩=>
 (match s.ent 0 with
 |some (.row false 176 (.pair (.int .i64) (.int .i64)) y1)=>
 some (y0,y1)
 |_=>none)
 |_=>none)
 |_=>none)
def dK:Lp og where
 h:=⟨[4,5,6,7,10,11,12,13,14,15,16,17,18,19,20,21,22,23,24,25,26,27,28,29,30,31,32,33,34,35,36,37,2,8,9,3],[0],[],[]⟩
 JL:=adP
 JE:=adG
 XL:=ad7
 XE:=adY
 q:=fun j=>match j with | 0=> .ret | _=> .exit 0
 tags:= [0,1]
 lt:=ze
 fuel:=fun(y0,y1)=>y0.natAbs + y1.length
 fix:=fun(_,y1) (y0,_)=>(y0,y1)
 σ:= [(0,0)]
 rd:=KV
theorem abb:LoopOk Tryz.prog (fun k=>Nat.blt k Tryz.f91.ntmps) dK.F (ay Tryz.f91 0):=by
 refine Lp.ok (tbl:= [adb,Fo,PF.lend Fo,PF.fz Fo]) (lf:= []) ar dK (by kernel_rfl) (LOk.nil _) (fun _=>rfl) (fun j _=>by unfold dK;match j with | 0=>rfl | _ + 1=>rfl) ?_ ?_ ?_ ?_ (fun _=>rfl) ?_
 ·intro x;obtain⟨y0,y1⟩:=x;kernel_rfl
 ·intro x;obtain⟨y0,y1⟩:=x;kernel_rfl
 ·intro s x h
  have h:KV s=some x:=h
  unfold KV at h
  repeat' split at h
  all_goals cases h
  exact⟨aa (by assumption) rfl (aa (by assumption) rfl (rfl)),ac rfl (by assumption) rfl (rfl)⟩
 ·intro x;obtain⟨y0,y1⟩:=x;kernel_rfl
 ·intro x z;obtain⟨y0,y1⟩:=x;exact(And.intro (And.intro trivial rfl) trivial)
def Sn(x0:List (Int×Int)):Bool:=bif Nat.beq ((Lp.res dK ((0:Int),x0)).1) (0:Nat)then false else leI (↑x0.length:Int) (8:Int)
def So(x0:List (Int×Int)):Bool:=allT [Lp.fin dK ((0:Int),x0)]
def aac:List SV→List Entry→Option Out
 | [.one ⟨false,[.ref 0]⟩],[.row false 176 (.pair (.int .i64) (.int .i64)) x0]=>some ⟨(.one ⟨false,[(.val (.bool (Sn x0)))]⟩),[(.row false 176 asY x0)],[],[(So x0)]⟩
 |_,_=>none
def ajD:PF Tryz.prog:=PF.ofG Tryz.prog [adb,Fo,PF.lend Fo,PF.fz Fo] [dK.F] ar 91 Tryz.f91 Tryz.func91 (LOk.fnT (l:= [ay Tryz.f91 0]) (by kernel_rfl) (.cons abb (.nil _))) aac (by
 intro vs es r h;unfold aac at h;split at h
 ·cases h;kernel_rfl
 ·cases h)
def Zm(x0:Int):Bool:= !aX x0 (0:Int) (2:Int)
def Nx:List SV→List Entry→Option Out
 | [.one ⟨false,[.val (.int .i64 x0)]⟩],[]=>some ⟨(.one ⟨false,[(.val (.bool (Zm x0)))]⟩),[],[],[]⟩
 |_,_=>none
def ZE:PF Tryz.prog:=PF.ofG Tryz.prog [gt] [] ar 166 Tryz.f166 Tryz.func166 (fun c _=>LOk.nil c) Nx (by
 intro vs es r h;unfold Nx at h;split at h
 ·cases h;kernel_rfl
 ·cases h)
def xA(x0:Int):Bool:=aX x0 (1:Int) (12:Int)
def VA:List SV→List Entry→Option Out
 | [.one ⟨false,[.val (.int .i64 x0)]⟩],[]=>some ⟨(.one ⟨false,[(.val (.bool (xA x0)))]⟩),[],[],[]⟩
 |_,_=>none
def Od:PF Tryz.prog:=PF.ofG Tryz.prog [gt] [] ar 70 Tryz.f70 Tryz.func70 (fun c _=>LOk.nil c) VA (by
 intro vs es r h;unfold VA at h;split at h
 ·cases h;kernel_rfl
 ·cases h)
def rg(x0:Int):Bool:= !aX x0 (0:Int) (2:Int)
def GW:List SV→List Entry→Option Out
 | [(.one ⟨false,[(.val (.int .i64 x0))]⟩)],[]=>some ⟨(.one ⟨false,[(.val (.bool (rg x0)))]⟩),[],[],[]⟩
 |_,_=>none
def Hh:PF Tryz.prog:=PF.ofG Tryz.prog [gt] [] ar 166 Tryz.f166 Tryz.func166 (fun c _=>LOk.nil c) GW (by
 intro vs es r h;unfold GW at h;split at h
 ·cases h;kernel_rfl
 ·cases h)
abbrev aV:=Int×Int×List Int
section
variable (y0 y1:Int)(y2:List Int)
def fY:Bool:=ltI y0 y1
def fZ:Bool:=leI (0:Int) y0
def f4:Bool:=ltI y0 (↑y2.length:Int)
def f6:Bool:=ltN y0.toNat y2.length
def f9:Bool:=rg (Option.getD y2[Int.toNat y0]? (0:Int))
def gc:Int:=IntKind.wrap .i64 (y0 + (1:Int))
end
def HG:aV→List (Nat×SV)
 |(y0,y1,_)=> [(8,(.one ⟨false,[(.val (.int .i64 y0))]⟩)),(7,(.one ⟨false,[(.val (.int .i64 y1))]⟩)),(1,(.one ⟨false,[(.val (.func (.func 166) ⟨[]⟩ ⟨[]⟩))]⟩)),(0,(.one ⟨false,[(.ref 0)]⟩))]
def HE:aV→List (Nat×Entry)
 |(_,_,y2)=> [(0,(.row false 2 asZ y2))]
def HK:Nat→aV→List (Nat×SV)
 |0,(y0,_,_)=> [(4,(.one ⟨false,[(.val (.int .i64 y0))]⟩))]
 |_,(_,_,_)=> []
def HI:Nat→aV→List (Nat×Entry)
 |0,(_,_,y2)=> [(0,(.row false 2 asZ y2))]
 |_,(_,_,y2)=> [(0,(.row false 2 asZ y2))]
def fC:aV→LT aV
 |(y0,y1,y2)=> .ite (fY y0 y1) (.need [(fZ y0),(f4 y0 y2),(f6 y0 y2)] (.ite (f9 y0 y2) (.ext 0 [(0,0)]) (.nrm ((gc y0),y1,y2) [(0,0)]))) (.ext 1 [(0,0)])
def m9(s:St):Option aV:=
 (match s.look 8 with
 |some ⟨none,(.one ⟨false,[(.val (.int .i64 y0))]⟩)⟩=>
 (match s.look 7 with
 |some ⟨none,(.one ⟨false,[(.val (.int .i64 y1))]⟩)⟩=>
 (match s.look 1 with
 |some ⟨none,(.one ⟨false,[(.val (.func (.func 166) ⟨[]⟩ ⟨[]⟩))]⟩)⟩=>
 (match s.look 0 with
 |some ⟨none,(.one ⟨false,[(.ref 0)]⟩)⟩=>
 (match s.ent 0 with
 |some (.row false 2 (.int .i64) y2)=>
 some (y0,y1,y2)
 |_=>none)
 |_=>none)
 |_=>none)
 |_=>none)
 |_=>none)
def ao:Lp aV where
 h:=⟨[9,10,5,11,12,13,14,15,16,17,4,18,8],[0],[],[]⟩
 JL:=HG
 JE:=HE
 XL:=HK
 XE:=HI
 q:=fun j=>match j with | 0=> .ret | _=> .exit 0
 tags:= [0,1]
 lt:=fC
 fuel:=fun(y0,y1,y2)=>y0.natAbs + y1.natAbs + y2.length
 fix:=fun(_,y1,y2) (y0,_,_)=>(y0,y1,y2)
 σ:= [(0,0)]
 rd:=m9
theorem GJ:LoopOk Tryz.prog (fun k=>Nat.blt k Tryz.f211.ntmps) ao.F (ay Tryz.f211 0):=by
 refine Lp.ok (tbl:= [Hh]) (lf:= []) ar ao (by kernel_rfl) (LOk.nil _) (fun _=>rfl) (fun j _=>by unfold ao;match j with | 0=>rfl | _ + 1=>rfl) ?_ ?_ ?_ ?_ (fun _=>rfl) ?_
 ·intro x;obtain⟨y0,y1,y2⟩:=x;kernel_rfl
 ·intro x;obtain⟨y0,y1,y2⟩:=x;kernel_rfl
 ·intro s x h
  have h:m9 s=some x:=h
  unfold m9 at h
  repeat' split at h
  all_goals cases h
  exact⟨aa (by assumption) rfl (aa (by assumption) rfl (aa (by assumption) rfl (aa (by assumption) rfl (rfl)))),ac rfl (by assumption) rfl (rfl)⟩
 ·intro x;obtain⟨y0,y1,y2⟩:=x;kernel_rfl
 ·intro x z;obtain⟨y0,y1,y2⟩:=x;exact(And.intro (And.intro trivial rfl) trivial)
section
variable (x0:List Int)
def kb:Int×Int×List Int:=((0:Int),(↑x0.length:Int),x0)
def pW:Int:=bif Nat.beq ((Lp.res ao (kb x0)).1) (0:Nat)then ((Lp.res ao (kb x0)).2).1else(-1:Int)
def pX:Bool:=allT [Lp.fin ao (kb x0)]
end
def yg:List SV→List Entry→Option Out
 | [(.one ⟨false,[(.ref 0)]⟩),(.one ⟨false,[(.val (.func (.func 166) ⟨[]⟩ ⟨[]⟩))]⟩)],[(.row false 2 (.int .i64) x0)]=>some ⟨(.one ⟨false,[(.val (.int .i64 (pW x0)))]⟩),[(.row false 2 asZ x0)],[],[(pX x0)]⟩
 |_,_=>none
def pU:PF Tryz.prog:=PF.ofG Tryz.prog [Hh] [ao.F] ar 211 Tryz.f211 Tryz.func211 (LOk.fnT (l:= [ay Tryz.f211 0]) (by kernel_rfl) (.cons GJ (.nil _))) yg (by
 intro vs es r h;unfold yg at h;split at h
 ·cases h;kernel_rfl
 ·cases h)
def nS(x0:List Int):Bool:=leI (0:Int) (pW x0)
def nT(x0:List Int):Bool:=allT [pX x0]
def vr:List SV→List Entry→Option Out
 | [(.one ⟨false,[(.ref 0)]⟩),(.one ⟨false,[(.val (.func (.func 166) ⟨[]⟩ ⟨[]⟩))]⟩)],[(.row false 2 (.int .i64) x0)]=>some ⟨(.one ⟨false,[(.val (.bool (nS x0)))]⟩),[(.row false 2 asZ x0)],[],[(nT x0)]⟩
 |_,_=>none
def nP:PF Tryz.prog:=PF.ofG Tryz.prog [pU,PF.lend pU,PF.fz pU] [] ar 158 Tryz.f158 Tryz.func158 (fun c _=>LOk.nil c) vr (by
 intro vs es r h;unfold vr at h;split at h
 ·cases h;kernel_rfl
 ·cases h)
def Ji(x0:List Int):Bool:=bif xA (cN x0)then !nS x0 else false
def Jj(x0:List Int):Bool:=allT [!(xA (cN x0)&&true)||nT x0]
def QZ:List SV→List Entry→Option Out
 | [.one ⟨false,[.ref 0]⟩],[.row false 2 (.int .i64) x0]=>some ⟨(.one ⟨false,[(.val (.bool (Ji x0)))]⟩),[(.row false 2 asZ x0)],[],[(Jj x0)]⟩
 |_,_=>none
def ac7:PF Tryz.prog:=PF.ofG Tryz.prog [ZE,Od,aF,PF.lend aF,PF.fz aF,nP,PF.lend nP,PF.fz nP] [] ar 77 Tryz.f77 Tryz.func77 (fun c _=>LOk.nil c) QZ (by
 intro vs es r h;unfold QZ at h;split at h
 ·cases h;kernel_rfl
 ·cases h)
def rf(x0 x1 x3 x4:Int):Bool:=bif x0==x3 then x1==x4 else false
def re:List SV→List Entry→Option Out
 | [(.one ⟨true,[(.val (.int .i64 x0)),(.val (.int .i64 x1)),(.val (.int .i64 _x2))]⟩),(.one ⟨false,[(.ptr 0 0)]⟩)],[(.box 100 [(.val (.int .i64 x3)),(.val (.int .i64 x4)),(.val (.int .i64 x5))])]=>some ⟨(.one ⟨false,[(.val (.bool (rf x0 x1 x3 x4)))]⟩),[(.box 100 [(.val (.int .i64 x3)),(.val (.int .i64 x4)),(.val (.int .i64 x5))])],[],[]⟩
 |_,_=>none
def Hg:PF Tryz.prog:=PF.kept (PF.ofG Tryz.prog [] [] ar 168 Tryz.f168 Tryz.func168 (fun c _=>LOk.nil c) re (by
 intro vs es r h;unfold re at h;split at h
 ·cases h;kernel_rfl
 ·cases h)) [0] (by
 intro vs es r h;have h:re vs es=some r:=h;unfold re at h;split at h
 ·cases h;exact List.forall_mem_cons.2 ⟨rfl,fun _ h=>(by cases h)⟩
 ·cases h)
abbrev aN:=Int×Int×Int×Int×Int×List (Int×(Int×Int))
section
variable (y0 y1 y2 y3:Int)(y5:List (Int×(Int×Int)))
def cm:Int×Int×Int:=Option.getD y5[Int.toNat y0]? ((0:Int),(0:Int),(0:Int))
def eF:Bool:=ltI y0 y1
def eG:Bool:=leI (0:Int) y0
def eH:Bool:=ltI y0 (↑y5.length:Int)
def eI:Bool:=ltN y0.toNat y5.length
def eJ:Bool:=rf ((cm y0 y5).1) (((cm y0 y5).2).1) y2 y3
def eK:Int:=IntKind.wrap .i64 (y0 + (1:Int))
end
def Gi:aN→List (Nat×SV)
 |(y0,y1,_,_,_,_)=> [(8,(.one ⟨false,[(.val (.int .i64 y0))]⟩)),(7,(.one ⟨false,[(.val (.int .i64 y1))]⟩)),(1,(.one ⟨false,[(.clo 168 [0])]⟩)),(0,(.one ⟨false,[(.ref 1)]⟩))]
def Gg:aN→List (Nat×Entry)
 |(_,_,y2,y3,y4,y5)=> [(0,(.box 100 [(.val (.int .i64 y2)),(.val (.int .i64 y3)),(.val (.int .i64 y4))])),(1,(.row false 100 asX y5))]
def Gm:Nat→aN→List (Nat×SV)
 |0,(y0,_,_,_,_,_)=> [(4,(.one ⟨false,[(.val (.int .i64 y0))]⟩))]
 |_,(_,_,_,_,_,_)=> []
def Gk:Nat→aN→List (Nat×Entry)
 |0,(_,_,y2,y3,y4,y5)=> [(0,(.box 100 [(.val (.int .i64 y2)),(.val (.int .i64 y3)),(.val (.int .i64 y4))])),(1,(.row false 100 asX y5))]
 |_,(_,_,y2,y3,y4,y5)=> [(0,(.box 100 [(.val (.int .i64 y2)),(.val (.int .i64 y3)),(.val (.int .i64 y4))])),(1,(.row false 100 asX y5))]
def ea:aN→LT aN
 |(y0,y1,y2,y3,y4,y5)=> .ite (eF y0 y1) (.need [(eG y0),(eH y0 y5),(eI y0 y5)] (.ite (eJ y0 y2 y3 y5) (.ext 0 [(0,0),(1,1)]) (.nrm ((eK y0),y1,y2,y3,y4,y5) [(0,0),(1,1)]))) (.ext 1 [(0,0),(1,1)])
def lm(s:St):Option aN:=
 (match s.look 8 with
 |some ⟨none,(.one ⟨false,[(.val (.int .i64 y0))]⟩)⟩=>
 (match s.look 7 with
 |some ⟨none,(.one ⟨false,[(.val (.int .i64 y1))]⟩)⟩=>
 (match s.look 1 with
 |some ⟨none,(.one ⟨false,[(.clo 168 [1])]⟩)⟩=>
 (match s.look 0 with
 |some ⟨none,(.one ⟨false,[(.ref 0)]⟩)⟩=>
 (match s.ent 1 with
 |some (.box 100 [(.val (.int .i64 y2)),(.val (.int .i64 y3)),(.val (.int .i64 y4))])=>
 (match s.ent 0 with
 |some (.row false 100 (.pair (.int .i64) (.pair (.int .i64) (.int .i64))) y5)=>
 some (y0,y1,y2,y3,y4,y5)
 |_=>none)
 |_=>none)
 |_=>none)
 |_=>none)
 |_=>none)
 |_=>none)
def ak:Lp aN where
 h:=⟨[9,10,5,11,12,13,14,15,16,17,4,18,8],[0,1],[],[]⟩
 JL:=Gi
 JE:=Gg
 XL:=Gm
 XE:=Gk
 q:=fun j=>match j with | 0=> .ret | _=> .exit 0
 tags:= [0,1]
 lt:=ea
 fuel:=fun(y0,y1,y2,y3,y4,y5)=>y0.natAbs + y1.natAbs + y2.natAbs + y3.natAbs + y4.natAbs + y5.length
 fix:=fun(_,y1,y2,y3,y4,y5) (y0,_,_,_,_,_)=>(y0,y1,y2,y3,y4,y5)
 σ:= [(0,1),(1,0)]
 rd:=lm
theorem EC:LoopOk Tryz.prog (fun k=>Nat.blt k Tryz.f216.ntmps) ak.F (ay Tryz.f216 0):=by
 refine Lp.ok (tbl:= [Hg]) (lf:= []) ar ak (by kernel_rfl) (LOk.nil _) (fun _=>rfl) (fun j _=>by unfold ak;match j with | 0=>rfl | _ + 1=>rfl) ?_ ?_ ?_ ?_ (fun _=>rfl) ?_
 ·intro x;obtain⟨y0,y1,y2,y3,y4,y5⟩:=x;kernel_rfl
 ·intro x;obtain⟨y0,y1,y2,y3,y4,y5⟩:=x;kernel_rfl
 ·intro s x h
  have h:lm s=some x:=h
  unfold lm at h
  repeat' split at h
  all_goals cases h
  exact⟨aa (by assumption) rfl (aa (by assumption) rfl (aa (by assumption) rfl (aa (by assumption) rfl (rfl)))),ac rfl (by assumption) rfl (ac rfl (by assumption) rfl (rfl))⟩
 ·intro x;obtain⟨y0,y1,y2,y3,y4,y5⟩:=x;kernel_rfl
 ·intro x z;obtain⟨y0,y1,y2,y3,y4,y5⟩:=x;exact(And.intro (And.intro trivial rfl) trivial)
section
variable (x0:List (Int×Int×Int))(x1 x2 x3:Int)
def fE:Int×Int×Int×Int×Int×List (Int×Int×Int):=((0:Int),(↑x0.length:Int),x1,x2,x3,x0)
def dd:Bool:=Nat.beq ((Lp.res ak (fE x0 x1 x2 x3)).1) (0:Nat)
def ji:Int:=bif dd x0 x1 x2 x3 then ((Lp.res ak (fE x0 x1 x2 x3)).2).1else(-1:Int)
def jj:Int:=bif dd x0 x1 x2 x3 then x1 else x1
def jk:Int:=bif dd x0 x1 x2 x3 then x2 else x2
def jl:Int:=bif dd x0 x1 x2 x3 then x3 else x3
def jm:Bool:=allT [Lp.fin ak (fE x0 x1 x2 x3)]
end
def vu:List SV→List Entry→Option Out
 | [(.one ⟨false,[(.ref 0)]⟩),(.one ⟨false,[(.clo 168 [1])]⟩)],[(.row false 100 (.pair (.int .i64) (.pair (.int .i64) (.int .i64))) x0),(.box 100 [(.val (.int .i64 x1)),(.val (.int .i64 x2)),(.val (.int .i64 x3))])]=>some ⟨(.one ⟨false,[(.val (.int .i64 (ji x0 x1 x2 x3)))]⟩),[(.row false 100 asX x0),(.box 100 [(.val (.int .i64 (jj x0 x1 x2 x3))),(.val (.int .i64 (jk x0 x1 x2 x3))),(.val (.int .i64 (jl x0 x1 x2 x3)))])],[],[(jm x0 x1 x2 x3)]⟩
 |_,_=>none
def nR:PF Tryz.prog:=PF.ofG Tryz.prog [Hg] [ak.F] ar 216 Tryz.f216 Tryz.func216 (LOk.fnT (l:= [ay Tryz.f216 0]) (by kernel_rfl) (.cons EC (.nil _))) vu (by
 intro vs es r h;unfold vu at h;split at h
 ·cases h;kernel_rfl
 ·cases h)
section
variable (x0:List (Int×Int×Int))(x1 x2 x3:Int)
def eD:Bool:=leI (0:Int) (ji x0 x1 x2 x3)
def lR:Int:=jj x0 x1 x2 x3
def lS:Int:=jk x0 x1 x2 x3
def lT:Int:=jl x0 x1 x2 x3
def eE:Bool:=allT [jm x0 x1 x2 x3]
end
def sN:List SV→List Entry→Option Out
 | [(.one ⟨false,[(.ref 0)]⟩),(.one ⟨false,[(.clo 168 [1])]⟩)],[(.row false 100 (.pair (.int .i64) (.pair (.int .i64) (.int .i64))) x0),(.box 100 [(.val (.int .i64 x1)),(.val (.int .i64 x2)),(.val (.int .i64 x3))])]=>some ⟨(.one ⟨false,[(.val (.bool (eD x0 x1 x2 x3)))]⟩),[(.row false 100 asX x0),(.box 100 [(.val (.int .i64 (lR x0 x1 x2 x3))),(.val (.int .i64 (lS x0 x1 x2 x3))),(.val (.int .i64 (lT x0 x1 x2 x3)))])],[],[(eE x0 x1 x2 x3)]⟩
 |_,_=>none
def cD:PF Tryz.prog:=PF.ofG Tryz.prog [nR,PF.lend nR,PF.fz nR] [] ar 167 Tryz.f167 Tryz.func167 (fun c _=>LOk.nil c) sN (by
 intro vs es r h;unfold sN at h;split at h
 ·cases h;kernel_rfl
 ·cases h)
abbrev iT:=Int×Int×Int×List (Int×(Int×Int))
section
variable (y0 y1 y2:Int)(y3:List (Int×(Int×Int)))
def ek:Int×Int×Int:=Option.getD y3[Int.toNat y0]? ((0:Int),(0:Int),(0:Int))
def Li:List (Int×Int×Int):=List.drop (Int.toNat (0:Int)) (List.take y0.toNat y3)
def xz:Bool:=ltI y0 y1
def Fa:Bool:=leI (0:Int) y0
def Na:Bool:=ltI y0 (↑y3.length:Int)
def Nb:Bool:=ltN y0.toNat y3.length
def Fb:Bool:=bif bif !aX ((ek y0 y3).1) (0:Int) (IntKind.wrap .i64 (y2 - (1:Int)))then true else !aX (((ek y0 y3).2).1) (0:Int) (1:Int)then true else !aX ((ek y0 y3).2.2) (0:Int) (1:Int)
end
def Nc:Bool:=leI (0:Int) (0:Int)
section
variable (y0:Int)(y3:List (Int×(Int×Int)))
def Nd:Bool:=leI y0 (↑y3.length:Int)
def Nf:Bool:=eE (Li y0 y3) ((ek y0 y3).1) (((ek y0 y3).2).1) ((ek y0 y3).2.2)
def Ng:Bool:=eD (Li y0 y3) ((ek y0 y3).1) (((ek y0 y3).2).1) ((ek y0 y3).2.2)
def Nh:Int:=IntKind.wrap .i64 (y0 + (1:Int))
end
def Wg:iT→List (Nat×SV)
 |(y0,y1,y2,_)=> [(9,(.one ⟨false,[(.val (.int .i64 y0))]⟩)),(8,(.one ⟨false,[(.val (.int .i64 y1))]⟩)),(7,(.one ⟨false,[(.ref 0)]⟩)),(0,(.one ⟨false,[(.val (.int .i64 y2))]⟩)),(1,(.one ⟨false,[(.ref 0)]⟩))]
def Wd:iT→List (Nat×Entry)
 |(_,_,_,y3)=> [(0,(.row false 100 asX y3))]
def Wm:Nat→iT→List (Nat×SV)
 |0,(_,_,_,_)=> [(4,(.one ⟨false,[(.val (.bool false))]⟩))]
 |1,(_,_,_,_)=> [(4,(.one ⟨false,[(.val (.bool false))]⟩))]
 |_,(_,_,_,_)=> []
def Wj:Nat→iT→List (Nat×Entry)
 |0,(_,_,_,y3)=> [(0,(.row false 100 asX y3))]
 |1,(_,_,_,y3)=> [(0,(.row false 100 asX y3))]
 |_,(_,_,_,y3)=> [(0,(.row false 100 asX y3))]
def ra:iT→LT iT
 |(y0,y1,y2,y3)=> .ite (xz y0 y1) (.need [(Fa y0),(Na y0 y3),(Nb y0 y3)] (.ite (Fb y0 y2 y3) (.ext 0 [(0,0)]) (.need [(Nc),(Fa y0),(Nd y0 y3),(Nf y0 y3)] (.ite (Ng y0 y3) (.ext 1 [(0,0)]) (.nrm ((Nh y0),y1,y2,y3) [(0,0)]))))) (.ext 2 [(0,0)])
def Ej(s:St):Option iT:=
 (match s.look 9 with
 |some ⟨none,(.one ⟨false,[(.val (.int .i64 y0))]⟩)⟩=>
 (match s.look 8 with
 |some ⟨none,(.one ⟨false,[(.val (.int .i64 y1))]⟩)⟩=>
 (match s.look 7 with
 |some ⟨none,(.one ⟨false,[(.ref 0)]⟩)⟩=>
 (match s.look 0 with
 |some ⟨none,(.one ⟨false,[(.val (.int .i64 y2))]⟩)⟩=>
 (match s.look 1 with
 |some ⟨none,(.one ⟨false,[(.ref 0)]⟩)⟩=>
 (match s.ent 0 with
 |some (.row false 100 (.pair (.int .i64) (.pair (.int .i64) (.int .i64))) y3)=>
 some (y0,y1,y2,y3)
 |_=>none)
 |_=>none)
 |_=>none)
 |_=>none)
 |_=>none)
 |_=>none)
def bk:Lp iT where
 h:=⟨[10,11,12,13,6,5,14,15,16,17,18,19,20,21,22,23,24,25,26,27,28,29,30,31,4,32,33,34,35,36,37,9],[0],[],[]⟩
 JL:=Wg
 JE:=Wd
 XL:=Wm
 XE:=Wj
 q:=fun j=>match j with | 0=> .ret | 1=> .ret | _=> .exit 0
 tags:= [0,1,2]
 lt:=ra
 fuel:=fun(y0,y1,y2,y3)=>y0.natAbs + y1.natAbs + y2.natAbs + y3.length
 fix:=fun(_,y1,y2,y3) (y0,_,_,_)=>(y0,y1,y2,y3)
 σ:= [(0,0)]
 rd:=Ej
theorem TV:LoopOk Tryz.prog (fun k=>Nat.blt k Tryz.f78.ntmps) bk.F (ay Tryz.f78 0):=by
 refine Lp.ok (tbl:= [gt,Od,cD,PF.lend cD,PF.fz cD]) (lf:= []) ar bk (by kernel_rfl) (LOk.nil _) (fun _=>rfl) (fun j _=>by unfold bk;match j with | 0=>rfl | 1=>rfl | _ + 2=>rfl) ?_ ?_ ?_ ?_ (fun _=>rfl) ?_
 ·intro x;obtain⟨y0,y1,y2,y3⟩:=x;kernel_rfl
 ·intro x;obtain⟨y0,y1,y2,y3⟩:=x;kernel_rfl
 ·intro s x h
  have h:Ej s=some x:=h
  unfold Ej at h
  repeat' split at h
  all_goals cases h
  exact⟨aa (by assumption) rfl (aa (by assumption) rfl (aa (by assumption) rfl (aa (by assumption) rfl (aa (by assumption) rfl (rfl))))),ac rfl (by assumption) rfl (rfl)⟩
 ·intro x;obtain⟨y0,y1,y2,y3⟩:=x;kernel_rfl
 ·intro x z;obtain⟨y0,y1,y2,y3⟩:=x;exact(And.intro (And.intro trivial (And.intro trivial rfl)) trivial)
section
variable (x0:Int)(x1:List (Int×Int×Int))
def ur:Int×Int×Int×List (Int×Int×Int):=((0:Int),(↑x1.length:Int),x0,x1)
def Jg:Bool:=bif Nat.beq ((Lp.res bk (ur x0 x1)).1) (0:Nat)then false else bif Nat.beq ((Lp.res bk (ur x0 x1)).1) (1:Nat)then false else bif xA x0 then leI (↑x1.length:Int) (8:Int)else false
def Jh:Bool:=allT [Lp.fin bk (ur x0 x1)]
end
def QY:List SV→List Entry→Option Out
 | [.one ⟨false,[.val (.int .i64 x0)]⟩,.one ⟨false,[.ref 0]⟩],[.row false 100 (.pair (.int .i64) (.pair (.int .i64) (.int .i64))) x1]=>some ⟨(.one ⟨false,[(.val (.bool (Jg x0 x1)))]⟩),[(.row false 100 asX x1)],[],[(Jh x0 x1)]⟩
 |_,_=>none
def ac6:PF Tryz.prog:=PF.ofG Tryz.prog [gt,Od,cD,PF.lend cD,PF.fz cD] [bk.F] ar 78 Tryz.f78 Tryz.func78 (LOk.fnT (l:= [ay Tryz.f78 0]) (by kernel_rfl) (.cons TV (.nil _))) QY (by
 intro vs es r h;unfold QY at h;split at h
 ·cases h;kernel_rfl
 ·cases h)
def QO(x0:Int):Bool:=aX x0 (0:Int) (5:Int)
def aev:List SV→List Entry→Option Out
 | [.one ⟨false,[.val (.int .i64 x0)]⟩],[]=>some ⟨(.one ⟨false,[(.val (.bool (QO x0)))]⟩),[],[],[]⟩
 |_,_=>none
def ae2:PF Tryz.prog:=PF.ofG Tryz.prog [gt] [] ar 80 Tryz.f80 Tryz.func80 (fun c _=>LOk.nil c) aev (by
 intro vs es r h;unfold aev at h;split at h
 ·cases h;kernel_rfl
 ·cases h)
def vE(x0:Int):Bool:=aX x0 (0:Int) (100000:Int)
def agc:List SV→List Entry→Option Out
 | [.one ⟨false,[.val (.int .i64 x0)]⟩],[]=>some ⟨(.one ⟨false,[(.val (.bool (vE x0)))]⟩),[],[],[]⟩
 |_,_=>none
def Oc:PF Tryz.prog:=PF.ofG Tryz.prog [gt] [] ar 83 Tryz.f83 Tryz.func83 (fun c _=>LOk.nil c) agc (by
 intro vs es r h;unfold agc at h;split at h
 ·cases h;kernel_rfl
 ·cases h)
def ajp(x0 x1:Int):Bool:=bif !aX x0 (1:Int) (366:Int)then true else !vE x1
def ZT:List SV→List Entry→Option Out
 | [.one ⟨true,[.val (.int .i64 x0),.val (.int .i64 x1)]⟩],[]=>some ⟨(.one ⟨false,[(.val (.bool (ajp x0 x1)))]⟩),[],[],[]⟩
 |_,_=>none
def ajv:PF Tryz.prog:=PF.ofG Tryz.prog [gt,Oc] [] ar 170 Tryz.f170 Tryz.func170 (fun c _=>LOk.nil c) ZT (by
 intro vs es r h;unfold ZT at h;split at h
 ·cases h;kernel_rfl
 ·cases h)
def BS(x0 x1:Int):Bool:=bif !aX x0 (1:Int) (366:Int)then true else !vE x1
def Pn:List SV→List Entry→Option Out
 | [(.one ⟨true,[(.val (.int .i64 x0)),(.val (.int .i64 x1))]⟩)],[]=>some ⟨(.one ⟨false,[(.val (.bool (BS x0 x1)))]⟩),[],[],[]⟩
 |_,_=>none
def PB:PF Tryz.prog:=PF.ofG Tryz.prog [gt,Oc] [] ar 170 Tryz.f170 Tryz.func170 (fun c _=>LOk.nil c) Pn (by
 intro vs es r h;unfold Pn at h;split at h
 ·cases h;kernel_rfl
 ·cases h)
abbrev a8:=Int×Int×List (Int×Int)
section
variable (y0 y1:Int)(y2:List (Int×Int))
def dY:Int×Int:=Option.getD y2[Int.toNat y0]? ((0:Int),(0:Int))
def gE:Bool:=ltI y0 y1
def gF:Bool:=leI (0:Int) y0
def gG:Bool:=ltI y0 (↑y2.length:Int)
def gH:Bool:=ltN y0.toNat y2.length
def gI:Bool:=BS ((dY y0 y2).1) ((dY y0 y2).2)
def gJ:Int:=IntKind.wrap .i64 (y0 + (1:Int))
end
def IZ:a8→List (Nat×SV)
 |(y0,y1,_)=> [(8,(.one ⟨false,[(.val (.int .i64 y0))]⟩)),(7,(.one ⟨false,[(.val (.int .i64 y1))]⟩)),(1,(.one ⟨false,[(.val (.func (.func 170) ⟨[]⟩ ⟨[]⟩))]⟩)),(0,(.one ⟨false,[(.ref 0)]⟩))]
def IY:a8→List (Nat×Entry)
 |(_,_,y2)=> [(0,(.row false 173 asY y2))]
def Jc:Nat→a8→List (Nat×SV)
 |0,(y0,_,_)=> [(4,(.one ⟨false,[(.val (.int .i64 y0))]⟩))]
 |_,(_,_,_)=> []
def Jb:Nat→a8→List (Nat×Entry)
 |0,(_,_,y2)=> [(0,(.row false 173 asY y2))]
 |_,(_,_,y2)=> [(0,(.row false 173 asY y2))]
def gy:a8→LT a8
 |(y0,y1,y2)=> .ite (gE y0 y1) (.need [(gF y0),(gG y0 y2),(gH y0 y2)] (.ite (gI y0 y2) (.ext 0 [(0,0)]) (.nrm ((gJ y0),y1,y2) [(0,0)]))) (.ext 1 [(0,0)])
def oN(s:St):Option a8:=
 (match s.look 8 with
 |some ⟨none,(.one ⟨false,[(.val (.int .i64 y0))]⟩)⟩=>
 (match s.look 7 with
 |some ⟨none,(.one ⟨false,[(.val (.int .i64 y1))]⟩)⟩=>
 (match s.look 1 with
 |some ⟨none,(.one ⟨false,[(.val (.func (.func 170) ⟨[]⟩ ⟨[]⟩))]⟩)⟩=>
 (match s.look 0 with
 |some ⟨none,(.one ⟨false,[(.ref 0)]⟩)⟩=>
 (match s.ent 0 with
 |some (.row false 173 (.pair (.int .i64) (.int .i64)) y2)=>
 some (y0,y1,y2)
 |_=>none)
 |_=>none)
 |_=>none)
 |_=>none)
 |_=>none)
def au:Lp a8 where
 h:=⟨[9,10,5,11,12,13,14,15,16,17,4,18,8],[0],[],[]⟩
 JL:=IZ
 JE:=IY
 XL:=Jc
 XE:=Jb
 q:=fun j=>match j with | 0=> .ret | _=> .exit 0
 tags:= [0,1]
 lt:=gy
 fuel:=fun(y0,y1,y2)=>y0.natAbs + y1.natAbs + y2.length
 fix:=fun(_,y1,y2) (y0,_,_)=>(y0,y1,y2)
 σ:= [(0,0)]
 rd:=oN
theorem HS:LoopOk Tryz.prog (fun k=>Nat.blt k Tryz.f217.ntmps) au.F (ay Tryz.f217 0):=by
 refine Lp.ok (tbl:= [PB]) (lf:= []) ar au (by kernel_rfl) (LOk.nil _) (fun _=>rfl) (fun j _=>by unfold au;match j with | 0=>rfl | _ + 1=>rfl) ?_ ?_ ?_ ?_ (fun _=>rfl) ?_
 ·intro x;obtain⟨y0,y1,y2⟩:=x;kernel_rfl
 ·intro x;obtain⟨y0,y1,y2⟩:=x;kernel_rfl
 ·intro s x h
  have h:oN s=some x:=h
  unfold oN at h
  repeat' split at h
  all_goals cases h
  exact⟨aa (by assumption) rfl (aa (by assumption) rfl (aa (by assumption) rfl (aa (by assumption) rfl (rfl)))),ac rfl (by assumption) rfl (rfl)⟩
 ·intro x;obtain⟨y0,y1,y2⟩:=x;kernel_rfl
 ·intro x z;obtain⟨y0,y1,y2⟩:=x;exact(And.intro (And.intro trivial rfl) trivial)
section
variable (x0:List (Int×Int))
def kY:Int×Int×List (Int×Int):=((0:Int),(↑x0.length:Int),x0)
def rA:Int:=bif Nat.beq ((Lp.res au (kY x0)).1) (0:Nat)then ((Lp.res au (kY x0)).2).1else(-1:Int)
def rB:Bool:=allT [Lp.fin au (kY x0)]
end
def Aj:List SV→List Entry→Option Out
 | [(.one ⟨false,[(.ref 0)]⟩),(.one ⟨false,[(.val (.func (.func 170) ⟨[]⟩ ⟨[]⟩))]⟩)],[(.row false 173 (.pair (.int .i64) (.int .i64)) x0)]=>some ⟨(.one ⟨false,[(.val (.int .i64 (rA x0)))]⟩),[(.row false 173 asY x0)],[],[(rB x0)]⟩
 |_,_=>none
def rz:PF Tryz.prog:=PF.ofG Tryz.prog [PB] [au.F] ar 217 Tryz.f217 Tryz.func217 (LOk.fnT (l:= [ay Tryz.f217 0]) (by kernel_rfl) (.cons HS (.nil _))) Aj (by
 intro vs es r h;unfold Aj at h;split at h
 ·cases h;kernel_rfl
 ·cases h)
def pw(x0:List (Int×Int)):Bool:=leI (0:Int) (rA x0)
def px(x0:List (Int×Int)):Bool:=allT [rB x0]
def xu:List SV→List Entry→Option Out
 | [(.one ⟨false,[(.ref 0)]⟩),(.one ⟨false,[(.val (.func (.func 170) ⟨[]⟩ ⟨[]⟩))]⟩)],[(.row false 173 (.pair (.int .i64) (.int .i64)) x0)]=>some ⟨(.one ⟨false,[(.val (.bool (pw x0)))]⟩),[(.row false 173 asY x0)],[],[(px x0)]⟩
 |_,_=>none
def pt:PF Tryz.prog:=PF.ofG Tryz.prog [rz,PF.lend rz,PF.fz rz] [] ar 169 Tryz.f169 Tryz.func169 (fun c _=>LOk.nil c) xu (by
 intro vs es r h;unfold xu at h;split at h
 ·cases h;kernel_rfl
 ·cases h)
section
variable (x0:List (Int×Int))
def TP:Bool:=leI (↑x0.length:Int) (12:Int)
def Wp:Bool:=bif TP x0 then !pw x0 else false
def Wq:Bool:=allT [!(TP x0&&true)||px x0]
end
def aes:List SV→List Entry→Option Out
 | [.one ⟨false,[.ref 0]⟩],[.row false 173 (.pair (.int .i64) (.int .i64)) x0]=>some ⟨(.one ⟨false,[(.val (.bool (Wp x0)))]⟩),[(.row false 173 asY x0)],[],[(Wq x0)]⟩
 |_,_=>none
def ald:PF Tryz.prog:=PF.ofG Tryz.prog [ajv,pt,PF.lend pt,PF.fz pt] [] ar 81 Tryz.f81 Tryz.func81 (fun c _=>LOk.nil c) aes (by
 intro vs es r h;unfold aes at h;split at h
 ·cases h;kernel_rfl
 ·cases h)
def QN(x0 x1:Int):Bool:=bif aX x0 (0:Int) (23:Int)then aX x1 (1:Int) (999:Int)else false
def aeu:List SV→List Entry→Option Out
 | [.one ⟨true,[.val (.int .i64 x0),.val (.int .i64 x1)]⟩],[]=>some ⟨(.one ⟨false,[(.val (.bool (QN x0 x1)))]⟩),[],[],[]⟩
 |_,_=>none
def ae1:PF Tryz.prog:=PF.ofG Tryz.prog [gt] [] ar 171 Tryz.f171 Tryz.func171 (fun c _=>LOk.nil c) aeu (by
 intro vs es r h;unfold aeu at h;split at h
 ·cases h;kernel_rfl
 ·cases h)
abbrev cK:=Int×Int×Int×Int×List (Int×Int)
section
variable (y0 y1 y2 y3:Int)(y4:List (Int×Int))
def ju:Int×Int:=Option.getD y4[Int.toNat y0]? ((0:Int),(0:Int))
def nn:Bool:=ltI y0 y1
def np:Bool:=leI (0:Int) y0
def nq:Bool:=ltI y0 (↑y4.length:Int)
def nr:Bool:=ltN y0.toNat y4.length
def nt:Bool:=bif y2==(ju y0 y4).1then bif y3==(ju y0 y4).2then true else false else false
def nu:Int:=IntKind.wrap .i64 (y0 + (1:Int))
end
def RE:cK→List (Nat×SV)
 |(y0,y1,_,_,_)=> [(8,(.one ⟨false,[(.val (.int .i64 y0))]⟩)),(7,(.one ⟨false,[(.val (.int .i64 y1))]⟩)),(3,(.one ⟨false,[(.ptr 0 0)]⟩)),(0,(.one ⟨false,[(.ref 1)]⟩))]
def RD:cK→List (Nat×Entry)
 |(_,_,y2,y3,y4)=> [(0,(.box 176 [(.val (.int .i64 y2)),(.val (.int .i64 y3))])),(1,(.row false 176 asY y4))]
def RG:Nat→cK→List (Nat×SV)
 |0,(y0,_,_,_,_)=> [(4,(.one ⟨false,[(.val (.int .i64 y0))]⟩))]
 |_,(_,_,_,_,_)=> []
def RF:Nat→cK→List (Nat×Entry)
 |0,(_,_,y2,y3,y4)=> [(0,(.box 176 [(.val (.int .i64 y2)),(.val (.int .i64 y3))])),(1,(.row false 176 asY y4))]
 |_,(_,_,y2,y3,y4)=> [(0,(.box 176 [(.val (.int .i64 y2)),(.val (.int .i64 y3))])),(1,(.row false 176 asY y4))]
def l7:cK→LT cK
 |(y0,y1,y2,y3,y4)=> .ite (nn y0 y1) (.need [(np y0),(nq y0 y4),(nr y0 y4)] (.ite (nt y0 y2 y3 y4) (.ext 0 [(0,0),(1,1)]) (.nrm ((nu y0),y1,y2,y3,y4) [(0,0),(1,1)]))) (.ext 1 [(0,0),(1,1)])
def xY(s:St):Option cK:=
 (match s.look 8 with
 |some ⟨none,(.one ⟨false,[(.val (.int .i64 y0))]⟩)⟩=>
 (match s.look 7 with
 |some ⟨none,(.one ⟨false,[(.val (.int .i64 y1))]⟩)⟩=>
 (match s.look 3 with
 |some ⟨none,(.one ⟨false,[(.ptr 128 0)]⟩)⟩=>
 (match s.look 0 with
 |some ⟨none,(.one ⟨false,[(.ref 0)]⟩)⟩=>
 (match s.ent 128 with
 |some (.box 176 [(.val (.int .i64 y2)),(.val (.int .i64 y3))])=>
 (match s.ent 0 with
 |some (.row false 176 (.pair (.int .i64) (.int .i64)) y4)=>
 some (y0,y1,y2,y3,y4)
 |_=>none)
 |_=>none)
 |_=>none)
 |_=>none)
 |_=>none)
 |_=>none)
def aS:Lp cK where
 h:=⟨[9,10,5,11,12,13,14,15,16,17,4,18,8],[0,1],[],[]⟩
 JL:=RE
 JE:=RD
 XL:=RG
 XE:=RF
 q:=fun j=>match j with | 0=> .ret | _=> .exit 0
 tags:= [0,1]
 lt:=l7
 fuel:=fun(y0,y1,y2,y3,y4)=>y0.natAbs + y1.natAbs + y2.natAbs + y3.natAbs + y4.length
 fix:=fun(_,y1,y2,y3,y4) (y0,_,_,_,_)=>(y0,y1,y2,y3,y4)
 σ:= [(0,128),(1,0)]
 rd:=xY
theorem Qn:LoopOk Tryz.prog (fun k=>Nat.blt k Tryz.f218.ntmps) aS.F (ay Tryz.f218 0):=by
 refine Lp.ok (tbl:= []) (lf:= []) ar aS (by kernel_rfl) (LOk.nil _) (fun _=>rfl) (fun j _=>by unfold aS;match j with | 0=>rfl | _ + 1=>rfl) ?_ ?_ ?_ ?_ (fun _=>rfl) ?_
 ·intro x;obtain⟨y0,y1,y2,y3,y4⟩:=x;kernel_rfl
 ·intro x;obtain⟨y0,y1,y2,y3,y4⟩:=x;kernel_rfl
 ·intro s x h
  have h:xY s=some x:=h
  unfold xY at h
  repeat' split at h
  all_goals cases h
  exact⟨aa (by assumption) rfl (aa (by assumption) rfl (aa (by assumption) rfl (aa (by assumption) rfl (rfl)))),ac rfl (by assumption) rfl (ac rfl (by assumption) rfl (rfl))⟩
 ·intro x;obtain⟨y0,y1,y2,y3,y4⟩:=x;kernel_rfl
 ·intro x z;obtain⟨y0,y1,y2,y3,y4⟩:=x;exact(And.intro (And.intro trivial rfl) trivial)
section
variable (x0 x1:Int)(x2:List (Int×Int))
def uj:Int×Int×Int×Int×List (Int×Int):=((0:Int),(↑x2.length:Int),x0,x1,x2)
def Em:Int:=bif Nat.beq ((Lp.res aS (uj x0 x1 x2)).1) (0:Nat)then ((Lp.res aS (uj x0 x1 x2)).2).1else(-1:Int)
def En:Bool:=allT [Lp.fin aS (uj x0 x1 x2)]
end
def Lf:List SV→List Entry→Option Out
 | [.one ⟨false,[.ref 0]⟩,.one ⟨true,[.val (.int .i64 x0),.val (.int .i64 x1)]⟩],[.row false 176 (.pair (.int .i64) (.int .i64)) x2]=>some ⟨(.one ⟨false,[(.val (.int .i64 (Em x0 x1 x2)))]⟩),[(.row false 176 asY x2)],[],[(En x0 x1 x2)]⟩
 |_,_=>none
def Eh:PF Tryz.prog:=PF.ofG Tryz.prog [] [aS.F] ar 218 Tryz.f218 Tryz.func218 (LOk.fnT (l:= [ay Tryz.f218 0]) (by kernel_rfl) (.cons Qn (.nil _))) Lf (by
 intro vs es r h;unfold Lf at h;split at h
 ·cases h;kernel_rfl
 ·cases h)
def nk(x0 x1:Int)(x2:List (Int×Int)):Bool:=leI (0:Int) (Em x0 x1 x2)
def sB(x0 x1:Int)(x2:List (Int×Int)):Bool:=allT [En x0 x1 x2]
def It:List SV→List Entry→Option Out
 | [.one ⟨false,[.ref 0]⟩,.one ⟨true,[.val (.int .i64 x0),.val (.int .i64 x1)]⟩],[.row false 176 (.pair (.int .i64) (.int .i64)) x2]=>some ⟨(.one ⟨false,[(.val (.bool (nk x0 x1 x2)))]⟩),[(.row false 176 asY x2)],[],[(sB x0 x1 x2)]⟩
 |_,_=>none
def ka:PF Tryz.prog:=PF.ofG Tryz.prog [Eh,PF.lend Eh,PF.fz Eh] [] ar 172 Tryz.f172 Tryz.func172 (fun c _=>LOk.nil c) It (by
 intro vs es r h;unfold It at h;split at h
 ·cases h;kernel_rfl
 ·cases h)
abbrev oe:=Int×Int×List (Int×Int)
section
variable (y0 y1:Int)(y2:List (Int×Int))
def mC:Int×Int:=Option.getD y2[Int.toNat y0]? ((0:Int),(0:Int))
def mD:Bool:= !QN ((mC y0 y2).1) ((mC y0 y2).2)
def EE:List (Int×Int):=bif !mD y0 y2&&true then List.drop (Int.toNat (0:Int)) (List.take y0.toNat y2)else []
def GC:Bool:=ltI y0 y1
def TG:Bool:=leI (0:Int) y0
def TH:Bool:=ltI y0 (↑y2.length:Int)
def TI:Bool:=ltN y0.toNat y2.length
def TJ:Bool:= !(!mD y0 y2&&true)||leI (0:Int) (0:Int)
def TK:Bool:= !(!mD y0 y2&&true)||leI (0:Int) y0
def TL:Bool:= !(!mD y0 y2&&true)||leI y0 (↑y2.length:Int)
def TM:Bool:= !(!mD y0 y2&&true)||sB ((mC y0 y2).1) ((mC y0 y2).2) (EE y0 y2)
def TN:Bool:=bif mD y0 y2 then true else nk ((mC y0 y2).1) ((mC y0 y2).2) (EE y0 y2)
def TO:Int:=IntKind.wrap .i64 (y0 + (1:Int))
end
def adJ:oe→List (Nat×SV)
 |(y0,y1,_)=> [(7,(.one ⟨false,[(.val (.int .i64 y0))]⟩)),(6,(.one ⟨false,[(.val (.int .i64 y1))]⟩)),(5,(.one ⟨false,[(.ref 0)]⟩)),(0,(.one ⟨false,[(.ref 0)]⟩))]
def adA:oe→List (Nat×Entry)
 |(_,_,y2)=> [(0,(.row false 176 asY y2))]
def ad1:Nat→oe→List (Nat×SV)
 |0,(_,_,_)=> [(2,(.one ⟨false,[(.val (.bool false))]⟩))]
 |_,(_,_,_)=> []
def adS:Nat→oe→List (Nat×Entry)
 |0,(_,_,y2)=> [(0,(.row false 176 asY y2))]
 |_,(_,_,y2)=> [(0,(.row false 176 asY y2))]
def yY:oe→LT oe
 |(y0,y1,y2)=> .ite (GC y0 y1) (.need [(TG y0),(TH y0 y2),(TI y0 y2)] (.need [(TJ y0 y2),(TK y0 y2),(TL y0 y2),(TM y0 y2)] (.ite (TN y0 y2) (.ext 0 [(0,0)]) (.nrm ((TO y0),y1,y2) [(0,0)])))) (.ext 1 [(0,0)])
def KP(s:St):Option oe:=
 (match s.look 7 with
 |some ⟨none,(.one ⟨false,[(.val (.int .i64 y0))]⟩)⟩=>
 (match s.look 6 with
 |some ⟨none,(.one ⟨false,[(.val (.int .i64 y1))]⟩)⟩=>
 (match s.look 5 with
 |some ⟨none,(.one ⟨false,[(.ref 0)]⟩)⟩=>
 (match s.look 0 with
 |some ⟨none,(.one ⟨false,[(.ref 0)]⟩)⟩=>
 (match s.ent 0 with
 |some (.row false 176 (.pair (.int .i64) (.int .i64)) y2)=>
 some (y0,y1,y2)
 |_=>none)
 |_=>none)
 |_=>none)
 |_=>none)
 |_=>none)
def dG:Lp oe where
 h:=⟨[8,9,10,11,4,3,12,13,14,15,16,17,18,19,20,21,2,22,7],[0],[],[]⟩
 JL:=adJ
 JE:=adA
 XL:=ad1
 XE:=adS
 q:=fun j=>match j with | 0=> .ret | _=> .exit 0
 tags:= [0,1]
 lt:=yY
 fuel:=fun(y0,y1,y2)=>y0.natAbs + y1.natAbs + y2.length
 fix:=fun(_,y1,y2) (y0,_,_)=>(y0,y1,y2)
 σ:= [(0,0)]
 rd:=KP
theorem aa5:LoopOk Tryz.prog (fun k=>Nat.blt k Tryz.f82.ntmps) dG.F (ay Tryz.f82 0):=by
 refine Lp.ok (tbl:= [ae1,ka,PF.lend ka,PF.fz ka]) (lf:= []) ar dG (by kernel_rfl) (LOk.nil _) (fun _=>rfl) (fun j _=>by unfold dG;match j with | 0=>rfl | _ + 1=>rfl) ?_ ?_ ?_ ?_ (fun _=>rfl) ?_
 ·intro x;obtain⟨y0,y1,y2⟩:=x;kernel_rfl
 ·intro x;obtain⟨y0,y1,y2⟩:=x;kernel_rfl
 ·intro s x h
  have h:KP s=some x:=h
  unfold KP at h
  repeat' split at h
  all_goals cases h
  exact⟨aa (by assumption) rfl (aa (by assumption) rfl (aa (by assumption) rfl (aa (by assumption) rfl (rfl)))),ac rfl (by assumption) rfl (rfl)⟩
 ·intro x;obtain⟨y0,y1,y2⟩:=x;kernel_rfl
 ·intro x z;obtain⟨y0,y1,y2⟩:=x;exact(And.intro (And.intro trivial rfl) trivial)
section
variable (x0:List (Int×Int))
def PJ:Int×Int×List (Int×Int):=((0:Int),(↑x0.length:Int),x0)
def RK:Bool:=bif Nat.beq ((Lp.res dG (PJ x0)).1) (0:Nat)then false else leI (↑x0.length:Int) (8:Int)
def RL:Bool:=allT [Lp.fin dG (PJ x0)]
end
def ZS:List SV→List Entry→Option Out
 | [.one ⟨false,[.ref 0]⟩],[.row false 176 (.pair (.int .i64) (.int .i64)) x0]=>some ⟨(.one ⟨false,[(.val (.bool (RK x0)))]⟩),[(.row false 176 asY x0)],[],[(RL x0)]⟩
 |_,_=>none
def aju:PF Tryz.prog:=PF.ofG Tryz.prog [ae1,ka,PF.lend ka,PF.fz ka] [dG.F] ar 82 Tryz.f82 Tryz.func82 (LOk.fnT (l:= [ay Tryz.f82 0]) (by kernel_rfl) (.cons aa5 (.nil _))) ZS (by
 intro vs es r h;unfold ZS at h;split at h
 ·cases h;kernel_rfl
 ·cases h)
abbrev i9:=Int×Int×List (List Int)
section
variable (y0 y1:Int)(y2:List (List Int))
def jw:List Int:=Option.getD y2[Int.toNat y0]? (uq (CTy.sl (2:TypeId) asZ))
def tV:Bool:=ltI y0 (↑y2.length:Int)
def EL:Bool:=leI (0:Int) y0
def EM:Bool:=ltN y0.toNat y2.length
def EN:Bool:=leN (List.length (jw y0 y2)) (9223372036854775807:Nat)&&(leI (-1:Int) y1&&leI y1 (1048576:Int))
def EO:Bool:=ltI (szV y1 (jw y0 y2)) (0:Int)
end
def yT:Int:=(-1:Int)
def KE(y0:Int):Int:=IntKind.wrap .i64 (y0 + (1:Int))
def EP(y0 y1:Int)(y2:List (List Int)):Int:=szV y1 (jw y0 y2)
def abZ:i9→List (Nat×SV)
 |(y0,y1,_)=> [(5,(.one ⟨false,[(.val (.int .i64 y0))]⟩)),(0,(.one ⟨false,[(.ref 0)]⟩)),(1,(.one ⟨false,[(.val (.int .i64 y1))]⟩))]
def abP:i9→List (Nat×Entry)
 |(_,_,y2)=> [(0,(.row false 24 (CTy.sl (2:TypeId) asZ) y2))]
def acu:Nat→i9→List (Nat×SV)
 |0,(_,_,_)=> [(4,(.one ⟨false,[(.val (.int .i64 (yT)))]⟩))]
 |_,(_,y1,_)=> [(1,(.one ⟨false,[(.val (.int .i64 y1))]⟩))]
def ack:Nat→i9→List (Nat×Entry)
 |0,(_,_,y2)=> [(0,(.row false 24 (CTy.sl (2:TypeId) asZ) y2))]
 |_,(_,_,y2)=> [(0,(.row false 24 (CTy.sl (2:TypeId) asZ) y2))]
def wz:i9→LT i9
 |(y0,y1,y2)=> .ite (tV y0 y2) (.need [(EL y0),(tV y0 y2),(EM y0 y2),(EN y0 y1 y2)] (.ite (EO y0 y1 y2) (.ext 0 [(0,0)]) (.nrm ((KE y0),(EP y0 y1 y2),y2) [(0,0)]))) (.ext 1 [(0,0)])
def JO(s:St):Option i9:=
 (match s.look 5 with
 |some ⟨none,(.one ⟨false,[(.val (.int .i64 y0))]⟩)⟩=>
 (match s.look 0 with
 |some ⟨none,(.one ⟨false,[(.ref 0)]⟩)⟩=>
 (match s.look 1 with
 |some ⟨none,(.one ⟨false,[(.val (.int .i64 y1))]⟩)⟩=>
 (match s.ent 0 with
 |some (.row false 24 (.sl 2 (.int .i64)) y2)=>
 some (y0,y1,y2)
 |_=>none)
 |_=>none)
 |_=>none)
 |_=>none)
def b9:Lp i9 where
 h:=⟨[12,13,14,15,18,19,20,21,22,23,1,24,25,4,16,17,5],[0],[],[]⟩
 JL:=abZ
 JE:=abP
 XL:=acu
 XE:=ack
 q:=fun j=>match j with | 0=> .ret | _=> .exit 0
 tags:= [0,1]
 lt:=wz
 fuel:=fun(y0,y1,y2)=>y0.natAbs + y1.natAbs + y2.length
 fix:=fun(_,_,y2) (y0,y1,_)=>(y0,y1,y2)
 σ:= [(0,0)]
 rd:=JO
theorem Zv:LoopOk Tryz.prog (fun k=>Nat.blt k Tryz.f106.ntmps) b9.F (ay Tryz.f106 0):=by
 refine Lp.ok (tbl:= [rl,PF.lend rl,PF.fz rl]) (lf:= []) ar b9 (by kernel_rfl) (LOk.nil _) (fun _=>rfl) (fun j _=>by unfold b9;match j with | 0=>rfl | _ + 1=>rfl) ?_ ?_ ?_ ?_ (fun _=>rfl) ?_
 ·intro x;obtain⟨y0,y1,y2⟩:=x;kernel_rfl
 ·intro x;obtain⟨y0,y1,y2⟩:=x;kernel_rfl
 ·intro s x h
  have h:JO s=some x:=h
  unfold JO at h
  repeat' split at h
  all_goals cases h
  exact⟨aa (by assumption) rfl (aa (by assumption) rfl (aa (by assumption) rfl (rfl))),ac rfl (by assumption) rfl (rfl)⟩
 ·intro x;obtain⟨y0,y1,y2⟩:=x;kernel_rfl
 ·intro x z;obtain⟨y0,y1,y2⟩:=x;exact(And.intro (And.intro trivial rfl) trivial)
section
variable (x0:Int)(x1:List (List Int))
def Df:Int:=IntKind.wrap .i64 (x0 - (↑x1.length:Int))
def Iz:Int×Int×List (List Int):=((0:Int),Df x0 x1,x1)
def Qe:Int:=bif ltI (Df x0 x1) (0:Int)then(-1:Int)else bif Nat.beq ((Lp.res b9 (Iz x0 x1)).1) (0:Nat)then yT else ((Lp.res b9 (Iz x0 x1)).2.2).1
def Qf:Bool:=allT [ltI (Df x0 x1) (0:Int)||Lp.fin b9 (Iz x0 x1)]
end
def Xh:List SV→List Entry→Option Out
 | [.one ⟨false,[.ref 0]⟩,.one ⟨false,[.val (.int .i64 x0)]⟩],[.row false 24 (.sl 2 (.int .i64)) x1]=>some ⟨(.one ⟨false,[(.val (.int .i64 (Qe x0 x1)))]⟩),[(.row false 24 (CTy.sl (2:TypeId) asZ) x1)],[],[(Qf x0 x1)]⟩
 |_,_=>none
def aiu:PF Tryz.prog:=PF.ofG Tryz.prog [rl,PF.lend rl,PF.fz rl] [b9.F] ar 106 Tryz.f106 Tryz.func106 (LOk.fnT (l:= [ay Tryz.f106 0]) (by kernel_rfl) (.cons Zv (.nil _))) Xh (by
 intro vs es r h;unfold Xh at h;split at h
 ·cases h;kernel_rfl
 ·cases h)
def Rn(x0:Int)(x1:List (Int×Int×Int)):Int:=IntKind.wrap .i64 (x0 - (↑x1.length:Int))
def tW(x0:Int)(x1:List (Int×Int×Int)):Int:=bif ltI (Rn x0 x1) (0:Int)then(-1:Int)else Rn x0 x1
def Sv:List SV→List Entry→Option Out
 | [.one ⟨false,[.ref 0]⟩,.one ⟨false,[.val (.int .i64 x0)]⟩],[.row false 208 (.pair (.int .i64) (.pair (.int .i64) (.int .i64))) x1]=>some ⟨(.one ⟨false,[(.val (.int .i64 (tW x0 x1)))]⟩),[(.row false 208 asX x1)],[],[]⟩
 |_,_=>none
def KH:PF Tryz.prog:=PF.ofG Tryz.prog [] [] ar 107 Tryz.f107 Tryz.func107 (fun c _=>LOk.nil c) Sv (by
 intro vs es r h;unfold Sv at h;split at h
 ·cases h;kernel_rfl
 ·cases h)
def aay(x0:Int)(x1:List (Int×Int)):Int:=IntKind.wrap .i64 (x0 - (↑x1.length:Int))
def Jv(x0:Int)(x1:List (Int×Int)):Int:=bif ltI (aay x0 x1) (0:Int)then(-1:Int)else aay x0 x1
def abr:List SV→List Entry→Option Out
 | [.one ⟨false,[.ref 0]⟩,.one ⟨false,[.val (.int .i64 x0)]⟩],[.row false 210 (.pair (.int .i64) (.int .i64)) x1]=>some ⟨(.one ⟨false,[(.val (.int .i64 (Jv x0 x1)))]⟩),[(.row false 210 asY x1)],[],[]⟩
 |_,_=>none
def Uk:PF Tryz.prog:=PF.ofG Tryz.prog [] [] ar 108 Tryz.f108 Tryz.func108 (fun c _=>LOk.nil c) abr (by
 intro vs es r h;unfold abr at h;split at h
 ·cases h;kernel_rfl
 ·cases h)
def aax(x0:Int)(x1:List (Int×Int)):Int:=IntKind.wrap .i64 (x0 - (↑x1.length:Int))
def NO(x0:Int)(x1:List (Int×Int)):Int:=bif ltI (aax x0 x1) (0:Int)then(-1:Int)else aax x0 x1
def abq:List SV→List Entry→Option Out
 | [.one ⟨false,[.ref 0]⟩,.one ⟨false,[.val (.int .i64 x0)]⟩],[.row false 212 (.pair (.int .i64) (.int .i64)) x1]=>some ⟨(.one ⟨false,[(.val (.int .i64 (NO x0 x1)))]⟩),[(.row false 212 asY x1)],[],[]⟩
 |_,_=>none
def Uj:PF Tryz.prog:=PF.ofG Tryz.prog [] [] ar 109 Tryz.f109 Tryz.func109 (fun c _=>LOk.nil c) abq (by
 intro vs es r h;unfold abq at h;split at h
 ·cases h;kernel_rfl
 ·cases h)
abbrev ja:=Int×List (List Int)×List (List Int)
section
variable (y0:Int)(y1 y2:List (List Int))
def oK:List Int:=Option.getD y1[Int.toNat y0]? (uq (CTy.sl (2:TypeId) asZ))
def tX:Bool:=ltI y0 (↑y1.length:Int)
def tY:Bool:=leI (0:Int) y0
def yU:Bool:=ltN y0.toNat y1.length
def yV:Bool:=leN (List.length (oK y0 y1)) (1048576:Nat)
def yW:Bool:=ltI y0 (↑y2.length:Int)
def yX:Bool:=ltN y0.toNat y2.length
def EQ:Int:=IntKind.wrap .i64 (y0 + (1:Int))
def ER:List (List Int):=List.set y2 y0.toNat (oK y0 y1)
end
def ab0:ja→List (Nat×SV)
 |(y0,_,_)=> [(4,(.one ⟨false,[(.val (.int .i64 y0))]⟩)),(0,(.one ⟨false,[(.ref 0)]⟩)),(3,(.one ⟨false,[(.ref 1)]⟩))]
def abQ:ja→List (Nat×Entry)
 |(_,y1,y2)=> [(0,(.row false 24 (CTy.sl (2:TypeId) asZ) y1)),(1,(.tree 24 (CTy.sl (2:Nat) asZ) y2 none))]
def acv:Nat→ja→List (Nat×SV)
 |_,(_,_,_)=> []
def acl:Nat→ja→List (Nat×Entry)
 |_,(_,y1,y2)=> [(0,(.row false 24 (CTy.sl (2:TypeId) asZ) y1)),(1,(.tree 24 (CTy.sl (2:Nat) asZ) y2 none))]
def wA:ja→LT ja
 |(y0,y1,y2)=> .ite (tX y0 y1) (.need [(tY y0),(tX y0 y1),(yU y0 y1),(yV y0 y1),(tY y0),(yW y0 y2),(yX y0 y2)] (.nrm ((EQ y0),y1,(ER y0 y1 y2)) [(0,0),(1,1)])) (.ext 0 [(0,0),(1,1)])
def JP(s:St):Option ja:=
 (match s.look 4 with
 |some ⟨none,(.one ⟨false,[(.val (.int .i64 y0))]⟩)⟩=>
 (match s.look 0 with
 |some ⟨none,(.one ⟨false,[(.ref 0)]⟩)⟩=>
 (match s.look 3 with
 |some ⟨none,(.one ⟨false,[(.ref 320)]⟩)⟩=>
 (match s.ent 0 with
 |some (.row false 24 (.sl 2 (.int .i64)) y1)=>
 (match s.ent 320 with
 |some (.tree 24 (.sl 2 (.int .i64)) y2 none)=>
 some (y0,y1,y2)
 |_=>none)
 |_=>none)
 |_=>none)
 |_=>none)
 |_=>none)
def dP:Lp ja where
 h:=⟨[8,9,10,11,14,15,16,17,18,19,20,21,12,13,4],[0,1],[],[]⟩
 JL:=ab0
 JE:=abQ
 XL:=acv
 XE:=acl
 q:=fun j=>match j with | _=> .exit 0
 tags:= [0]
 lt:=wA
 fuel:=fun(y0,y1,y2)=>y0.natAbs + y1.length + y2.length
 fix:=fun(_,y1,_) (y0,_,y2)=>(y0,y1,y2)
 σ:= [(0,0),(1,320)]
 rd:=JP
theorem Zw:LoopOk Tryz.prog (fun k=>Nat.blt k Tryz.f112.ntmps) dP.F (ay Tryz.f112 0):=by
 refine Lp.ok (tbl:= [PF.trees Tryz.prog,rm,PF.lend rm,PF.fz rm]) (lf:= []) ar dP (by kernel_rfl) (LOk.nil _) (fun _=>rfl) (fun _ _=>rfl) ?_ ?_ ?_ ?_ (fun _=>rfl) ?_
 ·intro x;obtain⟨y0,y1,y2⟩:=x;kernel_rfl
 ·intro x;obtain⟨y0,y1,y2⟩:=x;kernel_rfl
 ·intro s x h
  have h:JP s=some x:=h
  unfold JP at h
  repeat' split at h
  all_goals cases h
  exact⟨aa (by assumption) rfl (aa (by assumption) rfl (aa (by assumption) rfl (rfl))),ac rfl (by assumption) rfl (ac rfl (by assumption) rfl (rfl))⟩
 ·intro x;obtain⟨y0,y1,y2⟩:=x;kernel_rfl
 ·intro x z;obtain⟨y0,y1,y2⟩:=x;exact(And.intro rfl trivial)
section
variable (x0:List (List Int))
def IA:Int×List (List Int)×List (List Int):=((0:Int),x0,List.replicate (Int.toNat (↑x0.length:Int)) [])
def Qj:List (List Int):=(Lp.res dP (IA x0)).2.2.2
def Qk:Bool:=allT [leI (0:Int) (↑x0.length:Int),leI (↑x0.length:Int) (↑x0.length:Int),leI ((↑(24:Nat):Int) * (↑x0.length:Int)) (281474976710656:Int),leI (↑x0.length:Int) (9223372036854775807:Int),Lp.fin dP (IA x0)]
end
def Xk:List SV→List Entry→Option Out
 | [.one ⟨false,[.ref 0]⟩],[.row false 24 (.sl 2 (.int .i64)) x0]=>some ⟨(.one ⟨false,[(.ref 1)]⟩),[(.row false 24 (CTy.sl (2:TypeId) asZ) x0)],[(.tree 24 (CTy.sl (2:Nat) asZ) (Qj x0) none)],[(Qk x0)]⟩
 |_,_=>none
def aix:PF Tryz.prog:=PF.ofG Tryz.prog [PF.trees Tryz.prog,rm,PF.lend rm,PF.fz rm] [dP.F] ar 112 Tryz.f112 Tryz.func112 (LOk.fnT (l:= [ay Tryz.f112 0]) (by kernel_rfl) (.cons Zw (.nil _))) Xk (by
 intro vs es r h;unfold Xk at h;split at h
 ·cases h;kernel_rfl
 ·cases h)
def Tu:List SV→List Entry→Option Out
 | [.one ⟨true,[.val (.int .i64 x0),.val (.int .i64 x1),.val (.int .i64 x2)]⟩],[]=>some ⟨(.one ⟨true,[(.val (.int .i64 x0)),(.val (.int .i64 x1)),(.val (.int .i64 x2))]⟩),[],[],[]⟩
 |_,_=>none
def Ul:PF Tryz.prog:=PF.ofG Tryz.prog [] [] ar 191 Tryz.f191 Tryz.func191 (fun c _=>LOk.nil c) Tu (by
 intro vs es r h;unfold Tu at h;split at h
 ·cases h;kernel_rfl
 ·cases h)
abbrev gn:=Int×List (Int×(Int×Int))×List (Int×(Int×Int))
section
variable (y0:Int)(y1 y2:List (Int×(Int×Int)))
def kG:Int×Int×Int:=Option.getD y1[Int.toNat y0]? ((0:Int),(0:Int),(0:Int))
def po:Bool:=ltI y0 (↑y1.length:Int)
def pp:Bool:=leI (0:Int) y0
def tc:Bool:=ltN y0.toNat y1.length
def td:Bool:=ltI y0 (↑y2.length:Int)
def te:Bool:=ltN y0.toNat y2.length
def tf:Int:=IntKind.wrap .i64 (y0 + (1:Int))
def tg:List (Int×(Int×Int)):=List.set y2 y0.toNat ((kG y0 y1).1,((kG y0 y1).2).1,(kG y0 y1).2.2)
end
def Xw:gn→List (Nat×SV)
 |(y0,_,_)=> [(4,(.one ⟨false,[(.val (.int .i64 y0))]⟩)),(0,(.one ⟨false,[(.ref 0)]⟩)),(3,(.one ⟨false,[(.ref 1)]⟩))]
def Xt:gn→List (Nat×Entry)
 |(_,y1,y2)=> [(0,(.row false 208 asX y1)),(1,(.row true 100 asX y2))]
def XW:Nat→gn→List (Nat×SV)
 |_,(_,_,_)=> []
def XT:Nat→gn→List (Nat×Entry)
 |_,(_,y1,y2)=> [(0,(.row false 208 asX y1)),(1,(.row true 100 asX y2))]
def sc:gn→LT gn
 |(y0,y1,y2)=> .ite (po y0 y1) (.need [(pp y0),(po y0 y1),(tc y0 y1),(pp y0),(td y0 y2),(te y0 y2)] (.nrm ((tf y0),y1,(tg y0 y1 y2)) [(0,0),(1,1)])) (.ext 0 [(0,0),(1,1)])
def Ft(s:St):Option gn:=
 (match s.look 4 with
 |some ⟨none,(.one ⟨false,[(.val (.int .i64 y0))]⟩)⟩=>
 (match s.look 0 with
 |some ⟨none,(.one ⟨false,[(.ref 0)]⟩)⟩=>
 (match s.look 3 with
 |some ⟨none,(.one ⟨false,[(.ref 320)]⟩)⟩=>
 (match s.ent 0 with
 |some (.row false 208 (.pair (.int .i64) (.pair (.int .i64) (.int .i64))) y1)=>
 (match s.ent 320 with
 |some (.row true 100 (.pair (.int .i64) (.pair (.int .i64) (.int .i64))) y2)=>
 some (y0,y1,y2)
 |_=>none)
 |_=>none)
 |_=>none)
 |_=>none)
 |_=>none)
def bY:Lp gn where
 h:=⟨[8,9,10,11,14,15,16,17,18,19,20,21,12,13,4],[0,1],[],[]⟩
 JL:=Xw
 JE:=Xt
 XL:=XW
 XE:=XT
 q:=fun j=>match j with | _=> .exit 0
 tags:= [0]
 lt:=sc
 fuel:=fun(y0,y1,y2)=>y0.natAbs + y1.length + y2.length
 fix:=fun(_,y1,_) (y0,_,y2)=>(y0,y1,y2)
 σ:= [(0,0),(1,320)]
 rd:=Ft
theorem Vv:LoopOk Tryz.prog (fun k=>Nat.blt k Tryz.f113.ntmps) bY.F (ay Tryz.f113 0):=by
 refine Lp.ok (tbl:= [Ul]) (lf:= []) ar bY (by kernel_rfl) (LOk.nil _) (fun _=>rfl) (fun _ _=>rfl) ?_ ?_ ?_ ?_ (fun _=>rfl) ?_
 ·intro x;obtain⟨y0,y1,y2⟩:=x;kernel_rfl
 ·intro x;obtain⟨y0,y1,y2⟩:=x;kernel_rfl
 ·intro s x h
  have h:Ft s=some x:=h
  unfold Ft at h
  repeat' split at h
  all_goals cases h
  exact⟨aa (by assumption) rfl (aa (by assumption) rfl (aa (by assumption) rfl (rfl))),ac rfl (by assumption) rfl (ac rfl (by assumption) rfl (rfl))⟩
 ·intro x;obtain⟨y0,y1,y2⟩:=x;kernel_rfl
 ·intro x z;obtain⟨y0,y1,y2⟩:=x;exact(And.intro rfl trivial)
section
variable (x0:List (Int×Int×Int))
def Dg:Int×List (Int×Int×Int)×List (Int×Int×Int):=((0:Int),x0,List.replicate (Int.toNat (↑x0.length:Int)) ((0:Int),(0:Int),(0:Int)))
def ES:List (Int×(Int×Int)):=(Lp.res bY (Dg x0)).2.2.2
def ET:Bool:=allT [leI (0:Int) (↑x0.length:Int),leI (↑x0.length:Int) (↑x0.length:Int),leI ((↑(24:Nat):Int) * (↑x0.length:Int)) (281474976710656:Int),leI (↑x0.length:Int) (9223372036854775807:Int),Lp.fin bY (Dg x0)]
end
def Sw:List SV→List Entry→Option Out
 | [.one ⟨false,[.ref 0]⟩],[.row false 208 (.pair (.int .i64) (.pair (.int .i64) (.int .i64))) x0]=>some ⟨(.one ⟨false,[(.ref 1)]⟩),[(.row false 208 asX x0)],[(.row true 100 asX (ES x0))],[(ET x0)]⟩
 |_,_=>none
def ael:PF Tryz.prog:=PF.ofG Tryz.prog [Ul] [bY.F] ar 113 Tryz.f113 Tryz.func113 (LOk.fnT (l:= [ay Tryz.f113 0]) (by kernel_rfl) (.cons Vv (.nil _))) Sw (by
 intro vs es r h;unfold Sw at h;split at h
 ·cases h;kernel_rfl
 ·cases h)
def aeE:List SV→List Entry→Option Out
 | [.one ⟨true,[.val (.int .i64 x0),.val (.int .i64 x1)]⟩],[]=>some ⟨(.one ⟨true,[(.val (.int .i64 x0)),(.val (.int .i64 x1))]⟩),[],[],[]⟩
 |_,_=>none
def ae6:PF Tryz.prog:=PF.ofG Tryz.prog [] [] ar 192 Tryz.f192 Tryz.func192 (fun c _=>LOk.nil c) aeE (by
 intro vs es r h;unfold aeE at h;split at h
 ·cases h;kernel_rfl
 ·cases h)
abbrev kU:=Int×List (Int×Int)×List (Int×Int)
section
variable (y0:Int)(y1 y2:List (Int×Int))
def vf:Int×Int:=Option.getD y1[Int.toNat y0]? ((0:Int),(0:Int))
def xL:Bool:=ltI y0 (↑y1.length:Int)
def xM:Bool:=leI (0:Int) y0
def Dn:Bool:=ltN y0.toNat y1.length
def Do:Bool:=ltI y0 (↑y2.length:Int)
def Dp:Bool:=ltN y0.toNat y2.length
def Dq:Int:=IntKind.wrap .i64 (y0 + (1:Int))
def Dr:List (Int×Int):=List.set y2 y0.toNat ((vf y0 y1).1,(vf y0 y1).2)
end
def afl:kU→List (Nat×SV)
 |(y0,_,_)=> [(4,(.one ⟨false,[(.val (.int .i64 y0))]⟩)),(0,(.one ⟨false,[(.ref 0)]⟩)),(3,(.one ⟨false,[(.ref 1)]⟩))]
def afe:kU→List (Nat×Entry)
 |(_,y1,y2)=> [(0,(.row false 210 asY y1)),(1,(.row true 173 asY y2))]
def afz:Nat→kU→List (Nat×SV)
 |_,(_,_,_)=> []
def afs:Nat→kU→List (Nat×Entry)
 |_,(_,y1,y2)=> [(0,(.row false 210 asY y1)),(1,(.row true 173 asY y2))]
def Bt:kU→LT kU
 |(y0,y1,y2)=> .ite (xL y0 y1) (.need [(xM y0),(xL y0 y1),(Dn y0 y1),(xM y0),(Do y0 y2),(Dp y0 y2)] (.nrm ((Dq y0),y1,(Dr y0 y1 y2)) [(0,0),(1,1)])) (.ext 0 [(0,0),(1,1)])
def MH(s:St):Option kU:=
 (match s.look 4 with
 |some ⟨none,(.one ⟨false,[(.val (.int .i64 y0))]⟩)⟩=>
 (match s.look 0 with
 |some ⟨none,(.one ⟨false,[(.ref 0)]⟩)⟩=>
 (match s.look 3 with
 |some ⟨none,(.one ⟨false,[(.ref 320)]⟩)⟩=>
 (match s.ent 0 with
 |some (.row false 210 (.pair (.int .i64) (.int .i64)) y1)=>
 (match s.ent 320 with
 |some (.row true 173 (.pair (.int .i64) (.int .i64)) y2)=>
 some (y0,y1,y2)
 |_=>none)
 |_=>none)
 |_=>none)
 |_=>none)
 |_=>none)
def fS:Lp kU where
 h:=⟨[8,9,10,11,14,15,16,17,18,19,20,21,12,13,4],[0,1],[],[]⟩
 JL:=afl
 JE:=afe
 XL:=afz
 XE:=afs
 q:=fun j=>match j with | _=> .exit 0
 tags:= [0]
 lt:=Bt
 fuel:=fun(y0,y1,y2)=>y0.natAbs + y1.length + y2.length
 fix:=fun(_,y1,_) (y0,_,y2)=>(y0,y1,y2)
 σ:= [(0,0),(1,320)]
 rd:=MH
theorem acV:LoopOk Tryz.prog (fun k=>Nat.blt k Tryz.f114.ntmps) fS.F (ay Tryz.f114 0):=by
 refine Lp.ok (tbl:= [ae6]) (lf:= []) ar fS (by kernel_rfl) (LOk.nil _) (fun _=>rfl) (fun _ _=>rfl) ?_ ?_ ?_ ?_ (fun _=>rfl) ?_
 ·intro x;obtain⟨y0,y1,y2⟩:=x;kernel_rfl
 ·intro x;obtain⟨y0,y1,y2⟩:=x;kernel_rfl
 ·intro s x h
  have h:MH s=some x:=h
  unfold MH at h
  repeat' split at h
  all_goals cases h
  exact⟨aa (by assumption) rfl (aa (by assumption) rfl (aa (by assumption) rfl (rfl))),ac rfl (by assumption) rfl (ac rfl (by assumption) rfl (rfl))⟩
 ·intro x;obtain⟨y0,y1,y2⟩:=x;kernel_rfl
 ·intro x z;obtain⟨y0,y1,y2⟩:=x;exact(And.intro rfl trivial)
section
variable (x0:List (Int×Int))
def LU:Int×List (Int×Int)×List (Int×Int):=((0:Int),x0,List.replicate (Int.toNat (↑x0.length:Int)) ((0:Int),(0:Int)))
def NT:List (Int×Int):=(Lp.res fS (LU x0)).2.2.2
def NU:Bool:=allT [leI (0:Int) (↑x0.length:Int),leI (↑x0.length:Int) (↑x0.length:Int),leI ((↑(16:Nat):Int) * (↑x0.length:Int)) (281474976710656:Int),leI (↑x0.length:Int) (9223372036854775807:Int),Lp.fin fS (LU x0)]
end
def abt:List SV→List Entry→Option Out
 | [.one ⟨false,[.ref 0]⟩],[.row false 210 (.pair (.int .i64) (.int .i64)) x0]=>some ⟨(.one ⟨false,[(.ref 1)]⟩),[(.row false 210 asY x0)],[(.row true 173 asY (NT x0))],[(NU x0)]⟩
 |_,_=>none
def akB:PF Tryz.prog:=PF.ofG Tryz.prog [ae6] [fS.F] ar 114 Tryz.f114 Tryz.func114 (LOk.fnT (l:= [ay Tryz.f114 0]) (by kernel_rfl) (.cons acV (.nil _))) abt (by
 intro vs es r h;unfold abt at h;split at h
 ·cases h;kernel_rfl
 ·cases h)
def aeC:List SV→List Entry→Option Out
 | [.one ⟨true,[.val (.int .i64 x0),.val (.int .i64 x1)]⟩],[]=>some ⟨(.one ⟨true,[(.val (.int .i64 x0)),(.val (.int .i64 x1))]⟩),[],[],[]⟩
 |_,_=>none
def ae5:PF Tryz.prog:=PF.ofG Tryz.prog [] [] ar 193 Tryz.f193 Tryz.func193 (fun c _=>LOk.nil c) aeC (by
 intro vs es r h;unfold aeC at h;split at h
 ·cases h;kernel_rfl
 ·cases h)
abbrev kT:=Int×List (Int×Int)×List (Int×Int)
section
variable (y0:Int)(y1 y2:List (Int×Int))
def ve:Int×Int:=Option.getD y1[Int.toNat y0]? ((0:Int),(0:Int))
def xJ:Bool:=ltI y0 (↑y1.length:Int)
def xK:Bool:=leI (0:Int) y0
def Dh:Bool:=ltN y0.toNat y1.length
def Di:Bool:=ltI y0 (↑y2.length:Int)
def Dj:Bool:=ltN y0.toNat y2.length
def Dk:Int:=IntKind.wrap .i64 (y0 + (1:Int))
def Dm:List (Int×Int):=List.set y2 y0.toNat ((ve y0 y1).1,(ve y0 y1).2)
end
def afk:kT→List (Nat×SV)
 |(y0,_,_)=> [(4,(.one ⟨false,[(.val (.int .i64 y0))]⟩)),(0,(.one ⟨false,[(.ref 0)]⟩)),(3,(.one ⟨false,[(.ref 1)]⟩))]
def afd:kT→List (Nat×Entry)
 |(_,y1,y2)=> [(0,(.row false 212 asY y1)),(1,(.row true 176 asY y2))]
def afy:Nat→kT→List (Nat×SV)
 |_,(_,_,_)=> []
def afr:Nat→kT→List (Nat×Entry)
 |_,(_,y1,y2)=> [(0,(.row false 212 asY y1)),(1,(.row true 176 asY y2))]
def Bs:kT→LT kT
 |(y0,y1,y2)=> .ite (xJ y0 y1) (.need [(xK y0),(xJ y0 y1),(Dh y0 y1),(xK y0),(Di y0 y2),(Dj y0 y2)] (.nrm ((Dk y0),y1,(Dm y0 y1 y2)) [(0,0),(1,1)])) (.ext 0 [(0,0),(1,1)])
def MG(s:St):Option kT:=
 (match s.look 4 with
 |some ⟨none,(.one ⟨false,[(.val (.int .i64 y0))]⟩)⟩=>
 (match s.look 0 with
 |some ⟨none,(.one ⟨false,[(.ref 0)]⟩)⟩=>
 (match s.look 3 with
 |some ⟨none,(.one ⟨false,[(.ref 320)]⟩)⟩=>
 (match s.ent 0 with
 |some (.row false 212 (.pair (.int .i64) (.int .i64)) y1)=>
 (match s.ent 320 with
 |some (.row true 176 (.pair (.int .i64) (.int .i64)) y2)=>
 some (y0,y1,y2)
 |_=>none)
 |_=>none)
 |_=>none)
 |_=>none)
 |_=>none)
def fR:Lp kT where
 h:=⟨[8,9,10,11,14,15,16,17,18,19,20,21,12,13,4],[0,1],[],[]⟩
 JL:=afk
 JE:=afd
 XL:=afy
 XE:=afr
 q:=fun j=>match j with | _=> .exit 0
 tags:= [0]
 lt:=Bs
 fuel:=fun(y0,y1,y2)=>y0.natAbs + y1.length + y2.length
 fix:=fun(_,y1,_) (y0,_,y2)=>(y0,y1,y2)
 σ:= [(0,0),(1,320)]
 rd:=MG
theorem acU:LoopOk Tryz.prog (fun k=>Nat.blt k Tryz.f115.ntmps) fR.F (ay Tryz.f115 0):=by
 refine Lp.ok (tbl:= [ae5]) (lf:= []) ar fR (by kernel_rfl) (LOk.nil _) (fun _=>rfl) (fun _ _=>rfl) ?_ ?_ ?_ ?_ (fun _=>rfl) ?_
 ·intro x;obtain⟨y0,y1,y2⟩:=x;kernel_rfl
 ·intro x;obtain⟨y0,y1,y2⟩:=x;kernel_rfl
 ·intro s x h
  have h:MG s=some x:=h
  unfold MG at h
  repeat' split at h
  all_goals cases h
  exact⟨aa (by assumption) rfl (aa (by assumption) rfl (aa (by assumption) rfl (rfl))),ac rfl (by assumption) rfl (ac rfl (by assumption) rfl (rfl))⟩
 ·intro x;obtain⟨y0,y1,y2⟩:=x;kernel_rfl
 ·intro x z;obtain⟨y0,y1,y2⟩:=x;exact(And.intro rfl trivial)
section
variable (x0:List (Int×Int))
def LS:Int×List (Int×Int)×List (Int×Int):=((0:Int),x0,List.replicate (Int.toNat (↑x0.length:Int)) ((0:Int),(0:Int)))
def NR:List (Int×Int):=(Lp.res fR (LS x0)).2.2.2
def NS:Bool:=allT [leI (0:Int) (↑x0.length:Int),leI (↑x0.length:Int) (↑x0.length:Int),leI ((↑(16:Nat):Int) * (↑x0.length:Int)) (281474976710656:Int),leI (↑x0.length:Int) (9223372036854775807:Int),Lp.fin fR (LS x0)]
end
def abs:List SV→List Entry→Option Out
 | [.one ⟨false,[.ref 0]⟩],[.row false 212 (.pair (.int .i64) (.int .i64)) x0]=>some ⟨(.one ⟨false,[(.ref 1)]⟩),[(.row false 212 asY x0)],[(.row true 176 asY (NR x0))],[(NS x0)]⟩
 |_,_=>none
def akA:PF Tryz.prog:=PF.ofG Tryz.prog [ae5] [fR.F] ar 115 Tryz.f115 Tryz.func115 (LOk.fnT (l:= [ay Tryz.f115 0]) (by kernel_rfl) (.cons acU (.nil _))) abs (by
 intro vs es r h;unfold abs at h;split at h
 ·cases h;kernel_rfl
 ·cases h)
abbrev i4:=Int×List (List Int)×List (List Int)
section
variable (y0:Int)(y1 y2:List (List Int))
def ow:List Int:=Option.getD y1[Int.toNat y0]? (uq (CTy.sl (2:TypeId) asZ))
def tK:Bool:=ltI y0 (↑y1.length:Int)
def tL:Bool:=leI (0:Int) y0
def yq:Bool:=ltN y0.toNat y1.length
def yt:Bool:=ltI y0 (↑y2.length:Int)
def yu:Bool:=ltN y0.toNat y2.length
def yw:Bool:=leN (List.length (ow y0 y1)) (9223372036854775807:Nat)
def EG:Bool:= !eqL (ow y0 y1) (Option.getD y2[Int.toNat y0]? (uq (CTy.sl (2:TypeId) asZ)))
def EH:Int:=IntKind.wrap .i64 (y0 + (1:Int))
end
def abU:i4→List (Nat×SV)
 |(y0,_,_)=> [(5,(.one ⟨false,[(.val (.int .i64 y0))]⟩)),(0,(.one ⟨false,[(.ref 0)]⟩)),(1,(.one ⟨false,[(.ref 1)]⟩))]
def abK:i4→List (Nat×Entry)
 |(_,y1,y2)=> [(0,(.row false 24 (CTy.sl (2:TypeId) asZ) y1)),(1,(.row false 24 (CTy.sl (2:TypeId) asZ) y2))]
def acp:Nat→i4→List (Nat×SV)
 |0,(_,_,_)=> [(4,(.one ⟨false,[(.val (.bool false))]⟩))]
 |_,(_,_,_)=> []
def acf:Nat→i4→List (Nat×Entry)
 |0,(_,y1,y2)=> [(0,(.row false 24 (CTy.sl (2:TypeId) asZ) y1)),(1,(.row false 24 (CTy.sl (2:TypeId) asZ) y2))]
 |_,(_,y1,y2)=> [(0,(.row false 24 (CTy.sl (2:TypeId) asZ) y1)),(1,(.row false 24 (CTy.sl (2:TypeId) asZ) y2))]
def wu:i4→LT i4
 |(y0,y1,y2)=> .ite (tK y0 y1) (.need [(tL y0),(tK y0 y1),(yq y0 y1),(tL y0),(yt y0 y2),(yu y0 y2),(yw y0 y1)] (.ite (EG y0 y1 y2) (.ext 0 [(0,0),(1,1)]) (.nrm ((EH y0),y1,y2) [(0,0),(1,1)]))) (.ext 1 [(0,0),(1,1)])
def JI(s:St):Option i4:=
 (match s.look 5 with
 |some ⟨none,(.one ⟨false,[(.val (.int .i64 y0))]⟩)⟩=>
 (match s.look 0 with
 |some ⟨none,(.one ⟨false,[(.ref 0)]⟩)⟩=>
 (match s.look 1 with
 |some ⟨none,(.one ⟨false,[(.ref 1)]⟩)⟩=>
 (match s.ent 0 with
 |some (.row false 24 (.sl 2 (.int .i64)) y1)=>
 (match s.ent 1 with
 |some (.row false 24 (.sl 2 (.int .i64)) y2)=>
 some (y0,y1,y2)
 |_=>none)
 |_=>none)
 |_=>none)
 |_=>none)
 |_=>none)
def cY:Lp i4 where
 h:=⟨[11,12,13,14,17,18,19,20,21,22,23,24,25,26,4,15,16,5],[0,1],[],[]⟩
 JL:=abU
 JE:=abK
 XL:=acp
 XE:=acf
 q:=fun j=>match j with | 0=> .ret | _=> .exit 0
 tags:= [0,1]
 lt:=wu
 fuel:=fun(y0,y1,y2)=>y0.natAbs + y1.length + y2.length
 fix:=fun(_,y1,y2) (y0,_,_)=>(y0,y1,y2)
 σ:= [(0,0),(1,1)]
 rd:=JI
theorem Zq:LoopOk Tryz.prog (fun k=>Nat.blt k Tryz.f118.ntmps) cY.F (ay Tryz.f118 0):=by
 refine Lp.ok (tbl:= [rj,PF.lend rj,PF.fz rj]) (lf:= []) ar cY (by kernel_rfl) (LOk.nil _) (fun _=>rfl) (fun j _=>by unfold cY;match j with | 0=>rfl | _ + 1=>rfl) ?_ ?_ ?_ ?_ (fun _=>rfl) ?_
 ·intro x;obtain⟨y0,y1,y2⟩:=x;kernel_rfl
 ·intro x;obtain⟨y0,y1,y2⟩:=x;kernel_rfl
 ·intro s x h
  have h:JI s=some x:=h
  unfold JI at h
  repeat' split at h
  all_goals cases h
  exact⟨aa (by assumption) rfl (aa (by assumption) rfl (aa (by assumption) rfl (rfl))),ac rfl (by assumption) rfl (ac rfl (by assumption) rfl (rfl))⟩
 ·intro x;obtain⟨y0,y1,y2⟩:=x;kernel_rfl
 ·intro x z;obtain⟨y0,y1,y2⟩:=x;exact(And.intro (And.intro trivial rfl) trivial)
section
variable (x0 x1:List (List Int))
def Iv:Bool:=(↑x0.length:Int)!=(↑x1.length:Int)
def NJ:Int×List (List Int)×List (List Int):=((0:Int),x0,x1)
def Ko:Bool:=bif Iv x0 x1 then false else bif Nat.beq ((Lp.res cY (NJ x0 x1)).1) (0:Nat)then false else true
def Kp:Bool:=allT [Iv x0 x1||Lp.fin cY (NJ x0 x1)]
end
def Xb:List SV→List Entry→Option Out
 | [.one ⟨false,[.ref 0]⟩,.one ⟨false,[.ref 1]⟩],[.row false 24 (.sl 2 (.int .i64)) x0,.row false 24 (.sl 2 (.int .i64)) x1]=>some ⟨(.one ⟨false,[(.val (.bool (Ko x0 x1)))]⟩),[(.row false 24 (CTy.sl (2:TypeId) asZ) x0),(.row false 24 (CTy.sl (2:TypeId) asZ) x1)],[],[(Kp x0 x1)]⟩
 |_,_=>none
def aio:PF Tryz.prog:=PF.ofG Tryz.prog [rj,PF.lend rj,PF.fz rj] [cY.F] ar 118 Tryz.f118 Tryz.func118 (LOk.fnT (l:= [ay Tryz.f118 0]) (by kernel_rfl) (.cons Zq (.nil _))) Xb (by
 intro vs es r h;unfold Xb at h;split at h
 ·cases h;kernel_rfl
 ·cases h)
def Bd(x0 x1 x2 x3 x4 x5:Int):Bool:=bif x0 !=x3 then false else bif x1 !=x4 then false else bif x2 !=x5 then false else true
def Tp:List SV→List Entry→Option Out
 | [.one ⟨true,[.val (.int .i64 x0),.val (.int .i64 x1),.val (.int .i64 x2)]⟩,.one ⟨true,[.val (.int .i64 x3),.val (.int .i64 x4),.val (.int .i64 x5)]⟩],[]=>some ⟨(.one ⟨false,[(.val (.bool (Bd x0 x1 x2 x3 x4 x5)))]⟩),[],[],[]⟩
 |_,_=>none
def Ui:PF Tryz.prog:=PF.ofG Tryz.prog [] [] ar 195 Tryz.f195 Tryz.func195 (fun c _=>LOk.nil c) Tp (by
 intro vs es r h;unfold Tp at h;split at h
 ·cases h;kernel_rfl
 ·cases h)
abbrev gm:=Int×List (Int×(Int×Int))×List (Int×(Int×Int))
section
variable (y0:Int)(y1 y2:List (Int×(Int×Int)))
def kD:Int×Int×Int:=Option.getD y1[Int.toNat y0]? ((0:Int),(0:Int),(0:Int))
def kE:Int×Int×Int:=Option.getD y2[Int.toNat y0]? ((0:Int),(0:Int),(0:Int))
def pm:Bool:=ltI y0 (↑y1.length:Int)
def pn:Bool:=leI (0:Int) y0
def sZ:Bool:=ltN y0.toNat y1.length
def s5:Bool:=ltI y0 (↑y2.length:Int)
def s8:Bool:=ltN y0.toNat y2.length
def s9:Bool:= !Bd ((kD y0 y1).1) (((kD y0 y1).2).1) ((kD y0 y1).2.2) ((kE y0 y2).1) (((kE y0 y2).2).1) ((kE y0 y2).2.2)
def ta:Int:=IntKind.wrap .i64 (y0 + (1:Int))
end
def Xv:gm→List (Nat×SV)
 |(y0,_,_)=> [(5,(.one ⟨false,[(.val (.int .i64 y0))]⟩)),(0,(.one ⟨false,[(.ref 0)]⟩)),(1,(.one ⟨false,[(.ref 1)]⟩))]
def Xs:gm→List (Nat×Entry)
 |(_,y1,y2)=> [(0,(.row false 100 asX y1)),(1,(.row false 100 asX y2))]
def XV:Nat→gm→List (Nat×SV)
 |0,(_,_,_)=> [(4,(.one ⟨false,[(.val (.bool false))]⟩))]
 |_,(_,_,_)=> []
def XS:Nat→gm→List (Nat×Entry)
 |0,(_,y1,y2)=> [(0,(.row false 100 asX y1)),(1,(.row false 100 asX y2))]
 |_,(_,y1,y2)=> [(0,(.row false 100 asX y1)),(1,(.row false 100 asX y2))]
def sb:gm→LT gm
 |(y0,y1,y2)=> .ite (pm y0 y1) (.need [(pn y0),(pm y0 y1),(sZ y0 y1),(pn y0),(s5 y0 y2),(s8 y0 y2)] (.ite (s9 y0 y1 y2) (.ext 0 [(0,0),(1,1)]) (.nrm ((ta y0),y1,y2) [(0,0),(1,1)]))) (.ext 1 [(0,0),(1,1)])
def Fs(s:St):Option gm:=
 (match s.look 5 with
 |some ⟨none,(.one ⟨false,[(.val (.int .i64 y0))]⟩)⟩=>
 (match s.look 0 with
 |some ⟨none,(.one ⟨false,[(.ref 0)]⟩)⟩=>
 (match s.look 1 with
 |some ⟨none,(.one ⟨false,[(.ref 1)]⟩)⟩=>
 (match s.ent 0 with
 |some (.row false 100 (.pair (.int .i64) (.pair (.int .i64) (.int .i64))) y1)=>
 (match s.ent 1 with
 |some (.row false 100 (.pair (.int .i64) (.pair (.int .i64) (.int .i64))) y2)=>
 some (y0,y1,y2)
 |_=>none)
 |_=>none)
 |_=>none)
 |_=>none)
 |_=>none)
def bI:Lp gm where
 h:=⟨[11,12,13,14,17,18,19,20,21,22,23,24,25,26,4,15,16,5],[0,1],[],[]⟩
 JL:=Xv
 JE:=Xs
 XL:=XV
 XE:=XS
 q:=fun j=>match j with | 0=> .ret | _=> .exit 0
 tags:= [0,1]
 lt:=sb
 fuel:=fun(y0,y1,y2)=>y0.natAbs + y1.length + y2.length
 fix:=fun(_,y1,y2) (y0,_,_)=>(y0,y1,y2)
 σ:= [(0,0),(1,1)]
 rd:=Fs
theorem Vu:LoopOk Tryz.prog (fun k=>Nat.blt k Tryz.f119.ntmps) bI.F (ay Tryz.f119 0):=by
 refine Lp.ok (tbl:= [Ui]) (lf:= []) ar bI (by kernel_rfl) (LOk.nil _) (fun _=>rfl) (fun j _=>by unfold bI;match j with | 0=>rfl | _ + 1=>rfl) ?_ ?_ ?_ ?_ (fun _=>rfl) ?_
 ·intro x;obtain⟨y0,y1,y2⟩:=x;kernel_rfl
 ·intro x;obtain⟨y0,y1,y2⟩:=x;kernel_rfl
 ·intro s x h
  have h:Fs s=some x:=h
  unfold Fs at h
  repeat' split at h
  all_goals cases h
  exact⟨aa (by assumption) rfl (aa (by assumption) rfl (aa (by assumption) rfl (rfl))),ac rfl (by assumption) rfl (ac rfl (by assumption) rfl (rfl))⟩
 ·intro x;obtain⟨y0,y1,y2⟩:=x;kernel_rfl
 ·intro x z;obtain⟨y0,y1,y2⟩:=x;exact(And.intro (And.intro trivial rfl) trivial)
section
variable (x0 x1:List (Int×Int×Int))
def CN:Bool:=(↑x0.length:Int)!=(↑x1.length:Int)
def CO:Int×List (Int×Int×Int)×List (Int×Int×Int):=((0:Int),x0,x1)
def EI:Bool:=bif CN x0 x1 then false else bif Nat.beq ((Lp.res bI (CO x0 x1)).1) (0:Nat)then false else true
def EJ:Bool:=allT [CN x0 x1||Lp.fin bI (CO x0 x1)]
end
def Su:List SV→List Entry→Option Out
 | [.one ⟨false,[.ref 0]⟩,.one ⟨false,[.ref 1]⟩],[.row false 100 (.pair (.int .i64) (.pair (.int .i64) (.int .i64))) x0,.row false 100 (.pair (.int .i64) (.pair (.int .i64) (.int .i64))) x1]=>some ⟨(.one ⟨false,[(.val (.bool (EI x0 x1)))]⟩),[(.row false 100 asX x0),(.row false 100 asX x1)],[],[(EJ x0 x1)]⟩
 |_,_=>none
def aek:PF Tryz.prog:=PF.ofG Tryz.prog [Ui] [bI.F] ar 119 Tryz.f119 Tryz.func119 (LOk.fnT (l:= [ay Tryz.f119 0]) (by kernel_rfl) (.cons Vu (.nil _))) Su (by
 intro vs es r h;unfold Su at h;split at h
 ·cases h;kernel_rfl
 ·cases h)
def Lk(x0 x1 x2 x3:Int):Bool:=bif x0 !=x2 then false else bif x1 !=x3 then false else true
def aeA:List SV→List Entry→Option Out
 | [.one ⟨true,[.val (.int .i64 x0),.val (.int .i64 x1)]⟩,.one ⟨true,[.val (.int .i64 x2),.val (.int .i64 x3)]⟩],[]=>some ⟨(.one ⟨false,[(.val (.bool (Lk x0 x1 x2 x3)))]⟩),[],[],[]⟩
 |_,_=>none
def ae4:PF Tryz.prog:=PF.ofG Tryz.prog [] [] ar 196 Tryz.f196 Tryz.func196 (fun c _=>LOk.nil c) aeA (by
 intro vs es r h;unfold aeA at h;split at h
 ·cases h;kernel_rfl
 ·cases h)
abbrev kS:=Int×List (Int×Int)×List (Int×Int)
section
variable (y0:Int)(y1 y2:List (Int×Int))
def va:Int×Int:=Option.getD y1[Int.toNat y0]? ((0:Int),(0:Int))
def vb:Int×Int:=Option.getD y2[Int.toNat y0]? ((0:Int),(0:Int))
def xE:Bool:=ltI y0 (↑y1.length:Int)
def xF:Bool:=leI (0:Int) y0
def CU:Bool:=ltN y0.toNat y1.length
def CV:Bool:=ltI y0 (↑y2.length:Int)
def CW:Bool:=ltN y0.toNat y2.length
def CX:Bool:= !Lk ((va y0 y1).1) ((va y0 y1).2) ((vb y0 y2).1) ((vb y0 y2).2)
def CY:Int:=IntKind.wrap .i64 (y0 + (1:Int))
end
def afj:kS→List (Nat×SV)
 |(y0,_,_)=> [(5,(.one ⟨false,[(.val (.int .i64 y0))]⟩)),(0,(.one ⟨false,[(.ref 0)]⟩)),(1,(.one ⟨false,[(.ref 1)]⟩))]
def afc:kS→List (Nat×Entry)
 |(_,y1,y2)=> [(0,(.row false 173 asY y1)),(1,(.row false 173 asY y2))]
def afx:Nat→kS→List (Nat×SV)
 |0,(_,_,_)=> [(4,(.one ⟨false,[(.val (.bool false))]⟩))]
 |_,(_,_,_)=> []
def afq:Nat→kS→List (Nat×Entry)
 |0,(_,y1,y2)=> [(0,(.row false 173 asY y1)),(1,(.row false 173 asY y2))]
 |_,(_,y1,y2)=> [(0,(.row false 173 asY y1)),(1,(.row false 173 asY y2))]
def Br:kS→LT kS
 |(y0,y1,y2)=> .ite (xE y0 y1) (.need [(xF y0),(xE y0 y1),(CU y0 y1),(xF y0),(CV y0 y2),(CW y0 y2)] (.ite (CX y0 y1 y2) (.ext 0 [(0,0),(1,1)]) (.nrm ((CY y0),y1,y2) [(0,0),(1,1)]))) (.ext 1 [(0,0),(1,1)])
def MF(s:St):Option kS:=
 (match s.look 5 with
 |some ⟨none,(.one ⟨false,[(.val (.int .i64 y0))]⟩)⟩=>
 (match s.look 0 with
 |some ⟨none,(.one ⟨false,[(.ref 0)]⟩)⟩=>
 (match s.look 1 with
 |some ⟨none,(.one ⟨false,[(.ref 1)]⟩)⟩=>
 (match s.ent 0 with
 |some (.row false 173 (.pair (.int .i64) (.int .i64)) y1)=>
 (match s.ent 1 with
 |some (.row false 173 (.pair (.int .i64) (.int .i64)) y2)=>
 some (y0,y1,y2)
 |_=>none)
 |_=>none)
 |_=>none)
 |_=>none)
 |_=>none)
def eB:Lp kS where
 h:=⟨[11,12,13,14,17,18,19,20,21,22,23,24,25,26,4,15,16,5],[0,1],[],[]⟩
 JL:=afj
 JE:=afc
 XL:=afx
 XE:=afq
 q:=fun j=>match j with | 0=> .ret | _=> .exit 0
 tags:= [0,1]
 lt:=Br
 fuel:=fun(y0,y1,y2)=>y0.natAbs + y1.length + y2.length
 fix:=fun(_,y1,y2) (y0,_,_)=>(y0,y1,y2)
 σ:= [(0,0),(1,1)]
 rd:=MF
theorem acT:LoopOk Tryz.prog (fun k=>Nat.blt k Tryz.f120.ntmps) eB.F (ay Tryz.f120 0):=by
 refine Lp.ok (tbl:= [ae4]) (lf:= []) ar eB (by kernel_rfl) (LOk.nil _) (fun _=>rfl) (fun j _=>by unfold eB;match j with | 0=>rfl | _ + 1=>rfl) ?_ ?_ ?_ ?_ (fun _=>rfl) ?_
 ·intro x;obtain⟨y0,y1,y2⟩:=x;kernel_rfl
 ·intro x;obtain⟨y0,y1,y2⟩:=x;kernel_rfl
 ·intro s x h
  have h:MF s=some x:=h
  unfold MF at h
  repeat' split at h
  all_goals cases h
  exact⟨aa (by assumption) rfl (aa (by assumption) rfl (aa (by assumption) rfl (rfl))),ac rfl (by assumption) rfl (ac rfl (by assumption) rfl (rfl))⟩
 ·intro x;obtain⟨y0,y1,y2⟩:=x;kernel_rfl
 ·intro x z;obtain⟨y0,y1,y2⟩:=x;exact(And.intro (And.intro trivial rfl) trivial)
section
variable (x0 x1:List (Int×Int))
def LO:Bool:=(↑x0.length:Int)!=(↑x1.length:Int)
def LP:Int×List (Int×Int)×List (Int×Int):=((0:Int),x0,x1)
def NM:Bool:=bif LO x0 x1 then false else bif Nat.beq ((Lp.res eB (LP x0 x1)).1) (0:Nat)then false else true
def NN:Bool:=allT [LO x0 x1||Lp.fin eB (LP x0 x1)]
end
def abp:List SV→List Entry→Option Out
 | [.one ⟨false,[.ref 0]⟩,.one ⟨false,[.ref 1]⟩],[.row false 173 (.pair (.int .i64) (.int .i64)) x0,.row false 173 (.pair (.int .i64) (.int .i64)) x1]=>some ⟨(.one ⟨false,[(.val (.bool (NM x0 x1)))]⟩),[(.row false 173 asY x0),(.row false 173 asY x1)],[],[(NN x0 x1)]⟩
 |_,_=>none
def akz:PF Tryz.prog:=PF.ofG Tryz.prog [ae4] [eB.F] ar 120 Tryz.f120 Tryz.func120 (LOk.fnT (l:= [ay Tryz.f120 0]) (by kernel_rfl) (.cons acT (.nil _))) abp (by
 intro vs es r h;unfold abp at h;split at h
 ·cases h;kernel_rfl
 ·cases h)
def Lj(x0 x1 x2 x3:Int):Bool:=bif x0 !=x2 then false else bif x1 !=x3 then false else true
def aey:List SV→List Entry→Option Out
 | [.one ⟨true,[.val (.int .i64 x0),.val (.int .i64 x1)]⟩,.one ⟨true,[.val (.int .i64 x2),.val (.int .i64 x3)]⟩],[]=>some ⟨(.one ⟨false,[(.val (.bool (Lj x0 x1 x2 x3)))]⟩),[],[],[]⟩
 |_,_=>none
def ae3:PF Tryz.prog:=PF.ofG Tryz.prog [] [] ar 197 Tryz.f197 Tryz.func197 (fun c _=>LOk.nil c) aey (by
 intro vs es r h;unfold aey at h;split at h
 ·cases h;kernel_rfl
 ·cases h)
abbrev kR:=Int×List (Int×Int)×List (Int×Int)
section
variable (y0:Int)(y1 y2:List (Int×Int))
def u7:Int×Int:=Option.getD y1[Int.toNat y0]? ((0:Int),(0:Int))
def u9:Int×Int:=Option.getD y2[Int.toNat y0]? ((0:Int),(0:Int))
def xC:Bool:=ltI y0 (↑y1.length:Int)
def xD:Bool:=leI (0:Int) y0
def CP:Bool:=ltN y0.toNat y1.length
def CQ:Bool:=ltI y0 (↑y2.length:Int)
def CR:Bool:=ltN y0.toNat y2.length
def CS:Bool:= !Lj ((u7 y0 y1).1) ((u7 y0 y1).2) ((u9 y0 y2).1) ((u9 y0 y2).2)
def CT:Int:=IntKind.wrap .i64 (y0 + (1:Int))
end
def afi:kR→List (Nat×SV)
 |(y0,_,_)=> [(5,(.one ⟨false,[(.val (.int .i64 y0))]⟩)),(0,(.one ⟨false,[(.ref 0)]⟩)),(1,(.one ⟨false,[(.ref 1)]⟩))]
def afb:kR→List (Nat×Entry)
 |(_,y1,y2)=> [(0,(.row false 176 asY y1)),(1,(.row false 176 asY y2))]
def afw:Nat→kR→List (Nat×SV)
 |0,(_,_,_)=> [(4,(.one ⟨false,[(.val (.bool false))]⟩))]
 |_,(_,_,_)=> []
def afp:Nat→kR→List (Nat×Entry)
 |0,(_,y1,y2)=> [(0,(.row false 176 asY y1)),(1,(.row false 176 asY y2))]
 |_,(_,y1,y2)=> [(0,(.row false 176 asY y1)),(1,(.row false 176 asY y2))]
def Bq:kR→LT kR
 |(y0,y1,y2)=> .ite (xC y0 y1) (.need [(xD y0),(xC y0 y1),(CP y0 y1),(xD y0),(CQ y0 y2),(CR y0 y2)] (.ite (CS y0 y1 y2) (.ext 0 [(0,0),(1,1)]) (.nrm ((CT y0),y1,y2) [(0,0),(1,1)]))) (.ext 1 [(0,0),(1,1)])
def ME(s:St):Option kR:=
 (match s.look 5 with
 |some ⟨none,(.one ⟨false,[(.val (.int .i64 y0))]⟩)⟩=>
 (match s.look 0 with
 |some ⟨none,(.one ⟨false,[(.ref 0)]⟩)⟩=>
 (match s.look 1 with
 |some ⟨none,(.one ⟨false,[(.ref 1)]⟩)⟩=>
 (match s.ent 0 with
 |some (.row false 176 (.pair (.int .i64) (.int .i64)) y1)=>
 (match s.ent 1 with
 |some (.row false 176 (.pair (.int .i64) (.int .i64)) y2)=>
 some (y0,y1,y2)
 |_=>none)
 |_=>none)
 |_=>none)
 |_=>none)
 |_=>none)
def eA:Lp kR where
 h:=⟨[11,12,13,14,17,18,19,20,21,22,23,24,25,26,4,15,16,5],[0,1],[],[]⟩
 JL:=afi
 JE:=afb
 XL:=afw
 XE:=afp
 q:=fun j=>match j with | 0=> .ret | _=> .exit 0
 tags:= [0,1]
 lt:=Bq
 fuel:=fun(y0,y1,y2)=>y0.natAbs + y1.length + y2.length
 fix:=fun(_,y1,y2) (y0,_,_)=>(y0,y1,y2)
 σ:= [(0,0),(1,1)]
 rd:=ME
theorem acS:LoopOk Tryz.prog (fun k=>Nat.blt k Tryz.f121.ntmps) eA.F (ay Tryz.f121 0):=by
 refine Lp.ok (tbl:= [ae3]) (lf:= []) ar eA (by kernel_rfl) (LOk.nil _) (fun _=>rfl) (fun j _=>by unfold eA;match j with | 0=>rfl | _ + 1=>rfl) ?_ ?_ ?_ ?_ (fun _=>rfl) ?_
 ·intro x;obtain⟨y0,y1,y2⟩:=x;kernel_rfl
 ·intro x;obtain⟨y0,y1,y2⟩:=x;kernel_rfl
 ·intro s x h
  have h:ME s=some x:=h
  unfold ME at h
  repeat' split at h
  all_goals cases h
  exact⟨aa (by assumption) rfl (aa (by assumption) rfl (aa (by assumption) rfl (rfl))),ac rfl (by assumption) rfl (ac rfl (by assumption) rfl (rfl))⟩
 ·intro x;obtain⟨y0,y1,y2⟩:=x;kernel_rfl
 ·intro x z;obtain⟨y0,y1,y2⟩:=x;exact(And.intro (And.intro trivial rfl) trivial)
section
variable (x0 x1:List (Int×Int))
def LM:Bool:=(↑x0.length:Int)!=(↑x1.length:Int)
def LN:Int×List (Int×Int)×List (Int×Int):=((0:Int),x0,x1)
def NK:Bool:=bif LM x0 x1 then false else bif Nat.beq ((Lp.res eA (LN x0 x1)).1) (0:Nat)then false else true
def NL:Bool:=allT [LM x0 x1||Lp.fin eA (LN x0 x1)]
end
def abo:List SV→List Entry→Option Out
 | [.one ⟨false,[.ref 0]⟩,.one ⟨false,[.ref 1]⟩],[.row false 176 (.pair (.int .i64) (.int .i64)) x0,.row false 176 (.pair (.int .i64) (.int .i64)) x1]=>some ⟨(.one ⟨false,[(.val (.bool (NK x0 x1)))]⟩),[(.row false 176 asY x0),(.row false 176 asY x1)],[],[(NL x0 x1)]⟩
 |_,_=>none
def aky:PF Tryz.prog:=PF.ofG Tryz.prog [ae3] [eA.F] ar 121 Tryz.f121 Tryz.func121 (LOk.fnT (l:= [ay Tryz.f121 0]) (by kernel_rfl) (.cons acS (.nil _))) abo (by
 intro vs es r h;unfold abo at h;split at h
 ·cases h;kernel_rfl
 ·cases h)
end Go.SX

namespace Go.SX
open Go.Proofs
set_option maxRecDepth 100000
def areR(st:List Int):Bool:=inR (st.length:Int) 1 12&&st.all fun v=>inR v 0 2
def rowsR(rs:List (List Int)):Int:=((rs[0]?.getD []).length:Int)
def rsOk(rs:List (List Int)):Bool:=rs.all fun st=>areR st&&((st.length:Int)==rowsR rs)
def lfOk(n:Int)(lf:List (Int×Int×Int)):Bool:=inR n 1 12&&okFs n lf
def akK(t:Int×Int):Bool:=inR t.1 1 366&&inR t.2 0 100000
def okPl(pl:List (Int×Int)):Bool:=leN pl.length 12&&pl.all akK
def arx(x:Int×Int):Bool:=inR x.1 0 23&&inR x.2 1 999
def Se(ls:List (Int×Int))(b:Nat):Int×Int:=ls[b]?.getD (0,0)
def HR(x y:Int×Int):Bool:=y.1==x.1&&y.2==x.2
def Ll(ls:List (Int×Int))(b:Nat):Bool:= !arx (Se ls b)
def acP(ls:List (Int×Int))(b:Nat):Bool:=(ls.take b).any (HR (Se ls b))
def okLk(ls:List (Int×Int)):Bool:=leN ls.length 8&&(List.range ls.length).all fun b=> !(Ll ls b||acP ls b)
def pS(n:Int)(ps:List Int)(fs:List (Int×Int×Int))(rs:List (List Int))(lf:List (Int×Int×Int))(mode:Int)(pl ls:List (Int×Int))(day:Int):Bool:=isT n ps&&(okFs n fs&&(decide (rs.length=ps.length)&&(rsOk rs&&(lfOk (rowsR rs) lf&&(inR mode 0 5&&(okPl pl&&(okLk ls&&inR day 0 100000)))))))
theorem aj9{C:Type}{P:C→Bool}: ∀ (l:List C) (i:Nat) (hi:i < l.length),P l[i]=true→((l.takeWhile fun x=> !P x).length=i↔(l.take i).any P=false)
 | [],i,hi,_=>by simp at hi
 |a::r,0,hi,h=>by
  have h:P a=true:=h
  simp [List.takeWhile_cons,h]
 |a::r,i + 1,hi,h=>by
  have hi':i < r.length:=by simpa using hi
  have h':P r[i]=true:=h
  have ih:=aj9 r i hi' h'
  rw [List.take_succ_cons,List.any_cons,List.takeWhile_cons]
  cases ha:P a with
  |true=>simp
  |false=>
   simp only [Bool.not_false,if_true,List.length_cons,Bool.false_or]
   rw [← ih];omega
theorem ah5: ∀ (xs:List Int) (m:Int),0≤m→m≤2→(∀ x∈xs,0≤x∧x≤2)→((xs.foldl (fun m b=>bif ltI b m then b else m) m)==2)=(m==2&&xs.all fun x=>x==2)
 | [],m,_,_,_=>by simp
 |x::xs,m,h0,h1,h=>by
  have hx:=h x (by simp)
  rw [List.foldl_cons,List.all_cons]
  cases hl:ltI x m with
  |true=>
   have:=ag4.1 hl
   rw [cond_true,ah5 xs x hx.1 hx.2 fun y hy=>h y (by simp [hy])]
   have hm:(x==2)=false:=by simp;omega
   simp [hm]
  |false=>
   have:=IB.1 hl
   rw [cond_false,ah5 xs m h0 h1 fun y hy=>h y (by simp [hy])]
   by_cases hm:m=2
   ·have hx2:x=2:=by omega
    subst hm;subst hx2;simp
   ·have:(m==2)=false:=by simpa using hm
    simp [this]
end Go.SX
