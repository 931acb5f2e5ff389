/- What functions of the program come to, and what that says in plain words: part 1. -/
import Derived.Test.YtbajbgcdcaknpaaGreatDoorProg
import Derived.Shelf.SortM.Plain
import Derived.Ground.SlgmProg
import Derived.Shelf.SlGeneric
import Derived.Test.YtbajbgcdcaknpaaGreatDoorTXh
import Derived.Test.YtbajbgcdcaknpaaGreatDoorTXs
set_option linter.unusedSimpArgs false
set_option linter.unusedVariables false
namespace Go.SX
open Go.Proofs
abbrev amR:CTy:=(CTy.pair (CTy.int IntKind.i64) (CTy.pair (CTy.int IntKind.i64) (CTy.pair (CTy.pair (CTy.int IntKind.i64) (CTy.int IntKind.i64)) (CTy.pair (CTy.int IntKind.i64) (CTy.pair (CTy.int IntKind.i64) CTy.bool)))))
abbrev amS:CTy:=(CTy.pair (CTy.int IntKind.i64) (CTy.pair (CTy.int IntKind.i64) (CTy.int IntKind.i64)))
abbrev amT:CTy:=(CTy.pair (CTy.int IntKind.i64) (CTy.int IntKind.i64))
abbrev amU:CTy:=(CTy.int IntKind.i64)
end Go.SX
namespace Go.Proofs
open Go.Shelf
def Tryz.laysSort_ren:Go.Shelf.Ren:=⟨fun | 5=>235 | 8=>241 | 7=>240 | 19=>252 | 20=>253 | 10=>243 | 11=>244 | 12=>245 | 13=>246 | 14=>247 | 15=>248 | 16=>249 | 17=>250 | 18=>251 | 30=>254 | 31=>255 | 32=>256 | 33=>257 | 34=>258 | 35=>259 | 40=>260 | n=>n,fun | 23=>24 | 25=>2 | 3=>3 | 32=>124 | 22=>24 | 0=>0 | 44=>227 | 46=>57 | 4=>4 | 36=>252 | 35=>251 | 41=>256 | 5=>5 | 9=>9 | 53=>260 | 57=>264 | 63=>266 | 64=>267 | n=>n,fun | n=>n⟩
theorem Tryz.laysSort:Go.Proofs.SlLaysM.n5 Tryz.prog Tryz.laysSort_ren:= {
 mixed:=by kernel_rfl
 f5:=⟨Tryz.f235.name,by decide,Tryz.func235.trans (congrArg some (by kernel_rfl))⟩
 f7:=⟨Tryz.f240.name,by decide,Tryz.func240.trans (congrArg some (by kernel_rfl))⟩
 f8:=Tryz.func241.trans (congrArg some (by kernel_rfl))
 f10:=⟨Tryz.f243.name,by decide,Tryz.func243.trans (congrArg some (by kernel_rfl))⟩
 f11:=⟨Tryz.f244.name,by decide,Tryz.func244.trans (congrArg some (by kernel_rfl))⟩
 f12:=⟨Tryz.f245.name,by decide,Tryz.func245.trans (congrArg some (by kernel_rfl))⟩
 f13:=⟨Tryz.f246.name,by decide,Tryz.func246.trans (congrArg some (by kernel_rfl))⟩
 f14:=⟨Tryz.f247.name,by decide,Tryz.func247.trans (congrArg some (by kernel_rfl))⟩
 f15:=⟨Tryz.f248.name,by decide,Tryz.func248.trans (congrArg some (by kernel_rfl))⟩
 f16:=⟨Tryz.f249.name,by decide,Tryz.func249.trans (congrArg some (by kernel_rfl))⟩
 f17:=⟨Tryz.f250.name,by decide,Tryz.func250.trans (congrArg some (by kernel_rfl))⟩
 f18:=⟨Tryz.f251.name,by decide,Tryz.func251.trans (congrArg some (by kernel_rfl))⟩
 f19:=Tryz.func252.trans (congrArg some (by kernel_rfl))
 f20:=Tryz.func253.trans (congrArg some (by kernel_rfl))
 f30:=⟨Tryz.f254.name,by decide,Tryz.func254.trans (congrArg some (by kernel_rfl))⟩
 f31:=Tryz.func255.trans (congrArg some (by kernel_rfl))
 f32:=Tryz.func256.trans (congrArg some (by kernel_rfl))
 f33:=⟨Tryz.f257.name,by decide,Tryz.func257.trans (congrArg some (by kernel_rfl))⟩
 f34:=⟨Tryz.f258.name,by decide,Tryz.func258.trans (congrArg some (by kernel_rfl))⟩
 f35:=⟨Tryz.f259.name,by decide,Tryz.func259.trans (congrArg some (by kernel_rfl))⟩
 f40:=⟨Tryz.f260.name,by decide,Tryz.func260.trans (congrArg some (by kernel_rfl))⟩
 t0:=Tryz.underlying0
 a0:=Tryz.isAgg0
 z0:=Tryz.sizeOf0
 v0:=Tryz.zeroValue0
 t3:=Tryz.underlying3
 a3:=Tryz.isAgg3
 z3:=Tryz.sizeOf3
 v3:=Tryz.zeroValue3
 t4:=Tryz.underlying4
 a4:=Tryz.isAgg4
 z4:=Tryz.sizeOf4
 v4:=Tryz.zeroValue4
 t5:=Tryz.underlying5
 a5:=Tryz.isAgg5
 z5:=Tryz.sizeOf5
 v5:=Tryz.zeroValue5
 t9:=Tryz.underlying9
 a9:=Tryz.isAgg9
 z9:=Tryz.sizeOf9
 v9:=Tryz.zeroValue9
 t22:=Tryz.underlying24
 a22:=Tryz.isAgg24
 z22:=Tryz.sizeOf24
 v22:=Tryz.zeroValue24
 t23:=Tryz.underlying24
 a23:=Tryz.isAgg24
 z23:=Tryz.sizeOf24
 v23:=Tryz.zeroValue24
 t25:=Tryz.underlying2
 a25:=Tryz.isAgg2
 z25:=Tryz.sizeOf2
 v25:=Tryz.zeroValue2
 t32:=Tryz.underlying124
 a32:=Tryz.isAgg124
 z32:=Tryz.sizeOf124
 v32:=Tryz.zeroValue124
 t35:=Tryz.underlying251
 a35:=Tryz.isAgg251
 z35:=Tryz.sizeOf251
 v35:=Tryz.zeroValue251
 t36:=Tryz.underlying252
 a36:=Tryz.isAgg252
 z36:=Tryz.sizeOf252
 v36:=Tryz.zeroValue252
 t41:=Tryz.underlying256
 a41:=Tryz.isAgg256
 z41:=Tryz.sizeOf256
 v41:=Tryz.zeroValue256
 t44:=Tryz.underlying227
 a44:=Tryz.isAgg227
 z44:=Tryz.sizeOf227
 v44:=Tryz.zeroValue227
 t46:=Tryz.underlying57
 a46:=Tryz.isAgg57
 z46:=Tryz.sizeOf57
 v46:=Tryz.zeroValue57
 t53:=Tryz.underlying260
 a53:=Tryz.isAgg260
 z53:=Tryz.sizeOf260
 v53:=Tryz.zeroValue260
 t57:=Tryz.underlying264
 a57:=Tryz.isAgg264
 z57:=Tryz.sizeOf264
 v57:=Tryz.zeroValue264
 t63:=Tryz.underlying266
 a63:=Tryz.isAgg266
 z63:=Tryz.sizeOf266
 v63:=Tryz.zeroValue266
 t64:=Tryz.underlying267
 a64:=Tryz.isAgg267
 z64:=Tryz.sizeOf267
 v64:=Tryz.zeroValue267 }
end Go.Proofs

namespace Go.SX
open Go.Proofs
set_option maxRecDepth 100000
theorem ay:Tryz.prog.follows .mixedOrders=true:=by kernel_rfl
def aJ(x0 x1 x2:Int):Bool:=bif leI x1 x0 then leI x0 x2 else false
def aaR:List SV→List Entry→Option Out
 | [.one ⟨false,[.val (.int .i64 x0)]⟩,.one ⟨false,[.val (.int .i64 x1)]⟩,.one ⟨false,[.val (.int .i64 x2)]⟩],[]=>some ⟨(.one ⟨false,[(.val (.bool (aJ x0 x1 x2)))]⟩),[],[],[]⟩
 |_,_=>none
def eQ:PF Tryz.prog:=PF.ofG Tryz.prog [] [] ay 73 Tryz.f73 Tryz.func73 (fun c _=>LOk.nil c) aaR (by
 intro vs es r h;unfold aaR at h;split at h
 ·cases h;kernel_rfl
 ·cases h)
abbrev iy:=Int×Int×List Int
section
variable (y0 y1:Int)(y2:List Int)
def rQ:Bool:=ltI y0 (↑y2.length:Int)
def wb:Bool:=leI (0:Int) y0
def wc:Bool:=ltN y0.toNat y2.length
def wd:Bool:= !aJ (Option.getD y2[Int.toNat y0]? (0:Int)) (0:Int) (IntKind.wrap .i64 (IntKind.wrap .i64 ((3:Int) * y1) - (1:Int)))
def we:Int:=IntKind.wrap .i64 (y0 + (1:Int))
end
def Wi:iy→List (Nat×SV)
 |(y0,_,_)=> [(3,(.one ⟨false,[(.val (.int .i64 y0))]⟩)),(1,(.one ⟨false,[(.ptr 0 0)]⟩))]
def Wc:iy→List (Nat×Entry)
 |(_,y1,y2)=> [(0,(.box 26 [(.val (.int .i64 y1)),(.ref 1)])),(1,(.row false 2 amU y2))]
def WE:Nat→iy→List (Nat×SV)
 |0,(_,_,_)=> [(2,(.one ⟨false,[(.val (.bool false))]⟩))]
 |_,(_,_,_)=> []
def Wy:Nat→iy→List (Nat×Entry)
 |0,(_,y1,y2)=> [(0,(.box 26 [(.val (.int .i64 y1)),(.ref 1)])),(1,(.row false 2 amU y2))]
 |_,(_,y1,y2)=> [(0,(.box 26 [(.val (.int .i64 y1)),(.ref 1)])),(1,(.row false 2 amU y2))]
def ui:iy→LT iy
 |(y0,y1,y2)=> .ite (rQ y0 y2) (.need [(wb y0),(rQ y0 y2),(wc y0 y2)] (.ite (wd y0 y1 y2) (.ext 0 [(0,0),(1,1)]) (.nrm ((we y0),y1,y2) [(0,0),(1,1)]))) (.ext 1 [(0,0),(1,1)])
def FO(s:St):Option iy:=
 (match s.look 3 with
 |some ⟨none,(.one ⟨false,[(.val (.int .i64 y0))]⟩)⟩=>
 (match s.look 1 with
 |some ⟨none,(.one ⟨false,[(.ptr 128 0)]⟩)⟩=>
 (match s.ent 128 with
 |some (.box 26 [(.val (.int .i64 y1)),(.ref 0)])=>
 (match s.ent 0 with
 |some (.row false 2 (.int .i64) y2)=>
 some (y0,y1,y2)
 |_=>none)
 |_=>none)
 |_=>none)
 |_=>none)
def cV:Lp iy where
 h:=⟨[15,16,17,18,19,22,23,24,25,26,27,28,29,30,31,32,2,20,21,3],[0,1],[],[]⟩
 JL:=Wi
 JE:=Wc
 XL:=WE
 XE:=Wy
 q:=fun j=>match j with | 0=> .ret | _=> .exit 0
 tags:= [0,1]
 lt:=ui
 fuel:=fun(y0,y1,y2)=>y0.natAbs + y1.natAbs + y2.length
 fix:=fun(_,y1,y2) (y0,_,_)=>(y0,y1,y2)
 σ:= [(0,128),(1,0)]
 rd:=FO
theorem TT:LoopOk Tryz.prog (fun k=>Nat.blt k Tryz.f84.ntmps) cV.F (aD Tryz.f84 0):=by
 refine Lp.ok (tbl:= [eQ]) (lf:= []) ay cV (by kernel_rfl) (LOk.nil _) (fun _=>rfl) (fun j _=>by unfold cV;match j with | 0=>rfl | _ + 1=>rfl) ?_ ?_ ?_ ?_ (fun _=>rfl) ?_
 ·intro x;obtain⟨y0,y1,y2⟩:=x;kernel_rfl
 ·intro x;obtain⟨y0,y1,y2⟩:=x;kernel_rfl
 ·intro s x h
  have h:FO s=some x:=h
  unfold FO at h
  repeat' split at h
  all_goals cases h
  exact⟨aa (by assumption) rfl (aa (by assumption) rfl (rfl)),ac rfl (by assumption) rfl (ac rfl (by assumption) rfl (rfl))⟩
 ·intro x;obtain⟨y0,y1,y2⟩:=x;kernel_rfl
 ·intro x z;obtain⟨y0,y1,y2⟩:=x;exact(And.intro (And.intro trivial rfl) trivial)
section
variable (x0:Int)(x1:List Int)
def Kp:Bool:=bif !aJ x0 (2:Int) (8:Int)then true else !aJ (↑x1.length:Int) (1:Int) (4:Int)
def Kq:Int×Int×List Int:=((0:Int),x0,x1)
def LU:Bool:=bif Kp x0 x1 then false else bif Nat.beq ((Lp.res cV (Kq x0 x1)).1) (0:Nat)then false else true
def LV:Bool:=allT [Kp x0 x1||Lp.fin cV (Kq x0 x1)]
end
def RW:List SV→List Entry→Option Out
 | [.one ⟨true,[.val (.int .i64 x0),.ref 0]⟩],[.row false 2 (.int .i64) x1]=>some ⟨(.one ⟨false,[(.val (.bool (LU x0 x1)))]⟩),[(.row false 2 amU x1)],[],[(LV x0 x1)]⟩
 |_,_=>none
def adb:PF Tryz.prog:=PF.ofG Tryz.prog [eQ] [cV.F] ay 84 Tryz.f84 Tryz.func84 (LOk.fnT (l:= [aD Tryz.f84 0]) (by kernel_rfl) (.cons TT (.nil _))) RW (by
 intro vs es r h;unfold RW at h;split at h
 ·cases h;kernel_rfl
 ·cases h)
def aZ(x0 x1 x2:Int):Bool:=bif leI x1 x0 then leI x0 x2 else false
def YT:List SV→List Entry→Option Out
 | [.one ⟨false,[.val (.int .i64 x0)]⟩,.one ⟨false,[.val (.int .i64 x1)]⟩,.one ⟨false,[.val (.int .i64 x2)]⟩],[]=>some ⟨(.one ⟨false,[(.val (.bool (aZ x0 x1 x2)))]⟩),[],[],[]⟩
 |_,_=>none
def fY:PF Tryz.prog:=PF.ofG Tryz.prog [] [] ay 69 Tryz.f69 Tryz.func69 (fun c _=>LOk.nil c) YT (by
 intro vs es r h;unfold YT at h;split at h
 ·cases h;kernel_rfl
 ·cases h)
def GF(x0:Int):Bool:=aZ x0 (2:Int) (8:Int)
def Ns:List SV→List Entry→Option Out
 | [.one ⟨false,[.val (.int .i64 x0)]⟩],[]=>some ⟨(.one ⟨false,[(.val (.bool (GF x0)))]⟩),[],[],[]⟩
 |_,_=>none
def YH:PF Tryz.prog:=PF.ofG Tryz.prog [fY] [] ay 68 Tryz.f68 Tryz.func68 (fun c _=>LOk.nil c) Ns (by
 intro vs es r h;unfold Ns at h;split at h
 ·cases h;kernel_rfl
 ·cases h)
def cJ(x0:List Int):Int:=(↑x0.length:Int)
def Nt:List SV→List Entry→Option Out
 | [.one ⟨false,[.ref 0]⟩],[.row false 2 (.int .i64) x0]=>some ⟨(.one ⟨false,[(.val (.int .i64 (cJ x0)))]⟩),[(.row false 2 amU x0)],[],[]⟩
 |_,_=>none
def aG:PF Tryz.prog:=PF.ofG Tryz.prog [] [] ay 79 Tryz.f79 Tryz.func79 (fun c _=>LOk.nil c) Nt (by
 intro vs es r h;unfold Nt at h;split at h
 ·cases h;kernel_rfl
 ·cases h)
def yJ(x0 x1:Int):Bool:= !aZ x0 (0:Int) (IntKind.wrap .i64 (IntKind.wrap .i64 ((3:Int) * x1) - (1:Int)))
def KQ:List SV→List Entry→Option Out
 | [(.one ⟨false,[(.val (.int .i64 x0))]⟩),(.one ⟨false,[(.ptr 0 0)]⟩)],[(.box 26 [(.val (.int .i64 x1)),(.ref 1)]),(.row false 2 (.int .i64) x2)]=>some ⟨(.one ⟨false,[(.val (.bool (yJ x0 x1)))]⟩),[(.box 26 [(.val (.int .i64 x1)),(.ref 1)]),(.row false 2 amU x2)],[],[]⟩
 |_,_=>none
def pe:PF Tryz.prog:=PF.ofG Tryz.prog [fY] [] ay 162 Tryz.f162 Tryz.func162 (fun c _=>LOk.nil c) KQ (by
 intro vs es r h;unfold KQ at h;split at h
 ·cases h;kernel_rfl
 ·cases h)
abbrev bo:=Int×Int×Int×List Int
section
variable (y0 y1 y2:Int)(y3:List Int)
def gu:Bool:=ltI y0 y1
def gv:Bool:=leI (0:Int) y0
def gw:Bool:=ltI y0 (↑y3.length:Int)
def gx:Bool:=ltN y0.toNat y3.length
def gy:Bool:=yJ (Option.getD y3[Int.toNat y0]? (0:Int)) y2
def gz:Int:=IntKind.wrap .i64 (y0 + (1:Int))
end
def Gh:bo→List (Nat×SV)
 |(y0,y1,_,_)=> [(8,(.one ⟨false,[(.val (.int .i64 y0))]⟩)),(7,(.one ⟨false,[(.val (.int .i64 y1))]⟩)),(1,(.one ⟨false,[(.clo 162 [0])]⟩)),(0,(.one ⟨false,[(.ref 1)]⟩))]
def Gg:bo→List (Nat×Entry)
 |(_,_,y2,y3)=> [(0,(.box 26 [(.val (.int .i64 y2)),(.ref 1)])),(1,(.row false 2 amU y3))]
def Gj:Nat→bo→List (Nat×SV)
 |0,(y0,_,_,_)=> [(4,(.one ⟨false,[(.val (.int .i64 y0))]⟩))]
 |_,(_,_,_,_)=> []
def Gi:Nat→bo→List (Nat×Entry)
 |0,(_,_,y2,y3)=> [(0,(.box 26 [(.val (.int .i64 y2)),(.ref 1)])),(1,(.row false 2 amU y3))]
 |_,(_,_,y2,y3)=> [(0,(.box 26 [(.val (.int .i64 y2)),(.ref 1)])),(1,(.row false 2 amU y3))]
def ge:bo→LT bo
 |(y0,y1,y2,y3)=> .ite (gu y0 y1) (.need [(gv y0),(gw y0 y3),(gx y0 y3)] (.ite (gy y0 y2 y3) (.ext 0 [(0,0),(1,1)]) (.nrm ((gz y0),y1,y2,y3) [(0,0),(1,1)]))) (.ext 1 [(0,0),(1,1)])
def nZ(s:St):Option bo:=
 (match s.look 8 with
 |some ⟨none,(.one ⟨false,[(.val (.int .i64 y0))]⟩)⟩=>
 (match s.look 7 with
 |some ⟨none,(.one ⟨false,[(.val (.int .i64 y1))]⟩)⟩=>
 (match s.look 1 with
 |some ⟨none,(.one ⟨false,[(.clo 162 [1])]⟩)⟩=>
 (match s.look 0 with
 |some ⟨none,(.one ⟨false,[(.ref 0)]⟩)⟩=>
 (match s.ent 1 with
 |some (.box 26 [(.val (.int .i64 y2)),(.ref 0)])=>
 (match s.ent 0 with
 |some (.row false 2 (.int .i64) y3)=>
 some (y0,y1,y2,y3)
 |_=>none)
 |_=>none)
 |_=>none)
 |_=>none)
 |_=>none)
 |_=>none)
def ax:Lp bo where
 h:=⟨[9,10,5,11,12,13,14,15,16,17,4,18,8],[0,1],[],[]⟩
 JL:=Gh
 JE:=Gg
 XL:=Gj
 XE:=Gi
 q:=fun j=>match j with | 0=> .ret | _=> .exit 0
 tags:= [0,1]
 lt:=ge
 fuel:=fun(y0,y1,y2,y3)=>y0.natAbs + y1.natAbs + y2.natAbs + y3.length
 fix:=fun(_,y1,y2,y3) (y0,_,_,_)=>(y0,y1,y2,y3)
 σ:= [(0,1),(1,0)]
 rd:=nZ
theorem Fc:LoopOk Tryz.prog (fun k=>Nat.blt k Tryz.f211.ntmps) ax.F (aD Tryz.f211 0):=by
 refine Lp.ok (tbl:= [pe,PF.lend pe,PF.fz pe]) (lf:= []) ay ax (by kernel_rfl) (LOk.nil _) (fun _=>rfl) (fun j _=>by unfold ax;match j with | 0=>rfl | _ + 1=>rfl) ?_ ?_ ?_ ?_ (fun _=>rfl) ?_
 ·intro x;obtain⟨y0,y1,y2,y3⟩:=x;kernel_rfl
 ·intro x;obtain⟨y0,y1,y2,y3⟩:=x;kernel_rfl
 ·intro s x h
  have h:nZ s=some x:=h
  unfold nZ at h
  repeat' split at h
  all_goals cases h
  exact⟨aa (by assumption) rfl (aa (by assumption) rfl (aa (by assumption) rfl (aa (by assumption) rfl (rfl)))),ac rfl (by assumption) rfl (ac rfl (by assumption) rfl (rfl))⟩
 ·intro x;obtain⟨y0,y1,y2,y3⟩:=x;kernel_rfl
 ·intro x z;obtain⟨y0,y1,y2,y3⟩:=x;exact(And.intro (And.intro trivial rfl) trivial)
section
variable (x0:List Int)(x1:Int)
def kD:Int×Int×Int×List Int:=((0:Int),(↑x0.length:Int),x1,x0)
def pW:Bool:=Nat.beq ((Lp.res ax (kD x0 x1)).1) (0:Nat)
def qC:Int:=bif pW x0 x1 then ((Lp.res ax (kD x0 x1)).2).1else(-1:Int)
def qD:Int:=bif pW x0 x1 then x1 else x1
def qE:Bool:=allT [Lp.fin ax (kD x0 x1)]
end
def yR:List SV→List Entry→Option Out
 | [(.one ⟨false,[(.ref 0)]⟩),(.one ⟨false,[(.clo 162 [1])]⟩)],[(.row false 2 (.int .i64) x0),(.box 26 [(.val (.int .i64 x1)),(.ref 0)])]=>some ⟨(.one ⟨false,[(.val (.int .i64 (qC x0 x1)))]⟩),[(.row false 2 amU x0),(.box 26 [(.val (.int .i64 (qD x0 x1))),(.ref 0)])],[],[(qE x0 x1)]⟩
 |_,_=>none
def qB:PF Tryz.prog:=PF.ofG Tryz.prog [pe,PF.lend pe,PF.fz pe] [ax.F] ay 211 Tryz.f211 Tryz.func211 (LOk.fnT (l:= [aD Tryz.f211 0]) (by kernel_rfl) (.cons Fc (.nil _))) yR (by
 intro vs es r h;unfold yR at h;split at h
 ·cases h;kernel_rfl
 ·cases h)
section
variable (x0:List Int)(x1:Int)
def jz:Bool:=leI (0:Int) (qC x0 x1)
def v8:Int:=qD x0 x1
def jA:Bool:=allT [qE x0 x1]
end
def vz:List SV→List Entry→Option Out
 | [(.one ⟨false,[(.ref 0)]⟩),(.one ⟨false,[(.clo 162 [1])]⟩)],[(.row false 2 (.int .i64) x0),(.box 26 [(.val (.int .i64 x1)),(.ref 0)])]=>some ⟨(.one ⟨false,[(.val (.bool (jz x0 x1)))]⟩),[(.row false 2 amU x0),(.box 26 [(.val (.int .i64 (v8 x0 x1))),(.ref 0)])],[],[(jA x0 x1)]⟩
 |_,_=>none
def oH:PF Tryz.prog:=PF.ofG Tryz.prog [qB,PF.lend qB,PF.fz qB] [] ay 158 Tryz.f158 Tryz.func158 (fun c _=>LOk.nil c) vz (by
 intro vs es r h;unfold vz at h;split at h
 ·cases h;kernel_rfl
 ·cases h)
section
variable (x0:Int)(x1:List Int)
def Jo:Bool:=bif GF x0 then aZ (cJ x1) (1:Int) (4:Int)else false
def Li:Bool:=bif Jo x0 x1 then !jz x1 x0 else false
def Lj:Bool:=allT [!(Jo x0 x1&&true)||jA x1 x0]
end
def RG:List SV→List Entry→Option Out
 | [.one ⟨true,[.val (.int .i64 x0),.ref 0]⟩],[.row false 2 (.int .i64) x1]=>some ⟨(.one ⟨false,[(.val (.bool (Li x0 x1)))]⟩),[(.row false 2 amU x1)],[],[(Lj x0 x1)]⟩
 |_,_=>none
def acY:PF Tryz.prog:=PF.ofG Tryz.prog [YH,fY,aG,PF.lend aG,PF.fz aG,oH,PF.lend oH,PF.fz oH] [] ay 75 Tryz.f75 Tryz.func75 (fun c _=>LOk.nil c) RG (by
 intro vs es r h;unfold RG at h;split at h
 ·cases h;kernel_rfl
 ·cases h)
def ym(x0:List Int):Bool:=allT [ltN (0:Nat) x0.length,false||leN ((0:Nat) + List.length x0) (9223372036854775807:Nat),false||leN (((0:Nat) + List.length x0) * (8:Nat)) (140737488355328:Nat)]
def Fp:List SV→List Entry→Option Out
 | [.one ⟨false,[.ref 0]⟩],[.row false 2 (.int .i64) x0]=>some ⟨(.one ⟨false,[(.ref 1)]⟩),[(.row false 2 amU x0)],[(.row true 2 amU x0)],[(ym x0)]⟩
 |_,_=>none
def Pg:PF Tryz.prog:=PF.ofG Tryz.prog [] [] ay 151 Tryz.f151 Tryz.func151 (fun c _=>LOk.nil c) Fp (by
 intro vs es r h;unfold Fp at h;split at h
 ·cases h;kernel_rfl
 ·cases h)
def RA(x0:List Int):Bool:=allT [leN ((0:Nat) + List.length x0) (9223372036854775807:Nat),leN (((0:Nat) + List.length x0) * (8:Nat)) (140737488355328:Nat)]
def Ze:List SV→List Entry→Option Out
 | [.one ⟨false,[.ref 0]⟩],[.row false 2 (.int .i64) x0]=>some ⟨(.one ⟨false,[(.ref 1)]⟩),[(.row false 2 amU x0)],[(.row true 2 amU x0)],[(RA x0)]⟩
 |_,_=>none
def afQ:PF Tryz.prog:=PF.ofG Tryz.prog [] [] ay 209 Tryz.f209 Tryz.func209 (fun c _=>LOk.nil c) Ze (by
 intro vs es r h;unfold Ze at h;split at h
 ·cases h;kernel_rfl
 ·cases h)
section
variable (x0 x1 x2:Int)
def Ea:Bool:=IntKind.wrap .i64 (Int.tdiv x1 (3:Int))==x2
def HR:Bool:=Int.tmod x1 (3:Int)==(2:Int)
def Pz:Bool:=bif Ea x1 x2 then true else bif HR x1 then Int.tmod (IntKind.wrap .i64 (IntKind.wrap .i64 (Int.tdiv x1 (3:Int)) + (1:Int))) x0==x2 else false
def Kw:Bool:=allT [!(!Ea x1 x2&&true)||neI (3:Int) (0:Int),!(HR x1&&(!Ea x1 x2&&true))||neI (3:Int) (0:Int),!(HR x1&&(!Ea x1 x2&&true))||neI x0 (0:Int)]
end
def VK:List SV→List Entry→Option Out
 | [.one ⟨false,[.val (.int .i64 x0)]⟩,.one ⟨false,[.val (.int .i64 x1)]⟩,.one ⟨false,[.val (.int .i64 x2)]⟩],[]=>some ⟨(.one ⟨false,[(.val (.bool (Pz x0 x1 x2)))]⟩),[],[],[(Kw x0 x1 x2)]⟩
 |_,_=>none
def afa:PF Tryz.prog:=PF.ofG Tryz.prog [] [] ay 219 Tryz.f219 Tryz.func219 (fun c _=>LOk.nil c) VK (by
 intro vs es r h;unfold VK at h;split at h
 ·cases h;kernel_rfl
 ·cases h)
def ka(x1:Int)(x2:List Int):Bool:=aZ x1 (0:Int) (IntKind.wrap .i64 (cJ x2 - (1:Int)))
def qI:List SV→List Entry→Option Out
 | [.one ⟨true,[.val (.int .i64 _x0),.ref 0]⟩,.one ⟨false,[.val (.int .i64 x1)]⟩],[.row false 2 (.int .i64) x2]=>some ⟨(.one ⟨false,[(.val (.bool (ka x1 x2)))]⟩),[(.row false 2 amU x2)],[],[]⟩
 |_,_=>none
def CZ:PF Tryz.prog:=PF.ofG Tryz.prog [fY,aG,PF.lend aG,PF.fz aG] [] ay 183 Tryz.f183 Tryz.func183 (fun c _=>LOk.nil c) qI (by
 intro vs es r h;unfold qI at h;split at h
 ·cases h;kernel_rfl
 ·cases h)
def Lv(x0:Int)(x1:List Int):Int:=IntKind.wrap .i64 (x0 - (↑x1.length:Int))
def Na(x0:Int)(x1:List Int):Int:=bif ltI (Lv x0 x1) (0:Int)then(-1:Int)else Lv x0 x1
def Uu:List SV→List Entry→Option Out
 | [.one ⟨false,[.ref 0]⟩,.one ⟨false,[.val (.int .i64 x0)]⟩],[.row false 2 (.int .i64) x1]=>some ⟨(.one ⟨false,[(.val (.int .i64 (Na x0 x1)))]⟩),[(.row false 2 amU x1)],[],[]⟩
 |_,_=>none
def ad7:PF Tryz.prog:=PF.ofG Tryz.prog [] [] ay 188 Tryz.f188 Tryz.func188 (fun c _=>LOk.nil c) Uu (by
 intro vs es r h;unfold Uu at h;split at h
 ·cases h;kernel_rfl
 ·cases h)
abbrev i4:=Int×List Int×List Int
section
variable (y0:Int)(y1 y2:List Int)
def sX:Bool:=ltI y0 (↑y1.length:Int)
def sY:Bool:=leI (0:Int) y0
def xR:Bool:=ltN y0.toNat y1.length
def xS:Bool:=ltI y0 (↑y2.length:Int)
def xT:Bool:=ltN y0.toNat y2.length
def xU:Int:=IntKind.wrap .i64 (y0 + (1:Int))
def xV:List Int:=List.set y2 y0.toNat (Option.getD y1[Int.toNat y0]? (0:Int))
end
def Ya:i4→List (Nat×SV)
 |(y0,_,_)=> [(4,(.one ⟨false,[(.val (.int .i64 y0))]⟩)),(0,(.one ⟨false,[(.ref 0)]⟩)),(3,(.one ⟨false,[(.ref 1)]⟩))]
def XR:i4→List (Nat×Entry)
 |(_,y1,y2)=> [(0,(.row false 2 amU y1)),(1,(.row true 2 amU y2))]
def Ys:Nat→i4→List (Nat×SV)
 |_,(_,_,_)=> []
def Yj:Nat→i4→List (Nat×Entry)
 |_,(_,y1,y2)=> [(0,(.row false 2 amU y1)),(1,(.row true 2 amU y2))]
def vW:i4→LT i4
 |(y0,y1,y2)=> .ite (sX y0 y1) (.need [(sY y0),(sX y0 y1),(xR y0 y1),(sY y0),(xS y0 y2),(xT y0 y2)] (.nrm ((xU y0),y1,(xV y0 y1 y2)) [(0,0),(1,1)])) (.ext 0 [(0,0),(1,1)])
def GY(s:St):Option i4:=
 (match s.look 4 with
 |some ⟨none,(.one ⟨false,[(.val (.int .i64 y0))]⟩)⟩=>
 (match s.look 0 with
 |some ⟨none,(.one ⟨false,[(.ref 0)]⟩)⟩=>
 (match s.look 3 with
 |some ⟨none,(.one ⟨false,[(.ref 320)]⟩)⟩=>
 (match s.ent 0 with
 |some (.row false 2 (.int .i64) y1)=>
 (match s.ent 320 with
 |some (.row true 2 (.int .i64) y2)=>
 some (y0,y1,y2)
 |_=>none)
 |_=>none)
 |_=>none)
 |_=>none)
 |_=>none)
def ez:Lp i4 where
 h:=⟨[8,9,10,11,14,15,16,17,18,19,20,12,13,4],[0,1],[],[]⟩
 JL:=Ya
 JE:=XR
 XL:=Ys
 XE:=Yj
 q:=fun j=>match j with | _=> .exit 0
 tags:= [0]
 lt:=vW
 fuel:=fun(y0,y1,y2)=>y0.natAbs + y1.length + y2.length
 fix:=fun(_,y1,_) (y0,_,y2)=>(y0,y1,y2)
 σ:= [(0,0),(1,320)]
 rd:=GY
theorem Vr:LoopOk Tryz.prog (fun k=>Nat.blt k Tryz.f189.ntmps) ez.F (aD Tryz.f189 0):=by
 refine Lp.ok (tbl:= []) (lf:= []) ay ez (by kernel_rfl) (LOk.nil _) (fun _=>rfl) (fun _ _=>rfl) ?_ ?_ ?_ ?_ (fun _=>rfl) ?_
 ·intro x;obtain⟨y0,y1,y2⟩:=x;kernel_rfl
 ·intro x;obtain⟨y0,y1,y2⟩:=x;kernel_rfl
 ·intro s x h
  have h:GY s=some x:=h
  unfold GY at h
  repeat' split at h
  all_goals cases h
  exact⟨aa (by assumption) rfl (aa (by assumption) rfl (aa (by assumption) rfl (rfl))),ac rfl (by assumption) rfl (ac rfl (by assumption) rfl (rfl))⟩
 ·intro x;obtain⟨y0,y1,y2⟩:=x;kernel_rfl
 ·intro x z;obtain⟨y0,y1,y2⟩:=x;exact(And.intro rfl trivial)
section
variable (x0:List Int)
def Gu:Int×List Int×List Int:=((0:Int),x0,List.replicate (Int.toNat (↑x0.length:Int)) (0:Int))
def HI:List Int:=(Lp.res ez (Gu x0)).2.2.2
def HJ:Bool:=allT [leI (0:Int) (↑x0.length:Int),leI (↑x0.length:Int) (↑x0.length:Int),leI ((↑(8:Nat):Int) * (↑x0.length:Int)) (281474976710656:Int),leI (↑x0.length:Int) (9223372036854775807:Int),Lp.fin ez (Gu x0)]
end
def Uv:List SV→List Entry→Option Out
 | [.one ⟨false,[.ref 0]⟩],[.row false 2 (.int .i64) x0]=>some ⟨(.one ⟨false,[(.ref 1)]⟩),[(.row false 2 amU x0)],[(.row true 2 amU (HI x0))],[(HJ x0)]⟩
 |_,_=>none
def ad8:PF Tryz.prog:=PF.ofG Tryz.prog [] [ez.F] ay 189 Tryz.f189 Tryz.func189 (LOk.fnT (l:= [aD Tryz.f189 0]) (by kernel_rfl) (.cons Vr (.nil _))) Uv (by
 intro vs es r h;unfold Uv at h;split at h
 ·cases h;kernel_rfl
 ·cases h)
abbrev i0:=Int×List Int×List Int
section
variable (y0:Int)(y1 y2:List Int)
def sR:Bool:=ltI y0 (↑y1.length:Int)
def sS:Bool:=leI (0:Int) y0
def xL:Bool:=ltN y0.toNat y1.length
def xM:Bool:=ltI y0 (↑y2.length:Int)
def xN:Bool:=ltN y0.toNat y2.length
def xO:Bool:=Option.getD y1[Int.toNat y0]? (0:Int)!=Option.getD y2[Int.toNat y0]? (0:Int)
def xP:Int:=IntKind.wrap .i64 (y0 + (1:Int))
end
def XZ:i0→List (Nat×SV)
 |(y0,_,_)=> [(5,(.one ⟨false,[(.val (.int .i64 y0))]⟩)),(0,(.one ⟨false,[(.ref 0)]⟩)),(1,(.one ⟨false,[(.ref 1)]⟩))]
def XQ:i0→List (Nat×Entry)
 |(_,y1,y2)=> [(0,(.row false 2 amU y1)),(1,(.row false 2 amU y2))]
def Yr:Nat→i0→List (Nat×SV)
 |0,(_,_,_)=> [(4,(.one ⟨false,[(.val (.bool false))]⟩))]
 |_,(_,_,_)=> []
def Yi:Nat→i0→List (Nat×Entry)
 |0,(_,y1,y2)=> [(0,(.row false 2 amU y1)),(1,(.row false 2 amU y2))]
 |_,(_,y1,y2)=> [(0,(.row false 2 amU y1)),(1,(.row false 2 amU y2))]
def vV:i0→LT i0
 |(y0,y1,y2)=> .ite (sR y0 y1) (.need [(sS y0),(sR y0 y1),(xL y0 y1),(sS y0),(xM y0 y2),(xN y0 y2)] (.ite (xO y0 y1 y2) (.ext 0 [(0,0),(1,1)]) (.nrm ((xP y0),y1,y2) [(0,0),(1,1)]))) (.ext 1 [(0,0),(1,1)])
def GX(s:St):Option i0:=
 (match s.look 5 with
 |some ⟨none,(.one ⟨false,[(.val (.int .i64 y0))]⟩)⟩=>
 (match s.look 0 with
 |some ⟨none,(.one ⟨false,[(.ref 0)]⟩)⟩=>
 (match s.look 1 with
 |some ⟨none,(.one ⟨false,[(.ref 1)]⟩)⟩=>
 (match s.ent 0 with
 |some (.row false 2 (.int .i64) y1)=>
 (match s.ent 1 with
 |some (.row false 2 (.int .i64) y2)=>
 some (y0,y1,y2)
 |_=>none)
 |_=>none)
 |_=>none)
 |_=>none)
 |_=>none)
def du:Lp i0 where
 h:=⟨[11,12,13,14,17,18,19,20,21,22,23,24,25,4,15,16,5],[0,1],[],[]⟩
 JL:=XZ
 JE:=XQ
 XL:=Yr
 XE:=Yi
 q:=fun j=>match j with | 0=> .ret | _=> .exit 0
 tags:= [0,1]
 lt:=vV
 fuel:=fun(y0,y1,y2)=>y0.natAbs + y1.length + y2.length
 fix:=fun(_,y1,y2) (y0,_,_)=>(y0,y1,y2)
 σ:= [(0,0),(1,1)]
 rd:=GX
theorem Vq:LoopOk Tryz.prog (fun k=>Nat.blt k Tryz.f46.ntmps) du.F (aD Tryz.f46 0):=by
 refine Lp.ok (tbl:= []) (lf:= []) ay du (by kernel_rfl) (LOk.nil _) (fun _=>rfl) (fun j _=>by unfold du;match j with | 0=>rfl | _ + 1=>rfl) ?_ ?_ ?_ ?_ (fun _=>rfl) ?_
 ·intro x;obtain⟨y0,y1,y2⟩:=x;kernel_rfl
 ·intro x;obtain⟨y0,y1,y2⟩:=x;kernel_rfl
 ·intro s x h
  have h:GX s=some x:=h
  unfold GX at h
  repeat' split at h
  all_goals cases h
  exact⟨aa (by assumption) rfl (aa (by assumption) rfl (aa (by assumption) rfl (rfl))),ac rfl (by assumption) rfl (ac rfl (by assumption) rfl (rfl))⟩
 ·intro x;obtain⟨y0,y1,y2⟩:=x;kernel_rfl
 ·intro x z;obtain⟨y0,y1,y2⟩:=x;exact(And.intro (And.intro trivial rfl) trivial)
section
variable (x0 x1:List Int)
def Gs:Bool:=(↑x0.length:Int)!=(↑x1.length:Int)
def Gt:Int×List Int×List Int:=((0:Int),x0,x1)
def HC:Bool:=bif Gs x0 x1 then false else bif Nat.beq ((Lp.res du (Gt x0 x1)).1) (0:Nat)then false else true
def HD:Bool:=allT [Gs x0 x1||Lp.fin du (Gt x0 x1)]
end
def Ut:List SV→List Entry→Option Out
 | [.one ⟨false,[.ref 0]⟩,.one ⟨false,[.ref 1]⟩],[.row false 2 (.int .i64) x0,.row false 2 (.int .i64) x1]=>some ⟨(.one ⟨false,[(.val (.bool (HC x0 x1)))]⟩),[(.row false 2 amU x0),(.row false 2 amU x1)],[],[(HD x0 x1)]⟩
 |_,_=>none
def ad6:PF Tryz.prog:=PF.ofG Tryz.prog [] [du.F] ay 46 Tryz.f46 Tryz.func46 (LOk.fnT (l:= [aD Tryz.f46 0]) (by kernel_rfl) (.cons Vq (.nil _))) Ut (by
 intro vs es r h;unfold Ut at h;split at h
 ·cases h;kernel_rfl
 ·cases h)
end Go.SX

namespace Go.SX
open Go.Proofs
set_option maxRecDepth 100000
def blk(p:Int):Int:=Int.tdiv p 3
def phs(p:Int):Int:=Int.tmod p 3
def inR(a lo hi:Int):Bool:=leI lo a&&leI a hi
def isT(n:Int)(ps:List Int):Bool:=inR n 2 8&&inR ps.length 1 4&&ps.all fun p=>inR p 0 (3 * n - 1)
def To(n p b:Int):Bool:=blk p==b||(phs p==2&&Int.tmod (blk p + 1) n==b)
def TG(n:Int)(ps:List Int)(b:Int):Nat:=ps.countP fun p=>To n p b
def eqL(xs ys:List Int):Bool:=decide (xs=ys)
theorem pF{a lo hi:Int}:inR a lo hi=true↔lo≤a∧a≤hi:=by simp [inR]
theorem rY(a lo hi:Int):(bif leI lo a then leI a hi else false)=inR a lo hi:=by
 unfold inR;cases leI lo a <;> rfl
theorem yK{n:Int}{ps:List Int}:isT n ps=true↔(2≤n∧n≤8)∧(1≤ps.length∧ps.length≤4)∧ ∀ p∈ps,0≤p∧p≤3 * n - 1:=by
 simp only [isT,Bool.and_eq_true,pF,List.all_eq_true]
 constructor
 ·rintro⟨⟨h1,h2⟩,h3⟩;exact⟨h1,by omega,h3⟩
 ·rintro⟨h1,h2,h3⟩;exact⟨⟨h1,by omega⟩,h3⟩
def rF(y1 b:Int):(Unit)→Nat ⊕ (Unit)
 |_=>(bif(!aJ b (0:Int) (IntKind.wrap .i64 (IntKind.wrap .i64 ((3:Int) * y1) - (1:Int))))then(.inl 0)else(.inr ()))
def ny(y1:Int)(y2:List Int)(i:Nat):(Unit)→iy
 |_=>((i:Int),y1,y2)
def FI:iy→Unit
 |(_,_,_)=>()
theorem YN(y1:Int)(y2:List Int) (hn:y2.length≤9223372036854775807):
  cV.fin ((0:Int),y1,y2)=true∧cV.res ((0:Int),y1,y2)=((aq (rF y1) 1 y2 0 ()).1,(ny y1 y2) (aq (rF y1) 1 y2 0 ()).2.1 (aq (rF y1) 1 y2 0 ()).2.2):=by
 have key:=cV.along (ny y1 y2) FI (rF y1) 1 (fun _ _=>True) y2 () (by trivial) (by simp only [cV,ny];omega) (fun i b a hb hI=> ?_) (fun a hI=> ?_)
 ·exact key
 ·obtain⟨⟩:=a
  have hlt:=(List.getElem?_eq_some_iff.1 hb).1
  have hget: ∀ d,Option.getD y2[i]? d=b:=fun d=>by rw [hb];rfl
  have hw:=qG hlt hn
  have hdec:ltI (i:Int) (y2.length:Int)=true:=db (by omega)
  have hnn:leI (0:Int) (i:Int)=true:=bZ (by omega)
  have hltd:ltN i y2.length=true:=dK hlt
  refine⟨?_,?_,?_,?_⟩
  ·simp [rQ,wb,wc,wd,we,ui,cV,LT.nds,allT,ny,hdec,hnn,hltd,hget]
  ·simp [rQ,wb,wc,wd,we,ui,cV,LT.each,ny,FI,hw]
  ·simp only [rQ,wb,wc,wd,we,ui,cV,LT.fn,ny,FI,rF,Int.toNat_natCast,hdec,hnn,hltd,hget,cond_true,Bool.cond_self]
  ·exact fun _ _=>trivial
 ·obtain⟨⟩:=a
  simp [rQ,wb,wc,wd,we,ui,cV,LT.out,ny]
def ex(y2 b:Int):(Unit)→Nat ⊕ (Unit)
 |_=>(bif(yJ b y2)then(.inl 0)else(.inr ()))
def bO(y2:Int)(y3:List Int)(i:Nat):(Unit)→bo
 |_=>((i:Int),(↑y3.length:Int),y2,y3)
def nY:bo→Unit
 |(_,_,_,_)=>()
theorem He(y2:Int)(y3:List Int) (hn:y3.length≤9223372036854775807):
  ax.fin ((0:Int),(↑y3.length:Int),y2,y3)=true∧ax.res ((0:Int),(↑y3.length:Int),y2,y3)=((aq (ex y2) 1 y3 0 ()).1,(bO y2 y3) (aq (ex y2) 1 y3 0 ()).2.1 (aq (ex y2) 1 y3 0 ()).2.2):=by
 have key:=ax.along (bO y2 y3) nY (ex y2) 1 (fun _ _=>True) y3 () (by trivial) (by simp only [ax,bO];omega) (fun i b a hb hI=> ?_) (fun a hI=> ?_)
 ·exact key
 ·obtain⟨⟩:=a
  have hlt:=(List.getElem?_eq_some_iff.1 hb).1
  have hget: ∀ d,Option.getD y3[i]? d=b:=fun d=>by rw [hb];rfl
  have hw:=qG hlt hn
  have hdec:ltI (i:Int) (y3.length:Int)=true:=db (by omega)
  have hnn:leI (0:Int) (i:Int)=true:=bZ (by omega)
  have hltd:ltN i y3.length=true:=dK hlt
  refine⟨?_,?_,?_,?_⟩
  ·simp [gu,gv,gw,gx,gy,gz,ge,ax,LT.nds,allT,bO,hdec,hnn,hltd,hget]
  ·simp [gu,gv,gw,gx,gy,gz,ge,ax,LT.each,bO,nY,hw]
  ·simp only [gu,gv,gw,gx,gy,gz,ge,ax,LT.fn,bO,nY,ex,Int.toNat_natCast,hdec,hnn,hltd,hget,cond_true,Bool.cond_self]
  ·exact fun _ _=>trivial
 ·obtain⟨⟩:=a
  simp [gu,gv,gw,gx,gy,gz,ge,ax,LT.out,bO]
def pR(y1:List Int)(b:Nat):(List Int)→Nat ⊕ (List Int)
 |y2=>(.inr (List.set y2 b (Option.getD y1[b]? (0:Int))))
def lC(y1:List Int)(i:Nat):(List Int)→i4
 |y2=>((i:Int),y1,y2)
def GP:i4→List Int
 |(_,_,y2)=>y2
theorem aaN(y1 y2:List Int)(hn:y1.length≤9223372036854775807)(hl:y2.length=y1.length):
  ez.fin ((0:Int),y1,y2)=true∧ez.res ((0:Int),y1,y2)=((aq (pR y1) 0 (List.range y1.length) 0 y2).1,(lC y1) (aq (pR y1) 0 (List.range y1.length) 0 y2).2.1 (aq (pR y1) 0 (List.range y1.length) 0 y2).2.2):=by
 have key:=ez.along (lC y1) GP (pR y1) 0 (fun _ a=>a.length=y1.length) (List.range y1.length) y2 hl (by simp only [ez,lC,List.length_range];omega) (fun i b a hb hI=> ?_) (fun a hI=> ?_)
 ·exact key
 ·obtain y2:=a
  obtain⟨rfl,hlt⟩:=gV hb
  have hw:IntKind.i64.wrap ((b:Int) + 1)=((b + 1:Nat):Int):=by rw [bp (by omega) (by omega)];omega
  have hdec:ltI (b:Int) (y1.length:Int)=true:=db (by omega)
  have hnn:leI (0:Int) (b:Int)=true:=bZ (by omega)
  have hltd:ltN b y1.length=true:=dK (by omega)
  refine⟨?_,?_,?_,?_⟩
  ·simp [sX,sY,xR,xS,xT,xU,xV,vW,ez,LT.nds,allT,lC,hdec,hnn,hltd,hI]
  ·simp [sX,sY,xR,xS,xT,xU,xV,vW,ez,LT.each,lC,GP,hw,hI]
  ·simp only [sX,sY,xR,xS,xT,xU,xV,vW,ez,LT.fn,lC,GP,pR,Int.toNat_natCast,hdec,cond_true]
  ·intro a' hf;simp only [pR,Sum.inr.injEq]at hf;subst hf;simpa using hI
 ·obtain y2:=a
  simp [sX,sY,xR,xS,xT,xU,xV,vW,ez,LT.out,lC,List.length_range]
def xa(y1 y2:List Int)(b:Nat):(Unit)→Nat ⊕ (Unit)
 |_=>(bif(Option.getD y1[b]? (0:Int)!=Option.getD y2[b]? (0:Int))then(.inl 0)else(.inr ()))
def oP(y1 y2:List Int)(i:Nat):(Unit)→i0
 |_=>((i:Int),y1,y2)
def GO:i0→Unit
 |(_,_,_)=>()
theorem aaM(y1 y2:List Int) (hn:y1.length≤9223372036854775807) (he:y2.length=y1.length):
  du.fin ((0:Int),y1,y2)=true∧du.res ((0:Int),y1,y2)=((aq (xa y1 y2) 1 (List.range y1.length) 0 ()).1,(oP y1 y2) (aq (xa y1 y2) 1 (List.range y1.length) 0 ()).2.1 (aq (xa y1 y2) 1 (List.range y1.length) 0 ()).2.2):=by
 have key:=du.along (oP y1 y2) GO (xa y1 y2) 1 (fun _ _=>True) (List.range y1.length) () (by trivial) (by simp only [du,oP,List.length_range];omega) (fun i b a hb hI=> ?_) (fun a hI=> ?_)
 ·exact key
 ·obtain⟨⟩:=a
  obtain⟨rfl,hlt⟩:=gV hb
  have hw:IntKind.i64.wrap ((b:Int) + 1)=((b + 1:Nat):Int):=by rw [bp (by omega) (by omega)];omega
  have hdec:ltI (b:Int) (y1.length:Int)=true:=db (by omega)
  have hnn:leI (0:Int) (b:Int)=true:=bZ (by omega)
  have hltd:ltN b y1.length=true:=dK (by omega)
  refine⟨?_,?_,?_,?_⟩
  ·simp [sR,sS,xL,xM,xN,xO,xP,vV,du,LT.nds,allT,oP,hdec,hnn,hltd,he]
  ·simp [sR,sS,xL,xM,xN,xO,xP,vV,du,LT.each,oP,GO,hw,he]
  ·simp only [sR,sS,xL,xM,xN,xO,xP,vV,du,LT.fn,oP,GO,xa,Int.toNat_natCast,hdec,cond_true]
  ·exact fun _ _=>trivial
 ·obtain⟨⟩:=a
  simp [sR,sS,xL,xM,xN,xO,xP,vV,du,LT.out,oP,List.length_range]
theorem akg(xs:List Int)(hn:leN xs.length 1048576=true):HI xs=xs∧HJ xs=true:=by
 have hn:=eP.1 hn
 have hr:(List.replicate (Int.toNat (xs.length:Int)) (0:Int)).length=xs.length:=by simp
 obtain⟨w1,w2⟩:=aaN xs (List.replicate (Int.toNat (xs.length:Int)) (0:Int)) (by omega) hr
 have hc:=Gy (xs:=xs) (d:=(0:Int)) (g:=fun x=>x) (f:=pR xs) (e:=0) (fun b a=>rfl) hr
 rw [hc]at w2
 refine⟨?_,?_⟩
 ·simp only [Gu,HI,HJ,w2,lC];simp
 ·simp only [Gu,HI,HJ,w1,allT];simp;omega
def UF:List SV→List Entry→Option Out
 | [.one ⟨false,[.ref 0]⟩],[.row false 2 (.int .i64) x0]=>some ⟨(.one ⟨false,[(.ref 1)]⟩),[(.row false 2 amU x0)],[(.row true 2 amU x0)],[leN x0.length 1048576]⟩
 |_,_=>none
def pJ:PF Tryz.prog:=PF.alt ad8 UF (by
 intro args es o h hnd;unfold UF at h;split at h
 ·rename_i x0
  cases h
  have hnd:=eD hnd
  have hh:=akg x0 hnd
  obtain⟨e0,en⟩:=hh
  exact gW rfl (eN en) rfl rfl (by simp only [e0] <;> rfl)
 ·cases h)
theorem ajL(xs ys:List Int)(hn:leN xs.length 9223372036854775807=true):HC xs ys=eqL xs ys∧HD xs ys=true:=by
 have hn:=eP.1 hn
 unfold eqL
 by_cases hl:ys.length=xs.length
 ·obtain⟨w1,w2⟩:=aaM xs ys hn hl
  have ha:=aah (d:=(0:Int)) hl (P:=fun b=>Option.getD xs[b]? 0 !=Option.getD ys[b]? 0) (fun b=>by simp [bne,BEq.beq])
  rw [iq (P:=fun b=>Option.getD xs[b]? 0 !=Option.getD ys[b]? 0) (j:=0) (fun b=>rfl),ha]at w2
  simp only [Gs,Gt,HC,HD,w1,w2,allT]
  by_cases he:xs=ys
  ·subst he;simp;decide
  ·simp [he,hl]
 ·have hne:xs≠ys:=fun h=>hl (by rw [h])
  simp [Gs,Gt,HC,HD,allT,hne]
  omega
def UD:List SV→List Entry→Option Out
 | [.one ⟨false,[.ref 0]⟩,.one ⟨false,[.ref 1]⟩],[.row false 2 (.int .i64) x0,.row false 2 (.int .i64) x1]=>some ⟨(.one ⟨false,[(.val (.bool (eqL x0 x1)))]⟩),[(.row false 2 amU x0),(.row false 2 amU x1)],[],[leN x0.length 9223372036854775807]⟩
 |_,_=>none
def pH:PF Tryz.prog:=PF.alt ad6 UD (by
 intro args es o h hnd;unfold UD at h;split at h
 ·rename_i x0 x1
  cases h
  have hnd:=eD hnd
  have hh:=ajL x0 x1 hnd
  obtain⟨e0,en⟩:=hh
  exact gW rfl (eN en) (by simp only [e0] <;> rfl) rfl rfl
 ·cases h)
def szV(k:Int)(xs:List Int):Int:=bif ltI (k - xs.length) 0 then -1 else k - xs.length
theorem akd(k:Int)(xs:List Int)(h:(leN xs.length 9223372036854775807&&(leI (-1) k&&leI k 1048576))=true):Na k xs=szV k xs:=by
 simp only [Bool.and_eq_true,eP,JH]at h
 simp only [Lv,Na,szV]
 rw [bp (by omega) (by omega)]
def UE:List SV→List Entry→Option Out
 | [.one ⟨false,[.ref 0]⟩,.one ⟨false,[.val (.int .i64 x0)]⟩],[.row false 2 (.int .i64) x1]=>some ⟨(.one ⟨false,[(.val (.int .i64 (szV x0 x1)))]⟩),[(.row false 2 amU x1)],[],[leN x1.length 9223372036854775807&&(leI (-1) x0&&leI x0 1048576)]⟩
 |_,_=>none
def pI:PF Tryz.prog:=PF.alt ad7 UE (by
 intro args es o h hnd;unfold UE at h;split at h
 ·rename_i x0 x1
  cases h
  have hnd:=eD hnd
  have hh:=akd x0 x1 hnd
  have e0:=hh
  exact gW rfl (fun _ h=>by cases h) (by simp only [e0] <;> rfl) rfl rfl
 ·cases h)
theorem adO{n:Int}(h:2≤n∧n≤8):IntKind.i64.wrap (IntKind.i64.wrap (3 * n) - 1)=3 * n - 1:=by
 rw [bp (x:=3 * n) (by omega) (by omega),bp (by omega) (by omega)]
theorem ai9(n:Int)(ps:List Int):LU n ps=isT n ps∧LV n ps=true:=by
 simp only [Kp,Kq,LU,LV,aJ,rY,isT]
 cases h1:inR n 2 8 with
 |false=>simp [allT]
 |true=>
  cases h2:inR (ps.length:Int) 1 4 with
  |false=>simp [allT]
  |true=>
   have h2':=pF.1 h2
   obtain⟨w1,w2⟩:=YN n ps (by omega)
   rw [iq (P:=fun b=> !inR b 0 (3 * n - 1)) (j:=0) (fun b=>by simp only [rF,adO (pF.1 h1),aJ,rY])]at w2
   have e5:(ps.any fun b=> !inR b 0 (3 * n - 1))= !(ps.all fun b=>inR b 0 (3 * n - 1)):=by simp [List.all_eq_not_any_not]
   rw [e5]at w2
   simp only [w1,w2,allT]
   cases (ps.all fun b=>inR b 0 (3 * n - 1)) <;> simp <;> rfl
def Su:List SV→List Entry→Option Out
 | [.one ⟨true,[.val (.int .i64 x0),.ref 0]⟩],[.row false 2 (.int .i64) x1]=>some ⟨(.one ⟨false,[(.val (.bool (isT x0 x1)))]⟩),[(.row false 2 amU x1)],[],[]⟩
 |_,_=>none
def wF:PF Tryz.prog:=PF.alt adb Su (by
 intro args es o h hnd;unfold Su at h;split at h
 ·rename_i x0 x1
  cases h
  have hh:=ai9 x0 x1
  obtain⟨e0,en⟩:=hh
  exact gW rfl (eN en) (by simp only [e0] <;> rfl) rfl rfl
 ·cases h)
theorem ahv(n:Int)(h:2≤n∧n≤8)(ps:List Int)(hn:ps.length≤9223372036854775807):
  jz ps n=(ps.any fun b=> !inR b 0 (3 * n - 1))∧jA ps n=true:=by
 obtain⟨w1,w2⟩:=He n ps hn
 rw [iq (P:=fun b=> !inR b 0 (3 * n - 1)) (j:=0) (fun b=>by simp only [ex,yJ,adO h,aZ,rY])]at w2
 simp only [jz,v8,jA,kD,pW,qC,qD,qE,w1,w2,allT,cond_true,and_true,bO]
 cases (ps.any fun b=> !inR b 0 (3 * n - 1))with
 |true=>exact bZ (Int.natCast_nonneg _)
 |false=>rfl
theorem aiM(n:Int)(ps:List Int):Li n ps=isT n ps∧Lj n ps=true:=by
 simp only [Jo,Li,Lj,GF,aZ,cJ,rY,isT]
 cases h1:inR n 2 8 with
 |false=>simp [allT]
 |true=>
  cases h2:inR (ps.length:Int) 1 4 with
  |false=>simp [allT]
  |true=>
   have h2':=pF.1 h2
   obtain⟨c1,c2⟩:=ahv n (pF.1 h1) ps (by omega)
   simp only [c1,c2,allT]
   simp [List.all_eq_not_any_not]
def Si:List SV→List Entry→Option Out
 | [.one ⟨true,[.val (.int .i64 x0),.ref 0]⟩],[.row false 2 (.int .i64) x1]=>some ⟨(.one ⟨false,[(.val (.bool (isT x0 x1)))]⟩),[(.row false 2 amU x1)],[],[]⟩
 |_,_=>none
def wB:PF Tryz.prog:=PF.alt acY Si (by
 intro args es o h hnd;unfold Si at h;split at h
 ·rename_i x0 x1
  cases h
  have hh:=aiM x0 x1
  obtain⟨e0,en⟩:=hh
  exact gW rfl (eN en) (by simp only [e0] <;> rfl) rfl rfl
 ·cases h)
def GC(ps:List Int)(t:Int):Bool:=inR t 0 ((ps.length:Int) - 1)
theorem Or{ps:List Int}{t:Int}:GC ps t=true↔0≤t∧t < ps.length:=by
 rw [GC,pF];omega
theorem ahD(t:Int)(ps:List Int)(h:leN ps.length 9223372036854775807=true):ka t ps=GC ps t:=by
 have h:=eP.1 h
 simp only [ka,aZ,cJ,GC,rY]
 rw [bp (x:=(ps.length:Int) - 1) (by omega) (by omega)]
def qJ:List SV→List Entry→Option Out
 | [.one ⟨true,[.val (.int .i64 _x0),.ref 0]⟩,.one ⟨false,[.val (.int .i64 x1)]⟩],[.row false 2 (.int .i64) x2]=>some ⟨(.one ⟨false,[(.val (.bool (GC x2 x1)))]⟩),[(.row false 2 amU x2)],[],[leN x2.length 9223372036854775807]⟩
 |_,_=>none
def kb:PF Tryz.prog:=PF.alt CZ qJ (by
 intro args es o h hnd;unfold qJ at h;split at h
 ·rename_i _x0 x1 x2
  cases h
  have hnd:=eD hnd
  have hh:=ahD x1 x2 hnd
  have e0:=hh
  exact gW rfl (fun _ h=>by cases h) (by simp only [e0] <;> rfl) rfl rfl
 ·cases h)
theorem akl(xs:List Int)(h:(leN 1 xs.length&&leN xs.length 1048576)=true):ym xs=true:=by
 simp only [Bool.and_eq_true,eP]at h
 simp [ym,allT]
 omega
def Ft:List SV→List Entry→Option Out
 | [.one ⟨false,[.ref 0]⟩],[.row false 2 (.int .i64) x0]=>some ⟨(.one ⟨false,[(.ref 1)]⟩),[(.row false 2 amU x0)],[(.row true 2 amU x0)],[leN 1 x0.length&&leN x0.length 1048576]⟩
 |_,_=>none
def ai:PF Tryz.prog:=PF.alt Pg Ft (by
 intro args es o h hnd;unfold Ft at h;split at h
 ·rename_i x0
  cases h
  have hnd:=eD hnd
  have hh:=akl x0 hnd
  have en:=hh
  exact gW rfl (eN en) rfl rfl rfl
 ·cases h)
theorem al7(xs:List Int)(h:leN xs.length 1048576=true):RA xs=true:=by
 have h:=eP.1 h
 simp [RA,allT]
 omega
def Zo:List SV→List Entry→Option Out
 | [.one ⟨false,[.ref 0]⟩],[.row false 2 (.int .i64) x0]=>some ⟨(.one ⟨false,[(.ref 1)]⟩),[(.row false 2 amU x0)],[(.row true 2 amU x0)],[leN x0.length 1048576]⟩
 |_,_=>none
def nC:PF Tryz.prog:=PF.alt afQ Zo (by
 intro args es o h hnd;unfold Zo at h;split at h
 ·rename_i x0
  cases h
  have hnd:=eD hnd
  have hh:=al7 x0 hnd
  have en:=hh
  exact gW rfl (eN en) rfl rfl rfl
 ·cases h)
def okP(n p:Int):Bool:=inR n 2 8&&inR p 0 (3 * n - 1)
theorem ael{n p:Int}:okP n p=true↔(2≤n∧n≤8)∧0≤p∧p≤3 * n - 1:=by simp [okP,pF]
theorem aeh{n:Int}{ps:List Int}(h:isT n ps=true){p:Int}(hp:p∈ps):okP n p=true:=by
 obtain⟨h1,_,h3⟩:=yK.1 h
 exact ael.2 ⟨h1,h3 p hp⟩
theorem acr{p:Int}(h:0≤p):blk p=p / 3:=by rw [blk,Int.tdiv_eq_ediv_of_nonneg h]
theorem alR(n p b:Int)(h:okP n p=true):Pz n p b=To n p b∧Kw n p b=true:=by
 obtain⟨⟨h1,h2⟩,h3,h4⟩:=ael.1 h
 have e1:IntKind.i64.wrap (Int.tdiv p 3)=blk p:=by
  rw [Int.tdiv_eq_ediv_of_nonneg h3,acr h3,bp (by omega) (by omega)]
 have e2:IntKind.i64.wrap (blk p + 1)=blk p + 1:=by rw [acr h3,bp (by omega) (by omega)]
 refine⟨?_,?_⟩
 ·simp only [Ea,HR,Pz,Kw,e1,e2,To,phs]
  cases (blk p==b) <;> cases (Int.tmod p 3==2) <;> simp
 ·have hn:neI n 0=true:=agh (by omega)
  simp [Kw,allT,hn]
def Wq:List SV→List Entry→Option Out
 | [.one ⟨false,[.val (.int .i64 x0)]⟩,.one ⟨false,[.val (.int .i64 x1)]⟩,.one ⟨false,[.val (.int .i64 x2)]⟩],[]=>some ⟨(.one ⟨false,[(.val (.bool (To x0 x1 x2)))]⟩),[],[],[okP x0 x1]⟩
 |_,_=>none
def Xe:PF Tryz.prog:=PF.alt afa Wq (by
 intro args es o h hnd;unfold Wq at h;split at h
 ·rename_i x0 x1 x2
  cases h
  have hnd:=eD hnd
  have hh:=alR x0 x1 x2 hnd
  obtain⟨e0,en⟩:=hh
  exact gW rfl (eN en) (by simp only [e0] <;> rfl) rfl rfl
 ·cases h)
end Go.SX

namespace Go.SX
open Go.Proofs
set_option maxRecDepth 100000
def fe(x1:List Int):Bool:=allT [leN (1:Nat) x1.length&&leN x1.length (1048576:Nat)]
def sb:List SV→List Entry→Option Out
 | [.one ⟨true,[.val (.int .i64 x0),.ref 0]⟩],[.row false 2 (.int .i64) x1]=>some ⟨(.one ⟨true,[(.val (.int .i64 x0)),(.ref 1)]⟩),[(.row false 2 amU x1)],[(.row true 2 amU x1)],[(fe x1)]⟩
 |_,_=>none
def bj:PF Tryz.prog:=PF.ofG Tryz.prog [ai,PF.lend ai,PF.fz ai] [] ay 146 Tryz.f146 Tryz.func146 (fun c _=>LOk.nil c) sb (by
 intro vs es r h;unfold sb at h;split at h
 ·cases h;kernel_rfl
 ·cases h)
section
variable (x0 x1:Int)(x2:List Int)
def gX:Int:=IntKind.wrap .i64 ((3:Int) * x0)
def ib:List Int:=List.set x2 x1.toNat (Int.tmod (IntKind.wrap .i64 (Option.getD x2[Int.toNat x1]? (0:Int) + (1:Int))) (gX x0))
def ic:Bool:=allT [fe x2,leI (0:Int) x1,ltI x1 (↑x2.length:Int),ltN x1.toNat x2.length,neI (gX x0) (0:Int),leI (0:Int) x1,ltI x1 (↑x2.length:Int),ltN x1.toNat x2.length]
end
def sc:List SV→List Entry→Option Out
 | [.one ⟨true,[.val (.int .i64 x0),.ref 0]⟩,.one ⟨false,[.val (.int .i64 x1)]⟩],[.row false 2 (.int .i64) x2]=>some ⟨(.one ⟨true,[(.val (.int .i64 x0)),(.ref 1)]⟩),[(.row false 2 amU x2)],[(.row true 2 amU (ib x0 x1 x2))],[(ic x0 x1 x2)]⟩
 |_,_=>none
def EE:PF Tryz.prog:=PF.ofG Tryz.prog [bj,PF.lend bj,PF.fz bj] [] ay 204 Tryz.f204 Tryz.func204 (fun c _=>LOk.nil c) sc (by
 intro vs es r h;unfold sc at h;split at h
 ·cases h;kernel_rfl
 ·cases h)
abbrev i5:=Int×Int×Int×Int×List Int
section
variable (y0 y1 y2 y3:Int)(y4:List Int)
def rR:Int:=Option.getD y4[Int.toNat y0]? (0:Int)
def tc:Bool:=ltI y0 (↑y4.length:Int)
def yt:Bool:=leI (0:Int) y0
def yu:Bool:=ltN y0.toNat y4.length
def yw:Bool:=okP y3 (rR y0 y4)
def yx:Int:=IntKind.wrap .i64 (y0 + (1:Int))
def yy:Int:=bif To y3 (rR y0 y4) y1 then IntKind.wrap .i64 (y2 + (1:Int))else y2
end
def Yc:i5→List (Nat×SV)
 |(y0,y1,y2,_,_)=> [(6,(.one ⟨false,[(.val (.int .i64 y0))]⟩)),(2,(.one ⟨false,[(.ptr 0 0)]⟩)),(1,(.one ⟨false,[(.val (.int .i64 y1))]⟩)),(5,(.one ⟨false,[(.val (.int .i64 y2))]⟩))]
def XT:i5→List (Nat×Entry)
 |(_,_,_,y3,y4)=> [(0,(.box 26 [(.val (.int .i64 y3)),(.ref 1)])),(1,(.row false 2 amU y4))]
def Yu:Nat→i5→List (Nat×SV)
 |_,(_,_,y2,_,_)=> [(5,(.one ⟨false,[(.val (.int .i64 y2))]⟩))]
def Yl:Nat→i5→List (Nat×Entry)
 |_,(_,_,_,y3,y4)=> [(0,(.box 26 [(.val (.int .i64 y3)),(.ref 1)])),(1,(.row false 2 amU y4))]
def vZ:i5→LT i5
 |(y0,y1,y2,y3,y4)=> .ite (tc y0 y4) (.need [(yt y0),(tc y0 y4),(yu y0 y4),(yw y0 y3 y4)] (.nrm ((yx y0),y1,(yy y0 y1 y2 y3 y4),y3,y4) [(0,0),(1,1)])) (.ext 0 [(0,0),(1,1)])
def Ha(s:St):Option i5:=
 (match s.look 6 with
 |some ⟨none,(.one ⟨false,[(.val (.int .i64 y0))]⟩)⟩=>
 (match s.look 2 with
 |some ⟨none,(.one ⟨false,[(.ptr 128 0)]⟩)⟩=>
 (match s.look 1 with
 |some ⟨none,(.one ⟨false,[(.val (.int .i64 y1))]⟩)⟩=>
 (match s.look 5 with
 |some ⟨none,(.one ⟨false,[(.val (.int .i64 y2))]⟩)⟩=>
 (match s.ent 128 with
 |some (.box 26 [(.val (.int .i64 y3)),(.ref 0)])=>
 (match s.ent 0 with
 |some (.row false 2 (.int .i64) y4)=>
 some (y0,y1,y2,y3,y4)
 |_=>none)
 |_=>none)
 |_=>none)
 |_=>none)
 |_=>none)
 |_=>none)
def eA:Lp i5 where
 h:=⟨[7,8,9,10,11,14,15,16,17,18,19,20,21,22,23,24,5,12,13,6],[0,1],[],[]⟩
 JL:=Yc
 JE:=XT
 XL:=Yu
 XE:=Yl
 q:=fun j=>match j with | _=> .exit 0
 tags:= [0]
 lt:=vZ
 fuel:=fun(y0,y1,y2,y3,y4)=>y0.natAbs + y1.natAbs + y2.natAbs + y3.natAbs + y4.length
 fix:=fun(_,y1,_,y3,y4) (y0,_,y2,_,_)=>(y0,y1,y2,y3,y4)
 σ:= [(0,128),(1,0)]
 rd:=Ha
theorem Vt:LoopOk Tryz.prog (fun k=>Nat.blt k Tryz.f175.ntmps) eA.F (aD Tryz.f175 0):=by
 refine Lp.ok (tbl:= [Xe]) (lf:= []) ay eA (by kernel_rfl) (LOk.nil _) (fun _=>rfl) (fun _ _=>rfl) ?_ ?_ ?_ ?_ (fun _=>rfl) ?_
 ·intro x;obtain⟨y0,y1,y2,y3,y4⟩:=x;kernel_rfl
 ·intro x;obtain⟨y0,y1,y2,y3,y4⟩:=x;kernel_rfl
 ·intro s x h
  have h:Ha s=some x:=h
  unfold Ha at h
  repeat' split at h
  all_goals cases h
  exact⟨aa (by assumption) rfl (aa (by assumption) rfl (aa (by assumption) rfl (aa (by assumption) rfl (rfl)))),ac rfl (by assumption) rfl (ac rfl (by assumption) rfl (rfl))⟩
 ·intro x;obtain⟨y0,y1,y2,y3,y4⟩:=x;kernel_rfl
 ·intro x z;obtain⟨y0,y1,y2,y3,y4⟩:=x;exact(And.intro rfl trivial)
section
variable (x0 x1:Int)(x2:List Int)
def Gw:Int×Int×Int×Int×List Int:=((0:Int),x1,(0:Int),x0,x2)
def HO:Int:=((Lp.res eA (Gw x0 x1 x2)).2.2.2).1
def HP:Bool:=allT [Lp.fin eA (Gw x0 x1 x2)]
end
def Ux:List SV→List Entry→Option Out
 | [.one ⟨true,[.val (.int .i64 x0),.ref 0]⟩,.one ⟨false,[.val (.int .i64 x1)]⟩],[.row false 2 (.int .i64) x2]=>some ⟨(.one ⟨false,[(.val (.int .i64 (HO x0 x1 x2)))]⟩),[(.row false 2 amU x2)],[],[(HP x0 x1 x2)]⟩
 |_,_=>none
def aea:PF Tryz.prog:=PF.ofG Tryz.prog [Xe] [eA.F] ay 175 Tryz.f175 Tryz.func175 (LOk.fnT (l:= [aD Tryz.f175 0]) (by kernel_rfl) (.cons Vt (.nil _))) Ux (by
 intro vs es r h;unfold Ux at h;split at h
 ·cases h;kernel_rfl
 ·cases h)
section
variable (x0 x1:Int)(x2:List Int)
def HQ:Int:=IntKind.wrap .i64 ((3:Int) * x0)
def Ku:List Int:=List.set x2 x1.toNat (Int.tmod (IntKind.wrap .i64 (Option.getD x2[Int.toNat x1]? (0:Int) + (1:Int))) (HQ x0))
def Kv:Bool:=allT [leN x2.length (1048576:Nat),leI (0:Int) x1,ltI x1 (↑x2.length:Int),ltN x1.toNat x2.length,neI (HQ x0) (0:Int),leI (0:Int) x1,ltI x1 (↑x2.length:Int),ltN x1.toNat x2.length]
end
def VJ:List SV→List Entry→Option Out
 | [.one ⟨true,[.val (.int .i64 x0),.ref 0]⟩,.one ⟨false,[.val (.int .i64 x1)]⟩],[.row false 2 (.int .i64) x2]=>some ⟨(.one ⟨true,[(.val (.int .i64 x0)),(.ref 1)]⟩),[(.row false 2 amU x2)],[(.row true 2 amU (Ku x0 x1 x2))],[(Kv x0 x1 x2)]⟩
 |_,_=>none
def ae9:PF Tryz.prog:=PF.ofG Tryz.prog [nC,PF.lend nC,PF.fz nC] [] ay 178 Tryz.f178 Tryz.func178 (fun c _=>LOk.nil c) VJ (by
 intro vs es r h;unfold VJ at h;split at h
 ·cases h;kernel_rfl
 ·cases h)
def Lw(x1:Int)(x2:List Int):Int:=bif ltI (szV x1 x2) (0:Int)then(-1:Int)else szV x1 x2
def Lx(x1:Int)(x2:List Int):Bool:=allT [leN x2.length (9223372036854775807:Nat)&&(leI (-1:Int) x1&&leI x1 (1048576:Int))]
def RO:List SV→List Entry→Option Out
 | [.one ⟨true,[.val (.int .i64 _x0),.ref 0]⟩,.one ⟨false,[.val (.int .i64 x1)]⟩],[.row false 2 (.int .i64) x2]=>some ⟨(.one ⟨false,[(.val (.int .i64 (Lw x1 x2)))]⟩),[(.row false 2 amU x2)],[],[(Lx x1 x2)]⟩
 |_,_=>none
def ac5:PF Tryz.prog:=PF.ofG Tryz.prog [pI,PF.lend pI,PF.fz pI] [] ay 104 Tryz.f104 Tryz.func104 (fun c _=>LOk.nil c) RO (by
 intro vs es r h;unfold RO at h;split at h
 ·cases h;kernel_rfl
 ·cases h)
def LA(x1:List Int):Bool:=allT [leN x1.length (1048576:Nat)]
def RR:List SV→List Entry→Option Out
 | [.one ⟨true,[.val (.int .i64 x0),.ref 0]⟩],[.row false 2 (.int .i64) x1]=>some ⟨(.one ⟨true,[(.val (.int .i64 x0)),(.ref 1)]⟩),[(.row false 2 amU x1)],[(.row true 2 amU x1)],[(LA x1)]⟩
 |_,_=>none
def ac8:PF Tryz.prog:=PF.ofG Tryz.prog [pJ,PF.lend pJ,PF.fz pJ] [] ay 110 Tryz.f110 Tryz.func110 (fun c _=>LOk.nil c) RR (by
 intro vs es r h;unfold RR at h;split at h
 ·cases h;kernel_rfl
 ·cases h)
def Lq(x0 x1:Int)(x2 x3:List Int):Bool:=bif x0 !=x1 then false else bif !eqL x2 x3 then false else true
def Lr(x0 x1:Int)(x2:List Int):Bool:=allT [x0 !=x1||leN x2.length (9223372036854775807:Nat)]
def RM:List SV→List Entry→Option Out
 | [.one ⟨true,[.val (.int .i64 x0),.ref 0]⟩,.one ⟨true,[.val (.int .i64 x1),.ref 1]⟩],[.row false 2 (.int .i64) x2,.row false 2 (.int .i64) x3]=>some ⟨(.one ⟨false,[(.val (.bool (Lq x0 x1 x2 x3)))]⟩),[(.row false 2 amU x2),(.row false 2 amU x3)],[],[(Lr x0 x1 x2)]⟩
 |_,_=>none
def ac3:PF Tryz.prog:=PF.ofG Tryz.prog [pH,PF.lend pH,PF.fz pH] [] ay 116 Tryz.f116 Tryz.func116 (fun c _=>LOk.nil c) RM (by
 intro vs es r h;unfold RM at h;split at h
 ·cases h;kernel_rfl
 ·cases h)
end Go.SX

namespace Go.SX
open Go.Proofs
set_option maxRecDepth 100000
def acO(n:Int)(ps:List Int)(t:Int):List Int:=ps.set t.toNat (Int.tmod (ps[t.toNat]?.getD 0 + 1) (3 * n))
theorem adL(n:Int)(ps:List Int)(t:Int):(acO n ps t).length=ps.length:=by simp [acO]
theorem alr{n:Int}{ps:List Int}(h:isT n ps=true)(t:Int):isT n (acO n ps t)=true:=by
 obtain⟨h1,h2,h3⟩:=yK.1 h
 refine yK.2 ⟨h1,by rw [adL];exact h2,fun p hp=> ?_⟩
 rcases List.mem_or_eq_of_mem_set hp with hp | rfl
 ·exact h3 p hp
 ·have h0:0≤ps[t.toNat]?.getD 0:=by
   cases hg:ps[t.toNat]? with
   |none=>simp
   |some q=>exact(h3 q (List.mem_of_getElem? hg)).1
  have:=Int.emod_lt_of_pos (ps[t.toNat]?.getD 0 + 1) (show 0 < 3 * n by omega)
  have:=Int.emod_nonneg (ps[t.toNat]?.getD 0 + 1) (show 3 * n≠0 by omega)
  rw [Int.tmod_eq_emod_of_nonneg (by omega)]
  omega
def SZ(n:Int)(ps:List Int)(t:Int):Bool:=isT n ps&&GC ps t
theorem abP{n:Int}{ps:List Int}{t:Int}:SZ n ps t=true↔isT n ps=true∧GC ps t=true:=by simp [SZ]
theorem acP{n:Int}{ps:List Int}{t:Int}(h:SZ n ps t=true):IntKind.i64.wrap (3 * n)=3 * n∧IntKind.i64.wrap (ps[t.toNat]?.getD 0 + 1)=ps[t.toNat]?.getD 0 + 1∧neI (3 * n) 0=true∧
  leI 0 t=true∧ltI t ps.length=true∧ltN t.toNat ps.length=true∧leN ps.length 1048576=true∧leN 1 ps.length=true:=by
 obtain⟨hT,ht⟩:=abP.1 h
 obtain⟨h1,h2,h3⟩:=yK.1 hT
 have h4:=Or.1 ht
 have hlt:t.toNat < ps.length:=by omega
 have hg:ps[t.toNat]?.getD 0=ps[t.toNat]:=by rw [List.getElem?_eq_getElem hlt];rfl
 have h5:=h3 _ (List.getElem_mem hlt)
 rw [hg]
 exact⟨bp (by omega) (by omega),bp (by omega) (by omega),agh (by omega),bZ h4.1,db h4.2,dK hlt,hY (by omega),hY h2.1⟩
theorem ah9(n t:Int)(ps:List Int)(h:SZ n ps t=true):Ku n t ps=acO n ps t∧Kv n t ps=true:=by
 obtain⟨e1,e2,e3,e4,e5,e6,e7,e8⟩:=acP h
 refine⟨?_,?_⟩
 ·simp only [HQ,Ku,Kv,e1,e2,acO]
 ·simp only [HQ,Ku,Kv,e1,e3,e4,e5,e6,e7,allT,cond_true]
def Wp:List SV→List Entry→Option Out
 | [.one ⟨true,[.val (.int .i64 x0),.ref 0]⟩,.one ⟨false,[.val (.int .i64 x1)]⟩],[.row false 2 (.int .i64) x2]=>some ⟨(.one ⟨true,[(.val (.int .i64 x0)),(.ref 1)]⟩),[(.row false 2 amU x2)],[(.row true 2 amU (acO x0 x2 x1))],[SZ x0 x2 x1]⟩
 |_,_=>none
def OV:PF Tryz.prog:=PF.alt ae9 Wp (by
 intro args es o h hnd;unfold Wp at h;split at h
 ·rename_i x0 x1 x2
  cases h
  have hnd:=eD hnd
  have hh:=ah9 x0 x1 x2 hnd
  obtain⟨e0,en⟩:=hh
  exact gW rfl (eN en) rfl rfl (by simp only [e0] <;> rfl)
 ·cases h)
theorem ahG(n t:Int)(ps:List Int)(h:SZ n ps t=true):ib n t ps=acO n ps t∧ic n t ps=true:=by
 obtain⟨e1,e2,e3,e4,e5,e6,e7,e8⟩:=acP h
 refine⟨?_,?_⟩
 ·simp only [gX,ib,ic,e1,e2,acO]
 ·simp only [gX,ib,ic,fe,e1,e3,e4,e5,e6,e7,e8,allT,cond_true,Bool.and_self]
def sd:List SV→List Entry→Option Out
 | [.one ⟨true,[.val (.int .i64 x0),.ref 0]⟩,.one ⟨false,[.val (.int .i64 x1)]⟩],[.row false 2 (.int .i64) x2]=>some ⟨(.one ⟨true,[(.val (.int .i64 x0)),(.ref 1)]⟩),[(.row false 2 amU x2)],[(.row true 2 amU (acO x0 x2 x1))],[SZ x0 x2 x1]⟩
 |_,_=>none
def lR:PF Tryz.prog:=PF.alt EE sd (by
 intro args es o h hnd;unfold sd at h;split at h
 ·rename_i x0 x1 x2
  cases h
  have hnd:=eD hnd
  have hh:=ahG x0 x1 x2 hnd
  obtain⟨e0,en⟩:=hh
  exact gW rfl (eN en) rfl rfl (by simp only [e0] <;> rfl)
 ·cases h)
theorem amd(ps:List Int)(h:leN ps.length 1048576=true):LA ps=true:=by simp only [LA,allT,h,cond_true]
def Sq:List SV→List Entry→Option Out
 | [.one ⟨true,[.val (.int .i64 x0),.ref 0]⟩],[.row false 2 (.int .i64) x1]=>some ⟨(.one ⟨true,[(.val (.int .i64 x0)),(.ref 1)]⟩),[(.row false 2 amU x1)],[(.row true 2 amU x1)],[leN x1.length 1048576]⟩
 |_,_=>none
def LL:PF Tryz.prog:=PF.alt ac8 Sq (by
 intro args es o h hnd;unfold Sq at h;split at h
 ·rename_i x0 x1
  cases h
  have hnd:=eD hnd
  have hh:=amd x1 hnd
  have en:=hh
  exact gW rfl (eN en) rfl rfl rfl
 ·cases h)
def eqT(n m:Int)(ps qs:List Int):Bool:=n==m&&eqL ps qs
theorem al0(n m:Int)(ps qs:List Int)(h:leN ps.length 9223372036854775807=true):Lq n m ps qs=eqT n m ps qs∧Lr n m ps=true:=by
 simp only [Lq,Lr,allT,h,eqT,bne]
 cases n==m <;> cases eqL ps qs <;> simp
def Sm:List SV→List Entry→Option Out
 | [.one ⟨true,[.val (.int .i64 x0),.ref 0]⟩,.one ⟨true,[.val (.int .i64 x1),.ref 1]⟩],[.row false 2 (.int .i64) x2,.row false 2 (.int .i64) x3]=>some ⟨(.one ⟨false,[(.val (.bool (eqT x0 x1 x2 x3)))]⟩),[(.row false 2 amU x2),(.row false 2 amU x3)],[],[leN x2.length 9223372036854775807]⟩
 |_,_=>none
def LG:PF Tryz.prog:=PF.alt ac3 Sm (by
 intro args es o h hnd;unfold Sm at h;split at h
 ·rename_i x0 x1 x2 x3
  cases h
  have hnd:=eD hnd
  have hh:=al0 x0 x1 x2 x3 hnd
  obtain⟨e0,en⟩:=hh
  exact gW rfl (eN en) (by simp only [e0] <;> rfl) rfl rfl
 ·cases h)
theorem amc(k:Int)(ps:List Int)(h:(leN ps.length 9223372036854775807&&(leI (-1) k&&leI k 1048576))=true):Lw k ps=szV k ps∧Lx k ps=true:=by
 simp only [Lw,Lx,allT,h,cond_true,and_true]
 cases hs:ltI (szV k ps) 0 with
 |false=>rfl
 |true=>
  simp only [szV]at hs ⊢
  cases hq:ltI (k - (ps.length:Int)) 0 with
  |true=>rfl
  |false=>rw [hq,cond_false]at hs;rw [hs]at hq;cases hq
def So:List SV→List Entry→Option Out
 | [.one ⟨true,[.val (.int .i64 _x0),.ref 0]⟩,.one ⟨false,[.val (.int .i64 x1)]⟩],[.row false 2 (.int .i64) x2]=>some ⟨(.one ⟨false,[(.val (.int .i64 (szV x1 x2)))]⟩),[(.row false 2 amU x2)],[],[leN x2.length 9223372036854775807&&(leI (-1) x1&&leI x1 1048576)]⟩
 |_,_=>none
def LJ:PF Tryz.prog:=PF.alt ac5 So (by
 intro args es o h hnd;unfold So at h;split at h
 ·rename_i _x0 x1 x2
  cases h
  have hnd:=eD hnd
  have hh:=amc x1 x2 hnd
  obtain⟨e0,en⟩:=hh
  exact gW rfl (eN en) (by simp only [e0] <;> rfl) rfl rfl
 ·cases h)
def pS(y1 y3 b:Int):(Int)→Nat ⊕ (Int)
 |y2=>(.inr (bif To y3 b y1 then IntKind.wrap .i64 (y2 + (1:Int))else y2))
def lD(y1 y3:Int)(y4:List Int)(i:Nat):(Int)→i5
 |y2=>((i:Int),y1,y2,y3,y4)
def GQ:i5→Int
 |(_,_,y2,_,_)=>y2
theorem aaO(y1 y3:Int)(y4:List Int)(y2:Int)(hn:y4.length≤9223372036854775807)(hT: ∀ p∈y4,okP y3 p=true)(h4:y4.length≤4)(h2:y2=0):
  eA.fin ((0:Int),y1,y2,y3,y4)=true∧eA.res ((0:Int),y1,y2,y3,y4)=((aq (pS y1 y3) 0 y4 0 y2).1,(lD y1 y3 y4) (aq (pS y1 y3) 0 y4 0 y2).2.1 (aq (pS y1 y3) 0 y4 0 y2).2.2):=by
 have key:=eA.along (lD y1 y3 y4) GQ (pS y1 y3) 0 (fun i a=>0≤a∧a≤i) y4 y2 (by omega) (by simp only [eA,lD];omega) (fun i b a hb hI=> ?_) (fun a hI=> ?_)
 ·exact key
 ·obtain y2:=a
  have hlt:=(List.getElem?_eq_some_iff.1 hb).1
  have hget: ∀ d,Option.getD y4[i]? d=b:=fun d=>by rw [hb];rfl
  have hw:=qG hlt hn
  have hdec:ltI (i:Int) (y4.length:Int)=true:=db (by omega)
  have hnn:leI (0:Int) (i:Int)=true:=bZ (by omega)
  have hltd:ltN i y4.length=true:=dK hlt
  refine⟨?_,?_,?_,?_⟩
  ·simp [rR,tc,yt,yu,yw,yx,yy,vZ,eA,LT.nds,allT,lD,hdec,hnn,hltd,hget,hT b (List.mem_of_getElem? hb)]
  ·simp [rR,tc,yt,yu,yw,yx,yy,vZ,eA,LT.each,lD,GQ,hw,hT b (List.mem_of_getElem? hb)]
  ·simp only [rR,tc,yt,yu,yw,yx,yy,vZ,eA,LT.fn,lD,GQ,pS,Int.toNat_natCast,hdec,hget,cond_true]
  ·intro a' hf;simp only [pS,Sum.inr.injEq]at hf;subst hf;cases To y3 b y1 <;> simp only [cond_true,cond_false] <;> (try rw [bp (by omega) (by omega)]) <;> omega
 ·obtain y2:=a
  simp [rR,tc,yt,yu,yw,yx,yy,vZ,eA,LT.out,lD]
theorem aew(n b:Int): ∀ (ps:List Int) (a:Int),0≤a→a + ps.length≤100→ps.foldl (fun a p=>bif To n p b then IntKind.wrap .i64 (a + (1:Int))else a) a=a + (TG n ps b:Int)
 | [],a,_,_=>by simp [TG]
 |p::ps,a,h0,h1=>by
  simp only [List.length_cons]at h1
  simp only [List.foldl_cons,TG,List.countP_cons]
  cases hu:To n p b with
  |true=>
   rw [cond_true,bp (by omega) (by omega),aew n b ps (a + 1) (by omega) (by omega)]
   simp only [TG]
   simp;omega
  |false=>
   rw [cond_false,aew n b ps a h0 (by omega)]
   simp [TG]
theorem akm(n b:Int)(ps:List Int)(h:isT n ps=true):HO n b ps=(TG n ps b:Int)∧HP n b ps=true:=by
 have h2:=(yK.1 h).2.1
 obtain⟨w1,w2⟩:=aaO b n ps 0 (by omega) (fun p hp=>aeh h hp) h2.2 rfl
 rw [iW (f:=pS b n) (g:=fun a p=>bif To n p b then IntKind.wrap .i64 (a + (1:Int))else a) (fun p a=>rfl),aew n b ps 0 (by omega) (by omega)]at w2
 refine⟨?_,?_⟩
 ·simp only [Gw,HO,HP,w2,lD];omega
 ·simp only [Gw,HO,HP,w1,allT,cond_true]
def UH:List SV→List Entry→Option Out
 | [.one ⟨true,[.val (.int .i64 x0),.ref 0]⟩,.one ⟨false,[.val (.int .i64 x1)]⟩],[.row false 2 (.int .i64) x2]=>some ⟨(.one ⟨false,[(.val (.int .i64 (TG x0 x2 x1:Int)))]⟩),[(.row false 2 amU x2)],[],[isT x0 x2]⟩
 |_,_=>none
def pL:PF Tryz.prog:=PF.alt aea UH (by
 intro args es o h hnd;unfold UH at h;split at h
 ·rename_i x0 x1 x2
  cases h
  have hnd:=eD hnd
  have hh:=akm x0 x1 x2 hnd
  obtain⟨e0,en⟩:=hh
  exact gW rfl (eN en) (by simp only [e0] <;> rfl) rfl rfl
 ·cases h)
end Go.SX

namespace Go.SX
open Go.Proofs
def yT:PF Tryz.prog:=PF.sort 235 2 (fun blk off cap zs w h1 h2 h3=>AnyM.slices_Sort_int Tryz.laysSort blk off cap zs w h1 h2 h3)
end Go.SX

namespace Go.SX
open Go.Proofs
set_option maxRecDepth 100000
section
variable (x0 x1:Int)(x2:List Int)
def c8:Int:=Option.getD x2[Int.toNat x1]? (0:Int)
def ff:Bool:=Int.tmod (c8 x1 x2) (3:Int)!=(2:Int)
def ie:List Int:= [IntKind.wrap .i64 (Int.tdiv (c8 x1 x2) (3:Int)),Int.tmod (IntKind.wrap .i64 (IntKind.wrap .i64 (Int.tdiv (c8 x1 x2) (3:Int)) + (1:Int))) x0]
def iB:List Int:=bif ff x1 x2 then [IntKind.wrap .i64 (Int.tdiv (c8 x1 x2) (3:Int))]else ab8 (ie x0 x1 x2)
def iC:Bool:=allT [leI (0:Int) x1,ltI x1 (↑x2.length:Int),ltN x1.toNat x2.length,leI (0:Int) x1,ltI x1 (↑x2.length:Int),ltN x1.toNat x2.length,ff x1 x2||neI x0 (0:Int),ff x1 x2||leN (List.length (ie x0 x1 x2)) (4611686018427387903:Nat)]
end
def tl:List SV→List Entry→Option Out
 | [.one ⟨true,[.val (.int .i64 x0),.ref 0]⟩,.one ⟨false,[.val (.int .i64 x1)]⟩],[.row false 2 (.int .i64) x2]=>some ⟨(.one ⟨false,[(.ref 1)]⟩),[(.row false 2 amU x2)],[(.row true 2 amU (iB x0 x1 x2))],[(iC x0 x1 x2)]⟩
 |_,_=>none
def Fg:PF Tryz.prog:=PF.ofG Tryz.prog [yT,PF.lend yT,PF.fz yT] [] ay 210 Tryz.f210 Tryz.func210 (fun c _=>LOk.nil c) tl (by
 intro vs es r h;unfold tl at h;split at h
 ·cases h;kernel_rfl
 ·cases h)
end Go.SX

namespace Go.SX
open Go.Proofs
set_option maxRecDepth 100000
def MN(n p:Int):List Int:=bif phs p !=2 then [blk p]else ab8 [blk p,Int.tmod (blk p + 1) n]
theorem akV(a b:Int):ab8 [a,b]=bif leI a b then [a,b]else [b,a]:=by
 unfold ab8
 have hp:=List.mergeSort_perm [a,b] (fun x y=>decide (x≤y))
 have hs:=List.pairwise_mergeSort (le:=fun(x y:Int)=>decide (x≤y)) (fun x y z h1 h2=>by simp at h1 h2 ⊢;omega) (fun x y=>by simp;omega) [a,b]
 generalize hm:List.mergeSort [a,b] (fun x y=>decide (x≤y))=l at hp hs
 have hl:=hp.length_eq
 match l,hl with
 | [x,y],_=>
  simp at hs
  have hx:x∈ [a,b]:=hp.subset (by simp)
  simp at hx
  rcases hx with rfl | rfl
  ·have:=(List.perm_cons x).1 hp
   rw [List.perm_singleton]at this
   simp at this;subst this
   rw [bZ hs];rfl
  ·have h2:=hp.trans (List.Perm.swap x a [])
   have:=(List.perm_cons x).1 h2
   rw [List.perm_singleton]at this
   simp at this;subst this
   cases hq:leI y x with
   |false=>rfl
   |true=>
    have:=JH.1 hq;have:x=y:=by omega
    subst this;rfl
def atI(xs:List Int)(t:Int):Int:=xs[t.toNat]?.getD 0
theorem alP(n t:Int)(ps:List Int)(h:SZ n ps t=true):iB n t ps=MN n (atI ps t)∧iC n t ps=true:=by
 obtain⟨e1,e2,e3,e4,e5,e6,e7,e8⟩:=acP h
 obtain⟨hT,ht⟩:=abP.1 h
 obtain⟨h1,h2,h3⟩:=yK.1 hT
 have h4:=Or.1 ht
 have hlt:t.toNat < ps.length:=by omega
 have hg:ps[t.toNat]?.getD 0=ps[t.toNat]:=by rw [List.getElem?_eq_getElem hlt];rfl
 have h5:=h3 _ (List.getElem_mem hlt)
 rw [← hg]at h5
 have f1:IntKind.i64.wrap (Int.tdiv (ps[t.toNat]?.getD 0) 3)=blk (ps[t.toNat]?.getD 0):=by
  rw [Int.tdiv_eq_ediv_of_nonneg h5.1,acr h5.1,bp (by omega) (by omega)]
 have f2:IntKind.i64.wrap (blk (ps[t.toNat]?.getD 0) + 1)=blk (ps[t.toNat]?.getD 0) + 1:=by rw [acr h5.1,bp (by omega) (by omega)]
 have f3:neI n 0=true:=agh (by omega)
 refine⟨?_,?_⟩
 ·simp only [c8,ff,ie,iB,iC,f1,f2,MN,phs,atI]
 ·simp [c8,ff,ie,iB,iC,e4,e5,e6,f3,allT]
def tv:List SV→List Entry→Option Out
 | [.one ⟨true,[.val (.int .i64 x0),.ref 0]⟩,.one ⟨false,[.val (.int .i64 x1)]⟩],[.row false 2 (.int .i64) x2]=>some ⟨(.one ⟨false,[(.ref 1)]⟩),[(.row false 2 amU x2)],[(.row true 2 amU (MN x0 (atI x2 x1)))],[SZ x0 x2 x1]⟩
 |_,_=>none
def bq:PF Tryz.prog:=PF.alt Fg tv (by
 intro args es o h hnd;unfold tv at h;split at h
 ·rename_i x0 x1 x2
  cases h
  have hnd:=eD hnd
  have hh:=alP x0 x1 x2 hnd
  obtain⟨e0,en⟩:=hh
  exact gW rfl (eN en) rfl rfl (by simp only [e0] <;> rfl)
 ·cases h)
theorem ajj{n p:Int}(h:okP n p=true):(∀ u∈MN n p,0≤u∧u < n)∧(MN n p).length≤2∧ ∀ b:Nat,(MN n p).count (b:Int)=bif To n p (b:Int)then 1 else 0:=by
 obtain⟨⟨h1,h2⟩,h3,h4⟩:=ael.1 h
 have hb:=acr h3
 have hm:Int.tmod (blk p + 1) n=(blk p + 1) % n:=Int.tmod_eq_emod_of_nonneg (by rw [hb];omega)
 have hb0:0≤blk p∧blk p < n:=by rw [hb];omega
 have hm0:=Int.emod_nonneg (blk p + 1) (show n≠0 by omega)
 have hm1:=Int.emod_lt_of_pos (blk p + 1) (show 0 < n by omega)
 have hne:(blk p + 1) % n≠blk p:=by
  by_cases hq:blk p + 1=n
  ·rw [hq,Int.emod_self];omega
  ·rw [Int.emod_eq_of_lt (by omega) (by omega)];omega
 unfold MN To
 rw [hm,akV]
 generalize (blk p + 1) % n=q at *
 generalize blk p=a at *
 cases hp:phs p==2 with
 |false=>
  simp only [bne,hp,Bool.not_false,cond_true,Bool.false_and,Bool.or_false]
  refine⟨fun u hu=>by simp at hu;omega,by simp,fun b=> ?_⟩
  simp only [List.count_cons,List.count_nil]
  cases hab:a==(b:Int) <;> simp [hab]
 |true=>
  simp only [bne,hp,Bool.not_true,cond_false,Bool.true_and]
  have key: ∀ b:Nat,(if (a==(b:Int))=true then 1 else 0) + (if (q==(b:Int))=true then 1 else 0)=(bif a==(b:Int)||q==(b:Int)then 1 else 0:Nat):=by
   intro b
   cases hab:a==(b:Int) <;> cases hqb:q==(b:Int) <;> simp
   have:=eq_of_beq hab;have:=eq_of_beq hqb;omega
  cases leI a q with
  |true=>
   refine⟨fun u hu=>by simp at hu;omega,by simp,fun b=> ?_⟩
   rw [← key b];simp [List.count_cons];omega
  |false=>
   refine⟨fun u hu=>by simp at hu;omega,by simp,fun b=> ?_⟩
   rw [← key b];simp [List.count_cons]
end Go.SX

namespace Go.SX
open Go.Proofs
set_option maxRecDepth 100000
abbrev aH:=Int×Int×List Int×List Int
section
variable (y0 y1:Int)(y2 y3:List Int)
def aP:Int:=Option.getD y2[Int.toNat y0]? (0:Int)
def df:Bool:=ltI y0 y1
def dg:Bool:=leI (0:Int) y0
def dh:Bool:=ltI y0 (↑y2.length:Int)
def di:Bool:=ltN y0.toNat y2.length
def bS:Bool:=leI (0:Int) (aP y0 y2)
def bT:Bool:=ltI (aP y0 y2) (↑y3.length:Int)
def bU:Bool:=ltN (Int.toNat (aP y0 y2)) y3.length
def dj:Int:=IntKind.wrap .i64 (y0 + (1:Int))
def dk:List Int:=List.set y3 (Int.toNat (aP y0 y2)) (IntKind.wrap .i64 (Option.getD y3[Int.toNat (aP y0 y2)]? (0:Int) + (1:Int)))
end
def Az:aH→List (Nat×SV)
 |(y0,y1,_,_)=> [(20,(.one ⟨false,[(.val (.int .i64 y0))]⟩)),(19,(.one ⟨false,[(.val (.int .i64 y1))]⟩)),(18,(.one ⟨false,[(.ref 0)]⟩)),(3,(.one ⟨false,[(.ref 1)]⟩))]
def Ay:aH→List (Nat×Entry)
 |(_,_,y2,y3)=> [(0,(.row true 2 amU y2)),(1,(.row true 2 amU y3))]
def AB:Nat→aH→List (Nat×SV)
 |_,(_,_,_,_)=> []
def AA:Nat→aH→List (Nat×Entry)
 |_,(_,_,y2,y3)=> [(0,(.row true 2 amU y2)),(1,(.row true 2 amU y3))]
def dc:aH→LT aH
 |(y0,y1,y2,y3)=> .ite (df y0 y1) (.need [(dg y0),(dh y0 y2),(di y0 y2)] (.need [(bS y0 y2),(bT y0 y2 y3),(bU y0 y2 y3),(bS y0 y2),(bT y0 y2 y3),(bU y0 y2 y3)] (.nrm ((dj y0),y1,y2,(dk y0 y2 y3)) [(0,0),(1,1)]))) (.ext 0 [(0,0),(1,1)])
def ja(s:St):Option aH:=
 (match s.look 20 with
 |some ⟨none,(.one ⟨false,[(.val (.int .i64 y0))]⟩)⟩=>
 (match s.look 19 with
 |some ⟨none,(.one ⟨false,[(.val (.int .i64 y1))]⟩)⟩=>
 (match s.look 18 with
 |some ⟨none,(.one ⟨false,[(.ref 384)]⟩)⟩=>
 (match s.look 3 with
 |some ⟨none,(.one ⟨false,[(.ref 1)]⟩)⟩=>
 (match s.ent 384 with
 |some (.row true 2 (.int .i64) y2)=>
 (match s.ent 1 with
 |some (.row true 2 (.int .i64) y3)=>
 some (y0,y1,y2,y3)
 |_=>none)
 |_=>none)
 |_=>none)
 |_=>none)
 |_=>none)
 |_=>none)
def af:Lp aH where
 h:=⟨[21,22,23,6,24,25,26,27,28,29,30,20],[0,1],[],[]⟩
 JL:=Az
 JE:=Ay
 XL:=AB
 XE:=AA
 q:=fun j=>match j with | _=> .exit 2
 tags:= [0]
 lt:=dc
 fuel:=fun(y0,y1,y2,y3)=>y0.natAbs + y1.natAbs + y2.length + y3.length
 fix:=fun(_,y1,y2,_) (y0,_,_,y3)=>(y0,y1,y2,y3)
 σ:= [(0,384),(1,1)]
 rd:=ja
theorem yS:LoopOk Tryz.prog (memN [14,15,4,16,17,18,19,20,21,22,23,6,24,25,26,27,28,29,30,31,13]) af.F (acJ (aD Tryz.f157 0) 0):=by
 refine Lp.ok (tbl:= [bq,PF.lend bq,PF.fz bq,aG,PF.lend aG,PF.fz aG]) (lf:= []) ay af (by kernel_rfl) (LOk.nil _) (fun _=>rfl) (fun _ _=>rfl) ?_ ?_ ?_ ?_ (fun _=>rfl) ?_
 ·intro x;obtain⟨y0,y1,y2,y3⟩:=x;kernel_rfl
 ·intro x;obtain⟨y0,y1,y2,y3⟩:=x;kernel_rfl
 ·intro s x h
  have h:ja s=some x:=h
  unfold ja at h
  repeat' split at h
  all_goals cases h
  exact⟨aa (by assumption) rfl (aa (by assumption) rfl (aa (by assumption) rfl (aa (by assumption) rfl (rfl)))),ac rfl (by assumption) rfl (ac rfl (by assumption) rfl (rfl))⟩
 ·intro x;obtain⟨y0,y1,y2,y3⟩:=x;kernel_rfl
 ·intro x z;obtain⟨y0,y1,y2,y3⟩:=x;exact(And.intro rfl trivial)
abbrev aN:=Int×Int×Int×List Int×List Int
section
variable (y0 y1 y2:Int)(y3 y4:List Int)
def ci:Int×Int×List Int×List Int:=((0:Int),(↑(List.length (MN y2 (atI y4 y0))):Int),MN y2 (atI y4 y0),y3)
def dX:Bool:=ltI y0 y1
def dY:Bool:=SZ y2 y4 y0
def dZ:Bool:=Lp.fin af (ci y0 y2 y3 y4)
def d4:Int:=IntKind.wrap .i64 (y0 + (1:Int))
def d8:List Int:=(Lp.res af (ci y0 y2 y3 y4)).2.2.2.2
end
def CS:aN→List (Nat×SV)
 |(y0,y1,_,_,_)=> [(13,(.one ⟨false,[(.val (.int .i64 y0))]⟩)),(12,(.one ⟨false,[(.val (.int .i64 y1))]⟩)),(1,(.one ⟨false,[(.ptr 0 0)]⟩)),(3,(.one ⟨false,[(.ref 1)]⟩))]
def CQ:aN→List (Nat×Entry)
 |(_,_,y2,y3,y4)=> [(0,(.box 26 [(.val (.int .i64 y2)),(.ref 2)])),(1,(.row true 2 amU y3)),(2,(.row false 2 amU y4))]
def CW:Nat→aN→List (Nat×SV)
 |_,(_,_,_,_,_)=> []
def CU:Nat→aN→List (Nat×Entry)
 |_,(_,_,y2,y3,y4)=> [(0,(.box 26 [(.val (.int .i64 y2)),(.ref 2)])),(1,(.row true 2 amU y3)),(2,(.row false 2 amU y4))]
def dM:aN→LT aN
 |(y0,y1,y2,y3,y4)=> .ite (dX y0 y1) (.need [(dY y0 y2 y4)] (.need [(dZ y0 y2 y3 y4)] (.nrm ((d4 y0),y1,y2,(d8 y0 y2 y3 y4),y4) [(0,0),(1,1),(2,2)]))) (.ext 0 [(0,0),(1,1),(2,2)])
def kf(s:St):Option aN:=
 (match s.look 13 with
 |some ⟨none,(.one ⟨false,[(.val (.int .i64 y0))]⟩)⟩=>
 (match s.look 12 with
 |some ⟨none,(.one ⟨false,[(.val (.int .i64 y1))]⟩)⟩=>
 (match s.look 1 with
 |some ⟨none,(.one ⟨false,[(.ptr 128 0)]⟩)⟩=>
 (match s.look 3 with
 |some ⟨none,(.one ⟨false,[(.ref 384)]⟩)⟩=>
 (match s.ent 128 with
 |some (.box 26 [(.val (.int .i64 y2)),(.ref 0)])=>
 (match s.ent 384 with
 |some (.row true 2 (.int .i64) y3)=>
 (match s.ent 0 with
 |some (.row false 2 (.int .i64) y4)=>
 some (y0,y1,y2,y3,y4)
 |_=>none)
 |_=>none)
 |_=>none)
 |_=>none)
 |_=>none)
 |_=>none)
 |_=>none)
def aw:Lp aN where
 h:=⟨[14,15,4,16,17,18,19,20,21,22,23,6,24,25,26,27,28,29,30,31,13],[0,1,2],[],[]⟩
 JL:=CS
 JE:=CQ
 XL:=CW
 XE:=CU
 q:=fun j=>match j with | _=> .exit 0
 tags:= [0]
 lt:=dM
 fuel:=fun(y0,y1,y2,y3,y4)=>y0.natAbs + y1.natAbs + y2.natAbs + y3.length + y4.length
 fix:=fun(_,y1,y2,_,y4) (y0,_,_,y3,_)=>(y0,y1,y2,y3,y4)
 σ:= [(0,128),(1,384),(2,0)]
 rd:=kf
theorem Bc:LoopOk Tryz.prog (fun k=>Nat.blt k Tryz.f157.ntmps) aw.F (aD Tryz.f157 0):=by
 refine Lp.ok (tbl:= [bq,PF.lend bq,PF.fz bq,aG,PF.lend aG,PF.fz aG]) (lf:= [af.F]) ay aw (by kernel_rfl) (LOk.allT (l:= [acJ (aD Tryz.f157 0) 0]) (by kernel_rfl) (.cons yS (.nil _))) (fun _=>rfl) (fun _ _=>rfl) ?_ ?_ ?_ ?_ (fun _=>rfl) ?_
 ·intro x;obtain⟨y0,y1,y2,y3,y4⟩:=x;kernel_rfl
 ·intro x;obtain⟨y0,y1,y2,y3,y4⟩:=x;kernel_rfl
 ·intro s x h
  have h:kf s=some x:=h
  unfold kf at h
  repeat' split at h
  all_goals cases h
  exact⟨aa (by assumption) rfl (aa (by assumption) rfl (aa (by assumption) rfl (aa (by assumption) rfl (rfl)))),ac rfl (by assumption) rfl (ac rfl (by assumption) rfl (ac rfl (by assumption) rfl (rfl)))⟩
 ·intro x;obtain⟨y0,y1,y2,y3,y4⟩:=x;kernel_rfl
 ·intro x z;obtain⟨y0,y1,y2,y3,y4⟩:=x;exact(And.intro rfl trivial)
section
variable (x0:Int)(x1:List Int)
def ig:Int×Int×Int×List Int×List Int:=((0:Int),cJ x1,x0,List.replicate x0.toNat (0:Int),x1)
def mv:List Int:=((Lp.res aw (ig x0 x1)).2.2.2.2).1
def mw:Bool:=allT [leI (0:Int) x0,leI x0 x0,leI ((↑(8:Nat):Int) * x0) (281474976710656:Int),leI x0 (9223372036854775807:Int),Lp.fin aw (ig x0 x1)]
end
def tm:List SV→List Entry→Option Out
 | [.one ⟨true,[.val (.int .i64 x0),.ref 0]⟩],[.row false 2 (.int .i64) x1]=>some ⟨(.one ⟨false,[(.ref 1)]⟩),[(.row false 2 amU x1)],[(.row true 2 amU (mv x0 x1))],[(mw x0 x1)]⟩
 |_,_=>none
def Fh:PF Tryz.prog:=PF.ofG Tryz.prog [bq,PF.lend bq,PF.fz bq,aG,PF.lend aG,PF.fz aG] [aw.F] ay 157 Tryz.f157 Tryz.func157 (LOk.fnT (l:= [aD Tryz.f157 0]) (by kernel_rfl) (.cons Bc (.nil _))) tm (by
 intro vs es r h;unfold tm at h;split at h
 ·cases h;kernel_rfl
 ·cases h)
end Go.SX

namespace Go.SX
open Go.Proofs
set_option maxRecDepth 100000
def qF(n:Int)(ps:List Int):List Int:=(List.range n.toNat).map fun(b:Nat)=>(TG n ps (b:Int):Int)
theorem RB(n:Int)(ps:List Int):(qF n ps).length=n.toNat:=by simp [qF]
def bC(b:Int):(List Int)→Nat ⊕ (List Int)
 |y3=>(.inr (List.set y3 (Int.toNat b) (IntKind.wrap .i64 (Option.getD y3[Int.toNat (b)]? (0:Int) + (1:Int)))))
def a8(y2:List Int)(i:Nat):(List Int)→aH
 |y3=>((i:Int),(↑y2.length:Int),y2,y3)
def i9:aH→List Int
 |(_,_,_,y3)=>y3
theorem Be(y2 y3:List Int)(hn:y2.length≤9223372036854775807)(hU: ∀ u∈y2,0≤u∧u < (y3.length:Int)):
  af.fin ((0:Int),(↑y2.length:Int),y2,y3)=true∧af.res ((0:Int),(↑y2.length:Int),y2,y3)=((aq (bC) 0 y2 0 y3).1,(a8 y2) (aq (bC) 0 y2 0 y3).2.1 (aq (bC) 0 y2 0 y3).2.2):=by
 have key:=af.along (a8 y2) i9 (bC) 0 (fun _ a=>a.length=y3.length) y2 y3 rfl (by simp only [af,a8];omega) (fun i b a hb hI=> ?_) (fun a hI=> ?_)
 ·exact key
 ·obtain y3:=a
  have hlt:=(List.getElem?_eq_some_iff.1 hb).1
  have hget: ∀ d,Option.getD y2[i]? d=b:=fun d=>by rw [hb];rfl
  have hw:=qG hlt hn
  have hdec:ltI (i:Int) (y2.length:Int)=true:=db (by omega)
  have hnn:leI (0:Int) (i:Int)=true:=bZ (by omega)
  have hltd:ltN i y2.length=true:=dK hlt
  refine⟨?_,?_,?_,?_⟩
  ·have hu:=hU b (List.mem_of_getElem? hb)
   have e1:leI 0 b=true:=bZ hu.1
   have e2:ltI b (a.length:Int)=true:=db (by omega)
   have e3:ltN b.toNat a.length=true:=dK (by omega)
   simp only [aP,df,dg,dh,di,bS,bT,bU,dj,dk,dc,af,LT.nds,allT,a8,Int.toNat_natCast,hdec,hnn,hltd,hget,e1,e2,e3,cond_true]
  ·simp [aP,df,dg,dh,di,bS,bT,bU,dj,dk,dc,af,LT.each,a8,i9,hw]
  ·simp only [aP,df,dg,dh,di,bS,bT,bU,dj,dk,dc,af,LT.fn,a8,i9,bC,Int.toNat_natCast,hdec,hnn,hltd,hget,cond_true,Bool.cond_self]
  ·intro a' hf;simp only [bC,Sum.inr.injEq]at hf;subst hf;simpa using hI
 ·obtain y3:=a
  simp [aP,df,dg,dh,di,bS,bT,bU,dj,dk,dc,af,LT.out,a8]
def alo(a:List Int)(u:Int):List Int:=a.set u.toNat (IntKind.wrap .i64 (Option.getD a[u.toNat]? 0 + 1))
theorem ami(N:Nat): ∀ (us:List Int) (c:Nat→Int),(∀ u∈us,0≤u∧u < (N:Int))→(∀ b,0≤c b∧c b + us.length≤1000000)→
  us.foldl alo ((List.range N).map c)=(List.range N).map fun(b:Nat)=>c b + (us.count (b:Int):Int)
 | [],c,_,_=>by simp
 |u::us,c,hu,hc=>by
  have hu0:=hu u (by simp)
  have hlt:u.toNat < N:=by omega
  have h1:alo ((List.range N).map c) u=(List.range N).map fun(b:Nat)=>if (b:Int)=u then c b + 1 else c b:=by
   unfold alo
   have hg:Option.getD ((List.range N).map c)[u.toNat]? 0=c u.toNat:=by simp [List.getElem?_map,List.getElem?_range hlt]
   have hcu:=hc u.toNat
   simp only [List.length_cons]at hcu
   rw [hg,bp (by omega) (by omega)]
   refine List.ext_getElem? fun i=> ?_
   rw [List.getElem?_set]
   by_cases hi:u.toNat=i
   ·rw [if_pos hi,if_pos (by simpa using hlt)]
    subst hi
    rw [List.getElem?_map,List.getElem?_range hlt,Option.map_some,if_pos (by omega)]
   ·rw [if_neg hi,List.getElem?_map,List.getElem?_map]
    by_cases hiN:i < N
    ·rw [List.getElem?_range hiN,Option.map_some,Option.map_some,if_neg (by omega)]
    ·rw [List.getElem?_eq_none (by simp;omega)];rfl
  rw [List.foldl_cons,h1,ami N us _ (fun v hv=>hu v (by simp [hv])) (fun b=>by
   have:=hc b
   simp only [List.length_cons]at this
   split <;> omega)]
  refine List.map_congr_left fun b _=> ?_
  rw [List.count_cons]
  by_cases hb:(b:Int)=u
  ·rw [if_pos hb,if_pos (by simp [hb])];omega
  ·rw [if_neg hb,if_neg (by simp;omega)];omega
theorem aeJ{n p:Int}{qs:List Int}(h:okP n p=true)(hq:qs.length≤50):
  af.fin ((0:Int),((MN n p).length:Int),MN n p,qF n qs)=true∧
   (af.res ((0:Int),((MN n p).length:Int),MN n p,qF n qs)).2.2.2.2=qF n (qs++ [p]):=by
 obtain⟨hu,hl,hc⟩:=ajj h
 have hn:=(ael.1 h).1
 obtain⟨w1,w2⟩:=Be (MN n p) (qF n qs) (by omega) (fun u hm=>by rw [RB];have:=hu u hm;omega)
 refine⟨w1,?_⟩
 rw [w2,iW (f:=bC) (g:=alo) (fun b a=>rfl)]
 simp only [a8]
 unfold qF
 rw [ami n.toNat (MN n p) _ (fun u hm=>by have:=hu u hm;omega) (fun b=>by
  have:TG n qs (b:Int)≤qs.length:=List.countP_le_length
  omega)]
 refine List.map_congr_left fun b _=> ?_
 rw [hc b]
 simp only [TG,List.countP_append,List.countP_cons,List.countP_nil]
 cases To n p (b:Int) <;> simp
theorem agz{ps:List Int}{b:Nat}(h:b < ps.length):ps.take (b + 1)=ps.take b++ [ps[b]?.getD 0]:=by
 rw [List.take_add_one,List.getElem?_eq_getElem h];rfl
def aB(y2:Int)(y4:List Int)(b:Nat):(List Int)→Nat ⊕ (List Int)
 |y3=>(.inr ((Lp.res af ((0:Int),(↑(List.length (MN y2 (atI y4 (↑b:Int)))):Int),MN y2 (atI y4 (↑b:Int)),y3)).2.2.2.2))
def bt(y1 y2:Int)(y4:List Int)(i:Nat):(List Int)→aN
 |y3=>((i:Int),y1,y2,y3,y4)
def kd:aN→List Int
 |(_,_,_,y3,_)=>y3
theorem DL(y1 y2:Int)(y4 y3:List Int)(hn:y1≤9223372036854775807)(hl:y1=(y4.length:Int))(hT:isT y2 y4=true)(h3:y3=qF y2 []):
  aw.fin ((0:Int),y1,y2,y3,y4)=true∧aw.res ((0:Int),y1,y2,y3,y4)=((aq (aB y2 y4) 0 (List.range y1.toNat) 0 y3).1,(bt y1 y2 y4) (aq (aB y2 y4) 0 (List.range y1.toNat) 0 y3).2.1 (aq (aB y2 y4) 0 (List.range y1.toNat) 0 y3).2.2):=by
 have key:=aw.along (bt y1 y2 y4) kd (aB y2 y4) 0 (fun i a=>a=qF y2 (y4.take i)) (List.range y1.toNat) y3 (by subst h3;simp) (by simp only [aw,bt,List.length_range];omega) (fun i b a hb hI=> ?_) (fun a hI=> ?_)
 ·exact key
 ·obtain y3:=a
  obtain⟨rfl,hlt⟩:=gV hb
  have hw:IntKind.i64.wrap ((b:Int) + 1)=((b + 1:Nat):Int):=by rw [bp (by omega) (by omega)];omega
  have hdec:ltI (b:Int) y1=true:=db (by omega)
  have hnn:leI (0:Int) (b:Int)=true:=bZ (by omega)
  refine⟨?_,?_,?_,?_⟩
  ·have h4:=(yK.1 hT).2.1
   have hbl:b < y4.length:=by omega
   have hm:SZ y2 y4 (b:Int)=true:=abP.2 ⟨hT,Or.2 (by omega)⟩
   have hp:okP y2 (atI y4 (b:Int))=true:=aeh hT (by unfold atI;rw [Int.toNat_natCast,List.getElem?_eq_getElem hbl];exact List.getElem_mem hbl)
   obtain⟨i1,i2⟩:=aeJ (qs:=y4.take b) hp (by rw [List.length_take];omega)
   subst hI
   simp only [ci,dX,dY,dZ,d4,d8,dM,aw,LT.nds,allT,bt,hdec,hm,i1,cond_true]
  ·simp [ci,dX,dY,dZ,d4,d8,dM,aw,LT.each,bt,kd,hw]
  ·simp only [ci,dX,dY,dZ,d4,d8,dM,aw,LT.fn,bt,kd,aB,Int.toNat_natCast,hdec,hnn,cond_true,Bool.cond_self]
  ·intro a' hf
   have h4:=(yK.1 hT).2.1
   have hbl:b < y4.length:=by omega
   have hp:okP y2 (atI y4 (b:Int))=true:=aeh hT (by unfold atI;rw [Int.toNat_natCast,List.getElem?_eq_getElem hbl];exact List.getElem_mem hbl)
   obtain⟨i1,i2⟩:=aeJ (qs:=y4.take b) hp (by rw [List.length_take];omega)
   subst hI
   simp only [aB,i2,Sum.inr.injEq]at hf
   rw [← hf,agz hbl]
   rfl
 ·obtain y3:=a
  simp only [ci,dX,dY,dZ,d4,d8,dM,aw,LT.out,bt,List.length_range,SU,Xc,cond_false]
theorem alQ(n:Int)(ps:List Int): ∀ (m:Nat),m≤ps.length→(∀ b,b < m→ ∀ a,a=qF n (ps.take b)→aB n ps b a= .inr (qF n (ps.take (b + 1))))→
  (aq (aB n ps) 0 (List.range m) 0 (qF n [])).2.2=qF n (ps.take m):=by
 have key: ∀ (k i s:Nat),(∀ b,b < s + k→ ∀ a,a=qF n (ps.take b)→aB n ps b a= .inr (qF n (ps.take (b + 1))))→
   (aq (aB n ps) 0 ((List.range k).map (· + s)) i (qF n (ps.take s))).2.2=qF n (ps.take (s + k)):=by
  intro k
  induction k with
  |zero=>intro i s _;rfl
  |succ k ih=>
   intro i s hb
   rw [List.range_succ_eq_map,List.map_cons,List.map_map]
   simp only [aq,Nat.zero_add]
   rw [hb s (by omega) _ rfl]
   have:=ih (i + 1) (s + 1) (fun b hlt=>hb b (by omega))
   have he:List.map ((fun x=>x + s) ∘ Nat.succ) (List.range k)=(List.range k).map (· + (s + 1)):=List.map_congr_left fun x _=>by simp only [Function.comp];omega
   rw [he]
   show (aq (aB n ps) 0 ((List.range k).map (· + (s + 1))) (i + 1) (qF n (ps.take (s + 1)))).2.2=_
   rw [this]
   congr 2;omega
 intro m hm hb
 have:=key m 0 0 (by simpa using hb)
 simpa using this
theorem ak0(n:Int)(ps:List Int)(hT:isT n ps=true):mv n ps=qF n ps∧mw n ps=true:=by
 have h1:=(yK.1 hT).1
 have h4:=(yK.1 hT).2.1
 have hr:List.replicate (Int.toNat n) (0:Int)=qF n []:=by
  unfold qF
  refine List.ext_getElem (by simp) fun i h1 h2=>by simp [TG]
 obtain⟨w1,w2⟩:=DL (ps.length:Int) n ps (qF n []) (by omega) rfl hT rfl
 have hw:=alQ n ps ps.length (Nat.le_refl _) (fun b hb a ha=>by
  have hp:okP n (atI ps (b:Int))=true:=aeh hT (by unfold atI;rw [Int.toNat_natCast,List.getElem?_eq_getElem hb];exact List.getElem_mem hb)
  obtain⟨i1,i2⟩:=aeJ (qs:=ps.take b) hp (by rw [List.length_take];omega)
  subst ha
  simp only [aB,i2,agz hb]
  rfl)
 have e1:(ps.length:Int).toNat=ps.length:=by omega
 rw [e1]at w2
 refine⟨?_,?_⟩
 ·simp only [mv,ig,cJ,hr,w2,bt,hw,List.take_length]
 ·simp only [mw,ig,cJ,hr,w1,allT]
  simp;omega
def tw:List SV→List Entry→Option Out
 | [.one ⟨true,[.val (.int .i64 x0),.ref 0]⟩],[.row false 2 (.int .i64) x1]=>some ⟨(.one ⟨false,[(.ref 1)]⟩),[(.row false 2 amU x1)],[(.row true 2 amU (qF x0 x1))],[isT x0 x1]⟩
 |_,_=>none
def br:PF Tryz.prog:=PF.alt Fh tw (by
 intro args es o h hnd;unfold tw at h;split at h
 ·rename_i x0 x1
  cases h
  have hnd:=eD hnd
  have hh:=ak0 x0 x1 hnd
  obtain⟨e0,en⟩:=hh
  exact gW rfl (eN en) rfl rfl (by simp only [e0] <;> rfl)
 ·cases h)
end Go.SX

namespace Go.SX
open Go.Proofs
set_option maxRecDepth 100000
def LW(x0:Int):Bool:=aJ x0 (2:Int) (8:Int)
def RY:List SV→List Entry→Option Out
 | [.one ⟨false,[.val (.int .i64 x0)]⟩],[]=>some ⟨(.one ⟨false,[(.val (.bool (LW x0)))]⟩),[],[],[]⟩
 |_,_=>none
def LN:PF Tryz.prog:=PF.ofG Tryz.prog [eQ] [] ay 72 Tryz.f72 Tryz.func72 (fun c _=>LOk.nil c) RY (by
 intro vs es r h;unfold RY at h;split at h
 ·cases h;kernel_rfl
 ·cases h)
abbrev fX:=Int×Int×List (Int×(Int×Int))×Int×Int×Int
section
variable (y0 y1:Int)(y2:List (Int×(Int×Int)))(y3 y4:Int)
def mK:Int×Int×Int:=Option.getD y2[Int.toNat y0]? ((0:Int),(0:Int),(0:Int))
def io:Bool:=(mK y0 y2).1==y3
def rq:Bool:=ltI y0 y1
def rr:Bool:=leI (0:Int) y0
def rt:Bool:=ltI y0 (↑y2.length:Int)
def ru:Bool:=ltN y0.toNat y2.length
def rv:Bool:= !(io y0 y2 y3&&true)||leI (0:Int) y0
def rx:Bool:= !(io y0 y2 y3&&true)||ltI y0 (↑y2.length:Int)
def ry:Bool:= !(io y0 y2 y3&&true)||ltN y0.toNat y2.length
def rz:Bool:=bif io y0 y2 y3 then ((mK y0 y2).2).1==y4 else false
def rA:Int:=IntKind.wrap .i64 (y0 + (1:Int))
end
def Sg:fX→List (Nat×SV)
 |(y0,y1,_,_,_,_)=> [(7,(.one ⟨false,[(.val (.int .i64 y0))]⟩)),(5,(.one ⟨false,[(.val (.int .i64 y1))]⟩)),(1,(.one ⟨false,[(.ref 0)]⟩)),(6,(.one ⟨false,[(.ptr 1 0)]⟩))]
def Sd:fX→List (Nat×Entry)
 |(_,_,y2,y3,y4,y5)=> [(0,(.row false 169 amS y2)),(1,(.box 169 [(.val (.int .i64 y3)),(.val (.int .i64 y4)),(.val (.int .i64 y5))]))]
def SB:Nat→fX→List (Nat×SV)
 |0,(_,_,_,_,_,_)=> [(4,(.one ⟨false,[(.val (.bool false))]⟩))]
 |_,(_,_,_,_,_,_)=> []
def Sy:Nat→fX→List (Nat×Entry)
 |0,(_,_,y2,y3,y4,y5)=> [(0,(.row false 169 amS y2)),(1,(.box 169 [(.val (.int .i64 y3)),(.val (.int .i64 y4)),(.val (.int .i64 y5))]))]
 |_,(_,_,y2,y3,y4,y5)=> [(0,(.row false 169 amS y2)),(1,(.box 169 [(.val (.int .i64 y3)),(.val (.int .i64 y4)),(.val (.int .i64 y5))]))]
def qg:fX→LT fX
 |(y0,y1,y2,y3,y4,y5)=> .ite (rq y0 y1) (.need [(rr y0),(rt y0 y2),(ru y0 y2),(rv y0 y2 y3),(rx y0 y2 y3),(ry y0 y2 y3)] (.ite (rz y0 y2 y3 y4) (.ext 0 [(0,0),(1,1)]) (.nrm ((rA y0),y1,y2,y3,y4,y5) [(0,0),(1,1)]))) (.ext 1 [(0,0),(1,1)])
def BO(s:St):Option fX:=
 (match s.look 7 with
 |some ⟨none,(.one ⟨false,[(.val (.int .i64 y0))]⟩)⟩=>
 (match s.look 5 with
 |some ⟨none,(.one ⟨false,[(.val (.int .i64 y1))]⟩)⟩=>
 (match s.look 1 with
 |some ⟨none,(.one ⟨false,[(.ref 0)]⟩)⟩=>
 (match s.look 6 with
 |some ⟨none,(.one ⟨false,[(.ptr 576 0)]⟩)⟩=>
 (match s.ent 0 with
 |some (.row false 169 (.pair (.int .i64) (.pair (.int .i64) (.int .i64))) y2)=>
 (match s.ent 576 with
 |some (.box 169 [(.val (.int .i64 y3)),(.val (.int .i64 y4)),(.val (.int .i64 y5))])=>
 some (y0,y1,y2,y3,y4,y5)
 |_=>none)
 |_=>none)
 |_=>none)
 |_=>none)
 |_=>none)
 |_=>none)
def bN:Lp fX where
 h:=⟨[36,37,38,41,42,43,44,45,46,47,48,49,50,51,52,53,54,55,56,57,58,4,39,40,7],[0,1],[],[]⟩
 JL:=Sg
 JE:=Sd
 XL:=SB
 XE:=Sy
 q:=fun j=>match j with | 0=> .ret | _=> .exit 2
 tags:= [0,1]
 lt:=qg
 fuel:=fun(y0,y1,y2,y3,y4,y5)=>y0.natAbs + y1.natAbs + y2.length + y3.natAbs + y4.natAbs + y5.natAbs
 fix:=fun(_,y1,y2,y3,y4,y5) (y0,_,_,_,_,_)=>(y0,y1,y2,y3,y4,y5)
 σ:= [(0,0),(1,576)]
 rd:=BO
theorem Qg:LoopOk Tryz.prog (memN [8,9,10,11,14,15,16,17,6,18,19,20,21,22,23,24,25,26,27,28,29,30,31,32,33,34,35,4,7,36,37,38,41,42,43,44,45,46,47,48,49,50,51,52,53,54,55,56,57,58,39,40,12,13,5]) bN.F (acJ (aD Tryz.f85 0) 0):=by
 refine Lp.ok (tbl:= [LN,eQ]) (lf:= []) ay bN (by kernel_rfl) (LOk.nil _) (fun _=>rfl) (fun j _=>by unfold bN;match j with | 0=>rfl | _ + 1=>rfl) ?_ ?_ ?_ ?_ (fun _=>rfl) ?_
 ·intro x;obtain⟨y0,y1,y2,y3,y4,y5⟩:=x;kernel_rfl
 ·intro x;obtain⟨y0,y1,y2,y3,y4,y5⟩:=x;kernel_rfl
 ·intro s x h
  have h:BO s=some x:=h
  unfold BO at h
  repeat' split at h
  all_goals cases h
  exact⟨aa (by assumption) rfl (aa (by assumption) rfl (aa (by assumption) rfl (aa (by assumption) rfl (rfl)))),ac rfl (by assumption) rfl (ac rfl (by assumption) rfl (rfl))⟩
 ·intro x;obtain⟨y0,y1,y2,y3,y4,y5⟩:=x;kernel_rfl
 ·intro x z;obtain⟨y0,y1,y2,y3,y4,y5⟩:=x;exact(And.intro (And.intro trivial rfl) trivial)
abbrev lr:=Int×Int×List (Int×(Int×Int))
section
variable (y0 y1:Int)(y2:List (Int×(Int×Int)))
def nf:Int×Int×Int:=Option.getD y2[Int.toNat y0]? ((0:Int),(0:Int),(0:Int))
def FP:Int×Int×List (Int×Int×Int)×Int×Int×Int:=((0:Int),y0,y2,(nf y0 y2).1,((nf y0 y2).2).1,(nf y0 y2).2.2)
def wa:Bool:=ltI y0 (↑y2.length:Int)
def NG:Bool:=leI (0:Int) y0
def NH:Bool:=ltN y0.toNat y2.length
def Hc:Bool:=bif bif !aJ ((nf y0 y2).1) (0:Int) (IntKind.wrap .i64 (y1 - (1:Int)))then true else !aJ (((nf y0 y2).2).1) (0:Int) (1:Int)then true else !aJ ((nf y0 y2).2.2) (0:Int) (1:Int)
def NI:Bool:=Lp.fin bN (FP y0 y2)
def Hd:Bool:=Nat.beq ((Lp.res bN (FP y0 y2)).1) (0:Nat)
def NJ:Int:=IntKind.wrap .i64 (y0 + (1:Int))
end
def Wh:lr→List (Nat×SV)
 |(y0,y1,_)=> [(5,(.one ⟨false,[(.val (.int .i64 y0))]⟩)),(1,(.one ⟨false,[(.ref 0)]⟩)),(0,(.one ⟨false,[(.val (.int .i64 y1))]⟩))]
def Wb:lr→List (Nat×Entry)
 |(_,_,y2)=> [(0,(.row false 169 amS y2))]
def WD:Nat→lr→List (Nat×SV)
 |0,(_,_,_)=> [(4,(.one ⟨false,[(.val (.bool false))]⟩))]
 |1,(_,_,_)=> [(4,(.one ⟨false,[(.val (.bool false))]⟩))]
 |_,(_,_,_)=> []
def Wx:Nat→lr→List (Nat×Entry)
 |0,(_,_,y2)=> [(0,(.row false 169 amS y2))]
 |1,(_,_,y2)=> [(0,(.row false 169 amS y2))]
 |_,(_,_,y2)=> [(0,(.row false 169 amS y2))]
def uh:lr→LT lr
 |(y0,y1,y2)=> .ite (wa y0 y2) (.need [(NG y0),(wa y0 y2),(NH y0 y2)] (.ite (Hc y0 y1 y2) (.ext 0 [(0,0)]) (.need [(NI y0 y2)] (.ite (Hd y0 y2) (.ext 1 [(0,0)]) (.nrm ((NJ y0),y1,y2) [(0,0)]))))) (.ext 2 [(0,0)])
def FN(s:St):Option lr:=
 (match s.look 5 with
 |some ⟨none,(.one ⟨false,[(.val (.int .i64 y0))]⟩)⟩=>
 (match s.look 1 with
 |some ⟨none,(.one ⟨false,[(.ref 0)]⟩)⟩=>
 (match s.look 0 with
 |some ⟨none,(.one ⟨false,[(.val (.int .i64 y1))]⟩)⟩=>
 (match s.ent 0 with
 |some (.row false 169 (.pair (.int .i64) (.pair (.int .i64) (.int .i64))) y2)=>
 some (y0,y1,y2)
 |_=>none)
 |_=>none)
 |_=>none)
 |_=>none)
def cg:Lp lr where
 h:=⟨[8,9,10,11,14,15,16,17,6,18,19,20,21,22,23,24,25,26,27,28,29,30,31,32,33,34,35,4,7,36,37,38,41,42,43,44,45,46,47,48,49,50,51,52,53,54,55,56,57,58,39,40,12,13,5],[0],[],[]⟩
 JL:=Wh
 JE:=Wb
 XL:=WD
 XE:=Wx
 q:=fun j=>match j with | 0=> .ret | 1=> .ret | _=> .exit 0
 tags:= [0,1,2]
 lt:=uh
 fuel:=fun(y0,y1,y2)=>y0.natAbs + y1.natAbs + y2.length
 fix:=fun(_,y1,y2) (y0,_,_)=>(y0,y1,y2)
 σ:= [(0,0)]
 rd:=FN
theorem TS:LoopOk Tryz.prog (fun k=>Nat.blt k Tryz.f85.ntmps) cg.F (aD Tryz.f85 0):=by
 refine Lp.ok (tbl:= [LN,eQ]) (lf:= [bN.F]) ay cg (by kernel_rfl) (LOk.allT (l:= [acJ (aD Tryz.f85 0) 0]) (by kernel_rfl) (.cons Qg (.nil _))) (fun _=>rfl) (fun j _=>by unfold cg;match j with | 0=>rfl | 1=>rfl | _ + 2=>rfl) ?_ ?_ ?_ ?_ (fun _=>rfl) ?_
 ·intro x;obtain⟨y0,y1,y2⟩:=x;kernel_rfl
 ·intro x;obtain⟨y0,y1,y2⟩:=x;kernel_rfl
 ·intro s x h
  have h:FN s=some x:=h
  unfold FN at h
  repeat' split at h
  all_goals cases h
  exact⟨aa (by assumption) rfl (aa (by assumption) rfl (aa (by assumption) rfl (rfl))),ac rfl (by assumption) rfl (rfl)⟩
 ·intro x;obtain⟨y0,y1,y2⟩:=x;kernel_rfl
 ·intro x z;obtain⟨y0,y1,y2⟩:=x;exact(And.intro (And.intro trivial (And.intro trivial rfl)) trivial)
section
variable (x0:Int)(x1:List (Int×Int×Int))
def zU:Int×Int×List (Int×Int×Int):=((0:Int),x0,x1)
def LQ:Bool:=bif Nat.beq ((Lp.res cg (zU x0 x1)).1) (0:Nat)then false else bif Nat.beq ((Lp.res cg (zU x0 x1)).1) (1:Nat)then false else bif LW x0 then leI (↑x1.length:Int) (8:Int)else false
def LR:Bool:=allT [Lp.fin cg (zU x0 x1)]
end
def RT:List SV→List Entry→Option Out
 | [.one ⟨false,[.val (.int .i64 x0)]⟩,.one ⟨false,[.ref 0]⟩],[.row false 169 (.pair (.int .i64) (.pair (.int .i64) (.int .i64))) x1]=>some ⟨(.one ⟨false,[(.val (.bool (LQ x0 x1)))]⟩),[(.row false 169 amS x1)],[],[(LR x0 x1)]⟩
 |_,_=>none
def ac9:PF Tryz.prog:=PF.ofG Tryz.prog [LN,eQ] [cg.F] ay 85 Tryz.f85 Tryz.func85 (LOk.fnT (l:= [aD Tryz.f85 0]) (by kernel_rfl) (.cons TS (.nil _))) RT (by
 intro vs es r h;unfold RT at h;split at h
 ·cases h;kernel_rfl
 ·cases h)
def FD(x0:Int):Bool:=bif x0==(0:Int)then true else x0==(1:Int)
def Mo:List SV→List Entry→Option Out
 | [.one ⟨false,[.val (.int .i64 x0)]⟩],[]=>some ⟨(.one ⟨false,[(.val (.bool (FD x0)))]⟩),[],[],[]⟩
 |_,_=>none
def MF:PF Tryz.prog:=PF.ofG Tryz.prog [] [] ay 163 Tryz.f163 Tryz.func163 (fun c _=>LOk.nil c) Mo (by
 intro vs es r h;unfold Mo at h;split at h
 ·cases h;kernel_rfl
 ·cases h)
def tA(x0 x1 x3 x4:Int):Bool:=bif x0==x3 then x1==x4 else false
def tx:List SV→List Entry→Option Out
 | [(.one ⟨true,[(.val (.int .i64 x0)),(.val (.int .i64 x1)),(.val (.int .i64 _x2))]⟩),(.one ⟨false,[(.ptr 0 0)]⟩)],[(.box 169 [(.val (.int .i64 x3)),(.val (.int .i64 x4)),(.val (.int .i64 x5))])]=>some ⟨(.one ⟨false,[(.val (.bool (tA x0 x1 x3 x4)))]⟩),[(.box 169 [(.val (.int .i64 x3)),(.val (.int .i64 x4)),(.val (.int .i64 x5))])],[],[]⟩
 |_,_=>none
def Hv:PF Tryz.prog:=PF.kept (PF.ofG Tryz.prog [] [] ay 165 Tryz.f165 Tryz.func165 (fun c _=>LOk.nil c) tx (by
 intro vs es r h;unfold tx at h;split at h
 ·cases h;kernel_rfl
 ·cases h)) [0] (by
 intro vs es r h;have h:tx vs es=some r:=h;unfold tx at h;split at h
 ·cases h;exact List.forall_mem_cons.2 ⟨rfl,fun _ h=>(by cases h)⟩
 ·cases h)
abbrev aI:=Int×Int×Int×Int×Int×List (Int×(Int×Int))
section
variable (y0 y1 y2 y3:Int)(y5:List (Int×(Int×Int)))
def bV:Int×Int×Int:=Option.getD y5[Int.toNat y0]? ((0:Int),(0:Int),(0:Int))
def dC:Bool:=ltI y0 y1
def dD:Bool:=leI (0:Int) y0
def dE:Bool:=ltI y0 (↑y5.length:Int)
def dF:Bool:=ltN y0.toNat y5.length
def dG:Bool:=tA ((bV y0 y5).1) (((bV y0 y5).2).1) y2 y3
def dH:Int:=IntKind.wrap .i64 (y0 + (1:Int))
end
def AZ:aI→List (Nat×SV)
 |(y0,y1,_,_,_,_)=> [(8,(.one ⟨false,[(.val (.int .i64 y0))]⟩)),(7,(.one ⟨false,[(.val (.int .i64 y1))]⟩)),(1,(.one ⟨false,[(.clo 165 [0])]⟩)),(0,(.one ⟨false,[(.ref 1)]⟩))]
def AY:aI→List (Nat×Entry)
 |(_,_,y2,y3,y4,y5)=> [(0,(.box 169 [(.val (.int .i64 y2)),(.val (.int .i64 y3)),(.val (.int .i64 y4))])),(1,(.row false 169 amS y5))]
def Bb:Nat→aI→List (Nat×SV)
 |0,(y0,_,_,_,_,_)=> [(4,(.one ⟨false,[(.val (.int .i64 y0))]⟩))]
 |_,(_,_,_,_,_,_)=> []
def Ba:Nat→aI→List (Nat×Entry)
 |0,(_,_,y2,y3,y4,y5)=> [(0,(.box 169 [(.val (.int .i64 y2)),(.val (.int .i64 y3)),(.val (.int .i64 y4))])),(1,(.row false 169 amS y5))]
 |_,(_,_,y2,y3,y4,y5)=> [(0,(.box 169 [(.val (.int .i64 y2)),(.val (.int .i64 y3)),(.val (.int .i64 y4))])),(1,(.row false 169 amS y5))]
def dl:aI→LT aI
 |(y0,y1,y2,y3,y4,y5)=> .ite (dC y0 y1) (.need [(dD y0),(dE y0 y5),(dF y0 y5)] (.ite (dG y0 y2 y3 y5) (.ext 0 [(0,0),(1,1)]) (.nrm ((dH y0),y1,y2,y3,y4,y5) [(0,0),(1,1)]))) (.ext 1 [(0,0),(1,1)])
def jo(s:St):Option aI:=
 (match s.look 8 with
 |some ⟨none,(.one ⟨false,[(.val (.int .i64 y0))]⟩)⟩=>
 (match s.look 7 with
 |some ⟨none,(.one ⟨false,[(.val (.int .i64 y1))]⟩)⟩=>
 (match s.look 1 with
 |some ⟨none,(.one ⟨false,[(.clo 165 [1])]⟩)⟩=>
 (match s.look 0 with
 |some ⟨none,(.one ⟨false,[(.ref 0)]⟩)⟩=>
 (match s.ent 1 with
 |some (.box 169 [(.val (.int .i64 y2)),(.val (.int .i64 y3)),(.val (.int .i64 y4))])=>
 (match s.ent 0 with
 |some (.row false 169 (.pair (.int .i64) (.pair (.int .i64) (.int .i64))) y5)=>
 some (y0,y1,y2,y3,y4,y5)
 |_=>none)
 |_=>none)
 |_=>none)
 |_=>none)
 |_=>none)
 |_=>none)
def ag:Lp aI where
 h:=⟨[9,10,5,11,12,13,14,15,16,17,4,18,8],[0,1],[],[]⟩
 JL:=AZ
 JE:=AY
 XL:=Bb
 XE:=Ba
 q:=fun j=>match j with | 0=> .ret | _=> .exit 0
 tags:= [0,1]
 lt:=dl
 fuel:=fun(y0,y1,y2,y3,y4,y5)=>y0.natAbs + y1.natAbs + y2.natAbs + y3.natAbs + y4.natAbs + y5.length
 fix:=fun(_,y1,y2,y3,y4,y5) (y0,_,_,_,_,_)=>(y0,y1,y2,y3,y4,y5)
 σ:= [(0,1),(1,0)]
 rd:=jo
theorem zI:LoopOk Tryz.prog (fun k=>Nat.blt k Tryz.f215.ntmps) ag.F (aD Tryz.f215 0):=by
 refine Lp.ok (tbl:= [Hv]) (lf:= []) ay ag (by kernel_rfl) (LOk.nil _) (fun _=>rfl) (fun j _=>by unfold ag;match j with | 0=>rfl | _ + 1=>rfl) ?_ ?_ ?_ ?_ (fun _=>rfl) ?_
 ·intro x;obtain⟨y0,y1,y2,y3,y4,y5⟩:=x;kernel_rfl
 ·intro x;obtain⟨y0,y1,y2,y3,y4,y5⟩:=x;kernel_rfl
 ·intro s x h
  have h:jo s=some x:=h
  unfold jo at h
  repeat' split at h
  all_goals cases h
  exact⟨aa (by assumption) rfl (aa (by assumption) rfl (aa (by assumption) rfl (aa (by assumption) rfl (rfl)))),ac rfl (by assumption) rfl (ac rfl (by assumption) rfl (rfl))⟩
 ·intro x;obtain⟨y0,y1,y2,y3,y4,y5⟩:=x;kernel_rfl
 ·intro x z;obtain⟨y0,y1,y2,y3,y4,y5⟩:=x;exact(And.intro (And.intro trivial rfl) trivial)
section
variable (x0:List (Int×Int×Int))(x1 x2 x3:Int)
def ep:Int×Int×Int×Int×Int×List (Int×Int×Int):=((0:Int),(↑x0.length:Int),x1,x2,x3,x0)
def cG:Bool:=Nat.beq ((Lp.res ag (ep x0 x1 x2 x3)).1) (0:Nat)
def gZ:Int:=bif cG x0 x1 x2 x3 then ((Lp.res ag (ep x0 x1 x2 x3)).2).1else(-1:Int)
def g6:Int:=bif cG x0 x1 x2 x3 then x1 else x1
def g7:Int:=bif cG x0 x1 x2 x3 then x2 else x2
def g8:Int:=bif cG x0 x1 x2 x3 then x3 else x3
def g9:Bool:=allT [Lp.fin ag (ep x0 x1 x2 x3)]
end
def rW:List SV→List Entry→Option Out
 | [(.one ⟨false,[(.ref 0)]⟩),(.one ⟨false,[(.clo 165 [1])]⟩)],[(.row false 169 (.pair (.int .i64) (.pair (.int .i64) (.int .i64))) x0),(.box 169 [(.val (.int .i64 x1)),(.val (.int .i64 x2)),(.val (.int .i64 x3))])]=>some ⟨(.one ⟨false,[(.val (.int .i64 (gZ x0 x1 x2 x3)))]⟩),[(.row false 169 amS x0),(.box 169 [(.val (.int .i64 (g6 x0 x1 x2 x3))),(.val (.int .i64 (g7 x0 x1 x2 x3))),(.val (.int .i64 (g8 x0 x1 x2 x3)))])],[],[(g9 x0 x1 x2 x3)]⟩
 |_,_=>none
def kQ:PF Tryz.prog:=PF.ofG Tryz.prog [Hv] [ag.F] ay 215 Tryz.f215 Tryz.func215 (LOk.fnT (l:= [aD Tryz.f215 0]) (by kernel_rfl) (.cons zI (.nil _))) rW (by
 intro vs es r h;unfold rW at h;split at h
 ·cases h;kernel_rfl
 ·cases h)
section
variable (x0:List (Int×Int×Int))(x1 x2 x3:Int)
def dA:Bool:=leI (0:Int) (gZ x0 x1 x2 x3)
def jO:Int:=g6 x0 x1 x2 x3
def jP:Int:=g7 x0 x1 x2 x3
def jQ:Int:=g8 x0 x1 x2 x3
def dB:Bool:=allT [g9 x0 x1 x2 x3]
end
def qa:List SV→List Entry→Option Out
 | [(.one ⟨false,[(.ref 0)]⟩),(.one ⟨false,[(.clo 165 [1])]⟩)],[(.row false 169 (.pair (.int .i64) (.pair (.int .i64) (.int .i64))) x0),(.box 169 [(.val (.int .i64 x1)),(.val (.int .i64 x2)),(.val (.int .i64 x3))])]=>some ⟨(.one ⟨false,[(.val (.bool (dA x0 x1 x2 x3)))]⟩),[(.row false 169 amS x0),(.box 169 [(.val (.int .i64 (jO x0 x1 x2 x3))),(.val (.int .i64 (jP x0 x1 x2 x3))),(.val (.int .i64 (jQ x0 x1 x2 x3)))])],[],[(dB x0 x1 x2 x3)]⟩
 |_,_=>none
def b9:PF Tryz.prog:=PF.ofG Tryz.prog [kQ,PF.lend kQ,PF.fz kQ] [] ay 164 Tryz.f164 Tryz.func164 (fun c _=>LOk.nil c) qa (by
 intro vs es r h;unfold qa at h;split at h
 ·cases h;kernel_rfl
 ·cases h)
abbrev lq:=Int×Int×Int×List (Int×(Int×Int))
section
variable (y0 y1 y2:Int)(y3:List (Int×(Int×Int)))
def f4:Int×Int×Int:=Option.getD y3[Int.toNat y0]? ((0:Int),(0:Int),(0:Int))
def MA:List (Int×Int×Int):=List.drop (Int.toNat (0:Int)) (List.take y0.toNat y3)
def Bg:Bool:=ltI y0 y1
def GD:Bool:=leI (0:Int) y0
def Nz:Bool:=ltI y0 (↑y3.length:Int)
def NA:Bool:=ltN y0.toNat y3.length
def GE:Bool:=bif bif !aZ ((f4 y0 y3).1) (0:Int) (IntKind.wrap .i64 (y2 - (1:Int)))then true else bif ((f4 y0 y3).2).1!=(0:Int)then ((f4 y0 y3).2).1!=(1:Int)else false then true else !FD ((f4 y0 y3).2.2)
end
def NB:Bool:=leI (0:Int) (0:Int)
section
variable (y0:Int)(y3:List (Int×(Int×Int)))
def NC:Bool:=leI y0 (↑y3.length:Int)
def ND:Bool:=dB (MA y0 y3) ((f4 y0 y3).1) (((f4 y0 y3).2).1) ((f4 y0 y3).2.2)
def NE:Bool:=dA (MA y0 y3) ((f4 y0 y3).1) (((f4 y0 y3).2).1) ((f4 y0 y3).2.2)
def NF:Int:=IntKind.wrap .i64 (y0 + (1:Int))
end
def Wd:lq→List (Nat×SV)
 |(y0,y1,y2,_)=> [(9,(.one ⟨false,[(.val (.int .i64 y0))]⟩)),(8,(.one ⟨false,[(.val (.int .i64 y1))]⟩)),(7,(.one ⟨false,[(.ref 0)]⟩)),(0,(.one ⟨false,[(.val (.int .i64 y2))]⟩)),(1,(.one ⟨false,[(.ref 0)]⟩))]
def VX:lq→List (Nat×Entry)
 |(_,_,_,y3)=> [(0,(.row false 169 amS y3))]
def Wz:Nat→lq→List (Nat×SV)
 |0,(_,_,_,_)=> [(4,(.one ⟨false,[(.val (.bool false))]⟩))]
 |1,(_,_,_,_)=> [(4,(.one ⟨false,[(.val (.bool false))]⟩))]
 |_,(_,_,_,_)=> []
def Wt:Nat→lq→List (Nat×Entry)
 |0,(_,_,_,y3)=> [(0,(.row false 169 amS y3))]
 |1,(_,_,_,y3)=> [(0,(.row false 169 amS y3))]
 |_,(_,_,_,y3)=> [(0,(.row false 169 amS y3))]
def ud:lq→LT lq
 |(y0,y1,y2,y3)=> .ite (Bg y0 y1) (.need [(GD y0),(Nz y0 y3),(NA y0 y3)] (.ite (GE y0 y2 y3) (.ext 0 [(0,0)]) (.need [(NB),(GD y0),(NC y0 y3),(ND y0 y3)] (.ite (NE y0 y3) (.ext 1 [(0,0)]) (.nrm ((NF y0),y1,y2,y3) [(0,0)]))))) (.ext 2 [(0,0)])
def FJ(s:St):Option lq:=
 (match s.look 9 with
 |some ⟨none,(.one ⟨false,[(.val (.int .i64 y0))]⟩)⟩=>
 (match s.look 8 with
 |some ⟨none,(.one ⟨false,[(.val (.int .i64 y1))]⟩)⟩=>
 (match s.look 7 with
 |some ⟨none,(.one ⟨false,[(.ref 0)]⟩)⟩=>
 (match s.look 0 with
 |some ⟨none,(.one ⟨false,[(.val (.int .i64 y2))]⟩)⟩=>
 (match s.look 1 with
 |some ⟨none,(.one ⟨false,[(.ref 0)]⟩)⟩=>
 (match s.ent 0 with
 |some (.row false 169 (.pair (.int .i64) (.pair (.int .i64) (.int .i64))) y3)=>
 some (y0,y1,y2,y3)
 |_=>none)
 |_=>none)
 |_=>none)
 |_=>none)
 |_=>none)
 |_=>none)
def ce:Lp lq where
 h:=⟨[10,11,12,13,6,5,14,15,16,17,18,19,20,21,22,23,24,25,26,27,28,29,30,31,32,33,34,35,4,36,37,38,39,40,41,9],[0],[],[]⟩
 JL:=Wd
 JE:=VX
 XL:=Wz
 XE:=Wt
 q:=fun j=>match j with | 0=> .ret | 1=> .ret | _=> .exit 0
 tags:= [0,1,2]
 lt:=ud
 fuel:=fun(y0,y1,y2,y3)=>y0.natAbs + y1.natAbs + y2.natAbs + y3.length
 fix:=fun(_,y1,y2,y3) (y0,_,_,_)=>(y0,y1,y2,y3)
 σ:= [(0,0)]
 rd:=FJ
theorem TO:LoopOk Tryz.prog (fun k=>Nat.blt k Tryz.f76.ntmps) ce.F (aD Tryz.f76 0):=by
 refine Lp.ok (tbl:= [MF,fY,b9,PF.lend b9,PF.fz b9]) (lf:= []) ay ce (by kernel_rfl) (LOk.nil _) (fun _=>rfl) (fun j _=>by unfold ce;match j with | 0=>rfl | 1=>rfl | _ + 2=>rfl) ?_ ?_ ?_ ?_ (fun _=>rfl) ?_
 ·intro x;obtain⟨y0,y1,y2,y3⟩:=x;kernel_rfl
 ·intro x;obtain⟨y0,y1,y2,y3⟩:=x;kernel_rfl
 ·intro s x h
  have h:FJ s=some x:=h
  unfold FJ at h
  repeat' split at h
  all_goals cases h
  exact⟨aa (by assumption) rfl (aa (by assumption) rfl (aa (by assumption) rfl (aa (by assumption) rfl (aa (by assumption) rfl (rfl))))),ac rfl (by assumption) rfl (rfl)⟩
 ·intro x;obtain⟨y0,y1,y2,y3⟩:=x;kernel_rfl
 ·intro x z;obtain⟨y0,y1,y2,y3⟩:=x;exact(And.intro (And.intro trivial (And.intro trivial rfl)) trivial)
section
variable (x0:Int)(x1:List (Int×Int×Int))
def zf:Int×Int×Int×List (Int×Int×Int):=((0:Int),(↑x1.length:Int),x0,x1)
def Lm:Bool:=bif Nat.beq ((Lp.res ce (zf x0 x1)).1) (0:Nat)then false else bif Nat.beq ((Lp.res ce (zf x0 x1)).1) (1:Nat)then false else leI (↑x1.length:Int) (8:Int)
def Ln:Bool:=allT [Lp.fin ce (zf x0 x1)]
end
def RI:List SV→List Entry→Option Out
 | [.one ⟨false,[.val (.int .i64 x0)]⟩,.one ⟨false,[.ref 0]⟩],[.row false 169 (.pair (.int .i64) (.pair (.int .i64) (.int .i64))) x1]=>some ⟨(.one ⟨false,[(.val (.bool (Lm x0 x1)))]⟩),[(.row false 169 amS x1)],[],[(Ln x0 x1)]⟩
 |_,_=>none
def ac0:PF Tryz.prog:=PF.ofG Tryz.prog [MF,fY,b9,PF.lend b9,PF.fz b9] [ce.F] ay 76 Tryz.f76 Tryz.func76 (LOk.fnT (l:= [aD Tryz.f76 0]) (by kernel_rfl) (.cons TO (.nil _))) RI (by
 intro vs es r h;unfold RI at h;split at h
 ·cases h;kernel_rfl
 ·cases h)
def JB(x0:Int)(x1:List (Int×Int×Int)):Int:=IntKind.wrap .i64 (x0 - (↑x1.length:Int))
def eR(x0:Int)(x1:List (Int×Int×Int)):Int:=bif ltI (JB x0 x1) (0:Int)then(-1:Int)else JB x0 x1
def KT:List SV→List Entry→Option Out
 | [.one ⟨false,[.ref 0]⟩,.one ⟨false,[.val (.int .i64 x0)]⟩],[.row false 206 (.pair (.int .i64) (.pair (.int .i64) (.int .i64))) x1]=>some ⟨(.one ⟨false,[(.val (.int .i64 (eR x0 x1)))]⟩),[(.row false 206 amS x1)],[],[]⟩
 |_,_=>none
def ED:PF Tryz.prog:=PF.ofG Tryz.prog [] [] ay 105 Tryz.f105 Tryz.func105 (fun c _=>LOk.nil c) KT (by
 intro vs es r h;unfold KT at h;split at h
 ·cases h;kernel_rfl
 ·cases h)
def Mq:List SV→List Entry→Option Out
 | [.one ⟨true,[.val (.int .i64 x0),.val (.int .i64 x1),.val (.int .i64 x2)]⟩],[]=>some ⟨(.one ⟨true,[(.val (.int .i64 x0)),(.val (.int .i64 x1)),(.val (.int .i64 x2))]⟩),[],[],[]⟩
 |_,_=>none
def MI:PF Tryz.prog:=PF.ofG Tryz.prog [] [] ay 190 Tryz.f190 Tryz.func190 (fun c _=>LOk.nil c) Mq (by
 intro vs es r h;unfold Mq at h;split at h
 ·cases h;kernel_rfl
 ·cases h)
abbrev dT:=Int×List (Int×(Int×Int))×List (Int×(Int×Int))
section
variable (y0:Int)(y1 y2:List (Int×(Int×Int)))
def iK:Int×Int×Int:=Option.getD y1[Int.toNat y0]? ((0:Int),(0:Int),(0:Int))
def li:Bool:=ltI y0 (↑y1.length:Int)
def lj:Bool:=leI (0:Int) y0
def pu:Bool:=ltN y0.toNat y1.length
def pv:Bool:=ltI y0 (↑y2.length:Int)
def pw:Bool:=ltN y0.toNat y2.length
def px:Int:=IntKind.wrap .i64 (y0 + (1:Int))
def py:List (Int×(Int×Int)):=List.set y2 y0.toNat ((iK y0 y1).1,((iK y0 y1).2).1,(iK y0 y1).2.2)
end
def PX:dT→List (Nat×SV)
 |(y0,_,_)=> [(4,(.one ⟨false,[(.val (.int .i64 y0))]⟩)),(0,(.one ⟨false,[(.ref 0)]⟩)),(3,(.one ⟨false,[(.ref 1)]⟩))]
def PU:dT→List (Nat×Entry)
 |(_,y1,y2)=> [(0,(.row false 206 amS y1)),(1,(.row true 169 amS y2))]
def Qd:Nat→dT→List (Nat×SV)
 |_,(_,_,_)=> []
def Qa:Nat→dT→List (Nat×Entry)
 |_,(_,y1,y2)=> [(0,(.row false 206 amS y1)),(1,(.row true 169 amS y2))]
def ow:dT→LT dT
 |(y0,y1,y2)=> .ite (li y0 y1) (.need [(lj y0),(li y0 y1),(pu y0 y1),(lj y0),(pv y0 y2),(pw y0 y2)] (.nrm ((px y0),y1,(py y0 y1 y2)) [(0,0),(1,1)])) (.ext 0 [(0,0),(1,1)])
def yZ(s:St):Option dT:=
 (match s.look 4 with
 |some ⟨none,(.one ⟨false,[(.val (.int .i64 y0))]⟩)⟩=>
 (match s.look 0 with
 |some ⟨none,(.one ⟨false,[(.ref 0)]⟩)⟩=>
 (match s.look 3 with
 |some ⟨none,(.one ⟨false,[(.ref 320)]⟩)⟩=>
 (match s.ent 0 with
 |some (.row false 206 (.pair (.int .i64) (.pair (.int .i64) (.int .i64))) y1)=>
 (match s.ent 320 with
 |some (.row true 169 (.pair (.int .i64) (.pair (.int .i64) (.int .i64))) y2)=>
 some (y0,y1,y2)
 |_=>none)
 |_=>none)
 |_=>none)
 |_=>none)
 |_=>none)
def bJ:Lp dT where
 h:=⟨[8,9,10,11,14,15,16,17,18,19,20,21,12,13,4],[0,1],[],[]⟩
 JL:=PX
 JE:=PU
 XL:=Qd
 XE:=Qa
 q:=fun j=>match j with | _=> .exit 0
 tags:= [0]
 lt:=ow
 fuel:=fun(y0,y1,y2)=>y0.natAbs + y1.length + y2.length
 fix:=fun(_,y1,_) (y0,_,y2)=>(y0,y1,y2)
 σ:= [(0,0),(1,320)]
 rd:=yZ
theorem NS:LoopOk Tryz.prog (fun k=>Nat.blt k Tryz.f111.ntmps) bJ.F (aD Tryz.f111 0):=by
 refine Lp.ok (tbl:= [MI]) (lf:= []) ay bJ (by kernel_rfl) (LOk.nil _) (fun _=>rfl) (fun _ _=>rfl) ?_ ?_ ?_ ?_ (fun _=>rfl) ?_
 ·intro x;obtain⟨y0,y1,y2⟩:=x;kernel_rfl
 ·intro x;obtain⟨y0,y1,y2⟩:=x;kernel_rfl
 ·intro s x h
  have h:yZ s=some x:=h
  unfold yZ at h
  repeat' split at h
  all_goals cases h
  exact⟨aa (by assumption) rfl (aa (by assumption) rfl (aa (by assumption) rfl (rfl))),ac rfl (by assumption) rfl (ac rfl (by assumption) rfl (rfl))⟩
 ·intro x;obtain⟨y0,y1,y2⟩:=x;kernel_rfl
 ·intro x z;obtain⟨y0,y1,y2⟩:=x;exact(And.intro rfl trivial)
section
variable (x0:List (Int×Int×Int))
def wl:Int×List (Int×Int×Int)×List (Int×Int×Int):=((0:Int),x0,List.replicate (Int.toNat (↑x0.length:Int)) ((0:Int),(0:Int),(0:Int)))
def yN:List (Int×(Int×Int)):=(Lp.res bJ (wl x0)).2.2.2
def yO:Bool:=allT [leI (0:Int) (↑x0.length:Int),leI (↑x0.length:Int) (↑x0.length:Int),leI ((↑(24:Nat):Int) * (↑x0.length:Int)) (281474976710656:Int),leI (↑x0.length:Int) (9223372036854775807:Int),Lp.fin bJ (wl x0)]
end
def KU:List SV→List Entry→Option Out
 | [.one ⟨false,[.ref 0]⟩],[.row false 206 (.pair (.int .i64) (.pair (.int .i64) (.int .i64))) x0]=>some ⟨(.one ⟨false,[(.ref 1)]⟩),[(.row false 206 amS x0)],[(.row true 169 amS (yN x0))],[(yO x0)]⟩
 |_,_=>none
def Vx:PF Tryz.prog:=PF.ofG Tryz.prog [MI] [bJ.F] ay 111 Tryz.f111 Tryz.func111 (LOk.fnT (l:= [aD Tryz.f111 0]) (by kernel_rfl) (.cons NS (.nil _))) KU (by
 intro vs es r h;unfold KU at h;split at h
 ·cases h;kernel_rfl
 ·cases h)
def ua(x0 x1 x2 x3 x4 x5:Int):Bool:=bif x0 !=x3 then false else bif x1 !=x4 then false else bif x2 !=x5 then false else true
def Mp:List SV→List Entry→Option Out
 | [.one ⟨true,[.val (.int .i64 x0),.val (.int .i64 x1),.val (.int .i64 x2)]⟩,.one ⟨true,[.val (.int .i64 x3),.val (.int .i64 x4),.val (.int .i64 x5)]⟩],[]=>some ⟨(.one ⟨false,[(.val (.bool (ua x0 x1 x2 x3 x4 x5)))]⟩),[],[],[]⟩
 |_,_=>none
def MH:PF Tryz.prog:=PF.ofG Tryz.prog [] [] ay 194 Tryz.f194 Tryz.func194 (fun c _=>LOk.nil c) Mp (by
 intro vs es r h;unfold Mp at h;split at h
 ·cases h;kernel_rfl
 ·cases h)
abbrev dS:=Int×List (Int×(Int×Int))×List (Int×(Int×Int))
section
variable (y0:Int)(y1 y2:List (Int×(Int×Int)))
def iI:Int×Int×Int:=Option.getD y1[Int.toNat y0]? ((0:Int),(0:Int),(0:Int))
def iJ:Int×Int×Int:=Option.getD y2[Int.toNat y0]? ((0:Int),(0:Int),(0:Int))
def lg:Bool:=ltI y0 (↑y1.length:Int)
def lh:Bool:=leI (0:Int) y0
def pn:Bool:=ltN y0.toNat y1.length
def po:Bool:=ltI y0 (↑y2.length:Int)
def pp:Bool:=ltN y0.toNat y2.length
def pq:Bool:= !ua ((iI y0 y1).1) (((iI y0 y1).2).1) ((iI y0 y1).2.2) ((iJ y0 y2).1) (((iJ y0 y2).2).1) ((iJ y0 y2).2.2)
def pt:Int:=IntKind.wrap .i64 (y0 + (1:Int))
end
def PW:dS→List (Nat×SV)
 |(y0,_,_)=> [(5,(.one ⟨false,[(.val (.int .i64 y0))]⟩)),(0,(.one ⟨false,[(.ref 0)]⟩)),(1,(.one ⟨false,[(.ref 1)]⟩))]
def PT:dS→List (Nat×Entry)
 |(_,y1,y2)=> [(0,(.row false 169 amS y1)),(1,(.row false 169 amS y2))]
def Qc:Nat→dS→List (Nat×SV)
 |0,(_,_,_)=> [(4,(.one ⟨false,[(.val (.bool false))]⟩))]
 |_,(_,_,_)=> []
def PZ:Nat→dS→List (Nat×Entry)
 |0,(_,y1,y2)=> [(0,(.row false 169 amS y1)),(1,(.row false 169 amS y2))]
 |_,(_,y1,y2)=> [(0,(.row false 169 amS y1)),(1,(.row false 169 amS y2))]
def ov:dS→LT dS
 |(y0,y1,y2)=> .ite (lg y0 y1) (.need [(lh y0),(lg y0 y1),(pn y0 y1),(lh y0),(po y0 y2),(pp y0 y2)] (.ite (pq y0 y1 y2) (.ext 0 [(0,0),(1,1)]) (.nrm ((pt y0),y1,y2) [(0,0),(1,1)]))) (.ext 1 [(0,0),(1,1)])
def yY(s:St):Option dS:=
 (match s.look 5 with
 |some ⟨none,(.one ⟨false,[(.val (.int .i64 y0))]⟩)⟩=>
 (match s.look 0 with
 |some ⟨none,(.one ⟨false,[(.ref 0)]⟩)⟩=>
 (match s.look 1 with
 |some ⟨none,(.one ⟨false,[(.ref 1)]⟩)⟩=>
 (match s.ent 0 with
 |some (.row false 169 (.pair (.int .i64) (.pair (.int .i64) (.int .i64))) y1)=>
 (match s.ent 1 with
 |some (.row false 169 (.pair (.int .i64) (.pair (.int .i64) (.int .i64))) y2)=>
 some (y0,y1,y2)
 |_=>none)
 |_=>none)
 |_=>none)
 |_=>none)
 |_=>none)
def bB:Lp dS where
 h:=⟨[11,12,13,14,17,18,19,20,21,22,23,24,25,26,4,15,16,5],[0,1],[],[]⟩
 JL:=PW
 JE:=PT
 XL:=Qc
 XE:=PZ
 q:=fun j=>match j with | 0=> .ret | _=> .exit 0
 tags:= [0,1]
 lt:=ov
 fuel:=fun(y0,y1,y2)=>y0.natAbs + y1.length + y2.length
 fix:=fun(_,y1,y2) (y0,_,_)=>(y0,y1,y2)
 σ:= [(0,0),(1,1)]
 rd:=yY
theorem NR:LoopOk Tryz.prog (fun k=>Nat.blt k Tryz.f117.ntmps) bB.F (aD Tryz.f117 0):=by
 refine Lp.ok (tbl:= [MH]) (lf:= []) ay bB (by kernel_rfl) (LOk.nil _) (fun _=>rfl) (fun j _=>by unfold bB;match j with | 0=>rfl | _ + 1=>rfl) ?_ ?_ ?_ ?_ (fun _=>rfl) ?_
 ·intro x;obtain⟨y0,y1,y2⟩:=x;kernel_rfl
 ·intro x;obtain⟨y0,y1,y2⟩:=x;kernel_rfl
 ·intro s x h
  have h:yY s=some x:=h
  unfold yY at h
  repeat' split at h
  all_goals cases h
  exact⟨aa (by assumption) rfl (aa (by assumption) rfl (aa (by assumption) rfl (rfl))),ac rfl (by assumption) rfl (ac rfl (by assumption) rfl (rfl))⟩
 ·intro x;obtain⟨y0,y1,y2⟩:=x;kernel_rfl
 ·intro x z;obtain⟨y0,y1,y2⟩:=x;exact(And.intro (And.intro trivial rfl) trivial)
section
variable (x0 x1:List (Int×Int×Int))
def wj:Bool:=(↑x0.length:Int)!=(↑x1.length:Int)
def wk:Int×List (Int×Int×Int)×List (Int×Int×Int):=((0:Int),x0,x1)
def yL:Bool:=bif wj x0 x1 then false else bif Nat.beq ((Lp.res bB (wk x0 x1)).1) (0:Nat)then false else true
def yM:Bool:=allT [wj x0 x1||Lp.fin bB (wk x0 x1)]
end
def KS:List SV→List Entry→Option Out
 | [.one ⟨false,[.ref 0]⟩,.one ⟨false,[.ref 1]⟩],[.row false 169 (.pair (.int .i64) (.pair (.int .i64) (.int .i64))) x0,.row false 169 (.pair (.int .i64) (.pair (.int .i64) (.int .i64))) x1]=>some ⟨(.one ⟨false,[(.val (.bool (yL x0 x1)))]⟩),[(.row false 169 amS x0),(.row false 169 amS x1)],[],[(yM x0 x1)]⟩
 |_,_=>none
def Vw:PF Tryz.prog:=PF.ofG Tryz.prog [MH] [bB.F] ay 117 Tryz.f117 Tryz.func117 (LOk.fnT (l:= [aD Tryz.f117 0]) (by kernel_rfl) (.cons NR (.nil _))) KS (by
 intro vs es r h;unfold KS at h;split at h
 ·cases h;kernel_rfl
 ·cases h)
end Go.SX

namespace Go.SX
open Go.Proofs
set_option maxRecDepth 100000
def fIn(n:Int)(f:Int×Int×Int):Bool:=inR f.1 0 (IntKind.i64.wrap (n - 1))&&(inR f.2.1 0 1&&inR f.2.2 0 1)
def Oq(f g:Int×Int×Int):Bool:=g.1==f.1&&g.2.1==f.2.1
def fAt(fs:List (Int×Int×Int))(b:Nat):Int×Int×Int:=fs[b]?.getD (0,0,0)
def aaq(n:Int)(fs:List (Int×Int×Int))(b:Nat):Bool:= !fIn n (fAt fs b)
def aeA(fs:List (Int×Int×Int))(b:Nat):Bool:=(fs.take b).any (Oq (fAt fs b))
def okFs(n:Int)(fs:List (Int×Int×Int)):Bool:=leN fs.length 8&&(List.range fs.length).all fun b=> !(aaq n fs b||aeA fs b)
theorem ahm{fs:List (Int×Int×Int)}{P:Int×Int×Int→Bool}{b:Nat}(h:b≤fs.length):((List.range b).any fun j=>P (fs[j]?.getD (0,0,0)))=(fs.take b).any P:=by
 rw [Bool.eq_iff_iff]
 simp only [List.any_eq_true,List.mem_range,List.mem_take_iff_getElem]
 constructor
 ·rintro⟨j,hj,hp⟩
  have hl:j < fs.length:=by omega
  rw [List.getElem?_eq_getElem hl]at hp
  exact⟨fs[j],⟨j,by omega,rfl⟩,hp⟩
 ·rintro⟨x,⟨j,hj,rfl⟩,hp⟩
  have hl:j < fs.length:=by omega
  exact⟨j,by omega,by rw [List.getElem?_eq_getElem hl];exact hp⟩
def nG(y2:List (Int×(Int×Int)))(y3 y4:Int)(b:Nat):(Unit)→Nat ⊕ (Unit)
 |_=>(bif(bif((Option.getD y2[b]? ((0:Int),(0:Int),(0:Int))).1==y3)then ((Option.getD y2[b]? ((0:Int),(0:Int),(0:Int))).2).1==y4 else false)then(.inl 0)else(.inr ()))
def jS(y1:Int)(y2:List (Int×(Int×Int)))(y3 y4 y5:Int)(i:Nat):(Unit)→fX
 |_=>((i:Int),y1,y2,y3,y4,y5)
def BL:fX→Unit
 |(_,_,_,_,_,_)=>()
theorem Um(y1:Int)(y2:List (Int×(Int×Int)))(y3 y4 y5:Int) (hn:y1≤9223372036854775807) (hb:y1≤(y2.length:Int)):
  bN.fin ((0:Int),y1,y2,y3,y4,y5)=true∧bN.res ((0:Int),y1,y2,y3,y4,y5)=((aq (nG y2 y3 y4) 1 (List.range y1.toNat) 0 ()).1,(jS y1 y2 y3 y4 y5) (aq (nG y2 y3 y4) 1 (List.range y1.toNat) 0 ()).2.1 (aq (nG y2 y3 y4) 1 (List.range y1.toNat) 0 ()).2.2):=by
 have key:=bN.along (jS y1 y2 y3 y4 y5) BL (nG y2 y3 y4) 1 (fun _ _=>True) (List.range y1.toNat) () (by trivial) (by simp only [bN,jS,List.length_range];omega) (fun i b a hb hI=> ?_) (fun a hI=> ?_)
 ·exact key
 ·obtain⟨⟩:=a
  obtain⟨rfl,hlt⟩:=gV hb
  have hw:IntKind.i64.wrap ((b:Int) + 1)=((b + 1:Nat):Int):=by rw [bp (by omega) (by omega)];omega
  have hdec:ltI (b:Int) y1=true:=db (by omega)
  have hnn:leI (0:Int) (b:Int)=true:=bZ (by omega)
  refine⟨?_,?_,?_,?_⟩
  ·have h1:ltI (b:Int) (y2.length:Int)=true:=db (by omega)
   have h2:ltN b y2.length=true:=dK (by omega)
   simp [mK,io,rq,rr,rt,ru,rv,rx,ry,rz,rA,qg,bN,LT.nds,allT,jS,hdec,hnn,h1,h2]
  ·simp [mK,io,rq,rr,rt,ru,rv,rx,ry,rz,rA,qg,bN,LT.each,jS,BL,hw]
  ·simp only [mK,io,rq,rr,rt,ru,rv,rx,ry,rz,rA,qg,bN,LT.fn,jS,BL,nG,Int.toNat_natCast,hdec,hnn,cond_true,Bool.cond_self]
  ·exact fun _ _=>trivial
 ·obtain⟨⟩:=a
  simp only [mK,io,rq,rr,rt,ru,rv,rx,ry,rz,rA,qg,bN,LT.out,jS,List.length_range,SU,Xc,cond_false]
theorem ajV(fs:List (Int×Int×Int))(b:Nat)(hb:b < fs.length)(hn:fs.length≤9223372036854775807):
  NI (b:Int) fs=true∧Hd (b:Int) fs=aeA fs b:=by
 obtain⟨w1,w2⟩:=Um (b:Int) fs (fAt fs b).1 (fAt fs b).2.1 (fAt fs b).2.2 (by omega) (by omega)
 rw [iq (P:=fun j=>Oq (fAt fs b) (fs[j]?.getD (0,0,0))) (j:=0) (fun j=>by
  simp only [nG,Oq];cases (fs[j]?.getD (0,0,0)).1==(fAt fs b).1 <;> rfl),Int.toNat_natCast,ahm (by omega)]at w2
 refine⟨w1,?_⟩
 have e:FP (b:Int) fs=(0,(b:Int),fs,(fAt fs b).1,(fAt fs b).2.1,(fAt fs b).2.2):=rfl
 simp only [Hd,e,w2,aeA]
 cases (fs.take b).any (Oq (fAt fs b)) <;> rfl
theorem alF(n:Int)(fs:List (Int×Int×Int))(b:Nat):Hc (b:Int) n fs=aaq n fs b:=by
 simp only [Hc,aJ,aaq,fIn,fAt,nf,Int.toNat_natCast,rY]
 cases inR (fs[b]?.getD (0,0,0)).1 0 (IntKind.i64.wrap (n - 1)) <;> cases inR (fs[b]?.getD (0,0,0)).2.1 0 1 <;> cases inR (fs[b]?.getD (0,0,0)).2.2 0 1 <;> rfl
def fF(n:Int)(fs:List (Int×Int×Int))(b:Nat)(_:Unit):Nat ⊕ Unit:=bif aaq n fs b then .inl 0 else bif aeA fs b then .inl 1 else .inr ()
theorem acl(n:Int)(fs:List (Int×Int×Int)): ∀ (r:List Nat) (i:Nat),∃ k m,aq (fF n fs) 2 r i ()=(k,m,())∧((k=2∧(r.all fun b=> !(aaq n fs b||aeA fs b))=true)∨((k=0∨k=1)∧(r.all fun b=> !(aaq n fs b||aeA fs b))=false))
 | [],i=>⟨2,i,rfl,.inl ⟨rfl,rfl⟩⟩
 |b::r,i=>by
  cases h1:aaq n fs b with
  |true=>exact⟨0,i,by simp only [aq,fF,h1,cond_true],.inr ⟨.inl rfl,by simp [h1]⟩⟩
  |false=>
   cases h2:aeA fs b with
   |true=>exact⟨1,i,by simp only [aq,fF,h1,h2,cond_true,cond_false],.inr ⟨.inr rfl,by simp [h2]⟩⟩
   |false=>
    obtain⟨k,m,e,h⟩:=acl n fs r (i + 1)
    exact⟨k,m,by simp only [aq,fF,h1,h2,cond_false];exact e,by simpa [h1,h2] using h⟩
theorem ahj(n:Int)(fs:List (Int×Int×Int))(hn:fs.length≤9223372036854775807):
  cg.fin ((0:Int),n,fs)=true∧cg.res ((0:Int),n,fs)=((aq (fF n fs) 2 (List.range fs.length) 0 ()).1,(((aq (fF n fs) 2 (List.range fs.length) 0 ()).2.1:Int),n,fs)):=by
 have key:=cg.along (fun i _=>((i:Int),n,fs)) (fun _=>()) (fF n fs) 2 (fun _ _=>True) (List.range fs.length) () trivial (by simp only [cg,List.length_range];omega) (fun i b a hb hI=> ?_) (fun a hI=> ?_)
 ·exact key
 ·obtain⟨rfl,hlt⟩:=gV hb
  have hw:IntKind.i64.wrap ((b:Int) + 1)=((b + 1:Nat):Int):=by rw [bp (by omega) (by omega)];omega
  have hdec:ltI (b:Int) (fs.length:Int)=true:=db (by omega)
  have hnn:leI (0:Int) (b:Int)=true:=bZ (by omega)
  have hltd:ltN b fs.length=true:=dK (by omega)
  obtain⟨i1,i2⟩:=ajV fs b hlt hn
  have i3:=alF n fs b
  refine⟨?_,?_,?_,?_⟩
  ·simp [cg,uh,LT.nds,allT,wa,NG,NH,hdec,hnn,hltd,i1]
  ·simp [cg,uh,LT.each,NJ,hw]
  ·simp only [cg,uh,LT.fn,wa,hdec,i2,i3,fF,cond_true]
  ·exact fun _ _=>trivial
 ·simp [cg,uh,LT.out,wa,List.length_range]
theorem afT(n:Int)(fs:List (Int×Int×Int))(hn:leN fs.length 9223372036854775807=true):LQ n fs=(inR n 2 8&&okFs n fs)∧LR n fs=true:=by
 obtain⟨w1,w2⟩:=ahj n fs (eP.1 hn)
 obtain⟨k,m,e,h⟩:=acl n fs (List.range fs.length) 0
 rw [e]at w2
 refine⟨?_,?_⟩
 ·have hl:leI (fs.length:Int) 8=leN fs.length 8:=by rw [Bool.eq_iff_iff];simp;omega
  simp only [LQ,zU,w2,LW,aJ,rY,okFs,hl]
  rcases h with⟨rfl,h⟩ | ⟨rfl | rfl,h⟩ <;> rw [h]
  ·cases inR n 2 8 <;> cases leN fs.length 8 <;> rfl
  ·cases inR n 2 8 <;> cases leN fs.length 8 <;> rfl
  ·cases inR n 2 8 <;> cases leN fs.length 8 <;> rfl
 ·simp only [LR,zU,w1,allT,cond_true]
def Sr:List SV→List Entry→Option Out
 | [.one ⟨false,[.val (.int .i64 x0)]⟩,.one ⟨false,[.ref 0]⟩],[.row false 169 (.pair (.int .i64) (.pair (.int .i64) (.int .i64))) x1]=>some ⟨(.one ⟨false,[(.val (.bool (inR x0 2 8&&okFs x0 x1)))]⟩),[(.row false 169 amS x1)],[],[leN x1.length 9223372036854775807]⟩
 |_,_=>none
def wE:PF Tryz.prog:=PF.alt ac9 Sr (by
 intro args es o h hnd;unfold Sr at h;split at h
 ·rename_i x0 x1
  cases h
  have hnd:=eD hnd
  have hh:=afT x0 x1 hnd
  obtain⟨e0,en⟩:=hh
  exact gW rfl (eN en) (by simp only [e0] <;> rfl) rfl rfl
 ·cases h)
def bY(y2 y3:Int)(b:Int×(Int×Int)):(Unit)→Nat ⊕ (Unit)
 |_=>(bif(tA b.1 (b.2.1) y2 y3)then(.inl 0)else(.inr ()))
def bd(y2 y3 y4:Int)(y5:List (Int×(Int×Int)))(i:Nat):(Unit)→aI
 |_=>((i:Int),(↑y5.length:Int),y2,y3,y4,y5)
def jn:aI→Unit
 |(_,_,_,_,_,_)=>()
theorem CP(y2 y3 y4:Int)(y5:List (Int×(Int×Int))) (hn:y5.length≤9223372036854775807):
  ag.fin ((0:Int),(↑y5.length:Int),y2,y3,y4,y5)=true∧ag.res ((0:Int),(↑y5.length:Int),y2,y3,y4,y5)=((aq (bY y2 y3) 1 y5 0 ()).1,(bd y2 y3 y4 y5) (aq (bY y2 y3) 1 y5 0 ()).2.1 (aq (bY y2 y3) 1 y5 0 ()).2.2):=by
 have key:=ag.along (bd y2 y3 y4 y5) jn (bY y2 y3) 1 (fun _ _=>True) y5 () (by trivial) (by simp only [ag,bd];omega) (fun i b a hb hI=> ?_) (fun a hI=> ?_)
 ·exact key
 ·obtain⟨⟩:=a
  have hlt:=(List.getElem?_eq_some_iff.1 hb).1
  have hget: ∀ d,Option.getD y5[i]? d=b:=fun d=>by rw [hb];rfl
  have hw:=qG hlt hn
  have hdec:ltI (i:Int) (y5.length:Int)=true:=db (by omega)
  have hnn:leI (0:Int) (i:Int)=true:=bZ (by omega)
  have hltd:ltN i y5.length=true:=dK hlt
  refine⟨?_,?_,?_,?_⟩
  ·simp [bV,dC,dD,dE,dF,dG,dH,dl,ag,LT.nds,allT,bd,hdec,hnn,hltd,hget]
  ·simp [bV,dC,dD,dE,dF,dG,dH,dl,ag,LT.each,bd,jn,hw]
  ·simp only [bV,dC,dD,dE,dF,dG,dH,dl,ag,LT.fn,bd,jn,bY,Int.toNat_natCast,hdec,hnn,hltd,hget,cond_true,Bool.cond_self]
  ·exact fun _ _=>trivial
 ·obtain⟨⟩:=a
  simp [bV,dC,dD,dE,dF,dG,dH,dl,ag,LT.out,bd]
theorem aiL(xs:List (Int×Int×Int))(f:Int×Int×Int)(hn:xs.length≤9223372036854775807):
  dA xs f.1 f.2.1 f.2.2=xs.any (Oq f)∧dB xs f.1 f.2.1 f.2.2=true:=by
 obtain⟨w1,w2⟩:=CP f.1 f.2.1 f.2.2 xs hn
 rw [iq (P:=Oq f) (j:=0) (fun t=>by
  simp only [bY,tA,Oq];cases t.1==f.1 <;> rfl)]at w2
 refine⟨?_,?_⟩
 ·simp only [dA,jO,jP,jQ,dB,ep,cG,gZ,g6,g7,g8,g9,w2,bd]
  cases xs.any (Oq f)with
  |false=>rfl
  |true=>exact bZ (Int.natCast_nonneg _)
 ·simp only [dA,jO,jP,jQ,dB,ep,cG,gZ,g6,g7,g8,g9,w1,allT,cond_true]
theorem alm(n:Int)(fs:List (Int×Int×Int))(b:Nat):GE (b:Int) n fs=aaq n fs b:=by
 have h2: ∀ v:Int,(bif v==0 then true else v==1)=inR v 0 1:=fun v=>by
  rw [Bool.eq_iff_iff,pF];by_cases h:v=0 <;> by_cases h':v=1 <;> simp [h,h'] <;> omega
 have h3: ∀ v:Int,(bif v !=0 then v !=1 else false)= !inR v 0 1:=fun v=>by
  rw [← h2 v];simp only [bne];cases v==0 <;> rfl
 simp only [GE,aZ,FD,aaq,fIn,fAt,f4,Int.toNat_natCast,rY,h2,h3]
 cases inR (fs[b]?.getD (0,0,0)).1 0 (IntKind.i64.wrap (n - 1)) <;> cases inR (fs[b]?.getD (0,0,0)).2.1 0 1 <;> cases inR (fs[b]?.getD (0,0,0)).2.2 0 1 <;> rfl
theorem ahi(n:Int)(fs:List (Int×Int×Int))(hn:fs.length≤9223372036854775807):
  ce.fin ((0:Int),(fs.length:Int),n,fs)=true∧ce.res ((0:Int),(fs.length:Int),n,fs)=((aq (fF n fs) 2 (List.range fs.length) 0 ()).1,(((aq (fF n fs) 2 (List.range fs.length) 0 ()).2.1:Int),(fs.length:Int),n,fs)):=by
 have key:=ce.along (fun i _=>((i:Int),(fs.length:Int),n,fs)) (fun _=>()) (fF n fs) 2 (fun _ _=>True) (List.range fs.length) () trivial (by simp only [ce,List.length_range];omega) (fun i b a hb hI=> ?_) (fun a hI=> ?_)
 ·exact key
 ·obtain⟨rfl,hlt⟩:=gV hb
  have hw:IntKind.i64.wrap ((b:Int) + 1)=((b + 1:Nat):Int):=by rw [bp (by omega) (by omega)];omega
  have hdec:ltI (b:Int) (fs.length:Int)=true:=db (by omega)
  have hle:leI (b:Int) (fs.length:Int)=true:=bZ (by omega)
  have hnn:leI (0:Int) (b:Int)=true:=bZ (by omega)
  have hltd:ltN b fs.length=true:=dK (by omega)
  obtain⟨i2,i1⟩:=aiL (fs.take b) (fAt fs b) (by rw [List.length_take];omega)
  have i2:NE (b:Int) fs=aeA fs b:=i2
  have i1:ND (b:Int) fs=true:=i1
  have i3:=alm n fs b
  refine⟨?_,?_,?_,?_⟩
  ·simp [ce,ud,LT.nds,allT,Bg,GD,Nz,NA,NB,NC,hdec,hnn,hltd,hle,i1]
  ·simp [ce,ud,LT.each,NF,hw]
  ·simp only [ce,ud,LT.fn,Bg,hdec,i2,i3,fF,cond_true]
  ·exact fun _ _=>trivial
 ·simp [ce,ud,LT.out,Bg,List.length_range]
theorem afE(n:Int)(fs:List (Int×Int×Int))(hn:leN fs.length 9223372036854775807=true):Lm n fs=okFs n fs∧Ln n fs=true:=by
 obtain⟨w1,w2⟩:=ahi n fs (eP.1 hn)
 obtain⟨k,m,e,h⟩:=acl n fs (List.range fs.length) 0
 rw [e]at w2
 refine⟨?_,?_⟩
 ·have hl:leI (fs.length:Int) 8=leN fs.length 8:=by rw [Bool.eq_iff_iff];simp;omega
  simp only [Lm,zf,w2,okFs,hl]
  rcases h with⟨rfl,h⟩ | ⟨rfl | rfl,h⟩ <;> rw [h] <;> cases leN fs.length 8 <;> rfl
 ·simp only [Ln,zf,w1,allT,cond_true]
def Sk:List SV→List Entry→Option Out
 | [.one ⟨false,[.val (.int .i64 x0)]⟩,.one ⟨false,[.ref 0]⟩],[.row false 169 (.pair (.int .i64) (.pair (.int .i64) (.int .i64))) x1]=>some ⟨(.one ⟨false,[(.val (.bool (okFs x0 x1)))]⟩),[(.row false 169 amS x1)],[],[leN x1.length 9223372036854775807]⟩
 |_,_=>none
def wD:PF Tryz.prog:=PF.alt ac0 Sk (by
 intro args es o h hnd;unfold Sk at h;split at h
 ·rename_i x0 x1
  cases h
  have hnd:=eD hnd
  have hh:=afE x0 x1 hnd
  obtain⟨e0,en⟩:=hh
  exact gW rfl (eN en) (by simp only [e0] <;> rfl) rfl rfl
 ·cases h)
def KY(xs ys:List (Int×Int×Int)):Bool:=decide (xs=ys)
def i8(y1:List (Int×(Int×Int)))(b:Nat):(List (Int×(Int×Int)))→Nat ⊕ (List (Int×(Int×Int)))
 |y2=>(.inr (List.set y2 b ((Option.getD y1[b]? ((0:Int),(0:Int),(0:Int))).1,((Option.getD y1[b]? ((0:Int),(0:Int),(0:Int))).2).1,(Option.getD y1[b]? ((0:Int),(0:Int),(0:Int))).2.2)))
def gt(y1:List (Int×(Int×Int)))(i:Nat):(List (Int×(Int×Int)))→dT
 |y2=>((i:Int),y1,y2)
def yW:dT→List (Int×(Int×Int))
 |(_,_,y2)=>y2
theorem RE(y1 y2:List (Int×(Int×Int)))(hn:y1.length≤9223372036854775807)(hl:y2.length=y1.length):
  bJ.fin ((0:Int),y1,y2)=true∧bJ.res ((0:Int),y1,y2)=((aq (i8 y1) 0 (List.range y1.length) 0 y2).1,(gt y1) (aq (i8 y1) 0 (List.range y1.length) 0 y2).2.1 (aq (i8 y1) 0 (List.range y1.length) 0 y2).2.2):=by
 have key:=bJ.along (gt y1) yW (i8 y1) 0 (fun _ a=>a.length=y1.length) (List.range y1.length) y2 hl (by simp only [bJ,gt,List.length_range];omega) (fun i b a hb hI=> ?_) (fun a hI=> ?_)
 ·exact key
 ·obtain y2:=a
  obtain⟨rfl,hlt⟩:=gV hb
  have hw:IntKind.i64.wrap ((b:Int) + 1)=((b + 1:Nat):Int):=by rw [bp (by omega) (by omega)];omega
  have hdec:ltI (b:Int) (y1.length:Int)=true:=db (by omega)
  have hnn:leI (0:Int) (b:Int)=true:=bZ (by omega)
  have hltd:ltN b y1.length=true:=dK (by omega)
  refine⟨?_,?_,?_,?_⟩
  ·simp [iK,li,lj,pu,pv,pw,px,py,ow,bJ,LT.nds,allT,gt,hdec,hnn,hltd,hI]
  ·simp [iK,li,lj,pu,pv,pw,px,py,ow,bJ,LT.each,gt,yW,hw,hI]
  ·simp only [iK,li,lj,pu,pv,pw,px,py,ow,bJ,LT.fn,gt,yW,i8,Int.toNat_natCast,hdec,cond_true]
  ·intro a' hf;simp only [i8,Sum.inr.injEq]at hf;subst hf;simpa using hI
 ·obtain y2:=a
  simp [iK,li,lj,pu,pv,pw,px,py,ow,bJ,LT.out,gt,List.length_range]
def ld(y1 y2:List (Int×(Int×Int)))(b:Nat):(Unit)→Nat ⊕ (Unit)
 |_=>(bif(!ua ((Option.getD y1[b]? ((0:Int),(0:Int),(0:Int))).1) (((Option.getD y1[b]? ((0:Int),(0:Int),(0:Int))).2).1) ((Option.getD y1[b]? ((0:Int),(0:Int),(0:Int))).2.2) ((Option.getD y2[b]? ((0:Int),(0:Int),(0:Int))).1) (((Option.getD y2[b]? ((0:Int),(0:Int),(0:Int))).2).1) ((Option.getD y2[b]? ((0:Int),(0:Int),(0:Int))).2.2))then(.inl 0)else(.inr ()))
def iL(y1 y2:List (Int×(Int×Int)))(i:Nat):(Unit)→dS
 |_=>((i:Int),y1,y2)
def yV:dS→Unit
 |(_,_,_)=>()
theorem RD(y1 y2:List (Int×(Int×Int))) (hn:y1.length≤9223372036854775807) (he:y2.length=y1.length):
  bB.fin ((0:Int),y1,y2)=true∧bB.res ((0:Int),y1,y2)=((aq (ld y1 y2) 1 (List.range y1.length) 0 ()).1,(iL y1 y2) (aq (ld y1 y2) 1 (List.range y1.length) 0 ()).2.1 (aq (ld y1 y2) 1 (List.range y1.length) 0 ()).2.2):=by
 have key:=bB.along (iL y1 y2) yV (ld y1 y2) 1 (fun _ _=>True) (List.range y1.length) () (by trivial) (by simp only [bB,iL,List.length_range];omega) (fun i b a hb hI=> ?_) (fun a hI=> ?_)
 ·exact key
 ·obtain⟨⟩:=a
  obtain⟨rfl,hlt⟩:=gV hb
  have hw:IntKind.i64.wrap ((b:Int) + 1)=((b + 1:Nat):Int):=by rw [bp (by omega) (by omega)];omega
  have hdec:ltI (b:Int) (y1.length:Int)=true:=db (by omega)
  have hnn:leI (0:Int) (b:Int)=true:=bZ (by omega)
  have hltd:ltN b y1.length=true:=dK (by omega)
  refine⟨?_,?_,?_,?_⟩
  ·simp [iI,iJ,lg,lh,pn,po,pp,pq,pt,ov,bB,LT.nds,allT,iL,hdec,hnn,hltd,he]
  ·simp [iI,iJ,lg,lh,pn,po,pp,pq,pt,ov,bB,LT.each,iL,yV,hw,he]
  ·simp only [iI,iJ,lg,lh,pn,po,pp,pq,pt,ov,bB,LT.fn,iL,yV,ld,Int.toNat_natCast,hdec,cond_true]
  ·exact fun _ _=>trivial
 ·obtain⟨⟩:=a
  simp [iI,iJ,lg,lh,pn,po,pp,pq,pt,ov,bB,LT.out,iL,List.length_range]
theorem aih(xs:List (Int×Int×Int))(hn:leN xs.length 1048576=true):yN xs=xs∧yO xs=true:=by
 have hn:=eP.1 hn
 have hr:(List.replicate (Int.toNat (xs.length:Int)) ((0:Int),(0:Int),(0:Int))).length=xs.length:=by simp
 obtain⟨w1,w2⟩:=RE xs (List.replicate (Int.toNat (xs.length:Int)) ((0:Int),(0:Int),(0:Int))) (by omega) hr
 have hc:=Gy (xs:=xs) (d:=((0:Int),(0:Int),(0:Int))) (g:=fun x=>x) (f:=i8 xs) (e:=0) (fun b a=>rfl) hr
 rw [hc]at w2
 refine⟨?_,?_⟩
 ·simp only [wl,yN,yO,w2,gt];simp
 ·simp only [wl,yN,yO,w1,allT];simp;omega
def KX:List SV→List Entry→Option Out
 | [.one ⟨false,[.ref 0]⟩],[.row false 206 (.pair (.int .i64) (.pair (.int .i64) (.int .i64))) x0]=>some ⟨(.one ⟨false,[(.ref 1)]⟩),[(.row false 206 amS x0)],[(.row true 169 amS x0)],[leN x0.length 1048576]⟩
 |_,_=>none
def EC:PF Tryz.prog:=PF.alt Vx KX (by
 intro args es o h hnd;unfold KX at h;split at h
 ·rename_i x0
  cases h
  have hnd:=eD hnd
  have hh:=aih x0 hnd
  obtain⟨e0,en⟩:=hh
  exact gW rfl (eN en) rfl rfl (by simp only [e0] <;> rfl)
 ·cases h)
theorem ahw(xs ys:List (Int×Int×Int))(hn:leN xs.length 9223372036854775807=true):yL xs ys=KY xs ys∧yM xs ys=true:=by
 have hn:=eP.1 hn
 unfold KY
 have h3: ∀ a b:Int×Int×Int,(!ua a.1 a.2.1 a.2.2 b.1 b.2.1 b.2.2)= !decide (a=b):=fun a b=>by
  obtain⟨a1,a2,a3⟩:=a;obtain⟨b1,b2,b3⟩:=b
  simp only [ua,Prod.mk.injEq]
  by_cases h1:a1=b1 <;> by_cases h2:a2=b2 <;> by_cases h3:a3=b3 <;> simp [h1,h2,h3]
 by_cases hl:ys.length=xs.length
 ·obtain⟨w1,w2⟩:=RD xs ys hn hl
  have ha:=aah (d:=((0:Int),(0:Int),(0:Int))) hl (P:=fun b=> !decide (Option.getD xs[b]? (0,0,0)=Option.getD ys[b]? (0,0,0))) (fun b=>rfl)
  rw [iq (P:=fun b=> !decide (Option.getD xs[b]? (0,0,0)=Option.getD ys[b]? (0,0,0))) (j:=0) (fun b=>by simp only [ld,h3]),ha]at w2
  simp only [wj,wk,yL,yM,w1,w2,allT]
  by_cases he:xs=ys
  ·subst he;simp;decide
  ·simp [he,hl]
 ·have hne:xs≠ys:=fun h=>hl (by rw [h])
  simp [wj,wk,yL,yM,allT,hne]
  omega
def KW:List SV→List Entry→Option Out
 | [.one ⟨false,[.ref 0]⟩,.one ⟨false,[.ref 1]⟩],[.row false 169 (.pair (.int .i64) (.pair (.int .i64) (.int .i64))) x0,.row false 169 (.pair (.int .i64) (.pair (.int .i64) (.int .i64))) x1]=>some ⟨(.one ⟨false,[(.val (.bool (KY x0 x1)))]⟩),[(.row false 169 amS x0),(.row false 169 amS x1)],[],[leN x0.length 9223372036854775807]⟩
 |_,_=>none
def EB:PF Tryz.prog:=PF.alt Vw KW (by
 intro args es o h hnd;unfold KW at h;split at h
 ·rename_i x0 x1
  cases h
  have hnd:=eD hnd
  have hh:=ahw x0 x1 hnd
  obtain⟨e0,en⟩:=hh
  exact gW rfl (eN en) (by simp only [e0] <;> rfl) rfl rfl
 ·cases h)
end Go.SX

namespace Go.SX
open Go.Proofs
set_option maxRecDepth 100000
abbrev eO:=Int×List Int
section
variable (y0:Int)(y1:List Int)
def mL:Bool:=ltI y0 (↑y1.length:Int)
def qk:Bool:=leI (0:Int) y0
def ql:Bool:=ltN y0.toNat y1.length
def qm:Bool:= !aJ (Option.getD y1[Int.toNat y0]? (0:Int)) (0:Int) (2:Int)
def qn:Int:=IntKind.wrap .i64 (y0 + (1:Int))
end
def QR:eO→List (Nat×SV)
 |(y0,_)=> [(3,(.one ⟨false,[(.val (.int .i64 y0))]⟩)),(0,(.one ⟨false,[(.ref 0)]⟩))]
def QO:eO→List (Nat×Entry)
 |(_,y1)=> [(0,(.row false 2 amU y1))]
def QX:Nat→eO→List (Nat×SV)
 |0,(_,_)=> [(2,(.one ⟨false,[(.val (.bool false))]⟩))]
 |_,(_,_)=> []
def QU:Nat→eO→List (Nat×Entry)
 |0,(_,y1)=> [(0,(.row false 2 amU y1))]
 |_,(_,y1)=> [(0,(.row false 2 amU y1))]
def pB:eO→LT eO
 |(y0,y1)=> .ite (mL y0 y1) (.need [(qk y0),(mL y0 y1),(ql y0 y1)] (.ite (qm y0 y1) (.ext 0 [(0,0)]) (.nrm ((qn y0),y1) [(0,0)]))) (.ext 1 [(0,0)])
def AJ(s:St):Option eO:=
 (match s.look 3 with
 |some ⟨none,(.one ⟨false,[(.val (.int .i64 y0))]⟩)⟩=>
 (match s.look 0 with
 |some ⟨none,(.one ⟨false,[(.ref 0)]⟩)⟩=>
 (match s.ent 0 with
 |some (.row false 2 (.int .i64) y1)=>
 some (y0,y1)
 |_=>none)
 |_=>none)
 |_=>none)
def bH:Lp eO where
 h:=⟨[4,5,6,7,10,11,12,13,14,15,2,8,9,3],[0],[],[]⟩
 JL:=QR
 JE:=QO
 XL:=QX
 XE:=QU
 q:=fun j=>match j with | 0=> .ret | _=> .exit 0
 tags:= [0,1]
 lt:=pB
 fuel:=fun(y0,y1)=>y0.natAbs + y1.length
 fix:=fun(_,y1) (y0,_)=>(y0,y1)
 σ:= [(0,0)]
 rd:=AJ
theorem OM:LoopOk Tryz.prog (fun k=>Nat.blt k Tryz.f86.ntmps) bH.F (aD Tryz.f86 0):=by
 refine Lp.ok (tbl:= [eQ]) (lf:= []) ay bH (by kernel_rfl) (LOk.nil _) (fun _=>rfl) (fun j _=>by unfold bH;match j with | 0=>rfl | _ + 1=>rfl) ?_ ?_ ?_ ?_ (fun _=>rfl) ?_
 ·intro x;obtain⟨y0,y1⟩:=x;kernel_rfl
 ·intro x;obtain⟨y0,y1⟩:=x;kernel_rfl
 ·intro s x h
  have h:AJ s=some x:=h
  unfold AJ at h
  repeat' split at h
  all_goals cases h
  exact⟨aa (by assumption) rfl (aa (by assumption) rfl (rfl)),ac rfl (by assumption) rfl (rfl)⟩
 ·intro x;obtain⟨y0,y1⟩:=x;kernel_rfl
 ·intro x z;obtain⟨y0,y1⟩:=x;exact(And.intro (And.intro trivial rfl) trivial)
def FS(x0:List Int):Bool:=bif Nat.beq ((Lp.res bH ((0:Int),x0)).1) (0:Nat)then false else aJ (↑x0.length:Int) (1:Int) (12:Int)
def FT(x0:List Int):Bool:=allT [Lp.fin bH ((0:Int),x0)]
def Mt:List SV→List Entry→Option Out
 | [.one ⟨false,[.ref 0]⟩],[.row false 2 (.int .i64) x0]=>some ⟨(.one ⟨false,[(.val (.bool (FS x0)))]⟩),[(.row false 2 amU x0)],[],[(FT x0)]⟩
 |_,_=>none
def Xm:PF Tryz.prog:=PF.ofG Tryz.prog [eQ] [bH.F] ay 86 Tryz.f86 Tryz.func86 (LOk.fnT (l:= [aD Tryz.f86 0]) (by kernel_rfl) (.cons OM (.nil _))) Mt (by
 intro vs es r h;unfold Mt at h;split at h
 ·cases h;kernel_rfl
 ·cases h)
def uR(x5:List (List Int)):Int:=(↑(List.length (Option.getD x5[Int.toNat (0:Int)]? (vD (CTy.sl (2:TypeId) amU)))):Int)
def uS(x5:List (List Int)):Bool:=allT [ltI (0:Int) (↑x5.length:Int),ltN (Int.toNat (0:Int)) x5.length]
def VV:List SV→List Entry→Option Out
 | [.one ⟨true,[.val (.int .i64 _x0),.ref 0,.ref 1,.ref 2,.ref 3,.val (.int .i64 _x1),.ref 4,.ref 5,.val (.int .i64 _x2)]⟩],[.row false 2 (.int .i64) x3,.row false 169 (.pair (.int .i64) (.pair (.int .i64) (.int .i64))) x4,.row false 24 (.sl 2 (.int .i64)) x5,.row false 100 (.pair (.int .i64) (.pair (.int .i64) (.int .i64))) x6,.row false 173 (.pair (.int .i64) (.int .i64)) x7,.row false 176 (.pair (.int .i64) (.int .i64)) x8]=>some ⟨(.one ⟨false,[(.val (.int .i64 (uR x5)))]⟩),[(.row false 2 amU x3),(.row false 169 amS x4),(.row false 24 (CTy.sl (2:TypeId) amU) x5),(.row false 100 amS x6),(.row false 173 amT x7),(.row false 176 amT x8)],[],[(uS x5)]⟩
 |_,_=>none
def ro:PF Tryz.prog:=PF.ofG Tryz.prog [] [] ay 87 Tryz.f87 Tryz.func87 (fun c _=>LOk.nil c) VV (by
 intro vs es r h;unfold VV at h;split at h
 ·cases h;kernel_rfl
 ·cases h)
abbrev da:=Int×Int×List (Int×(Int×Int))×Int×Int×Int
section
variable (y0 y1:Int)(y2:List (Int×(Int×Int)))(y3 y4:Int)
def jl:Int×Int×Int:=Option.getD y2[Int.toNat y0]? ((0:Int),(0:Int),(0:Int))
def fv:Bool:=(jl y0 y2).1==y3
def ng:Bool:=ltI y0 y1
def nh:Bool:=leI (0:Int) y0
def ni:Bool:=ltI y0 (↑y2.length:Int)
def nj:Bool:=ltN y0.toNat y2.length
def nk:Bool:= !(fv y0 y2 y3&&true)||leI (0:Int) y0
def nn:Bool:= !(fv y0 y2 y3&&true)||ltI y0 (↑y2.length:Int)
def np:Bool:= !(fv y0 y2 y3&&true)||ltN y0.toNat y2.length
def nq:Bool:=bif fv y0 y2 y3 then ((jl y0 y2).2).1==y4 else false
def nr:Int:=IntKind.wrap .i64 (y0 + (1:Int))
end
def NL:da→List (Nat×SV)
 |(y0,y1,_,_,_,_)=> [(7,(.one ⟨false,[(.val (.int .i64 y0))]⟩)),(5,(.one ⟨false,[(.val (.int .i64 y1))]⟩)),(1,(.one ⟨false,[(.ref 0)]⟩)),(6,(.one ⟨false,[(.ptr 1 0)]⟩))]
def NK:da→List (Nat×Entry)
 |(_,_,y2,y3,y4,y5)=> [(0,(.row false 100 amS y2)),(1,(.box 100 [(.val (.int .i64 y3)),(.val (.int .i64 y4)),(.val (.int .i64 y5))]))]
def NN:Nat→da→List (Nat×SV)
 |0,(_,_,_,_,_,_)=> [(4,(.one ⟨false,[(.val (.bool false))]⟩))]
 |_,(_,_,_,_,_,_)=> []
def NM:Nat→da→List (Nat×Entry)
 |0,(_,_,y2,y3,y4,y5)=> [(0,(.row false 100 amS y2)),(1,(.box 100 [(.val (.int .i64 y3)),(.val (.int .i64 y4)),(.val (.int .i64 y5))]))]
 |_,(_,_,y2,y3,y4,y5)=> [(0,(.row false 100 amS y2)),(1,(.box 100 [(.val (.int .i64 y3)),(.val (.int .i64 y4)),(.val (.int .i64 y5))]))]
def l4:da→LT da
 |(y0,y1,y2,y3,y4,y5)=> .ite (ng y0 y1) (.need [(nh y0),(ni y0 y2),(nj y0 y2),(nk y0 y2 y3),(nn y0 y2 y3),(np y0 y2 y3)] (.ite (nq y0 y2 y3 y4) (.ext 0 [(0,0),(1,1)]) (.nrm ((nr y0),y1,y2,y3,y4,y5) [(0,0),(1,1)]))) (.ext 1 [(0,0),(1,1)])
def wo(s:St):Option da:=
 (match s.look 7 with
 |some ⟨none,(.one ⟨false,[(.val (.int .i64 y0))]⟩)⟩=>
 (match s.look 5 with
 |some ⟨none,(.one ⟨false,[(.val (.int .i64 y1))]⟩)⟩=>
 (match s.look 1 with
 |some ⟨none,(.one ⟨false,[(.ref 0)]⟩)⟩=>
 (match s.look 6 with
 |some ⟨none,(.one ⟨false,[(.ptr 576 0)]⟩)⟩=>
 (match s.ent 0 with
 |some (.row false 100 (.pair (.int .i64) (.pair (.int .i64) (.int .i64))) y2)=>
 (match s.ent 576 with
 |some (.box 100 [(.val (.int .i64 y3)),(.val (.int .i64 y4)),(.val (.int .i64 y5))])=>
 some (y0,y1,y2,y3,y4,y5)
 |_=>none)
 |_=>none)
 |_=>none)
 |_=>none)
 |_=>none)
 |_=>none)
def bn:Lp da where
 h:=⟨[36,37,38,41,42,43,44,45,46,47,48,49,50,51,52,53,54,55,56,57,58,4,39,40,7],[0,1],[],[]⟩
 JL:=NL
 JE:=NK
 XL:=NN
 XE:=NM
 q:=fun j=>match j with | 0=> .ret | _=> .exit 2
 tags:= [0,1]
 lt:=l4
 fuel:=fun(y0,y1,y2,y3,y4,y5)=>y0.natAbs + y1.natAbs + y2.length + y3.natAbs + y4.natAbs + y5.natAbs
 fix:=fun(_,y1,y2,y3,y4,y5) (y0,_,_,_,_,_)=>(y0,y1,y2,y3,y4,y5)
 σ:= [(0,0),(1,576)]
 rd:=wo
theorem MD:LoopOk Tryz.prog (memN [8,9,10,11,14,15,16,17,6,18,19,20,21,22,23,24,25,26,27,28,29,30,31,32,33,34,35,4,7,36,37,38,41,42,43,44,45,46,47,48,49,50,51,52,53,54,55,56,57,58,39,40,12,13,5]) bn.F (acJ (aD Tryz.f88 0) 0):=by
 refine Lp.ok (tbl:= [eQ]) (lf:= []) ay bn (by kernel_rfl) (LOk.nil _) (fun _=>rfl) (fun j _=>by unfold bn;match j with | 0=>rfl | _ + 1=>rfl) ?_ ?_ ?_ ?_ (fun _=>rfl) ?_
 ·intro x;obtain⟨y0,y1,y2,y3,y4,y5⟩:=x;kernel_rfl
 ·intro x;obtain⟨y0,y1,y2,y3,y4,y5⟩:=x;kernel_rfl
 ·intro s x h
  have h:wo s=some x:=h
  unfold wo at h
  repeat' split at h
  all_goals cases h
  exact⟨aa (by assumption) rfl (aa (by assumption) rfl (aa (by assumption) rfl (aa (by assumption) rfl (rfl)))),ac rfl (by assumption) rfl (ac rfl (by assumption) rfl (rfl))⟩
 ·intro x;obtain⟨y0,y1,y2,y3,y4,y5⟩:=x;kernel_rfl
 ·intro x z;obtain⟨y0,y1,y2,y3,y4,y5⟩:=x;exact(And.intro (And.intro trivial rfl) trivial)
abbrev ij:=Int×Int×List (Int×(Int×Int))
section
variable (y0 y1:Int)(y2:List (Int×(Int×Int)))
def jb:Int×Int×Int:=Option.getD y2[Int.toNat y0]? ((0:Int),(0:Int),(0:Int))
def AM:Int×Int×List (Int×Int×Int)×Int×Int×Int:=((0:Int),y0,y2,(jb y0 y2).1,((jb y0 y2).2).1,(jb y0 y2).2.2)
def qj:Bool:=ltI y0 (↑y2.length:Int)
def IR:Bool:=leI (0:Int) y0
def IU:Bool:=ltN y0.toNat y2.length
def BQ:Bool:=bif bif !aJ ((jb y0 y2).1) (0:Int) (IntKind.wrap .i64 (y1 - (1:Int)))then true else !aJ (((jb y0 y2).2).1) (0:Int) (1:Int)then true else !aJ ((jb y0 y2).2.2) (0:Int) (1:Int)
def IV:Bool:=Lp.fin bn (AM y0 y2)
def BR:Bool:=Nat.beq ((Lp.res bn (AM y0 y2)).1) (0:Nat)
def IW:Int:=IntKind.wrap .i64 (y0 + (1:Int))
end
def QQ:ij→List (Nat×SV)
 |(y0,y1,_)=> [(5,(.one ⟨false,[(.val (.int .i64 y0))]⟩)),(1,(.one ⟨false,[(.ref 0)]⟩)),(0,(.one ⟨false,[(.val (.int .i64 y1))]⟩))]
def QN:ij→List (Nat×Entry)
 |(_,_,y2)=> [(0,(.row false 100 amS y2))]
def QW:Nat→ij→List (Nat×SV)
 |0,(_,_,_)=> [(4,(.one ⟨false,[(.val (.bool false))]⟩))]
 |1,(_,_,_)=> [(4,(.one ⟨false,[(.val (.bool false))]⟩))]
 |_,(_,_,_)=> []
def QT:Nat→ij→List (Nat×Entry)
 |0,(_,_,y2)=> [(0,(.row false 100 amS y2))]
 |1,(_,_,y2)=> [(0,(.row false 100 amS y2))]
 |_,(_,_,y2)=> [(0,(.row false 100 amS y2))]
def pA:ij→LT ij
 |(y0,y1,y2)=> .ite (qj y0 y2) (.need [(IR y0),(qj y0 y2),(IU y0 y2)] (.ite (BQ y0 y1 y2) (.ext 0 [(0,0)]) (.need [(IV y0 y2)] (.ite (BR y0 y2) (.ext 1 [(0,0)]) (.nrm ((IW y0),y1,y2) [(0,0)]))))) (.ext 2 [(0,0)])
def AH(s:St):Option ij:=
 (match s.look 5 with
 |some ⟨none,(.one ⟨false,[(.val (.int .i64 y0))]⟩)⟩=>
 (match s.look 1 with
 |some ⟨none,(.one ⟨false,[(.ref 0)]⟩)⟩=>
 (match s.look 0 with
 |some ⟨none,(.one ⟨false,[(.val (.int .i64 y1))]⟩)⟩=>
 (match s.ent 0 with
 |some (.row false 100 (.pair (.int .i64) (.pair (.int .i64) (.int .i64))) y2)=>
 some (y0,y1,y2)
 |_=>none)
 |_=>none)
 |_=>none)
 |_=>none)
def bz:Lp ij where
 h:=⟨[8,9,10,11,14,15,16,17,6,18,19,20,21,22,23,24,25,26,27,28,29,30,31,32,33,34,35,4,7,36,37,38,41,42,43,44,45,46,47,48,49,50,51,52,53,54,55,56,57,58,39,40,12,13,5],[0],[],[]⟩
 JL:=QQ
 JE:=QN
 XL:=QW
 XE:=QT
 q:=fun j=>match j with | 0=> .ret | 1=> .ret | _=> .exit 0
 tags:= [0,1,2]
 lt:=pA
 fuel:=fun(y0,y1,y2)=>y0.natAbs + y1.natAbs + y2.length
 fix:=fun(_,y1,y2) (y0,_,_)=>(y0,y1,y2)
 σ:= [(0,0)]
 rd:=AH
theorem OL:LoopOk Tryz.prog (fun k=>Nat.blt k Tryz.f88.ntmps) bz.F (aD Tryz.f88 0):=by
 refine Lp.ok (tbl:= [eQ]) (lf:= [bn.F]) ay bz (by kernel_rfl) (LOk.allT (l:= [acJ (aD Tryz.f88 0) 0]) (by kernel_rfl) (.cons MD (.nil _))) (fun _=>rfl) (fun j _=>by unfold bz;match j with | 0=>rfl | 1=>rfl | _ + 2=>rfl) ?_ ?_ ?_ ?_ (fun _=>rfl) ?_
 ·intro x;obtain⟨y0,y1,y2⟩:=x;kernel_rfl
 ·intro x;obtain⟨y0,y1,y2⟩:=x;kernel_rfl
 ·intro s x h
  have h:AH s=some x:=h
  unfold AH at h
  repeat' split at h
  all_goals cases h
  exact⟨aa (by assumption) rfl (aa (by assumption) rfl (aa (by assumption) rfl (rfl))),ac rfl (by assumption) rfl (rfl)⟩
 ·intro x;obtain⟨y0,y1,y2⟩:=x;kernel_rfl
 ·intro x z;obtain⟨y0,y1,y2⟩:=x;exact(And.intro (And.intro trivial (And.intro trivial rfl)) trivial)
section
variable (x0:Int)(x1:List (Int×Int×Int))
def sI:Int×Int×List (Int×Int×Int):=((0:Int),x0,x1)
def FQ:Bool:=bif Nat.beq ((Lp.res bz (sI x0 x1)).1) (0:Nat)then false else bif Nat.beq ((Lp.res bz (sI x0 x1)).1) (1:Nat)then false else bif aJ x0 (1:Int) (12:Int)then leI (↑x1.length:Int) (8:Int)else false
def FR:Bool:=allT [Lp.fin bz (sI x0 x1)]
end
def Mr:List SV→List Entry→Option Out
 | [.one ⟨false,[.val (.int .i64 x0)]⟩,.one ⟨false,[.ref 0]⟩],[.row false 100 (.pair (.int .i64) (.pair (.int .i64) (.int .i64))) x1]=>some ⟨(.one ⟨false,[(.val (.bool (FQ x0 x1)))]⟩),[(.row false 100 amS x1)],[],[(FR x0 x1)]⟩
 |_,_=>none
def Xl:PF Tryz.prog:=PF.ofG Tryz.prog [eQ] [bz.F] ay 88 Tryz.f88 Tryz.func88 (LOk.fnT (l:= [aD Tryz.f88 0]) (by kernel_rfl) (.cons OL (.nil _))) Mr (by
 intro vs es r h;unfold Mr at h;split at h
 ·cases h;kernel_rfl
 ·cases h)
def Kz(x0:Int):Bool:=aJ x0 (0:Int) (5:Int)
def VO:List SV→List Entry→Option Out
 | [.one ⟨false,[.val (.int .i64 x0)]⟩],[]=>some ⟨(.one ⟨false,[(.val (.bool (Kz x0)))]⟩),[],[],[]⟩
 |_,_=>none
def Xn:PF Tryz.prog:=PF.ofG Tryz.prog [eQ] [] ay 89 Tryz.f89 Tryz.func89 (fun c _=>LOk.nil c) VO (by
 intro vs es r h;unfold VO at h;split at h
 ·cases h;kernel_rfl
 ·cases h)
abbrev kU:=Int×List (Int×Int)
section
variable (y0:Int)(y1:List (Int×Int))
def vd:Int×Int:=Option.getD y1[Int.toNat y0]? ((0:Int),(0:Int))
def oQ:Bool:= !aJ ((vd y0 y1).1) (1:Int) (366:Int)
def wH:Bool:=ltI y0 (↑y1.length:Int)
def BS:Bool:=leI (0:Int) y0
def BT:Bool:=ltN y0.toNat y1.length
def BU:Bool:= !(!oQ y0 y1&&true)||leI (0:Int) y0
def BV:Bool:= !(!oQ y0 y1&&true)||ltI y0 (↑y1.length:Int)
def BW:Bool:= !(!oQ y0 y1&&true)||ltN y0.toNat y1.length
def BX:Bool:=bif oQ y0 y1 then true else !aJ ((vd y0 y1).2) (0:Int) (100000:Int)
def BZ:Int:=IntKind.wrap .i64 (y0 + (1:Int))
end
def aa3:kU→List (Nat×SV)
 |(y0,_)=> [(3,(.one ⟨false,[(.val (.int .i64 y0))]⟩)),(0,(.one ⟨false,[(.ref 0)]⟩))]
def aaU:kU→List (Nat×Entry)
 |(_,y1)=> [(0,(.row false 173 amT y1))]
def abl:Nat→kU→List (Nat×SV)
 |0,(_,_)=> [(2,(.one ⟨false,[(.val (.bool false))]⟩))]
 |_,(_,_)=> []
def abc:Nat→kU→List (Nat×Entry)
 |0,(_,y1)=> [(0,(.row false 173 amT y1))]
 |_,(_,y1)=> [(0,(.row false 173 amT y1))]
def zK:kU→LT kU
 |(y0,y1)=> .ite (wH y0 y1) (.need [(BS y0),(wH y0 y1),(BT y0 y1),(BU y0 y1),(BV y0 y1),(BW y0 y1)] (.ite (BX y0 y1) (.ext 0 [(0,0)]) (.nrm ((BZ y0),y1) [(0,0)]))) (.ext 1 [(0,0)])
def Ke(s:St):Option kU:=
 (match s.look 3 with
 |some ⟨none,(.one ⟨false,[(.val (.int .i64 y0))]⟩)⟩=>
 (match s.look 0 with
 |some ⟨none,(.one ⟨false,[(.ref 0)]⟩)⟩=>
 (match s.ent 0 with
 |some (.row false 173 (.pair (.int .i64) (.int .i64)) y1)=>
 some (y0,y1)
 |_=>none)
 |_=>none)
 |_=>none)
def fo:Lp kU where
 h:=⟨[4,5,6,7,10,11,12,13,14,15,16,17,18,19,20,21,22,23,24,25,2,8,9,3],[0],[],[]⟩
 JL:=aa3
 JE:=aaU
 XL:=abl
 XE:=abc
 q:=fun j=>match j with | 0=> .ret | _=> .exit 0
 tags:= [0,1]
 lt:=zK
 fuel:=fun(y0,y1)=>y0.natAbs + y1.length
 fix:=fun(_,y1) (y0,_)=>(y0,y1)
 σ:= [(0,0)]
 rd:=Ke
theorem Yy:LoopOk Tryz.prog (fun k=>Nat.blt k Tryz.f90.ntmps) fo.F (aD Tryz.f90 0):=by
 refine Lp.ok (tbl:= [eQ]) (lf:= []) ay fo (by kernel_rfl) (LOk.nil _) (fun _=>rfl) (fun j _=>by unfold fo;match j with | 0=>rfl | _ + 1=>rfl) ?_ ?_ ?_ ?_ (fun _=>rfl) ?_
 ·intro x;obtain⟨y0,y1⟩:=x;kernel_rfl
 ·intro x;obtain⟨y0,y1⟩:=x;kernel_rfl
 ·intro s x h
  have h:Ke s=some x:=h
  unfold Ke at h
  repeat' split at h
  all_goals cases h
  exact⟨aa (by assumption) rfl (aa (by assumption) rfl (rfl)),ac rfl (by assumption) rfl (rfl)⟩
 ·intro x;obtain⟨y0,y1⟩:=x;kernel_rfl
 ·intro x z;obtain⟨y0,y1⟩:=x;exact(And.intro (And.intro trivial rfl) trivial)
def Rw(x0:List (Int×Int)):Bool:=bif Nat.beq ((Lp.res fo ((0:Int),x0)).1) (0:Nat)then false else leI (↑x0.length:Int) (12:Int)
def Rx(x0:List (Int×Int)):Bool:=allT [Lp.fin fo ((0:Int),x0)]
def Zb:List SV→List Entry→Option Out
 | [.one ⟨false,[.ref 0]⟩],[.row false 173 (.pair (.int .i64) (.int .i64)) x0]=>some ⟨(.one ⟨false,[(.val (.bool (Rw x0)))]⟩),[(.row false 173 amT x0)],[],[(Rx x0)]⟩
 |_,_=>none
def afO:PF Tryz.prog:=PF.ofG Tryz.prog [eQ] [fo.F] ay 90 Tryz.f90 Tryz.func90 (LOk.fnT (l:= [aD Tryz.f90 0]) (by kernel_rfl) (.cons Yy (.nil _))) Zb (by
 intro vs es r h;unfold Zb at h;split at h
 ·cases h;kernel_rfl
 ·cases h)
def KC(x0 x1:Int):Bool:=bif aJ x0 (0:Int) (23:Int)then aJ x1 (1:Int) (999:Int)else false
def VT:List SV→List Entry→Option Out
 | [.one ⟨false,[.val (.int .i64 x0)]⟩,.one ⟨false,[.val (.int .i64 x1)]⟩],[]=>some ⟨(.one ⟨false,[(.val (.bool (KC x0 x1)))]⟩),[],[],[]⟩
 |_,_=>none
def Xo:PF Tryz.prog:=PF.ofG Tryz.prog [eQ] [] ay 173 Tryz.f173 Tryz.func173 (fun c _=>LOk.nil c) VT (by
 intro vs es r h;unfold VT at h;split at h
 ·cases h;kernel_rfl
 ·cases h)
abbrev jY:=Int×Int×Int×List (Int×Int)
section
variable (y0 y1 y2:Int)(y3:List (Int×Int))
def pY:Int×Int:=Option.getD y3[Int.toNat y0]? ((0:Int),(0:Int))
def pZ:Bool:= !((pY y0 y3).1==y1&&true)
def vg:Bool:=ltI y0 (↑y3.length:Int)
def Af:Bool:=leI (0:Int) y0
def Ag:Bool:=ltN y0.toNat y3.length
def Ah:Bool:=pZ y0 y1 y3||leI (0:Int) y0
def Ai:Bool:=pZ y0 y1 y3||ltI y0 (↑y3.length:Int)
def Aj:Bool:=pZ y0 y1 y3||ltN y0.toNat y3.length
def Ak:Bool:=bif (pY y0 y3).1==y1 then (pY y0 y3).2==y2 else false
def Al:Int:=IntKind.wrap .i64 (y0 + (1:Int))
end
def ZT:jY→List (Nat×SV)
 |(y0,y1,y2,_)=> [(7,(.one ⟨false,[(.val (.int .i64 y0))]⟩)),(0,(.one ⟨false,[(.ref 0)]⟩)),(1,(.one ⟨false,[(.val (.int .i64 y1))]⟩)),(2,(.one ⟨false,[(.val (.int .i64 y2))]⟩))]
def ZN:jY→List (Nat×Entry)
 |(_,_,_,y3)=> [(0,(.row false 176 amT y3))]
def aaf:Nat→jY→List (Nat×SV)
 |0,(y0,_,_,_)=> [(6,(.one ⟨false,[(.val (.int .i64 y0))]⟩))]
 |_,(_,_,_,_)=> []
def ZZ:Nat→jY→List (Nat×Entry)
 |0,(_,_,_,y3)=> [(0,(.row false 176 amT y3))]
 |_,(_,_,_,y3)=> [(0,(.row false 176 amT y3))]
def yc:jY→LT jY
 |(y0,y1,y2,y3)=> .ite (vg y0 y3) (.need [(Af y0),(vg y0 y3),(Ag y0 y3),(Ah y0 y1 y3),(Ai y0 y1 y3),(Aj y0 y1 y3)] (.ite (Ak y0 y1 y2 y3) (.ext 0 [(0,0)]) (.nrm ((Al y0),y1,y2,y3) [(0,0)]))) (.ext 1 [(0,0)])
def Is(s:St):Option jY:=
 (match s.look 7 with
 |some ⟨none,(.one ⟨false,[(.val (.int .i64 y0))]⟩)⟩=>
 (match s.look 0 with
 |some ⟨none,(.one ⟨false,[(.ref 0)]⟩)⟩=>
 (match s.look 1 with
 |some ⟨none,(.one ⟨false,[(.val (.int .i64 y1))]⟩)⟩=>
 (match s.look 2 with
 |some ⟨none,(.one ⟨false,[(.val (.int .i64 y2))]⟩)⟩=>
 (match s.ent 0 with
 |some (.row false 176 (.pair (.int .i64) (.int .i64)) y3)=>
 some (y0,y1,y2,y3)
 |_=>none)
 |_=>none)
 |_=>none)
 |_=>none)
 |_=>none)
def dm:Lp jY where
 h:=⟨[8,9,10,11,14,15,16,17,18,19,20,21,22,23,24,25,26,27,28,29,30,6,12,13,7],[0],[],[]⟩
 JL:=ZT
 JE:=ZN
 XL:=aaf
 XE:=ZZ
 q:=fun j=>match j with | 0=> .ret | _=> .exit 0
 tags:= [0,1]
 lt:=yc
 fuel:=fun(y0,y1,y2,y3)=>y0.natAbs + y1.natAbs + y2.natAbs + y3.length
 fix:=fun(_,y1,y2,y3) (y0,_,_,_)=>(y0,y1,y2,y3)
 σ:= [(0,0)]
 rd:=Is
theorem Xb:LoopOk Tryz.prog (fun k=>Nat.blt k Tryz.f174.ntmps) dm.F (aD Tryz.f174 0):=by
 refine Lp.ok (tbl:= []) (lf:= []) ay dm (by kernel_rfl) (LOk.nil _) (fun _=>rfl) (fun j _=>by unfold dm;match j with | 0=>rfl | _ + 1=>rfl) ?_ ?_ ?_ ?_ (fun _=>rfl) ?_
 ·intro x;obtain⟨y0,y1,y2,y3⟩:=x;kernel_rfl
 ·intro x;obtain⟨y0,y1,y2,y3⟩:=x;kernel_rfl
 ·intro s x h
  have h:Is s=some x:=h
  unfold Is at h
  repeat' split at h
  all_goals cases h
  exact⟨aa (by assumption) rfl (aa (by assumption) rfl (aa (by assumption) rfl (aa (by assumption) rfl (rfl)))),ac rfl (by assumption) rfl (rfl)⟩
 ·intro x;obtain⟨y0,y1,y2,y3⟩:=x;kernel_rfl
 ·intro x z;obtain⟨y0,y1,y2,y3⟩:=x;exact(And.intro (And.intro trivial rfl) trivial)
section
variable (x0 x1:Int)(x2:List (Int×Int))
def HU:Int×Int×Int×List (Int×Int):=((0:Int),x0,x1,x2)
def Cp:Int:=bif Nat.beq ((Lp.res dm (HU x0 x1 x2)).1) (0:Nat)then ((Lp.res dm (HU x0 x1 x2)).2).1else(-1:Int)
def KB:Bool:=allT [Lp.fin dm (HU x0 x1 x2)]
end
def VS:List SV→List Entry→Option Out
 | [.one ⟨false,[.ref 0]⟩,.one ⟨false,[.val (.int .i64 x0)]⟩,.one ⟨false,[.val (.int .i64 x1)]⟩],[.row false 176 (.pair (.int .i64) (.int .i64)) x2]=>some ⟨(.one ⟨false,[(.val (.int .i64 (Cp x0 x1 x2)))]⟩),[(.row false 176 amT x2)],[],[(KB x0 x1 x2)]⟩
 |_,_=>none
def BI:PF Tryz.prog:=PF.ofG Tryz.prog [] [dm.F] ay 174 Tryz.f174 Tryz.func174 (LOk.fnT (l:= [aD Tryz.f174 0]) (by kernel_rfl) (.cons Xb (.nil _))) VS (by
 intro vs es r h;unfold VS at h;split at h
 ·cases h;kernel_rfl
 ·cases h)
abbrev mO:=Int×List (Int×Int)
section
variable (y0:Int)(y1:List (Int×Int))
def ly:Int×Int:=Option.getD y1[Int.toNat y0]? ((0:Int),(0:Int))
def oO:Bool:= !KC ((ly y0 y1).1) ((ly y0 y1).2)
def tb:Bool:=ltI y0 (↑y1.length:Int)
def It:Bool:=leI (0:Int) y0
def Iu:Bool:=ltN y0.toNat y1.length
def Iv:Bool:= !(!oO y0 y1&&true)||leI (0:Int) y0
def Iw:Bool:= !(!oO y0 y1&&true)||ltI y0 (↑y1.length:Int)
def Ix:Bool:= !(!oO y0 y1&&true)||ltN y0.toNat y1.length
def Pq:Bool:= !(!oO y0 y1&&true)||KB ((ly y0 y1).1) ((ly y0 y1).2) y1
def Pr:Bool:=bif oO y0 y1 then true else Cp ((ly y0 y1).1) ((ly y0 y1).2) y1 !=y0
def Ps:Int:=IntKind.wrap .i64 (y0 + (1:Int))
end
def Yb:mO→List (Nat×SV)
 |(y0,_)=> [(3,(.one ⟨false,[(.val (.int .i64 y0))]⟩)),(0,(.one ⟨false,[(.ref 0)]⟩))]
def XS:mO→List (Nat×Entry)
 |(_,y1)=> [(0,(.row false 176 amT y1))]
def Yt:Nat→mO→List (Nat×SV)
 |0,(_,_)=> [(2,(.one ⟨false,[(.val (.bool false))]⟩))]
 |_,(_,_)=> []
def Yk:Nat→mO→List (Nat×Entry)
 |0,(_,y1)=> [(0,(.row false 176 amT y1))]
 |_,(_,y1)=> [(0,(.row false 176 amT y1))]
def vY:mO→LT mO
 |(y0,y1)=> .ite (tb y0 y1) (.need [(It y0),(tb y0 y1),(Iu y0 y1),(It y0),(tb y0 y1),(Iu y0 y1),(Iv y0 y1),(Iw y0 y1),(Ix y0 y1),(Iv y0 y1),(Iw y0 y1),(Ix y0 y1),(Pq y0 y1)] (.ite (Pr y0 y1) (.ext 0 [(0,0)]) (.nrm ((Ps y0),y1) [(0,0)]))) (.ext 1 [(0,0)])
def GZ(s:St):Option mO:=
 (match s.look 3 with
 |some ⟨none,(.one ⟨false,[(.val (.int .i64 y0))]⟩)⟩=>
 (match s.look 0 with
 |some ⟨none,(.one ⟨false,[(.ref 0)]⟩)⟩=>
 (match s.ent 0 with
 |some (.row false 176 (.pair (.int .i64) (.int .i64)) y1)=>
 some (y0,y1)
 |_=>none)
 |_=>none)
 |_=>none)
def dv:Lp mO where
 h:=⟨[4,5,6,7,10,11,12,13,14,15,16,17,18,19,20,21,22,23,24,25,26,27,28,29,30,31,32,33,34,35,36,37,2,8,9,3],[0],[],[]⟩
 JL:=Yb
 JE:=XS
 XL:=Yt
 XE:=Yk
 q:=fun j=>match j with | 0=> .ret | _=> .exit 0
 tags:= [0,1]
 lt:=vY
 fuel:=fun(y0,y1)=>y0.natAbs + y1.length
 fix:=fun(_,y1) (y0,_)=>(y0,y1)
 σ:= [(0,0)]
 rd:=GZ
theorem Vs:LoopOk Tryz.prog (fun k=>Nat.blt k Tryz.f91.ntmps) dv.F (aD Tryz.f91 0):=by
 refine Lp.ok (tbl:= [Xo,BI,PF.lend BI,PF.fz BI]) (lf:= []) ay dv (by kernel_rfl) (LOk.nil _) (fun _=>rfl) (fun j _=>by unfold dv;match j with | 0=>rfl | _ + 1=>rfl) ?_ ?_ ?_ ?_ (fun _=>rfl) ?_
 ·intro x;obtain⟨y0,y1⟩:=x;kernel_rfl
 ·intro x;obtain⟨y0,y1⟩:=x;kernel_rfl
 ·intro s x h
  have h:GZ s=some x:=h
  unfold GZ at h
  repeat' split at h
  all_goals cases h
  exact⟨aa (by assumption) rfl (aa (by assumption) rfl (rfl)),ac rfl (by assumption) rfl (rfl)⟩
 ·intro x;obtain⟨y0,y1⟩:=x;kernel_rfl
 ·intro x z;obtain⟨y0,y1⟩:=x;exact(And.intro (And.intro trivial rfl) trivial)
def Ni(x0:List (Int×Int)):Bool:=bif Nat.beq ((Lp.res dv ((0:Int),x0)).1) (0:Nat)then false else leI (↑x0.length:Int) (8:Int)
def Nj(x0:List (Int×Int)):Bool:=allT [Lp.fin dv ((0:Int),x0)]
def Uw:List SV→List Entry→Option Out
 | [.one ⟨false,[.ref 0]⟩],[.row false 176 (.pair (.int .i64) (.int .i64)) x0]=>some ⟨(.one ⟨false,[(.val (.bool (Ni x0)))]⟩),[(.row false 176 amT x0)],[],[(Nj x0)]⟩
 |_,_=>none
def ad9:PF Tryz.prog:=PF.ofG Tryz.prog [Xo,BI,PF.lend BI,PF.fz BI] [dv.F] ay 91 Tryz.f91 Tryz.func91 (LOk.fnT (l:= [aD Tryz.f91 0]) (by kernel_rfl) (.cons Vs (.nil _))) Uw (by
 intro vs es r h;unfold Uw at h;split at h
 ·cases h;kernel_rfl
 ·cases h)
def TM(x0:Int):Bool:= !aZ x0 (0:Int) (2:Int)
def Jc:List SV→List Entry→Option Out
 | [.one ⟨false,[.val (.int .i64 x0)]⟩],[]=>some ⟨(.one ⟨false,[(.val (.bool (TM x0)))]⟩),[],[],[]⟩
 |_,_=>none
def TZ:PF Tryz.prog:=PF.ofG Tryz.prog [fY] [] ay 166 Tryz.f166 Tryz.func166 (fun c _=>LOk.nil c) Jc (by
 intro vs es r h;unfold Jc at h;split at h
 ·cases h;kernel_rfl
 ·cases h)
def uZ(x0:Int):Bool:=aZ x0 (1:Int) (12:Int)
def Qk:List SV→List Entry→Option Out
 | [.one ⟨false,[.val (.int .i64 x0)]⟩],[]=>some ⟨(.one ⟨false,[(.val (.bool (uZ x0)))]⟩),[],[],[]⟩
 |_,_=>none
def JR:PF Tryz.prog:=PF.ofG Tryz.prog [fY] [] ay 70 Tryz.f70 Tryz.func70 (fun c _=>LOk.nil c) Qk (by
 intro vs es r h;unfold Qk at h;split at h
 ·cases h;kernel_rfl
 ·cases h)
def pE(x0:Int):Bool:= !aZ x0 (0:Int) (2:Int)
def DN:List SV→List Entry→Option Out
 | [(.one ⟨false,[(.val (.int .i64 x0))]⟩)],[]=>some ⟨(.one ⟨false,[(.val (.bool (pE x0)))]⟩),[],[],[]⟩
 |_,_=>none
def DV:PF Tryz.prog:=PF.ofG Tryz.prog [fY] [] ay 166 Tryz.f166 Tryz.func166 (fun c _=>LOk.nil c) DN (by
 intro vs es r h;unfold DN at h;split at h
 ·cases h;kernel_rfl
 ·cases h)
abbrev aX:=Int×Int×List Int
section
variable (y0 y1:Int)(y2:List Int)
def fG:Bool:=ltI y0 y1
def fH:Bool:=leI (0:Int) y0
def fI:Bool:=ltI y0 (↑y2.length:Int)
def fJ:Bool:=ltN y0.toNat y2.length
def fK:Bool:=pE (Option.getD y2[Int.toNat y0]? (0:Int))
def fL:Int:=IntKind.wrap .i64 (y0 + (1:Int))
end
def Ep:aX→List (Nat×SV)
 |(y0,y1,_)=> [(8,(.one ⟨false,[(.val (.int .i64 y0))]⟩)),(7,(.one ⟨false,[(.val (.int .i64 y1))]⟩)),(1,(.one ⟨false,[(.val (.func (.func 166) ⟨[]⟩ ⟨[]⟩))]⟩)),(0,(.one ⟨false,[(.ref 0)]⟩))]
def En:aX→List (Nat×Entry)
 |(_,_,y2)=> [(0,(.row false 2 amU y2))]
def Eu:Nat→aX→List (Nat×SV)
 |0,(y0,_,_)=> [(4,(.one ⟨false,[(.val (.int .i64 y0))]⟩))]
 |_,(_,_,_)=> []
def Es:Nat→aX→List (Nat×Entry)
 |0,(_,_,y2)=> [(0,(.row false 2 amU y2))]
 |_,(_,_,y2)=> [(0,(.row false 2 amU y2))]
def fg:aX→LT aX
 |(y0,y1,y2)=> .ite (fG y0 y1) (.need [(fH y0),(fI y0 y2),(fJ y0 y2)] (.ite (fK y0 y2) (.ext 0 [(0,0)]) (.nrm ((fL y0),y1,y2) [(0,0)]))) (.ext 1 [(0,0)])
def lV(s:St):Option aX:=
 (match s.look 8 with
 |some ⟨none,(.one ⟨false,[(.val (.int .i64 y0))]⟩)⟩=>
 (match s.look 7 with
 |some ⟨none,(.one ⟨false,[(.val (.int .i64 y1))]⟩)⟩=>
 (match s.look 1 with
 |some ⟨none,(.one ⟨false,[(.val (.func (.func 166) ⟨[]⟩ ⟨[]⟩))]⟩)⟩=>
 (match s.look 0 with
 |some ⟨none,(.one ⟨false,[(.ref 0)]⟩)⟩=>
 (match s.ent 0 with
 |some (.row false 2 (.int .i64) y2)=>
 some (y0,y1,y2)
 |_=>none)
 |_=>none)
 |_=>none)
 |_=>none)
 |_=>none)
def ao:Lp aX where
 h:=⟨[9,10,5,11,12,13,14,15,16,17,4,18,8],[0],[],[]⟩
 JL:=Ep
 JE:=En
 XL:=Eu
 XE:=Es
 q:=fun j=>match j with | 0=> .ret | _=> .exit 0
 tags:= [0,1]
 lt:=fg
 fuel:=fun(y0,y1,y2)=>y0.natAbs + y1.natAbs + y2.length
 fix:=fun(_,y1,y2) (y0,_,_)=>(y0,y1,y2)
 σ:= [(0,0)]
 rd:=lV
theorem Dy:LoopOk Tryz.prog (fun k=>Nat.blt k Tryz.f211.ntmps) ao.F (aD Tryz.f211 0):=by
 refine Lp.ok (tbl:= [DV]) (lf:= []) ay ao (by kernel_rfl) (LOk.nil _) (fun _=>rfl) (fun j _=>by unfold ao;match j with | 0=>rfl | _ + 1=>rfl) ?_ ?_ ?_ ?_ (fun _=>rfl) ?_
 ·intro x;obtain⟨y0,y1,y2⟩:=x;kernel_rfl
 ·intro x;obtain⟨y0,y1,y2⟩:=x;kernel_rfl
 ·intro s x h
  have h:lV s=some x:=h
  unfold lV at h
  repeat' split at h
  all_goals cases h
  exact⟨aa (by assumption) rfl (aa (by assumption) rfl (aa (by assumption) rfl (aa (by assumption) rfl (rfl)))),ac rfl (by assumption) rfl (rfl)⟩
 ·intro x;obtain⟨y0,y1,y2⟩:=x;kernel_rfl
 ·intro x z;obtain⟨y0,y1,y2⟩:=x;exact(And.intro (And.intro trivial rfl) trivial)
section
variable (x0:List Int)
def jj:Int×Int×List Int:=((0:Int),(↑x0.length:Int),x0)
def oK:Int:=bif Nat.beq ((Lp.res ao (jj x0)).1) (0:Nat)then ((Lp.res ao (jj x0)).2).1else(-1:Int)
def oL:Bool:=allT [Lp.fin ao (jj x0)]
end
def vA:List SV→List Entry→Option Out
 | [(.one ⟨false,[(.ref 0)]⟩),(.one ⟨false,[(.val (.func (.func 166) ⟨[]⟩ ⟨[]⟩))]⟩)],[(.row false 2 (.int .i64) x0)]=>some ⟨(.one ⟨false,[(.val (.int .i64 (oK x0)))]⟩),[(.row false 2 amU x0)],[],[(oL x0)]⟩
 |_,_=>none
def oI:PF Tryz.prog:=PF.ofG Tryz.prog [DV] [ao.F] ay 211 Tryz.f211 Tryz.func211 (LOk.fnT (l:= [aD Tryz.f211 0]) (by kernel_rfl) (.cons Dy (.nil _))) vA (by
 intro vs es r h;unfold vA at h;split at h
 ·cases h;kernel_rfl
 ·cases h)
def mD(x0:List Int):Bool:=leI (0:Int) (oK x0)
def mE(x0:List Int):Bool:=allT [oL x0]
def tp:List SV→List Entry→Option Out
 | [(.one ⟨false,[(.ref 0)]⟩),(.one ⟨false,[(.val (.func (.func 166) ⟨[]⟩ ⟨[]⟩))]⟩)],[(.row false 2 (.int .i64) x0)]=>some ⟨(.one ⟨false,[(.val (.bool (mD x0)))]⟩),[(.row false 2 amU x0)],[],[(mE x0)]⟩
 |_,_=>none
def mA:PF Tryz.prog:=PF.ofG Tryz.prog [oI,PF.lend oI,PF.fz oI] [] ay 158 Tryz.f158 Tryz.func158 (fun c _=>LOk.nil c) tp (by
 intro vs es r h;unfold tp at h;split at h
 ·cases h;kernel_rfl
 ·cases h)
def FB(x0:List Int):Bool:=bif uZ (cJ x0)then !mD x0 else false
def FC(x0:List Int):Bool:=allT [!(uZ (cJ x0)&&true)||mE x0]
def Mn:List SV→List Entry→Option Out
 | [.one ⟨false,[.ref 0]⟩],[.row false 2 (.int .i64) x0]=>some ⟨(.one ⟨false,[(.val (.bool (FB x0)))]⟩),[(.row false 2 amU x0)],[],[(FC x0)]⟩
 |_,_=>none
def Xk:PF Tryz.prog:=PF.ofG Tryz.prog [TZ,JR,aG,PF.lend aG,PF.fz aG,mA,PF.lend mA,PF.fz mA] [] ay 77 Tryz.f77 Tryz.func77 (fun c _=>LOk.nil c) Mn (by
 intro vs es r h;unfold Mn at h;split at h
 ·cases h;kernel_rfl
 ·cases h)
def pD(x0 x1 x3 x4:Int):Bool:=bif x0==x3 then x1==x4 else false
def pC:List SV→List Entry→Option Out
 | [(.one ⟨true,[(.val (.int .i64 x0)),(.val (.int .i64 x1)),(.val (.int .i64 _x2))]⟩),(.one ⟨false,[(.ptr 0 0)]⟩)],[(.box 100 [(.val (.int .i64 x3)),(.val (.int .i64 x4)),(.val (.int .i64 x5))])]=>some ⟨(.one ⟨false,[(.val (.bool (pD x0 x1 x3 x4)))]⟩),[(.box 100 [(.val (.int .i64 x3)),(.val (.int .i64 x4)),(.val (.int .i64 x5))])],[],[]⟩
 |_,_=>none
def DU:PF Tryz.prog:=PF.kept (PF.ofG Tryz.prog [] [] ay 168 Tryz.f168 Tryz.func168 (fun c _=>LOk.nil c) pC (by
 intro vs es r h;unfold pC at h;split at h
 ·cases h;kernel_rfl
 ·cases h)) [0] (by
 intro vs es r h;have h:pC vs es=some r:=h;unfold pC at h;split at h
 ·cases h;exact List.forall_mem_cons.2 ⟨rfl,fun _ h=>(by cases h)⟩
 ·cases h)
abbrev aO:=Int×Int×Int×Int×Int×List (Int×(Int×Int))
section
variable (y0 y1 y2 y3:Int)(y5:List (Int×(Int×Int)))
def cj:Int×Int×Int:=Option.getD y5[Int.toNat y0]? ((0:Int),(0:Int),(0:Int))
def eg:Bool:=ltI y0 y1
def ei:Bool:=leI (0:Int) y0
def ej:Bool:=ltI y0 (↑y5.length:Int)
def ek:Bool:=ltN y0.toNat y5.length
def em:Bool:=pD ((cj y0 y5).1) (((cj y0 y5).2).1) y2 y3
def eo:Int:=IntKind.wrap .i64 (y0 + (1:Int))
end
def CT:aO→List (Nat×SV)
 |(y0,y1,_,_,_,_)=> [(8,(.one ⟨false,[(.val (.int .i64 y0))]⟩)),(7,(.one ⟨false,[(.val (.int .i64 y1))]⟩)),(1,(.one ⟨false,[(.clo 168 [0])]⟩)),(0,(.one ⟨false,[(.ref 1)]⟩))]
def CR:aO→List (Nat×Entry)
 |(_,_,y2,y3,y4,y5)=> [(0,(.box 100 [(.val (.int .i64 y2)),(.val (.int .i64 y3)),(.val (.int .i64 y4))])),(1,(.row false 100 amS y5))]
def CX:Nat→aO→List (Nat×SV)
 |0,(y0,_,_,_,_,_)=> [(4,(.one ⟨false,[(.val (.int .i64 y0))]⟩))]
 |_,(_,_,_,_,_,_)=> []
def CV:Nat→aO→List (Nat×Entry)
 |0,(_,_,y2,y3,y4,y5)=> [(0,(.box 100 [(.val (.int .i64 y2)),(.val (.int .i64 y3)),(.val (.int .i64 y4))])),(1,(.row false 100 amS y5))]
 |_,(_,_,y2,y3,y4,y5)=> [(0,(.box 100 [(.val (.int .i64 y2)),(.val (.int .i64 y3)),(.val (.int .i64 y4))])),(1,(.row false 100 amS y5))]
def dN:aO→LT aO
 |(y0,y1,y2,y3,y4,y5)=> .ite (eg y0 y1) (.need [(ei y0),(ej y0 y5),(ek y0 y5)] (.ite (em y0 y2 y3 y5) (.ext 0 [(0,0),(1,1)]) (.nrm ((eo y0),y1,y2,y3,y4,y5) [(0,0),(1,1)]))) (.ext 1 [(0,0),(1,1)])
def kg(s:St):Option aO:=
 (match s.look 8 with
 |some ⟨none,(.one ⟨false,[(.val (.int .i64 y0))]⟩)⟩=>
 (match s.look 7 with
 |some ⟨none,(.one ⟨false,[(.val (.int .i64 y1))]⟩)⟩=>
 (match s.look 1 with
 |some ⟨none,(.one ⟨false,[(.clo 168 [1])]⟩)⟩=>
 (match s.look 0 with
 |some ⟨none,(.one ⟨false,[(.ref 0)]⟩)⟩=>
 (match s.ent 1 with
 |some (.box 100 [(.val (.int .i64 y2)),(.val (.int .i64 y3)),(.val (.int .i64 y4))])=>
 (match s.ent 0 with
 |some (.row false 100 (.pair (.int .i64) (.pair (.int .i64) (.int .i64))) y5)=>
 some (y0,y1,y2,y3,y4,y5)
 |_=>none)
 |_=>none)
 |_=>none)
 |_=>none)
 |_=>none)
 |_=>none)
def aj:Lp aO where
 h:=⟨[9,10,5,11,12,13,14,15,16,17,4,18,8],[0,1],[],[]⟩
 JL:=CT
 JE:=CR
 XL:=CX
 XE:=CV
 q:=fun j=>match j with | 0=> .ret | _=> .exit 0
 tags:= [0,1]
 lt:=dN
 fuel:=fun(y0,y1,y2,y3,y4,y5)=>y0.natAbs + y1.natAbs + y2.natAbs + y3.natAbs + y4.natAbs + y5.length
 fix:=fun(_,y1,y2,y3,y4,y5) (y0,_,_,_,_,_)=>(y0,y1,y2,y3,y4,y5)
 σ:= [(0,1),(1,0)]
 rd:=kg
theorem Bd:LoopOk Tryz.prog (fun k=>Nat.blt k Tryz.f216.ntmps) aj.F (aD Tryz.f216 0):=by
 refine Lp.ok (tbl:= [DU]) (lf:= []) ay aj (by kernel_rfl) (LOk.nil _) (fun _=>rfl) (fun j _=>by unfold aj;match j with | 0=>rfl | _ + 1=>rfl) ?_ ?_ ?_ ?_ (fun _=>rfl) ?_
 ·intro x;obtain⟨y0,y1,y2,y3,y4,y5⟩:=x;kernel_rfl
 ·intro x;obtain⟨y0,y1,y2,y3,y4,y5⟩:=x;kernel_rfl
 ·intro s x h
  have h:kg s=some x:=h
  unfold kg at h
  repeat' split at h
  all_goals cases h
  exact⟨aa (by assumption) rfl (aa (by assumption) rfl (aa (by assumption) rfl (aa (by assumption) rfl (rfl)))),ac rfl (by assumption) rfl (ac rfl (by assumption) rfl (rfl))⟩
 ·intro x;obtain⟨y0,y1,y2,y3,y4,y5⟩:=x;kernel_rfl
 ·intro x z;obtain⟨y0,y1,y2,y3,y4,y5⟩:=x;exact(And.intro (And.intro trivial rfl) trivial)
section
variable (x0:List (Int×Int×Int))(x1 x2 x3:Int)
def fj:Int×Int×Int×Int×Int×List (Int×Int×Int):=((0:Int),(↑x0.length:Int),x1,x2,x3,x0)
def c9:Bool:=Nat.beq ((Lp.res aj (fj x0 x1 x2 x3)).1) (0:Nat)
def iD:Int:=bif c9 x0 x1 x2 x3 then ((Lp.res aj (fj x0 x1 x2 x3)).2).1else(-1:Int)
def iE:Int:=bif c9 x0 x1 x2 x3 then x1 else x1
def iF:Int:=bif c9 x0 x1 x2 x3 then x2 else x2
def iG:Int:=bif c9 x0 x1 x2 x3 then x3 else x3
def iH:Bool:=allT [Lp.fin aj (fj x0 x1 x2 x3)]
end
def tt:List SV→List Entry→Option Out
 | [(.one ⟨false,[(.ref 0)]⟩),(.one ⟨false,[(.clo 168 [1])]⟩)],[(.row false 100 (.pair (.int .i64) (.pair (.int .i64) (.int .i64))) x0),(.box 100 [(.val (.int .i64 x1)),(.val (.int .i64 x2)),(.val (.int .i64 x3))])]=>some ⟨(.one ⟨false,[(.val (.int .i64 (iD x0 x1 x2 x3)))]⟩),[(.row false 100 amS x0),(.box 100 [(.val (.int .i64 (iE x0 x1 x2 x3))),(.val (.int .i64 (iF x0 x1 x2 x3))),(.val (.int .i64 (iG x0 x1 x2 x3)))])],[],[(iH x0 x1 x2 x3)]⟩
 |_,_=>none
def mC:PF Tryz.prog:=PF.ofG Tryz.prog [DU] [aj.F] ay 216 Tryz.f216 Tryz.func216 (LOk.fnT (l:= [aD Tryz.f216 0]) (by kernel_rfl) (.cons Bd (.nil _))) tt (by
 intro vs es r h;unfold tt at h;split at h
 ·cases h;kernel_rfl
 ·cases h)
section
variable (x0:List (Int×Int×Int))(x1 x2 x3:Int)
def ee:Bool:=leI (0:Int) (iD x0 x1 x2 x3)
def kA:Int:=iE x0 x1 x2 x3
def kB:Int:=iF x0 x1 x2 x3
def kC:Int:=iG x0 x1 x2 x3
def ef:Bool:=allT [iH x0 x1 x2 x3]
end
def qM:List SV→List Entry→Option Out
 | [(.one ⟨false,[(.ref 0)]⟩),(.one ⟨false,[(.clo 168 [1])]⟩)],[(.row false 100 (.pair (.int .i64) (.pair (.int .i64) (.int .i64))) x0),(.box 100 [(.val (.int .i64 x1)),(.val (.int .i64 x2)),(.val (.int .i64 x3))])]=>some ⟨(.one ⟨false,[(.val (.bool (ee x0 x1 x2 x3)))]⟩),[(.row false 100 amS x0),(.box 100 [(.val (.int .i64 (kA x0 x1 x2 x3))),(.val (.int .i64 (kB x0 x1 x2 x3))),(.val (.int .i64 (kC x0 x1 x2 x3)))])],[],[(ef x0 x1 x2 x3)]⟩
 |_,_=>none
def cA:PF Tryz.prog:=PF.ofG Tryz.prog [mC,PF.lend mC,PF.fz mC] [] ay 167 Tryz.f167 Tryz.func167 (fun c _=>LOk.nil c) qM (by
 intro vs es r h;unfold qM at h;split at h
 ·cases h;kernel_rfl
 ·cases h)
abbrev ii:=Int×Int×Int×List (Int×(Int×Int))
section
variable (y0 y1 y2:Int)(y3:List (Int×(Int×Int)))
def dU:Int×Int×Int:=Option.getD y3[Int.toNat y0]? ((0:Int),(0:Int),(0:Int))
def Hm:List (Int×Int×Int):=List.drop (Int.toNat (0:Int)) (List.take y0.toNat y3)
def uY:Bool:=ltI y0 y1
def BD:Bool:=leI (0:Int) y0
def IG:Bool:=ltI y0 (↑y3.length:Int)
def IH:Bool:=ltN y0.toNat y3.length
def BE:Bool:=bif bif !aZ ((dU y0 y3).1) (0:Int) (IntKind.wrap .i64 (y2 - (1:Int)))then true else !aZ (((dU y0 y3).2).1) (0:Int) (1:Int)then true else !aZ ((dU y0 y3).2.2) (0:Int) (1:Int)
end
def II:Bool:=leI (0:Int) (0:Int)
section
variable (y0:Int)(y3:List (Int×(Int×Int)))
def IJ:Bool:=leI y0 (↑y3.length:Int)
def IK:Bool:=ef (Hm y0 y3) ((dU y0 y3).1) (((dU y0 y3).2).1) ((dU y0 y3).2.2)
def IL:Bool:=ee (Hm y0 y3) ((dU y0 y3).1) (((dU y0 y3).2).1) ((dU y0 y3).2.2)
def IM:Int:=IntKind.wrap .i64 (y0 + (1:Int))
end
def QP:ii→List (Nat×SV)
 |(y0,y1,y2,_)=> [(9,(.one ⟨false,[(.val (.int .i64 y0))]⟩)),(8,(.one ⟨false,[(.val (.int .i64 y1))]⟩)),(7,(.one ⟨false,[(.ref 0)]⟩)),(0,(.one ⟨false,[(.val (.int .i64 y2))]⟩)),(1,(.one ⟨false,[(.ref 0)]⟩))]
def QM:ii→List (Nat×Entry)
 |(_,_,_,y3)=> [(0,(.row false 100 amS y3))]
def QV:Nat→ii→List (Nat×SV)
 |0,(_,_,_,_)=> [(4,(.one ⟨false,[(.val (.bool false))]⟩))]
 |1,(_,_,_,_)=> [(4,(.one ⟨false,[(.val (.bool false))]⟩))]
 |_,(_,_,_,_)=> []
def QS:Nat→ii→List (Nat×Entry)
 |0,(_,_,_,y3)=> [(0,(.row false 100 amS y3))]
 |1,(_,_,_,y3)=> [(0,(.row false 100 amS y3))]
 |_,(_,_,_,y3)=> [(0,(.row false 100 amS y3))]
def pz:ii→LT ii
 |(y0,y1,y2,y3)=> .ite (uY y0 y1) (.need [(BD y0),(IG y0 y3),(IH y0 y3)] (.ite (BE y0 y2 y3) (.ext 0 [(0,0)]) (.need [(II),(BD y0),(IJ y0 y3),(IK y0 y3)] (.ite (IL y0 y3) (.ext 1 [(0,0)]) (.nrm ((IM y0),y1,y2,y3) [(0,0)]))))) (.ext 2 [(0,0)])
def AG(s:St):Option ii:=
 (match s.look 9 with
 |some ⟨none,(.one ⟨false,[(.val (.int .i64 y0))]⟩)⟩=>
 (match s.look 8 with
 |some ⟨none,(.one ⟨false,[(.val (.int .i64 y1))]⟩)⟩=>
 (match s.look 7 with
 |some ⟨none,(.one ⟨false,[(.ref 0)]⟩)⟩=>
 (match s.look 0 with
 |some ⟨none,(.one ⟨false,[(.val (.int .i64 y2))]⟩)⟩=>
 (match s.look 1 with
 |some ⟨none,(.one ⟨false,[(.ref 0)]⟩)⟩=>
 (match s.ent 0 with
 |some (.row false 100 (.pair (.int .i64) (.pair (.int .i64) (.int .i64))) y3)=>
 some (y0,y1,y2,y3)
 |_=>none)
 |_=>none)
 |_=>none)
 |_=>none)
 |_=>none)
 |_=>none)
def bx:Lp ii where
 h:=⟨[10,11,12,13,6,5,14,15,16,17,18,19,20,21,22,23,24,25,26,27,28,29,30,31,4,32,33,34,35,36,37,9],[0],[],[]⟩
 JL:=QP
 JE:=QM
 XL:=QV
 XE:=QS
 q:=fun j=>match j with | 0=> .ret | 1=> .ret | _=> .exit 0
 tags:= [0,1,2]
 lt:=pz
 fuel:=fun(y0,y1,y2,y3)=>y0.natAbs + y1.natAbs + y2.natAbs + y3.length
 fix:=fun(_,y1,y2,y3) (y0,_,_,_)=>(y0,y1,y2,y3)
 σ:= [(0,0)]
 rd:=AG
theorem OK:LoopOk Tryz.prog (fun k=>Nat.blt k Tryz.f78.ntmps) bx.F (aD Tryz.f78 0):=by
 refine Lp.ok (tbl:= [fY,JR,cA,PF.lend cA,PF.fz cA]) (lf:= []) ay bx (by kernel_rfl) (LOk.nil _) (fun _=>rfl) (fun j _=>by unfold bx;match j with | 0=>rfl | 1=>rfl | _ + 2=>rfl) ?_ ?_ ?_ ?_ (fun _=>rfl) ?_
 ·intro x;obtain⟨y0,y1,y2,y3⟩:=x;kernel_rfl
 ·intro x;obtain⟨y0,y1,y2,y3⟩:=x;kernel_rfl
 ·intro s x h
  have h:AG s=some x:=h
  unfold AG at h
  repeat' split at h
  all_goals cases h
  exact⟨aa (by assumption) rfl (aa (by assumption) rfl (aa (by assumption) rfl (aa (by assumption) rfl (aa (by assumption) rfl (rfl))))),ac rfl (by assumption) rfl (rfl)⟩
 ·intro x;obtain⟨y0,y1,y2,y3⟩:=x;kernel_rfl
 ·intro x z;obtain⟨y0,y1,y2,y3⟩:=x;exact(And.intro (And.intro trivial (And.intro trivial rfl)) trivial)
section
variable (x0:Int)(x1:List (Int×Int×Int))
def se:Int×Int×Int×List (Int×Int×Int):=((0:Int),(↑x1.length:Int),x0,x1)
def Fz:Bool:=bif Nat.beq ((Lp.res bx (se x0 x1)).1) (0:Nat)then false else bif Nat.beq ((Lp.res bx (se x0 x1)).1) (1:Nat)then false else bif uZ x0 then leI (↑x1.length:Int) (8:Int)else false
def FA:Bool:=allT [Lp.fin bx (se x0 x1)]
end
def Mm:List SV→List Entry→Option Out
 | [.one ⟨false,[.val (.int .i64 x0)]⟩,.one ⟨false,[.ref 0]⟩],[.row false 100 (.pair (.int .i64) (.pair (.int .i64) (.int .i64))) x1]=>some ⟨(.one ⟨false,[(.val (.bool (Fz x0 x1)))]⟩),[(.row false 100 amS x1)],[],[(FA x0 x1)]⟩
 |_,_=>none
def Xj:PF Tryz.prog:=PF.ofG Tryz.prog [fY,JR,cA,PF.lend cA,PF.fz cA] [bx.F] ay 78 Tryz.f78 Tryz.func78 (LOk.fnT (l:= [aD Tryz.f78 0]) (by kernel_rfl) (.cons OK (.nil _))) Mm (by
 intro vs es r h;unfold Mm at h;split at h
 ·cases h;kernel_rfl
 ·cases h)
def Mb(x0:Int):Bool:=aZ x0 (0:Int) (5:Int)
def YR:List SV→List Entry→Option Out
 | [.one ⟨false,[.val (.int .i64 x0)]⟩],[]=>some ⟨(.one ⟨false,[(.val (.bool (Mb x0)))]⟩),[],[],[]⟩
 |_,_=>none
def Zz:PF Tryz.prog:=PF.ofG Tryz.prog [fY] [] ay 80 Tryz.f80 Tryz.func80 (fun c _=>LOk.nil c) YR (by
 intro vs es r h;unfold YR at h;split at h
 ·cases h;kernel_rfl
 ·cases h)
def tB(x0:Int):Bool:=aZ x0 (0:Int) (100000:Int)
def aaP:List SV→List Entry→Option Out
 | [.one ⟨false,[.val (.int .i64 x0)]⟩],[]=>some ⟨(.one ⟨false,[(.val (.bool (tB x0)))]⟩),[],[],[]⟩
 |_,_=>none
def JQ:PF Tryz.prog:=PF.ofG Tryz.prog [fY] [] ay 83 Tryz.f83 Tryz.func83 (fun c _=>LOk.nil c) aaP (by
 intro vs es r h;unfold aaP at h;split at h
 ·cases h;kernel_rfl
 ·cases h)
def adY(x0 x1:Int):Bool:=bif !aZ x0 (1:Int) (366:Int)then true else !tB x1
def Uq:List SV→List Entry→Option Out
 | [.one ⟨true,[.val (.int .i64 x0),.val (.int .i64 x1)]⟩],[]=>some ⟨(.one ⟨false,[(.val (.bool (adY x0 x1)))]⟩),[],[],[]⟩
 |_,_=>none
def ad4:PF Tryz.prog:=PF.ofG Tryz.prog [fY,JQ] [] ay 170 Tryz.f170 Tryz.func170 (fun c _=>LOk.nil c) Uq (by
 intro vs es r h;unfold Uq at h;split at h
 ·cases h;kernel_rfl
 ·cases h)
def yI(x0 x1:Int):Bool:=bif !aZ x0 (1:Int) (366:Int)then true else !tB x1
def KP:List SV→List Entry→Option Out
 | [(.one ⟨true,[(.val (.int .i64 x0)),(.val (.int .i64 x1))]⟩)],[]=>some ⟨(.one ⟨false,[(.val (.bool (yI x0 x1)))]⟩),[],[],[]⟩
 |_,_=>none
def KZ:PF Tryz.prog:=PF.ofG Tryz.prog [fY,JQ] [] ay 170 Tryz.f170 Tryz.func170 (fun c _=>LOk.nil c) KP (by
 intro vs es r h;unfold KP at h;split at h
 ·cases h;kernel_rfl
 ·cases h)
abbrev be:=Int×Int×List (Int×Int)
section
variable (y0 y1:Int)(y2:List (Int×Int))
def dI:Int×Int:=Option.getD y2[Int.toNat y0]? ((0:Int),(0:Int))
def gf:Bool:=ltI y0 y1
def gg:Bool:=leI (0:Int) y0
def gh:Bool:=ltI y0 (↑y2.length:Int)
def gi:Bool:=ltN y0.toNat y2.length
def gj:Bool:=yI ((dI y0 y2).1) ((dI y0 y2).2)
def gk:Int:=IntKind.wrap .i64 (y0 + (1:Int))
end
def Fs:be→List (Nat×SV)
 |(y0,y1,_)=> [(8,(.one ⟨false,[(.val (.int .i64 y0))]⟩)),(7,(.one ⟨false,[(.val (.int .i64 y1))]⟩)),(1,(.one ⟨false,[(.val (.func (.func 170) ⟨[]⟩ ⟨[]⟩))]⟩)),(0,(.one ⟨false,[(.ref 0)]⟩))]
def Fr:be→List (Nat×Entry)
 |(_,_,y2)=> [(0,(.row false 173 amT y2))]
def Fv:Nat→be→List (Nat×SV)
 |0,(y0,_,_)=> [(4,(.one ⟨false,[(.val (.int .i64 y0))]⟩))]
 |_,(_,_,_)=> []
def Fu:Nat→be→List (Nat×Entry)
 |0,(_,_,y2)=> [(0,(.row false 173 amT y2))]
 |_,(_,_,y2)=> [(0,(.row false 173 amT y2))]
def f6:be→LT be
 |(y0,y1,y2)=> .ite (gf y0 y1) (.need [(gg y0),(gh y0 y2),(gi y0 y2)] (.ite (gj y0 y2) (.ext 0 [(0,0)]) (.nrm ((gk y0),y1,y2) [(0,0)]))) (.ext 1 [(0,0)])
def nb(s:St):Option be:=
 (match s.look 8 with
 |some ⟨none,(.one ⟨false,[(.val (.int .i64 y0))]⟩)⟩=>
 (match s.look 7 with
 |some ⟨none,(.one ⟨false,[(.val (.int .i64 y1))]⟩)⟩=>
 (match s.look 1 with
 |some ⟨none,(.one ⟨false,[(.val (.func (.func 170) ⟨[]⟩ ⟨[]⟩))]⟩)⟩=>
 (match s.look 0 with
 |some ⟨none,(.one ⟨false,[(.ref 0)]⟩)⟩=>
 (match s.ent 0 with
 |some (.row false 173 (.pair (.int .i64) (.int .i64)) y2)=>
 some (y0,y1,y2)
 |_=>none)
 |_=>none)
 |_=>none)
 |_=>none)
 |_=>none)
def au:Lp be where
 h:=⟨[9,10,5,11,12,13,14,15,16,17,4,18,8],[0],[],[]⟩
 JL:=Fs
 JE:=Fr
 XL:=Fv
 XE:=Fu
 q:=fun j=>match j with | 0=> .ret | _=> .exit 0
 tags:= [0,1]
 lt:=f6
 fuel:=fun(y0,y1,y2)=>y0.natAbs + y1.natAbs + y2.length
 fix:=fun(_,y1,y2) (y0,_,_)=>(y0,y1,y2)
 σ:= [(0,0)]
 rd:=nb
theorem Ez:LoopOk Tryz.prog (fun k=>Nat.blt k Tryz.f217.ntmps) au.F (aD Tryz.f217 0):=by
 refine Lp.ok (tbl:= [KZ]) (lf:= []) ay au (by kernel_rfl) (LOk.nil _) (fun _=>rfl) (fun j _=>by unfold au;match j with | 0=>rfl | _ + 1=>rfl) ?_ ?_ ?_ ?_ (fun _=>rfl) ?_
 ·intro x;obtain⟨y0,y1,y2⟩:=x;kernel_rfl
 ·intro x;obtain⟨y0,y1,y2⟩:=x;kernel_rfl
 ·intro s x h
  have h:nb s=some x:=h
  unfold nb at h
  repeat' split at h
  all_goals cases h
  exact⟨aa (by assumption) rfl (aa (by assumption) rfl (aa (by assumption) rfl (aa (by assumption) rfl (rfl)))),ac rfl (by assumption) rfl (rfl)⟩
 ·intro x;obtain⟨y0,y1,y2⟩:=x;kernel_rfl
 ·intro x z;obtain⟨y0,y1,y2⟩:=x;exact(And.intro (And.intro trivial rfl) trivial)
section
variable (x0:List (Int×Int))
def j0:Int×Int×List (Int×Int):=((0:Int),(↑x0.length:Int),x0)
def pU:Int:=bif Nat.beq ((Lp.res au (j0 x0)).1) (0:Nat)then ((Lp.res au (j0 x0)).2).1else(-1:Int)
def pV:Bool:=allT [Lp.fin au (j0 x0)]
end
def wY:List SV→List Entry→Option Out
 | [(.one ⟨false,[(.ref 0)]⟩),(.one ⟨false,[(.val (.func (.func 170) ⟨[]⟩ ⟨[]⟩))]⟩)],[(.row false 173 (.pair (.int .i64) (.int .i64)) x0)]=>some ⟨(.one ⟨false,[(.val (.int .i64 (pU x0)))]⟩),[(.row false 173 amT x0)],[],[(pV x0)]⟩
 |_,_=>none
def pT:PF Tryz.prog:=PF.ofG Tryz.prog [KZ] [au.F] ay 217 Tryz.f217 Tryz.func217 (LOk.fnT (l:= [aD Tryz.f217 0]) (by kernel_rfl) (.cons Ez (.nil _))) wY (by
 intro vs es r h;unfold wY at h;split at h
 ·cases h;kernel_rfl
 ·cases h)
def oa(x0:List (Int×Int)):Bool:=leI (0:Int) (pU x0)
def oc(x0:List (Int×Int)):Bool:=allT [pV x0]
def uU:List SV→List Entry→Option Out
 | [(.one ⟨false,[(.ref 0)]⟩),(.one ⟨false,[(.val (.func (.func 170) ⟨[]⟩ ⟨[]⟩))]⟩)],[(.row false 173 (.pair (.int .i64) (.int .i64)) x0)]=>some ⟨(.one ⟨false,[(.val (.bool (oa x0)))]⟩),[(.row false 173 amT x0)],[],[(oc x0)]⟩
 |_,_=>none
def nX:PF Tryz.prog:=PF.ofG Tryz.prog [pT,PF.lend pT,PF.fz pT] [] ay 169 Tryz.f169 Tryz.func169 (fun c _=>LOk.nil c) uU (by
 intro vs es r h;unfold uU at h;split at h
 ·cases h;kernel_rfl
 ·cases h)
section
variable (x0:List (Int×Int))
def OD:Bool:=leI (↑x0.length:Int) (12:Int)
def QY:Bool:=bif OD x0 then !oa x0 else false
def QZ:Bool:=allT [!(OD x0&&true)||oc x0]
end
def YO:List SV→List Entry→Option Out
 | [.one ⟨false,[.ref 0]⟩],[.row false 173 (.pair (.int .i64) (.int .i64)) x0]=>some ⟨(.one ⟨false,[(.val (.bool (QY x0)))]⟩),[(.row false 173 amT x0)],[],[(QZ x0)]⟩
 |_,_=>none
def afL:PF Tryz.prog:=PF.ofG Tryz.prog [ad4,nX,PF.lend nX,PF.fz nX] [] ay 81 Tryz.f81 Tryz.func81 (fun c _=>LOk.nil c) YO (by
 intro vs es r h;unfold YO at h;split at h
 ·cases h;kernel_rfl
 ·cases h)
def Ma(x0 x1:Int):Bool:=bif aZ x0 (0:Int) (23:Int)then aZ x1 (1:Int) (999:Int)else false
def YQ:List SV→List Entry→Option Out
 | [.one ⟨true,[.val (.int .i64 x0),.val (.int .i64 x1)]⟩],[]=>some ⟨(.one ⟨false,[(.val (.bool (Ma x0 x1)))]⟩),[],[],[]⟩
 |_,_=>none
def Zy:PF Tryz.prog:=PF.ofG Tryz.prog [fY] [] ay 171 Tryz.f171 Tryz.func171 (fun c _=>LOk.nil c) YQ (by
 intro vs es r h;unfold YQ at h;split at h
 ·cases h;kernel_rfl
 ·cases h)
abbrev cH:=Int×Int×Int×Int×List (Int×Int)
section
variable (y0 y1 y2 y3:Int)(y4:List (Int×Int))
def iM:Int×Int:=Option.getD y4[Int.toNat y0]? ((0:Int),(0:Int))
def l7:Bool:=ltI y0 y1
def l8:Bool:=leI (0:Int) y0
def l9:Bool:=ltI y0 (↑y4.length:Int)
def ma:Bool:=ltN y0.toNat y4.length
def mb:Bool:=bif y2==(iM y0 y4).1then bif y3==(iM y0 y4).2then true else false else false
def mc:Int:=IntKind.wrap .i64 (y0 + (1:Int))
end
def MQ:cH→List (Nat×SV)
 |(y0,y1,_,_,_)=> [(8,(.one ⟨false,[(.val (.int .i64 y0))]⟩)),(7,(.one ⟨false,[(.val (.int .i64 y1))]⟩)),(3,(.one ⟨false,[(.ptr 0 0)]⟩)),(0,(.one ⟨false,[(.ref 1)]⟩))]
def MP:cH→List (Nat×Entry)
 |(_,_,y2,y3,y4)=> [(0,(.box 176 [(.val (.int .i64 y2)),(.val (.int .i64 y3))])),(1,(.row false 176 amT y4))]
def MS:Nat→cH→List (Nat×SV)
 |0,(y0,_,_,_,_)=> [(4,(.one ⟨false,[(.val (.int .i64 y0))]⟩))]
 |_,(_,_,_,_,_)=> []
def MR:Nat→cH→List (Nat×Entry)
 |0,(_,_,y2,y3,y4)=> [(0,(.box 176 [(.val (.int .i64 y2)),(.val (.int .i64 y3))])),(1,(.row false 176 amT y4))]
 |_,(_,_,y2,y3,y4)=> [(0,(.box 176 [(.val (.int .i64 y2)),(.val (.int .i64 y3))])),(1,(.row false 176 amT y4))]
def kM:cH→LT cH
 |(y0,y1,y2,y3,y4)=> .ite (l7 y0 y1) (.need [(l8 y0),(l9 y0 y4),(ma y0 y4)] (.ite (mb y0 y2 y3 y4) (.ext 0 [(0,0),(1,1)]) (.nrm ((mc y0),y1,y2,y3,y4) [(0,0),(1,1)]))) (.ext 1 [(0,0),(1,1)])
def vr(s:St):Option cH:=
 (match s.look 8 with
 |some ⟨none,(.one ⟨false,[(.val (.int .i64 y0))]⟩)⟩=>
 (match s.look 7 with
 |some ⟨none,(.one ⟨false,[(.val (.int .i64 y1))]⟩)⟩=>
 (match s.look 3 with
 |some ⟨none,(.one ⟨false,[(.ptr 128 0)]⟩)⟩=>
 (match s.look 0 with
 |some ⟨none,(.one ⟨false,[(.ref 0)]⟩)⟩=>
 (match s.ent 128 with
 |some (.box 176 [(.val (.int .i64 y2)),(.val (.int .i64 y3))])=>
 (match s.ent 0 with
 |some (.row false 176 (.pair (.int .i64) (.int .i64)) y4)=>
 some (y0,y1,y2,y3,y4)
 |_=>none)
 |_=>none)
 |_=>none)
 |_=>none)
 |_=>none)
 |_=>none)
def aU:Lp cH where
 h:=⟨[9,10,5,11,12,13,14,15,16,17,4,18,8],[0,1],[],[]⟩
 JL:=MQ
 JE:=MP
 XL:=MS
 XE:=MR
 q:=fun j=>match j with | 0=> .ret | _=> .exit 0
 tags:= [0,1]
 lt:=kM
 fuel:=fun(y0,y1,y2,y3,y4)=>y0.natAbs + y1.natAbs + y2.natAbs + y3.natAbs + y4.length
 fix:=fun(_,y1,y2,y3,y4) (y0,_,_,_,_)=>(y0,y1,y2,y3,y4)
 σ:= [(0,128),(1,0)]
 rd:=vr
theorem LC:LoopOk Tryz.prog (fun k=>Nat.blt k Tryz.f218.ntmps) aU.F (aD Tryz.f218 0):=by
 refine Lp.ok (tbl:= []) (lf:= []) ay aU (by kernel_rfl) (LOk.nil _) (fun _=>rfl) (fun j _=>by unfold aU;match j with | 0=>rfl | _ + 1=>rfl) ?_ ?_ ?_ ?_ (fun _=>rfl) ?_
 ·intro x;obtain⟨y0,y1,y2,y3,y4⟩:=x;kernel_rfl
 ·intro x;obtain⟨y0,y1,y2,y3,y4⟩:=x;kernel_rfl
 ·intro s x h
  have h:vr s=some x:=h
  unfold vr at h
  repeat' split at h
  all_goals cases h
  exact⟨aa (by assumption) rfl (aa (by assumption) rfl (aa (by assumption) rfl (aa (by assumption) rfl (rfl)))),ac rfl (by assumption) rfl (ac rfl (by assumption) rfl (rfl))⟩
 ·intro x;obtain⟨y0,y1,y2,y3,y4⟩:=x;kernel_rfl
 ·intro x z;obtain⟨y0,y1,y2,y3,y4⟩:=x;exact(And.intro (And.intro trivial rfl) trivial)
section
variable (x0 x1:Int)(x2:List (Int×Int))
def rZ:Int×Int×Int×Int×List (Int×Int):=((0:Int),(↑x2.length:Int),x0,x1,x2)
def AK:Int:=bif Nat.beq ((Lp.res aU (rZ x0 x1 x2)).1) (0:Nat)then ((Lp.res aU (rZ x0 x1 x2)).2).1else(-1:Int)
def AL:Bool:=allT [Lp.fin aU (rZ x0 x1 x2)]
end
def Hj:List SV→List Entry→Option Out
 | [.one ⟨false,[.ref 0]⟩,.one ⟨true,[.val (.int .i64 x0),.val (.int .i64 x1)]⟩],[.row false 176 (.pair (.int .i64) (.int .i64)) x2]=>some ⟨(.one ⟨false,[(.val (.int .i64 (AK x0 x1 x2)))]⟩),[(.row false 176 amT x2)],[],[(AL x0 x1 x2)]⟩
 |_,_=>none
def AE:PF Tryz.prog:=PF.ofG Tryz.prog [] [aU.F] ay 218 Tryz.f218 Tryz.func218 (LOk.fnT (l:= [aD Tryz.f218 0]) (by kernel_rfl) (.cons LC (.nil _))) Hj (by
 intro vs es r h;unfold Hj at h;split at h
 ·cases h;kernel_rfl
 ·cases h)
def l6(x0 x1:Int)(x2:List (Int×Int)):Bool:=leI (0:Int) (AK x0 x1 x2)
def qz(x0 x1:Int)(x2:List (Int×Int)):Bool:=allT [AL x0 x1 x2]
def ES:List SV→List Entry→Option Out
 | [.one ⟨false,[.ref 0]⟩,.one ⟨true,[.val (.int .i64 x0),.val (.int .i64 x1)]⟩],[.row false 176 (.pair (.int .i64) (.int .i64)) x2]=>some ⟨(.one ⟨false,[(.val (.bool (l6 x0 x1 x2)))]⟩),[(.row false 176 amT x2)],[],[(qz x0 x1 x2)]⟩
 |_,_=>none
def ji:PF Tryz.prog:=PF.ofG Tryz.prog [AE,PF.lend AE,PF.fz AE] [] ay 172 Tryz.f172 Tryz.func172 (fun c _=>LOk.nil c) ES (by
 intro vs es r h;unfold ES at h;split at h
 ·cases h;kernel_rfl
 ·cases h)
abbrev mN:=Int×Int×List (Int×Int)
section
variable (y0 y1:Int)(y2:List (Int×Int))
def lu:Int×Int:=Option.getD y2[Int.toNat y0]? ((0:Int),(0:Int))
def lv:Bool:= !Ma ((lu y0 y2).1) ((lu y0 y2).2)
def Bf:List (Int×Int):=bif !lv y0 y2&&true then List.drop (Int.toNat (0:Int)) (List.take y0.toNat y2)else []
def Dm:Bool:=ltI y0 y1
def Ou:Bool:=leI (0:Int) y0
def Ov:Bool:=ltI y0 (↑y2.length:Int)
def Ow:Bool:=ltN y0.toNat y2.length
def Ox:Bool:= !(!lv y0 y2&&true)||leI (0:Int) (0:Int)
def Oy:Bool:= !(!lv y0 y2&&true)||leI (0:Int) y0
def Oz:Bool:= !(!lv y0 y2&&true)||leI y0 (↑y2.length:Int)
def OA:Bool:= !(!lv y0 y2&&true)||qz ((lu y0 y2).1) ((lu y0 y2).2) (Bf y0 y2)
def OB:Bool:=bif lv y0 y2 then true else l6 ((lu y0 y2).1) ((lu y0 y2).2) (Bf y0 y2)
def OC:Int:=IntKind.wrap .i64 (y0 + (1:Int))
end
def XV:mN→List (Nat×SV)
 |(y0,y1,_)=> [(7,(.one ⟨false,[(.val (.int .i64 y0))]⟩)),(6,(.one ⟨false,[(.val (.int .i64 y1))]⟩)),(5,(.one ⟨false,[(.ref 0)]⟩)),(0,(.one ⟨false,[(.ref 0)]⟩))]
def XM:mN→List (Nat×Entry)
 |(_,_,y2)=> [(0,(.row false 176 amT y2))]
def Yn:Nat→mN→List (Nat×SV)
 |0,(_,_,_)=> [(2,(.one ⟨false,[(.val (.bool false))]⟩))]
 |_,(_,_,_)=> []
def Ye:Nat→mN→List (Nat×Entry)
 |0,(_,_,y2)=> [(0,(.row false 176 amT y2))]
 |_,(_,_,y2)=> [(0,(.row false 176 amT y2))]
def vR:mN→LT mN
 |(y0,y1,y2)=> .ite (Dm y0 y1) (.need [(Ou y0),(Ov y0 y2),(Ow y0 y2)] (.need [(Ox y0 y2),(Oy y0 y2),(Oz y0 y2),(OA y0 y2)] (.ite (OB y0 y2) (.ext 0 [(0,0)]) (.nrm ((OC y0),y1,y2) [(0,0)])))) (.ext 1 [(0,0)])
def GS(s:St):Option mN:=
 (match s.look 7 with
 |some ⟨none,(.one ⟨false,[(.val (.int .i64 y0))]⟩)⟩=>
 (match s.look 6 with
 |some ⟨none,(.one ⟨false,[(.val (.int .i64 y1))]⟩)⟩=>
 (match s.look 5 with
 |some ⟨none,(.one ⟨false,[(.ref 0)]⟩)⟩=>
 (match s.look 0 with
 |some ⟨none,(.one ⟨false,[(.ref 0)]⟩)⟩=>
 (match s.ent 0 with
 |some (.row false 176 (.pair (.int .i64) (.int .i64)) y2)=>
 some (y0,y1,y2)
 |_=>none)
 |_=>none)
 |_=>none)
 |_=>none)
 |_=>none)
def dp:Lp mN where
 h:=⟨[8,9,10,11,4,3,12,13,14,15,16,17,18,19,20,21,2,22,7],[0],[],[]⟩
 JL:=XV
 JE:=XM
 XL:=Yn
 XE:=Ye
 q:=fun j=>match j with | 0=> .ret | _=> .exit 0
 tags:= [0,1]
 lt:=vR
 fuel:=fun(y0,y1,y2)=>y0.natAbs + y1.natAbs + y2.length
 fix:=fun(_,y1,y2) (y0,_,_)=>(y0,y1,y2)
 σ:= [(0,0)]
 rd:=GS
theorem Vm:LoopOk Tryz.prog (fun k=>Nat.blt k Tryz.f82.ntmps) dp.F (aD Tryz.f82 0):=by
 refine Lp.ok (tbl:= [Zy,ji,PF.lend ji,PF.fz ji]) (lf:= []) ay dp (by kernel_rfl) (LOk.nil _) (fun _=>rfl) (fun j _=>by unfold dp;match j with | 0=>rfl | _ + 1=>rfl) ?_ ?_ ?_ ?_ (fun _=>rfl) ?_
 ·intro x;obtain⟨y0,y1,y2⟩:=x;kernel_rfl
 ·intro x;obtain⟨y0,y1,y2⟩:=x;kernel_rfl
 ·intro s x h
  have h:GS s=some x:=h
  unfold GS at h
  repeat' split at h
  all_goals cases h
  exact⟨aa (by assumption) rfl (aa (by assumption) rfl (aa (by assumption) rfl (aa (by assumption) rfl (rfl)))),ac rfl (by assumption) rfl (rfl)⟩
 ·intro x;obtain⟨y0,y1,y2⟩:=x;kernel_rfl
 ·intro x z;obtain⟨y0,y1,y2⟩:=x;exact(And.intro (And.intro trivial rfl) trivial)
section
variable (x0:List (Int×Int))
def Lg:Int×Int×List (Int×Int):=((0:Int),(↑x0.length:Int),x0)
def MV:Bool:=bif Nat.beq ((Lp.res dp (Lg x0)).1) (0:Nat)then false else leI (↑x0.length:Int) (8:Int)
def MW:Bool:=allT [Lp.fin dp (Lg x0)]
end
def Up:List SV→List Entry→Option Out
 | [.one ⟨false,[.ref 0]⟩],[.row false 176 (.pair (.int .i64) (.int .i64)) x0]=>some ⟨(.one ⟨false,[(.val (.bool (MV x0)))]⟩),[(.row false 176 amT x0)],[],[(MW x0)]⟩
 |_,_=>none
def ad3:PF Tryz.prog:=PF.ofG Tryz.prog [Zy,ji,PF.lend ji,PF.fz ji] [dp.F] ay 82 Tryz.f82 Tryz.func82 (LOk.fnT (l:= [aD Tryz.f82 0]) (by kernel_rfl) (.cons Vm (.nil _))) Up (by
 intro vs es r h;unfold Up at h;split at h
 ·cases h;kernel_rfl
 ·cases h)
abbrev iv:=Int×Int×List (List Int)
section
variable (y0 y1:Int)(y2:List (List Int))
def iQ:List Int:=Option.getD y2[Int.toNat y0]? (vD (CTy.sl (2:TypeId) amU))
def rL:Bool:=ltI y0 (↑y2.length:Int)
def Bn:Bool:=leI (0:Int) y0
def Bo:Bool:=ltN y0.toNat y2.length
def Bp:Bool:=leN (List.length (iQ y0 y2)) (9223372036854775807:Nat)&&(leI (-1:Int) y1&&leI y1 (1048576:Int))
def Bq:Bool:=ltI (szV y1 (iQ y0 y2)) (0:Int)
end
def vM:Int:=(-1:Int)
def GG(y0:Int):Int:=IntKind.wrap .i64 (y0 + (1:Int))
def Br(y0 y1:Int)(y2:List (List Int)):Int:=szV y1 (iQ y0 y2)
def Wf:iv→List (Nat×SV)
 |(y0,y1,_)=> [(5,(.one ⟨false,[(.val (.int .i64 y0))]⟩)),(0,(.one ⟨false,[(.ref 0)]⟩)),(1,(.one ⟨false,[(.val (.int .i64 y1))]⟩))]
def VZ:iv→List (Nat×Entry)
 |(_,_,y2)=> [(0,(.row false 24 (CTy.sl (2:TypeId) amU) y2))]
def WB:Nat→iv→List (Nat×SV)
 |0,(_,_,_)=> [(4,(.one ⟨false,[(.val (.int .i64 (vM)))]⟩))]
 |_,(_,y1,_)=> [(1,(.one ⟨false,[(.val (.int .i64 y1))]⟩))]
def Wv:Nat→iv→List (Nat×Entry)
 |0,(_,_,y2)=> [(0,(.row false 24 (CTy.sl (2:TypeId) amU) y2))]
 |_,(_,_,y2)=> [(0,(.row false 24 (CTy.sl (2:TypeId) amU) y2))]
def uf:iv→LT iv
 |(y0,y1,y2)=> .ite (rL y0 y2) (.need [(Bn y0),(rL y0 y2),(Bo y0 y2),(Bp y0 y1 y2)] (.ite (Bq y0 y1 y2) (.ext 0 [(0,0)]) (.nrm ((GG y0),(Br y0 y1 y2),y2) [(0,0)]))) (.ext 1 [(0,0)])
def FL(s:St):Option iv:=
 (match s.look 5 with
 |some ⟨none,(.one ⟨false,[(.val (.int .i64 y0))]⟩)⟩=>
 (match s.look 0 with
 |some ⟨none,(.one ⟨false,[(.ref 0)]⟩)⟩=>
 (match s.look 1 with
 |some ⟨none,(.one ⟨false,[(.val (.int .i64 y1))]⟩)⟩=>
 (match s.ent 0 with
 |some (.row false 24 (.sl 2 (.int .i64)) y2)=>
 some (y0,y1,y2)
 |_=>none)
 |_=>none)
 |_=>none)
 |_=>none)
def cf:Lp iv where
 h:=⟨[12,13,14,15,18,19,20,21,22,23,1,24,25,4,16,17,5],[0],[],[]⟩
 JL:=Wf
 JE:=VZ
 XL:=WB
 XE:=Wv
 q:=fun j=>match j with | 0=> .ret | _=> .exit 0
 tags:= [0,1]
 lt:=uf
 fuel:=fun(y0,y1,y2)=>y0.natAbs + y1.natAbs + y2.length
 fix:=fun(_,_,y2) (y0,y1,_)=>(y0,y1,y2)
 σ:= [(0,0)]
 rd:=FL
theorem TQ:LoopOk Tryz.prog (fun k=>Nat.blt k Tryz.f106.ntmps) cf.F (aD Tryz.f106 0):=by
 refine Lp.ok (tbl:= [pI,PF.lend pI,PF.fz pI]) (lf:= []) ay cf (by kernel_rfl) (LOk.nil _) (fun _=>rfl) (fun j _=>by unfold cf;match j with | 0=>rfl | _ + 1=>rfl) ?_ ?_ ?_ ?_ (fun _=>rfl) ?_
 ·intro x;obtain⟨y0,y1,y2⟩:=x;kernel_rfl
 ·intro x;obtain⟨y0,y1,y2⟩:=x;kernel_rfl
 ·intro s x h
  have h:FL s=some x:=h
  unfold FL at h
  repeat' split at h
  all_goals cases h
  exact⟨aa (by assumption) rfl (aa (by assumption) rfl (aa (by assumption) rfl (rfl))),ac rfl (by assumption) rfl (rfl)⟩
 ·intro x;obtain⟨y0,y1,y2⟩:=x;kernel_rfl
 ·intro x z;obtain⟨y0,y1,y2⟩:=x;exact(And.intro (And.intro trivial rfl) trivial)
section
variable (x0:Int)(x1:List (List Int))
def zv:Int:=IntKind.wrap .i64 (x0 - (↑x1.length:Int))
def EV:Int×Int×List (List Int):=((0:Int),zv x0 x1,x1)
def Lt:Int:=bif ltI (zv x0 x1) (0:Int)then(-1:Int)else bif Nat.beq ((Lp.res cf (EV x0 x1)).1) (0:Nat)then vM else ((Lp.res cf (EV x0 x1)).2.2).1
def Lu:Bool:=allT [ltI (zv x0 x1) (0:Int)||Lp.fin cf (EV x0 x1)]
end
def RN:List SV→List Entry→Option Out
 | [.one ⟨false,[.ref 0]⟩,.one ⟨false,[.val (.int .i64 x0)]⟩],[.row false 24 (.sl 2 (.int .i64)) x1]=>some ⟨(.one ⟨false,[(.val (.int .i64 (Lt x0 x1)))]⟩),[(.row false 24 (CTy.sl (2:TypeId) amU) x1)],[],[(Lu x0 x1)]⟩
 |_,_=>none
def ac4:PF Tryz.prog:=PF.ofG Tryz.prog [pI,PF.lend pI,PF.fz pI] [cf.F] ay 106 Tryz.f106 Tryz.func106 (LOk.fnT (l:= [aD Tryz.f106 0]) (by kernel_rfl) (.cons TQ (.nil _))) RN (by
 intro vs es r h;unfold RN at h;split at h
 ·cases h;kernel_rfl
 ·cases h)
def MC(x0:Int)(x1:List (Int×Int×Int)):Int:=IntKind.wrap .i64 (x0 - (↑x1.length:Int))
def rM(x0:Int)(x1:List (Int×Int×Int)):Int:=bif ltI (MC x0 x1) (0:Int)then(-1:Int)else MC x0 x1
def Nv:List SV→List Entry→Option Out
 | [.one ⟨false,[.ref 0]⟩,.one ⟨false,[.val (.int .i64 x0)]⟩],[.row false 208 (.pair (.int .i64) (.pair (.int .i64) (.int .i64))) x1]=>some ⟨(.one ⟨false,[(.val (.int .i64 (rM x0 x1)))]⟩),[(.row false 208 amS x1)],[],[]⟩
 |_,_=>none
def GK:PF Tryz.prog:=PF.ofG Tryz.prog [] [] ay 107 Tryz.f107 Tryz.func107 (fun c _=>LOk.nil c) Nv (by
 intro vs es r h;unfold Nv at h;split at h
 ·cases h;kernel_rfl
 ·cases h)
def UN(x0:Int)(x1:List (Int×Int)):Int:=IntKind.wrap .i64 (x0 - (↑x1.length:Int))
def FE(x0:Int)(x1:List (Int×Int)):Int:=bif ltI (UN x0 x1) (0:Int)then(-1:Int)else UN x0 x1
def VF:List SV→List Entry→Option Out
 | [.one ⟨false,[.ref 0]⟩,.one ⟨false,[.val (.int .i64 x0)]⟩],[.row false 210 (.pair (.int .i64) (.int .i64)) x1]=>some ⟨(.one ⟨false,[(.val (.int .i64 (FE x0 x1)))]⟩),[(.row false 210 amT x1)],[],[]⟩
 |_,_=>none
def OY:PF Tryz.prog:=PF.ofG Tryz.prog [] [] ay 108 Tryz.f108 Tryz.func108 (fun c _=>LOk.nil c) VF (by
 intro vs es r h;unfold VF at h;split at h
 ·cases h;kernel_rfl
 ·cases h)
def UM(x0:Int)(x1:List (Int×Int)):Int:=IntKind.wrap .i64 (x0 - (↑x1.length:Int))
def Jz(x0:Int)(x1:List (Int×Int)):Int:=bif ltI (UM x0 x1) (0:Int)then(-1:Int)else UM x0 x1
def VE:List SV→List Entry→Option Out
 | [.one ⟨false,[.ref 0]⟩,.one ⟨false,[.val (.int .i64 x0)]⟩],[.row false 212 (.pair (.int .i64) (.int .i64)) x1]=>some ⟨(.one ⟨false,[(.val (.int .i64 (Jz x0 x1)))]⟩),[(.row false 212 amT x1)],[],[]⟩
 |_,_=>none
def OX:PF Tryz.prog:=PF.ofG Tryz.prog [] [] ay 109 Tryz.f109 Tryz.func109 (fun c _=>LOk.nil c) VE (by
 intro vs es r h;unfold VE at h;split at h
 ·cases h;kernel_rfl
 ·cases h)
abbrev iw:=Int×List (List Int)×List (List Int)
section
variable (y0:Int)(y1 y2:List (List Int))
def m7:List Int:=Option.getD y1[Int.toNat y0]? (vD (CTy.sl (2:TypeId) amU))
def rO:Bool:=ltI y0 (↑y1.length:Int)
def rP:Bool:=leI (0:Int) y0
def vN:Bool:=ltN y0.toNat y1.length
def vO:Bool:=leN (List.length (m7 y0 y1)) (1048576:Nat)
def vP:Bool:=ltI y0 (↑y2.length:Int)
def vQ:Bool:=ltN y0.toNat y2.length
def Bs:Int:=IntKind.wrap .i64 (y0 + (1:Int))
def Bt:List (List Int):=List.set y2 y0.toNat (m7 y0 y1)
end
def Wg:iw→List (Nat×SV)
 |(y0,_,_)=> [(4,(.one ⟨false,[(.val (.int .i64 y0))]⟩)),(0,(.one ⟨false,[(.ref 0)]⟩)),(3,(.one ⟨false,[(.ref 1)]⟩))]
def Wa:iw→List (Nat×Entry)
 |(_,y1,y2)=> [(0,(.row false 24 (CTy.sl (2:TypeId) amU) y1)),(1,(.tree 24 (CTy.sl (2:Nat) amU) y2 none))]
def WC:Nat→iw→List (Nat×SV)
 |_,(_,_,_)=> []
def Ww:Nat→iw→List (Nat×Entry)
 |_,(_,y1,y2)=> [(0,(.row false 24 (CTy.sl (2:TypeId) amU) y1)),(1,(.tree 24 (CTy.sl (2:Nat) amU) y2 none))]
def ug:iw→LT iw
 |(y0,y1,y2)=> .ite (rO y0 y1) (.need [(rP y0),(rO y0 y1),(vN y0 y1),(vO y0 y1),(rP y0),(vP y0 y2),(vQ y0 y2)] (.nrm ((Bs y0),y1,(Bt y0 y1 y2)) [(0,0),(1,1)])) (.ext 0 [(0,0),(1,1)])
def FM(s:St):Option iw:=
 (match s.look 4 with
 |some ⟨none,(.one ⟨false,[(.val (.int .i64 y0))]⟩)⟩=>
 (match s.look 0 with
 |some ⟨none,(.one ⟨false,[(.ref 0)]⟩)⟩=>
 (match s.look 3 with
 |some ⟨none,(.one ⟨false,[(.ref 320)]⟩)⟩=>
 (match s.ent 0 with
 |some (.row false 24 (.sl 2 (.int .i64)) y1)=>
 (match s.ent 320 with
 |some (.tree 24 (.sl 2 (.int .i64)) y2 none)=>
 some (y0,y1,y2)
 |_=>none)
 |_=>none)
 |_=>none)
 |_=>none)
 |_=>none)
def dz:Lp iw where
 h:=⟨[8,9,10,11,14,15,16,17,18,19,20,21,12,13,4],[0,1],[],[]⟩
 JL:=Wg
 JE:=Wa
 XL:=WC
 XE:=Ww
 q:=fun j=>match j with | _=> .exit 0
 tags:= [0]
 lt:=ug
 fuel:=fun(y0,y1,y2)=>y0.natAbs + y1.length + y2.length
 fix:=fun(_,y1,_) (y0,_,y2)=>(y0,y1,y2)
 σ:= [(0,0),(1,320)]
 rd:=FM
theorem TR:LoopOk Tryz.prog (fun k=>Nat.blt k Tryz.f112.ntmps) dz.F (aD Tryz.f112 0):=by
 refine Lp.ok (tbl:= [PF.trees Tryz.prog,pJ,PF.lend pJ,PF.fz pJ]) (lf:= []) ay dz (by kernel_rfl) (LOk.nil _) (fun _=>rfl) (fun _ _=>rfl) ?_ ?_ ?_ ?_ (fun _=>rfl) ?_
 ·intro x;obtain⟨y0,y1,y2⟩:=x;kernel_rfl
 ·intro x;obtain⟨y0,y1,y2⟩:=x;kernel_rfl
 ·intro s x h
  have h:FM s=some x:=h
  unfold FM at h
  repeat' split at h
  all_goals cases h
  exact⟨aa (by assumption) rfl (aa (by assumption) rfl (aa (by assumption) rfl (rfl))),ac rfl (by assumption) rfl (ac rfl (by assumption) rfl (rfl))⟩
 ·intro x;obtain⟨y0,y1,y2⟩:=x;kernel_rfl
 ·intro x z;obtain⟨y0,y1,y2⟩:=x;exact(And.intro rfl trivial)
section
variable (x0:List (List Int))
def EW:Int×List (List Int)×List (List Int):=((0:Int),x0,List.replicate (Int.toNat (↑x0.length:Int)) [])
def Ly:List (List Int):=(Lp.res dz (EW x0)).2.2.2
def Lz:Bool:=allT [leI (0:Int) (↑x0.length:Int),leI (↑x0.length:Int) (↑x0.length:Int),leI ((↑(24:Nat):Int) * (↑x0.length:Int)) (281474976710656:Int),leI (↑x0.length:Int) (9223372036854775807:Int),Lp.fin dz (EW x0)]
end
def RQ:List SV→List Entry→Option Out
 | [.one ⟨false,[.ref 0]⟩],[.row false 24 (.sl 2 (.int .i64)) x0]=>some ⟨(.one ⟨false,[(.ref 1)]⟩),[(.row false 24 (CTy.sl (2:TypeId) amU) x0)],[(.tree 24 (CTy.sl (2:Nat) amU) (Ly x0) none)],[(Lz x0)]⟩
 |_,_=>none
def ac7:PF Tryz.prog:=PF.ofG Tryz.prog [PF.trees Tryz.prog,pJ,PF.lend pJ,PF.fz pJ] [dz.F] ay 112 Tryz.f112 Tryz.func112 (LOk.fnT (l:= [aD Tryz.f112 0]) (by kernel_rfl) (.cons TR (.nil _))) RQ (by
 intro vs es r h;unfold RQ at h;split at h
 ·cases h;kernel_rfl
 ·cases h)
def Oc:List SV→List Entry→Option Out
 | [.one ⟨true,[.val (.int .i64 x0),.val (.int .i64 x1),.val (.int .i64 x2)]⟩],[]=>some ⟨(.one ⟨true,[(.val (.int .i64 x0)),(.val (.int .i64 x1)),(.val (.int .i64 x2))]⟩),[],[],[]⟩
 |_,_=>none
def OZ:PF Tryz.prog:=PF.ofG Tryz.prog [] [] ay 191 Tryz.f191 Tryz.func191 (fun c _=>LOk.nil c) Oc (by
 intro vs es r h;unfold Oc at h;split at h
 ·cases h;kernel_rfl
 ·cases h)
abbrev fW:=Int×List (Int×(Int×Int))×List (Int×(Int×Int))
section
variable (y0:Int)(y1 y2:List (Int×(Int×Int)))
def jJ:Int×Int×Int:=Option.getD y1[Int.toNat y0]? ((0:Int),(0:Int),(0:Int))
def nQ:Bool:=ltI y0 (↑y1.length:Int)
def nR:Bool:=leI (0:Int) y0
def rb:Bool:=ltN y0.toNat y1.length
def rc:Bool:=ltI y0 (↑y2.length:Int)
def re:Bool:=ltN y0.toNat y2.length
def rf:Int:=IntKind.wrap .i64 (y0 + (1:Int))
def rg:List (Int×(Int×Int)):=List.set y2 y0.toNat ((jJ y0 y1).1,((jJ y0 y1).2).1,(jJ y0 y1).2.2)
end
def Sf:fW→List (Nat×SV)
 |(y0,_,_)=> [(4,(.one ⟨false,[(.val (.int .i64 y0))]⟩)),(0,(.one ⟨false,[(.ref 0)]⟩)),(3,(.one ⟨false,[(.ref 1)]⟩))]
def Sc:fW→List (Nat×Entry)
 |(_,y1,y2)=> [(0,(.row false 208 amS y1)),(1,(.row true 100 amS y2))]
def SA:Nat→fW→List (Nat×SV)
 |_,(_,_,_)=> []
def Sx:Nat→fW→List (Nat×Entry)
 |_,(_,y1,y2)=> [(0,(.row false 208 amS y1)),(1,(.row true 100 amS y2))]
def qf:fW→LT fW
 |(y0,y1,y2)=> .ite (nQ y0 y1) (.need [(nR y0),(nQ y0 y1),(rb y0 y1),(nR y0),(rc y0 y2),(re y0 y2)] (.nrm ((rf y0),y1,(rg y0 y1 y2)) [(0,0),(1,1)])) (.ext 0 [(0,0),(1,1)])
def BN(s:St):Option fW:=
 (match s.look 4 with
 |some ⟨none,(.one ⟨false,[(.val (.int .i64 y0))]⟩)⟩=>
 (match s.look 0 with
 |some ⟨none,(.one ⟨false,[(.ref 0)]⟩)⟩=>
 (match s.look 3 with
 |some ⟨none,(.one ⟨false,[(.ref 320)]⟩)⟩=>
 (match s.ent 0 with
 |some (.row false 208 (.pair (.int .i64) (.pair (.int .i64) (.int .i64))) y1)=>
 (match s.ent 320 with
 |some (.row true 100 (.pair (.int .i64) (.pair (.int .i64) (.int .i64))) y2)=>
 some (y0,y1,y2)
 |_=>none)
 |_=>none)
 |_=>none)
 |_=>none)
 |_=>none)
def b8:Lp fW where
 h:=⟨[8,9,10,11,14,15,16,17,18,19,20,21,12,13,4],[0,1],[],[]⟩
 JL:=Sf
 JE:=Sc
 XL:=SA
 XE:=Sx
 q:=fun j=>match j with | _=> .exit 0
 tags:= [0]
 lt:=qf
 fuel:=fun(y0,y1,y2)=>y0.natAbs + y1.length + y2.length
 fix:=fun(_,y1,_) (y0,_,y2)=>(y0,y1,y2)
 σ:= [(0,0),(1,320)]
 rd:=BN
theorem Qf:LoopOk Tryz.prog (fun k=>Nat.blt k Tryz.f113.ntmps) b8.F (aD Tryz.f113 0):=by
 refine Lp.ok (tbl:= [OZ]) (lf:= []) ay b8 (by kernel_rfl) (LOk.nil _) (fun _=>rfl) (fun _ _=>rfl) ?_ ?_ ?_ ?_ (fun _=>rfl) ?_
 ·intro x;obtain⟨y0,y1,y2⟩:=x;kernel_rfl
 ·intro x;obtain⟨y0,y1,y2⟩:=x;kernel_rfl
 ·intro s x h
  have h:BN s=some x:=h
  unfold BN at h
  repeat' split at h
  all_goals cases h
  exact⟨aa (by assumption) rfl (aa (by assumption) rfl (aa (by assumption) rfl (rfl))),ac rfl (by assumption) rfl (ac rfl (by assumption) rfl (rfl))⟩
 ·intro x;obtain⟨y0,y1,y2⟩:=x;kernel_rfl
 ·intro x z;obtain⟨y0,y1,y2⟩:=x;exact(And.intro rfl trivial)
section
variable (x0:List (Int×Int×Int))
def zw:Int×List (Int×Int×Int)×List (Int×Int×Int):=((0:Int),x0,List.replicate (Int.toNat (↑x0.length:Int)) ((0:Int),(0:Int),(0:Int)))
def Bu:List (Int×(Int×Int)):=(Lp.res b8 (zw x0)).2.2.2
def Bv:Bool:=allT [leI (0:Int) (↑x0.length:Int),leI (↑x0.length:Int) (↑x0.length:Int),leI ((↑(24:Nat):Int) * (↑x0.length:Int)) (281474976710656:Int),leI (↑x0.length:Int) (9223372036854775807:Int),Lp.fin b8 (zw x0)]
end
def Nw:List SV→List Entry→Option Out
 | [.one ⟨false,[.ref 0]⟩],[.row false 208 (.pair (.int .i64) (.pair (.int .i64) (.int .i64))) x0]=>some ⟨(.one ⟨false,[(.ref 1)]⟩),[(.row false 208 amS x0)],[(.row true 100 amS (Bu x0))],[(Bv x0)]⟩
 |_,_=>none
def YJ:PF Tryz.prog:=PF.ofG Tryz.prog [OZ] [b8.F] ay 113 Tryz.f113 Tryz.func113 (LOk.fnT (l:= [aD Tryz.f113 0]) (by kernel_rfl) (.cons Qf (.nil _))) Nw (by
 intro vs es r h;unfold Nw at h;split at h
 ·cases h;kernel_rfl
 ·cases h)
def Za:List SV→List Entry→Option Out
 | [.one ⟨true,[.val (.int .i64 x0),.val (.int .i64 x1)]⟩],[]=>some ⟨(.one ⟨true,[(.val (.int .i64 x0)),(.val (.int .i64 x1))]⟩),[],[],[]⟩
 |_,_=>none
def ZD:PF Tryz.prog:=PF.ofG Tryz.prog [] [] ay 192 Tryz.f192 Tryz.func192 (fun c _=>LOk.nil c) Za (by
 intro vs es r h;unfold Za at h;split at h
 ·cases h;kernel_rfl
 ·cases h)
abbrev jW:=Int×List (Int×Int)×List (Int×Int)
section
variable (y0:Int)(y1 y2:List (Int×Int))
def s5:Int×Int:=Option.getD y1[Int.toNat y0]? ((0:Int),(0:Int))
def vb:Bool:=ltI y0 (↑y1.length:Int)
def vc:Bool:=leI (0:Int) y0
def zD:Bool:=ltN y0.toNat y1.length
def zE:Bool:=ltI y0 (↑y2.length:Int)
def zF:Bool:=ltN y0.toNat y2.length
def zG:Int:=IntKind.wrap .i64 (y0 + (1:Int))
def zH:List (Int×Int):=List.set y2 y0.toNat ((s5 y0 y1).1,(s5 y0 y1).2)
end
def ZR:jW→List (Nat×SV)
 |(y0,_,_)=> [(4,(.one ⟨false,[(.val (.int .i64 y0))]⟩)),(0,(.one ⟨false,[(.ref 0)]⟩)),(3,(.one ⟨false,[(.ref 1)]⟩))]
def ZL:jW→List (Nat×Entry)
 |(_,y1,y2)=> [(0,(.row false 210 amT y1)),(1,(.row true 173 amT y2))]
def aad:Nat→jW→List (Nat×SV)
 |_,(_,_,_)=> []
def ZX:Nat→jW→List (Nat×Entry)
 |_,(_,y1,y2)=> [(0,(.row false 210 amT y1)),(1,(.row true 173 amT y2))]
def xZ:jW→LT jW
 |(y0,y1,y2)=> .ite (vb y0 y1) (.need [(vc y0),(vb y0 y1),(zD y0 y1),(vc y0),(zE y0 y2),(zF y0 y2)] (.nrm ((zG y0),y1,(zH y0 y1 y2)) [(0,0),(1,1)])) (.ext 0 [(0,0),(1,1)])
def Iq(s:St):Option jW:=
 (match s.look 4 with
 |some ⟨none,(.one ⟨false,[(.val (.int .i64 y0))]⟩)⟩=>
 (match s.look 0 with
 |some ⟨none,(.one ⟨false,[(.ref 0)]⟩)⟩=>
 (match s.look 3 with
 |some ⟨none,(.one ⟨false,[(.ref 320)]⟩)⟩=>
 (match s.ent 0 with
 |some (.row false 210 (.pair (.int .i64) (.int .i64)) y1)=>
 (match s.ent 320 with
 |some (.row true 173 (.pair (.int .i64) (.int .i64)) y2)=>
 some (y0,y1,y2)
 |_=>none)
 |_=>none)
 |_=>none)
 |_=>none)
 |_=>none)
def fA:Lp jW where
 h:=⟨[8,9,10,11,14,15,16,17,18,19,20,21,12,13,4],[0,1],[],[]⟩
 JL:=ZR
 JE:=ZL
 XL:=aad
 XE:=ZX
 q:=fun j=>match j with | _=> .exit 0
 tags:= [0]
 lt:=xZ
 fuel:=fun(y0,y1,y2)=>y0.natAbs + y1.length + y2.length
 fix:=fun(_,y1,_) (y0,_,y2)=>(y0,y1,y2)
 σ:= [(0,0),(1,320)]
 rd:=Iq
theorem WZ:LoopOk Tryz.prog (fun k=>Nat.blt k Tryz.f114.ntmps) fA.F (aD Tryz.f114 0):=by
 refine Lp.ok (tbl:= [ZD]) (lf:= []) ay fA (by kernel_rfl) (LOk.nil _) (fun _=>rfl) (fun _ _=>rfl) ?_ ?_ ?_ ?_ (fun _=>rfl) ?_
 ·intro x;obtain⟨y0,y1,y2⟩:=x;kernel_rfl
 ·intro x;obtain⟨y0,y1,y2⟩:=x;kernel_rfl
 ·intro s x h
  have h:Iq s=some x:=h
  unfold Iq at h
  repeat' split at h
  all_goals cases h
  exact⟨aa (by assumption) rfl (aa (by assumption) rfl (aa (by assumption) rfl (rfl))),ac rfl (by assumption) rfl (ac rfl (by assumption) rfl (rfl))⟩
 ·intro x;obtain⟨y0,y1,y2⟩:=x;kernel_rfl
 ·intro x z;obtain⟨y0,y1,y2⟩:=x;exact(And.intro rfl trivial)
section
variable (x0:List (Int×Int))
def HL:Int×List (Int×Int)×List (Int×Int):=((0:Int),x0,List.replicate (Int.toNat (↑x0.length:Int)) ((0:Int),(0:Int)))
def JF:List (Int×Int):=(Lp.res fA (HL x0)).2.2.2
def JG:Bool:=allT [leI (0:Int) (↑x0.length:Int),leI (↑x0.length:Int) (↑x0.length:Int),leI ((↑(16:Nat):Int) * (↑x0.length:Int)) (281474976710656:Int),leI (↑x0.length:Int) (9223372036854775807:Int),Lp.fin fA (HL x0)]
end
def VH:List SV→List Entry→Option Out
 | [.one ⟨false,[.ref 0]⟩],[.row false 210 (.pair (.int .i64) (.int .i64)) x0]=>some ⟨(.one ⟨false,[(.ref 1)]⟩),[(.row false 210 amT x0)],[(.row true 173 amT (JF x0))],[(JG x0)]⟩
 |_,_=>none
def ae7:PF Tryz.prog:=PF.ofG Tryz.prog [ZD] [fA.F] ay 114 Tryz.f114 Tryz.func114 (LOk.fnT (l:= [aD Tryz.f114 0]) (by kernel_rfl) (.cons WZ (.nil _))) VH (by
 intro vs es r h;unfold VH at h;split at h
 ·cases h;kernel_rfl
 ·cases h)
def YY:List SV→List Entry→Option Out
 | [.one ⟨true,[.val (.int .i64 x0),.val (.int .i64 x1)]⟩],[]=>some ⟨(.one ⟨true,[(.val (.int .i64 x0)),(.val (.int .i64 x1))]⟩),[],[],[]⟩
 |_,_=>none
def ZC:PF Tryz.prog:=PF.ofG Tryz.prog [] [] ay 193 Tryz.f193 Tryz.func193 (fun c _=>LOk.nil c) YY (by
 intro vs es r h;unfold YY at h;split at h
 ·cases h;kernel_rfl
 ·cases h)
abbrev jV:=Int×List (Int×Int)×List (Int×Int)
section
variable (y0:Int)(y1 y2:List (Int×Int))
def sZ:Int×Int:=Option.getD y1[Int.toNat y0]? ((0:Int),(0:Int))
def u9:Bool:=ltI y0 (↑y1.length:Int)
def va:Bool:=leI (0:Int) y0
def zx:Bool:=ltN y0.toNat y1.length
def zy:Bool:=ltI y0 (↑y2.length:Int)
def zA:Bool:=ltN y0.toNat y2.length
def zB:Int:=IntKind.wrap .i64 (y0 + (1:Int))
def zC:List (Int×Int):=List.set y2 y0.toNat ((sZ y0 y1).1,(sZ y0 y1).2)
end
def ZQ:jV→List (Nat×SV)
 |(y0,_,_)=> [(4,(.one ⟨false,[(.val (.int .i64 y0))]⟩)),(0,(.one ⟨false,[(.ref 0)]⟩)),(3,(.one ⟨false,[(.ref 1)]⟩))]
def ZK:jV→List (Nat×Entry)
 |(_,y1,y2)=> [(0,(.row false 212 amT y1)),(1,(.row true 176 amT y2))]
def aac:Nat→jV→List (Nat×SV)
 |_,(_,_,_)=> []
def ZW:Nat→jV→List (Nat×Entry)
 |_,(_,y1,y2)=> [(0,(.row false 212 amT y1)),(1,(.row true 176 amT y2))]
def xY:jV→LT jV
 |(y0,y1,y2)=> .ite (u9 y0 y1) (.need [(va y0),(u9 y0 y1),(zx y0 y1),(va y0),(zy y0 y2),(zA y0 y2)] (.nrm ((zB y0),y1,(zC y0 y1 y2)) [(0,0),(1,1)])) (.ext 0 [(0,0),(1,1)])
def Ip(s:St):Option jV:=
 (match s.look 4 with
 |some ⟨none,(.one ⟨false,[(.val (.int .i64 y0))]⟩)⟩=>
 (match s.look 0 with
 |some ⟨none,(.one ⟨false,[(.ref 0)]⟩)⟩=>
 (match s.look 3 with
 |some ⟨none,(.one ⟨false,[(.ref 320)]⟩)⟩=>
 (match s.ent 0 with
 |some (.row false 212 (.pair (.int .i64) (.int .i64)) y1)=>
 (match s.ent 320 with
 |some (.row true 176 (.pair (.int .i64) (.int .i64)) y2)=>
 some (y0,y1,y2)
 |_=>none)
 |_=>none)
 |_=>none)
 |_=>none)
 |_=>none)
def fy:Lp jV where
 h:=⟨[8,9,10,11,14,15,16,17,18,19,20,21,12,13,4],[0,1],[],[]⟩
 JL:=ZQ
 JE:=ZK
 XL:=aac
 XE:=ZW
 q:=fun j=>match j with | _=> .exit 0
 tags:= [0]
 lt:=xY
 fuel:=fun(y0,y1,y2)=>y0.natAbs + y1.length + y2.length
 fix:=fun(_,y1,_) (y0,_,y2)=>(y0,y1,y2)
 σ:= [(0,0),(1,320)]
 rd:=Ip
theorem WY:LoopOk Tryz.prog (fun k=>Nat.blt k Tryz.f115.ntmps) fy.F (aD Tryz.f115 0):=by
 refine Lp.ok (tbl:= [ZC]) (lf:= []) ay fy (by kernel_rfl) (LOk.nil _) (fun _=>rfl) (fun _ _=>rfl) ?_ ?_ ?_ ?_ (fun _=>rfl) ?_
 ·intro x;obtain⟨y0,y1,y2⟩:=x;kernel_rfl
 ·intro x;obtain⟨y0,y1,y2⟩:=x;kernel_rfl
 ·intro s x h
  have h:Ip s=some x:=h
  unfold Ip at h
  repeat' split at h
  all_goals cases h
  exact⟨aa (by assumption) rfl (aa (by assumption) rfl (aa (by assumption) rfl (rfl))),ac rfl (by assumption) rfl (ac rfl (by assumption) rfl (rfl))⟩
 ·intro x;obtain⟨y0,y1,y2⟩:=x;kernel_rfl
 ·intro x z;obtain⟨y0,y1,y2⟩:=x;exact(And.intro rfl trivial)
section
variable (x0:List (Int×Int))
def HK:Int×List (Int×Int)×List (Int×Int):=((0:Int),x0,List.replicate (Int.toNat (↑x0.length:Int)) ((0:Int),(0:Int)))
def JC:List (Int×Int):=(Lp.res fy (HK x0)).2.2.2
def JD:Bool:=allT [leI (0:Int) (↑x0.length:Int),leI (↑x0.length:Int) (↑x0.length:Int),leI ((↑(16:Nat):Int) * (↑x0.length:Int)) (281474976710656:Int),leI (↑x0.length:Int) (9223372036854775807:Int),Lp.fin fy (HK x0)]
end
def VG:List SV→List Entry→Option Out
 | [.one ⟨false,[.ref 0]⟩],[.row false 212 (.pair (.int .i64) (.int .i64)) x0]=>some ⟨(.one ⟨false,[(.ref 1)]⟩),[(.row false 212 amT x0)],[(.row true 176 amT (JC x0))],[(JD x0)]⟩
 |_,_=>none
def ae6:PF Tryz.prog:=PF.ofG Tryz.prog [ZC] [fy.F] ay 115 Tryz.f115 Tryz.func115 (LOk.fnT (l:= [aD Tryz.f115 0]) (by kernel_rfl) (.cons WY (.nil _))) VG (by
 intro vs es r h;unfold VG at h;split at h
 ·cases h;kernel_rfl
 ·cases h)
abbrev iu:=Int×List (List Int)×List (List Int)
section
variable (y0:Int)(y1 y2:List (List Int))
def m6:List Int:=Option.getD y1[Int.toNat y0]? (vD (CTy.sl (2:TypeId) amU))
def rJ:Bool:=ltI y0 (↑y1.length:Int)
def rK:Bool:=leI (0:Int) y0
def vI:Bool:=ltN y0.toNat y1.length
def vJ:Bool:=ltI y0 (↑y2.length:Int)
def vK:Bool:=ltN y0.toNat y2.length
def vL:Bool:=leN (List.length (m6 y0 y1)) (9223372036854775807:Nat)
def Bh:Bool:= !eqL (m6 y0 y1) (Option.getD y2[Int.toNat y0]? (vD (CTy.sl (2:TypeId) amU)))
def Bi:Int:=IntKind.wrap .i64 (y0 + (1:Int))
end
def We:iu→List (Nat×SV)
 |(y0,_,_)=> [(5,(.one ⟨false,[(.val (.int .i64 y0))]⟩)),(0,(.one ⟨false,[(.ref 0)]⟩)),(1,(.one ⟨false,[(.ref 1)]⟩))]
def VY:iu→List (Nat×Entry)
 |(_,y1,y2)=> [(0,(.row false 24 (CTy.sl (2:TypeId) amU) y1)),(1,(.row false 24 (CTy.sl (2:TypeId) amU) y2))]
def WA:Nat→iu→List (Nat×SV)
 |0,(_,_,_)=> [(4,(.one ⟨false,[(.val (.bool false))]⟩))]
 |_,(_,_,_)=> []
def Wu:Nat→iu→List (Nat×Entry)
 |0,(_,y1,y2)=> [(0,(.row false 24 (CTy.sl (2:TypeId) amU) y1)),(1,(.row false 24 (CTy.sl (2:TypeId) amU) y2))]
 |_,(_,y1,y2)=> [(0,(.row false 24 (CTy.sl (2:TypeId) amU) y1)),(1,(.row false 24 (CTy.sl (2:TypeId) amU) y2))]
def ue:iu→LT iu
 |(y0,y1,y2)=> .ite (rJ y0 y1) (.need [(rK y0),(rJ y0 y1),(vI y0 y1),(rK y0),(vJ y0 y2),(vK y0 y2),(vL y0 y1)] (.ite (Bh y0 y1 y2) (.ext 0 [(0,0),(1,1)]) (.nrm ((Bi y0),y1,y2) [(0,0),(1,1)]))) (.ext 1 [(0,0),(1,1)])
def FK(s:St):Option iu:=
 (match s.look 5 with
 |some ⟨none,(.one ⟨false,[(.val (.int .i64 y0))]⟩)⟩=>
 (match s.look 0 with
 |some ⟨none,(.one ⟨false,[(.ref 0)]⟩)⟩=>
 (match s.look 1 with
 |some ⟨none,(.one ⟨false,[(.ref 1)]⟩)⟩=>
 (match s.ent 0 with
 |some (.row false 24 (.sl 2 (.int .i64)) y1)=>
 (match s.ent 1 with
 |some (.row false 24 (.sl 2 (.int .i64)) y2)=>
 some (y0,y1,y2)
 |_=>none)
 |_=>none)
 |_=>none)
 |_=>none)
 |_=>none)
def cU:Lp iu where
 h:=⟨[11,12,13,14,17,18,19,20,21,22,23,24,25,26,4,15,16,5],[0,1],[],[]⟩
 JL:=We
 JE:=VY
 XL:=WA
 XE:=Wu
 q:=fun j=>match j with | 0=> .ret | _=> .exit 0
 tags:= [0,1]
 lt:=ue
 fuel:=fun(y0,y1,y2)=>y0.natAbs + y1.length + y2.length
 fix:=fun(_,y1,y2) (y0,_,_)=>(y0,y1,y2)
 σ:= [(0,0),(1,1)]
 rd:=FK
theorem TP:LoopOk Tryz.prog (fun k=>Nat.blt k Tryz.f118.ntmps) cU.F (aD Tryz.f118 0):=by
 refine Lp.ok (tbl:= [pH,PF.lend pH,PF.fz pH]) (lf:= []) ay cU (by kernel_rfl) (LOk.nil _) (fun _=>rfl) (fun j _=>by unfold cU;match j with | 0=>rfl | _ + 1=>rfl) ?_ ?_ ?_ ?_ (fun _=>rfl) ?_
 ·intro x;obtain⟨y0,y1,y2⟩:=x;kernel_rfl
 ·intro x;obtain⟨y0,y1,y2⟩:=x;kernel_rfl
 ·intro s x h
  have h:FK s=some x:=h
  unfold FK at h
  repeat' split at h
  all_goals cases h
  exact⟨aa (by assumption) rfl (aa (by assumption) rfl (aa (by assumption) rfl (rfl))),ac rfl (by assumption) rfl (ac rfl (by assumption) rfl (rfl))⟩
 ·intro x;obtain⟨y0,y1,y2⟩:=x;kernel_rfl
 ·intro x z;obtain⟨y0,y1,y2⟩:=x;exact(And.intro (And.intro trivial rfl) trivial)
section
variable (x0 x1:List (List Int))
def EU:Bool:=(↑x0.length:Int)!=(↑x1.length:Int)
def Js:Int×List (List Int)×List (List Int):=((0:Int),x0,x1)
def Gq:Bool:=bif EU x0 x1 then false else bif Nat.beq ((Lp.res cU (Js x0 x1)).1) (0:Nat)then false else true
def Gr:Bool:=allT [EU x0 x1||Lp.fin cU (Js x0 x1)]
end
def RL:List SV→List Entry→Option Out
 | [.one ⟨false,[.ref 0]⟩,.one ⟨false,[.ref 1]⟩],[.row false 24 (.sl 2 (.int .i64)) x0,.row false 24 (.sl 2 (.int .i64)) x1]=>some ⟨(.one ⟨false,[(.val (.bool (Gq x0 x1)))]⟩),[(.row false 24 (CTy.sl (2:TypeId) amU) x0),(.row false 24 (CTy.sl (2:TypeId) amU) x1)],[],[(Gr x0 x1)]⟩
 |_,_=>none
def ac2:PF Tryz.prog:=PF.ofG Tryz.prog [pH,PF.lend pH,PF.fz pH] [cU.F] ay 118 Tryz.f118 Tryz.func118 (LOk.fnT (l:= [aD Tryz.f118 0]) (by kernel_rfl) (.cons TP (.nil _))) RL (by
 intro vs es r h;unfold RL at h;split at h
 ·cases h;kernel_rfl
 ·cases h)
def xQ(x0 x1 x2 x3 x4 x5:Int):Bool:=bif x0 !=x3 then false else bif x1 !=x4 then false else bif x2 !=x5 then false else true
def NZ:List SV→List Entry→Option Out
 | [.one ⟨true,[.val (.int .i64 x0),.val (.int .i64 x1),.val (.int .i64 x2)]⟩,.one ⟨true,[.val (.int .i64 x3),.val (.int .i64 x4),.val (.int .i64 x5)]⟩],[]=>some ⟨(.one ⟨false,[(.val (.bool (xQ x0 x1 x2 x3 x4 x5)))]⟩),[],[],[]⟩
 |_,_=>none
def OW:PF Tryz.prog:=PF.ofG Tryz.prog [] [] ay 195 Tryz.f195 Tryz.func195 (fun c _=>LOk.nil c) NZ (by
 intro vs es r h;unfold NZ at h;split at h
 ·cases h;kernel_rfl
 ·cases h)
abbrev fU:=Int×List (Int×(Int×Int))×List (Int×(Int×Int))
section
variable (y0:Int)(y1 y2:List (Int×(Int×Int)))
def jH:Int×Int×Int:=Option.getD y1[Int.toNat y0]? ((0:Int),(0:Int),(0:Int))
def jI:Int×Int×Int:=Option.getD y2[Int.toNat y0]? ((0:Int),(0:Int),(0:Int))
def nI:Bool:=ltI y0 (↑y1.length:Int)
def nJ:Bool:=leI (0:Int) y0
def qY:Bool:=ltN y0.toNat y1.length
def qZ:Bool:=ltI y0 (↑y2.length:Int)
def q8:Bool:=ltN y0.toNat y2.length
def q9:Bool:= !xQ ((jH y0 y1).1) (((jH y0 y1).2).1) ((jH y0 y1).2.2) ((jI y0 y2).1) (((jI y0 y2).2).1) ((jI y0 y2).2.2)
def ra:Int:=IntKind.wrap .i64 (y0 + (1:Int))
end
def Se:fU→List (Nat×SV)
 |(y0,_,_)=> [(5,(.one ⟨false,[(.val (.int .i64 y0))]⟩)),(0,(.one ⟨false,[(.ref 0)]⟩)),(1,(.one ⟨false,[(.ref 1)]⟩))]
def Sb:fU→List (Nat×Entry)
 |(_,y1,y2)=> [(0,(.row false 100 amS y1)),(1,(.row false 100 amS y2))]
def Sz:Nat→fU→List (Nat×SV)
 |0,(_,_,_)=> [(4,(.one ⟨false,[(.val (.bool false))]⟩))]
 |_,(_,_,_)=> []
def Sw:Nat→fU→List (Nat×Entry)
 |0,(_,y1,y2)=> [(0,(.row false 100 amS y1)),(1,(.row false 100 amS y2))]
 |_,(_,y1,y2)=> [(0,(.row false 100 amS y1)),(1,(.row false 100 amS y2))]
def qe:fU→LT fU
 |(y0,y1,y2)=> .ite (nI y0 y1) (.need [(nJ y0),(nI y0 y1),(qY y0 y1),(nJ y0),(qZ y0 y2),(q8 y0 y2)] (.ite (q9 y0 y1 y2) (.ext 0 [(0,0),(1,1)]) (.nrm ((ra y0),y1,y2) [(0,0),(1,1)]))) (.ext 1 [(0,0),(1,1)])
def BM(s:St):Option fU:=
 (match s.look 5 with
 |some ⟨none,(.one ⟨false,[(.val (.int .i64 y0))]⟩)⟩=>
 (match s.look 0 with
 |some ⟨none,(.one ⟨false,[(.ref 0)]⟩)⟩=>
 (match s.look 1 with
 |some ⟨none,(.one ⟨false,[(.ref 1)]⟩)⟩=>
 (match s.ent 0 with
 |some (.row false 100 (.pair (.int .i64) (.pair (.int .i64) (.int .i64))) y1)=>
 (match s.ent 1 with
 |some (.row false 100 (.pair (.int .i64) (.pair (.int .i64) (.int .i64))) y2)=>
 some (y0,y1,y2)
 |_=>none)
 |_=>none)
 |_=>none)
 |_=>none)
 |_=>none)
def bM:Lp fU where
 h:=⟨[11,12,13,14,17,18,19,20,21,22,23,24,25,26,4,15,16,5],[0,1],[],[]⟩
 JL:=Se
 JE:=Sb
 XL:=Sz
 XE:=Sw
 q:=fun j=>match j with | 0=> .ret | _=> .exit 0
 tags:= [0,1]
 lt:=qe
 fuel:=fun(y0,y1,y2)=>y0.natAbs + y1.length + y2.length
 fix:=fun(_,y1,y2) (y0,_,_)=>(y0,y1,y2)
 σ:= [(0,0),(1,1)]
 rd:=BM
theorem Qe:LoopOk Tryz.prog (fun k=>Nat.blt k Tryz.f119.ntmps) bM.F (aD Tryz.f119 0):=by
 refine Lp.ok (tbl:= [OW]) (lf:= []) ay bM (by kernel_rfl) (LOk.nil _) (fun _=>rfl) (fun j _=>by unfold bM;match j with | 0=>rfl | _ + 1=>rfl) ?_ ?_ ?_ ?_ (fun _=>rfl) ?_
 ·intro x;obtain⟨y0,y1,y2⟩:=x;kernel_rfl
 ·intro x;obtain⟨y0,y1,y2⟩:=x;kernel_rfl
 ·intro s x h
  have h:BM s=some x:=h
  unfold BM at h
  repeat' split at h
  all_goals cases h
  exact⟨aa (by assumption) rfl (aa (by assumption) rfl (aa (by assumption) rfl (rfl))),ac rfl (by assumption) rfl (ac rfl (by assumption) rfl (rfl))⟩
 ·intro x;obtain⟨y0,y1,y2⟩:=x;kernel_rfl
 ·intro x z;obtain⟨y0,y1,y2⟩:=x;exact(And.intro (And.intro trivial rfl) trivial)
section
variable (x0 x1:List (Int×Int×Int))
def zh:Bool:=(↑x0.length:Int)!=(↑x1.length:Int)
def zi:Int×List (Int×Int×Int)×List (Int×Int×Int):=((0:Int),x0,x1)
def Bj:Bool:=bif zh x0 x1 then false else bif Nat.beq ((Lp.res bM (zi x0 x1)).1) (0:Nat)then false else true
def Bk:Bool:=allT [zh x0 x1||Lp.fin bM (zi x0 x1)]
end
def Nu:List SV→List Entry→Option Out
 | [.one ⟨false,[.ref 0]⟩,.one ⟨false,[.ref 1]⟩],[.row false 100 (.pair (.int .i64) (.pair (.int .i64) (.int .i64))) x0,.row false 100 (.pair (.int .i64) (.pair (.int .i64) (.int .i64))) x1]=>some ⟨(.one ⟨false,[(.val (.bool (Bj x0 x1)))]⟩),[(.row false 100 amS x0),(.row false 100 amS x1)],[],[(Bk x0 x1)]⟩
 |_,_=>none
def YI:PF Tryz.prog:=PF.ofG Tryz.prog [OW] [bM.F] ay 119 Tryz.f119 Tryz.func119 (LOk.fnT (l:= [aD Tryz.f119 0]) (by kernel_rfl) (.cons Qe (.nil _))) Nu (by
 intro vs es r h;unfold Nu at h;split at h
 ·cases h;kernel_rfl
 ·cases h)
def Ho(x0 x1 x2 x3:Int):Bool:=bif x0 !=x2 then false else bif x1 !=x3 then false else true
def YW:List SV→List Entry→Option Out
 | [.one ⟨true,[.val (.int .i64 x0),.val (.int .i64 x1)]⟩,.one ⟨true,[.val (.int .i64 x2),.val (.int .i64 x3)]⟩],[]=>some ⟨(.one ⟨false,[(.val (.bool (Ho x0 x1 x2 x3)))]⟩),[],[],[]⟩
 |_,_=>none
def ZB:PF Tryz.prog:=PF.ofG Tryz.prog [] [] ay 196 Tryz.f196 Tryz.func196 (fun c _=>LOk.nil c) YW (by
 intro vs es r h;unfold YW at h;split at h
 ·cases h;kernel_rfl
 ·cases h)
abbrev jU:=Int×List (Int×Int)×List (Int×Int)
section
variable (y0:Int)(y1 y2:List (Int×Int))
def sV:Int×Int:=Option.getD y1[Int.toNat y0]? ((0:Int),(0:Int))
def sW:Int×Int:=Option.getD y2[Int.toNat y0]? ((0:Int),(0:Int))
def u6:Bool:=ltI y0 (↑y1.length:Int)
def u7:Bool:=leI (0:Int) y0
def zp:Bool:=ltN y0.toNat y1.length
def zq:Bool:=ltI y0 (↑y2.length:Int)
def zr:Bool:=ltN y0.toNat y2.length
def zt:Bool:= !Ho ((sV y0 y1).1) ((sV y0 y1).2) ((sW y0 y2).1) ((sW y0 y2).2)
def zu:Int:=IntKind.wrap .i64 (y0 + (1:Int))
end
def ZP:jU→List (Nat×SV)
 |(y0,_,_)=> [(5,(.one ⟨false,[(.val (.int .i64 y0))]⟩)),(0,(.one ⟨false,[(.ref 0)]⟩)),(1,(.one ⟨false,[(.ref 1)]⟩))]
def ZJ:jU→List (Nat×Entry)
 |(_,y1,y2)=> [(0,(.row false 173 amT y1)),(1,(.row false 173 amT y2))]
def aab:Nat→jU→List (Nat×SV)
 |0,(_,_,_)=> [(4,(.one ⟨false,[(.val (.bool false))]⟩))]
 |_,(_,_,_)=> []
def ZV:Nat→jU→List (Nat×Entry)
 |0,(_,y1,y2)=> [(0,(.row false 173 amT y1)),(1,(.row false 173 amT y2))]
 |_,(_,y1,y2)=> [(0,(.row false 173 amT y1)),(1,(.row false 173 amT y2))]
def xX:jU→LT jU
 |(y0,y1,y2)=> .ite (u6 y0 y1) (.need [(u7 y0),(u6 y0 y1),(zp y0 y1),(u7 y0),(zq y0 y2),(zr y0 y2)] (.ite (zt y0 y1 y2) (.ext 0 [(0,0),(1,1)]) (.nrm ((zu y0),y1,y2) [(0,0),(1,1)]))) (.ext 1 [(0,0),(1,1)])
def Io(s:St):Option jU:=
 (match s.look 5 with
 |some ⟨none,(.one ⟨false,[(.val (.int .i64 y0))]⟩)⟩=>
 (match s.look 0 with
 |some ⟨none,(.one ⟨false,[(.ref 0)]⟩)⟩=>
 (match s.look 1 with
 |some ⟨none,(.one ⟨false,[(.ref 1)]⟩)⟩=>
 (match s.ent 0 with
 |some (.row false 173 (.pair (.int .i64) (.int .i64)) y1)=>
 (match s.ent 1 with
 |some (.row false 173 (.pair (.int .i64) (.int .i64)) y2)=>
 some (y0,y1,y2)
 |_=>none)
 |_=>none)
 |_=>none)
 |_=>none)
 |_=>none)
def ea:Lp jU where
 h:=⟨[11,12,13,14,17,18,19,20,21,22,23,24,25,26,4,15,16,5],[0,1],[],[]⟩
 JL:=ZP
 JE:=ZJ
 XL:=aab
 XE:=ZV
 q:=fun j=>match j with | 0=> .ret | _=> .exit 0
 tags:= [0,1]
 lt:=xX
 fuel:=fun(y0,y1,y2)=>y0.natAbs + y1.length + y2.length
 fix:=fun(_,y1,y2) (y0,_,_)=>(y0,y1,y2)
 σ:= [(0,0),(1,1)]
 rd:=Io
theorem WX:LoopOk Tryz.prog (fun k=>Nat.blt k Tryz.f120.ntmps) ea.F (aD Tryz.f120 0):=by
 refine Lp.ok (tbl:= [ZB]) (lf:= []) ay ea (by kernel_rfl) (LOk.nil _) (fun _=>rfl) (fun j _=>by unfold ea;match j with | 0=>rfl | _ + 1=>rfl) ?_ ?_ ?_ ?_ (fun _=>rfl) ?_
 ·intro x;obtain⟨y0,y1,y2⟩:=x;kernel_rfl
 ·intro x;obtain⟨y0,y1,y2⟩:=x;kernel_rfl
 ·intro s x h
  have h:Io s=some x:=h
  unfold Io at h
  repeat' split at h
  all_goals cases h
  exact⟨aa (by assumption) rfl (aa (by assumption) rfl (aa (by assumption) rfl (rfl))),ac rfl (by assumption) rfl (ac rfl (by assumption) rfl (rfl))⟩
 ·intro x;obtain⟨y0,y1,y2⟩:=x;kernel_rfl
 ·intro x z;obtain⟨y0,y1,y2⟩:=x;exact(And.intro (And.intro trivial rfl) trivial)
section
variable (x0 x1:List (Int×Int))
def HG:Bool:=(↑x0.length:Int)!=(↑x1.length:Int)
def HH:Int×List (Int×Int)×List (Int×Int):=((0:Int),x0,x1)
def Jv:Bool:=bif HG x0 x1 then false else bif Nat.beq ((Lp.res ea (HH x0 x1)).1) (0:Nat)then false else true
def Jw:Bool:=allT [HG x0 x1||Lp.fin ea (HH x0 x1)]
end
def VD:List SV→List Entry→Option Out
 | [.one ⟨false,[.ref 0]⟩,.one ⟨false,[.ref 1]⟩],[.row false 173 (.pair (.int .i64) (.int .i64)) x0,.row false 173 (.pair (.int .i64) (.int .i64)) x1]=>some ⟨(.one ⟨false,[(.val (.bool (Jv x0 x1)))]⟩),[(.row false 173 amT x0),(.row false 173 amT x1)],[],[(Jw x0 x1)]⟩
 |_,_=>none
def ae5:PF Tryz.prog:=PF.ofG Tryz.prog [ZB] [ea.F] ay 120 Tryz.f120 Tryz.func120 (LOk.fnT (l:= [aD Tryz.f120 0]) (by kernel_rfl) (.cons WX (.nil _))) VD (by
 intro vs es r h;unfold VD at h;split at h
 ·cases h;kernel_rfl
 ·cases h)
def Hn(x0 x1 x2 x3:Int):Bool:=bif x0 !=x2 then false else bif x1 !=x3 then false else true
def YU:List SV→List Entry→Option Out
 | [.one ⟨true,[.val (.int .i64 x0),.val (.int .i64 x1)]⟩,.one ⟨true,[.val (.int .i64 x2),.val (.int .i64 x3)]⟩],[]=>some ⟨(.one ⟨false,[(.val (.bool (Hn x0 x1 x2 x3)))]⟩),[],[],[]⟩
 |_,_=>none
def ZA:PF Tryz.prog:=PF.ofG Tryz.prog [] [] ay 197 Tryz.f197 Tryz.func197 (fun c _=>LOk.nil c) YU (by
 intro vs es r h;unfold YU at h;split at h
 ·cases h;kernel_rfl
 ·cases h)
abbrev jT:=Int×List (Int×Int)×List (Int×Int)
section
variable (y0:Int)(y1 y2:List (Int×Int))
def sT:Int×Int:=Option.getD y1[Int.toNat y0]? ((0:Int),(0:Int))
def sU:Int×Int:=Option.getD y2[Int.toNat y0]? ((0:Int),(0:Int))
def u4:Bool:=ltI y0 (↑y1.length:Int)
def u5:Bool:=leI (0:Int) y0
def zj:Bool:=ltN y0.toNat y1.length
def zk:Bool:=ltI y0 (↑y2.length:Int)
def zl:Bool:=ltN y0.toNat y2.length
def zm:Bool:= !Hn ((sT y0 y1).1) ((sT y0 y1).2) ((sU y0 y2).1) ((sU y0 y2).2)
def zn:Int:=IntKind.wrap .i64 (y0 + (1:Int))
end
def ZO:jT→List (Nat×SV)
 |(y0,_,_)=> [(5,(.one ⟨false,[(.val (.int .i64 y0))]⟩)),(0,(.one ⟨false,[(.ref 0)]⟩)),(1,(.one ⟨false,[(.ref 1)]⟩))]
def ZI:jT→List (Nat×Entry)
 |(_,y1,y2)=> [(0,(.row false 176 amT y1)),(1,(.row false 176 amT y2))]
def aaa:Nat→jT→List (Nat×SV)
 |0,(_,_,_)=> [(4,(.one ⟨false,[(.val (.bool false))]⟩))]
 |_,(_,_,_)=> []
def ZU:Nat→jT→List (Nat×Entry)
 |0,(_,y1,y2)=> [(0,(.row false 176 amT y1)),(1,(.row false 176 amT y2))]
 |_,(_,y1,y2)=> [(0,(.row false 176 amT y1)),(1,(.row false 176 amT y2))]
def xW:jT→LT jT
 |(y0,y1,y2)=> .ite (u4 y0 y1) (.need [(u5 y0),(u4 y0 y1),(zj y0 y1),(u5 y0),(zk y0 y2),(zl y0 y2)] (.ite (zm y0 y1 y2) (.ext 0 [(0,0),(1,1)]) (.nrm ((zn y0),y1,y2) [(0,0),(1,1)]))) (.ext 1 [(0,0),(1,1)])
def Im(s:St):Option jT:=
 (match s.look 5 with
 |some ⟨none,(.one ⟨false,[(.val (.int .i64 y0))]⟩)⟩=>
 (match s.look 0 with
 |some ⟨none,(.one ⟨false,[(.ref 0)]⟩)⟩=>
 (match s.look 1 with
 |some ⟨none,(.one ⟨false,[(.ref 1)]⟩)⟩=>
 (match s.ent 0 with
 |some (.row false 176 (.pair (.int .i64) (.int .i64)) y1)=>
 (match s.ent 1 with
 |some (.row false 176 (.pair (.int .i64) (.int .i64)) y2)=>
 some (y0,y1,y2)
 |_=>none)
 |_=>none)
 |_=>none)
 |_=>none)
 |_=>none)
def d9:Lp jT where
 h:=⟨[11,12,13,14,17,18,19,20,21,22,23,24,25,26,4,15,16,5],[0,1],[],[]⟩
 JL:=ZO
 JE:=ZI
 XL:=aaa
 XE:=ZU
 q:=fun j=>match j with | 0=> .ret | _=> .exit 0
 tags:= [0,1]
 lt:=xW
 fuel:=fun(y0,y1,y2)=>y0.natAbs + y1.length + y2.length
 fix:=fun(_,y1,y2) (y0,_,_)=>(y0,y1,y2)
 σ:= [(0,0),(1,1)]
 rd:=Im
theorem WW:LoopOk Tryz.prog (fun k=>Nat.blt k Tryz.f121.ntmps) d9.F (aD Tryz.f121 0):=by
 refine Lp.ok (tbl:= [ZA]) (lf:= []) ay d9 (by kernel_rfl) (LOk.nil _) (fun _=>rfl) (fun j _=>by unfold d9;match j with | 0=>rfl | _ + 1=>rfl) ?_ ?_ ?_ ?_ (fun _=>rfl) ?_
 ·intro x;obtain⟨y0,y1,y2⟩:=x;kernel_rfl
 ·intro x;obtain⟨y0,y1,y2⟩:=x;kernel_rfl
 ·intro s x h
  have h:Im s=some x:=h
  unfold Im at h
  repeat' split at h
  all_goals cases h
  exact⟨aa (by assumption) rfl (aa (by assumption) rfl (aa (by assumption) rfl (rfl))),ac rfl (by assumption) rfl (ac rfl (by assumption) rfl (rfl))⟩
 ·intro x;obtain⟨y0,y1,y2⟩:=x;kernel_rfl
 ·intro x z;obtain⟨y0,y1,y2⟩:=x;exact(And.intro (And.intro trivial rfl) trivial)
section
variable (x0 x1:List (Int×Int))
def HE:Bool:=(↑x0.length:Int)!=(↑x1.length:Int)
def HF:Int×List (Int×Int)×List (Int×Int):=((0:Int),x0,x1)
def Jt:Bool:=bif HE x0 x1 then false else bif Nat.beq ((Lp.res d9 (HF x0 x1)).1) (0:Nat)then false else true
def Ju:Bool:=allT [HE x0 x1||Lp.fin d9 (HF x0 x1)]
end
def VC:List SV→List Entry→Option Out
 | [.one ⟨false,[.ref 0]⟩,.one ⟨false,[.ref 1]⟩],[.row false 176 (.pair (.int .i64) (.int .i64)) x0,.row false 176 (.pair (.int .i64) (.int .i64)) x1]=>some ⟨(.one ⟨false,[(.val (.bool (Jt x0 x1)))]⟩),[(.row false 176 amT x0),(.row false 176 amT x1)],[],[(Ju x0 x1)]⟩
 |_,_=>none
def ae4:PF Tryz.prog:=PF.ofG Tryz.prog [ZA] [d9.F] ay 121 Tryz.f121 Tryz.func121 (LOk.fnT (l:= [aD Tryz.f121 0]) (by kernel_rfl) (.cons WW (.nil _))) VC (by
 intro vs es r h;unfold VC at h;split at h
 ·cases h;kernel_rfl
 ·cases h)
end Go.SX

namespace Go.SX
open Go.Proofs
set_option maxRecDepth 100000
def areR(st:List Int):Bool:=inR (st.length:Int) 1 12&&st.all fun v=>inR v 0 2
def rowsR(rs:List (List Int)):Int:=((rs[0]?.getD []).length:Int)
def rsOk(rs:List (List Int)):Bool:=rs.all fun st=>areR st&&((st.length:Int)==rowsR rs)
def lfOk(n:Int)(lf:List (Int×Int×Int)):Bool:=inR n 1 12&&okFs n lf
def afg(t:Int×Int):Bool:=inR t.1 1 366&&inR t.2 0 100000
def okPl(pl:List (Int×Int)):Bool:=leN pl.length 12&&pl.all afg
def alu(x:Int×Int):Bool:=inR x.1 0 23&&inR x.2 1 999
def Nb(ls:List (Int×Int))(b:Nat):Int×Int:=ls[b]?.getD (0,0)
def Ey(x y:Int×Int):Bool:=y.1==x.1&&y.2==x.2
def Hr(ls:List (Int×Int))(b:Nat):Bool:= !alu (Nb ls b)
def WU(ls:List (Int×Int))(b:Nat):Bool:=(ls.take b).any (Ey (Nb ls b))
def okLk(ls:List (Int×Int)):Bool:=leN ls.length 8&&(List.range ls.length).all fun b=> !(Hr ls b||WU ls b)
def nW(n:Int)(ps:List Int)(fs:List (Int×Int×Int))(rs:List (List Int))(lf:List (Int×Int×Int))(mode:Int)(pl ls:List (Int×Int))(day:Int):Bool:=isT n ps&&(okFs n fs&&(decide (rs.length=ps.length)&&(rsOk rs&&(lfOk (rowsR rs) lf&&(inR mode 0 5&&(okPl pl&&(okLk ls&&inR day 0 100000)))))))
theorem aeF{C:Type}{P:C→Bool}: ∀ (l:List C) (i:Nat) (hi:i < l.length),P l[i]=true→((l.takeWhile fun x=> !P x).length=i↔(l.take i).any P=false)
 | [],i,hi,_=>by simp at hi
 |a::r,0,hi,h=>by
  have h:P a=true:=h
  simp [List.takeWhile_cons,h]
 |a::r,i + 1,hi,h=>by
  have hi':i < r.length:=by simpa using hi
  have h':P r[i]=true:=h
  have ih:=aeF r i hi' h'
  rw [List.take_succ_cons,List.any_cons,List.takeWhile_cons]
  cases ha:P a with
  |true=>simp
  |false=>
   simp only [Bool.not_false,if_true,List.length_cons,Bool.false_or]
   rw [← ih];omega
theorem acI: ∀ (xs:List Int) (m:Int),0≤m→m≤2→(∀ x∈xs,0≤x∧x≤2)→((xs.foldl (fun m b=>bif ltI b m then b else m) m)==2)=(m==2&&xs.all fun x=>x==2)
 | [],m,_,_,_=>by simp
 |x::xs,m,h0,h1,h=>by
  have hx:=h x (by simp)
  rw [List.foldl_cons,List.all_cons]
  cases hl:ltI x m with
  |true=>
   have:=abL.1 hl
   rw [cond_true,acI xs x hx.1 hx.2 fun y hy=>h y (by simp [hy])]
   have hm:(x==2)=false:=by simp;omega
   simp [hm]
  |false=>
   have:=Bx.1 hl
   rw [cond_false,acI xs m h0 h1 fun y hy=>h y (by simp [hy])]
   by_cases hm:m=2
   ·have hx2:x=2:=by omega
    subst hm;subst hx2;simp
   ·have:(m==2)=false:=by simpa using hm
    simp [this]
end Go.SX
