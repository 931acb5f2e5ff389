/- What functions of the program come to, and what that says in plain words: part 1. -/
import Derived.Test.YtbajbgcdcaknpaaGreatDoorProg
import Derived.Shelf.SortM.Plain
import Derived.Ground.SlgmProg
import Derived.Shelf.SlGeneric
import Derived.Test.YtbajbgcdcaknpaaGreatDoorTXh
import Derived.Test.YtbajbgcdcaknpaaGreatDoorTXs
set_option linter.unusedSimpArgs false
set_option linter.unusedVariables false
namespace Go.SX
open Go.Proofs
abbrev axi:CTy:=(CTy.pair (CTy.int IntKind.i64) (CTy.pair (CTy.int IntKind.i64) (CTy.pair (CTy.pair (CTy.int IntKind.i64) (CTy.int IntKind.i64)) (CTy.pair (CTy.int IntKind.i64) (CTy.pair (CTy.int IntKind.i64) CTy.bool)))))
abbrev axj:CTy:=(CTy.pair (CTy.int IntKind.i64) (CTy.pair (CTy.int IntKind.i64) (CTy.int IntKind.i64)))
abbrev axk:CTy:=(CTy.pair (CTy.int IntKind.i64) (CTy.int IntKind.i64))
abbrev axl:CTy:=(CTy.int IntKind.i64)
end Go.SX
namespace Go.Proofs
open Go.Shelf
def Tryz.laysSort_ren:Go.Shelf.Ren:=⟨fun | 5=>235 | 8=>241 | 7=>240 | 19=>252 | 20=>253 | 10=>243 | 11=>244 | 12=>245 | 13=>246 | 14=>247 | 15=>248 | 16=>249 | 17=>250 | 18=>251 | 30=>254 | 31=>255 | 32=>256 | 33=>257 | 34=>258 | 35=>259 | 40=>260 | n=>n,fun | 23=>24 | 25=>2 | 3=>3 | 32=>124 | 22=>24 | 0=>0 | 44=>227 | 46=>57 | 4=>4 | 36=>252 | 35=>251 | 41=>256 | 5=>5 | 9=>9 | 53=>260 | 57=>264 | 63=>266 | 64=>267 | n=>n,fun | n=>n⟩
theorem Tryz.laysSort:Go.Proofs.SlLaysM.n5 Tryz.prog Tryz.laysSort_ren:= {
 mixed:=by kernel_rfl
 f5:=⟨Tryz.f235.name,by decide,Tryz.func235.trans (congrArg some (by kernel_rfl))⟩
 f7:=⟨Tryz.f240.name,by decide,Tryz.func240.trans (congrArg some (by kernel_rfl))⟩
 f8:=Tryz.func241.trans (congrArg some (by kernel_rfl))
 f10:=⟨Tryz.f243.name,by decide,Tryz.func243.trans (congrArg some (by kernel_rfl))⟩
 f11:=⟨Tryz.f244.name,by decide,Tryz.func244.trans (congrArg some (by kernel_rfl))⟩
 f12:=⟨Tryz.f245.name,by decide,Tryz.func245.trans (congrArg some (by kernel_rfl))⟩
 f13:=⟨Tryz.f246.name,by decide,Tryz.func246.trans (congrArg some (by kernel_rfl))⟩
 f14:=⟨Tryz.f247.name,by decide,Tryz.func247.trans (congrArg some (by kernel_rfl))⟩
 f15:=⟨Tryz.f248.name,by decide,Tryz.func248.trans (congrArg some (by kernel_rfl))⟩
 f16:=⟨Tryz.f249.name,by decide,Tryz.func249.trans (congrArg some (by kernel_rfl))⟩
 f17:=⟨Tryz.f250.name,by decide,Tryz.func250.trans (congrArg some (by kernel_rfl))⟩
 f18:=⟨Tryz.f251.name,by decide,Tryz.func251.trans (congrArg some (by kernel_rfl))⟩
 f19:=Tryz.func252.trans (congrArg some (by kernel_rfl))
 f20:=Tryz.func253.trans (congrArg some (by kernel_rfl))
 f30:=⟨Tryz.f254.name,by decide,Tryz.func254.trans (congrArg some (by kernel_rfl))⟩
 f31:=Tryz.func255.trans (congrArg some (by kernel_rfl))
 f32:=Tryz.func256.trans (congrArg some (by kernel_rfl))
 f33:=⟨Tryz.f257.name,by decide,Tryz.func257.trans (congrArg some (by kernel_rfl))⟩
 f34:=⟨Tryz.f258.name,by decide,Tryz.func258.trans (congrArg some (by kernel_rfl))⟩
 f35:=⟨Tryz.f259.name,by decide,Tryz.func259.trans (congrArg some (by kernel_rfl))⟩
 f40:=⟨Tryz.f260.name,by decide,Tryz.func260.trans (congrArg some (by kernel_rfl))⟩
 t0:=Tryz.underlying0
 a0:=Tryz.isAgg0
 z0:=Tryz.sizeOf0
 v0:=Tryz.zeroValue0
 t3:=Tryz.underlying3
 a3:=Tryz.isAgg3
 z3:=Tryz.sizeOf3
 v3:=Tryz.zeroValue3
 t4:=Tryz.underlying4
 a4:=Tryz.isAgg4
 z4:=Tryz.sizeOf4
 v4:=Tryz.zeroValue4
 t5:=Tryz.underlying5
 a5:=Tryz.isAgg5
 z5:=Tryz.sizeOf5
 v5:=Tryz.zeroValue5
 t9:=Tryz.underlying9
 a9:=Tryz.isAgg9
 z9:=Tryz.sizeOf9
 v9:=Tryz.zeroValue9
 t22:=Tryz.underlying24
 a22:=Tryz.isAgg24
 z22:=Tryz.sizeOf24
 v22:=Tryz.zeroValue24
 t23:=Tryz.underlying24
 a23:=Tryz.isAgg24
 z23:=Tryz.sizeOf24
 v23:=Tryz.zeroValue24
 t25:=Tryz.underlying2
 a25:=Tryz.isAgg2
 z25:=Tryz.sizeOf2
 v25:=Tryz.zeroValue2
 t32:=Tryz.underlying124
 a32:=Tryz.isAgg124
 z32:=Tryz.sizeOf124
 v32:=Tryz.zeroValue124
 t35:=Tryz.underlying251
 a35:=Tryz.isAgg251
 z35:=Tryz.sizeOf251
 v35:=Tryz.zeroValue251
 t36:=Tryz.underlying252
 a36:=Tryz.isAgg252
 z36:=Tryz.sizeOf252
 v36:=Tryz.zeroValue252
 t41:=Tryz.underlying256
 a41:=Tryz.isAgg256
 z41:=Tryz.sizeOf256
 v41:=Tryz.zeroValue256
 t44:=Tryz.underlying227
 a44:=Tryz.isAgg227
 z44:=Tryz.sizeOf227
 v44:=Tryz.zeroValue227
 t46:=Tryz.underlying57
 a46:=Tryz.isAgg57
 z46:=Tryz.sizeOf57
 v46:=Tryz.zeroValue57
 t53:=Tryz.underlying260
 a53:=Tryz.isAgg260
 z53:=Tryz.sizeOf260
 v53:=Tryz.zeroValue260
 t57:=Tryz.underlying264
 a57:=Tryz.isAgg264
 z57:=Tryz.sizeOf264
 v57:=Tryz.zeroValue264
 t63:=Tryz.underlying266
 a63:=Tryz.isAgg266
 z63:=Tryz.sizeOf266
 v63:=Tryz.zeroValue266
 t64:=Tryz.underlying267
 a64:=Tryz.isAgg267
 z64:=Tryz.sizeOf267
 v64:=Tryz.zeroValue267 }
end Go.Proofs

namespace Go.SX
open Go.Proofs
set_option maxRecDepth 100000
theorem aq:Tryz.prog.follows .mixedOrders=true:=by kernel_rfl
def aL(x0 x1 x2:Int):Bool:=bif leI x1 x0 then leI x0 x2 else false
def ako:List SV→List Entry→Option Out
 | [.one ⟨false,[.val (.int .i64 x0)]⟩,.one ⟨false,[.val (.int .i64 x1)]⟩,.one ⟨false,[.val (.int .i64 x2)]⟩],[]=>some ⟨(.one ⟨false,[(.val (.bool (aL x0 x1 x2)))]⟩),[],[],[]⟩
 |_,_=>none
def fB:PF Tryz.prog:=PF.ofG Tryz.prog [] [] aq 73 Tryz.f73 Tryz.func73 (fun c _=>LOk.nil c) ako (by
 intro vs es r h;unfold ako at h;split at h
 ·cases h;kernel_rfl
 ·cases h)
abbrev jz:=Int×Int×List Int
section
variable (y0 y1:Int)(y2:List Int)
def vC:Bool:=ltI y0 (↑y2.length:Int)
def BX:Bool:=leI (0:Int) y0
def BZ:Bool:=ltN y0.toNat y2.length
def Ca:Bool:= !aL (Option.getD y2[Int.toNat y0]? (0:Int)) (0:Int) (IntKind.wrap .i64 (IntKind.wrap .i64 ((3:Int) * y1) - (1:Int)))
def Cb:Int:=IntKind.wrap .i64 (y0 + (1:Int))
end
def afT:jz→List (Nat×SV)
 |(y0,_,_)=> [(3,(.one ⟨false,[(.val (.int .i64 y0))]⟩)),(1,(.one ⟨false,[(.ptr 0 0)]⟩))]
def afJ:jz→List (Nat×Entry)
 |(_,y1,y2)=> [(0,(.box 26 [(.val (.int .i64 y1)),(.ref 1)])),(1,(.row false 2 axl y2))]
def agq:Nat→jz→List (Nat×SV)
 |0,(_,_,_)=> [(2,(.one ⟨false,[(.val (.bool false))]⟩))]
 |_,(_,_,_)=> []
def agf:Nat→jz→List (Nat×Entry)
 |0,(_,y1,y2)=> [(0,(.box 26 [(.val (.int .i64 y1)),(.ref 1)])),(1,(.row false 2 axl y2))]
 |_,(_,y1,y2)=> [(0,(.box 26 [(.val (.int .i64 y1)),(.ref 1)])),(1,(.row false 2 axl y2))]
def zu:jz→LT jz
 |(y0,y1,y2)=> .ite (vC y0 y2) (.need [(BX y0),(vC y0 y2),(BZ y0 y2)] (.ite (Ca y0 y1 y2) (.ext 0 [(0,0),(1,1)]) (.nrm ((Cb y0),y1,y2) [(0,0),(1,1)]))) (.ext 1 [(0,0),(1,1)])
def Nr(s:St):Option jz:=
 (match s.look 3 with
 |some ⟨none,(.one ⟨false,[(.val (.int .i64 y0))]⟩)⟩=>
 (match s.look 1 with
 |some ⟨none,(.one ⟨false,[(.ptr 128 0)]⟩)⟩=>
 (match s.ent 128 with
 |some (.box 26 [(.val (.int .i64 y1)),(.ref 0)])=>
 (match s.ent 0 with
 |some (.row false 2 (.int .i64) y2)=>
 some (y0,y1,y2)
 |_=>none)
 |_=>none)
 |_=>none)
 |_=>none)
def di:Lp jz where
 h:=⟨[15,16,17,18,19,22,23,24,25,26,27,28,29,30,31,32,2,20,21,3],[0,1],[],[]⟩
 JL:=afT
 JE:=afJ
 XL:=agq
 XE:=agf
 q:=fun j=>match j with | 0=> .ret | _=> .exit 0
 tags:= [0,1]
 lt:=zu
 fuel:=fun(y0,y1,y2)=>y0.natAbs + y1.natAbs + y2.length
 fix:=fun(_,y1,y2) (y0,_,_)=>(y0,y1,y2)
 σ:= [(0,128),(1,0)]
 rd:=Nr
theorem ady:LoopOk Tryz.prog (fun k=>Nat.blt k Tryz.f84.ntmps) di.F (au Tryz.f84 0):=by
 refine Lp.ok (tbl:= [fB]) (lf:= []) aq di (by kernel_rfl) (LOk.nil _) (fun _=>rfl) (fun j _=>by unfold di;match j with | 0=>rfl | _ + 1=>rfl) ?_ ?_ ?_ ?_ (fun _=>rfl) ?_
 ·rintro⟨y0,y1,y2⟩;kernel_rfl
 ·rintro⟨y0,y1,y2⟩;kernel_rfl
 ·intro s x h
  have h:Nr s=some x:=h
  unfold Nr at h
  repeat' split at h
  all_goals cases h
  exact⟨aa (by assumption) rfl (aa (by assumption) rfl (rfl)),ab rfl (by assumption) rfl (ab rfl (by assumption) rfl (rfl))⟩
 ·rintro⟨y0,y1,y2⟩;kernel_rfl
 ·rintro⟨y0,y1,y2⟩ z;exact(And.intro (And.intro trivial rfl) trivial)
section
variable (x0:Int)(x1:List Int)
def SM:Bool:=bif !aL x0 (2:Int) (8:Int)then true else !aL (↑x1.length:Int) (1:Int) (4:Int)
def SN:Int×Int×List Int:=((0:Int),x0,x1)
def UK:Bool:=bif SM x0 x1 then false else bif Nat.beq ((Lp.res di (SN x0 x1)).1) (0:Nat)then false else true
def UL:Bool:=allT [SM x0 x1||Lp.fin di (SN x0 x1)]
end
def abD:List SV→List Entry→Option Out
 | [.one ⟨true,[.val (.int .i64 x0),.ref 0]⟩],[.row false 2 (.int .i64) x1]=>some ⟨(.one ⟨false,[(.val (.bool (UK x0 x1)))]⟩),[(.row false 2 axl x1)],[],[(UL x0 x1)]⟩
 |_,_=>none
def amV:PF Tryz.prog:=PF.ofG Tryz.prog [fB] [di.F] aq 84 Tryz.f84 Tryz.func84 (LOk.fnT (l:= [au Tryz.f84 0]) (by kernel_rfl) (.cons ady (.nil _))) abD (by
 intro vs es r h;unfold abD at h;split at h
 ·cases h;kernel_rfl
 ·cases h)
def ba(x0 x1 x2:Int):Bool:=bif leI x1 x0 then leI x0 x2 else false
def aiD:List SV→List Entry→Option Out
 | [.one ⟨false,[.val (.int .i64 x0)]⟩,.one ⟨false,[.val (.int .i64 x1)]⟩,.one ⟨false,[.val (.int .i64 x2)]⟩],[]=>some ⟨(.one ⟨false,[(.val (.bool (ba x0 x1 x2)))]⟩),[],[],[]⟩
 |_,_=>none
def gG:PF Tryz.prog:=PF.ofG Tryz.prog [] [] aq 69 Tryz.f69 Tryz.func69 (fun c _=>LOk.nil c) aiD (by
 intro vs es r h;unfold aiD at h;split at h
 ·cases h;kernel_rfl
 ·cases h)
def Om(x0:Int):Bool:=ba x0 (2:Int) (8:Int)
def Wv:List SV→List Entry→Option Out
 | [.one ⟨false,[.val (.int .i64 x0)]⟩],[]=>some ⟨(.one ⟨false,[(.val (.bool (Om x0)))]⟩),[],[],[]⟩
 |_,_=>none
def aip:PF Tryz.prog:=PF.ofG Tryz.prog [gG] [] aq 68 Tryz.f68 Tryz.func68 (fun c _=>LOk.nil c) Wv (by
 intro vs es r h;unfold Wv at h;split at h
 ·cases h;kernel_rfl
 ·cases h)
def cY(x0:List Int):Int:=(↑x0.length:Int)
def Ww:List SV→List Entry→Option Out
 | [.one ⟨false,[.ref 0]⟩],[.row false 2 (.int .i64) x0]=>some ⟨(.one ⟨false,[(.val (.int .i64 (cY x0)))]⟩),[(.row false 2 axl x0)],[],[]⟩
 |_,_=>none
def aH:PF Tryz.prog:=PF.ofG Tryz.prog [] [] aq 79 Tryz.f79 Tryz.func79 (fun c _=>LOk.nil c) Ww (by
 intro vs es r h;unfold Ww at h;split at h
 ·cases h;kernel_rfl
 ·cases h)
def EJ(x0 x1:Int):Bool:= !ba x0 (0:Int) (IntKind.wrap .i64 (IntKind.wrap .i64 ((3:Int) * x1) - (1:Int)))
def Tq:List SV→List Entry→Option Out
 | [(.one ⟨false,[(.val (.int .i64 x0))]⟩),(.one ⟨false,[(.ptr 0 0)]⟩)],[(.box 26 [(.val (.int .i64 x1)),(.ref 1)]),(.row false 2 (.int .i64) x2)]=>some ⟨(.one ⟨false,[(.val (.bool (EJ x0 x1)))]⟩),[(.box 26 [(.val (.int .i64 x1)),(.ref 1)]),(.row false 2 axl x2)],[],[]⟩
 |_,_=>none
def rY:PF Tryz.prog:=PF.ofG Tryz.prog [gG] [] aq 162 Tryz.f162 Tryz.func162 (fun c _=>LOk.nil c) Tq (by
 intro vs es r h;unfold Tq at h;split at h
 ·cases h;kernel_rfl
 ·cases h)
abbrev bi:=Int×Int×Int×List Int
section
variable (y0 y1 y2:Int)(y3:List Int)
def ii:Bool:=ltI y0 y1
def ij:Bool:=leI (0:Int) y0
def ik:Bool:=ltI y0 (↑y3.length:Int)
def il:Bool:=ltN y0.toNat y3.length
def im:Bool:=EJ (Option.getD y3[Int.toNat y0]? (0:Int)) y2
def io:Int:=IntKind.wrap .i64 (y0 + (1:Int))
end
def NM:bi→List (Nat×SV)
 |(y0,y1,_,_)=> [(8,(.one ⟨false,[(.val (.int .i64 y0))]⟩)),(7,(.one ⟨false,[(.val (.int .i64 y1))]⟩)),(1,(.one ⟨false,[(.clo 162 [0])]⟩)),(0,(.one ⟨false,[(.ref 1)]⟩))]
def NL:bi→List (Nat×Entry)
 |(_,_,y2,y3)=> [(0,(.box 26 [(.val (.int .i64 y2)),(.ref 1)])),(1,(.row false 2 axl y3))]
def NO:Nat→bi→List (Nat×SV)
 |0,(y0,_,_,_)=> [(4,(.one ⟨false,[(.val (.int .i64 y0))]⟩))]
 |_,(_,_,_,_)=> []
def NN:Nat→bi→List (Nat×Entry)
 |0,(_,_,y2,y3)=> [(0,(.box 26 [(.val (.int .i64 y2)),(.ref 1)])),(1,(.row false 2 axl y3))]
 |_,(_,_,y2,y3)=> [(0,(.box 26 [(.val (.int .i64 y2)),(.ref 1)])),(1,(.row false 2 axl y3))]
def gQ:bi→LT bi
 |(y0,y1,y2,y3)=> .ite (ii y0 y1) (.need [(ij y0),(ik y0 y3),(il y0 y3)] (.ite (im y0 y2 y3) (.ext 0 [(0,0),(1,1)]) (.nrm ((io y0),y1,y2,y3) [(0,0),(1,1)]))) (.ext 1 [(0,0),(1,1)])
def qS(s:St):Option bi:=
 (match s.look 8 with
 |some ⟨none,(.one ⟨false,[(.val (.int .i64 y0))]⟩)⟩=>
 (match s.look 7 with
 |some ⟨none,(.one ⟨false,[(.val (.int .i64 y1))]⟩)⟩=>
 (match s.look 1 with
 |some ⟨none,(.one ⟨false,[(.clo 162 [1])]⟩)⟩=>
 (match s.look 0 with
 |some ⟨none,(.one ⟨false,[(.ref 0)]⟩)⟩=>
 (match s.ent 1 with
 |some (.box 26 [(.val (.int .i64 y2)),(.ref 0)])=>
 (match s.ent 0 with
 |some (.row false 2 (.int .i64) y3)=>
 some (y0,y1,y2,y3)
 |_=>none)
 |_=>none)
 |_=>none)
 |_=>none)
 |_=>none)
 |_=>none)
def aA:Lp bi where
 h:=⟨[9,10,5,11,12,13,14,15,16,17,4,18,8],[0,1],[],[]⟩
 JL:=NM
 JE:=NL
 XL:=NO
 XE:=NN
 q:=fun j=>match j with | 0=> .ret | _=> .exit 0
 tags:= [0,1]
 lt:=gQ
 fuel:=fun(y0,y1,y2,y3)=>y0.natAbs + y1.natAbs + y2.natAbs + y3.length
 fix:=fun(_,y1,y2,y3) (y0,_,_,_)=>(y0,y1,y2,y3)
 σ:= [(0,1),(1,0)]
 rd:=qS
theorem Mq:LoopOk Tryz.prog (fun k=>Nat.blt k Tryz.f211.ntmps) aA.F (au Tryz.f211 0):=by
 refine Lp.ok (tbl:= [rY,PF.lend rY,PF.fz rY]) (lf:= []) aq aA (by kernel_rfl) (LOk.nil _) (fun _=>rfl) (fun j _=>by unfold aA;match j with | 0=>rfl | _ + 1=>rfl) ?_ ?_ ?_ ?_ (fun _=>rfl) ?_
 ·rintro⟨y0,y1,y2,y3⟩;kernel_rfl
 ·rintro⟨y0,y1,y2,y3⟩;kernel_rfl
 ·intro s x h
  have h:qS s=some x:=h
  unfold qS at h
  repeat' split at h
  all_goals cases h
  exact⟨aa (by assumption) rfl (aa (by assumption) rfl (aa (by assumption) rfl (aa (by assumption) rfl (rfl)))),ab rfl (by assumption) rfl (ab rfl (by assumption) rfl (rfl))⟩
 ·rintro⟨y0,y1,y2,y3⟩;kernel_rfl
 ·rintro⟨y0,y1,y2,y3⟩ z;exact(And.intro (And.intro trivial rfl) trivial)
section
variable (x0:List Int)(x1:Int)
def mC:Int×Int×Int×List Int:=((0:Int),(↑x0.length:Int),x1,x0)
def tg:Bool:=Nat.beq ((Lp.res aA (mC x0 x1)).1) (0:Nat)
def uf:Int:=bif tg x0 x1 then ((Lp.res aA (mC x0 x1)).2).1else(-1:Int)
def ug:Int:=bif tg x0 x1 then x1 else x1
def uh:Bool:=allT [Lp.fin aA (mC x0 x1)]
end
def EX:List SV→List Entry→Option Out
 | [(.one ⟨false,[(.ref 0)]⟩),(.one ⟨false,[(.clo 162 [1])]⟩)],[(.row false 2 (.int .i64) x0),(.box 26 [(.val (.int .i64 x1)),(.ref 0)])]=>some ⟨(.one ⟨false,[(.val (.int .i64 (uf x0 x1)))]⟩),[(.row false 2 axl x0),(.box 26 [(.val (.int .i64 (ug x0 x1))),(.ref 0)])],[],[(uh x0 x1)]⟩
 |_,_=>none
def ue:PF Tryz.prog:=PF.ofG Tryz.prog [rY,PF.lend rY,PF.fz rY] [aA.F] aq 211 Tryz.f211 Tryz.func211 (LOk.fnT (l:= [au Tryz.f211 0]) (by kernel_rfl) (.cons Mq (.nil _))) EX (by
 intro vs es r h;unfold EX at h;split at h
 ·cases h;kernel_rfl
 ·cases h)
section
variable (x0:List Int)(x1:Int)
def kU:Bool:=leI (0:Int) (uf x0 x1)
def BV:Int:=ug x0 x1
def kV:Bool:=allT [uh x0 x1]
end
def AW:List SV→List Entry→Option Out
 | [(.one ⟨false,[(.ref 0)]⟩),(.one ⟨false,[(.clo 162 [1])]⟩)],[(.row false 2 (.int .i64) x0),(.box 26 [(.val (.int .i64 x1)),(.ref 0)])]=>some ⟨(.one ⟨false,[(.val (.bool (kU x0 x1)))]⟩),[(.row false 2 axl x0),(.box 26 [(.val (.int .i64 (BV x0 x1))),(.ref 0)])],[],[(kV x0 x1)]⟩
 |_,_=>none
def rt:PF Tryz.prog:=PF.ofG Tryz.prog [ue,PF.lend ue,PF.fz ue] [] aq 158 Tryz.f158 Tryz.func158 (fun c _=>LOk.nil c) AW (by
 intro vs es r h;unfold AW at h;split at h
 ·cases h;kernel_rfl
 ·cases h)
section
variable (x0:Int)(x1:List Int)
def RD:Bool:=bif Om x0 then ba (cY x1) (1:Int) (4:Int)else false
def TN:Bool:=bif RD x0 x1 then !kU x1 x0 else false
def TO:Bool:=allT [!(RD x0 x1&&true)||kV x1 x0]
end
def abl:List SV→List Entry→Option Out
 | [.one ⟨true,[.val (.int .i64 x0),.ref 0]⟩],[.row false 2 (.int .i64) x1]=>some ⟨(.one ⟨false,[(.val (.bool (TN x0 x1)))]⟩),[(.row false 2 axl x1)],[],[(TO x0 x1)]⟩
 |_,_=>none
def amE:PF Tryz.prog:=PF.ofG Tryz.prog [aip,gG,aH,PF.lend aH,PF.fz aH,rt,PF.lend rt,PF.fz rt] [] aq 75 Tryz.f75 Tryz.func75 (fun c _=>LOk.nil c) abl (by
 intro vs es r h;unfold abl at h;split at h
 ·cases h;kernel_rfl
 ·cases h)
def Em(x0:List Int):Bool:=allT [ltN (0:Nat) x0.length,false||leN ((0:Nat) + List.length x0) (9223372036854775807:Nat),false||leN (((0:Nat) + List.length x0) * (8:Nat)) (140737488355328:Nat)]
def MD:List SV→List Entry→Option Out
 | [.one ⟨false,[.ref 0]⟩],[.row false 2 (.int .i64) x0]=>some ⟨(.one ⟨false,[(.ref 1)]⟩),[(.row false 2 axl x0)],[(.row true 2 axl x0)],[(Em x0)]⟩
 |_,_=>none
def Yz:PF Tryz.prog:=PF.ofG Tryz.prog [] [] aq 151 Tryz.f151 Tryz.func151 (fun c _=>LOk.nil c) MD (by
 intro vs es r h;unfold MD at h;split at h
 ·cases h;kernel_rfl
 ·cases h)
def abe(x0:List Int):Bool:=allT [leN ((0:Nat) + List.length x0) (9223372036854775807:Nat),leN (((0:Nat) + List.length x0) * (8:Nat)) (140737488355328:Nat)]
def aiO:List SV→List Entry→Option Out
 | [.one ⟨false,[.ref 0]⟩],[.row false 2 (.int .i64) x0]=>some ⟨(.one ⟨false,[(.ref 1)]⟩),[(.row false 2 axl x0)],[(.row true 2 axl x0)],[(abe x0)]⟩
 |_,_=>none
def apN:PF Tryz.prog:=PF.ofG Tryz.prog [] [] aq 209 Tryz.f209 Tryz.func209 (fun c _=>LOk.nil c) aiO (by
 intro vs es r h;unfold aiO at h;split at h
 ·cases h;kernel_rfl
 ·cases h)
section
variable (x0 x1 x2:Int)
def Le:Bool:=IntKind.wrap .i64 (Int.tdiv x1 (3:Int))==x2
def PP:Bool:=Int.tmod x1 (3:Int)==(2:Int)
def YS:Bool:=bif Le x1 x2 then true else bif PP x1 then Int.tmod (IntKind.wrap .i64 (IntKind.wrap .i64 (Int.tdiv x1 (3:Int)) + (1:Int))) x0==x2 else false
def SU:Bool:=allT [!(!Le x1 x2&&true)||neI (3:Int) (0:Int),!(PP x1&&(!Le x1 x2&&true))||neI (3:Int) (0:Int),!(PP x1&&(!Le x1 x2&&true))||neI x0 (0:Int)]
end
def afn:List SV→List Entry→Option Out
 | [.one ⟨false,[.val (.int .i64 x0)]⟩,.one ⟨false,[.val (.int .i64 x1)]⟩,.one ⟨false,[.val (.int .i64 x2)]⟩],[]=>some ⟨(.one ⟨false,[(.val (.bool (YS x0 x1 x2)))]⟩),[],[],[(SU x0 x1 x2)]⟩
 |_,_=>none
def ao5:PF Tryz.prog:=PF.ofG Tryz.prog [] [] aq 219 Tryz.f219 Tryz.func219 (fun c _=>LOk.nil c) afn (by
 intro vs es r h;unfold afn at h;split at h
 ·cases h;kernel_rfl
 ·cases h)
def lQ(x1:Int)(x2:List Int):Bool:=ba x1 (0:Int) (IntKind.wrap .i64 (cY x2 - (1:Int)))
def uk:List SV→List Entry→Option Out
 | [.one ⟨true,[.val (.int .i64 _x0),.ref 0]⟩,.one ⟨false,[.val (.int .i64 x1)]⟩],[.row false 2 (.int .i64) x2]=>some ⟨(.one ⟨false,[(.val (.bool (lQ x1 x2)))]⟩),[(.row false 2 axl x2)],[],[]⟩
 |_,_=>none
def Kd:PF Tryz.prog:=PF.ofG Tryz.prog [gG,aH,PF.lend aH,PF.fz aH] [] aq 183 Tryz.f183 Tryz.func183 (fun c _=>LOk.nil c) uk (by
 intro vs es r h;unfold uk at h;split at h
 ·cases h;kernel_rfl
 ·cases h)
def Uk(x0:Int)(x1:List Int):Int:=IntKind.wrap .i64 (x0 - (↑x1.length:Int))
def We(x0:Int)(x1:List Int):Int:=bif ltI (Uk x0 x1) (0:Int)then(-1:Int)else Uk x0 x1
def adZ:List SV→List Entry→Option Out
 | [.one ⟨false,[.ref 0]⟩,.one ⟨false,[.val (.int .i64 x0)]⟩],[.row false 2 (.int .i64) x1]=>some ⟨(.one ⟨false,[(.val (.int .i64 (We x0 x1)))]⟩),[(.row false 2 axl x1)],[],[]⟩
 |_,_=>none
def anY:PF Tryz.prog:=PF.ofG Tryz.prog [] [] aq 188 Tryz.f188 Tryz.func188 (fun c _=>LOk.nil c) adZ (by
 intro vs es r h;unfold adZ at h;split at h
 ·cases h;kernel_rfl
 ·cases h)
abbrev kb:=Int×List Int×List Int
section
variable (y0:Int)(y1 y2:List Int)
def xH:Bool:=ltI y0 (↑y1.length:Int)
def xI:Bool:=leI (0:Int) y0
def DX:Bool:=ltN y0.toNat y1.length
def DY:Bool:=ltI y0 (↑y2.length:Int)
def DZ:Bool:=ltN y0.toNat y2.length
def Ea:Int:=IntKind.wrap .i64 (y0 + (1:Int))
def Eb:List Int:=List.set y2 y0.toNat (Option.getD y1[Int.toNat y0]? (0:Int))
end
def ahR:kb→List (Nat×SV)
 |(y0,_,_)=> [(4,(.one ⟨false,[(.val (.int .i64 y0))]⟩)),(0,(.one ⟨false,[(.ref 0)]⟩)),(3,(.one ⟨false,[(.ref 1)]⟩))]
def ahI:kb→List (Nat×Entry)
 |(_,y1,y2)=> [(0,(.row false 2 axl y1)),(1,(.row true 2 axl y2))]
def ah9:Nat→kb→List (Nat×SV)
 |_,(_,_,_)=> []
def ah0:Nat→kb→List (Nat×Entry)
 |_,(_,y1,y2)=> [(0,(.row false 2 axl y1)),(1,(.row true 2 axl y2))]
def BP:kb→LT kb
 |(y0,y1,y2)=> .ite (xH y0 y1) (.need [(xI y0),(xH y0 y1),(DX y0 y1),(xI y0),(DY y0 y2),(DZ y0 y2)] (.nrm ((Ea y0),y1,(Eb y0 y1 y2)) [(0,0),(1,1)])) (.ext 0 [(0,0),(1,1)])
def OH(s:St):Option kb:=
 (match s.look 4 with
 |some ⟨none,(.one ⟨false,[(.val (.int .i64 y0))]⟩)⟩=>
 (match s.look 0 with
 |some ⟨none,(.one ⟨false,[(.ref 0)]⟩)⟩=>
 (match s.look 3 with
 |some ⟨none,(.one ⟨false,[(.ref 320)]⟩)⟩=>
 (match s.ent 0 with
 |some (.row false 2 (.int .i64) y1)=>
 (match s.ent 320 with
 |some (.row true 2 (.int .i64) y2)=>
 some (y0,y1,y2)
 |_=>none)
 |_=>none)
 |_=>none)
 |_=>none)
 |_=>none)
def ff:Lp kb where
 h:=⟨[8,9,10,11,14,15,16,17,18,19,20,12,13,4],[0,1],[],[]⟩
 JL:=ahR
 JE:=ahI
 XL:=ah9
 XE:=ah0
 q:=fun j=>match j with | _=> .exit 0
 tags:= [0]
 lt:=BP
 fuel:=fun(y0,y1,y2)=>y0.natAbs + y1.length + y2.length
 fix:=fun(_,y1,_) (y0,_,y2)=>(y0,y1,y2)
 σ:= [(0,0),(1,320)]
 rd:=OH
theorem aeX:LoopOk Tryz.prog (fun k=>Nat.blt k Tryz.f189.ntmps) ff.F (au Tryz.f189 0):=by
 refine Lp.ok (tbl:= []) (lf:= []) aq ff (by kernel_rfl) (LOk.nil _) (fun _=>rfl) (fun _ _=>rfl) ?_ ?_ ?_ ?_ (fun _=>rfl) ?_
 ·rintro⟨y0,y1,y2⟩;kernel_rfl
 ·rintro⟨y0,y1,y2⟩;kernel_rfl
 ·intro s x h
  have h:OH s=some x:=h
  unfold OH at h
  repeat' split at h
  all_goals cases h
  exact⟨aa (by assumption) rfl (aa (by assumption) rfl (aa (by assumption) rfl (rfl))),ab rfl (by assumption) rfl (ab rfl (by assumption) rfl (rfl))⟩
 ·rintro⟨y0,y1,y2⟩;kernel_rfl
 ·rintro⟨y0,y1,y2⟩ z;exact(And.intro rfl trivial)
section
variable (x0:List Int)
def Ob:Int×List Int×List Int:=((0:Int),x0,List.replicate (Int.toNat (↑x0.length:Int)) (0:Int))
def PG:List Int:=(Lp.res ff (Ob x0)).2.2.2
def PH:Bool:=allT [leI (0:Int) (↑x0.length:Int),leI (↑x0.length:Int) (↑x0.length:Int),leI ((↑(8:Nat):Int) * (↑x0.length:Int)) (281474976710656:Int),leI (↑x0.length:Int) (9223372036854775807:Int),Lp.fin ff (Ob x0)]
end
def ad0:List SV→List Entry→Option Out
 | [.one ⟨false,[.ref 0]⟩],[.row false 2 (.int .i64) x0]=>some ⟨(.one ⟨false,[(.ref 1)]⟩),[(.row false 2 axl x0)],[(.row true 2 axl (PG x0))],[(PH x0)]⟩
 |_,_=>none
def anZ:PF Tryz.prog:=PF.ofG Tryz.prog [] [ff.F] aq 189 Tryz.f189 Tryz.func189 (LOk.fnT (l:= [au Tryz.f189 0]) (by kernel_rfl) (.cons aeX (.nil _))) ad0 (by
 intro vs es r h;unfold ad0 at h;split at h
 ·cases h;kernel_rfl
 ·cases h)
abbrev ka:=Int×List Int×List Int
section
variable (y0:Int)(y1 y2:List Int)
def xB:Bool:=ltI y0 (↑y1.length:Int)
def xC:Bool:=leI (0:Int) y0
def DL:Bool:=ltN y0.toNat y1.length
def DM:Bool:=ltI y0 (↑y2.length:Int)
def DN:Bool:=ltN y0.toNat y2.length
def DO:Bool:=Option.getD y1[Int.toNat y0]? (0:Int)!=Option.getD y2[Int.toNat y0]? (0:Int)
def DP:Int:=IntKind.wrap .i64 (y0 + (1:Int))
end
def ahQ:ka→List (Nat×SV)
 |(y0,_,_)=> [(5,(.one ⟨false,[(.val (.int .i64 y0))]⟩)),(0,(.one ⟨false,[(.ref 0)]⟩)),(1,(.one ⟨false,[(.ref 1)]⟩))]
def ahH:ka→List (Nat×Entry)
 |(_,y1,y2)=> [(0,(.row false 2 axl y1)),(1,(.row false 2 axl y2))]
def ah8:Nat→ka→List (Nat×SV)
 |0,(_,_,_)=> [(4,(.one ⟨false,[(.val (.bool false))]⟩))]
 |_,(_,_,_)=> []
def ahZ:Nat→ka→List (Nat×Entry)
 |0,(_,y1,y2)=> [(0,(.row false 2 axl y1)),(1,(.row false 2 axl y2))]
 |_,(_,y1,y2)=> [(0,(.row false 2 axl y1)),(1,(.row false 2 axl y2))]
def BO:ka→LT ka
 |(y0,y1,y2)=> .ite (xB y0 y1) (.need [(xC y0),(xB y0 y1),(DL y0 y1),(xC y0),(DM y0 y2),(DN y0 y2)] (.ite (DO y0 y1 y2) (.ext 0 [(0,0),(1,1)]) (.nrm ((DP y0),y1,y2) [(0,0),(1,1)]))) (.ext 1 [(0,0),(1,1)])
def OG(s:St):Option ka:=
 (match s.look 5 with
 |some ⟨none,(.one ⟨false,[(.val (.int .i64 y0))]⟩)⟩=>
 (match s.look 0 with
 |some ⟨none,(.one ⟨false,[(.ref 0)]⟩)⟩=>
 (match s.look 1 with
 |some ⟨none,(.one ⟨false,[(.ref 1)]⟩)⟩=>
 (match s.ent 0 with
 |some (.row false 2 (.int .i64) y1)=>
 (match s.ent 1 with
 |some (.row false 2 (.int .i64) y2)=>
 some (y0,y1,y2)
 |_=>none)
 |_=>none)
 |_=>none)
 |_=>none)
 |_=>none)
def dT:Lp ka where
 h:=⟨[11,12,13,14,17,18,19,20,21,22,23,24,25,4,15,16,5],[0,1],[],[]⟩
 JL:=ahQ
 JE:=ahH
 XL:=ah8
 XE:=ahZ
 q:=fun j=>match j with | 0=> .ret | _=> .exit 0
 tags:= [0,1]
 lt:=BO
 fuel:=fun(y0,y1,y2)=>y0.natAbs + y1.length + y2.length
 fix:=fun(_,y1,y2) (y0,_,_)=>(y0,y1,y2)
 σ:= [(0,0),(1,1)]
 rd:=OG
theorem aeW:LoopOk Tryz.prog (fun k=>Nat.blt k Tryz.f46.ntmps) dT.F (au Tryz.f46 0):=by
 refine Lp.ok (tbl:= []) (lf:= []) aq dT (by kernel_rfl) (LOk.nil _) (fun _=>rfl) (fun j _=>by unfold dT;match j with | 0=>rfl | _ + 1=>rfl) ?_ ?_ ?_ ?_ (fun _=>rfl) ?_
 ·rintro⟨y0,y1,y2⟩;kernel_rfl
 ·rintro⟨y0,y1,y2⟩;kernel_rfl
 ·intro s x h
  have h:OG s=some x:=h
  unfold OG at h
  repeat' split at h
  all_goals cases h
  exact⟨aa (by assumption) rfl (aa (by assumption) rfl (aa (by assumption) rfl (rfl))),ab rfl (by assumption) rfl (ab rfl (by assumption) rfl (rfl))⟩
 ·rintro⟨y0,y1,y2⟩;kernel_rfl
 ·rintro⟨y0,y1,y2⟩ z;exact(And.intro (And.intro trivial rfl) trivial)
section
variable (x0 x1:List Int)
def NW:Bool:=(↑x0.length:Int)!=(↑x1.length:Int)
def NX:Int×List Int×List Int:=((0:Int),x0,x1)
def Pz:Bool:=bif NW x0 x1 then false else bif Nat.beq ((Lp.res dT (NX x0 x1)).1) (0:Nat)then false else true
def PA:Bool:=allT [NW x0 x1||Lp.fin dT (NX x0 x1)]
end
def adW:List SV→List Entry→Option Out
 | [.one ⟨false,[.ref 0]⟩,.one ⟨false,[.ref 1]⟩],[.row false 2 (.int .i64) x0,.row false 2 (.int .i64) x1]=>some ⟨(.one ⟨false,[(.val (.bool (Pz x0 x1)))]⟩),[(.row false 2 axl x0),(.row false 2 axl x1)],[],[(PA x0 x1)]⟩
 |_,_=>none
def anV:PF Tryz.prog:=PF.ofG Tryz.prog [] [dT.F] aq 46 Tryz.f46 Tryz.func46 (LOk.fnT (l:= [au Tryz.f46 0]) (by kernel_rfl) (.cons aeW (.nil _))) adW (by
 intro vs es r h;unfold adW at h;split at h
 ·cases h;kernel_rfl
 ·cases h)
abbrev iG:=Int×Int×List Int
section
variable (y0 y1:Int)(y2:List Int)
def tE:Bool:=ltI y0 (↑y2.length:Int)
def zd:Bool:=leI (0:Int) y0
def ze:Bool:=ltN y0.toNat y2.length
def zf:Int:=IntKind.wrap .i64 (y0 + (1:Int))
def zg:Int:=IntKind.wrap .i64 (y1 + (1:Int))
def zh:List Int:=List.set y2 y0.toNat y1
end
def aex:iG→List (Nat×SV)
 |(y0,y1,_)=> [(5,(.one ⟨false,[(.val (.int .i64 y0))]⟩)),(0,(.one ⟨false,[(.ref 0)]⟩)),(1,(.one ⟨false,[(.val (.int .i64 y1))]⟩))]
def aep:iG→List (Nat×Entry)
 |(_,_,y2)=> [(0,(.row true 2 axl y2))]
def aeN:Nat→iG→List (Nat×SV)
 |_,(_,y1,_)=> [(1,(.one ⟨false,[(.val (.int .i64 y1))]⟩))]
def aeF:Nat→iG→List (Nat×Entry)
 |_,(_,_,y2)=> [(0,(.row true 2 axl y2))]
def xa:iG→LT iG
 |(y0,y1,y2)=> .ite (tE y0 y2) (.need [(zd y0),(tE y0 y2),(ze y0 y2)] (.nrm ((zf y0),(zg y1),(zh y0 y1 y2)) [(0,0)])) (.ext 0 [(0,0)])
def LX(s:St):Option iG:=
 (match s.look 5 with
 |some ⟨none,(.one ⟨false,[(.val (.int .i64 y0))]⟩)⟩=>
 (match s.look 0 with
 |some ⟨none,(.one ⟨false,[(.ref 0)]⟩)⟩=>
 (match s.look 1 with
 |some ⟨none,(.one ⟨false,[(.val (.int .i64 y1))]⟩)⟩=>
 (match s.ent 0 with
 |some (.row true 2 (.int .i64) y2)=>
 some (y0,y1,y2)
 |_=>none)
 |_=>none)
 |_=>none)
 |_=>none)
def dp:Lp iG where
 h:=⟨[6,7,8,9,12,13,14,15,16,17,1,10,11,5],[0],[],[]⟩
 JL:=aex
 JE:=aep
 XL:=aeN
 XE:=aeF
 q:=fun j=>match j with | _=> .exit 0
 tags:= [0]
 lt:=xa
 fuel:=fun(y0,y1,y2)=>y0.natAbs + y1.natAbs + y2.length
 fix:=fun(_,_,_) (y0,y1,y2)=>(y0,y1,y2)
 σ:= [(0,0)]
 rd:=LX
theorem acr:LoopOk Tryz.prog (fun k=>Nat.blt k Tryz.f48.ntmps) dp.F (au Tryz.f48 0):=by
 refine Lp.ok (tbl:= []) (lf:= []) aq dp (by kernel_rfl) (LOk.nil _) (fun _=>rfl) (fun _ _=>rfl) ?_ ?_ ?_ ?_ (fun _=>rfl) ?_
 ·rintro⟨y0,y1,y2⟩;kernel_rfl
 ·rintro⟨y0,y1,y2⟩;kernel_rfl
 ·intro s x h
  have h:LX s=some x:=h
  unfold LX at h
  repeat' split at h
  all_goals cases h
  exact⟨aa (by assumption) rfl (aa (by assumption) rfl (aa (by assumption) rfl (rfl))),ab rfl (by assumption) rfl (rfl)⟩
 ·rintro⟨y0,y1,y2⟩;kernel_rfl
 ·rintro⟨y0,y1,y2⟩ z;exact(And.intro rfl trivial)
section
variable (x0:Int)(x1:List Int)
def DV:Int×Int×List Int:=((0:Int),x0,x1)
def DW:Int×List Int:=(Lp.res dp (DV x0 x1)).2.2
def FU:Int:=(DW x0 x1).1
def FV:List Int:=(DW x0 x1).2
def FW:Bool:=allT [Lp.fin dp (DV x0 x1)]
end
def ZS:List SV→List Entry→Option Out
 | [.one ⟨false,[.ref 0]⟩,.one ⟨false,[.val (.int .i64 x0)]⟩],[.row true 2 (.int .i64) x1]=>some ⟨(.one ⟨false,[(.val (.int .i64 (FU x0 x1)))]⟩),[(.row true 2 axl (FV x0 x1))],[],[(FW x0 x1)]⟩
 |_,_=>none
def alB:PF Tryz.prog:=PF.ofG Tryz.prog [] [dp.F] aq 48 Tryz.f48 Tryz.func48 (LOk.fnT (l:= [au Tryz.f48 0]) (by kernel_rfl) (.cons acr (.nil _))) ZS (by
 intro vs es r h;unfold ZS at h;split at h
 ·cases h;kernel_rfl
 ·cases h)
abbrev iF:=Int×Int×List Int
section
variable (y0 y1:Int)(y2:List Int)
def tx:Bool:=ltI y0 (↑y2.length:Int)
def yY:Bool:=leI (0:Int) y0
def yZ:Bool:=ltN y0.toNat y2.length
def za:Bool:=Option.getD y2[Int.toNat y0]? (0:Int)!=y1
end
def tz:Int:=(-1:Int)
def zb(y0:Int):Int:=IntKind.wrap .i64 (y0 + (1:Int))
def zc(y1:Int):Int:=IntKind.wrap .i64 (y1 + (1:Int))
def aew:iF→List (Nat×SV)
 |(y0,y1,_)=> [(5,(.one ⟨false,[(.val (.int .i64 y0))]⟩)),(0,(.one ⟨false,[(.ref 0)]⟩)),(1,(.one ⟨false,[(.val (.int .i64 y1))]⟩))]
def aeo:iF→List (Nat×Entry)
 |(_,_,y2)=> [(0,(.row false 2 axl y2))]
def aeM:Nat→iF→List (Nat×SV)
 |0,(_,_,_)=> [(4,(.one ⟨false,[(.val (.int .i64 (tz)))]⟩))]
 |_,(_,y1,_)=> [(1,(.one ⟨false,[(.val (.int .i64 y1))]⟩))]
def aeE:Nat→iF→List (Nat×Entry)
 |0,(_,_,y2)=> [(0,(.row false 2 axl y2))]
 |_,(_,_,y2)=> [(0,(.row false 2 axl y2))]
def wZ:iF→LT iF
 |(y0,y1,y2)=> .ite (tx y0 y2) (.need [(yY y0),(tx y0 y2),(yZ y0 y2)] (.ite (za y0 y1 y2) (.ext 0 [(0,0)]) (.nrm ((zb y0),(zc y1),y2) [(0,0)]))) (.ext 1 [(0,0)])
def LW(s:St):Option iF:=
 (match s.look 5 with
 |some ⟨none,(.one ⟨false,[(.val (.int .i64 y0))]⟩)⟩=>
 (match s.look 0 with
 |some ⟨none,(.one ⟨false,[(.ref 0)]⟩)⟩=>
 (match s.look 1 with
 |some ⟨none,(.one ⟨false,[(.val (.int .i64 y1))]⟩)⟩=>
 (match s.ent 0 with
 |some (.row false 2 (.int .i64) y2)=>
 some (y0,y1,y2)
 |_=>none)
 |_=>none)
 |_=>none)
 |_=>none)
def bV:Lp iF where
 h:=⟨[6,7,8,9,12,13,14,15,16,17,4,18,19,1,10,11,5],[0],[],[]⟩
 JL:=aew
 JE:=aeo
 XL:=aeM
 XE:=aeE
 q:=fun j=>match j with | 0=> .ret | _=> .exit 0
 tags:= [0,1]
 lt:=wZ
 fuel:=fun(y0,y1,y2)=>y0.natAbs + y1.natAbs + y2.length
 fix:=fun(_,_,y2) (y0,y1,_)=>(y0,y1,y2)
 σ:= [(0,0)]
 rd:=LW
theorem acq:LoopOk Tryz.prog (fun k=>Nat.blt k Tryz.f49.ntmps) bV.F (au Tryz.f49 0):=by
 refine Lp.ok (tbl:= []) (lf:= []) aq bV (by kernel_rfl) (LOk.nil _) (fun _=>rfl) (fun j _=>by unfold bV;match j with | 0=>rfl | _ + 1=>rfl) ?_ ?_ ?_ ?_ (fun _=>rfl) ?_
 ·rintro⟨y0,y1,y2⟩;kernel_rfl
 ·rintro⟨y0,y1,y2⟩;kernel_rfl
 ·intro s x h
  have h:LW s=some x:=h
  unfold LW at h
  repeat' split at h
  all_goals cases h
  exact⟨aa (by assumption) rfl (aa (by assumption) rfl (aa (by assumption) rfl (rfl))),ab rfl (by assumption) rfl (rfl)⟩
 ·rintro⟨y0,y1,y2⟩;kernel_rfl
 ·rintro⟨y0,y1,y2⟩ z;exact(And.intro (And.intro trivial rfl) trivial)
section
variable (x0:Int)(x1:List Int)
def DR:Int×Int×List Int:=((0:Int),x0,x1)
def FT:Int:=bif Nat.beq ((Lp.res bV (DR x0 x1)).1) (0:Nat)then tz else ((Lp.res bV (DR x0 x1)).2.2).1
def Mg:Bool:=allT [Lp.fin bV (DR x0 x1)]
end
def ZR:List SV→List Entry→Option Out
 | [.one ⟨false,[.ref 0]⟩,.one ⟨false,[.val (.int .i64 x0)]⟩],[.row false 2 (.int .i64) x1]=>some ⟨(.one ⟨false,[(.val (.int .i64 (FT x0 x1)))]⟩),[(.row false 2 axl x1)],[],[(Mg x0 x1)]⟩
 |_,_=>none
def alA:PF Tryz.prog:=PF.ofG Tryz.prog [] [bV.F] aq 49 Tryz.f49 Tryz.func49 (LOk.fnT (l:= [au Tryz.f49 0]) (by kernel_rfl) (.cons acq (.nil _))) ZR (by
 intro vs es r h;unfold ZR at h;split at h
 ·cases h;kernel_rfl
 ·cases h)
end Go.SX

namespace Go.SX
open Go.Proofs
set_option maxRecDepth 100000
def blk(p:Int):Int:=Int.tdiv p 3
def phs(p:Int):Int:=Int.tmod p 3
def inR(a lo hi:Int):Bool:=leI lo a&&leI a hi
def isT(n:Int)(ps:List Int):Bool:=inR n 2 8&&inR ps.length 1 4&&ps.all fun p=>inR p 0 (3 * n - 1)
def acQ(n p b:Int):Bool:=blk p==b||(phs p==2&&Int.tmod (blk p + 1) n==b)
def adh(n:Int)(ps:List Int)(b:Int):Nat:=ps.countP fun p=>acQ n p b
def eqL(xs ys:List Int):Bool:=decide (xs=ys)
theorem sR{a lo hi:Int}:inR a lo hi=true↔lo≤a∧a≤hi:=by simp [inR]
theorem vK(a lo hi:Int):(bif leI lo a then leI a hi else false)=inR a lo hi:=by
 unfold inR;cases leI lo a <;> rfl
theorem EK{n:Int}{ps:List Int}:isT n ps=true↔(2≤n∧n≤8)∧(1≤ps.length∧ps.length≤4)∧ ∀ p∈ps,0≤p∧p≤3 * n - 1:=by
 simp only [isT,Bool.and_eq_true,sR,List.all_eq_true]
 constructor
 ·rintro⟨⟨h1,h2⟩,h3⟩;exact⟨h1,by omega,h3⟩
 ·rintro⟨h1,h2,h3⟩;exact⟨⟨h1,by omega⟩,h3⟩
def vg(y1 b:Int):(Unit)→Nat ⊕ (Unit)
 |_=>(bif(!aL b (0:Int) (IntKind.wrap .i64 (IntKind.wrap .i64 ((3:Int) * y1) - (1:Int))))then(.inl 0)else(.inr ()))
def qn(y1:Int)(y2:List Int)(i:Nat):(Unit)→jz
 |_=>((i:Int),y1,y2)
def Nf:jz→Unit
 |(_,_,_)=>()
theorem aix(y1:Int)(y2:List Int) (hn:y2.length≤9223372036854775807):
  di.fin ((0:Int),y1,y2)=true∧di.res ((0:Int),y1,y2)=((ae (vg y1) 1 y2 0 ()).1,(qn y1 y2) (ae (vg y1) 1 y2 0 ()).2.1 (ae (vg y1) 1 y2 0 ()).2.2):=by
 have key:=di.along (qn y1 y2) Nf (vg y1) 1 (fun _ _=>True) y2 () (by trivial) (by simp only [di,qn];omega) (fun i b a hb hI=> ?_) (fun a hI=> ?_)
 ·exact key
 ·obtain⟨⟩:=a
  have hlt:=(List.getElem?_eq_some_iff.1 hb).1
  have hget: ∀ d,Option.getD y2[i]? d=b:=fun d=>by rw [hb];rfl
  have hw:=oW hlt hn
  have hdec:ltI (i:Int) (y2.length:Int)=true:=bZ (by omega)
  have hnn:leI (0:Int) (i:Int)=true:=bC (by omega)
  have hltd:ltN i y2.length=true:=cB hlt
  refine⟨?_,?_,?_,?_⟩
  ·simp [vC,BX,BZ,Ca,Cb,zu,di,LT.nds,allT,qn,hdec,hnn,hltd,hget]
  ·simp [vC,BX,BZ,Ca,Cb,zu,di,LT.each,qn,Nf,hw]
  ·simp only [vC,BX,BZ,Ca,Cb,zu,di,LT.fn,qn,Nf,vg,Int.toNat_natCast,hdec,hnn,hltd,hget,cond_true,Bool.cond_self]
  ·exact fun _ _=>trivial
 ·obtain⟨⟩:=a
  simp [vC,BX,BZ,Ca,Cb,zu,di,LT.out,qn]
def fc(y2 b:Int):(Unit)→Nat ⊕ (Unit)
 |_=>(bif(EJ b y2)then(.inl 0)else(.inr ()))
def bQ(y2:Int)(y3:List Int)(i:Nat):(Unit)→bi
 |_=>((i:Int),(↑y3.length:Int),y2,y3)
def qR:bi→Unit
 |(_,_,_,_)=>()
theorem ON(y2:Int)(y3:List Int) (hn:y3.length≤9223372036854775807):
  aA.fin ((0:Int),(↑y3.length:Int),y2,y3)=true∧aA.res ((0:Int),(↑y3.length:Int),y2,y3)=((ae (fc y2) 1 y3 0 ()).1,(bQ y2 y3) (ae (fc y2) 1 y3 0 ()).2.1 (ae (fc y2) 1 y3 0 ()).2.2):=by
 have key:=aA.along (bQ y2 y3) qR (fc y2) 1 (fun _ _=>True) y3 () (by trivial) (by simp only [aA,bQ];omega) (fun i b a hb hI=> ?_) (fun a hI=> ?_)
 ·exact key
 ·obtain⟨⟩:=a
  have hlt:=(List.getElem?_eq_some_iff.1 hb).1
  have hget: ∀ d,Option.getD y3[i]? d=b:=fun d=>by rw [hb];rfl
  have hw:=oW hlt hn
  have hdec:ltI (i:Int) (y3.length:Int)=true:=bZ (by omega)
  have hnn:leI (0:Int) (i:Int)=true:=bC (by omega)
  have hltd:ltN i y3.length=true:=cB hlt
  refine⟨?_,?_,?_,?_⟩
  ·simp [ii,ij,ik,il,im,io,gQ,aA,LT.nds,allT,bQ,hdec,hnn,hltd,hget]
  ·simp [ii,ij,ik,il,im,io,gQ,aA,LT.each,bQ,qR,hw]
  ·simp only [ii,ij,ik,il,im,io,gQ,aA,LT.fn,bQ,qR,fc,Int.toNat_natCast,hdec,hnn,hltd,hget,cond_true,Bool.cond_self]
  ·exact fun _ _=>trivial
 ·obtain⟨⟩:=a
  simp [ii,ij,ik,il,im,io,gQ,aA,LT.out,bQ]
def ta(y1:List Int)(b:Nat):(List Int)→Nat ⊕ (List Int)
 |y2=>(.inr (List.set y2 b (Option.getD y1[b]? (0:Int))))
def nD(y1:List Int)(i:Nat):(List Int)→kb
 |y2=>((i:Int),y1,y2)
def Oy:kb→List Int
 |(_,_,y2)=>y2
theorem akk(y1 y2:List Int)(hn:y1.length≤9223372036854775807)(hl:y2.length=y1.length):
  ff.fin ((0:Int),y1,y2)=true∧ff.res ((0:Int),y1,y2)=((ae (ta y1) 0 (List.range y1.length) 0 y2).1,(nD y1) (ae (ta y1) 0 (List.range y1.length) 0 y2).2.1 (ae (ta y1) 0 (List.range y1.length) 0 y2).2.2):=by
 have key:=ff.along (nD y1) Oy (ta y1) 0 (fun _ a=>a.length=y1.length) (List.range y1.length) y2 hl (by simp only [ff,nD,List.length_range];omega) (fun i b a hb hI=> ?_) (fun a hI=> ?_)
 ·exact key
 ·obtain y2:=a
  obtain⟨rfl,hlt⟩:=eu hb
  have hw:IntKind.i64.wrap ((b:Int) + 1)=((b + 1:Nat):Int):=by rw [aw (by omega) (by omega)];omega
  have hdec:ltI (b:Int) (y1.length:Int)=true:=bZ (by omega)
  have hnn:leI (0:Int) (b:Int)=true:=bC (by omega)
  have hltd:ltN b y1.length=true:=cB (by omega)
  refine⟨?_,?_,?_,?_⟩
  ·simp [xH,xI,DX,DY,DZ,Ea,Eb,BP,ff,LT.nds,allT,nD,hdec,hnn,hltd,hI]
  ·simp [xH,xI,DX,DY,DZ,Ea,Eb,BP,ff,LT.each,nD,Oy,hw,hI]
  ·simp only [xH,xI,DX,DY,DZ,Ea,Eb,BP,ff,LT.fn,nD,Oy,ta,Int.toNat_natCast,hdec,cond_true]
  ·intro a' hf;simp only [ta,Sum.inr.injEq]at hf;subst hf;simpa using hI
 ·obtain y2:=a
  simp [xH,xI,DX,DY,DZ,Ea,Eb,BP,ff,LT.out,nD,List.length_range]
def Db(y1 y2:List Int)(b:Nat):(Unit)→Nat ⊕ (Unit)
 |_=>(bif(Option.getD y1[b]? (0:Int)!=Option.getD y2[b]? (0:Int))then(.inl 0)else(.inr ()))
def rC(y1 y2:List Int)(i:Nat):(Unit)→ka
 |_=>((i:Int),y1,y2)
def Ox:ka→Unit
 |(_,_,_)=>()
theorem akj(y1 y2:List Int) (hn:y1.length≤9223372036854775807) (he:y2.length=y1.length):
  dT.fin ((0:Int),y1,y2)=true∧dT.res ((0:Int),y1,y2)=((ae (Db y1 y2) 1 (List.range y1.length) 0 ()).1,(rC y1 y2) (ae (Db y1 y2) 1 (List.range y1.length) 0 ()).2.1 (ae (Db y1 y2) 1 (List.range y1.length) 0 ()).2.2):=by
 have key:=dT.along (rC y1 y2) Ox (Db y1 y2) 1 (fun _ _=>True) (List.range y1.length) () (by trivial) (by simp only [dT,rC,List.length_range];omega) (fun i b a hb hI=> ?_) (fun a hI=> ?_)
 ·exact key
 ·obtain⟨⟩:=a
  obtain⟨rfl,hlt⟩:=eu hb
  have hw:IntKind.i64.wrap ((b:Int) + 1)=((b + 1:Nat):Int):=by rw [aw (by omega) (by omega)];omega
  have hdec:ltI (b:Int) (y1.length:Int)=true:=bZ (by omega)
  have hnn:leI (0:Int) (b:Int)=true:=bC (by omega)
  have hltd:ltN b y1.length=true:=cB (by omega)
  refine⟨?_,?_,?_,?_⟩
  ·simp [xB,xC,DL,DM,DN,DO,DP,BO,dT,LT.nds,allT,rC,hdec,hnn,hltd,he]
  ·simp [xB,xC,DL,DM,DN,DO,DP,BO,dT,LT.each,rC,Ox,hw,he]
  ·simp only [xB,xC,DL,DM,DN,DO,DP,BO,dT,LT.fn,rC,Ox,Db,Int.toNat_natCast,hdec,cond_true]
  ·exact fun _ _=>trivial
 ·obtain⟨⟩:=a
  simp [xB,xC,DL,DM,DN,DO,DP,BO,dT,LT.out,rC,List.length_range]
def pD(b:Nat):(Int×List Int)→Nat ⊕ (Int×List Int)
 |(y1,y2)=>(.inr ((IntKind.wrap .i64 (y1 + (1:Int))),(List.set y2 b y1)))
def je(i:Nat):(Int×List Int)→iG
 |(y1,y2)=>((i:Int),y1,y2)
def LO:iG→Int×List Int
 |(_,y1,y2)=>(y1,y2)
theorem aho(y1:Int)(y2:List Int)(n:Nat)(hl:y2.length=n)(hn:n≤9223372036854775807):
  dp.fin ((0:Int),y1,y2)=true∧dp.res ((0:Int),y1,y2)=((ae (pD) 0 (List.range n) 0 (y1,y2)).1,(je) (ae (pD) 0 (List.range n) 0 (y1,y2)).2.1 (ae (pD) 0 (List.range n) 0 (y1,y2)).2.2):=by
 have key:=dp.along (je) LO (pD) 0 (fun _ a=>a.2.length=n) (List.range n) (y1,y2) hl (by simp only [dp,je,List.length_range];omega) (fun i b a hb hI=> ?_) (fun a hI=> ?_)
 ·exact key
 ·obtain⟨y1,y2⟩:=a
  obtain⟨rfl,hlt⟩:=eu hb
  have hI0:y2.length=n:=hI
  have hw:IntKind.i64.wrap ((b:Int) + 1)=((b + 1:Nat):Int):=by rw [aw (by omega) (by omega)];omega
  have hdec:ltI (b:Int) (y2.length:Int)=true:=bZ (by omega)
  have hnn:leI (0:Int) (b:Int)=true:=bC (by omega)
  have hltd:ltN b y2.length=true:=cB (by omega)
  refine⟨?_,?_,?_,?_⟩
  ·simp [tE,zd,ze,zf,zg,zh,xa,dp,LT.nds,allT,je,hdec,hnn,hltd]
  ·simp [tE,zd,ze,zf,zg,zh,xa,dp,LT.each,je,LO,hw]
  ·simp only [tE,zd,ze,zf,zg,zh,xa,dp,LT.fn,je,LO,pD,Int.toNat_natCast,hdec,hnn,hltd,cond_true,Bool.cond_self]
  ·intro a' hf;simp only [pD,Sum.inr.injEq]at hf;subst hf;simp [hI0]
 ·obtain⟨y1,y2⟩:=a
  have hI0:y2.length=n:=hI
  simp [tE,zd,ze,zf,zg,zh,xa,dp,LT.out,je,hI0,List.length_range]
def tv(b:Int):(Int)→Nat ⊕ (Int)
 |y1=>(bif(b !=y1)then(.inl 0)else(.inr (IntKind.wrap .i64 (y1 + (1:Int)))))
def kN(y2:List Int)(i:Nat):(Int)→iF
 |y1=>((i:Int),y1,y2)
def LN:iF→Int
 |(_,y1,_)=>y1
theorem VF(y2:List Int)(y1:Int)(hn:y2.length≤9223372036854775807):
  bV.fin ((0:Int),y1,y2)=true∧bV.res ((0:Int),y1,y2)=((ae (tv) 1 y2 0 y1).1,(kN y2) (ae (tv) 1 y2 0 y1).2.1 (ae (tv) 1 y2 0 y1).2.2):=by
 have key:=bV.along (kN y2) LN (tv) 1 (fun _ _=>True) y2 y1 (by trivial) (by simp only [bV,kN];omega) (fun i b a hb hI=> ?_) (fun a hI=> ?_)
 ·exact key
 ·obtain y1:=a
  have hlt:=(List.getElem?_eq_some_iff.1 hb).1
  have hget: ∀ d,Option.getD y2[i]? d=b:=fun d=>by rw [hb];rfl
  have hw:=oW hlt hn
  have hdec:ltI (i:Int) (y2.length:Int)=true:=bZ (by omega)
  have hnn:leI (0:Int) (i:Int)=true:=bC (by omega)
  have hltd:ltN i y2.length=true:=cB hlt
  refine⟨?_,?_,?_,?_⟩
  ·simp [tx,yY,yZ,za,tz,zb,zc,wZ,bV,LT.nds,allT,kN,hdec,hnn,hltd,hget]
  ·simp [tx,yY,yZ,za,tz,zb,zc,wZ,bV,LT.each,kN,LN,hw]
  ·simp only [tx,yY,yZ,za,tz,zb,zc,wZ,bV,LT.fn,kN,LN,tv,Int.toNat_natCast,hdec,hnn,hltd,hget,cond_true,Bool.cond_self]
  ·exact fun _ _=>trivial
 ·obtain y1:=a
  simp [tx,yY,yZ,za,tz,zb,zc,wZ,bV,LT.out,kN]
theorem auI(xs:List Int)(hn:leN xs.length 1048576=true):PG xs=xs∧PH xs=true:=by
 have hn:=bT.1 hn
 have hr:(List.replicate (Int.toNat (xs.length:Int)) (0:Int)).length=xs.length:=by simp
 obtain⟨w1,w2⟩:=akk xs (List.replicate (Int.toNat (xs.length:Int)) (0:Int)) (by omega) hr
 have hc:=Og (xs:=xs) (d:=(0:Int)) (g:=fun x=>x) (f:=ta xs) (e:=0) (fun b a=>rfl) hr
 rw [hc]at w2
 refine⟨?_,?_⟩
 ·simp only [Ob,PG,PH,w2,nD];simp
 ·simp only [Ob,PG,PH,w1,allT];simp;omega
def aec:List SV→List Entry→Option Out
 | [.one ⟨false,[.ref 0]⟩],[.row false 2 (.int .i64) x0]=>some ⟨(.one ⟨false,[(.ref 1)]⟩),[(.row false 2 axl x0)],[(.row true 2 axl x0)],[leN x0.length 1048576]⟩
 |_,_=>none
def sU:PF Tryz.prog:=PF.alt anZ aec (by
 intro args es o h hnd;unfold aec at h;split at h
 ·rename_i x0
  cases h
  have hnd:=bY hnd
  have hh:=auI x0 hnd
  obtain⟨e0,en⟩:=hh
  exact ek rfl (cg en) rfl rfl (by simp only [e0] <;> rfl)
 ·cases h)
theorem at9(xs ys:List Int)(hn:leN xs.length 9223372036854775807=true):Pz xs ys=eqL xs ys∧PA xs ys=true:=by
 have hn:=bT.1 hn
 unfold eqL
 by_cases hl:ys.length=xs.length
 ·obtain⟨w1,w2⟩:=akj xs ys hn hl
  have ha:=ajK (d:=(0:Int)) hl (P:=fun b=>Option.getD xs[b]? 0 !=Option.getD ys[b]? 0) (fun b=>by simp [bne,BEq.beq])
  rw [jp (P:=fun b=>Option.getD xs[b]? 0 !=Option.getD ys[b]? 0) (j:=0) (fun b=>rfl),ha]at w2
  simp only [NW,NX,Pz,PA,w1,w2,allT]
  by_cases he:xs=ys
  ·subst he;simp;decide
  ·simp [he,hl]
 ·have hne:xs≠ys:=fun h=>hl (by rw [h])
  simp [NW,NX,Pz,PA,allT,hne]
  omega
def ad8:List SV→List Entry→Option Out
 | [.one ⟨false,[.ref 0]⟩,.one ⟨false,[.ref 1]⟩],[.row false 2 (.int .i64) x0,.row false 2 (.int .i64) x1]=>some ⟨(.one ⟨false,[(.val (.bool (eqL x0 x1)))]⟩),[(.row false 2 axl x0),(.row false 2 axl x1)],[],[leN x0.length 9223372036854775807]⟩
 |_,_=>none
def kX:PF Tryz.prog:=PF.alt anV ad8 (by
 intro args es o h hnd;unfold ad8 at h;split at h
 ·rename_i x0 x1
  cases h
  have hnd:=bY hnd
  have hh:=at9 x0 x1 hnd
  obtain⟨e0,en⟩:=hh
  exact ek rfl (cg en) (by simp only [e0] <;> rfl) rfl rfl
 ·cases h)
def Rp(k:Int)(n:Nat):Bool:=leI 0 k&&leI (k + n) 9223372036854775807
theorem BT{k:Int}{n:Nat}:Rp k n=true↔0≤k∧k + n≤9223372036854775807:=by simp [Rp]
theorem ar2(k:Int)(xs:List Int)(h:Rp k xs.length=true):FU k xs=k + xs.length∧FV k xs=sN k xs.length∧FW k xs=true:=by
 obtain⟨h0,h1⟩:=BT.1 h
 obtain⟨w1,w2⟩:=aho k xs xs.length rfl (by omega)
 rw [auJ (f:=pD) (fun b k xs=>rfl) h0 h1]at w2
 refine⟨?_,?_,?_⟩
 ·simp only [DV,DW,FU,FV,FW,w2,je]
 ·simp only [DV,DW,FU,FV,FW,w2,je]
 ·simp only [DV,DW,FU,FV,FW,w1,allT,cond_true]
def aad:List SV→List Entry→Option Out
 | [.one ⟨false,[.ref 0]⟩,.one ⟨false,[.val (.int .i64 x0)]⟩],[.row true 2 (.int .i64) x1]=>some ⟨(.one ⟨false,[(.val (.int .i64 (x0 + (x1.length:Int))))]⟩),[(.row true 2 axl (sN x0 x1.length))],[],[Rp x0 x1.length]⟩
 |_,_=>none
def iS:PF Tryz.prog:=PF.alt alB aad (by
 intro args es o h hnd;unfold aad at h;split at h
 ·rename_i x0 x1
  cases h
  have hnd:=bY hnd
  have hh:=ar2 x0 x1 hnd
  obtain⟨e0,e1,en⟩:=hh
  exact ek rfl (cg en) (by simp only [e0] <;> rfl) (by simp only [e1] <;> rfl) rfl
 ·cases h)
def RB(k:Int)(xs:List Int):Int:=FT k xs
theorem aoA(k:Int)(n:Nat)(h:Rp k n=true):RB k (sN k n)=k + n:=by
 obtain⟨h0,h1⟩:=BT.1 h
 obtain⟨w1,w2⟩:=VF (sN k n) k (by rw [Ll];omega)
 rw [aqz (f:=tv) (fun b k=>rfl) h0 h1]at w2
 simp only [RB,DR,FT,Mg,w2,kN]
 rfl
theorem arI(k:Int)(xs:List Int)(h:leN xs.length 9223372036854775807=true):FT k xs=RB k xs∧Mg k xs=true:=by
 obtain⟨w1,w2⟩:=VF xs k (bT.1 h)
 exact⟨rfl,by simp only [DR,FT,Mg,w1,allT,cond_true]⟩
def aac:List SV→List Entry→Option Out
 | [.one ⟨false,[.ref 0]⟩,.one ⟨false,[.val (.int .i64 x0)]⟩],[.row false 2 (.int .i64) x1]=>some ⟨(.one ⟨false,[(.val (.int .i64 (RB x0 x1)))]⟩),[(.row false 2 axl x1)],[],[leN x1.length 9223372036854775807]⟩
 |_,_=>none
def iR:PF Tryz.prog:=PF.alt alA aac (by
 intro args es o h hnd;unfold aac at h;split at h
 ·rename_i x0 x1
  cases h
  have hnd:=bY hnd
  have hh:=arI x0 x1 hnd
  obtain⟨e0,en⟩:=hh
  exact ek rfl (cg en) (by simp only [e0] <;> rfl) rfl rfl
 ·cases h)
def szV(k:Int)(xs:List Int):Int:=bif ltI (k - xs.length) 0 then -1 else k - xs.length
theorem auF(k:Int)(xs:List Int)(h:(leN xs.length 9223372036854775807&&(leI (-1) k&&leI k 1048576))=true):We k xs=szV k xs:=by
 simp only [Bool.and_eq_true,bT,Sg]at h
 simp only [Uk,We,szV]
 rw [aw (by omega) (by omega)]
def aeb:List SV→List Entry→Option Out
 | [.one ⟨false,[.ref 0]⟩,.one ⟨false,[.val (.int .i64 x0)]⟩],[.row false 2 (.int .i64) x1]=>some ⟨(.one ⟨false,[(.val (.int .i64 (szV x0 x1)))]⟩),[(.row false 2 axl x1)],[],[leN x1.length 9223372036854775807&&(leI (-1) x0&&leI x0 1048576)]⟩
 |_,_=>none
def sT:PF Tryz.prog:=PF.alt anY aeb (by
 intro args es o h hnd;unfold aeb at h;split at h
 ·rename_i x0 x1
  cases h
  have hnd:=bY hnd
  have hh:=auF x0 x1 hnd
  have e0:=hh
  exact ek rfl (fun _ h=>by cases h) (by simp only [e0] <;> rfl) rfl rfl
 ·cases h)
theorem anz{n:Int}(h:2≤n∧n≤8):IntKind.i64.wrap (IntKind.i64.wrap (3 * n) - 1)=3 * n - 1:=by
 rw [aw (x:=3 * n) (by omega) (by omega),aw (by omega) (by omega)]
theorem atx(n:Int)(ps:List Int):UK n ps=isT n ps∧UL n ps=true:=by
 simp only [SM,SN,UK,UL,aL,vK,isT]
 cases h1:inR n 2 8 with
 |false=>simp [allT]
 |true=>
  cases h2:inR (ps.length:Int) 1 4 with
  |false=>simp [allT]
  |true=>
   have h2':=sR.1 h2
   obtain⟨w1,w2⟩:=aix n ps (by omega)
   rw [jp (P:=fun b=> !inR b 0 (3 * n - 1)) (j:=0) (fun b=>by simp only [vg,anz (sR.1 h1),aL,vK])]at w2
   have e5:(ps.any fun b=> !inR b 0 (3 * n - 1))= !(ps.all fun b=>inR b 0 (3 * n - 1)):=by simp [List.all_eq_not_any_not]
   rw [e5]at w2
   simp only [w1,w2,allT]
   cases (ps.all fun b=>inR b 0 (3 * n - 1)) <;> simp <;> rfl
def ab3:List SV→List Entry→Option Out
 | [.one ⟨true,[.val (.int .i64 x0),.ref 0]⟩],[.row false 2 (.int .i64) x1]=>some ⟨(.one ⟨false,[(.val (.bool (isT x0 x1)))]⟩),[(.row false 2 axl x1)],[],[]⟩
 |_,_=>none
def CF:PF Tryz.prog:=PF.alt amV ab3 (by
 intro args es o h hnd;unfold ab3 at h;split at h
 ·rename_i x0 x1
  cases h
  have hh:=atx x0 x1
  obtain⟨e0,en⟩:=hh
  exact ek rfl (cg en) (by simp only [e0] <;> rfl) rfl rfl
 ·cases h)
theorem arA(n:Int)(h:2≤n∧n≤8)(ps:List Int)(hn:ps.length≤9223372036854775807):
  kU ps n=(ps.any fun b=> !inR b 0 (3 * n - 1))∧kV ps n=true:=by
 obtain⟨w1,w2⟩:=ON n ps hn
 rw [jp (P:=fun b=> !inR b 0 (3 * n - 1)) (j:=0) (fun b=>by simp only [fc,EJ,anz h,ba,vK])]at w2
 simp only [kU,BV,kV,mC,tg,uf,ug,uh,w1,w2,allT,cond_true,and_true,bQ]
 cases (ps.any fun b=> !inR b 0 (3 * n - 1))with
 |true=>exact bC (Int.natCast_nonneg _)
 |false=>rfl
theorem as7(n:Int)(ps:List Int):TN n ps=isT n ps∧TO n ps=true:=by
 simp only [RD,TN,TO,Om,ba,cY,vK,isT]
 cases h1:inR n 2 8 with
 |false=>simp [allT]
 |true=>
  cases h2:inR (ps.length:Int) 1 4 with
  |false=>simp [allT]
  |true=>
   have h2':=sR.1 h2
   obtain⟨c1,c2⟩:=arA n (sR.1 h1) ps (by omega)
   simp only [c1,c2,allT]
   simp [List.all_eq_not_any_not]
def abO:List SV→List Entry→Option Out
 | [.one ⟨true,[.val (.int .i64 x0),.ref 0]⟩],[.row false 2 (.int .i64) x1]=>some ⟨(.one ⟨false,[(.val (.bool (isT x0 x1)))]⟩),[(.row false 2 axl x1)],[],[]⟩
 |_,_=>none
def CB:PF Tryz.prog:=PF.alt amE abO (by
 intro args es o h hnd;unfold abO at h;split at h
 ·rename_i x0 x1
  cases h
  have hh:=as7 x0 x1
  obtain⟨e0,en⟩:=hh
  exact ek rfl (cg en) (by simp only [e0] <;> rfl) rfl rfl
 ·cases h)
def Oj(ps:List Int)(t:Int):Bool:=inR t 0 ((ps.length:Int) - 1)
theorem XK{ps:List Int}{t:Int}:Oj ps t=true↔0≤t∧t < ps.length:=by
 rw [Oj,sR];omega
theorem arH(t:Int)(ps:List Int)(h:leN ps.length 9223372036854775807=true):lQ t ps=Oj ps t:=by
 have h:=bT.1 h
 simp only [lQ,ba,cY,Oj,vK]
 rw [aw (x:=(ps.length:Int) - 1) (by omega) (by omega)]
def ul:List SV→List Entry→Option Out
 | [.one ⟨true,[.val (.int .i64 _x0),.ref 0]⟩,.one ⟨false,[.val (.int .i64 x1)]⟩],[.row false 2 (.int .i64) x2]=>some ⟨(.one ⟨false,[(.val (.bool (Oj x2 x1)))]⟩),[(.row false 2 axl x2)],[],[leN x2.length 9223372036854775807]⟩
 |_,_=>none
def lR:PF Tryz.prog:=PF.alt Kd ul (by
 intro args es o h hnd;unfold ul at h;split at h
 ·rename_i _x0 x1 x2
  cases h
  have hnd:=bY hnd
  have hh:=arH x1 x2 hnd
  have e0:=hh
  exact ek rfl (fun _ h=>by cases h) (by simp only [e0] <;> rfl) rfl rfl
 ·cases h)
theorem auO(xs:List Int)(h:(leN 1 xs.length&&leN xs.length 1048576)=true):Em xs=true:=by
 simp only [Bool.and_eq_true,bT]at h
 simp [Em,allT]
 omega
def MH:List SV→List Entry→Option Out
 | [.one ⟨false,[.ref 0]⟩],[.row false 2 (.int .i64) x0]=>some ⟨(.one ⟨false,[(.ref 1)]⟩),[(.row false 2 axl x0)],[(.row true 2 axl x0)],[leN 1 x0.length&&leN x0.length 1048576]⟩
 |_,_=>none
def ai:PF Tryz.prog:=PF.alt Yz MH (by
 intro args es o h hnd;unfold MH at h;split at h
 ·rename_i x0
  cases h
  have hnd:=bY hnd
  have hh:=auO x0 hnd
  have en:=hh
  exact ek rfl (cg en) rfl rfl rfl
 ·cases h)
theorem awy(xs:List Int)(h:leN xs.length 1048576=true):abe xs=true:=by
 have h:=bT.1 h
 simp [abe,allT]
 omega
def aiY:List SV→List Entry→Option Out
 | [.one ⟨false,[.ref 0]⟩],[.row false 2 (.int .i64) x0]=>some ⟨(.one ⟨false,[(.ref 1)]⟩),[(.row false 2 axl x0)],[(.row true 2 axl x0)],[leN x0.length 1048576]⟩
 |_,_=>none
def qr:PF Tryz.prog:=PF.alt apN aiY (by
 intro args es o h hnd;unfold aiY at h;split at h
 ·rename_i x0
  cases h
  have hnd:=bY hnd
  have hh:=awy x0 hnd
  have en:=hh
  exact ek rfl (cg en) rfl rfl rfl
 ·cases h)
def okP(n p:Int):Bool:=inR n 2 8&&inR p 0 (3 * n - 1)
theorem aod{n p:Int}:okP n p=true↔(2≤n∧n≤8)∧0≤p∧p≤3 * n - 1:=by simp [okP,sR]
theorem an9{n:Int}{ps:List Int}(h:isT n ps=true){p:Int}(hp:p∈ps):okP n p=true:=by
 obtain⟨h1,_,h3⟩:=EK.1 h
 exact aod.2 ⟨h1,h3 p hp⟩
theorem al6{p:Int}(h:0≤p):blk p=p / 3:=by rw [blk,Int.tdiv_eq_ediv_of_nonneg h]
theorem awi(n p b:Int)(h:okP n p=true):YS n p b=acQ n p b∧SU n p b=true:=by
 obtain⟨⟨h1,h2⟩,h3,h4⟩:=aod.1 h
 have e1:IntKind.i64.wrap (Int.tdiv p 3)=blk p:=by
  rw [Int.tdiv_eq_ediv_of_nonneg h3,al6 h3,aw (by omega) (by omega)]
 have e2:IntKind.i64.wrap (blk p + 1)=blk p + 1:=by rw [al6 h3,aw (by omega) (by omega)]
 refine⟨?_,?_⟩
 ·simp only [Le,PP,YS,SU,e1,e2,acQ,phs]
  cases (blk p==b) <;> cases (Int.tmod p 3==2) <;> simp
 ·have hn:neI n 0=true:=aqe (by omega)
  simp [SU,allT,hn]
def af3:List SV→List Entry→Option Out
 | [.one ⟨false,[.val (.int .i64 x0)]⟩,.one ⟨false,[.val (.int .i64 x1)]⟩,.one ⟨false,[.val (.int .i64 x2)]⟩],[]=>some ⟨(.one ⟨false,[(.val (.bool (acQ x0 x1 x2)))]⟩),[],[],[okP x0 x1]⟩
 |_,_=>none
def agT:PF Tryz.prog:=PF.alt ao5 af3 (by
 intro args es o h hnd;unfold af3 at h;split at h
 ·rename_i x0 x1 x2
  cases h
  have hnd:=bY hnd
  have hh:=awi x0 x1 x2 hnd
  obtain⟨e0,en⟩:=hh
  exact ek rfl (cg en) (by simp only [e0] <;> rfl) rfl rfl
 ·cases h)
end Go.SX

namespace Go.SX
open Go.Proofs
set_option maxRecDepth 100000
def fP(x1:List Int):Bool:=allT [leN (1:Nat) x1.length&&leN x1.length (1048576:Nat)]
def wo:List SV→List Entry→Option Out
 | [.one ⟨true,[.val (.int .i64 x0),.ref 0]⟩],[.row false 2 (.int .i64) x1]=>some ⟨(.one ⟨true,[(.val (.int .i64 x0)),(.ref 1)]⟩),[(.row false 2 axl x1)],[(.row true 2 axl x1)],[(fP x1)]⟩
 |_,_=>none
def bg:PF Tryz.prog:=PF.ofG Tryz.prog [ai,PF.lend ai,PF.fz ai] [] aq 146 Tryz.f146 Tryz.func146 (fun c _=>LOk.nil c) wo (by
 intro vs es r h;unfold wo at h;split at h
 ·cases h;kernel_rfl
 ·cases h)
section
variable (x0 x1:Int)(x2:List Int)
def iQ:Int:=IntKind.wrap .i64 ((3:Int) * x0)
def i8:List Int:=List.set x2 x1.toNat (Int.tmod (IntKind.wrap .i64 (Option.getD x2[Int.toNat x1]? (0:Int) + (1:Int))) (iQ x0))
def i9:Bool:=allT [fP x2,leI (0:Int) x1,ltI x1 (↑x2.length:Int),ltN x1.toNat x2.length,neI (iQ x0) (0:Int),leI (0:Int) x1,ltI x1 (↑x2.length:Int),ltN x1.toNat x2.length]
end
def wq:List SV→List Entry→Option Out
 | [.one ⟨true,[.val (.int .i64 x0),.ref 0]⟩,.one ⟨false,[.val (.int .i64 x1)]⟩],[.row false 2 (.int .i64) x2]=>some ⟨(.one ⟨true,[(.val (.int .i64 x0)),(.ref 1)]⟩),[(.row false 2 axl x2)],[(.row true 2 axl (i8 x0 x1 x2))],[(i9 x0 x1 x2)]⟩
 |_,_=>none
def LK:PF Tryz.prog:=PF.ofG Tryz.prog [bg,PF.lend bg,PF.fz bg] [] aq 204 Tryz.f204 Tryz.func204 (fun c _=>LOk.nil c) wq (by
 intro vs es r h;unfold wq at h;split at h
 ·cases h;kernel_rfl
 ·cases h)
abbrev kd:=Int×Int×Int×Int×List Int
section
variable (y0 y1 y2 y3:Int)(y4:List Int)
def vD:Int:=Option.getD y4[Int.toNat y0]? (0:Int)
def xP:Bool:=ltI y0 (↑y4.length:Int)
def Er:Bool:=leI (0:Int) y0
def Es:Bool:=ltN y0.toNat y4.length
def Et:Bool:=okP y3 (vD y0 y4)
def Eu:Int:=IntKind.wrap .i64 (y0 + (1:Int))
def Ev:Int:=bif acQ y3 (vD y0 y4) y1 then IntKind.wrap .i64 (y2 + (1:Int))else y2
end
def ahT:kd→List (Nat×SV)
 |(y0,y1,y2,_,_)=> [(6,(.one ⟨false,[(.val (.int .i64 y0))]⟩)),(2,(.one ⟨false,[(.ptr 0 0)]⟩)),(1,(.one ⟨false,[(.val (.int .i64 y1))]⟩)),(5,(.one ⟨false,[(.val (.int .i64 y2))]⟩))]
def ahK:kd→List (Nat×Entry)
 |(_,_,_,y3,y4)=> [(0,(.box 26 [(.val (.int .i64 y3)),(.ref 1)])),(1,(.row false 2 axl y4))]
def aib:Nat→kd→List (Nat×SV)
 |_,(_,_,y2,_,_)=> [(5,(.one ⟨false,[(.val (.int .i64 y2))]⟩))]
def ah2:Nat→kd→List (Nat×Entry)
 |_,(_,_,_,y3,y4)=> [(0,(.box 26 [(.val (.int .i64 y3)),(.ref 1)])),(1,(.row false 2 axl y4))]
def BR:kd→LT kd
 |(y0,y1,y2,y3,y4)=> .ite (xP y0 y4) (.need [(Er y0),(xP y0 y4),(Es y0 y4),(Et y0 y3 y4)] (.nrm ((Eu y0),y1,(Ev y0 y1 y2 y3 y4),y3,y4) [(0,0),(1,1)])) (.ext 0 [(0,0),(1,1)])
def OJ(s:St):Option kd:=
 (match s.look 6 with
 |some ⟨none,(.one ⟨false,[(.val (.int .i64 y0))]⟩)⟩=>
 (match s.look 2 with
 |some ⟨none,(.one ⟨false,[(.ptr 128 0)]⟩)⟩=>
 (match s.look 1 with
 |some ⟨none,(.one ⟨false,[(.val (.int .i64 y1))]⟩)⟩=>
 (match s.look 5 with
 |some ⟨none,(.one ⟨false,[(.val (.int .i64 y2))]⟩)⟩=>
 (match s.ent 128 with
 |some (.box 26 [(.val (.int .i64 y3)),(.ref 0)])=>
 (match s.ent 0 with
 |some (.row false 2 (.int .i64) y4)=>
 some (y0,y1,y2,y3,y4)
 |_=>none)
 |_=>none)
 |_=>none)
 |_=>none)
 |_=>none)
 |_=>none)
def fg:Lp kd where
 h:=⟨[7,8,9,10,11,14,15,16,17,18,19,20,21,22,23,24,5,12,13,6],[0,1],[],[]⟩
 JL:=ahT
 JE:=ahK
 XL:=aib
 XE:=ah2
 q:=fun j=>match j with | _=> .exit 0
 tags:= [0]
 lt:=BR
 fuel:=fun(y0,y1,y2,y3,y4)=>y0.natAbs + y1.natAbs + y2.natAbs + y3.natAbs + y4.length
 fix:=fun(_,y1,_,y3,y4) (y0,_,y2,_,_)=>(y0,y1,y2,y3,y4)
 σ:= [(0,128),(1,0)]
 rd:=OJ
theorem aeZ:LoopOk Tryz.prog (fun k=>Nat.blt k Tryz.f175.ntmps) fg.F (au Tryz.f175 0):=by
 refine Lp.ok (tbl:= [agT]) (lf:= []) aq fg (by kernel_rfl) (LOk.nil _) (fun _=>rfl) (fun _ _=>rfl) ?_ ?_ ?_ ?_ (fun _=>rfl) ?_
 ·rintro⟨y0,y1,y2,y3,y4⟩;kernel_rfl
 ·rintro⟨y0,y1,y2,y3,y4⟩;kernel_rfl
 ·intro s x h
  have h:OJ s=some x:=h
  unfold OJ at h
  repeat' split at h
  all_goals cases h
  exact⟨aa (by assumption) rfl (aa (by assumption) rfl (aa (by assumption) rfl (aa (by assumption) rfl (rfl)))),ab rfl (by assumption) rfl (ab rfl (by assumption) rfl (rfl))⟩
 ·rintro⟨y0,y1,y2,y3,y4⟩;kernel_rfl
 ·rintro⟨y0,y1,y2,y3,y4⟩ z;exact(And.intro rfl trivial)
section
variable (x0 x1:Int)(x2:List Int)
def Oe:Int×Int×Int×Int×List Int:=((0:Int),x1,(0:Int),x0,x2)
def PM:Int:=((Lp.res fg (Oe x0 x1 x2)).2.2.2).1
def PN:Bool:=allT [Lp.fin fg (Oe x0 x1 x2)]
end
def ad2:List SV→List Entry→Option Out
 | [.one ⟨true,[.val (.int .i64 x0),.ref 0]⟩,.one ⟨false,[.val (.int .i64 x1)]⟩],[.row false 2 (.int .i64) x2]=>some ⟨(.one ⟨false,[(.val (.int .i64 (PM x0 x1 x2)))]⟩),[(.row false 2 axl x2)],[],[(PN x0 x1 x2)]⟩
 |_,_=>none
def an1:PF Tryz.prog:=PF.ofG Tryz.prog [agT] [fg.F] aq 175 Tryz.f175 Tryz.func175 (LOk.fnT (l:= [au Tryz.f175 0]) (by kernel_rfl) (.cons aeZ (.nil _))) ad2 (by
 intro vs es r h;unfold ad2 at h;split at h
 ·cases h;kernel_rfl
 ·cases h)
section
variable (x0 x1:Int)(x2:List Int)
def PO:Int:=IntKind.wrap .i64 ((3:Int) * x0)
def SR:List Int:=List.set x2 x1.toNat (Int.tmod (IntKind.wrap .i64 (Option.getD x2[Int.toNat x1]? (0:Int) + (1:Int))) (PO x0))
def ST:Bool:=allT [leN x2.length (1048576:Nat),leI (0:Int) x1,ltI x1 (↑x2.length:Int),ltN x1.toNat x2.length,neI (PO x0) (0:Int),leI (0:Int) x1,ltI x1 (↑x2.length:Int),ltN x1.toNat x2.length]
end
def afm:List SV→List Entry→Option Out
 | [.one ⟨true,[.val (.int .i64 x0),.ref 0]⟩,.one ⟨false,[.val (.int .i64 x1)]⟩],[.row false 2 (.int .i64) x2]=>some ⟨(.one ⟨true,[(.val (.int .i64 x0)),(.ref 1)]⟩),[(.row false 2 axl x2)],[(.row true 2 axl (SR x0 x1 x2))],[(ST x0 x1 x2)]⟩
 |_,_=>none
def ao4:PF Tryz.prog:=PF.ofG Tryz.prog [qr,PF.lend qr,PF.fz qr] [] aq 178 Tryz.f178 Tryz.func178 (fun c _=>LOk.nil c) afm (by
 intro vs es r h;unfold afm at h;split at h
 ·cases h;kernel_rfl
 ·cases h)
def Ul(x1:Int)(x2:List Int):Int:=bif ltI (szV x1 x2) (0:Int)then(-1:Int)else szV x1 x2
def Um(x1:Int)(x2:List Int):Bool:=allT [leN x2.length (9223372036854775807:Nat)&&(leI (-1:Int) x1&&leI x1 (1048576:Int))]
def abx:List SV→List Entry→Option Out
 | [.one ⟨true,[.val (.int .i64 _x0),.ref 0]⟩,.one ⟨false,[.val (.int .i64 x1)]⟩],[.row false 2 (.int .i64) x2]=>some ⟨(.one ⟨false,[(.val (.int .i64 (Ul x1 x2)))]⟩),[(.row false 2 axl x2)],[],[(Um x1 x2)]⟩
 |_,_=>none
def amP:PF Tryz.prog:=PF.ofG Tryz.prog [sT,PF.lend sT,PF.fz sT] [] aq 104 Tryz.f104 Tryz.func104 (fun c _=>LOk.nil c) abx (by
 intro vs es r h;unfold abx at h;split at h
 ·cases h;kernel_rfl
 ·cases h)
def Up(x1:List Int):Bool:=allT [leN x1.length (1048576:Nat)]
def abA:List SV→List Entry→Option Out
 | [.one ⟨true,[.val (.int .i64 x0),.ref 0]⟩],[.row false 2 (.int .i64) x1]=>some ⟨(.one ⟨true,[(.val (.int .i64 x0)),(.ref 1)]⟩),[(.row false 2 axl x1)],[(.row true 2 axl x1)],[(Up x1)]⟩
 |_,_=>none
def amS:PF Tryz.prog:=PF.ofG Tryz.prog [sU,PF.lend sU,PF.fz sU] [] aq 110 Tryz.f110 Tryz.func110 (fun c _=>LOk.nil c) abA (by
 intro vs es r h;unfold abA at h;split at h
 ·cases h;kernel_rfl
 ·cases h)
def TW(x0 x1:Int)(x2 x3:List Int):Bool:=bif x0 !=x1 then false else bif !eqL x2 x3 then false else true
def TX(x0 x1:Int)(x2:List Int):Bool:=allT [x0 !=x1||leN x2.length (9223372036854775807:Nat)]
def abr:List SV→List Entry→Option Out
 | [.one ⟨true,[.val (.int .i64 x0),.ref 0]⟩,.one ⟨true,[.val (.int .i64 x1),.ref 1]⟩],[.row false 2 (.int .i64) x2,.row false 2 (.int .i64) x3]=>some ⟨(.one ⟨false,[(.val (.bool (TW x0 x1 x2 x3)))]⟩),[(.row false 2 axl x2),(.row false 2 axl x3)],[],[(TX x0 x1 x2)]⟩
 |_,_=>none
def amJ:PF Tryz.prog:=PF.ofG Tryz.prog [kX,PF.lend kX,PF.fz kX] [] aq 116 Tryz.f116 Tryz.func116 (fun c _=>LOk.nil c) abr (by
 intro vs es r h;unfold abr at h;split at h
 ·cases h;kernel_rfl
 ·cases h)
section
variable (x1:Int)(x2:List Int)
def Qc:Int:=x1 + (↑x2.length:Int)
def Qd:List Int:=sN x1 x2.length
def Qe:Bool:=allT [Rp x1 x2.length]
end
def Xt:List SV→List Entry→Option Out
 | [.one ⟨true,[.val (.int .i64 _x0),.ref 0]⟩,.one ⟨false,[.val (.int .i64 x1)]⟩],[.row true 2 (.int .i64) x2]=>some ⟨(.one ⟨false,[(.val (.int .i64 (Qc x1 x2)))]⟩),[(.row true 2 axl (Qd x1 x2))],[],[(Qe x1 x2)]⟩
 |_,_=>none
def aj9:PF Tryz.prog:=PF.ofG Tryz.prog [iS,PF.lend iS,PF.fz iS] [] aq 125 Tryz.f125 Tryz.func125 (fun c _=>LOk.nil c) Xt (by
 intro vs es r h;unfold Xt at h;split at h
 ·cases h;kernel_rfl
 ·cases h)
def Qa(x1:Int)(x2:List Int):Int:=bif ltI (RB x1 x2) (0:Int)then(-1:Int)else RB x1 x2
def Qb(x2:List Int):Bool:=allT [leN x2.length (9223372036854775807:Nat)]
def Xr:List SV→List Entry→Option Out
 | [.one ⟨true,[.val (.int .i64 _x0),.ref 0]⟩,.one ⟨false,[.val (.int .i64 x1)]⟩],[.row false 2 (.int .i64) x2]=>some ⟨(.one ⟨false,[(.val (.int .i64 (Qa x1 x2)))]⟩),[(.row false 2 axl x2)],[],[(Qb x2)]⟩
 |_,_=>none
def aj7:PF Tryz.prog:=PF.ofG Tryz.prog [iR,PF.lend iR,PF.fz iR] [] aq 131 Tryz.f131 Tryz.func131 (fun c _=>LOk.nil c) Xr (by
 intro vs es r h;unfold Xr at h;split at h
 ·cases h;kernel_rfl
 ·cases h)
end Go.SX

namespace Go.SX
open Go.Proofs
set_option maxRecDepth 100000
def amu(n:Int)(ps:List Int)(t:Int):List Int:=ps.set t.toNat (Int.tmod (ps[t.toNat]?.getD 0 + 1) (3 * n))
theorem anv(n:Int)(ps:List Int)(t:Int):(amu n ps t).length=ps.length:=by simp [amu]
theorem avT{n:Int}{ps:List Int}(h:isT n ps=true)(t:Int):isT n (amu n ps t)=true:=by
 obtain⟨h1,h2,h3⟩:=EK.1 h
 refine EK.2 ⟨h1,by rw [anv];exact h2,fun p hp=> ?_⟩
 rcases List.mem_or_eq_of_mem_set hp with hp | rfl
 ·exact h3 p hp
 ·have h0:0≤ps[t.toNat]?.getD 0:=by
   cases hg:ps[t.toNat]? with
   |none=>simp
   |some q=>exact(h3 q (List.mem_of_getElem? hg)).1
  have:=Int.emod_lt_of_pos (ps[t.toNat]?.getD 0 + 1) (show 0 < 3 * n by omega)
  have:=Int.emod_nonneg (ps[t.toNat]?.getD 0 + 1) (show 3 * n≠0 by omega)
  rw [Int.tmod_eq_emod_of_nonneg (by omega)]
  omega
def acz(n:Int)(ps:List Int)(t:Int):Bool:=isT n ps&&Oj ps t
theorem alr{n:Int}{ps:List Int}{t:Int}:acz n ps t=true↔isT n ps=true∧Oj ps t=true:=by simp [acz]
theorem amv{n:Int}{ps:List Int}{t:Int}(h:acz n ps t=true):IntKind.i64.wrap (3 * n)=3 * n∧IntKind.i64.wrap (ps[t.toNat]?.getD 0 + 1)=ps[t.toNat]?.getD 0 + 1∧neI (3 * n) 0=true∧
  leI 0 t=true∧ltI t ps.length=true∧ltN t.toNat ps.length=true∧leN ps.length 1048576=true∧leN 1 ps.length=true:=by
 obtain⟨hT,ht⟩:=alr.1 h
 obtain⟨h1,h2,h3⟩:=EK.1 hT
 have h4:=XK.1 ht
 have hlt:t.toNat < ps.length:=by omega
 have hg:ps[t.toNat]?.getD 0=ps[t.toNat]:=by rw [List.getElem?_eq_getElem hlt];rfl
 have h5:=h3 _ (List.getElem_mem hlt)
 rw [hg]
 exact⟨aw (by omega) (by omega),aw (by omega) (by omega),aqe (by omega),bC h4.1,bZ h4.2,cB hlt,fk (by omega),fk h2.1⟩
theorem asn(n t:Int)(ps:List Int)(h:acz n ps t=true):SR n t ps=amu n ps t∧ST n t ps=true:=by
 obtain⟨e1,e2,e3,e4,e5,e6,e7,e8⟩:=amv h
 refine⟨?_,?_⟩
 ·simp only [PO,SR,ST,e1,e2,amu]
 ·simp only [PO,SR,ST,e1,e3,e4,e5,e6,e7,allT,cond_true]
def af2:List SV→List Entry→Option Out
 | [.one ⟨true,[.val (.int .i64 x0),.ref 0]⟩,.one ⟨false,[.val (.int .i64 x1)]⟩],[.row false 2 (.int .i64) x2]=>some ⟨(.one ⟨true,[(.val (.int .i64 x0)),(.ref 1)]⟩),[(.row false 2 axl x2)],[(.row true 2 axl (amu x0 x2 x1))],[acz x0 x2 x1]⟩
 |_,_=>none
def Yq:PF Tryz.prog:=PF.alt ao4 af2 (by
 intro args es o h hnd;unfold af2 at h;split at h
 ·rename_i x0 x1 x2
  cases h
  have hnd:=bY hnd
  have hh:=asn x0 x1 x2 hnd
  obtain⟨e0,en⟩:=hh
  exact ek rfl (cg en) rfl rfl (by simp only [e0] <;> rfl)
 ·cases h)
theorem arP(n t:Int)(ps:List Int)(h:acz n ps t=true):i8 n t ps=amu n ps t∧i9 n t ps=true:=by
 obtain⟨e1,e2,e3,e4,e5,e6,e7,e8⟩:=amv h
 refine⟨?_,?_⟩
 ·simp only [iQ,i8,i9,e1,e2,amu]
 ·simp only [iQ,i8,i9,fP,e1,e3,e4,e5,e6,e7,e8,allT,cond_true,Bool.and_self]
def ws:List SV→List Entry→Option Out
 | [.one ⟨true,[.val (.int .i64 x0),.ref 0]⟩,.one ⟨false,[.val (.int .i64 x1)]⟩],[.row false 2 (.int .i64) x2]=>some ⟨(.one ⟨true,[(.val (.int .i64 x0)),(.ref 1)]⟩),[(.row false 2 axl x2)],[(.row true 2 axl (amu x0 x2 x1))],[acz x0 x2 x1]⟩
 |_,_=>none
def nT:PF Tryz.prog:=PF.alt LK ws (by
 intro args es o h hnd;unfold ws at h;split at h
 ·rename_i x0 x1 x2
  cases h
  have hnd:=bY hnd
  have hh:=arP x0 x1 x2 hnd
  obtain⟨e0,en⟩:=hh
  exact ek rfl (cg en) rfl rfl (by simp only [e0] <;> rfl)
 ·cases h)
theorem awE(ps:List Int)(h:leN ps.length 1048576=true):Up ps=true:=by simp only [Up,allT,h,cond_true]
def ab0:List SV→List Entry→Option Out
 | [.one ⟨true,[.val (.int .i64 x0),.ref 0]⟩],[.row false 2 (.int .i64) x1]=>some ⟨(.one ⟨true,[(.val (.int .i64 x0)),(.ref 1)]⟩),[(.row false 2 axl x1)],[(.row true 2 axl x1)],[leN x1.length 1048576]⟩
 |_,_=>none
def UD:PF Tryz.prog:=PF.alt amS ab0 (by
 intro args es o h hnd;unfold ab0 at h;split at h
 ·rename_i x0 x1
  cases h
  have hnd:=bY hnd
  have hh:=awE x1 hnd
  have en:=hh
  exact ek rfl (cg en) rfl rfl rfl
 ·cases h)
def eqT(n m:Int)(ps qs:List Int):Bool:=n==m&&eqL ps qs
theorem awr(n m:Int)(ps qs:List Int)(h:leN ps.length 9223372036854775807=true):TW n m ps qs=eqT n m ps qs∧TX n m ps=true:=by
 simp only [TW,TX,allT,h,eqT,bne]
 cases n==m <;> cases eqL ps qs <;> simp
def abS:List SV→List Entry→Option Out
 | [.one ⟨true,[.val (.int .i64 x0),.ref 0]⟩,.one ⟨true,[.val (.int .i64 x1),.ref 1]⟩],[.row false 2 (.int .i64) x2,.row false 2 (.int .i64) x3]=>some ⟨(.one ⟨false,[(.val (.bool (eqT x0 x1 x2 x3)))]⟩),[(.row false 2 axl x2),(.row false 2 axl x3)],[],[leN x2.length 9223372036854775807]⟩
 |_,_=>none
def Uv:PF Tryz.prog:=PF.alt amJ abS (by
 intro args es o h hnd;unfold abS at h;split at h
 ·rename_i x0 x1 x2 x3
  cases h
  have hnd:=bY hnd
  have hh:=awr x0 x1 x2 x3 hnd
  obtain⟨e0,en⟩:=hh
  exact ek rfl (cg en) (by simp only [e0] <;> rfl) rfl rfl
 ·cases h)
theorem awD(k:Int)(ps:List Int)(h:(leN ps.length 9223372036854775807&&(leI (-1) k&&leI k 1048576))=true):Ul k ps=szV k ps∧Um k ps=true:=by
 simp only [Ul,Um,allT,h,cond_true,and_true]
 cases hs:ltI (szV k ps) 0 with
 |false=>rfl
 |true=>
  simp only [szV]at hs ⊢
  cases hq:ltI (k - (ps.length:Int)) 0 with
  |true=>rfl
  |false=>rw [hq,cond_false]at hs;rw [hs]at hq;cases hq
def abY:List SV→List Entry→Option Out
 | [.one ⟨true,[.val (.int .i64 _x0),.ref 0]⟩,.one ⟨false,[.val (.int .i64 x1)]⟩],[.row false 2 (.int .i64) x2]=>some ⟨(.one ⟨false,[(.val (.int .i64 (szV x1 x2)))]⟩),[(.row false 2 axl x2)],[],[leN x2.length 9223372036854775807&&(leI (-1) x1&&leI x1 1048576)]⟩
 |_,_=>none
def UB:PF Tryz.prog:=PF.alt amP abY (by
 intro args es o h hnd;unfold abY at h;split at h
 ·rename_i _x0 x1 x2
  cases h
  have hnd:=bY hnd
  have hh:=awD x1 x2 hnd
  obtain⟨e0,en⟩:=hh
  exact ek rfl (cg en) (by simp only [e0] <;> rfl) rfl rfl
 ·cases h)
theorem ave(k:Int)(ps:List Int)(h:Rp k ps.length=true):Qc k ps=k + ps.length∧Qd k ps=sN k ps.length∧Qe k ps=true:=by
 simp only [Qc,Qd,Qe,allT,h,cond_true,and_self]
def XB:List SV→List Entry→Option Out
 | [.one ⟨true,[.val (.int .i64 _x0),.ref 0]⟩,.one ⟨false,[.val (.int .i64 x1)]⟩],[.row true 2 (.int .i64) x2]=>some ⟨(.one ⟨false,[(.val (.int .i64 (x1 + (x2.length:Int))))]⟩),[(.row true 2 axl (sN x1 x2.length))],[],[Rp x1 x2.length]⟩
 |_,_=>none
def Qk:PF Tryz.prog:=PF.alt aj9 XB (by
 intro args es o h hnd;unfold XB at h;split at h
 ·rename_i _x0 x1 x2
  cases h
  have hnd:=bY hnd
  have hh:=ave x1 x2 hnd
  obtain⟨e0,e1,en⟩:=hh
  exact ek rfl (cg en) (by simp only [e0] <;> rfl) (by simp only [e1] <;> rfl) rfl
 ·cases h)
def Ix(k:Int)(xs:List Int):Int:=bif ltI (RB k xs) 0 then -1 else RB k xs
theorem au4(k:Int)(ps:List Int)(h:leN ps.length 9223372036854775807=true):Qa k ps=Ix k ps∧Qb ps=true:=by
 simp only [Qa,Qb,Ix,allT,h,cond_true,and_self]
def Xz:List SV→List Entry→Option Out
 | [.one ⟨true,[.val (.int .i64 _x0),.ref 0]⟩,.one ⟨false,[.val (.int .i64 x1)]⟩],[.row false 2 (.int .i64) x2]=>some ⟨(.one ⟨false,[(.val (.int .i64 (Ix x1 x2)))]⟩),[(.row false 2 axl x2)],[],[leN x2.length 9223372036854775807]⟩
 |_,_=>none
def Qi:PF Tryz.prog:=PF.alt aj7 Xz (by
 intro args es o h hnd;unfold Xz at h;split at h
 ·rename_i _x0 x1 x2
  cases h
  have hnd:=bY hnd
  have hh:=au4 x1 x2 hnd
  obtain⟨e0,en⟩:=hh
  exact ek rfl (cg en) (by simp only [e0] <;> rfl) rfl rfl
 ·cases h)
def tb(y1 y3 b:Int):(Int)→Nat ⊕ (Int)
 |y2=>(.inr (bif acQ y3 b y1 then IntKind.wrap .i64 (y2 + (1:Int))else y2))
def nE(y1 y3:Int)(y4:List Int)(i:Nat):(Int)→kd
 |y2=>((i:Int),y1,y2,y3,y4)
def Oz:kd→Int
 |(_,_,y2,_,_)=>y2
theorem akl(y1 y3:Int)(y4:List Int)(y2:Int)(hn:y4.length≤9223372036854775807)(hT: ∀ p∈y4,okP y3 p=true)(h4:y4.length≤4)(h2:y2=0):
  fg.fin ((0:Int),y1,y2,y3,y4)=true∧fg.res ((0:Int),y1,y2,y3,y4)=((ae (tb y1 y3) 0 y4 0 y2).1,(nE y1 y3 y4) (ae (tb y1 y3) 0 y4 0 y2).2.1 (ae (tb y1 y3) 0 y4 0 y2).2.2):=by
 have key:=fg.along (nE y1 y3 y4) Oz (tb y1 y3) 0 (fun i a=>0≤a∧a≤i) y4 y2 (by omega) (by simp only [fg,nE];omega) (fun i b a hb hI=> ?_) (fun a hI=> ?_)
 ·exact key
 ·obtain y2:=a
  have hlt:=(List.getElem?_eq_some_iff.1 hb).1
  have hget: ∀ d,Option.getD y4[i]? d=b:=fun d=>by rw [hb];rfl
  have hw:=oW hlt hn
  have hdec:ltI (i:Int) (y4.length:Int)=true:=bZ (by omega)
  have hnn:leI (0:Int) (i:Int)=true:=bC (by omega)
  have hltd:ltN i y4.length=true:=cB hlt
  refine⟨?_,?_,?_,?_⟩
  ·simp [vD,xP,Er,Es,Et,Eu,Ev,BR,fg,LT.nds,allT,nE,hdec,hnn,hltd,hget,hT b (List.mem_of_getElem? hb)]
  ·simp [vD,xP,Er,Es,Et,Eu,Ev,BR,fg,LT.each,nE,Oz,hw,hT b (List.mem_of_getElem? hb)]
  ·simp only [vD,xP,Er,Es,Et,Eu,Ev,BR,fg,LT.fn,nE,Oz,tb,Int.toNat_natCast,hdec,hget,cond_true]
  ·intro a' hf;simp only [tb,Sum.inr.injEq]at hf;subst hf;cases acQ y3 b y1 <;> simp only [cond_true,cond_false] <;> (try rw [aw (by omega) (by omega)]) <;> omega
 ·obtain y2:=a
  simp [vD,xP,Er,Es,Et,Eu,Ev,BR,fg,LT.out,nE]
theorem aon(n b:Int): ∀ (ps:List Int) (a:Int),0≤a→a + ps.length≤100→ps.foldl (fun a p=>bif acQ n p b then IntKind.wrap .i64 (a + (1:Int))else a) a=a + (adh n ps b:Int)
 | [],a,_,_=>by simp [adh]
 |p::ps,a,h0,h1=>by
  simp only [List.length_cons]at h1
  simp only [List.foldl_cons,adh,List.countP_cons]
  cases hu:acQ n p b with
  |true=>
   rw [cond_true,aw (by omega) (by omega),aon n b ps (a + 1) (by omega) (by omega)]
   simp only [adh]
   simp;omega
  |false=>
   rw [cond_false,aon n b ps a h0 (by omega)]
   simp [adh]
theorem auP(n b:Int)(ps:List Int)(h:isT n ps=true):PM n b ps=(adh n ps b:Int)∧PN n b ps=true:=by
 have h2:=(EK.1 h).2.1
 obtain⟨w1,w2⟩:=akl b n ps 0 (by omega) (fun p hp=>an9 h hp) h2.2 rfl
 rw [iP (f:=tb b n) (g:=fun a p=>bif acQ n p b then IntKind.wrap .i64 (a + (1:Int))else a) (fun p a=>rfl),aon n b ps 0 (by omega) (by omega)]at w2
 refine⟨?_,?_⟩
 ·simp only [Oe,PM,PN,w2,nE];omega
 ·simp only [Oe,PM,PN,w1,allT,cond_true]
def aee:List SV→List Entry→Option Out
 | [.one ⟨true,[.val (.int .i64 x0),.ref 0]⟩,.one ⟨false,[.val (.int .i64 x1)]⟩],[.row false 2 (.int .i64) x2]=>some ⟨(.one ⟨false,[(.val (.int .i64 (adh x0 x2 x1:Int)))]⟩),[(.row false 2 axl x2)],[],[isT x0 x2]⟩
 |_,_=>none
def sW:PF Tryz.prog:=PF.alt an1 aee (by
 intro args es o h hnd;unfold aee at h;split at h
 ·rename_i x0 x1 x2
  cases h
  have hnd:=bY hnd
  have hh:=auP x0 x1 x2 hnd
  obtain⟨e0,en⟩:=hh
  exact ek rfl (cg en) (by simp only [e0] <;> rfl) rfl rfl
 ·cases h)
end Go.SX

namespace Go.SX
open Go.Proofs
def Fa:PF Tryz.prog:=PF.sort 235 2 (fun blk off cap zs w h1 h2 h3=>AnyM.slices_Sort_int Tryz.laysSort blk off cap zs w h1 h2 h3)
end Go.SX

namespace Go.SX
open Go.Proofs
set_option maxRecDepth 100000
section
variable (x0 x1:Int)(x2:List Int)
def dn:Int:=Option.getD x2[Int.toNat x1]? (0:Int)
def fQ:Bool:=Int.tmod (dn x1 x2) (3:Int)!=(2:Int)
def ja:List Int:= [IntKind.wrap .i64 (Int.tdiv (dn x1 x2) (3:Int)),Int.tmod (IntKind.wrap .i64 (IntKind.wrap .i64 (Int.tdiv (dn x1 x2) (3:Int)) + (1:Int))) x0]
def jC:List Int:=bif fQ x1 x2 then [IntKind.wrap .i64 (Int.tdiv (dn x1 x2) (3:Int))]else alN (ja x0 x1 x2)
def jD:Bool:=allT [leI (0:Int) x1,ltI x1 (↑x2.length:Int),ltN x1.toNat x2.length,leI (0:Int) x1,ltI x1 (↑x2.length:Int),ltN x1.toNat x2.length,fQ x1 x2||neI x0 (0:Int),fQ x1 x2||leN (List.length (ja x0 x1 x2)) (4611686018427387903:Nat)]
end
def xY:List SV→List Entry→Option Out
 | [.one ⟨true,[.val (.int .i64 x0),.ref 0]⟩,.one ⟨false,[.val (.int .i64 x1)]⟩],[.row false 2 (.int .i64) x2]=>some ⟨(.one ⟨false,[(.ref 1)]⟩),[(.row false 2 axl x2)],[(.row true 2 axl (jC x0 x1 x2))],[(jD x0 x1 x2)]⟩
 |_,_=>none
def Mv:PF Tryz.prog:=PF.ofG Tryz.prog [Fa,PF.lend Fa,PF.fz Fa] [] aq 210 Tryz.f210 Tryz.func210 (fun c _=>LOk.nil c) xY (by
 intro vs es r h;unfold xY at h;split at h
 ·cases h;kernel_rfl
 ·cases h)
end Go.SX

namespace Go.SX
open Go.Proofs
set_option maxRecDepth 100000
def VE(n p:Int):List Int:=bif phs p !=2 then [blk p]else alN [blk p,Int.tmod (blk p + 1) n]
theorem avo(a b:Int):alN [a,b]=bif leI a b then [a,b]else [b,a]:=by
 unfold alN
 have hp:=List.mergeSort_perm [a,b] (fun x y=>decide (x≤y))
 have hs:=List.pairwise_mergeSort (le:=fun(x y:Int)=>decide (x≤y)) (fun x y z h1 h2=>by simp at h1 h2 ⊢;omega) (fun x y=>by simp;omega) [a,b]
 generalize hm:List.mergeSort [a,b] (fun x y=>decide (x≤y))=l at hp hs
 have hl:=hp.length_eq
 match l,hl with
 | [x,y],_=>
  simp at hs
  have hx:x∈ [a,b]:=hp.subset (by simp)
  simp at hx
  rcases hx with rfl | rfl
  ·have:=(List.perm_cons x).1 hp
   rw [List.perm_singleton]at this
   simp at this;subst this
   rw [bC hs];rfl
  ·have h2:=hp.trans (List.Perm.swap x a [])
   have:=(List.perm_cons x).1 h2
   rw [List.perm_singleton]at this
   simp at this;subst this
   cases hq:leI y x with
   |false=>rfl
   |true=>
    have:=Sg.1 hq;have:x=y:=by omega
    subst this;rfl
def atI(xs:List Int)(t:Int):Int:=xs[t.toNat]?.getD 0
theorem awg(n t:Int)(ps:List Int)(h:acz n ps t=true):jC n t ps=VE n (atI ps t)∧jD n t ps=true:=by
 obtain⟨e1,e2,e3,e4,e5,e6,e7,e8⟩:=amv h
 obtain⟨hT,ht⟩:=alr.1 h
 obtain⟨h1,h2,h3⟩:=EK.1 hT
 have h4:=XK.1 ht
 have hlt:t.toNat < ps.length:=by omega
 have hg:ps[t.toNat]?.getD 0=ps[t.toNat]:=by rw [List.getElem?_eq_getElem hlt];rfl
 have h5:=h3 _ (List.getElem_mem hlt)
 rw [← hg]at h5
 have f1:IntKind.i64.wrap (Int.tdiv (ps[t.toNat]?.getD 0) 3)=blk (ps[t.toNat]?.getD 0):=by
  rw [Int.tdiv_eq_ediv_of_nonneg h5.1,al6 h5.1,aw (by omega) (by omega)]
 have f2:IntKind.i64.wrap (blk (ps[t.toNat]?.getD 0) + 1)=blk (ps[t.toNat]?.getD 0) + 1:=by rw [al6 h5.1,aw (by omega) (by omega)]
 have f3:neI n 0=true:=aqe (by omega)
 refine⟨?_,?_⟩
 ·simp only [dn,fQ,ja,jC,jD,f1,f2,VE,phs,atI]
 ·simp [dn,fQ,ja,jC,jD,e4,e5,e6,f3,allT]
def yh:List SV→List Entry→Option Out
 | [.one ⟨true,[.val (.int .i64 x0),.ref 0]⟩,.one ⟨false,[.val (.int .i64 x1)]⟩],[.row false 2 (.int .i64) x2]=>some ⟨(.one ⟨false,[(.ref 1)]⟩),[(.row false 2 axl x2)],[(.row true 2 axl (VE x0 (atI x2 x1)))],[acz x0 x2 x1]⟩
 |_,_=>none
def bj:PF Tryz.prog:=PF.alt Mv yh (by
 intro args es o h hnd;unfold yh at h;split at h
 ·rename_i x0 x1 x2
  cases h
  have hnd:=bY hnd
  have hh:=awg x0 x1 x2 hnd
  obtain⟨e0,en⟩:=hh
  exact ek rfl (cg en) rfl rfl (by simp only [e0] <;> rfl)
 ·cases h)
theorem atH{n p:Int}(h:okP n p=true):(∀ u∈VE n p,0≤u∧u < n)∧(VE n p).length≤2∧ ∀ b:Nat,(VE n p).count (b:Int)=bif acQ n p (b:Int)then 1 else 0:=by
 obtain⟨⟨h1,h2⟩,h3,h4⟩:=aod.1 h
 have hb:=al6 h3
 have hm:Int.tmod (blk p + 1) n=(blk p + 1) % n:=Int.tmod_eq_emod_of_nonneg (by rw [hb];omega)
 have hb0:0≤blk p∧blk p < n:=by rw [hb];omega
 have hm0:=Int.emod_nonneg (blk p + 1) (show n≠0 by omega)
 have hm1:=Int.emod_lt_of_pos (blk p + 1) (show 0 < n by omega)
 have hne:(blk p + 1) % n≠blk p:=by
  by_cases hq:blk p + 1=n
  ·rw [hq,Int.emod_self];omega
  ·rw [Int.emod_eq_of_lt (by omega) (by omega)];omega
 unfold VE acQ
 rw [hm,avo]
 generalize (blk p + 1) % n=q at *
 generalize blk p=a at *
 cases hp:phs p==2 with
 |false=>
  simp only [bne,hp,Bool.not_false,cond_true,Bool.false_and,Bool.or_false]
  refine⟨fun u hu=>by simp at hu;omega,by simp,fun b=> ?_⟩
  simp only [List.count_cons,List.count_nil]
  cases hab:a==(b:Int) <;> simp [hab]
 |true=>
  simp only [bne,hp,Bool.not_true,cond_false,Bool.true_and]
  have key: ∀ b:Nat,(if (a==(b:Int))=true then 1 else 0) + (if (q==(b:Int))=true then 1 else 0)=(bif a==(b:Int)||q==(b:Int)then 1 else 0:Nat):=by
   intro b
   cases hab:a==(b:Int) <;> cases hqb:q==(b:Int) <;> simp
   have:=eq_of_beq hab;have:=eq_of_beq hqb;omega
  cases leI a q with
  |true=>
   refine⟨fun u hu=>by simp at hu;omega,by simp,fun b=> ?_⟩
   rw [← key b];simp [List.count_cons];omega
  |false=>
   refine⟨fun u hu=>by simp at hu;omega,by simp,fun b=> ?_⟩
   rw [← key b];simp [List.count_cons]
end Go.SX

namespace Go.SX
open Go.Proofs
set_option maxRecDepth 100000
abbrev aI:=Int×Int×List Int×List Int
section
variable (y0 y1:Int)(y2 y3:List Int)
def aR:Int:=Option.getD y2[Int.toNat y0]? (0:Int)
def dB:Bool:=ltI y0 y1
def dC:Bool:=leI (0:Int) y0
def dD:Bool:=ltI y0 (↑y2.length:Int)
def dE:Bool:=ltN y0.toNat y2.length
def b8:Bool:=leI (0:Int) (aR y0 y2)
def b9:Bool:=ltI (aR y0 y2) (↑y3.length:Int)
def cd:Bool:=ltN (Int.toNat (aR y0 y2)) y3.length
def dF:Int:=IntKind.wrap .i64 (y0 + (1:Int))
def dG:List Int:=List.set y3 (Int.toNat (aR y0 y2)) (IntKind.wrap .i64 (Option.getD y3[Int.toNat (aR y0 y2)]? (0:Int) + (1:Int)))
end
def Hi:aI→List (Nat×SV)
 |(y0,y1,_,_)=> [(20,(.one ⟨false,[(.val (.int .i64 y0))]⟩)),(19,(.one ⟨false,[(.val (.int .i64 y1))]⟩)),(18,(.one ⟨false,[(.ref 0)]⟩)),(3,(.one ⟨false,[(.ref 1)]⟩))]
def Hh:aI→List (Nat×Entry)
 |(_,_,y2,y3)=> [(0,(.row true 2 axl y2)),(1,(.row true 2 axl y3))]
def Hk:Nat→aI→List (Nat×SV)
 |_,(_,_,_,_)=> []
def Hj:Nat→aI→List (Nat×Entry)
 |_,(_,_,y2,y3)=> [(0,(.row true 2 axl y2)),(1,(.row true 2 axl y3))]
def dx:aI→LT aI
 |(y0,y1,y2,y3)=> .ite (dB y0 y1) (.need [(dC y0),(dD y0 y2),(dE y0 y2)] (.need [(b8 y0 y2),(b9 y0 y2 y3),(cd y0 y2 y3),(b8 y0 y2),(b9 y0 y2 y3),(cd y0 y2 y3)] (.nrm ((dF y0),y1,y2,(dG y0 y2 y3)) [(0,0),(1,1)]))) (.ext 0 [(0,0),(1,1)])
def ko(s:St):Option aI:=
 (match s.look 20 with
 |some ⟨none,(.one ⟨false,[(.val (.int .i64 y0))]⟩)⟩=>
 (match s.look 19 with
 |some ⟨none,(.one ⟨false,[(.val (.int .i64 y1))]⟩)⟩=>
 (match s.look 18 with
 |some ⟨none,(.one ⟨false,[(.ref 384)]⟩)⟩=>
 (match s.look 3 with
 |some ⟨none,(.one ⟨false,[(.ref 1)]⟩)⟩=>
 (match s.ent 384 with
 |some (.row true 2 (.int .i64) y2)=>
 (match s.ent 1 with
 |some (.row true 2 (.int .i64) y3)=>
 some (y0,y1,y2,y3)
 |_=>none)
 |_=>none)
 |_=>none)
 |_=>none)
 |_=>none)
 |_=>none)
def af:Lp aI where
 h:=⟨[21,22,23,6,24,25,26,27,28,29,30,20],[0,1],[],[]⟩
 JL:=Hi
 JE:=Hh
 XL:=Hk
 XE:=Hj
 q:=fun j=>match j with | _=> .exit 2
 tags:= [0]
 lt:=dx
 fuel:=fun(y0,y1,y2,y3)=>y0.natAbs + y1.natAbs + y2.length + y3.length
 fix:=fun(_,y1,y2,_) (y0,_,_,y3)=>(y0,y1,y2,y3)
 σ:= [(0,384),(1,1)]
 rd:=ko
theorem EZ:LoopOk Tryz.prog (memN [14,15,4,16,17,18,19,20,21,22,23,6,24,25,26,27,28,29,30,31,13]) af.F (amp (au Tryz.f157 0) 0):=by
 refine Lp.ok (tbl:= [bj,PF.lend bj,PF.fz bj,aH,PF.lend aH,PF.fz aH]) (lf:= []) aq af (by kernel_rfl) (LOk.nil _) (fun _=>rfl) (fun _ _=>rfl) ?_ ?_ ?_ ?_ (fun _=>rfl) ?_
 ·rintro⟨y0,y1,y2,y3⟩;kernel_rfl
 ·rintro⟨y0,y1,y2,y3⟩;kernel_rfl
 ·intro s x h
  have h:ko s=some x:=h
  unfold ko at h
  repeat' split at h
  all_goals cases h
  exact⟨aa (by assumption) rfl (aa (by assumption) rfl (aa (by assumption) rfl (aa (by assumption) rfl (rfl)))),ab rfl (by assumption) rfl (ab rfl (by assumption) rfl (rfl))⟩
 ·rintro⟨y0,y1,y2,y3⟩;kernel_rfl
 ·rintro⟨y0,y1,y2,y3⟩ z;exact(And.intro rfl trivial)
abbrev aP:=Int×Int×Int×List Int×List Int
section
variable (y0 y1 y2:Int)(y3 y4:List Int)
def cC:Int×Int×List Int×List Int:=((0:Int),(↑(List.length (VE y2 (atI y4 y0))):Int),VE y2 (atI y4 y0),y3)
def eF:Bool:=ltI y0 y1
def eG:Bool:=acz y2 y4 y0
def eH:Bool:=Lp.fin af (cC y0 y2 y3 y4)
def eI:Int:=IntKind.wrap .i64 (y0 + (1:Int))
def eJ:List Int:=(Lp.res af (cC y0 y2 y3 y4)).2.2.2.2
end
def JW:aP→List (Nat×SV)
 |(y0,y1,_,_,_)=> [(13,(.one ⟨false,[(.val (.int .i64 y0))]⟩)),(12,(.one ⟨false,[(.val (.int .i64 y1))]⟩)),(1,(.one ⟨false,[(.ptr 0 0)]⟩)),(3,(.one ⟨false,[(.ref 1)]⟩))]
def JU:aP→List (Nat×Entry)
 |(_,_,y2,y3,y4)=> [(0,(.box 26 [(.val (.int .i64 y2)),(.ref 2)])),(1,(.row true 2 axl y3)),(2,(.row false 2 axl y4))]
def Ka:Nat→aP→List (Nat×SV)
 |_,(_,_,_,_,_)=> []
def JY:Nat→aP→List (Nat×Entry)
 |_,(_,_,y2,y3,y4)=> [(0,(.box 26 [(.val (.int .i64 y2)),(.ref 2)])),(1,(.row true 2 axl y3)),(2,(.row false 2 axl y4))]
def em:aP→LT aP
 |(y0,y1,y2,y3,y4)=> .ite (eF y0 y1) (.need [(eG y0 y2 y4)] (.need [(eH y0 y2 y3 y4)] (.nrm ((eI y0),y1,y2,(eJ y0 y2 y3 y4),y4) [(0,0),(1,1),(2,2)]))) (.ext 0 [(0,0),(1,1),(2,2)])
def lU(s:St):Option aP:=
 (match s.look 13 with
 |some ⟨none,(.one ⟨false,[(.val (.int .i64 y0))]⟩)⟩=>
 (match s.look 12 with
 |some ⟨none,(.one ⟨false,[(.val (.int .i64 y1))]⟩)⟩=>
 (match s.look 1 with
 |some ⟨none,(.one ⟨false,[(.ptr 128 0)]⟩)⟩=>
 (match s.look 3 with
 |some ⟨none,(.one ⟨false,[(.ref 384)]⟩)⟩=>
 (match s.ent 128 with
 |some (.box 26 [(.val (.int .i64 y2)),(.ref 0)])=>
 (match s.ent 384 with
 |some (.row true 2 (.int .i64) y3)=>
 (match s.ent 0 with
 |some (.row false 2 (.int .i64) y4)=>
 some (y0,y1,y2,y3,y4)
 |_=>none)
 |_=>none)
 |_=>none)
 |_=>none)
 |_=>none)
 |_=>none)
 |_=>none)
def az:Lp aP where
 h:=⟨[14,15,4,16,17,18,19,20,21,22,23,6,24,25,26,27,28,29,30,31,13],[0,1,2],[],[]⟩
 JL:=JW
 JE:=JU
 XL:=Ka
 XE:=JY
 q:=fun j=>match j with | _=> .exit 0
 tags:= [0]
 lt:=em
 fuel:=fun(y0,y1,y2,y3,y4)=>y0.natAbs + y1.natAbs + y2.natAbs + y3.length + y4.length
 fix:=fun(_,y1,y2,_,y4) (y0,_,_,y3,_)=>(y0,y1,y2,y3,y4)
 σ:= [(0,128),(1,384),(2,0)]
 rd:=lU
theorem HV:LoopOk Tryz.prog (fun k=>Nat.blt k Tryz.f157.ntmps) az.F (au Tryz.f157 0):=by
 refine Lp.ok (tbl:= [bj,PF.lend bj,PF.fz bj,aH,PF.lend aH,PF.fz aH]) (lf:= [af.F]) aq az (by kernel_rfl) (LOk.allT (l:= [amp (au Tryz.f157 0) 0]) (by kernel_rfl) (.cons EZ (.nil _))) (fun _=>rfl) (fun _ _=>rfl) ?_ ?_ ?_ ?_ (fun _=>rfl) ?_
 ·rintro⟨y0,y1,y2,y3,y4⟩;kernel_rfl
 ·rintro⟨y0,y1,y2,y3,y4⟩;kernel_rfl
 ·intro s x h
  have h:lU s=some x:=h
  unfold lU at h
  repeat' split at h
  all_goals cases h
  exact⟨aa (by assumption) rfl (aa (by assumption) rfl (aa (by assumption) rfl (aa (by assumption) rfl (rfl)))),ab rfl (by assumption) rfl (ab rfl (by assumption) rfl (ab rfl (by assumption) rfl (rfl)))⟩
 ·rintro⟨y0,y1,y2,y3,y4⟩;kernel_rfl
 ·rintro⟨y0,y1,y2,y3,y4⟩ z;exact(And.intro rfl trivial)
section
variable (x0:Int)(x1:List Int)
def jb:Int×Int×Int×List Int×List Int:=((0:Int),cY x1,x0,List.replicate x0.toNat (0:Int),x1)
def oL:List Int:=((Lp.res az (jb x0 x1)).2.2.2.2).1
def oM:Bool:=allT [leI (0:Int) x0,leI x0 x0,leI ((↑(8:Nat):Int) * x0) (281474976710656:Int),leI x0 (9223372036854775807:Int),Lp.fin az (jb x0 x1)]
end
def xZ:List SV→List Entry→Option Out
 | [.one ⟨true,[.val (.int .i64 x0),.ref 0]⟩],[.row false 2 (.int .i64) x1]=>some ⟨(.one ⟨false,[(.ref 1)]⟩),[(.row false 2 axl x1)],[(.row true 2 axl (oL x0 x1))],[(oM x0 x1)]⟩
 |_,_=>none
def Mw:PF Tryz.prog:=PF.ofG Tryz.prog [bj,PF.lend bj,PF.fz bj,aH,PF.lend aH,PF.fz aH] [az.F] aq 157 Tryz.f157 Tryz.func157 (LOk.fnT (l:= [au Tryz.f157 0]) (by kernel_rfl) (.cons HV (.nil _))) xZ (by
 intro vs es r h;unfold xZ at h;split at h
 ·cases h;kernel_rfl
 ·cases h)
end Go.SX

namespace Go.SX
open Go.Proofs
set_option maxRecDepth 100000
def ui(n:Int)(ps:List Int):List Int:=(List.range n.toNat).map fun(b:Nat)=>(adh n ps (b:Int):Int)
theorem abf(n:Int)(ps:List Int):(ui n ps).length=n.toNat:=by simp [ui]
def bw(b:Int):(List Int)→Nat ⊕ (List Int)
 |y3=>(.inr (List.set y3 (Int.toNat b) (IntKind.wrap .i64 (Option.getD y3[Int.toNat (b)]? (0:Int) + (1:Int)))))
def bc(y2:List Int)(i:Nat):(List Int)→aI
 |y3=>((i:Int),(↑y2.length:Int),y2,y3)
def kn:aI→List Int
 |(_,_,_,y3)=>y3
theorem HX(y2 y3:List Int)(hn:y2.length≤9223372036854775807)(hU: ∀ u∈y2,0≤u∧u < (y3.length:Int)):
  af.fin ((0:Int),(↑y2.length:Int),y2,y3)=true∧af.res ((0:Int),(↑y2.length:Int),y2,y3)=((ae (bw) 0 y2 0 y3).1,(bc y2) (ae (bw) 0 y2 0 y3).2.1 (ae (bw) 0 y2 0 y3).2.2):=by
 have key:=af.along (bc y2) kn (bw) 0 (fun _ a=>a.length=y3.length) y2 y3 rfl (by simp only [af,bc];omega) (fun i b a hb hI=> ?_) (fun a hI=> ?_)
 ·exact key
 ·obtain y3:=a
  have hlt:=(List.getElem?_eq_some_iff.1 hb).1
  have hget: ∀ d,Option.getD y2[i]? d=b:=fun d=>by rw [hb];rfl
  have hw:=oW hlt hn
  have hdec:ltI (i:Int) (y2.length:Int)=true:=bZ (by omega)
  have hnn:leI (0:Int) (i:Int)=true:=bC (by omega)
  have hltd:ltN i y2.length=true:=cB hlt
  refine⟨?_,?_,?_,?_⟩
  ·have hu:=hU b (List.mem_of_getElem? hb)
   have e1:leI 0 b=true:=bC hu.1
   have e2:ltI b (a.length:Int)=true:=bZ (by omega)
   have e3:ltN b.toNat a.length=true:=cB (by omega)
   simp only [aR,dB,dC,dD,dE,b8,b9,cd,dF,dG,dx,af,LT.nds,allT,bc,Int.toNat_natCast,hdec,hnn,hltd,hget,e1,e2,e3,cond_true]
  ·simp [aR,dB,dC,dD,dE,b8,b9,cd,dF,dG,dx,af,LT.each,bc,kn,hw]
  ·simp only [aR,dB,dC,dD,dE,b8,b9,cd,dF,dG,dx,af,LT.fn,bc,kn,bw,Int.toNat_natCast,hdec,hnn,hltd,hget,cond_true,Bool.cond_self]
  ·intro a' hf;simp only [bw,Sum.inr.injEq]at hf;subst hf;simpa using hI
 ·obtain y3:=a
  simp [aR,dB,dC,dD,dE,b8,b9,cd,dF,dG,dx,af,LT.out,bc]
def avQ(a:List Int)(u:Int):List Int:=a.set u.toNat (IntKind.wrap .i64 (Option.getD a[u.toNat]? 0 + 1))
theorem awJ(N:Nat): ∀ (us:List Int) (c:Nat→Int),(∀ u∈us,0≤u∧u < (N:Int))→(∀ b,0≤c b∧c b + us.length≤1000000)→
  us.foldl avQ ((List.range N).map c)=(List.range N).map fun(b:Nat)=>c b + (us.count (b:Int):Int)
 | [],c,_,_=>by simp
 |u::us,c,hu,hc=>by
  have hu0:=hu u (by simp)
  have hlt:u.toNat < N:=by omega
  have h1:avQ ((List.range N).map c) u=(List.range N).map fun(b:Nat)=>if (b:Int)=u then c b + 1 else c b:=by
   unfold avQ
   have hg:Option.getD ((List.range N).map c)[u.toNat]? 0=c u.toNat:=by simp [List.getElem?_map,List.getElem?_range hlt]
   have hcu:=hc u.toNat
   simp only [List.length_cons]at hcu
   rw [hg,aw (by omega) (by omega)]
   refine List.ext_getElem? fun i=> ?_
   rw [List.getElem?_set]
   by_cases hi:u.toNat=i
   ·rw [if_pos hi,if_pos (by simpa using hlt)]
    subst hi
    rw [List.getElem?_map,List.getElem?_range hlt,Option.map_some,if_pos (by omega)]
   ·rw [if_neg hi,List.getElem?_map,List.getElem?_map]
    by_cases hiN:i < N
    ·rw [List.getElem?_range hiN,Option.map_some,Option.map_some,if_neg (by omega)]
    ·rw [List.getElem?_eq_none (by simp;omega)];rfl
  rw [List.foldl_cons,h1,awJ N us _ (fun v hv=>hu v (by simp [hv])) (fun b=>by
   have:=hc b
   simp only [List.length_cons]at this
   split <;> omega)]
  refine List.map_congr_left fun b _=> ?_
  rw [List.count_cons]
  by_cases hb:(b:Int)=u
  ·rw [if_pos hb,if_pos (by simp [hb])];omega
  ·rw [if_neg hb,if_neg (by simp;omega)];omega
theorem aoC{n p:Int}{qs:List Int}(h:okP n p=true)(hq:qs.length≤50):
  af.fin ((0:Int),((VE n p).length:Int),VE n p,ui n qs)=true∧
   (af.res ((0:Int),((VE n p).length:Int),VE n p,ui n qs)).2.2.2.2=ui n (qs++ [p]):=by
 obtain⟨hu,hl,hc⟩:=atH h
 have hn:=(aod.1 h).1
 obtain⟨w1,w2⟩:=HX (VE n p) (ui n qs) (by omega) (fun u hm=>by rw [abf];have:=hu u hm;omega)
 refine⟨w1,?_⟩
 rw [w2,iP (f:=bw) (g:=avQ) (fun b a=>rfl)]
 simp only [bc]
 unfold ui
 rw [awJ n.toNat (VE n p) _ (fun u hm=>by have:=hu u hm;omega) (fun b=>by
  have:adh n qs (b:Int)≤qs.length:=List.countP_le_length
  omega)]
 refine List.map_congr_left fun b _=> ?_
 rw [hc b]
 simp only [adh,List.countP_append,List.countP_cons,List.countP_nil]
 cases acQ n p (b:Int) <;> simp
theorem aqx{ps:List Int}{b:Nat}(h:b < ps.length):ps.take (b + 1)=ps.take b++ [ps[b]?.getD 0]:=by
 rw [List.take_add_one,List.getElem?_eq_getElem h];rfl
def aC(y2:Int)(y4:List Int)(b:Nat):(List Int)→Nat ⊕ (List Int)
 |y3=>(.inr ((Lp.res af ((0:Int),(↑(List.length (VE y2 (atI y4 (↑b:Int)))):Int),VE y2 (atI y4 (↑b:Int)),y3)).2.2.2.2))
def bm(y1 y2:Int)(y4:List Int)(i:Nat):(List Int)→aP
 |y3=>((i:Int),y1,y2,y3,y4)
def lS:aP→List Int
 |(_,_,_,y3,_)=>y3
theorem KO(y1 y2:Int)(y4 y3:List Int)(hn:y1≤9223372036854775807)(hl:y1=(y4.length:Int))(hT:isT y2 y4=true)(h3:y3=ui y2 []):
  az.fin ((0:Int),y1,y2,y3,y4)=true∧az.res ((0:Int),y1,y2,y3,y4)=((ae (aC y2 y4) 0 (List.range y1.toNat) 0 y3).1,(bm y1 y2 y4) (ae (aC y2 y4) 0 (List.range y1.toNat) 0 y3).2.1 (ae (aC y2 y4) 0 (List.range y1.toNat) 0 y3).2.2):=by
 have key:=az.along (bm y1 y2 y4) lS (aC y2 y4) 0 (fun i a=>a=ui y2 (y4.take i)) (List.range y1.toNat) y3 (by subst h3;simp) (by simp only [az,bm,List.length_range];omega) (fun i b a hb hI=> ?_) (fun a hI=> ?_)
 ·exact key
 ·obtain y3:=a
  obtain⟨rfl,hlt⟩:=eu hb
  have hw:IntKind.i64.wrap ((b:Int) + 1)=((b + 1:Nat):Int):=by rw [aw (by omega) (by omega)];omega
  have hdec:ltI (b:Int) y1=true:=bZ (by omega)
  have hnn:leI (0:Int) (b:Int)=true:=bC (by omega)
  refine⟨?_,?_,?_,?_⟩
  ·have h4:=(EK.1 hT).2.1
   have hbl:b < y4.length:=by omega
   have hm:acz y2 y4 (b:Int)=true:=alr.2 ⟨hT,XK.2 (by omega)⟩
   have hp:okP y2 (atI y4 (b:Int))=true:=an9 hT (by unfold atI;rw [Int.toNat_natCast,List.getElem?_eq_getElem hbl];exact List.getElem_mem hbl)
   obtain⟨i1,i2⟩:=aoC (qs:=y4.take b) hp (by rw [List.length_take];omega)
   subst hI
   simp only [cC,eF,eG,eH,eI,eJ,em,az,LT.nds,allT,bm,hdec,hm,i1,cond_true]
  ·simp [cC,eF,eG,eH,eI,eJ,em,az,LT.each,bm,lS,hw]
  ·simp only [cC,eF,eG,eH,eI,eJ,em,az,LT.fn,bm,lS,aC,Int.toNat_natCast,hdec,hnn,cond_true,Bool.cond_self]
  ·intro a' hf
   have h4:=(EK.1 hT).2.1
   have hbl:b < y4.length:=by omega
   have hp:okP y2 (atI y4 (b:Int))=true:=an9 hT (by unfold atI;rw [Int.toNat_natCast,List.getElem?_eq_getElem hbl];exact List.getElem_mem hbl)
   obtain⟨i1,i2⟩:=aoC (qs:=y4.take b) hp (by rw [List.length_take];omega)
   subst hI
   simp only [aC,i2,Sum.inr.injEq]at hf
   rw [← hf,aqx hbl]
   rfl
 ·obtain y3:=a
  simp only [cC,eF,eG,eH,eI,eJ,em,az,LT.out,bm,List.length_range,acw,agR,cond_false]
theorem awh(n:Int)(ps:List Int): ∀ (m:Nat),m≤ps.length→(∀ b,b < m→ ∀ a,a=ui n (ps.take b)→aC n ps b a= .inr (ui n (ps.take (b + 1))))→
  (ae (aC n ps) 0 (List.range m) 0 (ui n [])).2.2=ui n (ps.take m):=by
 have key: ∀ (k i s:Nat),(∀ b,b < s + k→ ∀ a,a=ui n (ps.take b)→aC n ps b a= .inr (ui n (ps.take (b + 1))))→
   (ae (aC n ps) 0 ((List.range k).map (· + s)) i (ui n (ps.take s))).2.2=ui n (ps.take (s + k)):=by
  intro k
  induction k with
  |zero=>intro i s _;rfl
  |succ k ih=>
   intro i s hb
   rw [List.range_succ_eq_map,List.map_cons,List.map_map]
   simp only [ae,Nat.zero_add]
   rw [hb s (by omega) _ rfl]
   have:=ih (i + 1) (s + 1) (fun b hlt=>hb b (by omega))
   have he:List.map ((fun x=>x + s) ∘ Nat.succ) (List.range k)=(List.range k).map (· + (s + 1)):=List.map_congr_left fun x _=>by simp only [Function.comp];omega
   rw [he]
   show (ae (aC n ps) 0 ((List.range k).map (· + (s + 1))) (i + 1) (ui n (ps.take (s + 1)))).2.2=_
   rw [this]
   congr 2;omega
 intro m hm hb
 have:=key m 0 0 (by simpa using hb)
 simpa using this
theorem avt(n:Int)(ps:List Int)(hT:isT n ps=true):oL n ps=ui n ps∧oM n ps=true:=by
 have h1:=(EK.1 hT).1
 have h4:=(EK.1 hT).2.1
 have hr:List.replicate (Int.toNat n) (0:Int)=ui n []:=by
  unfold ui
  refine List.ext_getElem (by simp) fun i h1 h2=>by simp [adh]
 obtain⟨w1,w2⟩:=KO (ps.length:Int) n ps (ui n []) (by omega) rfl hT rfl
 have hw:=awh n ps ps.length (Nat.le_refl _) (fun b hb a ha=>by
  have hp:okP n (atI ps (b:Int))=true:=an9 hT (by unfold atI;rw [Int.toNat_natCast,List.getElem?_eq_getElem hb];exact List.getElem_mem hb)
  obtain⟨i1,i2⟩:=aoC (qs:=ps.take b) hp (by rw [List.length_take];omega)
  subst ha
  simp only [aC,i2,aqx hb]
  rfl)
 have e1:(ps.length:Int).toNat=ps.length:=by omega
 rw [e1]at w2
 refine⟨?_,?_⟩
 ·simp only [oL,jb,cY,hr,w2,bm,hw,List.take_length]
 ·simp only [oM,jb,cY,hr,w1,allT]
  simp;omega
def yj:List SV→List Entry→Option Out
 | [.one ⟨true,[.val (.int .i64 x0),.ref 0]⟩],[.row false 2 (.int .i64) x1]=>some ⟨(.one ⟨false,[(.ref 1)]⟩),[(.row false 2 axl x1)],[(.row true 2 axl (ui x0 x1))],[isT x0 x1]⟩
 |_,_=>none
def bk:PF Tryz.prog:=PF.alt Mw yj (by
 intro args es o h hnd;unfold yj at h;split at h
 ·rename_i x0 x1
  cases h
  have hnd:=bY hnd
  have hh:=avt x0 x1 hnd
  obtain⟨e0,en⟩:=hh
  exact ek rfl (cg en) rfl rfl (by simp only [e0] <;> rfl)
 ·cases h)
end Go.SX

namespace Go.SX
open Go.Proofs
set_option maxRecDepth 100000
def UM(x0:Int):Bool:=aL x0 (2:Int) (8:Int)
def abE:List SV→List Entry→Option Out
 | [.one ⟨false,[.val (.int .i64 x0)]⟩],[]=>some ⟨(.one ⟨false,[(.val (.bool (UM x0)))]⟩),[],[],[]⟩
 |_,_=>none
def UF:PF Tryz.prog:=PF.ofG Tryz.prog [fB] [] aq 72 Tryz.f72 Tryz.func72 (fun c _=>LOk.nil c) abE (by
 intro vs es r h;unfold abE at h;split at h
 ·cases h;kernel_rfl
 ·cases h)
abbrev gF:=Int×Int×List (Int×(Int×Int))×Int×Int×Int
section
variable (y0 y1:Int)(y2:List (Int×(Int×Int)))(y3 y4:Int)
def pu:Int×Int×Int:=Option.getD y2[Int.toNat y0]? ((0:Int),(0:Int),(0:Int))
def jn:Bool:=(pu y0 y2).1==y3
def uZ:Bool:=ltI y0 y1
def u0:Bool:=leI (0:Int) y0
def u4:Bool:=ltI y0 (↑y2.length:Int)
def u5:Bool:=ltN y0.toNat y2.length
def u6:Bool:= !(jn y0 y2 y3&&true)||leI (0:Int) y0
def u7:Bool:= !(jn y0 y2 y3&&true)||ltI y0 (↑y2.length:Int)
def u9:Bool:= !(jn y0 y2 y3&&true)||ltN y0.toNat y2.length
def va:Bool:=bif jn y0 y2 y3 then ((pu y0 y2).2).1==y4 else false
def vb:Int:=IntKind.wrap .i64 (y0 + (1:Int))
end
def abM:gF→List (Nat×SV)
 |(y0,y1,_,_,_,_)=> [(7,(.one ⟨false,[(.val (.int .i64 y0))]⟩)),(5,(.one ⟨false,[(.val (.int .i64 y1))]⟩)),(1,(.one ⟨false,[(.ref 0)]⟩)),(6,(.one ⟨false,[(.ptr 1 0)]⟩))]
def abJ:gF→List (Nat×Entry)
 |(_,_,y2,y3,y4,y5)=> [(0,(.row false 169 axj y2)),(1,(.box 169 [(.val (.int .i64 y3)),(.val (.int .i64 y4)),(.val (.int .i64 y5))]))]
def aca:Nat→gF→List (Nat×SV)
 |0,(_,_,_,_,_,_)=> [(4,(.one ⟨false,[(.val (.bool false))]⟩))]
 |_,(_,_,_,_,_,_)=> []
def ab7:Nat→gF→List (Nat×Entry)
 |0,(_,_,y2,y3,y4,y5)=> [(0,(.row false 169 axj y2)),(1,(.box 169 [(.val (.int .i64 y3)),(.val (.int .i64 y4)),(.val (.int .i64 y5))]))]
 |_,(_,_,y2,y3,y4,y5)=> [(0,(.row false 169 axj y2)),(1,(.box 169 [(.val (.int .i64 y3)),(.val (.int .i64 y4)),(.val (.int .i64 y5))]))]
def tJ:gF→LT gF
 |(y0,y1,y2,y3,y4,y5)=> .ite (uZ y0 y1) (.need [(u0 y0),(u4 y0 y2),(u5 y0 y2),(u6 y0 y2 y3),(u7 y0 y2 y3),(u9 y0 y2 y3)] (.ite (va y0 y2 y3 y4) (.ext 0 [(0,0),(1,1)]) (.nrm ((vb y0),y1,y2,y3,y4,y5) [(0,0),(1,1)]))) (.ext 1 [(0,0),(1,1)])
def IR(s:St):Option gF:=
 (match s.look 7 with
 |some ⟨none,(.one ⟨false,[(.val (.int .i64 y0))]⟩)⟩=>
 (match s.look 5 with
 |some ⟨none,(.one ⟨false,[(.val (.int .i64 y1))]⟩)⟩=>
 (match s.look 1 with
 |some ⟨none,(.one ⟨false,[(.ref 0)]⟩)⟩=>
 (match s.look 6 with
 |some ⟨none,(.one ⟨false,[(.ptr 576 0)]⟩)⟩=>
 (match s.ent 0 with
 |some (.row false 169 (.pair (.int .i64) (.pair (.int .i64) (.int .i64))) y2)=>
 (match s.ent 576 with
 |some (.box 169 [(.val (.int .i64 y3)),(.val (.int .i64 y4)),(.val (.int .i64 y5))])=>
 some (y0,y1,y2,y3,y4,y5)
 |_=>none)
 |_=>none)
 |_=>none)
 |_=>none)
 |_=>none)
 |_=>none)
def bP:Lp gF where
 h:=⟨[36,37,38,41,42,43,44,45,46,47,48,49,50,51,52,53,54,55,56,57,58,4,39,40,7],[0,1],[],[]⟩
 JL:=abM
 JE:=abJ
 XL:=aca
 XE:=ab7
 q:=fun j=>match j with | 0=> .ret | _=> .exit 2
 tags:= [0,1]
 lt:=tJ
 fuel:=fun(y0,y1,y2,y3,y4,y5)=>y0.natAbs + y1.natAbs + y2.length + y3.natAbs + y4.natAbs + y5.natAbs
 fix:=fun(_,y1,y2,y3,y4,y5) (y0,_,_,_,_,_)=>(y0,y1,y2,y3,y4,y5)
 σ:= [(0,0),(1,576)]
 rd:=IR
theorem ZK:LoopOk Tryz.prog (memN [8,9,10,11,14,15,16,17,6,18,19,20,21,22,23,24,25,26,27,28,29,30,31,32,33,34,35,4,7,36,37,38,41,42,43,44,45,46,47,48,49,50,51,52,53,54,55,56,57,58,39,40,12,13,5]) bP.F (amp (au Tryz.f85 0) 0):=by
 refine Lp.ok (tbl:= [UF,fB]) (lf:= []) aq bP (by kernel_rfl) (LOk.nil _) (fun _=>rfl) (fun j _=>by unfold bP;match j with | 0=>rfl | _ + 1=>rfl) ?_ ?_ ?_ ?_ (fun _=>rfl) ?_
 ·rintro⟨y0,y1,y2,y3,y4,y5⟩;kernel_rfl
 ·rintro⟨y0,y1,y2,y3,y4,y5⟩;kernel_rfl
 ·intro s x h
  have h:IR s=some x:=h
  unfold IR at h
  repeat' split at h
  all_goals cases h
  exact⟨aa (by assumption) rfl (aa (by assumption) rfl (aa (by assumption) rfl (aa (by assumption) rfl (rfl)))),ab rfl (by assumption) rfl (ab rfl (by assumption) rfl (rfl))⟩
 ·rintro⟨y0,y1,y2,y3,y4,y5⟩;kernel_rfl
 ·rintro⟨y0,y1,y2,y3,y4,y5⟩ z;exact(And.intro (And.intro trivial rfl) trivial)
abbrev np:=Int×Int×List (Int×(Int×Int))
section
variable (y0 y1:Int)(y2:List (Int×(Int×Int)))
def p9:Int×Int×Int:=Option.getD y2[Int.toNat y0]? ((0:Int),(0:Int),(0:Int))
def Ns:Int×Int×List (Int×Int×Int)×Int×Int×Int:=((0:Int),y0,y2,(p9 y0 y2).1,((p9 y0 y2).2).1,(p9 y0 y2).2.2)
def BW:Bool:=ltI y0 (↑y2.length:Int)
def WJ:Bool:=leI (0:Int) y0
def WK:Bool:=ltN y0.toNat y2.length
def OL:Bool:=bif bif !aL ((p9 y0 y2).1) (0:Int) (IntKind.wrap .i64 (y1 - (1:Int)))then true else !aL (((p9 y0 y2).2).1) (0:Int) (1:Int)then true else !aL ((p9 y0 y2).2.2) (0:Int) (1:Int)
def WL:Bool:=Lp.fin bP (Ns y0 y2)
def OM:Bool:=Nat.beq ((Lp.res bP (Ns y0 y2)).1) (0:Nat)
def WM:Int:=IntKind.wrap .i64 (y0 + (1:Int))
end
def afS:np→List (Nat×SV)
 |(y0,y1,_)=> [(5,(.one ⟨false,[(.val (.int .i64 y0))]⟩)),(1,(.one ⟨false,[(.ref 0)]⟩)),(0,(.one ⟨false,[(.val (.int .i64 y1))]⟩))]
def afI:np→List (Nat×Entry)
 |(_,_,y2)=> [(0,(.row false 169 axj y2))]
def agp:Nat→np→List (Nat×SV)
 |0,(_,_,_)=> [(4,(.one ⟨false,[(.val (.bool false))]⟩))]
 |1,(_,_,_)=> [(4,(.one ⟨false,[(.val (.bool false))]⟩))]
 |_,(_,_,_)=> []
def age:Nat→np→List (Nat×Entry)
 |0,(_,_,y2)=> [(0,(.row false 169 axj y2))]
 |1,(_,_,y2)=> [(0,(.row false 169 axj y2))]
 |_,(_,_,y2)=> [(0,(.row false 169 axj y2))]
def zt:np→LT np
 |(y0,y1,y2)=> .ite (BW y0 y2) (.need [(WJ y0),(BW y0 y2),(WK y0 y2)] (.ite (OL y0 y1 y2) (.ext 0 [(0,0)]) (.need [(WL y0 y2)] (.ite (OM y0 y2) (.ext 1 [(0,0)]) (.nrm ((WM y0),y1,y2) [(0,0)]))))) (.ext 2 [(0,0)])
def Nq(s:St):Option np:=
 (match s.look 5 with
 |some ⟨none,(.one ⟨false,[(.val (.int .i64 y0))]⟩)⟩=>
 (match s.look 1 with
 |some ⟨none,(.one ⟨false,[(.ref 0)]⟩)⟩=>
 (match s.look 0 with
 |some ⟨none,(.one ⟨false,[(.val (.int .i64 y1))]⟩)⟩=>
 (match s.ent 0 with
 |some (.row false 169 (.pair (.int .i64) (.pair (.int .i64) (.int .i64))) y2)=>
 some (y0,y1,y2)
 |_=>none)
 |_=>none)
 |_=>none)
 |_=>none)
def cA:Lp np where
 h:=⟨[8,9,10,11,14,15,16,17,6,18,19,20,21,22,23,24,25,26,27,28,29,30,31,32,33,34,35,4,7,36,37,38,41,42,43,44,45,46,47,48,49,50,51,52,53,54,55,56,57,58,39,40,12,13,5],[0],[],[]⟩
 JL:=afS
 JE:=afI
 XL:=agp
 XE:=age
 q:=fun j=>match j with | 0=> .ret | 1=> .ret | _=> .exit 0
 tags:= [0,1,2]
 lt:=zt
 fuel:=fun(y0,y1,y2)=>y0.natAbs + y1.natAbs + y2.length
 fix:=fun(_,y1,y2) (y0,_,_)=>(y0,y1,y2)
 σ:= [(0,0)]
 rd:=Nq
theorem adx:LoopOk Tryz.prog (fun k=>Nat.blt k Tryz.f85.ntmps) cA.F (au Tryz.f85 0):=by
 refine Lp.ok (tbl:= [UF,fB]) (lf:= [bP.F]) aq cA (by kernel_rfl) (LOk.allT (l:= [amp (au Tryz.f85 0) 0]) (by kernel_rfl) (.cons ZK (.nil _))) (fun _=>rfl) (fun j _=>by unfold cA;match j with | 0=>rfl | 1=>rfl | _ + 2=>rfl) ?_ ?_ ?_ ?_ (fun _=>rfl) ?_
 ·rintro⟨y0,y1,y2⟩;kernel_rfl
 ·rintro⟨y0,y1,y2⟩;kernel_rfl
 ·intro s x h
  have h:Nq s=some x:=h
  unfold Nq at h
  repeat' split at h
  all_goals cases h
  exact⟨aa (by assumption) rfl (aa (by assumption) rfl (aa (by assumption) rfl (rfl))),ab rfl (by assumption) rfl (rfl)⟩
 ·rintro⟨y0,y1,y2⟩;kernel_rfl
 ·rintro⟨y0,y1,y2⟩ z;exact(And.intro (And.intro trivial (And.intro trivial rfl)) trivial)
section
variable (x0:Int)(x1:List (Int×Int×Int))
def Gy:Int×Int×List (Int×Int×Int):=((0:Int),x0,x1)
def UH:Bool:=bif Nat.beq ((Lp.res cA (Gy x0 x1)).1) (0:Nat)then false else bif Nat.beq ((Lp.res cA (Gy x0 x1)).1) (1:Nat)then false else bif UM x0 then leI (↑x1.length:Int) (8:Int)else false
def UI:Bool:=allT [Lp.fin cA (Gy x0 x1)]
end
def abB:List SV→List Entry→Option Out
 | [.one ⟨false,[.val (.int .i64 x0)]⟩,.one ⟨false,[.ref 0]⟩],[.row false 169 (.pair (.int .i64) (.pair (.int .i64) (.int .i64))) x1]=>some ⟨(.one ⟨false,[(.val (.bool (UH x0 x1)))]⟩),[(.row false 169 axj x1)],[],[(UI x0 x1)]⟩
 |_,_=>none
def amT:PF Tryz.prog:=PF.ofG Tryz.prog [UF,fB] [cA.F] aq 85 Tryz.f85 Tryz.func85 (LOk.fnT (l:= [au Tryz.f85 0]) (by kernel_rfl) (.cons adx (.nil _))) abB (by
 intro vs es r h;unfold abB at h;split at h
 ·cases h;kernel_rfl
 ·cases h)
def MR(x0:Int):Bool:=bif x0==(0:Int)then true else x0==(1:Int)
def Vd:List SV→List Entry→Option Out
 | [.one ⟨false,[.val (.int .i64 x0)]⟩],[]=>some ⟨(.one ⟨false,[(.val (.bool (MR x0)))]⟩),[],[],[]⟩
 |_,_=>none
def Vx:PF Tryz.prog:=PF.ofG Tryz.prog [] [] aq 163 Tryz.f163 Tryz.func163 (fun c _=>LOk.nil c) Vd (by
 intro vs es r h;unfold Vd at h;split at h
 ·cases h;kernel_rfl
 ·cases h)
def yo(x0 x1 x3 x4:Int):Bool:=bif x0==x3 then x1==x4 else false
def yk:List SV→List Entry→Option Out
 | [(.one ⟨true,[(.val (.int .i64 x0)),(.val (.int .i64 x1)),(.val (.int .i64 _x2))]⟩),(.one ⟨false,[(.ptr 0 0)]⟩)],[(.box 169 [(.val (.int .i64 x3)),(.val (.int .i64 x4)),(.val (.int .i64 x5))])]=>some ⟨(.one ⟨false,[(.val (.bool (yo x0 x1 x3 x4)))]⟩),[(.box 169 [(.val (.int .i64 x3)),(.val (.int .i64 x4)),(.val (.int .i64 x5))])],[],[]⟩
 |_,_=>none
def Pp:PF Tryz.prog:=PF.kept (PF.ofG Tryz.prog [] [] aq 165 Tryz.f165 Tryz.func165 (fun c _=>LOk.nil c) yk (by
 intro vs es r h;unfold yk at h;split at h
 ·cases h;kernel_rfl
 ·cases h)) [0] (by
 intro vs es r h;have h:yk vs es=some r:=h;unfold yk at h;split at h
 ·cases h;exact List.forall_mem_cons.2 ⟨rfl,fun _ h=>(by cases h)⟩
 ·cases h)
abbrev aJ:=Int×Int×Int×Int×Int×List (Int×(Int×Int))
section
variable (y0 y1 y2 y3:Int)(y5:List (Int×(Int×Int)))
def ce:Int×Int×Int:=Option.getD y5[Int.toNat y0]? ((0:Int),(0:Int),(0:Int))
def d9:Bool:=ltI y0 y1
def ea:Bool:=leI (0:Int) y0
def eb:Bool:=ltI y0 (↑y5.length:Int)
def ec:Bool:=ltN y0.toNat y5.length
def ed:Bool:=yo ((ce y0 y5).1) (((ce y0 y5).2).1) y2 y3
def ee:Int:=IntKind.wrap .i64 (y0 + (1:Int))
end
def HS:aJ→List (Nat×SV)
 |(y0,y1,_,_,_,_)=> [(8,(.one ⟨false,[(.val (.int .i64 y0))]⟩)),(7,(.one ⟨false,[(.val (.int .i64 y1))]⟩)),(1,(.one ⟨false,[(.clo 165 [0])]⟩)),(0,(.one ⟨false,[(.ref 1)]⟩))]
def HR:aJ→List (Nat×Entry)
 |(_,_,y2,y3,y4,y5)=> [(0,(.box 169 [(.val (.int .i64 y2)),(.val (.int .i64 y3)),(.val (.int .i64 y4))])),(1,(.row false 169 axj y5))]
def HU:Nat→aJ→List (Nat×SV)
 |0,(y0,_,_,_,_,_)=> [(4,(.one ⟨false,[(.val (.int .i64 y0))]⟩))]
 |_,(_,_,_,_,_,_)=> []
def HT:Nat→aJ→List (Nat×Entry)
 |0,(_,_,y2,y3,y4,y5)=> [(0,(.box 169 [(.val (.int .i64 y2)),(.val (.int .i64 y3)),(.val (.int .i64 y4))])),(1,(.row false 169 axj y5))]
 |_,(_,_,y2,y3,y4,y5)=> [(0,(.box 169 [(.val (.int .i64 y2)),(.val (.int .i64 y3)),(.val (.int .i64 y4))])),(1,(.row false 169 axj y5))]
def dH:aJ→LT aJ
 |(y0,y1,y2,y3,y4,y5)=> .ite (d9 y0 y1) (.need [(ea y0),(eb y0 y5),(ec y0 y5)] (.ite (ed y0 y2 y3 y5) (.ext 0 [(0,0),(1,1)]) (.nrm ((ee y0),y1,y2,y3,y4,y5) [(0,0),(1,1)]))) (.ext 1 [(0,0),(1,1)])
def kJ(s:St):Option aJ:=
 (match s.look 8 with
 |some ⟨none,(.one ⟨false,[(.val (.int .i64 y0))]⟩)⟩=>
 (match s.look 7 with
 |some ⟨none,(.one ⟨false,[(.val (.int .i64 y1))]⟩)⟩=>
 (match s.look 1 with
 |some ⟨none,(.one ⟨false,[(.clo 165 [1])]⟩)⟩=>
 (match s.look 0 with
 |some ⟨none,(.one ⟨false,[(.ref 0)]⟩)⟩=>
 (match s.ent 1 with
 |some (.box 169 [(.val (.int .i64 y2)),(.val (.int .i64 y3)),(.val (.int .i64 y4))])=>
 (match s.ent 0 with
 |some (.row false 169 (.pair (.int .i64) (.pair (.int .i64) (.int .i64))) y5)=>
 some (y0,y1,y2,y3,y4,y5)
 |_=>none)
 |_=>none)
 |_=>none)
 |_=>none)
 |_=>none)
 |_=>none)
def ag:Lp aJ where
 h:=⟨[9,10,5,11,12,13,14,15,16,17,4,18,8],[0,1],[],[]⟩
 JL:=HS
 JE:=HR
 XL:=HU
 XE:=HT
 q:=fun j=>match j with | 0=> .ret | _=> .exit 0
 tags:= [0,1]
 lt:=dH
 fuel:=fun(y0,y1,y2,y3,y4,y5)=>y0.natAbs + y1.natAbs + y2.natAbs + y3.natAbs + y4.natAbs + y5.length
 fix:=fun(_,y1,y2,y3,y4,y5) (y0,_,_,_,_,_)=>(y0,y1,y2,y3,y4,y5)
 σ:= [(0,1),(1,0)]
 rd:=kJ
theorem Gl:LoopOk Tryz.prog (fun k=>Nat.blt k Tryz.f215.ntmps) ag.F (au Tryz.f215 0):=by
 refine Lp.ok (tbl:= [Pp]) (lf:= []) aq ag (by kernel_rfl) (LOk.nil _) (fun _=>rfl) (fun j _=>by unfold ag;match j with | 0=>rfl | _ + 1=>rfl) ?_ ?_ ?_ ?_ (fun _=>rfl) ?_
 ·rintro⟨y0,y1,y2,y3,y4,y5⟩;kernel_rfl
 ·rintro⟨y0,y1,y2,y3,y4,y5⟩;kernel_rfl
 ·intro s x h
  have h:kJ s=some x:=h
  unfold kJ at h
  repeat' split at h
  all_goals cases h
  exact⟨aa (by assumption) rfl (aa (by assumption) rfl (aa (by assumption) rfl (aa (by assumption) rfl (rfl)))),ab rfl (by assumption) rfl (ab rfl (by assumption) rfl (rfl))⟩
 ·rintro⟨y0,y1,y2,y3,y4,y5⟩;kernel_rfl
 ·rintro⟨y0,y1,y2,y3,y4,y5⟩ z;exact(And.intro (And.intro trivial rfl) trivial)
section
variable (x0:List (Int×Int×Int))(x1 x2 x3:Int)
def eY:Int×Int×Int×Int×Int×List (Int×Int×Int):=((0:Int),(↑x0.length:Int),x1,x2,x3,x0)
def cU:Bool:=Nat.beq ((Lp.res ag (eY x0 x1 x2 x3)).1) (0:Nat)
def iU:Int:=bif cU x0 x1 x2 x3 then ((Lp.res ag (eY x0 x1 x2 x3)).2).1else(-1:Int)
def iV:Int:=bif cU x0 x1 x2 x3 then x1 else x1
def iW:Int:=bif cU x0 x1 x2 x3 then x2 else x2
def iX:Int:=bif cU x0 x1 x2 x3 then x3 else x3
def iY:Bool:=allT [Lp.fin ag (eY x0 x1 x2 x3)]
end
def vI:List SV→List Entry→Option Out
 | [(.one ⟨false,[(.ref 0)]⟩),(.one ⟨false,[(.clo 165 [1])]⟩)],[(.row false 169 (.pair (.int .i64) (.pair (.int .i64) (.int .i64))) x0),(.box 169 [(.val (.int .i64 x1)),(.val (.int .i64 x2)),(.val (.int .i64 x3))])]=>some ⟨(.one ⟨false,[(.val (.int .i64 (iU x0 x1 x2 x3)))]⟩),[(.row false 169 axj x0),(.box 169 [(.val (.int .i64 (iV x0 x1 x2 x3))),(.val (.int .i64 (iW x0 x1 x2 x3))),(.val (.int .i64 (iX x0 x1 x2 x3)))])],[],[(iY x0 x1 x2 x3)]⟩
 |_,_=>none
def mQ:PF Tryz.prog:=PF.ofG Tryz.prog [Pp] [ag.F] aq 215 Tryz.f215 Tryz.func215 (LOk.fnT (l:= [au Tryz.f215 0]) (by kernel_rfl) (.cons Gl (.nil _))) vI (by
 intro vs es r h;unfold vI at h;split at h
 ·cases h;kernel_rfl
 ·cases h)
section
variable (x0:List (Int×Int×Int))(x1 x2 x3:Int)
def d4:Bool:=leI (0:Int) (iU x0 x1 x2 x3)
def lw:Int:=iV x0 x1 x2 x3
def ly:Int:=iW x0 x1 x2 x3
def lz:Int:=iX x0 x1 x2 x3
def d8:Bool:=allT [iY x0 x1 x2 x3]
end
def tq:List SV→List Entry→Option Out
 | [(.one ⟨false,[(.ref 0)]⟩),(.one ⟨false,[(.clo 165 [1])]⟩)],[(.row false 169 (.pair (.int .i64) (.pair (.int .i64) (.int .i64))) x0),(.box 169 [(.val (.int .i64 x1)),(.val (.int .i64 x2)),(.val (.int .i64 x3))])]=>some ⟨(.one ⟨false,[(.val (.bool (d4 x0 x1 x2 x3)))]⟩),[(.row false 169 axj x0),(.box 169 [(.val (.int .i64 (lw x0 x1 x2 x3))),(.val (.int .i64 (ly x0 x1 x2 x3))),(.val (.int .i64 (lz x0 x1 x2 x3)))])],[],[(d8 x0 x1 x2 x3)]⟩
 |_,_=>none
def cu:PF Tryz.prog:=PF.ofG Tryz.prog [mQ,PF.lend mQ,PF.fz mQ] [] aq 164 Tryz.f164 Tryz.func164 (fun c _=>LOk.nil c) tq (by
 intro vs es r h;unfold tq at h;split at h
 ·cases h;kernel_rfl
 ·cases h)
abbrev nn:=Int×Int×Int×List (Int×(Int×Int))
section
variable (y0 y1 y2:Int)(y3:List (Int×(Int×Int)))
def gI:Int×Int×Int:=Option.getD y3[Int.toNat y0]? ((0:Int),(0:Int),(0:Int))
def Vq:List (Int×Int×Int):=List.drop (Int.toNat (0:Int)) (List.take y0.toNat y3)
def HZ:Bool:=ltI y0 y1
def Ok:Bool:=leI (0:Int) y0
def WC:Bool:=ltI y0 (↑y3.length:Int)
def WD:Bool:=ltN y0.toNat y3.length
def Ol:Bool:=bif bif !ba ((gI y0 y3).1) (0:Int) (IntKind.wrap .i64 (y2 - (1:Int)))then true else bif ((gI y0 y3).2).1!=(0:Int)then ((gI y0 y3).2).1!=(1:Int)else false then true else !MR ((gI y0 y3).2.2)
end
def WE:Bool:=leI (0:Int) (0:Int)
section
variable (y0:Int)(y3:List (Int×(Int×Int)))
def WF:Bool:=leI y0 (↑y3.length:Int)
def WG:Bool:=d8 (Vq y0 y3) ((gI y0 y3).1) (((gI y0 y3).2).1) ((gI y0 y3).2.2)
def WH:Bool:=d4 (Vq y0 y3) ((gI y0 y3).1) (((gI y0 y3).2).1) ((gI y0 y3).2.2)
def WI:Int:=IntKind.wrap .i64 (y0 + (1:Int))
end
def afK:nn→List (Nat×SV)
 |(y0,y1,y2,_)=> [(9,(.one ⟨false,[(.val (.int .i64 y0))]⟩)),(8,(.one ⟨false,[(.val (.int .i64 y1))]⟩)),(7,(.one ⟨false,[(.ref 0)]⟩)),(0,(.one ⟨false,[(.val (.int .i64 y2))]⟩)),(1,(.one ⟨false,[(.ref 0)]⟩))]
def afA:nn→List (Nat×Entry)
 |(_,_,_,y3)=> [(0,(.row false 169 axj y3))]
def agh:Nat→nn→List (Nat×SV)
 |0,(_,_,_,_)=> [(4,(.one ⟨false,[(.val (.bool false))]⟩))]
 |1,(_,_,_,_)=> [(4,(.one ⟨false,[(.val (.bool false))]⟩))]
 |_,(_,_,_,_)=> []
def af6:Nat→nn→List (Nat×Entry)
 |0,(_,_,_,y3)=> [(0,(.row false 169 axj y3))]
 |1,(_,_,_,y3)=> [(0,(.row false 169 axj y3))]
 |_,(_,_,_,y3)=> [(0,(.row false 169 axj y3))]
def zk:nn→LT nn
 |(y0,y1,y2,y3)=> .ite (HZ y0 y1) (.need [(Ok y0),(WC y0 y3),(WD y0 y3)] (.ite (Ol y0 y2 y3) (.ext 0 [(0,0)]) (.need [(WE),(Ok y0),(WF y0 y3),(WG y0 y3)] (.ite (WH y0 y3) (.ext 1 [(0,0)]) (.nrm ((WI y0),y1,y2,y3) [(0,0)]))))) (.ext 2 [(0,0)])
def Ng(s:St):Option nn:=
 (match s.look 9 with
 |some ⟨none,(.one ⟨false,[(.val (.int .i64 y0))]⟩)⟩=>
 (match s.look 8 with
 |some ⟨none,(.one ⟨false,[(.val (.int .i64 y1))]⟩)⟩=>
 (match s.look 7 with
 |some ⟨none,(.one ⟨false,[(.ref 0)]⟩)⟩=>
 (match s.look 0 with
 |some ⟨none,(.one ⟨false,[(.val (.int .i64 y2))]⟩)⟩=>
 (match s.look 1 with
 |some ⟨none,(.one ⟨false,[(.ref 0)]⟩)⟩=>
 (match s.ent 0 with
 |some (.row false 169 (.pair (.int .i64) (.pair (.int .i64) (.int .i64))) y3)=>
 some (y0,y1,y2,y3)
 |_=>none)
 |_=>none)
 |_=>none)
 |_=>none)
 |_=>none)
 |_=>none)
def cw:Lp nn where
 h:=⟨[10,11,12,13,6,5,14,15,16,17,18,19,20,21,22,23,24,25,26,27,28,29,30,31,32,33,34,35,4,36,37,38,39,40,41,9],[0],[],[]⟩
 JL:=afK
 JE:=afA
 XL:=agh
 XE:=af6
 q:=fun j=>match j with | 0=> .ret | 1=> .ret | _=> .exit 0
 tags:= [0,1,2]
 lt:=zk
 fuel:=fun(y0,y1,y2,y3)=>y0.natAbs + y1.natAbs + y2.natAbs + y3.length
 fix:=fun(_,y1,y2,y3) (y0,_,_,_)=>(y0,y1,y2,y3)
 σ:= [(0,0)]
 rd:=Ng
theorem adp:LoopOk Tryz.prog (fun k=>Nat.blt k Tryz.f76.ntmps) cw.F (au Tryz.f76 0):=by
 refine Lp.ok (tbl:= [Vx,gG,cu,PF.lend cu,PF.fz cu]) (lf:= []) aq cw (by kernel_rfl) (LOk.nil _) (fun _=>rfl) (fun j _=>by unfold cw;match j with | 0=>rfl | 1=>rfl | _ + 2=>rfl) ?_ ?_ ?_ ?_ (fun _=>rfl) ?_
 ·rintro⟨y0,y1,y2,y3⟩;kernel_rfl
 ·rintro⟨y0,y1,y2,y3⟩;kernel_rfl
 ·intro s x h
  have h:Ng s=some x:=h
  unfold Ng at h
  repeat' split at h
  all_goals cases h
  exact⟨aa (by assumption) rfl (aa (by assumption) rfl (aa (by assumption) rfl (aa (by assumption) rfl (aa (by assumption) rfl (rfl))))),ab rfl (by assumption) rfl (rfl)⟩
 ·rintro⟨y0,y1,y2,y3⟩;kernel_rfl
 ·rintro⟨y0,y1,y2,y3⟩ z;exact(And.intro (And.intro trivial (And.intro trivial rfl)) trivial)
section
variable (x0:Int)(x1:List (Int×Int×Int))
def FE:Int×Int×Int×List (Int×Int×Int):=((0:Int),(↑x1.length:Int),x0,x1)
def TS:Bool:=bif Nat.beq ((Lp.res cw (FE x0 x1)).1) (0:Nat)then false else bif Nat.beq ((Lp.res cw (FE x0 x1)).1) (1:Nat)then false else leI (↑x1.length:Int) (8:Int)
def TT:Bool:=allT [Lp.fin cw (FE x0 x1)]
end
def abn:List SV→List Entry→Option Out
 | [.one ⟨false,[.val (.int .i64 x0)]⟩,.one ⟨false,[.ref 0]⟩],[.row false 169 (.pair (.int .i64) (.pair (.int .i64) (.int .i64))) x1]=>some ⟨(.one ⟨false,[(.val (.bool (TS x0 x1)))]⟩),[(.row false 169 axj x1)],[],[(TT x0 x1)]⟩
 |_,_=>none
def amG:PF Tryz.prog:=PF.ofG Tryz.prog [Vx,gG,cu,PF.lend cu,PF.fz cu] [cw.F] aq 76 Tryz.f76 Tryz.func76 (LOk.fnT (l:= [au Tryz.f76 0]) (by kernel_rfl) (.cons adp (.nil _))) abn (by
 intro vs es r h;unfold abn at h;split at h
 ·cases h;kernel_rfl
 ·cases h)
def Sb(x0:Int)(x1:List (Int×Int×Int)):Int:=IntKind.wrap .i64 (x0 - (↑x1.length:Int))
def fD(x0:Int)(x1:List (Int×Int×Int)):Int:=bif ltI (Sb x0 x1) (0:Int)then(-1:Int)else Sb x0 x1
def Tw:List SV→List Entry→Option Out
 | [.one ⟨false,[.ref 0]⟩,.one ⟨false,[.val (.int .i64 x0)]⟩],[.row false 206 (.pair (.int .i64) (.pair (.int .i64) (.int .i64))) x1]=>some ⟨(.one ⟨false,[(.val (.int .i64 (fD x0 x1)))]⟩),[(.row false 206 axj x1)],[],[]⟩
 |_,_=>none
def LJ:PF Tryz.prog:=PF.ofG Tryz.prog [] [] aq 105 Tryz.f105 Tryz.func105 (fun c _=>LOk.nil c) Tw (by
 intro vs es r h;unfold Tw at h;split at h
 ·cases h;kernel_rfl
 ·cases h)
def Vg:List SV→List Entry→Option Out
 | [.one ⟨true,[.val (.int .i64 x0),.val (.int .i64 x1),.val (.int .i64 x2)]⟩],[]=>some ⟨(.one ⟨true,[(.val (.int .i64 x0)),(.val (.int .i64 x1)),(.val (.int .i64 x2))]⟩),[],[],[]⟩
 |_,_=>none
def Vz:PF Tryz.prog:=PF.ofG Tryz.prog [] [] aq 190 Tryz.f190 Tryz.func190 (fun c _=>LOk.nil c) Vg (by
 intro vs es r h;unfold Vg at h;split at h
 ·cases h;kernel_rfl
 ·cases h)
abbrev eA:=Int×List (Int×(Int×Int))×List (Int×(Int×Int))
section
variable (y0:Int)(y1 y2:List (Int×(Int×Int)))
def jM:Int×Int×Int:=Option.getD y1[Int.toNat y0]? ((0:Int),(0:Int),(0:Int))
def nf:Bool:=ltI y0 (↑y1.length:Int)
def ng:Bool:=leI (0:Int) y0
def sF:Bool:=ltN y0.toNat y1.length
def sG:Bool:=ltI y0 (↑y2.length:Int)
def sH:Bool:=ltN y0.toNat y2.length
def sI:Int:=IntKind.wrap .i64 (y0 + (1:Int))
def sJ:List (Int×(Int×Int)):=List.set y2 y0.toNat ((jM y0 y1).1,((jM y0 y1).2).1,(jM y0 y1).2.2)
end
def Zw:eA→List (Nat×SV)
 |(y0,_,_)=> [(4,(.one ⟨false,[(.val (.int .i64 y0))]⟩)),(0,(.one ⟨false,[(.ref 0)]⟩)),(3,(.one ⟨false,[(.ref 1)]⟩))]
def Zr:eA→List (Nat×Entry)
 |(_,y1,y2)=> [(0,(.row false 206 axj y1)),(1,(.row true 169 axj y2))]
def ZG:Nat→eA→List (Nat×SV)
 |_,(_,_,_)=> []
def ZB:Nat→eA→List (Nat×Entry)
 |_,(_,y1,y2)=> [(0,(.row false 206 axj y1)),(1,(.row true 169 axj y2))]
def ra:eA→LT eA
 |(y0,y1,y2)=> .ite (nf y0 y1) (.need [(ng y0),(nf y0 y1),(sF y0 y1),(ng y0),(sG y0 y2),(sH y0 y2)] (.nrm ((sI y0),y1,(sJ y0 y1 y2)) [(0,0),(1,1)])) (.ext 0 [(0,0),(1,1)])
def Fk(s:St):Option eA:=
 (match s.look 4 with
 |some ⟨none,(.one ⟨false,[(.val (.int .i64 y0))]⟩)⟩=>
 (match s.look 0 with
 |some ⟨none,(.one ⟨false,[(.ref 0)]⟩)⟩=>
 (match s.look 3 with
 |some ⟨none,(.one ⟨false,[(.ref 320)]⟩)⟩=>
 (match s.ent 0 with
 |some (.row false 206 (.pair (.int .i64) (.pair (.int .i64) (.int .i64))) y1)=>
 (match s.ent 320 with
 |some (.row true 169 (.pair (.int .i64) (.pair (.int .i64) (.int .i64))) y2)=>
 some (y0,y1,y2)
 |_=>none)
 |_=>none)
 |_=>none)
 |_=>none)
 |_=>none)
def bI:Lp eA where
 h:=⟨[8,9,10,11,14,15,16,17,18,19,20,21,12,13,4],[0,1],[],[]⟩
 JL:=Zw
 JE:=Zr
 XL:=ZG
 XE:=ZB
 q:=fun j=>match j with | _=> .exit 0
 tags:= [0]
 lt:=ra
 fuel:=fun(y0,y1,y2)=>y0.natAbs + y1.length + y2.length
 fix:=fun(_,y1,_) (y0,_,y2)=>(y0,y1,y2)
 σ:= [(0,0),(1,320)]
 rd:=Fk
theorem Xh:LoopOk Tryz.prog (fun k=>Nat.blt k Tryz.f111.ntmps) bI.F (au Tryz.f111 0):=by
 refine Lp.ok (tbl:= [Vz]) (lf:= []) aq bI (by kernel_rfl) (LOk.nil _) (fun _=>rfl) (fun _ _=>rfl) ?_ ?_ ?_ ?_ (fun _=>rfl) ?_
 ·rintro⟨y0,y1,y2⟩;kernel_rfl
 ·rintro⟨y0,y1,y2⟩;kernel_rfl
 ·intro s x h
  have h:Fk s=some x:=h
  unfold Fk at h
  repeat' split at h
  all_goals cases h
  exact⟨aa (by assumption) rfl (aa (by assumption) rfl (aa (by assumption) rfl (rfl))),ab rfl (by assumption) rfl (ab rfl (by assumption) rfl (rfl))⟩
 ·rintro⟨y0,y1,y2⟩;kernel_rfl
 ·rintro⟨y0,y1,y2⟩ z;exact(And.intro rfl trivial)
section
variable (x0:List (Int×Int×Int))
def Cf:Int×List (Int×Int×Int)×List (Int×Int×Int):=((0:Int),x0,List.replicate (Int.toNat (↑x0.length:Int)) ((0:Int),(0:Int),(0:Int)))
def ET:List (Int×(Int×Int)):=(Lp.res bI (Cf x0)).2.2.2
def EU:Bool:=allT [leI (0:Int) (↑x0.length:Int),leI (↑x0.length:Int) (↑x0.length:Int),leI ((↑(24:Nat):Int) * (↑x0.length:Int)) (281474976710656:Int),leI (↑x0.length:Int) (9223372036854775807:Int),Lp.fin bI (Cf x0)]
end
def Tx:List SV→List Entry→Option Out
 | [.one ⟨false,[.ref 0]⟩],[.row false 206 (.pair (.int .i64) (.pair (.int .i64) (.int .i64))) x0]=>some ⟨(.one ⟨false,[(.ref 1)]⟩),[(.row false 206 axj x0)],[(.row true 169 axj (ET x0))],[(EU x0)]⟩
 |_,_=>none
def ae6:PF Tryz.prog:=PF.ofG Tryz.prog [Vz] [bI.F] aq 111 Tryz.f111 Tryz.func111 (LOk.fnT (l:= [au Tryz.f111 0]) (by kernel_rfl) (.cons Xh (.nil _))) Tx (by
 intro vs es r h;unfold Tx at h;split at h
 ·cases h;kernel_rfl
 ·cases h)
def yX(x0 x1 x2 x3 x4 x5:Int):Bool:=bif x0 !=x3 then false else bif x1 !=x4 then false else bif x2 !=x5 then false else true
def Ve:List SV→List Entry→Option Out
 | [.one ⟨true,[.val (.int .i64 x0),.val (.int .i64 x1),.val (.int .i64 x2)]⟩,.one ⟨true,[.val (.int .i64 x3),.val (.int .i64 x4),.val (.int .i64 x5)]⟩],[]=>some ⟨(.one ⟨false,[(.val (.bool (yX x0 x1 x2 x3 x4 x5)))]⟩),[],[],[]⟩
 |_,_=>none
def Vy:PF Tryz.prog:=PF.ofG Tryz.prog [] [] aq 194 Tryz.f194 Tryz.func194 (fun c _=>LOk.nil c) Ve (by
 intro vs es r h;unfold Ve at h;split at h
 ·cases h;kernel_rfl
 ·cases h)
abbrev ex:=Int×List (Int×(Int×Int))×List (Int×(Int×Int))
section
variable (y0:Int)(y1 y2:List (Int×(Int×Int)))
def jJ:Int×Int×Int:=Option.getD y1[Int.toNat y0]? ((0:Int),(0:Int),(0:Int))
def jK:Int×Int×Int:=Option.getD y2[Int.toNat y0]? ((0:Int),(0:Int),(0:Int))
def m8:Bool:=ltI y0 (↑y1.length:Int)
def m9:Bool:=leI (0:Int) y0
def sf:Bool:=ltN y0.toNat y1.length
def sg:Bool:=ltI y0 (↑y2.length:Int)
def si:Bool:=ltN y0.toNat y2.length
def sj:Bool:= !yX ((jJ y0 y1).1) (((jJ y0 y1).2).1) ((jJ y0 y1).2.2) ((jK y0 y2).1) (((jK y0 y2).2).1) ((jK y0 y2).2.2)
def sk:Int:=IntKind.wrap .i64 (y0 + (1:Int))
end
def Zt:ex→List (Nat×SV)
 |(y0,_,_)=> [(5,(.one ⟨false,[(.val (.int .i64 y0))]⟩)),(0,(.one ⟨false,[(.ref 0)]⟩)),(1,(.one ⟨false,[(.ref 1)]⟩))]
def Zo:ex→List (Nat×Entry)
 |(_,y1,y2)=> [(0,(.row false 169 axj y1)),(1,(.row false 169 axj y2))]
def ZD:Nat→ex→List (Nat×SV)
 |0,(_,_,_)=> [(4,(.one ⟨false,[(.val (.bool false))]⟩))]
 |_,(_,_,_)=> []
def Zy:Nat→ex→List (Nat×Entry)
 |0,(_,y1,y2)=> [(0,(.row false 169 axj y1)),(1,(.row false 169 axj y2))]
 |_,(_,y1,y2)=> [(0,(.row false 169 axj y1)),(1,(.row false 169 axj y2))]
def qZ:ex→LT ex
 |(y0,y1,y2)=> .ite (m8 y0 y1) (.need [(m9 y0),(m8 y0 y1),(sf y0 y1),(m9 y0),(sg y0 y2),(si y0 y2)] (.ite (sj y0 y1 y2) (.ext 0 [(0,0),(1,1)]) (.nrm ((sk y0),y1,y2) [(0,0),(1,1)]))) (.ext 1 [(0,0),(1,1)])
def Fh(s:St):Option ex:=
 (match s.look 5 with
 |some ⟨none,(.one ⟨false,[(.val (.int .i64 y0))]⟩)⟩=>
 (match s.look 0 with
 |some ⟨none,(.one ⟨false,[(.ref 0)]⟩)⟩=>
 (match s.look 1 with
 |some ⟨none,(.one ⟨false,[(.ref 1)]⟩)⟩=>
 (match s.ent 0 with
 |some (.row false 169 (.pair (.int .i64) (.pair (.int .i64) (.int .i64))) y1)=>
 (match s.ent 1 with
 |some (.row false 169 (.pair (.int .i64) (.pair (.int .i64) (.int .i64))) y2)=>
 some (y0,y1,y2)
 |_=>none)
 |_=>none)
 |_=>none)
 |_=>none)
 |_=>none)
def bv:Lp ex where
 h:=⟨[11,12,13,14,17,18,19,20,21,22,23,24,25,26,4,15,16,5],[0,1],[],[]⟩
 JL:=Zt
 JE:=Zo
 XL:=ZD
 XE:=Zy
 q:=fun j=>match j with | 0=> .ret | _=> .exit 0
 tags:= [0,1]
 lt:=qZ
 fuel:=fun(y0,y1,y2)=>y0.natAbs + y1.length + y2.length
 fix:=fun(_,y1,y2) (y0,_,_)=>(y0,y1,y2)
 σ:= [(0,0),(1,1)]
 rd:=Fh
theorem Xe:LoopOk Tryz.prog (fun k=>Nat.blt k Tryz.f117.ntmps) bv.F (au Tryz.f117 0):=by
 refine Lp.ok (tbl:= [Vy]) (lf:= []) aq bv (by kernel_rfl) (LOk.nil _) (fun _=>rfl) (fun j _=>by unfold bv;match j with | 0=>rfl | _ + 1=>rfl) ?_ ?_ ?_ ?_ (fun _=>rfl) ?_
 ·rintro⟨y0,y1,y2⟩;kernel_rfl
 ·rintro⟨y0,y1,y2⟩;kernel_rfl
 ·intro s x h
  have h:Fh s=some x:=h
  unfold Fh at h
  repeat' split at h
  all_goals cases h
  exact⟨aa (by assumption) rfl (aa (by assumption) rfl (aa (by assumption) rfl (rfl))),ab rfl (by assumption) rfl (ab rfl (by assumption) rfl (rfl))⟩
 ·rintro⟨y0,y1,y2⟩;kernel_rfl
 ·rintro⟨y0,y1,y2⟩ z;exact(And.intro (And.intro trivial rfl) trivial)
section
variable (x0 x1:List (Int×Int×Int))
def Cc:Bool:=(↑x0.length:Int)!=(↑x1.length:Int)
def Cd:Int×List (Int×Int×Int)×List (Int×Int×Int):=((0:Int),x0,x1)
def EL:Bool:=bif Cc x0 x1 then false else bif Nat.beq ((Lp.res bv (Cd x0 x1)).1) (0:Nat)then false else true
def EM:Bool:=allT [Cc x0 x1||Lp.fin bv (Cd x0 x1)]
end
def Tt:List SV→List Entry→Option Out
 | [.one ⟨false,[.ref 0]⟩,.one ⟨false,[.ref 1]⟩],[.row false 169 (.pair (.int .i64) (.pair (.int .i64) (.int .i64))) x0,.row false 169 (.pair (.int .i64) (.pair (.int .i64) (.int .i64))) x1]=>some ⟨(.one ⟨false,[(.val (.bool (EL x0 x1)))]⟩),[(.row false 169 axj x0),(.row false 169 axj x1)],[],[(EM x0 x1)]⟩
 |_,_=>none
def ae3:PF Tryz.prog:=PF.ofG Tryz.prog [Vy] [bv.F] aq 117 Tryz.f117 Tryz.func117 (LOk.fnT (l:= [au Tryz.f117 0]) (by kernel_rfl) (.cons Xe (.nil _))) Tt (by
 intro vs es r h;unfold Tt at h;split at h
 ·cases h;kernel_rfl
 ·cases h)
end Go.SX

namespace Go.SX
open Go.Proofs
set_option maxRecDepth 100000
def fIn(n:Int)(f:Int×Int×Int):Bool:=inR f.1 0 (IntKind.i64.wrap (n - 1))&&(inR f.2.1 0 1&&inR f.2.2 0 1)
def XJ(f g:Int×Int×Int):Bool:=g.1==f.1&&g.2.1==f.2.1
def fAt(fs:List (Int×Int×Int))(b:Nat):Int×Int×Int:=fs[b]?.getD (0,0,0)
def ajT(n:Int)(fs:List (Int×Int×Int))(b:Nat):Bool:= !fIn n (fAt fs b)
def aos(fs:List (Int×Int×Int))(b:Nat):Bool:=(fs.take b).any (XJ (fAt fs b))
def okFs(n:Int)(fs:List (Int×Int×Int)):Bool:=leN fs.length 8&&(List.range fs.length).all fun b=> !(ajT n fs b||aos fs b)
theorem arq{fs:List (Int×Int×Int)}{P:Int×Int×Int→Bool}{b:Nat}(h:b≤fs.length):((List.range b).any fun j=>P (fs[j]?.getD (0,0,0)))=(fs.take b).any P:=by
 rw [Bool.eq_iff_iff]
 simp only [List.any_eq_true,List.mem_range,List.mem_take_iff_getElem]
 constructor
 ·rintro⟨j,hj,hp⟩
  have hl:j < fs.length:=by omega
  rw [List.getElem?_eq_getElem hl]at hp
  exact⟨fs[j],⟨j,by omega,rfl⟩,hp⟩
 ·rintro⟨x,⟨j,hj,rfl⟩,hp⟩
  have hl:j < fs.length:=by omega
  exact⟨j,by omega,by rw [List.getElem?_eq_getElem hl];exact hp⟩
def qw(y2:List (Int×(Int×Int)))(y3 y4:Int)(b:Nat):(Unit)→Nat ⊕ (Unit)
 |_=>(bif(bif((Option.getD y2[b]? ((0:Int),(0:Int),(0:Int))).1==y3)then ((Option.getD y2[b]? ((0:Int),(0:Int),(0:Int))).2).1==y4 else false)then(.inl 0)else(.inr ()))
def lB(y1:Int)(y2:List (Int×(Int×Int)))(y3 y4 y5:Int)(i:Nat):(Unit)→gF
 |_=>((i:Int),y1,y2,y3,y4,y5)
def IO:gF→Unit
 |(_,_,_,_,_,_)=>()
theorem adP(y1:Int)(y2:List (Int×(Int×Int)))(y3 y4 y5:Int) (hn:y1≤9223372036854775807) (hb:y1≤(y2.length:Int)):
  bP.fin ((0:Int),y1,y2,y3,y4,y5)=true∧bP.res ((0:Int),y1,y2,y3,y4,y5)=((ae (qw y2 y3 y4) 1 (List.range y1.toNat) 0 ()).1,(lB y1 y2 y3 y4 y5) (ae (qw y2 y3 y4) 1 (List.range y1.toNat) 0 ()).2.1 (ae (qw y2 y3 y4) 1 (List.range y1.toNat) 0 ()).2.2):=by
 have key:=bP.along (lB y1 y2 y3 y4 y5) IO (qw y2 y3 y4) 1 (fun _ _=>True) (List.range y1.toNat) () (by trivial) (by simp only [bP,lB,List.length_range];omega) (fun i b a hb hI=> ?_) (fun a hI=> ?_)
 ·exact key
 ·obtain⟨⟩:=a
  obtain⟨rfl,hlt⟩:=eu hb
  have hw:IntKind.i64.wrap ((b:Int) + 1)=((b + 1:Nat):Int):=by rw [aw (by omega) (by omega)];omega
  have hdec:ltI (b:Int) y1=true:=bZ (by omega)
  have hnn:leI (0:Int) (b:Int)=true:=bC (by omega)
  refine⟨?_,?_,?_,?_⟩
  ·have h1:ltI (b:Int) (y2.length:Int)=true:=bZ (by omega)
   have h2:ltN b y2.length=true:=cB (by omega)
   simp [pu,jn,uZ,u0,u4,u5,u6,u7,u9,va,vb,tJ,bP,LT.nds,allT,lB,hdec,hnn,h1,h2]
  ·simp [pu,jn,uZ,u0,u4,u5,u6,u7,u9,va,vb,tJ,bP,LT.each,lB,IO,hw]
  ·simp only [pu,jn,uZ,u0,u4,u5,u6,u7,u9,va,vb,tJ,bP,LT.fn,lB,IO,qw,Int.toNat_natCast,hdec,hnn,cond_true,Bool.cond_self]
  ·exact fun _ _=>trivial
 ·obtain⟨⟩:=a
  simp only [pu,jn,uZ,u0,u4,u5,u6,u7,u9,va,vb,tJ,bP,LT.out,lB,List.length_range,acw,agR,cond_false]
theorem auk(fs:List (Int×Int×Int))(b:Nat)(hb:b < fs.length)(hn:fs.length≤9223372036854775807):
  WL (b:Int) fs=true∧OM (b:Int) fs=aos fs b:=by
 obtain⟨w1,w2⟩:=adP (b:Int) fs (fAt fs b).1 (fAt fs b).2.1 (fAt fs b).2.2 (by omega) (by omega)
 rw [jp (P:=fun j=>XJ (fAt fs b) (fs[j]?.getD (0,0,0))) (j:=0) (fun j=>by
  simp only [qw,XJ];cases (fs[j]?.getD (0,0,0)).1==(fAt fs b).1 <;> rfl),Int.toNat_natCast,arq (by omega)]at w2
 refine⟨w1,?_⟩
 have e:Ns (b:Int) fs=(0,(b:Int),fs,(fAt fs b).1,(fAt fs b).2.1,(fAt fs b).2.2):=rfl
 simp only [OM,e,w2,aos]
 cases (fs.take b).any (XJ (fAt fs b)) <;> rfl
theorem av6(n:Int)(fs:List (Int×Int×Int))(b:Nat):OL (b:Int) n fs=ajT n fs b:=by
 simp only [OL,aL,ajT,fIn,fAt,p9,Int.toNat_natCast,vK]
 cases inR (fs[b]?.getD (0,0,0)).1 0 (IntKind.i64.wrap (n - 1)) <;> cases inR (fs[b]?.getD (0,0,0)).2.1 0 1 <;> cases inR (fs[b]?.getD (0,0,0)).2.2 0 1 <;> rfl
def fF(n:Int)(fs:List (Int×Int×Int))(b:Nat)(_:Unit):Nat ⊕ Unit:=bif ajT n fs b then .inl 0 else bif aos fs b then .inl 1 else .inr ()
theorem alZ(n:Int)(fs:List (Int×Int×Int)): ∀ (r:List Nat) (i:Nat),∃ k m,ae (fF n fs) 2 r i ()=(k,m,())∧((k=2∧(r.all fun b=> !(ajT n fs b||aos fs b))=true)∨((k=0∨k=1)∧(r.all fun b=> !(ajT n fs b||aos fs b))=false))
 | [],i=>⟨2,i,rfl,.inl ⟨rfl,rfl⟩⟩
 |b::r,i=>by
  cases h1:ajT n fs b with
  |true=>exact⟨0,i,by simp only [ae,fF,h1,cond_true],.inr ⟨.inl rfl,by simp [h1]⟩⟩
  |false=>
   cases h2:aos fs b with
   |true=>exact⟨1,i,by simp only [ae,fF,h1,h2,cond_true,cond_false],.inr ⟨.inr rfl,by simp [h2]⟩⟩
   |false=>
    obtain⟨k,m,e,h⟩:=alZ n fs r (i + 1)
    exact⟨k,m,by simp only [ae,fF,h1,h2,cond_false];exact e,by simpa [h1,h2] using h⟩
theorem arn(n:Int)(fs:List (Int×Int×Int))(hn:fs.length≤9223372036854775807):
  cA.fin ((0:Int),n,fs)=true∧cA.res ((0:Int),n,fs)=((ae (fF n fs) 2 (List.range fs.length) 0 ()).1,(((ae (fF n fs) 2 (List.range fs.length) 0 ()).2.1:Int),n,fs)):=by
 have key:=cA.along (fun i _=>((i:Int),n,fs)) (fun _=>()) (fF n fs) 2 (fun _ _=>True) (List.range fs.length) () trivial (by simp only [cA,List.length_range];omega) (fun i b a hb hI=> ?_) (fun a hI=> ?_)
 ·exact key
 ·obtain⟨rfl,hlt⟩:=eu hb
  have hw:IntKind.i64.wrap ((b:Int) + 1)=((b + 1:Nat):Int):=by rw [aw (by omega) (by omega)];omega
  have hdec:ltI (b:Int) (fs.length:Int)=true:=bZ (by omega)
  have hnn:leI (0:Int) (b:Int)=true:=bC (by omega)
  have hltd:ltN b fs.length=true:=cB (by omega)
  obtain⟨i1,i2⟩:=auk fs b hlt hn
  have i3:=av6 n fs b
  refine⟨?_,?_,?_,?_⟩
  ·simp [cA,zt,LT.nds,allT,BW,WJ,WK,hdec,hnn,hltd,i1]
  ·simp [cA,zt,LT.each,WM,hw]
  ·simp only [cA,zt,LT.fn,BW,hdec,i2,i3,fF,cond_true]
  ·exact fun _ _=>trivial
 ·simp [cA,zt,LT.out,BW,List.length_range]
theorem apQ(n:Int)(fs:List (Int×Int×Int))(hn:leN fs.length 9223372036854775807=true):UH n fs=(inR n 2 8&&okFs n fs)∧UI n fs=true:=by
 obtain⟨w1,w2⟩:=arn n fs (bT.1 hn)
 obtain⟨k,m,e,h⟩:=alZ n fs (List.range fs.length) 0
 rw [e]at w2
 refine⟨?_,?_⟩
 ·have hl:leI (fs.length:Int) 8=leN fs.length 8:=by rw [Bool.eq_iff_iff];simp;omega
  simp only [UH,Gy,w2,UM,aL,vK,okFs,hl]
  rcases h with⟨rfl,h⟩ | ⟨rfl | rfl,h⟩ <;> rw [h]
  ·cases inR n 2 8 <;> cases leN fs.length 8 <;> rfl
  ·cases inR n 2 8 <;> cases leN fs.length 8 <;> rfl
  ·cases inR n 2 8 <;> cases leN fs.length 8 <;> rfl
 ·simp only [UI,Gy,w1,allT,cond_true]
def ab1:List SV→List Entry→Option Out
 | [.one ⟨false,[.val (.int .i64 x0)]⟩,.one ⟨false,[.ref 0]⟩],[.row false 169 (.pair (.int .i64) (.pair (.int .i64) (.int .i64))) x1]=>some ⟨(.one ⟨false,[(.val (.bool (inR x0 2 8&&okFs x0 x1)))]⟩),[(.row false 169 axj x1)],[],[leN x1.length 9223372036854775807]⟩
 |_,_=>none
def CE:PF Tryz.prog:=PF.alt amT ab1 (by
 intro args es o h hnd;unfold ab1 at h;split at h
 ·rename_i x0 x1
  cases h
  have hnd:=bY hnd
  have hh:=apQ x0 x1 hnd
  obtain⟨e0,en⟩:=hh
  exact ek rfl (cg en) (by simp only [e0] <;> rfl) rfl rfl
 ·cases h)
def cj(y2 y3:Int)(b:Int×(Int×Int)):(Unit)→Nat ⊕ (Unit)
 |_=>(bif(yo b.1 (b.2.1) y2 y3)then(.inl 0)else(.inr ()))
def be(y2 y3 y4:Int)(y5:List (Int×(Int×Int)))(i:Nat):(Unit)→aJ
 |_=>((i:Int),(↑y5.length:Int),y2,y3,y4,y5)
def kI:aJ→Unit
 |(_,_,_,_,_,_)=>()
theorem JT(y2 y3 y4:Int)(y5:List (Int×(Int×Int))) (hn:y5.length≤9223372036854775807):
  ag.fin ((0:Int),(↑y5.length:Int),y2,y3,y4,y5)=true∧ag.res ((0:Int),(↑y5.length:Int),y2,y3,y4,y5)=((ae (cj y2 y3) 1 y5 0 ()).1,(be y2 y3 y4 y5) (ae (cj y2 y3) 1 y5 0 ()).2.1 (ae (cj y2 y3) 1 y5 0 ()).2.2):=by
 have key:=ag.along (be y2 y3 y4 y5) kI (cj y2 y3) 1 (fun _ _=>True) y5 () (by trivial) (by simp only [ag,be];omega) (fun i b a hb hI=> ?_) (fun a hI=> ?_)
 ·exact key
 ·obtain⟨⟩:=a
  have hlt:=(List.getElem?_eq_some_iff.1 hb).1
  have hget: ∀ d,Option.getD y5[i]? d=b:=fun d=>by rw [hb];rfl
  have hw:=oW hlt hn
  have hdec:ltI (i:Int) (y5.length:Int)=true:=bZ (by omega)
  have hnn:leI (0:Int) (i:Int)=true:=bC (by omega)
  have hltd:ltN i y5.length=true:=cB hlt
  refine⟨?_,?_,?_,?_⟩
  ·simp [ce,d9,ea,eb,ec,ed,ee,dH,ag,LT.nds,allT,be,hdec,hnn,hltd,hget]
  ·simp [ce,d9,ea,eb,ec,ed,ee,dH,ag,LT.each,be,kI,hw]
  ·simp only [ce,d9,ea,eb,ec,ed,ee,dH,ag,LT.fn,be,kI,cj,Int.toNat_natCast,hdec,hnn,hltd,hget,cond_true,Bool.cond_self]
  ·exact fun _ _=>trivial
 ·obtain⟨⟩:=a
  simp [ce,d9,ea,eb,ec,ed,ee,dH,ag,LT.out,be]
theorem as6(xs:List (Int×Int×Int))(f:Int×Int×Int)(hn:xs.length≤9223372036854775807):
  d4 xs f.1 f.2.1 f.2.2=xs.any (XJ f)∧d8 xs f.1 f.2.1 f.2.2=true:=by
 obtain⟨w1,w2⟩:=JT f.1 f.2.1 f.2.2 xs hn
 rw [jp (P:=XJ f) (j:=0) (fun t=>by
  simp only [cj,yo,XJ];cases t.1==f.1 <;> rfl)]at w2
 refine⟨?_,?_⟩
 ·simp only [d4,lw,ly,lz,d8,eY,cU,iU,iV,iW,iX,iY,w2,be]
  cases xs.any (XJ f)with
  |false=>rfl
  |true=>exact bC (Int.natCast_nonneg _)
 ·simp only [d4,lw,ly,lz,d8,eY,cU,iU,iV,iW,iX,iY,w1,allT,cond_true]
theorem avO(n:Int)(fs:List (Int×Int×Int))(b:Nat):Ol (b:Int) n fs=ajT n fs b:=by
 have h2: ∀ v:Int,(bif v==0 then true else v==1)=inR v 0 1:=fun v=>by
  rw [Bool.eq_iff_iff,sR];by_cases h:v=0 <;> by_cases h':v=1 <;> simp [h,h'] <;> omega
 have h3: ∀ v:Int,(bif v !=0 then v !=1 else false)= !inR v 0 1:=fun v=>by
  rw [← h2 v];simp only [bne];cases v==0 <;> rfl
 simp only [Ol,ba,MR,ajT,fIn,fAt,gI,Int.toNat_natCast,vK,h2,h3]
 cases inR (fs[b]?.getD (0,0,0)).1 0 (IntKind.i64.wrap (n - 1)) <;> cases inR (fs[b]?.getD (0,0,0)).2.1 0 1 <;> cases inR (fs[b]?.getD (0,0,0)).2.2 0 1 <;> rfl
theorem arm(n:Int)(fs:List (Int×Int×Int))(hn:fs.length≤9223372036854775807):
  cw.fin ((0:Int),(fs.length:Int),n,fs)=true∧cw.res ((0:Int),(fs.length:Int),n,fs)=((ae (fF n fs) 2 (List.range fs.length) 0 ()).1,(((ae (fF n fs) 2 (List.range fs.length) 0 ()).2.1:Int),(fs.length:Int),n,fs)):=by
 have key:=cw.along (fun i _=>((i:Int),(fs.length:Int),n,fs)) (fun _=>()) (fF n fs) 2 (fun _ _=>True) (List.range fs.length) () trivial (by simp only [cw,List.length_range];omega) (fun i b a hb hI=> ?_) (fun a hI=> ?_)
 ·exact key
 ·obtain⟨rfl,hlt⟩:=eu hb
  have hw:IntKind.i64.wrap ((b:Int) + 1)=((b + 1:Nat):Int):=by rw [aw (by omega) (by omega)];omega
  have hdec:ltI (b:Int) (fs.length:Int)=true:=bZ (by omega)
  have hle:leI (b:Int) (fs.length:Int)=true:=bC (by omega)
  have hnn:leI (0:Int) (b:Int)=true:=bC (by omega)
  have hltd:ltN b fs.length=true:=cB (by omega)
  obtain⟨i2,i1⟩:=as6 (fs.take b) (fAt fs b) (by rw [List.length_take];omega)
  have i2:WH (b:Int) fs=aos fs b:=i2
  have i1:WG (b:Int) fs=true:=i1
  have i3:=avO n fs b
  refine⟨?_,?_,?_,?_⟩
  ·simp [cw,zk,LT.nds,allT,HZ,Ok,WC,WD,WE,WF,hdec,hnn,hltd,hle,i1]
  ·simp [cw,zk,LT.each,WI,hw]
  ·simp only [cw,zk,LT.fn,HZ,hdec,i2,i3,fF,cond_true]
  ·exact fun _ _=>trivial
 ·simp [cw,zk,LT.out,HZ,List.length_range]
theorem apB(n:Int)(fs:List (Int×Int×Int))(hn:leN fs.length 9223372036854775807=true):TS n fs=okFs n fs∧TT n fs=true:=by
 obtain⟨w1,w2⟩:=arm n fs (bT.1 hn)
 obtain⟨k,m,e,h⟩:=alZ n fs (List.range fs.length) 0
 rw [e]at w2
 refine⟨?_,?_⟩
 ·have hl:leI (fs.length:Int) 8=leN fs.length 8:=by rw [Bool.eq_iff_iff];simp;omega
  simp only [TS,FE,w2,okFs,hl]
  rcases h with⟨rfl,h⟩ | ⟨rfl | rfl,h⟩ <;> rw [h] <;> cases leN fs.length 8 <;> rfl
 ·simp only [TT,FE,w1,allT,cond_true]
def abQ:List SV→List Entry→Option Out
 | [.one ⟨false,[.val (.int .i64 x0)]⟩,.one ⟨false,[.ref 0]⟩],[.row false 169 (.pair (.int .i64) (.pair (.int .i64) (.int .i64))) x1]=>some ⟨(.one ⟨false,[(.val (.bool (okFs x0 x1)))]⟩),[(.row false 169 axj x1)],[],[leN x1.length 9223372036854775807]⟩
 |_,_=>none
def CD:PF Tryz.prog:=PF.alt amG abQ (by
 intro args es o h hnd;unfold abQ at h;split at h
 ·rename_i x0 x1
  cases h
  have hnd:=bY hnd
  have hh:=apB x0 x1 hnd
  obtain⟨e0,en⟩:=hh
  exact ek rfl (cg en) (by simp only [e0] <;> rfl) rfl rfl
 ·cases h)
def TD(xs ys:List (Int×Int×Int)):Bool:=decide (xs=ys)
def kh(y1:List (Int×(Int×Int)))(b:Nat):(List (Int×(Int×Int)))→Nat ⊕ (List (Int×(Int×Int)))
 |y2=>(.inr (List.set y2 b ((Option.getD y1[b]? ((0:Int),(0:Int),(0:Int))).1,((Option.getD y1[b]? ((0:Int),(0:Int),(0:Int))).2).1,(Option.getD y1[b]? ((0:Int),(0:Int),(0:Int))).2.2)))
def ig(y1:List (Int×(Int×Int)))(i:Nat):(List (Int×(Int×Int)))→eA
 |y2=>((i:Int),y1,y2)
def Ff:eA→List (Int×(Int×Int))
 |(_,_,y2)=>y2
theorem abj(y1 y2:List (Int×(Int×Int)))(hn:y1.length≤9223372036854775807)(hl:y2.length=y1.length):
  bI.fin ((0:Int),y1,y2)=true∧bI.res ((0:Int),y1,y2)=((ae (kh y1) 0 (List.range y1.length) 0 y2).1,(ig y1) (ae (kh y1) 0 (List.range y1.length) 0 y2).2.1 (ae (kh y1) 0 (List.range y1.length) 0 y2).2.2):=by
 have key:=bI.along (ig y1) Ff (kh y1) 0 (fun _ a=>a.length=y1.length) (List.range y1.length) y2 hl (by simp only [bI,ig,List.length_range];omega) (fun i b a hb hI=> ?_) (fun a hI=> ?_)
 ·exact key
 ·obtain y2:=a
  obtain⟨rfl,hlt⟩:=eu hb
  have hw:IntKind.i64.wrap ((b:Int) + 1)=((b + 1:Nat):Int):=by rw [aw (by omega) (by omega)];omega
  have hdec:ltI (b:Int) (y1.length:Int)=true:=bZ (by omega)
  have hnn:leI (0:Int) (b:Int)=true:=bC (by omega)
  have hltd:ltN b y1.length=true:=cB (by omega)
  refine⟨?_,?_,?_,?_⟩
  ·simp [jM,nf,ng,sF,sG,sH,sI,sJ,ra,bI,LT.nds,allT,ig,hdec,hnn,hltd,hI]
  ·simp [jM,nf,ng,sF,sG,sH,sI,sJ,ra,bI,LT.each,ig,Ff,hw,hI]
  ·simp only [jM,nf,ng,sF,sG,sH,sI,sJ,ra,bI,LT.fn,ig,Ff,kh,Int.toNat_natCast,hdec,cond_true]
  ·intro a' hf;simp only [kh,Sum.inr.injEq]at hf;subst hf;simpa using hI
 ·obtain y2:=a
  simp [jM,nf,ng,sF,sG,sH,sI,sJ,ra,bI,LT.out,ig,List.length_range]
def m7(y1 y2:List (Int×(Int×Int)))(b:Nat):(Unit)→Nat ⊕ (Unit)
 |_=>(bif(!yX ((Option.getD y1[b]? ((0:Int),(0:Int),(0:Int))).1) (((Option.getD y1[b]? ((0:Int),(0:Int),(0:Int))).2).1) ((Option.getD y1[b]? ((0:Int),(0:Int),(0:Int))).2.2) ((Option.getD y2[b]? ((0:Int),(0:Int),(0:Int))).1) (((Option.getD y2[b]? ((0:Int),(0:Int),(0:Int))).2).1) ((Option.getD y2[b]? ((0:Int),(0:Int),(0:Int))).2.2))then(.inl 0)else(.inr ()))
def jN(y1 y2:List (Int×(Int×Int)))(i:Nat):(Unit)→ex
 |_=>((i:Int),y1,y2)
def Fc:ex→Unit
 |(_,_,_)=>()
theorem abh(y1 y2:List (Int×(Int×Int))) (hn:y1.length≤9223372036854775807) (he:y2.length=y1.length):
  bv.fin ((0:Int),y1,y2)=true∧bv.res ((0:Int),y1,y2)=((ae (m7 y1 y2) 1 (List.range y1.length) 0 ()).1,(jN y1 y2) (ae (m7 y1 y2) 1 (List.range y1.length) 0 ()).2.1 (ae (m7 y1 y2) 1 (List.range y1.length) 0 ()).2.2):=by
 have key:=bv.along (jN y1 y2) Fc (m7 y1 y2) 1 (fun _ _=>True) (List.range y1.length) () (by trivial) (by simp only [bv,jN,List.length_range];omega) (fun i b a hb hI=> ?_) (fun a hI=> ?_)
 ·exact key
 ·obtain⟨⟩:=a
  obtain⟨rfl,hlt⟩:=eu hb
  have hw:IntKind.i64.wrap ((b:Int) + 1)=((b + 1:Nat):Int):=by rw [aw (by omega) (by omega)];omega
  have hdec:ltI (b:Int) (y1.length:Int)=true:=bZ (by omega)
  have hnn:leI (0:Int) (b:Int)=true:=bC (by omega)
  have hltd:ltN b y1.length=true:=cB (by omega)
  refine⟨?_,?_,?_,?_⟩
  ·simp [jJ,jK,m8,m9,sf,sg,si,sj,sk,qZ,bv,LT.nds,allT,jN,hdec,hnn,hltd,he]
  ·simp [jJ,jK,m8,m9,sf,sg,si,sj,sk,qZ,bv,LT.each,jN,Fc,hw,he]
  ·simp only [jJ,jK,m8,m9,sf,sg,si,sj,sk,qZ,bv,LT.fn,jN,Fc,m7,Int.toNat_natCast,hdec,cond_true]
  ·exact fun _ _=>trivial
 ·obtain⟨⟩:=a
  simp [jJ,jK,m8,m9,sf,sg,si,sj,sk,qZ,bv,LT.out,jN,List.length_range]
theorem asv(xs:List (Int×Int×Int))(hn:leN xs.length 1048576=true):ET xs=xs∧EU xs=true:=by
 have hn:=bT.1 hn
 have hr:(List.replicate (Int.toNat (xs.length:Int)) ((0:Int),(0:Int),(0:Int))).length=xs.length:=by simp
 obtain⟨w1,w2⟩:=abj xs (List.replicate (Int.toNat (xs.length:Int)) ((0:Int),(0:Int),(0:Int))) (by omega) hr
 have hc:=Og (xs:=xs) (d:=((0:Int),(0:Int),(0:Int))) (g:=fun x=>x) (f:=kh xs) (e:=0) (fun b a=>rfl) hr
 rw [hc]at w2
 refine⟨?_,?_⟩
 ·simp only [Cf,ET,EU,w2,ig];simp
 ·simp only [Cf,ET,EU,w1,allT];simp;omega
def TC:List SV→List Entry→Option Out
 | [.one ⟨false,[.ref 0]⟩],[.row false 206 (.pair (.int .i64) (.pair (.int .i64) (.int .i64))) x0]=>some ⟨(.one ⟨false,[(.ref 1)]⟩),[(.row false 206 axj x0)],[(.row true 169 axj x0)],[leN x0.length 1048576]⟩
 |_,_=>none
def LH:PF Tryz.prog:=PF.alt ae6 TC (by
 intro args es o h hnd;unfold TC at h;split at h
 ·rename_i x0
  cases h
  have hnd:=bY hnd
  have hh:=asv x0 hnd
  obtain⟨e0,en⟩:=hh
  exact ek rfl (cg en) rfl rfl (by simp only [e0] <;> rfl)
 ·cases h)
theorem arB(xs ys:List (Int×Int×Int))(hn:leN xs.length 9223372036854775807=true):EL xs ys=TD xs ys∧EM xs ys=true:=by
 have hn:=bT.1 hn
 unfold TD
 have h3: ∀ a b:Int×Int×Int,(!yX a.1 a.2.1 a.2.2 b.1 b.2.1 b.2.2)= !decide (a=b):=fun a b=>by
  obtain⟨a1,a2,a3⟩:=a;obtain⟨b1,b2,b3⟩:=b
  simp only [yX,Prod.mk.injEq]
  by_cases h1:a1=b1 <;> by_cases h2:a2=b2 <;> by_cases h3:a3=b3 <;> simp [h1,h2,h3]
 by_cases hl:ys.length=xs.length
 ·obtain⟨w1,w2⟩:=abh xs ys hn hl
  have ha:=ajK (d:=((0:Int),(0:Int),(0:Int))) hl (P:=fun b=> !decide (Option.getD xs[b]? (0,0,0)=Option.getD ys[b]? (0,0,0))) (fun b=>rfl)
  rw [jp (P:=fun b=> !decide (Option.getD xs[b]? (0,0,0)=Option.getD ys[b]? (0,0,0))) (j:=0) (fun b=>by simp only [m7,h3]),ha]at w2
  simp only [Cc,Cd,EL,EM,w1,w2,allT]
  by_cases he:xs=ys
  ·subst he;simp;decide
  ·simp [he,hl]
 ·have hne:xs≠ys:=fun h=>hl (by rw [h])
  simp [Cc,Cd,EL,EM,allT,hne]
  omega
def Tz:List SV→List Entry→Option Out
 | [.one ⟨false,[.ref 0]⟩,.one ⟨false,[.ref 1]⟩],[.row false 169 (.pair (.int .i64) (.pair (.int .i64) (.int .i64))) x0,.row false 169 (.pair (.int .i64) (.pair (.int .i64) (.int .i64))) x1]=>some ⟨(.one ⟨false,[(.val (.bool (TD x0 x1)))]⟩),[(.row false 169 axj x0),(.row false 169 axj x1)],[],[leN x0.length 9223372036854775807]⟩
 |_,_=>none
def LE:PF Tryz.prog:=PF.alt ae3 Tz (by
 intro args es o h hnd;unfold Tz at h;split at h
 ·rename_i x0 x1
  cases h
  have hnd:=bY hnd
  have hh:=arB x0 x1 hnd
  obtain⟨e0,en⟩:=hh
  exact ek rfl (cg en) (by simp only [e0] <;> rfl) rfl rfl
 ·cases h)
end Go.SX

namespace Go.SX
open Go.Proofs
set_option maxRecDepth 100000
abbrev fA:=Int×List Int
section
variable (y0:Int)(y1:List Int)
def pv:Bool:=ltI y0 (↑y1.length:Int)
def tN:Bool:=leI (0:Int) y0
def tO:Bool:=ltN y0.toNat y1.length
def tP:Bool:= !aL (Option.getD y1[Int.toNat y0]? (0:Int)) (0:Int) (2:Int)
def tQ:Int:=IntKind.wrap .i64 (y0 + (1:Int))
end
def aaC:fA→List (Nat×SV)
 |(y0,_)=> [(3,(.one ⟨false,[(.val (.int .i64 y0))]⟩)),(0,(.one ⟨false,[(.ref 0)]⟩))]
def aay:fA→List (Nat×Entry)
 |(_,y1)=> [(0,(.row false 2 axl y1))]
def aaK:Nat→fA→List (Nat×SV)
 |0,(_,_)=> [(2,(.one ⟨false,[(.val (.bool false))]⟩))]
 |_,(_,_)=> []
def aaG:Nat→fA→List (Nat×Entry)
 |0,(_,y1)=> [(0,(.row false 2 axl y1))]
 |_,(_,y1)=> [(0,(.row false 2 axl y1))]
def sM:fA→LT fA
 |(y0,y1)=> .ite (pv y0 y1) (.need [(tN y0),(pv y0 y1),(tO y0 y1)] (.ite (tP y0 y1) (.ext 0 [(0,0)]) (.nrm ((tQ y0),y1) [(0,0)]))) (.ext 1 [(0,0)])
def Hx(s:St):Option fA:=
 (match s.look 3 with
 |some ⟨none,(.one ⟨false,[(.val (.int .i64 y0))]⟩)⟩=>
 (match s.look 0 with
 |some ⟨none,(.one ⟨false,[(.ref 0)]⟩)⟩=>
 (match s.ent 0 with
 |some (.row false 2 (.int .i64) y1)=>
 some (y0,y1)
 |_=>none)
 |_=>none)
 |_=>none)
def bE:Lp fA where
 h:=⟨[4,5,6,7,10,11,12,13,14,15,2,8,9,3],[0],[],[]⟩
 JL:=aaC
 JE:=aay
 XL:=aaK
 XE:=aaG
 q:=fun j=>match j with | 0=> .ret | _=> .exit 0
 tags:= [0,1]
 lt:=sM
 fuel:=fun(y0,y1)=>y0.natAbs + y1.length
 fix:=fun(_,y1) (y0,_)=>(y0,y1)
 σ:= [(0,0)]
 rd:=Hx
theorem Yf:LoopOk Tryz.prog (fun k=>Nat.blt k Tryz.f86.ntmps) bE.F (au Tryz.f86 0):=by
 refine Lp.ok (tbl:= [fB]) (lf:= []) aq bE (by kernel_rfl) (LOk.nil _) (fun _=>rfl) (fun j _=>by unfold bE;match j with | 0=>rfl | _ + 1=>rfl) ?_ ?_ ?_ ?_ (fun _=>rfl) ?_
 ·rintro⟨y0,y1⟩;kernel_rfl
 ·rintro⟨y0,y1⟩;kernel_rfl
 ·intro s x h
  have h:Hx s=some x:=h
  unfold Hx at h
  repeat' split at h
  all_goals cases h
  exact⟨aa (by assumption) rfl (aa (by assumption) rfl (rfl)),ab rfl (by assumption) rfl (rfl)⟩
 ·rintro⟨y0,y1⟩;kernel_rfl
 ·rintro⟨y0,y1⟩ z;exact(And.intro (And.intro trivial rfl) trivial)
def Nv(x0:List Int):Bool:=bif Nat.beq ((Lp.res bE ((0:Int),x0)).1) (0:Nat)then false else aL (↑x0.length:Int) (1:Int) (12:Int)
def Nw(x0:List Int):Bool:=allT [Lp.fin bE ((0:Int),x0)]
def Vi:List SV→List Entry→Option Out
 | [.one ⟨false,[.ref 0]⟩],[.row false 2 (.int .i64) x0]=>some ⟨(.one ⟨false,[(.val (.bool (Nv x0)))]⟩),[(.row false 2 axl x0)],[],[(Nw x0)]⟩
 |_,_=>none
def ag2:PF Tryz.prog:=PF.ofG Tryz.prog [fB] [bE.F] aq 86 Tryz.f86 Tryz.func86 (LOk.fnT (l:= [au Tryz.f86 0]) (by kernel_rfl) (.cons Yf (.nil _))) Vi (by
 intro vs es r h;unfold Vi at h;split at h
 ·cases h;kernel_rfl
 ·cases h)
def z7(x5:List (List Int)):Int:=(↑(List.length (Option.getD x5[Int.toNat (0:Int)]? (wu (CTy.sl (2:TypeId) axl)))):Int)
def z8(x5:List (List Int)):Bool:=allT [ltI (0:Int) (↑x5.length:Int),ltN (Int.toNat (0:Int)) x5.length]
def afy:List SV→List Entry→Option Out
 | [.one ⟨true,[.val (.int .i64 _x0),.ref 0,.ref 1,.ref 2,.ref 3,.val (.int .i64 _x1),.ref 4,.ref 5,.val (.int .i64 _x2)]⟩],[.row false 2 (.int .i64) x3,.row false 169 (.pair (.int .i64) (.pair (.int .i64) (.int .i64))) x4,.row false 24 (.sl 2 (.int .i64)) x5,.row false 100 (.pair (.int .i64) (.pair (.int .i64) (.int .i64))) x6,.row false 173 (.pair (.int .i64) (.int .i64)) x7,.row false 176 (.pair (.int .i64) (.int .i64)) x8]=>some ⟨(.one ⟨false,[(.val (.int .i64 (z7 x5)))]⟩),[(.row false 2 axl x3),(.row false 169 axj x4),(.row false 24 (CTy.sl (2:TypeId) axl) x5),(.row false 100 axj x6),(.row false 173 axk x7),(.row false 176 axk x8)],[],[(z8 x5)]⟩
 |_,_=>none
def uX:PF Tryz.prog:=PF.ofG Tryz.prog [] [] aq 87 Tryz.f87 Tryz.func87 (fun c _=>LOk.nil c) afy (by
 intro vs es r h;unfold afy at h;split at h
 ·cases h;kernel_rfl
 ·cases h)
abbrev dv:=Int×Int×List (Int×(Int×Int))×Int×Int×Int
section
variable (y0 y1:Int)(y2:List (Int×(Int×Int)))(y3 y4:Int)
def kG:Int×Int×Int:=Option.getD y2[Int.toNat y0]? ((0:Int),(0:Int),(0:Int))
def ge:Bool:=(kG y0 y2).1==y3
def qa:Bool:=ltI y0 y1
def qb:Bool:=leI (0:Int) y0
def qc:Bool:=ltI y0 (↑y2.length:Int)
def qd:Bool:=ltN y0.toNat y2.length
def qe:Bool:= !(ge y0 y2 y3&&true)||leI (0:Int) y0
def qf:Bool:= !(ge y0 y2 y3&&true)||ltI y0 (↑y2.length:Int)
def qg:Bool:= !(ge y0 y2 y3&&true)||ltN y0.toNat y2.length
def qh:Bool:=bif ge y0 y2 y3 then ((kG y0 y2).2).1==y4 else false
def qi:Int:=IntKind.wrap .i64 (y0 + (1:Int))
end
def WU:dv→List (Nat×SV)
 |(y0,y1,_,_,_,_)=> [(7,(.one ⟨false,[(.val (.int .i64 y0))]⟩)),(5,(.one ⟨false,[(.val (.int .i64 y1))]⟩)),(1,(.one ⟨false,[(.ref 0)]⟩)),(6,(.one ⟨false,[(.ptr 1 0)]⟩))]
def WR:dv→List (Nat×Entry)
 |(_,_,y2,y3,y4,y5)=> [(0,(.row false 100 axj y2)),(1,(.box 100 [(.val (.int .i64 y3)),(.val (.int .i64 y4)),(.val (.int .i64 y5))]))]
def Xa:Nat→dv→List (Nat×SV)
 |0,(_,_,_,_,_,_)=> [(4,(.one ⟨false,[(.val (.bool false))]⟩))]
 |_,(_,_,_,_,_,_)=> []
def WX:Nat→dv→List (Nat×Entry)
 |0,(_,_,y2,y3,y4,y5)=> [(0,(.row false 100 axj y2)),(1,(.box 100 [(.val (.int .i64 y3)),(.val (.int .i64 y4)),(.val (.int .i64 y5))]))]
 |_,(_,_,y2,y3,y4,y5)=> [(0,(.row false 100 axj y2)),(1,(.box 100 [(.val (.int .i64 y3)),(.val (.int .i64 y4)),(.val (.int .i64 y5))]))]
def oh:dv→LT dv
 |(y0,y1,y2,y3,y4,y5)=> .ite (qa y0 y1) (.need [(qb y0),(qc y0 y2),(qd y0 y2),(qe y0 y2 y3),(qf y0 y2 y3),(qg y0 y2 y3)] (.ite (qh y0 y2 y3 y4) (.ext 0 [(0,0),(1,1)]) (.nrm ((qi y0),y1,y2,y3,y4,y5) [(0,0),(1,1)]))) (.ext 1 [(0,0),(1,1)])
def Cm(s:St):Option dv:=
 (match s.look 7 with
 |some ⟨none,(.one ⟨false,[(.val (.int .i64 y0))]⟩)⟩=>
 (match s.look 5 with
 |some ⟨none,(.one ⟨false,[(.val (.int .i64 y1))]⟩)⟩=>
 (match s.look 1 with
 |some ⟨none,(.one ⟨false,[(.ref 0)]⟩)⟩=>
 (match s.look 6 with
 |some ⟨none,(.one ⟨false,[(.ptr 576 0)]⟩)⟩=>
 (match s.ent 0 with
 |some (.row false 100 (.pair (.int .i64) (.pair (.int .i64) (.int .i64))) y2)=>
 (match s.ent 576 with
 |some (.box 100 [(.val (.int .i64 y3)),(.val (.int .i64 y4)),(.val (.int .i64 y5))])=>
 some (y0,y1,y2,y3,y4,y5)
 |_=>none)
 |_=>none)
 |_=>none)
 |_=>none)
 |_=>none)
 |_=>none)
def bh:Lp dv where
 h:=⟨[36,37,38,41,42,43,44,45,46,47,48,49,50,51,52,53,54,55,56,57,58,4,39,40,7],[0,1],[],[]⟩
 JL:=WU
 JE:=WR
 XL:=Xa
 XE:=WX
 q:=fun j=>match j with | 0=> .ret | _=> .exit 2
 tags:= [0,1]
 lt:=oh
 fuel:=fun(y0,y1,y2,y3,y4,y5)=>y0.natAbs + y1.natAbs + y2.length + y3.natAbs + y4.natAbs + y5.natAbs
 fix:=fun(_,y1,y2,y3,y4,y5) (y0,_,_,_,_,_)=>(y0,y1,y2,y3,y4,y5)
 σ:= [(0,0),(1,576)]
 rd:=Cm
theorem Vv:LoopOk Tryz.prog (memN [8,9,10,11,14,15,16,17,6,18,19,20,21,22,23,24,25,26,27,28,29,30,31,32,33,34,35,4,7,36,37,38,41,42,43,44,45,46,47,48,49,50,51,52,53,54,55,56,57,58,39,40,12,13,5]) bh.F (amp (au Tryz.f88 0) 0):=by
 refine Lp.ok (tbl:= [fB]) (lf:= []) aq bh (by kernel_rfl) (LOk.nil _) (fun _=>rfl) (fun j _=>by unfold bh;match j with | 0=>rfl | _ + 1=>rfl) ?_ ?_ ?_ ?_ (fun _=>rfl) ?_
 ·rintro⟨y0,y1,y2,y3,y4,y5⟩;kernel_rfl
 ·rintro⟨y0,y1,y2,y3,y4,y5⟩;kernel_rfl
 ·intro s x h
  have h:Cm s=some x:=h
  unfold Cm at h
  repeat' split at h
  all_goals cases h
  exact⟨aa (by assumption) rfl (aa (by assumption) rfl (aa (by assumption) rfl (aa (by assumption) rfl (rfl)))),ab rfl (by assumption) rfl (ab rfl (by assumption) rfl (rfl))⟩
 ·rintro⟨y0,y1,y2,y3,y4,y5⟩;kernel_rfl
 ·rintro⟨y0,y1,y2,y3,y4,y5⟩ z;exact(And.intro (And.intro trivial rfl) trivial)
abbrev jh:=Int×Int×List (Int×(Int×Int))
section
variable (y0 y1:Int)(y2:List (Int×(Int×Int)))
def kq:Int×Int×Int:=Option.getD y2[Int.toNat y0]? ((0:Int),(0:Int),(0:Int))
def HA:Int×Int×List (Int×Int×Int)×Int×Int×Int:=((0:Int),y0,y2,(kq y0 y2).1,((kq y0 y2).2).1,(kq y0 y2).2.2)
def tM:Bool:=ltI y0 (↑y2.length:Int)
def Rj:Bool:=leI (0:Int) y0
def Rk:Bool:=ltN y0.toNat y2.length
def IU:Bool:=bif bif !aL ((kq y0 y2).1) (0:Int) (IntKind.wrap .i64 (y1 - (1:Int)))then true else !aL (((kq y0 y2).2).1) (0:Int) (1:Int)then true else !aL ((kq y0 y2).2.2) (0:Int) (1:Int)
def Rl:Bool:=Lp.fin bh (HA y0 y2)
def IV:Bool:=Nat.beq ((Lp.res bh (HA y0 y2)).1) (0:Nat)
def Rm:Int:=IntKind.wrap .i64 (y0 + (1:Int))
end
def aaB:jh→List (Nat×SV)
 |(y0,y1,_)=> [(5,(.one ⟨false,[(.val (.int .i64 y0))]⟩)),(1,(.one ⟨false,[(.ref 0)]⟩)),(0,(.one ⟨false,[(.val (.int .i64 y1))]⟩))]
def aax:jh→List (Nat×Entry)
 |(_,_,y2)=> [(0,(.row false 100 axj y2))]
def aaJ:Nat→jh→List (Nat×SV)
 |0,(_,_,_)=> [(4,(.one ⟨false,[(.val (.bool false))]⟩))]
 |1,(_,_,_)=> [(4,(.one ⟨false,[(.val (.bool false))]⟩))]
 |_,(_,_,_)=> []
def aaF:Nat→jh→List (Nat×Entry)
 |0,(_,_,y2)=> [(0,(.row false 100 axj y2))]
 |1,(_,_,y2)=> [(0,(.row false 100 axj y2))]
 |_,(_,_,y2)=> [(0,(.row false 100 axj y2))]
def sL:jh→LT jh
 |(y0,y1,y2)=> .ite (tM y0 y2) (.need [(Rj y0),(tM y0 y2),(Rk y0 y2)] (.ite (IU y0 y1 y2) (.ext 0 [(0,0)]) (.need [(Rl y0 y2)] (.ite (IV y0 y2) (.ext 1 [(0,0)]) (.nrm ((Rm y0),y1,y2) [(0,0)]))))) (.ext 2 [(0,0)])
def Hw(s:St):Option jh:=
 (match s.look 5 with
 |some ⟨none,(.one ⟨false,[(.val (.int .i64 y0))]⟩)⟩=>
 (match s.look 1 with
 |some ⟨none,(.one ⟨false,[(.ref 0)]⟩)⟩=>
 (match s.look 0 with
 |some ⟨none,(.one ⟨false,[(.val (.int .i64 y1))]⟩)⟩=>
 (match s.ent 0 with
 |some (.row false 100 (.pair (.int .i64) (.pair (.int .i64) (.int .i64))) y2)=>
 some (y0,y1,y2)
 |_=>none)
 |_=>none)
 |_=>none)
 |_=>none)
def br:Lp jh where
 h:=⟨[8,9,10,11,14,15,16,17,6,18,19,20,21,22,23,24,25,26,27,28,29,30,31,32,33,34,35,4,7,36,37,38,41,42,43,44,45,46,47,48,49,50,51,52,53,54,55,56,57,58,39,40,12,13,5],[0],[],[]⟩
 JL:=aaB
 JE:=aax
 XL:=aaJ
 XE:=aaF
 q:=fun j=>match j with | 0=> .ret | 1=> .ret | _=> .exit 0
 tags:= [0,1,2]
 lt:=sL
 fuel:=fun(y0,y1,y2)=>y0.natAbs + y1.natAbs + y2.length
 fix:=fun(_,y1,y2) (y0,_,_)=>(y0,y1,y2)
 σ:= [(0,0)]
 rd:=Hw
theorem Ye:LoopOk Tryz.prog (fun k=>Nat.blt k Tryz.f88.ntmps) br.F (au Tryz.f88 0):=by
 refine Lp.ok (tbl:= [fB]) (lf:= [bh.F]) aq br (by kernel_rfl) (LOk.allT (l:= [amp (au Tryz.f88 0) 0]) (by kernel_rfl) (.cons Vv (.nil _))) (fun _=>rfl) (fun j _=>by unfold br;match j with | 0=>rfl | 1=>rfl | _ + 2=>rfl) ?_ ?_ ?_ ?_ (fun _=>rfl) ?_
 ·rintro⟨y0,y1,y2⟩;kernel_rfl
 ·rintro⟨y0,y1,y2⟩;kernel_rfl
 ·intro s x h
  have h:Hw s=some x:=h
  unfold Hw at h
  repeat' split at h
  all_goals cases h
  exact⟨aa (by assumption) rfl (aa (by assumption) rfl (aa (by assumption) rfl (rfl))),ab rfl (by assumption) rfl (rfl)⟩
 ·rintro⟨y0,y1,y2⟩;kernel_rfl
 ·rintro⟨y0,y1,y2⟩ z;exact(And.intro (And.intro trivial (And.intro trivial rfl)) trivial)
section
variable (x0:Int)(x1:List (Int×Int×Int))
def xk:Int×Int×List (Int×Int×Int):=((0:Int),x0,x1)
def Nt:Bool:=bif Nat.beq ((Lp.res br (xk x0 x1)).1) (0:Nat)then false else bif Nat.beq ((Lp.res br (xk x0 x1)).1) (1:Nat)then false else bif aL x0 (1:Int) (12:Int)then leI (↑x1.length:Int) (8:Int)else false
def Nu:Bool:=allT [Lp.fin br (xk x0 x1)]
end
def Vh:List SV→List Entry→Option Out
 | [.one ⟨false,[.val (.int .i64 x0)]⟩,.one ⟨false,[.ref 0]⟩],[.row false 100 (.pair (.int .i64) (.pair (.int .i64) (.int .i64))) x1]=>some ⟨(.one ⟨false,[(.val (.bool (Nt x0 x1)))]⟩),[(.row false 100 axj x1)],[],[(Nu x0 x1)]⟩
 |_,_=>none
def ag1:PF Tryz.prog:=PF.ofG Tryz.prog [fB] [br.F] aq 88 Tryz.f88 Tryz.func88 (LOk.fnT (l:= [au Tryz.f88 0]) (by kernel_rfl) (.cons Ye (.nil _))) Vh (by
 intro vs es r h;unfold Vh at h;split at h
 ·cases h;kernel_rfl
 ·cases h)
def SZ(x0:Int):Bool:=aL x0 (0:Int) (5:Int)
def afr:List SV→List Entry→Option Out
 | [.one ⟨false,[.val (.int .i64 x0)]⟩],[]=>some ⟨(.one ⟨false,[(.val (.bool (SZ x0)))]⟩),[],[],[]⟩
 |_,_=>none
def ag3:PF Tryz.prog:=PF.ofG Tryz.prog [fB] [] aq 89 Tryz.f89 Tryz.func89 (fun c _=>LOk.nil c) afr (by
 intro vs es r h;unfold afr at h;split at h
 ·cases h;kernel_rfl
 ·cases h)
abbrev mU:=Int×List (Int×Int)
section
variable (y0:Int)(y1:List (Int×Int))
def Au:Int×Int:=Option.getD y1[Int.toNat y0]? ((0:Int),(0:Int))
def rD:Bool:= !aL ((Au y0 y1).1) (1:Int) (366:Int)
def CH:Bool:=ltI y0 (↑y1.length:Int)
def IW:Bool:=leI (0:Int) y0
def IX:Bool:=ltN y0.toNat y1.length
def IY:Bool:= !(!rD y0 y1&&true)||leI (0:Int) y0
def IZ:Bool:= !(!rD y0 y1&&true)||ltI y0 (↑y1.length:Int)
def Ja:Bool:= !(!rD y0 y1&&true)||ltN y0.toNat y1.length
def Jb:Bool:=bif rD y0 y1 then true else !aL ((Au y0 y1).2) (0:Int) (100000:Int)
def Jc:Int:=IntKind.wrap .i64 (y0 + (1:Int))
end
def akA:mU→List (Nat×SV)
 |(y0,_)=> [(3,(.one ⟨false,[(.val (.int .i64 y0))]⟩)),(0,(.one ⟨false,[(.ref 0)]⟩))]
def akr:mU→List (Nat×Entry)
 |(_,y1)=> [(0,(.row false 173 axk y1))]
def akS:Nat→mU→List (Nat×SV)
 |0,(_,_)=> [(2,(.one ⟨false,[(.val (.bool false))]⟩))]
 |_,(_,_)=> []
def akJ:Nat→mU→List (Nat×Entry)
 |0,(_,y1)=> [(0,(.row false 173 axk y1))]
 |_,(_,y1)=> [(0,(.row false 173 axk y1))]
def Gn:mU→LT mU
 |(y0,y1)=> .ite (CH y0 y1) (.need [(IW y0),(CH y0 y1),(IX y0 y1),(IY y0 y1),(IZ y0 y1),(Ja y0 y1)] (.ite (Jb y0 y1) (.ext 0 [(0,0)]) (.nrm ((Jc y0),y1) [(0,0)]))) (.ext 1 [(0,0)])
def SD(s:St):Option mU:=
 (match s.look 3 with
 |some ⟨none,(.one ⟨false,[(.val (.int .i64 y0))]⟩)⟩=>
 (match s.look 0 with
 |some ⟨none,(.one ⟨false,[(.ref 0)]⟩)⟩=>
 (match s.ent 0 with
 |some (.row false 173 (.pair (.int .i64) (.int .i64)) y1)=>
 some (y0,y1)
 |_=>none)
 |_=>none)
 |_=>none)
def f4:Lp mU where
 h:=⟨[4,5,6,7,10,11,12,13,14,15,16,17,18,19,20,21,22,23,24,25,2,8,9,3],[0],[],[]⟩
 JL:=akA
 JE:=akr
 XL:=akS
 XE:=akJ
 q:=fun j=>match j with | 0=> .ret | _=> .exit 0
 tags:= [0,1]
 lt:=Gn
 fuel:=fun(y0,y1)=>y0.natAbs + y1.length
 fix:=fun(_,y1) (y0,_)=>(y0,y1)
 σ:= [(0,0)]
 rd:=SD
theorem aif:LoopOk Tryz.prog (fun k=>Nat.blt k Tryz.f90.ntmps) f4.F (au Tryz.f90 0):=by
 refine Lp.ok (tbl:= [fB]) (lf:= []) aq f4 (by kernel_rfl) (LOk.nil _) (fun _=>rfl) (fun j _=>by unfold f4;match j with | 0=>rfl | _ + 1=>rfl) ?_ ?_ ?_ ?_ (fun _=>rfl) ?_
 ·rintro⟨y0,y1⟩;kernel_rfl
 ·rintro⟨y0,y1⟩;kernel_rfl
 ·intro s x h
  have h:SD s=some x:=h
  unfold SD at h
  repeat' split at h
  all_goals cases h
  exact⟨aa (by assumption) rfl (aa (by assumption) rfl (rfl)),ab rfl (by assumption) rfl (rfl)⟩
 ·rintro⟨y0,y1⟩;kernel_rfl
 ·rintro⟨y0,y1⟩ z;exact(And.intro (And.intro trivial rfl) trivial)
def aba(x0:List (Int×Int)):Bool:=bif Nat.beq ((Lp.res f4 ((0:Int),x0)).1) (0:Nat)then false else leI (↑x0.length:Int) (12:Int)
def abb(x0:List (Int×Int)):Bool:=allT [Lp.fin f4 ((0:Int),x0)]
def aiL:List SV→List Entry→Option Out
 | [.one ⟨false,[.ref 0]⟩],[.row false 173 (.pair (.int .i64) (.int .i64)) x0]=>some ⟨(.one ⟨false,[(.val (.bool (aba x0)))]⟩),[(.row false 173 axk x0)],[],[(abb x0)]⟩
 |_,_=>none
def apL:PF Tryz.prog:=PF.ofG Tryz.prog [fB] [f4.F] aq 90 Tryz.f90 Tryz.func90 (LOk.fnT (l:= [au Tryz.f90 0]) (by kernel_rfl) (.cons aif (.nil _))) aiL (by
 intro vs es r h;unfold aiL at h;split at h
 ·cases h;kernel_rfl
 ·cases h)
def Tc(x0 x1:Int):Bool:=bif aL x0 (0:Int) (23:Int)then aL x1 (1:Int) (999:Int)else false
def afw:List SV→List Entry→Option Out
 | [.one ⟨false,[.val (.int .i64 x0)]⟩,.one ⟨false,[.val (.int .i64 x1)]⟩],[]=>some ⟨(.one ⟨false,[(.val (.bool (Tc x0 x1)))]⟩),[],[],[]⟩
 |_,_=>none
def ag4:PF Tryz.prog:=PF.ofG Tryz.prog [fB] [] aq 173 Tryz.f173 Tryz.func173 (fun c _=>LOk.nil c) afw (by
 intro vs es r h;unfold afw at h;split at h
 ·cases h;kernel_rfl
 ·cases h)
abbrev lI:=Int×Int×Int×List (Int×Int)
section
variable (y0 y1 y2:Int)(y3:List (Int×Int))
def ti:Int×Int:=Option.getD y3[Int.toNat y0]? ((0:Int),(0:Int))
def tj:Bool:= !((ti y0 y3).1==y1&&true)
def Ax:Bool:=ltI y0 (↑y3.length:Int)
def GN:Bool:=leI (0:Int) y0
def GO:Bool:=ltN y0.toNat y3.length
def GP:Bool:=tj y0 y1 y3||leI (0:Int) y0
def GQ:Bool:=tj y0 y1 y3||ltI y0 (↑y3.length:Int)
def GR:Bool:=tj y0 y1 y3||ltN y0.toNat y3.length
def GS:Bool:=bif (ti y0 y3).1==y1 then (ti y0 y3).2==y2 else false
def GU:Int:=IntKind.wrap .i64 (y0 + (1:Int))
end
def aju:lI→List (Nat×SV)
 |(y0,y1,y2,_)=> [(7,(.one ⟨false,[(.val (.int .i64 y0))]⟩)),(0,(.one ⟨false,[(.ref 0)]⟩)),(1,(.one ⟨false,[(.val (.int .i64 y1))]⟩)),(2,(.one ⟨false,[(.val (.int .i64 y2))]⟩))]
def ajn:lI→List (Nat×Entry)
 |(_,_,_,y3)=> [(0,(.row false 176 axk y3))]
def ajI:Nat→lI→List (Nat×SV)
 |0,(y0,_,_,_)=> [(6,(.one ⟨false,[(.val (.int .i64 y0))]⟩))]
 |_,(_,_,_,_)=> []
def ajB:Nat→lI→List (Nat×Entry)
 |0,(_,_,_,y3)=> [(0,(.row false 176 axk y3))]
 |_,(_,_,_,y3)=> [(0,(.row false 176 axk y3))]
def Ei:lI→LT lI
 |(y0,y1,y2,y3)=> .ite (Ax y0 y3) (.need [(GN y0),(Ax y0 y3),(GO y0 y3),(GP y0 y1 y3),(GQ y0 y1 y3),(GR y0 y1 y3)] (.ite (GS y0 y1 y2 y3) (.ext 0 [(0,0)]) (.nrm ((GU y0),y1,y2,y3) [(0,0)]))) (.ext 1 [(0,0)])
def QA(s:St):Option lI:=
 (match s.look 7 with
 |some ⟨none,(.one ⟨false,[(.val (.int .i64 y0))]⟩)⟩=>
 (match s.look 0 with
 |some ⟨none,(.one ⟨false,[(.ref 0)]⟩)⟩=>
 (match s.look 1 with
 |some ⟨none,(.one ⟨false,[(.val (.int .i64 y1))]⟩)⟩=>
 (match s.look 2 with
 |some ⟨none,(.one ⟨false,[(.val (.int .i64 y2))]⟩)⟩=>
 (match s.ent 0 with
 |some (.row false 176 (.pair (.int .i64) (.int .i64)) y3)=>
 some (y0,y1,y2,y3)
 |_=>none)
 |_=>none)
 |_=>none)
 |_=>none)
 |_=>none)
def dO:Lp lI where
 h:=⟨[8,9,10,11,14,15,16,17,18,19,20,21,22,23,24,25,26,27,28,29,30,6,12,13,7],[0],[],[]⟩
 JL:=aju
 JE:=ajn
 XL:=ajI
 XE:=ajB
 q:=fun j=>match j with | 0=> .ret | _=> .exit 0
 tags:= [0,1]
 lt:=Ei
 fuel:=fun(y0,y1,y2,y3)=>y0.natAbs + y1.natAbs + y2.natAbs + y3.length
 fix:=fun(_,y1,y2,y3) (y0,_,_,_)=>(y0,y1,y2,y3)
 σ:= [(0,0)]
 rd:=QA
theorem agQ:LoopOk Tryz.prog (fun k=>Nat.blt k Tryz.f174.ntmps) dO.F (au Tryz.f174 0):=by
 refine Lp.ok (tbl:= []) (lf:= []) aq dO (by kernel_rfl) (LOk.nil _) (fun _=>rfl) (fun j _=>by unfold dO;match j with | 0=>rfl | _ + 1=>rfl) ?_ ?_ ?_ ?_ (fun _=>rfl) ?_
 ·rintro⟨y0,y1,y2,y3⟩;kernel_rfl
 ·rintro⟨y0,y1,y2,y3⟩;kernel_rfl
 ·intro s x h
  have h:QA s=some x:=h
  unfold QA at h
  repeat' split at h
  all_goals cases h
  exact⟨aa (by assumption) rfl (aa (by assumption) rfl (aa (by assumption) rfl (aa (by assumption) rfl (rfl)))),ab rfl (by assumption) rfl (rfl)⟩
 ·rintro⟨y0,y1,y2,y3⟩;kernel_rfl
 ·rintro⟨y0,y1,y2,y3⟩ z;exact(And.intro (And.intro trivial rfl) trivial)
section
variable (x0 x1:Int)(x2:List (Int×Int))
def PS:Int×Int×Int×List (Int×Int):=((0:Int),x0,x1,x2)
def Js:Int:=bif Nat.beq ((Lp.res dO (PS x0 x1 x2)).1) (0:Nat)then ((Lp.res dO (PS x0 x1 x2)).2).1else(-1:Int)
def Tb:Bool:=allT [Lp.fin dO (PS x0 x1 x2)]
end
def afv:List SV→List Entry→Option Out
 | [.one ⟨false,[.ref 0]⟩,.one ⟨false,[.val (.int .i64 x0)]⟩,.one ⟨false,[.val (.int .i64 x1)]⟩],[.row false 176 (.pair (.int .i64) (.int .i64)) x2]=>some ⟨(.one ⟨false,[(.val (.int .i64 (Js x0 x1 x2)))]⟩),[(.row false 176 axk x2)],[],[(Tb x0 x1 x2)]⟩
 |_,_=>none
def IK:PF Tryz.prog:=PF.ofG Tryz.prog [] [dO.F] aq 174 Tryz.f174 Tryz.func174 (LOk.fnT (l:= [au Tryz.f174 0]) (by kernel_rfl) (.cons agQ (.nil _))) afv (by
 intro vs es r h;unfold afv at h;split at h
 ·cases h;kernel_rfl
 ·cases h)
abbrev py:=Int×List (Int×Int)
section
variable (y0:Int)(y1:List (Int×Int))
def nz:Int×Int:=Option.getD y1[Int.toNat y0]? ((0:Int),(0:Int))
def rB:Bool:= !Tc ((nz y0 y1).1) ((nz y0 y1).2)
def xO:Bool:=ltI y0 (↑y1.length:Int)
def QB:Bool:=leI (0:Int) y0
def QC:Bool:=ltN y0.toNat y1.length
def QD:Bool:= !(!rB y0 y1&&true)||leI (0:Int) y0
def QE:Bool:= !(!rB y0 y1&&true)||ltI y0 (↑y1.length:Int)
def QF:Bool:= !(!rB y0 y1&&true)||ltN y0.toNat y1.length
def YJ:Bool:= !(!rB y0 y1&&true)||Tb ((nz y0 y1).1) ((nz y0 y1).2) y1
def YK:Bool:=bif rB y0 y1 then true else Js ((nz y0 y1).1) ((nz y0 y1).2) y1 !=y0
def YL:Int:=IntKind.wrap .i64 (y0 + (1:Int))
end
def ahS:py→List (Nat×SV)
 |(y0,_)=> [(3,(.one ⟨false,[(.val (.int .i64 y0))]⟩)),(0,(.one ⟨false,[(.ref 0)]⟩))]
def ahJ:py→List (Nat×Entry)
 |(_,y1)=> [(0,(.row false 176 axk y1))]
def aia:Nat→py→List (Nat×SV)
 |0,(_,_)=> [(2,(.one ⟨false,[(.val (.bool false))]⟩))]
 |_,(_,_)=> []
def ah1:Nat→py→List (Nat×Entry)
 |0,(_,y1)=> [(0,(.row false 176 axk y1))]
 |_,(_,y1)=> [(0,(.row false 176 axk y1))]
def BQ:py→LT py
 |(y0,y1)=> .ite (xO y0 y1) (.need [(QB y0),(xO y0 y1),(QC y0 y1),(QB y0),(xO y0 y1),(QC y0 y1),(QD y0 y1),(QE y0 y1),(QF y0 y1),(QD y0 y1),(QE y0 y1),(QF y0 y1),(YJ y0 y1)] (.ite (YK y0 y1) (.ext 0 [(0,0)]) (.nrm ((YL y0),y1) [(0,0)]))) (.ext 1 [(0,0)])
def OI(s:St):Option py:=
 (match s.look 3 with
 |some ⟨none,(.one ⟨false,[(.val (.int .i64 y0))]⟩)⟩=>
 (match s.look 0 with
 |some ⟨none,(.one ⟨false,[(.ref 0)]⟩)⟩=>
 (match s.ent 0 with
 |some (.row false 176 (.pair (.int .i64) (.int .i64)) y1)=>
 some (y0,y1)
 |_=>none)
 |_=>none)
 |_=>none)
def dU:Lp py where
 h:=⟨[4,5,6,7,10,11,12,13,14,15,16,17,18,19,20,21,22,23,24,25,26,27,28,29,30,31,32,33,34,35,36,37,2,8,9,3],[0],[],[]⟩
 JL:=ahS
 JE:=ahJ
 XL:=aia
 XE:=ah1
 q:=fun j=>match j with | 0=> .ret | _=> .exit 0
 tags:= [0,1]
 lt:=BQ
 fuel:=fun(y0,y1)=>y0.natAbs + y1.length
 fix:=fun(_,y1) (y0,_)=>(y0,y1)
 σ:= [(0,0)]
 rd:=OI
theorem aeY:LoopOk Tryz.prog (fun k=>Nat.blt k Tryz.f91.ntmps) dU.F (au Tryz.f91 0):=by
 refine Lp.ok (tbl:= [ag4,IK,PF.lend IK,PF.fz IK]) (lf:= []) aq dU (by kernel_rfl) (LOk.nil _) (fun _=>rfl) (fun j _=>by unfold dU;match j with | 0=>rfl | _ + 1=>rfl) ?_ ?_ ?_ ?_ (fun _=>rfl) ?_
 ·rintro⟨y0,y1⟩;kernel_rfl
 ·rintro⟨y0,y1⟩;kernel_rfl
 ·intro s x h
  have h:OI s=some x:=h
  unfold OI at h
  repeat' split at h
  all_goals cases h
  exact⟨aa (by assumption) rfl (aa (by assumption) rfl (rfl)),ab rfl (by assumption) rfl (rfl)⟩
 ·rintro⟨y0,y1⟩;kernel_rfl
 ·rintro⟨y0,y1⟩ z;exact(And.intro (And.intro trivial rfl) trivial)
def Wm(x0:List (Int×Int)):Bool:=bif Nat.beq ((Lp.res dU ((0:Int),x0)).1) (0:Nat)then false else leI (↑x0.length:Int) (8:Int)
def Wn(x0:List (Int×Int)):Bool:=allT [Lp.fin dU ((0:Int),x0)]
def ad1:List SV→List Entry→Option Out
 | [.one ⟨false,[.ref 0]⟩],[.row false 176 (.pair (.int .i64) (.int .i64)) x0]=>some ⟨(.one ⟨false,[(.val (.bool (Wm x0)))]⟩),[(.row false 176 axk x0)],[],[(Wn x0)]⟩
 |_,_=>none
def an0:PF Tryz.prog:=PF.ofG Tryz.prog [ag4,IK,PF.lend IK,PF.fz IK] [dU.F] aq 91 Tryz.f91 Tryz.func91 (LOk.fnT (l:= [au Tryz.f91 0]) (by kernel_rfl) (.cons aeY (.nil _))) ad1 (by
 intro vs es r h;unfold ad1 at h;split at h
 ·cases h;kernel_rfl
 ·cases h)
def adn(x0:Int):Bool:= !ba x0 (0:Int) (2:Int)
def Ru:List SV→List Entry→Option Out
 | [.one ⟨false,[.val (.int .i64 x0)]⟩],[]=>some ⟨(.one ⟨false,[(.val (.bool (adn x0)))]⟩),[],[],[]⟩
 |_,_=>none
def adE:PF Tryz.prog:=PF.ofG Tryz.prog [gG] [] aq 166 Tryz.f166 Tryz.func166 (fun c _=>LOk.nil c) Ru (by
 intro vs es r h;unfold Ru at h;split at h
 ·cases h;kernel_rfl
 ·cases h)
def Ag(x0:Int):Bool:=ba x0 (1:Int) (12:Int)
def ZO:List SV→List Entry→Option Out
 | [.one ⟨false,[.val (.int .i64 x0)]⟩],[]=>some ⟨(.one ⟨false,[(.val (.bool (Ag x0)))]⟩),[],[],[]⟩
 |_,_=>none
def Sp:PF Tryz.prog:=PF.ofG Tryz.prog [gG] [] aq 70 Tryz.f70 Tryz.func70 (fun c _=>LOk.nil c) ZO (by
 intro vs es r h;unfold ZO at h;split at h
 ·cases h;kernel_rfl
 ·cases h)
def sQ(x0:Int):Bool:= !ba x0 (0:Int) (2:Int)
def KQ:List SV→List Entry→Option Out
 | [(.one ⟨false,[(.val (.int .i64 x0))]⟩)],[]=>some ⟨(.one ⟨false,[(.val (.bool (sQ x0)))]⟩),[],[],[]⟩
 |_,_=>none
def KZ:PF Tryz.prog:=PF.ofG Tryz.prog [gG] [] aq 166 Tryz.f166 Tryz.func166 (fun c _=>LOk.nil c) KQ (by
 intro vs es r h;unfold KQ at h;split at h
 ·cases h;kernel_rfl
 ·cases h)
abbrev aZ:=Int×Int×List Int
section
variable (y0 y1:Int)(y2:List Int)
def gn:Bool:=ltI y0 y1
def gp:Bool:=leI (0:Int) y0
def gq:Bool:=ltI y0 (↑y2.length:Int)
def gr:Bool:=ltN y0.toNat y2.length
def gt:Bool:=sQ (Option.getD y2[Int.toNat y0]? (0:Int))
def gu:Int:=IntKind.wrap .i64 (y0 + (1:Int))
end
def Lo:aZ→List (Nat×SV)
 |(y0,y1,_)=> [(8,(.one ⟨false,[(.val (.int .i64 y0))]⟩)),(7,(.one ⟨false,[(.val (.int .i64 y1))]⟩)),(1,(.one ⟨false,[(.val (.func (.func 166) ⟨[]⟩ ⟨[]⟩))]⟩)),(0,(.one ⟨false,[(.ref 0)]⟩))]
def Lm:aZ→List (Nat×Entry)
 |(_,_,y2)=> [(0,(.row false 2 axl y2))]
def Lu:Nat→aZ→List (Nat×SV)
 |0,(y0,_,_)=> [(4,(.one ⟨false,[(.val (.int .i64 y0))]⟩))]
 |_,(_,_,_)=> []
def Lr:Nat→aZ→List (Nat×Entry)
 |0,(_,_,y2)=> [(0,(.row false 2 axl y2))]
 |_,(_,_,y2)=> [(0,(.row false 2 axl y2))]
def fR:aZ→LT aZ
 |(y0,y1,y2)=> .ite (gn y0 y1) (.need [(gp y0),(gq y0 y2),(gr y0 y2)] (.ite (gt y0 y2) (.ext 0 [(0,0)]) (.nrm ((gu y0),y1,y2) [(0,0)]))) (.ext 1 [(0,0)])
def nY(s:St):Option aZ:=
 (match s.look 8 with
 |some ⟨none,(.one ⟨false,[(.val (.int .i64 y0))]⟩)⟩=>
 (match s.look 7 with
 |some ⟨none,(.one ⟨false,[(.val (.int .i64 y1))]⟩)⟩=>
 (match s.look 1 with
 |some ⟨none,(.one ⟨false,[(.val (.func (.func 166) ⟨[]⟩ ⟨[]⟩))]⟩)⟩=>
 (match s.look 0 with
 |some ⟨none,(.one ⟨false,[(.ref 0)]⟩)⟩=>
 (match s.ent 0 with
 |some (.row false 2 (.int .i64) y2)=>
 some (y0,y1,y2)
 |_=>none)
 |_=>none)
 |_=>none)
 |_=>none)
 |_=>none)
def ao:Lp aZ where
 h:=⟨[9,10,5,11,12,13,14,15,16,17,4,18,8],[0],[],[]⟩
 JL:=Lo
 JE:=Lm
 XL:=Lu
 XE:=Lr
 q:=fun j=>match j with | 0=> .ret | _=> .exit 0
 tags:= [0,1]
 lt:=fR
 fuel:=fun(y0,y1,y2)=>y0.natAbs + y1.natAbs + y2.length
 fix:=fun(_,y1,y2) (y0,_,_)=>(y0,y1,y2)
 σ:= [(0,0)]
 rd:=nY
theorem KA:LoopOk Tryz.prog (fun k=>Nat.blt k Tryz.f211.ntmps) ao.F (au Tryz.f211 0):=by
 refine Lp.ok (tbl:= [KZ]) (lf:= []) aq ao (by kernel_rfl) (LOk.nil _) (fun _=>rfl) (fun j _=>by unfold ao;match j with | 0=>rfl | _ + 1=>rfl) ?_ ?_ ?_ ?_ (fun _=>rfl) ?_
 ·rintro⟨y0,y1,y2⟩;kernel_rfl
 ·rintro⟨y0,y1,y2⟩;kernel_rfl
 ·intro s x h
  have h:nY s=some x:=h
  unfold nY at h
  repeat' split at h
  all_goals cases h
  exact⟨aa (by assumption) rfl (aa (by assumption) rfl (aa (by assumption) rfl (aa (by assumption) rfl (rfl)))),ab rfl (by assumption) rfl (rfl)⟩
 ·rintro⟨y0,y1,y2⟩;kernel_rfl
 ·rintro⟨y0,y1,y2⟩ z;exact(And.intro (And.intro trivial rfl) trivial)
section
variable (x0:List Int)
def kE:Int×Int×List Int:=((0:Int),(↑x0.length:Int),x0)
def rx:Int:=bif Nat.beq ((Lp.res ao (kE x0)).1) (0:Nat)then ((Lp.res ao (kE x0)).2).1else(-1:Int)
def ry:Bool:=allT [Lp.fin ao (kE x0)]
end
def AX:List SV→List Entry→Option Out
 | [(.one ⟨false,[(.ref 0)]⟩),(.one ⟨false,[(.val (.func (.func 166) ⟨[]⟩ ⟨[]⟩))]⟩)],[(.row false 2 (.int .i64) x0)]=>some ⟨(.one ⟨false,[(.val (.int .i64 (rx x0)))]⟩),[(.row false 2 axl x0)],[],[(ry x0)]⟩
 |_,_=>none
def ru:PF Tryz.prog:=PF.ofG Tryz.prog [KZ] [ao.F] aq 211 Tryz.f211 Tryz.func211 (LOk.fnT (l:= [au Tryz.f211 0]) (by kernel_rfl) (.cons KA (.nil _))) AX (by
 intro vs es r h;unfold AX at h;split at h
 ·cases h;kernel_rfl
 ·cases h)
def oS(x0:List Int):Bool:=leI (0:Int) (rx x0)
def oT(x0:List Int):Bool:=allT [ry x0]
def ya:List SV→List Entry→Option Out
 | [(.one ⟨false,[(.ref 0)]⟩),(.one ⟨false,[(.val (.func (.func 166) ⟨[]⟩ ⟨[]⟩))]⟩)],[(.row false 2 (.int .i64) x0)]=>some ⟨(.one ⟨false,[(.val (.bool (oS x0)))]⟩),[(.row false 2 axl x0)],[],[(oT x0)]⟩
 |_,_=>none
def oP:PF Tryz.prog:=PF.ofG Tryz.prog [ru,PF.lend ru,PF.fz ru] [] aq 158 Tryz.f158 Tryz.func158 (fun c _=>LOk.nil c) ya (by
 intro vs es r h;unfold ya at h;split at h
 ·cases h;kernel_rfl
 ·cases h)
def MP(x0:List Int):Bool:=bif Ag (cY x0)then !oS x0 else false
def MQ(x0:List Int):Bool:=allT [!(Ag (cY x0)&&true)||oT x0]
def Vc:List SV→List Entry→Option Out
 | [.one ⟨false,[.ref 0]⟩],[.row false 2 (.int .i64) x0]=>some ⟨(.one ⟨false,[(.val (.bool (MP x0)))]⟩),[(.row false 2 axl x0)],[],[(MQ x0)]⟩
 |_,_=>none
def agZ:PF Tryz.prog:=PF.ofG Tryz.prog [adE,Sp,aH,PF.lend aH,PF.fz aH,oP,PF.lend oP,PF.fz oP] [] aq 77 Tryz.f77 Tryz.func77 (fun c _=>LOk.nil c) Vc (by
 intro vs es r h;unfold Vc at h;split at h
 ·cases h;kernel_rfl
 ·cases h)
def sP(x0 x1 x3 x4:Int):Bool:=bif x0==x3 then x1==x4 else false
def sO:List SV→List Entry→Option Out
 | [(.one ⟨true,[(.val (.int .i64 x0)),(.val (.int .i64 x1)),(.val (.int .i64 _x2))]⟩),(.one ⟨false,[(.ptr 0 0)]⟩)],[(.box 100 [(.val (.int .i64 x3)),(.val (.int .i64 x4)),(.val (.int .i64 x5))])]=>some ⟨(.one ⟨false,[(.val (.bool (sP x0 x1 x3 x4)))]⟩),[(.box 100 [(.val (.int .i64 x3)),(.val (.int .i64 x4)),(.val (.int .i64 x5))])],[],[]⟩
 |_,_=>none
def KY:PF Tryz.prog:=PF.kept (PF.ofG Tryz.prog [] [] aq 168 Tryz.f168 Tryz.func168 (fun c _=>LOk.nil c) sO (by
 intro vs es r h;unfold sO at h;split at h
 ·cases h;kernel_rfl
 ·cases h)) [0] (by
 intro vs es r h;have h:sO vs es=some r:=h;unfold sO at h;split at h
 ·cases h;exact List.forall_mem_cons.2 ⟨rfl,fun _ h=>(by cases h)⟩
 ·cases h)
abbrev aQ:=Int×Int×Int×Int×Int×List (Int×(Int×Int))
section
variable (y0 y1 y2 y3:Int)(y5:List (Int×(Int×Int)))
def cE:Int×Int×Int:=Option.getD y5[Int.toNat y0]? ((0:Int),(0:Int),(0:Int))
def eR:Bool:=ltI y0 y1
def eS:Bool:=leI (0:Int) y0
def eT:Bool:=ltI y0 (↑y5.length:Int)
def eU:Bool:=ltN y0.toNat y5.length
def eV:Bool:=sP ((cE y0 y5).1) (((cE y0 y5).2).1) y2 y3
def eW:Int:=IntKind.wrap .i64 (y0 + (1:Int))
end
def JX:aQ→List (Nat×SV)
 |(y0,y1,_,_,_,_)=> [(8,(.one ⟨false,[(.val (.int .i64 y0))]⟩)),(7,(.one ⟨false,[(.val (.int .i64 y1))]⟩)),(1,(.one ⟨false,[(.clo 168 [0])]⟩)),(0,(.one ⟨false,[(.ref 1)]⟩))]
def JV:aQ→List (Nat×Entry)
 |(_,_,y2,y3,y4,y5)=> [(0,(.box 100 [(.val (.int .i64 y2)),(.val (.int .i64 y3)),(.val (.int .i64 y4))])),(1,(.row false 100 axj y5))]
def Kb:Nat→aQ→List (Nat×SV)
 |0,(y0,_,_,_,_,_)=> [(4,(.one ⟨false,[(.val (.int .i64 y0))]⟩))]
 |_,(_,_,_,_,_,_)=> []
def JZ:Nat→aQ→List (Nat×Entry)
 |0,(_,_,y2,y3,y4,y5)=> [(0,(.box 100 [(.val (.int .i64 y2)),(.val (.int .i64 y3)),(.val (.int .i64 y4))])),(1,(.row false 100 axj y5))]
 |_,(_,_,y2,y3,y4,y5)=> [(0,(.box 100 [(.val (.int .i64 y2)),(.val (.int .i64 y3)),(.val (.int .i64 y4))])),(1,(.row false 100 axj y5))]
def eo:aQ→LT aQ
 |(y0,y1,y2,y3,y4,y5)=> .ite (eR y0 y1) (.need [(eS y0),(eT y0 y5),(eU y0 y5)] (.ite (eV y0 y2 y3 y5) (.ext 0 [(0,0),(1,1)]) (.nrm ((eW y0),y1,y2,y3,y4,y5) [(0,0),(1,1)]))) (.ext 1 [(0,0),(1,1)])
def lV(s:St):Option aQ:=
 (match s.look 8 with
 |some ⟨none,(.one ⟨false,[(.val (.int .i64 y0))]⟩)⟩=>
 (match s.look 7 with
 |some ⟨none,(.one ⟨false,[(.val (.int .i64 y1))]⟩)⟩=>
 (match s.look 1 with
 |some ⟨none,(.one ⟨false,[(.clo 168 [1])]⟩)⟩=>
 (match s.look 0 with
 |some ⟨none,(.one ⟨false,[(.ref 0)]⟩)⟩=>
 (match s.ent 1 with
 |some (.box 100 [(.val (.int .i64 y2)),(.val (.int .i64 y3)),(.val (.int .i64 y4))])=>
 (match s.ent 0 with
 |some (.row false 100 (.pair (.int .i64) (.pair (.int .i64) (.int .i64))) y5)=>
 some (y0,y1,y2,y3,y4,y5)
 |_=>none)
 |_=>none)
 |_=>none)
 |_=>none)
 |_=>none)
 |_=>none)
def aj:Lp aQ where
 h:=⟨[9,10,5,11,12,13,14,15,16,17,4,18,8],[0,1],[],[]⟩
 JL:=JX
 JE:=JV
 XL:=Kb
 XE:=JZ
 q:=fun j=>match j with | 0=> .ret | _=> .exit 0
 tags:= [0,1]
 lt:=eo
 fuel:=fun(y0,y1,y2,y3,y4,y5)=>y0.natAbs + y1.natAbs + y2.natAbs + y3.natAbs + y4.natAbs + y5.length
 fix:=fun(_,y1,y2,y3,y4,y5) (y0,_,_,_,_,_)=>(y0,y1,y2,y3,y4,y5)
 σ:= [(0,1),(1,0)]
 rd:=lV
theorem HW:LoopOk Tryz.prog (fun k=>Nat.blt k Tryz.f216.ntmps) aj.F (au Tryz.f216 0):=by
 refine Lp.ok (tbl:= [KY]) (lf:= []) aq aj (by kernel_rfl) (LOk.nil _) (fun _=>rfl) (fun j _=>by unfold aj;match j with | 0=>rfl | _ + 1=>rfl) ?_ ?_ ?_ ?_ (fun _=>rfl) ?_
 ·rintro⟨y0,y1,y2,y3,y4,y5⟩;kernel_rfl
 ·rintro⟨y0,y1,y2,y3,y4,y5⟩;kernel_rfl
 ·intro s x h
  have h:lV s=some x:=h
  unfold lV at h
  repeat' split at h
  all_goals cases h
  exact⟨aa (by assumption) rfl (aa (by assumption) rfl (aa (by assumption) rfl (aa (by assumption) rfl (rfl)))),ab rfl (by assumption) rfl (ab rfl (by assumption) rfl (rfl))⟩
 ·rintro⟨y0,y1,y2,y3,y4,y5⟩;kernel_rfl
 ·rintro⟨y0,y1,y2,y3,y4,y5⟩ z;exact(And.intro (And.intro trivial rfl) trivial)
section
variable (x0:List (Int×Int×Int))(x1 x2 x3:Int)
def fT:Int×Int×Int×Int×Int×List (Int×Int×Int):=((0:Int),(↑x0.length:Int),x1,x2,x3,x0)
def dq:Bool:=Nat.beq ((Lp.res aj (fT x0 x1 x2 x3)).1) (0:Nat)
def jE:Int:=bif dq x0 x1 x2 x3 then ((Lp.res aj (fT x0 x1 x2 x3)).2).1else(-1:Int)
def jF:Int:=bif dq x0 x1 x2 x3 then x1 else x1
def jG:Int:=bif dq x0 x1 x2 x3 then x2 else x2
def jH:Int:=bif dq x0 x1 x2 x3 then x3 else x3
def jI:Bool:=allT [Lp.fin aj (fT x0 x1 x2 x3)]
end
def yf:List SV→List Entry→Option Out
 | [(.one ⟨false,[(.ref 0)]⟩),(.one ⟨false,[(.clo 168 [1])]⟩)],[(.row false 100 (.pair (.int .i64) (.pair (.int .i64) (.int .i64))) x0),(.box 100 [(.val (.int .i64 x1)),(.val (.int .i64 x2)),(.val (.int .i64 x3))])]=>some ⟨(.one ⟨false,[(.val (.int .i64 (jE x0 x1 x2 x3)))]⟩),[(.row false 100 axj x0),(.box 100 [(.val (.int .i64 (jF x0 x1 x2 x3))),(.val (.int .i64 (jG x0 x1 x2 x3))),(.val (.int .i64 (jH x0 x1 x2 x3)))])],[],[(jI x0 x1 x2 x3)]⟩
 |_,_=>none
def oR:PF Tryz.prog:=PF.ofG Tryz.prog [KY] [aj.F] aq 216 Tryz.f216 Tryz.func216 (LOk.fnT (l:= [au Tryz.f216 0]) (by kernel_rfl) (.cons HW (.nil _))) yf (by
 intro vs es r h;unfold yf at h;split at h
 ·cases h;kernel_rfl
 ·cases h)
section
variable (x0:List (Int×Int×Int))(x1 x2 x3:Int)
def eP:Bool:=leI (0:Int) (jE x0 x1 x2 x3)
def mz:Int:=jF x0 x1 x2 x3
def mA:Int:=jG x0 x1 x2 x3
def mB:Int:=jH x0 x1 x2 x3
def eQ:Bool:=allT [jI x0 x1 x2 x3]
end
def uq:List SV→List Entry→Option Out
 | [(.one ⟨false,[(.ref 0)]⟩),(.one ⟨false,[(.clo 168 [1])]⟩)],[(.row false 100 (.pair (.int .i64) (.pair (.int .i64) (.int .i64))) x0),(.box 100 [(.val (.int .i64 x1)),(.val (.int .i64 x2)),(.val (.int .i64 x3))])]=>some ⟨(.one ⟨false,[(.val (.bool (eP x0 x1 x2 x3)))]⟩),[(.row false 100 axj x0),(.box 100 [(.val (.int .i64 (mz x0 x1 x2 x3))),(.val (.int .i64 (mA x0 x1 x2 x3))),(.val (.int .i64 (mB x0 x1 x2 x3)))])],[],[(eQ x0 x1 x2 x3)]⟩
 |_,_=>none
def cO:PF Tryz.prog:=PF.ofG Tryz.prog [oR,PF.lend oR,PF.fz oR] [] aq 167 Tryz.f167 Tryz.func167 (fun c _=>LOk.nil c) uq (by
 intro vs es r h;unfold uq at h;split at h
 ·cases h;kernel_rfl
 ·cases h)
abbrev jf:=Int×Int×Int×List (Int×(Int×Int))
section
variable (y0 y1 y2:Int)(y3:List (Int×(Int×Int)))
def eB:Int×Int×Int:=Option.getD y3[Int.toNat y0]? ((0:Int),(0:Int),(0:Int))
def OV:List (Int×Int×Int):=List.drop (Int.toNat (0:Int)) (List.take y0.toNat y3)
def Af:Bool:=ltI y0 y1
def Iy:Bool:=leI (0:Int) y0
def QS:Bool:=ltI y0 (↑y3.length:Int)
def QT:Bool:=ltN y0.toNat y3.length
def Iz:Bool:=bif bif !ba ((eB y0 y3).1) (0:Int) (IntKind.wrap .i64 (y2 - (1:Int)))then true else !ba (((eB y0 y3).2).1) (0:Int) (1:Int)then true else !ba ((eB y0 y3).2.2) (0:Int) (1:Int)
end
def QU:Bool:=leI (0:Int) (0:Int)
section
variable (y0:Int)(y3:List (Int×(Int×Int)))
def QV:Bool:=leI y0 (↑y3.length:Int)
def QW:Bool:=eQ (OV y0 y3) ((eB y0 y3).1) (((eB y0 y3).2).1) ((eB y0 y3).2.2)
def QX:Bool:=eP (OV y0 y3) ((eB y0 y3).1) (((eB y0 y3).2).1) ((eB y0 y3).2.2)
def QY:Int:=IntKind.wrap .i64 (y0 + (1:Int))
end
def aaz:jf→List (Nat×SV)
 |(y0,y1,y2,_)=> [(9,(.one ⟨false,[(.val (.int .i64 y0))]⟩)),(8,(.one ⟨false,[(.val (.int .i64 y1))]⟩)),(7,(.one ⟨false,[(.ref 0)]⟩)),(0,(.one ⟨false,[(.val (.int .i64 y2))]⟩)),(1,(.one ⟨false,[(.ref 0)]⟩))]
def aav:jf→List (Nat×Entry)
 |(_,_,_,y3)=> [(0,(.row false 100 axj y3))]
def aaH:Nat→jf→List (Nat×SV)
 |0,(_,_,_,_)=> [(4,(.one ⟨false,[(.val (.bool false))]⟩))]
 |1,(_,_,_,_)=> [(4,(.one ⟨false,[(.val (.bool false))]⟩))]
 |_,(_,_,_,_)=> []
def aaD:Nat→jf→List (Nat×Entry)
 |0,(_,_,_,y3)=> [(0,(.row false 100 axj y3))]
 |1,(_,_,_,y3)=> [(0,(.row false 100 axj y3))]
 |_,(_,_,_,y3)=> [(0,(.row false 100 axj y3))]
def sK:jf→LT jf
 |(y0,y1,y2,y3)=> .ite (Af y0 y1) (.need [(Iy y0),(QS y0 y3),(QT y0 y3)] (.ite (Iz y0 y2 y3) (.ext 0 [(0,0)]) (.need [(QU),(Iy y0),(QV y0 y3),(QW y0 y3)] (.ite (QX y0 y3) (.ext 1 [(0,0)]) (.nrm ((QY y0),y1,y2,y3) [(0,0)]))))) (.ext 2 [(0,0)])
def Hu(s:St):Option jf:=
 (match s.look 9 with
 |some ⟨none,(.one ⟨false,[(.val (.int .i64 y0))]⟩)⟩=>
 (match s.look 8 with
 |some ⟨none,(.one ⟨false,[(.val (.int .i64 y1))]⟩)⟩=>
 (match s.look 7 with
 |some ⟨none,(.one ⟨false,[(.ref 0)]⟩)⟩=>
 (match s.look 0 with
 |some ⟨none,(.one ⟨false,[(.val (.int .i64 y2))]⟩)⟩=>
 (match s.look 1 with
 |some ⟨none,(.one ⟨false,[(.ref 0)]⟩)⟩=>
 (match s.ent 0 with
 |some (.row false 100 (.pair (.int .i64) (.pair (.int .i64) (.int .i64))) y3)=>
 some (y0,y1,y2,y3)
 |_=>none)
 |_=>none)
 |_=>none)
 |_=>none)
 |_=>none)
 |_=>none)
def bq:Lp jf where
 h:=⟨[10,11,12,13,6,5,14,15,16,17,18,19,20,21,22,23,24,25,26,27,28,29,30,31,4,32,33,34,35,36,37,9],[0],[],[]⟩
 JL:=aaz
 JE:=aav
 XL:=aaH
 XE:=aaD
 q:=fun j=>match j with | 0=> .ret | 1=> .ret | _=> .exit 0
 tags:= [0,1,2]
 lt:=sK
 fuel:=fun(y0,y1,y2,y3)=>y0.natAbs + y1.natAbs + y2.natAbs + y3.length
 fix:=fun(_,y1,y2,y3) (y0,_,_,_)=>(y0,y1,y2,y3)
 σ:= [(0,0)]
 rd:=Hu
theorem Yc:LoopOk Tryz.prog (fun k=>Nat.blt k Tryz.f78.ntmps) bq.F (au Tryz.f78 0):=by
 refine Lp.ok (tbl:= [gG,Sp,cO,PF.lend cO,PF.fz cO]) (lf:= []) aq bq (by kernel_rfl) (LOk.nil _) (fun _=>rfl) (fun j _=>by unfold bq;match j with | 0=>rfl | 1=>rfl | _ + 2=>rfl) ?_ ?_ ?_ ?_ (fun _=>rfl) ?_
 ·rintro⟨y0,y1,y2,y3⟩;kernel_rfl
 ·rintro⟨y0,y1,y2,y3⟩;kernel_rfl
 ·intro s x h
  have h:Hu s=some x:=h
  unfold Hu at h
  repeat' split at h
  all_goals cases h
  exact⟨aa (by assumption) rfl (aa (by assumption) rfl (aa (by assumption) rfl (aa (by assumption) rfl (aa (by assumption) rfl (rfl))))),ab rfl (by assumption) rfl (rfl)⟩
 ·rintro⟨y0,y1,y2,y3⟩;kernel_rfl
 ·rintro⟨y0,y1,y2,y3⟩ z;exact(And.intro (And.intro trivial (And.intro trivial rfl)) trivial)
section
variable (x0:Int)(x1:List (Int×Int×Int))
def wv:Int×Int×Int×List (Int×Int×Int):=((0:Int),(↑x1.length:Int),x0,x1)
def MN:Bool:=bif Nat.beq ((Lp.res bq (wv x0 x1)).1) (0:Nat)then false else bif Nat.beq ((Lp.res bq (wv x0 x1)).1) (1:Nat)then false else bif Ag x0 then leI (↑x1.length:Int) (8:Int)else false
def MO:Bool:=allT [Lp.fin bq (wv x0 x1)]
end
def Vb:List SV→List Entry→Option Out
 | [.one ⟨false,[.val (.int .i64 x0)]⟩,.one ⟨false,[.ref 0]⟩],[.row false 100 (.pair (.int .i64) (.pair (.int .i64) (.int .i64))) x1]=>some ⟨(.one ⟨false,[(.val (.bool (MN x0 x1)))]⟩),[(.row false 100 axj x1)],[],[(MO x0 x1)]⟩
 |_,_=>none
def agY:PF Tryz.prog:=PF.ofG Tryz.prog [gG,Sp,cO,PF.lend cO,PF.fz cO] [bq.F] aq 78 Tryz.f78 Tryz.func78 (LOk.fnT (l:= [au Tryz.f78 0]) (by kernel_rfl) (.cons Yc (.nil _))) Vb (by
 intro vs es r h;unfold Vb at h;split at h
 ·cases h;kernel_rfl
 ·cases h)
def US(x0:Int):Bool:=ba x0 (0:Int) (5:Int)
def aiB:List SV→List Entry→Option Out
 | [.one ⟨false,[.val (.int .i64 x0)]⟩],[]=>some ⟨(.one ⟨false,[(.val (.bool (US x0)))]⟩),[],[],[]⟩
 |_,_=>none
def ai9:PF Tryz.prog:=PF.ofG Tryz.prog [gG] [] aq 80 Tryz.f80 Tryz.func80 (fun c _=>LOk.nil c) aiB (by
 intro vs es r h;unfold aiB at h;split at h
 ·cases h;kernel_rfl
 ·cases h)
def yp(x0:Int):Bool:=ba x0 (0:Int) (100000:Int)
def akm:List SV→List Entry→Option Out
 | [.one ⟨false,[.val (.int .i64 x0)]⟩],[]=>some ⟨(.one ⟨false,[(.val (.bool (yp x0)))]⟩),[],[],[]⟩
 |_,_=>none
def So:PF Tryz.prog:=PF.ofG Tryz.prog [gG] [] aq 83 Tryz.f83 Tryz.func83 (fun c _=>LOk.nil c) akm (by
 intro vs es r h;unfold akm at h;split at h
 ·cases h;kernel_rfl
 ·cases h)
def anN(x0 x1:Int):Bool:=bif !ba x0 (1:Int) (366:Int)then true else !yp x1
def adT:List SV→List Entry→Option Out
 | [.one ⟨true,[.val (.int .i64 x0),.val (.int .i64 x1)]⟩],[]=>some ⟨(.one ⟨false,[(.val (.bool (anN x0 x1)))]⟩),[],[],[]⟩
 |_,_=>none
def anT:PF Tryz.prog:=PF.ofG Tryz.prog [gG,So] [] aq 170 Tryz.f170 Tryz.func170 (fun c _=>LOk.nil c) adT (by
 intro vs es r h;unfold adT at h;split at h
 ·cases h;kernel_rfl
 ·cases h)
def EI(x0 x1:Int):Bool:=bif !ba x0 (1:Int) (366:Int)then true else !yp x1
def Tp:List SV→List Entry→Option Out
 | [(.one ⟨true,[(.val (.int .i64 x0)),(.val (.int .i64 x1))]⟩)],[]=>some ⟨(.one ⟨false,[(.val (.bool (EI x0 x1)))]⟩),[],[],[]⟩
 |_,_=>none
def TE:PF Tryz.prog:=PF.ofG Tryz.prog [gG,So] [] aq 170 Tryz.f170 Tryz.func170 (fun c _=>LOk.nil c) Tp (by
 intro vs es r h;unfold Tp at h;split at h
 ·cases h;kernel_rfl
 ·cases h)
abbrev bf:=Int×Int×List (Int×Int)
section
variable (y0 y1:Int)(y2:List (Int×Int))
def ef:Int×Int:=Option.getD y2[Int.toNat y0]? ((0:Int),(0:Int))
def gR:Bool:=ltI y0 y1
def gS:Bool:=leI (0:Int) y0
def gT:Bool:=ltI y0 (↑y2.length:Int)
def gU:Bool:=ltN y0.toNat y2.length
def gV:Bool:=EI ((ef y0 y2).1) ((ef y0 y2).2)
def gW:Int:=IntKind.wrap .i64 (y0 + (1:Int))
end
def MG:bf→List (Nat×SV)
 |(y0,y1,_)=> [(8,(.one ⟨false,[(.val (.int .i64 y0))]⟩)),(7,(.one ⟨false,[(.val (.int .i64 y1))]⟩)),(1,(.one ⟨false,[(.val (.func (.func 170) ⟨[]⟩ ⟨[]⟩))]⟩)),(0,(.one ⟨false,[(.ref 0)]⟩))]
def MF:bf→List (Nat×Entry)
 |(_,_,y2)=> [(0,(.row false 173 axk y2))]
def MJ:Nat→bf→List (Nat×SV)
 |0,(y0,_,_)=> [(4,(.one ⟨false,[(.val (.int .i64 y0))]⟩))]
 |_,(_,_,_)=> []
def MI:Nat→bf→List (Nat×Entry)
 |0,(_,_,y2)=> [(0,(.row false 173 axk y2))]
 |_,(_,_,y2)=> [(0,(.row false 173 axk y2))]
def gK:bf→LT bf
 |(y0,y1,y2)=> .ite (gR y0 y1) (.need [(gS y0),(gT y0 y2),(gU y0 y2)] (.ite (gV y0 y2) (.ext 0 [(0,0)]) (.nrm ((gW y0),y1,y2) [(0,0)]))) (.ext 1 [(0,0)])
def p6(s:St):Option bf:=
 (match s.look 8 with
 |some ⟨none,(.one ⟨false,[(.val (.int .i64 y0))]⟩)⟩=>
 (match s.look 7 with
 |some ⟨none,(.one ⟨false,[(.val (.int .i64 y1))]⟩)⟩=>
 (match s.look 1 with
 |some ⟨none,(.one ⟨false,[(.val (.func (.func 170) ⟨[]⟩ ⟨[]⟩))]⟩)⟩=>
 (match s.look 0 with
 |some ⟨none,(.one ⟨false,[(.ref 0)]⟩)⟩=>
 (match s.ent 0 with
 |some (.row false 173 (.pair (.int .i64) (.int .i64)) y2)=>
 some (y0,y1,y2)
 |_=>none)
 |_=>none)
 |_=>none)
 |_=>none)
 |_=>none)
def ay:Lp bf where
 h:=⟨[9,10,5,11,12,13,14,15,16,17,4,18,8],[0],[],[]⟩
 JL:=MG
 JE:=MF
 XL:=MJ
 XE:=MI
 q:=fun j=>match j with | 0=> .ret | _=> .exit 0
 tags:= [0,1]
 lt:=gK
 fuel:=fun(y0,y1,y2)=>y0.natAbs + y1.natAbs + y2.length
 fix:=fun(_,y1,y2) (y0,_,_)=>(y0,y1,y2)
 σ:= [(0,0)]
 rd:=p6
theorem LC:LoopOk Tryz.prog (fun k=>Nat.blt k Tryz.f217.ntmps) ay.F (au Tryz.f217 0):=by
 refine Lp.ok (tbl:= [TE]) (lf:= []) aq ay (by kernel_rfl) (LOk.nil _) (fun _=>rfl) (fun j _=>by unfold ay;match j with | 0=>rfl | _ + 1=>rfl) ?_ ?_ ?_ ?_ (fun _=>rfl) ?_
 ·rintro⟨y0,y1,y2⟩;kernel_rfl
 ·rintro⟨y0,y1,y2⟩;kernel_rfl
 ·intro s x h
  have h:p6 s=some x:=h
  unfold p6 at h
  repeat' split at h
  all_goals cases h
  exact⟨aa (by assumption) rfl (aa (by assumption) rfl (aa (by assumption) rfl (aa (by assumption) rfl (rfl)))),ab rfl (by assumption) rfl (rfl)⟩
 ·rintro⟨y0,y1,y2⟩;kernel_rfl
 ·rintro⟨y0,y1,y2⟩ z;exact(And.intro (And.intro trivial rfl) trivial)
section
variable (x0:List (Int×Int))
def lL:Int×Int×List (Int×Int):=((0:Int),(↑x0.length:Int),x0)
def te:Int:=bif Nat.beq ((Lp.res ay (lL x0)).1) (0:Nat)then ((Lp.res ay (lL x0)).2).1else(-1:Int)
def tf:Bool:=allT [Lp.fin ay (lL x0)]
end
def CZ:List SV→List Entry→Option Out
 | [(.one ⟨false,[(.ref 0)]⟩),(.one ⟨false,[(.val (.func (.func 170) ⟨[]⟩ ⟨[]⟩))]⟩)],[(.row false 173 (.pair (.int .i64) (.int .i64)) x0)]=>some ⟨(.one ⟨false,[(.val (.int .i64 (te x0)))]⟩),[(.row false 173 axk x0)],[],[(tf x0)]⟩
 |_,_=>none
def td:PF Tryz.prog:=PF.ofG Tryz.prog [TE] [ay.F] aq 217 Tryz.f217 Tryz.func217 (LOk.fnT (l:= [au Tryz.f217 0]) (by kernel_rfl) (.cons LC (.nil _))) CZ (by
 intro vs es r h;unfold CZ at h;split at h
 ·cases h;kernel_rfl
 ·cases h)
def qT(x0:List (Int×Int)):Bool:=leI (0:Int) (te x0)
def qU(x0:List (Int×Int)):Bool:=allT [tf x0]
def Ab:List SV→List Entry→Option Out
 | [(.one ⟨false,[(.ref 0)]⟩),(.one ⟨false,[(.val (.func (.func 170) ⟨[]⟩ ⟨[]⟩))]⟩)],[(.row false 173 (.pair (.int .i64) (.int .i64)) x0)]=>some ⟨(.one ⟨false,[(.val (.bool (qT x0)))]⟩),[(.row false 173 axk x0)],[],[(qU x0)]⟩
 |_,_=>none
def qQ:PF Tryz.prog:=PF.ofG Tryz.prog [td,PF.lend td,PF.fz td] [] aq 169 Tryz.f169 Tryz.func169 (fun c _=>LOk.nil c) Ab (by
 intro vs es r h;unfold Ab at h;split at h
 ·cases h;kernel_rfl
 ·cases h)
section
variable (x0:List (Int×Int))
def XW:Bool:=leI (↑x0.length:Int) (12:Int)
def aaL:Bool:=bif XW x0 then !qT x0 else false
def aaM:Bool:=allT [!(XW x0&&true)||qU x0]
end
def aiy:List SV→List Entry→Option Out
 | [.one ⟨false,[.ref 0]⟩],[.row false 173 (.pair (.int .i64) (.int .i64)) x0]=>some ⟨(.one ⟨false,[(.val (.bool (aaL x0)))]⟩),[(.row false 173 axk x0)],[],[(aaM x0)]⟩
 |_,_=>none
def apI:PF Tryz.prog:=PF.ofG Tryz.prog [anT,qQ,PF.lend qQ,PF.fz qQ] [] aq 81 Tryz.f81 Tryz.func81 (fun c _=>LOk.nil c) aiy (by
 intro vs es r h;unfold aiy at h;split at h
 ·cases h;kernel_rfl
 ·cases h)
def UR(x0 x1:Int):Bool:=bif ba x0 (0:Int) (23:Int)then ba x1 (1:Int) (999:Int)else false
def aiA:List SV→List Entry→Option Out
 | [.one ⟨true,[.val (.int .i64 x0),.val (.int .i64 x1)]⟩],[]=>some ⟨(.one ⟨false,[(.val (.bool (UR x0 x1)))]⟩),[],[],[]⟩
 |_,_=>none
def ai8:PF Tryz.prog:=PF.ofG Tryz.prog [gG] [] aq 171 Tryz.f171 Tryz.func171 (fun c _=>LOk.nil c) aiA (by
 intro vs es r h;unfold aiA at h;split at h
 ·cases h;kernel_rfl
 ·cases h)
abbrev cV:=Int×Int×Int×Int×List (Int×Int)
section
variable (y0 y1 y2 y3:Int)(y4:List (Int×Int))
def jP:Int×Int:=Option.getD y4[Int.toNat y0]? ((0:Int),(0:Int))
def ol:Bool:=ltI y0 y1
def om:Bool:=leI (0:Int) y0
def oo:Bool:=ltI y0 (↑y4.length:Int)
def oq:Bool:=ltN y0.toNat y4.length
def ot:Bool:=bif y2==(jP y0 y4).1then bif y3==(jP y0 y4).2then true else false else false
def ou:Int:=IntKind.wrap .i64 (y0 + (1:Int))
end
def VI:cV→List (Nat×SV)
 |(y0,y1,_,_,_)=> [(8,(.one ⟨false,[(.val (.int .i64 y0))]⟩)),(7,(.one ⟨false,[(.val (.int .i64 y1))]⟩)),(3,(.one ⟨false,[(.ptr 0 0)]⟩)),(0,(.one ⟨false,[(.ref 1)]⟩))]
def VH:cV→List (Nat×Entry)
 |(_,_,y2,y3,y4)=> [(0,(.box 176 [(.val (.int .i64 y2)),(.val (.int .i64 y3))])),(1,(.row false 176 axk y4))]
def VK:Nat→cV→List (Nat×SV)
 |0,(y0,_,_,_,_)=> [(4,(.one ⟨false,[(.val (.int .i64 y0))]⟩))]
 |_,(_,_,_,_,_)=> []
def VJ:Nat→cV→List (Nat×Entry)
 |0,(_,_,y2,y3,y4)=> [(0,(.box 176 [(.val (.int .i64 y2)),(.val (.int .i64 y3))])),(1,(.row false 176 axk y4))]
 |_,(_,_,y2,y3,y4)=> [(0,(.box 176 [(.val (.int .i64 y2)),(.val (.int .i64 y3))])),(1,(.row false 176 axk y4))]
def mM:cV→LT cV
 |(y0,y1,y2,y3,y4)=> .ite (ol y0 y1) (.need [(om y0),(oo y0 y4),(oq y0 y4)] (.ite (ot y0 y2 y3 y4) (.ext 0 [(0,0),(1,1)]) (.nrm ((ou y0),y1,y2,y3,y4) [(0,0),(1,1)]))) (.ext 1 [(0,0),(1,1)])
def AQ(s:St):Option cV:=
 (match s.look 8 with
 |some ⟨none,(.one ⟨false,[(.val (.int .i64 y0))]⟩)⟩=>
 (match s.look 7 with
 |some ⟨none,(.one ⟨false,[(.val (.int .i64 y1))]⟩)⟩=>
 (match s.look 3 with
 |some ⟨none,(.one ⟨false,[(.ptr 128 0)]⟩)⟩=>
 (match s.look 0 with
 |some ⟨none,(.one ⟨false,[(.ref 0)]⟩)⟩=>
 (match s.ent 128 with
 |some (.box 176 [(.val (.int .i64 y2)),(.val (.int .i64 y3))])=>
 (match s.ent 0 with
 |some (.row false 176 (.pair (.int .i64) (.int .i64)) y4)=>
 some (y0,y1,y2,y3,y4)
 |_=>none)
 |_=>none)
 |_=>none)
 |_=>none)
 |_=>none)
 |_=>none)
def aW:Lp cV where
 h:=⟨[9,10,5,11,12,13,14,15,16,17,4,18,8],[0,1],[],[]⟩
 JL:=VI
 JE:=VH
 XL:=VK
 XE:=VJ
 q:=fun j=>match j with | 0=> .ret | _=> .exit 0
 tags:= [0,1]
 lt:=mM
 fuel:=fun(y0,y1,y2,y3,y4)=>y0.natAbs + y1.natAbs + y2.natAbs + y3.natAbs + y4.length
 fix:=fun(_,y1,y2,y3,y4) (y0,_,_,_,_)=>(y0,y1,y2,y3,y4)
 σ:= [(0,128),(1,0)]
 rd:=AQ
theorem Ur:LoopOk Tryz.prog (fun k=>Nat.blt k Tryz.f218.ntmps) aW.F (au Tryz.f218 0):=by
 refine Lp.ok (tbl:= []) (lf:= []) aq aW (by kernel_rfl) (LOk.nil _) (fun _=>rfl) (fun j _=>by unfold aW;match j with | 0=>rfl | _ + 1=>rfl) ?_ ?_ ?_ ?_ (fun _=>rfl) ?_
 ·rintro⟨y0,y1,y2,y3,y4⟩;kernel_rfl
 ·rintro⟨y0,y1,y2,y3,y4⟩;kernel_rfl
 ·intro s x h
  have h:AQ s=some x:=h
  unfold AQ at h
  repeat' split at h
  all_goals cases h
  exact⟨aa (by assumption) rfl (aa (by assumption) rfl (aa (by assumption) rfl (aa (by assumption) rfl (rfl)))),ab rfl (by assumption) rfl (ab rfl (by assumption) rfl (rfl))⟩
 ·rintro⟨y0,y1,y2,y3,y4⟩;kernel_rfl
 ·rintro⟨y0,y1,y2,y3,y4⟩ z;exact(And.intro (And.intro trivial rfl) trivial)
section
variable (x0 x1:Int)(x2:List (Int×Int))
def wm:Int×Int×Int×Int×List (Int×Int):=((0:Int),(↑x2.length:Int),x0,x1,x2)
def Hy:Int:=bif Nat.beq ((Lp.res aW (wm x0 x1 x2)).1) (0:Nat)then ((Lp.res aW (wm x0 x1 x2)).2).1else(-1:Int)
def Hz:Bool:=allT [Lp.fin aW (wm x0 x1 x2)]
end
def OS:List SV→List Entry→Option Out
 | [.one ⟨false,[.ref 0]⟩,.one ⟨true,[.val (.int .i64 x0),.val (.int .i64 x1)]⟩],[.row false 176 (.pair (.int .i64) (.int .i64)) x2]=>some ⟨(.one ⟨false,[(.val (.int .i64 (Hy x0 x1 x2)))]⟩),[(.row false 176 axk x2)],[],[(Hz x0 x1 x2)]⟩
 |_,_=>none
def Hs:PF Tryz.prog:=PF.ofG Tryz.prog [] [aW.F] aq 218 Tryz.f218 Tryz.func218 (LOk.fnT (l:= [au Tryz.f218 0]) (by kernel_rfl) (.cons Ur (.nil _))) OS (by
 intro vs es r h;unfold OS at h;split at h
 ·cases h;kernel_rfl
 ·cases h)
def oj(x0 x1:Int)(x2:List (Int×Int)):Bool:=leI (0:Int) (Hy x0 x1 x2)
def uc(x0 x1:Int)(x2:List (Int×Int)):Bool:=allT [Hz x0 x1 x2]
def Md:List SV→List Entry→Option Out
 | [.one ⟨false,[.ref 0]⟩,.one ⟨true,[.val (.int .i64 x0),.val (.int .i64 x1)]⟩],[.row false 176 (.pair (.int .i64) (.int .i64)) x2]=>some ⟨(.one ⟨false,[(.val (.bool (oj x0 x1 x2)))]⟩),[(.row false 176 axk x2)],[],[(uc x0 x1 x2)]⟩
 |_,_=>none
def kD:PF Tryz.prog:=PF.ofG Tryz.prog [Hs,PF.lend Hs,PF.fz Hs] [] aq 172 Tryz.f172 Tryz.func172 (fun c _=>LOk.nil c) Md (by
 intro vs es r h;unfold Md at h;split at h
 ·cases h;kernel_rfl
 ·cases h)
abbrev px:=Int×Int×List (Int×Int)
section
variable (y0 y1:Int)(y2:List (Int×Int))
def nt:Int×Int:=Option.getD y2[Int.toNat y0]? ((0:Int),(0:Int))
def nu:Bool:= !UR ((nt y0 y2).1) ((nt y0 y2).2)
def HY:List (Int×Int):=bif !nu y0 y2&&true then List.drop (Int.toNat (0:Int)) (List.take y0.toNat y2)else []
def Ko:Bool:=ltI y0 y1
def XN:Bool:=leI (0:Int) y0
def XO:Bool:=ltI y0 (↑y2.length:Int)
def XP:Bool:=ltN y0.toNat y2.length
def XQ:Bool:= !(!nu y0 y2&&true)||leI (0:Int) (0:Int)
def XR:Bool:= !(!nu y0 y2&&true)||leI (0:Int) y0
def XS:Bool:= !(!nu y0 y2&&true)||leI y0 (↑y2.length:Int)
def XT:Bool:= !(!nu y0 y2&&true)||uc ((nt y0 y2).1) ((nt y0 y2).2) (HY y0 y2)
def XU:Bool:=bif nu y0 y2 then true else oj ((nt y0 y2).1) ((nt y0 y2).2) (HY y0 y2)
def XV:Int:=IntKind.wrap .i64 (y0 + (1:Int))
end
def ahM:px→List (Nat×SV)
 |(y0,y1,_)=> [(7,(.one ⟨false,[(.val (.int .i64 y0))]⟩)),(6,(.one ⟨false,[(.val (.int .i64 y1))]⟩)),(5,(.one ⟨false,[(.ref 0)]⟩)),(0,(.one ⟨false,[(.ref 0)]⟩))]
def ahD:px→List (Nat×Entry)
 |(_,_,y2)=> [(0,(.row false 176 axk y2))]
def ah4:Nat→px→List (Nat×SV)
 |0,(_,_,_)=> [(2,(.one ⟨false,[(.val (.bool false))]⟩))]
 |_,(_,_,_)=> []
def ahV:Nat→px→List (Nat×Entry)
 |0,(_,_,y2)=> [(0,(.row false 176 axk y2))]
 |_,(_,_,y2)=> [(0,(.row false 176 axk y2))]
def BK:px→LT px
 |(y0,y1,y2)=> .ite (Ko y0 y1) (.need [(XN y0),(XO y0 y2),(XP y0 y2)] (.need [(XQ y0 y2),(XR y0 y2),(XS y0 y2),(XT y0 y2)] (.ite (XU y0 y2) (.ext 0 [(0,0)]) (.nrm ((XV y0),y1,y2) [(0,0)])))) (.ext 1 [(0,0)])
def OB(s:St):Option px:=
 (match s.look 7 with
 |some ⟨none,(.one ⟨false,[(.val (.int .i64 y0))]⟩)⟩=>
 (match s.look 6 with
 |some ⟨none,(.one ⟨false,[(.val (.int .i64 y1))]⟩)⟩=>
 (match s.look 5 with
 |some ⟨none,(.one ⟨false,[(.ref 0)]⟩)⟩=>
 (match s.look 0 with
 |some ⟨none,(.one ⟨false,[(.ref 0)]⟩)⟩=>
 (match s.ent 0 with
 |some (.row false 176 (.pair (.int .i64) (.int .i64)) y2)=>
 some (y0,y1,y2)
 |_=>none)
 |_=>none)
 |_=>none)
 |_=>none)
 |_=>none)
def dQ:Lp px where
 h:=⟨[8,9,10,11,4,3,12,13,14,15,16,17,18,19,20,21,2,22,7],[0],[],[]⟩
 JL:=ahM
 JE:=ahD
 XL:=ah4
 XE:=ahV
 q:=fun j=>match j with | 0=> .ret | _=> .exit 0
 tags:= [0,1]
 lt:=BK
 fuel:=fun(y0,y1,y2)=>y0.natAbs + y1.natAbs + y2.length
 fix:=fun(_,y1,y2) (y0,_,_)=>(y0,y1,y2)
 σ:= [(0,0)]
 rd:=OB
theorem aeS:LoopOk Tryz.prog (fun k=>Nat.blt k Tryz.f82.ntmps) dQ.F (au Tryz.f82 0):=by
 refine Lp.ok (tbl:= [ai8,kD,PF.lend kD,PF.fz kD]) (lf:= []) aq dQ (by kernel_rfl) (LOk.nil _) (fun _=>rfl) (fun j _=>by unfold dQ;match j with | 0=>rfl | _ + 1=>rfl) ?_ ?_ ?_ ?_ (fun _=>rfl) ?_
 ·rintro⟨y0,y1,y2⟩;kernel_rfl
 ·rintro⟨y0,y1,y2⟩;kernel_rfl
 ·intro s x h
  have h:OB s=some x:=h
  unfold OB at h
  repeat' split at h
  all_goals cases h
  exact⟨aa (by assumption) rfl (aa (by assumption) rfl (aa (by assumption) rfl (aa (by assumption) rfl (rfl)))),ab rfl (by assumption) rfl (rfl)⟩
 ·rintro⟨y0,y1,y2⟩;kernel_rfl
 ·rintro⟨y0,y1,y2⟩ z;exact(And.intro (And.intro trivial rfl) trivial)
section
variable (x0:List (Int×Int))
def TL:Int×Int×List (Int×Int):=((0:Int),(↑x0.length:Int),x0)
def VO:Bool:=bif Nat.beq ((Lp.res dQ (TL x0)).1) (0:Nat)then false else leI (↑x0.length:Int) (8:Int)
def VP:Bool:=allT [Lp.fin dQ (TL x0)]
end
def adS:List SV→List Entry→Option Out
 | [.one ⟨false,[.ref 0]⟩],[.row false 176 (.pair (.int .i64) (.int .i64)) x0]=>some ⟨(.one ⟨false,[(.val (.bool (VO x0)))]⟩),[(.row false 176 axk x0)],[],[(VP x0)]⟩
 |_,_=>none
def anS:PF Tryz.prog:=PF.ofG Tryz.prog [ai8,kD,PF.lend kD,PF.fz kD] [dQ.F] aq 82 Tryz.f82 Tryz.func82 (LOk.fnT (l:= [au Tryz.f82 0]) (by kernel_rfl) (.cons aeS (.nil _))) adS (by
 intro vs es r h;unfold adS at h;split at h
 ·cases h;kernel_rfl
 ·cases h)
abbrev jx:=Int×Int×List (List Int)
section
variable (y0 y1:Int)(y2:List (List Int))
def jT:List Int:=Option.getD y2[Int.toNat y0]? (wu (CTy.sl (2:TypeId) axl))
def vv:Bool:=ltI y0 (↑y2.length:Int)
def Ii:Bool:=leI (0:Int) y0
def Ij:Bool:=ltN y0.toNat y2.length
def Ik:Bool:=leN (List.length (jT y0 y2)) (9223372036854775807:Nat)&&(leI (-1:Int) y1&&leI y1 (1048576:Int))
def Il:Bool:=ltI (szV y1 (jT y0 y2)) (0:Int)
end
def BF:Int:=(-1:Int)
def On(y0:Int):Int:=IntKind.wrap .i64 (y0 + (1:Int))
def Im(y0 y1:Int)(y2:List (List Int)):Int:=szV y1 (jT y0 y2)
def afQ:jx→List (Nat×SV)
 |(y0,y1,_)=> [(5,(.one ⟨false,[(.val (.int .i64 y0))]⟩)),(0,(.one ⟨false,[(.ref 0)]⟩)),(1,(.one ⟨false,[(.val (.int .i64 y1))]⟩))]
def afG:jx→List (Nat×Entry)
 |(_,_,y2)=> [(0,(.row false 24 (CTy.sl (2:TypeId) axl) y2))]
def agn:Nat→jx→List (Nat×SV)
 |0,(_,_,_)=> [(4,(.one ⟨false,[(.val (.int .i64 (BF)))]⟩))]
 |_,(_,y1,_)=> [(1,(.one ⟨false,[(.val (.int .i64 y1))]⟩))]
def agc:Nat→jx→List (Nat×Entry)
 |0,(_,_,y2)=> [(0,(.row false 24 (CTy.sl (2:TypeId) axl) y2))]
 |_,(_,_,y2)=> [(0,(.row false 24 (CTy.sl (2:TypeId) axl) y2))]
def zq:jx→LT jx
 |(y0,y1,y2)=> .ite (vv y0 y2) (.need [(Ii y0),(vv y0 y2),(Ij y0 y2),(Ik y0 y1 y2)] (.ite (Il y0 y1 y2) (.ext 0 [(0,0)]) (.nrm ((On y0),(Im y0 y1 y2),y2) [(0,0)]))) (.ext 1 [(0,0)])
def Nn(s:St):Option jx:=
 (match s.look 5 with
 |some ⟨none,(.one ⟨false,[(.val (.int .i64 y0))]⟩)⟩=>
 (match s.look 0 with
 |some ⟨none,(.one ⟨false,[(.ref 0)]⟩)⟩=>
 (match s.look 1 with
 |some ⟨none,(.one ⟨false,[(.val (.int .i64 y1))]⟩)⟩=>
 (match s.ent 0 with
 |some (.row false 24 (.sl 2 (.int .i64)) y2)=>
 some (y0,y1,y2)
 |_=>none)
 |_=>none)
 |_=>none)
 |_=>none)
def cz:Lp jx where
 h:=⟨[12,13,14,15,18,19,20,21,22,23,1,24,25,4,16,17,5],[0],[],[]⟩
 JL:=afQ
 JE:=afG
 XL:=agn
 XE:=agc
 q:=fun j=>match j with | 0=> .ret | _=> .exit 0
 tags:= [0,1]
 lt:=zq
 fuel:=fun(y0,y1,y2)=>y0.natAbs + y1.natAbs + y2.length
 fix:=fun(_,_,y2) (y0,y1,_)=>(y0,y1,y2)
 σ:= [(0,0)]
 rd:=Nn
theorem adv:LoopOk Tryz.prog (fun k=>Nat.blt k Tryz.f106.ntmps) cz.F (au Tryz.f106 0):=by
 refine Lp.ok (tbl:= [sT,PF.lend sT,PF.fz sT]) (lf:= []) aq cz (by kernel_rfl) (LOk.nil _) (fun _=>rfl) (fun j _=>by unfold cz;match j with | 0=>rfl | _ + 1=>rfl) ?_ ?_ ?_ ?_ (fun _=>rfl) ?_
 ·rintro⟨y0,y1,y2⟩;kernel_rfl
 ·rintro⟨y0,y1,y2⟩;kernel_rfl
 ·intro s x h
  have h:Nn s=some x:=h
  unfold Nn at h
  repeat' split at h
  all_goals cases h
  exact⟨aa (by assumption) rfl (aa (by assumption) rfl (aa (by assumption) rfl (rfl))),ab rfl (by assumption) rfl (rfl)⟩
 ·rintro⟨y0,y1,y2⟩;kernel_rfl
 ·rintro⟨y0,y1,y2⟩ z;exact(And.intro (And.intro trivial rfl) trivial)
section
variable (x0:Int)(x1:List (List Int))
def FZ:Int:=IntKind.wrap .i64 (x0 - (↑x1.length:Int))
def Mj:Int×Int×List (List Int):=((0:Int),FZ x0 x1,x1)
def Ui:Int:=bif ltI (FZ x0 x1) (0:Int)then(-1:Int)else bif Nat.beq ((Lp.res cz (Mj x0 x1)).1) (0:Nat)then BF else ((Lp.res cz (Mj x0 x1)).2.2).1
def Uj:Bool:=allT [ltI (FZ x0 x1) (0:Int)||Lp.fin cz (Mj x0 x1)]
end
def abw:List SV→List Entry→Option Out
 | [.one ⟨false,[.ref 0]⟩,.one ⟨false,[.val (.int .i64 x0)]⟩],[.row false 24 (.sl 2 (.int .i64)) x1]=>some ⟨(.one ⟨false,[(.val (.int .i64 (Ui x0 x1)))]⟩),[(.row false 24 (CTy.sl (2:TypeId) axl) x1)],[],[(Uj x0 x1)]⟩
 |_,_=>none
def amO:PF Tryz.prog:=PF.ofG Tryz.prog [sT,PF.lend sT,PF.fz sT] [cz.F] aq 106 Tryz.f106 Tryz.func106 (LOk.fnT (l:= [au Tryz.f106 0]) (by kernel_rfl) (.cons adv (.nil _))) abw (by
 intro vs es r h;unfold abw at h;split at h
 ·cases h;kernel_rfl
 ·cases h)
def Vs(x0:Int)(x1:List (Int×Int×Int)):Int:=IntKind.wrap .i64 (x0 - (↑x1.length:Int))
def vz(x0:Int)(x1:List (Int×Int×Int)):Int:=bif ltI (Vs x0 x1) (0:Int)then(-1:Int)else Vs x0 x1
def Wy:List SV→List Entry→Option Out
 | [.one ⟨false,[.ref 0]⟩,.one ⟨false,[.val (.int .i64 x0)]⟩],[.row false 208 (.pair (.int .i64) (.pair (.int .i64) (.int .i64))) x1]=>some ⟨(.one ⟨false,[(.val (.int .i64 (vz x0 x1)))]⟩),[(.row false 208 axj x1)],[],[]⟩
 |_,_=>none
def Ot:PF Tryz.prog:=PF.ofG Tryz.prog [] [] aq 107 Tryz.f107 Tryz.func107 (fun c _=>LOk.nil c) Wy (by
 intro vs es r h;unfold Wy at h;split at h
 ·cases h;kernel_rfl
 ·cases h)
def aek(x0:Int)(x1:List (Int×Int)):Int:=IntKind.wrap .i64 (x0 - (↑x1.length:Int))
def MV(x0:Int)(x1:List (Int×Int)):Int:=bif ltI (aek x0 x1) (0:Int)then(-1:Int)else aek x0 x1
def afh:List SV→List Entry→Option Out
 | [.one ⟨false,[.ref 0]⟩,.one ⟨false,[.val (.int .i64 x0)]⟩],[.row false 210 (.pair (.int .i64) (.int .i64)) x1]=>some ⟨(.one ⟨false,[(.val (.int .i64 (MV x0 x1)))]⟩),[(.row false 210 axk x1)],[],[]⟩
 |_,_=>none
def Yt:PF Tryz.prog:=PF.ofG Tryz.prog [] [] aq 108 Tryz.f108 Tryz.func108 (fun c _=>LOk.nil c) afh (by
 intro vs es r h;unfold afh at h;split at h
 ·cases h;kernel_rfl
 ·cases h)
def aej(x0:Int)(x1:List (Int×Int)):Int:=IntKind.wrap .i64 (x0 - (↑x1.length:Int))
def RZ(x0:Int)(x1:List (Int×Int)):Int:=bif ltI (aej x0 x1) (0:Int)then(-1:Int)else aej x0 x1
def afg:List SV→List Entry→Option Out
 | [.one ⟨false,[.ref 0]⟩,.one ⟨false,[.val (.int .i64 x0)]⟩],[.row false 212 (.pair (.int .i64) (.int .i64)) x1]=>some ⟨(.one ⟨false,[(.val (.int .i64 (RZ x0 x1)))]⟩),[(.row false 212 axk x1)],[],[]⟩
 |_,_=>none
def Ys:PF Tryz.prog:=PF.ofG Tryz.prog [] [] aq 109 Tryz.f109 Tryz.func109 (fun c _=>LOk.nil c) afg (by
 intro vs es r h;unfold afg at h;split at h
 ·cases h;kernel_rfl
 ·cases h)
abbrev jy:=Int×List (List Int)×List (List Int)
section
variable (y0:Int)(y1 y2:List (List Int))
def pX:List Int:=Option.getD y1[Int.toNat y0]? (wu (CTy.sl (2:TypeId) axl))
def vA:Bool:=ltI y0 (↑y1.length:Int)
def vB:Bool:=leI (0:Int) y0
def BG:Bool:=ltN y0.toNat y1.length
def BH:Bool:=leN (List.length (pX y0 y1)) (1048576:Nat)
def BI:Bool:=ltI y0 (↑y2.length:Int)
def BJ:Bool:=ltN y0.toNat y2.length
def Io:Int:=IntKind.wrap .i64 (y0 + (1:Int))
def Ip:List (List Int):=List.set y2 y0.toNat (pX y0 y1)
end
def afR:jy→List (Nat×SV)
 |(y0,_,_)=> [(4,(.one ⟨false,[(.val (.int .i64 y0))]⟩)),(0,(.one ⟨false,[(.ref 0)]⟩)),(3,(.one ⟨false,[(.ref 1)]⟩))]
def afH:jy→List (Nat×Entry)
 |(_,y1,y2)=> [(0,(.row false 24 (CTy.sl (2:TypeId) axl) y1)),(1,(.tree 24 (CTy.sl (2:Nat) axl) y2 none))]
def ago:Nat→jy→List (Nat×SV)
 |_,(_,_,_)=> []
def agd:Nat→jy→List (Nat×Entry)
 |_,(_,y1,y2)=> [(0,(.row false 24 (CTy.sl (2:TypeId) axl) y1)),(1,(.tree 24 (CTy.sl (2:Nat) axl) y2 none))]
def zr:jy→LT jy
 |(y0,y1,y2)=> .ite (vA y0 y1) (.need [(vB y0),(vA y0 y1),(BG y0 y1),(BH y0 y1),(vB y0),(BI y0 y2),(BJ y0 y2)] (.nrm ((Io y0),y1,(Ip y0 y1 y2)) [(0,0),(1,1)])) (.ext 0 [(0,0),(1,1)])
def Np(s:St):Option jy:=
 (match s.look 4 with
 |some ⟨none,(.one ⟨false,[(.val (.int .i64 y0))]⟩)⟩=>
 (match s.look 0 with
 |some ⟨none,(.one ⟨false,[(.ref 0)]⟩)⟩=>
 (match s.look 3 with
 |some ⟨none,(.one ⟨false,[(.ref 320)]⟩)⟩=>
 (match s.ent 0 with
 |some (.row false 24 (.sl 2 (.int .i64)) y1)=>
 (match s.ent 320 with
 |some (.tree 24 (.sl 2 (.int .i64)) y2 none)=>
 some (y0,y1,y2)
 |_=>none)
 |_=>none)
 |_=>none)
 |_=>none)
 |_=>none)
def dZ:Lp jy where
 h:=⟨[8,9,10,11,14,15,16,17,18,19,20,21,12,13,4],[0,1],[],[]⟩
 JL:=afR
 JE:=afH
 XL:=ago
 XE:=agd
 q:=fun j=>match j with | _=> .exit 0
 tags:= [0]
 lt:=zr
 fuel:=fun(y0,y1,y2)=>y0.natAbs + y1.length + y2.length
 fix:=fun(_,y1,_) (y0,_,y2)=>(y0,y1,y2)
 σ:= [(0,0),(1,320)]
 rd:=Np
theorem adw:LoopOk Tryz.prog (fun k=>Nat.blt k Tryz.f112.ntmps) dZ.F (au Tryz.f112 0):=by
 refine Lp.ok (tbl:= [PF.trees Tryz.prog,sU,PF.lend sU,PF.fz sU]) (lf:= []) aq dZ (by kernel_rfl) (LOk.nil _) (fun _=>rfl) (fun _ _=>rfl) ?_ ?_ ?_ ?_ (fun _=>rfl) ?_
 ·rintro⟨y0,y1,y2⟩;kernel_rfl
 ·rintro⟨y0,y1,y2⟩;kernel_rfl
 ·intro s x h
  have h:Np s=some x:=h
  unfold Np at h
  repeat' split at h
  all_goals cases h
  exact⟨aa (by assumption) rfl (aa (by assumption) rfl (aa (by assumption) rfl (rfl))),ab rfl (by assumption) rfl (ab rfl (by assumption) rfl (rfl))⟩
 ·rintro⟨y0,y1,y2⟩;kernel_rfl
 ·rintro⟨y0,y1,y2⟩ z;exact(And.intro rfl trivial)
section
variable (x0:List (List Int))
def Mk:Int×List (List Int)×List (List Int):=((0:Int),x0,List.replicate (Int.toNat (↑x0.length:Int)) [])
def Un:List (List Int):=(Lp.res dZ (Mk x0)).2.2.2
def Uo:Bool:=allT [leI (0:Int) (↑x0.length:Int),leI (↑x0.length:Int) (↑x0.length:Int),leI ((↑(24:Nat):Int) * (↑x0.length:Int)) (281474976710656:Int),leI (↑x0.length:Int) (9223372036854775807:Int),Lp.fin dZ (Mk x0)]
end
def abz:List SV→List Entry→Option Out
 | [.one ⟨false,[.ref 0]⟩],[.row false 24 (.sl 2 (.int .i64)) x0]=>some ⟨(.one ⟨false,[(.ref 1)]⟩),[(.row false 24 (CTy.sl (2:TypeId) axl) x0)],[(.tree 24 (CTy.sl (2:Nat) axl) (Un x0) none)],[(Uo x0)]⟩
 |_,_=>none
def amR:PF Tryz.prog:=PF.ofG Tryz.prog [PF.trees Tryz.prog,sU,PF.lend sU,PF.fz sU] [dZ.F] aq 112 Tryz.f112 Tryz.func112 (LOk.fnT (l:= [au Tryz.f112 0]) (by kernel_rfl) (.cons adw (.nil _))) abz (by
 intro vs es r h;unfold abz at h;split at h
 ·cases h;kernel_rfl
 ·cases h)
def Xv:List SV→List Entry→Option Out
 | [.one ⟨true,[.val (.int .i64 x0),.val (.int .i64 x1),.val (.int .i64 x2)]⟩],[]=>some ⟨(.one ⟨true,[(.val (.int .i64 x0)),(.val (.int .i64 x1)),(.val (.int .i64 x2))]⟩),[],[],[]⟩
 |_,_=>none
def Yu:PF Tryz.prog:=PF.ofG Tryz.prog [] [] aq 191 Tryz.f191 Tryz.func191 (fun c _=>LOk.nil c) Xv (by
 intro vs es r h;unfold Xv at h;split at h
 ·cases h;kernel_rfl
 ·cases h)
abbrev gE:=Int×List (Int×(Int×Int))×List (Int×(Int×Int))
section
variable (y0:Int)(y1 y2:List (Int×(Int×Int)))
def ln:Int×Int×Int:=Option.getD y1[Int.toNat y0]? ((0:Int),(0:Int),(0:Int))
def qJ:Bool:=ltI y0 (↑y1.length:Int)
def qK:Bool:=leI (0:Int) y0
def uJ:Bool:=ltN y0.toNat y1.length
def uK:Bool:=ltI y0 (↑y2.length:Int)
def uL:Bool:=ltN y0.toNat y2.length
def uN:Int:=IntKind.wrap .i64 (y0 + (1:Int))
def uO:List (Int×(Int×Int)):=List.set y2 y0.toNat ((ln y0 y1).1,((ln y0 y1).2).1,(ln y0 y1).2.2)
end
def abL:gE→List (Nat×SV)
 |(y0,_,_)=> [(4,(.one ⟨false,[(.val (.int .i64 y0))]⟩)),(0,(.one ⟨false,[(.ref 0)]⟩)),(3,(.one ⟨false,[(.ref 1)]⟩))]
def abI:gE→List (Nat×Entry)
 |(_,y1,y2)=> [(0,(.row false 208 axj y1)),(1,(.row true 100 axj y2))]
def ab9:Nat→gE→List (Nat×SV)
 |_,(_,_,_)=> []
def ab6:Nat→gE→List (Nat×Entry)
 |_,(_,y1,y2)=> [(0,(.row false 208 axj y1)),(1,(.row true 100 axj y2))]
def tI:gE→LT gE
 |(y0,y1,y2)=> .ite (qJ y0 y1) (.need [(qK y0),(qJ y0 y1),(uJ y0 y1),(qK y0),(uK y0 y2),(uL y0 y2)] (.nrm ((uN y0),y1,(uO y0 y1 y2)) [(0,0),(1,1)])) (.ext 0 [(0,0),(1,1)])
def IQ(s:St):Option gE:=
 (match s.look 4 with
 |some ⟨none,(.one ⟨false,[(.val (.int .i64 y0))]⟩)⟩=>
 (match s.look 0 with
 |some ⟨none,(.one ⟨false,[(.ref 0)]⟩)⟩=>
 (match s.look 3 with
 |some ⟨none,(.one ⟨false,[(.ref 320)]⟩)⟩=>
 (match s.ent 0 with
 |some (.row false 208 (.pair (.int .i64) (.pair (.int .i64) (.int .i64))) y1)=>
 (match s.ent 320 with
 |some (.row true 100 (.pair (.int .i64) (.pair (.int .i64) (.int .i64))) y2)=>
 some (y0,y1,y2)
 |_=>none)
 |_=>none)
 |_=>none)
 |_=>none)
 |_=>none)
def ct:Lp gE where
 h:=⟨[8,9,10,11,14,15,16,17,18,19,20,21,12,13,4],[0,1],[],[]⟩
 JL:=abL
 JE:=abI
 XL:=ab9
 XE:=ab6
 q:=fun j=>match j with | _=> .exit 0
 tags:= [0]
 lt:=tI
 fuel:=fun(y0,y1,y2)=>y0.natAbs + y1.length + y2.length
 fix:=fun(_,y1,_) (y0,_,y2)=>(y0,y1,y2)
 σ:= [(0,0),(1,320)]
 rd:=IQ
theorem ZJ:LoopOk Tryz.prog (fun k=>Nat.blt k Tryz.f113.ntmps) ct.F (au Tryz.f113 0):=by
 refine Lp.ok (tbl:= [Yu]) (lf:= []) aq ct (by kernel_rfl) (LOk.nil _) (fun _=>rfl) (fun _ _=>rfl) ?_ ?_ ?_ ?_ (fun _=>rfl) ?_
 ·rintro⟨y0,y1,y2⟩;kernel_rfl
 ·rintro⟨y0,y1,y2⟩;kernel_rfl
 ·intro s x h
  have h:IQ s=some x:=h
  unfold IQ at h
  repeat' split at h
  all_goals cases h
  exact⟨aa (by assumption) rfl (aa (by assumption) rfl (aa (by assumption) rfl (rfl))),ab rfl (by assumption) rfl (ab rfl (by assumption) rfl (rfl))⟩
 ·rintro⟨y0,y1,y2⟩;kernel_rfl
 ·rintro⟨y0,y1,y2⟩ z;exact(And.intro rfl trivial)
section
variable (x0:List (Int×Int×Int))
def Ga:Int×List (Int×Int×Int)×List (Int×Int×Int):=((0:Int),x0,List.replicate (Int.toNat (↑x0.length:Int)) ((0:Int),(0:Int),(0:Int)))
def Iq:List (Int×(Int×Int)):=(Lp.res ct (Ga x0)).2.2.2
def Ir:Bool:=allT [leI (0:Int) (↑x0.length:Int),leI (↑x0.length:Int) (↑x0.length:Int),leI ((↑(24:Nat):Int) * (↑x0.length:Int)) (281474976710656:Int),leI (↑x0.length:Int) (9223372036854775807:Int),Lp.fin ct (Ga x0)]
end
def Wz:List SV→List Entry→Option Out
 | [.one ⟨false,[.ref 0]⟩],[.row false 208 (.pair (.int .i64) (.pair (.int .i64) (.int .i64))) x0]=>some ⟨(.one ⟨false,[(.ref 1)]⟩),[(.row false 208 axj x0)],[(.row true 100 axj (Iq x0))],[(Ir x0)]⟩
 |_,_=>none
def air:PF Tryz.prog:=PF.ofG Tryz.prog [Yu] [ct.F] aq 113 Tryz.f113 Tryz.func113 (LOk.fnT (l:= [au Tryz.f113 0]) (by kernel_rfl) (.cons ZJ (.nil _))) Wz (by
 intro vs es r h;unfold Wz at h;split at h
 ·cases h;kernel_rfl
 ·cases h)
def aiK:List SV→List Entry→Option Out
 | [.one ⟨true,[.val (.int .i64 x0),.val (.int .i64 x1)]⟩],[]=>some ⟨(.one ⟨true,[(.val (.int .i64 x0)),(.val (.int .i64 x1))]⟩),[],[],[]⟩
 |_,_=>none
def ajd:PF Tryz.prog:=PF.ofG Tryz.prog [] [] aq 192 Tryz.f192 Tryz.func192 (fun c _=>LOk.nil c) aiK (by
 intro vs es r h;unfold aiK at h;split at h
 ·cases h;kernel_rfl
 ·cases h)
abbrev lG:=Int×List (Int×Int)×List (Int×Int)
section
variable (y0:Int)(y1 y2:List (Int×Int))
def xK:Int×Int:=Option.getD y1[Int.toNat y0]? ((0:Int),(0:Int))
def As:Bool:=ltI y0 (↑y1.length:Int)
def At:Bool:=leI (0:Int) y0
def Gg:Bool:=ltN y0.toNat y1.length
def Gh:Bool:=ltI y0 (↑y2.length:Int)
def Gi:Bool:=ltN y0.toNat y2.length
def Gj:Int:=IntKind.wrap .i64 (y0 + (1:Int))
def Gk:List (Int×Int):=List.set y2 y0.toNat ((xK y0 y1).1,(xK y0 y1).2)
end
def ajs:lG→List (Nat×SV)
 |(y0,_,_)=> [(4,(.one ⟨false,[(.val (.int .i64 y0))]⟩)),(0,(.one ⟨false,[(.ref 0)]⟩)),(3,(.one ⟨false,[(.ref 1)]⟩))]
def ajl:lG→List (Nat×Entry)
 |(_,y1,y2)=> [(0,(.row false 210 axk y1)),(1,(.row true 173 axk y2))]
def ajG:Nat→lG→List (Nat×SV)
 |_,(_,_,_)=> []
def ajz:Nat→lG→List (Nat×Entry)
 |_,(_,y1,y2)=> [(0,(.row false 210 axk y1)),(1,(.row true 173 axk y2))]
def Eg:lG→LT lG
 |(y0,y1,y2)=> .ite (As y0 y1) (.need [(At y0),(As y0 y1),(Gg y0 y1),(At y0),(Gh y0 y2),(Gi y0 y2)] (.nrm ((Gj y0),y1,(Gk y0 y1 y2)) [(0,0),(1,1)])) (.ext 0 [(0,0),(1,1)])
def Qy(s:St):Option lG:=
 (match s.look 4 with
 |some ⟨none,(.one ⟨false,[(.val (.int .i64 y0))]⟩)⟩=>
 (match s.look 0 with
 |some ⟨none,(.one ⟨false,[(.ref 0)]⟩)⟩=>
 (match s.look 3 with
 |some ⟨none,(.one ⟨false,[(.ref 320)]⟩)⟩=>
 (match s.ent 0 with
 |some (.row false 210 (.pair (.int .i64) (.int .i64)) y1)=>
 (match s.ent 320 with
 |some (.row true 173 (.pair (.int .i64) (.int .i64)) y2)=>
 some (y0,y1,y2)
 |_=>none)
 |_=>none)
 |_=>none)
 |_=>none)
 |_=>none)
def gh:Lp lG where
 h:=⟨[8,9,10,11,14,15,16,17,18,19,20,21,12,13,4],[0,1],[],[]⟩
 JL:=ajs
 JE:=ajl
 XL:=ajG
 XE:=ajz
 q:=fun j=>match j with | _=> .exit 0
 tags:= [0]
 lt:=Eg
 fuel:=fun(y0,y1,y2)=>y0.natAbs + y1.length + y2.length
 fix:=fun(_,y1,_) (y0,_,y2)=>(y0,y1,y2)
 σ:= [(0,0),(1,320)]
 rd:=Qy
theorem agO:LoopOk Tryz.prog (fun k=>Nat.blt k Tryz.f114.ntmps) gh.F (au Tryz.f114 0):=by
 refine Lp.ok (tbl:= [ajd]) (lf:= []) aq gh (by kernel_rfl) (LOk.nil _) (fun _=>rfl) (fun _ _=>rfl) ?_ ?_ ?_ ?_ (fun _=>rfl) ?_
 ·rintro⟨y0,y1,y2⟩;kernel_rfl
 ·rintro⟨y0,y1,y2⟩;kernel_rfl
 ·intro s x h
  have h:Qy s=some x:=h
  unfold Qy at h
  repeat' split at h
  all_goals cases h
  exact⟨aa (by assumption) rfl (aa (by assumption) rfl (aa (by assumption) rfl (rfl))),ab rfl (by assumption) rfl (ab rfl (by assumption) rfl (rfl))⟩
 ·rintro⟨y0,y1,y2⟩;kernel_rfl
 ·rintro⟨y0,y1,y2⟩ z;exact(And.intro rfl trivial)
section
variable (x0:List (Int×Int))
def PJ:Int×List (Int×Int)×List (Int×Int):=((0:Int),x0,List.replicate (Int.toNat (↑x0.length:Int)) ((0:Int),(0:Int)))
def Se:List (Int×Int):=(Lp.res gh (PJ x0)).2.2.2
def Sf:Bool:=allT [leI (0:Int) (↑x0.length:Int),leI (↑x0.length:Int) (↑x0.length:Int),leI ((↑(16:Nat):Int) * (↑x0.length:Int)) (281474976710656:Int),leI (↑x0.length:Int) (9223372036854775807:Int),Lp.fin gh (PJ x0)]
end
def afj:List SV→List Entry→Option Out
 | [.one ⟨false,[.ref 0]⟩],[.row false 210 (.pair (.int .i64) (.int .i64)) x0]=>some ⟨(.one ⟨false,[(.ref 1)]⟩),[(.row false 210 axk x0)],[(.row true 173 axk (Se x0))],[(Sf x0)]⟩
 |_,_=>none
def ao1:PF Tryz.prog:=PF.ofG Tryz.prog [ajd] [gh.F] aq 114 Tryz.f114 Tryz.func114 (LOk.fnT (l:= [au Tryz.f114 0]) (by kernel_rfl) (.cons agO (.nil _))) afj (by
 intro vs es r h;unfold afj at h;split at h
 ·cases h;kernel_rfl
 ·cases h)
def aiI:List SV→List Entry→Option Out
 | [.one ⟨true,[.val (.int .i64 x0),.val (.int .i64 x1)]⟩],[]=>some ⟨(.one ⟨true,[(.val (.int .i64 x0)),(.val (.int .i64 x1))]⟩),[],[],[]⟩
 |_,_=>none
def ajc:PF Tryz.prog:=PF.ofG Tryz.prog [] [] aq 193 Tryz.f193 Tryz.func193 (fun c _=>LOk.nil c) aiI (by
 intro vs es r h;unfold aiI at h;split at h
 ·cases h;kernel_rfl
 ·cases h)
abbrev lF:=Int×List (Int×Int)×List (Int×Int)
section
variable (y0:Int)(y1 y2:List (Int×Int))
def xJ:Int×Int:=Option.getD y1[Int.toNat y0]? ((0:Int),(0:Int))
def Aq:Bool:=ltI y0 (↑y1.length:Int)
def Ar:Bool:=leI (0:Int) y0
def Gb:Bool:=ltN y0.toNat y1.length
def Gc:Bool:=ltI y0 (↑y2.length:Int)
def Gd:Bool:=ltN y0.toNat y2.length
def Ge:Int:=IntKind.wrap .i64 (y0 + (1:Int))
def Gf:List (Int×Int):=List.set y2 y0.toNat ((xJ y0 y1).1,(xJ y0 y1).2)
end
def ajr:lF→List (Nat×SV)
 |(y0,_,_)=> [(4,(.one ⟨false,[(.val (.int .i64 y0))]⟩)),(0,(.one ⟨false,[(.ref 0)]⟩)),(3,(.one ⟨false,[(.ref 1)]⟩))]
def ajk:lF→List (Nat×Entry)
 |(_,y1,y2)=> [(0,(.row false 212 axk y1)),(1,(.row true 176 axk y2))]
def ajF:Nat→lF→List (Nat×SV)
 |_,(_,_,_)=> []
def ajy:Nat→lF→List (Nat×Entry)
 |_,(_,y1,y2)=> [(0,(.row false 212 axk y1)),(1,(.row true 176 axk y2))]
def Ef:lF→LT lF
 |(y0,y1,y2)=> .ite (Aq y0 y1) (.need [(Ar y0),(Aq y0 y1),(Gb y0 y1),(Ar y0),(Gc y0 y2),(Gd y0 y2)] (.nrm ((Ge y0),y1,(Gf y0 y1 y2)) [(0,0),(1,1)])) (.ext 0 [(0,0),(1,1)])
def Qx(s:St):Option lF:=
 (match s.look 4 with
 |some ⟨none,(.one ⟨false,[(.val (.int .i64 y0))]⟩)⟩=>
 (match s.look 0 with
 |some ⟨none,(.one ⟨false,[(.ref 0)]⟩)⟩=>
 (match s.look 3 with
 |some ⟨none,(.one ⟨false,[(.ref 320)]⟩)⟩=>
 (match s.ent 0 with
 |some (.row false 212 (.pair (.int .i64) (.int .i64)) y1)=>
 (match s.ent 320 with
 |some (.row true 176 (.pair (.int .i64) (.int .i64)) y2)=>
 some (y0,y1,y2)
 |_=>none)
 |_=>none)
 |_=>none)
 |_=>none)
 |_=>none)
def gg:Lp lF where
 h:=⟨[8,9,10,11,14,15,16,17,18,19,20,21,12,13,4],[0,1],[],[]⟩
 JL:=ajr
 JE:=ajk
 XL:=ajF
 XE:=ajy
 q:=fun j=>match j with | _=> .exit 0
 tags:= [0]
 lt:=Ef
 fuel:=fun(y0,y1,y2)=>y0.natAbs + y1.length + y2.length
 fix:=fun(_,y1,_) (y0,_,y2)=>(y0,y1,y2)
 σ:= [(0,0),(1,320)]
 rd:=Qx
theorem agN:LoopOk Tryz.prog (fun k=>Nat.blt k Tryz.f115.ntmps) gg.F (au Tryz.f115 0):=by
 refine Lp.ok (tbl:= [ajc]) (lf:= []) aq gg (by kernel_rfl) (LOk.nil _) (fun _=>rfl) (fun _ _=>rfl) ?_ ?_ ?_ ?_ (fun _=>rfl) ?_
 ·rintro⟨y0,y1,y2⟩;kernel_rfl
 ·rintro⟨y0,y1,y2⟩;kernel_rfl
 ·intro s x h
  have h:Qx s=some x:=h
  unfold Qx at h
  repeat' split at h
  all_goals cases h
  exact⟨aa (by assumption) rfl (aa (by assumption) rfl (aa (by assumption) rfl (rfl))),ab rfl (by assumption) rfl (ab rfl (by assumption) rfl (rfl))⟩
 ·rintro⟨y0,y1,y2⟩;kernel_rfl
 ·rintro⟨y0,y1,y2⟩ z;exact(And.intro rfl trivial)
section
variable (x0:List (Int×Int))
def PI:Int×List (Int×Int)×List (Int×Int):=((0:Int),x0,List.replicate (Int.toNat (↑x0.length:Int)) ((0:Int),(0:Int)))
def Sc:List (Int×Int):=(Lp.res gg (PI x0)).2.2.2
def Sd:Bool:=allT [leI (0:Int) (↑x0.length:Int),leI (↑x0.length:Int) (↑x0.length:Int),leI ((↑(16:Nat):Int) * (↑x0.length:Int)) (281474976710656:Int),leI (↑x0.length:Int) (9223372036854775807:Int),Lp.fin gg (PI x0)]
end
def afi:List SV→List Entry→Option Out
 | [.one ⟨false,[.ref 0]⟩],[.row false 212 (.pair (.int .i64) (.int .i64)) x0]=>some ⟨(.one ⟨false,[(.ref 1)]⟩),[(.row false 212 axk x0)],[(.row true 176 axk (Sc x0))],[(Sd x0)]⟩
 |_,_=>none
def ao0:PF Tryz.prog:=PF.ofG Tryz.prog [ajc] [gg.F] aq 115 Tryz.f115 Tryz.func115 (LOk.fnT (l:= [au Tryz.f115 0]) (by kernel_rfl) (.cons agN (.nil _))) afi (by
 intro vs es r h;unfold afi at h;split at h
 ·cases h;kernel_rfl
 ·cases h)
abbrev jr:=Int×List (List Int)×List (List Int)
section
variable (y0:Int)(y1 y2:List (List Int))
def pJ:List Int:=Option.getD y1[Int.toNat y0]? (wu (CTy.sl (2:TypeId) axl))
def vk:Bool:=ltI y0 (↑y1.length:Int)
def vl:Bool:=leI (0:Int) y0
def Be:Bool:=ltN y0.toNat y1.length
def Bf:Bool:=ltI y0 (↑y2.length:Int)
def Bg:Bool:=ltN y0.toNat y2.length
def Bh:Bool:=leN (List.length (pJ y0 y1)) (9223372036854775807:Nat)
def Ia:Bool:= !eqL (pJ y0 y1) (Option.getD y2[Int.toNat y0]? (wu (CTy.sl (2:TypeId) axl)))
def Ib:Int:=IntKind.wrap .i64 (y0 + (1:Int))
end
def afL:jr→List (Nat×SV)
 |(y0,_,_)=> [(5,(.one ⟨false,[(.val (.int .i64 y0))]⟩)),(0,(.one ⟨false,[(.ref 0)]⟩)),(1,(.one ⟨false,[(.ref 1)]⟩))]
def afB:jr→List (Nat×Entry)
 |(_,y1,y2)=> [(0,(.row false 24 (CTy.sl (2:TypeId) axl) y1)),(1,(.row false 24 (CTy.sl (2:TypeId) axl) y2))]
def agi:Nat→jr→List (Nat×SV)
 |0,(_,_,_)=> [(4,(.one ⟨false,[(.val (.bool false))]⟩))]
 |_,(_,_,_)=> []
def af7:Nat→jr→List (Nat×Entry)
 |0,(_,y1,y2)=> [(0,(.row false 24 (CTy.sl (2:TypeId) axl) y1)),(1,(.row false 24 (CTy.sl (2:TypeId) axl) y2))]
 |_,(_,y1,y2)=> [(0,(.row false 24 (CTy.sl (2:TypeId) axl) y1)),(1,(.row false 24 (CTy.sl (2:TypeId) axl) y2))]
def zl:jr→LT jr
 |(y0,y1,y2)=> .ite (vk y0 y1) (.need [(vl y0),(vk y0 y1),(Be y0 y1),(vl y0),(Bf y0 y2),(Bg y0 y2),(Bh y0 y1)] (.ite (Ia y0 y1 y2) (.ext 0 [(0,0),(1,1)]) (.nrm ((Ib y0),y1,y2) [(0,0),(1,1)]))) (.ext 1 [(0,0),(1,1)])
def Nh(s:St):Option jr:=
 (match s.look 5 with
 |some ⟨none,(.one ⟨false,[(.val (.int .i64 y0))]⟩)⟩=>
 (match s.look 0 with
 |some ⟨none,(.one ⟨false,[(.ref 0)]⟩)⟩=>
 (match s.look 1 with
 |some ⟨none,(.one ⟨false,[(.ref 1)]⟩)⟩=>
 (match s.ent 0 with
 |some (.row false 24 (.sl 2 (.int .i64)) y1)=>
 (match s.ent 1 with
 |some (.row false 24 (.sl 2 (.int .i64)) y2)=>
 some (y0,y1,y2)
 |_=>none)
 |_=>none)
 |_=>none)
 |_=>none)
 |_=>none)
def dh:Lp jr where
 h:=⟨[11,12,13,14,17,18,19,20,21,22,23,24,25,26,4,15,16,5],[0,1],[],[]⟩
 JL:=afL
 JE:=afB
 XL:=agi
 XE:=af7
 q:=fun j=>match j with | 0=> .ret | _=> .exit 0
 tags:= [0,1]
 lt:=zl
 fuel:=fun(y0,y1,y2)=>y0.natAbs + y1.length + y2.length
 fix:=fun(_,y1,y2) (y0,_,_)=>(y0,y1,y2)
 σ:= [(0,0),(1,1)]
 rd:=Nh
theorem adq:LoopOk Tryz.prog (fun k=>Nat.blt k Tryz.f118.ntmps) dh.F (au Tryz.f118 0):=by
 refine Lp.ok (tbl:= [kX,PF.lend kX,PF.fz kX]) (lf:= []) aq dh (by kernel_rfl) (LOk.nil _) (fun _=>rfl) (fun j _=>by unfold dh;match j with | 0=>rfl | _ + 1=>rfl) ?_ ?_ ?_ ?_ (fun _=>rfl) ?_
 ·rintro⟨y0,y1,y2⟩;kernel_rfl
 ·rintro⟨y0,y1,y2⟩;kernel_rfl
 ·intro s x h
  have h:Nh s=some x:=h
  unfold Nh at h
  repeat' split at h
  all_goals cases h
  exact⟨aa (by assumption) rfl (aa (by assumption) rfl (aa (by assumption) rfl (rfl))),ab rfl (by assumption) rfl (ab rfl (by assumption) rfl (rfl))⟩
 ·rintro⟨y0,y1,y2⟩;kernel_rfl
 ·rintro⟨y0,y1,y2⟩ z;exact(And.intro (And.intro trivial rfl) trivial)
section
variable (x0 x1:List (List Int))
def Mf:Bool:=(↑x0.length:Int)!=(↑x1.length:Int)
def RR:Int×List (List Int)×List (List Int):=((0:Int),x0,x1)
def NU:Bool:=bif Mf x0 x1 then false else bif Nat.beq ((Lp.res dh (RR x0 x1)).1) (0:Nat)then false else true
def NV:Bool:=allT [Mf x0 x1||Lp.fin dh (RR x0 x1)]
end
def abq:List SV→List Entry→Option Out
 | [.one ⟨false,[.ref 0]⟩,.one ⟨false,[.ref 1]⟩],[.row false 24 (.sl 2 (.int .i64)) x0,.row false 24 (.sl 2 (.int .i64)) x1]=>some ⟨(.one ⟨false,[(.val (.bool (NU x0 x1)))]⟩),[(.row false 24 (CTy.sl (2:TypeId) axl) x0),(.row false 24 (CTy.sl (2:TypeId) axl) x1)],[],[(NV x0 x1)]⟩
 |_,_=>none
def amI:PF Tryz.prog:=PF.ofG Tryz.prog [kX,PF.lend kX,PF.fz kX] [dh.F] aq 118 Tryz.f118 Tryz.func118 (LOk.fnT (l:= [au Tryz.f118 0]) (by kernel_rfl) (.cons adq (.nil _))) abq (by
 intro vs es r h;unfold abq at h;split at h
 ·cases h;kernel_rfl
 ·cases h)
def DQ(x0 x1 x2 x3 x4 x5:Int):Bool:=bif x0 !=x3 then false else bif x1 !=x4 then false else bif x2 !=x5 then false else true
def Xo:List SV→List Entry→Option Out
 | [.one ⟨true,[.val (.int .i64 x0),.val (.int .i64 x1),.val (.int .i64 x2)]⟩,.one ⟨true,[.val (.int .i64 x3),.val (.int .i64 x4),.val (.int .i64 x5)]⟩],[]=>some ⟨(.one ⟨false,[(.val (.bool (DQ x0 x1 x2 x3 x4 x5)))]⟩),[],[],[]⟩
 |_,_=>none
def Yr:PF Tryz.prog:=PF.ofG Tryz.prog [] [] aq 195 Tryz.f195 Tryz.func195 (fun c _=>LOk.nil c) Xo (by
 intro vs es r h;unfold Xo at h;split at h
 ·cases h;kernel_rfl
 ·cases h)
abbrev gD:=Int×List (Int×(Int×Int))×List (Int×(Int×Int))
section
variable (y0:Int)(y1 y2:List (Int×(Int×Int)))
def lj:Int×Int×Int:=Option.getD y1[Int.toNat y0]? ((0:Int),(0:Int),(0:Int))
def lk:Int×Int×Int:=Option.getD y2[Int.toNat y0]? ((0:Int),(0:Int),(0:Int))
def qB:Bool:=ltI y0 (↑y1.length:Int)
def qC:Bool:=leI (0:Int) y0
def uD:Bool:=ltN y0.toNat y1.length
def uE:Bool:=ltI y0 (↑y2.length:Int)
def uF:Bool:=ltN y0.toNat y2.length
def uG:Bool:= !DQ ((lj y0 y1).1) (((lj y0 y1).2).1) ((lj y0 y1).2.2) ((lk y0 y2).1) (((lk y0 y2).2).1) ((lk y0 y2).2.2)
def uH:Int:=IntKind.wrap .i64 (y0 + (1:Int))
end
def abK:gD→List (Nat×SV)
 |(y0,_,_)=> [(5,(.one ⟨false,[(.val (.int .i64 y0))]⟩)),(0,(.one ⟨false,[(.ref 0)]⟩)),(1,(.one ⟨false,[(.ref 1)]⟩))]
def abH:gD→List (Nat×Entry)
 |(_,y1,y2)=> [(0,(.row false 100 axj y1)),(1,(.row false 100 axj y2))]
def ab8:Nat→gD→List (Nat×SV)
 |0,(_,_,_)=> [(4,(.one ⟨false,[(.val (.bool false))]⟩))]
 |_,(_,_,_)=> []
def ab5:Nat→gD→List (Nat×Entry)
 |0,(_,y1,y2)=> [(0,(.row false 100 axj y1)),(1,(.row false 100 axj y2))]
 |_,(_,y1,y2)=> [(0,(.row false 100 axj y1)),(1,(.row false 100 axj y2))]
def tH:gD→LT gD
 |(y0,y1,y2)=> .ite (qB y0 y1) (.need [(qC y0),(qB y0 y1),(uD y0 y1),(qC y0),(uE y0 y2),(uF y0 y2)] (.ite (uG y0 y1 y2) (.ext 0 [(0,0),(1,1)]) (.nrm ((uH y0),y1,y2) [(0,0),(1,1)]))) (.ext 1 [(0,0),(1,1)])
def IP(s:St):Option gD:=
 (match s.look 5 with
 |some ⟨none,(.one ⟨false,[(.val (.int .i64 y0))]⟩)⟩=>
 (match s.look 0 with
 |some ⟨none,(.one ⟨false,[(.ref 0)]⟩)⟩=>
 (match s.look 1 with
 |some ⟨none,(.one ⟨false,[(.ref 1)]⟩)⟩=>
 (match s.ent 0 with
 |some (.row false 100 (.pair (.int .i64) (.pair (.int .i64) (.int .i64))) y1)=>
 (match s.ent 1 with
 |some (.row false 100 (.pair (.int .i64) (.pair (.int .i64) (.int .i64))) y2)=>
 some (y0,y1,y2)
 |_=>none)
 |_=>none)
 |_=>none)
 |_=>none)
 |_=>none)
def bO:Lp gD where
 h:=⟨[11,12,13,14,17,18,19,20,21,22,23,24,25,26,4,15,16,5],[0,1],[],[]⟩
 JL:=abK
 JE:=abH
 XL:=ab8
 XE:=ab5
 q:=fun j=>match j with | 0=> .ret | _=> .exit 0
 tags:= [0,1]
 lt:=tH
 fuel:=fun(y0,y1,y2)=>y0.natAbs + y1.length + y2.length
 fix:=fun(_,y1,y2) (y0,_,_)=>(y0,y1,y2)
 σ:= [(0,0),(1,1)]
 rd:=IP
theorem ZI:LoopOk Tryz.prog (fun k=>Nat.blt k Tryz.f119.ntmps) bO.F (au Tryz.f119 0):=by
 refine Lp.ok (tbl:= [Yr]) (lf:= []) aq bO (by kernel_rfl) (LOk.nil _) (fun _=>rfl) (fun j _=>by unfold bO;match j with | 0=>rfl | _ + 1=>rfl) ?_ ?_ ?_ ?_ (fun _=>rfl) ?_
 ·rintro⟨y0,y1,y2⟩;kernel_rfl
 ·rintro⟨y0,y1,y2⟩;kernel_rfl
 ·intro s x h
  have h:IP s=some x:=h
  unfold IP at h
  repeat' split at h
  all_goals cases h
  exact⟨aa (by assumption) rfl (aa (by assumption) rfl (aa (by assumption) rfl (rfl))),ab rfl (by assumption) rfl (ab rfl (by assumption) rfl (rfl))⟩
 ·rintro⟨y0,y1,y2⟩;kernel_rfl
 ·rintro⟨y0,y1,y2⟩ z;exact(And.intro (And.intro trivial rfl) trivial)
section
variable (x0 x1:List (Int×Int×Int))
def FG:Bool:=(↑x0.length:Int)!=(↑x1.length:Int)
def FH:Int×List (Int×Int×Int)×List (Int×Int×Int):=((0:Int),x0,x1)
def Ic:Bool:=bif FG x0 x1 then false else bif Nat.beq ((Lp.res bO (FH x0 x1)).1) (0:Nat)then false else true
def Id:Bool:=allT [FG x0 x1||Lp.fin bO (FH x0 x1)]
end
def Wx:List SV→List Entry→Option Out
 | [.one ⟨false,[.ref 0]⟩,.one ⟨false,[.ref 1]⟩],[.row false 100 (.pair (.int .i64) (.pair (.int .i64) (.int .i64))) x0,.row false 100 (.pair (.int .i64) (.pair (.int .i64) (.int .i64))) x1]=>some ⟨(.one ⟨false,[(.val (.bool (Ic x0 x1)))]⟩),[(.row false 100 axj x0),(.row false 100 axj x1)],[],[(Id x0 x1)]⟩
 |_,_=>none
def aiq:PF Tryz.prog:=PF.ofG Tryz.prog [Yr] [bO.F] aq 119 Tryz.f119 Tryz.func119 (LOk.fnT (l:= [au Tryz.f119 0]) (by kernel_rfl) (.cons ZI (.nil _))) Wx (by
 intro vs es r h;unfold Wx at h;split at h
 ·cases h;kernel_rfl
 ·cases h)
def OX(x0 x1 x2 x3:Int):Bool:=bif x0 !=x2 then false else bif x1 !=x3 then false else true
def aiG:List SV→List Entry→Option Out
 | [.one ⟨true,[.val (.int .i64 x0),.val (.int .i64 x1)]⟩,.one ⟨true,[.val (.int .i64 x2),.val (.int .i64 x3)]⟩],[]=>some ⟨(.one ⟨false,[(.val (.bool (OX x0 x1 x2 x3)))]⟩),[],[],[]⟩
 |_,_=>none
def ajb:PF Tryz.prog:=PF.ofG Tryz.prog [] [] aq 196 Tryz.f196 Tryz.func196 (fun c _=>LOk.nil c) aiG (by
 intro vs es r h;unfold aiG at h;split at h
 ·cases h;kernel_rfl
 ·cases h)
abbrev lE:=Int×List (Int×Int)×List (Int×Int)
section
variable (y0:Int)(y1 y2:List (Int×Int))
def xF:Int×Int:=Option.getD y1[Int.toNat y0]? ((0:Int),(0:Int))
def xG:Int×Int:=Option.getD y2[Int.toNat y0]? ((0:Int),(0:Int))
def Ak:Bool:=ltI y0 (↑y1.length:Int)
def Al:Bool:=leI (0:Int) y0
def FO:Bool:=ltN y0.toNat y1.length
def FP:Bool:=ltI y0 (↑y2.length:Int)
def FQ:Bool:=ltN y0.toNat y2.length
def FR:Bool:= !OX ((xF y0 y1).1) ((xF y0 y1).2) ((xG y0 y2).1) ((xG y0 y2).2)
def FS:Int:=IntKind.wrap .i64 (y0 + (1:Int))
end
def ajq:lE→List (Nat×SV)
 |(y0,_,_)=> [(5,(.one ⟨false,[(.val (.int .i64 y0))]⟩)),(0,(.one ⟨false,[(.ref 0)]⟩)),(1,(.one ⟨false,[(.ref 1)]⟩))]
def ajj:lE→List (Nat×Entry)
 |(_,y1,y2)=> [(0,(.row false 173 axk y1)),(1,(.row false 173 axk y2))]
def ajE:Nat→lE→List (Nat×SV)
 |0,(_,_,_)=> [(4,(.one ⟨false,[(.val (.bool false))]⟩))]
 |_,(_,_,_)=> []
def ajx:Nat→lE→List (Nat×Entry)
 |0,(_,y1,y2)=> [(0,(.row false 173 axk y1)),(1,(.row false 173 axk y2))]
 |_,(_,y1,y2)=> [(0,(.row false 173 axk y1)),(1,(.row false 173 axk y2))]
def Ee:lE→LT lE
 |(y0,y1,y2)=> .ite (Ak y0 y1) (.need [(Al y0),(Ak y0 y1),(FO y0 y1),(Al y0),(FP y0 y2),(FQ y0 y2)] (.ite (FR y0 y1 y2) (.ext 0 [(0,0),(1,1)]) (.nrm ((FS y0),y1,y2) [(0,0),(1,1)]))) (.ext 1 [(0,0),(1,1)])
def Qw(s:St):Option lE:=
 (match s.look 5 with
 |some ⟨none,(.one ⟨false,[(.val (.int .i64 y0))]⟩)⟩=>
 (match s.look 0 with
 |some ⟨none,(.one ⟨false,[(.ref 0)]⟩)⟩=>
 (match s.look 1 with
 |some ⟨none,(.one ⟨false,[(.ref 1)]⟩)⟩=>
 (match s.ent 0 with
 |some (.row false 173 (.pair (.int .i64) (.int .i64)) y1)=>
 (match s.ent 1 with
 |some (.row false 173 (.pair (.int .i64) (.int .i64)) y2)=>
 some (y0,y1,y2)
 |_=>none)
 |_=>none)
 |_=>none)
 |_=>none)
 |_=>none)
def eL:Lp lE where
 h:=⟨[11,12,13,14,17,18,19,20,21,22,23,24,25,26,4,15,16,5],[0,1],[],[]⟩
 JL:=ajq
 JE:=ajj
 XL:=ajE
 XE:=ajx
 q:=fun j=>match j with | 0=> .ret | _=> .exit 0
 tags:= [0,1]
 lt:=Ee
 fuel:=fun(y0,y1,y2)=>y0.natAbs + y1.length + y2.length
 fix:=fun(_,y1,y2) (y0,_,_)=>(y0,y1,y2)
 σ:= [(0,0),(1,1)]
 rd:=Qw
theorem agM:LoopOk Tryz.prog (fun k=>Nat.blt k Tryz.f120.ntmps) eL.F (au Tryz.f120 0):=by
 refine Lp.ok (tbl:= [ajb]) (lf:= []) aq eL (by kernel_rfl) (LOk.nil _) (fun _=>rfl) (fun j _=>by unfold eL;match j with | 0=>rfl | _ + 1=>rfl) ?_ ?_ ?_ ?_ (fun _=>rfl) ?_
 ·rintro⟨y0,y1,y2⟩;kernel_rfl
 ·rintro⟨y0,y1,y2⟩;kernel_rfl
 ·intro s x h
  have h:Qw s=some x:=h
  unfold Qw at h
  repeat' split at h
  all_goals cases h
  exact⟨aa (by assumption) rfl (aa (by assumption) rfl (aa (by assumption) rfl (rfl))),ab rfl (by assumption) rfl (ab rfl (by assumption) rfl (rfl))⟩
 ·rintro⟨y0,y1,y2⟩;kernel_rfl
 ·rintro⟨y0,y1,y2⟩ z;exact(And.intro (And.intro trivial rfl) trivial)
section
variable (x0 x1:List (Int×Int))
def PD:Bool:=(↑x0.length:Int)!=(↑x1.length:Int)
def PE:Int×List (Int×Int)×List (Int×Int):=((0:Int),x0,x1)
def RW:Bool:=bif PD x0 x1 then false else bif Nat.beq ((Lp.res eL (PE x0 x1)).1) (0:Nat)then false else true
def RY:Bool:=allT [PD x0 x1||Lp.fin eL (PE x0 x1)]
end
def aff:List SV→List Entry→Option Out
 | [.one ⟨false,[.ref 0]⟩,.one ⟨false,[.ref 1]⟩],[.row false 173 (.pair (.int .i64) (.int .i64)) x0,.row false 173 (.pair (.int .i64) (.int .i64)) x1]=>some ⟨(.one ⟨false,[(.val (.bool (RW x0 x1)))]⟩),[(.row false 173 axk x0),(.row false 173 axk x1)],[],[(RY x0 x1)]⟩
 |_,_=>none
def aoZ:PF Tryz.prog:=PF.ofG Tryz.prog [ajb] [eL.F] aq 120 Tryz.f120 Tryz.func120 (LOk.fnT (l:= [au Tryz.f120 0]) (by kernel_rfl) (.cons agM (.nil _))) aff (by
 intro vs es r h;unfold aff at h;split at h
 ·cases h;kernel_rfl
 ·cases h)
def OW(x0 x1 x2 x3:Int):Bool:=bif x0 !=x2 then false else bif x1 !=x3 then false else true
def aiE:List SV→List Entry→Option Out
 | [.one ⟨true,[.val (.int .i64 x0),.val (.int .i64 x1)]⟩,.one ⟨true,[.val (.int .i64 x2),.val (.int .i64 x3)]⟩],[]=>some ⟨(.one ⟨false,[(.val (.bool (OW x0 x1 x2 x3)))]⟩),[],[],[]⟩
 |_,_=>none
def aja:PF Tryz.prog:=PF.ofG Tryz.prog [] [] aq 197 Tryz.f197 Tryz.func197 (fun c _=>LOk.nil c) aiE (by
 intro vs es r h;unfold aiE at h;split at h
 ·cases h;kernel_rfl
 ·cases h)
abbrev lD:=Int×List (Int×Int)×List (Int×Int)
section
variable (y0:Int)(y1 y2:List (Int×Int))
def xD:Int×Int:=Option.getD y1[Int.toNat y0]? ((0:Int),(0:Int))
def xE:Int×Int:=Option.getD y2[Int.toNat y0]? ((0:Int),(0:Int))
def Ai:Bool:=ltI y0 (↑y1.length:Int)
def Aj:Bool:=leI (0:Int) y0
def FI:Bool:=ltN y0.toNat y1.length
def FJ:Bool:=ltI y0 (↑y2.length:Int)
def FK:Bool:=ltN y0.toNat y2.length
def FL:Bool:= !OW ((xD y0 y1).1) ((xD y0 y1).2) ((xE y0 y2).1) ((xE y0 y2).2)
def FM:Int:=IntKind.wrap .i64 (y0 + (1:Int))
end
def ajp:lD→List (Nat×SV)
 |(y0,_,_)=> [(5,(.one ⟨false,[(.val (.int .i64 y0))]⟩)),(0,(.one ⟨false,[(.ref 0)]⟩)),(1,(.one ⟨false,[(.ref 1)]⟩))]
def aji:lD→List (Nat×Entry)
 |(_,y1,y2)=> [(0,(.row false 176 axk y1)),(1,(.row false 176 axk y2))]
def ajD:Nat→lD→List (Nat×SV)
 |0,(_,_,_)=> [(4,(.one ⟨false,[(.val (.bool false))]⟩))]
 |_,(_,_,_)=> []
def ajw:Nat→lD→List (Nat×Entry)
 |0,(_,y1,y2)=> [(0,(.row false 176 axk y1)),(1,(.row false 176 axk y2))]
 |_,(_,y1,y2)=> [(0,(.row false 176 axk y1)),(1,(.row false 176 axk y2))]
def Ed:lD→LT lD
 |(y0,y1,y2)=> .ite (Ai y0 y1) (.need [(Aj y0),(Ai y0 y1),(FI y0 y1),(Aj y0),(FJ y0 y2),(FK y0 y2)] (.ite (FL y0 y1 y2) (.ext 0 [(0,0),(1,1)]) (.nrm ((FM y0),y1,y2) [(0,0),(1,1)]))) (.ext 1 [(0,0),(1,1)])
def Qv(s:St):Option lD:=
 (match s.look 5 with
 |some ⟨none,(.one ⟨false,[(.val (.int .i64 y0))]⟩)⟩=>
 (match s.look 0 with
 |some ⟨none,(.one ⟨false,[(.ref 0)]⟩)⟩=>
 (match s.look 1 with
 |some ⟨none,(.one ⟨false,[(.ref 1)]⟩)⟩=>
 (match s.ent 0 with
 |some (.row false 176 (.pair (.int .i64) (.int .i64)) y1)=>
 (match s.ent 1 with
 |some (.row false 176 (.pair (.int .i64) (.int .i64)) y2)=>
 some (y0,y1,y2)
 |_=>none)
 |_=>none)
 |_=>none)
 |_=>none)
 |_=>none)
def eK:Lp lD where
 h:=⟨[11,12,13,14,17,18,19,20,21,22,23,24,25,26,4,15,16,5],[0,1],[],[]⟩
 JL:=ajp
 JE:=aji
 XL:=ajD
 XE:=ajw
 q:=fun j=>match j with | 0=> .ret | _=> .exit 0
 tags:= [0,1]
 lt:=Ed
 fuel:=fun(y0,y1,y2)=>y0.natAbs + y1.length + y2.length
 fix:=fun(_,y1,y2) (y0,_,_)=>(y0,y1,y2)
 σ:= [(0,0),(1,1)]
 rd:=Qv
theorem agL:LoopOk Tryz.prog (fun k=>Nat.blt k Tryz.f121.ntmps) eK.F (au Tryz.f121 0):=by
 refine Lp.ok (tbl:= [aja]) (lf:= []) aq eK (by kernel_rfl) (LOk.nil _) (fun _=>rfl) (fun j _=>by unfold eK;match j with | 0=>rfl | _ + 1=>rfl) ?_ ?_ ?_ ?_ (fun _=>rfl) ?_
 ·rintro⟨y0,y1,y2⟩;kernel_rfl
 ·rintro⟨y0,y1,y2⟩;kernel_rfl
 ·intro s x h
  have h:Qv s=some x:=h
  unfold Qv at h
  repeat' split at h
  all_goals cases h
  exact⟨aa (by assumption) rfl (aa (by assumption) rfl (aa (by assumption) rfl (rfl))),ab rfl (by assumption) rfl (ab rfl (by assumption) rfl (rfl))⟩
 ·rintro⟨y0,y1,y2⟩;kernel_rfl
 ·rintro⟨y0,y1,y2⟩ z;exact(And.intro (And.intro trivial rfl) trivial)
section
variable (x0 x1:List (Int×Int))
def PB:Bool:=(↑x0.length:Int)!=(↑x1.length:Int)
def PC:Int×List (Int×Int)×List (Int×Int):=((0:Int),x0,x1)
def RT:Bool:=bif PB x0 x1 then false else bif Nat.beq ((Lp.res eK (PC x0 x1)).1) (0:Nat)then false else true
def RU:Bool:=allT [PB x0 x1||Lp.fin eK (PC x0 x1)]
end
def afe:List SV→List Entry→Option Out
 | [.one ⟨false,[.ref 0]⟩,.one ⟨false,[.ref 1]⟩],[.row false 176 (.pair (.int .i64) (.int .i64)) x0,.row false 176 (.pair (.int .i64) (.int .i64)) x1]=>some ⟨(.one ⟨false,[(.val (.bool (RT x0 x1)))]⟩),[(.row false 176 axk x0),(.row false 176 axk x1)],[],[(RU x0 x1)]⟩
 |_,_=>none
def aoY:PF Tryz.prog:=PF.ofG Tryz.prog [aja] [eK.F] aq 121 Tryz.f121 Tryz.func121 (LOk.fnT (l:= [au Tryz.f121 0]) (by kernel_rfl) (.cons agL (.nil _))) afe (by
 intro vs es r h;unfold afe at h;split at h
 ·cases h;kernel_rfl
 ·cases h)
end Go.SX

namespace Go.SX
open Go.Proofs
set_option maxRecDepth 100000
def areR(st:List Int):Bool:=inR (st.length:Int) 1 12&&st.all fun v=>inR v 0 2
def rowsR(rs:List (List Int)):Int:=((rs[0]?.getD []).length:Int)
def rsOk(rs:List (List Int)):Bool:=rs.all fun st=>areR st&&((st.length:Int)==rowsR rs)
def lfOk(n:Int)(lf:List (Int×Int×Int)):Bool:=inR n 1 12&&okFs n lf
def apb(t:Int×Int):Bool:=inR t.1 1 366&&inR t.2 0 100000
def okPl(pl:List (Int×Int)):Bool:=leN pl.length 12&&pl.all apb
def avV(x:Int×Int):Bool:=inR x.1 0 23&&inR x.2 1 999
def Wf(ls:List (Int×Int))(b:Nat):Int×Int:=ls[b]?.getD (0,0)
def LB(x y:Int×Int):Bool:=y.1==x.1&&y.2==x.2
def Pk(ls:List (Int×Int))(b:Nat):Bool:= !avV (Wf ls b)
def agI(ls:List (Int×Int))(b:Nat):Bool:=(ls.take b).any (LB (Wf ls b))
def okLk(ls:List (Int×Int)):Bool:=leN ls.length 8&&(List.range ls.length).all fun b=> !(Pk ls b||agI ls b)
def qP(n:Int)(ps:List Int)(fs:List (Int×Int×Int))(rs:List (List Int))(lf:List (Int×Int×Int))(mode:Int)(pl ls:List (Int×Int))(day:Int):Bool:=isT n ps&&(okFs n fs&&(decide (rs.length=ps.length)&&(rsOk rs&&(lfOk (rowsR rs) lf&&(inR mode 0 5&&(okPl pl&&(okLk ls&&inR day 0 100000)))))))
theorem aox{C:Type}{P:C→Bool}: ∀ (l:List C) (i:Nat) (hi:i < l.length),P l[i]=true→((l.takeWhile fun x=> !P x).length=i↔(l.take i).any P=false)
 | [],i,hi,_=>by simp at hi
 |a::r,0,hi,h=>by
  have h:P a=true:=h
  simp [List.takeWhile_cons,h]
 |a::r,i + 1,hi,h=>by
  have hi':i < r.length:=by simpa using hi
  have h':P r[i]=true:=h
  have ih:=aox r i hi' h'
  rw [List.take_succ_cons,List.any_cons,List.takeWhile_cons]
  cases ha:P a with
  |true=>simp
  |false=>
   simp only [Bool.not_false,if_true,List.length_cons,Bool.false_or]
   rw [← ih];omega
theorem amo: ∀ (xs:List Int) (m:Int),0≤m→m≤2→(∀ x∈xs,0≤x∧x≤2)→((xs.foldl (fun m b=>bif ltI b m then b else m) m)==2)=(m==2&&xs.all fun x=>x==2)
 | [],m,_,_,_=>by simp
 |x::xs,m,h0,h1,h=>by
  have hx:=h x (by simp)
  rw [List.foldl_cons,List.all_cons]
  cases hl:ltI x m with
  |true=>
   have:=alm.1 hl
   rw [cond_true,amo xs x hx.1 hx.2 fun y hy=>h y (by simp [hy])]
   have hm:(x==2)=false:=by simp;omega
   simp [hm]
  |false=>
   have:=It.1 hl
   rw [cond_false,amo xs m h0 h1 fun y hy=>h y (by simp [hy])]
   by_cases hm:m=2
   ·have hx2:x=2:=by omega
    subst hm;subst hx2;simp
   ·have:(m==2)=false:=by simpa using hm
    simp [this]
end Go.SX
