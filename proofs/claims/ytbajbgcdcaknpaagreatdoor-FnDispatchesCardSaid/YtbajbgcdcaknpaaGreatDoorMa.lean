/- What functions of the program come to, and what that says in plain words: part 1. -/
import Derived.Test.YtbajbgcdcaknpaaGreatDoorProg
import Derived.Shelf.SortM.Plain
import Derived.Ground.SlgmProg
import Derived.Shelf.SlGeneric
import Derived.Test.YtbajbgcdcaknpaaGreatDoorTXh
import Derived.Test.YtbajbgcdcaknpaaGreatDoorTXs
set_option linter.unusedSimpArgs false
set_option linter.unusedVariables false
namespace Go.SX
open Go.Proofs
abbrev aa6:CTy:=(CTy.pair (CTy.int IntKind.i64) (CTy.pair (CTy.int IntKind.i64) (CTy.pair (CTy.pair (CTy.int IntKind.i64) (CTy.int IntKind.i64)) (CTy.pair (CTy.int IntKind.i64) (CTy.pair (CTy.int IntKind.i64) CTy.bool)))))
abbrev acG:CTy:=(CTy.pair (CTy.int IntKind.i64) (CTy.pair (CTy.int IntKind.i64) (CTy.int IntKind.i64)))
abbrev acH:CTy:=(CTy.pair (CTy.int IntKind.i64) (CTy.int IntKind.i64))
abbrev aiQ:CTy:=(CTy.int IntKind.i64)
abbrev ajC:CTy:=(CTy.int IntKind.u8)
end Go.SX
namespace Go.Proofs
open Go.Shelf
def Tryz.laysSort_ren:Go.Shelf.Ren:=⟨fun | 5=>235 | 8=>241 | 7=>240 | 19=>252 | 20=>253 | 10=>243 | 11=>244 | 12=>245 | 13=>246 | 14=>247 | 15=>248 | 16=>249 | 17=>250 | 18=>251 | 30=>254 | 31=>255 | 32=>256 | 33=>257 | 34=>258 | 35=>259 | 40=>260 | n=>n,fun | 23=>24 | 25=>2 | 3=>3 | 32=>124 | 22=>24 | 0=>0 | 44=>227 | 46=>57 | 4=>4 | 36=>252 | 35=>251 | 41=>256 | 5=>5 | 9=>9 | 53=>260 | 57=>264 | 63=>266 | 64=>267 | n=>n,fun | n=>n⟩
theorem Tryz.laysSort:Go.Proofs.SlLaysM.n5 Tryz.prog Tryz.laysSort_ren:= {
 mixed:=by kernel_rfl
 f5:=⟨Tryz.f235.name,by decide,Tryz.func235.trans (congrArg some (by kernel_rfl))⟩
 f7:=⟨Tryz.f240.name,by decide,Tryz.func240.trans (congrArg some (by kernel_rfl))⟩
 f8:=Tryz.func241.trans (congrArg some (by kernel_rfl))
 f10:=⟨Tryz.f243.name,by decide,Tryz.func243.trans (congrArg some (by kernel_rfl))⟩
 f11:=⟨Tryz.f244.name,by decide,Tryz.func244.trans (congrArg some (by kernel_rfl))⟩
 f12:=⟨Tryz.f245.name,by decide,Tryz.func245.trans (congrArg some (by kernel_rfl))⟩
 f13:=⟨Tryz.f246.name,by decide,Tryz.func246.trans (congrArg some (by kernel_rfl))⟩
 f14:=⟨Tryz.f247.name,by decide,Tryz.func247.trans (congrArg some (by kernel_rfl))⟩
 f15:=⟨Tryz.f248.name,by decide,Tryz.func248.trans (congrArg some (by kernel_rfl))⟩
 f16:=⟨Tryz.f249.name,by decide,Tryz.func249.trans (congrArg some (by kernel_rfl))⟩
 f17:=⟨Tryz.f250.name,by decide,Tryz.func250.trans (congrArg some (by kernel_rfl))⟩
 f18:=⟨Tryz.f251.name,by decide,Tryz.func251.trans (congrArg some (by kernel_rfl))⟩
 f19:=Tryz.func252.trans (congrArg some (by kernel_rfl))
 f20:=Tryz.func253.trans (congrArg some (by kernel_rfl))
 f30:=⟨Tryz.f254.name,by decide,Tryz.func254.trans (congrArg some (by kernel_rfl))⟩
 f31:=Tryz.func255.trans (congrArg some (by kernel_rfl))
 f32:=Tryz.func256.trans (congrArg some (by kernel_rfl))
 f33:=⟨Tryz.f257.name,by decide,Tryz.func257.trans (congrArg some (by kernel_rfl))⟩
 f34:=⟨Tryz.f258.name,by decide,Tryz.func258.trans (congrArg some (by kernel_rfl))⟩
 f35:=⟨Tryz.f259.name,by decide,Tryz.func259.trans (congrArg some (by kernel_rfl))⟩
 f40:=⟨Tryz.f260.name,by decide,Tryz.func260.trans (congrArg some (by kernel_rfl))⟩
 t0:=Tryz.underlying0
 a0:=Tryz.isAgg0
 z0:=Tryz.sizeOf0
 v0:=Tryz.zeroValue0
 t3:=Tryz.underlying3
 a3:=Tryz.isAgg3
 z3:=Tryz.sizeOf3
 v3:=Tryz.zeroValue3
 t4:=Tryz.underlying4
 a4:=Tryz.isAgg4
 z4:=Tryz.sizeOf4
 v4:=Tryz.zeroValue4
 t5:=Tryz.underlying5
 a5:=Tryz.isAgg5
 z5:=Tryz.sizeOf5
 v5:=Tryz.zeroValue5
 t9:=Tryz.underlying9
 a9:=Tryz.isAgg9
 z9:=Tryz.sizeOf9
 v9:=Tryz.zeroValue9
 t22:=Tryz.underlying24
 a22:=Tryz.isAgg24
 z22:=Tryz.sizeOf24
 v22:=Tryz.zeroValue24
 t23:=Tryz.underlying24
 a23:=Tryz.isAgg24
 z23:=Tryz.sizeOf24
 v23:=Tryz.zeroValue24
 t25:=Tryz.underlying2
 a25:=Tryz.isAgg2
 z25:=Tryz.sizeOf2
 v25:=Tryz.zeroValue2
 t32:=Tryz.underlying124
 a32:=Tryz.isAgg124
 z32:=Tryz.sizeOf124
 v32:=Tryz.zeroValue124
 t35:=Tryz.underlying251
 a35:=Tryz.isAgg251
 z35:=Tryz.sizeOf251
 v35:=Tryz.zeroValue251
 t36:=Tryz.underlying252
 a36:=Tryz.isAgg252
 z36:=Tryz.sizeOf252
 v36:=Tryz.zeroValue252
 t41:=Tryz.underlying256
 a41:=Tryz.isAgg256
 z41:=Tryz.sizeOf256
 v41:=Tryz.zeroValue256
 t44:=Tryz.underlying227
 a44:=Tryz.isAgg227
 z44:=Tryz.sizeOf227
 v44:=Tryz.zeroValue227
 t46:=Tryz.underlying57
 a46:=Tryz.isAgg57
 z46:=Tryz.sizeOf57
 v46:=Tryz.zeroValue57
 t53:=Tryz.underlying260
 a53:=Tryz.isAgg260
 z53:=Tryz.sizeOf260
 v53:=Tryz.zeroValue260
 t57:=Tryz.underlying264
 a57:=Tryz.isAgg264
 z57:=Tryz.sizeOf264
 v57:=Tryz.zeroValue264
 t63:=Tryz.underlying266
 a63:=Tryz.isAgg266
 z63:=Tryz.sizeOf266
 v63:=Tryz.zeroValue266
 t64:=Tryz.underlying267
 a64:=Tryz.isAgg267
 z64:=Tryz.sizeOf267
 v64:=Tryz.zeroValue267 }
end Go.Proofs
namespace Go.SX
open Go.Proofs Go.Proofs.Tryz
set_option maxRecDepth 100000
theorem aM:Tryz.prog.follows .mixedOrders=true:=by kernel_rfl
def aT(x0 x1 x2:Int):Bool:=bif leI x1 x0 then leI x0 x2 else false
def afR:List SV→List Entry→Option Out
 | [.one ⟨false,[.val (.int .i64 x0)]⟩,.one ⟨false,[.val (.int .i64 x1)]⟩,.one ⟨false,[.val (.int .i64 x2)]⟩],[]=>some ⟨.one ⟨false,[.val (.bool (aT x0 x1 x2))]⟩,[],[],[]⟩
 |_,_=>none
def fI:PF prog:=PF.ofG prog [] [] aM 73 f73 func73 (fun c _=>LOk.nil c) afR (by
 intro vs es r h;unfold afR at h;split at h
 ·cases h;kernel_rfl
 ·cases h)
abbrev jK:=Int×Int×List Int
section
variable (y0 y1:Int)(y2:List Int)
def vT:Bool:=ltI y0 (↑y2.length:Int)
def AU:Bool:=leI (0:Int) y0
def AV:Bool:=ltN y0.toNat y2.length
def AW:Bool:= !aT (Option.getD y2[Int.toNat y0]? (0:Int)) (0:Int) (IntKind.wrap .i64 (IntKind.wrap .i64 ((3:Int) * y1) - (1:Int)))
def AX:Int:=IntKind.wrap .i64 (y0 + (1:Int))
end
def aca:jK→List (Nat×SV)
 |(y0,_,_)=> [(3,(.one ⟨false,[.val (.int .i64 y0)]⟩)),(1,(.one ⟨false,[.ptr 0 0]⟩))]
def ab7:jK→List (Nat×Entry)
 |(_,y1,y2)=> [(0,(.box 26 [.val (.int .i64 y1),.ref 1])),(1,(.row false 2 aiQ y2))]
def acu:Nat→jK→List (Nat×SV)
 |0,(_,_,_)=> [(2,(.one ⟨false,[.val (.bool false)]⟩))]
 |_,(_,_,_)=> []
def acr:Nat→jK→List (Nat×Entry)
 |0,(_,y1,y2)=> [(0,(.box 26 [.val (.int .i64 y1),.ref 1])),(1,(.row false 2 aiQ y2))]
 |_,(_,y1,y2)=> [(0,(.box 26 [.val (.int .i64 y1),.ref 1])),(1,(.row false 2 aiQ y2))]
def yO:jK→LT jK
 |(y0,y1,y2)=> .ite (vT y0 y2) (.need [AU y0,vT y0 y2,AV y0 y2] (.ite (AW y0 y1 y2) (.ext 0 [(0,0),(1,1)]) (.nrm ((AX y0),y1,y2) [(0,0),(1,1)]))) (.ext 1 [(0,0),(1,1)])
def Lt(s:St):Option jK:=
 (match s.look 3 with
 |some ⟨none,.one ⟨false,[.val (.int .i64 y0)]⟩⟩=>
 (match s.look 1 with
 |some ⟨none,.one ⟨false,[.ptr 128 0]⟩⟩=>
 (match s.ent 128 with
 |some (.box 26 [.val (.int .i64 y1),.ref 0])=>
 (match s.ent 0 with
 |some (.row false 2 (.int .i64) y2)=>
 some (y0,y1,y2)
 |_=>none)
 |_=>none)
 |_=>none)
 |_=>none)
def dr:Lp jK where
 h:=⟨[15,16,17,18,19,22,23,24,25,26,27,28,29,30,31,32,2,20,21,3],[0,1],[],[]⟩
 JL:=aca
 JE:=ab7
 XL:=acu
 XE:=acr
 q:=fun j=>match j with | 0=> .ret | _=> .exit 0
 tags:= [0,1]
 lt:=yO
 fuel:=fun(y0,y1,y2)=>y0.natAbs + y1.natAbs + y2.length
 fix:=fun(_,y1,y2) (y0,_,_)=>(y0,y1,y2)
 σ:= [(0,128),(1,0)]
 rd:=Lt
theorem aaz:LoopOk prog (fun k=>Nat.blt k Tryz.f84.ntmps) dr.F (aL f84 0):=by
 refine Lp.ok (tbl:= [fI]) (lf:= []) aM dr (by kernel_rfl) (LOk.nil _) (fun _=>rfl) (fun j _=>by unfold dr;match j with | 0=>rfl | _ + 1=>rfl) ?_ ?_ ?_ ?_ (fun _=>rfl) ?_
 ·rintro⟨y0,y1,y2⟩;kernel_rfl
 ·rintro⟨y0,y1,y2⟩;kernel_rfl
 ·intro s x h
  have h:Lt s=some x:=h
  unfold Lt at h
  repeat' split at h
  all_goals cases h
  exact⟨aa (by assumption) rfl (aa (by assumption) rfl (rfl)),ab rfl (by assumption) rfl (ab rfl (by assumption) rfl (rfl))⟩
 ·rintro⟨y0,y1,y2⟩;kernel_rfl
 ·rintro⟨y0,y1,y2⟩ z;exact(And.intro (And.intro trivial rfl) trivial)
section
variable (x0:Int)(x1:List Int)
def Qq:Bool:=bif !aT x0 (2:Int) (8:Int)then true else !aT (↑x1.length:Int) (1:Int) (4:Int)
def Qr:Int×Int×List Int:=((0:Int),x0,x1)
def Sj:Bool:=bif Qq x0 x1 then false else bif Nat.beq ((Lp.res dr (Qr x0 x1)).1) (0:Nat)then false else true
def Sk:Bool:=allT [Qq x0 x1||Lp.fin dr (Qr x0 x1)]
end
def YJ:List SV→List Entry→Option Out
 | [.one ⟨true,[.val (.int .i64 x0),.ref 0]⟩],[.row false 2 (.int .i64) x1]=>some ⟨.one ⟨false,[.val (.bool (Sj x0 x1))]⟩,[.row false 2 aiQ x1],[],[Sk x0 x1]⟩
 |_,_=>none
def ah0:PF prog:=PF.ofG prog [fI] [dr.F] aM 84 f84 func84 (LOk.fnT (l:= [aL f84 0]) (by kernel_rfl) (.cons aaz (.nil _))) YJ (by
 intro vs es r h;unfold YJ at h;split at h
 ·cases h;kernel_rfl
 ·cases h)
def bm(x0 x1 x2:Int):Bool:=bif leI x1 x0 then leI x0 x2 else false
def ael:List SV→List Entry→Option Out
 | [.one ⟨false,[.val (.int .i64 x0)]⟩,.one ⟨false,[.val (.int .i64 x1)]⟩,.one ⟨false,[.val (.int .i64 x2)]⟩],[]=>some ⟨.one ⟨false,[.val (.bool (bm x0 x1 x2))]⟩,[],[],[]⟩
 |_,_=>none
def gO:PF prog:=PF.ofG prog [] [] aM 69 f69 func69 (fun c _=>LOk.nil c) ael (by
 intro vs es r h;unfold ael at h;split at h
 ·cases h;kernel_rfl
 ·cases h)
def Mz(x0:Int):Bool:=bm x0 (2:Int) (8:Int)
def TI:List SV→List Entry→Option Out
 | [.one ⟨false,[.val (.int .i64 x0)]⟩],[]=>some ⟨.one ⟨false,[.val (.bool (Mz x0))]⟩,[],[],[]⟩
 |_,_=>none
def aec:PF prog:=PF.ofG prog [gO] [] aM 68 f68 func68 (fun c _=>LOk.nil c) TI (by
 intro vs es r h;unfold TI at h;split at h
 ·cases h;kernel_rfl
 ·cases h)
def dd(x0:List Int):Int:=(↑x0.length:Int)
def TJ:List SV→List Entry→Option Out
 | [.one ⟨false,[.ref 0]⟩],[.row false 2 (.int .i64) x0]=>some ⟨.one ⟨false,[.val (.int .i64 (dd x0))]⟩,[.row false 2 aiQ x0],[],[]⟩
 |_,_=>none
def aQ:PF prog:=PF.ofG prog [] [] aM 79 f79 func79 (fun c _=>LOk.nil c) TJ (by
 intro vs es r h;unfold TJ at h;split at h
 ·cases h;kernel_rfl
 ·cases h)
def DK(x0 x1:Int):Bool:= !bm x0 (0:Int) (IntKind.wrap .i64 (IntKind.wrap .i64 ((3:Int) * x1) - (1:Int)))
def Ri:List SV→List Entry→Option Out
 | [.one ⟨false,[.val (.int .i64 x0)]⟩,.one ⟨false,[.ptr 0 0]⟩],[.box 26 [.val (.int .i64 x1),.ref 1],.row false 2 (.int .i64) x2]=>some ⟨.one ⟨false,[.val (.bool (DK x0 x1))]⟩,[.box 26 [.val (.int .i64 x1),.ref 1],.row false 2 aiQ x2],[],[]⟩
 |_,_=>none
def sv:PF prog:=PF.ofG prog [gO] [] aM 162 f162 func162 (fun c _=>LOk.nil c) Ri (by
 intro vs es r h;unfold Ri at h;split at h
 ·cases h;kernel_rfl
 ·cases h)
abbrev bF:=Int×Int×Int×List Int
section
variable (y0 y1 y2:Int)(y3:List Int)
def iw:Bool:=ltI y0 y1
def iy:Bool:=leI (0:Int) y0
def iz:Bool:=ltI y0 (↑y3.length:Int)
def iA:Bool:=ltN y0.toNat y3.length
def iB:Bool:=DK (Option.getD y3[Int.toNat y0]? (0:Int)) y2
def iC:Int:=IntKind.wrap .i64 (y0 + (1:Int))
end
def Mf:bF→List (Nat×SV)
 |(y0,y1,_,_)=> [(8,(.one ⟨false,[.val (.int .i64 y0)]⟩)),(7,(.one ⟨false,[.val (.int .i64 y1)]⟩)),(1,(.one ⟨false,[.clo 162 [0]]⟩)),(0,(.one ⟨false,[.ref 1]⟩))]
def Me:bF→List (Nat×Entry)
 |(_,_,y2,y3)=> [(0,(.box 26 [.val (.int .i64 y2),.ref 1])),(1,(.row false 2 aiQ y3))]
def Mh:Nat→bF→List (Nat×SV)
 |0,(y0,_,_,_)=> [(4,(.one ⟨false,[.val (.int .i64 y0)]⟩))]
 |_,(_,_,_,_)=> []
def Mg:Nat→bF→List (Nat×Entry)
 |0,(_,_,y2,y3)=> [(0,(.box 26 [.val (.int .i64 y2),.ref 1])),(1,(.row false 2 aiQ y3))]
 |_,(_,_,y2,y3)=> [(0,(.box 26 [.val (.int .i64 y2),.ref 1])),(1,(.row false 2 aiQ y3))]
def ie:bF→LT bF
 |(y0,y1,y2,y3)=> .ite (iw y0 y1) (.need [iy y0,iz y0 y3,iA y0 y3] (.ite (iB y0 y2 y3) (.ext 0 [(0,0),(1,1)]) (.nrm ((iC y0),y1,y2,y3) [(0,0),(1,1)]))) (.ext 1 [(0,0),(1,1)])
def ri(s:St):Option bF:=
 (match s.look 8 with
 |some ⟨none,.one ⟨false,[.val (.int .i64 y0)]⟩⟩=>
 (match s.look 7 with
 |some ⟨none,.one ⟨false,[.val (.int .i64 y1)]⟩⟩=>
 (match s.look 1 with
 |some ⟨none,.one ⟨false,[.clo 162 [1]]⟩⟩=>
 (match s.look 0 with
 |some ⟨none,.one ⟨false,[.ref 0]⟩⟩=>
 (match s.ent 1 with
 |some (.box 26 [.val (.int .i64 y2),.ref 0])=>
 (match s.ent 0 with
 |some (.row false 2 (.int .i64) y3)=>
 some (y0,y1,y2,y3)
 |_=>none)
 |_=>none)
 |_=>none)
 |_=>none)
 |_=>none)
 |_=>none)
def aF:Lp bF where
 h:=⟨[9,10,5,11,12,13,14,15,16,17,4,18,8],[0,1],[],[]⟩
 JL:=Mf
 JE:=Me
 XL:=Mh
 XE:=Mg
 q:=fun j=>match j with | 0=> .ret | _=> .exit 0
 tags:= [0,1]
 lt:=ie
 fuel:=fun(y0,y1,y2,y3)=>y0.natAbs + y1.natAbs + y2.natAbs + y3.length
 fix:=fun(_,y1,y2,y3) (y0,_,_,_)=>(y0,y1,y2,y3)
 σ:= [(0,1),(1,0)]
 rd:=ri
theorem KK:LoopOk prog (fun k=>Nat.blt k Tryz.f211.ntmps) aF.F (aL f211 0):=by
 refine Lp.ok (tbl:= [sv,PF.lend sv,PF.fz sv]) (lf:= []) aM aF (by kernel_rfl) (LOk.nil _) (fun _=>rfl) (fun j _=>by unfold aF;match j with | 0=>rfl | _ + 1=>rfl) ?_ ?_ ?_ ?_ (fun _=>rfl) ?_
 ·rintro⟨y0,y1,y2,y3⟩;kernel_rfl
 ·rintro⟨y0,y1,y2,y3⟩;kernel_rfl
 ·intro s x h
  have h:ri s=some x:=h
  unfold ri at h
  repeat' split at h
  all_goals cases h
  exact⟨aa (by assumption) rfl (aa (by assumption) rfl (aa (by assumption) rfl (aa (by assumption) rfl (rfl)))),ab rfl (by assumption) rfl (ab rfl (by assumption) rfl (rfl))⟩
 ·rintro⟨y0,y1,y2,y3⟩;kernel_rfl
 ·rintro⟨y0,y1,y2,y3⟩ z;exact(And.intro (And.intro trivial rfl) trivial)
section
variable (x0:List Int)(x1:Int)
def mS:Int×Int×Int×List Int:=((0:Int),(↑x0.length:Int),x1,x0)
def tj:Bool:=Nat.beq ((Lp.res aF (mS x0 x1)).1) (0:Nat)
def uy:Int:=bif tj x0 x1 then ((Lp.res aF (mS x0 x1)).2).1else(-1:Int)
def uz:Int:=bif tj x0 x1 then x1 else x1
def uA:Bool:=allT [Lp.fin aF (mS x0 x1)]
end
def DT:List SV→List Entry→Option Out
 | [.one ⟨false,[.ref 0]⟩,.one ⟨false,[.clo 162 [1]]⟩],[.row false 2 (.int .i64) x0,.box 26 [.val (.int .i64 x1),.ref 0]]=>some ⟨.one ⟨false,[.val (.int .i64 (uy x0 x1))]⟩,[.row false 2 aiQ x0,.box 26 [.val (.int .i64 (uz x0 x1)),.ref 0]],[],[uA x0 x1]⟩
 |_,_=>none
def ux:PF prog:=PF.ofG prog [sv,PF.lend sv,PF.fz sv] [aF.F] aM 211 f211 func211 (LOk.fnT (l:= [aL f211 0]) (by kernel_rfl) (.cons KK (.nil _))) DT (by
 intro vs es r h;unfold DT at h;split at h
 ·cases h;kernel_rfl
 ·cases h)
section
variable (x0:List Int)(x1:Int)
def lv:Bool:=leI (0:Int) (uy x0 x1)
def AP:Int:=uz x0 x1
def lw:Bool:=allT [uA x0 x1]
end
def Ay:List SV→List Entry→Option Out
 | [.one ⟨false,[.ref 0]⟩,.one ⟨false,[.clo 162 [1]]⟩],[.row false 2 (.int .i64) x0,.box 26 [.val (.int .i64 x1),.ref 0]]=>some ⟨.one ⟨false,[.val (.bool (lv x0 x1))]⟩,[.row false 2 aiQ x0,.box 26 [.val (.int .i64 (AP x0 x1)),.ref 0]],[],[lw x0 x1]⟩
 |_,_=>none
def rR:PF prog:=PF.ofG prog [ux,PF.lend ux,PF.fz ux] [] aM 158 f158 func158 (fun c _=>LOk.nil c) Ay (by
 intro vs es r h;unfold Ay at h;split at h
 ·cases h;kernel_rfl
 ·cases h)
section
variable (x0:Int)(x1:List Int)
def PB:Bool:=bif Mz x0 then bm (dd x1) (1:Int) (4:Int)else false
def RQ:Bool:=bif PB x0 x1 then !lv x1 x0 else false
def RR:Bool:=allT [!(PB x0 x1&&true)||lw x1 x0]
end
def YD:List SV→List Entry→Option Out
 | [.one ⟨true,[.val (.int .i64 x0),.ref 0]⟩],[.row false 2 (.int .i64) x1]=>some ⟨.one ⟨false,[.val (.bool (RQ x0 x1))]⟩,[.row false 2 aiQ x1],[],[RR x0 x1]⟩
 |_,_=>none
def ahV:PF prog:=PF.ofG prog [aec,gO,aQ,PF.lend aQ,PF.fz aQ,rR,PF.lend rR,PF.fz rR] [] aM 75 f75 func75 (fun c _=>LOk.nil c) YD (by
 intro vs es r h;unfold YD at h;split at h
 ·cases h;kernel_rfl
 ·cases h)
def Dd(x0:List Int):Bool:=allT [ltN (0:Nat) x0.length,false||leN ((0:Nat) + List.length x0) (9223372036854775807:Nat),false||leN (((0:Nat) + List.length x0) * (8:Nat)) (140737488355328:Nat)]
def KW:List SV→List Entry→Option Out
 | [.one ⟨false,[.ref 0]⟩],[.row false 2 (.int .i64) x0]=>some ⟨.one ⟨false,[.ref 1]⟩,[.row false 2 aiQ x0],[.row true 2 aiQ x0],[Dd x0]⟩
 |_,_=>none
def Vr:PF prog:=PF.ofG prog [] [] aM 151 f151 func151 (fun c _=>LOk.nil c) KW (by
 intro vs es r h;unfold KW at h;split at h
 ·cases h;kernel_rfl
 ·cases h)
def Yy(x0:List Int):Bool:=allT [leN ((0:Nat) + List.length x0) (9223372036854775807:Nat),leN (((0:Nat) + List.length x0) * (8:Nat)) (140737488355328:Nat)]
def aep:List SV→List Entry→Option Out
 | [.one ⟨false,[.ref 0]⟩],[.row false 2 (.int .i64) x0]=>some ⟨.one ⟨false,[.ref 1]⟩,[.row false 2 aiQ x0],[.row true 2 aiQ x0],[Yy x0]⟩
 |_,_=>none
def akP:PF prog:=PF.ofG prog [] [] aM 209 f209 func209 (fun c _=>LOk.nil c) aep (by
 intro vs es r h;unfold aep at h;split at h
 ·cases h;kernel_rfl
 ·cases h)
section
variable (x0 x1 x2:Int)
def Jz:Bool:=IntKind.wrap .i64 (Int.tdiv x1 (3:Int))==x2
def NK:Bool:=Int.tmod x1 (3:Int)==(2:Int)
def VS:Bool:=bif Jz x1 x2 then true else bif NK x1 then Int.tmod (IntKind.wrap .i64 (IntKind.wrap .i64 (Int.tdiv x1 (3:Int)) + (1:Int))) x0==x2 else false
def QC:Bool:=allT [!(!Jz x1 x2&&true)||neI (3:Int) (0:Int),!(NK x1&&(!Jz x1 x2&&true))||neI (3:Int) (0:Int),!(NK x1&&(!Jz x1 x2&&true))||neI x0 (0:Int)]
end
def abP:List SV→List Entry→Option Out
 | [.one ⟨false,[.val (.int .i64 x0)]⟩,.one ⟨false,[.val (.int .i64 x1)]⟩,.one ⟨false,[.val (.int .i64 x2)]⟩],[]=>some ⟨.one ⟨false,[.val (.bool (VS x0 x1 x2))]⟩,[],[],[QC x0 x1 x2]⟩
 |_,_=>none
def aj7:PF prog:=PF.ofG prog [] [] aM 219 f219 func219 (fun c _=>LOk.nil c) abP (by
 intro vs es r h;unfold abP at h;split at h
 ·cases h;kernel_rfl
 ·cases h)
def mp(x1:Int)(x2:List Int):Bool:=bm x1 (0:Int) (IntKind.wrap .i64 (dd x2 - (1:Int)))
def uD:List SV→List Entry→Option Out
 | [.one ⟨true,[.val (.int .i64 _x0),.ref 0]⟩,.one ⟨false,[.val (.int .i64 x1)]⟩],[.row false 2 (.int .i64) x2]=>some ⟨.one ⟨false,[.val (.bool (mp x1 x2))]⟩,[.row false 2 aiQ x2],[],[]⟩
 |_,_=>none
def Ic:PF prog:=PF.ofG prog [gO,aQ,PF.lend aQ,PF.fz aQ] [] aM 183 f183 func183 (fun c _=>LOk.nil c) uD (by
 intro vs es r h;unfold uD at h;split at h
 ·cases h;kernel_rfl
 ·cases h)
def blk(p:Int):Int:=Int.tdiv p 3
def phs(p:Int):Int:=Int.tmod p 3
def inR(a lo hi:Int):Bool:=leI lo a&&leI a hi
def isT(n:Int)(ps:List Int):Bool:=inR n 2 8&&inR ps.length 1 4&&ps.all fun p=>inR p 0 (3 * n - 1)
def ZX(n p b:Int):Bool:=blk p==b||(phs p==2&&Int.tmod (blk p + 1) n==b)
def aap(n:Int)(ps:List Int)(b:Int):Nat:=ps.countP fun p=>ZX n p b
theorem sf{a lo hi:Int}:inR a lo hi=true↔lo≤a∧a≤hi:=by simp [inR]
theorem wq(a lo hi:Int):(bif leI lo a then leI a hi else false)=inR a lo hi:=by
 unfold inR;cases leI lo a <;> rfl
theorem DL{n:Int}{ps:List Int}:isT n ps=true↔(2≤n∧n≤8)∧(1≤ps.length∧ps.length≤4)∧ ∀ p∈ps,0≤p∧p≤3 * n - 1:=by
 simp only [isT,Bool.and_eq_true,sf,List.all_eq_true]
 constructor
 ·rintro⟨⟨h1,h2⟩,h3⟩;exact⟨h1,by omega,h3⟩
 ·rintro⟨h1,h2,h3⟩;exact⟨⟨h1,by omega⟩,h3⟩
def vO(y1 b:Int):(Unit)→Nat ⊕ (Unit)
 |_=>(bif(!aT b (0:Int) (IntKind.wrap .i64 (IntKind.wrap .i64 ((3:Int) * y1) - (1:Int))))then(.inl 0)else(.inr ()))
def qL(y1:Int)(y2:List Int)(i:Nat):(Unit)→jK
 |_=>((i:Int),y1,y2)
def Lo:jK→Unit
 |(_,_,_)=>()
theorem aef(y1:Int)(y2:List Int) (hn:y2.length≤9223372036854775807):
  dr.fin ((0:Int),y1,y2)=true∧dr.res ((0:Int),y1,y2)=((aO (vO y1) 1 y2 0 ()).1,(qL y1 y2) (aO (vO y1) 1 y2 0 ()).2.1 (aO (vO y1) 1 y2 0 ()).2.2):=by
 have ez:=dr.along (qL y1 y2) Lo (vO y1) 1 (fun _ _=>True) y2 () (by trivial) (by simp only [dr,qL];omega) (fun i b a hb hI=> ?_) (fun a hI=> ?_)
 ·exact ez
 ·obtain⟨⟩:=a
  have dZ:=(List.getElem?_eq_some_iff.1 hb).1
  have gQ: ∀ d,Option.getD y2[i]? d=b:=fun d=>by rw [hb];rfl
  have hw:=tw dZ hn
  have cR:ltI (i:Int) (y2.length:Int)=true:=fj (by omega)
  have ta:leI (0:Int) (i:Int)=true:=da (by omega)
  have fB:ltN i y2.length=true:=gp dZ
  refine⟨?_,?_,?_,?_⟩
  ·simp [vT,AU,AV,AW,AX,yO,dr,LT.nds,allT,qL,cR,ta,fB,gQ]
  ·simp [vT,AU,AV,AW,AX,yO,dr,LT.each,qL,Lo,hw]
  ·simp only [vT,AU,AV,AW,AX,yO,dr,LT.fn,qL,Lo,vO,Int.toNat_natCast,cR,ta,fB,gQ,cond_true,Bool.cond_self]
  ·exact fun _ _=>trivial
 ·obtain⟨⟩:=a
  simp [vT,AU,AV,AW,AX,yO,dr,LT.out,qL]
def fa(y2 b:Int):(Unit)→Nat ⊕ (Unit)
 |_=>(bif(DK b y2)then(.inl 0)else(.inr ()))
def cd(y2:Int)(y3:List Int)(i:Nat):(Unit)→bF
 |_=>((i:Int),(↑y3.length:Int),y2,y3)
def rh:bF→Unit
 |(_,_,_,_)=>()
theorem MT(y2:Int)(y3:List Int) (hn:y3.length≤9223372036854775807):
  aF.fin ((0:Int),(↑y3.length:Int),y2,y3)=true∧aF.res ((0:Int),(↑y3.length:Int),y2,y3)=((aO (fa y2) 1 y3 0 ()).1,(cd y2 y3) (aO (fa y2) 1 y3 0 ()).2.1 (aO (fa y2) 1 y3 0 ()).2.2):=by
 have ez:=aF.along (cd y2 y3) rh (fa y2) 1 (fun _ _=>True) y3 () (by trivial) (by simp only [aF,cd];omega) (fun i b a hb hI=> ?_) (fun a hI=> ?_)
 ·exact ez
 ·obtain⟨⟩:=a
  have dZ:=(List.getElem?_eq_some_iff.1 hb).1
  have gQ: ∀ d,Option.getD y3[i]? d=b:=fun d=>by rw [hb];rfl
  have hw:=tw dZ hn
  have cR:ltI (i:Int) (y3.length:Int)=true:=fj (by omega)
  have ta:leI (0:Int) (i:Int)=true:=da (by omega)
  have fB:ltN i y3.length=true:=gp dZ
  refine⟨?_,?_,?_,?_⟩
  ·simp [iw,iy,iz,iA,iB,iC,ie,aF,LT.nds,allT,cd,cR,ta,fB,gQ]
  ·simp [iw,iy,iz,iA,iB,iC,ie,aF,LT.each,cd,rh,hw]
  ·simp only [iw,iy,iz,iA,iB,iC,ie,aF,LT.fn,cd,rh,fa,Int.toNat_natCast,cR,ta,fB,gQ,cond_true,Bool.cond_self]
  ·exact fun _ _=>trivial
 ·obtain⟨⟩:=a
  simp [iw,iy,iz,iA,iB,iC,ie,aF,LT.out,cd]
theorem aiG{n:Int}(h:2≤n∧n≤8):IntKind.i64.wrap (IntKind.i64.wrap (3 * n) - 1)=3 * n - 1:=by
 rw [ag (x:=3 * n) (by omega) (by omega),ag (by omega) (by omega)]
theorem aoj(n:Int)(ps:List Int):Sj n ps=isT n ps∧Sk n ps=true:=by
 simp only [Qq,Qr,Sj,Sk,aT,wq,isT]
 cases h1:inR n 2 8 with
 |false=>simp [allT]
 |true=>
  cases h2:inR (ps.length:Int) 1 4 with
  |false=>simp [allT]
  |true=>
   have h2':=sf.1 h2
   obtain⟨w1,w2⟩:=aef n ps (by omega)
   rw [ru (P:=fun b=> !inR b 0 (3 * n - 1)) (j:=0) (fun b=>by simp only [vO,aiG (sf.1 h1),aT,wq])]at w2
   have e5:(ps.any fun b=> !inR b 0 (3 * n - 1))= !(ps.all fun b=>inR b 0 (3 * n - 1)):=by simp [List.all_eq_not_any_not]
   rw [e5]at w2
   simp only [w1,w2,allT]
   cases (ps.all fun b=>inR b 0 (3 * n - 1)) <;> simp <;> rfl
def Zb:List SV→List Entry→Option Out
 | [.one ⟨true,[.val (.int .i64 x0),.ref 0]⟩],[.row false 2 (.int .i64) x1]=>some ⟨.one ⟨false,[.val (.bool (isT x0 x1))]⟩,[.row false 2 aiQ x1],[],[]⟩
 |_,_=>none
def BT:PF prog:=PF.alt ah0 Zb (by
 intro args es o h bK;unfold Zb at h;split at h
 ·rename_i x0 x1
  cases h
  have hh:=aoj x0 x1
  obtain⟨e0,en⟩:=hh
  exact kU rfl (gZ en) (by simp only [e0] <;> rfl) rfl rfl
 ·cases h)
theorem amw(n:Int)(h:2≤n∧n≤8)(ps:List Int)(hn:ps.length≤9223372036854775807):
  lv ps n=(ps.any fun b=> !inR b 0 (3 * n - 1))∧lw ps n=true:=by
 obtain⟨w1,w2⟩:=MT n ps hn
 rw [ru (P:=fun b=> !inR b 0 (3 * n - 1)) (j:=0) (fun b=>by simp only [fa,DK,aiG h,bm,wq])]at w2
 simp only [lv,AP,lw,mS,tj,uy,uz,uA,w1,w2,allT,cond_true,and_true,cd]
 cases (ps.any fun b=> !inR b 0 (3 * n - 1))with
 |true=>exact da (Int.natCast_nonneg _)
 |false=>rfl
theorem anV(n:Int)(ps:List Int):RQ n ps=isT n ps∧RR n ps=true:=by
 simp only [PB,RQ,RR,Mz,bm,dd,wq,isT]
 cases h1:inR n 2 8 with
 |false=>simp [allT]
 |true=>
  cases h2:inR (ps.length:Int) 1 4 with
  |false=>simp [allT]
  |true=>
   have h2':=sf.1 h2
   obtain⟨c1,c2⟩:=amw n (sf.1 h1) ps (by omega)
   simp only [c1,c2,allT]
   simp [List.all_eq_not_any_not]
def YW:List SV→List Entry→Option Out
 | [.one ⟨true,[.val (.int .i64 x0),.ref 0]⟩],[.row false 2 (.int .i64) x1]=>some ⟨.one ⟨false,[.val (.bool (isT x0 x1))]⟩,[.row false 2 aiQ x1],[],[]⟩
 |_,_=>none
def BP:PF prog:=PF.alt ahV YW (by
 intro args es o h bK;unfold YW at h;split at h
 ·rename_i x0 x1
  cases h
  have hh:=anV x0 x1
  obtain⟨e0,en⟩:=hh
  exact kU rfl (gZ en) (by simp only [e0] <;> rfl) rfl rfl
 ·cases h)
def Mw(ps:List Int)(t:Int):Bool:=inR t 0 ((ps.length:Int) - 1)
theorem UH{ps:List Int}{t:Int}:Mw ps t=true↔0≤t∧t < ps.length:=by
 rw [Mw,sf];omega
theorem amC(t:Int)(ps:List Int)(h:leN ps.length 9223372036854775807=true):mp t ps=Mw ps t:=by
 have h:=fH.1 h
 simp only [mp,bm,dd,Mw,wq]
 rw [ag (x:=(ps.length:Int) - 1) (by omega) (by omega)]
def uE:List SV→List Entry→Option Out
 | [.one ⟨true,[.val (.int .i64 _x0),.ref 0]⟩,.one ⟨false,[.val (.int .i64 x1)]⟩],[.row false 2 (.int .i64) x2]=>some ⟨.one ⟨false,[.val (.bool (Mw x2 x1))]⟩,[.row false 2 aiQ x2],[],[leN x2.length 9223372036854775807]⟩
 |_,_=>none
def mq:PF prog:=PF.alt Ic uE (by
 intro args es o h bK;unfold uE at h;split at h
 ·rename_i _x0 x1 x2
  cases h
  have bK:=iu bK
  have hh:=amC x1 x2 bK
  have e0:=hh
  exact kU rfl (fun _ h=>by cases h) (by simp only [e0] <;> rfl) rfl rfl
 ·cases h)
theorem aps(xs:List Int)(h:(leN 1 xs.length&&leN xs.length 1048576)=true):Dd xs=true:=by
 simp only [Bool.and_eq_true,fH]at h
 simp [Dd,allT]
 omega
def Lb:List SV→List Entry→Option Out
 | [.one ⟨false,[.ref 0]⟩],[.row false 2 (.int .i64) x0]=>some ⟨.one ⟨false,[.ref 1]⟩,[.row false 2 aiQ x0],[.row true 2 aiQ x0],[leN 1 x0.length&&leN x0.length 1048576]⟩
 |_,_=>none
def al:PF prog:=PF.alt Vr Lb (by
 intro args es o h bK;unfold Lb at h;split at h
 ·rename_i x0
  cases h
  have bK:=iu bK
  have hh:=aps x0 bK
  have en:=hh
  exact kU rfl (gZ en) rfl rfl rfl
 ·cases h)
theorem aq0(xs:List Int)(h:leN xs.length 1048576=true):Yy xs=true:=by
 have h:=fH.1 h
 simp [Yy,allT]
 omega
def aez:List SV→List Entry→Option Out
 | [.one ⟨false,[.ref 0]⟩],[.row false 2 (.int .i64) x0]=>some ⟨.one ⟨false,[.ref 1]⟩,[.row false 2 aiQ x0],[.row true 2 aiQ x0],[leN x0.length 1048576]⟩
 |_,_=>none
def qQ:PF prog:=PF.alt akP aez (by
 intro args es o h bK;unfold aez at h;split at h
 ·rename_i x0
  cases h
  have bK:=iu bK
  have hh:=aq0 x0 bK
  have en:=hh
  exact kU rfl (gZ en) rfl rfl rfl
 ·cases h)
def okP(n p:Int):Bool:=inR n 2 8&&inR p 0 (3 * n - 1)
theorem ajf{n p:Int}:okP n p=true↔(2≤n∧n≤8)∧0≤p∧p≤3 * n - 1:=by simp [okP,sf]
theorem ajb{n:Int}{ps:List Int}(h:isT n ps=true){p:Int}(hp:p∈ps):okP n p=true:=by
 obtain⟨h1,_,h3⟩:=DL.1 h
 exact ajf.2 ⟨h1,h3 p hp⟩
theorem ahq{p:Int}(h:0≤p):blk p=p / 3:=by rw [blk,Int.tdiv_eq_ediv_of_nonneg h]
theorem aqL(n p b:Int)(h:okP n p=true):VS n p b=ZX n p b∧QC n p b=true:=by
 obtain⟨⟨h1,h2⟩,h3,h4⟩:=ajf.1 h
 have e1:IntKind.i64.wrap (Int.tdiv p 3)=blk p:=by
  rw [Int.tdiv_eq_ediv_of_nonneg h3,ahq h3,ag (by omega) (by omega)]
 have e2:IntKind.i64.wrap (blk p + 1)=blk p + 1:=by rw [ahq h3,ag (by omega) (by omega)]
 refine⟨?_,?_⟩
 ·simp only [Jz,NK,VS,QC,e1,e2,ZX,phs]
  cases (blk p==b) <;> cases (Int.tmod p 3==2) <;> simp
 ·have hn:neI n 0=true:=aiE (by omega)
  simp [QC,allT,hn]
def acj:List SV→List Entry→Option Out
 | [.one ⟨false,[.val (.int .i64 x0)]⟩,.one ⟨false,[.val (.int .i64 x1)]⟩,.one ⟨false,[.val (.int .i64 x2)]⟩],[]=>some ⟨.one ⟨false,[.val (.bool (ZX x0 x1 x2))]⟩,[],[],[okP x0 x1]⟩
 |_,_=>none
def acY:PF prog:=PF.alt aj7 acj (by
 intro args es o h bK;unfold acj at h;split at h
 ·rename_i x0 x1 x2
  cases h
  have bK:=iu bK
  have hh:=aqL x0 x1 x2 bK
  obtain⟨e0,en⟩:=hh
  exact kU rfl (gZ en) (by simp only [e0] <;> rfl) rfl rfl
 ·cases h)
def fT(x1:List Int):Bool:=allT [leN (1:Nat) x1.length&&leN x1.length (1048576:Nat)]
def wv:List SV→List Entry→Option Out
 | [.one ⟨true,[.val (.int .i64 x0),.ref 0]⟩],[.row false 2 (.int .i64) x1]=>some ⟨.one ⟨true,[.val (.int .i64 x0),.ref 1]⟩,[.row false 2 aiQ x1],[.row true 2 aiQ x1],[fT x1]⟩
 |_,_=>none
def bA:PF prog:=PF.ofG prog [al,PF.lend al,PF.fz al] [] aM 146 f146 func146 (fun c _=>LOk.nil c) wv (by
 intro vs es r h;unfold wv at h;split at h
 ·cases h;kernel_rfl
 ·cases h)
section
variable (x0 x1:Int)(x2:List Int)
def jh:Int:=IntKind.wrap .i64 ((3:Int) * x0)
def jw:List Int:=List.set x2 x1.toNat (Int.tmod (IntKind.wrap .i64 (Option.getD x2[Int.toNat x1]? (0:Int) + (1:Int))) (jh x0))
def jx:Bool:=allT [fT x2,leI (0:Int) x1,ltI x1 (↑x2.length:Int),ltN x1.toNat x2.length,neI (jh x0) (0:Int),leI (0:Int) x1,ltI x1 (↑x2.length:Int),ltN x1.toNat x2.length]
end
def ww:List SV→List Entry→Option Out
 | [.one ⟨true,[.val (.int .i64 x0),.ref 0]⟩,.one ⟨false,[.val (.int .i64 x1)]⟩],[.row false 2 (.int .i64) x2]=>some ⟨.one ⟨true,[.val (.int .i64 x0),.ref 1]⟩,[.row false 2 aiQ x2],[.row true 2 aiQ (jw x0 x1 x2)],[jx x0 x1 x2]⟩
 |_,_=>none
def Ka:PF prog:=PF.ofG prog [bA,PF.lend bA,PF.fz bA] [] aM 204 f204 func204 (fun c _=>LOk.nil c) ww (by
 intro vs es r h;unfold ww at h;split at h
 ·cases h;kernel_rfl
 ·cases h)
abbrev kx:=Int×Int×Int×Int×List Int
section
variable (y0 y1 y2 y3:Int)(y4:List Int)
def vU:Int:=Option.getD y4[Int.toNat y0]? (0:Int)
def xg:Bool:=ltI y0 (↑y4.length:Int)
def Dk:Bool:=leI (0:Int) y0
def Dm:Bool:=ltN y0.toNat y4.length
def Dn:Bool:=okP y3 (vU y0 y4)
def Do:Int:=IntKind.wrap .i64 (y0 + (1:Int))
def Dp:Int:=bif ZX y3 (vU y0 y4) y1 then IntKind.wrap .i64 (y2 + (1:Int))else y2
end
def adM:kx→List (Nat×SV)
 |(y0,y1,y2,_,_)=> [(6,(.one ⟨false,[.val (.int .i64 y0)]⟩)),(2,(.one ⟨false,[.ptr 0 0]⟩)),(1,(.one ⟨false,[.val (.int .i64 y1)]⟩)),(5,(.one ⟨false,[.val (.int .i64 y2)]⟩))]
def adF:kx→List (Nat×Entry)
 |(_,_,_,y3,y4)=> [(0,(.box 26 [.val (.int .i64 y3),.ref 1])),(1,(.row false 2 aiQ y4))]
def ad0:Nat→kx→List (Nat×SV)
 |_,(_,_,y2,_,_)=> [(5,(.one ⟨false,[.val (.int .i64 y2)]⟩))]
def adT:Nat→kx→List (Nat×Entry)
 |_,(_,_,_,y3,y4)=> [(0,(.box 26 [.val (.int .i64 y3),.ref 1])),(1,(.row false 2 aiQ y4))]
def AL:kx→LT kx
 |(y0,y1,y2,y3,y4)=> .ite (xg y0 y4) (.need [Dk y0,xg y0 y4,Dm y0 y4,Dn y0 y3 y4] (.nrm ((Do y0),y1,Dp y0 y1 y2 y3 y4,y3,y4) [(0,0),(1,1)])) (.ext 0 [(0,0),(1,1)])
def MK(s:St):Option kx:=
 (match s.look 6 with
 |some ⟨none,.one ⟨false,[.val (.int .i64 y0)]⟩⟩=>
 (match s.look 2 with
 |some ⟨none,.one ⟨false,[.ptr 128 0]⟩⟩=>
 (match s.look 1 with
 |some ⟨none,.one ⟨false,[.val (.int .i64 y1)]⟩⟩=>
 (match s.look 5 with
 |some ⟨none,.one ⟨false,[.val (.int .i64 y2)]⟩⟩=>
 (match s.ent 128 with
 |some (.box 26 [.val (.int .i64 y3),.ref 0])=>
 (match s.ent 0 with
 |some (.row false 2 (.int .i64) y4)=>
 some (y0,y1,y2,y3,y4)
 |_=>none)
 |_=>none)
 |_=>none)
 |_=>none)
 |_=>none)
 |_=>none)
def fc:Lp kx where
 h:=⟨[7,8,9,10,11,14,15,16,17,18,19,20,21,22,23,24,5,12,13,6],[0,1],[],[]⟩
 JL:=adM
 JE:=adF
 XL:=ad0
 XE:=adT
 q:=fun j=>match j with | _=> .exit 0
 tags:= [0]
 lt:=AL
 fuel:=fun(y0,y1,y2,y3,y4)=>y0.natAbs + y1.natAbs + y2.natAbs + y3.natAbs + y4.length
 fix:=fun(_,y1,_,y3,y4) (y0,_,y2,_,_)=>(y0,y1,y2,y3,y4)
 σ:= [(0,128),(1,0)]
 rd:=MK
theorem abD:LoopOk prog (fun k=>Nat.blt k Tryz.f175.ntmps) fc.F (aL f175 0):=by
 refine Lp.ok (tbl:= [acY]) (lf:= []) aM fc (by kernel_rfl) (LOk.nil _) (fun _=>rfl) (fun _ _=>rfl) ?_ ?_ ?_ ?_ (fun _=>rfl) ?_
 ·rintro⟨y0,y1,y2,y3,y4⟩;kernel_rfl
 ·rintro⟨y0,y1,y2,y3,y4⟩;kernel_rfl
 ·intro s x h
  have h:MK s=some x:=h
  unfold MK at h
  repeat' split at h
  all_goals cases h
  exact⟨aa (by assumption) rfl (aa (by assumption) rfl (aa (by assumption) rfl (aa (by assumption) rfl (rfl)))),ab rfl (by assumption) rfl (ab rfl (by assumption) rfl (rfl))⟩
 ·rintro⟨y0,y1,y2,y3,y4⟩;kernel_rfl
 ·rintro⟨y0,y1,y2,y3,y4⟩ z;exact(And.intro rfl trivial)
section
variable (x0 x1:Int)(x2:List Int)
def Mr:Int×Int×Int×Int×List Int:=((0:Int),x1,(0:Int),x0,x2)
def NG:Int:=((Lp.res fc (Mr x0 x1 x2)).2.2.2).1
def NH:Bool:=allT [Lp.fin fc (Mr x0 x1 x2)]
end
def aaX:List SV→List Entry→Option Out
 | [.one ⟨true,[.val (.int .i64 x0),.ref 0]⟩,.one ⟨false,[.val (.int .i64 x1)]⟩],[.row false 2 (.int .i64) x2]=>some ⟨.one ⟨false,[.val (.int .i64 (NG x0 x1 x2))]⟩,[.row false 2 aiQ x2],[],[NH x0 x1 x2]⟩
 |_,_=>none
def ai3:PF prog:=PF.ofG prog [acY] [fc.F] aM 175 f175 func175 (LOk.fnT (l:= [aL f175 0]) (by kernel_rfl) (.cons abD (.nil _))) aaX (by
 intro vs es r h;unfold aaX at h;split at h
 ·cases h;kernel_rfl
 ·cases h)
section
variable (x0 x1:Int)(x2:List Int)
def NJ:Int:=IntKind.wrap .i64 ((3:Int) * x0)
def QA:List Int:=List.set x2 x1.toNat (Int.tmod (IntKind.wrap .i64 (Option.getD x2[Int.toNat x1]? (0:Int) + (1:Int))) (NJ x0))
def QB:Bool:=allT [leN x2.length (1048576:Nat),leI (0:Int) x1,ltI x1 (↑x2.length:Int),ltN x1.toNat x2.length,neI (NJ x0) (0:Int),leI (0:Int) x1,ltI x1 (↑x2.length:Int),ltN x1.toNat x2.length]
end
def abO:List SV→List Entry→Option Out
 | [.one ⟨true,[.val (.int .i64 x0),.ref 0]⟩,.one ⟨false,[.val (.int .i64 x1)]⟩],[.row false 2 (.int .i64) x2]=>some ⟨.one ⟨true,[.val (.int .i64 x0),.ref 1]⟩,[.row false 2 aiQ x2],[.row true 2 aiQ (QA x0 x1 x2)],[QB x0 x1 x2]⟩
 |_,_=>none
def aj6:PF prog:=PF.ofG prog [qQ,PF.lend qQ,PF.fz qQ] [] aM 178 f178 func178 (fun c _=>LOk.nil c) abO (by
 intro vs es r h;unfold abO at h;split at h
 ·cases h;kernel_rfl
 ·cases h)
def ahL(n:Int)(ps:List Int)(t:Int):List Int:=ps.set t.toNat (Int.tmod (ps[t.toNat]?.getD 0 + 1) (3 * n))
theorem aiC(n:Int)(ps:List Int)(t:Int):(ahL n ps t).length=ps.length:=by simp [ahL]
theorem aqs{n:Int}{ps:List Int}(h:isT n ps=true)(t:Int):isT n (ahL n ps t)=true:=by
 obtain⟨h1,h2,h3⟩:=DL.1 h
 refine DL.2 ⟨h1,by rw [aiC];exact h2,fun p hp=> ?_⟩
 rcases List.mem_or_eq_of_mem_set hp with hp | rfl
 ·exact h3 p hp
 ·have h0:0≤ps[t.toNat]?.getD 0:=by
   cases hg:ps[t.toNat]? with
   |none=>simp
   |some q=>exact(h3 q (List.mem_of_getElem? hg)).1
  have:=Int.emod_lt_of_pos (ps[t.toNat]?.getD 0 + 1) (show 0 < 3 * n by omega)
  have:=Int.emod_nonneg (ps[t.toNat]?.getD 0 + 1) (show 3 * n≠0 by omega)
  rw [Int.tmod_eq_emod_of_nonneg (by omega)]
  omega
def ZG(n:Int)(ps:List Int)(t:Int):Bool:=isT n ps&&Mw ps t
theorem agQ{n:Int}{ps:List Int}{t:Int}:ZG n ps t=true↔isT n ps=true∧Mw ps t=true:=by simp [ZG]
theorem ahM{n:Int}{ps:List Int}{t:Int}(h:ZG n ps t=true):IntKind.i64.wrap (3 * n)=3 * n∧IntKind.i64.wrap (ps[t.toNat]?.getD 0 + 1)=ps[t.toNat]?.getD 0 + 1∧neI (3 * n) 0=true∧
  leI 0 t=true∧ltI t ps.length=true∧ltN t.toNat ps.length=true∧leN ps.length 1048576=true∧leN 1 ps.length=true:=by
 obtain⟨hT,ht⟩:=agQ.1 h
 obtain⟨h1,h2,h3⟩:=DL.1 hT
 have h4:=UH.1 ht
 have dZ:t.toNat < ps.length:=by omega
 have hg:ps[t.toNat]?.getD 0=ps[t.toNat]:=by rw [List.getElem?_eq_getElem dZ];rfl
 have h5:=h3 _ (List.getElem_mem dZ)
 rw [hg]
 exact⟨ag (by omega) (by omega),ag (by omega) (by omega),aiE (by omega),da h4.1,fj h4.2,gp dZ,br (by omega),br h2.1⟩
theorem ane(n t:Int)(ps:List Int)(h:ZG n ps t=true):QA n t ps=ahL n ps t∧QB n t ps=true:=by
 obtain⟨e1,e2,e3,e4,e5,e6,e7,e8⟩:=ahM h
 refine⟨?_,?_⟩
 ·simp only [NJ,QA,QB,e1,e2,ahL]
 ·simp only [NJ,QA,QB,e1,e3,e4,e5,e6,e7,allT,cond_true]
def aci:List SV→List Entry→Option Out
 | [.one ⟨true,[.val (.int .i64 x0),.ref 0]⟩,.one ⟨false,[.val (.int .i64 x1)]⟩],[.row false 2 (.int .i64) x2]=>some ⟨.one ⟨true,[.val (.int .i64 x0),.ref 1]⟩,[.row false 2 aiQ x2],[.row true 2 aiQ (ahL x0 x2 x1)],[ZG x0 x2 x1]⟩
 |_,_=>none
def Vj:PF prog:=PF.alt aj6 aci (by
 intro args es o h bK;unfold aci at h;split at h
 ·rename_i x0 x1 x2
  cases h
  have bK:=iu bK
  have hh:=ane x0 x1 x2 bK
  obtain⟨e0,en⟩:=hh
  exact kU rfl (gZ en) rfl rfl (by simp only [e0] <;> rfl)
 ·cases h)
theorem amI(n t:Int)(ps:List Int)(h:ZG n ps t=true):jw n t ps=ahL n ps t∧jx n t ps=true:=by
 obtain⟨e1,e2,e3,e4,e5,e6,e7,e8⟩:=ahM h
 refine⟨?_,?_⟩
 ·simp only [jh,jw,jx,e1,e2,ahL]
 ·simp only [jh,jw,jx,fT,e1,e3,e4,e5,e6,e7,e8,allT,cond_true,Bool.and_self]
def wx:List SV→List Entry→Option Out
 | [.one ⟨true,[.val (.int .i64 x0),.ref 0]⟩,.one ⟨false,[.val (.int .i64 x1)]⟩],[.row false 2 (.int .i64) x2]=>some ⟨.one ⟨true,[.val (.int .i64 x0),.ref 1]⟩,[.row false 2 aiQ x2],[.row true 2 aiQ (ahL x0 x2 x1)],[ZG x0 x2 x1]⟩
 |_,_=>none
def oq:PF prog:=PF.alt Ka wx (by
 intro args es o h bK;unfold wx at h;split at h
 ·rename_i x0 x1 x2
  cases h
  have bK:=iu bK
  have hh:=amI x0 x1 x2 bK
  obtain⟨e0,en⟩:=hh
  exact kU rfl (gZ en) rfl rfl (by simp only [e0] <;> rfl)
 ·cases h)
def tf(y1 y3 b:Int):(Int)→Nat ⊕ (Int)
 |y2=>(.inr (bif ZX y3 b y1 then IntKind.wrap .i64 (y2 + (1:Int))else y2))
def nY(y1 y3:Int)(y4:List Int)(i:Nat):(Int)→kx
 |y2=>((i:Int),y1,y2,y3,y4)
def MD:kx→Int
 |(_,_,y2,_,_)=>y2
theorem afO(y1 y3:Int)(y4:List Int)(y2:Int)(hn:y4.length≤9223372036854775807)(hT: ∀ p∈y4,okP y3 p=true)(h4:y4.length≤4)(h2:y2=0):
  fc.fin ((0:Int),y1,y2,y3,y4)=true∧fc.res ((0:Int),y1,y2,y3,y4)=((aO (tf y1 y3) 0 y4 0 y2).1,(nY y1 y3 y4) (aO (tf y1 y3) 0 y4 0 y2).2.1 (aO (tf y1 y3) 0 y4 0 y2).2.2):=by
 have ez:=fc.along (nY y1 y3 y4) MD (tf y1 y3) 0 (fun i a=>0≤a∧a≤i) y4 y2 (by omega) (by simp only [fc,nY];omega) (fun i b a hb hI=> ?_) (fun a hI=> ?_)
 ·exact ez
 ·obtain y2:=a
  have dZ:=(List.getElem?_eq_some_iff.1 hb).1
  have gQ: ∀ d,Option.getD y4[i]? d=b:=fun d=>by rw [hb];rfl
  have hw:=tw dZ hn
  have cR:ltI (i:Int) (y4.length:Int)=true:=fj (by omega)
  have ta:leI (0:Int) (i:Int)=true:=da (by omega)
  have fB:ltN i y4.length=true:=gp dZ
  refine⟨?_,?_,?_,?_⟩
  ·simp [vU,xg,Dk,Dm,Dn,Do,Dp,AL,fc,LT.nds,allT,nY,cR,ta,fB,gQ,hT b (List.mem_of_getElem? hb)]
  ·simp [vU,xg,Dk,Dm,Dn,Do,Dp,AL,fc,LT.each,nY,MD,hw,hT b (List.mem_of_getElem? hb)]
  ·simp only [vU,xg,Dk,Dm,Dn,Do,Dp,AL,fc,LT.fn,nY,MD,tf,Int.toNat_natCast,cR,gQ,cond_true]
  ·intro a' hf;simp only [tf,Sum.inr.injEq]at hf;subst hf;cases ZX y3 b y1 <;> simp only [cond_true,cond_false] <;> (try rw [ag (by omega) (by omega)]) <;> omega
 ·obtain y2:=a
  simp [vU,xg,Dk,Dm,Dn,Do,Dp,AL,fc,LT.out,nY]
theorem ajr(n b:Int): ∀ (ps:List Int) (a:Int),0≤a→a + ps.length≤100→ps.foldl (fun a p=>bif ZX n p b then IntKind.wrap .i64 (a + (1:Int))else a) a=a + (aap n ps b:Int)
 | [],a,_,_=>by simp [aap]
 |p::ps,a,h0,h1=>by
  simp only [List.length_cons]at h1
  simp only [List.foldl_cons,aap,List.countP_cons]
  cases hu:ZX n p b with
  |true=>
   rw [cond_true,ag (by omega) (by omega),ajr n b ps (a + 1) (by omega) (by omega)]
   simp only [aap]
   simp;omega
  |false=>
   rw [cond_false,ajr n b ps a h0 (by omega)]
   simp [aap]
theorem apu(n b:Int)(ps:List Int)(h:isT n ps=true):NG n b ps=(aap n ps b:Int)∧NH n b ps=true:=by
 have h2:=(DL.1 h).2.1
 obtain⟨w1,w2⟩:=afO b n ps 0 (by omega) (fun p hp=>ajb h hp) h2.2 rfl
 rw [kt (f:=tf b n) (g:=fun a p=>bif ZX n p b then IntKind.wrap .i64 (a + (1:Int))else a) (fun p a=>rfl),ajr n b ps 0 (by omega) (by omega)]at w2
 refine⟨?_,?_⟩
 ·simp only [Mr,NG,NH,w2,nY];omega
 ·simp only [Mr,NG,NH,w1,allT,cond_true]
def aa4:List SV→List Entry→Option Out
 | [.one ⟨true,[.val (.int .i64 x0),.ref 0]⟩,.one ⟨false,[.val (.int .i64 x1)]⟩],[.row false 2 (.int .i64) x2]=>some ⟨.one ⟨false,[.val (.int .i64 (aap x0 x2 x1:Int))]⟩,[.row false 2 aiQ x2],[],[isT x0 x2]⟩
 |_,_=>none
def sW:PF prog:=PF.alt ai3 aa4 (by
 intro args es o h bK;unfold aa4 at h;split at h
 ·rename_i x0 x1 x2
  cases h
  have bK:=iu bK
  have hh:=apu x0 x1 x2 bK
  obtain⟨e0,en⟩:=hh
  exact kU rfl (gZ en) (by simp only [e0] <;> rfl) rfl rfl
 ·cases h)
end Go.SX
namespace Go.SX
open Go.Proofs Go.Proofs.Tryz
def DX:PF prog:=PF.sort 235 2 (fun blk off cap zs w h1 h2 h3=>AnyM.slices_Sort_int Tryz.laysSort blk off cap zs w h1 h2 h3)
end Go.SX
namespace Go.SX
open Go.Proofs Go.Proofs.Tryz
set_option maxRecDepth 100000
section
variable (x0 x1:Int)(x2:List Int)
def dy:Int:=Option.getD x2[Int.toNat x1]? (0:Int)
def fU:Bool:=Int.tmod (dy x1 x2) (3:Int)!=(2:Int)
def jy:List Int:= [IntKind.wrap .i64 (Int.tdiv (dy x1 x2) (3:Int)),Int.tmod (IntKind.wrap .i64 (IntKind.wrap .i64 (Int.tdiv (dy x1 x2) (3:Int)) + (1:Int))) x0]
def jM:List Int:=bif fU x1 x2 then [IntKind.wrap .i64 (Int.tdiv (dy x1 x2) (3:Int))]else ahb (jy x0 x1 x2)
def jN:Bool:=allT [leI (0:Int) x1,ltI x1 (↑x2.length:Int),ltN x1.toNat x2.length,leI (0:Int) x1,ltI x1 (↑x2.length:Int),ltN x1.toNat x2.length,fU x1 x2||neI x0 (0:Int),fU x1 x2||leN (List.length (jy x0 x1 x2)) (4611686018427387903:Nat)]
end
def xB:List SV→List Entry→Option Out
 | [.one ⟨true,[.val (.int .i64 x0),.ref 0]⟩,.one ⟨false,[.val (.int .i64 x1)]⟩],[.row false 2 (.int .i64) x2]=>some ⟨.one ⟨false,[.ref 1]⟩,[.row false 2 aiQ x2],[.row true 2 aiQ (jM x0 x1 x2)],[jN x0 x1 x2]⟩
 |_,_=>none
def KO:PF prog:=PF.ofG prog [DX,PF.lend DX,PF.fz DX] [] aM 210 f210 func210 (fun c _=>LOk.nil c) xB (by
 intro vs es r h;unfold xB at h;split at h
 ·cases h;kernel_rfl
 ·cases h)
def Te(n p:Int):List Int:=bif phs p !=2 then [blk p]else ahb [blk p,Int.tmod (blk p + 1) n]
theorem ap1(a b:Int):ahb [a,b]=bif leI a b then [a,b]else [b,a]:=by
 unfold ahb
 have hp:=List.mergeSort_perm [a,b] (fun x y=>decide (x≤y))
 have hs:=List.pairwise_mergeSort (le:=fun(x y:Int)=>decide (x≤y)) (fun x y z h1 h2=>by simp at h1 h2 ⊢;omega) (fun x y=>by simp;omega) [a,b]
 generalize hm:List.mergeSort [a,b] (fun x y=>decide (x≤y))=l at hp hs
 have hl:=hp.length_eq
 match l,hl with
 | [x,y],_=>
  simp at hs
  have hx:x∈ [a,b]:=hp.subset (by simp)
  simp at hx
  rcases hx with rfl | rfl
  ·have:=(List.perm_cons x).1 hp
   rw [List.perm_singleton]at this
   simp at this;subst this
   rw [da hs];rfl
  ·have h2:=hp.trans (List.Perm.swap x a [])
   have:=(List.perm_cons x).1 h2
   rw [List.perm_singleton]at this
   simp at this;subst this
   cases hq:leI y x with
   |false=>rfl
   |true=>
    have:=ax.1 hq;have:x=y:=by omega
    subst this;rfl
def atI(xs:List Int)(t:Int):Int:=xs[t.toNat]?.getD 0
theorem aqJ(n t:Int)(ps:List Int)(h:ZG n ps t=true):jM n t ps=Te n (atI ps t)∧jN n t ps=true:=by
 obtain⟨e1,e2,e3,e4,e5,e6,e7,e8⟩:=ahM h
 obtain⟨hT,ht⟩:=agQ.1 h
 obtain⟨h1,h2,h3⟩:=DL.1 hT
 have h4:=UH.1 ht
 have dZ:t.toNat < ps.length:=by omega
 have hg:ps[t.toNat]?.getD 0=ps[t.toNat]:=by rw [List.getElem?_eq_getElem dZ];rfl
 have h5:=h3 _ (List.getElem_mem dZ)
 rw [← hg]at h5
 have f1:IntKind.i64.wrap (Int.tdiv (ps[t.toNat]?.getD 0) 3)=blk (ps[t.toNat]?.getD 0):=by
  rw [Int.tdiv_eq_ediv_of_nonneg h5.1,ahq h5.1,ag (by omega) (by omega)]
 have f2:IntKind.i64.wrap (blk (ps[t.toNat]?.getD 0) + 1)=blk (ps[t.toNat]?.getD 0) + 1:=by rw [ahq h5.1,ag (by omega) (by omega)]
 have f3:neI n 0=true:=aiE (by omega)
 refine⟨?_,?_⟩
 ·simp only [dy,fU,jy,jM,jN,f1,f2,Te,phs,atI]
 ·simp [dy,fU,jy,jM,jN,e4,e5,e6,f3,allT]
def xH:List SV→List Entry→Option Out
 | [.one ⟨true,[.val (.int .i64 x0),.ref 0]⟩,.one ⟨false,[.val (.int .i64 x1)]⟩],[.row false 2 (.int .i64) x2]=>some ⟨.one ⟨false,[.ref 1]⟩,[.row false 2 aiQ x2],[.row true 2 aiQ (Te x0 (atI x2 x1))],[ZG x0 x2 x1]⟩
 |_,_=>none
def bG:PF prog:=PF.alt KO xH (by
 intro args es o h bK;unfold xH at h;split at h
 ·rename_i x0 x1 x2
  cases h
  have bK:=iu bK
  have hh:=aqJ x0 x1 x2 bK
  obtain⟨e0,en⟩:=hh
  exact kU rfl (gZ en) rfl rfl (by simp only [e0] <;> rfl)
 ·cases h)
theorem aou{n p:Int}(h:okP n p=true):(∀ u∈Te n p,0≤u∧u < n)∧(Te n p).length≤2∧ ∀ b:Nat,(Te n p).count (b:Int)=bif ZX n p (b:Int)then 1 else 0:=by
 obtain⟨⟨h1,h2⟩,h3,h4⟩:=ajf.1 h
 have hb:=ahq h3
 have hm:Int.tmod (blk p + 1) n=(blk p + 1) % n:=Int.tmod_eq_emod_of_nonneg (by rw [hb];omega)
 have hb0:0≤blk p∧blk p < n:=by rw [hb];omega
 have hm0:=Int.emod_nonneg (blk p + 1) (show n≠0 by omega)
 have hm1:=Int.emod_lt_of_pos (blk p + 1) (show 0 < n by omega)
 have Tg:(blk p + 1) % n≠blk p:=by
  by_cases hq:blk p + 1=n
  ·rw [hq,Int.emod_self];omega
  ·rw [Int.emod_eq_of_lt (by omega) (by omega)];omega
 unfold Te ZX
 rw [hm,ap1]
 generalize (blk p + 1) % n=q at *
 generalize blk p=a at *
 cases hp:phs p==2 with
 |false=>
  simp only [bne,hp,Bool.not_false,cond_true,Bool.false_and,Bool.or_false]
  refine⟨fun u hu=>by simp at hu;omega,by simp,fun b=> ?_⟩
  simp only [List.count_cons,List.count_nil]
  cases hab:a==(b:Int) <;> simp [hab]
 |true=>
  simp only [bne,hp,Bool.not_true,cond_false,Bool.true_and]
  have ez: ∀ b:Nat,(if (a==(b:Int))=true then 1 else 0) + (if (q==(b:Int))=true then 1 else 0)=(bif a==(b:Int)||q==(b:Int)then 1 else 0:Nat):=by
   intro b
   cases hab:a==(b:Int) <;> cases hqb:q==(b:Int) <;> simp
   have:=eq_of_beq hab;have:=eq_of_beq hqb;omega
  cases leI a q with
  |true=>
   refine⟨fun u hu=>by simp at hu;omega,by simp,fun b=> ?_⟩
   rw [← ez b];simp [List.count_cons];omega
  |false=>
   refine⟨fun u hu=>by simp at hu;omega,by simp,fun b=> ?_⟩
   rw [← ez b];simp [List.count_cons]
abbrev aR:=Int×Int×List Int×List Int
section
variable (y0 y1:Int)(y2 y3:List Int)
def aZ:Int:=Option.getD y2[Int.toNat y0]? (0:Int)
def dH:Bool:=ltI y0 y1
def dI:Bool:=leI (0:Int) y0
def dJ:Bool:=ltI y0 (↑y2.length:Int)
def dK:Bool:=ltN y0.toNat y2.length
def cu:Bool:=leI (0:Int) (aZ y0 y2)
def cv:Bool:=ltI (aZ y0 y2) (↑y3.length:Int)
def cw:Bool:=ltN (Int.toNat (aZ y0 y2)) y3.length
def dL:Int:=IntKind.wrap .i64 (y0 + (1:Int))
def dM:List Int:=List.set y3 (Int.toNat (aZ y0 y2)) (IntKind.wrap .i64 (Option.getD y3[Int.toNat (aZ y0 y2)]? (0:Int) + (1:Int)))
end
def Fr:aR→List (Nat×SV)
 |(y0,y1,_,_)=> [(20,(.one ⟨false,[.val (.int .i64 y0)]⟩)),(19,(.one ⟨false,[.val (.int .i64 y1)]⟩)),(18,(.one ⟨false,[.ref 0]⟩)),(3,(.one ⟨false,[.ref 1]⟩))]
def Fq:aR→List (Nat×Entry)
 |(_,_,y2,y3)=> [(0,(.row true 2 aiQ y2)),(1,(.row true 2 aiQ y3))]
def Ft:Nat→aR→List (Nat×SV)
 |_,(_,_,_,_)=> []
def Fs:Nat→aR→List (Nat×Entry)
 |_,(_,_,y2,y3)=> [(0,(.row true 2 aiQ y2)),(1,(.row true 2 aiQ y3))]
def dD:aR→LT aR
 |(y0,y1,y2,y3)=> .ite (dH y0 y1) (.need [dI y0,dJ y0 y2,dK y0 y2] (.need [cu y0 y2,cv y0 y2 y3,cw y0 y2 y3,cu y0 y2,cv y0 y2 y3,cw y0 y2 y3] (.nrm ((dL y0),y1,y2,(dM y0 y2 y3)) [(0,0),(1,1)]))) (.ext 0 [(0,0),(1,1)])
def kE(s:St):Option aR:=
 (match s.look 20 with
 |some ⟨none,.one ⟨false,[.val (.int .i64 y0)]⟩⟩=>
 (match s.look 19 with
 |some ⟨none,.one ⟨false,[.val (.int .i64 y1)]⟩⟩=>
 (match s.look 18 with
 |some ⟨none,.one ⟨false,[.ref 384]⟩⟩=>
 (match s.look 3 with
 |some ⟨none,.one ⟨false,[.ref 1]⟩⟩=>
 (match s.ent 384 with
 |some (.row true 2 (.int .i64) y2)=>
 (match s.ent 1 with
 |some (.row true 2 (.int .i64) y3)=>
 some (y0,y1,y2,y3)
 |_=>none)
 |_=>none)
 |_=>none)
 |_=>none)
 |_=>none)
 |_=>none)
def ah:Lp aR where
 h:=⟨[21,22,23,6,24,25,26,27,28,29,30,20],[0,1],[],[]⟩
 JL:=Fr
 JE:=Fq
 XL:=Ft
 XE:=Fs
 q:=fun j=>match j with | _=> .exit 2
 tags:= [0]
 lt:=dD
 fuel:=fun(y0,y1,y2,y3)=>y0.natAbs + y1.natAbs + y2.length + y3.length
 fix:=fun(_,y1,y2,_) (y0,_,_,y3)=>(y0,y1,y2,y3)
 σ:= [(0,384),(1,1)]
 rd:=kE
theorem DV:LoopOk prog (memN [14,15,4,16,17,18,19,20,21,22,23,6,24,25,26,27,28,29,30,31,13]) ah.F (acO (aL f157 0) 0):=by
 refine Lp.ok (tbl:= [bG,PF.lend bG,PF.fz bG,aQ,PF.lend aQ,PF.fz aQ]) (lf:= []) aM ah (by kernel_rfl) (LOk.nil _) (fun _=>rfl) (fun _ _=>rfl) ?_ ?_ ?_ ?_ (fun _=>rfl) ?_
 ·rintro⟨y0,y1,y2,y3⟩;kernel_rfl
 ·rintro⟨y0,y1,y2,y3⟩;kernel_rfl
 ·intro s x h
  have h:kE s=some x:=h
  unfold kE at h
  repeat' split at h
  all_goals cases h
  exact⟨aa (by assumption) rfl (aa (by assumption) rfl (aa (by assumption) rfl (aa (by assumption) rfl (rfl)))),ab rfl (by assumption) rfl (ab rfl (by assumption) rfl (rfl))⟩
 ·rintro⟨y0,y1,y2,y3⟩;kernel_rfl
 ·rintro⟨y0,y1,y2,y3⟩ z;exact(And.intro rfl trivial)
abbrev aX:=Int×Int×Int×List Int×List Int
section
variable (y0 y1 y2:Int)(y3 y4:List Int)
def cH:Int×Int×List Int×List Int:=((0:Int),(↑(List.length (Te y2 (atI y4 y0))):Int),Te y2 (atI y4 y0),y3)
def eE:Bool:=ltI y0 y1
def eF:Bool:=ZG y2 y4 y0
def eG:Bool:=Lp.fin ah (cH y0 y2 y3 y4)
def eH:Int:=IntKind.wrap .i64 (y0 + (1:Int))
def eI:List Int:=(Lp.res ah (cH y0 y2 y3 y4)).2.2.2.2
end
def HV:aX→List (Nat×SV)
 |(y0,y1,_,_,_)=> [(13,(.one ⟨false,[.val (.int .i64 y0)]⟩)),(12,(.one ⟨false,[.val (.int .i64 y1)]⟩)),(1,(.one ⟨false,[.ptr 0 0]⟩)),(3,(.one ⟨false,[.ref 1]⟩))]
def HT:aX→List (Nat×Entry)
 |(_,_,y2,y3,y4)=> [(0,(.box 26 [.val (.int .i64 y2),.ref 2])),(1,(.row true 2 aiQ y3)),(2,(.row false 2 aiQ y4))]
def HZ:Nat→aX→List (Nat×SV)
 |_,(_,_,_,_,_)=> []
def HX:Nat→aX→List (Nat×Entry)
 |_,(_,_,y2,y3,y4)=> [(0,(.box 26 [.val (.int .i64 y2),.ref 2])),(1,(.row true 2 aiQ y3)),(2,(.row false 2 aiQ y4))]
def ep:aX→LT aX
 |(y0,y1,y2,y3,y4)=> .ite (eE y0 y1) (.need [eF y0 y2 y4] (.need [eG y0 y2 y3 y4] (.nrm ((eH y0),y1,y2,eI y0 y2 y3 y4,y4) [(0,0),(1,1),(2,2)]))) (.ext 0 [(0,0),(1,1),(2,2)])
def mu(s:St):Option aX:=
 (match s.look 13 with
 |some ⟨none,.one ⟨false,[.val (.int .i64 y0)]⟩⟩=>
 (match s.look 12 with
 |some ⟨none,.one ⟨false,[.val (.int .i64 y1)]⟩⟩=>
 (match s.look 1 with
 |some ⟨none,.one ⟨false,[.ptr 128 0]⟩⟩=>
 (match s.look 3 with
 |some ⟨none,.one ⟨false,[.ref 384]⟩⟩=>
 (match s.ent 128 with
 |some (.box 26 [.val (.int .i64 y2),.ref 0])=>
 (match s.ent 384 with
 |some (.row true 2 (.int .i64) y3)=>
 (match s.ent 0 with
 |some (.row false 2 (.int .i64) y4)=>
 some (y0,y1,y2,y3,y4)
 |_=>none)
 |_=>none)
 |_=>none)
 |_=>none)
 |_=>none)
 |_=>none)
 |_=>none)
def aD:Lp aX where
 h:=⟨[14,15,4,16,17,18,19,20,21,22,23,6,24,25,26,27,28,29,30,31,13],[0,1,2],[],[]⟩
 JL:=HV
 JE:=HT
 XL:=HZ
 XE:=HX
 q:=fun j=>match j with | _=> .exit 0
 tags:= [0]
 lt:=ep
 fuel:=fun(y0,y1,y2,y3,y4)=>y0.natAbs + y1.natAbs + y2.natAbs + y3.length + y4.length
 fix:=fun(_,y1,y2,_,y4) (y0,_,_,y3,_)=>(y0,y1,y2,y3,y4)
 σ:= [(0,128),(1,384),(2,0)]
 rd:=mu
theorem Gg:LoopOk prog (fun k=>Nat.blt k Tryz.f157.ntmps) aD.F (aL f157 0):=by
 refine Lp.ok (tbl:= [bG,PF.lend bG,PF.fz bG,aQ,PF.lend aQ,PF.fz aQ]) (lf:= [ah.F]) aM aD (by kernel_rfl) (LOk.allT (l:= [acO (aL f157 0) 0]) (by kernel_rfl) (.cons DV (.nil _))) (fun _=>rfl) (fun _ _=>rfl) ?_ ?_ ?_ ?_ (fun _=>rfl) ?_
 ·rintro⟨y0,y1,y2,y3,y4⟩;kernel_rfl
 ·rintro⟨y0,y1,y2,y3,y4⟩;kernel_rfl
 ·intro s x h
  have h:mu s=some x:=h
  unfold mu at h
  repeat' split at h
  all_goals cases h
  exact⟨aa (by assumption) rfl (aa (by assumption) rfl (aa (by assumption) rfl (aa (by assumption) rfl (rfl)))),ab rfl (by assumption) rfl (ab rfl (by assumption) rfl (ab rfl (by assumption) rfl (rfl)))⟩
 ·rintro⟨y0,y1,y2,y3,y4⟩;kernel_rfl
 ·rintro⟨y0,y1,y2,y3,y4⟩ z;exact(And.intro rfl trivial)
section
variable (x0:Int)(x1:List Int)
def jz:Int×Int×Int×List Int×List Int:=((0:Int),dd x1,x0,List.replicate x0.toNat (0:Int),x1)
def pm:List Int:=((Lp.res aD (jz x0 x1)).2.2.2.2).1
def pn:Bool:=allT [leI (0:Int) x0,leI x0 x0,leI ((↑(8:Nat):Int) * x0) (281474976710656:Int),leI x0 (9223372036854775807:Int),Lp.fin aD (jz x0 x1)]
end
def xC:List SV→List Entry→Option Out
 | [.one ⟨true,[.val (.int .i64 x0),.ref 0]⟩],[.row false 2 (.int .i64) x1]=>some ⟨.one ⟨false,[.ref 1]⟩,[.row false 2 aiQ x1],[.row true 2 aiQ (pm x0 x1)],[pn x0 x1]⟩
 |_,_=>none
def KP:PF prog:=PF.ofG prog [bG,PF.lend bG,PF.fz bG,aQ,PF.lend aQ,PF.fz aQ] [aD.F] aM 157 f157 func157 (LOk.fnT (l:= [aL f157 0]) (by kernel_rfl) (.cons Gg (.nil _))) xC (by
 intro vs es r h;unfold xC at h;split at h
 ·cases h;kernel_rfl
 ·cases h)
def uB(n:Int)(ps:List Int):List Int:=(List.range n.toNat).map fun(b:Nat)=>(aap n ps (b:Int):Int)
theorem YA(n:Int)(ps:List Int):(uB n ps).length=n.toNat:=by simp [uB]
def bP(b:Int):(List Int)→Nat ⊕ (List Int)
 |y3=>(.inr (List.set y3 (Int.toNat b) (IntKind.wrap .i64 (Option.getD y3[Int.toNat (b)]? (0:Int) + (1:Int)))))
def bp(y2:List Int)(i:Nat):(List Int)→aR
 |y3=>((i:Int),(↑y2.length:Int),y2,y3)
def kD:aR→List Int
 |(_,_,_,y3)=>y3
theorem Gi(y2 y3:List Int)(hn:y2.length≤9223372036854775807)(hU: ∀ u∈y2,0≤u∧u < (y3.length:Int)):
  ah.fin ((0:Int),(↑y2.length:Int),y2,y3)=true∧ah.res ((0:Int),(↑y2.length:Int),y2,y3)=((aO (bP) 0 y2 0 y3).1,(bp y2) (aO (bP) 0 y2 0 y3).2.1 (aO (bP) 0 y2 0 y3).2.2):=by
 have ez:=ah.along (bp y2) kD (bP) 0 (fun _ a=>a.length=y3.length) y2 y3 rfl (by simp only [ah,bp];omega) (fun i b a hb hI=> ?_) (fun a hI=> ?_)
 ·exact ez
 ·obtain y3:=a
  have dZ:=(List.getElem?_eq_some_iff.1 hb).1
  have gQ: ∀ d,Option.getD y2[i]? d=b:=fun d=>by rw [hb];rfl
  have hw:=tw dZ hn
  have cR:ltI (i:Int) (y2.length:Int)=true:=fj (by omega)
  have ta:leI (0:Int) (i:Int)=true:=da (by omega)
  have fB:ltN i y2.length=true:=gp dZ
  refine⟨?_,?_,?_,?_⟩
  ·have hu:=hU b (List.mem_of_getElem? hb)
   have e1:leI 0 b=true:=da hu.1
   have e2:ltI b (a.length:Int)=true:=fj (by omega)
   have e3:ltN b.toNat a.length=true:=gp (by omega)
   simp only [aZ,dH,dI,dJ,dK,cu,cv,cw,dL,dM,dD,ah,LT.nds,allT,bp,Int.toNat_natCast,cR,ta,fB,gQ,e1,e2,e3,cond_true]
  ·simp [aZ,dH,dI,dJ,dK,cu,cv,cw,dL,dM,dD,ah,LT.each,bp,kD,hw]
  ·simp only [aZ,dH,dI,dJ,dK,cu,cv,cw,dL,dM,dD,ah,LT.fn,bp,kD,bP,Int.toNat_natCast,cR,ta,fB,gQ,cond_true,Bool.cond_self]
  ·intro a' hf;simp only [bP,Sum.inr.injEq]at hf;subst hf;simpa using hI
 ·obtain y3:=a
  simp [aZ,dH,dI,dJ,dK,cu,cv,cw,dL,dM,dD,ah,LT.out,bp]
def aqp(a:List Int)(u:Int):List Int:=a.set u.toNat (IntKind.wrap .i64 (Option.getD a[u.toNat]? 0 + 1))
theorem arc(N:Nat): ∀ (us:List Int) (c:Nat→Int),(∀ u∈us,0≤u∧u < (N:Int))→(∀ b,0≤c b∧c b + us.length≤1000000)→
  us.foldl aqp ((List.range N).map c)=(List.range N).map fun(b:Nat)=>c b + (us.count (b:Int):Int)
 | [],c,_,_=>by simp
 |u::us,c,hu,hc=>by
  have hu0:=hu u (by simp)
  have dZ:u.toNat < N:=by omega
  have h1:aqp ((List.range N).map c) u=(List.range N).map fun(b:Nat)=>if (b:Int)=u then c b + 1 else c b:=by
   unfold aqp
   have hg:Option.getD ((List.range N).map c)[u.toNat]? 0=c u.toNat:=by simp [List.getElem?_map,List.getElem?_range dZ]
   have hcu:=hc u.toNat
   simp only [List.length_cons]at hcu
   rw [hg,ag (by omega) (by omega)]
   refine List.ext_getElem? fun i=> ?_
   rw [List.getElem?_set]
   by_cases hi:u.toNat=i
   ·rw [if_pos hi,if_pos (by simpa using dZ)]
    subst hi
    rw [List.getElem?_map,List.getElem?_range dZ,Option.map_some,if_pos (by omega)]
   ·rw [if_neg hi,List.getElem?_map,List.getElem?_map]
    by_cases hiN:i < N
    ·rw [List.getElem?_range hiN,Option.map_some,Option.map_some,if_neg (by omega)]
    ·rw [List.getElem?_eq_none (by simp;omega)];rfl
  rw [List.foldl_cons,h1,arc N us _ (fun v hv=>hu v (by simp [hv])) (fun b=>by
   have:=hc b
   simp only [List.length_cons]at this
   split <;> omega)]
  refine List.map_congr_left fun b _=> ?_
  rw [List.count_cons]
  by_cases hb:(b:Int)=u
  ·rw [if_pos hb,if_pos (by simp [hb])];omega
  ·rw [if_neg hb,if_neg (by simp;omega)];omega
theorem ajF{n p:Int}{qs:List Int}(h:okP n p=true)(hq:qs.length≤50):
  ah.fin ((0:Int),((Te n p).length:Int),Te n p,uB n qs)=true∧
   (ah.res ((0:Int),((Te n p).length:Int),Te n p,uB n qs)).2.2.2.2=uB n (qs++ [p]):=by
 obtain⟨hu,hl,hc⟩:=aou h
 have hn:=(ajf.1 h).1
 obtain⟨w1,w2⟩:=Gi (Te n p) (uB n qs) (by omega) (fun u hm=>by rw [YA];have:=hu u hm;omega)
 refine⟨w1,?_⟩
 rw [w2,kt (f:=bP) (g:=aqp) (fun b a=>rfl)]
 simp only [bp]
 unfold uB
 rw [arc n.toNat (Te n p) _ (fun u hm=>by have:=hu u hm;omega) (fun b=>by
  have:aap n qs (b:Int)≤qs.length:=List.countP_le_length
  omega)]
 refine List.map_congr_left fun b _=> ?_
 rw [hc b]
 simp only [aap,List.countP_append,List.countP_cons,List.countP_nil]
 cases ZX n p (b:Int) <;> simp
theorem alx{ps:List Int}{b:Nat}(h:b < ps.length):ps.take (b + 1)=ps.take b++ [ps[b]?.getD 0]:=by
 rw [List.take_add_one,List.getElem?_eq_getElem h];rfl
def aJ(y2:Int)(y4:List Int)(b:Nat):(List Int)→Nat ⊕ (List Int)
 |y3=>(.inr ((Lp.res ah ((0:Int),(↑(List.length (Te y2 (atI y4 (↑b:Int)))):Int),Te y2 (atI y4 (↑b:Int)),y3)).2.2.2.2))
def bI(y1 y2:Int)(y4:List Int)(i:Nat):(List Int)→aX
 |y3=>((i:Int),y1,y2,y3,y4)
def mr:aX→List Int
 |(_,_,_,y3,_)=>y3
theorem Jf(y1 y2:Int)(y4 y3:List Int)(hn:y1≤9223372036854775807)(hl:y1=(y4.length:Int))(hT:isT y2 y4=true)(h3:y3=uB y2 []):
  aD.fin ((0:Int),y1,y2,y3,y4)=true∧aD.res ((0:Int),y1,y2,y3,y4)=((aO (aJ y2 y4) 0 (List.range y1.toNat) 0 y3).1,(bI y1 y2 y4) (aO (aJ y2 y4) 0 (List.range y1.toNat) 0 y3).2.1 (aO (aJ y2 y4) 0 (List.range y1.toNat) 0 y3).2.2):=by
 have ez:=aD.along (bI y1 y2 y4) mr (aJ y2 y4) 0 (fun i a=>a=uB y2 (y4.take i)) (List.range y1.toNat) y3 (by subst h3;simp) (by simp only [aD,bI,List.length_range];omega) (fun i b a hb hI=> ?_) (fun a hI=> ?_)
 ·exact ez
 ·obtain y3:=a
  obtain⟨rfl,dZ⟩:=BV hb
  have hw:IntKind.i64.wrap ((b:Int) + 1)=((b + 1:Nat):Int):=by rw [ag (by omega) (by omega)];omega
  have cR:ltI (b:Int) y1=true:=fj (by omega)
  have ta:leI (0:Int) (b:Int)=true:=da (by omega)
  refine⟨?_,?_,?_,?_⟩
  ·have h4:=(DL.1 hT).2.1
   have hbl:b < y4.length:=by omega
   have hm:ZG y2 y4 (b:Int)=true:=agQ.2 ⟨hT,UH.2 (by omega)⟩
   have hp:okP y2 (atI y4 (b:Int))=true:=ajb hT (by unfold atI;rw [Int.toNat_natCast,List.getElem?_eq_getElem hbl];exact List.getElem_mem hbl)
   obtain⟨i1,i2⟩:=ajF (qs:=y4.take b) hp (by rw [List.length_take];omega)
   subst hI
   simp only [cH,eE,eF,eG,eH,eI,ep,aD,LT.nds,allT,bI,cR,hm,i1,cond_true]
  ·simp [cH,eE,eF,eG,eH,eI,ep,aD,LT.each,bI,mr,hw]
  ·simp only [cH,eE,eF,eG,eH,eI,ep,aD,LT.fn,bI,mr,aJ,Int.toNat_natCast,cR,ta,cond_true,Bool.cond_self]
  ·intro a' hf
   have h4:=(DL.1 hT).2.1
   have hbl:b < y4.length:=by omega
   have hp:okP y2 (atI y4 (b:Int))=true:=ajb hT (by unfold atI;rw [Int.toNat_natCast,List.getElem?_eq_getElem hbl];exact List.getElem_mem hbl)
   obtain⟨i1,i2⟩:=ajF (qs:=y4.take b) hp (by rw [List.length_take];omega)
   subst hI
   simp only [aJ,i2,Sum.inr.injEq]at hf
   rw [← hf,alx hbl]
   rfl
 ·obtain y3:=a
  simp only [cH,eE,eF,eG,eH,eI,ep,aD,LT.out,bI,List.length_range,ZD,acW,cond_false]
theorem aqK(n:Int)(ps:List Int): ∀ (m:Nat),m≤ps.length→(∀ b,b < m→ ∀ a,a=uB n (ps.take b)→aJ n ps b a= .inr (uB n (ps.take (b + 1))))→
  (aO (aJ n ps) 0 (List.range m) 0 (uB n [])).2.2=uB n (ps.take m):=by
 have ez: ∀ (k i s:Nat),(∀ b,b < s + k→ ∀ a,a=uB n (ps.take b)→aJ n ps b a= .inr (uB n (ps.take (b + 1))))→
   (aO (aJ n ps) 0 ((List.range k).map (· + s)) i (uB n (ps.take s))).2.2=uB n (ps.take (s + k)):=by
  intro k
  induction k with
  |zero=>intro i s _;rfl
  |succ k ih=>
   intro i s hb
   rw [List.range_succ_eq_map,List.map_cons,List.map_map]
   simp only [aO,Nat.zero_add]
   rw [hb s (by omega) _ rfl]
   have:=ih (i + 1) (s + 1) (fun b dZ=>hb b (by omega))
   have he:List.map ((fun x=>x + s) ∘ Nat.succ) (List.range k)=(List.range k).map (· + (s + 1)):=List.map_congr_left fun x _=>by simp only [Function.comp];omega
   rw [he]
   show (aO (aJ n ps) 0 ((List.range k).map (· + (s + 1))) (i + 1) (uB n (ps.take (s + 1)))).2.2=_
   rw [this]
   congr 2;omega
 intro m hm hb
 have:=ez m 0 0 (by simpa using hb)
 simpa using this
theorem ap5(n:Int)(ps:List Int)(hT:isT n ps=true):pm n ps=uB n ps∧pn n ps=true:=by
 have h1:=(DL.1 hT).1
 have h4:=(DL.1 hT).2.1
 have hr:List.replicate (Int.toNat n) (0:Int)=uB n []:=by
  unfold uB
  refine List.ext_getElem (by simp) fun i h1 h2=>by simp [aap]
 obtain⟨w1,w2⟩:=Jf (ps.length:Int) n ps (uB n []) (by omega) rfl hT rfl
 have hw:=aqK n ps ps.length (Nat.le_refl _) (fun b hb a ha=>by
  have hp:okP n (atI ps (b:Int))=true:=ajb hT (by unfold atI;rw [Int.toNat_natCast,List.getElem?_eq_getElem hb];exact List.getElem_mem hb)
  obtain⟨i1,i2⟩:=ajF (qs:=ps.take b) hp (by rw [List.length_take];omega)
  subst ha
  simp only [aJ,i2,alx hb]
  rfl)
 have e1:(ps.length:Int).toNat=ps.length:=by omega
 rw [e1]at w2
 refine⟨?_,?_⟩
 ·simp only [pm,jz,dd,hr,w2,bI,hw,List.take_length]
 ·simp only [pn,jz,dd,hr,w1,allT]
  simp;omega
def xI:List SV→List Entry→Option Out
 | [.one ⟨true,[.val (.int .i64 x0),.ref 0]⟩],[.row false 2 (.int .i64) x1]=>some ⟨.one ⟨false,[.ref 1]⟩,[.row false 2 aiQ x1],[.row true 2 aiQ (uB x0 x1)],[isT x0 x1]⟩
 |_,_=>none
def bH:PF prog:=PF.alt KP xI (by
 intro args es o h bK;unfold xI at h;split at h
 ·rename_i x0 x1
  cases h
  have bK:=iu bK
  have hh:=ap5 x0 x1 bK
  obtain⟨e0,en⟩:=hh
  exact kU rfl (gZ en) rfl rfl (by simp only [e0] <;> rfl)
 ·cases h)
def Sl(x0:Int):Bool:=aT x0 (2:Int) (8:Int)
def YK:List SV→List Entry→Option Out
 | [.one ⟨false,[.val (.int .i64 x0)]⟩],[]=>some ⟨.one ⟨false,[.val (.bool (Sl x0))]⟩,[],[],[]⟩
 |_,_=>none
def Sf:PF prog:=PF.ofG prog [fI] [] aM 72 f72 func72 (fun c _=>LOk.nil c) YK (by
 intro vs es r h;unfold YK at h;split at h
 ·cases h;kernel_rfl
 ·cases h)
abbrev gK:=Int×Int×List (Int×(Int×Int))×Int×Int×Int
section
variable (y0 y1:Int)(y2:List (Int×(Int×Int)))(y3 y4:Int)
def pE:Int×Int×Int:=Option.getD y2[Int.toNat y0]? ((0:Int),(0:Int),(0:Int))
def jJ:Bool:=(pE y0 y2).1==y3
def vf:Bool:=ltI y0 y1
def vg:Bool:=leI (0:Int) y0
def vh:Bool:=ltI y0 (↑y2.length:Int)
def vi:Bool:=ltN y0.toNat y2.length
def vj:Bool:= !(jJ y0 y2 y3&&true)||leI (0:Int) y0
def vk:Bool:= !(jJ y0 y2 y3&&true)||ltI y0 (↑y2.length:Int)
def vl:Bool:= !(jJ y0 y2 y3&&true)||ltN y0.toNat y2.length
def vm:Bool:=bif jJ y0 y2 y3 then ((pE y0 y2).2).1==y4 else false
def vn:Int:=IntKind.wrap .i64 (y0 + (1:Int))
end
def YS:gK→List (Nat×SV)
 |(y0,y1,_,_,_,_)=> [(7,(.one ⟨false,[.val (.int .i64 y0)]⟩)),(5,(.one ⟨false,[.val (.int .i64 y1)]⟩)),(1,(.one ⟨false,[.ref 0]⟩)),(6,(.one ⟨false,[.ptr 1 0]⟩))]
def YO:gK→List (Nat×Entry)
 |(_,_,y2,y3,y4,y5)=> [(0,(.row false 169 acG y2)),(1,(.box 169 [.val (.int .i64 y3),.val (.int .i64 y4),.val (.int .i64 y5)]))]
def Zi:Nat→gK→List (Nat×SV)
 |0,(_,_,_,_,_,_)=> [(4,(.one ⟨false,[.val (.bool false)]⟩))]
 |_,(_,_,_,_,_,_)=> []
def Ze:Nat→gK→List (Nat×Entry)
 |0,(_,_,y2,y3,y4,y5)=> [(0,(.row false 169 acG y2)),(1,(.box 169 [.val (.int .i64 y3),.val (.int .i64 y4),.val (.int .i64 y5)]))]
 |_,(_,_,y2,y3,y4,y5)=> [(0,(.row false 169 acG y2)),(1,(.box 169 [.val (.int .i64 y3),.val (.int .i64 y4),.val (.int .i64 y5)]))]
def tH:gK→LT gK
 |(y0,y1,y2,y3,y4,y5)=> .ite (vf y0 y1) (.need [vg y0,vh y0 y2,vi y0 y2,vj y0 y2 y3,vk y0 y2 y3,vl y0 y2 y3] (.ite (vm y0 y2 y3 y4) (.ext 0 [(0,0),(1,1)]) (.nrm ((vn y0),y1,y2,y3,y4,y5) [(0,0),(1,1)]))) (.ext 1 [(0,0),(1,1)])
def GM(s:St):Option gK:=
 (match s.look 7 with
 |some ⟨none,.one ⟨false,[.val (.int .i64 y0)]⟩⟩=>
 (match s.look 5 with
 |some ⟨none,.one ⟨false,[.val (.int .i64 y1)]⟩⟩=>
 (match s.look 1 with
 |some ⟨none,.one ⟨false,[.ref 0]⟩⟩=>
 (match s.look 6 with
 |some ⟨none,.one ⟨false,[.ptr 576 0]⟩⟩=>
 (match s.ent 0 with
 |some (.row false 169 (.pair (.int .i64) (.pair (.int .i64) (.int .i64))) y2)=>
 (match s.ent 576 with
 |some (.box 169 [.val (.int .i64 y3),.val (.int .i64 y4),.val (.int .i64 y5)])=>
 some (y0,y1,y2,y3,y4,y5)
 |_=>none)
 |_=>none)
 |_=>none)
 |_=>none)
 |_=>none)
 |_=>none)
def bZ:Lp gK where
 h:=⟨[36,37,38,41,42,43,44,45,46,47,48,49,50,51,52,53,54,55,56,57,58,4,39,40,7],[0,1],[],[]⟩
 JL:=YS
 JE:=YO
 XL:=Zi
 XE:=Ze
 q:=fun j=>match j with | 0=> .ret | _=> .exit 2
 tags:= [0,1]
 lt:=tH
 fuel:=fun(y0,y1,y2,y3,y4,y5)=>y0.natAbs + y1.natAbs + y2.length + y3.natAbs + y4.natAbs + y5.natAbs
 fix:=fun(_,y1,y2,y3,y4,y5) (y0,_,_,_,_,_)=>(y0,y1,y2,y3,y4,y5)
 σ:= [(0,0),(1,576)]
 rd:=GM
theorem Wx:LoopOk prog (memN [8,9,10,11,14,15,16,17,6,18,19,20,21,22,23,24,25,26,27,28,29,30,31,32,33,34,35,4,7,36,37,38,41,42,43,44,45,46,47,48,49,50,51,52,53,54,55,56,57,58,39,40,12,13,5]) bZ.F (acO (aL f85 0) 0):=by
 refine Lp.ok (tbl:= [Sf,fI]) (lf:= []) aM bZ (by kernel_rfl) (LOk.nil _) (fun _=>rfl) (fun j _=>by unfold bZ;match j with | 0=>rfl | _ + 1=>rfl) ?_ ?_ ?_ ?_ (fun _=>rfl) ?_
 ·rintro⟨y0,y1,y2,y3,y4,y5⟩;kernel_rfl
 ·rintro⟨y0,y1,y2,y3,y4,y5⟩;kernel_rfl
 ·intro s x h
  have h:GM s=some x:=h
  unfold GM at h
  repeat' split at h
  all_goals cases h
  exact⟨aa (by assumption) rfl (aa (by assumption) rfl (aa (by assumption) rfl (aa (by assumption) rfl (rfl)))),ab rfl (by assumption) rfl (ab rfl (by assumption) rfl (rfl))⟩
 ·rintro⟨y0,y1,y2,y3,y4,y5⟩;kernel_rfl
 ·rintro⟨y0,y1,y2,y3,y4,y5⟩ z;exact(And.intro (And.intro trivial rfl) trivial)
abbrev nP:=Int×Int×List (Int×(Int×Int))
section
variable (y0 y1:Int)(y2:List (Int×(Int×Int)))
def qh:Int×Int×Int:=Option.getD y2[Int.toNat y0]? ((0:Int),(0:Int),(0:Int))
def Lu:Int×Int×List (Int×Int×Int)×Int×Int×Int:=((0:Int),y0,y2,(qh y0 y2).1,((qh y0 y2).2).1,(qh y0 y2).2.2)
def AQ:Bool:=ltI y0 (↑y2.length:Int)
def TV:Bool:=leI (0:Int) y0
def TW:Bool:=ltN y0.toNat y2.length
def MM:Bool:=bif bif !aT ((qh y0 y2).1) (0:Int) (IntKind.wrap .i64 (y1 - (1:Int)))then true else !aT (((qh y0 y2).2).1) (0:Int) (1:Int)then true else !aT ((qh y0 y2).2.2) (0:Int) (1:Int)
def TX:Bool:=Lp.fin bZ (Lu y0 y2)
def MN:Bool:=Nat.beq ((Lp.res bZ (Lu y0 y2)).1) (0:Nat)
def TY:Int:=IntKind.wrap .i64 (y0 + (1:Int))
end
def ab9:nP→List (Nat×SV)
 |(y0,y1,_)=> [(5,(.one ⟨false,[.val (.int .i64 y0)]⟩)),(1,(.one ⟨false,[.ref 0]⟩)),(0,(.one ⟨false,[.val (.int .i64 y1)]⟩))]
def ab6:nP→List (Nat×Entry)
 |(_,_,y2)=> [(0,(.row false 169 acG y2))]
def act:Nat→nP→List (Nat×SV)
 |0,(_,_,_)=> [(4,(.one ⟨false,[.val (.bool false)]⟩))]
 |1,(_,_,_)=> [(4,(.one ⟨false,[.val (.bool false)]⟩))]
 |_,(_,_,_)=> []
def acq:Nat→nP→List (Nat×Entry)
 |0,(_,_,y2)=> [(0,(.row false 169 acG y2))]
 |1,(_,_,y2)=> [(0,(.row false 169 acG y2))]
 |_,(_,_,y2)=> [(0,(.row false 169 acG y2))]
def yN:nP→LT nP
 |(y0,y1,y2)=> .ite (AQ y0 y2) (.need [TV y0,AQ y0 y2,TW y0 y2] (.ite (MM y0 y1 y2) (.ext 0 [(0,0)]) (.need [TX y0 y2] (.ite (MN y0 y2) (.ext 1 [(0,0)]) (.nrm ((TY y0),y1,y2) [(0,0)]))))) (.ext 2 [(0,0)])
def Lr(s:St):Option nP:=
 (match s.look 5 with
 |some ⟨none,.one ⟨false,[.val (.int .i64 y0)]⟩⟩=>
 (match s.look 1 with
 |some ⟨none,.one ⟨false,[.ref 0]⟩⟩=>
 (match s.look 0 with
 |some ⟨none,.one ⟨false,[.val (.int .i64 y1)]⟩⟩=>
 (match s.ent 0 with
 |some (.row false 169 (.pair (.int .i64) (.pair (.int .i64) (.int .i64))) y2)=>
 some (y0,y1,y2)
 |_=>none)
 |_=>none)
 |_=>none)
 |_=>none)
def cF:Lp nP where
 h:=⟨[8,9,10,11,14,15,16,17,6,18,19,20,21,22,23,24,25,26,27,28,29,30,31,32,33,34,35,4,7,36,37,38,41,42,43,44,45,46,47,48,49,50,51,52,53,54,55,56,57,58,39,40,12,13,5],[0],[],[]⟩
 JL:=ab9
 JE:=ab6
 XL:=act
 XE:=acq
 q:=fun j=>match j with | 0=> .ret | 1=> .ret | _=> .exit 0
 tags:= [0,1,2]
 lt:=yN
 fuel:=fun(y0,y1,y2)=>y0.natAbs + y1.natAbs + y2.length
 fix:=fun(_,y1,y2) (y0,_,_)=>(y0,y1,y2)
 σ:= [(0,0)]
 rd:=Lr
theorem aay:LoopOk prog (fun k=>Nat.blt k Tryz.f85.ntmps) cF.F (aL f85 0):=by
 refine Lp.ok (tbl:= [Sf,fI]) (lf:= [bZ.F]) aM cF (by kernel_rfl) (LOk.allT (l:= [acO (aL f85 0) 0]) (by kernel_rfl) (.cons Wx (.nil _))) (fun _=>rfl) (fun j _=>by unfold cF;match j with | 0=>rfl | 1=>rfl | _ + 2=>rfl) ?_ ?_ ?_ ?_ (fun _=>rfl) ?_
 ·rintro⟨y0,y1,y2⟩;kernel_rfl
 ·rintro⟨y0,y1,y2⟩;kernel_rfl
 ·intro s x h
  have h:Lr s=some x:=h
  unfold Lr at h
  repeat' split at h
  all_goals cases h
  exact⟨aa (by assumption) rfl (aa (by assumption) rfl (aa (by assumption) rfl (rfl))),ab rfl (by assumption) rfl (rfl)⟩
 ·rintro⟨y0,y1,y2⟩;kernel_rfl
 ·rintro⟨y0,y1,y2⟩ z;exact(And.intro (And.intro trivial (And.intro trivial rfl)) trivial)
section
variable (x0:Int)(x1:List (Int×Int×Int))
def Ez:Int×Int×List (Int×Int×Int):=((0:Int),x0,x1)
def Sg:Bool:=bif Nat.beq ((Lp.res cF (Ez x0 x1)).1) (0:Nat)then false else bif Nat.beq ((Lp.res cF (Ez x0 x1)).1) (1:Nat)then false else bif Sl x0 then leI (↑x1.length:Int) (8:Int)else false
def Sh:Bool:=allT [Lp.fin cF (Ez x0 x1)]
end
def YH:List SV→List Entry→Option Out
 | [.one ⟨false,[.val (.int .i64 x0)]⟩,.one ⟨false,[.ref 0]⟩],[.row false 169 (.pair (.int .i64) (.pair (.int .i64) (.int .i64))) x1]=>some ⟨.one ⟨false,[.val (.bool (Sg x0 x1))]⟩,[.row false 169 acG x1],[],[Sh x0 x1]⟩
 |_,_=>none
def ahY:PF prog:=PF.ofG prog [Sf,fI] [cF.F] aM 85 f85 func85 (LOk.fnT (l:= [aL f85 0]) (by kernel_rfl) (.cons aay (.nil _))) YH (by
 intro vs es r h;unfold YH at h;split at h
 ·cases h;kernel_rfl
 ·cases h)
def Lm(x0:Int):Bool:=bif x0==(0:Int)then true else x0==(1:Int)
def SB:List SV→List Entry→Option Out
 | [.one ⟨false,[.val (.int .i64 x0)]⟩],[]=>some ⟨.one ⟨false,[.val (.bool (Lm x0))]⟩,[],[],[]⟩
 |_,_=>none
def ST:PF prog:=PF.ofG prog [] [] aM 163 f163 func163 (fun c _=>LOk.nil c) SB (by
 intro vs es r h;unfold SB at h;split at h
 ·cases h;kernel_rfl
 ·cases h)
def xL(x0 x1 x3 x4:Int):Bool:=bif x0==x3 then x1==x4 else false
def xJ:List SV→List Entry→Option Out
 | [.one ⟨true,[.val (.int .i64 x0),.val (.int .i64 x1),.val (.int .i64 _x2)]⟩,.one ⟨false,[.ptr 0 0]⟩],[.box 169 [.val (.int .i64 x3),.val (.int .i64 x4),.val (.int .i64 x5)]]=>some ⟨.one ⟨false,[.val (.bool (xL x0 x1 x3 x4))]⟩,[.box 169 [.val (.int .i64 x3),.val (.int .i64 x4),.val (.int .i64 x5)]],[],[]⟩
 |_,_=>none
def Nh:PF prog:=PF.kept (PF.ofG prog [] [] aM 165 f165 func165 (fun c _=>LOk.nil c) xJ (by
 intro vs es r h;unfold xJ at h;split at h
 ·cases h;kernel_rfl
 ·cases h)) [0] (by
 intro vs es r h;have h:xJ vs es=some r:=h;unfold xJ at h;split at h
 ·cases h;exact List.forall_mem_cons.2 ⟨rfl,fun _ h=>(by cases h)⟩
 ·cases h)
abbrev aS:=Int×Int×Int×Int×Int×List (Int×(Int×Int))
section
variable (y0 y1 y2 y3:Int)(y5:List (Int×(Int×Int)))
def cz:Int×Int×Int:=Option.getD y5[Int.toNat y0]? ((0:Int),(0:Int),(0:Int))
def ed:Bool:=ltI y0 y1
def ee:Bool:=leI (0:Int) y0
def ef:Bool:=ltI y0 (↑y5.length:Int)
def eg:Bool:=ltN y0.toNat y5.length
def ei:Bool:=xL ((cz y0 y5).1) (((cz y0 y5).2).1) y2 y3
def ej:Int:=IntKind.wrap .i64 (y0 + (1:Int))
end
def Gd:aS→List (Nat×SV)
 |(y0,y1,_,_,_,_)=> [(8,(.one ⟨false,[.val (.int .i64 y0)]⟩)),(7,(.one ⟨false,[.val (.int .i64 y1)]⟩)),(1,(.one ⟨false,[.clo 165 [0]]⟩)),(0,(.one ⟨false,[.ref 1]⟩))]
def Gc:aS→List (Nat×Entry)
 |(_,_,y2,y3,y4,y5)=> [(0,(.box 169 [.val (.int .i64 y2),.val (.int .i64 y3),.val (.int .i64 y4)])),(1,(.row false 169 acG y5))]
def Gf:Nat→aS→List (Nat×SV)
 |0,(y0,_,_,_,_,_)=> [(4,(.one ⟨false,[.val (.int .i64 y0)]⟩))]
 |_,(_,_,_,_,_,_)=> []
def Ge:Nat→aS→List (Nat×Entry)
 |0,(_,_,y2,y3,y4,y5)=> [(0,(.box 169 [.val (.int .i64 y2),.val (.int .i64 y3),.val (.int .i64 y4)])),(1,(.row false 169 acG y5))]
 |_,(_,_,y2,y3,y4,y5)=> [(0,(.box 169 [.val (.int .i64 y2),.val (.int .i64 y3),.val (.int .i64 y4)])),(1,(.row false 169 acG y5))]
def dN:aS→LT aS
 |(y0,y1,y2,y3,y4,y5)=> .ite (ed y0 y1) (.need [ee y0,ef y0 y5,eg y0 y5] (.ite (ei y0 y2 y3 y5) (.ext 0 [(0,0),(1,1)]) (.nrm ((ej y0),y1,y2,y3,y4,y5) [(0,0),(1,1)]))) (.ext 1 [(0,0),(1,1)])
def kX(s:St):Option aS:=
 (match s.look 8 with
 |some ⟨none,.one ⟨false,[.val (.int .i64 y0)]⟩⟩=>
 (match s.look 7 with
 |some ⟨none,.one ⟨false,[.val (.int .i64 y1)]⟩⟩=>
 (match s.look 1 with
 |some ⟨none,.one ⟨false,[.clo 165 [1]]⟩⟩=>
 (match s.look 0 with
 |some ⟨none,.one ⟨false,[.ref 0]⟩⟩=>
 (match s.ent 1 with
 |some (.box 169 [.val (.int .i64 y2),.val (.int .i64 y3),.val (.int .i64 y4)])=>
 (match s.ent 0 with
 |some (.row false 169 (.pair (.int .i64) (.pair (.int .i64) (.int .i64))) y5)=>
 some (y0,y1,y2,y3,y4,y5)
 |_=>none)
 |_=>none)
 |_=>none)
 |_=>none)
 |_=>none)
 |_=>none)
def aj:Lp aS where
 h:=⟨[9,10,5,11,12,13,14,15,16,17,4,18,8],[0,1],[],[]⟩
 JL:=Gd
 JE:=Gc
 XL:=Gf
 XE:=Ge
 q:=fun j=>match j with | 0=> .ret | _=> .exit 0
 tags:= [0,1]
 lt:=dN
 fuel:=fun(y0,y1,y2,y3,y4,y5)=>y0.natAbs + y1.natAbs + y2.natAbs + y3.natAbs + y4.natAbs + y5.length
 fix:=fun(_,y1,y2,y3,y4,y5) (y0,_,_,_,_,_)=>(y0,y1,y2,y3,y4,y5)
 σ:= [(0,1),(1,0)]
 rd:=kX
theorem Em:LoopOk prog (fun k=>Nat.blt k Tryz.f215.ntmps) aj.F (aL f215 0):=by
 refine Lp.ok (tbl:= [Nh]) (lf:= []) aM aj (by kernel_rfl) (LOk.nil _) (fun _=>rfl) (fun j _=>by unfold aj;match j with | 0=>rfl | _ + 1=>rfl) ?_ ?_ ?_ ?_ (fun _=>rfl) ?_
 ·rintro⟨y0,y1,y2,y3,y4,y5⟩;kernel_rfl
 ·rintro⟨y0,y1,y2,y3,y4,y5⟩;kernel_rfl
 ·intro s x h
  have h:kX s=some x:=h
  unfold kX at h
  repeat' split at h
  all_goals cases h
  exact⟨aa (by assumption) rfl (aa (by assumption) rfl (aa (by assumption) rfl (aa (by assumption) rfl (rfl)))),ab rfl (by assumption) rfl (ab rfl (by assumption) rfl (rfl))⟩
 ·rintro⟨y0,y1,y2,y3,y4,y5⟩;kernel_rfl
 ·rintro⟨y0,y1,y2,y3,y4,y5⟩ z;exact(And.intro (And.intro trivial rfl) trivial)
section
variable (x0:List (Int×Int×Int))(x1 x2 x3:Int)
def eV:Int×Int×Int×Int×Int×List (Int×Int×Int):=((0:Int),(↑x0.length:Int),x1,x2,x3,x0)
def cZ:Bool:=Nat.beq ((Lp.res aj (eV x0 x1 x2 x3)).1) (0:Nat)
def jj:Int:=bif cZ x0 x1 x2 x3 then ((Lp.res aj (eV x0 x1 x2 x3)).2).1else(-1:Int)
def jk:Int:=bif cZ x0 x1 x2 x3 then x1 else x1
def jl:Int:=bif cZ x0 x1 x2 x3 then x2 else x2
def jm:Int:=bif cZ x0 x1 x2 x3 then x3 else x3
def jn:Bool:=allT [Lp.fin aj (eV x0 x1 x2 x3)]
end
def wg:List SV→List Entry→Option Out
 | [.one ⟨false,[.ref 0]⟩,.one ⟨false,[.clo 165 [1]]⟩],[.row false 169 (.pair (.int .i64) (.pair (.int .i64) (.int .i64))) x0,.box 169 [.val (.int .i64 x1),.val (.int .i64 x2),.val (.int .i64 x3)]]=>some ⟨.one ⟨false,[.val (.int .i64 (jj x0 x1 x2 x3))]⟩,[.row false 169 acG x0,.box 169 [.val (.int .i64 (jk x0 x1 x2 x3)),.val (.int .i64 (jl x0 x1 x2 x3)),.val (.int .i64 (jm x0 x1 x2 x3))]],[],[jn x0 x1 x2 x3]⟩
 |_,_=>none
def nr:PF prog:=PF.ofG prog [Nh] [aj.F] aM 215 f215 func215 (LOk.fnT (l:= [aL f215 0]) (by kernel_rfl) (.cons Em (.nil _))) wg (by
 intro vs es r h;unfold wg at h;split at h
 ·cases h;kernel_rfl
 ·cases h)
section
variable (x0:List (Int×Int×Int))(x1 x2 x3:Int)
def eb:Bool:=leI (0:Int) (jj x0 x1 x2 x3)
def lO:Int:=jk x0 x1 x2 x3
def lP:Int:=jl x0 x1 x2 x3
def lQ:Int:=jm x0 x1 x2 x3
def ec:Bool:=allT [jn x0 x1 x2 x3]
end
def tz:List SV→List Entry→Option Out
 | [.one ⟨false,[.ref 0]⟩,.one ⟨false,[.clo 165 [1]]⟩],[.row false 169 (.pair (.int .i64) (.pair (.int .i64) (.int .i64))) x0,.box 169 [.val (.int .i64 x1),.val (.int .i64 x2),.val (.int .i64 x3)]]=>some ⟨.one ⟨false,[.val (.bool (eb x0 x1 x2 x3))]⟩,[.row false 169 acG x0,.box 169 [.val (.int .i64 (lO x0 x1 x2 x3)),.val (.int .i64 (lP x0 x1 x2 x3)),.val (.int .i64 (lQ x0 x1 x2 x3))]],[],[ec x0 x1 x2 x3]⟩
 |_,_=>none
def cC:PF prog:=PF.ofG prog [nr,PF.lend nr,PF.fz nr] [] aM 164 f164 func164 (fun c _=>LOk.nil c) tz (by
 intro vs es r h;unfold tz at h;split at h
 ·cases h;kernel_rfl
 ·cases h)
abbrev nO:=Int×Int×Int×List (Int×(Int×Int))
section
variable (y0 y1 y2:Int)(y3:List (Int×(Int×Int)))
def gS:Int×Int×Int:=Option.getD y3[Int.toNat y0]? ((0:Int),(0:Int),(0:Int))
def SO:List (Int×Int×Int):=List.drop (Int.toNat (0:Int)) (List.take y0.toNat y3)
def Gk:Bool:=ltI y0 y1
def Mx:Bool:=leI (0:Int) y0
def TO:Bool:=ltI y0 (↑y3.length:Int)
def TP:Bool:=ltN y0.toNat y3.length
def My:Bool:=bif bif !bm ((gS y0 y3).1) (0:Int) (IntKind.wrap .i64 (y2 - (1:Int)))then true else bif ((gS y0 y3).2).1!=(0:Int)then ((gS y0 y3).2).1!=(1:Int)else false then true else !Lm ((gS y0 y3).2.2)
end
def TQ:Bool:=leI (0:Int) (0:Int)
section
variable (y0:Int)(y3:List (Int×(Int×Int)))
def TR:Bool:=leI y0 (↑y3.length:Int)
def TS:Bool:=ec (SO y0 y3) ((gS y0 y3).1) (((gS y0 y3).2).1) ((gS y0 y3).2.2)
def TT:Bool:=eb (SO y0 y3) ((gS y0 y3).1) (((gS y0 y3).2).1) ((gS y0 y3).2.2)
def TU:Int:=IntKind.wrap .i64 (y0 + (1:Int))
end
def ab8:nO→List (Nat×SV)
 |(y0,y1,y2,_)=> [(9,(.one ⟨false,[.val (.int .i64 y0)]⟩)),(8,(.one ⟨false,[.val (.int .i64 y1)]⟩)),(7,(.one ⟨false,[.ref 0]⟩)),(0,(.one ⟨false,[.val (.int .i64 y2)]⟩)),(1,(.one ⟨false,[.ref 0]⟩))]
def ab5:nO→List (Nat×Entry)
 |(_,_,_,y3)=> [(0,(.row false 169 acG y3))]
def acs:Nat→nO→List (Nat×SV)
 |0,(_,_,_,_)=> [(4,(.one ⟨false,[.val (.bool false)]⟩))]
 |1,(_,_,_,_)=> [(4,(.one ⟨false,[.val (.bool false)]⟩))]
 |_,(_,_,_,_)=> []
def acp:Nat→nO→List (Nat×Entry)
 |0,(_,_,_,y3)=> [(0,(.row false 169 acG y3))]
 |1,(_,_,_,y3)=> [(0,(.row false 169 acG y3))]
 |_,(_,_,_,y3)=> [(0,(.row false 169 acG y3))]
def yM:nO→LT nO
 |(y0,y1,y2,y3)=> .ite (Gk y0 y1) (.need [Mx y0,TO y0 y3,TP y0 y3] (.ite (My y0 y2 y3) (.ext 0 [(0,0)]) (.need [TQ,Mx y0,TR y0 y3,TS y0 y3] (.ite (TT y0 y3) (.ext 1 [(0,0)]) (.nrm ((TU y0),y1,y2,y3) [(0,0)]))))) (.ext 2 [(0,0)])
def Lq(s:St):Option nO:=
 (match s.look 9 with
 |some ⟨none,.one ⟨false,[.val (.int .i64 y0)]⟩⟩=>
 (match s.look 8 with
 |some ⟨none,.one ⟨false,[.val (.int .i64 y1)]⟩⟩=>
 (match s.look 7 with
 |some ⟨none,.one ⟨false,[.ref 0]⟩⟩=>
 (match s.look 0 with
 |some ⟨none,.one ⟨false,[.val (.int .i64 y2)]⟩⟩=>
 (match s.look 1 with
 |some ⟨none,.one ⟨false,[.ref 0]⟩⟩=>
 (match s.ent 0 with
 |some (.row false 169 (.pair (.int .i64) (.pair (.int .i64) (.int .i64))) y3)=>
 some (y0,y1,y2,y3)
 |_=>none)
 |_=>none)
 |_=>none)
 |_=>none)
 |_=>none)
 |_=>none)
def cE:Lp nO where
 h:=⟨[10,11,12,13,6,5,14,15,16,17,18,19,20,21,22,23,24,25,26,27,28,29,30,31,32,33,34,35,4,36,37,38,39,40,41,9],[0],[],[]⟩
 JL:=ab8
 JE:=ab5
 XL:=acs
 XE:=acp
 q:=fun j=>match j with | 0=> .ret | 1=> .ret | _=> .exit 0
 tags:= [0,1,2]
 lt:=yM
 fuel:=fun(y0,y1,y2,y3)=>y0.natAbs + y1.natAbs + y2.natAbs + y3.length
 fix:=fun(_,y1,y2,y3) (y0,_,_,_)=>(y0,y1,y2,y3)
 σ:= [(0,0)]
 rd:=Lq
theorem aax:LoopOk prog (fun k=>Nat.blt k Tryz.f76.ntmps) cE.F (aL f76 0):=by
 refine Lp.ok (tbl:= [ST,gO,cC,PF.lend cC,PF.fz cC]) (lf:= []) aM cE (by kernel_rfl) (LOk.nil _) (fun _=>rfl) (fun j _=>by unfold cE;match j with | 0=>rfl | 1=>rfl | _ + 2=>rfl) ?_ ?_ ?_ ?_ (fun _=>rfl) ?_
 ·rintro⟨y0,y1,y2,y3⟩;kernel_rfl
 ·rintro⟨y0,y1,y2,y3⟩;kernel_rfl
 ·intro s x h
  have h:Lq s=some x:=h
  unfold Lq at h
  repeat' split at h
  all_goals cases h
  exact⟨aa (by assumption) rfl (aa (by assumption) rfl (aa (by assumption) rfl (aa (by assumption) rfl (aa (by assumption) rfl (rfl))))),ab rfl (by assumption) rfl (rfl)⟩
 ·rintro⟨y0,y1,y2,y3⟩;kernel_rfl
 ·rintro⟨y0,y1,y2,y3⟩ z;exact(And.intro (And.intro trivial (And.intro trivial rfl)) trivial)
section
variable (x0:Int)(x1:List (Int×Int×Int))
def Ej:Int×Int×Int×List (Int×Int×Int):=((0:Int),(↑x1.length:Int),x0,x1)
def RW:Bool:=bif Nat.beq ((Lp.res cE (Ej x0 x1)).1) (0:Nat)then false else bif Nat.beq ((Lp.res cE (Ej x0 x1)).1) (1:Nat)then false else leI (↑x1.length:Int) (8:Int)
def RY:Bool:=allT [Lp.fin cE (Ej x0 x1)]
end
def YF:List SV→List Entry→Option Out
 | [.one ⟨false,[.val (.int .i64 x0)]⟩,.one ⟨false,[.ref 0]⟩],[.row false 169 (.pair (.int .i64) (.pair (.int .i64) (.int .i64))) x1]=>some ⟨.one ⟨false,[.val (.bool (RW x0 x1))]⟩,[.row false 169 acG x1],[],[RY x0 x1]⟩
 |_,_=>none
def ahX:PF prog:=PF.ofG prog [ST,gO,cC,PF.lend cC,PF.fz cC] [cE.F] aM 76 f76 func76 (LOk.fnT (l:= [aL f76 0]) (by kernel_rfl) (.cons aax (.nil _))) YF (by
 intro vs es r h;unfold YF at h;split at h
 ·cases h;kernel_rfl
 ·cases h)
def fIn(n:Int)(f:Int×Int×Int):Bool:=inR f.1 0 (IntKind.i64.wrap (n - 1))&&(inR f.2.1 0 1&&inR f.2.2 0 1)
def UG(f g:Int×Int×Int):Bool:=g.1==f.1&&g.2.1==f.2.1
def fAt(fs:List (Int×Int×Int))(b:Nat):Int×Int×Int:=fs[b]?.getD (0,0,0)
def afs(n:Int)(fs:List (Int×Int×Int))(b:Nat):Bool:= !fIn n (fAt fs b)
def aju(fs:List (Int×Int×Int))(b:Nat):Bool:=(fs.take b).any (UG (fAt fs b))
def okFs(n:Int)(fs:List (Int×Int×Int)):Bool:=leN fs.length 8&&(List.range fs.length).all fun b=> !(afs n fs b||aju fs b)
theorem amm{fs:List (Int×Int×Int)}{P:Int×Int×Int→Bool}{b:Nat}(h:b≤fs.length):((List.range b).any fun j=>P (fs[j]?.getD (0,0,0)))=(fs.take b).any P:=by
 rw [Bool.eq_iff_iff]
 simp only [List.any_eq_true,List.mem_range,List.mem_take_iff_getElem]
 constructor
 ·rintro⟨j,hj,hp⟩
  have hl:j < fs.length:=by omega
  rw [List.getElem?_eq_getElem hl]at hp
  exact⟨fs[j],⟨j,by omega,rfl⟩,hp⟩
 ·rintro⟨x,⟨j,hj,rfl⟩,hp⟩
  have hl:j < fs.length:=by omega
  exact⟨j,by omega,by rw [List.getElem?_eq_getElem hl];exact hp⟩
def qX(y2:List (Int×(Int×Int)))(y3 y4:Int)(b:Nat):(Unit)→Nat ⊕ (Unit)
 |_=>(bif(bif((Option.getD y2[b]? ((0:Int),(0:Int),(0:Int))).1==y3)then ((Option.getD y2[b]? ((0:Int),(0:Int),(0:Int))).2).1==y4 else false)then(.inl 0)else(.inr ()))
def me(y1:Int)(y2:List (Int×(Int×Int)))(y3 y4 y5:Int)(i:Nat):(Unit)→gK
 |_=>((i:Int),y1,y2,y3,y4,y5)
def GK:gK→Unit
 |(_,_,_,_,_,_)=>()
theorem aaP(y1:Int)(y2:List (Int×(Int×Int)))(y3 y4 y5:Int) (hn:y1≤9223372036854775807) (hb:y1≤(y2.length:Int)):
  bZ.fin ((0:Int),y1,y2,y3,y4,y5)=true∧bZ.res ((0:Int),y1,y2,y3,y4,y5)=((aO (qX y2 y3 y4) 1 (List.range y1.toNat) 0 ()).1,(me y1 y2 y3 y4 y5) (aO (qX y2 y3 y4) 1 (List.range y1.toNat) 0 ()).2.1 (aO (qX y2 y3 y4) 1 (List.range y1.toNat) 0 ()).2.2):=by
 have ez:=bZ.along (me y1 y2 y3 y4 y5) GK (qX y2 y3 y4) 1 (fun _ _=>True) (List.range y1.toNat) () (by trivial) (by simp only [bZ,me,List.length_range];omega) (fun i b a hb hI=> ?_) (fun a hI=> ?_)
 ·exact ez
 ·obtain⟨⟩:=a
  obtain⟨rfl,dZ⟩:=BV hb
  have hw:IntKind.i64.wrap ((b:Int) + 1)=((b + 1:Nat):Int):=by rw [ag (by omega) (by omega)];omega
  have cR:ltI (b:Int) y1=true:=fj (by omega)
  have ta:leI (0:Int) (b:Int)=true:=da (by omega)
  refine⟨?_,?_,?_,?_⟩
  ·have h1:ltI (b:Int) (y2.length:Int)=true:=fj (by omega)
   have h2:ltN b y2.length=true:=gp (by omega)
   simp [pE,jJ,vf,vg,vh,vi,vj,vk,vl,vm,vn,tH,bZ,LT.nds,allT,me,cR,ta,h1,h2]
  ·simp [pE,jJ,vf,vg,vh,vi,vj,vk,vl,vm,vn,tH,bZ,LT.each,me,GK,hw]
  ·simp only [pE,jJ,vf,vg,vh,vi,vj,vk,vl,vm,vn,tH,bZ,LT.fn,me,GK,qX,Int.toNat_natCast,cR,ta,cond_true,Bool.cond_self]
  ·exact fun _ _=>trivial
 ·obtain⟨⟩:=a
  simp only [pE,jJ,vf,vg,vh,vi,vj,vk,vl,vm,vn,tH,bZ,LT.out,me,List.length_range,ZD,acW,cond_false]
theorem ao5(fs:List (Int×Int×Int))(b:Nat)(hb:b < fs.length)(hn:fs.length≤9223372036854775807):
  TX (b:Int) fs=true∧MN (b:Int) fs=aju fs b:=by
 obtain⟨w1,w2⟩:=aaP (b:Int) fs (fAt fs b).1 (fAt fs b).2.1 (fAt fs b).2.2 (by omega) (by omega)
 rw [ru (P:=fun j=>UG (fAt fs b) (fs[j]?.getD (0,0,0))) (j:=0) (fun j=>by
  simp only [qX,UG];cases (fs[j]?.getD (0,0,0)).1==(fAt fs b).1 <;> rfl),Int.toNat_natCast,amm (by omega)]at w2
 refine⟨w1,?_⟩
 have e:Lu (b:Int) fs=(0,(b:Int),fs,(fAt fs b).1,(fAt fs b).2.1,(fAt fs b).2.2):=rfl
 simp only [MN,e,w2,aju]
 cases (fs.take b).any (UG (fAt fs b)) <;> rfl
theorem aqF(n:Int)(fs:List (Int×Int×Int))(b:Nat):MM (b:Int) n fs=afs n fs b:=by
 simp only [MM,aT,afs,fIn,fAt,qh,Int.toNat_natCast,wq]
 cases inR (fs[b]?.getD (0,0,0)).1 0 (IntKind.i64.wrap (n - 1)) <;> cases inR (fs[b]?.getD (0,0,0)).2.1 0 1 <;> cases inR (fs[b]?.getD (0,0,0)).2.2 0 1 <;> rfl
def fF(n:Int)(fs:List (Int×Int×Int))(b:Nat)(_:Unit):Nat ⊕ Unit:=bif afs n fs b then .inl 0 else bif aju fs b then .inl 1 else .inr ()
theorem ahk(n:Int)(fs:List (Int×Int×Int)): ∀ (r:List Nat) (i:Nat),∃ k m,aO (fF n fs) 2 r i ()=(k,m,())∧((k=2∧(r.all fun b=> !(afs n fs b||aju fs b))=true)∨((k=0∨k=1)∧(r.all fun b=> !(afs n fs b||aju fs b))=false))
 | [],i=>⟨2,i,rfl,.inl ⟨rfl,rfl⟩⟩
 |b::r,i=>by
  cases h1:afs n fs b with
  |true=>exact⟨0,i,by simp only [aO,fF,h1,cond_true],.inr ⟨.inl rfl,by simp [h1]⟩⟩
  |false=>
   cases h2:aju fs b with
   |true=>exact⟨1,i,by simp only [aO,fF,h1,h2,cond_true,cond_false],.inr ⟨.inr rfl,by simp [h2]⟩⟩
   |false=>
    obtain⟨k,m,e,h⟩:=ahk n fs r (i + 1)
    exact⟨k,m,by simp only [aO,fF,h1,h2,cond_false];exact e,by simpa [h1,h2] using h⟩
theorem amh(n:Int)(fs:List (Int×Int×Int))(hn:fs.length≤9223372036854775807):
  cF.fin ((0:Int),n,fs)=true∧cF.res ((0:Int),n,fs)=((aO (fF n fs) 2 (List.range fs.length) 0 ()).1,(((aO (fF n fs) 2 (List.range fs.length) 0 ()).2.1:Int),n,fs)):=by
 have ez:=cF.along (fun i _=>((i:Int),n,fs)) (fun _=>()) (fF n fs) 2 (fun _ _=>True) (List.range fs.length) () trivial (by simp only [cF,List.length_range];omega) (fun i b a hb hI=> ?_) (fun a hI=> ?_)
 ·exact ez
 ·obtain⟨rfl,dZ⟩:=BV hb
  have hw:IntKind.i64.wrap ((b:Int) + 1)=((b + 1:Nat):Int):=by rw [ag (by omega) (by omega)];omega
  have cR:ltI (b:Int) (fs.length:Int)=true:=fj (by omega)
  have ta:leI (0:Int) (b:Int)=true:=da (by omega)
  have fB:ltN b fs.length=true:=gp (by omega)
  obtain⟨i1,i2⟩:=ao5 fs b dZ hn
  have i3:=aqF n fs b
  refine⟨?_,?_,?_,?_⟩
  ·simp [cF,yN,LT.nds,allT,AQ,TV,TW,cR,ta,fB,i1]
  ·simp [cF,yN,LT.each,TY,hw]
  ·simp only [cF,yN,LT.fn,AQ,cR,i2,i3,fF,cond_true]
  ·exact fun _ _=>trivial
 ·simp [cF,yN,LT.out,AQ,List.length_range]
theorem akS(n:Int)(fs:List (Int×Int×Int))(hn:leN fs.length 9223372036854775807=true):Sg n fs=(inR n 2 8&&okFs n fs)∧Sh n fs=true:=by
 obtain⟨w1,w2⟩:=amh n fs (fH.1 hn)
 obtain⟨k,m,e,h⟩:=ahk n fs (List.range fs.length) 0
 rw [e]at w2
 refine⟨?_,?_⟩
 ·have hl:leI (fs.length:Int) 8=leN fs.length 8:=by rw [Bool.eq_iff_iff];simp;omega
  simp only [Sg,Ez,w2,Sl,aT,wq,okFs,hl]
  rcases h with⟨rfl,h⟩ | ⟨rfl | rfl,h⟩ <;> rw [h]
  ·cases inR n 2 8 <;> cases leN fs.length 8 <;> rfl
  ·cases inR n 2 8 <;> cases leN fs.length 8 <;> rfl
  ·cases inR n 2 8 <;> cases leN fs.length 8 <;> rfl
 ·simp only [Sh,Ez,w1,allT,cond_true]
def YZ:List SV→List Entry→Option Out
 | [.one ⟨false,[.val (.int .i64 x0)]⟩,.one ⟨false,[.ref 0]⟩],[.row false 169 (.pair (.int .i64) (.pair (.int .i64) (.int .i64))) x1]=>some ⟨.one ⟨false,[.val (.bool (inR x0 2 8&&okFs x0 x1))]⟩,[.row false 169 acG x1],[],[leN x1.length 9223372036854775807]⟩
 |_,_=>none
def BS:PF prog:=PF.alt ahY YZ (by
 intro args es o h bK;unfold YZ at h;split at h
 ·rename_i x0 x1
  cases h
  have bK:=iu bK
  have hh:=akS x0 x1 bK
  obtain⟨e0,en⟩:=hh
  exact kU rfl (gZ en) (by simp only [e0] <;> rfl) rfl rfl
 ·cases h)
def cB(y2 y3:Int)(b:Int×(Int×Int)):(Unit)→Nat ⊕ (Unit)
 |_=>(bif(xL b.1 (b.2.1) y2 y3)then(.inl 0)else(.inr ()))
def bt(y2 y3 y4:Int)(y5:List (Int×(Int×Int)))(i:Nat):(Unit)→aS
 |_=>((i:Int),(↑y5.length:Int),y2,y3,y4,y5)
def kW:aS→Unit
 |(_,_,_,_,_,_)=>()
theorem HS(y2 y3 y4:Int)(y5:List (Int×(Int×Int))) (hn:y5.length≤9223372036854775807):
  aj.fin ((0:Int),(↑y5.length:Int),y2,y3,y4,y5)=true∧aj.res ((0:Int),(↑y5.length:Int),y2,y3,y4,y5)=((aO (cB y2 y3) 1 y5 0 ()).1,(bt y2 y3 y4 y5) (aO (cB y2 y3) 1 y5 0 ()).2.1 (aO (cB y2 y3) 1 y5 0 ()).2.2):=by
 have ez:=aj.along (bt y2 y3 y4 y5) kW (cB y2 y3) 1 (fun _ _=>True) y5 () (by trivial) (by simp only [aj,bt];omega) (fun i b a hb hI=> ?_) (fun a hI=> ?_)
 ·exact ez
 ·obtain⟨⟩:=a
  have dZ:=(List.getElem?_eq_some_iff.1 hb).1
  have gQ: ∀ d,Option.getD y5[i]? d=b:=fun d=>by rw [hb];rfl
  have hw:=tw dZ hn
  have cR:ltI (i:Int) (y5.length:Int)=true:=fj (by omega)
  have ta:leI (0:Int) (i:Int)=true:=da (by omega)
  have fB:ltN i y5.length=true:=gp dZ
  refine⟨?_,?_,?_,?_⟩
  ·simp [cz,ed,ee,ef,eg,ei,ej,dN,aj,LT.nds,allT,bt,cR,ta,fB,gQ]
  ·simp [cz,ed,ee,ef,eg,ei,ej,dN,aj,LT.each,bt,kW,hw]
  ·simp only [cz,ed,ee,ef,eg,ei,ej,dN,aj,LT.fn,bt,kW,cB,Int.toNat_natCast,cR,ta,fB,gQ,cond_true,Bool.cond_self]
  ·exact fun _ _=>trivial
 ·obtain⟨⟩:=a
  simp [cz,ed,ee,ef,eg,ei,ej,dN,aj,LT.out,bt]
theorem anU(xs:List (Int×Int×Int))(f:Int×Int×Int)(hn:xs.length≤9223372036854775807):
  eb xs f.1 f.2.1 f.2.2=xs.any (UG f)∧ec xs f.1 f.2.1 f.2.2=true:=by
 obtain⟨w1,w2⟩:=HS f.1 f.2.1 f.2.2 xs hn
 rw [ru (P:=UG f) (j:=0) (fun t=>by
  simp only [cB,xL,UG];cases t.1==f.1 <;> rfl)]at w2
 refine⟨?_,?_⟩
 ·simp only [eb,lO,lP,lQ,ec,eV,cZ,jj,jk,jl,jm,jn,w2,bt]
  cases xs.any (UG f)with
  |false=>rfl
  |true=>exact da (Int.natCast_nonneg _)
 ·simp only [eb,lO,lP,lQ,ec,eV,cZ,jj,jk,jl,jm,jn,w1,allT,cond_true]
theorem aqn(n:Int)(fs:List (Int×Int×Int))(b:Nat):My (b:Int) n fs=afs n fs b:=by
 have h2: ∀ v:Int,(bif v==0 then true else v==1)=inR v 0 1:=fun v=>by
  rw [Bool.eq_iff_iff,sf];by_cases h:v=0 <;> by_cases h':v=1 <;> simp [h,h'] <;> omega
 have h3: ∀ v:Int,(bif v !=0 then v !=1 else false)= !inR v 0 1:=fun v=>by
  rw [← h2 v];simp only [bne];cases v==0 <;> rfl
 simp only [My,bm,Lm,afs,fIn,fAt,gS,Int.toNat_natCast,wq,h2,h3]
 cases inR (fs[b]?.getD (0,0,0)).1 0 (IntKind.i64.wrap (n - 1)) <;> cases inR (fs[b]?.getD (0,0,0)).2.1 0 1 <;> cases inR (fs[b]?.getD (0,0,0)).2.2 0 1 <;> rfl
theorem amg(n:Int)(fs:List (Int×Int×Int))(hn:fs.length≤9223372036854775807):
  cE.fin ((0:Int),(fs.length:Int),n,fs)=true∧cE.res ((0:Int),(fs.length:Int),n,fs)=((aO (fF n fs) 2 (List.range fs.length) 0 ()).1,(((aO (fF n fs) 2 (List.range fs.length) 0 ()).2.1:Int),(fs.length:Int),n,fs)):=by
 have ez:=cE.along (fun i _=>((i:Int),(fs.length:Int),n,fs)) (fun _=>()) (fF n fs) 2 (fun _ _=>True) (List.range fs.length) () trivial (by simp only [cE,List.length_range];omega) (fun i b a hb hI=> ?_) (fun a hI=> ?_)
 ·exact ez
 ·obtain⟨rfl,dZ⟩:=BV hb
  have hw:IntKind.i64.wrap ((b:Int) + 1)=((b + 1:Nat):Int):=by rw [ag (by omega) (by omega)];omega
  have cR:ltI (b:Int) (fs.length:Int)=true:=fj (by omega)
  have NV:leI (b:Int) (fs.length:Int)=true:=da (by omega)
  have ta:leI (0:Int) (b:Int)=true:=da (by omega)
  have fB:ltN b fs.length=true:=gp (by omega)
  obtain⟨i2,i1⟩:=anU (fs.take b) (fAt fs b) (by rw [List.length_take];omega)
  have i2:TT (b:Int) fs=aju fs b:=i2
  have i1:TS (b:Int) fs=true:=i1
  have i3:=aqn n fs b
  refine⟨?_,?_,?_,?_⟩
  ·simp [cE,yM,LT.nds,allT,Gk,Mx,TO,TP,TQ,TR,cR,ta,fB,NV,i1]
  ·simp [cE,yM,LT.each,TU,hw]
  ·simp only [cE,yM,LT.fn,Gk,cR,i2,i3,fF,cond_true]
  ·exact fun _ _=>trivial
 ·simp [cE,yM,LT.out,Gk,List.length_range]
theorem akD(n:Int)(fs:List (Int×Int×Int))(hn:leN fs.length 9223372036854775807=true):RW n fs=okFs n fs∧RY n fs=true:=by
 obtain⟨w1,w2⟩:=amg n fs (fH.1 hn)
 obtain⟨k,m,e,h⟩:=ahk n fs (List.range fs.length) 0
 rw [e]at w2
 refine⟨?_,?_⟩
 ·have hl:leI (fs.length:Int) 8=leN fs.length 8:=by rw [Bool.eq_iff_iff];simp;omega
  simp only [RW,Ej,w2,okFs,hl]
  rcases h with⟨rfl,h⟩ | ⟨rfl | rfl,h⟩ <;> rw [h] <;> cases leN fs.length 8 <;> rfl
 ·simp only [RY,Ej,w1,allT,cond_true]
def YY:List SV→List Entry→Option Out
 | [.one ⟨false,[.val (.int .i64 x0)]⟩,.one ⟨false,[.ref 0]⟩],[.row false 169 (.pair (.int .i64) (.pair (.int .i64) (.int .i64))) x1]=>some ⟨.one ⟨false,[.val (.bool (okFs x0 x1))]⟩,[.row false 169 acG x1],[],[leN x1.length 9223372036854775807]⟩
 |_,_=>none
def BR:PF prog:=PF.alt ahX YY (by
 intro args es o h bK;unfold YY at h;split at h
 ·rename_i x0 x1
  cases h
  have bK:=iu bK
  have hh:=akD x0 x1 bK
  obtain⟨e0,en⟩:=hh
  exact kU rfl (gZ en) (by simp only [e0] <;> rfl) rfl rfl
 ·cases h)
abbrev fC:=Int×List Int
section
variable (y0:Int)(y1:List Int)
def pF:Bool:=ltI y0 (↑y1.length:Int)
def tL:Bool:=leI (0:Int) y0
def tM:Bool:=ltN y0.toNat y1.length
def tN:Bool:= !aT (Option.getD y1[Int.toNat y0]? (0:Int)) (0:Int) (2:Int)
def tO:Int:=IntKind.wrap .i64 (y0 + (1:Int))
end
def XD:fC→List (Nat×SV)
 |(y0,_)=> [(3,(.one ⟨false,[.val (.int .i64 y0)]⟩)),(0,(.one ⟨false,[.ref 0]⟩))]
def Xw:fC→List (Nat×Entry)
 |(_,y1)=> [(0,(.row false 2 aiQ y1))]
def XT:Nat→fC→List (Nat×SV)
 |0,(_,_)=> [(2,(.one ⟨false,[.val (.bool false)]⟩))]
 |_,(_,_)=> []
def XM:Nat→fC→List (Nat×Entry)
 |0,(_,y1)=> [(0,(.row false 2 aiQ y1))]
 |_,(_,y1)=> [(0,(.row false 2 aiQ y1))]
def sJ:fC→LT fC
 |(y0,y1)=> .ite (pF y0 y1) (.need [tL y0,pF y0 y1,tM y0 y1] (.ite (tN y0 y1) (.ext 0 [(0,0)]) (.nrm ((tO y0),y1) [(0,0)]))) (.ext 1 [(0,0)])
def FB(s:St):Option fC:=
 (match s.look 3 with
 |some ⟨none,.one ⟨false,[.val (.int .i64 y0)]⟩⟩=>
 (match s.look 0 with
 |some ⟨none,.one ⟨false,[.ref 0]⟩⟩=>
 (match s.ent 0 with
 |some (.row false 2 (.int .i64) y1)=>
 some (y0,y1)
 |_=>none)
 |_=>none)
 |_=>none)
def bV:Lp fC where
 h:=⟨[4,5,6,7,10,11,12,13,14,15,2,8,9,3],[0],[],[]⟩
 JL:=XD
 JE:=Xw
 XL:=XT
 XE:=XM
 q:=fun j=>match j with | 0=> .ret | _=> .exit 0
 tags:= [0,1]
 lt:=sJ
 fuel:=fun(y0,y1)=>y0.natAbs + y1.length
 fix:=fun(_,y1) (y0,_)=>(y0,y1)
 σ:= [(0,0)]
 rd:=FB
theorem Va:LoopOk prog (fun k=>Nat.blt k Tryz.f86.ntmps) bV.F (aL f86 0):=by
 refine Lp.ok (tbl:= [fI]) (lf:= []) aM bV (by kernel_rfl) (LOk.nil _) (fun _=>rfl) (fun j _=>by unfold bV;match j with | 0=>rfl | _ + 1=>rfl) ?_ ?_ ?_ ?_ (fun _=>rfl) ?_
 ·rintro⟨y0,y1⟩;kernel_rfl
 ·rintro⟨y0,y1⟩;kernel_rfl
 ·intro s x h
  have h:FB s=some x:=h
  unfold FB at h
  repeat' split at h
  all_goals cases h
  exact⟨aa (by assumption) rfl (aa (by assumption) rfl (rfl)),ab rfl (by assumption) rfl (rfl)⟩
 ·rintro⟨y0,y1⟩;kernel_rfl
 ·rintro⟨y0,y1⟩ z;exact(And.intro (And.intro trivial rfl) trivial)
def Lx(x0:List Int):Bool:=bif Nat.beq ((Lp.res bV ((0:Int),x0)).1) (0:Nat)then false else aT (↑x0.length:Int) (1:Int) (12:Int)
def Ly(x0:List Int):Bool:=allT [Lp.fin bV ((0:Int),x0)]
def SD:List SV→List Entry→Option Out
 | [.one ⟨false,[.ref 0]⟩],[.row false 2 (.int .i64) x0]=>some ⟨.one ⟨false,[.val (.bool (Lx x0))]⟩,[.row false 2 aiQ x0],[],[Ly x0]⟩
 |_,_=>none
def ac6:PF prog:=PF.ofG prog [fI] [bV.F] aM 86 f86 func86 (LOk.fnT (l:= [aL f86 0]) (by kernel_rfl) (.cons Va (.nil _))) SD (by
 intro vs es r h;unfold SD at h;split at h
 ·cases h;kernel_rfl
 ·cases h)
def zF(x5:List (List Int)):Int:=(↑(List.length (Option.getD x5[Int.toNat (0:Int)]? (Ei (CTy.sl (2:TypeId) aiQ)))):Int)
def zG(x5:List (List Int)):Bool:=allT [ltI (0:Int) (↑x5.length:Int),ltN (Int.toNat (0:Int)) x5.length]
def ab3:List SV→List Entry→Option Out
 | [.one ⟨true,[.val (.int .i64 _x0),.ref 0,.ref 1,.ref 2,.ref 3,.val (.int .i64 _x1),.ref 4,.ref 5,.val (.int .i64 _x2)]⟩],[.row false 2 (.int .i64) x3,.row false 169 (.pair (.int .i64) (.pair (.int .i64) (.int .i64))) x4,.row false 24 (.sl 2 (.int .i64)) x5,.row false 100 (.pair (.int .i64) (.pair (.int .i64) (.int .i64))) x6,.row false 173 (.pair (.int .i64) (.int .i64)) x7,.row false 176 (.pair (.int .i64) (.int .i64)) x8]=>some ⟨.one ⟨false,[.val (.int .i64 (zF x5))]⟩,[.row false 2 aiQ x3,.row false 169 acG x4,.row false 24 (CTy.sl (2:TypeId) aiQ) x5,.row false 100 acG x6,.row false 173 acH x7,.row false 176 acH x8],[],[zG x5]⟩
 |_,_=>none
def vd:PF prog:=PF.ofG prog [] [] aM 87 f87 func87 (fun c _=>LOk.nil c) ab3 (by
 intro vs es r h;unfold ab3 at h;split at h
 ·cases h;kernel_rfl
 ·cases h)
abbrev dC:=Int×Int×List (Int×(Int×Int))×Int×Int×Int
section
variable (y0 y1:Int)(y2:List (Int×(Int×Int)))(y3 y4:Int)
def kT:Int×Int×Int:=Option.getD y2[Int.toNat y0]? ((0:Int),(0:Int),(0:Int))
def gj:Bool:=(kT y0 y2).1==y3
def qi:Bool:=ltI y0 y1
def qj:Bool:=leI (0:Int) y0
def qk:Bool:=ltI y0 (↑y2.length:Int)
def ql:Bool:=ltN y0.toNat y2.length
def qm:Bool:= !(gj y0 y2 y3&&true)||leI (0:Int) y0
def qn:Bool:= !(gj y0 y2 y3&&true)||ltI y0 (↑y2.length:Int)
def qo:Bool:= !(gj y0 y2 y3&&true)||ltN y0.toNat y2.length
def qp:Bool:=bif gj y0 y2 y3 then ((kT y0 y2).2).1==y4 else false
def qq:Int:=IntKind.wrap .i64 (y0 + (1:Int))
end
def Ub:dC→List (Nat×SV)
 |(y0,y1,_,_,_,_)=> [(7,(.one ⟨false,[.val (.int .i64 y0)]⟩)),(5,(.one ⟨false,[.val (.int .i64 y1)]⟩)),(1,(.one ⟨false,[.ref 0]⟩)),(6,(.one ⟨false,[.ptr 1 0]⟩))]
def Ua:dC→List (Nat×Entry)
 |(_,_,y2,y3,y4,y5)=> [(0,(.row false 100 acG y2)),(1,(.box 100 [.val (.int .i64 y3),.val (.int .i64 y4),.val (.int .i64 y5)]))]
def Ud:Nat→dC→List (Nat×SV)
 |0,(_,_,_,_,_,_)=> [(4,(.one ⟨false,[.val (.bool false)]⟩))]
 |_,(_,_,_,_,_,_)=> []
def Uc:Nat→dC→List (Nat×Entry)
 |0,(_,_,y2,y3,y4,y5)=> [(0,(.row false 100 acG y2)),(1,(.box 100 [.val (.int .i64 y3),.val (.int .i64 y4),.val (.int .i64 y5)]))]
 |_,(_,_,y2,y3,y4,y5)=> [(0,(.row false 100 acG y2)),(1,(.box 100 [.val (.int .i64 y3),.val (.int .i64 y4),.val (.int .i64 y5)]))]
def oM:dC→LT dC
 |(y0,y1,y2,y3,y4,y5)=> .ite (qi y0 y1) (.need [qj y0,qk y0 y2,ql y0 y2,qm y0 y2 y3,qn y0 y2 y3,qo y0 y2 y3] (.ite (qp y0 y2 y3 y4) (.ext 0 [(0,0),(1,1)]) (.nrm ((qq y0),y1,y2,y3,y4,y5) [(0,0),(1,1)]))) (.ext 1 [(0,0),(1,1)])
def Bl(s:St):Option dC:=
 (match s.look 7 with
 |some ⟨none,.one ⟨false,[.val (.int .i64 y0)]⟩⟩=>
 (match s.look 5 with
 |some ⟨none,.one ⟨false,[.val (.int .i64 y1)]⟩⟩=>
 (match s.look 1 with
 |some ⟨none,.one ⟨false,[.ref 0]⟩⟩=>
 (match s.look 6 with
 |some ⟨none,.one ⟨false,[.ptr 576 0]⟩⟩=>
 (match s.ent 0 with
 |some (.row false 100 (.pair (.int .i64) (.pair (.int .i64) (.int .i64))) y2)=>
 (match s.ent 576 with
 |some (.box 100 [.val (.int .i64 y3),.val (.int .i64 y4),.val (.int .i64 y5)])=>
 some (y0,y1,y2,y3,y4,y5)
 |_=>none)
 |_=>none)
 |_=>none)
 |_=>none)
 |_=>none)
 |_=>none)
def bE:Lp dC where
 h:=⟨[36,37,38,41,42,43,44,45,46,47,48,49,50,51,52,53,54,55,56,57,58,4,39,40,7],[0,1],[],[]⟩
 JL:=Ub
 JE:=Ua
 XL:=Ud
 XE:=Uc
 q:=fun j=>match j with | 0=> .ret | _=> .exit 2
 tags:= [0,1]
 lt:=oM
 fuel:=fun(y0,y1,y2,y3,y4,y5)=>y0.natAbs + y1.natAbs + y2.length + y3.natAbs + y4.natAbs + y5.natAbs
 fix:=fun(_,y1,y2,y3,y4,y5) (y0,_,_,_,_,_)=>(y0,y1,y2,y3,y4,y5)
 σ:= [(0,0),(1,576)]
 rd:=Bl
theorem SQ:LoopOk prog (memN [8,9,10,11,14,15,16,17,6,18,19,20,21,22,23,24,25,26,27,28,29,30,31,32,33,34,35,4,7,36,37,38,41,42,43,44,45,46,47,48,49,50,51,52,53,54,55,56,57,58,39,40,12,13,5]) bE.F (acO (aL f88 0) 0):=by
 refine Lp.ok (tbl:= [fI]) (lf:= []) aM bE (by kernel_rfl) (LOk.nil _) (fun _=>rfl) (fun j _=>by unfold bE;match j with | 0=>rfl | _ + 1=>rfl) ?_ ?_ ?_ ?_ (fun _=>rfl) ?_
 ·rintro⟨y0,y1,y2,y3,y4,y5⟩;kernel_rfl
 ·rintro⟨y0,y1,y2,y3,y4,y5⟩;kernel_rfl
 ·intro s x h
  have h:Bl s=some x:=h
  unfold Bl at h
  repeat' split at h
  all_goals cases h
  exact⟨aa (by assumption) rfl (aa (by assumption) rfl (aa (by assumption) rfl (aa (by assumption) rfl (rfl)))),ab rfl (by assumption) rfl (ab rfl (by assumption) rfl (rfl))⟩
 ·rintro⟨y0,y1,y2,y3,y4,y5⟩;kernel_rfl
 ·rintro⟨y0,y1,y2,y3,y4,y5⟩ z;exact(And.intro (And.intro trivial rfl) trivial)
abbrev jD:=Int×Int×List (Int×(Int×Int))
section
variable (y0 y1:Int)(y2:List (Int×(Int×Int)))
def kF:Int×Int×Int:=Option.getD y2[Int.toNat y0]? ((0:Int),(0:Int),(0:Int))
def FI:Int×Int×List (Int×Int×Int)×Int×Int×Int:=((0:Int),y0,y2,(kF y0 y2).1,((kF y0 y2).2).1,(kF y0 y2).2.2)
def tK:Bool:=ltI y0 (↑y2.length:Int)
def ON:Bool:=leI (0:Int) y0
def OO:Bool:=ltN y0.toNat y2.length
def GP:Bool:=bif bif !aT ((kF y0 y2).1) (0:Int) (IntKind.wrap .i64 (y1 - (1:Int)))then true else !aT (((kF y0 y2).2).1) (0:Int) (1:Int)then true else !aT ((kF y0 y2).2.2) (0:Int) (1:Int)
def OP:Bool:=Lp.fin bE (FI y0 y2)
def GQ:Bool:=Nat.beq ((Lp.res bE (FI y0 y2)).1) (0:Nat)
def OQ:Int:=IntKind.wrap .i64 (y0 + (1:Int))
end
def XC:jD→List (Nat×SV)
 |(y0,y1,_)=> [(5,(.one ⟨false,[.val (.int .i64 y0)]⟩)),(1,(.one ⟨false,[.ref 0]⟩)),(0,(.one ⟨false,[.val (.int .i64 y1)]⟩))]
def Xv:jD→List (Nat×Entry)
 |(_,_,y2)=> [(0,(.row false 100 acG y2))]
def XS:Nat→jD→List (Nat×SV)
 |0,(_,_,_)=> [(4,(.one ⟨false,[.val (.bool false)]⟩))]
 |1,(_,_,_)=> [(4,(.one ⟨false,[.val (.bool false)]⟩))]
 |_,(_,_,_)=> []
def XK:Nat→jD→List (Nat×Entry)
 |0,(_,_,y2)=> [(0,(.row false 100 acG y2))]
 |1,(_,_,y2)=> [(0,(.row false 100 acG y2))]
 |_,(_,_,y2)=> [(0,(.row false 100 acG y2))]
def sI:jD→LT jD
 |(y0,y1,y2)=> .ite (tK y0 y2) (.need [ON y0,tK y0 y2,OO y0 y2] (.ite (GP y0 y1 y2) (.ext 0 [(0,0)]) (.need [OP y0 y2] (.ite (GQ y0 y2) (.ext 1 [(0,0)]) (.nrm ((OQ y0),y1,y2) [(0,0)]))))) (.ext 2 [(0,0)])
def FA(s:St):Option jD:=
 (match s.look 5 with
 |some ⟨none,.one ⟨false,[.val (.int .i64 y0)]⟩⟩=>
 (match s.look 1 with
 |some ⟨none,.one ⟨false,[.ref 0]⟩⟩=>
 (match s.look 0 with
 |some ⟨none,.one ⟨false,[.val (.int .i64 y1)]⟩⟩=>
 (match s.ent 0 with
 |some (.row false 100 (.pair (.int .i64) (.pair (.int .i64) (.int .i64))) y2)=>
 some (y0,y1,y2)
 |_=>none)
 |_=>none)
 |_=>none)
 |_=>none)
def bN:Lp jD where
 h:=⟨[8,9,10,11,14,15,16,17,6,18,19,20,21,22,23,24,25,26,27,28,29,30,31,32,33,34,35,4,7,36,37,38,41,42,43,44,45,46,47,48,49,50,51,52,53,54,55,56,57,58,39,40,12,13,5],[0],[],[]⟩
 JL:=XC
 JE:=Xv
 XL:=XS
 XE:=XK
 q:=fun j=>match j with | 0=> .ret | 1=> .ret | _=> .exit 0
 tags:= [0,1,2]
 lt:=sI
 fuel:=fun(y0,y1,y2)=>y0.natAbs + y1.natAbs + y2.length
 fix:=fun(_,y1,y2) (y0,_,_)=>(y0,y1,y2)
 σ:= [(0,0)]
 rd:=FA
theorem UZ:LoopOk prog (fun k=>Nat.blt k Tryz.f88.ntmps) bN.F (aL f88 0):=by
 refine Lp.ok (tbl:= [fI]) (lf:= [bE.F]) aM bN (by kernel_rfl) (LOk.allT (l:= [acO (aL f88 0) 0]) (by kernel_rfl) (.cons SQ (.nil _))) (fun _=>rfl) (fun j _=>by unfold bN;match j with | 0=>rfl | 1=>rfl | _ + 2=>rfl) ?_ ?_ ?_ ?_ (fun _=>rfl) ?_
 ·rintro⟨y0,y1,y2⟩;kernel_rfl
 ·rintro⟨y0,y1,y2⟩;kernel_rfl
 ·intro s x h
  have h:FA s=some x:=h
  unfold FA at h
  repeat' split at h
  all_goals cases h
  exact⟨aa (by assumption) rfl (aa (by assumption) rfl (aa (by assumption) rfl (rfl))),ab rfl (by assumption) rfl (rfl)⟩
 ·rintro⟨y0,y1,y2⟩;kernel_rfl
 ·rintro⟨y0,y1,y2⟩ z;exact(And.intro (And.intro trivial (And.intro trivial rfl)) trivial)
section
variable (x0:Int)(x1:List (Int×Int×Int))
def wM:Int×Int×List (Int×Int×Int):=((0:Int),x0,x1)
def Lv:Bool:=bif Nat.beq ((Lp.res bN (wM x0 x1)).1) (0:Nat)then false else bif Nat.beq ((Lp.res bN (wM x0 x1)).1) (1:Nat)then false else bif aT x0 (1:Int) (12:Int)then leI (↑x1.length:Int) (8:Int)else false
def Lw:Bool:=allT [Lp.fin bN (wM x0 x1)]
end
def SC:List SV→List Entry→Option Out
 | [.one ⟨false,[.val (.int .i64 x0)]⟩,.one ⟨false,[.ref 0]⟩],[.row false 100 (.pair (.int .i64) (.pair (.int .i64) (.int .i64))) x1]=>some ⟨.one ⟨false,[.val (.bool (Lv x0 x1))]⟩,[.row false 100 acG x1],[],[Lw x0 x1]⟩
 |_,_=>none
def ac5:PF prog:=PF.ofG prog [fI] [bN.F] aM 88 f88 func88 (LOk.fnT (l:= [aL f88 0]) (by kernel_rfl) (.cons UZ (.nil _))) SC (by
 intro vs es r h;unfold SC at h;split at h
 ·cases h;kernel_rfl
 ·cases h)
def QI(x0:Int):Bool:=aT x0 (0:Int) (5:Int)
def abU:List SV→List Entry→Option Out
 | [.one ⟨false,[.val (.int .i64 x0)]⟩],[]=>some ⟨.one ⟨false,[.val (.bool (QI x0))]⟩,[],[],[]⟩
 |_,_=>none
def ac9:PF prog:=PF.ofG prog [fI] [] aM 89 f89 func89 (fun c _=>LOk.nil c) abU (by
 intro vs es r h;unfold abU at h;split at h
 ·cases h;kernel_rfl
 ·cases h)
abbrev ny:=Int×List (Int×Int)
section
variable (y0:Int)(y1:List (Int×Int))
def zO:Int×Int:=Option.getD y1[Int.toNat y0]? ((0:Int),(0:Int))
def sg:Bool:= !aT ((zO y0 y1).1) (1:Int) (366:Int)
def BW:Bool:=ltI y0 (↑y1.length:Int)
def GR:Bool:=leI (0:Int) y0
def GS:Bool:=ltN y0.toNat y1.length
def GU:Bool:= !(!sg y0 y1&&true)||leI (0:Int) y0
def GV:Bool:= !(!sg y0 y1&&true)||ltI y0 (↑y1.length:Int)
def GW:Bool:= !(!sg y0 y1&&true)||ltN y0.toNat y1.length
def GX:Bool:=bif sg y0 y1 then true else !aT ((zO y0 y1).2) (0:Int) (100000:Int)
def GY:Int:=IntKind.wrap .i64 (y0 + (1:Int))
end
def af3:ny→List (Nat×SV)
 |(y0,_)=> [(3,(.one ⟨false,[.val (.int .i64 y0)]⟩)),(0,(.one ⟨false,[.ref 0]⟩))]
def afU:ny→List (Nat×Entry)
 |(_,y1)=> [(0,(.row false 173 acH y1))]
def agm:Nat→ny→List (Nat×SV)
 |0,(_,_)=> [(2,(.one ⟨false,[.val (.bool false)]⟩))]
 |_,(_,_)=> []
def agc:Nat→ny→List (Nat×Entry)
 |0,(_,y1)=> [(0,(.row false 173 acH y1))]
 |_,(_,y1)=> [(0,(.row false 173 acH y1))]
def Eo:ny→LT ny
 |(y0,y1)=> .ite (BW y0 y1) (.need [GR y0,BW y0 y1,GS y0 y1,GU y0 y1,GV y0 y1,GW y0 y1] (.ite (GX y0 y1) (.ext 0 [(0,0)]) (.nrm ((GY y0),y1) [(0,0)]))) (.ext 1 [(0,0)])
def Qc(s:St):Option ny:=
 (match s.look 3 with
 |some ⟨none,.one ⟨false,[.val (.int .i64 y0)]⟩⟩=>
 (match s.look 0 with
 |some ⟨none,.one ⟨false,[.ref 0]⟩⟩=>
 (match s.ent 0 with
 |some (.row false 173 (.pair (.int .i64) (.int .i64)) y1)=>
 some (y0,y1)
 |_=>none)
 |_=>none)
 |_=>none)
def gf:Lp ny where
 h:=⟨[4,5,6,7,10,11,12,13,14,15,16,17,18,19,20,21,22,23,24,25,2,8,9,3],[0],[],[]⟩
 JL:=af3
 JE:=afU
 XL:=agm
 XE:=agc
 q:=fun j=>match j with | 0=> .ret | _=> .exit 0
 tags:= [0,1]
 lt:=Eo
 fuel:=fun(y0,y1)=>y0.natAbs + y1.length
 fix:=fun(_,y1) (y0,_)=>(y0,y1)
 σ:= [(0,0)]
 rd:=Qc
theorem ad4:LoopOk prog (fun k=>Nat.blt k Tryz.f90.ntmps) gf.F (aL f90 0):=by
 refine Lp.ok (tbl:= [fI]) (lf:= []) aM gf (by kernel_rfl) (LOk.nil _) (fun _=>rfl) (fun j _=>by unfold gf;match j with | 0=>rfl | _ + 1=>rfl) ?_ ?_ ?_ ?_ (fun _=>rfl) ?_
 ·rintro⟨y0,y1⟩;kernel_rfl
 ·rintro⟨y0,y1⟩;kernel_rfl
 ·intro s x h
  have h:Qc s=some x:=h
  unfold Qc at h
  repeat' split at h
  all_goals cases h
  exact⟨aa (by assumption) rfl (aa (by assumption) rfl (rfl)),ab rfl (by assumption) rfl (rfl)⟩
 ·rintro⟨y0,y1⟩;kernel_rfl
 ·rintro⟨y0,y1⟩ z;exact(And.intro (And.intro trivial rfl) trivial)
def Yu(x0:List (Int×Int)):Bool:=bif Nat.beq ((Lp.res gf ((0:Int),x0)).1) (0:Nat)then false else leI (↑x0.length:Int) (12:Int)
def Yv(x0:List (Int×Int)):Bool:=allT [Lp.fin gf ((0:Int),x0)]
def aem:List SV→List Entry→Option Out
 | [.one ⟨false,[.ref 0]⟩],[.row false 173 (.pair (.int .i64) (.int .i64)) x0]=>some ⟨.one ⟨false,[.val (.bool (Yu x0))]⟩,[.row false 173 acH x0],[],[Yv x0]⟩
 |_,_=>none
def akN:PF prog:=PF.ofG prog [fI] [gf.F] aM 90 f90 func90 (LOk.fnT (l:= [aL f90 0]) (by kernel_rfl) (.cons ad4 (.nil _))) aem (by
 intro vs es r h;unfold aem at h;split at h
 ·cases h;kernel_rfl
 ·cases h)
def QM(x0 x1:Int):Bool:=bif aT x0 (0:Int) (23:Int)then aT x1 (1:Int) (999:Int)else false
def ab0:List SV→List Entry→Option Out
 | [.one ⟨false,[.val (.int .i64 x0)]⟩,.one ⟨false,[.val (.int .i64 x1)]⟩],[]=>some ⟨.one ⟨false,[.val (.bool (QM x0 x1))]⟩,[],[],[]⟩
 |_,_=>none
def ada:PF prog:=PF.ofG prog [fI] [] aM 173 f173 func173 (fun c _=>LOk.nil c) ab0 (by
 intro vs es r h;unfold ab0 at h;split at h
 ·cases h;kernel_rfl
 ·cases h)
abbrev mh:=Int×Int×Int×List (Int×Int)
section
variable (y0 y1 y2:Int)(y3:List (Int×Int))
def tq:Int×Int:=Option.getD y3[Int.toNat y0]? ((0:Int),(0:Int))
def tt:Bool:= !((tq y0 y3).1==y1&&true)
def Af:Bool:=ltI y0 (↑y3.length:Int)
def ES:Bool:=leI (0:Int) y0
def ET:Bool:=ltN y0.toNat y3.length
def EU:Bool:=tt y0 y1 y3||leI (0:Int) y0
def EV:Bool:=tt y0 y1 y3||ltI y0 (↑y3.length:Int)
def EW:Bool:=tt y0 y1 y3||ltN y0.toNat y3.length
def EX:Bool:=bif (tq y0 y3).1==y1 then (tq y0 y3).2==y2 else false
def EY:Int:=IntKind.wrap .i64 (y0 + (1:Int))
end
def ae3:mh→List (Nat×SV)
 |(y0,y1,y2,_)=> [(7,(.one ⟨false,[.val (.int .i64 y0)]⟩)),(0,(.one ⟨false,[.ref 0]⟩)),(1,(.one ⟨false,[.val (.int .i64 y1)]⟩)),(2,(.one ⟨false,[.val (.int .i64 y2)]⟩))]
def aeW:mh→List (Nat×Entry)
 |(_,_,_,y3)=> [(0,(.row false 176 acH y3))]
def afh:Nat→mh→List (Nat×SV)
 |0,(y0,_,_,_)=> [(6,(.one ⟨false,[.val (.int .i64 y0)]⟩))]
 |_,(_,_,_,_)=> []
def afa:Nat→mh→List (Nat×Entry)
 |0,(_,_,_,y3)=> [(0,(.row false 176 acH y3))]
 |_,(_,_,_,y3)=> [(0,(.row false 176 acH y3))]
def CX:mh→LT mh
 |(y0,y1,y2,y3)=> .ite (Af y0 y3) (.need [ES y0,Af y0 y3,ET y0 y3,EU y0 y1 y3,EV y0 y1 y3,EW y0 y1 y3] (.ite (EX y0 y1 y2 y3) (.ext 0 [(0,0)]) (.nrm ((EY y0),y1,y2,y3) [(0,0)]))) (.ext 1 [(0,0)])
def Ol(s:St):Option mh:=
 (match s.look 7 with
 |some ⟨none,.one ⟨false,[.val (.int .i64 y0)]⟩⟩=>
 (match s.look 0 with
 |some ⟨none,.one ⟨false,[.ref 0]⟩⟩=>
 (match s.look 1 with
 |some ⟨none,.one ⟨false,[.val (.int .i64 y1)]⟩⟩=>
 (match s.look 2 with
 |some ⟨none,.one ⟨false,[.val (.int .i64 y2)]⟩⟩=>
 (match s.ent 0 with
 |some (.row false 176 (.pair (.int .i64) (.int .i64)) y3)=>
 some (y0,y1,y2,y3)
 |_=>none)
 |_=>none)
 |_=>none)
 |_=>none)
 |_=>none)
def dO:Lp mh where
 h:=⟨[8,9,10,11,14,15,16,17,18,19,20,21,22,23,24,25,26,27,28,29,30,6,12,13,7],[0],[],[]⟩
 JL:=ae3
 JE:=aeW
 XL:=afh
 XE:=afa
 q:=fun j=>match j with | 0=> .ret | _=> .exit 0
 tags:= [0,1]
 lt:=CX
 fuel:=fun(y0,y1,y2,y3)=>y0.natAbs + y1.natAbs + y2.natAbs + y3.length
 fix:=fun(_,y1,y2,y3) (y0,_,_,_)=>(y0,y1,y2,y3)
 σ:= [(0,0)]
 rd:=Ol
theorem acU:LoopOk prog (fun k=>Nat.blt k Tryz.f174.ntmps) dO.F (aL f174 0):=by
 refine Lp.ok (tbl:= []) (lf:= []) aM dO (by kernel_rfl) (LOk.nil _) (fun _=>rfl) (fun j _=>by unfold dO;match j with | 0=>rfl | _ + 1=>rfl) ?_ ?_ ?_ ?_ (fun _=>rfl) ?_
 ·rintro⟨y0,y1,y2,y3⟩;kernel_rfl
 ·rintro⟨y0,y1,y2,y3⟩;kernel_rfl
 ·intro s x h
  have h:Ol s=some x:=h
  unfold Ol at h
  repeat' split at h
  all_goals cases h
  exact⟨aa (by assumption) rfl (aa (by assumption) rfl (aa (by assumption) rfl (aa (by assumption) rfl (rfl)))),ab rfl (by assumption) rfl (rfl)⟩
 ·rintro⟨y0,y1,y2,y3⟩;kernel_rfl
 ·rintro⟨y0,y1,y2,y3⟩ z;exact(And.intro (And.intro trivial rfl) trivial)
section
variable (x0 x1:Int)(x2:List (Int×Int))
def NQ:Int×Int×Int×List (Int×Int):=((0:Int),x0,x1,x2)
def Hr:Int:=bif Nat.beq ((Lp.res dO (NQ x0 x1 x2)).1) (0:Nat)then ((Lp.res dO (NQ x0 x1 x2)).2).1else(-1:Int)
def QL:Bool:=allT [Lp.fin dO (NQ x0 x1 x2)]
end
def abZ:List SV→List Entry→Option Out
 | [.one ⟨false,[.ref 0]⟩,.one ⟨false,[.val (.int .i64 x0)]⟩,.one ⟨false,[.val (.int .i64 x1)]⟩],[.row false 176 (.pair (.int .i64) (.int .i64)) x2]=>some ⟨.one ⟨false,[.val (.int .i64 (Hr x0 x1 x2))]⟩,[.row false 176 acH x2],[],[QL x0 x1 x2]⟩
 |_,_=>none
def GI:PF prog:=PF.ofG prog [] [dO.F] aM 174 f174 func174 (LOk.fnT (l:= [aL f174 0]) (by kernel_rfl) (.cons acU (.nil _))) abZ (by
 intro vs es r h;unfold abZ at h;split at h
 ·cases h;kernel_rfl
 ·cases h)
abbrev pK:=Int×List (Int×Int)
section
variable (y0:Int)(y1:List (Int×Int))
def nS:Int×Int:=Option.getD y1[Int.toNat y0]? ((0:Int),(0:Int))
def rY:Bool:= !QM ((nS y0 y1).1) ((nS y0 y1).2)
def xf:Bool:=ltI y0 (↑y1.length:Int)
def On:Bool:=leI (0:Int) y0
def Oo:Bool:=ltN y0.toNat y1.length
def Oq:Bool:= !(!rY y0 y1&&true)||leI (0:Int) y0
def Ot:Bool:= !(!rY y0 y1&&true)||ltI y0 (↑y1.length:Int)
def Ou:Bool:= !(!rY y0 y1&&true)||ltN y0.toNat y1.length
def VA:Bool:= !(!rY y0 y1&&true)||QL ((nS y0 y1).1) ((nS y0 y1).2) y1
def VB:Bool:=bif rY y0 y1 then true else Hr ((nS y0 y1).1) ((nS y0 y1).2) y1 !=y0
def VC:Int:=IntKind.wrap .i64 (y0 + (1:Int))
end
def adL:pK→List (Nat×SV)
 |(y0,_)=> [(3,(.one ⟨false,[.val (.int .i64 y0)]⟩)),(0,(.one ⟨false,[.ref 0]⟩))]
def adE:pK→List (Nat×Entry)
 |(_,y1)=> [(0,(.row false 176 acH y1))]
def adZ:Nat→pK→List (Nat×SV)
 |0,(_,_)=> [(2,(.one ⟨false,[.val (.bool false)]⟩))]
 |_,(_,_)=> []
def adS:Nat→pK→List (Nat×Entry)
 |0,(_,y1)=> [(0,(.row false 176 acH y1))]
 |_,(_,y1)=> [(0,(.row false 176 acH y1))]
def AK:pK→LT pK
 |(y0,y1)=> .ite (xf y0 y1) (.need [On y0,xf y0 y1,Oo y0 y1,On y0,xf y0 y1,Oo y0 y1,Oq y0 y1,Ot y0 y1,Ou y0 y1,Oq y0 y1,Ot y0 y1,Ou y0 y1,VA y0 y1] (.ite (VB y0 y1) (.ext 0 [(0,0)]) (.nrm ((VC y0),y1) [(0,0)]))) (.ext 1 [(0,0)])
def MJ(s:St):Option pK:=
 (match s.look 3 with
 |some ⟨none,.one ⟨false,[.val (.int .i64 y0)]⟩⟩=>
 (match s.look 0 with
 |some ⟨none,.one ⟨false,[.ref 0]⟩⟩=>
 (match s.ent 0 with
 |some (.row false 176 (.pair (.int .i64) (.int .i64)) y1)=>
 some (y0,y1)
 |_=>none)
 |_=>none)
 |_=>none)
def dT:Lp pK where
 h:=⟨[4,5,6,7,10,11,12,13,14,15,16,17,18,19,20,21,22,23,24,25,26,27,28,29,30,31,32,33,34,35,36,37,2,8,9,3],[0],[],[]⟩
 JL:=adL
 JE:=adE
 XL:=adZ
 XE:=adS
 q:=fun j=>match j with | 0=> .ret | _=> .exit 0
 tags:= [0,1]
 lt:=AK
 fuel:=fun(y0,y1)=>y0.natAbs + y1.length
 fix:=fun(_,y1) (y0,_)=>(y0,y1)
 σ:= [(0,0)]
 rd:=MJ
theorem abC:LoopOk prog (fun k=>Nat.blt k Tryz.f91.ntmps) dT.F (aL f91 0):=by
 refine Lp.ok (tbl:= [ada,GI,PF.lend GI,PF.fz GI]) (lf:= []) aM dT (by kernel_rfl) (LOk.nil _) (fun _=>rfl) (fun j _=>by unfold dT;match j with | 0=>rfl | _ + 1=>rfl) ?_ ?_ ?_ ?_ (fun _=>rfl) ?_
 ·rintro⟨y0,y1⟩;kernel_rfl
 ·rintro⟨y0,y1⟩;kernel_rfl
 ·intro s x h
  have h:MJ s=some x:=h
  unfold MJ at h
  repeat' split at h
  all_goals cases h
  exact⟨aa (by assumption) rfl (aa (by assumption) rfl (rfl)),ab rfl (by assumption) rfl (rfl)⟩
 ·rintro⟨y0,y1⟩;kernel_rfl
 ·rintro⟨y0,y1⟩ z;exact(And.intro (And.intro trivial rfl) trivial)
def Ty(x0:List (Int×Int)):Bool:=bif Nat.beq ((Lp.res dT ((0:Int),x0)).1) (0:Nat)then false else leI (↑x0.length:Int) (8:Int)
def Tz(x0:List (Int×Int)):Bool:=allT [Lp.fin dT ((0:Int),x0)]
def aaW:List SV→List Entry→Option Out
 | [.one ⟨false,[.ref 0]⟩],[.row false 176 (.pair (.int .i64) (.int .i64)) x0]=>some ⟨.one ⟨false,[.val (.bool (Ty x0))]⟩,[.row false 176 acH x0],[],[Tz x0]⟩
 |_,_=>none
def ai2:PF prog:=PF.ofG prog [ada,GI,PF.lend GI,PF.fz GI] [dT.F] aM 91 f91 func91 (LOk.fnT (l:= [aL f91 0]) (by kernel_rfl) (.cons abC (.nil _))) aaW (by
 intro vs es r h;unfold aaW at h;split at h
 ·cases h;kernel_rfl
 ·cases h)
def aav(x0:Int):Bool:= !bm x0 (0:Int) (2:Int)
def Pq:List SV→List Entry→Option Out
 | [.one ⟨false,[.val (.int .i64 x0)]⟩],[]=>some ⟨.one ⟨false,[.val (.bool (aav x0))]⟩,[],[],[]⟩
 |_,_=>none
def aaF:PF prog:=PF.ofG prog [gO] [] aM 166 f166 func166 (fun c _=>LOk.nil c) Pq (by
 intro vs es r h;unfold Pq at h;split at h
 ·cases h;kernel_rfl
 ·cases h)
def zM(x0:Int):Bool:=bm x0 (1:Int) (12:Int)
def WF:List SV→List Entry→Option Out
 | [.one ⟨false,[.val (.int .i64 x0)]⟩],[]=>some ⟨.one ⟨false,[.val (.bool (zM x0))]⟩,[],[],[]⟩
 |_,_=>none
def PO:PF prog:=PF.ofG prog [gO] [] aM 70 f70 func70 (fun c _=>LOk.nil c) WF (by
 intro vs es r h;unfold WF at h;split at h
 ·cases h;kernel_rfl
 ·cases h)
def sT(x0:Int):Bool:= !bm x0 (0:Int) (2:Int)
def Jh:List SV→List Entry→Option Out
 | [.one ⟨false,[.val (.int .i64 x0)]⟩],[]=>some ⟨.one ⟨false,[.val (.bool (sT x0))]⟩,[],[],[]⟩
 |_,_=>none
def Jp:PF prog:=PF.ofG prog [gO] [] aM 166 f166 func166 (fun c _=>LOk.nil c) Jh (by
 intro vs es r h;unfold Jh at h;split at h
 ·cases h;kernel_rfl
 ·cases h)
abbrev bj:=Int×Int×List Int
section
variable (y0 y1:Int)(y2:List Int)
def gt:Bool:=ltI y0 y1
def gu:Bool:=leI (0:Int) y0
def gv:Bool:=ltI y0 (↑y2.length:Int)
def gw:Bool:=ltN y0.toNat y2.length
def gx:Bool:=sT (Option.getD y2[Int.toNat y0]? (0:Int))
def gy:Int:=IntKind.wrap .i64 (y0 + (1:Int))
end
def JQ:bj→List (Nat×SV)
 |(y0,y1,_)=> [(8,(.one ⟨false,[.val (.int .i64 y0)]⟩)),(7,(.one ⟨false,[.val (.int .i64 y1)]⟩)),(1,(.one ⟨false,[.val (.func (.func 166) ⟨[]⟩ ⟨[]⟩)]⟩)),(0,(.one ⟨false,[.ref 0]⟩))]
def JO:bj→List (Nat×Entry)
 |(_,_,y2)=> [(0,(.row false 2 aiQ y2))]
def JU:Nat→bj→List (Nat×SV)
 |0,(y0,_,_)=> [(4,(.one ⟨false,[.val (.int .i64 y0)]⟩))]
 |_,(_,_,_)=> []
def JS:Nat→bj→List (Nat×Entry)
 |0,(_,_,y2)=> [(0,(.row false 2 aiQ y2))]
 |_,(_,_,y2)=> [(0,(.row false 2 aiQ y2))]
def fW:bj→LT bj
 |(y0,y1,y2)=> .ite (gt y0 y1) (.need [gu y0,gv y0 y2,gw y0 y2] (.ite (gx y0 y2) (.ext 0 [(0,0)]) (.nrm ((gy y0),y1,y2) [(0,0)]))) (.ext 1 [(0,0)])
def ow(s:St):Option bj:=
 (match s.look 8 with
 |some ⟨none,.one ⟨false,[.val (.int .i64 y0)]⟩⟩=>
 (match s.look 7 with
 |some ⟨none,.one ⟨false,[.val (.int .i64 y1)]⟩⟩=>
 (match s.look 1 with
 |some ⟨none,.one ⟨false,[.val (.func (.func 166) ⟨[]⟩ ⟨[]⟩)]⟩⟩=>
 (match s.look 0 with
 |some ⟨none,.one ⟨false,[.ref 0]⟩⟩=>
 (match s.ent 0 with
 |some (.row false 2 (.int .i64) y2)=>
 some (y0,y1,y2)
 |_=>none)
 |_=>none)
 |_=>none)
 |_=>none)
 |_=>none)
def az:Lp bj where
 h:=⟨[9,10,5,11,12,13,14,15,16,17,4,18,8],[0],[],[]⟩
 JL:=JQ
 JE:=JO
 XL:=JU
 XE:=JS
 q:=fun j=>match j with | 0=> .ret | _=> .exit 0
 tags:= [0,1]
 lt:=fW
 fuel:=fun(y0,y1,y2)=>y0.natAbs + y1.natAbs + y2.length
 fix:=fun(_,y1,y2) (y0,_,_)=>(y0,y1,y2)
 σ:= [(0,0)]
 rd:=ow
theorem Iw:LoopOk prog (fun k=>Nat.blt k Tryz.f211.ntmps) az.F (aL f211 0):=by
 refine Lp.ok (tbl:= [Jp]) (lf:= []) aM az (by kernel_rfl) (LOk.nil _) (fun _=>rfl) (fun j _=>by unfold az;match j with | 0=>rfl | _ + 1=>rfl) ?_ ?_ ?_ ?_ (fun _=>rfl) ?_
 ·rintro⟨y0,y1,y2⟩;kernel_rfl
 ·rintro⟨y0,y1,y2⟩;kernel_rfl
 ·intro s x h
  have h:ow s=some x:=h
  unfold ow at h
  repeat' split at h
  all_goals cases h
  exact⟨aa (by assumption) rfl (aa (by assumption) rfl (aa (by assumption) rfl (aa (by assumption) rfl (rfl)))),ab rfl (by assumption) rfl (rfl)⟩
 ·rintro⟨y0,y1,y2⟩;kernel_rfl
 ·rintro⟨y0,y1,y2⟩ z;exact(And.intro (And.intro trivial rfl) trivial)
section
variable (x0:List Int)
def kR:Int×Int×List Int:=((0:Int),(↑x0.length:Int),x0)
def rU:Int:=bif Nat.beq ((Lp.res az (kR x0)).1) (0:Nat)then ((Lp.res az (kR x0)).2).1else(-1:Int)
def rV:Bool:=allT [Lp.fin az (kR x0)]
end
def Az:List SV→List Entry→Option Out
 | [.one ⟨false,[.ref 0]⟩,.one ⟨false,[.val (.func (.func 166) ⟨[]⟩ ⟨[]⟩)]⟩],[.row false 2 (.int .i64) x0]=>some ⟨.one ⟨false,[.val (.int .i64 (rU x0))]⟩,[.row false 2 aiQ x0],[],[rV x0]⟩
 |_,_=>none
def rS:PF prog:=PF.ofG prog [Jp] [az.F] aM 211 f211 func211 (LOk.fnT (l:= [aL f211 0]) (by kernel_rfl) (.cons Iw (.nil _))) Az (by
 intro vs es r h;unfold Az at h;split at h
 ·cases h;kernel_rfl
 ·cases h)
def pv(x0:List Int):Bool:=leI (0:Int) (rU x0)
def pw(x0:List Int):Bool:=allT [rV x0]
def xD:List SV→List Entry→Option Out
 | [.one ⟨false,[.ref 0]⟩,.one ⟨false,[.val (.func (.func 166) ⟨[]⟩ ⟨[]⟩)]⟩],[.row false 2 (.int .i64) x0]=>some ⟨.one ⟨false,[.val (.bool (pv x0))]⟩,[.row false 2 aiQ x0],[],[pw x0]⟩
 |_,_=>none
def pq:PF prog:=PF.ofG prog [rS,PF.lend rS,PF.fz rS] [] aM 158 f158 func158 (fun c _=>LOk.nil c) xD (by
 intro vs es r h;unfold xD at h;split at h
 ·cases h;kernel_rfl
 ·cases h)
def Lk(x0:List Int):Bool:=bif zM (dd x0)then !pv x0 else false
def Ll(x0:List Int):Bool:=allT [!(zM (dd x0)&&true)||pw x0]
def SA:List SV→List Entry→Option Out
 | [.one ⟨false,[.ref 0]⟩],[.row false 2 (.int .i64) x0]=>some ⟨.one ⟨false,[.val (.bool (Lk x0))]⟩,[.row false 2 aiQ x0],[],[Ll x0]⟩
 |_,_=>none
def ac4:PF prog:=PF.ofG prog [aaF,PO,aQ,PF.lend aQ,PF.fz aQ,pq,PF.lend pq,PF.fz pq] [] aM 77 f77 func77 (fun c _=>LOk.nil c) SA (by
 intro vs es r h;unfold SA at h;split at h
 ·cases h;kernel_rfl
 ·cases h)
def sS(x0 x1 x3 x4:Int):Bool:=bif x0==x3 then x1==x4 else false
def sR:List SV→List Entry→Option Out
 | [.one ⟨true,[.val (.int .i64 x0),.val (.int .i64 x1),.val (.int .i64 _x2)]⟩,.one ⟨false,[.ptr 0 0]⟩],[.box 100 [.val (.int .i64 x3),.val (.int .i64 x4),.val (.int .i64 x5)]]=>some ⟨.one ⟨false,[.val (.bool (sS x0 x1 x3 x4))]⟩,[.box 100 [.val (.int .i64 x3),.val (.int .i64 x4),.val (.int .i64 x5)]],[],[]⟩
 |_,_=>none
def Jo:PF prog:=PF.kept (PF.ofG prog [] [] aM 168 f168 func168 (fun c _=>LOk.nil c) sR (by
 intro vs es r h;unfold sR at h;split at h
 ·cases h;kernel_rfl
 ·cases h)) [0] (by
 intro vs es r h;have h:sR vs es=some r:=h;unfold sR at h;split at h
 ·cases h;exact List.forall_mem_cons.2 ⟨rfl,fun _ h=>(by cases h)⟩
 ·cases h)
abbrev aY:=Int×Int×Int×Int×Int×List (Int×(Int×Int))
section
variable (y0 y1 y2 y3:Int)(y5:List (Int×(Int×Int)))
def cI:Int×Int×Int:=Option.getD y5[Int.toNat y0]? ((0:Int),(0:Int),(0:Int))
def eP:Bool:=ltI y0 y1
def eQ:Bool:=leI (0:Int) y0
def eR:Bool:=ltI y0 (↑y5.length:Int)
def eS:Bool:=ltN y0.toNat y5.length
def eT:Bool:=sS ((cI y0 y5).1) (((cI y0 y5).2).1) y2 y3
def eU:Int:=IntKind.wrap .i64 (y0 + (1:Int))
end
def HW:aY→List (Nat×SV)
 |(y0,y1,_,_,_,_)=> [(8,(.one ⟨false,[.val (.int .i64 y0)]⟩)),(7,(.one ⟨false,[.val (.int .i64 y1)]⟩)),(1,(.one ⟨false,[.clo 168 [0]]⟩)),(0,(.one ⟨false,[.ref 1]⟩))]
def HU:aY→List (Nat×Entry)
 |(_,_,y2,y3,y4,y5)=> [(0,(.box 100 [.val (.int .i64 y2),.val (.int .i64 y3),.val (.int .i64 y4)])),(1,(.row false 100 acG y5))]
def Ia:Nat→aY→List (Nat×SV)
 |0,(y0,_,_,_,_,_)=> [(4,(.one ⟨false,[.val (.int .i64 y0)]⟩))]
 |_,(_,_,_,_,_,_)=> []
def HY:Nat→aY→List (Nat×Entry)
 |0,(_,_,y2,y3,y4,y5)=> [(0,(.box 100 [.val (.int .i64 y2),.val (.int .i64 y3),.val (.int .i64 y4)])),(1,(.row false 100 acG y5))]
 |_,(_,_,y2,y3,y4,y5)=> [(0,(.box 100 [.val (.int .i64 y2),.val (.int .i64 y3),.val (.int .i64 y4)])),(1,(.row false 100 acG y5))]
def eq:aY→LT aY
 |(y0,y1,y2,y3,y4,y5)=> .ite (eP y0 y1) (.need [eQ y0,eR y0 y5,eS y0 y5] (.ite (eT y0 y2 y3 y5) (.ext 0 [(0,0),(1,1)]) (.nrm ((eU y0),y1,y2,y3,y4,y5) [(0,0),(1,1)]))) (.ext 1 [(0,0),(1,1)])
def mv(s:St):Option aY:=
 (match s.look 8 with
 |some ⟨none,.one ⟨false,[.val (.int .i64 y0)]⟩⟩=>
 (match s.look 7 with
 |some ⟨none,.one ⟨false,[.val (.int .i64 y1)]⟩⟩=>
 (match s.look 1 with
 |some ⟨none,.one ⟨false,[.clo 168 [1]]⟩⟩=>
 (match s.look 0 with
 |some ⟨none,.one ⟨false,[.ref 0]⟩⟩=>
 (match s.ent 1 with
 |some (.box 100 [.val (.int .i64 y2),.val (.int .i64 y3),.val (.int .i64 y4)])=>
 (match s.ent 0 with
 |some (.row false 100 (.pair (.int .i64) (.pair (.int .i64) (.int .i64))) y5)=>
 some (y0,y1,y2,y3,y4,y5)
 |_=>none)
 |_=>none)
 |_=>none)
 |_=>none)
 |_=>none)
 |_=>none)
def am:Lp aY where
 h:=⟨[9,10,5,11,12,13,14,15,16,17,4,18,8],[0,1],[],[]⟩
 JL:=HW
 JE:=HU
 XL:=Ia
 XE:=HY
 q:=fun j=>match j with | 0=> .ret | _=> .exit 0
 tags:= [0,1]
 lt:=eq
 fuel:=fun(y0,y1,y2,y3,y4,y5)=>y0.natAbs + y1.natAbs + y2.natAbs + y3.natAbs + y4.natAbs + y5.length
 fix:=fun(_,y1,y2,y3,y4,y5) (y0,_,_,_,_,_)=>(y0,y1,y2,y3,y4,y5)
 σ:= [(0,1),(1,0)]
 rd:=mv
theorem Gh:LoopOk prog (fun k=>Nat.blt k Tryz.f216.ntmps) am.F (aL f216 0):=by
 refine Lp.ok (tbl:= [Jo]) (lf:= []) aM am (by kernel_rfl) (LOk.nil _) (fun _=>rfl) (fun j _=>by unfold am;match j with | 0=>rfl | _ + 1=>rfl) ?_ ?_ ?_ ?_ (fun _=>rfl) ?_
 ·rintro⟨y0,y1,y2,y3,y4,y5⟩;kernel_rfl
 ·rintro⟨y0,y1,y2,y3,y4,y5⟩;kernel_rfl
 ·intro s x h
  have h:mv s=some x:=h
  unfold mv at h
  repeat' split at h
  all_goals cases h
  exact⟨aa (by assumption) rfl (aa (by assumption) rfl (aa (by assumption) rfl (aa (by assumption) rfl (rfl)))),ab rfl (by assumption) rfl (ab rfl (by assumption) rfl (rfl))⟩
 ·rintro⟨y0,y1,y2,y3,y4,y5⟩;kernel_rfl
 ·rintro⟨y0,y1,y2,y3,y4,y5⟩ z;exact(And.intro (And.intro trivial rfl) trivial)
section
variable (x0:List (Int×Int×Int))(x1 x2 x3:Int)
def fY:Int×Int×Int×Int×Int×List (Int×Int×Int):=((0:Int),(↑x0.length:Int),x1,x2,x3,x0)
def dA:Bool:=Nat.beq ((Lp.res am (fY x0 x1 x2 x3)).1) (0:Nat)
def jO:Int:=bif dA x0 x1 x2 x3 then ((Lp.res am (fY x0 x1 x2 x3)).2).1else(-1:Int)
def jP:Int:=bif dA x0 x1 x2 x3 then x1 else x1
def jQ:Int:=bif dA x0 x1 x2 x3 then x2 else x2
def jR:Int:=bif dA x0 x1 x2 x3 then x3 else x3
def jS:Bool:=allT [Lp.fin am (fY x0 x1 x2 x3)]
end
def xF:List SV→List Entry→Option Out
 | [.one ⟨false,[.ref 0]⟩,.one ⟨false,[.clo 168 [1]]⟩],[.row false 100 (.pair (.int .i64) (.pair (.int .i64) (.int .i64))) x0,.box 100 [.val (.int .i64 x1),.val (.int .i64 x2),.val (.int .i64 x3)]]=>some ⟨.one ⟨false,[.val (.int .i64 (jO x0 x1 x2 x3))]⟩,[.row false 100 acG x0,.box 100 [.val (.int .i64 (jP x0 x1 x2 x3)),.val (.int .i64 (jQ x0 x1 x2 x3)),.val (.int .i64 (jR x0 x1 x2 x3))]],[],[jS x0 x1 x2 x3]⟩
 |_,_=>none
def pu:PF prog:=PF.ofG prog [Jo] [am.F] aM 216 f216 func216 (LOk.fnT (l:= [aL f216 0]) (by kernel_rfl) (.cons Gh (.nil _))) xF (by
 intro vs es r h;unfold xF at h;split at h
 ·cases h;kernel_rfl
 ·cases h)
section
variable (x0:List (Int×Int×Int))(x1 x2 x3:Int)
def eN:Bool:=leI (0:Int) (jO x0 x1 x2 x3)
def mP:Int:=jP x0 x1 x2 x3
def mQ:Int:=jQ x0 x1 x2 x3
def mR:Int:=jR x0 x1 x2 x3
def eO:Bool:=allT [jS x0 x1 x2 x3]
end
def uI:List SV→List Entry→Option Out
 | [.one ⟨false,[.ref 0]⟩,.one ⟨false,[.clo 168 [1]]⟩],[.row false 100 (.pair (.int .i64) (.pair (.int .i64) (.int .i64))) x0,.box 100 [.val (.int .i64 x1),.val (.int .i64 x2),.val (.int .i64 x3)]]=>some ⟨.one ⟨false,[.val (.bool (eN x0 x1 x2 x3))]⟩,[.row false 100 acG x0,.box 100 [.val (.int .i64 (mP x0 x1 x2 x3)),.val (.int .i64 (mQ x0 x1 x2 x3)),.val (.int .i64 (mR x0 x1 x2 x3))]],[],[eO x0 x1 x2 x3]⟩
 |_,_=>none
def cT:PF prog:=PF.ofG prog [pu,PF.lend pu,PF.fz pu] [] aM 167 f167 func167 (fun c _=>LOk.nil c) uI (by
 intro vs es r h;unfold uI at h;split at h
 ·cases h;kernel_rfl
 ·cases h)
abbrev jC:=Int×Int×Int×List (Int×(Int×Int))
section
variable (y0 y1 y2:Int)(y3:List (Int×(Int×Int)))
def ey:Int×Int×Int:=Option.getD y3[Int.toNat y0]? ((0:Int),(0:Int),(0:Int))
def Nb:List (Int×Int×Int):=List.drop (Int.toNat (0:Int)) (List.take y0.toNat y3)
def zL:Bool:=ltI y0 y1
def Gz:Bool:=leI (0:Int) y0
def OD:Bool:=ltI y0 (↑y3.length:Int)
def OE:Bool:=ltN y0.toNat y3.length
def GA:Bool:=bif bif !bm ((ey y0 y3).1) (0:Int) (IntKind.wrap .i64 (y2 - (1:Int)))then true else !bm (((ey y0 y3).2).1) (0:Int) (1:Int)then true else !bm ((ey y0 y3).2.2) (0:Int) (1:Int)
end
def OG:Bool:=leI (0:Int) (0:Int)
section
variable (y0:Int)(y3:List (Int×(Int×Int)))
def OH:Bool:=leI y0 (↑y3.length:Int)
def OI:Bool:=eO (Nb y0 y3) ((ey y0 y3).1) (((ey y0 y3).2).1) ((ey y0 y3).2.2)
def OJ:Bool:=eN (Nb y0 y3) ((ey y0 y3).1) (((ey y0 y3).2).1) ((ey y0 y3).2.2)
def OK:Int:=IntKind.wrap .i64 (y0 + (1:Int))
end
def XB:jC→List (Nat×SV)
 |(y0,y1,y2,_)=> [(9,(.one ⟨false,[.val (.int .i64 y0)]⟩)),(8,(.one ⟨false,[.val (.int .i64 y1)]⟩)),(7,(.one ⟨false,[.ref 0]⟩)),(0,(.one ⟨false,[.val (.int .i64 y2)]⟩)),(1,(.one ⟨false,[.ref 0]⟩))]
def Xu:jC→List (Nat×Entry)
 |(_,_,_,y3)=> [(0,(.row false 100 acG y3))]
def XR:Nat→jC→List (Nat×SV)
 |0,(_,_,_,_)=> [(4,(.one ⟨false,[.val (.bool false)]⟩))]
 |1,(_,_,_,_)=> [(4,(.one ⟨false,[.val (.bool false)]⟩))]
 |_,(_,_,_,_)=> []
def XJ:Nat→jC→List (Nat×Entry)
 |0,(_,_,_,y3)=> [(0,(.row false 100 acG y3))]
 |1,(_,_,_,y3)=> [(0,(.row false 100 acG y3))]
 |_,(_,_,_,y3)=> [(0,(.row false 100 acG y3))]
def sH:jC→LT jC
 |(y0,y1,y2,y3)=> .ite (zL y0 y1) (.need [Gz y0,OD y0 y3,OE y0 y3] (.ite (GA y0 y2 y3) (.ext 0 [(0,0)]) (.need [OG,Gz y0,OH y0 y3,OI y0 y3] (.ite (OJ y0 y3) (.ext 1 [(0,0)]) (.nrm ((OK y0),y1,y2,y3) [(0,0)]))))) (.ext 2 [(0,0)])
def Fz(s:St):Option jC:=
 (match s.look 9 with
 |some ⟨none,.one ⟨false,[.val (.int .i64 y0)]⟩⟩=>
 (match s.look 8 with
 |some ⟨none,.one ⟨false,[.val (.int .i64 y1)]⟩⟩=>
 (match s.look 7 with
 |some ⟨none,.one ⟨false,[.ref 0]⟩⟩=>
 (match s.look 0 with
 |some ⟨none,.one ⟨false,[.val (.int .i64 y2)]⟩⟩=>
 (match s.look 1 with
 |some ⟨none,.one ⟨false,[.ref 0]⟩⟩=>
 (match s.ent 0 with
 |some (.row false 100 (.pair (.int .i64) (.pair (.int .i64) (.int .i64))) y3)=>
 some (y0,y1,y2,y3)
 |_=>none)
 |_=>none)
 |_=>none)
 |_=>none)
 |_=>none)
 |_=>none)
def bM:Lp jC where
 h:=⟨[10,11,12,13,6,5,14,15,16,17,18,19,20,21,22,23,24,25,26,27,28,29,30,31,4,32,33,34,35,36,37,9],[0],[],[]⟩
 JL:=XB
 JE:=Xu
 XL:=XR
 XE:=XJ
 q:=fun j=>match j with | 0=> .ret | 1=> .ret | _=> .exit 0
 tags:= [0,1,2]
 lt:=sH
 fuel:=fun(y0,y1,y2,y3)=>y0.natAbs + y1.natAbs + y2.natAbs + y3.length
 fix:=fun(_,y1,y2,y3) (y0,_,_,_)=>(y0,y1,y2,y3)
 σ:= [(0,0)]
 rd:=Fz
theorem UY:LoopOk prog (fun k=>Nat.blt k Tryz.f78.ntmps) bM.F (aL f78 0):=by
 refine Lp.ok (tbl:= [gO,PO,cT,PF.lend cT,PF.fz cT]) (lf:= []) aM bM (by kernel_rfl) (LOk.nil _) (fun _=>rfl) (fun j _=>by unfold bM;match j with | 0=>rfl | 1=>rfl | _ + 2=>rfl) ?_ ?_ ?_ ?_ (fun _=>rfl) ?_
 ·rintro⟨y0,y1,y2,y3⟩;kernel_rfl
 ·rintro⟨y0,y1,y2,y3⟩;kernel_rfl
 ·intro s x h
  have h:Fz s=some x:=h
  unfold Fz at h
  repeat' split at h
  all_goals cases h
  exact⟨aa (by assumption) rfl (aa (by assumption) rfl (aa (by assumption) rfl (aa (by assumption) rfl (aa (by assumption) rfl (rfl))))),ab rfl (by assumption) rfl (rfl)⟩
 ·rintro⟨y0,y1,y2,y3⟩;kernel_rfl
 ·rintro⟨y0,y1,y2,y3⟩ z;exact(And.intro (And.intro trivial (And.intro trivial rfl)) trivial)
section
variable (x0:Int)(x1:List (Int×Int×Int))
def wy:Int×Int×Int×List (Int×Int×Int):=((0:Int),(↑x1.length:Int),x0,x1)
def Li:Bool:=bif Nat.beq ((Lp.res bM (wy x0 x1)).1) (0:Nat)then false else bif Nat.beq ((Lp.res bM (wy x0 x1)).1) (1:Nat)then false else bif zM x0 then leI (↑x1.length:Int) (8:Int)else false
def Lj:Bool:=allT [Lp.fin bM (wy x0 x1)]
end
def Sz:List SV→List Entry→Option Out
 | [.one ⟨false,[.val (.int .i64 x0)]⟩,.one ⟨false,[.ref 0]⟩],[.row false 100 (.pair (.int .i64) (.pair (.int .i64) (.int .i64))) x1]=>some ⟨.one ⟨false,[.val (.bool (Li x0 x1))]⟩,[.row false 100 acG x1],[],[Lj x0 x1]⟩
 |_,_=>none
def ac3:PF prog:=PF.ofG prog [gO,PO,cT,PF.lend cT,PF.fz cT] [bM.F] aM 78 f78 func78 (LOk.fnT (l:= [aL f78 0]) (by kernel_rfl) (.cons UY (.nil _))) Sz (by
 intro vs es r h;unfold Sz at h;split at h
 ·cases h;kernel_rfl
 ·cases h)
def Sq(x0:Int):Bool:=bm x0 (0:Int) (5:Int)
def aej:List SV→List Entry→Option Out
 | [.one ⟨false,[.val (.int .i64 x0)]⟩],[]=>some ⟨.one ⟨false,[.val (.bool (Sq x0))]⟩,[],[],[]⟩
 |_,_=>none
def aeL:PF prog:=PF.ofG prog [gO] [] aM 80 f80 func80 (fun c _=>LOk.nil c) aej (by
 intro vs es r h;unfold aej at h;split at h
 ·cases h;kernel_rfl
 ·cases h)
def xM(x0:Int):Bool:=bm x0 (0:Int) (100000:Int)
def afP:List SV→List Entry→Option Out
 | [.one ⟨false,[.val (.int .i64 x0)]⟩],[]=>some ⟨.one ⟨false,[.val (.bool (xM x0))]⟩,[],[],[]⟩
 |_,_=>none
def PN:PF prog:=PF.ofG prog [gO] [] aM 83 f83 func83 (fun c _=>LOk.nil c) afP (by
 intro vs es r h;unfold afP at h;split at h
 ·cases h;kernel_rfl
 ·cases h)
def aiR(x0 x1:Int):Bool:=bif !bm x0 (1:Int) (366:Int)then true else !xM x1
def aaT:List SV→List Entry→Option Out
 | [.one ⟨true,[.val (.int .i64 x0),.val (.int .i64 x1)]⟩],[]=>some ⟨.one ⟨false,[.val (.bool (aiR x0 x1))]⟩,[],[],[]⟩
 |_,_=>none
def ai0:PF prog:=PF.ofG prog [gO,PN] [] aM 170 f170 func170 (fun c _=>LOk.nil c) aaT (by
 intro vs es r h;unfold aaT at h;split at h
 ·cases h;kernel_rfl
 ·cases h)
def DJ(x0 x1:Int):Bool:=bif !bm x0 (1:Int) (366:Int)then true else !xM x1
def Rh:List SV→List Entry→Option Out
 | [.one ⟨true,[.val (.int .i64 x0),.val (.int .i64 x1)]⟩],[]=>some ⟨.one ⟨false,[.val (.bool (DJ x0 x1))]⟩,[],[],[]⟩
 |_,_=>none
def Rl:PF prog:=PF.ofG prog [gO,PN] [] aM 170 f170 func170 (fun c _=>LOk.nil c) Rh (by
 intro vs es r h;unfold Rh at h;split at h
 ·cases h;kernel_rfl
 ·cases h)
abbrev bu:=Int×Int×List (Int×Int)
section
variable (y0 y1:Int)(y2:List (Int×Int))
def ek:Int×Int:=Option.getD y2[Int.toNat y0]? ((0:Int),(0:Int))
def ig:Bool:=ltI y0 y1
def ii:Bool:=leI (0:Int) y0
def ij:Bool:=ltI y0 (↑y2.length:Int)
def ik:Bool:=ltN y0.toNat y2.length
def il:Bool:=DJ ((ek y0 y2).1) ((ek y0 y2).2)
def im:Int:=IntKind.wrap .i64 (y0 + (1:Int))
end
def La:bu→List (Nat×SV)
 |(y0,y1,_)=> [(8,(.one ⟨false,[.val (.int .i64 y0)]⟩)),(7,(.one ⟨false,[.val (.int .i64 y1)]⟩)),(1,(.one ⟨false,[.val (.func (.func 170) ⟨[]⟩ ⟨[]⟩)]⟩)),(0,(.one ⟨false,[.ref 0]⟩))]
def KZ:bu→List (Nat×Entry)
 |(_,_,y2)=> [(0,(.row false 173 acH y2))]
def Ld:Nat→bu→List (Nat×SV)
 |0,(y0,_,_)=> [(4,(.one ⟨false,[.val (.int .i64 y0)]⟩))]
 |_,(_,_,_)=> []
def Lc:Nat→bu→List (Nat×Entry)
 |0,(_,_,y2)=> [(0,(.row false 173 acH y2))]
 |_,(_,_,y2)=> [(0,(.row false 173 acH y2))]
def gT:bu→LT bu
 |(y0,y1,y2)=> .ite (ig y0 y1) (.need [ii y0,ij y0 y2,ik y0 y2] (.ite (il y0 y2) (.ext 0 [(0,0)]) (.nrm ((im y0),y1,y2) [(0,0)]))) (.ext 1 [(0,0)])
def qe(s:St):Option bu:=
 (match s.look 8 with
 |some ⟨none,.one ⟨false,[.val (.int .i64 y0)]⟩⟩=>
 (match s.look 7 with
 |some ⟨none,.one ⟨false,[.val (.int .i64 y1)]⟩⟩=>
 (match s.look 1 with
 |some ⟨none,.one ⟨false,[.val (.func (.func 170) ⟨[]⟩ ⟨[]⟩)]⟩⟩=>
 (match s.look 0 with
 |some ⟨none,.one ⟨false,[.ref 0]⟩⟩=>
 (match s.ent 0 with
 |some (.row false 173 (.pair (.int .i64) (.int .i64)) y2)=>
 some (y0,y1,y2)
 |_=>none)
 |_=>none)
 |_=>none)
 |_=>none)
 |_=>none)
def aC:Lp bu where
 h:=⟨[9,10,5,11,12,13,14,15,16,17,4,18,8],[0],[],[]⟩
 JL:=La
 JE:=KZ
 XL:=Ld
 XE:=Lc
 q:=fun j=>match j with | 0=> .ret | _=> .exit 0
 tags:= [0,1]
 lt:=gT
 fuel:=fun(y0,y1,y2)=>y0.natAbs + y1.natAbs + y2.length
 fix:=fun(_,y1,y2) (y0,_,_)=>(y0,y1,y2)
 σ:= [(0,0)]
 rd:=qe
theorem JY:LoopOk prog (fun k=>Nat.blt k Tryz.f217.ntmps) aC.F (aL f217 0):=by
 refine Lp.ok (tbl:= [Rl]) (lf:= []) aM aC (by kernel_rfl) (LOk.nil _) (fun _=>rfl) (fun j _=>by unfold aC;match j with | 0=>rfl | _ + 1=>rfl) ?_ ?_ ?_ ?_ (fun _=>rfl) ?_
 ·rintro⟨y0,y1,y2⟩;kernel_rfl
 ·rintro⟨y0,y1,y2⟩;kernel_rfl
 ·intro s x h
  have h:qe s=some x:=h
  unfold qe at h
  repeat' split at h
  all_goals cases h
  exact⟨aa (by assumption) rfl (aa (by assumption) rfl (aa (by assumption) rfl (aa (by assumption) rfl (rfl)))),ab rfl (by assumption) rfl (rfl)⟩
 ·rintro⟨y0,y1,y2⟩;kernel_rfl
 ·rintro⟨y0,y1,y2⟩ z;exact(And.intro (And.intro trivial rfl) trivial)
section
variable (x0:List (Int×Int))
def mi:Int×Int×List (Int×Int):=((0:Int),(↑x0.length:Int),x0)
def th:Int:=bif Nat.beq ((Lp.res aC (mi x0)).1) (0:Nat)then ((Lp.res aC (mi x0)).2).1else(-1:Int)
def ti:Bool:=allT [Lp.fin aC (mi x0)]
end
def Cq:List SV→List Entry→Option Out
 | [.one ⟨false,[.ref 0]⟩,.one ⟨false,[.val (.func (.func 170) ⟨[]⟩ ⟨[]⟩)]⟩],[.row false 173 (.pair (.int .i64) (.int .i64)) x0]=>some ⟨.one ⟨false,[.val (.int .i64 (th x0))]⟩,[.row false 173 acH x0],[],[ti x0]⟩
 |_,_=>none
def tg:PF prog:=PF.ofG prog [Rl] [aC.F] aM 217 f217 func217 (LOk.fnT (l:= [aL f217 0]) (by kernel_rfl) (.cons JY (.nil _))) Cq (by
 intro vs es r h;unfold Cq at h;split at h
 ·cases h;kernel_rfl
 ·cases h)
def rj(x0:List (Int×Int)):Bool:=leI (0:Int) (th x0)
def rl(x0:List (Int×Int)):Bool:=allT [ti x0]
def zJ:List SV→List Entry→Option Out
 | [.one ⟨false,[.ref 0]⟩,.one ⟨false,[.val (.func (.func 170) ⟨[]⟩ ⟨[]⟩)]⟩],[.row false 173 (.pair (.int .i64) (.int .i64)) x0]=>some ⟨.one ⟨false,[.val (.bool (rj x0))]⟩,[.row false 173 acH x0],[],[rl x0]⟩
 |_,_=>none
def rg:PF prog:=PF.ofG prog [tg,PF.lend tg,PF.fz tg] [] aM 169 f169 func169 (fun c _=>LOk.nil c) zJ (by
 intro vs es r h;unfold zJ at h;split at h
 ·cases h;kernel_rfl
 ·cases h)
section
variable (x0:List (Int×Int))
def US:Bool:=leI (↑x0.length:Int) (12:Int)
def XZ:Bool:=bif US x0 then !rj x0 else false
def Ya:Bool:=allT [!(US x0&&true)||rl x0]
end
def aeg:List SV→List Entry→Option Out
 | [.one ⟨false,[.ref 0]⟩],[.row false 173 (.pair (.int .i64) (.int .i64)) x0]=>some ⟨.one ⟨false,[.val (.bool (XZ x0))]⟩,[.row false 173 acH x0],[],[Ya x0]⟩
 |_,_=>none
def akK:PF prog:=PF.ofG prog [ai0,rg,PF.lend rg,PF.fz rg] [] aM 81 f81 func81 (fun c _=>LOk.nil c) aeg (by
 intro vs es r h;unfold aeg at h;split at h
 ·cases h;kernel_rfl
 ·cases h)
def Sp(x0 x1:Int):Bool:=bif bm x0 (0:Int) (23:Int)then bm x1 (1:Int) (999:Int)else false
def aei:List SV→List Entry→Option Out
 | [.one ⟨true,[.val (.int .i64 x0),.val (.int .i64 x1)]⟩],[]=>some ⟨.one ⟨false,[.val (.bool (Sp x0 x1))]⟩,[],[],[]⟩
 |_,_=>none
def aeK:PF prog:=PF.ofG prog [gO] [] aM 171 f171 func171 (fun c _=>LOk.nil c) aei (by
 intro vs es r h;unfold aei at h;split at h
 ·cases h;kernel_rfl
 ·cases h)
abbrev db:=Int×Int×Int×Int×List (Int×Int)
section
variable (y0 y1 y2 y3:Int)(y4:List (Int×Int))
def jT:Int×Int:=Option.getD y4[Int.toNat y0]? ((0:Int),(0:Int))
def oO:Bool:=ltI y0 y1
def oP:Bool:=leI (0:Int) y0
def oQ:Bool:=ltI y0 (↑y4.length:Int)
def oR:Bool:=ltN y0.toNat y4.length
def oS:Bool:=bif y2==(jT y0 y4).1then bif y3==(jT y0 y4).2then true else false else false
def oT:Int:=IntKind.wrap .i64 (y0 + (1:Int))
end
def Ti:db→List (Nat×SV)
 |(y0,y1,_,_,_)=> [(8,(.one ⟨false,[.val (.int .i64 y0)]⟩)),(7,(.one ⟨false,[.val (.int .i64 y1)]⟩)),(3,(.one ⟨false,[.ptr 0 0]⟩)),(0,(.one ⟨false,[.ref 1]⟩))]
def Th:db→List (Nat×Entry)
 |(_,_,y2,y3,y4)=> [(0,(.box 176 [.val (.int .i64 y2),.val (.int .i64 y3)])),(1,(.row false 176 acH y4))]
def Tk:Nat→db→List (Nat×SV)
 |0,(y0,_,_,_,_)=> [(4,(.one ⟨false,[.val (.int .i64 y0)]⟩))]
 |_,(_,_,_,_,_)=> []
def Tj:Nat→db→List (Nat×Entry)
 |0,(_,_,y2,y3,y4)=> [(0,(.box 176 [.val (.int .i64 y2),.val (.int .i64 y3)])),(1,(.row false 176 acH y4))]
 |_,(_,_,y2,y3,y4)=> [(0,(.box 176 [.val (.int .i64 y2),.val (.int .i64 y3)])),(1,(.row false 176 acH y4))]
def nj:db→LT db
 |(y0,y1,y2,y3,y4)=> .ite (oO y0 y1) (.need [oP y0,oQ y0 y4,oR y0 y4] (.ite (oS y0 y2 y3 y4) (.ext 0 [(0,0),(1,1)]) (.nrm ((oT y0),y1,y2,y3,y4) [(0,0),(1,1)]))) (.ext 1 [(0,0),(1,1)])
def Aq(s:St):Option db:=
 (match s.look 8 with
 |some ⟨none,.one ⟨false,[.val (.int .i64 y0)]⟩⟩=>
 (match s.look 7 with
 |some ⟨none,.one ⟨false,[.val (.int .i64 y1)]⟩⟩=>
 (match s.look 3 with
 |some ⟨none,.one ⟨false,[.ptr 128 0]⟩⟩=>
 (match s.look 0 with
 |some ⟨none,.one ⟨false,[.ref 0]⟩⟩=>
 (match s.ent 128 with
 |some (.box 176 [.val (.int .i64 y2),.val (.int .i64 y3)])=>
 (match s.ent 0 with
 |some (.row false 176 (.pair (.int .i64) (.int .i64)) y4)=>
 some (y0,y1,y2,y3,y4)
 |_=>none)
 |_=>none)
 |_=>none)
 |_=>none)
 |_=>none)
 |_=>none)
def bf:Lp db where
 h:=⟨[9,10,5,11,12,13,14,15,16,17,4,18,8],[0,1],[],[]⟩
 JL:=Ti
 JE:=Th
 XL:=Tk
 XE:=Tj
 q:=fun j=>match j with | 0=> .ret | _=> .exit 0
 tags:= [0,1]
 lt:=nj
 fuel:=fun(y0,y1,y2,y3,y4)=>y0.natAbs + y1.natAbs + y2.natAbs + y3.natAbs + y4.length
 fix:=fun(_,y1,y2,y3,y4) (y0,_,_,_,_)=>(y0,y1,y2,y3,y4)
 σ:= [(0,128),(1,0)]
 rd:=Aq
theorem Sa:LoopOk prog (fun k=>Nat.blt k Tryz.f218.ntmps) bf.F (aL f218 0):=by
 refine Lp.ok (tbl:= []) (lf:= []) aM bf (by kernel_rfl) (LOk.nil _) (fun _=>rfl) (fun j _=>by unfold bf;match j with | 0=>rfl | _ + 1=>rfl) ?_ ?_ ?_ ?_ (fun _=>rfl) ?_
 ·rintro⟨y0,y1,y2,y3,y4⟩;kernel_rfl
 ·rintro⟨y0,y1,y2,y3,y4⟩;kernel_rfl
 ·intro s x h
  have h:Aq s=some x:=h
  unfold Aq at h
  repeat' split at h
  all_goals cases h
  exact⟨aa (by assumption) rfl (aa (by assumption) rfl (aa (by assumption) rfl (aa (by assumption) rfl (rfl)))),ab rfl (by assumption) rfl (ab rfl (by assumption) rfl (rfl))⟩
 ·rintro⟨y0,y1,y2,y3,y4⟩;kernel_rfl
 ·rintro⟨y0,y1,y2,y3,y4⟩ z;exact(And.intro (And.intro trivial rfl) trivial)
section
variable (x0 x1:Int)(x2:List (Int×Int))
def ws:Int×Int×Int×Int×List (Int×Int):=((0:Int),(↑x2.length:Int),x0,x1,x2)
def FG:Int:=bif Nat.beq ((Lp.res bf (ws x0 x1 x2)).1) (0:Nat)then ((Lp.res bf (ws x0 x1 x2)).2).1else(-1:Int)
def FH:Bool:=allT [Lp.fin bf (ws x0 x1 x2)]
end
def MY:List SV→List Entry→Option Out
 | [.one ⟨false,[.ref 0]⟩,.one ⟨true,[.val (.int .i64 x0),.val (.int .i64 x1)]⟩],[.row false 176 (.pair (.int .i64) (.int .i64)) x2]=>some ⟨.one ⟨false,[.val (.int .i64 (FG x0 x1 x2))]⟩,[.row false 176 acH x2],[],[FH x0 x1 x2]⟩
 |_,_=>none
def Fx:PF prog:=PF.ofG prog [] [bf.F] aM 218 f218 func218 (LOk.fnT (l:= [aL f218 0]) (by kernel_rfl) (.cons Sa (.nil _))) MY (by
 intro vs es r h;unfold MY at h;split at h
 ·cases h;kernel_rfl
 ·cases h)
def oN(x0 x1:Int)(x2:List (Int×Int)):Bool:=leI (0:Int) (FG x0 x1 x2)
def ut(x0 x1:Int)(x2:List (Int×Int)):Bool:=allT [FH x0 x1 x2]
def Ks:List SV→List Entry→Option Out
 | [.one ⟨false,[.ref 0]⟩,.one ⟨true,[.val (.int .i64 x0),.val (.int .i64 x1)]⟩],[.row false 176 (.pair (.int .i64) (.int .i64)) x2]=>some ⟨.one ⟨false,[.val (.bool (oN x0 x1 x2))]⟩,[.row false 176 acH x2],[],[ut x0 x1 x2]⟩
 |_,_=>none
def kQ:PF prog:=PF.ofG prog [Fx,PF.lend Fx,PF.fz Fx] [] aM 172 f172 func172 (fun c _=>LOk.nil c) Ks (by
 intro vs es r h;unfold Ks at h;split at h
 ·cases h;kernel_rfl
 ·cases h)
abbrev pJ:=Int×Int×List (Int×Int)
section
variable (y0 y1:Int)(y2:List (Int×Int))
def nQ:Int×Int:=Option.getD y2[Int.toNat y0]? ((0:Int),(0:Int))
def nR:Bool:= !Sp ((nQ y0 y2).1) ((nQ y0 y2).2)
def Gj:List (Int×Int):=bif !nR y0 y2&&true then List.drop (Int.toNat (0:Int)) (List.take y0.toNat y2)else []
def Ip:Bool:=ltI y0 y1
def UJ:Bool:=leI (0:Int) y0
def UK:Bool:=ltI y0 (↑y2.length:Int)
def UL:Bool:=ltN y0.toNat y2.length
def UM:Bool:= !(!nR y0 y2&&true)||leI (0:Int) (0:Int)
def UN:Bool:= !(!nR y0 y2&&true)||leI (0:Int) y0
def UO:Bool:= !(!nR y0 y2&&true)||leI y0 (↑y2.length:Int)
def UP:Bool:= !(!nR y0 y2&&true)||ut ((nQ y0 y2).1) ((nQ y0 y2).2) (Gj y0 y2)
def UQ:Bool:=bif nR y0 y2 then true else oN ((nQ y0 y2).1) ((nQ y0 y2).2) (Gj y0 y2)
def UR:Int:=IntKind.wrap .i64 (y0 + (1:Int))
end
def adH:pJ→List (Nat×SV)
 |(y0,y1,_)=> [(7,(.one ⟨false,[.val (.int .i64 y0)]⟩)),(6,(.one ⟨false,[.val (.int .i64 y1)]⟩)),(5,(.one ⟨false,[.ref 0]⟩)),(0,(.one ⟨false,[.ref 0]⟩))]
def adA:pJ→List (Nat×Entry)
 |(_,_,y2)=> [(0,(.row false 176 acH y2))]
def adV:Nat→pJ→List (Nat×SV)
 |0,(_,_,_)=> [(2,(.one ⟨false,[.val (.bool false)]⟩))]
 |_,(_,_,_)=> []
def adO:Nat→pJ→List (Nat×Entry)
 |0,(_,_,y2)=> [(0,(.row false 176 acH y2))]
 |_,(_,_,y2)=> [(0,(.row false 176 acH y2))]
def AF:pJ→LT pJ
 |(y0,y1,y2)=> .ite (Ip y0 y1) (.need [UJ y0,UK y0 y2,UL y0 y2] (.need [UM y0 y2,UN y0 y2,UO y0 y2,UP y0 y2] (.ite (UQ y0 y2) (.ext 0 [(0,0)]) (.nrm ((UR y0),y1,y2) [(0,0)])))) (.ext 1 [(0,0)])
def MF(s:St):Option pJ:=
 (match s.look 7 with
 |some ⟨none,.one ⟨false,[.val (.int .i64 y0)]⟩⟩=>
 (match s.look 6 with
 |some ⟨none,.one ⟨false,[.val (.int .i64 y1)]⟩⟩=>
 (match s.look 5 with
 |some ⟨none,.one ⟨false,[.ref 0]⟩⟩=>
 (match s.look 0 with
 |some ⟨none,.one ⟨false,[.ref 0]⟩⟩=>
 (match s.ent 0 with
 |some (.row false 176 (.pair (.int .i64) (.int .i64)) y2)=>
 some (y0,y1,y2)
 |_=>none)
 |_=>none)
 |_=>none)
 |_=>none)
 |_=>none)
def dQ:Lp pJ where
 h:=⟨[8,9,10,11,4,3,12,13,14,15,16,17,18,19,20,21,2,22,7],[0],[],[]⟩
 JL:=adH
 JE:=adA
 XL:=adV
 XE:=adO
 q:=fun j=>match j with | 0=> .ret | _=> .exit 0
 tags:= [0,1]
 lt:=AF
 fuel:=fun(y0,y1,y2)=>y0.natAbs + y1.natAbs + y2.length
 fix:=fun(_,y1,y2) (y0,_,_)=>(y0,y1,y2)
 σ:= [(0,0)]
 rd:=MF
theorem aby:LoopOk prog (fun k=>Nat.blt k Tryz.f82.ntmps) dQ.F (aL f82 0):=by
 refine Lp.ok (tbl:= [aeK,kQ,PF.lend kQ,PF.fz kQ]) (lf:= []) aM dQ (by kernel_rfl) (LOk.nil _) (fun _=>rfl) (fun j _=>by unfold dQ;match j with | 0=>rfl | _ + 1=>rfl) ?_ ?_ ?_ ?_ (fun _=>rfl) ?_
 ·rintro⟨y0,y1,y2⟩;kernel_rfl
 ·rintro⟨y0,y1,y2⟩;kernel_rfl
 ·intro s x h
  have h:MF s=some x:=h
  unfold MF at h
  repeat' split at h
  all_goals cases h
  exact⟨aa (by assumption) rfl (aa (by assumption) rfl (aa (by assumption) rfl (aa (by assumption) rfl (rfl)))),ab rfl (by assumption) rfl (rfl)⟩
 ·rintro⟨y0,y1,y2⟩;kernel_rfl
 ·rintro⟨y0,y1,y2⟩ z;exact(And.intro (And.intro trivial rfl) trivial)
section
variable (x0:List (Int×Int))
def RO:Int×Int×List (Int×Int):=((0:Int),(↑x0.length:Int),x0)
def Tn:Bool:=bif Nat.beq ((Lp.res dQ (RO x0)).1) (0:Nat)then false else leI (↑x0.length:Int) (8:Int)
def To:Bool:=allT [Lp.fin dQ (RO x0)]
end
def aaS:List SV→List Entry→Option Out
 | [.one ⟨false,[.ref 0]⟩],[.row false 176 (.pair (.int .i64) (.int .i64)) x0]=>some ⟨.one ⟨false,[.val (.bool (Tn x0))]⟩,[.row false 176 acH x0],[],[To x0]⟩
 |_,_=>none
def aiZ:PF prog:=PF.ofG prog [aeK,kQ,PF.lend kQ,PF.fz kQ] [dQ.F] aM 82 f82 func82 (LOk.fnT (l:= [aL f82 0]) (by kernel_rfl) (.cons aby (.nil _))) aaS (by
 intro vs es r h;unfold aaS at h;split at h
 ·cases h;kernel_rfl
 ·cases h)
def areR(st:List Int):Bool:=inR (st.length:Int) 1 12&&st.all fun v=>inR v 0 2
def rowsR(rs:List (List Int)):Int:=((rs[0]?.getD []).length:Int)
def rsOk(rs:List (List Int)):Bool:=rs.all fun st=>areR st&&((st.length:Int)==rowsR rs)
def lfOk(n:Int)(lf:List (Int×Int×Int)):Bool:=inR n 1 12&&okFs n lf
def akg(t:Int×Int):Bool:=inR t.1 1 366&&inR t.2 0 100000
def okPl(pl:List (Int×Int)):Bool:=leN pl.length 12&&pl.all akg
def aqu(x:Int×Int):Bool:=inR x.1 0 23&&inR x.2 1 999
def Ts(ls:List (Int×Int))(b:Nat):Int×Int:=ls[b]?.getD (0,0)
def JX(x y:Int×Int):Bool:=y.1==x.1&&y.2==x.2
def Nc(ls:List (Int×Int))(b:Nat):Bool:= !aqu (Ts ls b)
def acM(ls:List (Int×Int))(b:Nat):Bool:=(ls.take b).any (JX (Ts ls b))
def okLk(ls:List (Int×Int)):Bool:=leN ls.length 8&&(List.range ls.length).all fun b=> !(Nc ls b||acM ls b)
def re(n:Int)(ps:List Int)(fs:List (Int×Int×Int))(rs:List (List Int))(lf:List (Int×Int×Int))(mode:Int)(pl ls:List (Int×Int))(day:Int):Bool:=isT n ps&&(okFs n fs&&(decide (rs.length=ps.length)&&(rsOk rs&&(lfOk (rowsR rs) lf&&(inR mode 0 5&&(okPl pl&&(okLk ls&&inR day 0 100000)))))))
theorem ajz{C:Type}{P:C→Bool}: ∀ (l:List C) (i:Nat) (hi:i < l.length),P l[i]=true→((l.takeWhile fun x=> !P x).length=i↔(l.take i).any P=false)
 | [],i,hi,_=>by simp at hi
 |a::r,0,hi,h=>by
  have h:P a=true:=h
  simp [List.takeWhile_cons,h]
 |a::r,i + 1,hi,h=>by
  have hi':i < r.length:=by simpa using hi
  have h':P r[i]=true:=h
  have ih:=ajz r i hi' h'
  rw [List.take_succ_cons,List.any_cons,List.takeWhile_cons]
  cases ha:P a with
  |true=>simp
  |false=>
   simp only [Bool.not_false,if_true,List.length_cons,Bool.false_or]
   rw [← ih];omega
theorem ahG: ∀ (xs:List Int) (m:Int),0≤m→m≤2→(∀ x∈xs,0≤x∧x≤2)→((xs.foldl (fun m b=>bif ltI b m then b else m) m)==2)=(m==2&&xs.all fun x=>x==2)
 | [],m,_,_,_=>by simp
 |x::xs,m,h0,h1,h=>by
  have hx:=h x (by simp)
  rw [List.foldl_cons,List.all_cons]
  cases hl:ltI x m with
  |true=>
   have:=ay.1 hl
   rw [cond_true,ahG xs x hx.1 hx.2 fun y hy=>h y (by simp [hy])]
   have hm:(x==2)=false:=by simp;omega
   simp [hm]
  |false=>
   have:=aw.1 hl
   rw [cond_false,ahG xs m h0 h1 fun y hy=>h y (by simp [hy])]
   by_cases hm:m=2
   ·have hx2:x=2:=by omega
    subst hm;subst hx2;simp
   ·have:(m==2)=false:=by simpa using hm
    simp [this]
def aq5(m:Nat)(rs:List (List Int)):Bool:=leN rs.length m&&rs.all fun x=>leN x.length m
theorem aq6{m:Nat}{rs:List (List Int)}:aq5 m rs=true↔rs.length≤m∧ ∀ x∈rs,x.length≤m:=by
 simp only [aq5,Bool.and_eq_true,fH,List.all_eq_true]
def pz(b:Int):(Unit)→Nat ⊕ (Unit)
 |_=>(bif(!aT b (0:Int) (2:Int))then(.inl 0)else(.inr ()))
def kM(y1:List Int)(i:Nat):(Unit)→fC
 |_=>((i:Int),y1)
def Fy:fC→Unit
 |(_,_)=>()
theorem ZY(y1:List Int) (hn:y1.length≤9223372036854775807):
  bV.fin ((0:Int),y1)=true∧bV.res ((0:Int),y1)=((aO (pz) 1 y1 0 ()).1,(kM y1) (aO (pz) 1 y1 0 ()).2.1 (aO (pz) 1 y1 0 ()).2.2):=by
 have ez:=bV.along (kM y1) Fy (pz) 1 (fun _ _=>True) y1 () (by trivial) (by simp only [bV,kM];omega) (fun i b a hb hI=> ?_) (fun a hI=> ?_)
 ·exact ez
 ·obtain⟨⟩:=a
  have dZ:=(List.getElem?_eq_some_iff.1 hb).1
  have gQ: ∀ d,Option.getD y1[i]? d=b:=fun d=>by rw [hb];rfl
  have hw:=tw dZ hn
  have cR:ltI (i:Int) (y1.length:Int)=true:=fj (by omega)
  have ta:leI (0:Int) (i:Int)=true:=da (by omega)
  have fB:ltN i y1.length=true:=gp dZ
  refine⟨?_,?_,?_,?_⟩
  ·simp [pF,tL,tM,tN,tO,sJ,bV,LT.nds,allT,kM,cR,ta,fB,gQ]
  ·simp [pF,tL,tM,tN,tO,sJ,bV,LT.each,kM,Fy,hw]
  ·simp only [pF,tL,tM,tN,tO,sJ,bV,LT.fn,kM,Fy,pz,Int.toNat_natCast,cR,ta,fB,gQ,cond_true,Bool.cond_self]
  ·exact fun _ _=>trivial
 ·obtain⟨⟩:=a
  simp [pF,tL,tM,tN,tO,sJ,bV,LT.out,kM]
def dF(b:Int):(Unit)→Nat ⊕ (Unit)
 |_=>(bif(sT b)then(.inl 0)else(.inr ()))
def bQ(y2:List Int)(i:Nat):(Unit)→bj
 |_=>((i:Int),(↑y2.length:Int),y2)
def ou:bj→Unit
 |(_,_,_)=>()
theorem KQ(y2:List Int) (hn:y2.length≤9223372036854775807):
  az.fin ((0:Int),(↑y2.length:Int),y2)=true∧az.res ((0:Int),(↑y2.length:Int),y2)=((aO (dF) 1 y2 0 ()).1,(bQ y2) (aO (dF) 1 y2 0 ()).2.1 (aO (dF) 1 y2 0 ()).2.2):=by
 have ez:=az.along (bQ y2) ou (dF) 1 (fun _ _=>True) y2 () (by trivial) (by simp only [az,bQ];omega) (fun i b a hb hI=> ?_) (fun a hI=> ?_)
 ·exact ez
 ·obtain⟨⟩:=a
  have dZ:=(List.getElem?_eq_some_iff.1 hb).1
  have gQ: ∀ d,Option.getD y2[i]? d=b:=fun d=>by rw [hb];rfl
  have hw:=tw dZ hn
  have cR:ltI (i:Int) (y2.length:Int)=true:=fj (by omega)
  have ta:leI (0:Int) (i:Int)=true:=da (by omega)
  have fB:ltN i y2.length=true:=gp dZ
  refine⟨?_,?_,?_,?_⟩
  ·simp [gt,gu,gv,gw,gx,gy,fW,az,LT.nds,allT,bQ,cR,ta,fB,gQ]
  ·simp [gt,gu,gv,gw,gx,gy,fW,az,LT.each,bQ,ou,hw]
  ·simp only [gt,gu,gv,gw,gx,gy,fW,az,LT.fn,bQ,ou,dF,Int.toNat_natCast,cR,ta,fB,gQ,cond_true,Bool.cond_self]
  ·exact fun _ _=>trivial
 ·obtain⟨⟩:=a
  simp [gt,gu,gv,gw,gx,gy,fW,az,LT.out,bQ]
def BJ(b:Int×Int):(Unit)→Nat ⊕ (Unit)
 |_=>(bif(bif(!aT b.1 (1:Int) (366:Int))then true else !aT b.2 (0:Int) (100000:Int))then(.inl 0)else(.inr ()))
def vL(y1:List (Int×Int))(i:Nat):(Unit)→ny
 |_=>((i:Int),y1)
def PU:ny→Unit
 |(_,_)=>()
theorem aic(y1:List (Int×Int)) (hn:y1.length≤9223372036854775807):
  gf.fin ((0:Int),y1)=true∧gf.res ((0:Int),y1)=((aO (BJ) 1 y1 0 ()).1,(vL y1) (aO (BJ) 1 y1 0 ()).2.1 (aO (BJ) 1 y1 0 ()).2.2):=by
 have ez:=gf.along (vL y1) PU (BJ) 1 (fun _ _=>True) y1 () (by trivial) (by simp only [gf,vL];omega) (fun i b a hb hI=> ?_) (fun a hI=> ?_)
 ·exact ez
 ·obtain⟨⟩:=a
  have dZ:=(List.getElem?_eq_some_iff.1 hb).1
  have gQ: ∀ d,Option.getD y1[i]? d=b:=fun d=>by rw [hb];rfl
  have hw:=tw dZ hn
  have cR:ltI (i:Int) (y1.length:Int)=true:=fj (by omega)
  have ta:leI (0:Int) (i:Int)=true:=da (by omega)
  have fB:ltN i y1.length=true:=gp dZ
  refine⟨?_,?_,?_,?_⟩
  ·simp [zO,sg,BW,GR,GS,GU,GV,GW,GX,GY,Eo,gf,LT.nds,allT,vL,cR,ta,fB,gQ]
  ·simp [zO,sg,BW,GR,GS,GU,GV,GW,GX,GY,Eo,gf,LT.each,vL,PU,hw]
  ·simp only [zO,sg,BW,GR,GS,GU,GV,GW,GX,GY,Eo,gf,LT.fn,vL,PU,BJ,Int.toNat_natCast,cR,ta,fB,gQ,cond_true,Bool.cond_self]
  ·exact fun _ _=>trivial
 ·obtain⟨⟩:=a
  simp [zO,sg,BW,GR,GS,GU,GV,GW,GX,GY,Eo,gf,LT.out,vL]
def et(b:Int×Int):(Unit)→Nat ⊕ (Unit)
 |_=>(bif(DJ b.1 b.2)then(.inl 0)else(.inr ()))
def bW(y2:List (Int×Int))(i:Nat):(Unit)→bu
 |_=>((i:Int),(↑y2.length:Int),y2)
def qd:bu→Unit
 |(_,_,_)=>()
theorem Mu(y2:List (Int×Int)) (hn:y2.length≤9223372036854775807):
  aC.fin ((0:Int),(↑y2.length:Int),y2)=true∧aC.res ((0:Int),(↑y2.length:Int),y2)=((aO (et) 1 y2 0 ()).1,(bW y2) (aO (et) 1 y2 0 ()).2.1 (aO (et) 1 y2 0 ()).2.2):=by
 have ez:=aC.along (bW y2) qd (et) 1 (fun _ _=>True) y2 () (by trivial) (by simp only [aC,bW];omega) (fun i b a hb hI=> ?_) (fun a hI=> ?_)
 ·exact ez
 ·obtain⟨⟩:=a
  have dZ:=(List.getElem?_eq_some_iff.1 hb).1
  have gQ: ∀ d,Option.getD y2[i]? d=b:=fun d=>by rw [hb];rfl
  have hw:=tw dZ hn
  have cR:ltI (i:Int) (y2.length:Int)=true:=fj (by omega)
  have ta:leI (0:Int) (i:Int)=true:=da (by omega)
  have fB:ltN i y2.length=true:=gp dZ
  refine⟨?_,?_,?_,?_⟩
  ·simp [ek,ig,ii,ij,ik,il,im,gT,aC,LT.nds,allT,bW,cR,ta,fB,gQ]
  ·simp [ek,ig,ii,ij,ik,il,im,gT,aC,LT.each,bW,qd,hw]
  ·simp only [ek,ig,ii,ij,ik,il,im,gT,aC,LT.fn,bW,qd,et,Int.toNat_natCast,cR,ta,fB,gQ,cond_true,Bool.cond_self]
  ·exact fun _ _=>trivial
 ·obtain⟨⟩:=a
  simp [ek,ig,ii,ij,ik,il,im,gT,aC,LT.out,bW]
theorem ajd(n:Nat)(k:Int)(hk:0≤k):leI (n:Int) k=leN n k.toNat:=by
 rw [Bool.eq_iff_iff,ax,fH];omega
theorem anh(st:List Int)(hn:leN st.length 9223372036854775807=true):Lx st=areR st∧Ly st=true:=by
 obtain⟨w1,w2⟩:=ZY st (fH.1 hn)
 rw [ru (P:=fun v=> !inR v 0 2) (j:=0) (fun v=>by simp only [pz,aT,wq])]at w2
 have e5:(st.any fun v=> !inR v 0 2)= !st.all fun v=>inR v 0 2:=by simp [List.all_eq_not_any_not]
 rw [e5]at w2
 simp only [Lx,Ly,w1,w2,allT,areR,aT,wq]
 cases (st.all fun v=>inR v 0 2) <;> cases inR (st.length:Int) 1 12 <;> simp [Nat.beq]
theorem amL(st:List Int)(hn:leN st.length 9223372036854775807=true):Lk st=areR st∧Ll st=true:=by
 obtain⟨w1,w2⟩:=KQ st (fH.1 hn)
 rw [ru (P:=fun v=> !inR v 0 2) (j:=0) (fun v=>by simp only [dF,sT,bm,wq])]at w2
 have e5:(st.any fun v=> !inR v 0 2)= !st.all fun v=>inR v 0 2:=by simp [List.all_eq_not_any_not]
 rw [e5]at w2
 simp only [Lk,Ll,pv,pw,rU,rV,kR,w1,w2,allT,areR,zM,bm,dd,wq,bQ]
 cases hr:inR (st.length:Int) 1 12 with
 |false=>simp
 |true=>
  cases (st.all fun v=>inR v 0 2)with
  |true=>
   have q:leI 0 (-1)=false:=rfl
   simp [Nat.beq,q]
  |false=>
   simp only [Bool.not_false,cond_true,Nat.beq,Bool.and_false]
   rw [da (by omega)];simp
theorem ang(pl:List (Int×Int))(hn:leN pl.length 9223372036854775807=true):Yu pl=okPl pl∧Yv pl=true:=by
 obtain⟨w1,w2⟩:=aic pl (fH.1 hn)
 rw [ru (P:=fun t=> !akg t) (j:=0) (fun t=>by simp only [BJ,aT,wq,akg];cases inR t.1 1 366 <;> rfl)]at w2
 have e5:(pl.any fun t=> !akg t)= !pl.all akg:=by simp [List.all_eq_not_any_not]
 rw [e5]at w2
 simp only [Yu,Yv,w1,w2,allT,okPl,ajd pl.length 12 (by omega)]
 cases pl.all akg <;> simp [Nat.beq]
theorem amK(pl:List (Int×Int))(hn:leN pl.length 9223372036854775807=true):XZ pl=okPl pl∧Ya pl=true:=by
 obtain⟨w1,w2⟩:=Mu pl (fH.1 hn)
 rw [ru (P:=fun t=> !akg t) (j:=0) (fun t=>by simp only [et,DJ,xM,bm,wq,akg];cases inR t.1 1 366 <;> rfl)]at w2
 have e5:(pl.any fun t=> !akg t)= !pl.all akg:=by simp [List.all_eq_not_any_not]
 rw [e5]at w2
 simp only [XZ,Ya,US,rj,rl,th,ti,mi,w1,w2,allT,okPl,ajd pl.length 12 (by omega),bW]
 cases hr:leN pl.length (Int.toNat 12)with
 |false=>
  simp at hr
  simp [hr]
  intro h;omega
 |true=>
  simp at hr
  cases pl.all akg with
  |true=>
   have q:leI 0 (-1)=false:=rfl
   simp [Nat.beq,hr,q]
  |false=>
   simp only [Bool.not_false,cond_true,Nat.beq,Bool.and_false]
   rw [da (by omega)];simp
def SJ:List SV→List Entry→Option Out
 | [.one ⟨false,[.ref 0]⟩],[.row false 2 (.int .i64) x0]=>some ⟨.one ⟨false,[.val (.bool (areR x0))]⟩,[.row false 2 aiQ x0],[],[leN x0.length 9223372036854775807]⟩
 |_,_=>none
def jZ:PF prog:=PF.alt ac6 SJ (by
 intro args es o h bK;unfold SJ at h;split at h
 ·rename_i x0
  cases h
  have bK:=iu bK
  have hh:=anh x0 bK
  obtain⟨e0,en⟩:=hh
  exact kU rfl (gZ en) (by simp only [e0] <;> rfl) rfl rfl
 ·cases h)
def SH:List SV→List Entry→Option Out
 | [.one ⟨false,[.ref 0]⟩],[.row false 2 (.int .i64) x0]=>some ⟨.one ⟨false,[.val (.bool (areR x0))]⟩,[.row false 2 aiQ x0],[],[leN x0.length 9223372036854775807]⟩
 |_,_=>none
def tJ:PF prog:=PF.alt ac4 SH (by
 intro args es o h bK;unfold SH at h;split at h
 ·rename_i x0
  cases h
  have bK:=iu bK
  have hh:=amL x0 bK
  obtain⟨e0,en⟩:=hh
  exact kU rfl (gZ en) (by simp only [e0] <;> rfl) rfl rfl
 ·cases h)
def aex:List SV→List Entry→Option Out
 | [.one ⟨false,[.ref 0]⟩],[.row false 173 (.pair (.int .i64) (.int .i64)) x0]=>some ⟨.one ⟨false,[.val (.bool (okPl x0))]⟩,[.row false 173 acH x0],[],[leN x0.length 9223372036854775807]⟩
 |_,_=>none
def xR:PF prog:=PF.alt akN aex (by
 intro args es o h bK;unfold aex at h;split at h
 ·rename_i x0
  cases h
  have bK:=iu bK
  have hh:=ang x0 bK
  obtain⟨e0,en⟩:=hh
  exact kU rfl (gZ en) (by simp only [e0] <;> rfl) rfl rfl
 ·cases h)
def aev:List SV→List Entry→Option Out
 | [.one ⟨false,[.ref 0]⟩],[.row false 173 (.pair (.int .i64) (.int .i64)) x0]=>some ⟨.one ⟨false,[.val (.bool (okPl x0))]⟩,[.row false 173 acH x0],[],[leN x0.length 9223372036854775807]⟩
 |_,_=>none
def xQ:PF prog:=PF.alt akK aev (by
 intro args es o h bK;unfold aev at h;split at h
 ·rename_i x0
  cases h
  have bK:=iu bK
  have hh:=amK x0 bK
  obtain⟨e0,en⟩:=hh
  exact kU rfl (gZ en) (by simp only [e0] <;> rfl) rfl rfl
 ·cases h)
theorem Lp.scan{X:Type}(p:Lp X)(st:Nat→X)(N:Nat)(P:Nat→Bool)(e:Nat)(hN:N≤p.fuel (st 0))
  (hs: ∀ b,b < N→(p.lt (st b)).nds=true∧(p.lt (st b)).each (fun y=>y=st (b + 1))∧(p.lt (st b)).fn (fun _=>())=(bif P b then .inl 0 else .inr ()))
  (he:(p.lt (st N)).out=some (.inl e)):p.fin (st 0)=true∧(p.res (st 0)).1=bif(List.range N).any P then 0 else e:=by
 have ez:=p.along (fun i (_:Unit)=>st i) (fun _=>()) (fun(b:Nat) (_:Unit)=>bif P b then .inl 0 else .inr ()) e (fun _ _=>True) (List.range N) () trivial (by rw [List.length_range];exact hN)
  (fun i b a hb _=>by
   obtain⟨rfl,dZ⟩:=BV hb
   obtain⟨h1,h2,h3⟩:=hs b dZ
   exact⟨h1,h2,h3,fun _ _=>trivial⟩) (fun a _=>by rw [List.length_range];exact he)
 rw [ru (P:=P) (j:=0) (fun b=>rfl)]at ez
 exact⟨ez.1,by rw [ez.2]⟩
def lG(y2:List (Int×(Int×Int)))(y3 y4:Int)(b:Nat):(Unit)→Nat ⊕ (Unit)
 |_=>(bif(bif((Option.getD y2[b]? ((0:Int),(0:Int),(0:Int))).1==y3)then ((Option.getD y2[b]? ((0:Int),(0:Int),(0:Int))).2).1==y4 else false)then(.inl 0)else(.inr ()))
def iR(y1:Int)(y2:List (Int×(Int×Int)))(y3 y4 y5:Int)(i:Nat):(Unit)→dC
 |_=>((i:Int),y1,y2,y3,y4,y5)
def Bk:dC→Unit
 |(_,_,_,_,_,_)=>()
theorem Wk(y1:Int)(y2:List (Int×(Int×Int)))(y3 y4 y5:Int) (hn:y1≤9223372036854775807) (hb:y1≤(y2.length:Int)):
  bE.fin ((0:Int),y1,y2,y3,y4,y5)=true∧bE.res ((0:Int),y1,y2,y3,y4,y5)=((aO (lG y2 y3 y4) 1 (List.range y1.toNat) 0 ()).1,(iR y1 y2 y3 y4 y5) (aO (lG y2 y3 y4) 1 (List.range y1.toNat) 0 ()).2.1 (aO (lG y2 y3 y4) 1 (List.range y1.toNat) 0 ()).2.2):=by
 have ez:=bE.along (iR y1 y2 y3 y4 y5) Bk (lG y2 y3 y4) 1 (fun _ _=>True) (List.range y1.toNat) () (by trivial) (by simp only [bE,iR,List.length_range];omega) (fun i b a hb hI=> ?_) (fun a hI=> ?_)
 ·exact ez
 ·obtain⟨⟩:=a
  obtain⟨rfl,dZ⟩:=BV hb
  have hw:IntKind.i64.wrap ((b:Int) + 1)=((b + 1:Nat):Int):=by rw [ag (by omega) (by omega)];omega
  have cR:ltI (b:Int) y1=true:=fj (by omega)
  have ta:leI (0:Int) (b:Int)=true:=da (by omega)
  refine⟨?_,?_,?_,?_⟩
  ·have h1:ltI (b:Int) (y2.length:Int)=true:=fj (by omega)
   have h2:ltN b y2.length=true:=gp (by omega)
   simp [kT,gj,qi,qj,qk,ql,qm,qn,qo,qp,qq,oM,bE,LT.nds,allT,iR,cR,ta,h1,h2]
  ·simp [kT,gj,qi,qj,qk,ql,qm,qn,qo,qp,qq,oM,bE,LT.each,iR,Bk,hw]
  ·simp only [kT,gj,qi,qj,qk,ql,qm,qn,qo,qp,qq,oM,bE,LT.fn,iR,Bk,lG,Int.toNat_natCast,cR,ta,cond_true,Bool.cond_self]
  ·exact fun _ _=>trivial
 ·obtain⟨⟩:=a
  simp only [kT,gj,qi,qj,qk,ql,qm,qn,qo,qp,qq,oM,bE,LT.out,iR,List.length_range,ZD,acW,cond_false]
theorem anZ(fs:List (Int×Int×Int))(b:Nat)(hb:b < fs.length)(hn:fs.length≤9223372036854775807):
  OP (b:Int) fs=true∧GQ (b:Int) fs=aju fs b:=by
 obtain⟨w1,w2⟩:=Wk (b:Int) fs (fAt fs b).1 (fAt fs b).2.1 (fAt fs b).2.2 (by omega) (by omega)
 rw [ru (P:=fun j=>UG (fAt fs b) (fs[j]?.getD (0,0,0))) (j:=0) (fun j=>by
  simp only [lG,UG];cases (fs[j]?.getD (0,0,0)).1==(fAt fs b).1 <;> rfl),Int.toNat_natCast,amm (by omega)]at w2
 refine⟨w1,?_⟩
 have e:FI (b:Int) fs=(0,(b:Int),fs,(fAt fs b).1,(fAt fs b).2.1,(fAt fs b).2.2):=rfl
 simp only [GQ,e,w2,aju]
 cases (fs.take b).any (UG (fAt fs b)) <;> rfl
theorem ap2(n:Int)(fs:List (Int×Int×Int))(b:Nat):GP (b:Int) n fs=afs n fs b:=by
 simp only [GP,aT,afs,fIn,fAt,kF,Int.toNat_natCast,wq]
 cases inR (fs[b]?.getD (0,0,0)).1 0 (IntKind.i64.wrap (n - 1)) <;> cases inR (fs[b]?.getD (0,0,0)).2.1 0 1 <;> cases inR (fs[b]?.getD (0,0,0)).2.2 0 1 <;> rfl
theorem ap9(n:Int)(fs:List (Int×Int×Int))(hn:fs.length≤9223372036854775807):
  bN.fin ((0:Int),n,fs)=true∧bN.res ((0:Int),n,fs)=((aO (fF n fs) 2 (List.range fs.length) 0 ()).1,(((aO (fF n fs) 2 (List.range fs.length) 0 ()).2.1:Int),n,fs)):=by
 have ez:=bN.along (fun i _=>((i:Int),n,fs)) (fun _=>()) (fF n fs) 2 (fun _ _=>True) (List.range fs.length) () trivial (by simp only [bN,List.length_range];omega) (fun i b a hb hI=> ?_) (fun a hI=> ?_)
 ·exact ez
 ·obtain⟨rfl,dZ⟩:=BV hb
  have hw:IntKind.i64.wrap ((b:Int) + 1)=((b + 1:Nat):Int):=by rw [ag (by omega) (by omega)];omega
  have cR:ltI (b:Int) (fs.length:Int)=true:=fj (by omega)
  have ta:leI (0:Int) (b:Int)=true:=da (by omega)
  have fB:ltN b fs.length=true:=gp (by omega)
  obtain⟨i1,i2⟩:=anZ fs b dZ hn
  have i3:=ap2 n fs b
  refine⟨?_,?_,?_,?_⟩
  ·simp [bN,sI,LT.nds,allT,tK,ON,OO,cR,ta,fB,i1]
  ·simp [bN,sI,LT.each,OQ,hw]
  ·simp only [bN,sI,LT.fn,tK,cR,i2,i3,fF,cond_true]
  ·exact fun _ _=>trivial
 ·simp [bN,sI,LT.out,tK,List.length_range]
theorem api(n:Int)(fs:List (Int×Int×Int))(hn:leN fs.length 9223372036854775807=true):Lv n fs=lfOk n fs∧Lw n fs=true:=by
 obtain⟨w1,w2⟩:=ap9 n fs (fH.1 hn)
 obtain⟨k,m,e,h⟩:=ahk n fs (List.range fs.length) 0
 rw [e]at w2
 refine⟨?_,?_⟩
 ·have hl:leI (fs.length:Int) 8=leN fs.length 8:=by rw [Bool.eq_iff_iff];simp;omega
  simp only [Lv,wM,w2,aT,wq,lfOk,okFs,hl]
  rcases h with⟨rfl,h⟩ | ⟨rfl | rfl,h⟩ <;> rw [h]
  ·cases inR n 1 12 <;> cases leN fs.length 8 <;> rfl
  ·cases inR n 1 12 <;> cases leN fs.length 8 <;> rfl
  ·cases inR n 1 12 <;> cases leN fs.length 8 <;> rfl
 ·simp only [Lw,wM,w1,allT,cond_true]
def SI:List SV→List Entry→Option Out
 | [.one ⟨false,[.val (.int .i64 x0)]⟩,.one ⟨false,[.ref 0]⟩],[.row false 100 (.pair (.int .i64) (.pair (.int .i64) (.int .i64))) x1]=>some ⟨.one ⟨false,[.val (.bool (lfOk x0 x1))]⟩,[.row false 100 acG x1],[],[leN x1.length 9223372036854775807]⟩
 |_,_=>none
def jY:PF prog:=PF.alt ac5 SI (by
 intro args es o h bK;unfold SI at h;split at h
 ·rename_i x0 x1
  cases h
  have bK:=iu bK
  have hh:=api x0 x1 bK
  obtain⟨e0,en⟩:=hh
  exact kU rfl (gZ en) (by simp only [e0] <;> rfl) rfl rfl
 ·cases h)
def cS(y2 y3:Int)(b:Int×(Int×Int)):(Unit)→Nat ⊕ (Unit)
 |_=>(bif(sS b.1 (b.2.1) y2 y3)then(.inl 0)else(.inr ()))
def bJ(y2 y3 y4:Int)(y5:List (Int×(Int×Int)))(i:Nat):(Unit)→aY
 |_=>((i:Int),(↑y5.length:Int),y2,y3,y4,y5)
def mt:aY→Unit
 |(_,_,_,_,_,_)=>()
theorem Jg(y2 y3 y4:Int)(y5:List (Int×(Int×Int))) (hn:y5.length≤9223372036854775807):
  am.fin ((0:Int),(↑y5.length:Int),y2,y3,y4,y5)=true∧am.res ((0:Int),(↑y5.length:Int),y2,y3,y4,y5)=((aO (cS y2 y3) 1 y5 0 ()).1,(bJ y2 y3 y4 y5) (aO (cS y2 y3) 1 y5 0 ()).2.1 (aO (cS y2 y3) 1 y5 0 ()).2.2):=by
 have ez:=am.along (bJ y2 y3 y4 y5) mt (cS y2 y3) 1 (fun _ _=>True) y5 () (by trivial) (by simp only [am,bJ];omega) (fun i b a hb hI=> ?_) (fun a hI=> ?_)
 ·exact ez
 ·obtain⟨⟩:=a
  have dZ:=(List.getElem?_eq_some_iff.1 hb).1
  have gQ: ∀ d,Option.getD y5[i]? d=b:=fun d=>by rw [hb];rfl
  have hw:=tw dZ hn
  have cR:ltI (i:Int) (y5.length:Int)=true:=fj (by omega)
  have ta:leI (0:Int) (i:Int)=true:=da (by omega)
  have fB:ltN i y5.length=true:=gp dZ
  refine⟨?_,?_,?_,?_⟩
  ·simp [cI,eP,eQ,eR,eS,eT,eU,eq,am,LT.nds,allT,bJ,cR,ta,fB,gQ]
  ·simp [cI,eP,eQ,eR,eS,eT,eU,eq,am,LT.each,bJ,mt,hw]
  ·simp only [cI,eP,eQ,eR,eS,eT,eU,eq,am,LT.fn,bJ,mt,cS,Int.toNat_natCast,cR,ta,fB,gQ,cond_true,Bool.cond_self]
  ·exact fun _ _=>trivial
 ·obtain⟨⟩:=a
  simp [cI,eP,eQ,eR,eS,eT,eU,eq,am,LT.out,bJ]
theorem amH(xs:List (Int×Int×Int))(f:Int×Int×Int)(hn:xs.length≤9223372036854775807):
  eN xs f.1 f.2.1 f.2.2=xs.any (UG f)∧eO xs f.1 f.2.1 f.2.2=true:=by
 obtain⟨w1,w2⟩:=Jg f.1 f.2.1 f.2.2 xs hn
 rw [ru (P:=UG f) (j:=0) (fun t=>by
  simp only [cS,sS,UG];cases t.1==f.1 <;> rfl)]at w2
 refine⟨?_,?_⟩
 ·simp only [eN,mP,mQ,mR,eO,fY,dA,jO,jP,jQ,jR,jS,w2,bJ]
  cases xs.any (UG f)with
  |false=>rfl
  |true=>exact da (Int.natCast_nonneg _)
 ·simp only [eN,mP,mQ,mR,eO,fY,dA,jO,jP,jQ,jR,jS,w1,allT,cond_true]
theorem apJ(n:Int)(fs:List (Int×Int×Int))(b:Nat):GA (b:Int) n fs=afs n fs b:=by
 simp only [GA,bm,afs,fIn,fAt,ey,Int.toNat_natCast,wq]
 cases inR (fs[b]?.getD (0,0,0)).1 0 (IntKind.i64.wrap (n - 1)) <;> cases inR (fs[b]?.getD (0,0,0)).2.1 0 1 <;> cases inR (fs[b]?.getD (0,0,0)).2.2 0 1 <;> rfl
theorem ap8(n:Int)(fs:List (Int×Int×Int))(hn:fs.length≤9223372036854775807):
  bM.fin ((0:Int),(fs.length:Int),n,fs)=true∧bM.res ((0:Int),(fs.length:Int),n,fs)=((aO (fF n fs) 2 (List.range fs.length) 0 ()).1,(((aO (fF n fs) 2 (List.range fs.length) 0 ()).2.1:Int),(fs.length:Int),n,fs)):=by
 have ez:=bM.along (fun i _=>((i:Int),(fs.length:Int),n,fs)) (fun _=>()) (fF n fs) 2 (fun _ _=>True) (List.range fs.length) () trivial (by simp only [bM,List.length_range];omega) (fun i b a hb hI=> ?_) (fun a hI=> ?_)
 ·exact ez
 ·obtain⟨rfl,dZ⟩:=BV hb
  have hw:IntKind.i64.wrap ((b:Int) + 1)=((b + 1:Nat):Int):=by rw [ag (by omega) (by omega)];omega
  have cR:ltI (b:Int) (fs.length:Int)=true:=fj (by omega)
  have NV:leI (b:Int) (fs.length:Int)=true:=da (by omega)
  have ta:leI (0:Int) (b:Int)=true:=da (by omega)
  have fB:ltN b fs.length=true:=gp (by omega)
  obtain⟨i2,i1⟩:=amH (fs.take b) (fAt fs b) (by rw [List.length_take];omega)
  have i2:OJ (b:Int) fs=aju fs b:=i2
  have i1:OI (b:Int) fs=true:=i1
  have i3:=apJ n fs b
  refine⟨?_,?_,?_,?_⟩
  ·simp [bM,sH,LT.nds,allT,zL,Gz,OD,OE,OG,OH,cR,ta,fB,NV,i1]
  ·simp [bM,sH,LT.each,OK,hw]
  ·simp only [bM,sH,LT.fn,zL,cR,i2,i3,fF,cond_true]
  ·exact fun _ _=>trivial
 ·simp [bM,sH,LT.out,zL,List.length_range]
theorem ao1(n:Int)(fs:List (Int×Int×Int))(hn:leN fs.length 9223372036854775807=true):Li n fs=lfOk n fs∧Lj n fs=true:=by
 obtain⟨w1,w2⟩:=ap8 n fs (fH.1 hn)
 obtain⟨k,m,e,h⟩:=ahk n fs (List.range fs.length) 0
 rw [e]at w2
 refine⟨?_,?_⟩
 ·have hl:leI (fs.length:Int) 8=leN fs.length 8:=by rw [Bool.eq_iff_iff];simp;omega
  simp only [Li,wy,w2,zM,bm,wq,lfOk,okFs,hl]
  rcases h with⟨rfl,h⟩ | ⟨rfl | rfl,h⟩ <;> rw [h] <;> cases inR n 1 12 <;> cases leN fs.length 8 <;> rfl
 ·simp only [Lj,wy,w1,allT,cond_true]
def SG:List SV→List Entry→Option Out
 | [.one ⟨false,[.val (.int .i64 x0)]⟩,.one ⟨false,[.ref 0]⟩],[.row false 100 (.pair (.int .i64) (.pair (.int .i64) (.int .i64))) x1]=>some ⟨.one ⟨false,[.val (.bool (lfOk x0 x1))]⟩,[.row false 100 acG x1],[],[leN x1.length 9223372036854775807]⟩
 |_,_=>none
def tI:PF prog:=PF.alt ac3 SG (by
 intro args es o h bK;unfold SG at h;split at h
 ·rename_i x0 x1
  cases h
  have bK:=iu bK
  have hh:=ao1 x0 x1 bK
  obtain⟨e0,en⟩:=hh
  exact kU rfl (gZ en) (by simp only [e0] <;> rfl) rfl rfl
 ·cases h)
def zK(y1 y2:Int)(b:Int×Int):(Unit)→Nat ⊕ (Unit)
 |_=>(bif(bif b.1==y1 then b.2==y2 else false)then(.inl 0)else(.inr ()))
def qN(y1 y2:Int)(y3:List (Int×Int))(i:Nat):(Unit)→mh
 |_=>((i:Int),y1,y2,y3)
def Of:mh→Unit
 |(_,_,_,_)=>()
theorem ahi(y1 y2:Int)(y3:List (Int×Int)) (hn:y3.length≤9223372036854775807):
  dO.fin ((0:Int),y1,y2,y3)=true∧dO.res ((0:Int),y1,y2,y3)=((aO (zK y1 y2) 1 y3 0 ()).1,(qN y1 y2 y3) (aO (zK y1 y2) 1 y3 0 ()).2.1 (aO (zK y1 y2) 1 y3 0 ()).2.2):=by
 have ez:=dO.along (qN y1 y2 y3) Of (zK y1 y2) 1 (fun _ _=>True) y3 () (by trivial) (by simp only [dO,qN];omega) (fun i b a hb hI=> ?_) (fun a hI=> ?_)
 ·exact ez
 ·obtain⟨⟩:=a
  have dZ:=(List.getElem?_eq_some_iff.1 hb).1
  have gQ: ∀ d,Option.getD y3[i]? d=b:=fun d=>by rw [hb];rfl
  have hw:=tw dZ hn
  have cR:ltI (i:Int) (y3.length:Int)=true:=fj (by omega)
  have ta:leI (0:Int) (i:Int)=true:=da (by omega)
  have fB:ltN i y3.length=true:=gp dZ
  refine⟨?_,?_,?_,?_⟩
  ·simp [tq,tt,Af,ES,ET,EU,EV,EW,EX,EY,CX,dO,LT.nds,allT,qN,cR,ta,fB,gQ]
  ·simp [tq,tt,Af,ES,ET,EU,EV,EW,EX,EY,CX,dO,LT.each,qN,Of,hw]
  ·simp only [tq,tt,Af,ES,ET,EU,EV,EW,EX,EY,CX,dO,LT.fn,qN,Of,zK,Int.toNat_natCast,cR,ta,fB,gQ,cond_true,Bool.cond_self]
  ·exact fun _ _=>trivial
 ·obtain⟨⟩:=a
  simp [tq,tt,Af,ES,ET,EU,EV,EW,EX,EY,CX,dO,LT.out,qN]
def kN(y2 y3:Int)(b:Int×Int):(Unit)→Nat ⊕ (Unit)
 |_=>(bif(bif y2==b.1then bif y3==b.2then true else false else false)then(.inl 0)else(.inr ()))
def fA(y2 y3:Int)(y4:List (Int×Int))(i:Nat):(Unit)→db
 |_=>((i:Int),(↑y4.length:Int),y2,y3,y4)
def Ap:db→Unit
 |(_,_,_,_,_)=>()
theorem Uj(y2 y3:Int)(y4:List (Int×Int)) (hn:y4.length≤9223372036854775807):
  bf.fin ((0:Int),(↑y4.length:Int),y2,y3,y4)=true∧bf.res ((0:Int),(↑y4.length:Int),y2,y3,y4)=((aO (kN y2 y3) 1 y4 0 ()).1,(fA y2 y3 y4) (aO (kN y2 y3) 1 y4 0 ()).2.1 (aO (kN y2 y3) 1 y4 0 ()).2.2):=by
 have ez:=bf.along (fA y2 y3 y4) Ap (kN y2 y3) 1 (fun _ _=>True) y4 () (by trivial) (by simp only [bf,fA];omega) (fun i b a hb hI=> ?_) (fun a hI=> ?_)
 ·exact ez
 ·obtain⟨⟩:=a
  have dZ:=(List.getElem?_eq_some_iff.1 hb).1
  have gQ: ∀ d,Option.getD y4[i]? d=b:=fun d=>by rw [hb];rfl
  have hw:=tw dZ hn
  have cR:ltI (i:Int) (y4.length:Int)=true:=fj (by omega)
  have ta:leI (0:Int) (i:Int)=true:=da (by omega)
  have fB:ltN i y4.length=true:=gp dZ
  refine⟨?_,?_,?_,?_⟩
  ·simp [jT,oO,oP,oQ,oR,oS,oT,nj,bf,LT.nds,allT,fA,cR,ta,fB,gQ]
  ·simp [jT,oO,oP,oQ,oR,oS,oT,nj,bf,LT.each,fA,Ap,hw]
  ·simp only [jT,oO,oP,oQ,oR,oS,oT,nj,bf,LT.fn,fA,Ap,kN,Int.toNat_natCast,cR,ta,fB,gQ,cond_true,Bool.cond_self]
  ·exact fun _ _=>trivial
 ·obtain⟨⟩:=a
  simp [jT,oO,oP,oQ,oR,oS,oT,nj,bf,LT.out,fA]
theorem aqk(d o:Int)(ls:List (Int×Int))(hn:ls.length≤9223372036854775807):Hr d o ls=(bif ls.any (JX (d,o))then(((ls.takeWhile fun x=> !JX (d,o) x).length:Nat):Int)else -1)∧QL d o ls=true:=by
 obtain⟨w1,w2⟩:=ahi d o ls hn
 rw [ru (P:=JX (d,o)) (j:=0) (fun x=>by simp only [zK,JX];cases x.1==d <;> rfl)]at w2
 simp only [Hr,QL,NQ,w1,w2,allT,qN]
 cases ls.any (JX (d,o)) <;> simp [Nat.beq]
theorem apI(d o:Int)(ls:List (Int×Int))(hn:ls.length≤9223372036854775807):oN d o ls=ls.any (JX (d,o))∧ut d o ls=true:=by
 obtain⟨w1,w2⟩:=Uj d o ls hn
 rw [ru (P:=JX (d,o)) (j:=0) (fun x=>by
  simp only [kN,JX,BEq.comm (a:=d),BEq.comm (a:=o)];cases x.1==d <;> cases x.2==o <;> rfl)]at w2
 simp only [oN,ut,FG,FH,ws,w1,w2,allT,fA]
 refine⟨?_,rfl⟩
 cases ls.any (JX (d,o))with
 |false=>rfl
 |true=>exact da (Int.natCast_nonneg _)
theorem alc(a b:Int):QM a b=aqu (a,b)∧Sp a b=aqu (a,b):=by
 simp only [QM,Sp,aT,bm,wq,aqu]
 cases inR a 0 23 <;> exact⟨rfl,rfl⟩
theorem anp(ls:List (Int×Int))(hn:ls.length≤9223372036854775807):
  dT.fin ((0:Int),ls)=true∧(dT.res ((0:Int),ls)).1=bif(List.range ls.length).any (fun b=>Nc ls b||acM ls b)then 0 else 1:=by
 refine Lp.scan dT (fun b=>((b:Int),ls)) ls.length (fun b=>Nc ls b||acM ls b) 1 (by simp only [dT];omega) (fun b hb=> ?_) ?_
 ·have cR:ltI (b:Int) (ls.length:Int)=true:=fj (by omega)
  have ta:leI (0:Int) (b:Int)=true:=da (by omega)
  have fB:ltN b ls.length=true:=gp hb
  have hw:IntKind.i64.wrap ((b:Int) + 1)=((b + 1:Nat):Int):=by rw [ag (by omega) (by omega)];omega
  have a0:nS (b:Int) ls=Ts ls b:=by simp only [nS,Int.toNat_natCast,Ts]
  have a1:rY (b:Int) ls=Nc ls b:=by simp only [rY,a0,(alc _ _).1,Nc]
  obtain⟨f1,f2⟩:=aqk (Ts ls b).1 (Ts ls b).2 ls hn
  have hat:Ts ls b=ls[b]:=by simp only [Ts,List.getElem?_eq_getElem hb,Option.getD_some]
  have hp:JX (Ts ls b) ls[b]=true:=by rw [hat];simp [JX]
  have hany:ls.any (JX (Ts ls b))=true:=List.any_eq_true.2 ⟨_,List.getElem_mem hb,hp⟩
  have f1':Hr (Ts ls b).1 (Ts ls b).2 ls=(bif ls.any (JX (Ts ls b))then(((ls.takeWhile fun x=> !JX (Ts ls b) x).length:Nat):Int)else -1):=f1
  have h7:(Hr (Ts ls b).1 (Ts ls b).2 ls !=(b:Int))=acM ls b:=by
   rw [f1']
   simp only [hany,cond_true,acM]
   have hf:=ajz ls b hb hp
   cases hd:(ls.take b).any (JX (Ts ls b))with
   |false=>have:=hf.2 hd;rw [this];simp
   |true=>
    have:(ls.takeWhile fun x=> !JX (Ts ls b) x).length≠b:=fun h=>by rw [hf.1 h]at hd;cases hd
    simp only [bne_iff_ne,ne_eq];omega
  refine⟨?_,?_,?_⟩
  ·simp [dT,AK,LT.nds,allT,xf,On,Oo,Oq,Ot,Ou,VA,cR,ta,fB,a0,f2]
  ·simp [dT,AK,LT.each,VC,hw]
  ·simp only [dT,AK,LT.fn,xf,VB,cR,a0,a1,h7,cond_true]
   cases Nc ls b <;> rfl
 ·simp [dT,AK,LT.out,xf]
theorem ano(ls:List (Int×Int))(hn:ls.length≤9223372036854775807):
  dQ.fin ((0:Int),(ls.length:Int),ls)=true∧(dQ.res ((0:Int),(ls.length:Int),ls)).1=bif(List.range ls.length).any (fun b=>Nc ls b||acM ls b)then 0 else 1:=by
 refine Lp.scan dQ (fun b=>((b:Int),(ls.length:Int),ls)) ls.length (fun b=>Nc ls b||acM ls b) 1 (by simp only [dQ];omega) (fun b hb=> ?_) ?_
 ·have cR:ltI (b:Int) (ls.length:Int)=true:=fj (by omega)
  have NV:leI (b:Int) (ls.length:Int)=true:=da (by omega)
  have ta:leI (0:Int) (b:Int)=true:=da (by omega)
  have fB:ltN b ls.length=true:=gp hb
  have hw:IntKind.i64.wrap ((b:Int) + 1)=((b + 1:Nat):Int):=by rw [ag (by omega) (by omega)];omega
  have a0:nQ (b:Int) ls=Ts ls b:=by simp only [nQ,Int.toNat_natCast,Ts]
  have a1:nR (b:Int) ls=Nc ls b:=by simp only [nR,a0,(alc _ _).2,Nc]
  have a2:Gj (b:Int) ls=bif !Nc ls b then ls.take b else []:=by
   simp only [Gj,a1,Int.toNat_natCast,Int.toNat_zero,List.drop_zero,Bool.and_true]
  have hl2:(bif !Nc ls b then ls.take b else []).length≤9223372036854775807:=by
   cases Nc ls b <;> simp;omega
  obtain⟨f1,f2⟩:=apI (Ts ls b).1 (Ts ls b).2 (bif !Nc ls b then ls.take b else []) hl2
  have f1:oN (Ts ls b).1 (Ts ls b).2 (bif !Nc ls b then ls.take b else [])=(bif !Nc ls b then ls.take b else []).any (JX (Ts ls b)):=f1
  refine⟨?_,?_,?_⟩
  ·have z0:leI 0 0=true:=rfl
   simp only [dQ,AF,LT.nds,allT,Ip,UJ,UK,UL,UM,UN,UO,UP,Int.toNat_natCast,cR,NV,ta,fB,a0,a2,f2,z0,Bool.or_true,cond_true,Bool.cond_self]
  ·simp [dQ,AF,LT.each,UR,hw]
  ·simp only [dQ,AF,LT.fn,Ip,UQ,cR,a0,a1,a2,f1,cond_true]
   cases Nc ls b <;> rfl
 ·simp [dQ,AF,LT.out,Ip]
theorem apR(ls:List (Int×Int)):((List.range ls.length).any fun b=>Nc ls b||acM ls b)= !(List.range ls.length).all fun b=> !(Nc ls b||acM ls b):=by simp [List.all_eq_not_any_not]
theorem al9(ls:List (Int×Int))(hn:leN ls.length 9223372036854775807=true):Ty ls=okLk ls∧Tz ls=true:=by
 obtain⟨w1,w2⟩:=anp ls (fH.1 hn)
 rw [apR]at w2
 simp only [Ty,Tz,w1,w2,allT,okLk,ajd ls.length 8 (by omega)]
 cases ((List.range ls.length).all fun b=> !(Nc ls b||acM ls b)) <;> simp [Nat.beq]
theorem alS(ls:List (Int×Int))(hn:leN ls.length 9223372036854775807=true):Tn ls=okLk ls∧To ls=true:=by
 obtain⟨w1,w2⟩:=ano ls (fH.1 hn)
 rw [apR]at w2
 simp only [Tn,To,RO,w1,w2,allT,okLk,ajd ls.length 8 (by omega)]
 cases ((List.range ls.length).all fun b=> !(Nc ls b||acM ls b)) <;> simp [Nat.beq]
def aa3:List SV→List Entry→Option Out
 | [.one ⟨false,[.ref 0]⟩],[.row false 176 (.pair (.int .i64) (.int .i64)) x0]=>some ⟨.one ⟨false,[.val (.bool (okLk x0))]⟩,[.row false 176 acH x0],[],[leN x0.length 9223372036854775807]⟩
 |_,_=>none
def sV:PF prog:=PF.alt ai2 aa3 (by
 intro args es o h bK;unfold aa3 at h;split at h
 ·rename_i x0
  cases h
  have bK:=iu bK
  have hh:=al9 x0 bK
  obtain⟨e0,en⟩:=hh
  exact kU rfl (gZ en) (by simp only [e0] <;> rfl) rfl rfl
 ·cases h)
def aa1:List SV→List Entry→Option Out
 | [.one ⟨false,[.ref 0]⟩],[.row false 176 (.pair (.int .i64) (.int .i64)) x0]=>some ⟨.one ⟨false,[.val (.bool (okLk x0))]⟩,[.row false 176 acH x0],[],[leN x0.length 9223372036854775807]⟩
 |_,_=>none
def sU:PF prog:=PF.alt aiZ aa1 (by
 intro args es o h bK;unfold aa1 at h;split at h
 ·rename_i x0
  cases h
  have bK:=iu bK
  have hh:=alS x0 bK
  obtain⟨e0,en⟩:=hh
  exact kU rfl (gZ en) (by simp only [e0] <;> rfl) rfl rfl
 ·cases h)
abbrev tB:=Int×Int×Int×Int×List Int×List (Int×(Int×Int))×List (List Int)×List (Int×(Int×Int))×List (Int×Int)×List (Int×Int)
section
variable (y0:Int)(y6:List (List Int))
def mj:List Int:=Option.getD y6[Int.toNat y0]? (Ei (CTy.sl (2:TypeId) aiQ))
def Ha:Bool:=ltI y0 (↑y6.length:Int)
def ZK:Bool:=leI (0:Int) y0
def ZL:Bool:=ltN y0.toNat y6.length
def ZM:Bool:=leN (List.length (mj y0 y6)) (9223372036854775807:Nat)
def ZN:Bool:= !(!!areR (mj y0 y6)&&true)||leI (0:Int) y0
def ZO:Bool:= !(!!areR (mj y0 y6)&&true)||ltI y0 (↑y6.length:Int)
def ZP:Bool:= !(!!areR (mj y0 y6)&&true)||ltN y0.toNat y6.length
def ZQ:Bool:= !(!!areR (mj y0 y6)&&true)||zG y6
def ZR:Bool:=bif !areR (mj y0 y6)then true else(↑(List.length (bif !!areR (mj y0 y6)&&true then mj y0 y6 else [])):Int)!=zF y6
def ZS:Int:=IntKind.wrap .i64 (y0 + (1:Int))
end
def af4:tB→List (Nat×SV)
 |(y0,_,_,_,_,_,_,_,_,_)=> [(3,(.one ⟨false,[.val (.int .i64 y0)]⟩)),(1,(.one ⟨false,[.ptr 0 0]⟩))]
def afV:tB→List (Nat×Entry)
 |(_,y1,y2,y3,y4,y5,y6,y7,y8,y9)=> [(0,(.box 33 [.val (.int .i64 y1),.ref 1,.ref 2,.ref 3,.ref 4,.val (.int .i64 y2),.ref 5,.ref 6,.val (.int .i64 y3)])),(1,(.row false 2 aiQ y4)),(2,(.row false 169 acG y5)),(3,(.row false 24 (CTy.sl (2:TypeId) aiQ) y6)),(4,(.row false 100 acG y7)),(5,(.row false 173 acH y8)),(6,(.row false 176 acH y9))]
def agn:Nat→tB→List (Nat×SV)
 |0,(_,_,_,_,_,_,_,_,_,_)=> [(2,(.one ⟨false,[.val (.bool false)]⟩))]
 |_,(_,_,_,_,_,_,_,_,_,_)=> []
def agd:Nat→tB→List (Nat×Entry)
 |0,(_,y1,y2,y3,y4,y5,y6,y7,y8,y9)=> [(0,(.box 33 [.val (.int .i64 y1),.ref 1,.ref 2,.ref 3,.ref 4,.val (.int .i64 y2),.ref 5,.ref 6,.val (.int .i64 y3)])),(1,(.row false 2 aiQ y4)),(2,(.row false 169 acG y5)),(3,(.row false 24 (CTy.sl (2:TypeId) aiQ) y6)),(4,(.row false 100 acG y7)),(5,(.row false 173 acH y8)),(6,(.row false 176 acH y9))]
 |_,(_,y1,y2,y3,y4,y5,y6,y7,y8,y9)=> [(0,(.box 33 [.val (.int .i64 y1),.ref 1,.ref 2,.ref 3,.ref 4,.val (.int .i64 y2),.ref 5,.ref 6,.val (.int .i64 y3)])),(1,(.row false 2 aiQ y4)),(2,(.row false 169 acG y5)),(3,(.row false 24 (CTy.sl (2:TypeId) aiQ) y6)),(4,(.row false 100 acG y7)),(5,(.row false 173 acH y8)),(6,(.row false 176 acH y9))]
def Ep:tB→LT tB
 |(y0,y1,y2,y3,y4,y5,y6,y7,y8,y9)=> .ite (Ha y0 y6) (.need [ZK y0,Ha y0 y6,ZL y0 y6,ZM y0 y6,ZN y0 y6,ZO y0 y6,ZP y0 y6,ZQ y0 y6] (.ite (ZR y0 y6) (.ext 0 [(0,0),(1,1),(2,2),(3,3),(4,4),(5,5),(6,6)]) (.nrm ((ZS y0),y1,y2,y3,y4,y5,y6,y7,y8,y9) [(0,0),(1,1),(2,2),(3,3),(4,4),(5,5),(6,6)]))) (.ext 1 [(0,0),(1,1),(2,2),(3,3),(4,4),(5,5),(6,6)])
def Qd(s:St):Option tB:=
 (match s.look 3 with
 |some ⟨none,.one ⟨false,[.val (.int .i64 y0)]⟩⟩=>
 (match s.look 1 with
 |some ⟨none,.one ⟨false,[.ptr 448 0]⟩⟩=>
 (match s.ent 448 with
 |some (.box 33 [.val (.int .i64 y1),.ref 0,.ref 1,.ref 2,.ref 3,.val (.int .i64 y2),.ref 4,.ref 5,.val (.int .i64 y3)])=>
 (match s.ent 0 with
 |some (.row false 2 (.int .i64) y4)=>
 (match s.ent 1 with
 |some (.row false 169 (.pair (.int .i64) (.pair (.int .i64) (.int .i64))) y5)=>
 (match s.ent 2 with
 |some (.row false 24 (.sl 2 (.int .i64)) y6)=>
 (match s.ent 3 with
 |some (.row false 100 (.pair (.int .i64) (.pair (.int .i64) (.int .i64))) y7)=>
 (match s.ent 4 with
 |some (.row false 173 (.pair (.int .i64) (.int .i64)) y8)=>
 (match s.ent 5 with
 |some (.row false 176 (.pair (.int .i64) (.int .i64)) y9)=>
 some (y0,y1,y2,y3,y4,y5,y6,y7,y8,y9)
 |_=>none)
 |_=>none)
 |_=>none)
 |_=>none)
 |_=>none)
 |_=>none)
 |_=>none)
 |_=>none)
 |_=>none)
def gg:Lp tB where
 h:=⟨[27,28,29,30,31,34,35,36,37,38,39,40,41,42,43,44,45,46,47,48,49,50,51,2,32,33,3],[0,1,2,3,4,5,6],[],[]⟩
 JL:=af4
 JE:=afV
 XL:=agn
 XE:=agd
 q:=fun j=>match j with | 0=> .ret | _=> .exit 0
 tags:= [0,1]
 lt:=Ep
 fuel:=fun(y0,y1,y2,y3,y4,y5,y6,y7,y8,y9)=>y0.natAbs + y1.natAbs + y2.natAbs + y3.natAbs + y4.length + y5.length + y6.length + y7.length + y8.length + y9.length
 fix:=fun(_,y1,y2,y3,y4,y5,y6,y7,y8,y9) (y0,_,_,_,_,_,_,_,_,_)=>(y0,y1,y2,y3,y4,y5,y6,y7,y8,y9)
 σ:= [(0,448),(1,0),(2,1),(3,2),(4,3),(5,4),(6,5)]
 rd:=Qd
theorem ad5:LoopOk prog (fun k=>Nat.blt k Tryz.f24.ntmps) gg.F (aL f24 0):=by
 refine Lp.ok (tbl:= [fI,BT,PF.lend BT,PF.fz BT,BS,PF.lend BS,PF.fz BS,jZ,PF.lend jZ,PF.fz jZ,vd,PF.lend vd,PF.fz vd,jY,PF.lend jY,PF.fz jY,ac9,xR,PF.lend xR,PF.fz xR,sV,PF.lend sV,PF.fz sV]) (lf:= []) aM gg (by kernel_rfl) (LOk.nil _) (fun _=>rfl) (fun j _=>by unfold gg;match j with | 0=>rfl | _ + 1=>rfl) ?_ ?_ ?_ ?_ (fun _=>rfl) ?_
 ·rintro⟨y0,y1,y2,y3,y4,y5,y6,y7,y8,y9⟩;kernel_rfl
 ·rintro⟨y0,y1,y2,y3,y4,y5,y6,y7,y8,y9⟩;kernel_rfl
 ·intro s x h
  have h:Qd s=some x:=h
  unfold Qd at h
  repeat' split at h
  all_goals cases h
  exact⟨aa (by assumption) rfl (aa (by assumption) rfl (rfl)),ab rfl (by assumption) rfl (ab rfl (by assumption) rfl (ab rfl (by assumption) rfl (ab rfl (by assumption) rfl (ab rfl (by assumption) rfl (ab rfl (by assumption) rfl (ab rfl (by assumption) rfl (rfl)))))))⟩
 ·rintro⟨y0,y1,y2,y3,y4,y5,y6,y7,y8,y9⟩;kernel_rfl
 ·rintro⟨y0,y1,y2,y3,y4,y5,y6,y7,y8,y9⟩ z;exact(And.intro (And.intro trivial rfl) trivial)
section
variable (x0 x1 x2:Int)(x3:List Int)(x4:List (Int×Int×Int))(x5:List (List Int))(x6:List (Int×Int×Int))(x7 x8:List (Int×Int))
def Dg:Bool:=bif bif !isT x0 x3 then true else !(inR x0 (2:Int) (8:Int)&&okFs x0 x4)then true else(↑x5.length:Int)!=(↑x3.length:Int)
def VJ:Int×Int×Int×Int×List Int×List (Int×Int×Int)×List (List Int)×List (Int×Int×Int)×List (Int×Int)×List (Int×Int):=((0:Int),x0,x1,x2,x3,x4,x5,x6,x7,x8)
def GZ:Bool:=Nat.beq ((Lp.res gg (VJ x0 x1 x2 x3 x4 x5 x6 x7 x8)).1) (0:Nat)
def VK:Bool:=bif bif lfOk (zF x5) x6 then QI x1 else false then okPl x7 else false
def Yw:Bool:=bif Dg x0 x3 x4 x5 then false else bif GZ x0 x1 x2 x3 x4 x5 x6 x7 x8 then false else bif bif VK x1 x5 x6 x7 then okLk x8 else false then aT x2 (0:Int) (100000:Int)else false
def Yx:Bool:=allT [!(!!isT x0 x3&&true)||leN x4.length (9223372036854775807:Nat),Dg x0 x3 x4 x5||Lp.fin gg (VJ x0 x1 x2 x3 x4 x5 x6 x7 x8),Dg x0 x3 x4 x5||(GZ x0 x1 x2 x3 x4 x5 x6 x7 x8||zG x5),Dg x0 x3 x4 x5||(GZ x0 x1 x2 x3 x4 x5 x6 x7 x8||leN x6.length (9223372036854775807:Nat)),Dg x0 x3 x4 x5||(GZ x0 x1 x2 x3 x4 x5 x6 x7 x8||(!((bif lfOk (zF x5) x6 then QI x1 else false)&&true)||leN x7.length (9223372036854775807:Nat))),Dg x0 x3 x4 x5||(GZ x0 x1 x2 x3 x4 x5 x6 x7 x8||(!(VK x1 x5 x6 x7&&true)||leN x8.length (9223372036854775807:Nat)))]
end
def aen:List SV→List Entry→Option Out
 | [.one ⟨true,[.val (.int .i64 x0),.ref 0,.ref 1,.ref 2,.ref 3,.val (.int .i64 x1),.ref 4,.ref 5,.val (.int .i64 x2)]⟩],[.row false 2 (.int .i64) x3,.row false 169 (.pair (.int .i64) (.pair (.int .i64) (.int .i64))) x4,.row false 24 (.sl 2 (.int .i64)) x5,.row false 100 (.pair (.int .i64) (.pair (.int .i64) (.int .i64))) x6,.row false 173 (.pair (.int .i64) (.int .i64)) x7,.row false 176 (.pair (.int .i64) (.int .i64)) x8]=>some ⟨.one ⟨false,[.val (.bool (Yw x0 x1 x2 x3 x4 x5 x6 x7 x8))]⟩,[.row false 2 aiQ x3,.row false 169 acG x4,.row false 24 (CTy.sl (2:TypeId) aiQ) x5,.row false 100 acG x6,.row false 173 acH x7,.row false 176 acH x8],[],[Yx x0 x1 x2 x3 x4 x5 x6 x7 x8]⟩
 |_,_=>none
def akO:PF prog:=PF.ofG prog [fI,BT,PF.lend BT,PF.fz BT,BS,PF.lend BS,PF.fz BS,jZ,PF.lend jZ,PF.fz jZ,vd,PF.lend vd,PF.fz vd,jY,PF.lend jY,PF.fz jY,ac9,xR,PF.lend xR,PF.fz xR,sV,PF.lend sV,PF.fz sV] [gg.F] aM 24 f24 func24 (LOk.fnT (l:= [aL f24 0]) (by kernel_rfl) (.cons ad5 (.nil _))) aen (by
 intro vs es r h;unfold aen at h;split at h
 ·cases h;kernel_rfl
 ·cases h)
abbrev tA:=Int×Int×List (List Int)×Int×Int×Int×List Int×List (Int×(Int×Int))×List (Int×(Int×Int))×List (Int×Int)×List (Int×Int)
section
variable (y0 y1:Int)(y2:List (List Int))
def oL:List Int:=Option.getD y2[Int.toNat y0]? (Ei (CTy.sl (2:TypeId) aiQ))
def Ml:Bool:=ltI y0 y1
def Zn:Bool:=leI (0:Int) y0
def Zo:Bool:=ltI y0 (↑y2.length:Int)
def Zp:Bool:=ltN y0.toNat y2.length
def Zq:Bool:=leN (List.length (oL y0 y2)) (9223372036854775807:Nat)
def Zr:Bool:= !(!!areR (oL y0 y2)&&true)||leI (0:Int) (0:Int)
def Zs:Bool:= !(!!areR (oL y0 y2)&&true)||ltI (0:Int) (↑y2.length:Int)
def Zt:Bool:= !(!!areR (oL y0 y2)&&true)||ltN (Int.toNat (0:Int)) y2.length
def Zu:Bool:=bif !areR (oL y0 y2)then true else(↑(List.length (oL y0 y2)):Int)!=(↑(List.length (bif !!areR (oL y0 y2)&&true then Option.getD y2[Int.toNat (0:Int)]? (Ei (CTy.sl (2:TypeId) aiQ))else [])):Int)
def Zv:Int:=IntKind.wrap .i64 (y0 + (1:Int))
end
def af2:tA→List (Nat×SV)
 |(y0,y1,_,_,_,_,_,_,_,_,_)=> [(31,(.one ⟨false,[.val (.int .i64 y0)]⟩)),(30,(.one ⟨false,[.val (.int .i64 y1)]⟩)),(29,(.one ⟨false,[.ref 0]⟩)),(1,(.one ⟨false,[.ptr 1 0]⟩))]
def afT:tA→List (Nat×Entry)
 |(_,_,y2,y3,y4,y5,y6,y7,y8,y9,y10)=> [(0,(.row false 24 (CTy.sl (2:TypeId) aiQ) y2)),(1,(.box 33 [.val (.int .i64 y3),.ref 2,.ref 3,.ref 0,.ref 4,.val (.int .i64 y4),.ref 5,.ref 6,.val (.int .i64 y5)])),(2,(.row false 2 aiQ y6)),(3,(.row false 169 acG y7)),(4,(.row false 100 acG y8)),(5,(.row false 173 acH y9)),(6,(.row false 176 acH y10))]
def agl:Nat→tA→List (Nat×SV)
 |0,(_,_,_,_,_,_,_,_,_,_,_)=> [(2,(.one ⟨false,[.val (.bool false)]⟩))]
 |_,(_,_,_,_,_,_,_,_,_,_,_)=> []
def agb:Nat→tA→List (Nat×Entry)
 |0,(_,_,y2,y3,y4,y5,y6,y7,y8,y9,y10)=> [(0,(.row false 24 (CTy.sl (2:TypeId) aiQ) y2)),(1,(.box 33 [.val (.int .i64 y3),.ref 2,.ref 3,.ref 0,.ref 4,.val (.int .i64 y4),.ref 5,.ref 6,.val (.int .i64 y5)])),(2,(.row false 2 aiQ y6)),(3,(.row false 169 acG y7)),(4,(.row false 100 acG y8)),(5,(.row false 173 acH y9)),(6,(.row false 176 acH y10))]
 |_,(_,_,y2,y3,y4,y5,y6,y7,y8,y9,y10)=> [(0,(.row false 24 (CTy.sl (2:TypeId) aiQ) y2)),(1,(.box 33 [.val (.int .i64 y3),.ref 2,.ref 3,.ref 0,.ref 4,.val (.int .i64 y4),.ref 5,.ref 6,.val (.int .i64 y5)])),(2,(.row false 2 aiQ y6)),(3,(.row false 169 acG y7)),(4,(.row false 100 acG y8)),(5,(.row false 173 acH y9)),(6,(.row false 176 acH y10))]
def En:tA→LT tA
 |(y0,y1,y2,y3,y4,y5,y6,y7,y8,y9,y10)=> .ite (Ml y0 y1) (.need [Zn y0,Zo y0 y2,Zp y0 y2] (.need [Zq y0 y2,Zr y0 y2,Zs y0 y2,Zt y0 y2] (.ite (Zu y0 y2) (.ext 0 [(0,0),(1,1),(2,2),(3,3),(4,4),(5,5),(6,6)]) (.nrm ((Zv y0),y1,y2,y3,y4,y5,y6,y7,y8,y9,y10) [(0,0),(1,1),(2,2),(3,3),(4,4),(5,5),(6,6)])))) (.ext 1 [(0,0),(1,1),(2,2),(3,3),(4,4),(5,5),(6,6)])
def Qb(s:St):Option tA:=
 (match s.look 31 with
 |some ⟨none,.one ⟨false,[.val (.int .i64 y0)]⟩⟩=>
 (match s.look 30 with
 |some ⟨none,.one ⟨false,[.val (.int .i64 y1)]⟩⟩=>
 (match s.look 29 with
 |some ⟨none,.one ⟨false,[.ref 2]⟩⟩=>
 (match s.look 1 with
 |some ⟨none,.one ⟨false,[.ptr 448 0]⟩⟩=>
 (match s.ent 2 with
 |some (.row false 24 (.sl 2 (.int .i64)) y2)=>
 (match s.ent 448 with
 |some (.box 33 [.val (.int .i64 y3),.ref 0,.ref 1,.ref 2,.ref 3,.val (.int .i64 y4),.ref 4,.ref 5,.val (.int .i64 y5)])=>
 (match s.ent 0 with
 |some (.row false 2 (.int .i64) y6)=>
 (match s.ent 1 with
 |some (.row false 169 (.pair (.int .i64) (.pair (.int .i64) (.int .i64))) y7)=>
 (match s.ent 3 with
 |some (.row false 100 (.pair (.int .i64) (.pair (.int .i64) (.int .i64))) y8)=>
 (match s.ent 4 with
 |some (.row false 173 (.pair (.int .i64) (.int .i64)) y9)=>
 (match s.ent 5 with
 |some (.row false 176 (.pair (.int .i64) (.int .i64)) y10)=>
 some (y0,y1,y2,y3,y4,y5,y6,y7,y8,y9,y10)
 |_=>none)
 |_=>none)
 |_=>none)
 |_=>none)
 |_=>none)
 |_=>none)
 |_=>none)
 |_=>none)
 |_=>none)
 |_=>none)
 |_=>none)
def ge:Lp tA where
 h:=⟨[32,33,34,4,35,36,37,38,39,40,41,42,43,44,45,46,47,2,48,31],[0,1,2,3,4,5,6],[],[]⟩
 JL:=af2
 JE:=afT
 XL:=agl
 XE:=agb
 q:=fun j=>match j with | 0=> .ret | _=> .exit 0
 tags:= [0,1]
 lt:=En
 fuel:=fun(y0,y1,y2,y3,y4,y5,y6,y7,y8,y9,y10)=>y0.natAbs + y1.natAbs + y2.length + y3.natAbs + y4.natAbs + y5.natAbs + y6.length + y7.length + y8.length + y9.length + y10.length
 fix:=fun(_,y1,y2,y3,y4,y5,y6,y7,y8,y9,y10) (y0,_,_,_,_,_,_,_,_,_,_)=>(y0,y1,y2,y3,y4,y5,y6,y7,y8,y9,y10)
 σ:= [(0,2),(1,448),(2,0),(3,1),(4,3),(5,4),(6,5)]
 rd:=Qb
theorem ad3:LoopOk prog (fun k=>Nat.blt k Tryz.f23.ntmps) ge.F (aL f23 0):=by
 refine Lp.ok (tbl:= [BP,PF.lend BP,PF.fz BP,BR,PF.lend BR,PF.fz BR,tJ,PF.lend tJ,PF.fz tJ,tI,PF.lend tI,PF.fz tI,aQ,PF.lend aQ,PF.fz aQ,aeL,xQ,PF.lend xQ,PF.fz xQ,sU,PF.lend sU,PF.fz sU,PN]) (lf:= []) aM ge (by kernel_rfl) (LOk.nil _) (fun _=>rfl) (fun j _=>by unfold ge;match j with | 0=>rfl | _ + 1=>rfl) ?_ ?_ ?_ ?_ (fun _=>rfl) ?_
 ·rintro⟨y0,y1,y2,y3,y4,y5,y6,y7,y8,y9,y10⟩;kernel_rfl
 ·rintro⟨y0,y1,y2,y3,y4,y5,y6,y7,y8,y9,y10⟩;kernel_rfl
 ·intro s x h
  have h:Qb s=some x:=h
  unfold Qb at h
  repeat' split at h
  all_goals cases h
  exact⟨aa (by assumption) rfl (aa (by assumption) rfl (aa (by assumption) rfl (aa (by assumption) rfl (rfl)))),ab rfl (by assumption) rfl (ab rfl (by assumption) rfl (ab rfl (by assumption) rfl (ab rfl (by assumption) rfl (ab rfl (by assumption) rfl (ab rfl (by assumption) rfl (ab rfl (by assumption) rfl (rfl)))))))⟩
 ·rintro⟨y0,y1,y2,y3,y4,y5,y6,y7,y8,y9,y10⟩;kernel_rfl
 ·rintro⟨y0,y1,y2,y3,y4,y5,y6,y7,y8,y9,y10⟩ z;exact(And.intro (And.intro trivial rfl) trivial)
section
variable (x0 x1 x2:Int)(x3:List Int)(x4:List (Int×Int×Int))(x5:List (List Int))(x6:List (Int×Int×Int))(x7 x8:List (Int×Int))
def uM:Bool:=bif bif !isT x0 x3 then true else !okFs x0 x4 then true else(↑x5.length:Int)!=(↑x3.length:Int)
def UT:Int×Int×List (List Int)×Int×Int×Int×List Int×List (Int×Int×Int)×List (Int×Int×Int)×List (Int×Int)×List (Int×Int):=((0:Int),(↑x5.length:Int),x5,x0,x1,x2,x3,x4,x6,x7,x8)
def ym:Bool:=Nat.beq ((Lp.res ge (UT x0 x1 x2 x3 x4 x5 x6 x7 x8)).1) (0:Nat)
def PA:Bool:=bif lfOk (dd (Option.getD x5[Int.toNat (0:Int)]? (Ei (CTy.sl (2:TypeId) aiQ)))) x6 then Sq x1 else false
def Yb:Bool:=bif uM x0 x3 x4 x5 then false else bif ym x0 x1 x2 x3 x4 x5 x6 x7 x8 then false else bif bif bif PA x1 x5 x6 then okPl x7 else false then okLk x8 else false then xM x2 else false
def Yc:Bool:=allT [!(!!isT x0 x3&&true)||leN x4.length (9223372036854775807:Nat),uM x0 x3 x4 x5||Lp.fin ge (UT x0 x1 x2 x3 x4 x5 x6 x7 x8),uM x0 x3 x4 x5||(ym x0 x1 x2 x3 x4 x5 x6 x7 x8||leI (0:Int) (0:Int)),uM x0 x3 x4 x5||(ym x0 x1 x2 x3 x4 x5 x6 x7 x8||ltI (0:Int) (↑x5.length:Int)),uM x0 x3 x4 x5||(ym x0 x1 x2 x3 x4 x5 x6 x7 x8||ltN (Int.toNat (0:Int)) x5.length),uM x0 x3 x4 x5||(ym x0 x1 x2 x3 x4 x5 x6 x7 x8||leN x6.length (9223372036854775807:Nat)),uM x0 x3 x4 x5||(ym x0 x1 x2 x3 x4 x5 x6 x7 x8||(!(PA x1 x5 x6&&true)||leN x7.length (9223372036854775807:Nat))),uM x0 x3 x4 x5||(ym x0 x1 x2 x3 x4 x5 x6 x7 x8||(!((bif PA x1 x5 x6 then okPl x7 else false)&&true)||leN x8.length (9223372036854775807:Nat)))]
end
def aeh:List SV→List Entry→Option Out
 | [.one ⟨true,[.val (.int .i64 x0),.ref 0,.ref 1,.ref 2,.ref 3,.val (.int .i64 x1),.ref 4,.ref 5,.val (.int .i64 x2)]⟩],[.row false 2 (.int .i64) x3,.row false 169 (.pair (.int .i64) (.pair (.int .i64) (.int .i64))) x4,.row false 24 (.sl 2 (.int .i64)) x5,.row false 100 (.pair (.int .i64) (.pair (.int .i64) (.int .i64))) x6,.row false 173 (.pair (.int .i64) (.int .i64)) x7,.row false 176 (.pair (.int .i64) (.int .i64)) x8]=>some ⟨.one ⟨false,[.val (.bool (Yb x0 x1 x2 x3 x4 x5 x6 x7 x8))]⟩,[.row false 2 aiQ x3,.row false 169 acG x4,.row false 24 (CTy.sl (2:TypeId) aiQ) x5,.row false 100 acG x6,.row false 173 acH x7,.row false 176 acH x8],[],[Yc x0 x1 x2 x3 x4 x5 x6 x7 x8]⟩
 |_,_=>none
def akL:PF prog:=PF.ofG prog [BP,PF.lend BP,PF.fz BP,BR,PF.lend BR,PF.fz BR,tJ,PF.lend tJ,PF.fz tJ,tI,PF.lend tI,PF.fz tI,aQ,PF.lend aQ,PF.fz aQ,aeL,xQ,PF.lend xQ,PF.fz xQ,sU,PF.lend sU,PF.fz sU,PN] [ge.F] aM 23 f23 func23 (LOk.fnT (l:= [aL f23 0]) (by kernel_rfl) (.cons ad3 (.nil _))) aeh (by
 intro vs es r h;unfold aeh at h;split at h
 ·cases h;kernel_rfl
 ·cases h)
def am6(rs:List (List Int))(b:Nat):Bool:= !(areR (rs[b]?.getD [])&&(((rs[b]?.getD []).length:Int)==rowsR rs))
theorem am7(rs:List (List Int)):(List.range rs.length).any (am6 rs)= !rsOk rs:=by
 have ez: ∀ (l:List (List Int)) (P:List Int→Bool),((List.range l.length).any fun b=> !P (l[b]?.getD []))= !l.all P:=by
  intro l P
  rw [Bool.eq_iff_iff]
  simp only [List.any_eq_true,List.mem_range,Bool.not_eq_true',List.all_eq_false]
  constructor
  ·rintro⟨b,hb,h⟩
   rw [List.getElem?_eq_getElem hb]at h
   exact⟨l[b],List.getElem_mem hb,by simpa using h⟩
  ·rintro⟨x,hx,h⟩
   obtain⟨b,hb,rfl⟩:=List.getElem_of_mem hx
   exact⟨b,hb,by rw [List.getElem?_eq_getElem hb];simpa using h⟩
 exact ez rs fun st=>areR st&&((st.length:Int)==rowsR rs)
def Gb(m:Nat)(ps:List Int)(fs:List (Int×Int×Int))(rs:List (List Int))(lf:List (Int×Int×Int))(pl ls:List (Int×Int)):Bool:=leN ps.length m&&(leN fs.length m&&(aq5 m rs&&(leN lf.length m&&(leN pl.length m&&leN ls.length m))))
theorem Un{m:Nat}{ps:List Int}{fs:List (Int×Int×Int)}{rs:List (List Int)}{lf:List (Int×Int×Int)}{pl ls:List (Int×Int)}:
  Gb m ps fs rs lf pl ls=true↔ps.length≤m∧fs.length≤m∧(rs.length≤m∧ ∀ x∈rs,x.length≤m)∧lf.length≤m∧pl.length≤m∧ls.length≤m:=by
 simp only [Gb,Bool.and_eq_true,fH,aq6]
theorem aki{m k:Nat}{ps:List Int}{fs:List (Int×Int×Int)}{rs:List (List Int)}{lf:List (Int×Int×Int)}{pl ls:List (Int×Int)}(h:Gb m ps fs rs lf pl ls=true)(hk:m≤k):Gb k ps fs rs lf pl ls=true:=by
 obtain⟨h1,h2,⟨h3,h4⟩,h5,h6,h7⟩:=Un.1 h
 exact Un.2 ⟨by omega,by omega,⟨by omega,fun x hx=>by have:=h4 x hx;omega⟩,by omega,by omega,by omega⟩
theorem aqa(x y:List Int):(bif !areR x then true else((bif !!areR x&&true then x else []).length:Int)!=(y.length:Int))= !(areR x&&((x.length:Int)==(y.length:Int))):=by
 cases h:areR x <;> simp [bne]
theorem aqb(x y:List Int):(bif !areR x then true else(x.length:Int)!=((bif !!areR x&&true then y else []).length:Int))= !(areR x&&((x.length:Int)==(y.length:Int))):=by
 cases h:areR x <;> simp [bne]
theorem ap3(rs:List (List Int))(b:Nat):ZR (b:Int) rs=am6 rs b:=by
 exact aqa (rs[b]?.getD []) (rs[0]?.getD [])
theorem apK(rs:List (List Int))(b:Nat):Zu (b:Int) rs=am6 rs b:=by
 exact aqb (rs[b]?.getD []) (rs[0]?.getD [])
theorem aow(n mode day:Int)(ps:List Int)(fs:List (Int×Int×Int))(rs:List (List Int))(lf:List (Int×Int×Int))(pl ls:List (Int×Int))(hn:rs.length≤9223372036854775807)(hA: ∀ x∈rs,x.length≤9223372036854775807):
  gg.fin ((0:Int),n,mode,day,ps,fs,rs,lf,pl,ls)=true∧(gg.res ((0:Int),n,mode,day,ps,fs,rs,lf,pl,ls)).1=bif !rsOk rs then 0 else 1:=by
 rw [← am7]
 refine Lp.scan gg (fun b=>((b:Int),n,mode,day,ps,fs,rs,lf,pl,ls)) rs.length (am6 rs) 1 (by simp only [gg];omega) (fun b hb=> ?_) ?_
 ·have cR:ltI (b:Int) (rs.length:Int)=true:=fj (by omega)
  have hdec0:ltI 0 (rs.length:Int)=true:=fj (by omega)
  have hw:IntKind.i64.wrap ((b:Int) + 1)=((b + 1:Nat):Int):=by rw [ag (by omega) (by omega)];omega
  have ta:leI (0:Int) (b:Int)=true:=da (by omega)
  have fB:ltN b rs.length=true:=gp (by omega)
  have hlt0:ltN 0 rs.length=true:=gp (by omega)
  have h6:leN (mj (b:Int) rs).length 9223372036854775807=true:=br (by
   simp only [mj,Int.toNat_natCast]
   cases hq:rs[b]? with
   |none=>exact Nat.zero_le _
   |some x=>exact hA x (List.mem_of_getElem? hq))
  have i2:=ap3 rs b
  refine⟨?_,?_,?_⟩
  ·simp [gg,Ep,LT.nds,allT,Ha,ZK,ZL,ZM,ZN,ZO,ZP,ZQ,zG,cR,hdec0,ta,fB,hlt0,h6]
  ·simp [gg,Ep,LT.each,ZS,hw]
  ·simp only [gg,Ep,LT.fn,Ha,cR,i2,cond_true]
 ·simp [gg,Ep,LT.out,Ha]
theorem aov(n mode day:Int)(ps:List Int)(fs:List (Int×Int×Int))(rs:List (List Int))(lf:List (Int×Int×Int))(pl ls:List (Int×Int))(hn:rs.length≤9223372036854775807)(hA: ∀ x∈rs,x.length≤9223372036854775807):
  ge.fin ((0:Int),(rs.length:Int),rs,n,mode,day,ps,fs,lf,pl,ls)=true∧(ge.res ((0:Int),(rs.length:Int),rs,n,mode,day,ps,fs,lf,pl,ls)).1=bif !rsOk rs then 0 else 1:=by
 rw [← am7]
 refine Lp.scan ge (fun b=>((b:Int),(rs.length:Int),rs,n,mode,day,ps,fs,lf,pl,ls)) rs.length (am6 rs) 1 (by simp only [ge];omega) (fun b hb=> ?_) ?_
 ·have cR:ltI (b:Int) (rs.length:Int)=true:=fj (by omega)
  have hdec0:ltI 0 (rs.length:Int)=true:=fj (by omega)
  have hw:IntKind.i64.wrap ((b:Int) + 1)=((b + 1:Nat):Int):=by rw [ag (by omega) (by omega)];omega
  have ta:leI (0:Int) (b:Int)=true:=da (by omega)
  have fB:ltN b rs.length=true:=gp (by omega)
  have hlt0:ltN 0 rs.length=true:=gp (by omega)
  have h6:leN (oL (b:Int) rs).length 9223372036854775807=true:=br (by
   simp only [oL,Int.toNat_natCast]
   cases hq:rs[b]? with
   |none=>exact Nat.zero_le _
   |some x=>exact hA x (List.mem_of_getElem? hq))
  have i2:=apK rs b
  have h00:leI 0 0=true:=rfl
  refine⟨?_,?_,?_⟩
  ·simp [ge,En,LT.nds,allT,Ml,Zn,Zo,Zp,Zq,Zr,Zs,Zt,cR,hdec0,ta,fB,hlt0,h6,h00]
  ·simp [ge,En,LT.each,Zv,hw]
  ·simp only [ge,En,LT.fn,Ml,cR,i2,cond_true]
 ·simp [ge,En,LT.out,Ml]
theorem aqr{n:Int}{ps:List Int}(h:isT n ps=true):inR n 2 8=true:=sf.2 (DL.1 h).1
theorem apx(a b:Nat):((a:Int)!=(b:Int))= !decide (a=b):=by
 by_cases h:a=b
 ·subst h;simp
 ·have:(a:Int)≠(b:Int):=by omega
  simp [h,this]
theorem ani(n mode day:Int)(ps:List Int)(fs:List (Int×Int×Int))(rs:List (List Int))(lf:List (Int×Int×Int))(pl ls:List (Int×Int))(h:Gb 9223372036854775807 ps fs rs lf pl ls=true):
  Yw n mode day ps fs rs lf pl ls=re n ps fs rs lf mode pl ls day∧Yx n mode day ps fs rs lf pl ls=true:=by
 obtain⟨h1,h2,⟨h3,h4⟩,h5,h6,h7⟩:=Un.1 h
 obtain⟨w1,w2⟩:=aow n mode day ps fs rs lf pl ls h3 h4
 have e:Ei (CTy.sl (2:TypeId) aiQ)= []:=rfl
 have er:zF rs=rowsR rs:=rfl
 have q5:leN lf.length 9223372036854775807=true:=br h5
 have q6:leN pl.length 9223372036854775807=true:=br h6
 have q7:leN ls.length 9223372036854775807=true:=br h7
 have q2:leN fs.length 9223372036854775807=true:=br h2
 simp only [Yw,Yx,Dg,VJ,GZ,VK,w1,w2,er,apx,re,QI,aT,wq,allT,q2,q5,q6,q7,Bool.or_true,cond_true]
 cases hT:isT n ps with
 |false=>simp
 |true=>
  rw [aqr hT]
  cases hF:okFs n fs with
  |false=>simp
  |true=>
   cases hl:decide (rs.length=ps.length)with
   |false=>simp
   |true=>
    have hl:rs.length=ps.length:=by simpa using hl
    have:=(DL.1 hT).2.1
    have r1:zG rs=true:=by
     have a1:ltI 0 (rs.length:Int)=true:=fj (by omega)
     have a2:ltN 0 rs.length=true:=gp (by omega)
     simp [zG,allT,a1,a2]
    cases rsOk rs with
    |false=>simp
    |true=>
     rw [r1]
     cases lfOk (rowsR rs) lf <;> cases inR mode 0 5 <;> cases okPl pl <;> cases okLk ls <;> simp [Nat.beq]
theorem amM(n mode day:Int)(ps:List Int)(fs:List (Int×Int×Int))(rs:List (List Int))(lf:List (Int×Int×Int))(pl ls:List (Int×Int))(h:Gb 9223372036854775807 ps fs rs lf pl ls=true):
  Yb n mode day ps fs rs lf pl ls=re n ps fs rs lf mode pl ls day∧Yc n mode day ps fs rs lf pl ls=true:=by
 obtain⟨h1,h2,⟨h3,h4⟩,h5,h6,h7⟩:=Un.1 h
 obtain⟨w1,w2⟩:=aov n mode day ps fs rs lf pl ls h3 h4
 have e:Ei (CTy.sl (2:TypeId) aiQ)= []:=rfl
 have er:PA mode rs lf=(bif lfOk (rowsR rs) lf then Sq mode else false):=rfl
 have q5:leN lf.length 9223372036854775807=true:=br h5
 have q6:leN pl.length 9223372036854775807=true:=br h6
 have q7:leN ls.length 9223372036854775807=true:=br h7
 have q2:leN fs.length 9223372036854775807=true:=br h2
 have h00:leI 0 0=true:=rfl
 simp only [Yb,Yc,uM,UT,ym,er,w1,w2,apx,re,Sq,xM,bm,wq,allT,q2,q5,q6,q7,h00,Bool.or_true,cond_true]
 cases hT:isT n ps with
 |false=>simp
 |true=>
  cases hF:okFs n fs with
  |false=>simp
  |true=>
   cases hl:decide (rs.length=ps.length)with
   |false=>simp
   |true=>
    have hl:rs.length=ps.length:=by simpa using hl
    have:=(DL.1 hT).2.1
    have a1:ltI 0 (rs.length:Int)=true:=fj (by omega)
    have a2:ltN (Int.toNat 0) rs.length=true:=gp (by simp;omega)
    rw [a1,a2]
    cases rsOk rs with
    |false=>simp
    |true=>
     cases lfOk (rowsR rs) lf <;> cases inR mode 0 5 <;> cases okPl pl <;> cases okLk ls <;> simp [Nat.beq]
theorem an5{n:Int}{ps:List Int}{fs:List (Int×Int×Int)}{rs:List (List Int)}{lf:List (Int×Int×Int)}{mode:Int}{pl ls:List (Int×Int)}{day:Int}:
  re n ps fs rs lf mode pl ls day=true↔isT n ps=true∧okFs n fs=true∧rs.length=ps.length∧rsOk rs=true∧lfOk (rowsR rs) lf=true∧inR mode 0 5=true∧okPl pl=true∧okLk ls=true∧inR day 0 100000=true:=by
 simp only [re,Bool.and_eq_true,decide_eq_true_eq]
theorem amU{n:Int}{fs:List (Int×Int×Int)}(h:okFs n fs=true):fs.length≤8:=by
 simp only [okFs,Bool.and_eq_true,fH]at h;exact h.1
theorem apQ{n:Int}{fs:List (Int×Int×Int)}(h:lfOk n fs=true):fs.length≤8:=by
 simp only [lfOk,Bool.and_eq_true]at h;exact amU h.2
def aey:List SV→List Entry→Option Out
 | [.one ⟨true,[.val (.int .i64 x0),.ref 0,.ref 1,.ref 2,.ref 3,.val (.int .i64 x1),.ref 4,.ref 5,.val (.int .i64 x2)]⟩],[.row false 2 (.int .i64) x3,.row false 169 (.pair (.int .i64) (.pair (.int .i64) (.int .i64))) x4,.row false 24 (.sl 2 (.int .i64)) x5,.row false 100 (.pair (.int .i64) (.pair (.int .i64) (.int .i64))) x6,.row false 173 (.pair (.int .i64) (.int .i64)) x7,.row false 176 (.pair (.int .i64) (.int .i64)) x8]=>some ⟨.one ⟨false,[.val (.bool (re x0 x3 x4 x5 x6 x1 x7 x8 x2))]⟩,[.row false 2 aiQ x3,.row false 169 acG x4,.row false 24 (CTy.sl (2:TypeId) aiQ) x5,.row false 100 acG x6,.row false 173 acH x7,.row false 176 acH x8],[],[Gb 9223372036854775807 x3 x4 x5 x6 x7 x8]⟩
 |_,_=>none
def qP:PF prog:=PF.alt akO aey (by
 intro args es o h bK;unfold aey at h;split at h
 ·rename_i x0 x1 x2 x3 x4 x5 x6 x7 x8
  cases h
  have bK:=iu bK
  have hh:=ani x0 x1 x2 x3 x4 x5 x6 x7 x8 bK
  obtain⟨e0,en⟩:=hh
  exact kU rfl (gZ en) (by simp only [e0] <;> rfl) rfl rfl
 ·cases h)
def aew:List SV→List Entry→Option Out
 | [.one ⟨true,[.val (.int .i64 x0),.ref 0,.ref 1,.ref 2,.ref 3,.val (.int .i64 x1),.ref 4,.ref 5,.val (.int .i64 x2)]⟩],[.row false 2 (.int .i64) x3,.row false 169 (.pair (.int .i64) (.pair (.int .i64) (.int .i64))) x4,.row false 24 (.sl 2 (.int .i64)) x5,.row false 100 (.pair (.int .i64) (.pair (.int .i64) (.int .i64))) x6,.row false 173 (.pair (.int .i64) (.int .i64)) x7,.row false 176 (.pair (.int .i64) (.int .i64)) x8]=>some ⟨.one ⟨false,[.val (.bool (re x0 x3 x4 x5 x6 x1 x7 x8 x2))]⟩,[.row false 2 aiQ x3,.row false 169 acG x4,.row false 24 (CTy.sl (2:TypeId) aiQ) x5,.row false 100 acG x6,.row false 173 acH x7,.row false 176 acH x8],[],[Gb 9223372036854775807 x3 x4 x5 x6 x7 x8]⟩
 |_,_=>none
def Yh:PF prog:=PF.alt akL aew (by
 intro args es o h bK;unfold aew at h;split at h
 ·rename_i x0 x1 x2 x3 x4 x5 x6 x7 x8
  cases h
  have bK:=iu bK
  have hh:=amM x0 x1 x2 x3 x4 x5 x6 x7 x8 bK
  obtain⟨e0,en⟩:=hh
  exact kU rfl (gZ en) (by simp only [e0] <;> rfl) rfl rfl
 ·cases h)
def afv(x0:Int):Bool:=x0 !=(2:Int)
def Uq:List SV→List Entry→Option Out
 | [.one ⟨false,[.val (.int .i64 x0)]⟩],[]=>some ⟨.one ⟨false,[.val (.bool (afv x0))]⟩,[],[],[]⟩
 |_,_=>none
def afD:PF prog:=PF.ofG prog [] [] aM 159 f159 func159 (fun c _=>LOk.nil c) Uq (by
 intro vs es r h;unfold Uq at h;split at h
 ·cases h;kernel_rfl
 ·cases h)
def xK(x0:Int):Bool:=x0 !=(2:Int)
def MU:List SV→List Entry→Option Out
 | [.one ⟨false,[.val (.int .i64 x0)]⟩],[]=>some ⟨.one ⟨false,[.val (.bool (xK x0))]⟩,[],[],[]⟩
 |_,_=>none
def Ng:PF prog:=PF.ofG prog [] [] aM 159 f159 func159 (fun c _=>LOk.nil c) MU (by
 intro vs es r h;unfold MU at h;split at h
 ·cases h;kernel_rfl
 ·cases h)
abbrev bk:=Int×Int×List Int
section
variable (y0 y1:Int)(y2:List Int)
def gz:Bool:=ltI y0 y1
def gA:Bool:=leI (0:Int) y0
def gB:Bool:=ltI y0 (↑y2.length:Int)
def gC:Bool:=ltN y0.toNat y2.length
def gD:Bool:=xK (Option.getD y2[Int.toNat y0]? (0:Int))
def gE:Int:=IntKind.wrap .i64 (y0 + (1:Int))
end
def JR:bk→List (Nat×SV)
 |(y0,y1,_)=> [(8,(.one ⟨false,[.val (.int .i64 y0)]⟩)),(7,(.one ⟨false,[.val (.int .i64 y1)]⟩)),(1,(.one ⟨false,[.val (.func (.func 159) ⟨[]⟩ ⟨[]⟩)]⟩)),(0,(.one ⟨false,[.ref 0]⟩))]
def JP:bk→List (Nat×Entry)
 |(_,_,y2)=> [(0,(.row false 2 aiQ y2))]
def JV:Nat→bk→List (Nat×SV)
 |0,(y0,_,_)=> [(4,(.one ⟨false,[.val (.int .i64 y0)]⟩))]
 |_,(_,_,_)=> []
def JT:Nat→bk→List (Nat×Entry)
 |0,(_,_,y2)=> [(0,(.row false 2 aiQ y2))]
 |_,(_,_,y2)=> [(0,(.row false 2 aiQ y2))]
def fX:bk→LT bk
 |(y0,y1,y2)=> .ite (gz y0 y1) (.need [gA y0,gB y0 y2,gC y0 y2] (.ite (gD y0 y2) (.ext 0 [(0,0)]) (.nrm ((gE y0),y1,y2) [(0,0)]))) (.ext 1 [(0,0)])
def ox(s:St):Option bk:=
 (match s.look 8 with
 |some ⟨none,.one ⟨false,[.val (.int .i64 y0)]⟩⟩=>
 (match s.look 7 with
 |some ⟨none,.one ⟨false,[.val (.int .i64 y1)]⟩⟩=>
 (match s.look 1 with
 |some ⟨none,.one ⟨false,[.val (.func (.func 159) ⟨[]⟩ ⟨[]⟩)]⟩⟩=>
 (match s.look 0 with
 |some ⟨none,.one ⟨false,[.ref 0]⟩⟩=>
 (match s.ent 0 with
 |some (.row false 2 (.int .i64) y2)=>
 some (y0,y1,y2)
 |_=>none)
 |_=>none)
 |_=>none)
 |_=>none)
 |_=>none)
def aA:Lp bk where
 h:=⟨[9,10,5,11,12,13,14,15,16,17,4,18,8],[0],[],[]⟩
 JL:=JR
 JE:=JP
 XL:=JV
 XE:=JT
 q:=fun j=>match j with | 0=> .ret | _=> .exit 0
 tags:= [0,1]
 lt:=fX
 fuel:=fun(y0,y1,y2)=>y0.natAbs + y1.natAbs + y2.length
 fix:=fun(_,y1,y2) (y0,_,_)=>(y0,y1,y2)
 σ:= [(0,0)]
 rd:=ox
theorem Ix:LoopOk prog (fun k=>Nat.blt k Tryz.f211.ntmps) aA.F (aL f211 0):=by
 refine Lp.ok (tbl:= [Ng]) (lf:= []) aM aA (by kernel_rfl) (LOk.nil _) (fun _=>rfl) (fun j _=>by unfold aA;match j with | 0=>rfl | _ + 1=>rfl) ?_ ?_ ?_ ?_ (fun _=>rfl) ?_
 ·rintro⟨y0,y1,y2⟩;kernel_rfl
 ·rintro⟨y0,y1,y2⟩;kernel_rfl
 ·intro s x h
  have h:ox s=some x:=h
  unfold ox at h
  repeat' split at h
  all_goals cases h
  exact⟨aa (by assumption) rfl (aa (by assumption) rfl (aa (by assumption) rfl (aa (by assumption) rfl (rfl)))),ab rfl (by assumption) rfl (rfl)⟩
 ·rintro⟨y0,y1,y2⟩;kernel_rfl
 ·rintro⟨y0,y1,y2⟩ z;exact(And.intro (And.intro trivial rfl) trivial)
section
variable (x0:List Int)
def kS:Int×Int×List Int:=((0:Int),(↑x0.length:Int),x0)
def rW:Int:=bif Nat.beq ((Lp.res aA (kS x0)).1) (0:Nat)then ((Lp.res aA (kS x0)).2).1else(-1:Int)
def rX:Bool:=allT [Lp.fin aA (kS x0)]
end
def AA:List SV→List Entry→Option Out
 | [.one ⟨false,[.ref 0]⟩,.one ⟨false,[.val (.func (.func 159) ⟨[]⟩ ⟨[]⟩)]⟩],[.row false 2 (.int .i64) x0]=>some ⟨.one ⟨false,[.val (.int .i64 (rW x0))]⟩,[.row false 2 aiQ x0],[],[rX x0]⟩
 |_,_=>none
def rT:PF prog:=PF.ofG prog [Ng] [aA.F] aM 211 f211 func211 (LOk.fnT (l:= [aL f211 0]) (by kernel_rfl) (.cons Ix (.nil _))) AA (by
 intro vs es r h;unfold AA at h;split at h
 ·cases h;kernel_rfl
 ·cases h)
def px(x0:List Int):Bool:=leI (0:Int) (rW x0)
def py(x0:List Int):Bool:=allT [rX x0]
def xE:List SV→List Entry→Option Out
 | [.one ⟨false,[.ref 0]⟩,.one ⟨false,[.val (.func (.func 159) ⟨[]⟩ ⟨[]⟩)]⟩],[.row false 2 (.int .i64) x0]=>some ⟨.one ⟨false,[.val (.bool (px x0))]⟩,[.row false 2 aiQ x0],[],[py x0]⟩
 |_,_=>none
def pt:PF prog:=PF.ofG prog [rT,PF.lend rT,PF.fz rT] [] aM 158 f158 func158 (fun c _=>LOk.nil c) xE (by
 intro vs es r h;unfold xE at h;split at h
 ·cases h;kernel_rfl
 ·cases h)
def RT(x0:List Int):Bool:= !px x0
def RU(x0:List Int):Bool:=allT [py x0]
def YE:List SV→List Entry→Option Out
 | [.one ⟨false,[.ref 0]⟩],[.row false 2 (.int .i64) x0]=>some ⟨.one ⟨false,[.val (.bool (RT x0))]⟩,[.row false 2 aiQ x0],[],[RU x0]⟩
 |_,_=>none
def ahW:PF prog:=PF.ofG prog [afD,pt,PF.lend pt,PF.fz pt] [] aM 64 f64 func64 (fun c _=>LOk.nil c) YE (by
 intro vs es r h;unfold YE at h;split at h
 ·cases h;kernel_rfl
 ·cases h)
def cj(x0 x3:Int)(x4:List Int):Bool:=Option.getD x4[Int.toNat x3]? (0:Int)==IntKind.wrap .i64 (IntKind.wrap .i64 ((3:Int) * IntKind.wrap .i64 (x0 - (1:Int))) + (1:Int))
def rt(x3:Int)(x4:List Int):Bool:=allT [leI (0:Int) x3,ltI x3 (↑x4.length:Int),ltN x3.toNat x4.length]
def YM:List SV→List Entry→Option Out
 | [.one ⟨true,[.val (.int .i64 x0),.ref 0,.ref 1,.ref 2,.ref 3,.val (.int .i64 _x1),.ref 4,.ref 5,.val (.int .i64 _x2)]⟩,.one ⟨false,[.val (.int .i64 x3)]⟩],[.row false 2 (.int .i64) x4,.row false 169 (.pair (.int .i64) (.pair (.int .i64) (.int .i64))) x5,.row false 24 (.sl 2 (.int .i64)) x6,.row false 100 (.pair (.int .i64) (.pair (.int .i64) (.int .i64))) x7,.row false 173 (.pair (.int .i64) (.int .i64)) x8,.row false 176 (.pair (.int .i64) (.int .i64)) x9]=>some ⟨.one ⟨false,[.val (.bool (cj x0 x3 x4))]⟩,[.row false 2 aiQ x4,.row false 169 acG x5,.row false 24 (CTy.sl (2:TypeId) aiQ) x6,.row false 100 acG x7,.row false 173 acH x8,.row false 176 acH x9],[],[rt x3 x4]⟩
 |_,_=>none
def gm:PF prog:=PF.ofG prog [] [] aM 93 f93 func93 (fun c _=>LOk.nil c) YM (by
 intro vs es r h;unfold YM at h;split at h
 ·cases h;kernel_rfl
 ·cases h)
abbrev ky:=Int×Int×List Int
section
variable (y0 y1:Int)(y2:List Int)
def vY:Int:=Option.getD y2[Int.toNat y0]? (0:Int)
def xh:Bool:=ltI y0 (↑y2.length:Int)
def Dy:Bool:=leI (0:Int) y0
def Dz:Bool:=ltN y0.toNat y2.length
def DA:Int:=IntKind.wrap .i64 (y0 + (1:Int))
def DB:Int:=ajD (vY y0 y2) y1 (vY y0 y2) y1
end
def adN:ky→List (Nat×SV)
 |(y0,y1,_)=> [(4,(.one ⟨false,[.val (.int .i64 y0)]⟩)),(0,(.one ⟨false,[.ref 0]⟩)),(3,(.one ⟨false,[.val (.int .i64 y1)]⟩))]
def adG:ky→List (Nat×Entry)
 |(_,_,y2)=> [(0,(.row false 2 aiQ y2))]
def ad1:Nat→ky→List (Nat×SV)
 |_,(_,y1,_)=> [(3,(.one ⟨false,[.val (.int .i64 y1)]⟩))]
def adU:Nat→ky→List (Nat×Entry)
 |_,(_,_,y2)=> [(0,(.row false 2 aiQ y2))]
def AM:ky→LT ky
 |(y0,y1,y2)=> .ite (xh y0 y2) (.need [Dy y0,xh y0 y2,Dz y0 y2] (.nrm ((DA y0),DB y0 y1 y2,y2) [(0,0)])) (.ext 0 [(0,0)])
def ML(s:St):Option ky:=
 (match s.look 4 with
 |some ⟨none,.one ⟨false,[.val (.int .i64 y0)]⟩⟩=>
 (match s.look 0 with
 |some ⟨none,.one ⟨false,[.ref 0]⟩⟩=>
 (match s.look 3 with
 |some ⟨none,.one ⟨false,[.val (.int .i64 y1)]⟩⟩=>
 (match s.ent 0 with
 |some (.row false 2 (.int .i64) y2)=>
 some (y0,y1,y2)
 |_=>none)
 |_=>none)
 |_=>none)
 |_=>none)
def fe:Lp ky where
 h:=⟨[8,9,10,11,14,15,16,17,18,19,3,12,13,4],[0],[],[]⟩
 JL:=adN
 JE:=adG
 XL:=ad1
 XE:=adU
 q:=fun j=>match j with | _=> .exit 0
 tags:= [0]
 lt:=AM
 fuel:=fun(y0,y1,y2)=>y0.natAbs + y1.natAbs + y2.length
 fix:=fun(_,_,y2) (y0,y1,_)=>(y0,y1,y2)
 σ:= [(0,0)]
 rd:=ML
theorem abE:LoopOk prog (fun k=>Nat.blt k Tryz.f176.ntmps) fe.F (aL f176 0):=by
 refine Lp.ok (tbl:= []) (lf:= []) aM fe (by kernel_rfl) (LOk.nil _) (fun _=>rfl) (fun _ _=>rfl) ?_ ?_ ?_ ?_ (fun _=>rfl) ?_
 ·rintro⟨y0,y1,y2⟩;kernel_rfl
 ·rintro⟨y0,y1,y2⟩;kernel_rfl
 ·intro s x h
  have h:ML s=some x:=h
  unfold ML at h
  repeat' split at h
  all_goals cases h
  exact⟨aa (by assumption) rfl (aa (by assumption) rfl (aa (by assumption) rfl (rfl))),ab rfl (by assumption) rfl (rfl)⟩
 ·rintro⟨y0,y1,y2⟩;kernel_rfl
 ·rintro⟨y0,y1,y2⟩ z;exact(And.intro rfl trivial)
section
variable (x0:List Int)
def Hl:Int×Int×List Int:=((1:Int),Option.getD x0[Int.toNat (0:Int)]? (0:Int),x0)
def Ar:Int:=((Lp.res fe (Hl x0)).2.2).1
def JA:Bool:=allT [ltI (0:Int) (↑x0.length:Int),ltN (Int.toNat (0:Int)) x0.length,Lp.fin fe (Hl x0)]
end
def aaZ:List SV→List Entry→Option Out
 | [.one ⟨false,[.ref 0]⟩],[.row false 2 (.int .i64) x0]=>some ⟨.one ⟨false,[.val (.int .i64 (Ar x0))]⟩,[.row false 2 aiQ x0],[],[JA x0]⟩
 |_,_=>none
def Tx:PF prog:=PF.ofG prog [] [fe.F] aM 176 f176 func176 (LOk.fnT (l:= [aL f176 0]) (by kernel_rfl) (.cons abE (.nil _))) aaZ (by
 intro vs es r h;unfold aaZ at h;split at h
 ·cases h;kernel_rfl
 ·cases h)
def PG(st:List Int):Bool:=st.all fun x=>x==2
def mK(b:Int):(Int)→Nat ⊕ (Int)
 |y1=>(.inr (ajD b y1 b y1))
def lC(y2:List Int)(i:Nat):(Int)→ky
 |y1=>(((i + 1:Nat):Int),y1,y2)
def ME:ky→Int
 |(_,y1,_)=>y1
theorem Wl(y2:List Int)(y1:Int)(hn:y2.length≤9223372036854775807):
  fe.fin ((1:Int),y1,y2)=true∧fe.res ((1:Int),y1,y2)=((aO (mK) 0 (y2.drop 1) 0 y1).1,(lC y2) (aO (mK) 0 (y2.drop 1) 0 y1).2.1 (aO (mK) 0 (y2.drop 1) 0 y1).2.2):=by
 have ez:=fe.along (lC y2) ME (mK) 0 (fun _ _=>True) (y2.drop 1) y1 (by trivial) (by simp only [fe,lC,List.length_drop];omega) (fun i b a hb hI=> ?_) (fun a hI=> ?_)
 ·exact ez
 ·obtain y1:=a
  rw [List.getElem?_drop,Nat.add_comm]at hb
  have dZ:=(List.getElem?_eq_some_iff.1 hb).1
  have gQ: ∀ d,Option.getD y2[i + 1]? d=b:=fun d=>by rw [hb];rfl
  have hw:IntKind.i64.wrap (((i + 1:Nat):Int) + 1)=((i + 1 + 1:Nat):Int):=by rw [ag (by omega) (by omega)];omega
  have cR:ltI ((i + 1:Nat):Int) (y2.length:Int)=true:=fj (by omega)
  have ta:leI (0:Int) ((i + 1:Nat):Int)=true:=da (by omega)
  have fB:ltN (i + 1) y2.length=true:=gp dZ
  refine⟨?_,?_,?_,?_⟩
  ·simp only [vY,xh,Dy,Dz,DA,DB,AM,fe,LT.nds,allT,lC,Int.toNat_natCast,cR,ta,fB,gQ,cond_true]
  ·simp only [vY,xh,Dy,Dz,DA,DB,AM,fe,LT.each,lC,ME,hw,and_self]
  ·simp only [vY,xh,Dy,Dz,DA,DB,AM,fe,LT.fn,lC,ME,mK,Int.toNat_natCast,cR,ta,fB,gQ,cond_true,Bool.cond_self]
  ·exact fun _ _=>trivial
 ·obtain y1:=a
  simp only [vY,xh,Dy,Dz,DA,DB,AM,fe,LT.out,lC,List.length_drop];rw [show ltI (((y2.length - 1) + 1:Nat):Int) (y2.length:Int)=false from aiu (by omega)];rfl
def dG(b:Int):(Unit)→Nat ⊕ (Unit)
 |_=>(bif(xK b)then(.inl 0)else(.inr ()))
def bR(y2:List Int)(i:Nat):(Unit)→bk
 |_=>((i:Int),(↑y2.length:Int),y2)
def ov:bk→Unit
 |(_,_,_)=>()
theorem KR(y2:List Int) (hn:y2.length≤9223372036854775807):
  aA.fin ((0:Int),(↑y2.length:Int),y2)=true∧aA.res ((0:Int),(↑y2.length:Int),y2)=((aO (dG) 1 y2 0 ()).1,(bR y2) (aO (dG) 1 y2 0 ()).2.1 (aO (dG) 1 y2 0 ()).2.2):=by
 have ez:=aA.along (bR y2) ov (dG) 1 (fun _ _=>True) y2 () (by trivial) (by simp only [aA,bR];omega) (fun i b a hb hI=> ?_) (fun a hI=> ?_)
 ·exact ez
 ·obtain⟨⟩:=a
  have dZ:=(List.getElem?_eq_some_iff.1 hb).1
  have gQ: ∀ d,Option.getD y2[i]? d=b:=fun d=>by rw [hb];rfl
  have hw:=tw dZ hn
  have cR:ltI (i:Int) (y2.length:Int)=true:=fj (by omega)
  have ta:leI (0:Int) (i:Int)=true:=da (by omega)
  have fB:ltN i y2.length=true:=gp dZ
  refine⟨?_,?_,?_,?_⟩
  ·simp [gz,gA,gB,gC,gD,gE,fX,aA,LT.nds,allT,bR,cR,ta,fB,gQ]
  ·simp [gz,gA,gB,gC,gD,gE,fX,aA,LT.each,bR,ov,hw]
  ·simp only [gz,gA,gB,gC,gD,gE,fX,aA,LT.fn,bR,ov,dG,Int.toNat_natCast,cR,ta,fB,gQ,cond_true,Bool.cond_self]
  ·exact fun _ _=>trivial
 ·obtain⟨⟩:=a
  simp [gz,gA,gB,gC,gD,gE,fX,aA,LT.out,bR]
theorem Gw{st:List Int}:areR st=true↔(1≤st.length∧st.length≤12)∧ ∀ v∈st,0≤v∧v≤2:=by
 simp only [areR,Bool.and_eq_true,sf,List.all_eq_true]
 constructor
 ·rintro⟨h1,h2⟩;exact⟨by omega,h2⟩
 ·rintro⟨h1,h2⟩;exact⟨by omega,h2⟩
theorem apP(st:List Int)(h:areR st=true):(Ar st==2)=PG st∧JA st=true:=by
 obtain⟨h1,h2⟩:=Gw.1 h
 match st,h1,h2 with
 |x::xs,h1,h2=>
  have hx:=h2 x (by simp)
  obtain⟨w1,w2⟩:=Wl (x::xs) x (by omega)
  rw [kt (f:=mK) (g:=fun m b=>bif ltI b m then b else m) (fun b a=>by simp only [mK,aja])]at w2
  have e0:Option.getD (x::xs)[Int.toNat 0]? 0=x:=rfl
  refine⟨?_,?_⟩
  ·simp only [Ar,Hl,e0,w2,lC,List.drop_one,List.tail_cons]
   rw [ahG xs x hx.1 hx.2 fun y hy=>h2 y (by simp [hy])]
   rfl
  ·simp only [JA,Hl,e0,w1,allT]
   simp
theorem akE(st:List Int)(h:leN st.length 9223372036854775807=true):RT st=PG st∧RU st=true:=by
 obtain⟨w1,w2⟩:=KR st (fH.1 h)
 rw [ru (P:=fun v=>v !=2) (j:=0) (fun v=>by simp only [dG,xK])]at w2
 have e5:(st.any fun v=>v !=2)= !PG st:=by simp [PG,List.all_eq_not_any_not,bne]
 rw [e5]at w2
 simp only [RT,RU,px,py,rW,rX,kS,w1,w2,allT,bR]
 cases PG st with
 |true=>exact⟨rfl,rfl⟩
 |false=>
  simp only [Bool.not_false,cond_true,Nat.beq]
  rw [da (by omega)];simp
def YX:List SV→List Entry→Option Out
 | [.one ⟨false,[.ref 0]⟩],[.row false 2 (.int .i64) x0]=>some ⟨.one ⟨false,[.val (.bool (PG x0))]⟩,[.row false 2 aiQ x0],[],[leN x0.length 9223372036854775807]⟩
 |_,_=>none
def BQ:PF prog:=PF.alt ahW YX (by
 intro args es o h bK;unfold YX at h;split at h
 ·rename_i x0
  cases h
  have bK:=iu bK
  have hh:=akE x0 bK
  obtain⟨e0,en⟩:=hh
  exact kU rfl (gZ en) (by simp only [e0] <;> rfl) rfl rfl
 ·cases h)
def ad(x0 x3:Int)(x4:List Int):Bool:=Option.getD x4[Int.toNat x3]? (0:Int)==IntKind.wrap .i64 (IntKind.wrap .i64 ((3:Int) * IntKind.wrap .i64 (x0 - (1:Int))) + (1:Int))
def aU(x3:Int)(x4:List Int):Bool:=allT [leI (0:Int) x3,ltI x3 (↑x4.length:Int),ltN x3.toNat x4.length]
def uC:List SV→List Entry→Option Out
 | [.one ⟨true,[.val (.int .i64 x0),.ref 0,.ref 1,.ref 2,.ref 3,.val (.int .i64 _x1),.ref 4,.ref 5,.val (.int .i64 _x2)]⟩,.one ⟨false,[.val (.int .i64 x3)]⟩],[.row false 2 (.int .i64) x4,.row false 169 (.pair (.int .i64) (.pair (.int .i64) (.int .i64))) x5,.row false 24 (.sl 2 (.int .i64)) x6,.row false 100 (.pair (.int .i64) (.pair (.int .i64) (.int .i64))) x7,.row false 173 (.pair (.int .i64) (.int .i64)) x8,.row false 176 (.pair (.int .i64) (.int .i64)) x9]=>some ⟨.one ⟨false,[.val (.bool (ad x0 x3 x4))]⟩,[.row false 2 aiQ x4,.row false 169 acG x5,.row false 24 (CTy.sl (2:TypeId) aiQ) x6,.row false 100 acG x7,.row false 173 acH x8,.row false 176 acH x9],[],[aU x3 x4]⟩
 |_,_=>none
def aH:PF prog:=PF.ofG prog [] [] aM 63 f63 func63 (fun c _=>LOk.nil c) uC (by
 intro vs es r h;unfold uC at h;split at h
 ·cases h;kernel_rfl
 ·cases h)
theorem Im(x:Option (List Int)):Option.getD x (Ei (CTy.sl (2:TypeId) aiQ))=x.getD []:=rfl
abbrev kv:=Int×Int×List Int×List Int
section
variable (y0 y1:Int)(y2 y3:List Int)
def vQ:Int:=Option.getD y2[Int.toNat y0]? (0:Int)
def CD:Bool:=ltI y0 y1
def wW:Bool:=leI (0:Int) y0
def CE:Bool:=ltI y0 (↑y2.length:Int)
def CF:Bool:=ltN y0.toNat y2.length
def CG:Bool:=ltI y0 (↑y3.length:Int)
def CH:Bool:=ltN y0.toNat y3.length
def CI:Int:=IntKind.wrap .i64 (y0 + (1:Int))
def CJ:List Int:=List.set y3 y0.toNat (ajD (1:Int) (vQ y0 y2) (1:Int) (vQ y0 y2))
end
def adJ:kv→List (Nat×SV)
 |(y0,y1,_,_)=> [(17,(.one ⟨false,[.val (.int .i64 y0)]⟩)),(16,(.one ⟨false,[.val (.int .i64 y1)]⟩)),(15,(.one ⟨false,[.ref 0]⟩)),(5,(.one ⟨false,[.ref 1]⟩))]
def adC:kv→List (Nat×Entry)
 |(_,_,y2,y3)=> [(0,(.row true 2 aiQ y2)),(1,(.row true 2 aiQ y3))]
def adX:Nat→kv→List (Nat×SV)
 |_,(_,_,_,_)=> []
def adQ:Nat→kv→List (Nat×Entry)
 |_,(_,_,y2,y3)=> [(0,(.row true 2 aiQ y2)),(1,(.row true 2 aiQ y3))]
def AH:kv→LT kv
 |(y0,y1,y2,y3)=> .ite (CD y0 y1) (.need [wW y0,CE y0 y2,CF y0 y2] (.need [wW y0,CG y0 y3,CH y0 y3] (.nrm ((CI y0),y1,y2,(CJ y0 y2 y3)) [(0,0),(1,1)]))) (.ext 0 [(0,0),(1,1)])
def MH(s:St):Option kv:=
 (match s.look 17 with
 |some ⟨none,.one ⟨false,[.val (.int .i64 y0)]⟩⟩=>
 (match s.look 16 with
 |some ⟨none,.one ⟨false,[.val (.int .i64 y1)]⟩⟩=>
 (match s.look 15 with
 |some ⟨none,.one ⟨false,[.ref 640]⟩⟩=>
 (match s.look 5 with
 |some ⟨none,.one ⟨false,[.ref 448]⟩⟩=>
 (match s.ent 640 with
 |some (.row true 2 (.int .i64) y2)=>
 (match s.ent 448 with
 |some (.row true 2 (.int .i64) y3)=>
 some (y0,y1,y2,y3)
 |_=>none)
 |_=>none)
 |_=>none)
 |_=>none)
 |_=>none)
 |_=>none)
def dR:Lp kv where
 h:=⟨[18,19,20,21,6,7,22,23,24,25,26,27,17],[0,1],[],[]⟩
 JL:=adJ
 JE:=adC
 XL:=adX
 XE:=adQ
 q:=fun j=>match j with | _=> .exit 0
 tags:= [0]
 lt:=AH
 fuel:=fun(y0,y1,y2,y3)=>y0.natAbs + y1.natAbs + y2.length + y3.length
 fix:=fun(_,y1,y2,_) (y0,_,_,y3)=>(y0,y1,y2,y3)
 σ:= [(0,640),(1,448)]
 rd:=MH
theorem abA:LoopOk prog (fun k=>Nat.blt k Tryz.f202.ntmps) dR.F (aL f202 0):=by
 refine Lp.ok (tbl:= [al,PF.lend al,PF.fz al,bH,PF.lend bH,PF.fz bH]) (lf:= []) aM dR (by kernel_rfl) (LOk.nil _) (fun _=>rfl) (fun _ _=>rfl) ?_ ?_ ?_ ?_ (fun _=>rfl) ?_
 ·rintro⟨y0,y1,y2,y3⟩;kernel_rfl
 ·rintro⟨y0,y1,y2,y3⟩;kernel_rfl
 ·intro s x h
  have h:MH s=some x:=h
  unfold MH at h
  repeat' split at h
  all_goals cases h
  exact⟨aa (by assumption) rfl (aa (by assumption) rfl (aa (by assumption) rfl (aa (by assumption) rfl (rfl)))),ab rfl (by assumption) rfl (ab rfl (by assumption) rfl (rfl))⟩
 ·rintro⟨y0,y1,y2,y3⟩;kernel_rfl
 ·rintro⟨y0,y1,y2,y3⟩ z;exact(And.intro rfl trivial)
abbrev kw:=Int×Int×List (Int×(Int×Int))×List Int×List Int
section
variable (y0 y1:Int)(y2:List (Int×(Int×Int)))(y3 y4:List Int)
def dP:Int×Int×Int:=Option.getD y2[Int.toNat y0]? ((0:Int),(0:Int),(0:Int))
def gF:Bool:=((dP y0 y2).2).1==(0:Int)
def vR:Bool:=leI (0:Int) ((dP y0 y2).1)
def CL:Bool:=ltI y0 y1
def CM:Bool:=leI (0:Int) y0
def CN:Bool:=ltI y0 (↑y2.length:Int)
def CO:Bool:=ltN y0.toNat y2.length
def CP:Bool:= !gF y0 y2||vR y0 y2
def CQ:Bool:= !gF y0 y2||ltI ((dP y0 y2).1) (↑y3.length:Int)
def CR:Bool:= !gF y0 y2||ltN (Int.toNat ((dP y0 y2).1)) y3.length
def CS:Bool:=gF y0 y2||vR y0 y2
def CT:Bool:=gF y0 y2||ltI ((dP y0 y2).1) (↑y4.length:Int)
def CU:Bool:=gF y0 y2||ltN (Int.toNat ((dP y0 y2).1)) y4.length
def AC:Int:=IntKind.wrap .i64 (y0 + (1:Int))
def AD:List Int:=bif gF y0 y2 then List.set y3 (Int.toNat ((dP y0 y2).1)) ((dP y0 y2).2.2)else y3
def AE:List Int:=bif gF y0 y2 then y4 else List.set y4 (Int.toNat ((dP y0 y2).1)) ((dP y0 y2).2.2)
end
def adK:kw→List (Nat×SV)
 |(y0,y1,_,_,_)=> [(34,(.one ⟨false,[.val (.int .i64 y0)]⟩)),(33,(.one ⟨false,[.val (.int .i64 y1)]⟩)),(32,(.one ⟨false,[.ref 0]⟩)),(8,(.one ⟨false,[.ptr 1 0]⟩))]
def adD:kw→List (Nat×Entry)
 |(_,_,y2,y3,y4)=> [(0,(.row false 169 acG y2)),(1,(.box 130 [.ref 2,.ref 3])),(2,(.row true 2 aiQ y3)),(3,(.row true 2 aiQ y4))]
def adY:Nat→kw→List (Nat×SV)
 |_,(_,_,_,_,_)=> []
def adR:Nat→kw→List (Nat×Entry)
 |_,(_,_,y2,y3,y4)=> [(0,(.row false 169 acG y2)),(1,(.box 130 [.ref 2,.ref 3])),(2,(.row true 2 aiQ y3)),(3,(.row true 2 aiQ y4))]
def AJ:kw→LT kw
 |(y0,y1,y2,y3,y4)=> .ite (CL y0 y1) (.need [CM y0,CN y0 y2,CO y0 y2] (.need [CP y0 y2,CQ y0 y2 y3,CR y0 y2 y3,CS y0 y2,CT y0 y2 y4,CU y0 y2 y4] (.nrm ((AC y0),y1,y2,AD y0 y2 y3,(AE y0 y2 y4)) [(0,0),(1,1),(2,2),(3,3)]))) (.ext 0 [(0,0),(1,1),(2,2),(3,3)])
def MI(s:St):Option kw:=
 (match s.look 34 with
 |some ⟨none,.one ⟨false,[.val (.int .i64 y0)]⟩⟩=>
 (match s.look 33 with
 |some ⟨none,.one ⟨false,[.val (.int .i64 y1)]⟩⟩=>
 (match s.look 32 with
 |some ⟨none,.one ⟨false,[.ref 1]⟩⟩=>
 (match s.look 8 with
 |some ⟨none,.one ⟨false,[.ptr 1152 0]⟩⟩=>
 (match s.ent 1 with
 |some (.row false 169 (.pair (.int .i64) (.pair (.int .i64) (.int .i64))) y2)=>
 (match s.ent 1152 with
 |some (.box 130 [.ref 448,.ref 1024])=>
 (match s.ent 448 with
 |some (.row true 2 (.int .i64) y3)=>
 (match s.ent 1024 with
 |some (.row true 2 (.int .i64) y4)=>
 some (y0,y1,y2,y3,y4)
 |_=>none)
 |_=>none)
 |_=>none)
 |_=>none)
 |_=>none)
 |_=>none)
 |_=>none)
 |_=>none)
def dS:Lp kw where
 h:=⟨[35,36,37,10,38,39,40,41,42,43,44,45,46,47,48,49,50,51,52,53,54,55,34],[0,1,2,3],[],[]⟩
 JL:=adK
 JE:=adD
 XL:=adY
 XE:=adR
 q:=fun j=>match j with | _=> .exit 2
 tags:= [0]
 lt:=AJ
 fuel:=fun(y0,y1,y2,y3,y4)=>y0.natAbs + y1.natAbs + y2.length + y3.length + y4.length
 fix:=fun(_,y1,y2,_,_) (y0,_,_,y3,y4)=>(y0,y1,y2,y3,y4)
 σ:= [(0,1),(1,1152),(2,448),(3,1024)]
 rd:=MI
theorem abB:LoopOk prog (fun k=>Nat.blt k Tryz.f202.ntmps) dS.F (aL f202 1):=by
 refine Lp.ok (tbl:= [al,PF.lend al,PF.fz al,bH,PF.lend bH,PF.fz bH]) (lf:= []) aM dS (by kernel_rfl) (LOk.nil _) (fun _=>rfl) (fun _ _=>rfl) ?_ ?_ ?_ ?_ (fun _=>rfl) ?_
 ·rintro⟨y0,y1,y2,y3,y4⟩;kernel_rfl
 ·rintro⟨y0,y1,y2,y3,y4⟩;kernel_rfl
 ·intro s x h
  have h:MI s=some x:=h
  unfold MI at h
  repeat' split at h
  all_goals cases h
  exact⟨aa (by assumption) rfl (aa (by assumption) rfl (aa (by assumption) rfl (aa (by assumption) rfl (rfl)))),ab rfl (by assumption) rfl (ab rfl (by assumption) rfl (ab rfl (by assumption) rfl (ab rfl (by assumption) rfl (rfl))))⟩
 ·rintro⟨y0,y1,y2,y3,y4⟩;kernel_rfl
 ·rintro⟨y0,y1,y2,y3,y4⟩ z;exact(And.intro rfl trivial)
section
variable (x0:Int)(x1:List Int)(x2:List (Int×Int×Int))
def Mn:Int×Int×List Int×List Int:=((0:Int),(↑(List.length (uB x0 x1)):Int),uB x0 x1,List.replicate x0.toNat (0:Int))
def BM:List Int:=(Lp.res dR (Mn x0 x1)).2.2.2.2
def GC:Int×Int×List (Int×Int×Int)×List Int×List Int:=((0:Int),(↑x2.length:Int),x2,BM x0 x1,BM x0 x1)
def Mo:List Int×List Int:=(Lp.res dS (GC x0 x1 x2)).2.2.2.2
def Tp:List Int:=(Mo x0 x1 x2).1
def Tq:List Int:=(Mo x0 x1 x2).2
def Tr:Bool:=allT [leI (0:Int) x0,leI x0 x0,leI ((↑(8:Nat):Int) * x0) (281474976710656:Int),leI x0 (9223372036854775807:Int),isT x0 x1,Lp.fin dR (Mn x0 x1),leN (1:Nat) (List.length (BM x0 x1))&&leN (List.length (BM x0 x1)) (1048576:Nat),Lp.fin dS (GC x0 x1 x2)]
end
def aaV:List SV→List Entry→Option Out
 | [.one ⟨true,[.val (.int .i64 x0),.ref 0]⟩,.one ⟨false,[.ref 1]⟩],[.row false 2 (.int .i64) x1,.row false 169 (.pair (.int .i64) (.pair (.int .i64) (.int .i64))) x2]=>some ⟨.one ⟨true,[.ref 2,.ref 3]⟩,[.row false 2 aiQ x1,.row false 169 acG x2],[.row true 2 aiQ (Tp x0 x1 x2),.row true 2 aiQ (Tq x0 x1 x2)],[Tr x0 x1 x2]⟩
 |_,_=>none
def ai1:PF prog:=PF.ofG prog [al,PF.lend al,PF.fz al,bH,PF.lend bH,PF.fz bH] [dR.F,dS.F] aM 202 f202 func202 (LOk.fnT (l:= [aL f202 0,aL f202 1]) (by kernel_rfl) (.cons abA (.cons abB (.nil _)))) aaV (by
 intro vs es r h;unfold aaV at h;split at h
 ·cases h;kernel_rfl
 ·cases h)
section
variable (x0:Int)(x1 x2:List Int)
def eC:Bool:=Option.getD x1[Int.toNat x0]? (0:Int)==(0:Int)
def nc:Bool:=bif eC x0 x1 then Option.getD x2[Int.toNat x0]? (0:Int)==(0:Int)else false
def ne:Bool:=allT [leI (0:Int) x0,ltI x0 (↑x1.length:Int),ltN x0.toNat x1.length,!(eC x0 x1&&true)||leI (0:Int) x0,!(eC x0 x1&&true)||ltI x0 (↑x2.length:Int),!(eC x0 x1&&true)||ltN x0.toNat x2.length]
end
def wc:List SV→List Entry→Option Out
 | [.one ⟨true,[.ref 0,.ref 1]⟩,.one ⟨false,[.val (.int .i64 x0)]⟩],[.row false 2 (.int .i64) x1,.row false 2 (.int .i64) x2]=>some ⟨.one ⟨false,[.val (.bool (nc x0 x1 x2))]⟩,[.row false 2 aiQ x1,.row false 2 aiQ x2],[],[ne x0 x1 x2]⟩
 |_,_=>none
def np:PF prog:=PF.ofG prog [] [] aM 233 f233 func233 (fun c _=>LOk.nil c) wc (by
 intro vs es r h;unfold wc at h;split at h
 ·cases h;kernel_rfl
 ·cases h)
section
variable (x0 x1:Int)(x2 x3 x4:List Int)
def iL:Int:=Option.getD x4[Int.toNat x1]? (0:Int)
def eD:Bool:=Int.tmod (iL x1 x4) (3:Int)!=(1:Int)
def iM:Int:=Int.tmod (IntKind.wrap .i64 (IntKind.wrap .i64 (Int.tdiv (iL x1 x4) (3:Int)) + (1:Int))) x0
def nf:Bool:=bif eD x1 x4 then true else nc (iM x0 x1 x4) x2 x3
def ng:Bool:=allT [leI (0:Int) x1,ltI x1 (↑x4.length:Int),ltN x1.toNat x4.length,!(!eD x1 x4&&true)||neI (3:Int) (0:Int),!(!eD x1 x4&&true)||neI x0 (0:Int),!(!eD x1 x4&&true)||ne (iM x0 x1 x4) x2 x3]
end
def wd:List SV→List Entry→Option Out
 | [.one ⟨true,[.ref 0,.ref 1]⟩,.one ⟨true,[.val (.int .i64 x0),.ref 2]⟩,.one ⟨false,[.val (.int .i64 x1)]⟩],[.row false 2 (.int .i64) x2,.row false 2 (.int .i64) x3,.row false 2 (.int .i64) x4]=>some ⟨.one ⟨false,[.val (.bool (nf x0 x1 x2 x3 x4))]⟩,[.row false 2 aiQ x2,.row false 2 aiQ x3,.row false 2 aiQ x4],[],[ng x0 x1 x2 x3 x4]⟩
 |_,_=>none
def Jq:PF prog:=PF.ofG prog [np,PF.lend np,PF.fz np] [] aM 203 f203 func203 (fun c _=>LOk.nil c) wd (by
 intro vs es r h;unfold wd at h;split at h
 ·cases h;kernel_rfl
 ·cases h)
section
variable (x0 x1:Int)(x2 x3 x4:List Int)
def IU:Int:=Option.getD x2[Int.toNat x1]? (0:Int)
def tk:Bool:=Int.tmod (IU x1 x2) (3:Int)!=(1:Int)
def mT:Int:=Int.tmod (IntKind.wrap .i64 (IntKind.wrap .i64 (Int.tdiv (IU x1 x2) (3:Int)) + (1:Int))) x0
def Oy:Bool:= !(!tk x1 x2&&true)||leI (0:Int) (mT x0 x1 x2)
def QD:Bool:=bif tk x1 x2 then true else IntKind.wrap .i64 (Option.getD x3[Int.toNat (mT x0 x1 x2)]? (0:Int) + Option.getD x4[Int.toNat (mT x0 x1 x2)]? (0:Int))==(0:Int)
def QE:Bool:=allT [leI (0:Int) x1,ltI x1 (↑x2.length:Int),ltN x1.toNat x2.length,neI x0 (0:Int),leI (0:Int) x1,ltI x1 (↑x2.length:Int),ltN x1.toNat x2.length,Oy x0 x1 x2,!(!tk x1 x2&&true)||ltI (mT x0 x1 x2) (↑x3.length:Int),!(!tk x1 x2&&true)||ltN (Int.toNat (mT x0 x1 x2)) x3.length,Oy x0 x1 x2,!(!tk x1 x2&&true)||ltI (mT x0 x1 x2) (↑x4.length:Int),!(!tk x1 x2&&true)||ltN (Int.toNat (mT x0 x1 x2)) x4.length]
end
def WL:List SV→List Entry→Option Out
 | [.one ⟨true,[.val (.int .i64 x0),.ref 0]⟩,.one ⟨true,[.ref 1,.ref 2]⟩,.one ⟨false,[.val (.int .i64 x1)]⟩],[.row false 2 (.int .i64) x2,.row false 2 (.int .i64) x3,.row false 2 (.int .i64) x4]=>some ⟨.one ⟨false,[.val (.bool (QD x0 x1 x2 x3 x4))]⟩,[.row false 2 aiQ x2,.row false 2 aiQ x3,.row false 2 aiQ x4],[],[QE x0 x1 x2 x3 x4]⟩
 |_,_=>none
def ag0:PF prog:=PF.ofG prog [] [] aM 221 f221 func221 (fun c _=>LOk.nil c) WL (by
 intro vs es r h;unfold WL at h;split at h
 ·cases h;kernel_rfl
 ·cases h)
abbrev iU:=Int×Int×List Int×List Int
section
variable (y0 y1:Int)(y2 y3:List Int)
def oy:List Int:= [ajD (↑(aap y1 y3 y0):Int) (1:Int) (↑(aap y1 y3 y0):Int) (1:Int)]
def yW:Bool:=ltI y0 y1
def yX:Bool:=isT y1 y3
def yY:Bool:=leN (List.length y2 + List.length (oy y0 y1 y3)) (9223372036854775807:Nat)
def yZ:Bool:=leN ((List.length y2 + List.length (oy y0 y1 y3)) * (8:Nat)) (140737488355328:Nat)
def za:Int:=IntKind.wrap .i64 (y0 + (1:Int))
def zb:List Int:=y2++oy y0 y1 y3
end
def abi:iU→List (Nat×SV)
 |(y0,_,_,_)=> [(8,(.one ⟨false,[.val (.int .i64 y0)]⟩)),(3,(.one ⟨false,[.ptr 0 0]⟩)),(7,(.one ⟨false,[.ref 1]⟩))]
def abc:iU→List (Nat×Entry)
 |(_,y1,y2,y3)=> [(0,(.box 26 [.val (.int .i64 y1),.ref 2])),(2,(.row false 2 aiQ y3)),(1,(.row true 2 aiQ y2))]
def abu:Nat→iU→List (Nat×SV)
 |_,(_,_,_,_)=> [(7,(.one ⟨false,[.ref 1]⟩))]
def abo:Nat→iU→List (Nat×Entry)
 |_,(_,y1,y2,y3)=> [(0,(.box 26 [.val (.int .i64 y1),.ref 2])),(1,(.row true 2 aiQ y2)),(2,(.row false 2 aiQ y3))]
def wH:iU→LT iU
 |(y0,y1,y2,y3)=> .ite (yW y0 y1) (.need [yX y1 y3,yY y0 y1 y2 y3,yZ y0 y1 y2 y3] (.nrm ((za y0),y1,zb y0 y1 y2 y3,y3) [(0,0),(1,704),(2,2)])) (.ext 0 [(0,0),(1,1),(2,2)])
def Kj(s:St):Option iU:=
 (match s.look 8 with
 |some ⟨none,.one ⟨false,[.val (.int .i64 y0)]⟩⟩=>
 (match s.look 3 with
 |some ⟨none,.one ⟨false,[.ptr 192 0]⟩⟩=>
 (match s.look 7 with
 |some ⟨none,.one ⟨false,[.ref 320]⟩⟩=>
 (match s.ent 192 with
 |some (.box 26 [.val (.int .i64 y1),.ref 0])=>
 (match s.ent 0 with
 |some (.row false 2 (.int .i64) y3)=>
 (match s.ent 320 with
 |some (.row true 2 (.int .i64) y2)=>
 some (y0,y1,y2,y3)
 |_=>none)
 |_=>none)
 |_=>none)
 |_=>none)
 |_=>none)
 |_=>none)
def cn:Lp iU where
 h:=⟨[11,12,13,14,17,18,19,20,21,22,23,7,15,16,8],[0,2],[1],[]⟩
 JL:=abi
 JE:=abc
 XL:=abu
 XE:=abo
 q:=fun j=>match j with | _=> .exit 0
 tags:= [0]
 lt:=wH
 fuel:=fun(y0,y1,y2,y3)=>y0.natAbs + y1.natAbs + y2.length + y3.length
 fix:=fun(_,y1,_,y3) (y0,_,y2,_)=>(y0,y1,y2,y3)
 σ:= [(0,192),(2,0),(1,320)]
 rd:=Kj
theorem Zz:LoopOk prog (fun k=>Nat.blt k Tryz.f238.ntmps) cn.F (aL f238 0):=by
 refine Lp.ok (tbl:= [sW,PF.lend sW,PF.fz sW]) (lf:= []) aM cn (by kernel_rfl) (LOk.nil _) (fun _=>rfl) (fun _ _=>rfl) ?_ ?_ ?_ ?_ (fun _=>rfl) ?_
 ·rintro⟨y0,y1,y2,y3⟩;kernel_rfl
 ·rintro⟨y0,y1,y2,y3⟩;kernel_rfl
 ·intro s x h
  have h:Kj s=some x:=h
  unfold Kj at h
  repeat' split at h
  all_goals cases h
  exact⟨aa (by assumption) rfl (aa (by assumption) rfl (aa (by assumption) rfl (rfl))),ab rfl (by assumption) rfl (ab rfl (by assumption) rfl (ab rfl (by assumption) rfl (rfl)))⟩
 ·rintro⟨y0,y1,y2,y3⟩;kernel_rfl
 ·rintro⟨y0,y1,y2,y3⟩ z;exact(And.intro rfl trivial)
abbrev iV:=Int×Int×List (Int×(Int×Int))×List Int
section
variable (y0 y1:Int)(y2:List (Int×(Int×Int)))(y3:List Int)
def io:Int×Int×Int:=Option.getD y2[Int.toNat y0]? ((0:Int),(0:Int),(0:Int))
def fZ:Bool:=((io y0 y2).2).1==y1
def tP:Bool:=ltI y0 (↑y2.length:Int)
def zc:Bool:=leI (0:Int) y0
def zd:Bool:=ltN y0.toNat y2.length
def tQ:Bool:= !fZ y0 y1 y2||leI (0:Int) y0
def tR:Bool:= !fZ y0 y1 y2||ltI y0 (↑y2.length:Int)
def tS:Bool:= !fZ y0 y1 y2||ltN y0.toNat y2.length
def ze:Bool:= !fZ y0 y1 y2||leI (0:Int) ((io y0 y2).1)
def zf:Bool:= !fZ y0 y1 y2||ltI ((io y0 y2).1) (↑y3.length:Int)
def zg:Bool:= !fZ y0 y1 y2||ltN (Int.toNat ((io y0 y2).1)) y3.length
def zh:Int:=IntKind.wrap .i64 (y0 + (1:Int))
def wN:List Int:=bif fZ y0 y1 y2 then List.set y3 (Int.toNat ((io y0 y2).1)) ((io y0 y2).2.2)else y3
end
def abj:iV→List (Nat×SV)
 |(y0,y1,_,_)=> [(9,(.one ⟨false,[.val (.int .i64 y0)]⟩)),(1,(.one ⟨false,[.ref 0]⟩)),(2,(.one ⟨false,[.val (.int .i64 y1)]⟩)),(7,(.one ⟨false,[.ref 1]⟩))]
def abd:iV→List (Nat×Entry)
 |(_,_,y2,y3)=> [(0,(.row false 169 acG y2)),(1,(.row true 2 aiQ y3))]
def abv:Nat→iV→List (Nat×SV)
 |_,(_,_,_,_)=> []
def abp:Nat→iV→List (Nat×Entry)
 |_,(_,_,y2,y3)=> [(0,(.row false 169 acG y2)),(1,(.row true 2 aiQ y3))]
def wI:iV→LT iV
 |(y0,y1,y2,y3)=> .ite (tP y0 y2) (.need [zc y0,tP y0 y2,zd y0 y2] (.need [tQ y0 y1 y2,tR y0 y1 y2,tS y0 y1 y2,tQ y0 y1 y2,tR y0 y1 y2,tS y0 y1 y2,ze y0 y1 y2,zf y0 y1 y2 y3,zg y0 y1 y2 y3] (.nrm ((zh y0),y1,y2,(wN y0 y1 y2 y3)) [(0,0),(1,1)]))) (.ext 0 [(0,0),(1,1)])
def Kk(s:St):Option iV:=
 (match s.look 9 with
 |some ⟨none,.one ⟨false,[.val (.int .i64 y0)]⟩⟩=>
 (match s.look 1 with
 |some ⟨none,.one ⟨false,[.ref 1]⟩⟩=>
 (match s.look 2 with
 |some ⟨none,.one ⟨false,[.val (.int .i64 y1)]⟩⟩=>
 (match s.look 7 with
 |some ⟨none,.one ⟨false,[.ref 512]⟩⟩=>
 (match s.ent 1 with
 |some (.row false 169 (.pair (.int .i64) (.pair (.int .i64) (.int .i64))) y2)=>
 (match s.ent 512 with
 |some (.row true 2 (.int .i64) y3)=>
 some (y0,y1,y2,y3)
 |_=>none)
 |_=>none)
 |_=>none)
 |_=>none)
 |_=>none)
 |_=>none)
def cN:Lp iV where
 h:=⟨[24,25,26,27,30,31,32,33,34,35,36,37,38,39,40,41,42,43,44,45,46,47,48,28,29,9],[0,1],[],[]⟩
 JL:=abj
 JE:=abd
 XL:=abv
 XE:=abp
 q:=fun j=>match j with | _=> .exit 2
 tags:= [0]
 lt:=wI
 fuel:=fun(y0,y1,y2,y3)=>y0.natAbs + y1.natAbs + y2.length + y3.length
 fix:=fun(_,y1,y2,_) (y0,_,_,y3)=>(y0,y1,y2,y3)
 σ:= [(0,1),(1,512)]
 rd:=Kk
theorem ZA:LoopOk prog (fun k=>Nat.blt k Tryz.f238.ntmps) cN.F (aL f238 1):=by
 refine Lp.ok (tbl:= [sW,PF.lend sW,PF.fz sW]) (lf:= []) aM cN (by kernel_rfl) (LOk.nil _) (fun _=>rfl) (fun _ _=>rfl) ?_ ?_ ?_ ?_ (fun _=>rfl) ?_
 ·rintro⟨y0,y1,y2,y3⟩;kernel_rfl
 ·rintro⟨y0,y1,y2,y3⟩;kernel_rfl
 ·intro s x h
  have h:Kk s=some x:=h
  unfold Kk at h
  repeat' split at h
  all_goals cases h
  exact⟨aa (by assumption) rfl (aa (by assumption) rfl (aa (by assumption) rfl (aa (by assumption) rfl (rfl)))),ab rfl (by assumption) rfl (ab rfl (by assumption) rfl (rfl))⟩
 ·rintro⟨y0,y1,y2,y3⟩;kernel_rfl
 ·rintro⟨y0,y1,y2,y3⟩ z;exact(And.intro rfl trivial)
section
variable (x0 x1:Int)(x2:List Int)(x3:List (Int×Int×Int))
def Ds:Int×Int×List Int×List Int:=((0:Int),x0,[],x2)
def Dt:Int×Int×List (Int×Int×Int)×List Int:=((0:Int),x1,x3,((Lp.res cn (Ds x0 x2)).2.2.2).1)
def ED:List Int:=(Lp.res cN (Dt x0 x1 x2 x3)).2.2.2.2
def EE:Bool:=allT [Lp.fin cn (Ds x0 x2),Lp.fin cN (Dt x0 x1 x2 x3)]
end
def WK:List SV→List Entry→Option Out
 | [.one ⟨true,[.val (.int .i64 x0),.ref 0]⟩,.one ⟨false,[.ref 1]⟩,.one ⟨false,[.val (.int .i64 x1)]⟩],[.row false 2 (.int .i64) x2,.row false 169 (.pair (.int .i64) (.pair (.int .i64) (.int .i64))) x3]=>some ⟨.one ⟨false,[.ref 2]⟩,[.row false 2 aiQ x2,.row false 169 acG x3],[.row true 2 aiQ (ED x0 x1 x2 x3)],[EE x0 x1 x2 x3]⟩
 |_,_=>none
def PS:PF prog:=PF.ofG prog [sW,PF.lend sW,PF.fz sW] [cn.F,cN.F] aM 238 f238 func238 (LOk.fnT (l:= [aL f238 0,aL f238 1]) (by kernel_rfl) (.cons Zz (.cons ZA (.nil _)))) WK (by
 intro vs es r h;unfold WK at h;split at h
 ·cases h;kernel_rfl
 ·cases h)
section
variable (x0:Int)(x1:List Int)(x2:List (Int×Int×Int))
def ZU:List Int:=ED x0 (0:Int) x1 x2
def ZV:List Int:=ED x0 (1:Int) x1 x2
def Sm:Bool:=allT [EE x0 (0:Int) x1 x2,EE x0 (1:Int) x1 x2]
end
def YL:List SV→List Entry→Option Out
 | [.one ⟨true,[.val (.int .i64 x0),.ref 0]⟩,.one ⟨false,[.ref 1]⟩],[.row false 2 (.int .i64) x1,.row false 169 (.pair (.int .i64) (.pair (.int .i64) (.int .i64))) x2]=>some ⟨.one ⟨true,[.ref 2,.ref 3]⟩,[.row false 2 aiQ x1,.row false 169 acG x2],[.row true 2 aiQ (ZU x0 x1 x2),.row true 2 aiQ (ZV x0 x1 x2)],[Sm x0 x1 x2]⟩
 |_,_=>none
def ah1:PF prog:=PF.ofG prog [PS,PF.lend PS,PF.fz PS] [] aM 222 f222 func222 (fun c _=>LOk.nil c) YL (by
 intro vs es r h;unfold YL at h;split at h
 ·cases h;kernel_rfl
 ·cases h)
end Go.SX
