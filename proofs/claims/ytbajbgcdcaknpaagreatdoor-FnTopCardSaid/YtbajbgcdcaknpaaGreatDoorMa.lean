/- What functions of the program come to, and what that says in plain words: part 1. -/
import Derived.Test.YtbajbgcdcaknpaaGreatDoorProg
import Derived.Shelf.SortM.Plain
import Derived.Ground.SlgmProg
import Derived.Shelf.SlGeneric
import Derived.Test.YtbajbgcdcaknpaaGreatDoorTXh
import Derived.Test.YtbajbgcdcaknpaaGreatDoorTXs
set_option linter.unusedSimpArgs false
set_option linter.unusedVariables false
namespace Go.SX
open Go.Proofs
abbrev abL:CTy:=(CTy.pair (CTy.int IntKind.i64) (CTy.pair (CTy.int IntKind.i64) (CTy.pair (CTy.pair (CTy.int IntKind.i64) (CTy.int IntKind.i64)) (CTy.pair (CTy.int IntKind.i64) (CTy.pair (CTy.int IntKind.i64) CTy.bool)))))
abbrev adk:CTy:=(CTy.pair (CTy.int IntKind.i64) (CTy.pair (CTy.int IntKind.i64) (CTy.int IntKind.i64)))
abbrev aiq:CTy:=(CTy.pair (CTy.int IntKind.i64) (CTy.int IntKind.i64))
abbrev ajn:CTy:=(CTy.int IntKind.i64)
abbrev aj7:CTy:=(CTy.int IntKind.u8)
theorem S0z:(∀ (α:Type) (a b:α),(bif true then a else b)=a)∧(∀ (α:Type) (a b:α),(bif false then a else b)=b)∧(∀ (α:Type) (c:Bool) (a:α),(bif c then a else a)=a)∧((!true)=false)∧((!false)=true)∧(∀ b:Bool,(true||b)=true)∧(∀ b:Bool,(b||true)=true)∧(∀ b:Bool,(false||b)=b)∧(∀ b:Bool,(b||false)=b)∧(∀ b:Bool,(b&&b)=b)∧(∀ b:Bool,(b&&true)=b)∧(∀ b:Bool,(true&&b)=b)∧(∀ b:Bool,(false&&b)=false)∧(∀ b:Bool,(b&&false)=false)∧(∀ (α:Type) [BEq α] [LawfulBEq α] (a:α),(a != a)=false)∧(∀ (α:Type) [BEq α] [LawfulBEq α] (a:α),(a==a)=true):=by and_intros <;> intros <;> simp
end Go.SX
namespace Go.Proofs
open Go.Shelf
def Tryz.laysSort_ren:Go.Shelf.Ren:=⟨fun | 5=>235 | 8=>241 | 7=>240 | 19=>252 | 20=>253 | 10=>243 | 11=>244 | 12=>245 | 13=>246 | 14=>247 | 15=>248 | 16=>249 | 17=>250 | 18=>251 | 30=>254 | 31=>255 | 32=>256 | 33=>257 | 34=>258 | 35=>259 | 40=>260 | n=>n,fun | 23=>24 | 25=>2 | 3=>3 | 32=>124 | 22=>24 | 0=>0 | 44=>227 | 46=>57 | 4=>4 | 36=>252 | 35=>251 | 41=>256 | 5=>5 | 9=>9 | 53=>260 | 57=>264 | 63=>266 | 64=>267 | n=>n,fun | n=>n⟩
theorem Tryz.laysSort:Go.Proofs.SlLaysM.n5 Tryz.prog Tryz.laysSort_ren:= {
 mixed:=by kernel_rfl
 f5:=⟨Tryz.f235.name,by decide,Tryz.func235.trans (congrArg some (by kernel_rfl))⟩
 f7:=⟨Tryz.f240.name,by decide,Tryz.func240.trans (congrArg some (by kernel_rfl))⟩
 f8:=Tryz.func241.trans (congrArg some (by kernel_rfl))
 f10:=⟨Tryz.f243.name,by decide,Tryz.func243.trans (congrArg some (by kernel_rfl))⟩
 f11:=⟨Tryz.f244.name,by decide,Tryz.func244.trans (congrArg some (by kernel_rfl))⟩
 f12:=⟨Tryz.f245.name,by decide,Tryz.func245.trans (congrArg some (by kernel_rfl))⟩
 f13:=⟨Tryz.f246.name,by decide,Tryz.func246.trans (congrArg some (by kernel_rfl))⟩
 f14:=⟨Tryz.f247.name,by decide,Tryz.func247.trans (congrArg some (by kernel_rfl))⟩
 f15:=⟨Tryz.f248.name,by decide,Tryz.func248.trans (congrArg some (by kernel_rfl))⟩
 f16:=⟨Tryz.f249.name,by decide,Tryz.func249.trans (congrArg some (by kernel_rfl))⟩
 f17:=⟨Tryz.f250.name,by decide,Tryz.func250.trans (congrArg some (by kernel_rfl))⟩
 f18:=⟨Tryz.f251.name,by decide,Tryz.func251.trans (congrArg some (by kernel_rfl))⟩
 f19:=Tryz.func252.trans (congrArg some (by kernel_rfl))
 f20:=Tryz.func253.trans (congrArg some (by kernel_rfl))
 f30:=⟨Tryz.f254.name,by decide,Tryz.func254.trans (congrArg some (by kernel_rfl))⟩
 f31:=Tryz.func255.trans (congrArg some (by kernel_rfl))
 f32:=Tryz.func256.trans (congrArg some (by kernel_rfl))
 f33:=⟨Tryz.f257.name,by decide,Tryz.func257.trans (congrArg some (by kernel_rfl))⟩
 f34:=⟨Tryz.f258.name,by decide,Tryz.func258.trans (congrArg some (by kernel_rfl))⟩
 f35:=⟨Tryz.f259.name,by decide,Tryz.func259.trans (congrArg some (by kernel_rfl))⟩
 f40:=⟨Tryz.f260.name,by decide,Tryz.func260.trans (congrArg some (by kernel_rfl))⟩
 t0:=Tryz.underlying0
 a0:=Tryz.isAgg0
 z0:=Tryz.sizeOf0
 v0:=Tryz.zeroValue0
 t3:=Tryz.underlying3
 a3:=Tryz.isAgg3
 z3:=Tryz.sizeOf3
 v3:=Tryz.zeroValue3
 t4:=Tryz.underlying4
 a4:=Tryz.isAgg4
 z4:=Tryz.sizeOf4
 v4:=Tryz.zeroValue4
 t5:=Tryz.underlying5
 a5:=Tryz.isAgg5
 z5:=Tryz.sizeOf5
 v5:=Tryz.zeroValue5
 t9:=Tryz.underlying9
 a9:=Tryz.isAgg9
 z9:=Tryz.sizeOf9
 v9:=Tryz.zeroValue9
 t22:=Tryz.underlying24
 a22:=Tryz.isAgg24
 z22:=Tryz.sizeOf24
 v22:=Tryz.zeroValue24
 t23:=Tryz.underlying24
 a23:=Tryz.isAgg24
 z23:=Tryz.sizeOf24
 v23:=Tryz.zeroValue24
 t25:=Tryz.underlying2
 a25:=Tryz.isAgg2
 z25:=Tryz.sizeOf2
 v25:=Tryz.zeroValue2
 t32:=Tryz.underlying124
 a32:=Tryz.isAgg124
 z32:=Tryz.sizeOf124
 v32:=Tryz.zeroValue124
 t35:=Tryz.underlying251
 a35:=Tryz.isAgg251
 z35:=Tryz.sizeOf251
 v35:=Tryz.zeroValue251
 t36:=Tryz.underlying252
 a36:=Tryz.isAgg252
 z36:=Tryz.sizeOf252
 v36:=Tryz.zeroValue252
 t41:=Tryz.underlying256
 a41:=Tryz.isAgg256
 z41:=Tryz.sizeOf256
 v41:=Tryz.zeroValue256
 t44:=Tryz.underlying227
 a44:=Tryz.isAgg227
 z44:=Tryz.sizeOf227
 v44:=Tryz.zeroValue227
 t46:=Tryz.underlying57
 a46:=Tryz.isAgg57
 z46:=Tryz.sizeOf57
 v46:=Tryz.zeroValue57
 t53:=Tryz.underlying260
 a53:=Tryz.isAgg260
 z53:=Tryz.sizeOf260
 v53:=Tryz.zeroValue260
 t57:=Tryz.underlying264
 a57:=Tryz.isAgg264
 z57:=Tryz.sizeOf264
 v57:=Tryz.zeroValue264
 t63:=Tryz.underlying266
 a63:=Tryz.isAgg266
 z63:=Tryz.sizeOf266
 v63:=Tryz.zeroValue266
 t64:=Tryz.underlying267
 a64:=Tryz.isAgg267
 z64:=Tryz.sizeOf267
 v64:=Tryz.zeroValue267 }
end Go.Proofs
namespace Go.SX
open Go.Proofs Go.Proofs.Tryz
set_option maxRecDepth 100000
theorem aO:Tryz.prog.follows .mixedOrders=true:=by kernel_rfl
def aZ(x0 x1 x2:Int):Bool:=bif leI x1 x0 then leI x0 x2 else false
def al5:List SV→List Entry→Option Out
 | [.one ⟨false,[.val (.int .i64 x0)]⟩,.one ⟨false,[.val (.int .i64 x1)]⟩,.one ⟨false,[.val (.int .i64 x2)]⟩],[]=>some ⟨.one ⟨false,[.val (.bool (aZ x0 x1 x2))]⟩,[],[],[]⟩
 |_,_=>none
def gh:PF prog:=PF.ofG prog [] [] aO 73 f73 func73 (fun c _=>LOk.nil c) al5 (by
 intro vs es r h;unfold al5 at h;split at h
 ·cases h;kernel_rfl
 ·cases h)
abbrev kt:=Int×Int×List Int
section
variable (y0 y1:Int)(y2:List Int)
def xD:Bool:=ltI y0 (↑y2.length:Int)
def Do:Bool:=leI (0:Int) y0
def Dp:Bool:=ltN y0.toNat y2.length
def Dq:Bool:= !aZ (Option.getD y2[Int.toNat y0]? (0:Int)) (0:Int) (IntKind.wrap .i64 (IntKind.wrap .i64 ((3:Int) * y1) - (1:Int)))
def Dr:Int:=IntKind.wrap .i64 (y0 + (1:Int))
end
def ahT:kt→List (Nat×SV)
 |(y0,_,_)=> [(3,(.one ⟨false,[.val (.int .i64 y0)]⟩)),(1,(.one ⟨false,[.ptr 0 0]⟩))]
def ahQ:kt→List (Nat×Entry)
 |(_,y1,y2)=> [(0,(.box 26 [.val (.int .i64 y1),.ref 1])),(1,(.row false 2 ajn y2))]
def aie:Nat→kt→List (Nat×SV)
 |0,(_,_,_)=> [(2,(.one ⟨false,[.val (.bool false)]⟩))]
 |_,(_,_,_)=> []
def aib:Nat→kt→List (Nat×Entry)
 |0,(_,y1,y2)=> [(0,(.box 26 [.val (.int .i64 y1),.ref 1])),(1,(.row false 2 ajn y2))]
 |_,(_,y1,y2)=> [(0,(.box 26 [.val (.int .i64 y1),.ref 1])),(1,(.row false 2 ajn y2))]
def Bb:kt→LT kt
 |(y0,y1,y2)=> .ite (xD y0 y2) (.need [Do y0,xD y0 y2,Dp y0 y2] (.ite (Dq y0 y1 y2) (.ext 0 [(0,0),(1,1)]) (.nrm ((Dr y0),y1,y2) [(0,0),(1,1)]))) (.ext 1 [(0,0),(1,1)])
def PG(s:St):Option kt:=
 (match s.look 3 with
 |some ⟨none,.one ⟨false,[.val (.int .i64 y0)]⟩⟩=>
 (match s.look 1 with
 |some ⟨none,.one ⟨false,[.ptr 128 0]⟩⟩=>
 (match s.ent 128 with
 |some (.box 26 [.val (.int .i64 y1),.ref 0])=>
 (match s.ent 0 with
 |some (.row false 2 (.int .i64) y2)=>
 some (y0,y1,y2)
 |_=>none)
 |_=>none)
 |_=>none)
 |_=>none)
def dJ:Lp kt where
 h:=⟨[15,16,17,18,19,22,23,24,25,26,27,28,29,30,31,32,2,20,21,3],[0,1],[],[]⟩
 JL:=ahT
 JE:=ahQ
 XL:=aie
 XE:=aib
 q:=fun j=>match j with | 0=> .ret | _=> .exit 0
 tags:= [0,1]
 lt:=Bb
 fuel:=fun(y0,y1,y2)=>y0.natAbs + y1.natAbs + y2.length
 fix:=fun(_,y1,y2) (y0,_,_)=>(y0,y1,y2)
 σ:= [(0,128),(1,0)]
 rd:=PG
theorem afI:LoopOk prog (fun k=>Nat.blt k Tryz.f84.ntmps) dJ.F (aK f84 0):=by
 refine Lp.ok (tbl:= [gh]) (lf:= []) aO dJ (by kernel_rfl) (LOk.nil _) (fun _=>rfl) (fun j _=>by unfold dJ;match j with | 0=>rfl | _ + 1=>rfl) ?_ ?_ ?_ ?_ (fun _=>rfl) ?_
 ·rintro⟨y0,y1,y2⟩;kernel_rfl
 ·rintro⟨y0,y1,y2⟩;kernel_rfl
 ·intro s x h
  have h:PG s=some x:=h
  unfold PG at h
  repeat' split at h
  all_goals cases h
  exact⟨aa (by assumption) rfl (aa (by assumption) rfl (rfl)),ab rfl (by assumption) rfl (ab rfl (by assumption) rfl (rfl))⟩
 ·rintro⟨y0,y1,y2⟩;kernel_rfl
 ·rintro⟨y0,y1,y2⟩ z;exact(And.intro (And.intro trivial rfl) trivial)
section
variable (x0:Int)(x1:List Int)
def Vw:Bool:=bif !aZ x0 (2:Int) (8:Int)then true else !aZ (↑x1.length:Int) (1:Int) (4:Int)
def Vx:Int×Int×List Int:=((0:Int),x0,x1)
def Xq:Bool:=bif Vw x0 x1 then false else bif Nat.beq ((Lp.res dJ (Vx x0 x1)).1) (0:Nat)then false else true
def Xr:Bool:=allT [Vw x0 x1||Lp.fin dJ (Vx x0 x1)]
end
def adV:List SV→List Entry→Option Out
 | [.one ⟨true,[.val (.int .i64 x0),.ref 0]⟩],[.row false 2 (.int .i64) x1]=>some ⟨.one ⟨false,[.val (.bool (Xq x0 x1))]⟩,[.row false 2 ajn x1],[],[Xr x0 x1]⟩
 |_,_=>none
def aop:PF prog:=PF.ofG prog [gh] [dJ.F] aO 84 f84 func84 (LOk.fnT (l:= [aK f84 0]) (by kernel_rfl) (.cons afI (.nil _))) adV (by
 intro vs es r h;unfold adV at h;split at h
 ·cases h;kernel_rfl
 ·cases h)
def bu(x0 x1 x2:Int):Bool:=bif leI x1 x0 then leI x0 x2 else false
def akr:List SV→List Entry→Option Out
 | [.one ⟨false,[.val (.int .i64 x0)]⟩,.one ⟨false,[.val (.int .i64 x1)]⟩,.one ⟨false,[.val (.int .i64 x2)]⟩],[]=>some ⟨.one ⟨false,[.val (.bool (bu x0 x1 x2))]⟩,[],[],[]⟩
 |_,_=>none
def il:PF prog:=PF.ofG prog [] [] aO 69 f69 func69 (fun c _=>LOk.nil c) akr (by
 intro vs es r h;unfold akr at h;split at h
 ·cases h;kernel_rfl
 ·cases h)
def QQ(x0:Int):Bool:=bu x0 (2:Int) (8:Int)
def Zk:List SV→List Entry→Option Out
 | [.one ⟨false,[.val (.int .i64 x0)]⟩],[]=>some ⟨.one ⟨false,[.val (.bool (QQ x0))]⟩,[],[],[]⟩
 |_,_=>none
def aki:PF prog:=PF.ofG prog [il] [] aO 68 f68 func68 (fun c _=>LOk.nil c) Zk (by
 intro vs es r h;unfold Zk at h;split at h
 ·cases h;kernel_rfl
 ·cases h)
def dx(x0:List Int):Int:=(↑x0.length:Int)
def Zl:List SV→List Entry→Option Out
 | [.one ⟨false,[.ref 0]⟩],[.row false 2 (.int .i64) x0]=>some ⟨.one ⟨false,[.val (.int .i64 (dx x0))]⟩,[.row false 2 ajn x0],[],[]⟩
 |_,_=>none
def aW:PF prog:=PF.ofG prog [] [] aO 79 f79 func79 (fun c _=>LOk.nil c) Zl (by
 intro vs es r h;unfold Zl at h;split at h
 ·cases h;kernel_rfl
 ·cases h)
def Gv(x0 x1:Int):Bool:= !bu x0 (0:Int) (IntKind.wrap .i64 (IntKind.wrap .i64 ((3:Int) * x1) - (1:Int)))
def Wm:List SV→List Entry→Option Out
 | [.one ⟨false,[.val (.int .i64 x0)]⟩,.one ⟨false,[.ptr 0 0]⟩],[.box 26 [.val (.int .i64 x1),.ref 1],.row false 2 (.int .i64) x2]=>some ⟨.one ⟨false,[.val (.bool (Gv x0 x1))]⟩,[.box 26 [.val (.int .i64 x1),.ref 1],.row false 2 ajn x2],[],[]⟩
 |_,_=>none
def tu:PF prog:=PF.ofG prog [il] [] aO 162 f162 func162 (fun c _=>LOk.nil c) Wm (by
 intro vs es r h;unfold Wm at h;split at h
 ·cases h;kernel_rfl
 ·cases h)
abbrev bG:=Int×Int×Int×List Int
section
variable (y0 y1 y2:Int)(y3:List Int)
def iU:Bool:=ltI y0 y1
def iV:Bool:=leI (0:Int) y0
def iW:Bool:=ltI y0 (↑y3.length:Int)
def iX:Bool:=ltN y0.toNat y3.length
def iY:Bool:=Gv (Option.getD y3[Int.toNat y0]? (0:Int)) y2
def iZ:Int:=IntKind.wrap .i64 (y0 + (1:Int))
end
def Qq:bG→List (Nat×SV)
 |(y0,y1,_,_)=> [(8,(.one ⟨false,[.val (.int .i64 y0)]⟩)),(7,(.one ⟨false,[.val (.int .i64 y1)]⟩)),(1,(.one ⟨false,[.clo 162 [0]]⟩)),(0,(.one ⟨false,[.ref 1]⟩))]
def Qp:bG→List (Nat×Entry)
 |(_,_,y2,y3)=> [(0,(.box 26 [.val (.int .i64 y2),.ref 1])),(1,(.row false 2 ajn y3))]
def Qs:Nat→bG→List (Nat×SV)
 |0,(y0,_,_,_)=> [(4,(.one ⟨false,[.val (.int .i64 y0)]⟩))]
 |_,(_,_,_,_)=> []
def Qr:Nat→bG→List (Nat×Entry)
 |0,(_,_,y2,y3)=> [(0,(.box 26 [.val (.int .i64 y2),.ref 1])),(1,(.row false 2 ajn y3))]
 |_,(_,_,y2,y3)=> [(0,(.box 26 [.val (.int .i64 y2),.ref 1])),(1,(.row false 2 ajn y3))]
def iF:bG→LT bG
 |(y0,y1,y2,y3)=> .ite (iU y0 y1) (.need [iV y0,iW y0 y3,iX y0 y3] (.ite (iY y0 y2 y3) (.ext 0 [(0,0),(1,1)]) (.nrm ((iZ y0),y1,y2,y3) [(0,0),(1,1)]))) (.ext 1 [(0,0),(1,1)])
def sg(s:St):Option bG:=
 (match s.look 8 with
 |some ⟨none,.one ⟨false,[.val (.int .i64 y0)]⟩⟩=>
 (match s.look 7 with
 |some ⟨none,.one ⟨false,[.val (.int .i64 y1)]⟩⟩=>
 (match s.look 1 with
 |some ⟨none,.one ⟨false,[.clo 162 [1]]⟩⟩=>
 (match s.look 0 with
 |some ⟨none,.one ⟨false,[.ref 0]⟩⟩=>
 (match s.ent 1 with
 |some (.box 26 [.val (.int .i64 y2),.ref 0])=>
 (match s.ent 0 with
 |some (.row false 2 (.int .i64) y3)=>
 some (y0,y1,y2,y3)
 |_=>none)
 |_=>none)
 |_=>none)
 |_=>none)
 |_=>none)
 |_=>none)
def aL:Lp bG where
 h:=⟨[9,10,5,11,12,13,14,15,16,17,4,18,8],[0,1],[],[]⟩
 JL:=Qq
 JE:=Qp
 XL:=Qs
 XE:=Qr
 q:=fun j=>match j with | 0=> .ret | _=> .exit 0
 tags:= [0,1]
 lt:=iF
 fuel:=fun(y0,y1,y2,y3)=>y0.natAbs + y1.natAbs + y2.natAbs + y3.length
 fix:=fun(_,y1,y2,y3) (y0,_,_,_)=>(y0,y1,y2,y3)
 σ:= [(0,1),(1,0)]
 rd:=sg
theorem OB:LoopOk prog (fun k=>Nat.blt k Tryz.f211.ntmps) aL.F (aK f211 0):=by
 refine Lp.ok (tbl:= [tu,PF.lend tu,PF.fz tu]) (lf:= []) aO aL (by kernel_rfl) (LOk.nil _) (fun _=>rfl) (fun j _=>by unfold aL;match j with | 0=>rfl | _ + 1=>rfl) ?_ ?_ ?_ ?_ (fun _=>rfl) ?_
 ·rintro⟨y0,y1,y2,y3⟩;kernel_rfl
 ·rintro⟨y0,y1,y2,y3⟩;kernel_rfl
 ·intro s x h
  have h:sg s=some x:=h
  unfold sg at h
  repeat' split at h
  all_goals cases h
  exact⟨aa (by assumption) rfl (aa (by assumption) rfl (aa (by assumption) rfl (aa (by assumption) rfl (rfl)))),ab rfl (by assumption) rfl (ab rfl (by assumption) rfl (rfl))⟩
 ·rintro⟨y0,y1,y2,y3⟩;kernel_rfl
 ·rintro⟨y0,y1,y2,y3⟩ z;exact(And.intro (And.intro trivial rfl) trivial)
section
variable (x0:List Int)(x1:Int)
def nG:Int×Int×Int×List Int:=((0:Int),(↑x0.length:Int),x1,x0)
def um:Bool:=Nat.beq ((Lp.res aL (nG x0 x1)).1) (0:Nat)
def vR:Int:=bif um x0 x1 then ((Lp.res aL (nG x0 x1)).2).1else(-1:Int)
def vS:Int:=bif um x0 x1 then x1 else x1
def vT:Bool:=allT [Lp.fin aL (nG x0 x1)]
end
def GF:List SV→List Entry→Option Out
 | [.one ⟨false,[.ref 0]⟩,.one ⟨false,[.clo 162 [1]]⟩],[.row false 2 (.int .i64) x0,.box 26 [.val (.int .i64 x1),.ref 0]]=>some ⟨.one ⟨false,[.val (.int .i64 (vR x0 x1))]⟩,[.row false 2 ajn x0,.box 26 [.val (.int .i64 (vS x0 x1)),.ref 0]],[],[vT x0 x1]⟩
 |_,_=>none
def vQ:PF prog:=PF.ofG prog [tu,PF.lend tu,PF.fz tu] [aL.F] aO 211 f211 func211 (LOk.fnT (l:= [aK f211 0]) (by kernel_rfl) (.cons OB (.nil _))) GF (by
 intro vs es r h;unfold GF at h;split at h
 ·cases h;kernel_rfl
 ·cases h)
section
variable (x0:List Int)(x1:Int)
def mh:Bool:=leI (0:Int) (vR x0 x1)
def Dk:Int:=vS x0 x1
def mi:Bool:=allT [vT x0 x1]
end
def CQ:List SV→List Entry→Option Out
 | [.one ⟨false,[.ref 0]⟩,.one ⟨false,[.clo 162 [1]]⟩],[.row false 2 (.int .i64) x0,.box 26 [.val (.int .i64 x1),.ref 0]]=>some ⟨.one ⟨false,[.val (.bool (mh x0 x1))]⟩,[.row false 2 ajn x0,.box 26 [.val (.int .i64 (Dk x0 x1)),.ref 0]],[],[mi x0 x1]⟩
 |_,_=>none
def sK:PF prog:=PF.ofG prog [vQ,PF.lend vQ,PF.fz vQ] [] aO 158 f158 func158 (fun c _=>LOk.nil c) CQ (by
 intro vs es r h;unfold CQ at h;split at h
 ·cases h;kernel_rfl
 ·cases h)
section
variable (x0:Int)(x1:List Int)
def Uy:Bool:=bif QQ x0 then bu (dx x1) (1:Int) (4:Int)else false
def WW:Bool:=bif Uy x0 x1 then !mh x1 x0 else false
def WX:Bool:=allT [!(Uy x0 x1&&true)||mi x1 x0]
end
def adP:List SV→List Entry→Option Out
 | [.one ⟨true,[.val (.int .i64 x0),.ref 0]⟩],[.row false 2 (.int .i64) x1]=>some ⟨.one ⟨false,[.val (.bool (WW x0 x1))]⟩,[.row false 2 ajn x1],[],[WX x0 x1]⟩
 |_,_=>none
def aok:PF prog:=PF.ofG prog [aki,il,aW,PF.lend aW,PF.fz aW,sK,PF.lend sK,PF.fz sK] [] aO 75 f75 func75 (fun c _=>LOk.nil c) adP (by
 intro vs es r h;unfold adP at h;split at h
 ·cases h;kernel_rfl
 ·cases h)
def FM(x0:List Int):Bool:=allT [ltN (0:Nat) x0.length,false||leN ((0:Nat) + List.length x0) (9223372036854775807:Nat),false||leN (((0:Nat) + List.length x0) * (8:Nat)) (140737488355328:Nat)]
def OO:List SV→List Entry→Option Out
 | [.one ⟨false,[.ref 0]⟩],[.row false 2 (.int .i64) x0]=>some ⟨.one ⟨false,[.ref 1]⟩,[.row false 2 ajn x0],[.row true 2 ajn x0],[FM x0]⟩
 |_,_=>none
def aa1:PF prog:=PF.ofG prog [] [] aO 151 f151 func151 (fun c _=>LOk.nil c) OO (by
 intro vs es r h;unfold OO at h;split at h
 ·cases h;kernel_rfl
 ·cases h)
def adL(x0:List Int):Bool:=allT [leN ((0:Nat) + List.length x0) (9223372036854775807:Nat),leN (((0:Nat) + List.length x0) * (8:Nat)) (140737488355328:Nat)]
def akv:List SV→List Entry→Option Out
 | [.one ⟨false,[.ref 0]⟩],[.row false 2 (.int .i64) x0]=>some ⟨.one ⟨false,[.ref 1]⟩,[.row false 2 ajn x0],[.row true 2 ajn x0],[adL x0]⟩
 |_,_=>none
def arv:PF prog:=PF.ofG prog [] [] aO 209 f209 func209 (fun c _=>LOk.nil c) akv (by
 intro vs es r h;unfold akv at h;split at h
 ·cases h;kernel_rfl
 ·cases h)
section
variable (x0 x1 x2:Int)
def MZ:Bool:=IntKind.wrap .i64 (Int.tdiv x1 (3:Int))==x2
def SF:Bool:=Int.tmod x1 (3:Int)==(2:Int)
def abq:Bool:=bif MZ x1 x2 then true else bif SF x1 then Int.tmod (IntKind.wrap .i64 (IntKind.wrap .i64 (Int.tdiv x1 (3:Int)) + (1:Int))) x0==x2 else false
def VI:Bool:=allT [!(!MZ x1 x2&&true)||neI (3:Int) (0:Int),!(SF x1&&(!MZ x1 x2&&true))||neI (3:Int) (0:Int),!(SF x1&&(!MZ x1 x2&&true))||neI x0 (0:Int)]
end
def ahy:List SV→List Entry→Option Out
 | [.one ⟨false,[.val (.int .i64 x0)]⟩,.one ⟨false,[.val (.int .i64 x1)]⟩,.one ⟨false,[.val (.int .i64 x2)]⟩],[]=>some ⟨.one ⟨false,[.val (.bool (abq x0 x1 x2))]⟩,[],[],[VI x0 x1 x2]⟩
 |_,_=>none
def aqI:PF prog:=PF.ofG prog [] [] aO 219 f219 func219 (fun c _=>LOk.nil c) ahy (by
 intro vs es r h;unfold ahy at h;split at h
 ·cases h;kernel_rfl
 ·cases h)
abbrev lj:=Int×List Int×List Int
section
variable (y0:Int)(y1 y2:List Int)
def zb:Bool:=ltI y0 (↑y1.length:Int)
def zc:Bool:=leI (0:Int) y0
def Fy:Bool:=ltN y0.toNat y1.length
def Fz:Bool:=ltI y0 (↑y2.length:Int)
def FA:Bool:=ltN y0.toNat y2.length
def FB:Bool:=Option.getD y1[Int.toNat y0]? (0:Int)!=Option.getD y2[Int.toNat y0]? (0:Int)
def FC:Int:=IntKind.wrap .i64 (y0 + (1:Int))
end
def ajK:lj→List (Nat×SV)
 |(y0,_,_)=> [(5,(.one ⟨false,[.val (.int .i64 y0)]⟩)),(0,(.one ⟨false,[.ref 0]⟩)),(1,(.one ⟨false,[.ref 1]⟩))]
def ajB:lj→List (Nat×Entry)
 |(_,y1,y2)=> [(0,(.row false 2 ajn y1)),(1,(.row false 2 ajn y2))]
def aj3:Nat→lj→List (Nat×SV)
 |0,(_,_,_)=> [(4,(.one ⟨false,[.val (.bool false)]⟩))]
 |_,(_,_,_)=> []
def ajU:Nat→lj→List (Nat×Entry)
 |0,(_,y1,y2)=> [(0,(.row false 2 ajn y1)),(1,(.row false 2 ajn y2))]
 |_,(_,y1,y2)=> [(0,(.row false 2 ajn y1)),(1,(.row false 2 ajn y2))]
def Df:lj→LT lj
 |(y0,y1,y2)=> .ite (zb y0 y1) (.need [zc y0,zb y0 y1,Fy y0 y1,zc y0,Fz y0 y2,FA y0 y2] (.ite (FB y0 y1 y2) (.ext 0 [(0,0),(1,1)]) (.nrm ((FC y0),y1,y2) [(0,0),(1,1)]))) (.ext 1 [(0,0),(1,1)])
def Rd(s:St):Option lj:=
 (match s.look 5 with
 |some ⟨none,.one ⟨false,[.val (.int .i64 y0)]⟩⟩=>
 (match s.look 0 with
 |some ⟨none,.one ⟨false,[.ref 0]⟩⟩=>
 (match s.look 1 with
 |some ⟨none,.one ⟨false,[.ref 1]⟩⟩=>
 (match s.ent 0 with
 |some (.row false 2 (.int .i64) y1)=>
 (match s.ent 1 with
 |some (.row false 2 (.int .i64) y2)=>
 some (y0,y1,y2)
 |_=>none)
 |_=>none)
 |_=>none)
 |_=>none)
 |_=>none)
def ew:Lp lj where
 h:=⟨[11,12,13,14,17,18,19,20,21,22,23,24,25,4,15,16,5],[0,1],[],[]⟩
 JL:=ajK
 JE:=ajB
 XL:=aj3
 XE:=ajU
 q:=fun j=>match j with | 0=> .ret | _=> .exit 0
 tags:= [0,1]
 lt:=Df
 fuel:=fun(y0,y1,y2)=>y0.natAbs + y1.length + y2.length
 fix:=fun(_,y1,y2) (y0,_,_)=>(y0,y1,y2)
 σ:= [(0,0),(1,1)]
 rd:=Rd
theorem ahh:LoopOk prog (fun k=>Nat.blt k Tryz.f14.ntmps) ew.F (aK f14 0):=by
 refine Lp.ok (tbl:= []) (lf:= []) aO ew (by kernel_rfl) (LOk.nil _) (fun _=>rfl) (fun j _=>by unfold ew;match j with | 0=>rfl | _ + 1=>rfl) ?_ ?_ ?_ ?_ (fun _=>rfl) ?_
 ·rintro⟨y0,y1,y2⟩;kernel_rfl
 ·rintro⟨y0,y1,y2⟩;kernel_rfl
 ·intro s x h
  have h:Rd s=some x:=h
  unfold Rd at h
  repeat' split at h
  all_goals cases h
  exact⟨aa (by assumption) rfl (aa (by assumption) rfl (aa (by assumption) rfl (rfl))),ab rfl (by assumption) rfl (ab rfl (by assumption) rfl (rfl))⟩
 ·rintro⟨y0,y1,y2⟩;kernel_rfl
 ·rintro⟨y0,y1,y2⟩ z;exact(And.intro (And.intro trivial rfl) trivial)
section
variable (x0 x1:List Int)
def QI:Bool:=(↑x0.length:Int)!=(↑x1.length:Int)
def QJ:Int×List Int×List Int:=((0:Int),x0,x1)
def Sv:Bool:=bif QI x0 x1 then false else bif Nat.beq ((Lp.res ew (QJ x0 x1)).1) (0:Nat)then false else true
def Sw:Bool:=allT [QI x0 x1||Lp.fin ew (QJ x0 x1)]
end
def af5:List SV→List Entry→Option Out
 | [.one ⟨false,[.ref 0]⟩,.one ⟨false,[.ref 1]⟩],[.row false 2 (.int .i64) x0,.row false 2 (.int .i64) x1]=>some ⟨.one ⟨false,[.val (.bool (Sv x0 x1))]⟩,[.row false 2 ajn x0,.row false 2 ajn x1],[],[Sw x0 x1]⟩
 |_,_=>none
def apx:PF prog:=PF.ofG prog [] [ew.F] aO 14 f14 func14 (LOk.fnT (l:= [aK f14 0]) (by kernel_rfl) (.cons ahh (.nil _))) af5 (by
 intro vs es r h;unfold af5 at h;split at h
 ·cases h;kernel_rfl
 ·cases h)
abbrev dp:=Int×Int×List Int
section
variable (y0 y1:Int)(y2:List Int)
def kD:Int:=Option.getD y2[Int.toNat y0]? (0:Int)
def lN:Bool:=ltI y0 (↑y2.length:Int)
def pT:Bool:=leI (0:Int) y0
def pU:Bool:=ltN y0.toNat y2.length
def pV:Int:=IntKind.wrap .i64 (y0 + (1:Int))
def pW:Int:=an1 y1 (kD y0 y2) (kD y0 y2) y1
end
def Yw:dp→List (Nat×SV)
 |(y0,y1,_)=> [(4,(.one ⟨false,[.val (.int .i64 y0)]⟩)),(0,(.one ⟨false,[.ref 0]⟩)),(3,(.one ⟨false,[.val (.int .i64 y1)]⟩))]
def Yu:dp→List (Nat×Entry)
 |(_,_,y2)=> [(0,(.row false 2 ajn y2))]
def YA:Nat→dp→List (Nat×SV)
 |_,(_,y1,_)=> [(3,(.one ⟨false,[.val (.int .i64 y1)]⟩))]
def Yy:Nat→dp→List (Nat×Entry)
 |_,(_,_,y2)=> [(0,(.row false 2 ajn y2))]
def oa:dp→LT dp
 |(y0,y1,y2)=> .ite (lN y0 y2) (.need [pT y0,lN y0 y2,pU y0 y2] (.nrm ((pV y0),pW y0 y1 y2,y2) [(0,0)])) (.ext 0 [(0,0)])
def CH(s:St):Option dp:=
 (match s.look 4 with
 |some ⟨none,.one ⟨false,[.val (.int .i64 y0)]⟩⟩=>
 (match s.look 0 with
 |some ⟨none,.one ⟨false,[.ref 0]⟩⟩=>
 (match s.look 3 with
 |some ⟨none,.one ⟨false,[.val (.int .i64 y1)]⟩⟩=>
 (match s.ent 0 with
 |some (.row false 2 (.int .i64) y2)=>
 some (y0,y1,y2)
 |_=>none)
 |_=>none)
 |_=>none)
 |_=>none)
def bM:Lp dp where
 h:=⟨[12,13,14,15,18,19,20,21,22,23,3,16,17,4],[0],[],[]⟩
 JL:=Yw
 JE:=Yu
 XL:=YA
 XE:=Yy
 q:=fun j=>match j with | _=> .exit 0
 tags:= [0]
 lt:=oa
 fuel:=fun(y0,y1,y2)=>y0.natAbs + y1.natAbs + y2.length
 fix:=fun(_,_,y2) (y0,y1,_)=>(y0,y1,y2)
 σ:= [(0,0)]
 rd:=CH
theorem Xe:LoopOk prog (fun k=>Nat.blt k Tryz.f156.ntmps) bM.F (aK f156 0):=by
 refine Lp.ok (tbl:= []) (lf:= []) aO bM (by kernel_rfl) (LOk.nil _) (fun _=>rfl) (fun _ _=>rfl) ?_ ?_ ?_ ?_ (fun _=>rfl) ?_
 ·rintro⟨y0,y1,y2⟩;kernel_rfl
 ·rintro⟨y0,y1,y2⟩;kernel_rfl
 ·intro s x h
  have h:CH s=some x:=h
  unfold CH at h
  repeat' split at h
  all_goals cases h
  exact⟨aa (by assumption) rfl (aa (by assumption) rfl (aa (by assumption) rfl (rfl))),ab rfl (by assumption) rfl (rfl)⟩
 ·rintro⟨y0,y1,y2⟩;kernel_rfl
 ·rintro⟨y0,y1,y2⟩ z;exact(And.intro rfl trivial)
section
variable (x0:List Int)
def yf:Int×Int×List Int:=((1:Int),Option.getD x0[Int.toNat (0:Int)]? (0:Int),x0)
def IX:Int:=((Lp.res bM (yf x0)).2.2).1
def IY:Bool:=allT [!ltI (↑x0.length:Int) (1:Int),ltI (0:Int) (↑x0.length:Int),ltN (Int.toNat (0:Int)) x0.length,Lp.fin bM (yf x0)]
end
def Rw:List SV→List Entry→Option Out
 | [.one ⟨false,[.ref 0]⟩],[.row false 2 (.int .i64) x0]=>some ⟨.one ⟨false,[.val (.int .i64 (IX x0))]⟩,[.row false 2 ajn x0],[],[IY x0]⟩
 |_,_=>none
def adx:PF prog:=PF.ofG prog [] [bM.F] aO 156 f156 func156 (LOk.fnT (l:= [aK f156 0]) (by kernel_rfl) (.cons Xe (.nil _))) Rw (by
 intro vs es r h;unfold Rw at h;split at h
 ·cases h;kernel_rfl
 ·cases h)
def mW(x1:Int)(x2:List Int):Bool:=bu x1 (0:Int) (IntKind.wrap .i64 (dx x2 - (1:Int)))
def vV:List SV→List Entry→Option Out
 | [.one ⟨true,[.val (.int .i64 _x0),.ref 0]⟩,.one ⟨false,[.val (.int .i64 x1)]⟩],[.row false 2 (.int .i64) x2]=>some ⟨.one ⟨false,[.val (.bool (mW x1 x2))]⟩,[.row false 2 ajn x2],[],[]⟩
 |_,_=>none
def LC:PF prog:=PF.ofG prog [il,aW,PF.lend aW,PF.fz aW] [] aO 183 f183 func183 (fun c _=>LOk.nil c) vV (by
 intro vs es r h;unfold vV at h;split at h
 ·cases h;kernel_rfl
 ·cases h)
def blk(p:Int):Int:=Int.tdiv p 3
def phs(p:Int):Int:=Int.tmod p 3
def inR(a lo hi:Int):Bool:=leI lo a&&leI a hi
def isT(n:Int)(ps:List Int):Bool:=inR n 2 8&&inR ps.length 1 4&&ps.all fun p=>inR p 0 (3 * n - 1)
def Se(n p b:Int):Bool:=blk p==b||(phs p==2&&Int.tmod (blk p + 1) n==b)
def Uv(n:Int)(ps:List Int)(b:Int):Nat:=ps.countP fun p=>Se n p b
def eqL(xs ys:List Int):Bool:=decide (xs=ys)
theorem sa{a lo hi:Int}:inR a lo hi=true↔lo≤a∧a≤hi:=by simp [inR]
theorem xZ(a lo hi:Int):(bif leI lo a then leI a hi else false)=inR a lo hi:=by
 unfold inR;cases leI lo a <;> rfl
theorem ya{n:Int}{ps:List Int}:isT n ps=true↔(2≤n∧n≤8)∧(1≤ps.length∧ps.length≤4)∧ ∀ p∈ps,0≤p∧p≤3 * n - 1:=by
 simp only [isT,Bool.and_eq_true,sa,List.all_eq_true]
 constructor
 ·rintro⟨⟨h1,h2⟩,h3⟩;exact⟨h1,by omega,h3⟩
 ·rintro⟨h1,h2,h3⟩;exact⟨⟨h1,by omega⟩,h3⟩
def xy(y1 b:Int):(Unit)→Nat ⊕ (Unit)
 |_=>(bif(!aZ b (0:Int) (IntKind.wrap .i64 (IntKind.wrap .i64 ((3:Int) * y1) - (1:Int))))then(.inl 0)else(.inr ()))
def rI(y1:Int)(y2:List Int)(i:Nat):(Unit)→kt
 |_=>((i:Int),y1,y2)
def PC:kt→Unit
 |(_,_,_)=>()
theorem akl(y1:Int)(y2:List Int) (hn:y2.length≤9223372036854775807):
  dJ.fin ((0:Int),y1,y2)=true∧dJ.res ((0:Int),y1,y2)=((aN (xy y1) 1 y2 0 ()).1,(rI y1 y2) (aN (xy y1) 1 y2 0 ()).2.1 (aN (xy y1) 1 y2 0 ()).2.2):=by
 have cH:=dJ.along (rI y1 y2) PC (xy y1) 1 (fun _ _=>True) y2 () (by trivial) (by simp only [dJ,rI];omega) (fun i b a hb hI=> ?_) (fun a hI=> ?_)
 ·exact cH
 ·obtain⟨⟩:=a
  have dd:=(List.getElem?_eq_some_iff.1 hb).1
  have gc: ∀ d,Option.getD y2[i]? d=b:=fun d=>by rw [hb];rfl
  have hw:=tQ dd hn
  have bW:ltI (i:Int) (y2.length:Int)=true:=du (by omega)
  have pY:leI (0:Int) (i:Int)=true:=ct (by omega)
  have dw:ltN i y2.length=true:=ec dd
  refine⟨?_,?_,?_,?_⟩
  ·simp [xD,Do,Dp,Dq,Dr,Bb,dJ,LT.nds,allT,rI,bW,pY,dw,gc]
  ·simp [xD,Do,Dp,Dq,Dr,Bb,dJ,LT.each,rI,PC,hw]
  ·simp only [xD,Do,Dp,Dq,Dr,Bb,dJ,LT.fn,rI,PC,xy,Int.toNat_natCast,bW,pY,dw,gc,cond_true,Bool.cond_self]
  ·exact fun _ _=>trivial
 ·obtain⟨⟩:=a
  simp [xD,Do,Dp,Dq,Dr,Bb,dJ,LT.out,rI]
def fD(y2 b:Int):(Unit)→Nat ⊕ (Unit)
 |_=>(bif(Gv b y2)then(.inl 0)else(.inr ()))
def ci(y2:Int)(y3:List Int)(i:Nat):(Unit)→bG
 |_=>((i:Int),(↑y3.length:Int),y2,y3)
def sf:bG→Unit
 |(_,_,_,_)=>()
theorem Rq(y2:Int)(y3:List Int) (hn:y3.length≤9223372036854775807):
  aL.fin ((0:Int),(↑y3.length:Int),y2,y3)=true∧aL.res ((0:Int),(↑y3.length:Int),y2,y3)=((aN (fD y2) 1 y3 0 ()).1,(ci y2 y3) (aN (fD y2) 1 y3 0 ()).2.1 (aN (fD y2) 1 y3 0 ()).2.2):=by
 have cH:=aL.along (ci y2 y3) sf (fD y2) 1 (fun _ _=>True) y3 () (by trivial) (by simp only [aL,ci];omega) (fun i b a hb hI=> ?_) (fun a hI=> ?_)
 ·exact cH
 ·obtain⟨⟩:=a
  have dd:=(List.getElem?_eq_some_iff.1 hb).1
  have gc: ∀ d,Option.getD y3[i]? d=b:=fun d=>by rw [hb];rfl
  have hw:=tQ dd hn
  have bW:ltI (i:Int) (y3.length:Int)=true:=du (by omega)
  have pY:leI (0:Int) (i:Int)=true:=ct (by omega)
  have dw:ltN i y3.length=true:=ec dd
  refine⟨?_,?_,?_,?_⟩
  ·simp [iU,iV,iW,iX,iY,iZ,iF,aL,LT.nds,allT,ci,bW,pY,dw,gc]
  ·simp [iU,iV,iW,iX,iY,iZ,iF,aL,LT.each,ci,sf,hw]
  ·simp only [iU,iV,iW,iX,iY,iZ,iF,aL,LT.fn,ci,sf,fD,Int.toNat_natCast,bW,pY,dw,gc,cond_true,Bool.cond_self]
  ·exact fun _ _=>trivial
 ·obtain⟨⟩:=a
  simp [iU,iV,iW,iX,iY,iZ,iF,aL,LT.out,ci]
def EN(y1 y2:List Int)(b:Nat):(Unit)→Nat ⊕ (Unit)
 |_=>(bif(Option.getD y1[b]? (0:Int)!=Option.getD y2[b]? (0:Int))then(.inl 0)else(.inr ()))
def sW(y1 y2:List Int)(i:Nat):(Unit)→lj
 |_=>((i:Int),y1,y2)
def QV:lj→Unit
 |(_,_,_)=>()
theorem al0(y1 y2:List Int) (hn:y1.length≤9223372036854775807) (he:y2.length=y1.length):
  ew.fin ((0:Int),y1,y2)=true∧ew.res ((0:Int),y1,y2)=((aN (EN y1 y2) 1 (List.range y1.length) 0 ()).1,(sW y1 y2) (aN (EN y1 y2) 1 (List.range y1.length) 0 ()).2.1 (aN (EN y1 y2) 1 (List.range y1.length) 0 ()).2.2):=by
 have cH:=ew.along (sW y1 y2) QV (EN y1 y2) 1 (fun _ _=>True) (List.range y1.length) () (by trivial) (by simp only [ew,sW,List.length_range];omega) (fun i b a hb hI=> ?_) (fun a hI=> ?_)
 ·exact cH
 ·obtain⟨⟩:=a
  obtain⟨rfl,dd⟩:=qD hb
  have hw:IntKind.i64.wrap ((b:Int) + 1)=((b + 1:Nat):Int):=by rw [aw (by omega) (by omega)];omega
  have bW:ltI (b:Int) (y1.length:Int)=true:=du (by omega)
  have pY:leI (0:Int) (b:Int)=true:=ct (by omega)
  have dw:ltN b y1.length=true:=ec (by omega)
  refine⟨?_,?_,?_,?_⟩
  ·simp [zb,zc,Fy,Fz,FA,FB,FC,Df,ew,LT.nds,allT,sW,bW,pY,dw,he]
  ·simp [zb,zc,Fy,Fz,FA,FB,FC,Df,ew,LT.each,sW,QV,hw,he]
  ·simp only [zb,zc,Fy,Fz,FA,FB,FC,Df,ew,LT.fn,sW,QV,EN,Int.toNat_natCast,bW,cond_true]
  ·exact fun _ _=>trivial
 ·obtain⟨⟩:=a
  simp [zb,zc,Fy,Fz,FA,FB,FC,Df,ew,LT.out,sW,List.length_range]
def ji(b:Int):(Int)→Nat ⊕ (Int)
 |y1=>(.inr (an1 y1 b b y1))
def fZ(y2:List Int)(i:Nat):(Int)→dp
 |y1=>(((i + 1:Nat):Int),y1,y2)
def CF:dp→Int
 |(_,y1,_)=>y1
theorem ZR(y2:List Int)(y1:Int)(hn:y2.length≤9223372036854775807):
  bM.fin ((1:Int),y1,y2)=true∧bM.res ((1:Int),y1,y2)=((aN (ji) 0 (y2.drop 1) 0 y1).1,(fZ y2) (aN (ji) 0 (y2.drop 1) 0 y1).2.1 (aN (ji) 0 (y2.drop 1) 0 y1).2.2):=by
 have cH:=bM.along (fZ y2) CF (ji) 0 (fun _ _=>True) (y2.drop 1) y1 (by trivial) (by simp only [bM,fZ,List.length_drop];omega) (fun i b a hb hI=> ?_) (fun a hI=> ?_)
 ·exact cH
 ·obtain y1:=a
  rw [List.getElem?_drop,Nat.add_comm]at hb
  have dd:=(List.getElem?_eq_some_iff.1 hb).1
  have gc: ∀ d,Option.getD y2[i + 1]? d=b:=fun d=>by rw [hb];rfl
  have hw:IntKind.i64.wrap (((i + 1:Nat):Int) + 1)=((i + 1 + 1:Nat):Int):=by rw [aw (by omega) (by omega)];omega
  have bW:ltI ((i + 1:Nat):Int) (y2.length:Int)=true:=du (by omega)
  have pY:leI (0:Int) ((i + 1:Nat):Int)=true:=ct (by omega)
  have dw:ltN (i + 1) y2.length=true:=ec dd
  refine⟨?_,?_,?_,?_⟩
  ·simp only [kD,lN,pT,pU,pV,pW,oa,bM,LT.nds,allT,fZ,Int.toNat_natCast,bW,pY,dw,gc,cond_true]
  ·simp only [kD,lN,pT,pU,pV,pW,oa,bM,LT.each,fZ,CF,hw,and_self]
  ·simp only [kD,lN,pT,pU,pV,pW,oa,bM,LT.fn,fZ,CF,ji,Int.toNat_natCast,bW,pY,dw,gc,cond_true,Bool.cond_self]
  ·exact fun _ _=>trivial
 ·obtain y1:=a
  simp only [kD,lN,pT,pU,pV,pW,oa,bM,LT.out,fZ,List.length_drop];rw [show ltI (((y2.length - 1) + 1:Nat):Int) (y2.length:Int)=false from akN (by omega)];rfl
theorem atG(xs ys:List Int)(hn:leN xs.length 9223372036854775807=true):Sv xs ys=eqL xs ys∧Sw xs ys=true:=by
 have hn:=dT.1 hn
 unfold eqL
 by_cases hl:ys.length=xs.length
 ·obtain⟨w1,w2⟩:=al0 xs ys hn hl
  have ha:=axX (d:=(0:Int)) hl (P:=fun b=>Option.getD xs[b]? 0 !=Option.getD ys[b]? 0) (fun b=>by simp [bne,BEq.beq])
  rw [kH (P:=fun b=>Option.getD xs[b]? 0 !=Option.getD ys[b]? 0) (j:=0) (fun b=>rfl),ha]at w2
  simp only [QI,QJ,Sv,Sw,w1,w2,allT]
  by_cases he:xs=ys
  ·subst he;simp;decide
  ·simp [he,hl]
 ·have Sg:xs≠ys:=fun h=>hl (by rw [h])
  simp [QI,QJ,Sv,Sw,allT,Sg]
  omega
def agf:List SV→List Entry→Option Out
 | [.one ⟨false,[.ref 0]⟩,.one ⟨false,[.ref 1]⟩],[.row false 2 (.int .i64) x0,.row false 2 (.int .i64) x1]=>some ⟨.one ⟨false,[.val (.bool (eqL x0 x1))]⟩,[.row false 2 ajn x0,.row false 2 ajn x1],[],[leN x0.length 9223372036854775807]⟩
 |_,_=>none
def eN:PF prog:=PF.alt apx agf (by
 intro args es o h bz;unfold agf at h;split at h
 ·rename_i x0 x1
  cases h
  have bz:=fM bz
  have hh:=atG x0 x1 bz
  obtain⟨e0,en⟩:=hh
  exact jK rfl (fj en) (by simp only [e0] <;> rfl) rfl rfl
 ·cases h)
theorem ao7{n:Int}(h:2≤n∧n≤8):IntKind.i64.wrap (IntKind.i64.wrap (3 * n) - 1)=3 * n - 1:=by
 rw [aw (x:=3 * n) (by omega) (by omega),aw (by omega) (by omega)]
theorem au8(n:Int)(ps:List Int):Xq n ps=isT n ps∧Xr n ps=true:=by
 simp only [Vw,Vx,Xq,Xr,aZ,xZ,isT]
 cases h1:inR n 2 8 with
 |false=>simp [allT]
 |true=>
  cases h2:inR (ps.length:Int) 1 4 with
  |false=>simp [allT]
  |true=>
   have h2':=sa.1 h2
   obtain⟨w1,w2⟩:=akl n ps (by omega)
   rw [kH (P:=fun b=> !inR b 0 (3 * n - 1)) (j:=0) (fun b=>by simp only [xy,ao7 (sa.1 h1),aZ,xZ])]at w2
   have e5:(ps.any fun b=> !inR b 0 (3 * n - 1))= !(ps.all fun b=>inR b 0 (3 * n - 1)):=by simp [List.all_eq_not_any_not]
   rw [e5]at w2
   simp only [w1,w2,allT]
   cases (ps.all fun b=>inR b 0 (3 * n - 1)) <;> simp <;> rfl
def aed:List SV→List Entry→Option Out
 | [.one ⟨true,[.val (.int .i64 x0),.ref 0]⟩],[.row false 2 (.int .i64) x1]=>some ⟨.one ⟨false,[.val (.bool (isT x0 x1))]⟩,[.row false 2 ajn x1],[],[]⟩
 |_,_=>none
def Em:PF prog:=PF.alt aop aed (by
 intro args es o h bz;unfold aed at h;split at h
 ·rename_i x0 x1
  cases h
  have hh:=au8 x0 x1
  obtain⟨e0,en⟩:=hh
  exact jK rfl (fj en) (by simp only [e0] <;> rfl) rfl rfl
 ·cases h)
theorem atj(n:Int)(h:2≤n∧n≤8)(ps:List Int)(hn:ps.length≤9223372036854775807):
  mh ps n=(ps.any fun b=> !inR b 0 (3 * n - 1))∧mi ps n=true:=by
 obtain⟨w1,w2⟩:=Rq n ps hn
 rw [kH (P:=fun b=> !inR b 0 (3 * n - 1)) (j:=0) (fun b=>by simp only [fD,Gv,ao7 h,bu,xZ])]at w2
 simp only [mh,Dk,mi,nG,um,vR,vS,vT,w1,w2,allT,cond_true,and_true,ci]
 cases (ps.any fun b=> !inR b 0 (3 * n - 1))with
 |true=>exact ct (Int.natCast_nonneg _)
 |false=>rfl
theorem auJ(n:Int)(ps:List Int):WW n ps=isT n ps∧WX n ps=true:=by
 simp only [Uy,WW,WX,QQ,bu,dx,xZ,isT]
 cases h1:inR n 2 8 with
 |false=>simp [allT]
 |true=>
  cases h2:inR (ps.length:Int) 1 4 with
  |false=>simp [allT]
  |true=>
   have h2':=sa.1 h2
   obtain⟨c1,c2⟩:=atj n (sa.1 h1) ps (by omega)
   simp only [c1,c2,allT]
   simp [List.all_eq_not_any_not]
def ad8:List SV→List Entry→Option Out
 | [.one ⟨true,[.val (.int .i64 x0),.ref 0]⟩],[.row false 2 (.int .i64) x1]=>some ⟨.one ⟨false,[.val (.bool (isT x0 x1))]⟩,[.row false 2 ajn x1],[],[]⟩
 |_,_=>none
def Ej:PF prog:=PF.alt aok ad8 (by
 intro args es o h bz;unfold ad8 at h;split at h
 ·rename_i x0 x1
  cases h
  have hh:=auJ x0 x1
  obtain⟨e0,en⟩:=hh
  exact jK rfl (fj en) (by simp only [e0] <;> rfl) rfl rfl
 ·cases h)
def Pa(ps:List Int)(t:Int):Bool:=inR t 0 ((ps.length:Int) - 1)
theorem Pb{ps:List Int}{t:Int}:Pa ps t=true↔0≤t∧t < ps.length:=by
 rw [Pa,sa];omega
theorem atp(t:Int)(ps:List Int)(h:leN ps.length 9223372036854775807=true):mW t ps=Pa ps t:=by
 have h:=dT.1 h
 simp only [mW,bu,dx,Pa,xZ]
 rw [aw (x:=(ps.length:Int) - 1) (by omega) (by omega)]
def vW:List SV→List Entry→Option Out
 | [.one ⟨true,[.val (.int .i64 _x0),.ref 0]⟩,.one ⟨false,[.val (.int .i64 x1)]⟩],[.row false 2 (.int .i64) x2]=>some ⟨.one ⟨false,[.val (.bool (Pa x2 x1))]⟩,[.row false 2 ajn x2],[],[leN x2.length 9223372036854775807]⟩
 |_,_=>none
def mX:PF prog:=PF.alt LC vW (by
 intro args es o h bz;unfold vW at h;split at h
 ·rename_i _x0 x1 x2
  cases h
  have bz:=fM bz
  have hh:=atp x1 x2 bz
  have e0:=hh
  exact jK rfl (fun _ h=>by cases h) (by simp only [e0] <;> rfl) rfl rfl
 ·cases h)
theorem awt(xs:List Int)(h:(leN 1 xs.length&&leN xs.length 1048576)=true):FM xs=true:=by
 simp only [Bool.and_eq_true,dT]at h
 simp [FM,allT]
 omega
def OS:List SV→List Entry→Option Out
 | [.one ⟨false,[.ref 0]⟩],[.row false 2 (.int .i64) x0]=>some ⟨.one ⟨false,[.ref 1]⟩,[.row false 2 ajn x0],[.row true 2 ajn x0],[leN 1 x0.length&&leN x0.length 1048576]⟩
 |_,_=>none
def ay:PF prog:=PF.alt aa1 OS (by
 intro args es o h bz;unfold OS at h;split at h
 ·rename_i x0
  cases h
  have bz:=fM bz
  have hh:=awt x0 bz
  have en:=hh
  exact jK rfl (fj en) rfl rfl rfl
 ·cases h)
theorem ayb(xs:List Int)(h:leN xs.length 1048576=true):adL xs=true:=by
 have h:=dT.1 h
 simp [adL,allT]
 omega
def akF:List SV→List Entry→Option Out
 | [.one ⟨false,[.ref 0]⟩],[.row false 2 (.int .i64) x0]=>some ⟨.one ⟨false,[.ref 1]⟩,[.row false 2 ajn x0],[.row true 2 ajn x0],[leN x0.length 1048576]⟩
 |_,_=>none
def rP:PF prog:=PF.alt arv akF (by
 intro args es o h bz;unfold akF at h;split at h
 ·rename_i x0
  cases h
  have bz:=fM bz
  have hh:=ayb x0 bz
  have en:=hh
  exact jK rfl (fj en) rfl rfl rfl
 ·cases h)
def okP(n p:Int):Bool:=inR n 2 8&&inR p 0 (3 * n - 1)
theorem apL{n p:Int}:okP n p=true↔(2≤n∧n≤8)∧0≤p∧p≤3 * n - 1:=by simp [okP,sa]
theorem apH{n:Int}{ps:List Int}(h:isT n ps=true){p:Int}(hp:p∈ps):okP n p=true:=by
 obtain⟨h1,_,h3⟩:=ya.1 h
 exact apL.2 ⟨h1,h3 p hp⟩
theorem afx{p:Int}(h:0≤p):blk p=p / 3:=by rw [blk,Int.tdiv_eq_ediv_of_nonneg h]
theorem auW{p:Int}(h:0≤p):phs p=p % 3:=by rw [phs,Int.tmod_eq_emod_of_nonneg h]
theorem axT(n p b:Int)(h:okP n p=true):abq n p b=Se n p b∧VI n p b=true:=by
 obtain⟨⟨h1,h2⟩,h3,h4⟩:=apL.1 h
 have e1:IntKind.i64.wrap (Int.tdiv p 3)=blk p:=by
  rw [Int.tdiv_eq_ediv_of_nonneg h3,afx h3,aw (by omega) (by omega)]
 have e2:IntKind.i64.wrap (blk p + 1)=blk p + 1:=by rw [afx h3,aw (by omega) (by omega)]
 refine⟨?_,?_⟩
 ·simp only [MZ,SF,abq,VI,e1,e2,Se,phs]
  cases (blk p==b) <;> cases (Int.tmod p 3==2) <;> simp
 ·have hn:neI n 0=true:=ao5 (by omega)
  simp [VI,allT,hn]
def ah3:List SV→List Entry→Option Out
 | [.one ⟨false,[.val (.int .i64 x0)]⟩,.one ⟨false,[.val (.int .i64 x1)]⟩,.one ⟨false,[.val (.int .i64 x2)]⟩],[]=>some ⟨.one ⟨false,[.val (.bool (Se x0 x1 x2))]⟩,[],[],[okP x0 x1]⟩
 |_,_=>none
def aiJ:PF prog:=PF.alt aqI ah3 (by
 intro args es o h bz;unfold ah3 at h;split at h
 ·rename_i x0 x1 x2
  cases h
  have bz:=fM bz
  have hh:=axT x0 x1 x2 bz
  obtain⟨e0,en⟩:=hh
  exact jK rfl (fj en) (by simp only [e0] <;> rfl) rfl rfl
 ·cases h)
def gv(x1:List Int):Bool:=allT [leN (1:Nat) x1.length&&leN x1.length (1048576:Nat)]
def yh:List SV→List Entry→Option Out
 | [.one ⟨true,[.val (.int .i64 x0),.ref 0]⟩],[.row false 2 (.int .i64) x1]=>some ⟨.one ⟨true,[.val (.int .i64 x0),.ref 1]⟩,[.row false 2 ajn x1],[.row true 2 ajn x1],[gv x1]⟩
 |_,_=>none
def bD:PF prog:=PF.ofG prog [ay,PF.lend ay,PF.fz ay] [] aO 146 f146 func146 (fun c _=>LOk.nil c) yh (by
 intro vs es r h;unfold yh at h;split at h
 ·cases h;kernel_rfl
 ·cases h)
section
variable (x0 x1:Int)(x2:List Int)
def jN:Int:=IntKind.wrap .i64 ((3:Int) * x0)
def kb:List Int:=List.set x2 x1.toNat (Int.tmod (IntKind.wrap .i64 (Option.getD x2[Int.toNat x1]? (0:Int) + (1:Int))) (jN x0))
def kd:Bool:=allT [gv x2,leI (0:Int) x1,ltI x1 (↑x2.length:Int),ltN x1.toNat x2.length,neI (jN x0) (0:Int),leI (0:Int) x1,ltI x1 (↑x2.length:Int),ltN x1.toNat x2.length]
end
def yj:List SV→List Entry→Option Out
 | [.one ⟨true,[.val (.int .i64 x0),.ref 0]⟩,.one ⟨false,[.val (.int .i64 x1)]⟩],[.row false 2 (.int .i64) x2]=>some ⟨.one ⟨true,[.val (.int .i64 x0),.ref 1]⟩,[.row false 2 ajn x2],[.row true 2 ajn (kb x0 x1 x2)],[kd x0 x1 x2]⟩
 |_,_=>none
def Nz:PF prog:=PF.ofG prog [bD,PF.lend bD,PF.fz bD] [] aO 204 f204 func204 (fun c _=>LOk.nil c) yj (by
 intro vs es r h;unfold yj at h;split at h
 ·cases h;kernel_rfl
 ·cases h)
abbrev lk:=Int×Int×Int×Int×List Int
section
variable (y0 y1 y2 y3:Int)(y4:List Int)
def xE:Int:=Option.getD y4[Int.toNat y0]? (0:Int)
def zj:Bool:=ltI y0 (↑y4.length:Int)
def FT:Bool:=leI (0:Int) y0
def FU:Bool:=ltN y0.toNat y4.length
def FV:Bool:=okP y3 (xE y0 y4)
def FW:Int:=IntKind.wrap .i64 (y0 + (1:Int))
def FX:Int:=bif Se y3 (xE y0 y4) y1 then IntKind.wrap .i64 (y2 + (1:Int))else y2
end
def ajM:lk→List (Nat×SV)
 |(y0,y1,y2,_,_)=> [(6,(.one ⟨false,[.val (.int .i64 y0)]⟩)),(2,(.one ⟨false,[.ptr 0 0]⟩)),(1,(.one ⟨false,[.val (.int .i64 y1)]⟩)),(5,(.one ⟨false,[.val (.int .i64 y2)]⟩))]
def ajD:lk→List (Nat×Entry)
 |(_,_,_,y3,y4)=> [(0,(.box 26 [.val (.int .i64 y3),.ref 1])),(1,(.row false 2 ajn y4))]
def aj5:Nat→lk→List (Nat×SV)
 |_,(_,_,y2,_,_)=> [(5,(.one ⟨false,[.val (.int .i64 y2)]⟩))]
def ajW:Nat→lk→List (Nat×Entry)
 |_,(_,_,_,y3,y4)=> [(0,(.box 26 [.val (.int .i64 y3),.ref 1])),(1,(.row false 2 ajn y4))]
def Dh:lk→LT lk
 |(y0,y1,y2,y3,y4)=> .ite (zj y0 y4) (.need [FT y0,zj y0 y4,FU y0 y4,FV y0 y3 y4] (.nrm ((FW y0),y1,FX y0 y1 y2 y3 y4,y3,y4) [(0,0),(1,1)])) (.ext 0 [(0,0),(1,1)])
def Rf(s:St):Option lk:=
 (match s.look 6 with
 |some ⟨none,.one ⟨false,[.val (.int .i64 y0)]⟩⟩=>
 (match s.look 2 with
 |some ⟨none,.one ⟨false,[.ptr 128 0]⟩⟩=>
 (match s.look 1 with
 |some ⟨none,.one ⟨false,[.val (.int .i64 y1)]⟩⟩=>
 (match s.look 5 with
 |some ⟨none,.one ⟨false,[.val (.int .i64 y2)]⟩⟩=>
 (match s.ent 128 with
 |some (.box 26 [.val (.int .i64 y3),.ref 0])=>
 (match s.ent 0 with
 |some (.row false 2 (.int .i64) y4)=>
 some (y0,y1,y2,y3,y4)
 |_=>none)
 |_=>none)
 |_=>none)
 |_=>none)
 |_=>none)
 |_=>none)
def fH:Lp lk where
 h:=⟨[7,8,9,10,11,14,15,16,17,18,19,20,21,22,23,24,5,12,13,6],[0,1],[],[]⟩
 JL:=ajM
 JE:=ajD
 XL:=aj5
 XE:=ajW
 q:=fun j=>match j with | _=> .exit 0
 tags:= [0]
 lt:=Dh
 fuel:=fun(y0,y1,y2,y3,y4)=>y0.natAbs + y1.natAbs + y2.natAbs + y3.natAbs + y4.length
 fix:=fun(_,y1,_,y3,y4) (y0,_,y2,_,_)=>(y0,y1,y2,y3,y4)
 σ:= [(0,128),(1,0)]
 rd:=Rf
theorem ahj:LoopOk prog (fun k=>Nat.blt k Tryz.f175.ntmps) fH.F (aK f175 0):=by
 refine Lp.ok (tbl:= [aiJ]) (lf:= []) aO fH (by kernel_rfl) (LOk.nil _) (fun _=>rfl) (fun _ _=>rfl) ?_ ?_ ?_ ?_ (fun _=>rfl) ?_
 ·rintro⟨y0,y1,y2,y3,y4⟩;kernel_rfl
 ·rintro⟨y0,y1,y2,y3,y4⟩;kernel_rfl
 ·intro s x h
  have h:Rf s=some x:=h
  unfold Rf at h
  repeat' split at h
  all_goals cases h
  exact⟨aa (by assumption) rfl (aa (by assumption) rfl (aa (by assumption) rfl (aa (by assumption) rfl (rfl)))),ab rfl (by assumption) rfl (ab rfl (by assumption) rfl (rfl))⟩
 ·rintro⟨y0,y1,y2,y3,y4⟩;kernel_rfl
 ·rintro⟨y0,y1,y2,y3,y4⟩ z;exact(And.intro rfl trivial)
section
variable (x0 x1:Int)(x2:List Int)
def QL:Int×Int×Int×Int×List Int:=((0:Int),x1,(0:Int),x0,x2)
def SB:Int:=((Lp.res fH (QL x0 x1 x2)).2.2.2).1
def SC:Bool:=allT [Lp.fin fH (QL x0 x1 x2)]
end
def af7:List SV→List Entry→Option Out
 | [.one ⟨true,[.val (.int .i64 x0),.ref 0]⟩,.one ⟨false,[.val (.int .i64 x1)]⟩],[.row false 2 (.int .i64) x2]=>some ⟨.one ⟨false,[.val (.int .i64 (SB x0 x1 x2))]⟩,[.row false 2 ajn x2],[],[SC x0 x1 x2]⟩
 |_,_=>none
def apz:PF prog:=PF.ofG prog [aiJ] [fH.F] aO 175 f175 func175 (LOk.fnT (l:= [aK f175 0]) (by kernel_rfl) (.cons ahj (.nil _))) af7 (by
 intro vs es r h;unfold af7 at h;split at h
 ·cases h;kernel_rfl
 ·cases h)
section
variable (x0 x1:Int)(x2:List Int)
def SE:Int:=IntKind.wrap .i64 ((3:Int) * x0)
def VG:List Int:=List.set x2 x1.toNat (Int.tmod (IntKind.wrap .i64 (Option.getD x2[Int.toNat x1]? (0:Int) + (1:Int))) (SE x0))
def VH:Bool:=allT [leN x2.length (1048576:Nat),leI (0:Int) x1,ltI x1 (↑x2.length:Int),ltN x1.toNat x2.length,neI (SE x0) (0:Int),leI (0:Int) x1,ltI x1 (↑x2.length:Int),ltN x1.toNat x2.length]
end
def ahx:List SV→List Entry→Option Out
 | [.one ⟨true,[.val (.int .i64 x0),.ref 0]⟩,.one ⟨false,[.val (.int .i64 x1)]⟩],[.row false 2 (.int .i64) x2]=>some ⟨.one ⟨true,[.val (.int .i64 x0),.ref 1]⟩,[.row false 2 ajn x2],[.row true 2 ajn (VG x0 x1 x2)],[VH x0 x1 x2]⟩
 |_,_=>none
def aqH:PF prog:=PF.ofG prog [rP,PF.lend rP,PF.fz rP] [] aO 178 f178 func178 (fun c _=>LOk.nil c) ahx (by
 intro vs es r h;unfold ahx at h;split at h
 ·cases h;kernel_rfl
 ·cases h)
def ahl(n:Int)(ps:List Int)(t:Int):List Int:=ps.set t.toNat (Int.tmod (ps[t.toNat]?.getD 0 + 1) (3 * n))
theorem ao3(n:Int)(ps:List Int)(t:Int):(ahl n ps t).length=ps.length:=by simp [ahl]
theorem axy{n:Int}{ps:List Int}(h:isT n ps=true)(t:Int):isT n (ahl n ps t)=true:=by
 obtain⟨h1,h2,h3⟩:=ya.1 h
 refine ya.2 ⟨h1,by rw [ao3];exact h2,fun p hp=> ?_⟩
 rcases List.mem_or_eq_of_mem_set hp with hp | rfl
 ·exact h3 p hp
 ·have h0:0≤ps[t.toNat]?.getD 0:=by
   cases hg:ps[t.toNat]? with
   |none=>simp
   |some q=>exact(h3 q (List.mem_of_getElem? hg)).1
  have:=Int.emod_lt_of_pos (ps[t.toNat]?.getD 0 + 1) (show 0 < 3 * n by omega)
  have:=Int.emod_nonneg (ps[t.toNat]?.getD 0 + 1) (show 3 * n≠0 by omega)
  rw [Int.tmod_eq_emod_of_nonneg (by omega)]
  omega
def aeW(n:Int)(ps:List Int)(t:Int):Bool:=isT n ps&&Pa ps t
theorem am5{n:Int}{ps:List Int}{t:Int}:aeW n ps t=true↔isT n ps=true∧Pa ps t=true:=by simp [aeW]
theorem aob{n:Int}{ps:List Int}{t:Int}(h:aeW n ps t=true):IntKind.i64.wrap (3 * n)=3 * n∧IntKind.i64.wrap (ps[t.toNat]?.getD 0 + 1)=ps[t.toNat]?.getD 0 + 1∧neI (3 * n) 0=true∧
  leI 0 t=true∧ltI t ps.length=true∧ltN t.toNat ps.length=true∧leN ps.length 1048576=true∧leN 1 ps.length=true:=by
 obtain⟨hT,ht⟩:=am5.1 h
 obtain⟨h1,h2,h3⟩:=ya.1 hT
 have h4:=Pb.1 ht
 have dd:t.toNat < ps.length:=by omega
 have hg:ps[t.toNat]?.getD 0=ps[t.toNat]:=by rw [List.getElem?_eq_getElem dd];rfl
 have h5:=h3 _ (List.getElem_mem dd)
 rw [hg]
 exact⟨aw (by omega) (by omega),aw (by omega) (by omega),ao5 (by omega),ct h4.1,du h4.2,ec dd,bY (by omega),bY h2.1⟩
theorem at3(n t:Int)(ps:List Int)(h:aeW n ps t=true):VG n t ps=ahl n ps t∧VH n t ps=true:=by
 obtain⟨e1,e2,e3,e4,e5,e6,e7,e8⟩:=aob h
 refine⟨?_,?_⟩
 ·simp only [SE,VG,VH,e1,e2,ahl]
 ·simp only [SE,VG,VH,e1,e3,e4,e5,e6,e7,allT,cond_true]
def ah2:List SV→List Entry→Option Out
 | [.one ⟨true,[.val (.int .i64 x0),.ref 0]⟩,.one ⟨false,[.val (.int .i64 x1)]⟩],[.row false 2 (.int .i64) x2]=>some ⟨.one ⟨true,[.val (.int .i64 x0),.ref 1]⟩,[.row false 2 ajn x2],[.row true 2 ajn (ahl x0 x2 x1)],[aeW x0 x2 x1]⟩
 |_,_=>none
def aaT:PF prog:=PF.alt aqH ah2 (by
 intro args es o h bz;unfold ah2 at h;split at h
 ·rename_i x0 x1 x2
  cases h
  have bz:=fM bz
  have hh:=at3 x0 x1 x2 bz
  obtain⟨e0,en⟩:=hh
  exact jK rfl (fj en) rfl rfl (by simp only [e0] <;> rfl)
 ·cases h)
theorem atu(n t:Int)(ps:List Int)(h:aeW n ps t=true):kb n t ps=ahl n ps t∧kd n t ps=true:=by
 obtain⟨e1,e2,e3,e4,e5,e6,e7,e8⟩:=aob h
 refine⟨?_,?_⟩
 ·simp only [jN,kb,kd,e1,e2,ahl]
 ·simp only [jN,kb,kd,gv,e1,e3,e4,e5,e6,e7,e8,allT,cond_true,Bool.and_self]
def yk:List SV→List Entry→Option Out
 | [.one ⟨true,[.val (.int .i64 x0),.ref 0]⟩,.one ⟨false,[.val (.int .i64 x1)]⟩],[.row false 2 (.int .i64) x2]=>some ⟨.one ⟨true,[.val (.int .i64 x0),.ref 1]⟩,[.row false 2 ajn x2],[.row true 2 ajn (ahl x0 x2 x1)],[aeW x0 x2 x1]⟩
 |_,_=>none
def pg:PF prog:=PF.alt Nz yk (by
 intro args es o h bz;unfold yk at h;split at h
 ·rename_i x0 x1 x2
  cases h
  have bz:=fM bz
  have hh:=atu x0 x1 x2 bz
  obtain⟨e0,en⟩:=hh
  exact jK rfl (fj en) rfl rfl (by simp only [e0] <;> rfl)
 ·cases h)
def uf(y1 y3 b:Int):(Int)→Nat ⊕ (Int)
 |y2=>(.inr (bif Se y3 b y1 then IntKind.wrap .i64 (y2 + (1:Int))else y2))
def oR(y1 y3:Int)(y4:List Int)(i:Nat):(Int)→lk
 |y2=>((i:Int),y1,y2,y3,y4)
def QW:lk→Int
 |(_,_,y2,_,_)=>y2
theorem al1(y1 y3:Int)(y4:List Int)(y2:Int)(hn:y4.length≤9223372036854775807)(hT: ∀ p∈y4,okP y3 p=true)(h4:y4.length≤4)(h2:y2=0):
  fH.fin ((0:Int),y1,y2,y3,y4)=true∧fH.res ((0:Int),y1,y2,y3,y4)=((aN (uf y1 y3) 0 y4 0 y2).1,(oR y1 y3 y4) (aN (uf y1 y3) 0 y4 0 y2).2.1 (aN (uf y1 y3) 0 y4 0 y2).2.2):=by
 have cH:=fH.along (oR y1 y3 y4) QW (uf y1 y3) 0 (fun i a=>0≤a∧a≤i) y4 y2 (by omega) (by simp only [fH,oR];omega) (fun i b a hb hI=> ?_) (fun a hI=> ?_)
 ·exact cH
 ·obtain y2:=a
  have dd:=(List.getElem?_eq_some_iff.1 hb).1
  have gc: ∀ d,Option.getD y4[i]? d=b:=fun d=>by rw [hb];rfl
  have hw:=tQ dd hn
  have bW:ltI (i:Int) (y4.length:Int)=true:=du (by omega)
  have pY:leI (0:Int) (i:Int)=true:=ct (by omega)
  have dw:ltN i y4.length=true:=ec dd
  refine⟨?_,?_,?_,?_⟩
  ·simp [xE,zj,FT,FU,FV,FW,FX,Dh,fH,LT.nds,allT,oR,bW,pY,dw,gc,hT b (List.mem_of_getElem? hb)]
  ·simp [xE,zj,FT,FU,FV,FW,FX,Dh,fH,LT.each,oR,QW,hw,hT b (List.mem_of_getElem? hb)]
  ·simp only [xE,zj,FT,FU,FV,FW,FX,Dh,fH,LT.fn,oR,QW,uf,Int.toNat_natCast,bW,gc,cond_true]
  ·intro a' hf;simp only [uf,Sum.inr.injEq]at hf;subst hf;cases Se y3 b y1 <;> simp only [cond_true,cond_false] <;> (try rw [aw (by omega) (by omega)]) <;> omega
 ·obtain y2:=a
  simp [xE,zj,FT,FU,FV,FW,FX,Dh,fH,LT.out,oR]
theorem apW(n b:Int): ∀ (ps:List Int) (a:Int),0≤a→a + ps.length≤100→ps.foldl (fun a p=>bif Se n p b then IntKind.wrap .i64 (a + (1:Int))else a) a=a + (Uv n ps b:Int)
 | [],a,_,_=>by simp [Uv]
 |p::ps,a,h0,h1=>by
  simp only [List.length_cons]at h1
  simp only [List.foldl_cons,Uv,List.countP_cons]
  cases hu:Se n p b with
  |true=>
   rw [cond_true,aw (by omega) (by omega),apW n b ps (a + 1) (by omega) (by omega)]
   simp only [Uv]
   simp;omega
  |false=>
   rw [cond_false,apW n b ps a h0 (by omega)]
   simp [Uv]
theorem awv(n b:Int)(ps:List Int)(h:isT n ps=true):SB n b ps=(Uv n ps b:Int)∧SC n b ps=true:=by
 have h2:=(ya.1 h).2.1
 obtain⟨w1,w2⟩:=al1 b n ps 0 (by omega) (fun p hp=>apH h hp) h2.2 rfl
 rw [jI (f:=uf b n) (g:=fun a p=>bif Se n p b then IntKind.wrap .i64 (a + (1:Int))else a) (fun p a=>rfl),apW n b ps 0 (by omega) (by omega)]at w2
 refine⟨?_,?_⟩
 ·simp only [QL,SB,SC,w2,oR];omega
 ·simp only [QL,SB,SC,w1,allT,cond_true]
def agi:List SV→List Entry→Option Out
 | [.one ⟨true,[.val (.int .i64 x0),.ref 0]⟩,.one ⟨false,[.val (.int .i64 x1)]⟩],[.row false 2 (.int .i64) x2]=>some ⟨.one ⟨false,[.val (.int .i64 (Uv x0 x2 x1:Int))]⟩,[.row false 2 ajn x2],[],[isT x0 x2]⟩
 |_,_=>none
def tX:PF prog:=PF.alt apz agi (by
 intro args es o h bz;unfold agi at h;split at h
 ·rename_i x0 x1 x2
  cases h
  have bz:=fM bz
  have hh:=awv x0 x1 x2 bz
  obtain⟨e0,en⟩:=hh
  exact jK rfl (fj en) (by simp only [e0] <;> rfl) rfl rfl
 ·cases h)
def aa6(n:Int)(ps:List Int):Bool:=(List.range n.toNat).all fun b=>leI (Uv n ps (b:Int):Int) 1
end Go.SX
namespace Go.SX
open Go.Proofs Go.Proofs.Tryz
def GJ:PF prog:=PF.sort 235 2 (fun blk off cap zs w h1 h2 h3=>AnyM.slices_Sort_int Tryz.laysSort blk off cap zs w h1 h2 h3)
end Go.SX
namespace Go.SX
open Go.Proofs Go.Proofs.Tryz
set_option maxRecDepth 100000
section
variable (x0 x1:Int)(x2:List Int)
def dN:Int:=Option.getD x2[Int.toNat x1]? (0:Int)
def gw:Bool:=Int.tmod (dN x1 x2) (3:Int)!=(2:Int)
def ke:List Int:= [IntKind.wrap .i64 (Int.tdiv (dN x1 x2) (3:Int)),Int.tmod (IntKind.wrap .i64 (IntKind.wrap .i64 (Int.tdiv (dN x1 x2) (3:Int)) + (1:Int))) x0]
def ku:List Int:=bif gw x1 x2 then [IntKind.wrap .i64 (Int.tdiv (dN x1 x2) (3:Int))]else anr (ke x0 x1 x2)
def kv:Bool:=allT [leI (0:Int) x1,ltI x1 (↑x2.length:Int),ltN x1.toNat x2.length,leI (0:Int) x1,ltI x1 (↑x2.length:Int),ltN x1.toNat x2.length,gw x1 x2||neI x0 (0:Int),gw x1 x2||leN (List.length (ke x0 x1 x2)) (4611686018427387903:Nat)]
end
def zy:List SV→List Entry→Option Out
 | [.one ⟨true,[.val (.int .i64 x0),.ref 0]⟩,.one ⟨false,[.val (.int .i64 x1)]⟩],[.row false 2 (.int .i64) x2]=>some ⟨.one ⟨false,[.ref 1]⟩,[.row false 2 ajn x2],[.row true 2 ajn (ku x0 x1 x2)],[kv x0 x1 x2]⟩
 |_,_=>none
def OG:PF prog:=PF.ofG prog [GJ,PF.lend GJ,PF.fz GJ] [] aO 210 f210 func210 (fun c _=>LOk.nil c) zy (by
 intro vs es r h;unfold zy at h;split at h
 ·cases h;kernel_rfl
 ·cases h)
def Yn(n p:Int):List Int:=bif phs p !=2 then [blk p]else anr [blk p,Int.tmod (blk p + 1) n]
theorem aw6(a b:Int):anr [a,b]=bif leI a b then [a,b]else [b,a]:=by
 unfold anr
 have hp:=List.mergeSort_perm [a,b] (fun x y=>decide (x≤y))
 have hs:=List.pairwise_mergeSort (le:=fun(x y:Int)=>decide (x≤y)) (fun x y z h1 h2=>by simp at h1 h2 ⊢;omega) (fun x y=>by simp;omega) [a,b]
 generalize hm:List.mergeSort [a,b] (fun x y=>decide (x≤y))=l at hp hs
 have hl:=hp.length_eq
 match l,hl with
 | [x,y],_=>
  simp at hs
  have hx:x∈ [a,b]:=hp.subset (by simp)
  simp at hx
  rcases hx with rfl | rfl
  ·have:=(List.perm_cons x).1 hp
   rw [List.perm_singleton]at this
   simp at this;subst this
   rw [ct hs];rfl
  ·have h2:=hp.trans (List.Perm.swap x a [])
   have:=(List.perm_cons x).1 h2
   rw [List.perm_singleton]at this
   simp at this;subst this
   cases hq:leI y x with
   |false=>rfl
   |true=>
    have:=Sx.1 hq;have:x=y:=by omega
    subst this;rfl
def atI(xs:List Int)(t:Int):Int:=xs[t.toNat]?.getD 0
theorem axR(n t:Int)(ps:List Int)(h:aeW n ps t=true):ku n t ps=Yn n (atI ps t)∧kv n t ps=true:=by
 obtain⟨e1,e2,e3,e4,e5,e6,e7,e8⟩:=aob h
 obtain⟨hT,ht⟩:=am5.1 h
 obtain⟨h1,h2,h3⟩:=ya.1 hT
 have h4:=Pb.1 ht
 have dd:t.toNat < ps.length:=by omega
 have hg:ps[t.toNat]?.getD 0=ps[t.toNat]:=by rw [List.getElem?_eq_getElem dd];rfl
 have h5:=h3 _ (List.getElem_mem dd)
 rw [← hg]at h5
 have f1:IntKind.i64.wrap (Int.tdiv (ps[t.toNat]?.getD 0) 3)=blk (ps[t.toNat]?.getD 0):=by
  rw [Int.tdiv_eq_ediv_of_nonneg h5.1,afx h5.1,aw (by omega) (by omega)]
 have f2:IntKind.i64.wrap (blk (ps[t.toNat]?.getD 0) + 1)=blk (ps[t.toNat]?.getD 0) + 1:=by rw [afx h5.1,aw (by omega) (by omega)]
 have f3:neI n 0=true:=ao5 (by omega)
 refine⟨?_,?_⟩
 ·simp only [dN,gw,ke,ku,kv,f1,f2,Yn,phs,atI]
 ·simp [dN,gw,ke,ku,kv,e4,e5,e6,f3,allT]
def zF:List SV→List Entry→Option Out
 | [.one ⟨true,[.val (.int .i64 x0),.ref 0]⟩,.one ⟨false,[.val (.int .i64 x1)]⟩],[.row false 2 (.int .i64) x2]=>some ⟨.one ⟨false,[.ref 1]⟩,[.row false 2 ajn x2],[.row true 2 ajn (Yn x0 (atI x2 x1))],[aeW x0 x2 x1]⟩
 |_,_=>none
def bI:PF prog:=PF.alt OG zF (by
 intro args es o h bz;unfold zF at h;split at h
 ·rename_i x0 x1 x2
  cases h
  have bz:=fM bz
  have hh:=axR x0 x1 x2 bz
  obtain⟨e0,en⟩:=hh
  exact jK rfl (fj en) rfl rfl (by simp only [e0] <;> rfl)
 ·cases h)
theorem avk{n p:Int}(h:okP n p=true):(∀ u∈Yn n p,0≤u∧u < n)∧(Yn n p).length≤2∧ ∀ b:Nat,(Yn n p).count (b:Int)=bif Se n p (b:Int)then 1 else 0:=by
 obtain⟨⟨h1,h2⟩,h3,h4⟩:=apL.1 h
 have hb:=afx h3
 have hm:Int.tmod (blk p + 1) n=(blk p + 1) % n:=Int.tmod_eq_emod_of_nonneg (by rw [hb];omega)
 have hb0:0≤blk p∧blk p < n:=by rw [hb];omega
 have hm0:=Int.emod_nonneg (blk p + 1) (show n≠0 by omega)
 have hm1:=Int.emod_lt_of_pos (blk p + 1) (show 0 < n by omega)
 have Sg:(blk p + 1) % n≠blk p:=by
  by_cases hq:blk p + 1=n
  ·rw [hq,Int.emod_self];omega
  ·rw [Int.emod_eq_of_lt (by omega) (by omega)];omega
 unfold Yn Se
 rw [hm,aw6]
 generalize (blk p + 1) % n=q at *
 generalize blk p=a at *
 cases hp:phs p==2 with
 |false=>
  simp only [bne,hp,Bool.not_false,cond_true,Bool.false_and,Bool.or_false]
  refine⟨fun u hu=>by simp at hu;omega,by simp,fun b=> ?_⟩
  simp only [List.count_cons,List.count_nil]
  cases hab:a==(b:Int) <;> simp [hab]
 |true=>
  simp only [bne,hp,Bool.not_true,cond_false,Bool.true_and]
  have cH: ∀ b:Nat,(if (a==(b:Int))=true then 1 else 0) + (if (q==(b:Int))=true then 1 else 0)=(bif a==(b:Int)||q==(b:Int)then 1 else 0:Nat):=by
   intro b
   cases hab:a==(b:Int) <;> cases hqb:q==(b:Int) <;> simp
   have:=eq_of_beq hab;have:=eq_of_beq hqb;omega
  cases leI a q with
  |true=>
   refine⟨fun u hu=>by simp at hu;omega,by simp,fun b=> ?_⟩
   rw [← cH b];simp [List.count_cons];omega
  |false=>
   refine⟨fun u hu=>by simp at hu;omega,by simp,fun b=> ?_⟩
   rw [← cH b];simp [List.count_cons]
abbrev aX:=Int×Int×List Int×List Int
section
variable (y0 y1:Int)(y2 y3:List Int)
def bh:Int:=Option.getD y2[Int.toNat y0]? (0:Int)
def dW:Bool:=ltI y0 y1
def dX:Bool:=leI (0:Int) y0
def dY:Bool:=ltI y0 (↑y2.length:Int)
def dZ:Bool:=ltN y0.toNat y2.length
def cA:Bool:=leI (0:Int) (bh y0 y2)
def cB:Bool:=ltI (bh y0 y2) (↑y3.length:Int)
def cC:Bool:=ltN (Int.toNat (bh y0 y2)) y3.length
def ea:Int:=IntKind.wrap .i64 (y0 + (1:Int))
def eb:List Int:=List.set y3 (Int.toNat (bh y0 y2)) (IntKind.wrap .i64 (Option.getD y3[Int.toNat (bh y0 y2)]? (0:Int) + (1:Int)))
end
def IA:aX→List (Nat×SV)
 |(y0,y1,_,_)=> [(20,(.one ⟨false,[.val (.int .i64 y0)]⟩)),(19,(.one ⟨false,[.val (.int .i64 y1)]⟩)),(18,(.one ⟨false,[.ref 0]⟩)),(3,(.one ⟨false,[.ref 1]⟩))]
def Iz:aX→List (Nat×Entry)
 |(_,_,y2,y3)=> [(0,(.row true 2 ajn y2)),(1,(.row true 2 ajn y3))]
def IC:Nat→aX→List (Nat×SV)
 |_,(_,_,_,_)=> []
def IB:Nat→aX→List (Nat×Entry)
 |_,(_,_,y2,y3)=> [(0,(.row true 2 ajn y2)),(1,(.row true 2 ajn y3))]
def dR:aX→LT aX
 |(y0,y1,y2,y3)=> .ite (dW y0 y1) (.need [dX y0,dY y0 y2,dZ y0 y2] (.need [cA y0 y2,cB y0 y2 y3,cC y0 y2 y3,cA y0 y2,cB y0 y2 y3,cC y0 y2 y3] (.nrm ((ea y0),y1,y2,(eb y0 y2 y3)) [(0,0),(1,1)]))) (.ext 0 [(0,0),(1,1)])
def lw(s:St):Option aX:=
 (match s.look 20 with
 |some ⟨none,.one ⟨false,[.val (.int .i64 y0)]⟩⟩=>
 (match s.look 19 with
 |some ⟨none,.one ⟨false,[.val (.int .i64 y1)]⟩⟩=>
 (match s.look 18 with
 |some ⟨none,.one ⟨false,[.ref 384]⟩⟩=>
 (match s.look 3 with
 |some ⟨none,.one ⟨false,[.ref 1]⟩⟩=>
 (match s.ent 384 with
 |some (.row true 2 (.int .i64) y2)=>
 (match s.ent 1 with
 |some (.row true 2 (.int .i64) y3)=>
 some (y0,y1,y2,y3)
 |_=>none)
 |_=>none)
 |_=>none)
 |_=>none)
 |_=>none)
 |_=>none)
def ap:Lp aX where
 h:=⟨[21,22,23,6,24,25,26,27,28,29,30,20],[0,1],[],[]⟩
 JL:=IA
 JE:=Iz
 XL:=IC
 XE:=IB
 q:=fun j=>match j with | _=> .exit 2
 tags:= [0]
 lt:=dR
 fuel:=fun(y0,y1,y2,y3)=>y0.natAbs + y1.natAbs + y2.length + y3.length
 fix:=fun(_,y1,y2,_) (y0,_,_,y3)=>(y0,y1,y2,y3)
 σ:= [(0,384),(1,1)]
 rd:=lw
theorem GH:LoopOk prog (memN [14,15,4,16,17,18,19,20,21,22,23,6,24,25,26,27,28,29,30,31,13]) ap.F (aiy (aK f157 0) 0):=by
 refine Lp.ok (tbl:= [bI,PF.lend bI,PF.fz bI,aW,PF.lend aW,PF.fz aW]) (lf:= []) aO ap (by kernel_rfl) (LOk.nil _) (fun _=>rfl) (fun _ _=>rfl) ?_ ?_ ?_ ?_ (fun _=>rfl) ?_
 ·rintro⟨y0,y1,y2,y3⟩;kernel_rfl
 ·rintro⟨y0,y1,y2,y3⟩;kernel_rfl
 ·intro s x h
  have h:lw s=some x:=h
  unfold lw at h
  repeat' split at h
  all_goals cases h
  exact⟨aa (by assumption) rfl (aa (by assumption) rfl (aa (by assumption) rfl (aa (by assumption) rfl (rfl)))),ab rfl (by assumption) rfl (ab rfl (by assumption) rfl (rfl))⟩
 ·rintro⟨y0,y1,y2,y3⟩;kernel_rfl
 ·rintro⟨y0,y1,y2,y3⟩ z;exact(And.intro rfl trivial)
abbrev bf:=Int×Int×Int×List Int×List Int
section
variable (y0 y1 y2:Int)(y3 y4:List Int)
def cN:Int×Int×List Int×List Int:=((0:Int),(↑(List.length (Yn y2 (atI y4 y0))):Int),Yn y2 (atI y4 y0),y3)
def eZ:Bool:=ltI y0 y1
def fa:Bool:=aeW y2 y4 y0
def fb:Bool:=Lp.fin ap (cN y0 y2 y3 y4)
def fc:Int:=IntKind.wrap .i64 (y0 + (1:Int))
def fe:List Int:=(Lp.res ap (cN y0 y2 y3 y4)).2.2.2.2
end
def Lv:bf→List (Nat×SV)
 |(y0,y1,_,_,_)=> [(13,(.one ⟨false,[.val (.int .i64 y0)]⟩)),(12,(.one ⟨false,[.val (.int .i64 y1)]⟩)),(1,(.one ⟨false,[.ptr 0 0]⟩)),(3,(.one ⟨false,[.ref 1]⟩))]
def Lt:bf→List (Nat×Entry)
 |(_,_,y2,y3,y4)=> [(0,(.box 26 [.val (.int .i64 y2),.ref 2])),(1,(.row true 2 ajn y3)),(2,(.row false 2 ajn y4))]
def Lz:Nat→bf→List (Nat×SV)
 |_,(_,_,_,_,_)=> []
def Lx:Nat→bf→List (Nat×Entry)
 |_,(_,_,y2,y3,y4)=> [(0,(.box 26 [.val (.int .i64 y2),.ref 2])),(1,(.row true 2 ajn y3)),(2,(.row false 2 ajn y4))]
def eO:bf→LT bf
 |(y0,y1,y2,y3,y4)=> .ite (eZ y0 y1) (.need [fa y0 y2 y4] (.need [fb y0 y2 y3 y4] (.nrm ((fc y0),y1,y2,fe y0 y2 y3 y4,y4) [(0,0),(1,1),(2,2)]))) (.ext 0 [(0,0),(1,1),(2,2)])
def na(s:St):Option bf:=
 (match s.look 13 with
 |some ⟨none,.one ⟨false,[.val (.int .i64 y0)]⟩⟩=>
 (match s.look 12 with
 |some ⟨none,.one ⟨false,[.val (.int .i64 y1)]⟩⟩=>
 (match s.look 1 with
 |some ⟨none,.one ⟨false,[.ptr 128 0]⟩⟩=>
 (match s.look 3 with
 |some ⟨none,.one ⟨false,[.ref 384]⟩⟩=>
 (match s.ent 128 with
 |some (.box 26 [.val (.int .i64 y2),.ref 0])=>
 (match s.ent 384 with
 |some (.row true 2 (.int .i64) y3)=>
 (match s.ent 0 with
 |some (.row false 2 (.int .i64) y4)=>
 some (y0,y1,y2,y3,y4)
 |_=>none)
 |_=>none)
 |_=>none)
 |_=>none)
 |_=>none)
 |_=>none)
 |_=>none)
def aJ:Lp bf where
 h:=⟨[14,15,4,16,17,18,19,20,21,22,23,6,24,25,26,27,28,29,30,31,13],[0,1,2],[],[]⟩
 JL:=Lv
 JE:=Lt
 XL:=Lz
 XE:=Lx
 q:=fun j=>match j with | _=> .exit 0
 tags:= [0]
 lt:=eO
 fuel:=fun(y0,y1,y2,y3,y4)=>y0.natAbs + y1.natAbs + y2.natAbs + y3.length + y4.length
 fix:=fun(_,y1,y2,_,y4) (y0,_,_,y3,_)=>(y0,y1,y2,y3,y4)
 σ:= [(0,128),(1,384),(2,0)]
 rd:=na
theorem JF:LoopOk prog (fun k=>Nat.blt k Tryz.f157.ntmps) aJ.F (aK f157 0):=by
 refine Lp.ok (tbl:= [bI,PF.lend bI,PF.fz bI,aW,PF.lend aW,PF.fz aW]) (lf:= [ap.F]) aO aJ (by kernel_rfl) (LOk.allT (l:= [aiy (aK f157 0) 0]) (by kernel_rfl) (.cons GH (.nil _))) (fun _=>rfl) (fun _ _=>rfl) ?_ ?_ ?_ ?_ (fun _=>rfl) ?_
 ·rintro⟨y0,y1,y2,y3,y4⟩;kernel_rfl
 ·rintro⟨y0,y1,y2,y3,y4⟩;kernel_rfl
 ·intro s x h
  have h:na s=some x:=h
  unfold na at h
  repeat' split at h
  all_goals cases h
  exact⟨aa (by assumption) rfl (aa (by assumption) rfl (aa (by assumption) rfl (aa (by assumption) rfl (rfl)))),ab rfl (by assumption) rfl (ab rfl (by assumption) rfl (ab rfl (by assumption) rfl (rfl)))⟩
 ·rintro⟨y0,y1,y2,y3,y4⟩;kernel_rfl
 ·rintro⟨y0,y1,y2,y3,y4⟩ z;exact(And.intro rfl trivial)
section
variable (x0:Int)(x1:List Int)
def kf:Int×Int×Int×List Int×List Int:=((0:Int),dx x1,x0,List.replicate x0.toNat (0:Int),x1)
def qo:List Int:=((Lp.res aJ (kf x0 x1)).2.2.2.2).1
def qp:Bool:=allT [leI (0:Int) x0,leI x0 x0,leI ((↑(8:Nat):Int) * x0) (281474976710656:Int),leI x0 (9223372036854775807:Int),Lp.fin aJ (kf x0 x1)]
end
def zA:List SV→List Entry→Option Out
 | [.one ⟨true,[.val (.int .i64 x0),.ref 0]⟩],[.row false 2 (.int .i64) x1]=>some ⟨.one ⟨false,[.ref 1]⟩,[.row false 2 ajn x1],[.row true 2 ajn (qo x0 x1)],[qp x0 x1]⟩
 |_,_=>none
def OH:PF prog:=PF.ofG prog [bI,PF.lend bI,PF.fz bI,aW,PF.lend aW,PF.fz aW] [aJ.F] aO 157 f157 func157 (LOk.fnT (l:= [aK f157 0]) (by kernel_rfl) (.cons JF (.nil _))) zA (by
 intro vs es r h;unfold zA at h;split at h
 ·cases h;kernel_rfl
 ·cases h)
def pE(n:Int)(ps:List Int):List Int:=(List.range n.toNat).map fun(b:Nat)=>(Uv n ps (b:Int):Int)
theorem Nk(n:Int)(ps:List Int):(pE n ps).length=n.toNat:=by simp [pE]
def bS(b:Int):(List Int)→Nat ⊕ (List Int)
 |y3=>(.inr (List.set y3 (Int.toNat b) (IntKind.wrap .i64 (Option.getD y3[Int.toNat (b)]? (0:Int) + (1:Int)))))
def bx(y2:List Int)(i:Nat):(List Int)→aX
 |y3=>((i:Int),(↑y2.length:Int),y2,y3)
def lv:aX→List Int
 |(_,_,_,y3)=>y3
theorem JH(y2 y3:List Int)(hn:y2.length≤9223372036854775807)(hU: ∀ u∈y2,0≤u∧u < (y3.length:Int)):
  ap.fin ((0:Int),(↑y2.length:Int),y2,y3)=true∧ap.res ((0:Int),(↑y2.length:Int),y2,y3)=((aN (bS) 0 y2 0 y3).1,(bx y2) (aN (bS) 0 y2 0 y3).2.1 (aN (bS) 0 y2 0 y3).2.2):=by
 have cH:=ap.along (bx y2) lv (bS) 0 (fun _ a=>a.length=y3.length) y2 y3 rfl (by simp only [ap,bx];omega) (fun i b a hb hI=> ?_) (fun a hI=> ?_)
 ·exact cH
 ·obtain y3:=a
  have dd:=(List.getElem?_eq_some_iff.1 hb).1
  have gc: ∀ d,Option.getD y2[i]? d=b:=fun d=>by rw [hb];rfl
  have hw:=tQ dd hn
  have bW:ltI (i:Int) (y2.length:Int)=true:=du (by omega)
  have pY:leI (0:Int) (i:Int)=true:=ct (by omega)
  have dw:ltN i y2.length=true:=ec dd
  refine⟨?_,?_,?_,?_⟩
  ·have hu:=hU b (List.mem_of_getElem? hb)
   have e1:leI 0 b=true:=ct hu.1
   have e2:ltI b (a.length:Int)=true:=du (by omega)
   have e3:ltN b.toNat a.length=true:=ec (by omega)
   simp only [bh,dW,dX,dY,dZ,cA,cB,cC,ea,eb,dR,ap,LT.nds,allT,bx,Int.toNat_natCast,bW,pY,dw,gc,e1,e2,e3,cond_true]
  ·simp [bh,dW,dX,dY,dZ,cA,cB,cC,ea,eb,dR,ap,LT.each,bx,lv,hw]
  ·simp only [bh,dW,dX,dY,dZ,cA,cB,cC,ea,eb,dR,ap,LT.fn,bx,lv,bS,Int.toNat_natCast,bW,pY,dw,gc,cond_true,Bool.cond_self]
  ·intro a' hf;simp only [bS,Sum.inr.injEq]at hf;subst hf;simpa using hI
 ·obtain y3:=a
  simp [bh,dW,dX,dY,dZ,cA,cB,cC,ea,eb,dR,ap,LT.out,bx]
def axv(a:List Int)(u:Int):List Int:=a.set u.toNat (IntKind.wrap .i64 (Option.getD a[u.toNat]? 0 + 1))
theorem ayp(N:Nat): ∀ (us:List Int) (c:Nat→Int),(∀ u∈us,0≤u∧u < (N:Int))→(∀ b,0≤c b∧c b + us.length≤1000000)→
  us.foldl axv ((List.range N).map c)=(List.range N).map fun(b:Nat)=>c b + (us.count (b:Int):Int)
 | [],c,_,_=>by simp
 |u::us,c,hu,hc=>by
  have hu0:=hu u (by simp)
  have dd:u.toNat < N:=by omega
  have h1:axv ((List.range N).map c) u=(List.range N).map fun(b:Nat)=>if (b:Int)=u then c b + 1 else c b:=by
   unfold axv
   have hg:Option.getD ((List.range N).map c)[u.toNat]? 0=c u.toNat:=by simp [List.getElem?_map,List.getElem?_range dd]
   have hcu:=hc u.toNat
   simp only [List.length_cons]at hcu
   rw [hg,aw (by omega) (by omega)]
   refine List.ext_getElem? fun i=> ?_
   rw [List.getElem?_set]
   by_cases hi:u.toNat=i
   ·rw [if_pos hi,if_pos (by simpa using dd)]
    subst hi
    rw [List.getElem?_map,List.getElem?_range dd,Option.map_some,if_pos (by omega)]
   ·rw [if_neg hi,List.getElem?_map,List.getElem?_map]
    by_cases hiN:i < N
    ·rw [List.getElem?_range hiN,Option.map_some,Option.map_some,if_neg (by omega)]
    ·rw [List.getElem?_eq_none (by simp;omega)];rfl
  rw [List.foldl_cons,h1,ayp N us _ (fun v hv=>hu v (by simp [hv])) (fun b=>by
   have:=hc b
   simp only [List.length_cons]at this
   split <;> omega)]
  refine List.map_congr_left fun b _=> ?_
  rw [List.count_cons]
  by_cases hb:(b:Int)=u
  ·rw [if_pos hb,if_pos (by simp [hb])];omega
  ·rw [if_neg hb,if_neg (by simp;omega)];omega
theorem aqd{n p:Int}{qs:List Int}(h:okP n p=true)(hq:qs.length≤50):
  ap.fin ((0:Int),((Yn n p).length:Int),Yn n p,pE n qs)=true∧
   (ap.res ((0:Int),((Yn n p).length:Int),Yn n p,pE n qs)).2.2.2.2=pE n (qs++ [p]):=by
 obtain⟨hu,hl,hc⟩:=avk h
 have hn:=(apL.1 h).1
 obtain⟨w1,w2⟩:=JH (Yn n p) (pE n qs) (by omega) (fun u hm=>by rw [Nk];have:=hu u hm;omega)
 refine⟨w1,?_⟩
 rw [w2,jI (f:=bS) (g:=axv) (fun b a=>rfl)]
 simp only [bx]
 unfold pE
 rw [ayp n.toNat (Yn n p) _ (fun u hm=>by have:=hu u hm;omega) (fun b=>by
  have:Uv n qs (b:Int)≤qs.length:=List.countP_le_length
  omega)]
 refine List.map_congr_left fun b _=> ?_
 rw [hc b]
 simp only [Uv,List.countP_append,List.countP_cons,List.countP_nil]
 cases Se n p (b:Int) <;> simp
theorem ase{ps:List Int}{b:Nat}(h:b < ps.length):ps.take (b + 1)=ps.take b++ [ps[b]?.getD 0]:=by
 rw [List.take_add_one,List.getElem?_eq_getElem h];rfl
def aR(y2:Int)(y4:List Int)(b:Nat):(List Int)→Nat ⊕ (List Int)
 |y3=>(.inr ((Lp.res ap ((0:Int),(↑(List.length (Yn y2 (atI y4 (↑b:Int)))):Int),Yn y2 (atI y4 (↑b:Int)),y3)).2.2.2.2))
def bJ(y1 y2:Int)(y4:List Int)(i:Nat):(List Int)→bf
 |y3=>((i:Int),y1,y2,y3,y4)
def mY:bf→List Int
 |(_,_,_,y3,_)=>y3
theorem MC(y1 y2:Int)(y4 y3:List Int)(hn:y1≤9223372036854775807)(hl:y1=(y4.length:Int))(hT:isT y2 y4=true)(h3:y3=pE y2 []):
  aJ.fin ((0:Int),y1,y2,y3,y4)=true∧aJ.res ((0:Int),y1,y2,y3,y4)=((aN (aR y2 y4) 0 (List.range y1.toNat) 0 y3).1,(bJ y1 y2 y4) (aN (aR y2 y4) 0 (List.range y1.toNat) 0 y3).2.1 (aN (aR y2 y4) 0 (List.range y1.toNat) 0 y3).2.2):=by
 have cH:=aJ.along (bJ y1 y2 y4) mY (aR y2 y4) 0 (fun i a=>a=pE y2 (y4.take i)) (List.range y1.toNat) y3 (by subst h3;simp) (by simp only [aJ,bJ,List.length_range];omega) (fun i b a hb hI=> ?_) (fun a hI=> ?_)
 ·exact cH
 ·obtain y3:=a
  obtain⟨rfl,dd⟩:=qD hb
  have hw:IntKind.i64.wrap ((b:Int) + 1)=((b + 1:Nat):Int):=by rw [aw (by omega) (by omega)];omega
  have bW:ltI (b:Int) y1=true:=du (by omega)
  have pY:leI (0:Int) (b:Int)=true:=ct (by omega)
  refine⟨?_,?_,?_,?_⟩
  ·have h4:=(ya.1 hT).2.1
   have hbl:b < y4.length:=by omega
   have hm:aeW y2 y4 (b:Int)=true:=am5.2 ⟨hT,Pb.2 (by omega)⟩
   have hp:okP y2 (atI y4 (b:Int))=true:=apH hT (by unfold atI;rw [Int.toNat_natCast,List.getElem?_eq_getElem hbl];exact List.getElem_mem hbl)
   obtain⟨i1,i2⟩:=aqd (qs:=y4.take b) hp (by rw [List.length_take];omega)
   subst hI
   simp only [cN,eZ,fa,fb,fc,fe,eO,aJ,LT.nds,allT,bJ,bW,hm,i1,cond_true]
  ·simp [cN,eZ,fa,fb,fc,fe,eO,aJ,LT.each,bJ,mY,hw]
  ·simp only [cN,eZ,fa,fb,fc,fe,eO,aJ,LT.fn,bJ,mY,aR,Int.toNat_natCast,bW,pY,cond_true,Bool.cond_self]
  ·intro a' hf
   have h4:=(ya.1 hT).2.1
   have hbl:b < y4.length:=by omega
   have hp:okP y2 (atI y4 (b:Int))=true:=apH hT (by unfold atI;rw [Int.toNat_natCast,List.getElem?_eq_getElem hbl];exact List.getElem_mem hbl)
   obtain⟨i1,i2⟩:=aqd (qs:=y4.take b) hp (by rw [List.length_take];omega)
   subst hI
   simp only [aR,i2,Sum.inr.injEq]at hf
   rw [← hf,ase hbl]
   rfl
 ·obtain y3:=a
  simp only [cN,eZ,fa,fb,fc,fe,eO,aJ,LT.out,bJ,List.length_range,aeT,aiH,cond_false]
theorem axS(n:Int)(ps:List Int): ∀ (m:Nat),m≤ps.length→(∀ b,b < m→ ∀ a,a=pE n (ps.take b)→aR n ps b a= .inr (pE n (ps.take (b + 1))))→
  (aN (aR n ps) 0 (List.range m) 0 (pE n [])).2.2=pE n (ps.take m):=by
 have cH: ∀ (k i s:Nat),(∀ b,b < s + k→ ∀ a,a=pE n (ps.take b)→aR n ps b a= .inr (pE n (ps.take (b + 1))))→
   (aN (aR n ps) 0 ((List.range k).map (· + s)) i (pE n (ps.take s))).2.2=pE n (ps.take (s + k)):=by
  intro k
  induction k with
  |zero=>intro i s _;rfl
  |succ k ih=>
   intro i s hb
   rw [List.range_succ_eq_map,List.map_cons,List.map_map]
   simp only [aN,Nat.zero_add]
   rw [hb s (by omega) _ rfl]
   have:=ih (i + 1) (s + 1) (fun b dd=>hb b (by omega))
   have he:List.map ((fun x=>x + s) ∘ Nat.succ) (List.range k)=(List.range k).map (· + (s + 1)):=List.map_congr_left fun x _=>by simp only [Function.comp];omega
   rw [he]
   show (aN (aR n ps) 0 ((List.range k).map (· + (s + 1))) (i + 1) (pE n (ps.take (s + 1)))).2.2=_
   rw [this]
   congr 2;omega
 intro m hm hb
 have:=cH m 0 0 (by simpa using hb)
 simpa using this
theorem axc(n:Int)(ps:List Int)(hT:isT n ps=true):qo n ps=pE n ps∧qp n ps=true:=by
 have h1:=(ya.1 hT).1
 have h4:=(ya.1 hT).2.1
 have hr:List.replicate (Int.toNat n) (0:Int)=pE n []:=by
  unfold pE
  refine List.ext_getElem (by simp) fun i h1 h2=>by simp [Uv]
 obtain⟨w1,w2⟩:=MC (ps.length:Int) n ps (pE n []) (by omega) rfl hT rfl
 have hw:=axS n ps ps.length (Nat.le_refl _) (fun b hb a ha=>by
  have hp:okP n (atI ps (b:Int))=true:=apH hT (by unfold atI;rw [Int.toNat_natCast,List.getElem?_eq_getElem hb];exact List.getElem_mem hb)
  obtain⟨i1,i2⟩:=aqd (qs:=ps.take b) hp (by rw [List.length_take];omega)
  subst ha
  simp only [aR,i2,ase hb]
  rfl)
 have e1:(ps.length:Int).toNat=ps.length:=by omega
 rw [e1]at w2
 refine⟨?_,?_⟩
 ·simp only [qo,kf,dx,hr,w2,bJ,hw,List.take_length]
 ·simp only [qp,kf,dx,hr,w1,allT]
  simp;omega
def zG:List SV→List Entry→Option Out
 | [.one ⟨true,[.val (.int .i64 x0),.ref 0]⟩],[.row false 2 (.int .i64) x1]=>some ⟨.one ⟨false,[.ref 1]⟩,[.row false 2 ajn x1],[.row true 2 ajn (pE x0 x1)],[isT x0 x1]⟩
 |_,_=>none
def aU:PF prog:=PF.alt OH zG (by
 intro args es o h bz;unfold zG at h;split at h
 ·rename_i x0 x1
  cases h
  have bz:=fM bz
  have hh:=axc x0 x1 bz
  obtain⟨e0,en⟩:=hh
  exact jK rfl (fj en) rfl rfl (by simp only [e0] <;> rfl)
 ·cases h)
theorem atK: ∀ (xs:List Int) (m:Int),leI (xs.foldl (fun m b=>bif ltI m b then b else m) m) 1=(leI m 1&&xs.all fun b=>leI b 1)
 | [],m=>by simp
 |x::xs,m=>by
  rw [List.foldl_cons,atK xs,List.all_cons]
  cases h:ltI m x with
  |true=>
   have:=Xz.1 h
   cases h1:leI x 1 with
   |true=>have:=Sx.1 h1;simp [h1,ct (show m≤1 by omega)]
   |false=>simp [h1]
  |false=>
   have:=XA.1 h
   cases h1:leI m 1 with
   |true=>have:=Sx.1 h1;simp [h1,ct (show x≤1 by omega)]
   |false=>simp [h1]
def auS:List Int→Int
 | []=>0
 |x::xs=>xs.foldl (fun m b=>bif ltI m b then b else m) x
theorem axE(xs:List Int)(h:1≤xs.length):leI (auS xs) 1=xs.all fun b=>leI b 1:=by
 match xs,h with
 |x::xs,_=>simp only [auS,atK,List.all_cons]
theorem ax8(xs:List Int)(h:(leN 1 xs.length&&leN xs.length 1048576)=true):IX xs=auS xs∧IY xs=true:=by
 simp only [Bool.and_eq_true,dT]at h
 match xs,h with
 |x::xs,h=>
  obtain⟨w1,w2⟩:=ZR (x::xs) x (by omega)
  rw [jI (f:=ji) (g:=fun m b=>bif ltI m b then b else m) (fun b a=>by simp only [ji,amU])]at w2
  have e0:Option.getD (x::xs)[Int.toNat 0]? 0=x:=rfl
  refine⟨?_,?_⟩
  ·simp only [IX,yf,e0,w2,fZ,auS]
   rfl
  ·simp only [IY,yf,e0,w1,allT]
   simp;omega
def Rz:List SV→List Entry→Option Out
 | [.one ⟨false,[.ref 0]⟩],[.row false 2 (.int .i64) x0]=>some ⟨.one ⟨false,[.val (.int .i64 (auS x0))]⟩,[.row false 2 ajn x0],[],[leN 1 x0.length&&leN x0.length 1048576]⟩
 |_,_=>none
def IG:PF prog:=PF.alt adx Rz (by
 intro args es o h bz;unfold Rz at h;split at h
 ·rename_i x0
  cases h
  have bz:=fM bz
  have hh:=ax8 x0 bz
  obtain⟨e0,en⟩:=hh
  exact jK rfl (fj en) (by simp only [e0] <;> rfl) rfl rfl
 ·cases h)
theorem aw2(n:Int)(ps:List Int)(hT:isT n ps=true):leI (auS (pE n ps)) 1=aa6 n ps:=by
 have h1:=(ya.1 hT).1
 rw [axE _ (by rw [Nk];omega)]
 simp only [pE,aa6,List.all_map]
 rfl
def jL(x0:Int)(x1:List Int):Bool:=leI (auS (pE x0 x1)) (1:Int)
def jM(x0:Int)(x1:List Int):Bool:=allT [isT x0 x1,leN (1:Nat) (List.length (pE x0 x1))&&leN (List.length (pE x0 x1)) (1048576:Nat)]
def xL:List SV→List Entry→Option Out
 | [.one ⟨true,[.val (.int .i64 x0),.ref 0]⟩],[.row false 2 (.int .i64) x1]=>some ⟨.one ⟨false,[.val (.bool (jL x0 x1))]⟩,[.row false 2 ajn x1],[],[jM x0 x1]⟩
 |_,_=>none
def MS:PF prog:=PF.ofG prog [IG,PF.lend IG,PF.fz IG,aU,PF.lend aU,PF.fz aU] [] aO 62 f62 func62 (fun c _=>LOk.nil c) xL (by
 intro vs es r h;unfold xL at h;split at h
 ·cases h;kernel_rfl
 ·cases h)
theorem av2(n:Int)(ps:List Int)(h:isT n ps=true):jL n ps=aa6 n ps∧jM n ps=true:=by
 have h1:=(ya.1 h).1
 have e1:leN 1 (pE n ps).length=true:=bY (by rw [Nk];omega)
 have e2:leN (pE n ps).length 1048576=true:=bY (by rw [Nk];omega)
 refine⟨?_,?_⟩
 ·simp only [jL,jM,aw2 n ps h]
 ·simp only [jL,jM,h,e1,e2,allT,cond_true,Bool.and_self]
def xP:List SV→List Entry→Option Out
 | [.one ⟨true,[.val (.int .i64 x0),.ref 0]⟩],[.row false 2 (.int .i64) x1]=>some ⟨.one ⟨false,[.val (.bool (aa6 x0 x1))]⟩,[.row false 2 ajn x1],[],[isT x0 x1]⟩
 |_,_=>none
def dv:PF prog:=PF.alt MS xP (by
 intro args es o h bz;unfold xP at h;split at h
 ·rename_i x0 x1
  cases h
  have bz:=fM bz
  have hh:=av2 x0 x1 bz
  obtain⟨e0,en⟩:=hh
  exact jK rfl (fj en) (by simp only [e0] <;> rfl) rfl rfl
 ·cases h)
def Xs(x0:Int):Bool:=aZ x0 (2:Int) (8:Int)
def adW:List SV→List Entry→Option Out
 | [.one ⟨false,[.val (.int .i64 x0)]⟩],[]=>some ⟨.one ⟨false,[.val (.bool (Xs x0))]⟩,[],[],[]⟩
 |_,_=>none
def Xk:PF prog:=PF.ofG prog [gh] [] aO 72 f72 func72 (fun c _=>LOk.nil c) adW (by
 intro vs es r h;unfold adW at h;split at h
 ·cases h;kernel_rfl
 ·cases h)
abbrev ig:=Int×Int×List (Int×(Int×Int))×Int×Int×Int
section
variable (y0 y1:Int)(y2:List (Int×(Int×Int)))(y3 y4:Int)
def qE:Int×Int×Int:=Option.getD y2[Int.toNat y0]? ((0:Int),(0:Int),(0:Int))
def kr:Bool:=(qE y0 y2).1==y3
def wL:Bool:=ltI y0 y1
def wM:Bool:=leI (0:Int) y0
def wN:Bool:=ltI y0 (↑y2.length:Int)
def wO:Bool:=ltN y0.toNat y2.length
def wP:Bool:= !(kr y0 y2 y3&&true)||leI (0:Int) y0
def wQ:Bool:= !(kr y0 y2 y3&&true)||ltI y0 (↑y2.length:Int)
def wR:Bool:= !(kr y0 y2 y3&&true)||ltN y0.toNat y2.length
def wS:Bool:=bif kr y0 y2 y3 then ((qE y0 y2).2).1==y4 else false
def wT:Int:=IntKind.wrap .i64 (y0 + (1:Int))
end
def ad4:ig→List (Nat×SV)
 |(y0,y1,_,_,_,_)=> [(7,(.one ⟨false,[.val (.int .i64 y0)]⟩)),(5,(.one ⟨false,[.val (.int .i64 y1)]⟩)),(1,(.one ⟨false,[.ref 0]⟩)),(6,(.one ⟨false,[.ptr 1 0]⟩))]
def ad0:ig→List (Nat×Entry)
 |(_,_,y2,y3,y4,y5)=> [(0,(.row false 169 adk y2)),(1,(.box 169 [.val (.int .i64 y3),.val (.int .i64 y4),.val (.int .i64 y5)]))]
def aek:Nat→ig→List (Nat×SV)
 |0,(_,_,_,_,_,_)=> [(4,(.one ⟨false,[.val (.bool false)]⟩))]
 |_,(_,_,_,_,_,_)=> []
def aeg:Nat→ig→List (Nat×Entry)
 |0,(_,_,y2,y3,y4,y5)=> [(0,(.row false 169 adk y2)),(1,(.box 169 [.val (.int .i64 y3),.val (.int .i64 y4),.val (.int .i64 y5)]))]
 |_,(_,_,y2,y3,y4,y5)=> [(0,(.row false 169 adk y2)),(1,(.box 169 [.val (.int .i64 y3),.val (.int .i64 y4),.val (.int .i64 y5)]))]
def va:ig→LT ig
 |(y0,y1,y2,y3,y4,y5)=> .ite (wL y0 y1) (.need [wM y0,wN y0 y2,wO y0 y2,wP y0 y2 y3,wQ y0 y2 y3,wR y0 y2 y3] (.ite (wS y0 y2 y3 y4) (.ext 0 [(0,0),(1,1)]) (.nrm ((wT y0),y1,y2,y3,y4,y5) [(0,0),(1,1)]))) (.ext 1 [(0,0),(1,1)])
def Kp(s:St):Option ig:=
 (match s.look 7 with
 |some ⟨none,.one ⟨false,[.val (.int .i64 y0)]⟩⟩=>
 (match s.look 5 with
 |some ⟨none,.one ⟨false,[.val (.int .i64 y1)]⟩⟩=>
 (match s.look 1 with
 |some ⟨none,.one ⟨false,[.ref 0]⟩⟩=>
 (match s.look 6 with
 |some ⟨none,.one ⟨false,[.ptr 576 0]⟩⟩=>
 (match s.ent 0 with
 |some (.row false 169 (.pair (.int .i64) (.pair (.int .i64) (.int .i64))) y2)=>
 (match s.ent 576 with
 |some (.box 169 [.val (.int .i64 y3),.val (.int .i64 y4),.val (.int .i64 y5)])=>
 some (y0,y1,y2,y3,y4,y5)
 |_=>none)
 |_=>none)
 |_=>none)
 |_=>none)
 |_=>none)
 |_=>none)
def cg:Lp ig where
 h:=⟨[36,37,38,41,42,43,44,45,46,47,48,49,50,51,52,53,54,55,56,57,58,4,39,40,7],[0,1],[],[]⟩
 JL:=ad4
 JE:=ad0
 XL:=aek
 XE:=aeg
 q:=fun j=>match j with | 0=> .ret | _=> .exit 2
 tags:= [0,1]
 lt:=va
 fuel:=fun(y0,y1,y2,y3,y4,y5)=>y0.natAbs + y1.natAbs + y2.length + y3.natAbs + y4.natAbs + y5.natAbs
 fix:=fun(_,y1,y2,y3,y4,y5) (y0,_,_,_,_,_)=>(y0,y1,y2,y3,y4,y5)
 σ:= [(0,0),(1,576)]
 rd:=Kp
theorem abV:LoopOk prog (memN [8,9,10,11,14,15,16,17,6,18,19,20,21,22,23,24,25,26,27,28,29,30,31,32,33,34,35,4,7,36,37,38,41,42,43,44,45,46,47,48,49,50,51,52,53,54,55,56,57,58,39,40,12,13,5]) cg.F (aiy (aK f85 0) 0):=by
 refine Lp.ok (tbl:= [Xk,gh]) (lf:= []) aO cg (by kernel_rfl) (LOk.nil _) (fun _=>rfl) (fun j _=>by unfold cg;match j with | 0=>rfl | _ + 1=>rfl) ?_ ?_ ?_ ?_ (fun _=>rfl) ?_
 ·rintro⟨y0,y1,y2,y3,y4,y5⟩;kernel_rfl
 ·rintro⟨y0,y1,y2,y3,y4,y5⟩;kernel_rfl
 ·intro s x h
  have h:Kp s=some x:=h
  unfold Kp at h
  repeat' split at h
  all_goals cases h
  exact⟨aa (by assumption) rfl (aa (by assumption) rfl (aa (by assumption) rfl (aa (by assumption) rfl (rfl)))),ab rfl (by assumption) rfl (ab rfl (by assumption) rfl (rfl))⟩
 ·rintro⟨y0,y1,y2,y3,y4,y5⟩;kernel_rfl
 ·rintro⟨y0,y1,y2,y3,y4,y5⟩ z;exact(And.intro (And.intro trivial rfl) trivial)
abbrev oI:=Int×Int×List (Int×(Int×Int))
section
variable (y0 y1:Int)(y2:List (Int×(Int×Int)))
def rc:Int×Int×Int:=Option.getD y2[Int.toNat y0]? ((0:Int),(0:Int),(0:Int))
def PH:Int×Int×List (Int×Int×Int)×Int×Int×Int:=((0:Int),y0,y2,(rc y0 y2).1,((rc y0 y2).2).1,(rc y0 y2).2.2)
def Dm:Bool:=ltI y0 (↑y2.length:Int)
def Zy:Bool:=leI (0:Int) y0
def Zz:Bool:=ltN y0.toNat y2.length
def Rh:Bool:=bif bif !aZ ((rc y0 y2).1) (0:Int) (IntKind.wrap .i64 (y1 - (1:Int)))then true else !aZ (((rc y0 y2).2).1) (0:Int) (1:Int)then true else !aZ ((rc y0 y2).2.2) (0:Int) (1:Int)
def ZA:Bool:=Lp.fin cg (PH y0 y2)
def Ri:Bool:=Nat.beq ((Lp.res cg (PH y0 y2)).1) (0:Nat)
def ZB:Int:=IntKind.wrap .i64 (y0 + (1:Int))
end
def ahS:oI→List (Nat×SV)
 |(y0,y1,_)=> [(5,(.one ⟨false,[.val (.int .i64 y0)]⟩)),(1,(.one ⟨false,[.ref 0]⟩)),(0,(.one ⟨false,[.val (.int .i64 y1)]⟩))]
def ahP:oI→List (Nat×Entry)
 |(_,_,y2)=> [(0,(.row false 169 adk y2))]
def aid:Nat→oI→List (Nat×SV)
 |0,(_,_,_)=> [(4,(.one ⟨false,[.val (.bool false)]⟩))]
 |1,(_,_,_)=> [(4,(.one ⟨false,[.val (.bool false)]⟩))]
 |_,(_,_,_)=> []
def aia:Nat→oI→List (Nat×Entry)
 |0,(_,_,y2)=> [(0,(.row false 169 adk y2))]
 |1,(_,_,y2)=> [(0,(.row false 169 adk y2))]
 |_,(_,_,y2)=> [(0,(.row false 169 adk y2))]
def Ba:oI→LT oI
 |(y0,y1,y2)=> .ite (Dm y0 y2) (.need [Zy y0,Dm y0 y2,Zz y0 y2] (.ite (Rh y0 y1 y2) (.ext 0 [(0,0)]) (.need [ZA y0 y2] (.ite (Ri y0 y2) (.ext 1 [(0,0)]) (.nrm ((ZB y0),y1,y2) [(0,0)]))))) (.ext 2 [(0,0)])
def PE(s:St):Option oI:=
 (match s.look 5 with
 |some ⟨none,.one ⟨false,[.val (.int .i64 y0)]⟩⟩=>
 (match s.look 1 with
 |some ⟨none,.one ⟨false,[.ref 0]⟩⟩=>
 (match s.look 0 with
 |some ⟨none,.one ⟨false,[.val (.int .i64 y1)]⟩⟩=>
 (match s.ent 0 with
 |some (.row false 169 (.pair (.int .i64) (.pair (.int .i64) (.int .i64))) y2)=>
 some (y0,y1,y2)
 |_=>none)
 |_=>none)
 |_=>none)
 |_=>none)
def cL:Lp oI where
 h:=⟨[8,9,10,11,14,15,16,17,6,18,19,20,21,22,23,24,25,26,27,28,29,30,31,32,33,34,35,4,7,36,37,38,41,42,43,44,45,46,47,48,49,50,51,52,53,54,55,56,57,58,39,40,12,13,5],[0],[],[]⟩
 JL:=ahS
 JE:=ahP
 XL:=aid
 XE:=aia
 q:=fun j=>match j with | 0=> .ret | 1=> .ret | _=> .exit 0
 tags:= [0,1,2]
 lt:=Ba
 fuel:=fun(y0,y1,y2)=>y0.natAbs + y1.natAbs + y2.length
 fix:=fun(_,y1,y2) (y0,_,_)=>(y0,y1,y2)
 σ:= [(0,0)]
 rd:=PE
theorem afH:LoopOk prog (fun k=>Nat.blt k Tryz.f85.ntmps) cL.F (aK f85 0):=by
 refine Lp.ok (tbl:= [Xk,gh]) (lf:= [cg.F]) aO cL (by kernel_rfl) (LOk.allT (l:= [aiy (aK f85 0) 0]) (by kernel_rfl) (.cons abV (.nil _))) (fun _=>rfl) (fun j _=>by unfold cL;match j with | 0=>rfl | 1=>rfl | _ + 2=>rfl) ?_ ?_ ?_ ?_ (fun _=>rfl) ?_
 ·rintro⟨y0,y1,y2⟩;kernel_rfl
 ·rintro⟨y0,y1,y2⟩;kernel_rfl
 ·intro s x h
  have h:PE s=some x:=h
  unfold PE at h
  repeat' split at h
  all_goals cases h
  exact⟨aa (by assumption) rfl (aa (by assumption) rfl (aa (by assumption) rfl (rfl))),ab rfl (by assumption) rfl (rfl)⟩
 ·rintro⟨y0,y1,y2⟩;kernel_rfl
 ·rintro⟨y0,y1,y2⟩ z;exact(And.intro (And.intro trivial (And.intro trivial rfl)) trivial)
section
variable (x0:Int)(x1:List (Int×Int×Int))
def HH:Int×Int×List (Int×Int×Int):=((0:Int),x0,x1)
def Xn:Bool:=bif Nat.beq ((Lp.res cL (HH x0 x1)).1) (0:Nat)then false else bif Nat.beq ((Lp.res cL (HH x0 x1)).1) (1:Nat)then false else bif Xs x0 then leI (↑x1.length:Int) (8:Int)else false
def Xo:Bool:=allT [Lp.fin cL (HH x0 x1)]
end
def adT:List SV→List Entry→Option Out
 | [.one ⟨false,[.val (.int .i64 x0)]⟩,.one ⟨false,[.ref 0]⟩],[.row false 169 (.pair (.int .i64) (.pair (.int .i64) (.int .i64))) x1]=>some ⟨.one ⟨false,[.val (.bool (Xn x0 x1))]⟩,[.row false 169 adk x1],[],[Xo x0 x1]⟩
 |_,_=>none
def aon:PF prog:=PF.ofG prog [Xk,gh] [cL.F] aO 85 f85 func85 (LOk.fnT (l:= [aK f85 0]) (by kernel_rfl) (.cons afH (.nil _))) adT (by
 intro vs es r h;unfold adT at h;split at h
 ·cases h;kernel_rfl
 ·cases h)
def Pt(x0:Int):Bool:=bif x0==(0:Int)then true else x0==(1:Int)
def XM:List SV→List Entry→Option Out
 | [.one ⟨false,[.val (.int .i64 x0)]⟩],[]=>some ⟨.one ⟨false,[.val (.bool (Pt x0))]⟩,[],[],[]⟩
 |_,_=>none
def Ye:PF prog:=PF.ofG prog [] [] aO 163 f163 func163 (fun c _=>LOk.nil c) XM (by
 intro vs es r h;unfold XM at h;split at h
 ·cases h;kernel_rfl
 ·cases h)
def zJ(x0 x1 x3 x4:Int):Bool:=bif x0==x3 then x1==x4 else false
def zH:List SV→List Entry→Option Out
 | [.one ⟨true,[.val (.int .i64 x0),.val (.int .i64 x1),.val (.int .i64 _x2)]⟩,.one ⟨false,[.ptr 0 0]⟩],[.box 169 [.val (.int .i64 x3),.val (.int .i64 x4),.val (.int .i64 x5)]]=>some ⟨.one ⟨false,[.val (.bool (zJ x0 x1 x3 x4))]⟩,[.box 169 [.val (.int .i64 x3),.val (.int .i64 x4),.val (.int .i64 x5)]],[],[]⟩
 |_,_=>none
def RH:PF prog:=PF.kept (PF.ofG prog [] [] aO 165 f165 func165 (fun c _=>LOk.nil c) zH (by
 intro vs es r h;unfold zH at h;split at h
 ·cases h;kernel_rfl
 ·cases h)) [0] (by
 intro vs es r h;have h:zH vs es=some r:=h;unfold zH at h;split at h
 ·cases h;exact List.forall_mem_cons.2 ⟨rfl,fun _ h=>(by cases h)⟩
 ·cases h)
abbrev aY:=Int×Int×Int×Int×Int×List (Int×(Int×Int))
section
variable (y0 y1 y2 y3:Int)(y5:List (Int×(Int×Int)))
def cD:Int×Int×Int:=Option.getD y5[Int.toNat y0]? ((0:Int),(0:Int),(0:Int))
def eE:Bool:=ltI y0 y1
def eF:Bool:=leI (0:Int) y0
def eG:Bool:=ltI y0 (↑y5.length:Int)
def eH:Bool:=ltN y0.toNat y5.length
def eI:Bool:=zJ ((cD y0 y5).1) (((cD y0 y5).2).1) y2 y3
def eJ:Int:=IntKind.wrap .i64 (y0 + (1:Int))
end
def JB:aY→List (Nat×SV)
 |(y0,y1,_,_,_,_)=> [(8,(.one ⟨false,[.val (.int .i64 y0)]⟩)),(7,(.one ⟨false,[.val (.int .i64 y1)]⟩)),(1,(.one ⟨false,[.clo 165 [0]]⟩)),(0,(.one ⟨false,[.ref 1]⟩))]
def JA:aY→List (Nat×Entry)
 |(_,_,y2,y3,y4,y5)=> [(0,(.box 169 [.val (.int .i64 y2),.val (.int .i64 y3),.val (.int .i64 y4)])),(1,(.row false 169 adk y5))]
def JD:Nat→aY→List (Nat×SV)
 |0,(y0,_,_,_,_,_)=> [(4,(.one ⟨false,[.val (.int .i64 y0)]⟩))]
 |_,(_,_,_,_,_,_)=> []
def JC:Nat→aY→List (Nat×Entry)
 |0,(_,_,y2,y3,y4,y5)=> [(0,(.box 169 [.val (.int .i64 y2),.val (.int .i64 y3),.val (.int .i64 y4)])),(1,(.row false 169 adk y5))]
 |_,(_,_,y2,y3,y4,y5)=> [(0,(.box 169 [.val (.int .i64 y2),.val (.int .i64 y3),.val (.int .i64 y4)])),(1,(.row false 169 adk y5))]
def ed:aY→LT aY
 |(y0,y1,y2,y3,y4,y5)=> .ite (eE y0 y1) (.need [eF y0,eG y0 y5,eH y0 y5] (.ite (eI y0 y2 y3 y5) (.ext 0 [(0,0),(1,1)]) (.nrm ((eJ y0),y1,y2,y3,y4,y5) [(0,0),(1,1)]))) (.ext 1 [(0,0),(1,1)])
def lR(s:St):Option aY:=
 (match s.look 8 with
 |some ⟨none,.one ⟨false,[.val (.int .i64 y0)]⟩⟩=>
 (match s.look 7 with
 |some ⟨none,.one ⟨false,[.val (.int .i64 y1)]⟩⟩=>
 (match s.look 1 with
 |some ⟨none,.one ⟨false,[.clo 165 [1]]⟩⟩=>
 (match s.look 0 with
 |some ⟨none,.one ⟨false,[.ref 0]⟩⟩=>
 (match s.ent 1 with
 |some (.box 169 [.val (.int .i64 y2),.val (.int .i64 y3),.val (.int .i64 y4)])=>
 (match s.ent 0 with
 |some (.row false 169 (.pair (.int .i64) (.pair (.int .i64) (.int .i64))) y5)=>
 some (y0,y1,y2,y3,y4,y5)
 |_=>none)
 |_=>none)
 |_=>none)
 |_=>none)
 |_=>none)
 |_=>none)
def au:Lp aY where
 h:=⟨[9,10,5,11,12,13,14,15,16,17,4,18,8],[0,1],[],[]⟩
 JL:=JB
 JE:=JA
 XL:=JD
 XE:=JC
 q:=fun j=>match j with | 0=> .ret | _=> .exit 0
 tags:= [0,1]
 lt:=ed
 fuel:=fun(y0,y1,y2,y3,y4,y5)=>y0.natAbs + y1.natAbs + y2.natAbs + y3.natAbs + y4.natAbs + y5.length
 fix:=fun(_,y1,y2,y3,y4,y5) (y0,_,_,_,_,_)=>(y0,y1,y2,y3,y4,y5)
 σ:= [(0,1),(1,0)]
 rd:=lR
theorem Hv:LoopOk prog (fun k=>Nat.blt k Tryz.f215.ntmps) au.F (aK f215 0):=by
 refine Lp.ok (tbl:= [RH]) (lf:= []) aO au (by kernel_rfl) (LOk.nil _) (fun _=>rfl) (fun j _=>by unfold au;match j with | 0=>rfl | _ + 1=>rfl) ?_ ?_ ?_ ?_ (fun _=>rfl) ?_
 ·rintro⟨y0,y1,y2,y3,y4,y5⟩;kernel_rfl
 ·rintro⟨y0,y1,y2,y3,y4,y5⟩;kernel_rfl
 ·intro s x h
  have h:lR s=some x:=h
  unfold lR at h
  repeat' split at h
  all_goals cases h
  exact⟨aa (by assumption) rfl (aa (by assumption) rfl (aa (by assumption) rfl (aa (by assumption) rfl (rfl)))),ab rfl (by assumption) rfl (ab rfl (by assumption) rfl (rfl))⟩
 ·rintro⟨y0,y1,y2,y3,y4,y5⟩;kernel_rfl
 ·rintro⟨y0,y1,y2,y3,y4,y5⟩ z;exact(And.intro (And.intro trivial rfl) trivial)
section
variable (x0:List (Int×Int×Int))(x1 x2 x3:Int)
def fy:Int×Int×Int×Int×Int×List (Int×Int×Int):=((0:Int),(↑x0.length:Int),x1,x2,x3,x0)
def dk:Bool:=Nat.beq ((Lp.res au (fy x0 x1 x2 x3)).1) (0:Nat)
def jP:Int:=bif dk x0 x1 x2 x3 then ((Lp.res au (fy x0 x1 x2 x3)).2).1else(-1:Int)
def jQ:Int:=bif dk x0 x1 x2 x3 then x1 else x1
def jR:Int:=bif dk x0 x1 x2 x3 then x2 else x2
def jS:Int:=bif dk x0 x1 x2 x3 then x3 else x3
def jT:Bool:=allT [Lp.fin au (fy x0 x1 x2 x3)]
end
def xN:List SV→List Entry→Option Out
 | [.one ⟨false,[.ref 0]⟩,.one ⟨false,[.clo 165 [1]]⟩],[.row false 169 (.pair (.int .i64) (.pair (.int .i64) (.int .i64))) x0,.box 169 [.val (.int .i64 x1),.val (.int .i64 x2),.val (.int .i64 x3)]]=>some ⟨.one ⟨false,[.val (.int .i64 (jP x0 x1 x2 x3))]⟩,[.row false 169 adk x0,.box 169 [.val (.int .i64 (jQ x0 x1 x2 x3)),.val (.int .i64 (jR x0 x1 x2 x3)),.val (.int .i64 (jS x0 x1 x2 x3))]],[],[jT x0 x1 x2 x3]⟩
 |_,_=>none
def og:PF prog:=PF.ofG prog [RH] [au.F] aO 215 f215 func215 (LOk.fnT (l:= [aK f215 0]) (by kernel_rfl) (.cons Hv (.nil _))) xN (by
 intro vs es r h;unfold xN at h;split at h
 ·cases h;kernel_rfl
 ·cases h)
section
variable (x0:List (Int×Int×Int))(x1 x2 x3:Int)
def eC:Bool:=leI (0:Int) (jP x0 x1 x2 x3)
def mA:Int:=jQ x0 x1 x2 x3
def mB:Int:=jR x0 x1 x2 x3
def mC:Int:=jS x0 x1 x2 x3
def eD:Bool:=allT [jT x0 x1 x2 x3]
end
def uz:List SV→List Entry→Option Out
 | [.one ⟨false,[.ref 0]⟩,.one ⟨false,[.clo 165 [1]]⟩],[.row false 169 (.pair (.int .i64) (.pair (.int .i64) (.int .i64))) x0,.box 169 [.val (.int .i64 x1),.val (.int .i64 x2),.val (.int .i64 x3)]]=>some ⟨.one ⟨false,[.val (.bool (eC x0 x1 x2 x3))]⟩,[.row false 169 adk x0,.box 169 [.val (.int .i64 (mA x0 x1 x2 x3)),.val (.int .i64 (mB x0 x1 x2 x3)),.val (.int .i64 (mC x0 x1 x2 x3))]],[],[eD x0 x1 x2 x3]⟩
 |_,_=>none
def cI:PF prog:=PF.ofG prog [og,PF.lend og,PF.fz og] [] aO 164 f164 func164 (fun c _=>LOk.nil c) uz (by
 intro vs es r h;unfold uz at h;split at h
 ·cases h;kernel_rfl
 ·cases h)
abbrev oH:=Int×Int×Int×List (Int×(Int×Int))
section
variable (y0 y1 y2:Int)(y3:List (Int×(Int×Int)))
def io:Int×Int×Int:=Option.getD y3[Int.toNat y0]? ((0:Int),(0:Int),(0:Int))
def Ya:List (Int×Int×Int):=List.drop (Int.toNat (0:Int)) (List.take y0.toNat y3)
def JJ:Bool:=ltI y0 y1
def QO:Bool:=leI (0:Int) y0
def Zq:Bool:=ltI y0 (↑y3.length:Int)
def Zr:Bool:=ltN y0.toNat y3.length
def QP:Bool:=bif bif !bu ((io y0 y3).1) (0:Int) (IntKind.wrap .i64 (y2 - (1:Int)))then true else bif ((io y0 y3).2).1!=(0:Int)then ((io y0 y3).2).1!=(1:Int)else false then true else !Pt ((io y0 y3).2.2)
end
def Zs:Bool:=leI (0:Int) (0:Int)
section
variable (y0:Int)(y3:List (Int×(Int×Int)))
def Zt:Bool:=leI y0 (↑y3.length:Int)
def Zu:Bool:=eD (Ya y0 y3) ((io y0 y3).1) (((io y0 y3).2).1) ((io y0 y3).2.2)
def Zv:Bool:=eC (Ya y0 y3) ((io y0 y3).1) (((io y0 y3).2).1) ((io y0 y3).2.2)
def Zw:Int:=IntKind.wrap .i64 (y0 + (1:Int))
end
def ahR:oH→List (Nat×SV)
 |(y0,y1,y2,_)=> [(9,(.one ⟨false,[.val (.int .i64 y0)]⟩)),(8,(.one ⟨false,[.val (.int .i64 y1)]⟩)),(7,(.one ⟨false,[.ref 0]⟩)),(0,(.one ⟨false,[.val (.int .i64 y2)]⟩)),(1,(.one ⟨false,[.ref 0]⟩))]
def ahO:oH→List (Nat×Entry)
 |(_,_,_,y3)=> [(0,(.row false 169 adk y3))]
def aic:Nat→oH→List (Nat×SV)
 |0,(_,_,_,_)=> [(4,(.one ⟨false,[.val (.bool false)]⟩))]
 |1,(_,_,_,_)=> [(4,(.one ⟨false,[.val (.bool false)]⟩))]
 |_,(_,_,_,_)=> []
def ah9:Nat→oH→List (Nat×Entry)
 |0,(_,_,_,y3)=> [(0,(.row false 169 adk y3))]
 |1,(_,_,_,y3)=> [(0,(.row false 169 adk y3))]
 |_,(_,_,_,y3)=> [(0,(.row false 169 adk y3))]
def AZ:oH→LT oH
 |(y0,y1,y2,y3)=> .ite (JJ y0 y1) (.need [QO y0,Zq y0 y3,Zr y0 y3] (.ite (QP y0 y2 y3) (.ext 0 [(0,0)]) (.need [Zs,QO y0,Zt y0 y3,Zu y0 y3] (.ite (Zv y0 y3) (.ext 1 [(0,0)]) (.nrm ((Zw y0),y1,y2,y3) [(0,0)]))))) (.ext 2 [(0,0)])
def PD(s:St):Option oH:=
 (match s.look 9 with
 |some ⟨none,.one ⟨false,[.val (.int .i64 y0)]⟩⟩=>
 (match s.look 8 with
 |some ⟨none,.one ⟨false,[.val (.int .i64 y1)]⟩⟩=>
 (match s.look 7 with
 |some ⟨none,.one ⟨false,[.ref 0]⟩⟩=>
 (match s.look 0 with
 |some ⟨none,.one ⟨false,[.val (.int .i64 y2)]⟩⟩=>
 (match s.look 1 with
 |some ⟨none,.one ⟨false,[.ref 0]⟩⟩=>
 (match s.ent 0 with
 |some (.row false 169 (.pair (.int .i64) (.pair (.int .i64) (.int .i64))) y3)=>
 some (y0,y1,y2,y3)
 |_=>none)
 |_=>none)
 |_=>none)
 |_=>none)
 |_=>none)
 |_=>none)
def cK:Lp oH where
 h:=⟨[10,11,12,13,6,5,14,15,16,17,18,19,20,21,22,23,24,25,26,27,28,29,30,31,32,33,34,35,4,36,37,38,39,40,41,9],[0],[],[]⟩
 JL:=ahR
 JE:=ahO
 XL:=aic
 XE:=ah9
 q:=fun j=>match j with | 0=> .ret | 1=> .ret | _=> .exit 0
 tags:= [0,1,2]
 lt:=AZ
 fuel:=fun(y0,y1,y2,y3)=>y0.natAbs + y1.natAbs + y2.natAbs + y3.length
 fix:=fun(_,y1,y2,y3) (y0,_,_,_)=>(y0,y1,y2,y3)
 σ:= [(0,0)]
 rd:=PD
theorem afG:LoopOk prog (fun k=>Nat.blt k Tryz.f76.ntmps) cK.F (aK f76 0):=by
 refine Lp.ok (tbl:= [Ye,il,cI,PF.lend cI,PF.fz cI]) (lf:= []) aO cK (by kernel_rfl) (LOk.nil _) (fun _=>rfl) (fun j _=>by unfold cK;match j with | 0=>rfl | 1=>rfl | _ + 2=>rfl) ?_ ?_ ?_ ?_ (fun _=>rfl) ?_
 ·rintro⟨y0,y1,y2,y3⟩;kernel_rfl
 ·rintro⟨y0,y1,y2,y3⟩;kernel_rfl
 ·intro s x h
  have h:PD s=some x:=h
  unfold PD at h
  repeat' split at h
  all_goals cases h
  exact⟨aa (by assumption) rfl (aa (by assumption) rfl (aa (by assumption) rfl (aa (by assumption) rfl (aa (by assumption) rfl (rfl))))),ab rfl (by assumption) rfl (rfl)⟩
 ·rintro⟨y0,y1,y2,y3⟩;kernel_rfl
 ·rintro⟨y0,y1,y2,y3⟩ z;exact(And.intro (And.intro trivial (And.intro trivial rfl)) trivial)
section
variable (x0:Int)(x1:List (Int×Int×Int))
def Hm:Int×Int×Int×List (Int×Int×Int):=((0:Int),(↑x1.length:Int),x0,x1)
def Xb:Bool:=bif Nat.beq ((Lp.res cK (Hm x0 x1)).1) (0:Nat)then false else bif Nat.beq ((Lp.res cK (Hm x0 x1)).1) (1:Nat)then false else leI (↑x1.length:Int) (8:Int)
def Xc:Bool:=allT [Lp.fin cK (Hm x0 x1)]
end
def adR:List SV→List Entry→Option Out
 | [.one ⟨false,[.val (.int .i64 x0)]⟩,.one ⟨false,[.ref 0]⟩],[.row false 169 (.pair (.int .i64) (.pair (.int .i64) (.int .i64))) x1]=>some ⟨.one ⟨false,[.val (.bool (Xb x0 x1))]⟩,[.row false 169 adk x1],[],[Xc x0 x1]⟩
 |_,_=>none
def aom:PF prog:=PF.ofG prog [Ye,il,cI,PF.lend cI,PF.fz cI] [cK.F] aO 76 f76 func76 (LOk.fnT (l:= [aK f76 0]) (by kernel_rfl) (.cons afG (.nil _))) adR (by
 intro vs es r h;unfold adR at h;split at h
 ·cases h;kernel_rfl
 ·cases h)
def fIn(n:Int)(f:Int×Int×Int):Bool:=inR f.1 0 (IntKind.i64.wrap (n - 1))&&(inR f.2.1 0 1&&inR f.2.2 0 1)
def aak(f g:Int×Int×Int):Bool:=g.1==f.1&&g.2.1==f.2.1
def fAt(fs:List (Int×Int×Int))(b:Nat):Int×Int×Int:=fs[b]?.getD (0,0,0)
def alB(n:Int)(fs:List (Int×Int×Int))(b:Nat):Bool:= !fIn n (fAt fs b)
def ap0(fs:List (Int×Int×Int))(b:Nat):Bool:=(fs.take b).any (aak (fAt fs b))
def okFs(n:Int)(fs:List (Int×Int×Int)):Bool:=leN fs.length 8&&(List.range fs.length).all fun b=> !(alB n fs b||ap0 fs b)
theorem as9{fs:List (Int×Int×Int)}{P:Int×Int×Int→Bool}{b:Nat}(h:b≤fs.length):((List.range b).any fun j=>P (fs[j]?.getD (0,0,0)))=(fs.take b).any P:=by
 rw [Bool.eq_iff_iff]
 simp only [List.any_eq_true,List.mem_range,List.mem_take_iff_getElem]
 constructor
 ·rintro⟨j,hj,hp⟩
  have hl:j < fs.length:=by omega
  rw [List.getElem?_eq_getElem hl]at hp
  exact⟨fs[j],⟨j,by omega,rfl⟩,hp⟩
 ·rintro⟨x,⟨j,hj,rfl⟩,hp⟩
  have hl:j < fs.length:=by omega
  exact⟨j,by omega,by rw [List.getElem?_eq_getElem hl];exact hp⟩
def rX(y2:List (Int×(Int×Int)))(y3 y4:Int)(b:Nat):(Unit)→Nat ⊕ (Unit)
 |_=>(bif(bif((Option.getD y2[b]? ((0:Int),(0:Int),(0:Int))).1==y3)then ((Option.getD y2[b]? ((0:Int),(0:Int),(0:Int))).2).1==y4 else false)then(.inl 0)else(.inr ()))
def mK(y1:Int)(y2:List (Int×(Int×Int)))(y3 y4 y5:Int)(i:Nat):(Unit)→ig
 |_=>((i:Int),y1,y2,y3,y4,y5)
def Kn:ig→Unit
 |(_,_,_,_,_,_)=>()
theorem afW(y1:Int)(y2:List (Int×(Int×Int)))(y3 y4 y5:Int) (hn:y1≤9223372036854775807) (hb:y1≤(y2.length:Int)):
  cg.fin ((0:Int),y1,y2,y3,y4,y5)=true∧cg.res ((0:Int),y1,y2,y3,y4,y5)=((aN (rX y2 y3 y4) 1 (List.range y1.toNat) 0 ()).1,(mK y1 y2 y3 y4 y5) (aN (rX y2 y3 y4) 1 (List.range y1.toNat) 0 ()).2.1 (aN (rX y2 y3 y4) 1 (List.range y1.toNat) 0 ()).2.2):=by
 have cH:=cg.along (mK y1 y2 y3 y4 y5) Kn (rX y2 y3 y4) 1 (fun _ _=>True) (List.range y1.toNat) () (by trivial) (by simp only [cg,mK,List.length_range];omega) (fun i b a hb hI=> ?_) (fun a hI=> ?_)
 ·exact cH
 ·obtain⟨⟩:=a
  obtain⟨rfl,dd⟩:=qD hb
  have hw:IntKind.i64.wrap ((b:Int) + 1)=((b + 1:Nat):Int):=by rw [aw (by omega) (by omega)];omega
  have bW:ltI (b:Int) y1=true:=du (by omega)
  have pY:leI (0:Int) (b:Int)=true:=ct (by omega)
  refine⟨?_,?_,?_,?_⟩
  ·have h1:ltI (b:Int) (y2.length:Int)=true:=du (by omega)
   have h2:ltN b y2.length=true:=ec (by omega)
   simp [qE,kr,wL,wM,wN,wO,wP,wQ,wR,wS,wT,va,cg,LT.nds,allT,mK,bW,pY,h1,h2]
  ·simp [qE,kr,wL,wM,wN,wO,wP,wQ,wR,wS,wT,va,cg,LT.each,mK,Kn,hw]
  ·simp only [qE,kr,wL,wM,wN,wO,wP,wQ,wR,wS,wT,va,cg,LT.fn,mK,Kn,rX,Int.toNat_natCast,bW,pY,cond_true,Bool.cond_self]
  ·exact fun _ _=>trivial
 ·obtain⟨⟩:=a
  simp only [qE,kr,wL,wM,wN,wO,wP,wQ,wR,wS,wT,va,cg,LT.out,mK,List.length_range,aeT,aiH,cond_false]
theorem av0(fs:List (Int×Int×Int))(b:Nat)(hb:b < fs.length)(hn:fs.length≤9223372036854775807):
  ZA (b:Int) fs=true∧Ri (b:Int) fs=ap0 fs b:=by
 obtain⟨w1,w2⟩:=afW (b:Int) fs (fAt fs b).1 (fAt fs b).2.1 (fAt fs b).2.2 (by omega) (by omega)
 rw [kH (P:=fun j=>aak (fAt fs b) (fs[j]?.getD (0,0,0))) (j:=0) (fun j=>by
  simp only [rX,aak];cases (fs[j]?.getD (0,0,0)).1==(fAt fs b).1 <;> rfl),Int.toNat_natCast,as9 (by omega)]at w2
 refine⟨w1,?_⟩
 have e:PH (b:Int) fs=(0,(b:Int),fs,(fAt fs b).1,(fAt fs b).2.1,(fAt fs b).2.2):=rfl
 simp only [Ri,e,w2,ap0]
 cases (fs.take b).any (aak (fAt fs b)) <;> rfl
theorem axN(n:Int)(fs:List (Int×Int×Int))(b:Nat):Rh (b:Int) n fs=alB n fs b:=by
 simp only [Rh,aZ,alB,fIn,fAt,rc,Int.toNat_natCast,xZ]
 cases inR (fs[b]?.getD (0,0,0)).1 0 (IntKind.i64.wrap (n - 1)) <;> cases inR (fs[b]?.getD (0,0,0)).2.1 0 1 <;> cases inR (fs[b]?.getD (0,0,0)).2.2 0 1 <;> rfl
def fF(n:Int)(fs:List (Int×Int×Int))(b:Nat)(_:Unit):Nat ⊕ Unit:=bif alB n fs b then .inl 0 else bif ap0 fs b then .inl 1 else .inr ()
theorem anD(n:Int)(fs:List (Int×Int×Int)): ∀ (r:List Nat) (i:Nat),∃ k m,aN (fF n fs) 2 r i ()=(k,m,())∧((k=2∧(r.all fun b=> !(alB n fs b||ap0 fs b))=true)∨((k=0∨k=1)∧(r.all fun b=> !(alB n fs b||ap0 fs b))=false))
 | [],i=>⟨2,i,rfl,.inl ⟨rfl,rfl⟩⟩
 |b::r,i=>by
  cases h1:alB n fs b with
  |true=>exact⟨0,i,by simp only [aN,fF,h1,cond_true],.inr ⟨.inl rfl,by simp [h1]⟩⟩
  |false=>
   cases h2:ap0 fs b with
   |true=>exact⟨1,i,by simp only [aN,fF,h1,h2,cond_true,cond_false],.inr ⟨.inr rfl,by simp [h2]⟩⟩
   |false=>
    obtain⟨k,m,e,h⟩:=anD n fs r (i + 1)
    exact⟨k,m,by simp only [aN,fF,h1,h2,cond_false];exact e,by simpa [h1,h2] using h⟩
theorem as3(n:Int)(fs:List (Int×Int×Int))(hn:fs.length≤9223372036854775807):
  cL.fin ((0:Int),n,fs)=true∧cL.res ((0:Int),n,fs)=((aN (fF n fs) 2 (List.range fs.length) 0 ()).1,(((aN (fF n fs) 2 (List.range fs.length) 0 ()).2.1:Int),n,fs)):=by
 have cH:=cL.along (fun i _=>((i:Int),n,fs)) (fun _=>()) (fF n fs) 2 (fun _ _=>True) (List.range fs.length) () trivial (by simp only [cL,List.length_range];omega) (fun i b a hb hI=> ?_) (fun a hI=> ?_)
 ·exact cH
 ·obtain⟨rfl,dd⟩:=qD hb
  have hw:IntKind.i64.wrap ((b:Int) + 1)=((b + 1:Nat):Int):=by rw [aw (by omega) (by omega)];omega
  have bW:ltI (b:Int) (fs.length:Int)=true:=du (by omega)
  have pY:leI (0:Int) (b:Int)=true:=ct (by omega)
  have dw:ltN b fs.length=true:=ec (by omega)
  obtain⟨i1,i2⟩:=av0 fs b dd hn
  have i3:=axN n fs b
  refine⟨?_,?_,?_,?_⟩
  ·simp [cL,Ba,LT.nds,allT,Dm,Zy,Zz,bW,pY,dw,i1]
  ·simp [cL,Ba,LT.each,ZB,hw]
  ·simp only [cL,Ba,LT.fn,Dm,bW,i2,i3,fF,cond_true]
  ·exact fun _ _=>trivial
 ·simp [cL,Ba,LT.out,Dm,List.length_range]
theorem ary(n:Int)(fs:List (Int×Int×Int))(hn:leN fs.length 9223372036854775807=true):Xn n fs=(inR n 2 8&&okFs n fs)∧Xo n fs=true:=by
 obtain⟨w1,w2⟩:=as3 n fs (dT.1 hn)
 obtain⟨k,m,e,h⟩:=anD n fs (List.range fs.length) 0
 rw [e]at w2
 refine⟨?_,?_⟩
 ·have hl:leI (fs.length:Int) 8=leN fs.length 8:=by rw [Bool.eq_iff_iff];simp;omega
  simp only [Xn,HH,w2,Xs,aZ,xZ,okFs,hl]
  rcases h with⟨rfl,h⟩ | ⟨rfl | rfl,h⟩ <;> rw [h]
  ·cases inR n 2 8 <;> cases leN fs.length 8 <;> rfl
  ·cases inR n 2 8 <;> cases leN fs.length 8 <;> rfl
  ·cases inR n 2 8 <;> cases leN fs.length 8 <;> rfl
 ·simp only [Xo,HH,w1,allT,cond_true]
def aeb:List SV→List Entry→Option Out
 | [.one ⟨false,[.val (.int .i64 x0)]⟩,.one ⟨false,[.ref 0]⟩],[.row false 169 (.pair (.int .i64) (.pair (.int .i64) (.int .i64))) x1]=>some ⟨.one ⟨false,[.val (.bool (inR x0 2 8&&okFs x0 x1))]⟩,[.row false 169 adk x1],[],[leN x1.length 9223372036854775807]⟩
 |_,_=>none
def El:PF prog:=PF.alt aon aeb (by
 intro args es o h bz;unfold aeb at h;split at h
 ·rename_i x0 x1
  cases h
  have bz:=fM bz
  have hh:=ary x0 x1 bz
  obtain⟨e0,en⟩:=hh
  exact jK rfl (fj en) (by simp only [e0] <;> rfl) rfl rfl
 ·cases h)
def cG(y2 y3:Int)(b:Int×(Int×Int)):(Unit)→Nat ⊕ (Unit)
 |_=>(bif(zJ b.1 (b.2.1) y2 y3)then(.inl 0)else(.inr ()))
def bB(y2 y3 y4:Int)(y5:List (Int×(Int×Int)))(i:Nat):(Unit)→aY
 |_=>((i:Int),(↑y5.length:Int),y2,y3,y4,y5)
def lQ:aY→Unit
 |(_,_,_,_,_,_)=>()
theorem Lr(y2 y3 y4:Int)(y5:List (Int×(Int×Int))) (hn:y5.length≤9223372036854775807):
  au.fin ((0:Int),(↑y5.length:Int),y2,y3,y4,y5)=true∧au.res ((0:Int),(↑y5.length:Int),y2,y3,y4,y5)=((aN (cG y2 y3) 1 y5 0 ()).1,(bB y2 y3 y4 y5) (aN (cG y2 y3) 1 y5 0 ()).2.1 (aN (cG y2 y3) 1 y5 0 ()).2.2):=by
 have cH:=au.along (bB y2 y3 y4 y5) lQ (cG y2 y3) 1 (fun _ _=>True) y5 () (by trivial) (by simp only [au,bB];omega) (fun i b a hb hI=> ?_) (fun a hI=> ?_)
 ·exact cH
 ·obtain⟨⟩:=a
  have dd:=(List.getElem?_eq_some_iff.1 hb).1
  have gc: ∀ d,Option.getD y5[i]? d=b:=fun d=>by rw [hb];rfl
  have hw:=tQ dd hn
  have bW:ltI (i:Int) (y5.length:Int)=true:=du (by omega)
  have pY:leI (0:Int) (i:Int)=true:=ct (by omega)
  have dw:ltN i y5.length=true:=ec dd
  refine⟨?_,?_,?_,?_⟩
  ·simp [cD,eE,eF,eG,eH,eI,eJ,ed,au,LT.nds,allT,bB,bW,pY,dw,gc]
  ·simp [cD,eE,eF,eG,eH,eI,eJ,ed,au,LT.each,bB,lQ,hw]
  ·simp only [cD,eE,eF,eG,eH,eI,eJ,ed,au,LT.fn,bB,lQ,cG,Int.toNat_natCast,bW,pY,dw,gc,cond_true,Bool.cond_self]
  ·exact fun _ _=>trivial
 ·obtain⟨⟩:=a
  simp [cD,eE,eF,eG,eH,eI,eJ,ed,au,LT.out,bB]
theorem auI(xs:List (Int×Int×Int))(f:Int×Int×Int)(hn:xs.length≤9223372036854775807):
  eC xs f.1 f.2.1 f.2.2=xs.any (aak f)∧eD xs f.1 f.2.1 f.2.2=true:=by
 obtain⟨w1,w2⟩:=Lr f.1 f.2.1 f.2.2 xs hn
 rw [kH (P:=aak f) (j:=0) (fun t=>by
  simp only [cG,zJ,aak];cases t.1==f.1 <;> rfl)]at w2
 refine⟨?_,?_⟩
 ·simp only [eC,mA,mB,mC,eD,fy,dk,jP,jQ,jR,jS,jT,w2,bB]
  cases xs.any (aak f)with
  |false=>rfl
  |true=>exact ct (Int.natCast_nonneg _)
 ·simp only [eC,mA,mB,mC,eD,fy,dk,jP,jQ,jR,jS,jT,w1,allT,cond_true]
theorem axt(n:Int)(fs:List (Int×Int×Int))(b:Nat):QP (b:Int) n fs=alB n fs b:=by
 have h2: ∀ v:Int,(bif v==0 then true else v==1)=inR v 0 1:=fun v=>by
  rw [Bool.eq_iff_iff,sa];by_cases h:v=0 <;> by_cases h':v=1 <;> simp [h,h'] <;> omega
 have h3: ∀ v:Int,(bif v !=0 then v !=1 else false)= !inR v 0 1:=fun v=>by
  rw [← h2 v];simp only [bne];cases v==0 <;> rfl
 simp only [QP,bu,Pt,alB,fIn,fAt,io,Int.toNat_natCast,xZ,h2,h3]
 cases inR (fs[b]?.getD (0,0,0)).1 0 (IntKind.i64.wrap (n - 1)) <;> cases inR (fs[b]?.getD (0,0,0)).2.1 0 1 <;> cases inR (fs[b]?.getD (0,0,0)).2.2 0 1 <;> rfl
theorem as2(n:Int)(fs:List (Int×Int×Int))(hn:fs.length≤9223372036854775807):
  cK.fin ((0:Int),(fs.length:Int),n,fs)=true∧cK.res ((0:Int),(fs.length:Int),n,fs)=((aN (fF n fs) 2 (List.range fs.length) 0 ()).1,(((aN (fF n fs) 2 (List.range fs.length) 0 ()).2.1:Int),(fs.length:Int),n,fs)):=by
 have cH:=cK.along (fun i _=>((i:Int),(fs.length:Int),n,fs)) (fun _=>()) (fF n fs) 2 (fun _ _=>True) (List.range fs.length) () trivial (by simp only [cK,List.length_range];omega) (fun i b a hb hI=> ?_) (fun a hI=> ?_)
 ·exact cH
 ·obtain⟨rfl,dd⟩:=qD hb
  have hw:IntKind.i64.wrap ((b:Int) + 1)=((b + 1:Nat):Int):=by rw [aw (by omega) (by omega)];omega
  have bW:ltI (b:Int) (fs.length:Int)=true:=du (by omega)
  have TD:leI (b:Int) (fs.length:Int)=true:=ct (by omega)
  have pY:leI (0:Int) (b:Int)=true:=ct (by omega)
  have dw:ltN b fs.length=true:=ec (by omega)
  obtain⟨i2,i1⟩:=auI (fs.take b) (fAt fs b) (by rw [List.length_take];omega)
  have i2:Zv (b:Int) fs=ap0 fs b:=i2
  have i1:Zu (b:Int) fs=true:=i1
  have i3:=axt n fs b
  refine⟨?_,?_,?_,?_⟩
  ·simp [cK,AZ,LT.nds,allT,JJ,QO,Zq,Zr,Zs,Zt,bW,pY,dw,TD,i1]
  ·simp [cK,AZ,LT.each,Zw,hw]
  ·simp only [cK,AZ,LT.fn,JJ,bW,i2,i3,fF,cond_true]
  ·exact fun _ _=>trivial
 ·simp [cK,AZ,LT.out,JJ,List.length_range]
theorem arh(n:Int)(fs:List (Int×Int×Int))(hn:leN fs.length 9223372036854775807=true):Xb n fs=okFs n fs∧Xc n fs=true:=by
 obtain⟨w1,w2⟩:=as2 n fs (dT.1 hn)
 obtain⟨k,m,e,h⟩:=anD n fs (List.range fs.length) 0
 rw [e]at w2
 refine⟨?_,?_⟩
 ·have hl:leI (fs.length:Int) 8=leN fs.length 8:=by rw [Bool.eq_iff_iff];simp;omega
  simp only [Xb,Hm,w2,okFs,hl]
  rcases h with⟨rfl,h⟩ | ⟨rfl | rfl,h⟩ <;> rw [h] <;> cases leN fs.length 8 <;> rfl
 ·simp only [Xc,Hm,w1,allT,cond_true]
def aea:List SV→List Entry→Option Out
 | [.one ⟨false,[.val (.int .i64 x0)]⟩,.one ⟨false,[.ref 0]⟩],[.row false 169 (.pair (.int .i64) (.pair (.int .i64) (.int .i64))) x1]=>some ⟨.one ⟨false,[.val (.bool (okFs x0 x1))]⟩,[.row false 169 adk x1],[],[leN x1.length 9223372036854775807]⟩
 |_,_=>none
def Ek:PF prog:=PF.alt aom aea (by
 intro args es o h bz;unfold aea at h;split at h
 ·rename_i x0 x1
  cases h
  have bz:=fM bz
  have hh:=arh x0 x1 bz
  obtain⟨e0,en⟩:=hh
  exact jK rfl (fj en) (by simp only [e0] <;> rfl) rfl rfl
 ·cases h)
abbrev ge:=Int×List Int
section
variable (y0:Int)(y1:List Int)
def qF:Bool:=ltI y0 (↑y1.length:Int)
def ve:Bool:=leI (0:Int) y0
def vf:Bool:=ltN y0.toNat y1.length
def vg:Bool:= !aZ (Option.getD y1[Int.toNat y0]? (0:Int)) (0:Int) (2:Int)
def vh:Int:=IntKind.wrap .i64 (y0 + (1:Int))
end
def acY:ge→List (Nat×SV)
 |(y0,_)=> [(3,(.one ⟨false,[.val (.int .i64 y0)]⟩)),(0,(.one ⟨false,[.ref 0]⟩))]
def acQ:ge→List (Nat×Entry)
 |(_,y1)=> [(0,(.row false 2 ajn y1))]
def adf:Nat→ge→List (Nat×SV)
 |0,(_,_)=> [(2,(.one ⟨false,[.val (.bool false)]⟩))]
 |_,(_,_)=> []
def ac6:Nat→ge→List (Nat×Entry)
 |0,(_,y1)=> [(0,(.row false 2 ajn y1))]
 |_,(_,y1)=> [(0,(.row false 2 ajn y1))]
def tH:ge→LT ge
 |(y0,y1)=> .ite (qF y0 y1) (.need [ve y0,qF y0 y1,vf y0 y1] (.ite (vg y0 y1) (.ext 0 [(0,0)]) (.nrm ((vh y0),y1) [(0,0)]))) (.ext 1 [(0,0)])
def IO(s:St):Option ge:=
 (match s.look 3 with
 |some ⟨none,.one ⟨false,[.val (.int .i64 y0)]⟩⟩=>
 (match s.look 0 with
 |some ⟨none,.one ⟨false,[.ref 0]⟩⟩=>
 (match s.ent 0 with
 |some (.row false 2 (.int .i64) y1)=>
 some (y0,y1)
 |_=>none)
 |_=>none)
 |_=>none)
def bZ:Lp ge where
 h:=⟨[4,5,6,7,10,11,12,13,14,15,2,8,9,3],[0],[],[]⟩
 JL:=acY
 JE:=acQ
 XL:=adf
 XE:=ac6
 q:=fun j=>match j with | 0=> .ret | _=> .exit 0
 tags:= [0,1]
 lt:=tH
 fuel:=fun(y0,y1)=>y0.natAbs + y1.length
 fix:=fun(_,y1) (y0,_)=>(y0,y1)
 σ:= [(0,0)]
 rd:=IO
theorem aaK:LoopOk prog (fun k=>Nat.blt k Tryz.f86.ntmps) bZ.F (aK f86 0):=by
 refine Lp.ok (tbl:= [gh]) (lf:= []) aO bZ (by kernel_rfl) (LOk.nil _) (fun _=>rfl) (fun j _=>by unfold bZ;match j with | 0=>rfl | _ + 1=>rfl) ?_ ?_ ?_ ?_ (fun _=>rfl) ?_
 ·rintro⟨y0,y1⟩;kernel_rfl
 ·rintro⟨y0,y1⟩;kernel_rfl
 ·intro s x h
  have h:IO s=some x:=h
  unfold IO at h
  repeat' split at h
  all_goals cases h
  exact⟨aa (by assumption) rfl (aa (by assumption) rfl (rfl)),ab rfl (by assumption) rfl (rfl)⟩
 ·rintro⟨y0,y1⟩;kernel_rfl
 ·rintro⟨y0,y1⟩ z;exact(And.intro (And.intro trivial rfl) trivial)
def PK(x0:List Int):Bool:=bif Nat.beq ((Lp.res bZ ((0:Int),x0)).1) (0:Nat)then false else aZ (↑x0.length:Int) (1:Int) (12:Int)
def PL(x0:List Int):Bool:=allT [Lp.fin bZ ((0:Int),x0)]
def XP:List SV→List Entry→Option Out
 | [.one ⟨false,[.ref 0]⟩],[.row false 2 (.int .i64) x0]=>some ⟨.one ⟨false,[.val (.bool (PK x0))]⟩,[.row false 2 ajn x0],[],[PL x0]⟩
 |_,_=>none
def aiR:PF prog:=PF.ofG prog [gh] [bZ.F] aO 86 f86 func86 (LOk.fnT (l:= [aK f86 0]) (by kernel_rfl) (.cons aaK (.nil _))) XP (by
 intro vs es r h;unfold XP at h;split at h
 ·cases h;kernel_rfl
 ·cases h)
def BR(x5:List (List Int)):Int:=(↑(List.length (Option.getD x5[Int.toNat (0:Int)]? (DA (CTy.sl (2:TypeId) ajn)))):Int)
def BS(x5:List (List Int)):Bool:=allT [ltI (0:Int) (↑x5.length:Int),ltN (Int.toNat (0:Int)) x5.length]
def ahM:List SV→List Entry→Option Out
 | [.one ⟨true,[.val (.int .i64 _x0),.ref 0,.ref 1,.ref 2,.ref 3,.val (.int .i64 _x1),.ref 4,.ref 5,.val (.int .i64 _x2)]⟩],[.row false 2 (.int .i64) x3,.row false 169 (.pair (.int .i64) (.pair (.int .i64) (.int .i64))) x4,.row false 24 (.sl 2 (.int .i64)) x5,.row false 100 (.pair (.int .i64) (.pair (.int .i64) (.int .i64))) x6,.row false 173 (.pair (.int .i64) (.int .i64)) x7,.row false 176 (.pair (.int .i64) (.int .i64)) x8]=>some ⟨.one ⟨false,[.val (.int .i64 (BR x5))]⟩,[.row false 2 ajn x3,.row false 169 adk x4,.row false 24 (CTy.sl (2:TypeId) ajn) x5,.row false 100 adk x6,.row false 173 aiq x7,.row false 176 aiq x8],[],[BS x5]⟩
 |_,_=>none
def wJ:PF prog:=PF.ofG prog [] [] aO 87 f87 func87 (fun c _=>LOk.nil c) ahM (by
 intro vs es r h;unfold ahM at h;split at h
 ·cases h;kernel_rfl
 ·cases h)
abbrev dQ:=Int×Int×List (Int×(Int×Int))×Int×Int×Int
section
variable (y0 y1:Int)(y2:List (Int×(Int×Int)))(y3 y4:Int)
def lO:Int×Int×Int:=Option.getD y2[Int.toNat y0]? ((0:Int),(0:Int),(0:Int))
def gI:Bool:=(lO y0 y2).1==y3
def re:Bool:=ltI y0 y1
def rf:Bool:=leI (0:Int) y0
def rg:Bool:=ltI y0 (↑y2.length:Int)
def rh:Bool:=ltN y0.toNat y2.length
def ri:Bool:= !(gI y0 y2 y3&&true)||leI (0:Int) y0
def rj:Bool:= !(gI y0 y2 y3&&true)||ltI y0 (↑y2.length:Int)
def rl:Bool:= !(gI y0 y2 y3&&true)||ltN y0.toNat y2.length
def rm:Bool:=bif gI y0 y2 y3 then ((lO y0 y2).2).1==y4 else false
def rn:Int:=IntKind.wrap .i64 (y0 + (1:Int))
end
def ZE:dQ→List (Nat×SV)
 |(y0,y1,_,_,_,_)=> [(7,(.one ⟨false,[.val (.int .i64 y0)]⟩)),(5,(.one ⟨false,[.val (.int .i64 y1)]⟩)),(1,(.one ⟨false,[.ref 0]⟩)),(6,(.one ⟨false,[.ptr 1 0]⟩))]
def ZD:dQ→List (Nat×Entry)
 |(_,_,y2,y3,y4,y5)=> [(0,(.row false 100 adk y2)),(1,(.box 100 [.val (.int .i64 y3),.val (.int .i64 y4),.val (.int .i64 y5)]))]
def ZG:Nat→dQ→List (Nat×SV)
 |0,(_,_,_,_,_,_)=> [(4,(.one ⟨false,[.val (.bool false)]⟩))]
 |_,(_,_,_,_,_,_)=> []
def ZF:Nat→dQ→List (Nat×Entry)
 |0,(_,_,y2,y3,y4,y5)=> [(0,(.row false 100 adk y2)),(1,(.box 100 [.val (.int .i64 y3),.val (.int .i64 y4),.val (.int .i64 y5)]))]
 |_,(_,_,y2,y3,y4,y5)=> [(0,(.row false 100 adk y2)),(1,(.box 100 [.val (.int .i64 y3),.val (.int .i64 y4),.val (.int .i64 y5)]))]
def pJ:dQ→LT dQ
 |(y0,y1,y2,y3,y4,y5)=> .ite (re y0 y1) (.need [rf y0,rg y0 y2,rh y0 y2,ri y0 y2 y3,rj y0 y2 y3,rl y0 y2 y3] (.ite (rm y0 y2 y3 y4) (.ext 0 [(0,0),(1,1)]) (.nrm ((rn y0),y1,y2,y3,y4,y5) [(0,0),(1,1)]))) (.ext 1 [(0,0),(1,1)])
def DD(s:St):Option dQ:=
 (match s.look 7 with
 |some ⟨none,.one ⟨false,[.val (.int .i64 y0)]⟩⟩=>
 (match s.look 5 with
 |some ⟨none,.one ⟨false,[.val (.int .i64 y1)]⟩⟩=>
 (match s.look 1 with
 |some ⟨none,.one ⟨false,[.ref 0]⟩⟩=>
 (match s.look 6 with
 |some ⟨none,.one ⟨false,[.ptr 576 0]⟩⟩=>
 (match s.ent 0 with
 |some (.row false 100 (.pair (.int .i64) (.pair (.int .i64) (.int .i64))) y2)=>
 (match s.ent 576 with
 |some (.box 100 [.val (.int .i64 y3),.val (.int .i64 y4),.val (.int .i64 y5)])=>
 some (y0,y1,y2,y3,y4,y5)
 |_=>none)
 |_=>none)
 |_=>none)
 |_=>none)
 |_=>none)
 |_=>none)
def bF:Lp dQ where
 h:=⟨[36,37,38,41,42,43,44,45,46,47,48,49,50,51,52,53,54,55,56,57,58,4,39,40,7],[0,1],[],[]⟩
 JL:=ZE
 JE:=ZD
 XL:=ZG
 XE:=ZF
 q:=fun j=>match j with | 0=> .ret | _=> .exit 2
 tags:= [0,1]
 lt:=pJ
 fuel:=fun(y0,y1,y2,y3,y4,y5)=>y0.natAbs + y1.natAbs + y2.length + y3.natAbs + y4.natAbs + y5.natAbs
 fix:=fun(_,y1,y2,y3,y4,y5) (y0,_,_,_,_,_)=>(y0,y1,y2,y3,y4,y5)
 σ:= [(0,0),(1,576)]
 rd:=DD
theorem Yc:LoopOk prog (memN [8,9,10,11,14,15,16,17,6,18,19,20,21,22,23,24,25,26,27,28,29,30,31,32,33,34,35,4,7,36,37,38,41,42,43,44,45,46,47,48,49,50,51,52,53,54,55,56,57,58,39,40,12,13,5]) bF.F (aiy (aK f88 0) 0):=by
 refine Lp.ok (tbl:= [gh]) (lf:= []) aO bF (by kernel_rfl) (LOk.nil _) (fun _=>rfl) (fun j _=>by unfold bF;match j with | 0=>rfl | _ + 1=>rfl) ?_ ?_ ?_ ?_ (fun _=>rfl) ?_
 ·rintro⟨y0,y1,y2,y3,y4,y5⟩;kernel_rfl
 ·rintro⟨y0,y1,y2,y3,y4,y5⟩;kernel_rfl
 ·intro s x h
  have h:DD s=some x:=h
  unfold DD at h
  repeat' split at h
  all_goals cases h
  exact⟨aa (by assumption) rfl (aa (by assumption) rfl (aa (by assumption) rfl (aa (by assumption) rfl (rfl)))),ab rfl (by assumption) rfl (ab rfl (by assumption) rfl (rfl))⟩
 ·rintro⟨y0,y1,y2,y3,y4,y5⟩;kernel_rfl
 ·rintro⟨y0,y1,y2,y3,y4,y5⟩ z;exact(And.intro (And.intro trivial rfl) trivial)
abbrev kj:=Int×Int×List (Int×(Int×Int))
section
variable (y0 y1:Int)(y2:List (Int×(Int×Int)))
def lx:Int×Int×Int:=Option.getD y2[Int.toNat y0]? ((0:Int),(0:Int),(0:Int))
def IZ:Int×Int×List (Int×Int×Int)×Int×Int×Int:=((0:Int),y0,y2,(lx y0 y2).1,((lx y0 y2).2).1,(lx y0 y2).2.2)
def vd:Bool:=ltI y0 (↑y2.length:Int)
def TQ:Bool:=leI (0:Int) y0
def TR:Bool:=ltN y0.toNat y2.length
def Ks:Bool:=bif bif !aZ ((lx y0 y2).1) (0:Int) (IntKind.wrap .i64 (y1 - (1:Int)))then true else !aZ (((lx y0 y2).2).1) (0:Int) (1:Int)then true else !aZ ((lx y0 y2).2.2) (0:Int) (1:Int)
def TS:Bool:=Lp.fin bF (IZ y0 y2)
def Kt:Bool:=Nat.beq ((Lp.res bF (IZ y0 y2)).1) (0:Nat)
def TT:Int:=IntKind.wrap .i64 (y0 + (1:Int))
end
def acX:kj→List (Nat×SV)
 |(y0,y1,_)=> [(5,(.one ⟨false,[.val (.int .i64 y0)]⟩)),(1,(.one ⟨false,[.ref 0]⟩)),(0,(.one ⟨false,[.val (.int .i64 y1)]⟩))]
def acP:kj→List (Nat×Entry)
 |(_,_,y2)=> [(0,(.row false 100 adk y2))]
def ade:Nat→kj→List (Nat×SV)
 |0,(_,_,_)=> [(4,(.one ⟨false,[.val (.bool false)]⟩))]
 |1,(_,_,_)=> [(4,(.one ⟨false,[.val (.bool false)]⟩))]
 |_,(_,_,_)=> []
def ac5:Nat→kj→List (Nat×Entry)
 |0,(_,_,y2)=> [(0,(.row false 100 adk y2))]
 |1,(_,_,y2)=> [(0,(.row false 100 adk y2))]
 |_,(_,_,y2)=> [(0,(.row false 100 adk y2))]
def tG:kj→LT kj
 |(y0,y1,y2)=> .ite (vd y0 y2) (.need [TQ y0,vd y0 y2,TR y0 y2] (.ite (Ks y0 y1 y2) (.ext 0 [(0,0)]) (.need [TS y0 y2] (.ite (Kt y0 y2) (.ext 1 [(0,0)]) (.nrm ((TT y0),y1,y2) [(0,0)]))))) (.ext 2 [(0,0)])
def IM(s:St):Option kj:=
 (match s.look 5 with
 |some ⟨none,.one ⟨false,[.val (.int .i64 y0)]⟩⟩=>
 (match s.look 1 with
 |some ⟨none,.one ⟨false,[.ref 0]⟩⟩=>
 (match s.look 0 with
 |some ⟨none,.one ⟨false,[.val (.int .i64 y1)]⟩⟩=>
 (match s.ent 0 with
 |some (.row false 100 (.pair (.int .i64) (.pair (.int .i64) (.int .i64))) y2)=>
 some (y0,y1,y2)
 |_=>none)
 |_=>none)
 |_=>none)
 |_=>none)
def bQ:Lp kj where
 h:=⟨[8,9,10,11,14,15,16,17,6,18,19,20,21,22,23,24,25,26,27,28,29,30,31,32,33,34,35,4,7,36,37,38,41,42,43,44,45,46,47,48,49,50,51,52,53,54,55,56,57,58,39,40,12,13,5],[0],[],[]⟩
 JL:=acX
 JE:=acP
 XL:=ade
 XE:=ac5
 q:=fun j=>match j with | 0=> .ret | 1=> .ret | _=> .exit 0
 tags:= [0,1,2]
 lt:=tG
 fuel:=fun(y0,y1,y2)=>y0.natAbs + y1.natAbs + y2.length
 fix:=fun(_,y1,y2) (y0,_,_)=>(y0,y1,y2)
 σ:= [(0,0)]
 rd:=IM
theorem aaJ:LoopOk prog (fun k=>Nat.blt k Tryz.f88.ntmps) bQ.F (aK f88 0):=by
 refine Lp.ok (tbl:= [gh]) (lf:= [bF.F]) aO bQ (by kernel_rfl) (LOk.allT (l:= [aiy (aK f88 0) 0]) (by kernel_rfl) (.cons Yc (.nil _))) (fun _=>rfl) (fun j _=>by unfold bQ;match j with | 0=>rfl | 1=>rfl | _ + 2=>rfl) ?_ ?_ ?_ ?_ (fun _=>rfl) ?_
 ·rintro⟨y0,y1,y2⟩;kernel_rfl
 ·rintro⟨y0,y1,y2⟩;kernel_rfl
 ·intro s x h
  have h:IM s=some x:=h
  unfold IM at h
  repeat' split at h
  all_goals cases h
  exact⟨aa (by assumption) rfl (aa (by assumption) rfl (aa (by assumption) rfl (rfl))),ab rfl (by assumption) rfl (rfl)⟩
 ·rintro⟨y0,y1,y2⟩;kernel_rfl
 ·rintro⟨y0,y1,y2⟩ z;exact(And.intro (And.intro trivial (And.intro trivial rfl)) trivial)
section
variable (x0:Int)(x1:List (Int×Int×Int))
def yN:Int×Int×List (Int×Int×Int):=((0:Int),x0,x1)
def PI:Bool:=bif Nat.beq ((Lp.res bQ (yN x0 x1)).1) (0:Nat)then false else bif Nat.beq ((Lp.res bQ (yN x0 x1)).1) (1:Nat)then false else bif aZ x0 (1:Int) (12:Int)then leI (↑x1.length:Int) (8:Int)else false
def PJ:Bool:=allT [Lp.fin bQ (yN x0 x1)]
end
def XO:List SV→List Entry→Option Out
 | [.one ⟨false,[.val (.int .i64 x0)]⟩,.one ⟨false,[.ref 0]⟩],[.row false 100 (.pair (.int .i64) (.pair (.int .i64) (.int .i64))) x1]=>some ⟨.one ⟨false,[.val (.bool (PI x0 x1))]⟩,[.row false 100 adk x1],[],[PJ x0 x1]⟩
 |_,_=>none
def aiQ:PF prog:=PF.ofG prog [gh] [bQ.F] aO 88 f88 func88 (LOk.fnT (l:= [aK f88 0]) (by kernel_rfl) (.cons aaJ (.nil _))) XO (by
 intro vs es r h;unfold XO at h;split at h
 ·cases h;kernel_rfl
 ·cases h)
def VO(x0:Int):Bool:=aZ x0 (0:Int) (5:Int)
def ahD:List SV→List Entry→Option Out
 | [.one ⟨false,[.val (.int .i64 x0)]⟩],[]=>some ⟨.one ⟨false,[.val (.bool (VO x0))]⟩,[],[],[]⟩
 |_,_=>none
def aiU:PF prog:=PF.ofG prog [gh] [] aO 89 f89 func89 (fun c _=>LOk.nil c) ahD (by
 intro vs es r h;unfold ahD at h;split at h
 ·cases h;kernel_rfl
 ·cases h)
abbrev om:=Int×List (Int×Int)
section
variable (y0:Int)(y1:List (Int×Int))
def Cd:Int×Int:=Option.getD y1[Int.toNat y0]? ((0:Int),(0:Int))
def sZ:Bool:= !aZ ((Cd y0 y1).1) (1:Int) (366:Int)
def Eo:Bool:=ltI y0 (↑y1.length:Int)
def Ku:Bool:=leI (0:Int) y0
def Kv:Bool:=ltN y0.toNat y1.length
def Kw:Bool:= !(!sZ y0 y1&&true)||leI (0:Int) y0
def Kx:Bool:= !(!sZ y0 y1&&true)||ltI y0 (↑y1.length:Int)
def Ky:Bool:= !(!sZ y0 y1&&true)||ltN y0.toNat y1.length
def Kz:Bool:=bif sZ y0 y1 then true else !aZ ((Cd y0 y1).2) (0:Int) (100000:Int)
def KA:Int:=IntKind.wrap .i64 (y0 + (1:Int))
end
def amh:om→List (Nat×SV)
 |(y0,_)=> [(3,(.one ⟨false,[.val (.int .i64 y0)]⟩)),(0,(.one ⟨false,[.ref 0]⟩))]
def al8:om→List (Nat×Entry)
 |(_,y1)=> [(0,(.row false 173 aiq y1))]
def amz:Nat→om→List (Nat×SV)
 |0,(_,_)=> [(2,(.one ⟨false,[.val (.bool false)]⟩))]
 |_,(_,_)=> []
def amq:Nat→om→List (Nat×Entry)
 |0,(_,y1)=> [(0,(.row false 173 aiq y1))]
 |_,(_,y1)=> [(0,(.row false 173 aiq y1))]
def Hx:om→LT om
 |(y0,y1)=> .ite (Eo y0 y1) (.need [Ku y0,Eo y0 y1,Kv y0 y1,Kw y0 y1,Kx y0 y1,Ky y0 y1] (.ite (Kz y0 y1) (.ext 0 [(0,0)]) (.nrm ((KA y0),y1) [(0,0)]))) (.ext 1 [(0,0)])
def Vk(s:St):Option om:=
 (match s.look 3 with
 |some ⟨none,.one ⟨false,[.val (.int .i64 y0)]⟩⟩=>
 (match s.look 0 with
 |some ⟨none,.one ⟨false,[.ref 0]⟩⟩=>
 (match s.ent 0 with
 |some (.row false 173 (.pair (.int .i64) (.int .i64)) y1)=>
 some (y0,y1)
 |_=>none)
 |_=>none)
 |_=>none)
def gE:Lp om where
 h:=⟨[4,5,6,7,10,11,12,13,14,15,16,17,18,19,20,21,22,23,24,25,2,8,9,3],[0],[],[]⟩
 JL:=amh
 JE:=al8
 XL:=amz
 XE:=amq
 q:=fun j=>match j with | 0=> .ret | _=> .exit 0
 tags:= [0,1]
 lt:=Hx
 fuel:=fun(y0,y1)=>y0.natAbs + y1.length
 fix:=fun(_,y1) (y0,_)=>(y0,y1)
 σ:= [(0,0)]
 rd:=Vk
theorem aka:LoopOk prog (fun k=>Nat.blt k Tryz.f90.ntmps) gE.F (aK f90 0):=by
 refine Lp.ok (tbl:= [gh]) (lf:= []) aO gE (by kernel_rfl) (LOk.nil _) (fun _=>rfl) (fun j _=>by unfold gE;match j with | 0=>rfl | _ + 1=>rfl) ?_ ?_ ?_ ?_ (fun _=>rfl) ?_
 ·rintro⟨y0,y1⟩;kernel_rfl
 ·rintro⟨y0,y1⟩;kernel_rfl
 ·intro s x h
  have h:Vk s=some x:=h
  unfold Vk at h
  repeat' split at h
  all_goals cases h
  exact⟨aa (by assumption) rfl (aa (by assumption) rfl (rfl)),ab rfl (by assumption) rfl (rfl)⟩
 ·rintro⟨y0,y1⟩;kernel_rfl
 ·rintro⟨y0,y1⟩ z;exact(And.intro (And.intro trivial rfl) trivial)
def adH(x0:List (Int×Int)):Bool:=bif Nat.beq ((Lp.res gE ((0:Int),x0)).1) (0:Nat)then false else leI (↑x0.length:Int) (12:Int)
def adI(x0:List (Int×Int)):Bool:=allT [Lp.fin gE ((0:Int),x0)]
def aks:List SV→List Entry→Option Out
 | [.one ⟨false,[.ref 0]⟩],[.row false 173 (.pair (.int .i64) (.int .i64)) x0]=>some ⟨.one ⟨false,[.val (.bool (adH x0))]⟩,[.row false 173 aiq x0],[],[adI x0]⟩
 |_,_=>none
def art:PF prog:=PF.ofG prog [gh] [gE.F] aO 90 f90 func90 (LOk.fnT (l:= [aK f90 0]) (by kernel_rfl) (.cons aka (.nil _))) aks (by
 intro vs es r h;unfold aks at h;split at h
 ·cases h;kernel_rfl
 ·cases h)
def VS(x0 x1:Int):Bool:=bif aZ x0 (0:Int) (23:Int)then aZ x1 (1:Int) (999:Int)else false
def ahJ:List SV→List Entry→Option Out
 | [.one ⟨false,[.val (.int .i64 x0)]⟩,.one ⟨false,[.val (.int .i64 x1)]⟩],[]=>some ⟨.one ⟨false,[.val (.bool (VS x0 x1))]⟩,[],[],[]⟩
 |_,_=>none
def aiV:PF prog:=PF.ofG prog [gh] [] aO 173 f173 func173 (fun c _=>LOk.nil c) ahJ (by
 intro vs es r h;unfold ahJ at h;split at h
 ·cases h;kernel_rfl
 ·cases h)
abbrev mO:=Int×Int×Int×List (Int×Int)
section
variable (y0 y1 y2:Int)(y3:List (Int×Int))
def uu:Int×Int:=Option.getD y3[Int.toNat y0]? ((0:Int),(0:Int))
def uv:Bool:= !((uu y0 y3).1==y1&&true)
def Cu:Bool:=ltI y0 (↑y3.length:Int)
def Ia:Bool:=leI (0:Int) y0
def Ib:Bool:=ltN y0.toNat y3.length
def Ic:Bool:=uv y0 y1 y3||leI (0:Int) y0
def Id:Bool:=uv y0 y1 y3||ltI y0 (↑y3.length:Int)
def Ie:Bool:=uv y0 y1 y3||ltN y0.toNat y3.length
def Ig:Bool:=bif (uu y0 y3).1==y1 then (uu y0 y3).2==y2 else false
def Ih:Int:=IntKind.wrap .i64 (y0 + (1:Int))
end
def ak8:mO→List (Nat×SV)
 |(y0,y1,y2,_)=> [(7,(.one ⟨false,[.val (.int .i64 y0)]⟩)),(0,(.one ⟨false,[.ref 0]⟩)),(1,(.one ⟨false,[.val (.int .i64 y1)]⟩)),(2,(.one ⟨false,[.val (.int .i64 y2)]⟩))]
def ak0:mO→List (Nat×Entry)
 |(_,_,_,y3)=> [(0,(.row false 176 aiq y3))]
def alp:Nat→mO→List (Nat×SV)
 |0,(y0,_,_,_)=> [(6,(.one ⟨false,[.val (.int .i64 y0)]⟩))]
 |_,(_,_,_,_)=> []
def alg:Nat→mO→List (Nat×Entry)
 |0,(_,_,_,y3)=> [(0,(.row false 176 aiq y3))]
 |_,(_,_,_,y3)=> [(0,(.row false 176 aiq y3))]
def FI:mO→LT mO
 |(y0,y1,y2,y3)=> .ite (Cu y0 y3) (.need [Ia y0,Cu y0 y3,Ib y0 y3,Ic y0 y1 y3,Id y0 y1 y3,Ie y0 y1 y3] (.ite (Ig y0 y1 y2 y3) (.ext 0 [(0,0)]) (.nrm ((Ih y0),y1,y2,y3) [(0,0)]))) (.ext 1 [(0,0)])
def Tp(s:St):Option mO:=
 (match s.look 7 with
 |some ⟨none,.one ⟨false,[.val (.int .i64 y0)]⟩⟩=>
 (match s.look 0 with
 |some ⟨none,.one ⟨false,[.ref 0]⟩⟩=>
 (match s.look 1 with
 |some ⟨none,.one ⟨false,[.val (.int .i64 y1)]⟩⟩=>
 (match s.look 2 with
 |some ⟨none,.one ⟨false,[.val (.int .i64 y2)]⟩⟩=>
 (match s.ent 0 with
 |some (.row false 176 (.pair (.int .i64) (.int .i64)) y3)=>
 some (y0,y1,y2,y3)
 |_=>none)
 |_=>none)
 |_=>none)
 |_=>none)
 |_=>none)
def em:Lp mO where
 h:=⟨[8,9,10,11,14,15,16,17,18,19,20,21,22,23,24,25,26,27,28,29,30,6,12,13,7],[0],[],[]⟩
 JL:=ak8
 JE:=ak0
 XL:=alp
 XE:=alg
 q:=fun j=>match j with | 0=> .ret | _=> .exit 0
 tags:= [0,1]
 lt:=FI
 fuel:=fun(y0,y1,y2,y3)=>y0.natAbs + y1.natAbs + y2.natAbs + y3.length
 fix:=fun(_,y1,y2,y3) (y0,_,_,_)=>(y0,y1,y2,y3)
 σ:= [(0,0)]
 rd:=Tp
theorem aiF:LoopOk prog (fun k=>Nat.blt k Tryz.f174.ntmps) em.F (aK f174 0):=by
 refine Lp.ok (tbl:= []) (lf:= []) aO em (by kernel_rfl) (LOk.nil _) (fun _=>rfl) (fun j _=>by unfold em;match j with | 0=>rfl | _ + 1=>rfl) ?_ ?_ ?_ ?_ (fun _=>rfl) ?_
 ·rintro⟨y0,y1,y2,y3⟩;kernel_rfl
 ·rintro⟨y0,y1,y2,y3⟩;kernel_rfl
 ·intro s x h
  have h:Tp s=some x:=h
  unfold Tp at h
  repeat' split at h
  all_goals cases h
  exact⟨aa (by assumption) rfl (aa (by assumption) rfl (aa (by assumption) rfl (aa (by assumption) rfl (rfl)))),ab rfl (by assumption) rfl (rfl)⟩
 ·rintro⟨y0,y1,y2,y3⟩;kernel_rfl
 ·rintro⟨y0,y1,y2,y3⟩ z;exact(And.intro (And.intro trivial rfl) trivial)
section
variable (x0 x1:Int)(x2:List (Int×Int))
def SL:Int×Int×Int×List (Int×Int):=((0:Int),x0,x1,x2)
def KS:Int:=bif Nat.beq ((Lp.res em (SL x0 x1 x2)).1) (0:Nat)then ((Lp.res em (SL x0 x1 x2)).2).1else(-1:Int)
def VR:Bool:=allT [Lp.fin em (SL x0 x1 x2)]
end
def ahI:List SV→List Entry→Option Out
 | [.one ⟨false,[.ref 0]⟩,.one ⟨false,[.val (.int .i64 x0)]⟩,.one ⟨false,[.val (.int .i64 x1)]⟩],[.row false 176 (.pair (.int .i64) (.int .i64)) x2]=>some ⟨.one ⟨false,[.val (.int .i64 (KS x0 x1 x2))]⟩,[.row false 176 aiq x2],[],[VR x0 x1 x2]⟩
 |_,_=>none
def Kl:PF prog:=PF.ofG prog [] [em.F] aO 174 f174 func174 (LOk.fnT (l:= [aK f174 0]) (by kernel_rfl) (.cons aiF (.nil _))) ahI (by
 intro vs es r h;unfold ahI at h;split at h
 ·cases h;kernel_rfl
 ·cases h)
abbrev qM:=Int×List (Int×Int)
section
variable (y0:Int)(y1:List (Int×Int))
def oL:Int×Int:=Option.getD y1[Int.toNat y0]? ((0:Int),(0:Int))
def sR:Bool:= !VS ((oL y0 y1).1) ((oL y0 y1).2)
def zi:Bool:=ltI y0 (↑y1.length:Int)
def Tr:Bool:=leI (0:Int) y0
def Ts:Bool:=ltN y0.toNat y1.length
def Tt:Bool:= !(!sR y0 y1&&true)||leI (0:Int) y0
def Tu:Bool:= !(!sR y0 y1&&true)||ltI y0 (↑y1.length:Int)
def Tv:Bool:= !(!sR y0 y1&&true)||ltN y0.toNat y1.length
def abb:Bool:= !(!sR y0 y1&&true)||VR ((oL y0 y1).1) ((oL y0 y1).2) y1
def abc:Bool:=bif sR y0 y1 then true else KS ((oL y0 y1).1) ((oL y0 y1).2) y1 !=y0
def abd:Int:=IntKind.wrap .i64 (y0 + (1:Int))
end
def ajL:qM→List (Nat×SV)
 |(y0,_)=> [(3,(.one ⟨false,[.val (.int .i64 y0)]⟩)),(0,(.one ⟨false,[.ref 0]⟩))]
def ajC:qM→List (Nat×Entry)
 |(_,y1)=> [(0,(.row false 176 aiq y1))]
def aj4:Nat→qM→List (Nat×SV)
 |0,(_,_)=> [(2,(.one ⟨false,[.val (.bool false)]⟩))]
 |_,(_,_)=> []
def ajV:Nat→qM→List (Nat×Entry)
 |0,(_,y1)=> [(0,(.row false 176 aiq y1))]
 |_,(_,y1)=> [(0,(.row false 176 aiq y1))]
def Dg:qM→LT qM
 |(y0,y1)=> .ite (zi y0 y1) (.need [Tr y0,zi y0 y1,Ts y0 y1,Tr y0,zi y0 y1,Ts y0 y1,Tt y0 y1,Tu y0 y1,Tv y0 y1,Tt y0 y1,Tu y0 y1,Tv y0 y1,abb y0 y1] (.ite (abc y0 y1) (.ext 0 [(0,0)]) (.nrm ((abd y0),y1) [(0,0)]))) (.ext 1 [(0,0)])
def Re(s:St):Option qM:=
 (match s.look 3 with
 |some ⟨none,.one ⟨false,[.val (.int .i64 y0)]⟩⟩=>
 (match s.look 0 with
 |some ⟨none,.one ⟨false,[.ref 0]⟩⟩=>
 (match s.ent 0 with
 |some (.row false 176 (.pair (.int .i64) (.int .i64)) y1)=>
 some (y0,y1)
 |_=>none)
 |_=>none)
 |_=>none)
def ex:Lp qM where
 h:=⟨[4,5,6,7,10,11,12,13,14,15,16,17,18,19,20,21,22,23,24,25,26,27,28,29,30,31,32,33,34,35,36,37,2,8,9,3],[0],[],[]⟩
 JL:=ajL
 JE:=ajC
 XL:=aj4
 XE:=ajV
 q:=fun j=>match j with | 0=> .ret | _=> .exit 0
 tags:= [0,1]
 lt:=Dg
 fuel:=fun(y0,y1)=>y0.natAbs + y1.length
 fix:=fun(_,y1) (y0,_)=>(y0,y1)
 σ:= [(0,0)]
 rd:=Re
theorem ahi:LoopOk prog (fun k=>Nat.blt k Tryz.f91.ntmps) ex.F (aK f91 0):=by
 refine Lp.ok (tbl:= [aiV,Kl,PF.lend Kl,PF.fz Kl]) (lf:= []) aO ex (by kernel_rfl) (LOk.nil _) (fun _=>rfl) (fun j _=>by unfold ex;match j with | 0=>rfl | _ + 1=>rfl) ?_ ?_ ?_ ?_ (fun _=>rfl) ?_
 ·rintro⟨y0,y1⟩;kernel_rfl
 ·rintro⟨y0,y1⟩;kernel_rfl
 ·intro s x h
  have h:Re s=some x:=h
  unfold Re at h
  repeat' split at h
  all_goals cases h
  exact⟨aa (by assumption) rfl (aa (by assumption) rfl (rfl)),ab rfl (by assumption) rfl (rfl)⟩
 ·rintro⟨y0,y1⟩;kernel_rfl
 ·rintro⟨y0,y1⟩ z;exact(And.intro (And.intro trivial rfl) trivial)
def YX(x0:List (Int×Int)):Bool:=bif Nat.beq ((Lp.res ex ((0:Int),x0)).1) (0:Nat)then false else leI (↑x0.length:Int) (8:Int)
def YY(x0:List (Int×Int)):Bool:=allT [Lp.fin ex ((0:Int),x0)]
def af6:List SV→List Entry→Option Out
 | [.one ⟨false,[.ref 0]⟩],[.row false 176 (.pair (.int .i64) (.int .i64)) x0]=>some ⟨.one ⟨false,[.val (.bool (YX x0))]⟩,[.row false 176 aiq x0],[],[YY x0]⟩
 |_,_=>none
def apy:PF prog:=PF.ofG prog [aiV,Kl,PF.lend Kl,PF.fz Kl] [ex.F] aO 91 f91 func91 (LOk.fnT (l:= [aK f91 0]) (by kernel_rfl) (.cons ahi (.nil _))) af6 (by
 intro vs es r h;unfold af6 at h;split at h
 ·cases h;kernel_rfl
 ·cases h)
def afE(x0:Int):Bool:= !bu x0 (0:Int) (2:Int)
def Uq:List SV→List Entry→Option Out
 | [.one ⟨false,[.val (.int .i64 x0)]⟩],[]=>some ⟨.one ⟨false,[.val (.bool (afE x0))]⟩,[],[],[]⟩
 |_,_=>none
def afO:PF prog:=PF.ofG prog [il] [] aO 166 f166 func166 (fun c _=>LOk.nil c) Uq (by
 intro vs es r h;unfold Uq at h;split at h
 ·cases h;kernel_rfl
 ·cases h)
def BZ(x0:Int):Bool:=bu x0 (1:Int) (12:Int)
def ab2:List SV→List Entry→Option Out
 | [.one ⟨false,[.val (.int .i64 x0)]⟩],[]=>some ⟨.one ⟨false,[.val (.bool (BZ x0))]⟩,[],[],[]⟩
 |_,_=>none
def UW:PF prog:=PF.ofG prog [il] [] aO 70 f70 func70 (fun c _=>LOk.nil c) ab2 (by
 intro vs es r h;unfold ab2 at h;split at h
 ·cases h;kernel_rfl
 ·cases h)
def tU(x0:Int):Bool:= !bu x0 (0:Int) (2:Int)
def MF:List SV→List Entry→Option Out
 | [.one ⟨false,[.val (.int .i64 x0)]⟩],[]=>some ⟨.one ⟨false,[.val (.bool (tU x0))]⟩,[],[],[]⟩
 |_,_=>none
def MQ:PF prog:=PF.ofG prog [il] [] aO 166 f166 func166 (fun c _=>LOk.nil c) MF (by
 intro vs es r h;unfold MF at h;split at h
 ·cases h;kernel_rfl
 ·cases h)
abbrev br:=Int×Int×List Int
section
variable (y0 y1:Int)(y2:List Int)
def gP:Bool:=ltI y0 y1
def gQ:Bool:=leI (0:Int) y0
def gR:Bool:=ltI y0 (↑y2.length:Int)
def gS:Bool:=ltN y0.toNat y2.length
def gT:Bool:=tU (Option.getD y2[Int.toNat y0]? (0:Int))
def gU:Int:=IntKind.wrap .i64 (y0 + (1:Int))
end
def Np:br→List (Nat×SV)
 |(y0,y1,_)=> [(8,(.one ⟨false,[.val (.int .i64 y0)]⟩)),(7,(.one ⟨false,[.val (.int .i64 y1)]⟩)),(1,(.one ⟨false,[.val (.func (.func 166) ⟨[]⟩ ⟨[]⟩)]⟩)),(0,(.one ⟨false,[.ref 0]⟩))]
def Nl:br→List (Nat×Entry)
 |(_,_,y2)=> [(0,(.row false 2 ajn y2))]
def Nt:Nat→br→List (Nat×SV)
 |0,(y0,_,_)=> [(4,(.one ⟨false,[.val (.int .i64 y0)]⟩))]
 |_,(_,_,_)=> []
def Nr:Nat→br→List (Nat×Entry)
 |0,(_,_,y2)=> [(0,(.row false 2 ajn y2))]
 |_,(_,_,y2)=> [(0,(.row false 2 ajn y2))]
def gx:br→LT br
 |(y0,y1,y2)=> .ite (gP y0 y1) (.need [gQ y0,gR y0 y2,gS y0 y2] (.ite (gT y0 y2) (.ext 0 [(0,0)]) (.nrm ((gU y0),y1,y2) [(0,0)]))) (.ext 1 [(0,0)])
def pm(s:St):Option br:=
 (match s.look 8 with
 |some ⟨none,.one ⟨false,[.val (.int .i64 y0)]⟩⟩=>
 (match s.look 7 with
 |some ⟨none,.one ⟨false,[.val (.int .i64 y1)]⟩⟩=>
 (match s.look 1 with
 |some ⟨none,.one ⟨false,[.val (.func (.func 166) ⟨[]⟩ ⟨[]⟩)]⟩⟩=>
 (match s.look 0 with
 |some ⟨none,.one ⟨false,[.ref 0]⟩⟩=>
 (match s.ent 0 with
 |some (.row false 2 (.int .i64) y2)=>
 some (y0,y1,y2)
 |_=>none)
 |_=>none)
 |_=>none)
 |_=>none)
 |_=>none)
def aE:Lp br where
 h:=⟨[9,10,5,11,12,13,14,15,16,17,4,18,8],[0],[],[]⟩
 JL:=Np
 JE:=Nl
 XL:=Nt
 XE:=Nr
 q:=fun j=>match j with | 0=> .ret | _=> .exit 0
 tags:= [0,1]
 lt:=gx
 fuel:=fun(y0,y1,y2)=>y0.natAbs + y1.natAbs + y2.length
 fix:=fun(_,y1,y2) (y0,_,_)=>(y0,y1,y2)
 σ:= [(0,0)]
 rd:=pm
theorem Mc:LoopOk prog (fun k=>Nat.blt k Tryz.f211.ntmps) aE.F (aK f211 0):=by
 refine Lp.ok (tbl:= [MQ]) (lf:= []) aO aE (by kernel_rfl) (LOk.nil _) (fun _=>rfl) (fun j _=>by unfold aE;match j with | 0=>rfl | _ + 1=>rfl) ?_ ?_ ?_ ?_ (fun _=>rfl) ?_
 ·rintro⟨y0,y1,y2⟩;kernel_rfl
 ·rintro⟨y0,y1,y2⟩;kernel_rfl
 ·intro s x h
  have h:pm s=some x:=h
  unfold pm at h
  repeat' split at h
  all_goals cases h
  exact⟨aa (by assumption) rfl (aa (by assumption) rfl (aa (by assumption) rfl (aa (by assumption) rfl (rfl)))),ab rfl (by assumption) rfl (rfl)⟩
 ·rintro⟨y0,y1,y2⟩;kernel_rfl
 ·rintro⟨y0,y1,y2⟩ z;exact(And.intro (And.intro trivial rfl) trivial)
section
variable (x0:List Int)
def lL:Int×Int×List Int:=((0:Int),(↑x0.length:Int),x0)
def sN:Int:=bif Nat.beq ((Lp.res aE (lL x0)).1) (0:Nat)then ((Lp.res aE (lL x0)).2).1else(-1:Int)
def sO:Bool:=allT [Lp.fin aE (lL x0)]
end
def CR:List SV→List Entry→Option Out
 | [.one ⟨false,[.ref 0]⟩,.one ⟨false,[.val (.func (.func 166) ⟨[]⟩ ⟨[]⟩)]⟩],[.row false 2 (.int .i64) x0]=>some ⟨.one ⟨false,[.val (.int .i64 (sN x0))]⟩,[.row false 2 ajn x0],[],[sO x0]⟩
 |_,_=>none
def sL:PF prog:=PF.ofG prog [MQ] [aE.F] aO 211 f211 func211 (LOk.fnT (l:= [aK f211 0]) (by kernel_rfl) (.cons Mc (.nil _))) CR (by
 intro vs es r h;unfold CR at h;split at h
 ·cases h;kernel_rfl
 ·cases h)
def qw(x0:List Int):Bool:=leI (0:Int) (sN x0)
def qx(x0:List Int):Bool:=allT [sO x0]
def zB:List SV→List Entry→Option Out
 | [.one ⟨false,[.ref 0]⟩,.one ⟨false,[.val (.func (.func 166) ⟨[]⟩ ⟨[]⟩)]⟩],[.row false 2 (.int .i64) x0]=>some ⟨.one ⟨false,[.val (.bool (qw x0))]⟩,[.row false 2 ajn x0],[],[qx x0]⟩
 |_,_=>none
def qt:PF prog:=PF.ofG prog [sL,PF.lend sL,PF.fz sL] [] aO 158 f158 func158 (fun c _=>LOk.nil c) zB (by
 intro vs es r h;unfold zB at h;split at h
 ·cases h;kernel_rfl
 ·cases h)
def Pg(x0:List Int):Bool:=bif BZ (dx x0)then !qw x0 else false
def Ph(x0:List Int):Bool:=allT [!(BZ (dx x0)&&true)||qx x0]
def XK:List SV→List Entry→Option Out
 | [.one ⟨false,[.ref 0]⟩],[.row false 2 (.int .i64) x0]=>some ⟨.one ⟨false,[.val (.bool (Pg x0))]⟩,[.row false 2 ajn x0],[],[Ph x0]⟩
 |_,_=>none
def aiP:PF prog:=PF.ofG prog [afO,UW,aW,PF.lend aW,PF.fz aW,qt,PF.lend qt,PF.fz qt] [] aO 77 f77 func77 (fun c _=>LOk.nil c) XK (by
 intro vs es r h;unfold XK at h;split at h
 ·cases h;kernel_rfl
 ·cases h)
def tT(x0 x1 x3 x4:Int):Bool:=bif x0==x3 then x1==x4 else false
def tR:List SV→List Entry→Option Out
 | [.one ⟨true,[.val (.int .i64 x0),.val (.int .i64 x1),.val (.int .i64 _x2)]⟩,.one ⟨false,[.ptr 0 0]⟩],[.box 100 [.val (.int .i64 x3),.val (.int .i64 x4),.val (.int .i64 x5)]]=>some ⟨.one ⟨false,[.val (.bool (tT x0 x1 x3 x4))]⟩,[.box 100 [.val (.int .i64 x3),.val (.int .i64 x4),.val (.int .i64 x5)]],[],[]⟩
 |_,_=>none
def MP:PF prog:=PF.kept (PF.ofG prog [] [] aO 168 f168 func168 (fun c _=>LOk.nil c) tR (by
 intro vs es r h;unfold tR at h;split at h
 ·cases h;kernel_rfl
 ·cases h)) [0] (by
 intro vs es r h;have h:tR vs es=some r:=h;unfold tR at h;split at h
 ·cases h;exact List.forall_mem_cons.2 ⟨rfl,fun _ h=>(by cases h)⟩
 ·cases h)
abbrev bg:=Int×Int×Int×Int×Int×List (Int×(Int×Int))
section
variable (y0 y1 y2 y3:Int)(y5:List (Int×(Int×Int)))
def cO:Int×Int×Int:=Option.getD y5[Int.toNat y0]? ((0:Int),(0:Int),(0:Int))
def fo:Bool:=ltI y0 y1
def fq:Bool:=leI (0:Int) y0
def ft:Bool:=ltI y0 (↑y5.length:Int)
def fu:Bool:=ltN y0.toNat y5.length
def fv:Bool:=tT ((cO y0 y5).1) (((cO y0 y5).2).1) y2 y3
def fw:Int:=IntKind.wrap .i64 (y0 + (1:Int))
end
def Lw:bg→List (Nat×SV)
 |(y0,y1,_,_,_,_)=> [(8,(.one ⟨false,[.val (.int .i64 y0)]⟩)),(7,(.one ⟨false,[.val (.int .i64 y1)]⟩)),(1,(.one ⟨false,[.clo 168 [0]]⟩)),(0,(.one ⟨false,[.ref 1]⟩))]
def Lu:bg→List (Nat×Entry)
 |(_,_,y2,y3,y4,y5)=> [(0,(.box 100 [.val (.int .i64 y2),.val (.int .i64 y3),.val (.int .i64 y4)])),(1,(.row false 100 adk y5))]
def LA:Nat→bg→List (Nat×SV)
 |0,(y0,_,_,_,_,_)=> [(4,(.one ⟨false,[.val (.int .i64 y0)]⟩))]
 |_,(_,_,_,_,_,_)=> []
def Ly:Nat→bg→List (Nat×Entry)
 |0,(_,_,y2,y3,y4,y5)=> [(0,(.box 100 [.val (.int .i64 y2),.val (.int .i64 y3),.val (.int .i64 y4)])),(1,(.row false 100 adk y5))]
 |_,(_,_,y2,y3,y4,y5)=> [(0,(.box 100 [.val (.int .i64 y2),.val (.int .i64 y3),.val (.int .i64 y4)])),(1,(.row false 100 adk y5))]
def eP:bg→LT bg
 |(y0,y1,y2,y3,y4,y5)=> .ite (fo y0 y1) (.need [fq y0,ft y0 y5,fu y0 y5] (.ite (fv y0 y2 y3 y5) (.ext 0 [(0,0),(1,1)]) (.nrm ((fw y0),y1,y2,y3,y4,y5) [(0,0),(1,1)]))) (.ext 1 [(0,0),(1,1)])
def nb(s:St):Option bg:=
 (match s.look 8 with
 |some ⟨none,.one ⟨false,[.val (.int .i64 y0)]⟩⟩=>
 (match s.look 7 with
 |some ⟨none,.one ⟨false,[.val (.int .i64 y1)]⟩⟩=>
 (match s.look 1 with
 |some ⟨none,.one ⟨false,[.clo 168 [1]]⟩⟩=>
 (match s.look 0 with
 |some ⟨none,.one ⟨false,[.ref 0]⟩⟩=>
 (match s.ent 1 with
 |some (.box 100 [.val (.int .i64 y2),.val (.int .i64 y3),.val (.int .i64 y4)])=>
 (match s.ent 0 with
 |some (.row false 100 (.pair (.int .i64) (.pair (.int .i64) (.int .i64))) y5)=>
 some (y0,y1,y2,y3,y4,y5)
 |_=>none)
 |_=>none)
 |_=>none)
 |_=>none)
 |_=>none)
 |_=>none)
def az:Lp bg where
 h:=⟨[9,10,5,11,12,13,14,15,16,17,4,18,8],[0,1],[],[]⟩
 JL:=Lw
 JE:=Lu
 XL:=LA
 XE:=Ly
 q:=fun j=>match j with | 0=> .ret | _=> .exit 0
 tags:= [0,1]
 lt:=eP
 fuel:=fun(y0,y1,y2,y3,y4,y5)=>y0.natAbs + y1.natAbs + y2.natAbs + y3.natAbs + y4.natAbs + y5.length
 fix:=fun(_,y1,y2,y3,y4,y5) (y0,_,_,_,_,_)=>(y0,y1,y2,y3,y4,y5)
 σ:= [(0,1),(1,0)]
 rd:=nb
theorem JG:LoopOk prog (fun k=>Nat.blt k Tryz.f216.ntmps) az.F (aK f216 0):=by
 refine Lp.ok (tbl:= [MP]) (lf:= []) aO az (by kernel_rfl) (LOk.nil _) (fun _=>rfl) (fun j _=>by unfold az;match j with | 0=>rfl | _ + 1=>rfl) ?_ ?_ ?_ ?_ (fun _=>rfl) ?_
 ·rintro⟨y0,y1,y2,y3,y4,y5⟩;kernel_rfl
 ·rintro⟨y0,y1,y2,y3,y4,y5⟩;kernel_rfl
 ·intro s x h
  have h:nb s=some x:=h
  unfold nb at h
  repeat' split at h
  all_goals cases h
  exact⟨aa (by assumption) rfl (aa (by assumption) rfl (aa (by assumption) rfl (aa (by assumption) rfl (rfl)))),ab rfl (by assumption) rfl (ab rfl (by assumption) rfl (rfl))⟩
 ·rintro⟨y0,y1,y2,y3,y4,y5⟩;kernel_rfl
 ·rintro⟨y0,y1,y2,y3,y4,y5⟩ z;exact(And.intro (And.intro trivial rfl) trivial)
section
variable (x0:List (Int×Int×Int))(x1 x2 x3:Int)
def gz:Int×Int×Int×Int×Int×List (Int×Int×Int):=((0:Int),(↑x0.length:Int),x1,x2,x3,x0)
def dO:Bool:=Nat.beq ((Lp.res az (gz x0 x1 x2 x3)).1) (0:Nat)
def kw:Int:=bif dO x0 x1 x2 x3 then ((Lp.res az (gz x0 x1 x2 x3)).2).1else(-1:Int)
def kx:Int:=bif dO x0 x1 x2 x3 then x1 else x1
def ky:Int:=bif dO x0 x1 x2 x3 then x2 else x2
def kz:Int:=bif dO x0 x1 x2 x3 then x3 else x3
def kA:Bool:=allT [Lp.fin az (gz x0 x1 x2 x3)]
end
def zD:List SV→List Entry→Option Out
 | [.one ⟨false,[.ref 0]⟩,.one ⟨false,[.clo 168 [1]]⟩],[.row false 100 (.pair (.int .i64) (.pair (.int .i64) (.int .i64))) x0,.box 100 [.val (.int .i64 x1),.val (.int .i64 x2),.val (.int .i64 x3)]]=>some ⟨.one ⟨false,[.val (.int .i64 (kw x0 x1 x2 x3))]⟩,[.row false 100 adk x0,.box 100 [.val (.int .i64 (kx x0 x1 x2 x3)),.val (.int .i64 (ky x0 x1 x2 x3)),.val (.int .i64 (kz x0 x1 x2 x3))]],[],[kA x0 x1 x2 x3]⟩
 |_,_=>none
def qv:PF prog:=PF.ofG prog [MP] [az.F] aO 216 f216 func216 (LOk.fnT (l:= [aK f216 0]) (by kernel_rfl) (.cons JG (.nil _))) zD (by
 intro vs es r h;unfold zD at h;split at h
 ·cases h;kernel_rfl
 ·cases h)
section
variable (x0:List (Int×Int×Int))(x1 x2 x3:Int)
def fl:Bool:=leI (0:Int) (kw x0 x1 x2 x3)
def nD:Int:=kx x0 x1 x2 x3
def nE:Int:=ky x0 x1 x2 x3
def nF:Int:=kz x0 x1 x2 x3
def fm:Bool:=allT [kA x0 x1 x2 x3]
end
def wc:List SV→List Entry→Option Out
 | [.one ⟨false,[.ref 0]⟩,.one ⟨false,[.clo 168 [1]]⟩],[.row false 100 (.pair (.int .i64) (.pair (.int .i64) (.int .i64))) x0,.box 100 [.val (.int .i64 x1),.val (.int .i64 x2),.val (.int .i64 x3)]]=>some ⟨.one ⟨false,[.val (.bool (fl x0 x1 x2 x3))]⟩,[.row false 100 adk x0,.box 100 [.val (.int .i64 (nD x0 x1 x2 x3)),.val (.int .i64 (nE x0 x1 x2 x3)),.val (.int .i64 (nF x0 x1 x2 x3))]],[],[fm x0 x1 x2 x3]⟩
 |_,_=>none
def de:PF prog:=PF.ofG prog [qv,PF.lend qv,PF.fz qv] [] aO 167 f167 func167 (fun c _=>LOk.nil c) wc (by
 intro vs es r h;unfold wc at h;split at h
 ·cases h;kernel_rfl
 ·cases h)
abbrev ki:=Int×Int×Int×List (Int×(Int×Int))
section
variable (y0 y1 y2:Int)(y3:List (Int×(Int×Int)))
def eU:Int×Int×Int:=Option.getD y3[Int.toNat y0]? ((0:Int),(0:Int),(0:Int))
def RA:List (Int×Int×Int):=List.drop (Int.toNat (0:Int)) (List.take y0.toNat y3)
def BX:Bool:=ltI y0 y1
def JY:Bool:=leI (0:Int) y0
def TF:Bool:=ltI y0 (↑y3.length:Int)
def TG:Bool:=ltN y0.toNat y3.length
def JZ:Bool:=bif bif !bu ((eU y0 y3).1) (0:Int) (IntKind.wrap .i64 (y2 - (1:Int)))then true else !bu (((eU y0 y3).2).1) (0:Int) (1:Int)then true else !bu ((eU y0 y3).2.2) (0:Int) (1:Int)
end
def TH:Bool:=leI (0:Int) (0:Int)
section
variable (y0:Int)(y3:List (Int×(Int×Int)))
def TI:Bool:=leI y0 (↑y3.length:Int)
def TJ:Bool:=fm (RA y0 y3) ((eU y0 y3).1) (((eU y0 y3).2).1) ((eU y0 y3).2.2)
def TK:Bool:=fl (RA y0 y3) ((eU y0 y3).1) (((eU y0 y3).2).1) ((eU y0 y3).2.2)
def TL:Int:=IntKind.wrap .i64 (y0 + (1:Int))
end
def acV:ki→List (Nat×SV)
 |(y0,y1,y2,_)=> [(9,(.one ⟨false,[.val (.int .i64 y0)]⟩)),(8,(.one ⟨false,[.val (.int .i64 y1)]⟩)),(7,(.one ⟨false,[.ref 0]⟩)),(0,(.one ⟨false,[.val (.int .i64 y2)]⟩)),(1,(.one ⟨false,[.ref 0]⟩))]
def acN:ki→List (Nat×Entry)
 |(_,_,_,y3)=> [(0,(.row false 100 adk y3))]
def adb:Nat→ki→List (Nat×SV)
 |0,(_,_,_,_)=> [(4,(.one ⟨false,[.val (.bool false)]⟩))]
 |1,(_,_,_,_)=> [(4,(.one ⟨false,[.val (.bool false)]⟩))]
 |_,(_,_,_,_)=> []
def ac3:Nat→ki→List (Nat×Entry)
 |0,(_,_,_,y3)=> [(0,(.row false 100 adk y3))]
 |1,(_,_,_,y3)=> [(0,(.row false 100 adk y3))]
 |_,(_,_,_,y3)=> [(0,(.row false 100 adk y3))]
def tE:ki→LT ki
 |(y0,y1,y2,y3)=> .ite (BX y0 y1) (.need [JY y0,TF y0 y3,TG y0 y3] (.ite (JZ y0 y2 y3) (.ext 0 [(0,0)]) (.need [TH,JY y0,TI y0 y3,TJ y0 y3] (.ite (TK y0 y3) (.ext 1 [(0,0)]) (.nrm ((TL y0),y1,y2,y3) [(0,0)]))))) (.ext 2 [(0,0)])
def IK(s:St):Option ki:=
 (match s.look 9 with
 |some ⟨none,.one ⟨false,[.val (.int .i64 y0)]⟩⟩=>
 (match s.look 8 with
 |some ⟨none,.one ⟨false,[.val (.int .i64 y1)]⟩⟩=>
 (match s.look 7 with
 |some ⟨none,.one ⟨false,[.ref 0]⟩⟩=>
 (match s.look 0 with
 |some ⟨none,.one ⟨false,[.val (.int .i64 y2)]⟩⟩=>
 (match s.look 1 with
 |some ⟨none,.one ⟨false,[.ref 0]⟩⟩=>
 (match s.ent 0 with
 |some (.row false 100 (.pair (.int .i64) (.pair (.int .i64) (.int .i64))) y3)=>
 some (y0,y1,y2,y3)
 |_=>none)
 |_=>none)
 |_=>none)
 |_=>none)
 |_=>none)
 |_=>none)
def bP:Lp ki where
 h:=⟨[10,11,12,13,6,5,14,15,16,17,18,19,20,21,22,23,24,25,26,27,28,29,30,31,4,32,33,34,35,36,37,9],[0],[],[]⟩
 JL:=acV
 JE:=acN
 XL:=adb
 XE:=ac3
 q:=fun j=>match j with | 0=> .ret | 1=> .ret | _=> .exit 0
 tags:= [0,1,2]
 lt:=tE
 fuel:=fun(y0,y1,y2,y3)=>y0.natAbs + y1.natAbs + y2.natAbs + y3.length
 fix:=fun(_,y1,y2,y3) (y0,_,_,_)=>(y0,y1,y2,y3)
 σ:= [(0,0)]
 rd:=IK
theorem aaH:LoopOk prog (fun k=>Nat.blt k Tryz.f78.ntmps) bP.F (aK f78 0):=by
 refine Lp.ok (tbl:= [il,UW,de,PF.lend de,PF.fz de]) (lf:= []) aO bP (by kernel_rfl) (LOk.nil _) (fun _=>rfl) (fun j _=>by unfold bP;match j with | 0=>rfl | 1=>rfl | _ + 2=>rfl) ?_ ?_ ?_ ?_ (fun _=>rfl) ?_
 ·rintro⟨y0,y1,y2,y3⟩;kernel_rfl
 ·rintro⟨y0,y1,y2,y3⟩;kernel_rfl
 ·intro s x h
  have h:IK s=some x:=h
  unfold IK at h
  repeat' split at h
  all_goals cases h
  exact⟨aa (by assumption) rfl (aa (by assumption) rfl (aa (by assumption) rfl (aa (by assumption) rfl (aa (by assumption) rfl (rfl))))),ab rfl (by assumption) rfl (rfl)⟩
 ·rintro⟨y0,y1,y2,y3⟩;kernel_rfl
 ·rintro⟨y0,y1,y2,y3⟩ z;exact(And.intro (And.intro trivial (And.intro trivial rfl)) trivial)
section
variable (x0:Int)(x1:List (Int×Int×Int))
def ym:Int×Int×Int×List (Int×Int×Int):=((0:Int),(↑x1.length:Int),x0,x1)
def Pc:Bool:=bif Nat.beq ((Lp.res bP (ym x0 x1)).1) (0:Nat)then false else bif Nat.beq ((Lp.res bP (ym x0 x1)).1) (1:Nat)then false else bif BZ x0 then leI (↑x1.length:Int) (8:Int)else false
def Pf:Bool:=allT [Lp.fin bP (ym x0 x1)]
end
def XJ:List SV→List Entry→Option Out
 | [.one ⟨false,[.val (.int .i64 x0)]⟩,.one ⟨false,[.ref 0]⟩],[.row false 100 (.pair (.int .i64) (.pair (.int .i64) (.int .i64))) x1]=>some ⟨.one ⟨false,[.val (.bool (Pc x0 x1))]⟩,[.row false 100 adk x1],[],[Pf x0 x1]⟩
 |_,_=>none
def aiO:PF prog:=PF.ofG prog [il,UW,de,PF.lend de,PF.fz de] [bP.F] aO 78 f78 func78 (LOk.fnT (l:= [aK f78 0]) (by kernel_rfl) (.cons aaH (.nil _))) XJ (by
 intro vs es r h;unfold XJ at h;split at h
 ·cases h;kernel_rfl
 ·cases h)
def Xx(x0:Int):Bool:=bu x0 (0:Int) (5:Int)
def akp:List SV→List Entry→Option Out
 | [.one ⟨false,[.val (.int .i64 x0)]⟩],[]=>some ⟨.one ⟨false,[.val (.bool (Xx x0))]⟩,[],[],[]⟩
 |_,_=>none
def akR:PF prog:=PF.ofG prog [il] [] aO 80 f80 func80 (fun c _=>LOk.nil c) akp (by
 intro vs es r h;unfold akp at h;split at h
 ·cases h;kernel_rfl
 ·cases h)
def zK(x0:Int):Bool:=bu x0 (0:Int) (100000:Int)
def al2:List SV→List Entry→Option Out
 | [.one ⟨false,[.val (.int .i64 x0)]⟩],[]=>some ⟨.one ⟨false,[.val (.bool (zK x0))]⟩,[],[],[]⟩
 |_,_=>none
def UV:PF prog:=PF.ofG prog [il] [] aO 83 f83 func83 (fun c _=>LOk.nil c) al2 (by
 intro vs es r h;unfold al2 at h;split at h
 ·cases h;kernel_rfl
 ·cases h)
def apj(x0 x1:Int):Bool:=bif !bu x0 (1:Int) (366:Int)then true else !zK x1
def af0:List SV→List Entry→Option Out
 | [.one ⟨true,[.val (.int .i64 x0),.val (.int .i64 x1)]⟩],[]=>some ⟨.one ⟨false,[.val (.bool (apj x0 x1))]⟩,[],[],[]⟩
 |_,_=>none
def apt:PF prog:=PF.ofG prog [il,UV] [] aO 170 f170 func170 (fun c _=>LOk.nil c) af0 (by
 intro vs es r h;unfold af0 at h;split at h
 ·cases h;kernel_rfl
 ·cases h)
def Gu(x0 x1:Int):Bool:=bif !bu x0 (1:Int) (366:Int)then true else !zK x1
def Wl:List SV→List Entry→Option Out
 | [.one ⟨true,[.val (.int .i64 x0),.val (.int .i64 x1)]⟩],[]=>some ⟨.one ⟨false,[.val (.bool (Gu x0 x1))]⟩,[],[],[]⟩
 |_,_=>none
def Wp:PF prog:=PF.ofG prog [il,UV] [] aO 170 f170 func170 (fun c _=>LOk.nil c) Wl (by
 intro vs es r h;unfold Wl at h;split at h
 ·cases h;kernel_rfl
 ·cases h)
abbrev bC:=Int×Int×List (Int×Int)
section
variable (y0 y1:Int)(y2:List (Int×Int))
def eK:Int×Int:=Option.getD y2[Int.toNat y0]? ((0:Int),(0:Int))
def iG:Bool:=ltI y0 y1
def iH:Bool:=leI (0:Int) y0
def iI:Bool:=ltI y0 (↑y2.length:Int)
def iJ:Bool:=ltN y0.toNat y2.length
def iK:Bool:=Gu ((eK y0 y2).1) ((eK y0 y2).2)
def iL:Int:=IntKind.wrap .i64 (y0 + (1:Int))
end
def OR:bC→List (Nat×SV)
 |(y0,y1,_)=> [(8,(.one ⟨false,[.val (.int .i64 y0)]⟩)),(7,(.one ⟨false,[.val (.int .i64 y1)]⟩)),(1,(.one ⟨false,[.val (.func (.func 170) ⟨[]⟩ ⟨[]⟩)]⟩)),(0,(.one ⟨false,[.ref 0]⟩))]
def OQ:bC→List (Nat×Entry)
 |(_,_,y2)=> [(0,(.row false 173 aiq y2))]
def OU:Nat→bC→List (Nat×SV)
 |0,(y0,_,_)=> [(4,(.one ⟨false,[.val (.int .i64 y0)]⟩))]
 |_,(_,_,_)=> []
def OT:Nat→bC→List (Nat×Entry)
 |0,(_,_,y2)=> [(0,(.row false 173 aiq y2))]
 |_,(_,_,y2)=> [(0,(.row false 173 aiq y2))]
def ip:bC→LT bC
 |(y0,y1,y2)=> .ite (iG y0 y1) (.need [iH y0,iI y0 y2,iJ y0 y2] (.ite (iK y0 y2) (.ext 0 [(0,0)]) (.nrm ((iL y0),y1,y2) [(0,0)]))) (.ext 1 [(0,0)])
def qZ(s:St):Option bC:=
 (match s.look 8 with
 |some ⟨none,.one ⟨false,[.val (.int .i64 y0)]⟩⟩=>
 (match s.look 7 with
 |some ⟨none,.one ⟨false,[.val (.int .i64 y1)]⟩⟩=>
 (match s.look 1 with
 |some ⟨none,.one ⟨false,[.val (.func (.func 170) ⟨[]⟩ ⟨[]⟩)]⟩⟩=>
 (match s.look 0 with
 |some ⟨none,.one ⟨false,[.ref 0]⟩⟩=>
 (match s.ent 0 with
 |some (.row false 173 (.pair (.int .i64) (.int .i64)) y2)=>
 some (y0,y1,y2)
 |_=>none)
 |_=>none)
 |_=>none)
 |_=>none)
 |_=>none)
def aI:Lp bC where
 h:=⟨[9,10,5,11,12,13,14,15,16,17,4,18,8],[0],[],[]⟩
 JL:=OR
 JE:=OQ
 XL:=OU
 XE:=OT
 q:=fun j=>match j with | 0=> .ret | _=> .exit 0
 tags:= [0,1]
 lt:=ip
 fuel:=fun(y0,y1,y2)=>y0.natAbs + y1.natAbs + y2.length
 fix:=fun(_,y1,y2) (y0,_,_)=>(y0,y1,y2)
 σ:= [(0,0)]
 rd:=qZ
theorem Nx:LoopOk prog (fun k=>Nat.blt k Tryz.f217.ntmps) aI.F (aK f217 0):=by
 refine Lp.ok (tbl:= [Wp]) (lf:= []) aO aI (by kernel_rfl) (LOk.nil _) (fun _=>rfl) (fun j _=>by unfold aI;match j with | 0=>rfl | _ + 1=>rfl) ?_ ?_ ?_ ?_ (fun _=>rfl) ?_
 ·rintro⟨y0,y1,y2⟩;kernel_rfl
 ·rintro⟨y0,y1,y2⟩;kernel_rfl
 ·intro s x h
  have h:qZ s=some x:=h
  unfold qZ at h
  repeat' split at h
  all_goals cases h
  exact⟨aa (by assumption) rfl (aa (by assumption) rfl (aa (by assumption) rfl (aa (by assumption) rfl (rfl)))),ab rfl (by assumption) rfl (rfl)⟩
 ·rintro⟨y0,y1,y2⟩;kernel_rfl
 ·rintro⟨y0,y1,y2⟩ z;exact(And.intro (And.intro trivial rfl) trivial)
section
variable (x0:List (Int×Int))
def mQ:Int×Int×List (Int×Int):=((0:Int),(↑x0.length:Int),x0)
def uk:Int:=bif Nat.beq ((Lp.res aI (mQ x0)).1) (0:Nat)then ((Lp.res aI (mQ x0)).2).1else(-1:Int)
def ul:Bool:=allT [Lp.fin aI (mQ x0)]
end
def EJ:List SV→List Entry→Option Out
 | [.one ⟨false,[.ref 0]⟩,.one ⟨false,[.val (.func (.func 170) ⟨[]⟩ ⟨[]⟩)]⟩],[.row false 173 (.pair (.int .i64) (.int .i64)) x0]=>some ⟨.one ⟨false,[.val (.int .i64 (uk x0))]⟩,[.row false 173 aiq x0],[],[ul x0]⟩
 |_,_=>none
def uj:PF prog:=PF.ofG prog [Wp] [aI.F] aO 217 f217 func217 (LOk.fnT (l:= [aK f217 0]) (by kernel_rfl) (.cons Nx (.nil _))) EJ (by
 intro vs es r h;unfold EJ at h;split at h
 ·cases h;kernel_rfl
 ·cases h)
def si(x0:List (Int×Int)):Bool:=leI (0:Int) (uk x0)
def sj(x0:List (Int×Int)):Bool:=allT [ul x0]
def BV:List SV→List Entry→Option Out
 | [.one ⟨false,[.ref 0]⟩,.one ⟨false,[.val (.func (.func 170) ⟨[]⟩ ⟨[]⟩)]⟩],[.row false 173 (.pair (.int .i64) (.int .i64)) x0]=>some ⟨.one ⟨false,[.val (.bool (si x0))]⟩,[.row false 173 aiq x0],[],[sj x0]⟩
 |_,_=>none
def se:PF prog:=PF.ofG prog [uj,PF.lend uj,PF.fz uj] [] aO 169 f169 func169 (fun c _=>LOk.nil c) BV (by
 intro vs es r h;unfold BV at h;split at h
 ·cases h;kernel_rfl
 ·cases h)
section
variable (x0:List (Int×Int))
def aav:Bool:=leI (↑x0.length:Int) (12:Int)
def adl:Bool:=bif aav x0 then !si x0 else false
def adm:Bool:=allT [!(aav x0&&true)||sj x0]
end
def akm:List SV→List Entry→Option Out
 | [.one ⟨false,[.ref 0]⟩],[.row false 173 (.pair (.int .i64) (.int .i64)) x0]=>some ⟨.one ⟨false,[.val (.bool (adl x0))]⟩,[.row false 173 aiq x0],[],[adm x0]⟩
 |_,_=>none
def arp:PF prog:=PF.ofG prog [apt,se,PF.lend se,PF.fz se] [] aO 81 f81 func81 (fun c _=>LOk.nil c) akm (by
 intro vs es r h;unfold akm at h;split at h
 ·cases h;kernel_rfl
 ·cases h)
def Xw(x0 x1:Int):Bool:=bif bu x0 (0:Int) (23:Int)then bu x1 (1:Int) (999:Int)else false
def ako:List SV→List Entry→Option Out
 | [.one ⟨true,[.val (.int .i64 x0),.val (.int .i64 x1)]⟩],[]=>some ⟨.one ⟨false,[.val (.bool (Xw x0 x1))]⟩,[],[],[]⟩
 |_,_=>none
def akQ:PF prog:=PF.ofG prog [il] [] aO 171 f171 func171 (fun c _=>LOk.nil c) ako (by
 intro vs es r h;unfold ako at h;split at h
 ·cases h;kernel_rfl
 ·cases h)
abbrev dm:=Int×Int×Int×Int×List (Int×Int)
section
variable (y0 y1 y2 y3:Int)(y4:List (Int×Int))
def kC:Int×Int:=Option.getD y4[Int.toNat y0]? ((0:Int),(0:Int))
def pN:Bool:=ltI y0 y1
def pO:Bool:=leI (0:Int) y0
def pP:Bool:=ltI y0 (↑y4.length:Int)
def pQ:Bool:=ltN y0.toNat y4.length
def pR:Bool:=bif y2==(kC y0 y4).1then bif y3==(kC y0 y4).2then true else false else false
def pS:Int:=IntKind.wrap .i64 (y0 + (1:Int))
end
def Yv:dm→List (Nat×SV)
 |(y0,y1,_,_,_)=> [(8,(.one ⟨false,[.val (.int .i64 y0)]⟩)),(7,(.one ⟨false,[.val (.int .i64 y1)]⟩)),(3,(.one ⟨false,[.ptr 0 0]⟩)),(0,(.one ⟨false,[.ref 1]⟩))]
def Yt:dm→List (Nat×Entry)
 |(_,_,y2,y3,y4)=> [(0,(.box 176 [.val (.int .i64 y2),.val (.int .i64 y3)])),(1,(.row false 176 aiq y4))]
def Yz:Nat→dm→List (Nat×SV)
 |0,(y0,_,_,_,_)=> [(4,(.one ⟨false,[.val (.int .i64 y0)]⟩))]
 |_,(_,_,_,_,_)=> []
def Yx:Nat→dm→List (Nat×Entry)
 |0,(_,_,y2,y3,y4)=> [(0,(.box 176 [.val (.int .i64 y2),.val (.int .i64 y3)])),(1,(.row false 176 aiq y4))]
 |_,(_,_,y2,y3,y4)=> [(0,(.box 176 [.val (.int .i64 y2),.val (.int .i64 y3)])),(1,(.row false 176 aiq y4))]
def nZ:dm→LT dm
 |(y0,y1,y2,y3,y4)=> .ite (pN y0 y1) (.need [pO y0,pP y0 y4,pQ y0 y4] (.ite (pR y0 y2 y3 y4) (.ext 0 [(0,0),(1,1)]) (.nrm ((pS y0),y1,y2,y3,y4) [(0,0),(1,1)]))) (.ext 1 [(0,0),(1,1)])
def CG(s:St):Option dm:=
 (match s.look 8 with
 |some ⟨none,.one ⟨false,[.val (.int .i64 y0)]⟩⟩=>
 (match s.look 7 with
 |some ⟨none,.one ⟨false,[.val (.int .i64 y1)]⟩⟩=>
 (match s.look 3 with
 |some ⟨none,.one ⟨false,[.ptr 128 0]⟩⟩=>
 (match s.look 0 with
 |some ⟨none,.one ⟨false,[.ref 0]⟩⟩=>
 (match s.ent 128 with
 |some (.box 176 [.val (.int .i64 y2),.val (.int .i64 y3)])=>
 (match s.ent 0 with
 |some (.row false 176 (.pair (.int .i64) (.int .i64)) y4)=>
 some (y0,y1,y2,y3,y4)
 |_=>none)
 |_=>none)
 |_=>none)
 |_=>none)
 |_=>none)
 |_=>none)
def bn:Lp dm where
 h:=⟨[9,10,5,11,12,13,14,15,16,17,4,18,8],[0,1],[],[]⟩
 JL:=Yv
 JE:=Yt
 XL:=Yz
 XE:=Yx
 q:=fun j=>match j with | 0=> .ret | _=> .exit 0
 tags:= [0,1]
 lt:=nZ
 fuel:=fun(y0,y1,y2,y3,y4)=>y0.natAbs + y1.natAbs + y2.natAbs + y3.natAbs + y4.length
 fix:=fun(_,y1,y2,y3,y4) (y0,_,_,_,_)=>(y0,y1,y2,y3,y4)
 σ:= [(0,128),(1,0)]
 rd:=CG
theorem Xd:LoopOk prog (fun k=>Nat.blt k Tryz.f218.ntmps) bn.F (aK f218 0):=by
 refine Lp.ok (tbl:= []) (lf:= []) aO bn (by kernel_rfl) (LOk.nil _) (fun _=>rfl) (fun j _=>by unfold bn;match j with | 0=>rfl | _ + 1=>rfl) ?_ ?_ ?_ ?_ (fun _=>rfl) ?_
 ·rintro⟨y0,y1,y2,y3,y4⟩;kernel_rfl
 ·rintro⟨y0,y1,y2,y3,y4⟩;kernel_rfl
 ·intro s x h
  have h:CG s=some x:=h
  unfold CG at h
  repeat' split at h
  all_goals cases h
  exact⟨aa (by assumption) rfl (aa (by assumption) rfl (aa (by assumption) rfl (aa (by assumption) rfl (rfl)))),ab rfl (by assumption) rfl (ab rfl (by assumption) rfl (rfl))⟩
 ·rintro⟨y0,y1,y2,y3,y4⟩;kernel_rfl
 ·rintro⟨y0,y1,y2,y3,y4⟩ z;exact(And.intro (And.intro trivial rfl) trivial)
section
variable (x0 x1:Int)(x2:List (Int×Int))
def yc:Int×Int×Int×Int×List (Int×Int):=((0:Int),(↑x2.length:Int),x0,x1,x2)
def IV:Int:=bif Nat.beq ((Lp.res bn (yc x0 x1 x2)).1) (0:Nat)then ((Lp.res bn (yc x0 x1 x2)).2).1else(-1:Int)
def IW:Bool:=allT [Lp.fin bn (yc x0 x1 x2)]
end
def Rv:List SV→List Entry→Option Out
 | [.one ⟨false,[.ref 0]⟩,.one ⟨true,[.val (.int .i64 x0),.val (.int .i64 x1)]⟩],[.row false 176 (.pair (.int .i64) (.int .i64)) x2]=>some ⟨.one ⟨false,[.val (.int .i64 (IV x0 x1 x2))]⟩,[.row false 176 aiq x2],[],[IW x0 x1 x2]⟩
 |_,_=>none
def IH:PF prog:=PF.ofG prog [] [bn.F] aO 218 f218 func218 (LOk.fnT (l:= [aK f218 0]) (by kernel_rfl) (.cons Xd (.nil _))) Rv (by
 intro vs es r h;unfold Rv at h;split at h
 ·cases h;kernel_rfl
 ·cases h)
def pM(x0 x1:Int)(x2:List (Int×Int)):Bool:=leI (0:Int) (IV x0 x1 x2)
def vN(x0 x1:Int)(x2:List (Int×Int)):Bool:=allT [IW x0 x1 x2]
def Oa:List SV→List Entry→Option Out
 | [.one ⟨false,[.ref 0]⟩,.one ⟨true,[.val (.int .i64 x0),.val (.int .i64 x1)]⟩],[.row false 176 (.pair (.int .i64) (.int .i64)) x2]=>some ⟨.one ⟨false,[.val (.bool (pM x0 x1 x2))]⟩,[.row false 176 aiq x2],[],[vN x0 x1 x2]⟩
 |_,_=>none
def lK:PF prog:=PF.ofG prog [IH,PF.lend IH,PF.fz IH] [] aO 172 f172 func172 (fun c _=>LOk.nil c) Oa (by
 intro vs es r h;unfold Oa at h;split at h
 ·cases h;kernel_rfl
 ·cases h)
abbrev qK:=Int×Int×List (Int×Int)
section
variable (y0 y1:Int)(y2:List (Int×Int))
def oJ:Int×Int:=Option.getD y2[Int.toNat y0]? ((0:Int),(0:Int))
def oK:Bool:= !Xw ((oJ y0 y2).1) ((oJ y0 y2).2)
def JI:List (Int×Int):=bif !oK y0 y2&&true then List.drop (Int.toNat (0:Int)) (List.take y0.toNat y2)else []
def LN:Bool:=ltI y0 y1
def aam:Bool:=leI (0:Int) y0
def aan:Bool:=ltI y0 (↑y2.length:Int)
def aao:Bool:=ltN y0.toNat y2.length
def aap:Bool:= !(!oK y0 y2&&true)||leI (0:Int) (0:Int)
def aaq:Bool:= !(!oK y0 y2&&true)||leI (0:Int) y0
def aar:Bool:= !(!oK y0 y2&&true)||leI y0 (↑y2.length:Int)
def aas:Bool:= !(!oK y0 y2&&true)||vN ((oJ y0 y2).1) ((oJ y0 y2).2) (JI y0 y2)
def aat:Bool:=bif oK y0 y2 then true else pM ((oJ y0 y2).1) ((oJ y0 y2).2) (JI y0 y2)
def aau:Int:=IntKind.wrap .i64 (y0 + (1:Int))
end
def ajF:qK→List (Nat×SV)
 |(y0,y1,_)=> [(7,(.one ⟨false,[.val (.int .i64 y0)]⟩)),(6,(.one ⟨false,[.val (.int .i64 y1)]⟩)),(5,(.one ⟨false,[.ref 0]⟩)),(0,(.one ⟨false,[.ref 0]⟩))]
def ajw:qK→List (Nat×Entry)
 |(_,_,y2)=> [(0,(.row false 176 aiq y2))]
def ajY:Nat→qK→List (Nat×SV)
 |0,(_,_,_)=> [(2,(.one ⟨false,[.val (.bool false)]⟩))]
 |_,(_,_,_)=> []
def ajP:Nat→qK→List (Nat×Entry)
 |0,(_,_,y2)=> [(0,(.row false 176 aiq y2))]
 |_,(_,_,y2)=> [(0,(.row false 176 aiq y2))]
def Da:qK→LT qK
 |(y0,y1,y2)=> .ite (LN y0 y1) (.need [aam y0,aan y0 y2,aao y0 y2] (.need [aap y0 y2,aaq y0 y2,aar y0 y2,aas y0 y2] (.ite (aat y0 y2) (.ext 0 [(0,0)]) (.nrm ((aau y0),y1,y2) [(0,0)])))) (.ext 1 [(0,0)])
def QY(s:St):Option qK:=
 (match s.look 7 with
 |some ⟨none,.one ⟨false,[.val (.int .i64 y0)]⟩⟩=>
 (match s.look 6 with
 |some ⟨none,.one ⟨false,[.val (.int .i64 y1)]⟩⟩=>
 (match s.look 5 with
 |some ⟨none,.one ⟨false,[.ref 0]⟩⟩=>
 (match s.look 0 with
 |some ⟨none,.one ⟨false,[.ref 0]⟩⟩=>
 (match s.ent 0 with
 |some (.row false 176 (.pair (.int .i64) (.int .i64)) y2)=>
 some (y0,y1,y2)
 |_=>none)
 |_=>none)
 |_=>none)
 |_=>none)
 |_=>none)
def ep:Lp qK where
 h:=⟨[8,9,10,11,4,3,12,13,14,15,16,17,18,19,20,21,2,22,7],[0],[],[]⟩
 JL:=ajF
 JE:=ajw
 XL:=ajY
 XE:=ajP
 q:=fun j=>match j with | 0=> .ret | _=> .exit 0
 tags:= [0,1]
 lt:=Da
 fuel:=fun(y0,y1,y2)=>y0.natAbs + y1.natAbs + y2.length
 fix:=fun(_,y1,y2) (y0,_,_)=>(y0,y1,y2)
 σ:= [(0,0)]
 rd:=QY
theorem ahc:LoopOk prog (fun k=>Nat.blt k Tryz.f82.ntmps) ep.F (aK f82 0):=by
 refine Lp.ok (tbl:= [akQ,lK,PF.lend lK,PF.fz lK]) (lf:= []) aO ep (by kernel_rfl) (LOk.nil _) (fun _=>rfl) (fun j _=>by unfold ep;match j with | 0=>rfl | _ + 1=>rfl) ?_ ?_ ?_ ?_ (fun _=>rfl) ?_
 ·rintro⟨y0,y1,y2⟩;kernel_rfl
 ·rintro⟨y0,y1,y2⟩;kernel_rfl
 ·intro s x h
  have h:QY s=some x:=h
  unfold QY at h
  repeat' split at h
  all_goals cases h
  exact⟨aa (by assumption) rfl (aa (by assumption) rfl (aa (by assumption) rfl (aa (by assumption) rfl (rfl)))),ab rfl (by assumption) rfl (rfl)⟩
 ·rintro⟨y0,y1,y2⟩;kernel_rfl
 ·rintro⟨y0,y1,y2⟩ z;exact(And.intro (And.intro trivial rfl) trivial)
section
variable (x0:List (Int×Int))
def WS:Int×Int×List (Int×Int):=((0:Int),(↑x0.length:Int),x0)
def YD:Bool:=bif Nat.beq ((Lp.res ep (WS x0)).1) (0:Nat)then false else leI (↑x0.length:Int) (8:Int)
def YE:Bool:=allT [Lp.fin ep (WS x0)]
end
def afZ:List SV→List Entry→Option Out
 | [.one ⟨false,[.ref 0]⟩],[.row false 176 (.pair (.int .i64) (.int .i64)) x0]=>some ⟨.one ⟨false,[.val (.bool (YD x0))]⟩,[.row false 176 aiq x0],[],[YE x0]⟩
 |_,_=>none
def aps:PF prog:=PF.ofG prog [akQ,lK,PF.lend lK,PF.fz lK] [ep.F] aO 82 f82 func82 (LOk.fnT (l:= [aK f82 0]) (by kernel_rfl) (.cons ahc (.nil _))) afZ (by
 intro vs es r h;unfold afZ at h;split at h
 ·cases h;kernel_rfl
 ·cases h)
def avT(x:Int)(l:List Int):Bool:=l.any fun v=>v==x
def Zi(v:Int):List (Int×Int×Int)→List Int→Bool
 | [],_=>true
 |f::r,a=>bif f.2.2==v then !avT f.1 a&&Zi v r (a++ [f.1])else Zi v r a
theorem anz(v:Int): ∀ (fs:List (Int×Int×Int)) (a:List Int),Zi v fs a=true↔
  (∀ f∈fs,f.2.2=v→f.1∉a)∧fs.Pairwise (fun f g=>f.2.2=v→g.2.2=v→f.1≠g.1)
 | [],a=>by simp [Zi]
 |f::fs,a=>by
  simp only [Zi,List.pairwise_cons]
  cases hz:f.2.2==v with
  |false=>
   have Sg:f.2.2≠v:=by simpa using hz
   rw [cond_false,anz v fs a]
   constructor
   ·rintro⟨h1,h2⟩
    exact⟨fun g hg h=>by
     rcases List.mem_cons.1 hg with rfl | hg
     ·exact absurd h Sg
     ·exact h1 g hg h,fun g _ h=>absurd h Sg,h2⟩
   ·rintro⟨h1,_,h2⟩
    exact⟨fun g hg h=>h1 g (by simp [hg]) h,h2⟩
  |true=>
   have he:f.2.2=v:=by simpa using hz
   rw [cond_true,Bool.and_eq_true,anz v fs (a++ [f.1])]
   have hh:(!avT f.1 a)=true↔f.1∉a:=by
    simp only [avT,Bool.not_eq_true',List.any_eq_false,beq_iff_eq]
    exact⟨fun h hm=>h _ hm rfl,fun h x hx e=>h (e ▸ hx)⟩
   rw [hh]
   constructor
   ·rintro⟨h0,h1,h2⟩
    refine⟨fun g hg h=> ?_,fun g hg _ h e=>h1 g hg h (by simp [e]),h2⟩
    rcases List.mem_cons.1 hg with rfl | hg
    ·exact h0
    ·exact fun hm=>h1 g hg h (by simp [hm])
   ·rintro⟨h1,h2,h3⟩
    refine⟨h1 f (by simp) he,fun g hg h hm=> ?_,h3⟩
    rcases List.mem_append.1 hm with hm | hm
    ·exact h1 g (by simp [hg]) h hm
    ·simp at hm;exact h2 g hg he h hm.symm
def areR(st:List Int):Bool:=inR (st.length:Int) 1 12&&st.all fun v=>inR v 0 2
def rowsR(rs:List (List Int)):Int:=((rs[0]?.getD []).length:Int)
def rsOk(rs:List (List Int)):Bool:=rs.all fun st=>areR st&&((st.length:Int)==rowsR rs)
def lfOk(n:Int)(lf:List (Int×Int×Int)):Bool:=inR n 1 12&&okFs n lf
def aqR(t:Int×Int):Bool:=inR t.1 1 366&&inR t.2 0 100000
def okPl(pl:List (Int×Int)):Bool:=leN pl.length 12&&pl.all aqR
def axC(x:Int×Int):Bool:=inR x.1 0 23&&inR x.2 1 999
def YS(ls:List (Int×Int))(b:Nat):Int×Int:=ls[b]?.getD (0,0)
def Nw(x y:Int×Int):Bool:=y.1==x.1&&y.2==x.2
def RD(ls:List (Int×Int))(b:Nat):Bool:= !axC (YS ls b)
def aiw(ls:List (Int×Int))(b:Nat):Bool:=(ls.take b).any (Nw (YS ls b))
def okLk(ls:List (Int×Int)):Bool:=leN ls.length 8&&(List.range ls.length).all fun b=> !(RD ls b||aiw ls b)
def kO(n:Int)(ps:List Int)(fs:List (Int×Int×Int))(rs:List (List Int))(lf:List (Int×Int×Int))(mode:Int)(pl ls:List (Int×Int))(day:Int):Bool:=isT n ps&&(okFs n fs&&(decide (rs.length=ps.length)&&(rsOk rs&&(lfOk (rowsR rs) lf&&(inR mode 0 5&&(okPl pl&&(okLk ls&&inR day 0 100000)))))))
theorem ap5{C:Type}{P:C→Bool}: ∀ (l:List C) (i:Nat) (hi:i < l.length),P l[i]=true→((l.takeWhile fun x=> !P x).length=i↔(l.take i).any P=false)
 | [],i,hi,_=>by simp at hi
 |a::r,0,hi,h=>by
  have h:P a=true:=h
  simp [List.takeWhile_cons,h]
 |a::r,i + 1,hi,h=>by
  have hi':i < r.length:=by simpa using hi
  have h':P r[i]=true:=h
  have ih:=ap5 r i hi' h'
  rw [List.take_succ_cons,List.any_cons,List.takeWhile_cons]
  cases ha:P a with
  |true=>simp
  |false=>
   simp only [Bool.not_false,if_true,List.length_cons,Bool.false_or]
   rw [← ih];omega
theorem an6: ∀ (xs:List Int) (m:Int),0≤m→m≤2→(∀ x∈xs,0≤x∧x≤2)→((xs.foldl (fun m b=>bif ltI b m then b else m) m)==2)=(m==2&&xs.all fun x=>x==2)
 | [],m,_,_,_=>by simp
 |x::xs,m,h0,h1,h=>by
  have hx:=h x (by simp)
  rw [List.foldl_cons,List.all_cons]
  cases hl:ltI x m with
  |true=>
   have:=Xz.1 hl
   rw [cond_true,an6 xs x hx.1 hx.2 fun y hy=>h y (by simp [hy])]
   have hm:(x==2)=false:=by simp;omega
   simp [hm]
  |false=>
   have:=XA.1 hl
   rw [cond_false,an6 xs m h0 h1 fun y hy=>h y (by simp [hy])]
   by_cases hm:m=2
   ·have hx2:x=2:=by omega
    subst hm;subst hx2;simp
   ·have:(m==2)=false:=by simpa using hm
    simp [this]
def ayj(m:Nat)(rs:List (List Int)):Bool:=leN rs.length m&&rs.all fun x=>leN x.length m
theorem avc{m:Nat}{rs:List (List Int)}:ayj m rs=true↔rs.length≤m∧ ∀ x∈rs,x.length≤m:=by
 simp only [ayj,Bool.and_eq_true,dT,List.all_eq_true]
def qA(b:Int):(Unit)→Nat ⊕ (Unit)
 |_=>(bif(!aZ b (0:Int) (2:Int))then(.inl 0)else(.inr ()))
def lF(y1:List Int)(i:Nat):(Unit)→ge
 |_=>((i:Int),y1)
def IJ:ge→Unit
 |(_,_)=>()
theorem afe(y1:List Int) (hn:y1.length≤9223372036854775807):
  bZ.fin ((0:Int),y1)=true∧bZ.res ((0:Int),y1)=((aN (qA) 1 y1 0 ()).1,(lF y1) (aN (qA) 1 y1 0 ()).2.1 (aN (qA) 1 y1 0 ()).2.2):=by
 have cH:=bZ.along (lF y1) IJ (qA) 1 (fun _ _=>True) y1 () (by trivial) (by simp only [bZ,lF];omega) (fun i b a hb hI=> ?_) (fun a hI=> ?_)
 ·exact cH
 ·obtain⟨⟩:=a
  have dd:=(List.getElem?_eq_some_iff.1 hb).1
  have gc: ∀ d,Option.getD y1[i]? d=b:=fun d=>by rw [hb];rfl
  have hw:=tQ dd hn
  have bW:ltI (i:Int) (y1.length:Int)=true:=du (by omega)
  have pY:leI (0:Int) (i:Int)=true:=ct (by omega)
  have dw:ltN i y1.length=true:=ec dd
  refine⟨?_,?_,?_,?_⟩
  ·simp [qF,ve,vf,vg,vh,tH,bZ,LT.nds,allT,lF,bW,pY,dw,gc]
  ·simp [qF,ve,vf,vg,vh,tH,bZ,LT.each,lF,IJ,hw]
  ·simp only [qF,ve,vf,vg,vh,tH,bZ,LT.fn,lF,IJ,qA,Int.toNat_natCast,bW,pY,dw,gc,cond_true,Bool.cond_self]
  ·exact fun _ _=>trivial
 ·obtain⟨⟩:=a
  simp [qF,ve,vf,vg,vh,tH,bZ,LT.out,lF]
def dU(b:Int):(Unit)→Nat ⊕ (Unit)
 |_=>(bif(tU b)then(.inl 0)else(.inr ()))
def bU(y2:List Int)(i:Nat):(Unit)→br
 |_=>((i:Int),(↑y2.length:Int),y2)
def pj:br→Unit
 |(_,_,_)=>()
theorem OI(y2:List Int) (hn:y2.length≤9223372036854775807):
  aE.fin ((0:Int),(↑y2.length:Int),y2)=true∧aE.res ((0:Int),(↑y2.length:Int),y2)=((aN (dU) 1 y2 0 ()).1,(bU y2) (aN (dU) 1 y2 0 ()).2.1 (aN (dU) 1 y2 0 ()).2.2):=by
 have cH:=aE.along (bU y2) pj (dU) 1 (fun _ _=>True) y2 () (by trivial) (by simp only [aE,bU];omega) (fun i b a hb hI=> ?_) (fun a hI=> ?_)
 ·exact cH
 ·obtain⟨⟩:=a
  have dd:=(List.getElem?_eq_some_iff.1 hb).1
  have gc: ∀ d,Option.getD y2[i]? d=b:=fun d=>by rw [hb];rfl
  have hw:=tQ dd hn
  have bW:ltI (i:Int) (y2.length:Int)=true:=du (by omega)
  have pY:leI (0:Int) (i:Int)=true:=ct (by omega)
  have dw:ltN i y2.length=true:=ec dd
  refine⟨?_,?_,?_,?_⟩
  ·simp [gP,gQ,gR,gS,gT,gU,gx,aE,LT.nds,allT,bU,bW,pY,dw,gc]
  ·simp [gP,gQ,gR,gS,gT,gU,gx,aE,LT.each,bU,pj,hw]
  ·simp only [gP,gQ,gR,gS,gT,gU,gx,aE,LT.fn,bU,pj,dU,Int.toNat_natCast,bW,pY,dw,gc,cond_true,Bool.cond_self]
  ·exact fun _ _=>trivial
 ·obtain⟨⟩:=a
  simp [gP,gQ,gR,gS,gT,gU,gx,aE,LT.out,bU]
def Ec(b:Int×Int):(Unit)→Nat ⊕ (Unit)
 |_=>(bif(bif(!aZ b.1 (1:Int) (366:Int))then true else !aZ b.2 (0:Int) (100000:Int))then(.inl 0)else(.inr ()))
def xu(y1:List (Int×Int))(i:Nat):(Unit)→om
 |_=>((i:Int),y1)
def Vc:om→Unit
 |(_,_)=>()
theorem aoC(y1:List (Int×Int)) (hn:y1.length≤9223372036854775807):
  gE.fin ((0:Int),y1)=true∧gE.res ((0:Int),y1)=((aN (Ec) 1 y1 0 ()).1,(xu y1) (aN (Ec) 1 y1 0 ()).2.1 (aN (Ec) 1 y1 0 ()).2.2):=by
 have cH:=gE.along (xu y1) Vc (Ec) 1 (fun _ _=>True) y1 () (by trivial) (by simp only [gE,xu];omega) (fun i b a hb hI=> ?_) (fun a hI=> ?_)
 ·exact cH
 ·obtain⟨⟩:=a
  have dd:=(List.getElem?_eq_some_iff.1 hb).1
  have gc: ∀ d,Option.getD y1[i]? d=b:=fun d=>by rw [hb];rfl
  have hw:=tQ dd hn
  have bW:ltI (i:Int) (y1.length:Int)=true:=du (by omega)
  have pY:leI (0:Int) (i:Int)=true:=ct (by omega)
  have dw:ltN i y1.length=true:=ec dd
  refine⟨?_,?_,?_,?_⟩
  ·simp [Cd,sZ,Eo,Ku,Kv,Kw,Kx,Ky,Kz,KA,Hx,gE,LT.nds,allT,xu,bW,pY,dw,gc]
  ·simp [Cd,sZ,Eo,Ku,Kv,Kw,Kx,Ky,Kz,KA,Hx,gE,LT.each,xu,Vc,hw]
  ·simp only [Cd,sZ,Eo,Ku,Kv,Kw,Kx,Ky,Kz,KA,Hx,gE,LT.fn,xu,Vc,Ec,Int.toNat_natCast,bW,pY,dw,gc,cond_true,Bool.cond_self]
  ·exact fun _ _=>trivial
 ·obtain⟨⟩:=a
  simp [Cd,sZ,Eo,Ku,Kv,Kw,Kx,Ky,Kz,KA,Hx,gE,LT.out,xu]
def eQ(b:Int×Int):(Unit)→Nat ⊕ (Unit)
 |_=>(bif(Gu b.1 b.2)then(.inl 0)else(.inr ()))
def cd(y2:List (Int×Int))(i:Nat):(Unit)→bC
 |_=>((i:Int),(↑y2.length:Int),y2)
def qY:bC→Unit
 |(_,_,_)=>()
theorem QN(y2:List (Int×Int)) (hn:y2.length≤9223372036854775807):
  aI.fin ((0:Int),(↑y2.length:Int),y2)=true∧aI.res ((0:Int),(↑y2.length:Int),y2)=((aN (eQ) 1 y2 0 ()).1,(cd y2) (aN (eQ) 1 y2 0 ()).2.1 (aN (eQ) 1 y2 0 ()).2.2):=by
 have cH:=aI.along (cd y2) qY (eQ) 1 (fun _ _=>True) y2 () (by trivial) (by simp only [aI,cd];omega) (fun i b a hb hI=> ?_) (fun a hI=> ?_)
 ·exact cH
 ·obtain⟨⟩:=a
  have dd:=(List.getElem?_eq_some_iff.1 hb).1
  have gc: ∀ d,Option.getD y2[i]? d=b:=fun d=>by rw [hb];rfl
  have hw:=tQ dd hn
  have bW:ltI (i:Int) (y2.length:Int)=true:=du (by omega)
  have pY:leI (0:Int) (i:Int)=true:=ct (by omega)
  have dw:ltN i y2.length=true:=ec dd
  refine⟨?_,?_,?_,?_⟩
  ·simp [eK,iG,iH,iI,iJ,iK,iL,ip,aI,LT.nds,allT,cd,bW,pY,dw,gc]
  ·simp [eK,iG,iH,iI,iJ,iK,iL,ip,aI,LT.each,cd,qY,hw]
  ·simp only [eK,iG,iH,iI,iJ,iK,iL,ip,aI,LT.fn,cd,qY,eQ,Int.toNat_natCast,bW,pY,dw,gc,cond_true,Bool.cond_self]
  ·exact fun _ _=>trivial
 ·obtain⟨⟩:=a
  simp [eK,iG,iH,iI,iJ,iK,iL,ip,aI,LT.out,cd]
theorem apJ(n:Nat)(k:Int)(hk:0≤k):leI (n:Int) k=leN n k.toNat:=by
 rw [Bool.eq_iff_iff,Sx,dT];omega
theorem at6(st:List Int)(hn:leN st.length 9223372036854775807=true):PK st=areR st∧PL st=true:=by
 obtain⟨w1,w2⟩:=afe st (dT.1 hn)
 rw [kH (P:=fun v=> !inR v 0 2) (j:=0) (fun v=>by simp only [qA,aZ,xZ])]at w2
 have e5:(st.any fun v=> !inR v 0 2)= !st.all fun v=>inR v 0 2:=by simp [List.all_eq_not_any_not]
 rw [e5]at w2
 simp only [PK,PL,w1,w2,allT,areR,aZ,xZ]
 cases (st.all fun v=>inR v 0 2) <;> cases inR (st.length:Int) 1 12 <;> simp [Nat.beq]
theorem atx(st:List Int)(hn:leN st.length 9223372036854775807=true):Pg st=areR st∧Ph st=true:=by
 obtain⟨w1,w2⟩:=OI st (dT.1 hn)
 rw [kH (P:=fun v=> !inR v 0 2) (j:=0) (fun v=>by simp only [dU,tU,bu,xZ])]at w2
 have e5:(st.any fun v=> !inR v 0 2)= !st.all fun v=>inR v 0 2:=by simp [List.all_eq_not_any_not]
 rw [e5]at w2
 simp only [Pg,Ph,qw,qx,sN,sO,lL,w1,w2,allT,areR,BZ,bu,dx,xZ,bU]
 cases hr:inR (st.length:Int) 1 12 with
 |false=>simp
 |true=>
  cases (st.all fun v=>inR v 0 2)with
  |true=>
   have q:leI 0 (-1)=false:=rfl
   simp [Nat.beq,q]
  |false=>
   simp only [Bool.not_false,cond_true,Nat.beq,Bool.and_false]
   rw [ct (by omega)];simp
theorem at5(pl:List (Int×Int))(hn:leN pl.length 9223372036854775807=true):adH pl=okPl pl∧adI pl=true:=by
 obtain⟨w1,w2⟩:=aoC pl (dT.1 hn)
 rw [kH (P:=fun t=> !aqR t) (j:=0) (fun t=>by simp only [Ec,aZ,xZ,aqR];cases inR t.1 1 366 <;> rfl)]at w2
 have e5:(pl.any fun t=> !aqR t)= !pl.all aqR:=by simp [List.all_eq_not_any_not]
 rw [e5]at w2
 simp only [adH,adI,w1,w2,allT,okPl,apJ pl.length 12 (by omega)]
 cases pl.all aqR <;> simp [Nat.beq]
theorem atw(pl:List (Int×Int))(hn:leN pl.length 9223372036854775807=true):adl pl=okPl pl∧adm pl=true:=by
 obtain⟨w1,w2⟩:=QN pl (dT.1 hn)
 rw [kH (P:=fun t=> !aqR t) (j:=0) (fun t=>by simp only [eQ,Gu,zK,bu,xZ,aqR];cases inR t.1 1 366 <;> rfl)]at w2
 have e5:(pl.any fun t=> !aqR t)= !pl.all aqR:=by simp [List.all_eq_not_any_not]
 rw [e5]at w2
 simp only [adl,adm,aav,si,sj,uk,ul,mQ,w1,w2,allT,okPl,apJ pl.length 12 (by omega),cd]
 cases hr:leN pl.length (Int.toNat 12)with
 |false=>
  simp at hr
  simp [hr]
  intro h;omega
 |true=>
  simp at hr
  cases pl.all aqR with
  |true=>
   have q:leI 0 (-1)=false:=rfl
   simp [Nat.beq,hr,q]
  |false=>
   simp only [Bool.not_false,cond_true,Nat.beq,Bool.and_false]
   rw [ct (by omega)];simp
def XV:List SV→List Entry→Option Out
 | [.one ⟨false,[.ref 0]⟩],[.row false 2 (.int .i64) x0]=>some ⟨.one ⟨false,[.val (.bool (areR x0))]⟩,[.row false 2 ajn x0],[],[leN x0.length 9223372036854775807]⟩
 |_,_=>none
def kL:PF prog:=PF.alt aiR XV (by
 intro args es o h bz;unfold XV at h;split at h
 ·rename_i x0
  cases h
  have bz:=fM bz
  have hh:=at6 x0 bz
  obtain⟨e0,en⟩:=hh
  exact jK rfl (fj en) (by simp only [e0] <;> rfl) rfl rfl
 ·cases h)
def XT:List SV→List Entry→Option Out
 | [.one ⟨false,[.ref 0]⟩],[.row false 2 (.int .i64) x0]=>some ⟨.one ⟨false,[.val (.bool (areR x0))]⟩,[.row false 2 ajn x0],[],[leN x0.length 9223372036854775807]⟩
 |_,_=>none
def vc:PF prog:=PF.alt aiP XT (by
 intro args es o h bz;unfold XT at h;split at h
 ·rename_i x0
  cases h
  have bz:=fM bz
  have hh:=atx x0 bz
  obtain⟨e0,en⟩:=hh
  exact jK rfl (fj en) (by simp only [e0] <;> rfl) rfl rfl
 ·cases h)
def akD:List SV→List Entry→Option Out
 | [.one ⟨false,[.ref 0]⟩],[.row false 173 (.pair (.int .i64) (.int .i64)) x0]=>some ⟨.one ⟨false,[.val (.bool (okPl x0))]⟩,[.row false 173 aiq x0],[],[leN x0.length 9223372036854775807]⟩
 |_,_=>none
def zP:PF prog:=PF.alt art akD (by
 intro args es o h bz;unfold akD at h;split at h
 ·rename_i x0
  cases h
  have bz:=fM bz
  have hh:=at5 x0 bz
  obtain⟨e0,en⟩:=hh
  exact jK rfl (fj en) (by simp only [e0] <;> rfl) rfl rfl
 ·cases h)
def akB:List SV→List Entry→Option Out
 | [.one ⟨false,[.ref 0]⟩],[.row false 173 (.pair (.int .i64) (.int .i64)) x0]=>some ⟨.one ⟨false,[.val (.bool (okPl x0))]⟩,[.row false 173 aiq x0],[],[leN x0.length 9223372036854775807]⟩
 |_,_=>none
def zO:PF prog:=PF.alt arp akB (by
 intro args es o h bz;unfold akB at h;split at h
 ·rename_i x0
  cases h
  have bz:=fM bz
  have hh:=atw x0 bz
  obtain⟨e0,en⟩:=hh
  exact jK rfl (fj en) (by simp only [e0] <;> rfl) rfl rfl
 ·cases h)
theorem Lp.scan{X:Type}(p:Lp X)(st:Nat→X)(N:Nat)(P:Nat→Bool)(e:Nat)(hN:N≤p.fuel (st 0))
  (hs: ∀ b,b < N→(p.lt (st b)).nds=true∧(p.lt (st b)).each (fun y=>y=st (b + 1))∧(p.lt (st b)).fn (fun _=>())=(bif P b then .inl 0 else .inr ()))
  (he:(p.lt (st N)).out=some (.inl e)):p.fin (st 0)=true∧(p.res (st 0)).1=bif(List.range N).any P then 0 else e:=by
 have cH:=p.along (fun i (_:Unit)=>st i) (fun _=>()) (fun(b:Nat) (_:Unit)=>bif P b then .inl 0 else .inr ()) e (fun _ _=>True) (List.range N) () trivial (by rw [List.length_range];exact hN)
  (fun i b a hb _=>by
   obtain⟨rfl,dd⟩:=qD hb
   obtain⟨h1,h2,h3⟩:=hs b dd
   exact⟨h1,h2,h3,fun _ _=>trivial⟩) (fun a _=>by rw [List.length_range];exact he)
 rw [kH (P:=P) (j:=0) (fun b=>rfl)]at cH
 exact⟨cH.1,by rw [cH.2]⟩
def mu(y2:List (Int×(Int×Int)))(y3 y4:Int)(b:Nat):(Unit)→Nat ⊕ (Unit)
 |_=>(bif(bif((Option.getD y2[b]? ((0:Int),(0:Int),(0:Int))).1==y3)then ((Option.getD y2[b]? ((0:Int),(0:Int),(0:Int))).2).1==y4 else false)then(.inl 0)else(.inr ()))
def jq(y1:Int)(y2:List (Int×(Int×Int)))(y3 y4 y5:Int)(i:Nat):(Unit)→dQ
 |_=>((i:Int),y1,y2,y3,y4,y5)
def DC:dQ→Unit
 |(_,_,_,_,_,_)=>()
theorem abI(y1:Int)(y2:List (Int×(Int×Int)))(y3 y4 y5:Int) (hn:y1≤9223372036854775807) (hb:y1≤(y2.length:Int)):
  bF.fin ((0:Int),y1,y2,y3,y4,y5)=true∧bF.res ((0:Int),y1,y2,y3,y4,y5)=((aN (mu y2 y3 y4) 1 (List.range y1.toNat) 0 ()).1,(jq y1 y2 y3 y4 y5) (aN (mu y2 y3 y4) 1 (List.range y1.toNat) 0 ()).2.1 (aN (mu y2 y3 y4) 1 (List.range y1.toNat) 0 ()).2.2):=by
 have cH:=bF.along (jq y1 y2 y3 y4 y5) DC (mu y2 y3 y4) 1 (fun _ _=>True) (List.range y1.toNat) () (by trivial) (by simp only [bF,jq,List.length_range];omega) (fun i b a hb hI=> ?_) (fun a hI=> ?_)
 ·exact cH
 ·obtain⟨⟩:=a
  obtain⟨rfl,dd⟩:=qD hb
  have hw:IntKind.i64.wrap ((b:Int) + 1)=((b + 1:Nat):Int):=by rw [aw (by omega) (by omega)];omega
  have bW:ltI (b:Int) y1=true:=du (by omega)
  have pY:leI (0:Int) (b:Int)=true:=ct (by omega)
  refine⟨?_,?_,?_,?_⟩
  ·have h1:ltI (b:Int) (y2.length:Int)=true:=du (by omega)
   have h2:ltN b y2.length=true:=ec (by omega)
   simp [lO,gI,re,rf,rg,rh,ri,rj,rl,rm,rn,pJ,bF,LT.nds,allT,jq,bW,pY,h1,h2]
  ·simp [lO,gI,re,rf,rg,rh,ri,rj,rl,rm,rn,pJ,bF,LT.each,jq,DC,hw]
  ·simp only [lO,gI,re,rf,rg,rh,ri,rj,rl,rm,rn,pJ,bF,LT.fn,jq,DC,mu,Int.toNat_natCast,bW,pY,cond_true,Bool.cond_self]
  ·exact fun _ _=>trivial
 ·obtain⟨⟩:=a
  simp only [lO,gI,re,rf,rg,rh,ri,rj,rl,rm,rn,pJ,bF,LT.out,jq,List.length_range,aeT,aiH,cond_false]
theorem auN(fs:List (Int×Int×Int))(b:Nat)(hb:b < fs.length)(hn:fs.length≤9223372036854775807):
  TS (b:Int) fs=true∧Kt (b:Int) fs=ap0 fs b:=by
 obtain⟨w1,w2⟩:=abI (b:Int) fs (fAt fs b).1 (fAt fs b).2.1 (fAt fs b).2.2 (by omega) (by omega)
 rw [kH (P:=fun j=>aak (fAt fs b) (fs[j]?.getD (0,0,0))) (j:=0) (fun j=>by
  simp only [mu,aak];cases (fs[j]?.getD (0,0,0)).1==(fAt fs b).1 <;> rfl),Int.toNat_natCast,as9 (by omega)]at w2
 refine⟨w1,?_⟩
 have e:IZ (b:Int) fs=(0,(b:Int),fs,(fAt fs b).1,(fAt fs b).2.1,(fAt fs b).2.2):=rfl
 simp only [Kt,e,w2,ap0]
 cases (fs.take b).any (aak (fAt fs b)) <;> rfl
theorem aw7(n:Int)(fs:List (Int×Int×Int))(b:Nat):Ks (b:Int) n fs=alB n fs b:=by
 simp only [Ks,aZ,alB,fIn,fAt,lx,Int.toNat_natCast,xZ]
 cases inR (fs[b]?.getD (0,0,0)).1 0 (IntKind.i64.wrap (n - 1)) <;> cases inR (fs[b]?.getD (0,0,0)).2.1 0 1 <;> cases inR (fs[b]?.getD (0,0,0)).2.2 0 1 <;> rfl
theorem axg(n:Int)(fs:List (Int×Int×Int))(hn:fs.length≤9223372036854775807):
  bQ.fin ((0:Int),n,fs)=true∧bQ.res ((0:Int),n,fs)=((aN (fF n fs) 2 (List.range fs.length) 0 ()).1,(((aN (fF n fs) 2 (List.range fs.length) 0 ()).2.1:Int),n,fs)):=by
 have cH:=bQ.along (fun i _=>((i:Int),n,fs)) (fun _=>()) (fF n fs) 2 (fun _ _=>True) (List.range fs.length) () trivial (by simp only [bQ,List.length_range];omega) (fun i b a hb hI=> ?_) (fun a hI=> ?_)
 ·exact cH
 ·obtain⟨rfl,dd⟩:=qD hb
  have hw:IntKind.i64.wrap ((b:Int) + 1)=((b + 1:Nat):Int):=by rw [aw (by omega) (by omega)];omega
  have bW:ltI (b:Int) (fs.length:Int)=true:=du (by omega)
  have pY:leI (0:Int) (b:Int)=true:=ct (by omega)
  have dw:ltN b fs.length=true:=ec (by omega)
  obtain⟨i1,i2⟩:=auN fs b dd hn
  have i3:=aw7 n fs b
  refine⟨?_,?_,?_,?_⟩
  ·simp [bQ,tG,LT.nds,allT,vd,TQ,TR,bW,pY,dw,i1]
  ·simp [bQ,tG,LT.each,TT,hw]
  ·simp only [bQ,tG,LT.fn,vd,bW,i2,i3,fF,cond_true]
  ·exact fun _ _=>trivial
 ·simp [bQ,tG,LT.out,vd,List.length_range]
theorem awf(n:Int)(fs:List (Int×Int×Int))(hn:leN fs.length 9223372036854775807=true):PI n fs=lfOk n fs∧PJ n fs=true:=by
 obtain⟨w1,w2⟩:=axg n fs (dT.1 hn)
 obtain⟨k,m,e,h⟩:=anD n fs (List.range fs.length) 0
 rw [e]at w2
 refine⟨?_,?_⟩
 ·have hl:leI (fs.length:Int) 8=leN fs.length 8:=by rw [Bool.eq_iff_iff];simp;omega
  simp only [PI,yN,w2,aZ,xZ,lfOk,okFs,hl]
  rcases h with⟨rfl,h⟩ | ⟨rfl | rfl,h⟩ <;> rw [h]
  ·cases inR n 1 12 <;> cases leN fs.length 8 <;> rfl
  ·cases inR n 1 12 <;> cases leN fs.length 8 <;> rfl
  ·cases inR n 1 12 <;> cases leN fs.length 8 <;> rfl
 ·simp only [PJ,yN,w1,allT,cond_true]
def XU:List SV→List Entry→Option Out
 | [.one ⟨false,[.val (.int .i64 x0)]⟩,.one ⟨false,[.ref 0]⟩],[.row false 100 (.pair (.int .i64) (.pair (.int .i64) (.int .i64))) x1]=>some ⟨.one ⟨false,[.val (.bool (lfOk x0 x1))]⟩,[.row false 100 adk x1],[],[leN x1.length 9223372036854775807]⟩
 |_,_=>none
def kK:PF prog:=PF.alt aiQ XU (by
 intro args es o h bz;unfold XU at h;split at h
 ·rename_i x0 x1
  cases h
  have bz:=fM bz
  have hh:=awf x0 x1 bz
  obtain⟨e0,en⟩:=hh
  exact jK rfl (fj en) (by simp only [e0] <;> rfl) rfl rfl
 ·cases h)
def dc(y2 y3:Int)(b:Int×(Int×Int)):(Unit)→Nat ⊕ (Unit)
 |_=>(bif(tT b.1 (b.2.1) y2 y3)then(.inl 0)else(.inr ()))
def bK(y2 y3 y4:Int)(y5:List (Int×(Int×Int)))(i:Nat):(Unit)→bg
 |_=>((i:Int),(↑y5.length:Int),y2,y3,y4,y5)
def mZ:bg→Unit
 |(_,_,_,_,_,_)=>()
theorem MD(y2 y3 y4:Int)(y5:List (Int×(Int×Int))) (hn:y5.length≤9223372036854775807):
  az.fin ((0:Int),(↑y5.length:Int),y2,y3,y4,y5)=true∧az.res ((0:Int),(↑y5.length:Int),y2,y3,y4,y5)=((aN (dc y2 y3) 1 y5 0 ()).1,(bK y2 y3 y4 y5) (aN (dc y2 y3) 1 y5 0 ()).2.1 (aN (dc y2 y3) 1 y5 0 ()).2.2):=by
 have cH:=az.along (bK y2 y3 y4 y5) mZ (dc y2 y3) 1 (fun _ _=>True) y5 () (by trivial) (by simp only [az,bK];omega) (fun i b a hb hI=> ?_) (fun a hI=> ?_)
 ·exact cH
 ·obtain⟨⟩:=a
  have dd:=(List.getElem?_eq_some_iff.1 hb).1
  have gc: ∀ d,Option.getD y5[i]? d=b:=fun d=>by rw [hb];rfl
  have hw:=tQ dd hn
  have bW:ltI (i:Int) (y5.length:Int)=true:=du (by omega)
  have pY:leI (0:Int) (i:Int)=true:=ct (by omega)
  have dw:ltN i y5.length=true:=ec dd
  refine⟨?_,?_,?_,?_⟩
  ·simp [cO,fo,fq,ft,fu,fv,fw,eP,az,LT.nds,allT,bK,bW,pY,dw,gc]
  ·simp [cO,fo,fq,ft,fu,fv,fw,eP,az,LT.each,bK,mZ,hw]
  ·simp only [cO,fo,fq,ft,fu,fv,fw,eP,az,LT.fn,bK,mZ,dc,Int.toNat_natCast,bW,pY,dw,gc,cond_true,Bool.cond_self]
  ·exact fun _ _=>trivial
 ·obtain⟨⟩:=a
  simp [cO,fo,fq,ft,fu,fv,fw,eP,az,LT.out,bK]
theorem att(xs:List (Int×Int×Int))(f:Int×Int×Int)(hn:xs.length≤9223372036854775807):
  fl xs f.1 f.2.1 f.2.2=xs.any (aak f)∧fm xs f.1 f.2.1 f.2.2=true:=by
 obtain⟨w1,w2⟩:=MD f.1 f.2.1 f.2.2 xs hn
 rw [kH (P:=aak f) (j:=0) (fun t=>by
  simp only [dc,tT,aak];cases t.1==f.1 <;> rfl)]at w2
 refine⟨?_,?_⟩
 ·simp only [fl,nD,nE,nF,fm,gz,dO,kw,kx,ky,kz,kA,w2,bK]
  cases xs.any (aak f)with
  |false=>rfl
  |true=>exact ct (Int.natCast_nonneg _)
 ·simp only [fl,nD,nE,nF,fm,gz,dO,kw,kx,ky,kz,kA,w1,allT,cond_true]
theorem awL(n:Int)(fs:List (Int×Int×Int))(b:Nat):JZ (b:Int) n fs=alB n fs b:=by
 simp only [JZ,bu,alB,fIn,fAt,eU,Int.toNat_natCast,xZ]
 cases inR (fs[b]?.getD (0,0,0)).1 0 (IntKind.i64.wrap (n - 1)) <;> cases inR (fs[b]?.getD (0,0,0)).2.1 0 1 <;> cases inR (fs[b]?.getD (0,0,0)).2.2 0 1 <;> rfl
theorem axf(n:Int)(fs:List (Int×Int×Int))(hn:fs.length≤9223372036854775807):
  bP.fin ((0:Int),(fs.length:Int),n,fs)=true∧bP.res ((0:Int),(fs.length:Int),n,fs)=((aN (fF n fs) 2 (List.range fs.length) 0 ()).1,(((aN (fF n fs) 2 (List.range fs.length) 0 ()).2.1:Int),(fs.length:Int),n,fs)):=by
 have cH:=bP.along (fun i _=>((i:Int),(fs.length:Int),n,fs)) (fun _=>()) (fF n fs) 2 (fun _ _=>True) (List.range fs.length) () trivial (by simp only [bP,List.length_range];omega) (fun i b a hb hI=> ?_) (fun a hI=> ?_)
 ·exact cH
 ·obtain⟨rfl,dd⟩:=qD hb
  have hw:IntKind.i64.wrap ((b:Int) + 1)=((b + 1:Nat):Int):=by rw [aw (by omega) (by omega)];omega
  have bW:ltI (b:Int) (fs.length:Int)=true:=du (by omega)
  have TD:leI (b:Int) (fs.length:Int)=true:=ct (by omega)
  have pY:leI (0:Int) (b:Int)=true:=ct (by omega)
  have dw:ltN b fs.length=true:=ec (by omega)
  obtain⟨i2,i1⟩:=att (fs.take b) (fAt fs b) (by rw [List.length_take];omega)
  have i2:TK (b:Int) fs=ap0 fs b:=i2
  have i1:TJ (b:Int) fs=true:=i1
  have i3:=awL n fs b
  refine⟨?_,?_,?_,?_⟩
  ·simp [bP,tE,LT.nds,allT,BX,JY,TF,TG,TH,TI,bW,pY,dw,TD,i1]
  ·simp [bP,tE,LT.each,TL,hw]
  ·simp only [bP,tE,LT.fn,BX,bW,i2,i3,fF,cond_true]
  ·exact fun _ _=>trivial
 ·simp [bP,tE,LT.out,BX,List.length_range]
theorem avV(n:Int)(fs:List (Int×Int×Int))(hn:leN fs.length 9223372036854775807=true):Pc n fs=lfOk n fs∧Pf n fs=true:=by
 obtain⟨w1,w2⟩:=axf n fs (dT.1 hn)
 obtain⟨k,m,e,h⟩:=anD n fs (List.range fs.length) 0
 rw [e]at w2
 refine⟨?_,?_⟩
 ·have hl:leI (fs.length:Int) 8=leN fs.length 8:=by rw [Bool.eq_iff_iff];simp;omega
  simp only [Pc,ym,w2,BZ,bu,xZ,lfOk,okFs,hl]
  rcases h with⟨rfl,h⟩ | ⟨rfl | rfl,h⟩ <;> rw [h] <;> cases inR n 1 12 <;> cases leN fs.length 8 <;> rfl
 ·simp only [Pf,ym,w1,allT,cond_true]
def XS:List SV→List Entry→Option Out
 | [.one ⟨false,[.val (.int .i64 x0)]⟩,.one ⟨false,[.ref 0]⟩],[.row false 100 (.pair (.int .i64) (.pair (.int .i64) (.int .i64))) x1]=>some ⟨.one ⟨false,[.val (.bool (lfOk x0 x1))]⟩,[.row false 100 adk x1],[],[leN x1.length 9223372036854775807]⟩
 |_,_=>none
def vb:PF prog:=PF.alt aiO XS (by
 intro args es o h bz;unfold XS at h;split at h
 ·rename_i x0 x1
  cases h
  have bz:=fM bz
  have hh:=avV x0 x1 bz
  obtain⟨e0,en⟩:=hh
  exact jK rfl (fj en) (by simp only [e0] <;> rfl) rfl rfl
 ·cases h)
def BW(y1 y2:Int)(b:Int×Int):(Unit)→Nat ⊕ (Unit)
 |_=>(bif(bif b.1==y1 then b.2==y2 else false)then(.inl 0)else(.inr ()))
def rL(y1 y2:Int)(y3:List (Int×Int))(i:Nat):(Unit)→mO
 |_=>((i:Int),y1,y2,y3)
def Ti:mO→Unit
 |(_,_,_,_)=>()
theorem anC(y1 y2:Int)(y3:List (Int×Int)) (hn:y3.length≤9223372036854775807):
  em.fin ((0:Int),y1,y2,y3)=true∧em.res ((0:Int),y1,y2,y3)=((aN (BW y1 y2) 1 y3 0 ()).1,(rL y1 y2 y3) (aN (BW y1 y2) 1 y3 0 ()).2.1 (aN (BW y1 y2) 1 y3 0 ()).2.2):=by
 have cH:=em.along (rL y1 y2 y3) Ti (BW y1 y2) 1 (fun _ _=>True) y3 () (by trivial) (by simp only [em,rL];omega) (fun i b a hb hI=> ?_) (fun a hI=> ?_)
 ·exact cH
 ·obtain⟨⟩:=a
  have dd:=(List.getElem?_eq_some_iff.1 hb).1
  have gc: ∀ d,Option.getD y3[i]? d=b:=fun d=>by rw [hb];rfl
  have hw:=tQ dd hn
  have bW:ltI (i:Int) (y3.length:Int)=true:=du (by omega)
  have pY:leI (0:Int) (i:Int)=true:=ct (by omega)
  have dw:ltN i y3.length=true:=ec dd
  refine⟨?_,?_,?_,?_⟩
  ·simp [uu,uv,Cu,Ia,Ib,Ic,Id,Ie,Ig,Ih,FI,em,LT.nds,allT,rL,bW,pY,dw,gc]
  ·simp [uu,uv,Cu,Ia,Ib,Ic,Id,Ie,Ig,Ih,FI,em,LT.each,rL,Ti,hw]
  ·simp only [uu,uv,Cu,Ia,Ib,Ic,Id,Ie,Ig,Ih,FI,em,LT.fn,rL,Ti,BW,Int.toNat_natCast,bW,pY,dw,gc,cond_true,Bool.cond_self]
  ·exact fun _ _=>trivial
 ·obtain⟨⟩:=a
  simp [uu,uv,Cu,Ia,Ib,Ic,Id,Ie,Ig,Ih,FI,em,LT.out,rL]
def lH(y2 y3:Int)(b:Int×Int):(Unit)→Nat ⊕ (Unit)
 |_=>(bif(bif y2==b.1then bif y3==b.2then true else false else false)then(.inl 0)else(.inr ()))
def fY(y2 y3:Int)(y4:List (Int×Int))(i:Nat):(Unit)→dm
 |_=>((i:Int),(↑y4.length:Int),y2,y3,y4)
def CE:dm→Unit
 |(_,_,_,_,_)=>()
theorem ZQ(y2 y3:Int)(y4:List (Int×Int)) (hn:y4.length≤9223372036854775807):
  bn.fin ((0:Int),(↑y4.length:Int),y2,y3,y4)=true∧bn.res ((0:Int),(↑y4.length:Int),y2,y3,y4)=((aN (lH y2 y3) 1 y4 0 ()).1,(fY y2 y3 y4) (aN (lH y2 y3) 1 y4 0 ()).2.1 (aN (lH y2 y3) 1 y4 0 ()).2.2):=by
 have cH:=bn.along (fY y2 y3 y4) CE (lH y2 y3) 1 (fun _ _=>True) y4 () (by trivial) (by simp only [bn,fY];omega) (fun i b a hb hI=> ?_) (fun a hI=> ?_)
 ·exact cH
 ·obtain⟨⟩:=a
  have dd:=(List.getElem?_eq_some_iff.1 hb).1
  have gc: ∀ d,Option.getD y4[i]? d=b:=fun d=>by rw [hb];rfl
  have hw:=tQ dd hn
  have bW:ltI (i:Int) (y4.length:Int)=true:=du (by omega)
  have pY:leI (0:Int) (i:Int)=true:=ct (by omega)
  have dw:ltN i y4.length=true:=ec dd
  refine⟨?_,?_,?_,?_⟩
  ·simp [kC,pN,pO,pP,pQ,pR,pS,nZ,bn,LT.nds,allT,fY,bW,pY,dw,gc]
  ·simp [kC,pN,pO,pP,pQ,pR,pS,nZ,bn,LT.each,fY,CE,hw]
  ·simp only [kC,pN,pO,pP,pQ,pR,pS,nZ,bn,LT.fn,fY,CE,lH,Int.toNat_natCast,bW,pY,dw,gc,cond_true,Bool.cond_self]
  ·exact fun _ _=>trivial
 ·obtain⟨⟩:=a
  simp [kC,pN,pO,pP,pQ,pR,pS,nZ,bn,LT.out,fY]
theorem axq(d o:Int)(ls:List (Int×Int))(hn:ls.length≤9223372036854775807):KS d o ls=(bif ls.any (Nw (d,o))then(((ls.takeWhile fun x=> !Nw (d,o) x).length:Nat):Int)else -1)∧VR d o ls=true:=by
 obtain⟨w1,w2⟩:=anC d o ls hn
 rw [kH (P:=Nw (d,o)) (j:=0) (fun x=>by simp only [BW,Nw];cases x.1==d <;> rfl)]at w2
 simp only [KS,VR,SL,w1,w2,allT,rL]
 cases ls.any (Nw (d,o)) <;> simp [Nat.beq]
theorem awK(d o:Int)(ls:List (Int×Int))(hn:ls.length≤9223372036854775807):pM d o ls=ls.any (Nw (d,o))∧vN d o ls=true:=by
 obtain⟨w1,w2⟩:=ZQ d o ls hn
 rw [kH (P:=Nw (d,o)) (j:=0) (fun x=>by
  simp only [lH,Nw,BEq.comm (a:=d),BEq.comm (a:=o)];cases x.1==d <;> cases x.2==o <;> rfl)]at w2
 simp only [pM,vN,IV,IW,yc,w1,w2,allT,fY]
 refine⟨?_,rfl⟩
 cases ls.any (Nw (d,o))with
 |false=>rfl
 |true=>exact ct (Int.natCast_nonneg _)
theorem arU(a b:Int):VS a b=axC (a,b)∧Xw a b=axC (a,b):=by
 simp only [VS,Xw,aZ,bu,xZ,axC]
 cases inR a 0 23 <;> exact⟨rfl,rfl⟩
theorem auf(ls:List (Int×Int))(hn:ls.length≤9223372036854775807):
  ex.fin ((0:Int),ls)=true∧(ex.res ((0:Int),ls)).1=bif(List.range ls.length).any (fun b=>RD ls b||aiw ls b)then 0 else 1:=by
 refine Lp.scan ex (fun b=>((b:Int),ls)) ls.length (fun b=>RD ls b||aiw ls b) 1 (by simp only [ex];omega) (fun b hb=> ?_) ?_
 ·have bW:ltI (b:Int) (ls.length:Int)=true:=du (by omega)
  have pY:leI (0:Int) (b:Int)=true:=ct (by omega)
  have dw:ltN b ls.length=true:=ec hb
  have hw:IntKind.i64.wrap ((b:Int) + 1)=((b + 1:Nat):Int):=by rw [aw (by omega) (by omega)];omega
  have a0:oL (b:Int) ls=YS ls b:=by simp only [oL,Int.toNat_natCast,YS]
  have a1:sR (b:Int) ls=RD ls b:=by simp only [sR,a0,(arU _ _).1,RD]
  obtain⟨f1,f2⟩:=axq (YS ls b).1 (YS ls b).2 ls hn
  have hat:YS ls b=ls[b]:=by simp only [YS,List.getElem?_eq_getElem hb,Option.getD_some]
  have hp:Nw (YS ls b) ls[b]=true:=by rw [hat];simp [Nw]
  have hany:ls.any (Nw (YS ls b))=true:=List.any_eq_true.2 ⟨_,List.getElem_mem hb,hp⟩
  have f1':KS (YS ls b).1 (YS ls b).2 ls=(bif ls.any (Nw (YS ls b))then(((ls.takeWhile fun x=> !Nw (YS ls b) x).length:Nat):Int)else -1):=f1
  have h7:(KS (YS ls b).1 (YS ls b).2 ls !=(b:Int))=aiw ls b:=by
   rw [f1']
   simp only [hany,cond_true,aiw]
   have hf:=ap5 ls b hb hp
   cases hd:(ls.take b).any (Nw (YS ls b))with
   |false=>have:=hf.2 hd;rw [this];simp
   |true=>
    have:(ls.takeWhile fun x=> !Nw (YS ls b) x).length≠b:=fun h=>by rw [hf.1 h]at hd;cases hd
    simp only [bne_iff_ne,ne_eq];omega
  refine⟨?_,?_,?_⟩
  ·simp [ex,Dg,LT.nds,allT,zi,Tr,Ts,Tt,Tu,Tv,abb,bW,pY,dw,a0,f2]
  ·simp [ex,Dg,LT.each,abd,hw]
  ·simp only [ex,Dg,LT.fn,zi,abc,bW,a0,a1,h7,cond_true]
   cases RD ls b <;> rfl
 ·simp [ex,Dg,LT.out,zi]
theorem aue(ls:List (Int×Int))(hn:ls.length≤9223372036854775807):
  ep.fin ((0:Int),(ls.length:Int),ls)=true∧(ep.res ((0:Int),(ls.length:Int),ls)).1=bif(List.range ls.length).any (fun b=>RD ls b||aiw ls b)then 0 else 1:=by
 refine Lp.scan ep (fun b=>((b:Int),(ls.length:Int),ls)) ls.length (fun b=>RD ls b||aiw ls b) 1 (by simp only [ep];omega) (fun b hb=> ?_) ?_
 ·have bW:ltI (b:Int) (ls.length:Int)=true:=du (by omega)
  have TD:leI (b:Int) (ls.length:Int)=true:=ct (by omega)
  have pY:leI (0:Int) (b:Int)=true:=ct (by omega)
  have dw:ltN b ls.length=true:=ec hb
  have hw:IntKind.i64.wrap ((b:Int) + 1)=((b + 1:Nat):Int):=by rw [aw (by omega) (by omega)];omega
  have a0:oJ (b:Int) ls=YS ls b:=by simp only [oJ,Int.toNat_natCast,YS]
  have a1:oK (b:Int) ls=RD ls b:=by simp only [oK,a0,(arU _ _).2,RD]
  have a2:JI (b:Int) ls=bif !RD ls b then ls.take b else []:=by
   simp only [JI,a1,Int.toNat_natCast,Int.toNat_zero,List.drop_zero,Bool.and_true]
  have hl2:(bif !RD ls b then ls.take b else []).length≤9223372036854775807:=by
   cases RD ls b <;> simp;omega
  obtain⟨f1,f2⟩:=awK (YS ls b).1 (YS ls b).2 (bif !RD ls b then ls.take b else []) hl2
  have f1:pM (YS ls b).1 (YS ls b).2 (bif !RD ls b then ls.take b else [])=(bif !RD ls b then ls.take b else []).any (Nw (YS ls b)):=f1
  refine⟨?_,?_,?_⟩
  ·have z0:leI 0 0=true:=rfl
   simp only [ep,Da,LT.nds,allT,LN,aam,aan,aao,aap,aaq,aar,aas,Int.toNat_natCast,bW,TD,pY,dw,a0,a2,f2,z0,Bool.or_true,cond_true,Bool.cond_self]
  ·simp [ep,Da,LT.each,aau,hw]
  ·simp only [ep,Da,LT.fn,LN,aat,bW,a0,a1,a2,f1,cond_true]
   cases RD ls b <;> rfl
 ·simp [ep,Da,LT.out,LN]
theorem awU(ls:List (Int×Int)):((List.range ls.length).any fun b=>RD ls b||aiw ls b)= !(List.range ls.length).all fun b=> !(RD ls b||aiw ls b):=by simp [List.all_eq_not_any_not]
theorem asV(ls:List (Int×Int))(hn:leN ls.length 9223372036854775807=true):YX ls=okLk ls∧YY ls=true:=by
 obtain⟨w1,w2⟩:=auf ls (dT.1 hn)
 rw [awU]at w2
 simp only [YX,YY,w1,w2,allT,okLk,apJ ls.length 8 (by omega)]
 cases ((List.range ls.length).all fun b=> !(RD ls b||aiw ls b)) <;> simp [Nat.beq]
theorem asA(ls:List (Int×Int))(hn:leN ls.length 9223372036854775807=true):YD ls=okLk ls∧YE ls=true:=by
 obtain⟨w1,w2⟩:=aue ls (dT.1 hn)
 rw [awU]at w2
 simp only [YD,YE,WS,w1,w2,allT,okLk,apJ ls.length 8 (by omega)]
 cases ((List.range ls.length).all fun b=> !(RD ls b||aiw ls b)) <;> simp [Nat.beq]
def agh:List SV→List Entry→Option Out
 | [.one ⟨false,[.ref 0]⟩],[.row false 176 (.pair (.int .i64) (.int .i64)) x0]=>some ⟨.one ⟨false,[.val (.bool (okLk x0))]⟩,[.row false 176 aiq x0],[],[leN x0.length 9223372036854775807]⟩
 |_,_=>none
def tW:PF prog:=PF.alt apy agh (by
 intro args es o h bz;unfold agh at h;split at h
 ·rename_i x0
  cases h
  have bz:=fM bz
  have hh:=asV x0 bz
  obtain⟨e0,en⟩:=hh
  exact jK rfl (fj en) (by simp only [e0] <;> rfl) rfl rfl
 ·cases h)
def agb:List SV→List Entry→Option Out
 | [.one ⟨false,[.ref 0]⟩],[.row false 176 (.pair (.int .i64) (.int .i64)) x0]=>some ⟨.one ⟨false,[.val (.bool (okLk x0))]⟩,[.row false 176 aiq x0],[],[leN x0.length 9223372036854775807]⟩
 |_,_=>none
def tV:PF prog:=PF.alt aps agb (by
 intro args es o h bz;unfold agb at h;split at h
 ·rename_i x0
  cases h
  have bz:=fM bz
  have hh:=asA x0 bz
  obtain⟨e0,en⟩:=hh
  exact jK rfl (fj en) (by simp only [e0] <;> rfl) rfl rfl
 ·cases h)
abbrev uB:=Int×Int×Int×Int×List Int×List (Int×(Int×Int))×List (List Int)×List (Int×(Int×Int))×List (Int×Int)×List (Int×Int)
section
variable (y0:Int)(y6:List (List Int))
def mR:List Int:=Option.getD y6[Int.toNat y0]? (DA (CTy.sl (2:TypeId) ajn))
def KC:Bool:=ltI y0 (↑y6.length:Int)
def ae0:Bool:=leI (0:Int) y0
def ae1:Bool:=ltN y0.toNat y6.length
def ae2:Bool:=leN (List.length (mR y0 y6)) (9223372036854775807:Nat)
def ae3:Bool:= !(!!areR (mR y0 y6)&&true)||leI (0:Int) y0
def ae4:Bool:= !(!!areR (mR y0 y6)&&true)||ltI y0 (↑y6.length:Int)
def ae5:Bool:= !(!!areR (mR y0 y6)&&true)||ltN y0.toNat y6.length
def ae6:Bool:= !(!!areR (mR y0 y6)&&true)||BS y6
def ae7:Bool:=bif !areR (mR y0 y6)then true else(↑(List.length (bif !!areR (mR y0 y6)&&true then mR y0 y6 else [])):Int)!=BR y6
def ae8:Int:=IntKind.wrap .i64 (y0 + (1:Int))
end
def ami:uB→List (Nat×SV)
 |(y0,_,_,_,_,_,_,_,_,_)=> [(3,(.one ⟨false,[.val (.int .i64 y0)]⟩)),(1,(.one ⟨false,[.ptr 0 0]⟩))]
def al9:uB→List (Nat×Entry)
 |(_,y1,y2,y3,y4,y5,y6,y7,y8,y9)=> [(0,(.box 33 [.val (.int .i64 y1),.ref 1,.ref 2,.ref 3,.ref 4,.val (.int .i64 y2),.ref 5,.ref 6,.val (.int .i64 y3)])),(1,(.row false 2 ajn y4)),(2,(.row false 169 adk y5)),(3,(.row false 24 (CTy.sl (2:TypeId) ajn) y6)),(4,(.row false 100 adk y7)),(5,(.row false 173 aiq y8)),(6,(.row false 176 aiq y9))]
def amA:Nat→uB→List (Nat×SV)
 |0,(_,_,_,_,_,_,_,_,_,_)=> [(2,(.one ⟨false,[.val (.bool false)]⟩))]
 |_,(_,_,_,_,_,_,_,_,_,_)=> []
def amr:Nat→uB→List (Nat×Entry)
 |0,(_,y1,y2,y3,y4,y5,y6,y7,y8,y9)=> [(0,(.box 33 [.val (.int .i64 y1),.ref 1,.ref 2,.ref 3,.ref 4,.val (.int .i64 y2),.ref 5,.ref 6,.val (.int .i64 y3)])),(1,(.row false 2 ajn y4)),(2,(.row false 169 adk y5)),(3,(.row false 24 (CTy.sl (2:TypeId) ajn) y6)),(4,(.row false 100 adk y7)),(5,(.row false 173 aiq y8)),(6,(.row false 176 aiq y9))]
 |_,(_,y1,y2,y3,y4,y5,y6,y7,y8,y9)=> [(0,(.box 33 [.val (.int .i64 y1),.ref 1,.ref 2,.ref 3,.ref 4,.val (.int .i64 y2),.ref 5,.ref 6,.val (.int .i64 y3)])),(1,(.row false 2 ajn y4)),(2,(.row false 169 adk y5)),(3,(.row false 24 (CTy.sl (2:TypeId) ajn) y6)),(4,(.row false 100 adk y7)),(5,(.row false 173 aiq y8)),(6,(.row false 176 aiq y9))]
def Hy:uB→LT uB
 |(y0,y1,y2,y3,y4,y5,y6,y7,y8,y9)=> .ite (KC y0 y6) (.need [ae0 y0,KC y0 y6,ae1 y0 y6,ae2 y0 y6,ae3 y0 y6,ae4 y0 y6,ae5 y0 y6,ae6 y0 y6] (.ite (ae7 y0 y6) (.ext 0 [(0,0),(1,1),(2,2),(3,3),(4,4),(5,5),(6,6)]) (.nrm ((ae8 y0),y1,y2,y3,y4,y5,y6,y7,y8,y9) [(0,0),(1,1),(2,2),(3,3),(4,4),(5,5),(6,6)]))) (.ext 1 [(0,0),(1,1),(2,2),(3,3),(4,4),(5,5),(6,6)])
def Vl(s:St):Option uB:=
 (match s.look 3 with
 |some ⟨none,.one ⟨false,[.val (.int .i64 y0)]⟩⟩=>
 (match s.look 1 with
 |some ⟨none,.one ⟨false,[.ptr 448 0]⟩⟩=>
 (match s.ent 448 with
 |some (.box 33 [.val (.int .i64 y1),.ref 0,.ref 1,.ref 2,.ref 3,.val (.int .i64 y2),.ref 4,.ref 5,.val (.int .i64 y3)])=>
 (match s.ent 0 with
 |some (.row false 2 (.int .i64) y4)=>
 (match s.ent 1 with
 |some (.row false 169 (.pair (.int .i64) (.pair (.int .i64) (.int .i64))) y5)=>
 (match s.ent 2 with
 |some (.row false 24 (.sl 2 (.int .i64)) y6)=>
 (match s.ent 3 with
 |some (.row false 100 (.pair (.int .i64) (.pair (.int .i64) (.int .i64))) y7)=>
 (match s.ent 4 with
 |some (.row false 173 (.pair (.int .i64) (.int .i64)) y8)=>
 (match s.ent 5 with
 |some (.row false 176 (.pair (.int .i64) (.int .i64)) y9)=>
 some (y0,y1,y2,y3,y4,y5,y6,y7,y8,y9)
 |_=>none)
 |_=>none)
 |_=>none)
 |_=>none)
 |_=>none)
 |_=>none)
 |_=>none)
 |_=>none)
 |_=>none)
def gF:Lp uB where
 h:=⟨[27,28,29,30,31,34,35,36,37,38,39,40,41,42,43,44,45,46,47,48,49,50,51,2,32,33,3],[0,1,2,3,4,5,6],[],[]⟩
 JL:=ami
 JE:=al9
 XL:=amA
 XE:=amr
 q:=fun j=>match j with | 0=> .ret | _=> .exit 0
 tags:= [0,1]
 lt:=Hy
 fuel:=fun(y0,y1,y2,y3,y4,y5,y6,y7,y8,y9)=>y0.natAbs + y1.natAbs + y2.natAbs + y3.natAbs + y4.length + y5.length + y6.length + y7.length + y8.length + y9.length
 fix:=fun(_,y1,y2,y3,y4,y5,y6,y7,y8,y9) (y0,_,_,_,_,_,_,_,_,_)=>(y0,y1,y2,y3,y4,y5,y6,y7,y8,y9)
 σ:= [(0,448),(1,0),(2,1),(3,2),(4,3),(5,4),(6,5)]
 rd:=Vl
theorem akb:LoopOk prog (fun k=>Nat.blt k Tryz.f24.ntmps) gF.F (aK f24 0):=by
 refine Lp.ok (tbl:= [gh,Em,PF.lend Em,PF.fz Em,El,PF.lend El,PF.fz El,kL,PF.lend kL,PF.fz kL,wJ,PF.lend wJ,PF.fz wJ,kK,PF.lend kK,PF.fz kK,aiU,zP,PF.lend zP,PF.fz zP,tW,PF.lend tW,PF.fz tW]) (lf:= []) aO gF (by kernel_rfl) (LOk.nil _) (fun _=>rfl) (fun j _=>by unfold gF;match j with | 0=>rfl | _ + 1=>rfl) ?_ ?_ ?_ ?_ (fun _=>rfl) ?_
 ·rintro⟨y0,y1,y2,y3,y4,y5,y6,y7,y8,y9⟩;kernel_rfl
 ·rintro⟨y0,y1,y2,y3,y4,y5,y6,y7,y8,y9⟩;kernel_rfl
 ·intro s x h
  have h:Vl s=some x:=h
  unfold Vl at h
  repeat' split at h
  all_goals cases h
  exact⟨aa (by assumption) rfl (aa (by assumption) rfl (rfl)),ab rfl (by assumption) rfl (ab rfl (by assumption) rfl (ab rfl (by assumption) rfl (ab rfl (by assumption) rfl (ab rfl (by assumption) rfl (ab rfl (by assumption) rfl (ab rfl (by assumption) rfl (rfl)))))))⟩
 ·rintro⟨y0,y1,y2,y3,y4,y5,y6,y7,y8,y9⟩;kernel_rfl
 ·rintro⟨y0,y1,y2,y3,y4,y5,y6,y7,y8,y9⟩ z;exact(And.intro (And.intro trivial rfl) trivial)
section
variable (x0 x1 x2:Int)(x3:List Int)(x4:List (Int×Int×Int))(x5:List (List Int))(x6:List (Int×Int×Int))(x7 x8:List (Int×Int))
def FP:Bool:=bif bif !isT x0 x3 then true else !(inR x0 (2:Int) (8:Int)&&okFs x0 x4)then true else(↑x5.length:Int)!=(↑x3.length:Int)
def abh:Int×Int×Int×Int×List Int×List (Int×Int×Int)×List (List Int)×List (Int×Int×Int)×List (Int×Int)×List (Int×Int):=((0:Int),x0,x1,x2,x3,x4,x5,x6,x7,x8)
def KB:Bool:=Nat.beq ((Lp.res gF (abh x0 x1 x2 x3 x4 x5 x6 x7 x8)).1) (0:Nat)
def abi:Bool:=bif bif lfOk (BR x5) x6 then VO x1 else false then okPl x7 else false
def adJ:Bool:=bif FP x0 x3 x4 x5 then false else bif KB x0 x1 x2 x3 x4 x5 x6 x7 x8 then false else bif bif abi x1 x5 x6 x7 then okLk x8 else false then aZ x2 (0:Int) (100000:Int)else false
def adK:Bool:=allT [!(!!isT x0 x3&&true)||leN x4.length (9223372036854775807:Nat),FP x0 x3 x4 x5||Lp.fin gF (abh x0 x1 x2 x3 x4 x5 x6 x7 x8),FP x0 x3 x4 x5||(KB x0 x1 x2 x3 x4 x5 x6 x7 x8||BS x5),FP x0 x3 x4 x5||(KB x0 x1 x2 x3 x4 x5 x6 x7 x8||leN x6.length (9223372036854775807:Nat)),FP x0 x3 x4 x5||(KB x0 x1 x2 x3 x4 x5 x6 x7 x8||(!((bif lfOk (BR x5) x6 then VO x1 else false)&&true)||leN x7.length (9223372036854775807:Nat))),FP x0 x3 x4 x5||(KB x0 x1 x2 x3 x4 x5 x6 x7 x8||(!(abi x1 x5 x6 x7&&true)||leN x8.length (9223372036854775807:Nat)))]
end
def akt:List SV→List Entry→Option Out
 | [.one ⟨true,[.val (.int .i64 x0),.ref 0,.ref 1,.ref 2,.ref 3,.val (.int .i64 x1),.ref 4,.ref 5,.val (.int .i64 x2)]⟩],[.row false 2 (.int .i64) x3,.row false 169 (.pair (.int .i64) (.pair (.int .i64) (.int .i64))) x4,.row false 24 (.sl 2 (.int .i64)) x5,.row false 100 (.pair (.int .i64) (.pair (.int .i64) (.int .i64))) x6,.row false 173 (.pair (.int .i64) (.int .i64)) x7,.row false 176 (.pair (.int .i64) (.int .i64)) x8]=>some ⟨.one ⟨false,[.val (.bool (adJ x0 x1 x2 x3 x4 x5 x6 x7 x8))]⟩,[.row false 2 ajn x3,.row false 169 adk x4,.row false 24 (CTy.sl (2:TypeId) ajn) x5,.row false 100 adk x6,.row false 173 aiq x7,.row false 176 aiq x8],[],[adK x0 x1 x2 x3 x4 x5 x6 x7 x8]⟩
 |_,_=>none
def aru:PF prog:=PF.ofG prog [gh,Em,PF.lend Em,PF.fz Em,El,PF.lend El,PF.fz El,kL,PF.lend kL,PF.fz kL,wJ,PF.lend wJ,PF.fz wJ,kK,PF.lend kK,PF.fz kK,aiU,zP,PF.lend zP,PF.fz zP,tW,PF.lend tW,PF.fz tW] [gF.F] aO 24 f24 func24 (LOk.fnT (l:= [aK f24 0]) (by kernel_rfl) (.cons akb (.nil _))) akt (by
 intro vs es r h;unfold akt at h;split at h
 ·cases h;kernel_rfl
 ·cases h)
abbrev uA:=Int×Int×List (List Int)×Int×Int×Int×List Int×List (Int×(Int×Int))×List (Int×(Int×Int))×List (Int×Int)×List (Int×Int)
section
variable (y0 y1:Int)(y2:List (List Int))
def pI:List Int:=Option.getD y2[Int.toNat y0]? (DA (CTy.sl (2:TypeId) ajn))
def Qv:Bool:=ltI y0 y1
def aep:Bool:=leI (0:Int) y0
def aeq:Bool:=ltI y0 (↑y2.length:Int)
def aer:Bool:=ltN y0.toNat y2.length
def aes:Bool:=leN (List.length (pI y0 y2)) (9223372036854775807:Nat)
def aet:Bool:= !(!!areR (pI y0 y2)&&true)||leI (0:Int) (0:Int)
def aeu:Bool:= !(!!areR (pI y0 y2)&&true)||ltI (0:Int) (↑y2.length:Int)
def aev:Bool:= !(!!areR (pI y0 y2)&&true)||ltN (Int.toNat (0:Int)) y2.length
def aew:Bool:=bif !areR (pI y0 y2)then true else(↑(List.length (pI y0 y2)):Int)!=(↑(List.length (bif !!areR (pI y0 y2)&&true then Option.getD y2[Int.toNat (0:Int)]? (DA (CTy.sl (2:TypeId) ajn))else [])):Int)
def aex:Int:=IntKind.wrap .i64 (y0 + (1:Int))
end
def amg:uA→List (Nat×SV)
 |(y0,y1,_,_,_,_,_,_,_,_,_)=> [(31,(.one ⟨false,[.val (.int .i64 y0)]⟩)),(30,(.one ⟨false,[.val (.int .i64 y1)]⟩)),(29,(.one ⟨false,[.ref 0]⟩)),(1,(.one ⟨false,[.ptr 1 0]⟩))]
def al7:uA→List (Nat×Entry)
 |(_,_,y2,y3,y4,y5,y6,y7,y8,y9,y10)=> [(0,(.row false 24 (CTy.sl (2:TypeId) ajn) y2)),(1,(.box 33 [.val (.int .i64 y3),.ref 2,.ref 3,.ref 0,.ref 4,.val (.int .i64 y4),.ref 5,.ref 6,.val (.int .i64 y5)])),(2,(.row false 2 ajn y6)),(3,(.row false 169 adk y7)),(4,(.row false 100 adk y8)),(5,(.row false 173 aiq y9)),(6,(.row false 176 aiq y10))]
def amy:Nat→uA→List (Nat×SV)
 |0,(_,_,_,_,_,_,_,_,_,_,_)=> [(2,(.one ⟨false,[.val (.bool false)]⟩))]
 |_,(_,_,_,_,_,_,_,_,_,_,_)=> []
def amp:Nat→uA→List (Nat×Entry)
 |0,(_,_,y2,y3,y4,y5,y6,y7,y8,y9,y10)=> [(0,(.row false 24 (CTy.sl (2:TypeId) ajn) y2)),(1,(.box 33 [.val (.int .i64 y3),.ref 2,.ref 3,.ref 0,.ref 4,.val (.int .i64 y4),.ref 5,.ref 6,.val (.int .i64 y5)])),(2,(.row false 2 ajn y6)),(3,(.row false 169 adk y7)),(4,(.row false 100 adk y8)),(5,(.row false 173 aiq y9)),(6,(.row false 176 aiq y10))]
 |_,(_,_,y2,y3,y4,y5,y6,y7,y8,y9,y10)=> [(0,(.row false 24 (CTy.sl (2:TypeId) ajn) y2)),(1,(.box 33 [.val (.int .i64 y3),.ref 2,.ref 3,.ref 0,.ref 4,.val (.int .i64 y4),.ref 5,.ref 6,.val (.int .i64 y5)])),(2,(.row false 2 ajn y6)),(3,(.row false 169 adk y7)),(4,(.row false 100 adk y8)),(5,(.row false 173 aiq y9)),(6,(.row false 176 aiq y10))]
def Hw:uA→LT uA
 |(y0,y1,y2,y3,y4,y5,y6,y7,y8,y9,y10)=> .ite (Qv y0 y1) (.need [aep y0,aeq y0 y2,aer y0 y2] (.need [aes y0 y2,aet y0 y2,aeu y0 y2,aev y0 y2] (.ite (aew y0 y2) (.ext 0 [(0,0),(1,1),(2,2),(3,3),(4,4),(5,5),(6,6)]) (.nrm ((aex y0),y1,y2,y3,y4,y5,y6,y7,y8,y9,y10) [(0,0),(1,1),(2,2),(3,3),(4,4),(5,5),(6,6)])))) (.ext 1 [(0,0),(1,1),(2,2),(3,3),(4,4),(5,5),(6,6)])
def Vj(s:St):Option uA:=
 (match s.look 31 with
 |some ⟨none,.one ⟨false,[.val (.int .i64 y0)]⟩⟩=>
 (match s.look 30 with
 |some ⟨none,.one ⟨false,[.val (.int .i64 y1)]⟩⟩=>
 (match s.look 29 with
 |some ⟨none,.one ⟨false,[.ref 2]⟩⟩=>
 (match s.look 1 with
 |some ⟨none,.one ⟨false,[.ptr 448 0]⟩⟩=>
 (match s.ent 2 with
 |some (.row false 24 (.sl 2 (.int .i64)) y2)=>
 (match s.ent 448 with
 |some (.box 33 [.val (.int .i64 y3),.ref 0,.ref 1,.ref 2,.ref 3,.val (.int .i64 y4),.ref 4,.ref 5,.val (.int .i64 y5)])=>
 (match s.ent 0 with
 |some (.row false 2 (.int .i64) y6)=>
 (match s.ent 1 with
 |some (.row false 169 (.pair (.int .i64) (.pair (.int .i64) (.int .i64))) y7)=>
 (match s.ent 3 with
 |some (.row false 100 (.pair (.int .i64) (.pair (.int .i64) (.int .i64))) y8)=>
 (match s.ent 4 with
 |some (.row false 173 (.pair (.int .i64) (.int .i64)) y9)=>
 (match s.ent 5 with
 |some (.row false 176 (.pair (.int .i64) (.int .i64)) y10)=>
 some (y0,y1,y2,y3,y4,y5,y6,y7,y8,y9,y10)
 |_=>none)
 |_=>none)
 |_=>none)
 |_=>none)
 |_=>none)
 |_=>none)
 |_=>none)
 |_=>none)
 |_=>none)
 |_=>none)
 |_=>none)
def gD:Lp uA where
 h:=⟨[32,33,34,4,35,36,37,38,39,40,41,42,43,44,45,46,47,2,48,31],[0,1,2,3,4,5,6],[],[]⟩
 JL:=amg
 JE:=al7
 XL:=amy
 XE:=amp
 q:=fun j=>match j with | 0=> .ret | _=> .exit 0
 tags:= [0,1]
 lt:=Hw
 fuel:=fun(y0,y1,y2,y3,y4,y5,y6,y7,y8,y9,y10)=>y0.natAbs + y1.natAbs + y2.length + y3.natAbs + y4.natAbs + y5.natAbs + y6.length + y7.length + y8.length + y9.length + y10.length
 fix:=fun(_,y1,y2,y3,y4,y5,y6,y7,y8,y9,y10) (y0,_,_,_,_,_,_,_,_,_,_)=>(y0,y1,y2,y3,y4,y5,y6,y7,y8,y9,y10)
 σ:= [(0,2),(1,448),(2,0),(3,1),(4,3),(5,4),(6,5)]
 rd:=Vj
theorem aj9:LoopOk prog (fun k=>Nat.blt k Tryz.f23.ntmps) gD.F (aK f23 0):=by
 refine Lp.ok (tbl:= [Ej,PF.lend Ej,PF.fz Ej,Ek,PF.lend Ek,PF.fz Ek,vc,PF.lend vc,PF.fz vc,vb,PF.lend vb,PF.fz vb,aW,PF.lend aW,PF.fz aW,akR,zO,PF.lend zO,PF.fz zO,tV,PF.lend tV,PF.fz tV,UV]) (lf:= []) aO gD (by kernel_rfl) (LOk.nil _) (fun _=>rfl) (fun j _=>by unfold gD;match j with | 0=>rfl | _ + 1=>rfl) ?_ ?_ ?_ ?_ (fun _=>rfl) ?_
 ·rintro⟨y0,y1,y2,y3,y4,y5,y6,y7,y8,y9,y10⟩;kernel_rfl
 ·rintro⟨y0,y1,y2,y3,y4,y5,y6,y7,y8,y9,y10⟩;kernel_rfl
 ·intro s x h
  have h:Vj s=some x:=h
  unfold Vj at h
  repeat' split at h
  all_goals cases h
  exact⟨aa (by assumption) rfl (aa (by assumption) rfl (aa (by assumption) rfl (aa (by assumption) rfl (rfl)))),ab rfl (by assumption) rfl (ab rfl (by assumption) rfl (ab rfl (by assumption) rfl (ab rfl (by assumption) rfl (ab rfl (by assumption) rfl (ab rfl (by assumption) rfl (ab rfl (by assumption) rfl (rfl)))))))⟩
 ·rintro⟨y0,y1,y2,y3,y4,y5,y6,y7,y8,y9,y10⟩;kernel_rfl
 ·rintro⟨y0,y1,y2,y3,y4,y5,y6,y7,y8,y9,y10⟩ z;exact(And.intro (And.intro trivial rfl) trivial)
section
variable (x0 x1 x2:Int)(x3:List Int)(x4:List (Int×Int×Int))(x5:List (List Int))(x6:List (Int×Int×Int))(x7 x8:List (Int×Int))
def wh:Bool:=bif bif !isT x0 x3 then true else !okFs x0 x4 then true else(↑x5.length:Int)!=(↑x3.length:Int)
def aaw:Int×Int×List (List Int)×Int×Int×Int×List Int×List (Int×Int×Int)×List (Int×Int×Int)×List (Int×Int)×List (Int×Int):=((0:Int),(↑x5.length:Int),x5,x0,x1,x2,x3,x4,x6,x7,x8)
def Af:Bool:=Nat.beq ((Lp.res gD (aaw x0 x1 x2 x3 x4 x5 x6 x7 x8)).1) (0:Nat)
def Ux:Bool:=bif lfOk (dx (Option.getD x5[Int.toNat (0:Int)]? (DA (CTy.sl (2:TypeId) ajn)))) x6 then Xx x1 else false
def adn:Bool:=bif wh x0 x3 x4 x5 then false else bif Af x0 x1 x2 x3 x4 x5 x6 x7 x8 then false else bif bif bif Ux x1 x5 x6 then okPl x7 else false then okLk x8 else false then zK x2 else false
def ado:Bool:=allT [!(!!isT x0 x3&&true)||leN x4.length (9223372036854775807:Nat),wh x0 x3 x4 x5||Lp.fin gD (aaw x0 x1 x2 x3 x4 x5 x6 x7 x8),wh x0 x3 x4 x5||(Af x0 x1 x2 x3 x4 x5 x6 x7 x8||leI (0:Int) (0:Int)),wh x0 x3 x4 x5||(Af x0 x1 x2 x3 x4 x5 x6 x7 x8||ltI (0:Int) (↑x5.length:Int)),wh x0 x3 x4 x5||(Af x0 x1 x2 x3 x4 x5 x6 x7 x8||ltN (Int.toNat (0:Int)) x5.length),wh x0 x3 x4 x5||(Af x0 x1 x2 x3 x4 x5 x6 x7 x8||leN x6.length (9223372036854775807:Nat)),wh x0 x3 x4 x5||(Af x0 x1 x2 x3 x4 x5 x6 x7 x8||(!(Ux x1 x5 x6&&true)||leN x7.length (9223372036854775807:Nat))),wh x0 x3 x4 x5||(Af x0 x1 x2 x3 x4 x5 x6 x7 x8||(!((bif Ux x1 x5 x6 then okPl x7 else false)&&true)||leN x8.length (9223372036854775807:Nat)))]
end
def akn:List SV→List Entry→Option Out
 | [.one ⟨true,[.val (.int .i64 x0),.ref 0,.ref 1,.ref 2,.ref 3,.val (.int .i64 x1),.ref 4,.ref 5,.val (.int .i64 x2)]⟩],[.row false 2 (.int .i64) x3,.row false 169 (.pair (.int .i64) (.pair (.int .i64) (.int .i64))) x4,.row false 24 (.sl 2 (.int .i64)) x5,.row false 100 (.pair (.int .i64) (.pair (.int .i64) (.int .i64))) x6,.row false 173 (.pair (.int .i64) (.int .i64)) x7,.row false 176 (.pair (.int .i64) (.int .i64)) x8]=>some ⟨.one ⟨false,[.val (.bool (adn x0 x1 x2 x3 x4 x5 x6 x7 x8))]⟩,[.row false 2 ajn x3,.row false 169 adk x4,.row false 24 (CTy.sl (2:TypeId) ajn) x5,.row false 100 adk x6,.row false 173 aiq x7,.row false 176 aiq x8],[],[ado x0 x1 x2 x3 x4 x5 x6 x7 x8]⟩
 |_,_=>none
def arq:PF prog:=PF.ofG prog [Ej,PF.lend Ej,PF.fz Ej,Ek,PF.lend Ek,PF.fz Ek,vc,PF.lend vc,PF.fz vc,vb,PF.lend vb,PF.fz vb,aW,PF.lend aW,PF.fz aW,akR,zO,PF.lend zO,PF.fz zO,tV,PF.lend tV,PF.fz tV,UV] [gD.F] aO 23 f23 func23 (LOk.fnT (l:= [aK f23 0]) (by kernel_rfl) (.cons aj9 (.nil _))) akn (by
 intro vs es r h;unfold akn at h;split at h
 ·cases h;kernel_rfl
 ·cases h)
def atV(rs:List (List Int))(b:Nat):Bool:= !(areR (rs[b]?.getD [])&&(((rs[b]?.getD []).length:Int)==rowsR rs))
theorem atW(rs:List (List Int)):(List.range rs.length).any (atV rs)= !rsOk rs:=by
 have cH: ∀ (l:List (List Int)) (P:List Int→Bool),((List.range l.length).any fun b=> !P (l[b]?.getD []))= !l.all P:=by
  intro l P
  rw [Bool.eq_iff_iff]
  simp only [List.any_eq_true,List.mem_range,Bool.not_eq_true',List.all_eq_false]
  constructor
  ·rintro⟨b,hb,h⟩
   rw [List.getElem?_eq_getElem hb]at h
   exact⟨l[b],List.getElem_mem hb,by simpa using h⟩
  ·rintro⟨x,hx,h⟩
   obtain⟨b,hb,rfl⟩:=List.getElem_of_mem hx
   exact⟨b,hb,by rw [List.getElem?_eq_getElem hb];simpa using h⟩
 exact cH rs fun st=>areR st&&((st.length:Int)==rowsR rs)
def rV(m:Nat)(ps:List Int)(fs:List (Int×Int×Int))(rs:List (List Int))(lf:List (Int×Int×Int))(pl ls:List (Int×Int)):Bool:=leN ps.length m&&(leN fs.length m&&(ayj m rs&&(leN lf.length m&&(leN pl.length m&&leN ls.length m))))
theorem TO{m:Nat}{ps:List Int}{fs:List (Int×Int×Int)}{rs:List (List Int)}{lf:List (Int×Int×Int)}{pl ls:List (Int×Int)}:
  rV m ps fs rs lf pl ls=true↔ps.length≤m∧fs.length≤m∧(rs.length≤m∧ ∀ x∈rs,x.length≤m)∧lf.length≤m∧pl.length≤m∧ls.length≤m:=by
 simp only [rV,Bool.and_eq_true,dT,avc]
theorem alT{m k:Nat}{ps:List Int}{fs:List (Int×Int×Int)}{rs:List (List Int)}{lf:List (Int×Int×Int)}{pl ls:List (Int×Int)}(h:rV m ps fs rs lf pl ls=true)(hk:m≤k):rV k ps fs rs lf pl ls=true:=by
 obtain⟨h1,h2,⟨h3,h4⟩,h5,h6,h7⟩:=TO.1 h
 exact TO.2 ⟨by omega,by omega,⟨by omega,fun x hx=>by have:=h4 x hx;omega⟩,by omega,by omega,by omega⟩
theorem axh(x y:List Int):(bif !areR x then true else((bif !!areR x&&true then x else []).length:Int)!=(y.length:Int))= !(areR x&&((x.length:Int)==(y.length:Int))):=by
 cases h:areR x <;> simp [bne]
theorem axi(x y:List Int):(bif !areR x then true else(x.length:Int)!=((bif !!areR x&&true then y else []).length:Int))= !(areR x&&((x.length:Int)==(y.length:Int))):=by
 cases h:areR x <;> simp [bne]
theorem aw8(rs:List (List Int))(b:Nat):ae7 (b:Int) rs=atV rs b:=by
 exact axh (rs[b]?.getD []) (rs[0]?.getD [])
theorem awM(rs:List (List Int))(b:Nat):aew (b:Int) rs=atV rs b:=by
 exact axi (rs[b]?.getD []) (rs[0]?.getD [])
theorem avm(n mode day:Int)(ps:List Int)(fs:List (Int×Int×Int))(rs:List (List Int))(lf:List (Int×Int×Int))(pl ls:List (Int×Int))(hn:rs.length≤9223372036854775807)(hA: ∀ x∈rs,x.length≤9223372036854775807):
  gF.fin ((0:Int),n,mode,day,ps,fs,rs,lf,pl,ls)=true∧(gF.res ((0:Int),n,mode,day,ps,fs,rs,lf,pl,ls)).1=bif !rsOk rs then 0 else 1:=by
 rw [← atW]
 refine Lp.scan gF (fun b=>((b:Int),n,mode,day,ps,fs,rs,lf,pl,ls)) rs.length (atV rs) 1 (by simp only [gF];omega) (fun b hb=> ?_) ?_
 ·have bW:ltI (b:Int) (rs.length:Int)=true:=du (by omega)
  have hdec0:ltI 0 (rs.length:Int)=true:=du (by omega)
  have hw:IntKind.i64.wrap ((b:Int) + 1)=((b + 1:Nat):Int):=by rw [aw (by omega) (by omega)];omega
  have pY:leI (0:Int) (b:Int)=true:=ct (by omega)
  have dw:ltN b rs.length=true:=ec (by omega)
  have hlt0:ltN 0 rs.length=true:=ec (by omega)
  have h6:leN (mR (b:Int) rs).length 9223372036854775807=true:=bY (by
   simp only [mR,Int.toNat_natCast]
   cases hq:rs[b]? with
   |none=>exact Nat.zero_le _
   |some x=>exact hA x (List.mem_of_getElem? hq))
  have i2:=aw8 rs b
  refine⟨?_,?_,?_⟩
  ·simp [gF,Hy,LT.nds,allT,KC,ae0,ae1,ae2,ae3,ae4,ae5,ae6,BS,bW,hdec0,pY,dw,hlt0,h6]
  ·simp [gF,Hy,LT.each,ae8,hw]
  ·simp only [gF,Hy,LT.fn,KC,bW,i2,cond_true]
 ·simp [gF,Hy,LT.out,KC]
theorem avl(n mode day:Int)(ps:List Int)(fs:List (Int×Int×Int))(rs:List (List Int))(lf:List (Int×Int×Int))(pl ls:List (Int×Int))(hn:rs.length≤9223372036854775807)(hA: ∀ x∈rs,x.length≤9223372036854775807):
  gD.fin ((0:Int),(rs.length:Int),rs,n,mode,day,ps,fs,lf,pl,ls)=true∧(gD.res ((0:Int),(rs.length:Int),rs,n,mode,day,ps,fs,lf,pl,ls)).1=bif !rsOk rs then 0 else 1:=by
 rw [← atW]
 refine Lp.scan gD (fun b=>((b:Int),(rs.length:Int),rs,n,mode,day,ps,fs,lf,pl,ls)) rs.length (atV rs) 1 (by simp only [gD];omega) (fun b hb=> ?_) ?_
 ·have bW:ltI (b:Int) (rs.length:Int)=true:=du (by omega)
  have hdec0:ltI 0 (rs.length:Int)=true:=du (by omega)
  have hw:IntKind.i64.wrap ((b:Int) + 1)=((b + 1:Nat):Int):=by rw [aw (by omega) (by omega)];omega
  have pY:leI (0:Int) (b:Int)=true:=ct (by omega)
  have dw:ltN b rs.length=true:=ec (by omega)
  have hlt0:ltN 0 rs.length=true:=ec (by omega)
  have h6:leN (pI (b:Int) rs).length 9223372036854775807=true:=bY (by
   simp only [pI,Int.toNat_natCast]
   cases hq:rs[b]? with
   |none=>exact Nat.zero_le _
   |some x=>exact hA x (List.mem_of_getElem? hq))
  have i2:=awM rs b
  have h00:leI 0 0=true:=rfl
  refine⟨?_,?_,?_⟩
  ·simp [gD,Hw,LT.nds,allT,Qv,aep,aeq,aer,aes,aet,aeu,aev,bW,hdec0,pY,dw,hlt0,h6,h00]
  ·simp [gD,Hw,LT.each,aex,hw]
  ·simp only [gD,Hw,LT.fn,Qv,bW,i2,cond_true]
 ·simp [gD,Hw,LT.out,Qv]
theorem axx{n:Int}{ps:List Int}(h:isT n ps=true):inR n 2 8=true:=sa.2 (ya.1 h).1
theorem awy(a b:Nat):((a:Int)!=(b:Int))= !decide (a=b):=by
 by_cases h:a=b
 ·subst h;simp
 ·have:(a:Int)≠(b:Int):=by omega
  simp [h,this]
theorem at7(n mode day:Int)(ps:List Int)(fs:List (Int×Int×Int))(rs:List (List Int))(lf:List (Int×Int×Int))(pl ls:List (Int×Int))(h:rV 9223372036854775807 ps fs rs lf pl ls=true):
  adJ n mode day ps fs rs lf pl ls=kO n ps fs rs lf mode pl ls day∧adK n mode day ps fs rs lf pl ls=true:=by
 obtain⟨h1,h2,⟨h3,h4⟩,h5,h6,h7⟩:=TO.1 h
 obtain⟨w1,w2⟩:=avm n mode day ps fs rs lf pl ls h3 h4
 have e:DA (CTy.sl (2:TypeId) ajn)= []:=rfl
 have er:BR rs=rowsR rs:=rfl
 have q5:leN lf.length 9223372036854775807=true:=bY h5
 have q6:leN pl.length 9223372036854775807=true:=bY h6
 have q7:leN ls.length 9223372036854775807=true:=bY h7
 have q2:leN fs.length 9223372036854775807=true:=bY h2
 simp only [adJ,adK,FP,abh,KB,abi,w1,w2,er,awy,kO,VO,aZ,xZ,allT,q2,q5,q6,q7,Bool.or_true,cond_true]
 cases hT:isT n ps with
 |false=>simp
 |true=>
  rw [axx hT]
  cases hF:okFs n fs with
  |false=>simp
  |true=>
   cases hl:decide (rs.length=ps.length)with
   |false=>simp
   |true=>
    have hl:rs.length=ps.length:=by simpa using hl
    have:=(ya.1 hT).2.1
    have r1:BS rs=true:=by
     have a1:ltI 0 (rs.length:Int)=true:=du (by omega)
     have a2:ltN 0 rs.length=true:=ec (by omega)
     simp [BS,allT,a1,a2]
    cases rsOk rs with
    |false=>simp
    |true=>
     rw [r1]
     cases lfOk (rowsR rs) lf <;> cases inR mode 0 5 <;> cases okPl pl <;> cases okLk ls <;> simp [Nat.beq]
theorem aty(n mode day:Int)(ps:List Int)(fs:List (Int×Int×Int))(rs:List (List Int))(lf:List (Int×Int×Int))(pl ls:List (Int×Int))(h:rV 9223372036854775807 ps fs rs lf pl ls=true):
  adn n mode day ps fs rs lf pl ls=kO n ps fs rs lf mode pl ls day∧ado n mode day ps fs rs lf pl ls=true:=by
 obtain⟨h1,h2,⟨h3,h4⟩,h5,h6,h7⟩:=TO.1 h
 obtain⟨w1,w2⟩:=avl n mode day ps fs rs lf pl ls h3 h4
 have e:DA (CTy.sl (2:TypeId) ajn)= []:=rfl
 have er:Ux mode rs lf=(bif lfOk (rowsR rs) lf then Xx mode else false):=rfl
 have q5:leN lf.length 9223372036854775807=true:=bY h5
 have q6:leN pl.length 9223372036854775807=true:=bY h6
 have q7:leN ls.length 9223372036854775807=true:=bY h7
 have q2:leN fs.length 9223372036854775807=true:=bY h2
 have h00:leI 0 0=true:=rfl
 simp only [adn,ado,wh,aaw,Af,er,w1,w2,awy,kO,Xx,zK,bu,xZ,allT,q2,q5,q6,q7,h00,Bool.or_true,cond_true]
 cases hT:isT n ps with
 |false=>simp
 |true=>
  cases hF:okFs n fs with
  |false=>simp
  |true=>
   cases hl:decide (rs.length=ps.length)with
   |false=>simp
   |true=>
    have hl:rs.length=ps.length:=by simpa using hl
    have:=(ya.1 hT).2.1
    have a1:ltI 0 (rs.length:Int)=true:=du (by omega)
    have a2:ltN (Int.toNat 0) rs.length=true:=ec (by simp;omega)
    rw [a1,a2]
    cases rsOk rs with
    |false=>simp
    |true=>
     cases lfOk (rowsR rs) lf <;> cases inR mode 0 5 <;> cases okPl pl <;> cases okLk ls <;> simp [Nat.beq]
def anx(n:Int)(ps:List Int)(fs:List (Int×Int×Int))(rs:List (List Int))(lf:List (Int×Int×Int))(mode:Int)(pl ls:List (Int×Int))(day:Int):Bool:=kO n ps fs rs lf mode pl ls day&&(Zi 0 fs []&&Zi 1 lf [])
theorem alK{n:Int}{ps:List Int}{fs:List (Int×Int×Int)}{rs:List (List Int)}{lf:List (Int×Int×Int)}{mode:Int}{pl ls:List (Int×Int)}{day:Int}:
  kO n ps fs rs lf mode pl ls day=true↔isT n ps=true∧okFs n fs=true∧rs.length=ps.length∧rsOk rs=true∧lfOk (rowsR rs) lf=true∧inR mode 0 5=true∧okPl pl=true∧okLk ls=true∧inR day 0 100000=true:=by
 simp only [kO,Bool.and_eq_true,decide_eq_true_eq]
theorem atL{n:Int}{fs:List (Int×Int×Int)}(h:okFs n fs=true):fs.length≤8:=by
 simp only [okFs,Bool.and_eq_true,dT]at h;exact h.1
theorem awS{n:Int}{fs:List (Int×Int×Int)}(h:lfOk n fs=true):fs.length≤8:=by
 simp only [lfOk,Bool.and_eq_true]at h;exact atL h.2
def akE:List SV→List Entry→Option Out
 | [.one ⟨true,[.val (.int .i64 x0),.ref 0,.ref 1,.ref 2,.ref 3,.val (.int .i64 x1),.ref 4,.ref 5,.val (.int .i64 x2)]⟩],[.row false 2 (.int .i64) x3,.row false 169 (.pair (.int .i64) (.pair (.int .i64) (.int .i64))) x4,.row false 24 (.sl 2 (.int .i64)) x5,.row false 100 (.pair (.int .i64) (.pair (.int .i64) (.int .i64))) x6,.row false 173 (.pair (.int .i64) (.int .i64)) x7,.row false 176 (.pair (.int .i64) (.int .i64)) x8]=>some ⟨.one ⟨false,[.val (.bool (kO x0 x3 x4 x5 x6 x1 x7 x8 x2))]⟩,[.row false 2 ajn x3,.row false 169 adk x4,.row false 24 (CTy.sl (2:TypeId) ajn) x5,.row false 100 adk x6,.row false 173 aiq x7,.row false 176 aiq x8],[],[rV 9223372036854775807 x3 x4 x5 x6 x7 x8]⟩
 |_,_=>none
def rO:PF prog:=PF.alt aru akE (by
 intro args es o h bz;unfold akE at h;split at h
 ·rename_i x0 x1 x2 x3 x4 x5 x6 x7 x8
  cases h
  have bz:=fM bz
  have hh:=at7 x0 x1 x2 x3 x4 x5 x6 x7 x8 bz
  obtain⟨e0,en⟩:=hh
  exact jK rfl (fj en) (by simp only [e0] <;> rfl) rfl rfl
 ·cases h)
def akC:List SV→List Entry→Option Out
 | [.one ⟨true,[.val (.int .i64 x0),.ref 0,.ref 1,.ref 2,.ref 3,.val (.int .i64 x1),.ref 4,.ref 5,.val (.int .i64 x2)]⟩],[.row false 2 (.int .i64) x3,.row false 169 (.pair (.int .i64) (.pair (.int .i64) (.int .i64))) x4,.row false 24 (.sl 2 (.int .i64)) x5,.row false 100 (.pair (.int .i64) (.pair (.int .i64) (.int .i64))) x6,.row false 173 (.pair (.int .i64) (.int .i64)) x7,.row false 176 (.pair (.int .i64) (.int .i64)) x8]=>some ⟨.one ⟨false,[.val (.bool (kO x0 x3 x4 x5 x6 x1 x7 x8 x2))]⟩,[.row false 2 ajn x3,.row false 169 adk x4,.row false 24 (CTy.sl (2:TypeId) ajn) x5,.row false 100 adk x6,.row false 173 aiq x7,.row false 176 aiq x8],[],[rV 9223372036854775807 x3 x4 x5 x6 x7 x8]⟩
 |_,_=>none
def rM:PF prog:=PF.alt arq akC (by
 intro args es o h bz;unfold akC at h;split at h
 ·rename_i x0 x1 x2 x3 x4 x5 x6 x7 x8
  cases h
  have bz:=fM bz
  have hh:=aty x0 x1 x2 x3 x4 x5 x6 x7 x8 bz
  obtain⟨e0,en⟩:=hh
  exact jK rfl (fj en) (by simp only [e0] <;> rfl) rfl rfl
 ·cases h)
def alE(x0:Int):Bool:=x0 !=(2:Int)
def ZW:List SV→List Entry→Option Out
 | [.one ⟨false,[.val (.int .i64 x0)]⟩],[]=>some ⟨.one ⟨false,[.val (.bool (alE x0))]⟩,[],[],[]⟩
 |_,_=>none
def alO:PF prog:=PF.ofG prog [] [] aO 159 f159 func159 (fun c _=>LOk.nil c) ZW (by
 intro vs es r h;unfold ZW at h;split at h
 ·cases h;kernel_rfl
 ·cases h)
def zI(x0:Int):Bool:=x0 !=(2:Int)
def Rr:List SV→List Entry→Option Out
 | [.one ⟨false,[.val (.int .i64 x0)]⟩],[]=>some ⟨.one ⟨false,[.val (.bool (zI x0))]⟩,[],[],[]⟩
 |_,_=>none
def RG:PF prog:=PF.ofG prog [] [] aO 159 f159 func159 (fun c _=>LOk.nil c) Rr (by
 intro vs es r h;unfold Rr at h;split at h
 ·cases h;kernel_rfl
 ·cases h)
abbrev bt:=Int×Int×List Int
section
variable (y0 y1:Int)(y2:List Int)
def gV:Bool:=ltI y0 y1
def gW:Bool:=leI (0:Int) y0
def gX:Bool:=ltI y0 (↑y2.length:Int)
def gY:Bool:=ltN y0.toNat y2.length
def gZ:Bool:=zI (Option.getD y2[Int.toNat y0]? (0:Int))
def hY:Int:=IntKind.wrap .i64 (y0 + (1:Int))
end
def Nq:bt→List (Nat×SV)
 |(y0,y1,_)=> [(8,(.one ⟨false,[.val (.int .i64 y0)]⟩)),(7,(.one ⟨false,[.val (.int .i64 y1)]⟩)),(1,(.one ⟨false,[.val (.func (.func 159) ⟨[]⟩ ⟨[]⟩)]⟩)),(0,(.one ⟨false,[.ref 0]⟩))]
def Nn:bt→List (Nat×Entry)
 |(_,_,y2)=> [(0,(.row false 2 ajn y2))]
def Nu:Nat→bt→List (Nat×SV)
 |0,(y0,_,_)=> [(4,(.one ⟨false,[.val (.int .i64 y0)]⟩))]
 |_,(_,_,_)=> []
def Ns:Nat→bt→List (Nat×Entry)
 |0,(_,_,y2)=> [(0,(.row false 2 ajn y2))]
 |_,(_,_,y2)=> [(0,(.row false 2 ajn y2))]
def gy:bt→LT bt
 |(y0,y1,y2)=> .ite (gV y0 y1) (.need [gW y0,gX y0 y2,gY y0 y2] (.ite (gZ y0 y2) (.ext 0 [(0,0)]) (.nrm ((hY y0),y1,y2) [(0,0)]))) (.ext 1 [(0,0)])
def pn(s:St):Option bt:=
 (match s.look 8 with
 |some ⟨none,.one ⟨false,[.val (.int .i64 y0)]⟩⟩=>
 (match s.look 7 with
 |some ⟨none,.one ⟨false,[.val (.int .i64 y1)]⟩⟩=>
 (match s.look 1 with
 |some ⟨none,.one ⟨false,[.val (.func (.func 159) ⟨[]⟩ ⟨[]⟩)]⟩⟩=>
 (match s.look 0 with
 |some ⟨none,.one ⟨false,[.ref 0]⟩⟩=>
 (match s.ent 0 with
 |some (.row false 2 (.int .i64) y2)=>
 some (y0,y1,y2)
 |_=>none)
 |_=>none)
 |_=>none)
 |_=>none)
 |_=>none)
def aF:Lp bt where
 h:=⟨[9,10,5,11,12,13,14,15,16,17,4,18,8],[0],[],[]⟩
 JL:=Nq
 JE:=Nn
 XL:=Nu
 XE:=Ns
 q:=fun j=>match j with | 0=> .ret | _=> .exit 0
 tags:= [0,1]
 lt:=gy
 fuel:=fun(y0,y1,y2)=>y0.natAbs + y1.natAbs + y2.length
 fix:=fun(_,y1,y2) (y0,_,_)=>(y0,y1,y2)
 σ:= [(0,0)]
 rd:=pn
theorem Md:LoopOk prog (fun k=>Nat.blt k Tryz.f211.ntmps) aF.F (aK f211 0):=by
 refine Lp.ok (tbl:= [RG]) (lf:= []) aO aF (by kernel_rfl) (LOk.nil _) (fun _=>rfl) (fun j _=>by unfold aF;match j with | 0=>rfl | _ + 1=>rfl) ?_ ?_ ?_ ?_ (fun _=>rfl) ?_
 ·rintro⟨y0,y1,y2⟩;kernel_rfl
 ·rintro⟨y0,y1,y2⟩;kernel_rfl
 ·intro s x h
  have h:pn s=some x:=h
  unfold pn at h
  repeat' split at h
  all_goals cases h
  exact⟨aa (by assumption) rfl (aa (by assumption) rfl (aa (by assumption) rfl (aa (by assumption) rfl (rfl)))),ab rfl (by assumption) rfl (rfl)⟩
 ·rintro⟨y0,y1,y2⟩;kernel_rfl
 ·rintro⟨y0,y1,y2⟩ z;exact(And.intro (And.intro trivial rfl) trivial)
section
variable (x0:List Int)
def lM:Int×Int×List Int:=((0:Int),(↑x0.length:Int),x0)
def sP:Int:=bif Nat.beq ((Lp.res aF (lM x0)).1) (0:Nat)then ((Lp.res aF (lM x0)).2).1else(-1:Int)
def sQ:Bool:=allT [Lp.fin aF (lM x0)]
end
def CS:List SV→List Entry→Option Out
 | [.one ⟨false,[.ref 0]⟩,.one ⟨false,[.val (.func (.func 159) ⟨[]⟩ ⟨[]⟩)]⟩],[.row false 2 (.int .i64) x0]=>some ⟨.one ⟨false,[.val (.int .i64 (sP x0))]⟩,[.row false 2 ajn x0],[],[sQ x0]⟩
 |_,_=>none
def sM:PF prog:=PF.ofG prog [RG] [aF.F] aO 211 f211 func211 (LOk.fnT (l:= [aK f211 0]) (by kernel_rfl) (.cons Md (.nil _))) CS (by
 intro vs es r h;unfold CS at h;split at h
 ·cases h;kernel_rfl
 ·cases h)
def qy(x0:List Int):Bool:=leI (0:Int) (sP x0)
def qz(x0:List Int):Bool:=allT [sQ x0]
def zC:List SV→List Entry→Option Out
 | [.one ⟨false,[.ref 0]⟩,.one ⟨false,[.val (.func (.func 159) ⟨[]⟩ ⟨[]⟩)]⟩],[.row false 2 (.int .i64) x0]=>some ⟨.one ⟨false,[.val (.bool (qy x0))]⟩,[.row false 2 ajn x0],[],[qz x0]⟩
 |_,_=>none
def qu:PF prog:=PF.ofG prog [sM,PF.lend sM,PF.fz sM] [] aO 158 f158 func158 (fun c _=>LOk.nil c) zC (by
 intro vs es r h;unfold zC at h;split at h
 ·cases h;kernel_rfl
 ·cases h)
def WZ(x0:List Int):Bool:= !qy x0
def Xa(x0:List Int):Bool:=allT [qz x0]
def adQ:List SV→List Entry→Option Out
 | [.one ⟨false,[.ref 0]⟩],[.row false 2 (.int .i64) x0]=>some ⟨.one ⟨false,[.val (.bool (WZ x0))]⟩,[.row false 2 ajn x0],[],[Xa x0]⟩
 |_,_=>none
def aol:PF prog:=PF.ofG prog [alO,qu,PF.lend qu,PF.fz qu] [] aO 64 f64 func64 (fun c _=>LOk.nil c) adQ (by
 intro vs es r h;unfold adQ at h;split at h
 ·cases h;kernel_rfl
 ·cases h)
def bX(x0 x3:Int)(x4:List Int):Bool:=Option.getD x4[Int.toNat x3]? (0:Int)==IntKind.wrap .i64 (IntKind.wrap .i64 ((3:Int) * IntKind.wrap .i64 (x0 - (1:Int))) + (1:Int))
def sv(x3:Int)(x4:List Int):Bool:=allT [leI (0:Int) x3,ltI x3 (↑x4.length:Int),ltN x3.toNat x4.length]
def adY:List SV→List Entry→Option Out
 | [.one ⟨true,[.val (.int .i64 x0),.ref 0,.ref 1,.ref 2,.ref 3,.val (.int .i64 _x1),.ref 4,.ref 5,.val (.int .i64 _x2)]⟩,.one ⟨false,[.val (.int .i64 x3)]⟩],[.row false 2 (.int .i64) x4,.row false 169 (.pair (.int .i64) (.pair (.int .i64) (.int .i64))) x5,.row false 24 (.sl 2 (.int .i64)) x6,.row false 100 (.pair (.int .i64) (.pair (.int .i64) (.int .i64))) x7,.row false 173 (.pair (.int .i64) (.int .i64)) x8,.row false 176 (.pair (.int .i64) (.int .i64)) x9]=>some ⟨.one ⟨false,[.val (.bool (bX x0 x3 x4))]⟩,[.row false 2 ajn x4,.row false 169 adk x5,.row false 24 (CTy.sl (2:TypeId) ajn) x6,.row false 100 adk x7,.row false 173 aiq x8,.row false 176 aiq x9],[],[sv x3 x4]⟩
 |_,_=>none
def gL:PF prog:=PF.ofG prog [] [] aO 93 f93 func93 (fun c _=>LOk.nil c) adY (by
 intro vs es r h;unfold adY at h;split at h
 ·cases h;kernel_rfl
 ·cases h)
abbrev ll:=Int×Int×List Int
section
variable (y0 y1:Int)(y2:List Int)
def xH:Int:=Option.getD y2[Int.toNat y0]? (0:Int)
def zk:Bool:=ltI y0 (↑y2.length:Int)
def Gg:Bool:=leI (0:Int) y0
def Gh:Bool:=ltN y0.toNat y2.length
def Gi:Int:=IntKind.wrap .i64 (y0 + (1:Int))
def Gj:Int:=an1 (xH y0 y2) y1 (xH y0 y2) y1
end
def ajN:ll→List (Nat×SV)
 |(y0,y1,_)=> [(4,(.one ⟨false,[.val (.int .i64 y0)]⟩)),(0,(.one ⟨false,[.ref 0]⟩)),(3,(.one ⟨false,[.val (.int .i64 y1)]⟩))]
def ajE:ll→List (Nat×Entry)
 |(_,_,y2)=> [(0,(.row false 2 ajn y2))]
def aj6:Nat→ll→List (Nat×SV)
 |_,(_,y1,_)=> [(3,(.one ⟨false,[.val (.int .i64 y1)]⟩))]
def ajX:Nat→ll→List (Nat×Entry)
 |_,(_,_,y2)=> [(0,(.row false 2 ajn y2))]
def Di:ll→LT ll
 |(y0,y1,y2)=> .ite (zk y0 y2) (.need [Gg y0,zk y0 y2,Gh y0 y2] (.nrm ((Gi y0),Gj y0 y1 y2,y2) [(0,0)])) (.ext 0 [(0,0)])
def Rg(s:St):Option ll:=
 (match s.look 4 with
 |some ⟨none,.one ⟨false,[.val (.int .i64 y0)]⟩⟩=>
 (match s.look 0 with
 |some ⟨none,.one ⟨false,[.ref 0]⟩⟩=>
 (match s.look 3 with
 |some ⟨none,.one ⟨false,[.val (.int .i64 y1)]⟩⟩=>
 (match s.ent 0 with
 |some (.row false 2 (.int .i64) y2)=>
 some (y0,y1,y2)
 |_=>none)
 |_=>none)
 |_=>none)
 |_=>none)
def fI:Lp ll where
 h:=⟨[8,9,10,11,14,15,16,17,18,19,3,12,13,4],[0],[],[]⟩
 JL:=ajN
 JE:=ajE
 XL:=aj6
 XE:=ajX
 q:=fun j=>match j with | _=> .exit 0
 tags:= [0]
 lt:=Di
 fuel:=fun(y0,y1,y2)=>y0.natAbs + y1.natAbs + y2.length
 fix:=fun(_,_,y2) (y0,y1,_)=>(y0,y1,y2)
 σ:= [(0,0)]
 rd:=Rg
theorem ahk:LoopOk prog (fun k=>Nat.blt k Tryz.f176.ntmps) fI.F (aK f176 0):=by
 refine Lp.ok (tbl:= []) (lf:= []) aO fI (by kernel_rfl) (LOk.nil _) (fun _=>rfl) (fun _ _=>rfl) ?_ ?_ ?_ ?_ (fun _=>rfl) ?_
 ·rintro⟨y0,y1,y2⟩;kernel_rfl
 ·rintro⟨y0,y1,y2⟩;kernel_rfl
 ·intro s x h
  have h:Rg s=some x:=h
  unfold Rg at h
  repeat' split at h
  all_goals cases h
  exact⟨aa (by assumption) rfl (aa (by assumption) rfl (aa (by assumption) rfl (rfl))),ab rfl (by assumption) rfl (rfl)⟩
 ·rintro⟨y0,y1,y2⟩;kernel_rfl
 ·rintro⟨y0,y1,y2⟩ z;exact(And.intro rfl trivial)
section
variable (x0:List Int)
def KN:Int×Int×List Int:=((1:Int),Option.getD x0[Int.toNat (0:Int)]? (0:Int),x0)
def CI:Int:=((Lp.res fI (KN x0)).2.2).1
def Na:Bool:=allT [ltI (0:Int) (↑x0.length:Int),ltN (Int.toNat (0:Int)) x0.length,Lp.fin fI (KN x0)]
end
def af9:List SV→List Entry→Option Out
 | [.one ⟨false,[.ref 0]⟩],[.row false 2 (.int .i64) x0]=>some ⟨.one ⟨false,[.val (.int .i64 (CI x0))]⟩,[.row false 2 ajn x0],[],[Na x0]⟩
 |_,_=>none
def YW:PF prog:=PF.ofG prog [] [fI.F] aO 176 f176 func176 (LOk.fnT (l:= [aK f176 0]) (by kernel_rfl) (.cons ahk (.nil _))) af9 (by
 intro vs es r h;unfold af9 at h;split at h
 ·cases h;kernel_rfl
 ·cases h)
def Hu(st:List Int):Bool:=st.all fun x=>x==2
def nu(b:Int):(Int)→Nat ⊕ (Int)
 |y1=>(.inr (an1 b y1 b y1))
def mp(y2:List Int)(i:Nat):(Int)→ll
 |y1=>(((i + 1:Nat):Int),y1,y2)
def QX:ll→Int
 |(_,y1,_)=>y1
theorem abJ(y2:List Int)(y1:Int)(hn:y2.length≤9223372036854775807):
  fI.fin ((1:Int),y1,y2)=true∧fI.res ((1:Int),y1,y2)=((aN (nu) 0 (y2.drop 1) 0 y1).1,(mp y2) (aN (nu) 0 (y2.drop 1) 0 y1).2.1 (aN (nu) 0 (y2.drop 1) 0 y1).2.2):=by
 have cH:=fI.along (mp y2) QX (nu) 0 (fun _ _=>True) (y2.drop 1) y1 (by trivial) (by simp only [fI,mp,List.length_drop];omega) (fun i b a hb hI=> ?_) (fun a hI=> ?_)
 ·exact cH
 ·obtain y1:=a
  rw [List.getElem?_drop,Nat.add_comm]at hb
  have dd:=(List.getElem?_eq_some_iff.1 hb).1
  have gc: ∀ d,Option.getD y2[i + 1]? d=b:=fun d=>by rw [hb];rfl
  have hw:IntKind.i64.wrap (((i + 1:Nat):Int) + 1)=((i + 1 + 1:Nat):Int):=by rw [aw (by omega) (by omega)];omega
  have bW:ltI ((i + 1:Nat):Int) (y2.length:Int)=true:=du (by omega)
  have pY:leI (0:Int) ((i + 1:Nat):Int)=true:=ct (by omega)
  have dw:ltN (i + 1) y2.length=true:=ec dd
  refine⟨?_,?_,?_,?_⟩
  ·simp only [xH,zk,Gg,Gh,Gi,Gj,Di,fI,LT.nds,allT,mp,Int.toNat_natCast,bW,pY,dw,gc,cond_true]
  ·simp only [xH,zk,Gg,Gh,Gi,Gj,Di,fI,LT.each,mp,QX,hw,and_self]
  ·simp only [xH,zk,Gg,Gh,Gi,Gj,Di,fI,LT.fn,mp,QX,nu,Int.toNat_natCast,bW,pY,dw,gc,cond_true,Bool.cond_self]
  ·exact fun _ _=>trivial
 ·obtain y1:=a
  simp only [xH,zk,Gg,Gh,Gi,Gj,Di,fI,LT.out,mp,List.length_drop];rw [show ltI (((y2.length - 1) + 1:Nat):Int) (y2.length:Int)=false from akN (by omega)];rfl
def dV(b:Int):(Unit)→Nat ⊕ (Unit)
 |_=>(bif(zI b)then(.inl 0)else(.inr ()))
def bV(y2:List Int)(i:Nat):(Unit)→bt
 |_=>((i:Int),(↑y2.length:Int),y2)
def pk:bt→Unit
 |(_,_,_)=>()
theorem OJ(y2:List Int) (hn:y2.length≤9223372036854775807):
  aF.fin ((0:Int),(↑y2.length:Int),y2)=true∧aF.res ((0:Int),(↑y2.length:Int),y2)=((aN (dV) 1 y2 0 ()).1,(bV y2) (aN (dV) 1 y2 0 ()).2.1 (aN (dV) 1 y2 0 ()).2.2):=by
 have cH:=aF.along (bV y2) pk (dV) 1 (fun _ _=>True) y2 () (by trivial) (by simp only [aF,bV];omega) (fun i b a hb hI=> ?_) (fun a hI=> ?_)
 ·exact cH
 ·obtain⟨⟩:=a
  have dd:=(List.getElem?_eq_some_iff.1 hb).1
  have gc: ∀ d,Option.getD y2[i]? d=b:=fun d=>by rw [hb];rfl
  have hw:=tQ dd hn
  have bW:ltI (i:Int) (y2.length:Int)=true:=du (by omega)
  have pY:leI (0:Int) (i:Int)=true:=ct (by omega)
  have dw:ltN i y2.length=true:=ec dd
  refine⟨?_,?_,?_,?_⟩
  ·simp [gV,gW,gX,gY,gZ,hY,gy,aF,LT.nds,allT,bV,bW,pY,dw,gc]
  ·simp [gV,gW,gX,gY,gZ,hY,gy,aF,LT.each,bV,pk,hw]
  ·simp only [gV,gW,gX,gY,gZ,hY,gy,aF,LT.fn,bV,pk,dV,Int.toNat_natCast,bW,pY,dw,gc,cond_true,Bool.cond_self]
  ·exact fun _ _=>trivial
 ·obtain⟨⟩:=a
  simp [gV,gW,gX,gY,gZ,hY,gy,aF,LT.out,bV]
theorem GZ{st:List Int}:areR st=true↔(1≤st.length∧st.length≤12)∧ ∀ v∈st,0≤v∧v≤2:=by
 simp only [areR,Bool.and_eq_true,sa,List.all_eq_true]
 constructor
 ·rintro⟨h1,h2⟩;exact⟨by omega,h2⟩
 ·rintro⟨h1,h2⟩;exact⟨by omega,h2⟩
theorem awR(st:List Int)(h:areR st=true):(CI st==2)=Hu st∧Na st=true:=by
 obtain⟨h1,h2⟩:=GZ.1 h
 match st,h1,h2 with
 |x::xs,h1,h2=>
  have hx:=h2 x (by simp)
  obtain⟨w1,w2⟩:=abJ (x::xs) x (by omega)
  rw [jI (f:=nu) (g:=fun m b=>bif ltI b m then b else m) (fun b a=>by simp only [nu,amU])]at w2
  have e0:Option.getD (x::xs)[Int.toNat 0]? 0=x:=rfl
  refine⟨?_,?_⟩
  ·simp only [CI,KN,e0,w2,mp,List.drop_one,List.tail_cons]
   rw [an6 xs x hx.1 hx.2 fun y hy=>h2 y (by simp [hy])]
   rfl
  ·simp only [Na,KN,e0,w1,allT]
   simp
theorem ari(st:List Int)(h:leN st.length 9223372036854775807=true):WZ st=Hu st∧Xa st=true:=by
 obtain⟨w1,w2⟩:=OJ st (dT.1 h)
 rw [kH (P:=fun v=>v !=2) (j:=0) (fun v=>by simp only [dV,zI])]at w2
 have e5:(st.any fun v=>v !=2)= !Hu st:=by simp [Hu,List.all_eq_not_any_not,bne]
 rw [e5]at w2
 simp only [WZ,Xa,qy,qz,sP,sQ,lM,w1,w2,allT,bV]
 cases Hu st with
 |true=>exact⟨rfl,rfl⟩
 |false=>
  simp only [Bool.not_false,cond_true,Nat.beq]
  rw [ct (by omega)];simp
def ad9:List SV→List Entry→Option Out
 | [.one ⟨false,[.ref 0]⟩],[.row false 2 (.int .i64) x0]=>some ⟨.one ⟨false,[.val (.bool (Hu x0))]⟩,[.row false 2 ajn x0],[],[leN x0.length 9223372036854775807]⟩
 |_,_=>none
def kB:PF prog:=PF.alt aol ad9 (by
 intro args es o h bz;unfold ad9 at h;split at h
 ·rename_i x0
  cases h
  have bz:=fM bz
  have hh:=ari x0 bz
  obtain⟨e0,en⟩:=hh
  exact jK rfl (fj en) (by simp only [e0] <;> rfl) rfl rfl
 ·cases h)
def ac(x0 x3:Int)(x4:List Int):Bool:=Option.getD x4[Int.toNat x3]? (0:Int)==IntKind.wrap .i64 (IntKind.wrap .i64 ((3:Int) * IntKind.wrap .i64 (x0 - (1:Int))) + (1:Int))
def bq(x3:Int)(x4:List Int):Bool:=allT [leI (0:Int) x3,ltI x3 (↑x4.length:Int),ltN x3.toNat x4.length]
def vU:List SV→List Entry→Option Out
 | [.one ⟨true,[.val (.int .i64 x0),.ref 0,.ref 1,.ref 2,.ref 3,.val (.int .i64 _x1),.ref 4,.ref 5,.val (.int .i64 _x2)]⟩,.one ⟨false,[.val (.int .i64 x3)]⟩],[.row false 2 (.int .i64) x4,.row false 169 (.pair (.int .i64) (.pair (.int .i64) (.int .i64))) x5,.row false 24 (.sl 2 (.int .i64)) x6,.row false 100 (.pair (.int .i64) (.pair (.int .i64) (.int .i64))) x7,.row false 173 (.pair (.int .i64) (.int .i64)) x8,.row false 176 (.pair (.int .i64) (.int .i64)) x9]=>some ⟨.one ⟨false,[.val (.bool (ac x0 x3 x4))]⟩,[.row false 2 ajn x4,.row false 169 adk x5,.row false 24 (CTy.sl (2:TypeId) ajn) x6,.row false 100 adk x7,.row false 173 aiq x8,.row false 176 aiq x9],[],[bq x3 x4]⟩
 |_,_=>none
def aP:PF prog:=PF.ofG prog [] [] aO 63 f63 func63 (fun c _=>LOk.nil c) vU (by
 intro vs es r h;unfold vU at h;split at h
 ·cases h;kernel_rfl
 ·cases h)
abbrev qL:=Int×Int×List (List Int)×Int×Int×Int×List Int×List (Int×(Int×Int))×List (Int×(Int×Int))×List (Int×Int)×List (Int×Int)
section
variable (y0 y1:Int)(y2:List (List Int))(y3:Int)(y6:List Int)
def CU:List Int:=Option.getD y2[Int.toNat y0]? (DA (CTy.sl (2:TypeId) ajn))
def LO:Bool:=ltI y0 y1
def aax:Bool:=leI (0:Int) y0
def aay:Bool:=ltI y0 (↑y2.length:Int)
def aaz:Bool:=ltN y0.toNat y2.length
def aaA:Bool:=bq y0 y6
def aaB:Bool:= !(!ac y3 y0 y6&&true)||leN (List.length (CU y0 y2)) (9223372036854775807:Nat)
def ST:Bool:=bif !ac y3 y0 y6 then !Hu (CU y0 y2)else false
def aaC:Int:=IntKind.wrap .i64 (y0 + (1:Int))
end
def ajG:qL→List (Nat×SV)
 |(y0,y1,_,_,_,_,_,_,_,_,_)=> [(17,(.one ⟨false,[.val (.int .i64 y0)]⟩)),(16,(.one ⟨false,[.val (.int .i64 y1)]⟩)),(15,(.one ⟨false,[.ref 0]⟩)),(1,(.one ⟨false,[.ptr 1 0]⟩))]
def ajx:qL→List (Nat×Entry)
 |(_,_,y2,y3,y4,y5,y6,y7,y8,y9,y10)=> [(0,(.row false 24 (CTy.sl (2:TypeId) ajn) y2)),(1,(.box 33 [.val (.int .i64 y3),.ref 2,.ref 3,.ref 0,.ref 4,.val (.int .i64 y4),.ref 5,.ref 6,.val (.int .i64 y5)])),(2,(.row false 2 ajn y6)),(3,(.row false 169 adk y7)),(4,(.row false 100 adk y8)),(5,(.row false 173 aiq y9)),(6,(.row false 176 aiq y10))]
def ajZ:Nat→qL→List (Nat×SV)
 |0,(_,_,_,_,_,_,_,_,_,_,_)=> [(2,(.one ⟨false,[.val (.bool false)]⟩))]
 |_,(_,_,_,_,_,_,_,_,_,_,_)=> []
def ajQ:Nat→qL→List (Nat×Entry)
 |0,(_,_,y2,y3,y4,y5,y6,y7,y8,y9,y10)=> [(0,(.row false 24 (CTy.sl (2:TypeId) ajn) y2)),(1,(.box 33 [.val (.int .i64 y3),.ref 2,.ref 3,.ref 0,.ref 4,.val (.int .i64 y4),.ref 5,.ref 6,.val (.int .i64 y5)])),(2,(.row false 2 ajn y6)),(3,(.row false 169 adk y7)),(4,(.row false 100 adk y8)),(5,(.row false 173 aiq y9)),(6,(.row false 176 aiq y10))]
 |_,(_,_,y2,y3,y4,y5,y6,y7,y8,y9,y10)=> [(0,(.row false 24 (CTy.sl (2:TypeId) ajn) y2)),(1,(.box 33 [.val (.int .i64 y3),.ref 2,.ref 3,.ref 0,.ref 4,.val (.int .i64 y4),.ref 5,.ref 6,.val (.int .i64 y5)])),(2,(.row false 2 ajn y6)),(3,(.row false 169 adk y7)),(4,(.row false 100 adk y8)),(5,(.row false 173 aiq y9)),(6,(.row false 176 aiq y10))]
def Db:qL→LT qL
 |(y0,y1,y2,y3,y4,y5,y6,y7,y8,y9,y10)=> .ite (LO y0 y1) (.need [aax y0,aay y0 y2,aaz y0 y2] (.need [aaA y0 y6,aaB y0 y2 y3 y6] (.ite (ST y0 y2 y3 y6) (.ext 0 [(0,0),(1,1),(2,2),(3,3),(4,4),(5,5),(6,6)]) (.nrm ((aaC y0),y1,y2,y3,y4,y5,y6,y7,y8,y9,y10) [(0,0),(1,1),(2,2),(3,3),(4,4),(5,5),(6,6)])))) (.ext 1 [(0,0),(1,1),(2,2),(3,3),(4,4),(5,5),(6,6)])
def QZ(s:St):Option qL:=
 (match s.look 17 with
 |some ⟨none,.one ⟨false,[.val (.int .i64 y0)]⟩⟩=>
 (match s.look 16 with
 |some ⟨none,.one ⟨false,[.val (.int .i64 y1)]⟩⟩=>
 (match s.look 15 with
 |some ⟨none,.one ⟨false,[.ref 2]⟩⟩=>
 (match s.look 1 with
 |some ⟨none,.one ⟨false,[.ptr 448 0]⟩⟩=>
 (match s.ent 2 with
 |some (.row false 24 (.sl 2 (.int .i64)) y2)=>
 (match s.ent 448 with
 |some (.box 33 [.val (.int .i64 y3),.ref 0,.ref 1,.ref 2,.ref 3,.val (.int .i64 y4),.ref 4,.ref 5,.val (.int .i64 y5)])=>
 (match s.ent 0 with
 |some (.row false 2 (.int .i64) y6)=>
 (match s.ent 1 with
 |some (.row false 169 (.pair (.int .i64) (.pair (.int .i64) (.int .i64))) y7)=>
 (match s.ent 3 with
 |some (.row false 100 (.pair (.int .i64) (.pair (.int .i64) (.int .i64))) y8)=>
 (match s.ent 4 with
 |some (.row false 173 (.pair (.int .i64) (.int .i64)) y9)=>
 (match s.ent 5 with
 |some (.row false 176 (.pair (.int .i64) (.int .i64)) y10)=>
 some (y0,y1,y2,y3,y4,y5,y6,y7,y8,y9,y10)
 |_=>none)
 |_=>none)
 |_=>none)
 |_=>none)
 |_=>none)
 |_=>none)
 |_=>none)
 |_=>none)
 |_=>none)
 |_=>none)
 |_=>none)
def eq:Lp qL where
 h:=⟨[18,19,20,21,3,4,22,23,24,25,26,27,28,29,30,2,31,17],[0,1,2,3,4,5,6],[],[]⟩
 JL:=ajG
 JE:=ajx
 XL:=ajZ
 XE:=ajQ
 q:=fun j=>match j with | 0=> .ret | _=> .exit 0
 tags:= [0,1]
 lt:=Db
 fuel:=fun(y0,y1,y2,y3,y4,y5,y6,y7,y8,y9,y10)=>y0.natAbs + y1.natAbs + y2.length + y3.natAbs + y4.natAbs + y5.natAbs + y6.length + y7.length + y8.length + y9.length + y10.length
 fix:=fun(_,y1,y2,y3,y4,y5,y6,y7,y8,y9,y10) (y0,_,_,_,_,_,_,_,_,_,_)=>(y0,y1,y2,y3,y4,y5,y6,y7,y8,y9,y10)
 σ:= [(0,2),(1,448),(2,0),(3,1),(4,3),(5,4),(6,5)]
 rd:=QZ
theorem ahd:LoopOk prog (fun k=>Nat.blt k Tryz.f16.ntmps) eq.F (aK f16 0):=by
 refine Lp.ok (tbl:= [rM,PF.lend rM,PF.fz rM,dv,PF.lend dv,PF.fz dv,aP,PF.lend aP,PF.fz aP,kB,PF.lend kB,PF.fz kB]) (lf:= []) aO eq (by kernel_rfl) (LOk.nil _) (fun _=>rfl) (fun j _=>by unfold eq;match j with | 0=>rfl | _ + 1=>rfl) ?_ ?_ ?_ ?_ (fun _=>rfl) ?_
 ·rintro⟨y0,y1,y2,y3,y4,y5,y6,y7,y8,y9,y10⟩;kernel_rfl
 ·rintro⟨y0,y1,y2,y3,y4,y5,y6,y7,y8,y9,y10⟩;kernel_rfl
 ·intro s x h
  have h:QZ s=some x:=h
  unfold QZ at h
  repeat' split at h
  all_goals cases h
  exact⟨aa (by assumption) rfl (aa (by assumption) rfl (aa (by assumption) rfl (aa (by assumption) rfl (rfl)))),ab rfl (by assumption) rfl (ab rfl (by assumption) rfl (ab rfl (by assumption) rfl (ab rfl (by assumption) rfl (ab rfl (by assumption) rfl (ab rfl (by assumption) rfl (ab rfl (by assumption) rfl (rfl)))))))⟩
 ·rintro⟨y0,y1,y2,y3,y4,y5,y6,y7,y8,y9,y10⟩;kernel_rfl
 ·rintro⟨y0,y1,y2,y3,y4,y5,y6,y7,y8,y9,y10⟩ z;exact(And.intro (And.intro trivial rfl) trivial)
section
variable (x0 x1 x2:Int)(x3:List Int)(x4:List (Int×Int×Int))(x5:List (List Int))(x6:List (Int×Int×Int))(x7 x8:List (Int×Int))
def WU:Bool:=bif !kO x0 x3 x4 x5 x6 x1 x7 x8 x2 then true else !aa6 x0 x3
def WV:Int×Int×List (List Int)×Int×Int×Int×List Int×List (Int×Int×Int)×List (Int×Int×Int)×List (Int×Int)×List (Int×Int):=((0:Int),(↑x5.length:Int),x5,x0,x1,x2,x3,x4,x6,x7,x8)
def YF:Bool:=bif WU x0 x1 x2 x3 x4 x5 x6 x7 x8 then false else bif Nat.beq ((Lp.res eq (WV x0 x1 x2 x3 x4 x5 x6 x7 x8)).1) (0:Nat)then false else true
def YG:Bool:=allT [rV (9223372036854775807:Nat) x3 x4 x5 x6 x7 x8,!(!!kO x0 x3 x4 x5 x6 x1 x7 x8 x2&&true)||isT x0 x3,WU x0 x1 x2 x3 x4 x5 x6 x7 x8||Lp.fin eq (WV x0 x1 x2 x3 x4 x5 x6 x7 x8)]
end
def af1:List SV→List Entry→Option Out
 | [.one ⟨true,[.val (.int .i64 x0),.ref 0,.ref 1,.ref 2,.ref 3,.val (.int .i64 x1),.ref 4,.ref 5,.val (.int .i64 x2)]⟩],[.row false 2 (.int .i64) x3,.row false 169 (.pair (.int .i64) (.pair (.int .i64) (.int .i64))) x4,.row false 24 (.sl 2 (.int .i64)) x5,.row false 100 (.pair (.int .i64) (.pair (.int .i64) (.int .i64))) x6,.row false 173 (.pair (.int .i64) (.int .i64)) x7,.row false 176 (.pair (.int .i64) (.int .i64)) x8]=>some ⟨.one ⟨false,[.val (.bool (YF x0 x1 x2 x3 x4 x5 x6 x7 x8))]⟩,[.row false 2 ajn x3,.row false 169 adk x4,.row false 24 (CTy.sl (2:TypeId) ajn) x5,.row false 100 adk x6,.row false 173 aiq x7,.row false 176 aiq x8],[],[YG x0 x1 x2 x3 x4 x5 x6 x7 x8]⟩
 |_,_=>none
def apu:PF prog:=PF.ofG prog [rM,PF.lend rM,PF.fz rM,dv,PF.lend dv,PF.fz dv,aP,PF.lend aP,PF.fz aP,kB,PF.lend kB,PF.fz kB] [eq.F] aO 16 f16 func16 (LOk.fnT (l:= [aK f16 0]) (by kernel_rfl) (.cons ahd (.nil _))) af1 (by
 intro vs es r h;unfold af1 at h;split at h
 ·cases h;kernel_rfl
 ·cases h)
end Go.SX
