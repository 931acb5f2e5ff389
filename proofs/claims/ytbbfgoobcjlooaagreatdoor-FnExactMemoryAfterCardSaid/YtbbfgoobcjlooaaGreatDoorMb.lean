/- What functions of the program come to, and what that says in plain words: part 2. -/
import Derived.Test.YtbbfgoobcjlooaaGreatDoorMa
import Derived.Test.YtbbfgoobcjlooaaGreatDoorTXh
import Derived.Test.YtbbfgoobcjlooaaGreatDoorProg
set_option linter.unusedSimpArgs false
set_option linter.unusedVariables false
namespace Go.SX
open Go.Proofs Go.Proofs.Tryz
set_option maxRecDepth 100000
abbrev mU:=Int×ByteArray×List ByteArray
section
variable (y0:Int)(y1:ByteArray)(y2:List ByteArray)
def yh:Bool:=ltI y0 (↑y2.length:Int)
def Dx:Bool:=leI (0:Int) y0
def Dy:Bool:=ltN y0.toNat y2.length
def Dz:Bool:=ByteArray.toList (Option.getD y2[Int.toNat y0]? ByteArray.empty)==ByteArray.toList y1
def DA:Int:=IntKind.wrap .i64 (y0 + (1:Int))
end
def ach:mU→List (Nat×SV)
 |(y0,y1,_)=> [(5,(.one ⟨false,[.val (.int .i64 y0)]⟩)),(0,(.one ⟨false,[.ref 0]⟩)),(1,(.one ⟨false,[.val (.string y1)]⟩))]
def ab6:mU→List (Nat×Entry)
 |(_,_,y2)=> [(0,(.row false 9 aih y2))]
def acB:Nat→mU→List (Nat×SV)
 |0,(y0,_,_)=> [(4,(.one ⟨false,[.val (.int .i64 y0)]⟩))]
 |_,(_,_,_)=> []
def acr:Nat→mU→List (Nat×Entry)
 |0,(_,_,y2)=> [(0,(.row false 9 aih y2))]
 |_,(_,_,y2)=> [(0,(.row false 9 aih y2))]
def Bw:mU→LT mU
 |(y0,y1,y2)=> .ite (yh y0 y2) (.need [Dx y0,yh y0 y2,Dy y0 y2] (.ite (Dz y0 y1 y2) (.ext 0 [(0,0)]) (.nrm ((DA y0),y1,y2) [(0,0)]))) (.ext 1 [(0,0)])
def MD(s:St):Option mU:=
 (match s.look 5 with
 |some ⟨none,.one ⟨false,[.val (.int .i64 y0)]⟩⟩=>
 (match s.look 0 with
 |some ⟨none,.one ⟨false,[.ref 0]⟩⟩=>
 (match s.look 1 with
 |some ⟨none,.one ⟨false,[.val (.string y1)]⟩⟩=>
 (match s.ent 0 with
 |some (.row false 9 (.str) y2)=>
 some (y0,y1,y2)
 |_=>none)
 |_=>none)
 |_=>none)
 |_=>none)
def dY:Lp mU where
 h:=⟨[6,7,8,9,12,13,14,15,16,17,18,4,10,11,5],[0],[],[]⟩
 JL:=ach
 JE:=ab6
 XL:=acB
 XE:=acr
 q:=fun j=>match j with | 0=> .ret | _=> .exit 0
 tags:= [0,1]
 lt:=Bw
 fuel:=fun(y0,y1,y2)=>y0.natAbs + y1.size + y2.length
 fix:=fun(_,y1,y2) (y0,_,_)=>(y0,y1,y2)
 σ:= [(0,0)]
 rd:=MD
theorem ZH:LoopOk prog (fun k=>Nat.blt k Tryz.f143.ntmps) dY.F (aL f143 0):=by
 refine Lp.ok (tbl:= []) (lf:= []) aN dY (by kernel_rfl) (LOk.nil _) (fun _=>rfl) (fun j _=>by unfold dY;match j with | 0=>rfl | _ + 1=>rfl) ?_ ?_ ?_ ?_ (fun _=>rfl) ?_
 ·rintro⟨y0,y1,y2⟩;kernel_rfl
 ·rintro⟨y0,y1,y2⟩;kernel_rfl
 ·intro s x h
  have h:MD s=some x:=h
  unfold MD at h
  repeat' split at h
  all_goals cases h
  exact⟨aa (by assumption) rfl (aa (by assumption) rfl (aa (by assumption) rfl (rfl))),ab rfl (by assumption) rfl (rfl)⟩
 ·rintro⟨y0,y1,y2⟩;kernel_rfl
 ·rintro⟨y0,y1,y2⟩ z;exact(And.intro (And.intro trivial rfl) trivial)
section
variable (x0:ByteArray)(x1:List ByteArray)
def Ma:Int×ByteArray×List ByteArray:=((0:Int),x0,x1)
def IH:Int:=bif Nat.beq ((Lp.res dY (Ma x0 x1)).1) (0:Nat)then ((Lp.res dY (Ma x0 x1)).2).1else(-1:Int)
def NA:Bool:=allT [Lp.fin dY (Ma x0 x1)]
end
def YD:List SV→List Entry→Option Out
 | [.one ⟨false,[.ref 0]⟩,.one ⟨false,[.val (.string x0)]⟩],[.row false 9 (.str) x1]=>some ⟨.one ⟨false,[.val (.int .i64 (IH x0 x1))]⟩,[.row false 9 aih x1],[],[NA x0 x1]⟩
 |_,_=>none
def Ap:PF prog:=PF.ofG prog [] [dY.F] aN 143 f143 func143 (LOk.fnT (l:= [aL f143 0]) (by kernel_rfl) (.cons ZH (.nil _))) YD (by
 intro vs es r h;unfold YD at h;split at h
 ·cases h;kernel_rfl
 ·cases h)
abbrev mR:=Int×List ByteArray
section
variable (y0:Int)(y1:List ByteArray)
def qi:ByteArray:=Option.getD y1[Int.toNat y0]? ByteArray.empty
def yc:Bool:=ltI y0 (↑y1.length:Int)
def Ii:Bool:=leI (0:Int) y0
def Ij:Bool:=ltN y0.toNat y1.length
def Ik:Bool:=tY (qi y0 y1)
def Dn:Bool:= !mH (qi y0 y1)
def Il:Int:=IntKind.wrap .i64 (y0 + (1:Int))
end
def ace:mR→List (Nat×SV)
 |(y0,_)=> [(5,(.one ⟨false,[.val (.int .i64 y0)]⟩)),(0,(.one ⟨false,[.ref 0]⟩))]
def ab3:mR→List (Nat×Entry)
 |(_,y1)=> [(0,(.row false 9 aih y1))]
def acy:Nat→mR→List (Nat×SV)
 |0,(_,_)=> [(4,(.one ⟨false,[.val (.bool false)]⟩))]
 |_,(_,_)=> []
def aco:Nat→mR→List (Nat×Entry)
 |0,(_,y1)=> [(0,(.row false 9 aih y1))]
 |_,(_,y1)=> [(0,(.row false 9 aih y1))]
def Bt:mR→LT mR
 |(y0,y1)=> .ite (yc y0 y1) (.need [Ii y0,yc y0 y1,Ij y0 y1,Ik y0 y1] (.ite (Dn y0 y1) (.ext 0 [(0,0)]) (.nrm ((Il y0),y1) [(0,0)]))) (.ext 1 [(0,0)])
def MA(s:St):Option mR:=
 (match s.look 5 with
 |some ⟨none,.one ⟨false,[.val (.int .i64 y0)]⟩⟩=>
 (match s.look 0 with
 |some ⟨none,.one ⟨false,[.ref 0]⟩⟩=>
 (match s.ent 0 with
 |some (.row false 9 (.str) y1)=>
 some (y0,y1)
 |_=>none)
 |_=>none)
 |_=>none)
def fc:Lp mR where
 h:=⟨[6,7,8,9,12,13,14,15,16,17,4,10,11,5],[0],[],[]⟩
 JL:=ace
 JE:=ab3
 XL:=acy
 XE:=aco
 q:=fun j=>match j with | 0=> .ret | _=> .exit 0
 tags:= [0,1]
 lt:=Bt
 fuel:=fun(y0,y1)=>y0.natAbs + y1.length
 fix:=fun(_,y1) (y0,_)=>(y0,y1)
 σ:= [(0,0)]
 rd:=MA
theorem ZE:LoopOk prog (fun k=>Nat.blt k Tryz.f240.ntmps) fc.F (aL f240 0):=by
 refine Lp.ok (tbl:= [yB,KQ]) (lf:= []) aN fc (by kernel_rfl) (LOk.nil _) (fun _=>rfl) (fun j _=>by unfold fc;match j with | 0=>rfl | _ + 1=>rfl) ?_ ?_ ?_ ?_ (fun _=>rfl) ?_
 ·rintro⟨y0,y1⟩;kernel_rfl
 ·rintro⟨y0,y1⟩;kernel_rfl
 ·intro s x h
  have h:MA s=some x:=h
  unfold MA at h
  repeat' split at h
  all_goals cases h
  exact⟨aa (by assumption) rfl (aa (by assumption) rfl (rfl)),ab rfl (by assumption) rfl (rfl)⟩
 ·rintro⟨y0,y1⟩;kernel_rfl
 ·rintro⟨y0,y1⟩ z;exact(And.intro (And.intro trivial rfl) trivial)
def Su(x0:Int)(x1:List ByteArray):Bool:=bif Nat.beq ((Lp.res fc ((0:Int),x1)).1) (0:Nat)then false else bx (↑x1.length:Int) x0 (20:Int)
def Sv(x1:List ByteArray):Bool:=allT [Lp.fin fc ((0:Int),x1)]
def YA:List SV→List Entry→Option Out
 | [.one ⟨false,[.ref 0]⟩,.one ⟨false,[.val (.int .i64 x0)]⟩],[.row false 9 (.str) x1]=>some ⟨.one ⟨false,[.val (.bool (Su x0 x1))]⟩,[.row false 9 aih x1],[],[Sv x1]⟩
 |_,_=>none
def aiv:PF prog:=PF.ofG prog [yB,KQ] [fc.F] aN 240 f240 func240 (LOk.fnT (l:= [aL f240 0]) (by kernel_rfl) (.cons ZE (.nil _))) YA (by
 intro vs es r h;unfold YA at h;split at h
 ·cases h;kernel_rfl
 ·cases h)
abbrev ku:=Int×Int×List (Int×(ByteArray×Int))×List Int
section
variable (y0 y1:Int)(y2:List (Int×(ByteArray×Int)))(y3:List Int)
def dE:Int×ByteArray×Int:=Option.getD y2[Int.toNat y0]? ((0:Int),ByteArray.empty,(0:Int))
def qw:Bool:= !Lj ((dE y0 y2).1) (((dE y0 y2).2).1) ((dE y0 y2).2.2)
def qx:Int:=IntKind.wrap .i64 (IntKind.wrap .i64 (y1 - mu ((dE y0 y2).1)) + (1:Int))
def rK:Bool:=ltI y0 (↑y2.length:Int)
def vn:Bool:=leI (0:Int) y0
def vo:Bool:=ltN y0.toNat y2.length
def zw:Bool:=Lk ((dE y0 y2).1) (((dE y0 y2).2).1) ((dE y0 y2).2.2)
def zx:Bool:= !(!qw y0 y2&&true)||leI (0:Int) y0
def zy:Bool:= !(!qw y0 y2&&true)||ltI y0 (↑y2.length:Int)
def zA:Bool:= !(!qw y0 y2&&true)||ltN y0.toNat y2.length
def zB:Bool:=bif qw y0 y2 then true else ltI y1 (mu ((dE y0 y2).1))
def zC:Bool:=leN (List.length y3 + List.length [qx y0 y1 y2]) (9223372036854775807:Nat)
def zD:Bool:=leN ((List.length y3 + List.length [qx y0 y1 y2]) * (8:Nat)) (140737488355328:Nat)
def xE:Int:=IntKind.wrap .i64 (y0 + (1:Int))
def xF:Int:=qx y0 y1 y2
def xG:List Int:=y3++ [qx y0 y1 y2]
end
def Zm:ku→List (Nat×SV)
 |(y0,y1,_,_)=> [(6,(.one ⟨false,[.val (.int .i64 y0)]⟩)),(0,(.one ⟨false,[.ref 0]⟩)),(5,(.one ⟨false,[.val (.int .i64 y1)]⟩)),(4,(.one ⟨false,[.ref 1]⟩))]
def Zh:ku→List (Nat×Entry)
 |(_,_,y2,y3)=> [(0,(.row false 178 acD y2)),(1,(.row true 2 agR y3))]
def Zw:Nat→ku→List (Nat×SV)
 |0,(_,_,_,_)=> [(2,(.one ⟨false,[.ref 2]⟩)),(3,(.one ⟨false,[.val (.bool false)]⟩))]
 |_,(_,y1,_,_)=> [(5,(.one ⟨false,[.val (.int .i64 y1)]⟩)),(4,(.one ⟨false,[.ref 1]⟩))]
def Zr:Nat→ku→List (Nat×Entry)
 |0,(_,_,y2,y3)=> [(0,(.row false 178 acD y2)),(1,(.row true 2 agR y3)),(2,(.row true 2 agR []))]
 |_,(_,_,y2,y3)=> [(0,(.row false 178 acD y2)),(1,(.row true 2 agR y3))]
def xA:ku→LT ku
 |(y0,y1,y2,y3)=> .ite (rK y0 y2) (.need [vn y0,rK y0 y2,vo y0 y2,zw y0 y2,zx y0 y2,zy y0 y2,zA y0 y2] (.ite (zB y0 y1 y2) (.ext 0 [(0,0),(1,1),(2,1344)]) (.need [vn y0,rK y0 y2,vo y0 y2] (.need [zC y0 y1 y2 y3,zD y0 y1 y2 y3] (.nrm ((xE y0),xF y0 y1 y2,y2,(xG y0 y1 y2 y3)) [(0,0),(1,2176)]))))) (.ext 1 [(0,0),(1,1)])
def Jr(s:St):Option ku:=
 (match s.look 6 with
 |some ⟨none,.one ⟨false,[.val (.int .i64 y0)]⟩⟩=>
 (match s.look 0 with
 |some ⟨none,.one ⟨false,[.ref 0]⟩⟩=>
 (match s.look 5 with
 |some ⟨none,.one ⟨false,[.val (.int .i64 y1)]⟩⟩=>
 (match s.look 4 with
 |some ⟨none,.one ⟨false,[.ref 256]⟩⟩=>
 (match s.ent 0 with
 |some (.row false 178 (.pair (.int .i64) (.pair .str (.int .i64))) y2)=>
 (match s.ent 256 with
 |some (.row true 2 (.int .i64) y3)=>
 some (y0,y1,y2,y3)
 |_=>none)
 |_=>none)
 |_=>none)
 |_=>none)
 |_=>none)
 |_=>none)
def di:Lp ku where
 h:=⟨[8,9,10,11,14,15,16,17,18,19,20,21,22,23,24,25,26,27,28,29,2,3,30,31,32,33,34,35,36,37,38,5,39,40,41,42,4,12,13,6],[0],[1],[2]⟩
 JL:=Zm
 JE:=Zh
 XL:=Zw
 XE:=Zr
 q:=fun j=>match j with | 0=> .ret | _=> .exit 0
 tags:= [0,1]
 lt:=xA
 fuel:=fun(y0,y1,y2,y3)=>y0.natAbs + y1.natAbs + y2.length + y3.length
 fix:=fun(_,_,y2,_) (y0,y1,_,y3)=>(y0,y1,y2,y3)
 σ:= [(0,0),(1,256)]
 rd:=Jr
theorem WU:LoopOk prog (fun k=>Nat.blt k Tryz.f268.ntmps) di.F (aL f268 0):=by
 refine Lp.ok (tbl:= [abz,DW]) (lf:= []) aN di (by kernel_rfl) (LOk.nil _) (fun _=>rfl) (fun j _=>by unfold di;match j with | 0=>rfl | _ + 1=>rfl) ?_ ?_ ?_ ?_ (fun _=>rfl) ?_
 ·rintro⟨y0,y1,y2,y3⟩;kernel_rfl
 ·rintro⟨y0,y1,y2,y3⟩;kernel_rfl
 ·intro s x h
  have h:Jr s=some x:=h
  unfold Jr at h
  repeat' split at h
  all_goals cases h
  exact⟨aa (by assumption) rfl (aa (by assumption) rfl (aa (by assumption) rfl (aa (by assumption) rfl (rfl)))),ab rfl (by assumption) rfl (ab rfl (by assumption) rfl (rfl))⟩
 ·rintro⟨y0,y1,y2,y3⟩;kernel_rfl
 ·rintro⟨y0,y1,y2,y3⟩ z;exact(And.intro (And.intro trivial rfl) trivial)
section
variable (x0:List (Int×ByteArray×Int))
def Ih:Int×Int×List (Int×ByteArray×Int)×List Int:=((0:Int),(0:Int),x0,[])
def Om:Bool:=Nat.beq ((Lp.res di (Ih x0)).1) (0:Nat)
def On:Int×List (Int×ByteArray×Int)×List Int:=(Lp.res di (Ih x0)).2.2
def Qc:Bool:=bif Om x0 then false else bif (On x0).1==(1:Int)then leI (↑x0.length:Int) (40:Int)else false
def agi:List Int:=bif Om x0 then []else (On x0).2.2
def Qd:Bool:=allT [Lp.fin di (Ih x0)]
end
def UY:List SV→List Entry→Option Out
 | [.one ⟨false,[.ref 0]⟩],[.row false 178 (.pair (.int .i64) (.pair (.str) (.int .i64))) x0]=>some ⟨.tup [⟨false,[.ref 1]⟩,⟨false,[.val (.bool (Qc x0))]⟩],[.row false 178 acD x0],[.row true 2 agR (agi x0)],[Qd x0]⟩
 |_,_=>none
def PO:PF prog:=PF.ofG prog [abz,DW] [di.F] aN 268 f268 func268 (LOk.fnT (l:= [aL f268 0]) (by kernel_rfl) (.cons WU (.nil _))) UY (by
 intro vs es r h;unfold UY at h;split at h
 ·cases h;kernel_rfl
 ·cases h)
def MF(x0:List (Int×ByteArray×Int)):Bool:=Qc x0
def MG(x0:List (Int×ByteArray×Int)):Bool:=allT [Qd x0]
def SE:List SV→List Entry→Option Out
 | [.one ⟨false,[.ref 0]⟩],[.row false 178 (.pair (.int .i64) (.pair (.str) (.int .i64))) x0]=>some ⟨.one ⟨false,[.val (.bool (MF x0))]⟩,[.row false 178 acD x0],[],[MG x0]⟩
 |_,_=>none
def acJ:PF prog:=PF.ofG prog [PO,PF.lend PO,PF.fz PO] [] aN 241 f241 func241 (fun c _=>LOk.nil c) SE (by
 intro vs es r h;unfold SE at h;split at h
 ·cases h;kernel_rfl
 ·cases h)
section
variable (x2 x3 x4:List ByteArray)
def Qe:List ByteArray:=x2++x3
def ady:List ByteArray:=Qe x2 x3++x4
def Wb:Bool:=allT [leN ((0:Nat) + List.length x2) (9223372036854775807:Nat),leN (((0:Nat) + List.length x2) * (16:Nat)) (140737488355328:Nat),leN (List.length x2 + List.length x3) (9223372036854775807:Nat),leN ((List.length x2 + List.length x3) * (16:Nat)) (140737488355328:Nat),leN (List.length (Qe x2 x3) + List.length x4) (9223372036854775807:Nat),leN ((List.length (Qe x2 x3) + List.length x4) * (16:Nat)) (140737488355328:Nat)]
end
def ac6:List SV→List Entry→Option Out
 | [.one ⟨true,[.val (.string _x0),.ref 0,.ref 1,.ref 2,.val (.string _x1),.ref 3]⟩],[.row false 9 (.str) x2,.row false 9 (.str) x3,.row false 9 (.str) x4,.row false 204 (.pair (.str) (.sl 178 (.pair (.int .i64) (.pair (.str) (.int .i64))))) x5]=>some ⟨.one ⟨false,[.ref 4]⟩,[.row false 9 aih x2,.row false 9 aih x3,.row false 9 aih x4,.row false 204 (CTy.pair CTy.str (CTy.sl (178:TypeId) acD)) x5],[.row true 9 aih (ady x2 x3 x4)],[Wb x2 x3 x4]⟩
 |_,_=>none
def akr:PF prog:=PF.ofG prog [] [] aN 205 f205 func205 (fun c _=>LOk.nil c) ac6 (by
 intro vs es r h;unfold ac6 at h;split at h
 ·cases h;kernel_rfl
 ·cases h)
abbrev mV:=Int×List ByteArray
section
variable (y0:Int)(y1:List ByteArray)
def BG:ByteArray:=Option.getD y1[Int.toNat y0]? ByteArray.empty
def tp:List ByteArray:=List.drop (Int.toNat (0:Int)) (List.take y0.toNat y1)
def yj:Bool:=ltI y0 (↑y1.length:Int)
end
def DC:Bool:=leI (0:Int) (0:Int)
section
variable (y0:Int)(y1:List ByteArray)
def yk:Bool:=leI (0:Int) y0
def DD:Bool:=leI y0 (↑y1.length:Int)
def DE:Bool:=ltN y0.toNat y1.length
def ym:Bool:=NA (BG y0 y1) (tp y0 y1)
def DF:Bool:=leI (0:Int) (IH (BG y0 y1) (tp y0 y1))
def Io:Int:=IntKind.wrap .i64 (y0 + (1:Int))
end
def aci:mV→List (Nat×SV)
 |(y0,_)=> [(3,(.one ⟨false,[.val (.int .i64 y0)]⟩)),(0,(.one ⟨false,[.ref 0]⟩))]
def ab7:mV→List (Nat×Entry)
 |(_,y1)=> [(0,(.row false 9 aih y1))]
def acC:Nat→mV→List (Nat×SV)
 |0,(_,_)=> [(2,(.one ⟨false,[.val (.bool true)]⟩))]
 |_,(_,_)=> []
def acs:Nat→mV→List (Nat×Entry)
 |0,(_,y1)=> [(0,(.row false 9 aih y1))]
 |_,(_,y1)=> [(0,(.row false 9 aih y1))]
def Bx:mV→LT mV
 |(y0,y1)=> .ite (yj y0 y1) (.need [DC,yk y0,DD y0 y1,yk y0,yj y0 y1,DE y0 y1,ym y0 y1] (.ite (DF y0 y1) (.ext 0 [(0,0)]) (.nrm ((Io y0),y1) [(0,0)]))) (.ext 1 [(0,0)])
def ME(s:St):Option mV:=
 (match s.look 3 with
 |some ⟨none,.one ⟨false,[.val (.int .i64 y0)]⟩⟩=>
 (match s.look 0 with
 |some ⟨none,.one ⟨false,[.ref 0]⟩⟩=>
 (match s.ent 0 with
 |some (.row false 9 (.str) y1)=>
 some (y0,y1)
 |_=>none)
 |_=>none)
 |_=>none)
def fe:Lp mV where
 h:=⟨[4,5,6,7,10,11,12,13,14,15,16,17,18,2,8,9,3],[0],[],[]⟩
 JL:=aci
 JE:=ab7
 XL:=acC
 XE:=acs
 q:=fun j=>match j with | 0=> .ret | _=> .exit 0
 tags:= [0,1]
 lt:=Bx
 fuel:=fun(y0,y1)=>y0.natAbs + y1.length
 fix:=fun(_,y1) (y0,_)=>(y0,y1)
 σ:= [(0,0)]
 rd:=ME
theorem ZI:LoopOk prog (fun k=>Nat.blt k Tryz.f242.ntmps) fe.F (aL f242 0):=by
 refine Lp.ok (tbl:= [Ap,PF.lend Ap,PF.fz Ap]) (lf:= []) aN fe (by kernel_rfl) (LOk.nil _) (fun _=>rfl) (fun j _=>by unfold fe;match j with | 0=>rfl | _ + 1=>rfl) ?_ ?_ ?_ ?_ (fun _=>rfl) ?_
 ·rintro⟨y0,y1⟩;kernel_rfl
 ·rintro⟨y0,y1⟩;kernel_rfl
 ·intro s x h
  have h:ME s=some x:=h
  unfold ME at h
  repeat' split at h
  all_goals cases h
  exact⟨aa (by assumption) rfl (aa (by assumption) rfl (rfl)),ab rfl (by assumption) rfl (rfl)⟩
 ·rintro⟨y0,y1⟩;kernel_rfl
 ·rintro⟨y0,y1⟩ z;exact(And.intro (And.intro trivial rfl) trivial)
def Sx(x0:List ByteArray):Bool:=bif Nat.beq ((Lp.res fe ((0:Int),x0)).1) (0:Nat)then true else false
def Sy(x0:List ByteArray):Bool:=allT [Lp.fin fe ((0:Int),x0)]
def YE:List SV→List Entry→Option Out
 | [.one ⟨false,[.ref 0]⟩],[.row false 9 (.str) x0]=>some ⟨.one ⟨false,[.val (.bool (Sx x0))]⟩,[.row false 9 aih x0],[],[Sy x0]⟩
 |_,_=>none
def aiw:PF prog:=PF.ofG prog [Ap,PF.lend Ap,PF.fz Ap] [fe.F] aN 242 f242 func242 (LOk.fnT (l:= [aL f242 0]) (by kernel_rfl) (.cons ZI (.nil _))) YE (by
 intro vs es r h;unfold YE at h;split at h
 ·cases h;kernel_rfl
 ·cases h)
abbrev mv:=Int×Int×ByteArray×ByteArray×List (Int×(ByteArray×Int))×List ByteArray×List ByteArray×List ByteArray×List (ByteArray×(List (Int×(ByteArray×Int))))
def GP(y1:Int)(y8:List (ByteArray×(List (Int×(ByteArray×Int))))):Bool:=ltI y1 (↑y8.length:Int)
def An(y1:Int)(y8:List (ByteArray×(List (Int×(ByteArray×Int))))):Bool:=ltN y1.toNat y8.length
def qY(y1:Int)(y8:List (ByteArray×(List (Int×(ByteArray×Int))))):List (Int×ByteArray×Int):=(Option.getD y8[Int.toNat y1]? (rY (CTy.pair CTy.str (CTy.sl (178:Nat) acD)))).2
def qZ(y0 y1:Int)(y8:List (ByteArray×(List (Int×(ByteArray×Int))))):Bool:=ltI y0 (↑(List.length (qY y1 y8)):Int)
def ra(y0 y1:Int)(y8:List (ByteArray×(List (Int×(ByteArray×Int))))):Int×ByteArray×Int:=Option.getD (qY y1 y8)[Int.toNat y0]? ((0:Int),ByteArray.empty,(0:Int))
def dV(y0 y1:Int)(y8:List (ByteArray×(List (Int×(ByteArray×Int))))):Bool:=leI (7:Int) ((ra y0 y1 y8).1)
def rb(y0 y1:Int)(y8:List (ByteArray×(List (Int×(ByteArray×Int))))):List (Int×ByteArray×Int):= [((ra y0 y1 y8).1,((ra y0 y1 y8).2).1,(ra y0 y1 y8).2.2)]
def sD(y1:Int):Bool:=leI (0:Int) y1
def sE(y1:Int)(y8:List (ByteArray×(List (Int×(ByteArray×Int))))):Bool:=GP y1 y8
def sF(y1:Int)(y8:List (ByteArray×(List (Int×(ByteArray×Int))))):Bool:=An y1 y8
def sG(y0 y1:Int)(y8:List (ByteArray×(List (Int×(ByteArray×Int))))):Bool:=qZ y0 y1 y8
def wo(y0:Int):Bool:=leI (0:Int) y0
def wq(y0 y1:Int)(y8:List (ByteArray×(List (Int×(ByteArray×Int))))):Bool:=ltN y0.toNat (List.length (qY y1 y8))
def ws(y0 y1:Int)(y8:List (ByteArray×(List (Int×(ByteArray×Int))))):Bool:= !dV y0 y1 y8||leI (0:Int) y1
def wu(y0 y1:Int)(y8:List (ByteArray×(List (Int×(ByteArray×Int))))):Bool:= !dV y0 y1 y8||GP y1 y8
def wv(y0 y1:Int)(y8:List (ByteArray×(List (Int×(ByteArray×Int))))):Bool:= !dV y0 y1 y8||An y1 y8
def ww(y0 y1:Int)(y8:List (ByteArray×(List (Int×(ByteArray×Int))))):Bool:= !dV y0 y1 y8||leI (0:Int) y0
def vp(y0 y1:Int)(y8:List (ByteArray×(List (Int×(ByteArray×Int))))):Bool:= !dV y0 y1 y8||qZ y0 y1 y8
def vq(y0 y1:Int)(y8:List (ByteArray×(List (Int×(ByteArray×Int))))):Bool:= !dV y0 y1 y8||ltN y0.toNat (List.length (qY y1 y8))
def vr(y0 y1:Int)(y4:List (Int×(ByteArray×Int)))(y8:List (ByteArray×(List (Int×(ByteArray×Int))))):Bool:= !dV y0 y1 y8||leN (List.length y4 + List.length (rb y0 y1 y8)) (9223372036854775807:Nat)
def vt(y0 y1:Int)(y4:List (Int×(ByteArray×Int)))(y8:List (ByteArray×(List (Int×(ByteArray×Int))))):Bool:= !dV y0 y1 y8||leN ((List.length y4 + List.length (rb y0 y1 y8)) * (32:Nat)) (140737488355328:Nat)
def vu(y0 y1:Int)(y8:List (ByteArray×(List (Int×(ByteArray×Int))))):Bool:=dV y0 y1 y8
def qX(y0:Int):Int:=IntKind.wrap .i64 (y0 + (1:Int))
def vv(y0 y1:Int)(y4:List (Int×(ByteArray×Int)))(y8:List (ByteArray×(List (Int×(ByteArray×Int))))):List (Int×(ByteArray×Int)):=y4++rb y0 y1 y8
def Wy:mv→List (Nat×SV)
 |(y0,y1,_,_,_,_,_,_,_)=> [(5,(.one ⟨false,[.val (.int .i64 y0)]⟩)),(1,(.one ⟨false,[.ptr 0 0]⟩)),(4,(.one ⟨false,[.val (.int .i64 y1)]⟩)),(3,(.one ⟨false,[.ref 1]⟩))]
def Wx:mv→List (Nat×Entry)
 |(_,_,y2,y3,y4,y5,y6,y7,y8)=> [(0,(.box 63 [.val (.string y2),.ref 2,.ref 3,.ref 4,.val (.string y3),.ref 5])),(2,(.row false 9 aih y5)),(3,(.row false 9 aih y6)),(4,(.row false 9 aih y7)),(5,(.row false 204 (CTy.pair CTy.str (CTy.sl (178:Nat) acD)) y8)),(1,(.row true 178 acD y4))]
def WJ:Nat→mv→List (Nat×SV)
 |_,(_,_,_,_,_,_,_,_,_)=> [(3,(.one ⟨false,[.ref 1]⟩))]
def WI:Nat→mv→List (Nat×Entry)
 |_,(_,_,y2,y3,y4,y5,y6,y7,y8)=> [(0,(.box 63 [.val (.string y2),.ref 2,.ref 3,.ref 4,.val (.string y3),.ref 5])),(1,(.row true 178 acD y4)),(2,(.row false 9 aih y5)),(3,(.row false 9 aih y6)),(4,(.row false 9 aih y7)),(5,(.row false 204 (CTy.pair CTy.str (CTy.sl (178:Nat) acD)) y8))]
def vh:mv→LT mv
 |(y0,y1,y2,y3,y4,y5,y6,y7,y8)=> .need [sD y1,sE y1 y8,sF y1 y8] (.ite (sG y0 y1 y8) (.need [sD y1,sE y1 y8,sF y1 y8,wo y0,sG y0 y1 y8,wq y0 y1 y8] (.need [ws y0 y1 y8,wu y0 y1 y8,wv y0 y1 y8,ww y0 y1 y8,vp y0 y1 y8,vq y0 y1 y8,vr y0 y1 y4 y8,vt y0 y1 y4 y8] (.ite (vu y0 y1 y8) (.nrm ((qX y0),y1,y2,y3,vv y0 y1 y4 y8,y5,y6,y7,y8) [(0,0),(1,2048),(2,2),(3,3),(4,4),(5,5)]) (.nrm ((qX y0),y1,y2,y3,y4,y5,y6,y7,y8) [(0,0),(1,1),(2,2),(3,3),(4,4),(5,5)])))) (.ext 0 [(0,0),(1,1),(2,2),(3,3),(4,4),(5,5)]))
def GM(s:St):Option mv:=
 (match s.look 5 with
 |some ⟨none,.one ⟨false,[.val (.int .i64 y0)]⟩⟩=>
 (match s.look 1 with
 |some ⟨none,.one ⟨false,[.ptr 0 0]⟩⟩=>
 (match s.look 4 with
 |some ⟨none,.one ⟨false,[.val (.int .i64 y1)]⟩⟩=>
 (match s.look 3 with
 |some ⟨none,.one ⟨false,[.ref 1]⟩⟩=>
 (match s.ent 0 with
 |some (.box 63 [.val (.string y2),.ref 2,.ref 3,.ref 4,.val (.string y3),.ref 5])=>
 (match s.ent 2 with
 |some (.row false 9 (.str) y5)=>
 (match s.ent 3 with
 |some (.row false 9 (.str) y6)=>
 (match s.ent 4 with
 |some (.row false 9 (.str) y7)=>
 (match s.ent 5 with
 |some (.row false 204 (.pair .str (.sl (178:Nat) (.pair (.int .i64) (.pair .str (.int .i64))))) y8)=>
 (match s.ent 1 with
 |some (.row true 178 (.pair (.int .i64) (.pair .str (.int .i64))) y4)=>
 some (y0,y1,y2,y3,y4,y5,y6,y7,y8)
 |_=>none)
 |_=>none)
 |_=>none)
 |_=>none)
 |_=>none)
 |_=>none)
 |_=>none)
 |_=>none)
 |_=>none)
 |_=>none)
def dN:Lp mv where
 h:=⟨[14,15,16,17,18,19,20,21,22,25,26,27,28,29,30,31,32,33,34,35,36,37,38,39,40,41,42,43,44,45,46,47,3,23,24,5],[0,2,3,4,5],[1],[]⟩
 JL:=Wy
 JE:=Wx
 XL:=WJ
 XE:=WI
 q:=fun j=>match j with | _=> .exit 2
 tags:= [0]
 lt:=vh
 fuel:=fun(y0,y1,y2,y3,y4,y5,y6,y7,y8)=>y0.natAbs + y1.natAbs + y2.size + y3.size + y4.length + y5.length + y6.length + y7.length + y8.length
 fix:=fun(_,y1,y2,y3,_,y5,y6,y7,y8) (y0,_,_,_,y4,_,_,_,_)=>(y0,y1,y2,y3,y4,y5,y6,y7,y8)
 σ:= [(0,0),(2,2),(3,3),(4,4),(5,5),(1,1)]
 rd:=GM
theorem UN:LoopOk prog (memN [7,8,9,10,11,5,14,15,16,17,18,19,20,21,22,25,26,27,28,29,30,31,32,33,34,35,36,37,38,39,40,41,42,43,44,45,46,47,3,23,24,12,13,4]) dN.F (abi (aL f188 0) 0):=by
 refine Lp.ok (tbl:= []) (lf:= []) aN dN (by kernel_rfl) (LOk.nil _) (fun _=>rfl) (fun _ _=>rfl) ?_ ?_ ?_ ?_ (fun _=>rfl) ?_
 ·rintro⟨y0,y1,y2,y3,y4,y5,y6,y7,y8⟩;kernel_rfl
 ·rintro⟨y0,y1,y2,y3,y4,y5,y6,y7,y8⟩;kernel_rfl
 ·intro s x h
  have h:GM s=some x:=h
  unfold GM at h
  repeat' split at h
  all_goals cases h
  exact⟨aa (by assumption) rfl (aa (by assumption) rfl (aa (by assumption) rfl (aa (by assumption) rfl (rfl)))),ab rfl (by assumption) rfl (ab rfl (by assumption) rfl (ab rfl (by assumption) rfl (ab rfl (by assumption) rfl (ab rfl (by assumption) rfl (ab rfl (by assumption) rfl (rfl))))))⟩
 ·rintro⟨y0,y1,y2,y3,y4,y5,y6,y7,y8⟩;kernel_rfl
 ·rintro⟨y0,y1,y2,y3,y4,y5,y6,y7,y8⟩ z;exact(And.intro (And.intro rfl rfl) trivial)
abbrev qe:=Int×ByteArray×ByteArray×List (Int×(ByteArray×Int))×List ByteArray×List ByteArray×List ByteArray×List (ByteArray×(List (Int×(ByteArray×Int))))
def zE(y0:Int)(y1 y2:ByteArray)(y3:List (Int×(ByteArray×Int)))(y4 y5 y6:List ByteArray)(y7:List (ByteArray×(List (Int×(ByteArray×Int))))):Int×Int×ByteArray×ByteArray×List (Int×ByteArray×Int)×List ByteArray×List ByteArray×List ByteArray×List (ByteArray×List (Int×ByteArray×Int)):=((0:Int),y0,y1,y2,y3,y4,y5,y6,y7)
def BC(y0:Int)(y7:List (ByteArray×(List (Int×(ByteArray×Int))))):Bool:=ltI y0 (↑y7.length:Int)
def BD(y0:Int)(y1 y2:ByteArray)(y3:List (Int×(ByteArray×Int)))(y4 y5 y6:List ByteArray)(y7:List (ByteArray×(List (Int×(ByteArray×Int))))):Bool:=Lp.fin dN (zE y0 y1 y2 y3 y4 y5 y6 y7)
def BE(y0:Int):Int:=IntKind.wrap .i64 (y0 + (1:Int))
def BF(y0:Int)(y1 y2:ByteArray)(y3:List (Int×(ByteArray×Int)))(y4 y5 y6:List ByteArray)(y7:List (ByteArray×(List (Int×(ByteArray×Int))))):List (Int×(ByteArray×Int)):=((Lp.res dN (zE y0 y1 y2 y3 y4 y5 y6 y7)).2.2.2.2.2).1
def aaw:qe→List (Nat×SV)
 |(y0,_,_,_,_,_,_,_)=> [(4,(.one ⟨false,[.val (.int .i64 y0)]⟩)),(1,(.one ⟨false,[.ptr 0 0]⟩)),(3,(.one ⟨false,[.ref 1]⟩))]
def aam:qe→List (Nat×Entry)
 |(_,y1,y2,y3,y4,y5,y6,y7)=> [(0,(.box 63 [.val (.string y1),.ref 2,.ref 3,.ref 4,.val (.string y2),.ref 5])),(2,(.row false 9 aih y4)),(3,(.row false 9 aih y5)),(4,(.row false 9 aih y6)),(5,(.row false 204 (CTy.pair CTy.str (CTy.sl (178:Nat) acD)) y7)),(1,(.row true 178 acD y3))]
def aaZ:Nat→qe→List (Nat×SV)
 |_,(_,_,_,_,_,_,_,_)=> [(3,(.one ⟨false,[.ref 1]⟩))]
def aaP:Nat→qe→List (Nat×Entry)
 |_,(_,y1,y2,y3,y4,y5,y6,y7)=> [(0,(.box 63 [.val (.string y1),.ref 2,.ref 3,.ref 4,.val (.string y2),.ref 5])),(1,(.row true 178 acD y3)),(2,(.row false 9 aih y4)),(3,(.row false 9 aih y5)),(4,(.row false 9 aih y6)),(5,(.row false 204 (CTy.pair CTy.str (CTy.sl (178:Nat) acD)) y7))]
def zf:qe→LT qe
 |(y0,y1,y2,y3,y4,y5,y6,y7)=> .ite (BC y0 y7) (.need [BD y0 y1 y2 y3 y4 y5 y6 y7] (.nrm ((BE y0),y1,y2,BF y0 y1 y2 y3 y4 y5 y6 y7,y4,y5,y6,y7) [(0,0),(1,448),(2,2),(3,3),(4,4),(5,5)])) (.ext 0 [(0,0),(1,1),(2,2),(3,3),(4,4),(5,5)])
def Li(s:St):Option qe:=
 (match s.look 4 with
 |some ⟨none,.one ⟨false,[.val (.int .i64 y0)]⟩⟩=>
 (match s.look 1 with
 |some ⟨none,.one ⟨false,[.ptr 320 0]⟩⟩=>
 (match s.look 3 with
 |some ⟨none,.one ⟨false,[.ref 448]⟩⟩=>
 (match s.ent 320 with
 |some (.box 63 [.val (.string y1),.ref 0,.ref 1,.ref 2,.val (.string y2),.ref 3])=>
 (match s.ent 0 with
 |some (.row false 9 (.str) y4)=>
 (match s.ent 1 with
 |some (.row false 9 (.str) y5)=>
 (match s.ent 2 with
 |some (.row false 9 (.str) y6)=>
 (match s.ent 3 with
 |some (.row false 204 (.pair .str (.sl (178:Nat) (.pair (.int .i64) (.pair .str (.int .i64))))) y7)=>
 (match s.ent 448 with
 |some (.row true 178 (.pair (.int .i64) (.pair .str (.int .i64))) y3)=>
 some (y0,y1,y2,y3,y4,y5,y6,y7)
 |_=>none)
 |_=>none)
 |_=>none)
 |_=>none)
 |_=>none)
 |_=>none)
 |_=>none)
 |_=>none)
 |_=>none)
def ji:Lp qe where
 h:=⟨[7,8,9,10,11,5,14,15,16,17,18,19,20,21,22,25,26,27,28,29,30,31,32,33,34,35,36,37,38,39,40,41,42,43,44,45,46,47,3,23,24,12,13,4],[0,2,3,4,5],[1],[]⟩
 JL:=aaw
 JE:=aam
 XL:=aaZ
 XE:=aaP
 q:=fun j=>match j with | _=> .exit 0
 tags:= [0]
 lt:=zf
 fuel:=fun(y0,y1,y2,y3,y4,y5,y6,y7)=>y0.natAbs + y1.size + y2.size + y3.length + y4.length + y5.length + y6.length + y7.length
 fix:=fun(_,y1,y2,_,y4,y5,y6,y7) (y0,_,_,y3,_,_,_,_)=>(y0,y1,y2,y3,y4,y5,y6,y7)
 σ:= [(0,320),(2,0),(3,1),(4,2),(5,3),(1,448)]
 rd:=Li
theorem XY:LoopOk prog (fun k=>Nat.blt k Tryz.f188.ntmps) ji.F (aL f188 0):=by
 refine Lp.ok (tbl:= []) (lf:= [dN.F]) aN ji (by kernel_rfl) (LOk.allT (l:= [abi (aL f188 0) 0]) (by kernel_rfl) (.cons UN (.nil _))) (fun _=>rfl) (fun _ _=>rfl) ?_ ?_ ?_ ?_ (fun _=>rfl) ?_
 ·rintro⟨y0,y1,y2,y3,y4,y5,y6,y7⟩;kernel_rfl
 ·rintro⟨y0,y1,y2,y3,y4,y5,y6,y7⟩;kernel_rfl
 ·intro s x h
  have h:Li s=some x:=h
  unfold Li at h
  repeat' split at h
  all_goals cases h
  exact⟨aa (by assumption) rfl (aa (by assumption) rfl (aa (by assumption) rfl (rfl))),ab rfl (by assumption) rfl (ab rfl (by assumption) rfl (ab rfl (by assumption) rfl (ab rfl (by assumption) rfl (ab rfl (by assumption) rfl (ab rfl (by assumption) rfl (rfl))))))⟩
 ·rintro⟨y0,y1,y2,y3,y4,y5,y6,y7⟩;kernel_rfl
 ·rintro⟨y0,y1,y2,y3,y4,y5,y6,y7⟩ z;exact(And.intro rfl trivial)
section
variable (x0 x1:ByteArray)(x2 x3 x4:List ByteArray)(x5:List (ByteArray×List (Int×ByteArray×Int)))
def Qf:Int×ByteArray×ByteArray×List (Int×ByteArray×Int)×List ByteArray×List ByteArray×List ByteArray×List (ByteArray×List (Int×ByteArray×Int)):=((0:Int),x0,x1,[],x2,x3,x4,x5)
def Rq:List (Int×(ByteArray×Int)):=((Lp.res ji (Qf x0 x1 x2 x3 x4 x5)).2.2.2.2).1
def Rr:Bool:=allT [Lp.fin ji (Qf x0 x1 x2 x3 x4 x5)]
end
def Ww:List SV→List Entry→Option Out
 | [.one ⟨true,[.val (.string x0),.ref 0,.ref 1,.ref 2,.val (.string x1),.ref 3]⟩],[.row false 9 (.str) x2,.row false 9 (.str) x3,.row false 9 (.str) x4,.row false 204 (.pair (.str) (.sl 178 (.pair (.int .i64) (.pair (.str) (.int .i64))))) x5]=>some ⟨.one ⟨false,[.ref 4]⟩,[.row false 9 aih x2,.row false 9 aih x3,.row false 9 aih x4,.row false 204 (CTy.pair CTy.str (CTy.sl (178:TypeId) acD)) x5],[.row true 178 acD (Rq x0 x1 x2 x3 x4 x5)],[Rr x0 x1 x2 x3 x4 x5]⟩
 |_,_=>none
def ahk:PF prog:=PF.ofG prog [] [ji.F] aN 188 f188 func188 (LOk.fnT (l:= [aL f188 0]) (by kernel_rfl) (.cons XY (.nil _))) Ww (by
 intro vs es r h;unfold Ww at h;split at h
 ·cases h;kernel_rfl
 ·cases h)
def afS(x0:ByteArray):Bool:= !lS x0
def UQ:List SV→List Entry→Option Out
 | [.one ⟨false,[.val (.string x0)]⟩],[]=>some ⟨.one ⟨false,[.val (.bool (afS x0))]⟩,[],[],[]⟩
 |_,_=>none
def af5:PF prog:=PF.ofG prog [MW] [] aN 259 f259 func259 (fun c _=>LOk.nil c) UQ (by
 intro vs es r h;unfold UQ at h;split at h
 ·cases h;kernel_rfl
 ·cases h)
def zR(x0:ByteArray):Bool:= !lS x0
def OH:List SV→List Entry→Option Out
 | [.one ⟨false,[.val (.string x0)]⟩],[]=>some ⟨.one ⟨false,[.val (.bool (zR x0))]⟩,[],[],[]⟩
 |_,_=>none
def OQ:PF prog:=PF.ofG prog [MW] [] aN 259 f259 func259 (fun c _=>LOk.nil c) OH (by
 intro vs es r h;unfold OH at h;split at h
 ·cases h;kernel_rfl
 ·cases h)
abbrev bm:=Int×Int×List ByteArray
section
variable (y0 y1:Int)(y2:List ByteArray)
def gR:Bool:=ltI y0 y1
def gS:Bool:=leI (0:Int) y0
def gT:Bool:=ltI y0 (↑y2.length:Int)
def gU:Bool:=ltN y0.toNat y2.length
def gV:Bool:=zR (Option.getD y2[Int.toNat y0]? ByteArray.empty)
def gW:Int:=IntKind.wrap .i64 (y0 + (1:Int))
end
def HC:bm→List (Nat×SV)
 |(y0,y1,_)=> [(8,(.one ⟨false,[.val (.int .i64 y0)]⟩)),(7,(.one ⟨false,[.val (.int .i64 y1)]⟩)),(1,(.one ⟨false,[.val (.func (.func 259) ⟨[]⟩ ⟨[]⟩)]⟩)),(0,(.one ⟨false,[.ref 0]⟩))]
def Hz:bm→List (Nat×Entry)
 |(_,_,y2)=> [(0,(.row false 9 aih y2))]
def HI:Nat→bm→List (Nat×SV)
 |0,(y0,_,_)=> [(4,(.one ⟨false,[.val (.int .i64 y0)]⟩))]
 |_,(_,_,_)=> []
def HF:Nat→bm→List (Nat×Entry)
 |0,(_,_,y2)=> [(0,(.row false 9 aih y2))]
 |_,(_,_,y2)=> [(0,(.row false 9 aih y2))]
def gD:bm→LT bm
 |(y0,y1,y2)=> .ite (gR y0 y1) (.need [gS y0,gT y0 y2,gU y0 y2] (.ite (gV y0 y2) (.ext 0 [(0,0)]) (.nrm ((gW y0),y1,y2) [(0,0)]))) (.ext 1 [(0,0)])
def pC(s:St):Option bm:=
 (match s.look 8 with
 |some ⟨none,.one ⟨false,[.val (.int .i64 y0)]⟩⟩=>
 (match s.look 7 with
 |some ⟨none,.one ⟨false,[.val (.int .i64 y1)]⟩⟩=>
 (match s.look 1 with
 |some ⟨none,.one ⟨false,[.val (.func (.func 259) ⟨[]⟩ ⟨[]⟩)]⟩⟩=>
 (match s.look 0 with
 |some ⟨none,.one ⟨false,[.ref 0]⟩⟩=>
 (match s.ent 0 with
 |some (.row false 9 (.str) y2)=>
 some (y0,y1,y2)
 |_=>none)
 |_=>none)
 |_=>none)
 |_=>none)
 |_=>none)
def ag:Lp bm where
 h:=⟨[9,10,5,11,12,13,14,15,16,17,4,18,8],[0],[],[]⟩
 JL:=HC
 JE:=Hz
 XL:=HI
 XE:=HF
 q:=fun j=>match j with | 0=> .ret | _=> .exit 0
 tags:= [0,1]
 lt:=gD
 fuel:=fun(y0,y1,y2)=>y0.natAbs + y1.natAbs + y2.length
 fix:=fun(_,y1,y2) (y0,_,_)=>(y0,y1,y2)
 σ:= [(0,0)]
 rd:=pC
theorem GI:LoopOk prog (fun k=>Nat.blt k Tryz.f264.ntmps) ag.F (aL f264 0):=by
 refine Lp.ok (tbl:= [OQ]) (lf:= []) aN ag (by kernel_rfl) (LOk.nil _) (fun _=>rfl) (fun j _=>by unfold ag;match j with | 0=>rfl | _ + 1=>rfl) ?_ ?_ ?_ ?_ (fun _=>rfl) ?_
 ·rintro⟨y0,y1,y2⟩;kernel_rfl
 ·rintro⟨y0,y1,y2⟩;kernel_rfl
 ·intro s x h
  have h:pC s=some x:=h
  unfold pC at h
  repeat' split at h
  all_goals cases h
  exact⟨aa (by assumption) rfl (aa (by assumption) rfl (aa (by assumption) rfl (aa (by assumption) rfl (rfl)))),ab rfl (by assumption) rfl (rfl)⟩
 ·rintro⟨y0,y1,y2⟩;kernel_rfl
 ·rintro⟨y0,y1,y2⟩ z;exact(And.intro (And.intro trivial rfl) trivial)
section
variable (x0:List ByteArray)
def me:Int×Int×List ByteArray:=((0:Int),(↑x0.length:Int),x0)
def rD:Int:=bif Nat.beq ((Lp.res ag (me x0)).1) (0:Nat)then ((Lp.res ag (me x0)).2).1else(-1:Int)
def rE:Bool:=allT [Lp.fin ag (me x0)]
end
def yD:List SV→List Entry→Option Out
 | [.one ⟨false,[.ref 0]⟩,.one ⟨false,[.val (.func (.func 259) ⟨[]⟩ ⟨[]⟩)]⟩],[.row false 9 (.str) x0]=>some ⟨.one ⟨false,[.val (.int .i64 (rD x0))]⟩,[.row false 9 aih x0],[],[rE x0]⟩
 |_,_=>none
def rp:PF prog:=PF.ofG prog [OQ] [ag.F] aN 264 f264 func264 (LOk.fnT (l:= [aL f264 0]) (by kernel_rfl) (.cons GI (.nil _))) yD (by
 intro vs es r h;unfold yD at h;split at h
 ·cases h;kernel_rfl
 ·cases h)
def pQ(x0:List ByteArray):Bool:=leI (0:Int) (rD x0)
def pR(x0:List ByteArray):Bool:=allT [rE x0]
def wQ:List SV→List Entry→Option Out
 | [.one ⟨false,[.ref 0]⟩,.one ⟨false,[.val (.func (.func 259) ⟨[]⟩ ⟨[]⟩)]⟩],[.row false 9 (.str) x0]=>some ⟨.one ⟨false,[.val (.bool (pQ x0))]⟩,[.row false 9 aih x0],[],[pR x0]⟩
 |_,_=>none
def pM:PF prog:=PF.ofG prog [rp,PF.lend rp,PF.fz rp] [] aN 235 f235 func235 (fun c _=>LOk.nil c) wQ (by
 intro vs es r h;unfold wQ at h;split at h
 ·cases h;kernel_rfl
 ·cases h)
def Sb(x0:List ByteArray):Bool:= !pQ x0
def Sc(x0:List ByteArray):Bool:=allT [pR x0]
def Yo:List SV→List Entry→Option Out
 | [.one ⟨false,[.ref 0]⟩],[.row false 9 (.str) x0]=>some ⟨.one ⟨false,[.val (.bool (Sb x0))]⟩,[.row false 9 aih x0],[],[Sc x0]⟩
 |_,_=>none
def ain:PF prog:=PF.ofG prog [af5,pM,PF.lend pM,PF.fz pM] [] aN 226 f226 func226 (fun c _=>LOk.nil c) Yo (by
 intro vs es r h;unfold Yo at h;split at h
 ·cases h;kernel_rfl
 ·cases h)
abbrev pU:=Int×Int×Int×Int×List (Int×(ByteArray×Int))
section
variable (y0 y1 y2 y3:Int)(y4:List (Int×(ByteArray×Int)))
def qz:Int×ByteArray×Int:=Option.getD y4[Int.toNat y0]? ((0:Int),ByteArray.empty,(0:Int))
def vR:Int:=IntKind.wrap .i64 (y2 + IntKind.wrap .i64 ((1:Int) - sa ((qz y0 y4).1)))
def Gs:Bool:=ltI y0 y1
def Gt:Bool:=leI (0:Int) y0
def Gu:Bool:=ltI y0 (↑y4.length:Int)
def Gv:Bool:=ltN y0.toNat y4.length
def Gw:Bool:=bif !MO ((qz y0 y4).1) (((qz y0 y4).2).1) ((qz y0 y4).2.2)then true else ltI y2 (sa ((qz y0 y4).1))
def Gx:Int:=IntKind.wrap .i64 (y0 + (1:Int))
def Gy:Int:=vR y0 y2 y4
def Gz:Int:=agS y3 (vR y0 y2 y4) (vR y0 y2 y4) y3
end
def afx:pU→List (Nat×SV)
 |(y0,y1,y2,y3,_)=> [(10,(.one ⟨false,[.val (.int .i64 y0)]⟩)),(9,(.one ⟨false,[.val (.int .i64 y1)]⟩)),(8,(.one ⟨false,[.ref 0]⟩)),(4,(.one ⟨false,[.val (.int .i64 y2)]⟩)),(5,(.one ⟨false,[.val (.int .i64 y3)]⟩))]
def afu:pU→List (Nat×Entry)
 |(_,_,_,_,y4)=> [(0,(.row false 178 acD y4))]
def afD:Nat→pU→List (Nat×SV)
 |0,(_,_,_,_,_)=> [(2,(.one ⟨false,[.val (.int .i64 (0:Int))]⟩)),(3,(.one ⟨false,[.val (.bool false)]⟩))]
 |_,(_,_,y2,y3,_)=> [(4,(.one ⟨false,[.val (.int .i64 y2)]⟩)),(5,(.one ⟨false,[.val (.int .i64 y3)]⟩))]
def afA:Nat→pU→List (Nat×Entry)
 |0,(_,_,_,_,y4)=> [(0,(.row false 178 acD y4))]
 |_,(_,_,_,_,y4)=> [(0,(.row false 178 acD y4))]
def EX:pU→LT pU
 |(y0,y1,y2,y3,y4)=> .ite (Gs y0 y1) (.need [Gt y0,Gu y0 y4,Gv y0 y4] (.ite (Gw y0 y2 y4) (.ext 0 [(0,0)]) (.nrm ((Gx y0),y1,Gy y0 y2 y4,Gz y0 y2 y3 y4,y4) [(0,0)]))) (.ext 1 [(0,0)])
def PS(s:St):Option pU:=
 (match s.look 10 with
 |some ⟨none,.one ⟨false,[.val (.int .i64 y0)]⟩⟩=>
 (match s.look 9 with
 |some ⟨none,.one ⟨false,[.val (.int .i64 y1)]⟩⟩=>
 (match s.look 8 with
 |some ⟨none,.one ⟨false,[.ref 0]⟩⟩=>
 (match s.look 4 with
 |some ⟨none,.one ⟨false,[.val (.int .i64 y2)]⟩⟩=>
 (match s.look 5 with
 |some ⟨none,.one ⟨false,[.val (.int .i64 y3)]⟩⟩=>
 (match s.ent 0 with
 |some (.row false 178 (.pair (.int .i64) (.pair .str (.int .i64))) y4)=>
 some (y0,y1,y2,y3,y4)
 |_=>none)
 |_=>none)
 |_=>none)
 |_=>none)
 |_=>none)
 |_=>none)
def gy:Lp pU where
 h:=⟨[11,12,13,7,14,15,16,17,18,19,20,21,22,23,2,3,24,25,26,27,28,29,4,30,31,32,5,33,10],[0],[],[]⟩
 JL:=afx
 JE:=afu
 XL:=afD
 XE:=afA
 q:=fun j=>match j with | 0=> .ret | _=> .exit 0
 tags:= [0,1]
 lt:=EX
 fuel:=fun(y0,y1,y2,y3,y4)=>y0.natAbs + y1.natAbs + y2.natAbs + y3.natAbs + y4.length
 fix:=fun(_,y1,_,_,y4) (y0,_,y2,y3,_)=>(y0,y1,y2,y3,y4)
 σ:= [(0,0)]
 rd:=PS
theorem acF:LoopOk prog (fun k=>Nat.blt k Tryz.f275.ntmps) gy.F (aL f275 0):=by
 refine Lp.ok (tbl:= [adr,LH]) (lf:= []) aN gy (by kernel_rfl) (LOk.nil _) (fun _=>rfl) (fun j _=>by unfold gy;match j with | 0=>rfl | _ + 1=>rfl) ?_ ?_ ?_ ?_ (fun _=>rfl) ?_
 ·rintro⟨y0,y1,y2,y3,y4⟩;kernel_rfl
 ·rintro⟨y0,y1,y2,y3,y4⟩;kernel_rfl
 ·intro s x h
  have h:PS s=some x:=h
  unfold PS at h
  repeat' split at h
  all_goals cases h
  exact⟨aa (by assumption) rfl (aa (by assumption) rfl (aa (by assumption) rfl (aa (by assumption) rfl (aa (by assumption) rfl (rfl))))),ab rfl (by assumption) rfl (rfl)⟩
 ·rintro⟨y0,y1,y2,y3,y4⟩;kernel_rfl
 ·rintro⟨y0,y1,y2,y3,y4⟩ z;exact(And.intro (And.intro trivial rfl) trivial)
section
variable (x0:List (Int×ByteArray×Int))
def Pv:Int×Int×Int×Int×List (Int×ByteArray×Int):=((0:Int),(↑x0.length:Int),(0:Int),(0:Int),x0)
def TJ:Bool:=Nat.beq ((Lp.res gy (Pv x0)).1) (0:Nat)
def TK:Int×Int×List (Int×ByteArray×Int):=(Lp.res gy (Pv x0)).2.2.2
def aki:Int:=bif TJ x0 then(0:Int)else ((TK x0).2).1
def VH:Bool:=bif TJ x0 then false else (TK x0).1==(1:Int)
def VI:Bool:=allT [Lp.fin gy (Pv x0)]
end
def acT:List SV→List Entry→Option Out
 | [.one ⟨false,[.ref 0]⟩],[.row false 178 (.pair (.int .i64) (.pair (.str) (.int .i64))) x0]=>some ⟨.tup [⟨false,[.val (.int .i64 (aki x0))]⟩,⟨false,[.val (.bool (VH x0))]⟩],[.row false 178 acD x0],[],[VI x0]⟩
 |_,_=>none
def VX:PF prog:=PF.ofG prog [adr,LH] [gy.F] aN 275 f275 func275 (LOk.fnT (l:= [aL f275 0]) (by kernel_rfl) (.cons acF (.nil _))) acT (by
 intro vs es r h;unfold acT at h;split at h
 ·cases h;kernel_rfl
 ·cases h)
def FJ(x0:List (Int×ByteArray×Int)):Bool:=bif VH x0 then leI (↑x0.length:Int) (40:Int)else false
def FK(x0:List (Int×ByteArray×Int)):Bool:=allT [VI x0]
def SC:List SV→List Entry→Option Out
 | [.one ⟨false,[.ref 0]⟩],[.row false 178 (.pair (.int .i64) (.pair (.str) (.int .i64))) x0]=>some ⟨.one ⟨false,[.val (.bool (FJ x0))]⟩,[.row false 178 acD x0],[],[FK x0]⟩
 |_,_=>none
def Mk:PF prog:=PF.ofG prog [VX,PF.lend VX,PF.fz VX] [] aN 263 f263 func263 (fun c _=>LOk.nil c) SC (by
 intro vs es r h;unfold SC at h;split at h
 ·cases h;kernel_rfl
 ·cases h)
def VJ(x0:ByteArray)(x1:List (Int×ByteArray×Int)):Bool:=bif lS x0 then FJ x1 else false
def VK(x0:ByteArray)(x1:List (Int×ByteArray×Int)):Bool:=allT [!(lS x0&&true)||FK x1]
def acU:List SV→List Entry→Option Out
 | [.one ⟨true,[.val (.string x0),.ref 0]⟩],[.row false 178 (.pair (.int .i64) (.pair (.str) (.int .i64))) x1]=>some ⟨.one ⟨false,[.val (.bool (VJ x0 x1))]⟩,[.row false 178 acD x1],[],[VK x0 x1]⟩
 |_,_=>none
def ako:PF prog:=PF.ofG prog [MW,Mk,PF.lend Mk,PF.fz Mk] [] aN 231 f231 func231 (fun c _=>LOk.nil c) acU (by
 intro vs es r h;unfold acU at h;split at h
 ·cases h;kernel_rfl
 ·cases h)
abbrev mN:=Int×Int×List ByteArray
section
variable (y0 y1:Int)(y2:List ByteArray)
def Au:ByteArray:=Option.getD y2[Int.toNat y0]? ByteArray.empty
def te:List ByteArray:=List.drop (Int.toNat (0:Int)) (List.take y0.toNat y2)
def Cf:Bool:=ltI y0 y1
def xQ:Bool:=leI (0:Int) y0
def Cg:Bool:=ltI y0 (↑y2.length:Int)
def Ch:Bool:=ltN y0.toNat y2.length
end
def Ci:Bool:=leI (0:Int) (0:Int)
section
variable (y0:Int)(y2:List ByteArray)
def Cj:Bool:=leI y0 (↑y2.length:Int)
def xR:Bool:=kk (Au y0 y2) (te y0 y2)
def Ck:Bool:=ij (Au y0 y2) (te y0 y2)
def HM:Int:=IntKind.wrap .i64 (y0 + (1:Int))
end
def ab8:mN→List (Nat×SV)
 |(y0,y1,_)=> [(7,(.one ⟨false,[.val (.int .i64 y0)]⟩)),(6,(.one ⟨false,[.val (.int .i64 y1)]⟩)),(5,(.one ⟨false,[.ref 0]⟩)),(0,(.one ⟨false,[.ref 0]⟩))]
def abY:mN→List (Nat×Entry)
 |(_,_,y2)=> [(0,(.row false 9 aih y2))]
def act:Nat→mN→List (Nat×SV)
 |0,(_,_,_)=> [(2,(.one ⟨false,[.val (.bool true)]⟩))]
 |_,(_,_,_)=> []
def acj:Nat→mN→List (Nat×Entry)
 |0,(_,_,y2)=> [(0,(.row false 9 aih y2))]
 |_,(_,_,y2)=> [(0,(.row false 9 aih y2))]
def Bp:mN→LT mN
 |(y0,y1,y2)=> .ite (Cf y0 y1) (.need [xQ y0,Cg y0 y2,Ch y0 y2] (.need [Ci,xQ y0,Cj y0 y2,xR y0 y2] (.ite (Ck y0 y2) (.ext 0 [(0,0)]) (.nrm ((HM y0),y1,y2) [(0,0)])))) (.ext 1 [(0,0)])
def Mv(s:St):Option mN:=
 (match s.look 7 with
 |some ⟨none,.one ⟨false,[.val (.int .i64 y0)]⟩⟩=>
 (match s.look 6 with
 |some ⟨none,.one ⟨false,[.val (.int .i64 y1)]⟩⟩=>
 (match s.look 5 with
 |some ⟨none,.one ⟨false,[.ref 0]⟩⟩=>
 (match s.look 0 with
 |some ⟨none,.one ⟨false,[.ref 0]⟩⟩=>
 (match s.ent 0 with
 |some (.row false 9 (.str) y2)=>
 some (y0,y1,y2)
 |_=>none)
 |_=>none)
 |_=>none)
 |_=>none)
 |_=>none)
def fa:Lp mN where
 h:=⟨[8,9,10,11,3,4,12,13,14,15,16,2,17,7],[0],[],[]⟩
 JL:=ab8
 JE:=abY
 XL:=act
 XE:=acj
 q:=fun j=>match j with | 0=> .ret | _=> .exit 0
 tags:= [0,1]
 lt:=Bp
 fuel:=fun(y0,y1,y2)=>y0.natAbs + y1.natAbs + y2.length
 fix:=fun(_,y1,y2) (y0,_,_)=>(y0,y1,y2)
 σ:= [(0,0)]
 rd:=Mv
theorem Zz:LoopOk prog (fun k=>Nat.blt k Tryz.f232.ntmps) fa.F (aL f232 0):=by
 refine Lp.ok (tbl:= [cS,PF.lend cS,PF.fz cS]) (lf:= []) aN fa (by kernel_rfl) (LOk.nil _) (fun _=>rfl) (fun j _=>by unfold fa;match j with | 0=>rfl | _ + 1=>rfl) ?_ ?_ ?_ ?_ (fun _=>rfl) ?_
 ·rintro⟨y0,y1,y2⟩;kernel_rfl
 ·rintro⟨y0,y1,y2⟩;kernel_rfl
 ·intro s x h
  have h:Mv s=some x:=h
  unfold Mv at h
  repeat' split at h
  all_goals cases h
  exact⟨aa (by assumption) rfl (aa (by assumption) rfl (aa (by assumption) rfl (aa (by assumption) rfl (rfl)))),ab rfl (by assumption) rfl (rfl)⟩
 ·rintro⟨y0,y1,y2⟩;kernel_rfl
 ·rintro⟨y0,y1,y2⟩ z;exact(And.intro (And.intro trivial rfl) trivial)
section
variable (x0:List ByteArray)
def QJ:Int×Int×List ByteArray:=((0:Int),(↑x0.length:Int),x0)
def Sd:Bool:=bif Nat.beq ((Lp.res fa (QJ x0)).1) (0:Nat)then true else false
def Se:Bool:=allT [Lp.fin fa (QJ x0)]
end
def Yp:List SV→List Entry→Option Out
 | [.one ⟨false,[.ref 0]⟩],[.row false 9 (.str) x0]=>some ⟨.one ⟨false,[.val (.bool (Sd x0))]⟩,[.row false 9 aih x0],[],[Se x0]⟩
 |_,_=>none
def aio:PF prog:=PF.ofG prog [cS,PF.lend cS,PF.fz cS] [fa.F] aN 232 f232 func232 (LOk.fnT (l:= [aL f232 0]) (by kernel_rfl) (.cons Zz (.nil _))) Yp (by
 intro vs es r h;unfold Yp at h;split at h
 ·cases h;kernel_rfl
 ·cases h)
abbrev aQ:=Int×Int×List (Int×(ByteArray×Int))×List (Int×(ByteArray×Int))
section
variable (y0 y1:Int)(y2 y3:List (Int×(ByteArray×Int)))
def aO:Int×ByteArray×Int:=Option.getD y2[Int.toNat y0]? ((0:Int),ByteArray.empty,(0:Int))
def bO:Bool:=leI (7:Int) ((aO y0 y2).1)
def bP:List (Int×ByteArray×Int):= [((aO y0 y2).1,((aO y0 y2).2).1,(aO y0 y2).2.2)]
def ea:Bool:=ltI y0 y1
def ec:Bool:=leI (0:Int) y0
def ed:Bool:=ltI y0 (↑y2.length:Int)
def ee:Bool:=ltN y0.toNat y2.length
def ef:Bool:= !bO y0 y2||leN (List.length y3 + List.length (bP y0 y2)) (9223372036854775807:Nat)
def eg:Bool:= !bO y0 y2||leN ((List.length y3 + List.length (bP y0 y2)) * (32:Nat)) (140737488355328:Nat)
def ei:Bool:=bO y0 y2
def cV:Int:=IntKind.wrap .i64 (y0 + (1:Int))
def ej:List (Int×(ByteArray×Int)):=y3++bP y0 y2
end
def DN:aQ→List (Nat×SV)
 |(y0,y1,_,_)=> [(18,(.one ⟨false,[.val (.int .i64 y0)]⟩)),(17,(.one ⟨false,[.val (.int .i64 y1)]⟩)),(16,(.one ⟨false,[.ref 0]⟩)),(3,(.one ⟨false,[.ref 1]⟩))]
def DM:aQ→List (Nat×Entry)
 |(_,_,y2,y3)=> [(0,(.row false 178 acD y2)),(1,(.row true 178 acD y3))]
def DP:Nat→aQ→List (Nat×SV)
 |_,(_,_,_,_)=> [(3,(.one ⟨false,[.ref 1]⟩))]
def DO:Nat→aQ→List (Nat×Entry)
 |_,(_,_,y2,y3)=> [(0,(.row false 178 acD y2)),(1,(.row true 178 acD y3))]
def dK:aQ→LT aQ
 |(y0,y1,y2,y3)=> .ite (ea y0 y1) (.need [ec y0,ed y0 y2,ee y0 y2] (.need [ef y0 y2 y3,eg y0 y2 y3] (.ite (ei y0 y2) (.nrm ((cV y0),y1,y2,(ej y0 y2 y3)) [(0,0),(1,768)]) (.nrm ((cV y0),y1,y2,y3) [(0,0),(1,1)])))) (.ext 0 [(0,0),(1,1)])
def mt(s:St):Option aQ:=
 (match s.look 18 with
 |some ⟨none,.one ⟨false,[.val (.int .i64 y0)]⟩⟩=>
 (match s.look 17 with
 |some ⟨none,.one ⟨false,[.val (.int .i64 y1)]⟩⟩=>
 (match s.look 16 with
 |some ⟨none,.one ⟨false,[.ref 192]⟩⟩=>
 (match s.look 3 with
 |some ⟨none,.one ⟨false,[.ref 1]⟩⟩=>
 (match s.ent 192 with
 |some (.row false 178 (.pair (.int .i64) (.pair .str (.int .i64))) y2)=>
 (match s.ent 1 with
 |some (.row true 178 (.pair (.int .i64) (.pair .str (.int .i64))) y3)=>
 some (y0,y1,y2,y3)
 |_=>none)
 |_=>none)
 |_=>none)
 |_=>none)
 |_=>none)
 |_=>none)
def ae:Lp aQ where
 h:=⟨[19,20,21,7,22,23,24,25,26,27,28,3,29,18],[0],[1],[]⟩
 JL:=DN
 JE:=DM
 XL:=DP
 XE:=DO
 q:=fun j=>match j with | _=> .exit 2
 tags:= [0]
 lt:=dK
 fuel:=fun(y0,y1,y2,y3)=>y0.natAbs + y1.natAbs + y2.length + y3.length
 fix:=fun(_,y1,y2,_) (y0,_,_,y3)=>(y0,y1,y2,y3)
 σ:= [(0,192),(1,1)]
 rd:=mt
theorem CO:LoopOk prog (memN [12,13,14,5,15,16,17,18,19,20,21,7,22,23,24,25,26,27,28,3,29,30,11]) ae.F (abi (aL f117 0) 0):=by
 refine Lp.ok (tbl:= []) (lf:= []) aN ae (by kernel_rfl) (LOk.nil _) (fun _=>rfl) (fun _ _=>rfl) ?_ ?_ ?_ ?_ (fun _=>rfl) ?_
 ·rintro⟨y0,y1,y2,y3⟩;kernel_rfl
 ·rintro⟨y0,y1,y2,y3⟩;kernel_rfl
 ·intro s x h
  have h:mt s=some x:=h
  unfold mt at h
  repeat' split at h
  all_goals cases h
  exact⟨aa (by assumption) rfl (aa (by assumption) rfl (aa (by assumption) rfl (aa (by assumption) rfl (rfl)))),ab rfl (by assumption) rfl (ab rfl (by assumption) rfl (rfl))⟩
 ·rintro⟨y0,y1,y2,y3⟩;kernel_rfl
 ·rintro⟨y0,y1,y2,y3⟩ z;exact(And.intro (And.intro rfl rfl) trivial)
abbrev aV:=Int×Int×List (ByteArray×(List (Int×(ByteArray×Int))))×List (Int×(ByteArray×Int))
def bB(y0:Int)(y2:List (ByteArray×(List (Int×(ByteArray×Int))))):List (Int×ByteArray×Int):=(Option.getD y2[Int.toNat y0]? (rY (CTy.pair CTy.str (CTy.sl (178:Nat) acD)))).2
def dk(y0:Int)(y2:List (ByteArray×(List (Int×(ByteArray×Int)))))(y3:List (Int×(ByteArray×Int))):Int×Int×List (Int×ByteArray×Int)×List (Int×ByteArray×Int):=((0:Int),(↑(List.length (bB y0 y2)):Int),bB y0 y2,y3)
def fl(y0 y1:Int):Bool:=ltI y0 y1
def jr(y0:Int):Bool:=leI (0:Int) y0
def jt(y0:Int)(y2:List (ByteArray×(List (Int×(ByteArray×Int))))):Bool:=ltI y0 (↑y2.length:Int)
def ju(y0:Int)(y2:List (ByteArray×(List (Int×(ByteArray×Int))))):Bool:=ltN y0.toNat y2.length
def fm(y0:Int)(y2:List (ByteArray×(List (Int×(ByteArray×Int)))))(y3:List (Int×(ByteArray×Int))):Bool:=Lp.fin ae (dk y0 y2 y3)
def ov(y0:Int):Int:=IntKind.wrap .i64 (y0 + (1:Int))
def jv(y0:Int)(y2:List (ByteArray×(List (Int×(ByteArray×Int)))))(y3:List (Int×(ByteArray×Int))):List (Int×(ByteArray×Int)):=(Lp.res ae (dk y0 y2 y3)).2.2.2.2
def FE:aV→List (Nat×SV)
 |(y0,y1,_,_)=> [(11,(.one ⟨false,[.val (.int .i64 y0)]⟩)),(10,(.one ⟨false,[.val (.int .i64 y1)]⟩)),(9,(.one ⟨false,[.ref 0]⟩)),(3,(.one ⟨false,[.ref 1]⟩))]
def FD:aV→List (Nat×Entry)
 |(_,_,y2,y3)=> [(0,(.row false 204 (CTy.pair CTy.str (CTy.sl (178:Nat) acD)) y2)),(1,(.row true 178 acD y3))]
def FG:Nat→aV→List (Nat×SV)
 |_,(_,_,_,_)=> [(3,(.one ⟨false,[.ref 1]⟩))]
def FF:Nat→aV→List (Nat×Entry)
 |_,(_,_,y2,y3)=> [(0,(.row false 204 (CTy.pair CTy.str (CTy.sl (178:Nat) acD)) y2)),(1,(.row true 178 acD y3))]
def eX:aV→LT aV
 |(y0,y1,y2,y3)=> .ite (fl y0 y1) (.need [jr y0,jt y0 y2,ju y0 y2] (.need [fm y0 y2 y3] (.nrm ((ov y0),y1,y2,(jv y0 y2 y3)) [(0,0),(1,640)]))) (.ext 0 [(0,0),(1,1)])
def nS(s:St):Option aV:=
 (match s.look 11 with
 |some ⟨none,.one ⟨false,[.val (.int .i64 y0)]⟩⟩=>
 (match s.look 10 with
 |some ⟨none,.one ⟨false,[.val (.int .i64 y1)]⟩⟩=>
 (match s.look 9 with
 |some ⟨none,.one ⟨false,[.ref 3]⟩⟩=>
 (match s.look 3 with
 |some ⟨none,.one ⟨false,[.ref 448]⟩⟩=>
 (match s.ent 3 with
 |some (.row false 204 (.pair .str (.sl (178:Nat) (.pair (.int .i64) (.pair .str (.int .i64))))) y2)=>
 (match s.ent 448 with
 |some (.row true 178 (.pair (.int .i64) (.pair .str (.int .i64))) y3)=>
 some (y0,y1,y2,y3)
 |_=>none)
 |_=>none)
 |_=>none)
 |_=>none)
 |_=>none)
 |_=>none)
def au:Lp aV where
 h:=⟨[12,13,14,5,15,16,17,18,19,20,21,7,22,23,24,25,26,27,28,3,29,30,11],[0],[1],[]⟩
 JL:=FE
 JE:=FD
 XL:=FG
 XE:=FF
 q:=fun j=>match j with | _=> .exit 0
 tags:= [0]
 lt:=eX
 fuel:=fun(y0,y1,y2,y3)=>y0.natAbs + y1.natAbs + y2.length + y3.length
 fix:=fun(_,y1,y2,_) (y0,_,_,y3)=>(y0,y1,y2,y3)
 σ:= [(0,3),(1,448)]
 rd:=nS
theorem EW:LoopOk prog (fun k=>Nat.blt k Tryz.f117.ntmps) au.F (aL f117 0):=by
 refine Lp.ok (tbl:= []) (lf:= [ae.F]) aN au (by kernel_rfl) (LOk.allT (l:= [abi (aL f117 0) 0]) (by kernel_rfl) (.cons CO (.nil _))) (fun _=>rfl) (fun _ _=>rfl) ?_ ?_ ?_ ?_ (fun _=>rfl) ?_
 ·rintro⟨y0,y1,y2,y3⟩;kernel_rfl
 ·rintro⟨y0,y1,y2,y3⟩;kernel_rfl
 ·intro s x h
  have h:nS s=some x:=h
  unfold nS at h
  repeat' split at h
  all_goals cases h
  exact⟨aa (by assumption) rfl (aa (by assumption) rfl (aa (by assumption) rfl (aa (by assumption) rfl (rfl)))),ab rfl (by assumption) rfl (ab rfl (by assumption) rfl (rfl))⟩
 ·rintro⟨y0,y1,y2,y3⟩;kernel_rfl
 ·rintro⟨y0,y1,y2,y3⟩ z;exact(And.intro rfl trivial)
section
variable (x5:List (ByteArray×List (Int×ByteArray×Int)))
def px:Int×Int×List (ByteArray×List (Int×ByteArray×Int))×List (Int×ByteArray×Int):=((0:Int),(↑x5.length:Int),x5,[])
def pI:List (Int×(ByteArray×Int)):=(Lp.res au (px x5)).2.2.2.2
def pJ:Bool:=allT [Lp.fin au (px x5)]
end
def wP:List SV→List Entry→Option Out
 | [.one ⟨true,[.val (.string _x0),.ref 0,.ref 1,.ref 2,.val (.string _x1),.ref 3]⟩],[.row false 9 (.str) x2,.row false 9 (.str) x3,.row false 9 (.str) x4,.row false 204 (.pair (.str) (.sl 178 (.pair (.int .i64) (.pair (.str) (.int .i64))))) x5]=>some ⟨.one ⟨false,[.ref 4]⟩,[.row false 9 aih x2,.row false 9 aih x3,.row false 9 aih x4,.row false 204 (CTy.pair CTy.str (CTy.sl (178:TypeId) acD)) x5],[.row true 178 acD (pI x5)],[pJ x5]⟩
 |_,_=>none
def IG:PF prog:=PF.ofG prog [] [au.F] aN 117 f117 func117 (LOk.fnT (l:= [aL f117 0]) (by kernel_rfl) (.cons EW (.nil _))) wP (by
 intro vs es r h;unfold wP at h;split at h
 ·cases h;kernel_rfl
 ·cases h)
abbrev lO:=Int×Int×List ByteArray
section
variable (y0 y1:Int)(y2:List ByteArray)
def vf:Int:=IntKind.wrap .i64 (y1 - (↑(ByteArray.size (Option.getD y2[Int.toNat y0]? ByteArray.empty)):Int))
def wI:Bool:=ltI y0 (↑y2.length:Int)
def Bb:Bool:=leI (0:Int) y0
def Bc:Bool:=ltN y0.toNat y2.length
def Bd:Bool:=ltI (vf y0 y1 y2) (0:Int)
end
def th:Int:=(-1:Int)
def Be(y0:Int):Int:=IntKind.wrap .i64 (y0 + (1:Int))
def Bf(y0 y1:Int)(y2:List ByteArray):Int:=vf y0 y1 y2
def aas:lO→List (Nat×SV)
 |(y0,y1,_)=> [(5,(.one ⟨false,[.val (.int .i64 y0)]⟩)),(0,(.one ⟨false,[.ref 0]⟩)),(1,(.one ⟨false,[.val (.int .i64 y1)]⟩))]
def aai:lO→List (Nat×Entry)
 |(_,_,y2)=> [(0,(.row false 9 aih y2))]
def aaV:Nat→lO→List (Nat×SV)
 |0,(_,_,_)=> [(4,(.one ⟨false,[.val (.int .i64 (th))]⟩))]
 |_,(_,y1,_)=> [(1,(.one ⟨false,[.val (.int .i64 y1)]⟩))]
def aaL:Nat→lO→List (Nat×Entry)
 |0,(_,_,y2)=> [(0,(.row false 9 aih y2))]
 |_,(_,_,y2)=> [(0,(.row false 9 aih y2))]
def zb:lO→LT lO
 |(y0,y1,y2)=> .ite (wI y0 y2) (.need [Bb y0,wI y0 y2,Bc y0 y2] (.ite (Bd y0 y1 y2) (.ext 0 [(0,0)]) (.nrm ((Be y0),Bf y0 y1 y2,y2) [(0,0)]))) (.ext 1 [(0,0)])
def Le(s:St):Option lO:=
 (match s.look 5 with
 |some ⟨none,.one ⟨false,[.val (.int .i64 y0)]⟩⟩=>
 (match s.look 0 with
 |some ⟨none,.one ⟨false,[.ref 0]⟩⟩=>
 (match s.look 1 with
 |some ⟨none,.one ⟨false,[.val (.int .i64 y1)]⟩⟩=>
 (match s.ent 0 with
 |some (.row false 9 (.str) y2)=>
 some (y0,y1,y2)
 |_=>none)
 |_=>none)
 |_=>none)
 |_=>none)
def dz:Lp lO where
 h:=⟨[12,13,14,15,18,19,20,21,22,23,24,1,25,26,4,16,17,5],[0],[],[]⟩
 JL:=aas
 JE:=aai
 XL:=aaV
 XE:=aaL
 q:=fun j=>match j with | 0=> .ret | _=> .exit 0
 tags:= [0,1]
 lt:=zb
 fuel:=fun(y0,y1,y2)=>y0.natAbs + y1.natAbs + y2.length
 fix:=fun(_,_,y2) (y0,y1,_)=>(y0,y1,y2)
 σ:= [(0,0)]
 rd:=Le
theorem XU:LoopOk prog (fun k=>Nat.blt k Tryz.f129.ntmps) dz.F (aL f129 0):=by
 refine Lp.ok (tbl:= []) (lf:= []) aN dz (by kernel_rfl) (LOk.nil _) (fun _=>rfl) (fun j _=>by unfold dz;match j with | 0=>rfl | _ + 1=>rfl) ?_ ?_ ?_ ?_ (fun _=>rfl) ?_
 ·rintro⟨y0,y1,y2⟩;kernel_rfl
 ·rintro⟨y0,y1,y2⟩;kernel_rfl
 ·intro s x h
  have h:Le s=some x:=h
  unfold Le at h
  repeat' split at h
  all_goals cases h
  exact⟨aa (by assumption) rfl (aa (by assumption) rfl (aa (by assumption) rfl (rfl))),ab rfl (by assumption) rfl (rfl)⟩
 ·rintro⟨y0,y1,y2⟩;kernel_rfl
 ·rintro⟨y0,y1,y2⟩ z;exact(And.intro (And.intro trivial rfl) trivial)
section
variable (x0:Int)(x1:List ByteArray)
def JW:Int:=IntKind.wrap .i64 (x0 - (↑x1.length:Int))
def JX:Int×Int×List ByteArray:=((0:Int),JW x0 x1,x1)
def QT:Int:=bif ltI (JW x0 x1) (0:Int)then(-1:Int)else bif Nat.beq ((Lp.res dz (JX x0 x1)).1) (0:Nat)then th else ((Lp.res dz (JX x0 x1)).2.2).1
def QU:Bool:=allT [ltI (JW x0 x1) (0:Int)||Lp.fin dz (JX x0 x1)]
end
def Wp:List SV→List Entry→Option Out
 | [.one ⟨false,[.ref 0]⟩,.one ⟨false,[.val (.int .i64 x0)]⟩],[.row false 9 (.str) x1]=>some ⟨.one ⟨false,[.val (.int .i64 (QT x0 x1))]⟩,[.row false 9 aih x1],[],[QU x0 x1]⟩
 |_,_=>none
def ahg:PF prog:=PF.ofG prog [] [dz.F] aN 129 f129 func129 (LOk.fnT (l:= [aL f129 0]) (by kernel_rfl) (.cons XU (.nil _))) Wp (by
 intro vs es r h;unfold Wp at h;split at h
 ·cases h;kernel_rfl
 ·cases h)
abbrev lQ:=Int×List ByteArray×List ByteArray
section
variable (y0:Int)(y1 y2:List ByteArray)
def wL:Bool:=ltI y0 (↑y1.length:Int)
def wM:Bool:=leI (0:Int) y0
def Bk:Bool:=ltN y0.toNat y1.length
def Bl:Bool:=ltI y0 (↑y2.length:Int)
def Bm:Bool:=ltN y0.toNat y2.length
def Bn:Int:=IntKind.wrap .i64 (y0 + (1:Int))
def Bo:List ByteArray:=List.set y2 y0.toNat (Option.getD y1[Int.toNat y0]? ByteArray.empty)
end
def aau:lQ→List (Nat×SV)
 |(y0,_,_)=> [(4,(.one ⟨false,[.val (.int .i64 y0)]⟩)),(0,(.one ⟨false,[.ref 0]⟩)),(3,(.one ⟨false,[.ref 1]⟩))]
def aak:lQ→List (Nat×Entry)
 |(_,y1,y2)=> [(0,(.row false 9 aih y1)),(1,(.row true 9 aih y2))]
def aaX:Nat→lQ→List (Nat×SV)
 |_,(_,_,_)=> []
def aaN:Nat→lQ→List (Nat×Entry)
 |_,(_,y1,y2)=> [(0,(.row false 9 aih y1)),(1,(.row true 9 aih y2))]
def zd:lQ→LT lQ
 |(y0,y1,y2)=> .ite (wL y0 y1) (.need [wM y0,wL y0 y1,Bk y0 y1,wM y0,Bl y0 y2,Bm y0 y2] (.nrm ((Bn y0),y1,(Bo y0 y1 y2)) [(0,0),(1,1)])) (.ext 0 [(0,0),(1,1)])
def Lg(s:St):Option lQ:=
 (match s.look 4 with
 |some ⟨none,.one ⟨false,[.val (.int .i64 y0)]⟩⟩=>
 (match s.look 0 with
 |some ⟨none,.one ⟨false,[.ref 0]⟩⟩=>
 (match s.look 3 with
 |some ⟨none,.one ⟨false,[.ref 320]⟩⟩=>
 (match s.ent 0 with
 |some (.row false 9 (.str) y1)=>
 (match s.ent 320 with
 |some (.row true 9 (.str) y2)=>
 some (y0,y1,y2)
 |_=>none)
 |_=>none)
 |_=>none)
 |_=>none)
 |_=>none)
def fv:Lp lQ where
 h:=⟨[8,9,10,11,14,15,16,17,18,19,20,12,13,4],[0,1],[],[]⟩
 JL:=aau
 JE:=aak
 XL:=aaX
 XE:=aaN
 q:=fun j=>match j with | _=> .exit 0
 tags:= [0]
 lt:=zd
 fuel:=fun(y0,y1,y2)=>y0.natAbs + y1.length + y2.length
 fix:=fun(_,y1,_) (y0,_,y2)=>(y0,y1,y2)
 σ:= [(0,0),(1,320)]
 rd:=Lg
theorem XW:LoopOk prog (fun k=>Nat.blt k Tryz.f131.ntmps) fv.F (aL f131 0):=by
 refine Lp.ok (tbl:= []) (lf:= []) aN fv (by kernel_rfl) (LOk.nil _) (fun _=>rfl) (fun _ _=>rfl) ?_ ?_ ?_ ?_ (fun _=>rfl) ?_
 ·rintro⟨y0,y1,y2⟩;kernel_rfl
 ·rintro⟨y0,y1,y2⟩;kernel_rfl
 ·intro s x h
  have h:Lg s=some x:=h
  unfold Lg at h
  repeat' split at h
  all_goals cases h
  exact⟨aa (by assumption) rfl (aa (by assumption) rfl (aa (by assumption) rfl (rfl))),ab rfl (by assumption) rfl (ab rfl (by assumption) rfl (rfl))⟩
 ·rintro⟨y0,y1,y2⟩;kernel_rfl
 ·rintro⟨y0,y1,y2⟩ z;exact(And.intro rfl trivial)
def Kb(x0:List ByteArray):Int×List ByteArray×List ByteArray:=
 ((0:Int),x0,List.replicate (Int.toNat (↑x0.length:Int)) { data:= #[] })
def LE(x0:List ByteArray):List ByteArray:=(Lp.res fv (Kb x0)).2.2.2
def LF(x0:List ByteArray):Bool:=allT [leI (0:Int) (↑x0.length:Int),leI (↑x0.length:Int) (↑x0.length:Int),leI ((↑(16:Nat):Int) * (↑x0.length:Int)) (281474976710656:Int),leI (↑x0.length:Int) (9223372036854775807:Int),Lp.fin fv (Kb x0)]
def Ws:List SV→List Entry→Option Out
 | [.one ⟨false,[.ref 0]⟩],[.row false 9 (.str) x0]=>some ⟨.one ⟨false,[.ref 1]⟩,[.row false 9 aih x0],[.row true 9 aih (LE x0)],[LF x0]⟩
 |_,_=>none
def ahi:PF prog:=PF.ofG prog [] [fv.F] aN 131 f131 func131 (LOk.fnT (l:= [aL f131 0]) (by kernel_rfl) (.cons XW (.nil _))) Ws (by
 intro vs es r h;unfold Ws at h;split at h
 ·cases h;kernel_rfl
 ·cases h)
abbrev lL:=Int×List ByteArray×List ByteArray
section
variable (y0:Int)(y1 y2:List ByteArray)
def wE:Bool:=ltI y0 (↑y1.length:Int)
def wF:Bool:=leI (0:Int) y0
def AD:Bool:=ltN y0.toNat y1.length
def AE:Bool:=ltI y0 (↑y2.length:Int)
def AF:Bool:=ltN y0.toNat y2.length
def AG:Bool:= !ByteArray.toList (Option.getD y1[Int.toNat y0]? ByteArray.empty)==ByteArray.toList (Option.getD y2[Int.toNat y0]? ByteArray.empty)
def AH:Int:=IntKind.wrap .i64 (y0 + (1:Int))
end
def aao:lL→List (Nat×SV)
 |(y0,_,_)=> [(5,(.one ⟨false,[.val (.int .i64 y0)]⟩)),(0,(.one ⟨false,[.ref 0]⟩)),(1,(.one ⟨false,[.ref 1]⟩))]
def aae:lL→List (Nat×Entry)
 |(_,y1,y2)=> [(0,(.row false 9 aih y1)),(1,(.row false 9 aih y2))]
def aaR:Nat→lL→List (Nat×SV)
 |0,(_,_,_)=> [(4,(.one ⟨false,[.val (.bool false)]⟩))]
 |_,(_,_,_)=> []
def aaH:Nat→lL→List (Nat×Entry)
 |0,(_,y1,y2)=> [(0,(.row false 9 aih y1)),(1,(.row false 9 aih y2))]
 |_,(_,y1,y2)=> [(0,(.row false 9 aih y1)),(1,(.row false 9 aih y2))]
def yX:lL→LT lL
 |(y0,y1,y2)=> .ite (wE y0 y1) (.need [wF y0,wE y0 y1,AD y0 y1,wF y0,AE y0 y2,AF y0 y2] (.ite (AG y0 y1 y2) (.ext 0 [(0,0),(1,1)]) (.nrm ((AH y0),y1,y2) [(0,0),(1,1)]))) (.ext 1 [(0,0),(1,1)])
def La(s:St):Option lL:=
 (match s.look 5 with
 |some ⟨none,.one ⟨false,[.val (.int .i64 y0)]⟩⟩=>
 (match s.look 0 with
 |some ⟨none,.one ⟨false,[.ref 0]⟩⟩=>
 (match s.look 1 with
 |some ⟨none,.one ⟨false,[.ref 1]⟩⟩=>
 (match s.ent 0 with
 |some (.row false 9 (.str) y1)=>
 (match s.ent 1 with
 |some (.row false 9 (.str) y2)=>
 some (y0,y1,y2)
 |_=>none)
 |_=>none)
 |_=>none)
 |_=>none)
 |_=>none)
def ew:Lp lL where
 h:=⟨[11,12,13,14,17,18,19,20,21,22,23,24,25,4,15,16,5],[0,1],[],[]⟩
 JL:=aao
 JE:=aae
 XL:=aaR
 XE:=aaH
 q:=fun j=>match j with | 0=> .ret | _=> .exit 0
 tags:= [0,1]
 lt:=yX
 fuel:=fun(y0,y1,y2)=>y0.natAbs + y1.length + y2.length
 fix:=fun(_,y1,y2) (y0,_,_)=>(y0,y1,y2)
 σ:= [(0,0),(1,1)]
 rd:=La
theorem XQ:LoopOk prog (fun k=>Nat.blt k Tryz.f133.ntmps) ew.F (aL f133 0):=by
 refine Lp.ok (tbl:= []) (lf:= []) aN ew (by kernel_rfl) (LOk.nil _) (fun _=>rfl) (fun j _=>by unfold ew;match j with | 0=>rfl | _ + 1=>rfl) ?_ ?_ ?_ ?_ (fun _=>rfl) ?_
 ·rintro⟨y0,y1,y2⟩;kernel_rfl
 ·rintro⟨y0,y1,y2⟩;kernel_rfl
 ·intro s x h
  have h:La s=some x:=h
  unfold La at h
  repeat' split at h
  all_goals cases h
  exact⟨aa (by assumption) rfl (aa (by assumption) rfl (aa (by assumption) rfl (rfl))),ab rfl (by assumption) rfl (ab rfl (by assumption) rfl (rfl))⟩
 ·rintro⟨y0,y1,y2⟩;kernel_rfl
 ·rintro⟨y0,y1,y2⟩ z;exact(And.intro (And.intro trivial rfl) trivial)
section
variable (x0 x1:List ByteArray)
def JH:Bool:=(↑x0.length:Int)!=(↑x1.length:Int)
def JI:Int×List ByteArray×List ByteArray:=((0:Int),x0,x1)
def Lz:Bool:=bif JH x0 x1 then false else bif Nat.beq ((Lp.res ew (JI x0 x1)).1) (0:Nat)then false else true
def LA:Bool:=allT [JH x0 x1||Lp.fin ew (JI x0 x1)]
end
def Wk:List SV→List Entry→Option Out
 | [.one ⟨false,[.ref 0]⟩,.one ⟨false,[.ref 1]⟩],[.row false 9 (.str) x0,.row false 9 (.str) x1]=>some ⟨.one ⟨false,[.val (.bool (Lz x0 x1))]⟩,[.row false 9 aih x0,.row false 9 aih x1],[],[LA x0 x1]⟩
 |_,_=>none
def ahd:PF prog:=PF.ofG prog [] [ew.F] aN 133 f133 func133 (LOk.fnT (l:= [aL f133 0]) (by kernel_rfl) (.cons XQ (.nil _))) Wk (by
 intro vs es r h;unfold Wk at h;split at h
 ·cases h;kernel_rfl
 ·cases h)
abbrev nT:=Int×Int×List ByteArray
section
variable (y0 y1:Int)(y2:List ByteArray)
def DI:Bool:=ltI y0 (↑y2.length:Int)
def Qx:Bool:=leI (0:Int) y1&&leI y1 (9223372036854775807:Int)
def Qy:Bool:=leI (0:Int) y0
def Qz:Bool:=ltN y0.toNat y2.length
def QA:Int:=IntKind.wrap .i64 (y0 + (1:Int))
def xu:Int:=IntKind.wrap .i64 (y1 + (1:Int))
def xw:List ByteArray:=List.set y2 y0.toNat (oc y1)
end
def Xt:nT→List (Nat×SV)
 |(y0,y1,_)=> [(5,(.one ⟨false,[.val (.int .i64 y0)]⟩)),(0,(.one ⟨false,[.ref 0]⟩)),(1,(.one ⟨false,[.val (.int .i64 y1)]⟩))]
def Xq:nT→List (Nat×Entry)
 |(_,_,y2)=> [(0,(.row true 9 aih y2))]
def Xz:Nat→nT→List (Nat×SV)
 |_,(_,y1,_)=> [(1,(.one ⟨false,[.val (.int .i64 y1)]⟩))]
def Xw:Nat→nT→List (Nat×Entry)
 |_,(_,_,y2)=> [(0,(.row true 9 aih y2))]
def vY:nT→LT nT
 |(y0,y1,y2)=> .ite (DI y0 y2) (.need [Qx y1,Qy y0,DI y0 y2,Qz y0 y2] (.nrm ((QA y0),xu y1,(xw y0 y1 y2)) [(0,0)])) (.ext 0 [(0,0)])
def Ic(s:St):Option nT:=
 (match s.look 5 with
 |some ⟨none,.one ⟨false,[.val (.int .i64 y0)]⟩⟩=>
 (match s.look 0 with
 |some ⟨none,.one ⟨false,[.ref 0]⟩⟩=>
 (match s.look 1 with
 |some ⟨none,.one ⟨false,[.val (.int .i64 y1)]⟩⟩=>
 (match s.ent 0 with
 |some (.row true 9 (.str) y2)=>
 some (y0,y1,y2)
 |_=>none)
 |_=>none)
 |_=>none)
 |_=>none)
def eU:Lp nT where
 h:=⟨[6,7,8,9,12,13,14,15,16,17,18,1,10,11,5],[0],[],[]⟩
 JL:=Xt
 JE:=Xq
 XL:=Xz
 XE:=Xw
 q:=fun j=>match j with | _=> .exit 0
 tags:= [0]
 lt:=vY
 fuel:=fun(y0,y1,y2)=>y0.natAbs + y1.natAbs + y2.length
 fix:=fun(_,_,_) (y0,y1,y2)=>(y0,y1,y2)
 σ:= [(0,0)]
 rd:=Ic
theorem VU:LoopOk prog (fun k=>Nat.blt k Tryz.f137.ntmps) eU.F (aL f137 0):=by
 refine Lp.ok (tbl:= [Nt]) (lf:= []) aN eU (by kernel_rfl) (LOk.nil _) (fun _=>rfl) (fun _ _=>rfl) ?_ ?_ ?_ ?_ (fun _=>rfl) ?_
 ·rintro⟨y0,y1,y2⟩;kernel_rfl
 ·rintro⟨y0,y1,y2⟩;kernel_rfl
 ·intro s x h
  have h:Ic s=some x:=h
  unfold Ic at h
  repeat' split at h
  all_goals cases h
  exact⟨aa (by assumption) rfl (aa (by assumption) rfl (aa (by assumption) rfl (rfl))),ab rfl (by assumption) rfl (rfl)⟩
 ·rintro⟨y0,y1,y2⟩;kernel_rfl
 ·rintro⟨y0,y1,y2⟩ z;exact(And.intro rfl trivial)
section
variable (x0:Int)(x1:List ByteArray)
def FN:Int×Int×List ByteArray:=((0:Int),x0,x1)
def Mj:Int×List ByteArray:=(Lp.res eU (FN x0 x1)).2.2
def de:Int:=(Mj x0 x1).1
def HV:List ByteArray:=(Mj x0 x1).2
def xV:Bool:=allT [Lp.fin eU (FN x0 x1)]
end
def Tj:List SV→List Entry→Option Out
 | [.one ⟨false,[.ref 0]⟩,.one ⟨false,[.val (.int .i64 x0)]⟩],[.row true 9 (.str) x1]=>some ⟨.one ⟨false,[.val (.int .i64 (de x0 x1))]⟩,[.row true 9 aih (HV x0 x1)],[],[xV x0 x1]⟩
 |_,_=>none
def NS:PF prog:=PF.ofG prog [Nt] [eU.F] aN 137 f137 func137 (LOk.fnT (l:= [aL f137 0]) (by kernel_rfl) (.cons VU (.nil _))) Tj (by
 intro vs es r h;unfold Tj at h;split at h
 ·cases h;kernel_rfl
 ·cases h)
section
variable (x0:Int)
def bd:Int:=IntKind.wrap .i64 (x0 - IntKind.wrap .i64 ((↑(0:Nat):Int) - (↑(0:Nat):Int)))
def ya:Bool:= !ltI (0:Int) (bd x0)||leI (0:Int) (↑(0:Nat):Int)
def tF:List ByteArray:=bif ltI (0:Int) (bd x0)then List.take (Int.toNat (↑(0:Nat):Int)) (List.replicate (Int.toNat (bd x0)) (ByteArray.mk #[]))else []
def tG:Bool:=allT [!ltI x0 (0:Int),!ltI (0:Int) (bd x0)||leI (0:Int) (0:Int),ya x0,!ltI (0:Int) (bd x0)||leI (↑(0:Nat):Int) (0:Int),!ltI (0:Int) (bd x0)||leI (1:Int) (bd x0),!ltI (0:Int) (bd x0)||leI (bd x0) (9223372036854775807:Int),!ltI (0:Int) (bd x0)||leI (bd x0 * (↑(16:Nat):Int)) (281474976710656:Int),ya x0,!ltI (0:Int) (bd x0)||leI (↑(0:Nat):Int) (↑(List.length (List.replicate (Int.toNat (bd x0)) (ByteArray.mk #[]))):Int)]
end
def Hw:List SV→List Entry→Option Out
 | [.one ⟨false,[.val (.slice none 0 0)]⟩,.one ⟨false,[.val (.int .i64 x0)]⟩],[]=>some ⟨.one ⟨false,[.ref 0]⟩,[],[.row true 9 aih (tF x0)],[tG x0]⟩
 |_,_=>none
def zh:PF prog:=PF.ofG prog [PF.raw prog] [] aN 260 f260 func260 (fun c _=>LOk.nil c) Hw (by
 intro vs es r h;unfold Hw at h;split at h
 ·cases h;kernel_rfl
 ·cases h)
abbrev cC:=Int×Int×Int×List (List ByteArray)
section
variable (y0 y1 y2:Int)(y3:List (List ByteArray))
def fA:Int:=IntKind.wrap .i64 (y2 + (↑(List.length (Option.getD y3[Int.toNat y0]? (rY (CTy.sl (9:Nat) CTy.str)))):Int))
def mC:Bool:=ltI y0 y1
def qB:Bool:=leI (0:Int) y0
def qC:Bool:=ltI y0 (↑y3.length:Int)
def qD:Bool:=ltN y0.toNat y3.length
def qE:Bool:= !ltI (fA y0 y2 y3) (0:Int)
def wm:Int:=IntKind.wrap .i64 (y0 + (1:Int))
def qF:Int:=fA y0 y2 y3
end
def OV:cC→List (Nat×SV)
 |(y0,y1,y2,_)=> [(11,(.one ⟨false,[.val (.int .i64 y0)]⟩)),(10,(.one ⟨false,[.val (.int .i64 y1)]⟩)),(9,(.one ⟨false,[.ref 0]⟩)),(3,(.one ⟨false,[.val (.int .i64 y2)]⟩))]
def OT:cC→List (Nat×Entry)
 |(_,_,_,y3)=> [(0,(.row false 60 (CTy.sl (9:Nat) CTy.str) y3))]
def OZ:Nat→cC→List (Nat×SV)
 |_,(_,_,y2,_)=> [(3,(.one ⟨false,[.val (.int .i64 y2)]⟩))]
def OX:Nat→cC→List (Nat×Entry)
 |_,(_,_,_,y3)=> [(0,(.row false 60 (CTy.sl (9:Nat) CTy.str) y3))]
def lV:cC→LT cC
 |(y0,y1,y2,y3)=> .ite (mC y0 y1) (.need [qB y0,qC y0 y3,qD y0 y3] (.need [qE y0 y2 y3] (.nrm ((wm y0),y1,qF y0 y2 y3,y3) [(0,0)]))) (.ext 0 [(0,0)])
def vF(s:St):Option cC:=
 (match s.look 11 with
 |some ⟨none,.one ⟨false,[.val (.int .i64 y0)]⟩⟩=>
 (match s.look 10 with
 |some ⟨none,.one ⟨false,[.val (.int .i64 y1)]⟩⟩=>
 (match s.look 9 with
 |some ⟨none,.one ⟨false,[.ref 0]⟩⟩=>
 (match s.look 3 with
 |some ⟨none,.one ⟨false,[.val (.int .i64 y2)]⟩⟩=>
 (match s.ent 0 with
 |some (.row false 60 (.sl (9:Nat) .str) y3)=>
 some (y0,y1,y2,y3)
 |_=>none)
 |_=>none)
 |_=>none)
 |_=>none)
 |_=>none)
def bh:Lp cC where
 h:=⟨[12,13,14,5,15,16,17,18,3,19,20,21,22,11],[0],[],[]⟩
 JL:=OV
 JE:=OT
 XL:=OZ
 XE:=OX
 q:=fun j=>match j with | _=> .exit 0
 tags:= [0]
 lt:=lV
 fuel:=fun(y0,y1,y2,y3)=>y0.natAbs + y1.natAbs + y2.natAbs + y3.length
 fix:=fun(_,y1,_,y3) (y0,_,y2,_)=>(y0,y1,y2,y3)
 σ:= [(0,0)]
 rd:=vF
theorem MR:LoopOk prog (fun k=>Nat.blt k Tryz.f227.ntmps) bh.F (aL f227 0):=by
 refine Lp.ok (tbl:= [zh]) (lf:= []) aN bh (by kernel_rfl) (LOk.nil _) (fun _=>rfl) (fun _ _=>rfl) ?_ ?_ ?_ ?_ (fun _=>rfl) ?_
 ·rintro⟨y0,y1,y2,y3⟩;kernel_rfl
 ·rintro⟨y0,y1,y2,y3⟩;kernel_rfl
 ·intro s x h
  have h:vF s=some x:=h
  unfold vF at h
  repeat' split at h
  all_goals cases h
  exact⟨aa (by assumption) rfl (aa (by assumption) rfl (aa (by assumption) rfl (aa (by assumption) rfl (rfl)))),ab rfl (by assumption) rfl (rfl)⟩
 ·rintro⟨y0,y1,y2,y3⟩;kernel_rfl
 ·rintro⟨y0,y1,y2,y3⟩ z;exact(And.intro rfl trivial)
abbrev cD:=Int×Int×List (List ByteArray)×List ByteArray
section
variable (y0 y1:Int)(y2:List (List ByteArray))(y3:List ByteArray)
def cY:List ByteArray:=Option.getD y2[Int.toNat y0]? (rY (CTy.sl (9:Nat) CTy.str))
def mD:Bool:=ltI y0 y1
def qG:Bool:=leI (0:Int) y0
def qH:Bool:=ltI y0 (↑y2.length:Int)
def qI:Bool:=ltN y0.toNat y2.length
def qJ:Bool:=leN (List.length y3 + List.length (cY y0 y2)) (9223372036854775807:Nat)
def qK:Bool:=leN ((List.length y3 + List.length (cY y0 y2)) * (16:Nat)) (140737488355328:Nat)
def wn:Int:=IntKind.wrap .i64 (y0 + (1:Int))
def qL:List ByteArray:=y3++cY y0 y2
end
def OW:cD→List (Nat×SV)
 |(y0,y1,_,_)=> [(27,(.one ⟨false,[.val (.int .i64 y0)]⟩)),(26,(.one ⟨false,[.val (.int .i64 y1)]⟩)),(25,(.one ⟨false,[.ref 0]⟩)),(6,(.one ⟨false,[.ref 1]⟩))]
def OU:cD→List (Nat×Entry)
 |(_,_,y2,y3)=> [(0,(.row false 60 (CTy.sl (9:Nat) CTy.str) y2)),(1,(.row true 9 aih y3))]
def Pa:Nat→cD→List (Nat×SV)
 |_,(_,_,_,_)=> [(6,(.one ⟨false,[.ref 1]⟩))]
def OY:Nat→cD→List (Nat×Entry)
 |_,(_,_,y2,y3)=> [(0,(.row false 60 (CTy.sl (9:Nat) CTy.str) y2)),(1,(.row true 9 aih y3))]
def lW:cD→LT cD
 |(y0,y1,y2,y3)=> .ite (mD y0 y1) (.need [qG y0,qH y0 y2,qI y0 y2] (.need [qJ y0 y2 y3,qK y0 y2 y3] (.nrm ((wn y0),y1,y2,(qL y0 y2 y3)) [(0,0),(1,448)]))) (.ext 0 [(0,0),(1,1)])
def vG(s:St):Option cD:=
 (match s.look 27 with
 |some ⟨none,.one ⟨false,[.val (.int .i64 y0)]⟩⟩=>
 (match s.look 26 with
 |some ⟨none,.one ⟨false,[.val (.int .i64 y1)]⟩⟩=>
 (match s.look 25 with
 |some ⟨none,.one ⟨false,[.ref 0]⟩⟩=>
 (match s.look 6 with
 |some ⟨none,.one ⟨false,[.ref 576]⟩⟩=>
 (match s.ent 0 with
 |some (.row false 60 (.sl (9:Nat) .str) y2)=>
 (match s.ent 576 with
 |some (.row true 9 (.str) y3)=>
 some (y0,y1,y2,y3)
 |_=>none)
 |_=>none)
 |_=>none)
 |_=>none)
 |_=>none)
 |_=>none)
def bi:Lp cD where
 h:=⟨[28,29,30,8,31,32,33,6,34,27],[0],[1],[]⟩
 JL:=OW
 JE:=OU
 XL:=Pa
 XE:=OY
 q:=fun j=>match j with | _=> .exit 2
 tags:= [0]
 lt:=lW
 fuel:=fun(y0,y1,y2,y3)=>y0.natAbs + y1.natAbs + y2.length + y3.length
 fix:=fun(_,y1,y2,_) (y0,_,_,y3)=>(y0,y1,y2,y3)
 σ:= [(0,0),(1,576)]
 rd:=vG
theorem MT:LoopOk prog (fun k=>Nat.blt k Tryz.f227.ntmps) bi.F (aL f227 1):=by
 refine Lp.ok (tbl:= [zh]) (lf:= []) aN bi (by kernel_rfl) (LOk.nil _) (fun _=>rfl) (fun _ _=>rfl) ?_ ?_ ?_ ?_ (fun _=>rfl) ?_
 ·rintro⟨y0,y1,y2,y3⟩;kernel_rfl
 ·rintro⟨y0,y1,y2,y3⟩;kernel_rfl
 ·intro s x h
  have h:vG s=some x:=h
  unfold vG at h
  repeat' split at h
  all_goals cases h
  exact⟨aa (by assumption) rfl (aa (by assumption) rfl (aa (by assumption) rfl (aa (by assumption) rfl (rfl)))),ab rfl (by assumption) rfl (ab rfl (by assumption) rfl (rfl))⟩
 ·rintro⟨y0,y1,y2,y3⟩;kernel_rfl
 ·rintro⟨y0,y1,y2,y3⟩ z;exact(And.intro rfl trivial)
section
variable (x0:List (List ByteArray))
def sm:Int×Int×Int×List (List ByteArray):=((0:Int),(↑x0.length:Int),(0:Int),x0)
def sn:Int:=((Lp.res bh (sm x0)).2.2.2).1
def sq:Int×Int×List (List ByteArray)×List ByteArray:=((0:Int),(↑x0.length:Int),x0,tF (sn x0))
def zj:List ByteArray:=(Lp.res bi (sq x0)).2.2.2.2
def zk:Bool:=allT [Lp.fin bh (sm x0),tG (sn x0),Lp.fin bi (sq x0)]
end
def Hv:List SV→List Entry→Option Out
 | [.one ⟨false,[.ref 0]⟩],[.row false 60 (.sl 9 (.str)) x0]=>some ⟨.one ⟨false,[.ref 1]⟩,[.row false 60 (CTy.sl (9:TypeId) CTy.str) x0],[.row true 9 aih (zj x0)],[zk x0]⟩
 |_,_=>none
def RP:PF prog:=PF.ofG prog [zh] [bh.F,bi.F] aN 227 f227 func227 (LOk.fnT (l:= [aL f227 0,aL f227 1]) (by kernel_rfl) (.cons MR (.cons MT (.nil _)))) Hv (by
 intro vs es r h;unfold Hv at h;split at h
 ·cases h;kernel_rfl
 ·cases h)
def atZ(l:List Int)(k:Int):Int:=Option.getD l[Int.toNat k]? (0:Int)
def apz(a b:Int):Int:=bif a==1 then b else 0
def orI(a b:Int):Int:=bif a==1 then 1 else b
theorem SW{l:List Int}(h: ∀ z∈l,z=0∨z=1)(k:Int):atZ l k=0∨atZ l k=1:=by
 unfold atZ
 cases hk:l[k.toNat]? with
 |none=>exact .inl rfl
 |some z=>exact h z (List.mem_of_getElem? hk)
theorem al7{n:Int}{l:List Int}(h:bitsB n l=true)(k:Nat){z:Int}(hz:z=0∨z=1):bitsB n (l.set k z)=true:=by
 obtain⟨h1,h2⟩:=fj.1 h
 refine fj.2 ⟨fun y hy=> ?_,by rw [List.length_set];exact h2⟩
 rcases List.mem_or_eq_of_mem_set hy with hy | rfl
 ·exact h1 y hy
 ·exact hz
theorem aq6{k n a b c:Int}{s:ByteArray}{l:List Int}(hB:VF k s n=true)(hP:possB k n a b c=true)(hA:bitsB (takesK k) l=true):gG k n a b c l=0∨gG k n a b c l=1:=by
 obtain⟨hk,hn,_⟩:=XH hB
 have hb:=(abB hP hn).2.1
 have hc:=(abB hP hn).2.2
 have hp:=hP
 rcases kinds hk with rfl | rfl | rfl | rfl | rfl | rfl
 ·obtain⟨x,rfl,hx⟩:=WL hA
  rcases hx with rfl | rfl <;> simp only [ck,iP,lc,fC,ld,le,lg,lh,jW,gG,iy,iz,iA,kj,ii,iO,jV,la,lb,mI,mJ,mK,mL,iS] <;> simp [Bool.cond_eq_ite] <;> (repeat' split) <;> omega
 ·obtain⟨x,rfl,hx⟩:=WL hA
  rcases hx with rfl | rfl <;> simp only [ck,iP,lc,fC,ld,le,lg,lh,jW,gG,iy,iz,iA,kj,ii,iO,jV,la,lb,mI,mJ,mK,mL,iS] <;> simp [Bool.cond_eq_ite] <;> (repeat' split) <;> omega
 ·obtain⟨x,rfl,hx⟩:=WL hA
  simp [possB,dB,bx]at hp
  rcases hx with rfl | rfl <;> simp only [ck,iP,lc,fC,ld,le,lg,lh,jW,gG,iy,iz,iA,kj,ii,iO,jV,la,lb,mI,mJ,mK,mL,iS] <;> simp [Bool.cond_eq_ite] <;> (repeat' split) <;> omega
 ·obtain⟨x,y,rfl,hx,hy⟩:=WM hA
  simp [possB,dB,bx]at hp
  rcases hx with rfl | rfl <;> rcases hy with rfl | rfl <;> simp only [ck,iP,lc,fC,ld,le,lg,lh,jW,gG,iy,iz,iA,kj,ii,iO,jV,la,lb,mI,mJ,mK,mL,iS] <;> simp [Bool.cond_eq_ite] <;> (repeat' split) <;> omega
 ·obtain⟨x,y,rfl,hx,hy⟩:=WM hA
  rcases hb with rfl | rfl <;> rcases hc with rfl | rfl <;> rcases hx with rfl | rfl <;> rcases hy with rfl | rfl <;> simp only [ck,iP,lc,fC,ld,le,lg,lh,jW,gG,iy,iz,iA,kj,ii,iO,jV,la,lb,mI,mJ,mK,mL,iS] <;> simp [Bool.cond_eq_ite] <;> (repeat' split) <;> omega
 ·obtain⟨x,y,rfl,hx,hy⟩:=WM hA
  rcases hb with rfl | rfl <;> rcases hc with rfl | rfl <;> rcases hx with rfl | rfl <;> rcases hy with rfl | rfl <;> simp only [ck,iP,lc,fC,ld,le,lg,lh,jW,gG,iy,iz,iA,kj,ii,iO,jV,la,lb,mI,mJ,mK,mL,iS] <;> simp [Bool.cond_eq_ite] <;> (repeat' split) <;> omega
abbrev LN:=ByteArray×List TM
def mw(l:List ByteArray)(s:ByteArray):Bool:=l.any fun k=>k.toList==s.toList
def Sr(l:List ByteArray)(s:ByteArray):Nat:=(l.takeWhile fun k=> !(k.toList==s.toList)).length
def iQ(l:List ByteArray)(s:ByteArray):Int:=bif mw l s then(Sr l s:Int)else -1
theorem Yh{s:ByteArray}: ∀ {l:List ByteArray},mw l s=true→Sr l s < l.length
 | [],h=>by cases h
 |a::r,h=>by
  simp only [mw,List.any_cons]at h
  simp only [Sr,List.takeWhile_cons]
  cases ha:a.toList==s.toList with
  |true=>simp
  |false=>
   rw [ha,Bool.false_or]at h
   have:=Yh (l:=r) h
   simp only [Sr]at this
   simp only [Bool.not_false,if_true,List.length_cons]
   omega
theorem ahK(a b:List ByteArray)(s:ByteArray):mw (a++b) s=(mw a s||mw b s):=List.any_append
theorem abd{l:List ByteArray}{s:ByteArray}:mw l s=true↔s.toList∈l.map ByteArray.toList:=by
 simp only [mw,List.any_eq_true,beq_iff_eq,List.mem_map]
def htT:List TM→Int→Option Int
 | [],n=>some n
 |t::r,n=>bif termB t.1 t.2.1 t.2.2&&leI (takesK t.1) n then htT r (n - takesK t.1 + 1)else none
def afO(ts:List TM):Bool:=leN ts.length 40&&(match htT ts 0 with | some n=>n==1 | none=>false)
def lineB(x:LN):Bool:=mM x.1&&afO x.2
def ag2(l:List ByteArray)(lo:Nat):Bool:=l.all mM&&inR (l.length:Int) lo 20
def aie(nm:ByteArray)(ins vs os:List ByteArray)(g:ByteArray)(ls:List LN):Bool:=mM nm&&(ag2 ins 1&&(ag2 vs 0&&(ag2 os 1&&((g.toList== []||mM g)&&(ls.all lineB&&inR (ls.length:Int) 1 40)))))
def rU(l:List ByteArray):Bool:=(List.range l.length).any fun i=>mw (l.take i) (Option.getD l[i]? ⟨#[]⟩)
def Xc(ins vs:List ByteArray)(s:ByteArray):Bool:=mw ins s||mw vs s
def usedB(ins vs:List ByteArray)(t:TM):Bool:= !(t.1==1)||Xc ins vs t.2.1
def app(ins vs os:List ByteArray)(g:ByteArray)(ls:List LN):Bool:= !rU (ins++vs++os)&&((g.toList== []||Xc ins vs g)&&(ls.all (fun l=>mw vs l.1||mw os l.1)&&(!rU (ls.map Prod.fst)&&(leN (vs.length + os.length) ls.length&&ls.all fun l=>l.2.all (usedB ins vs)))))
theorem ak8{l:List ByteArray}:rU l=false↔(l.map ByteArray.toList).Nodup:=by
 rw [List.nodup_iff_pairwise_ne,List.pairwise_iff_getElem]
 simp only [rU,List.any_eq_false,List.mem_range,Bool.not_eq_true,List.length_map,List.getElem_map]
 constructor
 ·intro h i j hi hj Xo he
  have h1:=h j hj
  rw [← Bool.not_eq_true,abd]at h1
  apply h1
  rw [List.getElem?_eq_getElem hj,Option.getD_some,← he]
  refine List.mem_map.2 ⟨l[i],?_,rfl⟩
  rw [List.mem_take_iff_getElem]
  exact⟨i,by omega,rfl⟩
 ·intro h j hj
  rw [← Bool.not_eq_true,abd,List.mem_map]
  rintro⟨x,hx,he⟩
  rw [List.mem_take_iff_getElem]at hx
  obtain⟨i,hi,rfl⟩:=hx
  rw [List.getElem?_eq_getElem hj,Option.getD_some]at he
  exact h i j (by omega) hj (by omega) he
theorem anX{α:Type}[DecidableEq α]: ∀ (a b:List α),a.Nodup→(∀ x∈a,x∈b)→a.length≤b.length
 | [],b,_,_=>Nat.zero_le _
 |x::r,b,hn,hs=>by
  obtain⟨h1,h2⟩:=List.nodup_cons.1 hn
  have hx:=hs x (by simp)
  have:=anX r (b.erase x) h2 (fun y hy=>(List.mem_erase_of_ne (fun h:y=x=>h1 (by rw [← h];exact hy))).2 (hs y (by simp [hy])))
  rw [List.length_erase_of_mem hx]at this
  have h0:=List.length_pos_of_mem hx
  simp only [List.length_cons]
  omega
theorem arv{α:Type}[DecidableEq α]{a b:List α}(ha:a.Nodup)(hb:b.Nodup)(hs: ∀ x∈a,x∈b):(∀ y∈b,y∈a)↔b.length≤a.length:=by
 constructor
 ·intro h;exact anX b a hb h
 ·intro h y hy
  refine Decidable.byContradiction fun hn=> ?_
  have:=anX (y::a) b (List.nodup_cons.2 ⟨hn,ha⟩) (fun z hz=>(List.mem_cons.1 hz).elim (fun h=>h ▸ hy) (fun h=>hs z h))
  rw [List.length_cons]at this
  omega
theorem ap3{ins vs os:List ByteArray}{ls:List LN}(h1:rU (ins++vs++os)=false)(h3:ls.all (fun l=>mw vs l.1||mw os l.1)=true)(h4:rU (ls.map Prod.fst)=false):
  ((vs++os).any fun s=> !mw (ls.map Prod.fst) s)= !leN (vs.length + os.length) ls.length:=by
 have n1:((vs++os).map ByteArray.toList).Nodup:=by
  have:=ak8.1 h1
  rw [List.append_assoc,List.map_append]at this
  exact(List.nodup_append.1 this).2.1
 have n4:=ak8.1 h4
 have hs: ∀ x∈(ls.map Prod.fst).map ByteArray.toList,x∈(vs++os).map ByteArray.toList:=by
  intro x hx
  simp only [List.mem_map]at hx
  obtain⟨y,⟨l,hl,rfl⟩,rfl⟩:=hx
  have:=List.all_eq_true.1 h3 l hl
  rw [← ahK]at this
  exact abd.1 this
 have jb:=arv n4 n1 hs
 rw [Bool.eq_iff_iff,Bool.not_eq_true',← Bool.not_eq_true,fX]
 simp only [List.length_map,List.length_append]at jb
 rw [← jb]
 simp only [List.any_eq_true,Bool.not_eq_true']
 constructor
 ·rintro⟨s,hs1,hs2⟩ h
  have:=h _ (List.mem_map.2 ⟨s,hs1,rfl⟩)
  have h2:mw (ls.map Prod.fst) s=true:=abd.2 this
  rw [h2]at hs2;cases hs2
 ·intro h
  refine Classical.byContradiction fun hn=>h fun y hy=> ?_
  obtain⟨s,hs1,rfl⟩:=List.mem_map.1 hy
  refine Classical.byContradiction fun hn2=>hn ⟨s,hs1,?_⟩
  cases hh:mw (ls.map Prod.fst) s with
  |false=>rfl
  |true=>exact absurd (abd.1 hh) hn2
def nmV(ins vs:List ByteArray)(inp xs:List Int)(s:ByteArray):Int:=bif mw ins s then atZ inp (Sr ins s)else atZ xs (Sr vs s)
def tmV(ins vs:List ByteArray)(inp xs:List Int)(t:TM)(ar:List Int)(b:BS3):Int:=bif t.1==1 then nmV ins vs inp xs t.2.1 else bif t.1==2 then 1 else bif t.1==3 then 0 else bif t.1==4 then 1 - atZ ar 0 else bif t.1==5 then apz (atZ ar 0) (atZ ar 1)else bif t.1==6 then orI (atZ ar 0) (atZ ar 1)else aq5 t.1 t.2.2 ar b
def ltk(t:TM)(stk:List Int):Nat:=stk.length - (takesK t.1).toNat
abbrev LS:=List Int×List BS3×Nat
def lnS(ins vs:List ByteArray)(inp xs:List Int)(t:TM)(a:LS):LS:=(a.1.take (ltk t a.1)++ [tmV ins vs inp xs t (a.1.drop (ltk t a.1)) (stAt a.2.1 a.2.2)],bif leI 7 t.1 then a.2.1.set a.2.2 (YU t.1 t.2.2 (a.1.drop (ltk t a.1)) (stAt a.2.1 a.2.2))else a.2.1,bif leI 7 t.1 then a.2.2 + 1 else a.2.2)
def aex(ins vs:List ByteArray)(inp xs:List Int):List TM→LS→LS
 | [],a=>a
 |t::r,a=>aex ins vs inp xs r (lnS ins vs inp xs t a)
theorem Rv(k:Int):0≤takesK k∧takesK k≤2:=by
 simp only [takesK,mu]
 refine⟨?_,?_⟩ <;> simp only [Bool.cond_eq_ite] <;> (repeat' split) <;> decide
structure LnOk (bl:List TM) (n:Int) (k:Nat) (a:LS):Prop where
 hb: ∀ z∈a.1,z=0∨z=1
 hl:(a.1.length:Int)=n
 sl:a.2.1.length=bl.length
 sp: ∀ j,j < bl.length→possAt bl a.2.1 j=true
 hk:a.2.2=k
theorem ap9{ins vs:List ByteArray}{inp xs:List Int}(hi:bitsB ins.length inp=true)(hx:bitsB vs.length xs=true)(s:ByteArray):nmV ins vs inp xs s=0∨nmV ins vs inp xs s=1:=by
 simp only [nmV]
 cases mw ins s with
 |true=>exact SW (fj.1 hi).1 _
 |false=>exact SW (fj.1 hx).1 _
theorem apA{a b:Int}(hb:b=0∨b=1):apz a b=0∨apz a b=1:=by simp only [apz];cases a==1 <;> simp [hb]
theorem aqN{a b:Int}(hb:b=0∨b=1):orI a b=0∨orI a b=1:=by simp only [orI];cases a==1 <;> simp [hb]
theorem aqb{a:Int}(ha:a=0∨a=1):1 - a=0∨1 - a=1:=by rcases ha with rfl | rfl <;> simp
theorem akD{t:TM}{stk:List Int}(hb: ∀ z∈stk,z=0∨z=1)(ht:takesK t.1≤stk.length):bitsB (takesK t.1) (stk.drop (ltk t stk))=true:=by
 have h0:=(Rv t.1).1
 refine fj.2 ⟨fun z hz=>hb z (List.mem_of_mem_drop hz),?_⟩
 simp only [ltk,List.length_drop]
 omega
theorem UG{t:TM}(hT:termB t.1 t.2.1 t.2.2=true)(h7:leI 7 t.1=true):VF t.1 t.2.1 t.2.2=true:=by simp only [VF,hT,h7];rfl
theorem ahw{t:TM}(hT:termB t.1 t.2.1 t.2.2=true):1≤t.1∧t.1≤12:=by
 simp only [termB,Bool.and_eq_true,FL]at hT;exact hT.1
theorem arM{ins vs:List ByteArray}{inp xs:List Int}{bl:List TM}{n:Int}{k:Nat}{a:LS}{t:TM}(hi:bitsB ins.length inp=true)(hx:bitsB vs.length xs=true)
  (hT:termB t.1 t.2.1 t.2.2=true) (ht:takesK t.1≤n) (hblk:leI 7 t.1=true→k < bl.length∧Qp bl k=t) (h:LnOk bl n k a):
  (tmV ins vs inp xs t (a.1.drop (ltk t a.1)) (stAt a.2.1 a.2.2)=0∨tmV ins vs inp xs t (a.1.drop (ltk t a.1)) (stAt a.2.1 a.2.2)=1)∧
  LnOk bl (n - takesK t.1 + 1) (bif leI 7 t.1 then k + 1 else k) (lnS ins vs inp xs t a):=by
 have hl:=h.hl
 have hdb:=akD (t:=t) h.hb (by omega)
 have hd:=(fj.1 hdb).1
 have d0:=SW hd 0
 have d1:=SW hd 1
 have h0:=Rv t.1
 have hv:leI 7 t.1=true→(tmV ins vs inp xs t (a.1.drop (ltk t a.1)) (stAt a.2.1 a.2.2)=aq5 t.1 t.2.2 (a.1.drop (ltk t a.1)) (stAt a.2.1 a.2.2)):=by
  intro h7
  have h7:=EV.1 h7
  simp only [tmV]
  rw [show (t.1==1)=false by simp;omega,show (t.1==2)=false by simp;omega,show (t.1==3)=false by simp;omega,show (t.1==4)=false by simp;omega,show (t.1==5)=false by simp;omega,show (t.1==6)=false by simp;omega]
  rfl
 have hvb:tmV ins vs inp xs t (a.1.drop (ltk t a.1)) (stAt a.2.1 a.2.2)=0∨tmV ins vs inp xs t (a.1.drop (ltk t a.1)) (stAt a.2.1 a.2.2)=1:=by
  cases h7:leI 7 t.1 with
  |true=>
   obtain⟨hk,hbt⟩:=hblk h7
   rw [hv h7]
   have hp:=h.sp k hk
   simp only [possAt,hbt]at hp
   rw [h.hk]
   exact aq6 (UG hT h7) hp hdb
  |false=>
   have hkk:=ahw hT
   have h7': ¬ (7≤t.1):=fun hc=>by rw [bw hc]at h7;cases h7
   have hc:t.1=1∨t.1=2∨t.1=3∨t.1=4∨t.1=5∨t.1=6:=by omega
   rcases hc with e | e | e | e | e | e <;> simp only [tmV,e] <;> simp
   ·exact ap9 hi hx _
   ·exact aqb d0
   ·exact apA d1
   ·exact aqN d1
 refine⟨hvb,⟨?_,?_,?_,?_,?_⟩⟩
 ·intro z hz
  simp only [lnS,List.mem_append,List.mem_singleton]at hz
  rcases hz with hz | rfl
  ·exact h.hb z (List.mem_of_mem_take hz)
  ·exact hvb
 ·simp only [lnS,List.length_append,List.length_take,List.length_singleton,ltk]
  omega
 ·simp only [lnS]
  cases leI 7 t.1 with
  |true=>simp only [cond_true,List.length_set];exact h.sl
  |false=>exact h.sl
 ·intro j hj
  simp only [lnS]
  cases h7:leI 7 t.1 with
  |false=>exact h.sp j hj
  |true=>
   obtain⟨hk,hbt⟩:=hblk h7
   simp only [cond_true]
   rw [h.hk]
   by_cases hjk:j=k
   ·subst hjk
    have hp:=h.sp j hj
    simp only [possAt,hbt]at hp ⊢
    have hs:stAt (a.2.1.set j (YU t.1 t.2.2 (a.1.drop (ltk t a.1)) (stAt a.2.1 j))) j=YU t.1 t.2.2 (a.1.drop (ltk t a.1)) (stAt a.2.1 j):=by
     simp only [stAt]
     rw [List.getElem?_set_self (by rw [h.sl];exact hj)];rfl
    rw [hs]
    exact(aqa (UG hT h7) hp hdb).2
   ·have hs:stAt (a.2.1.set k (YU t.1 t.2.2 (a.1.drop (ltk t a.1)) (stAt a.2.1 k))) j=stAt a.2.1 j:=by
     simp only [stAt]
     rw [List.getElem?_set_ne (fun h=>hjk h.symm)]
    simp only [possAt,hs]
    exact h.sp j hj
 ·simp only [lnS]
  rw [h.hk]
def blT(ts:List TM):List TM:=ts.filter fun t=>leI 7 t.1
def blL(ls:List LN):List TM:=ls.flatMap fun l=>blT l.2
theorem aep: ∀ (l1 l2:List TM) (n:Int),htT (l1++l2) n=match htT l1 n with | some m=>htT l2 m | none=>none
 | [],l2,n=>rfl
 |t::r,l2,n=>by
  simp only [List.cons_append,htT]
  cases (termB t.1 t.2.1 t.2.2&&leI (takesK t.1) n)with
  |false=>rfl
  |true=>simp only [cond_true];exact aep r l2 _
theorem aoF: ∀ (l:List TM) (n m:Int),0≤n→htT l n=some m→0≤m∧m≤n + l.length
 | [],n,m,hn,h=>by simp only [htT,Option.some.injEq]at h;simp;omega
 |t::r,n,m,hn,h=>by
  simp only [htT]at h
  have hg:=Rv t.1
  cases hc:(termB t.1 t.2.1 t.2.2&&leI (takesK t.1) n)with
  |false=>rw [hc]at h;cases h
  |true=>
   rw [hc,cond_true]at h
   simp only [Bool.and_eq_true,EV]at hc
   have:=aoF r _ m (by omega) h
   simp only [List.length_cons]
   omega
theorem arp{ts:List TM}{e:Int}(lI:htT ts 0=some e){i:Nat}{t:TM}(ht:ts[i]? =some t):
  ∃ n,htT (ts.take i) 0=some n∧(0≤n∧n≤i)∧termB t.1 t.2.1 t.2.2=true∧takesK t.1≤n∧htT (ts.take (i + 1)) 0=some (n - takesK t.1 + 1):=by
 obtain⟨hi,rfl⟩:=List.getElem?_eq_some_iff.1 ht
 have hs:ts=ts.take i++ts[i]::ts.drop (i + 1):=by rw [List.getElem_cons_drop,List.take_append_drop]
 have h1:=aep (ts.take i) (ts[i]::ts.drop (i + 1)) 0
 rw [← hs,lI]at h1
 cases hp:htT (ts.take i) 0 with
 |none=>rw [hp]at h1;cases h1
 |some n=>
  rw [hp]at h1
  simp only [htT]at h1
  cases hc:(termB ts[i].1 ts[i].2.1 ts[i].2.2&&leI (takesK ts[i].1) n)with
  |false=>rw [hc]at h1;cases h1
  |true=>
   have h2:=aep (ts.take i) [ts[i]] 0
   rw [hp]at h2
   simp only [htT,hc,cond_true]at h2
   simp only [Bool.and_eq_true,EV]at hc
   have hb:=aoF _ _ _ (Int.le_refl 0) hp
   rw [List.length_take]at hb
   exact⟨n,rfl,by omega,hc.1,hc.2,by rw [← h2,List.take_succ_eq_append_getElem hi]⟩
theorem ahP{ins vs:List ByteArray}{inp xs:List Int}: ∀ (l1 l2:List TM) (a:LS),aex ins vs inp xs (l1++l2) a=aex ins vs inp xs l2 (aex ins vs inp xs l1 a)
 | [],l2,a=>rfl
 |t::r,l2,a=>ahP r l2 _
theorem XG(a b:List TM):blT (a++b)=blT a++blT b:=List.filter_append ..
theorem aiW(a b:List LN):blL (a++b)=blL a++blL b:=List.flatMap_append
theorem anr{pre post ts:List TM}{i:Nat}{t:TM}(ht:ts[i]? =some t)(h7:leI 7 t.1=true):
  pre.length + (blT (ts.take i)).length < (pre++blT ts++post).length∧Qp (pre++blT ts++post) (pre.length + (blT (ts.take i)).length)=t∧(blT (ts.take (i + 1))).length=(blT (ts.take i)).length + 1:=by
 obtain⟨hi,rfl⟩:=List.getElem?_eq_some_iff.1 ht
 have hs:ts=ts.take i++ts[i]::ts.drop (i + 1):=by rw [List.getElem_cons_drop,List.take_append_drop]
 have hb:blT ts=blT (ts.take i)++ts[i]::blT (ts.drop (i + 1)):=by
  conv=>lhs;rw [hs,XG]
  congr 1
  simp only [blT,List.filter_cons,h7,if_true]
 have hb2:blT (ts.take (i + 1))=blT (ts.take i)++ [ts[i]]:=by
  rw [List.take_succ_eq_append_getElem hi,XG]
  congr 1
  simp only [blT,List.filter_cons,h7,if_true,List.filter_nil]
 refine⟨?_,?_,by rw [hb2];simp⟩
 ·rw [hb];simp
 ·simp only [Qp]
  rw [List.append_assoc,List.getElem?_append_right (by omega),Nat.add_sub_cancel_left,hb,List.append_assoc,List.getElem?_append_right (by omega),Nat.sub_self]
  rfl
theorem aqs{ts:List TM}{i:Nat}{t:TM}(ht:ts[i]? =some t)(h7:leI 7 t.1=false):(blT (ts.take (i + 1))).length=(blT (ts.take i)).length:=by
 obtain⟨hi,rfl⟩:=List.getElem?_eq_some_iff.1 ht
 rw [List.take_succ_eq_append_getElem hi,XG]
 simp [blT,List.filter_cons,h7]
def aiM(pre post ts:List TM)(i:Nat)(a:LS):Prop:= ∃ n,htT (ts.take i) 0=some n∧LnOk (pre++blT ts++post) n (pre.length + (blT (ts.take i)).length) a
theorem akQ{ins vs:List ByteArray}{inp xs:List Int}{pre post ts:List TM}{e:Int}{i:Nat}{a:LS}{t:TM}(hi:bitsB ins.length inp=true)(hx:bitsB vs.length xs=true)
  (lI:htT ts 0=some e) (ht:ts[i]? =some t) (h:aiM pre post ts i a):
  (0≤takesK t.1∧takesK t.1≤a.1.length)∧a.1.length≤i∧termB t.1 t.2.1 t.2.2=true∧bitsB (takesK t.1) (a.1.drop (ltk t a.1))=true∧a.2.1.length=(pre++blT ts++post).length∧
  (leI 7 t.1=true→a.2.2 < (pre++blT ts++post).length∧possB t.1 t.2.2 (stAt a.2.1 a.2.2).1 (stAt a.2.1 a.2.2).2.1 (stAt a.2.1 a.2.2).2.2=true)∧
  a.2.2≤(pre++blT ts++post).length∧(∀ z∈a.1,z=0∨z=1)∧
  aiM pre post ts (i + 1) (lnS ins vs inp xs t a):=by
 obtain⟨n,h1,h2⟩:=h
 obtain⟨n',g1,g2,g3,g4,g5⟩:=arp lI ht
 rw [h1]at g1;cases g1
 have hl:=h2.hl
 have h0:=Rv t.1
 have hblk:leI 7 t.1=true→pre.length + (blT (ts.take i)).length < (pre++blT ts++post).length∧Qp (pre++blT ts++post) (pre.length + (blT (ts.take i)).length)=t:=
  fun h7=>⟨(anr ht h7).1,(anr ht h7).2.1⟩
 obtain⟨_,k2⟩:=arM (ins:=ins) (vs:=vs) hi hx g3 g4 hblk h2
 have hkle:a.2.2≤(pre++blT ts++post).length:=by
  rw [h2.hk]
  have:(blT (ts.take i)).length≤(blT ts).length:=by
   conv=>rhs;rw [← List.take_append_drop i ts,XG]
   simp
  simp;omega
 refine⟨by omega,by omega,g3,akD h2.hb (by omega),h2.sl,fun h7=> ?_,hkle,h2.hb,⟨_,g5,?_⟩⟩
 ·obtain⟨q1,q2⟩:=hblk h7
  rw [h2.hk]
  have:=h2.sp _ q1
  simp only [possAt,q2]at this
  exact⟨q1,this⟩
 ·have:(bif leI 7 t.1 then pre.length + (blT (ts.take i)).length + 1 else pre.length + (blT (ts.take i)).length)=pre.length + (blT (ts.take (i + 1))).length:=by
   cases h7:leI 7 t.1 with
   |true=>rw [(anr (pre:=pre) (post:=post) ht h7).2.2];rfl
   |false=>rw [aqs ht h7];rfl
  rw [← this];exact k2
theorem aoI{ins vs:List ByteArray}{inp xs:List Int}{pre post ts:List TM}{e:Int}{a:LS}(hi:bitsB ins.length inp=true)(hx:bitsB vs.length xs=true)(lI:htT ts 0=some e)(h:aiM pre post ts 0 a):
  ∀ i,i≤ts.length→aiM pre post ts i (aex ins vs inp xs (ts.take i) a)
 |0,_=>h
 |i + 1,eB=>by
  have h1:=aoI hi hx lI h i (by omega)
  rw [List.take_succ_eq_append_getElem (by omega),ahP]
  exact(akQ hi hx lI (List.getElem?_eq_getElem (by omega)) h1).2.2.2.2.2.2.2.2
theorem Ru{v:Int}{bs:List TM}{xs:List Int}{ss:List BS3}:Hg v bs xs ss=true↔ss.length=bs.length∧bitsB v xs=true∧ ∀ k,k < bs.length→possAt bs ss k=true:=by
 simp only [Hg,Bool.and_eq_true,beq_iff_eq,List.all_eq_true,List.mem_range]
 constructor
 ·rintro⟨h1,h2,h3⟩;exact⟨by omega,h2,h3⟩
 ·rintro⟨h1,h2,h3⟩;exact⟨by omega,h2,h3⟩
abbrev SS4:=List Int×List Int×List BS3×Nat
def lnV(ins vs:List ByteArray)(inp:List Int)(l:LN)(a:SS4):LS:=aex ins vs inp a.1 l.2 ([],a.2.2.1,a.2.2.2)
def scS(ins vs os:List ByteArray)(inp:List Int)(l:LN)(a:SS4):SS4:=(bif mw vs l.1 then a.1.set (Sr vs l.1) (atZ (lnV ins vs inp l a).1 0)else a.1,bif mw vs l.1 then a.2.1 else a.2.1.set (Sr os l.1) (atZ (lnV ins vs inp l a).1 0),(lnV ins vs inp l a).2.1,(lnV ins vs inp l a).2.2)
def aoc(ins vs os:List ByteArray)(inp:List Int):List LN→SS4→SS4
 | [],a=>a
 |l::r,a=>aoc ins vs os inp r (scS ins vs os inp l a)
theorem ah2{ins vs os:List ByteArray}{inp:List Int}: ∀ (l1 l2:List LN) (a:SS4),aoc ins vs os inp (l1++l2) a=aoc ins vs os inp l2 (aoc ins vs os inp l1 a)
 | [],l2,a=>rfl
 |t::r,l2,a=>ah2 r l2 _
structure ScAt (vs os:List ByteArray) (ls:List LN) (i:Nat) (a:SS4):Prop where
 hx:bitsB vs.length a.1=true
 ho:bitsB os.length a.2.1=true
 sl:a.2.2.1.length=(blL ls).length
 sp: ∀ j,j < (blL ls).length→possAt (blL ls) a.2.2.1 j=true
 hk:a.2.2.2=(blL (ls.take i)).length
theorem abE{ls:List LN}{i:Nat}{l:LN}(hl:ls[i]? =some l):blL ls=blL (ls.take i)++blT l.2++blL (ls.drop (i + 1))∧(blL (ls.take (i + 1))).length=(blL (ls.take i)).length + (blT l.2).length:=by
 obtain⟨hi,rfl⟩:=List.getElem?_eq_some_iff.1 hl
 have hs:ls=ls.take i++ls[i]::ls.drop (i + 1):=by rw [List.getElem_cons_drop,List.take_append_drop]
 refine⟨?_,?_⟩
 ·conv=>lhs;rw [hs,aiW]
  rw [List.append_assoc]
  rfl
 ·rw [List.take_succ_eq_append_getElem hi,aiW]
  simp [blL]
theorem abO{x:LN}(h:lineB x=true):mM x.1=true∧x.2.length≤40∧htT x.2 0=some 1:=by
 simp only [lineB,afO,Bool.and_eq_true,fX]at h
 obtain⟨h1,h2,h3⟩:=h
 refine⟨h1,h2,?_⟩
 split at h3
 ·rename_i n hn;rw [hn];congr 1;exact eq_of_beq h3
 ·cases h3
theorem ahs{vs os:List ByteArray}{ls:List LN}{i:Nat}{a:SS4}{l:LN}(hl:ls[i]? =some l)(h:ScAt vs os ls i a):
  aiM (blL (ls.take i)) (blL (ls.drop (i + 1))) l.2 0 ([],a.2.2.1,a.2.2.2):=by
 have hs:=(abE hl).1
 refine⟨0,by simp [htT],⟨fun z hz=>(List.not_mem_nil hz).elim,rfl,?_,?_,?_⟩⟩
 ·rw [← hs];exact h.sl
 ·rw [← hs];exact h.sp
 ·simp [blT,h.hk]
theorem Xe{ins vs os:List ByteArray}{inp:List Int}{ls:List LN}{i:Nat}{a:SS4}{l:LN}(hi:bitsB ins.length inp=true)(hL:lineB l=true)(hl:ls[i]? =some l)
  (h:ScAt vs os ls i a):(lnV ins vs inp l a).1.length=1∧(atZ (lnV ins vs inp l a).1 0=0∨atZ (lnV ins vs inp l a).1 0=1)∧ScAt vs os ls (i + 1) (scS ins vs os inp l a):=by
 obtain⟨hn,oI,hht⟩:=abO hL
 obtain⟨hs,hs2⟩:=abE hl
 have h0:=aoI (ins:=ins) (vs:=vs) hi h.hx hht (ahs hl h) l.2.length (Nat.le_refl _)
 rw [List.take_length]at h0
 obtain⟨n,g1,g2⟩:=h0
 rw [List.take_length,hht]at g1;cases g1
 have hlen1:(lnV ins vs inp l a).1.length=1:=by have:=g2.hl;simp only [lnV];omega
 have hbit:atZ (lnV ins vs inp l a).1 0=0∨atZ (lnV ins vs inp l a).1 0=1:=SW g2.hb 0
 refine⟨hlen1,hbit,⟨?_,?_,?_,?_,?_⟩⟩
 ·simp only [scS]
  cases mw vs l.1 with
  |true=>exact al7 h.hx _ hbit
  |false=>exact h.hx
 ·simp only [scS]
  cases mw vs l.1 with
  |true=>exact h.ho
  |false=>exact al7 h.ho _ hbit
 ·simp only [scS,lnV];rw [hs];exact g2.sl
 ·simp only [scS,lnV];rw [hs];exact g2.sp
 ·simp only [scS,lnV]
  rw [g2.hk,hs2,List.take_length]
theorem aoP{ins vs os:List ByteArray}{inp:List Int}{ls:List LN}{a:SS4}(hi:bitsB ins.length inp=true)(hL:ls.all lineB=true)(h:ScAt vs os ls 0 a):
  ∀ i,i≤ls.length→ScAt vs os ls i (aoc ins vs os inp (ls.take i) a)
 |0,_=>h
 |i + 1,eB=>by
  have h1:=aoP hi hL h i (by omega)
  rw [List.take_succ_eq_append_getElem (by omega),ah2]
  exact(Xe hi (List.all_eq_true.1 hL _ (List.getElem_mem (by omega))) (List.getElem?_eq_getElem (by omega)) h1).2.2
def scE(ins vs os:List ByteArray)(ls:List LN)(inp xs:List Int)(ss:List BS3):SS4:=aoc ins vs os inp ls (xs,List.replicate os.length 0,ss,0)
def scO(ins vs os:List ByteArray)(g:ByteArray)(ls:List LN)(inp xs:List Int)(ss:List BS3):List Int:=bif !(g.toList== [])&&nmV ins vs inp (scE ins vs os ls inp xs ss).1 g==0 then List.replicate os.length 0 else(scE ins vs os ls inp xs ss).2.1
def scV(ins vs os:List ByteArray)(ls:List LN)(inp xs:List Int)(ss:List BS3):List Int:=(scE ins vs os ls inp xs ss).1
def scB(ins vs os:List ByteArray)(ls:List LN)(inp xs:List Int)(ss:List BS3):List BS3:=(scE ins vs os ls inp xs ss).2.2.1
theorem aob{ins vs os:List ByteArray}{inp xs:List Int}{ss:List BS3}{ls:List LN}(hi:bitsB ins.length inp=true)(hL:ls.all lineB=true)(hs:Hg vs.length (blL ls) xs ss=true):
  ScAt vs os ls ls.length (scE ins vs os ls inp xs ss):=by
 obtain⟨h1,h2,h3⟩:=Ru.1 hs
 have h0:ScAt vs os ls 0 (xs,List.replicate os.length 0,ss,0):=⟨h2,fj.2 ⟨fun z hz=> .inl (List.eq_of_mem_replicate hz),by simp⟩,h1,h3,by simp [blL]⟩
 have:=aoP hi hL h0 ls.length (Nat.le_refl _)
 rw [List.take_length]at this
 exact this
theorem aqV{ins vs os:List ByteArray}{g:ByteArray}{inp xs:List Int}{ss:List BS3}{ls:List LN}(hi:bitsB ins.length inp=true)(hL:ls.all lineB=true)(hs:Hg vs.length (blL ls) xs ss=true):
  Hg vs.length (blL ls) (scV ins vs os ls inp xs ss) (scB ins vs os ls inp xs ss)=true∧bitsB os.length (scO ins vs os g ls inp xs ss)=true:=by
 have h:=aob (os:=os) hi hL hs
 refine⟨Ru.2 ⟨h.sl,h.hx,h.sp⟩,?_⟩
 simp only [scO]
 cases (!(g.toList== [])&&nmV ins vs inp (scE ins vs os ls inp xs ss).1 g==0)with
 |true=>exact fj.2 ⟨fun z hz=> .inl (List.eq_of_mem_replicate hz),by simp⟩
 |false=>exact h.ho
theorem Vv{A B:Type}{f g:B→A→Nat ⊕ A}{e:Nat}: ∀ {l:List B} {i:Nat} {a:A},(∀ b∈l,∀ a,f b a=g b a)→af f e l i a=af g e l i a
 | [],_,_,_=>rfl
 |b::r,i,a,h=>by
  simp only [af,h b (by simp) a]
  cases g b a with
  |inl j=>rfl
  |inr a'=>exact Vv fun x hx=>h x (by simp [hx])
def Ce(y1 b:ByteArray):(Unit)→Nat ⊕ (Unit)
 |_=>(bif(ByteArray.toList (b)==ByteArray.toList y1)then(.inl 0)else(.inr ()))
def qm(y1:ByteArray)(y2:List ByteArray)(i:Nat):(Unit)→mU
 |_=>((i:Int),y1,y2)
def Mt:mU→Unit
 |(_,_,_)=>()
theorem afn(y1:ByteArray)(y2:List ByteArray) (hn:y2.length≤9223372036854775807):
  dY.fin ((0:Int),y1,y2)=true∧dY.res ((0:Int),y1,y2)=((af (Ce y1) 1 y2 0 ()).1,(qm y1 y2) (af (Ce y1) 1 y2 0 ()).2.1 (af (Ce y1) 1 y2 0 ()).2.2):=by
 have jb:=dY.along (qm y1 y2) Mt (Ce y1) 1 (fun _ _=>True) y2 () (by trivial) (by simp only [dY,qm];omega) (fun i b a hb hI=> ?_) (fun a hI=> ?_)
 ·exact jb
 ·obtain⟨⟩:=a
  have eB:=(List.getElem?_eq_some_iff.1 hb).1
  have il: ∀ d,Option.getD y2[i]? d=b:=fun d=>by rw [hb];rfl
  have hw:=tZ eB hn
  have bM:ltI (i:Int) (y2.length:Int)=true:=dO (by omega)
  have vC:leI (0:Int) (i:Int)=true:=bw (by omega)
  have gI:ltN i y2.length=true:=fQ eB
  refine⟨?_,?_,?_,?_⟩
  ·simp [yh,Dx,Dy,Dz,DA,Bw,dY,LT.nds,allT,qm,bM,vC,gI,il]
  ·simp [yh,Dx,Dy,Dz,DA,Bw,dY,LT.each,qm,Mt,hw]
  ·simp only [yh,Dx,Dy,Dz,DA,Bw,dY,LT.fn,qm,Mt,Ce,Int.toNat_natCast,bM,vC,gI,il,cond_true,Bool.cond_self]
  ·exact fun _ _=>trivial
 ·obtain⟨⟩:=a
  simp [yh,Dx,Dy,Dz,DA,Bw,dY,LT.out,qm]
theorem aeK(s:ByteArray)(l:List ByteArray)(h:leN l.length 9223372036854775807=true):IH s l=iQ l s∧NA s l=true:=by
 obtain⟨w1,w2⟩:=afn s l (fX.1 h)
 rw [iH (P:=fun k=>k.toList==s.toList) (j:=0) (fun k=>rfl)]at w2
 simp only [IH,NA,Ma,w1,w2,allT,qm,iQ,mw,Sr]
 cases l.any fun k=>k.toList==s.toList <;> simp [Nat.beq]
theorem aje(s:ByteArray)(l:List ByteArray)(h:leN l.length 9223372036854775807=true):pS s l=iQ l s∧pT s l=true:=by
 obtain⟨w1,w2⟩:=FC s l (fX.1 h)
 rw [iH (P:=fun k=>s.toList==k.toList) (j:=0) (fun k=>rfl)]at w2
 have e1:(fun k:ByteArray=>s.toList==k.toList)=fun k=>k.toList==s.toList:=funext fun k=>BEq.comm
 have e2:(fun k:ByteArray=> !(s.toList==k.toList))=fun k=> !(k.toList==s.toList):=funext fun k=>by rw [BEq.comm]
 rw [e1,e2]at w2
 simp only [pS,pT,pf,w1,w2,allT,dr,iQ,mw,Sr]
 cases l.any fun k=>k.toList==s.toList <;> simp [Nat.beq]
theorem Sa(l:List ByteArray)(s:ByteArray):leI 0 (iQ l s)=mw l s:=by
 simp only [iQ]
 cases mw l s with
 |true=>exact bw (by simp)
 |false=>rfl
def YP:List SV→List Entry→Option Out
 | [.one ⟨false,[.ref 0]⟩,.one ⟨false,[.val (.string x0)]⟩],[.row false 9 (.str) x1]=>some ⟨.one ⟨false,[.val (.int .i64 (iQ x1 x0))]⟩,[.row false 9 aih x1],[],[leN x1.length 9223372036854775807]⟩
 |_,_=>none
def bV:PF prog:=PF.alt Ap YP (by
 intro args es o h cB;unfold YP at h;split at h
 ·rename_i x0 x1
  cases h
  have cB:=mq cB
  have hh:=aeK x0 x1 cB
  obtain⟨e0,en⟩:=hh
  exact rg rfl (lJ en) (by simp only [e0] <;> rfl) rfl rfl
 ·cases h)
def Ix:List SV→List Entry→Option Out
 | [.one ⟨false,[.ref 0]⟩,.one ⟨false,[.val (.string x0)]⟩],[.row false 9 (.str) x1]=>some ⟨.one ⟨false,[.val (.int .i64 (iQ x1 x0))]⟩,[.row false 9 aih x1],[],[leN x1.length 9223372036854775807]⟩
 |_,_=>none
def ub:PF prog:=PF.alt uc Ix (by
 intro args es o h cB;unfold Ix at h;split at h
 ·rename_i x0 x1
  cases h
  have cB:=mq cB
  have hh:=aje x0 x1 cB
  obtain⟨e0,en⟩:=hh
  exact rg rfl (lJ en) (by simp only [e0] <;> rfl) rfl rfl
 ·cases h)
theorem anK(s:ByteArray)(l:List ByteArray)(h:leN l.length 9223372036854775807=true):ij s l=mw l s∧kk s l=true:=by
 obtain⟨e1,e2⟩:=aje s l h
 simp only [ij,kk,e1,e2,Sa,allT,and_self,cond_true]
def FA:List SV→List Entry→Option Out
 | [.one ⟨false,[.ref 0]⟩,.one ⟨false,[.val (.string x0)]⟩],[.row false 9 (.str) x1]=>some ⟨.one ⟨false,[.val (.bool (mw x1 x0))]⟩,[.row false 9 aih x1],[],[leN x1.length 9223372036854775807]⟩
 |_,_=>none
def aF:PF prog:=PF.alt cS FA (by
 intro args es o h cB;unfold FA at h;split at h
 ·rename_i x0 x1
  cases h
  have cB:=mq cB
  have hh:=anK x0 x1 cB
  obtain⟨e0,en⟩:=hh
  exact rg rfl (lJ en) (by simp only [e0] <;> rfl) rfl rfl
 ·cases h)
theorem arf(a b c:List ByteArray)(h:leN (a.length + b.length + c.length) 2000000=true):ady a b c=a++b++c∧Wb a b c=true:=by
 have h:=fX.1 h
 refine⟨rfl,?_⟩
 simp [Wb,Qe,allT]
 omega
def ade:List SV→List Entry→Option Out
 | [.one ⟨true,[.val (.string _x0),.ref 0,.ref 1,.ref 2,.val (.string _x1),.ref 3]⟩],[.row false 9 (.str) x2,.row false 9 (.str) x3,.row false 9 (.str) x4,.row false 204 (.pair (.str) (.sl 178 (.pair (.int .i64) (.pair (.str) (.int .i64))))) x5]=>some ⟨.one ⟨false,[.ref 4]⟩,[.row false 9 aih x2,.row false 9 aih x3,.row false 9 aih x4,.row false 204 (CTy.pair CTy.str (CTy.sl (178:TypeId) acD)) x5],[.row true 9 aih (x2++x3++x4)],[leN (x2.length + x3.length + x4.length) 2000000]⟩
 |_,_=>none
def rV:PF prog:=PF.alt akr ade (by
 intro args es o h cB;unfold ade at h;split at h
 ·rename_i _x0 _x1 x2 x3 x4 x5
  cases h
  have cB:=mq cB
  have hh:=arf x2 x3 x4 cB
  obtain⟨e0,en⟩:=hh
  exact rg rfl (lJ en) rfl rfl (by simp only [e0] <;> rfl)
 ·cases h)
theorem OR(s:ByteArray)(h:s.size≤9223372036854775807):mH s=mM s∧tY s=true:=by
 obtain⟨e1,e2⟩:=ajQ s
 have hl:leN s.size 9223372036854775807=true:=dv h
 refine⟨?_,?_⟩
 ·simp only [mH,e1,mM];cases SR s <;> rfl
 ·simp only [tY,e2,hl,allT,Bool.or_true,cond_true]
theorem Vh(s:ByteArray):lS s=mM s:=by simp only [lS,mM];cases SR s <;> rfl
def QE(l:List ByteArray):Bool:=leN l.length 9223372036854775807&&l.all fun s=>leN s.size 9223372036854775807
def uh(b:ByteArray):(Unit)→Nat ⊕ (Unit)
 |_=>(bif(!mH b)then(.inl 0)else(.inr ()))
def tu(y1:List ByteArray)(i:Nat):(Unit)→mR
 |_=>((i:Int),y1)
def Mq:mR→Unit
 |(_,_)=>()
theorem afl(y1:List ByteArray) (hn:y1.length≤9223372036854775807) (hA: ∀ x∈y1,x.size≤9223372036854775807):
  fc.fin ((0:Int),y1)=true∧fc.res ((0:Int),y1)=((af (uh) 1 y1 0 ()).1,(tu y1) (af (uh) 1 y1 0 ()).2.1 (af (uh) 1 y1 0 ()).2.2):=by
 have jb:=fc.along (tu y1) Mq (uh) 1 (fun _ _=>True) y1 () (by trivial) (by simp only [fc,tu];omega) (fun i b a hb hI=> ?_) (fun a hI=> ?_)
 ·exact jb
 ·obtain⟨⟩:=a
  have eB:=(List.getElem?_eq_some_iff.1 hb).1
  have il: ∀ d,Option.getD y1[i]? d=b:=fun d=>by rw [hb];rfl
  have hw:=tZ eB hn
  have bM:ltI (i:Int) (y1.length:Int)=true:=dO (by omega)
  have vC:leI (0:Int) (i:Int)=true:=bw (by omega)
  have gI:ltN i y1.length=true:=fQ eB
  refine⟨?_,?_,?_,?_⟩
  ·have hg2:qi (i:Int) y1=b:=by simp only [qi,Int.toNat_natCast];exact il _
   have h6:=(OR b (hA b (List.mem_of_getElem? hb))).2
   simp [yc,Ii,Ij,Ik,Dn,Il,Bt,fc,LT.nds,allT,tu,bM,vC,gI,hg2,h6]
  ·simp [qi,yc,Ii,Ij,Ik,Dn,Il,Bt,fc,LT.each,tu,Mq,hw]
  ·have hg2:qi (i:Int) y1=b:=by simp only [qi,Int.toNat_natCast];exact il _
   simp only [yc,Dn,Bt,fc,LT.fn,tu,Mq,uh,Int.toNat_natCast,bM,hg2,cond_true]
  ·exact fun _ _=>trivial
 ·obtain⟨⟩:=a
  simp [qi,yc,Ii,Ij,Ik,Dn,Il,Bt,fc,LT.out,tu]
theorem alP(lo:Int)(l:List ByteArray)(h:QE l=true):Su lo l=(l.all mM&&inR (l.length:Int) lo 20)∧Sv l=true:=by
 simp only [QE,Bool.and_eq_true,fX,List.all_eq_true]at h
 obtain⟨w1,w2⟩:=afl l h.1 h.2
 have e0:(af uh 1 l 0 ())=(af (fun(k:ByteArray) (_:Unit)=>bif !mM k then(.inl 0:Nat ⊕ Unit)else .inr ()) 1 l 0 ()):=by
  refine Vv fun b hb a=> ?_
  simp only [uh,(OR b (h.2 b hb)).1]
 rw [e0,iH (P:=fun k=> !mM k) (j:=0) (fun k=>rfl)]at w2
 have e5:(l.any fun k=> !mM k)= !l.all mM:=by simp [List.all_eq_not_any_not]
 rw [e5]at w2
 simp only [Su,Sv,w1,w2,allT,bx,VP]
 cases l.all mM <;> simp [Nat.beq]
def dL(b:ByteArray):(Unit)→Nat ⊕ (Unit)
 |_=>(bif(zR b)then(.inl 0)else(.inr ()))
def cd(y2:List ByteArray)(i:Nat):(Unit)→bm
 |_=>((i:Int),(↑y2.length:Int),y2)
def pz:bm→Unit
 |(_,_,_)=>()
theorem IK(y2:List ByteArray) (hn:y2.length≤9223372036854775807):
  ag.fin ((0:Int),(↑y2.length:Int),y2)=true∧ag.res ((0:Int),(↑y2.length:Int),y2)=((af (dL) 1 y2 0 ()).1,(cd y2) (af (dL) 1 y2 0 ()).2.1 (af (dL) 1 y2 0 ()).2.2):=by
 have jb:=ag.along (cd y2) pz (dL) 1 (fun _ _=>True) y2 () (by trivial) (by simp only [ag,cd];omega) (fun i b a hb hI=> ?_) (fun a hI=> ?_)
 ·exact jb
 ·obtain⟨⟩:=a
  have eB:=(List.getElem?_eq_some_iff.1 hb).1
  have il: ∀ d,Option.getD y2[i]? d=b:=fun d=>by rw [hb];rfl
  have hw:=tZ eB hn
  have bM:ltI (i:Int) (y2.length:Int)=true:=dO (by omega)
  have vC:leI (0:Int) (i:Int)=true:=bw (by omega)
  have gI:ltN i y2.length=true:=fQ eB
  refine⟨?_,?_,?_,?_⟩
  ·simp [gR,gS,gT,gU,gV,gW,gD,ag,LT.nds,allT,cd,bM,vC,gI,il]
  ·simp [gR,gS,gT,gU,gV,gW,gD,ag,LT.each,cd,pz,hw]
  ·simp only [gR,gS,gT,gU,gV,gW,gD,ag,LT.fn,cd,pz,dL,Int.toNat_natCast,bM,vC,gI,il,cond_true,Bool.cond_self]
  ·exact fun _ _=>trivial
 ·obtain⟨⟩:=a
  simp [gR,gS,gT,gU,gV,gW,gD,ag,LT.out,cd]
theorem al5(l:List ByteArray)(h:leN l.length 9223372036854775807=true):Sb l=l.all mM∧Sc l=true:=by
 obtain⟨w1,w2⟩:=IK l (fX.1 h)
 rw [iH (P:=fun k=> !mM k) (j:=0) (fun k=>by simp only [dL,zR,Vh])]at w2
 have e5:(l.any fun k=> !mM k)= !l.all mM:=by simp [List.all_eq_not_any_not]
 rw [e5]at w2
 have q: ∀ m:Nat,leI 0 (m:Int)=true:=fun m=>bw (by omega)
 have q2:leI 0 (-1)=false:=rfl
 simp only [Sb,Sc,pQ,pR,rD,rE,me,w1,w2,allT,cd]
 cases (l.all mM) <;> simp [Nat.beq,q,q2]
def YO:List SV→List Entry→Option Out
 | [.one ⟨false,[.ref 0]⟩,.one ⟨false,[.val (.int .i64 x0)]⟩],[.row false 9 (.str) x1]=>some ⟨.one ⟨false,[.val (.bool (x1.all mM&&inR (x1.length:Int) x0 20))]⟩,[.row false 9 aih x1],[],[QE x1]⟩
 |_,_=>none
def DV:PF prog:=PF.alt aiv YO (by
 intro args es o h cB;unfold YO at h;split at h
 ·rename_i x0 x1
  cases h
  have cB:=mq cB
  have hh:=alP x0 x1 cB
  obtain⟨e0,en⟩:=hh
  exact rg rfl (lJ en) (by simp only [e0] <;> rfl) rfl rfl
 ·cases h)
def YH:List SV→List Entry→Option Out
 | [.one ⟨false,[.ref 0]⟩],[.row false 9 (.str) x0]=>some ⟨.one ⟨false,[.val (.bool (x0.all mM))]⟩,[.row false 9 aih x0],[],[leN x0.length 9223372036854775807]⟩
 |_,_=>none
def Sm:PF prog:=PF.alt ain YH (by
 intro args es o h cB;unfold YH at h;split at h
 ·rename_i x0
  cases h
  have cB:=mq cB
  have hh:=al5 x0 cB
  obtain⟨e0,en⟩:=hh
  exact rg rfl (lJ en) (by simp only [e0] <;> rfl) rfl rfl
 ·cases h)
theorem aka(l:List ByteArray):(List.range l.length).any (fun b=>mw (List.take b l) (Option.getD l[b]? ByteArray.empty))=rU l:=rfl
def xO(y1:List ByteArray)(b:Nat):(Unit)→Nat ⊕ (Unit)
 |_=>(bif(leI (0:Int) (IH (Option.getD y1[b]? ByteArray.empty) (List.drop (Int.toNat (0:Int)) (List.take b y1))))then(.inl 0)else(.inr ()))
def tv(y1:List ByteArray)(i:Nat):(Unit)→mV
 |_=>((i:Int),y1)
def Mu:mV→Unit
 |(_,_)=>()
theorem afo(y1:List ByteArray) (hn:y1.length≤9223372036854775807):
  fe.fin ((0:Int),y1)=true∧fe.res ((0:Int),y1)=((af (xO y1) 1 (List.range y1.length) 0 ()).1,(tv y1) (af (xO y1) 1 (List.range y1.length) 0 ()).2.1 (af (xO y1) 1 (List.range y1.length) 0 ()).2.2):=by
 have jb:=fe.along (tv y1) Mu (xO y1) 1 (fun _ _=>True) (List.range y1.length) () (by trivial) (by simp only [fe,tv,List.length_range];omega) (fun i b a hb hI=> ?_) (fun a hI=> ?_)
 ·exact jb
 ·obtain⟨⟩:=a
  obtain⟨rfl,eB⟩:=np hb
  have hw:IntKind.i64.wrap ((b:Int) + 1)=((b + 1:Nat):Int):=by rw [aR (by omega) (by omega)];omega
  have bM:ltI (b:Int) (y1.length:Int)=true:=dO (by omega)
  have vC:leI (0:Int) (b:Int)=true:=bw (by omega)
  have gI:ltN b y1.length=true:=fQ (by omega)
  refine⟨?_,?_,?_,?_⟩
  ·have oI:(List.take b y1).length≤9223372036854775807:=by rw [List.length_take];omega
   have e:tp (b:Int) y1=List.take b y1:=by simp [tp]
   have h5:ym (b:Int) y1=true:=by simp only [ym,e];exact(aeK _ _ (dv oI)).2
   have h3:DD (b:Int) y1=true:=bw (by omega)
   have h1:DC=true:=rfl
   simp only [Bx,fe,LT.nds,allT,tv,yj,yk,DE,h1,h3,h5,bM,vC,gI,Int.toNat_natCast,cond_true,Bool.and_self,List.all_nil,List.all_cons]
   cases DF (b:Int) y1 <;> simp [LT.nds]
  ·simp [BG,tp,yj,DC,yk,DD,DE,ym,DF,Io,Bx,fe,LT.each,tv,Mu,hw]
  ·simp only [BG,tp,yj,DC,yk,DD,DE,ym,DF,Io,Bx,fe,LT.fn,tv,Mu,xO,Int.toNat_natCast,bM,cond_true]
  ·exact fun _ _=>trivial
 ·obtain⟨⟩:=a
  simp [BG,tp,yj,DC,yk,DD,DE,ym,DF,Io,Bx,fe,LT.out,tv,List.length_range]
theorem alR(l:List ByteArray)(h:leN l.length 9223372036854775807=true):Sx l=rU l∧Sy l=true:=by
 have hn:=fX.1 h
 obtain⟨w1,w2⟩:=afo l hn
 have hi: ∀ b:Nat,(List.take b l).length≤9223372036854775807:=fun b=>by rw [List.length_take];omega
 rw [iH (P:=fun b=>mw (List.take b l) (Option.getD l[b]? ByteArray.empty)) (j:=0) (fun b=>by
  simp only [xO,Int.toNat_zero,List.drop_zero,(aeK _ _ (dv (hi b))).1,Sa]),aka]at w2
 simp only [Sx,Sy,w1,w2,allT]
 cases rU l <;> simp [Nat.beq]
theorem Lm{A B:Type}{f:B→A→Nat ⊕ A}{g:A→B→A}{e:Nat}(hf: ∀ b a,f b a= .inr (g a b)): ∀ (l:List B) (i:Nat) (a:A),af f e l i a=(e,i + l.length,l.foldl g a)
 | [],i,a=>rfl
 |b::r,i,a=>by
  simp only [af,hf,List.foldl_cons]
  rw [Lm hf r]
  simp [Nat.add_assoc,Nat.add_comm 1]
def xN(y2:List ByteArray)(b:Nat):(Unit)→Nat ⊕ (Unit)
 |_=>(bif(ij (Option.getD y2[b]? ByteArray.empty) (List.drop (Int.toNat (0:Int)) (List.take b y2)))then(.inl 0)else(.inr ()))
def tq(y2:List ByteArray)(i:Nat):(Unit)→mN
 |_=>((i:Int),(↑y2.length:Int),y2)
def Mm:mN→Unit
 |(_,_,_)=>()
theorem afh(y2:List ByteArray) (hn:y2.length≤9223372036854775807):
  fa.fin ((0:Int),(↑y2.length:Int),y2)=true∧fa.res ((0:Int),(↑y2.length:Int),y2)=((af (xN y2) 1 (List.range y2.length) 0 ()).1,(tq y2) (af (xN y2) 1 (List.range y2.length) 0 ()).2.1 (af (xN y2) 1 (List.range y2.length) 0 ()).2.2):=by
 have jb:=fa.along (tq y2) Mm (xN y2) 1 (fun _ _=>True) (List.range y2.length) () (by trivial) (by simp only [fa,tq,List.length_range];omega) (fun i b a hb hI=> ?_) (fun a hI=> ?_)
 ·exact jb
 ·obtain⟨⟩:=a
  obtain⟨rfl,eB⟩:=np hb
  have hw:IntKind.i64.wrap ((b:Int) + 1)=((b + 1:Nat):Int):=by rw [aR (by omega) (by omega)];omega
  have bM:ltI (b:Int) (y2.length:Int)=true:=dO (by omega)
  have vC:leI (0:Int) (b:Int)=true:=bw (by omega)
  have gI:ltN b y2.length=true:=fQ (by omega)
  refine⟨?_,?_,?_,?_⟩
  ·have oI:(List.take b y2).length≤9223372036854775807:=by rw [List.length_take];omega
   have e:te (b:Int) y2=List.take b y2:=by simp [te]
   have h5:xR (b:Int) y2=true:=by simp only [xR,e];exact(anK _ _ (dv oI)).2
   have h3:Cj (b:Int) y2=true:=bw (by omega)
   have h1:Ci=true:=rfl
   simp only [Bp,fa,LT.nds,allT,tq,Cf,xQ,Cg,Ch,h1,h3,h5,bM,vC,gI,Int.toNat_natCast,cond_true,Bool.and_self,List.all_nil,List.all_cons]
   cases Ck (b:Int) y2 <;> simp [LT.nds]
  ·simp [Au,te,Cf,xQ,Cg,Ch,Ci,Cj,xR,Ck,HM,Bp,fa,LT.each,tq,Mm,hw]
  ·simp only [Au,te,Cf,xQ,Cg,Ch,Ci,Cj,xR,Ck,HM,Bp,fa,LT.fn,tq,Mm,xN,Int.toNat_natCast,bM,cond_true]
  ·exact fun _ _=>trivial
 ·obtain⟨⟩:=a
  simp [Au,te,Cf,xQ,Cg,Ch,Ci,Cj,xR,Ck,HM,Bp,fa,LT.out,tq,List.length_range]
theorem alA(l:List ByteArray)(h:leN l.length 9223372036854775807=true):Sd l=rU l∧Se l=true:=by
 have hn:=fX.1 h
 obtain⟨w1,w2⟩:=afh l hn
 have hi: ∀ b:Nat,(List.take b l).length≤9223372036854775807:=fun b=>by rw [List.length_take];omega
 rw [iH (P:=fun b=>mw (List.take b l) (Option.getD l[b]? ByteArray.empty)) (j:=0) (fun b=>by
  simp only [xN,Int.toNat_zero,List.drop_zero,(anK _ _ (dv (hi b))).1]),aka]at w2
 simp only [Sd,Se,QJ,w1,w2,allT]
 cases rU l <;> simp [Nat.beq]
def YQ:List SV→List Entry→Option Out
 | [.one ⟨false,[.ref 0]⟩],[.row false 9 (.str) x0]=>some ⟨.one ⟨false,[.val (.bool (rU x0))]⟩,[.row false 9 aih x0],[],[leN x0.length 9223372036854775807]⟩
 |_,_=>none
def od:PF prog:=PF.alt aiw YQ (by
 intro args es o h cB;unfold YQ at h;split at h
 ·rename_i x0
  cases h
  have cB:=mq cB
  have hh:=alR x0 cB
  obtain⟨e0,en⟩:=hh
  exact rg rfl (lJ en) (by simp only [e0] <;> rfl) rfl rfl
 ·cases h)
def YI:List SV→List Entry→Option Out
 | [.one ⟨false,[.ref 0]⟩],[.row false 9 (.str) x0]=>some ⟨.one ⟨false,[.val (.bool (rU x0))]⟩,[.row false 9 aih x0],[],[leN x0.length 9223372036854775807]⟩
 |_,_=>none
def DR:PF prog:=PF.alt aio YI (by
 intro args es o h cB;unfold YI at h;split at h
 ·rename_i x0
  cases h
  have cB:=mq cB
  have hh:=alA x0 cB
  obtain⟨e0,en⟩:=hh
  exact rg rfl (lJ en) (by simp only [e0] <;> rfl) rfl rfl
 ·cases h)
theorem aov(k:Int):sa k=takesK k:=rfl
theorem aoR(n k:Int)(h0:0≤n)(h1:n≤9223372036854775000):IntKind.i64.wrap (IntKind.i64.wrap (n - takesK k) + 1)=n - takesK k + 1∧IntKind.i64.wrap (n + IntKind.i64.wrap (1 - takesK k))=n - takesK k + 1:=by
 have:=Rv k
 refine⟨?_,?_⟩
 ·rw [aR (x:=n - takesK k) (by omega) (by omega),aR (by omega) (by omega)]
 ·rw [aR (x:=1 - takesK k) (by omega) (by omega),aR (by omega) (by omega)];omega
theorem Vi(a b:Int):ltI a b= !leI b a:=by
 cases h:leI b a with
 |true=>have:=EV.1 h;exact QB (by omega)
 |false=>rw [aqD]at h;exact dO (by omega)
def SQ(ts:List TM):Bool:=leN ts.length 1048576&&ts.all fun t=>leN t.2.1.size 9223372036854775807
def YT(ls:List LN):Bool:=leN ls.length 1048576&&ls.all fun l=>leN l.1.size 9223372036854775807&&SQ l.2
theorem OS{ts:List TM}:SQ ts=true↔ts.length≤1048576∧ ∀ t∈ts,t.2.1.size≤9223372036854775807:=by
 simp only [SQ,Bool.and_eq_true,fX,List.all_eq_true]
theorem OM{ls:List LN}:YT ls=true↔ls.length≤1048576∧ ∀ l∈ls,l.1.size≤9223372036854775807∧SQ l.2=true:=by
 simp only [YT,Bool.and_eq_true,fX,List.all_eq_true]
def pX(b:Int×(ByteArray×Int)):(Int×Int)→Nat ⊕ (Int×Int)
 |(y2,y3)=>(bif(bif !MO b.1 (b.2.1) b.2.2then true else ltI y2 (sa b.1))then(.inl 0)else(.inr ((IntKind.wrap .i64 (y2 + IntKind.wrap .i64 ((1:Int) - sa b.1))),(agS y3 (IntKind.wrap .i64 (y2 + IntKind.wrap .i64 ((1:Int) - sa b.1))) (IntKind.wrap .i64 (y2 + IntKind.wrap .i64 ((1:Int) - sa b.1))) y3))))
def tI(y4:List (Int×(ByteArray×Int)))(i:Nat):(Int×Int)→pU
 |(y2,y3)=>((i:Int),(↑y4.length:Int),y2,y3,y4)
def PP:pU→Int×Int
 |(_,_,y2,y3,_)=>(y2,y3)
theorem ahx(y4:List (Int×(ByteArray×Int)))(y2 y3:Int)(hn:y4.length≤9223372036854775807):
  gy.fin ((0:Int),(↑y4.length:Int),y2,y3,y4)=true∧gy.res ((0:Int),(↑y4.length:Int),y2,y3,y4)=((af (pX) 1 y4 0 (y2,y3)).1,(tI y4) (af (pX) 1 y4 0 (y2,y3)).2.1 (af (pX) 1 y4 0 (y2,y3)).2.2):=by
 have jb:=gy.along (tI y4) PP (pX) 1 (fun _ _=>True) y4 (y2,y3) (by trivial) (by simp only [gy,tI];omega) (fun i b a hb hI=> ?_) (fun a hI=> ?_)
 ·exact jb
 ·obtain⟨y2,y3⟩:=a
  have eB:=(List.getElem?_eq_some_iff.1 hb).1
  have il: ∀ d,Option.getD y4[i]? d=b:=fun d=>by rw [hb];rfl
  have hw:=tZ eB hn
  have bM:ltI (i:Int) (y4.length:Int)=true:=dO (by omega)
  have vC:leI (0:Int) (i:Int)=true:=bw (by omega)
  have gI:ltN i y4.length=true:=fQ eB
  refine⟨?_,?_,?_,?_⟩
  ·simp [qz,vR,Gs,Gt,Gu,Gv,Gw,Gx,Gy,Gz,EX,gy,LT.nds,allT,tI,bM,vC,gI,il]
  ·simp [qz,vR,Gs,Gt,Gu,Gv,Gw,Gx,Gy,Gz,EX,gy,LT.each,tI,PP,hw]
  ·simp only [qz,vR,Gs,Gt,Gu,Gv,Gw,Gx,Gy,Gz,EX,gy,LT.fn,tI,PP,pX,Int.toNat_natCast,bM,vC,gI,il,cond_true,Bool.cond_self]
  ·exact fun _ _=>trivial
 ·obtain⟨y2,y3⟩:=a
  simp [qz,vR,Gs,Gt,Gu,Gv,Gw,Gx,Gy,Gz,EX,gy,LT.out,tI]
theorem aid: ∀ (ts:List TM) (i:Nat) (n m:Int),0≤n→n + ts.length≤9223372036854775000→
  match htT ts n with
  |some k=>(af pX 1 ts i (n,m)).1=1∧(af pX 1 ts i (n,m)).2.2.1=k
  |none=>(af pX 1 ts i (n,m)).1=0
 | [],i,n,m,_,_=>⟨rfl,rfl⟩
 |t::r,i,n,m,h0,h1=>by
  rw [List.length_cons]at h1
  have hw:=(aoR n t.1 h0 (by omega)).2
  have ht:=Rv t.1
  have hf:pX t (n,m)=(bif termB t.1 t.2.1 t.2.2&&leI (takesK t.1) n then .inr (n - takesK t.1 + 1,agS m (n - takesK t.1 + 1) (n - takesK t.1 + 1) m)else .inl 0):=by
   simp only [pX,amx,aov,hw,Vi]
   cases termB t.1 t.2.1 t.2.2 <;> cases leI (takesK t.1) n <;> rfl
  simp only [af,hf,htT]
  cases hc:termB t.1 t.2.1 t.2.2&&leI (takesK t.1) n with
  |false=>rfl
  |true=>
   simp only [Bool.and_eq_true,EV]at hc
   simp only [cond_true]
   exact aid r (i + 1) _ _ (by omega) (by omega)
theorem amv(ts:List TM)(h:SQ ts=true):FJ ts=afO ts∧FK ts=true:=by
 obtain⟨hn,_⟩:=OS.1 h
 obtain⟨w1,w2⟩:=ahx ts 0 0 (by omega)
 have hh:=aid ts 0 0 0 (by omega) (by omega)
 have MK:leI (ts.length:Int) 40=leN ts.length 40:=by
  rw [Bool.eq_iff_iff,EV,fX];omega
 simp only [FJ,FK,VH,VI,Pv,TJ,TK,w1,w2,allT,afO,MK,cond_true,tI]
 cases hq:htT ts 0 with
 |none=>
  rw [hq]at hh
  simp only at hh
  rw [hh];simp [Nat.beq]
 |some k=>
  rw [hq]at hh
  simp only at hh
  rw [hh.1,hh.2]
  dsimp only
  generalize (k==1)=q
  cases q <;> cases leN ts.length 40 <;> simp [Nat.beq]
def je(b:Int×(ByteArray×Int)):(Int×List Int)→Nat ⊕ (Int×List Int)
 |(y1,y3)=>(bif(bif(!Lj b.1 (b.2.1) b.2.2)then true else ltI y1 (mu b.1))then(.inl 0)else(.inr ((IntKind.wrap .i64 (IntKind.wrap .i64 (y1 - mu b.1) + (1:Int))),(y3++ [IntKind.wrap .i64 (IntKind.wrap .i64 (y1 - mu b.1) + (1:Int))]))))
def nX(y2:List (Int×(ByteArray×Int)))(i:Nat):(Int×List Int)→ku
 |(y1,y3)=>((i:Int),y1,y2,y3)
def Jn:ku→Int×List Int
 |(_,y1,_,y3)=>(y1,y3)
theorem abJ(y2:List (Int×(ByteArray×Int)))(y1:Int)(y3:List Int)(hn:y2.length≤9223372036854775807)(hT:y2.length≤1048576)(hA: ∀ x∈y2,x.2.1.size≤9223372036854775807)(h3:y3.length=0):
  di.fin ((0:Int),y1,y2,y3)=true∧di.res ((0:Int),y1,y2,y3)=((af (je) 1 y2 0 (y1,y3)).1,(nX y2) (af (je) 1 y2 0 (y1,y3)).2.1 (af (je) 1 y2 0 (y1,y3)).2.2):=by
 have jb:=di.along (nX y2) Jn (je) 1 (fun i a=>a.2.length=i) y2 (y1,y3) h3 (by simp only [di,nX];omega) (fun i b a hb hI=> ?_) (fun a hI=> ?_)
 ·exact jb
 ·obtain⟨y1,y3⟩:=a
  have eB:=(List.getElem?_eq_some_iff.1 hb).1
  have il: ∀ d,Option.getD y2[i]? d=b:=fun d=>by rw [hb];rfl
  have hw:=tZ eB hn
  have bM:ltI (i:Int) (y2.length:Int)=true:=dO (by omega)
  have vC:leI (0:Int) (i:Int)=true:=bw (by omega)
  have gI:ltN i y2.length=true:=fQ eB
  refine⟨?_,?_,?_,?_⟩
  ·have hg2:dE (i:Int) y2=b:=by simp only [dE,Int.toNat_natCast];exact il _
   have h6:Lk b.1 b.2.1 b.2.2=true:=(ah3 b.1 b.2.1 b.2.2 (dv (hA b (List.mem_of_getElem? hb)))).2
   simp only at hI
   have h8:leN (y3.length + 1) 9223372036854775807=true:=dv (by omega)
   have h9:leN ((y3.length + 1) * 8) 140737488355328=true:=dv (by omega)
   simp [rK,vn,vo,zw,zx,zy,zA,zB,zC,zD,xE,xF,xG,xA,di,LT.nds,allT,nX,bM,vC,gI,hg2,h6,h8,h9]
  ·simp [dE,qw,qx,rK,vn,vo,zw,zx,zy,zA,zB,zC,zD,xE,xF,xG,xA,di,LT.each,nX,Jn,hw]
  ·have hg2:dE (i:Int) y2=b:=by simp only [dE,Int.toNat_natCast];exact il _
   simp only [rK,vn,vo,zw,zx,zy,zA,zB,zC,zD,xE,xF,xG,xA,di,qw,qx,LT.fn,nX,Jn,je,Int.toNat_natCast,bM,hg2,cond_true]
  ·intro a' hf
   simp only at hI
   simp only [je]at hf
   revert hf
   generalize (bif _ then true else _)=c
   cases c with
   |true=>intro hf;cases hf
   |false=>intro hf;simp only [cond_false,Sum.inr.injEq]at hf;subst hf;simp [hI]
 ·obtain⟨y1,y3⟩:=a
  simp [dE,qw,qx,rK,vn,vo,zw,zx,zy,zA,zB,zC,zD,xE,xF,xG,xA,di,LT.out,nX]
theorem agz: ∀ (ts:List TM) (i:Nat) (n:Int) (L:List Int),(∀ x∈ts,x.2.1.size≤9223372036854775807)→0≤n→n + ts.length≤9223372036854775000→
  match htT ts n with
  |some k=>(af je 1 ts i (n,L)).1=1∧(af je 1 ts i (n,L)).2.2.1=k
  |none=>(af je 1 ts i (n,L)).1=0
 | [],i,n,m,_,_,_=>⟨rfl,rfl⟩
 |t::r,i,n,m,hs,h0,h1=>by
  rw [List.length_cons]at h1
  have hw:=(aoR n t.1 h0 (by omega)).1
  have ht:=Rv t.1
  have hf:je t (n,m)=(bif termB t.1 t.2.1 t.2.2&&leI (takesK t.1) n then .inr (n - takesK t.1 + 1,m++ [n - takesK t.1 + 1])else .inl 0):=by
   simp only [je,(ah3 t.1 t.2.1 t.2.2 (dv (hs t (by simp)))).1,show mu t.1=takesK t.1 from rfl,hw,Vi]
   cases termB t.1 t.2.1 t.2.2 <;> cases leI (takesK t.1) n <;> rfl
  simp only [af,hf,htT]
  cases hc:termB t.1 t.2.1 t.2.2&&leI (takesK t.1) n with
  |false=>rfl
  |true=>
   simp only [Bool.and_eq_true,EV]at hc
   simp only [cond_true]
   exact agz r (i + 1) _ _ (fun x hx=>hs x (by simp [hx])) (by omega) (by omega)
theorem am4(ts:List TM)(h:SQ ts=true):MF ts=afO ts∧MG ts=true:=by
 obtain⟨hn,hs⟩:=OS.1 h
 obtain⟨w1,w2⟩:=abJ ts 0 [] (by omega) hn hs rfl
 have hh:=agz ts 0 0 [] hs (by omega) (by omega)
 have MK:leI (ts.length:Int) 40=leN ts.length 40:=by
  rw [Bool.eq_iff_iff,EV,fX];omega
 simp only [MF,MG,Qc,Qd,Ih,Om,On,w1,w2,allT,afO,MK,cond_true,nX]
 cases hq:htT ts 0 with
 |none=>
  rw [hq]at hh
  simp only at hh
  rw [hh];simp [Nat.beq]
 |some k=>
  rw [hq]at hh
  simp only at hh
  rw [hh.1,hh.2]
  dsimp only
  generalize (k==1)=q
  cases q <;> cases leN ts.length 40 <;> simp [Nat.beq]
theorem apd(s:ByteArray)(ts:List TM)(h:SQ ts=true):VJ s ts=lineB (s,ts)∧VK s ts=true:=by
 obtain⟨e1,e2⟩:=amv ts h
 simp only [VJ,VK,e1,e2,Vh,lineB,allT,Bool.or_true,cond_true]
 cases mM s <;> simp
def SG:List SV→List Entry→Option Out
 | [.one ⟨false,[.ref 0]⟩],[.row false 178 (.pair (.int .i64) (.pair (.str) (.int .i64))) x0]=>some ⟨.one ⟨false,[.val (.bool (afO x0))]⟩,[.row false 178 acD x0],[],[SQ x0]⟩
 |_,_=>none
def wN:PF prog:=PF.alt acJ SG (by
 intro args es o h cB;unfold SG at h;split at h
 ·rename_i x0
  cases h
  have cB:=mq cB
  have hh:=am4 x0 cB
  obtain⟨e0,en⟩:=hh
  exact rg rfl (lJ en) (by simp only [e0] <;> rfl) rfl rfl
 ·cases h)
def ada:List SV→List Entry→Option Out
 | [.one ⟨true,[.val (.string x0),.ref 0]⟩],[.row false 178 (.pair (.int .i64) (.pair (.str) (.int .i64))) x1]=>some ⟨.one ⟨false,[.val (.bool (lineB (x0,x1)))]⟩,[.row false 178 acD x1],[],[SQ x1]⟩
 |_,_=>none
def IR:PF prog:=PF.alt ako ada (by
 intro args es o h cB;unfold ada at h;split at h
 ·rename_i x0 x1
  cases h
  have cB:=mq cB
  have hh:=apd x0 x1 cB
  obtain⟨e0,en⟩:=hh
  exact rg rfl (lJ en) (by simp only [e0] <;> rfl) rfl rfl
 ·cases h)
theorem Lp.along2{X A B:Type}(p:Lp X)(st:Nat→A→X)(pr:X→A)(f:B→A→Nat ⊕ A)(e:Nat)(Inv:Nat→A→Prop)(xs:List B)(a:A)
  (h0:Inv 0 a) (hf:xs.length≤100000000000)
  (hs: ∀ i b a,xs[i]? =some b→Inv i a→(p.lt (st i a)).nds=true∧(p.lt (st i a)).each (fun y=>y=st (i + 1) (pr y))∧(p.lt (st i a)).fn pr=f b a∧ ∀ a',f b a= .inr a'→Inv (i + 1) a')
  (he: ∀ a,Inv xs.length a→(p.lt (st xs.length a)).out=some (.inl e)):
  p.fin (st 0 a)=true∧p.res (st 0 a)=((af f e xs 0 a).1,st (af f e xs 0 a).2.1 (af f e xs 0 a).2.2):=by
 have hs': ∀ i b a,xs[i]? =some b→Inv i a→(p.lt (st i a)).out=some (match f b a with | .inl j=> .inl j | .inr a'=> .inr (st (i + 1) a'))∧ ∀ a',f b a= .inr a'→Inv (i + 1) a':=by
  intro i b a hb hI
  obtain⟨h1,h2,h3,h4⟩:=hs i b a hb hI
  refine⟨?_,h4⟩
  rw [LT.out_of h1 h2,h3]
  cases f b a <;> rfl
 refine p.run (ahq st f e Inv xs hs' he xs 0 a rfl (by omega) h0) ?_
 rw [apB]
 have:1000 ^ 4≤(p.fuel (st 0 a) + 1000) ^ 4:=Nat.pow_le_pow_left (by omega) 4
 omega
def aiY(a:List TM)(b:TM):List TM:=bif leI 7 b.1 then a++ [b]else a
theorem ajb: ∀ (ts acc:List TM),ts.foldl aiY acc=acc++blT ts
 | [],acc=>by simp [blT]
 |t::r,acc=>by
  rw [List.foldl_cons,ajb r]
  simp only [aiY,blT,List.filter_cons]
  cases leI 7 t.1 <;> simp
theorem akH: ∀ (ls:List LN) (acc:List TM),ls.foldl (fun a l=>a++blT l.2) acc=acc++blL ls
 | [],acc=>by simp [blL]
 |l::r,acc=>by
  rw [List.foldl_cons,akH r]
  simp [blL]
theorem alg(ts:List TM):(blT ts).length≤ts.length:=List.length_filter_le _ _
theorem al8(a:List TM)(b:TM):(aiY a b).length≤a.length + 1:=by
 simp only [aiY];cases leI 7 b.1 <;> simp
def bv(b:Int×(ByteArray×Int)):(List (Int×(ByteArray×Int)))→Nat ⊕ (List (Int×(ByteArray×Int)))
 |y3=>(bif(leI (7:Int) b.1)then(.inr (y3++([(b.1,b.2.1,b.2.2)])))else(.inr y3))
def bU(y2:List (Int×(ByteArray×Int)))(i:Nat):(List (Int×(ByteArray×Int)))→aQ
 |y3=>((i:Int),(↑y2.length:Int),y2,y3)
def mr:aQ→List (Int×(ByteArray×Int))
 |(_,_,_,y3)=>y3
theorem Fp(y2 y3:List (Int×(ByteArray×Int)))(hn:y2.length≤9223372036854775807)(hc:y3.length + y2.length≤4000000000000):
  ae.fin ((0:Int),(↑y2.length:Int),y2,y3)=true∧ae.res ((0:Int),(↑y2.length:Int),y2,y3)=((af (bv) 0 y2 0 y3).1,(bU y2) (af (bv) 0 y2 0 y3).2.1 (af (bv) 0 y2 0 y3).2.2):=by
 have jb:=ae.along (bU y2) mr (bv) 0 (fun i a=>a.length≤y3.length + i) y2 y3 (Nat.le_refl _) (by simp only [ae,bU];omega) (fun i b a hb hI=> ?_) (fun a hI=> ?_)
 ·exact jb
 ·obtain y3:=a
  have eB:=(List.getElem?_eq_some_iff.1 hb).1
  have il: ∀ d,Option.getD y2[i]? d=b:=fun d=>by rw [hb];rfl
  have hw:=tZ eB hn
  have bM:ltI (i:Int) (y2.length:Int)=true:=dO (by omega)
  have vC:leI (0:Int) (i:Int)=true:=bw (by omega)
  have gI:ltN i y2.length=true:=fQ eB
  refine⟨?_,?_,?_,?_⟩
  ·have hg2:aO (i:Int) y2=b:=by simp only [aO,Int.toNat_natCast];exact il _
   have h8: ∀ z:TM,leN (a.length + List.length [z]) 9223372036854775807=true:=fun z=>dv (by rw [List.length_singleton];omega)
   have h9: ∀ z:TM,leN ((a.length + List.length [z]) * 32) 140737488355328=true:=fun z=>dv (by rw [List.length_singleton];omega)
   simp only [ea,ec,ed,ee,ef,eg,ei,cV,ej,dK,ae,bO,bP,LT.nds,allT,bU,bM,vC,gI,hg2,h8,h9,Int.toNat_natCast,cond_true,Bool.or_true]
   cases leI 7 b.1 <;> simp [LT.nds]
  ·simp [aO,bO,bP,ea,ec,ed,ee,ef,eg,ei,cV,ej,dK,ae,LT.each,bU,mr,hw]
  ·have hg2:aO (i:Int) y2=b:=by simp only [aO,Int.toNat_natCast];exact il _
   simp only [ea,ec,ed,ee,ef,eg,ei,cV,ej,dK,ae,bO,bP,LT.fn,bU,mr,bv,Int.toNat_natCast,bM,hg2,cond_true]
  ·intro a' hf
   have hf2:bv b a= .inr (aiY a b):=by
    simp only [bv,aiY];cases leI 7 b.1 <;> rfl
   rw [hf2]at hf
   simp only [Sum.inr.injEq]at hf
   subst hf
   have:=al8 a b
   omega
 ·obtain y3:=a
  simp [aO,bO,bP,ea,ec,ed,ee,ef,eg,ei,cV,ej,dK,ae,LT.out,bU]
theorem aeh(ts acc:List TM)(hn:ts.length≤9223372036854775807)(hc:acc.length + ts.length≤4000000000000):
  ae.fin ((0:Int),(ts.length:Int),ts,acc)=true∧(ae.res ((0:Int),(ts.length:Int),ts,acc)).2.2.2.2=acc++blT ts:=by
 obtain⟨w1,w2⟩:=Fp ts acc hn hc
 rw [Lm (g:=aiY) (fun b a=>by simp only [bv,aiY];cases leI 7 b.1 <;> rfl)]at w2
 exact⟨w1,by rw [w2];exact ajb ts acc⟩
def bH(b:ByteArray×(List (Int×(ByteArray×Int)))):(List (Int×(ByteArray×Int)))→Nat ⊕ (List (Int×(ByteArray×Int)))
 |y3=>(.inr ((Lp.res ae ((0:Int),(↑(List.length b.2):Int),b.2,y3)).2.2.2.2))
def bC(y2:List (ByteArray×(List (Int×(ByteArray×Int)))))(i:Nat):(List (Int×(ByteArray×Int)))→aV
 |y3=>((i:Int),(↑y2.length:Int),y2,y3)
def nR:aV→List (Int×(ByteArray×Int))
 |(_,_,_,y3)=>y3
theorem Hh(y2:List (ByteArray×(List (Int×(ByteArray×Int)))))(y3:List (Int×(ByteArray×Int)))(hn:y2.length≤9223372036854775807)(hN:y2.length≤1048576)(hL: ∀ l∈y2,l.2.length≤1048576)(h3:y3.length=0):
  au.fin ((0:Int),(↑y2.length:Int),y2,y3)=true∧au.res ((0:Int),(↑y2.length:Int),y2,y3)=((af (bH) 0 y2 0 y3).1,(bC y2) (af (bH) 0 y2 0 y3).2.1 (af (bH) 0 y2 0 y3).2.2):=by
 have jb:=au.along (bC y2) nR (bH) 0 (fun i a=>a.length≤i * 1048576) y2 y3 (by omega) (by simp only [au,bC];omega) (fun i b a hb hI=> ?_) (fun a hI=> ?_)
 ·exact jb
 ·obtain y3:=a
  have eB:=(List.getElem?_eq_some_iff.1 hb).1
  have il: ∀ d,Option.getD y2[i]? d=b:=fun d=>by rw [hb];rfl
  have hw:=tZ eB hn
  have bM:ltI (i:Int) (y2.length:Int)=true:=dO (by omega)
  have vC:leI (0:Int) (i:Int)=true:=bw (by omega)
  have gI:ltN i y2.length=true:=fQ eB
  refine⟨?_,?_,?_,?_⟩
  ·have hg2:bB (i:Int) y2=b.2:=by simp only [bB,Int.toNat_natCast];exact congrArg Prod.snd (il _)
   have hbl:=hL b (List.mem_of_getElem? hb)
   have h4:fm (i:Int) y2 a=true:=by
    simp only [fm,dk,hg2]
    exact(aeh b.2 a (by omega) (by omega)).1
   simp only [au,eX,fl,jr,jt,ju,LT.nds,allT,bC,bM,vC,gI,h4,Int.toNat_natCast,cond_true,Bool.and_self]
  ·simp [bB,dk,fl,jr,jt,ju,fm,ov,jv,eX,au,LT.each,bC,nR,hw]
  ·have hg2:bB (i:Int) y2=b.2:=by simp only [bB,Int.toNat_natCast];exact congrArg Prod.snd (il _)
   simp only [au,eX,fl,jv,dk,LT.fn,bC,nR,bH,bM,hg2,cond_true]
  ·intro a' hf
   have hbl:=hL b (List.mem_of_getElem? hb)
   have h5:=alg b.2
   simp only [bH,Sum.inr.injEq,(aeh b.2 a (by omega) (by omega)).2]at hf
   subst hf
   rw [List.length_append]
   omega
 ·obtain y3:=a
  simp [bB,dk,fl,jr,jt,ju,fm,ov,jv,eX,au,LT.out,bC]
theorem aoD{f:LN→List TM→Nat ⊕ List TM}{e:Nat}: ∀ (ls:List LN) (i:Nat) (acc:List TM) (c:Nat),(∀ l∈ls,∀ a:List TM,a.length≤c + (ls.length * 1048576)→f l a= .inr (a++blT l.2))→(∀ l∈ls,l.2.length≤1048576)→acc.length≤c→
  af f e ls i acc=(e,i + ls.length,acc++blL ls)
 | [],i,acc,c,_,_,_=>by simp [af,blL]
 |l::r,i,acc,c,hf,hL,hc=>by
  have h5:=alg l.2
  have h6:=hL l (by simp)
  simp only [af,hf l (by simp) acc (by omega)]
  rw [aoD r (i + 1) (acc++blT l.2) (c + 1048576) (fun x hx a ha=>hf x (by simp [hx]) a (by rw [List.length_cons];omega)) (fun x hx=>hL x (by simp [hx])) (by rw [List.length_append];omega)]
  simp [blL];omega
theorem amt(ls:List LN)(h:YT ls=true):pI ls=blL ls∧pJ ls=true:=by
 obtain⟨hn,hA⟩:=OM.1 h
 have hL: ∀ l∈ls,l.2.length≤1048576:=fun l hl=>(OS.1 (hA l hl).2).1
 obtain⟨w1,w2⟩:=Hh ls [] (by omega) hn hL rfl
 have hw:=aoD (f:=bH) (e:=0) ls 0 [] 0 (fun l hl a ha=>by
  have:=hL l hl
  simp only [bH,(aeh l.2 a (by omega) (by omega)).2]) hL (by simp)
 rw [hw]at w2
 simp only [pI,pJ,px,w1,w2,allT,bC]
 simp
theorem anq(k:Nat)(u v:ByteArray)(acc:List TM)(p q r:List ByteArray)(ls:List LN)(l:LN)(hl:ls[k]? =some l)(hn:l.2.length≤1048576)(hc:acc.length + l.2.length≤4000000000000):
  dN.fin ((0:Int),(k:Int),u,v,acc,p,q,r,ls)=true∧dN.res ((0:Int),(k:Int),u,v,acc,p,q,r,ls)=(0,((l.2.length:Int),(k:Int),u,v,acc++blT l.2,p,q,r,ls)):=by
 have hkl:=(List.getElem?_eq_some_iff.1 hl).1
 have hgl: ∀ d,Option.getD ls[k]? d=l:=fun d=>by rw [hl];rfl
 have ha2:qY (k:Int) ls=l.2:=by simp only [qY,Int.toNat_natCast];exact congrArg Prod.snd (hgl _)
 have ha0:GP (k:Int) ls=true:=dO (by omega)
 have ha1:An (k:Int) ls=true:=by simp only [An,Int.toNat_natCast];exact fQ hkl
 have hk0:leI 0 (k:Int)=true:=bw (by omega)
 have jb:=dN.along2 (fun i (a:List TM)=>((i:Int),(k:Int),u,v,a,p,q,r,ls)) (fun x=>x.2.2.2.2.1) (fun(b:TM) a=> .inr (aiY a b)) 0 (fun i a=>a.length≤acc.length + i) l.2 acc (by omega)
  (by omega) (fun i b a hb hI=> ?_) (fun a hI=> ?_)
 ·rw [Lm (g:=aiY) (fun b a=>rfl),ajb]at jb
  simpa using jb
 ·have eB:=(List.getElem?_eq_some_iff.1 hb).1
  have hw:IntKind.i64.wrap ((i:Int) + 1)=((i + 1:Nat):Int):=by rw [aR (by omega) (by omega)];omega
  have bM:ltI (i:Int) (l.2.length:Int)=true:=dO (by omega)
  have vC:leI (0:Int) (i:Int)=true:=bw (by omega)
  have gI:ltN i l.2.length=true:=fQ eB
  have hg2:ra (i:Int) (k:Int) ls=b:=by simp only [ra,ha2,Int.toNat_natCast,hb,Option.getD_some]
  have hg3:qZ (i:Int) (k:Int) ls=true:=by simp only [qZ,ha2,bM]
  have h8: ∀ z:TM,leN (a.length + List.length [z]) 9223372036854775807=true:=fun z=>dv (by rw [List.length_singleton];omega)
  have h9: ∀ z:TM,leN ((a.length + List.length [z]) * 32) 140737488355328=true:=fun z=>dv (by rw [List.length_singleton];omega)
  refine⟨?_,?_,?_,?_⟩
  ·simp only [sD,sE,sF,sG,wo,wq,ws,wu,wv,ww,vp,vq,vr,vt,vu,qX,vv,vh,dN,dV,rb,LT.nds,allT,ha0,ha1,ha2,hk0,hg2,hg3,bM,vC,gI,h8,h9,Int.toNat_natCast,cond_true,Bool.or_true]
   cases leI 7 b.1 <;> simp [LT.nds]
  ·simp only [sD,sE,sF,sG,wo,wq,ws,wu,wv,ww,vp,vq,vr,vt,vu,qX,vv,vh,dN,dV,rb,LT.each,hw,hg2,hg3]
   cases leI 7 b.1 <;> simp [LT.each]
  ·simp only [sD,sE,sF,sG,wo,wq,ws,wu,wv,ww,vp,vq,vr,vt,vu,qX,vv,vh,dN,dV,rb,LT.fn,hg2,hg3,cond_true,aiY]
   cases leI 7 b.1 <;> rfl
  ·intro a' hf
   simp only [Sum.inr.injEq]at hf
   subst hf
   have:=al8 a b
   omega
 ·have bM:qZ (l.2.length:Int) (k:Int) ls=false:=by simp only [qZ,ha2];exact QB (by omega)
  simp [sD,sE,sF,sG,wo,wq,ws,wu,wv,ww,vp,vq,vr,vt,vu,qX,vv,vh,dN,LT.out,allT,ha0,ha1,hk0,bM]
theorem am3(u v:ByteArray)(p q r:List ByteArray)(ls:List LN)(h:YT ls=true):Rq u v p q r ls=blL ls∧Rr u v p q r ls=true:=by
 obtain⟨hn,hA⟩:=OM.1 h
 have hL: ∀ l∈ls,l.2.length≤1048576:=fun l hl=>(OS.1 (hA l hl).2).1
 have jb:=ji.along (fun i (a:List TM)=>((i:Int),u,v,a,p,q,r,ls)) (fun x=>x.2.2.2.1) (fun(b:LN) a=> .inr (a++blT b.2)) 0 (fun i a=>a.length≤i * 1048576) ls [] (by simp)
  (by simp only [ji];omega) (fun i b a hb hI=> ?_) (fun a hI=> ?_)
 ·rw [Lm (g:=fun a (l:LN)=>a++blT l.2) (fun b a=>rfl),akH]at jb
  simp only [Rq,Rr,Qf,allT]
  simp only [List.nil_append,Nat.zero_add]at jb
  have e0:((0:Nat):Int)=0:=rfl
  rw [e0]at jb
  rw [jb.1,jb.2]
  exact⟨rfl,rfl⟩
 ·have eB:=(List.getElem?_eq_some_iff.1 hb).1
  have hbl:=hL b (List.mem_of_getElem? hb)
  have hw:IntKind.i64.wrap ((i:Int) + 1)=((i + 1:Nat):Int):=by rw [aR (by omega) (by omega)];omega
  have bM:ltI (i:Int) (ls.length:Int)=true:=dO (by omega)
  obtain⟨k1,k2⟩:=anq i u v a p q r ls b hb hbl (by omega)
  refine⟨?_,?_,?_,?_⟩
  ·simp [BC,BD,BE,BF,zf,ji,zE,LT.nds,allT,bM,k1]
  ·simp [BC,BD,BE,BF,zf,ji,zE,LT.each,bM,hw,k2]
  ·simp [BC,BD,BE,BF,zf,ji,zE,LT.fn,bM,k2]
  ·intro a' hf
   simp only [Sum.inr.injEq]at hf
   subst hf
   have:=alg b.2
   rw [List.length_append];omega
 ·have bM:ltI (ls.length:Int) (ls.length:Int)=false:=QB (by omega)
  simp [BC,BD,BE,BF,zf,ji,LT.out,bM]
def wT:List SV→List Entry→Option Out
 | [.one ⟨true,[.val (.string _x0),.ref 0,.ref 1,.ref 2,.val (.string _x1),.ref 3]⟩],[.row false 9 (.str) x2,.row false 9 (.str) x3,.row false 9 (.str) x4,.row false 204 (.pair (.str) (.sl 178 (.pair (.int .i64) (.pair (.str) (.int .i64))))) x5]=>some ⟨.one ⟨false,[.ref 4]⟩,[.row false 9 aih x2,.row false 9 aih x3,.row false 9 aih x4,.row false 204 (CTy.pair CTy.str (CTy.sl (178:TypeId) acD)) x5],[.row true 178 acD (blL x5)],[YT x5]⟩
 |_,_=>none
def dP:PF prog:=PF.alt IG wT (by
 intro args es o h cB;unfold wT at h;split at h
 ·rename_i _x0 _x1 x2 x3 x4 x5
  cases h
  have cB:=mq cB
  have hh:=amt x5 cB
  obtain⟨e0,en⟩:=hh
  exact rg rfl (lJ en) rfl rfl (by simp only [e0] <;> rfl)
 ·cases h)
def WH:List SV→List Entry→Option Out
 | [.one ⟨true,[.val (.string x0),.ref 0,.ref 1,.ref 2,.val (.string x1),.ref 3]⟩],[.row false 9 (.str) x2,.row false 9 (.str) x3,.row false 9 (.str) x4,.row false 204 (.pair (.str) (.sl 178 (.pair (.int .i64) (.pair (.str) (.int .i64))))) x5]=>some ⟨.one ⟨false,[.ref 4]⟩,[.row false 9 aih x2,.row false 9 aih x3,.row false 9 aih x4,.row false 204 (CTy.pair CTy.str (CTy.sl (178:TypeId) acD)) x5],[.row true 178 acD (blL x5)],[YT x5]⟩
 |_,_=>none
def Rf:PF prog:=PF.alt ahk WH (by
 intro args es o h cB;unfold WH at h;split at h
 ·rename_i x0 x1 x2 x3 x4 x5
  cases h
  have cB:=mq cB
  have hh:=am3 x0 x1 x2 x3 x4 x5 cB
  obtain⟨e0,en⟩:=hh
  exact rg rfl (lJ en) rfl rfl (by simp only [e0] <;> rfl)
 ·cases h)
theorem aqB(n:Int)(h0:0≤n)(h1:n≤100000000):tF n= []∧tG n=true:=by
 have w0:IntKind.i64.wrap ((↑(0:Nat):Int) - (↑(0:Nat):Int))=0:=rfl
 have e0:bd n=n:=by simp only [bd,w0];rw [aR (by omega) (by omega)];omega
 refine⟨?_,?_⟩
 ·simp only [tF,e0];cases ltI 0 n <;> rfl
 ·have t0:ltI n 0=false:=QB h0
  have t1:leI (0:Int) (0:Int)=true:=rfl
  have t2:leI (↑(0:Nat):Int) (0:Int)=true:=rfl
  have t3:leI (0:Int) (↑(0:Nat):Int)=true:=rfl
  have t4:leI n 9223372036854775807=true:=bw (by omega)
  have t5:leI (n * (↑(16:Nat):Int)) 281474976710656=true:=bw (by omega)
  have t6: ∀ m:Nat,leI (↑(0:Nat):Int) (m:Int)=true:=fun m=>bw (by omega)
  have t7:(!ltI 0 n||leI 1 n)=true:=by
   cases h:ltI 0 n with
   |false=>rfl
   |true=>have:=aiF.1 h;rw [bw (by omega)];rfl
  simp only [tG,ya,e0,t0,t1,t2,t3,t4,t5,t6,t7,allT,Bool.or_true,Bool.not_false,cond_true]
def IJ(l:List (List ByteArray)):Nat:=(l.map List.length).sum
theorem aia(a b:List (List ByteArray)):IJ (a++b)=IJ a + IJ b:=by simp [IJ]
theorem abX{l:List (List ByteArray)}{i:Nat}{b:List ByteArray}(hb:l[i]? =some b):IJ (l.take (i + 1))=IJ (l.take i) + b.length∧IJ (l.take (i + 1))≤IJ l:=by
 obtain⟨hi,rfl⟩:=List.getElem?_eq_some_iff.1 hb
 refine⟨?_,?_⟩
 ·rw [List.take_succ_eq_append_getElem hi,aia];simp [IJ]
 ·have h5:=aia (l.take (i + 1)) (l.drop (i + 1))
  rw [List.take_append_drop]at h5
  omega
def cE(b:List ByteArray):(Int)→Nat ⊕ (Int)
 |y2=>(.inr (IntKind.wrap .i64 (y2 + (↑(List.length b):Int))))
def dI(y3:List (List ByteArray))(i:Nat):(Int)→cC
 |y2=>((i:Int),(↑y3.length:Int),y2,y3)
def vD:cC→Int
 |(_,_,y2,_)=>y2
theorem Qs(y3:List (List ByteArray))(y2:Int)(hn:y3.length≤9223372036854775807)(h0:y2=0)(hS:IJ y3≤2000000):
  bh.fin ((0:Int),(↑y3.length:Int),y2,y3)=true∧bh.res ((0:Int),(↑y3.length:Int),y2,y3)=((af (cE) 0 y3 0 y2).1,(dI y3) (af (cE) 0 y3 0 y2).2.1 (af (cE) 0 y3 0 y2).2.2):=by
 have jb:=bh.along (dI y3) vD (cE) 0 (fun i a=>a=(IJ (y3.take i):Int)) y3 y2 (by rw [h0];simp [IJ]) (by simp only [bh,dI];omega) (fun i b a hb hI=> ?_) (fun a hI=> ?_)
 ·exact jb
 ·obtain y2:=a
  have eB:=(List.getElem?_eq_some_iff.1 hb).1
  have il: ∀ d,Option.getD y3[i]? d=b:=fun d=>by rw [hb];rfl
  have hw:=tZ eB hn
  have bM:ltI (i:Int) (y3.length:Int)=true:=dO (by omega)
  have vC:leI (0:Int) (i:Int)=true:=bw (by omega)
  have gI:ltN i y3.length=true:=fQ eB
  refine⟨?_,?_,?_,?_⟩
  ·have hg2:fA (i:Int) a y3=(IJ (y3.take (i + 1)):Int):=by
    have h3:=abX hb
    simp only [fA,Int.toNat_natCast]
    refine(congrArg (fun z:List ByteArray=>IntKind.i64.wrap (a + (z.length:Int))) (il _)).trans ?_
    show IntKind.i64.wrap (a + (b.length:Int))=_
    rw [hI,aR (by omega) (by omega)];omega
   have h6:ltI (IJ (y3.take (i + 1)):Int) 0=false:=QB (by omega)
   simp only [bh,lV,mC,qB,qC,qD,qE,LT.nds,allT,dI,bM,vC,gI,hg2,h6,Int.toNat_natCast,cond_true,Bool.and_self,Bool.not_false]
  ·simp [fA,mC,qB,qC,qD,qE,wm,qF,lV,bh,LT.each,dI,vD,hw]
  ·simp only [bh,lV,mC,qF,fA,LT.fn,dI,vD,cE,bM,Int.toNat_natCast,cond_true]
   exact congrArg (fun z:List ByteArray=>(Sum.inr (IntKind.i64.wrap (a + (z.length:Int))):Nat ⊕ Int)) (il _)
  ·intro a' hf
   have h3:=abX hb
   simp only [cE,Sum.inr.injEq]at hf
   rw [← hf,hI,aR (by omega) (by omega)];omega
 ·obtain y2:=a
  simp [fA,mC,qB,qC,qD,qE,wm,qF,lV,bh,LT.out,dI]
def gd(b:List ByteArray):(List ByteArray)→Nat ⊕ (List ByteArray)
 |y3=>(.inr (y3++(b)))
def dJ(y2:List (List ByteArray))(i:Nat):(List ByteArray)→cD
 |y3=>((i:Int),(↑y2.length:Int),y2,y3)
def vE:cD→List ByteArray
 |(_,_,_,y3)=>y3
theorem Qt(y2:List (List ByteArray))(y3:List ByteArray)(hn:y2.length≤9223372036854775807)(hS:IJ y2≤2000000)(h3:y3= []):
  bi.fin ((0:Int),(↑y2.length:Int),y2,y3)=true∧bi.res ((0:Int),(↑y2.length:Int),y2,y3)=((af (gd) 0 y2 0 y3).1,(dJ y2) (af (gd) 0 y2 0 y3).2.1 (af (gd) 0 y2 0 y3).2.2):=by
 have jb:=bi.along (dJ y2) vE (gd) 0 (fun i a=>a.length=IJ (y2.take i)) y2 y3 (by rw [h3];simp [IJ]) (by simp only [bi,dJ];omega) (fun i b a hb hI=> ?_) (fun a hI=> ?_)
 ·exact jb
 ·obtain y3:=a
  have eB:=(List.getElem?_eq_some_iff.1 hb).1
  have il: ∀ d,Option.getD y2[i]? d=b:=fun d=>by rw [hb];rfl
  have hw:=tZ eB hn
  have bM:ltI (i:Int) (y2.length:Int)=true:=dO (by omega)
  have vC:leI (0:Int) (i:Int)=true:=bw (by omega)
  have gI:ltN i y2.length=true:=fQ eB
  refine⟨?_,?_,?_,?_⟩
  ·have hg2:cY (i:Int) y2=b:=by simp only [cY,Int.toNat_natCast];exact il _
   have h3:=abX hb
   have h6:leN (a.length + b.length) 9223372036854775807=true:=dv (by omega)
   have h7:leN ((a.length + b.length) * 16) 140737488355328=true:=dv (by omega)
   simp only [bi,lW,mD,qG,qH,qI,qJ,qK,LT.nds,allT,dJ,bM,vC,gI,hg2,h6,h7,Int.toNat_natCast,cond_true,Bool.and_self]
  ·simp [cY,mD,qG,qH,qI,qJ,qK,wn,qL,lW,bi,LT.each,dJ,vE,hw]
  ·have hg2:cY (i:Int) y2=b:=by simp only [cY,Int.toNat_natCast];exact il _
   simp only [bi,lW,mD,qL,LT.fn,dJ,vE,gd,bM,hg2,cond_true]
  ·intro a' hf
   have h3:=abX hb
   simp only [gd,Sum.inr.injEq]at hf
   rw [← hf,List.length_append];omega
 ·obtain y3:=a
  simp [cY,mD,qG,qH,qI,qJ,qK,wn,qL,lW,bi,LT.out,dJ]
theorem amk: ∀ (l:List (List ByteArray)) (acc:List ByteArray),l.foldl (fun a b=>a++b) acc=acc++l.flatten
 | [],acc=>by simp
 |a::r,acc=>by rw [List.foldl_cons,amk r];simp
theorem arj(l:List (List ByteArray))(h:(leN l.length 1000&&leN (IJ l) 2000000)=true):zj l=l.flatten∧zk l=true:=by
 simp only [Bool.and_eq_true,fX]at h
 obtain⟨w1,w2⟩:=Qs l 0 (by omega) rfl h.2
 have hw:(af cE 0 l 0 (0:Int)).2.2=(IJ l:Int):=by
  have hg: ∀ (r:List (List ByteArray)) (i:Nat) (a:Int),0≤a→a + IJ r≤2000000→(af cE 0 r i a).2.2=a + IJ r:=by
   intro r
   induction r with
   |nil=>intro i a _ _;simp [af,IJ]
   |cons x r ih=>
    intro i a h0 h1
    have h3:IJ (x::r)=x.length + IJ r:=by simp [IJ]
    have hf:cE x a= .inr (a + (x.length:Int)):=by
     simp only [cE]
     rw [aR (by omega) (by omega)]
    simp only [af,hf]
    rw [ih (i + 1) (a + (x.length:Int)) (by omega) (by omega),h3]
    omega
  have:=hg l 0 0 (by omega) (by omega)
  omega
 have ha1:sn l=(IJ l:Int):=by
  simp only [sn,sm,w2,dI]
  exact hw
 obtain⟨g1,g2⟩:=aqB (IJ l:Int) (by omega) (by omega)
 obtain⟨v1,v2⟩:=Qt l [] (by omega) h.2 rfl
 rw [Lm (f:=gd) (g:=fun a b=>a++b) (fun b a=>rfl),amk]at v2
 refine⟨?_,?_⟩
 ·simp only [zj,sq,ha1,g1,v2,dJ,List.nil_append]
 ·simp only [zk,sq,ha1,g1,g2,v1,sm,w1,allT,cond_true]
def Hx:List SV→List Entry→Option Out
 | [.one ⟨false,[.ref 0]⟩],[.row false 60 (.sl 9 (.str)) x0]=>some ⟨.one ⟨false,[.ref 1]⟩,[.row false 60 (CTy.sl (9:TypeId) CTy.str) x0],[.row true 9 aih (x0.flatten)],[leN x0.length 1000&&leN (IJ x0) 2000000]⟩
 |_,_=>none
def ci:PF prog:=PF.alt RP Hx (by
 intro args es o h cB;unfold Hx at h;split at h
 ·rename_i x0
  cases h
  have cB:=mq cB
  have hh:=arj x0 cB
  obtain⟨e0,en⟩:=hh
  exact rg rfl (lJ en) rfl rfl (by simp only [e0] <;> rfl)
 ·cases h)
abbrev lR:=Int×ByteArray×ByteArray×List ByteArray×List ByteArray×List ByteArray×List (ByteArray×(List (Int×(ByteArray×Int))))
def vk(y0:Int)(y6:List (ByteArray×(List (Int×(ByteArray×Int))))):Bool:=ltI y0 (↑y6.length:Int)
def vl(y0:Int)(y6:List (ByteArray×(List (Int×(ByteArray×Int))))):Bool:=ltN y0.toNat y6.length
def mG(y0:Int)(y6:List (ByteArray×(List (Int×(ByteArray×Int))))):ByteArray×List (Int×ByteArray×Int):=Option.getD y6[Int.toNat y0]? (rY (CTy.pair CTy.str (CTy.sl (178:Nat) acD)))
def jn(y0:Int)(y6:List (ByteArray×(List (Int×(ByteArray×Int))))):Bool:= !mH ((mG y0 y6).1)
def rJ(y0:Int)(y6:List (ByteArray×(List (Int×(ByteArray×Int))))):List (Int×ByteArray×Int):=bif !jn y0 y6&&true then (mG y0 y6).2else []
def wO(y0:Int)(y6:List (ByteArray×(List (Int×(ByteArray×Int))))):Bool:=vk y0 y6
def FW(y0:Int):Bool:=leI (0:Int) y0
def FX(y0:Int)(y6:List (ByteArray×(List (Int×(ByteArray×Int))))):Bool:=vl y0 y6
def FY(y0:Int)(y6:List (ByteArray×(List (Int×(ByteArray×Int))))):Bool:=tY ((mG y0 y6).1)
def FZ(y0:Int)(y6:List (ByteArray×(List (Int×(ByteArray×Int))))):Bool:= !(!jn y0 y6&&true)||leI (0:Int) y0
def Ga(y0:Int)(y6:List (ByteArray×(List (Int×(ByteArray×Int))))):Bool:= !(!jn y0 y6&&true)||vk y0 y6
def Gb(y0:Int)(y6:List (ByteArray×(List (Int×(ByteArray×Int))))):Bool:= !(!jn y0 y6&&true)||vl y0 y6
def Gc(y0:Int)(y6:List (ByteArray×(List (Int×(ByteArray×Int))))):Bool:= !(!jn y0 y6&&true)||SQ (rJ y0 y6)
def BB(y0:Int)(y6:List (ByteArray×(List (Int×(ByteArray×Int))))):Bool:=bif jn y0 y6 then true else !afO (rJ y0 y6)
def Gd(y0:Int):Int:=IntKind.wrap .i64 (y0 + (1:Int))
def aav:lR→List (Nat×SV)
 |(y0,_,_,_,_,_,_)=> [(3,(.one ⟨false,[.val (.int .i64 y0)]⟩)),(1,(.one ⟨false,[.ptr 0 0]⟩))]
def aal:lR→List (Nat×Entry)
 |(_,y1,y2,y3,y4,y5,y6)=> [(0,(.box 63 [.val (.string y1),.ref 1,.ref 2,.ref 3,.val (.string y2),.ref 4])),(1,(.row false 9 aih y3)),(2,(.row false 9 aih y4)),(3,(.row false 9 aih y5)),(4,(.row false 204 (CTy.pair CTy.str (CTy.sl (178:Nat) acD)) y6))]
def aaY:Nat→lR→List (Nat×SV)
 |0,(_,_,_,_,_,_,_)=> [(2,(.one ⟨false,[.val (.bool false)]⟩))]
 |_,(_,_,_,_,_,_,_)=> []
def aaO:Nat→lR→List (Nat×Entry)
 |0,(_,y1,y2,y3,y4,y5,y6)=> [(0,(.box 63 [.val (.string y1),.ref 1,.ref 2,.ref 3,.val (.string y2),.ref 4])),(1,(.row false 9 aih y3)),(2,(.row false 9 aih y4)),(3,(.row false 9 aih y5)),(4,(.row false 204 (CTy.pair CTy.str (CTy.sl (178:Nat) acD)) y6))]
 |_,(_,y1,y2,y3,y4,y5,y6)=> [(0,(.box 63 [.val (.string y1),.ref 1,.ref 2,.ref 3,.val (.string y2),.ref 4])),(1,(.row false 9 aih y3)),(2,(.row false 9 aih y4)),(3,(.row false 9 aih y5)),(4,(.row false 204 (CTy.pair CTy.str (CTy.sl (178:Nat) acD)) y6))]
def ze:lR→LT lR
 |(y0,y1,y2,y3,y4,y5,y6)=> .ite (wO y0 y6) (.need [FW y0,wO y0 y6,FX y0 y6,FY y0 y6,FZ y0 y6,Ga y0 y6,Gb y0 y6,Gc y0 y6] (.ite (BB y0 y6) (.ext 0 [(0,0),(1,1),(2,2),(3,3),(4,4)]) (.nrm ((Gd y0),y1,y2,y3,y4,y5,y6) [(0,0),(1,1),(2,2),(3,3),(4,4)]))) (.ext 1 [(0,0),(1,1),(2,2),(3,3),(4,4)])
def Lh(s:St):Option lR:=
 (match s.look 3 with
 |some ⟨none,.one ⟨false,[.val (.int .i64 y0)]⟩⟩=>
 (match s.look 1 with
 |some ⟨none,.one ⟨false,[.ptr 320 0]⟩⟩=>
 (match s.ent 320 with
 |some (.box 63 [.val (.string y1),.ref 0,.ref 1,.ref 2,.val (.string y2),.ref 3])=>
 (match s.ent 0 with
 |some (.row false 9 (.str) y3)=>
 (match s.ent 1 with
 |some (.row false 9 (.str) y4)=>
 (match s.ent 2 with
 |some (.row false 9 (.str) y5)=>
 (match s.ent 3 with
 |some (.row false 204 (.pair .str (.sl (178:Nat) (.pair (.int .i64) (.pair .str (.int .i64))))) y6)=>
 some (y0,y1,y2,y3,y4,y5,y6)
 |_=>none)
 |_=>none)
 |_=>none)
 |_=>none)
 |_=>none)
 |_=>none)
 |_=>none)
def ey:Lp lR where
 h:=⟨[37,38,39,40,41,44,45,46,47,48,49,50,51,52,53,54,55,56,57,58,59,60,61,2,42,43,3],[0,1,2,3,4],[],[]⟩
 JL:=aav
 JE:=aal
 XL:=aaY
 XE:=aaO
 q:=fun j=>match j with | 0=> .ret | _=> .exit 0
 tags:= [0,1]
 lt:=ze
 fuel:=fun(y0,y1,y2,y3,y4,y5,y6)=>y0.natAbs + y1.size + y2.size + y3.length + y4.length + y5.length + y6.length
 fix:=fun(_,y1,y2,y3,y4,y5,y6) (y0,_,_,_,_,_,_)=>(y0,y1,y2,y3,y4,y5,y6)
 σ:= [(0,320),(1,0),(2,1),(3,2),(4,3)]
 rd:=Lh
theorem XX:LoopOk prog (fun k=>Nat.blt k Tryz.f186.ntmps) ey.F (aL f186 0):=by
 refine Lp.ok (tbl:= [yB,KQ,DV,PF.lend DV,PF.fz DV,wN,PF.lend wN,PF.fz wN]) (lf:= []) aN ey (by kernel_rfl) (LOk.nil _) (fun _=>rfl) (fun j _=>by unfold ey;match j with | 0=>rfl | _ + 1=>rfl) ?_ ?_ ?_ ?_ (fun _=>rfl) ?_
 ·rintro⟨y0,y1,y2,y3,y4,y5,y6⟩;kernel_rfl
 ·rintro⟨y0,y1,y2,y3,y4,y5,y6⟩;kernel_rfl
 ·intro s x h
  have h:Lh s=some x:=h
  unfold Lh at h
  repeat' split at h
  all_goals cases h
  exact⟨aa (by assumption) rfl (aa (by assumption) rfl (rfl)),ab rfl (by assumption) rfl (ab rfl (by assumption) rfl (ab rfl (by assumption) rfl (ab rfl (by assumption) rfl (ab rfl (by assumption) rfl (rfl)))))⟩
 ·rintro⟨y0,y1,y2,y3,y4,y5,y6⟩;kernel_rfl
 ·rintro⟨y0,y1,y2,y3,y4,y5,y6⟩ z;exact(And.intro (And.intro trivial rfl) trivial)
section
variable (x0:ByteArray)(x2 x3 x4:List ByteArray)
def PW:Bool:=bif !mH x0 then true else !(List.all x2 mM&&inR (↑x2.length:Int) (1:Int) (20:Int))
def PX:Bool:=bif PW x0 x2 then true else !(List.all x3 mM&&inR (↑x3.length:Int) (0:Int) (20:Int))
def PY:Bool:=bif PX x0 x2 x3 then true else !(List.all x4 mM&&inR (↑x4.length:Int) (1:Int) (20:Int))
end
def PZ(x1:ByteArray):Bool:=
 !ByteArray.toList x1==ByteArray.toList { data:= #[] }
section
variable (x0 x1:ByteArray)(x2 x3 x4:List ByteArray)(x5:List (ByteArray×List (Int×ByteArray×Int)))
def Qa:Bool:=bif PY x0 x2 x3 x4 then true else bif PZ x1 then !mH x1 else false
def Ke:Int×ByteArray×ByteArray×List ByteArray×List ByteArray×List ByteArray×List (ByteArray×List (Int×ByteArray×Int)):=((0:Int),x0,x1,x2,x3,x4,x5)
def GN:Bool:=bif Qa x0 x1 x2 x3 x4 then false else bif Nat.beq ((Lp.res ey (Ke x0 x1 x2 x3 x4 x5)).1) (0:Nat)then false else bx (↑x5.length:Int) (1:Int) (40:Int)
def LW:Bool:=allT [tY x0,!(!!mH x0&&true)||QE x2,!(!PW x0 x2&&true)||QE x3,!(!PX x0 x2 x3&&true)||QE x4,!(PZ x1&&(!PY x0 x2 x3 x4&&true))||tY x1,Qa x0 x1 x2 x3 x4||Lp.fin ey (Ke x0 x1 x2 x3 x4 x5)]
end
def Wt:List SV→List Entry→Option Out
 | [.one ⟨true,[.val (.string x0),.ref 0,.ref 1,.ref 2,.val (.string x1),.ref 3]⟩],[.row false 9 (.str) x2,.row false 9 (.str) x3,.row false 9 (.str) x4,.row false 204 (.pair (.str) (.sl 178 (.pair (.int .i64) (.pair (.str) (.int .i64))))) x5]=>some ⟨.one ⟨false,[.val (.bool (GN x0 x1 x2 x3 x4 x5))]⟩,[.row false 9 aih x2,.row false 9 aih x3,.row false 9 aih x4,.row false 204 (CTy.pair CTy.str (CTy.sl (178:TypeId) acD)) x5],[],[LW x0 x1 x2 x3 x4 x5]⟩
 |_,_=>none
def Rm:PF prog:=PF.ofG prog [yB,KQ,DV,PF.lend DV,PF.fz DV,wN,PF.lend wN,PF.fz wN] [ey.F] aN 186 f186 func186 (LOk.fnT (l:= [aL f186 0]) (by kernel_rfl) (.cons XX (.nil _))) Wt (by
 intro vs es r h;unfold Wt at h;split at h
 ·cases h;kernel_rfl
 ·cases h)
def rL(x2:ByteArray)(x3 x4:List ByteArray):Bool:=bif leI (0:Int) (iQ x3 x2)then true else leI (0:Int) (iQ x4 x2)
def DB(x2:ByteArray)(x3 x4:List ByteArray):Bool:=allT [leN x3.length (9223372036854775807:Nat),!(!leI (0:Int) (iQ x3 x2)&&true)||leN x4.length (9223372036854775807:Nat)]
def Tm:List SV→List Entry→Option Out
 | [.one ⟨true,[.val (.string _x0),.ref 0,.ref 1,.ref 2,.val (.string _x1),.ref 3]⟩,.one ⟨false,[.val (.string x2)]⟩],[.row false 9 (.str) x3,.row false 9 (.str) x4,.row false 9 (.str) x5,.row false 204 (.pair (.str) (.sl 178 (.pair (.int .i64) (.pair (.str) (.int .i64))))) x6]=>some ⟨.one ⟨false,[.val (.bool (rL x2 x3 x4))]⟩,[.row false 9 aih x3,.row false 9 aih x4,.row false 9 aih x5,.row false 204 (CTy.pair CTy.str (CTy.sl (178:TypeId) acD)) x6],[],[DB x2 x3 x4]⟩
 |_,_=>none
def jU:PF prog:=PF.ofG prog [bV,PF.lend bV,PF.fz bV] [] aN 243 f243 func243 (fun c _=>LOk.nil c) Tm (by
 intro vs es r h;unfold Tm at h;split at h
 ·cases h;kernel_rfl
 ·cases h)
abbrev mT:=Int×ByteArray×ByteArray×List ByteArray×List ByteArray×List ByteArray×List ByteArray×List (ByteArray×(List (Int×(ByteArray×Int))))
def iN(y0:Int)(y7:List (ByteArray×(List (Int×(ByteArray×Int))))):ByteArray:=(Option.getD y7[Int.toNat y0]? (rY (CTy.pair CTy.str (CTy.sl (178:Nat) acD)))).1
def yg(y0:Int)(y7:List (ByteArray×(List (Int×(ByteArray×Int))))):Bool:=ltI y0 (↑y7.length:Int)
def Do(y0:Int):Bool:=leI (0:Int) y0
def Dp(y0:Int)(y7:List (ByteArray×(List (Int×(ByteArray×Int))))):Bool:=ltN y0.toNat y7.length
def Dq(y5:List ByteArray):Bool:=leN y5.length (9223372036854775807:Nat)
def Dr(y0:Int)(y5 y6:List ByteArray)(y7:List (ByteArray×(List (Int×(ByteArray×Int))))):Bool:= !(ltI (iQ y5 (iN y0 y7)) (0:Int)&&true)||leN y6.length (9223372036854775807:Nat)
def Ds(y0:Int)(y5 y6:List ByteArray)(y7:List (ByteArray×(List (Int×(ByteArray×Int))))):Bool:=bif ltI (iQ y5 (iN y0 y7)) (0:Int)then ltI (iQ y6 (iN y0 y7)) (0:Int)else false
def Dt(y0:Int)(y3:List ByteArray)(y7:List (ByteArray×(List (Int×(ByteArray×Int))))):Bool:=leN (List.length y3 + List.length [iN y0 y7]) (9223372036854775807:Nat)
def Du(y0:Int)(y3:List ByteArray)(y7:List (ByteArray×(List (Int×(ByteArray×Int))))):Bool:=leN ((List.length y3 + List.length [iN y0 y7]) * (16:Nat)) (140737488355328:Nat)
def Dv(y0:Int):Int:=IntKind.wrap .i64 (y0 + (1:Int))
def Dw(y0:Int)(y3:List ByteArray)(y7:List (ByteArray×(List (Int×(ByteArray×Int))))):List ByteArray:=y3++ [iN y0 y7]
def acf:mT→List (Nat×SV)
 |(y0,_,_,_,_,_,_,_)=> [(4,(.one ⟨false,[.val (.int .i64 y0)]⟩)),(1,(.one ⟨false,[.ptr 0 0]⟩)),(3,(.one ⟨false,[.ref 1]⟩))]
def ab4:mT→List (Nat×Entry)
 |(_,y1,y2,y3,y4,y5,y6,y7)=> [(0,(.box 63 [.val (.string y1),.ref 2,.ref 3,.ref 4,.val (.string y2),.ref 5])),(2,(.row false 9 aih y4)),(3,(.row false 9 aih y5)),(4,(.row false 9 aih y6)),(5,(.row false 204 (CTy.pair CTy.str (CTy.sl (178:Nat) acD)) y7)),(1,(.row true 9 aih y3))]
def acz:Nat→mT→List (Nat×SV)
 |0,(_,_,_,_,_,_,_,_)=> [(2,(.one ⟨false,[.val (.int .i64 (3:Int))]⟩))]
 |_,(_,_,_,_,_,_,_,_)=> [(3,(.one ⟨false,[.ref 1]⟩))]
def acp:Nat→mT→List (Nat×Entry)
 |0,(_,y1,y2,y3,y4,y5,y6,y7)=> [(0,(.box 63 [.val (.string y1),.ref 2,.ref 3,.ref 4,.val (.string y2),.ref 5])),(1,(.row true 9 aih y3)),(2,(.row false 9 aih y4)),(3,(.row false 9 aih y5)),(4,(.row false 9 aih y6)),(5,(.row false 204 (CTy.pair CTy.str (CTy.sl (178:Nat) acD)) y7))]
 |_,(_,y1,y2,y3,y4,y5,y6,y7)=> [(0,(.box 63 [.val (.string y1),.ref 2,.ref 3,.ref 4,.val (.string y2),.ref 5])),(1,(.row true 9 aih y3)),(2,(.row false 9 aih y4)),(3,(.row false 9 aih y5)),(4,(.row false 9 aih y6)),(5,(.row false 204 (CTy.pair CTy.str (CTy.sl (178:Nat) acD)) y7))]
def Bu:mT→LT mT
 |(y0,y1,y2,y3,y4,y5,y6,y7)=> .ite (yg y0 y7) (.need [Do y0,yg y0 y7,Dp y0 y7] (.need [Dq y5,Dr y0 y5 y6 y7] (.ite (Ds y0 y5 y6 y7) (.ext 0 [(0,0),(1,1),(2,2),(3,3),(4,4),(5,5)]) (.need [Dt y0 y3 y7,Du y0 y3 y7] (.nrm ((Dv y0),y1,y2,Dw y0 y3 y7,y4,y5,y6,y7) [(0,0),(1,1792),(2,2),(3,3),(4,4),(5,5)]))))) (.ext 1 [(0,0),(1,1),(2,2),(3,3),(4,4),(5,5)])
def MB(s:St):Option mT:=
 (match s.look 4 with
 |some ⟨none,.one ⟨false,[.val (.int .i64 y0)]⟩⟩=>
 (match s.look 1 with
 |some ⟨none,.one ⟨false,[.ptr 320 0]⟩⟩=>
 (match s.look 3 with
 |some ⟨none,.one ⟨false,[.ref 1280]⟩⟩=>
 (match s.ent 320 with
 |some (.box 63 [.val (.string y1),.ref 0,.ref 1,.ref 2,.val (.string y2),.ref 3])=>
 (match s.ent 0 with
 |some (.row false 9 (.str) y4)=>
 (match s.ent 1 with
 |some (.row false 9 (.str) y5)=>
 (match s.ent 2 with
 |some (.row false 9 (.str) y6)=>
 (match s.ent 3 with
 |some (.row false 204 (.pair .str (.sl (178:Nat) (.pair (.int .i64) (.pair .str (.int .i64))))) y7)=>
 (match s.ent 1280 with
 |some (.row true 9 (.str) y3)=>
 some (y0,y1,y2,y3,y4,y5,y6,y7)
 |_=>none)
 |_=>none)
 |_=>none)
 |_=>none)
 |_=>none)
 |_=>none)
 |_=>none)
 |_=>none)
 |_=>none)
def dx:Lp mT where
 h:=⟨[23,24,25,26,27,30,31,32,33,34,35,5,36,37,38,39,40,41,42,43,44,45,46,47,2,48,49,50,51,3,28,29,4],[0,2,3,4,5],[1],[]⟩
 JL:=acf
 JE:=ab4
 XL:=acz
 XE:=acp
 q:=fun j=>match j with | 0=> .ret | _=> .exit 0
 tags:= [0,1]
 lt:=Bu
 fuel:=fun(y0,y1,y2,y3,y4,y5,y6,y7)=>y0.natAbs + y1.size + y2.size + y3.length + y4.length + y5.length + y6.length + y7.length
 fix:=fun(_,y1,y2,_,y4,y5,y6,y7) (y0,_,_,y3,_,_,_,_)=>(y0,y1,y2,y3,y4,y5,y6,y7)
 σ:= [(0,320),(2,0),(3,1),(4,2),(5,3),(1,1280)]
 rd:=MB
theorem ZF:LoopOk prog (fun k=>Nat.blt k Tryz.f187.ntmps) dx.F (aL f187 0):=by
 refine Lp.ok (tbl:= [bV,PF.lend bV,PF.fz bV,rV,PF.lend rV,PF.fz rV,od,PF.lend od,PF.fz od,jU,PF.lend jU,PF.fz jU]) (lf:= []) aN dx (by kernel_rfl) (LOk.nil _) (fun _=>rfl) (fun j _=>by unfold dx;match j with | 0=>rfl | _ + 1=>rfl) ?_ ?_ ?_ ?_ (fun _=>rfl) ?_
 ·rintro⟨y0,y1,y2,y3,y4,y5,y6,y7⟩;kernel_rfl
 ·rintro⟨y0,y1,y2,y3,y4,y5,y6,y7⟩;kernel_rfl
 ·intro s x h
  have h:MB s=some x:=h
  unfold MB at h
  repeat' split at h
  all_goals cases h
  exact⟨aa (by assumption) rfl (aa (by assumption) rfl (aa (by assumption) rfl (rfl))),ab rfl (by assumption) rfl (ab rfl (by assumption) rfl (ab rfl (by assumption) rfl (ab rfl (by assumption) rfl (ab rfl (by assumption) rfl (ab rfl (by assumption) rfl (rfl))))))⟩
 ·rintro⟨y0,y1,y2,y3,y4,y5,y6,y7⟩;kernel_rfl
 ·rintro⟨y0,y1,y2,y3,y4,y5,y6,y7⟩ z;exact(And.intro (And.intro trivial rfl) trivial)
abbrev nU:=Int×Int×ByteArray×ByteArray×List ByteArray×List ByteArray×List ByteArray×List (ByteArray×(List (Int×(ByteArray×Int))))
def wx(y1:Int)(y7:List (ByteArray×(List (Int×(ByteArray×Int))))):List (Int×ByteArray×Int):=(Option.getD y7[Int.toNat y1]? (rY (CTy.pair CTy.str (CTy.sl (178:Nat) acD)))).2
def wy(y0 y1:Int)(y7:List (ByteArray×(List (Int×(ByteArray×Int))))):Int×ByteArray×Int:=Option.getD (wx y1 y7)[Int.toNat y0]? ((0:Int),ByteArray.empty,(0:Int))
def Im(y0 y1:Int)(y7:List (ByteArray×(List (Int×(ByteArray×Int))))):Bool:=(wy y0 y1 y7).1==(1:Int)
def Jt(y1:Int):Bool:=leI (0:Int) y1
def Ju(y1:Int)(y7:List (ByteArray×(List (Int×(ByteArray×Int))))):Bool:=ltI y1 (↑y7.length:Int)
def DJ(y1:Int)(y7:List (ByteArray×(List (Int×(ByteArray×Int))))):Bool:=ltN y1.toNat y7.length
def tN(y0 y1:Int)(y7:List (ByteArray×(List (Int×(ByteArray×Int))))):Bool:=ltI y0 (↑(List.length (wx y1 y7)):Int)
def QC(y0:Int):Bool:=leI (0:Int) y0
def Jv(y0 y1:Int)(y7:List (ByteArray×(List (Int×(ByteArray×Int))))):Bool:=ltN y0.toNat (List.length (wx y1 y7))
def Jw(y0 y1:Int)(y4 y5:List ByteArray)(y7:List (ByteArray×(List (Int×(ByteArray×Int))))):Bool:= !(Im y0 y1 y7&&true)||DB (((wy y0 y1 y7).2).1) y4 y5
def Jz(y0 y1:Int)(y4 y5:List ByteArray)(y7:List (ByteArray×(List (Int×(ByteArray×Int))))):Bool:=bif Im y0 y1 y7 then !rL (((wy y0 y1 y7).2).1) y4 y5 else false
def QD(y0:Int):Int:=IntKind.wrap .i64 (y0 + (1:Int))
def Xu:nU→List (Nat×SV)
 |(y0,y1,_,_,_,_,_,_)=> [(7,(.one ⟨false,[.val (.int .i64 y0)]⟩)),(1,(.one ⟨false,[.ptr 0 0]⟩)),(6,(.one ⟨false,[.val (.int .i64 y1)]⟩))]
def Xr:nU→List (Nat×Entry)
 |(_,_,y2,y3,y4,y5,y6,y7)=> [(0,(.box 63 [.val (.string y2),.ref 1,.ref 2,.ref 3,.val (.string y3),.ref 4])),(1,(.row false 9 aih y4)),(2,(.row false 9 aih y5)),(3,(.row false 9 aih y6)),(4,(.row false 204 (CTy.pair CTy.str (CTy.sl (178:Nat) acD)) y7))]
def XA:Nat→nU→List (Nat×SV)
 |0,(_,_,_,_,_,_,_,_)=> [(2,(.one ⟨false,[.val (.int .i64 (6:Int))]⟩))]
 |_,(_,_,_,_,_,_,_,_)=> []
def Xx:Nat→nU→List (Nat×Entry)
 |0,(_,_,y2,y3,y4,y5,y6,y7)=> [(0,(.box 63 [.val (.string y2),.ref 1,.ref 2,.ref 3,.val (.string y3),.ref 4])),(1,(.row false 9 aih y4)),(2,(.row false 9 aih y5)),(3,(.row false 9 aih y6)),(4,(.row false 204 (CTy.pair CTy.str (CTy.sl (178:Nat) acD)) y7))]
 |_,(_,_,y2,y3,y4,y5,y6,y7)=> [(0,(.box 63 [.val (.string y2),.ref 1,.ref 2,.ref 3,.val (.string y3),.ref 4])),(1,(.row false 9 aih y4)),(2,(.row false 9 aih y5)),(3,(.row false 9 aih y6)),(4,(.row false 204 (CTy.pair CTy.str (CTy.sl (178:Nat) acD)) y7))]
def vZ:nU→LT nU
 |(y0,y1,y2,y3,y4,y5,y6,y7)=> .need [Jt y1,Ju y1 y7,DJ y1 y7] (.ite (tN y0 y1 y7) (.need [Jt y1,Ju y1 y7,DJ y1 y7,QC y0,tN y0 y1 y7,Jv y0 y1 y7] (.need [Jw y0 y1 y4 y5 y7] (.ite (Jz y0 y1 y4 y5 y7) (.ext 0 [(0,0),(1,1),(2,2),(3,3),(4,4)]) (.nrm ((QD y0),y1,y2,y3,y4,y5,y6,y7) [(0,0),(1,1),(2,2),(3,3),(4,4)])))) (.ext 1 [(0,0),(1,1),(2,2),(3,3),(4,4)]))
def Id(s:St):Option nU:=
 (match s.look 7 with
 |some ⟨none,.one ⟨false,[.val (.int .i64 y0)]⟩⟩=>
 (match s.look 1 with
 |some ⟨none,.one ⟨false,[.ptr 0 0]⟩⟩=>
 (match s.look 6 with
 |some ⟨none,.one ⟨false,[.val (.int .i64 y1)]⟩⟩=>
 (match s.ent 0 with
 |some (.box 63 [.val (.string y2),.ref 1,.ref 2,.ref 3,.val (.string y3),.ref 4])=>
 (match s.ent 1 with
 |some (.row false 9 (.str) y4)=>
 (match s.ent 2 with
 |some (.row false 9 (.str) y5)=>
 (match s.ent 3 with
 |some (.row false 9 (.str) y6)=>
 (match s.ent 4 with
 |some (.row false 204 (.pair .str (.sl (178:Nat) (.pair (.int .i64) (.pair .str (.int .i64))))) y7)=>
 some (y0,y1,y2,y3,y4,y5,y6,y7)
 |_=>none)
 |_=>none)
 |_=>none)
 |_=>none)
 |_=>none)
 |_=>none)
 |_=>none)
 |_=>none)
def dH:Lp nU where
 h:=⟨[71,72,73,74,75,76,77,78,79,82,83,84,85,86,87,88,89,90,8,91,92,93,94,95,96,97,98,99,100,2,80,81,7],[0,1,2,3,4],[],[]⟩
 JL:=Xu
 JE:=Xr
 XL:=XA
 XE:=Xx
 q:=fun j=>match j with | 0=> .ret | _=> .exit 4
 tags:= [0,1]
 lt:=vZ
 fuel:=fun(y0,y1,y2,y3,y4,y5,y6,y7)=>y0.natAbs + y1.natAbs + y2.size + y3.size + y4.length + y5.length + y6.length + y7.length
 fix:=fun(_,y1,y2,y3,y4,y5,y6,y7) (y0,_,_,_,_,_,_,_)=>(y0,y1,y2,y3,y4,y5,y6,y7)
 σ:= [(0,0),(1,1),(2,2),(3,3),(4,4)]
 rd:=Id
theorem VV:LoopOk prog (memN [64,65,66,67,68,7,71,72,73,74,75,76,77,78,79,82,83,84,85,86,87,88,89,90,8,91,92,93,94,95,96,97,98,99,100,2,80,81,69,70,6]) dH.F (abi (aL f187 1) 0):=by
 refine Lp.ok (tbl:= [bV,PF.lend bV,PF.fz bV,rV,PF.lend rV,PF.fz rV,od,PF.lend od,PF.fz od,jU,PF.lend jU,PF.fz jU]) (lf:= []) aN dH (by kernel_rfl) (LOk.nil _) (fun _=>rfl) (fun j _=>by unfold dH;match j with | 0=>rfl | _ + 1=>rfl) ?_ ?_ ?_ ?_ (fun _=>rfl) ?_
 ·rintro⟨y0,y1,y2,y3,y4,y5,y6,y7⟩;kernel_rfl
 ·rintro⟨y0,y1,y2,y3,y4,y5,y6,y7⟩;kernel_rfl
 ·intro s x h
  have h:Id s=some x:=h
  unfold Id at h
  repeat' split at h
  all_goals cases h
  exact⟨aa (by assumption) rfl (aa (by assumption) rfl (aa (by assumption) rfl (rfl))),ab rfl (by assumption) rfl (ab rfl (by assumption) rfl (ab rfl (by assumption) rfl (ab rfl (by assumption) rfl (ab rfl (by assumption) rfl (rfl)))))⟩
 ·rintro⟨y0,y1,y2,y3,y4,y5,y6,y7⟩;kernel_rfl
 ·rintro⟨y0,y1,y2,y3,y4,y5,y6,y7⟩ z;exact(And.intro (And.intro trivial rfl) trivial)
abbrev rf:=Int×ByteArray×ByteArray×List ByteArray×List ByteArray×List ByteArray×List (ByteArray×(List (Int×(ByteArray×Int))))
def MH(y0:Int)(y1 y2:ByteArray)(y3 y4 y5:List ByteArray)(y6:List (ByteArray×(List (Int×(ByteArray×Int))))):Int×Int×ByteArray×ByteArray×List ByteArray×List ByteArray×List ByteArray×List (ByteArray×List (Int×ByteArray×Int)):=((0:Int),y0,y1,y2,y3,y4,y5,y6)
def Oo(y0:Int)(y6:List (ByteArray×(List (Int×(ByteArray×Int))))):Bool:=ltI y0 (↑y6.length:Int)
def Uq(y0:Int)(y1 y2:ByteArray)(y3 y4 y5:List ByteArray)(y6:List (ByteArray×(List (Int×(ByteArray×Int))))):Bool:=Lp.fin dH (MH y0 y1 y2 y3 y4 y5 y6)
def Oq(y0:Int)(y1 y2:ByteArray)(y3 y4 y5:List ByteArray)(y6:List (ByteArray×(List (Int×(ByteArray×Int))))):Bool:=Nat.beq ((Lp.res dH (MH y0 y1 y2 y3 y4 y5 y6)).1) (0:Nat)
def Ur(y0:Int):Int:=IntKind.wrap .i64 (y0 + (1:Int))
def acg:rf→List (Nat×SV)
 |(y0,_,_,_,_,_,_)=> [(6,(.one ⟨false,[.val (.int .i64 y0)]⟩)),(1,(.one ⟨false,[.ptr 0 0]⟩))]
def ab5:rf→List (Nat×Entry)
 |(_,y1,y2,y3,y4,y5,y6)=> [(0,(.box 63 [.val (.string y1),.ref 1,.ref 2,.ref 3,.val (.string y2),.ref 4])),(1,(.row false 9 aih y3)),(2,(.row false 9 aih y4)),(3,(.row false 9 aih y5)),(4,(.row false 204 (CTy.pair CTy.str (CTy.sl (178:Nat) acD)) y6))]
def acA:Nat→rf→List (Nat×SV)
 |0,(_,_,_,_,_,_,_)=> [(2,(.one ⟨false,[.val (.int .i64 (6:Int))]⟩))]
 |_,(_,_,_,_,_,_,_)=> []
def acq:Nat→rf→List (Nat×Entry)
 |0,(_,y1,y2,y3,y4,y5,y6)=> [(0,(.box 63 [.val (.string y1),.ref 1,.ref 2,.ref 3,.val (.string y2),.ref 4])),(1,(.row false 9 aih y3)),(2,(.row false 9 aih y4)),(3,(.row false 9 aih y5)),(4,(.row false 204 (CTy.pair CTy.str (CTy.sl (178:Nat) acD)) y6))]
 |_,(_,y1,y2,y3,y4,y5,y6)=> [(0,(.box 63 [.val (.string y1),.ref 1,.ref 2,.ref 3,.val (.string y2),.ref 4])),(1,(.row false 9 aih y3)),(2,(.row false 9 aih y4)),(3,(.row false 9 aih y5)),(4,(.row false 204 (CTy.pair CTy.str (CTy.sl (178:Nat) acD)) y6))]
def Bv:rf→LT rf
 |(y0,y1,y2,y3,y4,y5,y6)=> .ite (Oo y0 y6) (.need [Uq y0 y1 y2 y3 y4 y5 y6] (.ite (Oq y0 y1 y2 y3 y4 y5 y6) (.ext 0 [(0,0),(1,1),(2,2),(3,3),(4,4)]) (.nrm ((Ur y0),y1,y2,y3,y4,y5,y6) [(0,0),(1,1),(2,2),(3,3),(4,4)]))) (.ext 1 [(0,0),(1,1),(2,2),(3,3),(4,4)])
def MC(s:St):Option rf:=
 (match s.look 6 with
 |some ⟨none,.one ⟨false,[.val (.int .i64 y0)]⟩⟩=>
 (match s.look 1 with
 |some ⟨none,.one ⟨false,[.ptr 320 0]⟩⟩=>
 (match s.ent 320 with
 |some (.box 63 [.val (.string y1),.ref 0,.ref 1,.ref 2,.val (.string y2),.ref 3])=>
 (match s.ent 0 with
 |some (.row false 9 (.str) y3)=>
 (match s.ent 1 with
 |some (.row false 9 (.str) y4)=>
 (match s.ent 2 with
 |some (.row false 9 (.str) y5)=>
 (match s.ent 3 with
 |some (.row false 204 (.pair .str (.sl (178:Nat) (.pair (.int .i64) (.pair .str (.int .i64))))) y6)=>
 some (y0,y1,y2,y3,y4,y5,y6)
 |_=>none)
 |_=>none)
 |_=>none)
 |_=>none)
 |_=>none)
 |_=>none)
 |_=>none)
def dX:Lp rf where
 h:=⟨[64,65,66,67,68,7,71,72,73,74,75,76,77,78,79,82,83,84,85,86,87,88,89,90,8,91,92,93,94,95,96,97,98,99,100,2,80,81,69,70,6],[0,1,2,3,4],[],[]⟩
 JL:=acg
 JE:=ab5
 XL:=acA
 XE:=acq
 q:=fun j=>match j with | 0=> .ret | _=> .exit 2
 tags:= [0,1]
 lt:=Bv
 fuel:=fun(y0,y1,y2,y3,y4,y5,y6)=>y0.natAbs + y1.size + y2.size + y3.length + y4.length + y5.length + y6.length
 fix:=fun(_,y1,y2,y3,y4,y5,y6) (y0,_,_,_,_,_,_)=>(y0,y1,y2,y3,y4,y5,y6)
 σ:= [(0,320),(1,0),(2,1),(3,2),(4,3)]
 rd:=MC
theorem ZG:LoopOk prog (fun k=>Nat.blt k Tryz.f187.ntmps) dX.F (aL f187 1):=by
 refine Lp.ok (tbl:= [bV,PF.lend bV,PF.fz bV,rV,PF.lend rV,PF.fz rV,od,PF.lend od,PF.fz od,jU,PF.lend jU,PF.fz jU]) (lf:= [dH.F]) aN dX (by kernel_rfl) (LOk.allT (l:= [abi (aL f187 1) 0]) (by kernel_rfl) (.cons VV (.nil _))) (fun _=>rfl) (fun j _=>by unfold dX;match j with | 0=>rfl | _ + 1=>rfl) ?_ ?_ ?_ ?_ (fun _=>rfl) ?_
 ·rintro⟨y0,y1,y2,y3,y4,y5,y6⟩;kernel_rfl
 ·rintro⟨y0,y1,y2,y3,y4,y5,y6⟩;kernel_rfl
 ·intro s x h
  have h:MC s=some x:=h
  unfold MC at h
  repeat' split at h
  all_goals cases h
  exact⟨aa (by assumption) rfl (aa (by assumption) rfl (rfl)),ab rfl (by assumption) rfl (ab rfl (by assumption) rfl (ab rfl (by assumption) rfl (ab rfl (by assumption) rfl (ab rfl (by assumption) rfl (rfl)))))⟩
 ·rintro⟨y0,y1,y2,y3,y4,y5,y6⟩;kernel_rfl
 ·rintro⟨y0,y1,y2,y3,y4,y5,y6⟩ z;exact(And.intro (And.intro trivial rfl) trivial)
def vz(x2 x3 x4:List ByteArray):List ByteArray:=x2++x3++x4
def yf(x1:ByteArray):Bool:=
 !ByteArray.toList x1==ByteArray.toList { data:= #[] }
section
variable (x0 x1:ByteArray)(x2 x3 x4:List ByteArray)(x5:List (ByteArray×List (Int×ByteArray×Int)))
def LX:List ByteArray×List ByteArray×List ByteArray×List (ByteArray×List (Int×ByteArray×Int)):=(x2,x3,x4,x5)
def BT:Int×ByteArray×ByteArray×List ByteArray×List ByteArray×List ByteArray×List ByteArray×List (ByteArray×List (Int×ByteArray×Int)):=((0:Int),x0,x1,[],LX x2 x3 x4 x5)
def GQ:Bool:=Nat.beq ((Lp.res dx (BT x0 x1 x2 x3 x4 x5)).1) (0:Nat)
def BU:List ByteArray:=((Lp.res dx (BT x0 x1 x2 x3 x4 x5)).2.2.2.2).1
def LY:Bool:=ltI (↑(List.length (BU x0 x1 x2 x3 x4 x5)):Int) (IntKind.wrap .i64 ((↑x3.length:Int) + (↑x4.length:Int)))
def LZ:Int×ByteArray×ByteArray×List ByteArray×List ByteArray×List ByteArray×List (ByteArray×List (Int×ByteArray×Int)):=((0:Int),x0,x1,LX x2 x3 x4 x5)
def Ny:Int:=bif rU (vz x2 x3 x4)then(1:Int)else bif bif yf x1 then !rL x1 x2 x3 else false then(2:Int)else bif GQ x0 x1 x2 x3 x4 x5 then(3:Int)else bif rU (BU x0 x1 x2 x3 x4 x5)then(4:Int)else bif LY x0 x1 x2 x3 x4 x5 then(5:Int)else bif Nat.beq ((Lp.res dX (LZ x0 x1 x2 x3 x4 x5)).1) (0:Nat)then(6:Int)else(0:Int)
def Nz:Bool:=allT [leN (List.length x2 + List.length x3 + List.length x4) (2000000:Nat),leN (List.length (vz x2 x3 x4)) (9223372036854775807:Nat),rU (vz x2 x3 x4)||(!(yf x1&&true)||DB x1 x2 x3),rU (vz x2 x3 x4)||((bif yf x1 then !rL x1 x2 x3 else false)||Lp.fin dx (BT x0 x1 x2 x3 x4 x5)),rU (vz x2 x3 x4)||((bif yf x1 then !rL x1 x2 x3 else false)||(GQ x0 x1 x2 x3 x4 x5||leN (List.length (BU x0 x1 x2 x3 x4 x5)) (9223372036854775807:Nat))),rU (vz x2 x3 x4)||((bif yf x1 then !rL x1 x2 x3 else false)||(GQ x0 x1 x2 x3 x4 x5||(rU (BU x0 x1 x2 x3 x4 x5)||(LY x0 x1 x2 x3 x4 x5||Lp.fin dX (LZ x0 x1 x2 x3 x4 x5)))))]
end
def YC:List SV→List Entry→Option Out
 | [.one ⟨true,[.val (.string x0),.ref 0,.ref 1,.ref 2,.val (.string x1),.ref 3]⟩],[.row false 9 (.str) x2,.row false 9 (.str) x3,.row false 9 (.str) x4,.row false 204 (.pair (.str) (.sl 178 (.pair (.int .i64) (.pair (.str) (.int .i64))))) x5]=>some ⟨.one ⟨false,[.val (.int .i64 (Ny x0 x1 x2 x3 x4 x5))]⟩,[.row false 9 aih x2,.row false 9 aih x3,.row false 9 aih x4,.row false 204 (CTy.pair CTy.str (CTy.sl (178:TypeId) acD)) x5],[],[Nz x0 x1 x2 x3 x4 x5]⟩
 |_,_=>none
def Sq:PF prog:=PF.ofG prog [bV,PF.lend bV,PF.fz bV,rV,PF.lend rV,PF.fz rV,od,PF.lend od,PF.fz od,jU,PF.lend jU,PF.fz jU] [dx.F,dX.F] aN 187 f187 func187 (LOk.fnT (l:= [aL f187 0,aL f187 1]) (by kernel_rfl) (.cons ZF (.cons ZG (.nil _)))) YC (by
 intro vs es r h;unfold YC at h;split at h
 ·cases h;kernel_rfl
 ·cases h)
def Ui(x0 x1:ByteArray)(x2 x3 x4:List ByteArray)(x5:List (ByteArray×List (Int×ByteArray×Int))):Bool:=bif GN x0 x1 x2 x3 x4 x5 then Ny x0 x1 x2 x3 x4 x5==(0:Int)else false
def Uj(x0 x1:ByteArray)(x2 x3 x4:List ByteArray)(x5:List (ByteArray×List (Int×ByteArray×Int))):Bool:=allT [LW x0 x1 x2 x3 x4 x5,!(GN x0 x1 x2 x3 x4 x5&&true)||Nz x0 x1 x2 x3 x4 x5]
def ZT:List SV→List Entry→Option Out
 | [.one ⟨true,[.val (.string x0),.ref 0,.ref 1,.ref 2,.val (.string x1),.ref 3]⟩],[.row false 9 (.str) x2,.row false 9 (.str) x3,.row false 9 (.str) x4,.row false 204 (.pair (.str) (.sl 178 (.pair (.int .i64) (.pair (.str) (.int .i64))))) x5]=>some ⟨.one ⟨false,[.val (.bool (Ui x0 x1 x2 x3 x4 x5))]⟩,[.row false 9 aih x2,.row false 9 aih x3,.row false 9 aih x4,.row false 204 (CTy.pair CTy.str (CTy.sl (178:TypeId) acD)) x5],[],[Uj x0 x1 x2 x3 x4 x5]⟩
 |_,_=>none
def ajD:PF prog:=PF.ofG prog [Rm,PF.lend Rm,PF.fz Rm,Sq,PF.lend Sq,PF.fz Sq] [] aN 118 f118 func118 (fun c _=>LOk.nil c) ZT (by
 intro vs es r h;unfold ZT at h;split at h
 ·cases h;kernel_rfl
 ·cases h)
def GE(x1:List (Int×ByteArray×Int)):Bool:=ltI (40:Int) (↑x1.length:Int)
def uG:List SV→List Entry→Option Out
 | [.one ⟨true,[.val (.string _x0),.ref 0]⟩],[.row false 178 (.pair (.int .i64) (.pair (.str) (.int .i64))) x1]=>some ⟨.one ⟨false,[.val (.bool (GE x1))]⟩,[.row false 178 acD x1],[],[]⟩
 |_,_=>none
def oF:PF prog:=PF.ofG prog [] [] aN 261 f261 func261 (fun c _=>LOk.nil c) uG (by
 intro vs es r h;unfold uG at h;split at h
 ·cases h;kernel_rfl
 ·cases h)
def cv(x1:List (Int×ByteArray×Int)):Bool:=ltI (40:Int) (↑x1.length:Int)
def rc:List SV→List Entry→Option Out
 | [.one ⟨true,[.val (.string _x0),.ref 0]⟩],[.row false 178 (.pair (.int .i64) (.pair .str (.int .i64))) x1]=>some ⟨.one ⟨false,[.val (.bool (cv x1))]⟩,[.row false 178 acD x1],[],[]⟩
 |_,_=>none
def cA:PF prog:=PF.ofG prog [] [] aN 261 f261 func261 (fun c _=>LOk.nil c) rc (by
 intro vs es r h;unfold rc at h;split at h
 ·cases h;kernel_rfl
 ·cases h)
abbrev bD:=Int×Int×List (ByteArray×(List (Int×(ByteArray×Int))))
def jE(y0 y1:Int):Bool:=ltI y0 y1
def nv(y0:Int):Bool:=leI (0:Int) y0
def nx(y0:Int)(y2:List (ByteArray×(List (Int×(ByteArray×Int))))):Bool:=ltI y0 (↑y2.length:Int)
def ny(y0:Int)(y2:List (ByteArray×(List (Int×(ByteArray×Int))))):Bool:=ltN y0.toNat y2.length
def fZ(y0:Int)(y2:List (ByteArray×(List (Int×(ByteArray×Int))))):Bool:=cv ((Option.getD y2[Int.toNat y0]? (rY (CTy.pair CTy.str (CTy.sl (178:Nat) acD)))).2)
def sx(y0:Int):Int:=IntKind.wrap .i64 (y0 + (1:Int))
def Ks:bD→List (Nat×SV)
 |(y0,y1,_)=> [(8,(.one ⟨false,[.val (.int .i64 y0)]⟩)),(7,(.one ⟨false,[.val (.int .i64 y1)]⟩)),(1,(.one ⟨false,[.val (.func (.func 261) ⟨[]⟩ ⟨[]⟩)]⟩)),(0,(.one ⟨false,[.ref 0]⟩))]
def Kn:bD→List (Nat×Entry)
 |(_,_,y2)=> [(0,(.row false 204 (CTy.pair CTy.str (CTy.sl (178:Nat) acD)) y2))]
def KD:Nat→bD→List (Nat×SV)
 |0,(y0,_,_)=> [(4,(.one ⟨false,[.val (.int .i64 y0)]⟩))]
 |_,(_,_,_)=> []
def Ky:Nat→bD→List (Nat×Entry)
 |0,(_,_,y2)=> [(0,(.row false 204 (CTy.pair CTy.str (CTy.sl (178:Nat) acD)) y2))]
 |_,(_,_,y2)=> [(0,(.row false 204 (CTy.pair CTy.str (CTy.sl (178:Nat) acD)) y2))]
def jj:bD→LT bD
 |(y0,y1,y2)=> .ite (jE y0 y1) (.need [nv y0,nx y0 y2,ny y0 y2] (.ite (fZ y0 y2) (.ext 0 [(0,0)]) (.nrm ((sx y0),y1,y2) [(0,0)]))) (.ext 1 [(0,0)])
def ry(s:St):Option bD:=
 (match s.look 8 with
 |some ⟨none,.one ⟨false,[.val (.int .i64 y0)]⟩⟩=>
 (match s.look 7 with
 |some ⟨none,.one ⟨false,[.val (.int .i64 y1)]⟩⟩=>
 (match s.look 1 with
 |some ⟨none,.one ⟨false,[.val (.func (.func 261) ⟨[]⟩ ⟨[]⟩)]⟩⟩=>
 (match s.look 0 with
 |some ⟨none,.one ⟨false,[.ref 0]⟩⟩=>
 (match s.ent 0 with
 |some (.row false 204 (.pair .str (.sl (178:Nat) (.pair (.int .i64) (.pair .str (.int .i64))))) y2)=>
 some (y0,y1,y2)
 |_=>none)
 |_=>none)
 |_=>none)
 |_=>none)
 |_=>none)
def aA:Lp bD where
 h:=⟨[9,10,5,11,12,13,14,15,16,17,4,18,8],[0],[],[]⟩
 JL:=Ks
 JE:=Kn
 XL:=KD
 XE:=Ky
 q:=fun j=>match j with | 0=> .ret | _=> .exit 0
 tags:= [0,1]
 lt:=jj
 fuel:=fun(y0,y1,y2)=>y0.natAbs + y1.natAbs + y2.length
 fix:=fun(_,y1,y2) (y0,_,_)=>(y0,y1,y2)
 σ:= [(0,0)]
 rd:=ry
theorem Jf:LoopOk prog (fun k=>Nat.blt k Tryz.f262.ntmps) aA.F (aL f262 0):=by
 refine Lp.ok (tbl:= [cA,PF.lend cA,PF.fz cA]) (lf:= []) aN aA (by kernel_rfl) (LOk.nil _) (fun _=>rfl) (fun j _=>by unfold aA;match j with | 0=>rfl | _ + 1=>rfl) ?_ ?_ ?_ ?_ (fun _=>rfl) ?_
 ·rintro⟨y0,y1,y2⟩;kernel_rfl
 ·rintro⟨y0,y1,y2⟩;kernel_rfl
 ·intro s x h
  have h:ry s=some x:=h
  unfold ry at h
  repeat' split at h
  all_goals cases h
  exact⟨aa (by assumption) rfl (aa (by assumption) rfl (aa (by assumption) rfl (aa (by assumption) rfl (rfl)))),ab rfl (by assumption) rfl (rfl)⟩
 ·rintro⟨y0,y1,y2⟩;kernel_rfl
 ·rintro⟨y0,y1,y2⟩ z;exact(And.intro (And.intro trivial rfl) trivial)
section
variable (x0:List (ByteArray×List (Int×ByteArray×Int)))
def oQ:Int×Int×List (ByteArray×List (Int×ByteArray×Int)):=((0:Int),(↑x0.length:Int),x0)
def uv:Int:=bif Nat.beq ((Lp.res aA (oQ x0)).1) (0:Nat)then ((Lp.res aA (oQ x0)).2).1else(-1:Int)
def uw:Bool:=allT [Lp.fin aA (oQ x0)]
end
def BX:List SV→List Entry→Option Out
 | [.one ⟨false,[.ref 0]⟩,.one ⟨false,[.val (.func (.func 261) ⟨[]⟩ ⟨[]⟩)]⟩],[.row false 204 (.pair .str (.sl (178:Nat) (.pair (.int .i64) (.pair .str (.int .i64))))) x0]=>some ⟨.one ⟨false,[.val (.int .i64 (uv x0))]⟩,[.row false 204 (CTy.pair CTy.str (CTy.sl (178:Nat) acD)) x0],[],[uw x0]⟩
 |_,_=>none
def uo:PF prog:=PF.ofG prog [cA,PF.lend cA,PF.fz cA] [aA.F] aN 262 f262 func262 (LOk.fnT (l:= [aL f262 0]) (by kernel_rfl) (.cons Jf (.nil _))) BX (by
 intro vs es r h;unfold BX at h;split at h
 ·cases h;kernel_rfl
 ·cases h)
def sr(x0:List (ByteArray×List (Int×ByteArray×Int))):Bool:=leI (0:Int) (uv x0)
def su(x0:List (ByteArray×List (Int×ByteArray×Int))):Bool:=allT [uw x0]
def zI:List SV→List Entry→Option Out
 | [.one ⟨false,[.ref 0]⟩,.one ⟨false,[.val (.func (.func 261) ⟨[]⟩ ⟨[]⟩)]⟩],[.row false 204 (.pair .str (.sl (178:Nat) (.pair (.int .i64) (.pair .str (.int .i64))))) x0]=>some ⟨.one ⟨false,[.val (.bool (sr x0))]⟩,[.row false 204 (CTy.pair CTy.str (CTy.sl (178:Nat) acD)) x0],[],[su x0]⟩
 |_,_=>none
def se:PF prog:=PF.ofG prog [uo,PF.lend uo,PF.fz uo] [] aN 229 f229 func229 (fun c _=>LOk.nil c) zI (by
 intro vs es r h;unfold zI at h;split at h
 ·cases h;kernel_rfl
 ·cases h)
section
variable (x2 x3 x4:List ByteArray)(x5:List (ByteArray×List (Int×ByteArray×Int)))
def oU:Bool:=bif bif bif leI (↑x2.length:Int) (20:Int)then leI (↑x3.length:Int) (20:Int)else false then leI (↑x4.length:Int) (20:Int)else false then leI (↑x5.length:Int) (40:Int)else false
def km:Bool:=bif oU x2 x3 x4 x5 then !sr x5 else false
def kn:Bool:=allT [!(oU x2 x3 x4 x5&&true)||su x5]
end
def vO:List SV→List Entry→Option Out
 | [.one ⟨true,[.val (.string _x0),.ref 0,.ref 1,.ref 2,.val (.string _x1),.ref 3]⟩],[.row false 9 (.str) x2,.row false 9 (.str) x3,.row false 9 (.str) x4,.row false 204 (.pair (.str) (.sl 178 (.pair (.int .i64) (.pair (.str) (.int .i64))))) x5]=>some ⟨.one ⟨false,[.val (.bool (km x2 x3 x4 x5))]⟩,[.row false 9 aih x2,.row false 9 aih x3,.row false 9 aih x4,.row false 204 (CTy.pair CTy.str (CTy.sl (178:TypeId) acD)) x5],[],[kn x2 x3 x4 x5]⟩
 |_,_=>none
def py:PF prog:=PF.ofG prog [oF,PF.lend oF,PF.fz oF,se,PF.lend se,PF.fz se] [] aN 228 f228 func228 (fun c _=>LOk.nil c) vO (by
 intro vs es r h;unfold vO at h;split at h
 ·cases h;kernel_rfl
 ·cases h)
def aeq(x0:ByteArray)(x1:List (Int×ByteArray×Int)):Bool:= !lineB (x0,x1)
def aer(x1:List (Int×ByteArray×Int)):Bool:=allT [SQ x1]
def Tf:List SV→List Entry→Option Out
 | [.one ⟨true,[.val (.string x0),.ref 0]⟩],[.row false 178 (.pair (.int .i64) (.pair (.str) (.int .i64))) x1]=>some ⟨.one ⟨false,[.val (.bool (aeq x0 x1))]⟩,[.row false 178 acD x1],[],[aer x1]⟩
 |_,_=>none
def NQ:PF prog:=PF.ofG prog [IR,PF.lend IR,PF.fz IR] [] aN 230 f230 func230 (fun c _=>LOk.nil c) Tf (by
 intro vs es r h;unfold Tf at h;split at h
 ·cases h;kernel_rfl
 ·cases h)
def yz(x0:ByteArray)(x1:List (Int×ByteArray×Int)):Bool:= !lineB (x0,x1)
def Fr(x1:List (Int×ByteArray×Int)):Bool:=allT [SQ x1]
def ML:List SV→List Entry→Option Out
 | [.one ⟨true,[.val (.string x0),.ref 0]⟩],[.row false 178 (.pair (.int .i64) (.pair .str (.int .i64))) x1]=>some ⟨.one ⟨false,[.val (.bool (yz x0 x1))]⟩,[.row false 178 acD x1],[],[Fr x1]⟩
 |_,_=>none
def qa:PF prog:=PF.ofG prog [IR,PF.lend IR,PF.fz IR] [] aN 230 f230 func230 (fun c _=>LOk.nil c) ML (by
 intro vs es r h;unfold ML at h;split at h
 ·cases h;kernel_rfl
 ·cases h)
abbrev bE:=Int×Int×List (ByteArray×(List (Int×(ByteArray×Int))))
def bZ(y0:Int)(y2:List (ByteArray×(List (Int×(ByteArray×Int))))):ByteArray×List (Int×ByteArray×Int):=Option.getD y2[Int.toNat y0]? (rY (CTy.pair CTy.str (CTy.sl (178:Nat) acD)))
def jF(y0 y1:Int):Bool:=ltI y0 y1
def nz(y0:Int):Bool:=leI (0:Int) y0
def nA(y0:Int)(y2:List (ByteArray×(List (Int×(ByteArray×Int))))):Bool:=ltI y0 (↑y2.length:Int)
def nB(y0:Int)(y2:List (ByteArray×(List (Int×(ByteArray×Int))))):Bool:=ltN y0.toNat y2.length
def jG(y0:Int)(y2:List (ByteArray×(List (Int×(ByteArray×Int))))):Bool:=Fr ((bZ y0 y2).2)
def jH(y0:Int)(y2:List (ByteArray×(List (Int×(ByteArray×Int))))):Bool:=yz ((bZ y0 y2).1) ((bZ y0 y2).2)
def sy(y0:Int):Int:=IntKind.wrap .i64 (y0 + (1:Int))
def Kt:bE→List (Nat×SV)
 |(y0,y1,_)=> [(8,(.one ⟨false,[.val (.int .i64 y0)]⟩)),(7,(.one ⟨false,[.val (.int .i64 y1)]⟩)),(1,(.one ⟨false,[.val (.func (.func 230) ⟨[]⟩ ⟨[]⟩)]⟩)),(0,(.one ⟨false,[.ref 0]⟩))]
def Ko:bE→List (Nat×Entry)
 |(_,_,y2)=> [(0,(.row false 204 (CTy.pair CTy.str (CTy.sl (178:Nat) acD)) y2))]
def KE:Nat→bE→List (Nat×SV)
 |0,(y0,_,_)=> [(4,(.one ⟨false,[.val (.int .i64 y0)]⟩))]
 |_,(_,_,_)=> []
def Kz:Nat→bE→List (Nat×Entry)
 |0,(_,_,y2)=> [(0,(.row false 204 (CTy.pair CTy.str (CTy.sl (178:Nat) acD)) y2))]
 |_,(_,_,y2)=> [(0,(.row false 204 (CTy.pair CTy.str (CTy.sl (178:Nat) acD)) y2))]
def jk:bE→LT bE
 |(y0,y1,y2)=> .ite (jF y0 y1) (.need [nz y0,nA y0 y2,nB y0 y2,jG y0 y2] (.ite (jH y0 y2) (.ext 0 [(0,0)]) (.nrm ((sy y0),y1,y2) [(0,0)]))) (.ext 1 [(0,0)])
def rz(s:St):Option bE:=
 (match s.look 8 with
 |some ⟨none,.one ⟨false,[.val (.int .i64 y0)]⟩⟩=>
 (match s.look 7 with
 |some ⟨none,.one ⟨false,[.val (.int .i64 y1)]⟩⟩=>
 (match s.look 1 with
 |some ⟨none,.one ⟨false,[.val (.func (.func 230) ⟨[]⟩ ⟨[]⟩)]⟩⟩=>
 (match s.look 0 with
 |some ⟨none,.one ⟨false,[.ref 0]⟩⟩=>
 (match s.ent 0 with
 |some (.row false 204 (.pair .str (.sl (178:Nat) (.pair (.int .i64) (.pair .str (.int .i64))))) y2)=>
 some (y0,y1,y2)
 |_=>none)
 |_=>none)
 |_=>none)
 |_=>none)
 |_=>none)
def aB:Lp bE where
 h:=⟨[9,10,5,11,12,13,14,15,16,17,4,18,8],[0],[],[]⟩
 JL:=Kt
 JE:=Ko
 XL:=KE
 XE:=Kz
 q:=fun j=>match j with | 0=> .ret | _=> .exit 0
 tags:= [0,1]
 lt:=jk
 fuel:=fun(y0,y1,y2)=>y0.natAbs + y1.natAbs + y2.length
 fix:=fun(_,y1,y2) (y0,_,_)=>(y0,y1,y2)
 σ:= [(0,0)]
 rd:=rz
theorem Jg:LoopOk prog (fun k=>Nat.blt k Tryz.f262.ntmps) aB.F (aL f262 0):=by
 refine Lp.ok (tbl:= [qa,PF.lend qa,PF.fz qa]) (lf:= []) aN aB (by kernel_rfl) (LOk.nil _) (fun _=>rfl) (fun j _=>by unfold aB;match j with | 0=>rfl | _ + 1=>rfl) ?_ ?_ ?_ ?_ (fun _=>rfl) ?_
 ·rintro⟨y0,y1,y2⟩;kernel_rfl
 ·rintro⟨y0,y1,y2⟩;kernel_rfl
 ·intro s x h
  have h:rz s=some x:=h
  unfold rz at h
  repeat' split at h
  all_goals cases h
  exact⟨aa (by assumption) rfl (aa (by assumption) rfl (aa (by assumption) rfl (aa (by assumption) rfl (rfl)))),ab rfl (by assumption) rfl (rfl)⟩
 ·rintro⟨y0,y1,y2⟩;kernel_rfl
 ·rintro⟨y0,y1,y2⟩ z;exact(And.intro (And.intro trivial rfl) trivial)
section
variable (x0:List (ByteArray×List (Int×ByteArray×Int)))
def oR:Int×Int×List (ByteArray×List (Int×ByteArray×Int)):=((0:Int),(↑x0.length:Int),x0)
def ux:Int:=bif Nat.beq ((Lp.res aB (oR x0)).1) (0:Nat)then ((Lp.res aB (oR x0)).2).1else(-1:Int)
def uy:Bool:=allT [Lp.fin aB (oR x0)]
end
def BZ:List SV→List Entry→Option Out
 | [.one ⟨false,[.ref 0]⟩,.one ⟨false,[.val (.func (.func 230) ⟨[]⟩ ⟨[]⟩)]⟩],[.row false 204 (.pair .str (.sl (178:Nat) (.pair (.int .i64) (.pair .str (.int .i64))))) x0]=>some ⟨.one ⟨false,[.val (.int .i64 (ux x0))]⟩,[.row false 204 (CTy.pair CTy.str (CTy.sl (178:Nat) acD)) x0],[],[uy x0]⟩
 |_,_=>none
def uq:PF prog:=PF.ofG prog [qa,PF.lend qa,PF.fz qa] [aB.F] aN 262 f262 func262 (LOk.fnT (l:= [aL f262 0]) (by kernel_rfl) (.cons Jg (.nil _))) BZ (by
 intro vs es r h;unfold BZ at h;split at h
 ·cases h;kernel_rfl
 ·cases h)
def nq(x0:List (ByteArray×List (Int×ByteArray×Int))):Bool:=leI (0:Int) (ux x0)
def nr(x0:List (ByteArray×List (Int×ByteArray×Int))):Bool:=allT [uy x0]
def zJ:List SV→List Entry→Option Out
 | [.one ⟨false,[.ref 0]⟩,.one ⟨false,[.val (.func (.func 230) ⟨[]⟩ ⟨[]⟩)]⟩],[.row false 204 (.pair .str (.sl (178:Nat) (.pair (.int .i64) (.pair .str (.int .i64))))) x0]=>some ⟨.one ⟨false,[.val (.bool (nq x0))]⟩,[.row false 204 (CTy.pair CTy.str (CTy.sl (178:Nat) acD)) x0],[],[nr x0]⟩
 |_,_=>none
def sf:PF prog:=PF.ofG prog [uq,PF.lend uq,PF.fz uq] [] aN 229 f229 func229 (fun c _=>LOk.nil c) zJ (by
 intro vs es r h;unfold zJ at h;split at h
 ·cases h;kernel_rfl
 ·cases h)
def Ef(x0:ByteArray)(x2 x3 x4:List ByteArray):List (List ByteArray):=bif lS x0&&true then [x2,x3,x4]else []
def JB(x0:ByteArray)(x2 x3 x4:List ByteArray):List ByteArray:=bif lS x0&&true then List.flatten (Ef x0 x2 x3 x4)else []
def Pt(x0 x1:ByteArray)(x2 x3 x4:List ByteArray)(x5:List (ByteArray×List (Int×ByteArray×Int))):Bool:=
 bif
  bif
    bif
      bif bif lS x0 then List.all (JB x0 x2 x3 x4) mM else false then
       bif ByteArray.toList x1==ByteArray.toList { data:= #[] } then true else lS x1
      else false then
     ltI (0:Int) (↑x2.length:Int)
    else false then
   ltI (0:Int) (↑x4.length:Int)
  else false then
 ltI (0:Int) (↑x5.length:Int)
 else false
section
variable (x0 x1:ByteArray)(x2 x3 x4:List ByteArray)(x5:List (ByteArray×List (Int×ByteArray×Int)))
def Pu:Bool:=bif Pt x0 x1 x2 x3 x4 x5 then km x2 x3 x4 x5 else false
def Gr:Bool:=bif Pu x0 x1 x2 x3 x4 x5 then !nq x5 else false
def Lo:Bool:=allT [!(lS x0&&true)||leN (List.length (Ef x0 x2 x3 x4)) (1000:Nat)&&leN (IJ (Ef x0 x2 x3 x4)) (2000000:Nat),!(lS x0&&true)||leN (List.length (JB x0 x2 x3 x4)) (9223372036854775807:Nat),!(Pt x0 x1 x2 x3 x4 x5&&true)||kn x2 x3 x4 x5,!(Pu x0 x1 x2 x3 x4 x5&&true)||nr x5]
end
def We:List SV→List Entry→Option Out
 | [.one ⟨true,[.val (.string x0),.ref 0,.ref 1,.ref 2,.val (.string x1),.ref 3]⟩],[.row false 9 (.str) x2,.row false 9 (.str) x3,.row false 9 (.str) x4,.row false 204 (.pair (.str) (.sl 178 (.pair (.int .i64) (.pair (.str) (.int .i64))))) x5]=>some ⟨.one ⟨false,[.val (.bool (Gr x0 x1 x2 x3 x4 x5))]⟩,[.row false 9 aih x2,.row false 9 aih x3,.row false 9 aih x4,.row false 204 (CTy.pair CTy.str (CTy.sl (178:TypeId) acD)) x5],[],[Lo x0 x1 x2 x3 x4 x5]⟩
 |_,_=>none
def Rg:PF prog:=PF.ofG prog [MW,Sm,PF.lend Sm,PF.fz Sm,ci,PF.lend ci,PF.fz ci,py,PF.lend py,PF.fz py,NQ,PF.lend NQ,PF.fz NQ,sf,PF.lend sf,PF.fz sf] [] aN 183 f183 func183 (fun c _=>LOk.nil c) We (by
 intro vs es r h;unfold We at h;split at h
 ·cases h;kernel_rfl
 ·cases h)
section
variable (x2 x3 x4:List ByteArray)
def gO:List (List ByteArray):= [x2,x3,x4]
def aX:List ByteArray:=List.flatten (gO x2 x3 x4)
def lr:Bool:=allT [leN (List.length (gO x2 x3 x4)) (1000:Nat)&&leN (IJ (gO x2 x3 x4)) (2000000:Nat)]
end
def xg:List SV→List Entry→Option Out
 | [.one ⟨true,[.val (.string _x0),.ref 0,.ref 1,.ref 2,.val (.string _x1),.ref 3]⟩],[.row false 9 (.str) x2,.row false 9 (.str) x3,.row false 9 (.str) x4,.row false 204 (.pair (.str) (.sl 178 (.pair (.int .i64) (.pair (.str) (.int .i64))))) x5]=>some ⟨.one ⟨false,[.ref 4]⟩,[.row false 9 aih x2,.row false 9 aih x3,.row false 9 aih x4,.row false 204 (CTy.pair CTy.str (CTy.sl (178:TypeId) acD)) x5],[.row true 9 aih (aX x2 x3 x4)],[lr x2 x3 x4]⟩
 |_,_=>none
def eF:PF prog:=PF.ofG prog [ci,PF.lend ci,PF.fz ci] [] aN 233 f233 func233 (fun c _=>LOk.nil c) xg (by
 intro vs es r h;unfold xg at h;split at h
 ·cases h;kernel_rfl
 ·cases h)
section
variable (x0:Int)(x1:ByteArray)(x5 x6:List ByteArray)
def pF:Bool:=bif x0==(1:Int)then !mw x5 x1 else false
def pK:Bool:=bif pF x0 x1 x5 then !mw x6 x1 else false
def pL:Bool:=allT [!(x0==(1:Int)&&true)||leN x5.length (9223372036854775807:Nat),!(pF x0 x1 x5&&true)||leN x6.length (9223372036854775807:Nat)]
end
def pG:List SV→List Entry→Option Out
 | [.one ⟨true,[.val (.int .i64 x0),.val (.string x1),.val (.int .i64 _x2)]⟩,.one ⟨false,[.ptr 0 0]⟩],[.box 63 [.val (.string x3),.ref 1,.ref 2,.ref 3,.val (.string x4),.ref 4],.row false 9 (.str) x5,.row false 9 (.str) x6,.row false 9 (.str) x7,.row false 204 (.pair .str (.sl (178:Nat) (.pair (.int .i64) (.pair .str (.int .i64))))) x8]=>some ⟨.one ⟨false,[.val (.bool (pK x0 x1 x5 x6))]⟩,[.box 63 [.val (.string x3),.ref 1,.ref 2,.ref 3,.val (.string x4),.ref 4],.row false 9 aih x5,.row false 9 aih x6,.row false 9 aih x7,.row false 204 (CTy.pair CTy.str (CTy.sl (178:Nat) acD)) x8],[],[pL x0 x1 x5 x6]⟩
 |_,_=>none
def bW:PF prog:=PF.ofG prog [aF,PF.lend aF,PF.fz aF] [] aN 265 f265 func265 (fun c _=>LOk.nil c) pG (by
 intro vs es r h;unfold pG at h;split at h
 ·cases h;kernel_rfl
 ·cases h)
abbrev cT:=Int×Int×ByteArray×ByteArray×List (Int×(ByteArray×Int))×List ByteArray×List ByteArray×List ByteArray×List (ByteArray×(List (Int×(ByteArray×Int))))
section
variable (y0 y1:Int)(y4:List (Int×(ByteArray×Int)))(y5 y6:List ByteArray)
def mE:Int×ByteArray×Int:=Option.getD y4[Int.toNat y0]? ((0:Int),ByteArray.empty,(0:Int))
def LM:Bool:=ltI y0 y1
def LO:Bool:=leI (0:Int) y0
def LP:Bool:=ltI y0 (↑y4.length:Int)
def LQ:Bool:=ltN y0.toNat y4.length
def LR:Bool:=pL ((mE y0 y4).1) (((mE y0 y4).2).1) y5 y6
def LU:Bool:=pK ((mE y0 y4).1) (((mE y0 y4).2).1) y5 y6
def LV:Int:=IntKind.wrap .i64 (y0 + (1:Int))
end
def Kv:cT→List (Nat×SV)
 |(y0,y1,_,_,_,_,_,_,_)=> [(8,(.one ⟨false,[.val (.int .i64 y0)]⟩)),(7,(.one ⟨false,[.val (.int .i64 y1)]⟩)),(1,(.one ⟨false,[.clo 265 [0]]⟩)),(0,(.one ⟨false,[.ref 1]⟩))]
def Kq:cT→List (Nat×Entry)
 |(_,_,y2,y3,y4,y5,y6,y7,y8)=> [(0,(.box 63 [.val (.string y2),.ref 2,.ref 3,.ref 4,.val (.string y3),.ref 5])),(1,(.row false 178 acD y4)),(2,(.row false 9 aih y5)),(3,(.row false 9 aih y6)),(4,(.row false 9 aih y7)),(5,(.row false 204 (CTy.pair CTy.str (CTy.sl (178:Nat) acD)) y8))]
def KG:Nat→cT→List (Nat×SV)
 |0,(y0,_,_,_,_,_,_,_,_)=> [(4,(.one ⟨false,[.val (.int .i64 y0)]⟩))]
 |_,(_,_,_,_,_,_,_,_,_)=> []
def KB:Nat→cT→List (Nat×Entry)
 |0,(_,_,y2,y3,y4,y5,y6,y7,y8)=> [(0,(.box 63 [.val (.string y2),.ref 2,.ref 3,.ref 4,.val (.string y3),.ref 5])),(1,(.row false 178 acD y4)),(2,(.row false 9 aih y5)),(3,(.row false 9 aih y6)),(4,(.row false 9 aih y7)),(5,(.row false 204 (CTy.pair CTy.str (CTy.sl (178:Nat) acD)) y8))]
 |_,(_,_,y2,y3,y4,y5,y6,y7,y8)=> [(0,(.box 63 [.val (.string y2),.ref 2,.ref 3,.ref 4,.val (.string y3),.ref 5])),(1,(.row false 178 acD y4)),(2,(.row false 9 aih y5)),(3,(.row false 9 aih y6)),(4,(.row false 9 aih y7)),(5,(.row false 204 (CTy.pair CTy.str (CTy.sl (178:Nat) acD)) y8))]
def KO:cT→LT cT
 |(y0,y1,y2,y3,y4,y5,y6,y7,y8)=> .ite (LM y0 y1) (.need [LO y0,LP y0 y4,LQ y0 y4,LR y0 y4 y5 y6] (.ite (LU y0 y4 y5 y6) (.ext 0 [(0,0),(1,1),(2,2),(3,3),(4,4),(5,5)]) (.nrm ((LV y0),y1,y2,y3,y4,y5,y6,y7,y8) [(0,0),(1,1),(2,2),(3,3),(4,4),(5,5)]))) (.ext 1 [(0,0),(1,1),(2,2),(3,3),(4,4),(5,5)])
def rB(s:St):Option cT:=
 (match s.look 8 with
 |some ⟨none,.one ⟨false,[.val (.int .i64 y0)]⟩⟩=>
 (match s.look 7 with
 |some ⟨none,.one ⟨false,[.val (.int .i64 y1)]⟩⟩=>
 (match s.look 1 with
 |some ⟨none,.one ⟨false,[.clo 265 [1]]⟩⟩=>
 (match s.look 0 with
 |some ⟨none,.one ⟨false,[.ref 0]⟩⟩=>
 (match s.ent 1 with
 |some (.box 63 [.val (.string y2),.ref 2,.ref 3,.ref 4,.val (.string y3),.ref 5])=>
 (match s.ent 0 with
 |some (.row false 178 (.pair (.int .i64) (.pair .str (.int .i64))) y4)=>
 (match s.ent 2 with
 |some (.row false 9 (.str) y5)=>
 (match s.ent 3 with
 |some (.row false 9 (.str) y6)=>
 (match s.ent 4 with
 |some (.row false 9 (.str) y7)=>
 (match s.ent 5 with
 |some (.row false 204 (.pair .str (.sl (178:Nat) (.pair (.int .i64) (.pair .str (.int .i64))))) y8)=>
 some (y0,y1,y2,y3,y4,y5,y6,y7,y8)
 |_=>none)
 |_=>none)
 |_=>none)
 |_=>none)
 |_=>none)
 |_=>none)
 |_=>none)
 |_=>none)
 |_=>none)
 |_=>none)
def dA:Lp cT where
 h:=⟨[9,10,5,11,12,13,14,15,16,17,4,18,8],[0,1,2,3,4,5],[],[]⟩
 JL:=Kv
 JE:=Kq
 XL:=KG
 XE:=KB
 q:=fun j=>match j with | 0=> .ret | _=> .exit 0
 tags:= [0,1]
 lt:=KO
 fuel:=fun(y0,y1,y2,y3,y4,y5,y6,y7,y8)=>y0.natAbs + y1.natAbs + y2.size + y3.size + y4.length + y5.length + y6.length + y7.length + y8.length
 fix:=fun(_,y1,y2,y3,y4,y5,y6,y7,y8) (y0,_,_,_,_,_,_,_,_)=>(y0,y1,y2,y3,y4,y5,y6,y7,y8)
 σ:= [(0,1),(1,0),(2,2),(3,3),(4,4),(5,5)]
 rd:=rB
theorem Ji:LoopOk prog (fun k=>Nat.blt k Tryz.f214.ntmps) dA.F (aL f214 0):=by
 refine Lp.ok (tbl:= [bW,PF.lend bW,PF.fz bW]) (lf:= []) aN dA (by kernel_rfl) (LOk.nil _) (fun _=>rfl) (fun j _=>by unfold dA;match j with | 0=>rfl | _ + 1=>rfl) ?_ ?_ ?_ ?_ (fun _=>rfl) ?_
 ·rintro⟨y0,y1,y2,y3,y4,y5,y6,y7,y8⟩;kernel_rfl
 ·rintro⟨y0,y1,y2,y3,y4,y5,y6,y7,y8⟩;kernel_rfl
 ·intro s x h
  have h:rB s=some x:=h
  unfold rB at h
  repeat' split at h
  all_goals cases h
  exact⟨aa (by assumption) rfl (aa (by assumption) rfl (aa (by assumption) rfl (aa (by assumption) rfl (rfl)))),ab rfl (by assumption) rfl (ab rfl (by assumption) rfl (ab rfl (by assumption) rfl (ab rfl (by assumption) rfl (ab rfl (by assumption) rfl (ab rfl (by assumption) rfl (rfl))))))⟩
 ·rintro⟨y0,y1,y2,y3,y4,y5,y6,y7,y8⟩;kernel_rfl
 ·rintro⟨y0,y1,y2,y3,y4,y5,y6,y7,y8⟩ z;exact(And.intro (And.intro trivial rfl) trivial)
section
variable (x0:List (Int×ByteArray×Int))(x1 x2:ByteArray)(x3 x4 x5:List ByteArray)(x6:List (ByteArray×List (Int×ByteArray×Int)))
def tW:Int×Int×ByteArray×ByteArray×List (Int×ByteArray×Int)×List ByteArray×List ByteArray×List ByteArray×List (ByteArray×List (Int×ByteArray×Int)):=((0:Int),(↑x0.length:Int),x1,x2,x0,x3,x4,x5,x6)
def tX:Bool:=Nat.beq ((Lp.res dA (tW x0 x1 x2 x3 x4 x5 x6)).1) (0:Nat)
def Dg:Int:=bif tX x0 x1 x2 x3 x4 x5 x6 then ((Lp.res dA (tW x0 x1 x2 x3 x4 x5 x6)).2).1else(-1:Int)
def Dh:ByteArray:=bif tX x0 x1 x2 x3 x4 x5 x6 then x1 else x1
def Di:ByteArray:=bif tX x0 x1 x2 x3 x4 x5 x6 then x2 else x2
def Dj:Bool:=allT [Lp.fin dA (tW x0 x1 x2 x3 x4 x5 x6)]
end
def Cb:List SV→List Entry→Option Out
 | [.one ⟨false,[.ref 0]⟩,.one ⟨false,[.clo 265 [1]]⟩],[.row false 178 (.pair (.int .i64) (.pair .str (.int .i64))) x0,.box 63 [.val (.string x1),.ref 2,.ref 3,.ref 4,.val (.string x2),.ref 5],.row false 9 (.str) x3,.row false 9 (.str) x4,.row false 9 (.str) x5,.row false 204 (.pair .str (.sl (178:Nat) (.pair (.int .i64) (.pair .str (.int .i64))))) x6]=>some ⟨.one ⟨false,[.val (.int .i64 (Dg x0 x1 x2 x3 x4 x5 x6))]⟩,[.row false 178 acD x0,.box 63 [.val (.string (Dh x0 x1 x2 x3 x4 x5 x6)),.ref 2,.ref 3,.ref 4,.val (.string (Di x0 x1 x2 x3 x4 x5 x6)),.ref 5],.row false 9 aih x3,.row false 9 aih x4,.row false 9 aih x5,.row false 204 (CTy.pair CTy.str (CTy.sl (178:Nat) acD)) x6],[],[Dj x0 x1 x2 x3 x4 x5 x6]⟩
 |_,_=>none
def ut:PF prog:=PF.ofG prog [bW,PF.lend bW,PF.fz bW] [dA.F] aN 214 f214 func214 (LOk.fnT (l:= [aL f214 0]) (by kernel_rfl) (.cons Ji (.nil _))) Cb (by
 intro vs es r h;unfold Cb at h;split at h
 ·cases h;kernel_rfl
 ·cases h)
section
variable (x0:List (Int×ByteArray×Int))(x1 x2:ByteArray)(x3 x4 x5:List ByteArray)(x6:List (ByteArray×List (Int×ByteArray×Int)))
def Al:Bool:=leI (0:Int) (Dg x0 x1 x2 x3 x4 x5 x6)
def LI:ByteArray:=Dh x0 x1 x2 x3 x4 x5 x6
def LJ:ByteArray:=Di x0 x1 x2 x3 x4 x5 x6
def Am:Bool:=allT [Dj x0 x1 x2 x3 x4 x5 x6]
end
def zL:List SV→List Entry→Option Out
 | [.one ⟨false,[.ref 0]⟩,.one ⟨false,[.clo 265 [1]]⟩],[.row false 178 (.pair (.int .i64) (.pair .str (.int .i64))) x0,.box 63 [.val (.string x1),.ref 2,.ref 3,.ref 4,.val (.string x2),.ref 5],.row false 9 (.str) x3,.row false 9 (.str) x4,.row false 9 (.str) x5,.row false 204 (.pair .str (.sl (178:Nat) (.pair (.int .i64) (.pair .str (.int .i64))))) x6]=>some ⟨.one ⟨false,[.val (.bool (Al x0 x1 x2 x3 x4 x5 x6))]⟩,[.row false 178 acD x0,.box 63 [.val (.string (LI x0 x1 x2 x3 x4 x5 x6)),.ref 2,.ref 3,.ref 4,.val (.string (LJ x0 x1 x2 x3 x4 x5 x6)),.ref 5],.row false 9 aih x3,.row false 9 aih x4,.row false 9 aih x5,.row false 204 (CTy.pair CTy.str (CTy.sl (178:Nat) acD)) x6],[],[Am x0 x1 x2 x3 x4 x5 x6]⟩
 |_,_=>none
def sg:PF prog:=PF.ofG prog [ut,PF.lend ut,PF.fz ut] [] aN 159 f159 func159 (fun c _=>LOk.nil c) zL (by
 intro vs es r h;unfold zL at h;split at h
 ·cases h;kernel_rfl
 ·cases h)
def Fs(x0 x1:ByteArray)(x3 x4 x5:List ByteArray)(x6:List (ByteArray×List (Int×ByteArray×Int)))(x7:List (Int×ByteArray×Int)):Bool:=Al x7 x0 x1 x3 x4 x5 x6
def Ft(x0 x1:ByteArray)(x3 x4 x5:List ByteArray)(x6:List (ByteArray×List (Int×ByteArray×Int)))(x7:List (Int×ByteArray×Int)):Bool:=allT [Am x7 x0 x1 x3 x4 x5 x6]
def tQ:List SV→List Entry→Option Out
 | [.one ⟨true,[.val (.string x0),.ref 0,.ref 1,.ref 2,.val (.string x1),.ref 3]⟩,.one ⟨true,[.val (.string _x2),.ref 4]⟩],[.row false 9 (.str) x3,.row false 9 (.str) x4,.row false 9 (.str) x5,.row false 204 (.pair (.str) (.sl 178 (.pair (.int .i64) (.pair (.str) (.int .i64))))) x6,.row false 178 (.pair (.int .i64) (.pair (.str) (.int .i64))) x7]=>some ⟨.one ⟨false,[.val (.bool (Fs x0 x1 x3 x4 x5 x6 x7))]⟩,[.row false 9 aih x3,.row false 9 aih x4,.row false 9 aih x5,.row false 204 (CTy.pair CTy.str (CTy.sl (178:TypeId) acD)) x6,.row false 178 acD x7],[],[Ft x0 x1 x3 x4 x5 x6 x7]⟩
 |_,_=>none
def dd:PF prog:=PF.ofG prog [sg,PF.lend sg,PF.fz sg] [] aN 238 f238 func238 (fun c _=>LOk.nil c) tQ (by
 intro vs es r h;unfold tQ at h;split at h
 ·cases h;kernel_rfl
 ·cases h)
def mm(x0:ByteArray)(x1:List ByteArray):Bool:= !mw x1 x0
def mn(x1:List ByteArray):Bool:=allT [leN x1.length (9223372036854775807:Nat)]
def sH:List SV→List Entry→Option Out
 | [.one ⟨false,[.val (.string x0)]⟩,.one ⟨false,[.ptr 0 0]⟩],[.box 60 [.ref 1],.row true 9 (.str) x1]=>some ⟨.one ⟨false,[.val (.bool (mm x0 x1))]⟩,[.box 60 [.ref 1],.row true 9 aih x1],[],[mn x1]⟩
 |_,_=>none
def cP:PF prog:=PF.ofG prog [aF,PF.lend aF,PF.fz aF] [] aN 236 f236 func236 (fun c _=>LOk.nil c) sH (by
 intro vs es r h;unfold sH at h;split at h
 ·cases h;kernel_rfl
 ·cases h)
abbrev bn:=Int×Int×List ByteArray×List ByteArray
section
variable (y0 y1:Int)(y2 y3:List ByteArray)
def gX:Bool:=ltI y0 y1
def gY:Bool:=leI (0:Int) y0
def gZ:Bool:=ltI y0 (↑y2.length:Int)
def hY:Bool:=ltN y0.toNat y2.length
def dS:Bool:=mn y3
def hZ:Bool:=mm (Option.getD y2[Int.toNat y0]? ByteArray.empty) y3
def kY:Int:=IntKind.wrap .i64 (y0 + (1:Int))
end
def HD:bn→List (Nat×SV)
 |(y0,y1,_,_)=> [(8,(.one ⟨false,[.val (.int .i64 y0)]⟩)),(7,(.one ⟨false,[.val (.int .i64 y1)]⟩)),(1,(.one ⟨false,[.clo 236 [0]]⟩)),(0,(.one ⟨false,[.ref 1]⟩))]
def HA:bn→List (Nat×Entry)
 |(_,_,y2,y3)=> [(0,(.box 60 [.ref 2])),(1,(.row true 9 aih y2)),(2,(.row true 9 aih y3))]
def HJ:Nat→bn→List (Nat×SV)
 |0,(y0,_,_,_)=> [(4,(.one ⟨false,[.val (.int .i64 y0)]⟩))]
 |_,(_,_,_,_)=> []
def HG:Nat→bn→List (Nat×Entry)
 |0,(_,_,y2,y3)=> [(0,(.box 60 [.ref 2])),(1,(.row true 9 aih y2)),(2,(.row true 9 aih y3))]
 |_,(_,_,y2,y3)=> [(0,(.box 60 [.ref 2])),(1,(.row true 9 aih y2)),(2,(.row true 9 aih y3))]
def gE:bn→LT bn
 |(y0,y1,y2,y3)=> .ite (gX y0 y1) (.need [gY y0,gZ y0 y2,hY y0 y2,dS y3] (.ite (hZ y0 y2 y3) (.ext 0 [(0,0),(1,1),(2,2)]) (.nrm ((kY y0),y1,y2,y3) [(0,0),(1,1),(2,2)]))) (.ext 1 [(0,0),(1,1),(2,2)])
def pD(s:St):Option bn:=
 (match s.look 8 with
 |some ⟨none,.one ⟨false,[.val (.int .i64 y0)]⟩⟩=>
 (match s.look 7 with
 |some ⟨none,.one ⟨false,[.val (.int .i64 y1)]⟩⟩=>
 (match s.look 1 with
 |some ⟨none,.one ⟨false,[.clo 236 [1]]⟩⟩=>
 (match s.look 0 with
 |some ⟨none,.one ⟨false,[.ref 0]⟩⟩=>
 (match s.ent 1 with
 |some (.box 60 [.ref 2])=>
 (match s.ent 0 with
 |some (.row true 9 (.str) y2)=>
 (match s.ent 2 with
 |some (.row true 9 (.str) y3)=>
 some (y0,y1,y2,y3)
 |_=>none)
 |_=>none)
 |_=>none)
 |_=>none)
 |_=>none)
 |_=>none)
 |_=>none)
def ah:Lp bn where
 h:=⟨[9,10,5,11,12,13,14,15,16,17,4,18,8],[0,1,2],[],[]⟩
 JL:=HD
 JE:=HA
 XL:=HJ
 XE:=HG
 q:=fun j=>match j with | 0=> .ret | _=> .exit 0
 tags:= [0,1]
 lt:=gE
 fuel:=fun(y0,y1,y2,y3)=>y0.natAbs + y1.natAbs + y2.length + y3.length
 fix:=fun(_,y1,y2,y3) (y0,_,_,_)=>(y0,y1,y2,y3)
 σ:= [(0,1),(1,0),(2,2)]
 rd:=pD
theorem GJ:LoopOk prog (fun k=>Nat.blt k Tryz.f264.ntmps) ah.F (aL f264 0):=by
 refine Lp.ok (tbl:= [cP,PF.lend cP,PF.fz cP]) (lf:= []) aN ah (by kernel_rfl) (LOk.nil _) (fun _=>rfl) (fun j _=>by unfold ah;match j with | 0=>rfl | _ + 1=>rfl) ?_ ?_ ?_ ?_ (fun _=>rfl) ?_
 ·rintro⟨y0,y1,y2,y3⟩;kernel_rfl
 ·rintro⟨y0,y1,y2,y3⟩;kernel_rfl
 ·intro s x h
  have h:pD s=some x:=h
  unfold pD at h
  repeat' split at h
  all_goals cases h
  exact⟨aa (by assumption) rfl (aa (by assumption) rfl (aa (by assumption) rfl (aa (by assumption) rfl (rfl)))),ab rfl (by assumption) rfl (ab rfl (by assumption) rfl (ab rfl (by assumption) rfl (rfl)))⟩
 ·rintro⟨y0,y1,y2,y3⟩;kernel_rfl
 ·rintro⟨y0,y1,y2,y3⟩ z;exact(And.intro (And.intro trivial rfl) trivial)
section
variable (x0 x1:List ByteArray)
def iL:Int×Int×List ByteArray×List ByteArray:=((0:Int),(↑x0.length:Int),x0,x1)
def mf:Bool:=Nat.beq ((Lp.res ah (iL x0 x1)).1) (0:Nat)
def rF:Int:=bif mf x0 x1 then ((Lp.res ah (iL x0 x1)).2).1else(-1:Int)
def zl:List ByteArray:=bif mf x0 x1 then x0 else x0
def zm:List ByteArray:=bif mf x0 x1 then x1 else x1
def rG:Bool:=allT [Lp.fin ah (iL x0 x1)]
end
def yE:List SV→List Entry→Option Out
 | [.one ⟨false,[.ref 0]⟩,.one ⟨false,[.clo 236 [1]]⟩],[.row true 9 (.str) x0,.box 60 [.ref 2],.row true 9 (.str) x1]=>some ⟨.one ⟨false,[.val (.int .i64 (rF x0 x1))]⟩,[.row true 9 aih (zl x0 x1),.box 60 [.ref 2],.row true 9 aih (zm x0 x1)],[],[rG x0 x1]⟩
 |_,_=>none
def rq:PF prog:=PF.ofG prog [cP,PF.lend cP,PF.fz cP] [ah.F] aN 264 f264 func264 (LOk.fnT (l:= [aL f264 0]) (by kernel_rfl) (.cons GJ (.nil _))) yE (by
 intro vs es r h;unfold yE at h;split at h
 ·cases h;kernel_rfl
 ·cases h)
section
variable (x0 x1:List ByteArray)
def cX:Bool:=leI (0:Int) (rF x0 x1)
def cj:List ByteArray:=zl x0 x1
def kU:List ByteArray:=zm x0 x1
def kV:Bool:=allT [rG x0 x1]
end
def wR:List SV→List Entry→Option Out
 | [.one ⟨false,[.ref 0]⟩,.one ⟨false,[.clo 236 [1]]⟩],[.row true 9 (.str) x0,.box 60 [.ref 2],.row true 9 (.str) x1]=>some ⟨.one ⟨false,[.val (.bool (cX x0 x1))]⟩,[.row true 9 aih (cj x0 x1),.box 60 [.ref 2],.row true 9 aih (kU x0 x1)],[],[kV x0 x1]⟩
 |_,_=>none
def dQ:PF prog:=PF.ofG prog [rq,PF.lend rq,PF.fz rq] [] aN 235 f235 func235 (fun c _=>LOk.nil c) wR (by
 intro vs es r h;unfold wR at h;split at h
 ·cases h;kernel_rfl
 ·cases h)
def mo(x0:ByteArray)(x1:List ByteArray):Bool:= !mw x1 x0
def mp(x1:List ByteArray):Bool:=allT [leN x1.length (9223372036854775807:Nat)]
def sI:List SV→List Entry→Option Out
 | [.one ⟨false,[.val (.string x0)]⟩,.one ⟨false,[.ptr 0 0]⟩],[.box 60 [.ref 1],.row true 9 (.str) x1]=>some ⟨.one ⟨false,[.val (.bool (mo x0 x1))]⟩,[.box 60 [.ref 1],.row true 9 aih x1],[],[mp x1]⟩
 |_,_=>none
def cQ:PF prog:=PF.ofG prog [aF,PF.lend aF,PF.fz aF] [] aN 237 f237 func237 (fun c _=>LOk.nil c) sI (by
 intro vs es r h;unfold sI at h;split at h
 ·cases h;kernel_rfl
 ·cases h)
abbrev bo:=Int×Int×List ByteArray×List ByteArray
section
variable (y0 y1:Int)(y2 y3:List ByteArray)
def ia:Bool:=ltI y0 y1
def ib:Bool:=leI (0:Int) y0
def ic:Bool:=ltI y0 (↑y2.length:Int)
def ie:Bool:=ltN y0.toNat y2.length
def dU:Bool:=mp y3
def ig:Bool:=mo (Option.getD y2[Int.toNat y0]? ByteArray.empty) y3
def kZ:Int:=IntKind.wrap .i64 (y0 + (1:Int))
end
def HE:bo→List (Nat×SV)
 |(y0,y1,_,_)=> [(8,(.one ⟨false,[.val (.int .i64 y0)]⟩)),(7,(.one ⟨false,[.val (.int .i64 y1)]⟩)),(1,(.one ⟨false,[.clo 237 [0]]⟩)),(0,(.one ⟨false,[.ref 1]⟩))]
def HB:bo→List (Nat×Entry)
 |(_,_,y2,y3)=> [(0,(.box 60 [.ref 2])),(1,(.row true 9 aih y2)),(2,(.row true 9 aih y3))]
def HK:Nat→bo→List (Nat×SV)
 |0,(y0,_,_,_)=> [(4,(.one ⟨false,[.val (.int .i64 y0)]⟩))]
 |_,(_,_,_,_)=> []
def HH:Nat→bo→List (Nat×Entry)
 |0,(_,_,y2,y3)=> [(0,(.box 60 [.ref 2])),(1,(.row true 9 aih y2)),(2,(.row true 9 aih y3))]
 |_,(_,_,y2,y3)=> [(0,(.box 60 [.ref 2])),(1,(.row true 9 aih y2)),(2,(.row true 9 aih y3))]
def gF:bo→LT bo
 |(y0,y1,y2,y3)=> .ite (ia y0 y1) (.need [ib y0,ic y0 y2,ie y0 y2,dU y3] (.ite (ig y0 y2 y3) (.ext 0 [(0,0),(1,1),(2,2)]) (.nrm ((kZ y0),y1,y2,y3) [(0,0),(1,1),(2,2)]))) (.ext 1 [(0,0),(1,1),(2,2)])
def pE(s:St):Option bo:=
 (match s.look 8 with
 |some ⟨none,.one ⟨false,[.val (.int .i64 y0)]⟩⟩=>
 (match s.look 7 with
 |some ⟨none,.one ⟨false,[.val (.int .i64 y1)]⟩⟩=>
 (match s.look 1 with
 |some ⟨none,.one ⟨false,[.clo 237 [1]]⟩⟩=>
 (match s.look 0 with
 |some ⟨none,.one ⟨false,[.ref 0]⟩⟩=>
 (match s.ent 1 with
 |some (.box 60 [.ref 2])=>
 (match s.ent 0 with
 |some (.row true 9 (.str) y2)=>
 (match s.ent 2 with
 |some (.row true 9 (.str) y3)=>
 some (y0,y1,y2,y3)
 |_=>none)
 |_=>none)
 |_=>none)
 |_=>none)
 |_=>none)
 |_=>none)
 |_=>none)
def ai:Lp bo where
 h:=⟨[9,10,5,11,12,13,14,15,16,17,4,18,8],[0,1,2],[],[]⟩
 JL:=HE
 JE:=HB
 XL:=HK
 XE:=HH
 q:=fun j=>match j with | 0=> .ret | _=> .exit 0
 tags:= [0,1]
 lt:=gF
 fuel:=fun(y0,y1,y2,y3)=>y0.natAbs + y1.natAbs + y2.length + y3.length
 fix:=fun(_,y1,y2,y3) (y0,_,_,_)=>(y0,y1,y2,y3)
 σ:= [(0,1),(1,0),(2,2)]
 rd:=pE
theorem GK:LoopOk prog (fun k=>Nat.blt k Tryz.f264.ntmps) ai.F (aL f264 0):=by
 refine Lp.ok (tbl:= [cQ,PF.lend cQ,PF.fz cQ]) (lf:= []) aN ai (by kernel_rfl) (LOk.nil _) (fun _=>rfl) (fun j _=>by unfold ai;match j with | 0=>rfl | _ + 1=>rfl) ?_ ?_ ?_ ?_ (fun _=>rfl) ?_
 ·rintro⟨y0,y1,y2,y3⟩;kernel_rfl
 ·rintro⟨y0,y1,y2,y3⟩;kernel_rfl
 ·intro s x h
  have h:pE s=some x:=h
  unfold pE at h
  repeat' split at h
  all_goals cases h
  exact⟨aa (by assumption) rfl (aa (by assumption) rfl (aa (by assumption) rfl (aa (by assumption) rfl (rfl)))),ab rfl (by assumption) rfl (ab rfl (by assumption) rfl (ab rfl (by assumption) rfl (rfl)))⟩
 ·rintro⟨y0,y1,y2,y3⟩;kernel_rfl
 ·rintro⟨y0,y1,y2,y3⟩ z;exact(And.intro (And.intro trivial rfl) trivial)
section
variable (x0 x1:List ByteArray)
def iM:Int×Int×List ByteArray×List ByteArray:=((0:Int),(↑x0.length:Int),x0,x1)
def mg:Bool:=Nat.beq ((Lp.res ai (iM x0 x1)).1) (0:Nat)
def rH:Int:=bif mg x0 x1 then ((Lp.res ai (iM x0 x1)).2).1else(-1:Int)
def zo:List ByteArray:=bif mg x0 x1 then x0 else x0
def zp:List ByteArray:=bif mg x0 x1 then x1 else x1
def rI:Bool:=allT [Lp.fin ai (iM x0 x1)]
end
def yF:List SV→List Entry→Option Out
 | [.one ⟨false,[.ref 0]⟩,.one ⟨false,[.clo 237 [1]]⟩],[.row true 9 (.str) x0,.box 60 [.ref 2],.row true 9 (.str) x1]=>some ⟨.one ⟨false,[.val (.int .i64 (rH x0 x1))]⟩,[.row true 9 aih (zo x0 x1),.box 60 [.ref 2],.row true 9 aih (zp x0 x1)],[],[rI x0 x1]⟩
 |_,_=>none
def rr:PF prog:=PF.ofG prog [cQ,PF.lend cQ,PF.fz cQ] [ai.F] aN 264 f264 func264 (LOk.fnT (l:= [aL f264 0]) (by kernel_rfl) (.cons GK (.nil _))) yF (by
 intro vs es r h;unfold yF at h;split at h
 ·cases h;kernel_rfl
 ·cases h)
section
variable (x0 x1:List ByteArray)
def kW:Bool:=leI (0:Int) (rH x0 x1)
def wZ:List ByteArray:=zo x0 x1
def xa:List ByteArray:=zp x0 x1
def kX:Bool:=allT [rI x0 x1]
end
def wS:List SV→List Entry→Option Out
 | [.one ⟨false,[.ref 0]⟩,.one ⟨false,[.clo 237 [1]]⟩],[.row true 9 (.str) x0,.box 60 [.ref 2],.row true 9 (.str) x1]=>some ⟨.one ⟨false,[.val (.bool (kW x0 x1))]⟩,[.row true 9 aih (wZ x0 x1),.box 60 [.ref 2],.row true 9 aih (xa x0 x1)],[],[kX x0 x1]⟩
 |_,_=>none
def dR:PF prog:=PF.ofG prog [rr,PF.lend rr,PF.fz rr] [] aN 235 f235 func235 (fun c _=>LOk.nil c) wS (by
 intro vs es r h;unfold wS at h;split at h
 ·cases h;kernel_rfl
 ·cases h)
section
variable (x0:Int)(x1:ByteArray)(x5 x6:List ByteArray)
def jp:Bool:=bif x0==(1:Int)then !mw x5 x1 else false
def eT:Bool:=bif jp x0 x1 x5 then !mw x6 x1 else false
def jT:Bool:=allT [!(x0==(1:Int)&&true)||leN x5.length (9223372036854775807:Nat),!(jp x0 x1 x5&&true)||leN x6.length (9223372036854775807:Nat)]
end
def pH:List SV→List Entry→Option Out
 | [.one ⟨true,[.val (.int .i64 x0),.val (.string x1),.val (.int .i64 _x2)]⟩,.one ⟨false,[.ptr 0 0]⟩],[.box 63 [.val (.string x3),.ref 1,.ref 2,.ref 3,.val (.string x4),.ref 4],.row false 9 (.str) x5,.row false 9 (.str) x6,.row false 9 (.str) x7,.row false 204 (.pair .str (.sl (178:Nat) (.pair (.int .i64) (.pair .str (.int .i64))))) x8]=>some ⟨.one ⟨false,[.val (.bool (eT x0 x1 x5 x6))]⟩,[.box 63 [.val (.string x3),.ref 1,.ref 2,.ref 3,.val (.string x4),.ref 4],.row false 9 aih x5,.row false 9 aih x6,.row false 9 aih x7,.row false 204 (CTy.pair CTy.str (CTy.sl (178:Nat) acD)) x8],[],[jT x0 x1 x5 x6]⟩
 |_,_=>none
def bX:PF prog:=PF.ofG prog [aF,PF.lend aF,PF.fz aF] [] aN 265 f265 func265 (fun c _=>LOk.nil c) pH (by
 intro vs es r h;unfold pH at h;split at h
 ·cases h;kernel_rfl
 ·cases h)
abbrev bG:=Int×Int×ByteArray×ByteArray×List (Int×(ByteArray×Int))×List ByteArray×List ByteArray×List ByteArray×List (ByteArray×(List (Int×(ByteArray×Int))))
section
variable (y0 y1:Int)(y4:List (Int×(ByteArray×Int)))(y5 y6:List ByteArray)
def bA:Int×ByteArray×Int:=Option.getD y4[Int.toNat y0]? ((0:Int),ByteArray.empty,(0:Int))
def jL:Bool:=ltI y0 y1
def nF:Bool:=leI (0:Int) y0
def nG:Bool:=ltI y0 (↑y4.length:Int)
def nH:Bool:=ltN y0.toNat y4.length
def jM:Bool:=jT ((bA y0 y4).1) (((bA y0 y4).2).1) y5 y6
def jN:Bool:=eT ((bA y0 y4).1) (((bA y0 y4).2).1) y5 y6
def sA:Int:=IntKind.wrap .i64 (y0 + (1:Int))
end
def Kw:bG→List (Nat×SV)
 |(y0,y1,_,_,_,_,_,_,_)=> [(8,(.one ⟨false,[.val (.int .i64 y0)]⟩)),(7,(.one ⟨false,[.val (.int .i64 y1)]⟩)),(1,(.one ⟨false,[.clo 265 [0]]⟩)),(0,(.one ⟨false,[.ref 1]⟩))]
def Kr:bG→List (Nat×Entry)
 |(_,_,y2,y3,y4,y5,y6,y7,y8)=> [(0,(.box 63 [.val (.string y2),.ref 2,.ref 3,.ref 4,.val (.string y3),.ref 5])),(1,(.row false 178 acD y4)),(2,(.row false 9 aih y5)),(3,(.row false 9 aih y6)),(4,(.row false 9 aih y7)),(5,(.row false 204 (CTy.pair CTy.str (CTy.sl (178:Nat) acD)) y8))]
def KH:Nat→bG→List (Nat×SV)
 |0,(y0,_,_,_,_,_,_,_,_)=> [(4,(.one ⟨false,[.val (.int .i64 y0)]⟩))]
 |_,(_,_,_,_,_,_,_,_,_)=> []
def KC:Nat→bG→List (Nat×Entry)
 |0,(_,_,y2,y3,y4,y5,y6,y7,y8)=> [(0,(.box 63 [.val (.string y2),.ref 2,.ref 3,.ref 4,.val (.string y3),.ref 5])),(1,(.row false 178 acD y4)),(2,(.row false 9 aih y5)),(3,(.row false 9 aih y6)),(4,(.row false 9 aih y7)),(5,(.row false 204 (CTy.pair CTy.str (CTy.sl (178:Nat) acD)) y8))]
 |_,(_,_,y2,y3,y4,y5,y6,y7,y8)=> [(0,(.box 63 [.val (.string y2),.ref 2,.ref 3,.ref 4,.val (.string y3),.ref 5])),(1,(.row false 178 acD y4)),(2,(.row false 9 aih y5)),(3,(.row false 9 aih y6)),(4,(.row false 9 aih y7)),(5,(.row false 204 (CTy.pair CTy.str (CTy.sl (178:Nat) acD)) y8))]
def jm:bG→LT bG
 |(y0,y1,y2,y3,y4,y5,y6,y7,y8)=> .ite (jL y0 y1) (.need [nF y0,nG y0 y4,nH y0 y4,jM y0 y4 y5 y6] (.ite (jN y0 y4 y5 y6) (.ext 0 [(0,0),(1,1),(2,2),(3,3),(4,4),(5,5)]) (.nrm ((sA y0),y1,y2,y3,y4,y5,y6,y7,y8) [(0,0),(1,1),(2,2),(3,3),(4,4),(5,5)]))) (.ext 1 [(0,0),(1,1),(2,2),(3,3),(4,4),(5,5)])
def rC(s:St):Option bG:=
 (match s.look 8 with
 |some ⟨none,.one ⟨false,[.val (.int .i64 y0)]⟩⟩=>
 (match s.look 7 with
 |some ⟨none,.one ⟨false,[.val (.int .i64 y1)]⟩⟩=>
 (match s.look 1 with
 |some ⟨none,.one ⟨false,[.clo 265 [1]]⟩⟩=>
 (match s.look 0 with
 |some ⟨none,.one ⟨false,[.ref 0]⟩⟩=>
 (match s.ent 1 with
 |some (.box 63 [.val (.string y2),.ref 2,.ref 3,.ref 4,.val (.string y3),.ref 5])=>
 (match s.ent 0 with
 |some (.row false 178 (.pair (.int .i64) (.pair .str (.int .i64))) y4)=>
 (match s.ent 2 with
 |some (.row false 9 (.str) y5)=>
 (match s.ent 3 with
 |some (.row false 9 (.str) y6)=>
 (match s.ent 4 with
 |some (.row false 9 (.str) y7)=>
 (match s.ent 5 with
 |some (.row false 204 (.pair .str (.sl (178:Nat) (.pair (.int .i64) (.pair .str (.int .i64))))) y8)=>
 some (y0,y1,y2,y3,y4,y5,y6,y7,y8)
 |_=>none)
 |_=>none)
 |_=>none)
 |_=>none)
 |_=>none)
 |_=>none)
 |_=>none)
 |_=>none)
 |_=>none)
 |_=>none)
def aD:Lp bG where
 h:=⟨[9,10,5,11,12,13,14,15,16,17,4,18,8],[0,1,2,3,4,5],[],[]⟩
 JL:=Kw
 JE:=Kr
 XL:=KH
 XE:=KC
 q:=fun j=>match j with | 0=> .ret | _=> .exit 0
 tags:= [0,1]
 lt:=jm
 fuel:=fun(y0,y1,y2,y3,y4,y5,y6,y7,y8)=>y0.natAbs + y1.natAbs + y2.size + y3.size + y4.length + y5.length + y6.length + y7.length + y8.length
 fix:=fun(_,y1,y2,y3,y4,y5,y6,y7,y8) (y0,_,_,_,_,_,_,_,_)=>(y0,y1,y2,y3,y4,y5,y6,y7,y8)
 σ:= [(0,1),(1,0),(2,2),(3,3),(4,4),(5,5)]
 rd:=rC
theorem Jj:LoopOk prog (fun k=>Nat.blt k Tryz.f214.ntmps) aD.F (aL f214 0):=by
 refine Lp.ok (tbl:= [bX,PF.lend bX,PF.fz bX]) (lf:= []) aN aD (by kernel_rfl) (LOk.nil _) (fun _=>rfl) (fun j _=>by unfold aD;match j with | 0=>rfl | _ + 1=>rfl) ?_ ?_ ?_ ?_ (fun _=>rfl) ?_
 ·rintro⟨y0,y1,y2,y3,y4,y5,y6,y7,y8⟩;kernel_rfl
 ·rintro⟨y0,y1,y2,y3,y4,y5,y6,y7,y8⟩;kernel_rfl
 ·intro s x h
  have h:rC s=some x:=h
  unfold rC at h
  repeat' split at h
  all_goals cases h
  exact⟨aa (by assumption) rfl (aa (by assumption) rfl (aa (by assumption) rfl (aa (by assumption) rfl (rfl)))),ab rfl (by assumption) rfl (ab rfl (by assumption) rfl (ab rfl (by assumption) rfl (ab rfl (by assumption) rfl (ab rfl (by assumption) rfl (ab rfl (by assumption) rfl (rfl))))))⟩
 ·rintro⟨y0,y1,y2,y3,y4,y5,y6,y7,y8⟩;kernel_rfl
 ·rintro⟨y0,y1,y2,y3,y4,y5,y6,y7,y8⟩ z;exact(And.intro (And.intro trivial rfl) trivial)
section
variable (x0:List (Int×ByteArray×Int))(x1 x2:ByteArray)(x3 x4 x5:List ByteArray)(x6:List (ByteArray×List (Int×ByteArray×Int)))
def kw:Int×Int×ByteArray×ByteArray×List (Int×ByteArray×Int)×List ByteArray×List ByteArray×List ByteArray×List (ByteArray×List (Int×ByteArray×Int)):=((0:Int),(↑x0.length:Int),x1,x2,x0,x3,x4,x5,x6)
def oS:Bool:=Nat.beq ((Lp.res aD (kw x0 x1 x2 x3 x4 x5 x6)).1) (0:Nat)
def uB:Int:=bif oS x0 x1 x2 x3 x4 x5 x6 then ((Lp.res aD (kw x0 x1 x2 x3 x4 x5 x6)).2).1else(-1:Int)
def Dk:ByteArray:=bif oS x0 x1 x2 x3 x4 x5 x6 then x1 else x1
def Dm:ByteArray:=bif oS x0 x1 x2 x3 x4 x5 x6 then x2 else x2
def uC:Bool:=allT [Lp.fin aD (kw x0 x1 x2 x3 x4 x5 x6)]
end
def Cc:List SV→List Entry→Option Out
 | [.one ⟨false,[.ref 0]⟩,.one ⟨false,[.clo 265 [1]]⟩],[.row false 178 (.pair (.int .i64) (.pair .str (.int .i64))) x0,.box 63 [.val (.string x1),.ref 2,.ref 3,.ref 4,.val (.string x2),.ref 5],.row false 9 (.str) x3,.row false 9 (.str) x4,.row false 9 (.str) x5,.row false 204 (.pair .str (.sl (178:Nat) (.pair (.int .i64) (.pair .str (.int .i64))))) x6]=>some ⟨.one ⟨false,[.val (.int .i64 (uB x0 x1 x2 x3 x4 x5 x6))]⟩,[.row false 178 acD x0,.box 63 [.val (.string (Dk x0 x1 x2 x3 x4 x5 x6)),.ref 2,.ref 3,.ref 4,.val (.string (Dm x0 x1 x2 x3 x4 x5 x6)),.ref 5],.row false 9 aih x3,.row false 9 aih x4,.row false 9 aih x5,.row false 204 (CTy.pair CTy.str (CTy.sl (178:Nat) acD)) x6],[],[uC x0 x1 x2 x3 x4 x5 x6]⟩
 |_,_=>none
def uu:PF prog:=PF.ofG prog [bX,PF.lend bX,PF.fz bX] [aD.F] aN 214 f214 func214 (LOk.fnT (l:= [aL f214 0]) (by kernel_rfl) (.cons Jj (.nil _))) Cc (by
 intro vs es r h;unfold Cc at h;split at h
 ·cases h;kernel_rfl
 ·cases h)
section
variable (x0:List (Int×ByteArray×Int))(x1 x2:ByteArray)(x3 x4 x5:List ByteArray)(x6:List (ByteArray×List (Int×ByteArray×Int)))
def sv:Bool:=leI (0:Int) (uB x0 x1 x2 x3 x4 x5 x6)
def LK:ByteArray:=Dk x0 x1 x2 x3 x4 x5 x6
def LL:ByteArray:=Dm x0 x1 x2 x3 x4 x5 x6
def sw:Bool:=allT [uC x0 x1 x2 x3 x4 x5 x6]
end
def zM:List SV→List Entry→Option Out
 | [.one ⟨false,[.ref 0]⟩,.one ⟨false,[.clo 265 [1]]⟩],[.row false 178 (.pair (.int .i64) (.pair .str (.int .i64))) x0,.box 63 [.val (.string x1),.ref 2,.ref 3,.ref 4,.val (.string x2),.ref 5],.row false 9 (.str) x3,.row false 9 (.str) x4,.row false 9 (.str) x5,.row false 204 (.pair .str (.sl (178:Nat) (.pair (.int .i64) (.pair .str (.int .i64))))) x6]=>some ⟨.one ⟨false,[.val (.bool (sv x0 x1 x2 x3 x4 x5 x6))]⟩,[.row false 178 acD x0,.box 63 [.val (.string (LK x0 x1 x2 x3 x4 x5 x6)),.ref 2,.ref 3,.ref 4,.val (.string (LL x0 x1 x2 x3 x4 x5 x6)),.ref 5],.row false 9 aih x3,.row false 9 aih x4,.row false 9 aih x5,.row false 204 (CTy.pair CTy.str (CTy.sl (178:Nat) acD)) x6],[],[sw x0 x1 x2 x3 x4 x5 x6]⟩
 |_,_=>none
def si:PF prog:=PF.ofG prog [uu,PF.lend uu,PF.fz uu] [] aN 159 f159 func159 (fun c _=>LOk.nil c) zM (by
 intro vs es r h;unfold zM at h;split at h
 ·cases h;kernel_rfl
 ·cases h)
def dq(x0 x1:ByteArray)(x3 x4 x5:List ByteArray)(x6:List (ByteArray×List (Int×ByteArray×Int)))(x7:List (Int×ByteArray×Int)):Bool:=sv x7 x0 x1 x3 x4 x5 x6
def fy(x0 x1:ByteArray)(x3 x4 x5:List ByteArray)(x6:List (ByteArray×List (Int×ByteArray×Int)))(x7:List (Int×ByteArray×Int)):Bool:=allT [sw x7 x0 x1 x3 x4 x5 x6]
def qy:List SV→List Entry→Option Out
 | [.one ⟨true,[.val (.string x0),.ref 0,.ref 1,.ref 2,.val (.string x1),.ref 3]⟩,.one ⟨true,[.val (.string _x2),.ref 4]⟩],[.row false 9 (.str) x3,.row false 9 (.str) x4,.row false 9 (.str) x5,.row false 204 (.pair .str (.sl (178:Nat) (.pair (.int .i64) (.pair .str (.int .i64))))) x6,.row false 178 (.pair (.int .i64) (.pair .str (.int .i64))) x7]=>some ⟨.one ⟨false,[.val (.bool (dq x0 x1 x3 x4 x5 x6 x7))]⟩,[.row false 9 aih x3,.row false 9 aih x4,.row false 9 aih x5,.row false 204 (CTy.pair CTy.str (CTy.sl (178:Nat) acD)) x6,.row false 178 acD x7],[],[fy x0 x1 x3 x4 x5 x6 x7]⟩
 |_,_=>none
def cn:PF prog:=PF.ofG prog [si,PF.lend si,PF.fz si] [] aN 238 f238 func238 (fun c _=>LOk.nil c) qy (by
 intro vs es r h;unfold qy at h;split at h
 ·cases h;kernel_rfl
 ·cases h)
abbrev bF:=Int×Int×ByteArray×ByteArray×List ByteArray×List ByteArray×List ByteArray×List (ByteArray×(List (Int×(ByteArray×Int))))
def cJ(y0:Int)(y7:List (ByteArray×(List (Int×(ByteArray×Int))))):List (Int×ByteArray×Int):=(Option.getD y7[Int.toNat y0]? (rY (CTy.pair CTy.str (CTy.sl (178:Nat) acD)))).2
def jI(y0 y1:Int):Bool:=ltI y0 y1
def nC(y0:Int):Bool:=leI (0:Int) y0
def nD(y0:Int)(y7:List (ByteArray×(List (Int×(ByteArray×Int))))):Bool:=ltI y0 (↑y7.length:Int)
def nE(y0:Int)(y7:List (ByteArray×(List (Int×(ByteArray×Int))))):Bool:=ltN y0.toNat y7.length
def jJ(y0:Int)(y2 y3:ByteArray)(y4 y5 y6:List ByteArray)(y7:List (ByteArray×(List (Int×(ByteArray×Int))))):Bool:=fy y2 y3 y4 y5 y6 y7 (cJ y0 y7)
def jK(y0:Int)(y2 y3:ByteArray)(y4 y5 y6:List ByteArray)(y7:List (ByteArray×(List (Int×(ByteArray×Int))))):Bool:=dq y2 y3 y4 y5 y6 y7 (cJ y0 y7)
def sz(y0:Int):Int:=IntKind.wrap .i64 (y0 + (1:Int))
def Ku:bF→List (Nat×SV)
 |(y0,y1,y2,y3,_,_,_,_)=> [(8,(.one ⟨false,[.val (.int .i64 y0)]⟩)),(7,(.one ⟨false,[.val (.int .i64 y1)]⟩)),(1,(.one ⟨false,[.bnd 238 [(0,some (.string y2)),(0,none),(1,none),(2,none),(0,some (.string y3)),(3,none)]]⟩)),(0,(.one ⟨false,[.ref 3]⟩))]
def Kp:bF→List (Nat×Entry)
 |(_,_,_,_,y4,y5,y6,y7)=> [(0,(.row false 9 aih y4)),(1,(.row false 9 aih y5)),(2,(.row false 9 aih y6)),(3,(.row false 204 (CTy.pair CTy.str (CTy.sl (178:Nat) acD)) y7))]
def KF:Nat→bF→List (Nat×SV)
 |0,(y0,_,_,_,_,_,_,_)=> [(4,(.one ⟨false,[.val (.int .i64 y0)]⟩))]
 |_,(_,_,_,_,_,_,_,_)=> []
def KA:Nat→bF→List (Nat×Entry)
 |0,(_,_,_,_,y4,y5,y6,y7)=> [(0,(.row false 9 aih y4)),(1,(.row false 9 aih y5)),(2,(.row false 9 aih y6)),(3,(.row false 204 (CTy.pair CTy.str (CTy.sl (178:Nat) acD)) y7))]
 |_,(_,_,_,_,y4,y5,y6,y7)=> [(0,(.row false 9 aih y4)),(1,(.row false 9 aih y5)),(2,(.row false 9 aih y6)),(3,(.row false 204 (CTy.pair CTy.str (CTy.sl (178:Nat) acD)) y7))]
def jl:bF→LT bF
 |(y0,y1,y2,y3,y4,y5,y6,y7)=> .ite (jI y0 y1) (.need [nC y0,nD y0 y7,nE y0 y7,jJ y0 y2 y3 y4 y5 y6 y7] (.ite (jK y0 y2 y3 y4 y5 y6 y7) (.ext 0 [(0,0),(1,1),(2,2),(3,3)]) (.nrm ((sz y0),y1,y2,y3,y4,y5,y6,y7) [(0,0),(1,1),(2,2),(3,3)]))) (.ext 1 [(0,0),(1,1),(2,2),(3,3)])
def rA(s:St):Option bF:=
 (match s.look 8 with
 |some ⟨none,.one ⟨false,[.val (.int .i64 y0)]⟩⟩=>
 (match s.look 7 with
 |some ⟨none,.one ⟨false,[.val (.int .i64 y1)]⟩⟩=>
 (match s.look 1 with
 |some ⟨none,.one ⟨false,[.bnd 238 [(0,some (.string y2)),(1,none),(2,none),(3,none),(0,some (.string y3)),(0,none)]]⟩⟩=>
 (match s.look 0 with
 |some ⟨none,.one ⟨false,[.ref 0]⟩⟩=>
 (match s.ent 1 with
 |some (.row false 9 (.str) y4)=>
 (match s.ent 2 with
 |some (.row false 9 (.str) y5)=>
 (match s.ent 3 with
 |some (.row false 9 (.str) y6)=>
 (match s.ent 0 with
 |some (.row false 204 (.pair .str (.sl (178:Nat) (.pair (.int .i64) (.pair .str (.int .i64))))) y7)=>
 some (y0,y1,y2,y3,y4,y5,y6,y7)
 |_=>none)
 |_=>none)
 |_=>none)
 |_=>none)
 |_=>none)
 |_=>none)
 |_=>none)
 |_=>none)
def aC:Lp bF where
 h:=⟨[9,10,5,11,12,13,14,15,16,17,4,18,8],[0,1,2,3],[],[]⟩
 JL:=Ku
 JE:=Kp
 XL:=KF
 XE:=KA
 q:=fun j=>match j with | 0=> .ret | _=> .exit 0
 tags:= [0,1]
 lt:=jl
 fuel:=fun(y0,y1,y2,y3,y4,y5,y6,y7)=>y0.natAbs + y1.natAbs + y2.size + y3.size + y4.length + y5.length + y6.length + y7.length
 fix:=fun(_,y1,y2,y3,y4,y5,y6,y7) (y0,_,_,_,_,_,_,_)=>(y0,y1,y2,y3,y4,y5,y6,y7)
 σ:= [(0,1),(1,2),(2,3),(3,0)]
 rd:=rA
theorem Jh:LoopOk prog (fun k=>Nat.blt k Tryz.f262.ntmps) aC.F (aL f262 0):=by
 refine Lp.ok (tbl:= [cn,PF.lend cn,PF.fz cn]) (lf:= []) aN aC (by kernel_rfl) (LOk.nil _) (fun _=>rfl) (fun j _=>by unfold aC;match j with | 0=>rfl | _ + 1=>rfl) ?_ ?_ ?_ ?_ (fun _=>rfl) ?_
 ·rintro⟨y0,y1,y2,y3,y4,y5,y6,y7⟩;kernel_rfl
 ·rintro⟨y0,y1,y2,y3,y4,y5,y6,y7⟩;kernel_rfl
 ·intro s x h
  have h:rA s=some x:=h
  unfold rA at h
  repeat' split at h
  all_goals cases h
  exact⟨aa (by assumption) rfl (aa (by assumption) rfl (aa (by assumption) rfl (aa (by assumption) rfl (rfl)))),ab rfl (by assumption) rfl (ab rfl (by assumption) rfl (ab rfl (by assumption) rfl (ab rfl (by assumption) rfl (rfl))))⟩
 ·rintro⟨y0,y1,y2,y3,y4,y5,y6,y7⟩;kernel_rfl
 ·rintro⟨y0,y1,y2,y3,y4,y5,y6,y7⟩ z;exact(And.intro (And.intro trivial rfl) trivial)
section
variable (x0 x1:ByteArray)(x2:List (ByteArray×List (Int×ByteArray×Int)))(x3 x4 x5:List ByteArray)
def kv:Int×Int×ByteArray×ByteArray×List ByteArray×List ByteArray×List ByteArray×List (ByteArray×List (Int×ByteArray×Int)):=((0:Int),(↑x2.length:Int),x0,x1,x3,x4,x5,x2)
def uz:Int:=bif Nat.beq ((Lp.res aC (kv x0 x1 x2 x3 x4 x5)).1) (0:Nat)then ((Lp.res aC (kv x0 x1 x2 x3 x4 x5)).2).1else(-1:Int)
def uA:Bool:=allT [Lp.fin aC (kv x0 x1 x2 x3 x4 x5)]
end
def Ca:List SV→List Entry→Option Out
 | [.one ⟨false,[.ref 0]⟩,.one ⟨false,[.bnd 238 [(0,some (.string x0)),(1,none),(2,none),(3,none),(0,some (.string x1)),(0,none)]]⟩],[.row false 204 (.pair .str (.sl (178:Nat) (.pair (.int .i64) (.pair .str (.int .i64))))) x2,.row false 9 (.str) x3,.row false 9 (.str) x4,.row false 9 (.str) x5]=>some ⟨.one ⟨false,[.val (.int .i64 (uz x0 x1 x2 x3 x4 x5))]⟩,[.row false 204 (CTy.pair CTy.str (CTy.sl (178:Nat) acD)) x2,.row false 9 aih x3,.row false 9 aih x4,.row false 9 aih x5],[],[uA x0 x1 x2 x3 x4 x5]⟩
 |_,_=>none
def ur:PF prog:=PF.ofG prog [cn,PF.lend cn,PF.fz cn] [aC.F] aN 262 f262 func262 (LOk.fnT (l:= [aL f262 0]) (by kernel_rfl) (.cons Jh (.nil _))) Ca (by
 intro vs es r h;unfold Ca at h;split at h
 ·cases h;kernel_rfl
 ·cases h)
def nt(x0 x1:ByteArray)(x2:List (ByteArray×List (Int×ByteArray×Int)))(x3 x4 x5:List ByteArray):Bool:=leI (0:Int) (uz x0 x1 x2 x3 x4 x5)
def nu(x0 x1:ByteArray)(x2:List (ByteArray×List (Int×ByteArray×Int)))(x3 x4 x5:List ByteArray):Bool:=allT [uA x0 x1 x2 x3 x4 x5]
def zK:List SV→List Entry→Option Out
 | [.one ⟨false,[.ref 0]⟩,.one ⟨false,[.bnd 238 [(0,some (.string x0)),(1,none),(2,none),(3,none),(0,some (.string x1)),(0,none)]]⟩],[.row false 204 (.pair .str (.sl (178:Nat) (.pair (.int .i64) (.pair .str (.int .i64))))) x2,.row false 9 (.str) x3,.row false 9 (.str) x4,.row false 9 (.str) x5]=>some ⟨.one ⟨false,[.val (.bool (nt x0 x1 x2 x3 x4 x5))]⟩,[.row false 204 (CTy.pair CTy.str (CTy.sl (178:Nat) acD)) x2,.row false 9 aih x3,.row false 9 aih x4,.row false 9 aih x5],[],[nu x0 x1 x2 x3 x4 x5]⟩
 |_,_=>none
def fY:PF prog:=PF.ofG prog [ur,PF.lend ur,PF.fz ur] [] aN 229 f229 func229 (fun c _=>LOk.nil c) zK (by
 intro vs es r h;unfold zK at h;split at h
 ·cases h;kernel_rfl
 ·cases h)
abbrev aY:=Int×Int×List (ByteArray×(List (Int×(ByteArray×Int))))×List ByteArray
def bp(y0:Int)(y2:List (ByteArray×(List (Int×(ByteArray×Int))))):List ByteArray:= [(Option.getD y2[Int.toNat y0]? (rY (CTy.pair CTy.str (CTy.sl (178:Nat) acD)))).1]
def fD(y0 y1:Int):Bool:=ltI y0 y1
def fE(y0:Int):Bool:=leI (0:Int) y0
def fF(y0:Int)(y2:List (ByteArray×(List (Int×(ByteArray×Int))))):Bool:=ltI y0 (↑y2.length:Int)
def fG(y0:Int)(y2:List (ByteArray×(List (Int×(ByteArray×Int))))):Bool:=ltN y0.toNat y2.length
def fH(y0:Int)(y2:List (ByteArray×(List (Int×(ByteArray×Int)))))(y3:List ByteArray):Bool:=leN (List.length y3 + List.length (bp y0 y2)) (9223372036854775807:Nat)
def fI(y0:Int)(y2:List (ByteArray×(List (Int×(ByteArray×Int)))))(y3:List ByteArray):Bool:=leN ((List.length y3 + List.length (bp y0 y2)) * (16:Nat)) (140737488355328:Nat)
def fJ(y0:Int):Int:=IntKind.wrap .i64 (y0 + (1:Int))
def fK(y0:Int)(y2:List (ByteArray×(List (Int×(ByteArray×Int)))))(y3:List ByteArray):List ByteArray:=y3++bp y0 y2
def Gh:aY→List (Nat×SV)
 |(y0,y1,_,_)=> [(10,(.one ⟨false,[.val (.int .i64 y0)]⟩)),(9,(.one ⟨false,[.val (.int .i64 y1)]⟩)),(8,(.one ⟨false,[.ref 0]⟩)),(3,(.one ⟨false,[.ptr 1 0]⟩))]
def Gg:aY→List (Nat×Entry)
 |(_,_,y2,y3)=> [(0,(.row false 204 (CTy.pair CTy.str (CTy.sl (178:Nat) acD)) y2)),(1,(.box 60 [.ref 2])),(2,(.row true 9 aih y3))]
def Gk:Nat→aY→List (Nat×SV)
 |_,(_,_,_,_)=> []
def Gj:Nat→aY→List (Nat×Entry)
 |_,(_,_,y2,y3)=> [(0,(.row false 204 (CTy.pair CTy.str (CTy.sl (178:Nat) acD)) y2)),(1,(.box 60 [.ref 2])),(2,(.row true 9 aih y3))]
def fw:aY→LT aY
 |(y0,y1,y2,y3)=> .ite (fD y0 y1) (.need [fE y0,fF y0 y2,fG y0 y2] (.need [fH y0 y2 y3,fI y0 y2 y3] (.nrm ((fJ y0),y1,y2,(fK y0 y2 y3)) [(0,0),(1,1),(2,640)]))) (.ext 0 [(0,0),(1,1),(2,2)])
def oH(s:St):Option aY:=
 (match s.look 10 with
 |some ⟨none,.one ⟨false,[.val (.int .i64 y0)]⟩⟩=>
 (match s.look 9 with
 |some ⟨none,.one ⟨false,[.val (.int .i64 y1)]⟩⟩=>
 (match s.look 8 with
 |some ⟨none,.one ⟨false,[.ref 3]⟩⟩=>
 (match s.look 3 with
 |some ⟨none,.one ⟨false,[.ptr 448 0]⟩⟩=>
 (match s.ent 3 with
 |some (.row false 204 (.pair .str (.sl (178:Nat) (.pair (.int .i64) (.pair .str (.int .i64))))) y2)=>
 (match s.ent 448 with
 |some (.box 60 [.ref 449])=>
 (match s.ent 449 with
 |some (.row true 9 (.str) y3)=>
 some (y0,y1,y2,y3)
 |_=>none)
 |_=>none)
 |_=>none)
 |_=>none)
 |_=>none)
 |_=>none)
 |_=>none)
def aj:Lp aY where
 h:=⟨[11,12,13,5,14,15,16,17,18,19,10],[0,1],[2],[]⟩
 JL:=Gh
 JE:=Gg
 XL:=Gk
 XE:=Gj
 q:=fun j=>match j with | _=> .exit 0
 tags:= [0]
 lt:=fw
 fuel:=fun(y0,y1,y2,y3)=>y0.natAbs + y1.natAbs + y2.length + y3.length
 fix:=fun(_,y1,y2,_) (y0,_,_,y3)=>(y0,y1,y2,y3)
 σ:= [(0,3),(1,448),(2,449)]
 rd:=oH
theorem Fu:LoopOk prog (fun k=>Nat.blt k Tryz.f184.ntmps) aj.F (aL f184 0):=by
 refine Lp.ok (tbl:= [ci,PF.lend ci,PF.fz ci,DR,PF.lend DR,PF.fz DR,eF,PF.lend eF,PF.fz eF,aF,PF.lend aF,PF.fz aF,dd,PF.lend dd,PF.fz dd,dQ,PF.lend dQ,PF.fz dQ,dR,PF.lend dR,PF.fz dR,fY,PF.lend fY,PF.fz fY]) (lf:= []) aN aj (by kernel_rfl) (LOk.nil _) (fun _=>rfl) (fun _ _=>rfl) ?_ ?_ ?_ ?_ (fun _=>rfl) ?_
 ·rintro⟨y0,y1,y2,y3⟩;kernel_rfl
 ·rintro⟨y0,y1,y2,y3⟩;kernel_rfl
 ·intro s x h
  have h:oH s=some x:=h
  unfold oH at h
  repeat' split at h
  all_goals cases h
  exact⟨aa (by assumption) rfl (aa (by assumption) rfl (aa (by assumption) rfl (aa (by assumption) rfl (rfl)))),ab rfl (by assumption) rfl (ab rfl (by assumption) rfl (ab rfl (by assumption) rfl (rfl)))⟩
 ·rintro⟨y0,y1,y2,y3⟩;kernel_rfl
 ·rintro⟨y0,y1,y2,y3⟩ z;exact(And.intro rfl trivial)
def kQ(x1:ByteArray):Bool:=
 !ByteArray.toList x1==ByteArray.toList { data:= #[] }
section
variable (x0 x1:ByteArray)(x2 x3 x4:List ByteArray)(x5:List (ByteArray×List (Int×ByteArray×Int)))
def dM:Bool:=bif bif kQ x1 then !mw x2 x1 else false then !mw x3 x1 else false
def kR:Int×Int×List (ByteArray×List (Int×ByteArray×Int))×List ByteArray:=((0:Int),(↑x5.length:Int),x5,[])
def al:List ByteArray:=(Lp.res aj (kR x5)).2.2.2.2
def am:List ByteArray:=List.flatten [x3,x4]
def kT:Bool:=kW (kU (al x5) (am x3 x4)) (cj (al x5) (am x3 x4))
def lp:Int:=bif rU (aX x2 x3 x4)then(1:Int)else bif dM x1 x2 x3 then(2:Int)else bif cX (al x5) (am x3 x4)then(3:Int)else bif rU (cj (al x5) (am x3 x4))then(4:Int)else bif kT x3 x4 x5 then(5:Int)else bif nt x0 x1 x5 x2 x3 x4 then(6:Int)else(0:Int)
def lq:Bool:=allT [Lp.fin aj (kR x5),leN (List.length [x3,x4]) (1000:Nat)&&leN (IJ [x3,x4]) (2000000:Nat),lr x2 x3 x4,leN (List.length (aX x2 x3 x4)) (9223372036854775807:Nat),rU (aX x2 x3 x4)||(!(kQ x1&&true)||leN x2.length (9223372036854775807:Nat)),rU (aX x2 x3 x4)||(!((bif kQ x1 then !mw x2 x1 else false)&&true)||leN x3.length (9223372036854775807:Nat)),rU (aX x2 x3 x4)||(dM x1 x2 x3||kV (al x5) (am x3 x4)),rU (aX x2 x3 x4)||(dM x1 x2 x3||(cX (al x5) (am x3 x4)||leN (List.length (cj (al x5) (am x3 x4))) (9223372036854775807:Nat))),rU (aX x2 x3 x4)||(dM x1 x2 x3||(cX (al x5) (am x3 x4)||(rU (cj (al x5) (am x3 x4))||kX (kU (al x5) (am x3 x4)) (cj (al x5) (am x3 x4))))),rU (aX x2 x3 x4)||(dM x1 x2 x3||(cX (al x5) (am x3 x4)||(rU (cj (al x5) (am x3 x4))||(kT x3 x4 x5||nu x0 x1 x5 x2 x3 x4))))]
end
def xf:List SV→List Entry→Option Out
 | [.one ⟨true,[.val (.string x0),.ref 0,.ref 1,.ref 2,.val (.string x1),.ref 3]⟩],[.row false 9 (.str) x2,.row false 9 (.str) x3,.row false 9 (.str) x4,.row false 204 (.pair (.str) (.sl 178 (.pair (.int .i64) (.pair (.str) (.int .i64))))) x5]=>some ⟨.one ⟨false,[.val (.int .i64 (lp x0 x1 x2 x3 x4 x5))]⟩,[.row false 9 aih x2,.row false 9 aih x3,.row false 9 aih x4,.row false 204 (CTy.pair CTy.str (CTy.sl (178:TypeId) acD)) x5],[],[lq x0 x1 x2 x3 x4 x5]⟩
 |_,_=>none
def qq:PF prog:=PF.ofG prog [ci,PF.lend ci,PF.fz ci,DR,PF.lend DR,PF.fz DR,eF,PF.lend eF,PF.fz eF,aF,PF.lend aF,PF.fz aF,dd,PF.lend dd,PF.fz dd,dQ,PF.lend dQ,PF.fz dQ,dR,PF.lend dR,PF.fz dR,fY,PF.lend fY,PF.fz fY] [aj.F] aN 184 f184 func184 (LOk.fnT (l:= [aL f184 0]) (by kernel_rfl) (.cons Fu (.nil _))) xf (by
 intro vs es r h;unfold xf at h;split at h
 ·cases h;kernel_rfl
 ·cases h)
def TC(x0 x1:ByteArray)(x2 x3 x4:List ByteArray)(x5:List (ByteArray×List (Int×ByteArray×Int))):Bool:=bif Gr x0 x1 x2 x3 x4 x5 then lp x0 x1 x2 x3 x4 x5==(0:Int)else false
def TD(x0 x1:ByteArray)(x2 x3 x4:List ByteArray)(x5:List (ByteArray×List (Int×ByteArray×Int))):Bool:=allT [Lo x0 x1 x2 x3 x4 x5,!(Gr x0 x1 x2 x3 x4 x5&&true)||lq x0 x1 x2 x3 x4 x5]
def ZL:List SV→List Entry→Option Out
 | [.one ⟨true,[.val (.string x0),.ref 0,.ref 1,.ref 2,.val (.string x1),.ref 3]⟩],[.row false 9 (.str) x2,.row false 9 (.str) x3,.row false 9 (.str) x4,.row false 204 (.pair (.str) (.sl 178 (.pair (.int .i64) (.pair (.str) (.int .i64))))) x5]=>some ⟨.one ⟨false,[.val (.bool (TC x0 x1 x2 x3 x4 x5))]⟩,[.row false 9 aih x2,.row false 9 aih x3,.row false 9 aih x4,.row false 204 (CTy.pair CTy.str (CTy.sl (178:TypeId) acD)) x5],[],[TD x0 x1 x2 x3 x4 x5]⟩
 |_,_=>none
def ajy:PF prog:=PF.ofG prog [Rg,PF.lend Rg,PF.fz Rg,qq,PF.lend qq,PF.fz qq] [] aN 115 f115 func115 (fun c _=>LOk.nil c) ZL (by
 intro vs es r h;unfold ZL at h;split at h
 ·cases h;kernel_rfl
 ·cases h)
theorem amD{ins vs os:List ByteArray}(h1:QE ins=true)(h2:QE vs=true)(h3:QE os=true):
  leN ins.length 9223372036854775807=true∧leN vs.length 9223372036854775807=true∧leN os.length 9223372036854775807=true:=by
 simp only [QE,Bool.and_eq_true]at h1 h2 h3
 exact⟨h1.1,h2.1,h3.1⟩
def prOk(nm:ByteArray)(ins vs os:List ByteArray)(g:ByteArray)(ls:List LN):Bool:=leN nm.size 9223372036854775807&&(QE ins&&(QE vs&&(QE os&&(leN g.size 9223372036854775807&&(leN (ins.length + vs.length + os.length) 2000000&&YT ls)))))
theorem RQ{nm:ByteArray}{ins vs os:List ByteArray}{g:ByteArray}{ls:List LN}:prOk nm ins vs os g ls=true↔
  nm.size≤9223372036854775807∧QE ins=true∧QE vs=true∧QE os=true∧g.size≤9223372036854775807∧ins.length + vs.length + os.length≤2000000∧YT ls=true:=by
 simp only [prOk,Bool.and_eq_true,fX]
def td(b:ByteArray×(List (Int×(ByteArray×Int)))):(Unit)→Nat ⊕ (Unit)
 |_=>(bif(bif(!mH b.1)then true else !afO (bif !(!mH b.1)&&true then b.2else []))then(.inl 0)else(.inr ()))
def rT(y1 y2:ByteArray)(y3 y4 y5:List ByteArray)(y6:List (ByteArray×(List (Int×(ByteArray×Int)))))(i:Nat):(Unit)→lR
 |_=>((i:Int),y1,y2,y3,y4,y5,y6)
def KY:lR→Unit
 |(_,_,_,_,_,_,_)=>()
theorem acS(y1 y2:ByteArray)(y3 y4 y5:List ByteArray)(y6:List (ByteArray×(List (Int×(ByteArray×Int))))) (hn:y6.length≤9223372036854775807) (hA: ∀ l∈y6,l.1.size≤9223372036854775807∧SQ l.2=true):
  ey.fin ((0:Int),y1,y2,y3,y4,y5,y6)=true∧ey.res ((0:Int),y1,y2,y3,y4,y5,y6)=((af (td) 1 y6 0 ()).1,(rT y1 y2 y3 y4 y5 y6) (af (td) 1 y6 0 ()).2.1 (af (td) 1 y6 0 ()).2.2):=by
 have jb:=ey.along (rT y1 y2 y3 y4 y5 y6) KY (td) 1 (fun _ _=>True) y6 () (by trivial) (by simp only [ey,rT];omega) (fun i b a hb hI=> ?_) (fun a hI=> ?_)
 ·exact jb
 ·obtain⟨⟩:=a
  have eB:=(List.getElem?_eq_some_iff.1 hb).1
  have il: ∀ d,Option.getD y6[i]? d=b:=fun d=>by rw [hb];rfl
  have hw:=tZ eB hn
  have bM:ltI (i:Int) (y6.length:Int)=true:=dO (by omega)
  have vC:leI (0:Int) (i:Int)=true:=bw (by omega)
  have gI:ltN i y6.length=true:=fQ eB
  refine⟨?_,?_,?_,?_⟩
  ·have hg2:mG (i:Int) y6=b:=by simp only [mG,Int.toNat_natCast];exact il _
   have hm:=hA b (List.mem_of_getElem? hb)
   obtain⟨q1,q2⟩:=OR b.1 hm.1
   have e0:vk (i:Int) y6=true:=bM
   have e1:vl (i:Int) y6=true:=by simp only [vl,Int.toNat_natCast];exact gI
   have e3:jn (i:Int) y6= !mM b.1:=by simp only [jn,hg2,q1]
   have e4:rJ (i:Int) y6=bif mM b.1 then b.2 else []:=by simp only [rJ,e3,hg2];cases mM b.1 <;> rfl
   have h7:SQ b.2=true:=hm.2
   have h8:SQ []=true:=rfl
   simp only [wO,FW,FX,FY,FZ,Ga,Gb,Gc,BB,Gd,ze,ey,LT.nds,allT,rT,e0,e1,e3,e4,hg2,q2,vC,cond_true,Bool.or_true]
   cases mM b.1 <;> simp [LT.nds,h7,h8]
  ·simp [vk,vl,mG,jn,rJ,wO,FW,FX,FY,FZ,Ga,Gb,Gc,BB,Gd,ze,ey,LT.each,rT,KY,hw]
  ·have hg2:mG (i:Int) y6=b:=by simp only [mG,Int.toNat_natCast];exact il _
   have e0:vk (i:Int) y6=true:=bM
   simp only [ey,ze,wO,BB,jn,rJ,LT.fn,rT,KY,td,e0,hg2,cond_true]
  ·exact fun _ _=>trivial
 ·obtain⟨⟩:=a
  simp [vk,vl,mG,jn,rJ,wO,FW,FX,FY,FZ,Ga,Gb,Gc,BB,Gd,ze,ey,LT.out,rT]
theorem ajR(nm:ByteArray)(ins vs os:List ByteArray)(g:ByteArray)(ls:List LN)(h:prOk nm ins vs os g ls=true):
  GN nm g ins vs os ls=aie nm ins vs os g ls∧LW nm g ins vs os ls=true:=by
 obtain⟨h1,h2,h3,h4,h5,h6,h7⟩:=RQ.1 h
 obtain⟨hn,hA⟩:=OM.1 h7
 obtain⟨w1,w2⟩:=acS nm g ins vs os ls (by omega) hA
 have e0:(af td 1 ls 0 ())=(af (fun(k:LN) (_:Unit)=>bif !lineB k then(.inl 0:Nat ⊕ Unit)else .inr ()) 1 ls 0 ()):=by
  refine Vv fun b hb a=> ?_
  simp only [td,(OR b.1 (hA b hb).1).1,lineB]
  cases mM b.1 <;> simp
 rw [e0,iH (P:=fun k=> !lineB k) (j:=0) (fun k=>rfl)]at w2
 have e5:(ls.any fun k=> !lineB k)= !ls.all lineB:=by simp [List.all_eq_not_any_not]
 rw [e5]at w2
 obtain⟨q1,q2⟩:=OR nm h1
 obtain⟨q3,q4⟩:=OR g h5
 have c1:inR (ins.length:Int) 1 20=inR (ins.length:Int) ((1:Nat):Int) 20:=rfl
 have c0:inR (vs.length:Int) 0 20=inR (vs.length:Int) ((0:Nat):Int) 20:=rfl
 have c2:inR (os.length:Int) 1 20=inR (os.length:Int) ((1:Nat):Int) 20:=rfl
 refine⟨?_,?_⟩
 ·simp only [GN,PW,PX,PY,PZ,Qa,Ke,w2,q1,q3,bx,VP,OP,aie,ag2,c0,c1,c2]
  generalize mM nm=p1
  generalize ins.all mM=p2
  generalize inR (ins.length:Int) ((1:Nat):Int) 20=p3
  generalize vs.all mM=p4
  generalize inR (vs.length:Int) ((0:Nat):Int) 20=p5
  generalize os.all mM=p6
  generalize inR (os.length:Int) ((1:Nat):Int) 20=p7
  generalize (g.toList== [])=p8
  generalize mM g=p9
  generalize ls.all lineB=p10
  generalize inR (ls.length:Int) 1 40=p11
  cases p1 <;> cases p2 <;> cases p3 <;> simp <;> cases p4 <;> cases p5 <;> simp <;> cases p6 <;> cases p7 <;> simp <;> cases p8 <;> cases p9 <;> simp <;> cases p10 <;> simp [Nat.beq]
 ·simp only [LW,Ke,w1,q2,q4,h2,h3,h4,allT,Bool.or_true,cond_true]
theorem Qw:(∀ m:Nat,leI 0 (m:Int)=true)∧leI 0 (-1)=false:=⟨fun m=>bw (by omega),rfl⟩
theorem Vb{α:Type}(l:List α)(p:α→Bool):(l.any fun k=> !p k)= !l.all p:=by simp [List.all_eq_not_any_not]
def fT(b:ByteArray×(List (Int×(ByteArray×Int)))):(Unit)→Nat ⊕ (Unit)
 |_=>(bif(cv b.2)then(.inl 0)else(.inr ()))
def cK(y2:List (ByteArray×(List (Int×(ByteArray×Int)))))(i:Nat):(Unit)→bD
 |_=>((i:Int),(↑y2.length:Int),y2)
def rt:bD→Unit
 |(_,_,_)=>()
theorem Mb(y2:List (ByteArray×(List (Int×(ByteArray×Int))))) (hn:y2.length≤9223372036854775807):
  aA.fin ((0:Int),(↑y2.length:Int),y2)=true∧aA.res ((0:Int),(↑y2.length:Int),y2)=((af (fT) 1 y2 0 ()).1,(cK y2) (af (fT) 1 y2 0 ()).2.1 (af (fT) 1 y2 0 ()).2.2):=by
 have jb:=aA.along (cK y2) rt (fT) 1 (fun _ _=>True) y2 () (by trivial) (by simp only [aA,cK];omega) (fun i b a hb hI=> ?_) (fun a hI=> ?_)
 ·exact jb
 ·obtain⟨⟩:=a
  have eB:=(List.getElem?_eq_some_iff.1 hb).1
  have il: ∀ d,Option.getD y2[i]? d=b:=fun d=>by rw [hb];rfl
  have hw:=tZ eB hn
  have bM:ltI (i:Int) (y2.length:Int)=true:=dO (by omega)
  have vC:leI (0:Int) (i:Int)=true:=bw (by omega)
  have gI:ltN i y2.length=true:=fQ eB
  refine⟨?_,?_,?_,?_⟩
  ·simp only [jE,nv,nx,ny,jj,aA,LT.nds,allT,cK,bM,vC,gI,Int.toNat_natCast,cond_true,Bool.and_self]
   cases fZ (i:Int) y2 <;> simp [LT.nds]
  ·simp [jE,nv,nx,ny,fZ,sx,jj,aA,LT.each,cK,rt,hw]
  ·have hg2:fZ (i:Int) y2=cv b.2:=by
    simp only [fZ,Int.toNat_natCast];exact congrArg (fun z:LN=>cv z.2) (il _)
   simp only [jE,jj,aA,LT.fn,cK,rt,fT,bM,hg2,cond_true]
  ·exact fun _ _=>trivial
 ·obtain⟨⟩:=a
  simp [jE,nv,nx,ny,fZ,sx,jj,aA,LT.out,cK]
theorem aql(ins vs os:List ByteArray)(ls:List LN)(hn:ls.length≤1048576):
  km ins vs os ls=(leN ins.length 20&&(leN vs.length 20&&(leN os.length 20&&(leN ls.length 40&&ls.all fun l=>leN l.2.length 40))))∧kn ins vs os ls=true:=by
 obtain⟨w1,w2⟩:=Mb ls (by omega)
 have hc: ∀ (k:Nat) (m:Nat),leI (m:Int) (k:Int)=leN m k:=fun k m=>by rw [Bool.eq_iff_iff,EV,fX];omega
 have hc20: ∀ m:Nat,leI (m:Int) 20=leN m 20:=fun m=>hc 20 m
 have hc40: ∀ m:Nat,leI (m:Int) 40=leN m 40:=fun m=>hc 40 m
 rw [iH (P:=fun k=> !leN k.2.length 40) (j:=0) (fun k=>by
  simp only [fT,cv]
  have:ltI 40 (k.2.length:Int)= !leN k.2.length 40:=by rw [Vi,hc40]
  rw [this]),Vb]at w2
 simp only [km,kn,oU,sr,su,uv,uw,oQ,w1,w2,allT,cK,hc20,hc40,Bool.or_true,cond_true]
 refine⟨?_,trivial⟩
 generalize (ls.all fun k=>leN k.2.length 40)=q
 cases leN ins.length 20 <;> cases leN vs.length 20 <;> cases leN os.length 20 <;> cases leN ls.length 40 <;> cases q <;> simp [Nat.beq,Qw.1,Qw.2]
def fU(b:ByteArray×(List (Int×(ByteArray×Int)))):(Unit)→Nat ⊕ (Unit)
 |_=>(bif(yz b.1 b.2)then(.inl 0)else(.inr ()))
def cL(y2:List (ByteArray×(List (Int×(ByteArray×Int)))))(i:Nat):(Unit)→bE
 |_=>((i:Int),(↑y2.length:Int),y2)
def ru:bE→Unit
 |(_,_,_)=>()
theorem Mc(y2:List (ByteArray×(List (Int×(ByteArray×Int))))) (hn:y2.length≤9223372036854775807) (hA: ∀ l∈y2,SQ l.2=true):
  aB.fin ((0:Int),(↑y2.length:Int),y2)=true∧aB.res ((0:Int),(↑y2.length:Int),y2)=((af (fU) 1 y2 0 ()).1,(cL y2) (af (fU) 1 y2 0 ()).2.1 (af (fU) 1 y2 0 ()).2.2):=by
 have jb:=aB.along (cL y2) ru (fU) 1 (fun _ _=>True) y2 () (by trivial) (by simp only [aB,cL];omega) (fun i b a hb hI=> ?_) (fun a hI=> ?_)
 ·exact jb
 ·obtain⟨⟩:=a
  have eB:=(List.getElem?_eq_some_iff.1 hb).1
  have il: ∀ d,Option.getD y2[i]? d=b:=fun d=>by rw [hb];rfl
  have hw:=tZ eB hn
  have bM:ltI (i:Int) (y2.length:Int)=true:=dO (by omega)
  have vC:leI (0:Int) (i:Int)=true:=bw (by omega)
  have gI:ltN i y2.length=true:=fQ eB
  refine⟨?_,?_,?_,?_⟩
  ·have hg2:bZ (i:Int) y2=b:=by simp only [bZ,Int.toNat_natCast];exact il _
   have hm:=hA b (List.mem_of_getElem? hb)
   have h4:jG (i:Int) y2=true:=by simp only [jG,hg2,Fr,hm,allT,cond_true]
   simp only [jF,nz,nA,nB,jk,aB,LT.nds,allT,cL,h4,bM,vC,gI,Int.toNat_natCast,cond_true,Bool.and_self]
   cases jH (i:Int) y2 <;> simp [LT.nds]
  ·simp [bZ,jF,nz,nA,nB,jG,jH,sy,jk,aB,LT.each,cL,ru,hw]
  ·have hg2:bZ (i:Int) y2=b:=by simp only [bZ,Int.toNat_natCast];exact il _
   simp only [jF,jH,jk,aB,LT.fn,cL,ru,fU,bM,hg2,cond_true]
  ·exact fun _ _=>trivial
 ·obtain⟨⟩:=a
  simp [bZ,jF,nz,nA,nB,jG,jH,sy,jk,aB,LT.out,cL]
theorem ajf(nm:ByteArray)(ins vs os:List ByteArray)(g:ByteArray)(ls:List LN)(h:prOk nm ins vs os g ls=true):
  Gr nm g ins vs os ls=aie nm ins vs os g ls∧Lo nm g ins vs os ls=true:=by
 obtain⟨h1,h2,h3,h4,h5,h6,h7⟩:=RQ.1 h
 obtain⟨hn,hA⟩:=OM.1 h7
 obtain⟨w1,w2⟩:=Mc ls (by omega) (fun l hl=>(hA l hl).2)
 rw [iH (P:=fun k=> !lineB k) (j:=0) (fun k=>by simp only [fU,yz]),Vb]at w2
 obtain⟨s1,s2⟩:=aql ins vs os ls hn
 have t1:IJ [ins,vs,os]≤2000000:=by simp [IJ];omega
 have t2: [ins,vs,os].flatten.length≤2000000:=by simp;omega
 have hfl: [ins,vs,os].flatten.all mM=(ins.all mM&&(vs.all mM&&os.all mM)):=by simp [List.all_append,Bool.and_assoc]
 have hcont:nq ls= !ls.all lineB∧nr ls=true:=by
  simp only [nq,nr,ux,uy,oR,w1,w2,allT,cL]
  cases ls.all lineB <;> simp [Nat.beq,Qw.1,Qw.2]
 refine⟨?_,?_⟩
 ·have hz: ∀ m k:Nat,inR (m:Int) 1 (k:Int)=(ltI 0 (m:Int)&&leN m k):=fun m k=>by
   rw [Bool.eq_iff_iff,FL,Bool.and_eq_true,aiF,fX];omega
  have hz0: ∀ m k:Nat,inR (m:Int) ((0:Nat):Int) (k:Int)=leN m k:=fun m k=>by
   rw [Bool.eq_iff_iff,FL,fX];omega
  have c1:inR (ins.length:Int) ((1:Nat):Int) 20=(ltI 0 (ins.length:Int)&&leN ins.length 20):=hz _ 20
  have c2:inR (os.length:Int) ((1:Nat):Int) 20=(ltI 0 (os.length:Int)&&leN os.length 20):=hz _ 20
  have c3:inR (ls.length:Int) 1 40=(ltI 0 (ls.length:Int)&&leN ls.length 40):=hz _ 40
  have c4:inR (vs.length:Int) ((0:Nat):Int) 20=leN vs.length 20:=hz0 _ 20
  have hl40:ls.all lineB=true→(ls.all fun l=>leN l.2.length 40)=true:=fun hl=>by
   rw [List.all_eq_true]at hl ⊢
   intro l hm
   exact dv (abO (hl l hm)).2.1
  simp only [Gr,Ef,JB,Pt,Pu,Vh,s1,hcont.1,OP,aie,ag2,c1,c2,c3,c4]
  cases hq:ls.all lineB with
  |false=>simp
  |true=>
   rw [hl40 hq]
   cases mM nm with
   |false=>simp
   |true=>
    simp only [Bool.and_true,cond_true,hfl]
    generalize ins.all mM=p2
    generalize vs.all mM=p4
    generalize os.all mM=p6
    generalize (g.toList== [])=p8
    generalize mM g=p9
    generalize ltI 0 (ins.length:Int)=r1
    generalize ltI 0 (os.length:Int)=r2
    generalize ltI 0 (ls.length:Int)=r3
    generalize leN ins.length 20=r4
    generalize leN vs.length 20=r5
    generalize leN os.length 20=r6
    generalize leN ls.length 40=r7
    cases p2 <;> simp <;> cases p4 <;> simp <;> cases p6 <;> simp <;> cases r1 <;> simp <;> cases r2 <;> simp <;> cases r3 <;> simp <;> cases r4 <;> simp <;> cases r5 <;> simp <;> cases r6 <;> simp <;> cases r7 <;> simp <;> cases p8 <;> simp
 ·simp only [Lo,Ef,JB,s2,hcont.2,Vh,allT,Bool.or_true,cond_true]
  cases mM nm with
  |false=>simp
  |true=>
   have t4:leN [ins,vs,os].flatten.length 9223372036854775807=true:=dv (by omega)
   have t5:leN (IJ [ins,vs,os]) 2000000=true:=dv t1
   have t6:leN [ins,vs,os].length 1000=true:=rfl
   simp only [Bool.and_true,cond_true,t4,t5,t6,Bool.and_self,Bool.or_true]
end Go.SX
